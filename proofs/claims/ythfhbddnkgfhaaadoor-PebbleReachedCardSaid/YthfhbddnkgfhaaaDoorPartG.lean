/- Part 7 of the proof: Contracts of the program's functions. -/
import Derived.Test.YthfhbddnkgfhaaaDoorPartF
import Derived.Test.YthfhbddnkgfhaaaDoorPartE
import Derived.Test.YthfhbddnkgfhaaaDoorRows
import Derived.ProofKit
import Derived.LaidMore
import Derived.LaidHandle
import Derived.OpenShut
import Derived.Stop.Joined
import Derived.Below
import Derived.Carry
set_option linter.unusedVariables false
set_option linter.unusedSimpArgs false
/-! ### S3 -/
namespace Go.AM
open Go.Proofs
set_option maxRecDepth 100000
set_option linter.unusedVariables false
set_option linter.unusedSimpArgs false
theorem B113 {q : Option Addr} {n c : Nat} {a : Int} : aBuild Tryd.prog 113 [(0, .slice q n c), (2, .int .u32 a)] = some (.agg #[.slice q n c, nv 0, .int .u32 a]) := by kernel_rfl
theorem eq63 {q : Option Addr} {n c : Nat} : aBin Tryd.prog .eql 63 (.slice q n c) (.slice none 0 0) = some (.bool (decide (q = none))) := by
  cases q <;> kernel_rfl
theorem U111 : undOf Tryd.prog 111 = some (.int .u32) := by kernel_rfl
theorem U5 : undOf Tryd.prog 5 = some (.int .u8) := by kernel_rfl
theorem conv5_111 {a : Int} : ∃ z : Nat, z < 4294967296 ∧ aConv Tryd.prog 5 111 (.int .u8 a) = some (.int .u32 (Int.ofNat z)) := by
  obtain ⟨z, hz, e⟩ := wrap32 a
  exact ⟨z, hz, by simp only [aConv, U5, U111, e]⟩
theorem conv111_3 {a : Nat} (h : a < 4294967296) : aConv Tryd.prog 111 3 (.int .u32 (Int.ofNat a)) = some (nv a) := by
  simp only [aConv, U111, U3]
  rw [wrapN (by omega)]
theorem cut_bytes {m : Mem} {v : Value} {l : List Int} {k : Nat} (h : BytesAt m v l) (hk : k ≤ l.length) : ∃ v2, aSlice Tryd.prog m 63 v none (some (nv k)) none = some v2 ∧ BytesAt m v2 (l.take k) := by
  rcases h with ⟨rfl, rfl | ⟨b, o, rfl⟩⟩ | ⟨b, o, cap, r, c, rfl, h1, h2, h3⟩
  · obtain rfl : k = 0 := by simpa using hk
    exact ⟨.slice none 0 0, by simp only [aSlice, T63, S5, aBounds]; rfl, .inl ⟨rfl, .inl rfl⟩⟩
  · obtain rfl : k = 0 := by simpa using hk
    exact ⟨.slice (some ⟨0, 0, none⟩) 0 0, by simp only [aSlice, T63, S5, aBounds]; rfl, .inl ⟨rfl, .inr ⟨_, _, rfl⟩⟩⟩
  · refine ⟨_, aSlice_hi T63 S5 (by omega), .inr ⟨b, o, cap, r, c, by rw [List.length_take, Nat.min_eq_left hk], by rw [List.length_take]; omega, h2, fun i x hx => ?_⟩⟩
    rw [List.getElem?_take] at hx
    split at hx
    · exact h3 i x hx
    · cases hx
theorem app_bytes {m : Mem} {v : Value} {l : List Int} (h : BytesAt (m.push (.cells true #[])) v l) (hl : l.length ≤ 1000) :
    ∃ v' m', aAppend Tryd.prog (m.push (.cells true #[])) 63 63 (.slice (some ⟨m.size, 0, some 1⟩) 0 0) v = some (v', m') ∧ BytesIn m.size m'.size m' v' l ∧ Ext m m' := by
  have hb : bytesOf' Tryd.prog 5 = some 1 := by kernel_rfl
  obtain ⟨q, cap, rfl⟩ := h.len
  have hal : aLenOf (.slice q l.length cap) = some l.length := rfl
  have h35 : isIntT (.slice 5) = false := rfl
  have hz : (Value.int .u8 0).cells.size = 1 := rfl
  have hg : Mem.get (m.push (.cells true #[])) m.size = .cells true #[] := gP rfl
  unfold aAppend
  simp only [T63, S5, Z5, hb, h35, hal, first_bytes h]
  rw [if_pos ⟨by omega, hz, by rw [cellsU_size]; omega, cellsU_one l⟩]
  simp only [if_true]
  by_cases h0 : l.length = 0
  · simp only [h0, if_true]
    exact ⟨_, _, rfl, .inl ⟨List.length_eq_zero_iff.1 h0, _, _, rfl⟩, .push _ _⟩
  · simp only [if_neg h0, hg]
    rw [if_neg (by omega), if_pos ⟨trivial, by simp, by omega, by omega⟩]
    refine ⟨_, _, rfl, .inr ⟨m.size + 1, 0, l.length, true, _, by simp, by omega, by simp, gP (by simp), fun i x hx => ?_⟩, by simp; omega, fun b hb => ?_⟩
    · have : (cellsU l)[i]? = some (.int .u8 x) := by rw [cellsU_get, hx]; rfl
      simpa using this
    · rw [gPn (by simp; omega), gSn (by omega), gPn hb]

theorem okf86 : okF Tryd.prog H0 86 8 = true := by kernel_rfl
theorem spec_CloneB {m : Mem} {a : Value} {l : List Int} (ha : BytesAt m a l) (hl : l.length ≤ 1000) : ∃ v m', ACalls Tryd.prog 86 #[a] m v m' ∧ (BytesIn m.size m'.size m' v l ∧ Ext m m') := by
  obtain ⟨q, cap, rfl⟩ := ha.len
  refine wpF (args := [_]) mixed okf86 (fn := Tryd.f86) rfl rfl rfl (by simp) ?_
  refine cSeq ?_
  refine cRegion ?_
  refine sAs (v := .slice _ _ _) rfl ?_
  refine sNil (kSeqN ?_)
  refine cSeq ?_   -- seq 1
  refine cSeq ?_
  refine cRegion ?_
  refine sMv (v := .slice _ _ _) rfl ?_
  refine sP (v := .bool (decide (q = none))) eq63 ?_
  refine sNil (kSeqN ?_)
  refine cCond rfl (fun c0 => ?_) (fun c0 => ?_)
  ·
    refine cSeq ?_
    refine cRegion ?_
    refine sAs (v := .slice _ _ _) rfl ?_
    refine sNil (kSeqN ?_)
    refine cRet (kSeqR ?_)
    subst c0
    refine ⟨.inr rfl, _, rfl, .inl ⟨?_, _, _, rfl⟩, .refl _⟩
    rcases ha with ⟨h, _⟩ | ⟨b, o, cp, r, c, h, _⟩
    · exact h
    · cases h
  ·
    refine cSkip (kSeqN ?_)
    refine cSeq ?_
    refine cRegion ?_
    refine sBuildS (c := #[]) T63 S5 Z5 (by decide) (by decide) (by decide) (by kernel_rfl) rfl rfl ?_
    refine sMv (v := .slice _ _ _) rfl ?_
    obtain ⟨v3, m3, h3, hO3, hE3⟩ := app_bytes (ha.ext (.push _ _)) hl
    obtain ⟨q3, cp3, rfl⟩ := hO3.len
    refine sAppX rfl rfl h3 ?_
    refine sAs (v := .slice _ _ _) rfl ?_
    refine sNil (kSeqN ?_)
    refine cRet ?_
    exact ⟨.inr rfl, _, rfl, hO3, hE3⟩

theorem okf53 : okF Tryd.prog H0 53 11 = true := by kernel_rfl
theorem spec_Of {m : Mem} {a : Value} {l : List Int} (ha : BytesAt m a l) : ∃ v m', ACalls Tryd.prog 53 #[a] m v m' ∧ (∃ b, v = .pointer (some ⟨b, 0, none⟩) ∧ m.size ≤ b ∧ StoreAt m.size m'.size m' b 0 ∧ Ext m m') := by
  obtain ⟨q, cap, rfl⟩ := ha.len
  obtain ⟨v7, h7, hB7⟩ := cut_bytes ha (k := min l.length 300) (by omega)
  obtain ⟨q7, c7, rfl⟩ := hB7.len
  have hl7 : (l.take (min l.length 300)).length ≤ 300 := by rw [List.length_take]; omega
  generalize l.take (min l.length 300) = l7 at *
  refine wpF (args := [_]) mixed okf53 (fn := Tryd.f53) rfl rfl rfl (by simp) ?_
  refine cSeq ?_
  refine cRegion ?_
  refine sAs (v := .pointer _) rfl ?_
  refine sNil (kSeqN ?_)
  refine cSeq ?_
  refine cRegion ?_
  refine sMv (v := .slice _ _ _) rfl ?_
  refine sMv (v := .slice _ _ _) rfl ?_
  refine sLen T63 rfl ?_
  refine sP (v := nv (min l.length 300)) min300 ?_
  refine sO (v := .slice q7 l7.length c7) (m' := m) (opF_read rfl h7) ?_
  obtain ⟨v8, m8, h8, hO8, hE8⟩ := spec_CloneB hB7 (by omega)
  obtain ⟨q8, c8, rfl⟩ := hO8.len
  refine sCall1 rfl call86 rfl h8 ?_
  refine sBuild B113 ?_
  refine sBox (v := .agg _) rfl ?_
  refine sAs (v := .pointer _) rfl ?_
  refine sNil (kSeqN ?_)
  refine cRet ?_
  refine ⟨.inr rfl, _, rfl, m8.size, rfl, hE8.1, ⟨by simp, by simp, by simp, .slice q8 l7.length c8, 0, 2463534242, l7, gP rfl, Nat.le_refl _, by omega, hO8.keep fun c _ hc => gPn hc, hl7⟩, hE8.push' _⟩

theorem okf99 : okF Tryd.prog H0 99 104 = true := by kernel_rfl
theorem spec_draw {m : Mem} {N0 N b k : Nat} (h : StoreAt N0 N m b k) (hk : k < 1000000) : ∃ v m', ACalls Tryd.prog 99 #[.pointer (some ⟨b, 0, none⟩)] m v m' ∧ ((∃ z : Nat, v = .int .u32 (Int.ofNat z) ∧ z < 4294967296) ∧ StoreAt N0 N m' b (k + 1) ∧ Only b m m') := by
  obtain ⟨hb1, hb2, hN, bs, nx, st, l, g0, hnx, hst, hBs, hl⟩ := h
  obtain ⟨q, cap, rfl⟩ := hBs.len
  have hbm := live g0
  refine wpF (args := [_]) mixed okf99 (fn := Tryd.f99) rfl rfl rfl (by simp) ?_
  refine cSeq ?_
  refine cRegion ?_
  refine sAs (v := .int .u32 _) rfl ?_
  refine sNil (kSeqN ?_)
  refine cSeq ?_
  refine cDraw rfl ?_
  refine sMv (v := .pointer _) rfl ?_
  refine sNC rfl ?_
  refine sFA F113_2 rfl ?_
  refine sLd A111 rfl (by simp (disch := first | omega | (simp only [Array.size_push, Array.size_setIfInBounds]; done) | (simp only [Array.size_push, Array.size_setIfInBounds]; omega)) only [gP, gPn, gS, gSn, g0]; try rfl) rfl ?_
  refine sMv (v := .pointer _) rfl ?_
  refine sNC rfl ?_
  refine sFA F113_2 rfl ?_
  refine sLd A111 rfl (by simp (disch := first | omega | (simp only [Array.size_push, Array.size_setIfInBounds]; done) | (simp only [Array.size_push, Array.size_setIfInBounds]; omega)) only [gP, gPn, gS, gSn, g0]; try rfl) rfl ?_
  refine sShl32 (b := 13) rfl rfl fun z12 hz12 => ?_
  refine sU32 rfl rfl rfl fun z13 hz13 => ?_
  refine sNC rfl ?_
  refine sFA F113_2 rfl ?_
  refine sSt (v := .int .u32 _) S111 rfl rfl (by simp (disch := first | omega | (simp only [Array.size_push, Array.size_setIfInBounds]; done) | (simp only [Array.size_push, Array.size_setIfInBounds]; omega)) only [gP, gPn, gS, gSn, g0]; try rfl) (by first | decide | omega | simp) rfl rfl ?_
  refine sNil (kSeqN ?_)
  refine cSeq ?_
  refine cDraw rfl ?_
  refine sMv (v := .pointer _) rfl ?_
  refine sNC rfl ?_
  refine sFA F113_2 rfl ?_
  refine sLd A111 rfl (by simp (disch := first | omega | (simp only [Array.size_push, Array.size_setIfInBounds]; done) | (simp only [Array.size_push, Array.size_setIfInBounds]; omega)) only [gP, gPn, gS, gSn, g0]; try rfl) rfl ?_
  refine sMv (v := .pointer _) rfl ?_
  refine sNC rfl ?_
  refine sFA F113_2 rfl ?_
  refine sLd A111 rfl (by simp (disch := first | omega | (simp only [Array.size_push, Array.size_setIfInBounds]; done) | (simp only [Array.size_push, Array.size_setIfInBounds]; omega)) only [gP, gPn, gS, gSn, g0]; try rfl) rfl ?_
  refine sShr32 (b := 17) rfl rfl (by omega) ?_
  refine sU32 rfl rfl rfl fun z25 hz25 => ?_
  refine sNC rfl ?_
  refine sFA F113_2 rfl ?_
  refine sSt (v := .int .u32 _) S111 rfl rfl (by simp (disch := first | omega | (simp only [Array.size_push, Array.size_setIfInBounds]; done) | (simp only [Array.size_push, Array.size_setIfInBounds]; omega)) only [gP, gPn, gS, gSn, g0]; try rfl) (by first | decide | omega | simp) rfl rfl ?_
  refine sNil (kSeqN ?_)
  refine cSeq ?_
  refine cDraw rfl ?_
  refine sMv (v := .pointer _) rfl ?_
  refine sNC rfl ?_
  refine sFA F113_2 rfl ?_
  refine sLd A111 rfl (by simp (disch := first | omega | (simp only [Array.size_push, Array.size_setIfInBounds]; done) | (simp only [Array.size_push, Array.size_setIfInBounds]; omega)) only [gP, gPn, gS, gSn, g0]; try rfl) rfl ?_
  refine sMv (v := .pointer _) rfl ?_
  refine sNC rfl ?_
  refine sFA F113_2 rfl ?_
  refine sLd A111 rfl (by simp (disch := first | omega | (simp only [Array.size_push, Array.size_setIfInBounds]; done) | (simp only [Array.size_push, Array.size_setIfInBounds]; omega)) only [gP, gPn, gS, gSn, g0]; try rfl) rfl ?_
  refine sShl32 (b := 5) rfl rfl fun z36 hz36 => ?_
  refine sU32 rfl rfl rfl fun z37 hz37 => ?_
  refine sNC rfl ?_
  refine sFA F113_2 rfl ?_
  refine sSt (v := .int .u32 _) S111 rfl rfl (by simp (disch := first | omega | (simp only [Array.size_push, Array.size_setIfInBounds]; done) | (simp only [Array.size_push, Array.size_setIfInBounds]; omega)) only [gP, gPn, gS, gSn, g0]; try rfl) (by first | decide | omega | simp) rfl rfl ?_
  refine sNil (kSeqN ?_)
  refine cSeq ?_
  refine cRegion ?_
  refine sMv (v := .pointer _) rfl ?_
  refine sNC rfl ?_
  refine sFA F113_2 rfl ?_
  refine sLd A111 rfl (by simp (disch := first | omega | (simp only [Array.size_push, Array.size_setIfInBounds]; done) | (simp only [Array.size_push, Array.size_setIfInBounds]; omega)) only [gP, gPn, gS, gSn, g0]; try rfl) rfl ?_
  refine sShr32 (b := 3) rfl rfl (by omega) ?_
  have hz44 := Nat.shiftRight_le z37 3
  generalize z37 >>> 3 = z44 at *
  refine sAs (v := .int .u32 _) rfl ?_
  refine sNil (kSeqN ?_)
  refine cSeq ?_   -- seq 5
  refine cSeq ?_
  refine cRegion ?_
  refine sMv (v := .pointer _) rfl ?_
  refine sNC rfl ?_
  refine sFA F113_0 rfl ?_
  refine sLd A63 rfl (by simp (disch := first | omega | (simp only [Array.size_push, Array.size_setIfInBounds]; done) | (simp only [Array.size_push, Array.size_setIfInBounds]; omega)) only [gP, gPn, gS, gSn, g0]; try rfl) rfl ?_
  refine sLen T63 rfl ?_
  refine sBin rfl rfl (aInt_gtr (b := 0)) ?_
  refine sNil (kSeqN ?_)
  refine cCond rfl (fun c0 => ?_) (fun c0 => ?_)
  ·
    rcases hBs with ⟨rfl, _⟩ | ⟨bb, o, cap', r, c, e1, e2, e3, e4, e5⟩
    · exact absurd c0 (by simp)
    injection e1 with e1 e1' e1''
    subst e1; subst e1''
    have hm : nx % l.length < l.length := Nat.mod_lt _ c0
    have hx := e5 _ _ (List.getElem?_eq_getElem hm)
    generalize l[nx % l.length] = by_ at *
    obtain ⟨zc, hzc, hconv⟩ := conv5_111 (a := by_)
    refine cSeq ?_
    refine cDraw rfl ?_
    refine sMv (v := .int .u32 _) rfl ?_
    refine sMv (v := .pointer _) rfl ?_
    refine sNC rfl ?_
    refine sFA F113_0 rfl ?_
    refine sLd A63 rfl (by simp (disch := first | omega | (simp only [Array.size_push, Array.size_setIfInBounds]; done) | (simp only [Array.size_push, Array.size_setIfInBounds]; omega)) only [gP, gPn, gS, gSn, g0]; try rfl) rfl ?_
    refine sMv (v := .pointer _) rfl ?_
    refine sNC rfl ?_
    refine sFA F113_1 rfl ?_
    refine sLd A3 rfl (by simp (disch := first | omega | (simp only [Array.size_push, Array.size_setIfInBounds]; done) | (simp only [Array.size_push, Array.size_setIfInBounds]; omega)) only [gP, gPn, gS, gSn, g0]; try rfl) rfl ?_
    refine sMv (v := .pointer _) rfl ?_
    refine sNC rfl ?_
    refine sFA F113_0 rfl ?_
    refine sLd A63 rfl (by simp (disch := first | omega | (simp only [Array.size_push, Array.size_setIfInBounds]; done) | (simp only [Array.size_push, Array.size_setIfInBounds]; omega)) only [gP, gPn, gS, gSn, g0]; try rfl) rfl ?_
    refine sLen T63 rfl ?_
    refine sBin rfl rfl (aInt_rem (by omega)) ?_
    refine sIx T63 S5 rfl rfl hm ?_
    refine sLd (v := .int .u8 by_) A5 rfl (by simp (disch := first | omega | (simp only [Array.size_push, Array.size_setIfInBounds]; done) | (simp only [Array.size_push, Array.size_setIfInBounds]; omega)) only [gP, gPn, gS, gSn, e4]; try rfl) hx ?_
    refine sP (v := .int .u32 (Int.ofNat zc)) hconv ?_
    refine sU32 rfl rfl rfl fun z69 hz69 => ?_
    refine sU32 rfl rfl rfl fun z70 hz70 => ?_
    refine sAs (v := .int .u32 _) rfl ?_
    refine sNil (kSeqN ?_)
    refine cSeq ?_
    refine cDraw rfl ?_
    refine sMv (v := .pointer _) rfl ?_
    refine sNC rfl ?_
    refine sFA F113_2 rfl ?_
    refine sLd A111 rfl (by simp (disch := first | omega | (simp only [Array.size_push, Array.size_setIfInBounds]; done) | (simp only [Array.size_push, Array.size_setIfInBounds]; omega)) only [gP, gPn, gS, gSn, g0]; try rfl) rfl ?_
    refine sMv (v := .pointer _) rfl ?_
    refine sNC rfl ?_
    refine sFA F113_0 rfl ?_
    refine sLd A63 rfl (by simp (disch := first | omega | (simp only [Array.size_push, Array.size_setIfInBounds]; done) | (simp only [Array.size_push, Array.size_setIfInBounds]; omega)) only [gP, gPn, gS, gSn, g0]; try rfl) rfl ?_
    refine sMv (v := .pointer _) rfl ?_
    refine sNC rfl ?_
    refine sFA F113_1 rfl ?_
    refine sLd A3 rfl (by simp (disch := first | omega | (simp only [Array.size_push, Array.size_setIfInBounds]; done) | (simp only [Array.size_push, Array.size_setIfInBounds]; omega)) only [gP, gPn, gS, gSn, g0]; try rfl) rfl ?_
    refine sMv (v := .pointer _) rfl ?_
    refine sNC rfl ?_
    refine sFA F113_0 rfl ?_
    refine sLd A63 rfl (by simp (disch := first | omega | (simp only [Array.size_push, Array.size_setIfInBounds]; done) | (simp only [Array.size_push, Array.size_setIfInBounds]; omega)) only [gP, gPn, gS, gSn, g0]; try rfl) rfl ?_
    refine sLen T63 rfl ?_
    refine sBin rfl rfl (aInt_rem (by omega)) ?_
    refine sIx T63 S5 rfl rfl hm ?_
    refine sLd (v := .int .u8 by_) A5 rfl (by simp (disch := first | omega | (simp only [Array.size_push, Array.size_setIfInBounds]; done) | (simp only [Array.size_push, Array.size_setIfInBounds]; omega)) only [gP, gPn, gS, gSn, e4]; try rfl) hx ?_
    refine sP (v := .int .u32 (Int.ofNat zc)) hconv ?_
    refine sU32 rfl rfl rfl fun z92 hz92 => ?_
    refine sU32 rfl rfl rfl fun z93 hz93 => ?_
    refine sNC rfl ?_
    refine sFA F113_2 rfl ?_
    refine sSt (v := .int .u32 _) S111 rfl rfl (by simp (disch := first | omega | (simp only [Array.size_push, Array.size_setIfInBounds]; done) | (simp only [Array.size_push, Array.size_setIfInBounds]; omega)) only [gP, gPn, gS, gSn, g0]; try rfl) (by first | decide | omega | simp) rfl rfl ?_
    refine sNil (kSeqN ?_)
    refine cRegion ?_
    refine sMv (v := .pointer _) rfl ?_
    refine sNC rfl ?_
    refine sFA F113_1 rfl ?_
    refine sLd A3 rfl (by simp (disch := first | omega | (simp only [Array.size_push, Array.size_setIfInBounds]; done) | (simp only [Array.size_push, Array.size_setIfInBounds]; omega)) only [gP, gPn, gS, gSn, g0]; try rfl) rfl ?_
    refine sBin rfl rfl (aInt_add (b := 1) (by omega)) ?_
    refine sNC rfl ?_
    refine sFA F113_1 rfl ?_
    refine sSt (v := nv _) S3 rfl rfl (by simp (disch := first | omega | (simp only [Array.size_push, Array.size_setIfInBounds]; done) | (simp only [Array.size_push, Array.size_setIfInBounds]; omega)) only [gP, gPn, gS, gSn, g0]; try rfl) (by first | decide | omega | simp) rfl rfl ?_
    refine sNil (kSeqN ?_)
    refine cSeq ?_
    refine cRegion ?_
    refine sMv (v := .int .u32 _) rfl ?_
    refine sAs (v := .int .u32 _) rfl ?_
    refine sNil (kSeqN ?_)
    refine cRet ?_
    refine ⟨.inr rfl, _, rfl, ⟨_, rfl, by omega⟩, ⟨hb1, hb2, by simp; omega, .slice (some ⟨bb, o, some 1⟩) l.length cap, nx + 1, z93, l, ?_, by omega, hz93, ?_, hl⟩, ?_⟩
    · simp (disch := first | omega | (simp only [Array.size_push, Array.size_setIfInBounds]; done) | (simp only [Array.size_push, Array.size_setIfInBounds]; omega)) only [gP, gPn, gS, gSn, g0]; try rfl
    · exact .inr ⟨bb, o, cap, r, c, rfl, e2, e3, (by simp (disch := first | omega | (simp only [Array.size_push, Array.size_setIfInBounds]; done) | (simp only [Array.size_push, Array.size_setIfInBounds]; omega)) only [gP, gPn, gS, gSn, e4]; try rfl), e5⟩
    · exact ((((Only.set b m _).trans (.set _ _ _)).trans (.set _ _ _)).trans (.set _ _ _)).trans (.set _ _ _)
  ·
    refine cSkip (kSeqN ?_)
    refine cSeq ?_
    refine cRegion ?_
    refine sMv (v := .int .u32 _) rfl ?_
    refine sAs (v := .int .u32 _) rfl ?_
    refine sNil (kSeqN ?_)
    refine cRet ?_
    refine ⟨.inr rfl, _, rfl, ⟨_, rfl, by omega⟩, ⟨hb1, hb2, by simp; omega, .slice q l.length cap, nx, z37, l, ?_, by omega, hz37, ?_, hl⟩, ?_⟩
    · simp (disch := first | omega | (simp only [Array.size_push, Array.size_setIfInBounds]; done) | (simp only [Array.size_push, Array.size_setIfInBounds]; omega)) only [gP, gPn, gS, gSn, g0]; try rfl
    · exact hBs.keep fun c h1 h2 => by rw [gSn (by omega), gSn (by omega), gSn (by omega)]
    · exact ((Only.set b m _).trans (.set _ _ _)).trans (.set _ _ _)

theorem okf84 : okF Tryd.prog H0 84 13 = true := by kernel_rfl
theorem spec_SLess {m : Mem} {N0 N b k n : Nat} (h : StoreAt N0 N m b k) (hk : k < 1000000) (hn : 0 < n) (hn2 : n < 2 ^ 62) : ∃ v m', ACalls Tryd.prog 84 #[.pointer (some ⟨b, 0, none⟩), nv n] m v m' ∧ ((∃ x, v = nv x ∧ x < n) ∧ StoreAt N0 N m' b (k + 1) ∧ Only b m m') := by
  refine wpF (args := [_, _]) mixed okf84 (fn := Tryd.f84) rfl rfl rfl (by simp) ?_
  refine cSeq ?_
  refine cRegion ?_
  refine sAs (v := nv 0) rfl ?_
  refine sNil (kSeqN ?_)
  refine cSeq ?_   -- seq 1
  refine cSeq ?_
  refine cRegion ?_
  refine sMv (v := nv _) rfl ?_
  refine sBin (b := 0) rfl rfl (aInt_leq) ?_
  refine sNil (kSeqN ?_)
  refine cCondF' rfl (by omega) ?_
  refine cSkip (kSeqN ?_)
  refine cSeq ?_
  refine cRegion ?_
  refine sMv (v := .pointer _) rfl ?_
  obtain ⟨v8, m8, h8, ⟨z, rfl, hz⟩, hS8, hO8⟩ := spec_draw h hk
  refine sCall1 rfl call99 rfl h8 ?_
  refine sShr32 (b := 4) rfl rfl (by omega) ?_
  have hz9 := Nat.shiftRight_le z 4
  generalize z >>> 4 = z9 at *
  refine sP (v := nv z9) (conv111_3 (by omega)) ?_
  refine sMv (v := nv _) rfl ?_
  refine sBin rfl rfl (aInt_rem (by omega)) ?_
  refine sAs (v := nv _) rfl ?_
  refine sNil (kSeqN ?_)
  refine cRet ?_
  exact ⟨.inr rfl, _, rfl, ⟨_, rfl, Nat.mod_lt _ hn⟩, hS8, hO8⟩

theorem okf89 : okF Tryd.prog H0 89 9 = true := by kernel_rfl
theorem spec_Seldom {m : Mem} {N0 N b k n : Nat} (h : StoreAt N0 N m b k) (hk : k < 1000000) (hn : 0 < n) (hn2 : n < 2 ^ 62) : ∃ v m', ACalls Tryd.prog 89 #[.pointer (some ⟨b, 0, none⟩), nv n] m v m' ∧ ((∃ x : Nat, v = .bool (decide (x = 0))) ∧ StoreAt N0 N m' b (k + 1) ∧ Only b m m') := by
  obtain ⟨v7, m7, h7, ⟨x, rfl, hx⟩, hS7, hO7⟩ := spec_SLess h hk hn hn2
  refine wpF (args := [_, _]) mixed okf89 (fn := Tryd.f89) rfl rfl rfl (by simp) ?_
  refine cSeq ?_
  refine cRegion ?_
  refine sAs (v := .bool _) rfl ?_
  refine sNil (kSeqN ?_)
  refine cSeq ?_
  refine cRegion ?_
  refine sMv (v := .pointer _) rfl ?_
  refine sMv (v := nv _) rfl ?_
  refine sCall2 rfl call84 rfl rfl h7 ?_
  refine sBin (b := 0) rfl rfl (aInt_eql) ?_
  refine sAs (v := .bool _) rfl ?_
  refine sNil (kSeqN ?_)
  refine cRet ?_
  exact ⟨.inr rfl, _, rfl, ⟨x, rfl⟩, hS7, hO7⟩

end Go.AM

/-! ### S4 -/
namespace Go.AM
open Go.Proofs
set_option maxRecDepth 100000
set_option linter.unusedVariables false
set_option linter.unusedSimpArgs false
def insN (L : List Nat) (i x : Nat) : List Nat := L.take i ++ x :: L.drop i
theorem insL_ofs (L : List Nat) (i x : Nat) : insL (ofs L) i (Int.ofNat x) = ofs (insN L i x) := by simp [insL, insN, ofs]
theorem insN_len {L : List Nat} {i : Nat} (h : i ≤ L.length) (x : Nat) : (insN L i x).length = L.length + 1 := by simp [insN]; omega
theorem insN_perm (L : List Nat) (i x : Nat) : (insN L i x).Perm (x :: L) := by
  have h := List.perm_middle (a := x) (l₁ := L.take i) (l₂ := L.drop i)
  rwa [List.take_append_drop] at h
def sort2 : List Nat → List Nat
  | [a, b] => if b < a then [b, a] else [a, b]
  | l => l
theorem sort2_len (L : List Nat) : (sort2 L).length = L.length := by
  unfold sort2
  split
  · split <;> rfl
  · rfl
theorem sort2_perm (L : List Nat) : (sort2 L).Perm L := by
  unfold sort2
  split
  · split
    · exact List.Perm.swap _ _ _
    · exact .refl _
  · exact .refl _
theorem sort2_rise {L : List Nat} (h : L.length ≤ 2) (hn : L.Nodup) : (sort2 L).Pairwise (· < ·) := by
  match L, h, hn with
  | [], _, _ => simp [sort2]
  | [a], _, _ => simp [sort2]
  | [a, b], _, hn =>
    have hab : a ≠ b := by simpa using hn
    unfold sort2
    simp only
    split
    · simp; omega
    · simp; omega
def lenT : Nat → Nat
  | 0 => 0
  | 1 => 1
  | _ => 2
theorem mk_own' {m m' : Mem} {M x : Nat} (hM : M ≤ m.size) (hl : Low M (m.push (.cells true #[nv x])) m') : Low M m m' := (Low.push M hM _).trans hl
theorem conv3_104s {x : Nat} (h : x ≤ 2) : aConv Tryd.prog 3 104 (nv x) = some (.int .u64 (Int.ofNat x)) := conv3_104 (by omega)

theorem okf82 : okF Tryd.prog H0 82 15 = true := by kernel_rfl
theorem spec_From {m : Mem} {N0 N b k lo hi : Nat} (h : StoreAt N0 N m b k) (hk : k < 1000000) (hlo : lo ≤ hi) (hhi : hi < 2 ^ 60) : ∃ v m', ACalls Tryd.prog 82 #[.pointer (some ⟨b, 0, none⟩), nv lo, nv hi] m v m' ∧ ((∃ x, v = nv x ∧ lo ≤ x ∧ x ≤ hi) ∧ StoreAt N0 N m' b (k + 1) ∧ Only b m m') := by
  refine wpF (args := [_, _, _]) mixed okf82 (fn := Tryd.f82) rfl rfl rfl (by simp) ?_
  refine cSeq ?_
  refine cRegion ?_
  refine sAs (v := nv 0) rfl ?_
  refine sNil (kSeqN ?_)
  refine cSeq ?_
  refine cRegion ?_
  refine sMv (v := nv _) rfl ?_
  refine sMv (v := .pointer _) rfl ?_
  refine sMv (v := nv _) rfl ?_
  refine sMv (v := nv _) rfl ?_
  refine sBin (a := hi) (b := lo) rfl rfl (aInt_sub (by omega)) ?_
  refine sBin (b := 1) rfl rfl (aInt_add (by omega)) ?_
  obtain ⟨v13, m13, h13, ⟨x, rfl, hx⟩, hS13, hO13⟩ := spec_SLess (n := hi - lo + 1) h hk (by omega) (by omega)
  refine sCall2 rfl call84 rfl rfl h13 ?_
  refine sBin (a := lo) (b := x) rfl rfl (aInt_add (by omega)) ?_
  refine sAs (v := nv _) rfl ?_
  refine sNil (kSeqN ?_)
  refine cRet ?_
  exact ⟨.inr rfl, _, rfl, ⟨lo + x, rfl, by omega, by omega⟩, hS13, hO13⟩

theorem okf83 : okF Tryd.prog H0 83 21 = true := by kernel_rfl
theorem spec_Order {m : Mem} {N0 N b k n : Nat} (h : StoreAt N0 N m b k) (hk : k < 100000) (hN0 : N0 ≤ b) (hn : n ≤ 1000) : ∃ v m', ACalls Tryd.prog 83 #[.pointer (some ⟨b, 0, none⟩), nv n] m v m' ∧ (∃ L : List Nat, OwnF m.size m' v (ofs L) ∧ L.length = n ∧ (∀ x ∈ L, x < n) ∧ L.Nodup ∧ StoreAt N0 N m' b (k + n) ∧ LowX m.size b m m') := by
  have hbm : b < m.size := by have := h.lt; omega
  have hNm : N ≤ m.size := h.lt.2
  refine wpF (args := [_, _]) mixed okf83 (fn := Tryd.f83) rfl rfl rfl (by simp) ?_
  refine cSeq ?_
  refine cRegion ?_
  refine sAs (v := .slice _ _ _) rfl ?_
  refine sNil (kSeqN ?_)
  refine cSeq ?_
  refine cRegion ?_
  refine sAs (v := .slice _ _ _) rfl ?_
  refine sNil (kSeqN ?_)
  refine cSeq ?_
  refine cSeq ?_
  refine cRegion ?_
  refine sMv (v := nv _) rfl ?_
  refine sMv (v := nv 0) rfl ?_
  refine sNil (kSeqN ?_)
  refine cBlock ?_
  refine wpC_loop (fun k' ρ m' => ∃ i v L, k' = n - i ∧ i ≤ n ∧ L.length = i ∧ (∀ x ∈ L, x < i) ∧ L.Nodup ∧ OwnF m.size m' v (ofs L) ∧ StoreAt N0 N m' b (k + i) ∧ LowX m.size b m m' ∧ Has ρ [(0, .pointer (some ⟨b, 0, none⟩)), (5, v), (7, nv n), (8, nv i)]) ⟨0, _, [], rfl, by omega, rfl, by simp, .nil, .nil _ _, h, .refl _ _ _, rfl, rfl, rfl, rfl, trivial⟩ ?_
  rintro k' ρ m' ⟨i, v, L, rfl, hi, hLi, hLx, hLn, hO, hS, hX, hh⟩
  obtain ⟨qv, cv, rfl⟩ := hO.ints.lenN
  rw [hh.env]; clear hh
  refine cSeq ?_
  refine cRegion ?_
  refine sBin rfl rfl (aInt_lss) ?_
  refine sNil (kSeqN ?_)
  refine cSeq ?_   -- seq 5
  refine cCond rfl (fun c0 => ?_) (fun c0 => ?_)
  ·
    refine cSkip (kSeqN ?_)
    refine cSeq ?_
    refine cBlock ?_
    refine cSeq ?_
    refine cRegion ?_
    refine sMv (v := nv _) rfl ?_
    refine sAs (v := nv _) rfl ?_
    refine sNil (kSeqN ?_)
    refine cRegion ?_
    refine sMv (v := .slice _ _ _) rfl ?_
    refine sMv (v := .pointer _) rfl ?_
    refine sMv (v := nv _) rfl ?_
    refine sBin (b := 1) rfl rfl (aInt_add (by omega)) ?_
    obtain ⟨v15, m15, h15, ⟨p, rfl, hp⟩, hS15, hO15⟩ := spec_SLess (n := i + 1) hS (by omega) (by omega) (by omega)
    refine sCall2 rfl call84 rfl rfl h15 ?_
    have hOa := hO.only hO15 hbm
    have hXa := hX.trans hO15.x
    have hz := hXa.1
    refine sMv (v := nv _) rfl ?_
    refine sBuildS T25 S3 Z3 (by decide) (by decide) (by decide) (by kernel_rfl) fill1 rfl ?_
    obtain ⟨v18, m18, h18, hO18, hL18⟩ := spec_Insert (bx := m15.size) (k := 1) (i := p) (x := Int.ofNat i) (hOa.ext (.push _ (.cells true #[nv i]))) (gP rfl) (fun e => by have := (hOa.lt e).2; omega) (by rw [ofs_length]; omega) (by rw [ofs_length]; omega) (by simp; omega)
    rw [insL_ofs] at hO18
    obtain ⟨q18, c18, rfl⟩ := hO18.ints.lenN
    refine sCall3 rfl call98 rfl rfl rfl h18 ?_
    refine sAs (v := .slice _ _ _) rfl ?_
    refine sNil (kBlkN (kSeqN ?_))
    refine cRegion ?_
    refine sBin rfl rfl (aInt_add (b := 1) (by omega)) ?_
    refine sMv (v := nv _) rfl ?_
    refine sNil (kSeqN ?_)
    have hL4 := mk_own' hz hL18
    refine ⟨_, ?_, i + 1, _, insN L p i, rfl, by omega, by rw [insN_len (by omega), hLi], fun x hx => ?_, ?_, hO18, (hS15.low hN0 hL4 hNm).le (by omega), hXa.trans hL4.x, rfl, rfl, rfl, rfl, trivial⟩
    · omega
    · rcases List.mem_cons.1 ((insN_perm L p i).mem_iff.1 hx) with rfl | hx
      · omega
      · have := hLx x hx; omega
    · refine (insN_perm L p i).nodup_iff.2 (List.nodup_cons.2 ⟨fun hm => ?_, hLn⟩)
      have := hLx i hm; omega
  ·
    refine cExit (kSeqE (kSeqE (kBlkS (kSeqN ?_))))
    refine cSeq ?_
    refine cRegion ?_
    refine sMv (v := .slice _ _ _) rfl ?_
    refine sAs (v := .slice _ _ _) rfl ?_
    refine sNil (kSeqN ?_)
    refine cRet ?_
    obtain rfl : i = n := by omega
    exact ⟨.inr rfl, _, rfl, L, hO, hLi, hLx, hLn, hS, hX⟩

theorem okf115 : okF Tryd.prog H0 115 25 = true := by kernel_rfl
theorem spec_Len64 {m : Mem} {x : Nat} (hx : x ≤ 2) : ACalls Tryd.prog 115 #[.int .u64 (Int.ofNat x)] m (nv (lenT x)) m := by
  suffices h : ∃ v m', ACalls Tryd.prog 115 #[.int .u64 (Int.ofNat x)] m v m' ∧ (v = nv (lenT x) ∧ m' = m) by
    obtain ⟨v, m', h, rfl, rfl⟩ := h; exact h
  have hx3 : x = 0 ∨ x = 1 ∨ x = 2 := by omega
  refine wpF (args := [_]) mixed okf115 (fn := Tryd.f115) rfl rfl rfl (by simp) ?_
  refine cSeq ?_
  refine cRegion ?_
  refine sAs (v := nv 0) rfl ?_
  refine sNil (kSeqN ?_)
  refine cSeq ?_   -- seq 1
  refine cSeq ?_
  refine cRegion ?_
  refine sMv (v := .int .u64 (Int.ofNat x)) rfl ?_
  refine sBinI (v := .bool false) rfl rfl (by rcases hx3 with rfl | rfl | rfl <;> rfl) ?_
  refine sNil (kSeqN ?_)
  refine cCondF rfl ?_
  refine cSkip (kSeqN ?_)
  refine cSeq ?_   -- seq 3
  refine cSeq ?_
  refine cRegion ?_
  refine sMv (v := .int .u64 (Int.ofNat x)) rfl ?_
  refine sBinI (v := .bool false) rfl rfl (by rcases hx3 with rfl | rfl | rfl <;> rfl) ?_
  refine sNil (kSeqN ?_)
  refine cCondF rfl ?_
  refine cSkip (kSeqN ?_)
  refine cSeq ?_   -- seq 5
  refine cSeq ?_
  refine cRegion ?_
  refine sMv (v := .int .u64 (Int.ofNat x)) rfl ?_
  refine sBinI (v := .bool false) rfl rfl (by rcases hx3 with rfl | rfl | rfl <;> rfl) ?_
  refine sNil (kSeqN ?_)
  refine cCondF rfl ?_
  refine cSkip (kSeqN ?_)
  refine cSeq ?_
  refine cRegion ?_
  refine sMv (v := nv _) rfl ?_
  refine sMv (v := .int .u64 (Int.ofNat x)) rfl ?_
  refine sP (v := .int .u8 (Int.ofNat x)) (by rcases hx3 with rfl | rfl | rfl <;> kernel_rfl) ?_
  refine sP (v := .int .u8 (Int.ofNat (lenT x))) (by rcases hx3 with rfl | rfl | rfl <;> kernel_rfl) ?_
  refine sP (v := nv (lenT x)) (by rcases hx3 with rfl | rfl | rfl <;> kernel_rfl) ?_
  refine sBin (v := nv (lenT x)) (a := 0) (b := lenT x) rfl rfl (by rcases hx3 with rfl | rfl | rfl <;> kernel_rfl) ?_
  refine sAs (v := nv _) rfl ?_
  refine sNil (kSeqN ?_)
  refine cRet ?_
  exact ⟨.inr rfl, _, rfl, rfl, rfl⟩

theorem okf101 : okF Tryd.prog H0 101 8 = true := by kernel_rfl
theorem spec_Len {m : Mem} {x : Nat} (hx : x ≤ 2) : ACalls Tryd.prog 101 #[.int .u64 (Int.ofNat x)] m (nv (lenT x)) m := by
  suffices h : ∃ v m', ACalls Tryd.prog 101 #[.int .u64 (Int.ofNat x)] m v m' ∧ (v = nv (lenT x) ∧ m' = m) by
    obtain ⟨v, m', h, rfl, rfl⟩ := h; exact h
  refine wpF (args := [_]) mixed okf101 (fn := Tryd.f101) rfl rfl rfl (by simp) ?_
  refine cSeq ?_
  refine cRegion ?_
  refine sAs (v := nv 0) rfl ?_
  refine sNil (kSeqN ?_)
  refine cSeq ?_   -- seq 1
  refine cCondF rfl ?_
  refine cSkip (kSeqN ?_)
  refine cSeq ?_
  refine cRegion ?_
  refine sMv (v := .int .u64 (Int.ofNat x)) rfl ?_
  refine sCall1 rfl call115 rfl (spec_Len64 hx) ?_
  refine sAs (v := nv _) rfl ?_
  refine sNil (kSeqN ?_)
  refine cRet ?_
  exact ⟨.inr rfl, _, rfl, rfl, rfl⟩

end Go.AM

/-! ### S5 -/
namespace Go.AM
open Go.Proofs
set_option maxRecDepth 100000
set_option linter.unusedVariables false
set_option linter.unusedSimpArgs false
/-- The row b holds other numbers of the same slice; all else is as it was. -/
def Sorted2 (N : Nat) (v : Value) (L' : List Nat) (m m' : Mem) : Prop := OwnF N m' v (ofs L') ∧ m'.size = m.size ∧ ∀ b, blkOf v ≠ some b → Mem.get m' b = Mem.get m b
theorem own_set2 {N : Nat} {m : Mem} {b cap x y : Nat} {c : Array Value} (h2 : N ≤ b) (h3 : Mem.get m b = .cells true c) (h4 : 2 ≤ cap) (h5 : cap = c.size) :
    Sorted2 N (.slice (some ⟨b, 0, some 1⟩) 2 cap) [y, x] m ((m.setIfInBounds b (.cells true (c.setIfInBounds 1 (nv x)))).setIfInBounds b (.cells true ((c.setIfInBounds 1 (nv x)).setIfInBounds 0 (nv y)))) := by
  have hb := live h3
  refine ⟨.inr ⟨b, cap, (c.setIfInBounds 1 (nv x)).setIfInBounds 0 (nv y), rfl, h2, gS rfl (by rw [Array.size_setIfInBounds]; exact hb), h4, by rw [Array.size_setIfInBounds, Array.size_setIfInBounds]; exact h5, fun i z hi => ?_⟩, by simp, fun b' hb' => ?_⟩
  · match i, hi with
    | 0, hi => simp [ofs] at hi; subst hi; rw [Array.getElem?_setIfInBounds, if_pos rfl, if_pos (by rw [Array.size_setIfInBounds]; omega)]; rfl
    | 1, hi => simp [ofs] at hi; subst hi; rw [Array.getElem?_setIfInBounds, if_neg (by omega), Array.getElem?_setIfInBounds, if_pos rfl, if_pos (by omega)]; rfl
    | i + 2, hi => simp [ofs] at hi
  · have hne : b ≠ b' := fun e => hb' (by rw [← e]; rfl)
    rw [gSn hne, gSn hne]

def H105 : Nat → List (Nat × Nat) := fun id => if id = 4 then [(7,14),(12,14)] else []
theorem okf105 : okF Tryd.prog H105 105 49 = true := by kernel_rfl
theorem spec_insert2 {m : Mem} {N : Nat} {v : Value} {L : List Nat} (h : OwnF N m v (ofs L)) (hl : L.length ≤ 2) : ∃ w m', ACalls Tryd.prog 105 #[v, nv 0, nv L.length] m w m' ∧ (Sorted2 N v (sort2 L) m m') := by
  have h1L : L.length ≤ 1 → sort2 L = L := fun h => by
    match L, h with
    | [], _ => rfl
    | [a], _ => rfl
  have hrfl : L.length ≤ 1 → Sorted2 N v (sort2 L) m m := fun hh => by rw [h1L hh]; exact ⟨h, rfl, fun _ _ => rfl⟩
  obtain ⟨qv, cv, rfl⟩ := h.ints.lenN
  refine wpF (args := [_, _, _]) mixed okf105 (fn := Tryd.f105) rfl rfl rfl (by simp) ?_
  refine cSeq ?_
  refine cRegion ?_
  refine sMv (v := nv _) rfl ?_
  refine sBin (v := nv 1) rfl rfl (aInt_add (a := 0) (b := 1) (by omega)) ?_
  refine sAs (v := nv _) rfl ?_
  refine sNil (kSeqN ?_)
  refine cBlock ?_
  refine wpC_loop (fun k ρ m' => ∃ i, k = 2 - i ∧ ((i = 1 ∧ m = m') ∨ (i = 2 ∧ L.length = 2 ∧ Sorted2 N (.slice qv L.length cv) (sort2 L) m m')) ∧ Has ρ [(0, .slice qv L.length cv), (1, nv 0), (2, nv L.length), (6, nv i)]) ⟨1, rfl, .inl ⟨rfl, rfl⟩, rfl, rfl, rfl, rfl, trivial⟩ ?_
  rintro k ρ m' ⟨i, rfl, hst, hh⟩
  rw [hh.env]; clear hh
  refine cSeq ?_   -- seq 1
  refine cSeq ?_
  refine cRegion ?_
  refine sMv (v := nv _) rfl ?_
  refine sMv (v := nv _) rfl ?_
  refine sBin rfl rfl (aInt_lss) ?_
  refine sNil (kSeqN ?_)
  refine cCond rfl (fun c0 => ?_) (fun c0 => ?_)
  ·
    obtain ⟨rfl, rfl⟩ : i = 1 ∧ m = m' := by
      rcases hst with h | h
      · exact h
      · omega
    obtain ⟨x0, x1, rfl⟩ : ∃ x0 x1, L = [x0, x1] := by
      match L, (show L.length = 2 by omega) with
      | [a, b], _ => exact ⟨a, b, rfl⟩
    obtain ⟨b, cap, c, e1, h2, h3, h4, h5, h6⟩ := h.resolve_left (fun h => by cases h.1)
    obtain ⟨rfl, rfl⟩ : qv = some ⟨b, 0, some 1⟩ ∧ cv = cap := by injection e1 with a1 a2 a3; exact ⟨a1, a3⟩
    clear e1
    have g0 : c[0]? = some (nv x0) := h6 0 _ rfl
    have g1 : c[1]? = some (nv x1) := h6 1 _ rfl
    have hb := live h3
    have hcs : 2 ≤ c.size := by simp [ofs] at h4; omega
    refine cSkip (kSeqN ?_)
    refine cSeq ?_
    refine cBlock ?_
    refine cSeq ?_
    refine cRegion ?_
    refine sMv (v := nv _) rfl ?_
    refine sAs (v := nv _) rfl ?_
    refine sNil (kSeqN ?_)
    refine cBlock ?_
    refine wpC_loop (fun k ρ mm => ∃ j, k = j ∧ ((j = 1 ∧ m = mm) ∨ (j = 0 ∧ x1 < x0 ∧ (m.setIfInBounds b (.cells true (c.setIfInBounds 1 (nv x0)))).setIfInBounds b (.cells true ((c.setIfInBounds 1 (nv x0)).setIfInBounds 0 (nv x1))) = mm)) ∧ Has ρ [(0, .slice (some ⟨b, 0, some 1⟩) [x0, x1].length cv), (1, nv 0), (2, nv [x0, x1].length), (6, nv 1), (7, nv j)]) ⟨1, rfl, .inl ⟨rfl, rfl⟩, rfl, rfl, rfl, rfl, rfl, trivial⟩ ?_
    rintro k ρ mm ⟨j, rfl, hst2, hh⟩
    rw [hh.env]; clear hh
    refine cSeq ?_   -- seq 5
    refine cSeq ?_
    refine cDrawH (hs := [(7,14),(12,14)]) rfl (by decide) ?_
    refine lStepO (sMv (v := nv _) rfl (sNil fun e0 hm0 => ?_))
    refine lStepO (sMv (v := nv _) rfl (sNil fun e1 hm1 => ?_))
    refine lStepO (sBin (b := 0) rfl rfl aInt_gtr (sNil fun e2 hm2 => ?_))
    refine lStepO (sMv (v := .bool _) rfl (sNil fun e3 hm3 => ?_))
    by_cases h7 : 0 < k
    ·
      rw [decide_eq_true h7]
      obtain ⟨rfl, rfl⟩ : k = 1 ∧ m = mm := by
        rcases hst2 with h | h
        · exact h
        · omega
      refine lG rfl rfl ?_
      refine lStepO (sMv (v := .slice _ _ _) rfl (sNil fun e4 hm4 => ?_))
      refine lG rfl rfl ?_
      refine lStepO (sMv (v := nv _) rfl (sNil fun e5 hm5 => ?_))
      refine lG rfl rfl ?_
      refine lStepO (sIx T25 S3 rfl rfl (by omega) (sNil fun e6 hm6 => ?_))
      refine lG rfl rfl ?_
      refine lStepLd (v := nv x1) A3 rfl h3 g1 fun e7 hm7 hv7 hr7 => ?_
      refine lG rfl rfl ?_
      refine lStepO (sMv (v := .slice _ _ _) rfl (sNil fun e8 hm8 => ?_))
      refine lG rfl rfl ?_
      refine lStepO (sMv (v := nv _) rfl (sNil fun e9 hm9 => ?_))
      refine lG rfl rfl ?_
      refine lStepO (sBin (v := nv 0) rfl rfl (aInt_sub (a := 1) (b := 1) (by omega)) (sNil fun e10 hm10 => ?_))
      refine lG rfl rfl ?_
      refine lStepO (sIx T25 S3 rfl rfl (by omega) (sNil fun e11 hm11 => ?_))
      refine lG rfl rfl ?_
      refine lStepLd (v := nv x0) A3 rfl h3 g0 fun e12 hm12 hv12 hr12 => ?_
      refine lG rfl rfl ?_
      refine lStepO (sCall2 rfl call111 rfl rfl spec_Less (sNil fun e13 hm13 => ?_))
      refine lStepO (sP (v := .bool _) rfl (sNil fun e14 hm14 => ?_))
      refine ⟨?_, (kSeqN ?_)⟩
      ·
        refine obl_atE (e := e7) (e' := e14) (by simp) (by rfl) (by simp) ((hr7 e14.m _ _ (by rw [hm14]; exact h3) g1).trans (congrArg some hv7.symm)) ?_
        refine obl_atE (e := e12) (e' := e14) (by simp) (by rfl) (by simp) ((hr12 e14.m _ _ (by rw [hm14]; exact h3) g0).trans (congrArg some hv12.symm)) ?_
        trivial
      refine cCond (p := Int.ofNat x1 < Int.ofNat x0) rfl (fun c1 => ?_) (fun c1 => ?_)
      ·
        have hlt : x1 < x0 := by simp at c1; exact c1
        refine cSkip (kSeqN ?_)
        refine cSeq ?_
        refine cBlock ?_
        refine cDraw rfl ?_
        refine sMv (v := .slice _ _ _) rfl ?_
        refine sMv (v := nv _) rfl ?_
        refine sMv (v := .slice _ _ _) rfl ?_
        refine sMv (v := nv _) rfl ?_
        refine sBin (v := nv 0) rfl rfl (aInt_sub (a := 1) (b := 1) (by omega)) ?_
        refine sMv (v := .slice _ _ _) rfl ?_
        refine sMv (v := nv _) rfl ?_
        refine sBin (v := nv 0) rfl rfl (aInt_sub (a := 1) (b := 1) (by omega)) ?_
        refine sIx T25 S3 rfl rfl (by omega) ?_
        refine sLd (v := nv x0) A3 rfl h3 g0 ?_
        refine sMv (v := .slice _ _ _) rfl ?_
        refine sMv (v := nv _) rfl ?_
        refine sIx T25 S3 rfl rfl (by omega) ?_
        refine sLd (v := nv x1) A3 rfl h3 g1 ?_
        refine sIx T25 S3 rfl rfl (by omega) ?_
        refine sSt (v := nv x0) S3 rfl rfl h3 (by omega) rfl rfl ?_
        refine sIx T25 S3 rfl rfl (by omega) ?_
        refine sSt (v := nv x1) S3 rfl rfl (gS rfl hb) (by simp; omega) rfl rfl ?_
        refine sNil (kBlkN (kSeqN ?_))
        refine cRegion ?_
        refine sMv (v := nv _) rfl ?_
        refine sBin (v := nv 0) rfl rfl (aInt_sub (a := 1) (b := 1) (by omega)) ?_
        refine sAs (v := nv _) rfl ?_
        refine sNil (kSeqN ?_)
        exact ⟨0, by omega, 0, rfl, .inr ⟨rfl, hlt, rfl⟩, rfl, rfl, rfl, rfl, rfl, trivial⟩
      ·
        refine cExit (kSeqE (kSeqE (kBlkS (kBlkN (kSeqN ?_)))))
        refine cRegion ?_
        refine sMv (v := nv _) rfl ?_
        refine sBin rfl rfl (aInt_add (b := 1) (by omega)) ?_
        refine sAs (v := nv _) rfl ?_
        refine sNil (kSeqN ?_)
        refine ⟨0, by omega, 2, rfl, .inr ⟨rfl, rfl, ?_⟩, rfl, rfl, rfl, rfl, trivial⟩
        have hs : sort2 [x0, x1] = [x0, x1] := by unfold sort2; simp only; rw [if_neg (by simp at c1; omega)]
        rw [hs]; exact ⟨h, rfl, fun _ _ => rfl⟩
    ·
      rw [decide_eq_false h7]
      refine lGno (q' := false) rfl rfl (by simp) fun e4 hm4 hq4 => ?_
      refine lGno (q' := false) rfl rfl (by simp) fun e5 hm5 hq5 => ?_
      refine lGno (q' := false) rfl rfl (by simp) fun e6 hm6 hq6 => ?_
      refine lGno (q' := false) rfl rfl (by simp) fun e7 hm7 hq7 => ?_
      refine lGno (q' := false) rfl rfl (by simp) fun e8 hm8 hq8 => ?_
      refine lGno (q' := false) rfl rfl (by simp) fun e9 hm9 hq9 => ?_
      refine lGno (q' := false) rfl rfl (by simp) fun e10 hm10 hq10 => ?_
      refine lGno (q' := false) rfl rfl (by simp) fun e11 hm11 hq11 => ?_
      refine lGno (q' := false) rfl rfl (by simp) fun e12 hm12 hq12 => ?_
      refine lGno (q' := false) rfl rfl (by simp) fun e13 hm13 hq13 => ?_
      refine lStepO (sP (v := .bool _) rfl (sNil fun e14 hm14 => ?_))
      refine ⟨?_, (kSeqN ?_)⟩
      ·
        refine obl_no (e := e7) (by simp) (by rfl) rfl rfl hq7 (by simp) ?_
        refine obl_no (e := e12) (by simp) (by rfl) rfl rfl hq12 (by simp) ?_
        trivial
      refine cCondF rfl ?_
      refine cExit (kSeqE (kSeqE (kBlkS (kBlkN (kSeqN ?_)))))
      refine cRegion ?_
      refine sMv (v := nv _) rfl ?_
      refine sBin rfl rfl (aInt_add (b := 1) (by omega)) ?_
      refine sAs (v := nv _) rfl ?_
      refine sNil (kSeqN ?_)
      obtain ⟨rfl, hlt, rfl⟩ : k = 0 ∧ x1 < x0 ∧ _ := by
        rcases hst2 with h | h
        · omega
        · exact h
      refine ⟨0, by omega, 2, rfl, .inr ⟨rfl, rfl, ?_⟩, rfl, rfl, rfl, rfl, trivial⟩
      have hs : sort2 [x0, x1] = [x1, x0] := by unfold sort2; simp only; rw [if_pos hlt]
      rw [hs]; exact own_set2 h2 h3 (by omega) h5
  ·
    refine cExit (kSeqE (kSeqE (kBlkS ?_)))
    refine ⟨.inl rfl, _, rfl, ?_⟩
    rcases hst with ⟨rfl, rfl⟩ | ⟨rfl, h2, h3⟩
    · exact hrfl (by omega)
    · exact h3

def H100 : Nat → List (Nat × Nat) := fun id => if id = 17 then [(7,13),(11,13)] else []
theorem okf100 : okF Tryd.prog H100 100 134 = true := by kernel_rfl
theorem spec_pdq2 {m : Mem} {N l : Nat} {v : Value} {L : List Nat} (h : OwnF N m v (ofs L)) (hl : L.length ≤ 2) : ∃ w m', ACalls Tryd.prog 100 #[v, nv 0, nv L.length, nv l] m w m' ∧ (Sorted2 N v (sort2 L) m m') := by
  obtain ⟨w5, m5, h5, k5⟩ := spec_insert2 h hl
  obtain ⟨qv, cv, rfl⟩ := h.ints.lenN
  refine wpF (args := [_, _, _, _]) mixed okf100 (fn := Tryd.f100) rfl rfl rfl (by simp) ?_
  refine cSeq ?_
  refine cRegion ?_
  refine sAs (v := .bool _) rfl ?_
  refine sNil (kSeqN ?_)
  refine cSeq ?_
  refine cRegion ?_
  refine sAs (v := .bool _) rfl ?_
  refine sNil (kSeqN ?_)
  refine cBlock ?_
  refine wpC_loop (fun k ρ m' => m = m' ∧ Has ρ [(0, .slice qv L.length cv), (1, nv 0), (2, nv L.length)]) (k := 0) ⟨rfl, rfl, rfl, rfl, trivial⟩ ?_
  rintro k ρ _ ⟨rfl, hh⟩
  rw [hh.env]; clear hh
  refine cBlock ?_
  refine cSeq ?_
  refine cRegion ?_
  refine sMv (v := nv _) rfl ?_
  refine sMv (v := nv _) rfl ?_
  refine sBin (v := nv L.length) rfl rfl (aInt_sub (a := L.length) (b := 0) (by omega)) ?_
  refine sAs (v := nv _) rfl ?_
  refine sNil (kSeqN ?_)
  refine cSeq ?_   -- seq 3
  refine cSeq ?_
  refine cRegion ?_
  refine sMv (v := nv _) rfl ?_
  refine sBin (b := 12) rfl rfl aInt_leq ?_
  refine sNil (kSeqN ?_)
  refine cCondT' rfl (by omega) ?_
  refine cSeq ?_
  refine cRegion ?_
  refine sMv (v := .slice _ _ _) rfl ?_
  refine sMv (v := nv _) rfl ?_
  refine sMv (v := nv _) rfl ?_
  refine sCall3 rfl call105 rfl rfl rfl h5 ?_
  refine sNil (kSeqN ?_)
  refine cRet (kSeqR (kBlkR (kSeqR (kBlkR ?_))))
  exact ⟨.inr rfl, _, rfl, k5⟩

theorem okf85 : okF Tryd.prog H0 85 11 = true := by kernel_rfl
theorem spec_Sort2 {m : Mem} {N : Nat} {v : Value} {L : List Nat} (h : OwnF N m v (ofs L)) (hl : L.length ≤ 2) : ∃ w m', ACalls Tryd.prog 85 #[v] m w m' ∧ (Sorted2 N v (sort2 L) m m') := by
  obtain ⟨w5, m5, h5, k5⟩ := spec_pdq2 (l := lenT L.length) h hl
  obtain ⟨qv, cv, rfl⟩ := h.ints.lenN
  refine wpF (args := [_]) mixed okf85 (fn := Tryd.f85) rfl rfl rfl (by simp) ?_
  refine cSeq ?_
  refine cRegion ?_
  refine sMv (v := .slice _ _ _) rfl ?_
  refine sLen T25 rfl ?_
  refine sAs (v := nv _) rfl ?_
  refine sNil (kSeqN ?_)
  refine cRegion ?_
  refine sMv (v := .slice _ _ _) rfl ?_
  refine sMv (v := nv _) rfl ?_
  refine sMv (v := nv _) rfl ?_
  refine sP (v := .int .u64 (Int.ofNat L.length)) (conv3_104s hl) ?_
  refine sCall1 rfl call101 rfl (spec_Len hl) ?_
  refine sCall4 rfl call100 rfl rfl rfl rfl h5 ?_
  refine sNil ?_
  exact ⟨.inl rfl, _, rfl, k5⟩

end Go.AM

/-! ### P22 -/
namespace Go.AM
open Go.Proofs
set_option maxRecDepth 100000
set_option linter.unusedVariables false
set_option linter.unusedSimpArgs false
theorem El22 : ElemT Tryd.prog 22 22 1 := ⟨_, _, _, 24, T22, T22, rfl, S25, Z25, rfl, bytes25, by decide, by decide⟩
theorem fillV {q : Option Addr} {n c : Nat} : Instr.fill (fun i => some (i * 1, 1)) (if 1 * 1 = 0 then #[] else (Array.range (1 * 1)).map ((Value.slice none 0 0).cells[· % (Value.slice none 0 0).cells.size]!)) [(0, .slice q n c)] = some #[.slice q n c] := by kernel_rfl
theorem OwnR.set {N b : Nat} {m : Mem} {v : Value} {cs : Array Value} {G : List (List Int)} (h : OwnR N m v cs G) (hv : blkOf v ≠ some b) (hr : ∀ (i : Nat) (s : Value), cs[i]? = some s → blkOf s ≠ some b) (o : AObj) : OwnR N (m.setIfInBounds b o) v cs G :=
  ⟨h.1.keep fun c hc => gSn fun e => hv (by rw [e, hc]), fun i g hi => by
    obtain ⟨s, hs, ho, hb⟩ := h.2 i g hi
    exact ⟨s, hs, ho.keep fun c hc => gSn fun e => hr i s hs (by rw [e, hc]), hb⟩⟩
theorem lineM_succ {i : Nat} (h : 1 ≤ i) : lineM (i + 1) = lineM i ++ [[i - 1]] := by
  unfold lineM lineAt
  rw [List.range_succ, List.map_append, List.map_cons, List.map_nil, if_pos ⟨h, by omega⟩]
  congr 1
  refine List.map_congr_left fun j hj => ?_
  have := List.mem_range.1 hj
  by_cases h1 : 1 ≤ j
  · rw [if_pos ⟨h1, by omega⟩, if_pos ⟨h1, by omega⟩]
  · rw [if_neg (by omega), if_neg (by omega)]

theorem okf75 : okF Tryd.prog H0 75 45 = true := by kernel_rfl
theorem spec_refBennett0 : ∀ (f : Nat) {n a : Nat} {m : Mem}, 1 ≤ n → n ≤ f → f ≤ 10 → a ≤ 1000 * (11 - f) → ∃ v m', ACalls Tryd.prog 75 #[nv a, nv n] m v m' ∧ (OwnF m.size m' v (ofs (benF f a n)) ∧ Ext m m')
 | 0, _, _, _, h1, h2, _, _ => absurd (Nat.le_trans h1 h2) (by omega)
 | f + 1, n, a, m, h1, h2, h3, h4 => by
  have hbl : ∀ a' n', (benF f a' n').length ≤ 19683 := fun a' n' => Nat.le_trans (benF_len f a' n') (Nat.le_trans (Nat.pow_le_pow_right (n := 3) (by omega) (show f ≤ 9 by omega)) (by decide))
  refine wpF (args := [_, _]) mixed okf75 (fn := Tryd.f75) rfl rfl rfl (by simp) ?_
  refine cSeq ?_
  refine cRegion ?_
  refine sAs (v := .slice _ _ _) rfl ?_
  refine sNil (kSeqN ?_)
  refine cSeq ?_   -- seq 1
  refine cSeq ?_
  refine cRegion ?_
  refine sMv (v := nv _) rfl ?_
  refine sBin (b := 1) rfl rfl aInt_eql ?_
  refine sNil (kSeqN ?_)
  refine cCond rfl (fun c0 => ?_) (fun c0 => ?_)
  ·
    refine cSeq ?_
    refine cRegion ?_
    refine sMv (v := nv _) rfl ?_
    refine sBuildS T25 S3 Z3 (by decide) (by decide) (by decide) (by kernel_rfl) fill1 rfl ?_
    refine sAs (v := .slice _ _ _) rfl ?_
    refine sNil (kSeqN ?_)
    refine cRet (kSeqR ?_)
    refine ⟨.inr rfl, _, rfl, ?_, .push _ _⟩
    rw [benF, if_pos c0]
    exact .ofCells (l := [a]) (r := []) (Nat.le_refl _) (gP rfl)
  ·
    have hh1 : (n + 1) / 2 ≤ f := by omega
    have hh2 : 1 ≤ (n + 1) / 2 := by omega
    have hh3 : 1 ≤ n - (n + 1) / 2 := by omega
    have hbe : benF (f + 1) a n = benF f a ((n + 1) / 2) ++ (benF f (a + (n + 1) / 2) (n - (n + 1) / 2) ++ (benF f a ((n + 1) / 2)).reverse) := by rw [benF, if_neg c0]
    rw [hbe]
    clear hbe
    generalize hhd : (n + 1) / 2 = h at *
    have hb1 := hbl a h
    have hb2 := hbl (a + h) (n - h)
    refine cSkip (kSeqN ?_)
    refine cSeq ?_
    refine cRegion ?_
    refine sMv (v := nv _) rfl ?_
    refine sBin (b := 1) rfl rfl (aInt_add (by omega)) ?_
    refine sBin (v := nv h) (a := n + 1) (b := 2) rfl rfl (by rw [← hhd]; exact aInt_quo (by omega)) ?_
    refine sAs (v := nv _) rfl ?_
    refine sNil (kSeqN ?_)
    refine cSeq ?_
    refine cRegion ?_
    refine sMv (v := nv _) rfl ?_
    refine sMv (v := nv _) rfl ?_
    obtain ⟨v18, m18, h18, o18, k18⟩ := spec_refBennett0 f (n := h) (a := a) (m := m) hh2 hh1 (by omega) (by omega)
    have i18 := o18.ints
    obtain ⟨q18, c18, rfl⟩ := i18.lenN
    refine sCall2 rfl call75 rfl rfl h18 ?_
    refine sAs (v := .slice _ _ _) rfl ?_
    refine sNil (kSeqN ?_)
    refine cSeq ?_
    refine cRegion ?_
    refine sBuildS (c := #[]) T25 S3 Z3 (by decide) (by decide) (by decide) (by kernel_rfl) rfl rfl ?_
    refine sMv (v := .slice _ _ _) rfl ?_
    refine sApp App25 rfl rfl (N := m18.size) (p := []) (.inr ⟨m18.size, 0, #[], rfl, Nat.le_refl _, gP rfl, by simp, by simp, by simp⟩) (i18.ext (.push _ _)) (by simp) (by simp; omega) fun v21 m21 hO21 hL21 => ?_
    rw [List.nil_append] at hO21
    obtain ⟨q21, c21, rfl⟩ := hO21.ints.lenN
    have e21 : Ext m18 m21 := Low.to_ext (.push _ _) hL21 (Nat.le_refl _)
    refine sMv (v := nv _) rfl ?_
    refine sMv (v := nv _) rfl ?_
    refine sBin rfl rfl (aInt_add (by omega)) ?_
    refine sMv (v := nv _) rfl ?_
    refine sMv (v := nv _) rfl ?_
    refine sBin rfl rfl (aInt_sub (by omega)) ?_
    obtain ⟨v28, m28, h28, o28, k28⟩ := spec_refBennett0 f (n := n - h) (a := a + h) (m := m21) hh3 (by omega) (by omega) (by omega)
    have i28 := o28.ints
    obtain ⟨q28, c28, rfl⟩ := i28.lenN
    refine sCall2 rfl call75 rfl rfl h28 ?_
    refine sApp App25 rfl rfl (N := m18.size) (hO21.ext k28) i28 (by have := e21.1; have := k28.1; omega) (by simp; omega) fun v29 m29 hO29 hL29 => ?_
    rw [← ofs_append] at hO29
    obtain ⟨q29, c29, rfl⟩ := hO29.ints.lenN
    have e29 : Ext m18 m29 := Low.to_ext (e21.trans k28) hL29 (Nat.le_refl _)
    generalize hB : benF f a h = B at *
    generalize hC : benF f (a + h) (n - h) = C at *
    refine sAs (v := .slice _ _ _) rfl ?_
    refine sNil (kSeqN ?_)
    refine cSeq ?_
    refine cSeq ?_
    refine cRegion ?_
    refine sMv (v := .slice _ _ _) rfl ?_
    refine sLen T25 rfl ?_
    refine sBinI (v := .int .i64 (Int.ofNat B.length - 1)) (a := Int.ofNat B.length) (b := 1) rfl rfl (aInt_subI (by simp; omega)) ?_
    refine sAs (v := .int _ _) rfl ?_
    refine sNil (kSeqN ?_)
    refine cBlock ?_
    refine wpC_loop (fun k ρ m' => ∃ i v, k = i ∧ i ≤ B.length ∧ Low m18.size m18 m' ∧ OwnF m18.size m' v (ofs (B ++ (C ++ (B.drop i).reverse))) ∧ Has ρ [(6, .slice q18 B.length c18), (7, v), (8, .int .i64 (Int.ofNat i - 1))]) ⟨B.length, _, rfl, Nat.le_refl _, e29, by rw [List.drop_length, List.reverse_nil, List.append_nil]; exact hO29, rfl, rfl, rfl, trivial⟩ ?_
    rintro k ρ m' ⟨i, v, rfl, hi, hLo, hO, hh⟩
    obtain ⟨qv, cv, rfl⟩ := hO.ints.lenN
    rw [hh.env]; clear hh
    refine cSeq ?_   -- seq 9
    refine cSeq ?_
    refine cRegion ?_
    refine sMv (v := .int _ _) rfl ?_
    refine sBinI (b := 0) rfl rfl aInt_geqI ?_
    refine sNil (kSeqN ?_)
    refine cCond rfl (fun c1 => ?_) (fun c1 => ?_)
    ·
      obtain ⟨j, rfl⟩ : ∃ j, k = j + 1 := ⟨k - 1, by simp at c1; omega⟩
      have hj : Int.ofNat (j + 1) - 1 = Int.ofNat j := by simp
      rw [hj]
      obtain ⟨b1, o1, p1, r1, cc, e1, gg, x1⟩ := (i18.ext hLo).atN (by omega)
      cases e1
      refine cSkip (kSeqN ?_)
      refine cSeq ?_
      refine cBlock ?_
      refine cRegion ?_
      refine sMv (v := .slice _ _ _) rfl ?_
      refine sMv (v := .slice _ _ _) rfl ?_
      refine sMv (v := nv j) rfl ?_
      refine sIx T25 S3 rfl rfl (by omega) ?_
      refine sLd (v := nv B[j]) A3 rfl gg (x1 j B[j] (by simp)) ?_
      refine sBuildS T25 S3 Z3 (by decide) (by decide) (by decide) (by kernel_rfl) fill1 rfl ?_
      refine sApp App25 rfl rfl (N := m18.size) (hO.ext (.push _ _)) one_ints (by have := hLo.1; simp; omega) (by simp; omega) fun v3 m3 hO3 hL3 => ?_
      rw [show ofs (B ++ (C ++ (B.drop (j + 1)).reverse)) ++ [Int.ofNat B[j]] = ofs (B ++ (C ++ (B.drop j).reverse)) by rw [drop_cons (show j < B.length by omega), List.reverse_cons]; simp [ofs]] at hO3
      obtain ⟨q3, cp3, rfl⟩ := hO3.ints.lenN
      refine sAs (v := .slice _ _ _) rfl ?_
      refine sNil (kBlkN (kSeqN ?_))
      refine cRegion ?_
      refine sMv (v := nv j) rfl ?_
      refine sBinI (v := .int .i64 (Int.ofNat j - 1)) (a := Int.ofNat j) (b := 1) rfl rfl (aInt_subI (by simp; omega)) ?_
      refine sAs (v := .int _ _) rfl ?_
      refine sNil (kSeqN ?_)
      exact ⟨j, by omega, j, _, rfl, by omega, hLo.trans ((Low.push _ hLo.1 _).trans hL3), hO3, rfl, rfl, rfl, trivial⟩
    ·
      refine cExit (kSeqE (kSeqE (kBlkS (kSeqN ?_))))
      refine cSeq ?_
      refine cRegion ?_
      refine sMv (v := .slice _ _ _) rfl ?_
      refine sAs (v := .slice _ _ _) rfl ?_
      refine sNil (kSeqN ?_)
      refine cRet ?_
      obtain rfl : k = 0 := by simp at c1; omega
      exact ⟨.inr rfl, _, rfl, by rw [List.drop_zero] at hO; exact hO.mono k18.1, k18.trans hLo⟩

theorem okf34 : okF Tryd.prog H0 34 12 = true := by kernel_rfl
theorem spec_refBennett {m : Mem} {n : Int} : ∃ v m', ACalls Tryd.prog 34 #[.int .i64 n] m v m' ∧ (∃ w, v = .tuple #[w, nv (benE n)] ∧ OwnF m.size m' w (ofs (ifOk (benE n) (benM n.toNat) [])) ∧ Ext m m') := by
  unfold benE
  refine wpF (args := [_]) mixed okf34 (fn := Tryd.f34) rfl rfl rfl (by simp) ?_
  refine cSeq ?_
  refine cRegion ?_
  refine sAs (v := .slice _ _ _) rfl ?_
  refine sAs (v := nv 0) rfl ?_
  refine sNil (kSeqN ?_)
  refine cSeq ?_   -- seq 1
  refine cSeq ?_
  refine cRegion ?_
  refine sMv (v := .int _ _) rfl ?_
  refine sBinI (v := .bool (decide (n < 1))) rfl rfl rfl ?_
  refine sMv (v := .bool _) rfl ?_
  by_cases h1 : n < 1
  ·
    rw [decide_eq_true h1]
    refine sGno (q' := true) rfl rfl (by simp) ?_
    refine sGno (q' := true) rfl rfl (by simp) ?_
    refine sP (v := .bool _) rfl ?_
    refine sNil (kSeqN ?_)
    refine cCondT rfl ?_
    refine cSeq ?_
    refine cRegion ?_
    refine sAs (v := .slice _ _ _) rfl ?_
    refine sAs (v := nv 2) rfl ?_
    refine sNil (kSeqN ?_)
    refine cRet (kSeqR ?_)
    exact ⟨.inr rfl, _, rfl, _, by rw [if_pos (.inl h1)]; rfl, by rw [if_pos (.inl h1), ifOk_n (by decide)]; exact .nil _ _, .refl _⟩
  ·
    rw [decide_eq_false h1]
    refine sG rfl rfl ?_
    refine sMv (v := .int _ _) rfl ?_
    refine sG rfl rfl ?_
    refine sBinI (v := .bool (decide (n > 10))) rfl rfl rfl ?_
    refine sP (v := .bool _) rfl ?_
    refine sNil (kSeqN ?_)
    refine cCond (p := n > 10) rfl (fun c1 => ?_) (fun c1 => ?_)
    ·
      refine cSeq ?_
      refine cRegion ?_
      refine sAs (v := .slice _ _ _) rfl ?_
      refine sAs (v := nv 2) rfl ?_
      refine sNil (kSeqN ?_)
      refine cRet (kSeqR ?_)
      exact ⟨.inr rfl, _, rfl, _, by rw [if_pos (.inr c1)]; rfl, by rw [if_pos (.inr c1), ifOk_n (by decide)]; exact .nil _ _, .refl _⟩
    ·
      rw [if_neg (by omega), ifOk_0 rfl]
      obtain ⟨N, rfl⟩ : ∃ N : Nat, n = Int.ofNat N := ⟨n.toNat, by simp; omega⟩
      have hN1 : 1 ≤ N := by simp at h1; omega
      have hN : N ≤ 10 := by simp at c1; omega
      refine cSkip (kSeqN ?_)
      refine cSeq ?_
      refine cRegion ?_
      refine sMv (v := nv N) rfl ?_
      obtain ⟨v14, m14, h14, o14, k14⟩ := spec_refBennett0 10 (n := N) (a := 0) (m := m) hN1 hN (by omega) (by omega)
      obtain ⟨q14, c14, rfl⟩ := o14.ints.lenN
      refine sCall2 rfl call75 rfl rfl h14 ?_
      refine sAs (v := .slice _ _ _) rfl ?_
      refine sAs (v := nv 0) rfl ?_
      refine sNil (kSeqN ?_)
      refine cRet ?_
      exact ⟨.inr rfl, _, rfl, _, rfl, o14, k14⟩

theorem okf30 : okF Tryd.prog H0 30 29 = true := by kernel_rfl
theorem spec_refLine {m : Mem} {n : Int} : ∃ v m', ACalls Tryd.prog 30 #[.int .i64 n] m v m' ∧ (∃ w cs, v = .tuple #[.agg #[w], nv (benE n)] ∧ OwnR m.size m' w cs (ofs2 (ifOk (benE n) (lineM n.toNat) [])) ∧ Ext m m') := by
  unfold benE
  refine wpF (args := [_]) mixed okf30 (fn := Tryd.f30) rfl rfl rfl (by simp) ?_
  refine cSeq ?_
  refine cRegion ?_
  refine sAlloc Z24 (by kernel_rfl) ?_
  refine sAs (v := nv 0) rfl ?_
  refine sNil (kSeqN ?_)
  refine cSeq ?_   -- seq 1
  refine cSeq ?_
  refine cRegion ?_
  refine sMv (v := .int _ _) rfl ?_
  refine sBinI (v := .bool (decide (n < 1))) rfl rfl rfl ?_
  refine sMv (v := .bool _) rfl ?_
  by_cases h1 : n < 1
  ·
    rw [decide_eq_true h1]
    refine sGno (q' := true) rfl rfl (by simp) ?_
    refine sGno (q' := true) rfl rfl (by simp) ?_
    refine sP (v := .bool _) rfl ?_
    refine sNil (kSeqN ?_)
    refine cCondT rfl ?_
    refine cSeq ?_
    refine cRegion ?_
    refine sBuild B24_0 ?_
    refine sStAll S24 rfl rfl (by simp (disch := first | omega | (simp only [Array.size_push, Array.size_setIfInBounds]; done) | (simp only [Array.size_push, Array.size_setIfInBounds]; omega)) only [gP, gPn, gS, gSn]; try rfl) rfl rfl (by kernel_rfl) ?_
    refine sAs (v := nv 2) rfl ?_
    refine sNil (kSeqN ?_)
    refine cRet (kSeqR ?_)
    exact ⟨.inr rfl, _, resRs_agg2 A24 S24 rfl (gS rfl (by simp)) rfl, _, _, by rw [if_pos (.inl h1)]; rfl, by rw [if_pos (.inl h1), ifOk_n (by decide)]; exact .nil _ _, (Ext.push _ _).set (Nat.le_refl _) _⟩
  ·
    rw [decide_eq_false h1]
    refine sG rfl rfl ?_
    refine sMv (v := .int _ _) rfl ?_
    refine sG rfl rfl ?_
    refine sBinI (v := .bool (decide (n > 10))) rfl rfl rfl ?_
    refine sP (v := .bool _) rfl ?_
    refine sNil (kSeqN ?_)
    refine cCond (p := n > 10) rfl (fun c1 => ?_) (fun c1 => ?_)
    ·
      refine cSeq ?_
      refine cRegion ?_
      refine sBuild B24_0 ?_
      refine sStAll S24 rfl rfl (by simp (disch := first | omega | (simp only [Array.size_push, Array.size_setIfInBounds]; done) | (simp only [Array.size_push, Array.size_setIfInBounds]; omega)) only [gP, gPn, gS, gSn]; try rfl) rfl rfl (by kernel_rfl) ?_
      refine sAs (v := nv 2) rfl ?_
      refine sNil (kSeqN ?_)
      refine cRet (kSeqR ?_)
      exact ⟨.inr rfl, _, resRs_agg2 A24 S24 rfl (gS rfl (by simp)) rfl, _, _, by rw [if_pos (.inr c1)]; rfl, by rw [if_pos (.inr c1), ifOk_n (by decide)]; exact .nil _ _, (Ext.push _ _).set (Nat.le_refl _) _⟩
    ·
      rw [if_neg (by omega), ifOk_0 rfl]
      obtain ⟨N, rfl⟩ : ∃ N : Nat, n = Int.ofNat N := ⟨n.toNat, by simp; omega⟩
      have hN1 : 1 ≤ N := by simp at h1; omega
      have hN : N ≤ 10 := by simp at c1; omega
      refine cSkip (kSeqN ?_)
      refine cSeq ?_
      refine cRegion ?_
      refine sBuildS (c := #[.slice none 0 0]) T22 S25 Z25 (by decide) (by decide) (by decide) (by kernel_rfl) (by kernel_rfl) rfl ?_
      refine sBuild B24_1 ?_
      refine sAllocB (bl := m.size + 2) (by simp) Z24 (by kernel_rfl) ?_
      refine sStNAB (by simp) S24 rfl rfl rfl rfl (by kernel_rfl) ?_
      refine sNil (kSeqN ?_)
      refine cSeq ?_
      refine cSeq ?_
      refine cRegion ?_
      refine sAs (v := nv 1) rfl ?_
      refine sNil (kSeqN ?_)
      refine cBlock ?_
      refine wpC_loop (fun k ρ m' => ∃ i v cs, k = N - i ∧ 1 ≤ i ∧ i ≤ N ∧ Low (m.size + 1) (m.push (.cells true #[.slice none 0 0])) m' ∧ m.size + 3 ≤ m'.size ∧ Mem.get m' (m.size + 2) = .cells true #[v] ∧ OwnR (m.size + 1) m' v cs (ofs2 (lineM i)) ∧ blkOf v ≠ some (m.size + 2) ∧ (∀ (j : Nat) (s : Value), cs[j]? = some s → blkOf s ≠ some (m.size + 2)) ∧ Has ρ [(0, nv N), (2, .pointer (some ⟨m.size, 0, none⟩)), (4, .pointer (some ⟨m.size + 2, 0, none⟩)), (5, nv i)]) ⟨1, .slice (some ⟨m.size + 1, 0, some 1⟩) 1 1, #[.slice none 0 0], rfl, Nat.le_refl _, hN1, ?_, by simp, ?_, ?_, ?_, ?_, rfl, ?_, ?_, rfl, trivial⟩ ?_
      · exact (Low.push _ (by simp) _).trans (.push _ (by simp) _)
      · rw [gP (by simp)]; simp
      · refine ⟨.inr ⟨m.size + 1, 1, #[.slice none 0 0], rfl, Nat.le_refl _, by rw [gPn (by simp), gP (by simp)], Nat.le_refl _, rfl, rfl, fun j _ => rfl⟩, fun j g hj => ?_⟩
        match j, hj with
        | 0, hj => cases hj; exact ⟨_, rfl, .nil _ _, fun b hb => by cases hb⟩
        | j + 1, hj => simp [lineM, lineAt, ofs2] at hj
      · intro e; have := Option.some.inj e; simp at this
      · intro j s hs
        match j, hs with
        | 0, hs => cases hs; intro e; cases e
        | j + 1, hs => simp at hs
      · rfl
      · rfl
      rintro k ρ m' ⟨i, v, cs, rfl, hi1, hi, hLo, hz, g2, hO, hv, hr, hh⟩
      obtain ⟨qv, cv, rfl⟩ := hO.1.len
      rw [hh.env]; clear hh
      refine cSeq ?_   -- seq 8
      refine cSeq ?_
      refine cRegion ?_
      refine sMv (v := nv _) rfl ?_
      refine sMv (v := nv N) rfl ?_
      refine sBin rfl rfl (aInt_lss) ?_
      refine sNil (kSeqN ?_)
      refine cCond rfl (fun c2 => ?_) (fun c2 => ?_)
      ·
        have hln : (ofs2 (lineM i)).length = i := by rw [ofs2_length]; simp [lineM]
        refine cSkip (kSeqN ?_)
        refine cSeq ?_
        refine cBlock ?_
        refine cRegion ?_
        refine sFA F24_0 rfl ?_
        refine sLd (v := .slice _ _ _) A22 rfl (by simp (disch := first | omega | (simp only [Array.size_push, Array.size_setIfInBounds]; done) | (simp only [Array.size_push, Array.size_setIfInBounds]; omega)) only [gP, gPn, gS, gSn, g2]; try rfl) rfl ?_
        refine sMv (v := nv _) rfl ?_
        refine sBin (v := nv (i - 1)) rfl rfl (aInt_sub (b := 1) (by omega)) ?_
        refine sBuildS T25 S3 Z3 (by decide) (by decide) (by decide) (by kernel_rfl) fill1 rfl ?_
        refine sBuildS T22 S25 Z25 (by decide) (by decide) (by decide) (by kernel_rfl) fillV rfl ?_
        refine sAppC El22 rfl rfl (N := m.size + 1) (n := (ofs2 (lineM i)).length) (cs := cs) (d := #[.slice (some ⟨m'.size, 0, some 1⟩) 1 1]) ((hO.ext (.push _ _)).ext (.push _ _)).1 (gP rfl) rfl (by kernel_rfl) (by simp; omega) (by omega) fun v' m4 hO4 hL4 hG4 => ?_
        have hrow : OwnF (m.size + 1) ((m'.push (.cells true #[nv (i - 1)])).push (.cells true #[.slice (some ⟨m'.size, 0, some 1⟩) 1 1])) (.slice (some ⟨m'.size, 0, some 1⟩) 1 1) (ofs [i - 1]) :=
          OwnF.ofCells (l := [i - 1]) (r := []) (by omega) (by rw [gPn (by simp), gP rfl]; rfl)
        have hgr := ((hO.ext (.push _ _)).ext (.push _ _)).grew hrow (fun b hb e => by
          have h2 := (hO.1.lt e).2
          have h3 : m'.size = b := Option.some.inj hb
          omega) hG4 hO4
        have g24 : Mem.get m4 (m.size + 2) = .cells true #[.slice qv (ofs2 (lineM i)).length cv] := by rw [hG4.2.1 _ (by simp; omega) hv, gPn (by simp; omega), gPn (by omega), g2]
        obtain ⟨q4, cp4, rfl⟩ := hO4.len
        refine sFA F24_0 rfl ?_
        refine sSt (v := .slice _ _ _) S22 rfl rfl g24 (by simp) rfl rfl ?_
        refine sNil (kBlkN (kSeqN ?_))
        refine cRegion ?_
        refine sMv (v := nv _) rfl ?_
        refine sBin rfl rfl (aInt_add (b := 1) (by omega)) ?_
        refine sAs (v := nv _) rfl ?_
        refine sNil (kSeqN ?_)
        have hr' : ∀ (j : Nat) (s : Value), (cs ++ #[.slice (some ⟨m'.size, 0, some 1⟩) 1 1])[j]? = some s → blkOf s ≠ some (m.size + 2) := fun j s hs => by
          by_cases hj : j < cs.size
          · rw [Array.getElem?_append_left hj] at hs; exact hr j s hs
          · rw [Array.getElem?_append_right (by omega)] at hs
            match hd : j - cs.size, hs with
            | 0, hs =>
              obtain rfl := Option.some.inj hs
              intro e; have := Option.some.inj e; simp at this; omega
            | d + 1, hs => simp at hs
        have hv' := hG4.off hv (by simp; omega)
        refine ⟨_, ?_, i + 1, .slice q4 ((ofs2 (lineM i)).length + 1) cp4, cs ++ #[.slice (some ⟨m'.size, 0, some 1⟩) 1 1], rfl, by omega, by omega, hLo.trans ((Low.push _ (by omega) _).trans ((Low.push _ (by simp; omega) _).trans (hL4.trans (.set (by omega) _)))), ?_, by rw [gS rfl (live g24)]; rfl, ?_, hv', hr', rfl, rfl, rfl, rfl, trivial⟩
        · omega
        · have := hG4.1; simp only [Array.size_push] at this; simp only [Array.size_setIfInBounds]; omega
        · have := hgr.set hv' hr' (.cells true #[.slice q4 ((ofs2 (lineM i)).length + 1) cp4])
          rw [lineM_succ hi1, show ofs2 (lineM i ++ [[i - 1]]) = ofs2 (lineM i) ++ [ofs [i - 1]] by simp [ofs2]]
          exact this
      ·
        obtain rfl : i = N := by omega
        have g0 := hLo.cells (show m.size < m.size + 1 by omega) (gP rfl)
        refine cExit (kSeqE (kSeqE (kBlkS (kSeqN ?_))))
        refine cSeq ?_
        refine cRegion ?_
        refine sLdAll A24 S24 rfl (by simp (disch := first | omega | (simp only [Array.size_push, Array.size_setIfInBounds]; done) | (simp only [Array.size_push, Array.size_setIfInBounds]; omega)) only [gP, gPn, gS, gSn, g2, g0]; try rfl) rfl ?_
        refine sStAll S24 rfl rfl (by simp (disch := first | omega | (simp only [Array.size_push, Array.size_setIfInBounds]; done) | (simp only [Array.size_push, Array.size_setIfInBounds]; omega)) only [gP, gPn, gS, gSn, g2, g0]; try rfl) rfl rfl (by kernel_rfl) ?_
        refine sAs (v := nv 0) rfl ?_
        refine sNil (kSeqN ?_)
        refine cRet ?_
        refine ⟨.inr rfl, _, resRs_agg2 A24 S24 rfl (gS rfl (live g0)) rfl, _, cs, rfl, (hO.only (.set m.size _ _) (by omega)).mono (by omega), Low.to_ext ((Ext.push _ _)) (hLo.le (Nat.le_succ _) |>.trans (.set (Nat.le_refl _) _)) (Nat.le_refl _)⟩

end Go.AM

/-! ### P23 -/
namespace Go.AM
open Go.Proofs
set_option maxRecDepth 100000
set_option linter.unusedVariables false
set_option linter.unusedSimpArgs false
theorem treeAt_get {W j : Nat} (hj : j < 2 * W - 1) : (treeAt W (W - 1))[j]? = some (if W ≤ j then [2 * (j - W), 2 * (j - W) + 1] else []) := by
  simp only [treeAt, List.getElem?_map, List.getElem?_range hj, Option.map_some]
  congr 1
  by_cases h : W ≤ j
  · rw [if_pos h, if_pos (by omega)]
  · rw [if_neg h, if_neg (by omega)]
def treeTo (W c : Nat) : List (List Nat) := (treeAt W (W - 1)).take c
theorem treeTo_len {W c : Nat} (h : c ≤ 2 * W - 1) : (treeTo W c).length = c := by
  rw [treeTo, List.length_take, treeAt_length]; omega
theorem treeTo_succ {W c : Nat} (h : c < 2 * W - 1) : treeTo W (c + 1) = treeTo W c ++ [if W ≤ c then [2 * (c - W), 2 * (c - W) + 1] else []] := by
  have hl : c < (treeAt W (W - 1)).length := by rw [treeAt_length]; exact h
  rw [treeTo, List.take_succ_eq_append_getElem hl, treeTo]
  have := treeAt_get h
  rw [List.getElem?_eq_getElem hl] at this
  rw [Option.some.inj this]
theorem treeTo_all (W : Nat) : treeTo W (2 * W - 1) = treeAt W (W - 1) := by
  rw [treeTo, List.take_of_length_le (by rw [treeAt_length]; exact Nat.le_refl _)]

structure TreeI (m : Mem) (W c : Nat) (v : Value) (cs : Array Value) (m' : Mem) : Prop where
  low : Low (m.size + 1) (m.push (.cells true #[.slice none 0 0])) m'
  sz : m.size + 2 ≤ m'.size
  g : Mem.get m' (m.size + 1) = .cells true #[v]
  own : OwnR (m.size + 1) m' v cs (ofs2 (treeTo W c))
  off : blkOf v ≠ some (m.size + 1)
  offs : ∀ (j : Nat) (s : Value), cs[j]? = some s → blkOf s ≠ some (m.size + 1)
theorem TreeI.ext {m : Mem} {W c : Nat} {v : Value} {cs : Array Value} {m' m'' : Mem} (h : TreeI m W c v cs m') (he : Ext m' m'') : TreeI m W c v cs m'' :=
  ⟨h.low.trans_ext he (by have := h.sz; omega), by have := h.sz; have := he.1; omega, he.cells h.g, h.own.ext he, h.off, h.offs⟩
theorem TreeI.add {m : Mem} {W c : Nat} {v v' s : Value} {cs : Array Value} {m' M4 : Mem} {row : List Nat} (h : TreeI m W c v cs m') (hs : OwnF (m.size + 2) m' s (ofs row)) (hap : ∀ b, blkOf s = some b → blkOf v ≠ some b) (hrow : treeTo W (c + 1) = treeTo W c ++ [row])
    (hO : OwnC (m.size + 1) M4 v' 1 ((ofs2 (treeTo W c)).length + 1) (cs ++ #[s])) (hL : Low (m.size + 1) (m'.push (.cells true #[s])) M4) (hG : Grew (m'.push (.cells true #[s])) v M4 v') :
    Mem.get M4 (m.size + 1) = .cells true #[v] ∧ TreeI m W (c + 1) v' (cs ++ #[s]) (M4.setIfInBounds (m.size + 1) (.cells true #[v'])) := by
  have hsz := h.sz
  have hM4 := hG.1
  simp only [Array.size_push] at hM4
  have g4 : Mem.get M4 (m.size + 1) = .cells true #[v] := by rw [hG.2.1 _ (by simp; omega) h.off, gPn (by omega), h.g]
  have hgr := (h.own.ext (.push _ (.cells true #[s]))).grew ((hs.mono (Nat.le_succ _)).ext (.push _ _)) hap hG hO
  have hv' := hG.off h.off (by simp; omega)
  have hr' : ∀ (j : Nat) (u : Value), (cs ++ #[s])[j]? = some u → blkOf u ≠ some (m.size + 1) := fun j u hu => by
    by_cases hj : j < cs.size
    · rw [Array.getElem?_append_left hj] at hu; exact h.offs j u hu
    · rw [Array.getElem?_append_right (by omega)] at hu
      match hd : j - cs.size, hu with
      | 0, hu =>
        obtain rfl : s = u := Option.some.inj hu
        intro e; have := (hs.lt e).1; omega
      | d + 1, hu => simp at hu
  refine ⟨g4, ⟨?_, by simp; omega, gS rfl (live g4), ?_, hv', hr'⟩⟩
  · exact h.low.trans ((Low.push _ (by omega) _).trans (hL.trans (.set (Nat.le_refl _) _)))
  · rw [hrow, show ofs2 (treeTo W c ++ [row]) = ofs2 (treeTo W c) ++ [ofs row] by simp [ofs2]]
    exact hgr.set hv' hr' _

theorem okf32 : okF Tryd.prog H0 32 53 = true := by kernel_rfl
theorem spec_refTree {m : Mem} {n : Int} : ∃ v m', ACalls Tryd.prog 32 #[.int .i64 n] m v m' ∧ (∃ w cs, v = .tuple #[.agg #[w], nv (treeE n)] ∧ OwnR m.size m' w cs (ofs2 (ifOk (treeE n) (treeM n.toNat) [])) ∧ Ext m m') := by
  unfold treeE
  refine wpF (args := [_]) mixed okf32 (fn := Tryd.f32) rfl rfl rfl (by simp) ?_
  refine cSeq ?_
  refine cRegion ?_
  refine sAlloc Z24 (by kernel_rfl) ?_
  refine sAs (v := nv 0) rfl ?_
  refine sNil (kSeqN ?_)
  refine cSeq ?_   -- seq 1
  refine cSeq ?_
  refine cRegion ?_
  refine sMv (v := .int _ _) rfl ?_
  refine sBinI (v := .bool (decide (n < 1))) rfl rfl rfl ?_
  refine sMv (v := .bool _) rfl ?_
  by_cases h1 : n < 1
  ·
    rw [decide_eq_true h1]
    refine sGno (q' := true) rfl rfl (by simp) ?_
    refine sGno (q' := true) rfl rfl (by simp) ?_
    refine sP (v := .bool _) rfl ?_
    refine sNil (kSeqN ?_)
    refine cCondT rfl ?_
    refine cSeq ?_
    refine cRegion ?_
    refine sBuild B24_0 ?_
    refine sStAll S24 rfl rfl (by simp (disch := first | omega | (simp only [Array.size_push, Array.size_setIfInBounds]; done) | (simp only [Array.size_push, Array.size_setIfInBounds]; omega)) only [gP, gPn, gS, gSn]; try rfl) rfl rfl (by kernel_rfl) ?_
    refine sAs (v := nv 2) rfl ?_
    refine sNil (kSeqN ?_)
    refine cRet (kSeqR ?_)
    exact ⟨.inr rfl, _, resRs_agg2 A24 S24 rfl (gS rfl (by simp)) rfl, _, _, by rw [if_pos (.inl h1)]; rfl, by rw [if_pos (.inl h1), ifOk_n (by decide)]; exact .nil _ _, (Ext.push _ _).set (Nat.le_refl _) _⟩
  ·
    rw [decide_eq_false h1]
    refine sG rfl rfl ?_
    refine sMv (v := .int _ _) rfl ?_
    refine sG rfl rfl ?_
    refine sBinI (v := .bool (decide (n > 3))) rfl rfl rfl ?_
    refine sP (v := .bool _) rfl ?_
    refine sNil (kSeqN ?_)
    refine cCond (p := n > 3) rfl (fun c1 => ?_) (fun c1 => ?_)
    ·
      refine cSeq ?_
      refine cRegion ?_
      refine sBuild B24_0 ?_
      refine sStAll S24 rfl rfl (by simp (disch := first | omega | (simp only [Array.size_push, Array.size_setIfInBounds]; done) | (simp only [Array.size_push, Array.size_setIfInBounds]; omega)) only [gP, gPn, gS, gSn]; try rfl) rfl rfl (by kernel_rfl) ?_
      refine sAs (v := nv 2) rfl ?_
      refine sNil (kSeqN ?_)
      refine cRet (kSeqR ?_)
      exact ⟨.inr rfl, _, resRs_agg2 A24 S24 rfl (gS rfl (by simp)) rfl, _, _, by rw [if_pos (.inr c1)]; rfl, by rw [if_pos (.inr c1), ifOk_n (by decide)]; exact .nil _ _, (Ext.push _ _).set (Nat.le_refl _) _⟩
    ·
      rw [if_neg (by omega), ifOk_0 rfl]
      obtain ⟨N, rfl⟩ : ∃ N : Nat, n = Int.ofNat N := ⟨n.toNat, by simp; omega⟩
      have hN1 : 1 ≤ N := by simp at h1; omega
      have hN : N ≤ 3 := by simp at c1; omega
      have hp := Nat.pow_le_pow_right (n := 2) (by omega) (show N - 1 ≤ 2 by omega)
      have hp1 := Nat.two_pow_pos (N - 1)
      have htr : treeM (Int.ofNat N).toNat = treeTo (2 ^ (N - 1)) (2 * 2 ^ (N - 1) - 1) := (treeTo_all _).symm
      rw [htr]
      refine cSkip (kSeqN ?_)
      refine cSeq ?_
      refine cRegion ?_
      refine sAllocB (bl := m.size + 1) (by simp) Z24 (by kernel_rfl) ?_
      refine sNil (kSeqN ?_)
      refine cSeq ?_
      refine cSeq ?_
      refine cRegion ?_
      refine sMv (v := nv N) rfl ?_
      refine sBin (v := nv (N - 1)) rfl rfl (aInt_sub (b := 1) (by omega)) ?_
      refine sBin rfl rfl (aInt_shl (a := 1) (b := N - 1) (by omega)) ?_
      rw [Nat.shiftLeft_eq, Nat.one_mul]
      have hWx : 2 ^ (N - 1) = 1 ∨ 2 ^ (N - 1) = 2 ∨ 2 ^ (N - 1) = 4 := by
        have : N = 1 ∨ N = 2 ∨ N = 3 := by omega
        rcases this with rfl | rfl | rfl
        · exact .inl rfl
        · exact .inr (.inl rfl)
        · exact .inr (.inr rfl)
      generalize hMM : 2 ^ (N - 1) = W at *
      refine sAs (v := nv W) rfl ?_
      refine sNil (kSeqN ?_)
      refine cBlock ?_
      refine wpC_loop (fun k ρ m' => ∃ wd c v cs, k = wd ∧ ((wd = 0 ∧ c = 2 * W - 1) ∨ ((wd = 1 ∨ wd = 2 ∨ wd = 4) ∧ wd ≤ W ∧ c = 2 * W - 2 * wd)) ∧ TreeI m W c v cs m' ∧ Has ρ [(2, .pointer (some ⟨m.size, 0, none⟩)), (4, .pointer (some ⟨m.size + 1, 0, none⟩)), (5, nv wd)]) ⟨W, 0, .slice none 0 0, #[], rfl, .inr ⟨hWx, Nat.le_refl _, by omega⟩, ⟨.push _ (by simp) _, by simp, gP (by simp), .nil _ _, by simp [blkOf], by simp⟩, rfl, rfl, rfl, trivial⟩ ?_
      rintro k ρ m' ⟨wd, c, v, cs, rfl, hwd, hT, hh⟩
      obtain ⟨qv, cv, rfl⟩ := hT.own.1.len
      rw [hh.env]; clear hh
      have hg := hT.g
      refine cSeq ?_   -- seq 8
      refine cSeq ?_
      refine cRegion ?_
      refine sMv (v := nv _) rfl ?_
      refine sBin rfl rfl (aInt_gtr (b := 0)) ?_
      refine sNil (kSeqN ?_)
      refine cCond rfl (fun c2 => ?_) (fun c2 => ?_)
      ·
        have hwd' := hwd.resolve_left (fun h => by omega)
        have hc : c ≤ 2 * W - 1 := by omega
        have hlen : (ofs2 (treeTo W c)).length = c := by rw [ofs2_length, treeTo_len hc]
        refine cSkip (kSeqN ?_)
        refine cSeq ?_
        refine cBlock ?_
        refine cSeq ?_
        refine cRegion ?_
        refine sFA F24_0 rfl ?_
        refine sLd (v := .slice _ _ _) A22 rfl (by simp (disch := first | omega | (simp only [Array.size_push, Array.size_setIfInBounds]; done) | (simp only [Array.size_push, Array.size_setIfInBounds]; omega)) only [gP, gPn, gS, gSn, hg]; try rfl) rfl ?_
        refine sLen T22 rfl ?_
        rw [hlen]
        refine sMv (v := nv _) rfl ?_
        refine sBin (a := 2) (b := k) rfl rfl (aInt_mul (by omega)) ?_
        refine sBinI (v := .int .i64 (Int.ofNat c - Int.ofNat (2 * k))) (a := Int.ofNat c) (b := Int.ofNat (2 * k)) rfl rfl (aInt_subI (by simp; omega)) ?_
        refine sAs (v := .int _ _) rfl ?_
        refine sNil (kSeqN ?_)
        refine cSeq ?_
        refine cRegion ?_
        refine sAs (v := nv 0) rfl ?_
        refine sNil (kSeqN ?_)
        refine cBlock ?_
        refine wpC_loop (fun k2 ρ m' => ∃ i v cs, k2 = k - i ∧ i ≤ k ∧ TreeI m W (c + i) v cs m' ∧ Has ρ [(2, .pointer (some ⟨m.size, 0, none⟩)), (4, .pointer (some ⟨m.size + 1, 0, none⟩)), (5, nv k), (6, .int .i64 (Int.ofNat c - Int.ofNat (2 * k))), (7, nv i)]) ⟨0, _, cs, rfl, Nat.zero_le _, hT, rfl, rfl, rfl, rfl, rfl, trivial⟩ ?_
        clear hT hg
        rintro k2 ρ m' ⟨i, v, cs, rfl, hi, hT, hh⟩
        obtain ⟨qv, cv, rfl⟩ := hT.own.1.len
        rw [hh.env]; clear hh
        have hg := hT.g
        refine cSeq ?_   -- seq 13
        refine cSeq ?_
        refine cRegion ?_
        refine sMv (v := nv _) rfl ?_
        refine sMv (v := nv _) rfl ?_
        refine sBin rfl rfl (aInt_lss) ?_
        refine sNil (kSeqN ?_)
        refine cCond rfl (fun c3 => ?_) (fun c3 => ?_)
        ·
          have hci : c + i < 2 * W - 1 := by omega
          have hsucc := treeTo_succ hci
          have hlen2 : (ofs2 (treeTo W (c + i))).length = c + i := by rw [ofs2_length, treeTo_len (by omega)]
          have hsz := hT.sz
          refine cSkip (kSeqN ?_)
          refine cSeq ?_
          refine cBlock ?_
          refine cSeq ?_
          refine cRegion ?_
          refine sAs (v := .slice _ _ _) rfl ?_
          refine sNil (kSeqN ?_)
          refine cCut (fun ρ m2 => ∃ q n cc row, TreeI m W (c + i) (.slice qv (ofs2 (treeTo W (c + i))).length cv) cs m2 ∧ treeTo W (c + i + 1) = treeTo W (c + i) ++ [row] ∧ OwnF (m.size + 2) m2 (.slice q n cc) (ofs row) ∧ (∀ b, blkOf (.slice q n cc) = some b → m'.size ≤ b) ∧ Ext m' m2 ∧ Has ρ [(2, .pointer (some ⟨m.size, 0, none⟩)), (4, .pointer (some ⟨m.size + 1, 0, none⟩)), (5, nv k), (6, .int .i64 (Int.ofNat c - Int.ofNat (2 * k))), (7, nv i), (8, .slice q n cc)]) ?_ ?_
          ·
            refine cSeq ?_
            refine cRegion ?_
            refine sMv (v := .int _ _) rfl ?_
            refine sBinI (b := 0) rfl rfl aInt_geqI ?_
            refine sNil (kSeqN ?_)
            refine cCond (p := 0 ≤ Int.ofNat c - Int.ofNat (2 * k)) rfl (fun c4 => ?_) (fun c4 => ?_)
            ·
              obtain ⟨d, hd⟩ : ∃ d : Nat, Int.ofNat c - Int.ofNat (2 * k) = Int.ofNat d := ⟨c - 2 * k, by simp at c4 ⊢; omega⟩
              have hdc : d + 2 * k = c := by simp at hd; omega
              rw [hd]
              have hrow : (if W ≤ c + i then [2 * (c + i - W), 2 * (c + i - W) + 1] else []) = [d + 2 * i, d + 2 * i + 1] := by
                rw [if_pos (by omega), show 2 * (c + i - W) = d + 2 * i by omega]
              rw [hrow] at hsucc
              refine cRegion ?_
              refine sMv (v := nv d) rfl ?_
              refine sMv (v := nv _) rfl ?_
              refine sBin (a := 2) (b := i) rfl rfl (aInt_mul (by omega)) ?_
              refine sBin rfl rfl (aInt_add (by omega)) ?_
              refine sMv (v := nv d) rfl ?_
              refine sMv (v := nv _) rfl ?_
              refine sBin (a := 2) (b := i) rfl rfl (aInt_mul (by omega)) ?_
              refine sBin rfl rfl (aInt_add (by omega)) ?_
              refine sBin rfl rfl (aInt_add (b := 1) (by omega)) ?_
              refine sBuildS T25 S3 Z3 (by decide) (by decide) (by decide) (by kernel_rfl) fill2n rfl ?_
              have hT' := hT.ext (.push _ (.cells true #[nv (d + 2 * i), nv (d + 2 * i + 1)]))
              have hrowO : OwnF (m.size + 2) (m'.push (.cells true #[nv (d + 2 * i), nv (d + 2 * i + 1)])) (.slice (some ⟨m'.size, 0, some 1⟩) 2 2) (ofs [d + 2 * i, d + 2 * i + 1]) := OwnF.ofCells (l := [d + 2 * i, d + 2 * i + 1]) (r := []) hsz (gP rfl)
              refine sAs (v := .slice _ _ _) rfl ?_
              refine sNil (kSeqN ?_)
              rw [← hd]
              exact ⟨_, _, _, _, hT', hsucc, hrowO, fun b hb => by
                have h3 : m'.size = b := Option.some.inj hb
                omega, .push _ _, rfl, rfl, rfl, rfl, rfl, rfl, trivial⟩
            ·
              have hrow : (if W ≤ c + i then [2 * (c + i - W), 2 * (c + i - W) + 1] else []) = [] := by
                simp at c4
                rw [if_neg (by omega)]
              rw [hrow] at hsucc
              refine cSkip (kSeqN ?_)
              exact ⟨_, _, _, _, hT, hsucc, .nil _ _, fun b hb => by (cases hb), .refl _, rfl, rfl, rfl, rfl, rfl, rfl, trivial⟩
          rintro ρ m2 ⟨q, n, cc, row, hT', hsucc', hrowO, hfresh, hx2, hh⟩
          rw [hh.env]; clear hh
          have hg' := hT'.g
          refine cRegion ?_
          refine sFA F24_0 rfl ?_
          refine sLd A22 rfl (by simp (disch := first | omega | (simp only [Array.size_push, Array.size_setIfInBounds]; done) | (simp only [Array.size_push, Array.size_setIfInBounds]; omega)) only [gP, gPn, gS, gSn, hg']; try rfl) rfl ?_
          refine sMv (v := .slice _ _ _) rfl ?_
          refine sBuildS T22 S25 Z25 (by decide) (by decide) (by decide) (by kernel_rfl) fillV rfl ?_
          refine sAppC El22 rfl rfl (N := m.size + 1) (n := (ofs2 (treeTo W (c + i))).length) (cs := cs) (d := #[.slice q n cc]) (hT'.own.ext (.push _ _)).1 (gP rfl) rfl (by kernel_rfl) (by have := hT'.sz; simp; omega) (by omega) fun v' m4 hO4 hL4 hG4 => ?_
          obtain ⟨g4, hT4⟩ := hT'.add hrowO (fun b hb e => by have := hfresh b hb; have := (hT.own.1.lt e).2; omega) hsucc' hO4 hL4 hG4
          obtain ⟨q4, cp4, rfl⟩ := hO4.len
          refine sFA F24_0 rfl ?_
          refine sSt (v := .slice _ _ _) S22 rfl rfl g4 (by simp) rfl rfl ?_
          refine sNil (kBlkN (kSeqN ?_))
          refine cRegion ?_
          refine sMv (v := nv _) rfl ?_
          refine sBin rfl rfl (aInt_add (b := 1) (by omega)) ?_
          refine sAs (v := nv _) rfl ?_
          refine sNil (kSeqN ?_)
          refine ⟨_, ?_, i + 1, _, _, rfl, by omega, hT4, rfl, rfl, rfl, rfl, rfl, trivial⟩
          omega
        ·
          obtain rfl : i = k := by omega
          refine cExit (kSeqE (kSeqE (kBlkS (kBlkN (kSeqN ?_)))))
          refine cRegion ?_
          refine sMv (v := nv _) rfl ?_
          refine sBin (a := i) (b := 2) rfl rfl (aInt_quo (b := 2) (by omega)) ?_
          refine sAs (v := nv _) rfl ?_
          refine sNil (kSeqN ?_)
          refine ⟨i / 2, by omega, i / 2, c + i, _, cs, rfl, ?_, hT, rfl, rfl, rfl, trivial⟩
          rcases hwd'.1 with h | h | h
          · exact .inl ⟨by omega, by omega⟩
          · exact .inr ⟨by omega, by omega, by omega⟩
          · exact .inr ⟨by omega, by omega, by omega⟩
      ·
        have h0 : k = 0 := by omega
        have hc : c = 2 * W - 1 := by omega
        subst hc
        have g0 := hT.low.cells (show m.size < m.size + 1 by omega) (gP rfl)
        refine cExit (kSeqE (kSeqE (kBlkS (kSeqN ?_))))
        refine cSeq ?_
        refine cRegion ?_
        refine sLdAll A24 S24 rfl (by simp (disch := first | omega | (simp only [Array.size_push, Array.size_setIfInBounds]; done) | (simp only [Array.size_push, Array.size_setIfInBounds]; omega)) only [gP, gPn, gS, gSn, hg, g0]; try rfl) rfl ?_
        refine sStAll S24 rfl rfl (by simp (disch := first | omega | (simp only [Array.size_push, Array.size_setIfInBounds]; done) | (simp only [Array.size_push, Array.size_setIfInBounds]; omega)) only [gP, gPn, gS, gSn, hg, g0]; try rfl) rfl rfl (by kernel_rfl) ?_
        refine sAs (v := nv 0) rfl ?_
        refine sNil (kSeqN ?_)
        refine cRet ?_
        exact ⟨.inr rfl, _, resRs_agg2 A24 S24 rfl (gS rfl (live g0)) rfl, _, cs, rfl, (hT.own.only (.set m.size _ _) (by omega)).mono (by omega), Low.to_ext ((Ext.push _ _)) (hT.low.le (Nat.le_succ _) |>.trans (.set (Nat.le_refl _) _)) (Nat.le_refl _)⟩

end Go.AM

/-! ### M29 -/
namespace Go.AM
set_option linter.unusedVariables false
set_option linter.unusedSimpArgs false
theorem stepE_keep {d y x d' : Nat} {es : List (Nat × Nat)} (h : lookE es x = some d') : lookE (stepE d y es) x = some d' := by
  unfold stepE; split
  · rw [lookE_append, h]; rfl
  · exact h
theorem stepE_has (d y : Nat) (es : List (Nat × Nat)) : ∃ d', lookE (stepE d y es) y = some d' ∧ (d' = d ∨ (y, d') ∈ es) := by
  unfold stepE; split
  · rename_i h
    exact ⟨d, by rw [lookE_append, h, lookE_cons, if_pos rfl]; rfl, .inl rfl⟩
  · rename_i h
    match h1 : lookE es y with
    | none => exact absurd h1 h
    | some d' => exact ⟨d', rfl, .inr (lookE_mem h1)⟩
theorem roundE_keep {P : List Nat} {k x d y d' : Nat} {es : List (Nat × Nat)} (h : lookE es y = some d') : ∀ n, lookE (roundE P k x d n es) y = some d'
  | 0 => h
  | n + 1 => by
    rw [roundE]; split
    · exact stepE_keep (roundE_keep h n)
    · exact roundE_keep h n
structure Bd (D : Nat) (es : List (Nat × Nat)) : Prop where
  sort : es.Pairwise fun p q => p.2 ≤ q.2
  top : ∀ q ∈ es, q.2 ≤ D + 1
theorem Bd.step {D y : Nat} {es : List (Nat × Nat)} (h : Bd D es) : Bd D (stepE (D + 1) y es) := by
  unfold stepE; split
  · refine ⟨List.pairwise_append.2 ⟨h.sort, List.pairwise_singleton _ _, fun p hp q hq => ?_⟩, fun q hq => ?_⟩
    · rw [List.mem_singleton.1 hq]; exact h.top p hp
    · rcases List.mem_append.1 hq with hq | hq
      · exact h.top q hq
      · rw [List.mem_singleton.1 hq]; exact Nat.le_refl _
  · exact h
theorem Bd.round {P : List Nat} {k x D : Nat} {es : List (Nat × Nat)} (h : Bd D es) : ∀ n, Bd D (roundE P k x D n es)
  | 0 => h
  | n + 1 => by
    rw [roundE]; split
    · exact (Bd.round h n).step
    · exact Bd.round h n
theorem roundE_has {P : List Nat} {k x D : Nat} {es : List (Nat × Nat)} (h : Bd D es) : ∀ n m, m < n → wayB P k x m = true → ∃ d', lookE (roundE P k x D n es) (x ^^^ 2 ^ m) = some d' ∧ d' ≤ D + 1
  | 0, m, hm, _ => by omega
  | n + 1, m, hm, hw => by
    rw [roundE]
    by_cases e : m = n
    · subst e
      rw [if_pos hw]
      obtain ⟨d', h1, h2⟩ := stepE_has (D + 1) (x ^^^ 2 ^ m) (roundE P k x D m es)
      refine ⟨d', h1, ?_⟩
      rcases h2 with rfl | h2
      · exact Nat.le_refl _
      · exact (h.round m).top _ h2
    · obtain ⟨d', h1, h2⟩ := roundE_has h n m (by omega) hw
      refine ⟨d', ?_, h2⟩
      split
      · exact stepE_keep h1
      · exact h1
/-- The entries ahead of a place have all their neighbours; the entries rise. -/
structure Que (P : List Nat) (k i : Nat) (es : List (Nat × Nat)) : Prop where
  sort : es.Pairwise fun p q => p.2 ≤ q.2
  top : ∀ p, es[i]? = some p → ∀ q ∈ es, q.2 ≤ p.2 + 1
  done : ∀ (j : Nat) (p : Nat × Nat), j < i → es[j]? = some p → ∀ n, n < P.length → wayB P k p.1 n = true → ∃ d, lookE es (p.1 ^^^ 2 ^ n) = some d ∧ d ≤ p.2 + 1
theorem Que.far {P : List Nat} {k : Nat} (hP : P.length ≤ 10) : ∀ (f i : Nat) {es : List (Nat × Nat)}, GoodE P.length es → Que P k i es → f + i = 1025 → i ≤ es.length → Que P k (farF P k f i es).length (farF P k f i es)
  | 0, i, es, hg, hq, hf, hi => by
    have := hg.length
    have := Nat.pow_le_pow_right (n := 2) (by omega) hP
    omega
  | f + 1, i, es, hg, hq, hf, hi => by
    rw [farF]
    split
    · rename_i hn
      have : es.length = i := by rw [List.getElem?_eq_none_iff] at hn; omega
      subst this
      exact hq
    · rename_i p hp
      have hil := (List.getElem?_eq_some_iff.1 hp).1
      have hb : Bd p.2 es := ⟨hq.sort, hq.top p hp⟩
      have hb' := hb.round (P := P) (k := k) (x := p.1) P.length
      have hp2 : p.2 < es.length := by have := hg.low i p hp; omega
      refine Que.far hP f (i + 1) (hg.round (hg.lt p (List.mem_of_getElem? hp)) hp2 _ (Nat.le_refl _)) ⟨hb'.sort, fun p' hp' q hq' => ?_, fun j r hj hr n hn hw => ?_⟩ (by omega) (by have := roundE_len P k p.1 p.2 es P.length; omega)
      · have h1 := hb'.top q hq'
        have h2 := roundE_get (P := P) (k := k) (x := p.1) (d := p.2) hp P.length
        obtain ⟨hl, he⟩ := List.getElem?_eq_some_iff.1 hp'
        obtain ⟨hl2, he2⟩ := List.getElem?_eq_some_iff.1 h2
        have h3 := List.pairwise_iff_getElem.1 hb'.sort i (i + 1) hl2 hl (by omega)
        rw [he, he2] at h3
        omega
      · by_cases e : j = i
        · subst e
          have h2 := roundE_get (P := P) (k := k) (x := p.1) (d := p.2) hp P.length
          rw [h2] at hr
          obtain rfl := Option.some.inj hr
          exact roundE_has hb P.length n hn hw
        · have h0 : es[j]? = some r := by
            have h2 := roundE_get (P := P) (k := k) (x := p.1) (d := p.2) (List.getElem?_eq_getElem (show j < es.length by omega)) P.length
            rw [h2] at hr
            rw [List.getElem?_eq_getElem (by omega)]; exact hr
          obtain ⟨d, h1, h3⟩ := hq.done j r (by omega) h0 n hn hw
          exact ⟨d, roundE_keep h1 _, h3⟩
theorem farM_next {P : List Nat} {k g : Nat} (hP : P.length ≤ 10) (hg : g < 2 ^ P.length) {x d n : Nat} (h : lookE (farM P k g) x = some d) (hn : n < P.length) (hw : wayB P k x n = true) : ∃ d', lookE (farM P k g) (x ^^^ 2 ^ n) = some d' ∧ d' ≤ d + 1 := by
  unfold farM at *
  split at h
  · cases h
  rename_i hk
  rw [if_neg hk]
  have hq := Que.far hP 1025 0 (.one hg) (k := k) ⟨List.pairwise_singleton _ _, fun p hp q hq => (by simp at hp hq; subst hp hq; omega), fun j p hj => (by omega)⟩ rfl (by simp)
  obtain ⟨j, hj, he⟩ := List.getElem_of_mem (lookE_mem h)
  exact hq.done j _ hj (by rw [List.getElem?_eq_getElem hj, he]) n hn hw
theorem farM_root {P : List Nat} {k g : Nat} (hg : g < 2 ^ P.length) (hk : popc g ≤ k) : lookE (farM P k g) g = some 0 :=
  lookE_of_mem (farM_good hg).once (farM_bfs hg hk).root
theorem mayM_full {P : List Nat} (hP : LowP P) {x n : Nat} (h : ∀ i, i < n → x.testBit i = true) : mayM P x n = true := by
  refine decide_eq_true (Nat.eq_of_testBit_eq fun i => ?_)
  rw [Nat.testBit_and]
  by_cases hi : i < n
  · rw [h i hi, Bool.true_and]
  · rw [Nat.testBit_lt_two_pow (Nat.lt_of_lt_of_le (getD_lowP hP n) (Nat.pow_le_pow_right (by omega) (by omega))), Bool.and_false]
theorem reach_all {P : List Nat} {k g : Nat} (hL : LowP P) (hP : P.length ≤ 10) (hg : g < 2 ^ P.length) (hk : P.length ≤ k) : ∃ d, lookE (farM P k g) 0 = some d := by
  have hpo : ∀ {x}, x < 2 ^ P.length → popc x ≤ k := fun hx => Nat.le_trans (popc_le_of_lt hx) hk
  have hway : ∀ {x n}, x < 2 ^ P.length → n < P.length → (∀ i, i < n → x.testBit i = true) → wayB P k x n = true := fun {x n} hx hn h => by
    unfold wayB
    rw [mayM_full hL h, decide_eq_true (hpo (Nat.xor_lt_two_pow hx (Nat.pow_lt_pow_right (by omega) hn)))]; rfl
  have up : ∀ n, n ≤ P.length → ∃ x d, x < 2 ^ P.length ∧ lookE (farM P k g) x = some d ∧ ∀ i, i < n → x.testBit i = true := by
    intro n
    induction n with
    | zero => exact fun _ => ⟨g, 0, hg, farM_root hg (hpo hg), fun i hi => by omega⟩
    | succ n ih =>
      intro hn
      obtain ⟨x, d, hx, hl, hb⟩ := ih (by omega)
      by_cases hb' : x.testBit n = true
      · exact ⟨x, d, hx, hl, fun i hi => if e : i = n then e ▸ hb' else hb i (by omega)⟩
      · obtain ⟨d', h1, _⟩ := farM_next hP hg hl (n := n) (by omega) (hway hx (by omega) hb)
        refine ⟨_, d', Nat.xor_lt_two_pow hx (Nat.pow_lt_pow_right (by omega) (by omega)), h1, fun i hi => ?_⟩
        rw [Nat.testBit_xor, Nat.testBit_two_pow]
        by_cases e : i = n
        · subst e; simp at hb'; simp [hb']
        · rw [hb i (by omega), decide_eq_false (by omega)]; rfl
  obtain ⟨x, d, hx, hl, hb⟩ := up P.length (Nat.le_refl _)
  obtain rfl : x = 2 ^ P.length - 1 := by
    refine Nat.eq_of_testBit_eq fun i => ?_
    rw [Nat.testBit_two_pow_sub_one]
    by_cases hi : i < P.length
    · rw [hb i hi, decide_eq_true hi]
    · rw [decide_eq_false hi, Nat.testBit_lt_two_pow (Nat.lt_of_lt_of_le hx (Nat.pow_le_pow_right (by omega) (by omega)))]
  have down : ∀ m n, n + m = P.length → ∃ d, lookE (farM P k g) (2 ^ n - 1) = some d := by
    intro m
    induction m with
    | zero => intro n hn; rw [show n = P.length by omega]; exact ⟨d, hl⟩
    | succ m ih =>
      intro n hn
      obtain ⟨d1, h1⟩ := ih (n + 1) (by omega)
      have hlt : 2 ^ (n + 1) - 1 < 2 ^ P.length := by
        have := Nat.pow_le_pow_right (n := 2) (by omega) (show n + 1 ≤ P.length by omega)
        have := Nat.two_pow_pos (n + 1)
        omega
      obtain ⟨d2, h2, _⟩ := farM_next hP hg h1 (n := n) (by omega) (hway hlt (by omega) fun i hi => by rw [Nat.testBit_two_pow_sub_one]; exact decide_eq_true (by omega))
      refine ⟨d2, ?_⟩
      rw [← h2]
      congr 1
      refine Nat.eq_of_testBit_eq fun i => ?_
      rw [Nat.testBit_xor, Nat.testBit_two_pow, Nat.testBit_two_pow_sub_one, Nat.testBit_two_pow_sub_one]
      by_cases e : i = n
      · subst e; simp
      · by_cases e2 : i < n
        · rw [decide_eq_true e2, decide_eq_true (show i < n + 1 by omega), decide_eq_false (by omega)]; rfl
        · rw [decide_eq_false e2, decide_eq_false (show ¬ i < n + 1 by omega), decide_eq_false (by omega)]; rfl
  exact down P.length 0 (by omega)
theorem isShort_all {P : List Nat} {k g : Nat} (hL : LowP P) (hP : P.length ≤ 10) (hg : g < 2 ^ P.length) (hk : P.length ≤ k) : isShort P k g = true := by
  obtain ⟨d, h⟩ := reach_all hL hP hg hk
  rw [isShort, h]; rfl
theorem trade_ne {G : List (List Int)} {gs : List Int} (h : withE G gs = 0) : tradeG G gs ≠ [] := by
  obtain ⟨N, g, rfl, hN, rfl, hg⟩ := withE_nat h
  have h1 := hN.one
  have hl : (needsM N).length = N.length := by simp [needsM]
  have hs := isShort_all (k := N.length) (g := posM g) hN.lowP (by rw [hl]; exact hN.ten) (by rw [hl]; exact posM_lt hg.lt) (by omega)
  unfold tradeG
  rw [natsG_ofs2, nats_ofs, ofs2_length]
  obtain ⟨n, hn⟩ : ∃ n, N.length = n + 1 := ⟨N.length - 1, by omega⟩
  rw [hn] at hs ⊢
  rw [tradeF]
  split
  · simp
  · rename_i hne
    intro h0
    exact hne ⟨hs, .inl (by rw [h0]; rfl)⟩
end Go.AM

/-! ### G4 -/
namespace Go.AM
open Go.Proofs
set_option maxRecDepth 100000
set_option linter.unusedVariables false
set_option linter.unusedSimpArgs false
theorem popc_half (x : Nat) : popc x = x % 2 + popc (x / 2) := by
  have := popc_double (x / 2) (x % 2) (Nat.mod_lt _ (by omega))
  rwa [Nat.mod_add_div] at this
theorem sShr {P : Program} {ρ : Env} {m : Mem} {K : Env → Mem → Prop} {ops : Array Oper} {l : List Oper} {d : Option Nat} {ty t tz : TypeId} {pos : String} {af : Array Edge} {x y : Operand} {a b : Nat} {k : IntKind}
    (hx : evR ρ x = nv a) (hy : evR ρ y = .int k (Int.ofNat b)) (h : a < 9223372036854775808) (hk : wpOps P ops K l (updO ρ d (nv (a >>> b))) m) :
    wpOps P ops K (⟨d, .binOp .shr t x y tz, ty, pos, af, none⟩ :: l) ρ m := by
  refine sP (v := nv (a >>> b)) ?_ hk
  simp only [aPure, hx, hy, aBin, nv]
  rw [if_pos (.inr trivial)]
  exact aInt_shr h
theorem mayM_iff {N : List (List Nat)} {n : Nat} (hn : n < N.length) (x : Nat) : mayM (needsM N) x n = true ↔ ∀ k ∈ N.getD n [], x.testBit k = true := by
  have hg : (needsM N).getD n 0 = posM (N.getD n []) := by
    simp [needsM, List.getD_eq_getElem?_getD, List.getElem?_map, List.getElem?_eq_getElem hn]
  unfold mayM
  rw [hg, decide_eq_true_eq]
  constructor
  · intro h k hk
    have := congrArg (·.testBit k) h
    simp only [Nat.testBit_and, posM_bit, decide_eq_true hk, Bool.and_true] at this
    exact this
  · intro h
    refine Nat.eq_of_testBit_eq fun i => ?_
    rw [Nat.testBit_and, posM_bit]
    by_cases hi : i ∈ N.getD n []
    · rw [h i hi, decide_eq_true hi]; rfl
    · rw [decide_eq_false hi, Bool.and_false]

theorem ofs2_getD {N : List (List Nat)} {n : Nat} (hn : n < N.length) : (ofs2 N)[n]? = some (ofs (N.getD n [])) := by simp [ofs2, List.getD_eq_getElem?_getD, List.getElem?_eq_getElem hn]
theorem getDr {N : List (List Nat)} {n : Nat} (hn : n < N.length) : N[n]? = some (N.getD n []) := by rw [List.getD_eq_getElem?_getD, List.getElem?_eq_getElem hn]; rfl
theorem bitB (x u : Nat) : decide (x >>> u &&& 1 = 1) = x.testBit u := by
  by_cases h : x.testBit u = true
  · rw [h, decide_eq_true ((bit_one x u).2 h)]
  · rw [Bool.eq_false_iff.2 h, decide_eq_false (fun e => h ((bit_one x u).1 e))]
theorem mayM_all {N : List (List Nat)} {n : Nat} (hn : n < N.length) (x : Nat) : ((N.getD n []).all fun u => x.testBit u) = mayM (needsM N) x n := by
  rw [Bool.eq_iff_iff, mayM_iff hn, List.all_eq_true]
def endX (x : Nat) (l : List Nat) : Nat := l.foldl (fun x n => x ^^^ 2 ^ n) x
theorem endX_snoc (x : Nat) (l : List Nat) (n : Nat) : endX x (l ++ [n]) = endX x l ^^^ 2 ^ n := by simp [endX]
theorem playE_snoc {P : List Nat} {n : Nat} (hn : n < P.length) : ∀ {l : List Nat} {x : Nat}, playE P x (ofs l) = 0 → mayM P (endX x l) n = true → playE P x (ofs (l ++ [n])) = 0
  | [], x, _, hm => by
    have h0 : ¬ (Int.ofNat n < 0 ∨ Int.ofNat P.length ≤ Int.ofNat n) := by simp; omega
    show playE P x [Int.ofNat n] = 0
    rw [playE, if_neg h0, show (Int.ofNat n).toNat = n from rfl, show mayM P x n = true from hm]; rfl
  | y :: l, x, h, hm => by
    have h' : playE P x (Int.ofNat y :: ofs l) = 0 := h
    show playE P x (Int.ofNat y :: ofs (l ++ [n])) = 0
    rw [playE] at h' ⊢
    split at h'
    · cases h'
    · rename_i h1
      rw [if_neg h1]
      split at h'
      · rename_i h2
        rw [if_pos h2]
        exact playE_snoc hn h' hm
      · cases h'
end Go.AM

/-! ### S6 -/
namespace Go.AM
open Go.Proofs
set_option maxRecDepth 100000
set_option linter.unusedVariables false
set_option linter.unusedSimpArgs false
theorem cut_own {N : Nat} {m : Mem} {v : Value} {L : List Nat} {k : Nat} (h : OwnF N m v (ofs L)) (hk : k ≤ L.length) : ∃ v2, aSlice Tryd.prog m 25 v none (some (nv k)) none = some v2 ∧ OwnF N m v2 (ofs (L.take k)) ∧ (∃ q c, v2 = .slice q (L.take k).length c) := by
  rcases h with ⟨h1, rfl⟩ | ⟨b, cap, c, rfl, h2, h3, h4, h5, h6⟩
  · obtain rfl : L = [] := by cases L with
      | nil => rfl
      | cons a r => simp [ofs] at h1
    obtain rfl : k = 0 := by simpa using hk
    exact ⟨.slice none 0 0, by simp only [aSlice, T25, S3, aBounds]; rfl, .nil _ _, _, _, rfl⟩
  · have hkc : k ≤ cap := by rw [ofs_length] at h4; omega
    refine ⟨_, aSlice_hi T25 S3 hkc, .inr ⟨b, cap, c, by rw [ofs_length, List.length_take, Nat.min_eq_left hk], h2, h3, by rw [ofs_length, List.length_take]; omega, h5, fun i x hx => h6 i x ?_⟩, _, _, by rw [List.length_take, Nat.min_eq_left hk]⟩
    simp only [ofs, List.map_take, List.getElem?_take] at hx
    split at hx
    · exact hx
    · cases hx
theorem Sorted2.low {N : Nat} {v : Value} {L : List Nat} {m m' : Mem} (h : Sorted2 N v L m m') : Low N m m' := ⟨by rw [h.2.1]; exact Nat.le_refl _, fun c hc => h.2.2 c fun e => by have := (h.1.lt e).1; omega⟩
theorem minNN {a b : Nat} : aFold aMin2 (nv a) [nv b] = some (nv (min a b)) := by
  simp only [aFold, aMin2, if_true]
  congr 2
  by_cases h : b < a
  · rw [if_pos (by simpa using h), Nat.min_eq_right (by omega)]
  · rw [if_neg (by simpa using h), Nat.min_eq_left (by omega)]
/-- Rows that may be a graph's. -/
def RowOk (G : List (List Nat)) : Prop := ∀ (j : Nat) (g : List Nat), G[j]? = some g → g.length ≤ 2 ∧ (∀ x ∈ g, x < j) ∧ g.Pairwise (· < ·)
theorem RowOk.snoc {G : List (List Nat)} {g : List Nat} (h : RowOk G) (h1 : g.length ≤ 2) (h2 : ∀ x ∈ g, x < G.length) (h3 : g.Pairwise (· < ·)) : RowOk (G ++ [g]) := fun j r hj => by
  by_cases e : j < G.length
  · rw [List.getElem?_append_left e] at hj; exact h j r hj
  · rw [List.getElem?_append_right (by omega)] at hj
    match hd : j - G.length, hj with
    | 0, hj =>
      obtain rfl := Option.some.inj hj
      obtain rfl : j = G.length := by omega
      exact ⟨h1, h2, h3⟩
    | d + 1, hj => simp at hj
theorem RowOk.dag {G : List (List Nat)} (h : RowOk G) (h1 : 1 ≤ G.length) (h2 : G.length ≤ 10) : Dag G where
  one := h1
  ten := h2
  two g hg := by obtain ⟨j, hj, e⟩ := List.getElem_of_mem hg; exact (h j g (by rw [List.getElem?_eq_getElem hj, e])).1
  less j g hj := (h j g hj).2.1
  rise g hg := by obtain ⟨j, hj, e⟩ := List.getElem_of_mem hg; exact (h j g (by rw [List.getElem?_eq_getElem hj, e])).2.2
theorem OwnR.lowx {N b : Nat} {m m' : Mem} {v : Value} {cs : Array Value} {G : List (List Int)} (h : OwnR N m v cs G) (hx : LowX m.size b m m') (hb : b < N) : OwnR N m' v cs G := h.up fun c h1 h2 => hx.2 c h2 (by omega)

/-- A graph that can be read whatever is done to a store. -/
def Steady (m : Mem) (b : Nat) (s : Value) (G : List (List Int)) : Prop := ∀ m', LowX m.size b m m' → RowsAt m' s G
theorem Steady.next {m m2 : Mem} {b : Nat} {s : Value} {G : List (List Int)} (h : Steady m b s G) (hx : LowX m.size b m m2) : Steady m2 b s G := fun m' h' => h m' (hx.trans ⟨h'.1, fun c h1 h2 => h'.2 c (by have := hx.1; omega) h2⟩)

theorem okf52 : okF Tryd.prog H0 52 34 = true := by kernel_rfl
theorem spec_Grown {m : Mem} {N0 N b k most : Nat} (h : StoreAt N0 N m b k) (hk : k < 50000) (hN0 : N0 ≤ b) (hm1 : 1 ≤ most) (hm2 : most ≤ 10) : ∃ v m', ACalls Tryd.prog 52 #[.pointer (some ⟨b, 0, none⟩), nv most] m v m' ∧ (∃ w cs G, v = .agg #[w] ∧ OwnR m.size m' w cs (ofs2 G) ∧ Dag G ∧ G.length ≤ most ∧ StoreAt N0 N m' b (k + 200) ∧ LowX m.size b m m') := by
  have hbm : b < m.size := by have := h.lt; omega
  have hNm : N ≤ m.size := h.lt.2
  have hX0 : LowX (m.size + 1) b ((m.push (.cells true #[.slice none 0 0])).push (.cells true #[.slice none 0 0])) ((m.push (.cells true #[.slice none 0 0])).push (.cells true #[.slice none 0 0])) := .refl _ _ _
  have hS0 : StoreAt N0 N ((m.push (.cells true #[.slice none 0 0])).push (.cells true #[.slice none 0 0])) b k := h.ext hN0 ((Ext.push _ _).trans (.push _ _))
  have hE0 : Ext m ((m.push (.cells true #[.slice none 0 0])).push (.cells true #[.slice none 0 0])) := (Ext.push _ _).trans (.push _ _)
  have hz0 : ((m.push (.cells true #[.slice none 0 0])).push (.cells true #[.slice none 0 0])).size = m.size + 2 := by simp
  refine wpF (args := [_, _]) mixed okf52 (fn := Tryd.f52) rfl rfl rfl (by simp) ?_
  refine cSeq ?_
  refine cRegion ?_
  refine sAllocB (bl := m.size) (by simp) Z24 (by kernel_rfl) ?_
  refine sNil (kSeqN ?_)
  refine cSeq ?_
  refine cRegion ?_
  refine sAllocB (bl := m.size + 1) (by simp) Z24 (by kernel_rfl) ?_
  refine sNil (kSeqN ?_)
  refine cSeq ?_
  refine cSeq ?_
  refine cRegion ?_
  refine sMv (v := .pointer _) rfl ?_
  refine sMv (v := nv _) rfl ?_
  obtain ⟨v10, m10, h10, ⟨n, rfl, hn1, hn2⟩, hS10, hO10⟩ := spec_From (lo := 1) (hi := most) hS0 (by omega) (by omega) (by omega)
  refine sCall3 rfl call82 rfl rfl rfl h10 ?_
  have g10 : Mem.get m10 (m.size + 1) = .cells true #[.slice none 0 0] := (hO10.2 _ (by omega)).trans (gP (by simp))
  have g10' : Mem.get m10 m.size = .cells true #[.slice none 0 0] := (hO10.2 _ (by omega)).trans (by rw [gPn (by simp), gP rfl])
  have z10 : m10.size = m.size + 2 := by rw [hO10.1]; exact hz0
  have hX10 : LowX m.size b m m10 := ⟨by omega, fun c h1 h2 => (hO10.2 c h2).trans (hE0.2 c h1)⟩
  refine sMv (v := nv 0) rfl ?_
  refine sNil (kSeqN ?_)
  refine cBlock ?_
  refine wpC_loop (fun k' ρ m' => ∃ i v cs G, k' = n - i ∧ i ≤ n ∧ G.length = i ∧ RowOk G ∧ LowX (m.size + 1) b m10 m' ∧ Mem.get m' (m.size + 1) = .cells true #[v] ∧ OwnR (m.size + 2) m' v cs (ofs2 G) ∧ StoreAt N0 N m' b (k + 1 + 11 * i) ∧ Has ρ [(0, .pointer (some ⟨b, 0, none⟩)), (4, .pointer (some ⟨m.size, 0, none⟩)), (5, .pointer (some ⟨m.size + 1, 0, none⟩)), (10, nv n), (11, nv i)]) ⟨0, _, #[], [], rfl, by omega, rfl, fun j g hj => by simp at hj, .refl _ _ _, g10, .nil _ _, hS10, rfl, rfl, rfl, rfl, rfl, trivial⟩ ?_
  rintro k' ρ m' ⟨i, v, cs, G, rfl, hi, hGl, hGo, hX, g2, hO, hS, hh⟩
  obtain ⟨qv, cv, rfl⟩ := hO.1.len
  rw [hh.env]; clear hh
  have hz := live g2
  have hz2 : m.size + 2 ≤ m'.size := by have := hX.1; omega
  refine cSeq ?_
  refine cRegion ?_
  refine sBin rfl rfl (aInt_lss) ?_
  refine sNil (kSeqN ?_)
  refine cSeq ?_   -- seq 5
  refine cCond rfl (fun c0 => ?_) (fun c0 => ?_)
  ·
    refine cSkip (kSeqN ?_)
    refine cSeq ?_
    refine cBlock ?_
    refine cSeq ?_
    refine cRegion ?_
    refine sMv (v := nv _) rfl ?_
    refine sAs (v := nv _) rfl ?_
    refine sNil (kSeqN ?_)
    refine cSeq ?_
    refine cRegion ?_
    refine sMv (v := .pointer _) rfl ?_
    refine sMv (v := nv _) rfl ?_
    obtain ⟨v16, m16, h16, L, hO16, hLl, hLx, hLn, hS16, hX16⟩ := spec_Order (n := i) hS (by omega) hN0 (by omega)
    obtain ⟨q16, c16, rfl⟩ := hO16.ints.lenN
    have z16 := hX16.1
    refine sCall2 rfl call83 rfl rfl h16 ?_
    refine sAs (v := .slice _ _ _) rfl ?_
    refine sNil (kSeqN ?_)
    refine cSeq ?_
    refine cRegion ?_
    refine sMv (v := .slice _ _ _) rfl ?_
    refine sMv (v := .slice _ _ _) rfl ?_
    refine sLen T25 rfl ?_
    refine sMv (v := .pointer _) rfl ?_
    obtain ⟨v21, m21, h21, ⟨z, rfl, hzz⟩, hS21, hO21⟩ := spec_SLess (n := 3) hS16 (by omega) (by omega) (by omega)
    refine sCall2 rfl call84 rfl rfl h21 ?_
    have hOL := hO16.only hO21 (by omega)
    obtain ⟨v23, h23, hO23, q23, c23, rfl⟩ := cut_own (k := min L.length z) hOL (Nat.min_le_left _ _)
    have hl2 : (L.take (min L.length z)).length ≤ 2 := by rw [List.length_take]; omega
    refine sP (v := nv (min L.length z)) minNN ?_
    refine sO (v := .slice q23 (L.take (min L.length z)).length c23) (m' := m21) (opF_read rfl h23) ?_
    have hK1 : ∀ x ∈ L.take (min L.length z), x < i := fun x hx => hLx x (List.mem_of_mem_take hx)
    have hK2 : (L.take (min L.length z)).Nodup := hLn.sublist (List.take_sublist _ _)
    generalize L.take (min L.length z) = K at *
    refine sAs (v := .slice _ _ _) rfl ?_
    refine sNil (kSeqN ?_)
    refine cSeq ?_
    refine cRegion ?_
    refine sMv (v := .slice _ _ _) rfl ?_
    obtain ⟨w25, m25, h25, k25⟩ := spec_Sort2 hO23 hl2
    have l25 := k25.low
    have z25 := k25.2.1
    refine sCall1 rfl call85 rfl h25 ?_
    have hXm : LowX m'.size b m' m25 := (hX16.trans hO21.x).trans l25.x
    have g25 : Mem.get m25 (m.size + 1) = .cells true #[.slice qv (ofs2 G).length cv] := (hXm.2 _ (by omega) (by omega)).trans g2
    have hO25 := hO.lowx hXm (by omega)
    have z21 := hO21.1
    have hK3 : (ofs K).length = K.length := ofs_length K
    have hK4 : (ofs (sort2 K)).length = K.length := by rw [ofs_length, sort2_len]
    have hGG : (ofs2 G).length = i := by rw [ofs2_length]; exact hGl
    refine sNil (kSeqN ?_)
    refine cRegion ?_
    refine sFA F24_0 rfl ?_
    refine sLd (v := .slice _ _ _) A22 rfl g25 rfl ?_
    refine sMv (v := .slice _ _ _) rfl ?_
    refine sBuildS T22 S25 Z25 (by decide) (by decide) (by decide) (by kernel_rfl) fillV rfl ?_
    refine sAppC El22 rfl rfl (N := m.size + 2) (n := (ofs2 G).length) (cs := cs) (d := #[.slice q23 K.length c23]) (hO25.ext (.push _ _)).1 (gP rfl) rfl (by kernel_rfl) (by simp; omega) (by omega) fun v' m4 hO4 hL4 hG4 => ?_
    have g24 := hL4.cells (show m.size + 1 < m.size + 2 by omega) ((gPn (live g25)).trans g25)
    have hgr := (hO25.ext (.push _ (.cells true #[.slice q23 K.length c23]))).grew ((k25.1.mono hz2).ext (.push _ _)) (fun b hb e => by
      have h1 := (k25.1.lt hb).1
      have h2 := (hO.1.lt e).2
      omega) hG4 hO4
    obtain ⟨q4, cp4, rfl⟩ := hO4.len
    refine sFA F24_0 rfl ?_
    refine sSt (v := .slice _ _ _) S22 rfl rfl g24 (by simp) rfl rfl ?_
    refine sNil (kBlkN (kSeqN ?_))
    refine cRegion ?_
    refine sBin rfl rfl (aInt_add (b := 1) (by omega)) ?_
    refine sMv (v := nv _) rfl ?_
    refine sNil (kSeqN ?_)
    have hLow4 : Low (m.size + 1) m25 (m4.setIfInBounds (m.size + 1) (.cells true #[.slice q4 ((ofs2 G).length + 1) cp4])) := (Low.push _ (by omega) _).trans ((hL4.le (Nat.le_succ _)).trans (.set (Nat.le_refl _) _))
    have hXm' : LowX (m.size + 1) b m' m25 := ⟨hXm.1, fun c h1 h2 => hXm.2 c (by omega) h2⟩
    refine ⟨_, ?_, i + 1, .slice q4 ((ofs2 G).length + 1) cp4, cs ++ #[.slice q23 K.length c23], G ++ [sort2 K], rfl, by omega, by simp [hGl], hGo.snoc (by rw [sort2_len]; exact hl2) (fun x hx => by rw [hGl]; exact hK1 x ((sort2_perm K).mem_iff.1 hx)) (sort2_rise hl2 hK2), (hX.trans hXm').trans hLow4.x, by rw [gS rfl (live g24)]; rfl, ?_, ((hS21.low hN0 l25 (by omega)).low hN0 hLow4 (by omega)).le (by omega), rfl, rfl, rfl, rfl, rfl, trivial⟩
    · omega
    · rw [show ofs2 (G ++ [sort2 K]) = ofs2 G ++ [ofs (sort2 K)] by simp [ofs2]]
      exact hgr.only (.set (m.size + 1) m4 (.cells true #[.slice q4 ((ofs2 G).length + 1) cp4])) (by omega)
  ·
    obtain rfl : i = n := by omega
    have g0 : Mem.get m' m.size = .cells true #[.slice none 0 0] := (hX.2 _ (by omega) (by omega)).trans g10'
    refine cExit (kSeqE (kSeqE (kBlkS (kSeqN ?_))))
    refine cSeq ?_
    refine cRegion ?_
    refine sLdAll A24 S24 rfl g2 rfl ?_
    refine sStAll S24 rfl rfl g0 rfl rfl (by kernel_rfl) ?_
    refine sNil (kSeqN ?_)
    refine cRet ?_
    refine ⟨.inr rfl, _, resRs_agg A24 S24 rfl (gS rfl (live g0)) rfl, _, cs, G, rfl, (hO.only (.set m.size _ _) (by omega)).mono (by omega), hGo.dag (by omega) (by omega), by omega, ?_, ?_⟩
    · exact (hS.low hN0 (.set (N := m.size) (Nat.le_refl _) _) hNm).le (by omega)
    · exact (hX10.trans ⟨hX.1, fun c h1 h2 => hX.2 c (by omega) h2⟩).trans (Low.set (N := m.size) (Nat.le_refl _) _).x

theorem okf58 : okF Tryd.prog H0 58 29 = true := by kernel_rfl
theorem spec_aims {m : Mem} {N0 N b k : Nat} {s : Value} {G : List (List Nat)} (h : StoreAt N0 N m b k) (hk : k < 50000) (hN0 : N0 ≤ b) (hG : Steady m b s (ofs2 G)) (hD : Dag G) : ∃ v m', ACalls Tryd.prog 58 #[.pointer (some ⟨b, 0, none⟩), .agg #[s]] m v m' ∧ (∃ g : List Nat, OwnF m.size m' v (ofs g) ∧ Goals G.length g ∧ G.length - 1 ∈ g ∧ StoreAt N0 N m' b (k + 10) ∧ LowX m.size b m m') := by
  have hbm : b < m.size := by have := h.lt; omega
  have hNm : N ≤ m.size := h.lt.2
  have h10 := hD.ten
  have h1 := hD.one
  obtain ⟨q, cap, rfl⟩ := (hG m (.refl _ _ _)).len
  have hS0 : StoreAt N0 N (m.push (.cells true #[.slice q (ofs2 G).length cap])) b k := h.ext hN0 (.push _ _)
  rw [ofs2_length] at hS0 ⊢
  refine wpF (args := [_, _]) mixed okf58 (fn := Tryd.f58) rfl rfl rfl (by simp) ?_
  refine cSeq ?_
  refine cRegion ?_
  refine sBox (v := .agg _) rfl ?_
  refine sAs (v := .slice _ _ _) rfl ?_
  refine sNil (kSeqN ?_)
  refine cSeq ?_
  refine cRegion ?_
  refine sAs (v := .slice _ _ _) rfl ?_
  refine sNil (kSeqN ?_)
  refine cSeq ?_
  refine cSeq ?_
  refine cRegion ?_
  refine sFA F24_0 rfl ?_
  refine sLd A22 rfl (by simp (disch := first | omega | (simp only [Array.size_push, Array.size_setIfInBounds]; done) | (simp only [Array.size_push, Array.size_setIfInBounds]; omega)) only [gP, gPn, gS, gSn]; try rfl) rfl ?_
  refine sLen T22 rfl ?_
  refine sMv (v := nv 0) rfl ?_
  refine sNil (kSeqN ?_)
  refine cBlock ?_
  refine wpC_loop (fun k' ρ m' => ∃ i v g, k' = G.length - i ∧ i ≤ G.length ∧ g.length ≤ i ∧ (∀ x ∈ g, x < i) ∧ g.Pairwise (· < ·) ∧ (i = G.length → G.length - 1 ∈ g) ∧ OwnF (m.size + 1) m' v (ofs g) ∧ StoreAt N0 N m' b (k + i) ∧ LowX (m.size + 1) b (m.push (.cells true #[.slice q G.length cap])) m' ∧ Has ρ [(0, .pointer (some ⟨b, 0, none⟩)), (3, .pointer (some ⟨m.size, 0, none⟩)), (5, v), (9, nv G.length), (10, nv i)]) ⟨0, _, [], rfl, by omega, by simp, by simp, .nil, by omega, .nil _ _, hS0, .refl _ _ _, rfl, rfl, rfl, rfl, rfl, trivial⟩ ?_
  rintro k' ρ m' ⟨i, v, g, rfl, hi, hgl, hgx, hgr, hgn, hO, hS, hX, hh⟩
  obtain ⟨qv, cv, rfl⟩ := hO.ints.lenN
  rw [hh.env]; clear hh
  have hz := hX.1
  simp only [Array.size_push] at hz
  have gb : Mem.get m' m.size = .cells true #[.slice q G.length cap] := (hX.2 _ (by omega) (by omega)).trans (gP rfl)
  refine cSeq ?_
  refine cRegion ?_
  refine sBin rfl rfl (aInt_lss) ?_
  refine sNil (kSeqN ?_)
  refine cSeq ?_   -- seq 5
  refine cCond rfl (fun c0 => ?_) (fun c0 => ?_)
  ·
    refine cSkip (kSeqN ?_)
    refine cSeq ?_
    refine cBlock ?_
    refine cSeq ?_
    refine cRegion ?_
    refine sMv (v := nv _) rfl ?_
    refine sAs (v := nv _) rfl ?_
    refine sNil (kSeqN ?_)
    refine cSeq ?_
    refine cRegion ?_
    refine sMv (v := nv _) rfl ?_
    refine sFA F24_0 rfl ?_
    refine sLd A22 rfl (by simp (disch := first | omega | (simp only [Array.size_push, Array.size_setIfInBounds]; done) | (simp only [Array.size_push, Array.size_setIfInBounds]; omega)) only [gP, gPn, gS, gSn, gb]; try rfl) rfl ?_
    refine sLen T22 rfl ?_
    refine sBin (v := nv (G.length - 1)) rfl rfl (aInt_sub (b := 1) (by omega)) ?_
    refine sBin (a := i) (b := G.length - 1) rfl rfl aInt_eql ?_
    refine sMv (v := .bool _) rfl ?_
    by_cases h5 : i = G.length - 1
    ·
      rw [decide_eq_true h5]
      refine sGno (q' := true) rfl rfl (by simp) ?_
      refine sGno (q' := true) rfl rfl (by simp) ?_
      refine sP (v := .bool _) rfl ?_
      refine sNil (kSeqN ?_)
      refine cCondT rfl ?_
      refine cRegion ?_
      refine sMv (v := .slice _ _ _) rfl ?_
      refine sMv (v := nv _) rfl ?_
      refine sBuildS T25 S3 Z3 (by decide) (by decide) (by decide) (by kernel_rfl) fill1 rfl ?_
      refine sApp App25 rfl rfl (N := m.size + 1) (by first | exact hOa.ext (.push _ _) | exact hO.ext (.push _ _)) one_ints (by first | (simp; omega) | (have := hz21; simp; omega)) (by simp; omega) fun v3 m3 hO3 hL3 => ?_
      rw [show ofs g ++ [Int.ofNat i] = ofs (g ++ [i]) by rw [ofs_append]; rfl] at hO3
      obtain ⟨q3, cp3, rfl⟩ := hO3.ints.lenN
      have hrs : (g ++ [i]).Pairwise (· < ·) := List.pairwise_append.2 ⟨hgr, List.pairwise_singleton _ _, fun a ha b hb => by rw [List.mem_singleton.1 hb]; exact hgx a ha⟩
      have hxs : ∀ x ∈ g ++ [i], x < i + 1 := fun x hx => by
        rcases List.mem_append.1 hx with hx | hx
        · have := hgx x hx; omega
        · rw [List.mem_singleton.1 hx]; omega
      refine sAs (v := .slice _ _ _) rfl ?_
      refine sNil (kBlkN (kSeqN ?_))
      refine cRegion ?_
      refine sBin rfl rfl (aInt_add (b := 1) (by omega)) ?_
      refine sMv (v := nv _) rfl ?_
      refine sNil (kSeqN ?_)
      have hL4 := mk_own' (by omega) hL3
      refine ⟨_, ?_, i + 1, _, g ++ [i], rfl, by omega, by simp; omega, hxs, hrs, fun e => by simp; right; omega, hO3, (hS.low hN0 hL4 (by omega)).le (by omega), hX.trans hL4.x, rfl, rfl, rfl, rfl, rfl, trivial⟩
      omega
    ·
      rw [decide_eq_false h5]
      refine sG rfl rfl ?_
      refine sMv (v := .pointer _) rfl ?_
      refine sG rfl rfl ?_
      obtain ⟨v21, m21, h21, ⟨x, rfl⟩, hS21, hO21⟩ := spec_Seldom (n := 6) hS (by omega) (by omega) (by omega)
      refine sCall2 rfl call89 rfl rfl h21 ?_
      refine sP (v := .bool _) rfl ?_
      refine sNil (kSeqN ?_)
      refine cCond (p := x = 0) rfl (fun c2 => ?_) (fun c2 => ?_)
      ·
        have hOa := hO.only hO21 (by omega)
        have hz21 := hO21.1
        refine cRegion ?_
        refine sMv (v := .slice _ _ _) rfl ?_
        refine sMv (v := nv _) rfl ?_
        refine sBuildS T25 S3 Z3 (by decide) (by decide) (by decide) (by kernel_rfl) fill1 rfl ?_
        refine sApp App25 rfl rfl (N := m.size + 1) (by first | exact hOa.ext (.push _ _) | exact hO.ext (.push _ _)) one_ints (by first | (simp; omega) | (have := hz21; simp; omega)) (by simp; omega) fun v3 m3 hO3 hL3 => ?_
        rw [show ofs g ++ [Int.ofNat i] = ofs (g ++ [i]) by rw [ofs_append]; rfl] at hO3
        obtain ⟨q3, cp3, rfl⟩ := hO3.ints.lenN
        have hrs : (g ++ [i]).Pairwise (· < ·) := List.pairwise_append.2 ⟨hgr, List.pairwise_singleton _ _, fun a ha b hb => by rw [List.mem_singleton.1 hb]; exact hgx a ha⟩
        have hxs : ∀ x ∈ g ++ [i], x < i + 1 := fun x hx => by
          rcases List.mem_append.1 hx with hx | hx
          · have := hgx x hx; omega
          · rw [List.mem_singleton.1 hx]; omega
        refine sAs (v := .slice _ _ _) rfl ?_
        refine sNil (kBlkN (kSeqN ?_))
        refine cRegion ?_
        refine sBin rfl rfl (aInt_add (b := 1) (by omega)) ?_
        refine sMv (v := nv _) rfl ?_
        refine sNil (kSeqN ?_)
        have hL4 := mk_own' (M := m.size + 1) (by omega) hL3
        refine ⟨_, ?_, i + 1, _, g ++ [i], rfl, by omega, by simp; omega, hxs, hrs, fun e => by simp; right; omega, hO3, (hS21.low hN0 hL4 (by omega)).le (by omega), (hX.trans hO21.x).trans hL4.x, rfl, rfl, rfl, rfl, rfl, trivial⟩
        omega
      ·
        refine cSkip (kBlkN (kSeqN ?_))
        refine cRegion ?_
        refine sBin rfl rfl (aInt_add (b := 1) (by omega)) ?_
        refine sMv (v := nv _) rfl ?_
        refine sNil (kSeqN ?_)
        have hOa := hO.only hO21 (by omega)
        refine ⟨_, ?_, i + 1, _, g, rfl, by omega, by omega, fun x hx => by have := hgx x hx; omega, hgr, fun e => by omega, hOa, hS21.le (by omega), hX.trans hO21.x, rfl, rfl, rfl, rfl, rfl, trivial⟩
        omega
  ·
    refine cExit (kSeqE (kSeqE (kBlkS (kSeqN ?_))))
    refine cSeq ?_
    refine cRegion ?_
    refine sMv (v := .slice _ _ _) rfl ?_
    refine sAs (v := .slice _ _ _) rfl ?_
    refine sNil (kSeqN ?_)
    refine cRet ?_
    obtain rfl : i = G.length := by omega
    have hm := hgn rfl
    refine ⟨.inr rfl, _, rfl, g, hO.mono (by omega), ⟨List.length_pos_of_mem hm, hgx, hgr⟩, hm, hS.le (by omega), ?_⟩
    exact (Low.push m.size (Nat.le_refl _) _).x.trans ⟨hX.1, fun c h1 h2 => hX.2 c (by omega) h2⟩

theorem okf57 : okF Tryd.prog H0 57 13 = true := by kernel_rfl
theorem spec_pebbles {m : Mem} {x : Nat} (hx : x < 2 ^ 62) : ACalls Tryd.prog 57 #[nv x] m (nv (popc x)) m := by
  suffices h : ∃ v m', ACalls Tryd.prog 57 #[nv x] m v m' ∧ (v = nv (popc x) ∧ m' = m) by
    obtain ⟨v, m', h, rfl, rfl⟩ := h; exact h
  have hp := popc_le_of_lt hx
  refine wpF (args := [_]) mixed okf57 (fn := Tryd.f57) rfl rfl rfl (by simp) ?_
  refine cSeq ?_
  refine cRegion ?_
  refine sAs (v := nv 0) rfl ?_
  refine sNil (kSeqN ?_)
  refine cSeq ?_
  refine cRegion ?_
  refine sAs (v := nv 0) rfl ?_
  refine sNil (kSeqN ?_)
  refine cSeq ?_
  refine cBlock ?_
  refine wpC_loop (fun k ρ m' => ∃ y c, k = y ∧ y < 2 ^ 62 ∧ c + popc y = popc x ∧ m = m' ∧ Has ρ [(0, nv y), (3, nv c)]) ⟨x, 0, rfl, hx, by omega, rfl, rfl, rfl, trivial⟩ ?_
  rintro k ρ _ ⟨y, c, rfl, hy, hc, rfl, hh⟩
  rw [hh.env]; clear hh
  refine cSeq ?_   -- seq 3
  refine cSeq ?_
  refine cRegion ?_
  refine sMv (v := nv _) rfl ?_
  refine sBin (b := 0) rfl rfl aInt_gtr ?_
  refine sNil (kSeqN ?_)
  refine cCond rfl (fun c0 => ?_) (fun c0 => ?_)
  ·
    have hh := popc_half k
    refine cSkip (kSeqN ?_)
    refine cSeq ?_
    refine cBlock ?_
    refine cRegion ?_
    refine sMv (v := nv _) rfl ?_
    refine sMv (v := nv _) rfl ?_
    refine sBin (b := 1) rfl rfl (aInt_and (by omega)) ?_
    have h3 : k &&& 1 = k % 2 := Nat.and_one_is_mod _
    refine sBin rfl rfl (aInt_add (by omega)) ?_
    refine sAs (v := nv _) rfl ?_
    refine sNil (kBlkN (kSeqN ?_))
    refine cRegion ?_
    refine sMv (v := nv _) rfl ?_
    refine sShr (a := k) (b := 1) rfl rfl (by omega) ?_
    have h4 : k >>> 1 = k / 2 := by rw [Nat.shiftRight_eq_div_pow]
    refine sAs (v := nv _) rfl ?_
    refine sNil (kSeqN ?_)
    refine ⟨k / 2, by omega, k / 2, c + (k &&& 1), rfl, by omega, by omega, rfl, by rw [← h4]; rfl, rfl, trivial⟩
  ·
    refine cExit (kSeqE (kSeqE (kBlkS (kSeqN ?_))))
    refine cSeq ?_
    refine cRegion ?_
    refine sMv (v := nv _) rfl ?_
    refine sAs (v := nv _) rfl ?_
    refine sNil (kSeqN ?_)
    refine cRet ?_
    obtain rfl : k = 0 := by omega
    have h0 : popc 0 = 0 := rfl
    refine ⟨.inr rfl, _, rfl, ?_, rfl⟩
    rw [← hc, h0]; rfl

end Go.AM

/-! ### P24 -/
namespace Go.AM
open Go.Proofs
set_option maxRecDepth 100000
set_option linter.unusedVariables false
set_option linter.unusedSimpArgs false
/-- A slice that may be wiped. -/
def Wr (N M : Nat) (m : Mem) (s : Value) (n : Nat) : Prop := (s = .slice none 0 0 ∧ n = 0) ∨ ∃ b cap c, s = .slice (some ⟨b, 0, some 1⟩) n cap ∧ (N ≤ b ∧ b < M) ∧ Mem.get m b = .cells true c ∧ n ≤ c.size
/-- What wiping leaves. -/
def Wipe (N M : Nat) (m m' : Mem) : Prop := m'.size = m.size ∧ (∀ b, b < N ∨ M ≤ b → Mem.get m' b = Mem.get m b) ∧ ∀ b c, Mem.get m b = .cells true c → ∃ c', Mem.get m' b = .cells true c' ∧ c'.size = c.size
theorem Wipe.refl (N M : Nat) (m : Mem) : Wipe N M m m := ⟨rfl, fun _ _ => rfl, fun b c h => ⟨c, h, rfl⟩⟩
theorem Wipe.trans {N M : Nat} {a b c : Mem} (h : Wipe N M a b) (h' : Wipe N M b c) : Wipe N M a c := ⟨h'.1.trans h.1, fun i hi => (h'.2.1 i hi).trans (h.2.1 i hi), fun i x hx => by
  obtain ⟨y, hy, e⟩ := h.2.2 i x hx
  obtain ⟨z, hz, e'⟩ := h'.2.2 i y hy
  exact ⟨z, hz, e'.trans e⟩⟩
theorem Wipe.low {N M : Nat} {m m' : Mem} (h : Wipe N M m m') : Low N m m' := ⟨by rw [h.1]; exact Nat.le_refl _, fun b hb => h.2.1 b (.inl hb)⟩
theorem Wr.wipe {N M : Nat} {m m' : Mem} {s : Value} {n : Nat} (h : Wr N M m s n) (hw : Wipe N M m m') : Wr N M m' s n := by
  rcases h with h | ⟨b, cap, c, h1, h2, h3, h4⟩
  · exact .inl h
  · obtain ⟨c', h5, h6⟩ := hw.2.2 b c h3
    exact .inr ⟨b, cap, c', h1, h2, h5, by omega⟩
theorem OwnF.wr {N M : Nat} {m : Mem} {v : Value} {l : List Int} (h : OwnF N m v l) (hM : ∀ b, blkOf v = some b → b < M) : Wr N M m v l.length := by
  rcases h with ⟨rfl, rfl⟩ | ⟨b, cap, c, h1, h2, h3, h4, h5, _⟩
  · exact .inl ⟨rfl, rfl⟩
  · exact .inr ⟨b, cap, c, h1, ⟨h2, hM b (by rw [h1]; rfl)⟩, h3, by omega⟩
theorem zeroCells_one (z : Value) (n : Nat) : Builtin.zeroCells #[z] n = Array.replicate n z := by
  unfold Builtin.zeroCells
  apply Array.ext
  · simp
  · intro i h1 h2
    simp [Nat.mod_one]
theorem sClrW {P : Program} {ρ : Env} {m : Mem} {K : Env → Mem → Prop} {ops : Array Oper} {l : List Oper} {d : Option Nat} {ty t e : TypeId} {pos : String} {af : Array Edge} {x : Operand} {s z : Value} {N M n : Nat}
    (ht : undOf P t = some (.slice e)) (hz : zeroOf P e = some z) (h1 : z.cells = #[z]) (h2 : flat0 z = true) (h3 : Value.oneCell' z = true) (hx : evR ρ x = s) (hs : Wr N M m s n)
    (hk : ∀ m', Wipe N M m m' → (∀ b, blkOf s ≠ some b → Mem.get m' b = Mem.get m b) → wpOps P ops K l (updO ρ d (.tuple #[])) m') : wpOps P ops K (⟨d, .call ⟨.builtin .clear, ⟨[x]⟩, ⟨[t]⟩⟩, ty, pos, af, none⟩ :: l) ρ m := by
  rcases hs with ⟨rfl, _⟩ | ⟨b, cap, c, rfl, hN, hb, hn⟩
  · refine sO (opF_eff rfl rfl ?_) (hk m (.refl _ _ _) fun _ _ => rfl)
    simp only [aEff, hx, aClear, ht]
  · by_cases h0 : n = 0
    · refine sO (opF_eff rfl rfl ?_) (hk m (.refl _ _ _) fun _ _ => rfl)
      simp only [aEff, hx, aClear, ht, h0, if_true]
    · refine sO (opF_eff rfl rfl ?_) (hk (m.setIfInBounds b (.cells true (lay c 0 (Array.replicate n z)))) ⟨by simp, fun i hi => gSn (by omega), fun i c' hi => ?_⟩ fun i hi => gSn fun e => hi (by rw [← e]; rfl))
      · simp only [aEff, hx, aClear, ht, if_neg h0, hz, hb, h1, zeroCells_one]
        rw [if_pos ⟨by simp, by simp [h2], by simp; omega, by rw [Array.all_eq_true]; intro i hi; simp [h3]⟩]
      · by_cases hib : b = i
        · subst hib
          rw [hb] at hi; cases hi
          exact ⟨_, gS rfl (live hb), lay_size ..⟩
        · exact ⟨c', (gSn hib).trans hi, rfl⟩

theorem okf35 : okF Tryd.prog H0 35 13 = true := by kernel_rfl
theorem spec_SpoilRows {m : Mem} {v : Value} {cs : Array Value} {G : List (List Int)} {N M : Nat} (hO : OwnR N m v cs G) (hl : G.length < 1000000) (hMv : ∀ b, blkOf v = some b → b < M) (hMs : ∀ (i : Nat) (s : Value), cs[i]? = some s → ∀ b, blkOf s = some b → b < M) : ∃ w m', ACalls Tryd.prog 35 #[v] m w m' ∧ (Wipe N M m m') := by
  have hsz := hO.1.size
  have hvw : Wr N M m v G.length := by
    rcases hO.1 with ⟨rfl, h, _⟩ | ⟨b, cap, c, h1, h2, h3, h4, h5, _⟩
    · exact .inl ⟨rfl, h⟩
    · exact .inr ⟨b, cap, c, h1, ⟨h2, hMv b (by rw [h1]; rfl)⟩, h3, by omega⟩
  have hrows : ∀ i, i < G.length → ∃ s n, cs[i]? = some s ∧ Wr N M m s n ∧ (∃ q c, s = .slice q n c) ∧ ∀ b, blkOf s = some b → blkOf v ≠ some b := fun i hi => by
    obtain ⟨s, hs, ho, hb⟩ := hO.2 i _ (List.getElem?_eq_getElem hi)
    obtain ⟨q, c, e⟩ := ho.ints.len
    exact ⟨s, _, hs, ho.wr (hMs i s hs), ⟨q, c, e⟩, hb⟩
  obtain ⟨q, cap, rfl⟩ := hO.1.len
  refine wpF (args := [_]) mixed okf35 (fn := Tryd.f35) rfl rfl rfl (by simp) ?_
  refine cSeq ?_
  refine cSeq ?_
  refine cRegion ?_
  refine sMv (v := .slice _ _ _) rfl ?_
  refine sLen T22 rfl ?_
  refine sMv (v := nv 0) rfl ?_
  refine sNil (kSeqN ?_)
  refine cBlock ?_
  refine wpC_loop (fun k ρ m' => ∃ i, k = G.length - i ∧ i ≤ G.length ∧ Wipe N M m m' ∧ (∀ b, blkOf (.slice q G.length cap) = some b → Mem.get m' b = Mem.get m b) ∧ Has ρ [(0, .slice q G.length cap), (4, .slice q G.length cap), (5, nv G.length), (6, nv i)]) ⟨0, rfl, Nat.zero_le _, .refl _ _ _, fun _ _ => rfl, rfl, rfl, rfl, rfl, trivial⟩ ?_
  rintro k ρ m' ⟨i, rfl, hi, hw, hkeep, hh⟩
  rw [hh.env]; clear hh
  refine cSeq ?_
  refine cRegion ?_
  refine sBin rfl rfl (aInt_lss) ?_
  refine sNil (kSeqN ?_)
  refine cSeq ?_   -- seq 3
  refine cCond rfl (fun c0 => ?_) (fun c0 => ?_)
  ·
    obtain ⟨b1, p1, cc, e1, hb1, g1, hc1, x1⟩ := hO.1.at (by omega)
    cases e1
    obtain ⟨s, n, hs, hsw, ⟨qs, c', rfl⟩, hsb⟩ := hrows i c0
    refine cSkip (kSeqN ?_)
    refine cSeq ?_
    refine cBlock ?_
    refine cSeq ?_
    refine cRegion ?_
    refine sIx T22 S25 rfl rfl (by omega) ?_
    refine sLd (v := .slice qs n c') A25 rfl ((hkeep b1 rfl).trans g1) (by rw [Nat.zero_add, Nat.mul_one, x1 i (by omega)]; exact hs) ?_
    refine sAs (v := .slice _ _ _) rfl ?_
    refine sNil (kSeqN ?_)
    refine cRegion ?_
    refine sMv (v := .slice _ _ _) rfl ?_
    refine sClrW (N := N) (M := M) T25 Z3 rfl rfl rfl rfl (hsw.wipe hw) fun m2 hw2 hk2 => ?_
    refine sNil (kBlkN (kSeqN ?_))
    refine cRegion ?_
    refine sBin rfl rfl (aInt_add (b := 1) (by omega)) ?_
    refine sMv (v := nv _) rfl ?_
    refine sNil (kSeqN ?_)
    refine ⟨_, ?_, i + 1, rfl, by omega, hw.trans hw2, fun b hb => (hk2 b (fun e => hsb b e hb)).trans (hkeep b hb), rfl, rfl, rfl, rfl, trivial⟩
    omega
  ·
    refine cExit (kSeqE (kSeqE (kBlkS (kSeqN ?_))))
    refine cRegion ?_
    refine sMv (v := .slice _ _ _) rfl ?_
    refine sClrW (N := N) (M := M) T22 Z25 rfl rfl rfl rfl (hvw.wipe hw) fun m2 hw2 hk2 => ?_
    refine sNil ?_
    exact ⟨.inl rfl, _, rfl, hw.trans hw2⟩

end Go.AM

/-! ### P25 -/
namespace Go.AM
open Go.Proofs
set_option maxRecDepth 100000
set_option linter.unusedVariables false
set_option linter.unusedSimpArgs false
def Small (G : List (List Int)) : Prop := G.length ≤ 1000 ∧ ∀ g ∈ G, g.length ≤ 1000
theorem gv_same {m : Mem} {a b : Value} {G : List (List Int)} (ha : RowsAt m a G) (hb : RowsAt m b G) (h : Small G) : ∃ m', ACalls Tryd.prog 24 #[.agg #[a], .agg #[b]] m (.bool true) m' ∧ Ext m m' := by
  obtain ⟨v, m', h, rfl, he⟩ := spec_same ha hb (by have := h.1; omega) (fun g hg => by have := h.2 g hg; omega)
  rw [decide_eq_true rfl] at h
  exact ⟨m', h, he⟩

theorem OwnR.bound {N : Nat} {m : Mem} {v : Value} {cs : Array Value} {G : List (List Int)} (h : OwnR N m v cs G) : (∀ b, blkOf v = some b → b < m.size) ∧ ∀ (i : Nat) (s : Value), cs[i]? = some s → ∀ b, blkOf s = some b → b < m.size := by
  refine ⟨fun b hb => (h.1.lt hb).2, fun i s hs b hb => ?_⟩
  have hsz := h.1.size
  have hi := (Array.getElem?_eq_some_iff.1 hs).1
  obtain ⟨s', hs', ho, _⟩ := h.2 i _ (List.getElem?_eq_getElem (by omega))
  rw [hs] at hs'
  obtain rfl := Option.some.inj hs'
  exact (ho.lt hb).2
theorem ifOk_small {e : Nat} {G : List (List Nat)} (h : e = 0 → Small (ofs2 G)) : Small (ofs2 (ifOk e G [])) := by
  by_cases h0 : e = 0
  · rw [ifOk_0 h0]; exact h h0
  · rw [ifOk_n h0]; exact ⟨by simp, by simp [ofs2]⟩
theorem small_of {G : List (List Nat)} (h1 : G.length ≤ 1000) (h2 : ∀ g ∈ G, g.length ≤ 1000) : Small (ofs2 G) := by
  refine ⟨by rw [ofs2_length]; exact h1, fun g hg => ?_⟩
  simp only [ofs2, List.mem_map] at hg
  obtain ⟨g', hg', rfl⟩ := hg
  rw [ofs_length]; exact h2 g' hg'
theorem gv_line (n : Int) : Small (ofs2 (ifOk (benE n) (lineM n.toNat) [])) := ifOk_small fun h => by
  unfold benE at h
  split at h
  · cases h
  refine small_of (by rw [lineM, lineAt_length]; omega) fun g hg => ?_
  simp only [lineM, lineAt, List.mem_map] at hg
  obtain ⟨j, _, rfl⟩ := hg
  split <;> simp
theorem gv_tree (n : Int) : Small (ofs2 (ifOk (treeE n) (treeM n.toNat) [])) := ifOk_small fun h => by
  unfold treeE at h
  split at h
  · cases h
  have hp := Nat.pow_le_pow_right (n := 2) (by omega) (show n.toNat - 1 ≤ 2 by omega)
  refine small_of (by rw [treeM, treeAt_length]; omega) fun g hg => ?_
  simp only [treeM, treeAt, List.mem_map] at hg
  obtain ⟨j, _, rfl⟩ := hg
  split <;> simp
theorem gv_ben (n : Int) : (ifOk (benE n) (benM n.toNat) []).length ≤ 59049 := by
  by_cases h0 : benE n = 0
  · rw [ifOk_0 h0]; exact benF_len 10 0 _
  · rw [ifOk_n h0]; simp

theorem okf5 : okF Tryd.prog H0 5 89 = true := by kernel_rfl
theorem spec_Given {m : Mem} (hGl : GlobP m) : ∃ v m', ACalls Tryd.prog 5 #[] m v m' ∧ (v = .bool true ∧ True) := by
  refine wpF (args := []) mixed okf5 (fn := Tryd.f5) rfl rfl rfl (by simp) ?_
  refine cSeq ?_
  refine cRegion ?_
  refine sAs (v := .bool _) rfl ?_
  refine sNil (kSeqN ?_)
  refine cSeq ?_
  refine cSeq ?_
  refine cRegion ?_
  refine sAs (v := .int _ _) rfl ?_
  refine sNil (kSeqN ?_)
  refine cBlock ?_
  refine wpC_loop (fun k ρ m1 => ∃ j, k = 14 - j ∧ j ≤ 14 ∧ Ext m m1 ∧ Has ρ [(1, .int .i64 (Int.ofNat j - 1))]) ⟨0, rfl, Nat.zero_le _, .refl _, rfl, trivial⟩ ?_
  rintro k ρ m1 ⟨j, rfl, hj, E, hh⟩
  rw [hh.env]; clear hh
  have hm1 := E.1
  refine cSeq ?_   -- seq 3
  refine cSeq ?_
  refine cRegion ?_
  refine sMv (v := .int _ _) rfl ?_
  refine sBinI (b := 13) rfl rfl aInt_lssI ?_
  refine sNil (kSeqN ?_)
  refine cCond rfl (fun c0 => ?_) (fun c0 => ?_)
  ·
    have hj13 : j < 14 := by simp at c0; omega
    refine cSkip (kSeqN ?_)
    refine cSeq ?_
    refine cBlock ?_
    refine cSeq ?_
    refine cRegion ?_
    refine sMv (v := .int _ _) rfl ?_
    obtain ⟨vA, mA, h_, wA, csA, rfl, rA, e_⟩ := spec_Line (m := m1) (n := Int.ofNat j - 1)
    obtain ⟨qA, cA, rfl⟩ := rA.1.len
    have bA := rA.bound
    have zzA := e_.1
    refine sCall1 rfl call29 rfl h_ ?_
    clear h_
    have x_ : Ext m1 mA := e_
    replace E := E.trans x_
    clear x_
    clear e_
    have EA : Ext mA mA := .refl _
    refine sMv (v := .tuple _) rfl ?_
    refine sP (v := .agg _) rfl ?_   -- extract ['t18', '0']
    refine sP (v := nv _) rfl ?_   -- extract ['t18', '1']
    refine sAlloc Z24 (by kernel_rfl) ?_
    refine sStNA S24 rfl rfl rfl rfl (by kernel_rfl) ?_
    have x_ : Ext mA (mA.push (.cells true #[.slice qA (ofs2 (ifOk (benE (Int.ofNat j - 1)) (lineM (Int.ofNat j - 1).toNat) [])).length cA])) := .push _ _
    replace E := E.trans x_
    replace rA := rA.ext x_
    replace EA := EA.trans x_
    clear x_
    have gA : Mem.get (mA.push (.cells true #[.slice qA (ofs2 (ifOk (benE (Int.ofNat j - 1)) (lineM (Int.ofNat j - 1).toNat) [])).length cA])) mA.size = .cells true #[.slice qA (ofs2 (ifOk (benE (Int.ofNat j - 1)) (lineM (Int.ofNat j - 1).toNat) [])).length cA] := gP rfl
    refine sAs (v := nv _) rfl ?_
    refine sNil (kSeqN ?_)
    refine cSeq ?_
    refine cRegion ?_
    refine sMv (v := .int _ _) rfl ?_
    obtain ⟨vB, mB, h_, wB, csB, rfl, rB, e_⟩ := spec_refLine (m := (mA.push (.cells true #[.slice qA (ofs2 (ifOk (benE (Int.ofNat j - 1)) (lineM (Int.ofNat j - 1).toNat) [])).length cA]))) (n := Int.ofNat j - 1)
    obtain ⟨qB, cB, rfl⟩ := rB.1.len
    have bB := rB.bound
    have zzB := e_.1
    refine sCall1 rfl call30 rfl h_ ?_
    clear h_
    have x_ : Ext (mA.push (.cells true #[.slice qA (ofs2 (ifOk (benE (Int.ofNat j - 1)) (lineM (Int.ofNat j - 1).toNat) [])).length cA])) mB := e_
    replace E := E.trans x_
    replace rA := rA.ext x_
    replace EA := EA.trans x_
    replace gA := x_.cells gA
    clear x_
    clear e_
    refine sMv (v := .tuple _) rfl ?_
    refine sP (v := .agg _) rfl ?_   -- extract ['t23', '0']
    refine sP (v := nv _) rfl ?_   -- extract ['t23', '1']
    refine sAlloc Z24 (by kernel_rfl) ?_
    refine sStNA S24 rfl rfl rfl rfl (by kernel_rfl) ?_
    have x_ : Ext mB (mB.push (.cells true #[.slice qB (ofs2 (ifOk (benE (Int.ofNat j - 1)) (lineM (Int.ofNat j - 1).toNat) [])).length cB])) := .push _ _
    replace E := E.trans x_
    replace rA := rA.ext x_
    replace EA := EA.trans x_
    replace gA := x_.cells gA
    replace rB := rB.ext x_
    clear x_
    have gB : Mem.get (mB.push (.cells true #[.slice qB (ofs2 (ifOk (benE (Int.ofNat j - 1)) (lineM (Int.ofNat j - 1).toNat) [])).length cB])) mB.size = .cells true #[.slice qB (ofs2 (ifOk (benE (Int.ofNat j - 1)) (lineM (Int.ofNat j - 1).toNat) [])).length cB] := gP rfl
    refine sAs (v := nv _) rfl ?_
    refine sNil (kSeqN ?_)
    refine cSeq ?_
    refine cRegion ?_
    refine sMv (v := .int _ _) rfl ?_
    have zC : mA.size ≤ (mB.push (.cells true #[.slice qB (ofs2 (ifOk (benE (Int.ofNat j - 1)) (lineM (Int.ofNat j - 1).toNat) [])).length cB])).size := EA.1
    obtain ⟨vC, mC, h_, wC, csC, rfl, rC, e_⟩ := spec_Tree (m := (mB.push (.cells true #[.slice qB (ofs2 (ifOk (benE (Int.ofNat j - 1)) (lineM (Int.ofNat j - 1).toNat) [])).length cB]))) (n := Int.ofNat j - 1)
    obtain ⟨qC, cC, rfl⟩ := rC.1.len
    have bC := rC.bound
    have zzC := e_.1
    refine sCall1 rfl call31 rfl h_ ?_
    clear h_
    have x_ : Ext (mB.push (.cells true #[.slice qB (ofs2 (ifOk (benE (Int.ofNat j - 1)) (lineM (Int.ofNat j - 1).toNat) [])).length cB])) mC := e_
    replace E := E.trans x_
    replace rA := rA.ext x_
    replace EA := EA.trans x_
    replace gA := x_.cells gA
    replace rB := rB.ext x_
    replace gB := x_.cells gB
    clear x_
    clear e_
    have EC : Ext mC mC := .refl _
    refine sMv (v := .tuple _) rfl ?_
    refine sP (v := .agg _) rfl ?_   -- extract ['t28', '0']
    refine sP (v := nv _) rfl ?_   -- extract ['t28', '1']
    refine sAlloc Z24 (by kernel_rfl) ?_
    refine sStNA S24 rfl rfl rfl rfl (by kernel_rfl) ?_
    have x_ : Ext mC (mC.push (.cells true #[.slice qC (ofs2 (ifOk (treeE (Int.ofNat j - 1)) (treeM (Int.ofNat j - 1).toNat) [])).length cC])) := .push _ _
    replace E := E.trans x_
    replace rA := rA.ext x_
    replace EA := EA.trans x_
    replace gA := x_.cells gA
    replace rB := rB.ext x_
    replace gB := x_.cells gB
    replace rC := rC.ext x_
    replace EC := EC.trans x_
    clear x_
    have gC : Mem.get (mC.push (.cells true #[.slice qC (ofs2 (ifOk (treeE (Int.ofNat j - 1)) (treeM (Int.ofNat j - 1).toNat) [])).length cC])) mC.size = .cells true #[.slice qC (ofs2 (ifOk (treeE (Int.ofNat j - 1)) (treeM (Int.ofNat j - 1).toNat) [])).length cC] := gP rfl
    refine sAs (v := nv _) rfl ?_
    refine sNil (kSeqN ?_)
    refine cSeq ?_
    refine cRegion ?_
    refine sMv (v := .int _ _) rfl ?_
    obtain ⟨vD, mD, h_, wD, csD, rfl, rD, e_⟩ := spec_refTree (m := (mC.push (.cells true #[.slice qC (ofs2 (ifOk (treeE (Int.ofNat j - 1)) (treeM (Int.ofNat j - 1).toNat) [])).length cC]))) (n := Int.ofNat j - 1)
    obtain ⟨qD, cD, rfl⟩ := rD.1.len
    have bD := rD.bound
    have zzD := e_.1
    refine sCall1 rfl call32 rfl h_ ?_
    clear h_
    have x_ : Ext (mC.push (.cells true #[.slice qC (ofs2 (ifOk (treeE (Int.ofNat j - 1)) (treeM (Int.ofNat j - 1).toNat) [])).length cC])) mD := e_
    replace E := E.trans x_
    replace rA := rA.ext x_
    replace EA := EA.trans x_
    replace gA := x_.cells gA
    replace rB := rB.ext x_
    replace gB := x_.cells gB
    replace rC := rC.ext x_
    replace EC := EC.trans x_
    replace gC := x_.cells gC
    clear x_
    clear e_
    refine sMv (v := .tuple _) rfl ?_
    refine sP (v := .agg _) rfl ?_   -- extract ['t33', '0']
    refine sP (v := nv _) rfl ?_   -- extract ['t33', '1']
    refine sAlloc Z24 (by kernel_rfl) ?_
    refine sStNA S24 rfl rfl rfl rfl (by kernel_rfl) ?_
    have x_ : Ext mD (mD.push (.cells true #[.slice qD (ofs2 (ifOk (treeE (Int.ofNat j - 1)) (treeM (Int.ofNat j - 1).toNat) [])).length cD])) := .push _ _
    replace E := E.trans x_
    replace rA := rA.ext x_
    replace EA := EA.trans x_
    replace gA := x_.cells gA
    replace rB := rB.ext x_
    replace gB := x_.cells gB
    replace rC := rC.ext x_
    replace EC := EC.trans x_
    replace gC := x_.cells gC
    replace rD := rD.ext x_
    clear x_
    have gD : Mem.get (mD.push (.cells true #[.slice qD (ofs2 (ifOk (treeE (Int.ofNat j - 1)) (treeM (Int.ofNat j - 1).toNat) [])).length cD])) mD.size = .cells true #[.slice qD (ofs2 (ifOk (treeE (Int.ofNat j - 1)) (treeM (Int.ofNat j - 1).toNat) [])).length cD] := gP rfl
    refine sAs (v := nv _) rfl ?_
    refine sNil (kSeqN ?_)
    refine cSeq ?_
    refine cRegion ?_
    refine sMv (v := .int _ _) rfl ?_
    have zF : mA.size ≤ (mD.push (.cells true #[.slice qD (ofs2 (ifOk (treeE (Int.ofNat j - 1)) (treeM (Int.ofNat j - 1).toNat) [])).length cD])).size ∧ mC.size ≤ (mD.push (.cells true #[.slice qD (ofs2 (ifOk (treeE (Int.ofNat j - 1)) (treeM (Int.ofNat j - 1).toNat) [])).length cD])).size := ⟨EA.1, EC.1⟩
    obtain ⟨vF, mF, h_, wF, rfl, oF, e_⟩ := spec_Bennett (m := (mD.push (.cells true #[.slice qD (ofs2 (ifOk (treeE (Int.ofNat j - 1)) (treeM (Int.ofNat j - 1).toNat) [])).length cD]))) (n := Int.ofNat j - 1)
    obtain ⟨qF, cF, rfl⟩ := oF.ints.lenN
    have zzF := e_.1
    refine sCall1 rfl call33 rfl h_ ?_
    clear h_
    have x_ : Ext (mD.push (.cells true #[.slice qD (ofs2 (ifOk (treeE (Int.ofNat j - 1)) (treeM (Int.ofNat j - 1).toNat) [])).length cD])) mF := e_
    replace E := E.trans x_
    replace rA := rA.ext x_
    replace EA := EA.trans x_
    replace gA := x_.cells gA
    replace rB := rB.ext x_
    replace gB := x_.cells gB
    replace rC := rC.ext x_
    replace EC := EC.trans x_
    replace gC := x_.cells gC
    replace rD := rD.ext x_
    replace gD := x_.cells gD
    clear x_
    clear e_
    refine sMv (v := .tuple _) rfl ?_
    refine sP (v := .slice _ _ _) rfl ?_   -- extract ['t38', '0']
    refine sP (v := nv _) rfl ?_   -- extract ['t38', '1']
    refine sAs (v := .slice _ _ _) rfl ?_
    refine sAs (v := nv _) rfl ?_
    refine sNil (kSeqN ?_)
    refine cSeq ?_
    refine cRegion ?_
    refine sMv (v := .int _ _) rfl ?_
    obtain ⟨vG, mG, h_, wG, rfl, oG, e_⟩ := spec_refBennett (m := mF) (n := Int.ofNat j - 1)
    obtain ⟨qG, cG, rfl⟩ := oG.ints.lenN
    have zzG := e_.1
    refine sCall1 rfl call34 rfl h_ ?_
    clear h_
    have x_ : Ext mF mG := e_
    replace E := E.trans x_
    replace rA := rA.ext x_
    replace EA := EA.trans x_
    replace gA := x_.cells gA
    replace rB := rB.ext x_
    replace gB := x_.cells gB
    replace rC := rC.ext x_
    replace EC := EC.trans x_
    replace gC := x_.cells gC
    replace rD := rD.ext x_
    replace gD := x_.cells gD
    replace oF := oF.ext x_
    clear x_
    clear e_
    refine sMv (v := .tuple _) rfl ?_
    refine sP (v := .slice _ _ _) rfl ?_   -- extract ['t43', '0']
    refine sP (v := nv _) rfl ?_   -- extract ['t43', '1']
    refine sAs (v := .slice _ _ _) rfl ?_
    refine sAs (v := nv _) rfl ?_
    refine sNil (kSeqN ?_)
    refine cSeq ?_   -- seq 12
    refine cSeq ?_
    refine cRegion ?_
    refine sLdAll A24 S24 rfl gA rfl ?_
    refine sLdAll A24 S24 rfl gB rfl ?_
    obtain ⟨m50, h_, e_⟩ := gv_same rA.rows rB.rows (gv_line _)
    refine sCall2 rfl call24 rfl rfl h_ ?_
    clear h_
    have x_ : Ext mG m50 := e_
    replace E := E.trans x_
    replace rA := rA.ext x_
    replace EA := EA.trans x_
    replace gA := x_.cells gA
    replace rB := rB.ext x_
    replace gB := x_.cells gB
    replace rC := rC.ext x_
    replace EC := EC.trans x_
    replace gC := x_.cells gC
    replace rD := rD.ext x_
    replace gD := x_.cells gD
    replace oF := oF.ext x_
    replace oG := oG.ext x_
    clear x_
    clear e_
    refine sP (v := .bool false) rfl ?_
    refine sMv (v := .bool _) rfl ?_
    refine sG rfl rfl ?_
    refine sMv (v := nv _) rfl ?_
    refine sG rfl rfl ?_
    refine sMv (v := nv _) rfl ?_
    refine sG rfl rfl ?_
    refine sBin (v := .bool false) (a := benE (Int.ofNat j - 1)) (b := benE (Int.ofNat j - 1)) rfl rfl (neqF rfl) ?_
    refine sP (v := .bool false) rfl ?_
    refine sMv (v := .bool _) rfl ?_
    refine sG rfl rfl ?_
    refine sLdAll A24 S24 rfl gC rfl ?_
    refine sG rfl rfl ?_
    refine sLdAll A24 S24 rfl gD rfl ?_
    refine sG rfl rfl ?_
    obtain ⟨m60, h_, e_⟩ := gv_same rC.rows rD.rows (gv_tree _)
    refine sCall2 rfl call24 rfl rfl h_ ?_
    clear h_
    have x_ : Ext m50 m60 := e_
    replace E := E.trans x_
    replace rA := rA.ext x_
    replace EA := EA.trans x_
    replace gA := x_.cells gA
    replace rB := rB.ext x_
    replace gB := x_.cells gB
    replace rC := rC.ext x_
    replace EC := EC.trans x_
    replace gC := x_.cells gC
    replace rD := rD.ext x_
    replace gD := x_.cells gD
    replace oF := oF.ext x_
    replace oG := oG.ext x_
    clear x_
    clear e_
    refine sG rfl rfl ?_
    refine sP (v := .bool false) rfl ?_
    refine sP (v := .bool false) rfl ?_
    refine sMv (v := .bool _) rfl ?_
    refine sG rfl rfl ?_
    refine sMv (v := nv _) rfl ?_
    refine sG rfl rfl ?_
    refine sMv (v := nv _) rfl ?_
    refine sG rfl rfl ?_
    refine sBin (v := .bool false) (a := treeE (Int.ofNat j - 1)) (b := treeE (Int.ofNat j - 1)) rfl rfl (neqF rfl) ?_
    refine sP (v := .bool false) rfl ?_
    refine sMv (v := .bool _) rfl ?_
    refine sG rfl rfl ?_
    refine sMv (v := .slice _ _ _) rfl ?_
    refine sG rfl rfl ?_
    refine sMv (v := .slice _ _ _) rfl ?_
    refine sG rfl rfl ?_
    have h71 := spec_Equal oF.ints oG.ints (by rw [ofs_length]; exact Nat.lt_of_le_of_lt (gv_ben _) (by decide))
    rw [decide_eq_true rfl] at h71
    refine sCall2 rfl call22 rfl rfl h71 ?_
    refine sG rfl rfl ?_
    refine sP (v := .bool false) rfl ?_
    refine sP (v := .bool false) rfl ?_
    refine sMv (v := .bool _) rfl ?_
    refine sG rfl rfl ?_
    refine sMv (v := nv _) rfl ?_
    refine sG rfl rfl ?_
    refine sMv (v := nv _) rfl ?_
    refine sG rfl rfl ?_
    refine sBin (v := .bool false) (a := benE (Int.ofNat j - 1)) (b := benE (Int.ofNat j - 1)) rfl rfl (neqF rfl) ?_
    refine sP (v := .bool false) rfl ?_
    refine sNil (kSeqN ?_)
    refine cCondF rfl ?_
    refine cSkip (kSeqN ?_)
    refine cSeq ?_
    refine cRegion ?_
    refine sFA F24_0 rfl ?_
    refine sLd (v := .slice _ _ _) A22 rfl gA rfl ?_
    obtain ⟨w81, m81, h81, l81⟩ := spec_SpoilRows (M := mA.size) rA (Nat.lt_of_le_of_lt (gv_line _).1 (by decide)) bA.1 bA.2
    refine sCall1 rfl call35 rfl h81 ?_
    have gC' := (l81.2.1 mC.size (.inr (by have := zC; have := EC.1; have := zF; omega))).trans gC
    have rC' := rC.up fun b h1 _ => l81.2.1 b (.inr (by omega))
    have oF' := oF.up fun b h1 _ => l81.2.1 b (.inr (by omega))
    have E' := Low.to_ext E l81.low hm1
    refine sNil (kSeqN ?_)
    refine cSeq ?_
    refine cRegion ?_
    refine sFA F24_0 rfl ?_
    refine sLd (v := .slice _ _ _) A22 rfl gC' rfl ?_
    obtain ⟨w84, m84, h84, l84⟩ := spec_SpoilRows (M := mC.size) rC' (Nat.lt_of_le_of_lt (gv_tree _).1 (by decide)) bC.1 bC.2
    refine sCall1 rfl call35 rfl h84 ?_
    have oF2 := oF'.up fun b h1 _ => l84.2.1 b (.inr (by omega))
    have E2 := Low.to_ext E' l84.low (by omega)
    refine sNil (kSeqN ?_)
    refine cRegion ?_
    refine sMv (v := .slice _ _ _) rfl ?_
    refine sClrW T25 Z3 rfl rfl rfl rfl (oF2.wr (M := m84.size) fun b hb => (oF2.lt hb).2) fun m90 l90 _ => ?_
    refine sNil (kBlkN (kSeqN ?_))
    refine cRegion ?_
    refine sMv (v := .int _ _) rfl ?_
    refine sBinI (v := .int .i64 (Int.ofNat (j + 1) - 1)) (a := Int.ofNat j - 1) (b := 1) rfl rfl (by rw [aInt_addI (by simp; omega)]; congr 2; simp) ?_
    refine sAs (v := .int _ _) rfl ?_
    refine sNil (kSeqN ?_)
    refine ⟨_, ?_, j + 1, rfl, by omega, Low.to_ext E2 l90.low (by omega), rfl, trivial⟩
    omega
  ·
    refine cExit (kSeqE (kSeqE (kBlkS (kSeqN ?_))))
    refine cSeq ?_
    refine cRegion ?_
    refine sMv (v := .bool _) rfl ?_
    refine sG rfl rfl ?_
    obtain ⟨v87, m87, h87, rfl, e87⟩ := spec_awake (hGl.ext E)
    refine sCall0 rfl call13 h87 ?_
    refine sP (v := .bool true) rfl ?_
    refine sAs (v := .bool _) rfl ?_
    refine sNil (kSeqN ?_)
    refine cRet ?_
    exact ⟨.inr rfl, _, rfl, rfl, trivial⟩

end Go.AM

/-! ### M30 -/
namespace Go.AM
set_option linter.unusedVariables false
set_option linter.unusedSimpArgs false
theorem rowE_zero {n : Nat} : ∀ {r : List Nat} {last : Int}, (∀ k ∈ r, k < n ∧ last < Int.ofNat k) → r.Pairwise (· < ·) → rowE n last (ofs r) = 0
  | [], _, _, _ => rfl
  | k :: r, last, h, hp => by
    obtain ⟨h1, h2⟩ := h k (by simp)
    show rowE n last (Int.ofNat k :: ofs r) = 0
    rw [rowE, if_neg (by rintro (h | h); omega; simp at h; omega)]
    rw [List.pairwise_cons] at hp
    exact rowE_zero (fun j hj => ⟨(h j (by simp [hj])).1, by have := hp.1 j hj; simp; omega⟩) hp.2
theorem rowsE_zero : ∀ {N : List (List Nat)} {i : Nat}, (∀ g ∈ N, g.length ≤ 2) → (∀ (j : Nat) (g : List Nat), N[j]? = some g → ∀ k ∈ g, k < i + j) → (∀ g ∈ N, g.Pairwise (· < ·)) → rowsE i (ofs2 N) = 0
  | [], _, _, _, _ => rfl
  | g :: N, i, h1, h2, h3 => by
    show rowsE i (ofs g :: ofs2 N) = 0
    have hr : rowE i (-1) (ofs g) = 0 := rowE_zero (fun k hk => ⟨by have := h2 0 g rfl k hk; omega, by simp; omega⟩) (h3 g (by simp))
    rw [rowsE, if_neg (by rw [ofs_length]; have := h1 g (by simp); omega), if_neg (by rw [hr]; simp)]
    exact rowsE_zero (fun g' hg => h1 g' (by simp [hg])) (fun j g' hj k hk => by have := h2 (j + 1) g' (by simpa using hj) k hk; omega) (fun g' hg => h3 g' (by simp [hg]))
theorem Dag.check {N : List (List Nat)} (h : Dag N) : checkG (ofs2 N) = 0 := by
  have h1 := h.one
  have h2 := h.ten
  rw [checkG, if_neg (by rw [ofs2_length]; omega)]
  exact rowsE_zero h.two (fun j g hj k hk => by have := h.less j g hj k hk; omega) h.rise
theorem endX_app (x : Nat) (l r : List Nat) : endX x (l ++ r) = endX (endX x l) r := by simp [endX]
theorem playL_ofs : ∀ (l : List Nat) (x : Nat), playL x (ofs l) = (List.range l.length).map fun i => endX x (l.take (i + 1))
  | [], _ => rfl
  | y :: l, x => by
    show playL x (Int.ofNat y :: ofs l) = _
    rw [playL, playL_ofs l, List.length_cons, List.range_succ_eq_map, List.map_cons, List.map_map]
    rfl
theorem playedL_ofs (l : List Nat) : playedL (ofs l) = (List.range (l.length + 1)).map fun i => endX 0 (l.take i) := by
  rw [playedL, playL_ofs, List.range_succ_eq_map, List.map_cons, List.map_map]
  rfl
theorem playedL_get {l : List Nat} {i : Nat} (h : i ≤ l.length) : (playedL (ofs l))[i]? = some (endX 0 (l.take i)) := by
  rw [playedL_ofs, List.getElem?_map, List.getElem?_range (by omega)]; rfl
theorem playedL_length (l : List Nat) : (playedL (ofs l)).length = l.length + 1 := by rw [playedL_ofs]; simp
theorem playE_may {P : List Nat} : ∀ {l : List Nat} {x : Nat}, playE P x (ofs l) = 0 → ∀ (i : Nat) (y : Nat), l[i]? = some y → mayM P (endX x (l.take i)) y = true
  | [], _, _, i, y, hi => by simp at hi
  | z :: l, x, h, i, y, hi => by
    have h' : playE P x (Int.ofNat z :: ofs l) = 0 := h
    rw [playE] at h'
    split at h'
    · cases h'
    · split at h'
      · rename_i h2
        cases i with
        | zero => simp at hi; subst hi; exact h2
        | succ i => exact playE_may h' i y (by simpa using hi)
      · cases h'
theorem playE_lt {P : List Nat} : ∀ {l : List Nat} {x : Nat}, playE P x (ofs l) = 0 → ∀ y ∈ l, y < P.length
  | [], _, _, y, hy => by simp at hy
  | z :: l, x, h, y, hy => by
    have h' : playE P x (Int.ofNat z :: ofs l) = 0 := h
    rw [playE] at h'
    split at h'
    · cases h'
    · rename_i h1
      split at h'
      · rcases List.mem_cons.1 hy with rfl | hy
        · simp at h1; omega
        · exact playE_lt h' y hy
      · cases h'
theorem take_succ' {l : List Nat} {i y : Nat} (h : l[i]? = some y) : l.take (i + 1) = l.take i ++ [y] := by
  rw [List.take_add_one, h]; rfl
/-- Backwards: the same positions. -/
theorem endX_back {l : List Nat} : ∀ {j : Nat}, j ≤ l.length → endX 0 (l ++ l.reverse.take j) = endX 0 (l.take (l.length - j))
  | 0, _ => by simp
  | j + 1, h => by
    have hj : l.reverse[j]? = l[l.length - 1 - j]? := List.getElem?_reverse (by omega)
    obtain ⟨y, hy⟩ : ∃ y, l[l.length - 1 - j]? = some y := ⟨_, List.getElem?_eq_getElem (by omega)⟩
    rw [take_succ' (hj.trans hy), ← List.append_assoc, endX_snoc, endX_back (by omega)]
    have e : l.take (l.length - j) = l.take (l.length - (j + 1)) ++ [y] := by
      have := take_succ' hy
      rw [show l.length - 1 - j + 1 = l.length - j by omega] at this
      rw [this, show l.length - 1 - j = l.length - (j + 1) by omega]
    rw [e, endX_snoc, xor_xor]
theorem playE_back {P : List Nat} (hP : LowP P) {l : List Nat} (h : playE P 0 (ofs l) = 0) : ∀ {j : Nat}, j ≤ l.length → playE P 0 (ofs (l ++ l.reverse.take j)) = 0
  | 0, _ => by simpa using h
  | j + 1, hj => by
    have hjr : l.reverse[j]? = l[l.length - 1 - j]? := List.getElem?_reverse (by omega)
    have hy : l[l.length - 1 - j]? = some l[l.length - 1 - j] := List.getElem?_eq_getElem (by omega)
    rw [take_succ' (hjr.trans hy), ← List.append_assoc]
    refine playE_snoc (playE_lt h _ (List.getElem_mem _)) (playE_back hP h (by omega)) ?_
    rw [endX_back (by omega)]
    have e : l.take (l.length - j) = l.take (l.length - 1 - j) ++ [l[l.length - 1 - j]] := by
      have := take_succ' hy
      rwa [show l.length - 1 - j + 1 = l.length - j by omega] at this
    rw [e, endX_snoc, mayM_back hP]
    exact playE_may h _ _ hy
theorem back_full {P : List Nat} (hP : LowP P) {l : List Nat} (h : playE P 0 (ofs l) = 0) : playE P 0 (ofs (l ++ l.reverse)) = 0 := by
  have := playE_back hP h (j := l.length) (Nat.le_refl _)
  rwa [List.take_of_length_le (by simp)] at this
theorem back_low {l : List Nat} {i : Nat} (h : i ≤ l.length) : (playedL (ofs (l ++ l.reverse)))[i]? = some (endX 0 (l.take i)) := by
  rw [playedL_get (by simp; omega), List.take_append_of_le_length h]
theorem back_high {l : List Nat} {i : Nat} (h : i ≤ l.length) : (playedL (ofs (l ++ l.reverse)))[2 * l.length - i]? = some (endX 0 (l.take i)) := by
  rw [playedL_get (by simp; omega), List.take_append, List.take_of_length_le (by omega), show 2 * l.length - i - l.length = l.length - i by omega, endX_back (by omega), show l.length - (l.length - i) = i by omega]
theorem endX_lt {n : Nat} {l : List Nat} (h : ∀ y ∈ l, y < n) : endX 0 l < 2 ^ n := by
  suffices hh : ∀ (l : List Nat) (x : Nat), x < 2 ^ n → (∀ y ∈ l, y < n) → endX x l < 2 ^ n from hh l 0 (Nat.two_pow_pos n) h
  intro l
  induction l with
  | nil => intro x hx _; exact hx
  | cons y l ih => intro x hx h; exact ih _ (Nat.xor_lt_two_pow hx (Nat.pow_lt_pow_right (by omega) (h y (by simp)))) fun z hz => h z (by simp [hz])
theorem gPlay_zero {N : List (List Nat)} (hN : Dag N) {l : List Nat} (h : playE (needsM N) 0 (ofs l) = 0) (hl : l.length ≤ 120) : gPlayE (ofs2 N) (ofs l) = 0 := by
  rw [gPlayE, if_pos hN.check, natsG_ofs2, playedE, if_neg (by rw [ofs_length]; omega)]; exact h
end Go.AM

/-! ### M31 -/
namespace Go.AM
set_option linter.unusedVariables false
set_option linter.unusedSimpArgs false
theorem popc_flip : ∀ (n x : Nat), (x.testBit n = true → popc (x ^^^ 2 ^ n) + 1 = popc x) ∧ (x.testBit n = false → popc (x ^^^ 2 ^ n) = popc x + 1)
  | 0, x => by
    have h1 := popc_half x
    have h2 := popc_half (x ^^^ 2 ^ 0)
    have e1 : (x ^^^ 2 ^ 0) / 2 = x / 2 := by
      apply Nat.eq_of_testBit_eq; intro i
      rw [Nat.testBit_div_two, Nat.testBit_div_two, Nat.testBit_xor, Nat.testBit_two_pow, decide_eq_false (by omega), Bool.xor_false]
    have e2 : (x ^^^ 2 ^ 0) % 2 = if x % 2 = 1 then 0 else 1 := by
      have := Nat.testBit_xor x (2 ^ 0) 0
      rw [Nat.testBit_zero, Nat.testBit_zero] at this
      have h3 := Nat.mod_two_eq_zero_or_one x
      have h4 := Nat.mod_two_eq_zero_or_one (x ^^^ 2 ^ 0)
      rcases h3 with h3 | h3 <;> rcases h4 with h4 | h4 <;> simp_all
    rw [e1, e2] at h2
    rw [Nat.testBit_zero]
    constructor
    · intro h; have := of_decide_eq_true h; rw [if_pos this] at h2; omega
    · intro h; have := of_decide_eq_false h; rw [if_neg this] at h2; omega
  | n + 1, x => by
    have h1 := popc_half x
    have h2 := popc_half (x ^^^ 2 ^ (n + 1))
    have e1 : (x ^^^ 2 ^ (n + 1)) / 2 = (x / 2) ^^^ 2 ^ n := by
      apply Nat.eq_of_testBit_eq; intro i
      rw [Nat.testBit_div_two, Nat.testBit_xor, Nat.testBit_xor, Nat.testBit_div_two, Nat.testBit_two_pow, Nat.testBit_two_pow]
      congr 1
      exact decide_eq_decide.2 (by omega)
    have e2 : (x ^^^ 2 ^ (n + 1)) % 2 = x % 2 := by
      have := Nat.testBit_xor x (2 ^ (n + 1)) 0
      rw [Nat.testBit_zero, Nat.testBit_zero, Nat.testBit_two_pow] at this
      have h3 := Nat.mod_two_eq_zero_or_one x
      have h4 := Nat.mod_two_eq_zero_or_one (x ^^^ 2 ^ (n + 1))
      rcases h3 with h3 | h3 <;> rcases h4 with h4 | h4 <;> simp_all
    have ih := popc_flip n (x / 2)
    rw [e1, e2] at h2
    rw [Nat.testBit_succ]
    constructor
    · intro h; have := ih.1 h; omega
    · intro h; have := ih.2 h; omega
theorem popc_posM {l : List Nat} (h : l.Pairwise (· < ·)) : popc (posM l) = l.length := by
  have key : ∀ i, i ≤ l.length → popc (posM (l.take i)) = i := by
    intro i
    induction i with
    | zero => intro _; rfl
    | succ i ih =>
      intro hi
      obtain ⟨y, hy⟩ : ∃ y, l[i]? = some y := ⟨_, List.getElem?_eq_getElem (by omega)⟩
      have hni : y ∉ l.take i := fun hm => by
        obtain ⟨j, hj, e⟩ := List.getElem_of_mem hm
        rw [List.length_take] at hj
        rw [List.getElem_take] at e
        obtain ⟨hi2, hye⟩ := List.getElem?_eq_some_iff.1 hy
        have := List.pairwise_iff_getElem.1 h j i (by omega) hi2 (by omega)
        omega
      have hb : (posM (l.take i)).testBit y = false := by rw [posM_bit]; exact decide_eq_false hni
      rw [take_succ' hy]
      have e : posM (l.take i ++ [y]) = posM (l.take i) ^^^ 2 ^ y := by
        apply Nat.eq_of_testBit_eq; intro j
        rw [posM_bit, Nat.testBit_xor, Nat.testBit_two_pow, posM_bit]
        by_cases h1 : j = y
        · subst h1; simp [hni]
        · have : ¬ y = j := fun h => h1 h.symm
          simp [h1, this]
      rw [e, (popc_flip y _).2 hb, ih (by omega)]
  have := key l.length (Nat.le_refl _)
  rwa [List.take_length] at this
theorem Bfs.count {P : List Nat} {k g : Nat} {es : List (Nat × Nat)} (h : Bfs P k g es) (hP : LowP P) : ∀ (d y : Nat), lookE es y = some d → (popc y + d) % 2 = popc g % 2 ∧ popc g ≤ popc y + d
  | 0, y, hy => by
    have := h.zero _ (lookE_mem hy) rfl
    simp only at this
    subst this
    exact ⟨rfl, Nat.le_refl _⟩
  | d + 1, y, hy => by
    obtain ⟨n, hn, hw, hl⟩ := h.back hP hy
    have ih := Bfs.count h hP d _ hl
    have hf := popc_flip n y
    cases hb : y.testBit n with
    | true => have := hf.1 hb; omega
    | false => have := hf.2 hb; omega
theorem isShort_pop {P : List Nat} {k g : Nat} (h : isShort P k g = true) : popc g ≤ k := by
  refine Decidable.byContradiction fun hk => ?_
  rw [isShort, farM, if_pos (by omega)] at h
  cases h
theorem short_look {P : List Nat} {k g : Nat} (h : isShort P k g = true) : lookE (farM P k g) 0 = some (shortM P k g).length := by
  unfold isShort at h
  obtain ⟨d, hd⟩ := Option.isSome_iff_exists.1 h
  rw [shortM, pathF_len, hd]; rfl
/-- With more freedom nothing is further away. -/
theorem far_le {P : List Nat} {k k' g : Nat} (hP : P.length ≤ 10) (hg : g < 2 ^ P.length) (hk : popc g ≤ k) (hk' : popc g ≤ k')
    (hw : ∀ x n, x < 2 ^ P.length → n < P.length → wayB P k x n = true → wayB P k' x n = true) : ∀ (d y : Nat), lookE (farM P k g) y = some d → ∃ d', lookE (farM P k' g) y = some d' ∧ d' ≤ d := by
  have hb := farM_bfs hg hk
  intro d
  induction d with
  | zero =>
    intro y hy
    have := hb.zero _ (lookE_mem hy) rfl
    simp only at this
    subst this
    exact ⟨0, farM_root hg hk', Nat.le_refl _⟩
  | succ d ih =>
    intro y hy
    obtain ⟨n, x, hn, hx, hyx, hwx⟩ := hb.par _ (lookE_mem hy) (Nat.succ_pos d)
    simp only at hx hyx
    rw [Nat.add_sub_cancel] at hx
    obtain ⟨d1, h1, h2⟩ := ih x (lookE_of_mem hb.good.once hx)
    obtain ⟨d2, h3, h4⟩ := farM_next hP hg h1 hn (hw x n (hb.good.lt _ hx) hn hwx)
    exact ⟨d2, by rw [hyx]; exact h3, by omega⟩
theorem wayB_mono {P : List Nat} {k k' x n : Nat} (h : k ≤ k') (hw : wayB P k x n = true) : wayB P k' x n = true := by
  unfold wayB at *
  rw [Bool.and_eq_true] at *
  exact ⟨hw.1, decide_eq_true (Nat.le_trans (of_decide_eq_true hw.2) h)⟩
theorem short_mono {P : List Nat} {k k' g : Nat} (hP : P.length ≤ 10) (hg : g < 2 ^ P.length) (hk : k ≤ k') (h : isShort P k g = true) : isShort P k' g = true ∧ (shortM P k' g).length ≤ (shortM P k g).length := by
  have hp := isShort_pop h
  obtain ⟨d', h1, h2⟩ := far_le hP hg hp (Nat.le_trans hp hk) (fun x n _ _ hw => wayB_mono hk hw) _ _ (short_look h)
  have hs : isShort P k' g = true := by rw [isShort, h1]; rfl
  have := short_look hs
  rw [h1] at this
  have := Option.some.inj this
  exact ⟨hs, by omega⟩
theorem short_top {P : List Nat} {g : Nat} (hL : LowP P) (hP : P.length ≤ 10) (hg : g < 2 ^ P.length) : (shortM P 10 g).length = (shortM P P.length g).length := by
  have hs := isShort_all (k := P.length) hL hP hg (Nat.le_refl _)
  obtain ⟨hs10, hle⟩ := short_mono hP hg hP hs
  have hp := isShort_pop hs
  obtain ⟨d', h1, h2⟩ := far_le (k := 10) (k' := P.length) hP hg (by omega) hp (fun x n hx hn hw => by
    unfold wayB at *
    rw [Bool.and_eq_true] at *
    exact ⟨hw.1, decide_eq_true (popc_le_of_lt (Nat.xor_lt_two_pow hx (Nat.pow_lt_pow_right (by omega) hn)))⟩) _ _ (short_look hs10)
  have := short_look hs
  rw [h1] at this
  have := Option.some.inj this
  omega
theorem last_le {l : List (Nat × Nat)} (h : l.Pairwise fun p q => p.1 < q.1 ∧ q.2 < p.2) : ∀ p ∈ l, (l.getLastD (0, 0)).2 ≤ p.2 := by
  intro p hp
  obtain ⟨j, hj, e⟩ := List.getElem_of_mem hp
  have hlast : l.getLastD (0, 0) = l[l.length - 1]'(by omega) := by
    rw [List.getLastD_eq_getLast?, List.getLast?_eq_getElem?, List.getElem?_eq_getElem (by omega)]; rfl
  rw [hlast]
  by_cases h1 : j = l.length - 1
  · subst h1; rw [e]; exact Nat.le_refl _
  · have := List.pairwise_iff_getElem.1 h j (l.length - 1) hj (by omega) (by omega)
    rw [e] at this
    exact Nat.le_of_lt this.2
theorem tradeF_all {P : List Nat} {g : Nat} : ∀ k, (∀ p ∈ tradeF P g k, 1 ≤ p.1 ∧ p.1 ≤ k ∧ isShort P p.1 g = true ∧ p.2 = (shortM P p.1 g).length) ∧ (tradeF P g k).Pairwise fun p q => p.1 < q.1 ∧ q.2 < p.2
  | 0 => ⟨by simp [tradeF], .nil⟩
  | k + 1 => by
    obtain ⟨h1, h2⟩ := tradeF_all k (P := P) (g := g)
    rw [tradeF]
    split
    · rename_i hc
      refine ⟨fun p hp => ?_, List.pairwise_append.2 ⟨h2, List.pairwise_singleton _ _, fun p hp q hq => ?_⟩⟩
      · rcases List.mem_append.1 hp with hp | hp
        · have := h1 p hp; exact ⟨this.1, by omega, this.2.2⟩
        · rw [List.mem_singleton.1 hp]; exact ⟨by simp, Nat.le_refl _, hc.1, rfl⟩
      · rw [List.mem_singleton.1 hq]
        have h3 := h1 p hp
        refine ⟨by simp only; omega, ?_⟩
        rcases hc.2 with h | h
        · have := List.length_pos_of_mem hp; omega
        · have := last_le h2 p hp; simp only; omega
    · exact ⟨fun p hp => by have := h1 p hp; exact ⟨this.1, by omega, this.2.2⟩, h2⟩
theorem getLastD_mem {l : List (Nat × Nat)} (h : l.length ≠ 0) : l.getLastD (0, 0) ∈ l := by
  rw [List.getLastD_eq_getLast?, List.getLast?_eq_getElem?, List.getElem?_eq_getElem (show l.length - 1 < l.length by omega)]
  exact List.getElem_mem _
theorem trade_last {P : List Nat} {g k : Nat} (hP : P.length ≤ 10) (hg : g < 2 ^ P.length) (h : isShort P k g = true) (hk : 1 ≤ k) : ((tradeF P g k).getLastD (0, 0)).2 = (shortM P k g).length := by
  obtain ⟨k, rfl⟩ : ∃ j, k = j + 1 := ⟨k - 1, by omega⟩
  rw [tradeF]
  by_cases hc : isShort P (k + 1) g = true ∧ ((tradeF P g k).length = 0 ∨ (shortM P (k + 1) g).length < ((tradeF P g k).getLastD (0, 0)).2)
  · rw [if_pos hc]; simp
  · rw [if_neg hc]
    have h0 : (tradeF P g k).length ≠ 0 := fun e => hc ⟨h, .inl e⟩
    have h1 : ¬ (shortM P (k + 1) g).length < ((tradeF P g k).getLastD (0, 0)).2 := fun e => hc ⟨h, .inr e⟩
    obtain ⟨_, a2, a3, a4⟩ := (tradeF_all k).1 _ (getLastD_mem h0)
    have := (short_mono hP hg (show _ ≤ k + 1 by omega) a3).2
    omega
theorem short_parity {P : List Nat} {k : Nat} {g : List Nat} (hL : LowP P) (hr : g.Pairwise (· < ·)) (hlt : posM g < 2 ^ P.length) (h : isShort P k (posM g) = true) : g.length ≤ (shortM P k (posM g)).length ∧ ((shortM P k (posM g)).length - g.length) % 2 = 0 := by
  have hb := farM_bfs hlt (isShort_pop h)
  have := hb.count hL _ _ (short_look h)
  have h0 : popc 0 = 0 := rfl
  rw [h0, popc_posM hr] at this
  omega
end Go.AM

/-! ### M32 -/
namespace Go.AM
set_option linter.unusedVariables false
set_option linter.unusedSimpArgs false
theorem endX_bit : ∀ {l : List Nat} {x : Nat} (j : Nat), l.Nodup → (endX x l).testBit j = (x.testBit j ^^ decide (j ∈ l))
  | [], x, j, _ => by simp [endX]
  | y :: l, x, j, h => by
    rw [List.nodup_cons] at h
    show (endX (x ^^^ 2 ^ y) l).testBit j = _
    rw [endX_bit j h.2, Nat.testBit_xor, Nat.testBit_two_pow]
    by_cases e : y = j
    · subst e; simp [h.1]
    · have e' : ¬ j = y := fun h => e h.symm
      simp [e, e']
theorem playE_of {P : List Nat} : ∀ {l : List Nat} {x : Nat}, (∀ (i y : Nat), l[i]? = some y → y < P.length ∧ mayM P (endX x (l.take i)) y = true) → playE P x (ofs l) = 0
  | [], _, _ => rfl
  | y :: l, x, h => by
    obtain ⟨h1, h2⟩ := h 0 y rfl
    show playE P x (Int.ofNat y :: ofs l) = 0
    rw [playE, if_neg (by simp; omega), show (Int.ofNat y).toNat = y from rfl, if_pos (show mayM P x y = true from h2)]
    exact playE_of fun i z hz => h (i + 1) z (by simpa using hz)
theorem neededF_spec {P : List Nat} (hP : LowP P) : ∀ (n x : Nat), (∀ i, x.testBit i = true → (neededF P n x).testBit i = true) ∧ (∀ i, n ≤ i → (neededF P n x).testBit i = x.testBit i) ∧ ∀ i, i < n → (neededF P n x).testBit i = true → ∀ j, (P.getD i 0).testBit j = true → (neededF P n x).testBit j = true
  | 0, x => ⟨fun i h => h, fun i _ => rfl, fun i hi => by omega⟩
  | n + 1, x => by
    have hlow : ∀ i, n ≤ i → (P.getD n 0).testBit i = false := fun i hi => Nat.testBit_lt_two_pow (Nat.lt_of_lt_of_le (getD_lowP hP n) (Nat.pow_le_pow_right (by omega) hi))
    have hx : ∀ i, n ≤ i → (if x.testBit n then x ||| P.getD n 0 else x).testBit i = x.testBit i := fun i hi => by
      split
      · rw [Nat.testBit_or, hlow i hi, Bool.or_false]
      · rfl
    obtain ⟨h1, h2, h3⟩ := neededF_spec hP n (if x.testBit n then x ||| P.getD n 0 else x)
    rw [neededF]
    refine ⟨fun i hi => h1 i ?_, fun i hi => by rw [h2 i (by omega), hx i (by omega)], fun i hi hb j hj => ?_⟩
    · split
      · rw [Nat.testBit_or, hi]; rfl
      · exact hi
    · by_cases e : i = n
      · subst e
        rw [h2 i (Nat.le_refl _), hx i (Nat.le_refl _)] at hb
        refine h1 j ?_
        rw [if_pos hb, Nat.testBit_or, hj, Bool.or_true]
      · exact h3 i (by omega) hb j hj
theorem mayM_of {P : List Nat} {x n : Nat} (h : ∀ j, (P.getD n 0).testBit j = true → x.testBit j = true) : mayM P x n = true := by
  refine decide_eq_true (Nat.eq_of_testBit_eq fun i => ?_)
  rw [Nat.testBit_and]
  cases hb : (P.getD n 0).testBit i with
  | true => rw [h i hb]; rfl
  | false => rw [Bool.and_false]
theorem nodesUp_mem {x n i : Nat} : i ∈ nodesUp x n ↔ i < n ∧ x.testBit i = true := by simp [nodesUp]
theorem nodesUp_rise (x n : Nat) : (nodesUp x n).Pairwise (· < ·) := List.Pairwise.filter _ List.pairwise_lt_range
theorem lt_nodup {l : List Nat} (h : l.Pairwise (· < ·)) : l.Nodup := h.imp fun h => by omega
theorem take_nodup {l : List Nat} (h : l.Nodup) (i : Nat) : (l.take i).Nodup := h.sublist (List.take_sublist i l)
theorem mem_take_lt {l : List Nat} (h : l.Pairwise (· < ·)) {i y j : Nat} (hy : l[i]? = some y) (hj : j ∈ l) (hlt : j < y) : j ∈ l.take i := by
  obtain ⟨k, hk, rfl⟩ := List.getElem_of_mem hj
  obtain ⟨hi, rfl⟩ := List.getElem?_eq_some_iff.1 hy
  have hki : k < i := by
    refine Decidable.byContradiction fun hc => ?_
    by_cases e : k = i
    · subst e; omega
    · have := List.pairwise_iff_getElem.1 h i k hi hk (by omega)
      omega
  exact List.mem_take_iff_getElem.2 ⟨k, by omega, rfl⟩
theorem needs_bit {P : List Nat} (hP : LowP P) {n j : Nat} (h : (P.getD n 0).testBit j = true) : j < n := by
  refine Decidable.byContradiction fun hc => ?_
  rw [Nat.testBit_lt_two_pow (Nat.lt_of_lt_of_le (getD_lowP hP n) (Nat.pow_le_pow_right (by omega) (by omega)))] at h
  cases h
structure PlainOk (P : List Nat) (g : Nat) (l : List Nat) : Prop where
  play : playE P 0 (ofs l) = 0
  ends : endX 0 l = g
  long : l.length ≤ 20
theorem plain_ok {N : List (List Nat)} {g : List Nat} (hN : Dag N) (hg : Goals N.length g) : PlainOk (needsM N) (posM g) (plainM (ofs2 N) (ofs g)) := by
  have hL := hN.lowP
  have h10 := hN.ten
  have hlen : (needsM N).length = N.length := needsM_length N
  obtain ⟨a1, a2, a3⟩ := neededF_spec hL N.length (posM g)
  have hNG : neededG (ofs2 N) (ofs g) = nodesUp (neededF (needsM N) N.length (posM g)) 10 := by rw [neededG, natsG_ofs2, nats_ofs]; rfl
  rw [plainM, hNG, nats_ofs]
  generalize neededF (needsM N) N.length (posM g) = X at *
  have hpo := posM_lt hg.lt
  have hbg : ∀ j, (posM g).testBit j = decide (j ∈ g) := fun j => by rw [posM_bit]
  have hX : ∀ i, X.testBit i = true → i < N.length := fun i hi => by
    refine Decidable.byContradiction fun hc => ?_
    rw [a2 i (by omega), Nat.testBit_lt_two_pow (Nat.lt_of_lt_of_le hpo (Nat.pow_le_pow_right (by omega) (by omega)))] at hi
    cases hi
  have hmem : ∀ i, i ∈ nodesUp X 10 ↔ X.testBit i = true := fun i => by
    rw [nodesUp_mem]; exact ⟨fun h => h.2, fun h => ⟨by have := hX i h; omega, h⟩⟩
  have hrise := nodesUp_rise X 10
  have hlen10 := nodesUp_len X 10
  generalize nodesUp X 10 = L at *
  have hnd := lt_nodup hrise
  have hD : ∀ i, i ∈ (L.filter fun i => !decide (i ∈ g)).reverse ↔ X.testBit i = true ∧ i ∉ g := fun i => by simp [hmem]
  have hDlen : (L.filter fun i => !decide (i ∈ g)).reverse.length ≤ 10 := by
    rw [List.length_reverse]; exact Nat.le_trans (List.length_filter_le _ _) hlen10
  have hDr : (L.filter fun i => !decide (i ∈ g)).reverse.Pairwise (fun a b => b < a) := List.pairwise_reverse.2 (hrise.filter _)
  generalize (L.filter fun i => !decide (i ∈ g)).reverse = D at *
  have hDn : D.Nodup := hDr.imp fun h => by omega
  have hend : endX 0 L = X := Nat.eq_of_testBit_eq fun j => by
    rw [endX_bit j hnd, Nat.zero_testBit, Bool.false_xor]
    cases hb : X.testBit j with
    | true => exact decide_eq_true ((hmem j).2 hb)
    | false => exact decide_eq_false fun h => by rw [(hmem j).1 h] at hb; cases hb
  refine ⟨playE_of fun i y hy => ?_, ?_, by rw [List.length_append]; omega⟩
  · by_cases hi : i < L.length
    · rw [List.getElem?_append_left hi] at hy
      have hyX := (hmem y).1 (List.mem_of_getElem? hy)
      have hyn := hX y hyX
      refine ⟨by omega, mayM_of fun j hj => ?_⟩
      rw [List.take_append_of_le_length (by omega), endX_bit j (take_nodup hnd i), Nat.zero_testBit, Bool.false_xor]
      exact decide_eq_true (mem_take_lt hrise hy ((hmem j).2 (a3 y hyn hyX j hj)) (needs_bit hL hj))
    · rw [List.getElem?_append_right (by omega)] at hy
      obtain ⟨hyX, _⟩ := (hD y).1 (List.mem_of_getElem? hy)
      have hyn := hX y hyX
      refine ⟨by omega, mayM_of fun j hj => ?_⟩
      rw [List.take_append, List.take_of_length_le (by omega), endX_app, hend, endX_bit j (take_nodup hDn _), a3 y hyn hyX j hj, decide_eq_false]
      · rfl
      · intro hm
        have hlt := needs_bit hL hj
        obtain ⟨k, hk, e⟩ := List.getElem_of_mem hm
        rw [List.length_take] at hk
        rw [List.getElem_take] at e
        obtain ⟨hi2, e2⟩ := List.getElem?_eq_some_iff.1 hy
        have := List.pairwise_iff_getElem.1 hDr k (i - L.length) (by omega) hi2 (by omega)
        omega
  · rw [endX_app, hend]
    refine Nat.eq_of_testBit_eq fun j => ?_
    rw [endX_bit j hDn, hbg]
    by_cases hj : j ∈ g
    · have := a1 j (by rw [hbg]; exact decide_eq_true hj)
      rw [this, decide_eq_true hj, decide_eq_false fun h => ((hD j).1 h).2 hj]; rfl
    · rw [decide_eq_false hj]
      cases hb : X.testBit j with
      | true => rw [decide_eq_true ((hD j).2 ⟨hb, hj⟩)]; rfl
      | false => rw [decide_eq_false fun h => by have := ((hD j).1 h).1; rw [hb] at this; cases this]; rfl
/-- The way back along the distances. -/
theorem pathF_ok {P : List Nat} {k g : Nat} {es : List (Nat × Nat)} (h : Bfs P k g es) (hP : LowP P) : ∀ (d y : Nat), lookE es y = some d →
    playE P y (ofs (pathF P k es d y)) = 0 ∧ endX y (pathF P k es d y) = g ∧ ∀ i, i ≤ d → lookE es (endX y ((pathF P k es d y).take i)) = some (d - i)
  | 0, y, hy => ⟨rfl, h.zero _ (lookE_mem hy) rfl, fun i hi => by obtain rfl : i = 0 := (by omega); exact hy⟩
  | d + 1, y, hy => by
    obtain ⟨h1, h2, _⟩ := nextN_spec h hP hy
    unfold hitB at h2
    rw [Bool.and_eq_true] at h2
    have hl := of_decide_eq_true h2.2
    have hw := h2.1
    unfold wayB at hw
    rw [Bool.and_eq_true] at hw
    obtain ⟨i1, i2, i3⟩ := pathF_ok h hP d _ hl
    rw [pathF]
    generalize nextN P k es d y = n at *
    refine ⟨?_, i2, fun i hi => ?_⟩
    · show playE P y (Int.ofNat n :: ofs _) = 0
      rw [playE, if_neg (by simp; omega), show (Int.ofNat n).toNat = n from rfl, if_pos hw.1]
      exact i1
    · cases i with
      | zero => exact hy
      | succ i =>
        have := i3 i (by omega)
        rw [show d + 1 - (i + 1) = d - i by omega]; exact this
structure ShortOk (P : List Nat) (k g : Nat) (l : List Nat) : Prop where
  play : playE P 0 (ofs l) = 0
  ends : endX 0 l = g
  look : ∀ i, i ≤ l.length → lookE (farM P k g) (endX 0 (l.take i)) = some (l.length - i)
theorem short_ok {P : List Nat} {k g : Nat} (hL : LowP P) (hg : g < 2 ^ P.length) (h : isShort P k g = true) : ShortOk P k g (shortM P k g) := by
  have hb := farM_bfs hg (isShort_pop h)
  have hl := short_look h
  obtain ⟨h1, h2, h3⟩ := pathF_ok hb hL _ _ hl
  have e : shortM P k g = pathF P k (farM P k g) (shortM P k g).length 0 := by
    conv => lhs; unfold shortM
    rw [hl]; rfl
  rw [← e] at h1 h2 h3
  exact ⟨h1, h2, h3⟩
theorem mostM_le2 {n : Nat} {l : List Nat} : mostM l ≤ n ↔ ∀ x ∈ l, popc x ≤ n := by
  suffices h : ∀ (l : List Nat) (a : Nat), l.foldl (fun a x => max a (popc x)) a ≤ n ↔ a ≤ n ∧ ∀ x ∈ l, popc x ≤ n by
    have := h l 0
    unfold mostM
    rw [this]; simp
  intro l
  induction l with
  | nil => intro a; simp
  | cons y l ih =>
    intro a
    rw [List.foldl_cons, ih]
    simp only [List.mem_cons, forall_eq_or_imp, Nat.max_le]
    exact ⟨fun h => ⟨h.1.1, h.1.2, h.2⟩, fun h => ⟨⟨h.1, h.2.1⟩, h.2.2⟩⟩
theorem most_play {l : List Nat} {n : Nat} : mostM (playedL (ofs l)) ≤ n ↔ ∀ i, i ≤ l.length → popc (endX 0 (l.take i)) ≤ n := by
  rw [mostM_le2, playedL_ofs]
  simp only [List.mem_map, List.mem_range, forall_exists_index, and_imp]
  exact ⟨fun h i hi => h _ i (by omega) rfl, fun h x i hi e => e ▸ h i (by omega)⟩
theorem ShortOk.most {P : List Nat} {k g : Nat} {l : List Nat} (h : ShortOk P k g l) (hg : g < 2 ^ P.length) (hs : isShort P k g = true) : mostM (playedL (ofs l)) ≤ k :=
  most_play.2 fun i hi => (farM_bfs hg (isShort_pop hs)).pop _ (lookE_mem (h.look i hi))
theorem playE_lt' {P : List Nat} {l : List Nat} (h : playE P 0 (ofs l) = 0) {i y : Nat} (hi : l[i]? = some y) : y < P.length := playE_lt h y (List.mem_of_getElem? hi)
/-- No game of so many pebbles is shorter. -/
theorem short_min {P : List Nat} {k g : Nat} {l : List Nat} (hL : LowP P) (hP : P.length ≤ 10) (hg : g < 2 ^ P.length) (hs : isShort P k g = true) (h1 : playE P 0 (ofs l) = 0) (h2 : endX 0 l = g) (h3 : mostM (playedL (ofs l)) ≤ k) : (shortM P k g).length ≤ l.length := by
  have hpop := most_play.1 h3
  have hk := isShort_pop hs
  have key : ∀ j, j ≤ l.length → ∃ d, lookE (farM P k g) (endX 0 (l.take (l.length - j))) = some d ∧ d ≤ j := by
    intro j
    induction j with
    | zero => intro _; rw [Nat.sub_zero, List.take_length, h2]; exact ⟨0, farM_root hg hk, Nat.le_refl _⟩
    | succ j ih =>
      intro hj
      obtain ⟨d, hd1, hd2⟩ := ih (by omega)
      obtain ⟨y, hy⟩ : ∃ y, l[l.length - (j + 1)]? = some y := ⟨_, List.getElem?_eq_getElem (by omega)⟩
      have e : l.take (l.length - j) = l.take (l.length - (j + 1)) ++ [y] := by
        have := take_succ' hy
        rwa [show l.length - (j + 1) + 1 = l.length - j by omega] at this
      rw [e, endX_snoc] at hd1
      have hm := playE_may h1 _ _ hy
      obtain ⟨d', h4, h5⟩ := farM_next hP hg hd1 (n := y) (playE_lt' h1 hy) (by
        unfold wayB
        rw [mayM_back hL, hm, xor_xor, decide_eq_true (hpop _ (by omega))]; rfl)
      rw [xor_xor] at h4
      exact ⟨d', h4, by omega⟩
  obtain ⟨d, h4, h5⟩ := key l.length (Nat.le_refl _)
  rw [Nat.sub_self] at h4
  have := short_look hs
  rw [show endX 0 (l.take 0) = 0 from rfl, this] at h4
  have := Option.some.inj h4
  omega
end Go.AM

/-! ### M33 -/
namespace Go.AM
set_option linter.unusedVariables false
set_option linter.unusedSimpArgs false
/-- Two positions that one move joins are nearly as far. -/
theorem nb {P : List Nat} {k g : Nat} (hL : LowP P) (hP : P.length ≤ 10) (hg : g < 2 ^ P.length) {x d n : Nat} (h : lookE (farM P k g) x = some d) (hn : n < P.length) (hm : mayM P x n = true) (h1 : popc x ≤ k) (h2 : popc (x ^^^ 2 ^ n) ≤ k) :
    ∃ d', lookE (farM P k g) (x ^^^ 2 ^ n) = some d' ∧ d' ≤ d + 1 ∧ d ≤ d' + 1 := by
  obtain ⟨d', h3, h4⟩ := farM_next hP hg h hn (by unfold wayB; rw [hm, decide_eq_true h2]; rfl)
  obtain ⟨d2, h5, h6⟩ := farM_next hP hg h3 hn (by unfold wayB; rw [mayM_back hL, hm, xor_xor, decide_eq_true h1]; rfl)
  rw [xor_xor, h] at h5
  have := Option.some.inj h5
  exact ⟨d', h3, h4, by omega⟩
def nb1 (x : Nat) : Nat := if x.testBit 0 then x else x ^^^ 2 ^ 0
def nb2 (x : Nat) : Nat := if (nb1 x).testBit 1 then nb1 x else nb1 x ^^^ 2 ^ 1
def nb3 (x : Nat) : Nat := if (nb2 x).testBit 2 then nb2 x ^^^ 2 ^ 2 else nb2 x
theorem nb_all : ∀ x, x < 128 → (x / 8 ≠ 15 → popc x ≤ 6 ∧ popc (nb1 x) ≤ 6 ∧ popc (nb2 x) ≤ 6 ∧ popc (nb3 x) ≤ 6) ∧ (nb1 x).testBit 0 = true ∧ (nb2 x).testBit 0 = true ∧ (nb2 x).testBit 1 = true ∧ nb3 x = x / 8 * 8 + 3 := by decide
theorem near3 {P : List Nat} {k g : Nat} (hL : LowP P) (h7 : P.length = 7) (hg : g < 2 ^ P.length) (hk : 6 ≤ k) {x d : Nat} (h : lookE (farM P k g) x = some d) (hx : x < 128) (hu : x / 8 ≠ 15) :
    ∃ d', lookE (farM P k g) (x / 8 * 8 + 3) = some d' ∧ d' ≤ d + 3 ∧ d ≤ d' + 3 := by
  obtain ⟨a, b1, b2, b3, b4⟩ := nb_all x hx
  obtain ⟨a0, a1, a2, a3⟩ := a hu
  rw [← b4]
  have hP : P.length ≤ 10 := by omega
  obtain ⟨d1, h1, h2, h3⟩ : ∃ d', lookE (farM P k g) (nb1 x) = some d' ∧ d' ≤ d + 1 ∧ d ≤ d' + 1 := by
    unfold nb1 at *
    split
    · exact ⟨d, h, by omega, by omega⟩
    · rename_i hc
      rw [if_neg hc] at a1
      exact nb hL hP hg h (by omega) (mayM_full hL fun i hi => by omega) (by omega) (by omega)
  obtain ⟨d2, h4, h5, h6⟩ : ∃ d', lookE (farM P k g) (nb2 x) = some d' ∧ d' ≤ d1 + 1 ∧ d1 ≤ d' + 1 := by
    unfold nb2 at *
    split
    · exact ⟨d1, h1, by omega, by omega⟩
    · rename_i hc
      rw [if_neg hc] at a2
      exact nb hL hP hg h1 (by omega) (mayM_full hL fun i hi => by obtain rfl : i = 0 := (by omega); exact b1) (by omega) (by omega)
  obtain ⟨d3, h7, h8, h9⟩ : ∃ d', lookE (farM P k g) (nb3 x) = some d' ∧ d' ≤ d2 + 1 ∧ d2 ≤ d' + 1 := by
    unfold nb3 at *
    split
    · rename_i hc
      rw [if_pos hc] at a3
      refine nb hL hP hg h4 (by omega) (mayM_full hL fun i hi => ?_) (by omega) (by omega)
      match i, hi with
      | 0, _ => exact b2
      | 1, _ => exact b3
    · exact ⟨d2, h4, by omega, by omega⟩
  exact ⟨d3, h7, by omega, by omega⟩
theorem nodup_le {l : List Nat} {n : Nat} (h : l.Nodup) (hl : ∀ x ∈ l, x < n) : l.length ≤ n := by
  have := h.length_le_of_subset (l₂ := List.range n) fun x hx => List.mem_range.2 (hl x hx)
  rwa [List.length_range] at this
theorem map_nodup {n : Nat} {f : Nat → Nat} (h : ∀ i j, i < n → j < n → f i = f j → i = j) : ((List.range n).map f).Nodup := by
  unfold List.Nodup
  rw [List.pairwise_map]
  exact List.pairwise_lt_range.imp_of_mem fun {i j} hi hj hij e => by
    have := h i j (List.mem_range.1 hi) (List.mem_range.1 hj) e
    omega
/-- Seven nodes, six pebbles or more. -/
theorem far_113 {P : List Nat} {k g : Nat} (hL : LowP P) (h7 : P.length = 7) (hg : g < 2 ^ P.length) (hk : 6 ≤ k) (hs : isShort P k g = true) : (shortM P k g).length ≤ 112 := by
  have ho := short_ok hL hg hs
  have hb := farM_bfs hg (isShort_pop hs)
  generalize shortM P k g = l at *
  have hlk : ∀ t, t ≤ l.length → lookE (farM P k g) (endX 0 (l.take (l.length - t))) = some t := fun t ht => by
    have := ho.look (l.length - t) (by omega)
    rwa [show l.length - (l.length - t) = t by omega] at this
  have hlt : ∀ {y d}, lookE (farM P k g) y = some d → y < 128 := fun {y d} h => by
    have := hb.good.lt _ (lookE_mem h)
    rw [h7] at this
    exact this
  let y : Nat → Nat := fun t => endX 0 (l.take (l.length - t))
  let c : Nat → Nat := fun t => if y t / 8 = 15 then y t - 15 else y t / 8 * 7 + (t + 3 - (lookE (farM P k g) (y t / 8 * 8 + 3)).getD 0)
  have hy : ∀ t, t ≤ l.length → lookE (farM P k g) (y t) = some t ∧ y t < 128 := fun t ht => ⟨hlk t ht, hlt (hlk t ht)⟩
  have hn : ∀ t, t ≤ l.length → y t / 8 ≠ 15 → (lookE (farM P k g) (y t / 8 * 8 + 3)).getD 0 ≤ t + 3 ∧ t ≤ (lookE (farM P k g) (y t / 8 * 8 + 3)).getD 0 + 3 := fun t ht hu => by
    obtain ⟨d', h1, h2, h3⟩ := near3 hL h7 hg hk (hy t ht).1 (hy t ht).2 hu
    rw [h1]; exact ⟨h2, h3⟩
  have hc1 : ∀ t, t ≤ l.length → c t < 113 := fun t ht => by
    have h1 := (hy t ht).2
    show (if y t / 8 = 15 then y t - 15 else y t / 8 * 7 + (t + 3 - (lookE (farM P k g) (y t / 8 * 8 + 3)).getD 0)) < 113
    split
    · omega
    · rename_i hu
      have := hn t ht hu
      omega
  have hc2 : ∀ t s, t < l.length + 1 → s < l.length + 1 → c t = c s → t = s := fun t s ht hs e => by
    have h1 := hy t (by omega)
    have h2 := hy s (by omega)
    have h3 := hn t (by omega)
    have h4 := hn s (by omega)
    change (if y t / 8 = 15 then y t - 15 else y t / 8 * 7 + (t + 3 - (lookE (farM P k g) (y t / 8 * 8 + 3)).getD 0)) = (if y s / 8 = 15 then y s - 15 else y s / 8 * 7 + (s + 3 - (lookE (farM P k g) (y s / 8 * 8 + 3)).getD 0)) at e
    by_cases ut : y t / 8 = 15
    · rw [if_pos ut] at e
      by_cases us : y s / 8 = 15
      · rw [if_pos us] at e
        have e2 : y t = y s := by omega
        rw [e2, h2.1] at h1
        exact (Option.some.inj h1.1).symm
      · rw [if_neg us] at e
        have := h4 us
        omega
    · rw [if_neg ut] at e
      have a1 := h3 ut
      by_cases us : y s / 8 = 15
      · rw [if_pos us] at e
        omega
      · rw [if_neg us] at e
        have a2 := h4 us
        have eu : y t / 8 = y s / 8 := by omega
        rw [eu] at e a1
        omega
  have := nodup_le (map_nodup (n := l.length + 1) hc2) fun x hx => by
    obtain ⟨t, ht, rfl⟩ := List.mem_map.1 hx
    exact hc1 t (by have := List.mem_range.1 ht; omega)
  rw [List.length_map, List.length_range] at this
  omega
set_option maxRecDepth 100000 in
theorem pop5 : ((List.range 128).filter fun x => decide (popc x ≤ 5)).length = 120 := by decide
/-- Seven nodes or fewer. -/
theorem short_120 {P : List Nat} {k g : Nat} (hL : LowP P) (h7 : P.length ≤ 7) (hg : g < 2 ^ P.length) (hs : isShort P k g = true) : (shortM P k g).length ≤ 119 := by
  by_cases h : P.length = 7 ∧ 6 ≤ k
  · have := far_113 hL h.1 hg h.2 hs; omega
  have hb := farM_bfs hg (isShort_pop hs)
  have hl := short_look hs
  obtain ⟨j, hj, e⟩ := List.getElem_of_mem (lookE_mem hl)
  have h2 := hb.good.low j _ (List.getElem?_eq_getElem hj)
  rw [e] at h2
  have h3 : (shortM P k g).length ≤ j := h2
  suffices (farM P k g).length ≤ 120 by omega
  by_cases h6 : P.length ≤ 6
  · have := hb.good.length
    have := Nat.pow_le_pow_right (n := 2) (by omega) h6
    omega
  · have e7 : P.length = 7 := by omega
    have h1 : ((farM P k g).map (·.1)).length ≤ ((List.range 128).filter fun x => decide (popc x ≤ 5)).length := by
      refine hb.good.once.length_le_of_subset fun x hx => ?_
      obtain ⟨p, hp, rfl⟩ := List.mem_map.1 hx
      have a1 := hb.good.lt p hp
      have a2 := hb.pop p hp
      rw [e7] at a1
      exact List.mem_filter.2 ⟨List.mem_range.2 a1, decide_eq_true (by omega)⟩
    rw [pop5, List.length_map] at h1
    exact h1
structure LeastOk (P : List Nat) (g n : Nat) : Prop where
  one : 1 ≤ n
  yes : isShort P n g = true
  no : ∀ j, 1 ≤ j → j < n → isShort P j g = false
theorem least_ex {P : List Nat} {g : Nat} (hP : P.length ≤ 10) (hg : g < 2 ^ P.length) : ∀ k, 1 ≤ k → isShort P k g = true → ∃ n, n ≤ k ∧ LeastOk P g n
  | 0, h, _ => by omega
  | k + 1, _, h => by
    by_cases hc : 1 ≤ k ∧ isShort P k g = true
    · obtain ⟨n, h1, h2⟩ := least_ex hP hg k hc.1 hc.2
      exact ⟨n, by omega, h2⟩
    · refine ⟨k + 1, Nat.le_refl _, by omega, h, fun j h1 h2 => ?_⟩
      rw [Bool.eq_false_iff]
      intro h3
      exact hc ⟨by omega, (short_mono hP hg (by omega) h3).1⟩
theorem LeastOk.head {P : List Nat} {g n : Nat} (h : LeastOk P g n) : ∀ k, n ≤ k → ((tradeF P g k).headD (0, 0)).1 = n ∧ tradeF P g k ≠ [] := by
  have he : ∀ j, j < n → tradeF P g j = [] := by
    intro j
    induction j with
    | zero => exact fun _ => rfl
    | succ j ih =>
      intro hj
      rw [tradeF, if_neg (fun h' => by rw [h.no (j + 1) (by omega) hj] at h'; cases h'.1)]
      exact ih (by omega)
  intro k
  have h1 := h.one
  induction k with
  | zero => intro h; omega
  | succ k ih =>
    intro hk
    rw [tradeF]
    by_cases e : n = k + 1
    · subst e
      rw [if_pos ⟨h.yes, .inl (by rw [he k (by omega)]; rfl)⟩, he k (by omega)]
      exact ⟨rfl, by simp⟩
    · obtain ⟨h2, h3⟩ := ih (by omega)
      split
      · refine ⟨?_, by simp⟩
        match ht : tradeF P g k, h3, h2 with
        | x :: r, _, h2 => exact h2
      · exact ⟨h2, h3⟩
/-- What is reached from nothing, nothing is reached from. -/
theorem far_sym {P : List Nat} {k g d : Nat} (hL : LowP P) (hP : P.length ≤ 10) (hg : g < 2 ^ P.length) (h : lookE (farM P k 0) g = some d) : isShort P k g = true := by
  have h0 : popc 0 ≤ k := Nat.zero_le _
  have hb := farM_bfs (P := P) (g := 0) (Nat.two_pow_pos _) h0
  have hpg := hb.pop _ (lookE_mem h)
  have key : ∀ d y, lookE (farM P k 0) y = some d → (∃ e, lookE (farM P k g) y = some e) → ∃ e, lookE (farM P k g) 0 = some e := by
    intro d
    induction d with
    | zero =>
      intro y hy h
      have := hb.zero _ (lookE_mem hy) rfl
      simp only at this
      subst this
      exact h
    | succ d ih =>
      intro y hy h
      obtain ⟨n, hn, hw, hl⟩ := hb.back hL hy
      obtain ⟨e, he⟩ := h
      obtain ⟨e', he', _⟩ := farM_next hP hg he hn hw
      exact ih _ hl ⟨e', he'⟩
  obtain ⟨e, he⟩ := key d g h ⟨0, farM_root hg hpg⟩
  rw [isShort, he]; rfl
theorem closedUp_mem {es : List (Nat × Nat)} {n x : Nat} : x ∈ closedUp es n ↔ x < n ∧ (lookE es x).isSome = true := by simp [closedUp]
theorem closed_shows {P : List Nat} {k g : Nat} (hL : LowP P) (hP : P.length ≤ 10) (hg : g < 2 ^ P.length) (hs : isShort P k g = false) : showsB P g k (closedUp (farM P k 0) (2 ^ P.length)) = true := by
  have hp0 := Nat.two_pow_pos P.length
  have hr : (closedUp (farM P k 0) (2 ^ P.length)).Pairwise (· < ·) := List.Pairwise.filter _ List.pairwise_lt_range
  have h2 : 0 ∈ closedUp (farM P k 0) (2 ^ P.length) := closedUp_mem.2 ⟨hp0, by rw [farM_root hp0 (Nat.zero_le _)]; rfl⟩
  have h3 : ¬ g ∈ closedUp (farM P k 0) (2 ^ P.length) := fun h => by
    obtain ⟨d, hd⟩ := Option.isSome_iff_exists.1 (closedUp_mem.1 h).2
    rw [far_sym hL hP hg hd] at hs; cases hs
  have h4 : ∀ x ∈ closedUp (farM P k 0) (2 ^ P.length), ∀ i, i < P.length → wayB P k x i = true → x ^^^ 2 ^ i ∈ closedUp (farM P k 0) (2 ^ P.length) := fun x hx i hi hw => by
    obtain ⟨hx1, hx2⟩ := closedUp_mem.1 hx
    obtain ⟨d, hd⟩ := Option.isSome_iff_exists.1 hx2
    obtain ⟨d', h5, _⟩ := farM_next hP hp0 hd hi hw
    exact closedUp_mem.2 ⟨Nat.xor_lt_two_pow hx1 (Nat.pow_lt_pow_right (by omega) hi), by rw [h5]; rfl⟩
  generalize closedUp (farM P k 0) (2 ^ P.length) = ps at *
  have hget : ∀ i, i < ps.length → ps.getD i 0 = ps[i]?.getD 0 := fun i _ => List.getD_eq_getElem?_getD ..
  have h1 : ∀ i, i + 1 < ps.length → ps.getD i 0 < ps.getD (i + 1) 0 := fun i hi => by
    have := List.pairwise_iff_getElem.1 hr i (i + 1) (by omega) hi (by omega)
    rw [hget _ (by omega), hget _ hi, List.getElem?_eq_getElem (by omega), List.getElem?_eq_getElem hi]
    exact this
  unfold showsB
  have a1 : risingB ps = true := List.all_eq_true.2 fun i hi => decide_eq_true (by have := h1 i (by have := List.mem_range.1 hi; omega); omega)
  have a2 : apartB ps = true := List.all_eq_true.2 fun i hi => decide_eq_true (by have := h1 i (by have := List.mem_range.1 hi; omega); omega)
  have a3 : closedB P k ps = true := by
    refine List.all_eq_true.2 fun x hx => List.all_eq_true.2 fun y hy => decide_eq_true ?_
    obtain ⟨i, hi, rfl⟩ := List.mem_map.1 hy
    obtain ⟨hi1, hi2⟩ := List.mem_filter.1 hi
    exact h4 x hx i (List.mem_range.1 hi1) hi2
  rw [a1, a2, a3, decide_eq_true h2, decide_eq_false h3]; rfl
end Go.AM

/-! ### S10 -/
namespace Go.AM
open Go.Proofs
set_option maxRecDepth 100000
set_option linter.unusedVariables false
set_option linter.unusedSimpArgs false

theorem getD_el {l : List Nat} {i : Nat} (h : i < l.length) : l.getD i 0 = l[i] := by rw [List.getD_eq_getElem?_getD, List.getElem?_eq_getElem h]; rfl
theorem goals_len {n : Nat} {g : List Nat} (h : Goals n g) : g.length ≤ n := by
  have h1 := popc_posM h.rise
  have h2 := popc_le_of_lt (posM_lt h.lt)
  omega
theorem with_zero {G : List (List Nat)} {g : List Nat} (hD : Dag G) (hg : Goals G.length g) : withE (ofs2 G) (ofs g) = 0 := by
  have h0 := hg.pos
  rw [withE, if_pos hD.check, ofs2_length, goalsE, if_neg (by rw [ofs_length]; omega), if_neg, if_neg]
  · intro h
    obtain ⟨j, hj1, hj2⟩ := List.any_eq_true.1 h
    have hj := List.mem_range.1 hj1
    rw [ofs_length] at hj
    have h1 := of_decide_eq_true hj2
    have e : ∀ i, i < g.length → (ofs g).getD i 0 = Int.ofNat (g.getD i 0) := fun i hi => by simp [ofs, List.getD_eq_getElem?_getD, hi]
    rw [e _ (by omega), e _ (by omega)] at h1
    have h2 := List.pairwise_iff_getElem.1 hg.rise j (j + 1) (by omega) (by omega) (by omega)
    rw [getD_el (by omega), getD_el (by omega)] at h1
    have h3 := Int.ofNat_le.1 h1
    omega
  · intro h
    obtain ⟨u, hu, h2⟩ := List.any_eq_true.1 h
    obtain ⟨y, hy, rfl⟩ := List.mem_map.1 hu
    have h3 := of_decide_eq_true h2
    have := hg.lt y hy
    simp at h3; omega
theorem conv5_3 {a : Nat} (h : a < 256) : aConv Tryd.prog 5 3 (.int .u8 (Int.ofNat a)) = some (nv a) := by
  have h1 : undOf Tryd.prog 5 = some (.int .u8) := by kernel_rfl
  have h2 : undOf Tryd.prog 3 = some (.int .i64) := by kernel_rfl
  simp only [aConv, h1, h2]
  rw [wrapN (by omega)]
theorem reach_ok {G : List (List Nat)} {g l : List Nat} (hD : Dag G) (hw : withE (ofs2 G) (ofs g) = 0) (h1 : playE (needsM G) 0 (ofs l) = 0) (h2 : endX 0 l = posM g) (h3 : l.length ≤ 120) : reachesE (ofs2 G) (ofs g) (ofs l) = 0 ∧ reachesB (ofs2 G) (ofs g) (ofs l) = true ∧ gPlayE (ofs2 G) (ofs l) = 0 := by
  have h0 : reachesE (ofs2 G) (ofs g) (ofs l) = 0 := by
    rw [reachesE, if_pos hw, natsG_ofs2, playedE, if_neg (by rw [ofs_length]; omega)]; exact h1
  refine ⟨h0, ?_, gPlay_zero hD h1 h3⟩
  rw [reachesB, nats_ofs]
  refine decide_eq_true ⟨h0, ?_⟩
  rw [List.getLastD_eq_getLast?, List.getLast?_eq_getElem?, playedL_length, Nat.add_sub_cancel, playedL_get (Nat.le_refl _), List.take_length, h2]; rfl
theorem shows_ok {G : List (List Nat)} {g ps : List Nat} {k : Nat} (hw : withE (ofs2 G) (ofs g) = 0) (hk : k ≤ 10) (h : showsB (needsM G) (posM g) k ps = true) (hp : ∀ x ∈ ps, x < 2 ^ G.length) : showsG (ofs2 G) (ofs g) (Int.ofNat k) (ofs ps) = true ∧ showsE (ofs2 G) (ofs g) (Int.ofNat k) (ofs ps) = 0 := by
  have h0 : showsE (ofs2 G) (ofs g) (Int.ofNat k) (ofs ps) = 0 := by
    rw [showsE, if_pos hw, if_neg]
    rintro (h | h)
    · simp at h; omega
    · obtain ⟨u, hu, h2⟩ := List.any_eq_true.1 h
      obtain ⟨y, hy, rfl⟩ := List.mem_map.1 hu
      have h3 := of_decide_eq_true h2
      rw [ofs2_length] at h3
      have := hp y hy
      simp at h3; omega
  refine ⟨?_, h0⟩
  rw [showsG, decide_eq_true h0, natsG_ofs2, nats_ofs, nats_ofs, show (Int.ofNat k).toNat = k from rfl, h]; rfl

theorem okf11 : okF Tryd.prog H0 11 182 = true := by kernel_rfl
theorem spec_ReachedLaw {m : Mem} {a : Value} {l1 : List Int} {c : Nat} (hGl : GlobP m) (ha : BytesAt m a l1) (hc : c < 256) : ∃ v m', ACalls Tryd.prog 11 #[a, .int .u8 (Int.ofNat c)] m v m' ∧ (v = .bool true ∧ True) := by
  have hGl_0 := hGl
  obtain ⟨qa, ca, rfl⟩ := ha.len
  have E : Ext m m := .refl _
  refine wpF (args := [_, _]) mixed okf11 (fn := Tryd.f11) rfl rfl rfl (by simp) ?_
  refine cSeq ?_
  refine cRegion ?_
  refine sAs (v := .bool _) rfl ?_
  refine sNil (kSeqN ?_)
  refine cSeq ?_
  refine cRegion ?_
  refine sMv (v := .slice _ _ _) rfl ?_
  obtain ⟨v17, m17, h_, b1, rfl, hb1, hS1, e_⟩ := spec_Of ha
  refine sCall1 rfl call53 rfl h_ ?_
  clear h_
  have x_ : Ext m m17 := e_
  replace E := E.trans x_
  replace hGl := hGl.ext x_
  clear x_
  clear e_
  refine sAs (v := .pointer _) rfl ?_
  refine sNil (kSeqN ?_)
  refine cSeq ?_
  refine cRegion ?_
  refine sMv (v := .pointer _) rfl ?_
  obtain ⟨v19, m19, h19, wD, csD, G, rfl, oD, hD, hG8, hS19, hX19⟩ := spec_Grown (most := 7) hS1 (by omega) hb1 (by omega) (by omega)
  obtain ⟨qD, cD, rfl⟩ := oD.1.len
  refine sCall2 rfl call52 rfl rfl h19 ?_
  have hlt1 := hS1.lt
  have e_ : Ext m m19 := E.lowx' hX19 E.1 hb1
  replace E := e_
  clear e_
  replace hGl := hGl_0.ext E
  have hlD : (ofs2 G).length = G.length := ofs2_length G
  have hpl : (needsM G).length = G.length := needsM_length G
  have rD := oD.rows
  refine sAlloc Z24 (by kernel_rfl) ?_
  refine sStNA S24 rfl rfl rfl rfl (by kernel_rfl) ?_
  have x_ : Ext m19 (m19.push (.cells true #[.slice qD (ofs2 G).length cD])) := .push _ _
  have oD2 := oD.ext x_
  have hS2 := hS19.ext hb1 x_
  replace E := E.trans x_
  have gD : Mem.get (m19.push (.cells true #[.slice qD (ofs2 G).length cD])) m19.size = .cells true #[.slice qD (ofs2 G).length cD] := gP rfl
  clear x_
  refine sNil (kSeqN ?_)
  refine cSeq ?_
  refine cRegion ?_
  refine sMv (v := .pointer _) rfl ?_
  refine sLdAll A24 S24 rfl gD rfl ?_
  have hz19 := hX19.1
  have hSt : Steady (m19.push (.cells true #[.slice qD (ofs2 G).length cD])) b1 (.slice qD (ofs2 G).length cD) (ofs2 G) := fun m' hx => (oD2.lowx hx (by omega)).rows
  obtain ⟨v22, m22, h22, g, o22, hg, hgm, hS22, hX22⟩ := spec_aims hS2 (by omega) hb1 hSt hD
  obtain ⟨qg, cg, rfl⟩ := o22.ints.lenN
  refine sCall2 rfl call58 rfl rfl h22 ?_
  have e_ : Ext m m22 := E.lowx' hX22 E.1 hb1
  replace E := e_
  clear e_
  have gD22 : Mem.get m22 m19.size = .cells true #[.slice qD (ofs2 G).length cD] := (hX22.2 _ (by simp) (by omega)).trans gD
  replace gD := gD22
  clear gD22
  replace hGl := hGl_0.ext E
  have rD := (oD2.lowx hX22 (by omega)).rows
  have ia := o22.ints
  have hwith : withE (ofs2 G) (ofs g) = 0 := with_zero hD hg
  have hgl : (ofs g).length < 1000000 := by rw [ofs_length]; have := goals_len hg; have := hD.ten; omega
  have hlow := hD.lowP
  have h10 := hD.ten
  have h1 := hD.one
  have hpo := posM_lt hg.lt
  rw [← hpl] at hpo
  have hP10 : (needsM G).length ≤ 10 := by omega
  refine sAs (v := .slice _ _ _) rfl ?_
  refine sNil (kSeqN ?_)
  refine cSeq ?_
  refine cRegion ?_
  refine sLdAll A24 S24 rfl gD rfl ?_
  refine sMv (v := .slice _ _ _) rfl ?_
  obtain ⟨v33, m33, h_, w33, rfl, o33, e_⟩ := spec_Plain rD ia hgl
  rw [hwith, ifOk_0 rfl] at o33
  rw [hwith] at h_
  have hPl := plain_ok hD hg
  generalize plainM (ofs2 G) (ofs g) = L1 at o33 hPl
  have i33 := o33.ints
  obtain ⟨q33, c33, rfl⟩ := i33.lenN
  have hL1 := hPl.long
  obtain ⟨re1, rb1, gp1⟩ := reach_ok hD hwith hPl.play hPl.ends (by omega)
  refine sCall2 rfl call38 rfl rfl h_ ?_
  clear h_
  have x_ : Ext m22 m33 := e_
  replace E := E.trans x_
  replace gD := x_.cells gD
  replace rD := rD.ext x_
  replace ia := ia.ext x_
  replace hGl := hGl.ext x_
  clear x_
  clear e_
  refine sMv (v := .tuple _) rfl ?_
  refine sP (v := .slice _ _ _) rfl ?_   -- extract ['t30', '0']
  refine sP (v := nv _) rfl ?_   -- extract ['t30', '1']
  refine sAs (v := .slice _ _ _) rfl ?_
  refine sAs (v := nv _) rfl ?_
  refine sNil (kSeqN ?_)
  refine cSeq ?_
  refine cRegion ?_
  refine sLdAll A24 S24 rfl gD rfl ?_
  refine sMv (v := .slice _ _ _) rfl ?_
  refine sMv (v := .slice _ _ _) rfl ?_
  obtain ⟨v40, m40, h_, rfl, e_⟩ := spec_Reaches rD ia hgl i33
  rw [re1, rb1] at h_
  refine sCall3 rfl call46 rfl rfl rfl h_ ?_
  clear h_
  have x_ : Ext m33 m40 := e_
  replace E := E.trans x_
  replace gD := x_.cells gD
  replace rD := rD.ext x_
  replace ia := ia.ext x_
  replace hGl := hGl.ext x_
  replace i33 := i33.ext x_
  clear x_
  clear e_
  refine sMv (v := .tuple _) rfl ?_
  refine sP (v := .bool _) rfl ?_   -- extract ['t36', '0']
  refine sP (v := nv _) rfl ?_   -- extract ['t36', '1']
  refine sAs (v := .bool _) rfl ?_
  refine sAs (v := nv _) rfl ?_
  refine sNil (kSeqN ?_)
  refine cSeq ?_
  refine cRegion ?_
  refine sLdAll A24 S24 rfl gD rfl ?_
  refine sMv (v := .slice _ _ _) rfl ?_
  obtain ⟨v46, m46, h_, rfl, e_⟩ := spec_Least rD ia hgl trade_ne
  rw [hwith, ifOk_0 rfl] at h_
  obtain ⟨n, hnN, hLe⟩ := least_ex hP10 hpo G.length h1 (isShort_all hlow hP10 hpo (by omega))
  have hlg : leastG (ofs2 G) (ofs g) = n := by rw [leastG, tradeG, natsG_ofs2, nats_ofs, ofs2_length]; exact (hLe.head G.length hnN).1
  rw [hlg] at h_
  have hn1 := hLe.one
  have hgn : g.length ≤ n := by
    have := isShort_pop hLe.yes
    rwa [popc_posM hg.rise] at this
  refine sCall2 rfl call16 rfl rfl h_ ?_
  clear h_
  have x_ : Ext m40 m46 := e_
  replace E := E.trans x_
  replace gD := x_.cells gD
  replace rD := rD.ext x_
  replace ia := ia.ext x_
  replace hGl := hGl.ext x_
  replace i33 := i33.ext x_
  clear x_
  clear e_
  refine sMv (v := .tuple _) rfl ?_
  refine sP (v := nv _) rfl ?_   -- extract ['t43', '0']
  refine sP (v := nv _) rfl ?_   -- extract ['t43', '1']
  refine sAs (v := nv _) rfl ?_
  refine sAs (v := nv _) rfl ?_
  refine sNil (kSeqN ?_)
  refine cSeq ?_   -- seq 7
  refine cSeq ?_
  refine cRegion ?_
  refine sMv (v := nv _) rfl ?_
  refine sBin (v := .bool false) (a := 0) (b := 0) rfl rfl (neqF rfl) ?_
  refine sMv (v := .bool _) rfl ?_
  refine sG rfl rfl ?_
  refine sMv (v := nv _) rfl ?_
  refine sG rfl rfl ?_
  refine sBin (v := .bool false) (a := 0) (b := 0) rfl rfl (neqF rfl) ?_
  refine sP (v := .bool false) rfl ?_
  refine sMv (v := .bool _) rfl ?_
  refine sG rfl rfl ?_
  refine sMv (v := .bool _) rfl ?_
  refine sG rfl rfl ?_
  refine sP (v := .bool false) rfl ?_
  refine sP (v := .bool false) rfl ?_
  refine sMv (v := .bool _) rfl ?_
  refine sG rfl rfl ?_
  refine sMv (v := nv _) rfl ?_
  refine sG rfl rfl ?_
  refine sBin (v := .bool false) (a := 0) (b := 0) rfl rfl (neqF rfl) ?_
  refine sP (v := .bool false) rfl ?_
  refine sMv (v := .bool _) rfl ?_
  refine sG rfl rfl ?_
  refine sMv (v := nv _) rfl ?_
  refine sG rfl rfl ?_
  refine sMv (v := .slice _ _ _) rfl ?_
  refine sG rfl rfl ?_
  refine sLen T25 rfl ?_
  refine sG rfl rfl ?_
  refine sBin (v := .bool false) (a := n) (b := g.length) rfl rfl (by rw [aInt_lss, decide_eq_false (by omega)]) ?_
  refine sP (v := .bool false) rfl ?_
  refine sMv (v := .bool _) rfl ?_
  refine sG rfl rfl ?_
  refine sMv (v := nv _) rfl ?_
  refine sG rfl rfl ?_
  refine sFA F24_0 rfl ?_
  refine sG rfl rfl ?_
  refine sLd (v := .slice qD (ofs2 G).length cD) A22 rfl gD rfl ?_
  refine sG rfl rfl ?_
  refine sLen T22 rfl ?_
  refine sG rfl rfl ?_
  refine sBin (v := .bool false) (a := n) (b := (ofs2 G).length) rfl rfl (by rw [aInt_gtr, decide_eq_false (by omega)]) ?_
  refine sP (v := .bool false) rfl ?_
  refine sNil (kSeqN ?_)
  refine cCondF rfl ?_
  refine cSkip (kSeqN ?_)
  refine cSeq ?_
  refine cRegion ?_
  refine sMv (v := nv _) rfl ?_
  refine sMv (v := .int .u8 (Int.ofNat c)) rfl ?_
  refine sP (v := nv c) (conv5_3 hc) ?_
  refine sBin (v := nv (c % 4)) (a := c) (b := 4) rfl rfl (aInt_rem (by omega)) ?_
  refine sBin (v := nv (n + c % 4)) (a := n) (b := c % 4) rfl rfl (aInt_add (by omega)) ?_
  refine sP (v := nv (min (n + c % 4) 10)) minNN ?_
  have hKn : n ≤ min (n + c % 4) 10 := by omega
  have hK10 : min (n + c % 4) 10 ≤ 10 := by omega
  generalize min (n + c % 4) 10 = K at *
  have hsK := (short_mono hP10 hpo hKn hLe.yes).1
  have hshE : shortestE (ofs2 G) (ofs g) (Int.ofNat K) = 0 := by
    rw [shortestE, if_pos hwith, natsG_ofs2, nats_ofs, if_neg (by simp; omega), show (Int.ofNat K).toNat = K from rfl, hsK]; rfl
  have hshL : shortestG (ofs2 G) (ofs g) (Int.ofNat K) = shortM (needsM G) K (posM g) := by rw [shortestG, natsG_ofs2, nats_ofs]; rfl
  refine sAs (v := nv _) rfl ?_
  refine sNil (kSeqN ?_)
  refine cSeq ?_
  refine cRegion ?_
  refine sLdAll A24 S24 rfl gD rfl ?_
  refine sMv (v := .slice _ _ _) rfl ?_
  refine sMv (v := nv _) rfl ?_
  obtain ⟨v86, m86, h_, w86, rfl, o86, e_⟩ := spec_Shortest (k := Int.ofNat K) rD ia hgl
  rw [hshE, ifOk_0 rfl, hshL] at o86
  rw [hshE] at h_
  have hSh := short_ok hlow hpo hsK
  have hL2 := short_120 hlow (by omega) hpo hsK
  have hmin := short_min hlow hP10 hpo hsK hPl.play hPl.ends
  generalize shortM (needsM G) K (posM g) = L2 at o86 hSh hL2 hmin
  have i86 := o86.ints
  obtain ⟨q86, c86, rfl⟩ := i86.lenN
  obtain ⟨re2, rb2, gp2⟩ := reach_ok hD hwith hSh.play hSh.ends (by omega)
  have hms := hSh.most hpo hsK
  refine sCall3 rfl call18 rfl rfl rfl h_ ?_
  clear h_
  have x_ : Ext m46 m86 := e_
  replace E := E.trans x_
  replace gD := x_.cells gD
  replace rD := rD.ext x_
  replace ia := ia.ext x_
  replace hGl := hGl.ext x_
  replace i33 := i33.ext x_
  clear x_
  clear e_
  refine sMv (v := .tuple _) rfl ?_
  refine sP (v := .slice _ _ _) rfl ?_   -- extract ['t82', '0']
  refine sP (v := nv _) rfl ?_   -- extract ['t82', '1']
  refine sAs (v := .slice _ _ _) rfl ?_
  refine sAs (v := nv _) rfl ?_
  refine sNil (kSeqN ?_)
  refine cSeq ?_
  refine cRegion ?_
  refine sLdAll A24 S24 rfl gD rfl ?_
  refine sMv (v := .slice _ _ _) rfl ?_
  refine sMv (v := .slice _ _ _) rfl ?_
  obtain ⟨v93, m93, h_, rfl, e_⟩ := spec_Reaches rD ia hgl i86
  rw [re2, rb2] at h_
  refine sCall3 rfl call46 rfl rfl rfl h_ ?_
  clear h_
  have x_ : Ext m86 m93 := e_
  replace E := E.trans x_
  replace gD := x_.cells gD
  replace rD := rD.ext x_
  replace ia := ia.ext x_
  replace hGl := hGl.ext x_
  replace i33 := i33.ext x_
  replace i86 := i86.ext x_
  clear x_
  clear e_
  refine sMv (v := .tuple _) rfl ?_
  refine sP (v := .bool _) rfl ?_   -- extract ['t89', '0']
  refine sP (v := nv _) rfl ?_   -- extract ['t89', '1']
  refine sAs (v := .bool _) rfl ?_
  refine sAs (v := nv _) rfl ?_
  refine sNil (kSeqN ?_)
  refine cSeq ?_
  refine cRegion ?_
  refine sLdAll A24 S24 rfl gD rfl ?_
  refine sMv (v := .slice _ _ _) rfl ?_
  obtain ⟨v99, m99, h_, rfl, e_⟩ := spec_Most rD i86
  rw [gp2, ifOk_0 rfl] at h_
  refine sCall2 rfl call44 rfl rfl h_ ?_
  clear h_
  have x_ : Ext m93 m99 := e_
  replace E := E.trans x_
  replace gD := x_.cells gD
  replace rD := rD.ext x_
  replace ia := ia.ext x_
  replace hGl := hGl.ext x_
  replace i33 := i33.ext x_
  replace i86 := i86.ext x_
  clear x_
  clear e_
  refine sMv (v := .tuple _) rfl ?_
  refine sP (v := nv _) rfl ?_   -- extract ['t96', '0']
  refine sP (v := nv _) rfl ?_   -- extract ['t96', '1']
  refine sAs (v := nv _) rfl ?_
  refine sAs (v := nv _) rfl ?_
  refine sNil (kSeqN ?_)
  refine cSeq ?_
  refine cRegion ?_
  refine sLdAll A24 S24 rfl gD rfl ?_
  refine sMv (v := .slice _ _ _) rfl ?_
  obtain ⟨v105, m105, h_, rfl, e_⟩ := spec_Most rD i33
  rw [gp1, ifOk_0 rfl] at h_
  refine sCall2 rfl call44 rfl rfl h_ ?_
  clear h_
  have x_ : Ext m99 m105 := e_
  replace E := E.trans x_
  replace gD := x_.cells gD
  replace rD := rD.ext x_
  replace ia := ia.ext x_
  replace hGl := hGl.ext x_
  replace i33 := i33.ext x_
  replace i86 := i86.ext x_
  clear x_
  clear e_
  refine sMv (v := .tuple _) rfl ?_
  refine sP (v := nv _) rfl ?_   -- extract ['t102', '0']
  refine sP (v := nv _) rfl ?_   -- extract ['t102', '1']
  refine sAs (v := nv _) rfl ?_
  refine sAs (v := nv _) rfl ?_
  refine sNil (kSeqN ?_)
  refine cSeq ?_   -- seq 14
  refine cSeq ?_
  refine cRegion ?_
  refine sMv (v := nv _) rfl ?_
  refine sBin (v := .bool false) (a := 0) (b := 0) rfl rfl (neqF rfl) ?_
  refine sMv (v := .bool _) rfl ?_
  refine sG rfl rfl ?_
  refine sMv (v := nv _) rfl ?_
  refine sG rfl rfl ?_
  refine sBin (v := .bool false) (a := 0) (b := 0) rfl rfl (neqF rfl) ?_
  refine sP (v := .bool false) rfl ?_
  refine sMv (v := .bool _) rfl ?_
  refine sG rfl rfl ?_
  refine sMv (v := .bool _) rfl ?_
  refine sG rfl rfl ?_
  refine sP (v := .bool false) rfl ?_
  refine sP (v := .bool false) rfl ?_
  refine sMv (v := .bool _) rfl ?_
  refine sG rfl rfl ?_
  refine sMv (v := nv _) rfl ?_
  refine sG rfl rfl ?_
  refine sBin (v := .bool false) (a := 0) (b := 0) rfl rfl (neqF rfl) ?_
  refine sP (v := .bool false) rfl ?_
  refine sMv (v := .bool _) rfl ?_
  refine sG rfl rfl ?_
  refine sMv (v := nv _) rfl ?_
  refine sG rfl rfl ?_
  refine sMv (v := nv _) rfl ?_
  refine sG rfl rfl ?_
  refine sBin (v := .bool false) (a := mostM (playedL (ofs L2))) (b := K) rfl rfl (by rw [aInt_gtr, decide_eq_false (by omega)]) ?_
  refine sP (v := .bool false) rfl ?_
  refine sMv (v := .bool _) rfl ?_
  refine sG rfl rfl ?_
  refine sMv (v := nv _) rfl ?_
  refine sG rfl rfl ?_
  refine sBin (v := .bool false) (a := 0) (b := 0) rfl rfl (neqF rfl) ?_
  refine sP (v := .bool false) rfl ?_
  refine sMv (v := .bool _) rfl ?_
  refine sG rfl rfl ?_
  refine sMv (v := nv _) rfl ?_
  refine sG rfl rfl ?_
  refine sMv (v := nv _) rfl ?_
  refine sG rfl rfl ?_
  refine sBin (v := .bool (decide (mostM (playedL (ofs L1)) ≤ K))) (a := mostM (playedL (ofs L1))) (b := K) rfl rfl aInt_leq ?_
  refine sG rfl rfl ?_
  refine sMv (v := .bool _) rfl ?_
  by_cases h5 : mostM (playedL (ofs L1)) ≤ K
  ·
    rw [decide_eq_true h5]
    have hmin2 := hmin h5
    refine sG rfl rfl ?_
    refine sMv (v := .slice _ _ _) rfl ?_
    refine sG rfl rfl ?_
    refine sLen T25 rfl ?_
    refine sG rfl rfl ?_
    refine sMv (v := .slice _ _ _) rfl ?_
    refine sG rfl rfl ?_
    refine sLen T25 rfl ?_
    refine sG rfl rfl ?_
    refine sBin (v := .bool false) (a := L2.length) (b := L1.length) rfl rfl (by rw [aInt_gtr, decide_eq_false (by omega)]) ?_
    refine sG rfl rfl ?_
    refine sP (v := .bool false) rfl ?_
    refine sP (v := .bool false) rfl ?_
    refine sNil (kSeqN ?_)
    refine cCondF rfl ?_
    refine cSkip (kSeqN ?_)
    refine cSeq ?_
    refine cRegion ?_
    refine sLdAll A24 S24 rfl gD rfl ?_
    refine sMv (v := nv _) rfl ?_
    refine sBin (v := nv (n - 1)) rfl rfl (aInt_sub (a := n) (b := 1) (by omega)) ?_
    have hno : isShort (needsM G) (n - 1) (posM g) = false := by
      by_cases e : n = 1
      · rw [Bool.eq_false_iff]
        intro h
        have := isShort_pop h
        rw [popc_posM hg.rise] at this
        have := hg.pos
        omega
      · exact hLe.no _ (by omega) (by omega)
    have hclE : closedE (ofs2 G) (Int.ofNat (n - 1)) = 0 := by rw [closedE, if_pos hD.check, if_neg (by simp; omega)]
    have hclG : closedG (ofs2 G) (Int.ofNat (n - 1)) = closedUp (farM (needsM G) (n - 1) 0) (2 ^ (needsM G).length) := by rw [closedG, natsG_ofs2, ofs2_length, hpl]; rfl
    have hclS := closed_shows hlow hP10 hpo hno
    have hclL : (closedUp (farM (needsM G) (n - 1) 0) (2 ^ (needsM G).length)).length < 1000000 := by
      have := closedUp_len (farM (needsM G) (n - 1) 0) (2 ^ (needsM G).length)
      have := Nat.pow_le_pow_right (n := 2) (by omega) hP10
      omega
    have hclM : ∀ x ∈ closedUp (farM (needsM G) (n - 1) 0) (2 ^ (needsM G).length), x < 2 ^ G.length := fun x hx => by
      have := (closedUp_mem.1 hx).1
      rwa [hpl] at this
    obtain ⟨v147, m147, h_, w147, rfl, o147, e_⟩ := spec_Closed (k := Int.ofNat (n - 1)) rD
    rw [hclE, ifOk_0 rfl, hclG] at o147
    rw [hclE] at h_
    generalize closedUp (farM (needsM G) (n - 1) 0) (2 ^ (needsM G).length) = ps at o147 hclS hclL hclM
    have i147 := o147.ints
    obtain ⟨q147, c147, rfl⟩ := i147.lenN
    obtain ⟨hsh1, hsh2⟩ := shows_ok (ps := ps) hwith (show n - 1 ≤ 10 by omega) hclS hclM
    refine sCall2 rfl call25 rfl rfl h_ ?_
    clear h_
    have x_ : Ext m105 m147 := e_
    replace E := E.trans x_
    replace gD := x_.cells gD
    replace rD := rD.ext x_
    replace ia := ia.ext x_
    replace hGl := hGl.ext x_
    replace i33 := i33.ext x_
    replace i86 := i86.ext x_
    clear x_
    clear e_
    refine sMv (v := .tuple _) rfl ?_
    refine sP (v := .slice _ _ _) rfl ?_   -- extract ['t143', '0']
    refine sP (v := nv _) rfl ?_   -- extract ['t143', '1']
    refine sAs (v := .slice _ _ _) rfl ?_
    refine sAs (v := nv _) rfl ?_
    refine sNil (kSeqN ?_)
    refine cSeq ?_
    refine cRegion ?_
    refine sLdAll A24 S24 rfl gD rfl ?_
    refine sMv (v := .slice _ _ _) rfl ?_
    refine sMv (v := nv _) rfl ?_
    refine sBin (v := nv (n - 1)) rfl rfl (aInt_sub (a := n) (b := 1) (by omega)) ?_
    refine sMv (v := .slice _ _ _) rfl ?_
    obtain ⟨v156, m156, h_, rfl, e_⟩ := spec_Shows (k := Int.ofNat (n - 1)) hGl rD ia hgl i147 (by rw [ofs_length]; exact hclL)
    rw [hsh1, hsh2] at h_
    refine sCall4 rfl call27 rfl rfl rfl rfl h_ ?_
    clear h_
    have x_ : Ext m147 m156 := e_
    replace E := E.trans x_
    replace gD := x_.cells gD
    replace rD := rD.ext x_
    replace ia := ia.ext x_
    replace hGl := hGl.ext x_
    replace i33 := i33.ext x_
    replace i86 := i86.ext x_
    replace i147 := i147.ext x_
    clear x_
    clear e_
    refine sMv (v := .tuple _) rfl ?_
    refine sP (v := .bool _) rfl ?_   -- extract ['t150', '0']
    refine sP (v := nv _) rfl ?_   -- extract ['t150', '1']
    refine sAs (v := .bool _) rfl ?_
    refine sAs (v := nv _) rfl ?_
    refine sNil (kSeqN ?_)
    refine cSeq ?_   -- seq 18
    refine cSeq ?_
    refine cRegion ?_
    refine sMv (v := nv _) rfl ?_
    refine sBin (v := .bool false) (a := 0) (b := 0) rfl rfl (neqF rfl) ?_
    refine sMv (v := .bool _) rfl ?_
    refine sG rfl rfl ?_
    refine sMv (v := nv _) rfl ?_
    refine sG rfl rfl ?_
    refine sBin (v := .bool false) (a := 0) (b := 0) rfl rfl (neqF rfl) ?_
    refine sP (v := .bool false) rfl ?_
    refine sMv (v := .bool _) rfl ?_
    refine sG rfl rfl ?_
    refine sMv (v := .bool _) rfl ?_
    refine sG rfl rfl ?_
    refine sP (v := .bool false) rfl ?_
    refine sP (v := .bool false) rfl ?_
    refine sNil (kSeqN ?_)
    refine cCondF rfl ?_
    refine cSkip (kSeqN ?_)
    refine cSeq ?_   -- seq 20
    refine cSeq ?_
    refine cRegion ?_
    refine sMv (v := nv _) rfl ?_
    refine sBin rfl rfl (aInt_gtr (b := 1)) ?_
    refine sNil (kSeqN ?_)
    refine cCond rfl (fun c3 => ?_) (fun c3 => ?_)
    ·
      refine cSeq ?_
      refine cRegion ?_
      refine sLdAll A24 S24 rfl gD rfl ?_
      refine sMv (v := .slice _ _ _) rfl ?_
      refine sMv (v := nv _) rfl ?_
      refine sBin (v := nv (n - 1)) rfl rfl (aInt_sub (a := n) (b := 1) (by omega)) ?_
      obtain ⟨v176, m176, h_, w176, rfl, o176, e_⟩ := spec_Shortest (k := Int.ofNat (n - 1)) rD ia hgl
      have hshE6 : shortestE (ofs2 G) (ofs g) (Int.ofNat (n - 1)) = 6 := by
        rw [shortestE, if_pos hwith, natsG_ofs2, nats_ofs, if_neg (by simp; omega), show (Int.ofNat (n - 1)).toNat = n - 1 from rfl, hno]; rfl
      rw [hshE6] at h_
      obtain ⟨q176, c176, rfl⟩ := o176.ints.lenN
      refine sCall3 rfl call18 rfl rfl rfl h_ ?_
      clear h_
      have x_ : Ext m156 m176 := e_
      replace E := E.trans x_
      replace gD := x_.cells gD
      replace rD := rD.ext x_
      replace ia := ia.ext x_
      replace hGl := hGl.ext x_
      replace i33 := i33.ext x_
      replace i86 := i86.ext x_
      replace i147 := i147.ext x_
      clear x_
      clear e_
      refine sMv (v := .tuple _) rfl ?_
      refine sP (v := .slice _ _ _) rfl ?_   -- extract ['t171', '0']
      refine sP (v := nv _) rfl ?_   -- extract ['t171', '1']
      refine sAs (v := .slice _ _ _) rfl ?_
      refine sAs (v := nv _) rfl ?_
      refine sNil (kSeqN ?_)
      refine cSeq ?_
      refine cRegion ?_
      refine sMv (v := nv _) rfl ?_
      refine sBin (v := .bool false) (a := 6) (b := 6) rfl rfl (neqF rfl) ?_
      refine sNil (kSeqN ?_)
      refine cCondF rfl ?_
      refine cSkip (kSeqN ?_)
      refine cSeq ?_
      refine cRegion ?_
      obtain ⟨v181, m181, h181, rfl, e181⟩ := spec_awake hGl
      refine sCall0 rfl call13 h181 ?_
      refine sAs (v := .bool _) rfl ?_
      refine sNil (kSeqN ?_)
      refine cRet ?_
      exact ⟨.inr rfl, _, rfl, rfl, trivial⟩
    ·
      refine cSkip (kSeqN ?_)
      refine cSeq ?_
      refine cRegion ?_
      obtain ⟨v181, m181, h181, rfl, e181⟩ := spec_awake hGl
      refine sCall0 rfl call13 h181 ?_
      refine sAs (v := .bool _) rfl ?_
      refine sNil (kSeqN ?_)
      refine cRet ?_
      exact ⟨.inr rfl, _, rfl, rfl, trivial⟩
  ·
    rw [decide_eq_false h5]
    refine sGno (q' := false) rfl rfl (by simp) ?_
    refine sGno (q' := false) rfl rfl (by simp) ?_
    refine sGno (q' := false) rfl rfl (by simp) ?_
    refine sGno (q' := false) rfl rfl (by simp) ?_
    refine sGno (q' := false) rfl rfl (by simp) ?_
    refine sG rfl rfl ?_
    refine sP (v := .bool false) rfl ?_
    refine sP (v := .bool false) rfl ?_
    refine sNil (kSeqN ?_)
    refine cCondF rfl ?_
    refine cSkip (kSeqN ?_)
    refine cSeq ?_
    refine cRegion ?_
    refine sLdAll A24 S24 rfl gD rfl ?_
    refine sMv (v := nv _) rfl ?_
    refine sBin (v := nv (n - 1)) rfl rfl (aInt_sub (a := n) (b := 1) (by omega)) ?_
    have hno : isShort (needsM G) (n - 1) (posM g) = false := by
      by_cases e : n = 1
      · rw [Bool.eq_false_iff]
        intro h
        have := isShort_pop h
        rw [popc_posM hg.rise] at this
        have := hg.pos
        omega
      · exact hLe.no _ (by omega) (by omega)
    have hclE : closedE (ofs2 G) (Int.ofNat (n - 1)) = 0 := by rw [closedE, if_pos hD.check, if_neg (by simp; omega)]
    have hclG : closedG (ofs2 G) (Int.ofNat (n - 1)) = closedUp (farM (needsM G) (n - 1) 0) (2 ^ (needsM G).length) := by rw [closedG, natsG_ofs2, ofs2_length, hpl]; rfl
    have hclS := closed_shows hlow hP10 hpo hno
    have hclL : (closedUp (farM (needsM G) (n - 1) 0) (2 ^ (needsM G).length)).length < 1000000 := by
      have := closedUp_len (farM (needsM G) (n - 1) 0) (2 ^ (needsM G).length)
      have := Nat.pow_le_pow_right (n := 2) (by omega) hP10
      omega
    have hclM : ∀ x ∈ closedUp (farM (needsM G) (n - 1) 0) (2 ^ (needsM G).length), x < 2 ^ G.length := fun x hx => by
      have := (closedUp_mem.1 hx).1
      rwa [hpl] at this
    obtain ⟨v147, m147, h_, w147, rfl, o147, e_⟩ := spec_Closed (k := Int.ofNat (n - 1)) rD
    rw [hclE, ifOk_0 rfl, hclG] at o147
    rw [hclE] at h_
    generalize closedUp (farM (needsM G) (n - 1) 0) (2 ^ (needsM G).length) = ps at o147 hclS hclL hclM
    have i147 := o147.ints
    obtain ⟨q147, c147, rfl⟩ := i147.lenN
    obtain ⟨hsh1, hsh2⟩ := shows_ok (ps := ps) hwith (show n - 1 ≤ 10 by omega) hclS hclM
    refine sCall2 rfl call25 rfl rfl h_ ?_
    clear h_
    have x_ : Ext m105 m147 := e_
    replace E := E.trans x_
    replace gD := x_.cells gD
    replace rD := rD.ext x_
    replace ia := ia.ext x_
    replace hGl := hGl.ext x_
    replace i33 := i33.ext x_
    replace i86 := i86.ext x_
    clear x_
    clear e_
    refine sMv (v := .tuple _) rfl ?_
    refine sP (v := .slice _ _ _) rfl ?_   -- extract ['t143', '0']
    refine sP (v := nv _) rfl ?_   -- extract ['t143', '1']
    refine sAs (v := .slice _ _ _) rfl ?_
    refine sAs (v := nv _) rfl ?_
    refine sNil (kSeqN ?_)
    refine cSeq ?_
    refine cRegion ?_
    refine sLdAll A24 S24 rfl gD rfl ?_
    refine sMv (v := .slice _ _ _) rfl ?_
    refine sMv (v := nv _) rfl ?_
    refine sBin (v := nv (n - 1)) rfl rfl (aInt_sub (a := n) (b := 1) (by omega)) ?_
    refine sMv (v := .slice _ _ _) rfl ?_
    obtain ⟨v156, m156, h_, rfl, e_⟩ := spec_Shows (k := Int.ofNat (n - 1)) hGl rD ia hgl i147 (by rw [ofs_length]; exact hclL)
    rw [hsh1, hsh2] at h_
    refine sCall4 rfl call27 rfl rfl rfl rfl h_ ?_
    clear h_
    have x_ : Ext m147 m156 := e_
    replace E := E.trans x_
    replace gD := x_.cells gD
    replace rD := rD.ext x_
    replace ia := ia.ext x_
    replace hGl := hGl.ext x_
    replace i33 := i33.ext x_
    replace i86 := i86.ext x_
    replace i147 := i147.ext x_
    clear x_
    clear e_
    refine sMv (v := .tuple _) rfl ?_
    refine sP (v := .bool _) rfl ?_   -- extract ['t150', '0']
    refine sP (v := nv _) rfl ?_   -- extract ['t150', '1']
    refine sAs (v := .bool _) rfl ?_
    refine sAs (v := nv _) rfl ?_
    refine sNil (kSeqN ?_)
    refine cSeq ?_   -- seq 28
    refine cSeq ?_
    refine cRegion ?_
    refine sMv (v := nv _) rfl ?_
    refine sBin (v := .bool false) (a := 0) (b := 0) rfl rfl (neqF rfl) ?_
    refine sMv (v := .bool _) rfl ?_
    refine sG rfl rfl ?_
    refine sMv (v := nv _) rfl ?_
    refine sG rfl rfl ?_
    refine sBin (v := .bool false) (a := 0) (b := 0) rfl rfl (neqF rfl) ?_
    refine sP (v := .bool false) rfl ?_
    refine sMv (v := .bool _) rfl ?_
    refine sG rfl rfl ?_
    refine sMv (v := .bool _) rfl ?_
    refine sG rfl rfl ?_
    refine sP (v := .bool false) rfl ?_
    refine sP (v := .bool false) rfl ?_
    refine sNil (kSeqN ?_)
    refine cCondF rfl ?_
    refine cSkip (kSeqN ?_)
    refine cSeq ?_   -- seq 30
    refine cSeq ?_
    refine cRegion ?_
    refine sMv (v := nv _) rfl ?_
    refine sBin rfl rfl (aInt_gtr (b := 1)) ?_
    refine sNil (kSeqN ?_)
    refine cCond rfl (fun c7 => ?_) (fun c7 => ?_)
    ·
      refine cSeq ?_
      refine cRegion ?_
      refine sLdAll A24 S24 rfl gD rfl ?_
      refine sMv (v := .slice _ _ _) rfl ?_
      refine sMv (v := nv _) rfl ?_
      refine sBin (v := nv (n - 1)) rfl rfl (aInt_sub (a := n) (b := 1) (by omega)) ?_
      obtain ⟨v176, m176, h_, w176, rfl, o176, e_⟩ := spec_Shortest (k := Int.ofNat (n - 1)) rD ia hgl
      have hshE6 : shortestE (ofs2 G) (ofs g) (Int.ofNat (n - 1)) = 6 := by
        rw [shortestE, if_pos hwith, natsG_ofs2, nats_ofs, if_neg (by simp; omega), show (Int.ofNat (n - 1)).toNat = n - 1 from rfl, hno]; rfl
      rw [hshE6] at h_
      obtain ⟨q176, c176, rfl⟩ := o176.ints.lenN
      refine sCall3 rfl call18 rfl rfl rfl h_ ?_
      clear h_
      have x_ : Ext m156 m176 := e_
      replace E := E.trans x_
      replace gD := x_.cells gD
      replace rD := rD.ext x_
      replace ia := ia.ext x_
      replace hGl := hGl.ext x_
      replace i33 := i33.ext x_
      replace i86 := i86.ext x_
      replace i147 := i147.ext x_
      clear x_
      clear e_
      refine sMv (v := .tuple _) rfl ?_
      refine sP (v := .slice _ _ _) rfl ?_   -- extract ['t171', '0']
      refine sP (v := nv _) rfl ?_   -- extract ['t171', '1']
      refine sAs (v := .slice _ _ _) rfl ?_
      refine sAs (v := nv _) rfl ?_
      refine sNil (kSeqN ?_)
      refine cSeq ?_
      refine cRegion ?_
      refine sMv (v := nv _) rfl ?_
      refine sBin (v := .bool false) (a := 6) (b := 6) rfl rfl (neqF rfl) ?_
      refine sNil (kSeqN ?_)
      refine cCondF rfl ?_
      refine cSkip (kSeqN ?_)
      refine cSeq ?_
      refine cRegion ?_
      obtain ⟨v181, m181, h181, rfl, e181⟩ := spec_awake hGl
      refine sCall0 rfl call13 h181 ?_
      refine sAs (v := .bool _) rfl ?_
      refine sNil (kSeqN ?_)
      refine cRet ?_
      exact ⟨.inr rfl, _, rfl, rfl, trivial⟩
    ·
      refine cSkip (kSeqN ?_)
      refine cSeq ?_
      refine cRegion ?_
      obtain ⟨v181, m181, h181, rfl, e181⟩ := spec_awake hGl
      refine sCall0 rfl call13 h181 ?_
      refine sAs (v := .bool _) rfl ?_
      refine sNil (kSeqN ?_)
      refine cRet ?_
      exact ⟨.inr rfl, _, rfl, rfl, trivial⟩

end Go.AM

/-! ### F20 -/
namespace Go.AM
open Go.Proofs Go.Proofs.YthfhbddnkgfhaaaDoor Go.ChangeShapes
set_option maxRecDepth 100000
set_option linter.unusedVariables false

theorem gAsk : Tryd.prog.globalNamed "spoondrift/pebble.asks" = some 0 := by kernel_rfl
theorem tAsk : (Tryd.prog.globals[0]?).map (·.type) = some 96 := by kernel_rfl
theorem gSize : Tryd.prog.globals.size = 1 := by kernel_rfl
theorem u4 : Tryd.prog.underlying 4 = some .bool := by kernel_rfl
theorem u5 : Tryd.prog.underlying 5 = some (.int .u8) := by kernel_rfl
theorem u94 : Tryd.prog.underlying 94 = some (.func #[79, 3, 3, 25, 93] #[4] false) := by kernel_rfl
theorem u95 : Tryd.prog.underlying 95 = some (.struct #[{ name := "so", type := 94, offset := 0, embedded := false, tag := "", pkgPath := "spoondrift/pebble", byteOffset := 0 }]) := by kernel_rfl
theorem u96 : Tryd.prog.underlying 96 = some (.array 3 95) := by kernel_rfl

theorem var_block {P : Program} {w : World} {n : String} {g : Nat} {cs : Array Value} (hg : P.globalNamed n = some g) (h : w.var? P n = some cs) : ∃ t fz, w.heap[g]? = some (.cells cs t fz) := by
  simp only [World.var?, hg, Option.bind_some] at h
  split at h
  · rename_i c t fz e
    injection h with h; subst h
    exact ⟨t, fz, e⟩
  · cases h

def tokA : Nat → List UInt8
  | 0 => [115, 112, 111, 111, 110, 100, 114, 105, 102, 116, 47, 112, 101, 98, 98, 108, 101, 46, 97, 115, 107, 115, 36, 49]
  | 1 => [115, 112, 111, 111, 110, 100, 114, 105, 102, 116, 47, 112, 101, 98, 98, 108, 101, 46, 97, 115, 107, 115, 36, 50]
  | _ => [115, 112, 111, 111, 110, 100, 114, 105, 102, 116, 47, 112, 101, 98, 98, 108, 101, 46, 97, 115, 107, 115, 36, 51]
theorem one140 : ((List.range Tryd.prog.funcs.size).filter fun f => (Tryd.prog.funcs[f]?).any (·.name.toUTF8.data.toList == tokA 0)) = [140] := by kernel_rfl
theorem one143 : ((List.range Tryd.prog.funcs.size).filter fun f => (Tryd.prog.funcs[f]?).any (·.name.toUTF8.data.toList == tokA 1)) = [143] := by kernel_rfl
theorem one144 : ((List.range Tryd.prog.funcs.size).filter fun f => (Tryd.prog.funcs[f]?).any (·.name.toUTF8.data.toList == tokA 2)) = [144] := by kernel_rfl
theorem hc95 : Tryd.prog.cellsOf 95 = 1 := by kernel_rfl
theorem hc94 : Tryd.prog.cellsOf 94 = 1 := by kernel_rfl
/-- One entry of the table of what is asked. -/
theorem entry_ask {w : World} {n q : Nat} (hq : q < 3) {cs : List Value} {y : DataW (List UInt8) × List MemPlace}
    (h : DataW.trod (funcToken Tryd.prog) Tryd.prog w 0 (fun _ => true) true n 95 cs = some y) (hy : y.1 = .agg [.held (tokA q)]) : cs = [.func (.func (askF q)) #[] #[]] := by
  obtain ⟨xs, m, rfl, hx, hl, hn, hel⟩ := DataW.trod_struct u95 h
  have h0 := hel 0 _ rfl
  rw [hx] at hy
  simp only [DataW.agg.injEq] at hy
  rw [hc95] at hl
  match cs, hl with
  | [a], _ =>
    match xs, hn, hy, h0 with
    | [e0], _, hy, h0 =>
      simp only [List.map_cons, List.map_nil, List.cons.injEq, and_true] at hy
      simp only [hc94, List.drop_zero, List.take_one, List.getElem?_cons_zero] at h0
      have h1 : DataW.trod (funcToken Tryd.prog) Tryd.prog w 0 (fun _ => true) true m 94 [a] = some (.held (tokA q), e0.2) := by
        rw [← hy]; simpa [hc94] using h0
      have : q = 0 ∨ q = 1 ∨ q = 2 := by omega
      rcases this with rfl | rfl | rfl
      · rw [func_of_trod (f0 := 140) u94 one140 h1]; rfl
      · rw [func_of_trod (f0 := 143) u94 one143 h1]; rfl
      · rw [func_of_trod (f0 := 144) u94 one144 h1]; rfl
def askD : DataW Unit := .agg [.agg [.iface "func" (.lit (.string (tokA 0)))], .agg [.iface "func" (.lit (.string (tokA 1)))], .agg [.iface "func" (.lit (.string (tokA 2)))]]
/-- What the table of what is asked holds. -/
theorem open_asks {w : World} (h : funcsAt Tryd.prog w "spoondrift/pebble.asks" askD) :
    ∃ c t fz, w.heap[0]? = some (.cells c t fz) ∧ ∀ q, q < 3 → c[q]? = some (.func (.func (askF q)) #[] #[]) := by
  obtain ⟨g, t, cs, fuel, p, hg, ht, hc, hd⟩ := h
  obtain rfl := Option.some.inj (gAsk.symm.trans hg)
  obtain rfl := Option.some.inj (tAsk.symm.trans ht)
  obtain ⟨ty, fz, hb0⟩ := var_block hg hc
  have hout : askD.funcsOut = .agg [.agg [.held (tokA 0)], .agg [.held (tokA 1)], .agg [.held (tokA 2)]] := by rfl
  rw [hout] at hd
  obtain ⟨xs, m, rfl, hx, hl, hn, hel⟩ := DataW.trod_array u96 hd
  match xs, hn with
  | [e0, e1, e2], _ =>
    simp only [Prod.mk.injEq, DataW.agg.injEq, List.map_cons, List.map_nil, List.cons.injEq, and_true] at hx
    obtain ⟨⟨x0, x1, x2⟩, _⟩ := hx
    have key : ∀ (q : Nat) (e : DataW (List UInt8) × List MemPlace), q < 3 → [e0, e1, e2][q]? = some e → e.1 = .agg [.held (tokA q)] → cs[q]? = some (.func (.func (askF q)) #[] #[]) := by
      intro q e hq he h1
      have h2 := hel q hq
      rw [he, hc95, Nat.mul_one] at h2
      have h3 := entry_ask hq h2 h1
      have := congrArg (·[0]?) h3
      simpa [List.getElem?_take, List.getElem?_drop] using this
    refine ⟨cs, ty, fz, hb0, fun q hq => ?_⟩
    have : q = 0 ∨ q = 1 ∨ q = 2 := by omega
    rcases this with rfl | rfl | rfl
    · exact key 0 e0 (by omega) rfl x0.symm
    · exact key 1 e1 (by omega) rfl x1.symm
    · exact key 2 e2 (by omega) rfl x2.symm
def laid1 : List (String × DataW Unit) := [("spoondrift/pebble.asks", Rows.laid_spoondrift_pebble_asks)]
theorem ask_data : (Rows.laid_spoondrift_pebble_asks : DataW Unit) = .iface "func table" askD := by rfl
theorem of_laid {w : World} (h : laidMetH Tryd.prog laid1 w) : ∃ c t fz, w.heap[0]? = some (.cells c t fz) ∧ ∀ q, q < 3 → c[q]? = some (.func (.func (askF q)) #[] #[]) :=
  open_asks (h.funcs (n := "spoondrift/pebble.asks") (by rw [← ask_data]; simp [laid1]))
end Go.AM

/-! ### F21 -/
namespace Go.AM
open Go.Proofs Go.Proofs.YthfhbddnkgfhaaaDoor Go.RowKit
set_option maxRecDepth 100000
set_option linter.unusedVariables false

/-- An argument's block: where it lies, and its abstract cells (each stands for the machine's cell at the same place). -/
structure Arg0 where
  blk : Nat
  off : Nat
  cap : Nat
  cs : Array Value
def arg0 : Arg0 := ⟨0, 0, 0, #[]⟩
def askCs : Array Value := #[.func (.func 140) #[] #[], .func (.func 143) #[] #[], .func (.func 144) #[] #[]]
def mem0 (A : List Arg0) : Mem := (AObj.cells false askCs :: A.map fun a => AObj.cells false a.cs).toArray
def beta0 (A : List Arg0) : Beta where
  blk i := if i < 1 then i else (A.getD (i - 1) arg0).blk
  sh i := if i < 1 then 0 else (A.getD (i - 1) arg0).off
  cap i := if i < 1 then 1000000 else (A.getD (i - 1) arg0).off + max (A.getD (i - 1) arg0).cs.size (A.getD (i - 1) arg0).cap
/-- What is known of an argument's cells, all arguments' places being known. -/
def Arg0.ok (W : World) (A : List Arg0) (a : Arg0) : Prop := ∃ c t fz, W.heap[a.blk]? = some (.cells c t fz) ∧ ∀ (i : Nat) v, a.cs[i]? = some v → ∃ v', c[a.off + i]? = some v' ∧ VRel (beta0 A) (1 + A.length) v v'
theorem mem0_size (A : List Arg0) : (mem0 A).size = 1 + A.length := by simp [mem0]; omega
theorem mem0_get (A : List Arg0) (i : Nat) : Mem.get (mem0 A) i = if i = 0 then .cells false askCs else if h : i - 1 < A.length then .cells false (A[i - 1]).cs else .dead := by
  unfold Mem.get mem0
  rw [Array.getD_eq_getD_getElem?, List.getElem?_toArray]
  match i with
  | 0 => rfl
  | i + 1 =>
    rw [if_neg (by omega)]
    simp only [List.getElem?_cons_succ, Nat.add_sub_cancel, List.getElem?_map]
    by_cases h : i < A.length
    · rw [dif_pos h, List.getElem?_eq_getElem h]; rfl
    · rw [dif_neg h, List.getElem?_eq_none (by omega)]; rfl
theorem glob0 (A : List Arg0) : GlobP (mem0 A) := ⟨false, by rw [mem0_get]; rfl⟩
theorem rel0 {W : World} (hL : laidMetH Tryd.prog laid1 W) {A : List Arg0} (hA : ∀ a ∈ A, a.ok W A) : Rel Tryd.prog (beta0 A) (mem0 A) W := by
  obtain ⟨c, t, fz, h0, hc0⟩ := of_laid hL
  refine ⟨by rw [mem0_size, gSize]; omega, fun g hg => ?_, fun i hi => ?_, fun i j _ hr _ => ?_⟩
  · rw [gSize] at hg
    exact ⟨if_pos hg, if_pos hg⟩
  · rw [mem0_get] at hi ⊢
    by_cases e0 : i = 0
    · subst e0
      rw [if_pos rfl] at hi ⊢
      refine ⟨_, h0, c, t, fz, rfl, by simp [beta0, askCs], fun j v hj => ?_, fun h => by cases h⟩
      have hf : ∀ q, VRel (beta0 A) (mem0 A).size (.func (.func q) #[] #[]) (.func (.func q) #[] #[]) := fun q => .func _ _ _ _ _ rfl (fun i v v' h => by simp at h) rfl (fun i v v' h => by simp at h)
      match j with
      | 0 => simp [askCs] at hj; subst hj; exact ⟨_, by simpa [beta0, askF] using hc0 0 (by omega), hf _⟩
      | 1 => simp [askCs] at hj; subst hj; exact ⟨_, by simpa [beta0, askF] using hc0 1 (by omega), hf _⟩
      | 2 => simp [askCs] at hj; subst hj; exact ⟨_, by simpa [beta0, askF] using hc0 2 (by omega), hf _⟩
      | j + 3 => simp [askCs] at hj
    rw [if_neg e0] at hi ⊢
    by_cases e4 : i - 1 < A.length
    · rw [dif_pos e4] at hi ⊢
      obtain ⟨c, t, fz, g1, g2⟩ := hA _ (List.getElem_mem e4)
      have hb : (beta0 A).blk i = (A[i - 1]).blk := by
        simp only [beta0]; rw [if_neg (by omega), List.getD_eq_getElem?_getD, List.getElem?_eq_getElem e4]; rfl
      have hsh : (beta0 A).sh i = (A[i - 1]).off := by
        simp only [beta0]; rw [if_neg (by omega), List.getD_eq_getElem?_getD, List.getElem?_eq_getElem e4]; rfl
      have hcp : (beta0 A).cap i = (A[i - 1]).off + max (A[i - 1]).cs.size (A[i - 1]).cap := by
        simp only [beta0]; rw [if_neg (by omega), List.getD_eq_getElem?_getD, List.getElem?_eq_getElem e4]; rfl
      refine ⟨_, by rw [hb]; exact g1, c, t, fz, rfl, by rw [hsh, hcp]; omega, fun j v hj => ?_, fun h => by cases h⟩
      obtain ⟨v', q1, q2⟩ := g2 j v hj
      exact ⟨v', by rw [hsh]; exact q1, by rw [mem0_size]; exact q2⟩
    · rw [dif_neg e4] at hi; cases hi
  · rw [mem0_get] at hr
    repeat' split at hr
    all_goals cases hr
theorem arel_nil {β : Beta} {N : Nat} : ARel β N #[] #[] := ⟨rfl, fun i v v' h => by simp at h⟩
theorem arel_cons {β : Beta} {N : Nat} {v v' : Value} {l l' : List Value} (hv : VRel β N v v') (h : ARel β N l.toArray l'.toArray) : ARel β N (v :: l).toArray (v' :: l').toArray := by
  refine ⟨by have := h.1; simp at this ⊢; exact this, fun i x x' h1 h2 => ?_⟩
  cases i with
  | zero => simp at h1 h2; subst h1 h2; exact hv
  | succ i => exact h.2 i x x' (by simpa using h1) (by simpa using h2)
/-- From the abstract call to the machine's. -/
theorem entry {f : FuncId} {args args' : Array Value} {W : World} {A : List Arg0} (hL : laidMetH Tryd.prog laid1 W) (hA : ∀ a ∈ A, a.ok W A)
    (hargs : ARel (beta0 A) (1 + A.length) args args') (hc : ∃ v m', ACalls Tryd.prog f args (mem0 A) v m' ∧ v = .bool true) :
    Calls Tryd.prog f args' W fun e W' => e = .returned (.bool true) ∧ Below W.heap.size W W' := by
  have hR := rel0 hL hA
  obtain ⟨v, m', hcall, rfl⟩ := hc
  refine (hcall.2 _ W args' hR (by rw [mem0_size]; exact hargs)).mono ?_
  rintro e W' ⟨v', rfl, β', hv, _, hS⟩
  cases hv
  refine ⟨rfl, hS.os, hS.tape, hS.output, hS.wsz, fun k hk => hS.keep k hk fun i hi => ?_⟩
  rw [mem0_get] at hi
  repeat' split at hi
  all_goals cases hi
end Go.AM
