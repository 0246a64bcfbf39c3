/- Part 7 of the proof: Contracts of the program's functions. -/
import Derived.Test.YthfhbddnkgfhaaaDoorPartF
import Derived.Test.YthfhbddnkgfhaaaDoorPartE
import Derived.Test.YthfhbddnkgfhaaaDoorRows
import Derived.ProofKit
import Derived.LaidMore
import Derived.LaidHandle
import Derived.OpenShut
import Derived.Stop.Joined
import Derived.Below
import Derived.Carry
import Derived.ChangeSlices
import Derived.WideShapes
set_option linter.unusedVariables false
set_option linter.unusedSimpArgs false
/-! ### S3 -/
namespace Go.AM
open Go.Proofs
set_option maxRecDepth 100000
set_option linter.unusedVariables false
set_option linter.unusedSimpArgs false
theorem B113 {q : Option Addr} {n c : Nat} {a : Int} : aBuild Tryd.prog 113 [(0, .slice q n c), (2, .int .u32 a)] = some (.agg #[.slice q n c, nv 0, .int .u32 a]) := by kernel_rfl
theorem eq63 {q : Option Addr} {n c : Nat} : aBin Tryd.prog .eql 63 (.slice q n c) (.slice none 0 0) = some (.bool (decide (q = none))) := by
  cases q <;> kernel_rfl
theorem U111 : undOf Tryd.prog 111 = some (.int .u32) := by kernel_rfl
theorem U5 : undOf Tryd.prog 5 = some (.int .u8) := by kernel_rfl
theorem conv5_111 {a : Int} : ∃ z : Nat, z < 4294967296 ∧ aConv Tryd.prog 5 111 (.int .u8 a) = some (.int .u32 (Int.ofNat z)) := by
  obtain ⟨z, hz, e⟩ := wrap32 a
  exact ⟨z, hz, by simp only [aConv, U5, U111, e]⟩
theorem conv111_3 {a : Nat} (h : a < 4294967296) : aConv Tryd.prog 111 3 (.int .u32 (Int.ofNat a)) = some (nv a) := by
  simp only [aConv, U111, U3]
  rw [wrapN (by omega)]
theorem cut_bytes {m : Mem} {v : Value} {l : List Int} {k : Nat} (h : BytesAt m v l) (hk : k ≤ l.length) : ∃ v2, aSlice Tryd.prog m 63 v none (some (nv k)) none = some v2 ∧ BytesAt m v2 (l.take k) := by
  rcases h with ⟨rfl, rfl | ⟨b, o, rfl⟩⟩ | ⟨b, o, cap, r, c, rfl, h1, h2, h3⟩
  · obtain rfl : k = 0 := by simpa using hk
    exact ⟨.slice none 0 0, by simp only [aSlice, T63, S5, aBounds]; rfl, .inl ⟨rfl, .inl rfl⟩⟩
  · obtain rfl : k = 0 := by simpa using hk
    exact ⟨.slice (some ⟨0, 0, none⟩) 0 0, by simp only [aSlice, T63, S5, aBounds]; rfl, .inl ⟨rfl, .inr ⟨_, _, rfl⟩⟩⟩
  · refine ⟨_, aSlice_hi T63 S5 (by omega), .inr ⟨b, o, cap, r, c, by rw [List.length_take, Nat.min_eq_left hk], by rw [List.length_take]; omega, h2, fun i x hx => ?_⟩⟩
    rw [List.getElem?_take] at hx
    split at hx
    · exact h3 i x hx
    · cases hx
theorem app_bytes {m : Mem} {v : Value} {l : List Int} (h : BytesAt (m.push (.cells true #[])) v l) (hl : l.length ≤ 1000) :
    ∃ v' m', aAppend Tryd.prog (m.push (.cells true #[])) 63 63 (.slice (some ⟨m.size, 0, some 1⟩) 0 0) v = some (v', m') ∧ BytesIn m.size m'.size m' v' l ∧ Ext m m' := by
  have hb : bytesOf' Tryd.prog 5 = some 1 := by kernel_rfl
  obtain ⟨q, cap, rfl⟩ := h.len
  have hal : aLenOf (.slice q l.length cap) = some l.length := rfl
  have h35 : isIntT (.slice 5) = false := rfl
  have hz : (Value.int .u8 0).cells.size = 1 := rfl
  have hg : Mem.get (m.push (.cells true #[])) m.size = .cells true #[] := gP rfl
  unfold aAppend
  simp only [T63, S5, Z5, hb, h35, hal, first_bytes h]
  rw [if_pos ⟨by omega, hz, by rw [cellsU_size]; omega, cellsU_one l⟩]
  simp only [if_true]
  by_cases h0 : l.length = 0
  · simp only [h0, if_true]
    exact ⟨_, _, rfl, .inl ⟨List.length_eq_zero_iff.1 h0, _, _, rfl⟩, .push _ _⟩
  · simp only [if_neg h0, hg]
    rw [if_neg (by omega), if_pos ⟨trivial, by simp, by omega, by omega⟩]
    refine ⟨_, _, rfl, .inr ⟨m.size + 1, 0, l.length, true, _, by simp, by omega, by simp, gP (by simp), fun i x hx => ?_⟩, by simp; omega, fun b hb => ?_⟩
    · have : (cellsU l)[i]? = some (.int .u8 x) := by rw [cellsU_get, hx]; rfl
      simpa using this
    · rw [gPn (by simp; omega), gSn (by omega), gPn hb]

theorem okf86 : okF Tryd.prog H0 86 8 = true := by kernel_rfl
theorem spec_CloneB {m : Mem} {a : Value} {l : List Int} (ha : BytesAt m a l) (hl : l.length ≤ 1000) : ∃ v m', ACalls Tryd.prog 86 #[a] m v m' ∧ (BytesIn m.size m'.size m' v l ∧ Ext m m') := by
  obtain ⟨q, cap, rfl⟩ := ha.len
  refine wpF (args := [_]) mixed okf86 (fn := Tryd.f86) rfl rfl rfl (by simp) ?_
  refine cSeq ?_
  refine cRegion ?_
  refine sAs (v := .slice _ _ _) rfl ?_
  refine sNil (kSeqN ?_)
  refine cSeq ?_   -- seq 1
  refine cSeq ?_
  refine cRegion ?_
  refine sMv (v := .slice _ _ _) rfl ?_
  refine sP (v := .bool (decide (q = none))) eq63 ?_
  refine sNil (kSeqN ?_)
  refine cCond rfl (fun c0 => ?_) (fun c0 => ?_)
  ·
    refine cSeq ?_
    refine cRegion ?_
    refine sAs (v := .slice _ _ _) rfl ?_
    refine sNil (kSeqN ?_)
    refine cRet (kSeqR ?_)
    subst c0
    refine ⟨.inr rfl, _, rfl, .inl ⟨?_, _, _, rfl⟩, .refl _⟩
    rcases ha with ⟨h, _⟩ | ⟨b, o, cp, r, c, h, _⟩
    · exact h
    · cases h
  ·
    refine cSkip (kSeqN ?_)
    refine cSeq ?_
    refine cRegion ?_
    refine sBuildS (c := #[]) T63 S5 Z5 (by decide) (by decide) (by decide) (by kernel_rfl) rfl rfl ?_
    refine sMv (v := .slice _ _ _) rfl ?_
    obtain ⟨v3, m3, h3, hO3, hE3⟩ := app_bytes (ha.ext (.push _ _)) hl
    obtain ⟨q3, cp3, rfl⟩ := hO3.len
    refine sAppX rfl rfl h3 ?_
    refine sAs (v := .slice _ _ _) rfl ?_
    refine sNil (kSeqN ?_)
    refine cRet ?_
    exact ⟨.inr rfl, _, rfl, hO3, hE3⟩

theorem okf53 : okF Tryd.prog H0 53 11 = true := by kernel_rfl
theorem spec_Of {m : Mem} {a : Value} {l : List Int} (ha : BytesAt m a l) : ∃ v m', ACalls Tryd.prog 53 #[a] m v m' ∧ (∃ b, v = .pointer (some ⟨b, 0, none⟩) ∧ m.size ≤ b ∧ StoreAt m.size m'.size m' b 0 ∧ Ext m m') := by
  obtain ⟨q, cap, rfl⟩ := ha.len
  obtain ⟨v7, h7, hB7⟩ := cut_bytes ha (k := min l.length 300) (by omega)
  obtain ⟨q7, c7, rfl⟩ := hB7.len
  have hl7 : (l.take (min l.length 300)).length ≤ 300 := by rw [List.length_take]; omega
  generalize l.take (min l.length 300) = l7 at *
  refine wpF (args := [_]) mixed okf53 (fn := Tryd.f53) rfl rfl rfl (by simp) ?_
  refine cSeq ?_
  refine cRegion ?_
  refine sAs (v := .pointer _) rfl ?_
  refine sNil (kSeqN ?_)
  refine cSeq ?_
  refine cRegion ?_
  refine sMv (v := .slice _ _ _) rfl ?_
  refine sMv (v := .slice _ _ _) rfl ?_
  refine sLen T63 rfl ?_
  refine sP (v := nv (min l.length 300)) min300 ?_
  refine sO (v := .slice q7 l7.length c7) (m' := m) (opF_read rfl h7) ?_
  obtain ⟨v8, m8, h8, hO8, hE8⟩ := spec_CloneB hB7 (by omega)
  obtain ⟨q8, c8, rfl⟩ := hO8.len
  refine sCall1 rfl call86 rfl h8 ?_
  refine sBuild B113 ?_
  refine sBox (v := .agg _) rfl ?_
  refine sAs (v := .pointer _) rfl ?_
  refine sNil (kSeqN ?_)
  refine cRet ?_
  refine ⟨.inr rfl, _, rfl, m8.size, rfl, hE8.1, ⟨by simp, by simp, by simp, .slice q8 l7.length c8, 0, 2463534242, l7, gP rfl, Nat.le_refl _, by omega, hO8.keep fun c _ hc => gPn hc, hl7⟩, hE8.push' _⟩

theorem okf99 : okF Tryd.prog H0 99 104 = true := by kernel_rfl
theorem spec_draw {m : Mem} {N0 N b k : Nat} (h : StoreAt N0 N m b k) (hk : k < 1000000) : ∃ v m', ACalls Tryd.prog 99 #[.pointer (some ⟨b, 0, none⟩)] m v m' ∧ ((∃ z : Nat, v = .int .u32 (Int.ofNat z) ∧ z < 4294967296) ∧ StoreAt N0 N m' b (k + 1) ∧ Only b m m') := by
  obtain ⟨hb1, hb2, hN, bs, nx, st, l, g0, hnx, hst, hBs, hl⟩ := h
  obtain ⟨q, cap, rfl⟩ := hBs.len
  have hbm := live g0
  refine wpF (args := [_]) mixed okf99 (fn := Tryd.f99) rfl rfl rfl (by simp) ?_
  refine cSeq ?_
  refine cRegion ?_
  refine sAs (v := .int .u32 _) rfl ?_
  refine sNil (kSeqN ?_)
  refine cSeq ?_
  refine cDraw rfl ?_
  refine sMv (v := .pointer _) rfl ?_
  refine sNC rfl ?_
  refine sFA F113_2 rfl ?_
  refine sLd A111 rfl (by simp (disch := first | omega | (simp only [Array.size_push, Array.size_setIfInBounds]; done) | (simp only [Array.size_push, Array.size_setIfInBounds]; omega)) only [gP, gPn, gS, gSn, g0]; try rfl) rfl ?_
  refine sMv (v := .pointer _) rfl ?_
  refine sNC rfl ?_
  refine sFA F113_2 rfl ?_
  refine sLd A111 rfl (by simp (disch := first | omega | (simp only [Array.size_push, Array.size_setIfInBounds]; done) | (simp only [Array.size_push, Array.size_setIfInBounds]; omega)) only [gP, gPn, gS, gSn, g0]; try rfl) rfl ?_
  refine sShl32 (b := 13) rfl rfl fun z12 hz12 => ?_
  refine sU32 rfl rfl rfl fun z13 hz13 => ?_
  refine sNC rfl ?_
  refine sFA F113_2 rfl ?_
  refine sSt (v := .int .u32 _) S111 rfl rfl (by simp (disch := first | omega | (simp only [Array.size_push, Array.size_setIfInBounds]; done) | (simp only [Array.size_push, Array.size_setIfInBounds]; omega)) only [gP, gPn, gS, gSn, g0]; try rfl) (by first | decide | omega | simp) rfl rfl ?_
  refine sNil (kSeqN ?_)
  refine cSeq ?_
  refine cDraw rfl ?_
  refine sMv (v := .pointer _) rfl ?_
  refine sNC rfl ?_
  refine sFA F113_2 rfl ?_
  refine sLd A111 rfl (by simp (disch := first | omega | (simp only [Array.size_push, Array.size_setIfInBounds]; done) | (simp only [Array.size_push, Array.size_setIfInBounds]; omega)) only [gP, gPn, gS, gSn, g0]; try rfl) rfl ?_
  refine sMv (v := .pointer _) rfl ?_
  refine sNC rfl ?_
  refine sFA F113_2 rfl ?_
  refine sLd A111 rfl (by simp (disch := first | omega | (simp only [Array.size_push, Array.size_setIfInBounds]; done) | (simp only [Array.size_push, Array.size_setIfInBounds]; omega)) only [gP, gPn, gS, gSn, g0]; try rfl) rfl ?_
  refine sShr32 (b := 17) rfl rfl (by omega) ?_
  refine sU32 rfl rfl rfl fun z25 hz25 => ?_
  refine sNC rfl ?_
  refine sFA F113_2 rfl ?_
  refine sSt (v := .int .u32 _) S111 rfl rfl (by simp (disch := first | omega | (simp only [Array.size_push, Array.size_setIfInBounds]; done) | (simp only [Array.size_push, Array.size_setIfInBounds]; omega)) only [gP, gPn, gS, gSn, g0]; try rfl) (by first | decide | omega | simp) rfl rfl ?_
  refine sNil (kSeqN ?_)
  refine cSeq ?_
  refine cDraw rfl ?_
  refine sMv (v := .pointer _) rfl ?_
  refine sNC rfl ?_
  refine sFA F113_2 rfl ?_
  refine sLd A111 rfl (by simp (disch := first | omega | (simp only [Array.size_push, Array.size_setIfInBounds]; done) | (simp only [Array.size_push, Array.size_setIfInBounds]; omega)) only [gP, gPn, gS, gSn, g0]; try rfl) rfl ?_
  refine sMv (v := .pointer _) rfl ?_
  refine sNC rfl ?_
  refine sFA F113_2 rfl ?_
  refine sLd A111 rfl (by simp (disch := first | omega | (simp only [Array.size_push, Array.size_setIfInBounds]; done) | (simp only [Array.size_push, Array.size_setIfInBounds]; omega)) only [gP, gPn, gS, gSn, g0]; try rfl) rfl ?_
  refine sShl32 (b := 5) rfl rfl fun z36 hz36 => ?_
  refine sU32 rfl rfl rfl fun z37 hz37 => ?_
  refine sNC rfl ?_
  refine sFA F113_2 rfl ?_
  refine sSt (v := .int .u32 _) S111 rfl rfl (by simp (disch := first | omega | (simp only [Array.size_push, Array.size_setIfInBounds]; done) | (simp only [Array.size_push, Array.size_setIfInBounds]; omega)) only [gP, gPn, gS, gSn, g0]; try rfl) (by first | decide | omega | simp) rfl rfl ?_
  refine sNil (kSeqN ?_)
  refine cSeq ?_
  refine cRegion ?_
  refine sMv (v := .pointer _) rfl ?_
  refine sNC rfl ?_
  refine sFA F113_2 rfl ?_
  refine sLd A111 rfl (by simp (disch := first | omega | (simp only [Array.size_push, Array.size_setIfInBounds]; done) | (simp only [Array.size_push, Array.size_setIfInBounds]; omega)) only [gP, gPn, gS, gSn, g0]; try rfl) rfl ?_
  refine sShr32 (b := 3) rfl rfl (by omega) ?_
  have hz44 := Nat.shiftRight_le z37 3
  generalize z37 >>> 3 = z44 at *
  refine sAs (v := .int .u32 _) rfl ?_
  refine sNil (kSeqN ?_)
  refine cSeq ?_   -- seq 5
  refine cSeq ?_
  refine cRegion ?_
  refine sMv (v := .pointer _) rfl ?_
  refine sNC rfl ?_
  refine sFA F113_0 rfl ?_
  refine sLd A63 rfl (by simp (disch := first | omega | (simp only [Array.size_push, Array.size_setIfInBounds]; done) | (simp only [Array.size_push, Array.size_setIfInBounds]; omega)) only [gP, gPn, gS, gSn, g0]; try rfl) rfl ?_
  refine sLen T63 rfl ?_
  refine sBin rfl rfl (aInt_gtr (b := 0)) ?_
  refine sNil (kSeqN ?_)
  refine cCond rfl (fun c0 => ?_) (fun c0 => ?_)
  ·
    rcases hBs with ⟨rfl, _⟩ | ⟨bb, o, cap', r, c, e1, e2, e3, e4, e5⟩
    · exact absurd c0 (by simp)
    injection e1 with e1 e1' e1''
    subst e1; subst e1''
    have hm : nx % l.length < l.length := Nat.mod_lt _ c0
    have hx := e5 _ _ (List.getElem?_eq_getElem hm)
    generalize l[nx % l.length] = by_ at *
    obtain ⟨zc, hzc, hconv⟩ := conv5_111 (a := by_)
    refine cSeq ?_
    refine cDraw rfl ?_
    refine sMv (v := .int .u32 _) rfl ?_
    refine sMv (v := .pointer _) rfl ?_
    refine sNC rfl ?_
    refine sFA F113_0 rfl ?_
    refine sLd A63 rfl (by simp (disch := first | omega | (simp only [Array.size_push, Array.size_setIfInBounds]; done) | (simp only [Array.size_push, Array.size_setIfInBounds]; omega)) only [gP, gPn, gS, gSn, g0]; try rfl) rfl ?_
    refine sMv (v := .pointer _) rfl ?_
    refine sNC rfl ?_
    refine sFA F113_1 rfl ?_
    refine sLd A3 rfl (by simp (disch := first | omega | (simp only [Array.size_push, Array.size_setIfInBounds]; done) | (simp only [Array.size_push, Array.size_setIfInBounds]; omega)) only [gP, gPn, gS, gSn, g0]; try rfl) rfl ?_
    refine sMv (v := .pointer _) rfl ?_
    refine sNC rfl ?_
    refine sFA F113_0 rfl ?_
    refine sLd A63 rfl (by simp (disch := first | omega | (simp only [Array.size_push, Array.size_setIfInBounds]; done) | (simp only [Array.size_push, Array.size_setIfInBounds]; omega)) only [gP, gPn, gS, gSn, g0]; try rfl) rfl ?_
    refine sLen T63 rfl ?_
    refine sBin rfl rfl (aInt_rem (by omega)) ?_
    refine sIx T63 S5 rfl rfl hm ?_
    refine sLd (v := .int .u8 by_) A5 rfl (by simp (disch := first | omega | (simp only [Array.size_push, Array.size_setIfInBounds]; done) | (simp only [Array.size_push, Array.size_setIfInBounds]; omega)) only [gP, gPn, gS, gSn, e4]; try rfl) hx ?_
    refine sP (v := .int .u32 (Int.ofNat zc)) hconv ?_
    refine sU32 rfl rfl rfl fun z69 hz69 => ?_
    refine sU32 rfl rfl rfl fun z70 hz70 => ?_
    refine sAs (v := .int .u32 _) rfl ?_
    refine sNil (kSeqN ?_)
    refine cSeq ?_
    refine cDraw rfl ?_
    refine sMv (v := .pointer _) rfl ?_
    refine sNC rfl ?_
    refine sFA F113_2 rfl ?_
    refine sLd A111 rfl (by simp (disch := first | omega | (simp only [Array.size_push, Array.size_setIfInBounds]; done) | (simp only [Array.size_push, Array.size_setIfInBounds]; omega)) only [gP, gPn, gS, gSn, g0]; try rfl) rfl ?_
    refine sMv (v := .pointer _) rfl ?_
    refine sNC rfl ?_
    refine sFA F113_0 rfl ?_
    refine sLd A63 rfl (by simp (disch := first | omega | (simp only [Array.size_push, Array.size_setIfInBounds]; done) | (simp only [Array.size_push, Array.size_setIfInBounds]; omega)) only [gP, gPn, gS, gSn, g0]; try rfl) rfl ?_
    refine sMv (v := .pointer _) rfl ?_
    refine sNC rfl ?_
    refine sFA F113_1 rfl ?_
    refine sLd A3 rfl (by simp (disch := first | omega | (simp only [Array.size_push, Array.size_setIfInBounds]; done) | (simp only [Array.size_push, Array.size_setIfInBounds]; omega)) only [gP, gPn, gS, gSn, g0]; try rfl) rfl ?_
    refine sMv (v := .pointer _) rfl ?_
    refine sNC rfl ?_
    refine sFA F113_0 rfl ?_
    refine sLd A63 rfl (by simp (disch := first | omega | (simp only [Array.size_push, Array.size_setIfInBounds]; done) | (simp only [Array.size_push, Array.size_setIfInBounds]; omega)) only [gP, gPn, gS, gSn, g0]; try rfl) rfl ?_
    refine sLen T63 rfl ?_
    refine sBin rfl rfl (aInt_rem (by omega)) ?_
    refine sIx T63 S5 rfl rfl hm ?_
    refine sLd (v := .int .u8 by_) A5 rfl (by simp (disch := first | omega | (simp only [Array.size_push, Array.size_setIfInBounds]; done) | (simp only [Array.size_push, Array.size_setIfInBounds]; omega)) only [gP, gPn, gS, gSn, e4]; try rfl) hx ?_
    refine sP (v := .int .u32 (Int.ofNat zc)) hconv ?_
    refine sU32 rfl rfl rfl fun z92 hz92 => ?_
    refine sU32 rfl rfl rfl fun z93 hz93 => ?_
    refine sNC rfl ?_
    refine sFA F113_2 rfl ?_
    refine sSt (v := .int .u32 _) S111 rfl rfl (by simp (disch := first | omega | (simp only [Array.size_push, Array.size_setIfInBounds]; done) | (simp only [Array.size_push, Array.size_setIfInBounds]; omega)) only [gP, gPn, gS, gSn, g0]; try rfl) (by first | decide | omega | simp) rfl rfl ?_
    refine sNil (kSeqN ?_)
    refine cRegion ?_
    refine sMv (v := .pointer _) rfl ?_
    refine sNC rfl ?_
    refine sFA F113_1 rfl ?_
    refine sLd A3 rfl (by simp (disch := first | omega | (simp only [Array.size_push, Array.size_setIfInBounds]; done) | (simp only [Array.size_push, Array.size_setIfInBounds]; omega)) only [gP, gPn, gS, gSn, g0]; try rfl) rfl ?_
    refine sBin rfl rfl (aInt_add (b := 1) (by omega)) ?_
    refine sNC rfl ?_
    refine sFA F113_1 rfl ?_
    refine sSt (v := nv _) S3 rfl rfl (by simp (disch := first | omega | (simp only [Array.size_push, Array.size_setIfInBounds]; done) | (simp only [Array.size_push, Array.size_setIfInBounds]; omega)) only [gP, gPn, gS, gSn, g0]; try rfl) (by first | decide | omega | simp) rfl rfl ?_
    refine sNil (kSeqN ?_)
    refine cSeq ?_
    refine cRegion ?_
    refine sMv (v := .int .u32 _) rfl ?_
    refine sAs (v := .int .u32 _) rfl ?_
    refine sNil (kSeqN ?_)
    refine cRet ?_
    refine ⟨.inr rfl, _, rfl, ⟨_, rfl, by omega⟩, ⟨hb1, hb2, by simp; omega, .slice (some ⟨bb, o, some 1⟩) l.length cap, nx + 1, z93, l, ?_, by omega, hz93, ?_, hl⟩, ?_⟩
    · simp (disch := first | omega | (simp only [Array.size_push, Array.size_setIfInBounds]; done) | (simp only [Array.size_push, Array.size_setIfInBounds]; omega)) only [gP, gPn, gS, gSn, g0]; try rfl
    · exact .inr ⟨bb, o, cap, r, c, rfl, e2, e3, (by simp (disch := first | omega | (simp only [Array.size_push, Array.size_setIfInBounds]; done) | (simp only [Array.size_push, Array.size_setIfInBounds]; omega)) only [gP, gPn, gS, gSn, e4]; try rfl), e5⟩
    · exact ((((Only.set b m _).trans (.set _ _ _)).trans (.set _ _ _)).trans (.set _ _ _)).trans (.set _ _ _)
  ·
    refine cSkip (kSeqN ?_)
    refine cSeq ?_
    refine cRegion ?_
    refine sMv (v := .int .u32 _) rfl ?_
    refine sAs (v := .int .u32 _) rfl ?_
    refine sNil (kSeqN ?_)
    refine cRet ?_
    refine ⟨.inr rfl, _, rfl, ⟨_, rfl, by omega⟩, ⟨hb1, hb2, by simp; omega, .slice q l.length cap, nx, z37, l, ?_, by omega, hz37, ?_, hl⟩, ?_⟩
    · simp (disch := first | omega | (simp only [Array.size_push, Array.size_setIfInBounds]; done) | (simp only [Array.size_push, Array.size_setIfInBounds]; omega)) only [gP, gPn, gS, gSn, g0]; try rfl
    · exact hBs.keep fun c h1 h2 => by rw [gSn (by omega), gSn (by omega), gSn (by omega)]
    · exact ((Only.set b m _).trans (.set _ _ _)).trans (.set _ _ _)

theorem okf84 : okF Tryd.prog H0 84 13 = true := by kernel_rfl
theorem spec_SLess {m : Mem} {N0 N b k n : Nat} (h : StoreAt N0 N m b k) (hk : k < 1000000) (hn : 0 < n) (hn2 : n < 2 ^ 62) : ∃ v m', ACalls Tryd.prog 84 #[.pointer (some ⟨b, 0, none⟩), nv n] m v m' ∧ ((∃ x, v = nv x ∧ x < n) ∧ StoreAt N0 N m' b (k + 1) ∧ Only b m m') := by
  refine wpF (args := [_, _]) mixed okf84 (fn := Tryd.f84) rfl rfl rfl (by simp) ?_
  refine cSeq ?_
  refine cRegion ?_
  refine sAs (v := nv 0) rfl ?_
  refine sNil (kSeqN ?_)
  refine cSeq ?_   -- seq 1
  refine cSeq ?_
  refine cRegion ?_
  refine sMv (v := nv _) rfl ?_
  refine sBin (b := 0) rfl rfl (aInt_leq) ?_
  refine sNil (kSeqN ?_)
  refine cCondF' rfl (by omega) ?_
  refine cSkip (kSeqN ?_)
  refine cSeq ?_
  refine cRegion ?_
  refine sMv (v := .pointer _) rfl ?_
  obtain ⟨v8, m8, h8, ⟨z, rfl, hz⟩, hS8, hO8⟩ := spec_draw h hk
  refine sCall1 rfl call99 rfl h8 ?_
  refine sShr32 (b := 4) rfl rfl (by omega) ?_
  have hz9 := Nat.shiftRight_le z 4
  generalize z >>> 4 = z9 at *
  refine sP (v := nv z9) (conv111_3 (by omega)) ?_
  refine sMv (v := nv _) rfl ?_
  refine sBin rfl rfl (aInt_rem (by omega)) ?_
  refine sAs (v := nv _) rfl ?_
  refine sNil (kSeqN ?_)
  refine cRet ?_
  exact ⟨.inr rfl, _, rfl, ⟨_, rfl, Nat.mod_lt _ hn⟩, hS8, hO8⟩

theorem okf89 : okF Tryd.prog H0 89 9 = true := by kernel_rfl
theorem spec_Seldom {m : Mem} {N0 N b k n : Nat} (h : StoreAt N0 N m b k) (hk : k < 1000000) (hn : 0 < n) (hn2 : n < 2 ^ 62) : ∃ v m', ACalls Tryd.prog 89 #[.pointer (some ⟨b, 0, none⟩), nv n] m v m' ∧ ((∃ x : Nat, v = .bool (decide (x = 0))) ∧ StoreAt N0 N m' b (k + 1) ∧ Only b m m') := by
  obtain ⟨v7, m7, h7, ⟨x, rfl, hx⟩, hS7, hO7⟩ := spec_SLess h hk hn hn2
  refine wpF (args := [_, _]) mixed okf89 (fn := Tryd.f89) rfl rfl rfl (by simp) ?_
  refine cSeq ?_
  refine cRegion ?_
  refine sAs (v := .bool _) rfl ?_
  refine sNil (kSeqN ?_)
  refine cSeq ?_
  refine cRegion ?_
  refine sMv (v := .pointer _) rfl ?_
  refine sMv (v := nv _) rfl ?_
  refine sCall2 rfl call84 rfl rfl h7 ?_
  refine sBin (b := 0) rfl rfl (aInt_eql) ?_
  refine sAs (v := .bool _) rfl ?_
  refine sNil (kSeqN ?_)
  refine cRet ?_
  exact ⟨.inr rfl, _, rfl, ⟨x, rfl⟩, hS7, hO7⟩

end Go.AM

/-! ### S4 -/
namespace Go.AM
open Go.Proofs
set_option maxRecDepth 100000
set_option linter.unusedVariables false
set_option linter.unusedSimpArgs false
def insN (L : List Nat) (i x : Nat) : List Nat := L.take i ++ x :: L.drop i
theorem insL_ofs (L : List Nat) (i x : Nat) : insL (ofs L) i (Int.ofNat x) = ofs (insN L i x) := by simp [insL, insN, ofs]
theorem insN_len {L : List Nat} {i : Nat} (h : i ≤ L.length) (x : Nat) : (insN L i x).length = L.length + 1 := by simp [insN]; omega
theorem insN_perm (L : List Nat) (i x : Nat) : (insN L i x).Perm (x :: L) := by
  have h := List.perm_middle (a := x) (l₁ := L.take i) (l₂ := L.drop i)
  rwa [List.take_append_drop] at h
def sort2 : List Nat → List Nat
  | [a, b] => if b < a then [b, a] else [a, b]
  | l => l
theorem sort2_len (L : List Nat) : (sort2 L).length = L.length := by
  unfold sort2
  split
  · split <;> rfl
  · rfl
theorem sort2_perm (L : List Nat) : (sort2 L).Perm L := by
  unfold sort2
  split
  · split
    · exact List.Perm.swap _ _ _
    · exact .refl _
  · exact .refl _
theorem sort2_rise {L : List Nat} (h : L.length ≤ 2) (hn : L.Nodup) : (sort2 L).Pairwise (· < ·) := by
  match L, h, hn with
  | [], _, _ => simp [sort2]
  | [a], _, _ => simp [sort2]
  | [a, b], _, hn =>
    have hab : a ≠ b := by simpa using hn
    unfold sort2
    simp only
    split
    · simp; omega
    · simp; omega
def lenT : Nat → Nat
  | 0 => 0
  | 1 => 1
  | _ => 2
theorem mk_own' {m m' : Mem} {M x : Nat} (hM : M ≤ m.size) (hl : Low M (m.push (.cells true #[nv x])) m') : Low M m m' := (Low.push M hM _).trans hl
theorem conv3_104s {x : Nat} (h : x ≤ 2) : aConv Tryd.prog 3 104 (nv x) = some (.int .u64 (Int.ofNat x)) := conv3_104 (by omega)

theorem okf82 : okF Tryd.prog H0 82 15 = true := by kernel_rfl
theorem spec_From {m : Mem} {N0 N b k lo hi : Nat} (h : StoreAt N0 N m b k) (hk : k < 1000000) (hlo : lo ≤ hi) (hhi : hi < 2 ^ 60) : ∃ v m', ACalls Tryd.prog 82 #[.pointer (some ⟨b, 0, none⟩), nv lo, nv hi] m v m' ∧ ((∃ x, v = nv x ∧ lo ≤ x ∧ x ≤ hi) ∧ StoreAt N0 N m' b (k + 1) ∧ Only b m m') := by
  refine wpF (args := [_, _, _]) mixed okf82 (fn := Tryd.f82) rfl rfl rfl (by simp) ?_
  refine cSeq ?_
  refine cRegion ?_
  refine sAs (v := nv 0) rfl ?_
  refine sNil (kSeqN ?_)
  refine cSeq ?_
  refine cRegion ?_
  refine sMv (v := nv _) rfl ?_
  refine sMv (v := .pointer _) rfl ?_
  refine sMv (v := nv _) rfl ?_
  refine sMv (v := nv _) rfl ?_
  refine sBin (a := hi) (b := lo) rfl rfl (aInt_sub (by omega)) ?_
  refine sBin (b := 1) rfl rfl (aInt_add (by omega)) ?_
  obtain ⟨v13, m13, h13, ⟨x, rfl, hx⟩, hS13, hO13⟩ := spec_SLess (n := hi - lo + 1) h hk (by omega) (by omega)
  refine sCall2 rfl call84 rfl rfl h13 ?_
  refine sBin (a := lo) (b := x) rfl rfl (aInt_add (by omega)) ?_
  refine sAs (v := nv _) rfl ?_
  refine sNil (kSeqN ?_)
  refine cRet ?_
  exact ⟨.inr rfl, _, rfl, ⟨lo + x, rfl, by omega, by omega⟩, hS13, hO13⟩

theorem okf83 : okF Tryd.prog H0 83 21 = true := by kernel_rfl
theorem spec_Order {m : Mem} {N0 N b k n : Nat} (h : StoreAt N0 N m b k) (hk : k < 100000) (hN0 : N0 ≤ b) (hn : n ≤ 1000) : ∃ v m', ACalls Tryd.prog 83 #[.pointer (some ⟨b, 0, none⟩), nv n] m v m' ∧ (∃ L : List Nat, OwnF m.size m' v (ofs L) ∧ L.length = n ∧ (∀ x ∈ L, x < n) ∧ L.Nodup ∧ StoreAt N0 N m' b (k + n) ∧ LowX m.size b m m') := by
  have hbm : b < m.size := by have := h.lt; omega
  have hNm : N ≤ m.size := h.lt.2
  refine wpF (args := [_, _]) mixed okf83 (fn := Tryd.f83) rfl rfl rfl (by simp) ?_
  refine cSeq ?_
  refine cRegion ?_
  refine sAs (v := .slice _ _ _) rfl ?_
  refine sNil (kSeqN ?_)
  refine cSeq ?_
  refine cRegion ?_
  refine sAs (v := .slice _ _ _) rfl ?_
  refine sNil (kSeqN ?_)
  refine cSeq ?_
  refine cSeq ?_
  refine cRegion ?_
  refine sMv (v := nv _) rfl ?_
  refine sMv (v := nv 0) rfl ?_
  refine sNil (kSeqN ?_)
  refine cBlock ?_
  refine wpC_loop (fun k' ρ m' => ∃ i v L, k' = n - i ∧ i ≤ n ∧ L.length = i ∧ (∀ x ∈ L, x < i) ∧ L.Nodup ∧ OwnF m.size m' v (ofs L) ∧ StoreAt N0 N m' b (k + i) ∧ LowX m.size b m m' ∧ Has ρ [(0, .pointer (some ⟨b, 0, none⟩)), (5, v), (7, nv n), (8, nv i)]) ⟨0, _, [], rfl, by omega, rfl, by simp, .nil, .nil _ _, h, .refl _ _ _, rfl, rfl, rfl, rfl, trivial⟩ ?_
  rintro k' ρ m' ⟨i, v, L, rfl, hi, hLi, hLx, hLn, hO, hS, hX, hh⟩
  obtain ⟨qv, cv, rfl⟩ := hO.ints.lenN
  rw [hh.env]; clear hh
  refine cSeq ?_
  refine cRegion ?_
  refine sBin rfl rfl (aInt_lss) ?_
  refine sNil (kSeqN ?_)
  refine cSeq ?_   -- seq 5
  refine cCond rfl (fun c0 => ?_) (fun c0 => ?_)
  ·
    refine cSkip (kSeqN ?_)
    refine cSeq ?_
    refine cBlock ?_
    refine cSeq ?_
    refine cRegion ?_
    refine sMv (v := nv _) rfl ?_
    refine sAs (v := nv _) rfl ?_
    refine sNil (kSeqN ?_)
    refine cRegion ?_
    refine sMv (v := .slice _ _ _) rfl ?_
    refine sMv (v := .pointer _) rfl ?_
    refine sMv (v := nv _) rfl ?_
    refine sBin (b := 1) rfl rfl (aInt_add (by omega)) ?_
    obtain ⟨v15, m15, h15, ⟨p, rfl, hp⟩, hS15, hO15⟩ := spec_SLess (n := i + 1) hS (by omega) (by omega) (by omega)
    refine sCall2 rfl call84 rfl rfl h15 ?_
    have hOa := hO.only hO15 hbm
    have hXa := hX.trans hO15.x
    have hz := hXa.1
    refine sMv (v := nv _) rfl ?_
    refine sBuildS T25 S3 Z3 (by decide) (by decide) (by decide) (by kernel_rfl) fill1 rfl ?_
    obtain ⟨v18, m18, h18, hO18, hL18⟩ := spec_Insert (bx := m15.size) (k := 1) (i := p) (x := Int.ofNat i) (hOa.ext (.push _ (.cells true #[nv i]))) (gP rfl) (fun e => by have := (hOa.lt e).2; omega) (by rw [ofs_length]; omega) (by rw [ofs_length]; omega) (by simp; omega)
    rw [insL_ofs] at hO18
    obtain ⟨q18, c18, rfl⟩ := hO18.ints.lenN
    refine sCall3 rfl call98 rfl rfl rfl h18 ?_
    refine sAs (v := .slice _ _ _) rfl ?_
    refine sNil (kBlkN (kSeqN ?_))
    refine cRegion ?_
    refine sBin rfl rfl (aInt_add (b := 1) (by omega)) ?_
    refine sMv (v := nv _) rfl ?_
    refine sNil (kSeqN ?_)
    have hL4 := mk_own' hz hL18
    refine ⟨_, ?_, i + 1, _, insN L p i, rfl, by omega, by rw [insN_len (by omega), hLi], fun x hx => ?_, ?_, hO18, (hS15.low hN0 hL4 hNm).le (by omega), hXa.trans hL4.x, rfl, rfl, rfl, rfl, trivial⟩
    · omega
    · rcases List.mem_cons.1 ((insN_perm L p i).mem_iff.1 hx) with rfl | hx
      · omega
      · have := hLx x hx; omega
    · refine (insN_perm L p i).nodup_iff.2 (List.nodup_cons.2 ⟨fun hm => ?_, hLn⟩)
      have := hLx i hm; omega
  ·
    refine cExit (kSeqE (kSeqE (kBlkS (kSeqN ?_))))
    refine cSeq ?_
    refine cRegion ?_
    refine sMv (v := .slice _ _ _) rfl ?_
    refine sAs (v := .slice _ _ _) rfl ?_
    refine sNil (kSeqN ?_)
    refine cRet ?_
    obtain rfl : i = n := by omega
    exact ⟨.inr rfl, _, rfl, L, hO, hLi, hLx, hLn, hS, hX⟩

theorem okf115 : okF Tryd.prog H0 115 25 = true := by kernel_rfl
theorem spec_Len64 {m : Mem} {x : Nat} (hx : x ≤ 2) : ACalls Tryd.prog 115 #[.int .u64 (Int.ofNat x)] m (nv (lenT x)) m := by
  suffices h : ∃ v m', ACalls Tryd.prog 115 #[.int .u64 (Int.ofNat x)] m v m' ∧ (v = nv (lenT x) ∧ m' = m) by
    obtain ⟨v, m', h, rfl, rfl⟩ := h; exact h
  have hx3 : x = 0 ∨ x = 1 ∨ x = 2 := by omega
  refine wpF (args := [_]) mixed okf115 (fn := Tryd.f115) rfl rfl rfl (by simp) ?_
  refine cSeq ?_
  refine cRegion ?_
  refine sAs (v := nv 0) rfl ?_
  refine sNil (kSeqN ?_)
  refine cSeq ?_   -- seq 1
  refine cSeq ?_
  refine cRegion ?_
  refine sMv (v := .int .u64 (Int.ofNat x)) rfl ?_
  refine sBinI (v := .bool false) rfl rfl (by rcases hx3 with rfl | rfl | rfl <;> rfl) ?_
  refine sNil (kSeqN ?_)
  refine cCondF rfl ?_
  refine cSkip (kSeqN ?_)
  refine cSeq ?_   -- seq 3
  refine cSeq ?_
  refine cRegion ?_
  refine sMv (v := .int .u64 (Int.ofNat x)) rfl ?_
  refine sBinI (v := .bool false) rfl rfl (by rcases hx3 with rfl | rfl | rfl <;> rfl) ?_
  refine sNil (kSeqN ?_)
  refine cCondF rfl ?_
  refine cSkip (kSeqN ?_)
  refine cSeq ?_   -- seq 5
  refine cSeq ?_
  refine cRegion ?_
  refine sMv (v := .int .u64 (Int.ofNat x)) rfl ?_
  refine sBinI (v := .bool false) rfl rfl (by rcases hx3 with rfl | rfl | rfl <;> rfl) ?_
  refine sNil (kSeqN ?_)
  refine cCondF rfl ?_
  refine cSkip (kSeqN ?_)
  refine cSeq ?_
  refine cRegion ?_
  refine sMv (v := nv _) rfl ?_
  refine sMv (v := .int .u64 (Int.ofNat x)) rfl ?_
  refine sP (v := .int .u8 (Int.ofNat x)) (by rcases hx3 with rfl | rfl | rfl <;> kernel_rfl) ?_
  refine sP (v := .int .u8 (Int.ofNat (lenT x))) (by rcases hx3 with rfl | rfl | rfl <;> kernel_rfl) ?_
  refine sP (v := nv (lenT x)) (by rcases hx3 with rfl | rfl | rfl <;> kernel_rfl) ?_
  refine sBin (v := nv (lenT x)) (a := 0) (b := lenT x) rfl rfl (by rcases hx3 with rfl | rfl | rfl <;> kernel_rfl) ?_
  refine sAs (v := nv _) rfl ?_
  refine sNil (kSeqN ?_)
  refine cRet ?_
  exact ⟨.inr rfl, _, rfl, rfl, rfl⟩

theorem okf101 : okF Tryd.prog H0 101 8 = true := by kernel_rfl
theorem spec_Len {m : Mem} {x : Nat} (hx : x ≤ 2) : ACalls Tryd.prog 101 #[.int .u64 (Int.ofNat x)] m (nv (lenT x)) m := by
  suffices h : ∃ v m', ACalls Tryd.prog 101 #[.int .u64 (Int.ofNat x)] m v m' ∧ (v = nv (lenT x) ∧ m' = m) by
    obtain ⟨v, m', h, rfl, rfl⟩ := h; exact h
  refine wpF (args := [_]) mixed okf101 (fn := Tryd.f101) rfl rfl rfl (by simp) ?_
  refine cSeq ?_
  refine cRegion ?_
  refine sAs (v := nv 0) rfl ?_
  refine sNil (kSeqN ?_)
  refine cSeq ?_   -- seq 1
  refine cCondF rfl ?_
  refine cSkip (kSeqN ?_)
  refine cSeq ?_
  refine cRegion ?_
  refine sMv (v := .int .u64 (Int.ofNat x)) rfl ?_
  refine sCall1 rfl call115 rfl (spec_Len64 hx) ?_
  refine sAs (v := nv _) rfl ?_
  refine sNil (kSeqN ?_)
  refine cRet ?_
  exact ⟨.inr rfl, _, rfl, rfl, rfl⟩

end Go.AM

/-! ### S5 -/
namespace Go.AM
open Go.Proofs
set_option maxRecDepth 100000
set_option linter.unusedVariables false
set_option linter.unusedSimpArgs false
/-- The row b holds other numbers of the same slice; all else is as it was. -/
def Sorted2 (N : Nat) (v : Value) (L' : List Nat) (m m' : Mem) : Prop := OwnF N m' v (ofs L') ∧ m'.size = m.size ∧ ∀ b, blkOf v ≠ some b → Mem.get m' b = Mem.get m b
theorem own_set2 {N : Nat} {m : Mem} {b cap x y : Nat} {c : Array Value} (h2 : N ≤ b) (h3 : Mem.get m b = .cells true c) (h4 : 2 ≤ cap) (h5 : cap = c.size) :
    Sorted2 N (.slice (some ⟨b, 0, some 1⟩) 2 cap) [y, x] m ((m.setIfInBounds b (.cells true (c.setIfInBounds 1 (nv x)))).setIfInBounds b (.cells true ((c.setIfInBounds 1 (nv x)).setIfInBounds 0 (nv y)))) := by
  have hb := live h3
  refine ⟨.inr ⟨b, cap, (c.setIfInBounds 1 (nv x)).setIfInBounds 0 (nv y), rfl, h2, gS rfl (by rw [Array.size_setIfInBounds]; exact hb), h4, by rw [Array.size_setIfInBounds, Array.size_setIfInBounds]; exact h5, fun i z hi => ?_⟩, by simp, fun b' hb' => ?_⟩
  · match i, hi with
    | 0, hi => simp [ofs] at hi; subst hi; rw [Array.getElem?_setIfInBounds, if_pos rfl, if_pos (by rw [Array.size_setIfInBounds]; omega)]; rfl
    | 1, hi => simp [ofs] at hi; subst hi; rw [Array.getElem?_setIfInBounds, if_neg (by omega), Array.getElem?_setIfInBounds, if_pos rfl, if_pos (by omega)]; rfl
    | i + 2, hi => simp [ofs] at hi
  · have hne : b ≠ b' := fun e => hb' (by rw [← e]; rfl)
    rw [gSn hne, gSn hne]

def H105 : Nat → List (Nat × Nat) := fun id => if id = 4 then [(7,14),(12,14)] else []
theorem okf105 : okF Tryd.prog H105 105 49 = true := by kernel_rfl
theorem spec_insert2 {m : Mem} {N : Nat} {v : Value} {L : List Nat} (h : OwnF N m v (ofs L)) (hl : L.length ≤ 2) : ∃ w m', ACalls Tryd.prog 105 #[v, nv 0, nv L.length] m w m' ∧ (Sorted2 N v (sort2 L) m m') := by
  have h1L : L.length ≤ 1 → sort2 L = L := fun h => by
    match L, h with
    | [], _ => rfl
    | [a], _ => rfl
  have hrfl : L.length ≤ 1 → Sorted2 N v (sort2 L) m m := fun hh => by rw [h1L hh]; exact ⟨h, rfl, fun _ _ => rfl⟩
  obtain ⟨qv, cv, rfl⟩ := h.ints.lenN
  refine wpF (args := [_, _, _]) mixed okf105 (fn := Tryd.f105) rfl rfl rfl (by simp) ?_
  refine cSeq ?_
  refine cRegion ?_
  refine sMv (v := nv _) rfl ?_
  refine sBin (v := nv 1) rfl rfl (aInt_add (a := 0) (b := 1) (by omega)) ?_
  refine sAs (v := nv _) rfl ?_
  refine sNil (kSeqN ?_)
  refine cBlock ?_
  refine wpC_loop (fun k ρ m' => ∃ i, k = 2 - i ∧ ((i = 1 ∧ m = m') ∨ (i = 2 ∧ L.length = 2 ∧ Sorted2 N (.slice qv L.length cv) (sort2 L) m m')) ∧ Has ρ [(0, .slice qv L.length cv), (1, nv 0), (2, nv L.length), (6, nv i)]) ⟨1, rfl, .inl ⟨rfl, rfl⟩, rfl, rfl, rfl, rfl, trivial⟩ ?_
  rintro k ρ m' ⟨i, rfl, hst, hh⟩
  rw [hh.env]; clear hh
  refine cSeq ?_   -- seq 1
  refine cSeq ?_
  refine cRegion ?_
  refine sMv (v := nv _) rfl ?_
  refine sMv (v := nv _) rfl ?_
  refine sBin rfl rfl (aInt_lss) ?_
  refine sNil (kSeqN ?_)
  refine cCond rfl (fun c0 => ?_) (fun c0 => ?_)
  ·
    obtain ⟨rfl, rfl⟩ : i = 1 ∧ m = m' := by
      rcases hst with h | h
      · exact h
      · omega
    obtain ⟨x0, x1, rfl⟩ : ∃ x0 x1, L = [x0, x1] := by
      match L, (show L.length = 2 by omega) with
      | [a, b], _ => exact ⟨a, b, rfl⟩
    obtain ⟨b, cap, c, e1, h2, h3, h4, h5, h6⟩ := h.resolve_left (fun h => by cases h.1)
    obtain ⟨rfl, rfl⟩ : qv = some ⟨b, 0, some 1⟩ ∧ cv = cap := by injection e1 with a1 a2 a3; exact ⟨a1, a3⟩
    clear e1
    have g0 : c[0]? = some (nv x0) := h6 0 _ rfl
    have g1 : c[1]? = some (nv x1) := h6 1 _ rfl
    have hb := live h3
    have hcs : 2 ≤ c.size := by simp [ofs] at h4; omega
    refine cSkip (kSeqN ?_)
    refine cSeq ?_
    refine cBlock ?_
    refine cSeq ?_
    refine cRegion ?_
    refine sMv (v := nv _) rfl ?_
    refine sAs (v := nv _) rfl ?_
    refine sNil (kSeqN ?_)
    refine cBlock ?_
    refine wpC_loop (fun k ρ mm => ∃ j, k = j ∧ ((j = 1 ∧ m = mm) ∨ (j = 0 ∧ x1 < x0 ∧ (m.setIfInBounds b (.cells true (c.setIfInBounds 1 (nv x0)))).setIfInBounds b (.cells true ((c.setIfInBounds 1 (nv x0)).setIfInBounds 0 (nv x1))) = mm)) ∧ Has ρ [(0, .slice (some ⟨b, 0, some 1⟩) [x0, x1].length cv), (1, nv 0), (2, nv [x0, x1].length), (6, nv 1), (7, nv j)]) ⟨1, rfl, .inl ⟨rfl, rfl⟩, rfl, rfl, rfl, rfl, rfl, trivial⟩ ?_
    rintro k ρ mm ⟨j, rfl, hst2, hh⟩
    rw [hh.env]; clear hh
    refine cSeq ?_   -- seq 5
    refine cSeq ?_
    refine cDrawH (hs := [(7,14),(12,14)]) rfl (by decide) ?_
    refine lStepO (sMv (v := nv _) rfl (sNil fun e0 hm0 => ?_))
    refine lStepO (sMv (v := nv _) rfl (sNil fun e1 hm1 => ?_))
    refine lStepO (sBin (b := 0) rfl rfl aInt_gtr (sNil fun e2 hm2 => ?_))
    refine lStepO (sMv (v := .bool _) rfl (sNil fun e3 hm3 => ?_))
    by_cases h7 : 0 < k
    ·
      rw [decide_eq_true h7]
      obtain ⟨rfl, rfl⟩ : k = 1 ∧ m = mm := by
        rcases hst2 with h | h
        · exact h
        · omega
      refine lG rfl rfl ?_
      refine lStepO (sMv (v := .slice _ _ _) rfl (sNil fun e4 hm4 => ?_))
      refine lG rfl rfl ?_
      refine lStepO (sMv (v := nv _) rfl (sNil fun e5 hm5 => ?_))
      refine lG rfl rfl ?_
      refine lStepO (sIx T25 S3 rfl rfl (by omega) (sNil fun e6 hm6 => ?_))
      refine lG rfl rfl ?_
      refine lStepLd (v := nv x1) A3 rfl h3 g1 fun e7 hm7 hv7 hr7 => ?_
      refine lG rfl rfl ?_
      refine lStepO (sMv (v := .slice _ _ _) rfl (sNil fun e8 hm8 => ?_))
      refine lG rfl rfl ?_
      refine lStepO (sMv (v := nv _) rfl (sNil fun e9 hm9 => ?_))
      refine lG rfl rfl ?_
      refine lStepO (sBin (v := nv 0) rfl rfl (aInt_sub (a := 1) (b := 1) (by omega)) (sNil fun e10 hm10 => ?_))
      refine lG rfl rfl ?_
      refine lStepO (sIx T25 S3 rfl rfl (by omega) (sNil fun e11 hm11 => ?_))
      refine lG rfl rfl ?_
      refine lStepLd (v := nv x0) A3 rfl h3 g0 fun e12 hm12 hv12 hr12 => ?_
      refine lG rfl rfl ?_
      refine lStepO (sCall2 rfl call111 rfl rfl spec_Less (sNil fun e13 hm13 => ?_))
      refine lStepO (sP (v := .bool _) rfl (sNil fun e14 hm14 => ?_))
      refine ⟨?_, (kSeqN ?_)⟩
      ·
        refine obl_atE (e := e7) (e' := e14) (by simp) (by rfl) (by simp) ((hr7 e14.m _ _ (by rw [hm14]; exact h3) g1).trans (congrArg some hv7.symm)) ?_
        refine obl_atE (e := e12) (e' := e14) (by simp) (by rfl) (by simp) ((hr12 e14.m _ _ (by rw [hm14]; exact h3) g0).trans (congrArg some hv12.symm)) ?_
        trivial
      refine cCond (p := Int.ofNat x1 < Int.ofNat x0) rfl (fun c1 => ?_) (fun c1 => ?_)
      ·
        have hlt : x1 < x0 := by simp at c1; exact c1
        refine cSkip (kSeqN ?_)
        refine cSeq ?_
        refine cBlock ?_
        refine cDraw rfl ?_
        refine sMv (v := .slice _ _ _) rfl ?_
        refine sMv (v := nv _) rfl ?_
        refine sMv (v := .slice _ _ _) rfl ?_
        refine sMv (v := nv _) rfl ?_
        refine sBin (v := nv 0) rfl rfl (aInt_sub (a := 1) (b := 1) (by omega)) ?_
        refine sMv (v := .slice _ _ _) rfl ?_
        refine sMv (v := nv _) rfl ?_
        refine sBin (v := nv 0) rfl rfl (aInt_sub (a := 1) (b := 1) (by omega)) ?_
        refine sIx T25 S3 rfl rfl (by omega) ?_
        refine sLd (v := nv x0) A3 rfl h3 g0 ?_
        refine sMv (v := .slice _ _ _) rfl ?_
        refine sMv (v := nv _) rfl ?_
        refine sIx T25 S3 rfl rfl (by omega) ?_
        refine sLd (v := nv x1) A3 rfl h3 g1 ?_
        refine sIx T25 S3 rfl rfl (by omega) ?_
        refine sSt (v := nv x0) S3 rfl rfl h3 (by omega) rfl rfl ?_
        refine sIx T25 S3 rfl rfl (by omega) ?_
        refine sSt (v := nv x1) S3 rfl rfl (gS rfl hb) (by simp; omega) rfl rfl ?_
        refine sNil (kBlkN (kSeqN ?_))
        refine cRegion ?_
        refine sMv (v := nv _) rfl ?_
        refine sBin (v := nv 0) rfl rfl (aInt_sub (a := 1) (b := 1) (by omega)) ?_
        refine sAs (v := nv _) rfl ?_
        refine sNil (kSeqN ?_)
        exact ⟨0, by omega, 0, rfl, .inr ⟨rfl, hlt, rfl⟩, rfl, rfl, rfl, rfl, rfl, trivial⟩
      ·
        refine cExit (kSeqE (kSeqE (kBlkS (kBlkN (kSeqN ?_)))))
        refine cRegion ?_
        refine sMv (v := nv _) rfl ?_
        refine sBin rfl rfl (aInt_add (b := 1) (by omega)) ?_
        refine sAs (v := nv _) rfl ?_
        refine sNil (kSeqN ?_)
        refine ⟨0, by omega, 2, rfl, .inr ⟨rfl, rfl, ?_⟩, rfl, rfl, rfl, rfl, trivial⟩
        have hs : sort2 [x0, x1] = [x0, x1] := by unfold sort2; simp only; rw [if_neg (by simp at c1; omega)]
        rw [hs]; exact ⟨h, rfl, fun _ _ => rfl⟩
    ·
      rw [decide_eq_false h7]
      refine lGno (q' := false) rfl rfl (by simp) fun e4 hm4 hq4 => ?_
      refine lGno (q' := false) rfl rfl (by simp) fun e5 hm5 hq5 => ?_
      refine lGno (q' := false) rfl rfl (by simp) fun e6 hm6 hq6 => ?_
      refine lGno (q' := false) rfl rfl (by simp) fun e7 hm7 hq7 => ?_
      refine lGno (q' := false) rfl rfl (by simp) fun e8 hm8 hq8 => ?_
      refine lGno (q' := false) rfl rfl (by simp) fun e9 hm9 hq9 => ?_
      refine lGno (q' := false) rfl rfl (by simp) fun e10 hm10 hq10 => ?_
      refine lGno (q' := false) rfl rfl (by simp) fun e11 hm11 hq11 => ?_
      refine lGno (q' := false) rfl rfl (by simp) fun e12 hm12 hq12 => ?_
      refine lGno (q' := false) rfl rfl (by simp) fun e13 hm13 hq13 => ?_
      refine lStepO (sP (v := .bool _) rfl (sNil fun e14 hm14 => ?_))
      refine ⟨?_, (kSeqN ?_)⟩
      ·
        refine obl_no (e := e7) (by simp) (by rfl) rfl rfl hq7 (by simp) ?_
        refine obl_no (e := e12) (by simp) (by rfl) rfl rfl hq12 (by simp) ?_
        trivial
      refine cCondF rfl ?_
      refine cExit (kSeqE (kSeqE (kBlkS (kBlkN (kSeqN ?_)))))
      refine cRegion ?_
      refine sMv (v := nv _) rfl ?_
      refine sBin rfl rfl (aInt_add (b := 1) (by omega)) ?_
      refine sAs (v := nv _) rfl ?_
      refine sNil (kSeqN ?_)
      obtain ⟨rfl, hlt, rfl⟩ : k = 0 ∧ x1 < x0 ∧ _ := by
        rcases hst2 with h | h
        · omega
        · exact h
      refine ⟨0, by omega, 2, rfl, .inr ⟨rfl, rfl, ?_⟩, rfl, rfl, rfl, rfl, trivial⟩
      have hs : sort2 [x0, x1] = [x1, x0] := by unfold sort2; simp only; rw [if_pos hlt]
      rw [hs]; exact own_set2 h2 h3 (by omega) h5
  ·
    refine cExit (kSeqE (kSeqE (kBlkS ?_)))
    refine ⟨.inl rfl, _, rfl, ?_⟩
    rcases hst with ⟨rfl, rfl⟩ | ⟨rfl, h2, h3⟩
    · exact hrfl (by omega)
    · exact h3

def H100 : Nat → List (Nat × Nat) := fun id => if id = 17 then [(7,13),(11,13)] else []
theorem okf100 : okF Tryd.prog H100 100 134 = true := by kernel_rfl
theorem spec_pdq2 {m : Mem} {N l : Nat} {v : Value} {L : List Nat} (h : OwnF N m v (ofs L)) (hl : L.length ≤ 2) : ∃ w m', ACalls Tryd.prog 100 #[v, nv 0, nv L.length, nv l] m w m' ∧ (Sorted2 N v (sort2 L) m m') := by
  obtain ⟨w5, m5, h5, k5⟩ := spec_insert2 h hl
  obtain ⟨qv, cv, rfl⟩ := h.ints.lenN
  refine wpF (args := [_, _, _, _]) mixed okf100 (fn := Tryd.f100) rfl rfl rfl (by simp) ?_
  refine cSeq ?_
  refine cRegion ?_
  refine sAs (v := .bool _) rfl ?_
  refine sNil (kSeqN ?_)
  refine cSeq ?_
  refine cRegion ?_
  refine sAs (v := .bool _) rfl ?_
  refine sNil (kSeqN ?_)
  refine cBlock ?_
  refine wpC_loop (fun k ρ m' => m = m' ∧ Has ρ [(0, .slice qv L.length cv), (1, nv 0), (2, nv L.length)]) (k := 0) ⟨rfl, rfl, rfl, rfl, trivial⟩ ?_
  rintro k ρ _ ⟨rfl, hh⟩
  rw [hh.env]; clear hh
  refine cBlock ?_
  refine cSeq ?_
  refine cRegion ?_
  refine sMv (v := nv _) rfl ?_
  refine sMv (v := nv _) rfl ?_
  refine sBin (v := nv L.length) rfl rfl (aInt_sub (a := L.length) (b := 0) (by omega)) ?_
  refine sAs (v := nv _) rfl ?_
  refine sNil (kSeqN ?_)
  refine cSeq ?_   -- seq 3
  refine cSeq ?_
  refine cRegion ?_
  refine sMv (v := nv _) rfl ?_
  refine sBin (b := 12) rfl rfl aInt_leq ?_
  refine sNil (kSeqN ?_)
  refine cCondT' rfl (by omega) ?_
  refine cSeq ?_
  refine cRegion ?_
  refine sMv (v := .slice _ _ _) rfl ?_
  refine sMv (v := nv _) rfl ?_
  refine sMv (v := nv _) rfl ?_
  refine sCall3 rfl call105 rfl rfl rfl h5 ?_
  refine sNil (kSeqN ?_)
  refine cRet (kSeqR (kBlkR (kSeqR (kBlkR ?_))))
  exact ⟨.inr rfl, _, rfl, k5⟩

theorem okf85 : okF Tryd.prog H0 85 11 = true := by kernel_rfl
theorem spec_Sort2 {m : Mem} {N : Nat} {v : Value} {L : List Nat} (h : OwnF N m v (ofs L)) (hl : L.length ≤ 2) : ∃ w m', ACalls Tryd.prog 85 #[v] m w m' ∧ (Sorted2 N v (sort2 L) m m') := by
  obtain ⟨w5, m5, h5, k5⟩ := spec_pdq2 (l := lenT L.length) h hl
  obtain ⟨qv, cv, rfl⟩ := h.ints.lenN
  refine wpF (args := [_]) mixed okf85 (fn := Tryd.f85) rfl rfl rfl (by simp) ?_
  refine cSeq ?_
  refine cRegion ?_
  refine sMv (v := .slice _ _ _) rfl ?_
  refine sLen T25 rfl ?_
  refine sAs (v := nv _) rfl ?_
  refine sNil (kSeqN ?_)
  refine cRegion ?_
  refine sMv (v := .slice _ _ _) rfl ?_
  refine sMv (v := nv _) rfl ?_
  refine sMv (v := nv _) rfl ?_
  refine sP (v := .int .u64 (Int.ofNat L.length)) (conv3_104s hl) ?_
  refine sCall1 rfl call101 rfl (spec_Len hl) ?_
  refine sCall4 rfl call100 rfl rfl rfl rfl h5 ?_
  refine sNil ?_
  exact ⟨.inl rfl, _, rfl, k5⟩

end Go.AM

/-! ### P22 -/
namespace Go.AM
open Go.Proofs
set_option maxRecDepth 100000
set_option linter.unusedVariables false
set_option linter.unusedSimpArgs false
theorem El22 : ElemT Tryd.prog 22 22 1 := ⟨_, _, _, 24, T22, T22, rfl, S25, Z25, rfl, bytes25, by decide, by decide⟩
theorem fillV {q : Option Addr} {n c : Nat} : Instr.fill (fun i => some (i * 1, 1)) (if 1 * 1 = 0 then #[] else (Array.range (1 * 1)).map ((Value.slice none 0 0).cells[· % (Value.slice none 0 0).cells.size]!)) [(0, .slice q n c)] = some #[.slice q n c] := by kernel_rfl
theorem OwnR.set {N b : Nat} {m : Mem} {v : Value} {cs : Array Value} {G : List (List Int)} (h : OwnR N m v cs G) (hv : blkOf v ≠ some b) (hr : ∀ (i : Nat) (s : Value), cs[i]? = some s → blkOf s ≠ some b) (o : AObj) : OwnR N (m.setIfInBounds b o) v cs G :=
  ⟨h.1.keep fun c hc => gSn fun e => hv (by rw [e, hc]), fun i g hi => by
    obtain ⟨s, hs, ho, hb⟩ := h.2 i g hi
    exact ⟨s, hs, ho.keep fun c hc => gSn fun e => hr i s hs (by rw [e, hc]), hb⟩⟩
theorem lineM_succ {i : Nat} (h : 1 ≤ i) : lineM (i + 1) = lineM i ++ [[i - 1]] := by
  unfold lineM lineAt
  rw [List.range_succ, List.map_append, List.map_cons, List.map_nil, if_pos ⟨h, by omega⟩]
  congr 1
  refine List.map_congr_left fun j hj => ?_
  have := List.mem_range.1 hj
  by_cases h1 : 1 ≤ j
  · rw [if_pos ⟨h1, by omega⟩, if_pos ⟨h1, by omega⟩]
  · rw [if_neg (by omega), if_neg (by omega)]

theorem okf75 : okF Tryd.prog H0 75 45 = true := by kernel_rfl
theorem spec_refBennett0 : ∀ (f : Nat) {n a : Nat} {m : Mem}, 1 ≤ n → n ≤ f → f ≤ 10 → a ≤ 1000 * (11 - f) → ∃ v m', ACalls Tryd.prog 75 #[nv a, nv n] m v m' ∧ (OwnF m.size m' v (ofs (benF f a n)) ∧ Ext m m')
 | 0, _, _, _, h1, h2, _, _ => absurd (Nat.le_trans h1 h2) (by omega)
 | f + 1, n, a, m, h1, h2, h3, h4 => by
  have hbl : ∀ a' n', (benF f a' n').length ≤ 19683 := fun a' n' => Nat.le_trans (benF_len f a' n') (Nat.le_trans (Nat.pow_le_pow_right (n := 3) (by omega) (show f ≤ 9 by omega)) (by decide))
  refine wpF (args := [_, _]) mixed okf75 (fn := Tryd.f75) rfl rfl rfl (by simp) ?_
  refine cSeq ?_
  refine cRegion ?_
  refine sAs (v := .slice _ _ _) rfl ?_
  refine sNil (kSeqN ?_)
  refine cSeq ?_   -- seq 1
  refine cSeq ?_
  refine cRegion ?_
  refine sMv (v := nv _) rfl ?_
  refine sBin (b := 1) rfl rfl aInt_eql ?_
  refine sNil (kSeqN ?_)
  refine cCond rfl (fun c0 => ?_) (fun c0 => ?_)
  ·
    refine cSeq ?_
    refine cRegion ?_
    refine sMv (v := nv _) rfl ?_
    refine sBuildS T25 S3 Z3 (by decide) (by decide) (by decide) (by kernel_rfl) fill1 rfl ?_
    refine sAs (v := .slice _ _ _) rfl ?_
    refine sNil (kSeqN ?_)
    refine cRet (kSeqR ?_)
    refine ⟨.inr rfl, _, rfl, ?_, .push _ _⟩
    rw [benF, if_pos c0]
    exact .ofCells (l := [a]) (r := []) (Nat.le_refl _) (gP rfl)
  ·
    have hh1 : (n + 1) / 2 ≤ f := by omega
    have hh2 : 1 ≤ (n + 1) / 2 := by omega
    have hh3 : 1 ≤ n - (n + 1) / 2 := by omega
    have hbe : benF (f + 1) a n = benF f a ((n + 1) / 2) ++ (benF f (a + (n + 1) / 2) (n - (n + 1) / 2) ++ (benF f a ((n + 1) / 2)).reverse) := by rw [benF, if_neg c0]
    rw [hbe]
    clear hbe
    generalize hhd : (n + 1) / 2 = h at *
    have hb1 := hbl a h
    have hb2 := hbl (a + h) (n - h)
    refine cSkip (kSeqN ?_)
    refine cSeq ?_
    refine cRegion ?_
    refine sMv (v := nv _) rfl ?_
    refine sBin (b := 1) rfl rfl (aInt_add (by omega)) ?_
    refine sBin (v := nv h) (a := n + 1) (b := 2) rfl rfl (by rw [← hhd]; exact aInt_quo (by omega)) ?_
    refine sAs (v := nv _) rfl ?_
    refine sNil (kSeqN ?_)
    refine cSeq ?_
    refine cRegion ?_
    refine sMv (v := nv _) rfl ?_
    refine sMv (v := nv _) rfl ?_
    obtain ⟨v18, m18, h18, o18, k18⟩ := spec_refBennett0 f (n := h) (a := a) (m := m) hh2 hh1 (by omega) (by omega)
    have i18 := o18.ints
    obtain ⟨q18, c18, rfl⟩ := i18.lenN
    refine sCall2 rfl call75 rfl rfl h18 ?_
    refine sAs (v := .slice _ _ _) rfl ?_
    refine sNil (kSeqN ?_)
    refine cSeq ?_
    refine cRegion ?_
    refine sBuildS (c := #[]) T25 S3 Z3 (by decide) (by decide) (by decide) (by kernel_rfl) rfl rfl ?_
    refine sMv (v := .slice _ _ _) rfl ?_
    refine sApp App25 rfl rfl (N := m18.size) (p := []) (.inr ⟨m18.size, 0, #[], rfl, Nat.le_refl _, gP rfl, by simp, by simp, by simp⟩) (i18.ext (.push _ _)) (by simp) (by simp; omega) fun v21 m21 hO21 hL21 => ?_
    rw [List.nil_append] at hO21
    obtain ⟨q21, c21, rfl⟩ := hO21.ints.lenN
    have e21 : Ext m18 m21 := Low.to_ext (.push _ _) hL21 (Nat.le_refl _)
    refine sMv (v := nv _) rfl ?_
    refine sMv (v := nv _) rfl ?_
    refine sBin rfl rfl (aInt_add (by omega)) ?_
    refine sMv (v := nv _) rfl ?_
    refine sMv (v := nv _) rfl ?_
    refine sBin rfl rfl (aInt_sub (by omega)) ?_
    obtain ⟨v28, m28, h28, o28, k28⟩ := spec_refBennett0 f (n := n - h) (a := a + h) (m := m21) hh3 (by omega) (by omega) (by omega)
    have i28 := o28.ints
    obtain ⟨q28, c28, rfl⟩ := i28.lenN
    refine sCall2 rfl call75 rfl rfl h28 ?_
    refine sApp App25 rfl rfl (N := m18.size) (hO21.ext k28) i28 (by have := e21.1; have := k28.1; omega) (by simp; omega) fun v29 m29 hO29 hL29 => ?_
    rw [← ofs_append] at hO29
    obtain ⟨q29, c29, rfl⟩ := hO29.ints.lenN
    have e29 : Ext m18 m29 := Low.to_ext (e21.trans k28) hL29 (Nat.le_refl _)
    generalize hB : benF f a h = B at *
    generalize hC : benF f (a + h) (n - h) = C at *
    refine sAs (v := .slice _ _ _) rfl ?_
    refine sNil (kSeqN ?_)
    refine cSeq ?_
    refine cSeq ?_
    refine cRegion ?_
    refine sMv (v := .slice _ _ _) rfl ?_
    refine sLen T25 rfl ?_
    refine sBinI (v := .int .i64 (Int.ofNat B.length - 1)) (a := Int.ofNat B.length) (b := 1) rfl rfl (aInt_subI (by simp; omega)) ?_
    refine sAs (v := .int _ _) rfl ?_
    refine sNil (kSeqN ?_)
    refine cBlock ?_
    refine wpC_loop (fun k ρ m' => ∃ i v, k = i ∧ i ≤ B.length ∧ Low m18.size m18 m' ∧ OwnF m18.size m' v (ofs (B ++ (C ++ (B.drop i).reverse))) ∧ Has ρ [(6, .slice q18 B.length c18), (7, v), (8, .int .i64 (Int.ofNat i - 1))]) ⟨B.length, _, rfl, Nat.le_refl _, e29, by rw [List.drop_length, List.reverse_nil, List.append_nil]; exact hO29, rfl, rfl, rfl, trivial⟩ ?_
    rintro k ρ m' ⟨i, v, rfl, hi, hLo, hO, hh⟩
    obtain ⟨qv, cv, rfl⟩ := hO.ints.lenN
    rw [hh.env]; clear hh
    refine cSeq ?_   -- seq 9
    refine cSeq ?_
    refine cRegion ?_
    refine sMv (v := .int _ _) rfl ?_
    refine sBinI (b := 0) rfl rfl aInt_geqI ?_
    refine sNil (kSeqN ?_)
    refine cCond rfl (fun c1 => ?_) (fun c1 => ?_)
    ·
      obtain ⟨j, rfl⟩ : ∃ j, k = j + 1 := ⟨k - 1, by simp at c1; omega⟩
      have hj : Int.ofNat (j + 1) - 1 = Int.ofNat j := by simp
      rw [hj]
      obtain ⟨b1, o1, p1, r1, cc, e1, gg, x1⟩ := (i18.ext hLo).atN (by omega)
      cases e1
      refine cSkip (kSeqN ?_)
      refine cSeq ?_
      refine cBlock ?_
      refine cRegion ?_
      refine sMv (v := .slice _ _ _) rfl ?_
      refine sMv (v := .slice _ _ _) rfl ?_
      refine sMv (v := nv j) rfl ?_
      refine sIx T25 S3 rfl rfl (by omega) ?_
      refine sLd (v := nv B[j]) A3 rfl gg (x1 j B[j] (by simp)) ?_
      refine sBuildS T25 S3 Z3 (by decide) (by decide) (by decide) (by kernel_rfl) fill1 rfl ?_
      refine sApp App25 rfl rfl (N := m18.size) (hO.ext (.push _ _)) one_ints (by have := hLo.1; simp; omega) (by simp; omega) fun v3 m3 hO3 hL3 => ?_
      rw [show ofs (B ++ (C ++ (B.drop (j + 1)).reverse)) ++ [Int.ofNat B[j]] = ofs (B ++ (C ++ (B.drop j).reverse)) by rw [drop_cons (show j < B.length by omega), List.reverse_cons]; simp [ofs]] at hO3
      obtain ⟨q3, cp3, rfl⟩ := hO3.ints.lenN
      refine sAs (v := .slice _ _ _) rfl ?_
      refine sNil (kBlkN (kSeqN ?_))
      refine cRegion ?_
      refine sMv (v := nv j) rfl ?_
      refine sBinI (v := .int .i64 (Int.ofNat j - 1)) (a := Int.ofNat j) (b := 1) rfl rfl (aInt_subI (by simp; omega)) ?_
      refine sAs (v := .int _ _) rfl ?_
      refine sNil (kSeqN ?_)
      exact ⟨j, by omega, j, _, rfl, by omega, hLo.trans ((Low.push _ hLo.1 _).trans hL3), hO3, rfl, rfl, rfl, trivial⟩
    ·
      refine cExit (kSeqE (kSeqE (kBlkS (kSeqN ?_))))
      refine cSeq ?_
      refine cRegion ?_
      refine sMv (v := .slice _ _ _) rfl ?_
      refine sAs (v := .slice _ _ _) rfl ?_
      refine sNil (kSeqN ?_)
      refine cRet ?_
      obtain rfl : k = 0 := by simp at c1; omega
      exact ⟨.inr rfl, _, rfl, by rw [List.drop_zero] at hO; exact hO.mono k18.1, k18.trans hLo⟩

theorem okf34 : okF Tryd.prog H0 34 12 = true := by kernel_rfl
theorem spec_refBennett {m : Mem} {n : Int} : ∃ v m', ACalls Tryd.prog 34 #[.int .i64 n] m v m' ∧ (∃ w, v = .tuple #[w, nv (benE n)] ∧ OwnF m.size m' w (ofs (ifOk (benE n) (benM n.toNat) [])) ∧ Ext m m') := by
  unfold benE
  refine wpF (args := [_]) mixed okf34 (fn := Tryd.f34) rfl rfl rfl (by simp) ?_
  refine cSeq ?_
  refine cRegion ?_
  refine sAs (v := .slice _ _ _) rfl ?_
  refine sAs (v := nv 0) rfl ?_
  refine sNil (kSeqN ?_)
  refine cSeq ?_   -- seq 1
  refine cSeq ?_
  refine cRegion ?_
  refine sMv (v := .int _ _) rfl ?_
  refine sBinI (v := .bool (decide (n < 1))) rfl rfl rfl ?_
  refine sMv (v := .bool _) rfl ?_
  by_cases h1 : n < 1
  ·
    rw [decide_eq_true h1]
    refine sGno (q' := true) rfl rfl (by simp) ?_
    refine sGno (q' := true) rfl rfl (by simp) ?_
    refine sP (v := .bool _) rfl ?_
    refine sNil (kSeqN ?_)
    refine cCondT rfl ?_
    refine cSeq ?_
    refine cRegion ?_
    refine sAs (v := .slice _ _ _) rfl ?_
    refine sAs (v := nv 2) rfl ?_
    refine sNil (kSeqN ?_)
    refine cRet (kSeqR ?_)
    exact ⟨.inr rfl, _, rfl, _, by rw [if_pos (.inl h1)]; rfl, by rw [if_pos (.inl h1), ifOk_n (by decide)]; exact .nil _ _, .refl _⟩
  ·
    rw [decide_eq_false h1]
    refine sG rfl rfl ?_
    refine sMv (v := .int _ _) rfl ?_
    refine sG rfl rfl ?_
    refine sBinI (v := .bool (decide (n > 10))) rfl rfl rfl ?_
    refine sP (v := .bool _) rfl ?_
    refine sNil (kSeqN ?_)
    refine cCond (p := n > 10) rfl (fun c1 => ?_) (fun c1 => ?_)
    ·
      refine cSeq ?_
      refine cRegion ?_
      refine sAs (v := .slice _ _ _) rfl ?_
      refine sAs (v := nv 2) rfl ?_
      refine sNil (kSeqN ?_)
      refine cRet (kSeqR ?_)
      exact ⟨.inr rfl, _, rfl, _, by rw [if_pos (.inr c1)]; rfl, by rw [if_pos (.inr c1), ifOk_n (by decide)]; exact .nil _ _, .refl _⟩
    ·
      rw [if_neg (by omega), ifOk_0 rfl]
      obtain ⟨N, rfl⟩ : ∃ N : Nat, n = Int.ofNat N := ⟨n.toNat, by simp; omega⟩
      have hN1 : 1 ≤ N := by simp at h1; omega
      have hN : N ≤ 10 := by simp at c1; omega
      refine cSkip (kSeqN ?_)
      refine cSeq ?_
      refine cRegion ?_
      refine sMv (v := nv N) rfl ?_
      obtain ⟨v14, m14, h14, o14, k14⟩ := spec_refBennett0 10 (n := N) (a := 0) (m := m) hN1 hN (by omega) (by omega)
      obtain ⟨q14, c14, rfl⟩ := o14.ints.lenN
      refine sCall2 rfl call75 rfl rfl h14 ?_
      refine sAs (v := .slice _ _ _) rfl ?_
      refine sAs (v := nv 0) rfl ?_
      refine sNil (kSeqN ?_)
      refine cRet ?_
      exact ⟨.inr rfl, _, rfl, _, rfl, o14, k14⟩

theorem okf30 : okF Tryd.prog H0 30 29 = true := by kernel_rfl
theorem spec_refLine {m : Mem} {n : Int} : ∃ v m', ACalls Tryd.prog 30 #[.int .i64 n] m v m' ∧ (∃ w cs, v = .tuple #[.agg #[w], nv (benE n)] ∧ OwnR m.size m' w cs (ofs2 (ifOk (benE n) (lineM n.toNat) [])) ∧ Ext m m') := by
  unfold benE
  refine wpF (args := [_]) mixed okf30 (fn := Tryd.f30) rfl rfl rfl (by simp) ?_
  refine cSeq ?_
  refine cRegion ?_
  refine sAlloc Z24 (by kernel_rfl) ?_
  refine sAs (v := nv 0) rfl ?_
  refine sNil (kSeqN ?_)
  refine cSeq ?_   -- seq 1
  refine cSeq ?_
  refine cRegion ?_
  refine sMv (v := .int _ _) rfl ?_
  refine sBinI (v := .bool (decide (n < 1))) rfl rfl rfl ?_
  refine sMv (v := .bool _) rfl ?_
  by_cases h1 : n < 1
  ·
    rw [decide_eq_true h1]
    refine sGno (q' := true) rfl rfl (by simp) ?_
    refine sGno (q' := true) rfl rfl (by simp) ?_
    refine sP (v := .bool _) rfl ?_
    refine sNil (kSeqN ?_)
    refine cCondT rfl ?_
    refine cSeq ?_
    refine cRegion ?_
    refine sBuild B24_0 ?_
    refine sStAll S24 rfl rfl (by simp (disch := first | omega | (simp only [Array.size_push, Array.size_setIfInBounds]; done) | (simp only [Array.size_push, Array.size_setIfInBounds]; omega)) only [gP, gPn, gS, gSn]; try rfl) rfl rfl (by kernel_rfl) ?_
    refine sAs (v := nv 2) rfl ?_
    refine sNil (kSeqN ?_)
    refine cRet (kSeqR ?_)
    exact ⟨.inr rfl, _, resRs_agg2 A24 S24 rfl (gS rfl (by simp)) rfl, _, _, by rw [if_pos (.inl h1)]; rfl, by rw [if_pos (.inl h1), ifOk_n (by decide)]; exact .nil _ _, (Ext.push _ _).set (Nat.le_refl _) _⟩
  ·
    rw [decide_eq_false h1]
    refine sG rfl rfl ?_
    refine sMv (v := .int _ _) rfl ?_
    refine sG rfl rfl ?_
    refine sBinI (v := .bool (decide (n > 10))) rfl rfl rfl ?_
    refine sP (v := .bool _) rfl ?_
    refine sNil (kSeqN ?_)
    refine cCond (p := n > 10) rfl (fun c1 => ?_) (fun c1 => ?_)
    ·
      refine cSeq ?_
      refine cRegion ?_
      refine sBuild B24_0 ?_
      refine sStAll S24 rfl rfl (by simp (disch := first | omega | (simp only [Array.size_push, Array.size_setIfInBounds]; done) | (simp only [Array.size_push, Array.size_setIfInBounds]; omega)) only [gP, gPn, gS, gSn]; try rfl) rfl rfl (by kernel_rfl) ?_
      refine sAs (v := nv 2) rfl ?_
      refine sNil (kSeqN ?_)
      refine cRet (kSeqR ?_)
      exact ⟨.inr rfl, _, resRs_agg2 A24 S24 rfl (gS rfl (by simp)) rfl, _, _, by rw [if_pos (.inr c1)]; rfl, by rw [if_pos (.inr c1), ifOk_n (by decide)]; exact .nil _ _, (Ext.push _ _).set (Nat.le_refl _) _⟩
    ·
      rw [if_neg (by omega), ifOk_0 rfl]
      obtain ⟨N, rfl⟩ : ∃ N : Nat, n = Int.ofNat N := ⟨n.toNat, by simp; omega⟩
      have hN1 : 1 ≤ N := by simp at h1; omega
      have hN : N ≤ 10 := by simp at c1; omega
      refine cSkip (kSeqN ?_)
      refine cSeq ?_
      refine cRegion ?_
      refine sBuildS (c := #[.slice none 0 0]) T22 S25 Z25 (by decide) (by decide) (by decide) (by kernel_rfl) (by kernel_rfl) rfl ?_
      refine sBuild B24_1 ?_
      refine sAllocB (bl := m.size + 2) (by simp) Z24 (by kernel_rfl) ?_
      refine sStNAB (by simp) S24 rfl rfl rfl rfl (by kernel_rfl) ?_
      refine sNil (kSeqN ?_)
      refine cSeq ?_
      refine cSeq ?_
      refine cRegion ?_
      refine sAs (v := nv 1) rfl ?_
      refine sNil (kSeqN ?_)
      refine cBlock ?_
      refine wpC_loop (fun k ρ m' => ∃ i v cs, k = N - i ∧ 1 ≤ i ∧ i ≤ N ∧ Low (m.size + 1) (m.push (.cells true #[.slice none 0 0])) m' ∧ m.size + 3 ≤ m'.size ∧ Mem.get m' (m.size + 2) = .cells true #[v] ∧ OwnR (m.size + 1) m' v cs (ofs2 (lineM i)) ∧ blkOf v ≠ some (m.size + 2) ∧ (∀ (j : Nat) (s : Value), cs[j]? = some s → blkOf s ≠ some (m.size + 2)) ∧ Has ρ [(0, nv N), (2, .pointer (some ⟨m.size, 0, none⟩)), (4, .pointer (some ⟨m.size + 2, 0, none⟩)), (5, nv i)]) ⟨1, .slice (some ⟨m.size + 1, 0, some 1⟩) 1 1, #[.slice none 0 0], rfl, Nat.le_refl _, hN1, ?_, by simp, ?_, ?_, ?_, ?_, rfl, ?_, ?_, rfl, trivial⟩ ?_
      · exact (Low.push _ (by simp) _).trans (.push _ (by simp) _)
      · rw [gP (by simp)]; simp
      · refine ⟨.inr ⟨m.size + 1, 1, #[.slice none 0 0], rfl, Nat.le_refl _, by rw [gPn (by simp), gP (by simp)], Nat.le_refl _, rfl, rfl, fun j _ => rfl⟩, fun j g hj => ?_⟩
        match j, hj with
        | 0, hj => cases hj; exact ⟨_, rfl, .nil _ _, fun b hb => by cases hb⟩
        | j + 1, hj => simp [lineM, lineAt, ofs2] at hj
      · intro e; have := Option.some.inj e; simp at this
      · intro j s hs
        match j, hs with
        | 0, hs => cases hs; intro e; cases e
        | j + 1, hs => simp at hs
      · rfl
      · rfl
      rintro k ρ m' ⟨i, v, cs, rfl, hi1, hi, hLo, hz, g2, hO, hv, hr, hh⟩
      obtain ⟨qv, cv, rfl⟩ := hO.1.len
      rw [hh.env]; clear hh
      refine cSeq ?_   -- seq 8
      refine cSeq ?_
      refine cRegion ?_
      refine sMv (v := nv _) rfl ?_
      refine sMv (v := nv N) rfl ?_
      refine sBin rfl rfl (aInt_lss) ?_
      refine sNil (kSeqN ?_)
      refine cCond rfl (fun c2 => ?_) (fun c2 => ?_)
      ·
        have hln : (ofs2 (lineM i)).length = i := by rw [ofs2_length]; simp [lineM]
        refine cSkip (kSeqN ?_)
        refine cSeq ?_
        refine cBlock ?_
        refine cRegion ?_
        refine sFA F24_0 rfl ?_
        refine sLd (v := .slice _ _ _) A22 rfl (by simp (disch := first | omega | (simp only [Array.size_push, Array.size_setIfInBounds]; done) | (simp only [Array.size_push, Array.size_setIfInBounds]; omega)) only [gP, gPn, gS, gSn, g2]; try rfl) rfl ?_
        refine sMv (v := nv _) rfl ?_
        refine sBin (v := nv (i - 1)) rfl rfl (aInt_sub (b := 1) (by omega)) ?_
        refine sBuildS T25 S3 Z3 (by decide) (by decide) (by decide) (by kernel_rfl) fill1 rfl ?_
        refine sBuildS T22 S25 Z25 (by decide) (by decide) (by decide) (by kernel_rfl) fillV rfl ?_
        refine sAppC El22 rfl rfl (N := m.size + 1) (n := (ofs2 (lineM i)).length) (cs := cs) (d := #[.slice (some ⟨m'.size, 0, some 1⟩) 1 1]) ((hO.ext (.push _ _)).ext (.push _ _)).1 (gP rfl) rfl (by kernel_rfl) (by simp; omega) (by omega) fun v' m4 hO4 hL4 hG4 => ?_
        have hrow : OwnF (m.size + 1) ((m'.push (.cells true #[nv (i - 1)])).push (.cells true #[.slice (some ⟨m'.size, 0, some 1⟩) 1 1])) (.slice (some ⟨m'.size, 0, some 1⟩) 1 1) (ofs [i - 1]) :=
          OwnF.ofCells (l := [i - 1]) (r := []) (by omega) (by rw [gPn (by simp), gP rfl]; rfl)
        have hgr := ((hO.ext (.push _ _)).ext (.push _ _)).grew hrow (fun b hb e => by
          have h2 := (hO.1.lt e).2
          have h3 : m'.size = b := Option.some.inj hb
          omega) hG4 hO4
        have g24 : Mem.get m4 (m.size + 2) = .cells true #[.slice qv (ofs2 (lineM i)).length cv] := by rw [hG4.2.1 _ (by simp; omega) hv, gPn (by simp; omega), gPn (by omega), g2]
        obtain ⟨q4, cp4, rfl⟩ := hO4.len
        refine sFA F24_0 rfl ?_
        refine sSt (v := .slice _ _ _) S22 rfl rfl g24 (by simp) rfl rfl ?_
        refine sNil (kBlkN (kSeqN ?_))
        refine cRegion ?_
        refine sMv (v := nv _) rfl ?_
        refine sBin rfl rfl (aInt_add (b := 1) (by omega)) ?_
        refine sAs (v := nv _) rfl ?_
        refine sNil (kSeqN ?_)
        have hr' : ∀ (j : Nat) (s : Value), (cs ++ #[.slice (some ⟨m'.size, 0, some 1⟩) 1 1])[j]? = some s → blkOf s ≠ some (m.size + 2) := fun j s hs => by
          by_cases hj : j < cs.size
          · rw [Array.getElem?_append_left hj] at hs; exact hr j s hs
          · rw [Array.getElem?_append_right (by omega)] at hs
            match hd : j - cs.size, hs with
            | 0, hs =>
              obtain rfl := Option.some.inj hs
              intro e; have := Option.some.inj e; simp at this; omega
            | d + 1, hs => simp at hs
        have hv' := hG4.off hv (by simp; omega)
        refine ⟨_, ?_, i + 1, .slice q4 ((ofs2 (lineM i)).length + 1) cp4, cs ++ #[.slice (some ⟨m'.size, 0, some 1⟩) 1 1], rfl, by omega, by omega, hLo.trans ((Low.push _ (by omega) _).trans ((Low.push _ (by simp; omega) _).trans (hL4.trans (.set (by omega) _)))), ?_, by rw [gS rfl (live g24)]; rfl, ?_, hv', hr', rfl, rfl, rfl, rfl, trivial⟩
        · omega
        · have := hG4.1; simp only [Array.size_push] at this; simp only [Array.size_setIfInBounds]; omega
        · have := hgr.set hv' hr' (.cells true #[.slice q4 ((ofs2 (lineM i)).length + 1) cp4])
          rw [lineM_succ hi1, show ofs2 (lineM i ++ [[i - 1]]) = ofs2 (lineM i) ++ [ofs [i - 1]] by simp [ofs2]]
          exact this
      ·
        obtain rfl : i = N := by omega
        have g0 := hLo.cells (show m.size < m.size + 1 by omega) (gP rfl)
        refine cExit (kSeqE (kSeqE (kBlkS (kSeqN ?_))))
        refine cSeq ?_
        refine cRegion ?_
        refine sLdAll A24 S24 rfl (by simp (disch := first | omega | (simp only [Array.size_push, Array.size_setIfInBounds]; done) | (simp only [Array.size_push, Array.size_setIfInBounds]; omega)) only [gP, gPn, gS, gSn, g2, g0]; try rfl) rfl ?_
        refine sStAll S24 rfl rfl (by simp (disch := first | omega | (simp only [Array.size_push, Array.size_setIfInBounds]; done) | (simp only [Array.size_push, Array.size_setIfInBounds]; omega)) only [gP, gPn, gS, gSn, g2, g0]; try rfl) rfl rfl (by kernel_rfl) ?_
        refine sAs (v := nv 0) rfl ?_
        refine sNil (kSeqN ?_)
        refine cRet ?_
        refine ⟨.inr rfl, _, resRs_agg2 A24 S24 rfl (gS rfl (live g0)) rfl, _, cs, rfl, (hO.only (.set m.size _ _) (by omega)).mono (by omega), Low.to_ext ((Ext.push _ _)) (hLo.le (Nat.le_succ _) |>.trans (.set (Nat.le_refl _) _)) (Nat.le_refl _)⟩

end Go.AM

/-! ### P23 -/
namespace Go.AM
open Go.Proofs
set_option maxRecDepth 100000
set_option linter.unusedVariables false
set_option linter.unusedSimpArgs false
theorem treeAt_get {W j : Nat} (hj : j < 2 * W - 1) : (treeAt W (W - 1))[j]? = some (if W ≤ j then [2 * (j - W), 2 * (j - W) + 1] else []) := by
  simp only [treeAt, List.getElem?_map, List.getElem?_range hj, Option.map_some]
  congr 1
  by_cases h : W ≤ j
  · rw [if_pos h, if_pos (by omega)]
  · rw [if_neg h, if_neg (by omega)]
def treeTo (W c : Nat) : List (List Nat) := (treeAt W (W - 1)).take c
theorem treeTo_len {W c : Nat} (h : c ≤ 2 * W - 1) : (treeTo W c).length = c := by
  rw [treeTo, List.length_take, treeAt_length]; omega
theorem treeTo_succ {W c : Nat} (h : c < 2 * W - 1) : treeTo W (c + 1) = treeTo W c ++ [if W ≤ c then [2 * (c - W), 2 * (c - W) + 1] else []] := by
  have hl : c < (treeAt W (W - 1)).length := by rw [treeAt_length]; exact h
  rw [treeTo, List.take_succ_eq_append_getElem hl, treeTo]
  have := treeAt_get h
  rw [List.getElem?_eq_getElem hl] at this
  rw [Option.some.inj this]
theorem treeTo_all (W : Nat) : treeTo W (2 * W - 1) = treeAt W (W - 1) := by
  rw [treeTo, List.take_of_length_le (by rw [treeAt_length]; exact Nat.le_refl _)]

structure TreeI (m : Mem) (W c : Nat) (v : Value) (cs : Array Value) (m' : Mem) : Prop where
  low : Low (m.size + 1) (m.push (.cells true #[.slice none 0 0])) m'
  sz : m.size + 2 ≤ m'.size
  g : Mem.get m' (m.size + 1) = .cells true #[v]
  own : OwnR (m.size + 1) m' v cs (ofs2 (treeTo W c))
  off : blkOf v ≠ some (m.size + 1)
  offs : ∀ (j : Nat) (s : Value), cs[j]? = some s → blkOf s ≠ some (m.size + 1)
theorem TreeI.ext {m : Mem} {W c : Nat} {v : Value} {cs : Array Value} {m' m'' : Mem} (h : TreeI m W c v cs m') (he : Ext m' m'') : TreeI m W c v cs m'' :=
  ⟨h.low.trans_ext he (by have := h.sz; omega), by have := h.sz; have := he.1; omega, he.cells h.g, h.own.ext he, h.off, h.offs⟩
theorem TreeI.add {m : Mem} {W c : Nat} {v v' s : Value} {cs : Array Value} {m' M4 : Mem} {row : List Nat} (h : TreeI m W c v cs m') (hs : OwnF (m.size + 2) m' s (ofs row)) (hap : ∀ b, blkOf s = some b → blkOf v ≠ some b) (hrow : treeTo W (c + 1) = treeTo W c ++ [row])
    (hO : OwnC (m.size + 1) M4 v' 1 ((ofs2 (treeTo W c)).length + 1) (cs ++ #[s])) (hL : Low (m.size + 1) (m'.push (.cells true #[s])) M4) (hG : Grew (m'.push (.cells true #[s])) v M4 v') :
    Mem.get M4 (m.size + 1) = .cells true #[v] ∧ TreeI m W (c + 1) v' (cs ++ #[s]) (M4.setIfInBounds (m.size + 1) (.cells true #[v'])) := by
  have hsz := h.sz
  have hM4 := hG.1
  simp only [Array.size_push] at hM4
  have g4 : Mem.get M4 (m.size + 1) = .cells true #[v] := by rw [hG.2.1 _ (by simp; omega) h.off, gPn (by omega), h.g]
  have hgr := (h.own.ext (.push _ (.cells true #[s]))).grew ((hs.mono (Nat.le_succ _)).ext (.push _ _)) hap hG hO
  have hv' := hG.off h.off (by simp; omega)
  have hr' : ∀ (j : Nat) (u : Value), (cs ++ #[s])[j]? = some u → blkOf u ≠ some (m.size + 1) := fun j u hu => by
    by_cases hj : j < cs.size
    · rw [Array.getElem?_append_left hj] at hu; exact h.offs j u hu
    · rw [Array.getElem?_append_right (by omega)] at hu
      match hd : j - cs.size, hu with
      | 0, hu =>
        obtain rfl : s = u := Option.some.inj hu
        intro e; have := (hs.lt e).1; omega
      | d + 1, hu => simp at hu
  refine ⟨g4, ⟨?_, by simp; omega, gS rfl (live g4), ?_, hv', hr'⟩⟩
  · exact h.low.trans ((Low.push _ (by omega) _).trans (hL.trans (.set (Nat.le_refl _) _)))
  · rw [hrow, show ofs2 (treeTo W c ++ [row]) = ofs2 (treeTo W c) ++ [ofs row] by simp [ofs2]]
    exact hgr.set hv' hr' _

theorem okf32 : okF Tryd.prog H0 32 53 = true := by kernel_rfl
theorem spec_refTree {m : Mem} {n : Int} : ∃ v m', ACalls Tryd.prog 32 #[.int .i64 n] m v m' ∧ (∃ w cs, v = .tuple #[.agg #[w], nv (treeE n)] ∧ OwnR m.size m' w cs (ofs2 (ifOk (treeE n) (treeM n.toNat) [])) ∧ Ext m m') := by
  unfold treeE
  refine wpF (args := [_]) mixed okf32 (fn := Tryd.f32) rfl rfl rfl (by simp) ?_
  refine cSeq ?_
  refine cRegion ?_
  refine sAlloc Z24 (by kernel_rfl) ?_
  refine sAs (v := nv 0) rfl ?_
  refine sNil (kSeqN ?_)
  refine cSeq ?_   -- seq 1
  refine cSeq ?_
  refine cRegion ?_
  refine sMv (v := .int _ _) rfl ?_
  refine sBinI (v := .bool (decide (n < 1))) rfl rfl rfl ?_
  refine sMv (v := .bool _) rfl ?_
  by_cases h1 : n < 1
  ·
    rw [decide_eq_true h1]
    refine sGno (q' := true) rfl rfl (by simp) ?_
    refine sGno (q' := true) rfl rfl (by simp) ?_
    refine sP (v := .bool _) rfl ?_
    refine sNil (kSeqN ?_)
    refine cCondT rfl ?_
    refine cSeq ?_
    refine cRegion ?_
    refine sBuild B24_0 ?_
    refine sStAll S24 rfl rfl (by simp (disch := first | omega | (simp only [Array.size_push, Array.size_setIfInBounds]; done) | (simp only [Array.size_push, Array.size_setIfInBounds]; omega)) only [gP, gPn, gS, gSn]; try rfl) rfl rfl (by kernel_rfl) ?_
    refine sAs (v := nv 2) rfl ?_
    refine sNil (kSeqN ?_)
    refine cRet (kSeqR ?_)
    exact ⟨.inr rfl, _, resRs_agg2 A24 S24 rfl (gS rfl (by simp)) rfl, _, _, by rw [if_pos (.inl h1)]; rfl, by rw [if_pos (.inl h1), ifOk_n (by decide)]; exact .nil _ _, (Ext.push _ _).set (Nat.le_refl _) _⟩
  ·
    rw [decide_eq_false h1]
    refine sG rfl rfl ?_
    refine sMv (v := .int _ _) rfl ?_
    refine sG rfl rfl ?_
    refine sBinI (v := .bool (decide (n > 3))) rfl rfl rfl ?_
    refine sP (v := .bool _) rfl ?_
    refine sNil (kSeqN ?_)
    refine cCond (p := n > 3) rfl (fun c1 => ?_) (fun c1 => ?_)
    ·
      refine cSeq ?_
      refine cRegion ?_
      refine sBuild B24_0 ?_
      refine sStAll S24 rfl rfl (by simp (disch := first | omega | (simp only [Array.size_push, Array.size_setIfInBounds]; done) | (simp only [Array.size_push, Array.size_setIfInBounds]; omega)) only [gP, gPn, gS, gSn]; try rfl) rfl rfl (by kernel_rfl) ?_
      refine sAs (v := nv 2) rfl ?_
      refine sNil (kSeqN ?_)
      refine cRet (kSeqR ?_)
      exact ⟨.inr rfl, _, resRs_agg2 A24 S24 rfl (gS rfl (by simp)) rfl, _, _, by rw [if_pos (.inr c1)]; rfl, by rw [if_pos (.inr c1), ifOk_n (by decide)]; exact .nil _ _, (Ext.push _ _).set (Nat.le_refl _) _⟩
    ·
      rw [if_neg (by omega), ifOk_0 rfl]
      obtain ⟨N, rfl⟩ : ∃ N : Nat, n = Int.ofNat N := ⟨n.toNat, by simp; omega⟩
      have hN1 : 1 ≤ N := by simp at h1; omega
      have hN : N ≤ 3 := by simp at c1; omega
      have hp := Nat.pow_le_pow_right (n := 2) (by omega) (show N - 1 ≤ 2 by omega)
      have hp1 := Nat.two_pow_pos (N - 1)
      have htr : treeM (Int.ofNat N).toNat = treeTo (2 ^ (N - 1)) (2 * 2 ^ (N - 1) - 1) := (treeTo_all _).symm
      rw [htr]
      refine cSkip (kSeqN ?_)
      refine cSeq ?_
      refine cRegion ?_
      refine sAllocB (bl := m.size + 1) (by simp) Z24 (by kernel_rfl) ?_
      refine sNil (kSeqN ?_)
      refine cSeq ?_
      refine cSeq ?_
      refine cRegion ?_
      refine sMv (v := nv N) rfl ?_
      refine sBin (v := nv (N - 1)) rfl rfl (aInt_sub (b := 1) (by omega)) ?_
      refine sBin rfl rfl (aInt_shl (a := 1) (b := N - 1) (by omega)) ?_
      rw [Nat.shiftLeft_eq, Nat.one_mul]
      have hWx : 2 ^ (N - 1) = 1 ∨ 2 ^ (N - 1) = 2 ∨ 2 ^ (N - 1) = 4 := by
        have : N = 1 ∨ N = 2 ∨ N = 3 := by omega
        rcases this with rfl | rfl | rfl
        · exact .inl rfl
        · exact .inr (.inl rfl)
        · exact .inr (.inr rfl)
      generalize hMM : 2 ^ (N - 1) = W at *
      refine sAs (v := nv W) rfl ?_
      refine sNil (kSeqN ?_)
      refine cBlock ?_
      refine wpC_loop (fun k ρ m' => ∃ wd c v cs, k = wd ∧ ((wd = 0 ∧ c = 2 * W - 1) ∨ ((wd = 1 ∨ wd = 2 ∨ wd = 4) ∧ wd ≤ W ∧ c = 2 * W - 2 * wd)) ∧ TreeI m W c v cs m' ∧ Has ρ [(2, .pointer (some ⟨m.size, 0, none⟩)), (4, .pointer (some ⟨m.size + 1, 0, none⟩)), (5, nv wd)]) ⟨W, 0, .slice none 0 0, #[], rfl, .inr ⟨hWx, Nat.le_refl _, by omega⟩, ⟨.push _ (by simp) _, by simp, gP (by simp), .nil _ _, by simp [blkOf], by simp⟩, rfl, rfl, rfl, trivial⟩ ?_
      rintro k ρ m' ⟨wd, c, v, cs, rfl, hwd, hT, hh⟩
      obtain ⟨qv, cv, rfl⟩ := hT.own.1.len
      rw [hh.env]; clear hh
      have hg := hT.g
      refine cSeq ?_   -- seq 8
      refine cSeq ?_
      refine cRegion ?_
      refine sMv (v := nv _) rfl ?_
      refine sBin rfl rfl (aInt_gtr (b := 0)) ?_
      refine sNil (kSeqN ?_)
      refine cCond rfl (fun c2 => ?_) (fun c2 => ?_)
      ·
        have hwd' := hwd.resolve_left (fun h => by omega)
        have hc : c ≤ 2 * W - 1 := by omega
        have hlen : (ofs2 (treeTo W c)).length = c := by rw [ofs2_length, treeTo_len hc]
        refine cSkip (kSeqN ?_)
        refine cSeq ?_
        refine cBlock ?_
        refine cSeq ?_
        refine cRegion ?_
        refine sFA F24_0 rfl ?_
        refine sLd (v := .slice _ _ _) A22 rfl (by simp (disch := first | omega | (simp only [Array.size_push, Array.size_setIfInBounds]; done) | (simp only [Array.size_push, Array.size_setIfInBounds]; omega)) only [gP, gPn, gS, gSn, hg]; try rfl) rfl ?_
        refine sLen T22 rfl ?_
        rw [hlen]
        refine sMv (v := nv _) rfl ?_
        refine sBin (a := 2) (b := k) rfl rfl (aInt_mul (by omega)) ?_
        refine sBinI (v := .int .i64 (Int.ofNat c - Int.ofNat (2 * k))) (a := Int.ofNat c) (b := Int.ofNat (2 * k)) rfl rfl (aInt_subI (by simp; omega)) ?_
        refine sAs (v := .int _ _) rfl ?_
        refine sNil (kSeqN ?_)
        refine cSeq ?_
        refine cRegion ?_
        refine sAs (v := nv 0) rfl ?_
        refine sNil (kSeqN ?_)
        refine cBlock ?_
        refine wpC_loop (fun k2 ρ m' => ∃ i v cs, k2 = k - i ∧ i ≤ k ∧ TreeI m W (c + i) v cs m' ∧ Has ρ [(2, .pointer (some ⟨m.size, 0, none⟩)), (4, .pointer (some ⟨m.size + 1, 0, none⟩)), (5, nv k), (6, .int .i64 (Int.ofNat c - Int.ofNat (2 * k))), (7, nv i)]) ⟨0, _, cs, rfl, Nat.zero_le _, hT, rfl, rfl, rfl, rfl, rfl, trivial⟩ ?_
        clear hT hg
        rintro k2 ρ m' ⟨i, v, cs, rfl, hi, hT, hh⟩
        obtain ⟨qv, cv, rfl⟩ := hT.own.1.len
        rw [hh.env]; clear hh
        have hg := hT.g
        refine cSeq ?_   -- seq 13
        refine cSeq ?_
        refine cRegion ?_
        refine sMv (v := nv _) rfl ?_
        refine sMv (v := nv _) rfl ?_
        refine sBin rfl rfl (aInt_lss) ?_
        refine sNil (kSeqN ?_)
        refine cCond rfl (fun c3 => ?_) (fun c3 => ?_)
        ·
          have hci : c + i < 2 * W - 1 := by omega
          have hsucc := treeTo_succ hci
          have hlen2 : (ofs2 (treeTo W (c + i))).length = c + i := by rw [ofs2_length, treeTo_len (by omega)]
          have hsz := hT.sz
          refine cSkip (kSeqN ?_)
          refine cSeq ?_
          refine cBlock ?_
          refine cSeq ?_
          refine cRegion ?_
          refine sAs (v := .slice _ _ _) rfl ?_
          refine sNil (kSeqN ?_)
          refine cCut (fun ρ m2 => ∃ q n cc row, TreeI m W (c + i) (.slice qv (ofs2 (treeTo W (c + i))).length cv) cs m2 ∧ treeTo W (c + i + 1) = treeTo W (c + i) ++ [row] ∧ OwnF (m.size + 2) m2 (.slice q n cc) (ofs row) ∧ (∀ b, blkOf (.slice q n cc) = some b → m'.size ≤ b) ∧ Ext m' m2 ∧ Has ρ [(2, .pointer (some ⟨m.size, 0, none⟩)), (4, .pointer (some ⟨m.size + 1, 0, none⟩)), (5, nv k), (6, .int .i64 (Int.ofNat c - Int.ofNat (2 * k))), (7, nv i), (8, .slice q n cc)]) ?_ ?_
          ·
            refine cSeq ?_
            refine cRegion ?_
            refine sMv (v := .int _ _) rfl ?_
            refine sBinI (b := 0) rfl rfl aInt_geqI ?_
            refine sNil (kSeqN ?_)
            refine cCond (p := 0 ≤ Int.ofNat c - Int.ofNat (2 * k)) rfl (fun c4 => ?_) (fun c4 => ?_)
            ·
              obtain ⟨d, hd⟩ : ∃ d : Nat, Int.ofNat c - Int.ofNat (2 * k) = Int.ofNat d := ⟨c - 2 * k, by simp at c4 ⊢; omega⟩
              have hdc : d + 2 * k = c := by simp at hd; omega
              rw [hd]
              have hrow : (if W ≤ c + i then [2 * (c + i - W), 2 * (c + i - W) + 1] else []) = [d + 2 * i, d + 2 * i + 1] := by
                rw [if_pos (by omega), show 2 * (c + i - W) = d + 2 * i by omega]
              rw [hrow] at hsucc
              refine cRegion ?_
              refine sMv (v := nv d) rfl ?_
              refine sMv (v := nv _) rfl ?_
              refine sBin (a := 2) (b := i) rfl rfl (aInt_mul (by omega)) ?_
              refine sBin rfl rfl (aInt_add (by omega)) ?_
              refine sMv (v := nv d) rfl ?_
              refine sMv (v := nv _) rfl ?_
              refine sBin (a := 2) (b := i) rfl rfl (aInt_mul (by omega)) ?_
              refine sBin rfl rfl (aInt_add (by omega)) ?_
              refine sBin rfl rfl (aInt_add (b := 1) (by omega)) ?_
              refine sBuildS T25 S3 Z3 (by decide) (by decide) (by decide) (by kernel_rfl) fill2n rfl ?_
              have hT' := hT.ext (.push _ (.cells true #[nv (d + 2 * i), nv (d + 2 * i + 1)]))
              have hrowO : OwnF (m.size + 2) (m'.push (.cells true #[nv (d + 2 * i), nv (d + 2 * i + 1)])) (.slice (some ⟨m'.size, 0, some 1⟩) 2 2) (ofs [d + 2 * i, d + 2 * i + 1]) := OwnF.ofCells (l := [d + 2 * i, d + 2 * i + 1]) (r := []) hsz (gP rfl)
              refine sAs (v := .slice _ _ _) rfl ?_
              refine sNil (kSeqN ?_)
              rw [← hd]
              exact ⟨_, _, _, _, hT', hsucc, hrowO, fun b hb => by
                have h3 : m'.size = b := Option.some.inj hb
                omega, .push _ _, rfl, rfl, rfl, rfl, rfl, rfl, trivial⟩
            ·
              have hrow : (if W ≤ c + i then [2 * (c + i - W), 2 * (c + i - W) + 1] else []) = [] := by
                simp at c4
                rw [if_neg (by omega)]
              rw [hrow] at hsucc
              refine cSkip (kSeqN ?_)
              exact ⟨_, _, _, _, hT, hsucc, .nil _ _, fun b hb => by (cases hb), .refl _, rfl, rfl, rfl, rfl, rfl, rfl, trivial⟩
          rintro ρ m2 ⟨q, n, cc, row, hT', hsucc', hrowO, hfresh, hx2, hh⟩
          rw [hh.env]; clear hh
          have hg' := hT'.g
          refine cRegion ?_
          refine sFA F24_0 rfl ?_
          refine sLd A22 rfl (by simp (disch := first | omega | (simp only [Array.size_push, Array.size_setIfInBounds]; done) | (simp only [Array.size_push, Array.size_setIfInBounds]; omega)) only [gP, gPn, gS, gSn, hg']; try rfl) rfl ?_
          refine sMv (v := .slice _ _ _) rfl ?_
          refine sBuildS T22 S25 Z25 (by decide) (by decide) (by decide) (by kernel_rfl) fillV rfl ?_
          refine sAppC El22 rfl rfl (N := m.size + 1) (n := (ofs2 (treeTo W (c + i))).length) (cs := cs) (d := #[.slice q n cc]) (hT'.own.ext (.push _ _)).1 (gP rfl) rfl (by kernel_rfl) (by have := hT'.sz; simp; omega) (by omega) fun v' m4 hO4 hL4 hG4 => ?_
          obtain ⟨g4, hT4⟩ := hT'.add hrowO (fun b hb e => by have := hfresh b hb; have := (hT.own.1.lt e).2; omega) hsucc' hO4 hL4 hG4
          obtain ⟨q4, cp4, rfl⟩ := hO4.len
          refine sFA F24_0 rfl ?_
          refine sSt (v := .slice _ _ _) S22 rfl rfl g4 (by simp) rfl rfl ?_
          refine sNil (kBlkN (kSeqN ?_))
          refine cRegion ?_
          refine sMv (v := nv _) rfl ?_
          refine sBin rfl rfl (aInt_add (b := 1) (by omega)) ?_
          refine sAs (v := nv _) rfl ?_
          refine sNil (kSeqN ?_)
          refine ⟨_, ?_, i + 1, _, _, rfl, by omega, hT4, rfl, rfl, rfl, rfl, rfl, trivial⟩
          omega
        ·
          obtain rfl : i = k := by omega
          refine cExit (kSeqE (kSeqE (kBlkS (kBlkN (kSeqN ?_)))))
          refine cRegion ?_
          refine sMv (v := nv _) rfl ?_
          refine sBin (a := i) (b := 2) rfl rfl (aInt_quo (b := 2) (by omega)) ?_
          refine sAs (v := nv _) rfl ?_
          refine sNil (kSeqN ?_)
          refine ⟨i / 2, by omega, i / 2, c + i, _, cs, rfl, ?_, hT, rfl, rfl, rfl, trivial⟩
          rcases hwd'.1 with h | h | h
          · exact .inl ⟨by omega, by omega⟩
          · exact .inr ⟨by omega, by omega, by omega⟩
          · exact .inr ⟨by omega, by omega, by omega⟩
      ·
        have h0 : k = 0 := by omega
        have hc : c = 2 * W - 1 := by omega
        subst hc
        have g0 := hT.low.cells (show m.size < m.size + 1 by omega) (gP rfl)
        refine cExit (kSeqE (kSeqE (kBlkS (kSeqN ?_))))
        refine cSeq ?_
        refine cRegion ?_
        refine sLdAll A24 S24 rfl (by simp (disch := first | omega | (simp only [Array.size_push, Array.size_setIfInBounds]; done) | (simp only [Array.size_push, Array.size_setIfInBounds]; omega)) only [gP, gPn, gS, gSn, hg, g0]; try rfl) rfl ?_
        refine sStAll S24 rfl rfl (by simp (disch := first | omega | (simp only [Array.size_push, Array.size_setIfInBounds]; done) | (simp only [Array.size_push, Array.size_setIfInBounds]; omega)) only [gP, gPn, gS, gSn, hg, g0]; try rfl) rfl rfl (by kernel_rfl) ?_
        refine sAs (v := nv 0) rfl ?_
        refine sNil (kSeqN ?_)
        refine cRet ?_
        exact ⟨.inr rfl, _, resRs_agg2 A24 S24 rfl (gS rfl (live g0)) rfl, _, cs, rfl, (hT.own.only (.set m.size _ _) (by omega)).mono (by omega), Low.to_ext ((Ext.push _ _)) (hT.low.le (Nat.le_succ _) |>.trans (.set (Nat.le_refl _) _)) (Nat.le_refl _)⟩

end Go.AM

/-! ### M29 -/
namespace Go.AM
set_option linter.unusedVariables false
set_option linter.unusedSimpArgs false
theorem stepE_keep {d y x d' : Nat} {es : List (Nat × Nat)} (h : lookE es x = some d') : lookE (stepE d y es) x = some d' := by
  unfold stepE; split
  · rw [lookE_append, h]; rfl
  · exact h
theorem stepE_has (d y : Nat) (es : List (Nat × Nat)) : ∃ d', lookE (stepE d y es) y = some d' ∧ (d' = d ∨ (y, d') ∈ es) := by
  unfold stepE; split
  · rename_i h
    exact ⟨d, by rw [lookE_append, h, lookE_cons, if_pos rfl]; rfl, .inl rfl⟩
  · rename_i h
    match h1 : lookE es y with
    | none => exact absurd h1 h
    | some d' => exact ⟨d', rfl, .inr (lookE_mem h1)⟩
theorem roundE_keep {P : List Nat} {k x d y d' : Nat} {es : List (Nat × Nat)} (h : lookE es y = some d') : ∀ n, lookE (roundE P k x d n es) y = some d'
  | 0 => h
  | n + 1 => by
    rw [roundE]; split
    · exact stepE_keep (roundE_keep h n)
    · exact roundE_keep h n
structure Bd (D : Nat) (es : List (Nat × Nat)) : Prop where
  sort : es.Pairwise fun p q => p.2 ≤ q.2
  top : ∀ q ∈ es, q.2 ≤ D + 1
theorem Bd.step {D y : Nat} {es : List (Nat × Nat)} (h : Bd D es) : Bd D (stepE (D + 1) y es) := by
  unfold stepE; split
  · refine ⟨List.pairwise_append.2 ⟨h.sort, List.pairwise_singleton _ _, fun p hp q hq => ?_⟩, fun q hq => ?_⟩
    · rw [List.mem_singleton.1 hq]; exact h.top p hp
    · rcases List.mem_append.1 hq with hq | hq
      · exact h.top q hq
      · rw [List.mem_singleton.1 hq]; exact Nat.le_refl _
  · exact h
theorem Bd.round {P : List Nat} {k x D : Nat} {es : List (Nat × Nat)} (h : Bd D es) : ∀ n, Bd D (roundE P k x D n es)
  | 0 => h
  | n + 1 => by
    rw [roundE]; split
    · exact (Bd.round h n).step
    · exact Bd.round h n
theorem roundE_has {P : List Nat} {k x D : Nat} {es : List (Nat × Nat)} (h : Bd D es) : ∀ n m, m < n → wayB P k x m = true → ∃ d', lookE (roundE P k x D n es) (x ^^^ 2 ^ m) = some d' ∧ d' ≤ D + 1
  | 0, m, hm, _ => by omega
  | n + 1, m, hm, hw => by
    rw [roundE]
    by_cases e : m = n
    · subst e
      rw [if_pos hw]
      obtain ⟨d', h1, h2⟩ := stepE_has (D + 1) (x ^^^ 2 ^ m) (roundE P k x D m es)
      refine ⟨d', h1, ?_⟩
      rcases h2 with rfl | h2
      · exact Nat.le_refl _
      · exact (h.round m).top _ h2
    · obtain ⟨d', h1, h2⟩ := roundE_has h n m (by omega) hw
      refine ⟨d', ?_, h2⟩
      split
      · exact stepE_keep h1
      · exact h1
/-- The entries ahead of a place have all their neighbours; the entries rise. -/
structure Que (P : List Nat) (k i : Nat) (es : List (Nat × Nat)) : Prop where
  sort : es.Pairwise fun p q => p.2 ≤ q.2
  top : ∀ p, es[i]? = some p → ∀ q ∈ es, q.2 ≤ p.2 + 1
  done : ∀ (j : Nat) (p : Nat × Nat), j < i → es[j]? = some p → ∀ n, n < P.length → wayB P k p.1 n = true → ∃ d, lookE es (p.1 ^^^ 2 ^ n) = some d ∧ d ≤ p.2 + 1
theorem Que.far {P : List Nat} {k : Nat} (hP : P.length ≤ 10) : ∀ (f i : Nat) {es : List (Nat × Nat)}, GoodE P.length es → Que P k i es → f + i = 1025 → i ≤ es.length → Que P k (farF P k f i es).length (farF P k f i es)
  | 0, i, es, hg, hq, hf, hi => by
    have := hg.length
    have := Nat.pow_le_pow_right (n := 2) (by omega) hP
    omega
  | f + 1, i, es, hg, hq, hf, hi => by
    rw [farF]
    split
    · rename_i hn
      have : es.length = i := by rw [List.getElem?_eq_none_iff] at hn; omega
      subst this
      exact hq
    · rename_i p hp
      have hil := (List.getElem?_eq_some_iff.1 hp).1
      have hb : Bd p.2 es := ⟨hq.sort, hq.top p hp⟩
      have hb' := hb.round (P := P) (k := k) (x := p.1) P.length
      have hp2 : p.2 < es.length := by have := hg.low i p hp; omega
      refine Que.far hP f (i + 1) (hg.round (hg.lt p (List.mem_of_getElem? hp)) hp2 _ (Nat.le_refl _)) ⟨hb'.sort, fun p' hp' q hq' => ?_, fun j r hj hr n hn hw => ?_⟩ (by omega) (by have := roundE_len P k p.1 p.2 es P.length; omega)
      · have h1 := hb'.top q hq'
        have h2 := roundE_get (P := P) (k := k) (x := p.1) (d := p.2) hp P.length
        obtain ⟨hl, he⟩ := List.getElem?_eq_some_iff.1 hp'
        obtain ⟨hl2, he2⟩ := List.getElem?_eq_some_iff.1 h2
        have h3 := List.pairwise_iff_getElem.1 hb'.sort i (i + 1) hl2 hl (by omega)
        rw [he, he2] at h3
        omega
      · by_cases e : j = i
        · subst e
          have h2 := roundE_get (P := P) (k := k) (x := p.1) (d := p.2) hp P.length
          rw [h2] at hr
          obtain rfl := Option.some.inj hr
          exact roundE_has hb P.length n hn hw
        · have h0 : es[j]? = some r := by
            have h2 := roundE_get (P := P) (k := k) (x := p.1) (d := p.2) (List.getElem?_eq_getElem (show j < es.length by omega)) P.length
            rw [h2] at hr
            rw [List.getElem?_eq_getElem (by omega)]; exact hr
          obtain ⟨d, h1, h3⟩ := hq.done j r (by omega) h0 n hn hw
          exact ⟨d, roundE_keep h1 _, h3⟩
theorem farM_next {P : List Nat} {k g : Nat} (hP : P.length ≤ 10) (hg : g < 2 ^ P.length) {x d n : Nat} (h : lookE (farM P k g) x = some d) (hn : n < P.length) (hw : wayB P k x n = true) : ∃ d', lookE (farM P k g) (x ^^^ 2 ^ n) = some d' ∧ d' ≤ d + 1 := by
  unfold farM at *
  split at h
  · cases h
  rename_i hk
  rw [if_neg hk]
  have hq := Que.far hP 1025 0 (.one hg) (k := k) ⟨List.pairwise_singleton _ _, fun p hp q hq => (by simp at hp hq; subst hp hq; omega), fun j p hj => (by omega)⟩ rfl (by simp)
  obtain ⟨j, hj, he⟩ := List.getElem_of_mem (lookE_mem h)
  exact hq.done j _ hj (by rw [List.getElem?_eq_getElem hj, he]) n hn hw
theorem farM_root {P : List Nat} {k g : Nat} (hg : g < 2 ^ P.length) (hk : popc g ≤ k) : lookE (farM P k g) g = some 0 :=
  lookE_of_mem (farM_good hg).once (farM_bfs hg hk).root
theorem mayM_full {P : List Nat} (hP : LowP P) {x n : Nat} (h : ∀ i, i < n → x.testBit i = true) : mayM P x n = true := by
  refine decide_eq_true (Nat.eq_of_testBit_eq fun i => ?_)
  rw [Nat.testBit_and]
  by_cases hi : i < n
  · rw [h i hi, Bool.true_and]
  · rw [Nat.testBit_lt_two_pow (Nat.lt_of_lt_of_le (getD_lowP hP n) (Nat.pow_le_pow_right (by omega) (by omega))), Bool.and_false]
theorem reach_all {P : List Nat} {k g : Nat} (hL : LowP P) (hP : P.length ≤ 10) (hg : g < 2 ^ P.length) (hk : P.length ≤ k) : ∃ d, lookE (farM P k g) 0 = some d := by
  have hpo : ∀ {x}, x < 2 ^ P.length → popc x ≤ k := fun hx => Nat.le_trans (popc_le_of_lt hx) hk
  have hway : ∀ {x n}, x < 2 ^ P.length → n < P.length → (∀ i, i < n → x.testBit i = true) → wayB P k x n = true := fun {x n} hx hn h => by
    unfold wayB
    rw [mayM_full hL h, decide_eq_true (hpo (Nat.xor_lt_two_pow hx (Nat.pow_lt_pow_right (by omega) hn)))]; rfl
  have up : ∀ n, n ≤ P.length → ∃ x d, x < 2 ^ P.length ∧ lookE (farM P k g) x = some d ∧ ∀ i, i < n → x.testBit i = true := by
    intro n
    induction n with
    | zero => exact fun _ => ⟨g, 0, hg, farM_root hg (hpo hg), fun i hi => by omega⟩
    | succ n ih =>
      intro hn
      obtain ⟨x, d, hx, hl, hb⟩ := ih (by omega)
      by_cases hb' : x.testBit n = true
      · exact ⟨x, d, hx, hl, fun i hi => if e : i = n then e ▸ hb' else hb i (by omega)⟩
      · obtain ⟨d', h1, _⟩ := farM_next hP hg hl (n := n) (by omega) (hway hx (by omega) hb)
        refine ⟨_, d', Nat.xor_lt_two_pow hx (Nat.pow_lt_pow_right (by omega) (by omega)), h1, fun i hi => ?_⟩
        rw [Nat.testBit_xor, Nat.testBit_two_pow]
        by_cases e : i = n
        · subst e; simp at hb'; simp [hb']
        · rw [hb i (by omega), decide_eq_false (by omega)]; rfl
  obtain ⟨x, d, hx, hl, hb⟩ := up P.length (Nat.le_refl _)
  obtain rfl : x = 2 ^ P.length - 1 := by
    refine Nat.eq_of_testBit_eq fun i => ?_
    rw [Nat.testBit_two_pow_sub_one]
    by_cases hi : i < P.length
    · rw [hb i hi, decide_eq_true hi]
    · rw [decide_eq_false hi, Nat.testBit_lt_two_pow (Nat.lt_of_lt_of_le hx (Nat.pow_le_pow_right (by omega) (by omega)))]
  have down : ∀ m n, n + m = P.length → ∃ d, lookE (farM P k g) (2 ^ n - 1) = some d := by
    intro m
    induction m with
    | zero => intro n hn; rw [show n = P.length by omega]; exact ⟨d, hl⟩
    | succ m ih =>
      intro n hn
      obtain ⟨d1, h1⟩ := ih (n + 1) (by omega)
      have hlt : 2 ^ (n + 1) - 1 < 2 ^ P.length := by
        have := Nat.pow_le_pow_right (n := 2) (by omega) (show n + 1 ≤ P.length by omega)
        have := Nat.two_pow_pos (n + 1)
        omega
      obtain ⟨d2, h2, _⟩ := farM_next hP hg h1 (n := n) (by omega) (hway hlt (by omega) fun i hi => by rw [Nat.testBit_two_pow_sub_one]; exact decide_eq_true (by omega))
      refine ⟨d2, ?_⟩
      rw [← h2]
      congr 1
      refine Nat.eq_of_testBit_eq fun i => ?_
      rw [Nat.testBit_xor, Nat.testBit_two_pow, Nat.testBit_two_pow_sub_one, Nat.testBit_two_pow_sub_one]
      by_cases e : i = n
      · subst e; simp
      · by_cases e2 : i < n
        · rw [decide_eq_true e2, decide_eq_true (show i < n + 1 by omega), decide_eq_false (by omega)]; rfl
        · rw [decide_eq_false e2, decide_eq_false (show ¬ i < n + 1 by omega), decide_eq_false (by omega)]; rfl
  exact down P.length 0 (by omega)
theorem isShort_all {P : List Nat} {k g : Nat} (hL : LowP P) (hP : P.length ≤ 10) (hg : g < 2 ^ P.length) (hk : P.length ≤ k) : isShort P k g = true := by
  obtain ⟨d, h⟩ := reach_all hL hP hg hk
  rw [isShort, h]; rfl
theorem trade_ne {G : List (List Int)} {gs : List Int} (h : withE G gs = 0) : tradeG G gs ≠ [] := by
  obtain ⟨N, g, rfl, hN, rfl, hg⟩ := withE_nat h
  have h1 := hN.one
  have hl : (needsM N).length = N.length := by simp [needsM]
  have hs := isShort_all (k := N.length) (g := posM g) hN.lowP (by rw [hl]; exact hN.ten) (by rw [hl]; exact posM_lt hg.lt) (by omega)
  unfold tradeG
  rw [natsG_ofs2, nats_ofs, ofs2_length]
  obtain ⟨n, hn⟩ : ∃ n, N.length = n + 1 := ⟨N.length - 1, by omega⟩
  rw [hn] at hs ⊢
  rw [tradeF]
  split
  · simp
  · rename_i hne
    intro h0
    exact hne ⟨hs, .inl (by rw [h0]; rfl)⟩
end Go.AM

/-! ### G4 -/
namespace Go.AM
open Go.Proofs
set_option maxRecDepth 100000
set_option linter.unusedVariables false
set_option linter.unusedSimpArgs false
theorem popc_half (x : Nat) : popc x = x % 2 + popc (x / 2) := by
  have := popc_double (x / 2) (x % 2) (Nat.mod_lt _ (by omega))
  rwa [Nat.mod_add_div] at this
theorem sShr {P : Program} {ρ : Env} {m : Mem} {K : Env → Mem → Prop} {ops : Array Oper} {l : List Oper} {d : Option Nat} {ty t tz : TypeId} {pos : String} {af : Array Edge} {x y : Operand} {a b : Nat} {k : IntKind}
    (hx : evR ρ x = nv a) (hy : evR ρ y = .int k (Int.ofNat b)) (h : a < 9223372036854775808) (hk : wpOps P ops K l (updO ρ d (nv (a >>> b))) m) :
    wpOps P ops K (⟨d, .binOp .shr t x y tz, ty, pos, af, none⟩ :: l) ρ m := by
  refine sP (v := nv (a >>> b)) ?_ hk
  simp only [aPure, hx, hy, aBin, nv]
  rw [if_pos (.inr trivial)]
  exact aInt_shr h
theorem mayM_iff {N : List (List Nat)} {n : Nat} (hn : n < N.length) (x : Nat) : mayM (needsM N) x n = true ↔ ∀ k ∈ N.getD n [], x.testBit k = true := by
  have hg : (needsM N).getD n 0 = posM (N.getD n []) := by
    simp [needsM, List.getD_eq_getElem?_getD, List.getElem?_map, List.getElem?_eq_getElem hn]
  unfold mayM
  rw [hg, decide_eq_true_eq]
  constructor
  · intro h k hk
    have := congrArg (·.testBit k) h
    simp only [Nat.testBit_and, posM_bit, decide_eq_true hk, Bool.and_true] at this
    exact this
  · intro h
    refine Nat.eq_of_testBit_eq fun i => ?_
    rw [Nat.testBit_and, posM_bit]
    by_cases hi : i ∈ N.getD n []
    · rw [h i hi, decide_eq_true hi]; rfl
    · rw [decide_eq_false hi, Bool.and_false]

theorem ofs2_getD {N : List (List Nat)} {n : Nat} (hn : n < N.length) : (ofs2 N)[n]? = some (ofs (N.getD n [])) := by simp [ofs2, List.getD_eq_getElem?_getD, List.getElem?_eq_getElem hn]
theorem getDr {N : List (List Nat)} {n : Nat} (hn : n < N.length) : N[n]? = some (N.getD n []) := by rw [List.getD_eq_getElem?_getD, List.getElem?_eq_getElem hn]; rfl
theorem bitB (x u : Nat) : decide (x >>> u &&& 1 = 1) = x.testBit u := by
  by_cases h : x.testBit u = true
  · rw [h, decide_eq_true ((bit_one x u).2 h)]
  · rw [Bool.eq_false_iff.2 h, decide_eq_false (fun e => h ((bit_one x u).1 e))]
theorem mayM_all {N : List (List Nat)} {n : Nat} (hn : n < N.length) (x : Nat) : ((N.getD n []).all fun u => x.testBit u) = mayM (needsM N) x n := by
  rw [Bool.eq_iff_iff, mayM_iff hn, List.all_eq_true]
def endX (x : Nat) (l : List Nat) : Nat := l.foldl (fun x n => x ^^^ 2 ^ n) x
theorem endX_snoc (x : Nat) (l : List Nat) (n : Nat) : endX x (l ++ [n]) = endX x l ^^^ 2 ^ n := by simp [endX]
theorem playE_snoc {P : List Nat} {n : Nat} (hn : n < P.length) : ∀ {l : List Nat} {x : Nat}, playE P x (ofs l) = 0 → mayM P (endX x l) n = true → playE P x (ofs (l ++ [n])) = 0
  | [], x, _, hm => by
    have h0 : ¬ (Int.ofNat n < 0 ∨ Int.ofNat P.length ≤ Int.ofNat n) := by simp; omega
    show playE P x [Int.ofNat n] = 0
    rw [playE, if_neg h0, show (Int.ofNat n).toNat = n from rfl, show mayM P x n = true from hm]; rfl
  | y :: l, x, h, hm => by
    have h' : playE P x (Int.ofNat y :: ofs l) = 0 := h
    show playE P x (Int.ofNat y :: ofs (l ++ [n])) = 0
    rw [playE] at h' ⊢
    split at h'
    · cases h'
    · rename_i h1
      rw [if_neg h1]
      split at h'
      · rename_i h2
        rw [if_pos h2]
        exact playE_snoc hn h' hm
      · cases h'
end Go.AM

/-! ### S6 -/
namespace Go.AM
open Go.Proofs
set_option maxRecDepth 100000
set_option linter.unusedVariables false
set_option linter.unusedSimpArgs false
theorem cut_own {N : Nat} {m : Mem} {v : Value} {L : List Nat} {k : Nat} (h : OwnF N m v (ofs L)) (hk : k ≤ L.length) : ∃ v2, aSlice Tryd.prog m 25 v none (some (nv k)) none = some v2 ∧ OwnF N m v2 (ofs (L.take k)) ∧ (∃ q c, v2 = .slice q (L.take k).length c) := by
  rcases h with ⟨h1, rfl⟩ | ⟨b, cap, c, rfl, h2, h3, h4, h5, h6⟩
  · obtain rfl : L = [] := by cases L with
      | nil => rfl
      | cons a r => simp [ofs] at h1
    obtain rfl : k = 0 := by simpa using hk
    exact ⟨.slice none 0 0, by simp only [aSlice, T25, S3, aBounds]; rfl, .nil _ _, _, _, rfl⟩
  · have hkc : k ≤ cap := by rw [ofs_length] at h4; omega
    refine ⟨_, aSlice_hi T25 S3 hkc, .inr ⟨b, cap, c, by rw [ofs_length, List.length_take, Nat.min_eq_left hk], h2, h3, by rw [ofs_length, List.length_take]; omega, h5, fun i x hx => h6 i x ?_⟩, _, _, by rw [List.length_take, Nat.min_eq_left hk]⟩
    simp only [ofs, List.map_take, List.getElem?_take] at hx
    split at hx
    · exact hx
    · cases hx
theorem Sorted2.low {N : Nat} {v : Value} {L : List Nat} {m m' : Mem} (h : Sorted2 N v L m m') : Low N m m' := ⟨by rw [h.2.1]; exact Nat.le_refl _, fun c hc => h.2.2 c fun e => by have := (h.1.lt e).1; omega⟩
theorem minNN {a b : Nat} : aFold aMin2 (nv a) [nv b] = some (nv (min a b)) := by
  simp only [aFold, aMin2, if_true]
  congr 2
  by_cases h : b < a
  · rw [if_pos (by simpa using h), Nat.min_eq_right (by omega)]
  · rw [if_neg (by simpa using h), Nat.min_eq_left (by omega)]
/-- Rows that may be a graph's. -/
def RowOk (G : List (List Nat)) : Prop := ∀ (j : Nat) (g : List Nat), G[j]? = some g → g.length ≤ 2 ∧ (∀ x ∈ g, x < j) ∧ g.Pairwise (· < ·)
theorem RowOk.snoc {G : List (List Nat)} {g : List Nat} (h : RowOk G) (h1 : g.length ≤ 2) (h2 : ∀ x ∈ g, x < G.length) (h3 : g.Pairwise (· < ·)) : RowOk (G ++ [g]) := fun j r hj => by
  by_cases e : j < G.length
  · rw [List.getElem?_append_left e] at hj; exact h j r hj
  · rw [List.getElem?_append_right (by omega)] at hj
    match hd : j - G.length, hj with
    | 0, hj =>
      obtain rfl := Option.some.inj hj
      obtain rfl : j = G.length := by omega
      exact ⟨h1, h2, h3⟩
    | d + 1, hj => simp at hj
theorem RowOk.dag {G : List (List Nat)} (h : RowOk G) (h1 : 1 ≤ G.length) (h2 : G.length ≤ 10) : Dag G where
  one := h1
  ten := h2
  two g hg := by obtain ⟨j, hj, e⟩ := List.getElem_of_mem hg; exact (h j g (by rw [List.getElem?_eq_getElem hj, e])).1
  less j g hj := (h j g hj).2.1
  rise g hg := by obtain ⟨j, hj, e⟩ := List.getElem_of_mem hg; exact (h j g (by rw [List.getElem?_eq_getElem hj, e])).2.2
theorem OwnR.lowx {N b : Nat} {m m' : Mem} {v : Value} {cs : Array Value} {G : List (List Int)} (h : OwnR N m v cs G) (hx : LowX m.size b m m') (hb : b < N) : OwnR N m' v cs G := h.up fun c h1 h2 => hx.2 c h2 (by omega)

/-- A graph that can be read whatever is done to a store. -/
def Steady (m : Mem) (b : Nat) (s : Value) (G : List (List Int)) : Prop := ∀ m', LowX m.size b m m' → RowsAt m' s G
theorem Steady.next {m m2 : Mem} {b : Nat} {s : Value} {G : List (List Int)} (h : Steady m b s G) (hx : LowX m.size b m m2) : Steady m2 b s G := fun m' h' => h m' (hx.trans ⟨h'.1, fun c h1 h2 => h'.2 c (by have := hx.1; omega) h2⟩)

theorem okf52 : okF Tryd.prog H0 52 34 = true := by kernel_rfl
theorem spec_Grown {m : Mem} {N0 N b k most : Nat} (h : StoreAt N0 N m b k) (hk : k < 50000) (hN0 : N0 ≤ b) (hm1 : 1 ≤ most) (hm2 : most ≤ 10) : ∃ v m', ACalls Tryd.prog 52 #[.pointer (some ⟨b, 0, none⟩), nv most] m v m' ∧ (∃ w cs G, v = .agg #[w] ∧ OwnR m.size m' w cs (ofs2 G) ∧ Dag G ∧ G.length ≤ most ∧ StoreAt N0 N m' b (k + 200) ∧ LowX m.size b m m') := by
  have hbm : b < m.size := by have := h.lt; omega
  have hNm : N ≤ m.size := h.lt.2
  have hX0 : LowX (m.size + 1) b ((m.push (.cells true #[.slice none 0 0])).push (.cells true #[.slice none 0 0])) ((m.push (.cells true #[.slice none 0 0])).push (.cells true #[.slice none 0 0])) := .refl _ _ _
  have hS0 : StoreAt N0 N ((m.push (.cells true #[.slice none 0 0])).push (.cells true #[.slice none 0 0])) b k := h.ext hN0 ((Ext.push _ _).trans (.push _ _))
  have hE0 : Ext m ((m.push (.cells true #[.slice none 0 0])).push (.cells true #[.slice none 0 0])) := (Ext.push _ _).trans (.push _ _)
  have hz0 : ((m.push (.cells true #[.slice none 0 0])).push (.cells true #[.slice none 0 0])).size = m.size + 2 := by simp
  refine wpF (args := [_, _]) mixed okf52 (fn := Tryd.f52) rfl rfl rfl (by simp) ?_
  refine cSeq ?_
  refine cRegion ?_
  refine sAllocB (bl := m.size) (by simp) Z24 (by kernel_rfl) ?_
  refine sNil (kSeqN ?_)
  refine cSeq ?_
  refine cRegion ?_
  refine sAllocB (bl := m.size + 1) (by simp) Z24 (by kernel_rfl) ?_
  refine sNil (kSeqN ?_)
  refine cSeq ?_
  refine cSeq ?_
  refine cRegion ?_
  refine sMv (v := .pointer _) rfl ?_
  refine sMv (v := nv _) rfl ?_
  obtain ⟨v10, m10, h10, ⟨n, rfl, hn1, hn2⟩, hS10, hO10⟩ := spec_From (lo := 1) (hi := most) hS0 (by omega) (by omega) (by omega)
  refine sCall3 rfl call82 rfl rfl rfl h10 ?_
  have g10 : Mem.get m10 (m.size + 1) = .cells true #[.slice none 0 0] := (hO10.2 _ (by omega)).trans (gP (by simp))
  have g10' : Mem.get m10 m.size = .cells true #[.slice none 0 0] := (hO10.2 _ (by omega)).trans (by rw [gPn (by simp), gP rfl])
  have z10 : m10.size = m.size + 2 := by rw [hO10.1]; exact hz0
  have hX10 : LowX m.size b m m10 := ⟨by omega, fun c h1 h2 => (hO10.2 c h2).trans (hE0.2 c h1)⟩
  refine sMv (v := nv 0) rfl ?_
  refine sNil (kSeqN ?_)
  refine cBlock ?_
  refine wpC_loop (fun k' ρ m' => ∃ i v cs G, k' = n - i ∧ i ≤ n ∧ G.length = i ∧ RowOk G ∧ LowX (m.size + 1) b m10 m' ∧ Mem.get m' (m.size + 1) = .cells true #[v] ∧ OwnR (m.size + 2) m' v cs (ofs2 G) ∧ StoreAt N0 N m' b (k + 1 + 11 * i) ∧ Has ρ [(0, .pointer (some ⟨b, 0, none⟩)), (4, .pointer (some ⟨m.size, 0, none⟩)), (5, .pointer (some ⟨m.size + 1, 0, none⟩)), (10, nv n), (11, nv i)]) ⟨0, _, #[], [], rfl, by omega, rfl, fun j g hj => by simp at hj, .refl _ _ _, g10, .nil _ _, hS10, rfl, rfl, rfl, rfl, rfl, trivial⟩ ?_
  rintro k' ρ m' ⟨i, v, cs, G, rfl, hi, hGl, hGo, hX, g2, hO, hS, hh⟩
  obtain ⟨qv, cv, rfl⟩ := hO.1.len
  rw [hh.env]; clear hh
  have hz := live g2
  have hz2 : m.size + 2 ≤ m'.size := by have := hX.1; omega
  refine cSeq ?_
  refine cRegion ?_
  refine sBin rfl rfl (aInt_lss) ?_
  refine sNil (kSeqN ?_)
  refine cSeq ?_   -- seq 5
  refine cCond rfl (fun c0 => ?_) (fun c0 => ?_)
  ·
    refine cSkip (kSeqN ?_)
    refine cSeq ?_
    refine cBlock ?_
    refine cSeq ?_
    refine cRegion ?_
    refine sMv (v := nv _) rfl ?_
    refine sAs (v := nv _) rfl ?_
    refine sNil (kSeqN ?_)
    refine cSeq ?_
    refine cRegion ?_
    refine sMv (v := .pointer _) rfl ?_
    refine sMv (v := nv _) rfl ?_
    obtain ⟨v16, m16, h16, L, hO16, hLl, hLx, hLn, hS16, hX16⟩ := spec_Order (n := i) hS (by omega) hN0 (by omega)
    obtain ⟨q16, c16, rfl⟩ := hO16.ints.lenN
    have z16 := hX16.1
    refine sCall2 rfl call83 rfl rfl h16 ?_
    refine sAs (v := .slice _ _ _) rfl ?_
    refine sNil (kSeqN ?_)
    refine cSeq ?_
    refine cRegion ?_
    refine sMv (v := .slice _ _ _) rfl ?_
    refine sMv (v := .slice _ _ _) rfl ?_
    refine sLen T25 rfl ?_
    refine sMv (v := .pointer _) rfl ?_
    obtain ⟨v21, m21, h21, ⟨z, rfl, hzz⟩, hS21, hO21⟩ := spec_SLess (n := 3) hS16 (by omega) (by omega) (by omega)
    refine sCall2 rfl call84 rfl rfl h21 ?_
    have hOL := hO16.only hO21 (by omega)
    obtain ⟨v23, h23, hO23, q23, c23, rfl⟩ := cut_own (k := min L.length z) hOL (Nat.min_le_left _ _)
    have hl2 : (L.take (min L.length z)).length ≤ 2 := by rw [List.length_take]; omega
    refine sP (v := nv (min L.length z)) minNN ?_
    refine sO (v := .slice q23 (L.take (min L.length z)).length c23) (m' := m21) (opF_read rfl h23) ?_
    have hK1 : ∀ x ∈ L.take (min L.length z), x < i := fun x hx => hLx x (List.mem_of_mem_take hx)
    have hK2 : (L.take (min L.length z)).Nodup := hLn.sublist (List.take_sublist _ _)
    generalize L.take (min L.length z) = K at *
    refine sAs (v := .slice _ _ _) rfl ?_
    refine sNil (kSeqN ?_)
    refine cSeq ?_
    refine cRegion ?_
    refine sMv (v := .slice _ _ _) rfl ?_
    obtain ⟨w25, m25, h25, k25⟩ := spec_Sort2 hO23 hl2
    have l25 := k25.low
    have z25 := k25.2.1
    refine sCall1 rfl call85 rfl h25 ?_
    have hXm : LowX m'.size b m' m25 := (hX16.trans hO21.x).trans l25.x
    have g25 : Mem.get m25 (m.size + 1) = .cells true #[.slice qv (ofs2 G).length cv] := (hXm.2 _ (by omega) (by omega)).trans g2
    have hO25 := hO.lowx hXm (by omega)
    have z21 := hO21.1
    have hK3 : (ofs K).length = K.length := ofs_length K
    have hK4 : (ofs (sort2 K)).length = K.length := by rw [ofs_length, sort2_len]
    have hGG : (ofs2 G).length = i := by rw [ofs2_length]; exact hGl
    refine sNil (kSeqN ?_)
    refine cRegion ?_
    refine sFA F24_0 rfl ?_
    refine sLd (v := .slice _ _ _) A22 rfl g25 rfl ?_
    refine sMv (v := .slice _ _ _) rfl ?_
    refine sBuildS T22 S25 Z25 (by decide) (by decide) (by decide) (by kernel_rfl) fillV rfl ?_
    refine sAppC El22 rfl rfl (N := m.size + 2) (n := (ofs2 G).length) (cs := cs) (d := #[.slice q23 K.length c23]) (hO25.ext (.push _ _)).1 (gP rfl) rfl (by kernel_rfl) (by simp; omega) (by omega) fun v' m4 hO4 hL4 hG4 => ?_
    have g24 := hL4.cells (show m.size + 1 < m.size + 2 by omega) ((gPn (live g25)).trans g25)
    have hgr := (hO25.ext (.push _ (.cells true #[.slice q23 K.length c23]))).grew ((k25.1.mono hz2).ext (.push _ _)) (fun b hb e => by
      have h1 := (k25.1.lt hb).1
      have h2 := (hO.1.lt e).2
      omega) hG4 hO4
    obtain ⟨q4, cp4, rfl⟩ := hO4.len
    refine sFA F24_0 rfl ?_
    refine sSt (v := .slice _ _ _) S22 rfl rfl g24 (by simp) rfl rfl ?_
    refine sNil (kBlkN (kSeqN ?_))
    refine cRegion ?_
    refine sBin rfl rfl (aInt_add (b := 1) (by omega)) ?_
    refine sMv (v := nv _) rfl ?_
    refine sNil (kSeqN ?_)
    have hLow4 : Low (m.size + 1) m25 (m4.setIfInBounds (m.size + 1) (.cells true #[.slice q4 ((ofs2 G).length + 1) cp4])) := (Low.push _ (by omega) _).trans ((hL4.le (Nat.le_succ _)).trans (.set (Nat.le_refl _) _))
    have hXm' : LowX (m.size + 1) b m' m25 := ⟨hXm.1, fun c h1 h2 => hXm.2 c (by omega) h2⟩
    refine ⟨_, ?_, i + 1, .slice q4 ((ofs2 G).length + 1) cp4, cs ++ #[.slice q23 K.length c23], G ++ [sort2 K], rfl, by omega, by simp [hGl], hGo.snoc (by rw [sort2_len]; exact hl2) (fun x hx => by rw [hGl]; exact hK1 x ((sort2_perm K).mem_iff.1 hx)) (sort2_rise hl2 hK2), (hX.trans hXm').trans hLow4.x, by rw [gS rfl (live g24)]; rfl, ?_, ((hS21.low hN0 l25 (by omega)).low hN0 hLow4 (by omega)).le (by omega), rfl, rfl, rfl, rfl, rfl, trivial⟩
    · omega
    · rw [show ofs2 (G ++ [sort2 K]) = ofs2 G ++ [ofs (sort2 K)] by simp [ofs2]]
      exact hgr.only (.set (m.size + 1) m4 (.cells true #[.slice q4 ((ofs2 G).length + 1) cp4])) (by omega)
  ·
    obtain rfl : i = n := by omega
    have g0 : Mem.get m' m.size = .cells true #[.slice none 0 0] := (hX.2 _ (by omega) (by omega)).trans g10'
    refine cExit (kSeqE (kSeqE (kBlkS (kSeqN ?_))))
    refine cSeq ?_
    refine cRegion ?_
    refine sLdAll A24 S24 rfl g2 rfl ?_
    refine sStAll S24 rfl rfl g0 rfl rfl (by kernel_rfl) ?_
    refine sNil (kSeqN ?_)
    refine cRet ?_
    refine ⟨.inr rfl, _, resRs_agg A24 S24 rfl (gS rfl (live g0)) rfl, _, cs, G, rfl, (hO.only (.set m.size _ _) (by omega)).mono (by omega), hGo.dag (by omega) (by omega), by omega, ?_, ?_⟩
    · exact (hS.low hN0 (.set (N := m.size) (Nat.le_refl _) _) hNm).le (by omega)
    · exact (hX10.trans ⟨hX.1, fun c h1 h2 => hX.2 c (by omega) h2⟩).trans (Low.set (N := m.size) (Nat.le_refl _) _).x

theorem okf58 : okF Tryd.prog H0 58 29 = true := by kernel_rfl
theorem spec_aims {m : Mem} {N0 N b k : Nat} {s : Value} {G : List (List Nat)} (h : StoreAt N0 N m b k) (hk : k < 50000) (hN0 : N0 ≤ b) (hG : Steady m b s (ofs2 G)) (hD : Dag G) : ∃ v m', ACalls Tryd.prog 58 #[.pointer (some ⟨b, 0, none⟩), .agg #[s]] m v m' ∧ (∃ g : List Nat, OwnF m.size m' v (ofs g) ∧ Goals G.length g ∧ G.length - 1 ∈ g ∧ StoreAt N0 N m' b (k + 10) ∧ LowX m.size b m m') := by
  have hbm : b < m.size := by have := h.lt; omega
  have hNm : N ≤ m.size := h.lt.2
  have h10 := hD.ten
  have h1 := hD.one
  obtain ⟨q, cap, rfl⟩ := (hG m (.refl _ _ _)).len
  have hS0 : StoreAt N0 N (m.push (.cells true #[.slice q (ofs2 G).length cap])) b k := h.ext hN0 (.push _ _)
  rw [ofs2_length] at hS0 ⊢
  refine wpF (args := [_, _]) mixed okf58 (fn := Tryd.f58) rfl rfl rfl (by simp) ?_
  refine cSeq ?_
  refine cRegion ?_
  refine sBox (v := .agg _) rfl ?_
  refine sAs (v := .slice _ _ _) rfl ?_
  refine sNil (kSeqN ?_)
  refine cSeq ?_
  refine cRegion ?_
  refine sAs (v := .slice _ _ _) rfl ?_
  refine sNil (kSeqN ?_)
  refine cSeq ?_
  refine cSeq ?_
  refine cRegion ?_
  refine sFA F24_0 rfl ?_
  refine sLd A22 rfl (by simp (disch := first | omega | (simp only [Array.size_push, Array.size_setIfInBounds]; done) | (simp only [Array.size_push, Array.size_setIfInBounds]; omega)) only [gP, gPn, gS, gSn]; try rfl) rfl ?_
  refine sLen T22 rfl ?_
  refine sMv (v := nv 0) rfl ?_
  refine sNil (kSeqN ?_)
  refine cBlock ?_
  refine wpC_loop (fun k' ρ m' => ∃ i v g, k' = G.length - i ∧ i ≤ G.length ∧ g.length ≤ i ∧ (∀ x ∈ g, x < i) ∧ g.Pairwise (· < ·) ∧ (i = G.length → G.length - 1 ∈ g) ∧ OwnF (m.size + 1) m' v (ofs g) ∧ StoreAt N0 N m' b (k + i) ∧ LowX (m.size + 1) b (m.push (.cells true #[.slice q G.length cap])) m' ∧ Has ρ [(0, .pointer (some ⟨b, 0, none⟩)), (3, .pointer (some ⟨m.size, 0, none⟩)), (5, v), (9, nv G.length), (10, nv i)]) ⟨0, _, [], rfl, by omega, by simp, by simp, .nil, by omega, .nil _ _, hS0, .refl _ _ _, rfl, rfl, rfl, rfl, rfl, trivial⟩ ?_
  rintro k' ρ m' ⟨i, v, g, rfl, hi, hgl, hgx, hgr, hgn, hO, hS, hX, hh⟩
  obtain ⟨qv, cv, rfl⟩ := hO.ints.lenN
  rw [hh.env]; clear hh
  have hz := hX.1
  simp only [Array.size_push] at hz
  have gb : Mem.get m' m.size = .cells true #[.slice q G.length cap] := (hX.2 _ (by omega) (by omega)).trans (gP rfl)
  refine cSeq ?_
  refine cRegion ?_
  refine sBin rfl rfl (aInt_lss) ?_
  refine sNil (kSeqN ?_)
  refine cSeq ?_   -- seq 5
  refine cCond rfl (fun c0 => ?_) (fun c0 => ?_)
  ·
    refine cSkip (kSeqN ?_)
    refine cSeq ?_
    refine cBlock ?_
    refine cSeq ?_
    refine cRegion ?_
    refine sMv (v := nv _) rfl ?_
    refine sAs (v := nv _) rfl ?_
    refine sNil (kSeqN ?_)
    refine cSeq ?_
    refine cRegion ?_
    refine sMv (v := nv _) rfl ?_
    refine sFA F24_0 rfl ?_
    refine sLd A22 rfl (by simp (disch := first | omega | (simp only [Array.size_push, Array.size_setIfInBounds]; done) | (simp only [Array.size_push, Array.size_setIfInBounds]; omega)) only [gP, gPn, gS, gSn, gb]; try rfl) rfl ?_
    refine sLen T22 rfl ?_
    refine sBin (v := nv (G.length - 1)) rfl rfl (aInt_sub (b := 1) (by omega)) ?_
    refine sBin (a := i) (b := G.length - 1) rfl rfl aInt_eql ?_
    refine sMv (v := .bool _) rfl ?_
    by_cases h5 : i = G.length - 1
    ·
      rw [decide_eq_true h5]
      refine sGno (q' := true) rfl rfl (by simp) ?_
      refine sGno (q' := true) rfl rfl (by simp) ?_
      refine sP (v := .bool _) rfl ?_
      refine sNil (kSeqN ?_)
      refine cCondT rfl ?_
      refine cRegion ?_
      refine sMv (v := .slice _ _ _) rfl ?_
      refine sMv (v := nv _) rfl ?_
      refine sBuildS T25 S3 Z3 (by decide) (by decide) (by decide) (by kernel_rfl) fill1 rfl ?_
      refine sApp App25 rfl rfl (N := m.size + 1) (by first | exact hOa.ext (.push _ _) | exact hO.ext (.push _ _)) one_ints (by first | (simp; omega) | (have := hz21; simp; omega)) (by simp; omega) fun v3 m3 hO3 hL3 => ?_
      rw [show ofs g ++ [Int.ofNat i] = ofs (g ++ [i]) by rw [ofs_append]; rfl] at hO3
      obtain ⟨q3, cp3, rfl⟩ := hO3.ints.lenN
      have hrs : (g ++ [i]).Pairwise (· < ·) := List.pairwise_append.2 ⟨hgr, List.pairwise_singleton _ _, fun a ha b hb => by rw [List.mem_singleton.1 hb]; exact hgx a ha⟩
      have hxs : ∀ x ∈ g ++ [i], x < i + 1 := fun x hx => by
        rcases List.mem_append.1 hx with hx | hx
        · have := hgx x hx; omega
        · rw [List.mem_singleton.1 hx]; omega
      refine sAs (v := .slice _ _ _) rfl ?_
      refine sNil (kBlkN (kSeqN ?_))
      refine cRegion ?_
      refine sBin rfl rfl (aInt_add (b := 1) (by omega)) ?_
      refine sMv (v := nv _) rfl ?_
      refine sNil (kSeqN ?_)
      have hL4 := mk_own' (by omega) hL3
      refine ⟨_, ?_, i + 1, _, g ++ [i], rfl, by omega, by simp; omega, hxs, hrs, fun e => by simp; right; omega, hO3, (hS.low hN0 hL4 (by omega)).le (by omega), hX.trans hL4.x, rfl, rfl, rfl, rfl, rfl, trivial⟩
      omega
    ·
      rw [decide_eq_false h5]
      refine sG rfl rfl ?_
      refine sMv (v := .pointer _) rfl ?_
      refine sG rfl rfl ?_
      obtain ⟨v21, m21, h21, ⟨x, rfl⟩, hS21, hO21⟩ := spec_Seldom (n := 6) hS (by omega) (by omega) (by omega)
      refine sCall2 rfl call89 rfl rfl h21 ?_
      refine sP (v := .bool _) rfl ?_
      refine sNil (kSeqN ?_)
      refine cCond (p := x = 0) rfl (fun c2 => ?_) (fun c2 => ?_)
      ·
        have hOa := hO.only hO21 (by omega)
        have hz21 := hO21.1
        refine cRegion ?_
        refine sMv (v := .slice _ _ _) rfl ?_
        refine sMv (v := nv _) rfl ?_
        refine sBuildS T25 S3 Z3 (by decide) (by decide) (by decide) (by kernel_rfl) fill1 rfl ?_
        refine sApp App25 rfl rfl (N := m.size + 1) (by first | exact hOa.ext (.push _ _) | exact hO.ext (.push _ _)) one_ints (by first | (simp; omega) | (have := hz21; simp; omega)) (by simp; omega) fun v3 m3 hO3 hL3 => ?_
        rw [show ofs g ++ [Int.ofNat i] = ofs (g ++ [i]) by rw [ofs_append]; rfl] at hO3
        obtain ⟨q3, cp3, rfl⟩ := hO3.ints.lenN
        have hrs : (g ++ [i]).Pairwise (· < ·) := List.pairwise_append.2 ⟨hgr, List.pairwise_singleton _ _, fun a ha b hb => by rw [List.mem_singleton.1 hb]; exact hgx a ha⟩
        have hxs : ∀ x ∈ g ++ [i], x < i + 1 := fun x hx => by
          rcases List.mem_append.1 hx with hx | hx
          · have := hgx x hx; omega
          · rw [List.mem_singleton.1 hx]; omega
        refine sAs (v := .slice _ _ _) rfl ?_
        refine sNil (kBlkN (kSeqN ?_))
        refine cRegion ?_
        refine sBin rfl rfl (aInt_add (b := 1) (by omega)) ?_
        refine sMv (v := nv _) rfl ?_
        refine sNil (kSeqN ?_)
        have hL4 := mk_own' (M := m.size + 1) (by omega) hL3
        refine ⟨_, ?_, i + 1, _, g ++ [i], rfl, by omega, by simp; omega, hxs, hrs, fun e => by simp; right; omega, hO3, (hS21.low hN0 hL4 (by omega)).le (by omega), (hX.trans hO21.x).trans hL4.x, rfl, rfl, rfl, rfl, rfl, trivial⟩
        omega
      ·
        refine cSkip (kBlkN (kSeqN ?_))
        refine cRegion ?_
        refine sBin rfl rfl (aInt_add (b := 1) (by omega)) ?_
        refine sMv (v := nv _) rfl ?_
        refine sNil (kSeqN ?_)
        have hOa := hO.only hO21 (by omega)
        refine ⟨_, ?_, i + 1, _, g, rfl, by omega, by omega, fun x hx => by have := hgx x hx; omega, hgr, fun e => by omega, hOa, hS21.le (by omega), hX.trans hO21.x, rfl, rfl, rfl, rfl, rfl, trivial⟩
        omega
  ·
    refine cExit (kSeqE (kSeqE (kBlkS (kSeqN ?_))))
    refine cSeq ?_
    refine cRegion ?_
    refine sMv (v := .slice _ _ _) rfl ?_
    refine sAs (v := .slice _ _ _) rfl ?_
    refine sNil (kSeqN ?_)
    refine cRet ?_
    obtain rfl : i = G.length := by omega
    have hm := hgn rfl
    refine ⟨.inr rfl, _, rfl, g, hO.mono (by omega), ⟨List.length_pos_of_mem hm, hgx, hgr⟩, hm, hS.le (by omega), ?_⟩
    exact (Low.push m.size (Nat.le_refl _) _).x.trans ⟨hX.1, fun c h1 h2 => hX.2 c (by omega) h2⟩

theorem okf57 : okF Tryd.prog H0 57 13 = true := by kernel_rfl
theorem spec_pebbles {m : Mem} {x : Nat} (hx : x < 2 ^ 62) : ACalls Tryd.prog 57 #[nv x] m (nv (popc x)) m := by
  suffices h : ∃ v m', ACalls Tryd.prog 57 #[nv x] m v m' ∧ (v = nv (popc x) ∧ m' = m) by
    obtain ⟨v, m', h, rfl, rfl⟩ := h; exact h
  have hp := popc_le_of_lt hx
  refine wpF (args := [_]) mixed okf57 (fn := Tryd.f57) rfl rfl rfl (by simp) ?_
  refine cSeq ?_
  refine cRegion ?_
  refine sAs (v := nv 0) rfl ?_
  refine sNil (kSeqN ?_)
  refine cSeq ?_
  refine cRegion ?_
  refine sAs (v := nv 0) rfl ?_
  refine sNil (kSeqN ?_)
  refine cSeq ?_
  refine cBlock ?_
  refine wpC_loop (fun k ρ m' => ∃ y c, k = y ∧ y < 2 ^ 62 ∧ c + popc y = popc x ∧ m = m' ∧ Has ρ [(0, nv y), (3, nv c)]) ⟨x, 0, rfl, hx, by omega, rfl, rfl, rfl, trivial⟩ ?_
  rintro k ρ _ ⟨y, c, rfl, hy, hc, rfl, hh⟩
  rw [hh.env]; clear hh
  refine cSeq ?_   -- seq 3
  refine cSeq ?_
  refine cRegion ?_
  refine sMv (v := nv _) rfl ?_
  refine sBin (b := 0) rfl rfl aInt_gtr ?_
  refine sNil (kSeqN ?_)
  refine cCond rfl (fun c0 => ?_) (fun c0 => ?_)
  ·
    have hh := popc_half k
    refine cSkip (kSeqN ?_)
    refine cSeq ?_
    refine cBlock ?_
    refine cRegion ?_
    refine sMv (v := nv _) rfl ?_
    refine sMv (v := nv _) rfl ?_
    refine sBin (b := 1) rfl rfl (aInt_and (by omega)) ?_
    have h3 : k &&& 1 = k % 2 := Nat.and_one_is_mod _
    refine sBin rfl rfl (aInt_add (by omega)) ?_
    refine sAs (v := nv _) rfl ?_
    refine sNil (kBlkN (kSeqN ?_))
    refine cRegion ?_
    refine sMv (v := nv _) rfl ?_
    refine sShr (a := k) (b := 1) rfl rfl (by omega) ?_
    have h4 : k >>> 1 = k / 2 := by rw [Nat.shiftRight_eq_div_pow]
    refine sAs (v := nv _) rfl ?_
    refine sNil (kSeqN ?_)
    refine ⟨k / 2, by omega, k / 2, c + (k &&& 1), rfl, by omega, by omega, rfl, by rw [← h4]; rfl, rfl, trivial⟩
  ·
    refine cExit (kSeqE (kSeqE (kBlkS (kSeqN ?_))))
    refine cSeq ?_
    refine cRegion ?_
    refine sMv (v := nv _) rfl ?_
    refine sAs (v := nv _) rfl ?_
    refine sNil (kSeqN ?_)
    refine cRet ?_
    obtain rfl : k = 0 := by omega
    have h0 : popc 0 = 0 := rfl
    refine ⟨.inr rfl, _, rfl, ?_, rfl⟩
    rw [← hc, h0]; rfl

end Go.AM

/-! ### S7 -/
namespace Go.AM
open Go.Proofs
set_option maxRecDepth 100000
set_option linter.unusedVariables false
set_option linter.unusedSimpArgs false

theorem okf54 : okF Tryd.prog H0 54 51 = true := by kernel_rfl
theorem spec_Played {m : Mem} {N0 N b k long : Nat} {s : Value} {G : List (List Nat)} (h : StoreAt N0 N m b k) (hk : k < 50000) (hN0 : N0 ≤ b) (hG : Steady m b s (ofs2 G)) (hD : Dag G) (hlong : long ≤ 200) : ∃ v m', ACalls Tryd.prog 54 #[.pointer (some ⟨b, 0, none⟩), .agg #[s], nv long] m v m' ∧ (∃ l : List Nat, OwnF m.size m' v (ofs l) ∧ l.length ≤ long ∧ (∀ y ∈ l, y < G.length) ∧ playE (needsM G) 0 (ofs l) = 0 ∧ StoreAt N0 N m' b (k + 200) ∧ LowX m.size b m m') := by
  have hbm : b < m.size := by have := h.lt; omega
  have hNm : N ≤ m.size := h.lt.2
  have h10 := hD.ten
  have h1 := hD.one
  have hpl : (needsM G).length = G.length := needsM_length G
  obtain ⟨q, cap, rfl⟩ := (hG m (.refl _ _ _)).len
  have hS0 : StoreAt N0 N (m.push (.cells true #[.slice q (ofs2 G).length cap])) b k := h.ext hN0 (.push _ _)
  rw [ofs2_length] at hS0 hG ⊢
  refine wpF (args := [_, _, _]) mixed okf54 (fn := Tryd.f54) rfl rfl rfl (by simp) ?_
  refine cSeq ?_
  refine cRegion ?_
  refine sBox (v := .agg _) rfl ?_
  refine sAs (v := .slice _ _ _) rfl ?_
  refine sNil (kSeqN ?_)
  refine cSeq ?_
  refine cRegion ?_
  refine sAs (v := .slice _ _ _) rfl ?_
  refine sNil (kSeqN ?_)
  refine cSeq ?_
  refine cRegion ?_
  refine sAs (v := nv 0) rfl ?_
  refine sNil (kSeqN ?_)
  refine cSeq ?_
  refine cSeq ?_
  refine cRegion ?_
  refine sMv (v := nv _) rfl ?_
  refine sMv (v := nv 0) rfl ?_
  refine sNil (kSeqN ?_)
  refine cBlock ?_
  refine wpC_loop (fun k' ρ m' => ∃ i v l, k' = long - i ∧ i ≤ long ∧ l.length ≤ i ∧ (∀ y ∈ l, y < G.length) ∧ playE (needsM G) 0 (ofs l) = 0 ∧ endX 0 l < 1024 ∧ OwnF (m.size + 1) m' v (ofs l) ∧ StoreAt N0 N m' b (k + i) ∧ LowX (m.size + 1) b (m.push (.cells true #[.slice q G.length cap])) m' ∧ Has ρ [(0, .pointer (some ⟨b, 0, none⟩)), (4, .pointer (some ⟨m.size, 0, none⟩)), (7, v), (8, nv (endX 0 l)), (13, nv long), (14, nv i)]) ⟨0, _, [], rfl, by omega, by simp, by simp, rfl, by simp [endX], .nil _ _, hS0, .refl _ _ _, rfl, rfl, rfl, rfl, rfl, rfl, trivial⟩ ?_
  rintro k' ρ m' ⟨i, v, l, rfl, hi, hll, hlx, hpe, hex, hO, hS, hX, hh⟩
  obtain ⟨qv, cv, rfl⟩ := hO.ints.lenN
  rw [hh.env]; clear hh
  have hz := hX.1
  simp only [Array.size_push] at hz
  have gb : Mem.get m' m.size = .cells true #[.slice q G.length cap] := (hX.2 _ (by omega) (by omega)).trans (gP rfl)
  generalize hx : endX 0 l = x at *
  refine cSeq ?_
  refine cRegion ?_
  refine sBin rfl rfl (aInt_lss) ?_
  refine sNil (kSeqN ?_)
  refine cSeq ?_   -- seq 6
  refine cCond rfl (fun c0 => ?_) (fun c0 => ?_)
  ·
    refine cSkip (kSeqN ?_)
    refine cSeq ?_
    refine cBlock ?_
    refine cSeq ?_
    refine cRegion ?_
    refine sMv (v := .pointer _) rfl ?_
    refine sFA F24_0 rfl ?_
    refine sLd A22 rfl (by simp (disch := first | omega | (simp only [Array.size_push, Array.size_setIfInBounds]; done) | (simp only [Array.size_push, Array.size_setIfInBounds]; omega)) only [gP, gPn, gS, gSn, gb]; try rfl) rfl ?_
    refine sLen T22 rfl ?_
    obtain ⟨v20, m20, h20, ⟨y, rfl, hy⟩, hS20, hO20⟩ := spec_SLess (n := G.length) hS (by omega) (by omega) (by omega)
    refine sCall2 rfl call84 rfl rfl h20 ?_
    have gb20 : Mem.get m20 m.size = .cells true #[.slice q G.length cap] := (hO20.2 _ (by omega)).trans gb
    have hX20 := hX.trans hO20.x
    have hR := hG m20 ((Low.push m.size (Nat.le_refl _) (.cells true #[.slice q G.length cap])).x.trans ⟨hX20.1, fun c h1 h2 => hX20.2 c (by omega) h2⟩)
    obtain ⟨b1, o1, p1, r1, cc, e1, g1, x1⟩ := hR.at (by rw [ofs2_length]; omega)
    rw [ofs2_length] at e1
    cases e1
    obtain ⟨s1, hs1, har⟩ := x1 y _ (ofs2_getD hy)
    obtain ⟨qs, cs, rfl⟩ := har.lenN
    have hmay := mayM_all hy x
    have hless := hD.less y _ (getDr hy)
    have htwo := hD.two _ (List.mem_of_getElem? (getDr hy))
    generalize G.getD y [] = g at *
    refine sAs (v := nv _) rfl ?_
    refine sNil (kSeqN ?_)
    refine cSeq ?_
    refine cRegion ?_
    refine sAs (v := .bool _) rfl ?_
    refine sNil (kSeqN ?_)
    refine cSeq ?_
    refine cSeq ?_
    refine cRegion ?_
    refine sFA F24_0 rfl ?_
    refine sLd (v := .slice _ _ _) A22 rfl gb20 rfl ?_
    refine sMv (v := nv _) rfl ?_
    refine sIx T22 S25 rfl rfl hy ?_
    refine sLd (v := .slice _ _ _) A25 rfl g1 hs1 ?_
    refine sLen T25 rfl ?_
    refine sMv (v := nv 0) rfl ?_
    refine sNil (kSeqN ?_)
    refine cBlock ?_
    refine wpC_loop (fun k' ρ mm => ∃ j, k' = g.length - j ∧ j ≤ g.length ∧ m20 = mm ∧ Has ρ [(0, .pointer (some ⟨b, 0, none⟩)), (4, .pointer (some ⟨m.size, 0, none⟩)), (7, .slice qv l.length cv), (8, nv x), (9, nv y), (10, .bool ((g.take j).all fun u => x.testBit u)), (13, nv long), (14, nv i), (25, .slice qs g.length cs), (26, nv g.length), (27, nv j)]) ⟨0, rfl, by omega, rfl, rfl, rfl, rfl, rfl, rfl, rfl, rfl, rfl, rfl, rfl, rfl, trivial⟩ ?_
    rintro k' ρ _ ⟨j, rfl, hj, rfl, hh⟩
    rw [hh.env]; clear hh
    refine cSeq ?_
    refine cRegion ?_
    refine sBin rfl rfl (aInt_lss) ?_
    refine sNil (kSeqN ?_)
    refine cSeq ?_   -- seq 13
    refine cCond rfl (fun c1 => ?_) (fun c1 => ?_)
    ·
      obtain ⟨b2, o2, p2, r2, cd, e2, g2, x2⟩ := har.atN (by omega)
      cases e2
      have hgj := hless g[j] (List.getElem_mem c1)
      have hsh := Nat.shiftRight_le x g[j]
      have hst : (g.take (j + 1)).all (fun u => x.testBit u) = ((g.take j).all (fun u => x.testBit u) && x.testBit g[j]) := by
        rw [List.take_add_one, List.getElem?_eq_getElem c1, Option.toList, List.all_append]
        simp
      refine cSkip (kSeqN ?_)
      refine cSeq ?_
      refine cBlock ?_
      refine cSeq ?_
      refine cRegion ?_
      refine sIx T25 S3 rfl rfl (by omega) ?_
      refine sLd (v := nv g[j]) A3 rfl g2 (x2 j g[j] (by simp)) ?_
      refine sAs (v := nv _) rfl ?_
      refine sNil (kSeqN ?_)
      refine cRegion ?_
      refine sMv (v := .bool _) rfl ?_
      refine sMv (v := .bool _) rfl ?_
      by_cases h5 : (g.take j).all (fun u => x.testBit u) = true
      ·
        rw [h5]
        refine sG rfl rfl ?_
        refine sMv (v := nv _) rfl ?_
        refine sG rfl rfl ?_
        refine sMv (v := nv _) rfl ?_
        refine sG rfl rfl ?_
        refine sBin (a := x) (b := g[j]) rfl rfl (aInt_shr (by omega)) ?_
        refine sG rfl rfl ?_
        refine sBin (b := 1) rfl rfl (aInt_and (by omega)) ?_
        refine sG rfl rfl ?_
        refine sBin (v := .bool (x.testBit g[j])) (b := 1) rfl rfl (by rw [aInt_eql, bitB]) ?_
        refine sP (v := .bool _) rfl ?_
        refine sAs (v := .bool _) rfl ?_
        refine sNil (kBlkN (kSeqN ?_))
        refine cRegion ?_
        refine sBin rfl rfl (aInt_add (b := 1) (by omega)) ?_
        refine sMv (v := nv _) rfl ?_
        refine sNil (kSeqN ?_)
        refine ⟨_, ?_, j + 1, rfl, by omega, rfl, rfl, rfl, rfl, rfl, rfl, ?_, rfl, rfl, rfl, rfl, rfl, trivial⟩
        · omega
        · rw [hst, h5, Bool.true_and]; rfl
      ·
        rw [Bool.eq_false_iff.2 h5]
        refine sGno (q' := false) rfl rfl (by simp) ?_
        refine sGno (q' := false) rfl rfl (by simp) ?_
        refine sGno (q' := false) rfl rfl (by simp) ?_
        refine sGno (q' := false) rfl rfl (by simp) ?_
        refine sGno (q' := false) rfl rfl (by simp) ?_
        refine sP (v := .bool _) rfl ?_
        refine sAs (v := .bool _) rfl ?_
        refine sNil (kBlkN (kSeqN ?_))
        refine cRegion ?_
        refine sBin rfl rfl (aInt_add (b := 1) (by omega)) ?_
        refine sMv (v := nv _) rfl ?_
        refine sNil (kSeqN ?_)
        refine ⟨_, ?_, j + 1, rfl, by omega, rfl, rfl, rfl, rfl, rfl, rfl, ?_, rfl, rfl, rfl, rfl, rfl, trivial⟩
        · omega
        · rw [hst, Bool.eq_false_iff.2 h5, Bool.false_and]; rfl
    ·
      obtain rfl : j = g.length := by omega
      rw [List.take_length, hmay]
      refine cExit (kSeqE (kSeqE (kBlkS (kSeqN ?_))))
      refine cSeq ?_
      refine cRegion ?_
      refine sMv (v := .bool _) rfl ?_
      refine sNil (kSeqN ?_)
      refine cCond (p := mayM (needsM G) x y = true) (by show Value.bool _ = Value.bool _; rw [Bool.decide_eq_true]) (fun c2 => ?_) (fun c2 => ?_)
      ·
        have h2y : 2 ^ y < 2 ^ 10 := Nat.pow_lt_pow_right (by omega) (by omega)
        have hxy : x ^^^ 2 ^ y < 2 ^ 10 := Nat.xor_lt_two_pow hex h2y
        have hO20' := hO.only hO20 (by omega)
        have hz20 := hO20.1
        refine cSeq ?_
        refine cRegion ?_
        refine sMv (v := nv _) rfl ?_
        refine sMv (v := nv _) rfl ?_
        refine sBin (a := 1) (b := y) rfl rfl (aInt_shl (by omega)) ?_
        rw [Nat.shiftLeft_eq, Nat.one_mul]
        refine sBin rfl rfl (aInt_xor (by omega)) ?_
        refine sAs (v := nv _) rfl ?_
        refine sNil (kSeqN ?_)
        refine cRegion ?_
        refine sMv (v := .slice _ _ _) rfl ?_
        refine sMv (v := nv _) rfl ?_
        refine sBuildS T25 S3 Z3 (by decide) (by decide) (by decide) (by kernel_rfl) fill1 rfl ?_
        refine sApp App25 rfl rfl (N := m.size + 1) (hO20'.ext (.push _ _)) one_ints (by simp; omega) (by simp; omega) fun v3 m3 hO3 hL3 => ?_
        rw [show ofs l ++ [Int.ofNat y] = ofs (l ++ [y]) by rw [ofs_append]; rfl] at hO3
        obtain ⟨q3, cp3, rfl⟩ := hO3.ints.lenN
        refine sAs (v := .slice _ _ _) rfl ?_
        refine sNil (kBlkN (kSeqN ?_))
        refine cRegion ?_
        refine sBin rfl rfl (aInt_add (b := 1) (by omega)) ?_
        refine sMv (v := nv _) rfl ?_
        refine sNil (kSeqN ?_)
        have hL4 := mk_own' (M := m.size + 1) (by omega) hL3
        have hend : endX 0 (l ++ [y]) = x ^^^ 2 ^ y := by rw [endX_snoc, hx]
        refine ⟨_, ?_, i + 1, _, l ++ [y], rfl, by omega, by simp; omega, fun z hz => ?_, playE_snoc (by rw [hpl]; exact hy) hpe (by rw [hx]; exact c2), by rw [hend]; exact hxy, hO3, (hS20.low hN0 hL4 (by omega)).le (by omega), hX20.trans hL4.x, rfl, rfl, rfl, by rw [hend]; rfl, rfl, rfl, trivial⟩
        · omega
        · rcases List.mem_append.1 hz with hz | hz
          · exact hlx z hz
          · rw [List.mem_singleton.1 hz]; exact hy
      ·
        refine cSkip (kBlkN (kSeqN ?_))
        refine cRegion ?_
        refine sBin rfl rfl (aInt_add (b := 1) (by omega)) ?_
        refine sMv (v := nv _) rfl ?_
        refine sNil (kSeqN ?_)
        refine ⟨_, ?_, i + 1, _, l, rfl, by omega, by omega, hlx, hpe, by rw [hx]; exact hex, hO.only hO20 (by omega), hS20.le (by omega), hX20, rfl, rfl, rfl, by rw [hx]; rfl, rfl, rfl, trivial⟩
        omega
  ·
    refine cExit (kSeqE (kSeqE (kBlkS (kSeqN ?_))))
    refine cSeq ?_
    refine cRegion ?_
    refine sMv (v := .slice _ _ _) rfl ?_
    refine sAs (v := .slice _ _ _) rfl ?_
    refine sNil (kSeqN ?_)
    refine cRet ?_
    refine ⟨.inr rfl, _, rfl, l, hO.mono (by omega), by omega, hlx, hpe, hS.le (by omega), ?_⟩
    exact (Low.push m.size (Nat.le_refl _) _).x.trans ⟨hX.1, fun c h1 h2 => hX.2 c (by omega) h2⟩

theorem spec_ReverseN {m : Mem} : ∃ v m', ACalls Tryd.prog 88 #[.slice none 0 0] m v m' ∧ (m = m') := by
  have hrel : True := trivial
  refine wpF (args := [_]) mixed okf88 (fn := Tryd.f88) rfl rfl rfl (by simp) ?_
  refine cSeq ?_
  refine cRegion ?_
  refine sMv (v := .slice _ _ _) rfl ?_
  refine sLen T25 rfl ?_
  refine sBinI (v := .int .i64 (-1)) (a := Int.ofNat 0) (b := 1) rfl rfl rfl ?_
  refine sAs (v := nv 0) rfl ?_
  refine sAs (v := .int _ _) rfl ?_
  refine sNil (kSeqN ?_)
  refine cBlock ?_
  refine wpC_loop (fun k ρ m' => m = m' ∧ Has ρ [(0, .slice none 0 0), (2, nv 0), (3, .int .i64 (-1))]) (k := 0) ⟨rfl, rfl, rfl, rfl, trivial⟩ ?_
  rintro k ρ _ ⟨rfl, hh⟩
  rw [hh.env]; clear hh
  refine cSeq ?_   -- seq 1
  refine cSeq ?_
  refine cRegion ?_
  refine sMv (v := nv _) rfl ?_
  refine sMv (v := .int _ _) rfl ?_
  refine sBinI (v := .bool false) rfl rfl rfl ?_
  refine sNil (kSeqN ?_)
  refine cCondF rfl ?_
  refine cExit (kSeqE (kSeqE (kBlkS ?_)))
  exact ⟨.inl rfl, _, rfl, rfl⟩

theorem spec_ReverseO {m : Mem} {N : Nat} {v : Value} {L : List Nat} (h : OwnF N m v (ofs L)) (hl : L.length < 1000000) : ∃ w m', ACalls Tryd.prog 88 #[v] m w m' ∧ (Sorted2 N v L.reverse m m') := by
  rcases h with ⟨h1, rfl⟩ | ⟨b, cap, c, rfl, h2, h3, h4, h5, h6⟩
  · obtain rfl : L = [] := by cases L with
      | nil => rfl
      | cons a r => simp [ofs] at h1
    obtain ⟨w, m', h, rfl⟩ := spec_ReverseN (m := m)
    exact ⟨w, _, h, .nil _ _, rfl, fun _ _ => rfl⟩
  have hbm := live h3
  rw [ofs_length] at h4 ⊢
  generalize hn : L.length = n at *
  refine wpF (args := [_]) mixed okf88 (fn := Tryd.f88) rfl rfl rfl (by simp) ?_
  refine cSeq ?_
  refine cRegion ?_
  refine sMv (v := .slice _ _ _) rfl ?_
  refine sLen T25 rfl ?_
  refine sBinI (v := .int .i64 (Int.ofNat n - 1)) rfl rfl (aInt_subI (b := 1) (by simp; omega)) ?_
  refine sAs (v := nv 0) rfl ?_
  refine sAs (v := .int _ _) rfl ?_
  refine sNil (kSeqN ?_)
  refine cBlock ?_
  refine wpC_loop (fun k ρ m' => ∃ (i : Nat) (T : List Nat) (d : Array Value), k = n - 2 * i ∧ 2 * i ≤ n + 1 ∧ T.length = n ∧ (∀ k, T[k]? = if k < n ∧ (k < i ∨ n ≤ k + i) then L[n - 1 - k]? else L[k]?) ∧ Mem.get m' b = .cells true d ∧ d.size = c.size ∧ (∀ (j x : Nat), T[j]? = some x → d[j]? = some (nv x)) ∧ (∀ b', b ≠ b' → Mem.get m' b' = Mem.get m b') ∧ m'.size = m.size ∧ Has ρ [(0, .slice (some ⟨b, 0, some 1⟩) n cap), (2, nv i), (3, .int .i64 (Int.ofNat n - 1 - Int.ofNat i))]) ⟨0, L, c, rfl, by omega, hn, fun k => by rw [if_neg (by omega)], h3, rfl, fun j x hj => h6 j (Int.ofNat x) (by simp [ofs, hj]), fun _ _ => rfl, rfl, rfl, rfl, by show Value.int .i64 (Int.ofNat n - 1) = _; congr 1; simp, trivial⟩ ?_
  rintro k ρ m' ⟨i, T, d, rfl, hi, hT, ht, g1, hds, hdg, hB, hsz, hh⟩
  rw [hh.env]; clear hh
  refine cSeq ?_   -- seq 1
  refine cSeq ?_
  refine cRegion ?_
  refine sMv (v := nv _) rfl ?_
  refine sMv (v := .int _ _) rfl ?_
  refine sBinI rfl rfl aInt_lssNI ?_
  refine sNil (kSeqN ?_)
  refine cCond rfl (fun c0 => ?_) (fun c0 => ?_)
  ·
    have hij : 2 * i + 1 < n := by have : (i : Int) < (n : Int) - 1 - (i : Int) := c0; omega
    have hj : Int.ofNat n - 1 - Int.ofNat i = Int.ofNat (n - 1 - i) := by simp; omega
    rw [hj]
    have hTi : T[i]? = some (L[i]'(by omega)) := by rw [ht, if_neg (by omega), List.getElem?_eq_getElem]
    have hTj : T[n - 1 - i]? = some (L[n - 1 - i]'(by omega)) := by rw [ht, if_neg (by omega), List.getElem?_eq_getElem]
    refine cSkip (kSeqN ?_)
    refine cSeq ?_
    refine cBlock ?_
    refine cDraw rfl ?_
    refine sMv (v := .slice _ _ _) rfl ?_
    refine sMv (v := nv i) rfl ?_
    refine sMv (v := .slice _ _ _) rfl ?_
    refine sMv (v := nv (n - 1 - i)) rfl ?_
    refine sMv (v := .slice _ _ _) rfl ?_
    refine sMv (v := nv (n - 1 - i)) rfl ?_
    refine sIx T25 S3 rfl rfl (by omega) ?_
    refine sLd (v := nv (L[n - 1 - i]'(by omega))) A3 rfl (by simp (disch := first | omega | (simp only [Array.size_push, Array.size_setIfInBounds]; done) | (simp only [Array.size_push, Array.size_setIfInBounds]; omega)) only [gP, gPn, gS, gSn, g1]; try rfl) (by rw [Nat.zero_add, Nat.mul_one]; exact hdg _ _ hTj) ?_
    refine sMv (v := .slice _ _ _) rfl ?_
    refine sMv (v := nv _) rfl ?_
    refine sIx T25 S3 rfl rfl (by omega) ?_
    refine sLd (v := nv (L[i]'(by omega))) A3 rfl (by simp (disch := first | omega | (simp only [Array.size_push, Array.size_setIfInBounds]; done) | (simp only [Array.size_push, Array.size_setIfInBounds]; omega)) only [gP, gPn, gS, gSn, g1]; try rfl) (by rw [Nat.zero_add, Nat.mul_one]; exact hdg _ _ hTi) ?_
    refine sIx T25 S3 rfl rfl (by omega) ?_
    refine sSt (v := nv _) S3 rfl rfl (by simp (disch := first | omega | (simp only [Array.size_push, Array.size_setIfInBounds]; done) | (simp only [Array.size_push, Array.size_setIfInBounds]; omega)) only [gP, gPn, gS, gSn, g1]; try rfl) (by simp; omega) rfl rfl ?_
    refine sIx T25 S3 rfl rfl (by omega) ?_
    refine sSt (v := nv _) S3 rfl rfl (by simp (disch := first | omega | (simp only [Array.size_push, Array.size_setIfInBounds]; done) | (simp only [Array.size_push, Array.size_setIfInBounds]; omega)) only [gP, gPn, gS, gSn, g1]; try rfl) (by simp; omega) rfl rfl ?_
    rw [Nat.zero_add, Nat.mul_one i, Nat.zero_add, Nat.mul_one (n - 1 - i)]
    refine sNil (kBlkN (kSeqN ?_))
    refine cRegion ?_
    refine sMv (v := nv _) rfl ?_
    refine sBin rfl rfl (aInt_add (b := 1) (by omega)) ?_
    refine sMv (v := nv (n - 1 - i)) rfl ?_
    refine sBinI (v := .int .i64 (Int.ofNat (n - 1 - i) - 1)) rfl rfl (aInt_subI (b := 1) (by simp; omega)) ?_
    refine sAs (v := nv _) rfl ?_
    refine sAs (v := .int _ _) rfl ?_
    refine sNil (kSeqN ?_)
    refine ⟨_, ?_, i + 1, (T.set i (L[n - 1 - i]'(by omega))).set (n - 1 - i) (L[i]'(by omega)), _, rfl, by omega, by simpa using hT, fun k => ?_, gS rfl (by rw [Array.size_setIfInBounds]; exact live g1), by simpa using hds, fun j x hjx => ?_, fun b' hb' => by rw [gSn hb', gSn hb']; exact hB b' hb', by simpa using hsz, rfl, rfl, ?_, trivial⟩
    · omega
    · rw [List.getElem?_set, List.getElem?_set, List.length_set, ht k]
      by_cases h1 : k = n - 1 - i
      · subst h1
        rw [if_pos rfl, if_pos (by omega), if_pos (by omega), show n - 1 - (n - 1 - i) = i by omega, List.getElem?_eq_getElem]
      · rw [if_neg (fun h => h1 h.symm)]
        by_cases h2 : k = i
        · subst h2
          rw [if_pos rfl, if_pos (by omega), if_pos (by omega), List.getElem?_eq_getElem]
        · rw [if_neg (fun h => h2 h.symm)]
          by_cases h3 : k < n ∧ (k < i ∨ n ≤ k + i)
          · rw [if_pos h3, if_pos (by omega)]
          · rw [if_neg h3, if_neg (by omega)]
    · rw [List.getElem?_set, List.getElem?_set, List.length_set] at hjx
      rw [Array.getElem?_setIfInBounds, Array.getElem?_setIfInBounds, Array.size_setIfInBounds]
      by_cases h1 : n - 1 - i = j
      · rw [if_pos h1, if_pos (by omega)] at hjx
        rw [if_pos h1, if_pos (by omega), ← Option.some.inj hjx]
      · rw [if_neg h1] at hjx
        rw [if_neg h1]
        by_cases h2 : i = j
        · rw [if_pos h2, if_pos (by omega)] at hjx
          rw [if_pos h2, if_pos (by omega), ← Option.some.inj hjx]
        · rw [if_neg h2] at hjx
          rw [if_neg h2]; exact hdg j x hjx
    · show Value.int .i64 (Int.ofNat (n - 1 - i) - 1) = _
      congr 1; simp; omega
  ·
    refine cExit (kSeqE (kSeqE (kBlkS ?_)))
    have hij : n ≤ 2 * i + 1 := by have : ¬ (i : Int) < (n : Int) - 1 - (i : Int) := c0; omega
    refine ⟨.inl rfl, _, rfl, .inr ⟨b, cap, d, by rw [ofs_length, List.length_reverse, hn], h2, g1, by rw [ofs_length, List.length_reverse, hn]; exact h4, by rw [hds]; exact h5, fun j y hj => ?_⟩, hsz, fun b' hb' => hB b' (fun e => hb' (by rw [← e]; rfl))⟩
    simp only [ofs, List.getElem?_map, Option.map_eq_some_iff] at hj
    obtain ⟨x, hx, rfl⟩ := hj
    refine hdg j x ?_
    have hjn : j < n := by have := (List.getElem?_eq_some_iff.1 hx).1; rw [List.length_reverse, hn] at this; exact this
    rw [List.getElem?_reverse (by omega), hn] at hx
    rw [ht]
    by_cases h3 : j < i ∨ n ≤ j + i
    · rw [if_pos ⟨hjn, h3⟩]; exact hx
    · rw [if_neg (by omega), ← hx]; congr 1; omega

theorem okf56 : okF Tryd.prog H0 56 9 = true := by kernel_rfl
theorem spec_backwards {m : Mem} {a : Value} {L : List Nat} (ha : IntsAt m a (ofs L)) (hl : L.length < 1000000) : ∃ v m', ACalls Tryd.prog 56 #[a] m v m' ∧ (OwnF m.size m' v (ofs L.reverse) ∧ Ext m m') := by
  obtain ⟨v5, m5, h5, o5, k5⟩ := spec_Clone ha (by rw [ofs_length]; omega)
  obtain ⟨w7, m7, h7, k7⟩ := spec_ReverseO o5 hl
  obtain ⟨q, cap, rfl⟩ := ha.lenN
  obtain ⟨q5, c5, rfl⟩ := o5.ints.lenN
  refine wpF (args := [_]) mixed okf56 (fn := Tryd.f56) rfl rfl rfl (by simp) ?_
  refine cSeq ?_
  refine cRegion ?_
  refine sAs (v := .slice _ _ _) rfl ?_
  refine sNil (kSeqN ?_)
  refine cSeq ?_
  refine cRegion ?_
  refine sMv (v := .slice _ _ _) rfl ?_
  refine sCall1 rfl call15 rfl h5 ?_
  refine sAs (v := .slice _ _ _) rfl ?_
  refine sNil (kSeqN ?_)
  refine cSeq ?_
  refine cRegion ?_
  refine sMv (v := .slice _ _ _) rfl ?_
  refine sCall1 rfl call88 rfl h7 ?_
  refine sNil (kSeqN ?_)
  refine cSeq ?_
  refine cRegion ?_
  refine sMv (v := .slice _ _ _) rfl ?_
  refine sAs (v := .slice _ _ _) rfl ?_
  refine sNil (kSeqN ?_)
  refine cRet ?_
  exact ⟨.inr rfl, _, rfl, k7.1, Low.to_ext k5 k7.low (Nat.le_refl _)⟩

end Go.AM

/-! ### M30 -/
namespace Go.AM
set_option linter.unusedVariables false
set_option linter.unusedSimpArgs false
theorem rowE_zero {n : Nat} : ∀ {r : List Nat} {last : Int}, (∀ k ∈ r, k < n ∧ last < Int.ofNat k) → r.Pairwise (· < ·) → rowE n last (ofs r) = 0
  | [], _, _, _ => rfl
  | k :: r, last, h, hp => by
    obtain ⟨h1, h2⟩ := h k (by simp)
    show rowE n last (Int.ofNat k :: ofs r) = 0
    rw [rowE, if_neg (by rintro (h | h); omega; simp at h; omega)]
    rw [List.pairwise_cons] at hp
    exact rowE_zero (fun j hj => ⟨(h j (by simp [hj])).1, by have := hp.1 j hj; simp; omega⟩) hp.2
theorem rowsE_zero : ∀ {N : List (List Nat)} {i : Nat}, (∀ g ∈ N, g.length ≤ 2) → (∀ (j : Nat) (g : List Nat), N[j]? = some g → ∀ k ∈ g, k < i + j) → (∀ g ∈ N, g.Pairwise (· < ·)) → rowsE i (ofs2 N) = 0
  | [], _, _, _, _ => rfl
  | g :: N, i, h1, h2, h3 => by
    show rowsE i (ofs g :: ofs2 N) = 0
    have hr : rowE i (-1) (ofs g) = 0 := rowE_zero (fun k hk => ⟨by have := h2 0 g rfl k hk; omega, by simp; omega⟩) (h3 g (by simp))
    rw [rowsE, if_neg (by rw [ofs_length]; have := h1 g (by simp); omega), if_neg (by rw [hr]; simp)]
    exact rowsE_zero (fun g' hg => h1 g' (by simp [hg])) (fun j g' hj k hk => by have := h2 (j + 1) g' (by simpa using hj) k hk; omega) (fun g' hg => h3 g' (by simp [hg]))
theorem Dag.check {N : List (List Nat)} (h : Dag N) : checkG (ofs2 N) = 0 := by
  have h1 := h.one
  have h2 := h.ten
  rw [checkG, if_neg (by rw [ofs2_length]; omega)]
  exact rowsE_zero h.two (fun j g hj k hk => by have := h.less j g hj k hk; omega) h.rise
theorem endX_app (x : Nat) (l r : List Nat) : endX x (l ++ r) = endX (endX x l) r := by simp [endX]
theorem playL_ofs : ∀ (l : List Nat) (x : Nat), playL x (ofs l) = (List.range l.length).map fun i => endX x (l.take (i + 1))
  | [], _ => rfl
  | y :: l, x => by
    show playL x (Int.ofNat y :: ofs l) = _
    rw [playL, playL_ofs l, List.length_cons, List.range_succ_eq_map, List.map_cons, List.map_map]
    rfl
theorem playedL_ofs (l : List Nat) : playedL (ofs l) = (List.range (l.length + 1)).map fun i => endX 0 (l.take i) := by
  rw [playedL, playL_ofs, List.range_succ_eq_map, List.map_cons, List.map_map]
  rfl
theorem playedL_get {l : List Nat} {i : Nat} (h : i ≤ l.length) : (playedL (ofs l))[i]? = some (endX 0 (l.take i)) := by
  rw [playedL_ofs, List.getElem?_map, List.getElem?_range (by omega)]; rfl
theorem playedL_length (l : List Nat) : (playedL (ofs l)).length = l.length + 1 := by rw [playedL_ofs]; simp
theorem playE_may {P : List Nat} : ∀ {l : List Nat} {x : Nat}, playE P x (ofs l) = 0 → ∀ (i : Nat) (y : Nat), l[i]? = some y → mayM P (endX x (l.take i)) y = true
  | [], _, _, i, y, hi => by simp at hi
  | z :: l, x, h, i, y, hi => by
    have h' : playE P x (Int.ofNat z :: ofs l) = 0 := h
    rw [playE] at h'
    split at h'
    · cases h'
    · split at h'
      · rename_i h2
        cases i with
        | zero => simp at hi; subst hi; exact h2
        | succ i => exact playE_may h' i y (by simpa using hi)
      · cases h'
theorem playE_lt {P : List Nat} : ∀ {l : List Nat} {x : Nat}, playE P x (ofs l) = 0 → ∀ y ∈ l, y < P.length
  | [], _, _, y, hy => by simp at hy
  | z :: l, x, h, y, hy => by
    have h' : playE P x (Int.ofNat z :: ofs l) = 0 := h
    rw [playE] at h'
    split at h'
    · cases h'
    · rename_i h1
      split at h'
      · rcases List.mem_cons.1 hy with rfl | hy
        · simp at h1; omega
        · exact playE_lt h' y hy
      · cases h'
theorem take_succ' {l : List Nat} {i y : Nat} (h : l[i]? = some y) : l.take (i + 1) = l.take i ++ [y] := by
  rw [List.take_add_one, h]; rfl
/-- Backwards: the same positions. -/
theorem endX_back {l : List Nat} : ∀ {j : Nat}, j ≤ l.length → endX 0 (l ++ l.reverse.take j) = endX 0 (l.take (l.length - j))
  | 0, _ => by simp
  | j + 1, h => by
    have hj : l.reverse[j]? = l[l.length - 1 - j]? := List.getElem?_reverse (by omega)
    obtain ⟨y, hy⟩ : ∃ y, l[l.length - 1 - j]? = some y := ⟨_, List.getElem?_eq_getElem (by omega)⟩
    rw [take_succ' (hj.trans hy), ← List.append_assoc, endX_snoc, endX_back (by omega)]
    have e : l.take (l.length - j) = l.take (l.length - (j + 1)) ++ [y] := by
      have := take_succ' hy
      rw [show l.length - 1 - j + 1 = l.length - j by omega] at this
      rw [this, show l.length - 1 - j = l.length - (j + 1) by omega]
    rw [e, endX_snoc, xor_xor]
theorem playE_back {P : List Nat} (hP : LowP P) {l : List Nat} (h : playE P 0 (ofs l) = 0) : ∀ {j : Nat}, j ≤ l.length → playE P 0 (ofs (l ++ l.reverse.take j)) = 0
  | 0, _ => by simpa using h
  | j + 1, hj => by
    have hjr : l.reverse[j]? = l[l.length - 1 - j]? := List.getElem?_reverse (by omega)
    have hy : l[l.length - 1 - j]? = some l[l.length - 1 - j] := List.getElem?_eq_getElem (by omega)
    rw [take_succ' (hjr.trans hy), ← List.append_assoc]
    refine playE_snoc (playE_lt h _ (List.getElem_mem _)) (playE_back hP h (by omega)) ?_
    rw [endX_back (by omega)]
    have e : l.take (l.length - j) = l.take (l.length - 1 - j) ++ [l[l.length - 1 - j]] := by
      have := take_succ' hy
      rwa [show l.length - 1 - j + 1 = l.length - j by omega] at this
    rw [e, endX_snoc, mayM_back hP]
    exact playE_may h _ _ hy
theorem back_full {P : List Nat} (hP : LowP P) {l : List Nat} (h : playE P 0 (ofs l) = 0) : playE P 0 (ofs (l ++ l.reverse)) = 0 := by
  have := playE_back hP h (j := l.length) (Nat.le_refl _)
  rwa [List.take_of_length_le (by simp)] at this
theorem back_low {l : List Nat} {i : Nat} (h : i ≤ l.length) : (playedL (ofs (l ++ l.reverse)))[i]? = some (endX 0 (l.take i)) := by
  rw [playedL_get (by simp; omega), List.take_append_of_le_length h]
theorem back_high {l : List Nat} {i : Nat} (h : i ≤ l.length) : (playedL (ofs (l ++ l.reverse)))[2 * l.length - i]? = some (endX 0 (l.take i)) := by
  rw [playedL_get (by simp; omega), List.take_append, List.take_of_length_le (by omega), show 2 * l.length - i - l.length = l.length - i by omega, endX_back (by omega), show l.length - (l.length - i) = i by omega]
theorem endX_lt {n : Nat} {l : List Nat} (h : ∀ y ∈ l, y < n) : endX 0 l < 2 ^ n := by
  suffices hh : ∀ (l : List Nat) (x : Nat), x < 2 ^ n → (∀ y ∈ l, y < n) → endX x l < 2 ^ n from hh l 0 (Nat.two_pow_pos n) h
  intro l
  induction l with
  | nil => intro x hx _; exact hx
  | cons y l ih => intro x hx h; exact ih _ (Nat.xor_lt_two_pow hx (Nat.pow_lt_pow_right (by omega) (h y (by simp)))) fun z hz => h z (by simp [hz])
theorem gPlay_zero {N : List (List Nat)} (hN : Dag N) {l : List Nat} (h : playE (needsM N) 0 (ofs l) = 0) (hl : l.length ≤ 120) : gPlayE (ofs2 N) (ofs l) = 0 := by
  rw [gPlayE, if_pos hN.check, natsG_ofs2, playedE, if_neg (by rw [ofs_length]; omega)]; exact h
end Go.AM

/-! ### M31 -/
namespace Go.AM
set_option linter.unusedVariables false
set_option linter.unusedSimpArgs false
theorem popc_flip : ∀ (n x : Nat), (x.testBit n = true → popc (x ^^^ 2 ^ n) + 1 = popc x) ∧ (x.testBit n = false → popc (x ^^^ 2 ^ n) = popc x + 1)
  | 0, x => by
    have h1 := popc_half x
    have h2 := popc_half (x ^^^ 2 ^ 0)
    have e1 : (x ^^^ 2 ^ 0) / 2 = x / 2 := by
      apply Nat.eq_of_testBit_eq; intro i
      rw [Nat.testBit_div_two, Nat.testBit_div_two, Nat.testBit_xor, Nat.testBit_two_pow, decide_eq_false (by omega), Bool.xor_false]
    have e2 : (x ^^^ 2 ^ 0) % 2 = if x % 2 = 1 then 0 else 1 := by
      have := Nat.testBit_xor x (2 ^ 0) 0
      rw [Nat.testBit_zero, Nat.testBit_zero] at this
      have h3 := Nat.mod_two_eq_zero_or_one x
      have h4 := Nat.mod_two_eq_zero_or_one (x ^^^ 2 ^ 0)
      rcases h3 with h3 | h3 <;> rcases h4 with h4 | h4 <;> simp_all
    rw [e1, e2] at h2
    rw [Nat.testBit_zero]
    constructor
    · intro h; have := of_decide_eq_true h; rw [if_pos this] at h2; omega
    · intro h; have := of_decide_eq_false h; rw [if_neg this] at h2; omega
  | n + 1, x => by
    have h1 := popc_half x
    have h2 := popc_half (x ^^^ 2 ^ (n + 1))
    have e1 : (x ^^^ 2 ^ (n + 1)) / 2 = (x / 2) ^^^ 2 ^ n := by
      apply Nat.eq_of_testBit_eq; intro i
      rw [Nat.testBit_div_two, Nat.testBit_xor, Nat.testBit_xor, Nat.testBit_div_two, Nat.testBit_two_pow, Nat.testBit_two_pow]
      congr 1
      exact decide_eq_decide.2 (by omega)
    have e2 : (x ^^^ 2 ^ (n + 1)) % 2 = x % 2 := by
      have := Nat.testBit_xor x (2 ^ (n + 1)) 0
      rw [Nat.testBit_zero, Nat.testBit_zero, Nat.testBit_two_pow] at this
      have h3 := Nat.mod_two_eq_zero_or_one x
      have h4 := Nat.mod_two_eq_zero_or_one (x ^^^ 2 ^ (n + 1))
      rcases h3 with h3 | h3 <;> rcases h4 with h4 | h4 <;> simp_all
    have ih := popc_flip n (x / 2)
    rw [e1, e2] at h2
    rw [Nat.testBit_succ]
    constructor
    · intro h; have := ih.1 h; omega
    · intro h; have := ih.2 h; omega
theorem popc_posM {l : List Nat} (h : l.Pairwise (· < ·)) : popc (posM l) = l.length := by
  have key : ∀ i, i ≤ l.length → popc (posM (l.take i)) = i := by
    intro i
    induction i with
    | zero => intro _; rfl
    | succ i ih =>
      intro hi
      obtain ⟨y, hy⟩ : ∃ y, l[i]? = some y := ⟨_, List.getElem?_eq_getElem (by omega)⟩
      have hni : y ∉ l.take i := fun hm => by
        obtain ⟨j, hj, e⟩ := List.getElem_of_mem hm
        rw [List.length_take] at hj
        rw [List.getElem_take] at e
        obtain ⟨hi2, hye⟩ := List.getElem?_eq_some_iff.1 hy
        have := List.pairwise_iff_getElem.1 h j i (by omega) hi2 (by omega)
        omega
      have hb : (posM (l.take i)).testBit y = false := by rw [posM_bit]; exact decide_eq_false hni
      rw [take_succ' hy]
      have e : posM (l.take i ++ [y]) = posM (l.take i) ^^^ 2 ^ y := by
        apply Nat.eq_of_testBit_eq; intro j
        rw [posM_bit, Nat.testBit_xor, Nat.testBit_two_pow, posM_bit]
        by_cases h1 : j = y
        · subst h1; simp [hni]
        · have : ¬ y = j := fun h => h1 h.symm
          simp [h1, this]
      rw [e, (popc_flip y _).2 hb, ih (by omega)]
  have := key l.length (Nat.le_refl _)
  rwa [List.take_length] at this
theorem Bfs.count {P : List Nat} {k g : Nat} {es : List (Nat × Nat)} (h : Bfs P k g es) (hP : LowP P) : ∀ (d y : Nat), lookE es y = some d → (popc y + d) % 2 = popc g % 2 ∧ popc g ≤ popc y + d
  | 0, y, hy => by
    have := h.zero _ (lookE_mem hy) rfl
    simp only at this
    subst this
    exact ⟨rfl, Nat.le_refl _⟩
  | d + 1, y, hy => by
    obtain ⟨n, hn, hw, hl⟩ := h.back hP hy
    have ih := Bfs.count h hP d _ hl
    have hf := popc_flip n y
    cases hb : y.testBit n with
    | true => have := hf.1 hb; omega
    | false => have := hf.2 hb; omega
theorem isShort_pop {P : List Nat} {k g : Nat} (h : isShort P k g = true) : popc g ≤ k := by
  refine Decidable.byContradiction fun hk => ?_
  rw [isShort, farM, if_pos (by omega)] at h
  cases h
theorem short_look {P : List Nat} {k g : Nat} (h : isShort P k g = true) : lookE (farM P k g) 0 = some (shortM P k g).length := by
  unfold isShort at h
  obtain ⟨d, hd⟩ := Option.isSome_iff_exists.1 h
  rw [shortM, pathF_len, hd]; rfl
/-- With more freedom nothing is further away. -/
theorem far_le {P : List Nat} {k k' g : Nat} (hP : P.length ≤ 10) (hg : g < 2 ^ P.length) (hk : popc g ≤ k) (hk' : popc g ≤ k')
    (hw : ∀ x n, x < 2 ^ P.length → n < P.length → wayB P k x n = true → wayB P k' x n = true) : ∀ (d y : Nat), lookE (farM P k g) y = some d → ∃ d', lookE (farM P k' g) y = some d' ∧ d' ≤ d := by
  have hb := farM_bfs hg hk
  intro d
  induction d with
  | zero =>
    intro y hy
    have := hb.zero _ (lookE_mem hy) rfl
    simp only at this
    subst this
    exact ⟨0, farM_root hg hk', Nat.le_refl _⟩
  | succ d ih =>
    intro y hy
    obtain ⟨n, x, hn, hx, hyx, hwx⟩ := hb.par _ (lookE_mem hy) (Nat.succ_pos d)
    simp only at hx hyx
    rw [Nat.add_sub_cancel] at hx
    obtain ⟨d1, h1, h2⟩ := ih x (lookE_of_mem hb.good.once hx)
    obtain ⟨d2, h3, h4⟩ := farM_next hP hg h1 hn (hw x n (hb.good.lt _ hx) hn hwx)
    exact ⟨d2, by rw [hyx]; exact h3, by omega⟩
theorem wayB_mono {P : List Nat} {k k' x n : Nat} (h : k ≤ k') (hw : wayB P k x n = true) : wayB P k' x n = true := by
  unfold wayB at *
  rw [Bool.and_eq_true] at *
  exact ⟨hw.1, decide_eq_true (Nat.le_trans (of_decide_eq_true hw.2) h)⟩
theorem short_mono {P : List Nat} {k k' g : Nat} (hP : P.length ≤ 10) (hg : g < 2 ^ P.length) (hk : k ≤ k') (h : isShort P k g = true) : isShort P k' g = true ∧ (shortM P k' g).length ≤ (shortM P k g).length := by
  have hp := isShort_pop h
  obtain ⟨d', h1, h2⟩ := far_le hP hg hp (Nat.le_trans hp hk) (fun x n _ _ hw => wayB_mono hk hw) _ _ (short_look h)
  have hs : isShort P k' g = true := by rw [isShort, h1]; rfl
  have := short_look hs
  rw [h1] at this
  have := Option.some.inj this
  exact ⟨hs, by omega⟩
theorem short_top {P : List Nat} {g : Nat} (hL : LowP P) (hP : P.length ≤ 10) (hg : g < 2 ^ P.length) : (shortM P 10 g).length = (shortM P P.length g).length := by
  have hs := isShort_all (k := P.length) hL hP hg (Nat.le_refl _)
  obtain ⟨hs10, hle⟩ := short_mono hP hg hP hs
  have hp := isShort_pop hs
  obtain ⟨d', h1, h2⟩ := far_le (k := 10) (k' := P.length) hP hg (by omega) hp (fun x n hx hn hw => by
    unfold wayB at *
    rw [Bool.and_eq_true] at *
    exact ⟨hw.1, decide_eq_true (popc_le_of_lt (Nat.xor_lt_two_pow hx (Nat.pow_lt_pow_right (by omega) hn)))⟩) _ _ (short_look hs10)
  have := short_look hs
  rw [h1] at this
  have := Option.some.inj this
  omega
theorem last_le {l : List (Nat × Nat)} (h : l.Pairwise fun p q => p.1 < q.1 ∧ q.2 < p.2) : ∀ p ∈ l, (l.getLastD (0, 0)).2 ≤ p.2 := by
  intro p hp
  obtain ⟨j, hj, e⟩ := List.getElem_of_mem hp
  have hlast : l.getLastD (0, 0) = l[l.length - 1]'(by omega) := by
    rw [List.getLastD_eq_getLast?, List.getLast?_eq_getElem?, List.getElem?_eq_getElem (by omega)]; rfl
  rw [hlast]
  by_cases h1 : j = l.length - 1
  · subst h1; rw [e]; exact Nat.le_refl _
  · have := List.pairwise_iff_getElem.1 h j (l.length - 1) hj (by omega) (by omega)
    rw [e] at this
    exact Nat.le_of_lt this.2
theorem tradeF_all {P : List Nat} {g : Nat} : ∀ k, (∀ p ∈ tradeF P g k, 1 ≤ p.1 ∧ p.1 ≤ k ∧ isShort P p.1 g = true ∧ p.2 = (shortM P p.1 g).length) ∧ (tradeF P g k).Pairwise fun p q => p.1 < q.1 ∧ q.2 < p.2
  | 0 => ⟨by simp [tradeF], .nil⟩
  | k + 1 => by
    obtain ⟨h1, h2⟩ := tradeF_all k (P := P) (g := g)
    rw [tradeF]
    split
    · rename_i hc
      refine ⟨fun p hp => ?_, List.pairwise_append.2 ⟨h2, List.pairwise_singleton _ _, fun p hp q hq => ?_⟩⟩
      · rcases List.mem_append.1 hp with hp | hp
        · have := h1 p hp; exact ⟨this.1, by omega, this.2.2⟩
        · rw [List.mem_singleton.1 hp]; exact ⟨by simp, Nat.le_refl _, hc.1, rfl⟩
      · rw [List.mem_singleton.1 hq]
        have h3 := h1 p hp
        refine ⟨by simp only; omega, ?_⟩
        rcases hc.2 with h | h
        · have := List.length_pos_of_mem hp; omega
        · have := last_le h2 p hp; simp only; omega
    · exact ⟨fun p hp => by have := h1 p hp; exact ⟨this.1, by omega, this.2.2⟩, h2⟩
theorem getLastD_mem {l : List (Nat × Nat)} (h : l.length ≠ 0) : l.getLastD (0, 0) ∈ l := by
  rw [List.getLastD_eq_getLast?, List.getLast?_eq_getElem?, List.getElem?_eq_getElem (show l.length - 1 < l.length by omega)]
  exact List.getElem_mem _
theorem trade_last {P : List Nat} {g k : Nat} (hP : P.length ≤ 10) (hg : g < 2 ^ P.length) (h : isShort P k g = true) (hk : 1 ≤ k) : ((tradeF P g k).getLastD (0, 0)).2 = (shortM P k g).length := by
  obtain ⟨k, rfl⟩ : ∃ j, k = j + 1 := ⟨k - 1, by omega⟩
  rw [tradeF]
  by_cases hc : isShort P (k + 1) g = true ∧ ((tradeF P g k).length = 0 ∨ (shortM P (k + 1) g).length < ((tradeF P g k).getLastD (0, 0)).2)
  · rw [if_pos hc]; simp
  · rw [if_neg hc]
    have h0 : (tradeF P g k).length ≠ 0 := fun e => hc ⟨h, .inl e⟩
    have h1 : ¬ (shortM P (k + 1) g).length < ((tradeF P g k).getLastD (0, 0)).2 := fun e => hc ⟨h, .inr e⟩
    obtain ⟨_, a2, a3, a4⟩ := (tradeF_all k).1 _ (getLastD_mem h0)
    have := (short_mono hP hg (show _ ≤ k + 1 by omega) a3).2
    omega
theorem short_parity {P : List Nat} {k : Nat} {g : List Nat} (hL : LowP P) (hr : g.Pairwise (· < ·)) (hlt : posM g < 2 ^ P.length) (h : isShort P k (posM g) = true) : g.length ≤ (shortM P k (posM g)).length ∧ ((shortM P k (posM g)).length - g.length) % 2 = 0 := by
  have hb := farM_bfs hlt (isShort_pop h)
  have := hb.count hL _ _ (short_look h)
  have h0 : popc 0 = 0 := rfl
  rw [h0, popc_posM hr] at this
  omega
end Go.AM

/-! ### S9 -/
namespace Go.AM
open Go.Proofs
set_option maxRecDepth 100000
set_option linter.unusedVariables false
set_option linter.unusedSimpArgs false

theorem getD_el {l : List Nat} {i : Nat} (h : i < l.length) : l.getD i 0 = l[i] := by rw [List.getD_eq_getElem?_getD, List.getElem?_eq_getElem h]; rfl
theorem goals_len {n : Nat} {g : List Nat} (h : Goals n g) : g.length ≤ n := by
  have h1 := popc_posM h.rise
  have h2 := popc_le_of_lt (posM_lt h.lt)
  omega
theorem with_zero {G : List (List Nat)} {g : List Nat} (hD : Dag G) (hg : Goals G.length g) : withE (ofs2 G) (ofs g) = 0 := by
  have h0 := hg.pos
  rw [withE, if_pos hD.check, ofs2_length, goalsE, if_neg (by rw [ofs_length]; omega), if_neg, if_neg]
  · intro h
    obtain ⟨j, hj1, hj2⟩ := List.any_eq_true.1 h
    have hj := List.mem_range.1 hj1
    rw [ofs_length] at hj
    have h1 := of_decide_eq_true hj2
    have e : ∀ i, i < g.length → (ofs g).getD i 0 = Int.ofNat (g.getD i 0) := fun i hi => by simp [ofs, List.getD_eq_getElem?_getD, hi]
    rw [e _ (by omega), e _ (by omega)] at h1
    have h2 := List.pairwise_iff_getElem.1 hg.rise j (j + 1) (by omega) (by omega) (by omega)
    rw [getD_el (by omega), getD_el (by omega)] at h1
    have h3 := Int.ofNat_le.1 h1
    omega
  · intro h
    obtain ⟨u, hu, h2⟩ := List.any_eq_true.1 h
    obtain ⟨y, hy, rfl⟩ := List.mem_map.1 hu
    have h3 := of_decide_eq_true h2
    have := hg.lt y hy
    simp at h3; omega
theorem pair_at {c : Array Value} {i a b : Nat} (h1 : c[i * 2]? = some (nv a)) (h2 : c[i * 2 + 1]? = some (nv b)) : c.extract (0 + i * 2) (0 + i * 2 + 2) = #[nv a, nv b] := by
  have hs := (Array.getElem?_eq_some_iff.1 h2).1
  apply Array.ext_getElem?
  intro j
  rw [Array.getElem?_extract]
  match j with
  | 0 => rw [if_pos (by omega)]; simpa using h1
  | 1 => rw [if_pos (by omega)]; simpa using h2
  | j + 2 => rw [if_neg (by omega)]; rfl

theorem okf10 : okF Tryd.prog H0 10 137 = true := by kernel_rfl
theorem spec_TradeLaw {m : Mem} {a : Value} {l1 : List Int} (hGl : GlobP m) (ha : BytesAt m a l1) : ∃ v m', ACalls Tryd.prog 10 #[a] m v m' ∧ (v = .bool true ∧ True) := by
  have hGl_0 := hGl
  obtain ⟨qa, ca, rfl⟩ := ha.len
  have E : Ext m m := .refl _
  refine wpF (args := [_]) mixed okf10 (fn := Tryd.f10) rfl rfl rfl (by simp) ?_
  refine cSeq ?_
  refine cRegion ?_
  refine sAs (v := .bool _) rfl ?_
  refine sNil (kSeqN ?_)
  refine cSeq ?_
  refine cRegion ?_
  refine sMv (v := .slice _ _ _) rfl ?_
  obtain ⟨v17, m17, h_, b1, rfl, hb1, hS1, e_⟩ := spec_Of ha
  refine sCall1 rfl call53 rfl h_ ?_
  clear h_
  have x_ : Ext m m17 := e_
  replace E := E.trans x_
  replace hGl := hGl.ext x_
  clear x_
  clear e_
  refine sAs (v := .pointer _) rfl ?_
  refine sNil (kSeqN ?_)
  refine cSeq ?_
  refine cRegion ?_
  refine sMv (v := .pointer _) rfl ?_
  obtain ⟨v19, m19, h19, wD, csD, G, rfl, oD, hD, hG8, hS19, hX19⟩ := spec_Grown (most := 7) hS1 (by omega) hb1 (by omega) (by omega)
  obtain ⟨qD, cD, rfl⟩ := oD.1.len
  refine sCall2 rfl call52 rfl rfl h19 ?_
  have hlt1 := hS1.lt
  have e_ : Ext m m19 := E.lowx' hX19 E.1 hb1
  replace E := e_
  clear e_
  replace hGl := hGl_0.ext E
  have hlD : (ofs2 G).length = G.length := ofs2_length G
  have hpl : (needsM G).length = G.length := needsM_length G
  have rD := oD.rows
  refine sAlloc Z24 (by kernel_rfl) ?_
  refine sStNA S24 rfl rfl rfl rfl (by kernel_rfl) ?_
  have x_ : Ext m19 (m19.push (.cells true #[.slice qD (ofs2 G).length cD])) := .push _ _
  have oD2 := oD.ext x_
  have hS2 := hS19.ext hb1 x_
  replace E := E.trans x_
  have gD : Mem.get (m19.push (.cells true #[.slice qD (ofs2 G).length cD])) m19.size = .cells true #[.slice qD (ofs2 G).length cD] := gP rfl
  clear x_
  refine sNil (kSeqN ?_)
  refine cSeq ?_
  refine cRegion ?_
  refine sMv (v := .pointer _) rfl ?_
  refine sLdAll A24 S24 rfl gD rfl ?_
  have hz19 := hX19.1
  have hSt : Steady (m19.push (.cells true #[.slice qD (ofs2 G).length cD])) b1 (.slice qD (ofs2 G).length cD) (ofs2 G) := fun m' hx => (oD2.lowx hx (by omega)).rows
  obtain ⟨v22, m22, h22, g, o22, hg, hgm, hS22, hX22⟩ := spec_aims hS2 (by omega) hb1 hSt hD
  obtain ⟨qg, cg, rfl⟩ := o22.ints.lenN
  refine sCall2 rfl call58 rfl rfl h22 ?_
  have e_ : Ext m m22 := E.lowx' hX22 E.1 hb1
  replace E := e_
  clear e_
  have gD22 : Mem.get m22 m19.size = .cells true #[.slice qD (ofs2 G).length cD] := (hX22.2 _ (by simp) (by omega)).trans gD
  replace gD := gD22
  clear gD22
  replace hGl := hGl_0.ext E
  have rD := (oD2.lowx hX22 (by omega)).rows
  have ia := o22.ints
  have hwith : withE (ofs2 G) (ofs g) = 0 := with_zero hD hg
  have hgl : (ofs g).length < 1000000 := by rw [ofs_length]; have := goals_len hg; have := hD.ten; omega
  have hlow := hD.lowP
  have h10 := hD.ten
  have h1 := hD.one
  have hpo := posM_lt hg.lt
  rw [← hpl] at hpo
  have hP10 : (needsM G).length ≤ 10 := by omega
  refine sAs (v := .slice _ _ _) rfl ?_
  refine sNil (kSeqN ?_)
  refine cSeq ?_
  refine cRegion ?_
  refine sLdAll A24 S24 rfl gD rfl ?_
  refine sMv (v := .slice _ _ _) rfl ?_
  obtain ⟨v26, m26, h_, w26, rfl, o26, e_⟩ := spec_Trade rD ia hgl
  rw [hwith, ifOk_0 rfl] at o26
  rw [hwith] at h_
  have p26 := o26.pairs
  obtain ⟨q26, c26, rfl⟩ := p26.len
  refine sCall2 rfl call20 rfl rfl h_ ?_
  clear h_
  have x_ : Ext m22 m26 := e_
  replace E := E.trans x_
  replace gD := x_.cells gD
  replace rD := rD.ext x_
  replace ia := ia.ext x_
  replace hGl := hGl.ext x_
  clear x_
  clear e_
  refine sMv (v := .tuple _) rfl ?_
  refine sP (v := .slice _ _ _) rfl ?_   -- extract ['t23', '0']
  refine sP (v := nv _) rfl ?_   -- extract ['t23', '1']
  refine sAs (v := .slice _ _ _) rfl ?_
  refine sAs (v := nv _) rfl ?_
  refine sNil (kSeqN ?_)
  refine cSeq ?_
  refine cRegion ?_
  refine sLdAll A24 S24 rfl gD rfl ?_
  refine sMv (v := .slice _ _ _) rfl ?_
  obtain ⟨v32, m32, h_, rfl, e_⟩ := spec_Least rD ia hgl trade_ne
  rw [hwith, ifOk_0 rfl] at h_
  refine sCall2 rfl call16 rfl rfl h_ ?_
  clear h_
  have x_ : Ext m26 m32 := e_
  replace E := E.trans x_
  replace gD := x_.cells gD
  replace rD := rD.ext x_
  replace ia := ia.ext x_
  replace hGl := hGl.ext x_
  replace p26 := p26.ext x_
  clear x_
  clear e_
  have hne : tradeG (ofs2 G) (ofs g) ≠ [] := trade_ne hwith
  have htg : tradeG (ofs2 G) (ofs g) = tradeF (needsM G) (posM g) G.length := by rw [tradeG, natsG_ofs2, nats_ofs, ofs2_length]
  obtain ⟨hT1, hT2⟩ := tradeF_all (P := needsM G) (g := posM g) G.length
  have hT3 := trade_last (k := G.length) hP10 hpo (isShort_all hlow hP10 hpo (by omega)) h1
  have hT4 := tradeF_len (needsM G) (posM g) G.length
  rw [← htg] at hT1 hT2 hT3 hT4
  have hlg : leastG (ofs2 G) (ofs g) = ((tradeG (ofs2 G) (ofs g)).headD (0, 0)).1 := rfl
  rw [hlg]
  generalize tradeG (ofs2 G) (ofs g) = T at *
  have hTl : 0 < T.length := List.length_pos_iff.2 hne
  have hT0 : T[0]? = some (T.headD (0, 0)) := by cases T with
    | nil => exact absurd rfl hne
    | cons a r => rfl
  obtain ⟨bT, pT, rT, cT, eT, gT, xT⟩ := p26.at hTl
  cases eT
  refine sMv (v := .tuple _) rfl ?_
  refine sP (v := nv _) rfl ?_   -- extract ['t29', '0']
  refine sP (v := nv _) rfl ?_   -- extract ['t29', '1']
  refine sAs (v := nv _) rfl ?_
  refine sAs (v := nv _) rfl ?_
  refine sNil (kSeqN ?_)
  refine cSeq ?_   -- seq 6
  refine cSeq ?_
  refine cRegion ?_
  refine sMv (v := nv _) rfl ?_
  refine sBin (v := .bool false) (a := 0) (b := 0) rfl rfl (neqF rfl) ?_
  refine sMv (v := .bool _) rfl ?_
  refine sG rfl rfl ?_
  refine sMv (v := nv _) rfl ?_
  refine sG rfl rfl ?_
  refine sBin (v := .bool false) (a := 0) (b := 0) rfl rfl (neqF rfl) ?_
  refine sP (v := .bool false) rfl ?_
  refine sMv (v := .bool _) rfl ?_
  refine sG rfl rfl ?_
  refine sMv (v := .slice _ _ _) rfl ?_
  refine sG rfl rfl ?_
  refine sLen T35 rfl ?_
  refine sG rfl rfl ?_
  refine sBin (v := .bool false) (a := T.length) (b := 0) rfl rfl (by rw [aInt_eql, decide_eq_false (by omega)]) ?_
  refine sP (v := .bool false) rfl ?_
  refine sMv (v := .bool _) rfl ?_
  refine sG rfl rfl ?_
  refine sMv (v := .slice _ _ _) rfl ?_
  refine sG rfl rfl ?_
  refine sIx (i := 0) T35 S40 rfl rfl hTl ?_
  refine sG rfl rfl ?_
  refine sIxA (i := 0) T40 S3 rfl rfl (by omega) ?_
  refine sG rfl rfl ?_
  refine sLd (v := nv (T.headD (0, 0)).1) A3 rfl gT (by
    show cT[0 + 0 * 2 + 0 * 1]? = _
    simpa using (xT 0 _ hT0).1) ?_
  refine sG rfl rfl ?_
  refine sMv (v := nv _) rfl ?_
  refine sG rfl rfl ?_
  refine sBin (v := .bool false) (a := (T.headD (0, 0)).1) (b := (T.headD (0, 0)).1) rfl rfl (neqF rfl) ?_
  refine sP (v := .bool false) rfl ?_
  refine sNil (kSeqN ?_)
  refine cCondF rfl ?_
  refine cSkip (kSeqN ?_)
  refine cSeq ?_
  refine cSeq ?_
  refine cRegion ?_
  refine sMv (v := .slice _ _ _) rfl ?_
  refine sLen T35 rfl ?_
  refine sMv (v := nv 0) rfl ?_
  refine sNil (kSeqN ?_)
  refine cBlock ?_
  have E0 := E
  refine wpC_loop (fun k ρ m' => ∃ i, k = T.length - i ∧ i ≤ T.length ∧ Ext m32 m' ∧ Has ρ [(4, .pointer (some ⟨m19.size, 0, none⟩)), (5, .slice qg g.length cg), (6, .slice (some ⟨bT, 0, some 2⟩) T.length c26), (54, .slice (some ⟨bT, 0, some 2⟩) T.length c26), (55, nv T.length), (56, nv i)]) ⟨0, rfl, by omega, .refl _, rfl, rfl, rfl, rfl, rfl, rfl, trivial⟩ ?_
  rintro k ρ m' ⟨i, rfl, hi, X, hh⟩
  rw [hh.env]; clear hh
  replace gD := X.cells gD
  replace rD := rD.ext X
  replace ia := ia.ext X
  replace gT := X.cells gT
  replace hGl := hGl.ext X
  refine cSeq ?_
  refine cRegion ?_
  refine sBin rfl rfl (aInt_lss) ?_
  refine sNil (kSeqN ?_)
  refine cSeq ?_   -- seq 11
  refine cCond rfl (fun c1 => ?_) (fun c1 => ?_)
  ·
    obtain ⟨p, hp⟩ : ∃ p, T[i]? = some p := ⟨_, List.getElem?_eq_getElem c1⟩
    obtain ⟨hp1, hp2, hp3, hp4⟩ := hT1 p (List.mem_of_getElem? hp)
    obtain ⟨hx1, hx2⟩ := xT i p hp
    have hpar := short_parity hlow hg.rise hpo hp3
    rw [← hp4] at hpar
    have hp2len : p.2 ≤ 1024 := by rw [hp4]; exact shortM_len hpo hP10
    have hshE : shortestE (ofs2 G) (ofs g) (Int.ofNat p.1) = 0 := by
      rw [shortestE, if_pos hwith, natsG_ofs2, nats_ofs, if_neg (by simp; omega), show (Int.ofNat p.1).toNat = p.1 from rfl, hp3]; rfl
    have hshL : (shortestG (ofs2 G) (ofs g) (Int.ofNat p.1)).length = p.2 := by
      rw [shortestG, natsG_ofs2, nats_ofs, show (Int.ofNat p.1).toNat = p.1 from rfl]; exact hp4.symm
    refine cSkip (kSeqN ?_)
    refine cSeq ?_
    refine cBlock ?_
    refine cSeq ?_
    refine cRegion ?_
    refine sMv (v := nv _) rfl ?_
    refine sIx T35 S40 rfl rfl c1 ?_
    refine sLdA A40 S40 rfl gT (by rw [Nat.zero_add]; have := (Array.getElem?_eq_some_iff.1 hx2).1; omega) ?_
    rw [pair_at hx1 hx2]
    refine sAlloc Z40 (by kernel_rfl) ?_
    refine sAs (v := nv _) rfl ?_
    refine sStNA S40 rfl rfl rfl rfl (by kernel_rfl) ?_
    have x_ : Ext m' (m'.push (.cells true #[nv p.1, nv p.2])) := .push _ _
    replace X := X.trans x_
    replace gD := x_.cells gD
    replace rD := rD.ext x_
    replace ia := ia.ext x_
    replace gT := x_.cells gT
    replace hGl := hGl.ext x_
    clear x_
    have gX : Mem.get (m'.push (.cells true #[nv p.1, nv p.2])) m'.size = .cells true #[nv p.1, nv p.2] := gP rfl
    refine sNil (kSeqN ?_)
    refine cSeq ?_
    refine cRegion ?_
    refine sLdAll A24 S24 rfl gD rfl ?_
    refine sMv (v := .slice _ _ _) rfl ?_
    refine sIxA (i := 0) T40 S3 rfl rfl (by omega) ?_
    refine sLd (v := nv p.1) A3 rfl gX rfl ?_
    obtain ⟨v66, m66, h_, w66, rfl, o66, e_⟩ := spec_Shortest (k := Int.ofNat p.1) rD ia hgl
    rw [hshE, ifOk_0 rfl] at o66
    rw [hshE] at h_
    obtain ⟨q66, c66, rfl⟩ := o66.ints.lenN
    rw [hshL] at h_
    refine sCall3 rfl call18 rfl rfl rfl h_ ?_
    clear h_
    have x_ : Ext (m'.push (.cells true #[nv p.1, nv p.2])) m66 := e_
    replace X := X.trans x_
    replace gD := x_.cells gD
    replace rD := rD.ext x_
    replace ia := ia.ext x_
    replace gT := x_.cells gT
    replace hGl := hGl.ext x_
    replace gX := x_.cells gX
    clear x_
    clear e_
    refine sMv (v := .tuple _) rfl ?_
    refine sP (v := .slice _ _ _) rfl ?_   -- extract ['t61', '0']
    refine sP (v := nv _) rfl ?_   -- extract ['t61', '1']
    refine sAs (v := .slice _ _ _) rfl ?_
    refine sAs (v := nv _) rfl ?_
    refine sNil (kSeqN ?_)
    refine cSeq ?_
    refine cDraw rfl ?_
    refine sMv (v := nv _) rfl ?_
    refine sBin (v := .bool false) (a := 0) (b := 0) rfl rfl (neqF rfl) ?_
    refine sMv (v := .bool _) rfl ?_
    refine sG rfl rfl ?_
    refine sMv (v := .slice _ _ _) rfl ?_
    refine sG rfl rfl ?_
    refine sLen T25 rfl ?_
    refine sG rfl rfl ?_
    refine sIxA (i := 1) T40 S3 rfl rfl (by omega) ?_
    refine sG rfl rfl ?_
    refine sLd (v := nv p.2) A3 rfl gX rfl ?_
    refine sG rfl rfl ?_
    refine sBin (v := .bool false) (a := p.2) (b := p.2) rfl rfl (neqF rfl) ?_
    refine sP (v := .bool false) rfl ?_
    refine sMv (v := .bool _) rfl ?_
    refine sG rfl rfl ?_
    refine sIxA (i := 1) T40 S3 rfl rfl (by omega) ?_
    refine sG rfl rfl ?_
    refine sLd (v := nv p.2) A3 rfl gX rfl ?_
    refine sG rfl rfl ?_
    refine sMv (v := .slice _ _ _) rfl ?_
    refine sG rfl rfl ?_
    refine sLen T25 rfl ?_
    refine sG rfl rfl ?_
    refine sBin (v := nv (p.2 - g.length)) (a := p.2) (b := g.length) rfl rfl (aInt_sub (by omega)) ?_
    refine sG rfl rfl ?_
    refine sBin (v := nv 0) (a := p.2 - g.length) (b := 2) rfl rfl (by rw [aInt_rem (by omega), hpar.2]) ?_
    refine sG rfl rfl ?_
    refine sBin (v := .bool false) (a := 0) (b := 0) rfl rfl (neqF rfl) ?_
    refine sP (v := .bool false) rfl ?_
    refine sMv (v := .bool _) rfl ?_
    refine sG rfl rfl ?_
    refine sMv (v := nv _) rfl ?_
    refine sG rfl rfl ?_
    refine sBin (b := 0) rfl rfl aInt_gtr ?_
    refine sG rfl rfl ?_
    refine sMv (v := .bool _) rfl ?_
    by_cases h5 : 0 < i
    ·
      rw [decide_eq_true h5]
      obtain ⟨j, rfl⟩ : ∃ j, i = j + 1 := ⟨i - 1, by omega⟩
      obtain ⟨r, hr⟩ : ∃ r, T[j]? = some r := ⟨_, List.getElem?_eq_getElem (by omega)⟩
      obtain ⟨hy1, hy2⟩ := xT j r hr
      have hord : r.1 < p.1 ∧ p.2 < r.2 := by
        obtain ⟨hj1, ej⟩ := List.getElem?_eq_some_iff.1 hr
        obtain ⟨hj2, ei⟩ := List.getElem?_eq_some_iff.1 hp
        have := List.pairwise_iff_getElem.1 hT2 j (j + 1) hj1 hj2 (by omega)
        rw [ej, ei] at this
        exact this
      refine sG rfl rfl ?_
      refine sMv (v := .slice _ _ _) rfl ?_
      refine sG rfl rfl ?_
      refine sMv (v := nv _) rfl ?_
      refine sG rfl rfl ?_
      refine sBin (v := nv j) rfl rfl (aInt_sub (b := 1) (by omega)) ?_
      refine sG rfl rfl ?_
      refine sIx T35 S40 rfl rfl (by omega) ?_
      refine sG rfl rfl ?_
      refine sIxA (i := 0) T40 S3 rfl rfl (by omega) ?_
      refine sG rfl rfl ?_
      refine sLd (v := nv r.1) A3 rfl gT (by
        show cT[0 + j * 2 + 0 * 1]? = _
        simpa using hy1) ?_
      refine sG rfl rfl ?_
      refine sIxA (i := 0) T40 S3 rfl rfl (by omega) ?_
      refine sG rfl rfl ?_
      refine sLd (v := nv p.1) A3 rfl gX rfl ?_
      refine sG rfl rfl ?_
      refine sBin (v := .bool false) (a := r.1) (b := p.1) rfl rfl (by rw [aInt_geq, decide_eq_false (by omega)]) ?_
      refine sG rfl rfl ?_
      refine sMv (v := .bool _) rfl ?_
      refine sG rfl rfl ?_
      refine sMv (v := .slice _ _ _) rfl ?_
      refine sG rfl rfl ?_
      refine sMv (v := nv _) rfl ?_
      refine sG rfl rfl ?_
      refine sBin (v := nv j) rfl rfl (aInt_sub (b := 1) (by omega)) ?_
      refine sG rfl rfl ?_
      refine sIx T35 S40 rfl rfl (by omega) ?_
      refine sG rfl rfl ?_
      refine sIxA (i := 1) T40 S3 rfl rfl (by omega) ?_
      refine sG rfl rfl ?_
      refine sLd (v := nv r.2) A3 rfl gT (by
        show cT[0 + j * 2 + 1 * 1]? = _
        simpa using hy2) ?_
      refine sG rfl rfl ?_
      refine sIxA (i := 1) T40 S3 rfl rfl (by omega) ?_
      refine sG rfl rfl ?_
      refine sLd (v := nv p.2) A3 rfl gX rfl ?_
      refine sG rfl rfl ?_
      refine sBin (v := .bool false) (a := r.2) (b := p.2) rfl rfl (by rw [aInt_leq, decide_eq_false (by omega)]) ?_
      refine sG rfl rfl ?_
      refine sP (v := .bool false) rfl ?_
      refine sG rfl rfl ?_
      refine sP (v := .bool false) rfl ?_
      refine sP (v := .bool false) rfl ?_
      refine sNil (kSeqN ?_)
      refine cCondF rfl ?_
      refine cSkip (kBlkN (kSeqN ?_))
      refine cRegion ?_
      refine sBin rfl rfl (aInt_add (b := 1) (by omega)) ?_
      refine sMv (v := nv _) rfl ?_
      refine sNil (kSeqN ?_)
      refine ⟨_, ?_, j + 1 + 1, rfl, by omega, X, rfl, rfl, rfl, rfl, rfl, rfl, trivial⟩
      omega
    ·
      rw [decide_eq_false h5]
      refine sGno (q' := false) rfl rfl (by simp) ?_
      refine sGno (q' := false) rfl rfl (by simp) ?_
      refine sGno (q' := false) rfl rfl (by simp) ?_
      refine sGno (q' := false) rfl rfl (by simp) ?_
      refine sGno (q' := false) rfl rfl (by simp) ?_
      refine sGno (q' := false) rfl rfl (by simp) ?_
      refine sGno (q' := false) rfl rfl (by simp) ?_
      refine sGno (q' := false) rfl rfl (by simp) ?_
      refine sGno (q' := false) rfl rfl (by simp) ?_
      refine sGno (q' := false) rfl rfl (by simp) ?_
      refine sGnoU rfl rfl ?_
      refine sGnoU rfl rfl ?_
      refine sGnoU rfl rfl ?_
      refine sGnoU rfl rfl ?_
      refine sGnoU rfl rfl ?_
      refine sGnoU rfl rfl ?_
      refine sGnoU rfl rfl ?_
      refine sGnoU rfl rfl ?_
      refine sGnoU rfl rfl ?_
      refine sGno (q' := false) rfl rfl (by simp) ?_
      refine sG rfl rfl ?_
      refine sP (v := .bool false) rfl ?_
      refine sP (v := .bool false) rfl ?_
      refine sNil (kSeqN ?_)
      refine cCondF rfl ?_
      refine cSkip (kBlkN (kSeqN ?_))
      refine cRegion ?_
      refine sBin rfl rfl (aInt_add (b := 1) (by omega)) ?_
      refine sMv (v := nv _) rfl ?_
      refine sNil (kSeqN ?_)
      refine ⟨_, ?_, i + 1, rfl, by omega, X, rfl, rfl, rfl, rfl, rfl, rfl, trivial⟩
      omega
  ·
    have hs10 : isShort (needsM G) 10 (posM g) = true := isShort_all hlow hP10 hpo hP10
    have hshE : shortestE (ofs2 G) (ofs g) 10 = 0 := by
      rw [shortestE, if_pos hwith, natsG_ofs2, nats_ofs, if_neg (by omega), show (10 : Int).toNat = 10 from rfl, hs10]; rfl
    have hshL : (shortestG (ofs2 G) (ofs g) 10).length = (T.getLastD (0, 0)).2 := by
      rw [shortestG, natsG_ofs2, nats_ofs, show (10 : Int).toNat = 10 from rfl, short_top hlow hP10 hpo, hpl]; exact hT3.symm
    have hTlast : T[T.length - 1]? = some (T.getLastD (0, 0)) := by
      rw [List.getLastD_eq_getLast?, List.getLast?_eq_getElem?, List.getElem?_eq_getElem (by omega)]; rfl
    refine cExit (kSeqE (kSeqE (kBlkS (kSeqN ?_))))
    refine cSeq ?_
    refine cRegion ?_
    refine sLdAll A24 S24 rfl gD rfl ?_
    refine sMv (v := .slice _ _ _) rfl ?_
    obtain ⟨v117, m117, h_, w117, rfl, o117, e_⟩ := spec_Shortest (k := 10) rD ia hgl
    rw [hshE, ifOk_0 rfl] at o117
    rw [hshE] at h_
    obtain ⟨q117, c117, rfl⟩ := o117.ints.lenN
    rw [hshL] at h_
    refine sCall3 rfl call18 rfl rfl rfl h_ ?_
    clear h_
    have x_ : Ext m' m117 := e_
    replace X := X.trans x_
    replace gD := x_.cells gD
    replace rD := rD.ext x_
    replace ia := ia.ext x_
    replace gT := x_.cells gT
    replace hGl := hGl.ext x_
    clear x_
    clear e_
    refine sMv (v := .tuple _) rfl ?_
    refine sP (v := .slice _ _ _) rfl ?_   -- extract ['t114', '0']
    refine sP (v := nv _) rfl ?_   -- extract ['t114', '1']
    refine sAs (v := .slice _ _ _) rfl ?_
    refine sAs (v := nv _) rfl ?_
    refine sNil (kSeqN ?_)
    refine cSeq ?_
    refine cRegion ?_
    refine sMv (v := nv _) rfl ?_
    refine sBin (v := .bool true) (a := 0) (b := 0) rfl rfl (eqlT rfl) ?_
    refine sMv (v := .bool _) rfl ?_
    refine sG rfl rfl ?_
    refine sMv (v := .slice _ _ _) rfl ?_
    refine sG rfl rfl ?_
    refine sLen T25 rfl ?_
    refine sG rfl rfl ?_
    refine sMv (v := .slice _ _ _) rfl ?_
    refine sG rfl rfl ?_
    refine sMv (v := .slice _ _ _) rfl ?_
    refine sG rfl rfl ?_
    refine sLen T35 rfl ?_
    refine sG rfl rfl ?_
    refine sBin (v := nv (T.length - 1)) rfl rfl (aInt_sub (b := 1) (by omega)) ?_
    refine sG rfl rfl ?_
    refine sIx T35 S40 rfl rfl (by omega) ?_
    refine sG rfl rfl ?_
    refine sIxA (i := 1) T40 S3 rfl rfl (by omega) ?_
    refine sG rfl rfl ?_
    refine sLd (v := nv (T.getLastD (0, 0)).2) A3 rfl gT (by
      show cT[0 + (T.length - 1) * 2 + 1 * 1]? = _
      simpa using (xT _ _ hTlast).2) ?_
    refine sG rfl rfl ?_
    refine sBin (v := .bool true) rfl rfl (eqlT rfl) ?_
    refine sP (v := .bool true) rfl ?_
    refine sMv (v := .bool _) rfl ?_
    refine sG rfl rfl ?_
    obtain ⟨v135, m135, h135, rfl, e135⟩ := spec_awake hGl
    refine sCall0 rfl call13 h135 ?_
    refine sP (v := .bool true) rfl ?_
    refine sAs (v := .bool _) rfl ?_
    refine sNil (kSeqN ?_)
    refine cRet ?_
    exact ⟨.inr rfl, _, rfl, rfl, trivial⟩

end Go.AM

/-! ### F20 -/
namespace Go.AM
open Go.Proofs Go.Proofs.YthfhbddnkgfhaaaDoor Go.ChangeShapes
set_option maxRecDepth 100000
set_option linter.unusedVariables false

theorem gAsk : Tryd.prog.globalNamed "spoondrift/pebble.asks" = some 0 := by kernel_rfl
theorem tAsk : (Tryd.prog.globals[0]?).map (·.type) = some 96 := by kernel_rfl
theorem gSize : Tryd.prog.globals.size = 1 := by kernel_rfl
theorem u4 : Tryd.prog.underlying 4 = some .bool := by kernel_rfl
theorem u5 : Tryd.prog.underlying 5 = some (.int .u8) := by kernel_rfl
theorem u94 : Tryd.prog.underlying 94 = some (.func #[79, 3, 3, 25, 93] #[4] false) := by kernel_rfl
theorem u95 : Tryd.prog.underlying 95 = some (.struct #[{ name := "so", type := 94, offset := 0, embedded := false, tag := "", pkgPath := "spoondrift/pebble", byteOffset := 0 }]) := by kernel_rfl
theorem u96 : Tryd.prog.underlying 96 = some (.array 3 95) := by kernel_rfl

theorem var_block {P : Program} {w : World} {n : String} {g : Nat} {cs : Array Value} (hg : P.globalNamed n = some g) (h : w.var? P n = some cs) : ∃ t fz, w.heap[g]? = some (.cells cs t fz) := by
  simp only [World.var?, hg, Option.bind_some] at h
  split at h
  · rename_i c t fz e
    injection h with h; subst h
    exact ⟨t, fz, e⟩
  · cases h

def tokA : Nat → List UInt8
  | 0 => [115, 112, 111, 111, 110, 100, 114, 105, 102, 116, 47, 112, 101, 98, 98, 108, 101, 46, 97, 115, 107, 115, 36, 49]
  | 1 => [115, 112, 111, 111, 110, 100, 114, 105, 102, 116, 47, 112, 101, 98, 98, 108, 101, 46, 97, 115, 107, 115, 36, 50]
  | _ => [115, 112, 111, 111, 110, 100, 114, 105, 102, 116, 47, 112, 101, 98, 98, 108, 101, 46, 97, 115, 107, 115, 36, 51]
theorem one140 : ((List.range Tryd.prog.funcs.size).filter fun f => (Tryd.prog.funcs[f]?).any (·.name.toUTF8.data.toList == tokA 0)) = [140] := by kernel_rfl
theorem one143 : ((List.range Tryd.prog.funcs.size).filter fun f => (Tryd.prog.funcs[f]?).any (·.name.toUTF8.data.toList == tokA 1)) = [143] := by kernel_rfl
theorem one144 : ((List.range Tryd.prog.funcs.size).filter fun f => (Tryd.prog.funcs[f]?).any (·.name.toUTF8.data.toList == tokA 2)) = [144] := by kernel_rfl
theorem hc95 : Tryd.prog.cellsOf 95 = 1 := by kernel_rfl
theorem hc94 : Tryd.prog.cellsOf 94 = 1 := by kernel_rfl
/-- One entry of the table of what is asked. -/
theorem entry_ask {w : World} {n q : Nat} (hq : q < 3) {cs : List Value} {y : DataW (List UInt8) × List MemPlace}
    (h : DataW.trod (funcToken Tryd.prog) Tryd.prog w 0 (fun _ => true) true n 95 cs = some y) (hy : y.1 = .agg [.held (tokA q)]) : cs = [.func (.func (askF q)) #[] #[]] := by
  obtain ⟨xs, m, rfl, hx, hl, hn, hel⟩ := DataW.trod_struct u95 h
  have h0 := hel 0 _ rfl
  rw [hx] at hy
  simp only [DataW.agg.injEq] at hy
  rw [hc95] at hl
  match cs, hl with
  | [a], _ =>
    match xs, hn, hy, h0 with
    | [e0], _, hy, h0 =>
      simp only [List.map_cons, List.map_nil, List.cons.injEq, and_true] at hy
      simp only [hc94, List.drop_zero, List.take_one, List.getElem?_cons_zero] at h0
      have h1 : DataW.trod (funcToken Tryd.prog) Tryd.prog w 0 (fun _ => true) true m 94 [a] = some (.held (tokA q), e0.2) := by
        rw [← hy]; simpa [hc94] using h0
      have : q = 0 ∨ q = 1 ∨ q = 2 := by omega
      rcases this with rfl | rfl | rfl
      · rw [func_of_trod (f0 := 140) u94 one140 h1]; rfl
      · rw [func_of_trod (f0 := 143) u94 one143 h1]; rfl
      · rw [func_of_trod (f0 := 144) u94 one144 h1]; rfl
def askD : DataW Unit := .agg [.agg [.iface "func" (.lit (.string (tokA 0)))], .agg [.iface "func" (.lit (.string (tokA 1)))], .agg [.iface "func" (.lit (.string (tokA 2)))]]
/-- What the table of what is asked holds. -/
theorem open_asks {w : World} (h : funcsAt Tryd.prog w "spoondrift/pebble.asks" askD) :
    ∃ c t fz, w.heap[0]? = some (.cells c t fz) ∧ ∀ q, q < 3 → c[q]? = some (.func (.func (askF q)) #[] #[]) := by
  obtain ⟨g, t, cs, fuel, p, hg, ht, hc, hd⟩ := h
  obtain rfl := Option.some.inj (gAsk.symm.trans hg)
  obtain rfl := Option.some.inj (tAsk.symm.trans ht)
  obtain ⟨ty, fz, hb0⟩ := var_block hg hc
  have hout : askD.funcsOut = .agg [.agg [.held (tokA 0)], .agg [.held (tokA 1)], .agg [.held (tokA 2)]] := by rfl
  rw [hout] at hd
  obtain ⟨xs, m, rfl, hx, hl, hn, hel⟩ := DataW.trod_array u96 hd
  match xs, hn with
  | [e0, e1, e2], _ =>
    simp only [Prod.mk.injEq, DataW.agg.injEq, List.map_cons, List.map_nil, List.cons.injEq, and_true] at hx
    obtain ⟨⟨x0, x1, x2⟩, _⟩ := hx
    have key : ∀ (q : Nat) (e : DataW (List UInt8) × List MemPlace), q < 3 → [e0, e1, e2][q]? = some e → e.1 = .agg [.held (tokA q)] → cs[q]? = some (.func (.func (askF q)) #[] #[]) := by
      intro q e hq he h1
      have h2 := hel q hq
      rw [he, hc95, Nat.mul_one] at h2
      have h3 := entry_ask hq h2 h1
      have := congrArg (·[0]?) h3
      simpa [List.getElem?_take, List.getElem?_drop] using this
    refine ⟨cs, ty, fz, hb0, fun q hq => ?_⟩
    have : q = 0 ∨ q = 1 ∨ q = 2 := by omega
    rcases this with rfl | rfl | rfl
    · exact key 0 e0 (by omega) rfl x0.symm
    · exact key 1 e1 (by omega) rfl x1.symm
    · exact key 2 e2 (by omega) rfl x2.symm
def laid1 : List (String × DataW Unit) := [("spoondrift/pebble.asks", Rows.laid_spoondrift_pebble_asks)]
theorem ask_data : (Rows.laid_spoondrift_pebble_asks : DataW Unit) = .iface "func table" askD := by rfl
theorem of_laid {w : World} (h : laidMetH Tryd.prog laid1 w) : ∃ c t fz, w.heap[0]? = some (.cells c t fz) ∧ ∀ q, q < 3 → c[q]? = some (.func (.func (askF q)) #[] #[]) :=
  open_asks (h.funcs (n := "spoondrift/pebble.asks") (by rw [← ask_data]; simp [laid1]))
end Go.AM

/-! ### F21 -/
namespace Go.AM
open Go.Proofs Go.Proofs.YthfhbddnkgfhaaaDoor Go.RowKit
set_option maxRecDepth 100000
set_option linter.unusedVariables false

/-- An argument's block: where it lies, and its abstract cells (each stands for the machine's cell at the same place). -/
structure Arg0 where
  blk : Nat
  off : Nat
  cap : Nat
  cs : Array Value
def arg0 : Arg0 := ⟨0, 0, 0, #[]⟩
def askCs : Array Value := #[.func (.func 140) #[] #[], .func (.func 143) #[] #[], .func (.func 144) #[] #[]]
def mem0 (A : List Arg0) : Mem := (AObj.cells false askCs :: A.map fun a => AObj.cells false a.cs).toArray
def beta0 (A : List Arg0) : Beta where
  blk i := if i < 1 then i else (A.getD (i - 1) arg0).blk
  sh i := if i < 1 then 0 else (A.getD (i - 1) arg0).off
  cap i := if i < 1 then 1000000 else (A.getD (i - 1) arg0).off + max (A.getD (i - 1) arg0).cs.size (A.getD (i - 1) arg0).cap
/-- What is known of an argument's cells, all arguments' places being known. -/
def Arg0.ok (W : World) (A : List Arg0) (a : Arg0) : Prop := ∃ c t fz, W.heap[a.blk]? = some (.cells c t fz) ∧ ∀ (i : Nat) v, a.cs[i]? = some v → ∃ v', c[a.off + i]? = some v' ∧ VRel (beta0 A) (1 + A.length) v v'
theorem mem0_size (A : List Arg0) : (mem0 A).size = 1 + A.length := by simp [mem0]; omega
theorem mem0_get (A : List Arg0) (i : Nat) : Mem.get (mem0 A) i = if i = 0 then .cells false askCs else if h : i - 1 < A.length then .cells false (A[i - 1]).cs else .dead := by
  unfold Mem.get mem0
  rw [Array.getD_eq_getD_getElem?, List.getElem?_toArray]
  match i with
  | 0 => rfl
  | i + 1 =>
    rw [if_neg (by omega)]
    simp only [List.getElem?_cons_succ, Nat.add_sub_cancel, List.getElem?_map]
    by_cases h : i < A.length
    · rw [dif_pos h, List.getElem?_eq_getElem h]; rfl
    · rw [dif_neg h, List.getElem?_eq_none (by omega)]; rfl
theorem glob0 (A : List Arg0) : GlobP (mem0 A) := ⟨false, by rw [mem0_get]; rfl⟩
theorem rel0 {W : World} (hL : laidMetH Tryd.prog laid1 W) {A : List Arg0} (hA : ∀ a ∈ A, a.ok W A) : Rel Tryd.prog (beta0 A) (mem0 A) W := by
  obtain ⟨c, t, fz, h0, hc0⟩ := of_laid hL
  refine ⟨by rw [mem0_size, gSize]; omega, fun g hg => ?_, fun i hi => ?_, fun i j _ hr _ => ?_⟩
  · rw [gSize] at hg
    exact ⟨if_pos hg, if_pos hg⟩
  · rw [mem0_get] at hi ⊢
    by_cases e0 : i = 0
    · subst e0
      rw [if_pos rfl] at hi ⊢
      refine ⟨_, h0, c, t, fz, rfl, by simp [beta0, askCs], fun j v hj => ?_, fun h => by cases h⟩
      have hf : ∀ q, VRel (beta0 A) (mem0 A).size (.func (.func q) #[] #[]) (.func (.func q) #[] #[]) := fun q => .func _ _ _ _ _ rfl (fun i v v' h => by simp at h) rfl (fun i v v' h => by simp at h)
      match j with
      | 0 => simp [askCs] at hj; subst hj; exact ⟨_, by simpa [beta0, askF] using hc0 0 (by omega), hf _⟩
      | 1 => simp [askCs] at hj; subst hj; exact ⟨_, by simpa [beta0, askF] using hc0 1 (by omega), hf _⟩
      | 2 => simp [askCs] at hj; subst hj; exact ⟨_, by simpa [beta0, askF] using hc0 2 (by omega), hf _⟩
      | j + 3 => simp [askCs] at hj
    rw [if_neg e0] at hi ⊢
    by_cases e4 : i - 1 < A.length
    · rw [dif_pos e4] at hi ⊢
      obtain ⟨c, t, fz, g1, g2⟩ := hA _ (List.getElem_mem e4)
      have hb : (beta0 A).blk i = (A[i - 1]).blk := by
        simp only [beta0]; rw [if_neg (by omega), List.getD_eq_getElem?_getD, List.getElem?_eq_getElem e4]; rfl
      have hsh : (beta0 A).sh i = (A[i - 1]).off := by
        simp only [beta0]; rw [if_neg (by omega), List.getD_eq_getElem?_getD, List.getElem?_eq_getElem e4]; rfl
      have hcp : (beta0 A).cap i = (A[i - 1]).off + max (A[i - 1]).cs.size (A[i - 1]).cap := by
        simp only [beta0]; rw [if_neg (by omega), List.getD_eq_getElem?_getD, List.getElem?_eq_getElem e4]; rfl
      refine ⟨_, by rw [hb]; exact g1, c, t, fz, rfl, by rw [hsh, hcp]; omega, fun j v hj => ?_, fun h => by cases h⟩
      obtain ⟨v', q1, q2⟩ := g2 j v hj
      exact ⟨v', by rw [hsh]; exact q1, by rw [mem0_size]; exact q2⟩
    · rw [dif_neg e4] at hi; cases hi
  · rw [mem0_get] at hr
    repeat' split at hr
    all_goals cases hr
theorem arel_nil {β : Beta} {N : Nat} : ARel β N #[] #[] := ⟨rfl, fun i v v' h => by simp at h⟩
theorem arel_cons {β : Beta} {N : Nat} {v v' : Value} {l l' : List Value} (hv : VRel β N v v') (h : ARel β N l.toArray l'.toArray) : ARel β N (v :: l).toArray (v' :: l').toArray := by
  refine ⟨by have := h.1; simp at this ⊢; exact this, fun i x x' h1 h2 => ?_⟩
  cases i with
  | zero => simp at h1 h2; subst h1 h2; exact hv
  | succ i => exact h.2 i x x' (by simpa using h1) (by simpa using h2)
/-- From the abstract call to the machine's. -/
theorem entry {f : FuncId} {args args' : Array Value} {W : World} {A : List Arg0} (hL : laidMetH Tryd.prog laid1 W) (hA : ∀ a ∈ A, a.ok W A)
    (hargs : ARel (beta0 A) (1 + A.length) args args') (hc : ∃ v m', ACalls Tryd.prog f args (mem0 A) v m' ∧ v = .bool true) :
    Calls Tryd.prog f args' W fun e W' => e = .returned (.bool true) ∧ Below W.heap.size W W' := by
  have hR := rel0 hL hA
  obtain ⟨v, m', hcall, rfl⟩ := hc
  refine (hcall.2 _ W args' hR (by rw [mem0_size]; exact hargs)).mono ?_
  rintro e W' ⟨v', rfl, β', hv, _, hS⟩
  cases hv
  refine ⟨rfl, hS.os, hS.tape, hS.output, hS.wsz, fun k hk => hS.keep k hk fun i hi => ?_⟩
  rw [mem0_get] at hi
  repeat' split at hi
  all_goals cases hi
end Go.AM

/-! ### F22 -/
namespace Go.AM
open Go Go.Proofs Go.Proofs.YthfhbddnkgfhaaaDoor Go.RowKit Go.ChangeShapes Go.WideShapes
set_option maxRecDepth 100000
set_option linter.unusedVariables false

/-- A slice of whole numbers of a kind, readable. -/
def KAt (k : IntKind) (m : Mem) (v : Value) (l : List Int) : Prop :=
  (l = [] ∧ (v = .slice none 0 0 ∨ ∃ b o, v = .slice (some ⟨b, o, none⟩) 0 0)) ∨
  ∃ b o cap r c, v = .slice (some ⟨b, o, some 1⟩) l.length cap ∧ l.length ≤ cap ∧ Mem.get m b = .cells r c ∧ ∀ i x, l[i]? = some x → c[o + i]? = some (.int k x)
theorem KAt.ints {m : Mem} {v : Value} {l : List Int} (h : KAt .i64 m v l) : IntsAt m v l := by
  rcases h with h | ⟨b, o, cap, r, c, h1, _, h2, h3⟩
  · exact .inl h
  · exact .inr ⟨b, o, cap, r, c, h1, h2, h3⟩
theorem KAt.bytes {m : Mem} {v : Value} {l : List Int} (h : KAt .u8 m v l) : BytesAt m v l := h
theorem cell_heap {W : World} {a : Addr} {v : Value} (h : W.cell? a = some v) : a.spot = none ∧ ∃ c t fz, W.heap[a.block]? = some (.cells c t fz) ∧ c[a.off]? = some v := by
  unfold World.cell? at h
  split at h
  · rename_i c t fz e
    split at h
    · cases h
    · rename_i hs
      exact ⟨by simpa using hs, c, t, fz, e, h⟩
  · cases h
theorem add_block (a : Addr) (n : Nat) : (a.add n).block = a.block := by unfold Addr.add; split <;> rfl
theorem add0 (a : Addr) : a.add 0 = a := if_pos rfl
theorem add_off {a : Addr} {n : Nat} (h : a.spot = none) : (a.add n).off = a.off + n := by
  unfold Addr.add
  split <;> simp_all
theorem mem0_arg {A : List Arg0} {i : Nat} {a : Arg0} (h : A[i]? = some a) : Mem.get (mem0 A) (1 + i) = .cells false a.cs := by
  obtain ⟨hi, e⟩ := List.getElem?_eq_some_iff.1 h
  rw [mem0_get, if_neg (by omega), dif_pos (by omega)]
  simp only [Nat.add_sub_cancel_left, e]
theorem beta0_arg {A : List Arg0} {i : Nat} {a : Arg0} (h : A[i]? = some a) : (beta0 A).blk (1 + i) = a.blk ∧ (beta0 A).sh (1 + i) = a.off ∧ (beta0 A).cap (1 + i) = a.off + max a.cs.size a.cap := by
  have e : A.getD (1 + i - 1) arg0 = a := by rw [Nat.add_sub_cancel_left, List.getD_eq_getElem?_getD, h]; rfl
  refine ⟨?_, ?_, ?_⟩
  · simp only [beta0]; rw [if_neg (by omega), e]
  · simp only [beta0]; rw [if_neg (by omega), e]
  · simp only [beta0]; rw [if_neg (by omega), e]
/-- The blocks of an argument lie from a place on. -/
def PartAt (A : List Arg0) (pos : Nat) (B : List Arg0) : Prop := ∀ (j : Nat) a, B[j]? = some a → A[pos + j]? = some a
theorem part_self {B : List Arg0} : PartAt B 0 B := fun j a h => by rwa [Nat.zero_add]
theorem part_left {X Y B : List Arg0} {pos : Nat} (h : PartAt X pos B) : PartAt (X ++ Y) pos B := fun j a hj => by
  have := h j a hj
  rw [List.getElem?_append_left (List.getElem?_eq_some_iff.1 this).1]; exact this
theorem part_right {X Y : List Arg0} {pos : Nat} (h : X.length = pos) : PartAt (X ++ Y) pos Y := fun j a hj => by
  subst h
  rw [List.getElem?_append_right (by omega), Nat.add_sub_cancel_left]; exact hj
/-- A slice of whole numbers that is read: its block, what it holds, its abstract value by the place of its block. -/
structure RowP (W : World) (k : IntKind) (s : Value) where
  a : Arg0
  l : List Int
  f : Nat → Value
  ok : ∀ A : List Arg0, a.ok W A
  wf : ∀ n ∈ l, (Lit.int k n).wf = true
  rel : ∀ (A : List Arg0) (i : Nat), A[i]? = some a → KAt k (mem0 A) (f i) l ∧ VRel (beta0 A) (1 + A.length) (f i) s
theorem ok0 {W : World} (hL : laidMetH Tryd.prog laid1 W) (A : List Arg0) : Arg0.ok W A ⟨0, 0, 0, #[]⟩ := by
  obtain ⟨c0, t0, fz0, h0, _⟩ := of_laid hL
  exact ⟨c0, t0, fz0, h0, fun i v h => by simp at h⟩
theorem row_of {H : Type} {enc : TypeId × Value → H} {W : World} {k : IntKind} {t e : TypeId} {s : Value} {fuel : Nat} {x : DataW H × List MemPlace} (hL : laidMetH Tryd.prog laid1 W)
    (ht : Tryd.prog.underlying t = some (.slice e)) (he : Tryd.prog.underlying e = some (.int k)) (hc : Tryd.prog.cellsOf e = 1)
    (hd : DataW.trod enc Tryd.prog W 0 (fun _ => true) true fuel t [s] = some x) : Nonempty (RowP W k s) := by
  rcases open_ints ht he hc hd with ⟨hcs, _⟩ | ⟨x, ln, cp, zs, hcs, _, hl, hm, hz, _, hcell, hwz⟩
  · simp at hcs
    subst hcs
    exact ⟨⟨_, [], fun _ => .slice none 0 0, ok0 hL, by simp, fun A i _ => ⟨.inl ⟨rfl, .inl rfl⟩, .sliceNil⟩⟩⟩
  · simp at hcs
    subst hcs
    rw [if_pos rfl] at hz
    by_cases h0 : ln = 0
    · subst h0
      exact ⟨⟨_, [], fun _ => .slice (some ⟨0, 0, none⟩) 0 0, ok0 hL, by simp, fun A i _ => ⟨.inl ⟨rfl, .inr ⟨_, _, rfl⟩⟩, .lost _ _ _ trivial⟩⟩⟩
    · obtain ⟨hsp, c, t1, fz, hh, _⟩ := cell_heap (hcell 0 (by omega))
      rw [add0] at hsp
      rw [add_block] at hh
      have hcs : ∀ j, j < ln → c[x.off + j]? = some (.int k (zs.getD j 0)) := fun j hj => by
        obtain ⟨_, c', t2, fz2, h2, h3⟩ := cell_heap (hcell j (by omega))
        rw [add_block, hh] at h2
        obtain ⟨rfl, rfl, rfl⟩ : c = c' ∧ t1 = t2 ∧ fz = fz2 := by injection h2 with h2; injection h2 with a b c; exact ⟨a, b, c⟩
        rwa [add_off hsp] at h3
      have hlz : (zs.take ln).length = ln := by rw [List.length_take]; omega
      refine ⟨⟨⟨x.block, x.off, cp, ((zs.take ln).map fun n => Value.int k n).toArray⟩, zs.take ln, fun i => .slice (some ⟨1 + i, 0, some 1⟩) ln cp, fun A => ⟨c, t1, fz, hh, fun j y hy => ?_⟩, fun n hn => hwz n (List.mem_of_mem_take hn), fun A i hA => ⟨?_, ?_⟩⟩⟩
      · simp only [List.getElem?_toArray, List.getElem?_map, Option.map_eq_some_iff] at hy
        obtain ⟨n, hn, rfl⟩ := hy
        rw [List.getElem?_take] at hn
        split at hn
        · refine ⟨_, ?_, .int _ _⟩
          rw [hcs j (by assumption), List.getD_eq_getElem?_getD, hn]; rfl
        · cases hn
      · refine .inr ⟨1 + i, 0, cp, false, _, by rw [hlz], by rw [hlz]; exact hl, mem0_arg hA, fun j n hn => ?_⟩
        simp only [List.getElem?_toArray, List.getElem?_map, hn, Option.map_some, Nat.zero_add]
      · obtain ⟨e1, e2, e3⟩ := beta0_arg hA
        have hi := (List.getElem?_eq_some_iff.1 hA).1
        have := VRel.slice (β := beta0 A) (N := 1 + A.length) (1 + i) 0 1 ln cp cp (by omega) (by omega) hl (Nat.le_refl _) (by rw [e2, e3]; simp only; omega) (by unfold maxLen at hm; omega)
        rw [e1, e2] at this
        obtain ⟨xb, xo, xs⟩ := x
        obtain rfl : xs = none := hsp
        exact this
/-- An argument that is a slice of whole numbers. -/
theorem ints_arg {H : Type} {enc : TypeId × Value → H} {W : World} {k : IntKind} {t e : TypeId} {r : Reach} {base : Nat} {v : Value} {d : DataW H} {p : List MemPlace} (hL : laidMetH Tryd.prog laid1 W)
    (ht : Tryd.prog.underlying t = some (.slice e)) (he : Tryd.prog.underlying e = some (.int k)) (hc : Tryd.prog.cellsOf e = 1)
    (hval : Value.okWide Tryd.prog W r base t v) (hd : DataW.Trod enc Tryd.prog W 0 (fun _ => true) true t v d p) :
    ∃ (L : Nat) (B : Nat → List Arg0) (l : List Int) (f : Nat → Value), (∀ pos, (B pos).length = L) ∧ (∀ n ∈ l, (Lit.int k n).wf = true) ∧
      ∀ (A : List Arg0) (pos : Nat), PartAt A pos (B pos) → (∀ a ∈ B pos, a.ok W A) ∧ KAt k (mem0 A) (f pos) l ∧ VRel (beta0 A) (1 + A.length) (f pos) v := by
  obtain ⟨q, len, cap, rfl⟩ := okWide_slice ht hval
  obtain ⟨fuel, hf⟩ := hd
  obtain ⟨R⟩ := row_of hL ht he hc hf
  refine ⟨1, fun _ => [R.a], R.l, R.f, fun _ => rfl, R.wf, fun A pos hp => ⟨fun a ha => ?_, R.rel A pos (hp 0 _ rfl)⟩⟩
  rw [List.mem_singleton.1 ha]; exact R.ok A
theorem u22 : Tryd.prog.underlying 22 = some (.slice 25) := by kernel_rfl
theorem u3 : Tryd.prog.underlying 3 = some (.int .i64) := by kernel_rfl
theorem u25 : Tryd.prog.underlying 25 = some (.slice 3) := by kernel_rfl
theorem u63 : Tryd.prog.underlying 63 = some (.slice 5) := by kernel_rfl
theorem u24 : Tryd.prog.underlying 24 = some (.struct #[{ name := "Needs", type := 22, offset := 0, embedded := false, tag := "", pkgPath := "", byteOffset := 0 }]) := by kernel_rfl
theorem c3 : Tryd.prog.cellsOf 3 = 1 := by kernel_rfl
theorem c5 : Tryd.prog.cellsOf 5 = 1 := by kernel_rfl
theorem c22 : Tryd.prog.cellsOf 22 = 1 := by kernel_rfl
theorem c24 : Tryd.prog.cellsOf 24 = 1 := by kernel_rfl
theorem c25 : Tryd.prog.cellsOf 25 = 1 := by kernel_rfl
theorem laidOut : laidOutB Tryd.prog = true := by kernel_rfl
theorem u8_nat {n : Int} (h : (Lit.int .u8 n).wf = true) : ∃ c : Nat, c < 256 ∧ n = Int.ofNat c := by
  have h' : 0 ≤ n ∧ n < 256 := by
    simp [Lit.wf, IntKind.min, IntKind.max, IntKind.signed, IntKind.bits] at h
    omega
  exact ⟨n.toNat, by omega, by simp; omega⟩
theorem i64_lt {n : Int} (h : (Lit.int .i64 n).wf = true) : n < 9223372036854775808 := by
  simp [Lit.wf, IntKind.min, IntKind.max, IntKind.signed, IntKind.bits] at h
  omega
/-- A cell of a slice's row, read. -/
theorem one_cell {W : World} {a : Addr} {x : List Value} (h : W.cells? 0 a 1 = some x) : ∃ s, x = [s] ∧ W.cell? (a.add 0) = some s := by
  unfold World.cells? at h
  rw [if_pos (Nat.zero_le _), List.range_one] at h
  cases e : W.cell? (a.add 0) with
  | none => simp [e] at h
  | some s => simp [e] at h; exact ⟨s, h.symm, rfl⟩
/-- An argument that is a graph. -/
theorem dag_arg {H : Type} {enc : TypeId × Value → H} {W : World} {r : Reach} {base : Nat} {v : Value} {d : DataW H} {p : List MemPlace} (hL : laidMetH Tryd.prog laid1 W)
    (hval : Value.okWide Tryd.prog W r base 24 v) (hd : DataW.Trod enc Tryd.prog W 0 (fun _ => true) true 24 v d p) :
    ∃ (L : Nat) (B : Nat → List Arg0) (G : List (List Int)) (f : Nat → Value), (∀ pos, (B pos).length = L) ∧ True ∧
      ∀ (A : List Arg0) (pos : Nat), PartAt A pos (B pos) → (∀ a ∈ B pos, a.ok W A) ∧ (∃ s, f pos = .agg #[s] ∧ RowsAt (mem0 A) s G) ∧ VRel (beta0 A) (1 + A.length) (f pos) v := by
  unfold Value.okWide at hval
  rw [u24] at hval
  obtain ⟨cs, rfl, hsz, _⟩ := hval
  rw [c24] at hsz
  obtain ⟨w, rfl⟩ : ∃ w, cs = #[w] := by
    obtain ⟨l⟩ := cs
    match l, hsz with
    | [w], _ => exact ⟨w, rfl⟩
  obtain ⟨fuel, hf⟩ := hd
  obtain ⟨xs, m, rfl, hx, hl, hn, hel⟩ := DataW.trod_struct u24 hf
  have h0 := hel 0 _ rfl
  match xs, hn, h0 with
  | [x0], _, h0 =>
    have h1 : DataW.trod enc Tryd.prog W 0 (fun _ => true) true m 22 [w] = some x0 := by simpa [c22, Value.cells] using h0
    have agg1 : ∀ {A : List Arg0} {s s' : Value}, VRel (beta0 A) (1 + A.length) s s' → VRel (beta0 A) (1 + A.length) (.agg #[s]) (.agg #[s']) := fun h => .agg _ _ rfl fun i v v' e e' => by
      match i with
      | 0 => simp at e e'; subst e e'; exact h
      | i + 1 => simp at e
    rcases DataW.trod_slice u22 h1 with ⟨hw, _⟩ | ⟨a, len, cap, elems, rest, n, _, hw, _, _, hlc, hml, hlen, hcell, _, _⟩
    · simp at hw
      subst hw
      exact ⟨0, fun _ => [], [], fun _ => .agg #[.slice none 0 0], fun _ => rfl, trivial, fun A pos _ => ⟨by simp, ⟨_, rfl, .inl ⟨rfl, .inl rfl⟩⟩, agg1 .sliceNil⟩⟩
    · simp at hw
      subst hw
      by_cases hz : len = 0
      · subst hz
        exact ⟨0, fun _ => [], [], fun _ => .agg #[.slice (some ⟨0, 0, none⟩) 0 0], fun _ => rfl, trivial, fun A pos _ => ⟨by simp, ⟨_, rfl, .inl ⟨rfl, .inr ⟨_, _, rfl⟩⟩⟩, agg1 (.lost _ _ _ trivial)⟩⟩
      · have key : ∀ i : Fin len, ∃ s : Value, W.cell? ((a.add (i * 1)).add 0) = some s ∧ Nonempty (RowP W .i64 s) := fun i => by
          have h2 := hcell i i.2
          rw [c25, List.getElem?_eq_getElem (by omega), Option.bind_eq_some_iff] at h2
          obtain ⟨x, h3, h4⟩ := h2
          obtain ⟨s, rfl, h5⟩ := one_cell h3
          exact ⟨s, h5, row_of hL u25 u3 c3 h4⟩
        have hch := Classical.axiomOfChoice key
        obtain ⟨S, hS⟩ := hch
        have hR : ∀ i : Fin len, Nonempty (RowP W .i64 (S i)) := fun i => (hS i).2
        let R : (i : Fin len) → RowP W .i64 (S i) := fun i => Classical.choice (hR i)
        obtain ⟨hsp, c, t1, fz, hh, _⟩ := cell_heap (hS ⟨0, by omega⟩).1
        rw [add0] at hsp
        replace hsp : a.spot = none := by simpa [add0] using hsp
        rw [add_block, add_block] at hh
        have hcs : ∀ j : Fin len, c[a.off + j]? = some (S j) := fun j => by
          obtain ⟨hs, c', t2, fz2, h2, h3⟩ := cell_heap (hS j).1
          rw [add_block, add_block, hh] at h2
          obtain ⟨rfl, rfl, rfl⟩ : c = c' ∧ t1 = t2 ∧ fz = fz2 := by injection h2 with h2; injection h2 with a b c; exact ⟨a, b, c⟩
          rw [add0, add_off hsp] at h3
          simpa using h3
        let G : List (List Int) := List.ofFn fun i => (R i).l
        let rowsB : List Arg0 := List.ofFn fun i => (R i).a
        let outer : Nat → Arg0 := fun pos => ⟨a.block, a.off, cap, (List.ofFn fun i : Fin len => (R i).f (pos + 1 + i)).toArray⟩
        have hGl : G.length = len := List.length_ofFn
        refine ⟨1 + len, fun pos => outer pos :: rowsB, G, fun pos => .agg #[.slice (some ⟨1 + pos, 0, some 1⟩) len cap], fun pos => by simp [rowsB]; omega, trivial, fun A pos hp => ?_⟩
        have hA0 : A[pos]? = some (outer pos) := hp 0 _ rfl
        have hAi : ∀ i : Fin len, A[pos + 1 + i]? = some (R i).a := fun i => by
          have := hp (1 + i) (R i).a (by rw [Nat.add_comm 1, List.getElem?_cons_succ]; simp [rowsB])
          rwa [← Nat.add_assoc] at this
        have hrel := fun i : Fin len => (R i).rel A (pos + 1 + i) (hAi i)
        refine ⟨fun b hb => ?_, ⟨_, rfl, ?_⟩, agg1 ?_⟩
        · rcases List.mem_cons.1 hb with rfl | hb
          · refine ⟨c, t1, fz, hh, fun j y hy => ?_⟩
            have hj : j < len := by
              have := (Array.getElem?_eq_some_iff.1 hy).1
              simpa [outer] using this
            have e : y = (R ⟨j, hj⟩).f (pos + 1 + j) := by
              simp [outer, hj] at hy
              exact hy.symm
            subst e
            exact ⟨_, hcs ⟨j, hj⟩, (hrel ⟨j, hj⟩).2⟩
          · obtain ⟨i, rfl⟩ := List.mem_ofFn.1 hb
            exact (R i).ok A
        · refine .inr ⟨1 + pos, 0, cap, false, _, by rw [hGl], mem0_arg hA0, fun i g hi => ?_⟩
          have hj : i < len := by
            have := (List.getElem?_eq_some_iff.1 hi).1
            omega
          have e : g = (R ⟨i, hj⟩).l := by
            simp [G, hj] at hi
            exact hi.symm
          subst e
          exact ⟨(R ⟨i, hj⟩).f (pos + 1 + i), by simp [outer, hj], (hrel ⟨i, hj⟩).1.ints⟩
        · obtain ⟨e1, e2, e3⟩ := beta0_arg hA0
          have hi := (List.getElem?_eq_some_iff.1 hA0).1
          have := VRel.slice (β := beta0 A) (N := 1 + A.length) (1 + pos) 0 1 len cap cap (by omega) (by omega) hlc (Nat.le_refl _) (by rw [e2, e3]; simp only [outer]; omega) (by unfold maxLen at hml; omega)
          rw [e1, e2] at this
          obtain ⟨xb, xo, xs⟩ := a
          obtain rfl : xs = none := hsp
          exact this
end Go.AM
