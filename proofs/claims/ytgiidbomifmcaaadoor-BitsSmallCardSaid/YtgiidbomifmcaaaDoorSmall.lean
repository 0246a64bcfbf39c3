/- BitsSmall: the examples, limits and errors of the chapter are as written there; no condition. -/
import Derived.Test.YtgiidbomifmcaaaDoorBitsC
import Derived.Test.YtgiidbomifmcaaaDoorEntry
import Derived.Test.YtgiidbomifmcaaaDoorTie
import Derived.Test.YtgiidbomifmcaaaDoorCards
set_option linter.unusedVariables false
set_option linter.unusedSimpArgs false
/-! ### E24 -/
namespace Go.AM
open Go.Proofs
set_option maxRecDepth 100000
set_option linter.unusedVariables false
set_option linter.unusedSimpArgs false
theorem call22 : callable Tryd.prog 22 = true := by kernel_rfl
theorem call27 : callable Tryd.prog 27 = true := by kernel_rfl
theorem call40 : callable Tryd.prog 40 = true := by kernel_rfl
theorem call46 : callable Tryd.prog 46 = true := by kernel_rfl
theorem call54 : callable Tryd.prog 54 = true := by kernel_rfl
theorem call59 : callable Tryd.prog 59 = true := by kernel_rfl
theorem call62 : callable Tryd.prog 62 = true := by kernel_rfl

theorem okf15 : okF Tryd.prog H0 15 298 = true := by kernel_rfl
theorem spec_BitsSmall {m : Mem} (hG : Glob m) : ∃ v m', ACalls Tryd.prog 15 #[] m v m' ∧ (v = .bool true ∧ Ext m m') := by
  refine wpF (args := []) mixed okf15 (fn := Tryd.f15) rfl rfl rfl (by simp) ?_
  refine cSeq ?_
  refine cRegion ?_
  refine sAs (v := .bool false) rfl ?_
  refine sNil (kSeqN ?_)
  refine cSeq ?_
  refine cRegion ?_
  refine sBuildS (c := cellsN [3, 5, 6]) T22 S3 Z3 (by decide) (by decide) (by decide) (by kernel_rfl) (by kernel_rfl) rfl ?_
  have xs0 : Ext m (m.push (.cells true (cellsN [3, 5, 6]))) := .push _ _
  have ye0 : Ext m (m.push (.cells true (cellsN [3, 5, 6]))) := (Ext.refl m).trans xs0
  have It32 : IntsAt (m.push (.cells true (cellsN [3, 5, 6]))) (.slice (some ⟨(m).size, 0, some 1⟩) 3 3) (ofs [3, 5, 6]) := new_ints
  refine sAs (v := .slice _ _ _) rfl ?_
  refine sNil (kSeqN ?_)
  refine cSeq ?_
  refine cRegion ?_
  refine sMv (v := .slice _ _ _) rfl ?_
  obtain ⟨vt35, mt35, ht35, hvt35, et35⟩ := spec_Rank (l := ofs [3, 5, 6]) (n := 4) It32 (by decide)
  obtain rfl : vt35 = .tuple #[nv 2, nv 0] := hvt35.trans (by kernel_rfl)
  refine sCall2 rfl call40 rfl rfl ht35 ?_
  have xs1 : Ext (m.push (.cells true (cellsN [3, 5, 6]))) mt35 := et35
  have ye1 : Ext m mt35 := (ye0).trans xs1
  refine sMv (v := .tuple _) rfl ?_
  refine sP (v := nv _) rfl ?_
  refine sP (v := nv _) rfl ?_
  refine sAs (v := nv 2) rfl ?_
  refine sAs (v := nv 0) rfl ?_
  refine sNil (kSeqN ?_)
  refine cSeq ?_
  refine cRegion ?_
  refine sMv (v := .slice _ _ _) rfl ?_
  obtain ⟨vt40, mt40, ht40, hvt40, et40⟩ := spec_Which (l := ofs [3, 5, 6]) (n := 4) (row := 0) (It32.ext (xs1)) (by decide)
  obtain rfl : vt40 = .tuple #[nv 0, nv 0] := hvt40.trans (by kernel_rfl)
  refine sCall3 rfl call38 rfl rfl rfl ht40 ?_
  have xs2 : Ext mt35 mt40 := et40
  have ye2 : Ext m mt40 := (ye1).trans xs2
  refine sMv (v := .tuple _) rfl ?_
  refine sP (v := nv _) rfl ?_
  refine sP (v := nv _) rfl ?_
  refine sAs (v := nv 0) rfl ?_
  refine sAs (v := nv 0) rfl ?_
  refine sNil (kSeqN ?_)
  refine cSeq ?_
  refine cRegion ?_
  refine sMv (v := .slice _ _ _) rfl ?_
  obtain ⟨vt45, mt45, ht45, wt45, hvt45, ot45, et45⟩ := spec_Free (l := ofs [3, 5, 6]) (n := 4) (hG.ext (ye2)) (It32.ext (xs1.trans (xs2))) (by decide)
  obtain rfl : vt45 = .tuple #[wt45, nv 0] := hvt45.trans (by kernel_rfl)
  rw [show (ofs (ifOk _ _ _)) = ofs [0, 3] from congrArg ofs (by decide +kernel)] at ot45
  have it45 := ot45.ints
  obtain ⟨qt45, ct45, rfl⟩ := it45.lenN
  refine sCall2 rfl call59 rfl rfl ht45 ?_
  have xs3 : Ext mt40 mt45 := et45
  have ye3 : Ext m mt45 := (ye2).trans xs3
  refine sMv (v := .tuple _) rfl ?_
  refine sP (v := .slice _ _ _) rfl ?_
  refine sP (v := nv _) rfl ?_
  refine sAs (v := .slice _ _ _) rfl ?_
  refine sAs (v := nv 0) rfl ?_
  refine sNil (kSeqN ?_)
  refine cSeq ?_
  refine cRegion ?_
  refine sBuildS (c := cellsN [8, 7]) T22 S3 Z3 (by decide) (by decide) (by decide) (by kernel_rfl) (by kernel_rfl) rfl ?_
  have xs4 : Ext mt45 (mt45.push (.cells true (cellsN [8, 7]))) := .push _ _
  have ye4 : Ext m (mt45.push (.cells true (cellsN [8, 7]))) := (ye3).trans xs4
  have It49 : IntsAt (mt45.push (.cells true (cellsN [8, 7]))) (.slice (some ⟨(mt45).size, 0, some 1⟩) 2 2) (ofs [8, 7]) := new_ints
  obtain ⟨vt50, mt50, ht50, wt50, hvt50, ot50, et50⟩ := spec_Weights (l := ofs [8, 7]) (n := 4) (hG.ext (ye4)) It49 (by decide)
  obtain rfl : vt50 = .tuple #[wt50, nv 0] := hvt50.trans (by kernel_rfl)
  rw [show (ofs (ifOk _ _ _)) = ofs [1, 1, 0, 1, 1] from congrArg ofs (by decide +kernel)] at ot50
  have it50 := ot50.ints
  obtain ⟨qt50, ct50, rfl⟩ := it50.lenN
  refine sCall2 rfl call28 rfl rfl ht50 ?_
  have xs5 : Ext (mt45.push (.cells true (cellsN [8, 7]))) mt50 := et50
  have ye5 : Ext m mt50 := (ye4).trans xs5
  refine sMv (v := .tuple _) rfl ?_
  refine sP (v := .slice _ _ _) rfl ?_
  refine sP (v := nv _) rfl ?_
  refine sAs (v := .slice _ _ _) rfl ?_
  refine sAs (v := nv 0) rfl ?_
  refine sNil (kSeqN ?_)
  refine cSeq ?_
  refine cRegion ?_
  refine sBuildS (c := cellsN [3, 6]) T22 S3 Z3 (by decide) (by decide) (by decide) (by kernel_rfl) (by kernel_rfl) rfl ?_
  have xs6 : Ext mt50 (mt50.push (.cells true (cellsN [3, 6]))) := .push _ _
  have ye6 : Ext m (mt50.push (.cells true (cellsN [3, 6]))) := (ye5).trans xs6
  have It54 : IntsAt (mt50.push (.cells true (cellsN [3, 6]))) (.slice (some ⟨(mt50).size, 0, some 1⟩) 2 2) (ofs [3, 6]) := new_ints
  obtain ⟨vt55, mt55, ht55, hvt55, et55⟩ := spec_Solve (l := ofs [3, 6]) (n := 3) (b := 1) It54 (by decide)
  obtain rfl : vt55 = .tuple #[nv 1, nv 0] := hvt55.trans (by kernel_rfl)
  refine sCall3 rfl call21 rfl rfl rfl ht55 ?_
  have xs7 : Ext (mt50.push (.cells true (cellsN [3, 6]))) mt55 := et55
  have ye7 : Ext m mt55 := (ye6).trans xs7
  refine sMv (v := .tuple _) rfl ?_
  refine sP (v := nv _) rfl ?_
  refine sP (v := nv _) rfl ?_
  refine sAs (v := nv 1) rfl ?_
  refine sAs (v := nv 0) rfl ?_
  refine sNil (kSeqN ?_)
  refine cSeq ?_
  refine cRegion ?_
  refine sBuildS (c := cellsN [3, 6]) T22 S3 Z3 (by decide) (by decide) (by decide) (by kernel_rfl) (by kernel_rfl) rfl ?_
  have xs8 : Ext mt55 (mt55.push (.cells true (cellsN [3, 6]))) := .push _ _
  have ye8 : Ext m (mt55.push (.cells true (cellsN [3, 6]))) := (ye7).trans xs8
  have It59 : IntsAt (mt55.push (.cells true (cellsN [3, 6]))) (.slice (some ⟨(mt55).size, 0, some 1⟩) 2 2) (ofs [3, 6]) := new_ints
  obtain ⟨vt60, mt60, ht60, hvt60, et60⟩ := spec_Apply (l := ofs [3, 6]) (n := 3) (row := 2) It59 (by decide)
  obtain rfl : vt60 = .tuple #[nv 3, nv 0] := hvt60.trans (by kernel_rfl)
  refine sCall3 rfl call22 rfl rfl rfl ht60 ?_
  have xs9 : Ext (mt55.push (.cells true (cellsN [3, 6]))) mt60 := et60
  have ye9 : Ext m mt60 := (ye8).trans xs9
  refine sMv (v := .tuple _) rfl ?_
  refine sP (v := nv _) rfl ?_
  refine sP (v := nv _) rfl ?_
  refine sAs (v := nv 3) rfl ?_
  refine sAs (v := nv 0) rfl ?_
  refine sNil (kSeqN ?_)
  refine cSeq ?_
  refine cRegion ?_
  refine sMv (v := .slice _ _ _) rfl ?_
  obtain ⟨vt65, mt65, ht65, hvt65, et65⟩ := spec_Member (l := ofs [3, 5, 6]) (n := 4) (row := 8) (It32.ext (xs1.trans (xs2.trans (xs3.trans (xs4.trans (xs5.trans (xs6.trans (xs7.trans (xs8.trans (xs9)))))))))) (by decide)
  obtain rfl : vt65 = .tuple #[.bool false, nv 0] := hvt65.trans (by kernel_rfl)
  refine sCall3 rfl call46 rfl rfl rfl ht65 ?_
  have xs10 : Ext mt60 mt65 := et65
  have ye10 : Ext m mt65 := (ye9).trans xs10
  refine sMv (v := .tuple _) rfl ?_
  refine sP (v := .bool _) rfl ?_
  refine sP (v := nv _) rfl ?_
  refine sAs (v := .bool false) rfl ?_
  refine sAs (v := nv 0) rfl ?_
  refine sNil (kSeqN ?_)
  refine cSeq ?_
  refine cRegion ?_
  refine sMv (v := .slice _ _ _) rfl ?_
  refine sBuildS (c := cellsN [6, 3]) T22 S3 Z3 (by decide) (by decide) (by decide) (by kernel_rfl) (by kernel_rfl) rfl ?_
  have xs11 : Ext mt65 (mt65.push (.cells true (cellsN [6, 3]))) := .push _ _
  have ye11 : Ext m (mt65.push (.cells true (cellsN [6, 3]))) := (ye10).trans xs11
  have It70 : IntsAt (mt65.push (.cells true (cellsN [6, 3]))) (.slice (some ⟨(mt65).size, 0, some 1⟩) 2 2) (ofs [6, 3]) := new_ints
  obtain ⟨vt71, mt71, ht71, hvt71, et71⟩ := spec_Same (l := ofs [3, 5, 6]) (r := ofs [6, 3]) (n := 4) (It32.ext (xs1.trans (xs2.trans (xs3.trans (xs4.trans (xs5.trans (xs6.trans (xs7.trans (xs8.trans (xs9.trans (xs10.trans (xs11)))))))))))) It70 (by decide) (by decide)
  obtain rfl : vt71 = .tuple #[.bool true, nv 0] := hvt71.trans (by kernel_rfl)
  refine sCall3 rfl call62 rfl rfl rfl ht71 ?_
  have xs12 : Ext (mt65.push (.cells true (cellsN [6, 3]))) mt71 := et71
  have ye12 : Ext m mt71 := (ye11).trans xs12
  refine sMv (v := .tuple _) rfl ?_
  refine sP (v := .bool _) rfl ?_
  refine sP (v := nv _) rfl ?_
  refine sAs (v := .bool true) rfl ?_
  refine sAs (v := nv 0) rfl ?_
  refine sNil (kSeqN ?_)
  refine cSeq ?_   -- seq 10
  refine cSeq ?_
  refine cRegion ?_
  refine sMv (v := .bool false) rfl ?_
  refine sG rfl rfl ?_
  refine sMv (v := nv 0) rfl ?_
  refine sG rfl rfl ?_
  refine sBinI (v := .bool false) (a := 0) (b := 0) rfl rfl (by rw [aInt_neqI]; rfl) ?_
  refine sP (v := .bool false) rfl ?_
  refine sMv (v := .bool false) rfl ?_
  refine sG rfl rfl ?_
  refine sMv (v := nv 2) rfl ?_
  refine sG rfl rfl ?_
  refine sBinI (v := .bool false) (a := 2) (b := 2) rfl rfl (by rw [aInt_neqI]; rfl) ?_
  refine sP (v := .bool false) rfl ?_
  refine sMv (v := .bool false) rfl ?_
  refine sG rfl rfl ?_
  refine sMv (v := nv 0) rfl ?_
  refine sG rfl rfl ?_
  refine sBinI (v := .bool false) (a := 0) (b := 0) rfl rfl (by rw [aInt_neqI]; rfl) ?_
  refine sP (v := .bool false) rfl ?_
  refine sMv (v := .bool false) rfl ?_
  refine sG rfl rfl ?_
  refine sMv (v := nv 0) rfl ?_
  refine sG rfl rfl ?_
  refine sBinI (v := .bool false) (a := 0) (b := 0) rfl rfl (by rw [aInt_neqI]; rfl) ?_
  refine sP (v := .bool false) rfl ?_
  refine sMv (v := .bool false) rfl ?_
  refine sG rfl rfl ?_
  refine sMv (v := nv 0) rfl ?_
  refine sG rfl rfl ?_
  refine sBinI (v := .bool false) (a := 0) (b := 0) rfl rfl (by rw [aInt_neqI]; rfl) ?_
  refine sP (v := .bool false) rfl ?_
  refine sMv (v := .bool false) rfl ?_
  refine sG rfl rfl ?_
  refine sMv (v := .slice _ _ _) rfl ?_
  refine sG rfl rfl ?_
  refine sBuildS (c := cellsN [0, 3]) T22 S3 Z3 (by decide) (by decide) (by decide) (by kernel_rfl) (by kernel_rfl) rfl ?_
  have xs13 : Ext mt71 (mt71.push (.cells true (cellsN [0, 3]))) := .push _ _
  have ye13 : Ext m (mt71.push (.cells true (cellsN [0, 3]))) := (ye12).trans xs13
  have It96 : IntsAt (mt71.push (.cells true (cellsN [0, 3]))) (.slice (some ⟨(mt71).size, 0, some 1⟩) 2 2) (ofs [0, 3]) := new_ints
  refine sG rfl rfl ?_
  obtain ⟨vt97, mt97, ht97, hvt97, kt97⟩ := spec_Eq (l := [0, 3]) (r := [0, 3]) (it45.ext (xs4.trans (xs5.trans (xs6.trans (xs7.trans (xs8.trans (xs9.trans (xs10.trans (xs11.trans (xs12.trans (xs13))))))))))) It96 (by decide)
  obtain rfl := kt97.symm
  obtain rfl : vt97 = .bool true := hvt97.trans (by kernel_rfl)
  refine sCall2 rfl call23 rfl rfl ht97 ?_
  refine sG rfl rfl ?_
  refine sP (v := .bool false) rfl ?_
  refine sP (v := .bool false) rfl ?_
  refine sMv (v := .bool false) rfl ?_
  refine sG rfl rfl ?_
  refine sMv (v := nv 0) rfl ?_
  refine sG rfl rfl ?_
  refine sBinI (v := .bool false) (a := 0) (b := 0) rfl rfl (by rw [aInt_neqI]; rfl) ?_
  refine sP (v := .bool false) rfl ?_
  refine sMv (v := .bool false) rfl ?_
  refine sG rfl rfl ?_
  refine sMv (v := .slice _ _ _) rfl ?_
  refine sG rfl rfl ?_
  refine sBuildS (c := cellsN [1, 1, 0, 1, 1]) T22 S3 Z3 (by decide) (by decide) (by decide) (by kernel_rfl) (by kernel_rfl) rfl ?_
  have xs14 : Ext (mt71.push (.cells true (cellsN [0, 3]))) ((mt71.push (.cells true (cellsN [0, 3]))).push (.cells true (cellsN [1, 1, 0, 1, 1]))) := .push _ _
  have ye14 : Ext m ((mt71.push (.cells true (cellsN [0, 3]))).push (.cells true (cellsN [1, 1, 0, 1, 1]))) := (ye13).trans xs14
  have It106 : IntsAt ((mt71.push (.cells true (cellsN [0, 3]))).push (.cells true (cellsN [1, 1, 0, 1, 1]))) (.slice (some ⟨((mt71.push (.cells true (cellsN [0, 3])))).size, 0, some 1⟩) 5 5) (ofs [1, 1, 0, 1, 1]) := new_ints
  refine sG rfl rfl ?_
  obtain ⟨vt107, mt107, ht107, hvt107, kt107⟩ := spec_Eq (l := [1, 1, 0, 1, 1]) (r := [1, 1, 0, 1, 1]) (it50.ext (xs6.trans (xs7.trans (xs8.trans (xs9.trans (xs10.trans (xs11.trans (xs12.trans (xs13.trans (xs14)))))))))) It106 (by decide)
  obtain rfl := kt107.symm
  obtain rfl : vt107 = .bool true := hvt107.trans (by kernel_rfl)
  refine sCall2 rfl call23 rfl rfl ht107 ?_
  refine sG rfl rfl ?_
  refine sP (v := .bool false) rfl ?_
  refine sP (v := .bool false) rfl ?_
  refine sMv (v := .bool false) rfl ?_
  refine sG rfl rfl ?_
  refine sMv (v := nv 0) rfl ?_
  refine sG rfl rfl ?_
  refine sBinI (v := .bool false) (a := 0) (b := 0) rfl rfl (by rw [aInt_neqI]; rfl) ?_
  refine sP (v := .bool false) rfl ?_
  refine sMv (v := .bool false) rfl ?_
  refine sG rfl rfl ?_
  refine sMv (v := nv 1) rfl ?_
  refine sG rfl rfl ?_
  refine sBinI (v := .bool false) (a := 1) (b := 1) rfl rfl (by rw [aInt_neqI]; rfl) ?_
  refine sP (v := .bool false) rfl ?_
  refine sMv (v := .bool false) rfl ?_
  refine sG rfl rfl ?_
  refine sMv (v := nv 0) rfl ?_
  refine sG rfl rfl ?_
  refine sBinI (v := .bool false) (a := 0) (b := 0) rfl rfl (by rw [aInt_neqI]; rfl) ?_
  refine sP (v := .bool false) rfl ?_
  refine sMv (v := .bool false) rfl ?_
  refine sG rfl rfl ?_
  refine sMv (v := nv 3) rfl ?_
  refine sG rfl rfl ?_
  refine sBinI (v := .bool false) (a := 3) (b := 3) rfl rfl (by rw [aInt_neqI]; rfl) ?_
  refine sP (v := .bool false) rfl ?_
  refine sMv (v := .bool false) rfl ?_
  refine sG rfl rfl ?_
  refine sMv (v := nv 0) rfl ?_
  refine sG rfl rfl ?_
  refine sBinI (v := .bool false) (a := 0) (b := 0) rfl rfl (by rw [aInt_neqI]; rfl) ?_
  refine sP (v := .bool false) rfl ?_
  refine sMv (v := .bool false) rfl ?_
  refine sG rfl rfl ?_
  refine sMv (v := .bool false) rfl ?_
  refine sP (v := .bool false) rfl ?_
  refine sMv (v := .bool false) rfl ?_
  refine sG rfl rfl ?_
  refine sMv (v := nv 0) rfl ?_
  refine sG rfl rfl ?_
  refine sBinI (v := .bool false) (a := 0) (b := 0) rfl rfl (by rw [aInt_neqI]; rfl) ?_
  refine sP (v := .bool false) rfl ?_
  refine sMv (v := .bool false) rfl ?_
  refine sG rfl rfl ?_
  refine sMv (v := .bool true) rfl ?_
  refine sG rfl rfl ?_
  refine sP (v := .bool false) rfl ?_
  refine sP (v := .bool false) rfl ?_
  refine sNil (kSeqN ?_)
  refine cCondF rfl ?_
  refine cSkip (kSeqN ?_)
  refine cSeq ?_
  refine cRegion ?_
  refine sBuildS (c := cellsN [3, 3]) T22 S3 Z3 (by decide) (by decide) (by decide) (by kernel_rfl) (by kernel_rfl) rfl ?_
  have xs15 : Ext ((mt71.push (.cells true (cellsN [0, 3]))).push (.cells true (cellsN [1, 1, 0, 1, 1]))) (((mt71.push (.cells true (cellsN [0, 3]))).push (.cells true (cellsN [1, 1, 0, 1, 1]))).push (.cells true (cellsN [3, 3]))) := .push _ _
  have ye15 : Ext m (((mt71.push (.cells true (cellsN [0, 3]))).push (.cells true (cellsN [1, 1, 0, 1, 1]))).push (.cells true (cellsN [3, 3]))) := (ye14).trans xs15
  have It142 : IntsAt (((mt71.push (.cells true (cellsN [0, 3]))).push (.cells true (cellsN [1, 1, 0, 1, 1]))).push (.cells true (cellsN [3, 3]))) (.slice (some ⟨(((mt71.push (.cells true (cellsN [0, 3]))).push (.cells true (cellsN [1, 1, 0, 1, 1])))).size, 0, some 1⟩) 2 2) (ofs [3, 3]) := new_ints
  obtain ⟨vt143, mt143, ht143, hvt143, et143⟩ := spec_Solve (l := ofs [3, 3]) (n := 2) (b := 1) It142 (by decide)
  obtain rfl : vt143 = .tuple #[nv 0, nv 6] := hvt143.trans (by kernel_rfl)
  refine sCall3 rfl call21 rfl rfl rfl ht143 ?_
  have xs16 : Ext (((mt71.push (.cells true (cellsN [0, 3]))).push (.cells true (cellsN [1, 1, 0, 1, 1]))).push (.cells true (cellsN [3, 3]))) mt143 := et143
  have ye16 : Ext m mt143 := (ye15).trans xs16
  refine sMv (v := .tuple _) rfl ?_
  refine sP (v := nv _) rfl ?_
  refine sP (v := nv _) rfl ?_
  refine sAs (v := nv 6) rfl ?_
  refine sNil (kSeqN ?_)
  refine cSeq ?_
  refine cRegion ?_
  refine sBuildS (c := cellsN [3, 3]) T22 S3 Z3 (by decide) (by decide) (by decide) (by kernel_rfl) (by kernel_rfl) rfl ?_
  have xs17 : Ext mt143 (mt143.push (.cells true (cellsN [3, 3]))) := .push _ _
  have ye17 : Ext m (mt143.push (.cells true (cellsN [3, 3]))) := (ye16).trans xs17
  have It147 : IntsAt (mt143.push (.cells true (cellsN [3, 3]))) (.slice (some ⟨(mt143).size, 0, some 1⟩) 2 2) (ofs [3, 3]) := new_ints
  obtain ⟨vt148, mt148, ht148, hvt148, et148⟩ := spec_Solve (l := ofs [3, 3]) (n := 2) (b := 4) It147 (by decide)
  obtain rfl : vt148 = .tuple #[nv 0, nv 4] := hvt148.trans (by kernel_rfl)
  refine sCall3 rfl call21 rfl rfl rfl ht148 ?_
  have xs18 : Ext (mt143.push (.cells true (cellsN [3, 3]))) mt148 := et148
  have ye18 : Ext m mt148 := (ye17).trans xs18
  refine sMv (v := .tuple _) rfl ?_
  refine sP (v := nv _) rfl ?_
  refine sP (v := nv _) rfl ?_
  refine sAs (v := nv 4) rfl ?_
  refine sNil (kSeqN ?_)
  refine cSeq ?_
  refine cRegion ?_
  refine sMv (v := .slice _ _ _) rfl ?_
  obtain ⟨vt153, mt153, ht153, hvt153, et153⟩ := spec_Which (l := ofs [3, 5, 6]) (n := 4) (row := 8) (It32.ext (xs1.trans (xs2.trans (xs3.trans (xs4.trans (xs5.trans (xs6.trans (xs7.trans (xs8.trans (xs9.trans (xs10.trans (xs11.trans (xs12.trans (xs13.trans (xs14.trans (xs15.trans (xs16.trans (xs17.trans (xs18))))))))))))))))))) (by decide)
  obtain rfl : vt153 = .tuple #[nv 0, nv 6] := hvt153.trans (by kernel_rfl)
  refine sCall3 rfl call38 rfl rfl rfl ht153 ?_
  have xs19 : Ext mt148 mt153 := et153
  have ye19 : Ext m mt153 := (ye18).trans xs19
  refine sMv (v := .tuple _) rfl ?_
  refine sP (v := nv _) rfl ?_
  refine sP (v := nv _) rfl ?_
  refine sAs (v := nv 6) rfl ?_
  refine sNil (kSeqN ?_)
  refine cSeq ?_
  refine cRegion ?_
  refine sMv (v := .slice _ _ _) rfl ?_
  obtain ⟨vt158, mt158, ht158, hvt158, et158⟩ := spec_Which (l := ofs [3, 5, 6]) (n := 4) (row := 16) (It32.ext (xs1.trans (xs2.trans (xs3.trans (xs4.trans (xs5.trans (xs6.trans (xs7.trans (xs8.trans (xs9.trans (xs10.trans (xs11.trans (xs12.trans (xs13.trans (xs14.trans (xs15.trans (xs16.trans (xs17.trans (xs18.trans (xs19)))))))))))))))))))) (by decide)
  obtain rfl : vt158 = .tuple #[nv 0, nv 4] := hvt158.trans (by kernel_rfl)
  refine sCall3 rfl call38 rfl rfl rfl ht158 ?_
  have xs20 : Ext mt153 mt158 := et158
  have ye20 : Ext m mt158 := (ye19).trans xs20
  refine sMv (v := .tuple _) rfl ?_
  refine sP (v := nv _) rfl ?_
  refine sP (v := nv _) rfl ?_
  refine sAs (v := nv 4) rfl ?_
  refine sNil (kSeqN ?_)
  refine cSeq ?_
  refine cRegion ?_
  refine sMv (v := .slice _ _ _) rfl ?_
  obtain ⟨vt163, mt163, ht163, hvt163, et163⟩ := spec_Member (l := ofs [3, 5, 6]) (n := 4) (row := (-1)) (It32.ext (xs1.trans (xs2.trans (xs3.trans (xs4.trans (xs5.trans (xs6.trans (xs7.trans (xs8.trans (xs9.trans (xs10.trans (xs11.trans (xs12.trans (xs13.trans (xs14.trans (xs15.trans (xs16.trans (xs17.trans (xs18.trans (xs19.trans (xs20))))))))))))))))))))) (by decide)
  obtain rfl : vt163 = .tuple #[.bool false, nv 4] := hvt163.trans (by kernel_rfl)
  refine sCall3 rfl call46 rfl rfl rfl ht163 ?_
  have xs21 : Ext mt158 mt163 := et163
  have ye21 : Ext m mt163 := (ye20).trans xs21
  refine sMv (v := .tuple _) rfl ?_
  refine sP (v := .bool _) rfl ?_
  refine sP (v := nv _) rfl ?_
  refine sAs (v := nv 4) rfl ?_
  refine sNil (kSeqN ?_)
  refine cSeq ?_
  refine cRegion ?_
  refine sBuildS (c := cellsN [1]) T22 S3 Z3 (by decide) (by decide) (by decide) (by kernel_rfl) (by kernel_rfl) rfl ?_
  have xs22 : Ext mt163 (mt163.push (.cells true (cellsN [1]))) := .push _ _
  have ye22 : Ext m (mt163.push (.cells true (cellsN [1]))) := (ye21).trans xs22
  have It167 : IntsAt (mt163.push (.cells true (cellsN [1]))) (.slice (some ⟨(mt163).size, 0, some 1⟩) 1 1) (ofs [1]) := new_ints
  refine sBuildS (c := cellsN [1]) T22 S3 Z3 (by decide) (by decide) (by decide) (by kernel_rfl) (by kernel_rfl) rfl ?_
  have xs23 : Ext (mt163.push (.cells true (cellsN [1]))) ((mt163.push (.cells true (cellsN [1]))).push (.cells true (cellsN [1]))) := .push _ _
  have ye23 : Ext m ((mt163.push (.cells true (cellsN [1]))).push (.cells true (cellsN [1]))) := (ye22).trans xs23
  have It168 : IntsAt ((mt163.push (.cells true (cellsN [1]))).push (.cells true (cellsN [1]))) (.slice (some ⟨((mt163.push (.cells true (cellsN [1])))).size, 0, some 1⟩) 1 1) (ofs [1]) := new_ints
  obtain ⟨vt169, mt169, ht169, wt169, hvt169, ot169, et169⟩ := spec_Mul (l := ofs [1]) (n := 2) (r := ofs [1]) (k := 1) (It167.ext (xs23)) It168 (by decide) (by decide)
  obtain rfl : vt169 = .tuple #[wt169, nv 7] := hvt169.trans (by kernel_rfl)
  rw [show (ofs (ifOk _ _ _)) = ofs [] from congrArg ofs (by decide +kernel)] at ot169
  have it169 := ot169.ints
  obtain ⟨qt169, ct169, rfl⟩ := it169.lenN
  refine sCall4 rfl call51 rfl rfl rfl rfl ht169 ?_
  have xs24 : Ext ((mt163.push (.cells true (cellsN [1]))).push (.cells true (cellsN [1]))) mt169 := et169
  have ye24 : Ext m mt169 := (ye23).trans xs24
  refine sMv (v := .tuple _) rfl ?_
  refine sP (v := .slice _ _ _) rfl ?_
  refine sP (v := nv _) rfl ?_
  refine sAs (v := nv 7) rfl ?_
  refine sNil (kSeqN ?_)
  refine cSeq ?_
  refine cRegion ?_
  refine sBuildS (c := cellsN [1, 1]) T22 S3 Z3 (by decide) (by decide) (by decide) (by kernel_rfl) (by kernel_rfl) rfl ?_
  have xs25 : Ext mt169 (mt169.push (.cells true (cellsN [1, 1]))) := .push _ _
  have ye25 : Ext m (mt169.push (.cells true (cellsN [1, 1]))) := (ye24).trans xs25
  have It173 : IntsAt (mt169.push (.cells true (cellsN [1, 1]))) (.slice (some ⟨(mt169).size, 0, some 1⟩) 2 2) (ofs [1, 1]) := new_ints
  obtain ⟨vt174, mt174, ht174, wt174, hvt174, ot174, et174⟩ := spec_Invert (l := ofs [1, 1]) (n := 2) It173 (by decide)
  obtain rfl : vt174 = .tuple #[wt174, nv 6] := hvt174.trans (by kernel_rfl)
  rw [show (ofs (ifOk _ _ _)) = ofs [] from congrArg ofs (by decide +kernel)] at ot174
  have it174 := ot174.ints
  obtain ⟨qt174, ct174, rfl⟩ := it174.lenN
  refine sCall2 rfl call53 rfl rfl ht174 ?_
  have xs26 : Ext (mt169.push (.cells true (cellsN [1, 1]))) mt174 := et174
  have ye26 : Ext m mt174 := (ye25).trans xs26
  refine sMv (v := .tuple _) rfl ?_
  refine sP (v := .slice _ _ _) rfl ?_
  refine sP (v := nv _) rfl ?_
  refine sAs (v := nv 6) rfl ?_
  refine sNil (kSeqN ?_)
  refine cSeq ?_
  refine cRegion ?_
  refine sBuildS (c := cellsN [1]) T22 S3 Z3 (by decide) (by decide) (by decide) (by kernel_rfl) (by kernel_rfl) rfl ?_
  have xs27 : Ext mt174 (mt174.push (.cells true (cellsN [1]))) := .push _ _
  have ye27 : Ext m (mt174.push (.cells true (cellsN [1]))) := (ye26).trans xs27
  have It178 : IntsAt (mt174.push (.cells true (cellsN [1]))) (.slice (some ⟨(mt174).size, 0, some 1⟩) 1 1) (ofs [1]) := new_ints
  obtain ⟨vt179, mt179, ht179, wt179, hvt179, ot179, et179⟩ := spec_Invert (l := ofs [1]) (n := 2) It178 (by decide)
  obtain rfl : vt179 = .tuple #[wt179, nv 7] := hvt179.trans (by kernel_rfl)
  rw [show (ofs (ifOk _ _ _)) = ofs [] from congrArg ofs (by decide +kernel)] at ot179
  have it179 := ot179.ints
  obtain ⟨qt179, ct179, rfl⟩ := it179.lenN
  refine sCall2 rfl call53 rfl rfl ht179 ?_
  have xs28 : Ext (mt174.push (.cells true (cellsN [1]))) mt179 := et179
  have ye28 : Ext m mt179 := (ye27).trans xs28
  refine sMv (v := .tuple _) rfl ?_
  refine sP (v := .slice _ _ _) rfl ?_
  refine sP (v := nv _) rfl ?_
  refine sAs (v := nv 7) rfl ?_
  refine sNil (kSeqN ?_)
  refine cSeq ?_
  refine cRegion ?_
  obtain ⟨vt183, mt183, ht183, wt183, hvt183, ot183, et183⟩ := spec_Transpose (l := ofs []) (n := 3) (.inl ⟨rfl, .inl rfl⟩) (by decide)
  obtain rfl : vt183 = .tuple #[wt183, nv 7] := hvt183.trans (by kernel_rfl)
  rw [show (ofs (ifOk _ _ _)) = ofs [] from congrArg ofs (by decide +kernel)] at ot183
  have it183 := ot183.ints
  obtain ⟨qt183, ct183, rfl⟩ := it183.lenN
  refine sCall2 rfl call52 rfl rfl ht183 ?_
  have xs29 : Ext mt179 mt183 := et183
  have ye29 : Ext m mt183 := (ye28).trans xs29
  refine sMv (v := .tuple _) rfl ?_
  refine sP (v := .slice _ _ _) rfl ?_
  refine sP (v := nv _) rfl ?_
  refine sAs (v := .slice _ _ _) rfl ?_
  refine sAs (v := nv 7) rfl ?_
  refine sNil (kSeqN ?_)
  refine cSeq ?_
  refine cRegion ?_
  refine sMkN (n := 17) T22 S3 Z3 bytes3 rfl rfl (by decide) ?_
  have xs30 : Ext mt183 (mt183.push (.cells true (cellsN (List.replicate 17 0)))) := .push _ _
  have ye30 : Ext m (mt183.push (.cells true (cellsN (List.replicate 17 0)))) := (ye29).trans xs30
  have It187 : IntsAt (mt183.push (.cells true (cellsN (List.replicate 17 0)))) (.slice (some ⟨(mt183).size, 0, some 1⟩) 17 17) (ofs (List.replicate 17 0)) := new_ints (l := (List.replicate 17 0)) (by simp)
  obtain ⟨vt188, mt188, ht188, wt188, hvt188, ot188, et188⟩ := spec_Transpose (l := ofs (List.replicate 17 0)) (n := 3) It187 (by decide)
  obtain rfl : vt188 = .tuple #[wt188, nv 7] := hvt188.trans (by kernel_rfl)
  rw [show (ofs (ifOk _ _ _)) = ofs [] from congrArg ofs (by decide +kernel)] at ot188
  have it188 := ot188.ints
  obtain ⟨qt188, ct188, rfl⟩ := it188.lenN
  refine sCall2 rfl call52 rfl rfl ht188 ?_
  have xs31 : Ext (mt183.push (.cells true (cellsN (List.replicate 17 0)))) mt188 := et188
  have ye31 : Ext m mt188 := (ye30).trans xs31
  refine sMv (v := .tuple _) rfl ?_
  refine sP (v := .slice _ _ _) rfl ?_
  refine sP (v := nv _) rfl ?_
  refine sAs (v := .slice _ _ _) rfl ?_
  refine sAs (v := nv 7) rfl ?_
  refine sNil (kSeqN ?_)
  refine cSeq ?_
  refine cRegion ?_
  obtain ⟨vt192, mt192, ht192, wt192, hvt192, ot192, et192⟩ := spec_Identity (m := mt188) (n := 0)
  obtain rfl : vt192 = .tuple #[wt192, nv 3] := hvt192.trans (by kernel_rfl)
  rw [show (ofs (ifOk _ _ _)) = ofs [] from congrArg ofs (by decide +kernel)] at ot192
  have it192 := ot192.ints
  obtain ⟨qt192, ct192, rfl⟩ := it192.lenN
  refine sCall1 rfl call54 rfl ht192 ?_
  have xs32 : Ext mt188 mt192 := et192
  have ye32 : Ext m mt192 := (ye31).trans xs32
  refine sMv (v := .tuple _) rfl ?_
  refine sP (v := .slice _ _ _) rfl ?_
  refine sP (v := nv _) rfl ?_
  refine sAs (v := .slice _ _ _) rfl ?_
  refine sAs (v := nv 3) rfl ?_
  refine sNil (kSeqN ?_)
  refine cSeq ?_
  refine cRegion ?_
  obtain ⟨vt196, mt196, ht196, hvt196, kt196⟩ := spec_Weight (m := mt192) (x := (-1)) (by decide)
  obtain rfl := kt196.symm
  obtain rfl : vt196 = .tuple #[nv 0, nv 3] := hvt196.trans (by kernel_rfl)
  refine sCall1 rfl call27 rfl ht196 ?_
  refine sMv (v := .tuple _) rfl ?_
  refine sP (v := nv _) rfl ?_
  refine sP (v := nv _) rfl ?_
  refine sAs (v := nv 0) rfl ?_
  refine sAs (v := nv 3) rfl ?_
  refine sNil (kSeqN ?_)
  refine cSeq ?_
  refine cRegion ?_
  refine sMv (v := .slice _ _ _) rfl ?_
  obtain ⟨vt201, mt201, ht201, hvt201, et201⟩ := spec_Coset (l := ofs [3, 5, 6]) (n := 3) (row := 8) (hG.ext (ye32)) (It32.ext (xs1.trans (xs2.trans (xs3.trans (xs4.trans (xs5.trans (xs6.trans (xs7.trans (xs8.trans (xs9.trans (xs10.trans (xs11.trans (xs12.trans (xs13.trans (xs14.trans (xs15.trans (xs16.trans (xs17.trans (xs18.trans (xs19.trans (xs20.trans (xs21.trans (xs22.trans (xs23.trans (xs24.trans (xs25.trans (xs26.trans (xs27.trans (xs28.trans (xs29.trans (xs30.trans (xs31.trans (xs32))))))))))))))))))))))))))))))))) (by decide)
  obtain rfl : vt201 = .tuple #[nv 0, nv 4] := hvt201.trans (by kernel_rfl)
  refine sCall3 rfl call29 rfl rfl rfl ht201 ?_
  have xs33 : Ext mt192 mt201 := et201
  have ye33 : Ext m mt201 := (ye32).trans xs33
  refine sMv (v := .tuple _) rfl ?_
  refine sP (v := nv _) rfl ?_
  refine sP (v := nv _) rfl ?_
  refine sAs (v := nv 0) rfl ?_
  refine sAs (v := nv 4) rfl ?_
  refine sNil (kSeqN ?_)
  refine cSeq ?_
  refine cRegion ?_
  refine sMv (v := .slice _ _ _) rfl ?_
  obtain ⟨vt206, mt206, ht206, hvt206, et206⟩ := spec_Apply (l := ofs [3, 5, 6]) (n := 3) (row := 8) (It32.ext (xs1.trans (xs2.trans (xs3.trans (xs4.trans (xs5.trans (xs6.trans (xs7.trans (xs8.trans (xs9.trans (xs10.trans (xs11.trans (xs12.trans (xs13.trans (xs14.trans (xs15.trans (xs16.trans (xs17.trans (xs18.trans (xs19.trans (xs20.trans (xs21.trans (xs22.trans (xs23.trans (xs24.trans (xs25.trans (xs26.trans (xs27.trans (xs28.trans (xs29.trans (xs30.trans (xs31.trans (xs32.trans (xs33)))))))))))))))))))))))))))))))))) (by decide)
  obtain rfl : vt206 = .tuple #[nv 0, nv 4] := hvt206.trans (by kernel_rfl)
  refine sCall3 rfl call22 rfl rfl rfl ht206 ?_
  have xs34 : Ext mt201 mt206 := et206
  have ye34 : Ext m mt206 := (ye33).trans xs34
  refine sMv (v := .tuple _) rfl ?_
  refine sP (v := nv _) rfl ?_
  refine sP (v := nv _) rfl ?_
  refine sAs (v := nv 0) rfl ?_
  refine sAs (v := nv 4) rfl ?_
  refine sNil (kSeqN ?_)
  refine cSeq ?_
  refine cRegion ?_
  obtain ⟨vt210, mt210, ht210, wt210, hvt210, ot210, et210⟩ := spec_Reduce (l := ofs []) (n := 16) (.inl ⟨rfl, .inl rfl⟩) (by decide)
  obtain rfl : vt210 = .tuple #[wt210, nv 0] := hvt210.trans (by kernel_rfl)
  rw [show (ofs (ifOk _ _ _)) = ofs [] from congrArg ofs (by decide +kernel)] at ot210
  have it210 := ot210.ints
  obtain ⟨qt210, ct210, rfl⟩ := it210.lenN
  refine sCall2 rfl call43 rfl rfl ht210 ?_
  have xs35 : Ext mt206 mt210 := et210
  have ye35 : Ext m mt210 := (ye34).trans xs35
  refine sMv (v := .tuple _) rfl ?_
  refine sP (v := .slice _ _ _) rfl ?_
  refine sP (v := nv _) rfl ?_
  refine sAs (v := .slice _ _ _) rfl ?_
  refine sAs (v := nv 0) rfl ?_
  refine sNil (kSeqN ?_)
  refine cSeq ?_
  refine cRegion ?_
  refine sMv (v := nv 6) rfl ?_
  refine sBinI (v := .bool true) (a := 6) (b := 6) rfl rfl (by rw [aInt_eqlI]; rfl) ?_
  refine sMv (v := .bool true) rfl ?_
  refine sG rfl rfl ?_
  refine sMv (v := nv 4) rfl ?_
  refine sG rfl rfl ?_
  refine sBinI (v := .bool true) (a := 4) (b := 4) rfl rfl (by rw [aInt_eqlI]; rfl) ?_
  refine sP (v := .bool true) rfl ?_
  refine sMv (v := .bool true) rfl ?_
  refine sG rfl rfl ?_
  refine sMv (v := nv 6) rfl ?_
  refine sG rfl rfl ?_
  refine sBinI (v := .bool true) (a := 6) (b := 6) rfl rfl (by rw [aInt_eqlI]; rfl) ?_
  refine sP (v := .bool true) rfl ?_
  refine sMv (v := .bool true) rfl ?_
  refine sG rfl rfl ?_
  refine sMv (v := nv 4) rfl ?_
  refine sG rfl rfl ?_
  refine sBinI (v := .bool true) (a := 4) (b := 4) rfl rfl (by rw [aInt_eqlI]; rfl) ?_
  refine sP (v := .bool true) rfl ?_
  refine sMv (v := .bool true) rfl ?_
  refine sG rfl rfl ?_
  refine sMv (v := nv 4) rfl ?_
  refine sG rfl rfl ?_
  refine sBinI (v := .bool true) (a := 4) (b := 4) rfl rfl (by rw [aInt_eqlI]; rfl) ?_
  refine sP (v := .bool true) rfl ?_
  refine sMv (v := .bool true) rfl ?_
  refine sG rfl rfl ?_
  refine sMv (v := nv 7) rfl ?_
  refine sG rfl rfl ?_
  refine sBinI (v := .bool true) (a := 7) (b := 7) rfl rfl (by rw [aInt_eqlI]; rfl) ?_
  refine sP (v := .bool true) rfl ?_
  refine sMv (v := .bool true) rfl ?_
  refine sG rfl rfl ?_
  refine sMv (v := nv 6) rfl ?_
  refine sG rfl rfl ?_
  refine sBinI (v := .bool true) (a := 6) (b := 6) rfl rfl (by rw [aInt_eqlI]; rfl) ?_
  refine sP (v := .bool true) rfl ?_
  refine sMv (v := .bool true) rfl ?_
  refine sG rfl rfl ?_
  refine sMv (v := nv 7) rfl ?_
  refine sG rfl rfl ?_
  refine sBinI (v := .bool true) (a := 7) (b := 7) rfl rfl (by rw [aInt_eqlI]; rfl) ?_
  refine sP (v := .bool true) rfl ?_
  refine sMv (v := .bool true) rfl ?_
  refine sG rfl rfl ?_
  refine sMv (v := nv 7) rfl ?_
  refine sG rfl rfl ?_
  refine sBinI (v := .bool true) (a := 7) (b := 7) rfl rfl (by rw [aInt_eqlI]; rfl) ?_
  refine sP (v := .bool true) rfl ?_
  refine sMv (v := .bool true) rfl ?_
  refine sG rfl rfl ?_
  refine sMv (v := nv 7) rfl ?_
  refine sG rfl rfl ?_
  refine sBinI (v := .bool true) (a := 7) (b := 7) rfl rfl (by rw [aInt_eqlI]; rfl) ?_
  refine sP (v := .bool true) rfl ?_
  refine sMv (v := .bool true) rfl ?_
  refine sG rfl rfl ?_
  refine sMv (v := nv 3) rfl ?_
  refine sG rfl rfl ?_
  refine sBinI (v := .bool true) (a := 3) (b := 3) rfl rfl (by rw [aInt_eqlI]; rfl) ?_
  refine sP (v := .bool true) rfl ?_
  refine sMv (v := .bool true) rfl ?_
  refine sG rfl rfl ?_
  refine sMv (v := nv 3) rfl ?_
  refine sG rfl rfl ?_
  refine sBinI (v := .bool true) (a := 3) (b := 3) rfl rfl (by rw [aInt_eqlI]; rfl) ?_
  refine sP (v := .bool true) rfl ?_
  refine sMv (v := .bool true) rfl ?_
  refine sG rfl rfl ?_
  refine sMv (v := nv 4) rfl ?_
  refine sG rfl rfl ?_
  refine sBinI (v := .bool true) (a := 4) (b := 4) rfl rfl (by rw [aInt_eqlI]; rfl) ?_
  refine sP (v := .bool true) rfl ?_
  refine sMv (v := .bool true) rfl ?_
  refine sG rfl rfl ?_
  refine sMv (v := nv 4) rfl ?_
  refine sG rfl rfl ?_
  refine sBinI (v := .bool true) (a := 4) (b := 4) rfl rfl (by rw [aInt_eqlI]; rfl) ?_
  refine sP (v := .bool true) rfl ?_
  refine sMv (v := .bool true) rfl ?_
  refine sG rfl rfl ?_
  refine sMv (v := nv 0) rfl ?_
  refine sG rfl rfl ?_
  refine sBinI (v := .bool true) (a := 0) (b := 0) rfl rfl (by rw [aInt_eqlI]; rfl) ?_
  refine sP (v := .bool true) rfl ?_
  refine sMv (v := .bool true) rfl ?_
  refine sG rfl rfl ?_
  refine sMv (v := .slice _ _ _) rfl ?_
  refine sG rfl rfl ?_
  refine sLen T22 rfl ?_
  refine sG rfl rfl ?_
  refine sBinI (v := .bool true) (a := 0) (b := 0) rfl rfl (by rw [aInt_eqlI]; rfl) ?_
  refine sP (v := .bool true) rfl ?_
  refine sMv (v := .bool true) rfl ?_
  refine sG rfl rfl ?_
  obtain ⟨mt277, ht277, et277⟩ := spec_Check (l := ofs []) (n := 17) (.inl ⟨rfl, .inl rfl⟩) (by decide)
  rw [show checkF (ofs []) 17 = 3 by decide +kernel] at ht277
  refine sCall2 rfl call60 rfl rfl ht277 ?_
  have xs36 : Ext mt210 mt277 := et277
  have ye36 : Ext m mt277 := (ye35).trans xs36
  refine sG rfl rfl ?_
  refine sBinI (v := .bool true) (a := 3) (b := 3) rfl rfl (by rw [aInt_eqlI]; rfl) ?_
  refine sP (v := .bool true) rfl ?_
  refine sMv (v := .bool true) rfl ?_
  refine sG rfl rfl ?_
  refine sMkN (n := 25) T22 S3 Z3 bytes3 rfl rfl (by decide) ?_
  have xs37 : Ext mt277 (mt277.push (.cells true (cellsN (List.replicate 25 0)))) := .push _ _
  have ye37 : Ext m (mt277.push (.cells true (cellsN (List.replicate 25 0)))) := (ye36).trans xs37
  have It281 : IntsAt (mt277.push (.cells true (cellsN (List.replicate 25 0)))) (.slice (some ⟨(mt277).size, 0, some 1⟩) 25 25) (ofs (List.replicate 25 0)) := new_ints (l := (List.replicate 25 0)) (by simp)
  refine sG rfl rfl ?_
  obtain ⟨mt282, ht282, et282⟩ := spec_Check (l := ofs (List.replicate 25 0)) (n := 3) It281 (by decide)
  rw [show checkF (ofs (List.replicate 25 0)) 3 = 2 by decide +kernel] at ht282
  refine sCall2 rfl call60 rfl rfl ht282 ?_
  have xs38 : Ext (mt277.push (.cells true (cellsN (List.replicate 25 0)))) mt282 := et282
  have ye38 : Ext m mt282 := (ye37).trans xs38
  refine sG rfl rfl ?_
  refine sBinI (v := .bool true) (a := 2) (b := 2) rfl rfl (by rw [aInt_eqlI]; rfl) ?_
  refine sP (v := .bool true) rfl ?_
  refine sMv (v := .bool true) rfl ?_
  refine sG rfl rfl ?_
  refine sMkN (n := 24) T22 S3 Z3 bytes3 rfl rfl (by decide) ?_
  have xs39 : Ext mt282 (mt282.push (.cells true (cellsN (List.replicate 24 0)))) := .push _ _
  have ye39 : Ext m (mt282.push (.cells true (cellsN (List.replicate 24 0)))) := (ye38).trans xs39
  have It286 : IntsAt (mt282.push (.cells true (cellsN (List.replicate 24 0)))) (.slice (some ⟨(mt282).size, 0, some 1⟩) 24 24) (ofs (List.replicate 24 0)) := new_ints (l := (List.replicate 24 0)) (by simp)
  refine sG rfl rfl ?_
  obtain ⟨mt287, ht287, et287⟩ := spec_Check (l := ofs (List.replicate 24 0)) (n := 3) It286 (by decide)
  rw [show checkF (ofs (List.replicate 24 0)) 3 = 0 by decide +kernel] at ht287
  refine sCall2 rfl call60 rfl rfl ht287 ?_
  have xs40 : Ext (mt282.push (.cells true (cellsN (List.replicate 24 0)))) mt287 := et287
  have ye40 : Ext m mt287 := (ye39).trans xs40
  refine sG rfl rfl ?_
  refine sBinI (v := .bool true) (a := 0) (b := 0) rfl rfl (by rw [aInt_eqlI]; rfl) ?_
  refine sP (v := .bool true) rfl ?_
  refine sMv (v := .bool true) rfl ?_
  refine sG rfl rfl ?_
  refine sBuildS (c := cellsN [8]) T22 S3 Z3 (by decide) (by decide) (by decide) (by kernel_rfl) (by kernel_rfl) rfl ?_
  have xs41 : Ext mt287 (mt287.push (.cells true (cellsN [8]))) := .push _ _
  have ye41 : Ext m (mt287.push (.cells true (cellsN [8]))) := (ye40).trans xs41
  have It291 : IntsAt (mt287.push (.cells true (cellsN [8]))) (.slice (some ⟨(mt287).size, 0, some 1⟩) 1 1) (ofs [8]) := new_ints
  refine sG rfl rfl ?_
  obtain ⟨mt292, ht292, et292⟩ := spec_Check (l := ofs [8]) (n := 3) It291 (by decide)
  rw [show checkF (ofs [8]) 3 = 4 by decide +kernel] at ht292
  refine sCall2 rfl call60 rfl rfl ht292 ?_
  have xs42 : Ext (mt287.push (.cells true (cellsN [8]))) mt292 := et292
  have ye42 : Ext m mt292 := (ye41).trans xs42
  refine sG rfl rfl ?_
  refine sBinI (v := .bool true) (a := 4) (b := 4) rfl rfl (by rw [aInt_eqlI]; rfl) ?_
  refine sP (v := .bool true) rfl ?_
  refine sMv (v := .bool true) rfl ?_
  refine sG rfl rfl ?_
  obtain ⟨vt296, mt296, ht296, rfl, et296⟩ := spec_awake (m := mt292) (hG.ext (ye42))
  refine sCall0 rfl call17 ht296 ?_
  have xs43 : Ext mt292 mt296 := et296
  have ye43 : Ext m mt296 := (ye42).trans xs43
  refine sP (v := .bool true) rfl ?_
  refine sAs (v := .bool true) rfl ?_
  refine sNil (kSeqN ?_)
  refine cRet ?_
  exact ⟨.inr rfl, _, rfl, rfl, ye43⟩

end Go.AM

/-! ### F2 -/
namespace Go.Proofs.YtgiidbomifmcaaaDoor
open Go Go.AM Go.ChangeShapes Go.WideShapes Go.ChangeAt Go.WideMaps Go.WideElems Go.RowKit
set_option maxRecDepth 100000
theorem own : ownKnob Tryd.prog.godebug = none := by kernel_rfl
theorem small_call (b : Bool) : ∃ v m', ACalls Tryd.prog 15 #[] (mem0 b []) v m' ∧ v = .bool true := by
  obtain ⟨v, m', h, hv, _⟩ := spec_BitsSmall (glob0 b [])
  exact ⟨v, m', h, hv⟩
/-- The door's own heap meets the condition: three closed facts. -/
theorem door_met (os : Os) (args : Array Value) : laidMetH Tryd.prog laid3 ((World.doorLaid Tryd.prog 400 os).forCall (fun _ _ => 0) ⟨#[], args, []⟩).memory :=
  laidMetH_of_parts3 (fuel := 8) (laidMet_of_run' 8 (by kernel_rfl) (by kernel_rfl)) (by kernel_rfl) (by kernel_rfl)
theorem lifted15 (os : Os) (started : os.Started) (H : Type) (enc : TypeId × Value → H) :
    ReturnsInHanded {} Tryd.checked os 15 .any (fun w args => (Rows.bitsSmallSpec.pre enc Tryd.prog Tryd.f15 [] false w args ∧ laidMetH Tryd.prog laid3 w) ∧ sizedMet enc Tryd.prog Tryd.f15 (OpenSpec.ofChange Rows.bitsSmallSpec) false w args)
      (Rows.bitsSmallSpec.post enc Tryd.prog Tryd.f15 false true false false) := by
  refine returnsInHanded_of_change_and (C := Tryd.checked) (X := fun w _ => laidMetH Tryd.prog laid3 w) (fun _ _ _ hh h => h.of_heap hh) own started (by kernel_rfl) Tryd.func15
    (ChangeSpec.witness_shaped (enc := enc) (C := Tryd.checked) (os := os) (X := fun w _ => laidMetH Tryd.prog laid3 w) false (World.doorLaid Tryd.prog 400 os) #[] 8 rfl (World.shaped_of_RefB (by kernel_rfl) (by kernel_rfl)) (by kernel_rfl) (by kernel_rfl) (by kernel_rfl) (door_met os _)) ?_
  intro W base args ds gs before hval0 hW _ _ hL _
  have hW' := hW
  obtain ⟨p, q, hA0, hV, rfl, hfz, hnd⟩ := hW
  have hA : DataW.TrodAll enc Tryd.prog W 0 (fun _ => true) true [] args.toList ds p := hA0
  obtain ⟨rfl, rfl, rfl⟩ := trodAll_none hA
  obtain ⟨rfl, rfl⟩ := trodVars_none hV
  refine (entry (args := #[]) (A := []) hL (by simp) (fun _ => ⟨rfl, fun i v v' h => by simp at h⟩) small_call).mono ?_
  rintro e W' ⟨rfl, bel⟩
  exact ⟨_, rfl, _, _, _, [], _, [], hW', trodAll_mk1 (shut_bool u4 _), trodAll_mk0, rfl, bel.frame _, fun h => by cases h⟩
theorem bitsSmall_holds : Rows.BitsSmallSaid :=
  OpenClaim.holds_of_wide 15 Tryd.f15 rfl rfl rfl rfl rfl rfl rfl ⟨rfl, rfl, rfl, rfl, rfl⟩ rfl rfl rfl rfl rfl (by kernel_rfl) Tryd.func15 (by kernel_rfl)
    (of_decide_eq_true (by kernel_rfl)) (by unfold Func.isWrapper; first | (rw [if_pos (by decide +kernel)]; kernel_rfl) | (rw [if_neg (by decide +kernel)]; exact ⟨rfl, rfl⟩))
    (fun os started H enc _ => lifted15 os started H enc)
theorem bitsSmallCard_holds : Rows.BitsSmallCardSaid :=
  Claim7.holds_tied_plain_at .later [] [.data, .data, .funcs] true (true, "4e90e708c3a0b8b9bd838c7bc74774a1a5a946fb69b32deeeece4d3212f6d5ce") false
    bitsSmall_holds (fun _ h => by cases h) (by kernel_rfl) (fun _ h => by cases h) bitsSmall_row_tie rfl ⟨rfl, rfl⟩ (by kernel_rfl) rfl
    (fun f fn hf hfn => by
      obtain rfl : f = 15 := Option.some.inj ((show Tryd.prog.funcNamed "spoondrift/spoondriftlaw02.BitsSmall" = some 15 by kernel_rfl).symm.trans hf) |>.symm
      obtain rfl : fn = Tryd.f15 := (Option.some.inj (Tryd.func15.symm.trans hfn)).symm
      exact ⟨by kernel_rfl, fun j t ht => by
        have hm : t ∈ ([] : List Nat) := by simpa using Array.mem_of_getElem? ht
        cases hm⟩)
    (by kernel_rfl)
end Go.Proofs.YtgiidbomifmcaaaDoor
