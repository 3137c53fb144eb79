/- WeakNone returns true for every input: all functions return ErrArg for a heap or roots that are nil or zero; those of tables ErrNone where there is no object (R1) Conditions: none. -/
import Derived.Test.YtapomifipcbgmaaGreatDoorWeakNone2
import Derived.Test.YtapomifipcbgmaaGreatDoorProg
import Derived.KernelRfl
import Derived.Shelf.SlIterI.Nil
import Derived.Shelf.SortM.Plain
import Derived.Shelf.SortM.SortNone
import Derived.Ground.GgzProg
import Derived.Ground.SlgmProg
import Derived.Test.YtapomifipcbgmaaGreatDoorRows
import Derived.ProofKit
import Derived.LaidMore
import Derived.OpenShut
import Derived.MakeChecks
import Derived.Test.YtapomifipcbgmaaGreatDoorCards
import Derived.Test.YtapomifipcbgmaaGreatDoorTie
import Derived.WalkKit
import Derived.ShutString
import Derived.ChangeOld
import Derived.Below
import Derived.SizedLaws
import Derived.Carry
set_option linter.unusedVariables false
set_option linter.unusedSimpArgs false
set_option linter.defProp false
/- The turned functions, part 1. -/
noncomputable section
namespace Go.Cs.Tryz
open Go Go.Cs Go.Cs.K
set_option maxRecDepth 100000
def S44 : SCode := (.seq (.ops (.vd 2 (o_mov (.const (.nilSlice))) .nil))
  (.seq (.seq (.ops (.vd 6 (o_mov (.tmp 0)) (.cd 7 (fun F => c_call F 134 [(.tmp 6)]) (.vd 8 (o_not (.tmp 7)) .nil))))
  (.cond (.tmp 8)
   (.seq (.ops (.vd 2 (o_mov (.const (.nilSlice))) .nil))
   .ret)
   .skip))
  (.seq (.ops (.vd 3 (o_new [.nilSlice]) .nil))
  (.seq (.seq (.ops (.vd 9 (o_mov (.tmp 0)) (.cd 10 (fun F => c_call F 135 [(.tmp 9)]) .nil)))
  (.block 0 (.rangeF (.tmp 10) [11, 12] 26 1408)))
  (.seq (.ops (.vd 25 (o_load false 1 (.tmp 3)) (.vd 2 (o_mov (.tmp 25)) .nil)))
  .ret)))))
def X44 : FnS := .code ⟨26, 0, .skip, [.tmp 2]⟩ S44
theorem x44 : okX Go.Proofs.Tryz.prog 44 X44 := okX_of (by kernel_rfl)
def S1001408 : SCode := (.ops (.vd 5 (o_mov (.tmp 12)) .nil))
def X1001408 : FnS := .code ⟨26, 1, .skip, []⟩ S1001408
theorem x1001408 : okX Go.Proofs.Tryz.prog 1001408 X1001408 := okX_of (by kernel_rfl)
def S1001409 : SCode := (.block 1 (.seq (.dregion [⟨⟨some 13, none, .load false 1 (.tmp 3)⟩, 0, 1, 0⟩, ⟨⟨some 14, none, .mov (.tmp 5)⟩, 1, 0, 0⟩, ⟨⟨some 15, none, .nilCheck (.tmp 14)⟩, 2, 0, 0⟩, ⟨⟨some 16, none, .load false 1 (.tmp 15)⟩, 3, 1, 0⟩, ⟨⟨some 17, none, .call 108 [(.tmp 13), (.tmp 16)]⟩, 4, 3, 0⟩, ⟨⟨some 18, none, .not (.tmp 17)⟩, 5, 0, 1⟩])
   (.cond (.tmp 18)
    (.dregion [⟨⟨some 19, none, .load false 1 (.tmp 3)⟩, 0, 1, 0⟩, ⟨⟨some 20, none, .mov (.tmp 5)⟩, 1, 0, 0⟩, ⟨⟨some 21, none, .nilCheck (.tmp 20)⟩, 2, 0, 0⟩, ⟨⟨some 22, none, .load false 1 (.tmp 21)⟩, 3, 1, 0⟩, ⟨⟨some 23, none, .buildSlice 1 [.int .i64 0] 1 [(0, 1, (.tmp 22))]⟩, 4, 0, 0⟩, ⟨⟨some 24, none, .append 1 (.tmp 19) (.tmp 23)⟩, 5, 3, 0⟩, ⟨⟨none, none, .store 1 (.tmp 3) (.tmp 24)⟩, 6, 3, 1⟩])
    .skip)))
def X1001409 : FnS := .code ⟨26, 2, .skip, []⟩ S1001409
theorem x1001409 : okX Go.Proofs.Tryz.prog 1001409 X1001409 := okX_of (by kernel_rfl)
def S45 : SCode := (.ops (.vd 1 (o_keysSorted 138 (.tmp 0)) .nil))
def X45 : FnS := .code ⟨1, 0, .skip, [.tmp 1]⟩ S45
theorem x45 : okX Go.Proofs.Tryz.prog 45 X45 := okX_of (by kernel_rfl)
def S46 : SCode := (.seq (.ops (.vd 1 (o_box (.tmp 0)) (.vd 2 (o_mov (.const (.nilFunc))) .nil)))
  (.seq (.ops (.vd 3 (o_mkfunc 138 [(.tmp 1)]) (.vd 2 (o_mov (.tmp 3)) .nil)))
  .ret))
def X46 : FnS := .code ⟨4, 0, .skip, [.tmp 2]⟩ S46
theorem x46 : okX Go.Proofs.Tryz.prog 46 X46 := okX_of (by kernel_rfl)
def S49 : SCode := (.seq (.ops (.vd 2 (o_mov (.const (.int .i64 0))) .nil))
  (.seq (.seq (.ops (.vd 3 (o_mov (.tmp 0)) (.cd 4 (fun F => c_call F 95 [(.tmp 3)]) (.vd 5 (o_not (.tmp 4)) .nil))))
  (.cond (.tmp 5)
   (.seq (.ops (.vd 2 (o_mov (.const (.int .i64 0))) .nil))
   .ret)
   .skip))
  (.seq (.ops (.vd 6 (o_mov (.tmp 0)) (.vd 7 (o_nilCheck (.tmp 6)) (.vd 8 (o_field 0 (.tmp 7)) (.vd 9 (o_load false 1 (.tmp 8)) (.vd 10 (o_len (.tmp 9)) (.vd 2 (o_mov (.tmp 10)) .nil)))))))
  .ret)))
def X49 : FnS := .code ⟨11, 0, .skip, [.tmp 2]⟩ S49
theorem x49 : okX Go.Proofs.Tryz.prog 49 X49 := okX_of (by kernel_rfl)
def S50 : SCode := (.seq (.ops (.vd 4 (o_mov (.const (.bool false))) .nil))
  (.seq (.ops (.vd 5 (o_mov (.tmp 0)) (.cd 6 (fun F => c_call F 95 [(.tmp 5)]) (.vd 7 (o_mov (.tmp 6)) (.vg 8 7 true (o_mov (.tmp 1)) (.vg 9 7 true (o_bin .geq (.tmp 8) (.const (.int .i64 0))) (.vd 10 (o_pick (.tmp 7) (.tmp 9) (.const (.bool false))) (.vd 11 (o_mov (.tmp 10)) (.vg 12 11 true (o_mov (.tmp 1)) (.vg 13 11 true (o_bin .rem (.tmp 12) (.const (.int .i64 2))) (.vg 14 11 true (o_bin .eql (.tmp 13) (.const (.int .i64 0))) (.vd 15 (o_pick (.tmp 11) (.tmp 14) (.const (.bool false))) (.vd 16 (o_mov (.tmp 15)) (.vg 17 16 true (o_mov (.tmp 0)) (.vg 18 16 true (o_nilCheck (.tmp 17)) (.vg 19 16 true (o_field 2 (.tmp 18)) (.vg 20 16 true (o_load false 1 (.tmp 19)) (.vg 21 16 true (o_mov (.tmp 1)) (.vg 22 16 true (o_bin .quo (.tmp 21) (.const (.int .i64 2))) (.c (some 23) (some (16, true)) (fun F => c_call F 139 [(.tmp 20), (.tmp 22)]) (.vg 24 16 true (o_bin .eql (.tmp 23) (.const (.int .i64 1))) (.vd 25 (o_pick (.tmp 16) (.tmp 24) (.const (.bool false))) (.vd 4 (o_mov (.tmp 25)) .nil)))))))))))))))))))))))
  .ret))
def X50 : FnS := .code ⟨26, 0, .skip, [.tmp 4]⟩ S50
theorem x50 : okX Go.Proofs.Tryz.prog 50 X50 := okX_of (by kernel_rfl)
def S51 : SCode := (.seq (.ops (.vd 3 (o_mov (.const (.bool false))) .nil))
  (.seq (.ops (.vd 7 (o_load false 1 (.tmp 1)) (.vd 8 (o_mov (.tmp 0)) (.cd 9 (fun F => c_call F 52 [(.tmp 7), (.tmp 8)]) (.vd 6 (o_mov (.tmp 9)) (.vd 10 (o_extract (.tmp 6) 0) (.vd 11 (o_extract (.tmp 6) 1) (.vd 4 (o_mov (.tmp 10)) (.vd 5 (o_mov (.tmp 11)) .nil)))))))))
  (.seq (.ops (.vd 12 (o_mov (.tmp 5)) (.vd 3 (o_mov (.tmp 12)) .nil)))
  .ret)))
def X51 : FnS := .code ⟨13, 0, .skip, [.tmp 3]⟩ S51
theorem x51 : okX Go.Proofs.Tryz.prog 51 X51 := okX_of (by kernel_rfl)
def S52_1 : SCode := .seq (.seq (.ops (.vd 13 (o_mov (.tmp 7)) (.vd 14 (o_mov (.tmp 8)) (.vd 15 (o_bin .lss (.tmp 13) (.tmp 14)) .nil))))
    (.cond (.tmp 15)
     .skip
     (.exit 0)))
    (.block 1 (.seq (.ops (.vd 16 (o_mov (.tmp 7)) (.vd 17 (o_mov (.tmp 8)) (.vd 18 (o_bin .add (.tmp 16) (.tmp 17)) (.vd 19 (o_conv .u64 (.tmp 18)) (.vd 20 (o_shift .shr (.tmp 19) (.const (.int .u64 1))) (.vd 21 (o_conv .i64 (.tmp 20)) (.vd 9 (o_mov (.tmp 21)) .nil))))))))
     (.seq (.ops (.vd 22 (o_mov (.tmp 0)) (.vd 23 (o_mov (.tmp 9)) (.vd 24 (o_index 1 (.tmp 22) (.tmp 23)) (.vd 25 (o_load false 1 (.tmp 24)) (.vd 26 (o_mov (.tmp 1)) (.cd 27 (fun F => c_call F 140 [(.tmp 25), (.tmp 26)]) .nil)))))))
     (.cond (.tmp 27)
      (.ops (.vd 28 (o_mov (.tmp 9)) (.vd 29 (o_bin .add (.tmp 28) (.const (.int .i64 1))) (.vd 7 (o_mov (.tmp 29)) .nil))))
      (.ops (.vd 30 (o_mov (.tmp 9)) (.vd 8 (o_mov (.tmp 30)) .nil)))))))
def S52 : SCode := (.seq (.ops (.vd 4 (o_mov (.const (.int .i64 0))) (.vd 5 (o_mov (.const (.bool false))) .nil)))
  (.seq (.ops (.vd 10 (o_mov (.tmp 0)) (.vd 11 (o_len (.tmp 10)) (.vd 6 (o_mov (.tmp 11)) .nil))))
  (.seq (.ops (.vd 12 (o_mov (.tmp 6)) (.vd 7 (o_mov (.const (.int .i64 0))) (.vd 8 (o_mov (.tmp 12)) .nil))))
  (.seq (.block 0 (.loop S52_1))
  (.seq (.ops (.vd 31 (o_mov (.tmp 7)) (.vd 32 (o_mov (.tmp 7)) (.vd 33 (o_mov (.tmp 6)) (.vd 34 (o_bin .lss (.tmp 32) (.tmp 33)) (.vd 35 (o_mov (.tmp 34)) (.vg 36 35 true (o_mov (.tmp 0)) (.vg 37 35 true (o_mov (.tmp 7)) (.vg 38 35 true (o_index 1 (.tmp 36) (.tmp 37)) (.vg 39 35 true (o_load false 1 (.tmp 38)) (.vg 40 35 true (o_mov (.tmp 1)) (.vg 41 35 true (o_bin .eql (.tmp 39) (.tmp 40)) (.vg 42 35 true (o_mov (.tmp 41)) (.vg 43 42 false (o_mov (.tmp 0)) (.vg 44 42 false (o_mov (.tmp 7)) (.vg 45 42 false (o_index 1 (.tmp 43) (.tmp 44)) (.vg 46 42 false (o_load false 1 (.tmp 45)) (.c (some 47) (some (42, false)) (fun F => c_call F 141 [(.tmp 46)]) (.vg 48 42 false (o_mov (.tmp 47)) (.vg 49 48 true (o_mov (.tmp 1)) (.c (some 50) (some (48, true)) (fun F => c_call F 141 [(.tmp 49)]) (.vg 51 42 false (o_pick (.tmp 48) (.tmp 50) (.const (.bool false))) (.vg 52 35 true (o_pick (.tmp 42) (.const (.bool true)) (.tmp 51)) (.vd 53 (o_pick (.tmp 35) (.tmp 52) (.const (.bool false))) (.vd 4 (o_mov (.tmp 31)) (.vd 5 (o_mov (.tmp 53)) .nil))))))))))))))))))))))))))
  .ret)))))
def X52 : FnS := .code ⟨54, 0, .skip, [.tmp 4, .tmp 5]⟩ S52
theorem x52 : okX Go.Proofs.Tryz.prog 52 X52 := okX_of (by kernel_rfl)
def S53_1 : SCode := .seq (.ops (.vd 45 (o_bin .lss (.tmp 44) (.tmp 43)) .nil))
    (.seq (.cond (.tmp 45)
     .skip
     (.exit 0))
    (.seq (.block 1 (.seq (.ops (.vd 46 (o_mov (.tmp 44)) (.vd 12 (o_mov (.tmp 46)) .nil)))
     (.seq (.ops (.vd 48 (o_mov (.tmp 0)) (.vd 49 (o_mov (.tmp 1)) (.vd 50 (o_mov (.tmp 12)) (.cd 51 (fun F => c_call F 76 [(.tmp 48), (.tmp 49), (.tmp 50)]) (.vd 47 (o_mov (.tmp 51)) (.vd 52 (o_extract (.tmp 47) 0) (.vd 53 (o_extract (.tmp 47) 1) (.vd 13 (o_mov (.tmp 52)) (.vd 14 (o_mov (.tmp 53)) .nil))))))))))
     (.seq (.ops (.vd 54 (o_mov (.tmp 13)) (.vd 55 (o_bin .neq (.tmp 54) (.const (.int .i64 0))) (.vd 56 (o_mov (.tmp 55)) (.vg 57 56 true (o_field 2 (.tmp 7)) (.vg 58 56 true (o_load false 1 (.tmp 57)) (.vg 59 56 true (o_mov (.tmp 12)) (.c (some 60) (some (56, true)) (fun F => c_call F 142 [(.tmp 58), (.tmp 59)]) (.vd 61 (o_pick (.tmp 56) (.tmp 60) (.const (.bool false))) .nil)))))))))
     (.cond (.tmp 61)
      (.seq (.ops (.vd 62 (o_mov (.tmp 0)) (.vd 63 (o_mov (.tmp 1)) (.vd 64 (o_mov (.tmp 12)) (.cd 65 (fun F => c_call F 122 [(.tmp 62), (.tmp 63), (.tmp 64), (.const (.int .i64 0))]) .nil)))))
      (.ops (.vd 66 (o_mov (.tmp 11)) (.vd 67 (o_bin .add (.tmp 66) (.const (.int .i64 1))) (.vd 11 (o_mov (.tmp 67)) .nil)))))
      .skip)))))
    (.ops (.vd 68 (o_bin .add (.tmp 44) (.const (.int .i64 1))) (.vd 44 (o_mov (.tmp 68)) .nil)))))
def S53 : SCode := (.seq (.ops (.vd 6 (o_mov (.const (.int .i64 0))) .nil))
  (.seq (.ops (.vd 16 (o_mov (.tmp 0)) (.vd 17 (o_mov (.tmp 1)) (.cd 18 (fun F => c_call F 75 [(.tmp 16), (.tmp 17)]) (.vd 15 (o_mov (.tmp 18)) (.vd 19 (o_extract (.tmp 15) 0) (.vd 20 (o_extract (.tmp 15) 1) (.vd 7 (o_new [.int .i64 0, .int .i64 0, .int .i64 0]) (.v none none (o_store 3 (.tmp 7) (.tmp 19)) (.vd 8 (o_mov (.tmp 20)) .nil))))))))))
  (.seq (.seq (.ops (.vd 21 (o_field 2 (.tmp 7)) (.vd 22 (o_load false 1 (.tmp 21)) (.vd 23 (o_bin .neq (.tmp 22) (.const (.int .i64 1))) (.vd 24 (o_mov (.tmp 23)) (.vg 25 24 true (o_field 2 (.tmp 7)) (.vg 26 24 true (o_load false 1 (.tmp 25)) (.vg 27 24 true (o_bin .neq (.tmp 26) (.const (.int .i64 2))) (.vd 28 (o_pick (.tmp 24) (.tmp 27) (.const (.bool false))) .nil)))))))))
  (.cond (.tmp 28)
   (.seq (.ops (.vd 6 (o_mov (.const (.int .i64 0))) .nil))
   .ret)
   .skip))
  (.seq (.seq (.ops (.vd 30 (o_mov (.tmp 0)) (.vd 31 (o_mov (.tmp 1)) (.cd 32 (fun F => c_call F 76 [(.tmp 30), (.tmp 31), (.const (.int .i64 0))]) (.vd 29 (o_mov (.tmp 32)) (.vd 33 (o_extract (.tmp 29) 0) (.vd 34 (o_extract (.tmp 29) 1) (.vd 9 (o_mov (.tmp 33)) (.vd 10 (o_mov (.tmp 34)) .nil)))))))))
  (.seq (.ops (.vd 35 (o_mov (.tmp 9)) (.vd 36 (o_bin .neq (.tmp 35) (.const (.int .i64 0))) (.vd 37 (o_mov (.tmp 36)) (.vg 38 37 true (o_mov (.tmp 2)) (.vg 39 37 true (o_mov (.tmp 9)) (.c (some 40) (some (37, true)) (fun F => c_callm F (.tmp 38) [(.tmp 39)] [(304, "dustcart/alloc.place", 335), (305, "dustcart/alloc.place", 340), (306, "dustcart/alloc.place", 348), (307, "dustcart/alloc.place", 349), (308, "dustcart/alloc.place", 353)]) (.vd 41 (o_pick (.tmp 37) (.tmp 40) (.const (.bool false))) .nil))))))))
  (.cond (.tmp 41)
   (.seq (.ops (.vd 6 (o_mov (.const (.int .i64 0))) .nil))
   .ret)
   .skip)))
  (.seq (.ops (.vd 11 (o_mov (.const (.int .i64 0))) .nil))
  (.seq (.seq (.ops (.vd 42 (o_field 0 (.tmp 7)) (.vd 43 (o_load false 1 (.tmp 42)) (.vd 44 (o_mov (.const (.int .i64 0))) .nil))))
  (.block 0 (.loop S53_1)))
  (.seq (.ops (.vd 69 (o_mov (.tmp 11)) (.vd 6 (o_mov (.tmp 69)) .nil)))
  .ret)))))))
def X53 : FnS := .code ⟨70, 0, .skip, [.tmp 6]⟩ S53
theorem x53 : okX Go.Proofs.Tryz.prog 53 X53 := okX_of (by kernel_rfl)
def S54 : SCode := (.seq (.ops (.vd 4 (o_box (.tmp 1)) (.vd 6 (o_mov (.const (.int .i64 0))) (.vd 7 (o_mov (.const (.int .i64 0))) .nil))))
  (.seq (.ops (.vd 11 (o_mov (.tmp 0)) (.vd 12 (o_mov (.tmp 2)) (.cd 13 (fun F => c_call F 143 [(.tmp 11), (.tmp 12), (.const (.int .i64 0))]) (.vd 10 (o_mov (.tmp 13)) (.vd 14 (o_extract (.tmp 10) 0) (.vd 15 (o_extract (.tmp 10) 1) (.vd 8 (o_mov (.tmp 14)) (.vd 9 (o_mov (.tmp 15)) .nil)))))))))
  (.seq (.seq (.ops (.vd 16 (o_mov (.tmp 9)) (.vd 17 (o_bin .neq (.tmp 16) (.const (.int .i64 0))) .nil)))
  (.cond (.tmp 17)
   (.seq (.ops (.vd 18 (o_mov (.tmp 9)) (.vd 6 (o_mov (.const (.int .i64 0))) (.vd 7 (o_mov (.tmp 18)) .nil))))
   .ret)
   .skip))
  (.seq (.ops (.vd 19 (o_mov (.tmp 8)) (.vd 20 (o_load true 3 (.tmp 4)) (.cd 21 (fun F => c_call F 144 [(.tmp 19), (.tmp 20)]) (.vd 22 (o_extract (.tmp 21) 0) (.vd 23 (o_extract (.tmp 21) 1) (.vd 6 (o_mov (.tmp 22)) (.vd 7 (o_mov (.tmp 23)) .nil))))))))
  .ret))))
def X54 : FnS := .code ⟨24, 0, .skip, [.tmp 6, .tmp 7]⟩ S54
theorem x54 : okX Go.Proofs.Tryz.prog 54 X54 := okX_of (by kernel_rfl)
def S71 : SCode := (.seq (.ops (.vd 4 (o_mov (.const (.int .i64 0))) .nil))
  (.seq (.seq (.ops (.vd 5 (o_mov (.tmp 1)) (.vd 6 (o_bin .lss (.tmp 5) (.const (.int .i64 0))) (.vd 7 (o_mov (.tmp 6)) (.vg 8 7 false (o_mov (.tmp 1)) (.vg 9 7 false (o_mov (.tmp 0)) (.c (some 10) (some (7, false)) (fun F => c_call F 49 [(.tmp 9)]) (.vg 11 7 false (o_bin .geq (.tmp 8) (.tmp 10)) (.vd 12 (o_pick (.tmp 7) (.const (.bool true)) (.tmp 11)) .nil)))))))))
  (.cond (.tmp 12)
   (.seq (.ops (.vd 4 (o_mov (.const (.int .i64 (-1)))) .nil))
   .ret)
   .skip))
  (.seq (.ops (.vd 13 (o_mov (.tmp 0)) (.vd 14 (o_nilCheck (.tmp 13)) (.vd 15 (o_field 0 (.tmp 14)) (.vd 16 (o_load false 1 (.tmp 15)) (.vd 17 (o_mov (.tmp 1)) (.vd 18 (o_index 2 (.tmp 16) (.tmp 17)) (.vd 19 (o_field 0 (.tmp 18)) (.vd 20 (o_load false 1 (.tmp 19)) (.vd 4 (o_mov (.tmp 20)) .nil))))))))))
  .ret)))
def X71 : FnS := .code ⟨21, 0, .skip, [.tmp 4]⟩ S71
theorem x71 : okX Go.Proofs.Tryz.prog 71 X71 := okX_of (by kernel_rfl)
def S72 : SCode := (.seq (.ops (.vd 4 (o_mov (.const (.int .i64 0))) .nil))
  (.seq (.seq (.ops (.vd 5 (o_mov (.tmp 1)) (.vd 6 (o_bin .lss (.tmp 5) (.const (.int .i64 0))) (.vd 7 (o_mov (.tmp 6)) (.vg 8 7 false (o_mov (.tmp 1)) (.vg 9 7 false (o_mov (.tmp 0)) (.c (some 10) (some (7, false)) (fun F => c_call F 49 [(.tmp 9)]) (.vg 11 7 false (o_bin .geq (.tmp 8) (.tmp 10)) (.vd 12 (o_pick (.tmp 7) (.const (.bool true)) (.tmp 11)) .nil)))))))))
  (.cond (.tmp 12)
   (.seq (.ops (.vd 4 (o_mov (.const (.int .i64 (-1)))) .nil))
   .ret)
   .skip))
  (.seq (.ops (.vd 13 (o_mov (.tmp 0)) (.vd 14 (o_nilCheck (.tmp 13)) (.vd 15 (o_field 0 (.tmp 14)) (.vd 16 (o_load false 1 (.tmp 15)) (.vd 17 (o_mov (.tmp 1)) (.vd 18 (o_index 2 (.tmp 16) (.tmp 17)) (.vd 19 (o_field 1 (.tmp 18)) (.vd 20 (o_load false 1 (.tmp 19)) (.vd 4 (o_mov (.tmp 20)) .nil))))))))))
  .ret)))
def X72 : FnS := .code ⟨21, 0, .skip, [.tmp 4]⟩ S72
theorem x72 : okX Go.Proofs.Tryz.prog 72 X72 := okX_of (by kernel_rfl)
def S73 : SCode := (.seq (.ops (.vd 2 (o_mov (.const (.nilSlice))) .nil))
  (.seq (.seq (.ops (.vd 3 (o_mov (.tmp 0)) (.cd 4 (fun F => c_call F 95 [(.tmp 3)]) (.vd 5 (o_not (.tmp 4)) .nil))))
  (.cond (.tmp 5)
   (.seq (.ops (.vd 2 (o_mov (.const (.nilSlice))) .nil))
   .ret)
   .skip))
  (.seq (.ops (.vd 6 (o_mov (.tmp 0)) (.vd 7 (o_mov (.tmp 0)) (.vd 8 (o_nilCheck (.tmp 7)) (.vd 9 (o_field 1 (.tmp 8)) (.vd 10 (o_load false 1 (.tmp 9)) (.vd 11 (o_len (.tmp 10)) (.cd 12 (fun F => c_call F 170 [(.tmp 6), (.const (.int .i64 0)), (.tmp 11)]) (.vd 2 (o_mov (.tmp 12)) .nil)))))))))
  .ret)))
def X73 : FnS := .code ⟨13, 0, .skip, [.tmp 2]⟩ S73
theorem x73 : okX Go.Proofs.Tryz.prog 73 X73 := okX_of (by kernel_rfl)
def S75 : SCode := (.seq (.ops (.vd 4 (o_new [.int .i64 0, .int .i64 0, .int .i64 0]) (.vd 5 (o_mov (.const (.int .i64 0))) .nil)))
  (.seq (.seq (.ops (.vd 7 (o_mov (.tmp 0)) (.vd 8 (o_mov (.tmp 1)) (.cd 9 (fun F => c_call F 120 [(.tmp 7), (.tmp 8)]) (.vd 6 (o_mov (.tmp 9)) .nil)))))
  (.seq (.ops (.vd 10 (o_mov (.tmp 6)) (.vd 11 (o_bin .neq (.tmp 10) (.const (.int .i64 0))) .nil)))
  (.cond (.tmp 11)
   (.seq (.ops (.vd 12 (o_build [.int .i64 0, .int .i64 0, .int .i64 0] []) (.vd 13 (o_mov (.tmp 6)) (.v none none (o_store 3 (.tmp 4) (.tmp 12)) (.vd 5 (o_mov (.tmp 13)) .nil)))))
   .ret)
   .skip)))
  (.seq (.ops (.vd 14 (o_mov (.tmp 0)) (.vd 15 (o_nilCheck (.tmp 14)) (.vd 16 (o_field 1 (.tmp 15)) (.vd 17 (o_load false 1 (.tmp 16)) (.vd 18 (o_mov (.tmp 1)) (.vd 19 (o_bin .add (.tmp 18) (.const (.int .i64 1))) (.vd 20 (o_index 1 (.tmp 17) (.tmp 19)) (.vd 21 (o_load false 1 (.tmp 20)) (.cd 22 (fun F => c_call F 171 [(.tmp 21)]) (.v none none (o_store 3 (.tmp 4) (.tmp 22)) (.vd 5 (o_mov (.const (.int .i64 0))) .nil))))))))))))
  .ret)))
def X75 : FnS := .code ⟨23, 0, .skip, [.cell 4 true 3, .tmp 5]⟩ S75
theorem x75 : okX Go.Proofs.Tryz.prog 75 X75 := okX_of (by kernel_rfl)
def S76 : SCode := (.seq (.ops (.vd 6 (o_mov (.const (.int .i64 0))) (.vd 7 (o_mov (.const (.int .i64 0))) .nil)))
  (.seq (.ops (.vd 11 (o_mov (.tmp 0)) (.vd 12 (o_mov (.tmp 1)) (.vd 13 (o_mov (.tmp 2)) (.cd 14 (fun F => c_call F 172 [(.tmp 11), (.tmp 12), (.tmp 13), (.const (.bool false))]) (.vd 10 (o_mov (.tmp 14)) (.vd 15 (o_extract (.tmp 10) 0) (.vd 16 (o_extract (.tmp 10) 1) (.vd 8 (o_mov (.tmp 15)) (.vd 9 (o_mov (.tmp 16)) .nil))))))))))
  (.seq (.seq (.ops (.vd 17 (o_mov (.tmp 9)) (.vd 18 (o_bin .neq (.tmp 17) (.const (.int .i64 0))) .nil)))
  (.cond (.tmp 18)
   (.seq (.ops (.vd 19 (o_mov (.tmp 9)) (.vd 6 (o_mov (.const (.int .i64 0))) (.vd 7 (o_mov (.tmp 19)) .nil))))
   .ret)
   .skip))
  (.seq (.ops (.vd 20 (o_mov (.tmp 0)) (.vd 21 (o_nilCheck (.tmp 20)) (.vd 22 (o_field 1 (.tmp 21)) (.vd 23 (o_load false 1 (.tmp 22)) (.vd 24 (o_mov (.tmp 8)) (.vd 25 (o_index 1 (.tmp 23) (.tmp 24)) (.vd 26 (o_load false 1 (.tmp 25)) (.vd 6 (o_mov (.tmp 26)) (.vd 7 (o_mov (.const (.int .i64 0))) .nil))))))))))
  .ret))))
def X76 : FnS := .code ⟨27, 0, .skip, [.tmp 6, .tmp 7]⟩ S76
theorem x76 : okX Go.Proofs.Tryz.prog 76 X76 := okX_of (by kernel_rfl)
def S77 : SCode := (.seq (.ops (.vd 6 (o_mov (.const (.int .i64 0))) (.vd 7 (o_mov (.const (.int .i64 0))) .nil)))
  (.seq (.ops (.vd 11 (o_mov (.tmp 0)) (.vd 12 (o_mov (.tmp 1)) (.vd 13 (o_mov (.tmp 2)) (.cd 14 (fun F => c_call F 172 [(.tmp 11), (.tmp 12), (.tmp 13), (.const (.bool true))]) (.vd 10 (o_mov (.tmp 14)) (.vd 15 (o_extract (.tmp 10) 0) (.vd 16 (o_extract (.tmp 10) 1) (.vd 8 (o_mov (.tmp 15)) (.vd 9 (o_mov (.tmp 16)) .nil))))))))))
  (.seq (.seq (.ops (.vd 17 (o_mov (.tmp 9)) (.vd 18 (o_bin .neq (.tmp 17) (.const (.int .i64 0))) .nil)))
  (.cond (.tmp 18)
   (.seq (.ops (.vd 19 (o_mov (.tmp 9)) (.vd 6 (o_mov (.const (.int .i64 0))) (.vd 7 (o_mov (.tmp 19)) .nil))))
   .ret)
   .skip))
  (.seq (.ops (.vd 20 (o_mov (.tmp 0)) (.vd 21 (o_nilCheck (.tmp 20)) (.vd 22 (o_field 1 (.tmp 21)) (.vd 23 (o_load false 1 (.tmp 22)) (.vd 24 (o_mov (.tmp 8)) (.vd 25 (o_index 1 (.tmp 23) (.tmp 24)) (.vd 26 (o_load false 1 (.tmp 25)) (.vd 6 (o_mov (.tmp 26)) (.vd 7 (o_mov (.const (.int .i64 0))) .nil))))))))))
  .ret))))
def X77 : FnS := .code ⟨27, 0, .skip, [.tmp 6, .tmp 7]⟩ S77
theorem x77 : okX Go.Proofs.Tryz.prog 77 X77 := okX_of (by kernel_rfl)
def S91 : SCode := (.seq (.ops (.vd 8 (o_mov (.const (.int .i64 0))) .nil))
  (.seq (.ops (.vd 12 (o_mov (.tmp 0)) (.vd 13 (o_mov (.tmp 1)) (.vd 14 (o_mov (.tmp 2)) (.cd 15 (fun F => c_call F 172 [(.tmp 12), (.tmp 13), (.tmp 14), (.const (.bool true))]) (.vd 11 (o_mov (.tmp 15)) (.vd 16 (o_extract (.tmp 11) 0) (.vd 17 (o_extract (.tmp 11) 1) (.vd 9 (o_mov (.tmp 16)) (.vd 10 (o_mov (.tmp 17)) .nil))))))))))
  (.seq (.seq (.ops (.vd 18 (o_mov (.tmp 10)) (.vd 19 (o_bin .neq (.tmp 18) (.const (.int .i64 0))) .nil)))
  (.cond (.tmp 19)
   (.seq (.ops (.vd 20 (o_mov (.tmp 10)) (.vd 8 (o_mov (.tmp 20)) .nil)))
   .ret)
   .skip))
  (.seq (.ops (.vd 21 (o_mov (.tmp 0)) (.vd 22 (o_nilCheck (.tmp 21)) (.vd 23 (o_field 1 (.tmp 22)) (.vd 24 (o_load false 1 (.tmp 23)) (.vd 25 (o_mov (.tmp 9)) (.vd 26 (o_mov (.tmp 3)) (.vd 27 (o_index 1 (.tmp 24) (.tmp 25)) (.v none none (o_store 1 (.tmp 27) (.tmp 26)) .nil)))))))))
  (.seq (.ops (.vd 8 (o_mov (.const (.int .i64 0))) .nil))
  .ret)))))
def X91 : FnS := .code ⟨28, 0, .skip, [.tmp 8]⟩ S91
theorem x91 : okX Go.Proofs.Tryz.prog 91 X91 := okX_of (by kernel_rfl)
def S95 : SCode := (.seq (.ops (.vd 2 (o_mov (.const (.bool false))) .nil))
  (.seq (.ops (.vd 3 (o_mov (.tmp 0)) (.vd 4 (o_eqv true 1 (.tmp 3) (.const (.nilPtr))) (.vd 5 (o_mov (.tmp 4)) (.vg 6 5 true (o_mov (.tmp 0)) (.vg 7 5 true (o_nilCheck (.tmp 6)) (.vg 8 5 true (o_field 0 (.tmp 7)) (.vg 9 5 true (o_load false 1 (.tmp 8)) (.vg 10 5 true (o_len (.tmp 9)) (.vg 11 5 true (o_bin .gtr (.tmp 10) (.const (.int .i64 0))) (.vd 12 (o_pick (.tmp 5) (.tmp 11) (.const (.bool false))) (.vd 2 (o_mov (.tmp 12)) .nil))))))))))))
  .ret))
def X95 : FnS := .code ⟨13, 0, .skip, [.tmp 2]⟩ S95
theorem x95 : okX Go.Proofs.Tryz.prog 95 X95 := okX_of (by kernel_rfl)
def S97_1 : SCode := .seq (.ops (.vd 34 (o_bin .lss (.tmp 33) (.tmp 32)) .nil))
       (.seq (.cond (.tmp 34)
        .skip
        (.exit 2))
       (.seq (.block 3 (.seq (.ops (.vd 35 (o_mov (.tmp 33)) (.vd 10 (o_mov (.tmp 35)) .nil)))
        (.seq (.ops (.vd 37 (o_load false 1 (.tmp 2)) (.vd 38 (o_mov (.tmp 7)) (.vd 39 (o_mov (.tmp 10)) (.cd 40 (fun F => c_call F 76 [(.tmp 37), (.tmp 38), (.tmp 39)]) (.vd 36 (o_mov (.tmp 40)) (.vd 41 (o_extract (.tmp 36) 0) (.vd 42 (o_extract (.tmp 36) 1) (.vd 11 (o_mov (.tmp 41)) (.vd 12 (o_mov (.tmp 42)) .nil))))))))))
        (.seq (.ops (.vd 43 (o_mov (.tmp 5)) (.vd 44 (o_mov (.tmp 11)) (.cd 45 (fun F => c_callm F (.tmp 43) [(.tmp 44)] [(304, "dustcart/alloc.place", 335), (305, "dustcart/alloc.place", 340), (306, "dustcart/alloc.place", 348), (307, "dustcart/alloc.place", 349), (308, "dustcart/alloc.place", 353)]) .nil))))
        (.cond (.tmp 45)
         (.seq (.ops (.vd 4 (o_mov (.const (.bool false))) .nil))
         .ret)
         .skip)))))
       (.ops (.vd 46 (o_bin .add (.tmp 33) (.const (.int .i64 1))) (.vd 33 (o_mov (.tmp 46)) .nil)))))
def S97_2 : SCode := .seq (.ops (.vd 22 (o_bin .lss (.tmp 21) (.tmp 20)) .nil))
    (.seq (.cond (.tmp 22)
     .skip
     (.exit 0))
    (.seq (.block 1 (.seq (.ops (.vd 23 (o_index 1 (.tmp 19) (.tmp 21)) (.vd 24 (o_load false 1 (.tmp 23)) (.vd 7 (o_mov (.tmp 24)) .nil))))
     (.seq (.ops (.vd 26 (o_load false 1 (.tmp 2)) (.vd 27 (o_mov (.tmp 7)) (.cd 28 (fun F => c_call F 75 [(.tmp 26), (.tmp 27)]) (.vd 25 (o_mov (.tmp 28)) (.vd 29 (o_extract (.tmp 25) 0) (.vd 30 (o_extract (.tmp 25) 1) (.vd 8 (o_new [.int .i64 0, .int .i64 0, .int .i64 0]) (.v none none (o_store 3 (.tmp 8) (.tmp 29)) (.vd 9 (o_mov (.tmp 30)) .nil))))))))))
     (.seq (.ops (.vd 31 (o_field 0 (.tmp 8)) (.vd 32 (o_load false 1 (.tmp 31)) (.vd 33 (o_mov (.const (.int .i64 0))) .nil))))
     (.block 2 (.loop S97_1))))))
    (.ops (.vd 47 (o_bin .add (.tmp 21) (.const (.int .i64 1))) (.vd 21 (o_mov (.tmp 47)) .nil)))))
def S97 : SCode := (.seq (.ops (.vd 2 (o_box (.tmp 0)) (.vd 4 (o_mov (.const (.bool false))) .nil)))
  (.seq (.ops (.vd 13 (o_mkfunc 193 [(.tmp 2)]) (.vd 5 (o_mov (.tmp 13)) .nil)))
  (.seq (.seq (.ops (.vd 14 (o_mov (.tmp 1)) (.cd 15 (fun F => c_call F 44 [(.tmp 14)]) (.vd 16 (o_mov (.tmp 5)) (.cd 17 (fun F => c_call F 194 [(.tmp 15), (.tmp 16)]) .nil)))))
  (.cond (.tmp 17)
   (.seq (.ops (.vd 4 (o_mov (.const (.bool false))) .nil))
   .ret)
   .skip))
  (.seq (.seq (.ops (.vd 18 (o_load false 1 (.tmp 2)) (.cd 19 (fun F => c_call F 73 [(.tmp 18)]) (.vd 20 (o_len (.tmp 19)) (.vd 21 (o_mov (.const (.int .i64 0))) .nil)))))
  (.block 0 (.loop S97_2)))
  (.seq (.ops (.vd 4 (o_mov (.const (.bool true))) .nil))
  .ret)))))
def X97 : FnS := .code ⟨48, 0, .skip, [.tmp 4]⟩ S97
theorem x97 : okX Go.Proofs.Tryz.prog 97 X97 := okX_of (by kernel_rfl)
def S108 : SCode := (.seq (.ops (.vd 4 (o_mov (.const (.bool false))) .nil))
  (.seq (.ops (.vd 5 (o_mov (.tmp 0)) (.vd 6 (o_mov (.tmp 1)) (.cd 7 (fun F => c_call F 208 [(.tmp 5), (.tmp 6)]) (.vd 8 (o_bin .geq (.tmp 7) (.const (.int .i64 0))) (.vd 4 (o_mov (.tmp 8)) .nil))))))
  .ret))
def X108 : FnS := .code ⟨9, 0, .skip, [.tmp 4]⟩ S108
theorem x108 : okX Go.Proofs.Tryz.prog 108 X108 := okX_of (by kernel_rfl)
def S114 : SCode := (.seq (.ops (.vd 3 (o_box (.tmp 1)) (.vd 4 (o_mov (.const (.nilPtr))) (.vd 5 (o_mov (.const (.int .i64 0))) .nil))))
  (.seq (.seq (.ops (.vd 7 (o_mov (.tmp 0)) (.cd 8 (fun F => c_call F 134 [(.tmp 7)]) (.vd 9 (o_not (.tmp 8)) .nil))))
  (.cond (.tmp 9)
   (.seq (.ops (.vd 4 (o_mov (.const (.nilPtr))) (.vd 5 (o_mov (.const (.int .i64 5))) .nil)))
   .ret)
   .skip))
  (.seq (.ops (.vd 10 (o_mov (.tmp 0)) (.vd 11 (o_load true 3 (.tmp 3)) (.cd 12 (fun F => c_call F 216 [(.tmp 10), (.tmp 11)]) (.vd 6 (o_mov (.tmp 12)) .nil)))))
  (.seq (.seq (.ops (.vd 13 (o_mov (.tmp 6)) (.vd 14 (o_eqv false 1 (.tmp 13) (.const (.nilPtr))) .nil)))
  (.cond (.tmp 14)
   (.seq (.ops (.vd 4 (o_mov (.const (.nilPtr))) (.vd 5 (o_mov (.const (.int .i64 1))) .nil)))
   .ret)
   .skip))
  (.seq (.ops (.vd 15 (o_mov (.tmp 6)) (.vd 4 (o_mov (.tmp 15)) (.vd 5 (o_mov (.const (.int .i64 0))) .nil))))
  .ret)))))
def X114 : FnS := .code ⟨16, 0, .skip, [.tmp 4, .tmp 5]⟩ S114
theorem x114 : okX Go.Proofs.Tryz.prog 114 X114 := okX_of (by kernel_rfl)
def S116 : SCode := (.seq (.ops (.vd 4 (o_new [.nilPtr, .int .i64 0]) (.vd 5 (o_mov (.const (.int .i64 0))) .nil)))
  (.seq (.ops (.vd 10 (o_mov (.tmp 0)) (.vd 11 (o_mov (.tmp 1)) (.vd 12 (o_build [.nilPtr, .int .i64 0] [(0, 1, (.tmp 10)), (1, 1, (.tmp 11))]) (.vd 6 (o_new [.nilPtr, .int .i64 0]) (.v none none (o_store 2 (.tmp 6) (.tmp 12)) .nil))))))
  (.seq (.seq (.ops (.vd 13 (o_mov (.tmp 0)) (.cd 14 (fun F => c_call F 49 [(.tmp 13)]) (.vd 15 (o_bin .leq (.tmp 14) (.const (.int .i64 0))) .nil))))
  (.cond (.tmp 15)
   (.seq (.ops (.vd 16 (o_load true 2 (.tmp 6)) (.v none none (o_store 2 (.tmp 4) (.tmp 16)) (.vd 5 (o_mov (.const (.int .i64 1))) .nil))))
   .ret)
   .skip))
  (.seq (.ops (.vd 18 (o_mov (.tmp 0)) (.vd 19 (o_mov (.tmp 1)) (.cd 20 (fun F => c_call F 75 [(.tmp 18), (.tmp 19)]) (.vd 17 (o_mov (.tmp 20)) (.vd 21 (o_extract (.tmp 17) 0) (.vd 22 (o_extract (.tmp 17) 1) (.vd 7 (o_new [.int .i64 0, .int .i64 0, .int .i64 0]) (.v none none (o_store 3 (.tmp 7) (.tmp 21)) (.vd 8 (o_mov (.tmp 22)) .nil))))))))))
  (.seq (.seq (.ops (.vd 23 (o_mov (.tmp 8)) (.vd 24 (o_bin .neq (.tmp 23) (.const (.int .i64 0))) .nil)))
  (.cond (.tmp 24)
   (.seq (.ops (.vd 25 (o_load true 2 (.tmp 6)) (.v none none (o_store 2 (.tmp 4) (.tmp 25)) (.vd 5 (o_mov (.const (.int .i64 4))) .nil))))
   .ret)
   .skip))
  (.seq (.ops (.vd 9 (o_new [.int .i64 0]) (.v none none (o_store 1 (.tmp 9) (.const (.int .i64 0))) .nil)))
  (.seq (.seq (.dregion [⟨⟨some 26, none, .load true 3 (.tmp 7)⟩, 0, 1, 0⟩, ⟨⟨some 27, none, .mov (.const (.agg [.int .i64 8, .int .i64 1, .int .i64 3]))⟩, 1, 0, 0⟩, ⟨⟨some 28, none, .eqs true 3 (.tmp 26) (.tmp 27)⟩, 2, 0, 0⟩, ⟨⟨some 29, none, .mov (.tmp 28)⟩, 3, 0, 0⟩, ⟨⟨some 30, some (29, false), .load true 2 (.tmp 6)⟩, 4, 1, 0⟩, ⟨⟨some 31, some (29, false), .mkfunc 218 [(.tmp 9)]⟩, 5, 0, 0⟩, ⟨⟨some 32, some (29, false), .call 117 [(.tmp 30), (.tmp 31)]⟩, 6, 3, 0⟩, ⟨⟨some 33, some (29, false), .not (.tmp 32)⟩, 7, 0, 1⟩, ⟨⟨some 34, none, .pick (.tmp 29) (.const (.bool true)) (.tmp 33)⟩, 8, 0, 1⟩, ⟨⟨some 35, none, .mov (.tmp 34)⟩, 9, 0, 1⟩, ⟨⟨some 37, some (35, false), .load true 2 (.tmp 6)⟩, 11, 1, 1⟩, ⟨⟨some 38, some (35, false), .call 123 [(.tmp 37)]⟩, 12, 3, 1⟩, ⟨⟨some 36, some (35, false), .load false 1 (.tmp 9)⟩, 10, 1, 1⟩, ⟨⟨some 39, some (35, false), .bin .neq (.tmp 36) (.tmp 38)⟩, 13, 0, 2⟩, ⟨⟨some 40, none, .pick (.tmp 35) (.const (.bool true)) (.tmp 39)⟩, 14, 0, 2⟩])
  (.cond (.tmp 40)
   (.seq (.ops (.vd 41 (o_load true 2 (.tmp 6)) (.v none none (o_store 2 (.tmp 4) (.tmp 41)) (.vd 5 (o_mov (.const (.int .i64 2))) .nil))))
   .ret)
   .skip))
  (.seq (.ops (.vd 42 (o_load true 2 (.tmp 6)) (.v none none (o_store 2 (.tmp 4) (.tmp 42)) (.vd 5 (o_mov (.const (.int .i64 0))) .nil))))
  .ret))))))))
def X116 : FnS := .code ⟨43, 0, .skip, [.cell 4 true 2, .tmp 5]⟩ S116
theorem x116 : okX Go.Proofs.Tryz.prog 116 X116 := okX_of (by kernel_rfl)
def S117_1 : SCode := .block 3 (.seq (.ops (.vd 24 (o_field 0 (.tmp 2)) (.vd 25 (o_load false 1 (.tmp 24)) (.vd 26 (o_mov (.tmp 7)) (.vd 27 (o_mov (.tmp 8)) (.cd 28 (fun F => c_call F 76 [(.tmp 25), (.tmp 26), (.tmp 27)]) (.vd 23 (o_mov (.tmp 28)) (.vd 29 (o_extract (.tmp 23) 0) (.vd 30 (o_extract (.tmp 23) 1) (.vd 9 (o_mov (.tmp 29)) (.vd 10 (o_mov (.tmp 30)) .nil)))))))))))
        (.seq (.seq (.ops (.vd 31 (o_mov (.tmp 9)) (.vd 32 (o_bin .eql (.tmp 31) (.const (.int .i64 0))) .nil)))
        (.cond (.tmp 32)
         (.exit 2)
         .skip))
        (.seq (.ops (.vd 34 (o_field 0 (.tmp 2)) (.vd 35 (o_load false 1 (.tmp 34)) (.vd 36 (o_mov (.tmp 9)) (.cd 37 (fun F => c_call F 75 [(.tmp 35), (.tmp 36)]) (.vd 33 (o_mov (.tmp 37)) (.vd 38 (o_extract (.tmp 33) 0) (.vd 39 (o_extract (.tmp 33) 1) (.vd 11 (o_new [.int .i64 0, .int .i64 0, .int .i64 0]) (.v none none (o_store 3 (.tmp 11) (.tmp 38)) (.vd 12 (o_mov (.tmp 39)) .nil)))))))))))
        (.seq (.ops (.vd 41 (o_field 0 (.tmp 2)) (.vd 42 (o_load false 1 (.tmp 41)) (.vd 43 (o_mov (.tmp 9)) (.cd 44 (fun F => c_call F 77 [(.tmp 42), (.tmp 43), (.const (.int .i64 0))]) (.vd 40 (o_mov (.tmp 44)) (.vd 45 (o_extract (.tmp 40) 0) (.vd 46 (o_extract (.tmp 40) 1) (.vd 13 (o_mov (.tmp 45)) (.vd 14 (o_mov (.tmp 46)) .nil))))))))))
        (.seq (.seq (.ops (.vd 47 (o_mov (.tmp 12)) (.vd 48 (o_bin .neq (.tmp 47) (.const (.int .i64 0))) (.vd 49 (o_mov (.tmp 48)) (.vg 50 49 false (o_load true 3 (.tmp 11)) (.vg 51 49 false (o_mov (.const (.agg [.int .i64 3, .int .i64 1, .int .i64 2]))) (.vg 52 49 false (o_eqs true 3 (.tmp 50) (.tmp 51)) (.vd 53 (o_pick (.tmp 49) (.const (.bool true)) (.tmp 52)) (.vd 54 (o_mov (.tmp 53)) (.vg 55 54 false (o_mov (.tmp 5)) (.vg 56 54 false (o_mov (.tmp 9)) (.vg 57 54 false (o_mapGet false .i64 (.bool false) (.tmp 55) (.tmp 56)) (.vd 58 (o_pick (.tmp 54) (.const (.bool true)) (.tmp 57)) (.vd 59 (o_mov (.tmp 58)) (.vg 60 59 false (o_mov (.tmp 13)) (.vg 61 59 false (o_bin .lss (.tmp 60) (.const (.int .i64 1))) (.vd 62 (o_pick (.tmp 59) (.const (.bool true)) (.tmp 61)) (.vd 63 (o_mov (.tmp 62)) (.vg 64 63 false (o_mov (.tmp 13)) (.vg 65 63 false (o_bin .rem (.tmp 64) (.const (.int .i64 8))) (.vg 66 63 false (o_mov (.tmp 6)) (.vg 67 63 false (o_bin .neq (.tmp 65) (.tmp 66)) (.vd 68 (o_pick (.tmp 63) (.const (.bool true)) (.tmp 67)) .nil)))))))))))))))))))))))
        (.cond (.tmp 68)
         (.seq (.ops (.vd 4 (o_mov (.const (.bool false))) .nil))
         .ret)
         .skip))
        (.seq (.ops (.vd 69 (o_mov (.tmp 5)) (.vd 70 (o_mov (.tmp 9)) (.v none none (o_mapSet .i64 (.tmp 69) (.tmp 70) (.const (.bool true))) .nil))))
        (.seq (.ops (.vd 71 (o_mov (.tmp 9)) (.vd 72 (o_mov (.tmp 7)) (.vd 73 (o_mov (.tmp 8)) (.vd 74 (o_build [.int .i64 0, .int .i64 0, .int .i64 0, .int .i64 0, .int .i64 0] [(0, 1, (.tmp 71)), (1, 1, (.tmp 72)), (2, 1, (.tmp 73))]) (.vd 15 (o_new [.int .i64 0, .int .i64 0, .int .i64 0, .int .i64 0, .int .i64 0]) (.v none none (o_store 5 (.tmp 15) (.tmp 74)) .nil)))))))
        (.seq (.ops (.vd 76 (o_field 0 (.tmp 2)) (.vd 77 (o_load false 1 (.tmp 76)) (.vd 78 (o_mov (.tmp 9)) (.cd 79 (fun F => c_call F 76 [(.tmp 77), (.tmp 78), (.const (.int .i64 0))]) (.vd 75 (o_mov (.tmp 79)) (.vd 80 (o_extract (.tmp 75) 0) (.vd 81 (o_extract (.tmp 75) 1) (.vd 82 (o_field 3 (.tmp 15)) (.v none none (o_store 1 (.tmp 82) (.tmp 80)) .nil))))))))))
        (.seq (.ops (.vd 84 (o_field 0 (.tmp 2)) (.vd 85 (o_load false 1 (.tmp 84)) (.vd 86 (o_mov (.tmp 9)) (.cd 87 (fun F => c_call F 76 [(.tmp 85), (.tmp 86), (.const (.int .i64 1))]) (.vd 83 (o_mov (.tmp 87)) (.vd 88 (o_extract (.tmp 83) 0) (.vd 89 (o_extract (.tmp 83) 1) (.vd 90 (o_field 4 (.tmp 15)) (.v none none (o_store 1 (.tmp 90) (.tmp 88)) .nil))))))))))
        (.seq (.seq (.ops (.vd 91 (o_mov (.tmp 1)) (.vd 92 (o_load true 5 (.tmp 15)) (.cd 93 (fun F => c_callm F (.tmp 91) [(.tmp 92)] [(304, "dustcart/alloc.place", 335), (305, "dustcart/alloc.place", 340), (306, "dustcart/alloc.place", 348), (307, "dustcart/alloc.place", 349), (308, "dustcart/alloc.place", 353)]) (.vd 94 (o_not (.tmp 93)) .nil)))))
        (.cond (.tmp 94)
         (.seq (.ops (.vd 4 (o_mov (.const (.bool true))) .nil))
         .ret)
         .skip))
        (.ops (.vd 95 (o_mov (.tmp 9)) (.vd 7 (o_mov (.tmp 95)) (.vd 8 (o_mov (.const (.int .i64 2))) .nil))))))))))))))
def S117_2 : SCode := .seq (.ops (.vd 18 (o_bin .lss (.tmp 17) (.const (.int .i64 8))) .nil))
    (.seq (.cond (.tmp 18)
     .skip
     (.exit 0))
    (.seq (.block 1 (.seq (.ops (.vd 19 (o_mov (.tmp 17)) (.vd 6 (o_mov (.tmp 19)) .nil)))
     (.seq (.ops (.vd 20 (o_field 1 (.tmp 2)) (.vd 21 (o_load false 1 (.tmp 20)) (.vd 22 (o_mov (.tmp 6)) (.vd 7 (o_mov (.tmp 21)) (.vd 8 (o_mov (.tmp 22)) .nil))))))
     (.block 2 (.loop S117_1)))))
    (.ops (.vd 96 (o_bin .add (.tmp 17) (.const (.int .i64 1))) (.vd 17 (o_mov (.tmp 96)) .nil)))))
def S117 : SCode := (.seq (.ops (.vd 2 (o_box (.tmp 0)) (.vd 4 (o_mov (.const (.bool false))) .nil)))
  (.seq (.ops (.vd 16 (o_mapNew) (.vd 5 (o_mov (.tmp 16)) .nil)))
  (.seq (.seq (.ops (.vd 17 (o_mov (.const (.int .i64 0))) .nil))
  (.block 0 (.loop S117_2)))
  (.seq (.ops (.vd 4 (o_mov (.const (.bool true))) .nil))
  .ret))))
def X117 : FnS := .code ⟨97, 0, .skip, [.tmp 4]⟩ S117
theorem x117 : okX Go.Proofs.Tryz.prog 117 X117 := okX_of (by kernel_rfl)
def S118 : SCode := (.seq (.ops (.vd 4 (o_box (.tmp 0)) (.vd 5 (o_mov (.const (.bool false))) .nil)))
  (.seq (.seq (.ops (.vd 6 (o_field 3 (.tmp 4)) (.vd 7 (o_load false 1 (.tmp 6)) (.vd 8 (o_bin .eql (.tmp 7) (.const (.int .i64 0))) (.v none none (o_store 1 (.tmp 1) (.tmp 8)) .nil)))))
  (.seq (.ops (.vd 9 (o_load false 1 (.tmp 1)) .nil))
  (.cond (.tmp 9)
   (.seq (.ops (.vd 10 (o_load true 2 (.tmp 2)) (.vd 11 (o_load true 5 (.tmp 4)) (.cd 12 (fun F => c_call F 119 [(.tmp 10), (.tmp 11)]) .nil))))
   (.ops (.vd 13 (o_load false 1 (.tmp 3)) (.vd 14 (o_bin .add (.tmp 13) (.const (.int .i64 1))) (.v none none (o_store 1 (.tmp 3) (.tmp 14)) .nil)))))
   .skip)))
  (.seq (.ops (.vd 15 (o_load false 1 (.tmp 1)) (.vd 16 (o_not (.tmp 15)) (.vd 5 (o_mov (.tmp 16)) .nil))))
  .ret)))
def X118 : FnS := .code ⟨17, 0, .skip, [.tmp 5]⟩ S118
theorem x118 : okX Go.Proofs.Tryz.prog 118 X118 := okX_of (by kernel_rfl)
def S119 : SCode := (.seq (.ops (.vd 2 (o_box (.tmp 0)) (.vd 3 (o_box (.tmp 1)) .nil)))
  (.seq (.ops (.vd 7 (o_field 0 (.tmp 2)) (.vd 8 (o_load false 1 (.tmp 7)) (.vd 9 (o_field 0 (.tmp 3)) (.vd 10 (o_load false 1 (.tmp 9)) (.cd 11 (fun F => c_call F 76 [(.tmp 8), (.tmp 10), (.const (.int .i64 2))]) (.vd 6 (o_mov (.tmp 11)) (.vd 12 (o_extract (.tmp 6) 0) (.vd 13 (o_extract (.tmp 6) 1) (.vd 4 (o_mov (.tmp 12)) (.vd 5 (o_mov (.tmp 13)) .nil)))))))))))
  (.seq (.ops (.vd 14 (o_field 0 (.tmp 2)) (.vd 15 (o_load false 1 (.tmp 14)) (.vd 16 (o_field 1 (.tmp 3)) (.vd 17 (o_load false 1 (.tmp 16)) (.vd 18 (o_field 2 (.tmp 3)) (.vd 19 (o_load false 1 (.tmp 18)) (.vd 20 (o_mov (.tmp 4)) (.cd 21 (fun F => c_call F 122 [(.tmp 15), (.tmp 17), (.tmp 19), (.tmp 20)]) .nil)))))))))
  (.dregion [⟨⟨some 26, none, .load true 2 (.tmp 2)⟩, 4, 1, 0⟩, ⟨⟨some 27, none, .call 123 [(.tmp 26)]⟩, 5, 3, 0⟩, ⟨⟨some 22, none, .field 0 (.tmp 2)⟩, 0, 0, 0⟩, ⟨⟨some 23, none, .load false 1 (.tmp 22)⟩, 1, 1, 0⟩, ⟨⟨some 24, none, .field 1 (.tmp 2)⟩, 2, 0, 0⟩, ⟨⟨some 25, none, .load false 1 (.tmp 24)⟩, 3, 1, 0⟩, ⟨⟨some 28, none, .bin .sub (.tmp 27) (.const (.int .i64 1))⟩, 6, 0, 1⟩, ⟨⟨some 29, none, .call 91 [(.tmp 23), (.tmp 25), (.const (.int .i64 0)), (.tmp 28)]⟩, 7, 3, 1⟩]))))
def X119 : FnS := .code ⟨30, 0, .skip, []⟩ S119
theorem x119 : okX Go.Proofs.Tryz.prog 119 X119 := okX_of (by kernel_rfl)
def S120 : SCode := (.seq (.ops (.vd 4 (o_mov (.const (.int .i64 0))) .nil))
  (.seq (.block 0 (.seq (.ops (.vd 6 (o_mov (.tmp 0)) (.cd 7 (fun F => c_call F 95 [(.tmp 6)]) (.vd 8 (o_not (.tmp 7)) (.vd 5 (o_mov (.tmp 8)) .nil)))))
   (.cond (.tmp 5)
    (.seq (.ops (.vd 4 (o_mov (.const (.int .i64 5))) .nil))
    .ret)
    (.seq (.ops (.vd 10 (o_mov (.tmp 0)) (.vd 11 (o_mov (.tmp 1)) (.cd 12 (fun F => c_call F 50 [(.tmp 10), (.tmp 11)]) (.vd 13 (o_not (.tmp 12)) (.vd 9 (o_mov (.tmp 13)) .nil))))))
    (.cond (.tmp 9)
     (.seq (.ops (.vd 4 (o_mov (.const (.int .i64 4))) .nil))
     .ret)
     .skip)))))
  (.seq (.ops (.vd 4 (o_mov (.const (.int .i64 0))) .nil))
  .ret)))
def X120 : FnS := .code ⟨14, 0, .skip, [.tmp 4]⟩ S120
theorem x120 : okX Go.Proofs.Tryz.prog 120 X120 := okX_of (by kernel_rfl)
def S121 : SCode := (.seq (.ops (.vd 2 (o_box (.tmp 0)) (.vd 3 (o_box (.tmp 1)) (.vd 4 (o_new [.int .i64 0, .int .i64 0, .int .i64 0, .int .i64 0, .int .i64 0]) (.vd 5 (o_mov (.const (.bool false))) .nil)))))
  (.seq (.ops (.vd 6 (o_new [.int .i64 0, .int .i64 0, .int .i64 0, .int .i64 0, .int .i64 0]) .nil))
  (.seq (.ops (.vd 7 (o_load true 2 (.tmp 2)) (.vd 8 (o_mkfunc 219 [(.tmp 3), (.tmp 6)]) (.cd 9 (fun F => c_call F 117 [(.tmp 7), (.tmp 8)]) .nil))))
  (.seq (.dregion [⟨⟨some 10, none, .load true 5 (.tmp 6)⟩, 0, 1, 0⟩, ⟨⟨some 11, none, .load false 1 (.tmp 3)⟩, 1, 1, 0⟩, ⟨⟨some 12, none, .bin .neq (.tmp 11) (.const (.int .i64 0))⟩, 2, 0, 0⟩, ⟨⟨some 13, none, .mov (.tmp 12)⟩, 3, 0, 0⟩, ⟨⟨none, none, .store 5 (.tmp 4) (.tmp 10)⟩, 8, 3, 0⟩, ⟨⟨some 14, some (13, true), .field 0 (.tmp 6)⟩, 4, 0, 0⟩, ⟨⟨some 15, some (13, true), .load false 1 (.tmp 14)⟩, 5, 1, 0⟩, ⟨⟨some 16, some (13, true), .bin .neq (.tmp 15) (.const (.int .i64 0))⟩, 6, 0, 0⟩, ⟨⟨some 17, none, .pick (.tmp 13) (.tmp 16) (.const (.bool false))⟩, 7, 0, 0⟩, ⟨⟨some 5, none, .mov (.tmp 17)⟩, 9, 0, 1⟩])
  .ret))))
def X121 : FnS := .code ⟨18, 0, .skip, [.cell 4 true 5, .tmp 5]⟩ S121
theorem x121 : okX Go.Proofs.Tryz.prog 121 X121 := okX_of (by kernel_rfl)
def S122 : SCode := (.seq (.ops (.vd 8 (o_mov (.const (.int .i64 0))) .nil))
  (.seq (.ops (.vd 12 (o_mov (.tmp 0)) (.vd 13 (o_mov (.tmp 1)) (.vd 14 (o_mov (.tmp 2)) (.cd 15 (fun F => c_call F 172 [(.tmp 12), (.tmp 13), (.tmp 14), (.const (.bool false))]) (.vd 11 (o_mov (.tmp 15)) (.vd 16 (o_extract (.tmp 11) 0) (.vd 17 (o_extract (.tmp 11) 1) (.vd 9 (o_mov (.tmp 16)) (.vd 10 (o_mov (.tmp 17)) .nil))))))))))
  (.seq (.seq (.ops (.vd 18 (o_mov (.tmp 10)) (.vd 19 (o_bin .neq (.tmp 18) (.const (.int .i64 0))) .nil)))
  (.cond (.tmp 19)
   (.seq (.ops (.vd 20 (o_mov (.tmp 10)) (.vd 8 (o_mov (.tmp 20)) .nil)))
   .ret)
   .skip))
  (.seq (.seq (.ops (.vd 21 (o_mov (.tmp 3)) (.vd 22 (o_bin .neq (.tmp 21) (.const (.int .i64 0))) (.vd 23 (o_mov (.tmp 22)) (.vg 24 23 true (o_mov (.tmp 0)) (.vg 25 23 true (o_mov (.tmp 3)) (.c (some 26) (some (23, true)) (fun F => c_call F 50 [(.tmp 24), (.tmp 25)]) (.vg 27 23 true (o_not (.tmp 26)) (.vd 28 (o_pick (.tmp 23) (.tmp 27) (.const (.bool false))) .nil)))))))))
  (.cond (.tmp 28)
   (.seq (.ops (.vd 8 (o_mov (.const (.int .i64 1))) .nil))
   .ret)
   .skip))
  (.seq (.ops (.vd 29 (o_mov (.tmp 0)) (.vd 30 (o_nilCheck (.tmp 29)) (.vd 31 (o_field 1 (.tmp 30)) (.vd 32 (o_load false 1 (.tmp 31)) (.vd 33 (o_mov (.tmp 9)) (.vd 34 (o_mov (.tmp 3)) (.vd 35 (o_index 1 (.tmp 32) (.tmp 33)) (.v none none (o_store 1 (.tmp 35) (.tmp 34)) .nil)))))))))
  (.seq (.ops (.vd 8 (o_mov (.const (.int .i64 0))) .nil))
  .ret))))))
def X122 : FnS := .code ⟨36, 0, .skip, [.tmp 8]⟩ S122
theorem x122 : okX Go.Proofs.Tryz.prog 122 X122 := okX_of (by kernel_rfl)
def S123 : SCode := (.seq (.ops (.vd 1 (o_box (.tmp 0)) (.vd 2 (o_mov (.const (.int .i64 0))) .nil)))
  (.seq (.ops (.vd 6 (o_field 0 (.tmp 1)) (.vd 7 (o_load false 1 (.tmp 6)) (.vd 8 (o_field 1 (.tmp 1)) (.vd 9 (o_load false 1 (.tmp 8)) (.cd 10 (fun F => c_call F 77 [(.tmp 7), (.tmp 9), (.const (.int .i64 0))]) (.vd 5 (o_mov (.tmp 10)) (.vd 11 (o_extract (.tmp 5) 0) (.vd 12 (o_extract (.tmp 5) 1) (.vd 3 (o_mov (.tmp 11)) (.vd 4 (o_mov (.tmp 12)) .nil)))))))))))
  (.seq (.ops (.vd 13 (o_mov (.tmp 3)) (.vd 2 (o_mov (.tmp 13)) .nil)))
  .ret)))
def X123 : FnS := .code ⟨14, 0, .skip, [.tmp 2]⟩ S123
theorem x123 : okX Go.Proofs.Tryz.prog 123 X123 := okX_of (by kernel_rfl)
def S125 : SCode := (.seq (.ops (.vd 1 (o_box (.tmp 0)) (.vd 2 (o_mov (.const (.bool false))) .nil)))
  (.seq (.ops (.vd 3 (o_field 0 (.tmp 1)) (.vd 4 (o_load false 1 (.tmp 3)) (.vd 5 (o_bin .geq (.tmp 4) (.const (.int .i64 0))) (.vd 6 (o_mov (.tmp 5)) (.vg 7 6 true (o_field 0 (.tmp 1)) (.vg 8 6 true (o_load false 1 (.tmp 7)) (.vg 9 6 true (o_bin .leq (.tmp 8) (.const (.int .i64 15))) (.vd 10 (o_pick (.tmp 6) (.tmp 9) (.const (.bool false))) (.vd 11 (o_mov (.tmp 10)) (.vg 12 11 true (o_field 1 (.tmp 1)) (.vg 13 11 true (o_load false 1 (.tmp 12)) (.vg 14 11 true (o_bin .geq (.tmp 13) (.const (.int .i64 0))) (.vd 15 (o_pick (.tmp 11) (.tmp 14) (.const (.bool false))) (.vd 16 (o_mov (.tmp 15)) (.vg 17 16 true (o_field 1 (.tmp 1)) (.vg 18 16 true (o_load false 1 (.tmp 17)) (.vg 19 16 true (o_bin .leq (.tmp 18) (.const (.int .i64 200))) (.vd 20 (o_pick (.tmp 16) (.tmp 19) (.const (.bool false))) (.vd 21 (o_mov (.tmp 20)) (.vg 22 21 true (o_field 2 (.tmp 1)) (.vg 23 21 true (o_load false 1 (.tmp 22)) (.vg 24 21 true (o_bin .geq (.tmp 23) (.const (.int .i64 0))) (.vd 25 (o_pick (.tmp 21) (.tmp 24) (.const (.bool false))) (.vd 26 (o_mov (.tmp 25)) (.vg 27 26 true (o_field 2 (.tmp 1)) (.vg 28 26 true (o_load false 1 (.tmp 27)) (.vg 29 26 true (o_bin .leq (.tmp 28) (.const (.int .i64 3))) (.vd 30 (o_pick (.tmp 26) (.tmp 29) (.const (.bool false))) (.vd 31 (o_mov (.tmp 30)) (.vg 32 31 true (o_field 2 (.tmp 1)) (.vg 33 31 true (o_load false 1 (.tmp 32)) (.vg 34 31 true (o_bin .neq (.tmp 33) (.const (.int .i64 1))) (.vg 35 31 true (o_mov (.tmp 34)) (.vg 36 35 false (o_field 0 (.tmp 1)) (.vg 37 35 false (o_load false 1 (.tmp 36)) (.vg 38 35 false (o_bin .geq (.tmp 37) (.const (.int .i64 1))) (.vg 39 31 true (o_pick (.tmp 35) (.const (.bool true)) (.tmp 38)) (.vd 40 (o_pick (.tmp 31) (.tmp 39) (.const (.bool false))) (.vd 41 (o_mov (.tmp 40)) (.vg 42 41 true (o_field 2 (.tmp 1)) (.vg 43 41 true (o_load false 1 (.tmp 42)) (.vg 44 41 true (o_bin .neq (.tmp 43) (.const (.int .i64 2))) (.vg 45 41 true (o_mov (.tmp 44)) (.vg 46 45 false (o_field 0 (.tmp 1)) (.vg 47 45 false (o_load false 1 (.tmp 46)) (.vg 48 45 false (o_bin .geq (.tmp 47) (.const (.int .i64 2))) (.vg 49 41 true (o_pick (.tmp 45) (.const (.bool true)) (.tmp 48)) (.vd 50 (o_pick (.tmp 41) (.tmp 49) (.const (.bool false))) (.vd 2 (o_mov (.tmp 50)) .nil))))))))))))))))))))))))))))))))))))))))))))))))))
  .ret))
def X125 : FnS := .code ⟨51, 0, .skip, [.tmp 2]⟩ S125
theorem x125 : okX Go.Proofs.Tryz.prog 125 X125 := okX_of (by kernel_rfl)
def S126_1 : SCode := .seq (.seq (.ops (.vd 76 (o_mov (.tmp 10)) (.vd 77 (o_mov (.tmp 1)) (.vd 78 (o_mov (.tmp 2)) (.vd 79 (o_bin .add (.tmp 77) (.tmp 78)) (.vd 80 (o_bin .lss (.tmp 76) (.tmp 79)) .nil))))))
    (.cond (.tmp 80)
     .skip
     (.exit 0)))
    (.seq (.block 1 (.seq (.ops (.vd 84 (o_mov (.tmp 0)) (.vd 85 (o_mov (.tmp 10)) (.cd 86 (fun F => c_call F 203 [(.tmp 84), (.tmp 85)]) (.vd 83 (o_mov (.tmp 86)) (.vd 87 (o_extract (.tmp 83) 0) (.vd 88 (o_extract (.tmp 83) 1) (.vd 11 (o_mov (.tmp 87)) (.vd 12 (o_mov (.tmp 88)) .nil)))))))))
     (.seq (.ops (.vd 89 (o_mov (.tmp 12)) (.vd 90 (o_bin .eql (.tmp 89) (.const (.int .i64 0))) (.vd 91 (o_mov (.tmp 90)) (.vg 92 91 true (o_mov (.tmp 11)) (.vg 93 91 true (o_mov (.tmp 3)) (.vg 94 91 true (o_bin .neq (.tmp 92) (.tmp 93)) (.vd 95 (o_pick (.tmp 91) (.tmp 94) (.const (.bool false))) .nil))))))))
     (.cond (.tmp 95)
      (.seq (.ops (.vd 8 (o_mov (.const (.int .i64 8))) .nil))
      .ret)
      .skip))))
    (.ops (.vd 81 (o_mov (.tmp 10)) (.vd 82 (o_bin .add (.tmp 81) (.const (.int .i64 2))) (.vd 10 (o_mov (.tmp 82)) .nil)))))
def S126 : SCode := (.seq (.ops (.vd 8 (o_mov (.const (.int .i64 0))) .nil))
  (.seq (.seq (.ops (.vd 13 (o_mov (.tmp 1)) (.vd 14 (o_bin .lss (.tmp 13) (.const (.int .i64 0))) (.vd 15 (o_mov (.tmp 14)) (.vg 16 15 false (o_mov (.tmp 1)) (.vg 17 15 false (o_mov (.tmp 0)) (.vg 18 15 false (o_nilCheck (.tmp 17)) (.vg 19 15 false (o_field 1 (.tmp 18)) (.vg 20 15 false (o_load false 1 (.tmp 19)) (.vg 21 15 false (o_len (.tmp 20)) (.vg 22 15 false (o_bin .geq (.tmp 16) (.tmp 21)) (.vd 23 (o_pick (.tmp 15) (.const (.bool true)) (.tmp 22)) (.vd 24 (o_mov (.tmp 23)) (.vg 25 24 false (o_mov (.tmp 1)) (.vg 26 24 false (o_bin .rem (.tmp 25) (.const (.int .i64 2))) (.vg 27 24 false (o_bin .neq (.tmp 26) (.const (.int .i64 0))) (.vd 28 (o_pick (.tmp 24) (.const (.bool true)) (.tmp 27)) .nil)))))))))))))))))
  (.cond (.tmp 28)
   (.seq (.ops (.vd 8 (o_mov (.const (.int .i64 1))) .nil))
   .ret)
   .skip))
  (.seq (.ops (.vd 29 (o_mov (.tmp 1)) (.vd 30 (o_bin .quo (.tmp 29) (.const (.int .i64 64))) (.vd 9 (o_mov (.tmp 30)) .nil))))
  (.seq (.seq (.ops (.vd 31 (o_mov (.tmp 2)) (.vd 32 (o_bin .leq (.tmp 31) (.const (.int .i64 32))) .nil)))
  (.cond (.tmp 32)
   (.seq (.ops (.vd 33 (o_mov (.tmp 0)) (.vd 34 (o_nilCheck (.tmp 33)) (.vd 35 (o_field 0 (.tmp 34)) (.vd 36 (o_load false 1 (.tmp 35)) (.vd 37 (o_mov (.tmp 9)) (.vd 38 (o_index 2 (.tmp 36) (.tmp 37)) (.vd 39 (o_field 0 (.tmp 38)) (.vd 40 (o_load false 1 (.tmp 39)) (.vd 41 (o_bin .neq (.tmp 40) (.const (.int .i64 1))) (.vd 42 (o_mov (.tmp 41)) (.vg 43 42 false (o_mov (.tmp 1)) (.vg 44 42 false (o_mov (.tmp 2)) (.vg 45 42 false (o_bin .add (.tmp 43) (.tmp 44)) (.vg 46 42 false (o_bin .sub (.tmp 45) (.const (.int .i64 1))) (.vg 47 42 false (o_bin .quo (.tmp 46) (.const (.int .i64 64))) (.vg 48 42 false (o_mov (.tmp 9)) (.vg 49 42 false (o_bin .neq (.tmp 47) (.tmp 48)) (.vd 50 (o_pick (.tmp 42) (.const (.bool true)) (.tmp 49)) .nil)))))))))))))))))))
   (.cond (.tmp 50)
    (.seq (.ops (.vd 8 (o_mov (.const (.int .i64 5))) .nil))
    .ret)
    .skip))
   (.seq (.ops (.vd 51 (o_mov (.tmp 0)) (.vd 52 (o_nilCheck (.tmp 51)) (.vd 53 (o_field 0 (.tmp 52)) (.vd 54 (o_load false 1 (.tmp 53)) (.vd 55 (o_mov (.tmp 9)) (.vd 56 (o_index 2 (.tmp 54) (.tmp 55)) (.vd 57 (o_field 0 (.tmp 56)) (.vd 58 (o_load false 1 (.tmp 57)) (.vd 59 (o_bin .neq (.tmp 58) (.const (.int .i64 2))) (.vd 60 (o_mov (.tmp 59)) (.vg 61 60 false (o_mov (.tmp 1)) (.vg 62 60 false (o_bin .rem (.tmp 61) (.const (.int .i64 64))) (.vg 63 60 false (o_bin .neq (.tmp 62) (.const (.int .i64 0))) (.vd 64 (o_pick (.tmp 60) (.const (.bool true)) (.tmp 63)) (.vd 65 (o_mov (.tmp 64)) (.vg 66 65 false (o_mov (.tmp 0)) (.vg 67 65 false (o_mov (.tmp 9)) (.c (some 68) (some (65, false)) (fun F => c_call F 220 [(.tmp 66), (.tmp 67)]) (.vg 69 65 false (o_mov (.tmp 2)) (.vg 70 65 false (o_bin .add (.tmp 69) (.const (.int .i64 64))) (.vg 71 65 false (o_bin .sub (.tmp 70) (.const (.int .i64 1))) (.vg 72 65 false (o_bin .quo (.tmp 71) (.const (.int .i64 64))) (.vg 73 65 false (o_bin .neq (.tmp 68) (.tmp 72)) (.vd 74 (o_pick (.tmp 65) (.const (.bool true)) (.tmp 73)) .nil)))))))))))))))))))))))))
   (.cond (.tmp 74)
    (.seq (.ops (.vd 8 (o_mov (.const (.int .i64 5))) .nil))
    .ret)
    .skip))))
  (.seq (.seq (.ops (.vd 75 (o_mov (.tmp 1)) (.vd 10 (o_mov (.tmp 75)) .nil)))
  (.block 0 (.loop S126_1)))
  (.seq (.ops (.vd 8 (o_mov (.const (.int .i64 0))) .nil))
  .ret))))))
def X126 : FnS := .code ⟨96, 0, .skip, [.tmp 8]⟩ S126
theorem x126 : okX Go.Proofs.Tryz.prog 126 X126 := okX_of (by kernel_rfl)
def S127 : SCode := (.seq (.ops (.vd 1 (o_box (.tmp 0)) (.vd 2 (o_mov (.const (.int .i64 0))) .nil)))
  (.seq (.seq (.ops (.vd 3 (o_load true 3 (.tmp 1)) (.cd 4 (fun F => c_call F 125 [(.tmp 3)]) (.vd 5 (o_not (.tmp 4)) .nil))))
  (.cond (.tmp 5)
   (.seq (.ops (.vd 2 (o_mov (.const (.int .i64 0))) .nil))
   .ret)
   .skip))
  (.seq (.ops (.vd 6 (o_field 0 (.tmp 1)) (.vd 7 (o_load false 1 (.tmp 6)) (.vd 8 (o_bin .add (.const (.int .i64 2)) (.tmp 7)) (.vd 9 (o_field 1 (.tmp 1)) (.vd 10 (o_load false 1 (.tmp 9)) (.vd 11 (o_bin .add (.tmp 8) (.tmp 10)) (.vd 12 (o_bin .add (.tmp 11) (.const (.int .i64 1))) (.vd 13 (o_bin .quo (.tmp 12) (.const (.int .i64 2))) (.vd 14 (o_bin .mul (.tmp 13) (.const (.int .i64 2))) (.vd 2 (o_mov (.tmp 14)) .nil)))))))))))
  .ret)))
def X127 : FnS := .code ⟨15, 0, .skip, [.tmp 2]⟩ S127
theorem x127 : okX Go.Proofs.Tryz.prog 127 X127 := okX_of (by kernel_rfl)
def S128 : SCode := (.seq (.ops (.vd 1 (o_box (.tmp 0)) (.vd 2 (o_mov (.const (.int .i64 0))) .nil)))
  (.seq (.ops (.vd 3 (o_field 0 (.tmp 1)) (.vd 4 (o_load false 1 (.tmp 3)) (.vd 5 (o_field 1 (.tmp 1)) (.vd 6 (o_load false 1 (.tmp 5)) (.vd 7 (o_bin .mul (.const (.int .i64 16)) (.tmp 6)) (.vd 8 (o_bin .add (.tmp 4) (.tmp 7)) (.vd 9 (o_field 2 (.tmp 1)) (.vd 10 (o_load false 1 (.tmp 9)) (.vd 11 (o_bin .mul (.const (.int .i64 4096)) (.tmp 10)) (.vd 12 (o_bin .add (.tmp 8) (.tmp 11)) (.vd 2 (o_mov (.tmp 12)) .nil))))))))))))
  .ret))
def X128 : FnS := .code ⟨13, 0, .skip, [.tmp 2]⟩ S128
theorem x128 : okX Go.Proofs.Tryz.prog 128 X128 := okX_of (by kernel_rfl)
def S129 : SCode := (.seq (.ops (.vd 6 (o_mov (.const (.int .i64 0))) .nil))
  (.seq (.seq (.ops (.vd 8 (o_mov (.tmp 0)) (.vd 9 (o_mov (.tmp 1)) (.vd 10 (o_mov (.tmp 2)) (.vd 11 (o_buildSlice 1 [.int .i64 0] 1 [(0, 1, (.tmp 10))]) (.cd 12 (fun F => c_call F 221 [(.tmp 8), (.tmp 9), (.tmp 11)]) (.vd 7 (o_mov (.tmp 12)) .nil)))))))
  (.seq (.ops (.vd 13 (o_mov (.tmp 7)) (.vd 14 (o_bin .neq (.tmp 13) (.const (.int .i64 0))) .nil)))
  (.cond (.tmp 14)
   (.seq (.ops (.vd 15 (o_mov (.tmp 7)) (.vd 6 (o_mov (.tmp 15)) .nil)))
   .ret)
   .skip)))
  (.seq (.ops (.vd 16 (o_mov (.tmp 0)) (.vd 17 (o_mov (.tmp 1)) (.vd 18 (o_mov (.tmp 2)) (.cd 19 (fun F => c_call F 222 [(.tmp 16), (.tmp 17), (.tmp 18)]) .nil)))))
  (.seq (.ops (.vd 6 (o_mov (.const (.int .i64 0))) .nil))
  .ret))))
def X129 : FnS := .code ⟨20, 0, .skip, [.tmp 6]⟩ S129
theorem x129 : okX Go.Proofs.Tryz.prog 129 X129 := okX_of (by kernel_rfl)
def S130 : SCode := (.seq (.ops (.vd 2 (o_mov (.const (.int .i64 0))) .nil))
  (.seq (.seq (.ops (.vd 3 (o_mov (.tmp 0)) (.cd 4 (fun F => c_call F 134 [(.tmp 3)]) (.vd 5 (o_not (.tmp 4)) .nil))))
  (.cond (.tmp 5)
   (.seq (.ops (.vd 2 (o_mov (.const (.int .i64 0))) .nil))
   .ret)
   .skip))
  (.seq (.ops (.vd 6 (o_mov (.tmp 0)) (.vd 7 (o_nilCheck (.tmp 6)) (.vd 8 (o_field 0 (.tmp 7)) (.vd 9 (o_load false 1 (.tmp 8)) (.vd 2 (o_mov (.tmp 9)) .nil))))))
  .ret)))
def X130 : FnS := .code ⟨10, 0, .skip, [.tmp 2]⟩ S130
theorem x130 : okX Go.Proofs.Tryz.prog 130 X130 := okX_of (by kernel_rfl)
def S131_1 : SCode := .seq (.ops (.vd 23 (o_bin .lss (.tmp 22) (.tmp 21)) .nil))
    (.seq (.cond (.tmp 23)
     .skip
     (.exit 0))
    (.seq (.block 1 (.seq (.ops (.vd 24 (o_index 1 (.tmp 20) (.tmp 22)) (.vd 25 (o_load false 1 (.tmp 24)) (.vd 6 (o_mov (.tmp 25)) .nil))))
     (.ops (.vd 26 (o_load false 1 (.tmp 3)) (.vd 27 (o_mov (.tmp 6)) (.cd 28 (fun F => c_callm F (.tmp 26) [(.tmp 27)] [(304, "dustcart/alloc.place", 335), (305, "dustcart/alloc.place", 340), (306, "dustcart/alloc.place", 348), (307, "dustcart/alloc.place", 349), (308, "dustcart/alloc.place", 353)]) .nil))))))
    (.ops (.vd 29 (o_bin .add (.tmp 22) (.const (.int .i64 1))) (.vd 22 (o_mov (.tmp 29)) .nil)))))
def S131 : SCode := (.seq (.seq (.ops (.vd 7 (o_load false 1 (.tmp 1)) (.vd 8 (o_mov (.tmp 0)) (.cd 9 (fun F => c_call F 50 [(.tmp 7), (.tmp 8)]) (.vd 10 (o_not (.tmp 9)) (.vd 11 (o_mov (.tmp 10)) (.vg 12 11 false (o_load false 1 (.tmp 2)) (.vg 13 11 false (o_mov (.tmp 0)) (.vg 14 11 false (o_mapGet false .i64 (.bool false) (.tmp 12) (.tmp 13)) (.vd 15 (o_pick (.tmp 11) (.const (.bool true)) (.tmp 14)) .nil))))))))))
  (.cond (.tmp 15)
   .ret
   .skip))
  (.seq (.ops (.vd 16 (o_load false 1 (.tmp 2)) (.vd 17 (o_mov (.tmp 0)) (.v none none (o_mapSet .i64 (.tmp 16) (.tmp 17) (.const (.bool true))) .nil))))
  (.seq (.ops (.vd 18 (o_load false 1 (.tmp 1)) (.vd 19 (o_mov (.tmp 0)) (.cd 20 (fun F => c_call F 132 [(.tmp 18), (.tmp 19)]) (.vd 21 (o_len (.tmp 20)) (.vd 22 (o_mov (.const (.int .i64 0))) .nil))))))
  (.block 0 (.loop S131_1)))))
def X131 : FnS := .code ⟨30, 0, .skip, []⟩ S131
theorem x131 : okX Go.Proofs.Tryz.prog 131 X131 := okX_of (by kernel_rfl)
def S132_1 : SCode := .seq (.ops (.vd 21 (o_bin .lss (.tmp 20) (.tmp 19)) .nil))
    (.seq (.cond (.tmp 21)
     .skip
     (.exit 0))
    (.seq (.block 1 (.seq (.ops (.vd 22 (o_mov (.tmp 20)) (.vd 23 (o_index 1 (.tmp 18) (.tmp 20)) (.vd 24 (o_load false 1 (.tmp 23)) (.vd 8 (o_mov (.tmp 22)) (.vd 9 (o_mov (.tmp 24)) .nil))))))
     (.seq (.ops (.vd 25 (o_mov (.tmp 9)) (.vd 26 (o_bin .neq (.tmp 25) (.const (.int .i64 0))) (.vd 27 (o_mov (.tmp 26)) (.vg 28 27 true (o_field 2 (.tmp 5)) (.vg 29 27 true (o_load false 1 (.tmp 28)) (.vg 30 27 true (o_mov (.tmp 8)) (.c (some 31) (some (27, true)) (fun F => c_call F 142 [(.tmp 29), (.tmp 30)]) (.vg 32 27 true (o_not (.tmp 31)) (.vd 33 (o_pick (.tmp 27) (.tmp 32) (.const (.bool false))) .nil))))))))))
     (.cond (.tmp 33)
      (.ops (.vd 34 (o_mov (.tmp 7)) (.vd 35 (o_mov (.tmp 9)) (.vd 36 (o_buildSlice 1 [.int .i64 0] 1 [(0, 1, (.tmp 35))]) (.vd 37 (o_append 1 (.tmp 34) (.tmp 36)) (.vd 7 (o_mov (.tmp 37)) .nil))))))
      .skip))))
    (.ops (.vd 38 (o_bin .add (.tmp 20) (.const (.int .i64 1))) (.vd 20 (o_mov (.tmp 38)) .nil)))))
def S132 : SCode := (.seq (.ops (.vd 4 (o_mov (.const (.nilSlice))) .nil))
  (.seq (.ops (.vd 11 (o_mov (.tmp 0)) (.vd 12 (o_mov (.tmp 1)) (.cd 13 (fun F => c_call F 75 [(.tmp 11), (.tmp 12)]) (.vd 10 (o_mov (.tmp 13)) (.vd 14 (o_extract (.tmp 10) 0) (.vd 15 (o_extract (.tmp 10) 1) (.vd 5 (o_new [.int .i64 0, .int .i64 0, .int .i64 0]) (.v none none (o_store 3 (.tmp 5) (.tmp 14)) (.vd 6 (o_mov (.tmp 15)) .nil))))))))))
  (.seq (.ops (.vd 7 (o_mov (.const (.nilSlice))) .nil))
  (.seq (.seq (.ops (.vd 16 (o_mov (.tmp 0)) (.vd 17 (o_mov (.tmp 1)) (.cd 18 (fun F => c_call F 223 [(.tmp 16), (.tmp 17)]) (.vd 19 (o_len (.tmp 18)) (.vd 20 (o_mov (.const (.int .i64 0))) .nil))))))
  (.block 0 (.loop S132_1)))
  (.seq (.ops (.vd 39 (o_mov (.tmp 7)) (.vd 4 (o_mov (.tmp 39)) .nil)))
  .ret)))))
def X132 : FnS := .code ⟨40, 0, .skip, [.tmp 4]⟩ S132
theorem x132 : okX Go.Proofs.Tryz.prog 132 X132 := okX_of (by kernel_rfl)
def S133 : SCode := (.seq (.ops (.vd 4 (o_mov (.const (.int .i64 0))) .nil))
  (.seq (.ops (.vd 8 (o_mov (.tmp 0)) (.vd 9 (o_mov (.tmp 1)) (.cd 10 (fun F => c_call F 75 [(.tmp 8), (.tmp 9)]) (.vd 7 (o_mov (.tmp 10)) (.vd 11 (o_extract (.tmp 7) 0) (.vd 12 (o_extract (.tmp 7) 1) (.vd 5 (o_new [.int .i64 0, .int .i64 0, .int .i64 0]) (.v none none (o_store 3 (.tmp 5) (.tmp 11)) (.vd 6 (o_mov (.tmp 12)) .nil))))))))))
  (.seq (.ops (.vd 13 (o_field 2 (.tmp 5)) (.vd 14 (o_load false 1 (.tmp 13)) (.vd 4 (o_mov (.tmp 14)) .nil))))
  .ret)))
def X133 : FnS := .code ⟨15, 0, .skip, [.tmp 4]⟩ S133
theorem x133 : okX Go.Proofs.Tryz.prog 133 X133 := okX_of (by kernel_rfl)
def S134 : SCode := (.seq (.ops (.vd 2 (o_mov (.const (.bool false))) .nil))
  (.seq (.ops (.vd 3 (o_mov (.tmp 0)) (.vd 4 (o_eqv true 1 (.tmp 3) (.const (.nilPtr))) (.vd 5 (o_mov (.tmp 4)) (.vg 6 5 true (o_mov (.tmp 0)) (.vg 7 5 true (o_nilCheck (.tmp 6)) (.vg 8 5 true (o_field 0 (.tmp 7)) (.vg 9 5 true (o_load false 1 (.tmp 8)) (.vg 10 5 true (o_bin .gtr (.tmp 9) (.const (.int .i64 0))) (.vd 11 (o_pick (.tmp 5) (.tmp 10) (.const (.bool false))) (.vd 2 (o_mov (.tmp 11)) .nil)))))))))))
  .ret))
def X134 : FnS := .code ⟨12, 0, .skip, [.tmp 2]⟩ S134
theorem x134 : okX Go.Proofs.Tryz.prog 134 X134 := okX_of (by kernel_rfl)
def S135 : SCode := (.seq (.ops (.vd 1 (o_box (.tmp 0)) (.vd 2 (o_mov (.const (.nilFunc))) .nil)))
  (.seq (.ops (.vd 3 (o_mkfunc 224 [(.tmp 1)]) (.vd 2 (o_mov (.tmp 3)) .nil)))
  .ret))
def X135 : FnS := .code ⟨4, 0, .skip, [.tmp 2]⟩ S135
theorem x135 : okX Go.Proofs.Tryz.prog 135 X135 := okX_of (by kernel_rfl)
def S139 : SCode := (.seq (.ops (.vd 4 (o_mov (.const (.int .i64 0))) .nil))
  (.seq (.seq (.ops (.vd 5 (o_mov (.tmp 0)) (.vd 6 (o_mov (.tmp 1)) (.cd 7 (fun F => c_call F 228 [(.tmp 5), (.tmp 6)]) (.vd 8 (o_not (.tmp 7)) .nil)))))
  (.cond (.tmp 8)
   (.seq (.ops (.vd 4 (o_mov (.const (.int .i64 (-1)))) .nil))
   .ret)
   .skip))
  (.seq (.ops (.vd 9 (o_mov (.tmp 0)) (.vd 10 (o_mov (.tmp 1)) (.cd 11 (fun F => c_call F 229 [(.tmp 9), (.tmp 10)]) (.vd 4 (o_mov (.tmp 11)) .nil)))))
  .ret)))
def X139 : FnS := .code ⟨12, 0, .skip, [.tmp 4]⟩ S139
theorem x139 : okX Go.Proofs.Tryz.prog 139 X139 := okX_of (by kernel_rfl)
def S140 : SCode := (.seq (.ops (.vd 4 (o_mov (.const (.bool false))) .nil))
  (.seq (.ops (.vd 5 (o_mov (.tmp 0)) (.cd 6 (fun F => c_call F 230 [(.tmp 5)]) (.vd 7 (o_mov (.tmp 6)) (.vg 8 7 true (o_mov (.tmp 1)) (.c (some 9) (some (7, true)) (fun F => c_call F 230 [(.tmp 8)]) (.vg 10 7 true (o_not (.tmp 9)) (.vd 11 (o_pick (.tmp 7) (.tmp 10) (.const (.bool false))) (.vd 12 (o_mov (.tmp 11)) (.vg 13 12 false (o_mov (.tmp 0)) (.vg 14 12 false (o_mov (.tmp 1)) (.vg 15 12 false (o_bin .lss (.tmp 13) (.tmp 14)) (.vd 16 (o_pick (.tmp 12) (.const (.bool true)) (.tmp 15)) (.vd 4 (o_mov (.tmp 16)) .nil))))))))))))))
  .ret))
def X140 : FnS := .code ⟨17, 0, .skip, [.tmp 4]⟩ S140
theorem x140 : okX Go.Proofs.Tryz.prog 140 X140 := okX_of (by kernel_rfl)
def S141 : SCode := (.seq (.ops (.vd 2 (o_mov (.const (.bool false))) .nil))
  (.seq (.ops (.vd 3 (o_mov (.tmp 0)) (.vd 4 (o_mov (.tmp 0)) (.vd 5 (o_bin .neq (.tmp 3) (.tmp 4)) (.vd 2 (o_mov (.tmp 5)) .nil)))))
  .ret))
def X141 : FnS := .code ⟨6, 0, .skip, [.tmp 2]⟩ S141
theorem x141 : okX Go.Proofs.Tryz.prog 141 X141 := okX_of (by kernel_rfl)
def S142 : SCode := (.seq (.ops (.vd 4 (o_mov (.const (.bool false))) .nil))
  (.seq (.ops (.vd 5 (o_mov (.tmp 1)) (.vd 6 (o_bin .eql (.tmp 5) (.const (.int .i64 0))) (.vd 7 (o_mov (.tmp 6)) (.vg 8 7 true (o_mov (.tmp 0)) (.vg 9 7 true (o_bin .eql (.tmp 8) (.const (.int .i64 1))) (.vg 10 7 true (o_mov (.tmp 9)) (.vg 11 10 false (o_mov (.tmp 0)) (.vg 12 10 false (o_bin .eql (.tmp 11) (.const (.int .i64 2))) (.vg 13 7 true (o_pick (.tmp 10) (.const (.bool true)) (.tmp 12)) (.vd 14 (o_pick (.tmp 7) (.tmp 13) (.const (.bool false))) (.vd 15 (o_mov (.tmp 14)) (.vg 16 15 false (o_mov (.tmp 1)) (.vg 17 15 false (o_bin .eql (.tmp 16) (.const (.int .i64 1))) (.vg 18 15 false (o_mov (.tmp 17)) (.vg 19 18 true (o_mov (.tmp 0)) (.vg 20 18 true (o_bin .eql (.tmp 19) (.const (.int .i64 2))) (.vg 21 15 false (o_pick (.tmp 18) (.tmp 20) (.const (.bool false))) (.vd 22 (o_pick (.tmp 15) (.const (.bool true)) (.tmp 21)) (.vd 4 (o_mov (.tmp 22)) .nil))))))))))))))))))))
  .ret))
def X142 : FnS := .code ⟨23, 0, .skip, [.tmp 4]⟩ S142
theorem x142 : okX Go.Proofs.Tryz.prog 142 X142 := okX_of (by kernel_rfl)
def S143 : SCode := (.seq (.ops (.vd 6 (o_mov (.const (.nilPtr))) (.vd 7 (o_mov (.const (.int .i64 0))) .nil)))
  (.seq (.seq (.ops (.vd 8 (o_mov (.tmp 0)) (.cd 9 (fun F => c_call F 49 [(.tmp 8)]) (.vd 10 (o_bin .eql (.tmp 9) (.const (.int .i64 0))) (.vd 11 (o_mov (.tmp 10)) (.vg 12 11 false (o_mov (.tmp 1)) (.vg 13 11 false (o_bin .lss (.tmp 12) (.const (.int .i64 0))) (.vd 14 (o_pick (.tmp 11) (.const (.bool true)) (.tmp 13)) (.vd 15 (o_mov (.tmp 14)) (.vg 16 15 false (o_mov (.tmp 1)) (.vg 17 15 false (o_bin .geq (.tmp 16) (.const (.int .i64 8))) (.vd 18 (o_pick (.tmp 15) (.const (.bool true)) (.tmp 17)) (.vd 19 (o_mov (.tmp 18)) (.vg 20 19 false (o_mov (.tmp 2)) (.vg 21 19 false (o_bin .lss (.tmp 20) (.const (.int .i64 0))) (.vd 22 (o_pick (.tmp 19) (.const (.bool true)) (.tmp 21)) (.vd 23 (o_mov (.tmp 22)) (.vg 24 23 false (o_mov (.tmp 2)) (.c (some 25) (some (23, false)) (fun F => c_call F 231 []) (.vg 26 23 false (o_len (.tmp 25)) (.vg 27 23 false (o_bin .geq (.tmp 24) (.tmp 26)) (.vd 28 (o_pick (.tmp 23) (.const (.bool true)) (.tmp 27)) .nil))))))))))))))))))))))
  (.cond (.tmp 28)
   (.seq (.ops (.vd 6 (o_mov (.const (.nilPtr))) (.vd 7 (o_mov (.const (.int .i64 1))) .nil)))
   .ret)
   .skip))
  (.seq (.ops (.vd 29 (o_mov (.tmp 0)) (.vd 30 (o_mov (.tmp 1)) (.vd 31 (o_mov (.tmp 2)) (.vd 32 (o_build [.nilPtr, .int .i64 0, .int .i64 0, .int .i64 0, .int .i64 0, .int .i64 0, .int .i64 0] [(0, 1, (.tmp 29)), (1, 1, (.tmp 30)), (2, 1, (.tmp 31))]) (.vd 33 (o_box (.tmp 32)) (.vd 6 (o_mov (.tmp 33)) (.vd 7 (o_mov (.const (.int .i64 0))) .nil))))))))
  .ret)))
def X143 : FnS := .code ⟨34, 0, .skip, [.tmp 6, .tmp 7]⟩ S143
theorem x143 : okX Go.Proofs.Tryz.prog 143 X143 := okX_of (by kernel_rfl)
end Go.Cs.Tryz

/- The turned functions, part 2. -/
noncomputable section
namespace Go.Cs.Tryz
open Go Go.Cs Go.Cs.K
set_option maxRecDepth 100000
def S144 : SCode := (.seq (.ops (.vd 3 (o_box (.tmp 1)) (.vd 4 (o_mov (.const (.int .i64 0))) (.vd 5 (o_mov (.const (.int .i64 0))) .nil))))
  (.seq (.block 0 (.seq (.ops (.vd 13 (o_mov (.tmp 0)) (.cd 14 (fun F => c_call F 232 [(.tmp 13)]) (.vd 15 (o_not (.tmp 14)) (.vd 12 (o_mov (.tmp 15)) .nil)))))
   (.cond (.tmp 12)
    (.seq (.ops (.vd 4 (o_mov (.const (.int .i64 0))) (.vd 5 (o_mov (.const (.int .i64 5))) .nil)))
    .ret)
    (.seq (.ops (.vd 17 (o_load true 3 (.tmp 3)) (.cd 18 (fun F => c_call F 125 [(.tmp 17)]) (.vd 19 (o_not (.tmp 18)) (.vd 16 (o_mov (.tmp 19)) .nil)))))
    (.cond (.tmp 16)
     (.seq (.ops (.vd 4 (o_mov (.const (.int .i64 0))) (.vd 5 (o_mov (.const (.int .i64 2))) .nil)))
     .ret)
     .skip)))))
  (.seq (.ops (.vd 20 (o_load true 3 (.tmp 3)) (.cd 21 (fun F => c_call F 127 [(.tmp 20)]) (.vd 6 (o_mov (.tmp 21)) .nil))))
  (.seq (.dregion [⟨⟨some 22, none, .call 231 []⟩, 0, 3, 0⟩, ⟨⟨some 23, none, .mov (.tmp 0)⟩, 1, 0, 0⟩, ⟨⟨some 24, none, .nilCheck (.tmp 23)⟩, 2, 0, 0⟩, ⟨⟨some 25, none, .field 2 (.tmp 24)⟩, 3, 0, 0⟩, ⟨⟨some 26, none, .load false 1 (.tmp 25)⟩, 4, 1, 0⟩, ⟨⟨some 27, none, .index 1 (.tmp 22) (.tmp 26)⟩, 5, 0, 1⟩, ⟨⟨some 28, none, .load false 1 (.tmp 27)⟩, 6, 1, 1⟩, ⟨⟨some 29, none, .nilCheck (.tmp 28)⟩, 7, 0, 1⟩, ⟨⟨some 30, none, .mkmeth "dustcart/alloc.place" (.tmp 29)⟩, 8, 0, 1⟩, ⟨⟨some 7, none, .mov (.tmp 30)⟩, 9, 0, 1⟩])
  (.seq (.seq (.ops (.vd 31 (o_mov (.tmp 6)) (.vd 32 (o_bin .gtr (.tmp 31) (.const (.int .i64 32))) .nil)))
  (.cond (.tmp 32)
   (.ops (.vd 7 (o_mov (.const (.func 233 []))) .nil))
   .skip))
  (.seq (.ops (.vd 33 (o_mov (.tmp 0)) (.vd 34 (o_nilCheck (.tmp 33)) (.vd 35 (o_load true 7 (.tmp 34)) (.vd 8 (o_new [.nilPtr, .int .i64 0, .int .i64 0, .int .i64 0, .int .i64 0, .int .i64 0, .int .i64 0]) (.v none none (o_store 7 (.tmp 8) (.tmp 35)) .nil))))))
  (.seq (.ops (.vd 37 (o_mov (.tmp 7)) (.vd 38 (o_mov (.tmp 0)) (.vd 39 (o_mov (.tmp 6)) (.cd 40 (fun F => c_callm F (.tmp 37) [(.tmp 38), (.tmp 39)] [(304, "dustcart/alloc.place", 335), (305, "dustcart/alloc.place", 340), (306, "dustcart/alloc.place", 348), (307, "dustcart/alloc.place", 349), (308, "dustcart/alloc.place", 353)]) (.vd 36 (o_mov (.tmp 40)) (.vd 41 (o_extract (.tmp 36) 0) (.vd 42 (o_extract (.tmp 36) 1) (.vd 9 (o_mov (.tmp 41)) (.vd 10 (o_mov (.tmp 42)) .nil))))))))))
  (.seq (.seq (.ops (.vd 43 (o_mov (.tmp 10)) (.vd 44 (o_not (.tmp 43)) .nil)))
  (.cond (.tmp 44)
   (.seq (.ops (.vd 4 (o_mov (.const (.int .i64 0))) (.vd 5 (o_mov (.const (.int .i64 6))) .nil)))
   .ret)
   .skip))
  (.seq (.ops (.vd 11 (o_mov (.const (.int .i64 5))) .nil))
  (.seq (.seq (.dregion [⟨⟨some 45, none, .mov (.tmp 0)⟩, 0, 0, 0⟩, ⟨⟨some 46, none, .nilCheck (.tmp 45)⟩, 1, 0, 0⟩, ⟨⟨some 47, none, .field 0 (.tmp 46)⟩, 2, 0, 0⟩, ⟨⟨some 48, none, .load false 1 (.tmp 47)⟩, 3, 1, 0⟩, ⟨⟨some 49, none, .mov (.tmp 9)⟩, 4, 0, 0⟩, ⟨⟨some 50, none, .bin .quo (.tmp 49) (.const (.int .i64 64))⟩, 5, 0, 0⟩, ⟨⟨some 51, none, .call 72 [(.tmp 48), (.tmp 50)]⟩, 6, 3, 0⟩, ⟨⟨some 52, none, .mov (.tmp 0)⟩, 7, 0, 0⟩, ⟨⟨some 53, none, .nilCheck (.tmp 52)⟩, 8, 0, 0⟩, ⟨⟨some 54, none, .field 1 (.tmp 53)⟩, 9, 0, 0⟩, ⟨⟨some 55, none, .load false 1 (.tmp 54)⟩, 10, 1, 0⟩, ⟨⟨some 56, none, .bin .eql (.tmp 51) (.tmp 55)⟩, 11, 0, 1⟩])
  (.cond (.tmp 56)
   (.dregion [⟨⟨some 58, none, .mov (.tmp 0)⟩, 0, 0, 0⟩, ⟨⟨some 59, none, .nilCheck (.tmp 58)⟩, 1, 0, 0⟩, ⟨⟨some 60, none, .field 0 (.tmp 59)⟩, 2, 0, 0⟩, ⟨⟨some 61, none, .load false 1 (.tmp 60)⟩, 3, 1, 0⟩, ⟨⟨some 62, none, .mov (.tmp 9)⟩, 4, 0, 0⟩, ⟨⟨some 63, none, .load true 3 (.tmp 3)⟩, 5, 1, 0⟩, ⟨⟨some 64, none, .call 40 [(.tmp 61), (.tmp 62), (.tmp 63)]⟩, 6, 3, 0⟩, ⟨⟨some 57, none, .mov (.tmp 64)⟩, 7, 0, 1⟩, ⟨⟨some 65, none, .extract (.tmp 57) 0⟩, 8, 0, 1⟩, ⟨⟨some 66, none, .extract (.tmp 57) 1⟩, 9, 0, 1⟩, ⟨⟨some 11, none, .mov (.tmp 66)⟩, 10, 0, 1⟩])
   .skip))
  (.seq (.seq (.ops (.vd 67 (o_mov (.tmp 11)) (.vd 68 (o_bin .neq (.tmp 67) (.const (.int .i64 0))) .nil)))
  (.cond (.tmp 68)
   (.seq (.ops (.vd 69 (o_mov (.tmp 0)) (.vd 70 (o_load true 7 (.tmp 8)) (.vd 71 (o_nilCheck (.tmp 69)) (.v none none (o_store 7 (.tmp 71) (.tmp 70)) .nil)))))
   (.seq (.ops (.vd 4 (o_mov (.const (.int .i64 0))) (.vd 5 (o_mov (.const (.int .i64 6))) .nil)))
   .ret))
   .skip))
  (.seq (.ops (.vd 72 (o_mov (.tmp 9)) (.vd 4 (o_mov (.tmp 72)) (.vd 5 (o_mov (.const (.int .i64 0))) .nil))))
  .ret))))))))))))
def X144 : FnS := .code ⟨73, 0, .skip, [.tmp 4, .tmp 5]⟩ S144
theorem x144 : okX Go.Proofs.Tryz.prog 144 X144 := okX_of (by kernel_rfl)
def S149 : SCode := (.seq (.ops (.vd 6 (o_mov (.const (.int .i64 0))) .nil))
  (.seq (.ops (.vd 7 (o_mov (.tmp 0)) (.vd 8 (o_mov (.tmp 1)) (.vd 9 (o_mov (.tmp 2)) (.vd 10 (o_build [.int .i64 0, .int .i64 0] [(0, 1, (.const (.int .i64 1))), (1, 1, (.tmp 9))]) (.vd 11 (o_build [.int .i64 0, .int .i64 0] []) (.cd 12 (fun F => c_call F 239 [(.tmp 7), (.tmp 8), (.const (.int .i64 1)), (.tmp 10), (.tmp 11)]) (.vd 6 (o_mov (.tmp 12)) .nil))))))))
  .ret))
def X149 : FnS := .code ⟨13, 0, .skip, [.tmp 6]⟩ S149
theorem x149 : okX Go.Proofs.Tryz.prog 149 X149 := okX_of (by kernel_rfl)
def S155 : SCode := (.seq (.ops (.vd 4 (o_mov (.const (.int .i64 0))) .nil))
  (.seq (.ops (.vd 5 (o_mov (.tmp 0)) (.vd 6 (o_nilCheck (.tmp 5)) (.vd 7 (o_field 1 (.tmp 6)) (.vd 8 (o_load false 1 (.tmp 7)) (.vd 9 (o_mov (.tmp 1)) (.vd 10 (o_bin .add (.tmp 9) (.const (.int .i64 1))) (.vd 11 (o_index 1 (.tmp 8) (.tmp 10)) (.vd 12 (o_load false 1 (.tmp 11)) (.cd 13 (fun F => c_call F 171 [(.tmp 12)]) (.cd 14 (fun F => c_call F 127 [(.tmp 13)]) (.vd 4 (o_mov (.tmp 14)) .nil))))))))))))
  .ret))
def X155 : FnS := .code ⟨15, 0, .skip, [.tmp 4]⟩ S155
theorem x155 : okX Go.Proofs.Tryz.prog 155 X155 := okX_of (by kernel_rfl)
def S170_1 : SCode := .seq (.seq (.ops (.vd 20 (o_mov (.tmp 9)) (.vd 21 (o_bin .eql (.tmp 20) (.const (.int .i64 0))) (.vd 22 (o_mov (.tmp 21)) (.vg 23 22 true (o_mov (.tmp 8)) (.vg 24 22 true (o_bin .mul (.const (.int .i64 2)) (.tmp 23)) (.vg 25 22 true (o_mov (.tmp 2)) (.vg 26 22 true (o_bin .lss (.tmp 24) (.tmp 25)) (.vd 27 (o_pick (.tmp 22) (.tmp 26) (.const (.bool false))) .nil)))))))))
    (.cond (.tmp 27)
     .skip
     (.exit 0)))
    (.seq (.block 1 (.ops (.vd 38 (o_mov (.tmp 7)) (.vd 39 (o_mov (.tmp 8)) (.vd 40 (o_bin .mul (.const (.int .i64 2)) (.tmp 39)) (.vd 41 (o_buildSlice 1 [.int .i64 0] 1 [(0, 1, (.tmp 40))]) (.vd 42 (o_append 1 (.tmp 38) (.tmp 41)) (.vd 7 (o_mov (.tmp 42)) .nil))))))))
    (.ops (.vd 29 (o_mov (.tmp 0)) (.vd 30 (o_nilCheck (.tmp 29)) (.vd 31 (o_field 2 (.tmp 30)) (.vd 32 (o_load false 1 (.tmp 31)) (.vd 33 (o_mov (.tmp 8)) (.vd 34 (o_bin .add (.tmp 33) (.const (.int .i64 1))) (.cd 35 (fun F => c_call F 247 [(.tmp 32), (.tmp 34), (.const (.int .i64 1))]) (.vd 28 (o_mov (.tmp 35)) (.vd 36 (o_extract (.tmp 28) 0) (.vd 37 (o_extract (.tmp 28) 1) (.vd 8 (o_mov (.tmp 36)) (.vd 9 (o_mov (.tmp 37)) .nil))))))))))))))
def S170 : SCode := (.seq (.ops (.vd 6 (o_mov (.const (.nilSlice))) .nil))
  (.seq (.ops (.vd 7 (o_mov (.const (.nilSlice))) .nil))
  (.seq (.seq (.ops (.vd 11 (o_mov (.tmp 0)) (.vd 12 (o_nilCheck (.tmp 11)) (.vd 13 (o_field 2 (.tmp 12)) (.vd 14 (o_load false 1 (.tmp 13)) (.vd 15 (o_mov (.tmp 1)) (.vd 16 (o_bin .quo (.tmp 15) (.const (.int .i64 2))) (.cd 17 (fun F => c_call F 247 [(.tmp 14), (.tmp 16), (.const (.int .i64 1))]) (.vd 10 (o_mov (.tmp 17)) (.vd 18 (o_extract (.tmp 10) 0) (.vd 19 (o_extract (.tmp 10) 1) (.vd 8 (o_mov (.tmp 18)) (.vd 9 (o_mov (.tmp 19)) .nil)))))))))))))
  (.block 0 (.loop S170_1)))
  (.seq (.ops (.vd 43 (o_mov (.tmp 7)) (.vd 6 (o_mov (.tmp 43)) .nil)))
  .ret))))
def X170 : FnS := .code ⟨44, 0, .skip, [.tmp 6]⟩ S170
theorem x170 : okX Go.Proofs.Tryz.prog 170 X170 := okX_of (by kernel_rfl)
def S171 : SCode := (.seq (.ops (.vd 2 (o_new [.int .i64 0, .int .i64 0, .int .i64 0]) .nil))
  (.seq (.ops (.vd 3 (o_mov (.tmp 0)) (.vd 4 (o_bin .rem (.tmp 3) (.const (.int .i64 16))) (.vd 5 (o_mov (.tmp 0)) (.vd 6 (o_bin .rem (.tmp 5) (.const (.int .i64 4096))) (.vd 7 (o_bin .quo (.tmp 6) (.const (.int .i64 16))) (.vd 8 (o_mov (.tmp 0)) (.vd 9 (o_bin .quo (.tmp 8) (.const (.int .i64 4096))) (.vd 10 (o_build [.int .i64 0, .int .i64 0, .int .i64 0] [(0, 1, (.tmp 4)), (1, 1, (.tmp 7)), (2, 1, (.tmp 9))]) (.v none none (o_store 3 (.tmp 2) (.tmp 10)) .nil))))))))))
  .ret))
def X171 : FnS := .code ⟨11, 0, .skip, [.cell 2 true 3]⟩ S171
theorem x171 : okX Go.Proofs.Tryz.prog 171 X171 := okX_of (by kernel_rfl)
def S172 : SCode := (.seq (.ops (.vd 8 (o_mov (.const (.int .i64 0))) (.vd 9 (o_mov (.const (.int .i64 0))) .nil)))
  (.seq (.seq (.ops (.vd 14 (o_mov (.tmp 0)) (.vd 15 (o_mov (.tmp 1)) (.cd 16 (fun F => c_call F 120 [(.tmp 14), (.tmp 15)]) (.vd 10 (o_mov (.tmp 16)) .nil)))))
  (.seq (.ops (.vd 17 (o_mov (.tmp 10)) (.vd 18 (o_bin .neq (.tmp 17) (.const (.int .i64 0))) .nil)))
  (.cond (.tmp 18)
   (.seq (.ops (.vd 19 (o_mov (.tmp 10)) (.vd 8 (o_mov (.const (.int .i64 0))) (.vd 9 (o_mov (.tmp 19)) .nil))))
   .ret)
   .skip)))
  (.seq (.ops (.vd 20 (o_mov (.tmp 0)) (.vd 21 (o_nilCheck (.tmp 20)) (.vd 22 (o_field 1 (.tmp 21)) (.vd 23 (o_load false 1 (.tmp 22)) (.vd 24 (o_mov (.tmp 1)) (.vd 25 (o_bin .add (.tmp 24) (.const (.int .i64 1))) (.vd 26 (o_index 1 (.tmp 23) (.tmp 25)) (.vd 27 (o_load false 1 (.tmp 26)) (.cd 28 (fun F => c_call F 171 [(.tmp 27)]) (.vd 11 (o_new [.int .i64 0, .int .i64 0, .int .i64 0]) (.v none none (o_store 3 (.tmp 11) (.tmp 28)) .nil))))))))))))
  (.seq (.dregion [⟨⟨some 29, none, .mov (.tmp 1)⟩, 0, 0, 0⟩, ⟨⟨some 30, none, .bin .add (.tmp 29) (.const (.int .i64 2))⟩, 1, 0, 0⟩, ⟨⟨some 31, none, .field 0 (.tmp 11)⟩, 2, 0, 0⟩, ⟨⟨some 32, none, .load false 1 (.tmp 31)⟩, 3, 1, 0⟩, ⟨⟨some 12, none, .mov (.tmp 30)⟩, 4, 0, 0⟩, ⟨⟨some 13, none, .mov (.tmp 32)⟩, 5, 0, 0⟩])
  (.seq (.seq (.ops (.vd 33 (o_mov (.tmp 3)) .nil))
  (.cond (.tmp 33)
   (.dregion [⟨⟨some 34, none, .mov (.tmp 12)⟩, 0, 0, 0⟩, ⟨⟨some 35, none, .field 0 (.tmp 11)⟩, 1, 0, 0⟩, ⟨⟨some 36, none, .load false 1 (.tmp 35)⟩, 2, 1, 0⟩, ⟨⟨some 37, none, .bin .add (.tmp 34) (.tmp 36)⟩, 3, 0, 0⟩, ⟨⟨some 38, none, .field 1 (.tmp 11)⟩, 4, 0, 0⟩, ⟨⟨some 39, none, .load false 1 (.tmp 38)⟩, 5, 1, 0⟩, ⟨⟨some 12, none, .mov (.tmp 37)⟩, 6, 0, 0⟩, ⟨⟨some 13, none, .mov (.tmp 39)⟩, 7, 0, 0⟩])
   .skip))
  (.seq (.seq (.ops (.vd 40 (o_mov (.tmp 2)) (.vd 41 (o_bin .lss (.tmp 40) (.const (.int .i64 0))) (.vd 42 (o_mov (.tmp 41)) (.vg 43 42 false (o_mov (.tmp 2)) (.vg 44 42 false (o_mov (.tmp 13)) (.vg 45 42 false (o_bin .geq (.tmp 43) (.tmp 44)) (.vd 46 (o_pick (.tmp 42) (.const (.bool true)) (.tmp 45)) .nil))))))))
  (.cond (.tmp 46)
   (.seq (.ops (.vd 8 (o_mov (.const (.int .i64 0))) (.vd 9 (o_mov (.const (.int .i64 1))) .nil)))
   .ret)
   .skip))
  (.seq (.ops (.vd 47 (o_mov (.tmp 12)) (.vd 48 (o_mov (.tmp 2)) (.vd 49 (o_bin .add (.tmp 47) (.tmp 48)) (.vd 8 (o_mov (.tmp 49)) (.vd 9 (o_mov (.const (.int .i64 0))) .nil))))))
  .ret)))))))
def X172 : FnS := .code ⟨50, 0, .skip, [.tmp 8, .tmp 9]⟩ S172
theorem x172 : okX Go.Proofs.Tryz.prog 172 X172 := okX_of (by kernel_rfl)
def S193 : SCode := (.seq (.ops (.vd 3 (o_mov (.const (.bool false))) .nil))
  (.seq (.ops (.vd 4 (o_mov (.tmp 0)) (.vd 5 (o_bin .neq (.tmp 4) (.const (.int .i64 0))) (.vd 6 (o_mov (.tmp 5)) (.vg 7 6 true (o_load false 1 (.tmp 1)) (.vg 8 6 true (o_mov (.tmp 0)) (.c (some 9) (some (6, true)) (fun F => c_call F 50 [(.tmp 7), (.tmp 8)]) (.vg 10 6 true (o_not (.tmp 9)) (.vd 11 (o_pick (.tmp 6) (.tmp 10) (.const (.bool false))) (.vd 3 (o_mov (.tmp 11)) .nil))))))))))
  .ret))
def X193 : FnS := .code ⟨12, 0, .skip, [.tmp 3]⟩ S193
theorem x193 : okX Go.Proofs.Tryz.prog 193 X193 := okX_of (by kernel_rfl)
def S194 : SCode := (.seq (.ops (.vd 4 (o_mov (.const (.bool false))) .nil))
  (.seq (.ops (.vd 5 (o_mov (.tmp 0)) (.vd 6 (o_mov (.tmp 1)) (.cd 7 (fun F => c_call F 255 [(.tmp 5), (.tmp 6)]) (.vd 8 (o_bin .geq (.tmp 7) (.const (.int .i64 0))) (.vd 4 (o_mov (.tmp 8)) .nil))))))
  .ret))
def X194 : FnS := .code ⟨9, 0, .skip, [.tmp 4]⟩ S194
theorem x194 : okX Go.Proofs.Tryz.prog 194 X194 := okX_of (by kernel_rfl)
def S200 : SCode := (.seq (.ops (.vd 4 (o_mov (.const (.nilSlice))) .nil))
  (.seq (.seq (.ops (.vd 5 (o_mov (.tmp 0)) (.cd 6 (fun F => c_call F 95 [(.tmp 5)]) (.vd 7 (o_not (.tmp 6)) (.vd 8 (o_mov (.tmp 7)) (.vg 9 8 false (o_mov (.tmp 1)) (.vg 10 8 false (o_bin .lss (.tmp 9) (.const (.int .i64 0))) (.vd 11 (o_pick (.tmp 8) (.const (.bool true)) (.tmp 10)) (.vd 12 (o_mov (.tmp 11)) (.vg 13 12 false (o_mov (.tmp 1)) (.vg 14 12 false (o_mov (.tmp 0)) (.vg 15 12 false (o_nilCheck (.tmp 14)) (.vg 16 12 false (o_field 0 (.tmp 15)) (.vg 17 12 false (o_load false 1 (.tmp 16)) (.vg 18 12 false (o_len (.tmp 17)) (.vg 19 12 false (o_bin .geq (.tmp 13) (.tmp 18)) (.vd 20 (o_pick (.tmp 12) (.const (.bool true)) (.tmp 19)) .nil)))))))))))))))))
  (.cond (.tmp 20)
   (.seq (.ops (.vd 4 (o_mov (.const (.nilSlice))) .nil))
   .ret)
   .skip))
  (.seq (.ops (.vd 21 (o_mov (.tmp 0)) (.vd 22 (o_mov (.tmp 1)) (.vd 23 (o_bin .mul (.tmp 22) (.const (.int .i64 64))) (.vd 24 (o_mov (.tmp 1)) (.vd 25 (o_bin .add (.tmp 24) (.const (.int .i64 1))) (.vd 26 (o_bin .mul (.tmp 25) (.const (.int .i64 64))) (.cd 27 (fun F => c_call F 170 [(.tmp 21), (.tmp 23), (.tmp 26)]) (.vd 4 (o_mov (.tmp 27)) .nil)))))))))
  .ret)))
def X200 : FnS := .code ⟨28, 0, .skip, [.tmp 4]⟩ S200
theorem x200 : okX Go.Proofs.Tryz.prog 200 X200 := okX_of (by kernel_rfl)
def S203 : SCode := (.seq (.ops (.vd 4 (o_mov (.const (.int .i64 0))) (.vd 5 (o_mov (.const (.int .i64 0))) .nil)))
  (.seq (.seq (.ops (.vd 8 (o_mov (.tmp 0)) (.cd 9 (fun F => c_call F 95 [(.tmp 8)]) (.vd 10 (o_not (.tmp 9)) .nil))))
  (.cond (.tmp 10)
   (.seq (.ops (.vd 4 (o_mov (.const (.int .i64 0))) (.vd 5 (o_mov (.const (.int .i64 5))) .nil)))
   .ret)
   .skip))
  (.seq (.seq (.ops (.vd 11 (o_mov (.tmp 1)) (.vd 12 (o_bin .lss (.tmp 11) (.const (.int .i64 0))) (.vd 13 (o_mov (.tmp 12)) (.vg 14 13 false (o_mov (.tmp 1)) (.vg 15 13 false (o_mov (.tmp 0)) (.vg 16 13 false (o_nilCheck (.tmp 15)) (.vg 17 13 false (o_field 1 (.tmp 16)) (.vg 18 13 false (o_load false 1 (.tmp 17)) (.vg 19 13 false (o_len (.tmp 18)) (.vg 20 13 false (o_bin .geq (.tmp 14) (.tmp 19)) (.vd 21 (o_pick (.tmp 13) (.const (.bool true)) (.tmp 20)) .nil))))))))))))
  (.cond (.tmp 21)
   (.seq (.ops (.vd 4 (o_mov (.const (.int .i64 0))) (.vd 5 (o_mov (.const (.int .i64 4))) .nil)))
   .ret)
   .skip))
  (.seq (.ops (.vd 23 (o_mov (.tmp 0)) (.vd 24 (o_nilCheck (.tmp 23)) (.vd 25 (o_field 2 (.tmp 24)) (.vd 26 (o_load false 1 (.tmp 25)) (.vd 27 (o_mov (.tmp 1)) (.vd 28 (o_bin .quo (.tmp 27) (.const (.int .i64 2))) (.vd 29 (o_bin .add (.tmp 28) (.const (.int .i64 1))) (.cd 30 (fun F => c_call F 261 [(.tmp 26), (.tmp 29), (.const (.int .i64 1))]) (.vd 22 (o_mov (.tmp 30)) (.vd 31 (o_extract (.tmp 22) 0) (.vd 32 (o_extract (.tmp 22) 1) (.vd 6 (o_mov (.tmp 31)) (.vd 7 (o_mov (.tmp 32)) .nil))))))))))))))
  (.seq (.seq (.ops (.vd 33 (o_mov (.tmp 7)) (.vd 34 (o_bin .neq (.tmp 33) (.const (.int .i64 0))) (.vd 35 (o_mov (.tmp 34)) (.vg 36 35 false (o_mov (.tmp 1)) (.vg 37 35 false (o_mov (.tmp 6)) (.vg 38 35 false (o_bin .mul (.const (.int .i64 2)) (.tmp 37)) (.vg 39 35 false (o_mov (.tmp 0)) (.vg 40 35 false (o_mov (.tmp 6)) (.vg 41 35 false (o_bin .mul (.const (.int .i64 2)) (.tmp 40)) (.c (some 42) (some (35, false)) (fun F => c_call F 155 [(.tmp 39), (.tmp 41)]) (.vg 43 35 false (o_bin .add (.tmp 38) (.tmp 42)) (.vg 44 35 false (o_bin .geq (.tmp 36) (.tmp 43)) (.vd 45 (o_pick (.tmp 35) (.const (.bool true)) (.tmp 44)) .nil))))))))))))))
  (.cond (.tmp 45)
   (.seq (.ops (.vd 4 (o_mov (.const (.int .i64 0))) (.vd 5 (o_mov (.const (.int .i64 4))) .nil)))
   .ret)
   .skip))
  (.seq (.ops (.vd 46 (o_mov (.tmp 6)) (.vd 47 (o_bin .mul (.const (.int .i64 2)) (.tmp 46)) (.vd 4 (o_mov (.tmp 47)) (.vd 5 (o_mov (.const (.int .i64 0))) .nil)))))
  .ret))))))
def X203 : FnS := .code ⟨48, 0, .skip, [.tmp 4, .tmp 5]⟩ S203
theorem x203 : okX Go.Proofs.Tryz.prog 203 X203 := okX_of (by kernel_rfl)
def S208_1 : SCode := .seq (.ops (.vd 9 (o_bin .lss (.tmp 8) (.tmp 7)) .nil))
    (.seq (.cond (.tmp 9)
     .skip
     (.exit 0))
    (.seq (.block 1 (.seq (.ops (.vd 10 (o_mov (.tmp 8)) (.vd 5 (o_mov (.tmp 10)) .nil)))
     (.seq (.ops (.vd 11 (o_mov (.tmp 1)) (.vd 12 (o_mov (.tmp 0)) (.vd 13 (o_mov (.tmp 5)) (.vd 14 (o_index 1 (.tmp 12) (.tmp 13)) (.vd 15 (o_load false 1 (.tmp 14)) (.vd 16 (o_bin .eql (.tmp 11) (.tmp 15)) .nil)))))))
     (.cond (.tmp 16)
      (.seq (.ops (.vd 17 (o_mov (.tmp 5)) (.vd 4 (o_mov (.tmp 17)) .nil)))
      .ret)
      .skip))))
    (.ops (.vd 18 (o_bin .add (.tmp 8) (.const (.int .i64 1))) (.vd 8 (o_mov (.tmp 18)) .nil)))))
def S208 : SCode := (.seq (.ops (.vd 4 (o_mov (.const (.int .i64 0))) .nil))
  (.seq (.seq (.ops (.vd 6 (o_mov (.tmp 0)) (.vd 7 (o_len (.tmp 6)) (.vd 8 (o_mov (.const (.int .i64 0))) .nil))))
  (.block 0 (.loop S208_1)))
  (.seq (.ops (.vd 4 (o_mov (.const (.int .i64 (-1)))) .nil))
  .ret)))
def X208 : FnS := .code ⟨19, 0, .skip, [.tmp 4]⟩ S208
theorem x208 : okX Go.Proofs.Tryz.prog 208 X208 := okX_of (by kernel_rfl)
def S216 : SCode := (.seq (.ops (.vd 3 (o_box (.tmp 1)) (.vd 4 (o_mov (.const (.nilPtr))) .nil)))
  (.seq (.ops (.vd 6 (o_mkfunc 264 [(.tmp 3)]) (.vd 5 (o_mov (.tmp 6)) .nil)))
  (.seq (.block 0 (.seq (.dregion [⟨⟨some 8, none, .field 0 (.tmp 3)⟩, 0, 0, 0⟩, ⟨⟨some 9, none, .load false 1 (.tmp 8)⟩, 1, 1, 0⟩, ⟨⟨some 10, none, .bin .eql (.tmp 9) (.const (.int .i64 0))⟩, 2, 0, 0⟩, ⟨⟨some 11, none, .mov (.tmp 10)⟩, 3, 0, 0⟩, ⟨⟨some 12, some (11, true), .field 1 (.tmp 3)⟩, 4, 0, 0⟩, ⟨⟨some 13, some (11, true), .load false 1 (.tmp 12)⟩, 5, 1, 0⟩, ⟨⟨some 14, some (11, true), .bin .geq (.tmp 13) (.const (.int .i64 0))⟩, 6, 0, 0⟩, ⟨⟨some 15, none, .pick (.tmp 11) (.tmp 14) (.const (.bool false))⟩, 7, 0, 0⟩, ⟨⟨some 16, none, .mov (.tmp 15)⟩, 8, 0, 0⟩, ⟨⟨some 17, some (16, true), .field 1 (.tmp 3)⟩, 9, 0, 0⟩, ⟨⟨some 18, some (16, true), .load false 1 (.tmp 17)⟩, 10, 1, 0⟩, ⟨⟨some 19, some (16, true), .mov (.tmp 0)⟩, 11, 0, 0⟩, ⟨⟨some 20, some (16, true), .nilCheck (.tmp 19)⟩, 12, 0, 0⟩, ⟨⟨some 21, some (16, true), .field 0 (.tmp 20)⟩, 13, 0, 0⟩, ⟨⟨some 22, some (16, true), .load false 1 (.tmp 21)⟩, 14, 1, 0⟩, ⟨⟨some 23, some (16, true), .bin .lss (.tmp 18) (.tmp 22)⟩, 15, 0, 0⟩, ⟨⟨some 24, none, .pick (.tmp 16) (.tmp 23) (.const (.bool false))⟩, 16, 0, 0⟩, ⟨⟨some 7, none, .mov (.tmp 24)⟩, 17, 0, 0⟩])
   (.cond (.tmp 7)
    (.seq (.dregion [⟨⟨some 25, none, .mov (.tmp 5)⟩, 0, 0, 0⟩, ⟨⟨some 26, none, .mov (.tmp 0)⟩, 1, 0, 0⟩, ⟨⟨some 27, none, .nilCheck (.tmp 26)⟩, 2, 0, 0⟩, ⟨⟨some 28, none, .field 1 (.tmp 27)⟩, 3, 0, 0⟩, ⟨⟨some 29, none, .load false 1 (.tmp 28)⟩, 4, 1, 0⟩, ⟨⟨some 30, none, .field 1 (.tmp 3)⟩, 5, 0, 0⟩, ⟨⟨some 31, none, .load false 1 (.tmp 30)⟩, 6, 1, 0⟩, ⟨⟨some 32, none, .bin .mul (.tmp 31) (.const (.int .i64 16))⟩, 7, 0, 0⟩, ⟨⟨some 33, none, .field 1 (.tmp 3)⟩, 8, 0, 0⟩, ⟨⟨some 34, none, .load false 1 (.tmp 33)⟩, 9, 1, 0⟩, ⟨⟨some 35, none, .bin .add (.tmp 34) (.const (.int .i64 1))⟩, 10, 0, 0⟩, ⟨⟨some 36, none, .bin .mul (.tmp 35) (.const (.int .i64 16))⟩, 11, 0, 0⟩, ⟨⟨some 37, none, .slice 1 (.tmp 29) (some (.tmp 32)) (some (.tmp 36)) none⟩, 12, 0, 0⟩, ⟨⟨some 38, none, .callm (.tmp 25) [(.tmp 37)] [(304, "dustcart/alloc.place", 335), (305, "dustcart/alloc.place", 340), (306, "dustcart/alloc.place", 348), (307, "dustcart/alloc.place", 349), (308, "dustcart/alloc.place", 353)]⟩, 13, 3, 0⟩, ⟨⟨some 4, none, .mov (.tmp 38)⟩, 14, 0, 1⟩])
    .ret)
    (.seq (.ops (.vd 40 (o_field 0 (.tmp 3)) (.vd 41 (o_load false 1 (.tmp 40)) (.vd 42 (o_bin .eql (.tmp 41) (.const (.int .i64 1))) (.vd 43 (o_mov (.tmp 42)) (.vg 44 43 true (o_field 1 (.tmp 3)) (.vg 45 43 true (o_load false 1 (.tmp 44)) (.vg 46 43 true (o_bin .eql (.tmp 45) (.const (.int .i64 0))) (.vd 47 (o_pick (.tmp 43) (.tmp 46) (.const (.bool false))) (.vd 39 (o_mov (.tmp 47)) .nil))))))))))
    (.cond (.tmp 39)
     (.seq (.ops (.vd 48 (o_mov (.tmp 5)) (.vd 49 (o_mov (.tmp 0)) (.vd 50 (o_nilCheck (.tmp 49)) (.vd 51 (o_field 2 (.tmp 50)) (.vd 52 (o_load false 1 (.tmp 51)) (.cd 53 (fun F => c_callm F (.tmp 48) [(.tmp 52)] [(304, "dustcart/alloc.place", 335), (305, "dustcart/alloc.place", 340), (306, "dustcart/alloc.place", 348), (307, "dustcart/alloc.place", 349), (308, "dustcart/alloc.place", 353)]) (.vd 4 (o_mov (.tmp 53)) .nil))))))))
     .ret)
     (.seq (.ops (.vd 55 (o_field 0 (.tmp 3)) (.vd 56 (o_load false 1 (.tmp 55)) (.vd 57 (o_bin .eql (.tmp 56) (.const (.int .i64 2))) (.vd 58 (o_mov (.tmp 57)) (.vg 59 58 true (o_field 1 (.tmp 3)) (.vg 60 58 true (o_load false 1 (.tmp 59)) (.vg 61 58 true (o_bin .eql (.tmp 60) (.const (.int .i64 0))) (.vd 62 (o_pick (.tmp 58) (.tmp 61) (.const (.bool false))) (.vd 54 (o_mov (.tmp 62)) .nil))))))))))
     (.cond (.tmp 54)
      (.seq (.ops (.vd 63 (o_mov (.tmp 5)) (.vd 64 (o_mov (.tmp 0)) (.vd 65 (o_nilCheck (.tmp 64)) (.vd 66 (o_field 3 (.tmp 65)) (.vd 67 (o_load false 1 (.tmp 66)) (.cd 68 (fun F => c_callm F (.tmp 63) [(.tmp 67)] [(304, "dustcart/alloc.place", 335), (305, "dustcart/alloc.place", 340), (306, "dustcart/alloc.place", 348), (307, "dustcart/alloc.place", 349), (308, "dustcart/alloc.place", 353)]) (.vd 4 (o_mov (.tmp 68)) .nil))))))))
      .ret)
      .skip)))))))
  (.seq (.ops (.vd 4 (o_mov (.const (.nilPtr))) .nil))
  .ret))))
def X216 : FnS := .code ⟨69, 0, .skip, [.tmp 4]⟩ S216
theorem x216 : okX Go.Proofs.Tryz.prog 216 X216 := okX_of (by kernel_rfl)
def S218 : SCode := (.seq (.ops (.vd 2 (o_box (.tmp 0)) (.vd 3 (o_mov (.const (.bool false))) .nil)))
  (.seq (.ops (.vd 4 (o_load false 1 (.tmp 1)) (.vd 5 (o_bin .add (.tmp 4) (.const (.int .i64 1))) (.v none none (o_store 1 (.tmp 1) (.tmp 5)) .nil))))
  (.seq (.ops (.vd 3 (o_mov (.const (.bool true))) .nil))
  .ret)))
def X218 : FnS := .code ⟨6, 0, .skip, [.tmp 3]⟩ S218
theorem x218 : okX Go.Proofs.Tryz.prog 218 X218 := okX_of (by kernel_rfl)
def S219 : SCode := (.seq (.ops (.vd 3 (o_box (.tmp 0)) (.vd 4 (o_mov (.const (.bool false))) .nil)))
  (.seq (.seq (.ops (.vd 5 (o_field 3 (.tmp 3)) (.vd 6 (o_load false 1 (.tmp 5)) (.vd 7 (o_load false 1 (.tmp 1)) (.vd 8 (o_bin .eql (.tmp 6) (.tmp 7)) .nil)))))
  (.cond (.tmp 8)
   (.ops (.vd 9 (o_load true 5 (.tmp 3)) (.v none none (o_store 5 (.tmp 2) (.tmp 9)) .nil)))
   .skip))
  (.seq (.ops (.vd 10 (o_field 0 (.tmp 2)) (.vd 11 (o_load false 1 (.tmp 10)) (.vd 12 (o_bin .eql (.tmp 11) (.const (.int .i64 0))) (.vd 4 (o_mov (.tmp 12)) .nil)))))
  .ret)))
def X219 : FnS := .code ⟨13, 0, .skip, [.tmp 4]⟩ S219
theorem x219 : okX Go.Proofs.Tryz.prog 219 X219 := okX_of (by kernel_rfl)
def S221 : SCode := (.seq (.ops (.vd 3 (o_box (.tmp 0)) (.vd 6 (o_mov (.const (.int .i64 0))) .nil)))
  (.seq (.block 0 (.seq (.ops (.vd 8 (o_load false 1 (.tmp 3)) (.cd 9 (fun F => c_call F 265 [(.tmp 8)]) (.vd 10 (o_not (.tmp 9)) (.vd 7 (o_mov (.tmp 10)) .nil)))))
   (.cond (.tmp 7)
    (.seq (.ops (.vd 6 (o_mov (.const (.int .i64 5))) .nil))
    .ret)
    (.seq (.ops (.vd 12 (o_load false 1 (.tmp 3)) (.vd 13 (o_mov (.tmp 1)) (.cd 14 (fun F => c_call F 228 [(.tmp 12), (.tmp 13)]) (.vd 15 (o_not (.tmp 14)) (.vd 16 (o_mov (.tmp 15)) (.vg 17 16 false (o_mov (.tmp 2)) (.vg 18 16 false (o_mkfunc 266 [(.tmp 3)]) (.c (some 19) (some (16, false)) (fun F => c_call F 194 [(.tmp 17), (.tmp 18)]) (.vd 20 (o_pick (.tmp 16) (.const (.bool true)) (.tmp 19)) (.vd 11 (o_mov (.tmp 20)) .nil)))))))))))
    (.cond (.tmp 11)
     (.seq (.ops (.vd 6 (o_mov (.const (.int .i64 1))) .nil))
     .ret)
     .skip)))))
  (.seq (.ops (.vd 6 (o_mov (.const (.int .i64 0))) .nil))
  .ret)))
def X221 : FnS := .code ⟨21, 0, .skip, [.tmp 6]⟩ S221
theorem x221 : okX Go.Proofs.Tryz.prog 221 X221 := okX_of (by kernel_rfl)
def S222 : SCode := (.seq (.ops (.vd 8 (o_mov (.tmp 1)) (.vd 9 (o_mov (.tmp 0)) (.vd 10 (o_nilCheck (.tmp 9)) (.vd 11 (o_field 1 (.tmp 10)) (.vd 12 (o_load false 1 (.tmp 11)) (.vd 13 (o_bin .mul (.tmp 8) (.tmp 12)) (.vd 6 (o_mov (.tmp 13)) .nil))))))))
  (.seq (.ops (.vd 14 (o_mov (.tmp 0)) (.vd 15 (o_nilCheck (.tmp 14)) (.vd 16 (o_field 2 (.tmp 15)) (.vd 17 (o_load false 1 (.tmp 16)) (.vd 18 (o_mov (.tmp 6)) (.vd 19 (o_bin .quo (.tmp 18) (.const (.int .i64 64))) (.vd 20 (o_index 1 (.tmp 17) (.tmp 19)) (.vd 7 (o_mov (.tmp 20)) .nil)))))))))
  (.dregion [⟨⟨some 25, none, .mov (.tmp 0)⟩, 4, 0, 0⟩, ⟨⟨some 26, none, .call 268 [(.tmp 25)]⟩, 5, 3, 0⟩, ⟨⟨some 21, none, .mov (.tmp 7)⟩, 0, 0, 0⟩, ⟨⟨some 22, none, .mov (.tmp 7)⟩, 1, 0, 0⟩, ⟨⟨some 23, none, .nilCheck (.tmp 22)⟩, 2, 0, 0⟩, ⟨⟨some 24, none, .load false 1 (.tmp 23)⟩, 3, 1, 0⟩, ⟨⟨some 27, none, .conv .u64 (.tmp 26)⟩, 6, 0, 1⟩, ⟨⟨some 28, none, .mov (.tmp 6)⟩, 7, 0, 0⟩, ⟨⟨some 29, none, .bin .rem (.tmp 28) (.const (.int .i64 64))⟩, 8, 0, 0⟩, ⟨⟨some 30, none, .shift .shl (.tmp 27) (.tmp 29)⟩, 9, 0, 1⟩, ⟨⟨some 31, none, .bin .andNot (.tmp 24) (.tmp 30)⟩, 10, 0, 1⟩, ⟨⟨some 32, none, .mov (.tmp 2)⟩, 11, 0, 0⟩, ⟨⟨some 33, none, .conv .u64 (.tmp 32)⟩, 12, 0, 0⟩, ⟨⟨some 34, none, .mov (.tmp 6)⟩, 13, 0, 0⟩, ⟨⟨some 35, none, .bin .rem (.tmp 34) (.const (.int .i64 64))⟩, 14, 0, 0⟩, ⟨⟨some 36, none, .shift .shl (.tmp 33) (.tmp 35)⟩, 15, 0, 0⟩, ⟨⟨some 37, none, .bin .or (.tmp 31) (.tmp 36)⟩, 16, 0, 1⟩, ⟨⟨some 38, none, .nilCheck (.tmp 21)⟩, 17, 0, 1⟩, ⟨⟨none, none, .store 1 (.tmp 38) (.tmp 37)⟩, 18, 3, 1⟩])))
def X222 : FnS := .code ⟨39, 0, .skip, []⟩ S222
theorem x222 : okX Go.Proofs.Tryz.prog 222 X222 := okX_of (by kernel_rfl)
def S223_1 : SCode := .seq (.ops (.vd 23 (o_bin .lss (.tmp 22) (.tmp 21)) .nil))
    (.seq (.cond (.tmp 23)
     .skip
     (.exit 0))
    (.seq (.block 1 (.seq (.ops (.vd 24 (o_mov (.tmp 22)) (.vd 8 (o_mov (.tmp 24)) .nil)))
     (.seq (.ops (.vd 26 (o_mov (.tmp 0)) (.vd 27 (o_mov (.tmp 1)) (.vd 28 (o_mov (.tmp 8)) (.cd 29 (fun F => c_call F 76 [(.tmp 26), (.tmp 27), (.tmp 28)]) (.vd 25 (o_mov (.tmp 29)) (.vd 30 (o_extract (.tmp 25) 0) (.vd 31 (o_extract (.tmp 25) 1) (.vd 9 (o_mov (.tmp 30)) (.vd 10 (o_mov (.tmp 31)) .nil))))))))))
     (.ops (.vd 32 (o_mov (.tmp 7)) (.vd 33 (o_mov (.tmp 9)) (.vd 34 (o_buildSlice 1 [.int .i64 0] 1 [(0, 1, (.tmp 33))]) (.vd 35 (o_append 1 (.tmp 32) (.tmp 34)) (.vd 7 (o_mov (.tmp 35)) .nil)))))))))
    (.ops (.vd 36 (o_bin .add (.tmp 22) (.const (.int .i64 1))) (.vd 22 (o_mov (.tmp 36)) .nil)))))
def S223 : SCode := (.seq (.ops (.vd 4 (o_mov (.const (.nilSlice))) .nil))
  (.seq (.ops (.vd 12 (o_mov (.tmp 0)) (.vd 13 (o_mov (.tmp 1)) (.cd 14 (fun F => c_call F 75 [(.tmp 12), (.tmp 13)]) (.vd 11 (o_mov (.tmp 14)) (.vd 15 (o_extract (.tmp 11) 0) (.vd 16 (o_extract (.tmp 11) 1) (.vd 5 (o_new [.int .i64 0, .int .i64 0, .int .i64 0]) (.v none none (o_store 3 (.tmp 5) (.tmp 15)) (.vd 6 (o_mov (.tmp 16)) .nil))))))))))
  (.seq (.ops (.vd 17 (o_field 0 (.tmp 5)) (.vd 18 (o_load false 1 (.tmp 17)) (.vd 19 (o_makeSlice 1 [.int .i64 0] (.const (.int .i64 0)) (.tmp 18)) (.vd 7 (o_mov (.tmp 19)) .nil)))))
  (.seq (.seq (.ops (.vd 20 (o_field 0 (.tmp 5)) (.vd 21 (o_load false 1 (.tmp 20)) (.vd 22 (o_mov (.const (.int .i64 0))) .nil))))
  (.block 0 (.loop S223_1)))
  (.seq (.ops (.vd 37 (o_mov (.tmp 7)) (.vd 4 (o_mov (.tmp 37)) .nil)))
  .ret)))))
def X223 : FnS := .code ⟨38, 0, .skip, [.tmp 4]⟩ S223
theorem x223 : okX Go.Proofs.Tryz.prog 223 X223 := okX_of (by kernel_rfl)
def S224_1 : SCode := .seq (.ops (.vd 29 (o_bin .lss (.tmp 28) (.tmp 27)) .nil))
       (.seq (.cond (.tmp 29)
        .skip
        (.exit 2))
       (.seq (.block 3 (.seq (.ops (.vd 30 (o_mov (.tmp 28)) (.vd 5 (o_mov (.tmp 30)) .nil)))
        (.seq (.ops (.vd 31 (o_mov (.tmp 3)) (.vd 32 (o_mov (.tmp 5)) (.vd 33 (o_build [.int .i64 0, .int .i64 0, .int .i64 0] [(0, 1, (.tmp 31)), (2, 1, (.tmp 32))]) (.vd 6 (o_new [.int .i64 0, .int .i64 0, .int .i64 0]) (.v none none (o_store 3 (.tmp 6) (.tmp 33)) .nil))))))
        (.seq (.seq (.ops (.vd 34 (o_mov (.tmp 3)) (.vd 35 (o_bin .eql (.tmp 34) (.const (.int .i64 0))) .nil)))
        (.cond (.tmp 35)
         (.ops (.vd 36 (o_mov (.tmp 5)) (.vd 37 (o_bin .quo (.tmp 36) (.const (.int .i64 16))) (.vd 38 (o_mov (.tmp 5)) (.vd 39 (o_bin .rem (.tmp 38) (.const (.int .i64 16))) (.vd 40 (o_field 1 (.tmp 6)) (.v none none (o_store 1 (.tmp 40) (.tmp 37)) (.vd 41 (o_field 2 (.tmp 6)) (.v none none (o_store 1 (.tmp 41) (.tmp 39)) .nil)))))))))
         .skip))
        (.seq (.dregion [⟨⟨some 42, none, .mov (.tmp 4)⟩, 0, 0, 0⟩, ⟨⟨some 43, none, .mov (.tmp 5)⟩, 1, 0, 0⟩, ⟨⟨some 44, none, .index 1 (.tmp 42) (.tmp 43)⟩, 2, 0, 0⟩, ⟨⟨some 45, none, .load false 1 (.tmp 44)⟩, 3, 1, 0⟩, ⟨⟨some 46, none, .bin .neq (.tmp 45) (.const (.int .i64 0))⟩, 4, 0, 0⟩, ⟨⟨some 47, none, .mov (.tmp 46)⟩, 5, 0, 0⟩, ⟨⟨some 48, some (47, true), .mov (.tmp 0)⟩, 6, 0, 0⟩, ⟨⟨some 49, some (47, true), .load true 3 (.tmp 6)⟩, 7, 1, 0⟩, ⟨⟨some 50, some (47, true), .mov (.tmp 4)⟩, 8, 0, 0⟩, ⟨⟨some 51, some (47, true), .mov (.tmp 5)⟩, 9, 0, 0⟩, ⟨⟨some 52, some (47, true), .index 1 (.tmp 50) (.tmp 51)⟩, 10, 0, 0⟩, ⟨⟨some 53, some (47, true), .callm (.tmp 48) [(.tmp 49), (.tmp 52)] [(304, "dustcart/alloc.place", 335), (305, "dustcart/alloc.place", 340), (306, "dustcart/alloc.place", 348), (307, "dustcart/alloc.place", 349), (308, "dustcart/alloc.place", 353)]⟩, 11, 3, 0⟩, ⟨⟨some 54, some (47, true), .not (.tmp 53)⟩, 12, 0, 1⟩, ⟨⟨some 55, none, .pick (.tmp 47) (.tmp 54) (.const (.bool false))⟩, 13, 0, 1⟩])
        (.cond (.tmp 55)
         .ret
         .skip))))))
       (.ops (.vd 56 (o_bin .add (.tmp 28) (.const (.int .i64 1))) (.vd 28 (o_mov (.tmp 56)) .nil)))))
def S224_2 : SCode := .seq (.ops (.vd 22 (o_bin .lss (.tmp 21) (.tmp 20)) .nil))
    (.seq (.cond (.tmp 22)
     .skip
     (.exit 0))
    (.seq (.block 1 (.seq (.ops (.vd 23 (o_mov (.tmp 21)) (.vd 24 (o_index 1 (.tmp 19) (.tmp 21)) (.vd 25 (o_load false 1 (.tmp 24)) (.vd 3 (o_mov (.tmp 23)) (.vd 4 (o_mov (.tmp 25)) .nil))))))
     (.seq (.ops (.vd 26 (o_mov (.tmp 4)) (.vd 27 (o_len (.tmp 26)) (.vd 28 (o_mov (.const (.int .i64 0))) .nil))))
     (.block 2 (.loop S224_1)))))
    (.ops (.vd 57 (o_bin .add (.tmp 21) (.const (.int .i64 1))) (.vd 21 (o_mov (.tmp 57)) .nil)))))
def S224 : SCode := (.seq (.dregion [⟨⟨some 7, none, .load false 1 (.tmp 1)⟩, 0, 1, 0⟩, ⟨⟨some 8, none, .nilCheck (.tmp 7)⟩, 1, 0, 0⟩, ⟨⟨some 9, none, .field 1 (.tmp 8)⟩, 2, 0, 0⟩, ⟨⟨some 10, none, .load false 1 (.tmp 9)⟩, 3, 1, 0⟩, ⟨⟨some 11, none, .load false 1 (.tmp 1)⟩, 4, 1, 0⟩, ⟨⟨some 12, none, .nilCheck (.tmp 11)⟩, 5, 0, 0⟩, ⟨⟨some 13, none, .field 2 (.tmp 12)⟩, 6, 0, 0⟩, ⟨⟨some 14, none, .load false 1 (.tmp 13)⟩, 7, 1, 0⟩, ⟨⟨some 15, none, .load false 1 (.tmp 1)⟩, 8, 1, 0⟩, ⟨⟨some 16, none, .nilCheck (.tmp 15)⟩, 9, 0, 0⟩, ⟨⟨some 17, none, .field 3 (.tmp 16)⟩, 10, 0, 0⟩, ⟨⟨some 18, none, .load false 1 (.tmp 17)⟩, 11, 1, 0⟩, ⟨⟨some 19, none, .buildSlice 1 [.nilSlice, .nilSlice, .nilSlice] 3 [(0, 1, (.tmp 10)), (1, 1, (.tmp 14)), (2, 1, (.tmp 18))]⟩, 12, 0, 0⟩, ⟨⟨some 20, none, .len (.tmp 19)⟩, 13, 0, 0⟩, ⟨⟨some 21, none, .mov (.const (.int .i64 0))⟩, 14, 0, 0⟩])
  (.block 0 (.loop S224_2)))
def X224 : FnS := .code ⟨58, 0, .skip, []⟩ S224
theorem x224 : okX Go.Proofs.Tryz.prog 224 X224 := okX_of (by kernel_rfl)
def S228 : SCode := (.seq (.ops (.vd 4 (o_mov (.const (.bool false))) .nil))
  (.seq (.ops (.vd 5 (o_mov (.tmp 0)) (.cd 6 (fun F => c_call F 265 [(.tmp 5)]) (.vd 7 (o_mov (.tmp 6)) (.vg 8 7 true (o_mov (.tmp 1)) (.vg 9 7 true (o_bin .geq (.tmp 8) (.const (.int .i64 0))) (.vd 10 (o_pick (.tmp 7) (.tmp 9) (.const (.bool false))) (.vd 11 (o_mov (.tmp 10)) (.vg 12 11 true (o_mov (.tmp 1)) (.vg 13 11 true (o_mov (.tmp 0)) (.vg 14 11 true (o_nilCheck (.tmp 13)) (.vg 15 11 true (o_field 0 (.tmp 14)) (.vg 16 11 true (o_load false 1 (.tmp 15)) (.vg 17 11 true (o_bin .lss (.tmp 12) (.tmp 16)) (.vd 18 (o_pick (.tmp 11) (.tmp 17) (.const (.bool false))) (.vd 4 (o_mov (.tmp 18)) .nil))))))))))))))))
  .ret))
def X228 : FnS := .code ⟨19, 0, .skip, [.tmp 4]⟩ S228
theorem x228 : okX Go.Proofs.Tryz.prog 228 X228 := okX_of (by kernel_rfl)
def S229 : SCode := (.seq (.ops (.vd 4 (o_mov (.const (.int .i64 0))) .nil))
  (.seq (.ops (.vd 6 (o_mov (.tmp 1)) (.vd 7 (o_mov (.tmp 0)) (.vd 8 (o_nilCheck (.tmp 7)) (.vd 9 (o_field 1 (.tmp 8)) (.vd 10 (o_load false 1 (.tmp 9)) (.vd 11 (o_bin .mul (.tmp 6) (.tmp 10)) (.vd 5 (o_mov (.tmp 11)) .nil))))))))
  (.seq (.dregion [⟨⟨some 24, none, .mov (.tmp 0)⟩, 12, 0, 0⟩, ⟨⟨some 25, none, .call 268 [(.tmp 24)]⟩, 13, 3, 0⟩, ⟨⟨some 12, none, .mov (.tmp 0)⟩, 0, 0, 0⟩, ⟨⟨some 13, none, .nilCheck (.tmp 12)⟩, 1, 0, 0⟩, ⟨⟨some 14, none, .field 2 (.tmp 13)⟩, 2, 0, 0⟩, ⟨⟨some 15, none, .load false 1 (.tmp 14)⟩, 3, 1, 0⟩, ⟨⟨some 16, none, .mov (.tmp 5)⟩, 4, 0, 0⟩, ⟨⟨some 17, none, .bin .quo (.tmp 16) (.const (.int .i64 64))⟩, 5, 0, 0⟩, ⟨⟨some 18, none, .index 1 (.tmp 15) (.tmp 17)⟩, 6, 0, 0⟩, ⟨⟨some 19, none, .load false 1 (.tmp 18)⟩, 7, 1, 0⟩, ⟨⟨some 20, none, .mov (.tmp 5)⟩, 8, 0, 0⟩, ⟨⟨some 21, none, .bin .rem (.tmp 20) (.const (.int .i64 64))⟩, 9, 0, 0⟩, ⟨⟨some 22, none, .shift .shr (.tmp 19) (.tmp 21)⟩, 10, 0, 0⟩, ⟨⟨some 23, none, .conv .i64 (.tmp 22)⟩, 11, 0, 0⟩, ⟨⟨some 26, none, .bin .and (.tmp 23) (.tmp 25)⟩, 14, 0, 1⟩, ⟨⟨some 4, none, .mov (.tmp 26)⟩, 15, 0, 1⟩])
  .ret)))
def X229 : FnS := .code ⟨27, 0, .skip, [.tmp 4]⟩ S229
theorem x229 : okX Go.Proofs.Tryz.prog 229 X229 := okX_of (by kernel_rfl)
def S230 : SCode := (.seq (.ops (.vd 2 (o_mov (.const (.bool false))) .nil))
  (.seq (.ops (.vd 3 (o_mov (.tmp 0)) (.vd 4 (o_mov (.tmp 0)) (.vd 5 (o_bin .neq (.tmp 3) (.tmp 4)) (.vd 2 (o_mov (.tmp 5)) .nil)))))
  .ret))
def X230 : FnS := .code ⟨6, 0, .skip, [.tmp 2]⟩ S230
theorem x230 : okX Go.Proofs.Tryz.prog 230 X230 := okX_of (by kernel_rfl)
def S231 : SCode := (.seq (.ops (.vd 0 (o_mov (.const (.nilSlice))) .nil))
  (.seq (.ops (.vd 1 (o_build [] []) (.vd 2 (o_mkif 304 (.tmp 1)) (.vd 3 (o_build [] []) (.vd 4 (o_mkif 305 (.tmp 3)) (.vd 5 (o_build [] []) (.vd 6 (o_mkif 306 (.tmp 5)) (.vd 7 (o_build [] []) (.vd 8 (o_mkif 307 (.tmp 7)) (.vd 9 (o_build [] []) (.vd 10 (o_mkif 308 (.tmp 9)) (.vd 11 (o_buildSlice 1 [.nilIface, .nilIface, .nilIface, .nilIface, .nilIface] 5 [(0, 1, (.tmp 2)), (1, 1, (.tmp 4)), (2, 1, (.tmp 6)), (3, 1, (.tmp 8)), (4, 1, (.tmp 10))]) (.vd 0 (o_mov (.tmp 11)) .nil)))))))))))))
  .ret))
def X231 : FnS := .code ⟨12, 0, .skip, [.tmp 0]⟩ S231
theorem x231 : okX Go.Proofs.Tryz.prog 231 X231 := okX_of (by kernel_rfl)
def S232 : SCode := (.seq (.ops (.vd 2 (o_mov (.const (.bool false))) .nil))
  (.seq (.ops (.vd 3 (o_mov (.tmp 0)) (.vd 4 (o_eqv true 1 (.tmp 3) (.const (.nilPtr))) (.vd 5 (o_mov (.tmp 4)) (.vg 6 5 true (o_mov (.tmp 0)) (.vg 7 5 true (o_nilCheck (.tmp 6)) (.vg 8 5 true (o_field 0 (.tmp 7)) (.vg 9 5 true (o_load false 1 (.tmp 8)) (.vg 10 5 true (o_eqv true 1 (.tmp 9) (.const (.nilPtr))) (.vd 11 (o_pick (.tmp 5) (.tmp 10) (.const (.bool false))) (.vd 2 (o_mov (.tmp 11)) .nil)))))))))))
  .ret))
def X232 : FnS := .code ⟨12, 0, .skip, [.tmp 2]⟩ S232
theorem x232 : okX Go.Proofs.Tryz.prog 232 X232 := okX_of (by kernel_rfl)
def S239_1 : SCode := .seq (.ops (.vd 55 (o_bin .lss (.tmp 54) (.tmp 53)) .nil))
    (.seq (.cond (.tmp 55)
     .skip
     (.exit 1))
    (.seq (.block 2 (.seq (.ops (.vd 56 (o_mov (.tmp 54)) (.vd 11 (o_mov (.tmp 56)) .nil)))
     (.dregion [⟨⟨some 57, none, .mov (.tmp 0)⟩, 0, 0, 0⟩, ⟨⟨some 58, none, .nilCheck (.tmp 57)⟩, 1, 0, 0⟩, ⟨⟨some 59, none, .field 0 (.tmp 58)⟩, 2, 0, 0⟩, ⟨⟨some 60, none, .load false 1 (.tmp 59)⟩, 3, 1, 0⟩, ⟨⟨some 61, none, .mov (.tmp 1)⟩, 4, 0, 0⟩, ⟨⟨some 62, none, .mov (.tmp 11)⟩, 5, 0, 0⟩, ⟨⟨some 63, none, .bin .add (.tmp 61) (.tmp 62)⟩, 6, 0, 0⟩, ⟨⟨some 64, none, .load true 2 (.tmp 9)⟩, 7, 1, 0⟩, ⟨⟨some 65, none, .index 2 (.tmp 60) (.tmp 63)⟩, 8, 0, 0⟩, ⟨⟨none, none, .store 2 (.tmp 65) (.tmp 64)⟩, 9, 3, 0⟩])))
    (.ops (.vd 66 (o_bin .add (.tmp 54) (.const (.int .i64 1))) (.vd 54 (o_mov (.tmp 66)) .nil)))))
def S239 : SCode := (.seq (.ops (.vd 8 (o_box (.tmp 3)) (.vd 9 (o_box (.tmp 4)) (.vd 10 (o_mov (.const (.int .i64 0))) .nil))))
  (.seq (.block 0 (.seq (.ops (.vd 13 (o_mov (.tmp 0)) (.cd 14 (fun F => c_call F 95 [(.tmp 13)]) (.vd 15 (o_not (.tmp 14)) (.vd 12 (o_mov (.tmp 15)) .nil)))))
   (.cond (.tmp 12)
    (.seq (.ops (.vd 10 (o_mov (.const (.int .i64 5))) .nil))
    .ret)
    (.seq (.ops (.vd 17 (o_mov (.tmp 0)) (.vd 18 (o_mov (.tmp 1)) (.cd 19 (fun F => c_call F 285 [(.tmp 17), (.tmp 18)]) (.vd 20 (o_not (.tmp 19)) (.vd 21 (o_mov (.tmp 20)) (.vg 22 21 false (o_mov (.tmp 2)) (.vg 23 21 false (o_bin .lss (.tmp 22) (.const (.int .i64 1))) (.vd 24 (o_pick (.tmp 21) (.const (.bool true)) (.tmp 23)) (.vd 25 (o_mov (.tmp 24)) (.vg 26 25 false (o_mov (.tmp 2)) (.vg 27 25 false (o_mov (.tmp 0)) (.vg 28 25 false (o_nilCheck (.tmp 27)) (.vg 29 25 false (o_field 0 (.tmp 28)) (.vg 30 25 false (o_load false 1 (.tmp 29)) (.vg 31 25 false (o_len (.tmp 30)) (.vg 32 25 false (o_mov (.tmp 1)) (.vg 33 25 false (o_bin .sub (.tmp 31) (.tmp 32)) (.vg 34 25 false (o_bin .gtr (.tmp 26) (.tmp 33)) (.vd 35 (o_pick (.tmp 25) (.const (.bool true)) (.tmp 34)) (.vd 36 (o_mov (.tmp 35)) (.vg 37 36 false (o_field 1 (.tmp 8)) (.vg 38 36 false (o_load false 1 (.tmp 37)) (.c (some 39) (some (36, false)) (fun F => c_call F 286 [(.tmp 38)]) (.vg 40 36 false (o_not (.tmp 39)) (.vd 41 (o_pick (.tmp 36) (.const (.bool true)) (.tmp 40)) (.vd 16 (o_mov (.tmp 41)) .nil)))))))))))))))))))))))))))
    (.cond (.tmp 16)
     (.seq (.ops (.vd 10 (o_mov (.const (.int .i64 1))) .nil))
     .ret)
     (.seq (.ops (.vd 43 (o_mov (.tmp 0)) (.vd 44 (o_nilCheck (.tmp 43)) (.vd 45 (o_field 0 (.tmp 44)) (.vd 46 (o_load false 1 (.tmp 45)) (.vd 47 (o_mov (.tmp 1)) (.vd 48 (o_mov (.tmp 1)) (.vd 49 (o_mov (.tmp 2)) (.vd 50 (o_bin .add (.tmp 48) (.tmp 49)) (.vd 51 (o_slice 2 (.tmp 46) (some (.tmp 47)) (some (.tmp 50)) none) (.cd 52 (fun F => c_call F 287 [(.tmp 51), (.const (.func 288 []))]) (.vd 42 (o_mov (.tmp 52)) .nil))))))))))))
     (.cond (.tmp 42)
      (.seq (.ops (.vd 10 (o_mov (.const (.int .i64 8))) .nil))
      .ret)
      .skip)))))))
  (.seq (.seq (.ops (.vd 53 (o_mov (.tmp 2)) (.vd 54 (o_mov (.const (.int .i64 0))) .nil)))
  (.block 1 (.loop S239_1)))
  (.seq (.dregion [⟨⟨some 67, none, .mov (.tmp 0)⟩, 0, 0, 0⟩, ⟨⟨some 68, none, .nilCheck (.tmp 67)⟩, 1, 0, 0⟩, ⟨⟨some 69, none, .field 0 (.tmp 68)⟩, 2, 0, 0⟩, ⟨⟨some 70, none, .load false 1 (.tmp 69)⟩, 3, 1, 0⟩, ⟨⟨some 71, none, .mov (.tmp 1)⟩, 4, 0, 0⟩, ⟨⟨some 72, none, .load true 2 (.tmp 8)⟩, 5, 1, 0⟩, ⟨⟨some 73, none, .index 2 (.tmp 70) (.tmp 71)⟩, 6, 0, 0⟩, ⟨⟨none, none, .store 2 (.tmp 73) (.tmp 72)⟩, 7, 3, 0⟩])
  (.seq (.ops (.vd 10 (o_mov (.const (.int .i64 0))) .nil))
  .ret)))))
def X239 : FnS := .code ⟨74, 0, .skip, [.tmp 10]⟩ S239
theorem x239 : okX Go.Proofs.Tryz.prog 239 X239 := okX_of (by kernel_rfl)
def S247_1 : SCode := .seq (.seq (.ops (.vd 14 (o_mov (.tmp 8)) (.vd 15 (o_mov (.tmp 0)) (.vd 16 (o_nilCheck (.tmp 15)) (.vd 17 (o_field 0 (.tmp 16)) (.vd 18 (o_load false 1 (.tmp 17)) (.vd 19 (o_bin .lss (.tmp 14) (.tmp 18)) .nil)))))))
    (.cond (.tmp 19)
     .skip
     (.exit 0)))
    (.seq (.block 1 (.seq (.ops (.vd 22 (o_mov (.tmp 0)) (.vd 23 (o_mov (.tmp 8)) (.cd 24 (fun F => c_call F 229 [(.tmp 22), (.tmp 23)]) (.vd 25 (o_mov (.tmp 2)) (.vd 26 (o_bin .eql (.tmp 24) (.tmp 25)) .nil))))))
     (.cond (.tmp 26)
      (.seq (.ops (.vd 27 (o_mov (.tmp 8)) (.vd 6 (o_mov (.tmp 27)) (.vd 7 (o_mov (.const (.int .i64 0))) .nil))))
      .ret)
      .skip)))
    (.ops (.vd 20 (o_mov (.tmp 8)) (.vd 21 (o_bin .add (.tmp 20) (.const (.int .i64 1))) (.vd 8 (o_mov (.tmp 21)) .nil)))))
def S247 : SCode := (.seq (.ops (.vd 6 (o_mov (.const (.int .i64 0))) (.vd 7 (o_mov (.const (.int .i64 0))) .nil)))
  (.seq (.seq (.ops (.vd 9 (o_mov (.tmp 0)) (.cd 10 (fun F => c_call F 265 [(.tmp 9)]) (.vd 11 (o_not (.tmp 10)) .nil))))
  (.cond (.tmp 11)
   (.seq (.ops (.vd 6 (o_mov (.const (.int .i64 0))) (.vd 7 (o_mov (.const (.int .i64 5))) .nil)))
   .ret)
   .skip))
  (.seq (.seq (.ops (.vd 12 (o_mov (.tmp 1)) (.vd 13 (o_mm true [(.tmp 12), (.const (.int .i64 0))]) (.vd 8 (o_mov (.tmp 13)) .nil))))
  (.block 0 (.loop S247_1)))
  (.seq (.ops (.vd 6 (o_mov (.const (.int .i64 0))) (.vd 7 (o_mov (.const (.int .i64 4))) .nil)))
  .ret))))
def X247 : FnS := .code ⟨28, 0, .skip, [.tmp 6, .tmp 7]⟩ S247
theorem x247 : okX Go.Proofs.Tryz.prog 247 X247 := okX_of (by kernel_rfl)
def S255_1 : SCode := .seq (.ops (.vd 9 (o_bin .lss (.tmp 8) (.tmp 7)) .nil))
    (.seq (.cond (.tmp 9)
     .skip
     (.exit 0))
    (.seq (.block 1 (.seq (.ops (.vd 10 (o_mov (.tmp 8)) (.vd 5 (o_mov (.tmp 10)) .nil)))
     (.seq (.ops (.vd 11 (o_mov (.tmp 1)) (.vd 12 (o_mov (.tmp 0)) (.vd 13 (o_mov (.tmp 5)) (.vd 14 (o_index 1 (.tmp 12) (.tmp 13)) (.vd 15 (o_load false 1 (.tmp 14)) (.cd 16 (fun F => c_callm F (.tmp 11) [(.tmp 15)] [(304, "dustcart/alloc.place", 335), (305, "dustcart/alloc.place", 340), (306, "dustcart/alloc.place", 348), (307, "dustcart/alloc.place", 349), (308, "dustcart/alloc.place", 353)]) .nil)))))))
     (.cond (.tmp 16)
      (.seq (.ops (.vd 17 (o_mov (.tmp 5)) (.vd 4 (o_mov (.tmp 17)) .nil)))
      .ret)
      .skip))))
    (.ops (.vd 18 (o_bin .add (.tmp 8) (.const (.int .i64 1))) (.vd 8 (o_mov (.tmp 18)) .nil)))))
def S255 : SCode := (.seq (.ops (.vd 4 (o_mov (.const (.int .i64 0))) .nil))
  (.seq (.seq (.ops (.vd 6 (o_mov (.tmp 0)) (.vd 7 (o_len (.tmp 6)) (.vd 8 (o_mov (.const (.int .i64 0))) .nil))))
  (.block 0 (.loop S255_1)))
  (.seq (.ops (.vd 4 (o_mov (.const (.int .i64 (-1)))) .nil))
  .ret)))
def X255 : FnS := .code ⟨19, 0, .skip, [.tmp 4]⟩ S255
theorem x255 : okX Go.Proofs.Tryz.prog 255 X255 := okX_of (by kernel_rfl)
def S261_1 : SCode := .seq (.seq (.ops (.vd 20 (o_mov (.tmp 8)) (.vd 21 (o_bin .geq (.tmp 20) (.const (.int .i64 0))) .nil)))
    (.cond (.tmp 21)
     .skip
     (.exit 0)))
    (.seq (.block 1 (.seq (.ops (.vd 24 (o_mov (.tmp 0)) (.vd 25 (o_mov (.tmp 8)) (.cd 26 (fun F => c_call F 229 [(.tmp 24), (.tmp 25)]) (.vd 27 (o_mov (.tmp 2)) (.vd 28 (o_bin .eql (.tmp 26) (.tmp 27)) .nil))))))
     (.cond (.tmp 28)
      (.seq (.ops (.vd 29 (o_mov (.tmp 8)) (.vd 6 (o_mov (.tmp 29)) (.vd 7 (o_mov (.const (.int .i64 0))) .nil))))
      .ret)
      .skip)))
    (.ops (.vd 22 (o_mov (.tmp 8)) (.vd 23 (o_bin .sub (.tmp 22) (.const (.int .i64 1))) (.vd 8 (o_mov (.tmp 23)) .nil)))))
def S261 : SCode := (.seq (.ops (.vd 6 (o_mov (.const (.int .i64 0))) (.vd 7 (o_mov (.const (.int .i64 0))) .nil)))
  (.seq (.seq (.ops (.vd 9 (o_mov (.tmp 0)) (.cd 10 (fun F => c_call F 265 [(.tmp 9)]) (.vd 11 (o_not (.tmp 10)) .nil))))
  (.cond (.tmp 11)
   (.seq (.ops (.vd 6 (o_mov (.const (.int .i64 0))) (.vd 7 (o_mov (.const (.int .i64 5))) .nil)))
   .ret)
   .skip))
  (.seq (.seq (.ops (.vd 12 (o_mov (.tmp 1)) (.vd 13 (o_mm true [(.tmp 12), (.const (.int .i64 0))]) (.vd 14 (o_mov (.tmp 0)) (.vd 15 (o_nilCheck (.tmp 14)) (.vd 16 (o_field 0 (.tmp 15)) (.vd 17 (o_load false 1 (.tmp 16)) (.vd 18 (o_mm false [(.tmp 13), (.tmp 17)]) (.vd 19 (o_bin .sub (.tmp 18) (.const (.int .i64 1))) (.vd 8 (o_mov (.tmp 19)) .nil))))))))))
  (.block 0 (.loop S261_1)))
  (.seq (.ops (.vd 6 (o_mov (.const (.int .i64 0))) (.vd 7 (o_mov (.const (.int .i64 4))) .nil)))
  .ret))))
def X261 : FnS := .code ⟨30, 0, .skip, [.tmp 6, .tmp 7]⟩ S261
theorem x261 : okX Go.Proofs.Tryz.prog 261 X261 := okX_of (by kernel_rfl)
def S264 : SCode := (.seq (.ops (.vd 3 (o_mov (.const (.nilPtr))) .nil))
  (.seq (.seq (.ops (.vd 4 (o_field 2 (.tmp 1)) (.vd 5 (o_load false 1 (.tmp 4)) (.vd 6 (o_bin .lss (.tmp 5) (.const (.int .i64 0))) (.vd 7 (o_mov (.tmp 6)) (.vg 8 7 false (o_field 2 (.tmp 1)) (.vg 9 7 false (o_load false 1 (.tmp 8)) (.vg 10 7 false (o_mov (.tmp 0)) (.vg 11 7 false (o_len (.tmp 10)) (.vg 12 7 false (o_bin .geq (.tmp 9) (.tmp 11)) (.vd 13 (o_pick (.tmp 7) (.const (.bool true)) (.tmp 12)) .nil)))))))))))
  (.cond (.tmp 13)
   (.seq (.ops (.vd 3 (o_mov (.const (.nilPtr))) .nil))
   .ret)
   .skip))
  (.seq (.ops (.vd 14 (o_mov (.tmp 0)) (.vd 15 (o_field 2 (.tmp 1)) (.vd 16 (o_load false 1 (.tmp 15)) (.vd 17 (o_index 1 (.tmp 14) (.tmp 16)) (.vd 3 (o_mov (.tmp 17)) .nil))))))
  .ret)))
def X264 : FnS := .code ⟨18, 0, .skip, [.tmp 3]⟩ S264
theorem x264 : okX Go.Proofs.Tryz.prog 264 X264 := okX_of (by kernel_rfl)
def S265 : SCode := (.seq (.ops (.vd 2 (o_mov (.const (.bool false))) .nil))
  (.seq (.ops (.vd 3 (o_mov (.tmp 0)) (.vd 4 (o_eqv true 1 (.tmp 3) (.const (.nilPtr))) (.vd 5 (o_mov (.tmp 4)) (.vg 6 5 true (o_mov (.tmp 0)) (.vg 7 5 true (o_nilCheck (.tmp 6)) (.vg 8 5 true (o_field 0 (.tmp 7)) (.vg 9 5 true (o_load false 1 (.tmp 8)) (.vg 10 5 true (o_bin .gtr (.tmp 9) (.const (.int .i64 0))) (.vd 11 (o_pick (.tmp 5) (.tmp 10) (.const (.bool false))) (.vd 2 (o_mov (.tmp 11)) .nil)))))))))))
  .ret))
def X265 : FnS := .code ⟨12, 0, .skip, [.tmp 2]⟩ S265
theorem x265 : okX Go.Proofs.Tryz.prog 265 X265 := okX_of (by kernel_rfl)
def S266 : SCode := (.seq (.ops (.vd 3 (o_mov (.const (.bool false))) .nil))
  (.seq (.ops (.vd 4 (o_load false 1 (.tmp 1)) (.vd 5 (o_mov (.tmp 0)) (.cd 6 (fun F => c_call F 267 [(.tmp 4), (.tmp 5)]) (.vd 7 (o_not (.tmp 6)) (.vd 3 (o_mov (.tmp 7)) .nil))))))
  .ret))
def X266 : FnS := .code ⟨8, 0, .skip, [.tmp 3]⟩ S266
theorem x266 : okX Go.Proofs.Tryz.prog 266 X266 := okX_of (by kernel_rfl)
def S267 : SCode := (.seq (.ops (.vd 4 (o_mov (.const (.bool false))) .nil))
  (.seq (.ops (.vd 5 (o_mov (.tmp 1)) (.vd 6 (o_bin .geq (.tmp 5) (.const (.int .i64 0))) (.vd 7 (o_mov (.tmp 6)) (.vg 8 7 true (o_mov (.tmp 1)) (.vg 9 7 true (o_mov (.tmp 0)) (.c (some 10) (some (7, true)) (fun F => c_call F 268 [(.tmp 9)]) (.vg 11 7 true (o_bin .leq (.tmp 8) (.tmp 10)) (.vd 12 (o_pick (.tmp 7) (.tmp 11) (.const (.bool false))) (.vd 4 (o_mov (.tmp 12)) .nil))))))))))
  .ret))
def X267 : FnS := .code ⟨13, 0, .skip, [.tmp 4]⟩ S267
theorem x267 : okX Go.Proofs.Tryz.prog 267 X267 := okX_of (by kernel_rfl)
def S268 : SCode := (.seq (.ops (.vd 2 (o_mov (.const (.int .i64 0))) .nil))
  (.seq (.ops (.vd 3 (o_mov (.tmp 0)) (.vd 4 (o_nilCheck (.tmp 3)) (.vd 5 (o_field 1 (.tmp 4)) (.vd 6 (o_load false 1 (.tmp 5)) (.vd 7 (o_shift .shl (.const (.int .i64 1)) (.tmp 6)) (.vd 8 (o_bin .sub (.tmp 7) (.const (.int .i64 1))) (.vd 2 (o_mov (.tmp 8)) .nil))))))))
  .ret))
def X268 : FnS := .code ⟨9, 0, .skip, [.tmp 2]⟩ S268
theorem x268 : okX Go.Proofs.Tryz.prog 268 X268 := okX_of (by kernel_rfl)
def S285 : SCode := (.seq (.ops (.vd 4 (o_mov (.const (.bool false))) .nil))
  (.seq (.ops (.vd 5 (o_mov (.tmp 0)) (.cd 6 (fun F => c_call F 95 [(.tmp 5)]) (.vd 7 (o_mov (.tmp 6)) (.vg 8 7 true (o_mov (.tmp 1)) (.vg 9 7 true (o_bin .geq (.tmp 8) (.const (.int .i64 1))) (.vd 10 (o_pick (.tmp 7) (.tmp 9) (.const (.bool false))) (.vd 11 (o_mov (.tmp 10)) (.vg 12 11 true (o_mov (.tmp 1)) (.vg 13 11 true (o_mov (.tmp 0)) (.vg 14 11 true (o_nilCheck (.tmp 13)) (.vg 15 11 true (o_field 0 (.tmp 14)) (.vg 16 11 true (o_load false 1 (.tmp 15)) (.vg 17 11 true (o_len (.tmp 16)) (.vg 18 11 true (o_bin .lss (.tmp 12) (.tmp 17)) (.vd 19 (o_pick (.tmp 11) (.tmp 18) (.const (.bool false))) (.vd 4 (o_mov (.tmp 19)) .nil)))))))))))))))))
  .ret))
def X285 : FnS := .code ⟨20, 0, .skip, [.tmp 4]⟩ S285
theorem x285 : okX Go.Proofs.Tryz.prog 285 X285 := okX_of (by kernel_rfl)
def S286 : SCode := (.seq (.ops (.vd 2 (o_mov (.const (.bool false))) .nil))
  (.seq (.ops (.vd 3 (o_mov (.tmp 0)) (.vd 4 (o_bin .geq (.tmp 3) (.const (.int .i64 0))) (.vd 5 (o_mov (.tmp 4)) (.vg 6 5 true (o_mov (.tmp 0)) (.vg 7 5 true (o_bin .lss (.tmp 6) (.const (.int .i64 8))) (.vd 8 (o_pick (.tmp 5) (.tmp 7) (.const (.bool false))) (.vd 2 (o_mov (.tmp 8)) .nil))))))))
  .ret))
def X286 : FnS := .code ⟨9, 0, .skip, [.tmp 2]⟩ S286
theorem x286 : okX Go.Proofs.Tryz.prog 286 X286 := okX_of (by kernel_rfl)
def S287 : SCode := (.seq (.ops (.vd 4 (o_mov (.const (.bool false))) .nil))
  (.seq (.ops (.vd 5 (o_mov (.tmp 0)) (.vd 6 (o_mov (.tmp 1)) (.cd 7 (fun F => c_call F 309 [(.tmp 5), (.tmp 6)]) (.vd 8 (o_bin .geq (.tmp 7) (.const (.int .i64 0))) (.vd 4 (o_mov (.tmp 8)) .nil))))))
  .ret))
def X287 : FnS := .code ⟨9, 0, .skip, [.tmp 4]⟩ S287
theorem x287 : okX Go.Proofs.Tryz.prog 287 X287 := okX_of (by kernel_rfl)
def S288 : SCode := (.seq (.ops (.vd 1 (o_box (.tmp 0)) (.vd 2 (o_mov (.const (.bool false))) .nil)))
  (.seq (.ops (.vd 3 (o_load true 2 (.tmp 1)) (.vd 4 (o_build [.int .i64 0, .int .i64 0] []) (.vd 5 (o_eqs true 2 (.tmp 3) (.tmp 4)) (.vd 2 (o_mov (.tmp 5)) .nil)))))
  .ret))
def X288 : FnS := .code ⟨6, 0, .skip, [.tmp 2]⟩ S288
theorem x288 : okX Go.Proofs.Tryz.prog 288 X288 := okX_of (by kernel_rfl)
def S294_1 : SCode := .seq (.ops (.vd 22 (o_bin .lss (.tmp 21) (.tmp 20)) .nil))
    (.seq (.cond (.tmp 22)
     .skip
     (.exit 0))
    (.seq (.block 1 (.seq (.ops (.vd 23 (o_index 1 (.tmp 19) (.tmp 21)) (.vd 24 (o_load false 1 (.tmp 23)) (.vd 9 (o_mov (.tmp 24)) .nil))))
     (.seq (.ops (.vd 25 (o_mov (.tmp 7)) (.vd 26 (o_mov (.tmp 9)) (.cd 27 (fun F => c_callm F (.tmp 25) [(.tmp 26)] [(304, "dustcart/alloc.place", 335), (305, "dustcart/alloc.place", 340), (306, "dustcart/alloc.place", 348), (307, "dustcart/alloc.place", 349), (308, "dustcart/alloc.place", 353)]) .nil))))
     (.ops (.vd 28 (o_mov (.tmp 9)) (.vd 29 (o_mov (.tmp 0)) (.vd 30 (o_mov (.tmp 9)) (.cd 31 (fun F => c_call F 155 [(.tmp 29), (.tmp 30)]) (.vd 32 (o_bin .add (.tmp 28) (.tmp 31)) (.v none none (o_store 1 (.tmp 6) (.tmp 32)) .nil))))))))))
    (.ops (.vd 33 (o_bin .add (.tmp 21) (.const (.int .i64 1))) (.vd 21 (o_mov (.tmp 33)) .nil)))))
def S294 : SCode := (.seq (.ops (.vd 4 (o_mov (.const (.nilSlice))) .nil))
  (.seq (.seq (.ops (.vd 10 (o_mov (.tmp 0)) (.vd 11 (o_mov (.tmp 1)) (.cd 12 (fun F => c_call F 310 [(.tmp 10), (.tmp 11)]) (.vd 13 (o_not (.tmp 12)) .nil)))))
  (.cond (.tmp 13)
   (.seq (.ops (.vd 4 (o_mov (.const (.nilSlice))) .nil))
   .ret)
   .skip))
  (.seq (.ops (.vd 5 (o_new [.nilSlice]) .nil))
  (.seq (.ops (.vd 14 (o_mov (.tmp 1)) (.vd 15 (o_bin .mul (.tmp 14) (.const (.int .i64 64))) (.vd 6 (o_new [.int .i64 0]) (.v none none (o_store 1 (.tmp 6) (.tmp 15)) .nil)))))
  (.seq (.ops (.vd 16 (o_mkfunc 311 [(.tmp 6), (.tmp 5)]) (.vd 7 (o_mov (.tmp 16)) .nil)))
  (.seq (.seq (.ops (.vd 17 (o_mov (.tmp 0)) (.vd 18 (o_mov (.tmp 1)) (.cd 19 (fun F => c_call F 200 [(.tmp 17), (.tmp 18)]) (.vd 20 (o_len (.tmp 19)) (.vd 21 (o_mov (.const (.int .i64 0))) .nil))))))
  (.block 0 (.loop S294_1)))
  (.seq (.ops (.vd 34 (o_mov (.tmp 7)) (.vd 35 (o_mov (.tmp 1)) (.vd 36 (o_bin .add (.tmp 35) (.const (.int .i64 1))) (.vd 37 (o_bin .mul (.tmp 36) (.const (.int .i64 64))) (.cd 38 (fun F => c_callm F (.tmp 34) [(.tmp 37)] [(304, "dustcart/alloc.place", 335), (305, "dustcart/alloc.place", 340), (306, "dustcart/alloc.place", 348), (307, "dustcart/alloc.place", 349), (308, "dustcart/alloc.place", 353)]) .nil))))))
  (.seq (.ops (.vd 39 (o_load false 1 (.tmp 5)) (.vd 4 (o_mov (.tmp 39)) .nil)))
  .ret))))))))
def X294 : FnS := .code ⟨40, 0, .skip, [.tmp 4]⟩ S294
theorem x294 : okX Go.Proofs.Tryz.prog 294 X294 := okX_of (by kernel_rfl)
def S309_1 : SCode := .seq (.ops (.vd 9 (o_bin .lss (.tmp 8) (.tmp 7)) .nil))
    (.seq (.cond (.tmp 9)
     .skip
     (.exit 0))
    (.seq (.block 1 (.seq (.ops (.vd 10 (o_mov (.tmp 8)) (.vd 5 (o_mov (.tmp 10)) .nil)))
     (.seq (.ops (.vd 11 (o_mov (.tmp 1)) (.vd 12 (o_mov (.tmp 0)) (.vd 13 (o_mov (.tmp 5)) (.vd 14 (o_index 2 (.tmp 12) (.tmp 13)) (.vd 15 (o_load true 2 (.tmp 14)) (.cd 16 (fun F => c_callm F (.tmp 11) [(.tmp 15)] [(304, "dustcart/alloc.place", 335), (305, "dustcart/alloc.place", 340), (306, "dustcart/alloc.place", 348), (307, "dustcart/alloc.place", 349), (308, "dustcart/alloc.place", 353)]) .nil)))))))
     (.cond (.tmp 16)
      (.seq (.ops (.vd 17 (o_mov (.tmp 5)) (.vd 4 (o_mov (.tmp 17)) .nil)))
      .ret)
      .skip))))
    (.ops (.vd 18 (o_bin .add (.tmp 8) (.const (.int .i64 1))) (.vd 8 (o_mov (.tmp 18)) .nil)))))
def S309 : SCode := (.seq (.ops (.vd 4 (o_mov (.const (.int .i64 0))) .nil))
  (.seq (.seq (.ops (.vd 6 (o_mov (.tmp 0)) (.vd 7 (o_len (.tmp 6)) (.vd 8 (o_mov (.const (.int .i64 0))) .nil))))
  (.block 0 (.loop S309_1)))
  (.seq (.ops (.vd 4 (o_mov (.const (.int .i64 (-1)))) .nil))
  .ret)))
def X309 : FnS := .code ⟨19, 0, .skip, [.tmp 4]⟩ S309
theorem x309 : okX Go.Proofs.Tryz.prog 309 X309 := okX_of (by kernel_rfl)
def S310 : SCode := (.seq (.ops (.vd 4 (o_mov (.const (.bool false))) .nil))
  (.seq (.ops (.vd 5 (o_mov (.tmp 0)) (.vd 6 (o_mov (.tmp 1)) (.cd 7 (fun F => c_call F 285 [(.tmp 5), (.tmp 6)]) (.vd 8 (o_mov (.tmp 7)) (.vg 9 8 true (o_mov (.tmp 0)) (.vg 10 8 true (o_nilCheck (.tmp 9)) (.vg 11 8 true (o_field 0 (.tmp 10)) (.vg 12 8 true (o_load false 1 (.tmp 11)) (.vg 13 8 true (o_mov (.tmp 1)) (.vg 14 8 true (o_index 2 (.tmp 12) (.tmp 13)) (.vg 15 8 true (o_field 0 (.tmp 14)) (.vg 16 8 true (o_load false 1 (.tmp 15)) (.vg 17 8 true (o_bin .eql (.tmp 16) (.const (.int .i64 1))) (.vd 18 (o_pick (.tmp 8) (.tmp 17) (.const (.bool false))) (.vd 4 (o_mov (.tmp 18)) .nil))))))))))))))))
  .ret))
def X310 : FnS := .code ⟨19, 0, .skip, [.tmp 4]⟩ S310
theorem x310 : okX Go.Proofs.Tryz.prog 310 X310 := okX_of (by kernel_rfl)
def S311 : SCode := (.seq (.ops (.vd 4 (o_mov (.tmp 0)) (.vd 5 (o_load false 1 (.tmp 1)) (.vd 6 (o_bin .gtr (.tmp 4) (.tmp 5)) .nil))))
  (.cond (.tmp 6)
   (.ops (.vd 7 (o_load false 1 (.tmp 2)) (.vd 8 (o_load false 1 (.tmp 1)) (.vd 9 (o_mov (.tmp 0)) (.vd 10 (o_load false 1 (.tmp 1)) (.vd 11 (o_bin .sub (.tmp 9) (.tmp 10)) (.vd 12 (o_build [.int .i64 0, .int .i64 0] [(0, 1, (.tmp 8)), (1, 1, (.tmp 11))]) (.vd 13 (o_buildSlice 2 [.int .i64 0, .int .i64 0] 1 [(0, 2, (.tmp 12))]) (.vd 14 (o_append 2 (.tmp 7) (.tmp 13)) (.v none none (o_store 1 (.tmp 2) (.tmp 14)) .nil))))))))))
   .skip))
def X311 : FnS := .code ⟨15, 0, .skip, []⟩ S311
theorem x311 : okX Go.Proofs.Tryz.prog 311 X311 := okX_of (by kernel_rfl)
def S335 : SCode := (.seq (.ops (.vd 3 (o_box (.tmp 0)) (.vd 6 (o_mov (.const (.int .i64 0))) (.vd 7 (o_mov (.const (.bool false))) .nil))))
  (.seq (.ops (.vd 8 (o_mov (.tmp 1)) (.vd 9 (o_mov (.tmp 1)) (.vd 10 (o_mov (.tmp 2)) (.cd 11 (fun F => c_call F 337 [(.tmp 9), (.const (.int .i64 0)), (.tmp 10)]) (.cd 12 (fun F => c_call F 336 [(.tmp 8), (.tmp 11)]) (.vd 13 (o_extract (.tmp 12) 0) (.vd 14 (o_extract (.tmp 12) 1) (.vd 6 (o_mov (.tmp 13)) (.vd 7 (o_mov (.tmp 14)) .nil))))))))))
  .ret))
def X335 : FnS := .code ⟨15, 0, .skip, [.tmp 6, .tmp 7]⟩ S335
theorem x335 : okX Go.Proofs.Tryz.prog 335 X335 := okX_of (by kernel_rfl)
def S336 : SCode := (.seq (.ops (.vd 4 (o_mov (.const (.int .i64 0))) (.vd 5 (o_mov (.const (.bool false))) .nil)))
  (.seq (.seq (.ops (.vd 8 (o_mov (.tmp 1)) (.vd 9 (o_len (.tmp 8)) (.vd 10 (o_bin .gtr (.tmp 9) (.const (.int .i64 0))) .nil))))
  (.cond (.tmp 10)
   (.seq (.ops (.vd 11 (o_mov (.tmp 1)) (.vd 12 (o_index 2 (.tmp 11) (.const (.int .i64 0))) (.vd 13 (o_field 0 (.tmp 12)) (.vd 14 (o_load false 1 (.tmp 13)) (.vd 4 (o_mov (.tmp 14)) (.vd 5 (o_mov (.const (.bool true))) .nil)))))))
   .ret)
   .skip))
  (.seq (.ops (.vd 16 (o_mov (.tmp 0)) (.cd 17 (fun F => c_call F 338 [(.tmp 16)]) (.vd 15 (o_mov (.tmp 17)) (.vd 18 (o_extract (.tmp 15) 0) (.vd 19 (o_extract (.tmp 15) 1) (.vd 6 (o_new [.int .i64 0, .int .i64 0]) (.v none none (o_store 2 (.tmp 6) (.tmp 18)) (.vd 7 (o_mov (.tmp 19)) .nil)))))))))
  (.seq (.ops (.vd 20 (o_field 0 (.tmp 6)) (.vd 21 (o_load false 1 (.tmp 20)) (.vd 22 (o_mov (.tmp 7)) (.vd 4 (o_mov (.tmp 21)) (.vd 5 (o_mov (.tmp 22)) .nil))))))
  .ret))))
def X336 : FnS := .code ⟨23, 0, .skip, [.tmp 4, .tmp 5]⟩ S336
theorem x336 : okX Go.Proofs.Tryz.prog 336 X336 := okX_of (by kernel_rfl)
def S337_1 : SCode := .seq (.ops (.vd 28 (o_bin .lss (.tmp 27) (.tmp 26)) .nil))
       (.seq (.cond (.tmp 28)
        .skip
        (.exit 2))
       (.seq (.block 3 (.seq (.ops (.vd 29 (o_index 2 (.tmp 25) (.tmp 27)) (.vd 30 (o_load true 2 (.tmp 29)) (.vd 11 (o_new [.int .i64 0, .int .i64 0]) (.v none none (o_store 2 (.tmp 11) (.tmp 30)) .nil)))))
        (.seq (.seq (.ops (.vd 31 (o_mov (.tmp 1)) (.vd 32 (o_field 0 (.tmp 11)) (.vd 33 (o_load false 1 (.tmp 32)) (.vd 34 (o_bin .sub (.tmp 31) (.tmp 33)) (.vd 12 (o_mov (.tmp 34)) .nil))))))
        (.seq (.ops (.vd 35 (o_mov (.tmp 12)) (.vd 36 (o_bin .gtr (.tmp 35) (.const (.int .i64 0))) .nil)))
        (.cond (.tmp 36)
         (.ops (.vd 37 (o_mov (.tmp 1)) (.vd 38 (o_field 1 (.tmp 11)) (.vd 39 (o_load false 1 (.tmp 38)) (.vd 40 (o_mov (.tmp 12)) (.vd 41 (o_bin .sub (.tmp 39) (.tmp 40)) (.vd 42 (o_field 0 (.tmp 11)) (.v none none (o_store 1 (.tmp 42) (.tmp 37)) (.vd 43 (o_field 1 (.tmp 11)) (.v none none (o_store 1 (.tmp 43) (.tmp 41)) .nil))))))))))
         .skip)))
        (.seq (.ops (.vd 44 (o_field 1 (.tmp 11)) (.vd 45 (o_load false 1 (.tmp 44)) (.vd 46 (o_mov (.tmp 2)) (.vd 47 (o_bin .geq (.tmp 45) (.tmp 46)) .nil)))))
        (.cond (.tmp 47)
         (.ops (.vd 48 (o_mov (.tmp 7)) (.vd 49 (o_load true 2 (.tmp 11)) (.vd 50 (o_buildSlice 2 [.int .i64 0, .int .i64 0] 1 [(0, 2, (.tmp 49))]) (.vd 51 (o_append 2 (.tmp 48) (.tmp 50)) (.vd 7 (o_mov (.tmp 51)) .nil))))))
         .skip)))))
       (.ops (.vd 52 (o_bin .add (.tmp 27) (.const (.int .i64 1))) (.vd 27 (o_mov (.tmp 52)) .nil)))))
def S337_2 : SCode := .seq (.ops (.vd 17 (o_bin .lss (.tmp 16) (.tmp 15)) .nil))
    (.seq (.cond (.tmp 17)
     .skip
     (.exit 0))
    (.seq (.block 1 (.seq (.ops (.vd 18 (o_index 1 (.tmp 14) (.tmp 16)) (.vd 19 (o_load false 1 (.tmp 18)) (.vd 9 (o_mov (.tmp 19)) .nil))))
     (.seq (.ops (.vd 20 (o_mov (.tmp 0)) (.vd 21 (o_nilCheck (.tmp 20)) (.vd 22 (o_field 0 (.tmp 21)) (.vd 23 (o_load false 1 (.tmp 22)) (.vd 24 (o_mov (.tmp 9)) (.cd 25 (fun F => c_call F 294 [(.tmp 23), (.tmp 24)]) (.vd 26 (o_len (.tmp 25)) (.vd 27 (o_mov (.const (.int .i64 0))) .nil)))))))))
     (.block 2 (.loop S337_1)))))
    (.ops (.vd 53 (o_bin .add (.tmp 16) (.const (.int .i64 1))) (.vd 16 (o_mov (.tmp 53)) .nil)))))
def S337 : SCode := (.seq (.ops (.vd 6 (o_mov (.const (.nilSlice))) .nil))
  (.seq (.ops (.vd 7 (o_mov (.const (.nilSlice))) .nil))
  (.seq (.seq (.ops (.vd 13 (o_mov (.tmp 0)) (.cd 14 (fun F => c_call F 339 [(.tmp 13)]) (.vd 15 (o_len (.tmp 14)) (.vd 16 (o_mov (.const (.int .i64 0))) .nil)))))
  (.block 0 (.loop S337_2)))
  (.seq (.ops (.vd 54 (o_mov (.tmp 7)) (.vd 6 (o_mov (.tmp 54)) .nil)))
  .ret))))
def X337 : FnS := .code ⟨55, 0, .skip, [.tmp 6]⟩ S337
theorem x337 : okX Go.Proofs.Tryz.prog 337 X337 := okX_of (by kernel_rfl)
def S338_1 : SCode := .seq (.seq (.ops (.vd 5 (o_mov (.tmp 4)) (.vd 6 (o_mov (.tmp 0)) (.vd 7 (o_nilCheck (.tmp 6)) (.vd 8 (o_field 0 (.tmp 7)) (.vd 9 (o_load false 1 (.tmp 8)) (.cd 10 (fun F => c_call F 49 [(.tmp 9)]) (.vd 11 (o_bin .lss (.tmp 5) (.tmp 10)) .nil))))))))
    (.cond (.tmp 11)
     .skip
     (.exit 0)))
    (.seq (.block 1 (.seq (.dregion [⟨⟨some 14, none, .mov (.tmp 0)⟩, 0, 0, 0⟩, ⟨⟨some 15, none, .nilCheck (.tmp 14)⟩, 1, 0, 0⟩, ⟨⟨some 16, none, .field 0 (.tmp 15)⟩, 2, 0, 0⟩, ⟨⟨some 17, none, .load false 1 (.tmp 16)⟩, 3, 1, 0⟩, ⟨⟨some 18, none, .mov (.tmp 4)⟩, 4, 0, 0⟩, ⟨⟨some 19, none, .mov (.tmp 0)⟩, 5, 0, 0⟩, ⟨⟨some 20, none, .nilCheck (.tmp 19)⟩, 6, 0, 0⟩, ⟨⟨some 21, none, .field 1 (.tmp 20)⟩, 7, 0, 0⟩, ⟨⟨some 22, none, .load false 1 (.tmp 21)⟩, 8, 1, 0⟩, ⟨⟨some 23, none, .call 149 [(.tmp 17), (.tmp 18), (.tmp 22)]⟩, 9, 3, 0⟩, ⟨⟨some 24, none, .bin .eql (.tmp 23) (.const (.int .i64 0))⟩, 10, 0, 1⟩])
     (.cond (.tmp 24)
      (.seq (.ops (.vd 25 (o_mov (.tmp 4)) (.vd 26 (o_bin .mul (.tmp 25) (.const (.int .i64 64))) (.vd 27 (o_mov (.tmp 4)) (.vd 28 (o_bin .add (.tmp 27) (.const (.int .i64 1))) (.vd 29 (o_bin .mul (.tmp 28) (.const (.int .i64 64))) (.vd 30 (o_build [.int .i64 0, .int .i64 0] [(0, 1, (.tmp 26)), (1, 1, (.tmp 29))]) (.v none none (o_store 2 (.tmp 2) (.tmp 30)) (.vd 3 (o_mov (.const (.bool true))) .nil)))))))))
      .ret)
      .skip)))
    (.ops (.vd 12 (o_mov (.tmp 4)) (.vd 13 (o_bin .add (.tmp 12) (.const (.int .i64 1))) (.vd 4 (o_mov (.tmp 13)) .nil)))))
def S338 : SCode := (.seq (.ops (.vd 2 (o_new [.int .i64 0, .int .i64 0]) (.vd 3 (o_mov (.const (.bool false))) .nil)))
  (.seq (.seq (.ops (.vd 4 (o_mov (.const (.int .i64 1))) .nil))
  (.block 0 (.loop S338_1)))
  (.seq (.ops (.vd 31 (o_build [.int .i64 0, .int .i64 0] []) (.v none none (o_store 2 (.tmp 2) (.tmp 31)) (.vd 3 (o_mov (.const (.bool false))) .nil))))
  .ret)))
def X338 : FnS := .code ⟨32, 0, .skip, [.cell 2 true 2, .tmp 3]⟩ S338
theorem x338 : okX Go.Proofs.Tryz.prog 338 X338 := okX_of (by kernel_rfl)
end Go.Cs.Tryz

/- The turned functions, part 3. -/
noncomputable section
namespace Go.Cs.Tryz
open Go Go.Cs Go.Cs.K
set_option maxRecDepth 100000
def S339_1 : SCode := .seq (.ops (.vd 11 (o_bin .lss (.tmp 10) (.tmp 9)) .nil))
    (.seq (.cond (.tmp 11)
     .skip
     (.exit 0))
    (.seq (.block 1 (.seq (.ops (.vd 12 (o_mov (.tmp 10)) (.vd 4 (o_mov (.tmp 12)) .nil)))
     (.seq (.dregion [⟨⟨some 13, none, .mov (.tmp 0)⟩, 0, 0, 0⟩, ⟨⟨some 14, none, .nilCheck (.tmp 13)⟩, 1, 0, 0⟩, ⟨⟨some 15, none, .field 0 (.tmp 14)⟩, 2, 0, 0⟩, ⟨⟨some 16, none, .load false 1 (.tmp 15)⟩, 3, 1, 0⟩, ⟨⟨some 17, none, .mov (.tmp 4)⟩, 4, 0, 0⟩, ⟨⟨some 18, none, .call 71 [(.tmp 16), (.tmp 17)]⟩, 5, 3, 0⟩, ⟨⟨some 19, none, .bin .eql (.tmp 18) (.const (.int .i64 1))⟩, 6, 0, 1⟩, ⟨⟨some 20, none, .mov (.tmp 19)⟩, 7, 0, 1⟩, ⟨⟨some 21, some (20, true), .mov (.tmp 0)⟩, 8, 0, 1⟩, ⟨⟨some 22, some (20, true), .nilCheck (.tmp 21)⟩, 9, 0, 1⟩, ⟨⟨some 23, some (20, true), .field 0 (.tmp 22)⟩, 10, 0, 1⟩, ⟨⟨some 24, some (20, true), .load false 1 (.tmp 23)⟩, 11, 1, 1⟩, ⟨⟨some 25, some (20, true), .mov (.tmp 4)⟩, 12, 0, 1⟩, ⟨⟨some 26, some (20, true), .call 72 [(.tmp 24), (.tmp 25)]⟩, 13, 3, 1⟩, ⟨⟨some 27, some (20, true), .mov (.tmp 0)⟩, 14, 0, 1⟩, ⟨⟨some 28, some (20, true), .nilCheck (.tmp 27)⟩, 15, 0, 1⟩, ⟨⟨some 29, some (20, true), .field 1 (.tmp 28)⟩, 16, 0, 1⟩, ⟨⟨some 30, some (20, true), .load false 1 (.tmp 29)⟩, 17, 1, 1⟩, ⟨⟨some 31, some (20, true), .bin .eql (.tmp 26) (.tmp 30)⟩, 18, 0, 2⟩, ⟨⟨some 32, none, .pick (.tmp 20) (.tmp 31) (.const (.bool false))⟩, 19, 0, 2⟩])
     (.cond (.tmp 32)
      (.ops (.vd 33 (o_mov (.tmp 3)) (.vd 34 (o_mov (.tmp 4)) (.vd 35 (o_buildSlice 1 [.int .i64 0] 1 [(0, 1, (.tmp 34))]) (.vd 36 (o_append 1 (.tmp 33) (.tmp 35)) (.vd 3 (o_mov (.tmp 36)) .nil))))))
      .skip))))
    (.ops (.vd 37 (o_bin .add (.tmp 10) (.const (.int .i64 1))) (.vd 10 (o_mov (.tmp 37)) .nil)))))
def S339 : SCode := (.seq (.ops (.vd 2 (o_mov (.const (.nilSlice))) .nil))
  (.seq (.ops (.vd 3 (o_mov (.const (.nilSlice))) .nil))
  (.seq (.seq (.ops (.vd 5 (o_mov (.tmp 0)) (.vd 6 (o_nilCheck (.tmp 5)) (.vd 7 (o_field 0 (.tmp 6)) (.vd 8 (o_load false 1 (.tmp 7)) (.cd 9 (fun F => c_call F 49 [(.tmp 8)]) (.vd 10 (o_mov (.const (.int .i64 0))) .nil)))))))
  (.block 0 (.loop S339_1)))
  (.seq (.ops (.vd 38 (o_mov (.tmp 3)) (.vd 2 (o_mov (.tmp 38)) .nil)))
  .ret))))
def X339 : FnS := .code ⟨39, 0, .skip, [.tmp 2]⟩ S339
theorem x339 : okX Go.Proofs.Tryz.prog 339 X339 := okX_of (by kernel_rfl)
end Go.Cs.Tryz

/- The table of the turned functions, for the evaluator. -/
noncomputable section
namespace Go.Cs.Tryz
open Go Go.Cs Go.Cs.K
set_option maxRecDepth 100000
def tlo : Tr FnS := (.node none (.node none (.node none (.node none (.node (some X15) (.node (some X31) (.node none (.node (some X127) (.node (some X255) .nil .nil) .nil) .nil) (.node (some X95) (.node none (.node (some X287) .nil .nil) .nil) (.node (some X223) .nil .nil))) (.node none (.node none (.node (some X143) .nil .nil) (.node none (.node (some X335) .nil .nil) .nil)) (.node none .nil (.node (some X239) .nil .nil)))) (.node none (.node (some X39) (.node (some X71) (.node (some X135) .nil .nil) .nil) (.node none .nil (.node (some X231) .nil .nil))) (.node none .nil (.node (some X119) (.node none (.node (some X311) .nil .nil) .nil) (.node (some X247) .nil .nil))))) (.node (some X11) (.node none (.node (some X35) (.node none (.node (some X131) .nil .nil) .nil) .nil) (.node (some X51) (.node none .nil (.node none (.node (some X339) .nil .nil) .nil)) .nil)) (.node none (.node (some X43) (.node (some X75) (.node (some X139) (.node (some X267) .nil .nil) .nil) (.node (some X203) .nil .nil)) (.node none (.node (some X171) .nil .nil) .nil)) (.node none (.node (some X91) (.node (some X155) .nil .nil) (.node (some X219) .nil .nil)) (.node (some X123) .nil .nil))))) (.node none (.node none (.node (some X17) (.node none (.node none (.node (some X129) .nil .nil) (.node (some X193) .nil .nil)) (.node (some X97) .nil .nil)) (.node (some X49) (.node none .nil (.node none (.node (some X337) .nil .nil) .nil)) .nil)) (.node none (.node (some X41) (.node (some X73) (.node none (.node (some X265) .nil .nil) .nil) .nil) .nil) (.node none .nil (.node (some X121) .nil .nil)))) (.node (some X13) (.node none (.node (some X37) (.node none (.node (some X133) (.node (some X261) .nil .nil) .nil) .nil) (.node none .nil (.node (some X229) .nil .nil))) (.node (some X53) (.node none (.node (some X149) .nil .nil) .nil) (.node (some X117) (.node none (.node (some X309) .nil .nil) .nil) .nil))) (.node none (.node (some X45) (.node (some X77) (.node (some X141) .nil .nil) .nil) .nil) (.node none (.node none (.node none (.node (some X285) .nil .nil) .nil) (.node (some X221) .nil .nil)) (.node (some X125) .nil .nil)))))) (.node none (.node (some X4) (.node none (.node (some X16) (.node none (.node none (.node (some X128) .nil .nil) .nil) (.node none (.node none (.node (some X288) .nil .nil) .nil) (.node (some X224) .nil .nil))) (.node none (.node none (.node (some X144) .nil .nil) (.node (some X208) (.node (some X336) .nil .nil) .nil)) .nil)) (.node none (.node (some X40) (.node (some X72) (.node none (.node (some X264) .nil .nil) .nil) (.node (some X200) .nil .nil)) (.node none .nil (.node (some X232) .nil .nil))) (.node none (.node none .nil (.node (some X216) .nil .nil)) (.node (some X120) .nil .nil)))) (.node (some X12) (.node (some X20) (.node (some X36) (.node none (.node (some X132) .nil .nil) .nil) (.node none .nil (.node (some X228) .nil .nil))) (.node (some X52) .nil (.node (some X116) .nil .nil))) (.node none (.node (some X44) (.node (some X76) (.node (some X140) (.node (some X268) .nil .nil) .nil) .nil) (.node (some X108) (.node (some X172) .nil .nil) .nil)) .nil))) (.node none (.node (some X10) (.node none (.node (some X34) (.node none (.node (some X130) .nil .nil) (.node (some X194) .nil .nil)) .nil) (.node (some X50) (.node none .nil (.node none (.node (some X338) .nil .nil) .nil)) (.node (some X114) .nil .nil))) (.node none (.node (some X42) (.node none (.node none (.node (some X266) .nil .nil) .nil) .nil) (.node none (.node (some X170) .nil .nil) .nil)) (.node none (.node none .nil (.node (some X218) .nil .nil)) (.node (some X122) .nil .nil)))) (.node (some X14) (.node none (.node (some X38) (.node none (.node (some X134) .nil .nil) .nil) (.node none (.node none (.node (some X294) .nil .nil) .nil) (.node (some X230) .nil .nil))) (.node (some X54) .nil (.node (some X118) (.node none (.node (some X310) .nil .nil) .nil) .nil))) (.node none (.node (some X46) (.node none (.node (some X142) .nil .nil) .nil) .nil) (.node none (.node none (.node none (.node (some X286) .nil .nil) .nil) (.node (some X222) .nil .nil)) (.node (some X126) .nil .nil)))))))
def thi : Tr FnS := (.node none (.node none .nil (.node none (.node none (.node none (.node none (.node none (.node none .nil (.node none .nil (.node none (.node (some X1001409) .nil .nil) .nil))) .nil) .nil) .nil) .nil) .nil)) (.node none (.node none (.node none (.node none (.node none (.node none (.node none .nil (.node none .nil (.node none (.node (some X1001408) .nil .nil) .nil))) .nil) .nil) .nil) .nil) .nil) .nil))
theorem glo : AllTr (fun p s => okX Go.Proofs.Tryz.prog (dec p) s) tlo := ⟨trivial, ⟨trivial, ⟨trivial, ⟨trivial, ⟨x15, ⟨x31, ⟨trivial, ⟨x127, ⟨x255, trivial, trivial⟩, trivial⟩, trivial⟩, ⟨x95, ⟨trivial, ⟨x287, trivial, trivial⟩, trivial⟩, ⟨x223, trivial, trivial⟩⟩⟩, ⟨trivial, ⟨trivial, ⟨x143, trivial, trivial⟩, ⟨trivial, ⟨x335, trivial, trivial⟩, trivial⟩⟩, ⟨trivial, trivial, ⟨x239, trivial, trivial⟩⟩⟩⟩, ⟨trivial, ⟨x39, ⟨x71, ⟨x135, trivial, trivial⟩, trivial⟩, ⟨trivial, trivial, ⟨x231, trivial, trivial⟩⟩⟩, ⟨trivial, trivial, ⟨x119, ⟨trivial, ⟨x311, trivial, trivial⟩, trivial⟩, ⟨x247, trivial, trivial⟩⟩⟩⟩⟩, ⟨x11, ⟨trivial, ⟨x35, ⟨trivial, ⟨x131, trivial, trivial⟩, trivial⟩, trivial⟩, ⟨x51, ⟨trivial, trivial, ⟨trivial, ⟨x339, trivial, trivial⟩, trivial⟩⟩, trivial⟩⟩, ⟨trivial, ⟨x43, ⟨x75, ⟨x139, ⟨x267, trivial, trivial⟩, trivial⟩, ⟨x203, trivial, trivial⟩⟩, ⟨trivial, ⟨x171, trivial, trivial⟩, trivial⟩⟩, ⟨trivial, ⟨x91, ⟨x155, trivial, trivial⟩, ⟨x219, trivial, trivial⟩⟩, ⟨x123, trivial, trivial⟩⟩⟩⟩⟩, ⟨trivial, ⟨trivial, ⟨x17, ⟨trivial, ⟨trivial, ⟨x129, trivial, trivial⟩, ⟨x193, trivial, trivial⟩⟩, ⟨x97, trivial, trivial⟩⟩, ⟨x49, ⟨trivial, trivial, ⟨trivial, ⟨x337, trivial, trivial⟩, trivial⟩⟩, trivial⟩⟩, ⟨trivial, ⟨x41, ⟨x73, ⟨trivial, ⟨x265, trivial, trivial⟩, trivial⟩, trivial⟩, trivial⟩, ⟨trivial, trivial, ⟨x121, trivial, trivial⟩⟩⟩⟩, ⟨x13, ⟨trivial, ⟨x37, ⟨trivial, ⟨x133, ⟨x261, trivial, trivial⟩, trivial⟩, trivial⟩, ⟨trivial, trivial, ⟨x229, trivial, trivial⟩⟩⟩, ⟨x53, ⟨trivial, ⟨x149, trivial, trivial⟩, trivial⟩, ⟨x117, ⟨trivial, ⟨x309, trivial, trivial⟩, trivial⟩, trivial⟩⟩⟩, ⟨trivial, ⟨x45, ⟨x77, ⟨x141, trivial, trivial⟩, trivial⟩, trivial⟩, ⟨trivial, ⟨trivial, ⟨trivial, ⟨x285, trivial, trivial⟩, trivial⟩, ⟨x221, trivial, trivial⟩⟩, ⟨x125, trivial, trivial⟩⟩⟩⟩⟩⟩, ⟨trivial, ⟨x4, ⟨trivial, ⟨x16, ⟨trivial, ⟨trivial, ⟨x128, trivial, trivial⟩, trivial⟩, ⟨trivial, ⟨trivial, ⟨x288, trivial, trivial⟩, trivial⟩, ⟨x224, trivial, trivial⟩⟩⟩, ⟨trivial, ⟨trivial, ⟨x144, trivial, trivial⟩, ⟨x208, ⟨x336, trivial, trivial⟩, trivial⟩⟩, trivial⟩⟩, ⟨trivial, ⟨x40, ⟨x72, ⟨trivial, ⟨x264, trivial, trivial⟩, trivial⟩, ⟨x200, trivial, trivial⟩⟩, ⟨trivial, trivial, ⟨x232, trivial, trivial⟩⟩⟩, ⟨trivial, ⟨trivial, trivial, ⟨x216, trivial, trivial⟩⟩, ⟨x120, trivial, trivial⟩⟩⟩⟩, ⟨x12, ⟨x20, ⟨x36, ⟨trivial, ⟨x132, trivial, trivial⟩, trivial⟩, ⟨trivial, trivial, ⟨x228, trivial, trivial⟩⟩⟩, ⟨x52, trivial, ⟨x116, trivial, trivial⟩⟩⟩, ⟨trivial, ⟨x44, ⟨x76, ⟨x140, ⟨x268, trivial, trivial⟩, trivial⟩, trivial⟩, ⟨x108, ⟨x172, trivial, trivial⟩, trivial⟩⟩, trivial⟩⟩⟩, ⟨trivial, ⟨x10, ⟨trivial, ⟨x34, ⟨trivial, ⟨x130, trivial, trivial⟩, ⟨x194, trivial, trivial⟩⟩, trivial⟩, ⟨x50, ⟨trivial, trivial, ⟨trivial, ⟨x338, trivial, trivial⟩, trivial⟩⟩, ⟨x114, trivial, trivial⟩⟩⟩, ⟨trivial, ⟨x42, ⟨trivial, ⟨trivial, ⟨x266, trivial, trivial⟩, trivial⟩, trivial⟩, ⟨trivial, ⟨x170, trivial, trivial⟩, trivial⟩⟩, ⟨trivial, ⟨trivial, trivial, ⟨x218, trivial, trivial⟩⟩, ⟨x122, trivial, trivial⟩⟩⟩⟩, ⟨x14, ⟨trivial, ⟨x38, ⟨trivial, ⟨x134, trivial, trivial⟩, trivial⟩, ⟨trivial, ⟨trivial, ⟨x294, trivial, trivial⟩, trivial⟩, ⟨x230, trivial, trivial⟩⟩⟩, ⟨x54, trivial, ⟨x118, ⟨trivial, ⟨x310, trivial, trivial⟩, trivial⟩, trivial⟩⟩⟩, ⟨trivial, ⟨x46, ⟨trivial, ⟨x142, trivial, trivial⟩, trivial⟩, trivial⟩, ⟨trivial, ⟨trivial, ⟨trivial, ⟨x286, trivial, trivial⟩, trivial⟩, ⟨x222, trivial, trivial⟩⟩, ⟨x126, trivial, trivial⟩⟩⟩⟩⟩⟩⟩
theorem ghi : AllTr (fun p s => okX Go.Proofs.Tryz.prog (1000000 + dec p) s) thi := ⟨trivial, ⟨trivial, trivial, ⟨trivial, ⟨trivial, ⟨trivial, ⟨trivial, ⟨trivial, ⟨trivial, trivial, ⟨trivial, trivial, ⟨trivial, ⟨x1001409, trivial, trivial⟩, trivial⟩⟩⟩, trivial⟩, trivial⟩, trivial⟩, trivial⟩, trivial⟩⟩, ⟨trivial, ⟨trivial, ⟨trivial, ⟨trivial, ⟨trivial, ⟨trivial, ⟨trivial, trivial, ⟨trivial, trivial, ⟨trivial, ⟨x1001408, trivial, trivial⟩, trivial⟩⟩⟩, trivial⟩, trivial⟩, trivial⟩, trivial⟩, trivial⟩, trivial⟩⟩
def tab : TabS := fun f => cond (Nat.ble 1000000 f) (thi.get (Nat.sub f 1000000)) (tlo.get f)
theorem tabX {f : Nat} {s : FnS} (h : (if 1000000 ≤ f then thi.get (Nat.sub f 1000000) else tlo.get f) = some s) : okX Go.Proofs.Tryz.prog f s := by
  split at h
  · rename_i hf
    have := AllTr.get (Q := fun n s => okX Go.Proofs.Tryz.prog (1000000 + n) s) ghi h
    rwa [show 1000000 + Nat.sub f 1000000 = f from Nat.add_sub_cancel' hf] at this
  · exact AllTr.get (Q := fun n s => okX Go.Proofs.Tryz.prog n s) glo h
theorem tabOk : TabSOk tab (cprog Go.Proofs.Tryz.prog) where
  code f cf b h := by
    unfold tab at h
    simp only [cond_beq, cond_ble] at h
    exact tabX h
  known f g h := by
    unfold tab at h
    simp only [cond_beq, cond_ble] at h
    exact (tabX h).elim
end Go.Cs.Tryz

/- All rules of a walk in few bundles. -/
namespace Go.Cs
def csL := And.intro @Nat.zero_add <| And.intro @Nat.add_zero <| And.intro @Nat.mul_one <| And.intro @Option.map_some.{0,0} <| And.intro @Option.bind_some.{0,0} <| And.intro @Option.map_none.{0,0} <| And.intro @Option.bind_none.{0,0} <| And.intro @List.map_cons.{0,0} <| And.intro @List.map_nil.{0,0} <| And.intro @List.getElem?_cons_zero.{0} <| And.intro @List.getElem?_cons_succ.{0} <| And.intro @List.cons_append.{0} <| And.intro @List.nil_append.{0} <| And.intro @List.append_nil.{0} <| And.intro @Bool.not_true <| And.intro @Bool.not_false <| And.intro @Bool.false_eq_true <| And.intro @decide_true <| And.intro @decide_false <| And.intro @List.length_append.{0} <| And.intro @List.length_cons.{0} <| And.intro @List.length_nil.{0} <| And.intro @List.length_set.{0} <| And.intro @List.drop_zero.{0} <| And.intro @List.drop_succ_cons.{0} <| And.intro @List.take_succ_cons.{0} <| And.intro @List.take_zero.{0} <| And.intro @Int.toNat_natCast <| And.intro @List.set_cons_zero.{0} <| And.intro @List.set_cons_succ.{0} <| And.intro @List.drop_nil.{0} @List.take_nil.{0}
def csAll := And.intro csA <| And.intro csB <| And.intro csV <| And.intro csD1 <| And.intro csD2 <| And.intro csW1 <| And.intro csW2 csL
def csN := And.intro @eq_self.{1} <| And.intro @true_and <| And.intro @and_true <| And.intro @and_self <| And.intro @Nat.le_refl <| And.intro @List.length_append.{0} <| And.intro @List.length_cons.{0} <| And.intro @List.length_nil.{0} <| And.intro @List.length_set.{0} <| And.intro @List.length_map.{0,0} <| And.intro @List.length_replicate.{0} <| And.intro @Nat.zero_add <| And.intro @Nat.add_zero <| And.intro @Nat.mul_one <| And.intro @cellsOf_agg <| And.intro @cellsOf_int <| And.intro @cellsOf_bool <| And.intro @cellsOf_ptr <| And.intro @cellsOf_slice <| And.intro @cellsOf_ns <| And.intro @List.length_take.{0} @List.length_drop.{0}
def csF := And.intro @leaf_int <| And.intro @leaf_slice <| And.intro @leaf_bool <| And.intro @leaf_ptr <| And.intro @leaf_ns <| And.intro @leaf_np <| And.intro @leaf_func <| And.intro @leaf_nf <| And.intro @Bool.and_true <| And.intro @Bool.true_and <| And.intro @List.all_cons.{0} <| And.intro @List.all_nil.{0} @List.all_append.{0}
end Go.Cs

/- Rules of a walk: shifts, conversions, greatest and least, bits. -/
namespace Go.Cs
open Go

section
variable {F : CallF} {E : Env} {H : CHeap}
def vShift (op : BinOp) (x y : CV) (H : CHeap) : Option (CV × CHeap) := match x, y with
  | .int k a, .int _ b => (shiftOp op k a b).map fun v => (v, H)
  | _, _ => none
def mShift (op : BinOp) (x y : CV) : Option MkV := match x, y with
  | .int k a, .int _ b => (shiftOp op k a b).bind okV
  | _, _ => none
def mConv (k : IntKind) (x : CV) : Option MkV := match x with
  | .int _ n => okV (.int k (k.wrap n))
  | _ => none
theorem opc_shift {op : BinOp} {x y : Opd} : opc F (.shift op x y) E H = vShift op (E.ev x) (E.ev y) H := by
  simp only [opc, opv, mkOf, vShift]
  cases E.ev x <;> cases E.ev y <;> first | rfl | skip
  rename_i k a k' b
  dsimp only
  cases shiftOp op k a b <;> rfl
theorem mk_shift {op : BinOp} {x y : Opd} : mkOf (.shift op x y) E H = mShift op (E.ev x) (E.ev y) := by
  simp only [mkOf, mShift]
  cases E.ev x <;> cases E.ev y <;> first | rfl | skip
  rename_i k a k' b
  dsimp only
  cases shiftOp op k a b <;> rfl
theorem mk_conv {k : IntKind} {x : Opd} : mkOf (.conv k x) E H = mConv k (E.ev x) := by
  simp only [mkOf, mConv] <;> cases E.ev x <;> rfl
theorem vShl {k k' : IntKind} {a b : Int} (h : 0 ≤ b) : vShift .shl (.int k a) (.int k' b) H = some (.int k (k.wrap (a * 2 ^ min b.toNat k.bits)), H) := by
  simp only [vShift, shiftOp]; rw [if_neg (by omega)]; rfl
theorem mShr {k k' : IntKind} {a b : Int} (h : 0 ≤ b) : mShift .shr (.int k a) (.int k' b) = okV (.int k (a.fdiv (2 ^ min b.toNat k.bits))) := by
  simp only [mShift, shiftOp]; rw [if_neg (by omega)]; rfl
theorem mConv_i {k k' : IntKind} {n : Int} : mConv k (.int k' n) = okV (.int k (k.wrap n)) := rfl
theorem mBin_and {k : IntKind} {a b : Int} : mBin .and (.int k a) (.int k b) = okV (.int k (k.wrap (BitVec.ofInt k.bits a &&& BitVec.ofInt k.bits b).toNat)) := by simp [mBin, intOp]
theorem mBin_quo {k : IntKind} {a b : Int} (h : b ≠ 0) : mBin .quo (.int k a) (.int k b) = okV (.int k (k.wrap (a.tdiv b))) := by simp [mBin, intOp, h]
theorem mBin_rem {k : IntKind} {a b : Int} (h : b ≠ 0) : mBin .rem (.int k a) (.int k b) = okV (.int k (a.tmod b)) := by simp [mBin, intOp, h]
end
end Go.Cs

/- Loops. -/
namespace Go.Cs
open Go

/-- A loop that comes to an end: its invariant by a measure, and what holds when it is left. -/
def LoopOk (p : CProg) (c : CCode) (Inv : Nat → Env → CHeap → Prop) (Post : CX → Env → CHeap → Prop) : Prop :=
  ∀ k E H, Inv k E H → ∃ x E' H', den p (.loop c) E H = some (x, E', H') ∧ x ≠ .normal ∧ Post x E' H'

theorem LoopOk.at {p : CProg} {c : CCode} {Inv : Nat → Env → CHeap → Prop} {Post : CX → Env → CHeap → Prop} (h : LoopOk p c Inv Post) {E : Env} {H : CHeap} {r : Option (CX × Env × CHeap)} (hr : den p (.loop c) E H = r) (k : Nat) (hi : Inv k E H) :
    ∃ x E' H', r = some (x, E', H') ∧ x ≠ .normal ∧ Post x E' H' := by
  obtain ⟨x, E', H', e, h⟩ := h k E H hi
  exact ⟨x, E', H', hr.symm.trans e, h⟩

end Go.Cs

/- The compiled functions of the seat, part 0. -/
namespace Go.Cs.Tryz
open Go Go.Cs
set_option maxRecDepth 100000
-- (*dustcart/heap.Heap).Has
def C50 : CFunc := ⟨26, 0, (.seq (.region [⟨some 4, none, .mov (.const (.bool false))⟩])
  (.seq (.region [⟨some 5, none, .mov (.tmp 0)⟩, ⟨some 6, none, .call 95 [(.tmp 5)]⟩, ⟨some 7, none, .mov (.tmp 6)⟩, ⟨some 8, some (7, true), .mov (.tmp 1)⟩, ⟨some 9, some (7, true), .bin .geq (.tmp 8) (.const (.int .i64 0))⟩, ⟨some 10, none, .pick (.tmp 7) (.tmp 9) (.const (.bool false))⟩, ⟨some 11, none, .mov (.tmp 10)⟩, ⟨some 12, some (11, true), .mov (.tmp 1)⟩, ⟨some 13, some (11, true), .bin .rem (.tmp 12) (.const (.int .i64 2))⟩, ⟨some 14, some (11, true), .bin .eql (.tmp 13) (.const (.int .i64 0))⟩, ⟨some 15, none, .pick (.tmp 11) (.tmp 14) (.const (.bool false))⟩, ⟨some 16, none, .mov (.tmp 15)⟩, ⟨some 17, some (16, true), .mov (.tmp 0)⟩, ⟨some 18, some (16, true), .nilCheck (.tmp 17)⟩, ⟨some 19, some (16, true), .field 2 (.tmp 18)⟩, ⟨some 20, some (16, true), .load false 1 (.tmp 19)⟩, ⟨some 21, some (16, true), .mov (.tmp 1)⟩, ⟨some 22, some (16, true), .bin .quo (.tmp 21) (.const (.int .i64 2))⟩, ⟨some 23, some (16, true), .call 139 [(.tmp 20), (.tmp 22)]⟩, ⟨some 24, some (16, true), .bin .eql (.tmp 23) (.const (.int .i64 1))⟩, ⟨some 25, none, .pick (.tmp 16) (.tmp 24) (.const (.bool false))⟩, ⟨some 4, none, .mov (.tmp 25)⟩])
  .ret)),
  [.tmp 4]⟩
theorem c50 : cprog Go.Proofs.Tryz.prog 50 = some C50 := by kernel_rfl
-- (*dustcart/heap.Heap).made
def C95 : CFunc := ⟨13, 0, (.seq (.region [⟨some 2, none, .mov (.const (.bool false))⟩])
  (.seq (.region [⟨some 3, none, .mov (.tmp 0)⟩, ⟨some 4, none, .eqv true 1 (.tmp 3) (.const (.nilPtr))⟩, ⟨some 5, none, .mov (.tmp 4)⟩, ⟨some 6, some (5, true), .mov (.tmp 0)⟩, ⟨some 7, some (5, true), .nilCheck (.tmp 6)⟩, ⟨some 8, some (5, true), .field 0 (.tmp 7)⟩, ⟨some 9, some (5, true), .load false 1 (.tmp 8)⟩, ⟨some 10, some (5, true), .len (.tmp 9)⟩, ⟨some 11, some (5, true), .bin .gtr (.tmp 10) (.const (.int .i64 0))⟩, ⟨some 12, none, .pick (.tmp 5) (.tmp 11) (.const (.bool false))⟩, ⟨some 2, none, .mov (.tmp 12)⟩])
  .ret)),
  [.tmp 2]⟩
theorem c95 : cprog Go.Proofs.Tryz.prog 95 = some C95 := by kernel_rfl
-- (*dustcart/side.Table).Get
def C139 : CFunc := ⟨12, 0, (.seq (.region [⟨some 4, none, .mov (.const (.int .i64 0))⟩])
  (.seq (.seq (.region [⟨some 5, none, .mov (.tmp 0)⟩, ⟨some 6, none, .mov (.tmp 1)⟩, ⟨some 7, none, .call 228 [(.tmp 5), (.tmp 6)]⟩, ⟨some 8, none, .not (.tmp 7)⟩])
  (.cond (.tmp 8)
   (.seq (.region [⟨some 4, none, .mov (.const (.int .i64 (-1)))⟩])
   .ret)
   .skip))
  (.seq (.region [⟨some 9, none, .mov (.tmp 0)⟩, ⟨some 10, none, .mov (.tmp 1)⟩, ⟨some 11, none, .call 229 [(.tmp 9), (.tmp 10)]⟩, ⟨some 4, none, .mov (.tmp 11)⟩])
  .ret))),
  [.tmp 4]⟩
theorem c139 : cprog Go.Proofs.Tryz.prog 139 = some C139 := by kernel_rfl
-- (*dustcart/side.Table).there
def C228 : CFunc := ⟨19, 0, (.seq (.region [⟨some 4, none, .mov (.const (.bool false))⟩])
  (.seq (.region [⟨some 5, none, .mov (.tmp 0)⟩, ⟨some 6, none, .call 265 [(.tmp 5)]⟩, ⟨some 7, none, .mov (.tmp 6)⟩, ⟨some 8, some (7, true), .mov (.tmp 1)⟩, ⟨some 9, some (7, true), .bin .geq (.tmp 8) (.const (.int .i64 0))⟩, ⟨some 10, none, .pick (.tmp 7) (.tmp 9) (.const (.bool false))⟩, ⟨some 11, none, .mov (.tmp 10)⟩, ⟨some 12, some (11, true), .mov (.tmp 1)⟩, ⟨some 13, some (11, true), .mov (.tmp 0)⟩, ⟨some 14, some (11, true), .nilCheck (.tmp 13)⟩, ⟨some 15, some (11, true), .field 0 (.tmp 14)⟩, ⟨some 16, some (11, true), .load false 1 (.tmp 15)⟩, ⟨some 17, some (11, true), .bin .lss (.tmp 12) (.tmp 16)⟩, ⟨some 18, none, .pick (.tmp 11) (.tmp 17) (.const (.bool false))⟩, ⟨some 4, none, .mov (.tmp 18)⟩])
  .ret)),
  [.tmp 4]⟩
theorem c228 : cprog Go.Proofs.Tryz.prog 228 = some C228 := by kernel_rfl
-- (*dustcart/side.Table).get
def C229 : CFunc := ⟨27, 0, (.seq (.region [⟨some 4, none, .mov (.const (.int .i64 0))⟩])
  (.seq (.region [⟨some 6, none, .mov (.tmp 1)⟩, ⟨some 7, none, .mov (.tmp 0)⟩, ⟨some 8, none, .nilCheck (.tmp 7)⟩, ⟨some 9, none, .field 1 (.tmp 8)⟩, ⟨some 10, none, .load false 1 (.tmp 9)⟩, ⟨some 11, none, .bin .mul (.tmp 6) (.tmp 10)⟩, ⟨some 5, none, .mov (.tmp 11)⟩])
  (.seq (.dregion [⟨⟨some 24, none, .mov (.tmp 0)⟩, 12, 0, 0⟩, ⟨⟨some 25, none, .call 268 [(.tmp 24)]⟩, 13, 3, 0⟩, ⟨⟨some 12, none, .mov (.tmp 0)⟩, 0, 0, 0⟩, ⟨⟨some 13, none, .nilCheck (.tmp 12)⟩, 1, 0, 0⟩, ⟨⟨some 14, none, .field 2 (.tmp 13)⟩, 2, 0, 0⟩, ⟨⟨some 15, none, .load false 1 (.tmp 14)⟩, 3, 1, 0⟩, ⟨⟨some 16, none, .mov (.tmp 5)⟩, 4, 0, 0⟩, ⟨⟨some 17, none, .bin .quo (.tmp 16) (.const (.int .i64 64))⟩, 5, 0, 0⟩, ⟨⟨some 18, none, .index 1 (.tmp 15) (.tmp 17)⟩, 6, 0, 0⟩, ⟨⟨some 19, none, .load false 1 (.tmp 18)⟩, 7, 1, 0⟩, ⟨⟨some 20, none, .mov (.tmp 5)⟩, 8, 0, 0⟩, ⟨⟨some 21, none, .bin .rem (.tmp 20) (.const (.int .i64 64))⟩, 9, 0, 0⟩, ⟨⟨some 22, none, .shift .shr (.tmp 19) (.tmp 21)⟩, 10, 0, 0⟩, ⟨⟨some 23, none, .conv .i64 (.tmp 22)⟩, 11, 0, 0⟩, ⟨⟨some 26, none, .bin .and (.tmp 23) (.tmp 25)⟩, 14, 0, 1⟩, ⟨⟨some 4, none, .mov (.tmp 26)⟩, 15, 0, 1⟩])
  .ret))),
  [.tmp 4]⟩
theorem c229 : cprog Go.Proofs.Tryz.prog 229 = some C229 := by kernel_rfl
-- (*dustcart/side.Table).made
def C265 : CFunc := ⟨12, 0, (.seq (.region [⟨some 2, none, .mov (.const (.bool false))⟩])
  (.seq (.region [⟨some 3, none, .mov (.tmp 0)⟩, ⟨some 4, none, .eqv true 1 (.tmp 3) (.const (.nilPtr))⟩, ⟨some 5, none, .mov (.tmp 4)⟩, ⟨some 6, some (5, true), .mov (.tmp 0)⟩, ⟨some 7, some (5, true), .nilCheck (.tmp 6)⟩, ⟨some 8, some (5, true), .field 0 (.tmp 7)⟩, ⟨some 9, some (5, true), .load false 1 (.tmp 8)⟩, ⟨some 10, some (5, true), .bin .gtr (.tmp 9) (.const (.int .i64 0))⟩, ⟨some 11, none, .pick (.tmp 5) (.tmp 10) (.const (.bool false))⟩, ⟨some 2, none, .mov (.tmp 11)⟩])
  .ret)),
  [.tmp 2]⟩
theorem c265 : cprog Go.Proofs.Tryz.prog 265 = some C265 := by kernel_rfl
-- (*dustcart/side.Table).most
def C268 : CFunc := ⟨9, 0, (.seq (.region [⟨some 2, none, .mov (.const (.int .i64 0))⟩])
  (.seq (.region [⟨some 3, none, .mov (.tmp 0)⟩, ⟨some 4, none, .nilCheck (.tmp 3)⟩, ⟨some 5, none, .field 1 (.tmp 4)⟩, ⟨some 6, none, .load false 1 (.tmp 5)⟩, ⟨some 7, none, .shift .shl (.const (.int .i64 1)) (.tmp 6)⟩, ⟨some 8, none, .bin .sub (.tmp 7) (.const (.int .i64 1))⟩, ⟨some 2, none, .mov (.tmp 8)⟩])
  .ret)),
  [.tmp 2]⟩
theorem c268 : cprog Go.Proofs.Tryz.prog 268 = some C268 := by kernel_rfl
end Go.Cs.Tryz

/- Has, on a heap without objects: false at every address. -/
noncomputable section
namespace Go.Cs.Tryz
open Go Go.Cs Go.Cs.K
set_option maxRecDepth 100000
noncomputable abbrev P : CProg := cprog Go.Proofs.Tryz.prog

/-- What an entry is, as the program finds it. -/
def bitV (W i : Int) : Int := IntKind.i64.wrap ((BitVec.ofInt 64 (IntKind.i64.wrap (W.fdiv (2 ^ min (i.tmod 64).toNat 64))) &&& BitVec.ofInt 64 1).toNat : Int)

/-- A side table of one bit per entry. -/
structure Side (H : CHeap) (b o : Nat) (n : Int) (wl : Nat) (ws : Nat → Int) : Prop where
  ex : ∃ wb wo cap tl, ld H[b]? o = some (.i n) ∧ ld H[b]? (o + 1) = some (.i 1) ∧ ld H[b]? (o + 2) = some (.slice wb wo wl cap 1 tl) ∧ ∀ i, i < wl → ld H[wb]? (wo + i) = some (.int .u64 (ws i))
  small : n ≤ 64 * wl ∧ wl ≤ 1000000

def getV (ws : Nat → Int) (i : Int) : Int := bitV (ws (i.tdiv 64).toNat) i

section
variable {H : CHeap} {b o wl : Nat} {n : Int} {ws : Nat → Int}

theorem g265 (s : Side H b o n wl ws) : run P 265 [.ptr b o] H = some (.bool (decide (0 < n)), H) := by
  obtain ⟨wb, wo, cap, tl, h0, h1, h2, h3⟩ := s.ex
  rw [run_lv c265 _ _ (by simp)]
  simp (disch := first | omega | rfl | assumption | (simp only [csN, Nat.reduceAdd, Nat.reduceMul, Nat.reduceLeDiff, Nat.reduceEqDiff] <;> omega) | (simp only [csF]; done) | (simp only [csF] <;> assumption) | fail) only [Nat.reduceEqDiff, Nat.reduceAdd, Nat.reduceMul, Nat.reduceSub, Nat.reduceLeDiff, Int.reduceAdd, Int.reduceSub, Int.reduceMul, Int.reduceLT, Int.reduceLE, Int.reduceGT, Int.reduceGE, Int.reduceEq, Int.reduceBEq, Int.reduceBNe, Int.reduceNeg, Int.reduceToNat, csAll, ↓reduceIte, entry_1, h0, eqvneg, Bool.not_false]

theorem g268 (s : Side H b o n wl ws) : run P 268 [.ptr b o] H = some (.i 1, H) := by
  obtain ⟨wb, wo, cap, tl, h0, h1, h2, h3⟩ := s.ex
  rw [run_lv c268 _ _ (by simp)]
  have e : IntKind.i64.wrap (1 * 2 ^ min 1 IntKind.i64.bits) = 2 := by decide
  have e2 : IntKind.i64.wrap (2 - 1) = 1 := by decide
  simp (disch := first | omega | rfl | assumption | (simp only [csN, Nat.reduceAdd, Nat.reduceMul, Nat.reduceLeDiff, Nat.reduceEqDiff] <;> omega) | (simp only [csF]; done) | (simp only [csF] <;> assumption) | fail) only [Nat.reduceEqDiff, Nat.reduceAdd, Nat.reduceMul, Nat.reduceSub, Nat.reduceLeDiff, Int.reduceAdd, Int.reduceSub, Int.reduceMul, Int.reduceLT, Int.reduceLE, Int.reduceGT, Int.reduceGE, Int.reduceEq, Int.reduceBEq, Int.reduceBNe, Int.reduceNeg, Int.reduceToNat, csAll, ↓reduceIte, entry_1, h1, opc_shift, vShl, e, e2]

theorem g229 (s : Side H b o n wl ws) {i : Int} (hi : 0 ≤ i ∧ i < n) : run P 229 [.ptr b o, .i i] H = some (.i (getV ws i), H) := by
  have h4 := g268 s
  obtain ⟨wb, wo, cap, tl, h0, h1, h2, h3⟩ := s.ex
  have hs := s.small
  have hd : i.tdiv 64 = i / 64 := Int.tdiv_eq_ediv_of_nonneg hi.1
  have hm : i.tmod 64 = i % 64 := Int.tmod_eq_emod_of_nonneg hi.1
  have hq : IntKind.i64.wrap (i.tdiv 64) = i.tdiv 64 := wrap_id (by rw [hd]; omega)
  have hx := h3 (i.tdiv 64).toNat (by rw [hd]; omega)
  have hb1 : 0 ≤ i.tdiv 64 ∧ i.tdiv 64 < (wl : Int) := by rw [hd]; omega
  have hb2 : 0 ≤ i.tmod 64 := by rw [hm]; omega
  rw [run_lv c229 _ _ (by simp)]
  simp (disch := first | omega | rfl | assumption | (simp only [csN, Nat.reduceAdd, Nat.reduceMul, Nat.reduceLeDiff, Nat.reduceEqDiff] <;> omega) | (simp only [csF]; done) | (simp only [csF] <;> assumption) | fail) only [Nat.reduceEqDiff, Nat.reduceAdd, Nat.reduceMul, Nat.reduceSub, Nat.reduceLeDiff, Int.reduceAdd, Int.reduceSub, Int.reduceMul, Int.reduceLT, Int.reduceLE, Int.reduceGT, Int.reduceGE, Int.reduceEq, Int.reduceBEq, Int.reduceBNe, Int.reduceNeg, Int.reduceToNat, csAll, ↓reduceIte, entry_2, h0, h1, h2, h4, mk_shift, mShr, mk_conv, mConv_i, mBin_and, mBin_quo, mBin_rem, hq, hx, Int.mul_one, IntKind.bits]
  rfl

theorem g228 (s : Side H b o n wl ws) (i : Int) : run P 228 [.ptr b o, .i i] H = some (.bool (decide (0 < n) && (decide (0 ≤ i) && decide (i < n))), H) := by
  have h1 := g265 s
  obtain ⟨wb, wo, cap, tl, h0, -⟩ := s.ex
  rw [run_lv c228 _ _ (by simp)]
  by_cases hn : 0 < n
  · by_cases hi : 0 ≤ i
    · simp (disch := first | omega | rfl | assumption | (simp only [csN, Nat.reduceAdd, Nat.reduceMul, Nat.reduceLeDiff, Nat.reduceEqDiff] <;> omega) | (simp only [csF]; done) | (simp only [csF] <;> assumption) | fail) only [Nat.reduceEqDiff, Nat.reduceAdd, Nat.reduceMul, Nat.reduceSub, Nat.reduceLeDiff, Int.reduceAdd, Int.reduceSub, Int.reduceMul, Int.reduceLT, Int.reduceLE, Int.reduceGT, Int.reduceGE, Int.reduceEq, Int.reduceBEq, Int.reduceBNe, Int.reduceNeg, Int.reduceToNat, csAll, ↓reduceIte, entry_2, h0, h1, hn, hi, decide_true, decide_false, Bool.true_and, Bool.false_and]
    · simp (disch := first | omega | rfl | assumption | (simp only [csN, Nat.reduceAdd, Nat.reduceMul, Nat.reduceLeDiff, Nat.reduceEqDiff] <;> omega) | (simp only [csF]; done) | (simp only [csF] <;> assumption) | fail) only [Nat.reduceEqDiff, Nat.reduceAdd, Nat.reduceMul, Nat.reduceSub, Nat.reduceLeDiff, Int.reduceAdd, Int.reduceSub, Int.reduceMul, Int.reduceLT, Int.reduceLE, Int.reduceGT, Int.reduceGE, Int.reduceEq, Int.reduceBEq, Int.reduceBNe, Int.reduceNeg, Int.reduceToNat, csAll, ↓reduceIte, entry_2, h0, h1, hn, hi, decide_true, decide_false, Bool.true_and, Bool.false_and]
  · simp (disch := first | omega | rfl | assumption | (simp only [csN, Nat.reduceAdd, Nat.reduceMul, Nat.reduceLeDiff, Nat.reduceEqDiff] <;> omega) | (simp only [csF]; done) | (simp only [csF] <;> assumption) | fail) only [Nat.reduceEqDiff, Nat.reduceAdd, Nat.reduceMul, Nat.reduceSub, Nat.reduceLeDiff, Int.reduceAdd, Int.reduceSub, Int.reduceMul, Int.reduceLT, Int.reduceLE, Int.reduceGT, Int.reduceGE, Int.reduceEq, Int.reduceBEq, Int.reduceBNe, Int.reduceNeg, Int.reduceToNat, csAll, ↓reduceIte, entry_2, h0, h1, hn, decide_true, decide_false, Bool.true_and, Bool.false_and]

theorem bit_zero (i : Int) (hi : 0 ≤ i) : getV (fun _ => 0) i = 0 := by
  unfold getV
  have : bitV 0 i = 0 := by
    unfold bitV
    have h2 : (0 : Int).fdiv (2 ^ min (i.tmod 64).toNat 64) = 0 := by simp
    rw [h2]
    decide
  exact this

theorem g139 (s : Side H b o n wl (fun _ => 0)) (i : Int) : ∃ v, run P 139 [.ptr b o, .i i] H = some (.i v, H) ∧ v ≠ 1 := by
  have h1 := g228 s i
  by_cases hi : 0 ≤ i ∧ i < n
  · have h2 := g229 s hi
    rw [bit_zero i hi.1] at h2
    have e : (decide (0 < n) && (decide (0 ≤ i) && decide (i < n))) = true := by simp; omega
    rw [e] at h1
    refine ⟨0, ?_, by decide⟩
    rw [run_lv c139 _ _ (by simp)]
    simp (disch := first | omega | rfl | assumption | (simp only [csN, Nat.reduceAdd, Nat.reduceMul, Nat.reduceLeDiff, Nat.reduceEqDiff] <;> omega) | (simp only [csF]; done) | (simp only [csF] <;> assumption) | fail) only [Nat.reduceEqDiff, Nat.reduceAdd, Nat.reduceMul, Nat.reduceSub, Nat.reduceLeDiff, Int.reduceAdd, Int.reduceSub, Int.reduceMul, Int.reduceLT, Int.reduceLE, Int.reduceGT, Int.reduceGE, Int.reduceEq, Int.reduceBEq, Int.reduceBNe, Int.reduceNeg, Int.reduceToNat, csAll, ↓reduceIte, entry_2, h1, h2, Bool.not_true, Bool.not_false]
  · have e : (decide (0 < n) && (decide (0 ≤ i) && decide (i < n))) = false := by
      simp only [Bool.and_eq_false_iff, decide_eq_false_iff_not]; omega
    rw [e] at h1
    refine ⟨-1, ?_, by decide⟩
    rw [run_lv c139 _ _ (by simp)]
    simp (disch := first | omega | rfl | assumption | (simp only [csN, Nat.reduceAdd, Nat.reduceMul, Nat.reduceLeDiff, Nat.reduceEqDiff] <;> omega) | (simp only [csF]; done) | (simp only [csF] <;> assumption) | fail) only [Nat.reduceEqDiff, Nat.reduceAdd, Nat.reduceMul, Nat.reduceSub, Nat.reduceLeDiff, Int.reduceAdd, Int.reduceSub, Int.reduceMul, Int.reduceLT, Int.reduceLE, Int.reduceGT, Int.reduceGE, Int.reduceEq, Int.reduceBEq, Int.reduceBNe, Int.reduceNeg, Int.reduceToNat, csAll, ↓reduceIte, entry_2, h1, Bool.not_true, Bool.not_false]

/-- The heap has blocks, and a table of starts that is empty. -/
theorem g50 {hb ho bb bo bl bc be sb so : Nat} {bt : Bool} (e0 : ld H[hb]? ho = some (.slice bb bo bl bc be bt)) (hl : 0 < bl) (e2 : ld H[hb]? (ho + 2) = some (.ptr sb so)) (s : Side H sb so n wl (fun _ => 0)) (a : Int) :
    run P 50 [.ptr hb ho, .i a] H = some (.bool false, H) := by
  have h95 : run P 95 [.ptr hb ho] H = some (.bool true, H) := by
    rw [run_lv c95 _ _ (by simp)]
    have hl' : (0 : Int) < (bl : Int) := by omega
    simp (disch := first | omega | rfl | assumption | (simp only [csN, Nat.reduceAdd, Nat.reduceMul, Nat.reduceLeDiff, Nat.reduceEqDiff] <;> omega) | (simp only [csF]; done) | (simp only [csF] <;> assumption) | fail) only [Nat.reduceEqDiff, Nat.reduceAdd, Nat.reduceMul, Nat.reduceSub, Nat.reduceLeDiff, Int.reduceAdd, Int.reduceSub, Int.reduceMul, Int.reduceLT, Int.reduceLE, Int.reduceGT, Int.reduceGE, Int.reduceEq, Int.reduceBEq, Int.reduceBNe, Int.reduceNeg, Int.reduceToNat, csAll, ↓reduceIte, entry_1, e0, eqvneg, Bool.not_false, vLen, hl', decide_true]
  by_cases h1 : 0 ≤ a
  · have hr : IntKind.i64.wrap (a.tdiv 2) = a.tdiv 2 ∨ True := .inr trivial
    obtain ⟨v, hv, hv1⟩ := g139 s (IntKind.i64.wrap (a.tdiv 2))
    rw [run_lv c50 _ _ (by simp)]
    by_cases h2 : a.tmod 2 = 0
    · simp (disch := first | omega | rfl | assumption | (simp only [csN, Nat.reduceAdd, Nat.reduceMul, Nat.reduceLeDiff, Nat.reduceEqDiff] <;> omega) | (simp only [csF]; done) | (simp only [csF] <;> assumption) | fail) only [Nat.reduceEqDiff, Nat.reduceAdd, Nat.reduceMul, Nat.reduceSub, Nat.reduceLeDiff, Int.reduceAdd, Int.reduceSub, Int.reduceMul, Int.reduceLT, Int.reduceLE, Int.reduceGT, Int.reduceGE, Int.reduceEq, Int.reduceBEq, Int.reduceBNe, Int.reduceNeg, Int.reduceToNat, csAll, ↓reduceIte, entry_2, h95, h1, h2, e2, hv, hv1, mBin_rem, mBin_quo, vBin_rem, vBin_quo, decide_true, decide_false]
    · simp (disch := first | omega | rfl | assumption | (simp only [csN, Nat.reduceAdd, Nat.reduceMul, Nat.reduceLeDiff, Nat.reduceEqDiff] <;> omega) | (simp only [csF]; done) | (simp only [csF] <;> assumption) | fail) only [Nat.reduceEqDiff, Nat.reduceAdd, Nat.reduceMul, Nat.reduceSub, Nat.reduceLeDiff, Int.reduceAdd, Int.reduceSub, Int.reduceMul, Int.reduceLT, Int.reduceLE, Int.reduceGT, Int.reduceGE, Int.reduceEq, Int.reduceBEq, Int.reduceBNe, Int.reduceNeg, Int.reduceToNat, csAll, ↓reduceIte, entry_2, h95, h1, h2, e2, hv, hv1, mBin_rem, mBin_quo, vBin_rem, vBin_quo, decide_true, decide_false]
  · rw [run_lv c50 _ _ (by simp)]
    simp (disch := first | omega | rfl | assumption | (simp only [csN, Nat.reduceAdd, Nat.reduceMul, Nat.reduceLeDiff, Nat.reduceEqDiff] <;> omega) | (simp only [csF]; done) | (simp only [csF] <;> assumption) | fail) only [Nat.reduceEqDiff, Nat.reduceAdd, Nat.reduceMul, Nat.reduceSub, Nat.reduceLeDiff, Int.reduceAdd, Int.reduceSub, Int.reduceMul, Int.reduceLT, Int.reduceLE, Int.reduceGT, Int.reduceGE, Int.reduceEq, Int.reduceBEq, Int.reduceBNe, Int.reduceNeg, Int.reduceToNat, csAll, ↓reduceIte, entry_2, h95, h1, decide_true, decide_false]
end

section
variable {R : Type}
/-- Numbers without a sign. -/
def natsK : List CV → (List Nat → Option R) → Option R
  | [], k => k []
  | .int .u64 (.ofNat m) :: l, k => natsK l fun r => k (m :: r)
  | _ :: _, _ => none

theorem natsK_spec {x : R} : ∀ (l : List CV) {k : List Nat → Option R}, natsK l k = some x → ∃ r, l = r.map (fun (m : Nat) => CV.int .u64 m) ∧ k r = some x
  | [], k, h => ⟨[], rfl, h⟩
  | c :: l, k, h => by
    unfold natsK at h
    split at h
    · cases ‹c :: l = []›
    · rename_i m l' heq
      simp only [List.cons.injEq] at heq
      obtain ⟨rfl, rfl⟩ := heq
      obtain ⟨r, h1, h2⟩ := natsK_spec _ h
      exact ⟨m :: r, by rw [h1]; rfl, h2⟩
    · cases h

/-- A side table of one bit per entry: how many entries it has, and its words. -/
def sideK (H : KH) (b o : Nat) (k : Nat → List Nat → Option R) : Option R :=
  load1K H b o fun e => match e with
    | .int .i64 (.ofNat n) => load1K H b (Nat.succ o) fun w => match w with
      | .int .i64 (.ofNat 1) => load1K H b (Nat.succ (Nat.succ o)) fun s => match s with
        | .slice wb wo wl _ 1 _ => cond (Nat.ble n (Nat.mul 64 wl)) (cond (Nat.ble wl 1000000) (cond (Nat.ble 1 n) (loadNK H wb wo wl fun l => natsK l fun ws => k n ws) none) none) none
        | _ => none
      | _ => none
    | _ => none

theorem sideK_spec {H : KH} {b o : Nat} {k : Nat → List Nat → Option R} {x : R} (h : sideK H b o k = some x) : ∃ (n : Nat) (ws : List Nat) (wl : Nat), 0 < n ∧ Side (abs H) b o n wl (fun i => ((ws.getD i 0 : Nat) : Int)) ∧ k n ws = some x := by
  unfold sideK at h
  obtain ⟨e, h1, h⟩ := load1K_spec h
  split at h
  case h_2 => cases h
  rename_i n
  obtain ⟨w, h2, h⟩ := load1K_spec h
  split at h
  case h_2 => cases h
  obtain ⟨s, h3, h⟩ := load1K_spec h
  split at h
  case h_2 => cases h
  rename_i wb wo wl cap tl
  rw [cond_ble] at h
  split at h
  case isFalse => cases h
  rename_i c1
  rw [cond_ble] at h
  split at h
  case isFalse => cases h
  rename_i c2
  rw [cond_ble] at h
  split at h
  case isFalse => cases h
  rename_i c3
  obtain ⟨l, h4, h⟩ := loadNK_spec h
  obtain ⟨ws, h5, h⟩ := natsK_spec _ h
  refine ⟨n, ws, wl, c3, ⟨⟨wb, wo, cap, tl, by rw [← load1_ld]; exact h1, by rw [← load1_ld]; exact h2, by rw [← load1_ld]; exact h3, fun i hi => ?_⟩, ?_, c2⟩, h⟩
  · unfold loadN at h4
    unfold ld
    split at h4
    · rename_i blk hb
      split at h4
      · cases h4
      · rename_i hd
        split at h4
        · rename_i hle
          simp only [Option.some.injEq] at h4
          rw [hb]
          dsimp only
          rw [if_neg hd]
          have : ((blk.cells.drop wo).take wl)[i]? = (ws.map (fun (m : Nat) => CV.int .u64 m))[i]? := by rw [h4, h5]
          rw [List.getElem?_take, if_pos hi, List.getElem?_drop, List.getElem?_map] at this
          rw [this]
          have hl : ws.length = wl := by
            have := congrArg List.length h4
            rw [h5] at this
            simp at this
            omega
          rw [List.getElem?_eq_getElem (by omega), List.getD_eq_getElem?_getD, List.getElem?_eq_getElem (by omega)]
          rfl
        · cases h4
    · cases h4
  · have : n ≤ 64 * wl := c1
    omega


end

def zeros : List Nat → Bool
  | [] => true
  | m :: l => cond (Nat.beq m 0) (zeros l) false
theorem zeros_spec : ∀ {l : List Nat}, zeros l = true → ∀ i, l.getD i 0 = 0
  | [], _, i => by simp
  | m :: l, h, i => by
    unfold zeros at h
    rw [cond_beq] at h
    split at h
    · rename_i h0
      subst h0
      cases i with
      | zero => rfl
      | succ i => simpa using zeros_spec h i
    · cases h

/-- What the evaluator knows of Has: on a heap without objects. -/
def hasG (args : List CV) (H : KH) : Option (CV × KH) := match args with
  | [.ptr hb ho, .int .i64 _] => load1K H hb ho fun e => match e with
    | .slice _ _ (.succ _) _ _ _ => load1K H hb (Nat.succ (Nat.succ ho)) fun s => match s with
      | .ptr sb so => sideK H sb so fun _ ws => cond (zeros ws) (some (.bool false, H)) none
      | _ => none
    | _ => none
  | _ => none

theorem hasG_ok {args : List CV} {H : KH} {v : CV} {H' : KH} (h : hasG args H = some (v, H')) : run P 50 args (abs H) = some (v, abs H') := by
  unfold hasG at h
  split at h
  case h_2 => cases h
  rename_i hb ho a
  obtain ⟨e, h1, h⟩ := load1K_spec h
  split at h
  case h_2 => cases h
  rename_i bb bo bl bc be bt
  obtain ⟨s, h2, h⟩ := load1K_spec h
  split at h
  case h_2 => cases h
  rename_i sb so
  obtain ⟨n, ws, wl, hn, hs, h⟩ := sideK_spec h
  have hz : zeros ws = true := by
    cases hz : zeros ws with
    | true => rfl
    | false => rw [hz] at h; cases h
  rw [hz] at h
  simp only [cond_true, Option.some.injEq, Prod.mk.injEq] at h
  obtain ⟨rfl, rfl⟩ := h
  have e : (fun i => ((ws.getD i 0 : Nat) : Int)) = fun _ => 0 := by
    funext i; rw [zeros_spec hz i]; rfl
  rw [e] at hs
  exact g50 (by rw [← load1_ld]; exact h1) (Nat.succ_pos _) (by rw [← load1_ld]; exact h2) hs a
end Go.Cs.Tryz

/- WeakNone's run: true for every address, key, value, space and list. The kernel evaluates it. -/
noncomputable section
namespace Go.Cs.Tryz
open Go Go.Cs Go.Cs.K
set_option maxRecDepth 1000000
def bod (f : Nat) : CFunc := match cprog Go.Proofs.Tryz.prog f with | some cf => cf | none => default
theorem b4 : P 4 = some (bod 4) := by kernel_rfl
theorem s4 : ((bod 4).n, (bod 4).round, (bod 4).res) = (173, 0, [.tmp 10]) := by kernel_rfl
/-- With what is known of an empty heap. -/
def tab1 : TabS := fun f => cond (Nat.beq f 50) (some (.known hasG)) (tab f)
theorem tab1Ok : TabSOk tab1 (cprog Go.Proofs.Tryz.prog) where
  code f cf b h := by
    unfold tab1 at h
    simp only [cond_beq] at h
    split at h
    · simp at h
    · exact tabOk.code f cf b h
  known f g h := by
    unfold tab1 at h
    simp only [cond_beq] at h
    split at h
    · rename_i hf
      subst hf
      simp only [Option.some.injEq, FnS.known.injEq] at h
      subst h
      intro args H v H' h
      exact hasG_ok h
    · exact tabOk.known f g h
def ra : List CStmt := [⟨some 164, none, .mov (.tmp 11)⟩, ⟨some 165, none, .mov (.tmp 0)⟩, ⟨some 166, none, .mov (.tmp 1)⟩, ⟨some 167, none, .mov (.tmp 2)⟩, ⟨some 168, none, .mov (.tmp 3)⟩, ⟨some 169, none, .call 17 [(.tmp 164), (.tmp 165), (.tmp 166), (.tmp 167), (.tmp 168), (.const (.int .i64 4))]⟩]
def rb : List CStmt := [⟨some 170, none, .mov (.tmp 169)⟩, ⟨some 171, some (170, true), .call 10 []⟩, ⟨some 172, none, .pick (.tmp 170) (.tmp 171) (.const (.bool false))⟩, ⟨some 10, none, .mov (.tmp 172)⟩]
theorem d6 : dropC 6 (bod 4).body = .seq (.region (ra ++ rb)) .ret := by kernel_rfl
def isR (t : Nat) (r : Option R0) : Bool := match r with
  | some (.ret, E, _) => (match E.get t with | some (.bool true) => true | _ => false)
  | _ => false
theorem isR_some {t : Nat} {r : Option R0} (h : isR t r = true) : ∃ E H, r = some (.ret, E, H) ∧ envOf E t = .bool true := by
  unfold isR at h
  split at h
  · rename_i E H
    split at h
    · rename_i e
      exact ⟨E, H, rfl, by unfold envOf; rw [e]; rfl⟩
    · cases h
  · cases h
def onN (r : Option R0) (k : Tr CV → KH → Bool) : Bool := match r with
  | some (.normal, E, H) => k E H
  | _ => false
theorem onN_some {r : Option R0} {k : Tr CV → KH → Bool} (h : onN r k = true) : ∃ E H, r = some (.normal, E, H) ∧ k E H = true := by
  unfold onN at h
  split at h
  · exact ⟨_, _, rfl, h⟩
  · cases h
theorem all (x : KB) (W : CV) (a k v s : Int) : onN (evS tab 5000 (toS (takeC 6 (bod 4).body)) (putAll .nil 0 [.int .i64 a, .int .i64 k, .int .i64 v, .int .i64 s, W]) ⟨.node (some x) .nil .nil, 1⟩)
  (fun E H => onN (evS tab1 5000 (toS (.region ra)) E H) (fun E H => isR 10 (evS tab 5000 (toS (.seq (.region rb) .ret)) E H))) = true := by kernel_rfl
end Go.Cs.Tryz

/- WeakNone's run, joined. -/
noncomputable section
namespace Go.Cs.Tryz
open Go Go.Cs Go.Cs.K
set_option maxRecDepth 100000
theorem evOps_app (F : CallF) : ∀ (l m : List CStmt) (E : Env) (H : CHeap), evOps F (l ++ m) E H = (evOps F l E H).bind fun q => evOps F m q.1 q.2
  | [], m, E, H => rfl
  | s :: l, m, E, H => by
    simp only [List.cons_append, evOps]
    cases evStmt F s E H with
    | none => rfl
    | some q => simp only [Option.bind_some]; exact evOps_app F l m q.1 q.2
theorem den_split {p : CProg} {l m : List CStmt} {c : CCode} {E : Env} {H : CHeap} {E1 : Env} {H1 : CHeap} (h : evOps (run p) l E H = some (E1, H1)) : den p (.seq (.region (l ++ m)) c) E H = den p (.seq (.region m) c) E1 H1 := by
  rw [den_eq, den_eq]
  dsimp only
  rw [den_eq, den_eq]
  dsimp only
  rw [evOps_app, h]
  rfl
theorem leave_of {cf : CFunc} {n t : Nat} (h : (cf.n, cf.round, cf.res) = (n, 0, [.tmp t])) (E : Env) (H : CHeap) : leave cf (.ret, E, H) = some (E t, H) := by
  obtain ⟨m, r, b, s⟩ := cf
  simp only [Prod.mk.injEq] at h
  obtain ⟨rfl, rfl, rfl⟩ := h
  rfl
theorem n_of {cf : CFunc} {n r : Nat} {s : List CRes} (h : (cf.n, cf.round, cf.res) = (n, r, s)) : cf.n = n := by
  simp only [Prod.mk.injEq] at h
  exact h.1
theorem f4 (x : KB) (W : CV) (a k v s : Int) : ∃ H', run P 4 [.int .i64 a, .int .i64 k, .int .i64 v, .int .i64 s, W] [absB x] = some (.bool true, H') := by
  have hH : [absB x] = abs ⟨.node (some x) .nil .nil, 1⟩ := rfl
  obtain ⟨E1, H1, h1, h⟩ := onN_some (all x W a k v s)
  obtain ⟨E2, H2, h2, h⟩ := onN_some h
  obtain ⟨E9, H9, h9, h10⟩ := isR_some h
  have h2' := evS_spec tab1Ok _ h2
  rw [den_eq] at h2'
  have h2'' : evOps (run P) ra (envOf E1) (abs H1) = some (envOf E2, abs H2) := by
    simpa using h2'
  rw [run_start b4 (by rw [n_of s4]; simp), hH, runPart tabOk h1, d6, den_split h2'', evS_spec tabOk _ h9, Option.bind_some, leave_of s4, h10]
  exact ⟨_, rfl⟩
theorem f4' {blk : Blk} (W : CV) (a k v s : Int) : ∃ H', run P 4 [.i a, .i k, .i v, .i s, W] [blk] = some (.bool true, H') := by
  have hx : blk = absB (.row (putAll .nil 0 blk.cells) blk.cells.length blk.mode blk.esz) := by
    simp only [absB, rowL_new]
  have := f4 (.row (putAll .nil 0 blk.cells) blk.cells.length blk.mode blk.esz) W a k v s
  rwa [← hx] at this
end Go.Cs.Tryz

/-
  DERIVED: THE SHELF's CONTRACTS AT THIS DUMP, IN PLAIN WORDS (tools/lay-plain.mjs out of 'TryzShelf.lean', which tools/lay-shelf.mjs wrote): THE SAME DECLARATIONS UNDER THE SAME NAMES: 'import', 'namespace', 'open', 'def', 'theorem' AND NOTHING ELSE: no command of the shelf's: FOR A HAND-IN. Each laying: the table of numbers ('.._ren') and one theorem, a field a fact of the dump's own or the kernel's comparison; each contract: ONE APPLICATION.
-/
namespace Go.Proofs
open Go.Shelf
def Tryz.keysA_ren : Go.Shelf.Ren := ⟨fun | 7 => 46 | 10 => 138 | n => n, fun | 23 => 113 | 26 => 3 | 3 => 4 | 28 => 118 | 0 => 0 | 27 => 117 | 33 => 126 | 4 => 4 | n => n, fun | n => n⟩
theorem Tryz.keysA : Go.Proofs.SlLaysZI.n7 Tryz.prog Tryz.keysA_ren := {
  mixed := by kernel_rfl
  f7 := ⟨Tryz.f46.name, by decide, Tryz.func46.trans (congrArg some (by kernel_rfl))⟩
  f10 := ⟨Tryz.f138.name, by decide, Tryz.func138.trans (congrArg some (by kernel_rfl))⟩
  t0 := Tryz.underlying0
  a0 := Tryz.isAgg0
  z0 := Tryz.sizeOf0
  v0 := Tryz.zeroValue0
  t4 := Tryz.underlying4
  a4 := Tryz.isAgg4
  z4 := Tryz.sizeOf4
  v4 := Tryz.zeroValue4
  t23 := Tryz.underlying113
  a23 := Tryz.isAgg113
  z23 := Tryz.sizeOf113
  v23 := Tryz.zeroValue113
  t26 := Tryz.underlying3
  a26 := Tryz.isAgg3
  z26 := Tryz.sizeOf3
  v26 := Tryz.zeroValue3
  t27 := Tryz.underlying117
  a27 := Tryz.isAgg117
  z27 := Tryz.sizeOf117
  v27 := Tryz.zeroValue117
  t28 := Tryz.underlying118
  a28 := Tryz.isAgg118
  z28 := Tryz.sizeOf118
  v28 := Tryz.zeroValue118
  t33 := Tryz.underlying126
  a33 := Tryz.isAgg126
  z33 := Tryz.sizeOf126
  v33 := Tryz.zeroValue126 }
def Tryz.sortedA_ren : Go.Shelf.Ren := ⟨fun | 6 => 45 | 8 => 136 | 9 => 137 | 11 => 225 | 13 => 227 | 12 => 226 | 23 => 277 | 24 => 278 | 14 => 269 | 15 => 270 | 16 => 271 | 17 => 272 | 18 => 273 | 19 => 274 | 20 => 140 | 21 => 275 | 22 => 276 | 25 => 303 | 26 => 304 | 27 => 305 | 28 => 306 | 29 => 307 | 30 => 230 | 31 => 315 | n => n, fun | 26 => 3 | 28 => 118 | 24 => 36 | 0 => 0 | 3 => 3 | 37 => 210 | 48 => 301 | 50 => 292 | 4 => 4 | 40 => 295 | 39 => 294 | 45 => 127 | 5 => 5 | 9 => 9 | 51 => 322 | 55 => 183 | 57 => 330 | 58 => 331 | 33 => 126 | n => n, fun | n => n⟩
theorem Tryz.sortedA : Go.Proofs.SlLaysZI.n6 Tryz.prog Tryz.sortedA_ren := {
  mixed := by kernel_rfl
  f6 := ⟨Tryz.f45.name, by decide, Tryz.func45.trans (congrArg some (by kernel_rfl))⟩
  f8 := ⟨Tryz.f136.name, by decide, Tryz.func136.trans (congrArg some (by kernel_rfl))⟩
  f11 := ⟨Tryz.f225.name, by decide, Tryz.func225.trans (congrArg some (by kernel_rfl))⟩
  t0 := Tryz.underlying0
  a0 := Tryz.isAgg0
  z0 := Tryz.sizeOf0
  v0 := Tryz.zeroValue0
  t24 := Tryz.underlying36
  a24 := Tryz.isAgg36
  z24 := Tryz.sizeOf36
  v24 := Tryz.zeroValue36
  t26 := Tryz.underlying3
  a26 := Tryz.isAgg3
  z26 := Tryz.sizeOf3
  v26 := Tryz.zeroValue3
  t28 := Tryz.underlying118
  a28 := Tryz.isAgg118
  z28 := Tryz.sizeOf118
  v28 := Tryz.zeroValue118
  i26 := by kernel_rfl }
def Tryz.sortA_ren : Go.Shelf.Ren := ⟨fun | 5 => 137 | 8 => 227 | 7 => 226 | 19 => 277 | 20 => 278 | 10 => 269 | 11 => 270 | 12 => 271 | 13 => 272 | 14 => 273 | 15 => 274 | 16 => 140 | 17 => 275 | 18 => 276 | 30 => 303 | 31 => 304 | 32 => 305 | 33 => 306 | 34 => 307 | 35 => 230 | 40 => 315 | n => n, fun | 23 => 36 | 25 => 3 | 3 => 3 | 32 => 210 | 22 => 36 | 0 => 0 | 44 => 301 | 46 => 292 | 4 => 4 | 36 => 295 | 35 => 294 | 41 => 127 | 5 => 5 | 9 => 9 | 53 => 322 | 57 => 183 | 63 => 330 | 64 => 331 | n => n, fun | n => n⟩
theorem Tryz.sortA : Go.Proofs.SlLaysM.n5 Tryz.prog Tryz.sortA_ren := {
  mixed := by kernel_rfl
  f5 := ⟨Tryz.f137.name, by decide, Tryz.func137.trans (congrArg some (by kernel_rfl))⟩
  f7 := ⟨Tryz.f226.name, by decide, Tryz.func226.trans (congrArg some (by kernel_rfl))⟩
  f8 := Tryz.func227.trans (congrArg some (by kernel_rfl))
  f10 := ⟨Tryz.f269.name, by decide, Tryz.func269.trans (congrArg some (by kernel_rfl))⟩
  f11 := ⟨Tryz.f270.name, by decide, Tryz.func270.trans (congrArg some (by kernel_rfl))⟩
  f12 := ⟨Tryz.f271.name, by decide, Tryz.func271.trans (congrArg some (by kernel_rfl))⟩
  f13 := ⟨Tryz.f272.name, by decide, Tryz.func272.trans (congrArg some (by kernel_rfl))⟩
  f14 := ⟨Tryz.f273.name, by decide, Tryz.func273.trans (congrArg some (by kernel_rfl))⟩
  f15 := ⟨Tryz.f274.name, by decide, Tryz.func274.trans (congrArg some (by kernel_rfl))⟩
  f16 := ⟨Tryz.f140.name, by decide, Tryz.func140.trans (congrArg some (by kernel_rfl))⟩
  f17 := ⟨Tryz.f275.name, by decide, Tryz.func275.trans (congrArg some (by kernel_rfl))⟩
  f18 := ⟨Tryz.f276.name, by decide, Tryz.func276.trans (congrArg some (by kernel_rfl))⟩
  f19 := Tryz.func277.trans (congrArg some (by kernel_rfl))
  f20 := Tryz.func278.trans (congrArg some (by kernel_rfl))
  f30 := ⟨Tryz.f303.name, by decide, Tryz.func303.trans (congrArg some (by kernel_rfl))⟩
  f31 := Tryz.func304.trans (congrArg some (by kernel_rfl))
  f32 := Tryz.func305.trans (congrArg some (by kernel_rfl))
  f33 := ⟨Tryz.f306.name, by decide, Tryz.func306.trans (congrArg some (by kernel_rfl))⟩
  f34 := ⟨Tryz.f307.name, by decide, Tryz.func307.trans (congrArg some (by kernel_rfl))⟩
  f35 := ⟨Tryz.f230.name, by decide, Tryz.func230.trans (congrArg some (by kernel_rfl))⟩
  f40 := ⟨Tryz.f315.name, by decide, Tryz.func315.trans (congrArg some (by kernel_rfl))⟩
  t0 := Tryz.underlying0
  a0 := Tryz.isAgg0
  z0 := Tryz.sizeOf0
  v0 := Tryz.zeroValue0
  t3 := Tryz.underlying3
  a3 := Tryz.isAgg3
  z3 := Tryz.sizeOf3
  v3 := Tryz.zeroValue3
  t4 := Tryz.underlying4
  a4 := Tryz.isAgg4
  z4 := Tryz.sizeOf4
  v4 := Tryz.zeroValue4
  t5 := Tryz.underlying5
  a5 := Tryz.isAgg5
  z5 := Tryz.sizeOf5
  v5 := Tryz.zeroValue5
  t9 := Tryz.underlying9
  a9 := Tryz.isAgg9
  z9 := Tryz.sizeOf9
  v9 := Tryz.zeroValue9
  t22 := Tryz.underlying36
  a22 := Tryz.isAgg36
  z22 := Tryz.sizeOf36
  v22 := Tryz.zeroValue36
  t23 := Tryz.underlying36
  a23 := Tryz.isAgg36
  z23 := Tryz.sizeOf36
  v23 := Tryz.zeroValue36
  t25 := Tryz.underlying3
  a25 := Tryz.isAgg3
  z25 := Tryz.sizeOf3
  v25 := Tryz.zeroValue3
  t32 := Tryz.underlying210
  a32 := Tryz.isAgg210
  z32 := Tryz.sizeOf210
  v32 := Tryz.zeroValue210
  t35 := Tryz.underlying294
  a35 := Tryz.isAgg294
  z35 := Tryz.sizeOf294
  v35 := Tryz.zeroValue294
  t36 := Tryz.underlying295
  a36 := Tryz.isAgg295
  z36 := Tryz.sizeOf295
  v36 := Tryz.zeroValue295
  t41 := Tryz.underlying127
  a41 := Tryz.isAgg127
  z41 := Tryz.sizeOf127
  v41 := Tryz.zeroValue127
  t44 := Tryz.underlying301
  a44 := Tryz.isAgg301
  z44 := Tryz.sizeOf301
  v44 := Tryz.zeroValue301
  t46 := Tryz.underlying292
  a46 := Tryz.isAgg292
  z46 := Tryz.sizeOf292
  v46 := Tryz.zeroValue292
  t53 := Tryz.underlying322
  a53 := Tryz.isAgg322
  z53 := Tryz.sizeOf322
  v53 := Tryz.zeroValue322
  t57 := Tryz.underlying183
  a57 := Tryz.isAgg183
  z57 := Tryz.sizeOf183
  v57 := Tryz.zeroValue183
  t63 := Tryz.underlying330
  a63 := Tryz.isAgg330
  z63 := Tryz.sizeOf330
  v63 := Tryz.zeroValue330
  t64 := Tryz.underlying331
  a64 := Tryz.isAgg331
  z64 := Tryz.sizeOf331
  v64 := Tryz.zeroValue331 }
end Go.Proofs

/- Go's library sorts integers, and hands back the sorted keys of a map: at this program, by the kit's contracts. -/
namespace Go.Cs.Tryz
open Go Go.Cs Go.Proofs Go.RowKit Go.Maps Go.Sort Go.Shelf
open Go.WideElems (Fit rd rg rg_of)

theorem sortC : SortC Go.Proofs.Tryz.prog 137 :=
  ⟨fun blk off cap zs w hH hblk hsz => AnyM.slices_Sort_int Go.Proofs.Tryz.sortA blk off cap zs w hH hblk (by omega), fun p cap w => AnyM.slices_Sort_int_none Go.Proofs.Tryz.sortA p cap w⟩

theorem sortsA (m : Nat) : AnyZI.SortsIn Go.Proofs.Tryz.prog Go.Proofs.Tryz.sortedA_ren Fence.wide m :=
  ⟨fun blk off cap ss W hH hblk hsz => callsIn_wide.2 (AnyM.slices_Sort_int Go.Proofs.Tryz.sortA blk off cap ss W hH hblk hsz),
   fun p cap W => callsIn_wide.2 (AnyM.slices_Sort_int_none Go.Proofs.Tryz.sortA p cap W)⟩

/-- How a value is read: it is not. -/
def anyR : Value → Option (DataW Unit × List MemPlace) := fun _ => some (.lit (.bool true), [])

theorem key_of {n : Int} (h : inI64 n = true) : keyOf Go.Proofs.Tryz.prog 3 (.int .i64 n) = some (.int .i64 n) := by
  have hw : (Lit.int .i64 n).wf = true := h
  simp [keyOf, hw, show Go.Proofs.Tryz.prog.underlying 3 = some (.int .i64) from by kernel_rfl, mapKey]

theorem keysC : KeysC Go.Proofs.Tryz.prog 45 138 := by
  intro w Bm b es cl ks hcell hb hst hkeys hlen hrange hBm
  have hsz : es.size = ks.length := by have := congrArg List.length hkeys; simpa using this
  have hmem : ∀ x ∈ es.toList, ∃ n, n ∈ ks ∧ x.key = .int .i64 n := by
    intro x hx
    have : x.key ∈ ks.map (Value.int .i64) := by rw [← hkeys]; exact List.mem_map_of_mem hx
    obtain ⟨n, hn, e⟩ := List.mem_map.1 this
    exact ⟨n, hn, e.symm⟩
  have hin : ∀ n ∈ ks, inI64 n = true := fun n hn => List.all_eq_true.1 hrange n hn
  have hrd : ∀ (x : MapEntry) (n : Int), n ∈ ks → x.key = .int .i64 n → rd Go.Proofs.Tryz.prog 3 anyR x = some (.int .i64 n, .lit (.bool true)) := by
    intro x n hn hx
    simp [Go.WideElems.rd, hx, key_of (hin n hn), anyR]
  have hown : w.ownsMap Go.Proofs.Tryz.prog 3 anyR b es.size (.map ((es.toList.map (rg Go.Proofs.Tryz.prog 3 anyR)).foldr DataW.insert [])) :=
    ⟨es, cl, hb, ⟨by rw [hsz]; exact Nat.le_trans hlen (by decide), hst, fun x hx => by obtain ⟨n, hn, e⟩ := hmem x hx; exact ⟨_, hrd x n hn e⟩⟩, Nat.le_refl _, rfl⟩
  generalize hD : (DataW.map ((es.toList.map (rg Go.Proofs.Tryz.prog 3 anyR)).foldr DataW.insert []) : DataW Unit) = D0 at hown
  have hsize : Maps.size D0 = es.size := by rw [← hD]; simp [Maps.size, length_sorted]
  have hperm : (intKeys D0).Perm ks := by
    rw [← hD]
    have h1 : (((es.toList.map (rg Go.Proofs.Tryz.prog 3 anyR)).foldr DataW.insert []).map fun p => intOf p.1).Perm ((es.toList.map (rg Go.Proofs.Tryz.prog 3 anyR)).map fun p => intOf p.1) := (WideShapes.sorted_perm _).map _
    refine h1.trans ?_
    have h2 : (es.toList.map (rg Go.Proofs.Tryz.prog 3 anyR)).map (fun p => intOf p.1) = ks := by
      have h3 : ∀ (l : List MapEntry) (k : List Int), (∀ n ∈ k, n ∈ ks) → l.map (·.key) = k.map (Value.int .i64) → (l.map (rg Go.Proofs.Tryz.prog 3 anyR)).map (fun p => intOf p.1) = k := by
        intro l
        induction l with
        | nil => intro k _ hk; cases k with
          | nil => rfl
          | cons a k => simp at hk
        | cons x l ih =>
          intro k hin2 hk
          cases k with
          | nil => simp at hk
          | cons a k =>
            simp only [List.map_cons, List.cons.injEq] at hk
            simp only [List.map_cons, List.cons.injEq]
            exact ⟨by rw [rg_of (hrd x a (hin2 a List.mem_cons_self) hk.1)]; rfl, ih k (fun n hn => hin2 n (List.mem_cons_of_mem _ hn)) hk.2⟩
      exact h3 _ _ (fun _ h => h) hkeys
    rw [h2]
  have hseq : SeqGives Fence.wide 2 Go.Proofs.Tryz.prog 138 #[.pointer (some ⟨Bm, 0, none⟩)] encZ (fun ss => ss.Perm (intKeys D0)) (Maps.size D0) w :=
    AnyZI.keys_gives (ρ := Go.Proofs.Tryz.keysA_ren) { Go.Proofs.Tryz.keysA with } Fence.wide _ trivial rfl (by omega) Bm b es.size D0 w hBm hcell hown
  have cS := AnyZI.sorted_in Go.Proofs.Tryz.sortedA Fence.wide 5 trivial trivial trivial trivial rfl (by omega) (sortsA _) (enters_of Go.Proofs.Tryz.func137 (by kernel_rfl) rfl) 138 #[.pointer (some ⟨Bm, 0, none⟩)] trivial (enters_of Go.Proofs.Tryz.func138 (by kernel_rfl) rfl) _ _ (by rw [hsize, hsz]; exact Nat.le_trans hlen (by decide)) (by rw [hsize, hsz]; omega) w hseq
  change CallsIn _ _ Go.Proofs.Tryz.prog 45 _ _ _ at cS
  refine (callsIn_wide.1 cS).mono ?_
  rintro e w' ⟨v, ss, rfl, hS, hrow, hnil, hbel⟩
  have hp : ss.Perm ks := hS.trans hperm
  have hsort : ss.mergeSort (fun x y => decide (x ≤ y)) = ks.mergeSort (fun x y => decide (x ≤ y)) := by
    rw [mergeSort_sortZ, mergeSort_sortZ]
    exact sortZ_unique ((sortZ_perm ss).trans hp) (sortZ_sorted ss)
  refine ⟨v, rfl, hbel, ?_⟩
  have hl : ss.length = ks.length := hp.length_eq
  rcases hrow.2 with ⟨rfl, h0⟩ | ⟨g, cap, cur, rfl, h1, h2, h3, h4, h5, h6⟩
  · exact .inl ⟨List.eq_nil_of_length_eq_zero (by omega), rfl⟩
  · refine .inr ⟨fun e => ?_, g, cap, cur, _, by rw [hl], h1, h2, by omega, by rw [h5, Nat.mul_one], ?_⟩
    · have : ss = [] := List.eq_nil_of_length_eq_zero (by rw [hl, e]; rfl)
      have := hnil.2 this
      cases this
    · rw [← hl, ← Nat.mul_one ss.length, h6, hsort]

theorem primsOk : PrimsOk Go.Proofs.Tryz.prog := by
  intro f fn hfn
  have hall : ((List.range Go.Proofs.Tryz.prog.funcs.size).all fun i => match Go.Proofs.Tryz.prog.funcs[i]? with | some fn => (!isSort fn || i == 137) && (!isSorted fn || i == 45) | none => true) = true := by kernel_rfl
  have hf : f < Go.Proofs.Tryz.prog.funcs.size := (Array.getElem?_eq_some_iff.1 hfn).1
  have h1 := List.all_eq_true.1 hall f (List.mem_range.2 hf)
  rw [hfn] at h1
  simp only [Bool.and_eq_true, Bool.or_eq_true, Bool.not_eq_true', beq_iff_eq] at h1
  refine ⟨fun h => ?_, fun h g hg => ?_⟩
  · rcases h1.1 with h2 | rfl
    · rw [h] at h2; cases h2
    · exact sortC
  · rcases h1.2 with h2 | rfl
    · rw [h] at h2; cases h2
    · have hk : keysFn Go.Proofs.Tryz.prog = some 138 := by kernel_rfl
      rw [hk] at hg
      simp only [Option.some.injEq] at hg
      subst hg
      exact keysC
end Go.Cs.Tryz

/- What the condition 'laid' gives: the package variables hold what they are said to hold. -/
namespace Go.Proofs.YtapomifipcbgmaaGreatDoor
open Go Go.Cs
set_option maxRecDepth 100000

def laidW : List (String × DataW Unit) := [("dustcart/weak.headShape", Rows.laid_dustcart_weak_headShape), ("dustcart/weak.entryShape", Rows.laid_dustcart_weak_entryShape)]

def intsB (P : Program) (t : TypeId) : Bool := match P.underlying t with
  | some (.struct fs) => decide (P.cellsOf t = fs.size) && fs.toList.zipIdx.all fun x => decide (x.1.offset = x.2) && decide (P.cellsOf x.1.type = 1) && (match P.underlying x.1.type with | some (.int .i64) => true | _ => false)
  | _ => false

/-- A struct of integers reads as what its cells are. -/
theorem trod_ints {H : Type} {enc : TypeId × Value → H} {P : Program} {w : World} {base : Nat} {spare : Nat → Bool} {held : Bool} {fuel : Nat} {t : TypeId} {cs : List Value} {zs : List Int} {p : List MemPlace}
    (hB : intsB P t = true) (h : DataW.trod enc P w base spare held fuel t cs = some (.agg (zs.map fun z => .lit (.int .i64 z)), p)) : cs = zs.map (Value.int .i64) := by
  unfold intsB at hB
  split at hB
  case h_2 => cases hB
  rename_i fs ht
  rw [Bool.and_eq_true, decide_eq_true_eq] at hB
  obtain ⟨hc, hf⟩ := hB
  obtain ⟨xs, n, rfl, hx, hl, hxl, hE⟩ := DataW.trod_struct ht h
  simp only [Prod.mk.injEq, DataW.agg.injEq] at hx
  have hz := hx.1
  have hzl : zs.length = fs.size := by
    have := congrArg List.length hz
    simp at this; omega
  refine List.ext_getElem? fun i => ?_
  by_cases hi : i < fs.size
  · have e := List.all_eq_true.1 hf (fs[i], i) (by
      rw [List.mem_iff_getElem]
      exact ⟨i, by simpa using hi, by simp⟩)
    simp only [Bool.and_eq_true, decide_eq_true_eq] at e
    obtain ⟨⟨e1, e2⟩, e3⟩ := e
    have h1 := hE i fs[i] (Array.getElem?_eq_getElem hi)
    have hxi : xs[i]? = some xs[i] := List.getElem?_eq_getElem (by omega)
    rw [hxi] at h1
    split at e3
    case h_2 => cases e3
    rename_i hu
    obtain ⟨m, q1, q2, -⟩ := DataW.trod_int hu h1
    rw [e1, e2] at q1
    have g1 : cs[i]? = some (.int .i64 m) := by
      have : ((cs.drop i).take 1)[0]? = some (Value.int .i64 m) := by rw [q1]; rfl
      rw [List.getElem?_take, if_pos (by omega), List.getElem?_drop] at this
      simpa using this
    have g2 : (zs.map fun z => (DataW.lit (.int .i64 z) : DataW H))[i]? = some (.lit (.int .i64 m)) := by
      rw [hz, List.getElem?_map, hxi, q2]; rfl
    rw [List.getElem?_map, Option.map_eq_some_iff] at g2
    obtain ⟨z, g3, g4⟩ := g2
    simp only [DataW.lit.injEq, Lit.int.injEq, true_and] at g4
    rw [g1, List.getElem?_map, g3, g4]; rfl
  · rw [List.getElem?_eq_none (by omega), List.getElem?_eq_none (by simp; omega)]

theorem gHead : Tryz.prog.globalNamed "dustcart/weak.headShape" = some 0 := by kernel_rfl
theorem gEntry : Tryz.prog.globalNamed "dustcart/weak.entryShape" = some 1 := by kernel_rfl
theorem tHead : (Tryz.prog.globals[0]?).map (·.type) = some 69 := by kernel_rfl
theorem tEntry : (Tryz.prog.globals[1]?).map (·.type) = some 69 := by kernel_rfl
theorem ints69 : intsB Tryz.prog 69 = true := by kernel_rfl
theorem globsAll : ((List.range Tryz.prog.globals.size).filter fun g => (globOf Tryz.prog g).isSome) = [0, 1] := by kernel_rfl
theorem gl0 : globOf Tryz.prog 0 = some [8, 1, 3] := by kernel_rfl
theorem gl1 : globOf Tryz.prog 1 = some [3, 1, 2] := by kernel_rfl

theorem cells_of {P : Program} {w : World} {n : String} {g : Nat} {cs : Array Value} (hg : P.globalNamed n = some g) (h : w.var? P n = some cs) : ∃ T fz, w.heap[g]? = some (.cells cs T fz) := by
  simp only [World.var?, hg, Option.bind_some] at h
  split at h
  · rename_i cs' T fz hh
    simp only [Option.some.injEq] at h
    subst h
    exact ⟨_, _, hh⟩
  · cases h

theorem glob_of_laid {W : World} (h : laidMetH Tryz.prog laidW W) : GlobOk Tryz.prog W := by
  rw [MakeChecks.laidMetH_plain _ _ _ (by kernel_rfl)] at h
  obtain ⟨ps, ⟨g0, t0, cs0, f0, p0, q0, hg0, ht0, hv0, hd0, ⟨g1, t1, cs1, f1, p1, q1, hg1, ht1, hv1, hd1, _, _⟩, _⟩, _, _⟩ := h
  obtain rfl := Option.some.inj (gHead.symm.trans hg0)
  obtain rfl := Option.some.inj (gEntry.symm.trans hg1)
  obtain rfl := Option.some.inj (tHead.symm.trans ht0)
  obtain rfl := Option.some.inj (tEntry.symm.trans ht1)
  have c0 := trod_ints (zs := [8, 1, 3]) ints69 hd0
  have c1 := trod_ints (zs := [3, 1, 2]) ints69 hd1
  obtain ⟨T0, z0, k0⟩ := cells_of hg0 hv0
  obtain ⟨T1, z1, k1⟩ := cells_of hg1 hv1
  intro g zs hz
  have hm : g ∈ ((List.range Tryz.prog.globals.size).filter fun g => (globOf Tryz.prog g).isSome) := by
    refine List.mem_filter.2 ⟨List.mem_range.2 ?_, by rw [hz]; rfl⟩
    unfold globOf at hz
    rw [Option.bind_eq_some_iff] at hz
    obtain ⟨x, hx, -⟩ := hz
    exact (Array.getElem?_eq_some_iff.1 hx).1
  rw [globsAll] at hm
  simp only [List.mem_cons, List.not_mem_nil, or_false] at hm
  rcases hm with rfl | rfl
  · rw [gl0] at hz
    simp only [Option.some.injEq] at hz
    subst hz
    exact ⟨T0, z0, by rw [k0, ← c0]⟩
  · rw [gl1] at hz
    simp only [Option.some.injEq] at hz
    subst hz
    exact ⟨T1, z1, by rw [k1, ← c1]⟩

/-- The door's own heap meets the condition. -/
theorem door_met (os : Os) (args : Array Value) : laidMetH Tryz.prog laidW ((World.doorLaid Tryz.prog 400 os).forCall (fun _ _ => 0) ⟨#[], args, []⟩).memory :=
  laidMetH_of_parts3 (fuel := 8) (laidMet_of_run' 8 (by kernel_rfl) (by kernel_rfl)) (by kernel_rfl) (by kernel_rfl)
end Go.Proofs.YtapomifipcbgmaaGreatDoor

/- WeakNone returns true for every input: all functions return ErrArg for a heap or roots that are nil or zero; those of tables ErrNone where there is no object (R1) Conditions: none. -/
namespace Go.Proofs.YtapomifipcbgmaaGreatDoor.weakNone
open Go Go.Cs Go.ChangeShapes Go.WideShapes Go.ChangeAt Go.RowKit
set_option linter.unusedVariables false
theorem own : ownKnob Tryz.prog.godebug = none := by kernel_rfl
theorem laidOut : laidOutB Tryz.prog = true := by kernel_rfl
theorem follows : Tryz.prog.follows .mixedOrders = true := by kernel_rfl
set_option maxRecDepth 100000 in
theorem lifted (os : Os) (started : os.Started) (H : Type) (enc : TypeId × Value → H) :
    ReturnsInHanded {} Tryz.checked os 4 .any (fun w args => (Rows.weakNoneSpec.pre enc Tryz.prog Tryz.f4 [] false w args ∧ laidMetH Tryz.prog laidW w) ∧ sizedMet enc Tryz.prog Tryz.f4 (OpenSpec.ofChange Rows.weakNoneSpec) false w args) (Rows.weakNoneSpec.post enc Tryz.prog Tryz.f4 false true false false) := by
  refine returnsInHanded_of_change_and (C := Tryz.checked) (X := fun w _ => laidMetH Tryz.prog laidW w) (fun _ _ _ hh h => h.of_heap hh) own started (by kernel_rfl) Tryz.func4
    (ChangeSpec.witness_shaped (enc := enc) (C := Tryz.checked) (os := os) (X := fun w _ => laidMetH Tryz.prog laidW w) false (World.doorLaid Tryz.prog 400 os) #[.int .i64 0, .int .i64 0, .int .i64 0, .int .i64 0, .slice none 0 0] 8 rfl (World.shaped_of_RefB (by kernel_rfl) (by kernel_rfl)) (by kernel_rfl) (by kernel_rfl) (by kernel_rfl) (door_met os _)) ?_
  intro W base args ds gs before hval0 hW hcnd hsz0 hL _
  have hval : ∀ (j : Nat) t v, Tryz.f4.params[j]? = some t → args[j]? = some v → Value.okWide Tryz.prog W .any base t v := hval0
  have hW' := hW
  obtain ⟨p, q, hA0, hV, rfl, hfz, hnd⟩ := hW
  have hA : DataW.TrodAll enc Tryz.prog W 0 (fun _ => true) true Tryz.f4.params.toList args.toList ds p := hA0
  rw [Tryz.params4] at hA hval
  clear hA0 hval0 hsz0 hcnd
  obtain ⟨v0, vs0, d0, ds0, p0, q0, hargs, rfl, rfl, h0, r0⟩ := trodAll_cons hA
  obtain ⟨v1, vs1, d1, ds1, p1, q1, rfl, rfl, rfl, h1, r1⟩ := trodAll_cons r0
  obtain ⟨v2, vs2, d2, ds2, p2, q2, rfl, rfl, rfl, h2, r2⟩ := trodAll_cons r1
  obtain ⟨v3, vs3, d3, ds3, p3, q3, rfl, rfl, rfl, h3, r3⟩ := trodAll_cons r2
  obtain ⟨v4, vs4, d4, ds4, p4, q4, rfl, rfl, rfl, h4, r4⟩ := trodAll_cons r3
  obtain ⟨rfl, rfl, rfl⟩ := trodAll_nil r4
  obtain rfl : args = #[v0, v1, v2, v3, v4] := by cases args; simp_all
  obtain ⟨rfl, rfl⟩ := trodVars_none hV
  obtain ⟨x0, rfl, rfl, rfl, w0⟩ := open_int (k := .i64) (show Tryz.prog.underlying 3 = some (.int .i64) from by kernel_rfl) (hval 0 3 v0 rfl rfl) h0
  obtain ⟨x1, rfl, rfl, rfl, w1⟩ := open_int (k := .i64) (show Tryz.prog.underlying 3 = some (.int .i64) from by kernel_rfl) (hval 1 3 v1 rfl rfl) h1
  obtain ⟨x2, rfl, rfl, rfl, w2⟩ := open_int (k := .i64) (show Tryz.prog.underlying 3 = some (.int .i64) from by kernel_rfl) (hval 2 3 v2 rfl rfl) h2
  obtain ⟨x3, rfl, rfl, rfl, w3⟩ := open_int (k := .i64) (show Tryz.prog.underlying 3 = some (.int .i64) from by kernel_rfl) (hval 3 3 v3 rfl rfl) h3
  have lt4 : ∀ x ∈ p4, x.block < W.heap.size := by obtain ⟨m, hm⟩ := h4; exact DataW.trod_lt m _ _ _ hm
  obtain ⟨x4, b4, g4, l4, vx4, bk4, so4⟩ := open_flat (n := 6) (ks := [.int .i64]) (show Tryz.prog.underlying 36 = some (.slice 3) from by kernel_rfl) (by kernel_rfl) (by kernel_rfl) (by decide) (hval 4 36 v4 rfl rfl) h4
  obtain ⟨H1, hrun⟩ : ∃ H1, run (cprog Tryz.prog) 4 [.i x0, .i x1, .i x2, .i x3, x4 0] [b4] = some (.bool true, H1) := Go.Cs.Tryz.f4' (x4 0) x0 x1 x2 x3
  have hb : ∀ b blk, [b4][b]? = some blk → BlkOk W blk ([g4].getD b none) := by
    intro b blk hb
    match b, hb with
    | 0, hb => simp at hb; subst hb; exact bk4
    | n + 1, hb => simp at hb
  refine (run_calls follows Go.Cs.Tryz.primsOk (glob_of_laid hL) (by decide) (tgs := [g4]) (W := W) (args' := #[.int .i64 x0, .int .i64 x1, .int .i64 x2, .int .i64 x3, v4]) rfl hb hrun ?_).mono fun e W' he => ?_
  · simp only [VL]
    exact ⟨_, _, rfl, by simp [V], ⟨_, _, rfl, by simp [V], ⟨_, _, rfl, by simp [V], ⟨_, _, rfl, by simp [V], ⟨_, _, rfl, vx4 0 _ rfl, rfl⟩⟩⟩⟩⟩
  obtain ⟨⟨ν, v', rfl, hv'⟩, bel⟩ := he
  simp only [V] at hv'
  subst hv'
  exact ⟨_, rfl, _, _, _, [], _, [], hW', trodAll_mk1 (shut_bool (show Tryz.prog.underlying 4 = some .bool from by kernel_rfl) _), (trodAll_cons_mk (shut_int (show Tryz.prog.underlying 3 = some (.int .i64) from by kernel_rfl) w0) (trodAll_cons_mk (shut_int (show Tryz.prog.underlying 3 = some (.int .i64) from by kernel_rfl) w1) (trodAll_cons_mk (shut_int (show Tryz.prog.underlying 3 = some (.int .i64) from by kernel_rfl) w2) (trodAll_cons_mk (shut_int (show Tryz.prog.underlying 3 = some (.int .i64) from by kernel_rfl) w3) (trodAll_cons_mk (Below.trod laidOut (by kernel_rfl) (of_decide_eq_true (by kernel_rfl)) h4 bel lt4) trodAll_mk0))))), rfl, bel.frame _, fun h => by cases h⟩
theorem over : Rows.weakNoneRow.holds Tryz.pinned (OpenSpec.ofChange Rows.weakNoneSpec) :=
  OpenClaim.holds_of_wide 4 Tryz.f4 rfl rfl rfl rfl rfl rfl rfl ⟨rfl, rfl, rfl, rfl, rfl⟩ rfl rfl rfl rfl rfl (by kernel_rfl) Tryz.func4 (by kernel_rfl)
    (of_decide_eq_true (by kernel_rfl)) (by unfold Func.isWrapper; first | (rw [if_pos (by decide +kernel)]; kernel_rfl) | (rw [if_neg (by decide +kernel)]; exact ⟨rfl, rfl⟩))
    (fun os started H enc _ => lifted os started H enc)
end Go.Proofs.YtapomifipcbgmaaGreatDoor.weakNone
namespace Go.Proofs.YtapomifipcbgmaaGreatDoor
/-- The row. -/
theorem weakNone_row_holds : Rows.WeakNoneSaid := weakNone.over
/-- The tied card. -/
theorem weakNone_holds : Rows.WeakNoneCardSaid :=
  Claim7.holds_tied_plain_at .later [] [.data, .data] true (true, "c152f6d82ca194ae67d6b1058f2e90d96c76bfdf0a07b3ef32761bb776b3354e") false
    weakNone_row_holds (fun _ h => by cases h) (by kernel_rfl) (fun _ h => by cases h) weakNone_row_tie rfl ⟨rfl, rfl⟩ (by kernel_rfl) rfl
    (fun f fn hf hfn => by
      obtain rfl : f = 4 := Option.some.inj ((show Tryz.prog.funcNamed "dustcart/dustcartlaw19.WeakNone" = some 4 by kernel_rfl).symm.trans hf) |>.symm
      obtain rfl : fn = Tryz.f4 := (Option.some.inj (Tryz.func4.symm.trans hfn)).symm
      exact ⟨by kernel_rfl, fun j t ht => by
        rw [Tryz.params4] at ht
        have hm : t ∈ [3, 3, 3, 3, 36] := by simpa using Array.mem_of_getElem? ht
        have hall : ([3, 3, 3, 3, 36].all fun u => !Tryz.prog.wantsStandIn u) = true := by kernel_rfl
        exact (show Tryz.prog.wantsStandIn t = false by simpa using List.all_eq_true.1 hall t hm)⟩)
    (by kernel_rfl)
#print axioms weakNone_holds
end Go.Proofs.YtapomifipcbgmaaGreatDoor
