/- PinNone returns true for every input: all functions return ErrArg for a heap or roots that are nil or zero, ErrLong for too many words (R1) Conditions: none. -/
import Derived.Test.YtapomifipcbgmaaGreatPinNone2
import Derived.Test.YtapomifipcbgmaaGreatProg
import Derived.KernelRfl
import Derived.Shelf.SlIterI.Nil
import Derived.Shelf.SortM.Plain
import Derived.Shelf.SortM.SortNone
import Derived.Ground.GgzProg
import Derived.Ground.SlgmProg
import Derived.Test.YtapomifipcbgmaaGreatRows
import Derived.WalkKit
import Derived.ProofKit
import Derived.OpenShut
import Derived.ShutString
import Derived.ChangeOld
import Derived.Below
import Derived.SizedLaws
import Derived.Carry
set_option linter.unusedVariables false
set_option linter.unusedSimpArgs false
set_option linter.defProp false
/- The turned functions, part 1. -/
noncomputable section
namespace Go.Cs.Tryz
open Go Go.Cs Go.Cs.K
set_option maxRecDepth 100000
def S117_1 : SCode := .seq (.ops (.vd 10 (o_bin .lss (.tmp 9) (.tmp 8)) .nil))
    (.seq (.cond (.tmp 10)
     .skip
     (.exit 0))
    (.seq (.block 1 (.seq (.ops (.vd 11 (o_index 1 (.tmp 7) (.tmp 9)) (.vd 12 (o_load false 1 (.tmp 11)) (.vd 5 (o_mov (.tmp 12)) .nil))))
     (.ops (.vd 13 (o_mov (.tmp 3)) (.vd 14 (o_mov (.tmp 0)) (.vd 15 (o_mov (.tmp 5)) (.cd 16 (fun F => c_call F 119 [(.tmp 14), (.tmp 15)]) (.vd 17 (o_bin .add (.tmp 13) (.tmp 16)) (.vd 3 (o_mov (.tmp 17)) .nil)))))))))
    (.ops (.vd 18 (o_bin .add (.tmp 9) (.const (.int .i64 1))) (.vd 9 (o_mov (.tmp 18)) .nil)))))
def S117 : SCode := (.seq (.ops (.vd 2 (o_mov (.const (.int .i64 0))) .nil))
  (.seq (.ops (.vd 3 (o_mov (.const (.int .i64 0))) .nil))
  (.seq (.seq (.ops (.vd 6 (o_mov (.tmp 0)) (.cd 7 (fun F => c_call F 42 [(.tmp 6)]) (.vd 8 (o_len (.tmp 7)) (.vd 9 (o_mov (.const (.int .i64 0))) .nil)))))
  (.block 0 (.loop S117_1)))
  (.seq (.ops (.vd 19 (o_mov (.tmp 3)) (.vd 2 (o_mov (.tmp 19)) .nil)))
  .ret))))
def X117 : FnS := .code ⟨20, 0, .skip, [.tmp 2]⟩ S117
theorem x117 : okX Go.Proofs.Tryz.prog 117 X117 := okX_of (by kernel_rfl)
def S118_1 : SCode := .seq (.seq (.ops (.vd 20 (o_mov (.tmp 8)) (.vd 21 (o_bin .geq (.tmp 20) (.const (.int .i64 0))) .nil)))
    (.cond (.tmp 21)
     .skip
     (.exit 0)))
    (.seq (.block 1 (.seq (.ops (.vd 24 (o_mov (.tmp 0)) (.vd 25 (o_mov (.tmp 8)) (.cd 26 (fun F => c_call F 213 [(.tmp 24), (.tmp 25)]) (.vd 27 (o_mov (.tmp 2)) (.vd 28 (o_bin .eql (.tmp 26) (.tmp 27)) .nil))))))
     (.cond (.tmp 28)
      (.seq (.ops (.vd 29 (o_mov (.tmp 8)) (.vd 6 (o_mov (.tmp 29)) (.vd 7 (o_mov (.const (.int .i64 0))) .nil))))
      .ret)
      .skip)))
    (.ops (.vd 22 (o_mov (.tmp 8)) (.vd 23 (o_bin .sub (.tmp 22) (.const (.int .i64 1))) (.vd 8 (o_mov (.tmp 23)) .nil)))))
def S118 : SCode := (.seq (.ops (.vd 6 (o_mov (.const (.int .i64 0))) (.vd 7 (o_mov (.const (.int .i64 0))) .nil)))
  (.seq (.seq (.ops (.vd 9 (o_mov (.tmp 0)) (.cd 10 (fun F => c_call F 212 [(.tmp 9)]) (.vd 11 (o_not (.tmp 10)) .nil))))
  (.cond (.tmp 11)
   (.seq (.ops (.vd 6 (o_mov (.const (.int .i64 0))) (.vd 7 (o_mov (.const (.int .i64 5))) .nil)))
   .ret)
   .skip))
  (.seq (.seq (.ops (.vd 12 (o_mov (.tmp 1)) (.vd 13 (o_mm true [(.tmp 12), (.const (.int .i64 0))]) (.vd 14 (o_mov (.tmp 0)) (.vd 15 (o_nilCheck (.tmp 14)) (.vd 16 (o_field 0 (.tmp 15)) (.vd 17 (o_load false 1 (.tmp 16)) (.vd 18 (o_mm false [(.tmp 13), (.tmp 17)]) (.vd 19 (o_bin .sub (.tmp 18) (.const (.int .i64 1))) (.vd 8 (o_mov (.tmp 19)) .nil))))))))))
  (.block 0 (.loop S118_1)))
  (.seq (.ops (.vd 6 (o_mov (.const (.int .i64 0))) (.vd 7 (o_mov (.const (.int .i64 4))) .nil)))
  .ret))))
def X118 : FnS := .code ⟨30, 0, .skip, [.tmp 6, .tmp 7]⟩ S118
theorem x118 : okX Go.Proofs.Tryz.prog 118 X118 := okX_of (by kernel_rfl)
def S119 : SCode := (.seq (.ops (.vd 4 (o_mov (.const (.int .i64 0))) .nil))
  (.seq (.ops (.vd 5 (o_mov (.tmp 0)) (.vd 6 (o_nilCheck (.tmp 5)) (.vd 7 (o_field 1 (.tmp 6)) (.vd 8 (o_load false 1 (.tmp 7)) (.vd 9 (o_mov (.tmp 1)) (.vd 10 (o_bin .add (.tmp 9) (.const (.int .i64 1))) (.vd 11 (o_index 1 (.tmp 8) (.tmp 10)) (.vd 12 (o_load false 1 (.tmp 11)) (.cd 13 (fun F => c_call F 165 [(.tmp 12)]) (.cd 14 (fun F => c_call F 130 [(.tmp 13)]) (.vd 4 (o_mov (.tmp 14)) .nil))))))))))))
  .ret))
def X119 : FnS := .code ⟨15, 0, .skip, [.tmp 4]⟩ S119
theorem x119 : okX Go.Proofs.Tryz.prog 119 X119 := okX_of (by kernel_rfl)
def S120 : SCode := (.ops (.v none none (o_sortI (.tmp 0)) .nil))
def X120 : FnS := .code ⟨1, 0, .skip, []⟩ S120
theorem x120 : okX Go.Proofs.Tryz.prog 120 X120 := okX_of (by kernel_rfl)
def S121_1 : SCode := .seq (.seq (.ops (.vd 29 (o_mov (.tmp 5)) (.vd 30 (o_mov (.tmp 4)) (.vd 31 (o_len (.tmp 30)) (.vd 32 (o_bin .lss (.tmp 29) (.tmp 31)) .nil)))))
        (.cond (.tmp 32)
         .skip
         (.exit 2)))
        (.seq (.block 3 (.seq (.dregion [⟨⟨some 35, none, .mov (.tmp 4)⟩, 0, 0, 0⟩, ⟨⟨some 36, none, .mov (.tmp 5)⟩, 1, 0, 0⟩, ⟨⟨some 37, none, .index 1 (.tmp 35) (.tmp 36)⟩, 2, 0, 0⟩, ⟨⟨some 38, none, .load false 1 (.tmp 37)⟩, 3, 1, 0⟩, ⟨⟨some 39, none, .mov (.tmp 4)⟩, 4, 0, 0⟩, ⟨⟨some 40, none, .mov (.tmp 5)⟩, 5, 0, 0⟩, ⟨⟨some 41, none, .bin .sub (.tmp 40) (.const (.int .i64 1))⟩, 6, 0, 0⟩, ⟨⟨some 42, none, .index 1 (.tmp 39) (.tmp 41)⟩, 7, 0, 0⟩, ⟨⟨some 43, none, .load false 1 (.tmp 42)⟩, 8, 1, 0⟩, ⟨⟨some 44, none, .bin .neq (.tmp 38) (.tmp 43)⟩, 9, 0, 0⟩])
         (.cond (.tmp 44)
          (.seq (.ops (.vd 45 (o_mov (.tmp 0)) (.vd 46 (o_mov (.tmp 3)) (.vd 47 (o_mov (.tmp 4)) (.vd 48 (o_mov (.tmp 5)) (.vd 49 (o_index 1 (.tmp 47) (.tmp 48)) (.vd 50 (o_load false 1 (.tmp 49)) (.vd 51 (o_index 1 (.tmp 45) (.tmp 46)) (.v none none (o_store 1 (.tmp 51) (.tmp 50)) .nil)))))))))
          (.ops (.vd 52 (o_mov (.tmp 3)) (.vd 53 (o_bin .add (.tmp 52) (.const (.int .i64 1))) (.vd 3 (o_mov (.tmp 53)) .nil)))))
          .skip)))
        (.ops (.vd 33 (o_mov (.tmp 5)) (.vd 34 (o_bin .add (.tmp 33) (.const (.int .i64 1))) (.vd 5 (o_mov (.tmp 34)) .nil)))))
def S121_2 : SCode := .seq (.seq (.ops (.vd 10 (o_mov (.tmp 3)) (.vd 11 (o_mov (.tmp 0)) (.vd 12 (o_len (.tmp 11)) (.vd 13 (o_bin .lss (.tmp 10) (.tmp 12)) .nil)))))
    (.cond (.tmp 13)
     .skip
     (.exit 0)))
    (.seq (.block 1 (.seq (.dregion [⟨⟨some 16, none, .mov (.tmp 0)⟩, 0, 0, 0⟩, ⟨⟨some 17, none, .mov (.tmp 3)⟩, 1, 0, 0⟩, ⟨⟨some 18, none, .index 1 (.tmp 16) (.tmp 17)⟩, 2, 0, 0⟩, ⟨⟨some 19, none, .load false 1 (.tmp 18)⟩, 3, 1, 0⟩, ⟨⟨some 20, none, .mov (.tmp 0)⟩, 4, 0, 0⟩, ⟨⟨some 21, none, .mov (.tmp 3)⟩, 5, 0, 0⟩, ⟨⟨some 22, none, .bin .sub (.tmp 21) (.const (.int .i64 1))⟩, 6, 0, 0⟩, ⟨⟨some 23, none, .index 1 (.tmp 20) (.tmp 22)⟩, 7, 0, 0⟩, ⟨⟨some 24, none, .load false 1 (.tmp 23)⟩, 8, 1, 0⟩, ⟨⟨some 25, none, .bin .eql (.tmp 19) (.tmp 24)⟩, 9, 0, 0⟩])
     (.cond (.tmp 25)
      (.seq (.ops (.vd 26 (o_mov (.tmp 0)) (.vd 27 (o_mov (.tmp 3)) (.vd 28 (o_slice 1 (.tmp 26) (some (.tmp 27)) none none) (.vd 4 (o_mov (.tmp 28)) .nil)))))
      (.seq (.seq (.ops (.vd 5 (o_mov (.const (.int .i64 1))) .nil))
      (.block 2 (.loop S121_1)))
      (.seq (.ops (.vd 54 (o_mov (.tmp 0)) (.vd 55 (o_mov (.tmp 3)) (.vd 56 (o_slice 1 (.tmp 54) (some (.tmp 55)) none none) (.v none none (o_clear [.int .i64 0] (.tmp 56)) .nil)))))
      (.seq (.ops (.vd 57 (o_mov (.tmp 0)) (.vd 58 (o_mov (.tmp 3)) (.vd 59 (o_slice 1 (.tmp 57) none (some (.tmp 58)) none) (.vd 2 (o_mov (.tmp 59)) .nil)))))
      .ret))))
      .skip)))
    (.ops (.vd 14 (o_mov (.tmp 3)) (.vd 15 (o_bin .add (.tmp 14) (.const (.int .i64 1))) (.vd 3 (o_mov (.tmp 15)) .nil)))))
def S121 : SCode := (.seq (.ops (.vd 2 (o_mov (.const (.nilSlice))) .nil))
  (.seq (.seq (.ops (.vd 6 (o_mov (.tmp 0)) (.vd 7 (o_len (.tmp 6)) (.vd 8 (o_bin .lss (.tmp 7) (.const (.int .i64 2))) .nil))))
  (.cond (.tmp 8)
   (.seq (.ops (.vd 9 (o_mov (.tmp 0)) (.vd 2 (o_mov (.tmp 9)) .nil)))
   .ret)
   .skip))
  (.seq (.seq (.ops (.vd 3 (o_mov (.const (.int .i64 1))) .nil))
  (.block 0 (.loop S121_2)))
  (.seq (.ops (.vd 60 (o_mov (.tmp 0)) (.vd 2 (o_mov (.tmp 60)) .nil)))
  .ret))))
def X121 : FnS := .code ⟨61, 0, .skip, [.tmp 2]⟩ S121
theorem x121 : okX Go.Proofs.Tryz.prog 121 X121 := okX_of (by kernel_rfl)
def S122_1 : SCode := .seq (.ops (.vd 9 (o_bin .lss (.tmp 8) (.tmp 7)) .nil))
    (.seq (.cond (.tmp 9)
     .skip
     (.exit 0))
    (.seq (.block 1 (.seq (.ops (.vd 10 (o_mov (.tmp 8)) (.vd 5 (o_mov (.tmp 10)) .nil)))
     (.seq (.ops (.vd 11 (o_mov (.tmp 1)) (.vd 12 (o_mov (.tmp 0)) (.vd 13 (o_mov (.tmp 5)) (.vd 14 (o_index 1 (.tmp 12) (.tmp 13)) (.vd 15 (o_load false 1 (.tmp 14)) (.cd 16 (fun F => c_callv F (.tmp 11) [(.tmp 15)]) .nil)))))))
     (.cond (.tmp 16)
      (.seq (.ops (.vd 17 (o_mov (.tmp 5)) (.vd 4 (o_mov (.tmp 17)) .nil)))
      .ret)
      .skip))))
    (.ops (.vd 18 (o_bin .add (.tmp 8) (.const (.int .i64 1))) (.vd 8 (o_mov (.tmp 18)) .nil)))))
def S122 : SCode := (.seq (.ops (.vd 4 (o_mov (.const (.int .i64 0))) .nil))
  (.seq (.seq (.ops (.vd 6 (o_mov (.tmp 0)) (.vd 7 (o_len (.tmp 6)) (.vd 8 (o_mov (.const (.int .i64 0))) .nil))))
  (.block 0 (.loop S122_1)))
  (.seq (.ops (.vd 4 (o_mov (.const (.int .i64 (-1)))) .nil))
  .ret)))
def X122 : FnS := .code ⟨19, 0, .skip, [.tmp 4]⟩ S122
theorem x122 : okX Go.Proofs.Tryz.prog 122 X122 := okX_of (by kernel_rfl)
def S123_1 : SCode := .seq (.seq (.ops (.vd 20 (o_mov (.tmp 9)) (.vd 21 (o_bin .eql (.tmp 20) (.const (.int .i64 0))) (.vd 22 (o_mov (.tmp 21)) (.vg 23 22 true (o_mov (.tmp 8)) (.vg 24 22 true (o_bin .mul (.const (.int .i64 2)) (.tmp 23)) (.vg 25 22 true (o_mov (.tmp 2)) (.vg 26 22 true (o_bin .lss (.tmp 24) (.tmp 25)) (.vd 27 (o_pick (.tmp 22) (.tmp 26) (.const (.bool false))) .nil)))))))))
    (.cond (.tmp 27)
     .skip
     (.exit 0)))
    (.seq (.block 1 (.ops (.vd 38 (o_mov (.tmp 7)) (.vd 39 (o_mov (.tmp 8)) (.vd 40 (o_bin .mul (.const (.int .i64 2)) (.tmp 39)) (.vd 41 (o_buildSlice 1 [.int .i64 0] 1 [(0, 1, (.tmp 40))]) (.vd 42 (o_append 1 (.tmp 38) (.tmp 41)) (.vd 7 (o_mov (.tmp 42)) .nil))))))))
    (.ops (.vd 29 (o_mov (.tmp 0)) (.vd 30 (o_nilCheck (.tmp 29)) (.vd 31 (o_field 2 (.tmp 30)) (.vd 32 (o_load false 1 (.tmp 31)) (.vd 33 (o_mov (.tmp 8)) (.vd 34 (o_bin .add (.tmp 33) (.const (.int .i64 1))) (.cd 35 (fun F => c_call F 216 [(.tmp 32), (.tmp 34), (.const (.int .i64 1))]) (.vd 28 (o_mov (.tmp 35)) (.vd 36 (o_extract (.tmp 28) 0) (.vd 37 (o_extract (.tmp 28) 1) (.vd 8 (o_mov (.tmp 36)) (.vd 9 (o_mov (.tmp 37)) .nil))))))))))))))
def S123 : SCode := (.seq (.ops (.vd 6 (o_mov (.const (.nilSlice))) .nil))
  (.seq (.ops (.vd 7 (o_mov (.const (.nilSlice))) .nil))
  (.seq (.seq (.ops (.vd 11 (o_mov (.tmp 0)) (.vd 12 (o_nilCheck (.tmp 11)) (.vd 13 (o_field 2 (.tmp 12)) (.vd 14 (o_load false 1 (.tmp 13)) (.vd 15 (o_mov (.tmp 1)) (.vd 16 (o_bin .quo (.tmp 15) (.const (.int .i64 2))) (.cd 17 (fun F => c_call F 216 [(.tmp 14), (.tmp 16), (.const (.int .i64 1))]) (.vd 10 (o_mov (.tmp 17)) (.vd 18 (o_extract (.tmp 10) 0) (.vd 19 (o_extract (.tmp 10) 1) (.vd 8 (o_mov (.tmp 18)) (.vd 9 (o_mov (.tmp 19)) .nil)))))))))))))
  (.block 0 (.loop S123_1)))
  (.seq (.ops (.vd 43 (o_mov (.tmp 7)) (.vd 6 (o_mov (.tmp 43)) .nil)))
  .ret))))
def X123 : FnS := .code ⟨44, 0, .skip, [.tmp 6]⟩ S123
theorem x123 : okX Go.Proofs.Tryz.prog 123 X123 := okX_of (by kernel_rfl)
def S124 : SCode := (.seq (.ops (.vd 4 (o_mov (.const (.bool false))) .nil))
  (.seq (.ops (.vd 5 (o_mov (.tmp 0)) (.cd 6 (fun F => c_call F 111 [(.tmp 5)]) (.vd 7 (o_mov (.tmp 6)) (.vg 8 7 true (o_mov (.tmp 1)) (.vg 9 7 true (o_bin .geq (.tmp 8) (.const (.int .i64 0))) (.vd 10 (o_pick (.tmp 7) (.tmp 9) (.const (.bool false))) (.vd 11 (o_mov (.tmp 10)) (.vg 12 11 true (o_mov (.tmp 1)) (.vg 13 11 true (o_bin .rem (.tmp 12) (.const (.int .i64 2))) (.vg 14 11 true (o_bin .eql (.tmp 13) (.const (.int .i64 0))) (.vd 15 (o_pick (.tmp 11) (.tmp 14) (.const (.bool false))) (.vd 16 (o_mov (.tmp 15)) (.vg 17 16 true (o_mov (.tmp 0)) (.vg 18 16 true (o_nilCheck (.tmp 17)) (.vg 19 16 true (o_field 2 (.tmp 18)) (.vg 20 16 true (o_load false 1 (.tmp 19)) (.vg 21 16 true (o_mov (.tmp 1)) (.vg 22 16 true (o_bin .quo (.tmp 21) (.const (.int .i64 2))) (.c (some 23) (some (16, true)) (fun F => c_call F 125 [(.tmp 20), (.tmp 22)]) (.vg 24 16 true (o_bin .eql (.tmp 23) (.const (.int .i64 1))) (.vd 25 (o_pick (.tmp 16) (.tmp 24) (.const (.bool false))) (.vd 4 (o_mov (.tmp 25)) .nil)))))))))))))))))))))))
  .ret))
def X124 : FnS := .code ⟨26, 0, .skip, [.tmp 4]⟩ S124
theorem x124 : okX Go.Proofs.Tryz.prog 124 X124 := okX_of (by kernel_rfl)
def S125 : SCode := (.seq (.ops (.vd 4 (o_mov (.const (.int .i64 0))) .nil))
  (.seq (.seq (.ops (.vd 5 (o_mov (.tmp 0)) (.vd 6 (o_mov (.tmp 1)) (.cd 7 (fun F => c_call F 217 [(.tmp 5), (.tmp 6)]) (.vd 8 (o_not (.tmp 7)) .nil)))))
  (.cond (.tmp 8)
   (.seq (.ops (.vd 4 (o_mov (.const (.int .i64 (-1)))) .nil))
   .ret)
   .skip))
  (.seq (.ops (.vd 9 (o_mov (.tmp 0)) (.vd 10 (o_mov (.tmp 1)) (.cd 11 (fun F => c_call F 213 [(.tmp 9), (.tmp 10)]) (.vd 4 (o_mov (.tmp 11)) .nil)))))
  .ret)))
def X125 : FnS := .code ⟨12, 0, .skip, [.tmp 4]⟩ S125
theorem x125 : okX Go.Proofs.Tryz.prog 125 X125 := okX_of (by kernel_rfl)
def S127_1 : SCode := .seq (.ops (.vd 55 (o_bin .lss (.tmp 54) (.tmp 53)) .nil))
    (.seq (.cond (.tmp 55)
     .skip
     (.exit 1))
    (.seq (.block 2 (.seq (.ops (.vd 56 (o_mov (.tmp 54)) (.vd 11 (o_mov (.tmp 56)) .nil)))
     (.dregion [⟨⟨some 57, none, .mov (.tmp 0)⟩, 0, 0, 0⟩, ⟨⟨some 58, none, .nilCheck (.tmp 57)⟩, 1, 0, 0⟩, ⟨⟨some 59, none, .field 0 (.tmp 58)⟩, 2, 0, 0⟩, ⟨⟨some 60, none, .load false 1 (.tmp 59)⟩, 3, 1, 0⟩, ⟨⟨some 61, none, .mov (.tmp 1)⟩, 4, 0, 0⟩, ⟨⟨some 62, none, .mov (.tmp 11)⟩, 5, 0, 0⟩, ⟨⟨some 63, none, .bin .add (.tmp 61) (.tmp 62)⟩, 6, 0, 0⟩, ⟨⟨some 64, none, .load true 2 (.tmp 9)⟩, 7, 1, 0⟩, ⟨⟨some 65, none, .index 2 (.tmp 60) (.tmp 63)⟩, 8, 0, 0⟩, ⟨⟨none, none, .store 2 (.tmp 65) (.tmp 64)⟩, 9, 3, 0⟩])))
    (.ops (.vd 66 (o_bin .add (.tmp 54) (.const (.int .i64 1))) (.vd 54 (o_mov (.tmp 66)) .nil)))))
def S127 : SCode := (.seq (.ops (.vd 8 (o_box (.tmp 3)) (.vd 9 (o_box (.tmp 4)) (.vd 10 (o_mov (.const (.int .i64 0))) .nil))))
  (.seq (.block 0 (.seq (.ops (.vd 13 (o_mov (.tmp 0)) (.cd 14 (fun F => c_call F 111 [(.tmp 13)]) (.vd 15 (o_not (.tmp 14)) (.vd 12 (o_mov (.tmp 15)) .nil)))))
   (.cond (.tmp 12)
    (.seq (.ops (.vd 10 (o_mov (.const (.int .i64 5))) .nil))
    .ret)
    (.seq (.ops (.vd 17 (o_mov (.tmp 0)) (.vd 18 (o_mov (.tmp 1)) (.cd 19 (fun F => c_call F 218 [(.tmp 17), (.tmp 18)]) (.vd 20 (o_not (.tmp 19)) (.vd 21 (o_mov (.tmp 20)) (.vg 22 21 false (o_mov (.tmp 2)) (.vg 23 21 false (o_bin .lss (.tmp 22) (.const (.int .i64 1))) (.vd 24 (o_pick (.tmp 21) (.const (.bool true)) (.tmp 23)) (.vd 25 (o_mov (.tmp 24)) (.vg 26 25 false (o_mov (.tmp 2)) (.vg 27 25 false (o_mov (.tmp 0)) (.vg 28 25 false (o_nilCheck (.tmp 27)) (.vg 29 25 false (o_field 0 (.tmp 28)) (.vg 30 25 false (o_load false 1 (.tmp 29)) (.vg 31 25 false (o_len (.tmp 30)) (.vg 32 25 false (o_mov (.tmp 1)) (.vg 33 25 false (o_bin .sub (.tmp 31) (.tmp 32)) (.vg 34 25 false (o_bin .gtr (.tmp 26) (.tmp 33)) (.vd 35 (o_pick (.tmp 25) (.const (.bool true)) (.tmp 34)) (.vd 36 (o_mov (.tmp 35)) (.vg 37 36 false (o_field 1 (.tmp 8)) (.vg 38 36 false (o_load false 1 (.tmp 37)) (.c (some 39) (some (36, false)) (fun F => c_call F 219 [(.tmp 38)]) (.vg 40 36 false (o_not (.tmp 39)) (.vd 41 (o_pick (.tmp 36) (.const (.bool true)) (.tmp 40)) (.vd 16 (o_mov (.tmp 41)) .nil)))))))))))))))))))))))))))
    (.cond (.tmp 16)
     (.seq (.ops (.vd 10 (o_mov (.const (.int .i64 1))) .nil))
     .ret)
     (.seq (.ops (.vd 43 (o_mov (.tmp 0)) (.vd 44 (o_nilCheck (.tmp 43)) (.vd 45 (o_field 0 (.tmp 44)) (.vd 46 (o_load false 1 (.tmp 45)) (.vd 47 (o_mov (.tmp 1)) (.vd 48 (o_mov (.tmp 1)) (.vd 49 (o_mov (.tmp 2)) (.vd 50 (o_bin .add (.tmp 48) (.tmp 49)) (.vd 51 (o_slice 2 (.tmp 46) (some (.tmp 47)) (some (.tmp 50)) none) (.cd 52 (fun F => c_call F 220 [(.tmp 51), (.const (.func 221 []))]) (.vd 42 (o_mov (.tmp 52)) .nil))))))))))))
     (.cond (.tmp 42)
      (.seq (.ops (.vd 10 (o_mov (.const (.int .i64 8))) .nil))
      .ret)
      .skip)))))))
  (.seq (.seq (.ops (.vd 53 (o_mov (.tmp 2)) (.vd 54 (o_mov (.const (.int .i64 0))) .nil)))
  (.block 1 (.loop S127_1)))
  (.seq (.dregion [⟨⟨some 67, none, .mov (.tmp 0)⟩, 0, 0, 0⟩, ⟨⟨some 68, none, .nilCheck (.tmp 67)⟩, 1, 0, 0⟩, ⟨⟨some 69, none, .field 0 (.tmp 68)⟩, 2, 0, 0⟩, ⟨⟨some 70, none, .load false 1 (.tmp 69)⟩, 3, 1, 0⟩, ⟨⟨some 71, none, .mov (.tmp 1)⟩, 4, 0, 0⟩, ⟨⟨some 72, none, .load true 2 (.tmp 8)⟩, 5, 1, 0⟩, ⟨⟨some 73, none, .index 2 (.tmp 70) (.tmp 71)⟩, 6, 0, 0⟩, ⟨⟨none, none, .store 2 (.tmp 73) (.tmp 72)⟩, 7, 3, 0⟩])
  (.seq (.ops (.vd 10 (o_mov (.const (.int .i64 0))) .nil))
  .ret)))))
def X127 : FnS := .code ⟨74, 0, .skip, [.tmp 10]⟩ S127
theorem x127 : okX Go.Proofs.Tryz.prog 127 X127 := okX_of (by kernel_rfl)
def S128 : SCode := (.seq (.ops (.vd 1 (o_box (.tmp 0)) (.vd 2 (o_mov (.const (.bool false))) .nil)))
  (.seq (.ops (.vd 3 (o_field 0 (.tmp 1)) (.vd 4 (o_load false 1 (.tmp 3)) (.vd 5 (o_bin .geq (.tmp 4) (.const (.int .i64 0))) (.vd 6 (o_mov (.tmp 5)) (.vg 7 6 true (o_field 0 (.tmp 1)) (.vg 8 6 true (o_load false 1 (.tmp 7)) (.vg 9 6 true (o_bin .leq (.tmp 8) (.const (.int .i64 15))) (.vd 10 (o_pick (.tmp 6) (.tmp 9) (.const (.bool false))) (.vd 11 (o_mov (.tmp 10)) (.vg 12 11 true (o_field 1 (.tmp 1)) (.vg 13 11 true (o_load false 1 (.tmp 12)) (.vg 14 11 true (o_bin .geq (.tmp 13) (.const (.int .i64 0))) (.vd 15 (o_pick (.tmp 11) (.tmp 14) (.const (.bool false))) (.vd 16 (o_mov (.tmp 15)) (.vg 17 16 true (o_field 1 (.tmp 1)) (.vg 18 16 true (o_load false 1 (.tmp 17)) (.vg 19 16 true (o_bin .leq (.tmp 18) (.const (.int .i64 200))) (.vd 20 (o_pick (.tmp 16) (.tmp 19) (.const (.bool false))) (.vd 21 (o_mov (.tmp 20)) (.vg 22 21 true (o_field 2 (.tmp 1)) (.vg 23 21 true (o_load false 1 (.tmp 22)) (.vg 24 21 true (o_bin .geq (.tmp 23) (.const (.int .i64 0))) (.vd 25 (o_pick (.tmp 21) (.tmp 24) (.const (.bool false))) (.vd 26 (o_mov (.tmp 25)) (.vg 27 26 true (o_field 2 (.tmp 1)) (.vg 28 26 true (o_load false 1 (.tmp 27)) (.vg 29 26 true (o_bin .leq (.tmp 28) (.const (.int .i64 3))) (.vd 30 (o_pick (.tmp 26) (.tmp 29) (.const (.bool false))) (.vd 31 (o_mov (.tmp 30)) (.vg 32 31 true (o_field 2 (.tmp 1)) (.vg 33 31 true (o_load false 1 (.tmp 32)) (.vg 34 31 true (o_bin .neq (.tmp 33) (.const (.int .i64 1))) (.vg 35 31 true (o_mov (.tmp 34)) (.vg 36 35 false (o_field 0 (.tmp 1)) (.vg 37 35 false (o_load false 1 (.tmp 36)) (.vg 38 35 false (o_bin .geq (.tmp 37) (.const (.int .i64 1))) (.vg 39 31 true (o_pick (.tmp 35) (.const (.bool true)) (.tmp 38)) (.vd 40 (o_pick (.tmp 31) (.tmp 39) (.const (.bool false))) (.vd 41 (o_mov (.tmp 40)) (.vg 42 41 true (o_field 2 (.tmp 1)) (.vg 43 41 true (o_load false 1 (.tmp 42)) (.vg 44 41 true (o_bin .neq (.tmp 43) (.const (.int .i64 2))) (.vg 45 41 true (o_mov (.tmp 44)) (.vg 46 45 false (o_field 0 (.tmp 1)) (.vg 47 45 false (o_load false 1 (.tmp 46)) (.vg 48 45 false (o_bin .geq (.tmp 47) (.const (.int .i64 2))) (.vg 49 41 true (o_pick (.tmp 45) (.const (.bool true)) (.tmp 48)) (.vd 50 (o_pick (.tmp 41) (.tmp 49) (.const (.bool false))) (.vd 2 (o_mov (.tmp 50)) .nil))))))))))))))))))))))))))))))))))))))))))))))))))
  .ret))
def X128 : FnS := .code ⟨51, 0, .skip, [.tmp 2]⟩ S128
theorem x128 : okX Go.Proofs.Tryz.prog 128 X128 := okX_of (by kernel_rfl)
def S129_1 : SCode := .seq (.seq (.ops (.vd 76 (o_mov (.tmp 10)) (.vd 77 (o_mov (.tmp 1)) (.vd 78 (o_mov (.tmp 2)) (.vd 79 (o_bin .add (.tmp 77) (.tmp 78)) (.vd 80 (o_bin .lss (.tmp 76) (.tmp 79)) .nil))))))
    (.cond (.tmp 80)
     .skip
     (.exit 0)))
    (.seq (.block 1 (.seq (.ops (.vd 84 (o_mov (.tmp 0)) (.vd 85 (o_mov (.tmp 10)) (.cd 86 (fun F => c_call F 37 [(.tmp 84), (.tmp 85)]) (.vd 83 (o_mov (.tmp 86)) (.vd 87 (o_extract (.tmp 83) 0) (.vd 88 (o_extract (.tmp 83) 1) (.vd 11 (o_mov (.tmp 87)) (.vd 12 (o_mov (.tmp 88)) .nil)))))))))
     (.seq (.ops (.vd 89 (o_mov (.tmp 12)) (.vd 90 (o_bin .eql (.tmp 89) (.const (.int .i64 0))) (.vd 91 (o_mov (.tmp 90)) (.vg 92 91 true (o_mov (.tmp 11)) (.vg 93 91 true (o_mov (.tmp 3)) (.vg 94 91 true (o_bin .neq (.tmp 92) (.tmp 93)) (.vd 95 (o_pick (.tmp 91) (.tmp 94) (.const (.bool false))) .nil))))))))
     (.cond (.tmp 95)
      (.seq (.ops (.vd 8 (o_mov (.const (.int .i64 8))) .nil))
      .ret)
      .skip))))
    (.ops (.vd 81 (o_mov (.tmp 10)) (.vd 82 (o_bin .add (.tmp 81) (.const (.int .i64 2))) (.vd 10 (o_mov (.tmp 82)) .nil)))))
def S129 : SCode := (.seq (.ops (.vd 8 (o_mov (.const (.int .i64 0))) .nil))
  (.seq (.seq (.ops (.vd 13 (o_mov (.tmp 1)) (.vd 14 (o_bin .lss (.tmp 13) (.const (.int .i64 0))) (.vd 15 (o_mov (.tmp 14)) (.vg 16 15 false (o_mov (.tmp 1)) (.vg 17 15 false (o_mov (.tmp 0)) (.vg 18 15 false (o_nilCheck (.tmp 17)) (.vg 19 15 false (o_field 1 (.tmp 18)) (.vg 20 15 false (o_load false 1 (.tmp 19)) (.vg 21 15 false (o_len (.tmp 20)) (.vg 22 15 false (o_bin .geq (.tmp 16) (.tmp 21)) (.vd 23 (o_pick (.tmp 15) (.const (.bool true)) (.tmp 22)) (.vd 24 (o_mov (.tmp 23)) (.vg 25 24 false (o_mov (.tmp 1)) (.vg 26 24 false (o_bin .rem (.tmp 25) (.const (.int .i64 2))) (.vg 27 24 false (o_bin .neq (.tmp 26) (.const (.int .i64 0))) (.vd 28 (o_pick (.tmp 24) (.const (.bool true)) (.tmp 27)) .nil)))))))))))))))))
  (.cond (.tmp 28)
   (.seq (.ops (.vd 8 (o_mov (.const (.int .i64 1))) .nil))
   .ret)
   .skip))
  (.seq (.ops (.vd 29 (o_mov (.tmp 1)) (.vd 30 (o_bin .quo (.tmp 29) (.const (.int .i64 64))) (.vd 9 (o_mov (.tmp 30)) .nil))))
  (.seq (.seq (.ops (.vd 31 (o_mov (.tmp 2)) (.vd 32 (o_bin .leq (.tmp 31) (.const (.int .i64 32))) .nil)))
  (.cond (.tmp 32)
   (.seq (.ops (.vd 33 (o_mov (.tmp 0)) (.vd 34 (o_nilCheck (.tmp 33)) (.vd 35 (o_field 0 (.tmp 34)) (.vd 36 (o_load false 1 (.tmp 35)) (.vd 37 (o_mov (.tmp 9)) (.vd 38 (o_index 2 (.tmp 36) (.tmp 37)) (.vd 39 (o_field 0 (.tmp 38)) (.vd 40 (o_load false 1 (.tmp 39)) (.vd 41 (o_bin .neq (.tmp 40) (.const (.int .i64 1))) (.vd 42 (o_mov (.tmp 41)) (.vg 43 42 false (o_mov (.tmp 1)) (.vg 44 42 false (o_mov (.tmp 2)) (.vg 45 42 false (o_bin .add (.tmp 43) (.tmp 44)) (.vg 46 42 false (o_bin .sub (.tmp 45) (.const (.int .i64 1))) (.vg 47 42 false (o_bin .quo (.tmp 46) (.const (.int .i64 64))) (.vg 48 42 false (o_mov (.tmp 9)) (.vg 49 42 false (o_bin .neq (.tmp 47) (.tmp 48)) (.vd 50 (o_pick (.tmp 42) (.const (.bool true)) (.tmp 49)) .nil)))))))))))))))))))
   (.cond (.tmp 50)
    (.seq (.ops (.vd 8 (o_mov (.const (.int .i64 5))) .nil))
    .ret)
    .skip))
   (.seq (.ops (.vd 51 (o_mov (.tmp 0)) (.vd 52 (o_nilCheck (.tmp 51)) (.vd 53 (o_field 0 (.tmp 52)) (.vd 54 (o_load false 1 (.tmp 53)) (.vd 55 (o_mov (.tmp 9)) (.vd 56 (o_index 2 (.tmp 54) (.tmp 55)) (.vd 57 (o_field 0 (.tmp 56)) (.vd 58 (o_load false 1 (.tmp 57)) (.vd 59 (o_bin .neq (.tmp 58) (.const (.int .i64 2))) (.vd 60 (o_mov (.tmp 59)) (.vg 61 60 false (o_mov (.tmp 1)) (.vg 62 60 false (o_bin .rem (.tmp 61) (.const (.int .i64 64))) (.vg 63 60 false (o_bin .neq (.tmp 62) (.const (.int .i64 0))) (.vd 64 (o_pick (.tmp 60) (.const (.bool true)) (.tmp 63)) (.vd 65 (o_mov (.tmp 64)) (.vg 66 65 false (o_mov (.tmp 0)) (.vg 67 65 false (o_mov (.tmp 9)) (.c (some 68) (some (65, false)) (fun F => c_call F 222 [(.tmp 66), (.tmp 67)]) (.vg 69 65 false (o_mov (.tmp 2)) (.vg 70 65 false (o_bin .add (.tmp 69) (.const (.int .i64 64))) (.vg 71 65 false (o_bin .sub (.tmp 70) (.const (.int .i64 1))) (.vg 72 65 false (o_bin .quo (.tmp 71) (.const (.int .i64 64))) (.vg 73 65 false (o_bin .neq (.tmp 68) (.tmp 72)) (.vd 74 (o_pick (.tmp 65) (.const (.bool true)) (.tmp 73)) .nil)))))))))))))))))))))))))
   (.cond (.tmp 74)
    (.seq (.ops (.vd 8 (o_mov (.const (.int .i64 5))) .nil))
    .ret)
    .skip))))
  (.seq (.seq (.ops (.vd 75 (o_mov (.tmp 1)) (.vd 10 (o_mov (.tmp 75)) .nil)))
  (.block 0 (.loop S129_1)))
  (.seq (.ops (.vd 8 (o_mov (.const (.int .i64 0))) .nil))
  .ret))))))
def X129 : FnS := .code ⟨96, 0, .skip, [.tmp 8]⟩ S129
theorem x129 : okX Go.Proofs.Tryz.prog 129 X129 := okX_of (by kernel_rfl)
def S130 : SCode := (.seq (.ops (.vd 1 (o_box (.tmp 0)) (.vd 2 (o_mov (.const (.int .i64 0))) .nil)))
  (.seq (.seq (.ops (.vd 3 (o_load true 3 (.tmp 1)) (.cd 4 (fun F => c_call F 128 [(.tmp 3)]) (.vd 5 (o_not (.tmp 4)) .nil))))
  (.cond (.tmp 5)
   (.seq (.ops (.vd 2 (o_mov (.const (.int .i64 0))) .nil))
   .ret)
   .skip))
  (.seq (.ops (.vd 6 (o_field 0 (.tmp 1)) (.vd 7 (o_load false 1 (.tmp 6)) (.vd 8 (o_bin .add (.const (.int .i64 2)) (.tmp 7)) (.vd 9 (o_field 1 (.tmp 1)) (.vd 10 (o_load false 1 (.tmp 9)) (.vd 11 (o_bin .add (.tmp 8) (.tmp 10)) (.vd 12 (o_bin .add (.tmp 11) (.const (.int .i64 1))) (.vd 13 (o_bin .quo (.tmp 12) (.const (.int .i64 2))) (.vd 14 (o_bin .mul (.tmp 13) (.const (.int .i64 2))) (.vd 2 (o_mov (.tmp 14)) .nil)))))))))))
  .ret)))
def X130 : FnS := .code ⟨15, 0, .skip, [.tmp 2]⟩ S130
theorem x130 : okX Go.Proofs.Tryz.prog 130 X130 := okX_of (by kernel_rfl)
def S131 : SCode := (.seq (.ops (.vd 1 (o_box (.tmp 0)) (.vd 2 (o_mov (.const (.int .i64 0))) .nil)))
  (.seq (.ops (.vd 3 (o_field 0 (.tmp 1)) (.vd 4 (o_load false 1 (.tmp 3)) (.vd 5 (o_field 1 (.tmp 1)) (.vd 6 (o_load false 1 (.tmp 5)) (.vd 7 (o_bin .mul (.const (.int .i64 16)) (.tmp 6)) (.vd 8 (o_bin .add (.tmp 4) (.tmp 7)) (.vd 9 (o_field 2 (.tmp 1)) (.vd 10 (o_load false 1 (.tmp 9)) (.vd 11 (o_bin .mul (.const (.int .i64 4096)) (.tmp 10)) (.vd 12 (o_bin .add (.tmp 8) (.tmp 11)) (.vd 2 (o_mov (.tmp 12)) .nil))))))))))))
  .ret))
def X131 : FnS := .code ⟨13, 0, .skip, [.tmp 2]⟩ S131
theorem x131 : okX Go.Proofs.Tryz.prog 131 X131 := okX_of (by kernel_rfl)
def S132 : SCode := (.seq (.ops (.vd 6 (o_mov (.const (.int .i64 0))) .nil))
  (.seq (.seq (.ops (.vd 8 (o_mov (.tmp 0)) (.vd 9 (o_mov (.tmp 1)) (.vd 10 (o_mov (.tmp 2)) (.vd 11 (o_buildSlice 1 [.int .i64 0] 1 [(0, 1, (.tmp 10))]) (.cd 12 (fun F => c_call F 223 [(.tmp 8), (.tmp 9), (.tmp 11)]) (.vd 7 (o_mov (.tmp 12)) .nil)))))))
  (.seq (.ops (.vd 13 (o_mov (.tmp 7)) (.vd 14 (o_bin .neq (.tmp 13) (.const (.int .i64 0))) .nil)))
  (.cond (.tmp 14)
   (.seq (.ops (.vd 15 (o_mov (.tmp 7)) (.vd 6 (o_mov (.tmp 15)) .nil)))
   .ret)
   .skip)))
  (.seq (.ops (.vd 16 (o_mov (.tmp 0)) (.vd 17 (o_mov (.tmp 1)) (.vd 18 (o_mov (.tmp 2)) (.cd 19 (fun F => c_call F 224 [(.tmp 16), (.tmp 17), (.tmp 18)]) .nil)))))
  (.seq (.ops (.vd 6 (o_mov (.const (.int .i64 0))) .nil))
  .ret))))
def X132 : FnS := .code ⟨20, 0, .skip, [.tmp 6]⟩ S132
theorem x132 : okX Go.Proofs.Tryz.prog 132 X132 := okX_of (by kernel_rfl)
def S141 : SCode := (.seq (.ops (.vd 4 (o_mov (.const (.int .i64 0))) .nil))
  (.seq (.block 0 (.seq (.ops (.vd 6 (o_mov (.tmp 0)) (.cd 7 (fun F => c_call F 111 [(.tmp 6)]) (.vd 8 (o_not (.tmp 7)) (.vd 5 (o_mov (.tmp 8)) .nil)))))
   (.cond (.tmp 5)
    (.seq (.ops (.vd 4 (o_mov (.const (.int .i64 5))) .nil))
    .ret)
    (.seq (.ops (.vd 10 (o_mov (.tmp 0)) (.vd 11 (o_mov (.tmp 1)) (.cd 12 (fun F => c_call F 124 [(.tmp 10), (.tmp 11)]) (.vd 13 (o_not (.tmp 12)) (.vd 9 (o_mov (.tmp 13)) .nil))))))
    (.cond (.tmp 9)
     (.seq (.ops (.vd 4 (o_mov (.const (.int .i64 4))) .nil))
     .ret)
     .skip)))))
  (.seq (.ops (.vd 4 (o_mov (.const (.int .i64 0))) .nil))
  .ret)))
def X141 : FnS := .code ⟨14, 0, .skip, [.tmp 4]⟩ S141
theorem x141 : okX Go.Proofs.Tryz.prog 141 X141 := okX_of (by kernel_rfl)
def S142 : SCode := (.ops (.vd 6 (o_mov (.tmp 0)) (.vd 7 (o_nilCheck (.tmp 6)) (.vd 8 (o_field 1 (.tmp 7)) (.vd 9 (o_load false 1 (.tmp 8)) (.vd 10 (o_mov (.tmp 1)) (.vd 11 (o_mov (.tmp 1)) (.vd 12 (o_mov (.tmp 2)) (.vd 13 (o_bin .add (.tmp 11) (.tmp 12)) (.vd 14 (o_slice 1 (.tmp 9) (some (.tmp 10)) (some (.tmp 13)) none) (.v none none (o_clear [.int .i64 0] (.tmp 14)) .nil)))))))))))
def X142 : FnS := .code ⟨15, 0, .skip, []⟩ S142
theorem x142 : okX Go.Proofs.Tryz.prog 142 X142 := okX_of (by kernel_rfl)
def S151 : SCode := (.seq (.ops (.vd 3 (o_mov (.const (.bool false))) .nil))
  (.seq (.ops (.vd 4 (o_load false 1 (.tmp 1)) (.vd 5 (o_mov (.tmp 0)) (.vd 6 (o_mapGet false .i64 (.bool false) (.tmp 4) (.tmp 5)) (.vd 3 (o_mov (.tmp 6)) .nil)))))
  .ret))
def X151 : FnS := .code ⟨7, 0, .skip, [.tmp 3]⟩ S151
theorem x151 : okX Go.Proofs.Tryz.prog 151 X151 := okX_of (by kernel_rfl)
def S152 : SCode := (.seq (.ops (.vd 6 (o_mov (.const (.bool false))) .nil))
  (.seq (.ops (.vd 7 (o_mov (.tmp 0)) (.vd 8 (o_mov (.tmp 1)) (.vd 9 (o_mov (.tmp 2)) (.cd 10 (fun F => c_call F 232 [(.tmp 7), (.tmp 8), (.tmp 9)]) (.vd 11 (o_bin .gtr (.tmp 10) (.const (.int .i64 0))) (.vd 6 (o_mov (.tmp 11)) .nil)))))))
  .ret))
def X152 : FnS := .code ⟨12, 0, .skip, [.tmp 6]⟩ S152
theorem x152 : okX Go.Proofs.Tryz.prog 152 X152 := okX_of (by kernel_rfl)
def S153_1 : SCode := .seq (.ops (.vd 12 (o_bin .lss (.tmp 11) (.tmp 10)) .nil))
    (.seq (.cond (.tmp 12)
     .skip
     (.exit 0))
    (.seq (.block 1 (.seq (.ops (.vd 13 (o_index 1 (.tmp 9) (.tmp 11)) (.vd 14 (o_load false 1 (.tmp 13)) (.vd 7 (o_mov (.tmp 14)) .nil))))
     (.seq (.ops (.vd 15 (o_mov (.tmp 1)) (.vd 16 (o_mov (.tmp 7)) (.cd 17 (fun F => c_callv F (.tmp 15) [(.tmp 16)]) (.vd 18 (o_not (.tmp 17)) .nil)))))
     (.cond (.tmp 18)
      (.seq (.ops (.vd 19 (o_mov (.tmp 2)) (.vd 20 (o_nilCheck (.tmp 19)) (.vd 21 (o_field 2 (.tmp 20)) (.vd 22 (o_load false 1 (.tmp 21)) (.vd 23 (o_bin .add (.tmp 22) (.const (.int .i64 1))) (.vd 24 (o_nilCheck (.tmp 19)) (.vd 25 (o_field 2 (.tmp 24)) (.v none none (o_store 1 (.tmp 25) (.tmp 23)) .nil)))))))))
      (.seq (.dregion [⟨⟨some 30, none, .mov (.tmp 0)⟩, 4, 0, 0⟩, ⟨⟨some 31, none, .mov (.tmp 7)⟩, 5, 0, 0⟩, ⟨⟨some 32, none, .call 157 [(.tmp 30), (.tmp 31)]⟩, 6, 3, 0⟩, ⟨⟨some 26, none, .mov (.tmp 2)⟩, 0, 0, 0⟩, ⟨⟨some 27, none, .nilCheck (.tmp 26)⟩, 1, 0, 0⟩, ⟨⟨some 28, none, .field 3 (.tmp 27)⟩, 2, 0, 0⟩, ⟨⟨some 29, none, .load false 1 (.tmp 28)⟩, 3, 1, 0⟩, ⟨⟨some 33, none, .bin .add (.tmp 29) (.tmp 32)⟩, 7, 0, 1⟩, ⟨⟨some 34, none, .nilCheck (.tmp 26)⟩, 8, 0, 1⟩, ⟨⟨some 35, none, .field 3 (.tmp 34)⟩, 9, 0, 1⟩, ⟨⟨none, none, .store 1 (.tmp 35) (.tmp 33)⟩, 10, 3, 1⟩])
      (.ops (.vd 36 (o_mov (.tmp 0)) (.vd 37 (o_mov (.tmp 7)) (.cd 38 (fun F => c_call F 55 [(.tmp 36), (.tmp 37)]) .nil))))))
      .skip))))
    (.ops (.vd 39 (o_bin .add (.tmp 11) (.const (.int .i64 1))) (.vd 11 (o_mov (.tmp 39)) .nil)))))
def S153 : SCode := (.seq (.ops (.vd 8 (o_mov (.tmp 0)) (.cd 9 (fun F => c_call F 42 [(.tmp 8)]) (.vd 10 (o_len (.tmp 9)) (.vd 11 (o_mov (.const (.int .i64 0))) .nil)))))
  (.block 0 (.loop S153_1)))
def X153 : FnS := .code ⟨40, 0, .skip, []⟩ S153
theorem x153 : okX Go.Proofs.Tryz.prog 153 X153 := okX_of (by kernel_rfl)
def S154_1 : SCode := .seq (.ops (.vd 46 (o_bin .lss (.tmp 45) (.tmp 44)) .nil))
       (.seq (.cond (.tmp 46)
        .skip
        (.exit 4))
       (.seq (.block 5 (.seq (.ops (.vd 47 (o_index 1 (.tmp 43) (.tmp 45)) (.vd 48 (o_load false 1 (.tmp 47)) (.vd 14 (o_mov (.tmp 48)) .nil))))
        (.seq (.seq (.ops (.vd 49 (o_load false 1 (.tmp 6)) (.vd 50 (o_mov (.tmp 14)) (.vd 51 (o_mapGet false .i64 (.bool false) (.tmp 49) (.tmp 50)) (.vd 52 (o_not (.tmp 51)) (.vd 53 (o_mov (.tmp 52)) (.vg 54 53 false (o_load false 1 (.tmp 2)) (.vg 55 53 false (o_mov (.tmp 14)) (.c (some 56) (some (53, false)) (fun F => c_call F 235 [(.tmp 54), (.tmp 55)]) (.vg 57 53 false (o_bin .neq (.tmp 56) (.const (.int .i64 2))) (.vd 58 (o_pick (.tmp 53) (.const (.bool true)) (.tmp 57)) .nil)))))))))))
        (.cond (.tmp 58)
         (.exit 5)
         .skip))
        (.seq (.ops (.vd 60 (o_load false 1 (.tmp 2)) (.vd 61 (o_mov (.tmp 14)) (.cd 62 (fun F => c_call F 76 [(.tmp 60), (.tmp 61), (.const (.int .i64 0))]) (.vd 59 (o_mov (.tmp 62)) (.vd 63 (o_extract (.tmp 59) 0) (.vd 64 (o_extract (.tmp 59) 1) (.vd 15 (o_mov (.tmp 63)) (.vd 16 (o_mov (.tmp 64)) .nil)))))))))
        (.seq (.ops (.vd 65 (o_load false 1 (.tmp 6)) (.vd 66 (o_mov (.tmp 15)) (.vd 67 (o_mapGet false .i64 (.bool false) (.tmp 65) (.tmp 66)) .nil))))
        (.cond (.tmp 67)
         (.seq (.ops (.vd 69 (o_load false 1 (.tmp 2)) (.vd 70 (o_mov (.tmp 14)) (.cd 71 (fun F => c_call F 76 [(.tmp 69), (.tmp 70), (.const (.int .i64 1))]) (.vd 68 (o_mov (.tmp 71)) (.vd 72 (o_extract (.tmp 68) 0) (.vd 73 (o_extract (.tmp 68) 1) (.vd 17 (o_mov (.tmp 72)) (.vd 18 (o_mov (.tmp 73)) .nil)))))))))
         (.ops (.vd 74 (o_mov (.tmp 9)) (.vd 75 (o_mov (.tmp 17)) (.vd 76 (o_buildSlice 1 [.int .i64 0] 1 [(0, 1, (.tmp 75))]) (.vd 77 (o_append 1 (.tmp 74) (.tmp 76)) (.vd 9 (o_mov (.tmp 77)) .nil)))))))
         .skip))))))
       (.ops (.vd 78 (o_bin .add (.tmp 45) (.const (.int .i64 1))) (.vd 45 (o_mov (.tmp 78)) .nil)))))
def S154_2 : SCode := .seq (.ops (.vd 29 (o_bin .lss (.tmp 28) (.tmp 27)) .nil))
       (.seq (.cond (.tmp 29)
        .skip
        (.exit 2))
       (.seq (.block 3 (.seq (.ops (.vd 30 (o_index 1 (.tmp 26) (.tmp 28)) (.vd 31 (o_load false 1 (.tmp 30)) (.vd 12 (o_mov (.tmp 31)) .nil))))
        (.ops (.vd 32 (o_load false 1 (.tmp 7)) (.vd 33 (o_mov (.tmp 12)) (.cd 34 (fun F => c_callv F (.tmp 32) [(.tmp 33)]) .nil))))))
       (.ops (.vd 35 (o_bin .add (.tmp 28) (.const (.int .i64 1))) (.vd 28 (o_mov (.tmp 35)) .nil)))))
def S154_3 : SCode := .seq (.block 1 (.seq (.ops (.vd 24 (o_load false 1 (.tmp 6)) (.vd 25 (o_mapLen (.tmp 24)) (.vd 10 (o_mov (.tmp 25)) .nil))))
     (.seq (.seq (.ops (.vd 26 (o_mov (.tmp 9)) (.vd 27 (o_len (.tmp 26)) (.vd 28 (o_mov (.const (.int .i64 0))) .nil))))
     (.block 2 (.loop S154_2)))
     (.seq (.seq (.ops (.vd 36 (o_load false 1 (.tmp 6)) (.vd 37 (o_mapLen (.tmp 36)) (.vd 38 (o_mov (.tmp 10)) (.vd 39 (o_bin .eql (.tmp 37) (.tmp 38)) .nil)))))
     (.cond (.tmp 39)
      (.seq (.ops (.vd 40 (o_load false 1 (.tmp 6)) (.vd 41 (o_mov (.tmp 8)) (.vd 4 (o_mov (.tmp 40)) (.vd 5 (o_mov (.tmp 41)) .nil)))))
      .ret)
      .skip))
     (.seq (.ops (.vd 9 (o_mov (.const (.nilSlice))) .nil))
     (.seq (.ops (.vd 42 (o_load false 1 (.tmp 2)) (.cd 43 (fun F => c_call F 42 [(.tmp 42)]) (.vd 44 (o_len (.tmp 43)) (.vd 45 (o_mov (.const (.int .i64 0))) .nil)))))
     (.block 4 (.loop S154_1))))))))
    (.ops (.vd 22 (o_mov (.tmp 8)) (.vd 23 (o_bin .add (.tmp 22) (.const (.int .i64 1))) (.vd 8 (o_mov (.tmp 23)) .nil))))
def S154 : SCode := (.seq (.ops (.vd 2 (o_box (.tmp 0)) (.vd 4 (o_mov (.const (.nilMap))) (.vd 5 (o_mov (.const (.int .i64 0))) .nil))))
  (.seq (.ops (.vd 19 (o_mapNew) (.vd 6 (o_new [.nilMap]) (.v none none (o_store 1 (.tmp 6) (.tmp 19)) .nil))))
  (.seq (.ops (.vd 7 (o_new [.nilFunc]) .nil))
  (.seq (.ops (.vd 20 (o_mkfunc 233 [(.tmp 2), (.tmp 6), (.tmp 7)]) (.v none none (o_store 1 (.tmp 7) (.tmp 20)) .nil)))
  (.seq (.ops (.vd 8 (o_mov (.const (.int .i64 0))) .nil))
  (.seq (.ops (.vd 21 (o_mov (.tmp 1)) (.vd 9 (o_mov (.tmp 21)) .nil)))
  (.block 0 (.loop S154_3))))))))
def X154 : FnS := .code ⟨79, 0, .skip, [.tmp 4, .tmp 5]⟩ S154
theorem x154 : okX Go.Proofs.Tryz.prog 154 X154 := okX_of (by kernel_rfl)
def S155 : SCode := (.seq (.ops (.vd 2 (o_mov (.const (.nilSlice))) .nil))
  (.seq (.seq (.ops (.vd 6 (o_mov (.tmp 0)) (.cd 7 (fun F => c_call F 171 [(.tmp 6)]) (.vd 8 (o_not (.tmp 7)) .nil))))
  (.cond (.tmp 8)
   (.seq (.ops (.vd 2 (o_mov (.const (.nilSlice))) .nil))
   .ret)
   .skip))
  (.seq (.ops (.vd 3 (o_new [.nilSlice]) .nil))
  (.seq (.seq (.ops (.vd 9 (o_mov (.tmp 0)) (.cd 10 (fun F => c_call F 174 [(.tmp 9)]) .nil)))
  (.block 0 (.rangeF (.tmp 10) [11, 12] 26 4960)))
  (.seq (.ops (.vd 25 (o_load false 1 (.tmp 3)) (.vd 2 (o_mov (.tmp 25)) .nil)))
  .ret)))))
def X155 : FnS := .code ⟨26, 0, .skip, [.tmp 2]⟩ S155
theorem x155 : okX Go.Proofs.Tryz.prog 155 X155 := okX_of (by kernel_rfl)
def S156_1 : SCode := .seq (.ops (.vd 9 (o_bin .lss (.tmp 8) (.tmp 7)) .nil))
    (.seq (.cond (.tmp 9)
     .skip
     (.exit 0))
    (.seq (.block 1 (.seq (.ops (.vd 10 (o_mov (.tmp 8)) (.vd 5 (o_mov (.tmp 10)) .nil)))
     (.seq (.ops (.vd 11 (o_mov (.tmp 1)) (.vd 12 (o_mov (.tmp 0)) (.vd 13 (o_mov (.tmp 5)) (.vd 14 (o_index 1 (.tmp 12) (.tmp 13)) (.vd 15 (o_load false 1 (.tmp 14)) (.vd 16 (o_bin .eql (.tmp 11) (.tmp 15)) .nil)))))))
     (.cond (.tmp 16)
      (.seq (.ops (.vd 17 (o_mov (.tmp 5)) (.vd 4 (o_mov (.tmp 17)) .nil)))
      .ret)
      .skip))))
    (.ops (.vd 18 (o_bin .add (.tmp 8) (.const (.int .i64 1))) (.vd 8 (o_mov (.tmp 18)) .nil)))))
def S156 : SCode := (.seq (.ops (.vd 4 (o_mov (.const (.int .i64 0))) .nil))
  (.seq (.seq (.ops (.vd 6 (o_mov (.tmp 0)) (.vd 7 (o_len (.tmp 6)) (.vd 8 (o_mov (.const (.int .i64 0))) .nil))))
  (.block 0 (.loop S156_1)))
  (.seq (.ops (.vd 4 (o_mov (.const (.int .i64 (-1)))) .nil))
  .ret)))
def X156 : FnS := .code ⟨19, 0, .skip, [.tmp 4]⟩ S156
theorem x156 : okX Go.Proofs.Tryz.prog 156 X156 := okX_of (by kernel_rfl)
def S157 : SCode := (.seq (.ops (.vd 4 (o_mov (.const (.int .i64 0))) .nil))
  (.seq (.ops (.vd 8 (o_mov (.tmp 0)) (.vd 9 (o_mov (.tmp 1)) (.cd 10 (fun F => c_call F 75 [(.tmp 8), (.tmp 9)]) (.vd 7 (o_mov (.tmp 10)) (.vd 11 (o_extract (.tmp 7) 0) (.vd 12 (o_extract (.tmp 7) 1) (.vd 5 (o_new [.int .i64 0, .int .i64 0, .int .i64 0]) (.v none none (o_store 3 (.tmp 5) (.tmp 11)) (.vd 6 (o_mov (.tmp 12)) .nil))))))))))
  (.seq (.ops (.vd 13 (o_load true 3 (.tmp 5)) (.cd 14 (fun F => c_call F 130 [(.tmp 13)]) (.vd 4 (o_mov (.tmp 14)) .nil))))
  .ret)))
def X157 : FnS := .code ⟨15, 0, .skip, [.tmp 4]⟩ S157
theorem x157 : okX Go.Proofs.Tryz.prog 157 X157 := okX_of (by kernel_rfl)
def S164_1 : SCode := .seq (.seq (.ops (.vd 21 (o_mov (.tmp 6)) (.vd 22 (o_bin .gtr (.tmp 21) (.const (.int .i64 0))) .nil)))
    (.cond (.tmp 22)
     .skip
     (.exit 0)))
    (.seq (.block 1 (.ops (.vd 25 (o_mov (.tmp 0)) (.vd 26 (o_nilCheck (.tmp 25)) (.vd 27 (o_field 0 (.tmp 26)) (.vd 28 (o_load false 1 (.tmp 27)) (.vd 29 (o_mov (.tmp 1)) (.vd 30 (o_mov (.tmp 6)) (.vd 31 (o_bin .add (.tmp 29) (.tmp 30)) (.vd 32 (o_bin .sub (.tmp 31) (.const (.int .i64 1))) (.vd 33 (o_build [.int .i64 0, .int .i64 0] []) (.vd 34 (o_index 2 (.tmp 28) (.tmp 32)) (.v none none (o_store 2 (.tmp 34) (.tmp 33)) .nil)))))))))))))
    (.ops (.vd 23 (o_mov (.tmp 6)) (.vd 24 (o_bin .sub (.tmp 23) (.const (.int .i64 1))) (.vd 6 (o_mov (.tmp 24)) .nil)))))
def S164 : SCode := (.seq (.ops (.vd 4 (o_mov (.const (.int .i64 0))) .nil))
  (.seq (.seq (.ops (.vd 7 (o_mov (.tmp 0)) (.vd 8 (o_mov (.tmp 1)) (.cd 9 (fun F => c_call F 239 [(.tmp 7), (.tmp 8), (.const (.bool true))]) (.vd 5 (o_mov (.tmp 9)) .nil)))))
  (.seq (.ops (.vd 10 (o_mov (.tmp 5)) (.vd 11 (o_bin .neq (.tmp 10) (.const (.int .i64 0))) .nil)))
  (.cond (.tmp 11)
   (.seq (.ops (.vd 12 (o_mov (.tmp 5)) (.vd 4 (o_mov (.tmp 12)) .nil)))
   .ret)
   .skip)))
  (.seq (.seq (.ops (.vd 13 (o_mov (.tmp 0)) (.vd 14 (o_mov (.tmp 1)) (.cd 15 (fun F => c_call F 210 [(.tmp 13), (.tmp 14)]) (.vd 16 (o_len (.tmp 15)) (.vd 17 (o_bin .gtr (.tmp 16) (.const (.int .i64 0))) .nil))))))
  (.cond (.tmp 17)
   (.seq (.ops (.vd 4 (o_mov (.const (.int .i64 8))) .nil))
   .ret)
   .skip))
  (.seq (.seq (.ops (.vd 18 (o_mov (.tmp 0)) (.vd 19 (o_mov (.tmp 1)) (.cd 20 (fun F => c_call F 222 [(.tmp 18), (.tmp 19)]) (.vd 6 (o_mov (.tmp 20)) .nil)))))
  (.block 0 (.loop S164_1)))
  (.seq (.ops (.vd 4 (o_mov (.const (.int .i64 0))) .nil))
  .ret)))))
def X164 : FnS := .code ⟨35, 0, .skip, [.tmp 4]⟩ S164
theorem x164 : okX Go.Proofs.Tryz.prog 164 X164 := okX_of (by kernel_rfl)
def S165 : SCode := (.seq (.ops (.vd 2 (o_new [.int .i64 0, .int .i64 0, .int .i64 0]) .nil))
  (.seq (.ops (.vd 3 (o_mov (.tmp 0)) (.vd 4 (o_bin .rem (.tmp 3) (.const (.int .i64 16))) (.vd 5 (o_mov (.tmp 0)) (.vd 6 (o_bin .rem (.tmp 5) (.const (.int .i64 4096))) (.vd 7 (o_bin .quo (.tmp 6) (.const (.int .i64 16))) (.vd 8 (o_mov (.tmp 0)) (.vd 9 (o_bin .quo (.tmp 8) (.const (.int .i64 4096))) (.vd 10 (o_build [.int .i64 0, .int .i64 0, .int .i64 0] [(0, 1, (.tmp 4)), (1, 1, (.tmp 7)), (2, 1, (.tmp 9))]) (.v none none (o_store 3 (.tmp 2) (.tmp 10)) .nil))))))))))
  .ret))
def X165 : FnS := .code ⟨11, 0, .skip, [.cell 2 true 3]⟩ S165
theorem x165 : okX Go.Proofs.Tryz.prog 165 X165 := okX_of (by kernel_rfl)
def S166 : SCode := (.seq (.ops (.vd 8 (o_mov (.const (.int .i64 0))) (.vd 9 (o_mov (.const (.int .i64 0))) .nil)))
  (.seq (.seq (.ops (.vd 14 (o_mov (.tmp 0)) (.vd 15 (o_mov (.tmp 1)) (.cd 16 (fun F => c_call F 141 [(.tmp 14), (.tmp 15)]) (.vd 10 (o_mov (.tmp 16)) .nil)))))
  (.seq (.ops (.vd 17 (o_mov (.tmp 10)) (.vd 18 (o_bin .neq (.tmp 17) (.const (.int .i64 0))) .nil)))
  (.cond (.tmp 18)
   (.seq (.ops (.vd 19 (o_mov (.tmp 10)) (.vd 8 (o_mov (.const (.int .i64 0))) (.vd 9 (o_mov (.tmp 19)) .nil))))
   .ret)
   .skip)))
  (.seq (.ops (.vd 20 (o_mov (.tmp 0)) (.vd 21 (o_nilCheck (.tmp 20)) (.vd 22 (o_field 1 (.tmp 21)) (.vd 23 (o_load false 1 (.tmp 22)) (.vd 24 (o_mov (.tmp 1)) (.vd 25 (o_bin .add (.tmp 24) (.const (.int .i64 1))) (.vd 26 (o_index 1 (.tmp 23) (.tmp 25)) (.vd 27 (o_load false 1 (.tmp 26)) (.cd 28 (fun F => c_call F 165 [(.tmp 27)]) (.vd 11 (o_new [.int .i64 0, .int .i64 0, .int .i64 0]) (.v none none (o_store 3 (.tmp 11) (.tmp 28)) .nil))))))))))))
  (.seq (.dregion [⟨⟨some 29, none, .mov (.tmp 1)⟩, 0, 0, 0⟩, ⟨⟨some 30, none, .bin .add (.tmp 29) (.const (.int .i64 2))⟩, 1, 0, 0⟩, ⟨⟨some 31, none, .field 0 (.tmp 11)⟩, 2, 0, 0⟩, ⟨⟨some 32, none, .load false 1 (.tmp 31)⟩, 3, 1, 0⟩, ⟨⟨some 12, none, .mov (.tmp 30)⟩, 4, 0, 0⟩, ⟨⟨some 13, none, .mov (.tmp 32)⟩, 5, 0, 0⟩])
  (.seq (.seq (.ops (.vd 33 (o_mov (.tmp 3)) .nil))
  (.cond (.tmp 33)
   (.dregion [⟨⟨some 34, none, .mov (.tmp 12)⟩, 0, 0, 0⟩, ⟨⟨some 35, none, .field 0 (.tmp 11)⟩, 1, 0, 0⟩, ⟨⟨some 36, none, .load false 1 (.tmp 35)⟩, 2, 1, 0⟩, ⟨⟨some 37, none, .bin .add (.tmp 34) (.tmp 36)⟩, 3, 0, 0⟩, ⟨⟨some 38, none, .field 1 (.tmp 11)⟩, 4, 0, 0⟩, ⟨⟨some 39, none, .load false 1 (.tmp 38)⟩, 5, 1, 0⟩, ⟨⟨some 12, none, .mov (.tmp 37)⟩, 6, 0, 0⟩, ⟨⟨some 13, none, .mov (.tmp 39)⟩, 7, 0, 0⟩])
   .skip))
  (.seq (.seq (.ops (.vd 40 (o_mov (.tmp 2)) (.vd 41 (o_bin .lss (.tmp 40) (.const (.int .i64 0))) (.vd 42 (o_mov (.tmp 41)) (.vg 43 42 false (o_mov (.tmp 2)) (.vg 44 42 false (o_mov (.tmp 13)) (.vg 45 42 false (o_bin .geq (.tmp 43) (.tmp 44)) (.vd 46 (o_pick (.tmp 42) (.const (.bool true)) (.tmp 45)) .nil))))))))
  (.cond (.tmp 46)
   (.seq (.ops (.vd 8 (o_mov (.const (.int .i64 0))) (.vd 9 (o_mov (.const (.int .i64 1))) .nil)))
   .ret)
   .skip))
  (.seq (.ops (.vd 47 (o_mov (.tmp 12)) (.vd 48 (o_mov (.tmp 2)) (.vd 49 (o_bin .add (.tmp 47) (.tmp 48)) (.vd 8 (o_mov (.tmp 49)) (.vd 9 (o_mov (.const (.int .i64 0))) .nil))))))
  .ret)))))))
def X166 : FnS := .code ⟨50, 0, .skip, [.tmp 8, .tmp 9]⟩ S166
theorem x166 : okX Go.Proofs.Tryz.prog 166 X166 := okX_of (by kernel_rfl)
def S171 : SCode := (.seq (.ops (.vd 2 (o_mov (.const (.bool false))) .nil))
  (.seq (.ops (.vd 3 (o_mov (.tmp 0)) (.vd 4 (o_eqv true 1 (.tmp 3) (.const (.nilPtr))) (.vd 5 (o_mov (.tmp 4)) (.vg 6 5 true (o_mov (.tmp 0)) (.vg 7 5 true (o_nilCheck (.tmp 6)) (.vg 8 5 true (o_field 0 (.tmp 7)) (.vg 9 5 true (o_load false 1 (.tmp 8)) (.vg 10 5 true (o_bin .gtr (.tmp 9) (.const (.int .i64 0))) (.vd 11 (o_pick (.tmp 5) (.tmp 10) (.const (.bool false))) (.vd 2 (o_mov (.tmp 11)) .nil)))))))))))
  .ret))
def X171 : FnS := .code ⟨12, 0, .skip, [.tmp 2]⟩ S171
theorem x171 : okX Go.Proofs.Tryz.prog 171 X171 := okX_of (by kernel_rfl)
def S174 : SCode := (.seq (.ops (.vd 1 (o_box (.tmp 0)) (.vd 2 (o_mov (.const (.nilFunc))) .nil)))
  (.seq (.ops (.vd 3 (o_mkfunc 243 [(.tmp 1)]) (.vd 2 (o_mov (.tmp 3)) .nil)))
  .ret))
def X174 : FnS := .code ⟨4, 0, .skip, [.tmp 2]⟩ S174
theorem x174 : okX Go.Proofs.Tryz.prog 174 X174 := okX_of (by kernel_rfl)
def S203 : SCode := (.seq (.ops (.vd 3 (o_mov (.const (.bool false))) .nil))
  (.seq (.ops (.vd 4 (o_mov (.tmp 0)) (.vd 5 (o_bin .neq (.tmp 4) (.const (.int .i64 0))) (.vd 6 (o_mov (.tmp 5)) (.vg 7 6 true (o_load false 1 (.tmp 1)) (.vg 8 6 true (o_mov (.tmp 0)) (.c (some 9) (some (6, true)) (fun F => c_call F 124 [(.tmp 7), (.tmp 8)]) (.vg 10 6 true (o_not (.tmp 9)) (.vd 11 (o_pick (.tmp 6) (.tmp 10) (.const (.bool false))) (.vd 3 (o_mov (.tmp 11)) .nil))))))))))
  .ret))
def X203 : FnS := .code ⟨12, 0, .skip, [.tmp 3]⟩ S203
theorem x203 : okX Go.Proofs.Tryz.prog 203 X203 := okX_of (by kernel_rfl)
def S204 : SCode := (.seq (.ops (.vd 4 (o_mov (.const (.bool false))) .nil))
  (.seq (.ops (.vd 5 (o_mov (.tmp 0)) (.vd 6 (o_mov (.tmp 1)) (.cd 7 (fun F => c_call F 122 [(.tmp 5), (.tmp 6)]) (.vd 8 (o_bin .geq (.tmp 7) (.const (.int .i64 0))) (.vd 4 (o_mov (.tmp 8)) .nil))))))
  .ret))
def X204 : FnS := .code ⟨9, 0, .skip, [.tmp 4]⟩ S204
theorem x204 : okX Go.Proofs.Tryz.prog 204 X204 := okX_of (by kernel_rfl)
def S210 : SCode := (.seq (.ops (.vd 4 (o_mov (.const (.nilSlice))) .nil))
  (.seq (.seq (.ops (.vd 5 (o_mov (.tmp 0)) (.cd 6 (fun F => c_call F 111 [(.tmp 5)]) (.vd 7 (o_not (.tmp 6)) (.vd 8 (o_mov (.tmp 7)) (.vg 9 8 false (o_mov (.tmp 1)) (.vg 10 8 false (o_bin .lss (.tmp 9) (.const (.int .i64 0))) (.vd 11 (o_pick (.tmp 8) (.const (.bool true)) (.tmp 10)) (.vd 12 (o_mov (.tmp 11)) (.vg 13 12 false (o_mov (.tmp 1)) (.vg 14 12 false (o_mov (.tmp 0)) (.vg 15 12 false (o_nilCheck (.tmp 14)) (.vg 16 12 false (o_field 0 (.tmp 15)) (.vg 17 12 false (o_load false 1 (.tmp 16)) (.vg 18 12 false (o_len (.tmp 17)) (.vg 19 12 false (o_bin .geq (.tmp 13) (.tmp 18)) (.vd 20 (o_pick (.tmp 12) (.const (.bool true)) (.tmp 19)) .nil)))))))))))))))))
  (.cond (.tmp 20)
   (.seq (.ops (.vd 4 (o_mov (.const (.nilSlice))) .nil))
   .ret)
   .skip))
  (.seq (.ops (.vd 21 (o_mov (.tmp 0)) (.vd 22 (o_mov (.tmp 1)) (.vd 23 (o_bin .mul (.tmp 22) (.const (.int .i64 64))) (.vd 24 (o_mov (.tmp 1)) (.vd 25 (o_bin .add (.tmp 24) (.const (.int .i64 1))) (.vd 26 (o_bin .mul (.tmp 25) (.const (.int .i64 64))) (.cd 27 (fun F => c_call F 123 [(.tmp 21), (.tmp 23), (.tmp 26)]) (.vd 4 (o_mov (.tmp 27)) .nil)))))))))
  .ret)))
def X210 : FnS := .code ⟨28, 0, .skip, [.tmp 4]⟩ S210
theorem x210 : okX Go.Proofs.Tryz.prog 210 X210 := okX_of (by kernel_rfl)
def S212 : SCode := (.seq (.ops (.vd 2 (o_mov (.const (.bool false))) .nil))
  (.seq (.ops (.vd 3 (o_mov (.tmp 0)) (.vd 4 (o_eqv true 1 (.tmp 3) (.const (.nilPtr))) (.vd 5 (o_mov (.tmp 4)) (.vg 6 5 true (o_mov (.tmp 0)) (.vg 7 5 true (o_nilCheck (.tmp 6)) (.vg 8 5 true (o_field 0 (.tmp 7)) (.vg 9 5 true (o_load false 1 (.tmp 8)) (.vg 10 5 true (o_bin .gtr (.tmp 9) (.const (.int .i64 0))) (.vd 11 (o_pick (.tmp 5) (.tmp 10) (.const (.bool false))) (.vd 2 (o_mov (.tmp 11)) .nil)))))))))))
  .ret))
def X212 : FnS := .code ⟨12, 0, .skip, [.tmp 2]⟩ S212
theorem x212 : okX Go.Proofs.Tryz.prog 212 X212 := okX_of (by kernel_rfl)
def S213 : SCode := (.seq (.ops (.vd 4 (o_mov (.const (.int .i64 0))) .nil))
  (.seq (.ops (.vd 6 (o_mov (.tmp 1)) (.vd 7 (o_mov (.tmp 0)) (.vd 8 (o_nilCheck (.tmp 7)) (.vd 9 (o_field 1 (.tmp 8)) (.vd 10 (o_load false 1 (.tmp 9)) (.vd 11 (o_bin .mul (.tmp 6) (.tmp 10)) (.vd 5 (o_mov (.tmp 11)) .nil))))))))
  (.seq (.dregion [⟨⟨some 24, none, .mov (.tmp 0)⟩, 12, 0, 0⟩, ⟨⟨some 25, none, .call 260 [(.tmp 24)]⟩, 13, 3, 0⟩, ⟨⟨some 12, none, .mov (.tmp 0)⟩, 0, 0, 0⟩, ⟨⟨some 13, none, .nilCheck (.tmp 12)⟩, 1, 0, 0⟩, ⟨⟨some 14, none, .field 2 (.tmp 13)⟩, 2, 0, 0⟩, ⟨⟨some 15, none, .load false 1 (.tmp 14)⟩, 3, 1, 0⟩, ⟨⟨some 16, none, .mov (.tmp 5)⟩, 4, 0, 0⟩, ⟨⟨some 17, none, .bin .quo (.tmp 16) (.const (.int .i64 64))⟩, 5, 0, 0⟩, ⟨⟨some 18, none, .index 1 (.tmp 15) (.tmp 17)⟩, 6, 0, 0⟩, ⟨⟨some 19, none, .load false 1 (.tmp 18)⟩, 7, 1, 0⟩, ⟨⟨some 20, none, .mov (.tmp 5)⟩, 8, 0, 0⟩, ⟨⟨some 21, none, .bin .rem (.tmp 20) (.const (.int .i64 64))⟩, 9, 0, 0⟩, ⟨⟨some 22, none, .shift .shr (.tmp 19) (.tmp 21)⟩, 10, 0, 0⟩, ⟨⟨some 23, none, .conv .i64 (.tmp 22)⟩, 11, 0, 0⟩, ⟨⟨some 26, none, .bin .and (.tmp 23) (.tmp 25)⟩, 14, 0, 1⟩, ⟨⟨some 4, none, .mov (.tmp 26)⟩, 15, 0, 1⟩])
  .ret)))
def X213 : FnS := .code ⟨27, 0, .skip, [.tmp 4]⟩ S213
theorem x213 : okX Go.Proofs.Tryz.prog 213 X213 := okX_of (by kernel_rfl)
def S216_1 : SCode := .seq (.seq (.ops (.vd 14 (o_mov (.tmp 8)) (.vd 15 (o_mov (.tmp 0)) (.vd 16 (o_nilCheck (.tmp 15)) (.vd 17 (o_field 0 (.tmp 16)) (.vd 18 (o_load false 1 (.tmp 17)) (.vd 19 (o_bin .lss (.tmp 14) (.tmp 18)) .nil)))))))
    (.cond (.tmp 19)
     .skip
     (.exit 0)))
    (.seq (.block 1 (.seq (.ops (.vd 22 (o_mov (.tmp 0)) (.vd 23 (o_mov (.tmp 8)) (.cd 24 (fun F => c_call F 213 [(.tmp 22), (.tmp 23)]) (.vd 25 (o_mov (.tmp 2)) (.vd 26 (o_bin .eql (.tmp 24) (.tmp 25)) .nil))))))
     (.cond (.tmp 26)
      (.seq (.ops (.vd 27 (o_mov (.tmp 8)) (.vd 6 (o_mov (.tmp 27)) (.vd 7 (o_mov (.const (.int .i64 0))) .nil))))
      .ret)
      .skip)))
    (.ops (.vd 20 (o_mov (.tmp 8)) (.vd 21 (o_bin .add (.tmp 20) (.const (.int .i64 1))) (.vd 8 (o_mov (.tmp 21)) .nil)))))
def S216 : SCode := (.seq (.ops (.vd 6 (o_mov (.const (.int .i64 0))) (.vd 7 (o_mov (.const (.int .i64 0))) .nil)))
  (.seq (.seq (.ops (.vd 9 (o_mov (.tmp 0)) (.cd 10 (fun F => c_call F 212 [(.tmp 9)]) (.vd 11 (o_not (.tmp 10)) .nil))))
  (.cond (.tmp 11)
   (.seq (.ops (.vd 6 (o_mov (.const (.int .i64 0))) (.vd 7 (o_mov (.const (.int .i64 5))) .nil)))
   .ret)
   .skip))
  (.seq (.seq (.ops (.vd 12 (o_mov (.tmp 1)) (.vd 13 (o_mm true [(.tmp 12), (.const (.int .i64 0))]) (.vd 8 (o_mov (.tmp 13)) .nil))))
  (.block 0 (.loop S216_1)))
  (.seq (.ops (.vd 6 (o_mov (.const (.int .i64 0))) (.vd 7 (o_mov (.const (.int .i64 4))) .nil)))
  .ret))))
def X216 : FnS := .code ⟨28, 0, .skip, [.tmp 6, .tmp 7]⟩ S216
theorem x216 : okX Go.Proofs.Tryz.prog 216 X216 := okX_of (by kernel_rfl)
def S217 : SCode := (.seq (.ops (.vd 4 (o_mov (.const (.bool false))) .nil))
  (.seq (.ops (.vd 5 (o_mov (.tmp 0)) (.cd 6 (fun F => c_call F 212 [(.tmp 5)]) (.vd 7 (o_mov (.tmp 6)) (.vg 8 7 true (o_mov (.tmp 1)) (.vg 9 7 true (o_bin .geq (.tmp 8) (.const (.int .i64 0))) (.vd 10 (o_pick (.tmp 7) (.tmp 9) (.const (.bool false))) (.vd 11 (o_mov (.tmp 10)) (.vg 12 11 true (o_mov (.tmp 1)) (.vg 13 11 true (o_mov (.tmp 0)) (.vg 14 11 true (o_nilCheck (.tmp 13)) (.vg 15 11 true (o_field 0 (.tmp 14)) (.vg 16 11 true (o_load false 1 (.tmp 15)) (.vg 17 11 true (o_bin .lss (.tmp 12) (.tmp 16)) (.vd 18 (o_pick (.tmp 11) (.tmp 17) (.const (.bool false))) (.vd 4 (o_mov (.tmp 18)) .nil))))))))))))))))
  .ret))
def X217 : FnS := .code ⟨19, 0, .skip, [.tmp 4]⟩ S217
theorem x217 : okX Go.Proofs.Tryz.prog 217 X217 := okX_of (by kernel_rfl)
def S218 : SCode := (.seq (.ops (.vd 4 (o_mov (.const (.bool false))) .nil))
  (.seq (.ops (.vd 5 (o_mov (.tmp 0)) (.cd 6 (fun F => c_call F 111 [(.tmp 5)]) (.vd 7 (o_mov (.tmp 6)) (.vg 8 7 true (o_mov (.tmp 1)) (.vg 9 7 true (o_bin .geq (.tmp 8) (.const (.int .i64 1))) (.vd 10 (o_pick (.tmp 7) (.tmp 9) (.const (.bool false))) (.vd 11 (o_mov (.tmp 10)) (.vg 12 11 true (o_mov (.tmp 1)) (.vg 13 11 true (o_mov (.tmp 0)) (.vg 14 11 true (o_nilCheck (.tmp 13)) (.vg 15 11 true (o_field 0 (.tmp 14)) (.vg 16 11 true (o_load false 1 (.tmp 15)) (.vg 17 11 true (o_len (.tmp 16)) (.vg 18 11 true (o_bin .lss (.tmp 12) (.tmp 17)) (.vd 19 (o_pick (.tmp 11) (.tmp 18) (.const (.bool false))) (.vd 4 (o_mov (.tmp 19)) .nil)))))))))))))))))
  .ret))
def X218 : FnS := .code ⟨20, 0, .skip, [.tmp 4]⟩ S218
theorem x218 : okX Go.Proofs.Tryz.prog 218 X218 := okX_of (by kernel_rfl)
def S219 : SCode := (.seq (.ops (.vd 2 (o_mov (.const (.bool false))) .nil))
  (.seq (.ops (.vd 3 (o_mov (.tmp 0)) (.vd 4 (o_bin .geq (.tmp 3) (.const (.int .i64 0))) (.vd 5 (o_mov (.tmp 4)) (.vg 6 5 true (o_mov (.tmp 0)) (.vg 7 5 true (o_bin .lss (.tmp 6) (.const (.int .i64 8))) (.vd 8 (o_pick (.tmp 5) (.tmp 7) (.const (.bool false))) (.vd 2 (o_mov (.tmp 8)) .nil))))))))
  .ret))
def X219 : FnS := .code ⟨9, 0, .skip, [.tmp 2]⟩ S219
theorem x219 : okX Go.Proofs.Tryz.prog 219 X219 := okX_of (by kernel_rfl)
def S220 : SCode := (.seq (.ops (.vd 4 (o_mov (.const (.bool false))) .nil))
  (.seq (.ops (.vd 5 (o_mov (.tmp 0)) (.vd 6 (o_mov (.tmp 1)) (.cd 7 (fun F => c_call F 272 [(.tmp 5), (.tmp 6)]) (.vd 8 (o_bin .geq (.tmp 7) (.const (.int .i64 0))) (.vd 4 (o_mov (.tmp 8)) .nil))))))
  .ret))
def X220 : FnS := .code ⟨9, 0, .skip, [.tmp 4]⟩ S220
theorem x220 : okX Go.Proofs.Tryz.prog 220 X220 := okX_of (by kernel_rfl)
def S221 : SCode := (.seq (.ops (.vd 1 (o_box (.tmp 0)) (.vd 2 (o_mov (.const (.bool false))) .nil)))
  (.seq (.ops (.vd 3 (o_load true 2 (.tmp 1)) (.vd 4 (o_build [.int .i64 0, .int .i64 0] []) (.vd 5 (o_eqs true 2 (.tmp 3) (.tmp 4)) (.vd 2 (o_mov (.tmp 5)) .nil)))))
  .ret))
def X221 : FnS := .code ⟨6, 0, .skip, [.tmp 2]⟩ S221
theorem x221 : okX Go.Proofs.Tryz.prog 221 X221 := okX_of (by kernel_rfl)
def S223 : SCode := (.seq (.ops (.vd 3 (o_box (.tmp 0)) (.vd 6 (o_mov (.const (.int .i64 0))) .nil)))
  (.seq (.block 0 (.seq (.ops (.vd 8 (o_load false 1 (.tmp 3)) (.cd 9 (fun F => c_call F 212 [(.tmp 8)]) (.vd 10 (o_not (.tmp 9)) (.vd 7 (o_mov (.tmp 10)) .nil)))))
   (.cond (.tmp 7)
    (.seq (.ops (.vd 6 (o_mov (.const (.int .i64 5))) .nil))
    .ret)
    (.seq (.ops (.vd 12 (o_load false 1 (.tmp 3)) (.vd 13 (o_mov (.tmp 1)) (.cd 14 (fun F => c_call F 217 [(.tmp 12), (.tmp 13)]) (.vd 15 (o_not (.tmp 14)) (.vd 16 (o_mov (.tmp 15)) (.vg 17 16 false (o_mov (.tmp 2)) (.vg 18 16 false (o_mkfunc 273 [(.tmp 3)]) (.c (some 19) (some (16, false)) (fun F => c_call F 204 [(.tmp 17), (.tmp 18)]) (.vd 20 (o_pick (.tmp 16) (.const (.bool true)) (.tmp 19)) (.vd 11 (o_mov (.tmp 20)) .nil)))))))))))
    (.cond (.tmp 11)
     (.seq (.ops (.vd 6 (o_mov (.const (.int .i64 1))) .nil))
     .ret)
     .skip)))))
  (.seq (.ops (.vd 6 (o_mov (.const (.int .i64 0))) .nil))
  .ret)))
def X223 : FnS := .code ⟨21, 0, .skip, [.tmp 6]⟩ S223
theorem x223 : okX Go.Proofs.Tryz.prog 223 X223 := okX_of (by kernel_rfl)
def S224 : SCode := (.seq (.ops (.vd 8 (o_mov (.tmp 1)) (.vd 9 (o_mov (.tmp 0)) (.vd 10 (o_nilCheck (.tmp 9)) (.vd 11 (o_field 1 (.tmp 10)) (.vd 12 (o_load false 1 (.tmp 11)) (.vd 13 (o_bin .mul (.tmp 8) (.tmp 12)) (.vd 6 (o_mov (.tmp 13)) .nil))))))))
  (.seq (.ops (.vd 14 (o_mov (.tmp 0)) (.vd 15 (o_nilCheck (.tmp 14)) (.vd 16 (o_field 2 (.tmp 15)) (.vd 17 (o_load false 1 (.tmp 16)) (.vd 18 (o_mov (.tmp 6)) (.vd 19 (o_bin .quo (.tmp 18) (.const (.int .i64 64))) (.vd 20 (o_index 1 (.tmp 17) (.tmp 19)) (.vd 7 (o_mov (.tmp 20)) .nil)))))))))
  (.dregion [⟨⟨some 25, none, .mov (.tmp 0)⟩, 4, 0, 0⟩, ⟨⟨some 26, none, .call 260 [(.tmp 25)]⟩, 5, 3, 0⟩, ⟨⟨some 21, none, .mov (.tmp 7)⟩, 0, 0, 0⟩, ⟨⟨some 22, none, .mov (.tmp 7)⟩, 1, 0, 0⟩, ⟨⟨some 23, none, .nilCheck (.tmp 22)⟩, 2, 0, 0⟩, ⟨⟨some 24, none, .load false 1 (.tmp 23)⟩, 3, 1, 0⟩, ⟨⟨some 27, none, .conv .u64 (.tmp 26)⟩, 6, 0, 1⟩, ⟨⟨some 28, none, .mov (.tmp 6)⟩, 7, 0, 0⟩, ⟨⟨some 29, none, .bin .rem (.tmp 28) (.const (.int .i64 64))⟩, 8, 0, 0⟩, ⟨⟨some 30, none, .shift .shl (.tmp 27) (.tmp 29)⟩, 9, 0, 1⟩, ⟨⟨some 31, none, .bin .andNot (.tmp 24) (.tmp 30)⟩, 10, 0, 1⟩, ⟨⟨some 32, none, .mov (.tmp 2)⟩, 11, 0, 0⟩, ⟨⟨some 33, none, .conv .u64 (.tmp 32)⟩, 12, 0, 0⟩, ⟨⟨some 34, none, .mov (.tmp 6)⟩, 13, 0, 0⟩, ⟨⟨some 35, none, .bin .rem (.tmp 34) (.const (.int .i64 64))⟩, 14, 0, 0⟩, ⟨⟨some 36, none, .shift .shl (.tmp 33) (.tmp 35)⟩, 15, 0, 0⟩, ⟨⟨some 37, none, .bin .or (.tmp 31) (.tmp 36)⟩, 16, 0, 1⟩, ⟨⟨some 38, none, .nilCheck (.tmp 21)⟩, 17, 0, 1⟩, ⟨⟨none, none, .store 1 (.tmp 38) (.tmp 37)⟩, 18, 3, 1⟩])))
def X224 : FnS := .code ⟨39, 0, .skip, []⟩ S224
theorem x224 : okX Go.Proofs.Tryz.prog 224 X224 := okX_of (by kernel_rfl)
def S232_1 : SCode := .seq (.ops (.vd 45 (o_bin .lss (.tmp 44) (.tmp 43)) .nil))
    (.seq (.cond (.tmp 45)
     .skip
     (.exit 0))
    (.seq (.block 1 (.seq (.ops (.vd 46 (o_mov (.tmp 44)) (.vd 12 (o_mov (.tmp 46)) .nil)))
     (.seq (.ops (.vd 48 (o_mov (.tmp 0)) (.vd 49 (o_mov (.tmp 1)) (.vd 50 (o_mov (.tmp 12)) (.cd 51 (fun F => c_call F 76 [(.tmp 48), (.tmp 49), (.tmp 50)]) (.vd 47 (o_mov (.tmp 51)) (.vd 52 (o_extract (.tmp 47) 0) (.vd 53 (o_extract (.tmp 47) 1) (.vd 13 (o_mov (.tmp 52)) (.vd 14 (o_mov (.tmp 53)) .nil))))))))))
     (.seq (.ops (.vd 54 (o_mov (.tmp 13)) (.vd 55 (o_bin .neq (.tmp 54) (.const (.int .i64 0))) (.vd 56 (o_mov (.tmp 55)) (.vg 57 56 true (o_field 2 (.tmp 7)) (.vg 58 56 true (o_load false 1 (.tmp 57)) (.vg 59 56 true (o_mov (.tmp 12)) (.c (some 60) (some (56, true)) (fun F => c_call F 279 [(.tmp 58), (.tmp 59)]) (.vd 61 (o_pick (.tmp 56) (.tmp 60) (.const (.bool false))) .nil)))))))))
     (.cond (.tmp 61)
      (.seq (.ops (.vd 62 (o_mov (.tmp 0)) (.vd 63 (o_mov (.tmp 1)) (.vd 64 (o_mov (.tmp 12)) (.cd 65 (fun F => c_call F 144 [(.tmp 62), (.tmp 63), (.tmp 64), (.const (.int .i64 0))]) .nil)))))
      (.ops (.vd 66 (o_mov (.tmp 11)) (.vd 67 (o_bin .add (.tmp 66) (.const (.int .i64 1))) (.vd 11 (o_mov (.tmp 67)) .nil)))))
      .skip)))))
    (.ops (.vd 68 (o_bin .add (.tmp 44) (.const (.int .i64 1))) (.vd 44 (o_mov (.tmp 68)) .nil)))))
def S232 : SCode := (.seq (.ops (.vd 6 (o_mov (.const (.int .i64 0))) .nil))
  (.seq (.ops (.vd 16 (o_mov (.tmp 0)) (.vd 17 (o_mov (.tmp 1)) (.cd 18 (fun F => c_call F 75 [(.tmp 16), (.tmp 17)]) (.vd 15 (o_mov (.tmp 18)) (.vd 19 (o_extract (.tmp 15) 0) (.vd 20 (o_extract (.tmp 15) 1) (.vd 7 (o_new [.int .i64 0, .int .i64 0, .int .i64 0]) (.v none none (o_store 3 (.tmp 7) (.tmp 19)) (.vd 8 (o_mov (.tmp 20)) .nil))))))))))
  (.seq (.seq (.ops (.vd 21 (o_field 2 (.tmp 7)) (.vd 22 (o_load false 1 (.tmp 21)) (.vd 23 (o_bin .neq (.tmp 22) (.const (.int .i64 1))) (.vd 24 (o_mov (.tmp 23)) (.vg 25 24 true (o_field 2 (.tmp 7)) (.vg 26 24 true (o_load false 1 (.tmp 25)) (.vg 27 24 true (o_bin .neq (.tmp 26) (.const (.int .i64 2))) (.vd 28 (o_pick (.tmp 24) (.tmp 27) (.const (.bool false))) .nil)))))))))
  (.cond (.tmp 28)
   (.seq (.ops (.vd 6 (o_mov (.const (.int .i64 0))) .nil))
   .ret)
   .skip))
  (.seq (.seq (.ops (.vd 30 (o_mov (.tmp 0)) (.vd 31 (o_mov (.tmp 1)) (.cd 32 (fun F => c_call F 76 [(.tmp 30), (.tmp 31), (.const (.int .i64 0))]) (.vd 29 (o_mov (.tmp 32)) (.vd 33 (o_extract (.tmp 29) 0) (.vd 34 (o_extract (.tmp 29) 1) (.vd 9 (o_mov (.tmp 33)) (.vd 10 (o_mov (.tmp 34)) .nil)))))))))
  (.seq (.ops (.vd 35 (o_mov (.tmp 9)) (.vd 36 (o_bin .neq (.tmp 35) (.const (.int .i64 0))) (.vd 37 (o_mov (.tmp 36)) (.vg 38 37 true (o_mov (.tmp 2)) (.vg 39 37 true (o_mov (.tmp 9)) (.c (some 40) (some (37, true)) (fun F => c_callv F (.tmp 38) [(.tmp 39)]) (.vd 41 (o_pick (.tmp 37) (.tmp 40) (.const (.bool false))) .nil))))))))
  (.cond (.tmp 41)
   (.seq (.ops (.vd 6 (o_mov (.const (.int .i64 0))) .nil))
   .ret)
   .skip)))
  (.seq (.ops (.vd 11 (o_mov (.const (.int .i64 0))) .nil))
  (.seq (.seq (.ops (.vd 42 (o_field 0 (.tmp 7)) (.vd 43 (o_load false 1 (.tmp 42)) (.vd 44 (o_mov (.const (.int .i64 0))) .nil))))
  (.block 0 (.loop S232_1)))
  (.seq (.ops (.vd 69 (o_mov (.tmp 11)) (.vd 6 (o_mov (.tmp 69)) .nil)))
  .ret)))))))
def X232 : FnS := .code ⟨70, 0, .skip, [.tmp 6]⟩ S232
theorem x232 : okX Go.Proofs.Tryz.prog 232 X232 := okX_of (by kernel_rfl)
def S233_1 : SCode := .seq (.ops (.vd 23 (o_bin .lss (.tmp 22) (.tmp 21)) .nil))
    (.seq (.cond (.tmp 23)
     .skip
     (.exit 0))
    (.seq (.block 1 (.seq (.ops (.vd 24 (o_index 1 (.tmp 20) (.tmp 22)) (.vd 25 (o_load false 1 (.tmp 24)) (.vd 6 (o_mov (.tmp 25)) .nil))))
     (.ops (.vd 26 (o_load false 1 (.tmp 3)) (.vd 27 (o_mov (.tmp 6)) (.cd 28 (fun F => c_callv F (.tmp 26) [(.tmp 27)]) .nil))))))
    (.ops (.vd 29 (o_bin .add (.tmp 22) (.const (.int .i64 1))) (.vd 22 (o_mov (.tmp 29)) .nil)))))
def S233 : SCode := (.seq (.seq (.ops (.vd 7 (o_load false 1 (.tmp 1)) (.vd 8 (o_mov (.tmp 0)) (.cd 9 (fun F => c_call F 124 [(.tmp 7), (.tmp 8)]) (.vd 10 (o_not (.tmp 9)) (.vd 11 (o_mov (.tmp 10)) (.vg 12 11 false (o_load false 1 (.tmp 2)) (.vg 13 11 false (o_mov (.tmp 0)) (.vg 14 11 false (o_mapGet false .i64 (.bool false) (.tmp 12) (.tmp 13)) (.vd 15 (o_pick (.tmp 11) (.const (.bool true)) (.tmp 14)) .nil))))))))))
  (.cond (.tmp 15)
   .ret
   .skip))
  (.seq (.ops (.vd 16 (o_load false 1 (.tmp 2)) (.vd 17 (o_mov (.tmp 0)) (.v none none (o_mapSet .i64 (.tmp 16) (.tmp 17) (.const (.bool true))) .nil))))
  (.seq (.ops (.vd 18 (o_load false 1 (.tmp 1)) (.vd 19 (o_mov (.tmp 0)) (.cd 20 (fun F => c_call F 234 [(.tmp 18), (.tmp 19)]) (.vd 21 (o_len (.tmp 20)) (.vd 22 (o_mov (.const (.int .i64 0))) .nil))))))
  (.block 0 (.loop S233_1)))))
def X233 : FnS := .code ⟨30, 0, .skip, []⟩ S233
theorem x233 : okX Go.Proofs.Tryz.prog 233 X233 := okX_of (by kernel_rfl)
end Go.Cs.Tryz

/- The turned functions, part 2. -/
noncomputable section
namespace Go.Cs.Tryz
open Go Go.Cs Go.Cs.K
set_option maxRecDepth 100000
def S234_1 : SCode := .seq (.ops (.vd 21 (o_bin .lss (.tmp 20) (.tmp 19)) .nil))
    (.seq (.cond (.tmp 21)
     .skip
     (.exit 0))
    (.seq (.block 1 (.seq (.ops (.vd 22 (o_mov (.tmp 20)) (.vd 23 (o_index 1 (.tmp 18) (.tmp 20)) (.vd 24 (o_load false 1 (.tmp 23)) (.vd 8 (o_mov (.tmp 22)) (.vd 9 (o_mov (.tmp 24)) .nil))))))
     (.seq (.ops (.vd 25 (o_mov (.tmp 9)) (.vd 26 (o_bin .neq (.tmp 25) (.const (.int .i64 0))) (.vd 27 (o_mov (.tmp 26)) (.vg 28 27 true (o_field 2 (.tmp 5)) (.vg 29 27 true (o_load false 1 (.tmp 28)) (.vg 30 27 true (o_mov (.tmp 8)) (.c (some 31) (some (27, true)) (fun F => c_call F 279 [(.tmp 29), (.tmp 30)]) (.vg 32 27 true (o_not (.tmp 31)) (.vd 33 (o_pick (.tmp 27) (.tmp 32) (.const (.bool false))) .nil))))))))))
     (.cond (.tmp 33)
      (.ops (.vd 34 (o_mov (.tmp 7)) (.vd 35 (o_mov (.tmp 9)) (.vd 36 (o_buildSlice 1 [.int .i64 0] 1 [(0, 1, (.tmp 35))]) (.vd 37 (o_append 1 (.tmp 34) (.tmp 36)) (.vd 7 (o_mov (.tmp 37)) .nil))))))
      .skip))))
    (.ops (.vd 38 (o_bin .add (.tmp 20) (.const (.int .i64 1))) (.vd 20 (o_mov (.tmp 38)) .nil)))))
def S234 : SCode := (.seq (.ops (.vd 4 (o_mov (.const (.nilSlice))) .nil))
  (.seq (.ops (.vd 11 (o_mov (.tmp 0)) (.vd 12 (o_mov (.tmp 1)) (.cd 13 (fun F => c_call F 75 [(.tmp 11), (.tmp 12)]) (.vd 10 (o_mov (.tmp 13)) (.vd 14 (o_extract (.tmp 10) 0) (.vd 15 (o_extract (.tmp 10) 1) (.vd 5 (o_new [.int .i64 0, .int .i64 0, .int .i64 0]) (.v none none (o_store 3 (.tmp 5) (.tmp 14)) (.vd 6 (o_mov (.tmp 15)) .nil))))))))))
  (.seq (.ops (.vd 7 (o_mov (.const (.nilSlice))) .nil))
  (.seq (.seq (.ops (.vd 16 (o_mov (.tmp 0)) (.vd 17 (o_mov (.tmp 1)) (.cd 18 (fun F => c_call F 280 [(.tmp 16), (.tmp 17)]) (.vd 19 (o_len (.tmp 18)) (.vd 20 (o_mov (.const (.int .i64 0))) .nil))))))
  (.block 0 (.loop S234_1)))
  (.seq (.ops (.vd 39 (o_mov (.tmp 7)) (.vd 4 (o_mov (.tmp 39)) .nil)))
  .ret)))))
def X234 : FnS := .code ⟨40, 0, .skip, [.tmp 4]⟩ S234
theorem x234 : okX Go.Proofs.Tryz.prog 234 X234 := okX_of (by kernel_rfl)
def S235 : SCode := (.seq (.ops (.vd 4 (o_mov (.const (.int .i64 0))) .nil))
  (.seq (.ops (.vd 8 (o_mov (.tmp 0)) (.vd 9 (o_mov (.tmp 1)) (.cd 10 (fun F => c_call F 75 [(.tmp 8), (.tmp 9)]) (.vd 7 (o_mov (.tmp 10)) (.vd 11 (o_extract (.tmp 7) 0) (.vd 12 (o_extract (.tmp 7) 1) (.vd 5 (o_new [.int .i64 0, .int .i64 0, .int .i64 0]) (.v none none (o_store 3 (.tmp 5) (.tmp 11)) (.vd 6 (o_mov (.tmp 12)) .nil))))))))))
  (.seq (.ops (.vd 13 (o_field 2 (.tmp 5)) (.vd 14 (o_load false 1 (.tmp 13)) (.vd 4 (o_mov (.tmp 14)) .nil))))
  .ret)))
def X235 : FnS := .code ⟨15, 0, .skip, [.tmp 4]⟩ S235
theorem x235 : okX Go.Proofs.Tryz.prog 235 X235 := okX_of (by kernel_rfl)
def S239 : SCode := (.seq (.ops (.vd 6 (o_mov (.const (.int .i64 0))) .nil))
  (.seq (.block 0 (.seq (.ops (.vd 8 (o_mov (.tmp 0)) (.cd 9 (fun F => c_call F 111 [(.tmp 8)]) (.vd 10 (o_not (.tmp 9)) (.vd 7 (o_mov (.tmp 10)) .nil)))))
   (.cond (.tmp 7)
    (.seq (.ops (.vd 6 (o_mov (.const (.int .i64 5))) .nil))
    .ret)
    (.seq (.ops (.vd 12 (o_mov (.tmp 0)) (.vd 13 (o_mov (.tmp 1)) (.cd 14 (fun F => c_call F 218 [(.tmp 12), (.tmp 13)]) (.vd 15 (o_not (.tmp 14)) (.vd 16 (o_mov (.tmp 15)) (.vg 17 16 false (o_mov (.tmp 2)) (.vg 18 16 false (o_not (.tmp 17)) (.vd 19 (o_pick (.tmp 16) (.const (.bool true)) (.tmp 18)) (.vd 11 (o_mov (.tmp 19)) .nil))))))))))
    (.cond (.tmp 11)
     (.seq (.ops (.vd 6 (o_mov (.const (.int .i64 1))) .nil))
     .ret)
     (.seq (.ops (.vd 21 (o_mov (.tmp 0)) (.vd 22 (o_nilCheck (.tmp 21)) (.vd 23 (o_field 0 (.tmp 22)) (.vd 24 (o_load false 1 (.tmp 23)) (.vd 25 (o_mov (.tmp 1)) (.vd 26 (o_index 2 (.tmp 24) (.tmp 25)) (.vd 27 (o_field 0 (.tmp 26)) (.vd 28 (o_load false 1 (.tmp 27)) (.vd 29 (o_bin .neq (.tmp 28) (.const (.int .i64 1))) (.vd 30 (o_mov (.tmp 29)) (.vg 31 30 true (o_mov (.tmp 0)) (.vg 32 30 true (o_nilCheck (.tmp 31)) (.vg 33 30 true (o_field 0 (.tmp 32)) (.vg 34 30 true (o_load false 1 (.tmp 33)) (.vg 35 30 true (o_mov (.tmp 1)) (.vg 36 30 true (o_index 2 (.tmp 34) (.tmp 35)) (.vg 37 30 true (o_field 0 (.tmp 36)) (.vg 38 30 true (o_load false 1 (.tmp 37)) (.vg 39 30 true (o_bin .neq (.tmp 38) (.const (.int .i64 2))) (.vd 40 (o_pick (.tmp 30) (.tmp 39) (.const (.bool false))) (.vd 20 (o_mov (.tmp 40)) .nil))))))))))))))))))))))
     (.cond (.tmp 20)
      (.seq (.ops (.vd 6 (o_mov (.const (.int .i64 5))) .nil))
      .ret)
      .skip)))))))
  (.seq (.ops (.vd 6 (o_mov (.const (.int .i64 0))) .nil))
  .ret)))
def X239 : FnS := .code ⟨41, 0, .skip, [.tmp 6]⟩ S239
theorem x239 : okX Go.Proofs.Tryz.prog 239 X239 := okX_of (by kernel_rfl)
def S243_1 : SCode := .seq (.ops (.vd 29 (o_bin .lss (.tmp 28) (.tmp 27)) .nil))
       (.seq (.cond (.tmp 29)
        .skip
        (.exit 2))
       (.seq (.block 3 (.seq (.ops (.vd 30 (o_mov (.tmp 28)) (.vd 5 (o_mov (.tmp 30)) .nil)))
        (.seq (.ops (.vd 31 (o_mov (.tmp 3)) (.vd 32 (o_mov (.tmp 5)) (.vd 33 (o_build [.int .i64 0, .int .i64 0, .int .i64 0] [(0, 1, (.tmp 31)), (2, 1, (.tmp 32))]) (.vd 6 (o_new [.int .i64 0, .int .i64 0, .int .i64 0]) (.v none none (o_store 3 (.tmp 6) (.tmp 33)) .nil))))))
        (.seq (.seq (.ops (.vd 34 (o_mov (.tmp 3)) (.vd 35 (o_bin .eql (.tmp 34) (.const (.int .i64 0))) .nil)))
        (.cond (.tmp 35)
         (.ops (.vd 36 (o_mov (.tmp 5)) (.vd 37 (o_bin .quo (.tmp 36) (.const (.int .i64 16))) (.vd 38 (o_mov (.tmp 5)) (.vd 39 (o_bin .rem (.tmp 38) (.const (.int .i64 16))) (.vd 40 (o_field 1 (.tmp 6)) (.v none none (o_store 1 (.tmp 40) (.tmp 37)) (.vd 41 (o_field 2 (.tmp 6)) (.v none none (o_store 1 (.tmp 41) (.tmp 39)) .nil)))))))))
         .skip))
        (.seq (.dregion [⟨⟨some 42, none, .mov (.tmp 4)⟩, 0, 0, 0⟩, ⟨⟨some 43, none, .mov (.tmp 5)⟩, 1, 0, 0⟩, ⟨⟨some 44, none, .index 1 (.tmp 42) (.tmp 43)⟩, 2, 0, 0⟩, ⟨⟨some 45, none, .load false 1 (.tmp 44)⟩, 3, 1, 0⟩, ⟨⟨some 46, none, .bin .neq (.tmp 45) (.const (.int .i64 0))⟩, 4, 0, 0⟩, ⟨⟨some 47, none, .mov (.tmp 46)⟩, 5, 0, 0⟩, ⟨⟨some 48, some (47, true), .mov (.tmp 0)⟩, 6, 0, 0⟩, ⟨⟨some 49, some (47, true), .load true 3 (.tmp 6)⟩, 7, 1, 0⟩, ⟨⟨some 50, some (47, true), .mov (.tmp 4)⟩, 8, 0, 0⟩, ⟨⟨some 51, some (47, true), .mov (.tmp 5)⟩, 9, 0, 0⟩, ⟨⟨some 52, some (47, true), .index 1 (.tmp 50) (.tmp 51)⟩, 10, 0, 0⟩, ⟨⟨some 53, some (47, true), .callv (.tmp 48) [(.tmp 49), (.tmp 52)]⟩, 11, 3, 0⟩, ⟨⟨some 54, some (47, true), .not (.tmp 53)⟩, 12, 0, 1⟩, ⟨⟨some 55, none, .pick (.tmp 47) (.tmp 54) (.const (.bool false))⟩, 13, 0, 1⟩])
        (.cond (.tmp 55)
         .ret
         .skip))))))
       (.ops (.vd 56 (o_bin .add (.tmp 28) (.const (.int .i64 1))) (.vd 28 (o_mov (.tmp 56)) .nil)))))
def S243_2 : SCode := .seq (.ops (.vd 22 (o_bin .lss (.tmp 21) (.tmp 20)) .nil))
    (.seq (.cond (.tmp 22)
     .skip
     (.exit 0))
    (.seq (.block 1 (.seq (.ops (.vd 23 (o_mov (.tmp 21)) (.vd 24 (o_index 1 (.tmp 19) (.tmp 21)) (.vd 25 (o_load false 1 (.tmp 24)) (.vd 3 (o_mov (.tmp 23)) (.vd 4 (o_mov (.tmp 25)) .nil))))))
     (.seq (.ops (.vd 26 (o_mov (.tmp 4)) (.vd 27 (o_len (.tmp 26)) (.vd 28 (o_mov (.const (.int .i64 0))) .nil))))
     (.block 2 (.loop S243_1)))))
    (.ops (.vd 57 (o_bin .add (.tmp 21) (.const (.int .i64 1))) (.vd 21 (o_mov (.tmp 57)) .nil)))))
def S243 : SCode := (.seq (.dregion [⟨⟨some 7, none, .load false 1 (.tmp 1)⟩, 0, 1, 0⟩, ⟨⟨some 8, none, .nilCheck (.tmp 7)⟩, 1, 0, 0⟩, ⟨⟨some 9, none, .field 1 (.tmp 8)⟩, 2, 0, 0⟩, ⟨⟨some 10, none, .load false 1 (.tmp 9)⟩, 3, 1, 0⟩, ⟨⟨some 11, none, .load false 1 (.tmp 1)⟩, 4, 1, 0⟩, ⟨⟨some 12, none, .nilCheck (.tmp 11)⟩, 5, 0, 0⟩, ⟨⟨some 13, none, .field 2 (.tmp 12)⟩, 6, 0, 0⟩, ⟨⟨some 14, none, .load false 1 (.tmp 13)⟩, 7, 1, 0⟩, ⟨⟨some 15, none, .load false 1 (.tmp 1)⟩, 8, 1, 0⟩, ⟨⟨some 16, none, .nilCheck (.tmp 15)⟩, 9, 0, 0⟩, ⟨⟨some 17, none, .field 3 (.tmp 16)⟩, 10, 0, 0⟩, ⟨⟨some 18, none, .load false 1 (.tmp 17)⟩, 11, 1, 0⟩, ⟨⟨some 19, none, .buildSlice 1 [.nilSlice, .nilSlice, .nilSlice] 3 [(0, 1, (.tmp 10)), (1, 1, (.tmp 14)), (2, 1, (.tmp 18))]⟩, 12, 0, 0⟩, ⟨⟨some 20, none, .len (.tmp 19)⟩, 13, 0, 0⟩, ⟨⟨some 21, none, .mov (.const (.int .i64 0))⟩, 14, 0, 0⟩])
  (.block 0 (.loop S243_2)))
def X243 : FnS := .code ⟨58, 0, .skip, []⟩ S243
theorem x243 : okX Go.Proofs.Tryz.prog 243 X243 := okX_of (by kernel_rfl)
def S260 : SCode := (.seq (.ops (.vd 2 (o_mov (.const (.int .i64 0))) .nil))
  (.seq (.ops (.vd 3 (o_mov (.tmp 0)) (.vd 4 (o_nilCheck (.tmp 3)) (.vd 5 (o_field 1 (.tmp 4)) (.vd 6 (o_load false 1 (.tmp 5)) (.vd 7 (o_shift .shl (.const (.int .i64 1)) (.tmp 6)) (.vd 8 (o_bin .sub (.tmp 7) (.const (.int .i64 1))) (.vd 2 (o_mov (.tmp 8)) .nil))))))))
  .ret))
def X260 : FnS := .code ⟨9, 0, .skip, [.tmp 2]⟩ S260
theorem x260 : okX Go.Proofs.Tryz.prog 260 X260 := okX_of (by kernel_rfl)
def S272_1 : SCode := .seq (.ops (.vd 9 (o_bin .lss (.tmp 8) (.tmp 7)) .nil))
    (.seq (.cond (.tmp 9)
     .skip
     (.exit 0))
    (.seq (.block 1 (.seq (.ops (.vd 10 (o_mov (.tmp 8)) (.vd 5 (o_mov (.tmp 10)) .nil)))
     (.seq (.ops (.vd 11 (o_mov (.tmp 1)) (.vd 12 (o_mov (.tmp 0)) (.vd 13 (o_mov (.tmp 5)) (.vd 14 (o_index 2 (.tmp 12) (.tmp 13)) (.vd 15 (o_load true 2 (.tmp 14)) (.cd 16 (fun F => c_callv F (.tmp 11) [(.tmp 15)]) .nil)))))))
     (.cond (.tmp 16)
      (.seq (.ops (.vd 17 (o_mov (.tmp 5)) (.vd 4 (o_mov (.tmp 17)) .nil)))
      .ret)
      .skip))))
    (.ops (.vd 18 (o_bin .add (.tmp 8) (.const (.int .i64 1))) (.vd 8 (o_mov (.tmp 18)) .nil)))))
def S272 : SCode := (.seq (.ops (.vd 4 (o_mov (.const (.int .i64 0))) .nil))
  (.seq (.seq (.ops (.vd 6 (o_mov (.tmp 0)) (.vd 7 (o_len (.tmp 6)) (.vd 8 (o_mov (.const (.int .i64 0))) .nil))))
  (.block 0 (.loop S272_1)))
  (.seq (.ops (.vd 4 (o_mov (.const (.int .i64 (-1)))) .nil))
  .ret)))
def X272 : FnS := .code ⟨19, 0, .skip, [.tmp 4]⟩ S272
theorem x272 : okX Go.Proofs.Tryz.prog 272 X272 := okX_of (by kernel_rfl)
def S273 : SCode := (.seq (.ops (.vd 3 (o_mov (.const (.bool false))) .nil))
  (.seq (.ops (.vd 4 (o_load false 1 (.tmp 1)) (.vd 5 (o_mov (.tmp 0)) (.cd 6 (fun F => c_call F 274 [(.tmp 4), (.tmp 5)]) (.vd 7 (o_not (.tmp 6)) (.vd 3 (o_mov (.tmp 7)) .nil))))))
  .ret))
def X273 : FnS := .code ⟨8, 0, .skip, [.tmp 3]⟩ S273
theorem x273 : okX Go.Proofs.Tryz.prog 273 X273 := okX_of (by kernel_rfl)
def S274 : SCode := (.seq (.ops (.vd 4 (o_mov (.const (.bool false))) .nil))
  (.seq (.ops (.vd 5 (o_mov (.tmp 1)) (.vd 6 (o_bin .geq (.tmp 5) (.const (.int .i64 0))) (.vd 7 (o_mov (.tmp 6)) (.vg 8 7 true (o_mov (.tmp 1)) (.vg 9 7 true (o_mov (.tmp 0)) (.c (some 10) (some (7, true)) (fun F => c_call F 260 [(.tmp 9)]) (.vg 11 7 true (o_bin .leq (.tmp 8) (.tmp 10)) (.vd 12 (o_pick (.tmp 7) (.tmp 11) (.const (.bool false))) (.vd 4 (o_mov (.tmp 12)) .nil))))))))))
  .ret))
def X274 : FnS := .code ⟨13, 0, .skip, [.tmp 4]⟩ S274
theorem x274 : okX Go.Proofs.Tryz.prog 274 X274 := okX_of (by kernel_rfl)
def S280_1 : SCode := .seq (.ops (.vd 23 (o_bin .lss (.tmp 22) (.tmp 21)) .nil))
    (.seq (.cond (.tmp 23)
     .skip
     (.exit 0))
    (.seq (.block 1 (.seq (.ops (.vd 24 (o_mov (.tmp 22)) (.vd 8 (o_mov (.tmp 24)) .nil)))
     (.seq (.ops (.vd 26 (o_mov (.tmp 0)) (.vd 27 (o_mov (.tmp 1)) (.vd 28 (o_mov (.tmp 8)) (.cd 29 (fun F => c_call F 76 [(.tmp 26), (.tmp 27), (.tmp 28)]) (.vd 25 (o_mov (.tmp 29)) (.vd 30 (o_extract (.tmp 25) 0) (.vd 31 (o_extract (.tmp 25) 1) (.vd 9 (o_mov (.tmp 30)) (.vd 10 (o_mov (.tmp 31)) .nil))))))))))
     (.ops (.vd 32 (o_mov (.tmp 7)) (.vd 33 (o_mov (.tmp 9)) (.vd 34 (o_buildSlice 1 [.int .i64 0] 1 [(0, 1, (.tmp 33))]) (.vd 35 (o_append 1 (.tmp 32) (.tmp 34)) (.vd 7 (o_mov (.tmp 35)) .nil)))))))))
    (.ops (.vd 36 (o_bin .add (.tmp 22) (.const (.int .i64 1))) (.vd 22 (o_mov (.tmp 36)) .nil)))))
def S280 : SCode := (.seq (.ops (.vd 4 (o_mov (.const (.nilSlice))) .nil))
  (.seq (.ops (.vd 12 (o_mov (.tmp 0)) (.vd 13 (o_mov (.tmp 1)) (.cd 14 (fun F => c_call F 75 [(.tmp 12), (.tmp 13)]) (.vd 11 (o_mov (.tmp 14)) (.vd 15 (o_extract (.tmp 11) 0) (.vd 16 (o_extract (.tmp 11) 1) (.vd 5 (o_new [.int .i64 0, .int .i64 0, .int .i64 0]) (.v none none (o_store 3 (.tmp 5) (.tmp 15)) (.vd 6 (o_mov (.tmp 16)) .nil))))))))))
  (.seq (.ops (.vd 17 (o_field 0 (.tmp 5)) (.vd 18 (o_load false 1 (.tmp 17)) (.vd 19 (o_makeSlice 1 [.int .i64 0] (.const (.int .i64 0)) (.tmp 18)) (.vd 7 (o_mov (.tmp 19)) .nil)))))
  (.seq (.seq (.ops (.vd 20 (o_field 0 (.tmp 5)) (.vd 21 (o_load false 1 (.tmp 20)) (.vd 22 (o_mov (.const (.int .i64 0))) .nil))))
  (.block 0 (.loop S280_1)))
  (.seq (.ops (.vd 37 (o_mov (.tmp 7)) (.vd 4 (o_mov (.tmp 37)) .nil)))
  .ret)))))
def X280 : FnS := .code ⟨38, 0, .skip, [.tmp 4]⟩ S280
theorem x280 : okX Go.Proofs.Tryz.prog 280 X280 := okX_of (by kernel_rfl)
end Go.Cs.Tryz

/- The table of the turned functions, for the evaluator. -/
noncomputable section
namespace Go.Cs.Tryz
open Go Go.Cs Go.Cs.K
set_option maxRecDepth 100000
def tlo : Tr FnS := (.node none (.node none (.node (some X3) (.node none (.node none (.node none (.node none (.node (some X127) .nil .nil) .nil) (.node none .nil (.node (some X223) .nil .nil))) (.node (some X47) .nil (.node (some X111) .nil (.node (some X239) .nil .nil)))) (.node none (.node (some X39) (.node (some X71) .nil .nil) .nil) (.node (some X55) (.node none (.node (some X151) .nil .nil) .nil) (.node (some X119) .nil .nil)))) (.node (some X11) (.node none (.node none (.node none (.node (some X131) .nil .nil) .nil) .nil) (.node none .nil (.node none .nil (.node (some X243) .nil .nil)))) (.node none (.node none (.node (some X75) .nil (.node (some X203) .nil .nil)) (.node none (.node (some X171) .nil .nil) (.node (some X235) .nil .nil))) (.node none (.node none (.node (some X155) .nil .nil) (.node (some X219) .nil .nil)) (.node (some X123) .nil .nil))))) (.node none (.node (some X9) (.node none (.node none (.node (some X65) (.node (some X129) .nil .nil) .nil) .nil) (.node none (.node none (.node none (.node (some X273) .nil .nil) .nil) .nil) (.node (some X113) .nil .nil))) (.node (some X25) (.node none .nil (.node none .nil (.node (some X233) .nil .nil))) (.node none (.node none (.node (some X153) .nil .nil) (.node (some X217) .nil .nil)) (.node (some X121) .nil .nil)))) (.node (some X13) (.node none (.node (some X37) .nil (.node none (.node (some X165) .nil .nil) .nil)) (.node none (.node none .nil (.node (some X213) .nil .nil)) (.node (some X117) .nil .nil))) (.node none (.node none (.node none (.node (some X141) .nil .nil) .nil) .nil) (.node (some X61) (.node none (.node (some X157) .nil .nil) (.node (some X221) .nil .nil)) (.node (some X125) .nil .nil)))))) (.node none (.node none (.node (some X8) (.node none (.node none (.node none (.node (some X128) .nil .nil) .nil) (.node none .nil (.node (some X224) .nil .nil))) (.node (some X48) (.node none (.node none (.node (some X272) .nil .nil) .nil) .nil) .nil)) (.node (some X24) (.node (some X40) .nil (.node none .nil (.node (some X232) .nil .nil))) (.node none (.node none (.node (some X152) (.node (some X280) .nil .nil) .nil) (.node (some X216) .nil .nil)) (.node (some X120) .nil .nil)))) (.node (some X12) (.node none (.node none (.node none (.node (some X132) (.node (some X260) .nil .nil) .nil) .nil) (.node none (.node (some X164) .nil .nil) .nil)) (.node none (.node none .nil (.node (some X212) .nil .nil)) .nil)) (.node none (.node none (.node (some X76) .nil (.node (some X204) .nil .nil)) .nil) (.node (some X60) (.node none (.node (some X156) .nil .nil) (.node (some X220) .nil .nil)) (.node (some X124) .nil .nil))))) (.node none (.node (some X10) (.node (some X18) (.node none (.node none (.node (some X130) .nil .nil) .nil) .nil) (.node none (.node none (.node none (.node (some X274) .nil .nil) .nil) (.node (some X210) .nil .nil)) .nil)) (.node none (.node (some X42) .nil (.node none .nil (.node (some X234) .nil .nil))) (.node none (.node none (.node (some X154) .nil .nil) (.node (some X218) .nil .nil)) (.node (some X122) .nil .nil)))) (.node (some X14) (.node none (.node (some X38) (.node (some X70) .nil .nil) (.node none (.node (some X166) .nil .nil) .nil)) (.node none (.node (some X86) .nil .nil) (.node (some X118) .nil .nil))) (.node none (.node (some X46) (.node none (.node (some X142) .nil .nil) .nil) (.node none (.node (some X174) .nil .nil) .nil)) (.node (some X62) .nil .nil))))))
def thi : Tr FnS := .nil
theorem glo : AllTr (fun p s => okX Go.Proofs.Tryz.prog (dec p) s) tlo := ⟨trivial, ⟨trivial, ⟨x3, ⟨trivial, ⟨trivial, ⟨trivial, ⟨trivial, ⟨x127, trivial, trivial⟩, trivial⟩, ⟨trivial, trivial, ⟨x223, trivial, trivial⟩⟩⟩, ⟨x47, trivial, ⟨x111, trivial, ⟨x239, trivial, trivial⟩⟩⟩⟩, ⟨trivial, ⟨x39, ⟨x71, trivial, trivial⟩, trivial⟩, ⟨x55, ⟨trivial, ⟨x151, trivial, trivial⟩, trivial⟩, ⟨x119, trivial, trivial⟩⟩⟩⟩, ⟨x11, ⟨trivial, ⟨trivial, ⟨trivial, ⟨x131, trivial, trivial⟩, trivial⟩, trivial⟩, ⟨trivial, trivial, ⟨trivial, trivial, ⟨x243, trivial, trivial⟩⟩⟩⟩, ⟨trivial, ⟨trivial, ⟨x75, trivial, ⟨x203, trivial, trivial⟩⟩, ⟨trivial, ⟨x171, trivial, trivial⟩, ⟨x235, trivial, trivial⟩⟩⟩, ⟨trivial, ⟨trivial, ⟨x155, trivial, trivial⟩, ⟨x219, trivial, trivial⟩⟩, ⟨x123, trivial, trivial⟩⟩⟩⟩⟩, ⟨trivial, ⟨x9, ⟨trivial, ⟨trivial, ⟨x65, ⟨x129, trivial, trivial⟩, trivial⟩, trivial⟩, ⟨trivial, ⟨trivial, ⟨trivial, ⟨x273, trivial, trivial⟩, trivial⟩, trivial⟩, ⟨x113, trivial, trivial⟩⟩⟩, ⟨x25, ⟨trivial, trivial, ⟨trivial, trivial, ⟨x233, trivial, trivial⟩⟩⟩, ⟨trivial, ⟨trivial, ⟨x153, trivial, trivial⟩, ⟨x217, trivial, trivial⟩⟩, ⟨x121, trivial, trivial⟩⟩⟩⟩, ⟨x13, ⟨trivial, ⟨x37, trivial, ⟨trivial, ⟨x165, trivial, trivial⟩, trivial⟩⟩, ⟨trivial, ⟨trivial, trivial, ⟨x213, trivial, trivial⟩⟩, ⟨x117, trivial, trivial⟩⟩⟩, ⟨trivial, ⟨trivial, ⟨trivial, ⟨x141, trivial, trivial⟩, trivial⟩, trivial⟩, ⟨x61, ⟨trivial, ⟨x157, trivial, trivial⟩, ⟨x221, trivial, trivial⟩⟩, ⟨x125, trivial, trivial⟩⟩⟩⟩⟩⟩, ⟨trivial, ⟨trivial, ⟨x8, ⟨trivial, ⟨trivial, ⟨trivial, ⟨x128, trivial, trivial⟩, trivial⟩, ⟨trivial, trivial, ⟨x224, trivial, trivial⟩⟩⟩, ⟨x48, ⟨trivial, ⟨trivial, ⟨x272, trivial, trivial⟩, trivial⟩, trivial⟩, trivial⟩⟩, ⟨x24, ⟨x40, trivial, ⟨trivial, trivial, ⟨x232, trivial, trivial⟩⟩⟩, ⟨trivial, ⟨trivial, ⟨x152, ⟨x280, trivial, trivial⟩, trivial⟩, ⟨x216, trivial, trivial⟩⟩, ⟨x120, trivial, trivial⟩⟩⟩⟩, ⟨x12, ⟨trivial, ⟨trivial, ⟨trivial, ⟨x132, ⟨x260, trivial, trivial⟩, trivial⟩, trivial⟩, ⟨trivial, ⟨x164, trivial, trivial⟩, trivial⟩⟩, ⟨trivial, ⟨trivial, trivial, ⟨x212, trivial, trivial⟩⟩, trivial⟩⟩, ⟨trivial, ⟨trivial, ⟨x76, trivial, ⟨x204, trivial, trivial⟩⟩, trivial⟩, ⟨x60, ⟨trivial, ⟨x156, trivial, trivial⟩, ⟨x220, trivial, trivial⟩⟩, ⟨x124, trivial, trivial⟩⟩⟩⟩⟩, ⟨trivial, ⟨x10, ⟨x18, ⟨trivial, ⟨trivial, ⟨x130, trivial, trivial⟩, trivial⟩, trivial⟩, ⟨trivial, ⟨trivial, ⟨trivial, ⟨x274, trivial, trivial⟩, trivial⟩, ⟨x210, trivial, trivial⟩⟩, trivial⟩⟩, ⟨trivial, ⟨x42, trivial, ⟨trivial, trivial, ⟨x234, trivial, trivial⟩⟩⟩, ⟨trivial, ⟨trivial, ⟨x154, trivial, trivial⟩, ⟨x218, trivial, trivial⟩⟩, ⟨x122, trivial, trivial⟩⟩⟩⟩, ⟨x14, ⟨trivial, ⟨x38, ⟨x70, trivial, trivial⟩, ⟨trivial, ⟨x166, trivial, trivial⟩, trivial⟩⟩, ⟨trivial, ⟨x86, trivial, trivial⟩, ⟨x118, trivial, trivial⟩⟩⟩, ⟨trivial, ⟨x46, ⟨trivial, ⟨x142, trivial, trivial⟩, trivial⟩, ⟨trivial, ⟨x174, trivial, trivial⟩, trivial⟩⟩, ⟨x62, trivial, trivial⟩⟩⟩⟩⟩⟩
theorem ghi : AllTr (fun p s => okX Go.Proofs.Tryz.prog (1000000 + dec p) s) thi := trivial
def tab : TabS := fun f => cond (Nat.ble 1000000 f) (thi.get (Nat.sub f 1000000)) (tlo.get f)
theorem tabX {f : Nat} {s : FnS} (h : (if 1000000 ≤ f then thi.get (Nat.sub f 1000000) else tlo.get f) = some s) : okX Go.Proofs.Tryz.prog f s := by
  split at h
  · rename_i hf
    have := AllTr.get (Q := fun n s => okX Go.Proofs.Tryz.prog (1000000 + n) s) ghi h
    rwa [show 1000000 + Nat.sub f 1000000 = f from Nat.add_sub_cancel' hf] at this
  · exact AllTr.get (Q := fun n s => okX Go.Proofs.Tryz.prog n s) glo h
theorem tabOk : TabSOk tab (cprog Go.Proofs.Tryz.prog) where
  code f cf b h := by
    unfold tab at h
    simp only [cond_beq, cond_ble] at h
    exact tabX h
  known f g h := by
    unfold tab at h
    simp only [cond_beq, cond_ble] at h
    exact (tabX h).elim
end Go.Cs.Tryz

/- All rules of a walk in few bundles. -/
namespace Go.Cs
def csL := And.intro @Nat.zero_add <| And.intro @Nat.add_zero <| And.intro @Nat.mul_one <| And.intro @Option.map_some.{0,0} <| And.intro @Option.bind_some.{0,0} <| And.intro @Option.map_none.{0,0} <| And.intro @Option.bind_none.{0,0} <| And.intro @List.map_cons.{0,0} <| And.intro @List.map_nil.{0,0} <| And.intro @List.getElem?_cons_zero.{0} <| And.intro @List.getElem?_cons_succ.{0} <| And.intro @List.cons_append.{0} <| And.intro @List.nil_append.{0} <| And.intro @List.append_nil.{0} <| And.intro @Bool.not_true <| And.intro @Bool.not_false <| And.intro @Bool.false_eq_true <| And.intro @decide_true <| And.intro @decide_false <| And.intro @List.length_append.{0} <| And.intro @List.length_cons.{0} <| And.intro @List.length_nil.{0} <| And.intro @List.length_set.{0} <| And.intro @List.drop_zero.{0} <| And.intro @List.drop_succ_cons.{0} <| And.intro @List.take_succ_cons.{0} <| And.intro @List.take_zero.{0} <| And.intro @Int.toNat_natCast <| And.intro @List.set_cons_zero.{0} <| And.intro @List.set_cons_succ.{0} <| And.intro @List.drop_nil.{0} @List.take_nil.{0}
def csAll := And.intro csA <| And.intro csB <| And.intro csV <| And.intro csD1 <| And.intro csD2 <| And.intro csW1 <| And.intro csW2 csL
def csN := And.intro @eq_self.{1} <| And.intro @true_and <| And.intro @and_true <| And.intro @and_self <| And.intro @Nat.le_refl <| And.intro @List.length_append.{0} <| And.intro @List.length_cons.{0} <| And.intro @List.length_nil.{0} <| And.intro @List.length_set.{0} <| And.intro @List.length_map.{0,0} <| And.intro @List.length_replicate.{0} <| And.intro @Nat.zero_add <| And.intro @Nat.add_zero <| And.intro @Nat.mul_one <| And.intro @cellsOf_agg <| And.intro @cellsOf_int <| And.intro @cellsOf_bool <| And.intro @cellsOf_ptr <| And.intro @cellsOf_slice <| And.intro @cellsOf_ns <| And.intro @List.length_take.{0} @List.length_drop.{0}
def csF := And.intro @leaf_int <| And.intro @leaf_slice <| And.intro @leaf_bool <| And.intro @leaf_ptr <| And.intro @leaf_ns <| And.intro @leaf_np <| And.intro @leaf_func <| And.intro @leaf_nf <| And.intro @Bool.and_true <| And.intro @Bool.true_and <| And.intro @List.all_cons.{0} <| And.intro @List.all_nil.{0} @List.all_append.{0}
end Go.Cs

/- Rules of a walk: shifts, conversions, greatest and least, bits. -/
namespace Go.Cs
open Go

section
variable {F : CallF} {E : Env} {H : CHeap}
end
end Go.Cs

/- PinNone's run: true for every list of words, space and number. The kernel evaluates it, in parts. -/
noncomputable section
namespace Go.Cs.Tryz
open Go Go.Cs Go.Cs.K
set_option maxRecDepth 1000000
abbrev P : CProg := cprog Go.Proofs.Tryz.prog
def bod (f : Nat) : CFunc := match cprog Go.Proofs.Tryz.prog f with | some cf => cf | none => default
theorem h3 : P 3 = some (bod 3) := by kernel_rfl
theorem s3 : ((bod 3).n, (bod 3).round, (bod 3).res) = (152, 0, [.tmp 6]) := by kernel_rfl
noncomputable def p1E (W : CV) (z n : Int) : Tr CV := (.node (some (W)) (.node (some (.int .i64 z)) (.node none (.node (some (jP 5 0)) (.node none (.node (some (jI 0)) .nil .nil) .nil) .nil) (.node none (.node none (.node (some (jI 0)) .nil .nil) .nil) (.node (some (jI 0)) .nil .nil))) (.node none (.node (some (jP 14 0)) (.node none (.node (some (.bool false)) .nil .nil) .nil) (.node (some (.tup [jP 5 0, jI 0])) .nil .nil)) (.node none (.node none (.node (some (.bool false)) .nil .nil) .nil) (.node (some (.tup [jP 14 0, jI 0])) .nil .nil)))) (.node (some (.int .u8 n)) (.node none (.node (some (jI 0)) (.node none (.node (some (jI 0)) .nil .nil) .nil) (.node (some (.tup [jP 5 0, jI 0])) .nil .nil)) (.node none (.node none (.node (some (.bool false)) .nil .nil) .nil) (.node (some (.tup [jP 14 0, jI 0])) .nil .nil))) (.node (some (.bool false)) (.node (some (jI 0)) (.node none (.node (some (.bool false)) .nil .nil) .nil) (.node (some (jP 5 0)) .nil .nil)) (.node none .nil (.node (some (jP 14 0)) .nil .nil)))))
noncomputable def p1H (x : KB) : KH := jH 15 [x, jR 8 2 [jI 0, jI 0, jI 0, jI 0, jI 0, jI 0, jI 0, jI 0], jR 256 1 [jI 0, jI 0, jI 0, jI 0, jI 0, jI 0, jI 0, jI 0, jI 0, jI 0, jI 0, jI 0, jI 0, jI 0, jI 0, jI 0, jI 0, jI 0, jI 0, jI 0, jI 0, jI 0, jI 0, jI 0, jI 0, jI 0, jI 0, jI 0, jI 0, jI 0, jI 0, jI 0, jI 0, jI 0, jI 0, jI 0, jI 0, jI 0, jI 0, jI 0, jI 0, jI 0, jI 0, jI 0, jI 0, jI 0, jI 0, jI 0, jI 0, jI 0, jI 0, jI 0, jI 0, jI 0, jI 0, jI 0, jI 0, jI 0, jI 0, jI 0, jI 0, jI 0, jI 0, jI 0, jI 0, jI 0, jI 0, jI 0, jI 0, jI 0, jI 0, jI 0, jI 0, jI 0, jI 0, jI 0, jI 0, jI 0, jI 0, jI 0, jI 0, jI 0, jI 0, jI 0, jI 0, jI 0, jI 0, jI 0, jI 0, jI 0, jI 0, jI 0, jI 0, jI 0, jI 0, jI 0, jI 0, jI 0, jI 0, jI 0, jI 0, jI 0, jI 0, jI 0, jI 0, jI 0, jI 0, jI 0, jI 0, jI 0, jI 0, jI 0, jI 0, jI 0, jI 0, jI 0, jI 0, jI 0, jI 0, jI 0, jI 0, jI 0, jI 0, jI 0, jI 0, jI 0, jI 0, jI 0, jI 0, jI 0, jI 0, jI 0, jI 0, jI 0, jI 0, jI 0, jI 0, jI 0, jI 0, jI 0, jI 0, jI 0, jI 0, jI 0, jI 0, jI 0, jI 0, jI 0, jI 0, jI 0, jI 0, jI 0, jI 0, jI 0, jI 0, jI 0, jI 0, jI 0, jI 0, jI 0, jI 0, jI 0, jI 0, jI 0, jI 0, jI 0, jI 0, jI 0, jI 0, jI 0, jI 0, jI 0, jI 0, jI 0, jI 0, jI 0, jI 0, jI 0, jI 0, jI 0, jI 0, jI 0, jI 0, jI 0, jI 0, jI 0, jI 0, jI 0, jI 0, jI 0, jI 0, jI 0, jI 0, jI 0, jI 0, jI 0, jI 0, jI 0, jI 0, jI 0, jI 0, jI 0, jI 0, jI 0, jI 0, jI 0, jI 0, jI 0, jI 0, jI 0, jI 0, jI 0, jI 0, jI 0, jI 0, jI 0, jI 0, jI 0, jI 0, jI 0, jI 0, jI 0, jI 0, jI 0, jI 0, jI 0, jI 0, jI 0, jI 0, jI 0, jI 0, jI 0, jI 0, jI 0, jI 0, jI 0, jI 0, jI 0, jI 0, jI 0, jI 0, jI 0, jI 0, jI 0, jI 0, jI 0, jI 0, jI 0, jI 0, jI 0, jI 0, jI 0, jI 0, jI 0, jI 0, jI 0], .obj [] 0, .obj [] 0, jR 7 0 [jS 1 0 4 4 2, jS 2 0 256 256 1, jP 8 0, jP 11 0, jM 3, jM 4, jI 0], jR 4 1 [jI 1, jI 2, jI 4, jI 8], jR 2 1 [jU 0, jU 0], jR 3 0 [jI 128, jI 1, jS 7 0 2 2 1], jR 4 1 [jI 1, jI 2, jI 4, jI 8], jR 2 1 [jU 0, jU 0], jR 3 0 [jI 128, jI 1, jS 10 0 2 2 1], jR 16 1 [jI 0, jI 0, jI 0, jI 0, jI 0, jI 0, jI 0, jI 0, jI 0, jI 0, jI 0, jI 0, jI 0, jI 0, jI 0, jI 0], jR 16 1 [jI 0, jI 0, jI 0, jI 0, jI 0, jI 0, jI 0, jI 0, jI 0, jI 0, jI 0, jI 0, jI 0, jI 0, jI 0, jI 0], jR 4 0 [jI 1, jS 12 0 16 16 1, jS 13 0 16 16 1, .nilSlice]]
noncomputable def q1E (W : CV) (z n : Int) (a b c d e W' : CV) : Tr CV := (((((p1E W z n).set 38 a).set 39 b).set 40 c).set 41 d |>.set 42 e).set 0 W'
noncomputable def p2E (z n : Int) (a b c d e W' : CV) : Tr CV := (.node (some (W')) (.node (some (.int .i64 z)) (.node none (.node (some (jP 5 0)) (.node (some (.nilSlice)) (.node (some (jI 0)) (.node (some (.tup [.nilSlice, jI 1])) .nil .nil) (.node (some (.agg [jI 0, .nilSlice, .nilSlice, .nilSlice])) .nil .nil)) (.node (some (jI 2)) (.node (some (jI 0)) .nil .nil) .nil)) (.node none (.node (some (b)) (.node (some (.tup [jI 0, jI 1])) .nil .nil) (.node (some (jP 5 0)) .nil .nil)) (.node (some (.bool true)) (.node (some (jI 1)) .nil .nil) .nil))) (.node none (.node none (.node (some (jI 0)) (.node (some (jI 1)) .nil .nil) (.node (some (jI 2)) .nil .nil)) (.node (some (jP 15 0)) (.node (some (jI 1)) .nil .nil) .nil)) (.node (some (jI 0)) (.node (some (.agg [.nilSlice, .nilSlice, .nilPtr, .nilPtr, .nilMap, .nilMap, jI 0])) (.node (some (jI 0)) .nil .nil) (.node (some (.bool true)) .nil .nil)) (.node (some (W')) (.node (some (jI 1)) .nil .nil) .nil)))) (.node none (.node (some (jP 14 0)) (.node (some (jI 0)) (.node (some (.bool false)) (.node (some (.tup [.nilSlice, jI 1])) .nil .nil) (.node (some (jS 28 0 2 2 1)) .nil .nil)) (.node (some (jP 16 1)) (.node (some (.bool false)) .nil .nil) .nil)) (.node (some (.tup [jP 5 0, jI 0])) (.node (some (d)) (.node (some (jI 1)) .nil .nil) (.node (some (W')) .nil .nil)) (.node (some (.tup [.nilSlice, jI 1])) (.node (some (.bool false)) .nil .nil) .nil))) (.node (some (.nilSlice)) (.node none (.node (some (.bool false)) (.node (some (jP 15 0)) .nil .nil) (.node (some (jP 28 1)) .nil .nil)) (.node (some (W')) (.node (some (.bool false)) .nil .nil) .nil)) (.node (some (.tup [jP 14 0, jI 0])) (.node (some (jS 16 0 2 2 1)) (.node (some (jI 0)) .nil .nil) (.node (some (jI 2)) .nil .nil)) (.node (some (.nilSlice)) (.node (some (.bool false)) .nil .nil) .nil))))) (.node (some (.int .u8 n)) (.node none (.node (some (jI 0)) (.node (some (jI 1)) (.node (some (jI 0)) (.node (some (jP 15 0)) .nil .nil) (.node (some (jP 27 0)) .nil .nil)) (.node (some (.bool false)) (.node (some (jI 0)) .nil .nil) .nil)) (.node (some (.tup [jP 5 0, jI 0])) (.node (some (c)) (.node (some (jI 0)) .nil .nil) (.node (some (jP 27 0)) .nil .nil)) (.node (some (.bool false)) (.node (some (.bool false)) .nil .nil) .nil))) (.node (some (jP 15 0)) (.node (some (jP 27 0)) (.node (some (.bool false)) (.node (some (.tup [jI 0, jI 1])) .nil .nil) (.node (some (.bool false)) .nil .nil)) (.node (some (jP 14 0)) (.node (some (.bool false)) .nil .nil) .nil)) (.node (some (.tup [jP 14 0, jI 0])) (.node (some (jP 15 0)) (.node (some (.nilSlice)) .nil .nil) (.node (some (.bool false)) .nil .nil)) (.node (some (.tup [.nilSlice, jI 1])) (.node (some (.bool false)) .nil .nil) .nil)))) (.node (some (.bool false)) (.node (some (jI 0)) (.node (some (jI 1)) (.node (some (.bool false)) (.node (some (.nilSlice)) .nil .nil) (.node (some (jI 2)) .nil .nil)) (.node (some (jP 15 0)) (.node (some (.bool false)) .nil .nil) .nil)) (.node (some (jP 5 0)) (.node (some (e)) (.node (some (.nilSlice)) .nil .nil) (.node (some (.int .i64 z)) .nil .nil)) (.node (some (jP 15 0)) (.node (some (.bool false)) .nil .nil) .nil))) (.node (some (jI 1)) (.node none (.node (some (a)) (.node (some (W')) .nil .nil) (.node (some (jP 27 0)) .nil .nil)) (.node (some (.int .i64 z)) (.node (some (.bool false)) .nil .nil) .nil)) (.node (some (jP 14 0)) (.node (some (jI 2)) (.node (some (jI 0)) .nil .nil) .nil) (.node (some (jI 1)) (.node (some (jI 2)) .nil .nil) .nil))))))
noncomputable def p2H (x : KB) : KH := jH 37 [x, jR 8 2 [jI 0, jI 0, jI 0, jI 0, jI 0, jI 0, jI 0, jI 0], jR 256 1 [jI 0, jI 0, jI 0, jI 0, jI 0, jI 0, jI 0, jI 0, jI 0, jI 0, jI 0, jI 0, jI 0, jI 0, jI 0, jI 0, jI 0, jI 0, jI 0, jI 0, jI 0, jI 0, jI 0, jI 0, jI 0, jI 0, jI 0, jI 0, jI 0, jI 0, jI 0, jI 0, jI 0, jI 0, jI 0, jI 0, jI 0, jI 0, jI 0, jI 0, jI 0, jI 0, jI 0, jI 0, jI 0, jI 0, jI 0, jI 0, jI 0, jI 0, jI 0, jI 0, jI 0, jI 0, jI 0, jI 0, jI 0, jI 0, jI 0, jI 0, jI 0, jI 0, jI 0, jI 0, jI 0, jI 0, jI 0, jI 0, jI 0, jI 0, jI 0, jI 0, jI 0, jI 0, jI 0, jI 0, jI 0, jI 0, jI 0, jI 0, jI 0, jI 0, jI 0, jI 0, jI 0, jI 0, jI 0, jI 0, jI 0, jI 0, jI 0, jI 0, jI 0, jI 0, jI 0, jI 0, jI 0, jI 0, jI 0, jI 0, jI 0, jI 0, jI 0, jI 0, jI 0, jI 0, jI 0, jI 0, jI 0, jI 0, jI 0, jI 0, jI 0, jI 0, jI 0, jI 0, jI 0, jI 0, jI 0, jI 0, jI 0, jI 0, jI 0, jI 0, jI 0, jI 0, jI 0, jI 0, jI 0, jI 0, jI 0, jI 0, jI 0, jI 0, jI 0, jI 0, jI 0, jI 0, jI 0, jI 0, jI 0, jI 0, jI 0, jI 0, jI 0, jI 0, jI 0, jI 0, jI 0, jI 0, jI 0, jI 0, jI 0, jI 0, jI 0, jI 0, jI 0, jI 0, jI 0, jI 0, jI 0, jI 0, jI 0, jI 0, jI 0, jI 0, jI 0, jI 0, jI 0, jI 0, jI 0, jI 0, jI 0, jI 0, jI 0, jI 0, jI 0, jI 0, jI 0, jI 0, jI 0, jI 0, jI 0, jI 0, jI 0, jI 0, jI 0, jI 0, jI 0, jI 0, jI 0, jI 0, jI 0, jI 0, jI 0, jI 0, jI 0, jI 0, jI 0, jI 0, jI 0, jI 0, jI 0, jI 0, jI 0, jI 0, jI 0, jI 0, jI 0, jI 0, jI 0, jI 0, jI 0, jI 0, jI 0, jI 0, jI 0, jI 0, jI 0, jI 0, jI 0, jI 0, jI 0, jI 0, jI 0, jI 0, jI 0, jI 0, jI 0, jI 0, jI 0, jI 0, jI 0, jI 0, jI 0, jI 0, jI 0, jI 0, jI 0, jI 0, jI 0, jI 0, jI 0, jI 0, jI 0, jI 0, jI 0, jI 0, jI 0, jI 0, jI 0, jI 0, jI 0, jI 0, jI 0, jI 0], .obj [] 0, .obj [] 0, jR 7 0 [jS 1 0 4 4 2, jS 2 0 256 256 1, jP 8 0, jP 11 0, jM 3, jM 4, jI 0], jR 4 1 [jI 1, jI 2, jI 4, jI 8], jR 2 1 [jU 0, jU 0], jR 3 0 [jI 128, jI 1, jS 7 0 2 2 1], jR 4 1 [jI 1, jI 2, jI 4, jI 8], jR 2 1 [jU 0, jU 0], jR 3 0 [jI 128, jI 1, jS 10 0 2 2 1], jR 16 1 [jI 0, jI 0, jI 0, jI 0, jI 0, jI 0, jI 0, jI 0, jI 0, jI 0, jI 0, jI 0, jI 0, jI 0, jI 0, jI 0], jR 16 1 [jI 0, jI 0, jI 0, jI 0, jI 0, jI 0, jI 0, jI 0, jI 0, jI 0, jI 0, jI 0, jI 0, jI 0, jI 0, jI 0], jR 4 0 [jI 1, jS 12 0 16 16 1, jS 13 0 16 16 1, .nilSlice], jR 7 0 [.nilSlice, .nilSlice, .nilPtr, .nilPtr, .nilMap, .nilMap, jI 0], jR 2 1 [.nilPtr, jP 15 0], jR 8 0 [jI 0, jI 0, jI 0, jI 0, jI 0, jI 0, jI 0, jI 0], jR 8 0 [jI 0, jI 0, jI 0, jI 0, jI 0, jI 0, jI 0, jI 0], jR 8 0 [jI 0, jI 0, jI 0, jI 0, jI 0, jI 0, jI 0, jI 0], jR 8 0 [jI 0, jI 0, jI 0, jI 0, jI 0, jI 0, jI 0, jI 0], jR 1 0 [.nilPtr], jR 8 0 [jI 0, jI 0, jI 0, jI 0, jI 0, jI 0, jI 0, jI 0], jR 8 0 [jI 0, jI 0, jI 0, jI 0, jI 0, jI 0, jI 0, jI 0], jR 8 0 [jI 0, jI 0, jI 0, jI 0, jI 0, jI 0, jI 0, jI 0], jR 8 0 [jI 0, jI 0, jI 0, jI 0, jI 0, jI 0, jI 0, jI 0], jR 1 0 [jP 15 0], jR 4 0 [jI 0, .nilSlice, .nilSlice, .nilSlice], jR 2 1 [.nilPtr, jP 27 0], jR 8 0 [jI 0, jI 0, jI 0, jI 0, jI 0, jI 0, jI 0, jI 0], jR 8 0 [jI 0, jI 0, jI 0, jI 0, jI 0, jI 0, jI 0, jI 0], jR 8 0 [jI 0, jI 0, jI 0, jI 0, jI 0, jI 0, jI 0, jI 0], jR 8 0 [jI 0, jI 0, jI 0, jI 0, jI 0, jI 0, jI 0, jI 0], jR 8 0 [jI 0, jI 0, jI 0, jI 0, jI 0, jI 0, jI 0, jI 0], jR 8 0 [jI 0, jI 0, jI 0, jI 0, jI 0, jI 0, jI 0, jI 0], jR 8 0 [jI 0, jI 0, jI 0, jI 0, jI 0, jI 0, jI 0, jI 0], jR 8 0 [jI 0, jI 0, jI 0, jI 0, jI 0, jI 0, jI 0, jI 0]]
noncomputable def q2E (z n : Int) (a b c d e W' f g h k : CV) : Tr CV := ((((p2E z n a b c d e W').set 110 f).set 111 g).set 112 h).set 113 k
theorem hA (x : KB) (W : CV) (z n : Int) : evS tab 5000 (toS (takeC 4 (bod 3).body)) (putAll .nil 0 [W, .int .i64 z, .int .u8 n]) ⟨.node (some x) .nil .nil, 1⟩ = some (.normal, p1E W z n, p1H x) := by kernel_rfl
theorem hB (x : KB) (W : CV) (z n : Int) (a b c d e W' : CV) : evS tab 5000 (toS (takeC 2 (dropC 5 (bod 3).body))) (q1E W z n a b c d e W') (p1H x) = some (.normal, p2E z n a b c d e W', p2H x) := by kernel_rfl
def s4 : CCode := .seq (.region [⟨some 38, none, .mov (.tmp 0)⟩, ⟨some 39, none, .len (.tmp 38)⟩, ⟨some 40, none, .bin .gtr (.tmp 39) (.const (.int .i64 100))⟩])
  (.cond (.tmp 40)
   (.region [⟨some 41, none, .mov (.tmp 0)⟩, ⟨some 42, none, .slice 1 (.tmp 41) none (some (.const (.int .i64 100))) none⟩, ⟨some 0, none, .mov (.tmp 42)⟩])
   .skip)
theorem d4 : dropC 4 (bod 3).body = .seq s4 (dropC 5 (bod 3).body) := by kernel_rfl
def r7a : List CStmt := [⟨some 110, none, .mov (.tmp 2)⟩, ⟨some 111, none, .conv .i64 (.tmp 110)⟩, ⟨some 112, none, .bin .rem (.tmp 111) (.const (.int .i64 3))⟩, ⟨some 113, none, .bin .add (.const (.int .i64 201)) (.tmp 112)⟩]
def r7b : List CStmt := [⟨some 114, none, .makeSlice 1 [.int .i64 0] (.tmp 113) (.tmp 113)⟩, ⟨some 21, none, .mov (.tmp 114)⟩]
theorem d7 : dropC 7 (bod 3).body = .seq (.region (r7a ++ r7b)) (dropC 8 (bod 3).body) := by kernel_rfl
theorem d57 : dropC 2 (dropC 5 (bod 3).body) = dropC 7 (bod 3).body := by kernel_rfl
def isR (t : Nat) (r : Option R0) : Bool := match r with
  | some (.ret, E, _) => (match E.get t with | some (.bool true) => true | _ => false)
  | _ => false
theorem isR_some {t : Nat} {r : Option R0} (h : isR t r = true) : ∃ E H, r = some (.ret, E, H) ∧ envOf E t = .bool true := by
  unfold isR at h
  split at h
  · rename_i E H
    split at h
    · rename_i e
      exact ⟨E, H, rfl, by unfold envOf; rw [e]; rfl⟩
    · cases h
  · cases h
theorem hC201 (x : KB) (z n : Int) (a b c d e W' f g h : CV) : isR 6 (evS tab 5000 (toS (.seq (.region r7b) (dropC 8 (bod 3).body))) (q2E z n a b c d e W' f g h (.int .i64 201)) (p2H x)) = true := by kernel_rfl
theorem hC202 (x : KB) (z n : Int) (a b c d e W' f g h : CV) : isR 6 (evS tab 5000 (toS (.seq (.region r7b) (dropC 8 (bod 3).body))) (q2E z n a b c d e W' f g h (.int .i64 202)) (p2H x)) = true := by kernel_rfl
theorem hC203 (x : KB) (z n : Int) (a b c d e W' f g h : CV) : isR 6 (evS tab 5000 (toS (.seq (.region r7b) (dropC 8 (bod 3).body))) (q2E z n a b c d e W' f g h (.int .i64 203)) (p2H x)) = true := by kernel_rfl
end Go.Cs.Tryz

/- PinNone's run, joined. -/
noncomputable section
namespace Go.Cs.Tryz
open Go Go.Cs Go.Cs.K
set_option maxRecDepth 100000
theorem evOps_app (F : CallF) : ∀ (l m : List CStmt) (E : Env) (H : CHeap), evOps F (l ++ m) E H = (evOps F l E H).bind fun q => evOps F m q.1 q.2
  | [], m, E, H => rfl
  | s :: l, m, E, H => by
    simp only [List.cons_append, evOps]
    cases evStmt F s E H with
    | none => rfl
    | some q => simp only [Option.bind_some]; exact evOps_app F l m q.1 q.2
theorem den_split {p : CProg} {l m : List CStmt} {c : CCode} {E : Env} {H : CHeap} {E1 : Env} {H1 : CHeap} (h : evOps (run p) l E H = some (E1, H1)) : den p (.seq (.region (l ++ m)) c) E H = den p (.seq (.region m) c) E1 H1 := by
  rw [den_eq, den_eq]
  dsimp only
  rw [den_eq, den_eq]
  dsimp only
  rw [evOps_app, h]
  rfl
/-- The words, cut. -/
theorem h4 (W : CV) (hW : (∃ l : Nat, l ≤ 100 ∧ ∀ H, vLen W H = some (.i l, H)) ∨ ∃ o len cap t, W = .slice 0 o len cap 1 t ∧ len ≤ cap) (z n : Int) (H : CHeap) : ∃ a b c d e W', den P s4 (envOf (p1E W z n)) H = some (.normal, envOf (q1E W z n a b c d e W'), H) := by
  have e0 : envOf (p1E W z n) 0 = W := rfl
  have keep : ∀ a b c, (((envOf (p1E W z n)).upd 38 a).upd 39 b).upd 40 c = envOf (q1E W z n a b c .undef .undef W) := by
    intro a b c
    unfold q1E
    simp only [envOf_set]
    funext t
    simp only [Env.upd]
    by_cases h0 : t = 0
    · subst h0; rfl
    · by_cases h1 : t = 42
      · subst h1; rfl
      · by_cases h2 : t = 41
        · subst h2; rfl
        · rw [if_neg h0, if_neg h1, if_neg h2]
  have small : ∀ l : Nat, l ≤ 100 → vLen W H = some (.i l, H) → ∃ a b c d e W', den P s4 (envOf (p1E W z n)) H = some (.normal, envOf (q1E W z n a b c d e W'), H) := by
    intro l hl hv
    refine ⟨W, .i l, .bool false, .undef, .undef, W, ?_⟩
    rw [← keep]
    unfold s4
    simp (disch := first | omega | rfl | assumption | (simp only [csN, Nat.reduceAdd, Nat.reduceMul, Nat.reduceLeDiff, Nat.reduceEqDiff] <;> omega) | (simp only [csF]; done) | (simp only [csF] <;> assumption) | fail) only [Nat.reduceEqDiff, Nat.reduceAdd, Nat.reduceMul, Nat.reduceSub, Nat.reduceLeDiff, Int.reduceAdd, Int.reduceSub, Int.reduceMul, Int.reduceLT, Int.reduceLE, Int.reduceGT, Int.reduceGE, Int.reduceEq, Int.reduceBEq, Int.reduceBNe, Int.reduceNeg, Int.reduceToNat, csAll, ↓reduceIte, e0, hv]
  rcases hW with ⟨l, hl, hv⟩ | ⟨o, len, cap, t, rfl, hc⟩
  · exact small l hl (hv H)
  · by_cases hl : len ≤ 100
    · exact small len hl rfl
    · have hs : sliceV 1 (.slice 0 o len cap 1 t) none (some (.int .i64 100)) none = some (.slice 0 (o + 0 * 1) (100 - 0) (cap - 0) 1 (t && true)) := by
        have h1 : (100 : Int) ≤ (cap : Int) := by omega
        simp [sliceV, sliceBndsV, boundOV, boundV, hc, h1]
      refine ⟨.slice 0 o len cap 1 t, .i len, .bool true, .slice 0 o len cap 1 t, .slice 0 (o + 0 * 1) (100 - 0) (cap - 0) 1 (t && true), .slice 0 (o + 0 * 1) (100 - 0) (cap - 0) 1 (t && true), ?_⟩
      have hv : vLen (.slice 0 o len cap 1 t) H = some (.i len, H) := rfl
      unfold q1E
      simp only [envOf_set]
      unfold s4
      simp (disch := first | omega | rfl | assumption | (simp only [csN, Nat.reduceAdd, Nat.reduceMul, Nat.reduceLeDiff, Nat.reduceEqDiff] <;> omega) | (simp only [csF]; done) | (simp only [csF] <;> assumption) | fail) only [Nat.reduceEqDiff, Nat.reduceAdd, Nat.reduceMul, Nat.reduceSub, Nat.reduceLeDiff, Int.reduceAdd, Int.reduceSub, Int.reduceMul, Int.reduceLT, Int.reduceLE, Int.reduceGT, Int.reduceGE, Int.reduceEq, Int.reduceBEq, Int.reduceBNe, Int.reduceNeg, Int.reduceToNat, csAll, ↓reduceIte, e0, hv, hs]
      all_goals rfl
theorem leave_of {cf : CFunc} {n t : Nat} (h : (cf.n, cf.round, cf.res) = (n, 0, [.tmp t])) (E : Env) (H : CHeap) : leave cf (.ret, E, H) = some (E t, H) := by
  obtain ⟨m, r, b, s⟩ := cf
  simp only [Prod.mk.injEq] at h
  obtain ⟨rfl, rfl, rfl⟩ := h
  rfl
theorem n_of {cf : CFunc} {n r : Nat} {s : List CRes} (h : (cf.n, cf.round, cf.res) = (n, r, s)) : cf.n = n := by
  simp only [Prod.mk.injEq] at h
  exact h.1
theorem h7 (z n : Int) (hn : 0 ≤ n ∧ n ≤ 255) (a b c d e W' : CV) (H : CHeap) : ∃ f g h L, (L = 201 ∨ L = 202 ∨ L = 203) ∧ evOps (run P) r7a (envOf (p2E z n a b c d e W')) H = some (envOf (q2E z n a b c d e W' f g h (.int .i64 L)), H) := by
  have e2 : envOf (p2E z n a b c d e W') 2 = .int .u8 n := rfl
  refine ⟨.int .u8 n, .int .i64 n, .int .i64 (n.tmod 3), 201 + n.tmod 3, ?_, ?_⟩
  · have := Int.tmod_eq_emod_of_nonneg hn.1 (b := 3)
    omega
  · have w1 : IntKind.i64.wrap n = n := wrap_id (by omega)
    have h3 := Int.tmod_eq_emod_of_nonneg hn.1 (b := 3)
    have w2 : IntKind.i64.wrap (201 + n.tmod 3) = 201 + n.tmod 3 := wrap_id (by omega)
    unfold q2E r7a
    simp only [envOf_set, evOps, evStmt, wanted, if_true, opc, opv, mkOf, made, Env.ev, Env.put, e2, Option.map_some, Option.bind_some, upd_same, w1, intOp, show ¬ ((3 : Int) = 0) from by decide, if_false, w2]
theorem hC (x : KB) (z n : Int) (a b c d e W' f g h : CV) {L : Int} (hL : L = 201 ∨ L = 202 ∨ L = 203) : isR 6 (evS tab 5000 (toS (.seq (.region r7b) (dropC 8 (bod 3).body))) (q2E z n a b c d e W' f g h (.int .i64 L)) (p2H x)) = true := by
  rcases hL with rfl | rfl | rfl
  · exact hC201 x z n a b c d e W' f g h
  · exact hC202 x z n a b c d e W' f g h
  · exact hC203 x z n a b c d e W' f g h
theorem f3 (x : KB) (W : CV) (hW : (∃ l : Nat, l ≤ 100 ∧ ∀ H, vLen W H = some (.i l, H)) ∨ ∃ o len cap t, W = .slice 0 o len cap 1 t ∧ len ≤ cap) (z n : Int) (hn : 0 ≤ n ∧ n ≤ 255) : ∃ H', run P 3 [W, .i z, .int .u8 n] [absB x] = some (.bool true, H') := by
  have hH : [absB x] = abs ⟨.node (some x) .nil .nil, 1⟩ := rfl
  rw [run_start h3 (by rw [n_of s3]; simp), hH, runPart tabOk (hA x W z n), d4]
  obtain ⟨a, b, c, d, e, W', h4⟩ := h4 W hW z n (abs (p1H x))
  rw [den_seq, h4, sq_normal, runPart tabOk (hB x W z n a b c d e W'), d57, d7]
  obtain ⟨f, g, h, L, hL, h7⟩ := h7 z n hn a b c d e W' (abs (p2H x))
  rw [den_split h7]
  obtain ⟨E9, H9, h9, h10⟩ := isR_some (hC x z n a b c d e W' f g h hL)
  rw [evS_spec tabOk _ h9, Option.bind_some, leave_of s3, h10]
  exact ⟨_, rfl⟩
theorem f3' {cv : Nat → CV} {blk : Blk} {l : List (List CV)} (h : SlOf cv blk [.int .i64] l) (z : Int) {n : Int} (w : (Lit.int .u8 n).wf = true) : ∃ H', run P 3 [cv 0, .i z, .int .u8 n] [blk] = some (.bool true, H') := by
  have hn : 0 ≤ n ∧ n ≤ 255 := by
    have h1 : IntKind.u8.min ≤ n ∧ n ≤ IntKind.u8.max := by simpa [Lit.wf] using w
    have h2 : IntKind.u8.min = 0 := rfl
    have h3 : IntKind.u8.max = 255 := rfl
    omega
  have hx : blk = absB (.row (putAll .nil 0 blk.cells) blk.cells.length blk.mode blk.esz) := by
    simp only [absB, rowL_new]
  have := f3 (.row (putAll .nil 0 blk.cells) blk.cells.length blk.mode blk.esz) (cv 0) (by
    obtain ⟨h1, h2, -⟩ := h
    by_cases hl : l = []
    · exact .inl ⟨0, by omega, fun H => by rw [h1 0 H, hl]; rfl⟩
    · obtain ⟨⟨cap, hc, he⟩, -⟩ := h2 hl
      exact .inr ⟨0, l.length, cap, false, he 0, hc⟩) z n hn
  rwa [← hx] at this
end Go.Cs.Tryz

/-
  DERIVED: THE SHELF's CONTRACTS AT THIS DUMP, IN PLAIN WORDS (tools/lay-plain.mjs out of 'TryzShelf.lean', which tools/lay-shelf.mjs wrote): THE SAME DECLARATIONS UNDER THE SAME NAMES: 'import', 'namespace', 'open', 'def', 'theorem' AND NOTHING ELSE: no command of the shelf's: FOR A HAND-IN. Each laying: the table of numbers ('.._ren') and one theorem, a field a fact of the dump's own or the kernel's comparison; each contract: ONE APPLICATION.
-/
namespace Go.Proofs
open Go.Shelf
def Tryz.keysA_ren : Go.Shelf.Ren := ⟨fun | 7 => 85 | 10 => 173 | n => n, fun | 23 => 123 | 26 => 3 | 3 => 4 | 28 => 144 | 0 => 0 | 27 => 143 | 33 => 103 | 4 => 4 | n => n, fun | n => n⟩
theorem Tryz.keysA : Go.Proofs.SlLaysZI.n7 Tryz.prog Tryz.keysA_ren := {
  mixed := by kernel_rfl
  f7 := ⟨Tryz.f85.name, by decide, Tryz.func85.trans (congrArg some (by kernel_rfl))⟩
  f10 := ⟨Tryz.f173.name, by decide, Tryz.func173.trans (congrArg some (by kernel_rfl))⟩
  t0 := Tryz.underlying0
  a0 := Tryz.isAgg0
  z0 := Tryz.sizeOf0
  v0 := Tryz.zeroValue0
  t4 := Tryz.underlying4
  a4 := Tryz.isAgg4
  z4 := Tryz.sizeOf4
  v4 := Tryz.zeroValue4
  t23 := Tryz.underlying123
  a23 := Tryz.isAgg123
  z23 := Tryz.sizeOf123
  v23 := Tryz.zeroValue123
  t26 := Tryz.underlying3
  a26 := Tryz.isAgg3
  z26 := Tryz.sizeOf3
  v26 := Tryz.zeroValue3
  t27 := Tryz.underlying143
  a27 := Tryz.isAgg143
  z27 := Tryz.sizeOf143
  v27 := Tryz.zeroValue143
  t28 := Tryz.underlying144
  a28 := Tryz.isAgg144
  z28 := Tryz.sizeOf144
  v28 := Tryz.zeroValue144
  t33 := Tryz.underlying103
  a33 := Tryz.isAgg103
  z33 := Tryz.sizeOf103
  v33 := Tryz.zeroValue103 }
def Tryz.sortedA_ren : Go.Shelf.Ren := ⟨fun | 6 => 84 | 8 => 172 | 9 => 120 | 11 => 242 | 13 => 215 | 12 => 214 | 23 => 270 | 24 => 271 | 14 => 261 | 15 => 262 | 16 => 263 | 17 => 264 | 18 => 265 | 19 => 266 | 20 => 267 | 21 => 268 | 22 => 269 | 25 => 296 | 26 => 297 | 27 => 298 | 28 => 299 | 29 => 300 | 30 => 301 | 31 => 307 | n => n, fun | 26 => 3 | 28 => 144 | 24 => 22 | 0 => 0 | 3 => 3 | 37 => 241 | 48 => 268 | 50 => 252 | 4 => 4 | 40 => 262 | 39 => 261 | 45 => 169 | 5 => 5 | 9 => 9 | 51 => 285 | 55 => 214 | 57 => 292 | 58 => 293 | 33 => 103 | n => n, fun | n => n⟩
theorem Tryz.sortedA : Go.Proofs.SlLaysZI.n6 Tryz.prog Tryz.sortedA_ren := {
  mixed := by kernel_rfl
  f6 := ⟨Tryz.f84.name, by decide, Tryz.func84.trans (congrArg some (by kernel_rfl))⟩
  f8 := ⟨Tryz.f172.name, by decide, Tryz.func172.trans (congrArg some (by kernel_rfl))⟩
  f11 := ⟨Tryz.f242.name, by decide, Tryz.func242.trans (congrArg some (by kernel_rfl))⟩
  t0 := Tryz.underlying0
  a0 := Tryz.isAgg0
  z0 := Tryz.sizeOf0
  v0 := Tryz.zeroValue0
  t24 := Tryz.underlying22
  a24 := Tryz.isAgg22
  z24 := Tryz.sizeOf22
  v24 := Tryz.zeroValue22
  t26 := Tryz.underlying3
  a26 := Tryz.isAgg3
  z26 := Tryz.sizeOf3
  v26 := Tryz.zeroValue3
  t28 := Tryz.underlying144
  a28 := Tryz.isAgg144
  z28 := Tryz.sizeOf144
  v28 := Tryz.zeroValue144
  i26 := by kernel_rfl }
def Tryz.sortA_ren : Go.Shelf.Ren := ⟨fun | 5 => 120 | 8 => 215 | 7 => 214 | 19 => 270 | 20 => 271 | 10 => 261 | 11 => 262 | 12 => 263 | 13 => 264 | 14 => 265 | 15 => 266 | 16 => 267 | 17 => 268 | 18 => 269 | 30 => 296 | 31 => 297 | 32 => 298 | 33 => 299 | 34 => 300 | 35 => 301 | 40 => 307 | n => n, fun | 23 => 22 | 25 => 3 | 3 => 3 | 32 => 241 | 22 => 22 | 0 => 0 | 44 => 268 | 46 => 252 | 4 => 4 | 36 => 262 | 35 => 261 | 41 => 169 | 5 => 5 | 9 => 9 | 53 => 285 | 57 => 214 | 63 => 292 | 64 => 293 | n => n, fun | n => n⟩
theorem Tryz.sortA : Go.Proofs.SlLaysM.n5 Tryz.prog Tryz.sortA_ren := {
  mixed := by kernel_rfl
  f5 := ⟨Tryz.f120.name, by decide, Tryz.func120.trans (congrArg some (by kernel_rfl))⟩
  f7 := ⟨Tryz.f214.name, by decide, Tryz.func214.trans (congrArg some (by kernel_rfl))⟩
  f8 := Tryz.func215.trans (congrArg some (by kernel_rfl))
  f10 := ⟨Tryz.f261.name, by decide, Tryz.func261.trans (congrArg some (by kernel_rfl))⟩
  f11 := ⟨Tryz.f262.name, by decide, Tryz.func262.trans (congrArg some (by kernel_rfl))⟩
  f12 := ⟨Tryz.f263.name, by decide, Tryz.func263.trans (congrArg some (by kernel_rfl))⟩
  f13 := ⟨Tryz.f264.name, by decide, Tryz.func264.trans (congrArg some (by kernel_rfl))⟩
  f14 := ⟨Tryz.f265.name, by decide, Tryz.func265.trans (congrArg some (by kernel_rfl))⟩
  f15 := ⟨Tryz.f266.name, by decide, Tryz.func266.trans (congrArg some (by kernel_rfl))⟩
  f16 := ⟨Tryz.f267.name, by decide, Tryz.func267.trans (congrArg some (by kernel_rfl))⟩
  f17 := ⟨Tryz.f268.name, by decide, Tryz.func268.trans (congrArg some (by kernel_rfl))⟩
  f18 := ⟨Tryz.f269.name, by decide, Tryz.func269.trans (congrArg some (by kernel_rfl))⟩
  f19 := Tryz.func270.trans (congrArg some (by kernel_rfl))
  f20 := Tryz.func271.trans (congrArg some (by kernel_rfl))
  f30 := ⟨Tryz.f296.name, by decide, Tryz.func296.trans (congrArg some (by kernel_rfl))⟩
  f31 := Tryz.func297.trans (congrArg some (by kernel_rfl))
  f32 := Tryz.func298.trans (congrArg some (by kernel_rfl))
  f33 := ⟨Tryz.f299.name, by decide, Tryz.func299.trans (congrArg some (by kernel_rfl))⟩
  f34 := ⟨Tryz.f300.name, by decide, Tryz.func300.trans (congrArg some (by kernel_rfl))⟩
  f35 := ⟨Tryz.f301.name, by decide, Tryz.func301.trans (congrArg some (by kernel_rfl))⟩
  f40 := ⟨Tryz.f307.name, by decide, Tryz.func307.trans (congrArg some (by kernel_rfl))⟩
  t0 := Tryz.underlying0
  a0 := Tryz.isAgg0
  z0 := Tryz.sizeOf0
  v0 := Tryz.zeroValue0
  t3 := Tryz.underlying3
  a3 := Tryz.isAgg3
  z3 := Tryz.sizeOf3
  v3 := Tryz.zeroValue3
  t4 := Tryz.underlying4
  a4 := Tryz.isAgg4
  z4 := Tryz.sizeOf4
  v4 := Tryz.zeroValue4
  t5 := Tryz.underlying5
  a5 := Tryz.isAgg5
  z5 := Tryz.sizeOf5
  v5 := Tryz.zeroValue5
  t9 := Tryz.underlying9
  a9 := Tryz.isAgg9
  z9 := Tryz.sizeOf9
  v9 := Tryz.zeroValue9
  t22 := Tryz.underlying22
  a22 := Tryz.isAgg22
  z22 := Tryz.sizeOf22
  v22 := Tryz.zeroValue22
  t23 := Tryz.underlying22
  a23 := Tryz.isAgg22
  z23 := Tryz.sizeOf22
  v23 := Tryz.zeroValue22
  t25 := Tryz.underlying3
  a25 := Tryz.isAgg3
  z25 := Tryz.sizeOf3
  v25 := Tryz.zeroValue3
  t32 := Tryz.underlying241
  a32 := Tryz.isAgg241
  z32 := Tryz.sizeOf241
  v32 := Tryz.zeroValue241
  t35 := Tryz.underlying261
  a35 := Tryz.isAgg261
  z35 := Tryz.sizeOf261
  v35 := Tryz.zeroValue261
  t36 := Tryz.underlying262
  a36 := Tryz.isAgg262
  z36 := Tryz.sizeOf262
  v36 := Tryz.zeroValue262
  t41 := Tryz.underlying169
  a41 := Tryz.isAgg169
  z41 := Tryz.sizeOf169
  v41 := Tryz.zeroValue169
  t44 := Tryz.underlying268
  a44 := Tryz.isAgg268
  z44 := Tryz.sizeOf268
  v44 := Tryz.zeroValue268
  t46 := Tryz.underlying252
  a46 := Tryz.isAgg252
  z46 := Tryz.sizeOf252
  v46 := Tryz.zeroValue252
  t53 := Tryz.underlying285
  a53 := Tryz.isAgg285
  z53 := Tryz.sizeOf285
  v53 := Tryz.zeroValue285
  t57 := Tryz.underlying214
  a57 := Tryz.isAgg214
  z57 := Tryz.sizeOf214
  v57 := Tryz.zeroValue214
  t63 := Tryz.underlying292
  a63 := Tryz.isAgg292
  z63 := Tryz.sizeOf292
  v63 := Tryz.zeroValue292
  t64 := Tryz.underlying293
  a64 := Tryz.isAgg293
  z64 := Tryz.sizeOf293
  v64 := Tryz.zeroValue293 }
end Go.Proofs

/- Go's library sorts integers, and hands back the sorted keys of a map: at this program, by the kit's contracts. -/
namespace Go.Cs.Tryz
open Go Go.Cs Go.Proofs Go.RowKit Go.Maps Go.Sort Go.Shelf
open Go.WideElems (Fit rd rg rg_of)

theorem sortC : SortC Go.Proofs.Tryz.prog 120 :=
  ⟨fun blk off cap zs w hH hblk hsz => AnyM.slices_Sort_int Go.Proofs.Tryz.sortA blk off cap zs w hH hblk (by omega), fun p cap w => AnyM.slices_Sort_int_none Go.Proofs.Tryz.sortA p cap w⟩

theorem sortsA (m : Nat) : AnyZI.SortsIn Go.Proofs.Tryz.prog Go.Proofs.Tryz.sortedA_ren Fence.wide m :=
  ⟨fun blk off cap ss W hH hblk hsz => callsIn_wide.2 (AnyM.slices_Sort_int Go.Proofs.Tryz.sortA blk off cap ss W hH hblk hsz),
   fun p cap W => callsIn_wide.2 (AnyM.slices_Sort_int_none Go.Proofs.Tryz.sortA p cap W)⟩

/-- How a value is read: it is not. -/
def anyR : Value → Option (DataW Unit × List MemPlace) := fun _ => some (.lit (.bool true), [])

theorem key_of {n : Int} (h : inI64 n = true) : keyOf Go.Proofs.Tryz.prog 3 (.int .i64 n) = some (.int .i64 n) := by
  have hw : (Lit.int .i64 n).wf = true := h
  simp [keyOf, hw, show Go.Proofs.Tryz.prog.underlying 3 = some (.int .i64) from by kernel_rfl, mapKey]

theorem keysC : KeysC Go.Proofs.Tryz.prog 84 173 := by
  intro w Bm b es cl ks hcell hb hst hkeys hlen hrange hBm
  have hsz : es.size = ks.length := by have := congrArg List.length hkeys; simpa using this
  have hmem : ∀ x ∈ es.toList, ∃ n, n ∈ ks ∧ x.key = .int .i64 n := by
    intro x hx
    have : x.key ∈ ks.map (Value.int .i64) := by rw [← hkeys]; exact List.mem_map_of_mem hx
    obtain ⟨n, hn, e⟩ := List.mem_map.1 this
    exact ⟨n, hn, e.symm⟩
  have hin : ∀ n ∈ ks, inI64 n = true := fun n hn => List.all_eq_true.1 hrange n hn
  have hrd : ∀ (x : MapEntry) (n : Int), n ∈ ks → x.key = .int .i64 n → rd Go.Proofs.Tryz.prog 3 anyR x = some (.int .i64 n, .lit (.bool true)) := by
    intro x n hn hx
    simp [Go.WideElems.rd, hx, key_of (hin n hn), anyR]
  have hown : w.ownsMap Go.Proofs.Tryz.prog 3 anyR b es.size (.map ((es.toList.map (rg Go.Proofs.Tryz.prog 3 anyR)).foldr DataW.insert [])) :=
    ⟨es, cl, hb, ⟨by rw [hsz]; exact Nat.le_trans hlen (by decide), hst, fun x hx => by obtain ⟨n, hn, e⟩ := hmem x hx; exact ⟨_, hrd x n hn e⟩⟩, Nat.le_refl _, rfl⟩
  generalize hD : (DataW.map ((es.toList.map (rg Go.Proofs.Tryz.prog 3 anyR)).foldr DataW.insert []) : DataW Unit) = D0 at hown
  have hsize : Maps.size D0 = es.size := by rw [← hD]; simp [Maps.size, length_sorted]
  have hperm : (intKeys D0).Perm ks := by
    rw [← hD]
    have h1 : (((es.toList.map (rg Go.Proofs.Tryz.prog 3 anyR)).foldr DataW.insert []).map fun p => intOf p.1).Perm ((es.toList.map (rg Go.Proofs.Tryz.prog 3 anyR)).map fun p => intOf p.1) := (WideShapes.sorted_perm _).map _
    refine h1.trans ?_
    have h2 : (es.toList.map (rg Go.Proofs.Tryz.prog 3 anyR)).map (fun p => intOf p.1) = ks := by
      have h3 : ∀ (l : List MapEntry) (k : List Int), (∀ n ∈ k, n ∈ ks) → l.map (·.key) = k.map (Value.int .i64) → (l.map (rg Go.Proofs.Tryz.prog 3 anyR)).map (fun p => intOf p.1) = k := by
        intro l
        induction l with
        | nil => intro k _ hk; cases k with
          | nil => rfl
          | cons a k => simp at hk
        | cons x l ih =>
          intro k hin2 hk
          cases k with
          | nil => simp at hk
          | cons a k =>
            simp only [List.map_cons, List.cons.injEq] at hk
            simp only [List.map_cons, List.cons.injEq]
            exact ⟨by rw [rg_of (hrd x a (hin2 a List.mem_cons_self) hk.1)]; rfl, ih k (fun n hn => hin2 n (List.mem_cons_of_mem _ hn)) hk.2⟩
      exact h3 _ _ (fun _ h => h) hkeys
    rw [h2]
  have hseq : SeqGives Fence.wide 2 Go.Proofs.Tryz.prog 173 #[.pointer (some ⟨Bm, 0, none⟩)] encZ (fun ss => ss.Perm (intKeys D0)) (Maps.size D0) w :=
    AnyZI.keys_gives (ρ := Go.Proofs.Tryz.keysA_ren) { Go.Proofs.Tryz.keysA with } Fence.wide _ trivial rfl (by omega) Bm b es.size D0 w hBm hcell hown
  have cS := AnyZI.sorted_in Go.Proofs.Tryz.sortedA Fence.wide 5 trivial trivial trivial trivial rfl (by omega) (sortsA _) (enters_of Go.Proofs.Tryz.func120 (by kernel_rfl) rfl) 173 #[.pointer (some ⟨Bm, 0, none⟩)] trivial (enters_of Go.Proofs.Tryz.func173 (by kernel_rfl) rfl) _ _ (by rw [hsize, hsz]; exact Nat.le_trans hlen (by decide)) (by rw [hsize, hsz]; omega) w hseq
  change CallsIn _ _ Go.Proofs.Tryz.prog 84 _ _ _ at cS
  refine (callsIn_wide.1 cS).mono ?_
  rintro e w' ⟨v, ss, rfl, hS, hrow, hnil, hbel⟩
  have hp : ss.Perm ks := hS.trans hperm
  have hsort : ss.mergeSort (fun x y => decide (x ≤ y)) = ks.mergeSort (fun x y => decide (x ≤ y)) := by
    rw [mergeSort_sortZ, mergeSort_sortZ]
    exact sortZ_unique ((sortZ_perm ss).trans hp) (sortZ_sorted ss)
  refine ⟨v, rfl, hbel, ?_⟩
  have hl : ss.length = ks.length := hp.length_eq
  rcases hrow.2 with ⟨rfl, h0⟩ | ⟨g, cap, cur, rfl, h1, h2, h3, h4, h5, h6⟩
  · exact .inl ⟨List.eq_nil_of_length_eq_zero (by omega), rfl⟩
  · refine .inr ⟨fun e => ?_, g, cap, cur, _, by rw [hl], h1, h2, by omega, by rw [h5, Nat.mul_one], ?_⟩
    · have : ss = [] := List.eq_nil_of_length_eq_zero (by rw [hl, e]; rfl)
      have := hnil.2 this
      cases this
    · rw [← hl, ← Nat.mul_one ss.length, h6, hsort]

theorem primsOk : PrimsOk Go.Proofs.Tryz.prog := by
  intro f fn hfn
  have hall : ((List.range Go.Proofs.Tryz.prog.funcs.size).all fun i => match Go.Proofs.Tryz.prog.funcs[i]? with | some fn => (!isSort fn || i == 120) && (!isSorted fn || i == 84) | none => true) = true := by kernel_rfl
  have hf : f < Go.Proofs.Tryz.prog.funcs.size := (Array.getElem?_eq_some_iff.1 hfn).1
  have h1 := List.all_eq_true.1 hall f (List.mem_range.2 hf)
  rw [hfn] at h1
  simp only [Bool.and_eq_true, Bool.or_eq_true, Bool.not_eq_true', beq_iff_eq] at h1
  refine ⟨fun h => ?_, fun h g hg => ?_⟩
  · rcases h1.1 with h2 | rfl
    · rw [h] at h2; cases h2
    · exact sortC
  · rcases h1.2 with h2 | rfl
    · rw [h] at h2; cases h2
    · have hk : keysFn Go.Proofs.Tryz.prog = some 173 := by kernel_rfl
      rw [hk] at hg
      simp only [Option.some.injEq] at hg
      subst hg
      exact keysC
end Go.Cs.Tryz

/- PinNone returns true for every input: all functions return ErrArg for a heap or roots that are nil or zero, ErrLong for too many words (R1) Conditions: none. -/
namespace Go.Proofs.YtapomifipcbgmaaGreat.pinNone
open Go Go.Cs Go.ChangeShapes Go.WideShapes Go.ChangeAt Go.RowKit
set_option linter.unusedVariables false
theorem own : ownKnob Tryz.prog.godebug = none := by kernel_rfl
theorem laidOut : laidOutB Tryz.prog = true := by kernel_rfl
theorem follows : Tryz.prog.follows .mixedOrders = true := by kernel_rfl
set_option maxRecDepth 100000 in
theorem lifted (os : Os) (started : os.Started) (H : Type) (enc : TypeId × Value → H) :
    ReturnsInHanded {} Tryz.checked os 3 .any (Rows.pinNoneSpec.pre6 enc Tryz.prog Tryz.f3 Rows.pinNoneRow.domain false) (Rows.pinNoneSpec.post enc Tryz.prog Tryz.f3 false true false false) := by
  refine returnsInHanded_of_change_sized (C := Tryz.checked) own started (by kernel_rfl) Tryz.func3
    (ChangeSpec.witness6 (enc := enc) (C := Tryz.checked) false ⟨#[], #[.slice none 0 0, .int .i64 0, .int .u8 0], []⟩ 8 (by kernel_rfl) (by kernel_rfl) (by kernel_rfl) (by kernel_rfl)) ?_
  intro W base args ds gs before hval0 hW hcnd hsz0 _
  have hval : ∀ (j : Nat) t v, Tryz.f3.params[j]? = some t → args[j]? = some v → Value.okWide Tryz.prog W .any base t v := hval0
  have hW' := hW
  obtain ⟨p, q, hA0, hV, rfl, hfz, hnd⟩ := hW
  have hA : DataW.TrodAll enc Tryz.prog W 0 (fun _ => true) true Tryz.f3.params.toList args.toList ds p := hA0
  rw [Tryz.params3] at hA hval
  clear hA0 hval0 hsz0 hcnd
  obtain ⟨v0, vs0, d0, ds0, p0, q0, hargs, rfl, rfl, h0, r0⟩ := trodAll_cons hA
  obtain ⟨v1, vs1, d1, ds1, p1, q1, rfl, rfl, rfl, h1, r1⟩ := trodAll_cons r0
  obtain ⟨v2, vs2, d2, ds2, p2, q2, rfl, rfl, rfl, h2, r2⟩ := trodAll_cons r1
  obtain ⟨rfl, rfl, rfl⟩ := trodAll_nil r2
  obtain rfl : args = #[v0, v1, v2] := by cases args; simp_all
  obtain ⟨rfl, rfl⟩ := trodVars_none hV
  have lt0 : ∀ x ∈ p0, x.block < W.heap.size := by obtain ⟨m, hm⟩ := h0; exact DataW.trod_lt m _ _ _ hm
  obtain ⟨x0, b0, g0, l0, vx0, bk0, so0⟩ := open_flat (n := 6) (ks := [.int .i64]) (show Tryz.prog.underlying 22 = some (.slice 3) from by kernel_rfl) (by kernel_rfl) (by kernel_rfl) (by decide) (hval 0 22 v0 rfl rfl) h0
  obtain ⟨x1, rfl, rfl, rfl, w1⟩ := open_int (k := .i64) (show Tryz.prog.underlying 3 = some (.int .i64) from by kernel_rfl) (hval 1 3 v1 rfl rfl) h1
  obtain ⟨x2, rfl, rfl, rfl, w2⟩ := open_int (k := .u8) (show Tryz.prog.underlying 5 = some (.int .u8) from by kernel_rfl) (hval 2 5 v2 rfl rfl) h2
  obtain ⟨H1, hrun⟩ : ∃ H1, run (cprog Tryz.prog) 3 [x0 0, .i x1, .int .u8 x2] [b0] = some (.bool true, H1) := Go.Cs.Tryz.f3' so0 x1 w2
  have hb : ∀ b blk, [b0][b]? = some blk → BlkOk W blk ([g0].getD b none) := by
    intro b blk hb
    match b, hb with
    | 0, hb => simp at hb; subst hb; exact bk0
    | n + 1, hb => simp at hb
  refine (run_calls follows Go.Cs.Tryz.primsOk (by decide) (tgs := [g0]) (W := W) (args' := #[v0, .int .i64 x1, .int .u8 x2]) rfl hb hrun ?_).mono fun e W' he => ?_
  · simp only [VL]
    exact ⟨_, _, rfl, vx0 0 _ rfl, ⟨_, _, rfl, by simp [V], ⟨_, _, rfl, by simp [V], rfl⟩⟩⟩
  obtain ⟨⟨ν, v', rfl, hv'⟩, bel⟩ := he
  simp only [V] at hv'
  subst hv'
  exact ⟨_, rfl, _, _, _, [], _, [], hW', trodAll_mk1 (shut_bool (show Tryz.prog.underlying 4 = some .bool from by kernel_rfl) _), (trodAll_cons_mk (Below.trod laidOut (by kernel_rfl) (of_decide_eq_true (by kernel_rfl)) h0 bel lt0) (trodAll_cons_mk (shut_int (show Tryz.prog.underlying 3 = some (.int .i64) from by kernel_rfl) w1) (trodAll_cons_mk (shut_int (show Tryz.prog.underlying 5 = some (.int .u8) from by kernel_rfl) w2) trodAll_mk0))), rfl, bel.frame _, fun h => by cases h⟩
theorem over : Rows.pinNoneRow.holds Tryz.pinned (OpenSpec.ofChange Rows.pinNoneSpec) :=
  OpenClaim.holds_of_wide 3 Tryz.f3 rfl rfl rfl rfl rfl rfl rfl ⟨rfl, rfl, rfl, rfl, rfl⟩ rfl rfl rfl rfl rfl (by kernel_rfl) Tryz.func3 (by kernel_rfl)
    (of_decide_eq_true (by kernel_rfl)) (by unfold Func.isWrapper; first | (rw [if_pos (by decide +kernel)]; kernel_rfl) | (rw [if_neg (by decide +kernel)]; exact ⟨rfl, rfl⟩))
    (fun os started H enc _ => lifted os started H enc)
end Go.Proofs.YtapomifipcbgmaaGreat.pinNone
namespace Go.Proofs.YtapomifipcbgmaaGreat
/-- The row. -/
theorem pinNone_holds : Rows.PinNoneSaid := pinNone.over
#print axioms pinNone_holds
end Go.Proofs.YtapomifipcbgmaaGreat
