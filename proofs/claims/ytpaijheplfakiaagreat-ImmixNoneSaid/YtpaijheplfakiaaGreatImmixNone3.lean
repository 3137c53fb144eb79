/- ImmixNone returns true for every input: without a heap, roots or marks no object is collected. (ErrArg) Conditions: none. -/
import Derived.Test.YtpaijheplfakiaaGreatImmixNone2
import Derived.Test.YtpaijheplfakiaaGreatProg
import Derived.KernelRfl
import Derived.Test.YtpaijheplfakiaaGreatRows
import Derived.WalkKit
import Derived.ProofKit
import Derived.OpenShut
import Derived.ShutString
import Derived.ChangeOld
import Derived.Below
import Derived.SizedLaws
import Derived.Carry
set_option linter.unusedVariables false
set_option linter.unusedSimpArgs false
set_option linter.defProp false
/- The turned functions, part 2. -/
noncomputable section
namespace Go.Cs.Tryz
open Go Go.Cs Go.Cs.K
set_option maxRecDepth 100000
def S1003777 : SCode := (.block 3 (.seq (.dregion [⟨⟨some 61, none, .load false 1 (.tmp 4)⟩, 0, 1, 0⟩, ⟨⟨some 62, none, .mov (.tmp 11)⟩, 1, 0, 0⟩, ⟨⟨some 63, none, .nilCheck (.tmp 62)⟩, 2, 0, 0⟩, ⟨⟨some 64, none, .load false 1 (.tmp 63)⟩, 3, 1, 0⟩, ⟨⟨some 65, none, .call 174 [(.tmp 61), (.tmp 64)]⟩, 4, 3, 0⟩, ⟨⟨some 60, none, .mov (.tmp 65)⟩, 5, 0, 1⟩, ⟨⟨some 66, none, .extract (.tmp 60) 0⟩, 6, 0, 1⟩, ⟨⟨some 67, none, .extract (.tmp 60) 1⟩, 7, 0, 1⟩, ⟨⟨some 12, none, .mov (.tmp 66)⟩, 8, 0, 1⟩, ⟨⟨some 13, none, .mov (.tmp 67)⟩, 9, 0, 1⟩])
   (.seq (.ops (.vd 68 (o_mov (.tmp 13)) .nil))
   (.cond (.tmp 68)
    (.seq (.ops (.vd 69 (o_mov (.tmp 11)) (.vd 70 (o_load false 1 (.tmp 5)) (.vd 71 (o_mov (.tmp 12)) (.vd 72 (o_index 1 (.tmp 70) (.tmp 71)) (.vd 73 (o_load false 1 (.tmp 72)) (.vd 74 (o_nilCheck (.tmp 69)) (.v none none (o_store 1 (.tmp 74) (.tmp 73)) .nil))))))))
    (.ops (.vd 75 (o_load false 1 (.tmp 9)) (.vd 76 (o_bin .add (.tmp 75) (.const (.int .i64 1))) (.v none none (o_store 1 (.tmp 9) (.tmp 76)) .nil)))))
    .skip))))
def X1003777 : FnS := .code ⟨78, 2, .skip, []⟩ S1003777
theorem x1003777 : okX Go.Proofs.Tryz.prog 1003777 X1003777 := okX_of (by kernel_rfl)
def S119_1 : SCode := .seq (.seq (.ops (.vd 21 (o_mov (.tmp 6)) (.vd 22 (o_bin .gtr (.tmp 21) (.const (.int .i64 0))) .nil)))
    (.cond (.tmp 22)
     .skip
     (.exit 0)))
    (.seq (.block 1 (.ops (.vd 25 (o_mov (.tmp 0)) (.vd 26 (o_nilCheck (.tmp 25)) (.vd 27 (o_field 0 (.tmp 26)) (.vd 28 (o_load false 1 (.tmp 27)) (.vd 29 (o_mov (.tmp 1)) (.vd 30 (o_mov (.tmp 6)) (.vd 31 (o_bin .add (.tmp 29) (.tmp 30)) (.vd 32 (o_bin .sub (.tmp 31) (.const (.int .i64 1))) (.vd 33 (o_build [.int .i64 0, .int .i64 0] []) (.vd 34 (o_index 2 (.tmp 28) (.tmp 32)) (.v none none (o_store 2 (.tmp 34) (.tmp 33)) .nil)))))))))))))
    (.ops (.vd 23 (o_mov (.tmp 6)) (.vd 24 (o_bin .sub (.tmp 23) (.const (.int .i64 1))) (.vd 6 (o_mov (.tmp 24)) .nil)))))
def S119 : SCode := (.seq (.ops (.vd 4 (o_mov (.const (.int .i64 0))) .nil))
  (.seq (.seq (.ops (.vd 7 (o_mov (.tmp 0)) (.vd 8 (o_mov (.tmp 1)) (.cd 9 (fun F => c_call F 175 [(.tmp 7), (.tmp 8), (.const (.bool true))]) (.vd 5 (o_mov (.tmp 9)) .nil)))))
  (.seq (.ops (.vd 10 (o_mov (.tmp 5)) (.vd 11 (o_bin .neq (.tmp 10) (.const (.int .i64 0))) .nil)))
  (.cond (.tmp 11)
   (.seq (.ops (.vd 12 (o_mov (.tmp 5)) (.vd 4 (o_mov (.tmp 12)) .nil)))
   .ret)
   .skip)))
  (.seq (.seq (.ops (.vd 13 (o_mov (.tmp 0)) (.vd 14 (o_mov (.tmp 1)) (.cd 15 (fun F => c_call F 35 [(.tmp 13), (.tmp 14)]) (.vd 16 (o_len (.tmp 15)) (.vd 17 (o_bin .gtr (.tmp 16) (.const (.int .i64 0))) .nil))))))
  (.cond (.tmp 17)
   (.seq (.ops (.vd 4 (o_mov (.const (.int .i64 8))) .nil))
   .ret)
   .skip))
  (.seq (.seq (.ops (.vd 18 (o_mov (.tmp 0)) (.vd 19 (o_mov (.tmp 1)) (.cd 20 (fun F => c_call F 163 [(.tmp 18), (.tmp 19)]) (.vd 6 (o_mov (.tmp 20)) .nil)))))
  (.block 0 (.loop S119_1)))
  (.seq (.ops (.vd 4 (o_mov (.const (.int .i64 0))) .nil))
  .ret)))))
def X119 : FnS := .code ⟨35, 0, .skip, [.tmp 4]⟩ S119
theorem x119 : okX Go.Proofs.Tryz.prog 119 X119 := okX_of (by kernel_rfl)
def S120_1 : SCode := .seq (.ops (.vd 10 (o_bin .lss (.tmp 9) (.tmp 8)) .nil))
    (.seq (.cond (.tmp 10)
     .skip
     (.exit 0))
    (.seq (.block 1 (.seq (.ops (.vd 11 (o_index 1 (.tmp 7) (.tmp 9)) (.vd 12 (o_load false 1 (.tmp 11)) (.vd 5 (o_mov (.tmp 12)) .nil))))
     (.ops (.vd 13 (o_mov (.tmp 3)) (.vd 14 (o_mov (.tmp 0)) (.vd 15 (o_mov (.tmp 5)) (.cd 16 (fun F => c_call F 90 [(.tmp 14), (.tmp 15)]) (.vd 17 (o_bin .add (.tmp 13) (.tmp 16)) (.vd 3 (o_mov (.tmp 17)) .nil)))))))))
    (.ops (.vd 18 (o_bin .add (.tmp 9) (.const (.int .i64 1))) (.vd 9 (o_mov (.tmp 18)) .nil)))))
def S120 : SCode := (.seq (.ops (.vd 2 (o_mov (.const (.int .i64 0))) .nil))
  (.seq (.ops (.vd 3 (o_mov (.const (.int .i64 0))) .nil))
  (.seq (.seq (.ops (.vd 6 (o_mov (.tmp 0)) (.cd 7 (fun F => c_call F 64 [(.tmp 6)]) (.vd 8 (o_len (.tmp 7)) (.vd 9 (o_mov (.const (.int .i64 0))) .nil)))))
  (.block 0 (.loop S120_1)))
  (.seq (.ops (.vd 19 (o_mov (.tmp 3)) (.vd 2 (o_mov (.tmp 19)) .nil)))
  .ret))))
def X120 : FnS := .code ⟨20, 0, .skip, [.tmp 2]⟩ S120
theorem x120 : okX Go.Proofs.Tryz.prog 120 X120 := okX_of (by kernel_rfl)
def S131 : SCode := (.seq (.ops (.vd 4 (o_mov (.const (.int .i64 0))) (.vd 5 (o_mov (.const (.int .i64 0))) .nil)))
  (.seq (.seq (.ops (.vd 8 (o_mov (.tmp 0)) (.cd 9 (fun F => c_call F 83 [(.tmp 8)]) (.vd 10 (o_not (.tmp 9)) .nil))))
  (.cond (.tmp 10)
   (.seq (.ops (.vd 4 (o_mov (.const (.int .i64 0))) (.vd 5 (o_mov (.const (.int .i64 5))) .nil)))
   .ret)
   .skip))
  (.seq (.seq (.ops (.vd 11 (o_mov (.tmp 1)) (.vd 12 (o_bin .lss (.tmp 11) (.const (.int .i64 0))) (.vd 13 (o_mov (.tmp 12)) (.vg 14 13 false (o_mov (.tmp 1)) (.vg 15 13 false (o_mov (.tmp 0)) (.vg 16 13 false (o_nilCheck (.tmp 15)) (.vg 17 13 false (o_field 1 (.tmp 16)) (.vg 18 13 false (o_load false 1 (.tmp 17)) (.vg 19 13 false (o_len (.tmp 18)) (.vg 20 13 false (o_bin .geq (.tmp 14) (.tmp 19)) (.vd 21 (o_pick (.tmp 13) (.const (.bool true)) (.tmp 20)) .nil))))))))))))
  (.cond (.tmp 21)
   (.seq (.ops (.vd 4 (o_mov (.const (.int .i64 0))) (.vd 5 (o_mov (.const (.int .i64 4))) .nil)))
   .ret)
   .skip))
  (.seq (.ops (.vd 23 (o_mov (.tmp 0)) (.vd 24 (o_nilCheck (.tmp 23)) (.vd 25 (o_field 2 (.tmp 24)) (.vd 26 (o_load false 1 (.tmp 25)) (.vd 27 (o_mov (.tmp 1)) (.vd 28 (o_bin .quo (.tmp 27) (.const (.int .i64 2))) (.vd 29 (o_bin .add (.tmp 28) (.const (.int .i64 1))) (.cd 30 (fun F => c_call F 189 [(.tmp 26), (.tmp 29), (.const (.int .i64 1))]) (.vd 22 (o_mov (.tmp 30)) (.vd 31 (o_extract (.tmp 22) 0) (.vd 32 (o_extract (.tmp 22) 1) (.vd 6 (o_mov (.tmp 31)) (.vd 7 (o_mov (.tmp 32)) .nil))))))))))))))
  (.seq (.seq (.ops (.vd 33 (o_mov (.tmp 7)) (.vd 34 (o_bin .neq (.tmp 33) (.const (.int .i64 0))) (.vd 35 (o_mov (.tmp 34)) (.vg 36 35 false (o_mov (.tmp 1)) (.vg 37 35 false (o_mov (.tmp 6)) (.vg 38 35 false (o_bin .mul (.const (.int .i64 2)) (.tmp 37)) (.vg 39 35 false (o_mov (.tmp 0)) (.vg 40 35 false (o_mov (.tmp 6)) (.vg 41 35 false (o_bin .mul (.const (.int .i64 2)) (.tmp 40)) (.c (some 42) (some (35, false)) (fun F => c_call F 90 [(.tmp 39), (.tmp 41)]) (.vg 43 35 false (o_bin .add (.tmp 38) (.tmp 42)) (.vg 44 35 false (o_bin .geq (.tmp 36) (.tmp 43)) (.vd 45 (o_pick (.tmp 35) (.const (.bool true)) (.tmp 44)) .nil))))))))))))))
  (.cond (.tmp 45)
   (.seq (.ops (.vd 4 (o_mov (.const (.int .i64 0))) (.vd 5 (o_mov (.const (.int .i64 4))) .nil)))
   .ret)
   .skip))
  (.seq (.ops (.vd 46 (o_mov (.tmp 6)) (.vd 47 (o_bin .mul (.const (.int .i64 2)) (.tmp 46)) (.vd 4 (o_mov (.tmp 47)) (.vd 5 (o_mov (.const (.int .i64 0))) .nil)))))
  .ret))))))
def X131 : FnS := .code ⟨48, 0, .skip, [.tmp 4, .tmp 5]⟩ S131
theorem x131 : okX Go.Proofs.Tryz.prog 131 X131 := okX_of (by kernel_rfl)
def S133_1 : SCode := .seq (.ops (.vd 9 (o_bin .lss (.tmp 8) (.tmp 7)) .nil))
    (.seq (.cond (.tmp 9)
     .skip
     (.exit 0))
    (.seq (.block 1 (.seq (.ops (.vd 10 (o_mov (.tmp 8)) (.vd 5 (o_mov (.tmp 10)) .nil)))
     (.seq (.ops (.vd 11 (o_mov (.tmp 1)) (.vd 12 (o_mov (.tmp 0)) (.vd 13 (o_mov (.tmp 5)) (.vd 14 (o_index 1 (.tmp 12) (.tmp 13)) (.vd 15 (o_load false 1 (.tmp 14)) (.cd 16 (fun F => c_callm F (.tmp 11) [(.tmp 15)] [(267, "dustcart/alloc.place", 272), (268, "dustcart/alloc.place", 277), (269, "dustcart/alloc.place", 285), (270, "dustcart/alloc.place", 286), (271, "dustcart/alloc.place", 290)]) .nil)))))))
     (.cond (.tmp 16)
      (.seq (.ops (.vd 17 (o_mov (.tmp 5)) (.vd 4 (o_mov (.tmp 17)) .nil)))
      .ret)
      .skip))))
    (.ops (.vd 18 (o_bin .add (.tmp 8) (.const (.int .i64 1))) (.vd 8 (o_mov (.tmp 18)) .nil)))))
def S133 : SCode := (.seq (.ops (.vd 4 (o_mov (.const (.int .i64 0))) .nil))
  (.seq (.seq (.ops (.vd 6 (o_mov (.tmp 0)) (.vd 7 (o_len (.tmp 6)) (.vd 8 (o_mov (.const (.int .i64 0))) .nil))))
  (.block 0 (.loop S133_1)))
  (.seq (.ops (.vd 4 (o_mov (.const (.int .i64 (-1)))) .nil))
  .ret)))
def X133 : FnS := .code ⟨19, 0, .skip, [.tmp 4]⟩ S133
theorem x133 : okX Go.Proofs.Tryz.prog 133 X133 := okX_of (by kernel_rfl)
def S134 : SCode := (.seq (.ops (.vd 4 (o_mov (.const (.bool false))) .nil))
  (.seq (.ops (.vd 5 (o_mov (.tmp 0)) (.cd 6 (fun F => c_call F 30 [(.tmp 5)]) (.vd 7 (o_bin .gtr (.tmp 6) (.const (.int .i64 0))) (.vd 8 (o_mov (.tmp 7)) (.vg 9 8 true (o_mov (.tmp 1)) (.c (some 10) (some (8, true)) (fun F => c_call F 100 [(.tmp 9)]) (.vg 11 8 true (o_bin .gtr (.tmp 10) (.const (.int .i64 0))) (.vd 12 (o_pick (.tmp 8) (.tmp 11) (.const (.bool false))) (.vd 4 (o_mov (.tmp 12)) .nil))))))))))
  .ret))
def X134 : FnS := .code ⟨13, 0, .skip, [.tmp 4]⟩ S134
theorem x134 : okX Go.Proofs.Tryz.prog 134 X134 := okX_of (by kernel_rfl)
def S135 : SCode := (.seq (.ops (.vd 2 (o_mov (.const (.nilPtr))) .nil))
  (.seq (.ops (.vd 6 (o_mov (.tmp 0)) (.cd 7 (fun F => c_call F 30 [(.tmp 6)]) (.vd 8 (o_bin .mul (.tmp 7) (.const (.int .i64 64))) (.vd 9 (o_bin .quo (.tmp 8) (.const (.int .i64 2))) (.cd 10 (fun F => c_call F 9 [(.tmp 9), (.const (.int .i64 1))]) (.vd 5 (o_mov (.tmp 10)) (.vd 11 (o_extract (.tmp 5) 0) (.vd 12 (o_extract (.tmp 5) 1) (.vd 3 (o_mov (.tmp 11)) (.vd 4 (o_mov (.tmp 12)) .nil)))))))))))
  (.seq (.ops (.vd 13 (o_mov (.tmp 3)) (.vd 2 (o_mov (.tmp 13)) .nil)))
  .ret)))
def X135 : FnS := .code ⟨14, 0, .skip, [.tmp 2]⟩ S135
theorem x135 : okX Go.Proofs.Tryz.prog 135 X135 := okX_of (by kernel_rfl)
def S136 : SCode := (.seq (.ops (.vd 4 (o_mov (.const (.bool false))) .nil))
  (.seq (.seq (.dregion [⟨⟨some 5, none, .mov (.tmp 0)⟩, 0, 0, 0⟩, ⟨⟨some 6, none, .nilCheck (.tmp 5)⟩, 1, 0, 0⟩, ⟨⟨some 7, none, .field 0 (.tmp 6)⟩, 2, 0, 0⟩, ⟨⟨some 8, none, .load false 1 (.tmp 7)⟩, 3, 1, 0⟩, ⟨⟨some 9, none, .mov (.tmp 0)⟩, 4, 0, 0⟩, ⟨⟨some 10, none, .nilCheck (.tmp 9)⟩, 5, 0, 0⟩, ⟨⟨some 11, none, .field 1 (.tmp 10)⟩, 6, 0, 0⟩, ⟨⟨some 12, none, .load false 1 (.tmp 11)⟩, 7, 1, 0⟩, ⟨⟨some 13, none, .mov (.tmp 1)⟩, 8, 0, 0⟩, ⟨⟨some 14, none, .call 190 [(.tmp 8), (.tmp 12), (.tmp 13)]⟩, 9, 3, 0⟩, ⟨⟨some 15, none, .not (.tmp 14)⟩, 10, 0, 1⟩])
  (.cond (.tmp 15)
   (.seq (.ops (.vd 4 (o_mov (.const (.bool false))) .nil))
   .ret)
   .skip))
  (.seq (.seq (.dregion [⟨⟨some 16, none, .mov (.tmp 0)⟩, 0, 0, 0⟩, ⟨⟨some 17, none, .nilCheck (.tmp 16)⟩, 1, 0, 0⟩, ⟨⟨some 18, none, .field 2 (.tmp 17)⟩, 2, 0, 0⟩, ⟨⟨some 19, none, .field 0 (.tmp 18)⟩, 3, 0, 0⟩, ⟨⟨some 20, none, .load false 1 (.tmp 19)⟩, 4, 1, 0⟩, ⟨⟨some 21, none, .len (.tmp 20)⟩, 5, 0, 0⟩, ⟨⟨some 22, none, .mov (.tmp 0)⟩, 6, 0, 0⟩, ⟨⟨some 23, none, .nilCheck (.tmp 22)⟩, 7, 0, 0⟩, ⟨⟨some 24, none, .field 4 (.tmp 23)⟩, 8, 0, 0⟩, ⟨⟨some 25, none, .load false 1 (.tmp 24)⟩, 9, 1, 0⟩, ⟨⟨some 26, none, .bin .eql (.tmp 21) (.tmp 25)⟩, 10, 0, 0⟩])
  (.cond (.tmp 26)
   (.seq (.ops (.vd 27 (o_mov (.tmp 0)) (.vd 28 (o_nilCheck (.tmp 27)) (.vd 29 (o_field 5 (.tmp 28)) (.v none none (o_store 1 (.tmp 29) (.const (.bool true))) .nil)))))
   (.seq (.ops (.vd 30 (o_mov (.tmp 0)) (.vd 31 (o_nilCheck (.tmp 30)) (.vd 32 (o_field 6 (.tmp 31)) (.vd 33 (o_field 1 (.tmp 32)) (.vd 34 (o_load false 1 (.tmp 33)) (.vd 35 (o_bin .add (.tmp 34) (.const (.int .i64 1))) (.vd 36 (o_nilCheck (.tmp 30)) (.vd 37 (o_field 6 (.tmp 36)) (.vd 38 (o_field 1 (.tmp 37)) (.v none none (o_store 1 (.tmp 38) (.tmp 35)) .nil)))))))))))
   (.seq (.ops (.vd 4 (o_mov (.const (.bool true))) .nil))
   .ret)))
   .skip))
  (.seq (.ops (.vd 39 (o_mov (.tmp 0)) (.vd 40 (o_nilCheck (.tmp 39)) (.vd 41 (o_field 2 (.tmp 40)) (.vd 42 (o_mov (.tmp 1)) (.cd 43 (fun F => c_call F 191 [(.tmp 41), (.tmp 42)]) .nil))))))
  (.seq (.dregion [⟨⟨some 44, none, .mov (.tmp 0)⟩, 0, 0, 0⟩, ⟨⟨some 45, none, .mov (.tmp 0)⟩, 1, 0, 0⟩, ⟨⟨some 46, none, .nilCheck (.tmp 45)⟩, 2, 0, 0⟩, ⟨⟨some 47, none, .field 6 (.tmp 46)⟩, 3, 0, 0⟩, ⟨⟨some 48, none, .field 4 (.tmp 47)⟩, 4, 0, 0⟩, ⟨⟨some 49, none, .load false 1 (.tmp 48)⟩, 5, 1, 0⟩, ⟨⟨some 50, none, .mov (.tmp 0)⟩, 6, 0, 0⟩, ⟨⟨some 51, none, .nilCheck (.tmp 50)⟩, 7, 0, 0⟩, ⟨⟨some 52, none, .field 2 (.tmp 51)⟩, 8, 0, 0⟩, ⟨⟨some 53, none, .field 0 (.tmp 52)⟩, 9, 0, 0⟩, ⟨⟨some 54, none, .load false 1 (.tmp 53)⟩, 10, 1, 0⟩, ⟨⟨some 55, none, .len (.tmp 54)⟩, 11, 0, 0⟩, ⟨⟨some 56, none, .mm true [(.tmp 49), (.tmp 55)]⟩, 12, 0, 0⟩, ⟨⟨some 57, none, .nilCheck (.tmp 44)⟩, 13, 0, 0⟩, ⟨⟨some 58, none, .field 6 (.tmp 57)⟩, 14, 0, 0⟩, ⟨⟨some 59, none, .field 4 (.tmp 58)⟩, 15, 0, 0⟩, ⟨⟨none, none, .store 1 (.tmp 59) (.tmp 56)⟩, 16, 3, 0⟩])
  (.seq (.ops (.vd 4 (o_mov (.const (.bool true))) .nil))
  .ret))))))
def X136 : FnS := .code ⟨60, 0, .skip, [.tmp 4]⟩ S136
theorem x136 : okX Go.Proofs.Tryz.prog 136 X136 := okX_of (by kernel_rfl)
def S137_1 : SCode := .seq (.ops (.vd 33 (o_bin .lss (.tmp 32) (.tmp 31)) .nil))
       (.seq (.cond (.tmp 33)
        .skip
        (.exit 2))
       (.seq (.block 3 (.seq (.ops (.vd 34 (o_index 1 (.tmp 30) (.tmp 32)) (.vd 35 (o_load false 1 (.tmp 34)) (.vd 3 (o_mov (.tmp 35)) .nil))))
        (.seq (.ops (.vd 36 (o_mov (.tmp 0)) (.vd 37 (o_mov (.tmp 3)) (.cd 38 (fun F => c_call F 193 [(.tmp 36), (.tmp 37)]) .nil))))
        (.ops (.vd 39 (o_mov (.tmp 0)) (.cd 40 (fun F => c_call F 192 [(.tmp 39)]) .nil))))))
       (.ops (.vd 41 (o_bin .add (.tmp 32) (.const (.int .i64 1))) (.vd 32 (o_mov (.tmp 41)) .nil)))))
def S137_2 : SCode := .seq (.seq (.ops (.vd 6 (o_mov (.tmp 0)) (.vd 7 (o_nilCheck (.tmp 6)) (.vd 8 (o_field 5 (.tmp 7)) (.vd 9 (o_load false 1 (.tmp 8)) .nil)))))
    (.cond (.tmp 9)
     .skip
     (.exit 0)))
    (.block 1 (.seq (.ops (.vd 10 (o_mov (.tmp 0)) (.vd 11 (o_nilCheck (.tmp 10)) (.vd 12 (o_field 5 (.tmp 11)) (.v none none (o_store 1 (.tmp 12) (.const (.bool false))) .nil)))))
     (.seq (.ops (.vd 13 (o_mov (.tmp 0)) (.vd 14 (o_nilCheck (.tmp 13)) (.vd 15 (o_field 6 (.tmp 14)) (.vd 16 (o_field 2 (.tmp 15)) (.vd 17 (o_load false 1 (.tmp 16)) (.vd 18 (o_bin .add (.tmp 17) (.const (.int .i64 1))) (.vd 19 (o_nilCheck (.tmp 13)) (.vd 20 (o_field 6 (.tmp 19)) (.vd 21 (o_field 2 (.tmp 20)) (.v none none (o_store 1 (.tmp 21) (.tmp 18)) .nil)))))))))))
     (.seq (.dregion [⟨⟨some 22, none, .mov (.tmp 0)⟩, 0, 0, 0⟩, ⟨⟨some 23, none, .nilCheck (.tmp 22)⟩, 1, 0, 0⟩, ⟨⟨some 24, none, .field 0 (.tmp 23)⟩, 2, 0, 0⟩, ⟨⟨some 25, none, .load false 1 (.tmp 24)⟩, 3, 1, 0⟩, ⟨⟨some 26, none, .mov (.tmp 0)⟩, 4, 0, 0⟩, ⟨⟨some 27, none, .nilCheck (.tmp 26)⟩, 5, 0, 0⟩, ⟨⟨some 28, none, .field 1 (.tmp 27)⟩, 6, 0, 0⟩, ⟨⟨some 29, none, .load false 1 (.tmp 28)⟩, 7, 1, 0⟩, ⟨⟨some 30, none, .call 143 [(.tmp 25), (.tmp 29)]⟩, 8, 3, 0⟩, ⟨⟨some 31, none, .len (.tmp 30)⟩, 9, 0, 1⟩, ⟨⟨some 32, none, .mov (.const (.int .i64 0))⟩, 10, 0, 0⟩])
     (.block 2 (.loop S137_1))))))
def S137 : SCode := (.seq (.ops (.vd 4 (o_mov (.tmp 0)) (.cd 5 (fun F => c_call F 192 [(.tmp 4)]) .nil)))
  (.block 0 (.loop S137_2)))
def X137 : FnS := .code ⟨42, 0, .skip, []⟩ S137
theorem x137 : okX Go.Proofs.Tryz.prog 137 X137 := okX_of (by kernel_rfl)
def S138_1 : SCode := .seq (.ops (.vd 26 (o_bin .lss (.tmp 25) (.tmp 24)) .nil))
    (.seq (.cond (.tmp 26)
     .skip
     (.exit 0))
    (.seq (.block 1 (.seq (.ops (.vd 27 (o_index 1 (.tmp 23) (.tmp 25)) (.vd 28 (o_load false 1 (.tmp 27)) (.vd 5 (o_mov (.tmp 28)) .nil))))
     (.ops (.vd 29 (o_mov (.tmp 0)) (.vd 30 (o_mov (.tmp 5)) (.cd 31 (fun F => c_call F 136 [(.tmp 29), (.tmp 30)]) (.vd 32 (o_mov (.tmp 31)) (.vg 33 32 false (o_mov (.tmp 3)) (.vd 34 (o_pick (.tmp 32) (.const (.bool true)) (.tmp 33)) (.vd 3 (o_mov (.tmp 34)) .nil))))))))))
    (.ops (.vd 35 (o_bin .add (.tmp 25) (.const (.int .i64 1))) (.vd 25 (o_mov (.tmp 35)) .nil)))))
def S138 : SCode := (.seq (.ops (.vd 2 (o_mov (.const (.bool false))) .nil))
  (.seq (.ops (.vd 6 (o_mov (.tmp 0)) (.vd 7 (o_nilCheck (.tmp 6)) (.vd 8 (o_field 6 (.tmp 7)) (.vd 9 (o_field 3 (.tmp 8)) (.vd 10 (o_load false 1 (.tmp 9)) (.vd 11 (o_bin .add (.tmp 10) (.const (.int .i64 1))) (.vd 12 (o_nilCheck (.tmp 6)) (.vd 13 (o_field 6 (.tmp 12)) (.vd 14 (o_field 3 (.tmp 13)) (.v none none (o_store 1 (.tmp 14) (.tmp 11)) .nil)))))))))))
  (.seq (.ops (.vd 3 (o_mov (.const (.bool false))) .nil))
  (.seq (.seq (.dregion [⟨⟨some 15, none, .mov (.tmp 0)⟩, 0, 0, 0⟩, ⟨⟨some 16, none, .nilCheck (.tmp 15)⟩, 1, 0, 0⟩, ⟨⟨some 17, none, .field 0 (.tmp 16)⟩, 2, 0, 0⟩, ⟨⟨some 18, none, .load false 1 (.tmp 17)⟩, 3, 1, 0⟩, ⟨⟨some 19, none, .mov (.tmp 0)⟩, 4, 0, 0⟩, ⟨⟨some 20, none, .nilCheck (.tmp 19)⟩, 5, 0, 0⟩, ⟨⟨some 21, none, .field 1 (.tmp 20)⟩, 6, 0, 0⟩, ⟨⟨some 22, none, .load false 1 (.tmp 21)⟩, 7, 1, 0⟩, ⟨⟨some 23, none, .call 194 [(.tmp 18), (.tmp 22)]⟩, 8, 3, 0⟩, ⟨⟨some 24, none, .len (.tmp 23)⟩, 9, 0, 1⟩, ⟨⟨some 25, none, .mov (.const (.int .i64 0))⟩, 10, 0, 0⟩])
  (.block 0 (.loop S138_1)))
  (.seq (.ops (.vd 36 (o_mov (.tmp 3)) (.vd 2 (o_mov (.tmp 36)) .nil)))
  .ret)))))
def X138 : FnS := .code ⟨37, 0, .skip, [.tmp 2]⟩ S138
theorem x138 : okX Go.Proofs.Tryz.prog 138 X138 := okX_of (by kernel_rfl)
def S139 : SCode := (.seq (.ops (.vd 3 (o_mov (.const (.bool false))) .nil))
  (.seq (.ops (.vd 4 (o_mov (.tmp 0)) (.vd 5 (o_bin .neq (.tmp 4) (.const (.int .i64 0))) (.vd 6 (o_mov (.tmp 5)) (.vg 7 6 true (o_load false 1 (.tmp 1)) (.vg 8 6 true (o_mov (.tmp 0)) (.c (some 9) (some (6, true)) (fun F => c_call F 44 [(.tmp 7), (.tmp 8)]) (.vg 10 6 true (o_not (.tmp 9)) (.vd 11 (o_pick (.tmp 6) (.tmp 10) (.const (.bool false))) (.vd 3 (o_mov (.tmp 11)) .nil))))))))))
  .ret))
def X139 : FnS := .code ⟨12, 0, .skip, [.tmp 3]⟩ S139
theorem x139 : okX Go.Proofs.Tryz.prog 139 X139 := okX_of (by kernel_rfl)
def S140 : SCode := (.seq (.ops (.vd 4 (o_mov (.const (.bool false))) .nil))
  (.seq (.ops (.vd 5 (o_mov (.tmp 0)) (.vd 6 (o_mov (.tmp 1)) (.cd 7 (fun F => c_call F 133 [(.tmp 5), (.tmp 6)]) (.vd 8 (o_bin .geq (.tmp 7) (.const (.int .i64 0))) (.vd 4 (o_mov (.tmp 8)) .nil))))))
  .ret))
def X140 : FnS := .code ⟨9, 0, .skip, [.tmp 4]⟩ S140
theorem x140 : okX Go.Proofs.Tryz.prog 140 X140 := okX_of (by kernel_rfl)
def S141 : SCode := (.seq (.ops (.vd 2 (o_mov (.const (.nilSlice))) .nil))
  (.seq (.seq (.ops (.vd 6 (o_mov (.tmp 0)) (.cd 7 (fun F => c_call F 166 [(.tmp 6)]) (.vd 8 (o_not (.tmp 7)) .nil))))
  (.cond (.tmp 8)
   (.seq (.ops (.vd 2 (o_mov (.const (.nilSlice))) .nil))
   .ret)
   .skip))
  (.seq (.ops (.vd 3 (o_new [.nilSlice]) .nil))
  (.seq (.seq (.ops (.vd 9 (o_mov (.tmp 0)) (.cd 10 (fun F => c_call F 170 [(.tmp 9)]) .nil)))
  (.block 0 (.rangeF (.tmp 10) [11, 12] 26 4512)))
  (.seq (.ops (.vd 25 (o_load false 1 (.tmp 3)) (.vd 2 (o_mov (.tmp 25)) .nil)))
  .ret)))))
def X141 : FnS := .code ⟨26, 0, .skip, [.tmp 2]⟩ S141
theorem x141 : okX Go.Proofs.Tryz.prog 141 X141 := okX_of (by kernel_rfl)
def S1004512 : SCode := (.ops (.vd 5 (o_mov (.tmp 12)) .nil))
def X1004512 : FnS := .code ⟨26, 1, .skip, []⟩ S1004512
theorem x1004512 : okX Go.Proofs.Tryz.prog 1004512 X1004512 := okX_of (by kernel_rfl)
def S1004513 : SCode := (.block 1 (.seq (.dregion [⟨⟨some 13, none, .load false 1 (.tmp 3)⟩, 0, 1, 0⟩, ⟨⟨some 14, none, .mov (.tmp 5)⟩, 1, 0, 0⟩, ⟨⟨some 15, none, .nilCheck (.tmp 14)⟩, 2, 0, 0⟩, ⟨⟨some 16, none, .load false 1 (.tmp 15)⟩, 3, 1, 0⟩, ⟨⟨some 17, none, .call 28 [(.tmp 13), (.tmp 16)]⟩, 4, 3, 0⟩, ⟨⟨some 18, none, .not (.tmp 17)⟩, 5, 0, 1⟩])
   (.cond (.tmp 18)
    (.dregion [⟨⟨some 19, none, .load false 1 (.tmp 3)⟩, 0, 1, 0⟩, ⟨⟨some 20, none, .mov (.tmp 5)⟩, 1, 0, 0⟩, ⟨⟨some 21, none, .nilCheck (.tmp 20)⟩, 2, 0, 0⟩, ⟨⟨some 22, none, .load false 1 (.tmp 21)⟩, 3, 1, 0⟩, ⟨⟨some 23, none, .buildSlice 1 [.int .i64 0] 1 [(0, 1, (.tmp 22))]⟩, 4, 0, 0⟩, ⟨⟨some 24, none, .append 1 (.tmp 19) (.tmp 23)⟩, 5, 3, 0⟩, ⟨⟨none, none, .store 1 (.tmp 3) (.tmp 24)⟩, 6, 3, 1⟩])
    .skip)))
def X1004513 : FnS := .code ⟨26, 2, .skip, []⟩ S1004513
theorem x1004513 : okX Go.Proofs.Tryz.prog 1004513 X1004513 := okX_of (by kernel_rfl)
def S142 : SCode := (.seq (.ops (.vd 4 (o_mov (.const (.bool false))) .nil))
  (.seq (.ops (.vd 5 (o_mov (.tmp 0)) (.cd 6 (fun F => c_call F 30 [(.tmp 5)]) (.vd 7 (o_bin .gtr (.tmp 6) (.const (.int .i64 0))) (.vd 8 (o_mov (.tmp 7)) (.vg 9 8 true (o_mov (.tmp 1)) (.c (some 10) (some (8, true)) (fun F => c_call F 31 [(.tmp 9)]) (.vg 11 8 true (o_bin .eql (.tmp 10) (.const (.int .i64 1))) (.vd 12 (o_pick (.tmp 8) (.tmp 11) (.const (.bool false))) (.vd 13 (o_mov (.tmp 12)) (.vg 14 13 true (o_mov (.tmp 1)) (.c (some 15) (some (13, true)) (fun F => c_call F 32 [(.tmp 14)]) (.vg 16 13 true (o_mov (.tmp 0)) (.c (some 17) (some (13, true)) (fun F => c_call F 30 [(.tmp 16)]) (.vg 18 13 true (o_bin .mul (.tmp 17) (.const (.int .i64 64))) (.vg 19 13 true (o_bin .quo (.tmp 18) (.const (.int .i64 2))) (.vg 20 13 true (o_bin .eql (.tmp 15) (.tmp 19)) (.vd 21 (o_pick (.tmp 13) (.tmp 20) (.const (.bool false))) (.vd 4 (o_mov (.tmp 21)) .nil)))))))))))))))))))
  .ret))
def X142 : FnS := .code ⟨22, 0, .skip, [.tmp 4]⟩ S142
theorem x142 : okX Go.Proofs.Tryz.prog 142 X142 := okX_of (by kernel_rfl)
def S143 : SCode := (.seq (.ops (.vd 2 (o_box (.tmp 0)) (.vd 3 (o_box (.tmp 1)) (.vd 4 (o_mov (.const (.nilSlice))) .nil))))
  (.seq (.ops (.vd 5 (o_load false 1 (.tmp 2)) (.cd 6 (fun F => c_call F 64 [(.tmp 5)]) (.vd 7 (o_mkfunc 195 [(.tmp 2), (.tmp 3)]) (.cd 8 (fun F => c_call F 63 [(.tmp 6), (.tmp 7)]) (.vd 4 (o_mov (.tmp 8)) .nil))))))
  .ret))
def X143 : FnS := .code ⟨9, 0, .skip, [.tmp 4]⟩ S143
theorem x143 : okX Go.Proofs.Tryz.prog 143 X143 := okX_of (by kernel_rfl)
def S144 : SCode := (.seq (.ops (.vd 1 (o_box (.tmp 0)) (.vd 2 (o_mov (.const (.int .i64 0))) .nil)))
  (.seq (.seq (.ops (.vd 3 (o_field 2 (.tmp 1)) (.vd 4 (o_load false 1 (.tmp 3)) .nil)))
  (.block 0 (.seq (.ops (.vd 6 (o_bin .eql (.tmp 4) (.const (.int .i64 1))) (.vd 5 (o_mov (.tmp 6)) .nil)))
   (.cond (.tmp 5)
    (.seq (.ops (.vd 2 (o_mov (.const (.int .i64 1))) .nil))
    .ret)
    (.seq (.ops (.vd 8 (o_bin .eql (.tmp 4) (.const (.int .i64 2))) (.vd 7 (o_mov (.tmp 8)) .nil)))
    (.cond (.tmp 7)
     (.seq (.ops (.vd 2 (o_mov (.const (.int .i64 2))) .nil))
     .ret)
     .skip))))))
  (.seq (.ops (.vd 2 (o_mov (.const (.int .i64 0))) .nil))
  .ret)))
def X144 : FnS := .code ⟨9, 0, .skip, [.tmp 2]⟩ S144
theorem x144 : okX Go.Proofs.Tryz.prog 144 X144 := okX_of (by kernel_rfl)
def S145 : SCode := (.seq (.ops (.vd 6 (o_mov (.const (.bool false))) .nil))
  (.seq (.ops (.vd 7 (o_mov (.tmp 0)) (.vd 8 (o_mov (.tmp 2)) (.cd 9 (fun F => c_call F 44 [(.tmp 7), (.tmp 8)]) (.vd 10 (o_mov (.tmp 9)) (.vg 11 10 true (o_mov (.tmp 1)) (.vg 12 10 true (o_mov (.tmp 2)) (.vg 13 10 true (o_bin .quo (.tmp 12) (.const (.int .i64 2))) (.c (some 14) (some (10, true)) (fun F => c_call F 99 [(.tmp 11), (.tmp 13)]) (.vg 15 10 true (o_bin .eql (.tmp 14) (.const (.int .i64 1))) (.vd 16 (o_pick (.tmp 10) (.tmp 15) (.const (.bool false))) (.vd 6 (o_mov (.tmp 16)) .nil))))))))))))
  .ret))
def X145 : FnS := .code ⟨17, 0, .skip, [.tmp 6]⟩ S145
theorem x145 : okX Go.Proofs.Tryz.prog 145 X145 := okX_of (by kernel_rfl)
def S146 : SCode := (.seq (.ops (.vd 4 (o_mov (.const (.bool false))) .nil))
  (.seq (.ops (.vd 5 (o_load false 1 (.tmp 1)) (.vd 6 (o_load false 1 (.tmp 2)) (.vd 7 (o_mov (.tmp 0)) (.cd 8 (fun F => c_call F 73 [(.tmp 5), (.tmp 6), (.tmp 7)]) (.vd 4 (o_mov (.tmp 8)) .nil))))))
  .ret))
def X146 : FnS := .code ⟨9, 0, .skip, [.tmp 4]⟩ S146
theorem x146 : okX Go.Proofs.Tryz.prog 146 X146 := okX_of (by kernel_rfl)
def S147 : SCode := (.ops (.vd 4 (o_mov (.tmp 0)) (.vd 5 (o_mov (.tmp 0)) (.vd 6 (o_len (.tmp 5)) (.vd 7 (o_mov (.tmp 1)) (.cd 8 (fun F => c_call F 196 [(.tmp 4), (.tmp 6), (.tmp 7)]) .nil))))))
def X147 : FnS := .code ⟨9, 0, .skip, []⟩ S147
theorem x147 : okX Go.Proofs.Tryz.prog 147 X147 := okX_of (by kernel_rfl)
def S148 : SCode := (.seq (.ops (.vd 2 (o_box (.tmp 0)) (.vd 3 (o_box (.tmp 1)) (.vd 4 (o_mov (.const (.int .i64 0))) .nil))))
  (.seq (.seq (.ops (.vd 5 (o_field 1 (.tmp 2)) (.vd 6 (o_load false 1 (.tmp 5)) (.vd 7 (o_field 1 (.tmp 3)) (.vd 8 (o_load false 1 (.tmp 7)) (.vd 9 (o_bin .neq (.tmp 6) (.tmp 8)) .nil))))))
  (.cond (.tmp 9)
   (.seq (.ops (.vd 10 (o_field 1 (.tmp 3)) (.vd 11 (o_load false 1 (.tmp 10)) (.vd 12 (o_field 1 (.tmp 2)) (.vd 13 (o_load false 1 (.tmp 12)) (.vd 14 (o_bin .sub (.tmp 11) (.tmp 13)) (.vd 4 (o_mov (.tmp 14)) .nil)))))))
   .ret)
   .skip))
  (.seq (.ops (.vd 15 (o_field 2 (.tmp 2)) (.vd 16 (o_load false 1 (.tmp 15)) (.vd 17 (o_field 2 (.tmp 3)) (.vd 18 (o_load false 1 (.tmp 17)) (.vd 19 (o_bin .sub (.tmp 16) (.tmp 18)) (.vd 4 (o_mov (.tmp 19)) .nil)))))))
  .ret)))
def X148 : FnS := .code ⟨20, 0, .skip, [.tmp 4]⟩ S148
theorem x148 : okX Go.Proofs.Tryz.prog 148 X148 := okX_of (by kernel_rfl)
def S149_1 : SCode := .block 1 (.seq (.ops (.vd 19 (o_mov (.tmp 2)) (.vd 20 (o_mov (.tmp 1)) (.vd 21 (o_bin .sub (.tmp 19) (.tmp 20)) (.vd 10 (o_mov (.tmp 21)) .nil)))))
     (.seq (.seq (.ops (.vd 22 (o_mov (.tmp 10)) (.vd 23 (o_bin .leq (.tmp 22) (.const (.int .i64 12))) .nil)))
     (.cond (.tmp 23)
      (.seq (.ops (.vd 24 (o_mov (.tmp 0)) (.vd 25 (o_mov (.tmp 1)) (.vd 26 (o_mov (.tmp 2)) (.cd 27 (fun F => c_call F 197 [(.tmp 24), (.tmp 25), (.tmp 26)]) .nil)))))
      .ret)
      .skip))
     (.seq (.seq (.ops (.vd 28 (o_mov (.tmp 3)) (.vd 29 (o_bin .eql (.tmp 28) (.const (.int .i64 0))) .nil)))
     (.cond (.tmp 29)
      (.seq (.ops (.vd 30 (o_mov (.tmp 0)) (.vd 31 (o_mov (.tmp 1)) (.vd 32 (o_mov (.tmp 2)) (.cd 33 (fun F => c_call F 198 [(.tmp 30), (.tmp 31), (.tmp 32)]) .nil)))))
      .ret)
      .skip))
     (.seq (.seq (.ops (.vd 34 (o_mov (.tmp 8)) (.vd 35 (o_not (.tmp 34)) .nil)))
     (.cond (.tmp 35)
      (.seq (.ops (.vd 36 (o_mov (.tmp 0)) (.vd 37 (o_mov (.tmp 1)) (.vd 38 (o_mov (.tmp 2)) (.cd 39 (fun F => c_call F 199 [(.tmp 36), (.tmp 37), (.tmp 38)]) .nil)))))
      (.ops (.vd 40 (o_mov (.tmp 3)) (.vd 41 (o_bin .sub (.tmp 40) (.const (.int .i64 1))) (.vd 3 (o_mov (.tmp 41)) .nil)))))
      .skip))
     (.seq (.ops (.vd 43 (o_mov (.tmp 0)) (.vd 44 (o_mov (.tmp 1)) (.vd 45 (o_mov (.tmp 2)) (.cd 46 (fun F => c_call F 200 [(.tmp 43), (.tmp 44), (.tmp 45)]) (.vd 42 (o_mov (.tmp 46)) (.vd 47 (o_extract (.tmp 42) 0) (.vd 48 (o_extract (.tmp 42) 1) (.vd 11 (o_mov (.tmp 47)) (.vd 12 (o_mov (.tmp 48)) .nil))))))))))
     (.seq (.seq (.ops (.vd 49 (o_mov (.tmp 12)) (.vd 50 (o_bin .eql (.tmp 49) (.const (.int .i64 2))) .nil)))
     (.cond (.tmp 50)
      (.seq (.ops (.vd 51 (o_mov (.tmp 0)) (.vd 52 (o_mov (.tmp 1)) (.vd 53 (o_mov (.tmp 2)) (.cd 54 (fun F => c_call F 201 [(.tmp 51), (.tmp 52), (.tmp 53)]) .nil)))))
      (.seq (.ops (.vd 55 (o_mov (.tmp 2)) (.vd 56 (o_bin .sub (.tmp 55) (.const (.int .i64 1))) (.vd 57 (o_mov (.tmp 11)) (.vd 58 (o_mov (.tmp 1)) (.vd 59 (o_bin .sub (.tmp 57) (.tmp 58)) (.vd 60 (o_bin .sub (.tmp 56) (.tmp 59)) (.vd 11 (o_mov (.tmp 60)) .nil))))))))
      (.ops (.vd 12 (o_mov (.const (.int .i64 1))) .nil))))
      .skip))
     (.seq (.seq (.ops (.vd 61 (o_mov (.tmp 8)) (.vd 62 (o_mov (.tmp 61)) (.vg 63 62 true (o_mov (.tmp 9)) (.vd 64 (o_pick (.tmp 62) (.tmp 63) (.const (.bool false))) (.vd 65 (o_mov (.tmp 64)) (.vg 66 65 true (o_mov (.tmp 12)) (.vg 67 65 true (o_bin .eql (.tmp 66) (.const (.int .i64 1))) (.vd 68 (o_pick (.tmp 65) (.tmp 67) (.const (.bool false))) .nil)))))))))
     (.cond (.tmp 68)
      (.seq (.ops (.vd 69 (o_mov (.tmp 0)) (.vd 70 (o_mov (.tmp 1)) (.vd 71 (o_mov (.tmp 2)) (.cd 72 (fun F => c_call F 202 [(.tmp 69), (.tmp 70), (.tmp 71)]) .nil)))))
      (.cond (.tmp 72)
       .ret
       .skip))
      .skip))
     (.seq (.seq (.dregion [⟨⟨some 73, none, .mov (.tmp 1)⟩, 0, 0, 0⟩, ⟨⟨some 74, none, .bin .gtr (.tmp 73) (.const (.int .i64 0))⟩, 1, 0, 0⟩, ⟨⟨some 75, none, .mov (.tmp 74)⟩, 2, 0, 0⟩, ⟨⟨some 76, some (75, true), .mov (.tmp 0)⟩, 3, 0, 0⟩, ⟨⟨some 77, some (75, true), .mov (.tmp 1)⟩, 4, 0, 0⟩, ⟨⟨some 78, some (75, true), .bin .sub (.tmp 77) (.const (.int .i64 1))⟩, 5, 0, 0⟩, ⟨⟨some 79, some (75, true), .index 1 (.tmp 76) (.tmp 78)⟩, 6, 0, 0⟩, ⟨⟨some 80, some (75, true), .load false 1 (.tmp 79)⟩, 7, 1, 0⟩, ⟨⟨some 81, some (75, true), .mov (.tmp 0)⟩, 8, 0, 0⟩, ⟨⟨some 82, some (75, true), .mov (.tmp 11)⟩, 9, 0, 0⟩, ⟨⟨some 83, some (75, true), .index 1 (.tmp 81) (.tmp 82)⟩, 10, 0, 0⟩, ⟨⟨some 84, some (75, true), .load false 1 (.tmp 83)⟩, 11, 1, 0⟩, ⟨⟨some 85, some (75, true), .call 203 [(.tmp 80), (.tmp 84)]⟩, 12, 3, 0⟩, ⟨⟨some 86, some (75, true), .not (.tmp 85)⟩, 13, 0, 1⟩, ⟨⟨some 87, none, .pick (.tmp 75) (.tmp 86) (.const (.bool false))⟩, 14, 0, 1⟩])
     (.cond (.tmp 87)
      (.seq (.ops (.vd 88 (o_mov (.tmp 0)) (.vd 89 (o_mov (.tmp 1)) (.vd 90 (o_mov (.tmp 2)) (.vd 91 (o_mov (.tmp 11)) (.cd 92 (fun F => c_call F 204 [(.tmp 88), (.tmp 89), (.tmp 90), (.tmp 91)]) (.vd 13 (o_mov (.tmp 92)) .nil)))))))
      (.seq (.ops (.vd 93 (o_mov (.tmp 13)) (.vd 1 (o_mov (.tmp 93)) .nil)))
      (.exit 1)))
      .skip))
     (.seq (.ops (.vd 95 (o_mov (.tmp 0)) (.vd 96 (o_mov (.tmp 1)) (.vd 97 (o_mov (.tmp 2)) (.vd 98 (o_mov (.tmp 11)) (.cd 99 (fun F => c_call F 205 [(.tmp 95), (.tmp 96), (.tmp 97), (.tmp 98)]) (.vd 94 (o_mov (.tmp 99)) (.vd 100 (o_extract (.tmp 94) 0) (.vd 101 (o_extract (.tmp 94) 1) (.vd 14 (o_mov (.tmp 100)) (.vd 15 (o_mov (.tmp 101)) .nil)))))))))))
     (.seq (.ops (.vd 102 (o_mov (.tmp 15)) (.vd 9 (o_mov (.tmp 102)) .nil)))
     (.seq (.ops (.vd 103 (o_mov (.tmp 14)) (.vd 104 (o_mov (.tmp 1)) (.vd 105 (o_bin .sub (.tmp 103) (.tmp 104)) (.vd 106 (o_mov (.tmp 2)) (.vd 107 (o_mov (.tmp 14)) (.vd 108 (o_bin .sub (.tmp 106) (.tmp 107)) (.vd 16 (o_mov (.tmp 105)) (.vd 17 (o_mov (.tmp 108)) .nil)))))))))
     (.seq (.ops (.vd 109 (o_mov (.tmp 10)) (.vd 110 (o_bin .quo (.tmp 109) (.const (.int .i64 8))) (.vd 18 (o_mov (.tmp 110)) .nil))))
     (.seq (.ops (.vd 111 (o_mov (.tmp 16)) (.vd 112 (o_mov (.tmp 17)) (.vd 113 (o_bin .lss (.tmp 111) (.tmp 112)) .nil))))
     (.cond (.tmp 113)
      (.seq (.ops (.vd 114 (o_mov (.tmp 16)) (.vd 115 (o_mov (.tmp 18)) (.vd 116 (o_bin .geq (.tmp 114) (.tmp 115)) (.vd 8 (o_mov (.tmp 116)) .nil)))))
      (.seq (.ops (.vd 117 (o_mov (.tmp 0)) (.vd 118 (o_mov (.tmp 1)) (.vd 119 (o_mov (.tmp 14)) (.vd 120 (o_mov (.tmp 3)) (.cd 121 (fun F => c_call F 149 [(.tmp 117), (.tmp 118), (.tmp 119), (.tmp 120)]) .nil))))))
      (.ops (.vd 122 (o_mov (.tmp 14)) (.vd 123 (o_bin .add (.tmp 122) (.const (.int .i64 1))) (.vd 1 (o_mov (.tmp 123)) .nil))))))
      (.seq (.ops (.vd 124 (o_mov (.tmp 17)) (.vd 125 (o_mov (.tmp 18)) (.vd 126 (o_bin .geq (.tmp 124) (.tmp 125)) (.vd 8 (o_mov (.tmp 126)) .nil)))))
      (.seq (.ops (.vd 127 (o_mov (.tmp 0)) (.vd 128 (o_mov (.tmp 14)) (.vd 129 (o_bin .add (.tmp 128) (.const (.int .i64 1))) (.vd 130 (o_mov (.tmp 2)) (.vd 131 (o_mov (.tmp 3)) (.cd 132 (fun F => c_call F 149 [(.tmp 127), (.tmp 129), (.tmp 130), (.tmp 131)]) .nil)))))))
      (.ops (.vd 133 (o_mov (.tmp 14)) (.vd 2 (o_mov (.tmp 133)) .nil)))))))))))))))))))
def S149 : SCode := (.seq (.ops (.vd 8 (o_mov (.const (.bool true))) .nil))
  (.seq (.ops (.vd 9 (o_mov (.const (.bool true))) .nil))
  (.block 0 (.loop S149_1))))
def X149 : FnS := .code ⟨134, 0, .skip, []⟩ S149
theorem x149 : okX Go.Proofs.Tryz.prog 149 X149 := okX_of (by kernel_rfl)
def S150 : SCode := (.seq (.ops (.vd 2 (o_mov (.const (.int .i64 0))) .nil))
  (.seq (.cond (.const (.bool false))
   (.seq (.ops (.vd 3 (o_mov (.tmp 0)) (.vd 4 (o_conv .u32 (.tmp 3)) (.cd 5 (fun F => c_call F 206 [(.tmp 4)]) (.vd 2 (o_mov (.tmp 5)) .nil)))))
   .ret)
   .skip)
  (.seq (.ops (.vd 6 (o_mov (.tmp 0)) (.cd 7 (fun F => c_call F 207 [(.tmp 6)]) (.vd 2 (o_mov (.tmp 7)) .nil))))
  .ret)))
def X150 : FnS := .code ⟨8, 0, .skip, [.tmp 2]⟩ S150
theorem x150 : okX Go.Proofs.Tryz.prog 150 X150 := okX_of (by kernel_rfl)
def S151 : SCode := (.seq (.ops (.vd 6 (o_mov (.const (.int .i64 0))) (.vd 7 (o_mov (.const (.bool false))) .nil)))
  (.seq (.seq (.ops (.vd 11 (o_mov (.tmp 0)) (.vd 12 (o_nilCheck (.tmp 11)) (.vd 13 (o_field 2 (.tmp 12)) (.vd 14 (o_load false 1 (.tmp 13)) (.vd 15 (o_mov (.tmp 1)) (.vd 16 (o_mapGet true .i64 (.int .i64 0) (.tmp 14) (.tmp 15)) (.vd 10 (o_mov (.tmp 16)) (.vd 17 (o_extract (.tmp 10) 0) (.vd 18 (o_extract (.tmp 10) 1) (.vd 8 (o_mov (.tmp 17)) (.vd 9 (o_mov (.tmp 18)) .nil))))))))))))
  (.seq (.ops (.vd 19 (o_mov (.tmp 9)) (.vd 20 (o_mov (.tmp 19)) (.vg 21 20 true (o_mov (.tmp 8)) (.vg 22 20 true (o_bin .rem (.tmp 21) (.const (.int .i64 8))) (.vg 23 20 true (o_bin .neq (.tmp 22) (.const (.int .i64 0))) (.vd 24 (o_pick (.tmp 20) (.tmp 23) (.const (.bool false))) (.vd 25 (o_mov (.tmp 24)) (.vg 26 25 true (o_mov (.tmp 8)) (.vg 27 25 true (o_bin .rem (.tmp 26) (.const (.int .i64 8))) (.vg 28 25 true (o_mov (.tmp 2)) (.vg 29 25 true (o_bin .add (.tmp 27) (.tmp 28)) (.vg 30 25 true (o_bin .leq (.tmp 29) (.const (.int .i64 8))) (.vd 31 (o_pick (.tmp 25) (.tmp 30) (.const (.bool false))) .nil))))))))))))))
  (.cond (.tmp 31)
   (.seq (.ops (.vd 32 (o_mov (.tmp 8)) (.vd 6 (o_mov (.tmp 32)) (.vd 7 (o_mov (.const (.bool true))) .nil))))
   .ret)
   .skip)))
  (.seq (.ops (.vd 33 (o_mov (.tmp 0)) (.vd 34 (o_mov (.tmp 1)) (.vd 35 (o_mov (.tmp 2)) (.cd 36 (fun F => c_call F 208 [(.tmp 33), (.tmp 34), (.tmp 35)]) (.vd 37 (o_extract (.tmp 36) 0) (.vd 38 (o_extract (.tmp 36) 1) (.vd 6 (o_mov (.tmp 37)) (.vd 7 (o_mov (.tmp 38)) .nil)))))))))
  .ret)))
def X151 : FnS := .code ⟨39, 0, .skip, [.tmp 6, .tmp 7]⟩ S151
theorem x151 : okX Go.Proofs.Tryz.prog 151 X151 := okX_of (by kernel_rfl)
def S152_1 : SCode := .seq (.seq (.ops (.vd 13 (o_mov (.tmp 8)) (.vd 14 (o_mov (.tmp 7)) (.vd 15 (o_mov (.tmp 2)) (.vd 16 (o_bin .add (.tmp 14) (.tmp 15)) (.vd 17 (o_bin .sub (.tmp 16) (.const (.int .i64 1))) (.vd 18 (o_bin .quo (.tmp 17) (.const (.int .i64 8))) (.vd 19 (o_bin .leq (.tmp 13) (.tmp 18)) .nil))))))))
    (.cond (.tmp 19)
     .skip
     (.exit 0)))
    (.seq (.block 1 (.ops (.vd 22 (o_mov (.tmp 8)) (.vd 23 (o_indexA 8 1 (.tmp 3) (.tmp 22)) (.v none none (o_store 1 (.tmp 23) (.const (.bool true))) .nil)))))
    (.ops (.vd 20 (o_mov (.tmp 8)) (.vd 21 (o_bin .add (.tmp 20) (.const (.int .i64 1))) (.vd 8 (o_mov (.tmp 21)) .nil)))))
def S152 : SCode := (.seq (.ops (.vd 3 (o_box (.tmp 0)) (.vd 6 (o_new [.bool false, .bool false, .bool false, .bool false, .bool false, .bool false, .bool false, .bool false]) .nil)))
  (.seq (.ops (.vd 9 (o_mov (.tmp 1)) (.vd 10 (o_bin .rem (.tmp 9) (.const (.int .i64 64))) (.vd 7 (o_mov (.tmp 10)) .nil))))
  (.seq (.seq (.ops (.vd 11 (o_mov (.tmp 7)) (.vd 12 (o_bin .quo (.tmp 11) (.const (.int .i64 8))) (.vd 8 (o_mov (.tmp 12)) .nil))))
  (.block 0 (.loop S152_1)))
  (.seq (.ops (.vd 24 (o_load true 8 (.tmp 3)) (.v none none (o_store 8 (.tmp 6) (.tmp 24)) .nil)))
  .ret))))
def X152 : FnS := .code ⟨25, 0, .skip, [.cell 6 true 8]⟩ S152
theorem x152 : okX Go.Proofs.Tryz.prog 152 X152 := okX_of (by kernel_rfl)
def S153 : SCode := (.seq (.ops (.vd 4 (o_mov (.const (.int .i64 0))) .nil))
  (.seq (.block 0 (.seq (.ops (.vd 6 (o_mov (.tmp 0)) (.cd 7 (fun F => c_call F 83 [(.tmp 6)]) (.vd 8 (o_not (.tmp 7)) (.vd 5 (o_mov (.tmp 8)) .nil)))))
   (.cond (.tmp 5)
    (.seq (.ops (.vd 4 (o_mov (.const (.int .i64 5))) .nil))
    .ret)
    (.seq (.ops (.vd 10 (o_mov (.tmp 0)) (.vd 11 (o_mov (.tmp 1)) (.cd 12 (fun F => c_call F 44 [(.tmp 10), (.tmp 11)]) (.vd 13 (o_not (.tmp 12)) (.vd 9 (o_mov (.tmp 13)) .nil))))))
    (.cond (.tmp 9)
     (.seq (.ops (.vd 4 (o_mov (.const (.int .i64 4))) .nil))
     .ret)
     .skip)))))
  (.seq (.ops (.vd 4 (o_mov (.const (.int .i64 0))) .nil))
  .ret)))
def X153 : FnS := .code ⟨14, 0, .skip, [.tmp 4]⟩ S153
theorem x153 : okX Go.Proofs.Tryz.prog 153 X153 := okX_of (by kernel_rfl)
def S154 : SCode := (.ops (.vd 6 (o_mov (.tmp 0)) (.vd 7 (o_nilCheck (.tmp 6)) (.vd 8 (o_field 1 (.tmp 7)) (.vd 9 (o_load false 1 (.tmp 8)) (.vd 10 (o_mov (.tmp 1)) (.vd 11 (o_mov (.tmp 1)) (.vd 12 (o_mov (.tmp 2)) (.vd 13 (o_bin .add (.tmp 11) (.tmp 12)) (.vd 14 (o_slice 1 (.tmp 9) (some (.tmp 10)) (some (.tmp 13)) none) (.v none none (o_clear [.int .i64 0] (.tmp 14)) .nil)))))))))))
def X154 : FnS := .code ⟨15, 0, .skip, []⟩ S154
theorem x154 : okX Go.Proofs.Tryz.prog 154 X154 := okX_of (by kernel_rfl)
def S158 : SCode := (.seq (.ops (.vd 4 (o_mov (.const (.bool false))) .nil))
  (.seq (.ops (.vd 5 (o_mov (.tmp 0)) (.cd 6 (fun F => c_call F 83 [(.tmp 5)]) (.vd 7 (o_mov (.tmp 6)) (.vg 8 7 true (o_mov (.tmp 1)) (.vg 9 7 true (o_bin .geq (.tmp 8) (.const (.int .i64 1))) (.vd 10 (o_pick (.tmp 7) (.tmp 9) (.const (.bool false))) (.vd 11 (o_mov (.tmp 10)) (.vg 12 11 true (o_mov (.tmp 1)) (.vg 13 11 true (o_mov (.tmp 0)) (.vg 14 11 true (o_nilCheck (.tmp 13)) (.vg 15 11 true (o_field 0 (.tmp 14)) (.vg 16 11 true (o_load false 1 (.tmp 15)) (.vg 17 11 true (o_len (.tmp 16)) (.vg 18 11 true (o_bin .lss (.tmp 12) (.tmp 17)) (.vd 19 (o_pick (.tmp 11) (.tmp 18) (.const (.bool false))) (.vd 4 (o_mov (.tmp 19)) .nil)))))))))))))))))
  .ret))
def X158 : FnS := .code ⟨20, 0, .skip, [.tmp 4]⟩ S158
theorem x158 : okX Go.Proofs.Tryz.prog 158 X158 := okX_of (by kernel_rfl)
def S159 : SCode := (.seq (.ops (.vd 2 (o_new [.int .i64 0, .int .i64 0, .int .i64 0]) .nil))
  (.seq (.ops (.vd 3 (o_mov (.tmp 0)) (.vd 4 (o_bin .rem (.tmp 3) (.const (.int .i64 16))) (.vd 5 (o_mov (.tmp 0)) (.vd 6 (o_bin .rem (.tmp 5) (.const (.int .i64 4096))) (.vd 7 (o_bin .quo (.tmp 6) (.const (.int .i64 16))) (.vd 8 (o_mov (.tmp 0)) (.vd 9 (o_bin .quo (.tmp 8) (.const (.int .i64 4096))) (.vd 10 (o_build [.int .i64 0, .int .i64 0, .int .i64 0] [(0, 1, (.tmp 4)), (1, 1, (.tmp 7)), (2, 1, (.tmp 9))]) (.v none none (o_store 3 (.tmp 2) (.tmp 10)) .nil))))))))))
  .ret))
def X159 : FnS := .code ⟨11, 0, .skip, [.cell 2 true 3]⟩ S159
theorem x159 : okX Go.Proofs.Tryz.prog 159 X159 := okX_of (by kernel_rfl)
def S160 : SCode := (.seq (.ops (.vd 2 (o_mov (.const (.bool false))) .nil))
  (.seq (.ops (.vd 3 (o_mov (.tmp 0)) (.vd 4 (o_bin .geq (.tmp 3) (.const (.int .i64 0))) (.vd 5 (o_mov (.tmp 4)) (.vg 6 5 true (o_mov (.tmp 0)) (.vg 7 5 true (o_bin .lss (.tmp 6) (.const (.int .i64 8))) (.vd 8 (o_pick (.tmp 5) (.tmp 7) (.const (.bool false))) (.vd 2 (o_mov (.tmp 8)) .nil))))))))
  .ret))
def X160 : FnS := .code ⟨9, 0, .skip, [.tmp 2]⟩ S160
theorem x160 : okX Go.Proofs.Tryz.prog 160 X160 := okX_of (by kernel_rfl)
def S161 : SCode := (.seq (.ops (.vd 4 (o_mov (.const (.bool false))) .nil))
  (.seq (.ops (.vd 5 (o_mov (.tmp 0)) (.vd 6 (o_mov (.tmp 1)) (.cd 7 (fun F => c_call F 210 [(.tmp 5), (.tmp 6)]) (.vd 8 (o_bin .geq (.tmp 7) (.const (.int .i64 0))) (.vd 4 (o_mov (.tmp 8)) .nil))))))
  .ret))
def X161 : FnS := .code ⟨9, 0, .skip, [.tmp 4]⟩ S161
theorem x161 : okX Go.Proofs.Tryz.prog 161 X161 := okX_of (by kernel_rfl)
def S162 : SCode := (.seq (.ops (.vd 1 (o_box (.tmp 0)) (.vd 2 (o_mov (.const (.bool false))) .nil)))
  (.seq (.ops (.vd 3 (o_load true 2 (.tmp 1)) (.vd 4 (o_build [.int .i64 0, .int .i64 0] []) (.vd 5 (o_eqs true 2 (.tmp 3) (.tmp 4)) (.vd 2 (o_mov (.tmp 5)) .nil)))))
  .ret))
def X162 : FnS := .code ⟨6, 0, .skip, [.tmp 2]⟩ S162
theorem x162 : okX Go.Proofs.Tryz.prog 162 X162 := okX_of (by kernel_rfl)
def S163_1 : SCode := .seq (.seq (.ops (.vd 6 (o_mov (.tmp 0)) (.vd 7 (o_nilCheck (.tmp 6)) (.vd 8 (o_field 0 (.tmp 7)) (.vd 9 (o_load false 1 (.tmp 8)) (.vd 10 (o_mov (.tmp 1)) (.vd 11 (o_index 2 (.tmp 9) (.tmp 10)) (.vd 12 (o_field 0 (.tmp 11)) (.vd 13 (o_load false 1 (.tmp 12)) (.vd 14 (o_bin .eql (.tmp 13) (.const (.int .i64 2))) (.vd 15 (o_mov (.tmp 14)) (.vg 16 15 true (o_mov (.tmp 1)) (.vg 17 15 true (o_mov (.tmp 5)) (.vg 18 15 true (o_bin .add (.tmp 16) (.tmp 17)) (.vg 19 15 true (o_mov (.tmp 0)) (.vg 20 15 true (o_nilCheck (.tmp 19)) (.vg 21 15 true (o_field 0 (.tmp 20)) (.vg 22 15 true (o_load false 1 (.tmp 21)) (.vg 23 15 true (o_len (.tmp 22)) (.vg 24 15 true (o_bin .lss (.tmp 18) (.tmp 23)) (.vd 25 (o_pick (.tmp 15) (.tmp 24) (.const (.bool false))) (.vd 26 (o_mov (.tmp 25)) (.vg 27 26 true (o_mov (.tmp 0)) (.vg 28 26 true (o_nilCheck (.tmp 27)) (.vg 29 26 true (o_field 0 (.tmp 28)) (.vg 30 26 true (o_load false 1 (.tmp 29)) (.vg 31 26 true (o_mov (.tmp 1)) (.vg 32 26 true (o_mov (.tmp 5)) (.vg 33 26 true (o_bin .add (.tmp 31) (.tmp 32)) (.vg 34 26 true (o_index 2 (.tmp 30) (.tmp 33)) (.vg 35 26 true (o_field 0 (.tmp 34)) (.vg 36 26 true (o_load false 1 (.tmp 35)) (.vg 37 26 true (o_bin .eql (.tmp 36) (.const (.int .i64 3))) (.vd 38 (o_pick (.tmp 26) (.tmp 37) (.const (.bool false))) .nil))))))))))))))))))))))))))))))))))
    (.cond (.tmp 38)
     .skip
     (.exit 0)))
    (.block 1 (.ops (.vd 39 (o_mov (.tmp 5)) (.vd 40 (o_bin .add (.tmp 39) (.const (.int .i64 1))) (.vd 5 (o_mov (.tmp 40)) .nil)))))
def S163 : SCode := (.seq (.ops (.vd 4 (o_mov (.const (.int .i64 0))) .nil))
  (.seq (.ops (.vd 5 (o_mov (.const (.int .i64 1))) .nil))
  (.seq (.block 0 (.loop S163_1))
  (.seq (.ops (.vd 41 (o_mov (.tmp 5)) (.vd 4 (o_mov (.tmp 41)) .nil)))
  .ret))))
def X163 : FnS := .code ⟨42, 0, .skip, [.tmp 4]⟩ S163
theorem x163 : okX Go.Proofs.Tryz.prog 163 X163 := okX_of (by kernel_rfl)
def S164 : SCode := (.seq (.ops (.vd 3 (o_box (.tmp 0)) (.vd 6 (o_mov (.const (.int .i64 0))) .nil)))
  (.seq (.block 0 (.seq (.ops (.vd 8 (o_load false 1 (.tmp 3)) (.cd 9 (fun F => c_call F 84 [(.tmp 8)]) (.vd 10 (o_not (.tmp 9)) (.vd 7 (o_mov (.tmp 10)) .nil)))))
   (.cond (.tmp 7)
    (.seq (.ops (.vd 6 (o_mov (.const (.int .i64 5))) .nil))
    .ret)
    (.seq (.ops (.vd 12 (o_load false 1 (.tmp 3)) (.vd 13 (o_mov (.tmp 1)) (.cd 14 (fun F => c_call F 168 [(.tmp 12), (.tmp 13)]) (.vd 15 (o_not (.tmp 14)) (.vd 16 (o_mov (.tmp 15)) (.vg 17 16 false (o_mov (.tmp 2)) (.vg 18 16 false (o_mkfunc 211 [(.tmp 3)]) (.c (some 19) (some (16, false)) (fun F => c_call F 140 [(.tmp 17), (.tmp 18)]) (.vd 20 (o_pick (.tmp 16) (.const (.bool true)) (.tmp 19)) (.vd 11 (o_mov (.tmp 20)) .nil)))))))))))
    (.cond (.tmp 11)
     (.seq (.ops (.vd 6 (o_mov (.const (.int .i64 1))) .nil))
     .ret)
     .skip)))))
  (.seq (.ops (.vd 6 (o_mov (.const (.int .i64 0))) .nil))
  .ret)))
def X164 : FnS := .code ⟨21, 0, .skip, [.tmp 6]⟩ S164
theorem x164 : okX Go.Proofs.Tryz.prog 164 X164 := okX_of (by kernel_rfl)
def S165 : SCode := (.seq (.ops (.vd 8 (o_mov (.tmp 1)) (.vd 9 (o_mov (.tmp 0)) (.vd 10 (o_nilCheck (.tmp 9)) (.vd 11 (o_field 1 (.tmp 10)) (.vd 12 (o_load false 1 (.tmp 11)) (.vd 13 (o_bin .mul (.tmp 8) (.tmp 12)) (.vd 6 (o_mov (.tmp 13)) .nil))))))))
  (.seq (.ops (.vd 14 (o_mov (.tmp 0)) (.vd 15 (o_nilCheck (.tmp 14)) (.vd 16 (o_field 2 (.tmp 15)) (.vd 17 (o_load false 1 (.tmp 16)) (.vd 18 (o_mov (.tmp 6)) (.vd 19 (o_bin .quo (.tmp 18) (.const (.int .i64 64))) (.vd 20 (o_index 1 (.tmp 17) (.tmp 19)) (.vd 7 (o_mov (.tmp 20)) .nil)))))))))
  (.dregion [⟨⟨some 25, none, .mov (.tmp 0)⟩, 4, 0, 0⟩, ⟨⟨some 26, none, .call 213 [(.tmp 25)]⟩, 5, 3, 0⟩, ⟨⟨some 21, none, .mov (.tmp 7)⟩, 0, 0, 0⟩, ⟨⟨some 22, none, .mov (.tmp 7)⟩, 1, 0, 0⟩, ⟨⟨some 23, none, .nilCheck (.tmp 22)⟩, 2, 0, 0⟩, ⟨⟨some 24, none, .load false 1 (.tmp 23)⟩, 3, 1, 0⟩, ⟨⟨some 27, none, .conv .u64 (.tmp 26)⟩, 6, 0, 1⟩, ⟨⟨some 28, none, .mov (.tmp 6)⟩, 7, 0, 0⟩, ⟨⟨some 29, none, .bin .rem (.tmp 28) (.const (.int .i64 64))⟩, 8, 0, 0⟩, ⟨⟨some 30, none, .shift .shl (.tmp 27) (.tmp 29)⟩, 9, 0, 1⟩, ⟨⟨some 31, none, .bin .andNot (.tmp 24) (.tmp 30)⟩, 10, 0, 1⟩, ⟨⟨some 32, none, .mov (.tmp 2)⟩, 11, 0, 0⟩, ⟨⟨some 33, none, .conv .u64 (.tmp 32)⟩, 12, 0, 0⟩, ⟨⟨some 34, none, .mov (.tmp 6)⟩, 13, 0, 0⟩, ⟨⟨some 35, none, .bin .rem (.tmp 34) (.const (.int .i64 64))⟩, 14, 0, 0⟩, ⟨⟨some 36, none, .shift .shl (.tmp 33) (.tmp 35)⟩, 15, 0, 0⟩, ⟨⟨some 37, none, .bin .or (.tmp 31) (.tmp 36)⟩, 16, 0, 1⟩, ⟨⟨some 38, none, .nilCheck (.tmp 21)⟩, 17, 0, 1⟩, ⟨⟨none, none, .store 1 (.tmp 38) (.tmp 37)⟩, 18, 3, 1⟩])))
def X165 : FnS := .code ⟨39, 0, .skip, []⟩ S165
theorem x165 : okX Go.Proofs.Tryz.prog 165 X165 := okX_of (by kernel_rfl)
def S166 : SCode := (.seq (.ops (.vd 2 (o_mov (.const (.bool false))) .nil))
  (.seq (.ops (.vd 3 (o_mov (.tmp 0)) (.vd 4 (o_eqv true 1 (.tmp 3) (.const (.nilPtr))) (.vd 5 (o_mov (.tmp 4)) (.vg 6 5 true (o_mov (.tmp 0)) (.vg 7 5 true (o_nilCheck (.tmp 6)) (.vg 8 5 true (o_field 0 (.tmp 7)) (.vg 9 5 true (o_load false 1 (.tmp 8)) (.vg 10 5 true (o_bin .gtr (.tmp 9) (.const (.int .i64 0))) (.vd 11 (o_pick (.tmp 5) (.tmp 10) (.const (.bool false))) (.vd 2 (o_mov (.tmp 11)) .nil)))))))))))
  .ret))
def X166 : FnS := .code ⟨12, 0, .skip, [.tmp 2]⟩ S166
theorem x166 : okX Go.Proofs.Tryz.prog 166 X166 := okX_of (by kernel_rfl)
def S167 : SCode := (.seq (.ops (.vd 3 (o_box (.tmp 1)) (.vd 4 (o_mov (.const (.nilPtr))) .nil)))
  (.seq (.ops (.vd 6 (o_mkfunc 214 [(.tmp 3)]) (.vd 5 (o_mov (.tmp 6)) .nil)))
  (.seq (.block 0 (.seq (.dregion [⟨⟨some 8, none, .field 0 (.tmp 3)⟩, 0, 0, 0⟩, ⟨⟨some 9, none, .load false 1 (.tmp 8)⟩, 1, 1, 0⟩, ⟨⟨some 10, none, .bin .eql (.tmp 9) (.const (.int .i64 0))⟩, 2, 0, 0⟩, ⟨⟨some 11, none, .mov (.tmp 10)⟩, 3, 0, 0⟩, ⟨⟨some 12, some (11, true), .field 1 (.tmp 3)⟩, 4, 0, 0⟩, ⟨⟨some 13, some (11, true), .load false 1 (.tmp 12)⟩, 5, 1, 0⟩, ⟨⟨some 14, some (11, true), .bin .geq (.tmp 13) (.const (.int .i64 0))⟩, 6, 0, 0⟩, ⟨⟨some 15, none, .pick (.tmp 11) (.tmp 14) (.const (.bool false))⟩, 7, 0, 0⟩, ⟨⟨some 16, none, .mov (.tmp 15)⟩, 8, 0, 0⟩, ⟨⟨some 17, some (16, true), .field 1 (.tmp 3)⟩, 9, 0, 0⟩, ⟨⟨some 18, some (16, true), .load false 1 (.tmp 17)⟩, 10, 1, 0⟩, ⟨⟨some 19, some (16, true), .mov (.tmp 0)⟩, 11, 0, 0⟩, ⟨⟨some 20, some (16, true), .nilCheck (.tmp 19)⟩, 12, 0, 0⟩, ⟨⟨some 21, some (16, true), .field 0 (.tmp 20)⟩, 13, 0, 0⟩, ⟨⟨some 22, some (16, true), .load false 1 (.tmp 21)⟩, 14, 1, 0⟩, ⟨⟨some 23, some (16, true), .bin .lss (.tmp 18) (.tmp 22)⟩, 15, 0, 0⟩, ⟨⟨some 24, none, .pick (.tmp 16) (.tmp 23) (.const (.bool false))⟩, 16, 0, 0⟩, ⟨⟨some 7, none, .mov (.tmp 24)⟩, 17, 0, 0⟩])
   (.cond (.tmp 7)
    (.seq (.dregion [⟨⟨some 25, none, .mov (.tmp 5)⟩, 0, 0, 0⟩, ⟨⟨some 26, none, .mov (.tmp 0)⟩, 1, 0, 0⟩, ⟨⟨some 27, none, .nilCheck (.tmp 26)⟩, 2, 0, 0⟩, ⟨⟨some 28, none, .field 1 (.tmp 27)⟩, 3, 0, 0⟩, ⟨⟨some 29, none, .load false 1 (.tmp 28)⟩, 4, 1, 0⟩, ⟨⟨some 30, none, .field 1 (.tmp 3)⟩, 5, 0, 0⟩, ⟨⟨some 31, none, .load false 1 (.tmp 30)⟩, 6, 1, 0⟩, ⟨⟨some 32, none, .bin .mul (.tmp 31) (.const (.int .i64 16))⟩, 7, 0, 0⟩, ⟨⟨some 33, none, .field 1 (.tmp 3)⟩, 8, 0, 0⟩, ⟨⟨some 34, none, .load false 1 (.tmp 33)⟩, 9, 1, 0⟩, ⟨⟨some 35, none, .bin .add (.tmp 34) (.const (.int .i64 1))⟩, 10, 0, 0⟩, ⟨⟨some 36, none, .bin .mul (.tmp 35) (.const (.int .i64 16))⟩, 11, 0, 0⟩, ⟨⟨some 37, none, .slice 1 (.tmp 29) (some (.tmp 32)) (some (.tmp 36)) none⟩, 12, 0, 0⟩, ⟨⟨some 38, none, .callm (.tmp 25) [(.tmp 37)] [(267, "dustcart/alloc.place", 272), (268, "dustcart/alloc.place", 277), (269, "dustcart/alloc.place", 285), (270, "dustcart/alloc.place", 286), (271, "dustcart/alloc.place", 290)]⟩, 13, 3, 0⟩, ⟨⟨some 4, none, .mov (.tmp 38)⟩, 14, 0, 1⟩])
    .ret)
    (.seq (.ops (.vd 40 (o_field 0 (.tmp 3)) (.vd 41 (o_load false 1 (.tmp 40)) (.vd 42 (o_bin .eql (.tmp 41) (.const (.int .i64 1))) (.vd 43 (o_mov (.tmp 42)) (.vg 44 43 true (o_field 1 (.tmp 3)) (.vg 45 43 true (o_load false 1 (.tmp 44)) (.vg 46 43 true (o_bin .eql (.tmp 45) (.const (.int .i64 0))) (.vd 47 (o_pick (.tmp 43) (.tmp 46) (.const (.bool false))) (.vd 39 (o_mov (.tmp 47)) .nil))))))))))
    (.cond (.tmp 39)
     (.seq (.ops (.vd 48 (o_mov (.tmp 5)) (.vd 49 (o_mov (.tmp 0)) (.vd 50 (o_nilCheck (.tmp 49)) (.vd 51 (o_field 2 (.tmp 50)) (.vd 52 (o_load false 1 (.tmp 51)) (.cd 53 (fun F => c_callm F (.tmp 48) [(.tmp 52)] [(267, "dustcart/alloc.place", 272), (268, "dustcart/alloc.place", 277), (269, "dustcart/alloc.place", 285), (270, "dustcart/alloc.place", 286), (271, "dustcart/alloc.place", 290)]) (.vd 4 (o_mov (.tmp 53)) .nil))))))))
     .ret)
     (.seq (.ops (.vd 55 (o_field 0 (.tmp 3)) (.vd 56 (o_load false 1 (.tmp 55)) (.vd 57 (o_bin .eql (.tmp 56) (.const (.int .i64 2))) (.vd 58 (o_mov (.tmp 57)) (.vg 59 58 true (o_field 1 (.tmp 3)) (.vg 60 58 true (o_load false 1 (.tmp 59)) (.vg 61 58 true (o_bin .eql (.tmp 60) (.const (.int .i64 0))) (.vd 62 (o_pick (.tmp 58) (.tmp 61) (.const (.bool false))) (.vd 54 (o_mov (.tmp 62)) .nil))))))))))
     (.cond (.tmp 54)
      (.seq (.ops (.vd 63 (o_mov (.tmp 5)) (.vd 64 (o_mov (.tmp 0)) (.vd 65 (o_nilCheck (.tmp 64)) (.vd 66 (o_field 3 (.tmp 65)) (.vd 67 (o_load false 1 (.tmp 66)) (.cd 68 (fun F => c_callm F (.tmp 63) [(.tmp 67)] [(267, "dustcart/alloc.place", 272), (268, "dustcart/alloc.place", 277), (269, "dustcart/alloc.place", 285), (270, "dustcart/alloc.place", 286), (271, "dustcart/alloc.place", 290)]) (.vd 4 (o_mov (.tmp 68)) .nil))))))))
      .ret)
      .skip)))))))
  (.seq (.ops (.vd 4 (o_mov (.const (.nilPtr))) .nil))
  .ret))))
def X167 : FnS := .code ⟨69, 0, .skip, [.tmp 4]⟩ S167
theorem x167 : okX Go.Proofs.Tryz.prog 167 X167 := okX_of (by kernel_rfl)
def S168 : SCode := (.seq (.ops (.vd 4 (o_mov (.const (.bool false))) .nil))
  (.seq (.ops (.vd 5 (o_mov (.tmp 0)) (.cd 6 (fun F => c_call F 84 [(.tmp 5)]) (.vd 7 (o_mov (.tmp 6)) (.vg 8 7 true (o_mov (.tmp 1)) (.vg 9 7 true (o_bin .geq (.tmp 8) (.const (.int .i64 0))) (.vd 10 (o_pick (.tmp 7) (.tmp 9) (.const (.bool false))) (.vd 11 (o_mov (.tmp 10)) (.vg 12 11 true (o_mov (.tmp 1)) (.vg 13 11 true (o_mov (.tmp 0)) (.vg 14 11 true (o_nilCheck (.tmp 13)) (.vg 15 11 true (o_field 0 (.tmp 14)) (.vg 16 11 true (o_load false 1 (.tmp 15)) (.vg 17 11 true (o_bin .lss (.tmp 12) (.tmp 16)) (.vd 18 (o_pick (.tmp 11) (.tmp 17) (.const (.bool false))) (.vd 4 (o_mov (.tmp 18)) .nil))))))))))))))))
  .ret))
def X168 : FnS := .code ⟨19, 0, .skip, [.tmp 4]⟩ S168
theorem x168 : okX Go.Proofs.Tryz.prog 168 X168 := okX_of (by kernel_rfl)
def S169 : SCode := (.seq (.ops (.vd 4 (o_mov (.const (.int .i64 0))) .nil))
  (.seq (.ops (.vd 6 (o_mov (.tmp 1)) (.vd 7 (o_mov (.tmp 0)) (.vd 8 (o_nilCheck (.tmp 7)) (.vd 9 (o_field 1 (.tmp 8)) (.vd 10 (o_load false 1 (.tmp 9)) (.vd 11 (o_bin .mul (.tmp 6) (.tmp 10)) (.vd 5 (o_mov (.tmp 11)) .nil))))))))
  (.seq (.dregion [⟨⟨some 24, none, .mov (.tmp 0)⟩, 12, 0, 0⟩, ⟨⟨some 25, none, .call 213 [(.tmp 24)]⟩, 13, 3, 0⟩, ⟨⟨some 12, none, .mov (.tmp 0)⟩, 0, 0, 0⟩, ⟨⟨some 13, none, .nilCheck (.tmp 12)⟩, 1, 0, 0⟩, ⟨⟨some 14, none, .field 2 (.tmp 13)⟩, 2, 0, 0⟩, ⟨⟨some 15, none, .load false 1 (.tmp 14)⟩, 3, 1, 0⟩, ⟨⟨some 16, none, .mov (.tmp 5)⟩, 4, 0, 0⟩, ⟨⟨some 17, none, .bin .quo (.tmp 16) (.const (.int .i64 64))⟩, 5, 0, 0⟩, ⟨⟨some 18, none, .index 1 (.tmp 15) (.tmp 17)⟩, 6, 0, 0⟩, ⟨⟨some 19, none, .load false 1 (.tmp 18)⟩, 7, 1, 0⟩, ⟨⟨some 20, none, .mov (.tmp 5)⟩, 8, 0, 0⟩, ⟨⟨some 21, none, .bin .rem (.tmp 20) (.const (.int .i64 64))⟩, 9, 0, 0⟩, ⟨⟨some 22, none, .shift .shr (.tmp 19) (.tmp 21)⟩, 10, 0, 0⟩, ⟨⟨some 23, none, .conv .i64 (.tmp 22)⟩, 11, 0, 0⟩, ⟨⟨some 26, none, .bin .and (.tmp 23) (.tmp 25)⟩, 14, 0, 1⟩, ⟨⟨some 4, none, .mov (.tmp 26)⟩, 15, 0, 1⟩])
  .ret)))
def X169 : FnS := .code ⟨27, 0, .skip, [.tmp 4]⟩ S169
theorem x169 : okX Go.Proofs.Tryz.prog 169 X169 := okX_of (by kernel_rfl)
def S170 : SCode := (.seq (.ops (.vd 1 (o_box (.tmp 0)) (.vd 2 (o_mov (.const (.nilFunc))) .nil)))
  (.seq (.ops (.vd 3 (o_mkfunc 215 [(.tmp 1)]) (.vd 2 (o_mov (.tmp 3)) .nil)))
  .ret))
def X170 : FnS := .code ⟨4, 0, .skip, [.tmp 2]⟩ S170
theorem x170 : okX Go.Proofs.Tryz.prog 170 X170 := okX_of (by kernel_rfl)
def S172 : SCode := (.seq (.ops (.vd 8 (o_mov (.const (.int .i64 0))) (.vd 9 (o_mov (.const (.int .i64 0))) .nil)))
  (.seq (.seq (.ops (.vd 14 (o_mov (.tmp 0)) (.vd 15 (o_mov (.tmp 1)) (.cd 16 (fun F => c_call F 153 [(.tmp 14), (.tmp 15)]) (.vd 10 (o_mov (.tmp 16)) .nil)))))
  (.seq (.ops (.vd 17 (o_mov (.tmp 10)) (.vd 18 (o_bin .neq (.tmp 17) (.const (.int .i64 0))) .nil)))
  (.cond (.tmp 18)
   (.seq (.ops (.vd 19 (o_mov (.tmp 10)) (.vd 8 (o_mov (.const (.int .i64 0))) (.vd 9 (o_mov (.tmp 19)) .nil))))
   .ret)
   .skip)))
  (.seq (.ops (.vd 20 (o_mov (.tmp 0)) (.vd 21 (o_nilCheck (.tmp 20)) (.vd 22 (o_field 1 (.tmp 21)) (.vd 23 (o_load false 1 (.tmp 22)) (.vd 24 (o_mov (.tmp 1)) (.vd 25 (o_bin .add (.tmp 24) (.const (.int .i64 1))) (.vd 26 (o_index 1 (.tmp 23) (.tmp 25)) (.vd 27 (o_load false 1 (.tmp 26)) (.cd 28 (fun F => c_call F 159 [(.tmp 27)]) (.vd 11 (o_new [.int .i64 0, .int .i64 0, .int .i64 0]) (.v none none (o_store 3 (.tmp 11) (.tmp 28)) .nil))))))))))))
  (.seq (.dregion [⟨⟨some 29, none, .mov (.tmp 1)⟩, 0, 0, 0⟩, ⟨⟨some 30, none, .bin .add (.tmp 29) (.const (.int .i64 2))⟩, 1, 0, 0⟩, ⟨⟨some 31, none, .field 0 (.tmp 11)⟩, 2, 0, 0⟩, ⟨⟨some 32, none, .load false 1 (.tmp 31)⟩, 3, 1, 0⟩, ⟨⟨some 12, none, .mov (.tmp 30)⟩, 4, 0, 0⟩, ⟨⟨some 13, none, .mov (.tmp 32)⟩, 5, 0, 0⟩])
  (.seq (.seq (.ops (.vd 33 (o_mov (.tmp 3)) .nil))
  (.cond (.tmp 33)
   (.dregion [⟨⟨some 34, none, .mov (.tmp 12)⟩, 0, 0, 0⟩, ⟨⟨some 35, none, .field 0 (.tmp 11)⟩, 1, 0, 0⟩, ⟨⟨some 36, none, .load false 1 (.tmp 35)⟩, 2, 1, 0⟩, ⟨⟨some 37, none, .bin .add (.tmp 34) (.tmp 36)⟩, 3, 0, 0⟩, ⟨⟨some 38, none, .field 1 (.tmp 11)⟩, 4, 0, 0⟩, ⟨⟨some 39, none, .load false 1 (.tmp 38)⟩, 5, 1, 0⟩, ⟨⟨some 12, none, .mov (.tmp 37)⟩, 6, 0, 0⟩, ⟨⟨some 13, none, .mov (.tmp 39)⟩, 7, 0, 0⟩])
   .skip))
  (.seq (.seq (.ops (.vd 40 (o_mov (.tmp 2)) (.vd 41 (o_bin .lss (.tmp 40) (.const (.int .i64 0))) (.vd 42 (o_mov (.tmp 41)) (.vg 43 42 false (o_mov (.tmp 2)) (.vg 44 42 false (o_mov (.tmp 13)) (.vg 45 42 false (o_bin .geq (.tmp 43) (.tmp 44)) (.vd 46 (o_pick (.tmp 42) (.const (.bool true)) (.tmp 45)) .nil))))))))
  (.cond (.tmp 46)
   (.seq (.ops (.vd 8 (o_mov (.const (.int .i64 0))) (.vd 9 (o_mov (.const (.int .i64 1))) .nil)))
   .ret)
   .skip))
  (.seq (.ops (.vd 47 (o_mov (.tmp 12)) (.vd 48 (o_mov (.tmp 2)) (.vd 49 (o_bin .add (.tmp 47) (.tmp 48)) (.vd 8 (o_mov (.tmp 49)) (.vd 9 (o_mov (.const (.int .i64 0))) .nil))))))
  .ret)))))))
def X172 : FnS := .code ⟨50, 0, .skip, [.tmp 8, .tmp 9]⟩ S172
theorem x172 : okX Go.Proofs.Tryz.prog 172 X172 := okX_of (by kernel_rfl)
end Go.Cs.Tryz

/- The turned functions, part 3. -/
noncomputable section
namespace Go.Cs.Tryz
open Go Go.Cs Go.Cs.K
set_option maxRecDepth 100000
def S173_1 : SCode := .block 1 (.seq (.ops (.vd 21 (o_mov (.tmp 2)) (.vd 22 (o_mov (.tmp 1)) (.vd 23 (o_bin .sub (.tmp 21) (.tmp 22)) (.vd 12 (o_mov (.tmp 23)) .nil)))))
     (.seq (.seq (.ops (.vd 24 (o_mov (.tmp 12)) (.vd 25 (o_bin .leq (.tmp 24) (.const (.int .i64 12))) .nil)))
     (.cond (.tmp 25)
      (.seq (.ops (.vd 26 (o_mov (.tmp 0)) (.vd 27 (o_mov (.tmp 1)) (.vd 28 (o_mov (.tmp 2)) (.vd 29 (o_mov (.tmp 4)) (.cd 30 (fun F => c_call F 216 [(.tmp 26), (.tmp 27), (.tmp 28), (.tmp 29)]) .nil))))))
      .ret)
      .skip))
     (.seq (.seq (.ops (.vd 31 (o_mov (.tmp 3)) (.vd 32 (o_bin .eql (.tmp 31) (.const (.int .i64 0))) .nil)))
     (.cond (.tmp 32)
      (.seq (.ops (.vd 33 (o_mov (.tmp 0)) (.vd 34 (o_mov (.tmp 1)) (.vd 35 (o_mov (.tmp 2)) (.vd 36 (o_mov (.tmp 4)) (.cd 37 (fun F => c_call F 217 [(.tmp 33), (.tmp 34), (.tmp 35), (.tmp 36)]) .nil))))))
      .ret)
      .skip))
     (.seq (.seq (.ops (.vd 38 (o_mov (.tmp 10)) (.vd 39 (o_not (.tmp 38)) .nil)))
     (.cond (.tmp 39)
      (.seq (.ops (.vd 40 (o_mov (.tmp 0)) (.vd 41 (o_mov (.tmp 1)) (.vd 42 (o_mov (.tmp 2)) (.vd 43 (o_mov (.tmp 4)) (.cd 44 (fun F => c_call F 218 [(.tmp 40), (.tmp 41), (.tmp 42), (.tmp 43)]) .nil))))))
      (.ops (.vd 45 (o_mov (.tmp 3)) (.vd 46 (o_bin .sub (.tmp 45) (.const (.int .i64 1))) (.vd 3 (o_mov (.tmp 46)) .nil)))))
      .skip))
     (.seq (.ops (.vd 48 (o_mov (.tmp 0)) (.vd 49 (o_mov (.tmp 1)) (.vd 50 (o_mov (.tmp 2)) (.vd 51 (o_mov (.tmp 4)) (.cd 52 (fun F => c_call F 219 [(.tmp 48), (.tmp 49), (.tmp 50), (.tmp 51)]) (.vd 47 (o_mov (.tmp 52)) (.vd 53 (o_extract (.tmp 47) 0) (.vd 54 (o_extract (.tmp 47) 1) (.vd 13 (o_mov (.tmp 53)) (.vd 14 (o_mov (.tmp 54)) .nil)))))))))))
     (.seq (.seq (.ops (.vd 55 (o_mov (.tmp 14)) (.vd 56 (o_bin .eql (.tmp 55) (.const (.int .i64 2))) .nil)))
     (.cond (.tmp 56)
      (.seq (.ops (.vd 57 (o_mov (.tmp 0)) (.vd 58 (o_mov (.tmp 1)) (.vd 59 (o_mov (.tmp 2)) (.vd 60 (o_mov (.tmp 4)) (.cd 61 (fun F => c_call F 220 [(.tmp 57), (.tmp 58), (.tmp 59), (.tmp 60)]) .nil))))))
      (.seq (.ops (.vd 62 (o_mov (.tmp 2)) (.vd 63 (o_bin .sub (.tmp 62) (.const (.int .i64 1))) (.vd 64 (o_mov (.tmp 13)) (.vd 65 (o_mov (.tmp 1)) (.vd 66 (o_bin .sub (.tmp 64) (.tmp 65)) (.vd 67 (o_bin .sub (.tmp 63) (.tmp 66)) (.vd 13 (o_mov (.tmp 67)) .nil))))))))
      (.ops (.vd 14 (o_mov (.const (.int .i64 1))) .nil))))
      .skip))
     (.seq (.seq (.ops (.vd 68 (o_mov (.tmp 10)) (.vd 69 (o_mov (.tmp 68)) (.vg 70 69 true (o_mov (.tmp 11)) (.vd 71 (o_pick (.tmp 69) (.tmp 70) (.const (.bool false))) (.vd 72 (o_mov (.tmp 71)) (.vg 73 72 true (o_mov (.tmp 14)) (.vg 74 72 true (o_bin .eql (.tmp 73) (.const (.int .i64 1))) (.vd 75 (o_pick (.tmp 72) (.tmp 74) (.const (.bool false))) .nil)))))))))
     (.cond (.tmp 75)
      (.seq (.ops (.vd 76 (o_mov (.tmp 0)) (.vd 77 (o_mov (.tmp 1)) (.vd 78 (o_mov (.tmp 2)) (.vd 79 (o_mov (.tmp 4)) (.cd 80 (fun F => c_call F 221 [(.tmp 76), (.tmp 77), (.tmp 78), (.tmp 79)]) .nil))))))
      (.cond (.tmp 80)
       .ret
       .skip))
      .skip))
     (.seq (.seq (.dregion [⟨⟨some 81, none, .mov (.tmp 1)⟩, 0, 0, 0⟩, ⟨⟨some 82, none, .bin .gtr (.tmp 81) (.const (.int .i64 0))⟩, 1, 0, 0⟩, ⟨⟨some 83, none, .mov (.tmp 82)⟩, 2, 0, 0⟩, ⟨⟨some 84, some (83, true), .mov (.tmp 4)⟩, 3, 0, 0⟩, ⟨⟨some 85, some (83, true), .mov (.tmp 0)⟩, 4, 0, 0⟩, ⟨⟨some 86, some (83, true), .mov (.tmp 1)⟩, 5, 0, 0⟩, ⟨⟨some 87, some (83, true), .bin .sub (.tmp 86) (.const (.int .i64 1))⟩, 6, 0, 0⟩, ⟨⟨some 88, some (83, true), .index 2 (.tmp 85) (.tmp 87)⟩, 7, 0, 0⟩, ⟨⟨some 89, some (83, true), .load true 2 (.tmp 88)⟩, 8, 1, 0⟩, ⟨⟨some 90, some (83, true), .mov (.tmp 0)⟩, 9, 0, 0⟩, ⟨⟨some 91, some (83, true), .mov (.tmp 13)⟩, 10, 0, 0⟩, ⟨⟨some 92, some (83, true), .index 2 (.tmp 90) (.tmp 91)⟩, 11, 0, 0⟩, ⟨⟨some 93, some (83, true), .load true 2 (.tmp 92)⟩, 12, 1, 0⟩, ⟨⟨some 94, some (83, true), .callm (.tmp 84) [(.tmp 89), (.tmp 93)] [(267, "dustcart/alloc.place", 272), (268, "dustcart/alloc.place", 277), (269, "dustcart/alloc.place", 285), (270, "dustcart/alloc.place", 286), (271, "dustcart/alloc.place", 290)]⟩, 13, 3, 0⟩, ⟨⟨some 95, some (83, true), .bin .lss (.tmp 94) (.const (.int .i64 0))⟩, 14, 0, 1⟩, ⟨⟨some 96, some (83, true), .not (.tmp 95)⟩, 15, 0, 1⟩, ⟨⟨some 97, none, .pick (.tmp 83) (.tmp 96) (.const (.bool false))⟩, 16, 0, 1⟩])
     (.cond (.tmp 97)
      (.seq (.ops (.vd 98 (o_mov (.tmp 0)) (.vd 99 (o_mov (.tmp 1)) (.vd 100 (o_mov (.tmp 2)) (.vd 101 (o_mov (.tmp 13)) (.vd 102 (o_mov (.tmp 4)) (.cd 103 (fun F => c_call F 222 [(.tmp 98), (.tmp 99), (.tmp 100), (.tmp 101), (.tmp 102)]) (.vd 15 (o_mov (.tmp 103)) .nil))))))))
      (.seq (.ops (.vd 104 (o_mov (.tmp 15)) (.vd 1 (o_mov (.tmp 104)) .nil)))
      (.exit 1)))
      .skip))
     (.seq (.ops (.vd 106 (o_mov (.tmp 0)) (.vd 107 (o_mov (.tmp 1)) (.vd 108 (o_mov (.tmp 2)) (.vd 109 (o_mov (.tmp 13)) (.vd 110 (o_mov (.tmp 4)) (.cd 111 (fun F => c_call F 223 [(.tmp 106), (.tmp 107), (.tmp 108), (.tmp 109), (.tmp 110)]) (.vd 105 (o_mov (.tmp 111)) (.vd 112 (o_extract (.tmp 105) 0) (.vd 113 (o_extract (.tmp 105) 1) (.vd 16 (o_mov (.tmp 112)) (.vd 17 (o_mov (.tmp 113)) .nil))))))))))))
     (.seq (.ops (.vd 114 (o_mov (.tmp 17)) (.vd 11 (o_mov (.tmp 114)) .nil)))
     (.seq (.ops (.vd 115 (o_mov (.tmp 16)) (.vd 116 (o_mov (.tmp 1)) (.vd 117 (o_bin .sub (.tmp 115) (.tmp 116)) (.vd 118 (o_mov (.tmp 2)) (.vd 119 (o_mov (.tmp 16)) (.vd 120 (o_bin .sub (.tmp 118) (.tmp 119)) (.vd 18 (o_mov (.tmp 117)) (.vd 19 (o_mov (.tmp 120)) .nil)))))))))
     (.seq (.ops (.vd 121 (o_mov (.tmp 12)) (.vd 122 (o_bin .quo (.tmp 121) (.const (.int .i64 8))) (.vd 20 (o_mov (.tmp 122)) .nil))))
     (.seq (.ops (.vd 123 (o_mov (.tmp 18)) (.vd 124 (o_mov (.tmp 19)) (.vd 125 (o_bin .lss (.tmp 123) (.tmp 124)) .nil))))
     (.cond (.tmp 125)
      (.seq (.ops (.vd 126 (o_mov (.tmp 18)) (.vd 127 (o_mov (.tmp 20)) (.vd 128 (o_bin .geq (.tmp 126) (.tmp 127)) (.vd 10 (o_mov (.tmp 128)) .nil)))))
      (.seq (.ops (.vd 129 (o_mov (.tmp 0)) (.vd 130 (o_mov (.tmp 1)) (.vd 131 (o_mov (.tmp 16)) (.vd 132 (o_mov (.tmp 3)) (.vd 133 (o_mov (.tmp 4)) (.cd 134 (fun F => c_call F 173 [(.tmp 129), (.tmp 130), (.tmp 131), (.tmp 132), (.tmp 133)]) .nil)))))))
      (.ops (.vd 135 (o_mov (.tmp 16)) (.vd 136 (o_bin .add (.tmp 135) (.const (.int .i64 1))) (.vd 1 (o_mov (.tmp 136)) .nil))))))
      (.seq (.ops (.vd 137 (o_mov (.tmp 19)) (.vd 138 (o_mov (.tmp 20)) (.vd 139 (o_bin .geq (.tmp 137) (.tmp 138)) (.vd 10 (o_mov (.tmp 139)) .nil)))))
      (.seq (.ops (.vd 140 (o_mov (.tmp 0)) (.vd 141 (o_mov (.tmp 16)) (.vd 142 (o_bin .add (.tmp 141) (.const (.int .i64 1))) (.vd 143 (o_mov (.tmp 2)) (.vd 144 (o_mov (.tmp 3)) (.vd 145 (o_mov (.tmp 4)) (.cd 146 (fun F => c_call F 173 [(.tmp 140), (.tmp 142), (.tmp 143), (.tmp 144), (.tmp 145)]) .nil))))))))
      (.ops (.vd 147 (o_mov (.tmp 16)) (.vd 2 (o_mov (.tmp 147)) .nil)))))))))))))))))))
def S173 : SCode := (.seq (.ops (.vd 10 (o_mov (.const (.bool true))) .nil))
  (.seq (.ops (.vd 11 (o_mov (.const (.bool true))) .nil))
  (.block 0 (.loop S173_1))))
def X173 : FnS := .code ⟨148, 0, .skip, []⟩ S173
theorem x173 : okX Go.Proofs.Tryz.prog 173 X173 := okX_of (by kernel_rfl)
def S174_1 : SCode := .seq (.seq (.ops (.vd 13 (o_mov (.tmp 7)) (.vd 14 (o_mov (.tmp 8)) (.vd 15 (o_bin .lss (.tmp 13) (.tmp 14)) .nil))))
    (.cond (.tmp 15)
     .skip
     (.exit 0)))
    (.block 1 (.seq (.ops (.vd 16 (o_mov (.tmp 7)) (.vd 17 (o_mov (.tmp 8)) (.vd 18 (o_bin .add (.tmp 16) (.tmp 17)) (.vd 19 (o_conv .u64 (.tmp 18)) (.vd 20 (o_shift .shr (.tmp 19) (.const (.int .u64 1))) (.vd 21 (o_conv .i64 (.tmp 20)) (.vd 9 (o_mov (.tmp 21)) .nil))))))))
     (.seq (.ops (.vd 22 (o_mov (.tmp 0)) (.vd 23 (o_mov (.tmp 9)) (.vd 24 (o_index 1 (.tmp 22) (.tmp 23)) (.vd 25 (o_load false 1 (.tmp 24)) (.vd 26 (o_mov (.tmp 1)) (.cd 27 (fun F => c_call F 203 [(.tmp 25), (.tmp 26)]) .nil)))))))
     (.cond (.tmp 27)
      (.ops (.vd 28 (o_mov (.tmp 9)) (.vd 29 (o_bin .add (.tmp 28) (.const (.int .i64 1))) (.vd 7 (o_mov (.tmp 29)) .nil))))
      (.ops (.vd 30 (o_mov (.tmp 9)) (.vd 8 (o_mov (.tmp 30)) .nil)))))))
def S174 : SCode := (.seq (.ops (.vd 4 (o_mov (.const (.int .i64 0))) (.vd 5 (o_mov (.const (.bool false))) .nil)))
  (.seq (.ops (.vd 10 (o_mov (.tmp 0)) (.vd 11 (o_len (.tmp 10)) (.vd 6 (o_mov (.tmp 11)) .nil))))
  (.seq (.ops (.vd 12 (o_mov (.tmp 6)) (.vd 7 (o_mov (.const (.int .i64 0))) (.vd 8 (o_mov (.tmp 12)) .nil))))
  (.seq (.block 0 (.loop S174_1))
  (.seq (.ops (.vd 31 (o_mov (.tmp 7)) (.vd 32 (o_mov (.tmp 7)) (.vd 33 (o_mov (.tmp 6)) (.vd 34 (o_bin .lss (.tmp 32) (.tmp 33)) (.vd 35 (o_mov (.tmp 34)) (.vg 36 35 true (o_mov (.tmp 0)) (.vg 37 35 true (o_mov (.tmp 7)) (.vg 38 35 true (o_index 1 (.tmp 36) (.tmp 37)) (.vg 39 35 true (o_load false 1 (.tmp 38)) (.vg 40 35 true (o_mov (.tmp 1)) (.vg 41 35 true (o_bin .eql (.tmp 39) (.tmp 40)) (.vg 42 35 true (o_mov (.tmp 41)) (.vg 43 42 false (o_mov (.tmp 0)) (.vg 44 42 false (o_mov (.tmp 7)) (.vg 45 42 false (o_index 1 (.tmp 43) (.tmp 44)) (.vg 46 42 false (o_load false 1 (.tmp 45)) (.c (some 47) (some (42, false)) (fun F => c_call F 224 [(.tmp 46)]) (.vg 48 42 false (o_mov (.tmp 47)) (.vg 49 48 true (o_mov (.tmp 1)) (.c (some 50) (some (48, true)) (fun F => c_call F 224 [(.tmp 49)]) (.vg 51 42 false (o_pick (.tmp 48) (.tmp 50) (.const (.bool false))) (.vg 52 35 true (o_pick (.tmp 42) (.const (.bool true)) (.tmp 51)) (.vd 53 (o_pick (.tmp 35) (.tmp 52) (.const (.bool false))) (.vd 4 (o_mov (.tmp 31)) (.vd 5 (o_mov (.tmp 53)) .nil))))))))))))))))))))))))))
  .ret)))))
def X174 : FnS := .code ⟨54, 0, .skip, [.tmp 4, .tmp 5]⟩ S174
theorem x174 : okX Go.Proofs.Tryz.prog 174 X174 := okX_of (by kernel_rfl)
def S175 : SCode := (.seq (.ops (.vd 6 (o_mov (.const (.int .i64 0))) .nil))
  (.seq (.block 0 (.seq (.ops (.vd 8 (o_mov (.tmp 0)) (.cd 9 (fun F => c_call F 83 [(.tmp 8)]) (.vd 10 (o_not (.tmp 9)) (.vd 7 (o_mov (.tmp 10)) .nil)))))
   (.cond (.tmp 7)
    (.seq (.ops (.vd 6 (o_mov (.const (.int .i64 5))) .nil))
    .ret)
    (.seq (.ops (.vd 12 (o_mov (.tmp 0)) (.vd 13 (o_mov (.tmp 1)) (.cd 14 (fun F => c_call F 158 [(.tmp 12), (.tmp 13)]) (.vd 15 (o_not (.tmp 14)) (.vd 16 (o_mov (.tmp 15)) (.vg 17 16 false (o_mov (.tmp 2)) (.vg 18 16 false (o_not (.tmp 17)) (.vd 19 (o_pick (.tmp 16) (.const (.bool true)) (.tmp 18)) (.vd 11 (o_mov (.tmp 19)) .nil))))))))))
    (.cond (.tmp 11)
     (.seq (.ops (.vd 6 (o_mov (.const (.int .i64 1))) .nil))
     .ret)
     (.seq (.ops (.vd 21 (o_mov (.tmp 0)) (.vd 22 (o_nilCheck (.tmp 21)) (.vd 23 (o_field 0 (.tmp 22)) (.vd 24 (o_load false 1 (.tmp 23)) (.vd 25 (o_mov (.tmp 1)) (.vd 26 (o_index 2 (.tmp 24) (.tmp 25)) (.vd 27 (o_field 0 (.tmp 26)) (.vd 28 (o_load false 1 (.tmp 27)) (.vd 29 (o_bin .neq (.tmp 28) (.const (.int .i64 1))) (.vd 30 (o_mov (.tmp 29)) (.vg 31 30 true (o_mov (.tmp 0)) (.vg 32 30 true (o_nilCheck (.tmp 31)) (.vg 33 30 true (o_field 0 (.tmp 32)) (.vg 34 30 true (o_load false 1 (.tmp 33)) (.vg 35 30 true (o_mov (.tmp 1)) (.vg 36 30 true (o_index 2 (.tmp 34) (.tmp 35)) (.vg 37 30 true (o_field 0 (.tmp 36)) (.vg 38 30 true (o_load false 1 (.tmp 37)) (.vg 39 30 true (o_bin .neq (.tmp 38) (.const (.int .i64 2))) (.vd 40 (o_pick (.tmp 30) (.tmp 39) (.const (.bool false))) (.vd 20 (o_mov (.tmp 40)) .nil))))))))))))))))))))))
     (.cond (.tmp 20)
      (.seq (.ops (.vd 6 (o_mov (.const (.int .i64 5))) .nil))
      .ret)
      .skip)))))))
  (.seq (.ops (.vd 6 (o_mov (.const (.int .i64 0))) .nil))
  .ret)))
def X175 : FnS := .code ⟨41, 0, .skip, [.tmp 6]⟩ S175
theorem x175 : okX Go.Proofs.Tryz.prog 175 X175 := okX_of (by kernel_rfl)
def S190 : SCode := (.seq (.ops (.vd 6 (o_mov (.const (.bool false))) .nil))
  (.seq (.seq (.ops (.vd 9 (o_mov (.tmp 0)) (.vd 10 (o_mov (.tmp 2)) (.cd 11 (fun F => c_call F 44 [(.tmp 9), (.tmp 10)]) (.vd 12 (o_not (.tmp 11)) .nil)))))
  (.cond (.tmp 12)
   (.seq (.ops (.vd 6 (o_mov (.const (.bool false))) .nil))
   .ret)
   .skip))
  (.seq (.ops (.vd 14 (o_mov (.tmp 1)) (.vd 15 (o_mov (.tmp 2)) (.vd 16 (o_bin .quo (.tmp 15) (.const (.int .i64 2))) (.cd 17 (fun F => c_call F 232 [(.tmp 14), (.tmp 16), (.const (.int .i64 0)), (.const (.int .i64 1))]) (.vd 13 (o_mov (.tmp 17)) (.vd 18 (o_extract (.tmp 13) 0) (.vd 19 (o_extract (.tmp 13) 1) (.vd 7 (o_mov (.tmp 18)) (.vd 8 (o_mov (.tmp 19)) .nil))))))))))
  (.seq (.ops (.vd 20 (o_mov (.tmp 7)) (.vd 6 (o_mov (.tmp 20)) .nil)))
  .ret))))
def X190 : FnS := .code ⟨21, 0, .skip, [.tmp 6]⟩ S190
theorem x190 : okX Go.Proofs.Tryz.prog 190 X190 := okX_of (by kernel_rfl)
def S191 : SCode := (.ops (.vd 4 (o_mov (.tmp 0)) (.vd 5 (o_mov (.tmp 0)) (.vd 6 (o_nilCheck (.tmp 5)) (.vd 7 (o_field 0 (.tmp 6)) (.vd 8 (o_load false 1 (.tmp 7)) (.vd 9 (o_mov (.tmp 1)) (.vd 10 (o_buildSlice 1 [.int .i64 0] 1 [(0, 1, (.tmp 9))]) (.vd 11 (o_append 1 (.tmp 8) (.tmp 10)) (.vd 12 (o_nilCheck (.tmp 4)) (.vd 13 (o_field 0 (.tmp 12)) (.v none none (o_store 1 (.tmp 13) (.tmp 11)) .nil))))))))))))
def X191 : FnS := .code ⟨14, 0, .skip, []⟩ S191
theorem x191 : okX Go.Proofs.Tryz.prog 191 X191 := okX_of (by kernel_rfl)
def S192_1 : SCode := .seq (.seq (.ops (.vd 2 (o_mov (.tmp 0)) (.vd 3 (o_nilCheck (.tmp 2)) (.vd 4 (o_field 2 (.tmp 3)) (.vd 5 (o_field 0 (.tmp 4)) (.vd 6 (o_load false 1 (.tmp 5)) (.vd 7 (o_len (.tmp 6)) (.vd 8 (o_bin .gtr (.tmp 7) (.const (.int .i64 0))) .nil))))))))
    (.cond (.tmp 8)
     .skip
     (.exit 0)))
    (.block 1 (.seq (.ops (.vd 9 (o_mov (.tmp 0)) (.vd 10 (o_nilCheck (.tmp 9)) (.vd 11 (o_field 3 (.tmp 10)) (.vd 12 (o_load false 1 (.tmp 11)) (.vd 13 (o_bin .eql (.tmp 12) (.const (.int .i64 0))) .nil))))))
     (.cond (.tmp 13)
      (.ops (.vd 14 (o_mov (.tmp 0)) (.vd 15 (o_mov (.tmp 0)) (.vd 16 (o_nilCheck (.tmp 15)) (.vd 17 (o_field 2 (.tmp 16)) (.cd 18 (fun F => c_call F 233 [(.tmp 17)]) (.cd 19 (fun F => c_call F 193 [(.tmp 14), (.tmp 18)]) .nil)))))))
      (.ops (.vd 20 (o_mov (.tmp 0)) (.vd 21 (o_mov (.tmp 0)) (.vd 22 (o_nilCheck (.tmp 21)) (.vd 23 (o_field 2 (.tmp 22)) (.cd 24 (fun F => c_call F 234 [(.tmp 23)]) (.cd 25 (fun F => c_call F 193 [(.tmp 20), (.tmp 24)]) .nil))))))))))
def S192 : SCode := (.block 0 (.loop S192_1))
def X192 : FnS := .code ⟨26, 0, .skip, []⟩ S192
theorem x192 : okX Go.Proofs.Tryz.prog 192 X192 := okX_of (by kernel_rfl)
def S193_1 : SCode := .seq (.ops (.vd 23 (o_bin .lss (.tmp 22) (.tmp 21)) .nil))
    (.seq (.cond (.tmp 23)
     .skip
     (.exit 0))
    (.seq (.block 1 (.seq (.ops (.vd 24 (o_index 1 (.tmp 20) (.tmp 22)) (.vd 25 (o_load false 1 (.tmp 24)) (.vd 5 (o_mov (.tmp 25)) .nil))))
     (.ops (.vd 26 (o_mov (.tmp 0)) (.vd 27 (o_mov (.tmp 5)) (.cd 28 (fun F => c_call F 136 [(.tmp 26), (.tmp 27)]) .nil))))))
    (.ops (.vd 29 (o_bin .add (.tmp 22) (.const (.int .i64 1))) (.vd 22 (o_mov (.tmp 29)) .nil)))))
def S193 : SCode := (.seq (.ops (.vd 6 (o_mov (.tmp 0)) (.vd 7 (o_nilCheck (.tmp 6)) (.vd 8 (o_field 6 (.tmp 7)) (.vd 9 (o_field 0 (.tmp 8)) (.vd 10 (o_load false 1 (.tmp 9)) (.vd 11 (o_bin .add (.tmp 10) (.const (.int .i64 1))) (.vd 12 (o_nilCheck (.tmp 6)) (.vd 13 (o_field 6 (.tmp 12)) (.vd 14 (o_field 0 (.tmp 13)) (.v none none (o_store 1 (.tmp 14) (.tmp 11)) .nil)))))))))))
  (.seq (.ops (.vd 15 (o_mov (.tmp 0)) (.vd 16 (o_nilCheck (.tmp 15)) (.vd 17 (o_field 0 (.tmp 16)) (.vd 18 (o_load false 1 (.tmp 17)) (.vd 19 (o_mov (.tmp 1)) (.cd 20 (fun F => c_call F 235 [(.tmp 18), (.tmp 19)]) (.vd 21 (o_len (.tmp 20)) (.vd 22 (o_mov (.const (.int .i64 0))) .nil)))))))))
  (.block 0 (.loop S193_1))))
def X193 : FnS := .code ⟨30, 0, .skip, []⟩ S193
theorem x193 : okX Go.Proofs.Tryz.prog 193 X193 := okX_of (by kernel_rfl)
def S194_1 : SCode := .seq (.ops (.vd 19 (o_bin .lss (.tmp 18) (.tmp 17)) .nil))
    (.seq (.cond (.tmp 19)
     .skip
     (.exit 0))
    (.seq (.block 1 (.seq (.ops (.vd 20 (o_index 1 (.tmp 16) (.tmp 18)) (.vd 21 (o_load false 1 (.tmp 20)) (.vd 7 (o_mov (.tmp 21)) .nil))))
     (.seq (.ops (.vd 23 (o_mov (.tmp 0)) (.vd 24 (o_mov (.tmp 7)) (.cd 25 (fun F => c_call F 109 [(.tmp 23), (.tmp 24)]) (.vd 22 (o_mov (.tmp 25)) (.vd 26 (o_extract (.tmp 22) 0) (.vd 27 (o_extract (.tmp 22) 1) (.vd 8 (o_new [.int .i64 0, .int .i64 0, .int .i64 0]) (.v none none (o_store 3 (.tmp 8) (.tmp 26)) (.vd 9 (o_mov (.tmp 27)) .nil))))))))))
     (.seq (.ops (.vd 29 (o_mov (.tmp 0)) (.vd 30 (o_mov (.tmp 7)) (.cd 31 (fun F => c_call F 111 [(.tmp 29), (.tmp 30), (.const (.int .i64 0))]) (.vd 28 (o_mov (.tmp 31)) (.vd 32 (o_extract (.tmp 28) 0) (.vd 33 (o_extract (.tmp 28) 1) (.vd 10 (o_mov (.tmp 32)) (.vd 11 (o_mov (.tmp 33)) .nil)))))))))
     (.seq (.ops (.vd 34 (o_field 2 (.tmp 8)) (.vd 35 (o_load false 1 (.tmp 34)) (.vd 36 (o_bin .eql (.tmp 35) (.const (.int .i64 2))) (.vd 37 (o_mov (.tmp 36)) (.vg 38 37 true (o_mov (.tmp 0)) (.vg 39 37 true (o_mov (.tmp 1)) (.vg 40 37 true (o_mov (.tmp 10)) (.c (some 41) (some (37, true)) (fun F => c_call F 145 [(.tmp 38), (.tmp 39), (.tmp 40)]) (.vd 42 (o_pick (.tmp 37) (.tmp 41) (.const (.bool false))) .nil))))))))))
     (.cond (.tmp 42)
      (.seq (.ops (.vd 44 (o_mov (.tmp 0)) (.vd 45 (o_mov (.tmp 7)) (.cd 46 (fun F => c_call F 111 [(.tmp 44), (.tmp 45), (.const (.int .i64 1))]) (.vd 43 (o_mov (.tmp 46)) (.vd 47 (o_extract (.tmp 43) 0) (.vd 48 (o_extract (.tmp 43) 1) (.vd 12 (o_mov (.tmp 47)) (.vd 13 (o_mov (.tmp 48)) .nil)))))))))
      (.ops (.vd 49 (o_mov (.tmp 5)) (.vd 50 (o_mov (.tmp 12)) (.vd 51 (o_buildSlice 1 [.int .i64 0] 1 [(0, 1, (.tmp 50))]) (.vd 52 (o_append 1 (.tmp 49) (.tmp 51)) (.vd 5 (o_mov (.tmp 52)) .nil)))))))
      .skip))))))
    (.ops (.vd 53 (o_bin .add (.tmp 18) (.const (.int .i64 1))) (.vd 18 (o_mov (.tmp 53)) .nil)))))
def S194 : SCode := (.seq (.ops (.vd 4 (o_mov (.const (.nilSlice))) .nil))
  (.seq (.ops (.vd 5 (o_mov (.const (.nilSlice))) .nil))
  (.seq (.seq (.ops (.vd 14 (o_mov (.tmp 0)) (.vd 15 (o_mov (.tmp 1)) (.cd 16 (fun F => c_call F 143 [(.tmp 14), (.tmp 15)]) (.vd 17 (o_len (.tmp 16)) (.vd 18 (o_mov (.const (.int .i64 0))) .nil))))))
  (.block 0 (.loop S194_1)))
  (.seq (.ops (.vd 54 (o_mov (.tmp 5)) (.vd 4 (o_mov (.tmp 54)) .nil)))
  .ret))))
def X194 : FnS := .code ⟨55, 0, .skip, [.tmp 4]⟩ S194
theorem x194 : okX Go.Proofs.Tryz.prog 194 X194 := okX_of (by kernel_rfl)
def S195 : SCode := (.seq (.ops (.vd 4 (o_mov (.const (.bool false))) .nil))
  (.seq (.ops (.vd 5 (o_load false 1 (.tmp 1)) (.vd 6 (o_load false 1 (.tmp 2)) (.vd 7 (o_mov (.tmp 0)) (.cd 8 (fun F => c_call F 145 [(.tmp 5), (.tmp 6), (.tmp 7)]) (.vd 9 (o_not (.tmp 8)) (.vd 4 (o_mov (.tmp 9)) .nil)))))))
  .ret))
def X195 : FnS := .code ⟨10, 0, .skip, [.tmp 4]⟩ S195
theorem x195 : okX Go.Proofs.Tryz.prog 195 X195 := okX_of (by kernel_rfl)
def S196_1 : SCode := .seq (.seq (.ops (.vd 33 (o_mov (.tmp 8)) (.vd 34 (o_mov (.tmp 1)) (.vd 35 (o_bin .leq (.tmp 33) (.tmp 34)) .nil))))
       (.cond (.tmp 35)
        .skip
        (.exit 4)))
       (.block 5 (.seq (.ops (.vd 36 (o_mov (.tmp 0)) (.vd 37 (o_mov (.tmp 7)) (.vd 38 (o_mov (.tmp 7)) (.vd 39 (o_mov (.tmp 6)) (.vd 40 (o_bin .add (.tmp 38) (.tmp 39)) (.vd 41 (o_mov (.tmp 8)) (.vd 42 (o_mov (.tmp 2)) (.cd 43 (fun F => c_call F 237 [(.tmp 36), (.tmp 37), (.tmp 40), (.tmp 41), (.tmp 42)]) .nil)))))))))
        (.seq (.ops (.vd 44 (o_mov (.tmp 8)) (.vd 7 (o_mov (.tmp 44)) .nil)))
        (.ops (.vd 45 (o_mov (.tmp 8)) (.vd 46 (o_mov (.tmp 6)) (.vd 47 (o_bin .mul (.const (.int .i64 2)) (.tmp 46)) (.vd 48 (o_bin .add (.tmp 45) (.tmp 47)) (.vd 8 (o_mov (.tmp 48)) .nil)))))))))
def S196_2 : SCode := .seq (.seq (.ops (.vd 28 (o_mov (.tmp 6)) (.vd 29 (o_mov (.tmp 1)) (.vd 30 (o_bin .lss (.tmp 28) (.tmp 29)) .nil))))
    (.cond (.tmp 30)
     .skip
     (.exit 2)))
    (.block 3 (.seq (.ops (.vd 31 (o_mov (.tmp 6)) (.vd 32 (o_bin .mul (.const (.int .i64 2)) (.tmp 31)) (.vd 7 (o_mov (.const (.int .i64 0))) (.vd 8 (o_mov (.tmp 32)) .nil)))))
     (.seq (.block 4 (.loop S196_1))
     (.seq (.seq (.ops (.vd 49 (o_mov (.tmp 7)) (.vd 50 (o_mov (.tmp 6)) (.vd 51 (o_bin .add (.tmp 49) (.tmp 50)) (.vd 9 (o_mov (.tmp 51)) .nil)))))
     (.seq (.ops (.vd 52 (o_mov (.tmp 9)) (.vd 53 (o_mov (.tmp 1)) (.vd 54 (o_bin .lss (.tmp 52) (.tmp 53)) .nil))))
     (.cond (.tmp 54)
      (.ops (.vd 55 (o_mov (.tmp 0)) (.vd 56 (o_mov (.tmp 7)) (.vd 57 (o_mov (.tmp 9)) (.vd 58 (o_mov (.tmp 1)) (.vd 59 (o_mov (.tmp 2)) (.cd 60 (fun F => c_call F 237 [(.tmp 55), (.tmp 56), (.tmp 57), (.tmp 58), (.tmp 59)]) .nil)))))))
      .skip)))
     (.ops (.vd 61 (o_mov (.tmp 6)) (.vd 62 (o_bin .mul (.tmp 61) (.const (.int .i64 2))) (.vd 6 (o_mov (.tmp 62)) .nil))))))))
def S196_3 : SCode := .seq (.seq (.ops (.vd 11 (o_mov (.tmp 8)) (.vd 12 (o_mov (.tmp 1)) (.vd 13 (o_bin .leq (.tmp 11) (.tmp 12)) .nil))))
    (.cond (.tmp 13)
     .skip
     (.exit 0)))
    (.block 1 (.seq (.ops (.vd 14 (o_mov (.tmp 0)) (.vd 15 (o_mov (.tmp 7)) (.vd 16 (o_mov (.tmp 8)) (.vd 17 (o_mov (.tmp 2)) (.cd 18 (fun F => c_call F 236 [(.tmp 14), (.tmp 15), (.tmp 16), (.tmp 17)]) .nil))))))
     (.seq (.ops (.vd 19 (o_mov (.tmp 8)) (.vd 7 (o_mov (.tmp 19)) .nil)))
     (.ops (.vd 20 (o_mov (.tmp 8)) (.vd 21 (o_mov (.tmp 6)) (.vd 22 (o_bin .add (.tmp 20) (.tmp 21)) (.vd 8 (o_mov (.tmp 22)) .nil))))))))
def S196 : SCode := (.seq (.ops (.vd 6 (o_mov (.const (.int .i64 20))) .nil))
  (.seq (.ops (.vd 10 (o_mov (.tmp 6)) (.vd 7 (o_mov (.const (.int .i64 0))) (.vd 8 (o_mov (.tmp 10)) .nil))))
  (.seq (.block 0 (.loop S196_3))
  (.seq (.ops (.vd 23 (o_mov (.tmp 0)) (.vd 24 (o_mov (.tmp 7)) (.vd 25 (o_mov (.tmp 1)) (.vd 26 (o_mov (.tmp 2)) (.cd 27 (fun F => c_call F 236 [(.tmp 23), (.tmp 24), (.tmp 25), (.tmp 26)]) .nil))))))
  (.block 2 (.loop S196_2))))))
def X196 : FnS := .code ⟨63, 0, .skip, []⟩ S196
theorem x196 : okX Go.Proofs.Tryz.prog 196 X196 := okX_of (by kernel_rfl)
def S197_1 : SCode := .seq (.seq (.dregion [⟨⟨some 16, none, .mov (.tmp 7)⟩, 0, 0, 0⟩, ⟨⟨some 17, none, .mov (.tmp 1)⟩, 1, 0, 0⟩, ⟨⟨some 18, none, .bin .gtr (.tmp 16) (.tmp 17)⟩, 2, 0, 0⟩, ⟨⟨some 19, none, .mov (.tmp 18)⟩, 3, 0, 0⟩, ⟨⟨some 20, some (19, true), .mov (.tmp 0)⟩, 4, 0, 0⟩, ⟨⟨some 21, some (19, true), .mov (.tmp 7)⟩, 5, 0, 0⟩, ⟨⟨some 22, some (19, true), .index 1 (.tmp 20) (.tmp 21)⟩, 6, 0, 0⟩, ⟨⟨some 23, some (19, true), .load false 1 (.tmp 22)⟩, 7, 1, 0⟩, ⟨⟨some 24, some (19, true), .mov (.tmp 0)⟩, 8, 0, 0⟩, ⟨⟨some 25, some (19, true), .mov (.tmp 7)⟩, 9, 0, 0⟩, ⟨⟨some 26, some (19, true), .bin .sub (.tmp 25) (.const (.int .i64 1))⟩, 10, 0, 0⟩, ⟨⟨some 27, some (19, true), .index 1 (.tmp 24) (.tmp 26)⟩, 11, 0, 0⟩, ⟨⟨some 28, some (19, true), .load false 1 (.tmp 27)⟩, 12, 1, 0⟩, ⟨⟨some 29, some (19, true), .call 203 [(.tmp 23), (.tmp 28)]⟩, 13, 3, 0⟩, ⟨⟨some 30, none, .pick (.tmp 19) (.tmp 29) (.const (.bool false))⟩, 14, 0, 1⟩])
       (.cond (.tmp 30)
        .skip
        (.exit 2)))
       (.seq (.block 3 (.dregion [⟨⟨some 33, none, .mov (.tmp 0)⟩, 0, 0, 0⟩, ⟨⟨some 34, none, .mov (.tmp 7)⟩, 1, 0, 0⟩, ⟨⟨some 38, none, .mov (.tmp 0)⟩, 5, 0, 0⟩, ⟨⟨some 39, none, .mov (.tmp 7)⟩, 6, 0, 0⟩, ⟨⟨some 40, none, .bin .sub (.tmp 39) (.const (.int .i64 1))⟩, 7, 0, 0⟩, ⟨⟨some 41, none, .index 1 (.tmp 38) (.tmp 40)⟩, 8, 0, 0⟩, ⟨⟨some 42, none, .load false 1 (.tmp 41)⟩, 9, 1, 0⟩, ⟨⟨some 43, none, .mov (.tmp 0)⟩, 10, 0, 0⟩, ⟨⟨some 44, none, .mov (.tmp 7)⟩, 11, 0, 0⟩, ⟨⟨some 45, none, .index 1 (.tmp 43) (.tmp 44)⟩, 12, 0, 0⟩, ⟨⟨some 46, none, .load false 1 (.tmp 45)⟩, 13, 1, 0⟩, ⟨⟨some 47, none, .index 1 (.tmp 33) (.tmp 34)⟩, 14, 0, 0⟩, ⟨⟨none, none, .store 1 (.tmp 47) (.tmp 42)⟩, 15, 3, 0⟩, ⟨⟨some 35, none, .mov (.tmp 0)⟩, 2, 0, 0⟩, ⟨⟨some 36, none, .mov (.tmp 7)⟩, 3, 0, 0⟩, ⟨⟨some 37, none, .bin .sub (.tmp 36) (.const (.int .i64 1))⟩, 4, 0, 0⟩, ⟨⟨some 48, none, .index 1 (.tmp 35) (.tmp 37)⟩, 16, 0, 1⟩, ⟨⟨none, none, .store 1 (.tmp 48) (.tmp 46)⟩, 17, 3, 1⟩]))
       (.ops (.vd 31 (o_mov (.tmp 7)) (.vd 32 (o_bin .sub (.tmp 31) (.const (.int .i64 1))) (.vd 7 (o_mov (.tmp 32)) .nil)))))
def S197_2 : SCode := .seq (.seq (.ops (.vd 10 (o_mov (.tmp 6)) (.vd 11 (o_mov (.tmp 2)) (.vd 12 (o_bin .lss (.tmp 10) (.tmp 11)) .nil))))
    (.cond (.tmp 12)
     .skip
     (.exit 0)))
    (.seq (.block 1 (.seq (.ops (.vd 15 (o_mov (.tmp 6)) (.vd 7 (o_mov (.tmp 15)) .nil)))
     (.block 2 (.loop S197_1))))
    (.ops (.vd 13 (o_mov (.tmp 6)) (.vd 14 (o_bin .add (.tmp 13) (.const (.int .i64 1))) (.vd 6 (o_mov (.tmp 14)) .nil)))))
def S197 : SCode := (.seq (.ops (.vd 8 (o_mov (.tmp 1)) (.vd 9 (o_bin .add (.tmp 8) (.const (.int .i64 1))) (.vd 6 (o_mov (.tmp 9)) .nil))))
  (.block 0 (.loop S197_2)))
def X197 : FnS := .code ⟨49, 0, .skip, []⟩ S197
theorem x197 : okX Go.Proofs.Tryz.prog 197 X197 := okX_of (by kernel_rfl)
def S203 : SCode := (.seq (.ops (.vd 4 (o_mov (.const (.bool false))) .nil))
  (.seq (.ops (.vd 5 (o_mov (.tmp 0)) (.cd 6 (fun F => c_call F 243 [(.tmp 5)]) (.vd 7 (o_mov (.tmp 6)) (.vg 8 7 true (o_mov (.tmp 1)) (.c (some 9) (some (7, true)) (fun F => c_call F 243 [(.tmp 8)]) (.vg 10 7 true (o_not (.tmp 9)) (.vd 11 (o_pick (.tmp 7) (.tmp 10) (.const (.bool false))) (.vd 12 (o_mov (.tmp 11)) (.vg 13 12 false (o_mov (.tmp 0)) (.vg 14 12 false (o_mov (.tmp 1)) (.vg 15 12 false (o_bin .lss (.tmp 13) (.tmp 14)) (.vd 16 (o_pick (.tmp 12) (.const (.bool true)) (.tmp 15)) (.vd 4 (o_mov (.tmp 16)) .nil))))))))))))))
  .ret))
def X203 : FnS := .code ⟨17, 0, .skip, [.tmp 4]⟩ S203
theorem x203 : okX Go.Proofs.Tryz.prog 203 X203 := okX_of (by kernel_rfl)
def S207 : SCode := (.seq (.ops (.vd 2 (o_mov (.const (.int .i64 0))) .nil))
  (.seq (.seq (.ops (.vd 3 (o_mov (.tmp 0)) (.vd 4 (o_bin .geq (.tmp 3) (.const (.int .u64 4294967296))) .nil)))
  (.cond (.tmp 4)
   (.seq (.ops (.vd 5 (o_mov (.tmp 0)) (.vd 6 (o_shift .shr (.tmp 5) (.const (.int .u64 32))) (.vd 0 (o_mov (.tmp 6)) .nil))))
   (.ops (.vd 2 (o_mov (.const (.int .i64 32))) .nil)))
   .skip))
  (.seq (.seq (.ops (.vd 7 (o_mov (.tmp 0)) (.vd 8 (o_bin .geq (.tmp 7) (.const (.int .u64 65536))) .nil)))
  (.cond (.tmp 8)
   (.seq (.ops (.vd 9 (o_mov (.tmp 0)) (.vd 10 (o_shift .shr (.tmp 9) (.const (.int .u64 16))) (.vd 0 (o_mov (.tmp 10)) .nil))))
   (.ops (.vd 11 (o_mov (.tmp 2)) (.vd 12 (o_bin .add (.tmp 11) (.const (.int .i64 16))) (.vd 2 (o_mov (.tmp 12)) .nil)))))
   .skip))
  (.seq (.seq (.ops (.vd 13 (o_mov (.tmp 0)) (.vd 14 (o_bin .geq (.tmp 13) (.const (.int .u64 256))) .nil)))
  (.cond (.tmp 14)
   (.seq (.ops (.vd 15 (o_mov (.tmp 0)) (.vd 16 (o_shift .shr (.tmp 15) (.const (.int .u64 8))) (.vd 0 (o_mov (.tmp 16)) .nil))))
   (.ops (.vd 17 (o_mov (.tmp 2)) (.vd 18 (o_bin .add (.tmp 17) (.const (.int .i64 8))) (.vd 2 (o_mov (.tmp 18)) .nil)))))
   .skip))
  (.seq (.ops (.vd 19 (o_mov (.tmp 2)) (.vd 20 (o_mov (.tmp 0)) (.vd 21 (o_conv .u8 (.tmp 20)) (.vd 22 (o_indexS [0, 1, 2, 2, 3, 3, 3, 3, 4, 4, 4, 4, 4, 4, 4, 4, 5, 5, 5, 5, 5, 5, 5, 5, 5, 5, 5, 5, 5, 5, 5, 5, 6, 6, 6, 6, 6, 6, 6, 6, 6, 6, 6, 6, 6, 6, 6, 6, 6, 6, 6, 6, 6, 6, 6, 6, 6, 6, 6, 6, 6, 6, 6, 6, 7, 7, 7, 7, 7, 7, 7, 7, 7, 7, 7, 7, 7, 7, 7, 7, 7, 7, 7, 7, 7, 7, 7, 7, 7, 7, 7, 7, 7, 7, 7, 7, 7, 7, 7, 7, 7, 7, 7, 7, 7, 7, 7, 7, 7, 7, 7, 7, 7, 7, 7, 7, 7, 7, 7, 7, 7, 7, 7, 7, 7, 7, 7, 7, 8, 8, 8, 8, 8, 8, 8, 8, 8, 8, 8, 8, 8, 8, 8, 8, 8, 8, 8, 8, 8, 8, 8, 8, 8, 8, 8, 8, 8, 8, 8, 8, 8, 8, 8, 8, 8, 8, 8, 8, 8, 8, 8, 8, 8, 8, 8, 8, 8, 8, 8, 8, 8, 8, 8, 8, 8, 8, 8, 8, 8, 8, 8, 8, 8, 8, 8, 8, 8, 8, 8, 8, 8, 8, 8, 8, 8, 8, 8, 8, 8, 8, 8, 8, 8, 8, 8, 8, 8, 8, 8, 8, 8, 8, 8, 8, 8, 8, 8, 8, 8, 8, 8, 8, 8, 8, 8, 8, 8, 8, 8, 8, 8, 8, 8, 8, 8, 8, 8, 8, 8, 8, 8, 8, 8, 8, 8, 8] (.tmp 21)) (.vd 23 (o_conv .i64 (.tmp 22)) (.vd 24 (o_bin .add (.tmp 19) (.tmp 23)) (.vd 2 (o_mov (.tmp 24)) .nil))))))))
  .ret)))))
def X207 : FnS := .code ⟨25, 0, .skip, [.tmp 2]⟩ S207
theorem x207 : okX Go.Proofs.Tryz.prog 207 X207 := okX_of (by kernel_rfl)
def S208_1 : SCode := .seq (.seq (.ops (.vd 74 (o_mov (.tmp 12)) (.vd 75 (o_mov (.tmp 0)) (.vd 76 (o_nilCheck (.tmp 75)) (.vd 77 (o_field 0 (.tmp 76)) (.vd 78 (o_load false 1 (.tmp 77)) (.cd 79 (fun F => c_call F 30 [(.tmp 78)]) (.vd 80 (o_bin .lss (.tmp 74) (.tmp 79)) .nil))))))))
    (.cond (.tmp 80)
     .skip
     (.exit 4)))
    (.seq (.block 5 (.seq (.ops (.vd 83 (o_mov (.tmp 0)) (.vd 84 (o_nilCheck (.tmp 83)) (.vd 85 (o_field 0 (.tmp 84)) (.vd 86 (o_load false 1 (.tmp 85)) (.vd 87 (o_mov (.tmp 12)) (.vd 88 (o_mov (.tmp 1)) (.cd 89 (fun F => c_call F 38 [(.tmp 86), (.tmp 87), (.tmp 88)]) (.vd 90 (o_bin .eql (.tmp 89) (.const (.int .i64 0))) .nil)))))))))
     (.cond (.tmp 90)
      (.seq (.ops (.vd 91 (o_mov (.tmp 12)) (.vd 92 (o_bin .mul (.tmp 91) (.const (.int .i64 64))) (.vd 6 (o_mov (.tmp 92)) (.vd 7 (o_mov (.const (.bool true))) .nil)))))
      .ret)
      .skip)))
    (.ops (.vd 81 (o_mov (.tmp 12)) (.vd 82 (o_bin .add (.tmp 81) (.const (.int .i64 1))) (.vd 12 (o_mov (.tmp 82)) .nil)))))
def S208_2 : SCode := .seq (.ops (.vd 59 (o_bin .lss (.tmp 58) (.tmp 57)) .nil))
       (.seq (.cond (.tmp 59)
        .skip
        (.exit 2))
       (.seq (.block 3 (.seq (.ops (.vd 60 (o_index 2 (.tmp 56) (.tmp 58)) (.vd 61 (o_load true 2 (.tmp 60)) (.vd 11 (o_new [.int .i64 0, .int .i64 0]) (.v none none (o_store 2 (.tmp 11) (.tmp 61)) .nil)))))
        (.seq (.ops (.vd 62 (o_field 1 (.tmp 11)) (.vd 63 (o_load false 1 (.tmp 62)) (.vd 64 (o_mov (.tmp 8)) (.vd 65 (o_bin .geq (.tmp 63) (.tmp 64)) .nil)))))
        (.cond (.tmp 65)
         (.seq (.ops (.vd 66 (o_mov (.tmp 9)) (.vd 67 (o_bin .mul (.tmp 66) (.const (.int .i64 64))) (.vd 68 (o_field 0 (.tmp 11)) (.vd 69 (o_load false 1 (.tmp 68)) (.vd 70 (o_bin .mul (.tmp 69) (.const (.int .i64 8))) (.vd 71 (o_bin .add (.tmp 67) (.tmp 70)) (.vd 6 (o_mov (.tmp 71)) (.vd 7 (o_mov (.const (.bool true))) .nil)))))))))
         .ret)
         .skip))))
       (.ops (.vd 72 (o_bin .add (.tmp 58) (.const (.int .i64 1))) (.vd 58 (o_mov (.tmp 72)) .nil)))))
def S208_3 : SCode := .seq (.ops (.vd 23 (o_bin .lss (.tmp 22) (.tmp 21)) .nil))
    (.seq (.cond (.tmp 23)
     .skip
     (.exit 0))
    (.seq (.block 1 (.seq (.ops (.vd 24 (o_mov (.tmp 22)) (.vd 9 (o_mov (.tmp 24)) .nil)))
     (.seq (.seq (.ops (.vd 25 (o_mov (.tmp 0)) (.vd 26 (o_nilCheck (.tmp 25)) (.vd 27 (o_field 0 (.tmp 26)) (.vd 28 (o_load false 1 (.tmp 27)) (.vd 29 (o_mov (.tmp 9)) (.cd 30 (fun F => c_call F 58 [(.tmp 28), (.tmp 29)]) (.vd 31 (o_bin .neq (.tmp 30) (.const (.int .i64 1))) (.vd 32 (o_mov (.tmp 31)) (.vg 33 32 false (o_mov (.tmp 0)) (.vg 34 32 false (o_nilCheck (.tmp 33)) (.vg 35 32 false (o_field 0 (.tmp 34)) (.vg 36 32 false (o_load false 1 (.tmp 35)) (.vg 37 32 false (o_mov (.tmp 9)) (.c (some 38) (some (32, false)) (fun F => c_call F 86 [(.tmp 36), (.tmp 37)]) (.vg 39 32 false (o_mov (.tmp 1)) (.vg 40 32 false (o_bin .neq (.tmp 38) (.tmp 39)) (.vd 41 (o_pick (.tmp 32) (.const (.bool true)) (.tmp 40)) (.vd 42 (o_mov (.tmp 41)) (.vg 43 42 false (o_mov (.tmp 0)) (.vg 44 42 false (o_nilCheck (.tmp 43)) (.vg 45 42 false (o_field 1 (.tmp 44)) (.vg 46 42 false (o_load false 1 (.tmp 45)) (.vg 47 42 false (o_mov (.tmp 9)) (.c (some 48) (some (42, false)) (fun F => c_call F 28 [(.tmp 46), (.tmp 47)]) (.vd 49 (o_pick (.tmp 42) (.const (.bool true)) (.tmp 48)) .nil))))))))))))))))))))))))))
     (.cond (.tmp 49)
      (.exit 1)
      .skip))
     (.seq (.ops (.vd 50 (o_mov (.tmp 0)) (.vd 51 (o_nilCheck (.tmp 50)) (.vd 52 (o_field 0 (.tmp 51)) (.vd 53 (o_load false 1 (.tmp 52)) (.vd 54 (o_mov (.tmp 9)) (.cd 55 (fun F => c_call F 76 [(.tmp 53), (.tmp 54), (.const (.func 77 []))]) (.cd 56 (fun F => c_call F 78 [(.tmp 55)]) (.vd 57 (o_len (.tmp 56)) (.vd 58 (o_mov (.const (.int .i64 0))) .nil))))))))))
     (.block 2 (.loop S208_2))))))
    (.ops (.vd 73 (o_bin .add (.tmp 22) (.const (.int .i64 1))) (.vd 22 (o_mov (.tmp 73)) .nil)))))
def S208 : SCode := (.seq (.ops (.vd 6 (o_mov (.const (.int .i64 0))) (.vd 7 (o_mov (.const (.bool false))) .nil)))
  (.seq (.ops (.vd 13 (o_mov (.tmp 2)) (.vd 14 (o_bin .add (.tmp 13) (.const (.int .i64 8))) (.vd 15 (o_bin .sub (.tmp 14) (.const (.int .i64 1))) (.vd 16 (o_bin .quo (.tmp 15) (.const (.int .i64 8))) (.vd 8 (o_mov (.tmp 16)) .nil))))))
  (.seq (.seq (.ops (.vd 17 (o_mov (.tmp 0)) (.vd 18 (o_nilCheck (.tmp 17)) (.vd 19 (o_field 0 (.tmp 18)) (.vd 20 (o_load false 1 (.tmp 19)) (.cd 21 (fun F => c_call F 30 [(.tmp 20)]) (.vd 22 (o_mov (.const (.int .i64 0))) .nil)))))))
  (.block 0 (.loop S208_3)))
  (.seq (.seq (.ops (.vd 12 (o_mov (.const (.int .i64 1))) .nil))
  (.block 4 (.loop S208_1)))
  (.seq (.ops (.vd 6 (o_mov (.const (.int .i64 0))) (.vd 7 (o_mov (.const (.bool false))) .nil)))
  .ret)))))
def X208 : FnS := .code ⟨93, 0, .skip, [.tmp 6, .tmp 7]⟩ S208
theorem x208 : okX Go.Proofs.Tryz.prog 208 X208 := okX_of (by kernel_rfl)
def S210_1 : SCode := .seq (.ops (.vd 9 (o_bin .lss (.tmp 8) (.tmp 7)) .nil))
    (.seq (.cond (.tmp 9)
     .skip
     (.exit 0))
    (.seq (.block 1 (.seq (.ops (.vd 10 (o_mov (.tmp 8)) (.vd 5 (o_mov (.tmp 10)) .nil)))
     (.seq (.ops (.vd 11 (o_mov (.tmp 1)) (.vd 12 (o_mov (.tmp 0)) (.vd 13 (o_mov (.tmp 5)) (.vd 14 (o_index 2 (.tmp 12) (.tmp 13)) (.vd 15 (o_load true 2 (.tmp 14)) (.cd 16 (fun F => c_callm F (.tmp 11) [(.tmp 15)] [(267, "dustcart/alloc.place", 272), (268, "dustcart/alloc.place", 277), (269, "dustcart/alloc.place", 285), (270, "dustcart/alloc.place", 286), (271, "dustcart/alloc.place", 290)]) .nil)))))))
     (.cond (.tmp 16)
      (.seq (.ops (.vd 17 (o_mov (.tmp 5)) (.vd 4 (o_mov (.tmp 17)) .nil)))
      .ret)
      .skip))))
    (.ops (.vd 18 (o_bin .add (.tmp 8) (.const (.int .i64 1))) (.vd 8 (o_mov (.tmp 18)) .nil)))))
def S210 : SCode := (.seq (.ops (.vd 4 (o_mov (.const (.int .i64 0))) .nil))
  (.seq (.seq (.ops (.vd 6 (o_mov (.tmp 0)) (.vd 7 (o_len (.tmp 6)) (.vd 8 (o_mov (.const (.int .i64 0))) .nil))))
  (.block 0 (.loop S210_1)))
  (.seq (.ops (.vd 4 (o_mov (.const (.int .i64 (-1)))) .nil))
  .ret)))
def X210 : FnS := .code ⟨19, 0, .skip, [.tmp 4]⟩ S210
theorem x210 : okX Go.Proofs.Tryz.prog 210 X210 := okX_of (by kernel_rfl)
def S211 : SCode := (.seq (.ops (.vd 3 (o_mov (.const (.bool false))) .nil))
  (.seq (.ops (.vd 4 (o_load false 1 (.tmp 1)) (.vd 5 (o_mov (.tmp 0)) (.cd 6 (fun F => c_call F 212 [(.tmp 4), (.tmp 5)]) (.vd 7 (o_not (.tmp 6)) (.vd 3 (o_mov (.tmp 7)) .nil))))))
  .ret))
def X211 : FnS := .code ⟨8, 0, .skip, [.tmp 3]⟩ S211
theorem x211 : okX Go.Proofs.Tryz.prog 211 X211 := okX_of (by kernel_rfl)
def S212 : SCode := (.seq (.ops (.vd 4 (o_mov (.const (.bool false))) .nil))
  (.seq (.ops (.vd 5 (o_mov (.tmp 1)) (.vd 6 (o_bin .geq (.tmp 5) (.const (.int .i64 0))) (.vd 7 (o_mov (.tmp 6)) (.vg 8 7 true (o_mov (.tmp 1)) (.vg 9 7 true (o_mov (.tmp 0)) (.c (some 10) (some (7, true)) (fun F => c_call F 213 [(.tmp 9)]) (.vg 11 7 true (o_bin .leq (.tmp 8) (.tmp 10)) (.vd 12 (o_pick (.tmp 7) (.tmp 11) (.const (.bool false))) (.vd 4 (o_mov (.tmp 12)) .nil))))))))))
  .ret))
def X212 : FnS := .code ⟨13, 0, .skip, [.tmp 4]⟩ S212
theorem x212 : okX Go.Proofs.Tryz.prog 212 X212 := okX_of (by kernel_rfl)
def S213 : SCode := (.seq (.ops (.vd 2 (o_mov (.const (.int .i64 0))) .nil))
  (.seq (.ops (.vd 3 (o_mov (.tmp 0)) (.vd 4 (o_nilCheck (.tmp 3)) (.vd 5 (o_field 1 (.tmp 4)) (.vd 6 (o_load false 1 (.tmp 5)) (.vd 7 (o_shift .shl (.const (.int .i64 1)) (.tmp 6)) (.vd 8 (o_bin .sub (.tmp 7) (.const (.int .i64 1))) (.vd 2 (o_mov (.tmp 8)) .nil))))))))
  .ret))
def X213 : FnS := .code ⟨9, 0, .skip, [.tmp 2]⟩ S213
theorem x213 : okX Go.Proofs.Tryz.prog 213 X213 := okX_of (by kernel_rfl)
def S214 : SCode := (.seq (.ops (.vd 3 (o_mov (.const (.nilPtr))) .nil))
  (.seq (.seq (.ops (.vd 4 (o_field 2 (.tmp 1)) (.vd 5 (o_load false 1 (.tmp 4)) (.vd 6 (o_bin .lss (.tmp 5) (.const (.int .i64 0))) (.vd 7 (o_mov (.tmp 6)) (.vg 8 7 false (o_field 2 (.tmp 1)) (.vg 9 7 false (o_load false 1 (.tmp 8)) (.vg 10 7 false (o_mov (.tmp 0)) (.vg 11 7 false (o_len (.tmp 10)) (.vg 12 7 false (o_bin .geq (.tmp 9) (.tmp 11)) (.vd 13 (o_pick (.tmp 7) (.const (.bool true)) (.tmp 12)) .nil)))))))))))
  (.cond (.tmp 13)
   (.seq (.ops (.vd 3 (o_mov (.const (.nilPtr))) .nil))
   .ret)
   .skip))
  (.seq (.ops (.vd 14 (o_mov (.tmp 0)) (.vd 15 (o_field 2 (.tmp 1)) (.vd 16 (o_load false 1 (.tmp 15)) (.vd 17 (o_index 1 (.tmp 14) (.tmp 16)) (.vd 3 (o_mov (.tmp 17)) .nil))))))
  .ret)))
def X214 : FnS := .code ⟨18, 0, .skip, [.tmp 3]⟩ S214
theorem x214 : okX Go.Proofs.Tryz.prog 214 X214 := okX_of (by kernel_rfl)
def S215_1 : SCode := .seq (.ops (.vd 29 (o_bin .lss (.tmp 28) (.tmp 27)) .nil))
       (.seq (.cond (.tmp 29)
        .skip
        (.exit 2))
       (.seq (.block 3 (.seq (.ops (.vd 30 (o_mov (.tmp 28)) (.vd 5 (o_mov (.tmp 30)) .nil)))
        (.seq (.ops (.vd 31 (o_mov (.tmp 3)) (.vd 32 (o_mov (.tmp 5)) (.vd 33 (o_build [.int .i64 0, .int .i64 0, .int .i64 0] [(0, 1, (.tmp 31)), (2, 1, (.tmp 32))]) (.vd 6 (o_new [.int .i64 0, .int .i64 0, .int .i64 0]) (.v none none (o_store 3 (.tmp 6) (.tmp 33)) .nil))))))
        (.seq (.seq (.ops (.vd 34 (o_mov (.tmp 3)) (.vd 35 (o_bin .eql (.tmp 34) (.const (.int .i64 0))) .nil)))
        (.cond (.tmp 35)
         (.ops (.vd 36 (o_mov (.tmp 5)) (.vd 37 (o_bin .quo (.tmp 36) (.const (.int .i64 16))) (.vd 38 (o_mov (.tmp 5)) (.vd 39 (o_bin .rem (.tmp 38) (.const (.int .i64 16))) (.vd 40 (o_field 1 (.tmp 6)) (.v none none (o_store 1 (.tmp 40) (.tmp 37)) (.vd 41 (o_field 2 (.tmp 6)) (.v none none (o_store 1 (.tmp 41) (.tmp 39)) .nil)))))))))
         .skip))
        (.seq (.dregion [⟨⟨some 42, none, .mov (.tmp 4)⟩, 0, 0, 0⟩, ⟨⟨some 43, none, .mov (.tmp 5)⟩, 1, 0, 0⟩, ⟨⟨some 44, none, .index 1 (.tmp 42) (.tmp 43)⟩, 2, 0, 0⟩, ⟨⟨some 45, none, .load false 1 (.tmp 44)⟩, 3, 1, 0⟩, ⟨⟨some 46, none, .bin .neq (.tmp 45) (.const (.int .i64 0))⟩, 4, 0, 0⟩, ⟨⟨some 47, none, .mov (.tmp 46)⟩, 5, 0, 0⟩, ⟨⟨some 48, some (47, true), .mov (.tmp 0)⟩, 6, 0, 0⟩, ⟨⟨some 49, some (47, true), .load true 3 (.tmp 6)⟩, 7, 1, 0⟩, ⟨⟨some 50, some (47, true), .mov (.tmp 4)⟩, 8, 0, 0⟩, ⟨⟨some 51, some (47, true), .mov (.tmp 5)⟩, 9, 0, 0⟩, ⟨⟨some 52, some (47, true), .index 1 (.tmp 50) (.tmp 51)⟩, 10, 0, 0⟩, ⟨⟨some 53, some (47, true), .callm (.tmp 48) [(.tmp 49), (.tmp 52)] [(267, "dustcart/alloc.place", 272), (268, "dustcart/alloc.place", 277), (269, "dustcart/alloc.place", 285), (270, "dustcart/alloc.place", 286), (271, "dustcart/alloc.place", 290)]⟩, 11, 3, 0⟩, ⟨⟨some 54, some (47, true), .not (.tmp 53)⟩, 12, 0, 1⟩, ⟨⟨some 55, none, .pick (.tmp 47) (.tmp 54) (.const (.bool false))⟩, 13, 0, 1⟩])
        (.cond (.tmp 55)
         .ret
         .skip))))))
       (.ops (.vd 56 (o_bin .add (.tmp 28) (.const (.int .i64 1))) (.vd 28 (o_mov (.tmp 56)) .nil)))))
def S215_2 : SCode := .seq (.ops (.vd 22 (o_bin .lss (.tmp 21) (.tmp 20)) .nil))
    (.seq (.cond (.tmp 22)
     .skip
     (.exit 0))
    (.seq (.block 1 (.seq (.ops (.vd 23 (o_mov (.tmp 21)) (.vd 24 (o_index 1 (.tmp 19) (.tmp 21)) (.vd 25 (o_load false 1 (.tmp 24)) (.vd 3 (o_mov (.tmp 23)) (.vd 4 (o_mov (.tmp 25)) .nil))))))
     (.seq (.ops (.vd 26 (o_mov (.tmp 4)) (.vd 27 (o_len (.tmp 26)) (.vd 28 (o_mov (.const (.int .i64 0))) .nil))))
     (.block 2 (.loop S215_1)))))
    (.ops (.vd 57 (o_bin .add (.tmp 21) (.const (.int .i64 1))) (.vd 21 (o_mov (.tmp 57)) .nil)))))
def S215 : SCode := (.seq (.dregion [⟨⟨some 7, none, .load false 1 (.tmp 1)⟩, 0, 1, 0⟩, ⟨⟨some 8, none, .nilCheck (.tmp 7)⟩, 1, 0, 0⟩, ⟨⟨some 9, none, .field 1 (.tmp 8)⟩, 2, 0, 0⟩, ⟨⟨some 10, none, .load false 1 (.tmp 9)⟩, 3, 1, 0⟩, ⟨⟨some 11, none, .load false 1 (.tmp 1)⟩, 4, 1, 0⟩, ⟨⟨some 12, none, .nilCheck (.tmp 11)⟩, 5, 0, 0⟩, ⟨⟨some 13, none, .field 2 (.tmp 12)⟩, 6, 0, 0⟩, ⟨⟨some 14, none, .load false 1 (.tmp 13)⟩, 7, 1, 0⟩, ⟨⟨some 15, none, .load false 1 (.tmp 1)⟩, 8, 1, 0⟩, ⟨⟨some 16, none, .nilCheck (.tmp 15)⟩, 9, 0, 0⟩, ⟨⟨some 17, none, .field 3 (.tmp 16)⟩, 10, 0, 0⟩, ⟨⟨some 18, none, .load false 1 (.tmp 17)⟩, 11, 1, 0⟩, ⟨⟨some 19, none, .buildSlice 1 [.nilSlice, .nilSlice, .nilSlice] 3 [(0, 1, (.tmp 10)), (1, 1, (.tmp 14)), (2, 1, (.tmp 18))]⟩, 12, 0, 0⟩, ⟨⟨some 20, none, .len (.tmp 19)⟩, 13, 0, 0⟩, ⟨⟨some 21, none, .mov (.const (.int .i64 0))⟩, 14, 0, 0⟩])
  (.block 0 (.loop S215_2)))
def X215 : FnS := .code ⟨58, 0, .skip, []⟩ S215
theorem x215 : okX Go.Proofs.Tryz.prog 215 X215 := okX_of (by kernel_rfl)
def S216_1 : SCode := .seq (.seq (.dregion [⟨⟨some 18, none, .mov (.tmp 9)⟩, 0, 0, 0⟩, ⟨⟨some 19, none, .mov (.tmp 1)⟩, 1, 0, 0⟩, ⟨⟨some 20, none, .bin .gtr (.tmp 18) (.tmp 19)⟩, 2, 0, 0⟩, ⟨⟨some 21, none, .mov (.tmp 20)⟩, 3, 0, 0⟩, ⟨⟨some 22, some (21, true), .mov (.tmp 3)⟩, 4, 0, 0⟩, ⟨⟨some 23, some (21, true), .mov (.tmp 0)⟩, 5, 0, 0⟩, ⟨⟨some 24, some (21, true), .mov (.tmp 9)⟩, 6, 0, 0⟩, ⟨⟨some 25, some (21, true), .index 2 (.tmp 23) (.tmp 24)⟩, 7, 0, 0⟩, ⟨⟨some 26, some (21, true), .load true 2 (.tmp 25)⟩, 8, 1, 0⟩, ⟨⟨some 27, some (21, true), .mov (.tmp 0)⟩, 9, 0, 0⟩, ⟨⟨some 28, some (21, true), .mov (.tmp 9)⟩, 10, 0, 0⟩, ⟨⟨some 29, some (21, true), .bin .sub (.tmp 28) (.const (.int .i64 1))⟩, 11, 0, 0⟩, ⟨⟨some 30, some (21, true), .index 2 (.tmp 27) (.tmp 29)⟩, 12, 0, 0⟩, ⟨⟨some 31, some (21, true), .load true 2 (.tmp 30)⟩, 13, 1, 0⟩, ⟨⟨some 32, some (21, true), .callm (.tmp 22) [(.tmp 26), (.tmp 31)] [(267, "dustcart/alloc.place", 272), (268, "dustcart/alloc.place", 277), (269, "dustcart/alloc.place", 285), (270, "dustcart/alloc.place", 286), (271, "dustcart/alloc.place", 290)]⟩, 14, 3, 0⟩, ⟨⟨some 33, some (21, true), .bin .lss (.tmp 32) (.const (.int .i64 0))⟩, 15, 0, 1⟩, ⟨⟨some 34, none, .pick (.tmp 21) (.tmp 33) (.const (.bool false))⟩, 16, 0, 1⟩])
       (.cond (.tmp 34)
        .skip
        (.exit 2)))
       (.seq (.block 3 (.dregion [⟨⟨some 37, none, .mov (.tmp 0)⟩, 0, 0, 0⟩, ⟨⟨some 38, none, .mov (.tmp 9)⟩, 1, 0, 0⟩, ⟨⟨some 42, none, .mov (.tmp 0)⟩, 5, 0, 0⟩, ⟨⟨some 43, none, .mov (.tmp 9)⟩, 6, 0, 0⟩, ⟨⟨some 44, none, .bin .sub (.tmp 43) (.const (.int .i64 1))⟩, 7, 0, 0⟩, ⟨⟨some 45, none, .index 2 (.tmp 42) (.tmp 44)⟩, 8, 0, 0⟩, ⟨⟨some 46, none, .load true 2 (.tmp 45)⟩, 9, 1, 0⟩, ⟨⟨some 47, none, .mov (.tmp 0)⟩, 10, 0, 0⟩, ⟨⟨some 48, none, .mov (.tmp 9)⟩, 11, 0, 0⟩, ⟨⟨some 49, none, .index 2 (.tmp 47) (.tmp 48)⟩, 12, 0, 0⟩, ⟨⟨some 50, none, .load true 2 (.tmp 49)⟩, 13, 1, 0⟩, ⟨⟨some 51, none, .index 2 (.tmp 37) (.tmp 38)⟩, 14, 0, 0⟩, ⟨⟨none, none, .store 2 (.tmp 51) (.tmp 46)⟩, 15, 3, 0⟩, ⟨⟨some 39, none, .mov (.tmp 0)⟩, 2, 0, 0⟩, ⟨⟨some 40, none, .mov (.tmp 9)⟩, 3, 0, 0⟩, ⟨⟨some 41, none, .bin .sub (.tmp 40) (.const (.int .i64 1))⟩, 4, 0, 0⟩, ⟨⟨some 52, none, .index 2 (.tmp 39) (.tmp 41)⟩, 16, 0, 1⟩, ⟨⟨none, none, .store 2 (.tmp 52) (.tmp 50)⟩, 17, 3, 1⟩]))
       (.ops (.vd 35 (o_mov (.tmp 9)) (.vd 36 (o_bin .sub (.tmp 35) (.const (.int .i64 1))) (.vd 9 (o_mov (.tmp 36)) .nil)))))
def S216_2 : SCode := .seq (.seq (.ops (.vd 12 (o_mov (.tmp 8)) (.vd 13 (o_mov (.tmp 2)) (.vd 14 (o_bin .lss (.tmp 12) (.tmp 13)) .nil))))
    (.cond (.tmp 14)
     .skip
     (.exit 0)))
    (.seq (.block 1 (.seq (.ops (.vd 17 (o_mov (.tmp 8)) (.vd 9 (o_mov (.tmp 17)) .nil)))
     (.block 2 (.loop S216_1))))
    (.ops (.vd 15 (o_mov (.tmp 8)) (.vd 16 (o_bin .add (.tmp 15) (.const (.int .i64 1))) (.vd 8 (o_mov (.tmp 16)) .nil)))))
def S216 : SCode := (.seq (.ops (.vd 10 (o_mov (.tmp 1)) (.vd 11 (o_bin .add (.tmp 10) (.const (.int .i64 1))) (.vd 8 (o_mov (.tmp 11)) .nil))))
  (.block 0 (.loop S216_2)))
def X216 : FnS := .code ⟨53, 0, .skip, []⟩ S216
theorem x216 : okX Go.Proofs.Tryz.prog 216 X216 := okX_of (by kernel_rfl)
def S232 : SCode := (.seq (.ops (.vd 8 (o_mov (.const (.bool false))) (.vd 9 (o_mov (.const (.int .i64 0))) .nil)))
  (.seq (.seq (.ops (.vd 11 (o_mov (.tmp 0)) (.vd 12 (o_mov (.tmp 1)) (.vd 13 (o_mov (.tmp 2)) (.vd 14 (o_mov (.tmp 3)) (.vd 15 (o_buildSlice 1 [.int .i64 0, .int .i64 0] 2 [(0, 1, (.tmp 13)), (1, 1, (.tmp 14))]) (.cd 16 (fun F => c_call F 164 [(.tmp 11), (.tmp 12), (.tmp 15)]) (.vd 10 (o_mov (.tmp 16)) .nil))))))))
  (.seq (.ops (.vd 17 (o_mov (.tmp 10)) (.vd 18 (o_bin .neq (.tmp 17) (.const (.int .i64 0))) .nil)))
  (.cond (.tmp 18)
   (.seq (.ops (.vd 19 (o_mov (.tmp 10)) (.vd 8 (o_mov (.const (.bool false))) (.vd 9 (o_mov (.tmp 19)) .nil))))
   .ret)
   .skip)))
  (.seq (.seq (.ops (.vd 20 (o_mov (.tmp 0)) (.vd 21 (o_mov (.tmp 1)) (.cd 22 (fun F => c_call F 169 [(.tmp 20), (.tmp 21)]) (.vd 23 (o_mov (.tmp 2)) (.vd 24 (o_bin .neq (.tmp 22) (.tmp 23)) .nil))))))
  (.cond (.tmp 24)
   (.seq (.ops (.vd 8 (o_mov (.const (.bool false))) (.vd 9 (o_mov (.const (.int .i64 0))) .nil)))
   .ret)
   .skip))
  (.seq (.ops (.vd 25 (o_mov (.tmp 0)) (.vd 26 (o_mov (.tmp 1)) (.vd 27 (o_mov (.tmp 3)) (.cd 28 (fun F => c_call F 165 [(.tmp 25), (.tmp 26), (.tmp 27)]) .nil)))))
  (.seq (.ops (.vd 8 (o_mov (.const (.bool true))) (.vd 9 (o_mov (.const (.int .i64 0))) .nil)))
  .ret)))))
def X232 : FnS := .code ⟨29, 0, .skip, [.tmp 8, .tmp 9]⟩ S232
theorem x232 : okX Go.Proofs.Tryz.prog 232 X232 := okX_of (by kernel_rfl)
def S233 : SCode := (.seq (.ops (.vd 2 (o_mov (.const (.int .i64 0))) .nil))
  (.seq (.dregion [⟨⟨some 4, none, .mov (.tmp 0)⟩, 0, 0, 0⟩, ⟨⟨some 5, none, .nilCheck (.tmp 4)⟩, 1, 0, 0⟩, ⟨⟨some 6, none, .field 0 (.tmp 5)⟩, 2, 0, 0⟩, ⟨⟨some 7, none, .load false 1 (.tmp 6)⟩, 3, 1, 0⟩, ⟨⟨some 8, none, .mov (.tmp 0)⟩, 4, 0, 0⟩, ⟨⟨some 9, none, .nilCheck (.tmp 8)⟩, 5, 0, 0⟩, ⟨⟨some 10, none, .field 0 (.tmp 9)⟩, 6, 0, 0⟩, ⟨⟨some 11, none, .load false 1 (.tmp 10)⟩, 7, 1, 0⟩, ⟨⟨some 12, none, .len (.tmp 11)⟩, 8, 0, 0⟩, ⟨⟨some 13, none, .bin .sub (.tmp 12) (.const (.int .i64 1))⟩, 9, 0, 0⟩, ⟨⟨some 14, none, .index 1 (.tmp 7) (.tmp 13)⟩, 10, 0, 0⟩, ⟨⟨some 15, none, .load false 1 (.tmp 14)⟩, 11, 1, 0⟩, ⟨⟨some 3, none, .mov (.tmp 15)⟩, 12, 0, 0⟩])
  (.seq (.dregion [⟨⟨some 16, none, .mov (.tmp 0)⟩, 0, 0, 0⟩, ⟨⟨some 17, none, .mov (.tmp 0)⟩, 1, 0, 0⟩, ⟨⟨some 18, none, .nilCheck (.tmp 17)⟩, 2, 0, 0⟩, ⟨⟨some 19, none, .field 0 (.tmp 18)⟩, 3, 0, 0⟩, ⟨⟨some 20, none, .load false 1 (.tmp 19)⟩, 4, 1, 0⟩, ⟨⟨some 21, none, .mov (.tmp 0)⟩, 5, 0, 0⟩, ⟨⟨some 22, none, .nilCheck (.tmp 21)⟩, 6, 0, 0⟩, ⟨⟨some 23, none, .field 0 (.tmp 22)⟩, 7, 0, 0⟩, ⟨⟨some 24, none, .load false 1 (.tmp 23)⟩, 8, 1, 0⟩, ⟨⟨some 25, none, .len (.tmp 24)⟩, 9, 0, 0⟩, ⟨⟨some 26, none, .bin .sub (.tmp 25) (.const (.int .i64 1))⟩, 10, 0, 0⟩, ⟨⟨some 27, none, .slice 1 (.tmp 20) none (some (.tmp 26)) none⟩, 11, 0, 0⟩, ⟨⟨some 28, none, .nilCheck (.tmp 16)⟩, 12, 0, 0⟩, ⟨⟨some 29, none, .field 0 (.tmp 28)⟩, 13, 0, 0⟩, ⟨⟨none, none, .store 1 (.tmp 29) (.tmp 27)⟩, 14, 3, 0⟩])
  (.seq (.ops (.vd 30 (o_mov (.tmp 3)) (.vd 2 (o_mov (.tmp 30)) .nil)))
  .ret))))
def X233 : FnS := .code ⟨31, 0, .skip, [.tmp 2]⟩ S233
theorem x233 : okX Go.Proofs.Tryz.prog 233 X233 := okX_of (by kernel_rfl)
def S235_1 : SCode := .seq (.seq (.ops (.vd 19 (o_mov (.tmp 8)) (.vd 20 (o_field 0 (.tmp 5)) (.vd 21 (o_load false 1 (.tmp 20)) (.vd 22 (o_bin .lss (.tmp 19) (.tmp 21)) .nil)))))
    (.cond (.tmp 22)
     .skip
     (.exit 0)))
    (.seq (.block 1 (.seq (.ops (.vd 26 (o_mov (.tmp 0)) (.vd 27 (o_mov (.tmp 1)) (.vd 28 (o_mov (.tmp 8)) (.cd 29 (fun F => c_call F 111 [(.tmp 26), (.tmp 27), (.tmp 28)]) (.vd 25 (o_mov (.tmp 29)) (.vd 30 (o_extract (.tmp 25) 0) (.vd 31 (o_extract (.tmp 25) 1) (.vd 9 (o_mov (.tmp 30)) (.vd 10 (o_mov (.tmp 31)) .nil))))))))))
     (.ops (.vd 32 (o_mov (.tmp 7)) (.vd 33 (o_mov (.tmp 9)) (.vd 34 (o_buildSlice 1 [.int .i64 0] 1 [(0, 1, (.tmp 33))]) (.vd 35 (o_append 1 (.tmp 32) (.tmp 34)) (.vd 7 (o_mov (.tmp 35)) .nil))))))))
    (.ops (.vd 23 (o_mov (.tmp 8)) (.vd 24 (o_bin .add (.tmp 23) (.const (.int .i64 1))) (.vd 8 (o_mov (.tmp 24)) .nil)))))
def S235 : SCode := (.seq (.ops (.vd 4 (o_mov (.const (.nilSlice))) .nil))
  (.seq (.ops (.vd 12 (o_mov (.tmp 0)) (.vd 13 (o_mov (.tmp 1)) (.cd 14 (fun F => c_call F 109 [(.tmp 12), (.tmp 13)]) (.vd 11 (o_mov (.tmp 14)) (.vd 15 (o_extract (.tmp 11) 0) (.vd 16 (o_extract (.tmp 11) 1) (.vd 5 (o_new [.int .i64 0, .int .i64 0, .int .i64 0]) (.v none none (o_store 3 (.tmp 5) (.tmp 15)) (.vd 6 (o_mov (.tmp 16)) .nil))))))))))
  (.seq (.ops (.vd 7 (o_mov (.const (.nilSlice))) .nil))
  (.seq (.seq (.ops (.vd 17 (o_load true 3 (.tmp 5)) (.cd 18 (fun F => c_call F 144 [(.tmp 17)]) (.vd 8 (o_mov (.tmp 18)) .nil))))
  (.block 0 (.loop S235_1)))
  (.seq (.ops (.vd 36 (o_mov (.tmp 7)) (.vd 4 (o_mov (.tmp 36)) .nil)))
  .ret)))))
def X235 : FnS := .code ⟨37, 0, .skip, [.tmp 4]⟩ S235
theorem x235 : okX Go.Proofs.Tryz.prog 235 X235 := okX_of (by kernel_rfl)
def S236_1 : SCode := .seq (.seq (.dregion [⟨⟨some 18, none, .mov (.tmp 9)⟩, 0, 0, 0⟩, ⟨⟨some 19, none, .mov (.tmp 1)⟩, 1, 0, 0⟩, ⟨⟨some 20, none, .bin .gtr (.tmp 18) (.tmp 19)⟩, 2, 0, 0⟩, ⟨⟨some 21, none, .mov (.tmp 20)⟩, 3, 0, 0⟩, ⟨⟨some 22, some (21, true), .mov (.tmp 3)⟩, 4, 0, 0⟩, ⟨⟨some 23, some (21, true), .mov (.tmp 0)⟩, 5, 0, 0⟩, ⟨⟨some 24, some (21, true), .mov (.tmp 9)⟩, 6, 0, 0⟩, ⟨⟨some 25, some (21, true), .index 3 (.tmp 23) (.tmp 24)⟩, 7, 0, 0⟩, ⟨⟨some 26, some (21, true), .load true 3 (.tmp 25)⟩, 8, 1, 0⟩, ⟨⟨some 27, some (21, true), .mov (.tmp 0)⟩, 9, 0, 0⟩, ⟨⟨some 28, some (21, true), .mov (.tmp 9)⟩, 10, 0, 0⟩, ⟨⟨some 29, some (21, true), .bin .sub (.tmp 28) (.const (.int .i64 1))⟩, 11, 0, 0⟩, ⟨⟨some 30, some (21, true), .index 3 (.tmp 27) (.tmp 29)⟩, 12, 0, 0⟩, ⟨⟨some 31, some (21, true), .load true 3 (.tmp 30)⟩, 13, 1, 0⟩, ⟨⟨some 32, some (21, true), .callm (.tmp 22) [(.tmp 26), (.tmp 31)] [(267, "dustcart/alloc.place", 272), (268, "dustcart/alloc.place", 277), (269, "dustcart/alloc.place", 285), (270, "dustcart/alloc.place", 286), (271, "dustcart/alloc.place", 290)]⟩, 14, 3, 0⟩, ⟨⟨some 33, some (21, true), .bin .lss (.tmp 32) (.const (.int .i64 0))⟩, 15, 0, 1⟩, ⟨⟨some 34, none, .pick (.tmp 21) (.tmp 33) (.const (.bool false))⟩, 16, 0, 1⟩])
       (.cond (.tmp 34)
        .skip
        (.exit 2)))
       (.seq (.block 3 (.dregion [⟨⟨some 37, none, .mov (.tmp 0)⟩, 0, 0, 0⟩, ⟨⟨some 38, none, .mov (.tmp 9)⟩, 1, 0, 0⟩, ⟨⟨some 42, none, .mov (.tmp 0)⟩, 5, 0, 0⟩, ⟨⟨some 43, none, .mov (.tmp 9)⟩, 6, 0, 0⟩, ⟨⟨some 44, none, .bin .sub (.tmp 43) (.const (.int .i64 1))⟩, 7, 0, 0⟩, ⟨⟨some 45, none, .index 3 (.tmp 42) (.tmp 44)⟩, 8, 0, 0⟩, ⟨⟨some 46, none, .load true 3 (.tmp 45)⟩, 9, 1, 0⟩, ⟨⟨some 47, none, .mov (.tmp 0)⟩, 10, 0, 0⟩, ⟨⟨some 48, none, .mov (.tmp 9)⟩, 11, 0, 0⟩, ⟨⟨some 49, none, .index 3 (.tmp 47) (.tmp 48)⟩, 12, 0, 0⟩, ⟨⟨some 50, none, .load true 3 (.tmp 49)⟩, 13, 1, 0⟩, ⟨⟨some 51, none, .index 3 (.tmp 37) (.tmp 38)⟩, 14, 0, 0⟩, ⟨⟨none, none, .store 3 (.tmp 51) (.tmp 46)⟩, 15, 3, 0⟩, ⟨⟨some 39, none, .mov (.tmp 0)⟩, 2, 0, 0⟩, ⟨⟨some 40, none, .mov (.tmp 9)⟩, 3, 0, 0⟩, ⟨⟨some 41, none, .bin .sub (.tmp 40) (.const (.int .i64 1))⟩, 4, 0, 0⟩, ⟨⟨some 52, none, .index 3 (.tmp 39) (.tmp 41)⟩, 16, 0, 1⟩, ⟨⟨none, none, .store 3 (.tmp 52) (.tmp 50)⟩, 17, 3, 1⟩]))
       (.ops (.vd 35 (o_mov (.tmp 9)) (.vd 36 (o_bin .sub (.tmp 35) (.const (.int .i64 1))) (.vd 9 (o_mov (.tmp 36)) .nil)))))
def S236_2 : SCode := .seq (.seq (.ops (.vd 12 (o_mov (.tmp 8)) (.vd 13 (o_mov (.tmp 2)) (.vd 14 (o_bin .lss (.tmp 12) (.tmp 13)) .nil))))
    (.cond (.tmp 14)
     .skip
     (.exit 0)))
    (.seq (.block 1 (.seq (.ops (.vd 17 (o_mov (.tmp 8)) (.vd 9 (o_mov (.tmp 17)) .nil)))
     (.block 2 (.loop S236_1))))
    (.ops (.vd 15 (o_mov (.tmp 8)) (.vd 16 (o_bin .add (.tmp 15) (.const (.int .i64 1))) (.vd 8 (o_mov (.tmp 16)) .nil)))))
def S236 : SCode := (.seq (.ops (.vd 10 (o_mov (.tmp 1)) (.vd 11 (o_bin .add (.tmp 10) (.const (.int .i64 1))) (.vd 8 (o_mov (.tmp 11)) .nil))))
  (.block 0 (.loop S236_2)))
def X236 : FnS := .code ⟨53, 0, .skip, []⟩ S236
theorem x236 : okX Go.Proofs.Tryz.prog 236 X236 := okX_of (by kernel_rfl)
def S243 : SCode := (.seq (.ops (.vd 2 (o_mov (.const (.bool false))) .nil))
  (.seq (.ops (.vd 3 (o_mov (.tmp 0)) (.vd 4 (o_mov (.tmp 0)) (.vd 5 (o_bin .neq (.tmp 3) (.tmp 4)) (.vd 2 (o_mov (.tmp 5)) .nil)))))
  .ret))
def X243 : FnS := .code ⟨6, 0, .skip, [.tmp 2]⟩ S243
theorem x243 : okX Go.Proofs.Tryz.prog 243 X243 := okX_of (by kernel_rfl)
end Go.Cs.Tryz

/- The table of the turned functions, for the evaluator. -/
noncomputable section
namespace Go.Cs.Tryz
open Go Go.Cs Go.Cs.K
set_option maxRecDepth 100000
def tlo : Tr FnS := (.node none (.node none (.node none (.node (some X7) (.node none (.node (some X31) (.node (some X63) .nil (.node (some X191) .nil .nil)) (.node (some X95) (.node (some X159) .nil .nil) .nil)) (.node none (.node (some X79) (.node (some X143) .nil .nil) (.node (some X207) .nil .nil)) (.node (some X111) (.node (some X175) .nil .nil) .nil))) (.node (some X23) (.node (some X39) (.node (some X71) (.node (some X135) .nil .nil) .nil) (.node none (.node (some X167) .nil .nil) .nil)) (.node (some X55) (.node (some X87) (.node (some X151) .nil .nil) (.node (some X215) .nil .nil)) (.node (some X119) .nil .nil)))) (.node none (.node none (.node (some X35) (.node none (.node (some X131) .nil .nil) (.node (some X195) .nil .nil)) (.node (some X99) (.node (some X163) .nil .nil) .nil)) (.node none (.node (some X83) (.node (some X147) .nil .nil) (.node (some X211) .nil .nil)) (.node (some X115) .nil (.node (some X243) .nil .nil)))) (.node (some X27) (.node none (.node (some X75) (.node (some X139) .nil .nil) (.node (some X203) .nil .nil)) (.node (some X107) .nil (.node (some X235) .nil .nil))) (.node none (.node (some X91) .nil .nil) .nil)))) (.node none (.node (some X9) (.node none (.node none (.node none .nil (.node (some X193) .nil .nil)) (.node none (.node (some X161) .nil .nil) .nil)) (.node none (.node none (.node (some X145) .nil .nil) .nil) .nil)) (.node (some X25) (.node (some X41) (.node (some X73) (.node (some X137) .nil .nil) .nil) (.node none (.node (some X169) .nil .nil) (.node (some X233) .nil .nil))) (.node none (.node none (.node (some X153) .nil .nil) .nil) .nil))) (.node none (.node none (.node none (.node (some X69) (.node (some X133) .nil .nil) (.node (some X197) .nil .nil)) (.node (some X101) (.node (some X165) .nil .nil) .nil)) (.node (some X53) (.node none (.node (some X149) .nil .nil) (.node (some X213) .nil .nil)) .nil)) (.node none (.node none (.node (some X77) (.node (some X141) .nil .nil) .nil) (.node (some X109) (.node (some X173) .nil .nil) .nil)) (.node none (.node (some X93) .nil .nil) .nil))))) (.node none (.node none (.node (some X8) (.node none (.node (some X32) (.node (some X64) .nil (.node (some X192) .nil .nil)) (.node (some X96) (.node (some X160) .nil .nil) .nil)) (.node none (.node (some X80) (.node (some X144) .nil .nil) (.node (some X208) .nil .nil)) .nil)) (.node (some X24) (.node none (.node (some X72) (.node (some X136) .nil .nil) .nil) (.node none (.node (some X168) .nil .nil) (.node (some X232) .nil .nil))) (.node none (.node none (.node (some X152) .nil .nil) (.node (some X216) .nil .nil)) (.node (some X120) .nil .nil)))) (.node none (.node none (.node none (.node (some X68) .nil (.node (some X196) .nil .nil)) (.node (some X100) (.node (some X164) .nil .nil) .nil)) (.node none (.node (some X84) (.node (some X148) .nil .nil) (.node (some X212) .nil .nil)) (.node (some X116) .nil .nil))) (.node (some X28) (.node (some X44) (.node (some X76) (.node (some X140) .nil .nil) .nil) (.node none (.node (some X172) .nil .nil) (.node (some X236) .nil .nil))) (.node none (.node (some X92) .nil .nil) .nil)))) (.node (some X6) (.node none (.node none (.node none (.node (some X66) .nil (.node (some X194) .nil .nil)) (.node (some X98) (.node (some X162) .nil .nil) .nil)) (.node (some X50) (.node (some X82) (.node (some X146) .nil .nil) (.node (some X210) .nil .nil)) .nil)) (.node (some X26) (.node (some X42) (.node (some X74) (.node (some X138) .nil .nil) .nil) (.node none (.node (some X170) .nil .nil) .nil)) (.node (some X58) (.node (some X90) (.node (some X154) .nil .nil) .nil) .nil))) (.node none (.node none (.node (some X38) (.node (some X70) (.node (some X134) .nil .nil) .nil) (.node none (.node (some X166) .nil .nil) .nil)) (.node (some X54) (.node (some X86) (.node (some X150) .nil .nil) (.node (some X214) .nil .nil)) (.node (some X118) .nil .nil))) (.node (some X30) (.node none (.node (some X78) (.node (some X142) .nil .nil) .nil) (.node none (.node (some X174) .nil .nil) .nil)) (.node none (.node (some X94) (.node (some X158) .nil .nil) .nil) (.node none (.node (some X190) .nil .nil) .nil)))))))
def thi : Tr FnS := (.node none (.node none .nil (.node none (.node none (.node none (.node none (.node none .nil (.node none .nil (.node none (.node none .nil (.node none .nil (.node (some X1003777) .nil .nil))) .nil))) (.node none (.node none .nil (.node none (.node none (.node none .nil (.node (some X1003233) .nil .nil)) .nil) (.node none (.node none (.node none (.node (some X1004513) .nil .nil) .nil) .nil) .nil))) .nil)) .nil) .nil) .nil)) (.node none (.node none (.node none (.node none (.node none (.node none .nil (.node none .nil (.node none (.node none .nil (.node none .nil (.node (some X1003776) .nil .nil))) .nil))) (.node none (.node none .nil (.node none (.node none (.node none .nil (.node (some X1003232) .nil .nil)) .nil) (.node none (.node none (.node none (.node (some X1004512) .nil .nil) .nil) .nil) .nil))) .nil)) .nil) .nil) .nil) .nil))
theorem glo : AllTr (fun p s => okX Go.Proofs.Tryz.prog (dec p) s) tlo := ⟨trivial, ⟨trivial, ⟨trivial, ⟨x7, ⟨trivial, ⟨x31, ⟨x63, trivial, ⟨x191, trivial, trivial⟩⟩, ⟨x95, ⟨x159, trivial, trivial⟩, trivial⟩⟩, ⟨trivial, ⟨x79, ⟨x143, trivial, trivial⟩, ⟨x207, trivial, trivial⟩⟩, ⟨x111, ⟨x175, trivial, trivial⟩, trivial⟩⟩⟩, ⟨x23, ⟨x39, ⟨x71, ⟨x135, trivial, trivial⟩, trivial⟩, ⟨trivial, ⟨x167, trivial, trivial⟩, trivial⟩⟩, ⟨x55, ⟨x87, ⟨x151, trivial, trivial⟩, ⟨x215, trivial, trivial⟩⟩, ⟨x119, trivial, trivial⟩⟩⟩⟩, ⟨trivial, ⟨trivial, ⟨x35, ⟨trivial, ⟨x131, trivial, trivial⟩, ⟨x195, trivial, trivial⟩⟩, ⟨x99, ⟨x163, trivial, trivial⟩, trivial⟩⟩, ⟨trivial, ⟨x83, ⟨x147, trivial, trivial⟩, ⟨x211, trivial, trivial⟩⟩, ⟨x115, trivial, ⟨x243, trivial, trivial⟩⟩⟩⟩, ⟨x27, ⟨trivial, ⟨x75, ⟨x139, trivial, trivial⟩, ⟨x203, trivial, trivial⟩⟩, ⟨x107, trivial, ⟨x235, trivial, trivial⟩⟩⟩, ⟨trivial, ⟨x91, trivial, trivial⟩, trivial⟩⟩⟩⟩, ⟨trivial, ⟨x9, ⟨trivial, ⟨trivial, ⟨trivial, trivial, ⟨x193, trivial, trivial⟩⟩, ⟨trivial, ⟨x161, trivial, trivial⟩, trivial⟩⟩, ⟨trivial, ⟨trivial, ⟨x145, trivial, trivial⟩, trivial⟩, trivial⟩⟩, ⟨x25, ⟨x41, ⟨x73, ⟨x137, trivial, trivial⟩, trivial⟩, ⟨trivial, ⟨x169, trivial, trivial⟩, ⟨x233, trivial, trivial⟩⟩⟩, ⟨trivial, ⟨trivial, ⟨x153, trivial, trivial⟩, trivial⟩, trivial⟩⟩⟩, ⟨trivial, ⟨trivial, ⟨trivial, ⟨x69, ⟨x133, trivial, trivial⟩, ⟨x197, trivial, trivial⟩⟩, ⟨x101, ⟨x165, trivial, trivial⟩, trivial⟩⟩, ⟨x53, ⟨trivial, ⟨x149, trivial, trivial⟩, ⟨x213, trivial, trivial⟩⟩, trivial⟩⟩, ⟨trivial, ⟨trivial, ⟨x77, ⟨x141, trivial, trivial⟩, trivial⟩, ⟨x109, ⟨x173, trivial, trivial⟩, trivial⟩⟩, ⟨trivial, ⟨x93, trivial, trivial⟩, trivial⟩⟩⟩⟩⟩, ⟨trivial, ⟨trivial, ⟨x8, ⟨trivial, ⟨x32, ⟨x64, trivial, ⟨x192, trivial, trivial⟩⟩, ⟨x96, ⟨x160, trivial, trivial⟩, trivial⟩⟩, ⟨trivial, ⟨x80, ⟨x144, trivial, trivial⟩, ⟨x208, trivial, trivial⟩⟩, trivial⟩⟩, ⟨x24, ⟨trivial, ⟨x72, ⟨x136, trivial, trivial⟩, trivial⟩, ⟨trivial, ⟨x168, trivial, trivial⟩, ⟨x232, trivial, trivial⟩⟩⟩, ⟨trivial, ⟨trivial, ⟨x152, trivial, trivial⟩, ⟨x216, trivial, trivial⟩⟩, ⟨x120, trivial, trivial⟩⟩⟩⟩, ⟨trivial, ⟨trivial, ⟨trivial, ⟨x68, trivial, ⟨x196, trivial, trivial⟩⟩, ⟨x100, ⟨x164, trivial, trivial⟩, trivial⟩⟩, ⟨trivial, ⟨x84, ⟨x148, trivial, trivial⟩, ⟨x212, trivial, trivial⟩⟩, ⟨x116, trivial, trivial⟩⟩⟩, ⟨x28, ⟨x44, ⟨x76, ⟨x140, trivial, trivial⟩, trivial⟩, ⟨trivial, ⟨x172, trivial, trivial⟩, ⟨x236, trivial, trivial⟩⟩⟩, ⟨trivial, ⟨x92, trivial, trivial⟩, trivial⟩⟩⟩⟩, ⟨x6, ⟨trivial, ⟨trivial, ⟨trivial, ⟨x66, trivial, ⟨x194, trivial, trivial⟩⟩, ⟨x98, ⟨x162, trivial, trivial⟩, trivial⟩⟩, ⟨x50, ⟨x82, ⟨x146, trivial, trivial⟩, ⟨x210, trivial, trivial⟩⟩, trivial⟩⟩, ⟨x26, ⟨x42, ⟨x74, ⟨x138, trivial, trivial⟩, trivial⟩, ⟨trivial, ⟨x170, trivial, trivial⟩, trivial⟩⟩, ⟨x58, ⟨x90, ⟨x154, trivial, trivial⟩, trivial⟩, trivial⟩⟩⟩, ⟨trivial, ⟨trivial, ⟨x38, ⟨x70, ⟨x134, trivial, trivial⟩, trivial⟩, ⟨trivial, ⟨x166, trivial, trivial⟩, trivial⟩⟩, ⟨x54, ⟨x86, ⟨x150, trivial, trivial⟩, ⟨x214, trivial, trivial⟩⟩, ⟨x118, trivial, trivial⟩⟩⟩, ⟨x30, ⟨trivial, ⟨x78, ⟨x142, trivial, trivial⟩, trivial⟩, ⟨trivial, ⟨x174, trivial, trivial⟩, trivial⟩⟩, ⟨trivial, ⟨x94, ⟨x158, trivial, trivial⟩, trivial⟩, ⟨trivial, ⟨x190, trivial, trivial⟩, trivial⟩⟩⟩⟩⟩⟩⟩
theorem ghi : AllTr (fun p s => okX Go.Proofs.Tryz.prog (1000000 + dec p) s) thi := ⟨trivial, ⟨trivial, trivial, ⟨trivial, ⟨trivial, ⟨trivial, ⟨trivial, ⟨trivial, trivial, ⟨trivial, trivial, ⟨trivial, ⟨trivial, trivial, ⟨trivial, trivial, ⟨x1003777, trivial, trivial⟩⟩⟩, trivial⟩⟩⟩, ⟨trivial, ⟨trivial, trivial, ⟨trivial, ⟨trivial, ⟨trivial, trivial, ⟨x1003233, trivial, trivial⟩⟩, trivial⟩, ⟨trivial, ⟨trivial, ⟨trivial, ⟨x1004513, trivial, trivial⟩, trivial⟩, trivial⟩, trivial⟩⟩⟩, trivial⟩⟩, trivial⟩, trivial⟩, trivial⟩⟩, ⟨trivial, ⟨trivial, ⟨trivial, ⟨trivial, ⟨trivial, ⟨trivial, trivial, ⟨trivial, trivial, ⟨trivial, ⟨trivial, trivial, ⟨trivial, trivial, ⟨x1003776, trivial, trivial⟩⟩⟩, trivial⟩⟩⟩, ⟨trivial, ⟨trivial, trivial, ⟨trivial, ⟨trivial, ⟨trivial, trivial, ⟨x1003232, trivial, trivial⟩⟩, trivial⟩, ⟨trivial, ⟨trivial, ⟨trivial, ⟨x1004512, trivial, trivial⟩, trivial⟩, trivial⟩, trivial⟩⟩⟩, trivial⟩⟩, trivial⟩, trivial⟩, trivial⟩, trivial⟩⟩
def tab : TabS := fun f => cond (Nat.beq f 157) (some (.known nextG)) (cond (Nat.beq f 189) (some (.known lastG)) (cond (Nat.ble 1000000 f) (thi.get (Nat.sub f 1000000)) (tlo.get f)))
theorem tabX {f : Nat} {s : FnS} (h : (if 1000000 ≤ f then thi.get (Nat.sub f 1000000) else tlo.get f) = some s) : okX Go.Proofs.Tryz.prog f s := by
  split at h
  · rename_i hf
    have := AllTr.get (Q := fun n s => okX Go.Proofs.Tryz.prog (1000000 + n) s) ghi h
    rwa [show 1000000 + Nat.sub f 1000000 = f from Nat.add_sub_cancel' hf] at this
  · exact AllTr.get (Q := fun n s => okX Go.Proofs.Tryz.prog n s) glo h
theorem tabOk : TabSOk tab (cprog Go.Proofs.Tryz.prog) where
  code f cf b h := by
    unfold tab at h
    simp only [cond_beq, cond_ble] at h
    split at h
    · simp at h
    split at h
    · simp at h
    exact tabX h
  known f g h := by
    unfold tab at h
    simp only [cond_beq, cond_ble] at h
    split at h
    · rename_i hf
      subst hf
      simp only [Option.some.injEq, FnS.known.injEq] at h
      subst h
      intro args H v H' h
      exact nextG_ok h
    split at h
    · rename_i hf
      subst hf
      simp only [Option.some.injEq, FnS.known.injEq] at h
      subst h
      intro args H v H' h
      exact lastG_ok h
    exact (tabX h).elim
end Go.Cs.Tryz

/- ImmixNone's run: true for every block and d, which it never asks for. The kernel evaluates it, both free. -/
noncomputable section
namespace Go.Cs.Tryz
open Go Go.Cs Go.Cs.K
set_option maxRecDepth 1000000
def isT (r : Option (CV × KH)) : Bool := match r with
  | some (.bool true, _) => true
  | _ => false
theorem isT_run {f n : Nat} {args : List CV} (h : isT (runS tab n f args ⟨.nil, 0⟩) = true) : ∃ H', run (cprog Go.Proofs.Tryz.prog) f args [] = some (.bool true, H') := by
  cases e : runS tab n f args ⟨.nil, 0⟩ with
  | none => rw [e] at h; cases h
  | some r =>
    obtain ⟨v, H⟩ := r
    rw [e] at h
    have hv : v = .bool true := by
      unfold isT at h
      split at h
      · rename_i e2; cases e2; rfl
      · cases h
    subst hv
    exact ⟨abs H, runS_spec tabOk e⟩
theorem t6 (b d : Int) : isT (runS tab 5000 6 [.int .i64 b, .int .i64 d] ⟨.nil, 0⟩) = true := by kernel_rfl
theorem f6 (b d : Int) : ∃ H', run (cprog Go.Proofs.Tryz.prog) 6 [.i b, .i d] [] = some (.bool true, H') := isT_run (t6 b d)
end Go.Cs.Tryz

/- ImmixNone returns true for every input: without a heap, roots or marks no object is collected. (ErrArg) Conditions: none. -/
namespace Go.Proofs.YtpaijheplfakiaaGreat.immixNone
open Go Go.Cs Go.ChangeShapes Go.WideShapes Go.ChangeAt Go.RowKit
set_option linter.unusedVariables false
theorem own : ownKnob Tryz.prog.godebug = none := by kernel_rfl
theorem laidOut : laidOutB Tryz.prog = true := by kernel_rfl
theorem follows : Tryz.prog.follows .mixedOrders = true := by kernel_rfl
set_option maxRecDepth 100000 in
theorem lifted (os : Os) (started : os.Started) (H : Type) (enc : TypeId × Value → H) :
    ReturnsInHanded {} Tryz.checked os 6 .any (Rows.immixNoneSpec.pre6 enc Tryz.prog Tryz.f6 Rows.immixNoneRow.domain false) (Rows.immixNoneSpec.post enc Tryz.prog Tryz.f6 false true false false) := by
  refine returnsInHanded_of_change_sized (C := Tryz.checked) own started (by kernel_rfl) Tryz.func6
    (ChangeSpec.witness6 (enc := enc) (C := Tryz.checked) false ⟨#[], #[.int .i64 0, .int .i64 0], []⟩ 8 (by kernel_rfl) (by kernel_rfl) (by kernel_rfl) (by kernel_rfl)) ?_
  intro W base args ds gs before hval0 hW hcnd hsz0 _
  have hval : ∀ (j : Nat) t v, Tryz.f6.params[j]? = some t → args[j]? = some v → Value.okWide Tryz.prog W .any base t v := hval0
  have hW' := hW
  obtain ⟨p, q, hA0, hV, rfl, hfz, hnd⟩ := hW
  have hA : DataW.TrodAll enc Tryz.prog W 0 (fun _ => true) true Tryz.f6.params.toList args.toList ds p := hA0
  rw [Tryz.params6] at hA hval
  clear hA0 hval0 hsz0 hcnd
  obtain ⟨v0, vs0, d0, ds0, p0, q0, hargs, rfl, rfl, h0, r0⟩ := trodAll_cons hA
  obtain ⟨v1, vs1, d1, ds1, p1, q1, rfl, rfl, rfl, h1, r1⟩ := trodAll_cons r0
  obtain ⟨rfl, rfl, rfl⟩ := trodAll_nil r1
  obtain rfl : args = #[v0, v1] := by cases args; simp_all
  obtain ⟨rfl, rfl⟩ := trodVars_none hV
  obtain ⟨x0, rfl, rfl, rfl, w0⟩ := open_int (k := .i64) (show Tryz.prog.underlying 3 = some (.int .i64) from by kernel_rfl) (hval 0 3 v0 rfl rfl) h0
  obtain ⟨x1, rfl, rfl, rfl, w1⟩ := open_int (k := .i64) (show Tryz.prog.underlying 3 = some (.int .i64) from by kernel_rfl) (hval 1 3 v1 rfl rfl) h1
  obtain ⟨H1, hrun⟩ : ∃ H1, run (cprog Tryz.prog) 6 [.i x0, .i x1] [] = some (.bool true, H1) := Go.Cs.Tryz.f6 x0 x1
  have hb : ∀ b blk, ([] : CHeap)[b]? = some blk → BlkOk W blk (([] : List (Option Tgt)).getD b none) := fun b blk hb => by simp at hb
  refine (run_calls follows (by decide) (tgs := []) (W := W) (args' := #[.int .i64 x0, .int .i64 x1]) rfl hb hrun ?_).mono fun e W' he => ?_
  · simp only [VL]
    exact ⟨_, _, rfl, by simp [V], ⟨_, _, rfl, by simp [V], rfl⟩⟩
  obtain ⟨⟨ν, v', rfl, hv'⟩, bel⟩ := he
  simp only [V] at hv'
  subst hv'
  exact ⟨_, rfl, _, _, _, [], _, [], hW', trodAll_mk1 (shut_bool (show Tryz.prog.underlying 4 = some .bool from by kernel_rfl) _), (trodAll_cons_mk (shut_int (show Tryz.prog.underlying 3 = some (.int .i64) from by kernel_rfl) w0) (trodAll_cons_mk (shut_int (show Tryz.prog.underlying 3 = some (.int .i64) from by kernel_rfl) w1) trodAll_mk0)), rfl, bel.frame _, fun h => by cases h⟩
theorem over : Rows.immixNoneRow.holds Tryz.pinned (OpenSpec.ofChange Rows.immixNoneSpec) :=
  OpenClaim.holds_of_wide 6 Tryz.f6 rfl rfl rfl rfl rfl rfl rfl ⟨rfl, rfl, rfl, rfl, rfl⟩ rfl rfl rfl rfl rfl (by kernel_rfl) Tryz.func6 (by kernel_rfl)
    (of_decide_eq_true (by kernel_rfl)) (by unfold Func.isWrapper; first | (rw [if_pos (by decide +kernel)]; kernel_rfl) | (rw [if_neg (by decide +kernel)]; exact ⟨rfl, rfl⟩))
    (fun os started H enc _ => lifted os started H enc)
end Go.Proofs.YtpaijheplfakiaaGreat.immixNone
namespace Go.Proofs.YtpaijheplfakiaaGreat
/-- The row. -/
theorem immixNone_holds : Rows.ImmixNoneSaid := immixNone.over
#print axioms immixNone_holds
end Go.Proofs.YtpaijheplfakiaaGreat
