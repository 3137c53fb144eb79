/- CompactNone returns true for every input: without a heap, roots or marks no object is compacted. (ErrArg) Conditions: none. -/
import Derived.Test.YtpaijheplfakiaaGreatCompactNone3
import Derived.KernelRfl
import Derived.Test.YtpaijheplfakiaaGreatRows
import Derived.WalkKit
import Derived.ProofKit
import Derived.OpenShut
import Derived.ShutString
import Derived.ChangeOld
import Derived.Below
import Derived.SizedLaws
import Derived.Carry
set_option linter.unusedVariables false
set_option linter.unusedSimpArgs false
set_option linter.defProp false
/- The turned functions, part 3. -/
noncomputable section
namespace Go.Cs.Tryz
open Go Go.Cs Go.Cs.K
set_option maxRecDepth 100000
def S190 : SCode := (.seq (.ops (.vd 6 (o_mov (.const (.bool false))) .nil))
  (.seq (.seq (.ops (.vd 9 (o_mov (.tmp 0)) (.vd 10 (o_mov (.tmp 2)) (.cd 11 (fun F => c_call F 44 [(.tmp 9), (.tmp 10)]) (.vd 12 (o_not (.tmp 11)) .nil)))))
  (.cond (.tmp 12)
   (.seq (.ops (.vd 6 (o_mov (.const (.bool false))) .nil))
   .ret)
   .skip))
  (.seq (.ops (.vd 14 (o_mov (.tmp 1)) (.vd 15 (o_mov (.tmp 2)) (.vd 16 (o_bin .quo (.tmp 15) (.const (.int .i64 2))) (.cd 17 (fun F => c_call F 232 [(.tmp 14), (.tmp 16), (.const (.int .i64 0)), (.const (.int .i64 1))]) (.vd 13 (o_mov (.tmp 17)) (.vd 18 (o_extract (.tmp 13) 0) (.vd 19 (o_extract (.tmp 13) 1) (.vd 7 (o_mov (.tmp 18)) (.vd 8 (o_mov (.tmp 19)) .nil))))))))))
  (.seq (.ops (.vd 20 (o_mov (.tmp 7)) (.vd 6 (o_mov (.tmp 20)) .nil)))
  .ret))))
def X190 : FnS := .code ⟨21, 0, .skip, [.tmp 6]⟩ S190
theorem x190 : okX Go.Proofs.Tryz.prog 190 X190 := ⟨C190, c190, rfl, rfl, rfl, by kernel_rfl⟩
def S191 : SCode := (.ops (.vd 4 (o_mov (.tmp 0)) (.vd 5 (o_mov (.tmp 0)) (.vd 6 (o_nilCheck (.tmp 5)) (.vd 7 (o_field 0 (.tmp 6)) (.vd 8 (o_load false 1 (.tmp 7)) (.vd 9 (o_mov (.tmp 1)) (.vd 10 (o_buildSlice 1 [.int .i64 0] 1 [(0, 1, (.tmp 9))]) (.vd 11 (o_append 1 (.tmp 8) (.tmp 10)) (.vd 12 (o_nilCheck (.tmp 4)) (.vd 13 (o_field 0 (.tmp 12)) (.v none none (o_store 1 (.tmp 13) (.tmp 11)) .nil))))))))))))
def X191 : FnS := .code ⟨14, 0, .skip, []⟩ S191
theorem x191 : okX Go.Proofs.Tryz.prog 191 X191 := ⟨C191, c191, rfl, rfl, rfl, by kernel_rfl⟩
def S192_1 : SCode := .seq (.seq (.ops (.vd 2 (o_mov (.tmp 0)) (.vd 3 (o_nilCheck (.tmp 2)) (.vd 4 (o_field 2 (.tmp 3)) (.vd 5 (o_field 0 (.tmp 4)) (.vd 6 (o_load false 1 (.tmp 5)) (.vd 7 (o_len (.tmp 6)) (.vd 8 (o_bin .gtr (.tmp 7) (.const (.int .i64 0))) .nil))))))))
    (.cond (.tmp 8)
     .skip
     (.exit 0)))
    (.block 1 (.seq (.ops (.vd 9 (o_mov (.tmp 0)) (.vd 10 (o_nilCheck (.tmp 9)) (.vd 11 (o_field 3 (.tmp 10)) (.vd 12 (o_load false 1 (.tmp 11)) (.vd 13 (o_bin .eql (.tmp 12) (.const (.int .i64 0))) .nil))))))
     (.cond (.tmp 13)
      (.ops (.vd 14 (o_mov (.tmp 0)) (.vd 15 (o_mov (.tmp 0)) (.vd 16 (o_nilCheck (.tmp 15)) (.vd 17 (o_field 2 (.tmp 16)) (.cd 18 (fun F => c_call F 233 [(.tmp 17)]) (.cd 19 (fun F => c_call F 193 [(.tmp 14), (.tmp 18)]) .nil)))))))
      (.ops (.vd 20 (o_mov (.tmp 0)) (.vd 21 (o_mov (.tmp 0)) (.vd 22 (o_nilCheck (.tmp 21)) (.vd 23 (o_field 2 (.tmp 22)) (.cd 24 (fun F => c_call F 234 [(.tmp 23)]) (.cd 25 (fun F => c_call F 193 [(.tmp 20), (.tmp 24)]) .nil))))))))))
def S192 : SCode := (.block 0 (.loop S192_1))
def X192 : FnS := .code ⟨26, 0, .skip, []⟩ S192
theorem x192 : okX Go.Proofs.Tryz.prog 192 X192 := ⟨C192, c192, rfl, rfl, rfl, by kernel_rfl⟩
def S193_1 : SCode := .seq (.ops (.vd 23 (o_bin .lss (.tmp 22) (.tmp 21)) .nil))
    (.seq (.cond (.tmp 23)
     .skip
     (.exit 0))
    (.seq (.block 1 (.seq (.ops (.vd 24 (o_index 1 (.tmp 20) (.tmp 22)) (.vd 25 (o_load false 1 (.tmp 24)) (.vd 5 (o_mov (.tmp 25)) .nil))))
     (.ops (.vd 26 (o_mov (.tmp 0)) (.vd 27 (o_mov (.tmp 5)) (.cd 28 (fun F => c_call F 136 [(.tmp 26), (.tmp 27)]) .nil))))))
    (.ops (.vd 29 (o_bin .add (.tmp 22) (.const (.int .i64 1))) (.vd 22 (o_mov (.tmp 29)) .nil)))))
def S193 : SCode := (.seq (.ops (.vd 6 (o_mov (.tmp 0)) (.vd 7 (o_nilCheck (.tmp 6)) (.vd 8 (o_field 6 (.tmp 7)) (.vd 9 (o_field 0 (.tmp 8)) (.vd 10 (o_load false 1 (.tmp 9)) (.vd 11 (o_bin .add (.tmp 10) (.const (.int .i64 1))) (.vd 12 (o_nilCheck (.tmp 6)) (.vd 13 (o_field 6 (.tmp 12)) (.vd 14 (o_field 0 (.tmp 13)) (.v none none (o_store 1 (.tmp 14) (.tmp 11)) .nil)))))))))))
  (.seq (.ops (.vd 15 (o_mov (.tmp 0)) (.vd 16 (o_nilCheck (.tmp 15)) (.vd 17 (o_field 0 (.tmp 16)) (.vd 18 (o_load false 1 (.tmp 17)) (.vd 19 (o_mov (.tmp 1)) (.cd 20 (fun F => c_call F 235 [(.tmp 18), (.tmp 19)]) (.vd 21 (o_len (.tmp 20)) (.vd 22 (o_mov (.const (.int .i64 0))) .nil)))))))))
  (.block 0 (.loop S193_1))))
def X193 : FnS := .code ⟨30, 0, .skip, []⟩ S193
theorem x193 : okX Go.Proofs.Tryz.prog 193 X193 := ⟨C193, c193, rfl, rfl, rfl, by kernel_rfl⟩
def S194_1 : SCode := .seq (.ops (.vd 19 (o_bin .lss (.tmp 18) (.tmp 17)) .nil))
    (.seq (.cond (.tmp 19)
     .skip
     (.exit 0))
    (.seq (.block 1 (.seq (.ops (.vd 20 (o_index 1 (.tmp 16) (.tmp 18)) (.vd 21 (o_load false 1 (.tmp 20)) (.vd 7 (o_mov (.tmp 21)) .nil))))
     (.seq (.ops (.vd 23 (o_mov (.tmp 0)) (.vd 24 (o_mov (.tmp 7)) (.cd 25 (fun F => c_call F 109 [(.tmp 23), (.tmp 24)]) (.vd 22 (o_mov (.tmp 25)) (.vd 26 (o_extract (.tmp 22) 0) (.vd 27 (o_extract (.tmp 22) 1) (.vd 8 (o_new [.int .i64 0, .int .i64 0, .int .i64 0]) (.v none none (o_store 3 (.tmp 8) (.tmp 26)) (.vd 9 (o_mov (.tmp 27)) .nil))))))))))
     (.seq (.ops (.vd 29 (o_mov (.tmp 0)) (.vd 30 (o_mov (.tmp 7)) (.cd 31 (fun F => c_call F 111 [(.tmp 29), (.tmp 30), (.const (.int .i64 0))]) (.vd 28 (o_mov (.tmp 31)) (.vd 32 (o_extract (.tmp 28) 0) (.vd 33 (o_extract (.tmp 28) 1) (.vd 10 (o_mov (.tmp 32)) (.vd 11 (o_mov (.tmp 33)) .nil)))))))))
     (.seq (.ops (.vd 34 (o_field 2 (.tmp 8)) (.vd 35 (o_load false 1 (.tmp 34)) (.vd 36 (o_bin .eql (.tmp 35) (.const (.int .i64 2))) (.vd 37 (o_mov (.tmp 36)) (.vg 38 37 true (o_mov (.tmp 0)) (.vg 39 37 true (o_mov (.tmp 1)) (.vg 40 37 true (o_mov (.tmp 10)) (.c (some 41) (some (37, true)) (fun F => c_call F 145 [(.tmp 38), (.tmp 39), (.tmp 40)]) (.vd 42 (o_pick (.tmp 37) (.tmp 41) (.const (.bool false))) .nil))))))))))
     (.cond (.tmp 42)
      (.seq (.ops (.vd 44 (o_mov (.tmp 0)) (.vd 45 (o_mov (.tmp 7)) (.cd 46 (fun F => c_call F 111 [(.tmp 44), (.tmp 45), (.const (.int .i64 1))]) (.vd 43 (o_mov (.tmp 46)) (.vd 47 (o_extract (.tmp 43) 0) (.vd 48 (o_extract (.tmp 43) 1) (.vd 12 (o_mov (.tmp 47)) (.vd 13 (o_mov (.tmp 48)) .nil)))))))))
      (.ops (.vd 49 (o_mov (.tmp 5)) (.vd 50 (o_mov (.tmp 12)) (.vd 51 (o_buildSlice 1 [.int .i64 0] 1 [(0, 1, (.tmp 50))]) (.vd 52 (o_append 1 (.tmp 49) (.tmp 51)) (.vd 5 (o_mov (.tmp 52)) .nil)))))))
      .skip))))))
    (.ops (.vd 53 (o_bin .add (.tmp 18) (.const (.int .i64 1))) (.vd 18 (o_mov (.tmp 53)) .nil)))))
def S194 : SCode := (.seq (.ops (.vd 4 (o_mov (.const (.nilSlice))) .nil))
  (.seq (.ops (.vd 5 (o_mov (.const (.nilSlice))) .nil))
  (.seq (.seq (.ops (.vd 14 (o_mov (.tmp 0)) (.vd 15 (o_mov (.tmp 1)) (.cd 16 (fun F => c_call F 143 [(.tmp 14), (.tmp 15)]) (.vd 17 (o_len (.tmp 16)) (.vd 18 (o_mov (.const (.int .i64 0))) .nil))))))
  (.block 0 (.loop S194_1)))
  (.seq (.ops (.vd 54 (o_mov (.tmp 5)) (.vd 4 (o_mov (.tmp 54)) .nil)))
  .ret))))
def X194 : FnS := .code ⟨55, 0, .skip, [.tmp 4]⟩ S194
theorem x194 : okX Go.Proofs.Tryz.prog 194 X194 := ⟨C194, c194, rfl, rfl, rfl, by kernel_rfl⟩
def S195 : SCode := (.seq (.ops (.vd 4 (o_mov (.const (.bool false))) .nil))
  (.seq (.ops (.vd 5 (o_load false 1 (.tmp 1)) (.vd 6 (o_load false 1 (.tmp 2)) (.vd 7 (o_mov (.tmp 0)) (.cd 8 (fun F => c_call F 145 [(.tmp 5), (.tmp 6), (.tmp 7)]) (.vd 9 (o_not (.tmp 8)) (.vd 4 (o_mov (.tmp 9)) .nil)))))))
  .ret))
def X195 : FnS := .code ⟨10, 0, .skip, [.tmp 4]⟩ S195
theorem x195 : okX Go.Proofs.Tryz.prog 195 X195 := ⟨C195, c195, rfl, rfl, rfl, by kernel_rfl⟩
def S203 : SCode := (.seq (.ops (.vd 4 (o_mov (.const (.bool false))) .nil))
  (.seq (.ops (.vd 5 (o_mov (.tmp 0)) (.cd 6 (fun F => c_call F 243 [(.tmp 5)]) (.vd 7 (o_mov (.tmp 6)) (.vg 8 7 true (o_mov (.tmp 1)) (.c (some 9) (some (7, true)) (fun F => c_call F 243 [(.tmp 8)]) (.vg 10 7 true (o_not (.tmp 9)) (.vd 11 (o_pick (.tmp 7) (.tmp 10) (.const (.bool false))) (.vd 12 (o_mov (.tmp 11)) (.vg 13 12 false (o_mov (.tmp 0)) (.vg 14 12 false (o_mov (.tmp 1)) (.vg 15 12 false (o_bin .lss (.tmp 13) (.tmp 14)) (.vd 16 (o_pick (.tmp 12) (.const (.bool true)) (.tmp 15)) (.vd 4 (o_mov (.tmp 16)) .nil))))))))))))))
  .ret))
def X203 : FnS := .code ⟨17, 0, .skip, [.tmp 4]⟩ S203
theorem x203 : okX Go.Proofs.Tryz.prog 203 X203 := ⟨C203, c203, rfl, rfl, rfl, by kernel_rfl⟩
def S207 : SCode := (.seq (.ops (.vd 2 (o_mov (.const (.int .i64 0))) .nil))
  (.seq (.seq (.ops (.vd 3 (o_mov (.tmp 0)) (.vd 4 (o_bin .geq (.tmp 3) (.const (.int .u64 4294967296))) .nil)))
  (.cond (.tmp 4)
   (.seq (.ops (.vd 5 (o_mov (.tmp 0)) (.vd 6 (o_shift .shr (.tmp 5) (.const (.int .u64 32))) (.vd 0 (o_mov (.tmp 6)) .nil))))
   (.ops (.vd 2 (o_mov (.const (.int .i64 32))) .nil)))
   .skip))
  (.seq (.seq (.ops (.vd 7 (o_mov (.tmp 0)) (.vd 8 (o_bin .geq (.tmp 7) (.const (.int .u64 65536))) .nil)))
  (.cond (.tmp 8)
   (.seq (.ops (.vd 9 (o_mov (.tmp 0)) (.vd 10 (o_shift .shr (.tmp 9) (.const (.int .u64 16))) (.vd 0 (o_mov (.tmp 10)) .nil))))
   (.ops (.vd 11 (o_mov (.tmp 2)) (.vd 12 (o_bin .add (.tmp 11) (.const (.int .i64 16))) (.vd 2 (o_mov (.tmp 12)) .nil)))))
   .skip))
  (.seq (.seq (.ops (.vd 13 (o_mov (.tmp 0)) (.vd 14 (o_bin .geq (.tmp 13) (.const (.int .u64 256))) .nil)))
  (.cond (.tmp 14)
   (.seq (.ops (.vd 15 (o_mov (.tmp 0)) (.vd 16 (o_shift .shr (.tmp 15) (.const (.int .u64 8))) (.vd 0 (o_mov (.tmp 16)) .nil))))
   (.ops (.vd 17 (o_mov (.tmp 2)) (.vd 18 (o_bin .add (.tmp 17) (.const (.int .i64 8))) (.vd 2 (o_mov (.tmp 18)) .nil)))))
   .skip))
  (.seq (.ops (.vd 19 (o_mov (.tmp 2)) (.vd 20 (o_mov (.tmp 0)) (.vd 21 (o_conv .u8 (.tmp 20)) (.vd 22 (o_indexS [0, 1, 2, 2, 3, 3, 3, 3, 4, 4, 4, 4, 4, 4, 4, 4, 5, 5, 5, 5, 5, 5, 5, 5, 5, 5, 5, 5, 5, 5, 5, 5, 6, 6, 6, 6, 6, 6, 6, 6, 6, 6, 6, 6, 6, 6, 6, 6, 6, 6, 6, 6, 6, 6, 6, 6, 6, 6, 6, 6, 6, 6, 6, 6, 7, 7, 7, 7, 7, 7, 7, 7, 7, 7, 7, 7, 7, 7, 7, 7, 7, 7, 7, 7, 7, 7, 7, 7, 7, 7, 7, 7, 7, 7, 7, 7, 7, 7, 7, 7, 7, 7, 7, 7, 7, 7, 7, 7, 7, 7, 7, 7, 7, 7, 7, 7, 7, 7, 7, 7, 7, 7, 7, 7, 7, 7, 7, 7, 8, 8, 8, 8, 8, 8, 8, 8, 8, 8, 8, 8, 8, 8, 8, 8, 8, 8, 8, 8, 8, 8, 8, 8, 8, 8, 8, 8, 8, 8, 8, 8, 8, 8, 8, 8, 8, 8, 8, 8, 8, 8, 8, 8, 8, 8, 8, 8, 8, 8, 8, 8, 8, 8, 8, 8, 8, 8, 8, 8, 8, 8, 8, 8, 8, 8, 8, 8, 8, 8, 8, 8, 8, 8, 8, 8, 8, 8, 8, 8, 8, 8, 8, 8, 8, 8, 8, 8, 8, 8, 8, 8, 8, 8, 8, 8, 8, 8, 8, 8, 8, 8, 8, 8, 8, 8, 8, 8, 8, 8, 8, 8, 8, 8, 8, 8, 8, 8, 8, 8, 8, 8, 8, 8, 8, 8, 8, 8] (.tmp 21)) (.vd 23 (o_conv .i64 (.tmp 22)) (.vd 24 (o_bin .add (.tmp 19) (.tmp 23)) (.vd 2 (o_mov (.tmp 24)) .nil))))))))
  .ret)))))
def X207 : FnS := .code ⟨25, 0, .skip, [.tmp 2]⟩ S207
theorem x207 : okX Go.Proofs.Tryz.prog 207 X207 := ⟨C207, c207, rfl, rfl, rfl, by kernel_rfl⟩
def S209_1 : SCode := .seq (.ops (.vd 16 (o_bin .lss (.tmp 15) (.tmp 14)) .nil))
    (.seq (.cond (.tmp 16)
     .skip
     (.exit 0))
    (.seq (.block 1 (.seq (.ops (.vd 17 (o_index 1 (.tmp 13) (.tmp 15)) (.vd 18 (o_load false 1 (.tmp 17)) (.vd 8 (o_mov (.tmp 18)) .nil))))
     (.seq (.ops (.vd 19 (o_mov (.tmp 8)) (.vd 20 (o_mov (.tmp 0)) (.vd 21 (o_nilCheck (.tmp 20)) (.vd 22 (o_field 0 (.tmp 21)) (.vd 23 (o_load false 1 (.tmp 22)) (.vd 24 (o_mov (.tmp 8)) (.cd 25 (fun F => c_call F 107 [(.tmp 23), (.tmp 24)]) (.vd 26 (o_bin .add (.tmp 19) (.tmp 25)) (.vd 9 (o_mov (.tmp 26)) .nil))))))))))
     (.seq (.ops (.vd 27 (o_mov (.tmp 8)) (.vd 28 (o_mov (.tmp 1)) (.vd 29 (o_mov (.tmp 2)) (.vd 30 (o_bin .add (.tmp 28) (.tmp 29)) (.vd 31 (o_bin .lss (.tmp 27) (.tmp 30)) (.vd 32 (o_mov (.tmp 31)) (.vg 33 32 true (o_mov (.tmp 1)) (.vg 34 32 true (o_mov (.tmp 9)) (.vg 35 32 true (o_bin .lss (.tmp 33) (.tmp 34)) (.vd 36 (o_pick (.tmp 32) (.tmp 35) (.const (.bool false))) .nil)))))))))))
     (.cond (.tmp 36)
      (.seq (.ops (.vd 37 (o_mov (.tmp 9)) (.vd 6 (o_mov (.tmp 37)) .nil)))
      .ret)
      .skip)))))
    (.ops (.vd 38 (o_bin .add (.tmp 15) (.const (.int .i64 1))) (.vd 15 (o_mov (.tmp 38)) .nil)))))
def S209 : SCode := (.seq (.ops (.vd 6 (o_mov (.const (.int .i64 0))) .nil))
  (.seq (.seq (.ops (.vd 10 (o_mov (.tmp 0)) (.vd 11 (o_nilCheck (.tmp 10)) (.vd 12 (o_field 4 (.tmp 11)) (.vd 13 (o_load false 1 (.tmp 12)) (.vd 14 (o_len (.tmp 13)) (.vd 15 (o_mov (.const (.int .i64 0))) .nil)))))))
  (.block 0 (.loop S209_1)))
  (.seq (.ops (.vd 6 (o_mov (.const (.int .i64 0))) .nil))
  .ret)))
def X209 : FnS := .code ⟨39, 0, .skip, [.tmp 6]⟩ S209
theorem x209 : okX Go.Proofs.Tryz.prog 209 X209 := ⟨C209, c209, rfl, rfl, rfl, by kernel_rfl⟩
def S210_1 : SCode := .seq (.ops (.vd 9 (o_bin .lss (.tmp 8) (.tmp 7)) .nil))
    (.seq (.cond (.tmp 9)
     .skip
     (.exit 0))
    (.seq (.block 1 (.seq (.ops (.vd 10 (o_mov (.tmp 8)) (.vd 5 (o_mov (.tmp 10)) .nil)))
     (.seq (.ops (.vd 11 (o_mov (.tmp 1)) (.vd 12 (o_mov (.tmp 0)) (.vd 13 (o_mov (.tmp 5)) (.vd 14 (o_index 2 (.tmp 12) (.tmp 13)) (.vd 15 (o_load true 2 (.tmp 14)) (.cd 16 (fun F => c_callm F (.tmp 11) [(.tmp 15)] [(267, "dustcart/alloc.place", 272), (268, "dustcart/alloc.place", 277), (269, "dustcart/alloc.place", 285), (270, "dustcart/alloc.place", 286), (271, "dustcart/alloc.place", 290)]) .nil)))))))
     (.cond (.tmp 16)
      (.seq (.ops (.vd 17 (o_mov (.tmp 5)) (.vd 4 (o_mov (.tmp 17)) .nil)))
      .ret)
      .skip))))
    (.ops (.vd 18 (o_bin .add (.tmp 8) (.const (.int .i64 1))) (.vd 8 (o_mov (.tmp 18)) .nil)))))
def S210 : SCode := (.seq (.ops (.vd 4 (o_mov (.const (.int .i64 0))) .nil))
  (.seq (.seq (.ops (.vd 6 (o_mov (.tmp 0)) (.vd 7 (o_len (.tmp 6)) (.vd 8 (o_mov (.const (.int .i64 0))) .nil))))
  (.block 0 (.loop S210_1)))
  (.seq (.ops (.vd 4 (o_mov (.const (.int .i64 (-1)))) .nil))
  .ret)))
def X210 : FnS := .code ⟨19, 0, .skip, [.tmp 4]⟩ S210
theorem x210 : okX Go.Proofs.Tryz.prog 210 X210 := ⟨C210, c210, rfl, rfl, rfl, by kernel_rfl⟩
def S211 : SCode := (.seq (.ops (.vd 3 (o_mov (.const (.bool false))) .nil))
  (.seq (.ops (.vd 4 (o_load false 1 (.tmp 1)) (.vd 5 (o_mov (.tmp 0)) (.cd 6 (fun F => c_call F 212 [(.tmp 4), (.tmp 5)]) (.vd 7 (o_not (.tmp 6)) (.vd 3 (o_mov (.tmp 7)) .nil))))))
  .ret))
def X211 : FnS := .code ⟨8, 0, .skip, [.tmp 3]⟩ S211
theorem x211 : okX Go.Proofs.Tryz.prog 211 X211 := ⟨C211, c211, rfl, rfl, rfl, by kernel_rfl⟩
def S212 : SCode := (.seq (.ops (.vd 4 (o_mov (.const (.bool false))) .nil))
  (.seq (.ops (.vd 5 (o_mov (.tmp 1)) (.vd 6 (o_bin .geq (.tmp 5) (.const (.int .i64 0))) (.vd 7 (o_mov (.tmp 6)) (.vg 8 7 true (o_mov (.tmp 1)) (.vg 9 7 true (o_mov (.tmp 0)) (.c (some 10) (some (7, true)) (fun F => c_call F 213 [(.tmp 9)]) (.vg 11 7 true (o_bin .leq (.tmp 8) (.tmp 10)) (.vd 12 (o_pick (.tmp 7) (.tmp 11) (.const (.bool false))) (.vd 4 (o_mov (.tmp 12)) .nil))))))))))
  .ret))
def X212 : FnS := .code ⟨13, 0, .skip, [.tmp 4]⟩ S212
theorem x212 : okX Go.Proofs.Tryz.prog 212 X212 := ⟨C212, c212, rfl, rfl, rfl, by kernel_rfl⟩
def S213 : SCode := (.seq (.ops (.vd 2 (o_mov (.const (.int .i64 0))) .nil))
  (.seq (.ops (.vd 3 (o_mov (.tmp 0)) (.vd 4 (o_nilCheck (.tmp 3)) (.vd 5 (o_field 1 (.tmp 4)) (.vd 6 (o_load false 1 (.tmp 5)) (.vd 7 (o_shift .shl (.const (.int .i64 1)) (.tmp 6)) (.vd 8 (o_bin .sub (.tmp 7) (.const (.int .i64 1))) (.vd 2 (o_mov (.tmp 8)) .nil))))))))
  .ret))
def X213 : FnS := .code ⟨9, 0, .skip, [.tmp 2]⟩ S213
theorem x213 : okX Go.Proofs.Tryz.prog 213 X213 := ⟨C213, c213, rfl, rfl, rfl, by kernel_rfl⟩
def S214 : SCode := (.seq (.ops (.vd 3 (o_mov (.const (.nilPtr))) .nil))
  (.seq (.seq (.ops (.vd 4 (o_field 2 (.tmp 1)) (.vd 5 (o_load false 1 (.tmp 4)) (.vd 6 (o_bin .lss (.tmp 5) (.const (.int .i64 0))) (.vd 7 (o_mov (.tmp 6)) (.vg 8 7 false (o_field 2 (.tmp 1)) (.vg 9 7 false (o_load false 1 (.tmp 8)) (.vg 10 7 false (o_mov (.tmp 0)) (.vg 11 7 false (o_len (.tmp 10)) (.vg 12 7 false (o_bin .geq (.tmp 9) (.tmp 11)) (.vd 13 (o_pick (.tmp 7) (.const (.bool true)) (.tmp 12)) .nil)))))))))))
  (.cond (.tmp 13)
   (.seq (.ops (.vd 3 (o_mov (.const (.nilPtr))) .nil))
   .ret)
   .skip))
  (.seq (.ops (.vd 14 (o_mov (.tmp 0)) (.vd 15 (o_field 2 (.tmp 1)) (.vd 16 (o_load false 1 (.tmp 15)) (.vd 17 (o_index 1 (.tmp 14) (.tmp 16)) (.vd 3 (o_mov (.tmp 17)) .nil))))))
  .ret)))
def X214 : FnS := .code ⟨18, 0, .skip, [.tmp 3]⟩ S214
theorem x214 : okX Go.Proofs.Tryz.prog 214 X214 := ⟨C214, c214, rfl, rfl, rfl, by kernel_rfl⟩
def S215_1 : SCode := .seq (.ops (.vd 29 (o_bin .lss (.tmp 28) (.tmp 27)) .nil))
       (.seq (.cond (.tmp 29)
        .skip
        (.exit 2))
       (.seq (.block 3 (.seq (.ops (.vd 30 (o_mov (.tmp 28)) (.vd 5 (o_mov (.tmp 30)) .nil)))
        (.seq (.ops (.vd 31 (o_mov (.tmp 3)) (.vd 32 (o_mov (.tmp 5)) (.vd 33 (o_build [.int .i64 0, .int .i64 0, .int .i64 0] [(0, 1, (.tmp 31)), (2, 1, (.tmp 32))]) (.vd 6 (o_new [.int .i64 0, .int .i64 0, .int .i64 0]) (.v none none (o_store 3 (.tmp 6) (.tmp 33)) .nil))))))
        (.seq (.seq (.ops (.vd 34 (o_mov (.tmp 3)) (.vd 35 (o_bin .eql (.tmp 34) (.const (.int .i64 0))) .nil)))
        (.cond (.tmp 35)
         (.ops (.vd 36 (o_mov (.tmp 5)) (.vd 37 (o_bin .quo (.tmp 36) (.const (.int .i64 16))) (.vd 38 (o_mov (.tmp 5)) (.vd 39 (o_bin .rem (.tmp 38) (.const (.int .i64 16))) (.vd 40 (o_field 1 (.tmp 6)) (.v none none (o_store 1 (.tmp 40) (.tmp 37)) (.vd 41 (o_field 2 (.tmp 6)) (.v none none (o_store 1 (.tmp 41) (.tmp 39)) .nil)))))))))
         .skip))
        (.seq (.dregion [⟨⟨some 42, none, .mov (.tmp 4)⟩, 0, 0, 0⟩, ⟨⟨some 43, none, .mov (.tmp 5)⟩, 1, 0, 0⟩, ⟨⟨some 44, none, .index 1 (.tmp 42) (.tmp 43)⟩, 2, 0, 0⟩, ⟨⟨some 45, none, .load false 1 (.tmp 44)⟩, 3, 1, 0⟩, ⟨⟨some 46, none, .bin .neq (.tmp 45) (.const (.int .i64 0))⟩, 4, 0, 0⟩, ⟨⟨some 47, none, .mov (.tmp 46)⟩, 5, 0, 0⟩, ⟨⟨some 48, some (47, true), .mov (.tmp 0)⟩, 6, 0, 0⟩, ⟨⟨some 49, some (47, true), .load true 3 (.tmp 6)⟩, 7, 1, 0⟩, ⟨⟨some 50, some (47, true), .mov (.tmp 4)⟩, 8, 0, 0⟩, ⟨⟨some 51, some (47, true), .mov (.tmp 5)⟩, 9, 0, 0⟩, ⟨⟨some 52, some (47, true), .index 1 (.tmp 50) (.tmp 51)⟩, 10, 0, 0⟩, ⟨⟨some 53, some (47, true), .callm (.tmp 48) [(.tmp 49), (.tmp 52)] [(267, "dustcart/alloc.place", 272), (268, "dustcart/alloc.place", 277), (269, "dustcart/alloc.place", 285), (270, "dustcart/alloc.place", 286), (271, "dustcart/alloc.place", 290)]⟩, 11, 3, 0⟩, ⟨⟨some 54, some (47, true), .not (.tmp 53)⟩, 12, 0, 1⟩, ⟨⟨some 55, none, .pick (.tmp 47) (.tmp 54) (.const (.bool false))⟩, 13, 0, 1⟩])
        (.cond (.tmp 55)
         .ret
         .skip))))))
       (.ops (.vd 56 (o_bin .add (.tmp 28) (.const (.int .i64 1))) (.vd 28 (o_mov (.tmp 56)) .nil)))))
def S215_2 : SCode := .seq (.ops (.vd 22 (o_bin .lss (.tmp 21) (.tmp 20)) .nil))
    (.seq (.cond (.tmp 22)
     .skip
     (.exit 0))
    (.seq (.block 1 (.seq (.ops (.vd 23 (o_mov (.tmp 21)) (.vd 24 (o_index 1 (.tmp 19) (.tmp 21)) (.vd 25 (o_load false 1 (.tmp 24)) (.vd 3 (o_mov (.tmp 23)) (.vd 4 (o_mov (.tmp 25)) .nil))))))
     (.seq (.ops (.vd 26 (o_mov (.tmp 4)) (.vd 27 (o_len (.tmp 26)) (.vd 28 (o_mov (.const (.int .i64 0))) .nil))))
     (.block 2 (.loop S215_1)))))
    (.ops (.vd 57 (o_bin .add (.tmp 21) (.const (.int .i64 1))) (.vd 21 (o_mov (.tmp 57)) .nil)))))
def S215 : SCode := (.seq (.dregion [⟨⟨some 7, none, .load false 1 (.tmp 1)⟩, 0, 1, 0⟩, ⟨⟨some 8, none, .nilCheck (.tmp 7)⟩, 1, 0, 0⟩, ⟨⟨some 9, none, .field 1 (.tmp 8)⟩, 2, 0, 0⟩, ⟨⟨some 10, none, .load false 1 (.tmp 9)⟩, 3, 1, 0⟩, ⟨⟨some 11, none, .load false 1 (.tmp 1)⟩, 4, 1, 0⟩, ⟨⟨some 12, none, .nilCheck (.tmp 11)⟩, 5, 0, 0⟩, ⟨⟨some 13, none, .field 2 (.tmp 12)⟩, 6, 0, 0⟩, ⟨⟨some 14, none, .load false 1 (.tmp 13)⟩, 7, 1, 0⟩, ⟨⟨some 15, none, .load false 1 (.tmp 1)⟩, 8, 1, 0⟩, ⟨⟨some 16, none, .nilCheck (.tmp 15)⟩, 9, 0, 0⟩, ⟨⟨some 17, none, .field 3 (.tmp 16)⟩, 10, 0, 0⟩, ⟨⟨some 18, none, .load false 1 (.tmp 17)⟩, 11, 1, 0⟩, ⟨⟨some 19, none, .buildSlice 1 [.nilSlice, .nilSlice, .nilSlice] 3 [(0, 1, (.tmp 10)), (1, 1, (.tmp 14)), (2, 1, (.tmp 18))]⟩, 12, 0, 0⟩, ⟨⟨some 20, none, .len (.tmp 19)⟩, 13, 0, 0⟩, ⟨⟨some 21, none, .mov (.const (.int .i64 0))⟩, 14, 0, 0⟩])
  (.block 0 (.loop S215_2)))
def X215 : FnS := .code ⟨58, 0, .skip, []⟩ S215
theorem x215 : okX Go.Proofs.Tryz.prog 215 X215 := ⟨C215, c215, rfl, rfl, rfl, by kernel_rfl⟩
def S216_1 : SCode := .seq (.seq (.dregion [⟨⟨some 18, none, .mov (.tmp 9)⟩, 0, 0, 0⟩, ⟨⟨some 19, none, .mov (.tmp 1)⟩, 1, 0, 0⟩, ⟨⟨some 20, none, .bin .gtr (.tmp 18) (.tmp 19)⟩, 2, 0, 0⟩, ⟨⟨some 21, none, .mov (.tmp 20)⟩, 3, 0, 0⟩, ⟨⟨some 22, some (21, true), .mov (.tmp 3)⟩, 4, 0, 0⟩, ⟨⟨some 23, some (21, true), .mov (.tmp 0)⟩, 5, 0, 0⟩, ⟨⟨some 24, some (21, true), .mov (.tmp 9)⟩, 6, 0, 0⟩, ⟨⟨some 25, some (21, true), .index 2 (.tmp 23) (.tmp 24)⟩, 7, 0, 0⟩, ⟨⟨some 26, some (21, true), .load true 2 (.tmp 25)⟩, 8, 1, 0⟩, ⟨⟨some 27, some (21, true), .mov (.tmp 0)⟩, 9, 0, 0⟩, ⟨⟨some 28, some (21, true), .mov (.tmp 9)⟩, 10, 0, 0⟩, ⟨⟨some 29, some (21, true), .bin .sub (.tmp 28) (.const (.int .i64 1))⟩, 11, 0, 0⟩, ⟨⟨some 30, some (21, true), .index 2 (.tmp 27) (.tmp 29)⟩, 12, 0, 0⟩, ⟨⟨some 31, some (21, true), .load true 2 (.tmp 30)⟩, 13, 1, 0⟩, ⟨⟨some 32, some (21, true), .callm (.tmp 22) [(.tmp 26), (.tmp 31)] [(267, "dustcart/alloc.place", 272), (268, "dustcart/alloc.place", 277), (269, "dustcart/alloc.place", 285), (270, "dustcart/alloc.place", 286), (271, "dustcart/alloc.place", 290)]⟩, 14, 3, 0⟩, ⟨⟨some 33, some (21, true), .bin .lss (.tmp 32) (.const (.int .i64 0))⟩, 15, 0, 1⟩, ⟨⟨some 34, none, .pick (.tmp 21) (.tmp 33) (.const (.bool false))⟩, 16, 0, 1⟩])
       (.cond (.tmp 34)
        .skip
        (.exit 2)))
       (.seq (.block 3 (.dregion [⟨⟨some 37, none, .mov (.tmp 0)⟩, 0, 0, 0⟩, ⟨⟨some 38, none, .mov (.tmp 9)⟩, 1, 0, 0⟩, ⟨⟨some 42, none, .mov (.tmp 0)⟩, 5, 0, 0⟩, ⟨⟨some 43, none, .mov (.tmp 9)⟩, 6, 0, 0⟩, ⟨⟨some 44, none, .bin .sub (.tmp 43) (.const (.int .i64 1))⟩, 7, 0, 0⟩, ⟨⟨some 45, none, .index 2 (.tmp 42) (.tmp 44)⟩, 8, 0, 0⟩, ⟨⟨some 46, none, .load true 2 (.tmp 45)⟩, 9, 1, 0⟩, ⟨⟨some 47, none, .mov (.tmp 0)⟩, 10, 0, 0⟩, ⟨⟨some 48, none, .mov (.tmp 9)⟩, 11, 0, 0⟩, ⟨⟨some 49, none, .index 2 (.tmp 47) (.tmp 48)⟩, 12, 0, 0⟩, ⟨⟨some 50, none, .load true 2 (.tmp 49)⟩, 13, 1, 0⟩, ⟨⟨some 51, none, .index 2 (.tmp 37) (.tmp 38)⟩, 14, 0, 0⟩, ⟨⟨none, none, .store 2 (.tmp 51) (.tmp 46)⟩, 15, 3, 0⟩, ⟨⟨some 39, none, .mov (.tmp 0)⟩, 2, 0, 0⟩, ⟨⟨some 40, none, .mov (.tmp 9)⟩, 3, 0, 0⟩, ⟨⟨some 41, none, .bin .sub (.tmp 40) (.const (.int .i64 1))⟩, 4, 0, 0⟩, ⟨⟨some 52, none, .index 2 (.tmp 39) (.tmp 41)⟩, 16, 0, 1⟩, ⟨⟨none, none, .store 2 (.tmp 52) (.tmp 50)⟩, 17, 3, 1⟩]))
       (.ops (.vd 35 (o_mov (.tmp 9)) (.vd 36 (o_bin .sub (.tmp 35) (.const (.int .i64 1))) (.vd 9 (o_mov (.tmp 36)) .nil)))))
def S216_2 : SCode := .seq (.seq (.ops (.vd 12 (o_mov (.tmp 8)) (.vd 13 (o_mov (.tmp 2)) (.vd 14 (o_bin .lss (.tmp 12) (.tmp 13)) .nil))))
    (.cond (.tmp 14)
     .skip
     (.exit 0)))
    (.seq (.block 1 (.seq (.ops (.vd 17 (o_mov (.tmp 8)) (.vd 9 (o_mov (.tmp 17)) .nil)))
     (.block 2 (.loop S216_1))))
    (.ops (.vd 15 (o_mov (.tmp 8)) (.vd 16 (o_bin .add (.tmp 15) (.const (.int .i64 1))) (.vd 8 (o_mov (.tmp 16)) .nil)))))
def S216 : SCode := (.seq (.ops (.vd 10 (o_mov (.tmp 1)) (.vd 11 (o_bin .add (.tmp 10) (.const (.int .i64 1))) (.vd 8 (o_mov (.tmp 11)) .nil))))
  (.block 0 (.loop S216_2)))
def X216 : FnS := .code ⟨53, 0, .skip, []⟩ S216
theorem x216 : okX Go.Proofs.Tryz.prog 216 X216 := ⟨C216, c216, rfl, rfl, rfl, by kernel_rfl⟩
def S224 : SCode := (.seq (.ops (.vd 2 (o_mov (.const (.bool false))) .nil))
  (.seq (.ops (.vd 3 (o_mov (.tmp 0)) (.vd 4 (o_mov (.tmp 0)) (.vd 5 (o_bin .neq (.tmp 3) (.tmp 4)) (.vd 2 (o_mov (.tmp 5)) .nil)))))
  .ret))
def X224 : FnS := .code ⟨6, 0, .skip, [.tmp 2]⟩ S224
theorem x224 : okX Go.Proofs.Tryz.prog 224 X224 := ⟨C224, c224, rfl, rfl, rfl, by kernel_rfl⟩
def S232 : SCode := (.seq (.ops (.vd 8 (o_mov (.const (.bool false))) (.vd 9 (o_mov (.const (.int .i64 0))) .nil)))
  (.seq (.seq (.ops (.vd 11 (o_mov (.tmp 0)) (.vd 12 (o_mov (.tmp 1)) (.vd 13 (o_mov (.tmp 2)) (.vd 14 (o_mov (.tmp 3)) (.vd 15 (o_buildSlice 1 [.int .i64 0, .int .i64 0] 2 [(0, 1, (.tmp 13)), (1, 1, (.tmp 14))]) (.cd 16 (fun F => c_call F 164 [(.tmp 11), (.tmp 12), (.tmp 15)]) (.vd 10 (o_mov (.tmp 16)) .nil))))))))
  (.seq (.ops (.vd 17 (o_mov (.tmp 10)) (.vd 18 (o_bin .neq (.tmp 17) (.const (.int .i64 0))) .nil)))
  (.cond (.tmp 18)
   (.seq (.ops (.vd 19 (o_mov (.tmp 10)) (.vd 8 (o_mov (.const (.bool false))) (.vd 9 (o_mov (.tmp 19)) .nil))))
   .ret)
   .skip)))
  (.seq (.seq (.ops (.vd 20 (o_mov (.tmp 0)) (.vd 21 (o_mov (.tmp 1)) (.cd 22 (fun F => c_call F 169 [(.tmp 20), (.tmp 21)]) (.vd 23 (o_mov (.tmp 2)) (.vd 24 (o_bin .neq (.tmp 22) (.tmp 23)) .nil))))))
  (.cond (.tmp 24)
   (.seq (.ops (.vd 8 (o_mov (.const (.bool false))) (.vd 9 (o_mov (.const (.int .i64 0))) .nil)))
   .ret)
   .skip))
  (.seq (.ops (.vd 25 (o_mov (.tmp 0)) (.vd 26 (o_mov (.tmp 1)) (.vd 27 (o_mov (.tmp 3)) (.cd 28 (fun F => c_call F 165 [(.tmp 25), (.tmp 26), (.tmp 27)]) .nil)))))
  (.seq (.ops (.vd 8 (o_mov (.const (.bool true))) (.vd 9 (o_mov (.const (.int .i64 0))) .nil)))
  .ret)))))
def X232 : FnS := .code ⟨29, 0, .skip, [.tmp 8, .tmp 9]⟩ S232
theorem x232 : okX Go.Proofs.Tryz.prog 232 X232 := ⟨C232, c232, rfl, rfl, rfl, by kernel_rfl⟩
def S233 : SCode := (.seq (.ops (.vd 2 (o_mov (.const (.int .i64 0))) .nil))
  (.seq (.dregion [⟨⟨some 4, none, .mov (.tmp 0)⟩, 0, 0, 0⟩, ⟨⟨some 5, none, .nilCheck (.tmp 4)⟩, 1, 0, 0⟩, ⟨⟨some 6, none, .field 0 (.tmp 5)⟩, 2, 0, 0⟩, ⟨⟨some 7, none, .load false 1 (.tmp 6)⟩, 3, 1, 0⟩, ⟨⟨some 8, none, .mov (.tmp 0)⟩, 4, 0, 0⟩, ⟨⟨some 9, none, .nilCheck (.tmp 8)⟩, 5, 0, 0⟩, ⟨⟨some 10, none, .field 0 (.tmp 9)⟩, 6, 0, 0⟩, ⟨⟨some 11, none, .load false 1 (.tmp 10)⟩, 7, 1, 0⟩, ⟨⟨some 12, none, .len (.tmp 11)⟩, 8, 0, 0⟩, ⟨⟨some 13, none, .bin .sub (.tmp 12) (.const (.int .i64 1))⟩, 9, 0, 0⟩, ⟨⟨some 14, none, .index 1 (.tmp 7) (.tmp 13)⟩, 10, 0, 0⟩, ⟨⟨some 15, none, .load false 1 (.tmp 14)⟩, 11, 1, 0⟩, ⟨⟨some 3, none, .mov (.tmp 15)⟩, 12, 0, 0⟩])
  (.seq (.dregion [⟨⟨some 16, none, .mov (.tmp 0)⟩, 0, 0, 0⟩, ⟨⟨some 17, none, .mov (.tmp 0)⟩, 1, 0, 0⟩, ⟨⟨some 18, none, .nilCheck (.tmp 17)⟩, 2, 0, 0⟩, ⟨⟨some 19, none, .field 0 (.tmp 18)⟩, 3, 0, 0⟩, ⟨⟨some 20, none, .load false 1 (.tmp 19)⟩, 4, 1, 0⟩, ⟨⟨some 21, none, .mov (.tmp 0)⟩, 5, 0, 0⟩, ⟨⟨some 22, none, .nilCheck (.tmp 21)⟩, 6, 0, 0⟩, ⟨⟨some 23, none, .field 0 (.tmp 22)⟩, 7, 0, 0⟩, ⟨⟨some 24, none, .load false 1 (.tmp 23)⟩, 8, 1, 0⟩, ⟨⟨some 25, none, .len (.tmp 24)⟩, 9, 0, 0⟩, ⟨⟨some 26, none, .bin .sub (.tmp 25) (.const (.int .i64 1))⟩, 10, 0, 0⟩, ⟨⟨some 27, none, .slice 1 (.tmp 20) none (some (.tmp 26)) none⟩, 11, 0, 0⟩, ⟨⟨some 28, none, .nilCheck (.tmp 16)⟩, 12, 0, 0⟩, ⟨⟨some 29, none, .field 0 (.tmp 28)⟩, 13, 0, 0⟩, ⟨⟨none, none, .store 1 (.tmp 29) (.tmp 27)⟩, 14, 3, 0⟩])
  (.seq (.ops (.vd 30 (o_mov (.tmp 3)) (.vd 2 (o_mov (.tmp 30)) .nil)))
  .ret))))
def X233 : FnS := .code ⟨31, 0, .skip, [.tmp 2]⟩ S233
theorem x233 : okX Go.Proofs.Tryz.prog 233 X233 := ⟨C233, c233, rfl, rfl, rfl, by kernel_rfl⟩
def S235_1 : SCode := .seq (.seq (.ops (.vd 19 (o_mov (.tmp 8)) (.vd 20 (o_field 0 (.tmp 5)) (.vd 21 (o_load false 1 (.tmp 20)) (.vd 22 (o_bin .lss (.tmp 19) (.tmp 21)) .nil)))))
    (.cond (.tmp 22)
     .skip
     (.exit 0)))
    (.seq (.block 1 (.seq (.ops (.vd 26 (o_mov (.tmp 0)) (.vd 27 (o_mov (.tmp 1)) (.vd 28 (o_mov (.tmp 8)) (.cd 29 (fun F => c_call F 111 [(.tmp 26), (.tmp 27), (.tmp 28)]) (.vd 25 (o_mov (.tmp 29)) (.vd 30 (o_extract (.tmp 25) 0) (.vd 31 (o_extract (.tmp 25) 1) (.vd 9 (o_mov (.tmp 30)) (.vd 10 (o_mov (.tmp 31)) .nil))))))))))
     (.ops (.vd 32 (o_mov (.tmp 7)) (.vd 33 (o_mov (.tmp 9)) (.vd 34 (o_buildSlice 1 [.int .i64 0] 1 [(0, 1, (.tmp 33))]) (.vd 35 (o_append 1 (.tmp 32) (.tmp 34)) (.vd 7 (o_mov (.tmp 35)) .nil))))))))
    (.ops (.vd 23 (o_mov (.tmp 8)) (.vd 24 (o_bin .add (.tmp 23) (.const (.int .i64 1))) (.vd 8 (o_mov (.tmp 24)) .nil)))))
def S235 : SCode := (.seq (.ops (.vd 4 (o_mov (.const (.nilSlice))) .nil))
  (.seq (.ops (.vd 12 (o_mov (.tmp 0)) (.vd 13 (o_mov (.tmp 1)) (.cd 14 (fun F => c_call F 109 [(.tmp 12), (.tmp 13)]) (.vd 11 (o_mov (.tmp 14)) (.vd 15 (o_extract (.tmp 11) 0) (.vd 16 (o_extract (.tmp 11) 1) (.vd 5 (o_new [.int .i64 0, .int .i64 0, .int .i64 0]) (.v none none (o_store 3 (.tmp 5) (.tmp 15)) (.vd 6 (o_mov (.tmp 16)) .nil))))))))))
  (.seq (.ops (.vd 7 (o_mov (.const (.nilSlice))) .nil))
  (.seq (.seq (.ops (.vd 17 (o_load true 3 (.tmp 5)) (.cd 18 (fun F => c_call F 144 [(.tmp 17)]) (.vd 8 (o_mov (.tmp 18)) .nil))))
  (.block 0 (.loop S235_1)))
  (.seq (.ops (.vd 36 (o_mov (.tmp 7)) (.vd 4 (o_mov (.tmp 36)) .nil)))
  .ret)))))
def X235 : FnS := .code ⟨37, 0, .skip, [.tmp 4]⟩ S235
theorem x235 : okX Go.Proofs.Tryz.prog 235 X235 := ⟨C235, c235, rfl, rfl, rfl, by kernel_rfl⟩
def S243 : SCode := (.seq (.ops (.vd 2 (o_mov (.const (.bool false))) .nil))
  (.seq (.ops (.vd 3 (o_mov (.tmp 0)) (.vd 4 (o_mov (.tmp 0)) (.vd 5 (o_bin .neq (.tmp 3) (.tmp 4)) (.vd 2 (o_mov (.tmp 5)) .nil)))))
  .ret))
def X243 : FnS := .code ⟨6, 0, .skip, [.tmp 2]⟩ S243
theorem x243 : okX Go.Proofs.Tryz.prog 243 X243 := ⟨C243, c243, rfl, rfl, rfl, by kernel_rfl⟩
end Go.Cs.Tryz

/- The table of the turned functions, for the evaluator. -/
noncomputable section
namespace Go.Cs.Tryz
open Go Go.Cs Go.Cs.K
set_option maxRecDepth 100000
def tlo : Tr FnS := (.node none (.node none (.node (some X3) (.node (some X7) (.node none (.node (some X31) (.node (some X63) .nil (.node (some X191) .nil .nil)) (.node (some X95) (.node (some X159) .nil .nil) .nil)) (.node none (.node none (.node (some X143) .nil .nil) (.node (some X207) .nil .nil)) (.node (some X111) (.node (some X175) .nil .nil) .nil))) (.node none (.node (some X39) (.node none (.node (some X135) .nil .nil) .nil) (.node none (.node (some X167) .nil .nil) .nil)) (.node (some X55) (.node (some X87) .nil (.node (some X215) .nil .nil)) (.node (some X119) .nil .nil)))) (.node (some X11) (.node none (.node (some X35) (.node none (.node (some X131) .nil .nil) (.node (some X195) .nil .nil)) (.node (some X99) .nil .nil)) (.node none (.node (some X83) .nil (.node (some X211) .nil .nil)) (.node (some X115) .nil (.node (some X243) .nil .nil)))) (.node none (.node (some X43) (.node none (.node (some X139) .nil .nil) (.node (some X203) .nil .nil)) (.node (some X107) .nil (.node (some X235) .nil .nil))) (.node none (.node (some X91) (.node (some X155) .nil .nil) .nil) .nil)))) (.node none (.node (some X9) (.node none (.node (some X33) (.node none .nil (.node (some X193) .nil .nil)) (.node (some X97) (.node (some X161) .nil .nil) .nil)) (.node none (.node (some X81) (.node (some X145) .nil .nil) (.node (some X209) .nil .nil)) (.node (some X113) .nil .nil))) (.node none (.node (some X41) (.node (some X73) (.node (some X137) .nil .nil) .nil) (.node (some X105) (.node (some X169) .nil .nil) (.node (some X233) .nil .nil))) (.node none (.node none (.node (some X153) .nil .nil) .nil) .nil))) (.node (some X13) (.node none (.node none (.node (some X69) (.node (some X133) .nil .nil) .nil) (.node (some X101) (.node (some X165) .nil .nil) .nil)) (.node (some X53) (.node (some X85) .nil (.node (some X213) .nil .nil)) (.node (some X117) .nil .nil))) (.node (some X29) (.node none (.node none (.node (some X141) .nil .nil) .nil) (.node (some X109) (.node (some X173) .nil .nil) .nil)) (.node none (.node (some X93) .nil .nil) .nil))))) (.node none (.node none (.node (some X8) (.node none (.node (some X32) (.node (some X64) .nil (.node (some X192) .nil .nil)) (.node (some X96) (.node (some X160) .nil .nil) (.node (some X224) .nil .nil))) (.node none (.node (some X80) (.node (some X144) .nil .nil) .nil) .nil)) (.node none (.node (some X40) (.node none (.node (some X136) .nil .nil) .nil) (.node none (.node (some X168) .nil .nil) (.node (some X232) .nil .nil))) (.node none (.node none .nil (.node (some X216) .nil .nil)) (.node (some X120) .nil .nil)))) (.node (some X12) (.node none (.node none (.node (some X68) .nil .nil) (.node (some X100) (.node (some X164) .nil .nil) .nil)) (.node none (.node (some X84) .nil (.node (some X212) .nil .nil)) (.node (some X116) .nil .nil))) (.node (some X28) (.node (some X44) (.node none (.node (some X140) .nil .nil) .nil) (.node none (.node (some X172) .nil .nil) .nil)) (.node none (.node (some X92) (.node (some X156) .nil .nil) .nil) .nil)))) (.node none (.node (some X10) (.node none (.node (some X34) (.node (some X66) .nil (.node (some X194) .nil .nil)) (.node (some X98) (.node (some X162) .nil .nil) .nil)) (.node (some X50) (.node (some X82) .nil (.node (some X210) .nil .nil)) .nil)) (.node none (.node (some X42) (.node none (.node (some X138) .nil .nil) .nil) (.node none (.node (some X170) .nil .nil) .nil)) (.node (some X58) (.node (some X90) (.node (some X154) .nil .nil) .nil) .nil))) (.node (some X14) (.node none (.node (some X38) (.node (some X70) (.node (some X134) .nil .nil) .nil) (.node none (.node (some X166) .nil .nil) .nil)) (.node (some X54) (.node (some X86) (.node (some X150) .nil .nil) (.node (some X214) .nil .nil)) (.node (some X118) .nil .nil))) (.node (some X30) (.node none (.node none (.node (some X142) .nil .nil) .nil) (.node none (.node (some X174) .nil .nil) .nil)) (.node none (.node (some X94) (.node (some X158) .nil .nil) .nil) (.node none (.node (some X190) .nil .nil) .nil)))))))
def thi : Tr FnS := (.node none (.node none .nil (.node none (.node none (.node none (.node none (.node none .nil (.node none .nil (.node none (.node none .nil (.node none .nil (.node (some X1003777) .nil .nil))) .nil))) (.node none (.node none .nil (.node none (.node none (.node none .nil (.node (some X1003233) .nil .nil)) .nil) (.node none (.node none (.node none (.node (some X1004513) .nil .nil) .nil) .nil) .nil))) .nil)) .nil) .nil) .nil)) (.node none (.node none (.node none (.node none (.node none (.node none .nil (.node none .nil (.node none (.node none .nil (.node none .nil (.node (some X1003776) .nil .nil))) .nil))) (.node none (.node none .nil (.node none (.node none (.node none .nil (.node (some X1003232) .nil .nil)) .nil) (.node none (.node none (.node none (.node (some X1004512) .nil .nil) .nil) .nil) .nil))) .nil)) .nil) .nil) .nil) .nil))
theorem glo : AllTr (fun p s => okX Go.Proofs.Tryz.prog (dec p) s) tlo := ⟨trivial, ⟨trivial, ⟨x3, ⟨x7, ⟨trivial, ⟨x31, ⟨x63, trivial, ⟨x191, trivial, trivial⟩⟩, ⟨x95, ⟨x159, trivial, trivial⟩, trivial⟩⟩, ⟨trivial, ⟨trivial, ⟨x143, trivial, trivial⟩, ⟨x207, trivial, trivial⟩⟩, ⟨x111, ⟨x175, trivial, trivial⟩, trivial⟩⟩⟩, ⟨trivial, ⟨x39, ⟨trivial, ⟨x135, trivial, trivial⟩, trivial⟩, ⟨trivial, ⟨x167, trivial, trivial⟩, trivial⟩⟩, ⟨x55, ⟨x87, trivial, ⟨x215, trivial, trivial⟩⟩, ⟨x119, trivial, trivial⟩⟩⟩⟩, ⟨x11, ⟨trivial, ⟨x35, ⟨trivial, ⟨x131, trivial, trivial⟩, ⟨x195, trivial, trivial⟩⟩, ⟨x99, trivial, trivial⟩⟩, ⟨trivial, ⟨x83, trivial, ⟨x211, trivial, trivial⟩⟩, ⟨x115, trivial, ⟨x243, trivial, trivial⟩⟩⟩⟩, ⟨trivial, ⟨x43, ⟨trivial, ⟨x139, trivial, trivial⟩, ⟨x203, trivial, trivial⟩⟩, ⟨x107, trivial, ⟨x235, trivial, trivial⟩⟩⟩, ⟨trivial, ⟨x91, ⟨x155, trivial, trivial⟩, trivial⟩, trivial⟩⟩⟩⟩, ⟨trivial, ⟨x9, ⟨trivial, ⟨x33, ⟨trivial, trivial, ⟨x193, trivial, trivial⟩⟩, ⟨x97, ⟨x161, trivial, trivial⟩, trivial⟩⟩, ⟨trivial, ⟨x81, ⟨x145, trivial, trivial⟩, ⟨x209, trivial, trivial⟩⟩, ⟨x113, trivial, trivial⟩⟩⟩, ⟨trivial, ⟨x41, ⟨x73, ⟨x137, trivial, trivial⟩, trivial⟩, ⟨x105, ⟨x169, trivial, trivial⟩, ⟨x233, trivial, trivial⟩⟩⟩, ⟨trivial, ⟨trivial, ⟨x153, trivial, trivial⟩, trivial⟩, trivial⟩⟩⟩, ⟨x13, ⟨trivial, ⟨trivial, ⟨x69, ⟨x133, trivial, trivial⟩, trivial⟩, ⟨x101, ⟨x165, trivial, trivial⟩, trivial⟩⟩, ⟨x53, ⟨x85, trivial, ⟨x213, trivial, trivial⟩⟩, ⟨x117, trivial, trivial⟩⟩⟩, ⟨x29, ⟨trivial, ⟨trivial, ⟨x141, trivial, trivial⟩, trivial⟩, ⟨x109, ⟨x173, trivial, trivial⟩, trivial⟩⟩, ⟨trivial, ⟨x93, trivial, trivial⟩, trivial⟩⟩⟩⟩⟩, ⟨trivial, ⟨trivial, ⟨x8, ⟨trivial, ⟨x32, ⟨x64, trivial, ⟨x192, trivial, trivial⟩⟩, ⟨x96, ⟨x160, trivial, trivial⟩, ⟨x224, trivial, trivial⟩⟩⟩, ⟨trivial, ⟨x80, ⟨x144, trivial, trivial⟩, trivial⟩, trivial⟩⟩, ⟨trivial, ⟨x40, ⟨trivial, ⟨x136, trivial, trivial⟩, trivial⟩, ⟨trivial, ⟨x168, trivial, trivial⟩, ⟨x232, trivial, trivial⟩⟩⟩, ⟨trivial, ⟨trivial, trivial, ⟨x216, trivial, trivial⟩⟩, ⟨x120, trivial, trivial⟩⟩⟩⟩, ⟨x12, ⟨trivial, ⟨trivial, ⟨x68, trivial, trivial⟩, ⟨x100, ⟨x164, trivial, trivial⟩, trivial⟩⟩, ⟨trivial, ⟨x84, trivial, ⟨x212, trivial, trivial⟩⟩, ⟨x116, trivial, trivial⟩⟩⟩, ⟨x28, ⟨x44, ⟨trivial, ⟨x140, trivial, trivial⟩, trivial⟩, ⟨trivial, ⟨x172, trivial, trivial⟩, trivial⟩⟩, ⟨trivial, ⟨x92, ⟨x156, trivial, trivial⟩, trivial⟩, trivial⟩⟩⟩⟩, ⟨trivial, ⟨x10, ⟨trivial, ⟨x34, ⟨x66, trivial, ⟨x194, trivial, trivial⟩⟩, ⟨x98, ⟨x162, trivial, trivial⟩, trivial⟩⟩, ⟨x50, ⟨x82, trivial, ⟨x210, trivial, trivial⟩⟩, trivial⟩⟩, ⟨trivial, ⟨x42, ⟨trivial, ⟨x138, trivial, trivial⟩, trivial⟩, ⟨trivial, ⟨x170, trivial, trivial⟩, trivial⟩⟩, ⟨x58, ⟨x90, ⟨x154, trivial, trivial⟩, trivial⟩, trivial⟩⟩⟩, ⟨x14, ⟨trivial, ⟨x38, ⟨x70, ⟨x134, trivial, trivial⟩, trivial⟩, ⟨trivial, ⟨x166, trivial, trivial⟩, trivial⟩⟩, ⟨x54, ⟨x86, ⟨x150, trivial, trivial⟩, ⟨x214, trivial, trivial⟩⟩, ⟨x118, trivial, trivial⟩⟩⟩, ⟨x30, ⟨trivial, ⟨trivial, ⟨x142, trivial, trivial⟩, trivial⟩, ⟨trivial, ⟨x174, trivial, trivial⟩, trivial⟩⟩, ⟨trivial, ⟨x94, ⟨x158, trivial, trivial⟩, trivial⟩, ⟨trivial, ⟨x190, trivial, trivial⟩, trivial⟩⟩⟩⟩⟩⟩⟩
theorem ghi : AllTr (fun p s => okX Go.Proofs.Tryz.prog (1000000 + dec p) s) thi := ⟨trivial, ⟨trivial, trivial, ⟨trivial, ⟨trivial, ⟨trivial, ⟨trivial, ⟨trivial, trivial, ⟨trivial, trivial, ⟨trivial, ⟨trivial, trivial, ⟨trivial, trivial, ⟨x1003777, trivial, trivial⟩⟩⟩, trivial⟩⟩⟩, ⟨trivial, ⟨trivial, trivial, ⟨trivial, ⟨trivial, ⟨trivial, trivial, ⟨x1003233, trivial, trivial⟩⟩, trivial⟩, ⟨trivial, ⟨trivial, ⟨trivial, ⟨x1004513, trivial, trivial⟩, trivial⟩, trivial⟩, trivial⟩⟩⟩, trivial⟩⟩, trivial⟩, trivial⟩, trivial⟩⟩, ⟨trivial, ⟨trivial, ⟨trivial, ⟨trivial, ⟨trivial, ⟨trivial, trivial, ⟨trivial, trivial, ⟨trivial, ⟨trivial, trivial, ⟨trivial, trivial, ⟨x1003776, trivial, trivial⟩⟩⟩, trivial⟩⟩⟩, ⟨trivial, ⟨trivial, trivial, ⟨trivial, ⟨trivial, ⟨trivial, trivial, ⟨x1003232, trivial, trivial⟩⟩, trivial⟩, ⟨trivial, ⟨trivial, ⟨trivial, ⟨x1004512, trivial, trivial⟩, trivial⟩, trivial⟩, trivial⟩⟩⟩, trivial⟩⟩, trivial⟩, trivial⟩, trivial⟩, trivial⟩⟩
def tab : TabS := fun f => cond (Nat.beq f 157) (some (.known nextG)) (cond (Nat.beq f 189) (some (.known lastG)) (cond (Nat.ble 1000000 f) (thi.get (Nat.sub f 1000000)) (tlo.get f)))
theorem tabX {f : Nat} {s : FnS} (h : (if 1000000 ≤ f then thi.get (Nat.sub f 1000000) else tlo.get f) = some s) : okX Go.Proofs.Tryz.prog f s := by
  split at h
  · rename_i hf
    have := AllTr.get (Q := fun n s => okX Go.Proofs.Tryz.prog (1000000 + n) s) ghi h
    rwa [show 1000000 + Nat.sub f 1000000 = f from Nat.add_sub_cancel' hf] at this
  · exact AllTr.get (Q := fun n s => okX Go.Proofs.Tryz.prog n s) glo h
theorem tabOk : TabSOk tab (cprog Go.Proofs.Tryz.prog) where
  code f cf b h := by
    unfold tab at h
    simp only [cond_beq, cond_ble] at h
    split at h
    · simp at h
    split at h
    · simp at h
    exact tabX h
  known f g h := by
    unfold tab at h
    simp only [cond_beq, cond_ble] at h
    split at h
    · rename_i hf
      subst hf
      simp only [Option.some.injEq, FnS.known.injEq] at h
      subst h
      intro args H v H' h
      exact nextG_ok h
    split at h
    · rename_i hf
      subst hf
      simp only [Option.some.injEq, FnS.known.injEq] at h
      subst h
      intro args H v H' h
      exact lastG_ok h
    exact (tabX h).elim
end Go.Cs.Tryz

/- CompactNone's run: true for every space. The kernel evaluates it: at each space, and at all numbers that are no space at once. -/
noncomputable section
namespace Go.Cs.Tryz
open Go Go.Cs Go.Cs.K
set_option maxRecDepth 1000000
def isT (r : Option (CV × KH)) : Bool := match r with
  | some (.bool true, _) => true
  | _ => false
theorem isT_run {f n : Nat} {args : List CV} (h : isT (runS tab n f args ⟨.nil, 0⟩) = true) : ∃ H', run (cprog Go.Proofs.Tryz.prog) f args [] = some (.bool true, H') := by
  cases e : runS tab n f args ⟨.nil, 0⟩ with
  | none => rw [e] at h; cases h
  | some r =>
    obtain ⟨v, H⟩ := r
    rw [e] at h
    have hv : v = .bool true := by
      unfold isT at h
      split at h
      · rename_i e2; cases e2; rfl
      · cases h
    subst hv
    exact ⟨abs H, runS_spec tabOk e⟩
theorem t3_0 : isT (runS tab 5000 3 [.int .i64 (.ofNat 0)] ⟨.nil, 0⟩) = true := by kernel_rfl
theorem t3_1 : isT (runS tab 5000 3 [.int .i64 (.ofNat 1)] ⟨.nil, 0⟩) = true := by kernel_rfl
theorem t3_2 : isT (runS tab 5000 3 [.int .i64 (.ofNat 2)] ⟨.nil, 0⟩) = true := by kernel_rfl
theorem t3_3 : isT (runS tab 5000 3 [.int .i64 (.ofNat 3)] ⟨.nil, 0⟩) = true := by kernel_rfl
theorem t3_4 : isT (runS tab 5000 3 [.int .i64 (.ofNat 4)] ⟨.nil, 0⟩) = true := by kernel_rfl
theorem t3_5 : isT (runS tab 5000 3 [.int .i64 (.ofNat 5)] ⟨.nil, 0⟩) = true := by kernel_rfl
theorem t3_6 : isT (runS tab 5000 3 [.int .i64 (.ofNat 6)] ⟨.nil, 0⟩) = true := by kernel_rfl
theorem t3_7 : isT (runS tab 5000 3 [.int .i64 (.ofNat 7)] ⟨.nil, 0⟩) = true := by kernel_rfl
theorem t3_8 (n : Nat) : isT (runS tab 5000 3 [.int .i64 (.ofNat (n + 8))] ⟨.nil, 0⟩) = true := by kernel_rfl
theorem t3_n (n : Nat) : isT (runS tab 5000 3 [.int .i64 (.negSucc n)] ⟨.nil, 0⟩) = true := by kernel_rfl
theorem f3 : ∀ z : Int, ∃ H', run (cprog Go.Proofs.Tryz.prog) 3 [.i z] [] = some (.bool true, H')
  | .ofNat 0 => isT_run t3_0
  | .ofNat 1 => isT_run t3_1
  | .ofNat 2 => isT_run t3_2
  | .ofNat 3 => isT_run t3_3
  | .ofNat 4 => isT_run t3_4
  | .ofNat 5 => isT_run t3_5
  | .ofNat 6 => isT_run t3_6
  | .ofNat 7 => isT_run t3_7
  | .ofNat (n + 8) => isT_run (t3_8 n)
  | .negSucc n => isT_run (t3_n n)
end Go.Cs.Tryz

/- CompactNone returns true for every input: without a heap, roots or marks no object is compacted. (ErrArg) Conditions: none. -/
namespace Go.Proofs.YtpaijheplfakiaaGreat.compactNone
open Go Go.Cs Go.ChangeShapes Go.WideShapes Go.ChangeAt Go.RowKit
set_option linter.unusedVariables false
theorem own : ownKnob Tryz.prog.godebug = none := by kernel_rfl
theorem laidOut : laidOutB Tryz.prog = true := by kernel_rfl
theorem follows : Tryz.prog.follows .mixedOrders = true := by kernel_rfl
set_option maxRecDepth 100000 in
theorem lifted (os : Os) (started : os.Started) (H : Type) (enc : TypeId × Value → H) :
    ReturnsInHanded {} Tryz.checked os 3 .any (Rows.compactNoneSpec.pre6 enc Tryz.prog Tryz.f3 Rows.compactNoneRow.domain false) (Rows.compactNoneSpec.post enc Tryz.prog Tryz.f3 false true false false) := by
  refine returnsInHanded_of_change_sized (C := Tryz.checked) own started (by kernel_rfl) Tryz.func3
    (ChangeSpec.witness6 (enc := enc) (C := Tryz.checked) false ⟨#[], #[.int .i64 0], []⟩ 8 (by kernel_rfl) (by kernel_rfl) (by kernel_rfl) (by kernel_rfl)) ?_
  intro W base args ds gs before hval0 hW hcnd hsz0 _
  have hval : ∀ (j : Nat) t v, Tryz.f3.params[j]? = some t → args[j]? = some v → Value.okWide Tryz.prog W .any base t v := hval0
  have hW' := hW
  obtain ⟨p, q, hA0, hV, rfl, hfz, hnd⟩ := hW
  have hA : DataW.TrodAll enc Tryz.prog W 0 (fun _ => true) true Tryz.f3.params.toList args.toList ds p := hA0
  rw [Tryz.params3] at hA hval
  clear hA0 hval0 hsz0 hcnd
  obtain ⟨v0, vs0, d0, ds0, p0, q0, hargs, rfl, rfl, h0, r0⟩ := trodAll_cons hA
  obtain ⟨rfl, rfl, rfl⟩ := trodAll_nil r0
  obtain rfl : args = #[v0] := by cases args; simp_all
  obtain ⟨rfl, rfl⟩ := trodVars_none hV
  obtain ⟨x0, rfl, rfl, rfl, w0⟩ := open_int (k := .i64) (show Tryz.prog.underlying 3 = some (.int .i64) from by kernel_rfl) (hval 0 3 v0 rfl rfl) h0
  obtain ⟨H1, hrun⟩ : ∃ H1, run (cprog Tryz.prog) 3 [.i x0] [] = some (.bool true, H1) := Go.Cs.Tryz.f3 x0
  have hb : ∀ b blk, ([] : CHeap)[b]? = some blk → BlkOk W blk (([] : List (Option Tgt)).getD b none) := fun b blk hb => by simp at hb
  refine (run_calls follows (by decide) (tgs := []) (W := W) (args' := #[.int .i64 x0]) rfl hb hrun ?_).mono fun e W' he => ?_
  · simp only [VL]
    exact ⟨_, _, rfl, by simp [V], rfl⟩
  obtain ⟨⟨ν, v', rfl, hv'⟩, bel⟩ := he
  simp only [V] at hv'
  subst hv'
  exact ⟨_, rfl, _, _, _, [], _, [], hW', trodAll_mk1 (shut_bool (show Tryz.prog.underlying 4 = some .bool from by kernel_rfl) _), (trodAll_cons_mk (shut_int (show Tryz.prog.underlying 3 = some (.int .i64) from by kernel_rfl) w0) trodAll_mk0), rfl, bel.frame _, fun h => by cases h⟩
theorem over : Rows.compactNoneRow.holds Tryz.pinned (OpenSpec.ofChange Rows.compactNoneSpec) :=
  OpenClaim.holds_of_wide 3 Tryz.f3 rfl rfl rfl rfl rfl rfl rfl ⟨rfl, rfl, rfl, rfl, rfl⟩ rfl rfl rfl rfl rfl (by kernel_rfl) Tryz.func3 (by kernel_rfl)
    (of_decide_eq_true (by kernel_rfl)) (by unfold Func.isWrapper; first | (rw [if_pos (by decide +kernel)]; kernel_rfl) | (rw [if_neg (by decide +kernel)]; exact ⟨rfl, rfl⟩))
    (fun os started H enc _ => lifted os started H enc)
end Go.Proofs.YtpaijheplfakiaaGreat.compactNone
namespace Go.Proofs.YtpaijheplfakiaaGreat
/-- The row. -/
theorem compactNone_holds : Rows.CompactNoneSaid := compactNone.over
#print axioms compactNone_holds
end Go.Proofs.YtpaijheplfakiaaGreat
