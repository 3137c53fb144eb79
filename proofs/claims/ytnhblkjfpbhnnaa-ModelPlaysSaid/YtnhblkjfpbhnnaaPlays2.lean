/- A part of the proof: ModelPlays returns true for every input: whatever is called, a model returns what the chapter says, and is in the state that it says. (Functions; at most 120 calls) Conditions: none. -/
import Derived.Test.YtnhblkjfpbhnnaaPlays1
import Derived.Test.YtnhblkjfpbhnnaaProg
import Derived.KernelRfl
set_option linter.unusedVariables false
set_option linter.unusedSimpArgs false
set_option linter.defProp false
/- The compiled functions of the seat, part 3. -/
namespace Go.Cs.Try
open Go Go.Cs
set_option maxRecDepth 100000
-- (*dustcart/dustcartref04.Model).Births
def C62 : CFunc := ⟨(.seq (.region [⟨some 2, none, .mov (.const (.int .i64 0))⟩])
  (.seq (.seq (.region [⟨some 3, none, .mov (.tmp 0)⟩, ⟨some 4, none, .call 54 [(.tmp 3)]⟩, ⟨some 5, none, .not (.tmp 4)⟩])
  (.cond (.tmp 5)
   (.seq (.region [⟨some 2, none, .mov (.const (.int .i64 0))⟩])
   .ret)
   .skip))
  (.seq (.region [⟨some 6, none, .mov (.tmp 0)⟩, ⟨some 7, none, .nilCheck (.tmp 6)⟩, ⟨some 8, none, .field 3 (.tmp 7)⟩, ⟨some 9, none, .load false 1 (.tmp 8)⟩, ⟨some 10, none, .len (.tmp 9)⟩, ⟨some 2, none, .mov (.tmp 10)⟩])
  .ret))),
  [.tmp 2]⟩
theorem c62 : cprog Go.Proofs.Try.prog 62 = some C62 := by kernel_rfl
-- (*dustcart/dustcartref04.Model).Queue
def C63 : CFunc := ⟨(.seq (.region [⟨some 2, none, .mov (.const (.nilSlice))⟩])
  (.seq (.seq (.region [⟨some 3, none, .mov (.tmp 0)⟩, ⟨some 4, none, .call 54 [(.tmp 3)]⟩, ⟨some 5, none, .not (.tmp 4)⟩])
  (.cond (.tmp 5)
   (.seq (.region [⟨some 2, none, .mov (.const (.nilSlice))⟩])
   .ret)
   .skip))
  (.seq (.region [⟨some 6, none, .buildSlice 1 [] 0 []⟩, ⟨some 7, none, .mov (.tmp 0)⟩, ⟨some 8, none, .nilCheck (.tmp 7)⟩, ⟨some 9, none, .field 2 (.tmp 8)⟩, ⟨some 10, none, .load false 1 (.tmp 9)⟩, ⟨some 11, none, .append 1 (.tmp 6) (.tmp 10)⟩, ⟨some 2, none, .mov (.tmp 11)⟩])
  .ret))),
  [.tmp 2]⟩
theorem c63 : cprog Go.Proofs.Try.prog 63 = some C63 := by kernel_rfl
-- (*dustcart/dustcartref04.Model).Kept
def C64_1 : CCode := .seq (.seq (.region [⟨some 12, none, .mov (.tmp 5)⟩, ⟨some 13, none, .mov (.tmp 4)⟩, ⟨some 14, none, .len (.tmp 13)⟩, ⟨some 15, none, .bin .lss (.tmp 12) (.tmp 14)⟩])
    (.cond (.tmp 15)
     .skip
     (.exit 0)))
    (.seq (.block 1 (.seq (.region [⟨some 18, none, .mov (.tmp 4)⟩, ⟨some 19, none, .mov (.tmp 5)⟩, ⟨some 20, none, .index 1 (.tmp 18) (.tmp 19)⟩, ⟨some 21, none, .load false 1 (.tmp 20)⟩])
     (.cond (.tmp 21)
      (.region [⟨some 22, none, .mov (.tmp 3)⟩, ⟨some 23, none, .mov (.tmp 5)⟩, ⟨some 24, none, .buildSlice 1 [.int .i64 0] 1 [(0, 1, (.tmp 23))]⟩, ⟨some 25, none, .append 1 (.tmp 22) (.tmp 24)⟩, ⟨some 3, none, .mov (.tmp 25)⟩])
      .skip)))
    (.region [⟨some 16, none, .mov (.tmp 5)⟩, ⟨some 17, none, .bin .add (.tmp 16) (.const (.int .i64 1))⟩, ⟨some 5, none, .mov (.tmp 17)⟩]))
def C64 : CFunc := ⟨(.seq (.region [⟨some 2, none, .mov (.const (.nilSlice))⟩])
  (.seq (.region [⟨some 3, none, .mov (.const (.nilSlice))⟩])
  (.seq (.seq (.region [⟨some 6, none, .mov (.tmp 0)⟩, ⟨some 7, none, .call 54 [(.tmp 6)]⟩, ⟨some 8, none, .not (.tmp 7)⟩])
  (.cond (.tmp 8)
   (.seq (.region [⟨some 9, none, .mov (.tmp 3)⟩, ⟨some 2, none, .mov (.tmp 9)⟩])
   .ret)
   .skip))
  (.seq (.region [⟨some 10, none, .mov (.tmp 0)⟩, ⟨some 11, none, .call 77 [(.tmp 10)]⟩, ⟨some 4, none, .mov (.tmp 11)⟩])
  (.seq (.seq (.region [⟨some 5, none, .mov (.const (.int .i64 1))⟩])
  (.block 0 (.loop C64_1)))
  (.seq (.region [⟨some 26, none, .mov (.tmp 3)⟩, ⟨some 2, none, .mov (.tmp 26)⟩])
  .ret)))))),
  [.tmp 2]⟩
theorem c64 : cprog Go.Proofs.Try.prog 64 = some C64 := by kernel_rfl
-- (*dustcart/dustcartref04.Model).Slot
def C65 : CFunc := ⟨(.seq (.region [⟨some 6, none, .mov (.const (.int .i64 0))⟩, ⟨some 7, none, .mov (.const (.int .i64 0))⟩])
  (.seq (.seq (.region [⟨some 8, none, .mov (.tmp 0)⟩, ⟨some 9, none, .call 54 [(.tmp 8)]⟩, ⟨some 10, none, .not (.tmp 9)⟩])
  (.cond (.tmp 10)
   (.seq (.region [⟨some 6, none, .mov (.const (.int .i64 0))⟩, ⟨some 7, none, .mov (.const (.int .i64 5))⟩])
   .ret)
   .skip))
  (.seq (.seq (.region [⟨some 11, none, .mov (.tmp 1)⟩, ⟨some 12, none, .bin .lss (.tmp 11) (.const (.int .i64 0))⟩, ⟨some 13, none, .mov (.tmp 12)⟩, ⟨some 14, some (13, false), .mov (.tmp 1)⟩, ⟨some 15, some (13, false), .mov (.tmp 0)⟩, ⟨some 16, some (13, false), .nilCheck (.tmp 15)⟩, ⟨some 17, some (13, false), .field 0 (.tmp 16)⟩, ⟨some 18, some (13, false), .load false 1 (.tmp 17)⟩, ⟨some 19, some (13, false), .len (.tmp 18)⟩, ⟨some 20, some (13, false), .bin .geq (.tmp 14) (.tmp 19)⟩, ⟨some 21, none, .pick (.tmp 13) (.const (.bool true)) (.tmp 20)⟩, ⟨some 22, none, .mov (.tmp 21)⟩, ⟨some 23, some (22, false), .mov (.tmp 2)⟩, ⟨some 24, some (22, false), .bin .lss (.tmp 23) (.const (.int .i64 0))⟩, ⟨some 25, none, .pick (.tmp 22) (.const (.bool true)) (.tmp 24)⟩, ⟨some 26, none, .mov (.tmp 25)⟩, ⟨some 27, some (26, false), .mov (.tmp 2)⟩, ⟨some 28, some (26, false), .bin .geq (.tmp 27) (.const (.int .i64 16))⟩, ⟨some 29, none, .pick (.tmp 26) (.const (.bool true)) (.tmp 28)⟩])
  (.cond (.tmp 29)
   (.seq (.region [⟨some 6, none, .mov (.const (.int .i64 0))⟩, ⟨some 7, none, .mov (.const (.int .i64 1))⟩])
   .ret)
   .skip))
  (.seq (.region [⟨some 30, none, .mov (.tmp 0)⟩, ⟨some 31, none, .nilCheck (.tmp 30)⟩, ⟨some 32, none, .field 0 (.tmp 31)⟩, ⟨some 33, none, .load false 1 (.tmp 32)⟩, ⟨some 34, none, .mov (.tmp 1)⟩, ⟨some 35, none, .index 1 (.tmp 33) (.tmp 34)⟩, ⟨some 36, none, .load false 1 (.tmp 35)⟩, ⟨some 37, none, .mov (.tmp 2)⟩, ⟨some 38, none, .index 1 (.tmp 36) (.tmp 37)⟩, ⟨some 39, none, .load false 1 (.tmp 38)⟩, ⟨some 6, none, .mov (.tmp 39)⟩, ⟨some 7, none, .mov (.const (.int .i64 0))⟩])
  .ret)))),
  [.tmp 6, .tmp 7]⟩
theorem c65 : cprog Go.Proofs.Try.prog 65 = some C65 := by kernel_rfl
-- (*dustcart/dustcartref04.Model).Global
def C66 : CFunc := ⟨(.seq (.region [⟨some 4, none, .mov (.const (.int .i64 0))⟩, ⟨some 5, none, .mov (.const (.int .i64 0))⟩])
  (.seq (.seq (.region [⟨some 6, none, .mov (.tmp 0)⟩, ⟨some 7, none, .call 54 [(.tmp 6)]⟩, ⟨some 8, none, .not (.tmp 7)⟩])
  (.cond (.tmp 8)
   (.seq (.region [⟨some 4, none, .mov (.const (.int .i64 0))⟩, ⟨some 5, none, .mov (.const (.int .i64 5))⟩])
   .ret)
   .skip))
  (.seq (.seq (.region [⟨some 9, none, .mov (.tmp 1)⟩, ⟨some 10, none, .bin .lss (.tmp 9) (.const (.int .i64 0))⟩, ⟨some 11, none, .mov (.tmp 10)⟩, ⟨some 12, some (11, false), .mov (.tmp 1)⟩, ⟨some 13, some (11, false), .bin .geq (.tmp 12) (.const (.int .i64 16))⟩, ⟨some 14, none, .pick (.tmp 11) (.const (.bool true)) (.tmp 13)⟩])
  (.cond (.tmp 14)
   (.seq (.region [⟨some 4, none, .mov (.const (.int .i64 0))⟩, ⟨some 5, none, .mov (.const (.int .i64 1))⟩])
   .ret)
   .skip))
  (.seq (.region [⟨some 15, none, .mov (.tmp 0)⟩, ⟨some 16, none, .nilCheck (.tmp 15)⟩, ⟨some 17, none, .field 1 (.tmp 16)⟩, ⟨some 18, none, .load false 1 (.tmp 17)⟩, ⟨some 19, none, .mov (.tmp 1)⟩, ⟨some 20, none, .index 1 (.tmp 18) (.tmp 19)⟩, ⟨some 21, none, .load false 1 (.tmp 20)⟩, ⟨some 4, none, .mov (.tmp 21)⟩, ⟨some 5, none, .mov (.const (.int .i64 0))⟩])
  .ret)))),
  [.tmp 4, .tmp 5]⟩
theorem c66 : cprog Go.Proofs.Try.prog 66 = some C66 := by kernel_rfl
-- (*dustcart/dustcartref04.Model).Shape
def C67 : CFunc := ⟨(.seq (.region [⟨some 4, none, .new [.int .i64 0, .int .i64 0, .int .i64 0]⟩, ⟨some 5, none, .mov (.const (.int .i64 0))⟩])
  (.seq (.seq (.region [⟨some 7, none, .mov (.tmp 0)⟩, ⟨some 8, none, .mov (.tmp 1)⟩, ⟨some 9, none, .call 79 [(.tmp 7), (.tmp 8)]⟩, ⟨some 6, none, .mov (.tmp 9)⟩])
  (.seq (.region [⟨some 10, none, .mov (.tmp 6)⟩, ⟨some 11, none, .bin .neq (.tmp 10) (.const (.int .i64 0))⟩])
  (.cond (.tmp 11)
   (.seq (.region [⟨some 12, none, .build [.int .i64 0, .int .i64 0, .int .i64 0] []⟩, ⟨some 13, none, .mov (.tmp 6)⟩, ⟨none, none, .store 3 (.tmp 4) (.tmp 12)⟩, ⟨some 5, none, .mov (.tmp 13)⟩])
   .ret)
   .skip)))
  (.seq (.region [⟨some 14, none, .mov (.tmp 0)⟩, ⟨some 15, none, .nilCheck (.tmp 14)⟩, ⟨some 16, none, .field 3 (.tmp 15)⟩, ⟨some 17, none, .load false 1 (.tmp 16)⟩, ⟨some 18, none, .mov (.tmp 1)⟩, ⟨some 19, none, .bin .sub (.tmp 18) (.const (.int .i64 1))⟩, ⟨some 20, none, .index 5 (.tmp 17) (.tmp 19)⟩, ⟨some 21, none, .field 0 (.tmp 20)⟩, ⟨some 22, none, .load true 3 (.tmp 21)⟩, ⟨none, none, .store 3 (.tmp 4) (.tmp 22)⟩, ⟨some 5, none, .mov (.const (.int .i64 0))⟩])
  .ret))),
  [.cell 4 true 3, .tmp 5]⟩
theorem c67 : cprog Go.Proofs.Try.prog 67 = some C67 := by kernel_rfl
-- (*dustcart/dustcartref04.Model).Ref
def C68 : CFunc := ⟨(.seq (.region [⟨some 6, none, .mov (.const (.int .i64 0))⟩, ⟨some 7, none, .mov (.const (.int .i64 0))⟩])
  (.seq (.seq (.region [⟨some 9, none, .mov (.tmp 0)⟩, ⟨some 10, none, .mov (.tmp 1)⟩, ⟨some 11, none, .call 79 [(.tmp 9), (.tmp 10)]⟩, ⟨some 8, none, .mov (.tmp 11)⟩])
  (.seq (.region [⟨some 12, none, .mov (.tmp 8)⟩, ⟨some 13, none, .bin .neq (.tmp 12) (.const (.int .i64 0))⟩])
  (.cond (.tmp 13)
   (.seq (.region [⟨some 14, none, .mov (.tmp 8)⟩, ⟨some 6, none, .mov (.const (.int .i64 0))⟩, ⟨some 7, none, .mov (.tmp 14)⟩])
   .ret)
   .skip)))
  (.seq (.seq (.region [⟨some 15, none, .mov (.tmp 2)⟩, ⟨some 16, none, .bin .lss (.tmp 15) (.const (.int .i64 0))⟩, ⟨some 17, none, .mov (.tmp 16)⟩, ⟨some 18, some (17, false), .mov (.tmp 2)⟩, ⟨some 19, some (17, false), .mov (.tmp 0)⟩, ⟨some 20, some (17, false), .nilCheck (.tmp 19)⟩, ⟨some 21, some (17, false), .field 3 (.tmp 20)⟩, ⟨some 22, some (17, false), .load false 1 (.tmp 21)⟩, ⟨some 23, some (17, false), .mov (.tmp 1)⟩, ⟨some 24, some (17, false), .bin .sub (.tmp 23) (.const (.int .i64 1))⟩, ⟨some 25, some (17, false), .index 5 (.tmp 22) (.tmp 24)⟩, ⟨some 26, some (17, false), .field 3 (.tmp 25)⟩, ⟨some 27, some (17, false), .load false 1 (.tmp 26)⟩, ⟨some 28, some (17, false), .len (.tmp 27)⟩, ⟨some 29, some (17, false), .bin .geq (.tmp 18) (.tmp 28)⟩, ⟨some 30, none, .pick (.tmp 17) (.const (.bool true)) (.tmp 29)⟩])
  (.cond (.tmp 30)
   (.seq (.region [⟨some 6, none, .mov (.const (.int .i64 0))⟩, ⟨some 7, none, .mov (.const (.int .i64 1))⟩])
   .ret)
   .skip))
  (.seq (.region [⟨some 31, none, .mov (.tmp 0)⟩, ⟨some 32, none, .nilCheck (.tmp 31)⟩, ⟨some 33, none, .field 3 (.tmp 32)⟩, ⟨some 34, none, .load false 1 (.tmp 33)⟩, ⟨some 35, none, .mov (.tmp 1)⟩, ⟨some 36, none, .bin .sub (.tmp 35) (.const (.int .i64 1))⟩, ⟨some 37, none, .index 5 (.tmp 34) (.tmp 36)⟩, ⟨some 38, none, .field 3 (.tmp 37)⟩, ⟨some 39, none, .load false 1 (.tmp 38)⟩, ⟨some 40, none, .mov (.tmp 2)⟩, ⟨some 41, none, .index 1 (.tmp 39) (.tmp 40)⟩, ⟨some 42, none, .load false 1 (.tmp 41)⟩, ⟨some 6, none, .mov (.tmp 42)⟩, ⟨some 7, none, .mov (.const (.int .i64 0))⟩])
  .ret)))),
  [.tmp 6, .tmp 7]⟩
theorem c68 : cprog Go.Proofs.Try.prog 68 = some C68 := by kernel_rfl
-- (*dustcart/dustcartref04.Model).Data
def C69 : CFunc := ⟨(.seq (.region [⟨some 6, none, .mov (.const (.int .i64 0))⟩, ⟨some 7, none, .mov (.const (.int .i64 0))⟩])
  (.seq (.seq (.region [⟨some 9, none, .mov (.tmp 0)⟩, ⟨some 10, none, .mov (.tmp 1)⟩, ⟨some 11, none, .call 79 [(.tmp 9), (.tmp 10)]⟩, ⟨some 8, none, .mov (.tmp 11)⟩])
  (.seq (.region [⟨some 12, none, .mov (.tmp 8)⟩, ⟨some 13, none, .bin .neq (.tmp 12) (.const (.int .i64 0))⟩])
  (.cond (.tmp 13)
   (.seq (.region [⟨some 14, none, .mov (.tmp 8)⟩, ⟨some 6, none, .mov (.const (.int .i64 0))⟩, ⟨some 7, none, .mov (.tmp 14)⟩])
   .ret)
   .skip)))
  (.seq (.seq (.region [⟨some 15, none, .mov (.tmp 2)⟩, ⟨some 16, none, .bin .lss (.tmp 15) (.const (.int .i64 0))⟩, ⟨some 17, none, .mov (.tmp 16)⟩, ⟨some 18, some (17, false), .mov (.tmp 2)⟩, ⟨some 19, some (17, false), .mov (.tmp 0)⟩, ⟨some 20, some (17, false), .nilCheck (.tmp 19)⟩, ⟨some 21, some (17, false), .field 3 (.tmp 20)⟩, ⟨some 22, some (17, false), .load false 1 (.tmp 21)⟩, ⟨some 23, some (17, false), .mov (.tmp 1)⟩, ⟨some 24, some (17, false), .bin .sub (.tmp 23) (.const (.int .i64 1))⟩, ⟨some 25, some (17, false), .index 5 (.tmp 22) (.tmp 24)⟩, ⟨some 26, some (17, false), .field 4 (.tmp 25)⟩, ⟨some 27, some (17, false), .load false 1 (.tmp 26)⟩, ⟨some 28, some (17, false), .len (.tmp 27)⟩, ⟨some 29, some (17, false), .bin .geq (.tmp 18) (.tmp 28)⟩, ⟨some 30, none, .pick (.tmp 17) (.const (.bool true)) (.tmp 29)⟩])
  (.cond (.tmp 30)
   (.seq (.region [⟨some 6, none, .mov (.const (.int .i64 0))⟩, ⟨some 7, none, .mov (.const (.int .i64 1))⟩])
   .ret)
   .skip))
  (.seq (.region [⟨some 31, none, .mov (.tmp 0)⟩, ⟨some 32, none, .nilCheck (.tmp 31)⟩, ⟨some 33, none, .field 3 (.tmp 32)⟩, ⟨some 34, none, .load false 1 (.tmp 33)⟩, ⟨some 35, none, .mov (.tmp 1)⟩, ⟨some 36, none, .bin .sub (.tmp 35) (.const (.int .i64 1))⟩, ⟨some 37, none, .index 5 (.tmp 34) (.tmp 36)⟩, ⟨some 38, none, .field 4 (.tmp 37)⟩, ⟨some 39, none, .load false 1 (.tmp 38)⟩, ⟨some 40, none, .mov (.tmp 2)⟩, ⟨some 41, none, .index 1 (.tmp 39) (.tmp 40)⟩, ⟨some 42, none, .load false 1 (.tmp 41)⟩, ⟨some 6, none, .mov (.tmp 42)⟩, ⟨some 7, none, .mov (.const (.int .i64 0))⟩])
  .ret)))),
  [.tmp 6, .tmp 7]⟩
theorem c69 : cprog Go.Proofs.Try.prog 69 = some C69 := by kernel_rfl
-- dustcart/model.ways
def C70 : CFunc := ⟨(.seq (.region [⟨some 0, none, .mov (.const (.nilSlice))⟩])
  (.seq (.region [⟨some 1, none, .build [.bool false, .nilFunc, .nilFunc, .nilFunc] [(0, 1, (.const (.bool false))), (1, 1, (.const (.func 80 []))), (2, 1, (.const (.func 80 []))), (3, 1, (.const (.func 81 [])))]⟩, ⟨some 2, none, .build [.bool false, .nilFunc, .nilFunc, .nilFunc] [(0, 1, (.const (.bool true))), (1, 1, (.const (.func 82 []))), (2, 1, (.const (.func 83 []))), (3, 1, (.const (.func 84 [])))]⟩, ⟨some 3, none, .build [.bool false, .nilFunc, .nilFunc, .nilFunc] [(0, 1, (.const (.bool true))), (1, 1, (.const (.func 86 []))), (2, 1, (.const (.func 87 []))), (3, 1, (.const (.func 88 [])))]⟩, ⟨some 4, none, .build [.bool false, .nilFunc, .nilFunc, .nilFunc] [(0, 1, (.const (.bool false))), (1, 1, (.const (.func 86 []))), (2, 1, (.const (.func 89 []))), (3, 1, (.const (.func 90 [])))]⟩, ⟨some 5, none, .build [.bool false, .nilFunc, .nilFunc, .nilFunc] [(0, 1, (.const (.bool false))), (1, 1, (.const (.func 86 []))), (2, 1, (.const (.func 89 []))), (3, 1, (.const (.func 91 [])))]⟩, ⟨some 6, none, .build [.bool false, .nilFunc, .nilFunc, .nilFunc] [(0, 1, (.const (.bool true))), (1, 1, (.const (.func 80 []))), (2, 1, (.const (.func 80 []))), (3, 1, (.const (.func 93 [])))]⟩, ⟨some 7, none, .build [.bool false, .nilFunc, .nilFunc, .nilFunc] [(0, 1, (.const (.bool false))), (1, 1, (.const (.func 80 []))), (2, 1, (.const (.func 80 []))), (3, 1, (.const (.func 94 [])))]⟩, ⟨some 8, none, .build [.bool false, .nilFunc, .nilFunc, .nilFunc] [(0, 1, (.const (.bool true))), (1, 1, (.const (.func 80 []))), (2, 1, (.const (.func 80 []))), (3, 1, (.const (.func 95 [])))]⟩, ⟨some 9, none, .build [.bool false, .nilFunc, .nilFunc, .nilFunc] [(0, 1, (.const (.bool false))), (1, 1, (.const (.func 80 []))), (2, 1, (.const (.func 80 []))), (3, 1, (.const (.func 96 [])))]⟩, ⟨some 10, none, .build [.bool false, .nilFunc, .nilFunc, .nilFunc] [(0, 1, (.const (.bool false))), (1, 1, (.const (.func 80 []))), (2, 1, (.const (.func 97 []))), (3, 1, (.const (.func 98 [])))]⟩, ⟨some 11, none, .build [.bool false, .nilFunc, .nilFunc, .nilFunc] [(0, 1, (.const (.bool false))), (1, 1, (.const (.func 80 []))), (2, 1, (.const (.func 97 []))), (3, 1, (.const (.func 99 [])))]⟩, ⟨some 12, none, .build [.bool false, .nilFunc, .nilFunc, .nilFunc] [(0, 1, (.const (.bool false))), (1, 1, (.const (.func 86 []))), (2, 1, (.const (.func 80 []))), (3, 1, (.const (.func 100 [])))]⟩, ⟨some 13, none, .buildSlice 4 [.bool false, .nilFunc, .nilFunc, .nilFunc, .bool false, .nilFunc, .nilFunc, .nilFunc, .bool false, .nilFunc, .nilFunc, .nilFunc, .bool false, .nilFunc, .nilFunc, .nilFunc, .bool false, .nilFunc, .nilFunc, .nilFunc, .bool false, .nilFunc, .nilFunc, .nilFunc, .bool false, .nilFunc, .nilFunc, .nilFunc, .bool false, .nilFunc, .nilFunc, .nilFunc, .bool false, .nilFunc, .nilFunc, .nilFunc, .bool false, .nilFunc, .nilFunc, .nilFunc, .bool false, .nilFunc, .nilFunc, .nilFunc, .bool false, .nilFunc, .nilFunc, .nilFunc] 12 [(0, 4, (.tmp 1)), (4, 4, (.tmp 2)), (8, 4, (.tmp 3)), (12, 4, (.tmp 4)), (16, 4, (.tmp 5)), (20, 4, (.tmp 6)), (24, 4, (.tmp 7)), (28, 4, (.tmp 8)), (32, 4, (.tmp 9)), (36, 4, (.tmp 10)), (40, 4, (.tmp 11)), (44, 4, (.tmp 12))]⟩, ⟨some 0, none, .mov (.tmp 13)⟩])
  .ret)),
  [.tmp 0]⟩
theorem c70 : cprog Go.Proofs.Try.prog 70 = some C70 := by kernel_rfl
-- dustcart/model.valid
def C71 : CFunc := ⟨(.seq (.region [⟨some 1, none, .box (.tmp 0)⟩, ⟨some 2, none, .mov (.const (.bool false))⟩])
  (.seq (.region [⟨some 3, none, .field 0 (.tmp 1)⟩, ⟨some 4, none, .load false 1 (.tmp 3)⟩, ⟨some 5, none, .bin .geq (.tmp 4) (.const (.int .i64 0))⟩, ⟨some 6, none, .mov (.tmp 5)⟩, ⟨some 7, some (6, true), .field 0 (.tmp 1)⟩, ⟨some 8, some (6, true), .load false 1 (.tmp 7)⟩, ⟨some 9, some (6, true), .bin .leq (.tmp 8) (.const (.int .i64 15))⟩, ⟨some 10, none, .pick (.tmp 6) (.tmp 9) (.const (.bool false))⟩, ⟨some 11, none, .mov (.tmp 10)⟩, ⟨some 12, some (11, true), .field 1 (.tmp 1)⟩, ⟨some 13, some (11, true), .load false 1 (.tmp 12)⟩, ⟨some 14, some (11, true), .bin .geq (.tmp 13) (.const (.int .i64 0))⟩, ⟨some 15, none, .pick (.tmp 11) (.tmp 14) (.const (.bool false))⟩, ⟨some 16, none, .mov (.tmp 15)⟩, ⟨some 17, some (16, true), .field 1 (.tmp 1)⟩, ⟨some 18, some (16, true), .load false 1 (.tmp 17)⟩, ⟨some 19, some (16, true), .bin .leq (.tmp 18) (.const (.int .i64 200))⟩, ⟨some 20, none, .pick (.tmp 16) (.tmp 19) (.const (.bool false))⟩, ⟨some 21, none, .mov (.tmp 20)⟩, ⟨some 22, some (21, true), .field 2 (.tmp 1)⟩, ⟨some 23, some (21, true), .load false 1 (.tmp 22)⟩, ⟨some 24, some (21, true), .bin .geq (.tmp 23) (.const (.int .i64 0))⟩, ⟨some 25, none, .pick (.tmp 21) (.tmp 24) (.const (.bool false))⟩, ⟨some 26, none, .mov (.tmp 25)⟩, ⟨some 27, some (26, true), .field 2 (.tmp 1)⟩, ⟨some 28, some (26, true), .load false 1 (.tmp 27)⟩, ⟨some 29, some (26, true), .bin .leq (.tmp 28) (.const (.int .i64 3))⟩, ⟨some 30, none, .pick (.tmp 26) (.tmp 29) (.const (.bool false))⟩, ⟨some 31, none, .mov (.tmp 30)⟩, ⟨some 32, some (31, true), .field 2 (.tmp 1)⟩, ⟨some 33, some (31, true), .load false 1 (.tmp 32)⟩, ⟨some 34, some (31, true), .bin .neq (.tmp 33) (.const (.int .i64 1))⟩, ⟨some 35, some (31, true), .mov (.tmp 34)⟩, ⟨some 36, some (35, false), .field 0 (.tmp 1)⟩, ⟨some 37, some (35, false), .load false 1 (.tmp 36)⟩, ⟨some 38, some (35, false), .bin .geq (.tmp 37) (.const (.int .i64 1))⟩, ⟨some 39, some (31, true), .pick (.tmp 35) (.const (.bool true)) (.tmp 38)⟩, ⟨some 40, none, .pick (.tmp 31) (.tmp 39) (.const (.bool false))⟩, ⟨some 41, none, .mov (.tmp 40)⟩, ⟨some 42, some (41, true), .field 2 (.tmp 1)⟩, ⟨some 43, some (41, true), .load false 1 (.tmp 42)⟩, ⟨some 44, some (41, true), .bin .neq (.tmp 43) (.const (.int .i64 2))⟩, ⟨some 45, some (41, true), .mov (.tmp 44)⟩, ⟨some 46, some (45, false), .field 0 (.tmp 1)⟩, ⟨some 47, some (45, false), .load false 1 (.tmp 46)⟩, ⟨some 48, some (45, false), .bin .geq (.tmp 47) (.const (.int .i64 2))⟩, ⟨some 49, some (41, true), .pick (.tmp 45) (.const (.bool true)) (.tmp 48)⟩, ⟨some 50, none, .pick (.tmp 41) (.tmp 49) (.const (.bool false))⟩, ⟨some 2, none, .mov (.tmp 50)⟩])
  .ret)),
  [.tmp 2]⟩
theorem c71 : cprog Go.Proofs.Try.prog 71 = some C71 := by kernel_rfl
-- (*dustcart/model.Model).kept$1
def C72 : CFunc := ⟨(.seq (.region [⟨some 4, none, .mov (.tmp 0)⟩, ⟨some 5, none, .bin .neq (.tmp 4) (.const (.int .i64 0))⟩, ⟨some 6, none, .mov (.tmp 5)⟩, ⟨some 7, some (6, true), .load false 1 (.tmp 1)⟩, ⟨some 8, some (6, true), .mov (.tmp 0)⟩, ⟨some 9, some (6, true), .index 1 (.tmp 7) (.tmp 8)⟩, ⟨some 10, some (6, true), .load false 1 (.tmp 9)⟩, ⟨some 11, some (6, true), .not (.tmp 10)⟩, ⟨some 12, none, .pick (.tmp 6) (.tmp 11) (.const (.bool false))⟩])
  (.cond (.tmp 12)
   (.seq (.region [⟨some 13, none, .load false 1 (.tmp 1)⟩, ⟨some 14, none, .mov (.tmp 0)⟩, ⟨some 15, none, .index 1 (.tmp 13) (.tmp 14)⟩, ⟨none, none, .store 1 (.tmp 15) (.const (.bool true))⟩])
   (.region [⟨some 16, none, .load false 1 (.tmp 2)⟩, ⟨some 17, none, .mov (.tmp 0)⟩, ⟨some 18, none, .buildSlice 1 [.int .i64 0] 1 [(0, 1, (.tmp 17))]⟩, ⟨some 19, none, .append 1 (.tmp 16) (.tmp 18)⟩, ⟨none, none, .store 1 (.tmp 2) (.tmp 19)⟩]))
   .skip)),
  []⟩
theorem c72 : cprog Go.Proofs.Try.prog 72 = some C72 := by kernel_rfl
-- slices.Clone[[][]int,[]int]
def C73 : CFunc := ⟨(.seq (.region [⟨some 2, none, .mov (.const (.nilSlice))⟩])
  (.seq (.seq (.region [⟨some 3, none, .mov (.tmp 0)⟩, ⟨some 4, none, .eqv false 2 (.tmp 3) (.const (.nilSlice))⟩])
  (.cond (.tmp 4)
   (.seq (.region [⟨some 2, none, .mov (.const (.nilSlice))⟩])
   .ret)
   .skip))
  (.seq (.region [⟨some 5, none, .buildSlice 1 [] 0 []⟩, ⟨some 6, none, .mov (.tmp 0)⟩, ⟨some 7, none, .append 1 (.tmp 5) (.tmp 6)⟩, ⟨some 2, none, .mov (.tmp 7)⟩])
  .ret))),
  [.tmp 2]⟩
theorem c73 : cprog Go.Proofs.Try.prog 73 = some C73 := by kernel_rfl
-- (*dustcart/model.Model).of
def C74 : CFunc := ⟨(.seq (.region [⟨some 4, none, .mov (.const (.nilPtr))⟩])
  (.seq (.region [⟨some 5, none, .mov (.tmp 0)⟩, ⟨some 6, none, .nilCheck (.tmp 5)⟩, ⟨some 7, none, .field 3 (.tmp 6)⟩, ⟨some 8, none, .load false 1 (.tmp 7)⟩, ⟨some 9, none, .mov (.tmp 1)⟩, ⟨some 10, none, .bin .sub (.tmp 9) (.const (.int .i64 1))⟩, ⟨some 11, none, .index 5 (.tmp 8) (.tmp 10)⟩, ⟨some 4, none, .mov (.tmp 11)⟩])
  .ret)),
  [.tmp 4]⟩
theorem c74 : cprog Go.Proofs.Try.prog 74 = some C74 := by kernel_rfl
-- slices.IndexFunc[[]int,int]
def C75_1 : CCode := .seq (.region [⟨some 9, none, .bin .lss (.tmp 8) (.tmp 7)⟩])
    (.seq (.cond (.tmp 9)
     .skip
     (.exit 0))
    (.seq (.block 1 (.seq (.region [⟨some 10, none, .mov (.tmp 8)⟩, ⟨some 5, none, .mov (.tmp 10)⟩])
     (.seq (.region [⟨some 11, none, .mov (.tmp 1)⟩, ⟨some 12, none, .mov (.tmp 0)⟩, ⟨some 13, none, .mov (.tmp 5)⟩, ⟨some 14, none, .index 1 (.tmp 12) (.tmp 13)⟩, ⟨some 15, none, .load false 1 (.tmp 14)⟩, ⟨some 16, none, .callv (.tmp 11) [(.tmp 15)]⟩])
     (.cond (.tmp 16)
      (.seq (.region [⟨some 17, none, .mov (.tmp 5)⟩, ⟨some 4, none, .mov (.tmp 17)⟩])
      .ret)
      .skip))))
    (.region [⟨some 18, none, .bin .add (.tmp 8) (.const (.int .i64 1))⟩, ⟨some 8, none, .mov (.tmp 18)⟩])))
def C75 : CFunc := ⟨(.seq (.region [⟨some 4, none, .mov (.const (.int .i64 0))⟩])
  (.seq (.seq (.region [⟨some 6, none, .mov (.tmp 0)⟩, ⟨some 7, none, .len (.tmp 6)⟩, ⟨some 8, none, .mov (.const (.int .i64 0))⟩])
  (.block 0 (.loop C75_1)))
  (.seq (.region [⟨some 4, none, .mov (.const (.int .i64 (-1)))⟩])
  .ret))),
  [.tmp 4]⟩
theorem c75 : cprog Go.Proofs.Try.prog 75 = some C75 := by kernel_rfl
-- (*dustcart/dustcartref04.Model).errors
def C76 : CFunc := ⟨(.seq (.region [⟨some 5, none, .box (.tmp 2)⟩, ⟨some 6, none, .mov (.const (.int .i64 0))⟩])
  (.seq (.seq (.dregion [⟨⟨some 11, none, .mov (.tmp 0)⟩, 0, 0, 0⟩, ⟨⟨some 12, none, .nilCheck (.tmp 11)⟩, 1, 0, 0⟩, ⟨⟨some 13, none, .field 0 (.tmp 12)⟩, 2, 0, 0⟩, ⟨⟨some 14, none, .load false 1 (.tmp 13)⟩, 3, 1, 0⟩, ⟨⟨some 15, none, .len (.tmp 14)⟩, 4, 0, 0⟩, ⟨⟨some 16, none, .mov (.tmp 1)⟩, 5, 0, 0⟩, ⟨⟨some 17, none, .load true 8 (.tmp 5)⟩, 6, 1, 0⟩, ⟨⟨some 18, none, .call 101 [(.tmp 15), (.tmp 16), (.tmp 17)]⟩, 7, 3, 0⟩, ⟨⟨some 7, none, .mov (.tmp 18)⟩, 8, 0, 1⟩])
  (.seq (.region [⟨some 19, none, .mov (.tmp 7)⟩, ⟨some 20, none, .bin .neq (.tmp 19) (.const (.int .i64 0))⟩])
  (.cond (.tmp 20)
   (.seq (.region [⟨some 21, none, .mov (.tmp 7)⟩, ⟨some 6, none, .mov (.tmp 21)⟩])
   .ret)
   .skip)))
  (.seq (.region [⟨some 8, none, .new [.int .i64 0, .int .i64 0, .int .i64 0]⟩])
  (.seq (.seq (.region [⟨some 22, none, .load true 8 (.tmp 5)⟩, ⟨some 23, none, .call 102 [(.tmp 22)]⟩, ⟨some 9, none, .mov (.tmp 23)⟩])
  (.seq (.region [⟨some 24, none, .mov (.tmp 9)⟩, ⟨some 25, none, .bin .geq (.tmp 24) (.const (.int .i64 0))⟩])
  (.cond (.tmp 25)
   (.seq (.region [⟨some 26, none, .mov (.tmp 0)⟩, ⟨some 27, none, .nilCheck (.tmp 26)⟩, ⟨some 28, none, .field 0 (.tmp 27)⟩, ⟨some 29, none, .load false 1 (.tmp 28)⟩, ⟨some 30, none, .mov (.tmp 1)⟩, ⟨some 31, none, .index 1 (.tmp 29) (.tmp 30)⟩, ⟨some 32, none, .load false 1 (.tmp 31)⟩, ⟨some 33, none, .mov (.tmp 9)⟩, ⟨some 34, none, .index 1 (.tmp 32) (.tmp 33)⟩, ⟨some 35, none, .load false 1 (.tmp 34)⟩, ⟨some 10, none, .mov (.tmp 35)⟩])
   (.seq (.seq (.region [⟨some 36, none, .mov (.tmp 10)⟩, ⟨some 37, none, .bin .eql (.tmp 36) (.const (.int .i64 0))⟩])
   (.cond (.tmp 37)
    (.seq (.region [⟨some 6, none, .mov (.const (.int .i64 7))⟩])
    .ret)
    .skip))
   (.region [⟨some 38, none, .mov (.tmp 0)⟩, ⟨some 39, none, .nilCheck (.tmp 38)⟩, ⟨some 40, none, .field 3 (.tmp 39)⟩, ⟨some 41, none, .load false 1 (.tmp 40)⟩, ⟨some 42, none, .mov (.tmp 10)⟩, ⟨some 43, none, .bin .sub (.tmp 42) (.const (.int .i64 1))⟩, ⟨some 44, none, .index 5 (.tmp 41) (.tmp 43)⟩, ⟨some 45, none, .field 0 (.tmp 44)⟩, ⟨some 46, none, .load true 3 (.tmp 45)⟩, ⟨none, none, .store 3 (.tmp 8) (.tmp 46)⟩])))
   .skip)))
  (.seq (.seq (.region [⟨some 47, none, .load true 8 (.tmp 5)⟩, ⟨some 48, none, .load true 3 (.tmp 8)⟩, ⟨some 49, none, .call 103 [(.tmp 47), (.tmp 48)]⟩, ⟨some 50, none, .not (.tmp 49)⟩])
  (.cond (.tmp 50)
   (.seq (.region [⟨some 6, none, .mov (.const (.int .i64 1))⟩])
   .ret)
   .skip))
  (.seq (.region [⟨some 6, none, .mov (.const (.int .i64 0))⟩])
  .ret)))))),
  [.tmp 6]⟩
theorem c76 : cprog Go.Proofs.Try.prog 76 = some C76 := by kernel_rfl
-- (*dustcart/dustcartref04.Model).kept
def C77_1 : CCode := .seq (.seq (.region [⟨some 111, none, .mov (.tmp 11)⟩, ⟨some 112, none, .field 3 (.tmp 10)⟩, ⟨some 113, none, .load false 1 (.tmp 112)⟩, ⟨some 114, none, .len (.tmp 113)⟩, ⟨some 115, none, .bin .lss (.tmp 111) (.tmp 114)⟩])
          (.cond (.tmp 115)
           .skip
           (.exit 12)))
          (.seq (.block 13 (.seq (.region [⟨some 118, none, .field 3 (.tmp 10)⟩, ⟨some 119, none, .load false 1 (.tmp 118)⟩, ⟨some 120, none, .mov (.tmp 11)⟩, ⟨some 121, none, .index 1 (.tmp 119) (.tmp 120)⟩, ⟨some 122, none, .load false 1 (.tmp 121)⟩, ⟨some 12, none, .mov (.tmp 122)⟩])
           (.seq (.seq (.region [⟨some 123, none, .mov (.tmp 12)⟩, ⟨some 124, none, .bin .eql (.tmp 123) (.const (.int .i64 0))⟩, ⟨some 125, none, .mov (.tmp 124)⟩, ⟨some 126, some (125, false), .mov (.tmp 3)⟩, ⟨some 127, some (125, false), .mov (.tmp 12)⟩, ⟨some 128, some (125, false), .index 1 (.tmp 126) (.tmp 127)⟩, ⟨some 129, some (125, false), .load false 1 (.tmp 128)⟩, ⟨some 130, none, .pick (.tmp 125) (.const (.bool true)) (.tmp 129)⟩])
           (.cond (.tmp 130)
            (.exit 13)
            .skip))
           (.seq (.region [⟨some 131, none, .field 0 (.tmp 10)⟩, ⟨some 132, none, .load true 3 (.tmp 131)⟩, ⟨some 133, none, .mov (.tmp 11)⟩, ⟨some 134, none, .call 49 [(.tmp 132), (.tmp 133)]⟩, ⟨some 135, none, .mov (.tmp 134)⟩, ⟨some 136, some (135, false), .field 0 (.tmp 10)⟩, ⟨some 137, some (135, false), .field 2 (.tmp 136)⟩, ⟨some 138, some (135, false), .load false 1 (.tmp 137)⟩, ⟨some 139, some (135, false), .bin .eql (.tmp 138) (.const (.int .i64 2))⟩, ⟨some 140, some (135, false), .mov (.tmp 139)⟩, ⟨some 141, some (140, true), .mov (.tmp 11)⟩, ⟨some 142, some (140, true), .bin .eql (.tmp 141) (.const (.int .i64 1))⟩, ⟨some 143, some (135, false), .pick (.tmp 140) (.tmp 142) (.const (.bool false))⟩, ⟨some 144, some (135, false), .mov (.tmp 143)⟩, ⟨some 145, some (144, true), .mov (.tmp 3)⟩, ⟨some 146, some (144, true), .field 3 (.tmp 10)⟩, ⟨some 147, some (144, true), .load false 1 (.tmp 146)⟩, ⟨some 148, some (144, true), .index 1 (.tmp 147) (.const (.int .i64 0))⟩, ⟨some 149, some (144, true), .load false 1 (.tmp 148)⟩, ⟨some 150, some (144, true), .index 1 (.tmp 145) (.tmp 149)⟩, ⟨some 151, some (144, true), .load false 1 (.tmp 150)⟩, ⟨some 152, some (135, false), .pick (.tmp 144) (.tmp 151) (.const (.bool false))⟩, ⟨some 153, none, .pick (.tmp 135) (.const (.bool true)) (.tmp 152)⟩])
           (.cond (.tmp 153)
            (.seq (.region [⟨some 154, none, .mov (.tmp 3)⟩, ⟨some 155, none, .mov (.tmp 12)⟩, ⟨some 156, none, .index 1 (.tmp 154) (.tmp 155)⟩, ⟨none, none, .store 1 (.tmp 156) (.const (.bool true))⟩])
            (.region [⟨some 8, none, .mov (.const (.bool true))⟩]))
            .skip)))))
          (.region [⟨some 116, none, .mov (.tmp 11)⟩, ⟨some 117, none, .bin .add (.tmp 116) (.const (.int .i64 1))⟩, ⟨some 11, none, .mov (.tmp 117)⟩]))
def C77_2 : CCode := .seq (.seq (.region [⟨some 92, none, .mov (.tmp 9)⟩, ⟨some 93, none, .mov (.tmp 3)⟩, ⟨some 94, none, .len (.tmp 93)⟩, ⟨some 95, none, .bin .lss (.tmp 92) (.tmp 94)⟩])
       (.cond (.tmp 95)
        .skip
        (.exit 10)))
       (.seq (.block 11 (.seq (.seq (.region [⟨some 98, none, .mov (.tmp 3)⟩, ⟨some 99, none, .mov (.tmp 9)⟩, ⟨some 100, none, .index 1 (.tmp 98) (.tmp 99)⟩, ⟨some 101, none, .load false 1 (.tmp 100)⟩, ⟨some 102, none, .not (.tmp 101)⟩])
        (.cond (.tmp 102)
         (.exit 11)
         .skip))
        (.seq (.region [⟨some 103, none, .mov (.tmp 0)⟩, ⟨some 104, none, .nilCheck (.tmp 103)⟩, ⟨some 105, none, .field 3 (.tmp 104)⟩, ⟨some 106, none, .load false 1 (.tmp 105)⟩, ⟨some 107, none, .mov (.tmp 9)⟩, ⟨some 108, none, .bin .sub (.tmp 107) (.const (.int .i64 1))⟩, ⟨some 109, none, .index 5 (.tmp 106) (.tmp 108)⟩, ⟨some 110, none, .load true 5 (.tmp 109)⟩, ⟨some 10, none, .new [.int .i64 0, .int .i64 0, .int .i64 0, .nilSlice, .nilSlice]⟩, ⟨none, none, .store 5 (.tmp 10) (.tmp 110)⟩])
        (.seq (.region [⟨some 11, none, .mov (.const (.int .i64 0))⟩])
        (.block 12 (.loop C77_1))))))
       (.region [⟨some 96, none, .mov (.tmp 9)⟩, ⟨some 97, none, .bin .add (.tmp 96) (.const (.int .i64 1))⟩, ⟨some 9, none, .mov (.tmp 97)⟩]))
def C77_3 : CCode := .seq (.seq (.region [⟨some 91, none, .mov (.tmp 8)⟩])
    (.cond (.tmp 91)
     .skip
     (.exit 8)))
    (.block 9 (.seq (.region [⟨some 8, none, .mov (.const (.bool false))⟩])
     (.seq (.region [⟨some 9, none, .mov (.const (.int .i64 1))⟩])
     (.block 10 (.loop C77_2)))))
def C77_4 : CCode := .seq (.seq (.region [⟨some 71, none, .mov (.tmp 7)⟩, ⟨some 72, none, .mov (.tmp 0)⟩, ⟨some 73, none, .nilCheck (.tmp 72)⟩, ⟨some 74, none, .field 2 (.tmp 73)⟩, ⟨some 75, none, .load false 1 (.tmp 74)⟩, ⟨some 76, none, .len (.tmp 75)⟩, ⟨some 77, none, .bin .lss (.tmp 71) (.tmp 76)⟩])
    (.cond (.tmp 77)
     .skip
     (.exit 6)))
    (.seq (.block 7 (.region [⟨some 80, none, .mov (.tmp 3)⟩, ⟨some 81, none, .mov (.tmp 0)⟩, ⟨some 82, none, .nilCheck (.tmp 81)⟩, ⟨some 83, none, .field 2 (.tmp 82)⟩, ⟨some 84, none, .load false 1 (.tmp 83)⟩, ⟨some 85, none, .mov (.tmp 7)⟩, ⟨some 86, none, .index 1 (.tmp 84) (.tmp 85)⟩, ⟨some 87, none, .load false 1 (.tmp 86)⟩, ⟨some 88, none, .index 1 (.tmp 80) (.tmp 87)⟩, ⟨none, none, .store 1 (.tmp 88) (.const (.bool true))⟩]))
    (.region [⟨some 78, none, .mov (.tmp 7)⟩, ⟨some 79, none, .bin .add (.tmp 78) (.const (.int .i64 1))⟩, ⟨some 7, none, .mov (.tmp 79)⟩]))
def C77_5 : CCode := .seq (.seq (.region [⟨some 53, none, .mov (.tmp 6)⟩, ⟨some 54, none, .mov (.tmp 0)⟩, ⟨some 55, none, .nilCheck (.tmp 54)⟩, ⟨some 56, none, .field 1 (.tmp 55)⟩, ⟨some 57, none, .load false 1 (.tmp 56)⟩, ⟨some 58, none, .len (.tmp 57)⟩, ⟨some 59, none, .bin .lss (.tmp 53) (.tmp 58)⟩])
    (.cond (.tmp 59)
     .skip
     (.exit 4)))
    (.seq (.block 5 (.region [⟨some 62, none, .mov (.tmp 3)⟩, ⟨some 63, none, .mov (.tmp 0)⟩, ⟨some 64, none, .nilCheck (.tmp 63)⟩, ⟨some 65, none, .field 1 (.tmp 64)⟩, ⟨some 66, none, .load false 1 (.tmp 65)⟩, ⟨some 67, none, .mov (.tmp 6)⟩, ⟨some 68, none, .index 1 (.tmp 66) (.tmp 67)⟩, ⟨some 69, none, .load false 1 (.tmp 68)⟩, ⟨some 70, none, .index 1 (.tmp 62) (.tmp 69)⟩, ⟨none, none, .store 1 (.tmp 70) (.const (.bool true))⟩]))
    (.region [⟨some 60, none, .mov (.tmp 6)⟩, ⟨some 61, none, .bin .add (.tmp 60) (.const (.int .i64 1))⟩, ⟨some 6, none, .mov (.tmp 61)⟩]))
def C77_6 : CCode := .seq (.seq (.region [⟨some 29, none, .mov (.tmp 5)⟩, ⟨some 30, none, .mov (.tmp 0)⟩, ⟨some 31, none, .nilCheck (.tmp 30)⟩, ⟨some 32, none, .field 0 (.tmp 31)⟩, ⟨some 33, none, .load false 1 (.tmp 32)⟩, ⟨some 34, none, .mov (.tmp 4)⟩, ⟨some 35, none, .index 1 (.tmp 33) (.tmp 34)⟩, ⟨some 36, none, .load false 1 (.tmp 35)⟩, ⟨some 37, none, .len (.tmp 36)⟩, ⟨some 38, none, .bin .lss (.tmp 29) (.tmp 37)⟩])
       (.cond (.tmp 38)
        .skip
        (.exit 2)))
       (.seq (.block 3 (.region [⟨some 41, none, .mov (.tmp 3)⟩, ⟨some 42, none, .mov (.tmp 0)⟩, ⟨some 43, none, .nilCheck (.tmp 42)⟩, ⟨some 44, none, .field 0 (.tmp 43)⟩, ⟨some 45, none, .load false 1 (.tmp 44)⟩, ⟨some 46, none, .mov (.tmp 4)⟩, ⟨some 47, none, .index 1 (.tmp 45) (.tmp 46)⟩, ⟨some 48, none, .load false 1 (.tmp 47)⟩, ⟨some 49, none, .mov (.tmp 5)⟩, ⟨some 50, none, .index 1 (.tmp 48) (.tmp 49)⟩, ⟨some 51, none, .load false 1 (.tmp 50)⟩, ⟨some 52, none, .index 1 (.tmp 41) (.tmp 51)⟩, ⟨none, none, .store 1 (.tmp 52) (.const (.bool true))⟩]))
       (.region [⟨some 39, none, .mov (.tmp 5)⟩, ⟨some 40, none, .bin .add (.tmp 39) (.const (.int .i64 1))⟩, ⟨some 5, none, .mov (.tmp 40)⟩]))
def C77_7 : CCode := .seq (.seq (.region [⟨some 20, none, .mov (.tmp 4)⟩, ⟨some 21, none, .mov (.tmp 0)⟩, ⟨some 22, none, .nilCheck (.tmp 21)⟩, ⟨some 23, none, .field 0 (.tmp 22)⟩, ⟨some 24, none, .load false 1 (.tmp 23)⟩, ⟨some 25, none, .len (.tmp 24)⟩, ⟨some 26, none, .bin .lss (.tmp 20) (.tmp 25)⟩])
    (.cond (.tmp 26)
     .skip
     (.exit 0)))
    (.seq (.block 1 (.seq (.region [⟨some 5, none, .mov (.const (.int .i64 0))⟩])
     (.block 2 (.loop C77_6))))
    (.region [⟨some 27, none, .mov (.tmp 4)⟩, ⟨some 28, none, .bin .add (.tmp 27) (.const (.int .i64 1))⟩, ⟨some 4, none, .mov (.tmp 28)⟩]))
def C77 : CFunc := ⟨(.seq (.region [⟨some 2, none, .mov (.const (.nilSlice))⟩])
  (.seq (.region [⟨some 13, none, .mov (.tmp 0)⟩, ⟨some 14, none, .nilCheck (.tmp 13)⟩, ⟨some 15, none, .field 3 (.tmp 14)⟩, ⟨some 16, none, .load false 1 (.tmp 15)⟩, ⟨some 17, none, .len (.tmp 16)⟩, ⟨some 18, none, .bin .add (.tmp 17) (.const (.int .i64 1))⟩, ⟨some 19, none, .makeSlice 1 [.bool false] (.tmp 18) (.tmp 18)⟩, ⟨some 3, none, .mov (.tmp 19)⟩])
  (.seq (.seq (.region [⟨some 4, none, .mov (.const (.int .i64 0))⟩])
  (.block 0 (.loop C77_7)))
  (.seq (.seq (.region [⟨some 6, none, .mov (.const (.int .i64 0))⟩])
  (.block 4 (.loop C77_5)))
  (.seq (.seq (.region [⟨some 7, none, .mov (.const (.int .i64 0))⟩])
  (.block 6 (.loop C77_4)))
  (.seq (.region [⟨some 89, none, .mov (.tmp 3)⟩, ⟨some 90, none, .index 1 (.tmp 89) (.const (.int .i64 0))⟩, ⟨none, none, .store 1 (.tmp 90) (.const (.bool false))⟩])
  (.seq (.seq (.region [⟨some 8, none, .mov (.const (.bool true))⟩])
  (.block 8 (.loop C77_3)))
  (.seq (.region [⟨some 157, none, .mov (.tmp 3)⟩, ⟨some 2, none, .mov (.tmp 157)⟩])
  .ret)))))))),
  [.tmp 2]⟩
theorem c77 : cprog Go.Proofs.Try.prog 77 = some C77 := by kernel_rfl
-- (*dustcart/dustcartref04.Model).has
def C78 : CFunc := ⟨(.seq (.region [⟨some 4, none, .mov (.const (.bool false))⟩])
  (.seq (.region [⟨some 5, none, .mov (.tmp 1)⟩, ⟨some 6, none, .bin .geq (.tmp 5) (.const (.int .i64 1))⟩, ⟨some 7, none, .mov (.tmp 6)⟩, ⟨some 8, some (7, true), .mov (.tmp 1)⟩, ⟨some 9, some (7, true), .mov (.tmp 0)⟩, ⟨some 10, some (7, true), .nilCheck (.tmp 9)⟩, ⟨some 11, some (7, true), .field 3 (.tmp 10)⟩, ⟨some 12, some (7, true), .load false 1 (.tmp 11)⟩, ⟨some 13, some (7, true), .len (.tmp 12)⟩, ⟨some 14, some (7, true), .bin .leq (.tmp 8) (.tmp 13)⟩, ⟨some 15, none, .pick (.tmp 7) (.tmp 14) (.const (.bool false))⟩, ⟨some 4, none, .mov (.tmp 15)⟩])
  .ret)),
  [.tmp 4]⟩
theorem c78 : cprog Go.Proofs.Try.prog 78 = some C78 := by kernel_rfl
-- (*dustcart/dustcartref04.Model).lacks
def C79 : CFunc := ⟨(.seq (.region [⟨some 4, none, .mov (.const (.int .i64 0))⟩])
  (.seq (.seq (.region [⟨some 5, none, .mov (.tmp 0)⟩, ⟨some 6, none, .call 54 [(.tmp 5)]⟩, ⟨some 7, none, .not (.tmp 6)⟩])
  (.cond (.tmp 7)
   (.seq (.region [⟨some 4, none, .mov (.const (.int .i64 5))⟩])
   .ret)
   .skip))
  (.seq (.seq (.region [⟨some 8, none, .mov (.tmp 0)⟩, ⟨some 9, none, .mov (.tmp 1)⟩, ⟨some 10, none, .call 78 [(.tmp 8), (.tmp 9)]⟩, ⟨some 11, none, .not (.tmp 10)⟩])
  (.cond (.tmp 11)
   (.seq (.region [⟨some 4, none, .mov (.const (.int .i64 4))⟩])
   .ret)
   .skip))
  (.seq (.region [⟨some 4, none, .mov (.const (.int .i64 0))⟩])
  .ret)))),
  [.tmp 4]⟩
theorem c79 : cprog Go.Proofs.Try.prog 79 = some C79 := by kernel_rfl
-- dustcart/model.none
def C80 : CFunc := ⟨(.seq (.region [⟨some 2, none, .mov (.const (.int .i64 0))⟩])
  (.seq (.region [⟨some 2, none, .mov (.const (.int .i64 (-1)))⟩])
  .ret)),
  [.tmp 2]⟩
theorem c80 : cprog Go.Proofs.Try.prog 80 = some C80 := by kernel_rfl
-- (*dustcart/model.act).born
def C81 : CFunc := ⟨(.seq (.region [⟨some 2, none, .new [.nilSlice, .int .i64 0, .int .i64 0, .int .i64 0, .int .i64 0, .int .i64 0, .int .i64 0]⟩])
  (.seq (.region [⟨some 4, none, .mov (.tmp 0)⟩, ⟨some 5, none, .nilCheck (.tmp 4)⟩, ⟨some 6, none, .field 0 (.tmp 5)⟩, ⟨some 7, none, .field 5 (.tmp 6)⟩, ⟨some 8, none, .load true 3 (.tmp 7)⟩, ⟨some 3, none, .new [.int .i64 0, .int .i64 0, .int .i64 0]⟩, ⟨none, none, .store 3 (.tmp 3) (.tmp 8)⟩])
  (.seq (.dregion [⟨⟨some 13, none, .mov (.tmp 0)⟩, 4, 0, 0⟩, ⟨⟨some 14, none, .nilCheck (.tmp 13)⟩, 5, 0, 0⟩, ⟨⟨some 15, none, .field 8 (.tmp 14)⟩, 6, 0, 0⟩, ⟨⟨some 16, none, .load false 1 (.tmp 15)⟩, 7, 1, 0⟩, ⟨⟨some 17, none, .nilCheck (.tmp 16)⟩, 8, 0, 0⟩, ⟨⟨some 18, none, .field 3 (.tmp 17)⟩, 9, 0, 0⟩, ⟨⟨some 19, none, .load false 1 (.tmp 18)⟩, 10, 1, 0⟩, ⟨⟨some 20, none, .load true 3 (.tmp 3)⟩, 11, 1, 0⟩, ⟨⟨some 21, none, .field 0 (.tmp 3)⟩, 12, 0, 0⟩, ⟨⟨some 22, none, .load false 1 (.tmp 21)⟩, 13, 1, 0⟩, ⟨⟨some 23, none, .makeSlice 1 [.int .i64 0] (.tmp 22) (.tmp 22)⟩, 14, 0, 0⟩, ⟨⟨some 24, none, .field 1 (.tmp 3)⟩, 15, 0, 0⟩, ⟨⟨some 25, none, .load false 1 (.tmp 24)⟩, 16, 1, 0⟩, ⟨⟨some 26, none, .makeSlice 1 [.int .i64 0] (.tmp 25) (.tmp 25)⟩, 17, 0, 0⟩, ⟨⟨some 27, none, .build [.int .i64 0, .int .i64 0, .int .i64 0, .nilSlice, .nilSlice] [(0, 3, (.tmp 20)), (3, 1, (.tmp 23)), (4, 1, (.tmp 26))]⟩, 18, 0, 0⟩, ⟨⟨some 28, none, .buildSlice 5 [.int .i64 0, .int .i64 0, .int .i64 0, .nilSlice, .nilSlice] 1 [(0, 5, (.tmp 27))]⟩, 19, 0, 0⟩, ⟨⟨some 29, none, .append 5 (.tmp 19) (.tmp 28)⟩, 20, 3, 0⟩, ⟨⟨some 9, none, .mov (.tmp 0)⟩, 0, 0, 0⟩, ⟨⟨some 10, none, .nilCheck (.tmp 9)⟩, 1, 0, 0⟩, ⟨⟨some 11, none, .field 8 (.tmp 10)⟩, 2, 0, 0⟩, ⟨⟨some 12, none, .load false 1 (.tmp 11)⟩, 3, 1, 0⟩, ⟨⟨some 30, none, .nilCheck (.tmp 12)⟩, 21, 0, 1⟩, ⟨⟨some 31, none, .field 3 (.tmp 30)⟩, 22, 0, 1⟩, ⟨⟨none, none, .store 1 (.tmp 31) (.tmp 29)⟩, 23, 3, 1⟩])
  (.seq (.dregion [⟨⟨some 32, none, .mov (.tmp 0)⟩, 0, 0, 0⟩, ⟨⟨some 33, none, .nilCheck (.tmp 32)⟩, 1, 0, 0⟩, ⟨⟨some 34, none, .field 9 (.tmp 33)⟩, 2, 0, 0⟩, ⟨⟨some 35, none, .load false 1 (.tmp 34)⟩, 3, 1, 0⟩, ⟨⟨some 36, none, .mov (.tmp 0)⟩, 4, 0, 0⟩, ⟨⟨some 37, none, .nilCheck (.tmp 36)⟩, 5, 0, 0⟩, ⟨⟨some 38, none, .field 0 (.tmp 37)⟩, 6, 0, 0⟩, ⟨⟨some 39, none, .field 1 (.tmp 38)⟩, 7, 0, 0⟩, ⟨⟨some 40, none, .load false 1 (.tmp 39)⟩, 8, 1, 0⟩, ⟨⟨some 41, none, .mov (.tmp 0)⟩, 9, 0, 0⟩, ⟨⟨some 42, none, .nilCheck (.tmp 41)⟩, 10, 0, 0⟩, ⟨⟨some 43, none, .field 8 (.tmp 42)⟩, 11, 0, 0⟩, ⟨⟨some 44, none, .load false 1 (.tmp 43)⟩, 12, 1, 0⟩, ⟨⟨some 45, none, .nilCheck (.tmp 44)⟩, 13, 0, 0⟩, ⟨⟨some 46, none, .field 3 (.tmp 45)⟩, 14, 0, 0⟩, ⟨⟨some 47, none, .load false 1 (.tmp 46)⟩, 15, 1, 0⟩, ⟨⟨some 48, none, .len (.tmp 47)⟩, 16, 0, 0⟩, ⟨⟨some 49, none, .index 1 (.tmp 35) (.tmp 40)⟩, 17, 0, 0⟩, ⟨⟨none, none, .store 1 (.tmp 49) (.tmp 48)⟩, 18, 3, 0⟩])
  (.seq (.region [⟨some 50, none, .mov (.tmp 0)⟩, ⟨some 51, none, .nilCheck (.tmp 50)⟩, ⟨some 52, none, .field 8 (.tmp 51)⟩, ⟨some 53, none, .load false 1 (.tmp 52)⟩, ⟨some 54, none, .nilCheck (.tmp 53)⟩, ⟨some 55, none, .field 3 (.tmp 54)⟩, ⟨some 56, none, .load false 1 (.tmp 55)⟩, ⟨some 57, none, .len (.tmp 56)⟩, ⟨some 58, none, .build [.nilSlice, .int .i64 0, .int .i64 0, .int .i64 0, .int .i64 0, .int .i64 0, .int .i64 0] [(5, 1, (.tmp 57))]⟩, ⟨none, none, .store 7 (.tmp 2) (.tmp 58)⟩])
  .ret))))),
  [.cell 2 true 7]⟩
theorem c81 : cprog Go.Proofs.Try.prog 81 = some C81 := by kernel_rfl
-- dustcart/model.slotB
def C82 : CFunc := ⟨(.seq (.region [⟨some 2, none, .mov (.const (.int .i64 0))⟩])
  (.seq (.region [⟨some 3, none, .mov (.tmp 0)⟩, ⟨some 4, none, .nilCheck (.tmp 3)⟩, ⟨some 5, none, .field 0 (.tmp 4)⟩, ⟨some 6, none, .field 2 (.tmp 5)⟩, ⟨some 7, none, .load false 1 (.tmp 6)⟩, ⟨some 2, none, .mov (.tmp 7)⟩])
  .ret)),
  [.tmp 2]⟩
theorem c82 : cprog Go.Proofs.Try.prog 82 = some C82 := by kernel_rfl
-- dustcart/model.refsB
def C83 : CFunc := ⟨(.seq (.region [⟨some 2, none, .mov (.const (.int .i64 0))⟩])
  (.seq (.dregion [⟨⟨some 3, none, .mov (.tmp 0)⟩, 0, 0, 0⟩, ⟨⟨some 4, none, .nilCheck (.tmp 3)⟩, 1, 0, 0⟩, ⟨⟨some 5, none, .field 8 (.tmp 4)⟩, 2, 0, 0⟩, ⟨⟨some 6, none, .load false 1 (.tmp 5)⟩, 3, 1, 0⟩, ⟨⟨some 7, none, .mov (.tmp 0)⟩, 4, 0, 0⟩, ⟨⟨some 8, none, .nilCheck (.tmp 7)⟩, 5, 0, 0⟩, ⟨⟨some 9, none, .field 9 (.tmp 8)⟩, 6, 0, 0⟩, ⟨⟨some 10, none, .load false 1 (.tmp 9)⟩, 7, 1, 0⟩, ⟨⟨some 11, none, .mov (.tmp 0)⟩, 8, 0, 0⟩, ⟨⟨some 12, none, .nilCheck (.tmp 11)⟩, 9, 0, 0⟩, ⟨⟨some 13, none, .field 0 (.tmp 12)⟩, 10, 0, 0⟩, ⟨⟨some 14, none, .field 2 (.tmp 13)⟩, 11, 0, 0⟩, ⟨⟨some 15, none, .load false 1 (.tmp 14)⟩, 12, 1, 0⟩, ⟨⟨some 16, none, .index 1 (.tmp 10) (.tmp 15)⟩, 13, 0, 0⟩, ⟨⟨some 17, none, .load false 1 (.tmp 16)⟩, 14, 1, 0⟩, ⟨⟨some 18, none, .call 74 [(.tmp 6), (.tmp 17)]⟩, 15, 3, 0⟩, ⟨⟨some 19, none, .nilCheck (.tmp 18)⟩, 16, 0, 1⟩, ⟨⟨some 20, none, .field 0 (.tmp 19)⟩, 17, 0, 1⟩, ⟨⟨some 21, none, .field 0 (.tmp 20)⟩, 18, 0, 1⟩, ⟨⟨some 22, none, .load false 1 (.tmp 21)⟩, 19, 1, 1⟩, ⟨⟨some 2, none, .mov (.tmp 22)⟩, 20, 0, 1⟩])
  .ret)),
  [.tmp 2]⟩
theorem c83 : cprog Go.Proofs.Try.prog 83 = some C83 := by kernel_rfl
-- dustcart/model.ways$1
def C84 : CFunc := ⟨(.seq (.region [⟨some 2, none, .new [.nilSlice, .int .i64 0, .int .i64 0, .int .i64 0, .int .i64 0, .int .i64 0, .int .i64 0]⟩])
  (.seq (.dregion [⟨⟨some 4, none, .mov (.tmp 0)⟩, 1, 0, 0⟩, ⟨⟨some 5, none, .nilCheck (.tmp 4)⟩, 2, 0, 0⟩, ⟨⟨some 6, none, .field 8 (.tmp 5)⟩, 3, 0, 0⟩, ⟨⟨some 7, none, .load false 1 (.tmp 6)⟩, 4, 1, 0⟩, ⟨⟨some 8, none, .mov (.tmp 0)⟩, 5, 0, 0⟩, ⟨⟨some 9, none, .nilCheck (.tmp 8)⟩, 6, 0, 0⟩, ⟨⟨some 10, none, .field 9 (.tmp 9)⟩, 7, 0, 0⟩, ⟨⟨some 11, none, .load false 1 (.tmp 10)⟩, 8, 1, 0⟩, ⟨⟨some 12, none, .mov (.tmp 0)⟩, 9, 0, 0⟩, ⟨⟨some 13, none, .nilCheck (.tmp 12)⟩, 10, 0, 0⟩, ⟨⟨some 14, none, .field 0 (.tmp 13)⟩, 11, 0, 0⟩, ⟨⟨some 15, none, .field 2 (.tmp 14)⟩, 12, 0, 0⟩, ⟨⟨some 16, none, .load false 1 (.tmp 15)⟩, 13, 1, 0⟩, ⟨⟨some 17, none, .index 1 (.tmp 11) (.tmp 16)⟩, 14, 0, 0⟩, ⟨⟨some 18, none, .load false 1 (.tmp 17)⟩, 15, 1, 0⟩, ⟨⟨some 19, none, .call 74 [(.tmp 7), (.tmp 18)]⟩, 16, 3, 0⟩, ⟨⟨some 3, none, .mov (.tmp 0)⟩, 0, 0, 0⟩, ⟨⟨some 20, none, .nilCheck (.tmp 19)⟩, 17, 0, 1⟩, ⟨⟨some 21, none, .field 3 (.tmp 20)⟩, 18, 0, 1⟩, ⟨⟨some 22, none, .load false 1 (.tmp 21)⟩, 19, 1, 1⟩, ⟨⟨some 23, none, .mov (.tmp 0)⟩, 20, 0, 0⟩, ⟨⟨some 24, none, .nilCheck (.tmp 23)⟩, 21, 0, 0⟩, ⟨⟨some 25, none, .field 0 (.tmp 24)⟩, 22, 0, 0⟩, ⟨⟨some 26, none, .field 3 (.tmp 25)⟩, 23, 0, 0⟩, ⟨⟨some 27, none, .load false 1 (.tmp 26)⟩, 24, 1, 0⟩, ⟨⟨some 28, none, .index 1 (.tmp 22) (.tmp 27)⟩, 25, 0, 1⟩, ⟨⟨some 29, none, .load false 1 (.tmp 28)⟩, 26, 1, 1⟩, ⟨⟨some 30, none, .call 85 [(.tmp 3), (.tmp 29)]⟩, 27, 3, 1⟩, ⟨⟨none, none, .store 7 (.tmp 2) (.tmp 30)⟩, 28, 3, 2⟩])
  .ret)),
  [.cell 2 true 7]⟩
theorem c84 : cprog Go.Proofs.Try.prog 84 = some C84 := by kernel_rfl
-- (*dustcart/model.act).load
def C85 : CFunc := ⟨(.seq (.region [⟨some 4, none, .new [.nilSlice, .int .i64 0, .int .i64 0, .int .i64 0, .int .i64 0, .int .i64 0, .int .i64 0]⟩])
  (.seq (.dregion [⟨⟨some 5, none, .mov (.tmp 0)⟩, 0, 0, 0⟩, ⟨⟨some 6, none, .nilCheck (.tmp 5)⟩, 1, 0, 0⟩, ⟨⟨some 7, none, .field 9 (.tmp 6)⟩, 2, 0, 0⟩, ⟨⟨some 8, none, .load false 1 (.tmp 7)⟩, 3, 1, 0⟩, ⟨⟨some 9, none, .mov (.tmp 0)⟩, 4, 0, 0⟩, ⟨⟨some 10, none, .nilCheck (.tmp 9)⟩, 5, 0, 0⟩, ⟨⟨some 11, none, .field 0 (.tmp 10)⟩, 6, 0, 0⟩, ⟨⟨some 12, none, .field 1 (.tmp 11)⟩, 7, 0, 0⟩, ⟨⟨some 13, none, .load false 1 (.tmp 12)⟩, 8, 1, 0⟩, ⟨⟨some 14, none, .mov (.tmp 1)⟩, 9, 0, 0⟩, ⟨⟨some 15, none, .index 1 (.tmp 8) (.tmp 13)⟩, 10, 0, 0⟩, ⟨⟨none, none, .store 1 (.tmp 15) (.tmp 14)⟩, 11, 3, 0⟩])
  (.seq (.region [⟨some 16, none, .mov (.tmp 1)⟩, ⟨some 17, none, .build [.nilSlice, .int .i64 0, .int .i64 0, .int .i64 0, .int .i64 0, .int .i64 0, .int .i64 0] [(6, 1, (.tmp 16))]⟩, ⟨none, none, .store 7 (.tmp 4) (.tmp 17)⟩])
  .ret))),
  [.cell 4 true 7]⟩
theorem c85 : cprog Go.Proofs.Try.prog 85 = some C85 := by kernel_rfl
-- dustcart/model.slotA
def C86 : CFunc := ⟨(.seq (.region [⟨some 2, none, .mov (.const (.int .i64 0))⟩])
  (.seq (.region [⟨some 3, none, .mov (.tmp 0)⟩, ⟨some 4, none, .nilCheck (.tmp 3)⟩, ⟨some 5, none, .field 0 (.tmp 4)⟩, ⟨some 6, none, .field 1 (.tmp 5)⟩, ⟨some 7, none, .load false 1 (.tmp 6)⟩, ⟨some 2, none, .mov (.tmp 7)⟩])
  .ret)),
  [.tmp 2]⟩
theorem c86 : cprog Go.Proofs.Try.prog 86 = some C86 := by kernel_rfl
-- dustcart/model.refsA
def C87 : CFunc := ⟨(.seq (.region [⟨some 2, none, .mov (.const (.int .i64 0))⟩])
  (.seq (.dregion [⟨⟨some 3, none, .mov (.tmp 0)⟩, 0, 0, 0⟩, ⟨⟨some 4, none, .nilCheck (.tmp 3)⟩, 1, 0, 0⟩, ⟨⟨some 5, none, .field 8 (.tmp 4)⟩, 2, 0, 0⟩, ⟨⟨some 6, none, .load false 1 (.tmp 5)⟩, 3, 1, 0⟩, ⟨⟨some 7, none, .mov (.tmp 0)⟩, 4, 0, 0⟩, ⟨⟨some 8, none, .nilCheck (.tmp 7)⟩, 5, 0, 0⟩, ⟨⟨some 9, none, .field 9 (.tmp 8)⟩, 6, 0, 0⟩, ⟨⟨some 10, none, .load false 1 (.tmp 9)⟩, 7, 1, 0⟩, ⟨⟨some 11, none, .mov (.tmp 0)⟩, 8, 0, 0⟩, ⟨⟨some 12, none, .nilCheck (.tmp 11)⟩, 9, 0, 0⟩, ⟨⟨some 13, none, .field 0 (.tmp 12)⟩, 10, 0, 0⟩, ⟨⟨some 14, none, .field 1 (.tmp 13)⟩, 11, 0, 0⟩, ⟨⟨some 15, none, .load false 1 (.tmp 14)⟩, 12, 1, 0⟩, ⟨⟨some 16, none, .index 1 (.tmp 10) (.tmp 15)⟩, 13, 0, 0⟩, ⟨⟨some 17, none, .load false 1 (.tmp 16)⟩, 14, 1, 0⟩, ⟨⟨some 18, none, .call 74 [(.tmp 6), (.tmp 17)]⟩, 15, 3, 0⟩, ⟨⟨some 19, none, .nilCheck (.tmp 18)⟩, 16, 0, 1⟩, ⟨⟨some 20, none, .field 0 (.tmp 19)⟩, 17, 0, 1⟩, ⟨⟨some 21, none, .field 0 (.tmp 20)⟩, 18, 0, 1⟩, ⟨⟨some 22, none, .load false 1 (.tmp 21)⟩, 19, 1, 1⟩, ⟨⟨some 2, none, .mov (.tmp 22)⟩, 20, 0, 1⟩])
  .ret)),
  [.tmp 2]⟩
theorem c87 : cprog Go.Proofs.Try.prog 87 = some C87 := by kernel_rfl
-- (*dustcart/model.act).store
def C88 : CFunc := ⟨(.seq (.region [⟨some 2, none, .new [.nilSlice, .int .i64 0, .int .i64 0, .int .i64 0, .int .i64 0, .int .i64 0, .int .i64 0]⟩])
  (.seq (.dregion [⟨⟨some 6, none, .mov (.tmp 0)⟩, 0, 0, 0⟩, ⟨⟨some 7, none, .nilCheck (.tmp 6)⟩, 1, 0, 0⟩, ⟨⟨some 8, none, .field 9 (.tmp 7)⟩, 2, 0, 0⟩, ⟨⟨some 9, none, .load false 1 (.tmp 8)⟩, 3, 1, 0⟩, ⟨⟨some 10, none, .mov (.tmp 0)⟩, 4, 0, 0⟩, ⟨⟨some 11, none, .nilCheck (.tmp 10)⟩, 5, 0, 0⟩, ⟨⟨some 12, none, .field 0 (.tmp 11)⟩, 6, 0, 0⟩, ⟨⟨some 13, none, .field 1 (.tmp 12)⟩, 7, 0, 0⟩, ⟨⟨some 14, none, .load false 1 (.tmp 13)⟩, 8, 1, 0⟩, ⟨⟨some 15, none, .index 1 (.tmp 9) (.tmp 14)⟩, 9, 0, 0⟩, ⟨⟨some 16, none, .load false 1 (.tmp 15)⟩, 10, 1, 0⟩, ⟨⟨some 3, none, .mov (.tmp 16)⟩, 11, 0, 0⟩])
  (.seq (.dregion [⟨⟨some 17, none, .mov (.tmp 0)⟩, 0, 0, 0⟩, ⟨⟨some 18, none, .nilCheck (.tmp 17)⟩, 1, 0, 0⟩, ⟨⟨some 19, none, .field 8 (.tmp 18)⟩, 2, 0, 0⟩, ⟨⟨some 20, none, .load false 1 (.tmp 19)⟩, 3, 1, 0⟩, ⟨⟨some 21, none, .mov (.tmp 3)⟩, 4, 0, 0⟩, ⟨⟨some 22, none, .call 74 [(.tmp 20), (.tmp 21)]⟩, 5, 3, 0⟩, ⟨⟨some 23, none, .nilCheck (.tmp 22)⟩, 6, 0, 1⟩, ⟨⟨some 24, none, .field 3 (.tmp 23)⟩, 7, 0, 1⟩, ⟨⟨some 25, none, .load false 1 (.tmp 24)⟩, 8, 1, 1⟩, ⟨⟨some 26, none, .mov (.tmp 0)⟩, 9, 0, 0⟩, ⟨⟨some 27, none, .nilCheck (.tmp 26)⟩, 10, 0, 0⟩, ⟨⟨some 28, none, .field 0 (.tmp 27)⟩, 11, 0, 0⟩, ⟨⟨some 29, none, .field 3 (.tmp 28)⟩, 12, 0, 0⟩, ⟨⟨some 30, none, .load false 1 (.tmp 29)⟩, 13, 1, 0⟩, ⟨⟨some 31, none, .index 1 (.tmp 25) (.tmp 30)⟩, 14, 0, 1⟩, ⟨⟨some 4, none, .mov (.tmp 31)⟩, 15, 0, 1⟩])
  (.seq (.dregion [⟨⟨some 32, none, .mov (.tmp 3)⟩, 0, 0, 0⟩, ⟨⟨some 33, none, .mov (.tmp 0)⟩, 1, 0, 0⟩, ⟨⟨some 34, none, .nilCheck (.tmp 33)⟩, 2, 0, 0⟩, ⟨⟨some 35, none, .field 0 (.tmp 34)⟩, 3, 0, 0⟩, ⟨⟨some 36, none, .field 3 (.tmp 35)⟩, 4, 0, 0⟩, ⟨⟨some 37, none, .load false 1 (.tmp 36)⟩, 5, 1, 0⟩, ⟨⟨some 38, none, .mov (.tmp 4)⟩, 6, 0, 0⟩, ⟨⟨some 39, none, .nilCheck (.tmp 38)⟩, 7, 0, 0⟩, ⟨⟨some 40, none, .load false 1 (.tmp 39)⟩, 8, 1, 0⟩, ⟨⟨some 41, none, .mov (.tmp 0)⟩, 9, 0, 0⟩, ⟨⟨some 42, none, .nilCheck (.tmp 41)⟩, 10, 0, 0⟩, ⟨⟨some 43, none, .field 9 (.tmp 42)⟩, 11, 0, 0⟩, ⟨⟨some 44, none, .load false 1 (.tmp 43)⟩, 12, 1, 0⟩, ⟨⟨some 45, none, .mov (.tmp 0)⟩, 13, 0, 0⟩, ⟨⟨some 46, none, .nilCheck (.tmp 45)⟩, 14, 0, 0⟩, ⟨⟨some 47, none, .field 0 (.tmp 46)⟩, 15, 0, 0⟩, ⟨⟨some 48, none, .field 2 (.tmp 47)⟩, 16, 0, 0⟩, ⟨⟨some 49, none, .load false 1 (.tmp 48)⟩, 17, 1, 0⟩, ⟨⟨some 50, none, .index 1 (.tmp 44) (.tmp 49)⟩, 18, 0, 0⟩, ⟨⟨some 51, none, .load false 1 (.tmp 50)⟩, 19, 1, 0⟩, ⟨⟨some 52, none, .build [.nilSlice, .int .i64 0, .int .i64 0, .int .i64 0, .int .i64 0, .int .i64 0, .int .i64 0] [(1, 1, (.tmp 32)), (2, 1, (.tmp 37)), (3, 1, (.tmp 40)), (4, 1, (.tmp 51))]⟩, 20, 0, 0⟩, ⟨⟨some 5, none, .new [.nilSlice, .int .i64 0, .int .i64 0, .int .i64 0, .int .i64 0, .int .i64 0, .int .i64 0]⟩, 21, 0, 0⟩, ⟨⟨none, none, .store 7 (.tmp 5) (.tmp 52)⟩, 22, 3, 0⟩])
  (.seq (.region [⟨some 53, none, .mov (.tmp 4)⟩, ⟨some 54, none, .field 4 (.tmp 5)⟩, ⟨some 55, none, .load false 1 (.tmp 54)⟩, ⟨some 56, none, .nilCheck (.tmp 53)⟩, ⟨none, none, .store 1 (.tmp 56) (.tmp 55)⟩])
  (.seq (.region [⟨some 57, none, .load true 7 (.tmp 5)⟩, ⟨none, none, .store 7 (.tmp 2) (.tmp 57)⟩])
  .ret)))))),
  [.cell 2 true 7]⟩
theorem c88 : cprog Go.Proofs.Try.prog 88 = some C88 := by kernel_rfl
-- dustcart/model.dataA
def C89 : CFunc := ⟨(.seq (.region [⟨some 2, none, .mov (.const (.int .i64 0))⟩])
  (.seq (.dregion [⟨⟨some 3, none, .mov (.tmp 0)⟩, 0, 0, 0⟩, ⟨⟨some 4, none, .nilCheck (.tmp 3)⟩, 1, 0, 0⟩, ⟨⟨some 5, none, .field 8 (.tmp 4)⟩, 2, 0, 0⟩, ⟨⟨some 6, none, .load false 1 (.tmp 5)⟩, 3, 1, 0⟩, ⟨⟨some 7, none, .mov (.tmp 0)⟩, 4, 0, 0⟩, ⟨⟨some 8, none, .nilCheck (.tmp 7)⟩, 5, 0, 0⟩, ⟨⟨some 9, none, .field 9 (.tmp 8)⟩, 6, 0, 0⟩, ⟨⟨some 10, none, .load false 1 (.tmp 9)⟩, 7, 1, 0⟩, ⟨⟨some 11, none, .mov (.tmp 0)⟩, 8, 0, 0⟩, ⟨⟨some 12, none, .nilCheck (.tmp 11)⟩, 9, 0, 0⟩, ⟨⟨some 13, none, .field 0 (.tmp 12)⟩, 10, 0, 0⟩, ⟨⟨some 14, none, .field 1 (.tmp 13)⟩, 11, 0, 0⟩, ⟨⟨some 15, none, .load false 1 (.tmp 14)⟩, 12, 1, 0⟩, ⟨⟨some 16, none, .index 1 (.tmp 10) (.tmp 15)⟩, 13, 0, 0⟩, ⟨⟨some 17, none, .load false 1 (.tmp 16)⟩, 14, 1, 0⟩, ⟨⟨some 18, none, .call 74 [(.tmp 6), (.tmp 17)]⟩, 15, 3, 0⟩, ⟨⟨some 19, none, .nilCheck (.tmp 18)⟩, 16, 0, 1⟩, ⟨⟨some 20, none, .field 0 (.tmp 19)⟩, 17, 0, 1⟩, ⟨⟨some 21, none, .field 1 (.tmp 20)⟩, 18, 0, 1⟩, ⟨⟨some 22, none, .load false 1 (.tmp 21)⟩, 19, 1, 1⟩, ⟨⟨some 2, none, .mov (.tmp 22)⟩, 20, 0, 1⟩])
  .ret)),
  [.tmp 2]⟩
theorem c89 : cprog Go.Proofs.Try.prog 89 = some C89 := by kernel_rfl
-- dustcart/model.ways$2
def C90 : CFunc := ⟨(.seq (.region [⟨some 2, none, .new [.nilSlice, .int .i64 0, .int .i64 0, .int .i64 0, .int .i64 0, .int .i64 0, .int .i64 0]⟩])
  (.seq (.dregion [⟨⟨some 3, none, .mov (.tmp 0)⟩, 0, 0, 0⟩, ⟨⟨some 4, none, .nilCheck (.tmp 3)⟩, 1, 0, 0⟩, ⟨⟨some 5, none, .field 8 (.tmp 4)⟩, 2, 0, 0⟩, ⟨⟨some 6, none, .load false 1 (.tmp 5)⟩, 3, 1, 0⟩, ⟨⟨some 7, none, .mov (.tmp 0)⟩, 4, 0, 0⟩, ⟨⟨some 8, none, .nilCheck (.tmp 7)⟩, 5, 0, 0⟩, ⟨⟨some 9, none, .field 9 (.tmp 8)⟩, 6, 0, 0⟩, ⟨⟨some 10, none, .load false 1 (.tmp 9)⟩, 7, 1, 0⟩, ⟨⟨some 11, none, .mov (.tmp 0)⟩, 8, 0, 0⟩, ⟨⟨some 12, none, .nilCheck (.tmp 11)⟩, 9, 0, 0⟩, ⟨⟨some 13, none, .field 0 (.tmp 12)⟩, 10, 0, 0⟩, ⟨⟨some 14, none, .field 1 (.tmp 13)⟩, 11, 0, 0⟩, ⟨⟨some 15, none, .load false 1 (.tmp 14)⟩, 12, 1, 0⟩, ⟨⟨some 16, none, .index 1 (.tmp 10) (.tmp 15)⟩, 13, 0, 0⟩, ⟨⟨some 17, none, .load false 1 (.tmp 16)⟩, 14, 1, 0⟩, ⟨⟨some 18, none, .call 74 [(.tmp 6), (.tmp 17)]⟩, 15, 3, 0⟩, ⟨⟨some 19, none, .nilCheck (.tmp 18)⟩, 16, 0, 1⟩, ⟨⟨some 20, none, .field 4 (.tmp 19)⟩, 17, 0, 1⟩, ⟨⟨some 21, none, .load false 1 (.tmp 20)⟩, 18, 1, 1⟩, ⟨⟨some 22, none, .mov (.tmp 0)⟩, 19, 0, 0⟩, ⟨⟨some 23, none, .nilCheck (.tmp 22)⟩, 20, 0, 0⟩, ⟨⟨some 24, none, .field 0 (.tmp 23)⟩, 21, 0, 0⟩, ⟨⟨some 25, none, .field 3 (.tmp 24)⟩, 22, 0, 0⟩, ⟨⟨some 26, none, .load false 1 (.tmp 25)⟩, 23, 1, 0⟩, ⟨⟨some 27, none, .mov (.tmp 0)⟩, 24, 0, 0⟩, ⟨⟨some 28, none, .nilCheck (.tmp 27)⟩, 25, 0, 0⟩, ⟨⟨some 29, none, .field 0 (.tmp 28)⟩, 26, 0, 0⟩, ⟨⟨some 30, none, .field 4 (.tmp 29)⟩, 27, 0, 0⟩, ⟨⟨some 31, none, .load false 1 (.tmp 30)⟩, 28, 1, 0⟩, ⟨⟨some 32, none, .index 1 (.tmp 21) (.tmp 26)⟩, 29, 0, 1⟩, ⟨⟨none, none, .store 1 (.tmp 32) (.tmp 31)⟩, 30, 3, 1⟩])
  (.seq (.region [⟨some 33, none, .build [.nilSlice, .int .i64 0, .int .i64 0, .int .i64 0, .int .i64 0, .int .i64 0, .int .i64 0] []⟩, ⟨none, none, .store 7 (.tmp 2) (.tmp 33)⟩])
  .ret))),
  [.cell 2 true 7]⟩
theorem c90 : cprog Go.Proofs.Try.prog 90 = some C90 := by kernel_rfl
-- dustcart/model.ways$3
def C91 : CFunc := ⟨(.seq (.region [⟨some 2, none, .new [.nilSlice, .int .i64 0, .int .i64 0, .int .i64 0, .int .i64 0, .int .i64 0, .int .i64 0]⟩])
  (.seq (.dregion [⟨⟨some 3, none, .mov (.tmp 0)⟩, 0, 0, 0⟩, ⟨⟨some 4, none, .nilCheck (.tmp 3)⟩, 1, 0, 0⟩, ⟨⟨some 5, none, .field 8 (.tmp 4)⟩, 2, 0, 0⟩, ⟨⟨some 6, none, .load false 1 (.tmp 5)⟩, 3, 1, 0⟩, ⟨⟨some 7, none, .mov (.tmp 0)⟩, 4, 0, 0⟩, ⟨⟨some 8, none, .nilCheck (.tmp 7)⟩, 5, 0, 0⟩, ⟨⟨some 9, none, .field 9 (.tmp 8)⟩, 6, 0, 0⟩, ⟨⟨some 10, none, .load false 1 (.tmp 9)⟩, 7, 1, 0⟩, ⟨⟨some 11, none, .mov (.tmp 0)⟩, 8, 0, 0⟩, ⟨⟨some 12, none, .nilCheck (.tmp 11)⟩, 9, 0, 0⟩, ⟨⟨some 13, none, .field 0 (.tmp 12)⟩, 10, 0, 0⟩, ⟨⟨some 14, none, .field 1 (.tmp 13)⟩, 11, 0, 0⟩, ⟨⟨some 15, none, .load false 1 (.tmp 14)⟩, 12, 1, 0⟩, ⟨⟨some 16, none, .index 1 (.tmp 10) (.tmp 15)⟩, 13, 0, 0⟩, ⟨⟨some 17, none, .load false 1 (.tmp 16)⟩, 14, 1, 0⟩, ⟨⟨some 18, none, .call 74 [(.tmp 6), (.tmp 17)]⟩, 15, 3, 0⟩, ⟨⟨some 19, none, .nilCheck (.tmp 18)⟩, 16, 0, 1⟩, ⟨⟨some 20, none, .field 4 (.tmp 19)⟩, 17, 0, 1⟩, ⟨⟨some 21, none, .load false 1 (.tmp 20)⟩, 18, 1, 1⟩, ⟨⟨some 22, none, .mov (.tmp 0)⟩, 19, 0, 0⟩, ⟨⟨some 23, none, .nilCheck (.tmp 22)⟩, 20, 0, 0⟩, ⟨⟨some 24, none, .field 0 (.tmp 23)⟩, 21, 0, 0⟩, ⟨⟨some 25, none, .field 3 (.tmp 24)⟩, 22, 0, 0⟩, ⟨⟨some 26, none, .load false 1 (.tmp 25)⟩, 23, 1, 0⟩, ⟨⟨some 27, none, .index 1 (.tmp 21) (.tmp 26)⟩, 24, 0, 1⟩, ⟨⟨some 28, none, .load false 1 (.tmp 27)⟩, 25, 1, 1⟩, ⟨⟨some 29, none, .buildSlice 1 [.int .i64 0] 1 [(0, 1, (.tmp 28))]⟩, 26, 0, 1⟩, ⟨⟨some 30, none, .call 92 [(.tmp 29)]⟩, 27, 3, 1⟩, ⟨⟨none, none, .store 7 (.tmp 2) (.tmp 30)⟩, 28, 3, 2⟩])
  .ret)),
  [.cell 2 true 7]⟩
theorem c91 : cprog Go.Proofs.Try.prog 91 = some C91 := by kernel_rfl
end Go.Cs.Try

/- The compiled functions of the seat, part 4. -/
namespace Go.Cs.Try
open Go Go.Cs
set_option maxRecDepth 100000
-- dustcart/model.told
def C92 : CFunc := ⟨(.seq (.region [⟨some 2, none, .new [.nilSlice, .int .i64 0, .int .i64 0, .int .i64 0, .int .i64 0, .int .i64 0, .int .i64 0]⟩])
  (.seq (.region [⟨some 3, none, .mov (.tmp 0)⟩, ⟨some 4, none, .build [.nilSlice, .int .i64 0, .int .i64 0, .int .i64 0, .int .i64 0, .int .i64 0, .int .i64 0] [(0, 1, (.tmp 3))]⟩, ⟨none, none, .store 7 (.tmp 2) (.tmp 4)⟩])
  .ret)),
  [.cell 2 true 7]⟩
theorem c92 : cprog Go.Proofs.Try.prog 92 = some C92 := by kernel_rfl
-- dustcart/model.ways$4
def C93 : CFunc := ⟨(.seq (.region [⟨some 2, none, .new [.nilSlice, .int .i64 0, .int .i64 0, .int .i64 0, .int .i64 0, .int .i64 0, .int .i64 0]⟩])
  (.seq (.dregion [⟨⟨some 3, none, .mov (.tmp 0)⟩, 0, 0, 0⟩, ⟨⟨some 4, none, .mov (.tmp 0)⟩, 1, 0, 0⟩, ⟨⟨some 5, none, .nilCheck (.tmp 4)⟩, 2, 0, 0⟩, ⟨⟨some 6, none, .field 9 (.tmp 5)⟩, 3, 0, 0⟩, ⟨⟨some 7, none, .load false 1 (.tmp 6)⟩, 4, 1, 0⟩, ⟨⟨some 8, none, .mov (.tmp 0)⟩, 5, 0, 0⟩, ⟨⟨some 9, none, .nilCheck (.tmp 8)⟩, 6, 0, 0⟩, ⟨⟨some 10, none, .field 0 (.tmp 9)⟩, 7, 0, 0⟩, ⟨⟨some 11, none, .field 2 (.tmp 10)⟩, 8, 0, 0⟩, ⟨⟨some 12, none, .load false 1 (.tmp 11)⟩, 9, 1, 0⟩, ⟨⟨some 13, none, .index 1 (.tmp 7) (.tmp 12)⟩, 10, 0, 0⟩, ⟨⟨some 14, none, .load false 1 (.tmp 13)⟩, 11, 1, 0⟩, ⟨⟨some 15, none, .call 85 [(.tmp 3), (.tmp 14)]⟩, 12, 3, 0⟩, ⟨⟨none, none, .store 7 (.tmp 2) (.tmp 15)⟩, 13, 3, 1⟩])
  .ret)),
  [.cell 2 true 7]⟩
theorem c93 : cprog Go.Proofs.Try.prog 93 = some C93 := by kernel_rfl
-- dustcart/model.ways$5
def C94 : CFunc := ⟨(.seq (.region [⟨some 2, none, .new [.nilSlice, .int .i64 0, .int .i64 0, .int .i64 0, .int .i64 0, .int .i64 0, .int .i64 0]⟩])
  (.seq (.dregion [⟨⟨some 3, none, .mov (.tmp 0)⟩, 0, 0, 0⟩, ⟨⟨some 4, none, .nilCheck (.tmp 3)⟩, 1, 0, 0⟩, ⟨⟨some 5, none, .field 9 (.tmp 4)⟩, 2, 0, 0⟩, ⟨⟨some 6, none, .load false 1 (.tmp 5)⟩, 3, 1, 0⟩, ⟨⟨some 7, none, .mov (.tmp 0)⟩, 4, 0, 0⟩, ⟨⟨some 8, none, .nilCheck (.tmp 7)⟩, 5, 0, 0⟩, ⟨⟨some 9, none, .field 0 (.tmp 8)⟩, 6, 0, 0⟩, ⟨⟨some 10, none, .field 1 (.tmp 9)⟩, 7, 0, 0⟩, ⟨⟨some 11, none, .load false 1 (.tmp 10)⟩, 8, 1, 0⟩, ⟨⟨some 12, none, .index 1 (.tmp 6) (.tmp 11)⟩, 9, 0, 0⟩, ⟨⟨none, none, .store 1 (.tmp 12) (.const (.int .i64 0))⟩, 10, 3, 0⟩])
  (.seq (.region [⟨some 13, none, .build [.nilSlice, .int .i64 0, .int .i64 0, .int .i64 0, .int .i64 0, .int .i64 0, .int .i64 0] []⟩, ⟨none, none, .store 7 (.tmp 2) (.tmp 13)⟩])
  .ret))),
  [.cell 2 true 7]⟩
theorem c94 : cprog Go.Proofs.Try.prog 94 = some C94 := by kernel_rfl
-- dustcart/model.ways$6
def C95 : CFunc := ⟨(.seq (.region [⟨some 2, none, .new [.nilSlice, .int .i64 0, .int .i64 0, .int .i64 0, .int .i64 0, .int .i64 0, .int .i64 0]⟩])
  (.seq (.seq (.dregion [⟨⟨some 3, none, .mov (.tmp 0)⟩, 0, 0, 0⟩, ⟨⟨some 4, none, .nilCheck (.tmp 3)⟩, 1, 0, 0⟩, ⟨⟨some 5, none, .field 9 (.tmp 4)⟩, 2, 0, 0⟩, ⟨⟨some 6, none, .load false 1 (.tmp 5)⟩, 3, 1, 0⟩, ⟨⟨some 7, none, .mov (.tmp 0)⟩, 4, 0, 0⟩, ⟨⟨some 8, none, .nilCheck (.tmp 7)⟩, 5, 0, 0⟩, ⟨⟨some 9, none, .field 0 (.tmp 8)⟩, 6, 0, 0⟩, ⟨⟨some 10, none, .field 1 (.tmp 9)⟩, 7, 0, 0⟩, ⟨⟨some 11, none, .load false 1 (.tmp 10)⟩, 8, 1, 0⟩, ⟨⟨some 12, none, .index 1 (.tmp 6) (.tmp 11)⟩, 9, 0, 0⟩, ⟨⟨some 13, none, .load false 1 (.tmp 12)⟩, 10, 1, 0⟩, ⟨⟨some 14, none, .mov (.tmp 0)⟩, 11, 0, 0⟩, ⟨⟨some 15, none, .nilCheck (.tmp 14)⟩, 12, 0, 0⟩, ⟨⟨some 16, none, .field 9 (.tmp 15)⟩, 13, 0, 0⟩, ⟨⟨some 17, none, .load false 1 (.tmp 16)⟩, 14, 1, 0⟩, ⟨⟨some 18, none, .mov (.tmp 0)⟩, 15, 0, 0⟩, ⟨⟨some 19, none, .nilCheck (.tmp 18)⟩, 16, 0, 0⟩, ⟨⟨some 20, none, .field 0 (.tmp 19)⟩, 17, 0, 0⟩, ⟨⟨some 21, none, .field 2 (.tmp 20)⟩, 18, 0, 0⟩, ⟨⟨some 22, none, .load false 1 (.tmp 21)⟩, 19, 1, 0⟩, ⟨⟨some 23, none, .index 1 (.tmp 17) (.tmp 22)⟩, 20, 0, 0⟩, ⟨⟨some 24, none, .load false 1 (.tmp 23)⟩, 21, 1, 0⟩, ⟨⟨some 25, none, .bin .eql (.tmp 13) (.tmp 24)⟩, 22, 0, 0⟩])
  (.cond (.tmp 25)
   (.seq (.region [⟨some 26, none, .buildSlice 1 [.int .i64 0] 1 [(0, 1, (.const (.int .i64 1)))]⟩, ⟨some 27, none, .call 92 [(.tmp 26)]⟩, ⟨none, none, .store 7 (.tmp 2) (.tmp 27)⟩])
   .ret)
   .skip))
  (.seq (.region [⟨some 28, none, .buildSlice 1 [.int .i64 0] 1 [(0, 1, (.const (.int .i64 0)))]⟩, ⟨some 29, none, .call 92 [(.tmp 28)]⟩, ⟨none, none, .store 7 (.tmp 2) (.tmp 29)⟩])
  .ret))),
  [.cell 2 true 7]⟩
theorem c95 : cprog Go.Proofs.Try.prog 95 = some C95 := by kernel_rfl
-- dustcart/model.ways$7
def C96 : CFunc := ⟨(.seq (.region [⟨some 2, none, .new [.nilSlice, .int .i64 0, .int .i64 0, .int .i64 0, .int .i64 0, .int .i64 0, .int .i64 0]⟩])
  (.seq (.dregion [⟨⟨some 3, none, .mov (.tmp 0)⟩, 0, 0, 0⟩, ⟨⟨some 4, none, .nilCheck (.tmp 3)⟩, 1, 0, 0⟩, ⟨⟨some 5, none, .field 9 (.tmp 4)⟩, 2, 0, 0⟩, ⟨⟨some 6, none, .load false 1 (.tmp 5)⟩, 3, 1, 0⟩, ⟨⟨some 7, none, .mov (.tmp 0)⟩, 4, 0, 0⟩, ⟨⟨some 8, none, .nilCheck (.tmp 7)⟩, 5, 0, 0⟩, ⟨⟨some 9, none, .field 0 (.tmp 8)⟩, 6, 0, 0⟩, ⟨⟨some 10, none, .field 1 (.tmp 9)⟩, 7, 0, 0⟩, ⟨⟨some 11, none, .load false 1 (.tmp 10)⟩, 8, 1, 0⟩, ⟨⟨some 12, none, .index 1 (.tmp 6) (.tmp 11)⟩, 9, 0, 0⟩, ⟨⟨some 13, none, .load false 1 (.tmp 12)⟩, 10, 1, 0⟩, ⟨⟨some 14, none, .buildSlice 1 [.int .i64 0] 1 [(0, 1, (.tmp 13))]⟩, 11, 0, 0⟩, ⟨⟨some 15, none, .call 92 [(.tmp 14)]⟩, 12, 3, 0⟩, ⟨⟨none, none, .store 7 (.tmp 2) (.tmp 15)⟩, 13, 3, 1⟩])
  .ret)),
  [.cell 2 true 7]⟩
theorem c96 : cprog Go.Proofs.Try.prog 96 = some C96 := by kernel_rfl
-- dustcart/model.globals
def C97 : CFunc := ⟨(.seq (.region [⟨some 2, none, .mov (.const (.int .i64 0))⟩])
  (.seq (.region [⟨some 2, none, .mov (.const (.int .i64 16))⟩])
  .ret)),
  [.tmp 2]⟩
theorem c97 : cprog Go.Proofs.Try.prog 97 = some C97 := by kernel_rfl
-- dustcart/model.ways$8
def C98 : CFunc := ⟨(.seq (.region [⟨some 2, none, .new [.nilSlice, .int .i64 0, .int .i64 0, .int .i64 0, .int .i64 0, .int .i64 0, .int .i64 0]⟩])
  (.seq (.dregion [⟨⟨some 3, none, .mov (.tmp 0)⟩, 0, 0, 0⟩, ⟨⟨some 4, none, .nilCheck (.tmp 3)⟩, 1, 0, 0⟩, ⟨⟨some 5, none, .field 8 (.tmp 4)⟩, 2, 0, 0⟩, ⟨⟨some 6, none, .load false 1 (.tmp 5)⟩, 3, 1, 0⟩, ⟨⟨some 7, none, .nilCheck (.tmp 6)⟩, 4, 0, 0⟩, ⟨⟨some 8, none, .field 1 (.tmp 7)⟩, 5, 0, 0⟩, ⟨⟨some 9, none, .load false 1 (.tmp 8)⟩, 6, 1, 0⟩, ⟨⟨some 10, none, .mov (.tmp 0)⟩, 7, 0, 0⟩, ⟨⟨some 11, none, .nilCheck (.tmp 10)⟩, 8, 0, 0⟩, ⟨⟨some 12, none, .field 0 (.tmp 11)⟩, 9, 0, 0⟩, ⟨⟨some 13, none, .field 3 (.tmp 12)⟩, 10, 0, 0⟩, ⟨⟨some 14, none, .load false 1 (.tmp 13)⟩, 11, 1, 0⟩, ⟨⟨some 15, none, .mov (.tmp 0)⟩, 12, 0, 0⟩, ⟨⟨some 16, none, .nilCheck (.tmp 15)⟩, 13, 0, 0⟩, ⟨⟨some 17, none, .field 9 (.tmp 16)⟩, 14, 0, 0⟩, ⟨⟨some 18, none, .load false 1 (.tmp 17)⟩, 15, 1, 0⟩, ⟨⟨some 19, none, .mov (.tmp 0)⟩, 16, 0, 0⟩, ⟨⟨some 20, none, .nilCheck (.tmp 19)⟩, 17, 0, 0⟩, ⟨⟨some 21, none, .field 0 (.tmp 20)⟩, 18, 0, 0⟩, ⟨⟨some 22, none, .field 1 (.tmp 21)⟩, 19, 0, 0⟩, ⟨⟨some 23, none, .load false 1 (.tmp 22)⟩, 20, 1, 0⟩, ⟨⟨some 24, none, .index 1 (.tmp 18) (.tmp 23)⟩, 21, 0, 0⟩, ⟨⟨some 25, none, .load false 1 (.tmp 24)⟩, 22, 1, 0⟩, ⟨⟨some 26, none, .index 1 (.tmp 9) (.tmp 14)⟩, 23, 0, 0⟩, ⟨⟨none, none, .store 1 (.tmp 26) (.tmp 25)⟩, 24, 3, 0⟩])
  (.seq (.region [⟨some 27, none, .build [.nilSlice, .int .i64 0, .int .i64 0, .int .i64 0, .int .i64 0, .int .i64 0, .int .i64 0] []⟩, ⟨none, none, .store 7 (.tmp 2) (.tmp 27)⟩])
  .ret))),
  [.cell 2 true 7]⟩
theorem c98 : cprog Go.Proofs.Try.prog 98 = some C98 := by kernel_rfl
-- dustcart/model.ways$9
def C99 : CFunc := ⟨(.seq (.region [⟨some 2, none, .new [.nilSlice, .int .i64 0, .int .i64 0, .int .i64 0, .int .i64 0, .int .i64 0, .int .i64 0]⟩])
  (.seq (.dregion [⟨⟨some 3, none, .mov (.tmp 0)⟩, 0, 0, 0⟩, ⟨⟨some 4, none, .mov (.tmp 0)⟩, 1, 0, 0⟩, ⟨⟨some 5, none, .nilCheck (.tmp 4)⟩, 2, 0, 0⟩, ⟨⟨some 6, none, .field 8 (.tmp 5)⟩, 3, 0, 0⟩, ⟨⟨some 7, none, .load false 1 (.tmp 6)⟩, 4, 1, 0⟩, ⟨⟨some 8, none, .nilCheck (.tmp 7)⟩, 5, 0, 0⟩, ⟨⟨some 9, none, .field 1 (.tmp 8)⟩, 6, 0, 0⟩, ⟨⟨some 10, none, .load false 1 (.tmp 9)⟩, 7, 1, 0⟩, ⟨⟨some 11, none, .mov (.tmp 0)⟩, 8, 0, 0⟩, ⟨⟨some 12, none, .nilCheck (.tmp 11)⟩, 9, 0, 0⟩, ⟨⟨some 13, none, .field 0 (.tmp 12)⟩, 10, 0, 0⟩, ⟨⟨some 14, none, .field 3 (.tmp 13)⟩, 11, 0, 0⟩, ⟨⟨some 15, none, .load false 1 (.tmp 14)⟩, 12, 1, 0⟩, ⟨⟨some 16, none, .index 1 (.tmp 10) (.tmp 15)⟩, 13, 0, 0⟩, ⟨⟨some 17, none, .load false 1 (.tmp 16)⟩, 14, 1, 0⟩, ⟨⟨some 18, none, .call 85 [(.tmp 3), (.tmp 17)]⟩, 15, 3, 0⟩, ⟨⟨none, none, .store 7 (.tmp 2) (.tmp 18)⟩, 16, 3, 1⟩])
  .ret)),
  [.cell 2 true 7]⟩
theorem c99 : cprog Go.Proofs.Try.prog 99 = some C99 := by kernel_rfl
-- dustcart/model.ways$10
def C100 : CFunc := ⟨(.seq (.region [⟨some 2, none, .new [.nilSlice, .int .i64 0, .int .i64 0, .int .i64 0, .int .i64 0, .int .i64 0, .int .i64 0]⟩])
  (.seq (.dregion [⟨⟨some 4, none, .mov (.tmp 0)⟩, 0, 0, 0⟩, ⟨⟨some 5, none, .nilCheck (.tmp 4)⟩, 1, 0, 0⟩, ⟨⟨some 6, none, .field 8 (.tmp 5)⟩, 2, 0, 0⟩, ⟨⟨some 7, none, .load false 1 (.tmp 6)⟩, 3, 1, 0⟩, ⟨⟨some 8, none, .mov (.tmp 0)⟩, 4, 0, 0⟩, ⟨⟨some 9, none, .nilCheck (.tmp 8)⟩, 5, 0, 0⟩, ⟨⟨some 10, none, .field 9 (.tmp 9)⟩, 6, 0, 0⟩, ⟨⟨some 11, none, .load false 1 (.tmp 10)⟩, 7, 1, 0⟩, ⟨⟨some 12, none, .mov (.tmp 0)⟩, 8, 0, 0⟩, ⟨⟨some 13, none, .nilCheck (.tmp 12)⟩, 9, 0, 0⟩, ⟨⟨some 14, none, .field 0 (.tmp 13)⟩, 10, 0, 0⟩, ⟨⟨some 15, none, .field 1 (.tmp 14)⟩, 11, 0, 0⟩, ⟨⟨some 16, none, .load false 1 (.tmp 15)⟩, 12, 1, 0⟩, ⟨⟨some 17, none, .index 1 (.tmp 11) (.tmp 16)⟩, 13, 0, 0⟩, ⟨⟨some 18, none, .load false 1 (.tmp 17)⟩, 14, 1, 0⟩, ⟨⟨some 19, none, .call 74 [(.tmp 7), (.tmp 18)]⟩, 15, 3, 0⟩, ⟨⟨some 20, none, .nilCheck (.tmp 19)⟩, 16, 0, 1⟩, ⟨⟨some 21, none, .field 0 (.tmp 20)⟩, 17, 0, 1⟩, ⟨⟨some 22, none, .load true 3 (.tmp 21)⟩, 18, 1, 1⟩, ⟨⟨some 3, none, .new [.int .i64 0, .int .i64 0, .int .i64 0]⟩, 19, 0, 0⟩, ⟨⟨none, none, .store 3 (.tmp 3) (.tmp 22)⟩, 20, 3, 1⟩])
  (.seq (.region [⟨some 23, none, .field 0 (.tmp 3)⟩, ⟨some 24, none, .load false 1 (.tmp 23)⟩, ⟨some 25, none, .field 1 (.tmp 3)⟩, ⟨some 26, none, .load false 1 (.tmp 25)⟩, ⟨some 27, none, .field 2 (.tmp 3)⟩, ⟨some 28, none, .load false 1 (.tmp 27)⟩, ⟨some 29, none, .buildSlice 1 [.int .i64 0, .int .i64 0, .int .i64 0] 3 [(0, 1, (.tmp 24)), (1, 1, (.tmp 26)), (2, 1, (.tmp 28))]⟩, ⟨some 30, none, .call 92 [(.tmp 29)]⟩, ⟨none, none, .store 7 (.tmp 2) (.tmp 30)⟩])
  .ret))),
  [.cell 2 true 7]⟩
theorem c100 : cprog Go.Proofs.Try.prog 100 = some C100 := by kernel_rfl
-- dustcart/dustcartref04.Head
def C101 : CFunc := ⟨(.seq (.region [⟨some 5, none, .box (.tmp 2)⟩, ⟨some 6, none, .mov (.const (.int .i64 0))⟩])
  (.seq (.seq (.region [⟨some 7, none, .mov (.tmp 1)⟩, ⟨some 8, none, .bin .lss (.tmp 7) (.const (.int .i64 0))⟩, ⟨some 9, none, .mov (.tmp 8)⟩, ⟨some 10, some (9, false), .mov (.tmp 1)⟩, ⟨some 11, some (9, false), .mov (.tmp 0)⟩, ⟨some 12, some (9, false), .bin .geq (.tmp 10) (.tmp 11)⟩, ⟨some 13, none, .pick (.tmp 9) (.const (.bool true)) (.tmp 12)⟩, ⟨some 14, none, .mov (.tmp 13)⟩, ⟨some 15, some (14, false), .field 0 (.tmp 5)⟩, ⟨some 16, some (14, false), .load false 1 (.tmp 15)⟩, ⟨some 17, some (14, false), .bin .lss (.tmp 16) (.const (.int .i64 0))⟩, ⟨some 18, none, .pick (.tmp 14) (.const (.bool true)) (.tmp 17)⟩, ⟨some 19, none, .mov (.tmp 18)⟩, ⟨some 20, some (19, false), .field 0 (.tmp 5)⟩, ⟨some 21, some (19, false), .load false 1 (.tmp 20)⟩, ⟨some 22, some (19, false), .bin .gtr (.tmp 21) (.const (.int .i64 11))⟩, ⟨some 23, none, .pick (.tmp 19) (.const (.bool true)) (.tmp 22)⟩])
  (.cond (.tmp 23)
   (.seq (.region [⟨some 6, none, .mov (.const (.int .i64 1))⟩])
   .ret)
   .skip))
  (.seq (.seq (.region [⟨some 24, none, .field 1 (.tmp 5)⟩, ⟨some 25, none, .load false 1 (.tmp 24)⟩, ⟨some 26, none, .bin .lss (.tmp 25) (.const (.int .i64 0))⟩, ⟨some 27, none, .mov (.tmp 26)⟩, ⟨some 28, some (27, false), .field 1 (.tmp 5)⟩, ⟨some 29, some (27, false), .load false 1 (.tmp 28)⟩, ⟨some 30, some (27, false), .bin .geq (.tmp 29) (.const (.int .i64 16))⟩, ⟨some 31, none, .pick (.tmp 27) (.const (.bool true)) (.tmp 30)⟩, ⟨some 32, none, .mov (.tmp 31)⟩, ⟨some 33, some (32, false), .field 0 (.tmp 5)⟩, ⟨some 34, some (32, false), .load false 1 (.tmp 33)⟩, ⟨some 35, some (32, false), .call 104 [(.tmp 34)]⟩, ⟨some 36, some (32, false), .mov (.tmp 35)⟩, ⟨some 37, some (36, true), .field 2 (.tmp 5)⟩, ⟨some 38, some (36, true), .load false 1 (.tmp 37)⟩, ⟨some 39, some (36, true), .bin .lss (.tmp 38) (.const (.int .i64 0))⟩, ⟨some 40, some (36, true), .mov (.tmp 39)⟩, ⟨some 41, some (40, false), .field 2 (.tmp 5)⟩, ⟨some 42, some (40, false), .load false 1 (.tmp 41)⟩, ⟨some 43, some (40, false), .bin .geq (.tmp 42) (.const (.int .i64 16))⟩, ⟨some 44, some (36, true), .pick (.tmp 40) (.const (.bool true)) (.tmp 43)⟩, ⟨some 45, some (32, false), .pick (.tmp 36) (.tmp 44) (.const (.bool false))⟩, ⟨some 46, none, .pick (.tmp 32) (.const (.bool true)) (.tmp 45)⟩])
  (.cond (.tmp 46)
   (.seq (.region [⟨some 6, none, .mov (.const (.int .i64 1))⟩])
   .ret)
   .skip))
  (.seq (.seq (.region [⟨some 47, none, .field 0 (.tmp 5)⟩, ⟨some 48, none, .load false 1 (.tmp 47)⟩, ⟨some 49, none, .bin .eql (.tmp 48) (.const (.int .i64 0))⟩, ⟨some 50, none, .mov (.tmp 49)⟩, ⟨some 51, some (50, true), .field 5 (.tmp 5)⟩, ⟨some 52, some (50, true), .load true 3 (.tmp 51)⟩, ⟨some 53, some (50, true), .call 105 [(.tmp 52)]⟩, ⟨some 54, some (50, true), .not (.tmp 53)⟩, ⟨some 55, none, .pick (.tmp 50) (.tmp 54) (.const (.bool false))⟩])
  (.cond (.tmp 55)
   (.seq (.region [⟨some 6, none, .mov (.const (.int .i64 2))⟩])
   .ret)
   .skip))
  (.seq (.region [⟨some 6, none, .mov (.const (.int .i64 0))⟩])
  .ret))))),
  [.tmp 6]⟩
theorem c101 : cprog Go.Proofs.Try.prog 101 = some C101 := by kernel_rfl
-- dustcart/dustcartref04.Needs
def C102 : CFunc := ⟨(.seq (.region [⟨some 1, none, .box (.tmp 0)⟩, ⟨some 2, none, .mov (.const (.int .i64 0))⟩])
  (.seq (.seq (.region [⟨some 3, none, .field 0 (.tmp 1)⟩, ⟨some 4, none, .load false 1 (.tmp 3)⟩])
  (.block 0 (.seq (.region [⟨some 6, none, .bin .eql (.tmp 4) (.const (.int .i64 1))⟩, ⟨some 5, none, .mov (.tmp 6)⟩])
   (.cond (.tmp 5)
    (.seq (.region [⟨some 7, none, .field 2 (.tmp 1)⟩, ⟨some 8, none, .load false 1 (.tmp 7)⟩, ⟨some 2, none, .mov (.tmp 8)⟩])
    .ret)
    (.seq (.seq (.region [⟨some 10, none, .bin .eql (.tmp 4) (.const (.int .i64 2))⟩, ⟨some 9, none, .mov (.tmp 10)⟩])
    (.cond (.tmp 9)
     .skip
     (.seq (.region [⟨some 11, none, .bin .eql (.tmp 4) (.const (.int .i64 3))⟩, ⟨some 9, none, .mov (.tmp 11)⟩])
     (.cond (.tmp 9)
      .skip
      (.seq (.region [⟨some 12, none, .bin .eql (.tmp 4) (.const (.int .i64 4))⟩, ⟨some 9, none, .mov (.tmp 12)⟩])
      (.cond (.tmp 9)
       .skip
       (.region [⟨some 13, none, .bin .eql (.tmp 4) (.const (.int .i64 11))⟩, ⟨some 9, none, .mov (.tmp 13)⟩])))))))
    (.cond (.tmp 9)
     (.seq (.region [⟨some 14, none, .field 1 (.tmp 1)⟩, ⟨some 15, none, .load false 1 (.tmp 14)⟩, ⟨some 2, none, .mov (.tmp 15)⟩])
     .ret)
     .skip))))))
  (.seq (.region [⟨some 2, none, .mov (.const (.int .i64 (-1)))⟩])
  .ret))),
  [.tmp 2]⟩
theorem c102 : cprog Go.Proofs.Try.prog 102 = some C102 := by kernel_rfl
-- dustcart/dustcartref04.Index
def C103 : CFunc := ⟨(.seq (.region [⟨some 2, none, .box (.tmp 0)⟩, ⟨some 3, none, .box (.tmp 1)⟩, ⟨some 4, none, .mov (.const (.bool false))⟩])
  (.seq (.seq (.region [⟨some 5, none, .field 0 (.tmp 2)⟩, ⟨some 6, none, .load false 1 (.tmp 5)⟩])
  (.block 0 (.seq (.seq (.region [⟨some 8, none, .bin .eql (.tmp 6) (.const (.int .i64 1))⟩, ⟨some 7, none, .mov (.tmp 8)⟩])
   (.cond (.tmp 7)
    .skip
    (.region [⟨some 9, none, .bin .eql (.tmp 6) (.const (.int .i64 2))⟩, ⟨some 7, none, .mov (.tmp 9)⟩])))
   (.cond (.tmp 7)
    (.seq (.region [⟨some 10, none, .field 3 (.tmp 2)⟩, ⟨some 11, none, .load false 1 (.tmp 10)⟩, ⟨some 12, none, .bin .geq (.tmp 11) (.const (.int .i64 0))⟩, ⟨some 13, none, .mov (.tmp 12)⟩, ⟨some 14, some (13, true), .field 3 (.tmp 2)⟩, ⟨some 15, some (13, true), .load false 1 (.tmp 14)⟩, ⟨some 16, some (13, true), .field 0 (.tmp 3)⟩, ⟨some 17, some (13, true), .load false 1 (.tmp 16)⟩, ⟨some 18, some (13, true), .bin .lss (.tmp 15) (.tmp 17)⟩, ⟨some 19, none, .pick (.tmp 13) (.tmp 18) (.const (.bool false))⟩, ⟨some 4, none, .mov (.tmp 19)⟩])
    .ret)
    (.seq (.seq (.region [⟨some 21, none, .bin .eql (.tmp 6) (.const (.int .i64 3))⟩, ⟨some 20, none, .mov (.tmp 21)⟩])
    (.cond (.tmp 20)
     .skip
     (.region [⟨some 22, none, .bin .eql (.tmp 6) (.const (.int .i64 4))⟩, ⟨some 20, none, .mov (.tmp 22)⟩])))
    (.cond (.tmp 20)
     (.seq (.region [⟨some 23, none, .field 3 (.tmp 2)⟩, ⟨some 24, none, .load false 1 (.tmp 23)⟩, ⟨some 25, none, .bin .geq (.tmp 24) (.const (.int .i64 0))⟩, ⟨some 26, none, .mov (.tmp 25)⟩, ⟨some 27, some (26, true), .field 3 (.tmp 2)⟩, ⟨some 28, some (26, true), .load false 1 (.tmp 27)⟩, ⟨some 29, some (26, true), .field 1 (.tmp 3)⟩, ⟨some 30, some (26, true), .load false 1 (.tmp 29)⟩, ⟨some 31, some (26, true), .bin .lss (.tmp 28) (.tmp 30)⟩, ⟨some 32, none, .pick (.tmp 26) (.tmp 31) (.const (.bool false))⟩, ⟨some 4, none, .mov (.tmp 32)⟩])
     .ret)
     (.seq (.seq (.region [⟨some 34, none, .bin .eql (.tmp 6) (.const (.int .i64 9))⟩, ⟨some 33, none, .mov (.tmp 34)⟩])
     (.cond (.tmp 33)
      .skip
      (.region [⟨some 35, none, .bin .eql (.tmp 6) (.const (.int .i64 10))⟩, ⟨some 33, none, .mov (.tmp 35)⟩])))
     (.cond (.tmp 33)
      (.seq (.region [⟨some 36, none, .field 3 (.tmp 2)⟩, ⟨some 37, none, .load false 1 (.tmp 36)⟩, ⟨some 38, none, .bin .geq (.tmp 37) (.const (.int .i64 0))⟩, ⟨some 39, none, .mov (.tmp 38)⟩, ⟨some 40, some (39, true), .field 3 (.tmp 2)⟩, ⟨some 41, some (39, true), .load false 1 (.tmp 40)⟩, ⟨some 42, some (39, true), .bin .lss (.tmp 41) (.const (.int .i64 16))⟩, ⟨some 43, none, .pick (.tmp 39) (.tmp 42) (.const (.bool false))⟩, ⟨some 4, none, .mov (.tmp 43)⟩])
      .ret)
      .skip))))))))
  (.seq (.region [⟨some 4, none, .mov (.const (.bool true))⟩])
  .ret))),
  [.tmp 4]⟩
theorem c103 : cprog Go.Proofs.Try.prog 103 = some C103 := by kernel_rfl
-- dustcart/dustcartref04.UsesB
def C104 : CFunc := ⟨(.seq (.region [⟨some 2, none, .mov (.const (.bool false))⟩])
  (.seq (.region [⟨some 3, none, .mov (.tmp 0)⟩, ⟨some 4, none, .bin .eql (.tmp 3) (.const (.int .i64 1))⟩, ⟨some 5, none, .mov (.tmp 4)⟩, ⟨some 6, some (5, false), .mov (.tmp 0)⟩, ⟨some 7, some (5, false), .bin .eql (.tmp 6) (.const (.int .i64 2))⟩, ⟨some 8, none, .pick (.tmp 5) (.const (.bool true)) (.tmp 7)⟩, ⟨some 9, none, .mov (.tmp 8)⟩, ⟨some 10, some (9, false), .mov (.tmp 0)⟩, ⟨some 11, some (9, false), .bin .eql (.tmp 10) (.const (.int .i64 5))⟩, ⟨some 12, none, .pick (.tmp 9) (.const (.bool true)) (.tmp 11)⟩, ⟨some 13, none, .mov (.tmp 12)⟩, ⟨some 14, some (13, false), .mov (.tmp 0)⟩, ⟨some 15, some (13, false), .bin .eql (.tmp 14) (.const (.int .i64 7))⟩, ⟨some 16, none, .pick (.tmp 13) (.const (.bool true)) (.tmp 15)⟩, ⟨some 2, none, .mov (.tmp 16)⟩])
  .ret)),
  [.tmp 2]⟩
theorem c104 : cprog Go.Proofs.Try.prog 104 = some C104 := by kernel_rfl
-- dustcart/dustcartref02.Valid
def C105 : CFunc := ⟨(.seq (.region [⟨some 1, none, .box (.tmp 0)⟩, ⟨some 2, none, .mov (.const (.bool false))⟩])
  (.seq (.seq (.region [⟨some 3, none, .field 0 (.tmp 1)⟩, ⟨some 4, none, .load false 1 (.tmp 3)⟩, ⟨some 5, none, .bin .lss (.tmp 4) (.const (.int .i64 0))⟩, ⟨some 6, none, .mov (.tmp 5)⟩, ⟨some 7, some (6, false), .field 0 (.tmp 1)⟩, ⟨some 8, some (6, false), .load false 1 (.tmp 7)⟩, ⟨some 9, some (6, false), .bin .gtr (.tmp 8) (.const (.int .i64 15))⟩, ⟨some 10, none, .pick (.tmp 6) (.const (.bool true)) (.tmp 9)⟩, ⟨some 11, none, .mov (.tmp 10)⟩, ⟨some 12, some (11, false), .field 1 (.tmp 1)⟩, ⟨some 13, some (11, false), .load false 1 (.tmp 12)⟩, ⟨some 14, some (11, false), .bin .lss (.tmp 13) (.const (.int .i64 0))⟩, ⟨some 15, none, .pick (.tmp 11) (.const (.bool true)) (.tmp 14)⟩, ⟨some 16, none, .mov (.tmp 15)⟩, ⟨some 17, some (16, false), .field 1 (.tmp 1)⟩, ⟨some 18, some (16, false), .load false 1 (.tmp 17)⟩, ⟨some 19, some (16, false), .bin .gtr (.tmp 18) (.const (.int .i64 200))⟩, ⟨some 20, none, .pick (.tmp 16) (.const (.bool true)) (.tmp 19)⟩])
  (.cond (.tmp 20)
   (.seq (.region [⟨some 2, none, .mov (.const (.bool false))⟩])
   .ret)
   .skip))
  (.seq (.seq (.region [⟨some 21, none, .field 2 (.tmp 1)⟩, ⟨some 22, none, .load false 1 (.tmp 21)⟩])
  (.block 0 (.seq (.seq (.region [⟨some 24, none, .bin .eql (.tmp 22) (.const (.int .i64 0))⟩, ⟨some 23, none, .mov (.tmp 24)⟩])
   (.cond (.tmp 23)
    .skip
    (.region [⟨some 25, none, .bin .eql (.tmp 22) (.const (.int .i64 3))⟩, ⟨some 23, none, .mov (.tmp 25)⟩])))
   (.cond (.tmp 23)
    (.seq (.region [⟨some 2, none, .mov (.const (.bool true))⟩])
    .ret)
    (.seq (.region [⟨some 27, none, .bin .eql (.tmp 22) (.const (.int .i64 1))⟩, ⟨some 26, none, .mov (.tmp 27)⟩])
    (.cond (.tmp 26)
     (.seq (.region [⟨some 28, none, .field 0 (.tmp 1)⟩, ⟨some 29, none, .load false 1 (.tmp 28)⟩, ⟨some 30, none, .bin .geq (.tmp 29) (.const (.int .i64 1))⟩, ⟨some 2, none, .mov (.tmp 30)⟩])
     .ret)
     (.seq (.region [⟨some 32, none, .bin .eql (.tmp 22) (.const (.int .i64 2))⟩, ⟨some 31, none, .mov (.tmp 32)⟩])
     (.cond (.tmp 31)
      (.seq (.region [⟨some 33, none, .field 0 (.tmp 1)⟩, ⟨some 34, none, .load false 1 (.tmp 33)⟩, ⟨some 35, none, .bin .geq (.tmp 34) (.const (.int .i64 2))⟩, ⟨some 2, none, .mov (.tmp 35)⟩])
      .ret)
      .skip))))))))
  (.seq (.region [⟨some 2, none, .mov (.const (.bool false))⟩])
  .ret)))),
  [.tmp 2]⟩
theorem c105 : cprog Go.Proofs.Try.prog 105 = some C105 := by kernel_rfl
end Go.Cs.Try

/- What the functions of the model that only read return. -/
namespace Go.Cs.Try
open Go Go.Cs
set_option maxRecDepth 100000
noncomputable abbrev P : CProg := cprog Go.Proofs.Try.prog
section
variable {o : Tags} {g : Nat} {H : CHeap} {b : Nat} {M : Mdl} {L : Lay}

theorem f48 {H : CHeap} {n : Int} : run P 48 [.i n] H = some (.bool (decide (0 ≤ n ∧ n < 16)), H) := by
  rw [run_lv c48]
  by_cases h0 : 0 ≤ n
  · by_cases h1 : n < 16
    · simp (disch := first | omega | rfl | assumption | (simp only [csN, Nat.reduceAdd, Nat.reduceMul, Nat.reduceLeDiff, Nat.reduceEqDiff] <;> omega) | (simp only [csF]; done) | (simp only [csF] <;> assumption) | fail) only [Nat.reduceEqDiff, Nat.reduceAdd, Nat.reduceMul, Nat.reduceSub, Nat.reduceLeDiff, Int.reduceAdd, Int.reduceSub, Int.reduceMul, Int.reduceLT, Int.reduceLE, Int.reduceGT, Int.reduceGE, Int.reduceEq, Int.reduceBEq, Int.reduceBNe, Int.reduceNeg, Int.reduceToNat, csAll, ↓reduceIte, C48, entry_1]; simp [h0, h1]
    · simp (disch := first | omega | rfl | assumption | (simp only [csN, Nat.reduceAdd, Nat.reduceMul, Nat.reduceLeDiff, Nat.reduceEqDiff] <;> omega) | (simp only [csF]; done) | (simp only [csF] <;> assumption) | fail) only [Nat.reduceEqDiff, Nat.reduceAdd, Nat.reduceMul, Nat.reduceSub, Nat.reduceLeDiff, Int.reduceAdd, Int.reduceSub, Int.reduceMul, Int.reduceLT, Int.reduceLE, Int.reduceGT, Int.reduceGE, Int.reduceEq, Int.reduceBEq, Int.reduceBNe, Int.reduceNeg, Int.reduceToNat, csAll, ↓reduceIte, C48, entry_1]; simp [h0, h1]
  · simp (disch := first | omega | rfl | assumption | (simp only [csN, Nat.reduceAdd, Nat.reduceMul, Nat.reduceLeDiff, Nat.reduceEqDiff] <;> omega) | (simp only [csF]; done) | (simp only [csF] <;> assumption) | fail) only [Nat.reduceEqDiff, Nat.reduceAdd, Nat.reduceMul, Nat.reduceSub, Nat.reduceLeDiff, Int.reduceAdd, Int.reduceSub, Int.reduceMul, Int.reduceLT, Int.reduceLE, Int.reduceGT, Int.reduceGE, Int.reduceEq, Int.reduceBEq, Int.reduceBNe, Int.reduceNeg, Int.reduceToNat, csAll, ↓reduceIte, C48, entry_1]; simp [h0]

theorem f41 (m : MRep o g H b M L) (w : M.Ok) : run P 41 [.ptr b 0] H = some (.bool true, H) := by
  have h1 := m.cells
  have h2 := m.slots.len
  have h3 := w.ns
  rw [run_lv c41]
  simp (disch := first | omega | rfl | assumption | (simp only [csN, Nat.reduceAdd, Nat.reduceMul, Nat.reduceLeDiff, Nat.reduceEqDiff] <;> omega) | (simp only [csF]; done) | (simp only [csF] <;> assumption) | fail) only [Nat.reduceEqDiff, Nat.reduceAdd, Nat.reduceMul, Nat.reduceSub, Nat.reduceLeDiff, Int.reduceAdd, Int.reduceSub, Int.reduceMul, Int.reduceLT, Int.reduceLE, Int.reduceGT, Int.reduceGE, Int.reduceEq, Int.reduceBEq, Int.reduceBNe, Int.reduceNeg, Int.reduceToNat, csAll, ↓reduceIte, C41, entry_1, h1, h2]

theorem f22 (m : MRep o g H b M L) (w : M.Ok) : run P 22 [.ptr b 0] H = some (.i M.slots.length, H) := by
  have h1 := m.cells
  have h2 := m.slots.len
  have h4 := f41 m w
  rw [run_lv c22]
  simp (disch := first | omega | rfl | assumption | (simp only [csN, Nat.reduceAdd, Nat.reduceMul, Nat.reduceLeDiff, Nat.reduceEqDiff] <;> omega) | (simp only [csF]; done) | (simp only [csF] <;> assumption) | fail) only [Nat.reduceEqDiff, Nat.reduceAdd, Nat.reduceMul, Nat.reduceSub, Nat.reduceLeDiff, Int.reduceAdd, Int.reduceSub, Int.reduceMul, Int.reduceLT, Int.reduceLE, Int.reduceGT, Int.reduceGE, Int.reduceEq, Int.reduceBEq, Int.reduceBNe, Int.reduceNeg, Int.reduceToNat, csAll, ↓reduceIte, C22, entry_1, h1, h2, h4]

theorem f23 (m : MRep o g H b M L) (w : M.Ok) : run P 23 [.ptr b 0] H = some (.i M.objs.length, H) := by
  have h1 := m.cells
  have h2 := m.objs.len
  have h4 := f41 m w
  rw [run_lv c23]
  simp (disch := first | omega | rfl | assumption | (simp only [csN, Nat.reduceAdd, Nat.reduceMul, Nat.reduceLeDiff, Nat.reduceEqDiff] <;> omega) | (simp only [csF]; done) | (simp only [csF] <;> assumption) | fail) only [Nat.reduceEqDiff, Nat.reduceAdd, Nat.reduceMul, Nat.reduceSub, Nat.reduceLeDiff, Int.reduceAdd, Int.reduceSub, Int.reduceMul, Int.reduceLT, Int.reduceLE, Int.reduceGT, Int.reduceGE, Int.reduceEq, Int.reduceBEq, Int.reduceBNe, Int.reduceNeg, Int.reduceToNat, csAll, ↓reduceIte, C23, entry_1, h1, h2, h4]

theorem f25 (m : MRep o g H b M L) (w : M.Ok) (mu i : Int) : run P 25 [.ptr b 0, .i mu, .i i] H = some (pair2 (M.slotAt mu i), H) := by
  have h1 := m.cells
  have h2 := m.slots.len
  have h4 := f41 m w
  rw [run_lv c25]
  by_cases c : 0 ≤ mu ∧ mu < M.slots.length ∧ 0 ≤ i ∧ i < 16
  · obtain ⟨c1, c2, c3, c4⟩ := c
    have hs := getD_of (l := M.slots) (i := mu.toNat) [] (by omega)
    obtain ⟨v, hv, ha⟩ := m.slot _ _ hs
    obtain ⟨tl, e1, e2, e3, e4⟩ := m.slots.pos (by omega)
    obtain ⟨tl', d1, d2, d3, d4⟩ := ha.pos (by omega)
    have hx := getD_of (l := M.slots.getD mu.toNat []) (i := i.toNat) 0 (by have := (w.s16 _ (List.mem_of_getElem? hs)).1; omega)
    have hx' := ints_get (M.slots.getD mu.toNat []) i.toNat
    rw [hx] at hx'
    rw [e1] at h1 h2
    rw [d1] at hv
    have hc : decide (0 ≤ i ∧ i < 16) = true := by simp [c3, c4]
    have hp : M.slotAt mu i = ((M.slots.getD mu.toNat []).getD i.toNat 0, 0) := by unfold Mdl.slotAt; rw [if_pos ⟨c1, c2, c3, c4⟩]
    simp (disch := first | omega | rfl | assumption | (simp only [csN, Nat.reduceAdd, Nat.reduceMul, Nat.reduceLeDiff, Nat.reduceEqDiff] <;> omega) | (simp only [csF]; done) | (simp only [csF] <;> assumption) | fail) only [Nat.reduceEqDiff, Nat.reduceAdd, Nat.reduceMul, Nat.reduceSub, Nat.reduceLeDiff, Int.reduceAdd, Int.reduceSub, Int.reduceMul, Int.reduceLT, Int.reduceLE, Int.reduceGT, Int.reduceGE, Int.reduceEq, Int.reduceBEq, Int.reduceBNe, Int.reduceNeg, Int.reduceToNat, csAll, ↓reduceIte, C25, entry_3, h1, h2, h4, f48, hc, e3, hv, d3, hx', pair2, hp]
  · have hp : pair2 (M.slotAt mu i) = .tup [.i 0, .i 1] := by unfold Mdl.slotAt pair2; rw [if_neg c]
    rw [hp]
    by_cases c1 : 0 ≤ mu
    · by_cases c2 : mu < M.slots.length
      · have hc : decide (0 ≤ i ∧ i < 16) = false := by
          simp only [decide_eq_false_iff_not]; intro hh; exact c ⟨c1, c2, hh⟩
        simp (disch := first | omega | rfl | assumption | (simp only [csN, Nat.reduceAdd, Nat.reduceMul, Nat.reduceLeDiff, Nat.reduceEqDiff] <;> omega) | (simp only [csF]; done) | (simp only [csF] <;> assumption) | fail) only [Nat.reduceEqDiff, Nat.reduceAdd, Nat.reduceMul, Nat.reduceSub, Nat.reduceLeDiff, Int.reduceAdd, Int.reduceSub, Int.reduceMul, Int.reduceLT, Int.reduceLE, Int.reduceGT, Int.reduceGE, Int.reduceEq, Int.reduceBEq, Int.reduceBNe, Int.reduceNeg, Int.reduceToNat, csAll, ↓reduceIte, C25, entry_3, h1, h2, h4, f48, hc]
      · simp (disch := first | omega | rfl | assumption | (simp only [csN, Nat.reduceAdd, Nat.reduceMul, Nat.reduceLeDiff, Nat.reduceEqDiff] <;> omega) | (simp only [csF]; done) | (simp only [csF] <;> assumption) | fail) only [Nat.reduceEqDiff, Nat.reduceAdd, Nat.reduceMul, Nat.reduceSub, Nat.reduceLeDiff, Int.reduceAdd, Int.reduceSub, Int.reduceMul, Int.reduceLT, Int.reduceLE, Int.reduceGT, Int.reduceGE, Int.reduceEq, Int.reduceBEq, Int.reduceBNe, Int.reduceNeg, Int.reduceToNat, csAll, ↓reduceIte, C25, entry_3, h1, h2, h4, f48]
    · simp (disch := first | omega | rfl | assumption | (simp only [csN, Nat.reduceAdd, Nat.reduceMul, Nat.reduceLeDiff, Nat.reduceEqDiff] <;> omega) | (simp only [csF]; done) | (simp only [csF] <;> assumption) | fail) only [Nat.reduceEqDiff, Nat.reduceAdd, Nat.reduceMul, Nat.reduceSub, Nat.reduceLeDiff, Int.reduceAdd, Int.reduceSub, Int.reduceMul, Int.reduceLT, Int.reduceLE, Int.reduceGT, Int.reduceGE, Int.reduceEq, Int.reduceBEq, Int.reduceBNe, Int.reduceNeg, Int.reduceToNat, csAll, ↓reduceIte, C25, entry_3, h1, h2, h4, f48]

theorem f37 (m : MRep o g H b M L) (w : M.Ok) (i : Int) : run P 37 [.ptr b 0, .i i] H = some (pair2 (M.globalAt i), H) := by
  have h1 := m.cells
  have h4 := f41 m w
  rw [run_lv c37]
  by_cases c : 0 ≤ i ∧ i < 16
  · obtain ⟨c3, c4⟩ := c
    obtain ⟨tl, e1, e2, e3, e4⟩ := m.globals.pos (by omega)
    have hx := getD_of (l := M.globals) (i := i.toNat) 0 (by have := w.g16.1; omega)
    have hx' := ints_get M.globals i.toNat
    rw [hx] at hx'
    rw [e1] at h1
    have hp : M.globalAt i = (M.globals.getD i.toNat 0, 0) := by unfold Mdl.globalAt; rw [if_pos ⟨c3, c4⟩]
    simp (disch := first | omega | rfl | assumption | (simp only [csN, Nat.reduceAdd, Nat.reduceMul, Nat.reduceLeDiff, Nat.reduceEqDiff] <;> omega) | (simp only [csF]; done) | (simp only [csF] <;> assumption) | fail) only [Nat.reduceEqDiff, Nat.reduceAdd, Nat.reduceMul, Nat.reduceSub, Nat.reduceLeDiff, Int.reduceAdd, Int.reduceSub, Int.reduceMul, Int.reduceLT, Int.reduceLE, Int.reduceGT, Int.reduceGE, Int.reduceEq, Int.reduceBEq, Int.reduceBNe, Int.reduceNeg, Int.reduceToNat, csAll, ↓reduceIte, C37, entry_2, h1, h4, e3, hx', pair2, hp]
  · have hp : pair2 (M.globalAt i) = .tup [.i 0, .i 1] := by unfold Mdl.globalAt pair2; rw [if_neg c]
    rw [hp]
    by_cases c1 : 0 ≤ i
    · simp (disch := first | omega | rfl | assumption | (simp only [csN, Nat.reduceAdd, Nat.reduceMul, Nat.reduceLeDiff, Nat.reduceEqDiff] <;> omega) | (simp only [csF]; done) | (simp only [csF] <;> assumption) | fail) only [Nat.reduceEqDiff, Nat.reduceAdd, Nat.reduceMul, Nat.reduceSub, Nat.reduceLeDiff, Int.reduceAdd, Int.reduceSub, Int.reduceMul, Int.reduceLT, Int.reduceLE, Int.reduceGT, Int.reduceGE, Int.reduceEq, Int.reduceBEq, Int.reduceBNe, Int.reduceNeg, Int.reduceToNat, csAll, ↓reduceIte, C37, entry_2, h1, h4]
    · simp (disch := first | omega | rfl | assumption | (simp only [csN, Nat.reduceAdd, Nat.reduceMul, Nat.reduceLeDiff, Nat.reduceEqDiff] <;> omega) | (simp only [csF]; done) | (simp only [csF] <;> assumption) | fail) only [Nat.reduceEqDiff, Nat.reduceAdd, Nat.reduceMul, Nat.reduceSub, Nat.reduceLeDiff, Int.reduceAdd, Int.reduceSub, Int.reduceMul, Int.reduceLT, Int.reduceLE, Int.reduceGT, Int.reduceGE, Int.reduceEq, Int.reduceBEq, Int.reduceBNe, Int.reduceNeg, Int.reduceToNat, csAll, ↓reduceIte, C37, entry_2, h1, h4]

theorem f45 (m : MRep o g H b M L) (w : M.Ok) (n : Int) : run P 45 [.ptr b 0, .i n] H = some (.bool (decide (M.has n)), H) := by
  have h1 := m.cells
  have h2 := m.objs.len
  have h4 := f41 m w
  rw [run_lv c45]
  by_cases c : 1 ≤ n
  · by_cases c' : n ≤ M.objs.length
    · have : decide (M.has n) = true := by simp [Mdl.has, c, c']
      simp (disch := first | omega | rfl | assumption | (simp only [csN, Nat.reduceAdd, Nat.reduceMul, Nat.reduceLeDiff, Nat.reduceEqDiff] <;> omega) | (simp only [csF]; done) | (simp only [csF] <;> assumption) | fail) only [Nat.reduceEqDiff, Nat.reduceAdd, Nat.reduceMul, Nat.reduceSub, Nat.reduceLeDiff, Int.reduceAdd, Int.reduceSub, Int.reduceMul, Int.reduceLT, Int.reduceLE, Int.reduceGT, Int.reduceGE, Int.reduceEq, Int.reduceBEq, Int.reduceBNe, Int.reduceNeg, Int.reduceToNat, csAll, ↓reduceIte, C45, entry_2, h1, h2, h4, this]
    · have : decide (M.has n) = false := by simp [Mdl.has, c, c']
      simp (disch := first | omega | rfl | assumption | (simp only [csN, Nat.reduceAdd, Nat.reduceMul, Nat.reduceLeDiff, Nat.reduceEqDiff] <;> omega) | (simp only [csF]; done) | (simp only [csF] <;> assumption) | fail) only [Nat.reduceEqDiff, Nat.reduceAdd, Nat.reduceMul, Nat.reduceSub, Nat.reduceLeDiff, Int.reduceAdd, Int.reduceSub, Int.reduceMul, Int.reduceLT, Int.reduceLE, Int.reduceGT, Int.reduceGE, Int.reduceEq, Int.reduceBEq, Int.reduceBNe, Int.reduceNeg, Int.reduceToNat, csAll, ↓reduceIte, C45, entry_2, h1, h2, h4, this]
  · have : decide (M.has n) = false := by simp [Mdl.has, c]
    simp (disch := first | omega | rfl | assumption | (simp only [csN, Nat.reduceAdd, Nat.reduceMul, Nat.reduceLeDiff, Nat.reduceEqDiff] <;> omega) | (simp only [csF]; done) | (simp only [csF] <;> assumption) | fail) only [Nat.reduceEqDiff, Nat.reduceAdd, Nat.reduceMul, Nat.reduceSub, Nat.reduceLeDiff, Int.reduceAdd, Int.reduceSub, Int.reduceMul, Int.reduceLT, Int.reduceLE, Int.reduceGT, Int.reduceGE, Int.reduceEq, Int.reduceBEq, Int.reduceBNe, Int.reduceNeg, Int.reduceToNat, csAll, ↓reduceIte, C45, entry_2, h1, h2, h4, this]

theorem f74 (m : MRep o g H b M L) (w : M.Ok) (n : Int) (c : M.has n) : run P 74 [.ptr b 0, .i n] H = some (.ptr (blkOf L.ov) ((n - 1).toNat * 5), H) := by
  have h1 := m.cells
  unfold Mdl.has at c
  have hf : (M.objs.length : Int) ≤ M.objs.length := by omega
  obtain ⟨tl, e1, e2, e3, e4⟩ := m.objs.pos (by omega)
  rw [e1] at h1
  rw [run_lv c74]
  have hw : IntKind.i64.wrap (n - 1) = n - 1 := by
    have h5 := lt_of_get e3
    apply wrap_id
    have := w.few
    omega
  simp (disch := first | omega | rfl | assumption | (simp only [csN, Nat.reduceAdd, Nat.reduceMul, Nat.reduceLeDiff, Nat.reduceEqDiff] <;> omega) | (simp only [csF]; done) | (simp only [csF] <;> assumption) | fail) only [Nat.reduceEqDiff, Nat.reduceAdd, Nat.reduceMul, Nat.reduceSub, Nat.reduceLeDiff, Int.reduceAdd, Int.reduceSub, Int.reduceMul, Int.reduceLT, Int.reduceLE, Int.reduceGT, Int.reduceGE, Int.reduceEq, Int.reduceBEq, Int.reduceBNe, Int.reduceNeg, Int.reduceToNat, csAll, ↓reduceIte, C74, entry_2, h1, hw]
end
end Go.Cs.Try

/- What the functions of the model that ask of an object return. -/
namespace Go.Cs.Try
open Go Go.Cs
set_option maxRecDepth 100000
section
variable {o : Tags} {g : Nat} {H : CHeap} {b : Nat} {M : Mdl} {L : Lay}

theorem f43_yes (m : MRep o g H b M L) (w : M.Ok) (n : Int) (c : M.has n) : run P 43 [.ptr b 0, .i n] H = some (.tup [.ptr (blkOf L.ov) ((n - 1).toNat * 5), .i 0], H) := by
  have h1 := f41 m w
  have h2 := f45 m w n
  have h3 := f74 m w n c
  have h4 : decide (M.has n) = true := by simp [c]
  rw [run_lv c43]
  simp (disch := first | omega | rfl | assumption | (simp only [csN, Nat.reduceAdd, Nat.reduceMul, Nat.reduceLeDiff, Nat.reduceEqDiff] <;> omega) | (simp only [csF]; done) | (simp only [csF] <;> assumption) | fail) only [Nat.reduceEqDiff, Nat.reduceAdd, Nat.reduceMul, Nat.reduceSub, Nat.reduceLeDiff, Int.reduceAdd, Int.reduceSub, Int.reduceMul, Int.reduceLT, Int.reduceLE, Int.reduceGT, Int.reduceGE, Int.reduceEq, Int.reduceBEq, Int.reduceBNe, Int.reduceNeg, Int.reduceToNat, csAll, ↓reduceIte, C43, entry_2, h1, h2, h3, h4]

theorem f43_no (m : MRep o g H b M L) (w : M.Ok) (n : Int) (c : ¬ M.has n) : run P 43 [.ptr b 0, .i n] H = some (.tup [.nilPtr, .i 4], H) := by
  have h1 := f41 m w
  have h2 := f45 m w n
  have h4 : decide (M.has n) = false := by simp [c]
  rw [run_lv c43]
  simp (disch := first | omega | rfl | assumption | (simp only [csN, Nat.reduceAdd, Nat.reduceMul, Nat.reduceLeDiff, Nat.reduceEqDiff] <;> omega) | (simp only [csF]; done) | (simp only [csF] <;> assumption) | fail) only [Nat.reduceEqDiff, Nat.reduceAdd, Nat.reduceMul, Nat.reduceSub, Nat.reduceLeDiff, Int.reduceAdd, Int.reduceSub, Int.reduceMul, Int.reduceLT, Int.reduceLE, Int.reduceGT, Int.reduceGE, Int.reduceEq, Int.reduceBEq, Int.reduceBNe, Int.reduceNeg, Int.reduceToNat, csAll, ↓reduceIte, C43, entry_2, h1, h2, h4]

theorem f44 {t : Tag} {v : CV} {l : List Int} (a : At o t H v 1 l.length (ints l)) (i : Int) : run P 44 [v, .i i] H = some (pair2 (elAt l i), H) := by
  have h1 := a.len
  rw [run_lv c44]
  by_cases c : 0 ≤ i ∧ i < (l.length : Int)
  · obtain ⟨c1, c2⟩ := c
    obtain ⟨tl, e1, e2, e3, e4⟩ := a.pos (by omega)
    have hx := getD_of (l := l) (i := i.toNat) 0 (by omega)
    have hx' := ints_get l i.toNat
    rw [hx] at hx'
    have hp : elAt l i = (l.getD i.toNat 0, 0) := by unfold elAt; rw [if_pos ⟨c1, c2⟩]
    rw [e1] at h1 ⊢
    simp (disch := first | omega | rfl | assumption | (simp only [csN, Nat.reduceAdd, Nat.reduceMul, Nat.reduceLeDiff, Nat.reduceEqDiff] <;> omega) | (simp only [csF]; done) | (simp only [csF] <;> assumption) | fail) only [Nat.reduceEqDiff, Nat.reduceAdd, Nat.reduceMul, Nat.reduceSub, Nat.reduceLeDiff, Int.reduceAdd, Int.reduceSub, Int.reduceMul, Int.reduceLT, Int.reduceLE, Int.reduceGT, Int.reduceGE, Int.reduceEq, Int.reduceBEq, Int.reduceBNe, Int.reduceNeg, Int.reduceToNat, csAll, ↓reduceIte, C44, entry_2, h1, e3, hx', hp, pair2]
  · have hp : elAt l i = (0, 1) := by unfold elAt; rw [if_neg c]
    by_cases c1 : 0 ≤ i
    · simp (disch := first | omega | rfl | assumption | (simp only [csN, Nat.reduceAdd, Nat.reduceMul, Nat.reduceLeDiff, Nat.reduceEqDiff] <;> omega) | (simp only [csF]; done) | (simp only [csF] <;> assumption) | fail) only [Nat.reduceEqDiff, Nat.reduceAdd, Nat.reduceMul, Nat.reduceSub, Nat.reduceLeDiff, Int.reduceAdd, Int.reduceSub, Int.reduceMul, Int.reduceLT, Int.reduceLE, Int.reduceGT, Int.reduceGE, Int.reduceEq, Int.reduceBEq, Int.reduceBNe, Int.reduceNeg, Int.reduceToNat, csAll, ↓reduceIte, C44, entry_2, h1, hp, pair2]
    · simp (disch := first | omega | rfl | assumption | (simp only [csN, Nat.reduceAdd, Nat.reduceMul, Nat.reduceLeDiff, Nat.reduceEqDiff] <;> omega) | (simp only [csF]; done) | (simp only [csF] <;> assumption) | fail) only [Nat.reduceEqDiff, Nat.reduceAdd, Nat.reduceMul, Nat.reduceSub, Nat.reduceLeDiff, Int.reduceAdd, Int.reduceSub, Int.reduceMul, Int.reduceLT, Int.reduceLE, Int.reduceGT, Int.reduceGE, Int.reduceEq, Int.reduceBEq, Int.reduceBNe, Int.reduceNeg, Int.reduceToNat, csAll, ↓reduceIte, C44, entry_2, h1, hp, pair2]

def shape3 (s : Int × Int × Int) : List CV := [.i s.1, .i s.2.1, .i s.2.2]

theorem drop_get {l : List CV} {k i : Nat} : l[k + i]? = (l.drop k)[i]? := by rw [List.getElem?_drop]

theorem f15 (m : MRep o g H b M L) (w : M.Ok) (n : Int) : run P 15 [.ptr b 0, .i n] H = some (.tup [.agg (shape3 (M.shapeAt n).1), .i (M.shapeAt n).2], H ++ [⟨shape3 (M.shapeAt n).1, .rw, 0⟩]) := by
  have m' := m.app [⟨[.i 0, .i 0, .i 0], .rw, 0⟩]
  rw [run_lv c15]
  by_cases c : M.has n
  · have h1 := f43_yes m' w n c
    obtain ⟨h, rest, -, h2, h3, h4, -, -, -⟩ := m'.objAt n c
    have hl := lt_of_get h2
    have hd := m.dom _ _ m.top
    have h5 : blkOf L.ov < H.length := by
      obtain ⟨_, _, _, e3, _, _, e, _⟩ := m.objAt n c
      exact m.dom _ _ e
    rw [List.getElem?_append_left h5] at h2
    have hp : M.shapeAt n = (((M.obj n).nr, (M.obj n).nd, (M.obj n).kd), 0) := by unfold Mdl.shapeAt; rw [if_pos c]
    simp (disch := first | omega | rfl | assumption | (simp only [csN, Nat.reduceAdd, Nat.reduceMul, Nat.reduceLeDiff, Nat.reduceEqDiff] <;> omega) | (simp only [csF]; done) | (simp only [csF] <;> assumption) | fail) only [Nat.reduceEqDiff, Nat.reduceAdd, Nat.reduceMul, Nat.reduceSub, Nat.reduceLeDiff, Int.reduceAdd, Int.reduceSub, Int.reduceMul, Int.reduceLT, Int.reduceLE, Int.reduceGT, Int.reduceGE, Int.reduceEq, Int.reduceBEq, Int.reduceBNe, Int.reduceNeg, Int.reduceToNat, csAll, ↓reduceIte, C15, entry_2, h1, h2, h3, hp, shape3]
  · have h1 := f43_no m' w n c
    have hp : M.shapeAt n = ((0, 0, 0), 4) := by unfold Mdl.shapeAt; rw [if_neg c]
    simp (disch := first | omega | rfl | assumption | (simp only [csN, Nat.reduceAdd, Nat.reduceMul, Nat.reduceLeDiff, Nat.reduceEqDiff] <;> omega) | (simp only [csF]; done) | (simp only [csF] <;> assumption) | fail) only [Nat.reduceEqDiff, Nat.reduceAdd, Nat.reduceMul, Nat.reduceSub, Nat.reduceLeDiff, Int.reduceAdd, Int.reduceSub, Int.reduceMul, Int.reduceLT, Int.reduceLE, Int.reduceGT, Int.reduceGE, Int.reduceEq, Int.reduceBEq, Int.reduceBNe, Int.reduceNeg, Int.reduceToNat, csAll, ↓reduceIte, C15, entry_2, h1, hp, shape3]

theorem f16 (m : MRep o g H b M L) (w : M.Ok) (n i : Int) : run P 16 [.ptr b 0, .i n, .i i] H = some (pair2 (M.refAt n i), H) := by
  rw [run_lv c16]
  by_cases c : M.has n
  · have h1 := f43_yes m w n c
    obtain ⟨h, rest, -, h2, h3, h4, -, h6, h7⟩ := m.objAt n c
    have h5 := f44 h6 i
    have hp : M.refAt n i = elAt (M.obj n).refs i := by unfold Mdl.refAt; rw [if_pos c]
    simp (disch := first | omega | rfl | assumption | (simp only [csN, Nat.reduceAdd, Nat.reduceMul, Nat.reduceLeDiff, Nat.reduceEqDiff] <;> omega) | (simp only [csF]; done) | (simp only [csF] <;> assumption) | fail) only [Nat.reduceEqDiff, Nat.reduceAdd, Nat.reduceMul, Nat.reduceSub, Nat.reduceLeDiff, Int.reduceAdd, Int.reduceSub, Int.reduceMul, Int.reduceLT, Int.reduceLE, Int.reduceGT, Int.reduceGE, Int.reduceEq, Int.reduceBEq, Int.reduceBNe, Int.reduceNeg, Int.reduceToNat, csAll, ↓reduceIte, C16, entry_3, h1, h2, drop_get, h3, h5, hp, pair2]
  · have h1 := f43_no m w n c
    have hp : M.refAt n i = (0, 4) := by unfold Mdl.refAt; rw [if_neg c]
    simp (disch := first | omega | rfl | assumption | (simp only [csN, Nat.reduceAdd, Nat.reduceMul, Nat.reduceLeDiff, Nat.reduceEqDiff] <;> omega) | (simp only [csF]; done) | (simp only [csF] <;> assumption) | fail) only [Nat.reduceEqDiff, Nat.reduceAdd, Nat.reduceMul, Nat.reduceSub, Nat.reduceLeDiff, Int.reduceAdd, Int.reduceSub, Int.reduceMul, Int.reduceLT, Int.reduceLE, Int.reduceGT, Int.reduceGE, Int.reduceEq, Int.reduceBEq, Int.reduceBNe, Int.reduceNeg, Int.reduceToNat, csAll, ↓reduceIte, C16, entry_3, h1, hp, pair2]

theorem f47 (m : MRep o g H b M L) (w : M.Ok) (n i : Int) : run P 47 [.ptr b 0, .i n, .i i] H = some (pair2 (M.dataAt n i), H) := by
  rw [run_lv c47]
  by_cases c : M.has n
  · have h1 := f43_yes m w n c
    obtain ⟨h, rest, -, h2, h3, h4, -, h6, h7⟩ := m.objAt n c
    have h5 := f44 h7 i
    have hp : M.dataAt n i = elAt (M.obj n).data i := by unfold Mdl.dataAt; rw [if_pos c]
    simp (disch := first | omega | rfl | assumption | (simp only [csN, Nat.reduceAdd, Nat.reduceMul, Nat.reduceLeDiff, Nat.reduceEqDiff] <;> omega) | (simp only [csF]; done) | (simp only [csF] <;> assumption) | fail) only [Nat.reduceEqDiff, Nat.reduceAdd, Nat.reduceMul, Nat.reduceSub, Nat.reduceLeDiff, Int.reduceAdd, Int.reduceSub, Int.reduceMul, Int.reduceLT, Int.reduceLE, Int.reduceGT, Int.reduceGE, Int.reduceEq, Int.reduceBEq, Int.reduceBNe, Int.reduceNeg, Int.reduceToNat, csAll, ↓reduceIte, C47, entry_3, h1, h2, drop_get, h3, h5, hp, pair2]
  · have h1 := f43_no m w n c
    have hp : M.dataAt n i = (0, 4) := by unfold Mdl.dataAt; rw [if_neg c]
    simp (disch := first | omega | rfl | assumption | (simp only [csN, Nat.reduceAdd, Nat.reduceMul, Nat.reduceLeDiff, Nat.reduceEqDiff] <;> omega) | (simp only [csF]; done) | (simp only [csF] <;> assumption) | fail) only [Nat.reduceEqDiff, Nat.reduceAdd, Nat.reduceMul, Nat.reduceSub, Nat.reduceLeDiff, Int.reduceAdd, Int.reduceSub, Int.reduceMul, Int.reduceLT, Int.reduceLE, Int.reduceGT, Int.reduceGE, Int.reduceEq, Int.reduceBEq, Int.reduceBNe, Int.reduceNeg, Int.reduceToNat, csAll, ↓reduceIte, C47, entry_3, h1, hp, pair2]
end
end Go.Cs.Try

/- Changes of a model, and how they are kept in the clean heap. -/
namespace Go.Cs
open Go

/-! ### What a call may change -/

structure Frm (g : Nat) (o : Tags) (H : CHeap) (o' : Tags) (H' : CHeap) : Prop where
  len : H.length ≤ H'.length
  tag : ∀ c, c < H.length → o' c = o c
  new : ∀ c t, o' c = some t → H.length ≤ c → t.1 = g
  keep : ∀ c, c < H.length → (∀ k, o c ≠ some (g, k)) → H'[c]? = H[c]?

theorem Frm.trans {g : Nat} {o o' o'' : Tags} {H H' H'' : CHeap} (a : Frm g o H o' H') (c : Frm g o' H' o'' H'') : Frm g o H o'' H'' where
  len := Nat.le_trans a.len c.len
  tag := fun x h => by rw [c.tag x (Nat.lt_of_lt_of_le h a.len), a.tag x h]
  new := fun x t h hx => by
    by_cases hl : x < H'.length
    · rw [c.tag x hl] at h; exact a.new x t h hx
    · exact c.new x t h (by omega)
  keep := fun x h hk => by
    have := Nat.lt_of_lt_of_le h a.len
    rw [c.keep x this (by rw [a.tag x h]; exact hk), a.keep x h hk]

theorem Frm.refl {g : Nat} {o : Tags} {H : CHeap} (hd : ∀ c t, o c = some t → c < H.length) : Frm g o H o H :=
  ⟨Nat.le_refl _, fun _ _ => rfl, fun c t h hc => by have := hd c t h; omega, fun _ _ _ => rfl⟩

theorem Frm.grow {g : Nat} {o : Tags} {H H' : CHeap} (hd : ∀ c t, o c = some t → c < H.length) (hl : H.length ≤ H'.length) (hk : ∀ c, c < H.length → H'[c]? = H[c]?) : Frm g o H o H' :=
  ⟨hl, fun _ _ => rfl, fun c t h hc => by have := hd c t h; omega, fun c h _ => hk c h⟩

/-- Another model is not touched. -/
theorem MRep.other {o o' : Tags} {g g' : Nat} {H H' : CHeap} {b : Nat} {M : Mdl} {L : Lay} (m : MRep o g H b M L) (f : Frm g' o H o' H') (hg : g ≠ g') (hd : ∀ c t, o' c = some t → c < H'.length) : MRep o' g H' b M L :=
  m.frame hd (fun c k h => by rw [f.tag c (m.dom c _ h), h]) (fun c k h => f.keep c (m.dom c _ h) (by intro k' h'; rw [h] at h'; simp only [Option.some.injEq, Prod.mk.injEq] at h'; exact hg h'.1))

/-- What a call that changes a model comes to. -/
def Does (o : Tags) (g : Nat) (H : CHeap) (b : Nat) (M' : Mdl) (v : CV) (r : Option (CV × CHeap)) : Prop :=
  ∃ H' o' L', r = some (v, H') ∧ MRep o' g H' b M' L' ∧ Frm g o H o' H'

/-! ### Changes -/

theorem objCells_set : ∀ (xs : List Obj) (hs : List (CV × CV)) (j : Nat) (x x' : Obj), xs[j]? = some x → x'.nr = x.nr → x'.nd = x.nd → x'.kd = x.kd → objCells (xs.set j x') hs = objCells xs hs
  | [], _, j, _, _, e, _, _, _ => by simp at e
  | y :: ys, [], 0, _, _, _, _, _, _ => rfl
  | y :: ys, [], j + 1, _, _, _, _, _, _ => rfl
  | y :: ys, h :: hs, 0, x, x', e, e1, e2, e3 => by
    simp only [List.getElem?_cons_zero, Option.some.injEq] at e
    subst e
    simp only [List.set_cons_zero, objCells, e1, e2, e3]
  | y :: ys, h :: hs, j + 1, x, x', e, e1, e2, e3 => by
    simp only [List.getElem?_cons_succ] at e
    simp only [List.set_cons_succ, objCells]
    rw [objCells_set ys hs j x x' e e1 e2 e3]

section
variable {o : Tags} {g : Nat} {H H' : CHeap} {b : Nat} {M : Mdl} {L : Lay}

theorem MRep.setObj (m : MRep o g H b M L) {j : Nat} {x x' : Obj} (hx : M.objs[j]? = some x) (e : x'.nr = x.nr ∧ x'.nd = x.nd ∧ x'.kd = x.kd ∧ x'.refs.length = x.refs.length ∧ x'.data.length = x.data.length)
    (hl : H.length ≤ H'.length) (hf : ∀ c k, o c = some (g, k) → k ≠ (6, j) → k ≠ (7, j) → H'[c]? = H[c]?)
    (hr : ∀ h, L.hv[j]? = some h → At o (g, 6, j) H' h.1 1 x.refs.length (ints x'.refs) ∧ At o (g, 7, j) H' h.2 1 x.data.length (ints x'.data)) :
    MRep o g H' b { M with objs := M.objs.set j x' } L where
  dom := fun c t h => Nat.lt_of_lt_of_le (m.dom c t h) hl
  top := m.top
  cells := by rw [hf _ _ m.top (by simp) (by simp), m.cells]
  nsv := m.nsv
  slots := m.slots.frame (fun c h => h) (fun c h => hf c _ h (by simp) (by simp))
  slot := fun i s h => by
    obtain ⟨v, h1, h2⟩ := m.slot i s h
    exact ⟨v, h1, h2.frame (fun c h => h) (fun c h => hf c _ h (by simp) (by simp))⟩
  globals := m.globals.frame (fun c h => h) (fun c h => hf c _ h (by simp) (by simp))
  queue := m.queue.frame (fun c h => h) (fun c h => hf c _ h (by simp) (by simp))
  nhv := by simp [m.nhv]
  objs := by
    have := m.objs.frame (o' := o) (H' := H') (fun c h => h) (fun c h => hf c _ h (by simp) (by simp))
    rw [objCells_set _ _ _ _ _ hx e.1 e.2.1 e.2.2.1, List.length_set]
    exact this
  refs := fun i y h => by
    rw [List.getElem?_set] at h
    by_cases hij : j = i
    · subst hij
      rw [if_pos rfl] at h
      split at h
      · simp only [Option.some.injEq] at h
        subst h
        obtain ⟨v, h1, h2, h3⟩ := m.refs j x hx
        obtain ⟨h4, h5⟩ := hr v h1
        exact ⟨v, h1, by rw [e.2.2.2.1]; exact h4, by rw [e.2.2.2.2]; exact h5⟩
      · cases h
    · rw [if_neg hij] at h
      obtain ⟨v, h1, h2, h3⟩ := m.refs i y h
      refine ⟨v, h1, h2.frame (fun c h => h) (fun c h => hf c _ h ?_ ?_), h3.frame (fun c h => h) (fun c h => hf c _ h ?_ ?_)⟩ <;>
        (simp only [ne_eq, Prod.mk.injEq, not_and]; omega)

theorem MRep.setSlot (m : MRep o g H b M L) {j : Nat} {s s' : List Int} (hs : M.slots[j]? = some s)
    (hl : H.length ≤ H'.length) (hf : ∀ c k, o c = some (g, k) → k ≠ (2, j) → H'[c]? = H[c]?)
    (hr : ∀ v, L.sv[j]? = some v → At o (g, 2, j) H' v 1 16 (ints s')) :
    MRep o g H' b { M with slots := M.slots.set j s' } L where
  dom := fun c t h => Nat.lt_of_lt_of_le (m.dom c t h) hl
  top := m.top
  cells := by rw [hf _ _ m.top (by simp), m.cells]
  nsv := by simp [m.nsv]
  slots := by
    have := m.slots.frame (o' := o) (H' := H') (fun c h => h) (fun c h => hf c _ h (by simp))
    rw [List.length_set]; exact this
  slot := fun i s h => by
    rw [List.getElem?_set] at h
    by_cases hij : j = i
    · subst hij
      rw [if_pos rfl] at h
      split at h
      · simp only [Option.some.injEq] at h
        subst h
        obtain ⟨v, h1, h2⟩ := m.slot j _ hs
        exact ⟨v, h1, hr v h1⟩
      · cases h
    · rw [if_neg hij] at h
      obtain ⟨v, h1, h2⟩ := m.slot i s h
      exact ⟨v, h1, h2.frame (fun c h => h) (fun c h => hf c _ h (by simp only [ne_eq, Prod.mk.injEq, not_and]; omega))⟩
  globals := m.globals.frame (fun c h => h) (fun c h => hf c _ h (by simp))
  queue := m.queue.frame (fun c h => h) (fun c h => hf c _ h (by simp))
  nhv := m.nhv
  objs := m.objs.frame (fun c h => h) (fun c h => hf c _ h (by simp))
  refs := fun j x h => by
    obtain ⟨v, h1, h2, h3⟩ := m.refs j x h
    exact ⟨v, h1, h2.frame (fun c h => h) (fun c h => hf c _ h (by simp)), h3.frame (fun c h => h) (fun c h => hf c _ h (by simp))⟩

theorem MRep.setGlobals (m : MRep o g H b M L) {l : List Int}
    (hl : H.length ≤ H'.length) (hf : ∀ c k, o c = some (g, k) → k ≠ (3, 0) → H'[c]? = H[c]?)
    (hr : At o (g, 3, 0) H' L.gl 1 16 (ints l)) :
    MRep o g H' b { M with globals := l } L where
  dom := fun c t h => Nat.lt_of_lt_of_le (m.dom c t h) hl
  top := m.top
  cells := by rw [hf _ _ m.top (by simp), m.cells]
  nsv := m.nsv
  slots := m.slots.frame (fun c h => h) (fun c h => hf c _ h (by simp))
  slot := fun i s h => by
    obtain ⟨v, h1, h2⟩ := m.slot i s h
    exact ⟨v, h1, h2.frame (fun c h => h) (fun c h => hf c _ h (by simp))⟩
  globals := hr
  queue := m.queue.frame (fun c h => h) (fun c h => hf c _ h (by simp))
  nhv := m.nhv
  objs := m.objs.frame (fun c h => h) (fun c h => hf c _ h (by simp))
  refs := fun j x h => by
    obtain ⟨v, h1, h2, h3⟩ := m.refs j x h
    exact ⟨v, h1, h2.frame (fun c h => h) (fun c h => hf c _ h (by simp)), h3.frame (fun c h => h) (fun c h => hf c _ h (by simp))⟩

def Tags.put (o : Tags) (c : Nat) (t : Tag) : Tags := fun d => if d = c then some t else o d
theorem Tags.put_eq {o : Tags} {c : Nat} {t : Tag} : o.put c t c = some t := by simp [Tags.put]
theorem Tags.put_ne {o : Tags} {c d : Nat} {t : Tag} (h : d ≠ c) : o.put c t d = o d := by simp [Tags.put, h]

/-- A block that is new is of a tag now. -/
theorem MRep.grows (m : MRep o g H b M L) {c : Nat} {t : Tag} (hc : H.length ≤ c) (hc' : c < H'.length) (hf : ∀ c k, o c = some (g, k) → H'[c]? = H[c]?) : MRep (o.put c t) g H' b M L :=
  m.frame (fun d k h => by
      by_cases e : d = c
      · subst e; exact hc'
      · rw [Tags.put_ne e] at h; have := m.dom d k h; omega)
    (fun d k h => by rw [Tags.put_ne]; · exact h
                     · have := m.dom d _ h; omega) hf

theorem MRep.setQueue (m : MRep o g H b M L) {l : List Int} {v : CV} {o' : Tags}
    (hd : ∀ c t, o' c = some t → c < H'.length) (ho : ∀ c k, o c = some (g, k) → o' c = some (g, k))
    (hl : H.length ≤ H'.length) (hf : ∀ c k, o c = some (g, k) → k ≠ (4, 0) → k ≠ (0, 0) → H'[c]? = H[c]?) (hb : H'[b]? = some ⟨[L.sl, L.gl, v, L.ov], .rw, 0⟩)
    (hr : At o' (g, 4, 0) H' v 1 l.length (ints l)) :
    MRep o' g H' b { M with queue := l } { L with qv := v } where
  dom := hd
  top := ho _ _ m.top
  cells := hb
  nsv := m.nsv
  slots := m.slots.frame (fun c => ho c _) (fun c h => hf c _ h (by simp) (by simp))
  slot := fun i s h => by
    obtain ⟨v, h1, h2⟩ := m.slot i s h
    exact ⟨v, h1, h2.frame (fun c => ho c _) (fun c h => hf c _ h (by simp) (by simp))⟩
  globals := m.globals.frame (fun c => ho c _) (fun c h => hf c _ h (by simp) (by simp))
  queue := hr
  nhv := m.nhv
  objs := m.objs.frame (fun c => ho c _) (fun c h => hf c _ h (by simp) (by simp))
  refs := fun j x h => by
    obtain ⟨v, h1, h2, h3⟩ := m.refs j x h
    exact ⟨v, h1, h2.frame (fun c => ho c _) (fun c h => hf c _ h (by simp) (by simp)), h3.frame (fun c => ho c _) (fun c h => hf c _ h (by simp) (by simp))⟩

/-- A further object. -/
theorem MRep.born (m : MRep o g H b M L) {x : Obj} {h : CV × CV} {v : CV} {o' : Tags}
    (hd : ∀ c t, o' c = some t → c < H'.length) (ho : ∀ c k, o c = some (g, k) → o' c = some (g, k))
    (hf : ∀ c k, o c = some (g, k) → k ≠ (5, 0) → k ≠ (0, 0) → H'[c]? = H[c]?) (hb : H'[b]? = some ⟨[L.sl, L.gl, L.qv, v], .rw, 0⟩)
    (hr : At o' (g, 5, 0) H' v 5 (M.objs.length + 1) (objCells M.objs L.hv ++ [.i x.nr, .i x.nd, .i x.kd, h.1, h.2]))
    (h1 : At o' (g, 6, M.objs.length) H' h.1 1 x.refs.length (ints x.refs)) (h2 : At o' (g, 7, M.objs.length) H' h.2 1 x.data.length (ints x.data)) :
    MRep o' g H' b { M with objs := M.objs ++ [x] } { L with ov := v, hv := L.hv ++ [h] } where
  dom := hd
  top := ho _ _ m.top
  cells := hb
  nsv := m.nsv
  slots := m.slots.frame (fun c => ho c _) (fun c h => hf c _ h (by simp) (by simp))
  slot := fun i s h => by
    obtain ⟨v, h1, h2⟩ := m.slot i s h
    exact ⟨v, h1, h2.frame (fun c => ho c _) (fun c h => hf c _ h (by simp) (by simp))⟩
  globals := m.globals.frame (fun c => ho c _) (fun c h => hf c _ h (by simp) (by simp))
  queue := m.queue.frame (fun c => ho c _) (fun c h => hf c _ h (by simp) (by simp))
  nhv := by simp [m.nhv]
  objs := by
    show At o' (g, 5, 0) H' v 5 (M.objs ++ [x]).length (objCells (M.objs ++ [x]) (L.hv ++ [h]))
    rw [objCells_app _ _ _ _ m.nhv, List.length_append]
    exact hr
  refs := fun j y hy => by
    rw [List.getElem?_append] at hy
    split at hy
    · rename_i hj
      obtain ⟨v, e1, e2, e3⟩ := m.refs j y hy
      refine ⟨v, ?_, e2.frame (fun c => ho c _) (fun c h => hf c _ h (by simp) (by simp)), e3.frame (fun c => ho c _) (fun c h => hf c _ h (by simp) (by simp))⟩
      show (L.hv ++ [h])[j]? = _
      rw [List.getElem?_append_left (by rw [m.nhv]; exact hj)]
      exact e1
    · rename_i hj
      have hj' : j = M.objs.length := by
        have := lt_of_get hy
        simp at this; omega
      subst hj'
      simp at hy
      subst hy
      refine ⟨h, ?_, h1, h2⟩
      show (L.hv ++ [h])[M.objs.length]? = _
      rw [← m.nhv]; simp
end
end Go.Cs

/- The changes of a model, plainly; and what keeps it in order. -/
namespace Go.Cs
open Go

def Mdl.setObj (M : Mdl) (n : Int) (x : Obj) : Mdl := { M with objs := M.objs.set (n - 1).toNat x }

def Mdl.push (M : Mdl) (n : Int) : Mdl × Int :=
  if M.has n then if M.queue.length = 64 then (M, 6) else ({ M with queue := M.queue ++ [n] }, 0) else (M, 4)

def Mdl.pop (M : Mdl) : Mdl × Int × Int :=
  match M.queue with
  | [] => (M, 0, 4)
  | a :: r => ({ M with queue := r }, a, 0)

def Mdl.setRef (M : Mdl) (n i to : Int) : Mdl × Int :=
  if M.has n then
    if 0 ≤ i ∧ i < ((M.obj n).refs.length : Int) ∧ (to = 0 ∨ M.has to) then
      (M.setObj n { M.obj n with refs := (M.obj n).refs.set i.toNat to }, 0)
    else (M, 1)
  else (M, 4)

theorem Obj.Ok.more {n k : Nat} {x : Obj} (h : x.Ok n) (hk : n ≤ k) : x.Ok k :=
  ⟨h.nr, h.nd, h.kd, fun v hv => by have := h.ids v hv; omega⟩

theorem Mdl.Ok.obj {M : Mdl} (w : M.Ok) {n : Int} (c : M.has n) : (M.obj n).Ok M.objs.length := w.objs _ (List.mem_of_getElem? (Mdl.obj_get c))

theorem Mdl.Ok.setObj {M : Mdl} (w : M.Ok) {n : Int} {x : Obj} (h : x.Ok M.objs.length) : (M.setObj n x).Ok where
  ns := w.ns
  s16 := by simpa [Mdl.setObj] using w.s16
  g16 := by simpa [Mdl.setObj] using w.g16
  q64 := by simpa [Mdl.setObj] using w.q64
  objs := fun y hy => by
    simp only [Mdl.setObj, List.length_set] at hy ⊢
    rcases List.mem_or_eq_of_mem_set hy with hy | rfl
    · exact w.objs y hy
    · exact h
  few := by simpa [Mdl.setObj] using w.few

theorem Mdl.Ok.push {M : Mdl} (w : M.Ok) (n : Int) : (M.push n).1.Ok := by
  unfold Mdl.push
  split
  · rename_i h
    split
    · exact w
    · rename_i hq
      refine ⟨w.ns, w.s16, w.g16, ⟨?_, ?_⟩, w.objs, w.few⟩
      · have := w.q64.1; simp; omega
      · intro v hv
        simp only [List.mem_append, List.mem_singleton] at hv
        rcases hv with hv | rfl
        · exact w.q64.2 v hv
        · exact h
  · exact w

theorem Mdl.Ok.pop {M : Mdl} (w : M.Ok) : M.pop.1.Ok := by
  unfold Mdl.pop
  split
  · exact w
  · rename_i a r h
    refine ⟨w.ns, w.s16, w.g16, ⟨?_, ?_⟩, w.objs, w.few⟩
    · have := w.q64.1; rw [h] at this; simp at this; show r.length ≤ 64; omega
    · intro v hv
      exact w.q64.2 v (by rw [h]; exact List.mem_cons_of_mem _ hv)

theorem Mdl.Ok.setRef {M : Mdl} (w : M.Ok) (n i to : Int) : (M.setRef n i to).1.Ok := by
  unfold Mdl.setRef
  split
  · rename_i h
    split
    · rename_i hi
      refine w.setObj ?_
      have hx := w.obj h
      refine ⟨by simpa using hx.nr, hx.nd, hx.kd, fun v hv => ?_⟩
      rcases List.mem_or_eq_of_mem_set hv with hv | rfl
      · exact hx.ids v hv
      · rcases hi.2.2 with rfl | h2
        · omega
        · unfold Mdl.has at h2; omega
    · exact w
  · exact w

/-- The tags of what is newer than a state of the heap. -/
def Loc (k : Nat) : Tags := fun c => if k ≤ c then some (0, 0, 0) else none
abbrev z3 : Tag := (0, 0, 0)
theorem Loc_some {k c : Nat} {t : Tag} : Loc k c = some t ↔ k ≤ c ∧ t = z3 := by
  unfold Loc
  split
  · simp only [Option.some.injEq]; constructor
    · intro h; exact ⟨by assumption, h.symm⟩
    · intro h; exact h.2.symm
  · simp; omega

/-- What was new comes to belong to a tag. -/
theorem At.adopt {k e n : Nat} {H : CHeap} {v : CV} {cs : List CV} {o : Tags} {t : Tag} (h : At (Loc k) z3 H v e n cs) (ho : ∀ d s, o d = some s → d < k) :
    ∃ o' : Tags, (∀ d, d < k → o' d = o d) ∧ (∀ d s, o' d = some s → k ≤ d → s = t ∧ d < H.length) ∧ At o' t H v e n cs := by
  rcases h with h | ⟨b, tl, rfl, h1, h2, h3⟩
  · exact ⟨o, fun _ _ => rfl, fun d s h1 h2 => by have := ho d s h1; omega, .inl h⟩
  · have hb := (Loc_some.1 h1).1
    refine ⟨o.put b t, fun d hd => Tags.put_ne (by omega), fun d s h4 h5 => ?_, .inr ⟨b, tl, rfl, Tags.put_eq, h2, h3⟩⟩
    by_cases e : d = b
    · subst e
      rw [Tags.put_eq] at h4
      simp only [Option.some.injEq] at h4
      exact ⟨h4.symm, lt_of_get h2⟩
    · rw [Tags.put_ne e] at h4
      have := ho d s h4; omega

/-- The queue is new. -/
theorem MRep.newQueue {o : Tags} {g : Nat} {H Hf : CHeap} {b : Nat} {M : Mdl} {L : Lay} (m : MRep o g H b M L) {v : CV} {l : List Int} (h : At (Loc H.length) z3 Hf v 1 l.length (ints l)) (hl : H.length ≤ Hf.length)
    (hb : Hf[b]? = some ⟨[L.sl, L.gl, v, L.ov], .rw, 0⟩) (hf : ∀ d, d < H.length → o d ≠ some (g, 4, 0) → d ≠ b → Hf[d]? = H[d]?) :
    ∃ o' L', MRep o' g Hf b { M with queue := l } L' ∧ Frm g o H o' Hf := by
  obtain ⟨o', h1, h2, h3⟩ := h.adopt (o := o) (t := (g, 4, 0)) m.dom
  refine ⟨o', { L with qv := v }, ?_, ?_⟩
  · refine m.setQueue (v := v) ?_ ?_ hl ?_ hb h3
    · intro c t h
      by_cases hc : c < H.length
      · omega
      · exact (h2 c t h (by omega)).2
    · intro c k h
      rw [h1 c (m.dom c _ h), h]
    · intro c k h k1 k2
      refine hf c (m.dom c _ h) (by rw [h]; simpa using k1) ?_
      rintro rfl
      rw [m.top] at h
      simp only [Option.some.injEq, Prod.mk.injEq, true_and] at h
      exact k2 h.symm
  · refine ⟨hl, h1, fun c t h hc => ?_, fun c hc hk => hf c hc (hk _) ?_⟩
    · rw [(h2 c t h hc).1]
    · rintro rfl; exact hk _ m.top
end Go.Cs

/- What the functions that change references and the queue do. -/
namespace Go.Cs.Try
open Go Go.Cs
set_option maxRecDepth 100000
section
variable {o : Tags} {g : Nat} {H : CHeap} {b : Nat} {M : Mdl} {L : Lay}

/-- slices.Clone of a list of integers. -/
theorem f53 {v : CV} {n : Nat} {cs : List CV} (hv : v = .nilSlice ∧ n = 0 ∧ cs = [] ∨ ∃ b f l c z t, v = .slice b f l c z t) (he : ∀ J, elems (H ++ J) 1 v = some (n, cs)) (hc : cs.length = n) (hl : cs.all leaf = true) (hn : n ≤ maxEls) :
    ∃ v' J, run P 53 [v] H = some (v', H ++ J) ∧ At (Loc H.length) z3 (H ++ J) v' 1 n cs := by
  rcases hv with ⟨rfl, rfl, rfl⟩ | ⟨b, f, l, c, z, t, rfl⟩
  · refine ⟨.nilSlice, [], ?_, .inl ⟨rfl, rfl, .inl rfl⟩⟩
    rw [run_lv c53, List.append_nil]
    have e : ∀ H, vEqv false 2 .nilSlice .nilSlice H = some (.bool true, H) := fun _ => rfl
    simp (disch := first | omega | rfl | assumption | (simp only [csN, Nat.reduceAdd, Nat.reduceMul, Nat.reduceLeDiff, Nat.reduceEqDiff] <;> omega) | (simp only [csF]; done) | (simp only [csF] <;> assumption) | fail) only [Nat.reduceEqDiff, Nat.reduceAdd, Nat.reduceMul, Nat.reduceSub, Nat.reduceLeDiff, Int.reduceAdd, Int.reduceSub, Int.reduceMul, Int.reduceLT, Int.reduceLE, Int.reduceGT, Int.reduceGE, Int.reduceEq, Int.reduceBEq, Int.reduceBNe, Int.reduceNeg, Int.reduceToNat, csAll, ↓reduceIte, C53, entry_1, e]
  · have e : ∀ H, vEqv false 2 (.slice b f l c z t) .nilSlice H = some (.bool false, H) := fun _ => rfl
    have he' := he [⟨[], .rw, 1⟩]
    have ha : At (Loc H.length) z3 (H ++ [⟨[], .rw, 1⟩]) (.slice H.length 0 0 0 1 false) 1 0 [] := .inl ⟨rfl, rfl, .inr ⟨_, _, rfl⟩⟩
    rcases Nat.eq_zero_or_pos n with rfl | hp
    · have : cs = [] := List.eq_nil_of_length_eq_zero hc
      subst this
      refine ⟨.slice H.length 0 0 0 1 false, [⟨[], .rw, 1⟩], ?_, ?_⟩
      · rw [run_lv c53]
        have ea : ∀ H', appendTo H' 1 (.slice H.length 0 0 0 1 false) 0 [] = some (.slice H.length 0 0 0 1 false, H') := fun _ => rfl
        simp (disch := first | omega | rfl | assumption | (simp only [csN, Nat.reduceAdd, Nat.reduceMul, Nat.reduceLeDiff, Nat.reduceEqDiff] <;> omega) | (simp only [csF]; done) | (simp only [csF] <;> assumption) | fail) only [Nat.reduceEqDiff, Nat.reduceAdd, Nat.reduceMul, Nat.reduceSub, Nat.reduceLeDiff, Int.reduceAdd, Int.reduceSub, Int.reduceMul, Int.reduceLT, Int.reduceLE, Int.reduceGT, Int.reduceGE, Int.reduceEq, Int.reduceBEq, Int.reduceBNe, Int.reduceNeg, Int.reduceToNat, csAll, ↓reduceIte, C53, entry_1, e, he', ea]
      · exact .inl ⟨rfl, rfl, .inr ⟨_, _, rfl⟩⟩
    · have ea : appendTo (H ++ [⟨[], .rw, 1⟩]) 1 (.slice H.length 0 0 0 1 false) n cs = some (.slice (H.length + 1) 0 n n 1 true, H ++ [⟨[], .rw, 1⟩] ++ [⟨cs, .rw, 1⟩]) := by
        unfold appendTo
        dsimp only
        rw [if_neg (by omega), if_neg (by omega), if_pos (by omega)]
        simp
      refine ⟨.slice (H.length + 1) 0 n n 1 true, [⟨[], .rw, 1⟩, ⟨cs, .rw, 1⟩], ?_, ?_⟩
      · rw [run_lv c53]
        simp (disch := first | omega | rfl | assumption | (simp only [csN, Nat.reduceAdd, Nat.reduceMul, Nat.reduceLeDiff, Nat.reduceEqDiff] <;> omega) | (simp only [csF]; done) | (simp only [csF] <;> assumption) | fail) only [Nat.reduceEqDiff, Nat.reduceAdd, Nat.reduceMul, Nat.reduceSub, Nat.reduceLeDiff, Int.reduceAdd, Int.reduceSub, Int.reduceMul, Int.reduceLT, Int.reduceLE, Int.reduceGT, Int.reduceGE, Int.reduceEq, Int.reduceBEq, Int.reduceBNe, Int.reduceNeg, Int.reduceToNat, csAll, ↓reduceIte, C53, entry_1, e, he', ea]
        simp
      · refine .inr ⟨_, _, rfl, ?_, ?_, by omega⟩
        · rw [Loc_some]; exact ⟨by omega, rfl⟩
        · rw [List.getElem?_append_right (by omega)]; simp

theorem At.slicey {o : Tags} {t : Tag} {H : CHeap} {v : CV} {e n : Nat} {cs : List CV} (h : At o t H v e n cs) : v = .nilSlice ∧ n = 0 ∧ cs = [] ∨ ∃ b f l c z t, v = .slice b f l c z t := by
  rcases h with ⟨rfl, rfl, rfl | ⟨b, f, rfl⟩⟩ | ⟨b, tl, rfl, h1, h2, h3⟩
  · exact .inl ⟨rfl, rfl, rfl⟩
  · exact .inr ⟨_, _, _, _, _, _, rfl⟩
  · exact .inr ⟨_, _, _, _, _, _, rfl⟩

/-- Queue. -/
theorem f39 (m : MRep o g H b M L) (w : M.Ok) : ∃ v J, run P 39 [.ptr b 0] H = some (v, H ++ J) ∧ At (Loc H.length) z3 (H ++ J) v 1 M.queue.length (Go.Cs.ints M.queue) := by
  have h1 := m.cells
  have h2 := f41 m w
  obtain ⟨v, J, e, h⟩ := f53 (H := H) (At.slicey m.queue) (fun J => m.queue.elems (fun c hc => List.getElem?_append_left (m.dom _ _ hc))) (ints_len _) (ints_leaf _) (Nat.le_trans w.q64.1 (by decide))
  refine ⟨v, J, ?_, h⟩
  rw [run_lv c39]
  simp (disch := first | omega | rfl | assumption | (simp only [csN, Nat.reduceAdd, Nat.reduceMul, Nat.reduceLeDiff, Nat.reduceEqDiff] <;> omega) | (simp only [csF]; done) | (simp only [csF] <;> assumption) | fail) only [Nat.reduceEqDiff, Nat.reduceAdd, Nat.reduceMul, Nat.reduceSub, Nat.reduceLeDiff, Int.reduceAdd, Int.reduceSub, Int.reduceMul, Int.reduceLT, Int.reduceLE, Int.reduceGT, Int.reduceGE, Int.reduceEq, Int.reduceBEq, Int.reduceBNe, Int.reduceNeg, Int.reduceToNat, csAll, ↓reduceIte, C39, entry_1, h1, h2, e]

/-- SetRef. -/
theorem f17 (m : MRep o g H b M L) (w : M.Ok) (n i to : Int) : Does o g H b (M.setRef n i to).1 (.i (M.setRef n i to).2) (run P 17 [.ptr b 0, .i n, .i i, .i to] H) := by
  by_cases c : M.has n
  · have h1 := f43_yes m w n c
    obtain ⟨h, rest, h0, h2, h3, h4, -, h6, h7⟩ := m.objAt n c
    have h5 := f44 h6 i
    have h8 := f45 m w to
    by_cases ci : 0 ≤ i ∧ i < ((M.obj n).refs.length : Int)
    · have hp : elAt (M.obj n).refs i = ((M.obj n).refs.getD i.toNat 0, 0) := by unfold elAt; rw [if_pos ci]
      by_cases ct : to = 0 ∨ M.has to
      · have hs : M.setRef n i to = (M.setObj n { M.obj n with refs := (M.obj n).refs.set i.toNat to }, 0) := by
          unfold Mdl.setRef; rw [if_pos c, if_pos ⟨ci.1, ci.2, ct⟩]
        obtain ⟨tl, d1, d2, d3, d4⟩ := h6.pos (by omega)
        have d5 := lt_of_get d3
        have hl := ints_len (M.obj n).refs
        refine ⟨H.set (blkOf h.1) ⟨Go.Cs.ints ((M.obj n).refs.set i.toNat to), .rw, 1⟩, o, L, ?_, ?_, ?_⟩
        · rw [run_lv c17, hs]
          rw [d1] at h3 h5
          by_cases c0 : to = 0
          · subst c0
            simp (disch := first | omega | rfl | assumption | (simp only [csN, Nat.reduceAdd, Nat.reduceMul, Nat.reduceLeDiff, Nat.reduceEqDiff] <;> omega) | (simp only [csF]; done) | (simp only [csF] <;> assumption) | fail) only [Nat.reduceEqDiff, Nat.reduceAdd, Nat.reduceMul, Nat.reduceSub, Nat.reduceLeDiff, Int.reduceAdd, Int.reduceSub, Int.reduceMul, Int.reduceLT, Int.reduceLE, Int.reduceGT, Int.reduceGE, Int.reduceEq, Int.reduceBEq, Int.reduceBNe, Int.reduceNeg, Int.reduceToNat, csAll, ↓reduceIte, C17, entry_4, h1, h2, drop_get, h3, h5, hp, pair2, h8, d3, hl, ints_set]
          · have ct' : decide (M.has to) = true := by simp [ct.resolve_left c0]
            simp (disch := first | omega | rfl | assumption | (simp only [csN, Nat.reduceAdd, Nat.reduceMul, Nat.reduceLeDiff, Nat.reduceEqDiff] <;> omega) | (simp only [csF]; done) | (simp only [csF] <;> assumption) | fail) only [Nat.reduceEqDiff, Nat.reduceAdd, Nat.reduceMul, Nat.reduceSub, Nat.reduceLeDiff, Int.reduceAdd, Int.reduceSub, Int.reduceMul, Int.reduceLT, Int.reduceLE, Int.reduceGT, Int.reduceGE, Int.reduceEq, Int.reduceBEq, Int.reduceBNe, Int.reduceNeg, Int.reduceToNat, csAll, ↓reduceIte, C17, entry_4, h1, h2, drop_get, h3, h5, hp, pair2, h8, ct', d3, hl, ints_set]
        · rw [hs]
          refine m.setObj (Mdl.obj_get c) ⟨rfl, rfl, rfl, by simp, rfl⟩ (by simp) ?_ ?_
          · intro c' k hk h6' _
            rw [List.getElem?_set_ne]
            rintro rfl
            rw [d2] at hk
            simp only [Option.some.injEq, Prod.mk.injEq, true_and] at hk
            exact h6' (by rw [← hk])
          · intro h' hh
            rw [h0] at hh
            simp only [Option.some.injEq] at hh
            subst hh
            refine ⟨.inr ⟨blkOf h.1, tl, d1, d2, by rw [List.getElem?_set_self d5], by simp [ints_len]⟩, h7.frame (fun _ h => h) (fun c' hc' => ?_)⟩
            rw [List.getElem?_set_ne]
            rintro rfl
            rw [d2] at hc'
            simp at hc'
        · refine ⟨by simp, fun _ _ => rfl, fun c t h hc => by have := m.dom c t h; omega, fun c' hc' hk => ?_⟩
          rw [List.getElem?_set_ne]
          rintro rfl
          exact hk _ d2
      · have hs : M.setRef n i to = (M, 1) := by
          unfold Mdl.setRef; rw [if_pos c, if_neg (fun h => ct h.2.2)]
        refine ⟨H, o, L, ?_, by rw [hs]; exact m, .refl m.dom⟩
        rw [run_lv c17, hs]
        simp only [not_or] at ct
        have c0 := ct.1
        have ct' : decide (M.has to) = false := by simp [ct.2]
        simp (disch := first | omega | rfl | assumption | (simp only [csN, Nat.reduceAdd, Nat.reduceMul, Nat.reduceLeDiff, Nat.reduceEqDiff] <;> omega) | (simp only [csF]; done) | (simp only [csF] <;> assumption) | fail) only [Nat.reduceEqDiff, Nat.reduceAdd, Nat.reduceMul, Nat.reduceSub, Nat.reduceLeDiff, Int.reduceAdd, Int.reduceSub, Int.reduceMul, Int.reduceLT, Int.reduceLE, Int.reduceGT, Int.reduceGE, Int.reduceEq, Int.reduceBEq, Int.reduceBNe, Int.reduceNeg, Int.reduceToNat, csAll, ↓reduceIte, C17, entry_4, h1, h2, drop_get, h3, h5, hp, pair2, h8, ct']
    · have hp : elAt (M.obj n).refs i = (0, 1) := by unfold elAt; rw [if_neg ci]
      have hs : M.setRef n i to = (M, 1) := by
        unfold Mdl.setRef; rw [if_pos c, if_neg (fun h => ci ⟨h.1, h.2.1⟩)]
      refine ⟨H, o, L, ?_, by rw [hs]; exact m, .refl m.dom⟩
      rw [run_lv c17, hs]
      have h5' : run P 44 [h.1, .i i] H = some (.tup [.i 0, .i 1], H) := by rw [h5, hp]; rfl
      simp (disch := first | omega | rfl | assumption | (simp only [csN, Nat.reduceAdd, Nat.reduceMul, Nat.reduceLeDiff, Nat.reduceEqDiff] <;> omega) | (simp only [csF]; done) | (simp only [csF] <;> assumption) | fail) only [Nat.reduceEqDiff, Nat.reduceAdd, Nat.reduceMul, Nat.reduceSub, Nat.reduceLeDiff, Int.reduceAdd, Int.reduceSub, Int.reduceMul, Int.reduceLT, Int.reduceLE, Int.reduceGT, Int.reduceGE, Int.reduceEq, Int.reduceBEq, Int.reduceBNe, Int.reduceNeg, Int.reduceToNat, csAll, ↓reduceIte, C17, entry_4, h1, h2, drop_get, h3, h5']
  · have h1 := f43_no m w n c
    have hs : M.setRef n i to = (M, 4) := by unfold Mdl.setRef; rw [if_neg c]
    refine ⟨H, o, L, ?_, by rw [hs]; exact m, .refl m.dom⟩
    rw [run_lv c17, hs]
    simp (disch := first | omega | rfl | assumption | (simp only [csN, Nat.reduceAdd, Nat.reduceMul, Nat.reduceLeDiff, Nat.reduceEqDiff] <;> omega) | (simp only [csF]; done) | (simp only [csF] <;> assumption) | fail) only [Nat.reduceEqDiff, Nat.reduceAdd, Nat.reduceMul, Nat.reduceSub, Nat.reduceLeDiff, Int.reduceAdd, Int.reduceSub, Int.reduceMul, Int.reduceLT, Int.reduceLE, Int.reduceGT, Int.reduceGE, Int.reduceEq, Int.reduceBEq, Int.reduceBNe, Int.reduceNeg, Int.reduceToNat, csAll, ↓reduceIte, C17, entry_4, h1]
end
end Go.Cs.Try

/- What Push and Pop do. -/
namespace Go.Cs.Try
open Go Go.Cs
set_option maxRecDepth 100000
section
variable {o : Tags} {g : Nat} {H : CHeap} {b : Nat} {M : Mdl} {L : Lay}

/-- Push. -/
theorem f18 (m : MRep o g H b M L) (w : M.Ok) (n : Int) : Does o g H b (M.push n).1 (.i (M.push n).2) (run P 18 [.ptr b 0, .i n] H) := by
  have h0 := m.cells
  have h1 := f41 m w
  have h2 := f45 m w n
  have h3 := m.queue.len
  have hb := lt_of_get h0
  by_cases c : M.has n
  · have c' : decide (M.has n) = true := by simp [c]
    by_cases q : M.queue.length = 64
    · have hs : M.push n = (M, 6) := by unfold Mdl.push; rw [if_pos c, if_pos q]
      refine ⟨H, o, L, ?_, by rw [hs]; exact m, .refl m.dom⟩
      rw [run_lv c18, hs]
      simp (disch := first | omega | rfl | assumption | (simp only [csN, Nat.reduceAdd, Nat.reduceMul, Nat.reduceLeDiff, Nat.reduceEqDiff] <;> omega) | (simp only [csF]; done) | (simp only [csF] <;> assumption) | fail) only [Nat.reduceEqDiff, Nat.reduceAdd, Nat.reduceMul, Nat.reduceSub, Nat.reduceLeDiff, Int.reduceAdd, Int.reduceSub, Int.reduceMul, Int.reduceLT, Int.reduceLE, Int.reduceGT, Int.reduceGE, Int.reduceEq, Int.reduceBEq, Int.reduceBNe, Int.reduceNeg, Int.reduceToNat, csAll, ↓reduceIte, C18, entry_2, h0, h1, h2, h3, c']
    · have hs : M.push n = ({ M with queue := M.queue ++ [n] }, 0) := by unfold Mdl.push; rw [if_pos c, if_neg q]
      have mm := m.app [⟨[.i n], .rw, 1⟩]
      obtain ⟨H', e1, e2, e3, e4⟩ := mm.queue.append (k := 1) (new := [.i n]) (by omega) (Nat.le_trans (Nat.add_le_add_right w.q64.1 1) (by decide)) (by simp [leaf]) (by simp)
      simp only [List.length_append, List.length_cons, List.length_nil, Nat.zero_add] at e1 e2 e3 e4
      have hbk : H'[b]? = some ⟨[L.sl, L.gl, L.qv, L.ov], .rw, 0⟩ := by
        rw [e4 b (by omega) (by rw [m.top]; simp), List.getElem?_append_left hb, h0]
      have hf := m.newQueue (Hf := H'.set b ⟨[L.sl, L.gl, .slice (H.length + 1) 0 (M.queue.length + 1) (M.queue.length + 1) 1 true, L.ov], .rw, 0⟩) (l := M.queue ++ [n])
        (.inr ⟨H.length + 1, true, (by simp : CV.slice (H.length + 1) 0 (M.queue.length + 1) (M.queue.length + 1) 1 true = _), Loc_some.2 ⟨by omega, rfl⟩, by rw [List.getElem?_set_ne (by omega), e3, ints_app]; rfl, by simp [ints_len]⟩)
        (by rw [List.length_set]; omega) (by rw [List.getElem?_set_self (by omega)])
        (fun d hd h h' => by rw [List.getElem?_set_ne (Ne.symm h'), e4 d (by omega) h, List.getElem?_append_left hd])
      obtain ⟨o', L', r1, r2⟩ := hf
      refine ⟨_, o', L', ?_, by rw [hs]; exact r1, r2⟩
      rw [run_lv c18, hs]
      have hst : elems (H ++ [⟨[.i n], .rw, 1⟩]) 1 (.slice H.length 0 1 1 1 false) = some (1, [.i n]) := by
        unfold elems loadN; simp
      simp (disch := first | omega | rfl | assumption | (simp only [csN, Nat.reduceAdd, Nat.reduceMul, Nat.reduceLeDiff, Nat.reduceEqDiff] <;> omega) | (simp only [csF]; done) | (simp only [csF] <;> assumption) | fail) only [Nat.reduceEqDiff, Nat.reduceAdd, Nat.reduceMul, Nat.reduceSub, Nat.reduceLeDiff, Int.reduceAdd, Int.reduceSub, Int.reduceMul, Int.reduceLT, Int.reduceLE, Int.reduceGT, Int.reduceGE, Int.reduceEq, Int.reduceBEq, Int.reduceBNe, Int.reduceNeg, Int.reduceToNat, csAll, ↓reduceIte, C18, entry_2, h0, h1, h2, h3, c', hst, e1, hbk]
  · have c' : decide (M.has n) = false := by simp [c]
    have hs : M.push n = (M, 4) := by unfold Mdl.push; rw [if_neg c]
    refine ⟨H, o, L, ?_, by rw [hs]; exact m, .refl m.dom⟩
    rw [run_lv c18, hs]
    simp (disch := first | omega | rfl | assumption | (simp only [csN, Nat.reduceAdd, Nat.reduceMul, Nat.reduceLeDiff, Nat.reduceEqDiff] <;> omega) | (simp only [csF]; done) | (simp only [csF] <;> assumption) | fail) only [Nat.reduceEqDiff, Nat.reduceAdd, Nat.reduceMul, Nat.reduceSub, Nat.reduceLeDiff, Int.reduceAdd, Int.reduceSub, Int.reduceMul, Int.reduceLT, Int.reduceLE, Int.reduceGT, Int.reduceGE, Int.reduceEq, Int.reduceBEq, Int.reduceBNe, Int.reduceNeg, Int.reduceToNat, csAll, ↓reduceIte, C18, entry_2, h1, h2, c']

/-- Pop. -/
theorem f46 (m : MRep o g H b M L) (w : M.Ok) : Does o g H b M.pop.1 (pair2 M.pop.2) (run P 46 [.ptr b 0] H) := by
  have h0 := m.cells
  have h1 := f41 m w
  have h3 := m.queue.len
  have hb := lt_of_get h0
  cases hq : M.queue with
  | nil =>
    have hs : M.pop = (M, 0, 4) := by unfold Mdl.pop; rw [hq]
    refine ⟨H, o, L, ?_, by rw [hs]; exact m, .refl m.dom⟩
    rw [hq] at h3
    rw [run_lv c46, hs]
    simp (disch := first | omega | rfl | assumption | (simp only [csN, Nat.reduceAdd, Nat.reduceMul, Nat.reduceLeDiff, Nat.reduceEqDiff] <;> omega) | (simp only [csF]; done) | (simp only [csF] <;> assumption) | fail) only [Nat.reduceEqDiff, Nat.reduceAdd, Nat.reduceMul, Nat.reduceSub, Nat.reduceLeDiff, Int.reduceAdd, Int.reduceSub, Int.reduceMul, Int.reduceLT, Int.reduceLE, Int.reduceGT, Int.reduceGE, Int.reduceEq, Int.reduceBEq, Int.reduceBNe, Int.reduceNeg, Int.reduceToNat, csAll, ↓reduceIte, C46, entry_1, h0, h1, h3, pair2]
  | cons a r =>
    have hs : M.pop = ({ M with queue := r }, a, 0) := by unfold Mdl.pop; rw [hq]
    have mq := m.queue
    rw [hq] at mq h3
    obtain ⟨tl, d1, d2, d3, d4⟩ := mq.pos (by simp)
    have d5 := lt_of_get d3
    rw [ints_cons] at d3
    rw [d1] at h0 h3
    have hle : r.length + 1 ≤ 64 := by have := w.q64.1; rw [hq] at this; simpa using this
    have hel : ∀ J, elems (H ++ J) 1 (.slice (blkOf L.qv) 1 r.length r.length 1 tl) = some (r.length, Go.Cs.ints r) := by
      intro J
      rcases Nat.eq_zero_or_pos r.length with hr | hr
      · rw [hr]
        have : r = [] := List.eq_nil_of_length_eq_zero hr
        subst this; rfl
      · rw [elems_s hr, List.getElem?_append_left d5, d3, ldN_rw, if_pos (by simp [ints_len]; omega)]
        simp [← ints_len r]
    obtain ⟨v', J, e1, e2⟩ := f53 (H := H) (.inr ⟨_, _, _, _, _, _, rfl⟩) hel (ints_len _) (ints_leaf _) (Nat.le_trans (by omega : r.length ≤ 64) (by decide))
    have hf := m.newQueue (Hf := (H ++ J).set b ⟨[L.sl, L.gl, v', L.ov], .rw, 0⟩) (l := r) (e2.frame (fun _ h => h) (fun c hc => by
        rw [List.getElem?_set_ne]
        have := (Loc_some.1 hc).1; omega)) (by simp) (by rw [List.getElem?_set_self (by simp; omega)])
      (fun d hd h h' => by rw [List.getElem?_set_ne (Ne.symm h'), List.getElem?_append_left hd])
    obtain ⟨o', L', r1, r2⟩ := hf
    refine ⟨_, o', L', ?_, by rw [hs]; exact r1, r2⟩
    have hbk : (H ++ J)[b]? = some ⟨[L.sl, L.gl, L.qv, L.ov], .rw, 0⟩ := by rw [List.getElem?_append_left hb, m.cells]
    have hst : sliceV 1 (.slice (blkOf L.qv) 0 (r.length + 1) (r.length + 1) 1 tl) (some (.i 1)) none none = some (.slice (blkOf L.qv) 1 r.length r.length 1 tl) := by
      simp [sliceV, sliceBndsV, boundOV, boundV]
      rw [if_pos (by omega)]
      rfl
    have hv' := e2.leaf
    rw [run_lv c46, hs]
    simp only [List.length_cons] at h0 h3
    simp (disch := first | omega | rfl | assumption | (simp only [csN, Nat.reduceAdd, Nat.reduceMul, Nat.reduceLeDiff, Nat.reduceEqDiff] <;> omega) | (simp only [csF]; done) | (simp only [csF] <;> assumption) | fail) only [Nat.reduceEqDiff, Nat.reduceAdd, Nat.reduceMul, Nat.reduceSub, Nat.reduceLeDiff, Int.reduceAdd, Int.reduceSub, Int.reduceMul, Int.reduceLT, Int.reduceLE, Int.reduceGT, Int.reduceGE, Int.reduceEq, Int.reduceBEq, Int.reduceBNe, Int.reduceNeg, Int.reduceToNat, csAll, ↓reduceIte, C46, entry_1, h0, h1, h3, pair2, d3, hst, e1, hbk]
end
end Go.Cs.Try

/- What the effects of acts do. -/
namespace Go.Cs
open Go

structure Act where
  k : Int
  a : Int
  b : Int
  i : Int
  n : Int
  nr : Int
  nd : Int
  sk : Int

def actCells (x : Act) : List CV := [.i x.k, .i x.a, .i x.b, .i x.i, .i x.n, .i x.nr, .i x.nd, .i x.sk]

/-- An act that is being done. -/
structure ActAt (o : Tags) (g : Nat) (H : CHeap) (b : Nat) (M : Mdl) (L : Lay) (ab : Nat) (x : Act) (mu : Nat) (s : List Int) (v : CV) (tl : Bool) : Prop where
  m : MRep o g H b M L
  w : M.Ok
  blk : H[ab]? = some ⟨[.i x.k, .i x.a, .i x.b, .i x.i, .i x.n, .i x.nr, .i x.nd, .i x.sk, .ptr b 0, v], .rw, 0⟩
  free : o ab = none
  hs : M.slots[mu]? = some s
  hv : L.sv[mu]? = some v
  ev : v = .slice (blkOf v) 0 16 16 1 tl
  tag : o (blkOf v) = some (g, 2, mu)
  cells : H[blkOf v]? = some ⟨ints s, .rw, 1⟩
  len : s.length = 16

theorem ActAt.app {o : Tags} {g : Nat} {H : CHeap} {b : Nat} {M : Mdl} {L : Lay} {ab : Nat} {x : Act} {mu : Nat} {s : List Int} {v : CV} {tl : Bool} (A : ActAt o g H b M L ab x mu s v tl) (J : CHeap) : ActAt o g (H ++ J) b M L ab x mu s v tl where
  m := A.m.app J
  w := A.w
  blk := by rw [List.getElem?_append_left (lt_of_get A.blk), A.blk]
  free := A.free
  hs := A.hs
  hv := A.hv
  ev := A.ev
  tag := A.tag
  cells := by rw [List.getElem?_append_left (lt_of_get A.cells), A.cells]
  len := A.len

theorem ActAt.ne {o : Tags} {g : Nat} {H : CHeap} {b : Nat} {M : Mdl} {L : Lay} {ab : Nat} {x : Act} {mu : Nat} {s : List Int} {v : CV} {tl : Bool} (A : ActAt o g H b M L ab x mu s v tl) : ab ≠ blkOf v := by
  intro h
  have := A.free
  rw [h, A.tag] at this
  cases this

/-- The slot of an act. -/
theorem slotGet {s : List Int} {a : Int} (hl : s.length = 16) (h : 0 ≤ a ∧ a < 16) : (ints s)[a.toNat]? = some (.i (s.getD a.toNat 0)) := by
  rw [ints_get, getD_of 0 (by omega)]; rfl

theorem slotHas {M : Mdl} (w : M.Ok) {mu : Nat} {s : List Int} (hs : M.slots[mu]? = some s) {a : Int} (h : 0 ≤ a ∧ a < 16) (hz : s.getD a.toNat 0 ≠ 0) : M.has (s.getD a.toNat 0) := by
  have h1 := w.s16 _ (List.mem_of_getElem? hs)
  have h2 := h1.2 _ (List.mem_of_getElem? (getD_of (l := s) (i := a.toNat) 0 (by omega)))
  unfold Mdl.has; omega

def bornObj (x : Act) : Obj := ⟨x.nr, x.nd, x.sk, List.replicate x.nr.toNat 0, List.replicate x.nd.toNat 0⟩

structure Eff where
  told : List Int
  o : Int
  i : Int
  old : Int
  new : Int
  made : Int
  loaded : Int

def effOf (tv : CV) (e : Eff) : CV := .agg [tv, .i e.o, .i e.i, .i e.old, .i e.new, .i e.made, .i e.loaded]

/-- What an act comes to. -/
def DoesE (o : Tags) (g : Nat) (H : CHeap) (b : Nat) (M' : Mdl) (e : Eff) (r : Option (CV × CHeap)) : Prop :=
  ∃ H' o' L' tv, r = some (effOf tv e, H') ∧ MRep o' g H' b M' L' ∧ Frm g o H o' H' ∧ At (Loc H.length) z3 H' tv 1 e.told.length (ints e.told)

/-- A slot is changed. -/
theorem ActAt.setSlot {o : Tags} {g : Nat} {H Hf : CHeap} {b : Nat} {M : Mdl} {L : Lay} {ab : Nat} {x : Act} {mu : Nat} {s : List Int} {v : CV} {tl : Bool} (A : ActAt o g H b M L ab x mu s v tl) {s' : List Int} (hs' : s'.length = 16) {H0 : CHeap} (hl : H0.length ≤ H.length) (hl' : H.length ≤ Hf.length)
    (hd : ∀ c t, o c = some t → c < H0.length)
    (hc : Hf[blkOf v]? = some ⟨ints s', .rw, 1⟩) (hf : ∀ d, d < H.length → d ≠ blkOf v → Hf[d]? = H[d]?) (hk : ∀ c, c < H0.length → H[c]? = H0[c]?) :
    MRep o g Hf b { M with slots := M.slots.set mu s' } L ∧ Frm g o H0 o Hf := by
  refine ⟨A.m.setSlot A.hs hl' ?_ ?_, by omega, fun _ _ => rfl, fun c t h hc => by have := hd c t h; omega, ?_⟩
  · intro c k h hk
    refine hf c (A.m.dom c _ h) ?_
    rintro rfl
    rw [A.tag] at h
    simp only [Option.some.injEq, Prod.mk.injEq, true_and] at h
    exact hk h.symm
  · intro v' hv'
    rw [A.hv] at hv'
    simp only [Option.some.injEq] at hv'
    subst hv'
    exact .inr ⟨blkOf v, tl, A.ev, A.tag, hc, by simp [ints_len, hs']⟩
  · intro c hc' hk'
    rw [hf c (by omega) (by rintro rfl; exact hk' _ A.tag), hk c hc']
end Go.Cs

namespace Go.Cs.Try
open Go Go.Cs
set_option maxRecDepth 100000
section
variable {o : Tags} {g : Nat} {H : CHeap} {b : Nat} {M : Mdl} {L : Lay} {ab : Nat} {x : Act} {mu : Nat} {s : List Int} {v : CV} {tl : Bool}

theorem f80 {p : CV} : run P 80 [p] H = some (.i (-1), H) := by
  rw [run_lv c80]; simp (disch := first | omega | rfl | assumption | (simp only [csN, Nat.reduceAdd, Nat.reduceMul, Nat.reduceLeDiff, Nat.reduceEqDiff] <;> omega) | (simp only [csF]; done) | (simp only [csF] <;> assumption) | fail) only [Nat.reduceEqDiff, Nat.reduceAdd, Nat.reduceMul, Nat.reduceSub, Nat.reduceLeDiff, Int.reduceAdd, Int.reduceSub, Int.reduceMul, Int.reduceLT, Int.reduceLE, Int.reduceGT, Int.reduceGE, Int.reduceEq, Int.reduceBEq, Int.reduceBNe, Int.reduceNeg, Int.reduceToNat, csAll, ↓reduceIte, C80, entry_1]
theorem f97 {p : CV} : run P 97 [p] H = some (.i 16, H) := by
  rw [run_lv c97]; simp (disch := first | omega | rfl | assumption | (simp only [csN, Nat.reduceAdd, Nat.reduceMul, Nat.reduceLeDiff, Nat.reduceEqDiff] <;> omega) | (simp only [csF]; done) | (simp only [csF] <;> assumption) | fail) only [Nat.reduceEqDiff, Nat.reduceAdd, Nat.reduceMul, Nat.reduceSub, Nat.reduceLeDiff, Int.reduceAdd, Int.reduceSub, Int.reduceMul, Int.reduceLT, Int.reduceLE, Int.reduceGT, Int.reduceGE, Int.reduceEq, Int.reduceBEq, Int.reduceBNe, Int.reduceNeg, Int.reduceToNat, csAll, ↓reduceIte, C97, entry_1]
theorem f82 (A : ActAt o g H b M L ab x mu s v tl) : run P 82 [.ptr ab 0] H = some (.i x.b, H) := by
  have h := A.blk
  rw [run_lv c82]; simp (disch := first | omega | rfl | assumption | (simp only [csN, Nat.reduceAdd, Nat.reduceMul, Nat.reduceLeDiff, Nat.reduceEqDiff] <;> omega) | (simp only [csF]; done) | (simp only [csF] <;> assumption) | fail) only [Nat.reduceEqDiff, Nat.reduceAdd, Nat.reduceMul, Nat.reduceSub, Nat.reduceLeDiff, Int.reduceAdd, Int.reduceSub, Int.reduceMul, Int.reduceLT, Int.reduceLE, Int.reduceGT, Int.reduceGE, Int.reduceEq, Int.reduceBEq, Int.reduceBNe, Int.reduceNeg, Int.reduceToNat, csAll, ↓reduceIte, C82, entry_1, h]
theorem f86 (A : ActAt o g H b M L ab x mu s v tl) : run P 86 [.ptr ab 0] H = some (.i x.a, H) := by
  have h := A.blk
  rw [run_lv c86]; simp (disch := first | omega | rfl | assumption | (simp only [csN, Nat.reduceAdd, Nat.reduceMul, Nat.reduceLeDiff, Nat.reduceEqDiff] <;> omega) | (simp only [csF]; done) | (simp only [csF] <;> assumption) | fail) only [Nat.reduceEqDiff, Nat.reduceAdd, Nat.reduceMul, Nat.reduceSub, Nat.reduceLeDiff, Int.reduceAdd, Int.reduceSub, Int.reduceMul, Int.reduceLT, Int.reduceLE, Int.reduceGT, Int.reduceGE, Int.reduceEq, Int.reduceBEq, Int.reduceBNe, Int.reduceNeg, Int.reduceToNat, csAll, ↓reduceIte, C86, entry_1, h]

theorem f83 (A : ActAt o g H b M L ab x mu s v tl) (ha : 0 ≤ x.b ∧ x.b < 16) (hz : s.getD x.b.toNat 0 ≠ 0) : run P 83 [.ptr ab 0] H = some (.i (M.obj (s.getD x.b.toNat 0)).nr, H) := by
  have h := A.blk
  rw [A.ev] at h
  have h2 := A.cells
  have h3 := slotGet A.len ha
  have h4 := slotHas A.w A.hs ha hz
  have h5 := f74 A.m A.w _ h4
  obtain ⟨hh, rest, h0, h6, h7, -, -, -, -⟩ := A.m.objAt _ h4
  have h8 := drop0 h7
  rw [run_lv c83]
  simp (disch := first | omega | rfl | assumption | (simp only [csN, Nat.reduceAdd, Nat.reduceMul, Nat.reduceLeDiff, Nat.reduceEqDiff] <;> omega) | (simp only [csF]; done) | (simp only [csF] <;> assumption) | fail) only [Nat.reduceEqDiff, Nat.reduceAdd, Nat.reduceMul, Nat.reduceSub, Nat.reduceLeDiff, Int.reduceAdd, Int.reduceSub, Int.reduceMul, Int.reduceLT, Int.reduceLE, Int.reduceGT, Int.reduceGE, Int.reduceEq, Int.reduceBEq, Int.reduceBNe, Int.reduceNeg, Int.reduceToNat, csAll, ↓reduceIte, C83, entry_1, h, h2, h3, h5, h6, h8, drop_get, h7]
theorem f87 (A : ActAt o g H b M L ab x mu s v tl) (ha : 0 ≤ x.a ∧ x.a < 16) (hz : s.getD x.a.toNat 0 ≠ 0) : run P 87 [.ptr ab 0] H = some (.i (M.obj (s.getD x.a.toNat 0)).nr, H) := by
  have h := A.blk
  rw [A.ev] at h
  have h2 := A.cells
  have h3 := slotGet A.len ha
  have h4 := slotHas A.w A.hs ha hz
  have h5 := f74 A.m A.w _ h4
  obtain ⟨hh, rest, h0, h6, h7, -, -, -, -⟩ := A.m.objAt _ h4
  have h8 := drop0 h7
  rw [run_lv c87]
  simp (disch := first | omega | rfl | assumption | (simp only [csN, Nat.reduceAdd, Nat.reduceMul, Nat.reduceLeDiff, Nat.reduceEqDiff] <;> omega) | (simp only [csF]; done) | (simp only [csF] <;> assumption) | fail) only [Nat.reduceEqDiff, Nat.reduceAdd, Nat.reduceMul, Nat.reduceSub, Nat.reduceLeDiff, Int.reduceAdd, Int.reduceSub, Int.reduceMul, Int.reduceLT, Int.reduceLE, Int.reduceGT, Int.reduceGE, Int.reduceEq, Int.reduceBEq, Int.reduceBNe, Int.reduceNeg, Int.reduceToNat, csAll, ↓reduceIte, C87, entry_1, h, h2, h3, h5, h6, h8, drop_get, h7]
theorem f89 (A : ActAt o g H b M L ab x mu s v tl) (ha : 0 ≤ x.a ∧ x.a < 16) (hz : s.getD x.a.toNat 0 ≠ 0) : run P 89 [.ptr ab 0] H = some (.i (M.obj (s.getD x.a.toNat 0)).nd, H) := by
  have h := A.blk
  rw [A.ev] at h
  have h2 := A.cells
  have h3 := slotGet A.len ha
  have h4 := slotHas A.w A.hs ha hz
  have h5 := f74 A.m A.w _ h4
  obtain ⟨hh, rest, h0, h6, h7, -, -, -, -⟩ := A.m.objAt _ h4
  have h8 := drop0 h7
  rw [run_lv c89]
  simp (disch := first | omega | rfl | assumption | (simp only [csN, Nat.reduceAdd, Nat.reduceMul, Nat.reduceLeDiff, Nat.reduceEqDiff] <;> omega) | (simp only [csF]; done) | (simp only [csF] <;> assumption) | fail) only [Nat.reduceEqDiff, Nat.reduceAdd, Nat.reduceMul, Nat.reduceSub, Nat.reduceLeDiff, Int.reduceAdd, Int.reduceSub, Int.reduceMul, Int.reduceLT, Int.reduceLE, Int.reduceGT, Int.reduceGE, Int.reduceEq, Int.reduceBEq, Int.reduceBNe, Int.reduceNeg, Int.reduceToNat, csAll, ↓reduceIte, C89, entry_1, h, h2, h3, h5, h6, h8, drop_get, h7]

abbrev zEff : List CV := [.nilSlice, .i 0, .i 0, .i 0, .i 0, .i 0, .i 0]

/-- Setting the slot. -/
theorem f85 (A : ActAt o g H b M L ab x mu s v tl) (ha : 0 ≤ x.a ∧ x.a < 16) (z : Int) : run P 85 [.ptr ab 0, .i z] H =
    some (.agg [.nilSlice, .i 0, .i 0, .i 0, .i 0, .i 0, .i z], H.set (blkOf v) ⟨ints (s.set x.a.toNat z), .rw, 1⟩ ++ [⟨[.nilSlice, .i 0, .i 0, .i 0, .i 0, .i 0, .i z], .rw, 0⟩]) := by
  have h := A.blk
  rw [A.ev] at h
  have h2 := A.cells
  have hl := lt_of_get h
  have hl2 := lt_of_get h2
  have h3 : (Go.Cs.ints s).length = 16 := by rw [ints_len, A.len]
  rw [run_lv c85]
  simp (disch := first | omega | rfl | assumption | (simp only [csN, Nat.reduceAdd, Nat.reduceMul, Nat.reduceLeDiff, Nat.reduceEqDiff] <;> omega) | (simp only [csF]; done) | (simp only [csF] <;> assumption) | fail) only [Nat.reduceEqDiff, Nat.reduceAdd, Nat.reduceMul, Nat.reduceSub, Nat.reduceLeDiff, Int.reduceAdd, Int.reduceSub, Int.reduceMul, Int.reduceLT, Int.reduceLE, Int.reduceGT, Int.reduceGE, Int.reduceEq, Int.reduceBEq, Int.reduceBNe, Int.reduceNeg, Int.reduceToNat, csAll, ↓reduceIte, C85, entry_2, h, h2, h3, ints_set]

theorem f92 {tv : CV} (h : leaf tv = true) : run P 92 [tv] H = some (.agg [tv, .i 0, .i 0, .i 0, .i 0, .i 0, .i 0], H ++ [⟨[tv, .i 0, .i 0, .i 0, .i 0, .i 0, .i 0], .rw, 0⟩]) := by
  rw [run_lv c92]
  simp (disch := first | omega | rfl | assumption | (simp only [csN, Nat.reduceAdd, Nat.reduceMul, Nat.reduceLeDiff, Nat.reduceEqDiff] <;> omega) | (simp only [csF]; done) | (simp only [csF] <;> assumption) | fail) only [Nat.reduceEqDiff, Nat.reduceAdd, Nat.reduceMul, Nat.reduceSub, Nat.reduceLeDiff, Int.reduceAdd, Int.reduceSub, Int.reduceMul, Int.reduceLT, Int.reduceLE, Int.reduceGT, Int.reduceGE, Int.reduceEq, Int.reduceBEq, Int.reduceBNe, Int.reduceNeg, Int.reduceToNat, csAll, ↓reduceIte, C92, entry_1]

/-- ActLoad. -/
theorem e84 (A : ActAt o g H b M L ab x mu s v tl) (ha : 0 ≤ x.a ∧ x.a < 16) (hb : 0 ≤ x.b ∧ x.b < 16) (hz : s.getD x.b.toNat 0 ≠ 0) (hi : 0 ≤ x.i ∧ x.i < (M.obj (s.getD x.b.toNat 0)).nr) :
    DoesE o g H b { M with slots := M.slots.set mu (s.set x.a.toNat ((M.obj (s.getD x.b.toNat 0)).refs.getD x.i.toNat 0)) } ⟨[], 0, 0, 0, 0, 0, (M.obj (s.getD x.b.toNat 0)).refs.getD x.i.toNat 0⟩ (run P 84 [.ptr ab 0] H) := by
  have h := A.blk
  rw [A.ev] at h
  have h2 := A.cells
  have hl := lt_of_get h
  have hl2 := lt_of_get h2
  have h3 := slotGet A.len hb
  have h4 := slotHas A.w A.hs hb hz
  have A' := A.app [⟨zEff, .rw, 0⟩]
  have h5 := f74 A'.m A.w _ h4
  obtain ⟨hh, rest, h0, h6, h7, -, ht, h8, -⟩ := A.m.objAt _ h4
  have hl3 := A.m.dom _ _ ht
  have hnr := (A.w.obj h4).nr
  obtain ⟨tl', d1, d2, d3, d4⟩ := h8.pos (by omega)
  have hl4 := A.m.dom _ _ d2
  have h9 : (Go.Cs.ints (M.obj (s.getD x.b.toNat 0)).refs)[x.i.toNat]? = some (.i ((M.obj (s.getD x.b.toNat 0)).refs.getD x.i.toNat 0)) := by
    rw [ints_get, getD_of 0 (by omega)]; rfl
  rw [d1] at h7
  have h10 := f85 A' ha ((M.obj (s.getD x.b.toNat 0)).refs.getD x.i.toNat 0)
  rw [set_lt hl2] at h10
  obtain ⟨m1, m2⟩ := A.setSlot (Hf := H.set (blkOf v) ⟨Go.Cs.ints (s.set x.a.toNat ((M.obj (s.getD x.b.toNat 0)).refs.getD x.i.toNat 0)), .rw, 1⟩ ++ [⟨[.nilSlice, .i 0, .i 0, .i 0, .i 0, .i 0, .i ((M.obj (s.getD x.b.toNat 0)).refs.getD x.i.toNat 0)], .rw, 0⟩] ++ [⟨[.nilSlice, .i 0, .i 0, .i 0, .i 0, .i 0, .i ((M.obj (s.getD x.b.toNat 0)).refs.getD x.i.toNat 0)], .rw, 0⟩])
    (s' := s.set x.a.toNat ((M.obj (s.getD x.b.toNat 0)).refs.getD x.i.toNat 0)) (by simp [A.len]) (Nat.le_refl _) (by simp) A.m.dom
    (by simp (disch := first | omega | rfl | assumption | (simp only [csN, Nat.reduceAdd, Nat.reduceMul, Nat.reduceLeDiff, Nat.reduceEqDiff] <;> omega) | (simp only [csF]; done) | (simp only [csF] <;> assumption) | fail) only [Nat.reduceEqDiff, Nat.reduceAdd, Nat.reduceMul, Nat.reduceSub, Nat.reduceLeDiff, Int.reduceAdd, Int.reduceSub, Int.reduceMul, Int.reduceLT, Int.reduceLE, Int.reduceGT, Int.reduceGE, Int.reduceEq, Int.reduceBEq, Int.reduceBNe, Int.reduceNeg, Int.reduceToNat, csAll, ↓reduceIte]) (fun d hd hd' => by simp (disch := first | omega | rfl | assumption | (simp only [csN, Nat.reduceAdd, Nat.reduceMul, Nat.reduceLeDiff, Nat.reduceEqDiff] <;> omega) | (simp only [csF]; done) | (simp only [csF] <;> assumption) | fail) only [Nat.reduceEqDiff, Nat.reduceAdd, Nat.reduceMul, Nat.reduceSub, Nat.reduceLeDiff, Int.reduceAdd, Int.reduceSub, Int.reduceMul, Int.reduceLT, Int.reduceLE, Int.reduceGT, Int.reduceGE, Int.reduceEq, Int.reduceBEq, Int.reduceBNe, Int.reduceNeg, Int.reduceToNat, csAll, ↓reduceIte]) (fun _ _ => rfl)
  refine ⟨_, o, L, .nilSlice, ?_, m1, m2, .inl ⟨rfl, rfl, .inl rfl⟩⟩
  rw [run_lv c84]
  simp (disch := first | omega | rfl | assumption | (simp only [csN, Nat.reduceAdd, Nat.reduceMul, Nat.reduceLeDiff, Nat.reduceEqDiff] <;> omega) | (simp only [csF]; done) | (simp only [csF] <;> assumption) | fail) only [Nat.reduceEqDiff, Nat.reduceAdd, Nat.reduceMul, Nat.reduceSub, Nat.reduceLeDiff, Int.reduceAdd, Int.reduceSub, Int.reduceMul, Int.reduceLT, Int.reduceLE, Int.reduceGT, Int.reduceGE, Int.reduceEq, Int.reduceBEq, Int.reduceBNe, Int.reduceNeg, Int.reduceToNat, csAll, ↓reduceIte, C84, entry_1, h, h2, h3, h5, h6, drop_get, h7, d3, h9, h10, effOf]
end
end Go.Cs.Try

/- What the effects of acts do, further ones. -/
namespace Go.Cs.Try
open Go Go.Cs
set_option maxRecDepth 100000
section
variable {o : Tags} {g : Nat} {H : CHeap} {b : Nat} {M : Mdl} {L : Lay} {ab : Nat} {x : Act} {mu : Nat} {s : List Int} {v : CV} {tl : Bool}

theorem At.nil {o : Tags} {t : Tag} {H : CHeap} : At o t H .nilSlice 1 0 [] := .inl ⟨rfl, rfl, .inl rfl⟩

/-- ActCopy. -/
theorem e93 (A : ActAt o g H b M L ab x mu s v tl) (ha : 0 ≤ x.a ∧ x.a < 16) (hb : 0 ≤ x.b ∧ x.b < 16) :
    DoesE o g H b { M with slots := M.slots.set mu (s.set x.a.toNat (s.getD x.b.toNat 0)) } ⟨[], 0, 0, 0, 0, 0, s.getD x.b.toNat 0⟩ (run P 93 [.ptr ab 0] H) := by
  have h := A.blk
  rw [A.ev] at h
  have h2 := A.cells
  have hl := lt_of_get h
  have hl2 := lt_of_get h2
  have h3 := slotGet A.len hb
  have A' := A.app [⟨zEff, .rw, 0⟩]
  generalize hz : s.getD x.b.toNat 0 = z at *
  have h10 := f85 A' ha z
  rw [set_lt hl2] at h10
  obtain ⟨m1, m2⟩ := A.setSlot (Hf := H.set (blkOf v) ⟨Go.Cs.ints (s.set x.a.toNat z), .rw, 1⟩ ++ [⟨[.nilSlice, .i 0, .i 0, .i 0, .i 0, .i 0, .i z], .rw, 0⟩] ++ [⟨[.nilSlice, .i 0, .i 0, .i 0, .i 0, .i 0, .i z], .rw, 0⟩])
    (s' := s.set x.a.toNat z) (by simp [A.len]) (Nat.le_refl _) (by simp) A.m.dom
    (by simp (disch := first | omega | rfl | assumption | (simp only [csN, Nat.reduceAdd, Nat.reduceMul, Nat.reduceLeDiff, Nat.reduceEqDiff] <;> omega) | (simp only [csF]; done) | (simp only [csF] <;> assumption) | fail) only [Nat.reduceEqDiff, Nat.reduceAdd, Nat.reduceMul, Nat.reduceSub, Nat.reduceLeDiff, Int.reduceAdd, Int.reduceSub, Int.reduceMul, Int.reduceLT, Int.reduceLE, Int.reduceGT, Int.reduceGE, Int.reduceEq, Int.reduceBEq, Int.reduceBNe, Int.reduceNeg, Int.reduceToNat, csAll, ↓reduceIte]) (fun d hd hd' => by simp (disch := first | omega | rfl | assumption | (simp only [csN, Nat.reduceAdd, Nat.reduceMul, Nat.reduceLeDiff, Nat.reduceEqDiff] <;> omega) | (simp only [csF]; done) | (simp only [csF] <;> assumption) | fail) only [Nat.reduceEqDiff, Nat.reduceAdd, Nat.reduceMul, Nat.reduceSub, Nat.reduceLeDiff, Int.reduceAdd, Int.reduceSub, Int.reduceMul, Int.reduceLT, Int.reduceLE, Int.reduceGT, Int.reduceGE, Int.reduceEq, Int.reduceBEq, Int.reduceBNe, Int.reduceNeg, Int.reduceToNat, csAll, ↓reduceIte]) (fun _ _ => rfl)
  refine ⟨_, o, L, .nilSlice, ?_, m1, m2, At.nil⟩
  rw [run_lv c93]
  simp (disch := first | omega | rfl | assumption | (simp only [csN, Nat.reduceAdd, Nat.reduceMul, Nat.reduceLeDiff, Nat.reduceEqDiff] <;> omega) | (simp only [csF]; done) | (simp only [csF] <;> assumption) | fail) only [Nat.reduceEqDiff, Nat.reduceAdd, Nat.reduceMul, Nat.reduceSub, Nat.reduceLeDiff, Int.reduceAdd, Int.reduceSub, Int.reduceMul, Int.reduceLT, Int.reduceLE, Int.reduceGT, Int.reduceGE, Int.reduceEq, Int.reduceBEq, Int.reduceBNe, Int.reduceNeg, Int.reduceToNat, csAll, ↓reduceIte, C93, entry_1, h, h2, h3, h10, effOf]

/-- ActDrop. -/
theorem e94 (A : ActAt o g H b M L ab x mu s v tl) (ha : 0 ≤ x.a ∧ x.a < 16) :
    DoesE o g H b { M with slots := M.slots.set mu (s.set x.a.toNat 0) } ⟨[], 0, 0, 0, 0, 0, 0⟩ (run P 94 [.ptr ab 0] H) := by
  have h := A.blk
  rw [A.ev] at h
  have h2 := A.cells
  have hl := lt_of_get h
  have hl2 := lt_of_get h2
  have h3 : (Go.Cs.ints s).length = 16 := by rw [ints_len, A.len]
  obtain ⟨m1, m2⟩ := A.setSlot (Hf := H.set (blkOf v) ⟨Go.Cs.ints (s.set x.a.toNat 0), .rw, 1⟩ ++ [⟨zEff, .rw, 0⟩])
    (s' := s.set x.a.toNat 0) (by simp [A.len]) (Nat.le_refl _) (by simp) A.m.dom
    (by simp (disch := first | omega | rfl | assumption | (simp only [csN, Nat.reduceAdd, Nat.reduceMul, Nat.reduceLeDiff, Nat.reduceEqDiff] <;> omega) | (simp only [csF]; done) | (simp only [csF] <;> assumption) | fail) only [Nat.reduceEqDiff, Nat.reduceAdd, Nat.reduceMul, Nat.reduceSub, Nat.reduceLeDiff, Int.reduceAdd, Int.reduceSub, Int.reduceMul, Int.reduceLT, Int.reduceLE, Int.reduceGT, Int.reduceGE, Int.reduceEq, Int.reduceBEq, Int.reduceBNe, Int.reduceNeg, Int.reduceToNat, csAll, ↓reduceIte]) (fun d hd hd' => by simp (disch := first | omega | rfl | assumption | (simp only [csN, Nat.reduceAdd, Nat.reduceMul, Nat.reduceLeDiff, Nat.reduceEqDiff] <;> omega) | (simp only [csF]; done) | (simp only [csF] <;> assumption) | fail) only [Nat.reduceEqDiff, Nat.reduceAdd, Nat.reduceMul, Nat.reduceSub, Nat.reduceLeDiff, Int.reduceAdd, Int.reduceSub, Int.reduceMul, Int.reduceLT, Int.reduceLE, Int.reduceGT, Int.reduceGE, Int.reduceEq, Int.reduceBEq, Int.reduceBNe, Int.reduceNeg, Int.reduceToNat, csAll, ↓reduceIte]) (fun _ _ => rfl)
  refine ⟨_, o, L, .nilSlice, ?_, m1, m2, At.nil⟩
  rw [run_lv c94]
  simp (disch := first | omega | rfl | assumption | (simp only [csN, Nat.reduceAdd, Nat.reduceMul, Nat.reduceLeDiff, Nat.reduceEqDiff] <;> omega) | (simp only [csF]; done) | (simp only [csF] <;> assumption) | fail) only [Nat.reduceEqDiff, Nat.reduceAdd, Nat.reduceMul, Nat.reduceSub, Nat.reduceLeDiff, Int.reduceAdd, Int.reduceSub, Int.reduceMul, Int.reduceLT, Int.reduceLE, Int.reduceGT, Int.reduceGE, Int.reduceEq, Int.reduceBEq, Int.reduceBNe, Int.reduceNeg, Int.reduceToNat, csAll, ↓reduceIte, C94, entry_1, h, h2, h3, effOf, ints_set]

/-- What tells numbers. -/
theorem tells {l : List Int} {H1 H2 : CHeap} {n : Nat} {r : Option (CV × CHeap)} (m : MRep o g H b M L) (hl : l.length = n) (hr : r = some (effOf (.slice (H.length + 1) 0 n n 1 false) ⟨l, 0, 0, 0, 0, 0, 0⟩, H ++ [⟨[.slice (H.length + 1) 0 n n 1 false, .i 0, .i 0, .i 0, .i 0, .i 0, .i 0], .rw, 0⟩] ++ [⟨Go.Cs.ints l, .rw, 1⟩] ++ [⟨[.slice (H.length + 1) 0 n n 1 false, .i 0, .i 0, .i 0, .i 0, .i 0, .i 0], .rw, 0⟩])) :
    DoesE o g H b M ⟨l, 0, 0, 0, 0, 0, 0⟩ r := by
  subst hr
  refine ⟨_, o, L, _, rfl, ((m.app _).app _).app _, .grow m.dom (by simp) (fun c hc => by simp (disch := first | omega | rfl | assumption | (simp only [csN, Nat.reduceAdd, Nat.reduceMul, Nat.reduceLeDiff, Nat.reduceEqDiff] <;> omega) | (simp only [csF]; done) | (simp only [csF] <;> assumption) | fail) only [Nat.reduceEqDiff, Nat.reduceAdd, Nat.reduceMul, Nat.reduceSub, Nat.reduceLeDiff, Int.reduceAdd, Int.reduceSub, Int.reduceMul, Int.reduceLT, Int.reduceLE, Int.reduceGT, Int.reduceGE, Int.reduceEq, Int.reduceBEq, Int.reduceBNe, Int.reduceNeg, Int.reduceToNat, csAll, ↓reduceIte]), .inr ⟨_, _, by rw [hl], Loc_some.2 ⟨by omega, rfl⟩, by simp (disch := first | omega | rfl | assumption | (simp only [csN, Nat.reduceAdd, Nat.reduceMul, Nat.reduceLeDiff, Nat.reduceEqDiff] <;> omega) | (simp only [csF]; done) | (simp only [csF] <;> assumption) | fail) only [Nat.reduceEqDiff, Nat.reduceAdd, Nat.reduceMul, Nat.reduceSub, Nat.reduceLeDiff, Int.reduceAdd, Int.reduceSub, Int.reduceMul, Int.reduceLT, Int.reduceLE, Int.reduceGT, Int.reduceGE, Int.reduceEq, Int.reduceBEq, Int.reduceBNe, Int.reduceNeg, Int.reduceToNat, csAll, ↓reduceIte], by simp [ints_len]⟩⟩

/-- ActIdent. -/
theorem e96 (A : ActAt o g H b M L ab x mu s v tl) (ha : 0 ≤ x.a ∧ x.a < 16) : DoesE o g H b M ⟨[s.getD x.a.toNat 0], 0, 0, 0, 0, 0, 0⟩ (run P 96 [.ptr ab 0] H) := by
  have h := A.blk
  rw [A.ev] at h
  have h2 := A.cells
  have hl := lt_of_get h
  have hl2 := lt_of_get h2
  have h3 := slotGet A.len ha
  refine tells (H1 := H) (H2 := H) A.m rfl ?_
  rw [run_lv c96]
  simp (disch := first | omega | rfl | assumption | (simp only [csN, Nat.reduceAdd, Nat.reduceMul, Nat.reduceLeDiff, Nat.reduceEqDiff] <;> omega) | (simp only [csF]; done) | (simp only [csF] <;> assumption) | fail) only [Nat.reduceEqDiff, Nat.reduceAdd, Nat.reduceMul, Nat.reduceSub, Nat.reduceLeDiff, Int.reduceAdd, Int.reduceSub, Int.reduceMul, Int.reduceLT, Int.reduceLE, Int.reduceGT, Int.reduceGE, Int.reduceEq, Int.reduceBEq, Int.reduceBNe, Int.reduceNeg, Int.reduceToNat, csAll, ↓reduceIte, C96, entry_1, h, h2, h3, effOf, f92, ints_cons, ints_nil]

/-- ActSame. -/
theorem e95 (A : ActAt o g H b M L ab x mu s v tl) (ha : 0 ≤ x.a ∧ x.a < 16) (hb : 0 ≤ x.b ∧ x.b < 16) : DoesE o g H b M ⟨[if s.getD x.a.toNat 0 = s.getD x.b.toNat 0 then 1 else 0], 0, 0, 0, 0, 0, 0⟩ (run P 95 [.ptr ab 0] H) := by
  have h := A.blk
  rw [A.ev] at h
  have h2 := A.cells
  have hl := lt_of_get h
  have hl2 := lt_of_get h2
  have h3 := slotGet A.len ha
  have h3' := slotGet A.len hb
  refine tells (H1 := H) (H2 := H) A.m rfl ?_
  rw [run_lv c95]
  generalize s.getD x.a.toNat 0 = p at *
  generalize s.getD x.b.toNat 0 = q at *
  by_cases e : p = q
  · simp (disch := first | omega | rfl | assumption | (simp only [csN, Nat.reduceAdd, Nat.reduceMul, Nat.reduceLeDiff, Nat.reduceEqDiff] <;> omega) | (simp only [csF]; done) | (simp only [csF] <;> assumption) | fail) only [Nat.reduceEqDiff, Nat.reduceAdd, Nat.reduceMul, Nat.reduceSub, Nat.reduceLeDiff, Int.reduceAdd, Int.reduceSub, Int.reduceMul, Int.reduceLT, Int.reduceLE, Int.reduceGT, Int.reduceGE, Int.reduceEq, Int.reduceBEq, Int.reduceBNe, Int.reduceNeg, Int.reduceToNat, csAll, ↓reduceIte, C95, entry_1, h, h2, h3, h3', effOf, f92, ints_cons, ints_nil, if_pos e]
  · simp (disch := first | omega | rfl | assumption | (simp only [csN, Nat.reduceAdd, Nat.reduceMul, Nat.reduceLeDiff, Nat.reduceEqDiff] <;> omega) | (simp only [csF]; done) | (simp only [csF] <;> assumption) | fail) only [Nat.reduceEqDiff, Nat.reduceAdd, Nat.reduceMul, Nat.reduceSub, Nat.reduceLeDiff, Int.reduceAdd, Int.reduceSub, Int.reduceMul, Int.reduceLT, Int.reduceLE, Int.reduceGT, Int.reduceGE, Int.reduceEq, Int.reduceBEq, Int.reduceBNe, Int.reduceNeg, Int.reduceToNat, csAll, ↓reduceIte, C95, entry_1, h, h2, h3, h3', effOf, f92, ints_cons, ints_nil, if_neg e]

/-- ActImport. -/
theorem e99 (A : ActAt o g H b M L ab x mu s v tl) (ha : 0 ≤ x.a ∧ x.a < 16) (hi : 0 ≤ x.i ∧ x.i < 16) :
    DoesE o g H b { M with slots := M.slots.set mu (s.set x.a.toNat (M.globals.getD x.i.toNat 0)) } ⟨[], 0, 0, 0, 0, 0, M.globals.getD x.i.toNat 0⟩ (run P 99 [.ptr ab 0] H) := by
  have h := A.blk
  rw [A.ev] at h
  have h2 := A.cells
  have hl := lt_of_get h
  have hl2 := lt_of_get h2
  have h3 := slotGet A.w.g16.1 hi
  have A' := A.app [⟨zEff, .rw, 0⟩]
  have hc := A.m.cells
  obtain ⟨tl', d1, d2, d3, d4⟩ := A.m.globals.pos (by omega)
  have hl3 := lt_of_get d3
  have hl4 := lt_of_get hc
  rw [d1] at hc
  generalize hz : M.globals.getD x.i.toNat 0 = z at *
  have h10 := f85 A' ha z
  rw [set_lt hl2] at h10
  obtain ⟨m1, m2⟩ := A.setSlot (Hf := H.set (blkOf v) ⟨Go.Cs.ints (s.set x.a.toNat z), .rw, 1⟩ ++ [⟨[.nilSlice, .i 0, .i 0, .i 0, .i 0, .i 0, .i z], .rw, 0⟩] ++ [⟨[.nilSlice, .i 0, .i 0, .i 0, .i 0, .i 0, .i z], .rw, 0⟩])
    (s' := s.set x.a.toNat z) (by simp [A.len]) (Nat.le_refl _) (by simp) A.m.dom
    (by simp (disch := first | omega | rfl | assumption | (simp only [csN, Nat.reduceAdd, Nat.reduceMul, Nat.reduceLeDiff, Nat.reduceEqDiff] <;> omega) | (simp only [csF]; done) | (simp only [csF] <;> assumption) | fail) only [Nat.reduceEqDiff, Nat.reduceAdd, Nat.reduceMul, Nat.reduceSub, Nat.reduceLeDiff, Int.reduceAdd, Int.reduceSub, Int.reduceMul, Int.reduceLT, Int.reduceLE, Int.reduceGT, Int.reduceGE, Int.reduceEq, Int.reduceBEq, Int.reduceBNe, Int.reduceNeg, Int.reduceToNat, csAll, ↓reduceIte]) (fun d hd hd' => by simp (disch := first | omega | rfl | assumption | (simp only [csN, Nat.reduceAdd, Nat.reduceMul, Nat.reduceLeDiff, Nat.reduceEqDiff] <;> omega) | (simp only [csF]; done) | (simp only [csF] <;> assumption) | fail) only [Nat.reduceEqDiff, Nat.reduceAdd, Nat.reduceMul, Nat.reduceSub, Nat.reduceLeDiff, Int.reduceAdd, Int.reduceSub, Int.reduceMul, Int.reduceLT, Int.reduceLE, Int.reduceGT, Int.reduceGE, Int.reduceEq, Int.reduceBEq, Int.reduceBNe, Int.reduceNeg, Int.reduceToNat, csAll, ↓reduceIte]) (fun _ _ => rfl)
  refine ⟨_, o, L, .nilSlice, ?_, m1, m2, At.nil⟩
  rw [run_lv c99]
  simp (disch := first | omega | rfl | assumption | (simp only [csN, Nat.reduceAdd, Nat.reduceMul, Nat.reduceLeDiff, Nat.reduceEqDiff] <;> omega) | (simp only [csF]; done) | (simp only [csF] <;> assumption) | fail) only [Nat.reduceEqDiff, Nat.reduceAdd, Nat.reduceMul, Nat.reduceSub, Nat.reduceLeDiff, Int.reduceAdd, Int.reduceSub, Int.reduceMul, Int.reduceLT, Int.reduceLE, Int.reduceGT, Int.reduceGE, Int.reduceEq, Int.reduceBEq, Int.reduceBNe, Int.reduceNeg, Int.reduceToNat, csAll, ↓reduceIte, C99, entry_1, h, hc, d3, h2, h3, h10, effOf]

/-- ActExport. -/
theorem e98 (A : ActAt o g H b M L ab x mu s v tl) (ha : 0 ≤ x.a ∧ x.a < 16) (hi : 0 ≤ x.i ∧ x.i < 16) :
    DoesE o g H b { M with globals := M.globals.set x.i.toNat (s.getD x.a.toNat 0) } ⟨[], 0, 0, 0, 0, 0, 0⟩ (run P 98 [.ptr ab 0] H) := by
  have h := A.blk
  rw [A.ev] at h
  have h2 := A.cells
  have hl := lt_of_get h
  have hl2 := lt_of_get h2
  have h3 := slotGet A.len ha
  have hc := A.m.cells
  obtain ⟨tl', d1, d2, d3, d4⟩ := A.m.globals.pos (by omega)
  have hl3 := lt_of_get d3
  have hl4 := lt_of_get hc
  have hg : (Go.Cs.ints M.globals).length = 16 := by rw [ints_len, A.w.g16.1]
  rw [d1] at hc
  generalize hz : s.getD x.a.toNat 0 = z at *
  refine ⟨H.set (blkOf L.gl) ⟨Go.Cs.ints (M.globals.set x.i.toNat z), .rw, 1⟩ ++ [⟨zEff, .rw, 0⟩], o, L, .nilSlice, ?_, ?_, ?_, At.nil⟩
  · rw [run_lv c98]
    simp (disch := first | omega | rfl | assumption | (simp only [csN, Nat.reduceAdd, Nat.reduceMul, Nat.reduceLeDiff, Nat.reduceEqDiff] <;> omega) | (simp only [csF]; done) | (simp only [csF] <;> assumption) | fail) only [Nat.reduceEqDiff, Nat.reduceAdd, Nat.reduceMul, Nat.reduceSub, Nat.reduceLeDiff, Int.reduceAdd, Int.reduceSub, Int.reduceMul, Int.reduceLT, Int.reduceLE, Int.reduceGT, Int.reduceGE, Int.reduceEq, Int.reduceBEq, Int.reduceBNe, Int.reduceNeg, Int.reduceToNat, csAll, ↓reduceIte, C98, entry_1, h, hc, d3, h2, h3, effOf, hg, ints_set]
  · refine A.m.setGlobals (by simp) (fun c k hk hk' => ?_) (.inr ⟨_, _, d1, d2, by simp (disch := first | omega | rfl | assumption | (simp only [csN, Nat.reduceAdd, Nat.reduceMul, Nat.reduceLeDiff, Nat.reduceEqDiff] <;> omega) | (simp only [csF]; done) | (simp only [csF] <;> assumption) | fail) only [Nat.reduceEqDiff, Nat.reduceAdd, Nat.reduceMul, Nat.reduceSub, Nat.reduceLeDiff, Int.reduceAdd, Int.reduceSub, Int.reduceMul, Int.reduceLT, Int.reduceLE, Int.reduceGT, Int.reduceGE, Int.reduceEq, Int.reduceBEq, Int.reduceBNe, Int.reduceNeg, Int.reduceToNat, csAll, ↓reduceIte], by simp [ints_len, A.w.g16.1]⟩)
    have hcl := A.m.dom c _ hk
    have : c ≠ blkOf L.gl := by
      rintro rfl
      rw [d2] at hk
      simp only [Option.some.injEq, Prod.mk.injEq, true_and] at hk
      exact hk' hk.symm
    simp (disch := first | omega | rfl | assumption | (simp only [csN, Nat.reduceAdd, Nat.reduceMul, Nat.reduceLeDiff, Nat.reduceEqDiff] <;> omega) | (simp only [csF]; done) | (simp only [csF] <;> assumption) | fail) only [Nat.reduceEqDiff, Nat.reduceAdd, Nat.reduceMul, Nat.reduceSub, Nat.reduceLeDiff, Int.reduceAdd, Int.reduceSub, Int.reduceMul, Int.reduceLT, Int.reduceLE, Int.reduceGT, Int.reduceGE, Int.reduceEq, Int.reduceBEq, Int.reduceBNe, Int.reduceNeg, Int.reduceToNat, csAll, ↓reduceIte]
  · refine ⟨by simp, fun _ _ => rfl, fun c t h hc => by have := A.m.dom c t h; omega, fun c hcl hk => ?_⟩
    have : c ≠ blkOf L.gl := by rintro rfl; exact hk _ d2
    simp (disch := first | omega | rfl | assumption | (simp only [csN, Nat.reduceAdd, Nat.reduceMul, Nat.reduceLeDiff, Nat.reduceEqDiff] <;> omega) | (simp only [csF]; done) | (simp only [csF] <;> assumption) | fail) only [Nat.reduceEqDiff, Nat.reduceAdd, Nat.reduceMul, Nat.reduceSub, Nat.reduceLeDiff, Int.reduceAdd, Int.reduceSub, Int.reduceMul, Int.reduceLT, Int.reduceLE, Int.reduceGT, Int.reduceGE, Int.reduceEq, Int.reduceBEq, Int.reduceBNe, Int.reduceNeg, Int.reduceToNat, csAll, ↓reduceIte]

/-- ActGet. -/
theorem e91 (A : ActAt o g H b M L ab x mu s v tl) (ha : 0 ≤ x.a ∧ x.a < 16) (hz : s.getD x.a.toNat 0 ≠ 0) (hi : 0 ≤ x.i ∧ x.i < (M.obj (s.getD x.a.toNat 0)).nd) :
    DoesE o g H b M ⟨[(M.obj (s.getD x.a.toNat 0)).data.getD x.i.toNat 0], 0, 0, 0, 0, 0, 0⟩ (run P 91 [.ptr ab 0] H) := by
  have h := A.blk
  rw [A.ev] at h
  have h2 := A.cells
  have hl := lt_of_get h
  have hl2 := lt_of_get h2
  have h3 := slotGet A.len ha
  have h4 := slotHas A.w A.hs ha hz
  have A' := A.app [⟨zEff, .rw, 0⟩]
  have h5 := f74 A'.m A.w _ h4
  obtain ⟨hh, rest, h0, h6, h7, -, ht, -, h8⟩ := A.m.objAt _ h4
  have hl3 := A.m.dom _ _ ht
  have hnd := (A.w.obj h4).nd
  obtain ⟨tl', d1, d2, d3, d4⟩ := h8.pos (by omega)
  have hl4 := A.m.dom _ _ d2
  have h9 : (Go.Cs.ints (M.obj (s.getD x.a.toNat 0)).data)[x.i.toNat]? = some (.i ((M.obj (s.getD x.a.toNat 0)).data.getD x.i.toNat 0)) := by
    rw [ints_get, getD_of 0 (by omega)]; rfl
  rw [d1] at h7
  refine tells (H1 := H) (H2 := H) A.m rfl ?_
  rw [run_lv c91]
  simp (disch := first | omega | rfl | assumption | (simp only [csN, Nat.reduceAdd, Nat.reduceMul, Nat.reduceLeDiff, Nat.reduceEqDiff] <;> omega) | (simp only [csF]; done) | (simp only [csF] <;> assumption) | fail) only [Nat.reduceEqDiff, Nat.reduceAdd, Nat.reduceMul, Nat.reduceSub, Nat.reduceLeDiff, Int.reduceAdd, Int.reduceSub, Int.reduceMul, Int.reduceLT, Int.reduceLE, Int.reduceGT, Int.reduceGE, Int.reduceEq, Int.reduceBEq, Int.reduceBNe, Int.reduceNeg, Int.reduceToNat, csAll, ↓reduceIte, C91, entry_1, h, h2, h3, h5, h6, drop_get, h7, d3, h9, effOf, f92, ints_cons, ints_nil]

/-- ActShape. -/
theorem e100 (A : ActAt o g H b M L ab x mu s v tl) (ha : 0 ≤ x.a ∧ x.a < 16) (hz : s.getD x.a.toNat 0 ≠ 0) :
    DoesE o g H b M ⟨[(M.obj (s.getD x.a.toNat 0)).nr, (M.obj (s.getD x.a.toNat 0)).nd, (M.obj (s.getD x.a.toNat 0)).kd], 0, 0, 0, 0, 0, 0⟩ (run P 100 [.ptr ab 0] H) := by
  have h := A.blk
  rw [A.ev] at h
  have h2 := A.cells
  have hl := lt_of_get h
  have hl2 := lt_of_get h2
  have h3 := slotGet A.len ha
  have h4 := slotHas A.w A.hs ha hz
  have A' := A.app [⟨zEff, .rw, 0⟩]
  have h5 := f74 A'.m A.w _ h4
  obtain ⟨hh, rest, h0, h6, h7, h7', ht, -, -⟩ := A.m.objAt _ h4
  have hl3 := A.m.dom _ _ ht
  generalize hx : M.obj (s.getD x.a.toNat 0) = xx at *
  refine ⟨H ++ [⟨[.slice (H.length + 2) 0 3 3 1 false, .i 0, .i 0, .i 0, .i 0, .i 0, .i 0], .rw, 0⟩] ++ [⟨[.i xx.nr, .i xx.nd, .i xx.kd], .rw, 0⟩] ++ [⟨[.i xx.nr, .i xx.nd, .i xx.kd], .rw, 1⟩] ++ [⟨[.slice (H.length + 2) 0 3 3 1 false, .i 0, .i 0, .i 0, .i 0, .i 0, .i 0], .rw, 0⟩], o, L, .slice (H.length + 2) 0 3 3 1 false, ?_,
    (((A.m.app _).app _).app _).app _, .grow A.m.dom (by simp) (fun c hc => by simp (disch := first | omega | rfl | assumption | (simp only [csN, Nat.reduceAdd, Nat.reduceMul, Nat.reduceLeDiff, Nat.reduceEqDiff] <;> omega) | (simp only [csF]; done) | (simp only [csF] <;> assumption) | fail) only [Nat.reduceEqDiff, Nat.reduceAdd, Nat.reduceMul, Nat.reduceSub, Nat.reduceLeDiff, Int.reduceAdd, Int.reduceSub, Int.reduceMul, Int.reduceLT, Int.reduceLE, Int.reduceGT, Int.reduceGE, Int.reduceEq, Int.reduceBEq, Int.reduceBNe, Int.reduceNeg, Int.reduceToNat, csAll, ↓reduceIte]), .inr ⟨_, _, rfl, Loc_some.2 ⟨by omega, rfl⟩, by simp (disch := first | omega | rfl | assumption | (simp only [csN, Nat.reduceAdd, Nat.reduceMul, Nat.reduceLeDiff, Nat.reduceEqDiff] <;> omega) | (simp only [csF]; done) | (simp only [csF] <;> assumption) | fail) only [Nat.reduceEqDiff, Nat.reduceAdd, Nat.reduceMul, Nat.reduceSub, Nat.reduceLeDiff, Int.reduceAdd, Int.reduceSub, Int.reduceMul, Int.reduceLT, Int.reduceLE, Int.reduceGT, Int.reduceGE, Int.reduceEq, Int.reduceBEq, Int.reduceBNe, Int.reduceNeg, Int.reduceToNat, csAll, ↓reduceIte, ints_cons, ints_nil], rfl⟩⟩
  rw [run_lv c100]
  simp (disch := first | omega | rfl | assumption | (simp only [csN, Nat.reduceAdd, Nat.reduceMul, Nat.reduceLeDiff, Nat.reduceEqDiff] <;> omega) | (simp only [csF]; done) | (simp only [csF] <;> assumption) | fail) only [Nat.reduceEqDiff, Nat.reduceAdd, Nat.reduceMul, Nat.reduceSub, Nat.reduceLeDiff, Int.reduceAdd, Int.reduceSub, Int.reduceMul, Int.reduceLT, Int.reduceLE, Int.reduceGT, Int.reduceGE, Int.reduceEq, Int.reduceBEq, Int.reduceBNe, Int.reduceNeg, Int.reduceToNat, csAll, ↓reduceIte, C100, entry_1, h, h2, h3, h5, h6, h7, effOf, f92]
end
end Go.Cs.Try

/- What the effects of acts do: Put, Store, New. -/
namespace Go.Cs
theorem MRep.objOf {o : Tags} {g : Nat} {H Hf : CHeap} {b : Nat} {M : Mdl} {L : Lay} (m : MRep o g H b M L) {n : Int} (c : M.has n) {h : CV × CV} (h0 : L.hv[(n - 1).toNat]? = some h) {x' : Obj}
    (e : x'.nr = (M.obj n).nr ∧ x'.nd = (M.obj n).nd ∧ x'.kd = (M.obj n).kd ∧ x'.refs.length = (M.obj n).refs.length ∧ x'.data.length = (M.obj n).data.length) {k : Nat} {c0 : Nat} (hk : k = 6 ∨ k = 7) (ht : o c0 = some (g, k, (n - 1).toNat))
    (hl : H.length ≤ Hf.length) (hf : ∀ d, d < H.length → d ≠ c0 → Hf[d]? = H[d]?)
    (hr : At o (g, 6, (n - 1).toNat) Hf h.1 1 (M.obj n).refs.length (ints x'.refs) ∧ At o (g, 7, (n - 1).toNat) Hf h.2 1 (M.obj n).data.length (ints x'.data)) :
    MRep o g Hf b (M.setObj n x') L ∧ Frm g o H o Hf := by
  refine ⟨m.setObj (Mdl.obj_get c) e hl ?_ ?_, hl, fun _ _ => rfl, fun c t h hc => by have := m.dom c t h; omega, fun d hd hk' => hf d hd ?_⟩
  · intro d k' hd h6 h7
    refine hf d (m.dom d _ hd) ?_
    rintro rfl
    rw [ht] at hd
    simp only [Option.some.injEq, Prod.mk.injEq, true_and] at hd
    rcases hk with rfl | rfl
    · exact h6 hd.symm
    · exact h7 hd.symm
  · intro h' hh
    rw [h0] at hh
    simp only [Option.some.injEq] at hh
    subst hh
    exact hr
  · rintro rfl; exact hk' _ ht
end Go.Cs
namespace Go.Cs.Try
open Go Go.Cs
set_option maxRecDepth 100000
section
variable {o : Tags} {g : Nat} {H : CHeap} {b : Nat} {M : Mdl} {L : Lay} {ab : Nat} {x : Act} {mu : Nat} {s : List Int} {v : CV} {tl : Bool}

/-- ActPut. -/
theorem e90 (A : ActAt o g H b M L ab x mu s v tl) (ha : 0 ≤ x.a ∧ x.a < 16) (hz : s.getD x.a.toNat 0 ≠ 0) (hi : 0 ≤ x.i ∧ x.i < (M.obj (s.getD x.a.toNat 0)).nd) :
    DoesE o g H b (M.setObj (s.getD x.a.toNat 0) { M.obj (s.getD x.a.toNat 0) with data := (M.obj (s.getD x.a.toNat 0)).data.set x.i.toNat x.n }) ⟨[], 0, 0, 0, 0, 0, 0⟩ (run P 90 [.ptr ab 0] H) := by
  have h := A.blk
  rw [A.ev] at h
  have h2 := A.cells
  have hl := lt_of_get h
  have hl2 := lt_of_get h2
  have h3 := slotGet A.len ha
  have h4 := slotHas A.w A.hs ha hz
  have A' := A.app [⟨zEff, .rw, 0⟩]
  have h5 := f74 A'.m A.w _ h4
  obtain ⟨hh, rest, h0, h6, h7, -, ht, h8', h8⟩ := A.m.objAt _ h4
  have hl3 := A.m.dom _ _ ht
  have hnd := (A.w.obj h4).nd
  obtain ⟨tl', d1, d2, d3, d4⟩ := h8.pos (by omega)
  have hl4 := A.m.dom _ _ d2
  have hg := ints_len (M.obj (s.getD x.a.toNat 0)).data
  rw [d1] at h7
  generalize hq : s.getD x.a.toNat 0 = q at *
  generalize hx : M.obj q = xx at *
  obtain ⟨m1, m2⟩ := A.m.objOf (Hf := H.set (blkOf hh.2) ⟨Go.Cs.ints (xx.data.set x.i.toNat x.n), .rw, 1⟩ ++ [⟨zEff, .rw, 0⟩]) h4 h0 (x' := { xx with data := xx.data.set x.i.toNat x.n })
    (by rw [hx]; simp) (.inr rfl) d2 (by simp) (fun d hd hd' => by simp (disch := first | omega | rfl | assumption | (simp only [csN, Nat.reduceAdd, Nat.reduceMul, Nat.reduceLeDiff, Nat.reduceEqDiff] <;> omega) | (simp only [csF]; done) | (simp only [csF] <;> assumption) | fail) only [Nat.reduceEqDiff, Nat.reduceAdd, Nat.reduceMul, Nat.reduceSub, Nat.reduceLeDiff, Int.reduceAdd, Int.reduceSub, Int.reduceMul, Int.reduceLT, Int.reduceLE, Int.reduceGT, Int.reduceGE, Int.reduceEq, Int.reduceBEq, Int.reduceBNe, Int.reduceNeg, Int.reduceToNat, csAll, ↓reduceIte])
    ⟨by rw [hx]; exact h8'.frame (fun _ h => h) (fun c hc => by
        have hcl := A.m.dom c _ hc
        have : c ≠ blkOf hh.2 := by rintro rfl; rw [d2] at hc; simp at hc
        simp (disch := first | omega | rfl | assumption | (simp only [csN, Nat.reduceAdd, Nat.reduceMul, Nat.reduceLeDiff, Nat.reduceEqDiff] <;> omega) | (simp only [csF]; done) | (simp only [csF] <;> assumption) | fail) only [Nat.reduceEqDiff, Nat.reduceAdd, Nat.reduceMul, Nat.reduceSub, Nat.reduceLeDiff, Int.reduceAdd, Int.reduceSub, Int.reduceMul, Int.reduceLT, Int.reduceLE, Int.reduceGT, Int.reduceGE, Int.reduceEq, Int.reduceBEq, Int.reduceBNe, Int.reduceNeg, Int.reduceToNat, csAll, ↓reduceIte]), by rw [hx]; exact .inr ⟨_, _, d1, d2, by simp (disch := first | omega | rfl | assumption | (simp only [csN, Nat.reduceAdd, Nat.reduceMul, Nat.reduceLeDiff, Nat.reduceEqDiff] <;> omega) | (simp only [csF]; done) | (simp only [csF] <;> assumption) | fail) only [Nat.reduceEqDiff, Nat.reduceAdd, Nat.reduceMul, Nat.reduceSub, Nat.reduceLeDiff, Int.reduceAdd, Int.reduceSub, Int.reduceMul, Int.reduceLT, Int.reduceLE, Int.reduceGT, Int.reduceGE, Int.reduceEq, Int.reduceBEq, Int.reduceBNe, Int.reduceNeg, Int.reduceToNat, csAll, ↓reduceIte], by simp [ints_len]⟩⟩
  refine ⟨_, o, L, .nilSlice, ?_, m1, m2, At.nil⟩
  rw [run_lv c90]
  simp (disch := first | omega | rfl | assumption | (simp only [csN, Nat.reduceAdd, Nat.reduceMul, Nat.reduceLeDiff, Nat.reduceEqDiff] <;> omega) | (simp only [csF]; done) | (simp only [csF] <;> assumption) | fail) only [Nat.reduceEqDiff, Nat.reduceAdd, Nat.reduceMul, Nat.reduceSub, Nat.reduceLeDiff, Int.reduceAdd, Int.reduceSub, Int.reduceMul, Int.reduceLT, Int.reduceLE, Int.reduceGT, Int.reduceGE, Int.reduceEq, Int.reduceBEq, Int.reduceBNe, Int.reduceNeg, Int.reduceToNat, csAll, ↓reduceIte, C90, entry_1, h, h2, h3, h5, h6, drop_get, h7, d3, effOf, ints_set, hg]

/-- ActStore. -/
theorem e88 (A : ActAt o g H b M L ab x mu s v tl) (ha : 0 ≤ x.a ∧ x.a < 16) (hb : 0 ≤ x.b ∧ x.b < 16) (hz : s.getD x.a.toNat 0 ≠ 0) (hi : 0 ≤ x.i ∧ x.i < (M.obj (s.getD x.a.toNat 0)).nr) :
    DoesE o g H b (M.setObj (s.getD x.a.toNat 0) { M.obj (s.getD x.a.toNat 0) with refs := (M.obj (s.getD x.a.toNat 0)).refs.set x.i.toNat (s.getD x.b.toNat 0) })
      ⟨[], s.getD x.a.toNat 0, x.i, (M.obj (s.getD x.a.toNat 0)).refs.getD x.i.toNat 0, s.getD x.b.toNat 0, 0, 0⟩ (run P 88 [.ptr ab 0] H) := by
  have h := A.blk
  rw [A.ev] at h
  have h2 := A.cells
  have hl := lt_of_get h
  have hl2 := lt_of_get h2
  have h3 := slotGet A.len ha
  have h3' := slotGet A.len hb
  have h4 := slotHas A.w A.hs ha hz
  have A' := A.app [⟨zEff, .rw, 0⟩]
  have h5 := f74 A'.m A.w _ h4
  obtain ⟨hh, rest, h0, h6, h7, -, ht, h8, h8'⟩ := A.m.objAt _ h4
  have hl3 := A.m.dom _ _ ht
  have hnd := (A.w.obj h4).nr
  obtain ⟨tl', d1, d2, d3, d4⟩ := h8.pos (by omega)
  have hl4 := A.m.dom _ _ d2
  have hg := ints_len (M.obj (s.getD x.a.toNat 0)).refs
  have h9 : (Go.Cs.ints (M.obj (s.getD x.a.toNat 0)).refs)[x.i.toNat]? = some (.i ((M.obj (s.getD x.a.toNat 0)).refs.getD x.i.toNat 0)) := by
    rw [ints_get, getD_of 0 (by omega)]; rfl
  rw [d1] at h7
  generalize hq : s.getD x.a.toNat 0 = q at *
  generalize hq' : s.getD x.b.toNat 0 = q' at *
  generalize hx : M.obj q = xx at *
  generalize hold : xx.refs.getD x.i.toNat 0 = old at *
  obtain ⟨m1, m2⟩ := A.m.objOf (Hf := H.set (blkOf hh.1) ⟨Go.Cs.ints (xx.refs.set x.i.toNat q'), .rw, 1⟩ ++ [⟨[.nilSlice, .i q, .i x.i, .i old, .i q', .i 0, .i 0], .rw, 0⟩] ++ [⟨[.nilSlice, .i q, .i x.i, .i old, .i q', .i 0, .i 0], .rw, 0⟩]) h4 h0 (x' := { xx with refs := xx.refs.set x.i.toNat q' })
    (by rw [hx]; simp) (.inl rfl) d2 (by simp) (fun d hd hd' => by simp (disch := first | omega | rfl | assumption | (simp only [csN, Nat.reduceAdd, Nat.reduceMul, Nat.reduceLeDiff, Nat.reduceEqDiff] <;> omega) | (simp only [csF]; done) | (simp only [csF] <;> assumption) | fail) only [Nat.reduceEqDiff, Nat.reduceAdd, Nat.reduceMul, Nat.reduceSub, Nat.reduceLeDiff, Int.reduceAdd, Int.reduceSub, Int.reduceMul, Int.reduceLT, Int.reduceLE, Int.reduceGT, Int.reduceGE, Int.reduceEq, Int.reduceBEq, Int.reduceBNe, Int.reduceNeg, Int.reduceToNat, csAll, ↓reduceIte])
    ⟨by rw [hx]; exact .inr ⟨_, _, d1, d2, by simp (disch := first | omega | rfl | assumption | (simp only [csN, Nat.reduceAdd, Nat.reduceMul, Nat.reduceLeDiff, Nat.reduceEqDiff] <;> omega) | (simp only [csF]; done) | (simp only [csF] <;> assumption) | fail) only [Nat.reduceEqDiff, Nat.reduceAdd, Nat.reduceMul, Nat.reduceSub, Nat.reduceLeDiff, Int.reduceAdd, Int.reduceSub, Int.reduceMul, Int.reduceLT, Int.reduceLE, Int.reduceGT, Int.reduceGE, Int.reduceEq, Int.reduceBEq, Int.reduceBNe, Int.reduceNeg, Int.reduceToNat, csAll, ↓reduceIte], by simp [ints_len]⟩, by rw [hx]; exact h8'.frame (fun _ h => h) (fun c hc => by
        have hcl := A.m.dom c _ hc
        have : c ≠ blkOf hh.1 := by rintro rfl; rw [d2] at hc; simp at hc
        simp (disch := first | omega | rfl | assumption | (simp only [csN, Nat.reduceAdd, Nat.reduceMul, Nat.reduceLeDiff, Nat.reduceEqDiff] <;> omega) | (simp only [csF]; done) | (simp only [csF] <;> assumption) | fail) only [Nat.reduceEqDiff, Nat.reduceAdd, Nat.reduceMul, Nat.reduceSub, Nat.reduceLeDiff, Int.reduceAdd, Int.reduceSub, Int.reduceMul, Int.reduceLT, Int.reduceLE, Int.reduceGT, Int.reduceGE, Int.reduceEq, Int.reduceBEq, Int.reduceBNe, Int.reduceNeg, Int.reduceToNat, csAll, ↓reduceIte])⟩
  refine ⟨_, o, L, .nilSlice, ?_, m1, m2, At.nil⟩
  rw [run_lv c88]
  simp (disch := first | omega | rfl | assumption | (simp only [csN, Nat.reduceAdd, Nat.reduceMul, Nat.reduceLeDiff, Nat.reduceEqDiff] <;> omega) | (simp only [csF]; done) | (simp only [csF] <;> assumption) | fail) only [Nat.reduceEqDiff, Nat.reduceAdd, Nat.reduceMul, Nat.reduceSub, Nat.reduceLeDiff, Int.reduceAdd, Int.reduceSub, Int.reduceMul, Int.reduceLT, Int.reduceLE, Int.reduceGT, Int.reduceGE, Int.reduceEq, Int.reduceBEq, Int.reduceBNe, Int.reduceNeg, Int.reduceToNat, csAll, ↓reduceIte, C88, entry_1, h, h2, h3, h3', h5, h6, drop_get, h7, d3, h9, effOf, ints_set, hg]



theorem ints_rep (n : Nat) : Go.Cs.ints (List.replicate n 0) = (List.replicate n [CV.int .i64 0]).flatten := by
  induction n with
  | zero => rfl
  | succ n ih => simp only [List.replicate_succ, ints_cons, ih, List.flatten_cons]; rfl

/-- ActNew. -/
theorem e81 (A : ActAt o g H b M L ab x mu s v tl) (ha : 0 ≤ x.a ∧ x.a < 16) (hs : 0 ≤ x.nr ∧ x.nr ≤ 15 ∧ 0 ≤ x.nd ∧ x.nd ≤ 200) (hf : M.objs.length < 100000) :
    DoesE o g H b { M with objs := M.objs ++ [Go.Cs.bornObj x], slots := M.slots.set mu (s.set x.a.toNat (M.objs.length + 1)) } ⟨[], 0, 0, 0, 0, M.objs.length + 1, 0⟩ (run P 81 [.ptr ab 0] H) := by
  have h := A.blk
  rw [A.ev] at h
  have h2 := A.cells
  have hl := lt_of_get h
  have hl2 := lt_of_get h2
  have hc := A.m.cells
  have hl3 := lt_of_get hc
  have hg : (Go.Cs.ints s).length = 16 := by rw [ints_len, A.len]
  have ho := A.m.objs.len
  have m1 : MRep o g (H ++ [⟨zEff, .rw, 0⟩] ++ [⟨[.i x.nr, .i x.nd, .i x.sk], .rw, 0⟩] ++ [⟨(List.replicate x.nr.toNat [CV.int .i64 0]).flatten, .rw, 1⟩] ++ [⟨(List.replicate x.nd.toNat [CV.int .i64 0]).flatten, .rw, 1⟩] ++ [⟨[.i x.nr, .i x.nd, .i x.sk, .slice (H.length + 2) 0 x.nr.toNat x.nr.toNat 1 false, .slice (H.length + 3) 0 x.nd.toNat x.nd.toNat 1 false], .rw, 5⟩] : CHeap) b M L := ((((A.m.app _).app _).app _).app _).app _
  obtain ⟨H', a1, a2, a3, a4⟩ := m1.objs.append (k := 1) (new := [.i x.nr, .i x.nd, .i x.sk, .slice (H.length + 2) 0 x.nr.toNat x.nr.toNat 1 false, .slice (H.length + 3) 0 x.nd.toNat x.nd.toNat 1 false]) (by omega) (Nat.le_trans (by omega : M.objs.length + 1 ≤ 100001) (by decide)) rfl rfl
  have hH1 : (H ++ [⟨zEff, .rw, 0⟩] ++ [⟨[.i x.nr, .i x.nd, .i x.sk], .rw, 0⟩] ++ [⟨(List.replicate x.nr.toNat [CV.int .i64 0]).flatten, .rw, 1⟩] ++ [⟨(List.replicate x.nd.toNat [CV.int .i64 0]).flatten, .rw, 1⟩] ++ [⟨[.i x.nr, .i x.nd, .i x.sk, .slice (H.length + 2) 0 x.nr.toNat x.nr.toNat 1 false, .slice (H.length + 3) 0 x.nd.toNat x.nd.toNat 1 false], .rw, 5⟩] : CHeap).length = H.length + 5 := by simp
  rw [hH1] at a1 a2 a3 a4
  have old : ∀ c, c < H.length → o c ≠ some (g, 5, 0) → H'[c]? = H[c]? := fun c hc' ho' => by
    rw [a4 c (by omega) ho']; simp (disch := first | omega | rfl | assumption | (simp only [csN, Nat.reduceAdd, Nat.reduceMul, Nat.reduceLeDiff, Nat.reduceEqDiff] <;> omega) | (simp only [csF]; done) | (simp only [csF] <;> assumption) | fail) only [Nat.reduceEqDiff, Nat.reduceAdd, Nat.reduceMul, Nat.reduceSub, Nat.reduceLeDiff, Int.reduceAdd, Int.reduceSub, Int.reduceMul, Int.reduceLT, Int.reduceLE, Int.reduceGT, Int.reduceGE, Int.reduceEq, Int.reduceBEq, Int.reduceBNe, Int.reduceNeg, Int.reduceToNat, csAll, ↓reduceIte]
  have hnone : ∀ c, H.length ≤ c → o c ≠ some (g, 5, 0) := fun c hc' e => by have := A.m.dom c _ e; omega
  have h0' : H'[H.length]? = some ⟨zEff, .rw, 0⟩ := by rw [a4 _ (by omega) (hnone _ (by omega))]; simp (disch := first | omega | rfl | assumption | (simp only [csN, Nat.reduceAdd, Nat.reduceMul, Nat.reduceLeDiff, Nat.reduceEqDiff] <;> omega) | (simp only [csF]; done) | (simp only [csF] <;> assumption) | fail) only [Nat.reduceEqDiff, Nat.reduceAdd, Nat.reduceMul, Nat.reduceSub, Nat.reduceLeDiff, Int.reduceAdd, Int.reduceSub, Int.reduceMul, Int.reduceLT, Int.reduceLE, Int.reduceGT, Int.reduceGE, Int.reduceEq, Int.reduceBEq, Int.reduceBNe, Int.reduceNeg, Int.reduceToNat, csAll, ↓reduceIte]
  have h1' : H'[H.length + 1]? = some ⟨[.i x.nr, .i x.nd, .i x.sk], .rw, 0⟩ := by rw [a4 _ (by omega) (hnone _ (by omega))]; simp (disch := first | omega | rfl | assumption | (simp only [csN, Nat.reduceAdd, Nat.reduceMul, Nat.reduceLeDiff, Nat.reduceEqDiff] <;> omega) | (simp only [csF]; done) | (simp only [csF] <;> assumption) | fail) only [Nat.reduceEqDiff, Nat.reduceAdd, Nat.reduceMul, Nat.reduceSub, Nat.reduceLeDiff, Int.reduceAdd, Int.reduceSub, Int.reduceMul, Int.reduceLT, Int.reduceLE, Int.reduceGT, Int.reduceGE, Int.reduceEq, Int.reduceBEq, Int.reduceBNe, Int.reduceNeg, Int.reduceToNat, csAll, ↓reduceIte]
  have h2' : H'[H.length + 2]? = some ⟨(List.replicate x.nr.toNat [CV.int .i64 0]).flatten, .rw, 1⟩ := by rw [a4 _ (by omega) (hnone _ (by omega))]; simp (disch := first | omega | rfl | assumption | (simp only [csN, Nat.reduceAdd, Nat.reduceMul, Nat.reduceLeDiff, Nat.reduceEqDiff] <;> omega) | (simp only [csF]; done) | (simp only [csF] <;> assumption) | fail) only [Nat.reduceEqDiff, Nat.reduceAdd, Nat.reduceMul, Nat.reduceSub, Nat.reduceLeDiff, Int.reduceAdd, Int.reduceSub, Int.reduceMul, Int.reduceLT, Int.reduceLE, Int.reduceGT, Int.reduceGE, Int.reduceEq, Int.reduceBEq, Int.reduceBNe, Int.reduceNeg, Int.reduceToNat, csAll, ↓reduceIte]
  have h3' : H'[H.length + 3]? = some ⟨(List.replicate x.nd.toNat [CV.int .i64 0]).flatten, .rw, 1⟩ := by rw [a4 _ (by omega) (hnone _ (by omega))]; simp (disch := first | omega | rfl | assumption | (simp only [csN, Nat.reduceAdd, Nat.reduceMul, Nat.reduceLeDiff, Nat.reduceEqDiff] <;> omega) | (simp only [csF]; done) | (simp only [csF] <;> assumption) | fail) only [Nat.reduceEqDiff, Nat.reduceAdd, Nat.reduceMul, Nat.reduceSub, Nat.reduceLeDiff, Int.reduceAdd, Int.reduceSub, Int.reduceMul, Int.reduceLT, Int.reduceLE, Int.reduceGT, Int.reduceGE, Int.reduceEq, Int.reduceBEq, Int.reduceBNe, Int.reduceNeg, Int.reduceToNat, csAll, ↓reduceIte]
  have hab' : H'[ab]? = _ := (old ab hl (by rw [A.free]; simp)).trans h
  have hv' : H'[blkOf v]? = _ := (old _ hl2 (by rw [A.tag]; simp)).trans h2
  have hb' : H'[b]? = _ := (old b hl3 (by rw [A.m.top]; simp)).trans hc
  have hbv : b ≠ blkOf v := by rintro rfl; have := A.m.top; rw [A.tag] at this; simp at this
  have hba : b ≠ ab := by rintro rfl; have := A.m.top; rw [A.free] at this; simp at this
  have hav := A.ne
  -- the new object
  have mb : MRep (((o.put (H.length + 2) (g, 6, M.objs.length)).put (H.length + 3) (g, 7, M.objs.length)).put (H.length + 5) (g, 5, 0)) g (H'.set b ⟨[L.sl, L.gl, L.qv, .slice (H.length + 5) 0 (M.objs.length + 1) (M.objs.length + 1) 5 true], .rw, 0⟩) b { M with objs := M.objs ++ [Go.Cs.bornObj x] } { L with ov := .slice (H.length + 5) 0 (M.objs.length + 1) (M.objs.length + 1) 5 true, hv := L.hv ++ [(.slice (H.length + 2) 0 x.nr.toNat x.nr.toNat 1 false, .slice (H.length + 3) 0 x.nd.toNat x.nd.toNat 1 false)] } := by
    refine A.m.born ?_ ?_ ?_ (by simp (disch := first | omega | rfl | assumption | (simp only [csN, Nat.reduceAdd, Nat.reduceMul, Nat.reduceLeDiff, Nat.reduceEqDiff] <;> omega) | (simp only [csF]; done) | (simp only [csF] <;> assumption) | fail) only [Nat.reduceEqDiff, Nat.reduceAdd, Nat.reduceMul, Nat.reduceSub, Nat.reduceLeDiff, Int.reduceAdd, Int.reduceSub, Int.reduceMul, Int.reduceLT, Int.reduceLE, Int.reduceGT, Int.reduceGE, Int.reduceEq, Int.reduceBEq, Int.reduceBNe, Int.reduceNeg, Int.reduceToNat, csAll, ↓reduceIte]) ?_ ?_ ?_
    · intro c t ht
      rw [List.length_set, a2]
      by_cases c5 : c = H.length + 5
      · omega
      · rw [Tags.put_ne c5] at ht
        by_cases c3 : c = H.length + 3
        · omega
        · rw [Tags.put_ne c3] at ht
          by_cases c2 : c = H.length + 2
          · omega
          · rw [Tags.put_ne c2] at ht
            have := A.m.dom c t ht; omega
    · intro c k hk
      have := A.m.dom c _ hk
      rw [Tags.put_ne (by omega), Tags.put_ne (by omega), Tags.put_ne (by omega), hk]
    · intro c k hk k5 k0
      have hcl := A.m.dom c _ hk
      have : b ≠ c := by rintro rfl; rw [A.m.top] at hk; simp only [Option.some.injEq, Prod.mk.injEq, true_and] at hk; exact k0 hk.symm
      rw [List.getElem?_set_ne this, old c hcl (by rw [hk]; simpa using k5)]
    · refine .inr ⟨_, _, rfl, Tags.put_eq, ?_, by simp [objCells_len _ _ A.m.nhv]; omega⟩
      rw [List.getElem?_set_ne (by omega), a3]; rfl
    · refine .inr ⟨H.length + 2, false, by simp [Go.Cs.bornObj], by rw [Tags.put_ne (by omega), Tags.put_ne (by omega), Tags.put_eq], ?_, by simp [ints_len, Go.Cs.bornObj]⟩
      rw [List.getElem?_set_ne (by omega), h2']; simp only [Go.Cs.bornObj, ints_rep]
    · refine .inr ⟨H.length + 3, false, by simp [Go.Cs.bornObj], by rw [Tags.put_ne (by omega), Tags.put_eq], ?_, by simp [ints_len, Go.Cs.bornObj]⟩
      rw [List.getElem?_set_ne (by omega), h3']; simp only [Go.Cs.bornObj, ints_rep]
  have htag : ∀ c, c < H.length → (((o.put (H.length + 2) (g, 6, M.objs.length)).put (H.length + 3) (g, 7, M.objs.length)).put (H.length + 5) (g, 5, 0)) c = o c := fun c hcl => by
    rw [Tags.put_ne (by omega), Tags.put_ne (by omega), Tags.put_ne (by omega)]
  have hvt := (htag _ hl2).trans A.tag
  have hnew : ∀ c t, (((o.put (H.length + 2) (g, 6, M.objs.length)).put (H.length + 3) (g, 7, M.objs.length)).put (H.length + 5) (g, 5, 0)) c = some t → H.length ≤ c → t.1 = g ∧ c ≠ H.length := by
    intro c t ht hcl
    by_cases c5 : c = H.length + 5
    · rw [c5, Tags.put_eq] at ht; simp only [Option.some.injEq] at ht; exact ⟨by rw [← ht], by omega⟩
    · rw [Tags.put_ne c5] at ht
      by_cases c3 : c = H.length + 3
      · rw [c3, Tags.put_eq] at ht; simp only [Option.some.injEq] at ht; exact ⟨by rw [← ht], by omega⟩
      · rw [Tags.put_ne c3] at ht
        by_cases c2 : c = H.length + 2
        · rw [c2, Tags.put_eq] at ht; simp only [Option.some.injEq] at ht; exact ⟨by rw [← ht], by omega⟩
        · rw [Tags.put_ne c2] at ht; have := A.m.dom c t ht; omega
  refine ⟨((H'.set b ⟨[L.sl, L.gl, L.qv, .slice (H.length + 5) 0 (M.objs.length + 1) (M.objs.length + 1) 5 true], .rw, 0⟩).set (blkOf v) ⟨Go.Cs.ints (s.set x.a.toNat (M.objs.length + 1)), .rw, 1⟩).set H.length ⟨[.nilSlice, .i 0, .i 0, .i 0, .i 0, .i (M.objs.length + 1), .i 0], .rw, 0⟩, _, _, .nilSlice, ?_, mb.setSlot A.hs (s' := s.set x.a.toNat (M.objs.length + 1)) (by simp) ?_ ?_, ⟨by simp [a2]; omega, htag, fun c t ht hcl => (hnew c t ht hcl).1, ?_⟩, At.nil⟩
  · rw [run_lv c81]
    have hcast : ((M.objs.length + 1 : Nat) : Int) = (M.objs.length : Int) + 1 := by omega
    simp (disch := first | omega | rfl | assumption | (simp only [csN, Nat.reduceAdd, Nat.reduceMul, Nat.reduceLeDiff, Nat.reduceEqDiff] <;> omega) | (simp only [csF]; done) | (simp only [csF] <;> assumption) | fail) only [Nat.reduceEqDiff, Nat.reduceAdd, Nat.reduceMul, Nat.reduceSub, Nat.reduceLeDiff, Int.reduceAdd, Int.reduceSub, Int.reduceMul, Int.reduceLT, Int.reduceLE, Int.reduceGT, Int.reduceGE, Int.reduceEq, Int.reduceBEq, Int.reduceBNe, Int.reduceNeg, Int.reduceToNat, csAll, ↓reduceIte, C81, entry_1, h, h2, hc, ho, a1, hab', hb', hv', h0', effOf, hg, ints_set, a2, hcast]
  · intro c k hk hk2
    have hcl := mb.dom c _ hk
    have e1 : c ≠ H.length := fun e => (hnew c _ hk (by omega)).2 e
    rw [List.getElem?_set_ne (Ne.symm e1), List.getElem?_set_ne]
    rintro rfl
    rw [hvt] at hk
    simp only [Option.some.injEq, Prod.mk.injEq, true_and] at hk
    exact hk2 hk.symm
  · intro v' hv'
    have : some v = some v' := A.hv.symm.trans hv'
    simp only [Option.some.injEq] at this
    subst this
    refine .inr ⟨blkOf v, tl, A.ev, hvt, ?_, by simp [ints_len, A.len]⟩
    rw [List.getElem?_set_ne (by omega), List.getElem?_set_self (by simp [a2]; omega)]
  · intro c hcl hk
    have e1 : blkOf v ≠ c := by rintro rfl; exact hk _ A.tag
    have e2 : b ≠ c := by rintro rfl; exact hk _ A.m.top
    rw [List.getElem?_set_ne (by omega), List.getElem?_set_ne e1, List.getElem?_set_ne e2, old c hcl (hk _)]
end
end Go.Cs.Try

/- What Do does: the walk. -/
namespace Go.Cs
/-- Whether a kind of acts uses slot B; which functions tell what it needs, its bound, and do it. -/
def wB (k : Int) : Bool := k == 1 || k == 2 || k == 5 || k == 7
def wN (k : Int) : Nat := if k = 1 then 82 else if k = 2 ∨ k = 3 ∨ k = 4 ∨ k = 11 then 86 else 80
def wU (k : Int) : Nat := if k = 1 then 83 else if k = 2 then 87 else if k = 3 ∨ k = 4 then 89 else if k = 9 ∨ k = 10 then 97 else 80
def wE (k : Int) : Nat := if k = 0 then 81 else if k = 1 then 84 else if k = 2 then 88 else if k = 3 then 90 else if k = 4 then 91 else if k = 5 then 93 else if k = 6 then 94 else if k = 7 then 95 else if k = 8 then 96 else if k = 9 then 98 else if k = 10 then 99 else 100
def wayCells : List CV := [.bool false, .func 80 [], .func 80 [], .func 81 [], .bool true, .func 82 [], .func 83 [], .func 84 [], .bool true, .func 86 [], .func 87 [], .func 88 [], .bool false, .func 86 [], .func 89 [], .func 90 [], .bool false, .func 86 [], .func 89 [], .func 91 [], .bool true, .func 80 [], .func 80 [], .func 93 [], .bool false, .func 80 [], .func 80 [], .func 94 [], .bool true, .func 80 [], .func 80 [], .func 95 [], .bool false, .func 80 [], .func 80 [], .func 96 [], .bool false, .func 80 [], .func 97 [], .func 98 [], .bool false, .func 80 [], .func 97 [], .func 99 [], .bool false, .func 86 [], .func 80 [], .func 100 []]
theorem wayLen : wayCells.length = 48 := rfl
theorem wayRow {k : Int} (h : 0 ≤ k ∧ k < 12) : (wayCells.drop (k.toNat * 4)).take 4 = [.bool (wB k), .func (wN k) [], .func (wU k) [], .func (wE k) []] := by
  have : k = 0 ∨ k = 1 ∨ k = 2 ∨ k = 3 ∨ k = 4 ∨ k = 5 ∨ k = 6 ∨ k = 7 ∨ k = 8 ∨ k = 9 ∨ k = 10 ∨ k = 11 := by omega
  rcases this with rfl | rfl | rfl | rfl | rfl | rfl | rfl | rfl | rfl | rfl | rfl | rfl <;> rfl

def validS (nr nd sk : Int) : Prop := 0 ≤ nr ∧ nr ≤ 15 ∧ 0 ≤ nd ∧ nd ≤ 200 ∧ 0 ≤ sk ∧ sk ≤ 3 ∧ (sk ≠ 1 ∨ 1 ≤ nr) ∧ (sk ≠ 2 ∨ 2 ≤ nr)
instance (nr nd sk : Int) : Decidable (validS nr nd sk) := by unfold validS; exact inferInstance
end Go.Cs
namespace Go.Cs.Try
open Go Go.Cs
set_option maxRecDepth 100000
set_option maxHeartbeats 8000000

/-- The ways. -/
theorem f70 {H : CHeap} : run P 70 [] H = some (.slice H.length 0 12 12 4 false, H ++ [⟨wayCells, .rw, 4⟩]) := by
  rw [run_lv c70]
  simp (disch := first | omega | rfl | assumption | (simp only [csN, Nat.reduceAdd, Nat.reduceMul, Nat.reduceLeDiff, Nat.reduceEqDiff] <;> omega) | (simp only [csF]; done) | (simp only [csF] <;> assumption) | fail) only [Nat.reduceEqDiff, Nat.reduceAdd, Nat.reduceMul, Nat.reduceSub, Nat.reduceLeDiff, Int.reduceAdd, Int.reduceSub, Int.reduceMul, Int.reduceLT, Int.reduceLE, Int.reduceGT, Int.reduceGE, Int.reduceEq, Int.reduceBEq, Int.reduceBNe, Int.reduceNeg, Int.reduceToNat, csAll, ↓reduceIte, C70, entry_0]
  rfl

/-- valid. -/
theorem f71 {nr nd sk : Int} {H : CHeap} : run P 71 [.agg [.i nr, .i nd, .i sk]] H = some (.bool (decide (validS nr nd sk)), H ++ [⟨[.i nr, .i nd, .i sk], .rw, 0⟩]) := by
  rw [run_lv c71]
  by_cases h0 : 0 ≤ nr
  case neg =>
    have hd : decide (validS nr nd sk) = false := decide_eq_false (fun h => by unfold validS at h; omega)
    simp (disch := first | omega | rfl | assumption | (simp only [csN, Nat.reduceAdd, Nat.reduceMul, Nat.reduceLeDiff, Nat.reduceEqDiff] <;> omega) | (simp only [csF]; done) | (simp only [csF] <;> assumption) | fail) only [Nat.reduceEqDiff, Nat.reduceAdd, Nat.reduceMul, Nat.reduceSub, Nat.reduceLeDiff, Int.reduceAdd, Int.reduceSub, Int.reduceMul, Int.reduceLT, Int.reduceLE, Int.reduceGT, Int.reduceGE, Int.reduceEq, Int.reduceBEq, Int.reduceBNe, Int.reduceNeg, Int.reduceToNat, csAll, ↓reduceIte, C71, entry_1, hd]
  by_cases h1 : nr ≤ 15
  case neg =>
    have hd : decide (validS nr nd sk) = false := decide_eq_false (fun h => by unfold validS at h; omega)
    simp (disch := first | omega | rfl | assumption | (simp only [csN, Nat.reduceAdd, Nat.reduceMul, Nat.reduceLeDiff, Nat.reduceEqDiff] <;> omega) | (simp only [csF]; done) | (simp only [csF] <;> assumption) | fail) only [Nat.reduceEqDiff, Nat.reduceAdd, Nat.reduceMul, Nat.reduceSub, Nat.reduceLeDiff, Int.reduceAdd, Int.reduceSub, Int.reduceMul, Int.reduceLT, Int.reduceLE, Int.reduceGT, Int.reduceGE, Int.reduceEq, Int.reduceBEq, Int.reduceBNe, Int.reduceNeg, Int.reduceToNat, csAll, ↓reduceIte, C71, entry_1, hd]
  by_cases h2 : 0 ≤ nd
  case neg =>
    have hd : decide (validS nr nd sk) = false := decide_eq_false (fun h => by unfold validS at h; omega)
    simp (disch := first | omega | rfl | assumption | (simp only [csN, Nat.reduceAdd, Nat.reduceMul, Nat.reduceLeDiff, Nat.reduceEqDiff] <;> omega) | (simp only [csF]; done) | (simp only [csF] <;> assumption) | fail) only [Nat.reduceEqDiff, Nat.reduceAdd, Nat.reduceMul, Nat.reduceSub, Nat.reduceLeDiff, Int.reduceAdd, Int.reduceSub, Int.reduceMul, Int.reduceLT, Int.reduceLE, Int.reduceGT, Int.reduceGE, Int.reduceEq, Int.reduceBEq, Int.reduceBNe, Int.reduceNeg, Int.reduceToNat, csAll, ↓reduceIte, C71, entry_1, hd]
  by_cases h3 : nd ≤ 200
  case neg =>
    have hd : decide (validS nr nd sk) = false := decide_eq_false (fun h => by unfold validS at h; omega)
    simp (disch := first | omega | rfl | assumption | (simp only [csN, Nat.reduceAdd, Nat.reduceMul, Nat.reduceLeDiff, Nat.reduceEqDiff] <;> omega) | (simp only [csF]; done) | (simp only [csF] <;> assumption) | fail) only [Nat.reduceEqDiff, Nat.reduceAdd, Nat.reduceMul, Nat.reduceSub, Nat.reduceLeDiff, Int.reduceAdd, Int.reduceSub, Int.reduceMul, Int.reduceLT, Int.reduceLE, Int.reduceGT, Int.reduceGE, Int.reduceEq, Int.reduceBEq, Int.reduceBNe, Int.reduceNeg, Int.reduceToNat, csAll, ↓reduceIte, C71, entry_1, hd]
  by_cases h4 : 0 ≤ sk
  case neg =>
    have hd : decide (validS nr nd sk) = false := decide_eq_false (fun h => by unfold validS at h; omega)
    simp (disch := first | omega | rfl | assumption | (simp only [csN, Nat.reduceAdd, Nat.reduceMul, Nat.reduceLeDiff, Nat.reduceEqDiff] <;> omega) | (simp only [csF]; done) | (simp only [csF] <;> assumption) | fail) only [Nat.reduceEqDiff, Nat.reduceAdd, Nat.reduceMul, Nat.reduceSub, Nat.reduceLeDiff, Int.reduceAdd, Int.reduceSub, Int.reduceMul, Int.reduceLT, Int.reduceLE, Int.reduceGT, Int.reduceGE, Int.reduceEq, Int.reduceBEq, Int.reduceBNe, Int.reduceNeg, Int.reduceToNat, csAll, ↓reduceIte, C71, entry_1, hd]
  by_cases h5 : sk ≤ 3
  case neg =>
    have hd : decide (validS nr nd sk) = false := decide_eq_false (fun h => by unfold validS at h; omega)
    simp (disch := first | omega | rfl | assumption | (simp only [csN, Nat.reduceAdd, Nat.reduceMul, Nat.reduceLeDiff, Nat.reduceEqDiff] <;> omega) | (simp only [csF]; done) | (simp only [csF] <;> assumption) | fail) only [Nat.reduceEqDiff, Nat.reduceAdd, Nat.reduceMul, Nat.reduceSub, Nat.reduceLeDiff, Int.reduceAdd, Int.reduceSub, Int.reduceMul, Int.reduceLT, Int.reduceLE, Int.reduceGT, Int.reduceGE, Int.reduceEq, Int.reduceBEq, Int.reduceBNe, Int.reduceNeg, Int.reduceToNat, csAll, ↓reduceIte, C71, entry_1, hd]
  by_cases h6 : sk = 1
  case pos =>
    by_cases h7 : 1 ≤ nr
    · have hd : decide (validS nr nd sk) = true := decide_eq_true (by unfold validS; omega)
      simp (disch := first | omega | rfl | assumption | (simp only [csN, Nat.reduceAdd, Nat.reduceMul, Nat.reduceLeDiff, Nat.reduceEqDiff] <;> omega) | (simp only [csF]; done) | (simp only [csF] <;> assumption) | fail) only [Nat.reduceEqDiff, Nat.reduceAdd, Nat.reduceMul, Nat.reduceSub, Nat.reduceLeDiff, Int.reduceAdd, Int.reduceSub, Int.reduceMul, Int.reduceLT, Int.reduceLE, Int.reduceGT, Int.reduceGE, Int.reduceEq, Int.reduceBEq, Int.reduceBNe, Int.reduceNeg, Int.reduceToNat, csAll, ↓reduceIte, C71, entry_1, hd]
    · have hd : decide (validS nr nd sk) = false := decide_eq_false (fun h => by unfold validS at h; omega)
      simp (disch := first | omega | rfl | assumption | (simp only [csN, Nat.reduceAdd, Nat.reduceMul, Nat.reduceLeDiff, Nat.reduceEqDiff] <;> omega) | (simp only [csF]; done) | (simp only [csF] <;> assumption) | fail) only [Nat.reduceEqDiff, Nat.reduceAdd, Nat.reduceMul, Nat.reduceSub, Nat.reduceLeDiff, Int.reduceAdd, Int.reduceSub, Int.reduceMul, Int.reduceLT, Int.reduceLE, Int.reduceGT, Int.reduceGE, Int.reduceEq, Int.reduceBEq, Int.reduceBNe, Int.reduceNeg, Int.reduceToNat, csAll, ↓reduceIte, C71, entry_1, hd]
  by_cases h8 : sk = 2
  case pos =>
    by_cases h7 : 2 ≤ nr
    · have hd : decide (validS nr nd sk) = true := decide_eq_true (by unfold validS; omega)
      simp (disch := first | omega | rfl | assumption | (simp only [csN, Nat.reduceAdd, Nat.reduceMul, Nat.reduceLeDiff, Nat.reduceEqDiff] <;> omega) | (simp only [csF]; done) | (simp only [csF] <;> assumption) | fail) only [Nat.reduceEqDiff, Nat.reduceAdd, Nat.reduceMul, Nat.reduceSub, Nat.reduceLeDiff, Int.reduceAdd, Int.reduceSub, Int.reduceMul, Int.reduceLT, Int.reduceLE, Int.reduceGT, Int.reduceGE, Int.reduceEq, Int.reduceBEq, Int.reduceBNe, Int.reduceNeg, Int.reduceToNat, csAll, ↓reduceIte, C71, entry_1, hd]
    · have hd : decide (validS nr nd sk) = false := decide_eq_false (fun h => by unfold validS at h; omega)
      simp (disch := first | omega | rfl | assumption | (simp only [csN, Nat.reduceAdd, Nat.reduceMul, Nat.reduceLeDiff, Nat.reduceEqDiff] <;> omega) | (simp only [csF]; done) | (simp only [csF] <;> assumption) | fail) only [Nat.reduceEqDiff, Nat.reduceAdd, Nat.reduceMul, Nat.reduceSub, Nat.reduceLeDiff, Int.reduceAdd, Int.reduceSub, Int.reduceMul, Int.reduceLT, Int.reduceLE, Int.reduceGT, Int.reduceGE, Int.reduceEq, Int.reduceBEq, Int.reduceBNe, Int.reduceNeg, Int.reduceToNat, csAll, ↓reduceIte, C71, entry_1, hd]
  have hd : decide (validS nr nd sk) = true := decide_eq_true (by unfold validS; omega)
  simp (disch := first | omega | rfl | assumption | (simp only [csN, Nat.reduceAdd, Nat.reduceMul, Nat.reduceLeDiff, Nat.reduceEqDiff] <;> omega) | (simp only [csF]; done) | (simp only [csF] <;> assumption) | fail) only [Nat.reduceEqDiff, Nat.reduceAdd, Nat.reduceMul, Nat.reduceSub, Nat.reduceLeDiff, Int.reduceAdd, Int.reduceSub, Int.reduceMul, Int.reduceLT, Int.reduceLE, Int.reduceGT, Int.reduceGE, Int.reduceEq, Int.reduceBEq, Int.reduceBNe, Int.reduceNeg, Int.reduceToNat, csAll, ↓reduceIte, C71, entry_1, hd]

/-- What Do looks at. -/
structure DoAt (b : Nat) (H : CHeap) (n bs : Nat) (t2 : Bool) (gl qv ov : CV) (svs : List CV) : Prop where
  made : ∀ J, run P 41 [.ptr b 0] (H ++ J) = some (.bool true, H ++ J)
  blk : H[b]? = some ⟨[.slice bs 0 n n 1 t2, gl, qv, ov], .rw, 0⟩
  sls : H[bs]? = some ⟨svs, .rw, 1⟩

section
variable {b : Nat} {H : CHeap} {x : Act} {mu : Int} {n sb bs : Nat} {tl t2 : Bool} {gl qv ov : CV} {svs : List CV} {s : List Int}

theorem d_mu (D : DoAt b H n bs t2 gl qv ov svs) (c : ¬ (0 ≤ mu ∧ mu < (n : Int)) ∨ ¬ (0 ≤ x.k ∧ x.k < 12)) :
    run P 40 [.ptr b 0, .i mu, .agg [.i x.k, .i x.a, .i x.b, .i x.i, .i x.n, .i x.nr, .i x.nd, .i x.sk]] H = some (.tup [.agg zEff, .i 1], H ++ [⟨[.i x.k, .i x.a, .i x.b, .i x.i, .i x.n, .i x.nr, .i x.nd, .i x.sk], .rw, 0⟩] ++ [⟨zEff, .rw, 0⟩] ++ [⟨wayCells, .rw, 4⟩]) := by
  have h1 : ∀ J, run P 41 [.ptr b 0] (H ++ J) = some (.bool true, H ++ J) := D.made
  have h1' := h1 ([⟨[.i x.k, .i x.a, .i x.b, .i x.i, .i x.n, .i x.nr, .i x.nd, .i x.sk], .rw, 0⟩] ++ [⟨zEff, .rw, 0⟩])
  rw [← List.append_assoc] at h1'
  have h2 := D.blk
  have h3 := D.sls
  have hl2 := lt_of_get h2
  have hl3 := lt_of_get h3
  have hw := wayLen
  rw [run_lv c40]
  by_cases m0 : 0 ≤ mu
  · by_cases m1 : mu < (n : Int)
    · by_cases k0 : 0 ≤ x.k
      · simp (disch := first | omega | rfl | assumption | (simp only [csN, Nat.reduceAdd, Nat.reduceMul, Nat.reduceLeDiff, Nat.reduceEqDiff] <;> omega) | (simp only [csF]; done) | (simp only [csF] <;> assumption) | fail) only [Nat.reduceEqDiff, Nat.reduceAdd, Nat.reduceMul, Nat.reduceSub, Nat.reduceLeDiff, Int.reduceAdd, Int.reduceSub, Int.reduceMul, Int.reduceLT, Int.reduceLE, Int.reduceGT, Int.reduceGE, Int.reduceEq, Int.reduceBEq, Int.reduceBNe, Int.reduceNeg, Int.reduceToNat, csAll, ↓reduceIte, C40, entry_3, h1', h2, h3, f70, hw]
      · simp (disch := first | omega | rfl | assumption | (simp only [csN, Nat.reduceAdd, Nat.reduceMul, Nat.reduceLeDiff, Nat.reduceEqDiff] <;> omega) | (simp only [csF]; done) | (simp only [csF] <;> assumption) | fail) only [Nat.reduceEqDiff, Nat.reduceAdd, Nat.reduceMul, Nat.reduceSub, Nat.reduceLeDiff, Int.reduceAdd, Int.reduceSub, Int.reduceMul, Int.reduceLT, Int.reduceLE, Int.reduceGT, Int.reduceGE, Int.reduceEq, Int.reduceBEq, Int.reduceBNe, Int.reduceNeg, Int.reduceToNat, csAll, ↓reduceIte, C40, entry_3, h1', h2, h3, f70, hw]
    · simp (disch := first | omega | rfl | assumption | (simp only [csN, Nat.reduceAdd, Nat.reduceMul, Nat.reduceLeDiff, Nat.reduceEqDiff] <;> omega) | (simp only [csF]; done) | (simp only [csF] <;> assumption) | fail) only [Nat.reduceEqDiff, Nat.reduceAdd, Nat.reduceMul, Nat.reduceSub, Nat.reduceLeDiff, Int.reduceAdd, Int.reduceSub, Int.reduceMul, Int.reduceLT, Int.reduceLE, Int.reduceGT, Int.reduceGE, Int.reduceEq, Int.reduceBEq, Int.reduceBNe, Int.reduceNeg, Int.reduceToNat, csAll, ↓reduceIte, C40, entry_3, h1', h2, h3, f70, hw]
  · simp (disch := first | omega | rfl | assumption | (simp only [csN, Nat.reduceAdd, Nat.reduceMul, Nat.reduceLeDiff, Nat.reduceEqDiff] <;> omega) | (simp only [csF]; done) | (simp only [csF] <;> assumption) | fail) only [Nat.reduceEqDiff, Nat.reduceAdd, Nat.reduceMul, Nat.reduceSub, Nat.reduceLeDiff, Int.reduceAdd, Int.reduceSub, Int.reduceMul, Int.reduceLT, Int.reduceLE, Int.reduceGT, Int.reduceGE, Int.reduceEq, Int.reduceBEq, Int.reduceBNe, Int.reduceNeg, Int.reduceToNat, csAll, ↓reduceIte, C40, entry_3, h1', h2, h3, f70, hw]

theorem d_slot (D : DoAt b H n bs t2 gl qv ov svs) {wb : Bool} (hwB : wB x.k = wb) (c : 0 ≤ mu ∧ mu < (n : Int) ∧ 0 ≤ x.k ∧ x.k < 12) (hsv : svs[mu.toNat]? = some (.slice sb 0 16 16 1 tl)) (ca : ¬ (0 ≤ x.a ∧ x.a < 16) ∨ (wb = true ∧ ¬ (0 ≤ x.b ∧ x.b < 16))) :
    run P 40 [.ptr b 0, .i mu, .agg [.i x.k, .i x.a, .i x.b, .i x.i, .i x.n, .i x.nr, .i x.nd, .i x.sk]] H = some (.tup [.agg zEff, .i 1], H ++ [⟨[.i x.k, .i x.a, .i x.b, .i x.i, .i x.n, .i x.nr, .i x.nd, .i x.sk], .rw, 0⟩] ++ [⟨zEff, .rw, 0⟩] ++ [⟨wayCells, .rw, 4⟩] ++ [⟨[.bool wb, .func (wN x.k) [], .func (wU x.k) [], .func (wE x.k) []], .rw, 0⟩] ++ [⟨[.i x.k, .i x.a, .i x.b, .i x.i, .i x.n, .i x.nr, .i x.nd, .i x.sk, .ptr b 0, .slice sb 0 16 16 1 tl], .rw, 0⟩]) := by
  have h1 : ∀ J, run P 41 [.ptr b 0] (H ++ J) = some (.bool true, H ++ J) := D.made
  have h1' := h1 ([⟨[.i x.k, .i x.a, .i x.b, .i x.i, .i x.n, .i x.nr, .i x.nd, .i x.sk], .rw, 0⟩] ++ [⟨zEff, .rw, 0⟩])
  rw [← List.append_assoc] at h1'
  have h2 := D.blk
  have h3 := D.sls
  have hl2 := lt_of_get h2
  have hl3 := lt_of_get h3
  have hw := wayLen
  rw [run_lv c40]
  obtain ⟨c1, c2, c3, c4⟩ := c
  have hrow := wayRow ⟨c3, c4⟩
  rw [hwB] at hrow
  by_cases ha : 0 ≤ x.a ∧ x.a < 16
  · have ha' : decide (0 ≤ x.a ∧ x.a < 16) = true := decide_eq_true ha
    have hwb := (ca.resolve_left (fun h => h ha)).1
    subst hwb
    have hb' : decide (0 ≤ x.b ∧ x.b < 16) = false := decide_eq_false (ca.resolve_left (fun h => h ha)).2
    simp (disch := first | omega | rfl | assumption | (simp only [csN, Nat.reduceAdd, Nat.reduceMul, Nat.reduceLeDiff, Nat.reduceEqDiff] <;> omega) | (simp only [csF]; done) | (simp only [csF] <;> assumption) | fail) only [Nat.reduceEqDiff, Nat.reduceAdd, Nat.reduceMul, Nat.reduceSub, Nat.reduceLeDiff, Int.reduceAdd, Int.reduceSub, Int.reduceMul, Int.reduceLT, Int.reduceLE, Int.reduceGT, Int.reduceGE, Int.reduceEq, Int.reduceBEq, Int.reduceBNe, Int.reduceNeg, Int.reduceToNat, csAll, ↓reduceIte, C40, entry_3, h1', h2, h3, f70, hw, hrow, hsv, f48, ha', hb']
  · have ha' : decide (0 ≤ x.a ∧ x.a < 16) = false := decide_eq_false ha
    simp (disch := first | omega | rfl | assumption | (simp only [csN, Nat.reduceAdd, Nat.reduceMul, Nat.reduceLeDiff, Nat.reduceEqDiff] <;> omega) | (simp only [csF]; done) | (simp only [csF] <;> assumption) | fail) only [Nat.reduceEqDiff, Nat.reduceAdd, Nat.reduceMul, Nat.reduceSub, Nat.reduceLeDiff, Int.reduceAdd, Int.reduceSub, Int.reduceMul, Int.reduceLT, Int.reduceLE, Int.reduceGT, Int.reduceGE, Int.reduceEq, Int.reduceBEq, Int.reduceBNe, Int.reduceNeg, Int.reduceToNat, csAll, ↓reduceIte, C40, entry_3, h1', h2, h3, f70, hw, hrow, hsv, f48, ha']

theorem d_form (D : DoAt b H n bs t2 gl qv ov svs) {wb : Bool} (hwB : wB x.k = wb) (c : 0 ≤ mu ∧ mu < (n : Int) ∧ 0 ≤ x.k ∧ x.k < 12) (hsv : svs[mu.toNat]? = some (.slice sb 0 16 16 1 tl)) (ca : (0 ≤ x.a ∧ x.a < 16) ∧ (wb = true → 0 ≤ x.b ∧ x.b < 16)) (hk : x.k = 0) (hv : ¬ validS x.nr x.nd x.sk) :
    run P 40 [.ptr b 0, .i mu, .agg [.i x.k, .i x.a, .i x.b, .i x.i, .i x.n, .i x.nr, .i x.nd, .i x.sk]] H = some (.tup [.agg zEff, .i 2], H ++ [⟨[.i x.k, .i x.a, .i x.b, .i x.i, .i x.n, .i x.nr, .i x.nd, .i x.sk], .rw, 0⟩] ++ [⟨zEff, .rw, 0⟩] ++ [⟨wayCells, .rw, 4⟩] ++ [⟨[.bool wb, .func (wN x.k) [], .func (wU x.k) [], .func (wE x.k) []], .rw, 0⟩] ++ [⟨[.i x.k, .i x.a, .i x.b, .i x.i, .i x.n, .i x.nr, .i x.nd, .i x.sk, .ptr b 0, .slice sb 0 16 16 1 tl], .rw, 0⟩] ++ [⟨[.i x.nr, .i x.nd, .i x.sk], .rw, 0⟩]) := by
  have h1 : ∀ J, run P 41 [.ptr b 0] (H ++ J) = some (.bool true, H ++ J) := D.made
  have h1' := h1 ([⟨[.i x.k, .i x.a, .i x.b, .i x.i, .i x.n, .i x.nr, .i x.nd, .i x.sk], .rw, 0⟩] ++ [⟨zEff, .rw, 0⟩])
  rw [← List.append_assoc] at h1'
  have h2 := D.blk
  have h3 := D.sls
  have hl2 := lt_of_get h2
  have hl3 := lt_of_get h3
  have hw := wayLen
  rw [run_lv c40]
  obtain ⟨c1, c2, c3, c4⟩ := c
  have hrow := wayRow ⟨c3, c4⟩
  rw [hwB] at hrow
  have ha' : decide (0 ≤ x.a ∧ x.a < 16) = true := decide_eq_true ca.1
  have hwb : wb = false := by rw [← hwB, hk]; rfl
  subst hwb
  have hv' : decide (validS x.nr x.nd x.sk) = false := decide_eq_false hv
  simp (disch := first | omega | rfl | assumption | (simp only [csN, Nat.reduceAdd, Nat.reduceMul, Nat.reduceLeDiff, Nat.reduceEqDiff] <;> omega) | (simp only [csF]; done) | (simp only [csF] <;> assumption) | fail) only [Nat.reduceEqDiff, Nat.reduceAdd, Nat.reduceMul, Nat.reduceSub, Nat.reduceLeDiff, Int.reduceAdd, Int.reduceSub, Int.reduceMul, Int.reduceLT, Int.reduceLE, Int.reduceGT, Int.reduceGE, Int.reduceEq, Int.reduceBEq, Int.reduceBNe, Int.reduceNeg, Int.reduceToNat, csAll, ↓reduceIte, C40, entry_3, h1', h2, h3, f70, hw, hrow, hsv, f48, ha', f71, hv']

theorem d_nil (D : DoAt b H n bs t2 gl qv ov svs) {wb : Bool} (hwB : wB x.k = wb) (c : 0 ≤ mu ∧ mu < (n : Int) ∧ 0 ≤ x.k ∧ x.k < 12) (hsv : svs[mu.toNat]? = some (.slice sb 0 16 16 1 tl)) (ca : (0 ≤ x.a ∧ x.a < 16) ∧ (wb = true → 0 ≤ x.b ∧ x.b < 16)) (hk : x.k ≠ 0) {nd : Int} (hn : run P (wN x.k) [.ptr (H.length + 4) 0] (H ++ [⟨[.i x.k, .i x.a, .i x.b, .i x.i, .i x.n, .i x.nr, .i x.nd, .i x.sk], .rw, 0⟩] ++ [⟨zEff, .rw, 0⟩] ++ [⟨wayCells, .rw, 4⟩] ++ [⟨[.bool wb, .func (wN x.k) [], .func (wU x.k) [], .func (wE x.k) []], .rw, 0⟩] ++ [⟨[.i x.k, .i x.a, .i x.b, .i x.i, .i x.n, .i x.nr, .i x.nd, .i x.sk, .ptr b 0, .slice sb 0 16 16 1 tl], .rw, 0⟩]) = some (.i nd, H ++ [⟨[.i x.k, .i x.a, .i x.b, .i x.i, .i x.n, .i x.nr, .i x.nd, .i x.sk], .rw, 0⟩] ++ [⟨zEff, .rw, 0⟩] ++ [⟨wayCells, .rw, 4⟩] ++ [⟨[.bool wb, .func (wN x.k) [], .func (wU x.k) [], .func (wE x.k) []], .rw, 0⟩] ++ [⟨[.i x.k, .i x.a, .i x.b, .i x.i, .i x.n, .i x.nr, .i x.nd, .i x.sk, .ptr b 0, .slice sb 0 16 16 1 tl], .rw, 0⟩])) (hnd : 0 ≤ nd ∧ nd < 16) (hs : H[sb]? = some ⟨Go.Cs.ints s, .rw, 1⟩) (hz : (Go.Cs.ints s)[nd.toNat]? = some (.i 0)) :
    run P 40 [.ptr b 0, .i mu, .agg [.i x.k, .i x.a, .i x.b, .i x.i, .i x.n, .i x.nr, .i x.nd, .i x.sk]] H = some (.tup [.agg zEff, .i 7], H ++ [⟨[.i x.k, .i x.a, .i x.b, .i x.i, .i x.n, .i x.nr, .i x.nd, .i x.sk], .rw, 0⟩] ++ [⟨zEff, .rw, 0⟩] ++ [⟨wayCells, .rw, 4⟩] ++ [⟨[.bool wb, .func (wN x.k) [], .func (wU x.k) [], .func (wE x.k) []], .rw, 0⟩] ++ [⟨[.i x.k, .i x.a, .i x.b, .i x.i, .i x.n, .i x.nr, .i x.nd, .i x.sk, .ptr b 0, .slice sb 0 16 16 1 tl], .rw, 0⟩]) := by
  have h1 : ∀ J, run P 41 [.ptr b 0] (H ++ J) = some (.bool true, H ++ J) := D.made
  have h1' := h1 ([⟨[.i x.k, .i x.a, .i x.b, .i x.i, .i x.n, .i x.nr, .i x.nd, .i x.sk], .rw, 0⟩] ++ [⟨zEff, .rw, 0⟩])
  rw [← List.append_assoc] at h1'
  have h2 := D.blk
  have h3 := D.sls
  have hl2 := lt_of_get h2
  have hl3 := lt_of_get h3
  have hw := wayLen
  rw [run_lv c40]
  obtain ⟨c1, c2, c3, c4⟩ := c
  have hrow := wayRow ⟨c3, c4⟩
  rw [hwB] at hrow
  have ha' : decide (0 ≤ x.a ∧ x.a < 16) = true := decide_eq_true ca.1
  have hl4 := lt_of_get hs
  simp only [zEff] at hn
  cases wb with
  | true =>
    have hb' : decide (0 ≤ x.b ∧ x.b < 16) = true := decide_eq_true (ca.2 rfl)
    simp (disch := first | omega | rfl | assumption | (simp only [csN, Nat.reduceAdd, Nat.reduceMul, Nat.reduceLeDiff, Nat.reduceEqDiff] <;> omega) | (simp only [csF]; done) | (simp only [csF] <;> assumption) | fail) only [Nat.reduceEqDiff, Nat.reduceAdd, Nat.reduceMul, Nat.reduceSub, Nat.reduceLeDiff, Int.reduceAdd, Int.reduceSub, Int.reduceMul, Int.reduceLT, Int.reduceLE, Int.reduceGT, Int.reduceGE, Int.reduceEq, Int.reduceBEq, Int.reduceBNe, Int.reduceNeg, Int.reduceToNat, csAll, ↓reduceIte, C40, entry_3, h1', h2, h3, f70, hw, hrow, hsv, f48, ha', hb', hn, hs, hz]
  | false =>
    simp (disch := first | omega | rfl | assumption | (simp only [csN, Nat.reduceAdd, Nat.reduceMul, Nat.reduceLeDiff, Nat.reduceEqDiff] <;> omega) | (simp only [csF]; done) | (simp only [csF] <;> assumption) | fail) only [Nat.reduceEqDiff, Nat.reduceAdd, Nat.reduceMul, Nat.reduceSub, Nat.reduceLeDiff, Int.reduceAdd, Int.reduceSub, Int.reduceMul, Int.reduceLT, Int.reduceLE, Int.reduceGT, Int.reduceGE, Int.reduceEq, Int.reduceBEq, Int.reduceBNe, Int.reduceNeg, Int.reduceToNat, csAll, ↓reduceIte, C40, entry_3, h1', h2, h3, f70, hw, hrow, hsv, f48, ha', hn, hs, hz]

theorem d_index (D : DoAt b H n bs t2 gl qv ov svs) {wb : Bool} (hwB : wB x.k = wb) (c : 0 ≤ mu ∧ mu < (n : Int) ∧ 0 ≤ x.k ∧ x.k < 12) (hsv : svs[mu.toNat]? = some (.slice sb 0 16 16 1 tl)) (ca : (0 ≤ x.a ∧ x.a < 16) ∧ (wb = true → 0 ≤ x.b ∧ x.b < 16)) (hk : x.k ≠ 0) {nd : Int} (hn : run P (wN x.k) [.ptr (H.length + 4) 0] (H ++ [⟨[.i x.k, .i x.a, .i x.b, .i x.i, .i x.n, .i x.nr, .i x.nd, .i x.sk], .rw, 0⟩] ++ [⟨zEff, .rw, 0⟩] ++ [⟨wayCells, .rw, 4⟩] ++ [⟨[.bool wb, .func (wN x.k) [], .func (wU x.k) [], .func (wE x.k) []], .rw, 0⟩] ++ [⟨[.i x.k, .i x.a, .i x.b, .i x.i, .i x.n, .i x.nr, .i x.nd, .i x.sk, .ptr b 0, .slice sb 0 16 16 1 tl], .rw, 0⟩]) = some (.i nd, H ++ [⟨[.i x.k, .i x.a, .i x.b, .i x.i, .i x.n, .i x.nr, .i x.nd, .i x.sk], .rw, 0⟩] ++ [⟨zEff, .rw, 0⟩] ++ [⟨wayCells, .rw, 4⟩] ++ [⟨[.bool wb, .func (wN x.k) [], .func (wU x.k) [], .func (wE x.k) []], .rw, 0⟩] ++ [⟨[.i x.k, .i x.a, .i x.b, .i x.i, .i x.n, .i x.nr, .i x.nd, .i x.sk, .ptr b 0, .slice sb 0 16 16 1 tl], .rw, 0⟩])) (hnd : nd < 0 ∨ (0 ≤ nd ∧ nd < 16 ∧ ∃ z, (Go.Cs.ints s)[nd.toNat]? = some (.i z) ∧ z ≠ 0)) (hs : H[sb]? = some ⟨Go.Cs.ints s, .rw, 1⟩) {bd : Int} (hu : run P (wU x.k) [.ptr (H.length + 4) 0] (H ++ [⟨[.i x.k, .i x.a, .i x.b, .i x.i, .i x.n, .i x.nr, .i x.nd, .i x.sk], .rw, 0⟩] ++ [⟨zEff, .rw, 0⟩] ++ [⟨wayCells, .rw, 4⟩] ++ [⟨[.bool wb, .func (wN x.k) [], .func (wU x.k) [], .func (wE x.k) []], .rw, 0⟩] ++ [⟨[.i x.k, .i x.a, .i x.b, .i x.i, .i x.n, .i x.nr, .i x.nd, .i x.sk, .ptr b 0, .slice sb 0 16 16 1 tl], .rw, 0⟩]) = some (.i bd, H ++ [⟨[.i x.k, .i x.a, .i x.b, .i x.i, .i x.n, .i x.nr, .i x.nd, .i x.sk], .rw, 0⟩] ++ [⟨zEff, .rw, 0⟩] ++ [⟨wayCells, .rw, 4⟩] ++ [⟨[.bool wb, .func (wN x.k) [], .func (wU x.k) [], .func (wE x.k) []], .rw, 0⟩] ++ [⟨[.i x.k, .i x.a, .i x.b, .i x.i, .i x.n, .i x.nr, .i x.nd, .i x.sk, .ptr b 0, .slice sb 0 16 16 1 tl], .rw, 0⟩])) (hbd : 0 ≤ bd ∧ ¬ (0 ≤ x.i ∧ x.i < bd)) :
    run P 40 [.ptr b 0, .i mu, .agg [.i x.k, .i x.a, .i x.b, .i x.i, .i x.n, .i x.nr, .i x.nd, .i x.sk]] H = some (.tup [.agg zEff, .i 1], H ++ [⟨[.i x.k, .i x.a, .i x.b, .i x.i, .i x.n, .i x.nr, .i x.nd, .i x.sk], .rw, 0⟩] ++ [⟨zEff, .rw, 0⟩] ++ [⟨wayCells, .rw, 4⟩] ++ [⟨[.bool wb, .func (wN x.k) [], .func (wU x.k) [], .func (wE x.k) []], .rw, 0⟩] ++ [⟨[.i x.k, .i x.a, .i x.b, .i x.i, .i x.n, .i x.nr, .i x.nd, .i x.sk, .ptr b 0, .slice sb 0 16 16 1 tl], .rw, 0⟩]) := by
  have h1 : ∀ J, run P 41 [.ptr b 0] (H ++ J) = some (.bool true, H ++ J) := D.made
  have h1' := h1 ([⟨[.i x.k, .i x.a, .i x.b, .i x.i, .i x.n, .i x.nr, .i x.nd, .i x.sk], .rw, 0⟩] ++ [⟨zEff, .rw, 0⟩])
  rw [← List.append_assoc] at h1'
  have h2 := D.blk
  have h3 := D.sls
  have hl2 := lt_of_get h2
  have hl3 := lt_of_get h3
  have hw := wayLen
  rw [run_lv c40]
  obtain ⟨c1, c2, c3, c4⟩ := c
  have hrow := wayRow ⟨c3, c4⟩
  rw [hwB] at hrow
  have ha' : decide (0 ≤ x.a ∧ x.a < 16) = true := decide_eq_true ca.1
  have hl4 := lt_of_get hs
  simp only [zEff] at hn hu
  by_cases i0 : 0 ≤ x.i
  case neg =>
    cases wb with
    | true =>
      have hb' : decide (0 ≤ x.b ∧ x.b < 16) = true := decide_eq_true (ca.2 rfl)
      rcases hnd with hnd | ⟨n1, n2, z, hz, hz'⟩
      · simp (disch := first | omega | rfl | assumption | (simp only [csN, Nat.reduceAdd, Nat.reduceMul, Nat.reduceLeDiff, Nat.reduceEqDiff] <;> omega) | (simp only [csF]; done) | (simp only [csF] <;> assumption) | fail) only [Nat.reduceEqDiff, Nat.reduceAdd, Nat.reduceMul, Nat.reduceSub, Nat.reduceLeDiff, Int.reduceAdd, Int.reduceSub, Int.reduceMul, Int.reduceLT, Int.reduceLE, Int.reduceGT, Int.reduceGE, Int.reduceEq, Int.reduceBEq, Int.reduceBNe, Int.reduceNeg, Int.reduceToNat, csAll, ↓reduceIte, C40, entry_3, h1', h2, h3, f70, hw, hrow, hsv, f48, ha', hb', hn, hu]
      · simp (disch := first | omega | rfl | assumption | (simp only [csN, Nat.reduceAdd, Nat.reduceMul, Nat.reduceLeDiff, Nat.reduceEqDiff] <;> omega) | (simp only [csF]; done) | (simp only [csF] <;> assumption) | fail) only [Nat.reduceEqDiff, Nat.reduceAdd, Nat.reduceMul, Nat.reduceSub, Nat.reduceLeDiff, Int.reduceAdd, Int.reduceSub, Int.reduceMul, Int.reduceLT, Int.reduceLE, Int.reduceGT, Int.reduceGE, Int.reduceEq, Int.reduceBEq, Int.reduceBNe, Int.reduceNeg, Int.reduceToNat, csAll, ↓reduceIte, C40, entry_3, h1', h2, h3, f70, hw, hrow, hsv, f48, ha', hb', hn, hs, hz, hu]
    | false =>
      rcases hnd with hnd | ⟨n1, n2, z, hz, hz'⟩
      · simp (disch := first | omega | rfl | assumption | (simp only [csN, Nat.reduceAdd, Nat.reduceMul, Nat.reduceLeDiff, Nat.reduceEqDiff] <;> omega) | (simp only [csF]; done) | (simp only [csF] <;> assumption) | fail) only [Nat.reduceEqDiff, Nat.reduceAdd, Nat.reduceMul, Nat.reduceSub, Nat.reduceLeDiff, Int.reduceAdd, Int.reduceSub, Int.reduceMul, Int.reduceLT, Int.reduceLE, Int.reduceGT, Int.reduceGE, Int.reduceEq, Int.reduceBEq, Int.reduceBNe, Int.reduceNeg, Int.reduceToNat, csAll, ↓reduceIte, C40, entry_3, h1', h2, h3, f70, hw, hrow, hsv, f48, ha', hn, hu]
      · simp (disch := first | omega | rfl | assumption | (simp only [csN, Nat.reduceAdd, Nat.reduceMul, Nat.reduceLeDiff, Nat.reduceEqDiff] <;> omega) | (simp only [csF]; done) | (simp only [csF] <;> assumption) | fail) only [Nat.reduceEqDiff, Nat.reduceAdd, Nat.reduceMul, Nat.reduceSub, Nat.reduceLeDiff, Int.reduceAdd, Int.reduceSub, Int.reduceMul, Int.reduceLT, Int.reduceLE, Int.reduceGT, Int.reduceGE, Int.reduceEq, Int.reduceBEq, Int.reduceBNe, Int.reduceNeg, Int.reduceToNat, csAll, ↓reduceIte, C40, entry_3, h1', h2, h3, f70, hw, hrow, hsv, f48, ha', hn, hs, hz, hu]
  
  cases wb with
  | true =>
    have hb' : decide (0 ≤ x.b ∧ x.b < 16) = true := decide_eq_true (ca.2 rfl)
    rcases hnd with hnd | ⟨n1, n2, z, hz, hz'⟩
    · simp (disch := first | omega | rfl | assumption | (simp only [csN, Nat.reduceAdd, Nat.reduceMul, Nat.reduceLeDiff, Nat.reduceEqDiff] <;> omega) | (simp only [csF]; done) | (simp only [csF] <;> assumption) | fail) only [Nat.reduceEqDiff, Nat.reduceAdd, Nat.reduceMul, Nat.reduceSub, Nat.reduceLeDiff, Int.reduceAdd, Int.reduceSub, Int.reduceMul, Int.reduceLT, Int.reduceLE, Int.reduceGT, Int.reduceGE, Int.reduceEq, Int.reduceBEq, Int.reduceBNe, Int.reduceNeg, Int.reduceToNat, csAll, ↓reduceIte, C40, entry_3, h1', h2, h3, f70, hw, hrow, hsv, f48, ha', hb', hn, hu]
    · simp (disch := first | omega | rfl | assumption | (simp only [csN, Nat.reduceAdd, Nat.reduceMul, Nat.reduceLeDiff, Nat.reduceEqDiff] <;> omega) | (simp only [csF]; done) | (simp only [csF] <;> assumption) | fail) only [Nat.reduceEqDiff, Nat.reduceAdd, Nat.reduceMul, Nat.reduceSub, Nat.reduceLeDiff, Int.reduceAdd, Int.reduceSub, Int.reduceMul, Int.reduceLT, Int.reduceLE, Int.reduceGT, Int.reduceGE, Int.reduceEq, Int.reduceBEq, Int.reduceBNe, Int.reduceNeg, Int.reduceToNat, csAll, ↓reduceIte, C40, entry_3, h1', h2, h3, f70, hw, hrow, hsv, f48, ha', hb', hn, hs, hz, hu]
  | false =>
    rcases hnd with hnd | ⟨n1, n2, z, hz, hz'⟩
    · simp (disch := first | omega | rfl | assumption | (simp only [csN, Nat.reduceAdd, Nat.reduceMul, Nat.reduceLeDiff, Nat.reduceEqDiff] <;> omega) | (simp only [csF]; done) | (simp only [csF] <;> assumption) | fail) only [Nat.reduceEqDiff, Nat.reduceAdd, Nat.reduceMul, Nat.reduceSub, Nat.reduceLeDiff, Int.reduceAdd, Int.reduceSub, Int.reduceMul, Int.reduceLT, Int.reduceLE, Int.reduceGT, Int.reduceGE, Int.reduceEq, Int.reduceBEq, Int.reduceBNe, Int.reduceNeg, Int.reduceToNat, csAll, ↓reduceIte, C40, entry_3, h1', h2, h3, f70, hw, hrow, hsv, f48, ha', hn, hu]
    · simp (disch := first | omega | rfl | assumption | (simp only [csN, Nat.reduceAdd, Nat.reduceMul, Nat.reduceLeDiff, Nat.reduceEqDiff] <;> omega) | (simp only [csF]; done) | (simp only [csF] <;> assumption) | fail) only [Nat.reduceEqDiff, Nat.reduceAdd, Nat.reduceMul, Nat.reduceSub, Nat.reduceLeDiff, Int.reduceAdd, Int.reduceSub, Int.reduceMul, Int.reduceLT, Int.reduceLE, Int.reduceGT, Int.reduceGE, Int.reduceEq, Int.reduceBEq, Int.reduceBNe, Int.reduceNeg, Int.reduceToNat, csAll, ↓reduceIte, C40, entry_3, h1', h2, h3, f70, hw, hrow, hsv, f48, ha', hn, hs, hz, hu]

theorem d_ok (D : DoAt b H n bs t2 gl qv ov svs) {wb : Bool} (hwB : wB x.k = wb) (c : 0 ≤ mu ∧ mu < (n : Int) ∧ 0 ≤ x.k ∧ x.k < 12) (hsv : svs[mu.toNat]? = some (.slice sb 0 16 16 1 tl)) (ca : (0 ≤ x.a ∧ x.a < 16) ∧ (wb = true → 0 ≤ x.b ∧ x.b < 16)) (hk : x.k ≠ 0) {nd : Int} (hn : run P (wN x.k) [.ptr (H.length + 4) 0] (H ++ [⟨[.i x.k, .i x.a, .i x.b, .i x.i, .i x.n, .i x.nr, .i x.nd, .i x.sk], .rw, 0⟩] ++ [⟨zEff, .rw, 0⟩] ++ [⟨wayCells, .rw, 4⟩] ++ [⟨[.bool wb, .func (wN x.k) [], .func (wU x.k) [], .func (wE x.k) []], .rw, 0⟩] ++ [⟨[.i x.k, .i x.a, .i x.b, .i x.i, .i x.n, .i x.nr, .i x.nd, .i x.sk, .ptr b 0, .slice sb 0 16 16 1 tl], .rw, 0⟩]) = some (.i nd, H ++ [⟨[.i x.k, .i x.a, .i x.b, .i x.i, .i x.n, .i x.nr, .i x.nd, .i x.sk], .rw, 0⟩] ++ [⟨zEff, .rw, 0⟩] ++ [⟨wayCells, .rw, 4⟩] ++ [⟨[.bool wb, .func (wN x.k) [], .func (wU x.k) [], .func (wE x.k) []], .rw, 0⟩] ++ [⟨[.i x.k, .i x.a, .i x.b, .i x.i, .i x.n, .i x.nr, .i x.nd, .i x.sk, .ptr b 0, .slice sb 0 16 16 1 tl], .rw, 0⟩])) (hnd : nd < 0 ∨ (0 ≤ nd ∧ nd < 16 ∧ ∃ z, (Go.Cs.ints s)[nd.toNat]? = some (.i z) ∧ z ≠ 0)) (hs : H[sb]? = some ⟨Go.Cs.ints s, .rw, 1⟩) {bd : Int} (hu : run P (wU x.k) [.ptr (H.length + 4) 0] (H ++ [⟨[.i x.k, .i x.a, .i x.b, .i x.i, .i x.n, .i x.nr, .i x.nd, .i x.sk], .rw, 0⟩] ++ [⟨zEff, .rw, 0⟩] ++ [⟨wayCells, .rw, 4⟩] ++ [⟨[.bool wb, .func (wN x.k) [], .func (wU x.k) [], .func (wE x.k) []], .rw, 0⟩] ++ [⟨[.i x.k, .i x.a, .i x.b, .i x.i, .i x.n, .i x.nr, .i x.nd, .i x.sk, .ptr b 0, .slice sb 0 16 16 1 tl], .rw, 0⟩]) = some (.i bd, H ++ [⟨[.i x.k, .i x.a, .i x.b, .i x.i, .i x.n, .i x.nr, .i x.nd, .i x.sk], .rw, 0⟩] ++ [⟨zEff, .rw, 0⟩] ++ [⟨wayCells, .rw, 4⟩] ++ [⟨[.bool wb, .func (wN x.k) [], .func (wU x.k) [], .func (wE x.k) []], .rw, 0⟩] ++ [⟨[.i x.k, .i x.a, .i x.b, .i x.i, .i x.n, .i x.nr, .i x.nd, .i x.sk, .ptr b 0, .slice sb 0 16 16 1 tl], .rw, 0⟩])) (hbd : bd < 0 ∨ (0 ≤ bd ∧ 0 ≤ x.i ∧ x.i < bd))
    {tv : CV} {e : Eff} {H' : CHeap} (he : run P (wE x.k) [.ptr (H.length + 4) 0] (H ++ [⟨[.i x.k, .i x.a, .i x.b, .i x.i, .i x.n, .i x.nr, .i x.nd, .i x.sk], .rw, 0⟩] ++ [⟨zEff, .rw, 0⟩] ++ [⟨wayCells, .rw, 4⟩] ++ [⟨[.bool wb, .func (wN x.k) [], .func (wU x.k) [], .func (wE x.k) []], .rw, 0⟩] ++ [⟨[.i x.k, .i x.a, .i x.b, .i x.i, .i x.n, .i x.nr, .i x.nd, .i x.sk, .ptr b 0, .slice sb 0 16 16 1 tl], .rw, 0⟩]) = some (effOf tv e, H')) (hr : H'[H.length + 1]? = some ⟨zEff, .rw, 0⟩) (htv : leaf tv = true) :
    run P 40 [.ptr b 0, .i mu, .agg [.i x.k, .i x.a, .i x.b, .i x.i, .i x.n, .i x.nr, .i x.nd, .i x.sk]] H = some (.tup [effOf tv e, .i 0], H'.set (H.length + 1) ⟨[tv, .i e.o, .i e.i, .i e.old, .i e.new, .i e.made, .i e.loaded], .rw, 0⟩) := by
  have h1 : ∀ J, run P 41 [.ptr b 0] (H ++ J) = some (.bool true, H ++ J) := D.made
  have h1' := h1 ([⟨[.i x.k, .i x.a, .i x.b, .i x.i, .i x.n, .i x.nr, .i x.nd, .i x.sk], .rw, 0⟩] ++ [⟨zEff, .rw, 0⟩])
  rw [← List.append_assoc] at h1'
  have h2 := D.blk
  have h3 := D.sls
  have hl2 := lt_of_get h2
  have hl3 := lt_of_get h3
  have hw := wayLen
  have hl4 := lt_of_get hs
  have hl5 := lt_of_get hr
  simp only [zEff] at hn hu he hr
  simp only [effOf] at he ⊢
  rw [run_lv c40]
  obtain ⟨c1, c2, c3, c4⟩ := c
  have hrow := wayRow ⟨c3, c4⟩
  rw [hwB] at hrow
  have ha' : decide (0 ≤ x.a ∧ x.a < 16) = true := decide_eq_true ca.1
  cases wb with
  | true =>
    have hb' : decide (0 ≤ x.b ∧ x.b < 16) = true := decide_eq_true (ca.2 rfl)
    rcases hnd with hnd | ⟨n1, n2, z, hz, hz'⟩
    · rcases hbd with hbd | hbd
      · simp (disch := first | omega | rfl | assumption | (simp only [csN, Nat.reduceAdd, Nat.reduceMul, Nat.reduceLeDiff, Nat.reduceEqDiff] <;> omega) | (simp only [csF]; done) | (simp only [csF] <;> assumption) | fail) only [Nat.reduceEqDiff, Nat.reduceAdd, Nat.reduceMul, Nat.reduceSub, Nat.reduceLeDiff, Int.reduceAdd, Int.reduceSub, Int.reduceMul, Int.reduceLT, Int.reduceLE, Int.reduceGT, Int.reduceGE, Int.reduceEq, Int.reduceBEq, Int.reduceBNe, Int.reduceNeg, Int.reduceToNat, csAll, ↓reduceIte, C40, entry_3, h1', h2, h3, f70, hw, hrow, hsv, f48, ha', hb', hn, hu, he, hr]
      · simp (disch := first | omega | rfl | assumption | (simp only [csN, Nat.reduceAdd, Nat.reduceMul, Nat.reduceLeDiff, Nat.reduceEqDiff] <;> omega) | (simp only [csF]; done) | (simp only [csF] <;> assumption) | fail) only [Nat.reduceEqDiff, Nat.reduceAdd, Nat.reduceMul, Nat.reduceSub, Nat.reduceLeDiff, Int.reduceAdd, Int.reduceSub, Int.reduceMul, Int.reduceLT, Int.reduceLE, Int.reduceGT, Int.reduceGE, Int.reduceEq, Int.reduceBEq, Int.reduceBNe, Int.reduceNeg, Int.reduceToNat, csAll, ↓reduceIte, C40, entry_3, h1', h2, h3, f70, hw, hrow, hsv, f48, ha', hb', hn, hu, he, hr]
    · rcases hbd with hbd | hbd
      · simp (disch := first | omega | rfl | assumption | (simp only [csN, Nat.reduceAdd, Nat.reduceMul, Nat.reduceLeDiff, Nat.reduceEqDiff] <;> omega) | (simp only [csF]; done) | (simp only [csF] <;> assumption) | fail) only [Nat.reduceEqDiff, Nat.reduceAdd, Nat.reduceMul, Nat.reduceSub, Nat.reduceLeDiff, Int.reduceAdd, Int.reduceSub, Int.reduceMul, Int.reduceLT, Int.reduceLE, Int.reduceGT, Int.reduceGE, Int.reduceEq, Int.reduceBEq, Int.reduceBNe, Int.reduceNeg, Int.reduceToNat, csAll, ↓reduceIte, C40, entry_3, h1', h2, h3, f70, hw, hrow, hsv, f48, ha', hb', hn, hs, hz, hu, he, hr]
      · simp (disch := first | omega | rfl | assumption | (simp only [csN, Nat.reduceAdd, Nat.reduceMul, Nat.reduceLeDiff, Nat.reduceEqDiff] <;> omega) | (simp only [csF]; done) | (simp only [csF] <;> assumption) | fail) only [Nat.reduceEqDiff, Nat.reduceAdd, Nat.reduceMul, Nat.reduceSub, Nat.reduceLeDiff, Int.reduceAdd, Int.reduceSub, Int.reduceMul, Int.reduceLT, Int.reduceLE, Int.reduceGT, Int.reduceGE, Int.reduceEq, Int.reduceBEq, Int.reduceBNe, Int.reduceNeg, Int.reduceToNat, csAll, ↓reduceIte, C40, entry_3, h1', h2, h3, f70, hw, hrow, hsv, f48, ha', hb', hn, hs, hz, hu, he, hr]
  | false =>
    rcases hnd with hnd | ⟨n1, n2, z, hz, hz'⟩
    · rcases hbd with hbd | hbd
      · simp (disch := first | omega | rfl | assumption | (simp only [csN, Nat.reduceAdd, Nat.reduceMul, Nat.reduceLeDiff, Nat.reduceEqDiff] <;> omega) | (simp only [csF]; done) | (simp only [csF] <;> assumption) | fail) only [Nat.reduceEqDiff, Nat.reduceAdd, Nat.reduceMul, Nat.reduceSub, Nat.reduceLeDiff, Int.reduceAdd, Int.reduceSub, Int.reduceMul, Int.reduceLT, Int.reduceLE, Int.reduceGT, Int.reduceGE, Int.reduceEq, Int.reduceBEq, Int.reduceBNe, Int.reduceNeg, Int.reduceToNat, csAll, ↓reduceIte, C40, entry_3, h1', h2, h3, f70, hw, hrow, hsv, f48, ha', hn, hu, he, hr]
      · simp (disch := first | omega | rfl | assumption | (simp only [csN, Nat.reduceAdd, Nat.reduceMul, Nat.reduceLeDiff, Nat.reduceEqDiff] <;> omega) | (simp only [csF]; done) | (simp only [csF] <;> assumption) | fail) only [Nat.reduceEqDiff, Nat.reduceAdd, Nat.reduceMul, Nat.reduceSub, Nat.reduceLeDiff, Int.reduceAdd, Int.reduceSub, Int.reduceMul, Int.reduceLT, Int.reduceLE, Int.reduceGT, Int.reduceGE, Int.reduceEq, Int.reduceBEq, Int.reduceBNe, Int.reduceNeg, Int.reduceToNat, csAll, ↓reduceIte, C40, entry_3, h1', h2, h3, f70, hw, hrow, hsv, f48, ha', hn, hu, he, hr]
    · rcases hbd with hbd | hbd
      · simp (disch := first | omega | rfl | assumption | (simp only [csN, Nat.reduceAdd, Nat.reduceMul, Nat.reduceLeDiff, Nat.reduceEqDiff] <;> omega) | (simp only [csF]; done) | (simp only [csF] <;> assumption) | fail) only [Nat.reduceEqDiff, Nat.reduceAdd, Nat.reduceMul, Nat.reduceSub, Nat.reduceLeDiff, Int.reduceAdd, Int.reduceSub, Int.reduceMul, Int.reduceLT, Int.reduceLE, Int.reduceGT, Int.reduceGE, Int.reduceEq, Int.reduceBEq, Int.reduceBNe, Int.reduceNeg, Int.reduceToNat, csAll, ↓reduceIte, C40, entry_3, h1', h2, h3, f70, hw, hrow, hsv, f48, ha', hn, hs, hz, hu, he, hr]
      · simp (disch := first | omega | rfl | assumption | (simp only [csN, Nat.reduceAdd, Nat.reduceMul, Nat.reduceLeDiff, Nat.reduceEqDiff] <;> omega) | (simp only [csF]; done) | (simp only [csF] <;> assumption) | fail) only [Nat.reduceEqDiff, Nat.reduceAdd, Nat.reduceMul, Nat.reduceSub, Nat.reduceLeDiff, Int.reduceAdd, Int.reduceSub, Int.reduceMul, Int.reduceLT, Int.reduceLE, Int.reduceGT, Int.reduceGE, Int.reduceEq, Int.reduceBEq, Int.reduceBNe, Int.reduceNeg, Int.reduceToNat, csAll, ↓reduceIte, C40, entry_3, h1', h2, h3, f70, hw, hrow, hsv, f48, ha', hn, hs, hz, hu, he, hr]

theorem d_new (D : DoAt b H n bs t2 gl qv ov svs) {wb : Bool} (hwB : wB x.k = wb) (c : 0 ≤ mu ∧ mu < (n : Int) ∧ 0 ≤ x.k ∧ x.k < 12) (hsv : svs[mu.toNat]? = some (.slice sb 0 16 16 1 tl)) (ca : (0 ≤ x.a ∧ x.a < 16) ∧ (wb = true → 0 ≤ x.b ∧ x.b < 16)) (hk : x.k = 0) (hv : validS x.nr x.nd x.sk) {nd : Int} (hn : run P (wN x.k) [.ptr (H.length + 4) 0] (H ++ [⟨[.i x.k, .i x.a, .i x.b, .i x.i, .i x.n, .i x.nr, .i x.nd, .i x.sk], .rw, 0⟩] ++ [⟨zEff, .rw, 0⟩] ++ [⟨wayCells, .rw, 4⟩] ++ [⟨[.bool wb, .func (wN x.k) [], .func (wU x.k) [], .func (wE x.k) []], .rw, 0⟩] ++ [⟨[.i x.k, .i x.a, .i x.b, .i x.i, .i x.n, .i x.nr, .i x.nd, .i x.sk, .ptr b 0, .slice sb 0 16 16 1 tl], .rw, 0⟩] ++ [⟨[.i x.nr, .i x.nd, .i x.sk], .rw, 0⟩]) = some (.i nd, H ++ [⟨[.i x.k, .i x.a, .i x.b, .i x.i, .i x.n, .i x.nr, .i x.nd, .i x.sk], .rw, 0⟩] ++ [⟨zEff, .rw, 0⟩] ++ [⟨wayCells, .rw, 4⟩] ++ [⟨[.bool wb, .func (wN x.k) [], .func (wU x.k) [], .func (wE x.k) []], .rw, 0⟩] ++ [⟨[.i x.k, .i x.a, .i x.b, .i x.i, .i x.n, .i x.nr, .i x.nd, .i x.sk, .ptr b 0, .slice sb 0 16 16 1 tl], .rw, 0⟩] ++ [⟨[.i x.nr, .i x.nd, .i x.sk], .rw, 0⟩])) (hnd : nd < 0 ∨ (0 ≤ nd ∧ nd < 16 ∧ ∃ z, (Go.Cs.ints s)[nd.toNat]? = some (.i z) ∧ z ≠ 0)) (hs : H[sb]? = some ⟨Go.Cs.ints s, .rw, 1⟩) {bd : Int} (hu : run P (wU x.k) [.ptr (H.length + 4) 0] (H ++ [⟨[.i x.k, .i x.a, .i x.b, .i x.i, .i x.n, .i x.nr, .i x.nd, .i x.sk], .rw, 0⟩] ++ [⟨zEff, .rw, 0⟩] ++ [⟨wayCells, .rw, 4⟩] ++ [⟨[.bool wb, .func (wN x.k) [], .func (wU x.k) [], .func (wE x.k) []], .rw, 0⟩] ++ [⟨[.i x.k, .i x.a, .i x.b, .i x.i, .i x.n, .i x.nr, .i x.nd, .i x.sk, .ptr b 0, .slice sb 0 16 16 1 tl], .rw, 0⟩] ++ [⟨[.i x.nr, .i x.nd, .i x.sk], .rw, 0⟩]) = some (.i bd, H ++ [⟨[.i x.k, .i x.a, .i x.b, .i x.i, .i x.n, .i x.nr, .i x.nd, .i x.sk], .rw, 0⟩] ++ [⟨zEff, .rw, 0⟩] ++ [⟨wayCells, .rw, 4⟩] ++ [⟨[.bool wb, .func (wN x.k) [], .func (wU x.k) [], .func (wE x.k) []], .rw, 0⟩] ++ [⟨[.i x.k, .i x.a, .i x.b, .i x.i, .i x.n, .i x.nr, .i x.nd, .i x.sk, .ptr b 0, .slice sb 0 16 16 1 tl], .rw, 0⟩] ++ [⟨[.i x.nr, .i x.nd, .i x.sk], .rw, 0⟩])) (hbd : bd < 0 ∨ (0 ≤ bd ∧ 0 ≤ x.i ∧ x.i < bd))
    {tv : CV} {e : Eff} {H' : CHeap} (he : run P (wE x.k) [.ptr (H.length + 4) 0] (H ++ [⟨[.i x.k, .i x.a, .i x.b, .i x.i, .i x.n, .i x.nr, .i x.nd, .i x.sk], .rw, 0⟩] ++ [⟨zEff, .rw, 0⟩] ++ [⟨wayCells, .rw, 4⟩] ++ [⟨[.bool wb, .func (wN x.k) [], .func (wU x.k) [], .func (wE x.k) []], .rw, 0⟩] ++ [⟨[.i x.k, .i x.a, .i x.b, .i x.i, .i x.n, .i x.nr, .i x.nd, .i x.sk, .ptr b 0, .slice sb 0 16 16 1 tl], .rw, 0⟩] ++ [⟨[.i x.nr, .i x.nd, .i x.sk], .rw, 0⟩]) = some (effOf tv e, H')) (hr : H'[H.length + 1]? = some ⟨zEff, .rw, 0⟩) (htv : leaf tv = true) :
    run P 40 [.ptr b 0, .i mu, .agg [.i x.k, .i x.a, .i x.b, .i x.i, .i x.n, .i x.nr, .i x.nd, .i x.sk]] H = some (.tup [effOf tv e, .i 0], H'.set (H.length + 1) ⟨[tv, .i e.o, .i e.i, .i e.old, .i e.new, .i e.made, .i e.loaded], .rw, 0⟩) := by
  have h1 : ∀ J, run P 41 [.ptr b 0] (H ++ J) = some (.bool true, H ++ J) := D.made
  have h1' := h1 ([⟨[.i x.k, .i x.a, .i x.b, .i x.i, .i x.n, .i x.nr, .i x.nd, .i x.sk], .rw, 0⟩] ++ [⟨zEff, .rw, 0⟩])
  rw [← List.append_assoc] at h1'
  have h2 := D.blk
  have h3 := D.sls
  have hl2 := lt_of_get h2
  have hl3 := lt_of_get h3
  have hw := wayLen
  have hl4 := lt_of_get hs
  have hl5 := lt_of_get hr
  simp only [zEff] at hn hu he hr
  simp only [effOf] at he ⊢
  rw [run_lv c40]
  obtain ⟨c1, c2, c3, c4⟩ := c
  have hrow := wayRow ⟨c3, c4⟩
  rw [hwB] at hrow
  have ha' : decide (0 ≤ x.a ∧ x.a < 16) = true := decide_eq_true ca.1
  have hwb : wb = false := by rw [← hwB, hk]; rfl
  subst hwb
  have hv' : decide (validS x.nr x.nd x.sk) = true := decide_eq_true hv
  rcases hnd with hnd | ⟨n1, n2, z, hz, hz'⟩
  · rcases hbd with hbd | hbd
    · simp (disch := first | omega | rfl | assumption | (simp only [csN, Nat.reduceAdd, Nat.reduceMul, Nat.reduceLeDiff, Nat.reduceEqDiff] <;> omega) | (simp only [csF]; done) | (simp only [csF] <;> assumption) | fail) only [Nat.reduceEqDiff, Nat.reduceAdd, Nat.reduceMul, Nat.reduceSub, Nat.reduceLeDiff, Int.reduceAdd, Int.reduceSub, Int.reduceMul, Int.reduceLT, Int.reduceLE, Int.reduceGT, Int.reduceGE, Int.reduceEq, Int.reduceBEq, Int.reduceBNe, Int.reduceNeg, Int.reduceToNat, csAll, ↓reduceIte, C40, entry_3, h1', h2, h3, f70, hw, hrow, hsv, f48, ha', hn, f71, hv', hu, he, hr]
    · simp (disch := first | omega | rfl | assumption | (simp only [csN, Nat.reduceAdd, Nat.reduceMul, Nat.reduceLeDiff, Nat.reduceEqDiff] <;> omega) | (simp only [csF]; done) | (simp only [csF] <;> assumption) | fail) only [Nat.reduceEqDiff, Nat.reduceAdd, Nat.reduceMul, Nat.reduceSub, Nat.reduceLeDiff, Int.reduceAdd, Int.reduceSub, Int.reduceMul, Int.reduceLT, Int.reduceLE, Int.reduceGT, Int.reduceGE, Int.reduceEq, Int.reduceBEq, Int.reduceBNe, Int.reduceNeg, Int.reduceToNat, csAll, ↓reduceIte, C40, entry_3, h1', h2, h3, f70, hw, hrow, hsv, f48, ha', hn, f71, hv', hu, he, hr]
  · rcases hbd with hbd | hbd
    · simp (disch := first | omega | rfl | assumption | (simp only [csN, Nat.reduceAdd, Nat.reduceMul, Nat.reduceLeDiff, Nat.reduceEqDiff] <;> omega) | (simp only [csF]; done) | (simp only [csF] <;> assumption) | fail) only [Nat.reduceEqDiff, Nat.reduceAdd, Nat.reduceMul, Nat.reduceSub, Nat.reduceLeDiff, Int.reduceAdd, Int.reduceSub, Int.reduceMul, Int.reduceLT, Int.reduceLE, Int.reduceGT, Int.reduceGE, Int.reduceEq, Int.reduceBEq, Int.reduceBNe, Int.reduceNeg, Int.reduceToNat, csAll, ↓reduceIte, C40, entry_3, h1', h2, h3, f70, hw, hrow, hsv, f48, ha', hn, hs, hz, f71, hv', hu, he, hr]
    · simp (disch := first | omega | rfl | assumption | (simp only [csN, Nat.reduceAdd, Nat.reduceMul, Nat.reduceLeDiff, Nat.reduceEqDiff] <;> omega) | (simp only [csF]; done) | (simp only [csF] <;> assumption) | fail) only [Nat.reduceEqDiff, Nat.reduceAdd, Nat.reduceMul, Nat.reduceSub, Nat.reduceLeDiff, Int.reduceAdd, Int.reduceSub, Int.reduceMul, Int.reduceLT, Int.reduceLE, Int.reduceGT, Int.reduceGE, Int.reduceEq, Int.reduceBEq, Int.reduceBNe, Int.reduceNeg, Int.reduceToNat, csAll, ↓reduceIte, C40, entry_3, h1', h2, h3, f70, hw, hrow, hsv, f48, ha', hn, hs, hz, f71, hv', hu, he, hr]
end
end Go.Cs.Try

/- Do. -/
namespace Go.Cs
open Go
def e0 : Eff := ⟨[], 0, 0, 0, 0, 0, 0⟩
def wNeed (x : Act) : Int := if x.k = 1 then x.b else if x.k = 2 ∨ x.k = 3 ∨ x.k = 4 ∨ x.k = 11 then x.a else -1
def Mdl.bound (M : Mdl) (s : List Int) (x : Act) : Int :=
  if x.k = 1 then (M.obj (s.getD x.b.toNat 0)).nr else if x.k = 2 then (M.obj (s.getD x.a.toNat 0)).nr
  else if x.k = 3 ∨ x.k = 4 then (M.obj (s.getD x.a.toNat 0)).nd else if x.k = 9 ∨ x.k = 10 then 16 else -1
def Mdl.setSlot (M : Mdl) (mu : Nat) (s : List Int) (a : Int) (z : Int) : Mdl := { M with slots := M.slots.set mu (s.set a.toNat z) }

/-- What an act does, when nothing is against it. -/
def Mdl.eff (M : Mdl) (mu : Nat) (s : List Int) (x : Act) : Mdl × Eff :=
  let sa := s.getD x.a.toNat 0
  let sb := s.getD x.b.toNat 0
  if x.k = 0 then (({ M with objs := M.objs ++ [bornObj x] } : Mdl).setSlot mu s x.a (M.objs.length + 1), ⟨[], 0, 0, 0, 0, M.objs.length + 1, 0⟩)
  else if x.k = 1 then (M.setSlot mu s x.a ((M.obj sb).refs.getD x.i.toNat 0), ⟨[], 0, 0, 0, 0, 0, (M.obj sb).refs.getD x.i.toNat 0⟩)
  else if x.k = 2 then (M.setObj sa { M.obj sa with refs := (M.obj sa).refs.set x.i.toNat sb }, ⟨[], sa, x.i, (M.obj sa).refs.getD x.i.toNat 0, sb, 0, 0⟩)
  else if x.k = 3 then (M.setObj sa { M.obj sa with data := (M.obj sa).data.set x.i.toNat x.n }, e0)
  else if x.k = 4 then (M, ⟨[(M.obj sa).data.getD x.i.toNat 0], 0, 0, 0, 0, 0, 0⟩)
  else if x.k = 5 then (M.setSlot mu s x.a sb, ⟨[], 0, 0, 0, 0, 0, sb⟩)
  else if x.k = 6 then (M.setSlot mu s x.a 0, e0)
  else if x.k = 7 then (M, ⟨[if sa = sb then 1 else 0], 0, 0, 0, 0, 0, 0⟩)
  else if x.k = 8 then (M, ⟨[sa], 0, 0, 0, 0, 0, 0⟩)
  else if x.k = 9 then ({ M with globals := M.globals.set x.i.toNat sa }, e0)
  else if x.k = 10 then (M.setSlot mu s x.a (M.globals.getD x.i.toNat 0), ⟨[], 0, 0, 0, 0, 0, M.globals.getD x.i.toNat 0⟩)
  else (M, ⟨[(M.obj sa).nr, (M.obj sa).nd, (M.obj sa).kd], 0, 0, 0, 0, 0, 0⟩)

/-- The error of an act: 0, if it has none. -/
def Mdl.errOf (M : Mdl) (mu : Int) (x : Act) : Int :=
  if ¬ (0 ≤ mu ∧ mu < (M.slots.length : Int) ∧ 0 ≤ x.k ∧ x.k < 12) then 1
  else if ¬ ((0 ≤ x.a ∧ x.a < 16) ∧ (wB x.k = true → 0 ≤ x.b ∧ x.b < 16)) then 1
  else if x.k = 0 ∧ ¬ validS x.nr x.nd x.sk then 2
  else if 0 ≤ wNeed x ∧ (M.slots.getD mu.toNat []).getD (wNeed x).toNat 0 = 0 then 7
  else if 0 ≤ M.bound (M.slots.getD mu.toNat []) x ∧ ¬ (0 ≤ x.i ∧ x.i < M.bound (M.slots.getD mu.toNat []) x) then 1
  else 0

def Mdl.doAct (M : Mdl) (mu : Int) (x : Act) : Mdl × Eff × Int :=
  if M.errOf mu x = 0 then ((M.eff mu.toNat (M.slots.getD mu.toNat []) x).1, (M.eff mu.toNat (M.slots.getD mu.toNat []) x).2, 0)
  else (M, e0, M.errOf mu x)

/-- What Do comes to. -/
def DoesD (o : Tags) (g : Nat) (H : CHeap) (b : Nat) (M' : Mdl) (e : Eff) (n : Int) (r : Option (CV × CHeap)) : Prop :=
  ∃ H' o' L' tv, r = some (.tup [effOf tv e, .i n], H') ∧ MRep o' g H' b M' L' ∧ Frm g o H o' H' ∧ At (Loc H.length) z3 H' tv 1 e.told.length (ints e.told)

theorem k12 {k : Int} (h : 0 ≤ k ∧ k < 12) : k = 0 ∨ k = 1 ∨ k = 2 ∨ k = 3 ∨ k = 4 ∨ k = 5 ∨ k = 6 ∨ k = 7 ∨ k = 8 ∨ k = 9 ∨ k = 10 ∨ k = 11 := by omega
end Go.Cs

namespace Go.Cs.Try
open Go Go.Cs
set_option maxRecDepth 100000
section
variable {o : Tags} {g : Nat} {H : CHeap} {b : Nat} {M : Mdl} {L : Lay} {ab : Nat} {x : Act} {mu : Nat} {s : List Int} {v : CV} {tl : Bool}

theorem needs_ok (A : ActAt o g H b M L ab x mu s v tl) (hk : 0 ≤ x.k ∧ x.k < 12) : run P (wN x.k) [.ptr ab 0] H = some (.i (wNeed x), H) := by
  unfold wN wNeed
  by_cases h1 : x.k = 1
  · rw [if_pos h1, if_pos h1]; exact f82 A
  · rw [if_neg h1, if_neg h1]
    by_cases h2 : x.k = 2 ∨ x.k = 3 ∨ x.k = 4 ∨ x.k = 11
    · rw [if_pos h2, if_pos h2]; exact f86 A
    · rw [if_neg h2, if_neg h2]; exact f80

theorem bound_ok (A : ActAt o g H b M L ab x mu s v tl) (hk : 0 ≤ x.k ∧ x.k < 12) (ha : 0 ≤ x.a ∧ x.a < 16) (hb : wB x.k = true → 0 ≤ x.b ∧ x.b < 16) (hz : 0 ≤ wNeed x → s.getD (wNeed x).toNat 0 ≠ 0) :
    run P (wU x.k) [.ptr ab 0] H = some (.i (M.bound s x), H) := by
  have hc := k12 hk
  unfold wU Mdl.bound
  by_cases h1 : x.k = 1
  · have hn : wNeed x = x.b := by unfold wNeed; rw [if_pos h1]
    have hb' := hb (by rw [h1]; rfl)
    rw [hn] at hz
    rw [if_pos h1, if_pos h1]; exact f83 A hb' (hz hb'.1)
  · have hn : x.k = 2 ∨ x.k = 3 ∨ x.k = 4 → wNeed x = x.a := by
      intro h; unfold wNeed; rw [if_neg h1, if_pos (by omega)]
    rw [if_neg h1, if_neg h1]
    by_cases h2 : x.k = 2
    · rw [hn (.inl h2)] at hz
      rw [if_pos h2, if_pos h2]; exact f87 A ha (hz ha.1)
    · rw [if_neg h2, if_neg h2]
      by_cases h3 : x.k = 3 ∨ x.k = 4
      · rw [hn (.inr h3)] at hz
        rw [if_pos h3, if_pos h3]; exact f89 A ha (hz ha.1)
      · rw [if_neg h3, if_neg h3]
        by_cases h4 : x.k = 9 ∨ x.k = 10
        · rw [if_pos h4, if_pos h4]; exact f97
        · rw [if_neg h4, if_neg h4]; exact f80

theorem eff_ok (A : ActAt o g H b M L ab x mu s v tl) (hk : 0 ≤ x.k ∧ x.k < 12) (ha : 0 ≤ x.a ∧ x.a < 16) (hb : wB x.k = true → 0 ≤ x.b ∧ x.b < 16) (hv : x.k = 0 → validS x.nr x.nd x.sk)
    (hz : 0 ≤ wNeed x → s.getD (wNeed x).toNat 0 ≠ 0) (hi : 0 ≤ M.bound s x → 0 ≤ x.i ∧ x.i < M.bound s x) (hf : M.objs.length < 100000) :
    DoesE o g H b (M.eff mu s x).1 (M.eff mu s x).2 (run P (wE x.k) [.ptr ab 0] H) := by
  rcases k12 hk with h | h | h | h | h | h | h | h | h | h | h | h
  · have e1 : wE x.k = 81 := by rw [h]; rfl
    have e2 : M.eff mu s x = (({ M with objs := M.objs ++ [Go.Cs.bornObj x] } : Mdl).setSlot mu s x.a (M.objs.length + 1), ⟨[], 0, 0, 0, 0, M.objs.length + 1, 0⟩) := by unfold Mdl.eff; simp only [h]; rfl
    rw [e1, e2]
    have hv' := hv h
    unfold validS at hv'
    exact e81 A ha (by omega) hf
  · have e1 : wE x.k = 84 := by rw [h]; rfl
    have e2 : M.eff mu s x = (M.setSlot mu s x.a ((M.obj (s.getD x.b.toNat 0)).refs.getD x.i.toNat 0), ⟨[], 0, 0, 0, 0, 0, (M.obj (s.getD x.b.toNat 0)).refs.getD x.i.toNat 0⟩) := by unfold Mdl.eff; simp only [h]; rfl
    have e3 : wNeed x = x.b := by unfold wNeed; rw [if_pos h]
    have e4 : M.bound s x = (M.obj (s.getD x.b.toNat 0)).nr := by unfold Mdl.bound; rw [if_pos h]
    have hb' := hb (by rw [h]; rfl)
    rw [e3] at hz
    rw [e4] at hi
    have := (A.w.obj (slotHas A.w A.hs hb' (hz hb'.1))).nr
    rw [e1, e2]
    exact e84 A ha hb' (hz hb'.1) (hi (by omega))
  · have e1 : wE x.k = 88 := by rw [h]; rfl
    have e2 : M.eff mu s x = (M.setObj (s.getD x.a.toNat 0) { M.obj (s.getD x.a.toNat 0) with refs := (M.obj (s.getD x.a.toNat 0)).refs.set x.i.toNat (s.getD x.b.toNat 0) }, ⟨[], s.getD x.a.toNat 0, x.i, (M.obj (s.getD x.a.toNat 0)).refs.getD x.i.toNat 0, s.getD x.b.toNat 0, 0, 0⟩) := by unfold Mdl.eff; simp only [h]; rfl
    have e3 : wNeed x = x.a := by unfold wNeed; rw [if_neg (by omega), if_pos (by omega)]
    have e4 : M.bound s x = (M.obj (s.getD x.a.toNat 0)).nr := by unfold Mdl.bound; rw [if_neg (by omega), if_pos h]
    have hb' := hb (by rw [h]; rfl)
    rw [e3] at hz
    rw [e4] at hi
    have := (A.w.obj (slotHas A.w A.hs ha (hz ha.1))).nr
    rw [e1, e2]
    exact e88 A ha hb' (hz ha.1) (hi (by omega))
  · have e1 : wE x.k = 90 := by rw [h]; rfl
    have e2 : M.eff mu s x = (M.setObj (s.getD x.a.toNat 0) { M.obj (s.getD x.a.toNat 0) with data := (M.obj (s.getD x.a.toNat 0)).data.set x.i.toNat x.n }, e0) := by unfold Mdl.eff; simp only [h]; rfl
    have e3 : wNeed x = x.a := by unfold wNeed; rw [if_neg (by omega), if_pos (by omega)]
    have e4 : M.bound s x = (M.obj (s.getD x.a.toNat 0)).nd := by unfold Mdl.bound; rw [if_neg (by omega), if_neg (by omega), if_pos (by omega)]
    rw [e3] at hz
    rw [e4] at hi
    have := (A.w.obj (slotHas A.w A.hs ha (hz ha.1))).nd
    rw [e1, e2]
    exact e90 A ha (hz ha.1) (hi (by omega))
  · have e1 : wE x.k = 91 := by rw [h]; rfl
    have e2 : M.eff mu s x = (M, ⟨[(M.obj (s.getD x.a.toNat 0)).data.getD x.i.toNat 0], 0, 0, 0, 0, 0, 0⟩) := by unfold Mdl.eff; simp only [h]; rfl
    have e3 : wNeed x = x.a := by unfold wNeed; rw [if_neg (by omega), if_pos (by omega)]
    have e4 : M.bound s x = (M.obj (s.getD x.a.toNat 0)).nd := by unfold Mdl.bound; rw [if_neg (by omega), if_neg (by omega), if_pos (by omega)]
    rw [e3] at hz
    rw [e4] at hi
    have := (A.w.obj (slotHas A.w A.hs ha (hz ha.1))).nd
    rw [e1, e2]
    exact e91 A ha (hz ha.1) (hi (by omega))
  · have e1 : wE x.k = 93 := by rw [h]; rfl
    have e2 : M.eff mu s x = (M.setSlot mu s x.a (s.getD x.b.toNat 0), ⟨[], 0, 0, 0, 0, 0, s.getD x.b.toNat 0⟩) := by unfold Mdl.eff; simp only [h]; rfl
    rw [e1, e2]
    exact e93 A ha (hb (by rw [h]; rfl))
  · have e1 : wE x.k = 94 := by rw [h]; rfl
    have e2 : M.eff mu s x = (M.setSlot mu s x.a 0, e0) := by unfold Mdl.eff; simp only [h]; rfl
    rw [e1, e2]
    exact e94 A ha
  · have e1 : wE x.k = 95 := by rw [h]; rfl
    have e2 : M.eff mu s x = (M, ⟨[if s.getD x.a.toNat 0 = s.getD x.b.toNat 0 then 1 else 0], 0, 0, 0, 0, 0, 0⟩) := by unfold Mdl.eff; simp only [h]; rfl
    rw [e1, e2]
    exact e95 A ha (hb (by rw [h]; rfl))
  · have e1 : wE x.k = 96 := by rw [h]; rfl
    have e2 : M.eff mu s x = (M, ⟨[s.getD x.a.toNat 0], 0, 0, 0, 0, 0, 0⟩) := by unfold Mdl.eff; simp only [h]; rfl
    rw [e1, e2]
    exact e96 A ha
  · have e1 : wE x.k = 98 := by rw [h]; rfl
    have e2 : M.eff mu s x = ({ M with globals := M.globals.set x.i.toNat (s.getD x.a.toNat 0) }, e0) := by unfold Mdl.eff; simp only [h]; rfl
    have e4 : M.bound s x = 16 := by unfold Mdl.bound; rw [if_neg (by omega), if_neg (by omega), if_neg (by omega), if_pos (by omega)]
    rw [e4] at hi
    rw [e1, e2]
    exact e98 A ha (hi (by omega))
  · have e1 : wE x.k = 99 := by rw [h]; rfl
    have e2 : M.eff mu s x = (M.setSlot mu s x.a (M.globals.getD x.i.toNat 0), ⟨[], 0, 0, 0, 0, 0, M.globals.getD x.i.toNat 0⟩) := by unfold Mdl.eff; simp only [h]; rfl
    have e4 : M.bound s x = 16 := by unfold Mdl.bound; rw [if_neg (by omega), if_neg (by omega), if_neg (by omega), if_pos (by omega)]
    rw [e4] at hi
    rw [e1, e2]
    exact e99 A ha (hi (by omega))
  · have e1 : wE x.k = 100 := by rw [h]; rfl
    have e2 : M.eff mu s x = (M, ⟨[(M.obj (s.getD x.a.toNat 0)).nr, (M.obj (s.getD x.a.toNat 0)).nd, (M.obj (s.getD x.a.toNat 0)).kd], 0, 0, 0, 0, 0, 0⟩) := by unfold Mdl.eff; simp only [h]; rfl
    have e3 : wNeed x = x.a := by unfold wNeed; rw [if_neg (by omega), if_pos (by omega)]
    rw [e3] at hz
    rw [e1, e2]
    exact e100 A ha (hz ha.1)
end
end Go.Cs.Try

/- What is kept, plainly: the least set, and how it is found. -/
namespace Go.Cs
open Go

def soft (kd : Int) : Nat := if kd = 1 then 1 else if kd = 2 then 2 else 0
def Mdl.places (M : Mdl) : List Int := M.slots.flatten ++ M.globals ++ M.queue

/-- What is kept. -/
inductive Kp (M : Mdl) : Int → Prop
  | root {v : Int} : v ∈ M.places → v ≠ 0 → Kp M v
  | strong {n v : Int} : Kp M n → v ∈ (M.obj n).refs.drop (soft (M.obj n).kd) → v ≠ 0 → Kp M v
  | eph {n : Int} : Kp M n → (M.obj n).kd = 2 → Kp M ((M.obj n).refs.getD 0 0) → (M.obj n).refs.getD 1 0 ≠ 0 → Kp M ((M.obj n).refs.getD 1 0)

theorem Mdl.Ok.place {M : Mdl} (w : M.Ok) {v : Int} (h : v ∈ M.places) : 0 ≤ v ∧ v ≤ (M.objs.length : Int) := by
  unfold Mdl.places at h
  simp only [List.mem_append, List.mem_flatten] at h
  rcases h with (⟨s, hs, hv⟩ | h) | h
  · exact (w.s16 s hs).2 v hv
  · exact w.g16.2 v h
  · have := w.q64.2 v h; omega

theorem Kp.has {M : Mdl} (w : M.Ok) {v : Int} (h : Kp M v) : M.has v := by
  unfold Mdl.has
  induction h with
  | root h hz => have := w.place h; omega
  | strong _ h hz ih => have := (w.obj ih).ids _ (List.mem_of_mem_drop h); omega
  | @eph n _ h1 _ hz ih _ =>
    have hk := (w.obj ih)
    have h2 := hk.kd.2.2.2 h1
    have h3 := hk.nr
    have := hk.ids _ (List.mem_of_getElem? (getD_of (l := (M.obj n).refs) (i := 1) 0 (by omega)))
    omega

abbrev KSt := List Bool × List Int
def on (ks : List Bool) (v : Int) : Bool := ks.getD v.toNat false

def reach (s : KSt) (v : Int) : KSt := if v ≠ 0 ∧ on s.1 v = false then (s.1.set v.toNat true, s.2 ++ [v]) else s

def falses (ks : List Bool) : Nat := ks.count false
def meas (s : KSt) : Nat := falses s.1 + s.2.length

theorem count_set {ks : List Bool} : ∀ {i : Nat}, i < ks.length → ks.getD i false = false → (ks.set i true).count false + 1 = ks.count false := by
  induction ks with
  | nil => intro i h; simp at h
  | cons a r ih =>
    intro i h hf
    cases i with
    | zero => simp at hf; subst hf; simp
    | succ i =>
      simp only [List.length_cons] at h
      have := ih (i := i) (by omega) (by simpa using hf)
      simp only [List.set_cons_succ, List.count_cons]
      omega

theorem on_set {ks : List Bool} {v u : Int} (hv : 0 ≤ v ∧ v.toNat < ks.length) (hu : 0 ≤ u) : on (ks.set v.toNat true) u = (decide (u = v) || on ks u) := by
  unfold on
  by_cases h : u = v
  · subst h
    simp [List.getD_eq_getElem?_getD, List.getElem?_set_self hv.2]
  · have : v.toNat ≠ u.toNat := by omega
    simp [List.getD_eq_getElem?_getD, List.getElem?_set_ne this, h]

/-- In order: lengths, and what lies on the stack. -/
structure KOk (n : Nat) (s : KSt) : Prop where
  len : s.1.length = n + 1
  zero : on s.1 0 = false
  stk : ∀ v ∈ s.2, 1 ≤ v ∧ v ≤ (n : Int) ∧ on s.1 v = true
  few : s.2.length + falses s.1 ≤ n + 1

theorem KOk.reach {n : Nat} {s : KSt} (h : KOk n s) {v : Int} (hv : 0 ≤ v ∧ v ≤ (n : Int)) : KOk n (reach s v) ∧ meas (Go.Cs.reach s v) = meas s ∧ (∀ u, 0 ≤ u → on s.1 u = true → on (Go.Cs.reach s v).1 u = true) ∧ (v ≠ 0 → on (Go.Cs.reach s v).1 v = true) ∧
    (∀ u, 0 ≤ u → on (Go.Cs.reach s v).1 u = true → on s.1 u = true ∨ (u = v ∧ v ≠ 0 ∧ u ∈ (Go.Cs.reach s v).2)) ∧ (∀ u ∈ s.2, u ∈ (Go.Cs.reach s v).2) ∧ ((Go.Cs.reach s v).2 = [] → Go.Cs.reach s v = s) := by
  unfold Go.Cs.reach
  by_cases c : v ≠ 0 ∧ on s.1 v = false
  · rw [if_pos c]
    have hl : v.toNat < s.1.length := by rw [h.len]; omega
    have hc := count_set hl c.2
    have hs : ∀ u, 0 ≤ u → on (s.1.set v.toNat true) u = (decide (u = v) || on s.1 u) := fun u hu => on_set ⟨hv.1, hl⟩ hu
    have hfew := h.few
    unfold falses at hfew
    refine ⟨⟨by simp [h.len], ?_, ?_, ?_⟩, ?_, ?_, ?_, ?_, ?_, ?_⟩
    · rw [hs 0 (by omega), h.zero]; simp; omega
    · intro u hu
      simp only [List.mem_append, List.mem_singleton] at hu
      rcases hu with hu | rfl
      · have := h.stk u hu
        refine ⟨this.1, this.2.1, ?_⟩
        rw [hs u (by omega), this.2.2]; simp
      · refine ⟨by omega, hv.2, ?_⟩
        rw [hs u hv.1]; simp
    · unfold falses; simp only [List.length_append, List.length_singleton]; omega
    · unfold meas falses; simp only [List.length_append, List.length_singleton]; omega
    · intro u hu h1; rw [hs u hu, h1]; simp
    · intro _; rw [hs v hv.1]; simp
    · intro u hu h1
      rw [hs u hu] at h1
      simp only [Bool.or_eq_true, decide_eq_true_eq] at h1
      rcases h1 with rfl | h1
      · exact .inr ⟨rfl, c.1, by simp⟩
      · exact .inl h1
    · intro u hu; simp [hu]
    · intro hh; simp at hh
  · rw [if_neg c]
    refine ⟨h, rfl, fun _ _ h => h, ?_, fun _ _ h => .inl h, fun _ h => h, fun _ => rfl⟩
    intro hz
    cases e : on s.1 v with
    | true => rfl
    | false => exact absurd ⟨hz, e⟩ c

/-- Many. -/
def reaches (s : KSt) (l : List Int) : KSt := l.foldl reach s

theorem KOk.reaches {n : Nat} : ∀ {l : List Int} {s : KSt}, KOk n s → (∀ v ∈ l, 0 ≤ v ∧ v ≤ (n : Int)) → KOk n (reaches s l) ∧ meas (Go.Cs.reaches s l) = meas s ∧ (∀ u, 0 ≤ u → on s.1 u = true → on (Go.Cs.reaches s l).1 u = true) ∧ (∀ v ∈ l, v ≠ 0 → on (Go.Cs.reaches s l).1 v = true) ∧
    (∀ u, 0 ≤ u → on (Go.Cs.reaches s l).1 u = true → on s.1 u = true ∨ (u ∈ l ∧ u ≠ 0 ∧ u ∈ (Go.Cs.reaches s l).2)) ∧ (∀ u ∈ s.2, u ∈ (Go.Cs.reaches s l).2)
  | [], s, h, _ => ⟨h, rfl, fun _ _ h => h, fun v hv => by simp at hv, fun _ _ h => .inl h, fun _ h => h⟩
  | v :: l, s, h, hl => by
    obtain ⟨a1, a2, a3, a4, a5, a6, _⟩ := h.reach (hl v (by simp))
    obtain ⟨b1, b2, b3, b4, b5, b6⟩ := a1.reaches (l := l) (fun u hu => hl u (by simp [hu]))
    refine ⟨b1, b2.trans a2, fun u hu h1 => b3 u hu (a3 u hu h1), ?_, ?_, fun u hu => b6 u (a6 u hu)⟩
    · intro u hu hz
      simp only [List.mem_cons] at hu
      rcases hu with rfl | hu
      · exact b3 u (hl u (by simp)).1 (a4 hz)
      · exact b4 u hu hz
    · intro u hu h1
      rcases b5 u hu h1 with h2 | ⟨h2, h3, h4⟩
      · rcases a5 u hu h2 with h5 | ⟨rfl, h6, h7⟩
        · exact .inl h5
        · exact .inr ⟨by simp, h6, b6 u h7⟩
      · exact .inr ⟨by simp [h2], h3, h4⟩

theorem falses_reach {s : KSt} {v : Int} : falses (reach s v).1 ≤ falses s.1 := by
  unfold reach
  split
  · rename_i h
    by_cases hl : v.toNat < s.1.length
    · have := count_set hl h.2
      unfold falses; dsimp only; omega
    · dsimp only; rw [List.set_eq_of_length_le (by omega)]; exact Nat.le_refl _
  · exact Nat.le_refl _
theorem falses_reaches : ∀ {l : List Int} {s : KSt}, falses (reaches s l).1 ≤ falses s.1
  | [], _ => Nat.le_refl _
  | v :: l, s => Nat.le_trans (falses_reaches (l := l) (s := reach s v)) falses_reach
theorem reaches_append {s : KSt} {l k : List Int} : reaches s (l ++ k) = reaches (reaches s l) k := by unfold reaches; rw [List.foldl_append]

/-- What is found so far is kept; and what is not on the stack has led on. -/
structure KInv (M : Mdl) (s : KSt) : Prop where
  ok : KOk M.objs.length s
  snd : ∀ v, 0 ≤ v → on s.1 v = true → Kp M v
  roots : ∀ v ∈ M.places, v ≠ 0 → on s.1 v = true
  cl : ∀ n, 0 ≤ n → on s.1 n = true → n ∉ s.2 → ∀ v ∈ (M.obj n).refs.drop (soft (M.obj n).kd), v ≠ 0 → on s.1 v = true

theorem KInv.mono {M : Mdl} (w : M.Ok) {s s' : KSt} (h : KInv M s) (k : KOk M.objs.length s') (hm : ∀ u, 0 ≤ u → on s.1 u = true → on s'.1 u = true)
    (hn : ∀ u, 0 ≤ u → on s'.1 u = true → on s.1 u = true ∨ (Kp M u ∧ u ∈ s'.2)) (hs : ∀ u, u ∈ s.2 → u ∈ s'.2) : KInv M s' := by
  refine ⟨k, ?_, ?_, ?_⟩
  · intro u hu h1
    rcases hn u hu h1 with h2 | ⟨h2, _⟩
    · exact h.snd u hu h2
    · exact h2
  · intro u hu hz
    exact hm u (w.place hu).1 (h.roots u hu hz)
  · intro n hn' h1 h2 u hu hz
    rcases hn n hn' h1 with h3 | ⟨_, h4⟩
    · have := (w.obj (Kp.has w (h.snd n hn' h3))).ids u (List.mem_of_mem_drop hu)
      exact hm u this.1 (h.cl n hn' h3 (fun hh => h2 (hs n hh)) u hu hz)
    · exact absurd h4 h2

theorem KInv.reach {M : Mdl} (w : M.Ok) {s : KSt} (h : KInv M s) {v : Int} (hv : 0 ≤ v ∧ v ≤ (M.objs.length : Int)) (hk : v ≠ 0 → Kp M v) : KInv M (reach s v) := by
  obtain ⟨a1, a2, a3, a4, a5, a6, _⟩ := h.ok.reach hv
  refine h.mono w a1 a3 (fun u hu h1 => ?_) a6
  rcases a5 u hu h1 with h2 | ⟨rfl, h3, h4⟩
  · exact .inl h2
  · exact .inr ⟨hk h3, h4⟩

/-- One from the stack is done. -/
theorem KInv.pop {M : Mdl} (w : M.Ok) {ks : List Bool} {st : List Int} {v : Int} (h : KInv M (ks, st ++ [v])) :
    KInv M (reaches (ks, st) ((M.obj v).refs.drop (soft (M.obj v).kd))) ∧ meas (reaches (ks, st) ((M.obj v).refs.drop (soft (M.obj v).kd))) + 1 = meas (ks, st ++ [v]) := by
  have hv := h.ok.stk v (by simp)
  have hkv := h.snd v (by omega) hv.2.2
  have hids : ∀ u ∈ (M.obj v).refs.drop (soft (M.obj v).kd), 0 ≤ u ∧ u ≤ (M.objs.length : Int) := fun u hu => (w.obj (Kp.has w hkv)).ids u (List.mem_of_mem_drop hu)
  have k0 : KOk M.objs.length (ks, st) := by
    refine ⟨h.ok.len, h.ok.zero, fun u hu => h.ok.stk u (by simp [hu]), ?_⟩
    have := h.ok.few
    simp only [List.length_append, List.length_singleton] at this ⊢
    omega
  obtain ⟨b1, b2, b3, b4, b5, b6⟩ := k0.reaches hids
  refine ⟨⟨b1, ?_, ?_, ?_⟩, ?_⟩
  · intro u hu h1
    rcases b5 u hu h1 with h2 | ⟨h2, h3, _⟩
    · exact h.snd u hu h2
    · exact .strong hkv h2 h3
  · intro u hu hz
    exact b3 u (w.place hu).1 (h.roots u hu hz)
  · intro n hn h1 h2 u hu hz
    rcases b5 n hn h1 with h3 | ⟨_, _, h4⟩
    · have hr := (w.obj (Kp.has w (h.snd n hn h3))).ids u (List.mem_of_mem_drop hu)
      by_cases e : n = v
      · subst e; exact b4 u hu hz
      · refine b3 u hr.1 (h.cl n hn h3 (fun hh => ?_) u hu hz)
        simp only [List.mem_append, List.mem_singleton] at hh
        rcases hh with hh | hh
        · exact h2 (b6 n hh)
        · exact e hh
    · exact absurd h4 h2
  · rw [b2]; unfold meas; simp; omega

/-- Whether the ephemeron n has led on. -/
def ephOk (M : Mdl) (ks : List Bool) (n : Int) : Prop := on ks n = true → (M.obj n).kd = 2 → on ks ((M.obj n).refs.getD 0 0) = true → (M.obj n).refs.getD 1 0 = 0 ∨ on ks ((M.obj n).refs.getD 1 0) = true

/-- In the end what is found is just what is kept. -/
theorem KInv.done {M : Mdl} (w : M.Ok) {ks : List Bool} (h : KInv M (ks, [])) (he : ∀ n : Int, 1 ≤ n → n ≤ (M.objs.length : Int) → ephOk M ks n) {v : Int} (hv : 0 ≤ v) : on ks v = true ↔ Kp M v := by
  constructor
  · exact h.snd v hv
  · intro hk
    clear hv
    induction hk with
    | root h1 hz => exact h.roots _ h1 hz
    | strong h1 h2 hz ih =>
      have := Kp.has w h1
      unfold Mdl.has at this
      exact h.cl _ (by omega) ih (by simp) _ h2 hz
    | @eph n h1 h2 _ hz ih ih2 =>
      have := Kp.has w h1
      unfold Mdl.has at this
      exact (he n this.1 this.2 ih h2 ih2).resolve_left hz

noncomputable instance (M : Mdl) (v : Int) : Decidable (Kp M v) := Classical.propDecidable _
noncomputable def Mdl.keptL (M : Mdl) : List Bool := (List.range (M.objs.length + 1)).map fun (i : Nat) => decide (Kp M (i : Int))

theorem KInv.keptL {M : Mdl} (w : M.Ok) {ks : List Bool} (h : KInv M (ks, [])) (he : ∀ n : Int, 1 ≤ n → n ≤ (M.objs.length : Int) → ephOk M ks n) : ks = M.keptL := by
  apply List.ext_getElem?
  intro i
  by_cases hi : i < M.objs.length + 1
  · have h1 := getD_of (l := ks) (i := i) false (by rw [h.ok.len]; exact hi)
    rw [h1]
    unfold Mdl.keptL
    rw [List.getElem?_map, List.getElem?_range hi, Option.map_some]
    congr 1
    have h2 := h.done w he (v := (i : Int)) (by omega)
    unfold on at h2
    rw [Int.toNat_natCast] at h2
    by_cases hk : Kp M (i : Int)
    · rw [h2.2 hk]; exact (decide_eq_true hk).symm
    · rw [decide_eq_false hk]
      cases e : ks.getD i false with
      | false => rfl
      | true => exact absurd (h2.1 e) hk
  · rw [List.getElem?_eq_none (by rw [h.ok.len]; omega), List.getElem?_eq_none]
    unfold Mdl.keptL
    simp; omega

/-- The start. -/
theorem KInv.start {M : Mdl} (w : M.Ok) : KInv M (reaches (List.replicate (M.objs.length + 1) false, []) M.places) := by
  have k0 : KOk M.objs.length (List.replicate (M.objs.length + 1) false, ([] : List Int)) := by
    refine ⟨by simp, by simp [on, List.getD_eq_getElem?_getD], by simp, by simp [falses]⟩
  have hf : ∀ u : Int, on (List.replicate (M.objs.length + 1) false) u = false := by
    intro u
    unfold on
    rw [List.getD_eq_getElem?_getD, List.getElem?_replicate]
    split <;> rfl
  obtain ⟨b1, b2, b3, b4, b5, b6⟩ := k0.reaches (l := M.places) (fun v hv => w.place hv)
  refine ⟨b1, ?_, b4, ?_⟩
  · intro u hu h1
    rcases b5 u hu h1 with h2 | ⟨h2, h3, _⟩
    · exact absurd h2 (by rw [hf]; simp)
    · exact .root h2 h3
  · intro n hn h1 h2
    rcases b5 n hn h1 with h3 | ⟨_, _, h4⟩
    · exact absurd h3 (by rw [hf]; simp)
    · exact absurd h4 h2
end Go.Cs
