/- A part of the proof: CompactNone returns true for every input: without a heap, roots or marks no object is compacted. (ErrArg) Conditions: none. -/
import Derived.Test.YtpaijheplfakiaaGreatCompactNone2
import Derived.Test.YtpaijheplfakiaaGreatProg
import Derived.KernelRfl
set_option linter.unusedVariables false
set_option linter.unusedSimpArgs false
set_option linter.defProp false
/- The compiled functions of the seat, part 0. -/
namespace Go.Cs.Tryz
open Go Go.Cs
set_option maxRecDepth 100000
-- dustcart/dustcartlaw10.CompactNone
def C3_1 : CCode := .seq (.seq (.region [⟨some 49, none, .mov (.tmp 15)⟩, ⟨some 50, none, .bin .lss (.tmp 49) (.const (.int .i64 4))⟩])
    (.cond (.tmp 50)
     .skip
     (.exit 0)))
    (.seq (.block 1 (.seq (.dregion [⟨⟨some 54, none, .mov (.tmp 12)⟩, 0, 0, 0⟩, ⟨⟨some 55, none, .mov (.tmp 15)⟩, 1, 0, 0⟩, ⟨⟨some 56, none, .index 1 (.tmp 54) (.tmp 55)⟩, 2, 0, 0⟩, ⟨⟨some 57, none, .load false 1 (.tmp 56)⟩, 3, 1, 0⟩, ⟨⟨some 58, none, .mov (.tmp 13)⟩, 4, 0, 0⟩, ⟨⟨some 59, none, .mov (.tmp 15)⟩, 5, 0, 0⟩, ⟨⟨some 60, none, .index 1 (.tmp 58) (.tmp 59)⟩, 6, 0, 0⟩, ⟨⟨some 61, none, .load false 1 (.tmp 60)⟩, 7, 1, 0⟩, ⟨⟨some 62, none, .call 10 [(.tmp 57), (.tmp 61)]⟩, 8, 3, 0⟩, ⟨⟨some 53, none, .mov (.tmp 62)⟩, 9, 0, 1⟩, ⟨⟨some 63, none, .extract (.tmp 53) 0⟩, 10, 0, 1⟩, ⟨⟨some 16, none, .new [.int .i64 0, .int .i64 0, .int .i64 0, .int .i64 0, .int .i64 0, .int .i64 0, .int .i64 0, .int .i64 0]⟩, 13, 0, 0⟩, ⟨⟨none, none, .store 8 (.tmp 16) (.tmp 63)⟩, 14, 3, 1⟩, ⟨⟨some 64, none, .extract (.tmp 53) 1⟩, 11, 0, 1⟩, ⟨⟨some 65, none, .extract (.tmp 53) 2⟩, 12, 0, 1⟩, ⟨⟨some 17, none, .mov (.tmp 64)⟩, 15, 0, 2⟩, ⟨⟨some 18, none, .mov (.tmp 65)⟩, 16, 0, 2⟩])
     (.seq (.dregion [⟨⟨some 67, none, .mov (.tmp 12)⟩, 0, 0, 0⟩, ⟨⟨some 68, none, .mov (.tmp 15)⟩, 1, 0, 0⟩, ⟨⟨some 69, none, .index 1 (.tmp 67) (.tmp 68)⟩, 2, 0, 0⟩, ⟨⟨some 70, none, .load false 1 (.tmp 69)⟩, 3, 1, 0⟩, ⟨⟨some 71, none, .mov (.tmp 13)⟩, 4, 0, 0⟩, ⟨⟨some 72, none, .mov (.tmp 15)⟩, 5, 0, 0⟩, ⟨⟨some 73, none, .index 1 (.tmp 71) (.tmp 72)⟩, 6, 0, 0⟩, ⟨⟨some 74, none, .load false 1 (.tmp 73)⟩, 7, 1, 0⟩, ⟨⟨some 75, none, .mov (.tmp 0)⟩, 8, 0, 0⟩, ⟨⟨some 76, none, .call 11 [(.tmp 70), (.tmp 74), (.tmp 75)]⟩, 9, 3, 0⟩, ⟨⟨some 66, none, .mov (.tmp 76)⟩, 10, 0, 1⟩, ⟨⟨some 77, none, .extract (.tmp 66) 0⟩, 11, 0, 1⟩, ⟨⟨some 19, none, .new [.int .i64 0, .int .i64 0, .int .i64 0, .int .i64 0, .int .i64 0, .int .i64 0, .int .i64 0, .int .i64 0]⟩, 14, 0, 0⟩, ⟨⟨none, none, .store 8 (.tmp 19) (.tmp 77)⟩, 15, 3, 1⟩, ⟨⟨some 78, none, .extract (.tmp 66) 1⟩, 12, 0, 1⟩, ⟨⟨some 79, none, .extract (.tmp 66) 2⟩, 13, 0, 1⟩, ⟨⟨some 20, none, .mov (.tmp 78)⟩, 16, 0, 2⟩, ⟨⟨some 21, none, .mov (.tmp 79)⟩, 17, 0, 2⟩])
     (.seq (.dregion [⟨⟨some 81, none, .mov (.tmp 12)⟩, 0, 0, 0⟩, ⟨⟨some 82, none, .mov (.tmp 15)⟩, 1, 0, 0⟩, ⟨⟨some 83, none, .index 1 (.tmp 81) (.tmp 82)⟩, 2, 0, 0⟩, ⟨⟨some 84, none, .load false 1 (.tmp 83)⟩, 3, 1, 0⟩, ⟨⟨some 85, none, .mov (.tmp 14)⟩, 4, 0, 0⟩, ⟨⟨some 86, none, .mov (.tmp 15)⟩, 5, 0, 0⟩, ⟨⟨some 87, none, .index 1 (.tmp 85) (.tmp 86)⟩, 6, 0, 0⟩, ⟨⟨some 88, none, .load false 1 (.tmp 87)⟩, 7, 1, 0⟩, ⟨⟨some 89, none, .call 12 [(.tmp 84), (.tmp 88)]⟩, 8, 3, 0⟩, ⟨⟨some 80, none, .mov (.tmp 89)⟩, 9, 0, 1⟩, ⟨⟨some 90, none, .extract (.tmp 80) 0⟩, 10, 0, 1⟩, ⟨⟨some 91, none, .extract (.tmp 80) 1⟩, 11, 0, 1⟩, ⟨⟨some 22, none, .mov (.tmp 90)⟩, 12, 0, 1⟩, ⟨⟨some 23, none, .mov (.tmp 91)⟩, 13, 0, 1⟩])
     (.seq (.region [⟨some 92, none, .load true 8 (.tmp 16)⟩, ⟨some 93, none, .build [.int .i64 0, .int .i64 0, .int .i64 0, .int .i64 0, .int .i64 0, .int .i64 0, .int .i64 0, .int .i64 0] []⟩, ⟨some 94, none, .eqs true 8 (.tmp 92) (.tmp 93)⟩, ⟨some 95, none, .mov (.tmp 94)⟩, ⟨some 96, some (95, false), .mov (.tmp 17)⟩, ⟨some 97, some (95, false), .len (.tmp 96)⟩, ⟨some 98, some (95, false), .bin .neq (.tmp 97) (.const (.int .i64 0))⟩, ⟨some 99, none, .pick (.tmp 95) (.const (.bool true)) (.tmp 98)⟩, ⟨some 100, none, .mov (.tmp 99)⟩, ⟨some 101, some (100, false), .mov (.tmp 18)⟩, ⟨some 102, some (100, false), .bin .neq (.tmp 101) (.const (.int .i64 1))⟩, ⟨some 103, none, .pick (.tmp 100) (.const (.bool true)) (.tmp 102)⟩, ⟨some 104, none, .mov (.tmp 103)⟩, ⟨some 105, some (104, false), .load true 8 (.tmp 19)⟩, ⟨some 106, some (104, false), .build [.int .i64 0, .int .i64 0, .int .i64 0, .int .i64 0, .int .i64 0, .int .i64 0, .int .i64 0, .int .i64 0] []⟩, ⟨some 107, some (104, false), .eqs true 8 (.tmp 105) (.tmp 106)⟩, ⟨some 108, none, .pick (.tmp 104) (.const (.bool true)) (.tmp 107)⟩, ⟨some 109, none, .mov (.tmp 108)⟩, ⟨some 110, some (109, false), .mov (.tmp 20)⟩, ⟨some 111, some (109, false), .len (.tmp 110)⟩, ⟨some 112, some (109, false), .bin .neq (.tmp 111) (.const (.int .i64 0))⟩, ⟨some 113, none, .pick (.tmp 109) (.const (.bool true)) (.tmp 112)⟩, ⟨some 114, none, .mov (.tmp 113)⟩, ⟨some 115, some (114, false), .mov (.tmp 21)⟩, ⟨some 116, some (114, false), .bin .neq (.tmp 115) (.const (.int .i64 1))⟩, ⟨some 117, none, .pick (.tmp 114) (.const (.bool true)) (.tmp 116)⟩, ⟨some 118, none, .mov (.tmp 117)⟩, ⟨some 119, some (118, false), .mov (.tmp 22)⟩, ⟨some 120, some (118, false), .len (.tmp 119)⟩, ⟨some 121, some (118, false), .bin .neq (.tmp 120) (.const (.int .i64 0))⟩, ⟨some 122, none, .pick (.tmp 118) (.const (.bool true)) (.tmp 121)⟩, ⟨some 123, none, .mov (.tmp 122)⟩, ⟨some 124, some (123, false), .mov (.tmp 23)⟩, ⟨some 125, some (123, false), .bin .neq (.tmp 124) (.const (.int .i64 1))⟩, ⟨some 126, none, .pick (.tmp 123) (.const (.bool true)) (.tmp 125)⟩])
     (.cond (.tmp 126)
      (.seq (.region [⟨some 2, none, .mov (.const (.bool false))⟩])
      .ret)
      .skip))))))
    (.region [⟨some 51, none, .mov (.tmp 15)⟩, ⟨some 52, none, .bin .add (.tmp 51) (.const (.int .i64 1))⟩, ⟨some 15, none, .mov (.tmp 52)⟩]))
def C3 : CFunc := ⟨152, 0, (.seq (.region [⟨some 2, none, .mov (.const (.bool false))⟩])
  (.seq (.region [⟨some 3, none, .new [.nilSlice, .nilSlice, .nilPtr, .nilPtr, .nilMap, .nilMap, .int .i64 0]⟩])
  (.seq (.region [⟨some 4, none, .new [.int .i64 0, .nilSlice, .nilSlice, .nilSlice]⟩])
  (.seq (.region [⟨some 5, none, .new [.int .i64 0, .int .i64 0, .nilSlice]⟩])
  (.seq (.region [⟨some 29, none, .call 7 [(.const (.int .i64 2))]⟩, ⟨some 28, none, .mov (.tmp 29)⟩, ⟨some 30, none, .extract (.tmp 28) 0⟩, ⟨some 31, none, .extract (.tmp 28) 1⟩, ⟨some 6, none, .mov (.tmp 30)⟩, ⟨some 7, none, .mov (.tmp 31)⟩])
  (.seq (.region [⟨some 33, none, .call 8 [(.const (.int .i64 1))]⟩, ⟨some 32, none, .mov (.tmp 33)⟩, ⟨some 34, none, .extract (.tmp 32) 0⟩, ⟨some 35, none, .extract (.tmp 32) 1⟩, ⟨some 8, none, .mov (.tmp 34)⟩, ⟨some 9, none, .mov (.tmp 35)⟩])
  (.seq (.region [⟨some 37, none, .call 9 [(.const (.int .i64 64)), (.const (.int .i64 1))]⟩, ⟨some 36, none, .mov (.tmp 37)⟩, ⟨some 38, none, .extract (.tmp 36) 0⟩, ⟨some 39, none, .extract (.tmp 36) 1⟩, ⟨some 10, none, .mov (.tmp 38)⟩, ⟨some 11, none, .mov (.tmp 39)⟩])
  (.seq (.region [⟨some 40, none, .mov (.tmp 6)⟩, ⟨some 41, none, .mov (.tmp 6)⟩, ⟨some 42, none, .buildSlice 1 [.nilPtr, .nilPtr, .nilPtr, .nilPtr] 4 [(0, 1, (.const (.nilPtr))), (1, 1, (.tmp 3)), (2, 1, (.tmp 40)), (3, 1, (.tmp 41))]⟩, ⟨some 12, none, .mov (.tmp 42)⟩])
  (.seq (.region [⟨some 43, none, .mov (.tmp 8)⟩, ⟨some 44, none, .mov (.tmp 8)⟩, ⟨some 45, none, .buildSlice 1 [.nilPtr, .nilPtr, .nilPtr, .nilPtr] 4 [(0, 1, (.tmp 43)), (1, 1, (.tmp 44)), (2, 1, (.const (.nilPtr))), (3, 1, (.tmp 4))]⟩, ⟨some 13, none, .mov (.tmp 45)⟩])
  (.seq (.region [⟨some 46, none, .mov (.tmp 10)⟩, ⟨some 47, none, .mov (.tmp 10)⟩, ⟨some 48, none, .buildSlice 1 [.nilPtr, .nilPtr, .nilPtr, .nilPtr] 4 [(0, 1, (.tmp 46)), (1, 1, (.tmp 47)), (2, 1, (.const (.nilPtr))), (3, 1, (.tmp 5))]⟩, ⟨some 14, none, .mov (.tmp 48)⟩])
  (.seq (.seq (.region [⟨some 15, none, .mov (.const (.int .i64 0))⟩])
  (.block 0 (.loop C3_1)))
  (.seq (.region [⟨some 128, none, .call 13 [(.const (.nilPtr))]⟩, ⟨some 127, none, .mov (.tmp 128)⟩, ⟨some 129, none, .extract (.tmp 127) 0⟩, ⟨some 130, none, .extract (.tmp 127) 1⟩, ⟨some 24, none, .mov (.tmp 129)⟩, ⟨some 25, none, .mov (.tmp 130)⟩])
  (.seq (.region [⟨some 132, none, .call 13 [(.tmp 3)]⟩, ⟨some 131, none, .mov (.tmp 132)⟩, ⟨some 133, none, .extract (.tmp 131) 0⟩, ⟨some 134, none, .extract (.tmp 131) 1⟩, ⟨some 26, none, .mov (.tmp 133)⟩, ⟨some 27, none, .mov (.tmp 134)⟩])
  (.seq (.region [⟨some 135, none, .mov (.tmp 24)⟩, ⟨some 136, none, .bin .eql (.tmp 135) (.const (.int .i64 0))⟩, ⟨some 137, none, .mov (.tmp 136)⟩, ⟨some 138, some (137, true), .mov (.tmp 25)⟩, ⟨some 139, some (137, true), .bin .eql (.tmp 138) (.const (.int .i64 1))⟩, ⟨some 140, none, .pick (.tmp 137) (.tmp 139) (.const (.bool false))⟩, ⟨some 141, none, .mov (.tmp 140)⟩, ⟨some 142, some (141, true), .mov (.tmp 26)⟩, ⟨some 143, some (141, true), .bin .eql (.tmp 142) (.const (.int .i64 0))⟩, ⟨some 144, none, .pick (.tmp 141) (.tmp 143) (.const (.bool false))⟩, ⟨some 145, none, .mov (.tmp 144)⟩, ⟨some 146, some (145, true), .mov (.tmp 27)⟩, ⟨some 147, some (145, true), .bin .eql (.tmp 146) (.const (.int .i64 1))⟩, ⟨some 148, none, .pick (.tmp 145) (.tmp 147) (.const (.bool false))⟩, ⟨some 149, none, .mov (.tmp 148)⟩, ⟨some 150, some (149, true), .call 14 []⟩, ⟨some 151, none, .pick (.tmp 149) (.tmp 150) (.const (.bool false))⟩, ⟨some 2, none, .mov (.tmp 151)⟩])
  .ret)))))))))))))),
  [.tmp 2]⟩
theorem c3 : cprog Go.Proofs.Tryz.prog 3 = some C3 := by kernel_rfl
-- dustcart/heap.New
def C7 : CFunc := ⟨47, 0, (.seq (.region [⟨some 2, none, .mov (.const (.nilPtr))⟩, ⟨some 3, none, .mov (.const (.int .i64 0))⟩])
  (.seq (.seq (.region [⟨some 5, none, .mov (.tmp 0)⟩, ⟨some 6, none, .bin .lss (.tmp 5) (.const (.int .i64 2))⟩, ⟨some 7, none, .mov (.tmp 6)⟩, ⟨some 8, some (7, false), .mov (.tmp 0)⟩, ⟨some 9, some (7, false), .bin .gtr (.tmp 8) (.const (.int .i64 64))⟩, ⟨some 10, none, .pick (.tmp 7) (.const (.bool true)) (.tmp 9)⟩])
  (.cond (.tmp 10)
   (.seq (.region [⟨some 2, none, .mov (.const (.nilPtr))⟩, ⟨some 3, none, .mov (.const (.int .i64 1))⟩])
   .ret)
   .skip))
  (.seq (.dregion [⟨⟨some 11, none, .mov (.tmp 0)⟩, 0, 0, 0⟩, ⟨⟨some 12, none, .makeSlice 2 [.int .i64 0, .int .i64 0] (.tmp 11) (.tmp 11)⟩, 1, 0, 0⟩, ⟨⟨some 13, none, .mov (.tmp 0)⟩, 2, 0, 0⟩, ⟨⟨some 14, none, .bin .mul (.tmp 13) (.const (.int .i64 64))⟩, 3, 0, 0⟩, ⟨⟨some 15, none, .makeSlice 1 [.int .i64 0] (.tmp 14) (.tmp 14)⟩, 4, 0, 0⟩, ⟨⟨some 16, none, .mapNew⟩, 5, 0, 0⟩, ⟨⟨some 17, none, .mapNew⟩, 6, 0, 0⟩, ⟨⟨some 18, none, .build [.nilSlice, .nilSlice, .nilPtr, .nilPtr, .nilMap, .nilMap, .int .i64 0] [(0, 1, (.tmp 12)), (1, 1, (.tmp 15)), (4, 1, (.tmp 16)), (5, 1, (.tmp 17))]⟩, 7, 0, 0⟩, ⟨⟨some 19, none, .box (.tmp 18)⟩, 8, 0, 0⟩, ⟨⟨some 4, none, .mov (.tmp 19)⟩, 9, 0, 0⟩])
  (.seq (.region [⟨some 21, none, .mov (.tmp 4)⟩, ⟨some 22, none, .mov (.tmp 4)⟩, ⟨some 23, none, .nilCheck (.tmp 22)⟩, ⟨some 24, none, .field 1 (.tmp 23)⟩, ⟨some 25, none, .load false 1 (.tmp 24)⟩, ⟨some 26, none, .len (.tmp 25)⟩, ⟨some 27, none, .bin .quo (.tmp 26) (.const (.int .i64 2))⟩, ⟨some 28, none, .call 9 [(.tmp 27), (.const (.int .i64 1))]⟩, ⟨some 20, none, .mov (.tmp 28)⟩, ⟨some 29, none, .extract (.tmp 20) 0⟩, ⟨some 30, none, .extract (.tmp 20) 1⟩, ⟨some 31, none, .nilCheck (.tmp 21)⟩, ⟨some 32, none, .field 2 (.tmp 31)⟩, ⟨none, none, .store 1 (.tmp 32) (.tmp 29)⟩])
  (.seq (.region [⟨some 34, none, .mov (.tmp 4)⟩, ⟨some 35, none, .mov (.tmp 4)⟩, ⟨some 36, none, .nilCheck (.tmp 35)⟩, ⟨some 37, none, .field 1 (.tmp 36)⟩, ⟨some 38, none, .load false 1 (.tmp 37)⟩, ⟨some 39, none, .len (.tmp 38)⟩, ⟨some 40, none, .bin .quo (.tmp 39) (.const (.int .i64 2))⟩, ⟨some 41, none, .call 9 [(.tmp 40), (.const (.int .i64 1))]⟩, ⟨some 33, none, .mov (.tmp 41)⟩, ⟨some 42, none, .extract (.tmp 33) 0⟩, ⟨some 43, none, .extract (.tmp 33) 1⟩, ⟨some 44, none, .nilCheck (.tmp 34)⟩, ⟨some 45, none, .field 3 (.tmp 44)⟩, ⟨none, none, .store 1 (.tmp 45) (.tmp 42)⟩])
  (.seq (.region [⟨some 46, none, .mov (.tmp 4)⟩, ⟨some 2, none, .mov (.tmp 46)⟩, ⟨some 3, none, .mov (.const (.int .i64 0))⟩])
  .ret)))))),
  [.tmp 2, .tmp 3]⟩
theorem c7 : cprog Go.Proofs.Tryz.prog 7 = some C7 := by kernel_rfl
-- dustcart/roots.New
def C8 : CFunc := ⟨17, 0, (.seq (.region [⟨some 2, none, .mov (.const (.nilPtr))⟩, ⟨some 3, none, .mov (.const (.int .i64 0))⟩])
  (.seq (.seq (.region [⟨some 4, none, .mov (.tmp 0)⟩, ⟨some 5, none, .bin .lss (.tmp 4) (.const (.int .i64 1))⟩, ⟨some 6, none, .mov (.tmp 5)⟩, ⟨some 7, some (6, false), .mov (.tmp 0)⟩, ⟨some 8, some (6, false), .bin .gtr (.tmp 7) (.const (.int .i64 4))⟩, ⟨some 9, none, .pick (.tmp 6) (.const (.bool true)) (.tmp 8)⟩])
  (.cond (.tmp 9)
   (.seq (.region [⟨some 2, none, .mov (.const (.nilPtr))⟩, ⟨some 3, none, .mov (.const (.int .i64 1))⟩])
   .ret)
   .skip))
  (.seq (.dregion [⟨⟨some 10, none, .mov (.tmp 0)⟩, 0, 0, 0⟩, ⟨⟨some 11, none, .mov (.tmp 0)⟩, 1, 0, 0⟩, ⟨⟨some 12, none, .bin .mul (.tmp 11) (.const (.int .i64 16))⟩, 2, 0, 0⟩, ⟨⟨some 13, none, .makeSlice 1 [.int .i64 0] (.tmp 12) (.tmp 12)⟩, 3, 0, 0⟩, ⟨⟨some 14, none, .makeSlice 1 [.int .i64 0] (.const (.int .i64 16)) (.const (.int .i64 16))⟩, 4, 0, 0⟩, ⟨⟨some 15, none, .build [.int .i64 0, .nilSlice, .nilSlice, .nilSlice] [(0, 1, (.tmp 10)), (1, 1, (.tmp 13)), (2, 1, (.tmp 14)), (3, 1, (.const (.nilSlice)))]⟩, 5, 0, 0⟩, ⟨⟨some 16, none, .box (.tmp 15)⟩, 6, 0, 0⟩, ⟨⟨some 2, none, .mov (.tmp 16)⟩, 7, 0, 0⟩, ⟨⟨some 3, none, .mov (.const (.int .i64 0))⟩, 8, 0, 0⟩])
  .ret))),
  [.tmp 2, .tmp 3]⟩
theorem c8 : cprog Go.Proofs.Tryz.prog 8 = some C8 := by kernel_rfl
-- dustcart/side.New
def C9 : CFunc := ⟨29, 0, (.seq (.region [⟨some 4, none, .mov (.const (.nilPtr))⟩, ⟨some 5, none, .mov (.const (.int .i64 0))⟩])
  (.seq (.seq (.region [⟨some 6, none, .mov (.tmp 0)⟩, ⟨some 7, none, .bin .lss (.tmp 6) (.const (.int .i64 1))⟩, ⟨some 8, none, .mov (.tmp 7)⟩, ⟨some 9, some (8, false), .mov (.tmp 0)⟩, ⟨some 10, some (8, false), .bin .gtr (.tmp 9) (.const (.int .i64 4096))⟩, ⟨some 11, none, .pick (.tmp 8) (.const (.bool true)) (.tmp 10)⟩, ⟨some 12, none, .mov (.tmp 11)⟩, ⟨some 13, some (12, false), .buildSlice 1 [.int .i64 0, .int .i64 0, .int .i64 0, .int .i64 0] 4 [(0, 1, (.const (.int .i64 1))), (1, 1, (.const (.int .i64 2))), (2, 1, (.const (.int .i64 4))), (3, 1, (.const (.int .i64 8)))]⟩, ⟨some 14, some (12, false), .mov (.tmp 1)⟩, ⟨some 15, some (12, false), .call 28 [(.tmp 13), (.tmp 14)]⟩, ⟨some 16, some (12, false), .not (.tmp 15)⟩, ⟨some 17, none, .pick (.tmp 12) (.const (.bool true)) (.tmp 16)⟩])
  (.cond (.tmp 17)
   (.seq (.region [⟨some 4, none, .mov (.const (.nilPtr))⟩, ⟨some 5, none, .mov (.const (.int .i64 1))⟩])
   .ret)
   .skip))
  (.seq (.region [⟨some 18, none, .mov (.tmp 0)⟩, ⟨some 19, none, .mov (.tmp 1)⟩, ⟨some 20, none, .mov (.tmp 0)⟩, ⟨some 21, none, .mov (.tmp 1)⟩, ⟨some 22, none, .bin .mul (.tmp 20) (.tmp 21)⟩, ⟨some 23, none, .bin .add (.tmp 22) (.const (.int .i64 64))⟩, ⟨some 24, none, .bin .sub (.tmp 23) (.const (.int .i64 1))⟩, ⟨some 25, none, .bin .quo (.tmp 24) (.const (.int .i64 64))⟩, ⟨some 26, none, .makeSlice 1 [.int .u64 0] (.tmp 25) (.tmp 25)⟩, ⟨some 27, none, .build [.int .i64 0, .int .i64 0, .nilSlice] [(0, 1, (.tmp 18)), (1, 1, (.tmp 19)), (2, 1, (.tmp 26))]⟩, ⟨some 28, none, .box (.tmp 27)⟩, ⟨some 4, none, .mov (.tmp 28)⟩, ⟨some 5, none, .mov (.const (.int .i64 0))⟩])
  .ret))),
  [.tmp 4, .tmp 5]⟩
theorem c9 : cprog Go.Proofs.Tryz.prog 9 = some C9 := by kernel_rfl
-- dustcart/compact.Collect
def C10 : CFunc := ⟨13, 0, (.seq (.region [⟨some 4, none, .new [.int .i64 0, .int .i64 0, .int .i64 0, .int .i64 0, .int .i64 0, .int .i64 0, .int .i64 0, .int .i64 0]⟩, ⟨some 5, none, .mov (.const (.nilSlice))⟩, ⟨some 6, none, .mov (.const (.int .i64 0))⟩])
  (.seq (.region [⟨some 7, none, .mov (.tmp 0)⟩, ⟨some 8, none, .mov (.tmp 1)⟩, ⟨some 9, none, .call 29 [(.tmp 7), (.tmp 8), (.const (.int .i64 0)), (.const (.int .i64 7))]⟩, ⟨some 10, none, .extract (.tmp 9) 0⟩, ⟨some 11, none, .extract (.tmp 9) 1⟩, ⟨some 12, none, .extract (.tmp 9) 2⟩, ⟨none, none, .store 8 (.tmp 4) (.tmp 10)⟩, ⟨some 5, none, .mov (.tmp 11)⟩, ⟨some 6, none, .mov (.tmp 12)⟩])
  .ret)),
  [.cell 4 true 8, .tmp 5, .tmp 6]⟩
theorem c10 : cprog Go.Proofs.Tryz.prog 10 = some C10 := by kernel_rfl
-- dustcart/compact.Space
def C11 : CFunc := ⟨24, 0, (.seq (.region [⟨some 6, none, .new [.int .i64 0, .int .i64 0, .int .i64 0, .int .i64 0, .int .i64 0, .int .i64 0, .int .i64 0, .int .i64 0]⟩, ⟨some 7, none, .mov (.const (.nilSlice))⟩, ⟨some 8, none, .mov (.const (.int .i64 0))⟩])
  (.seq (.seq (.region [⟨some 9, none, .mov (.tmp 2)⟩, ⟨some 10, none, .bin .lss (.tmp 9) (.const (.int .i64 0))⟩, ⟨some 11, none, .mov (.tmp 10)⟩, ⟨some 12, some (11, false), .mov (.tmp 2)⟩, ⟨some 13, some (11, false), .bin .geq (.tmp 12) (.const (.int .i64 8))⟩, ⟨some 14, none, .pick (.tmp 11) (.const (.bool true)) (.tmp 13)⟩])
  (.cond (.tmp 14)
   (.seq (.region [⟨some 15, none, .build [.int .i64 0, .int .i64 0, .int .i64 0, .int .i64 0, .int .i64 0, .int .i64 0, .int .i64 0, .int .i64 0] []⟩, ⟨none, none, .store 8 (.tmp 6) (.tmp 15)⟩, ⟨some 7, none, .mov (.const (.nilSlice))⟩, ⟨some 8, none, .mov (.const (.int .i64 1))⟩])
   .ret)
   .skip))
  (.seq (.region [⟨some 16, none, .mov (.tmp 0)⟩, ⟨some 17, none, .mov (.tmp 1)⟩, ⟨some 18, none, .mov (.tmp 2)⟩, ⟨some 19, none, .mov (.tmp 2)⟩, ⟨some 20, none, .call 29 [(.tmp 16), (.tmp 17), (.tmp 18), (.tmp 19)]⟩, ⟨some 21, none, .extract (.tmp 20) 0⟩, ⟨some 22, none, .extract (.tmp 20) 1⟩, ⟨some 23, none, .extract (.tmp 20) 2⟩, ⟨none, none, .store 8 (.tmp 6) (.tmp 21)⟩, ⟨some 7, none, .mov (.tmp 22)⟩, ⟨some 8, none, .mov (.tmp 23)⟩])
  .ret))),
  [.cell 6 true 8, .tmp 7, .tmp 8]⟩
theorem c11 : cprog Go.Proofs.Tryz.prog 11 = some C11 := by kernel_rfl
-- dustcart/compact.Plan
def C12 : CFunc := ⟨26, 0, (.seq (.region [⟨some 4, none, .mov (.const (.nilSlice))⟩, ⟨some 5, none, .mov (.const (.int .i64 0))⟩])
  (.seq (.seq (.region [⟨some 6, none, .mov (.tmp 0)⟩, ⟨some 7, none, .call 30 [(.tmp 6)]⟩, ⟨some 8, none, .bin .eql (.tmp 7) (.const (.int .i64 0))⟩, ⟨some 9, none, .mov (.tmp 8)⟩, ⟨some 10, some (9, false), .mov (.tmp 1)⟩, ⟨some 11, some (9, false), .call 31 [(.tmp 10)]⟩, ⟨some 12, some (9, false), .bin .neq (.tmp 11) (.const (.int .i64 1))⟩, ⟨some 13, none, .pick (.tmp 9) (.const (.bool true)) (.tmp 12)⟩, ⟨some 14, none, .mov (.tmp 13)⟩, ⟨some 15, some (14, false), .mov (.tmp 1)⟩, ⟨some 16, some (14, false), .call 32 [(.tmp 15)]⟩, ⟨some 17, some (14, false), .mov (.tmp 0)⟩, ⟨some 18, some (14, false), .call 30 [(.tmp 17)]⟩, ⟨some 19, some (14, false), .bin .mul (.tmp 18) (.const (.int .i64 64))⟩, ⟨some 20, some (14, false), .bin .quo (.tmp 19) (.const (.int .i64 2))⟩, ⟨some 21, some (14, false), .bin .neq (.tmp 16) (.tmp 20)⟩, ⟨some 22, none, .pick (.tmp 14) (.const (.bool true)) (.tmp 21)⟩])
  (.cond (.tmp 22)
   (.seq (.region [⟨some 4, none, .mov (.const (.nilSlice))⟩, ⟨some 5, none, .mov (.const (.int .i64 1))⟩])
   .ret)
   .skip))
  (.seq (.region [⟨some 23, none, .mov (.tmp 0)⟩, ⟨some 24, none, .mov (.tmp 1)⟩, ⟨some 25, none, .call 33 [(.tmp 23), (.tmp 24), (.const (.int .i64 0)), (.const (.int .i64 7))]⟩, ⟨some 4, none, .mov (.tmp 25)⟩, ⟨some 5, none, .mov (.const (.int .i64 0))⟩])
  .ret))),
  [.tmp 4, .tmp 5]⟩
theorem c12 : cprog Go.Proofs.Tryz.prog 12 = some C12 := by kernel_rfl
-- dustcart/compact.Waste
def C13_1 : CCode := .seq (.region [⟨some 50, none, .bin .lss (.tmp 49) (.tmp 48)⟩])
          (.seq (.cond (.tmp 50)
           .skip
           (.exit 6))
          (.seq (.block 7 (.seq (.region [⟨some 51, none, .index 2 (.tmp 47) (.tmp 49)⟩, ⟨some 52, none, .load true 2 (.tmp 51)⟩, ⟨some 14, none, .new [.int .i64 0, .int .i64 0]⟩, ⟨none, none, .store 2 (.tmp 14) (.tmp 52)⟩])
           (.seq (.region [⟨some 53, none, .field 0 (.tmp 14)⟩, ⟨some 54, none, .load false 1 (.tmp 53)⟩, ⟨some 55, none, .mov (.tmp 6)⟩, ⟨some 56, none, .bin .lss (.tmp 54) (.tmp 55)⟩])
           (.cond (.tmp 56)
            (.region [⟨some 57, none, .mov (.tmp 4)⟩, ⟨some 58, none, .field 1 (.tmp 14)⟩, ⟨some 59, none, .load false 1 (.tmp 58)⟩, ⟨some 60, none, .bin .add (.tmp 57) (.tmp 59)⟩, ⟨some 4, none, .mov (.tmp 60)⟩])
            .skip))))
          (.region [⟨some 61, none, .bin .add (.tmp 49) (.const (.int .i64 1))⟩, ⟨some 49, none, .mov (.tmp 61)⟩])))
def C13_2 : CCode := .seq (.region [⟨some 42, none, .bin .lss (.tmp 41) (.tmp 40)⟩])
       (.seq (.cond (.tmp 42)
        .skip
        (.exit 4))
       (.seq (.block 5 (.seq (.region [⟨some 43, none, .index 1 (.tmp 39) (.tmp 41)⟩, ⟨some 44, none, .load false 1 (.tmp 43)⟩, ⟨some 12, none, .mov (.tmp 44)⟩])
        (.seq (.region [⟨some 45, none, .mov (.tmp 0)⟩, ⟨some 46, none, .mov (.tmp 12)⟩, ⟨some 47, none, .call 37 [(.tmp 45), (.tmp 46)]⟩, ⟨some 48, none, .len (.tmp 47)⟩, ⟨some 49, none, .mov (.const (.int .i64 0))⟩])
        (.block 6 (.loop C13_1)))))
       (.region [⟨some 62, none, .bin .add (.tmp 41) (.const (.int .i64 1))⟩, ⟨some 41, none, .mov (.tmp 62)⟩])))
def C13_3 : CCode := .seq (.region [⟨some 27, none, .bin .lss (.tmp 26) (.tmp 25)⟩])
       (.seq (.cond (.tmp 27)
        .skip
        (.exit 2))
       (.seq (.block 3 (.seq (.region [⟨some 28, none, .index 1 (.tmp 24) (.tmp 26)⟩, ⟨some 29, none, .load false 1 (.tmp 28)⟩, ⟨some 9, none, .mov (.tmp 29)⟩])
        (.seq (.region [⟨some 30, none, .mov (.tmp 0)⟩, ⟨some 31, none, .mov (.tmp 9)⟩, ⟨some 32, none, .call 35 [(.tmp 30), (.tmp 31)]⟩, ⟨some 10, none, .mov (.tmp 32)⟩])
        (.seq (.region [⟨some 33, none, .mov (.tmp 10)⟩, ⟨some 34, none, .len (.tmp 33)⟩, ⟨some 35, none, .bin .gtr (.tmp 34) (.const (.int .i64 0))⟩])
        (.cond (.tmp 35)
         (.region [⟨some 36, none, .mov (.tmp 10)⟩, ⟨some 37, none, .call 36 [(.tmp 36)]⟩, ⟨some 6, none, .mov (.tmp 37)⟩])
         .skip)))))
       (.region [⟨some 38, none, .bin .add (.tmp 26) (.const (.int .i64 1))⟩, ⟨some 26, none, .mov (.tmp 38)⟩])))
def C13_4 : CCode := .seq (.region [⟨some 19, none, .bin .lss (.tmp 18) (.const (.int .i64 8))⟩])
    (.seq (.cond (.tmp 19)
     .skip
     (.exit 0))
    (.seq (.block 1 (.seq (.region [⟨some 20, none, .mov (.tmp 18)⟩, ⟨some 5, none, .mov (.tmp 20)⟩])
     (.seq (.region [⟨some 6, none, .mov (.const (.int .i64 (-1)))⟩])
     (.seq (.region [⟨some 21, none, .mov (.tmp 0)⟩, ⟨some 22, none, .mov (.tmp 5)⟩, ⟨some 23, none, .call 34 [(.tmp 21), (.tmp 22)]⟩, ⟨some 7, none, .mov (.tmp 23)⟩])
     (.seq (.seq (.region [⟨some 24, none, .mov (.tmp 7)⟩, ⟨some 25, none, .len (.tmp 24)⟩, ⟨some 26, none, .mov (.const (.int .i64 0))⟩])
     (.block 2 (.loop C13_3)))
     (.seq (.region [⟨some 39, none, .mov (.tmp 7)⟩, ⟨some 40, none, .len (.tmp 39)⟩, ⟨some 41, none, .mov (.const (.int .i64 0))⟩])
     (.block 4 (.loop C13_2))))))))
    (.region [⟨some 63, none, .bin .add (.tmp 18) (.const (.int .i64 1))⟩, ⟨some 18, none, .mov (.tmp 63)⟩])))
def C13 : CFunc := ⟨65, 0, (.seq (.region [⟨some 2, none, .mov (.const (.int .i64 0))⟩, ⟨some 3, none, .mov (.const (.int .i64 0))⟩])
  (.seq (.seq (.region [⟨some 15, none, .mov (.tmp 0)⟩, ⟨some 16, none, .call 30 [(.tmp 15)]⟩, ⟨some 17, none, .bin .eql (.tmp 16) (.const (.int .i64 0))⟩])
  (.cond (.tmp 17)
   (.seq (.region [⟨some 2, none, .mov (.const (.int .i64 0))⟩, ⟨some 3, none, .mov (.const (.int .i64 1))⟩])
   .ret)
   .skip))
  (.seq (.region [⟨some 4, none, .mov (.const (.int .i64 0))⟩])
  (.seq (.seq (.region [⟨some 18, none, .mov (.const (.int .i64 0))⟩])
  (.block 0 (.loop C13_4)))
  (.seq (.region [⟨some 64, none, .mov (.tmp 4)⟩, ⟨some 2, none, .mov (.tmp 64)⟩, ⟨some 3, none, .mov (.const (.int .i64 0))⟩])
  .ret))))),
  [.tmp 2, .tmp 3]⟩
theorem c13 : cprog Go.Proofs.Tryz.prog 13 = some C13 := by kernel_rfl
-- dustcart/dustcartlaw10.alive
def C14 : CFunc := ⟨78, 0, (.seq (.region [⟨some 0, none, .mov (.const (.bool false))⟩])
  (.seq (.region [⟨some 11, none, .call 7 [(.const (.int .i64 3))]⟩, ⟨some 10, none, .mov (.tmp 11)⟩, ⟨some 12, none, .extract (.tmp 10) 0⟩, ⟨some 13, none, .extract (.tmp 10) 1⟩, ⟨some 1, none, .mov (.tmp 12)⟩, ⟨some 2, none, .mov (.tmp 13)⟩])
  (.seq (.region [⟨some 15, none, .call 8 [(.const (.int .i64 1))]⟩, ⟨some 14, none, .mov (.tmp 15)⟩, ⟨some 16, none, .extract (.tmp 14) 0⟩, ⟨some 17, none, .extract (.tmp 14) 1⟩, ⟨some 3, none, .mov (.tmp 16)⟩, ⟨some 4, none, .mov (.tmp 17)⟩])
  (.seq (.region [⟨some 18, none, .mov (.tmp 1)⟩, ⟨some 19, none, .call 38 [(.tmp 18), (.const (.int .i64 1)), (.const (.int .i64 0))]⟩])
  (.seq (.region [⟨some 20, none, .mov (.tmp 1)⟩, ⟨some 21, none, .build [.int .i64 0, .int .i64 0, .int .i64 0] [(1, 1, (.const (.int .i64 4)))]⟩, ⟨some 22, none, .call 39 [(.tmp 20), (.const (.int .i64 64)), (.tmp 21)]⟩])
  (.seq (.region [⟨some 23, none, .mov (.tmp 1)⟩, ⟨some 24, none, .build [.int .i64 0, .int .i64 0, .int .i64 0] [(1, 1, (.const (.int .i64 2)))]⟩, ⟨some 25, none, .call 39 [(.tmp 23), (.const (.int .i64 70)), (.tmp 24)]⟩])
  (.seq (.region [⟨some 26, none, .mov (.tmp 1)⟩, ⟨some 27, none, .build [.int .i64 0, .int .i64 0, .int .i64 0] [(1, 1, (.const (.int .i64 4)))]⟩, ⟨some 28, none, .call 39 [(.tmp 26), (.const (.int .i64 80)), (.tmp 27)]⟩])
  (.seq (.region [⟨some 29, none, .mov (.tmp 1)⟩, ⟨some 30, none, .build [.int .i64 0, .int .i64 0, .int .i64 0] [(1, 1, (.const (.int .i64 18)))]⟩, ⟨some 31, none, .call 39 [(.tmp 29), (.const (.int .i64 100)), (.tmp 30)]⟩])
  (.seq (.region [⟨some 32, none, .mov (.tmp 1)⟩, ⟨some 33, none, .call 40 [(.tmp 32), (.const (.int .i64 80))]⟩])
  (.seq (.region [⟨some 34, none, .mov (.tmp 3)⟩, ⟨some 35, none, .build [.int .i64 0, .int .i64 0, .int .i64 0] []⟩, ⟨some 36, none, .call 41 [(.tmp 34), (.tmp 35), (.const (.int .i64 70))]⟩])
  (.seq (.region [⟨some 37, none, .mov (.tmp 3)⟩, ⟨some 38, none, .build [.int .i64 0, .int .i64 0, .int .i64 0] [(2, 1, (.const (.int .i64 1)))]⟩, ⟨some 39, none, .call 41 [(.tmp 37), (.tmp 38), (.const (.int .i64 80))]⟩])
  (.seq (.region [⟨some 40, none, .mov (.tmp 3)⟩, ⟨some 41, none, .build [.int .i64 0, .int .i64 0, .int .i64 0] [(2, 1, (.const (.int .i64 2)))]⟩, ⟨some 42, none, .call 41 [(.tmp 40), (.tmp 41), (.const (.int .i64 100))]⟩])
  (.seq (.region [⟨some 44, none, .mov (.tmp 1)⟩, ⟨some 45, none, .mov (.tmp 3)⟩, ⟨some 46, none, .call 10 [(.tmp 44), (.tmp 45)]⟩, ⟨some 43, none, .mov (.tmp 46)⟩, ⟨some 47, none, .extract (.tmp 43) 0⟩, ⟨some 48, none, .extract (.tmp 43) 1⟩, ⟨some 49, none, .extract (.tmp 43) 2⟩, ⟨some 5, none, .new [.int .i64 0, .int .i64 0, .int .i64 0, .int .i64 0, .int .i64 0, .int .i64 0, .int .i64 0, .int .i64 0]⟩, ⟨none, none, .store 8 (.tmp 5) (.tmp 47)⟩, ⟨some 6, none, .mov (.tmp 48)⟩, ⟨some 7, none, .mov (.tmp 49)⟩])
  (.seq (.region [⟨some 51, none, .mov (.tmp 3)⟩, ⟨some 52, none, .build [.int .i64 0, .int .i64 0, .int .i64 0] []⟩, ⟨some 53, none, .call 42 [(.tmp 51), (.tmp 52)]⟩, ⟨some 50, none, .mov (.tmp 53)⟩, ⟨some 54, none, .extract (.tmp 50) 0⟩, ⟨some 55, none, .extract (.tmp 50) 1⟩, ⟨some 8, none, .mov (.tmp 54)⟩, ⟨some 9, none, .mov (.tmp 55)⟩])
  (.seq (.region [⟨some 56, none, .mov (.tmp 7)⟩, ⟨some 57, none, .bin .eql (.tmp 56) (.const (.int .i64 0))⟩, ⟨some 58, none, .mov (.tmp 57)⟩, ⟨some 59, some (58, true), .field 2 (.tmp 5)⟩, ⟨some 60, some (58, true), .load false 1 (.tmp 59)⟩, ⟨some 61, some (58, true), .bin .eql (.tmp 60) (.const (.int .i64 1))⟩, ⟨some 62, none, .pick (.tmp 58) (.tmp 61) (.const (.bool false))⟩, ⟨some 63, none, .mov (.tmp 62)⟩, ⟨some 64, some (63, true), .mov (.tmp 6)⟩, ⟨some 65, some (63, true), .build [.int .i64 0, .int .i64 0] [(0, 1, (.const (.int .i64 70))), (1, 1, (.const (.int .i64 64)))]⟩, ⟨some 66, some (63, true), .build [.int .i64 0, .int .i64 0] [(0, 1, (.const (.int .i64 100))), (1, 1, (.const (.int .i64 86)))]⟩, ⟨some 67, some (63, true), .buildSlice 2 [.int .i64 0, .int .i64 0, .int .i64 0, .int .i64 0] 2 [(0, 2, (.tmp 65)), (2, 2, (.tmp 66))]⟩, ⟨some 68, some (63, true), .call 43 [(.tmp 64), (.tmp 67)]⟩, ⟨some 69, none, .pick (.tmp 63) (.tmp 68) (.const (.bool false))⟩, ⟨some 70, none, .mov (.tmp 69)⟩, ⟨some 71, some (70, true), .mov (.tmp 8)⟩, ⟨some 72, some (70, true), .bin .eql (.tmp 71) (.const (.int .i64 64))⟩, ⟨some 73, none, .pick (.tmp 70) (.tmp 72) (.const (.bool false))⟩, ⟨some 74, none, .mov (.tmp 73)⟩, ⟨some 75, some (74, true), .mov (.tmp 1)⟩, ⟨some 76, some (74, true), .call 44 [(.tmp 75), (.const (.int .i64 80))]⟩, ⟨some 77, none, .pick (.tmp 74) (.tmp 76) (.const (.bool false))⟩, ⟨some 0, none, .mov (.tmp 77)⟩])
  .ret))))))))))))))),
  [.tmp 0]⟩
theorem c14 : cprog Go.Proofs.Tryz.prog 14 = some C14 := by kernel_rfl
-- slices.Contains[[]int,int]
def C28 : CFunc := ⟨9, 0, (.seq (.region [⟨some 4, none, .mov (.const (.bool false))⟩])
  (.seq (.region [⟨some 5, none, .mov (.tmp 0)⟩, ⟨some 6, none, .mov (.tmp 1)⟩, ⟨some 7, none, .call 80 [(.tmp 5), (.tmp 6)]⟩, ⟨some 8, none, .bin .geq (.tmp 7) (.const (.int .i64 0))⟩, ⟨some 4, none, .mov (.tmp 8)⟩])
  .ret)),
  [.tmp 4]⟩
theorem c28 : cprog Go.Proofs.Tryz.prog 28 = some C28 := by kernel_rfl
-- dustcart/compact.collect
def C29_1 : CCode := .seq (.region [⟨some 55, none, .bin .lss (.tmp 54) (.tmp 53)⟩])
    (.seq (.cond (.tmp 55)
     .skip
     (.exit 0))
    (.seq (.block 1 (.seq (.region [⟨some 56, none, .index 2 (.tmp 52) (.tmp 54)⟩, ⟨some 57, none, .load true 2 (.tmp 56)⟩, ⟨some 17, none, .new [.int .i64 0, .int .i64 0]⟩, ⟨none, none, .store 2 (.tmp 17) (.tmp 57)⟩])
     (.region [⟨some 58, none, .load false 1 (.tmp 4)⟩, ⟨some 59, none, .field 0 (.tmp 17)⟩, ⟨some 60, none, .load false 1 (.tmp 59)⟩, ⟨some 61, none, .field 1 (.tmp 17)⟩, ⟨some 62, none, .load false 1 (.tmp 61)⟩, ⟨some 63, none, .call 82 [(.tmp 58), (.tmp 60), (.tmp 62)]⟩])))
    (.region [⟨some 64, none, .bin .add (.tmp 54) (.const (.int .i64 1))⟩, ⟨some 54, none, .mov (.tmp 64)⟩])))
def C29 : CFunc := ⟨76, 0, (.seq (.region [⟨some 4, none, .box (.tmp 0)⟩, ⟨some 8, none, .new [.int .i64 0, .int .i64 0, .int .i64 0, .int .i64 0, .int .i64 0, .int .i64 0, .int .i64 0, .int .i64 0]⟩, ⟨some 9, none, .mov (.const (.nilSlice))⟩, ⟨some 10, none, .mov (.const (.int .i64 0))⟩])
  (.seq (.region [⟨some 19, none, .load false 1 (.tmp 4)⟩, ⟨some 20, none, .mov (.tmp 1)⟩, ⟨some 21, none, .call 68 [(.tmp 19), (.tmp 20), (.const (.int .i64 0)), (.const (.int .i64 4096))]⟩, ⟨some 18, none, .mov (.tmp 21)⟩, ⟨some 22, none, .extract (.tmp 18) 0⟩, ⟨some 23, none, .extract (.tmp 18) 1⟩, ⟨some 24, none, .extract (.tmp 18) 2⟩, ⟨some 11, none, .new [.nilPtr]⟩, ⟨some 12, none, .new [.int .i64 0, .int .i64 0, .int .i64 0, .int .i64 0, .int .i64 0]⟩, ⟨none, none, .store 1 (.tmp 11) (.tmp 22)⟩, ⟨none, none, .store 5 (.tmp 12) (.tmp 23)⟩, ⟨some 13, none, .mov (.tmp 24)⟩])
  (.seq (.seq (.region [⟨some 25, none, .mov (.tmp 13)⟩, ⟨some 26, none, .bin .neq (.tmp 25) (.const (.int .i64 0))⟩])
  (.cond (.tmp 26)
   (.seq (.region [⟨some 27, none, .build [.int .i64 0, .int .i64 0, .int .i64 0, .int .i64 0, .int .i64 0, .int .i64 0, .int .i64 0, .int .i64 0] []⟩, ⟨some 28, none, .mov (.tmp 13)⟩, ⟨none, none, .store 8 (.tmp 8) (.tmp 27)⟩, ⟨some 9, none, .mov (.const (.nilSlice))⟩, ⟨some 10, none, .mov (.tmp 28)⟩])
   .ret)
   .skip))
  (.seq (.seq (.region [⟨some 29, none, .load false 1 (.tmp 4)⟩, ⟨some 30, none, .mov (.tmp 1)⟩, ⟨some 31, none, .call 69 [(.tmp 29), (.tmp 30)]⟩, ⟨some 32, none, .not (.tmp 31)⟩])
  (.cond (.tmp 32)
   (.seq (.region [⟨some 33, none, .build [.int .i64 0, .int .i64 0, .int .i64 0, .int .i64 0, .int .i64 0, .int .i64 0, .int .i64 0, .int .i64 0] []⟩, ⟨none, none, .store 8 (.tmp 8) (.tmp 33)⟩, ⟨some 9, none, .mov (.const (.nilSlice))⟩, ⟨some 10, none, .mov (.const (.int .i64 5))⟩])
   .ret)
   .skip))
  (.seq (.region [⟨some 34, none, .field 0 (.tmp 12)⟩, ⟨some 35, none, .load false 1 (.tmp 34)⟩, ⟨some 36, none, .build [.int .i64 0, .int .i64 0, .int .i64 0, .int .i64 0, .int .i64 0, .int .i64 0, .int .i64 0, .int .i64 0] [(6, 1, (.tmp 35))]⟩, ⟨some 14, none, .new [.int .i64 0, .int .i64 0, .int .i64 0, .int .i64 0, .int .i64 0, .int .i64 0, .int .i64 0, .int .i64 0]⟩, ⟨none, none, .store 8 (.tmp 14) (.tmp 36)⟩])
  (.seq (.region [⟨some 38, none, .load false 1 (.tmp 4)⟩, ⟨some 39, none, .load false 1 (.tmp 11)⟩, ⟨some 40, none, .call 70 [(.tmp 38), (.tmp 39)]⟩, ⟨some 37, none, .mov (.tmp 40)⟩, ⟨some 41, none, .extract (.tmp 37) 0⟩, ⟨some 42, none, .extract (.tmp 37) 1⟩, ⟨some 43, none, .field 7 (.tmp 14)⟩, ⟨none, none, .store 1 (.tmp 43) (.tmp 41)⟩])
  (.seq (.region [⟨some 44, none, .load false 1 (.tmp 4)⟩, ⟨some 45, none, .load false 1 (.tmp 11)⟩, ⟨some 46, none, .mov (.tmp 2)⟩, ⟨some 47, none, .mov (.tmp 3)⟩, ⟨some 48, none, .call 33 [(.tmp 44), (.tmp 45), (.tmp 46), (.tmp 47)]⟩, ⟨some 15, none, .mov (.tmp 48)⟩])
  (.seq (.region [⟨some 49, none, .load false 1 (.tmp 4)⟩, ⟨some 50, none, .mkfunc 81 [(.tmp 4), (.tmp 11)]⟩, ⟨some 51, none, .call 50 [(.tmp 49), (.tmp 50), (.tmp 14)]⟩])
  (.seq (.seq (.region [⟨some 52, none, .mov (.tmp 15)⟩, ⟨some 53, none, .len (.tmp 52)⟩, ⟨some 54, none, .mov (.const (.int .i64 0))⟩])
  (.block 0 (.loop C29_1)))
  (.seq (.region [⟨some 65, none, .load false 1 (.tmp 4)⟩, ⟨some 66, none, .mov (.tmp 1)⟩, ⟨some 67, none, .mov (.tmp 15)⟩, ⟨some 68, none, .call 53 [(.tmp 65), (.tmp 66), (.tmp 67)]⟩])
  (.seq (.region [⟨some 69, none, .load false 1 (.tmp 4)⟩, ⟨some 70, none, .call 54 [(.tmp 69)]⟩])
  (.seq (.region [⟨some 71, none, .load false 1 (.tmp 4)⟩, ⟨some 72, none, .mov (.tmp 15)⟩, ⟨some 73, none, .call 55 [(.tmp 71), (.tmp 72), (.tmp 14)]⟩])
  (.seq (.region [⟨some 74, none, .load true 8 (.tmp 14)⟩, ⟨some 75, none, .mov (.tmp 15)⟩, ⟨none, none, .store 8 (.tmp 8) (.tmp 74)⟩, ⟨some 9, none, .mov (.tmp 75)⟩, ⟨some 10, none, .mov (.const (.int .i64 0))⟩])
  .ret))))))))))))),
  [.cell 8 true 8, .tmp 9, .tmp 10]⟩
theorem c29 : cprog Go.Proofs.Tryz.prog 29 = some C29 := by kernel_rfl
-- (*dustcart/heap.Heap).Blocks
def C30 : CFunc := ⟨11, 0, (.seq (.region [⟨some 2, none, .mov (.const (.int .i64 0))⟩])
  (.seq (.seq (.region [⟨some 3, none, .mov (.tmp 0)⟩, ⟨some 4, none, .call 83 [(.tmp 3)]⟩, ⟨some 5, none, .not (.tmp 4)⟩])
  (.cond (.tmp 5)
   (.seq (.region [⟨some 2, none, .mov (.const (.int .i64 0))⟩])
   .ret)
   .skip))
  (.seq (.region [⟨some 6, none, .mov (.tmp 0)⟩, ⟨some 7, none, .nilCheck (.tmp 6)⟩, ⟨some 8, none, .field 0 (.tmp 7)⟩, ⟨some 9, none, .load false 1 (.tmp 8)⟩, ⟨some 10, none, .len (.tmp 9)⟩, ⟨some 2, none, .mov (.tmp 10)⟩])
  .ret))),
  [.tmp 2]⟩
theorem c30 : cprog Go.Proofs.Tryz.prog 30 = some C30 := by kernel_rfl
-- (*dustcart/side.Table).Width
def C31 : CFunc := ⟨10, 0, (.seq (.region [⟨some 2, none, .mov (.const (.int .i64 0))⟩])
  (.seq (.seq (.region [⟨some 3, none, .mov (.tmp 0)⟩, ⟨some 4, none, .call 84 [(.tmp 3)]⟩, ⟨some 5, none, .not (.tmp 4)⟩])
  (.cond (.tmp 5)
   (.seq (.region [⟨some 2, none, .mov (.const (.int .i64 0))⟩])
   .ret)
   .skip))
  (.seq (.region [⟨some 6, none, .mov (.tmp 0)⟩, ⟨some 7, none, .nilCheck (.tmp 6)⟩, ⟨some 8, none, .field 1 (.tmp 7)⟩, ⟨some 9, none, .load false 1 (.tmp 8)⟩, ⟨some 2, none, .mov (.tmp 9)⟩])
  .ret))),
  [.tmp 2]⟩
theorem c31 : cprog Go.Proofs.Tryz.prog 31 = some C31 := by kernel_rfl
-- (*dustcart/side.Table).Entries
def C32 : CFunc := ⟨10, 0, (.seq (.region [⟨some 2, none, .mov (.const (.int .i64 0))⟩])
  (.seq (.seq (.region [⟨some 3, none, .mov (.tmp 0)⟩, ⟨some 4, none, .call 84 [(.tmp 3)]⟩, ⟨some 5, none, .not (.tmp 4)⟩])
  (.cond (.tmp 5)
   (.seq (.region [⟨some 2, none, .mov (.const (.int .i64 0))⟩])
   .ret)
   .skip))
  (.seq (.region [⟨some 6, none, .mov (.tmp 0)⟩, ⟨some 7, none, .nilCheck (.tmp 6)⟩, ⟨some 8, none, .field 0 (.tmp 7)⟩, ⟨some 9, none, .load false 1 (.tmp 8)⟩, ⟨some 2, none, .mov (.tmp 9)⟩])
  .ret))),
  [.tmp 2]⟩
theorem c32 : cprog Go.Proofs.Tryz.prog 32 = some C32 := by kernel_rfl
-- dustcart/compact.plans
def C33_1 : CCode := .seq (.seq (.region [⟨some 12, none, .mov (.tmp 10)⟩, ⟨some 13, none, .mov (.tmp 3)⟩, ⟨some 14, none, .bin .leq (.tmp 12) (.tmp 13)⟩])
    (.cond (.tmp 14)
     .skip
     (.exit 0)))
    (.seq (.block 1 (.region [⟨some 17, none, .mov (.tmp 9)⟩, ⟨some 18, none, .mov (.tmp 0)⟩, ⟨some 19, none, .mov (.tmp 1)⟩, ⟨some 20, none, .mov (.tmp 10)⟩, ⟨some 21, none, .call 85 [(.tmp 18), (.tmp 19), (.tmp 20)]⟩, ⟨some 22, none, .append 2 (.tmp 17) (.tmp 21)⟩, ⟨some 9, none, .mov (.tmp 22)⟩]))
    (.region [⟨some 15, none, .mov (.tmp 10)⟩, ⟨some 16, none, .bin .add (.tmp 15) (.const (.int .i64 1))⟩, ⟨some 10, none, .mov (.tmp 16)⟩]))
def C33 : CFunc := ⟨24, 0, (.seq (.region [⟨some 8, none, .mov (.const (.nilSlice))⟩])
  (.seq (.region [⟨some 9, none, .mov (.const (.nilSlice))⟩])
  (.seq (.seq (.region [⟨some 11, none, .mov (.tmp 2)⟩, ⟨some 10, none, .mov (.tmp 11)⟩])
  (.block 0 (.loop C33_1)))
  (.seq (.region [⟨some 23, none, .mov (.tmp 9)⟩, ⟨some 8, none, .mov (.tmp 23)⟩])
  .ret)))),
  [.tmp 8]⟩
theorem c33 : cprog Go.Proofs.Tryz.prog 33 = some C33 := by kernel_rfl
-- dustcart/compact.row
def C34_1 : CCode := .seq (.region [⟨some 10, none, .bin .lss (.tmp 9) (.tmp 8)⟩])
    (.seq (.cond (.tmp 10)
     .skip
     (.exit 0))
    (.seq (.block 1 (.seq (.region [⟨some 11, none, .mov (.tmp 9)⟩, ⟨some 6, none, .mov (.tmp 11)⟩])
     (.seq (.region [⟨some 12, none, .mov (.tmp 0)⟩, ⟨some 13, none, .mov (.tmp 6)⟩, ⟨some 14, none, .call 58 [(.tmp 12), (.tmp 13)]⟩, ⟨some 15, none, .bin .eql (.tmp 14) (.const (.int .i64 1))⟩, ⟨some 16, none, .mov (.tmp 15)⟩, ⟨some 17, some (16, true), .mov (.tmp 0)⟩, ⟨some 18, some (16, true), .mov (.tmp 6)⟩, ⟨some 19, some (16, true), .call 86 [(.tmp 17), (.tmp 18)]⟩, ⟨some 20, some (16, true), .mov (.tmp 1)⟩, ⟨some 21, some (16, true), .bin .eql (.tmp 19) (.tmp 20)⟩, ⟨some 22, none, .pick (.tmp 16) (.tmp 21) (.const (.bool false))⟩])
     (.cond (.tmp 22)
      (.region [⟨some 23, none, .mov (.tmp 5)⟩, ⟨some 24, none, .mov (.tmp 6)⟩, ⟨some 25, none, .buildSlice 1 [.int .i64 0] 1 [(0, 1, (.tmp 24))]⟩, ⟨some 26, none, .append 1 (.tmp 23) (.tmp 25)⟩, ⟨some 5, none, .mov (.tmp 26)⟩])
      .skip))))
    (.region [⟨some 27, none, .bin .add (.tmp 9) (.const (.int .i64 1))⟩, ⟨some 9, none, .mov (.tmp 27)⟩])))
def C34 : CFunc := ⟨29, 0, (.seq (.region [⟨some 4, none, .mov (.const (.nilSlice))⟩])
  (.seq (.region [⟨some 5, none, .mov (.const (.nilSlice))⟩])
  (.seq (.seq (.region [⟨some 7, none, .mov (.tmp 0)⟩, ⟨some 8, none, .call 30 [(.tmp 7)]⟩, ⟨some 9, none, .mov (.const (.int .i64 0))⟩])
  (.block 0 (.loop C34_1)))
  (.seq (.region [⟨some 28, none, .mov (.tmp 5)⟩, ⟨some 4, none, .mov (.tmp 28)⟩])
  .ret)))),
  [.tmp 4]⟩
theorem c34 : cprog Go.Proofs.Tryz.prog 34 = some C34 := by kernel_rfl
-- (*dustcart/heap.Heap).Objects
def C35 : CFunc := ⟨28, 0, (.seq (.region [⟨some 4, none, .mov (.const (.nilSlice))⟩])
  (.seq (.seq (.region [⟨some 5, none, .mov (.tmp 0)⟩, ⟨some 6, none, .call 83 [(.tmp 5)]⟩, ⟨some 7, none, .not (.tmp 6)⟩, ⟨some 8, none, .mov (.tmp 7)⟩, ⟨some 9, some (8, false), .mov (.tmp 1)⟩, ⟨some 10, some (8, false), .bin .lss (.tmp 9) (.const (.int .i64 0))⟩, ⟨some 11, none, .pick (.tmp 8) (.const (.bool true)) (.tmp 10)⟩, ⟨some 12, none, .mov (.tmp 11)⟩, ⟨some 13, some (12, false), .mov (.tmp 1)⟩, ⟨some 14, some (12, false), .mov (.tmp 0)⟩, ⟨some 15, some (12, false), .nilCheck (.tmp 14)⟩, ⟨some 16, some (12, false), .field 0 (.tmp 15)⟩, ⟨some 17, some (12, false), .load false 1 (.tmp 16)⟩, ⟨some 18, some (12, false), .len (.tmp 17)⟩, ⟨some 19, some (12, false), .bin .geq (.tmp 13) (.tmp 18)⟩, ⟨some 20, none, .pick (.tmp 12) (.const (.bool true)) (.tmp 19)⟩])
  (.cond (.tmp 20)
   (.seq (.region [⟨some 4, none, .mov (.const (.nilSlice))⟩])
   .ret)
   .skip))
  (.seq (.region [⟨some 21, none, .mov (.tmp 0)⟩, ⟨some 22, none, .mov (.tmp 1)⟩, ⟨some 23, none, .bin .mul (.tmp 22) (.const (.int .i64 64))⟩, ⟨some 24, none, .mov (.tmp 1)⟩, ⟨some 25, none, .bin .add (.tmp 24) (.const (.int .i64 1))⟩, ⟨some 26, none, .bin .mul (.tmp 25) (.const (.int .i64 64))⟩, ⟨some 27, none, .call 87 [(.tmp 21), (.tmp 23), (.tmp 26)]⟩, ⟨some 4, none, .mov (.tmp 27)⟩])
  .ret))),
  [.tmp 4]⟩
theorem c35 : cprog Go.Proofs.Tryz.prog 35 = some C35 := by kernel_rfl
-- (*dustcart/heap.Heap).Claim
def C38 : CFunc := ⟨13, 0, (.seq (.region [⟨some 6, none, .mov (.const (.int .i64 0))⟩])
  (.seq (.region [⟨some 7, none, .mov (.tmp 0)⟩, ⟨some 8, none, .mov (.tmp 1)⟩, ⟨some 9, none, .mov (.tmp 2)⟩, ⟨some 10, none, .build [.int .i64 0, .int .i64 0] [(0, 1, (.const (.int .i64 1))), (1, 1, (.tmp 9))]⟩, ⟨some 11, none, .build [.int .i64 0, .int .i64 0] []⟩, ⟨some 12, none, .call 91 [(.tmp 7), (.tmp 8), (.const (.int .i64 1)), (.tmp 10), (.tmp 11)]⟩, ⟨some 6, none, .mov (.tmp 12)⟩])
  .ret)),
  [.tmp 6]⟩
theorem c38 : cprog Go.Proofs.Tryz.prog 38 = some C38 := by kernel_rfl
-- (*dustcart/heap.Heap).Place
def C39 : CFunc := ⟨71, 0, (.seq (.region [⟨some 5, none, .box (.tmp 2)⟩, ⟨some 6, none, .mov (.const (.int .i64 0))⟩, ⟨some 7, none, .mov (.const (.int .i64 0))⟩])
  (.seq (.block 0 (.seq (.region [⟨some 10, none, .mov (.tmp 0)⟩, ⟨some 11, none, .call 83 [(.tmp 10)]⟩, ⟨some 12, none, .not (.tmp 11)⟩, ⟨some 9, none, .mov (.tmp 12)⟩])
   (.cond (.tmp 9)
    (.seq (.region [⟨some 6, none, .mov (.const (.int .i64 0))⟩, ⟨some 7, none, .mov (.const (.int .i64 5))⟩])
    .ret)
    (.seq (.region [⟨some 14, none, .load true 3 (.tmp 5)⟩, ⟨some 15, none, .call 92 [(.tmp 14)]⟩, ⟨some 16, none, .not (.tmp 15)⟩, ⟨some 13, none, .mov (.tmp 16)⟩])
    (.cond (.tmp 13)
     (.seq (.region [⟨some 6, none, .mov (.const (.int .i64 0))⟩, ⟨some 7, none, .mov (.const (.int .i64 2))⟩])
     .ret)
     .skip)))))
  (.seq (.seq (.region [⟨some 17, none, .mov (.tmp 0)⟩, ⟨some 18, none, .mov (.tmp 1)⟩, ⟨some 19, none, .load true 3 (.tmp 5)⟩, ⟨some 20, none, .call 94 [(.tmp 19)]⟩, ⟨some 21, none, .call 93 [(.tmp 17), (.tmp 18), (.tmp 20), (.const (.int .i64 (-1)))]⟩, ⟨some 8, none, .mov (.tmp 21)⟩])
  (.seq (.region [⟨some 22, none, .mov (.tmp 8)⟩, ⟨some 23, none, .bin .neq (.tmp 22) (.const (.int .i64 0))⟩])
  (.cond (.tmp 23)
   (.seq (.region [⟨some 24, none, .mov (.tmp 8)⟩, ⟨some 6, none, .mov (.const (.int .i64 0))⟩, ⟨some 7, none, .mov (.tmp 24)⟩])
   .ret)
   .skip)))
  (.seq (.region [⟨some 25, none, .mov (.tmp 0)⟩, ⟨some 26, none, .nilCheck (.tmp 25)⟩, ⟨some 27, none, .field 6 (.tmp 26)⟩, ⟨some 28, none, .load false 1 (.tmp 27)⟩, ⟨some 29, none, .bin .add (.tmp 28) (.const (.int .i64 1))⟩, ⟨some 30, none, .nilCheck (.tmp 25)⟩, ⟨some 31, none, .field 6 (.tmp 30)⟩, ⟨none, none, .store 1 (.tmp 31) (.tmp 29)⟩])
  (.seq (.dregion [⟨⟨some 47, none, .load true 3 (.tmp 5)⟩, 15, 1, 0⟩, ⟨⟨some 48, none, .call 95 [(.tmp 47)]⟩, 16, 3, 0⟩, ⟨⟨some 32, none, .mov (.tmp 0)⟩, 0, 0, 0⟩, ⟨⟨some 33, none, .nilCheck (.tmp 32)⟩, 1, 0, 0⟩, ⟨⟨some 34, none, .field 1 (.tmp 33)⟩, 2, 0, 0⟩, ⟨⟨some 35, none, .load false 1 (.tmp 34)⟩, 3, 1, 0⟩, ⟨⟨some 36, none, .mov (.tmp 1)⟩, 4, 0, 0⟩, ⟨⟨some 37, none, .mov (.tmp 0)⟩, 5, 0, 0⟩, ⟨⟨some 38, none, .nilCheck (.tmp 37)⟩, 6, 0, 0⟩, ⟨⟨some 39, none, .field 1 (.tmp 38)⟩, 7, 0, 0⟩, ⟨⟨some 40, none, .load false 1 (.tmp 39)⟩, 8, 1, 0⟩, ⟨⟨some 43, none, .mov (.tmp 0)⟩, 11, 0, 0⟩, ⟨⟨some 44, none, .nilCheck (.tmp 43)⟩, 12, 0, 0⟩, ⟨⟨some 45, none, .field 6 (.tmp 44)⟩, 13, 0, 0⟩, ⟨⟨some 46, none, .load false 1 (.tmp 45)⟩, 14, 1, 0⟩, ⟨⟨some 49, none, .index 1 (.tmp 35) (.tmp 36)⟩, 17, 0, 1⟩, ⟨⟨none, none, .store 1 (.tmp 49) (.tmp 46)⟩, 18, 3, 1⟩, ⟨⟨some 41, none, .mov (.tmp 1)⟩, 9, 0, 0⟩, ⟨⟨some 42, none, .bin .add (.tmp 41) (.const (.int .i64 1))⟩, 10, 0, 0⟩, ⟨⟨some 50, none, .index 1 (.tmp 40) (.tmp 42)⟩, 19, 0, 2⟩, ⟨⟨none, none, .store 1 (.tmp 50) (.tmp 48)⟩, 20, 3, 2⟩])
  (.seq (.region [⟨some 51, none, .mov (.tmp 0)⟩, ⟨some 52, none, .nilCheck (.tmp 51)⟩, ⟨some 53, none, .field 2 (.tmp 52)⟩, ⟨some 54, none, .load false 1 (.tmp 53)⟩, ⟨some 55, none, .mov (.tmp 1)⟩, ⟨some 56, none, .bin .quo (.tmp 55) (.const (.int .i64 2))⟩, ⟨some 57, none, .call 96 [(.tmp 54), (.tmp 56), (.const (.int .i64 1))]⟩])
  (.seq (.dregion [⟨⟨some 58, none, .mov (.tmp 0)⟩, 0, 0, 0⟩, ⟨⟨some 59, none, .nilCheck (.tmp 58)⟩, 1, 0, 0⟩, ⟨⟨some 60, none, .field 4 (.tmp 59)⟩, 2, 0, 0⟩, ⟨⟨some 61, none, .load false 1 (.tmp 60)⟩, 3, 1, 0⟩, ⟨⟨some 62, none, .mov (.tmp 0)⟩, 4, 0, 0⟩, ⟨⟨some 63, none, .nilCheck (.tmp 62)⟩, 5, 0, 0⟩, ⟨⟨some 64, none, .field 6 (.tmp 63)⟩, 6, 0, 0⟩, ⟨⟨some 65, none, .load false 1 (.tmp 64)⟩, 7, 1, 0⟩, ⟨⟨some 66, none, .mov (.tmp 1)⟩, 8, 0, 0⟩, ⟨⟨none, none, .mapSet .i64 (.tmp 61) (.tmp 65) (.tmp 66)⟩, 9, 3, 0⟩])
  (.seq (.region [⟨some 67, none, .mov (.tmp 0)⟩, ⟨some 68, none, .nilCheck (.tmp 67)⟩, ⟨some 69, none, .field 6 (.tmp 68)⟩, ⟨some 70, none, .load false 1 (.tmp 69)⟩, ⟨some 6, none, .mov (.tmp 70)⟩, ⟨some 7, none, .mov (.const (.int .i64 0))⟩])
  .ret)))))))),
  [.tmp 6, .tmp 7]⟩
theorem c39 : cprog Go.Proofs.Tryz.prog 39 = some C39 := by kernel_rfl
-- (*dustcart/heap.Heap).Pin
def C40 : CFunc := ⟨8, 0, (.seq (.region [⟨some 4, none, .mov (.const (.int .i64 0))⟩])
  (.seq (.region [⟨some 5, none, .mov (.tmp 0)⟩, ⟨some 6, none, .mov (.tmp 1)⟩, ⟨some 7, none, .call 97 [(.tmp 5), (.tmp 6), (.const (.int .i64 1))]⟩, ⟨some 4, none, .mov (.tmp 7)⟩])
  .ret)),
  [.tmp 4]⟩
theorem c40 : cprog Go.Proofs.Tryz.prog 40 = some C40 := by kernel_rfl
-- (*dustcart/roots.Roots).Set
def C41 : CFunc := ⟨32, 0, (.seq (.region [⟨some 4, none, .box (.tmp 1)⟩, ⟨some 6, none, .mov (.const (.int .i64 0))⟩])
  (.seq (.region [⟨some 10, none, .mov (.tmp 0)⟩, ⟨some 11, none, .load true 3 (.tmp 4)⟩, ⟨some 12, none, .call 98 [(.tmp 10), (.tmp 11)]⟩, ⟨some 9, none, .mov (.tmp 12)⟩, ⟨some 13, none, .extract (.tmp 9) 0⟩, ⟨some 14, none, .extract (.tmp 9) 1⟩, ⟨some 7, none, .mov (.tmp 13)⟩, ⟨some 8, none, .mov (.tmp 14)⟩])
  (.seq (.seq (.region [⟨some 15, none, .mov (.tmp 8)⟩, ⟨some 16, none, .bin .neq (.tmp 15) (.const (.int .i64 0))⟩])
  (.cond (.tmp 16)
   (.seq (.region [⟨some 17, none, .mov (.tmp 8)⟩, ⟨some 6, none, .mov (.tmp 17)⟩])
   .ret)
   .skip))
  (.seq (.seq (.region [⟨some 18, none, .mov (.tmp 2)⟩, ⟨some 19, none, .bin .lss (.tmp 18) (.const (.int .i64 0))⟩, ⟨some 20, none, .mov (.tmp 19)⟩, ⟨some 21, some (20, false), .mov (.tmp 2)⟩, ⟨some 22, some (20, false), .bin .eql (.tmp 21) (.const (.int .i64 0))⟩, ⟨some 23, some (20, false), .mov (.tmp 22)⟩, ⟨some 24, some (23, true), .field 0 (.tmp 4)⟩, ⟨some 25, some (23, true), .load false 1 (.tmp 24)⟩, ⟨some 26, some (23, true), .bin .eql (.tmp 25) (.const (.int .i64 2))⟩, ⟨some 27, some (20, false), .pick (.tmp 23) (.tmp 26) (.const (.bool false))⟩, ⟨some 28, none, .pick (.tmp 20) (.const (.bool true)) (.tmp 27)⟩])
  (.cond (.tmp 28)
   (.seq (.region [⟨some 6, none, .mov (.const (.int .i64 1))⟩])
   .ret)
   .skip))
  (.seq (.region [⟨some 29, none, .mov (.tmp 7)⟩, ⟨some 30, none, .mov (.tmp 2)⟩, ⟨some 31, none, .nilCheck (.tmp 29)⟩, ⟨none, none, .store 1 (.tmp 31) (.tmp 30)⟩])
  (.seq (.region [⟨some 6, none, .mov (.const (.int .i64 0))⟩])
  .ret)))))),
  [.tmp 6]⟩
theorem c41 : cprog Go.Proofs.Tryz.prog 41 = some C41 := by kernel_rfl
-- (*dustcart/roots.Roots).Get
def C42 : CFunc := ⟨20, 0, (.seq (.region [⟨some 3, none, .box (.tmp 1)⟩, ⟨some 4, none, .mov (.const (.int .i64 0))⟩, ⟨some 5, none, .mov (.const (.int .i64 0))⟩])
  (.seq (.region [⟨some 9, none, .mov (.tmp 0)⟩, ⟨some 10, none, .load true 3 (.tmp 3)⟩, ⟨some 11, none, .call 98 [(.tmp 9), (.tmp 10)]⟩, ⟨some 8, none, .mov (.tmp 11)⟩, ⟨some 12, none, .extract (.tmp 8) 0⟩, ⟨some 13, none, .extract (.tmp 8) 1⟩, ⟨some 6, none, .mov (.tmp 12)⟩, ⟨some 7, none, .mov (.tmp 13)⟩])
  (.seq (.seq (.region [⟨some 14, none, .mov (.tmp 7)⟩, ⟨some 15, none, .bin .neq (.tmp 14) (.const (.int .i64 0))⟩])
  (.cond (.tmp 15)
   (.seq (.region [⟨some 16, none, .mov (.tmp 7)⟩, ⟨some 4, none, .mov (.const (.int .i64 0))⟩, ⟨some 5, none, .mov (.tmp 16)⟩])
   .ret)
   .skip))
  (.seq (.region [⟨some 17, none, .mov (.tmp 6)⟩, ⟨some 18, none, .nilCheck (.tmp 17)⟩, ⟨some 19, none, .load false 1 (.tmp 18)⟩, ⟨some 4, none, .mov (.tmp 19)⟩, ⟨some 5, none, .mov (.const (.int .i64 0))⟩])
  .ret)))),
  [.tmp 4, .tmp 5]⟩
theorem c42 : cprog Go.Proofs.Tryz.prog 42 = some C42 := by kernel_rfl
-- dustcart/dustcartlaw10.moves
def C43_1 : CCode := .seq (.seq (.region [⟨some 11, none, .mov (.tmp 5)⟩, ⟨some 12, none, .mov (.tmp 0)⟩, ⟨some 13, none, .len (.tmp 12)⟩, ⟨some 14, none, .bin .lss (.tmp 11) (.tmp 13)⟩])
    (.cond (.tmp 14)
     .skip
     (.exit 0)))
    (.seq (.block 1 (.seq (.dregion [⟨⟨some 17, none, .mov (.tmp 0)⟩, 0, 0, 0⟩, ⟨⟨some 18, none, .mov (.tmp 5)⟩, 1, 0, 0⟩, ⟨⟨some 19, none, .index 2 (.tmp 17) (.tmp 18)⟩, 2, 0, 0⟩, ⟨⟨some 20, none, .load true 2 (.tmp 19)⟩, 3, 1, 0⟩, ⟨⟨some 21, none, .mov (.tmp 1)⟩, 4, 0, 0⟩, ⟨⟨some 22, none, .mov (.tmp 5)⟩, 5, 0, 0⟩, ⟨⟨some 23, none, .index 2 (.tmp 21) (.tmp 22)⟩, 6, 0, 0⟩, ⟨⟨some 24, none, .load true 2 (.tmp 23)⟩, 7, 1, 0⟩, ⟨⟨some 25, none, .eqs true 2 (.tmp 20) (.tmp 24)⟩, 8, 0, 0⟩])
     (.cond (.tmp 25)
      (.seq (.region [⟨some 4, none, .mov (.const (.bool false))⟩])
      .ret)
      .skip)))
    (.region [⟨some 15, none, .mov (.tmp 5)⟩, ⟨some 16, none, .bin .add (.tmp 15) (.const (.int .i64 1))⟩, ⟨some 5, none, .mov (.tmp 16)⟩]))
def C43 : CFunc := ⟨26, 0, (.seq (.region [⟨some 4, none, .mov (.const (.bool false))⟩])
  (.seq (.seq (.region [⟨some 6, none, .mov (.tmp 0)⟩, ⟨some 7, none, .len (.tmp 6)⟩, ⟨some 8, none, .mov (.tmp 1)⟩, ⟨some 9, none, .len (.tmp 8)⟩, ⟨some 10, none, .bin .neq (.tmp 7) (.tmp 9)⟩])
  (.cond (.tmp 10)
   (.seq (.region [⟨some 4, none, .mov (.const (.bool false))⟩])
   .ret)
   .skip))
  (.seq (.seq (.region [⟨some 5, none, .mov (.const (.int .i64 0))⟩])
  (.block 0 (.loop C43_1)))
  (.seq (.region [⟨some 4, none, .mov (.const (.bool true))⟩])
  .ret)))),
  [.tmp 4]⟩
theorem c43 : cprog Go.Proofs.Tryz.prog 43 = some C43 := by kernel_rfl
-- (*dustcart/heap.Heap).Has
def C44 : CFunc := ⟨26, 0, (.seq (.region [⟨some 4, none, .mov (.const (.bool false))⟩])
  (.seq (.region [⟨some 5, none, .mov (.tmp 0)⟩, ⟨some 6, none, .call 83 [(.tmp 5)]⟩, ⟨some 7, none, .mov (.tmp 6)⟩, ⟨some 8, some (7, true), .mov (.tmp 1)⟩, ⟨some 9, some (7, true), .bin .geq (.tmp 8) (.const (.int .i64 0))⟩, ⟨some 10, none, .pick (.tmp 7) (.tmp 9) (.const (.bool false))⟩, ⟨some 11, none, .mov (.tmp 10)⟩, ⟨some 12, some (11, true), .mov (.tmp 1)⟩, ⟨some 13, some (11, true), .bin .rem (.tmp 12) (.const (.int .i64 2))⟩, ⟨some 14, some (11, true), .bin .eql (.tmp 13) (.const (.int .i64 0))⟩, ⟨some 15, none, .pick (.tmp 11) (.tmp 14) (.const (.bool false))⟩, ⟨some 16, none, .mov (.tmp 15)⟩, ⟨some 17, some (16, true), .mov (.tmp 0)⟩, ⟨some 18, some (16, true), .nilCheck (.tmp 17)⟩, ⟨some 19, some (16, true), .field 2 (.tmp 18)⟩, ⟨some 20, some (16, true), .load false 1 (.tmp 19)⟩, ⟨some 21, some (16, true), .mov (.tmp 1)⟩, ⟨some 22, some (16, true), .bin .quo (.tmp 21) (.const (.int .i64 2))⟩, ⟨some 23, some (16, true), .call 99 [(.tmp 20), (.tmp 22)]⟩, ⟨some 24, some (16, true), .bin .eql (.tmp 23) (.const (.int .i64 1))⟩, ⟨some 25, none, .pick (.tmp 16) (.tmp 24) (.const (.bool false))⟩, ⟨some 4, none, .mov (.tmp 25)⟩])
  .ret)),
  [.tmp 4]⟩
theorem c44 : cprog Go.Proofs.Tryz.prog 44 = some C44 := by kernel_rfl
-- dustcart/sound.Kill
def C50_1 : CCode := .seq (.region [⟨some 12, none, .bin .lss (.tmp 11) (.tmp 10)⟩])
    (.seq (.cond (.tmp 12)
     .skip
     (.exit 0))
    (.seq (.block 1 (.seq (.region [⟨some 13, none, .index 1 (.tmp 9) (.tmp 11)⟩, ⟨some 14, none, .load false 1 (.tmp 13)⟩, ⟨some 7, none, .mov (.tmp 14)⟩])
     (.seq (.region [⟨some 15, none, .mov (.tmp 1)⟩, ⟨some 16, none, .mov (.tmp 7)⟩, ⟨some 17, none, .callm (.tmp 15) [(.tmp 16)] [(267, "dustcart/alloc.place", 272), (268, "dustcart/alloc.place", 277), (269, "dustcart/alloc.place", 285), (270, "dustcart/alloc.place", 286), (271, "dustcart/alloc.place", 290)]⟩, ⟨some 18, none, .not (.tmp 17)⟩])
     (.cond (.tmp 18)
      (.seq (.region [⟨some 19, none, .mov (.tmp 2)⟩, ⟨some 20, none, .nilCheck (.tmp 19)⟩, ⟨some 21, none, .field 2 (.tmp 20)⟩, ⟨some 22, none, .load false 1 (.tmp 21)⟩, ⟨some 23, none, .bin .add (.tmp 22) (.const (.int .i64 1))⟩, ⟨some 24, none, .nilCheck (.tmp 19)⟩, ⟨some 25, none, .field 2 (.tmp 24)⟩, ⟨none, none, .store 1 (.tmp 25) (.tmp 23)⟩])
      (.seq (.dregion [⟨⟨some 30, none, .mov (.tmp 0)⟩, 4, 0, 0⟩, ⟨⟨some 31, none, .mov (.tmp 7)⟩, 5, 0, 0⟩, ⟨⟨some 32, none, .call 107 [(.tmp 30), (.tmp 31)]⟩, 6, 3, 0⟩, ⟨⟨some 26, none, .mov (.tmp 2)⟩, 0, 0, 0⟩, ⟨⟨some 27, none, .nilCheck (.tmp 26)⟩, 1, 0, 0⟩, ⟨⟨some 28, none, .field 3 (.tmp 27)⟩, 2, 0, 0⟩, ⟨⟨some 29, none, .load false 1 (.tmp 28)⟩, 3, 1, 0⟩, ⟨⟨some 33, none, .bin .add (.tmp 29) (.tmp 32)⟩, 7, 0, 1⟩, ⟨⟨some 34, none, .nilCheck (.tmp 26)⟩, 8, 0, 1⟩, ⟨⟨some 35, none, .field 3 (.tmp 34)⟩, 9, 0, 1⟩, ⟨⟨none, none, .store 1 (.tmp 35) (.tmp 33)⟩, 10, 3, 1⟩])
      (.region [⟨some 36, none, .mov (.tmp 0)⟩, ⟨some 37, none, .mov (.tmp 7)⟩, ⟨some 38, none, .call 113 [(.tmp 36), (.tmp 37)]⟩])))
      .skip))))
    (.region [⟨some 39, none, .bin .add (.tmp 11) (.const (.int .i64 1))⟩, ⟨some 11, none, .mov (.tmp 39)⟩])))
def C50 : CFunc := ⟨40, 0, (.seq (.region [⟨some 8, none, .mov (.tmp 0)⟩, ⟨some 9, none, .call 64 [(.tmp 8)]⟩, ⟨some 10, none, .len (.tmp 9)⟩, ⟨some 11, none, .mov (.const (.int .i64 0))⟩])
  (.block 0 (.loop C50_1))),
  []⟩
theorem c50 : cprog Go.Proofs.Tryz.prog 50 = some C50 := by kernel_rfl
-- dustcart/sound.Moved
def C53_1 : CCode := .seq (.region [⟨some 68, none, .bin .lss (.tmp 67) (.tmp 66)⟩])
       (.seq (.cond (.tmp 68)
        .skip
        (.exit 4))
       (.seq (.block 5 (.seq (.region [⟨some 69, none, .mov (.tmp 67)⟩, ⟨some 16, none, .mov (.tmp 69)⟩])
        (.seq (.region [⟨some 71, none, .mov (.tmp 0)⟩, ⟨some 72, none, .mov (.tmp 13)⟩, ⟨some 73, none, .mov (.tmp 16)⟩, ⟨some 74, none, .call 111 [(.tmp 71), (.tmp 72), (.tmp 73)]⟩, ⟨some 70, none, .mov (.tmp 74)⟩, ⟨some 75, none, .extract (.tmp 70) 0⟩, ⟨some 76, none, .extract (.tmp 70) 1⟩, ⟨some 17, none, .mov (.tmp 75)⟩, ⟨some 18, none, .mov (.tmp 76)⟩])
        (.seq (.region [⟨some 78, none, .mov (.tmp 9)⟩, ⟨some 79, none, .mov (.tmp 17)⟩, ⟨some 80, none, .mapGet true .i64 (.int .i64 0) (.tmp 78) (.tmp 79)⟩, ⟨some 77, none, .mov (.tmp 80)⟩, ⟨some 81, none, .extract (.tmp 77) 0⟩, ⟨some 82, none, .extract (.tmp 77) 1⟩, ⟨some 19, none, .mov (.tmp 81)⟩, ⟨some 20, none, .mov (.tmp 82)⟩])
        (.seq (.region [⟨some 83, none, .mov (.tmp 20)⟩])
        (.cond (.tmp 83)
         (.region [⟨some 84, none, .mov (.tmp 0)⟩, ⟨some 85, none, .mov (.tmp 13)⟩, ⟨some 86, none, .mov (.tmp 16)⟩, ⟨some 87, none, .mov (.tmp 19)⟩, ⟨some 88, none, .call 112 [(.tmp 84), (.tmp 85), (.tmp 86), (.tmp 87)]⟩])
         .skip))))))
       (.region [⟨some 89, none, .bin .add (.tmp 67) (.const (.int .i64 1))⟩, ⟨some 67, none, .mov (.tmp 89)⟩])))
def C53_2 : CCode := .seq (.region [⟨some 56, none, .bin .lss (.tmp 55) (.tmp 54)⟩])
    (.seq (.cond (.tmp 56)
     .skip
     (.exit 2))
    (.seq (.block 3 (.seq (.region [⟨some 57, none, .index 1 (.tmp 53) (.tmp 55)⟩, ⟨some 58, none, .load false 1 (.tmp 57)⟩, ⟨some 13, none, .mov (.tmp 58)⟩])
     (.seq (.region [⟨some 60, none, .mov (.tmp 0)⟩, ⟨some 61, none, .mov (.tmp 13)⟩, ⟨some 62, none, .call 109 [(.tmp 60), (.tmp 61)]⟩, ⟨some 59, none, .mov (.tmp 62)⟩, ⟨some 63, none, .extract (.tmp 59) 0⟩, ⟨some 64, none, .extract (.tmp 59) 1⟩, ⟨some 14, none, .new [.int .i64 0, .int .i64 0, .int .i64 0]⟩, ⟨none, none, .store 3 (.tmp 14) (.tmp 63)⟩, ⟨some 15, none, .mov (.tmp 64)⟩])
     (.seq (.region [⟨some 65, none, .field 0 (.tmp 14)⟩, ⟨some 66, none, .load false 1 (.tmp 65)⟩, ⟨some 67, none, .mov (.const (.int .i64 0))⟩])
     (.block 4 (.loop C53_1))))))
    (.region [⟨some 90, none, .bin .add (.tmp 55) (.const (.int .i64 1))⟩, ⟨some 55, none, .mov (.tmp 90)⟩])))
def C53_3 : CCode := .seq (.region [⟨some 29, none, .bin .lss (.tmp 28) (.tmp 27)⟩])
    (.seq (.cond (.tmp 29)
     .skip
     (.exit 0))
    (.seq (.block 1 (.seq (.region [⟨some 30, none, .index 2 (.tmp 26) (.tmp 28)⟩, ⟨some 31, none, .load true 2 (.tmp 30)⟩, ⟨some 11, none, .new [.int .i64 0, .int .i64 0]⟩, ⟨none, none, .store 2 (.tmp 11) (.tmp 31)⟩])
     (.seq (.dregion [⟨⟨some 32, none, .mov (.tmp 7)⟩, 0, 0, 0⟩, ⟨⟨some 33, none, .field 0 (.tmp 11)⟩, 1, 0, 0⟩, ⟨⟨some 34, none, .load false 1 (.tmp 33)⟩, 2, 1, 0⟩, ⟨⟨some 35, none, .buildSlice 1 [.int .i64 0] 1 [(0, 1, (.tmp 34))]⟩, 3, 0, 0⟩, ⟨⟨some 36, none, .append 1 (.tmp 32) (.tmp 35)⟩, 4, 3, 0⟩, ⟨⟨some 37, none, .mov (.tmp 8)⟩, 5, 0, 0⟩, ⟨⟨some 38, none, .field 1 (.tmp 11)⟩, 6, 0, 0⟩, ⟨⟨some 39, none, .load false 1 (.tmp 38)⟩, 7, 1, 0⟩, ⟨⟨some 40, none, .buildSlice 1 [.int .i64 0] 1 [(0, 1, (.tmp 39))]⟩, 8, 0, 0⟩, ⟨⟨some 41, none, .append 1 (.tmp 37) (.tmp 40)⟩, 9, 3, 1⟩, ⟨⟨some 7, none, .mov (.tmp 36)⟩, 10, 0, 2⟩, ⟨⟨some 8, none, .mov (.tmp 41)⟩, 11, 0, 2⟩])
     (.region [⟨some 42, none, .mov (.tmp 9)⟩, ⟨some 43, none, .field 0 (.tmp 11)⟩, ⟨some 44, none, .load false 1 (.tmp 43)⟩, ⟨some 45, none, .field 1 (.tmp 11)⟩, ⟨some 46, none, .load false 1 (.tmp 45)⟩, ⟨none, none, .mapSet .i64 (.tmp 42) (.tmp 44) (.tmp 46)⟩]))))
    (.region [⟨some 47, none, .bin .add (.tmp 28) (.const (.int .i64 1))⟩, ⟨some 28, none, .mov (.tmp 47)⟩])))
def C53 : CFunc := ⟨91, 0, (.seq (.region [⟨some 21, none, .mov (.tmp 2)⟩, ⟨some 22, none, .call 115 [(.tmp 21)]⟩, ⟨some 6, none, .mov (.tmp 22)⟩])
  (.seq (.region [⟨some 23, none, .mov (.tmp 6)⟩, ⟨some 24, none, .call 116 [(.tmp 23), (.const (.func 117 []))]⟩])
  (.seq (.region [⟨some 7, none, .mov (.const (.nilSlice))⟩, ⟨some 8, none, .mov (.const (.nilSlice))⟩])
  (.seq (.region [⟨some 25, none, .mapNew⟩, ⟨some 9, none, .mov (.tmp 25)⟩])
  (.seq (.seq (.region [⟨some 26, none, .mov (.tmp 6)⟩, ⟨some 27, none, .len (.tmp 26)⟩, ⟨some 28, none, .mov (.const (.int .i64 0))⟩])
  (.block 0 (.loop C53_3)))
  (.seq (.region [⟨some 48, none, .mov (.tmp 1)⟩, ⟨some 49, none, .mov (.tmp 7)⟩, ⟨some 50, none, .mov (.tmp 8)⟩, ⟨some 51, none, .call 118 [(.tmp 48), (.tmp 49), (.tmp 50)]⟩])
  (.seq (.region [⟨some 52, none, .mov (.tmp 0)⟩, ⟨some 53, none, .call 64 [(.tmp 52)]⟩, ⟨some 54, none, .len (.tmp 53)⟩, ⟨some 55, none, .mov (.const (.int .i64 0))⟩])
  (.block 2 (.loop C53_2))))))))),
  []⟩
theorem c53 : cprog Go.Proofs.Tryz.prog 53 = some C53 := by kernel_rfl
-- dustcart/sound.Release
def C54_1 : CCode := .seq (.region [⟨some 6, none, .bin .lss (.tmp 5) (.tmp 4)⟩])
    (.seq (.cond (.tmp 6)
     .skip
     (.exit 0))
    (.seq (.block 1 (.seq (.region [⟨some 7, none, .mov (.tmp 5)⟩, ⟨some 2, none, .mov (.tmp 7)⟩])
     (.region [⟨some 8, none, .mov (.tmp 0)⟩, ⟨some 9, none, .mov (.tmp 2)⟩, ⟨some 10, none, .call 119 [(.tmp 8), (.tmp 9)]⟩])))
    (.region [⟨some 11, none, .bin .add (.tmp 5) (.const (.int .i64 1))⟩, ⟨some 5, none, .mov (.tmp 11)⟩])))
def C54 : CFunc := ⟨12, 0, (.seq (.region [⟨some 3, none, .mov (.tmp 0)⟩, ⟨some 4, none, .call 30 [(.tmp 3)]⟩, ⟨some 5, none, .mov (.const (.int .i64 0))⟩])
  (.block 0 (.loop C54_1))),
  []⟩
theorem c54 : cprog Go.Proofs.Tryz.prog 54 = some C54 := by kernel_rfl
-- dustcart/sound.Done
def C55_1 : CCode := .seq (.region [⟨some 27, none, .bin .lss (.tmp 26) (.tmp 25)⟩])
    (.seq (.cond (.tmp 27)
     .skip
     (.exit 0))
    (.seq (.block 1 (.seq (.region [⟨some 28, none, .index 2 (.tmp 24) (.tmp 26)⟩, ⟨some 29, none, .load true 2 (.tmp 28)⟩, ⟨some 7, none, .new [.int .i64 0, .int .i64 0]⟩, ⟨none, none, .store 2 (.tmp 7) (.tmp 29)⟩])
     (.dregion [⟨⟨some 34, none, .mov (.tmp 0)⟩, 4, 0, 0⟩, ⟨⟨some 35, none, .field 1 (.tmp 7)⟩, 5, 0, 0⟩, ⟨⟨some 36, none, .load false 1 (.tmp 35)⟩, 6, 1, 0⟩, ⟨⟨some 37, none, .call 107 [(.tmp 34), (.tmp 36)]⟩, 7, 3, 0⟩, ⟨⟨some 30, none, .mov (.tmp 2)⟩, 0, 0, 0⟩, ⟨⟨some 31, none, .nilCheck (.tmp 30)⟩, 1, 0, 0⟩, ⟨⟨some 32, none, .field 5 (.tmp 31)⟩, 2, 0, 0⟩, ⟨⟨some 33, none, .load false 1 (.tmp 32)⟩, 3, 1, 0⟩, ⟨⟨some 38, none, .bin .add (.tmp 33) (.tmp 37)⟩, 8, 0, 1⟩, ⟨⟨some 39, none, .nilCheck (.tmp 30)⟩, 9, 0, 1⟩, ⟨⟨some 40, none, .field 5 (.tmp 39)⟩, 10, 0, 1⟩, ⟨⟨none, none, .store 1 (.tmp 40) (.tmp 38)⟩, 11, 3, 1⟩])))
    (.region [⟨some 41, none, .bin .add (.tmp 26) (.const (.int .i64 1))⟩, ⟨some 26, none, .mov (.tmp 41)⟩])))
def C55 : CFunc := ⟨42, 0, (.seq (.region [⟨some 8, none, .mov (.tmp 2)⟩, ⟨some 9, none, .mov (.tmp 2)⟩, ⟨some 10, none, .mov (.tmp 0)⟩, ⟨some 11, none, .call 64 [(.tmp 10)]⟩, ⟨some 12, none, .len (.tmp 11)⟩, ⟨some 13, none, .mov (.tmp 0)⟩, ⟨some 14, none, .call 120 [(.tmp 13)]⟩, ⟨some 15, none, .nilCheck (.tmp 8)⟩, ⟨some 16, none, .field 0 (.tmp 15)⟩, ⟨none, none, .store 1 (.tmp 16) (.tmp 12)⟩, ⟨some 17, none, .nilCheck (.tmp 9)⟩, ⟨some 18, none, .field 1 (.tmp 17)⟩, ⟨none, none, .store 1 (.tmp 18) (.tmp 14)⟩])
  (.seq (.region [⟨some 19, none, .mov (.tmp 2)⟩, ⟨some 20, none, .mov (.tmp 1)⟩, ⟨some 21, none, .len (.tmp 20)⟩, ⟨some 22, none, .nilCheck (.tmp 19)⟩, ⟨some 23, none, .field 4 (.tmp 22)⟩, ⟨none, none, .store 1 (.tmp 23) (.tmp 21)⟩])
  (.seq (.region [⟨some 24, none, .mov (.tmp 1)⟩, ⟨some 25, none, .len (.tmp 24)⟩, ⟨some 26, none, .mov (.const (.int .i64 0))⟩])
  (.block 0 (.loop C55_1))))),
  []⟩
theorem c55 : cprog Go.Proofs.Tryz.prog 55 = some C55 := by kernel_rfl
-- (*dustcart/heap.Heap).State
def C58 : CFunc := ⟨21, 0, (.seq (.region [⟨some 4, none, .mov (.const (.int .i64 0))⟩])
  (.seq (.seq (.region [⟨some 5, none, .mov (.tmp 1)⟩, ⟨some 6, none, .bin .lss (.tmp 5) (.const (.int .i64 0))⟩, ⟨some 7, none, .mov (.tmp 6)⟩, ⟨some 8, some (7, false), .mov (.tmp 1)⟩, ⟨some 9, some (7, false), .mov (.tmp 0)⟩, ⟨some 10, some (7, false), .call 30 [(.tmp 9)]⟩, ⟨some 11, some (7, false), .bin .geq (.tmp 8) (.tmp 10)⟩, ⟨some 12, none, .pick (.tmp 7) (.const (.bool true)) (.tmp 11)⟩])
  (.cond (.tmp 12)
   (.seq (.region [⟨some 4, none, .mov (.const (.int .i64 (-1)))⟩])
   .ret)
   .skip))
  (.seq (.region [⟨some 13, none, .mov (.tmp 0)⟩, ⟨some 14, none, .nilCheck (.tmp 13)⟩, ⟨some 15, none, .field 0 (.tmp 14)⟩, ⟨some 16, none, .load false 1 (.tmp 15)⟩, ⟨some 17, none, .mov (.tmp 1)⟩, ⟨some 18, none, .index 2 (.tmp 16) (.tmp 17)⟩, ⟨some 19, none, .field 0 (.tmp 18)⟩, ⟨some 20, none, .load false 1 (.tmp 19)⟩, ⟨some 4, none, .mov (.tmp 20)⟩])
  .ret))),
  [.tmp 4]⟩
theorem c58 : cprog Go.Proofs.Tryz.prog 58 = some C58 := by kernel_rfl
-- slices.DeleteFunc[[]int,int]
def C63_1 : CCode := .seq (.seq (.region [⟨some 16, none, .mov (.tmp 6)⟩, ⟨some 17, none, .mov (.tmp 0)⟩, ⟨some 18, none, .len (.tmp 17)⟩, ⟨some 19, none, .bin .lss (.tmp 16) (.tmp 18)⟩])
    (.cond (.tmp 19)
     .skip
     (.exit 0)))
    (.seq (.block 1 (.seq (.region [⟨some 22, none, .mov (.tmp 0)⟩, ⟨some 23, none, .mov (.tmp 6)⟩, ⟨some 24, none, .index 1 (.tmp 22) (.tmp 23)⟩, ⟨some 25, none, .load false 1 (.tmp 24)⟩, ⟨some 7, none, .mov (.tmp 25)⟩])
     (.seq (.region [⟨some 26, none, .mov (.tmp 1)⟩, ⟨some 27, none, .mov (.tmp 7)⟩, ⟨some 28, none, .callm (.tmp 26) [(.tmp 27)] [(267, "dustcart/alloc.place", 272), (268, "dustcart/alloc.place", 277), (269, "dustcart/alloc.place", 285), (270, "dustcart/alloc.place", 286), (271, "dustcart/alloc.place", 290)]⟩, ⟨some 29, none, .not (.tmp 28)⟩])
     (.cond (.tmp 29)
      (.seq (.region [⟨some 30, none, .mov (.tmp 0)⟩, ⟨some 31, none, .mov (.tmp 5)⟩, ⟨some 32, none, .mov (.tmp 7)⟩, ⟨some 33, none, .index 1 (.tmp 30) (.tmp 31)⟩, ⟨none, none, .store 1 (.tmp 33) (.tmp 32)⟩])
      (.region [⟨some 34, none, .mov (.tmp 5)⟩, ⟨some 35, none, .bin .add (.tmp 34) (.const (.int .i64 1))⟩, ⟨some 5, none, .mov (.tmp 35)⟩]))
      .skip))))
    (.region [⟨some 20, none, .mov (.tmp 6)⟩, ⟨some 21, none, .bin .add (.tmp 20) (.const (.int .i64 1))⟩, ⟨some 6, none, .mov (.tmp 21)⟩]))
def C63 : CFunc := ⟨42, 0, (.seq (.region [⟨some 4, none, .mov (.const (.nilSlice))⟩])
  (.seq (.region [⟨some 8, none, .mov (.tmp 0)⟩, ⟨some 9, none, .mov (.tmp 1)⟩, ⟨some 10, none, .call 133 [(.tmp 8), (.tmp 9)]⟩, ⟨some 5, none, .mov (.tmp 10)⟩])
  (.seq (.seq (.region [⟨some 11, none, .mov (.tmp 5)⟩, ⟨some 12, none, .bin .eql (.tmp 11) (.const (.int .i64 (-1)))⟩])
  (.cond (.tmp 12)
   (.seq (.region [⟨some 13, none, .mov (.tmp 0)⟩, ⟨some 4, none, .mov (.tmp 13)⟩])
   .ret)
   .skip))
  (.seq (.seq (.region [⟨some 14, none, .mov (.tmp 5)⟩, ⟨some 15, none, .bin .add (.tmp 14) (.const (.int .i64 1))⟩, ⟨some 6, none, .mov (.tmp 15)⟩])
  (.block 0 (.loop C63_1)))
  (.seq (.region [⟨some 36, none, .mov (.tmp 0)⟩, ⟨some 37, none, .mov (.tmp 5)⟩, ⟨some 38, none, .slice 1 (.tmp 36) (some (.tmp 37)) none none⟩, ⟨none, none, .clear [.int .i64 0] (.tmp 38)⟩])
  (.seq (.region [⟨some 39, none, .mov (.tmp 0)⟩, ⟨some 40, none, .mov (.tmp 5)⟩, ⟨some 41, none, .slice 1 (.tmp 39) none (some (.tmp 40)) none⟩, ⟨some 4, none, .mov (.tmp 41)⟩])
  .ret)))))),
  [.tmp 4]⟩
theorem c63 : cprog Go.Proofs.Tryz.prog 63 = some C63 := by kernel_rfl
end Go.Cs.Tryz

/- The turned functions, part 0. -/
noncomputable section
namespace Go.Cs.Tryz
open Go Go.Cs Go.Cs.K
set_option maxRecDepth 100000
def S3_1 : SCode := .seq (.seq (.ops (.vd 49 (o_mov (.tmp 15)) (.vd 50 (o_bin .lss (.tmp 49) (.const (.int .i64 4))) .nil)))
    (.cond (.tmp 50)
     .skip
     (.exit 0)))
    (.seq (.block 1 (.seq (.dregion [⟨⟨some 54, none, .mov (.tmp 12)⟩, 0, 0, 0⟩, ⟨⟨some 55, none, .mov (.tmp 15)⟩, 1, 0, 0⟩, ⟨⟨some 56, none, .index 1 (.tmp 54) (.tmp 55)⟩, 2, 0, 0⟩, ⟨⟨some 57, none, .load false 1 (.tmp 56)⟩, 3, 1, 0⟩, ⟨⟨some 58, none, .mov (.tmp 13)⟩, 4, 0, 0⟩, ⟨⟨some 59, none, .mov (.tmp 15)⟩, 5, 0, 0⟩, ⟨⟨some 60, none, .index 1 (.tmp 58) (.tmp 59)⟩, 6, 0, 0⟩, ⟨⟨some 61, none, .load false 1 (.tmp 60)⟩, 7, 1, 0⟩, ⟨⟨some 62, none, .call 10 [(.tmp 57), (.tmp 61)]⟩, 8, 3, 0⟩, ⟨⟨some 53, none, .mov (.tmp 62)⟩, 9, 0, 1⟩, ⟨⟨some 63, none, .extract (.tmp 53) 0⟩, 10, 0, 1⟩, ⟨⟨some 16, none, .new [.int .i64 0, .int .i64 0, .int .i64 0, .int .i64 0, .int .i64 0, .int .i64 0, .int .i64 0, .int .i64 0]⟩, 13, 0, 0⟩, ⟨⟨none, none, .store 8 (.tmp 16) (.tmp 63)⟩, 14, 3, 1⟩, ⟨⟨some 64, none, .extract (.tmp 53) 1⟩, 11, 0, 1⟩, ⟨⟨some 65, none, .extract (.tmp 53) 2⟩, 12, 0, 1⟩, ⟨⟨some 17, none, .mov (.tmp 64)⟩, 15, 0, 2⟩, ⟨⟨some 18, none, .mov (.tmp 65)⟩, 16, 0, 2⟩])
     (.seq (.dregion [⟨⟨some 67, none, .mov (.tmp 12)⟩, 0, 0, 0⟩, ⟨⟨some 68, none, .mov (.tmp 15)⟩, 1, 0, 0⟩, ⟨⟨some 69, none, .index 1 (.tmp 67) (.tmp 68)⟩, 2, 0, 0⟩, ⟨⟨some 70, none, .load false 1 (.tmp 69)⟩, 3, 1, 0⟩, ⟨⟨some 71, none, .mov (.tmp 13)⟩, 4, 0, 0⟩, ⟨⟨some 72, none, .mov (.tmp 15)⟩, 5, 0, 0⟩, ⟨⟨some 73, none, .index 1 (.tmp 71) (.tmp 72)⟩, 6, 0, 0⟩, ⟨⟨some 74, none, .load false 1 (.tmp 73)⟩, 7, 1, 0⟩, ⟨⟨some 75, none, .mov (.tmp 0)⟩, 8, 0, 0⟩, ⟨⟨some 76, none, .call 11 [(.tmp 70), (.tmp 74), (.tmp 75)]⟩, 9, 3, 0⟩, ⟨⟨some 66, none, .mov (.tmp 76)⟩, 10, 0, 1⟩, ⟨⟨some 77, none, .extract (.tmp 66) 0⟩, 11, 0, 1⟩, ⟨⟨some 19, none, .new [.int .i64 0, .int .i64 0, .int .i64 0, .int .i64 0, .int .i64 0, .int .i64 0, .int .i64 0, .int .i64 0]⟩, 14, 0, 0⟩, ⟨⟨none, none, .store 8 (.tmp 19) (.tmp 77)⟩, 15, 3, 1⟩, ⟨⟨some 78, none, .extract (.tmp 66) 1⟩, 12, 0, 1⟩, ⟨⟨some 79, none, .extract (.tmp 66) 2⟩, 13, 0, 1⟩, ⟨⟨some 20, none, .mov (.tmp 78)⟩, 16, 0, 2⟩, ⟨⟨some 21, none, .mov (.tmp 79)⟩, 17, 0, 2⟩])
     (.seq (.dregion [⟨⟨some 81, none, .mov (.tmp 12)⟩, 0, 0, 0⟩, ⟨⟨some 82, none, .mov (.tmp 15)⟩, 1, 0, 0⟩, ⟨⟨some 83, none, .index 1 (.tmp 81) (.tmp 82)⟩, 2, 0, 0⟩, ⟨⟨some 84, none, .load false 1 (.tmp 83)⟩, 3, 1, 0⟩, ⟨⟨some 85, none, .mov (.tmp 14)⟩, 4, 0, 0⟩, ⟨⟨some 86, none, .mov (.tmp 15)⟩, 5, 0, 0⟩, ⟨⟨some 87, none, .index 1 (.tmp 85) (.tmp 86)⟩, 6, 0, 0⟩, ⟨⟨some 88, none, .load false 1 (.tmp 87)⟩, 7, 1, 0⟩, ⟨⟨some 89, none, .call 12 [(.tmp 84), (.tmp 88)]⟩, 8, 3, 0⟩, ⟨⟨some 80, none, .mov (.tmp 89)⟩, 9, 0, 1⟩, ⟨⟨some 90, none, .extract (.tmp 80) 0⟩, 10, 0, 1⟩, ⟨⟨some 91, none, .extract (.tmp 80) 1⟩, 11, 0, 1⟩, ⟨⟨some 22, none, .mov (.tmp 90)⟩, 12, 0, 1⟩, ⟨⟨some 23, none, .mov (.tmp 91)⟩, 13, 0, 1⟩])
     (.seq (.ops (.vd 92 (o_load true 8 (.tmp 16)) (.vd 93 (o_build [.int .i64 0, .int .i64 0, .int .i64 0, .int .i64 0, .int .i64 0, .int .i64 0, .int .i64 0, .int .i64 0] []) (.vd 94 (o_eqs true 8 (.tmp 92) (.tmp 93)) (.vd 95 (o_mov (.tmp 94)) (.vg 96 95 false (o_mov (.tmp 17)) (.vg 97 95 false (o_len (.tmp 96)) (.vg 98 95 false (o_bin .neq (.tmp 97) (.const (.int .i64 0))) (.vd 99 (o_pick (.tmp 95) (.const (.bool true)) (.tmp 98)) (.vd 100 (o_mov (.tmp 99)) (.vg 101 100 false (o_mov (.tmp 18)) (.vg 102 100 false (o_bin .neq (.tmp 101) (.const (.int .i64 1))) (.vd 103 (o_pick (.tmp 100) (.const (.bool true)) (.tmp 102)) (.vd 104 (o_mov (.tmp 103)) (.vg 105 104 false (o_load true 8 (.tmp 19)) (.vg 106 104 false (o_build [.int .i64 0, .int .i64 0, .int .i64 0, .int .i64 0, .int .i64 0, .int .i64 0, .int .i64 0, .int .i64 0] []) (.vg 107 104 false (o_eqs true 8 (.tmp 105) (.tmp 106)) (.vd 108 (o_pick (.tmp 104) (.const (.bool true)) (.tmp 107)) (.vd 109 (o_mov (.tmp 108)) (.vg 110 109 false (o_mov (.tmp 20)) (.vg 111 109 false (o_len (.tmp 110)) (.vg 112 109 false (o_bin .neq (.tmp 111) (.const (.int .i64 0))) (.vd 113 (o_pick (.tmp 109) (.const (.bool true)) (.tmp 112)) (.vd 114 (o_mov (.tmp 113)) (.vg 115 114 false (o_mov (.tmp 21)) (.vg 116 114 false (o_bin .neq (.tmp 115) (.const (.int .i64 1))) (.vd 117 (o_pick (.tmp 114) (.const (.bool true)) (.tmp 116)) (.vd 118 (o_mov (.tmp 117)) (.vg 119 118 false (o_mov (.tmp 22)) (.vg 120 118 false (o_len (.tmp 119)) (.vg 121 118 false (o_bin .neq (.tmp 120) (.const (.int .i64 0))) (.vd 122 (o_pick (.tmp 118) (.const (.bool true)) (.tmp 121)) (.vd 123 (o_mov (.tmp 122)) (.vg 124 123 false (o_mov (.tmp 23)) (.vg 125 123 false (o_bin .neq (.tmp 124) (.const (.int .i64 1))) (.vd 126 (o_pick (.tmp 123) (.const (.bool true)) (.tmp 125)) .nil))))))))))))))))))))))))))))))))))))
     (.cond (.tmp 126)
      (.seq (.ops (.vd 2 (o_mov (.const (.bool false))) .nil))
      .ret)
      .skip))))))
    (.ops (.vd 51 (o_mov (.tmp 15)) (.vd 52 (o_bin .add (.tmp 51) (.const (.int .i64 1))) (.vd 15 (o_mov (.tmp 52)) .nil)))))
def S3 : SCode := (.seq (.ops (.vd 2 (o_mov (.const (.bool false))) .nil))
  (.seq (.ops (.vd 3 (o_new [.nilSlice, .nilSlice, .nilPtr, .nilPtr, .nilMap, .nilMap, .int .i64 0]) .nil))
  (.seq (.ops (.vd 4 (o_new [.int .i64 0, .nilSlice, .nilSlice, .nilSlice]) .nil))
  (.seq (.ops (.vd 5 (o_new [.int .i64 0, .int .i64 0, .nilSlice]) .nil))
  (.seq (.ops (.cd 29 (fun F => c_call F 7 [(.const (.int .i64 2))]) (.vd 28 (o_mov (.tmp 29)) (.vd 30 (o_extract (.tmp 28) 0) (.vd 31 (o_extract (.tmp 28) 1) (.vd 6 (o_mov (.tmp 30)) (.vd 7 (o_mov (.tmp 31)) .nil)))))))
  (.seq (.ops (.cd 33 (fun F => c_call F 8 [(.const (.int .i64 1))]) (.vd 32 (o_mov (.tmp 33)) (.vd 34 (o_extract (.tmp 32) 0) (.vd 35 (o_extract (.tmp 32) 1) (.vd 8 (o_mov (.tmp 34)) (.vd 9 (o_mov (.tmp 35)) .nil)))))))
  (.seq (.ops (.cd 37 (fun F => c_call F 9 [(.const (.int .i64 64)), (.const (.int .i64 1))]) (.vd 36 (o_mov (.tmp 37)) (.vd 38 (o_extract (.tmp 36) 0) (.vd 39 (o_extract (.tmp 36) 1) (.vd 10 (o_mov (.tmp 38)) (.vd 11 (o_mov (.tmp 39)) .nil)))))))
  (.seq (.ops (.vd 40 (o_mov (.tmp 6)) (.vd 41 (o_mov (.tmp 6)) (.vd 42 (o_buildSlice 1 [.nilPtr, .nilPtr, .nilPtr, .nilPtr] 4 [(0, 1, (.const (.nilPtr))), (1, 1, (.tmp 3)), (2, 1, (.tmp 40)), (3, 1, (.tmp 41))]) (.vd 12 (o_mov (.tmp 42)) .nil)))))
  (.seq (.ops (.vd 43 (o_mov (.tmp 8)) (.vd 44 (o_mov (.tmp 8)) (.vd 45 (o_buildSlice 1 [.nilPtr, .nilPtr, .nilPtr, .nilPtr] 4 [(0, 1, (.tmp 43)), (1, 1, (.tmp 44)), (2, 1, (.const (.nilPtr))), (3, 1, (.tmp 4))]) (.vd 13 (o_mov (.tmp 45)) .nil)))))
  (.seq (.ops (.vd 46 (o_mov (.tmp 10)) (.vd 47 (o_mov (.tmp 10)) (.vd 48 (o_buildSlice 1 [.nilPtr, .nilPtr, .nilPtr, .nilPtr] 4 [(0, 1, (.tmp 46)), (1, 1, (.tmp 47)), (2, 1, (.const (.nilPtr))), (3, 1, (.tmp 5))]) (.vd 14 (o_mov (.tmp 48)) .nil)))))
  (.seq (.seq (.ops (.vd 15 (o_mov (.const (.int .i64 0))) .nil))
  (.block 0 (.loop S3_1)))
  (.seq (.ops (.cd 128 (fun F => c_call F 13 [(.const (.nilPtr))]) (.vd 127 (o_mov (.tmp 128)) (.vd 129 (o_extract (.tmp 127) 0) (.vd 130 (o_extract (.tmp 127) 1) (.vd 24 (o_mov (.tmp 129)) (.vd 25 (o_mov (.tmp 130)) .nil)))))))
  (.seq (.ops (.cd 132 (fun F => c_call F 13 [(.tmp 3)]) (.vd 131 (o_mov (.tmp 132)) (.vd 133 (o_extract (.tmp 131) 0) (.vd 134 (o_extract (.tmp 131) 1) (.vd 26 (o_mov (.tmp 133)) (.vd 27 (o_mov (.tmp 134)) .nil)))))))
  (.seq (.ops (.vd 135 (o_mov (.tmp 24)) (.vd 136 (o_bin .eql (.tmp 135) (.const (.int .i64 0))) (.vd 137 (o_mov (.tmp 136)) (.vg 138 137 true (o_mov (.tmp 25)) (.vg 139 137 true (o_bin .eql (.tmp 138) (.const (.int .i64 1))) (.vd 140 (o_pick (.tmp 137) (.tmp 139) (.const (.bool false))) (.vd 141 (o_mov (.tmp 140)) (.vg 142 141 true (o_mov (.tmp 26)) (.vg 143 141 true (o_bin .eql (.tmp 142) (.const (.int .i64 0))) (.vd 144 (o_pick (.tmp 141) (.tmp 143) (.const (.bool false))) (.vd 145 (o_mov (.tmp 144)) (.vg 146 145 true (o_mov (.tmp 27)) (.vg 147 145 true (o_bin .eql (.tmp 146) (.const (.int .i64 1))) (.vd 148 (o_pick (.tmp 145) (.tmp 147) (.const (.bool false))) (.vd 149 (o_mov (.tmp 148)) (.c (some 150) (some (149, true)) (fun F => c_call F 14 []) (.vd 151 (o_pick (.tmp 149) (.tmp 150) (.const (.bool false))) (.vd 2 (o_mov (.tmp 151)) .nil)))))))))))))))))))
  .ret))))))))))))))
def X3 : FnS := .code ⟨152, 0, .skip, [.tmp 2]⟩ S3
theorem x3 : okX Go.Proofs.Tryz.prog 3 X3 := ⟨C3, c3, rfl, rfl, rfl, by kernel_rfl⟩
def S7 : SCode := (.seq (.ops (.vd 2 (o_mov (.const (.nilPtr))) (.vd 3 (o_mov (.const (.int .i64 0))) .nil)))
  (.seq (.seq (.ops (.vd 5 (o_mov (.tmp 0)) (.vd 6 (o_bin .lss (.tmp 5) (.const (.int .i64 2))) (.vd 7 (o_mov (.tmp 6)) (.vg 8 7 false (o_mov (.tmp 0)) (.vg 9 7 false (o_bin .gtr (.tmp 8) (.const (.int .i64 64))) (.vd 10 (o_pick (.tmp 7) (.const (.bool true)) (.tmp 9)) .nil)))))))
  (.cond (.tmp 10)
   (.seq (.ops (.vd 2 (o_mov (.const (.nilPtr))) (.vd 3 (o_mov (.const (.int .i64 1))) .nil)))
   .ret)
   .skip))
  (.seq (.dregion [⟨⟨some 11, none, .mov (.tmp 0)⟩, 0, 0, 0⟩, ⟨⟨some 12, none, .makeSlice 2 [.int .i64 0, .int .i64 0] (.tmp 11) (.tmp 11)⟩, 1, 0, 0⟩, ⟨⟨some 13, none, .mov (.tmp 0)⟩, 2, 0, 0⟩, ⟨⟨some 14, none, .bin .mul (.tmp 13) (.const (.int .i64 64))⟩, 3, 0, 0⟩, ⟨⟨some 15, none, .makeSlice 1 [.int .i64 0] (.tmp 14) (.tmp 14)⟩, 4, 0, 0⟩, ⟨⟨some 16, none, .mapNew⟩, 5, 0, 0⟩, ⟨⟨some 17, none, .mapNew⟩, 6, 0, 0⟩, ⟨⟨some 18, none, .build [.nilSlice, .nilSlice, .nilPtr, .nilPtr, .nilMap, .nilMap, .int .i64 0] [(0, 1, (.tmp 12)), (1, 1, (.tmp 15)), (4, 1, (.tmp 16)), (5, 1, (.tmp 17))]⟩, 7, 0, 0⟩, ⟨⟨some 19, none, .box (.tmp 18)⟩, 8, 0, 0⟩, ⟨⟨some 4, none, .mov (.tmp 19)⟩, 9, 0, 0⟩])
  (.seq (.ops (.vd 21 (o_mov (.tmp 4)) (.vd 22 (o_mov (.tmp 4)) (.vd 23 (o_nilCheck (.tmp 22)) (.vd 24 (o_field 1 (.tmp 23)) (.vd 25 (o_load false 1 (.tmp 24)) (.vd 26 (o_len (.tmp 25)) (.vd 27 (o_bin .quo (.tmp 26) (.const (.int .i64 2))) (.cd 28 (fun F => c_call F 9 [(.tmp 27), (.const (.int .i64 1))]) (.vd 20 (o_mov (.tmp 28)) (.vd 29 (o_extract (.tmp 20) 0) (.vd 30 (o_extract (.tmp 20) 1) (.vd 31 (o_nilCheck (.tmp 21)) (.vd 32 (o_field 2 (.tmp 31)) (.v none none (o_store 1 (.tmp 32) (.tmp 29)) .nil)))))))))))))))
  (.seq (.ops (.vd 34 (o_mov (.tmp 4)) (.vd 35 (o_mov (.tmp 4)) (.vd 36 (o_nilCheck (.tmp 35)) (.vd 37 (o_field 1 (.tmp 36)) (.vd 38 (o_load false 1 (.tmp 37)) (.vd 39 (o_len (.tmp 38)) (.vd 40 (o_bin .quo (.tmp 39) (.const (.int .i64 2))) (.cd 41 (fun F => c_call F 9 [(.tmp 40), (.const (.int .i64 1))]) (.vd 33 (o_mov (.tmp 41)) (.vd 42 (o_extract (.tmp 33) 0) (.vd 43 (o_extract (.tmp 33) 1) (.vd 44 (o_nilCheck (.tmp 34)) (.vd 45 (o_field 3 (.tmp 44)) (.v none none (o_store 1 (.tmp 45) (.tmp 42)) .nil)))))))))))))))
  (.seq (.ops (.vd 46 (o_mov (.tmp 4)) (.vd 2 (o_mov (.tmp 46)) (.vd 3 (o_mov (.const (.int .i64 0))) .nil))))
  .ret))))))
def X7 : FnS := .code ⟨47, 0, .skip, [.tmp 2, .tmp 3]⟩ S7
theorem x7 : okX Go.Proofs.Tryz.prog 7 X7 := ⟨C7, c7, rfl, rfl, rfl, by kernel_rfl⟩
def S8 : SCode := (.seq (.ops (.vd 2 (o_mov (.const (.nilPtr))) (.vd 3 (o_mov (.const (.int .i64 0))) .nil)))
  (.seq (.seq (.ops (.vd 4 (o_mov (.tmp 0)) (.vd 5 (o_bin .lss (.tmp 4) (.const (.int .i64 1))) (.vd 6 (o_mov (.tmp 5)) (.vg 7 6 false (o_mov (.tmp 0)) (.vg 8 6 false (o_bin .gtr (.tmp 7) (.const (.int .i64 4))) (.vd 9 (o_pick (.tmp 6) (.const (.bool true)) (.tmp 8)) .nil)))))))
  (.cond (.tmp 9)
   (.seq (.ops (.vd 2 (o_mov (.const (.nilPtr))) (.vd 3 (o_mov (.const (.int .i64 1))) .nil)))
   .ret)
   .skip))
  (.seq (.dregion [⟨⟨some 10, none, .mov (.tmp 0)⟩, 0, 0, 0⟩, ⟨⟨some 11, none, .mov (.tmp 0)⟩, 1, 0, 0⟩, ⟨⟨some 12, none, .bin .mul (.tmp 11) (.const (.int .i64 16))⟩, 2, 0, 0⟩, ⟨⟨some 13, none, .makeSlice 1 [.int .i64 0] (.tmp 12) (.tmp 12)⟩, 3, 0, 0⟩, ⟨⟨some 14, none, .makeSlice 1 [.int .i64 0] (.const (.int .i64 16)) (.const (.int .i64 16))⟩, 4, 0, 0⟩, ⟨⟨some 15, none, .build [.int .i64 0, .nilSlice, .nilSlice, .nilSlice] [(0, 1, (.tmp 10)), (1, 1, (.tmp 13)), (2, 1, (.tmp 14)), (3, 1, (.const (.nilSlice)))]⟩, 5, 0, 0⟩, ⟨⟨some 16, none, .box (.tmp 15)⟩, 6, 0, 0⟩, ⟨⟨some 2, none, .mov (.tmp 16)⟩, 7, 0, 0⟩, ⟨⟨some 3, none, .mov (.const (.int .i64 0))⟩, 8, 0, 0⟩])
  .ret)))
def X8 : FnS := .code ⟨17, 0, .skip, [.tmp 2, .tmp 3]⟩ S8
theorem x8 : okX Go.Proofs.Tryz.prog 8 X8 := ⟨C8, c8, rfl, rfl, rfl, by kernel_rfl⟩
def S9 : SCode := (.seq (.ops (.vd 4 (o_mov (.const (.nilPtr))) (.vd 5 (o_mov (.const (.int .i64 0))) .nil)))
  (.seq (.seq (.ops (.vd 6 (o_mov (.tmp 0)) (.vd 7 (o_bin .lss (.tmp 6) (.const (.int .i64 1))) (.vd 8 (o_mov (.tmp 7)) (.vg 9 8 false (o_mov (.tmp 0)) (.vg 10 8 false (o_bin .gtr (.tmp 9) (.const (.int .i64 4096))) (.vd 11 (o_pick (.tmp 8) (.const (.bool true)) (.tmp 10)) (.vd 12 (o_mov (.tmp 11)) (.vg 13 12 false (o_buildSlice 1 [.int .i64 0, .int .i64 0, .int .i64 0, .int .i64 0] 4 [(0, 1, (.const (.int .i64 1))), (1, 1, (.const (.int .i64 2))), (2, 1, (.const (.int .i64 4))), (3, 1, (.const (.int .i64 8)))]) (.vg 14 12 false (o_mov (.tmp 1)) (.c (some 15) (some (12, false)) (fun F => c_call F 28 [(.tmp 13), (.tmp 14)]) (.vg 16 12 false (o_not (.tmp 15)) (.vd 17 (o_pick (.tmp 12) (.const (.bool true)) (.tmp 16)) .nil)))))))))))))
  (.cond (.tmp 17)
   (.seq (.ops (.vd 4 (o_mov (.const (.nilPtr))) (.vd 5 (o_mov (.const (.int .i64 1))) .nil)))
   .ret)
   .skip))
  (.seq (.ops (.vd 18 (o_mov (.tmp 0)) (.vd 19 (o_mov (.tmp 1)) (.vd 20 (o_mov (.tmp 0)) (.vd 21 (o_mov (.tmp 1)) (.vd 22 (o_bin .mul (.tmp 20) (.tmp 21)) (.vd 23 (o_bin .add (.tmp 22) (.const (.int .i64 64))) (.vd 24 (o_bin .sub (.tmp 23) (.const (.int .i64 1))) (.vd 25 (o_bin .quo (.tmp 24) (.const (.int .i64 64))) (.vd 26 (o_makeSlice 1 [.int .u64 0] (.tmp 25) (.tmp 25)) (.vd 27 (o_build [.int .i64 0, .int .i64 0, .nilSlice] [(0, 1, (.tmp 18)), (1, 1, (.tmp 19)), (2, 1, (.tmp 26))]) (.vd 28 (o_box (.tmp 27)) (.vd 4 (o_mov (.tmp 28)) (.vd 5 (o_mov (.const (.int .i64 0))) .nil))))))))))))))
  .ret)))
def X9 : FnS := .code ⟨29, 0, .skip, [.tmp 4, .tmp 5]⟩ S9
theorem x9 : okX Go.Proofs.Tryz.prog 9 X9 := ⟨C9, c9, rfl, rfl, rfl, by kernel_rfl⟩
def S10 : SCode := (.seq (.ops (.vd 4 (o_new [.int .i64 0, .int .i64 0, .int .i64 0, .int .i64 0, .int .i64 0, .int .i64 0, .int .i64 0, .int .i64 0]) (.vd 5 (o_mov (.const (.nilSlice))) (.vd 6 (o_mov (.const (.int .i64 0))) .nil))))
  (.seq (.ops (.vd 7 (o_mov (.tmp 0)) (.vd 8 (o_mov (.tmp 1)) (.cd 9 (fun F => c_call F 29 [(.tmp 7), (.tmp 8), (.const (.int .i64 0)), (.const (.int .i64 7))]) (.vd 10 (o_extract (.tmp 9) 0) (.vd 11 (o_extract (.tmp 9) 1) (.vd 12 (o_extract (.tmp 9) 2) (.v none none (o_store 8 (.tmp 4) (.tmp 10)) (.vd 5 (o_mov (.tmp 11)) (.vd 6 (o_mov (.tmp 12)) .nil))))))))))
  .ret))
def X10 : FnS := .code ⟨13, 0, .skip, [.cell 4 true 8, .tmp 5, .tmp 6]⟩ S10
theorem x10 : okX Go.Proofs.Tryz.prog 10 X10 := ⟨C10, c10, rfl, rfl, rfl, by kernel_rfl⟩
def S11 : SCode := (.seq (.ops (.vd 6 (o_new [.int .i64 0, .int .i64 0, .int .i64 0, .int .i64 0, .int .i64 0, .int .i64 0, .int .i64 0, .int .i64 0]) (.vd 7 (o_mov (.const (.nilSlice))) (.vd 8 (o_mov (.const (.int .i64 0))) .nil))))
  (.seq (.seq (.ops (.vd 9 (o_mov (.tmp 2)) (.vd 10 (o_bin .lss (.tmp 9) (.const (.int .i64 0))) (.vd 11 (o_mov (.tmp 10)) (.vg 12 11 false (o_mov (.tmp 2)) (.vg 13 11 false (o_bin .geq (.tmp 12) (.const (.int .i64 8))) (.vd 14 (o_pick (.tmp 11) (.const (.bool true)) (.tmp 13)) .nil)))))))
  (.cond (.tmp 14)
   (.seq (.ops (.vd 15 (o_build [.int .i64 0, .int .i64 0, .int .i64 0, .int .i64 0, .int .i64 0, .int .i64 0, .int .i64 0, .int .i64 0] []) (.v none none (o_store 8 (.tmp 6) (.tmp 15)) (.vd 7 (o_mov (.const (.nilSlice))) (.vd 8 (o_mov (.const (.int .i64 1))) .nil)))))
   .ret)
   .skip))
  (.seq (.ops (.vd 16 (o_mov (.tmp 0)) (.vd 17 (o_mov (.tmp 1)) (.vd 18 (o_mov (.tmp 2)) (.vd 19 (o_mov (.tmp 2)) (.cd 20 (fun F => c_call F 29 [(.tmp 16), (.tmp 17), (.tmp 18), (.tmp 19)]) (.vd 21 (o_extract (.tmp 20) 0) (.vd 22 (o_extract (.tmp 20) 1) (.vd 23 (o_extract (.tmp 20) 2) (.v none none (o_store 8 (.tmp 6) (.tmp 21)) (.vd 7 (o_mov (.tmp 22)) (.vd 8 (o_mov (.tmp 23)) .nil))))))))))))
  .ret)))
def X11 : FnS := .code ⟨24, 0, .skip, [.cell 6 true 8, .tmp 7, .tmp 8]⟩ S11
theorem x11 : okX Go.Proofs.Tryz.prog 11 X11 := ⟨C11, c11, rfl, rfl, rfl, by kernel_rfl⟩
def S12 : SCode := (.seq (.ops (.vd 4 (o_mov (.const (.nilSlice))) (.vd 5 (o_mov (.const (.int .i64 0))) .nil)))
  (.seq (.seq (.ops (.vd 6 (o_mov (.tmp 0)) (.cd 7 (fun F => c_call F 30 [(.tmp 6)]) (.vd 8 (o_bin .eql (.tmp 7) (.const (.int .i64 0))) (.vd 9 (o_mov (.tmp 8)) (.vg 10 9 false (o_mov (.tmp 1)) (.c (some 11) (some (9, false)) (fun F => c_call F 31 [(.tmp 10)]) (.vg 12 9 false (o_bin .neq (.tmp 11) (.const (.int .i64 1))) (.vd 13 (o_pick (.tmp 9) (.const (.bool true)) (.tmp 12)) (.vd 14 (o_mov (.tmp 13)) (.vg 15 14 false (o_mov (.tmp 1)) (.c (some 16) (some (14, false)) (fun F => c_call F 32 [(.tmp 15)]) (.vg 17 14 false (o_mov (.tmp 0)) (.c (some 18) (some (14, false)) (fun F => c_call F 30 [(.tmp 17)]) (.vg 19 14 false (o_bin .mul (.tmp 18) (.const (.int .i64 64))) (.vg 20 14 false (o_bin .quo (.tmp 19) (.const (.int .i64 2))) (.vg 21 14 false (o_bin .neq (.tmp 16) (.tmp 20)) (.vd 22 (o_pick (.tmp 14) (.const (.bool true)) (.tmp 21)) .nil))))))))))))))))))
  (.cond (.tmp 22)
   (.seq (.ops (.vd 4 (o_mov (.const (.nilSlice))) (.vd 5 (o_mov (.const (.int .i64 1))) .nil)))
   .ret)
   .skip))
  (.seq (.ops (.vd 23 (o_mov (.tmp 0)) (.vd 24 (o_mov (.tmp 1)) (.cd 25 (fun F => c_call F 33 [(.tmp 23), (.tmp 24), (.const (.int .i64 0)), (.const (.int .i64 7))]) (.vd 4 (o_mov (.tmp 25)) (.vd 5 (o_mov (.const (.int .i64 0))) .nil))))))
  .ret)))
def X12 : FnS := .code ⟨26, 0, .skip, [.tmp 4, .tmp 5]⟩ S12
theorem x12 : okX Go.Proofs.Tryz.prog 12 X12 := ⟨C12, c12, rfl, rfl, rfl, by kernel_rfl⟩
def S13_1 : SCode := .seq (.ops (.vd 50 (o_bin .lss (.tmp 49) (.tmp 48)) .nil))
          (.seq (.cond (.tmp 50)
           .skip
           (.exit 6))
          (.seq (.block 7 (.seq (.ops (.vd 51 (o_index 2 (.tmp 47) (.tmp 49)) (.vd 52 (o_load true 2 (.tmp 51)) (.vd 14 (o_new [.int .i64 0, .int .i64 0]) (.v none none (o_store 2 (.tmp 14) (.tmp 52)) .nil)))))
           (.seq (.ops (.vd 53 (o_field 0 (.tmp 14)) (.vd 54 (o_load false 1 (.tmp 53)) (.vd 55 (o_mov (.tmp 6)) (.vd 56 (o_bin .lss (.tmp 54) (.tmp 55)) .nil)))))
           (.cond (.tmp 56)
            (.ops (.vd 57 (o_mov (.tmp 4)) (.vd 58 (o_field 1 (.tmp 14)) (.vd 59 (o_load false 1 (.tmp 58)) (.vd 60 (o_bin .add (.tmp 57) (.tmp 59)) (.vd 4 (o_mov (.tmp 60)) .nil))))))
            .skip))))
          (.ops (.vd 61 (o_bin .add (.tmp 49) (.const (.int .i64 1))) (.vd 49 (o_mov (.tmp 61)) .nil)))))
def S13_2 : SCode := .seq (.ops (.vd 42 (o_bin .lss (.tmp 41) (.tmp 40)) .nil))
       (.seq (.cond (.tmp 42)
        .skip
        (.exit 4))
       (.seq (.block 5 (.seq (.ops (.vd 43 (o_index 1 (.tmp 39) (.tmp 41)) (.vd 44 (o_load false 1 (.tmp 43)) (.vd 12 (o_mov (.tmp 44)) .nil))))
        (.seq (.ops (.vd 45 (o_mov (.tmp 0)) (.vd 46 (o_mov (.tmp 12)) (.cd 47 (fun F => c_call F 37 [(.tmp 45), (.tmp 46)]) (.vd 48 (o_len (.tmp 47)) (.vd 49 (o_mov (.const (.int .i64 0))) .nil))))))
        (.block 6 (.loop S13_1)))))
       (.ops (.vd 62 (o_bin .add (.tmp 41) (.const (.int .i64 1))) (.vd 41 (o_mov (.tmp 62)) .nil)))))
def S13_3 : SCode := .seq (.ops (.vd 27 (o_bin .lss (.tmp 26) (.tmp 25)) .nil))
       (.seq (.cond (.tmp 27)
        .skip
        (.exit 2))
       (.seq (.block 3 (.seq (.ops (.vd 28 (o_index 1 (.tmp 24) (.tmp 26)) (.vd 29 (o_load false 1 (.tmp 28)) (.vd 9 (o_mov (.tmp 29)) .nil))))
        (.seq (.ops (.vd 30 (o_mov (.tmp 0)) (.vd 31 (o_mov (.tmp 9)) (.cd 32 (fun F => c_call F 35 [(.tmp 30), (.tmp 31)]) (.vd 10 (o_mov (.tmp 32)) .nil)))))
        (.seq (.ops (.vd 33 (o_mov (.tmp 10)) (.vd 34 (o_len (.tmp 33)) (.vd 35 (o_bin .gtr (.tmp 34) (.const (.int .i64 0))) .nil))))
        (.cond (.tmp 35)
         (.ops (.vd 36 (o_mov (.tmp 10)) (.cd 37 (fun F => c_call F 36 [(.tmp 36)]) (.vd 6 (o_mov (.tmp 37)) .nil))))
         .skip)))))
       (.ops (.vd 38 (o_bin .add (.tmp 26) (.const (.int .i64 1))) (.vd 26 (o_mov (.tmp 38)) .nil)))))
def S13_4 : SCode := .seq (.ops (.vd 19 (o_bin .lss (.tmp 18) (.const (.int .i64 8))) .nil))
    (.seq (.cond (.tmp 19)
     .skip
     (.exit 0))
    (.seq (.block 1 (.seq (.ops (.vd 20 (o_mov (.tmp 18)) (.vd 5 (o_mov (.tmp 20)) .nil)))
     (.seq (.ops (.vd 6 (o_mov (.const (.int .i64 (-1)))) .nil))
     (.seq (.ops (.vd 21 (o_mov (.tmp 0)) (.vd 22 (o_mov (.tmp 5)) (.cd 23 (fun F => c_call F 34 [(.tmp 21), (.tmp 22)]) (.vd 7 (o_mov (.tmp 23)) .nil)))))
     (.seq (.seq (.ops (.vd 24 (o_mov (.tmp 7)) (.vd 25 (o_len (.tmp 24)) (.vd 26 (o_mov (.const (.int .i64 0))) .nil))))
     (.block 2 (.loop S13_3)))
     (.seq (.ops (.vd 39 (o_mov (.tmp 7)) (.vd 40 (o_len (.tmp 39)) (.vd 41 (o_mov (.const (.int .i64 0))) .nil))))
     (.block 4 (.loop S13_2))))))))
    (.ops (.vd 63 (o_bin .add (.tmp 18) (.const (.int .i64 1))) (.vd 18 (o_mov (.tmp 63)) .nil)))))
def S13 : SCode := (.seq (.ops (.vd 2 (o_mov (.const (.int .i64 0))) (.vd 3 (o_mov (.const (.int .i64 0))) .nil)))
  (.seq (.seq (.ops (.vd 15 (o_mov (.tmp 0)) (.cd 16 (fun F => c_call F 30 [(.tmp 15)]) (.vd 17 (o_bin .eql (.tmp 16) (.const (.int .i64 0))) .nil))))
  (.cond (.tmp 17)
   (.seq (.ops (.vd 2 (o_mov (.const (.int .i64 0))) (.vd 3 (o_mov (.const (.int .i64 1))) .nil)))
   .ret)
   .skip))
  (.seq (.ops (.vd 4 (o_mov (.const (.int .i64 0))) .nil))
  (.seq (.seq (.ops (.vd 18 (o_mov (.const (.int .i64 0))) .nil))
  (.block 0 (.loop S13_4)))
  (.seq (.ops (.vd 64 (o_mov (.tmp 4)) (.vd 2 (o_mov (.tmp 64)) (.vd 3 (o_mov (.const (.int .i64 0))) .nil))))
  .ret)))))
def X13 : FnS := .code ⟨65, 0, .skip, [.tmp 2, .tmp 3]⟩ S13
theorem x13 : okX Go.Proofs.Tryz.prog 13 X13 := ⟨C13, c13, rfl, rfl, rfl, by kernel_rfl⟩
def S14 : SCode := (.seq (.ops (.vd 0 (o_mov (.const (.bool false))) .nil))
  (.seq (.ops (.cd 11 (fun F => c_call F 7 [(.const (.int .i64 3))]) (.vd 10 (o_mov (.tmp 11)) (.vd 12 (o_extract (.tmp 10) 0) (.vd 13 (o_extract (.tmp 10) 1) (.vd 1 (o_mov (.tmp 12)) (.vd 2 (o_mov (.tmp 13)) .nil)))))))
  (.seq (.ops (.cd 15 (fun F => c_call F 8 [(.const (.int .i64 1))]) (.vd 14 (o_mov (.tmp 15)) (.vd 16 (o_extract (.tmp 14) 0) (.vd 17 (o_extract (.tmp 14) 1) (.vd 3 (o_mov (.tmp 16)) (.vd 4 (o_mov (.tmp 17)) .nil)))))))
  (.seq (.ops (.vd 18 (o_mov (.tmp 1)) (.cd 19 (fun F => c_call F 38 [(.tmp 18), (.const (.int .i64 1)), (.const (.int .i64 0))]) .nil)))
  (.seq (.ops (.vd 20 (o_mov (.tmp 1)) (.vd 21 (o_build [.int .i64 0, .int .i64 0, .int .i64 0] [(1, 1, (.const (.int .i64 4)))]) (.cd 22 (fun F => c_call F 39 [(.tmp 20), (.const (.int .i64 64)), (.tmp 21)]) .nil))))
  (.seq (.ops (.vd 23 (o_mov (.tmp 1)) (.vd 24 (o_build [.int .i64 0, .int .i64 0, .int .i64 0] [(1, 1, (.const (.int .i64 2)))]) (.cd 25 (fun F => c_call F 39 [(.tmp 23), (.const (.int .i64 70)), (.tmp 24)]) .nil))))
  (.seq (.ops (.vd 26 (o_mov (.tmp 1)) (.vd 27 (o_build [.int .i64 0, .int .i64 0, .int .i64 0] [(1, 1, (.const (.int .i64 4)))]) (.cd 28 (fun F => c_call F 39 [(.tmp 26), (.const (.int .i64 80)), (.tmp 27)]) .nil))))
  (.seq (.ops (.vd 29 (o_mov (.tmp 1)) (.vd 30 (o_build [.int .i64 0, .int .i64 0, .int .i64 0] [(1, 1, (.const (.int .i64 18)))]) (.cd 31 (fun F => c_call F 39 [(.tmp 29), (.const (.int .i64 100)), (.tmp 30)]) .nil))))
  (.seq (.ops (.vd 32 (o_mov (.tmp 1)) (.cd 33 (fun F => c_call F 40 [(.tmp 32), (.const (.int .i64 80))]) .nil)))
  (.seq (.ops (.vd 34 (o_mov (.tmp 3)) (.vd 35 (o_build [.int .i64 0, .int .i64 0, .int .i64 0] []) (.cd 36 (fun F => c_call F 41 [(.tmp 34), (.tmp 35), (.const (.int .i64 70))]) .nil))))
  (.seq (.ops (.vd 37 (o_mov (.tmp 3)) (.vd 38 (o_build [.int .i64 0, .int .i64 0, .int .i64 0] [(2, 1, (.const (.int .i64 1)))]) (.cd 39 (fun F => c_call F 41 [(.tmp 37), (.tmp 38), (.const (.int .i64 80))]) .nil))))
  (.seq (.ops (.vd 40 (o_mov (.tmp 3)) (.vd 41 (o_build [.int .i64 0, .int .i64 0, .int .i64 0] [(2, 1, (.const (.int .i64 2)))]) (.cd 42 (fun F => c_call F 41 [(.tmp 40), (.tmp 41), (.const (.int .i64 100))]) .nil))))
  (.seq (.ops (.vd 44 (o_mov (.tmp 1)) (.vd 45 (o_mov (.tmp 3)) (.cd 46 (fun F => c_call F 10 [(.tmp 44), (.tmp 45)]) (.vd 43 (o_mov (.tmp 46)) (.vd 47 (o_extract (.tmp 43) 0) (.vd 48 (o_extract (.tmp 43) 1) (.vd 49 (o_extract (.tmp 43) 2) (.vd 5 (o_new [.int .i64 0, .int .i64 0, .int .i64 0, .int .i64 0, .int .i64 0, .int .i64 0, .int .i64 0, .int .i64 0]) (.v none none (o_store 8 (.tmp 5) (.tmp 47)) (.vd 6 (o_mov (.tmp 48)) (.vd 7 (o_mov (.tmp 49)) .nil))))))))))))
  (.seq (.ops (.vd 51 (o_mov (.tmp 3)) (.vd 52 (o_build [.int .i64 0, .int .i64 0, .int .i64 0] []) (.cd 53 (fun F => c_call F 42 [(.tmp 51), (.tmp 52)]) (.vd 50 (o_mov (.tmp 53)) (.vd 54 (o_extract (.tmp 50) 0) (.vd 55 (o_extract (.tmp 50) 1) (.vd 8 (o_mov (.tmp 54)) (.vd 9 (o_mov (.tmp 55)) .nil)))))))))
  (.seq (.ops (.vd 56 (o_mov (.tmp 7)) (.vd 57 (o_bin .eql (.tmp 56) (.const (.int .i64 0))) (.vd 58 (o_mov (.tmp 57)) (.vg 59 58 true (o_field 2 (.tmp 5)) (.vg 60 58 true (o_load false 1 (.tmp 59)) (.vg 61 58 true (o_bin .eql (.tmp 60) (.const (.int .i64 1))) (.vd 62 (o_pick (.tmp 58) (.tmp 61) (.const (.bool false))) (.vd 63 (o_mov (.tmp 62)) (.vg 64 63 true (o_mov (.tmp 6)) (.vg 65 63 true (o_build [.int .i64 0, .int .i64 0] [(0, 1, (.const (.int .i64 70))), (1, 1, (.const (.int .i64 64)))]) (.vg 66 63 true (o_build [.int .i64 0, .int .i64 0] [(0, 1, (.const (.int .i64 100))), (1, 1, (.const (.int .i64 86)))]) (.vg 67 63 true (o_buildSlice 2 [.int .i64 0, .int .i64 0, .int .i64 0, .int .i64 0] 2 [(0, 2, (.tmp 65)), (2, 2, (.tmp 66))]) (.c (some 68) (some (63, true)) (fun F => c_call F 43 [(.tmp 64), (.tmp 67)]) (.vd 69 (o_pick (.tmp 63) (.tmp 68) (.const (.bool false))) (.vd 70 (o_mov (.tmp 69)) (.vg 71 70 true (o_mov (.tmp 8)) (.vg 72 70 true (o_bin .eql (.tmp 71) (.const (.int .i64 64))) (.vd 73 (o_pick (.tmp 70) (.tmp 72) (.const (.bool false))) (.vd 74 (o_mov (.tmp 73)) (.vg 75 74 true (o_mov (.tmp 1)) (.c (some 76) (some (74, true)) (fun F => c_call F 44 [(.tmp 75), (.const (.int .i64 80))]) (.vd 77 (o_pick (.tmp 74) (.tmp 76) (.const (.bool false))) (.vd 0 (o_mov (.tmp 77)) .nil))))))))))))))))))))))))
  .ret)))))))))))))))
def X14 : FnS := .code ⟨78, 0, .skip, [.tmp 0]⟩ S14
theorem x14 : okX Go.Proofs.Tryz.prog 14 X14 := ⟨C14, c14, rfl, rfl, rfl, by kernel_rfl⟩
def S28 : SCode := (.seq (.ops (.vd 4 (o_mov (.const (.bool false))) .nil))
  (.seq (.ops (.vd 5 (o_mov (.tmp 0)) (.vd 6 (o_mov (.tmp 1)) (.cd 7 (fun F => c_call F 80 [(.tmp 5), (.tmp 6)]) (.vd 8 (o_bin .geq (.tmp 7) (.const (.int .i64 0))) (.vd 4 (o_mov (.tmp 8)) .nil))))))
  .ret))
def X28 : FnS := .code ⟨9, 0, .skip, [.tmp 4]⟩ S28
theorem x28 : okX Go.Proofs.Tryz.prog 28 X28 := ⟨C28, c28, rfl, rfl, rfl, by kernel_rfl⟩
def S29_1 : SCode := .seq (.ops (.vd 55 (o_bin .lss (.tmp 54) (.tmp 53)) .nil))
    (.seq (.cond (.tmp 55)
     .skip
     (.exit 0))
    (.seq (.block 1 (.seq (.ops (.vd 56 (o_index 2 (.tmp 52) (.tmp 54)) (.vd 57 (o_load true 2 (.tmp 56)) (.vd 17 (o_new [.int .i64 0, .int .i64 0]) (.v none none (o_store 2 (.tmp 17) (.tmp 57)) .nil)))))
     (.ops (.vd 58 (o_load false 1 (.tmp 4)) (.vd 59 (o_field 0 (.tmp 17)) (.vd 60 (o_load false 1 (.tmp 59)) (.vd 61 (o_field 1 (.tmp 17)) (.vd 62 (o_load false 1 (.tmp 61)) (.cd 63 (fun F => c_call F 82 [(.tmp 58), (.tmp 60), (.tmp 62)]) .nil)))))))))
    (.ops (.vd 64 (o_bin .add (.tmp 54) (.const (.int .i64 1))) (.vd 54 (o_mov (.tmp 64)) .nil)))))
def S29 : SCode := (.seq (.ops (.vd 4 (o_box (.tmp 0)) (.vd 8 (o_new [.int .i64 0, .int .i64 0, .int .i64 0, .int .i64 0, .int .i64 0, .int .i64 0, .int .i64 0, .int .i64 0]) (.vd 9 (o_mov (.const (.nilSlice))) (.vd 10 (o_mov (.const (.int .i64 0))) .nil)))))
  (.seq (.ops (.vd 19 (o_load false 1 (.tmp 4)) (.vd 20 (o_mov (.tmp 1)) (.cd 21 (fun F => c_call F 68 [(.tmp 19), (.tmp 20), (.const (.int .i64 0)), (.const (.int .i64 4096))]) (.vd 18 (o_mov (.tmp 21)) (.vd 22 (o_extract (.tmp 18) 0) (.vd 23 (o_extract (.tmp 18) 1) (.vd 24 (o_extract (.tmp 18) 2) (.vd 11 (o_new [.nilPtr]) (.vd 12 (o_new [.int .i64 0, .int .i64 0, .int .i64 0, .int .i64 0, .int .i64 0]) (.v none none (o_store 1 (.tmp 11) (.tmp 22)) (.v none none (o_store 5 (.tmp 12) (.tmp 23)) (.vd 13 (o_mov (.tmp 24)) .nil)))))))))))))
  (.seq (.seq (.ops (.vd 25 (o_mov (.tmp 13)) (.vd 26 (o_bin .neq (.tmp 25) (.const (.int .i64 0))) .nil)))
  (.cond (.tmp 26)
   (.seq (.ops (.vd 27 (o_build [.int .i64 0, .int .i64 0, .int .i64 0, .int .i64 0, .int .i64 0, .int .i64 0, .int .i64 0, .int .i64 0] []) (.vd 28 (o_mov (.tmp 13)) (.v none none (o_store 8 (.tmp 8) (.tmp 27)) (.vd 9 (o_mov (.const (.nilSlice))) (.vd 10 (o_mov (.tmp 28)) .nil))))))
   .ret)
   .skip))
  (.seq (.seq (.ops (.vd 29 (o_load false 1 (.tmp 4)) (.vd 30 (o_mov (.tmp 1)) (.cd 31 (fun F => c_call F 69 [(.tmp 29), (.tmp 30)]) (.vd 32 (o_not (.tmp 31)) .nil)))))
  (.cond (.tmp 32)
   (.seq (.ops (.vd 33 (o_build [.int .i64 0, .int .i64 0, .int .i64 0, .int .i64 0, .int .i64 0, .int .i64 0, .int .i64 0, .int .i64 0] []) (.v none none (o_store 8 (.tmp 8) (.tmp 33)) (.vd 9 (o_mov (.const (.nilSlice))) (.vd 10 (o_mov (.const (.int .i64 5))) .nil)))))
   .ret)
   .skip))
  (.seq (.ops (.vd 34 (o_field 0 (.tmp 12)) (.vd 35 (o_load false 1 (.tmp 34)) (.vd 36 (o_build [.int .i64 0, .int .i64 0, .int .i64 0, .int .i64 0, .int .i64 0, .int .i64 0, .int .i64 0, .int .i64 0] [(6, 1, (.tmp 35))]) (.vd 14 (o_new [.int .i64 0, .int .i64 0, .int .i64 0, .int .i64 0, .int .i64 0, .int .i64 0, .int .i64 0, .int .i64 0]) (.v none none (o_store 8 (.tmp 14) (.tmp 36)) .nil))))))
  (.seq (.ops (.vd 38 (o_load false 1 (.tmp 4)) (.vd 39 (o_load false 1 (.tmp 11)) (.cd 40 (fun F => c_call F 70 [(.tmp 38), (.tmp 39)]) (.vd 37 (o_mov (.tmp 40)) (.vd 41 (o_extract (.tmp 37) 0) (.vd 42 (o_extract (.tmp 37) 1) (.vd 43 (o_field 7 (.tmp 14)) (.v none none (o_store 1 (.tmp 43) (.tmp 41)) .nil)))))))))
  (.seq (.ops (.vd 44 (o_load false 1 (.tmp 4)) (.vd 45 (o_load false 1 (.tmp 11)) (.vd 46 (o_mov (.tmp 2)) (.vd 47 (o_mov (.tmp 3)) (.cd 48 (fun F => c_call F 33 [(.tmp 44), (.tmp 45), (.tmp 46), (.tmp 47)]) (.vd 15 (o_mov (.tmp 48)) .nil)))))))
  (.seq (.ops (.vd 49 (o_load false 1 (.tmp 4)) (.vd 50 (o_mkfunc 81 [(.tmp 4), (.tmp 11)]) (.cd 51 (fun F => c_call F 50 [(.tmp 49), (.tmp 50), (.tmp 14)]) .nil))))
  (.seq (.seq (.ops (.vd 52 (o_mov (.tmp 15)) (.vd 53 (o_len (.tmp 52)) (.vd 54 (o_mov (.const (.int .i64 0))) .nil))))
  (.block 0 (.loop S29_1)))
  (.seq (.ops (.vd 65 (o_load false 1 (.tmp 4)) (.vd 66 (o_mov (.tmp 1)) (.vd 67 (o_mov (.tmp 15)) (.cd 68 (fun F => c_call F 53 [(.tmp 65), (.tmp 66), (.tmp 67)]) .nil)))))
  (.seq (.ops (.vd 69 (o_load false 1 (.tmp 4)) (.cd 70 (fun F => c_call F 54 [(.tmp 69)]) .nil)))
  (.seq (.ops (.vd 71 (o_load false 1 (.tmp 4)) (.vd 72 (o_mov (.tmp 15)) (.cd 73 (fun F => c_call F 55 [(.tmp 71), (.tmp 72), (.tmp 14)]) .nil))))
  (.seq (.ops (.vd 74 (o_load true 8 (.tmp 14)) (.vd 75 (o_mov (.tmp 15)) (.v none none (o_store 8 (.tmp 8) (.tmp 74)) (.vd 9 (o_mov (.tmp 75)) (.vd 10 (o_mov (.const (.int .i64 0))) .nil))))))
  .ret)))))))))))))
def X29 : FnS := .code ⟨76, 0, .skip, [.cell 8 true 8, .tmp 9, .tmp 10]⟩ S29
theorem x29 : okX Go.Proofs.Tryz.prog 29 X29 := ⟨C29, c29, rfl, rfl, rfl, by kernel_rfl⟩
def S30 : SCode := (.seq (.ops (.vd 2 (o_mov (.const (.int .i64 0))) .nil))
  (.seq (.seq (.ops (.vd 3 (o_mov (.tmp 0)) (.cd 4 (fun F => c_call F 83 [(.tmp 3)]) (.vd 5 (o_not (.tmp 4)) .nil))))
  (.cond (.tmp 5)
   (.seq (.ops (.vd 2 (o_mov (.const (.int .i64 0))) .nil))
   .ret)
   .skip))
  (.seq (.ops (.vd 6 (o_mov (.tmp 0)) (.vd 7 (o_nilCheck (.tmp 6)) (.vd 8 (o_field 0 (.tmp 7)) (.vd 9 (o_load false 1 (.tmp 8)) (.vd 10 (o_len (.tmp 9)) (.vd 2 (o_mov (.tmp 10)) .nil)))))))
  .ret)))
def X30 : FnS := .code ⟨11, 0, .skip, [.tmp 2]⟩ S30
theorem x30 : okX Go.Proofs.Tryz.prog 30 X30 := ⟨C30, c30, rfl, rfl, rfl, by kernel_rfl⟩
def S31 : SCode := (.seq (.ops (.vd 2 (o_mov (.const (.int .i64 0))) .nil))
  (.seq (.seq (.ops (.vd 3 (o_mov (.tmp 0)) (.cd 4 (fun F => c_call F 84 [(.tmp 3)]) (.vd 5 (o_not (.tmp 4)) .nil))))
  (.cond (.tmp 5)
   (.seq (.ops (.vd 2 (o_mov (.const (.int .i64 0))) .nil))
   .ret)
   .skip))
  (.seq (.ops (.vd 6 (o_mov (.tmp 0)) (.vd 7 (o_nilCheck (.tmp 6)) (.vd 8 (o_field 1 (.tmp 7)) (.vd 9 (o_load false 1 (.tmp 8)) (.vd 2 (o_mov (.tmp 9)) .nil))))))
  .ret)))
def X31 : FnS := .code ⟨10, 0, .skip, [.tmp 2]⟩ S31
theorem x31 : okX Go.Proofs.Tryz.prog 31 X31 := ⟨C31, c31, rfl, rfl, rfl, by kernel_rfl⟩
def S32 : SCode := (.seq (.ops (.vd 2 (o_mov (.const (.int .i64 0))) .nil))
  (.seq (.seq (.ops (.vd 3 (o_mov (.tmp 0)) (.cd 4 (fun F => c_call F 84 [(.tmp 3)]) (.vd 5 (o_not (.tmp 4)) .nil))))
  (.cond (.tmp 5)
   (.seq (.ops (.vd 2 (o_mov (.const (.int .i64 0))) .nil))
   .ret)
   .skip))
  (.seq (.ops (.vd 6 (o_mov (.tmp 0)) (.vd 7 (o_nilCheck (.tmp 6)) (.vd 8 (o_field 0 (.tmp 7)) (.vd 9 (o_load false 1 (.tmp 8)) (.vd 2 (o_mov (.tmp 9)) .nil))))))
  .ret)))
def X32 : FnS := .code ⟨10, 0, .skip, [.tmp 2]⟩ S32
theorem x32 : okX Go.Proofs.Tryz.prog 32 X32 := ⟨C32, c32, rfl, rfl, rfl, by kernel_rfl⟩
def S33_1 : SCode := .seq (.seq (.ops (.vd 12 (o_mov (.tmp 10)) (.vd 13 (o_mov (.tmp 3)) (.vd 14 (o_bin .leq (.tmp 12) (.tmp 13)) .nil))))
    (.cond (.tmp 14)
     .skip
     (.exit 0)))
    (.seq (.block 1 (.ops (.vd 17 (o_mov (.tmp 9)) (.vd 18 (o_mov (.tmp 0)) (.vd 19 (o_mov (.tmp 1)) (.vd 20 (o_mov (.tmp 10)) (.cd 21 (fun F => c_call F 85 [(.tmp 18), (.tmp 19), (.tmp 20)]) (.vd 22 (o_append 2 (.tmp 17) (.tmp 21)) (.vd 9 (o_mov (.tmp 22)) .nil)))))))))
    (.ops (.vd 15 (o_mov (.tmp 10)) (.vd 16 (o_bin .add (.tmp 15) (.const (.int .i64 1))) (.vd 10 (o_mov (.tmp 16)) .nil)))))
def S33 : SCode := (.seq (.ops (.vd 8 (o_mov (.const (.nilSlice))) .nil))
  (.seq (.ops (.vd 9 (o_mov (.const (.nilSlice))) .nil))
  (.seq (.seq (.ops (.vd 11 (o_mov (.tmp 2)) (.vd 10 (o_mov (.tmp 11)) .nil)))
  (.block 0 (.loop S33_1)))
  (.seq (.ops (.vd 23 (o_mov (.tmp 9)) (.vd 8 (o_mov (.tmp 23)) .nil)))
  .ret))))
def X33 : FnS := .code ⟨24, 0, .skip, [.tmp 8]⟩ S33
theorem x33 : okX Go.Proofs.Tryz.prog 33 X33 := ⟨C33, c33, rfl, rfl, rfl, by kernel_rfl⟩
def S34_1 : SCode := .seq (.ops (.vd 10 (o_bin .lss (.tmp 9) (.tmp 8)) .nil))
    (.seq (.cond (.tmp 10)
     .skip
     (.exit 0))
    (.seq (.block 1 (.seq (.ops (.vd 11 (o_mov (.tmp 9)) (.vd 6 (o_mov (.tmp 11)) .nil)))
     (.seq (.ops (.vd 12 (o_mov (.tmp 0)) (.vd 13 (o_mov (.tmp 6)) (.cd 14 (fun F => c_call F 58 [(.tmp 12), (.tmp 13)]) (.vd 15 (o_bin .eql (.tmp 14) (.const (.int .i64 1))) (.vd 16 (o_mov (.tmp 15)) (.vg 17 16 true (o_mov (.tmp 0)) (.vg 18 16 true (o_mov (.tmp 6)) (.c (some 19) (some (16, true)) (fun F => c_call F 86 [(.tmp 17), (.tmp 18)]) (.vg 20 16 true (o_mov (.tmp 1)) (.vg 21 16 true (o_bin .eql (.tmp 19) (.tmp 20)) (.vd 22 (o_pick (.tmp 16) (.tmp 21) (.const (.bool false))) .nil))))))))))))
     (.cond (.tmp 22)
      (.ops (.vd 23 (o_mov (.tmp 5)) (.vd 24 (o_mov (.tmp 6)) (.vd 25 (o_buildSlice 1 [.int .i64 0] 1 [(0, 1, (.tmp 24))]) (.vd 26 (o_append 1 (.tmp 23) (.tmp 25)) (.vd 5 (o_mov (.tmp 26)) .nil))))))
      .skip))))
    (.ops (.vd 27 (o_bin .add (.tmp 9) (.const (.int .i64 1))) (.vd 9 (o_mov (.tmp 27)) .nil)))))
def S34 : SCode := (.seq (.ops (.vd 4 (o_mov (.const (.nilSlice))) .nil))
  (.seq (.ops (.vd 5 (o_mov (.const (.nilSlice))) .nil))
  (.seq (.seq (.ops (.vd 7 (o_mov (.tmp 0)) (.cd 8 (fun F => c_call F 30 [(.tmp 7)]) (.vd 9 (o_mov (.const (.int .i64 0))) .nil))))
  (.block 0 (.loop S34_1)))
  (.seq (.ops (.vd 28 (o_mov (.tmp 5)) (.vd 4 (o_mov (.tmp 28)) .nil)))
  .ret))))
def X34 : FnS := .code ⟨29, 0, .skip, [.tmp 4]⟩ S34
theorem x34 : okX Go.Proofs.Tryz.prog 34 X34 := ⟨C34, c34, rfl, rfl, rfl, by kernel_rfl⟩
def S35 : SCode := (.seq (.ops (.vd 4 (o_mov (.const (.nilSlice))) .nil))
  (.seq (.seq (.ops (.vd 5 (o_mov (.tmp 0)) (.cd 6 (fun F => c_call F 83 [(.tmp 5)]) (.vd 7 (o_not (.tmp 6)) (.vd 8 (o_mov (.tmp 7)) (.vg 9 8 false (o_mov (.tmp 1)) (.vg 10 8 false (o_bin .lss (.tmp 9) (.const (.int .i64 0))) (.vd 11 (o_pick (.tmp 8) (.const (.bool true)) (.tmp 10)) (.vd 12 (o_mov (.tmp 11)) (.vg 13 12 false (o_mov (.tmp 1)) (.vg 14 12 false (o_mov (.tmp 0)) (.vg 15 12 false (o_nilCheck (.tmp 14)) (.vg 16 12 false (o_field 0 (.tmp 15)) (.vg 17 12 false (o_load false 1 (.tmp 16)) (.vg 18 12 false (o_len (.tmp 17)) (.vg 19 12 false (o_bin .geq (.tmp 13) (.tmp 18)) (.vd 20 (o_pick (.tmp 12) (.const (.bool true)) (.tmp 19)) .nil)))))))))))))))))
  (.cond (.tmp 20)
   (.seq (.ops (.vd 4 (o_mov (.const (.nilSlice))) .nil))
   .ret)
   .skip))
  (.seq (.ops (.vd 21 (o_mov (.tmp 0)) (.vd 22 (o_mov (.tmp 1)) (.vd 23 (o_bin .mul (.tmp 22) (.const (.int .i64 64))) (.vd 24 (o_mov (.tmp 1)) (.vd 25 (o_bin .add (.tmp 24) (.const (.int .i64 1))) (.vd 26 (o_bin .mul (.tmp 25) (.const (.int .i64 64))) (.cd 27 (fun F => c_call F 87 [(.tmp 21), (.tmp 23), (.tmp 26)]) (.vd 4 (o_mov (.tmp 27)) .nil)))))))))
  .ret)))
def X35 : FnS := .code ⟨28, 0, .skip, [.tmp 4]⟩ S35
theorem x35 : okX Go.Proofs.Tryz.prog 35 X35 := ⟨C35, c35, rfl, rfl, rfl, by kernel_rfl⟩
def S38 : SCode := (.seq (.ops (.vd 6 (o_mov (.const (.int .i64 0))) .nil))
  (.seq (.ops (.vd 7 (o_mov (.tmp 0)) (.vd 8 (o_mov (.tmp 1)) (.vd 9 (o_mov (.tmp 2)) (.vd 10 (o_build [.int .i64 0, .int .i64 0] [(0, 1, (.const (.int .i64 1))), (1, 1, (.tmp 9))]) (.vd 11 (o_build [.int .i64 0, .int .i64 0] []) (.cd 12 (fun F => c_call F 91 [(.tmp 7), (.tmp 8), (.const (.int .i64 1)), (.tmp 10), (.tmp 11)]) (.vd 6 (o_mov (.tmp 12)) .nil))))))))
  .ret))
def X38 : FnS := .code ⟨13, 0, .skip, [.tmp 6]⟩ S38
theorem x38 : okX Go.Proofs.Tryz.prog 38 X38 := ⟨C38, c38, rfl, rfl, rfl, by kernel_rfl⟩
def S39 : SCode := (.seq (.ops (.vd 5 (o_box (.tmp 2)) (.vd 6 (o_mov (.const (.int .i64 0))) (.vd 7 (o_mov (.const (.int .i64 0))) .nil))))
  (.seq (.block 0 (.seq (.ops (.vd 10 (o_mov (.tmp 0)) (.cd 11 (fun F => c_call F 83 [(.tmp 10)]) (.vd 12 (o_not (.tmp 11)) (.vd 9 (o_mov (.tmp 12)) .nil)))))
   (.cond (.tmp 9)
    (.seq (.ops (.vd 6 (o_mov (.const (.int .i64 0))) (.vd 7 (o_mov (.const (.int .i64 5))) .nil)))
    .ret)
    (.seq (.ops (.vd 14 (o_load true 3 (.tmp 5)) (.cd 15 (fun F => c_call F 92 [(.tmp 14)]) (.vd 16 (o_not (.tmp 15)) (.vd 13 (o_mov (.tmp 16)) .nil)))))
    (.cond (.tmp 13)
     (.seq (.ops (.vd 6 (o_mov (.const (.int .i64 0))) (.vd 7 (o_mov (.const (.int .i64 2))) .nil)))
     .ret)
     .skip)))))
  (.seq (.seq (.ops (.vd 17 (o_mov (.tmp 0)) (.vd 18 (o_mov (.tmp 1)) (.vd 19 (o_load true 3 (.tmp 5)) (.cd 20 (fun F => c_call F 94 [(.tmp 19)]) (.cd 21 (fun F => c_call F 93 [(.tmp 17), (.tmp 18), (.tmp 20), (.const (.int .i64 (-1)))]) (.vd 8 (o_mov (.tmp 21)) .nil)))))))
  (.seq (.ops (.vd 22 (o_mov (.tmp 8)) (.vd 23 (o_bin .neq (.tmp 22) (.const (.int .i64 0))) .nil)))
  (.cond (.tmp 23)
   (.seq (.ops (.vd 24 (o_mov (.tmp 8)) (.vd 6 (o_mov (.const (.int .i64 0))) (.vd 7 (o_mov (.tmp 24)) .nil))))
   .ret)
   .skip)))
  (.seq (.ops (.vd 25 (o_mov (.tmp 0)) (.vd 26 (o_nilCheck (.tmp 25)) (.vd 27 (o_field 6 (.tmp 26)) (.vd 28 (o_load false 1 (.tmp 27)) (.vd 29 (o_bin .add (.tmp 28) (.const (.int .i64 1))) (.vd 30 (o_nilCheck (.tmp 25)) (.vd 31 (o_field 6 (.tmp 30)) (.v none none (o_store 1 (.tmp 31) (.tmp 29)) .nil)))))))))
  (.seq (.dregion [⟨⟨some 47, none, .load true 3 (.tmp 5)⟩, 15, 1, 0⟩, ⟨⟨some 48, none, .call 95 [(.tmp 47)]⟩, 16, 3, 0⟩, ⟨⟨some 32, none, .mov (.tmp 0)⟩, 0, 0, 0⟩, ⟨⟨some 33, none, .nilCheck (.tmp 32)⟩, 1, 0, 0⟩, ⟨⟨some 34, none, .field 1 (.tmp 33)⟩, 2, 0, 0⟩, ⟨⟨some 35, none, .load false 1 (.tmp 34)⟩, 3, 1, 0⟩, ⟨⟨some 36, none, .mov (.tmp 1)⟩, 4, 0, 0⟩, ⟨⟨some 37, none, .mov (.tmp 0)⟩, 5, 0, 0⟩, ⟨⟨some 38, none, .nilCheck (.tmp 37)⟩, 6, 0, 0⟩, ⟨⟨some 39, none, .field 1 (.tmp 38)⟩, 7, 0, 0⟩, ⟨⟨some 40, none, .load false 1 (.tmp 39)⟩, 8, 1, 0⟩, ⟨⟨some 43, none, .mov (.tmp 0)⟩, 11, 0, 0⟩, ⟨⟨some 44, none, .nilCheck (.tmp 43)⟩, 12, 0, 0⟩, ⟨⟨some 45, none, .field 6 (.tmp 44)⟩, 13, 0, 0⟩, ⟨⟨some 46, none, .load false 1 (.tmp 45)⟩, 14, 1, 0⟩, ⟨⟨some 49, none, .index 1 (.tmp 35) (.tmp 36)⟩, 17, 0, 1⟩, ⟨⟨none, none, .store 1 (.tmp 49) (.tmp 46)⟩, 18, 3, 1⟩, ⟨⟨some 41, none, .mov (.tmp 1)⟩, 9, 0, 0⟩, ⟨⟨some 42, none, .bin .add (.tmp 41) (.const (.int .i64 1))⟩, 10, 0, 0⟩, ⟨⟨some 50, none, .index 1 (.tmp 40) (.tmp 42)⟩, 19, 0, 2⟩, ⟨⟨none, none, .store 1 (.tmp 50) (.tmp 48)⟩, 20, 3, 2⟩])
  (.seq (.ops (.vd 51 (o_mov (.tmp 0)) (.vd 52 (o_nilCheck (.tmp 51)) (.vd 53 (o_field 2 (.tmp 52)) (.vd 54 (o_load false 1 (.tmp 53)) (.vd 55 (o_mov (.tmp 1)) (.vd 56 (o_bin .quo (.tmp 55) (.const (.int .i64 2))) (.cd 57 (fun F => c_call F 96 [(.tmp 54), (.tmp 56), (.const (.int .i64 1))]) .nil))))))))
  (.seq (.dregion [⟨⟨some 58, none, .mov (.tmp 0)⟩, 0, 0, 0⟩, ⟨⟨some 59, none, .nilCheck (.tmp 58)⟩, 1, 0, 0⟩, ⟨⟨some 60, none, .field 4 (.tmp 59)⟩, 2, 0, 0⟩, ⟨⟨some 61, none, .load false 1 (.tmp 60)⟩, 3, 1, 0⟩, ⟨⟨some 62, none, .mov (.tmp 0)⟩, 4, 0, 0⟩, ⟨⟨some 63, none, .nilCheck (.tmp 62)⟩, 5, 0, 0⟩, ⟨⟨some 64, none, .field 6 (.tmp 63)⟩, 6, 0, 0⟩, ⟨⟨some 65, none, .load false 1 (.tmp 64)⟩, 7, 1, 0⟩, ⟨⟨some 66, none, .mov (.tmp 1)⟩, 8, 0, 0⟩, ⟨⟨none, none, .mapSet .i64 (.tmp 61) (.tmp 65) (.tmp 66)⟩, 9, 3, 0⟩])
  (.seq (.ops (.vd 67 (o_mov (.tmp 0)) (.vd 68 (o_nilCheck (.tmp 67)) (.vd 69 (o_field 6 (.tmp 68)) (.vd 70 (o_load false 1 (.tmp 69)) (.vd 6 (o_mov (.tmp 70)) (.vd 7 (o_mov (.const (.int .i64 0))) .nil)))))))
  .ret))))))))
def X39 : FnS := .code ⟨71, 0, .skip, [.tmp 6, .tmp 7]⟩ S39
theorem x39 : okX Go.Proofs.Tryz.prog 39 X39 := ⟨C39, c39, rfl, rfl, rfl, by kernel_rfl⟩
def S40 : SCode := (.seq (.ops (.vd 4 (o_mov (.const (.int .i64 0))) .nil))
  (.seq (.ops (.vd 5 (o_mov (.tmp 0)) (.vd 6 (o_mov (.tmp 1)) (.cd 7 (fun F => c_call F 97 [(.tmp 5), (.tmp 6), (.const (.int .i64 1))]) (.vd 4 (o_mov (.tmp 7)) .nil)))))
  .ret))
def X40 : FnS := .code ⟨8, 0, .skip, [.tmp 4]⟩ S40
theorem x40 : okX Go.Proofs.Tryz.prog 40 X40 := ⟨C40, c40, rfl, rfl, rfl, by kernel_rfl⟩
def S41 : SCode := (.seq (.ops (.vd 4 (o_box (.tmp 1)) (.vd 6 (o_mov (.const (.int .i64 0))) .nil)))
  (.seq (.ops (.vd 10 (o_mov (.tmp 0)) (.vd 11 (o_load true 3 (.tmp 4)) (.cd 12 (fun F => c_call F 98 [(.tmp 10), (.tmp 11)]) (.vd 9 (o_mov (.tmp 12)) (.vd 13 (o_extract (.tmp 9) 0) (.vd 14 (o_extract (.tmp 9) 1) (.vd 7 (o_mov (.tmp 13)) (.vd 8 (o_mov (.tmp 14)) .nil)))))))))
  (.seq (.seq (.ops (.vd 15 (o_mov (.tmp 8)) (.vd 16 (o_bin .neq (.tmp 15) (.const (.int .i64 0))) .nil)))
  (.cond (.tmp 16)
   (.seq (.ops (.vd 17 (o_mov (.tmp 8)) (.vd 6 (o_mov (.tmp 17)) .nil)))
   .ret)
   .skip))
  (.seq (.seq (.ops (.vd 18 (o_mov (.tmp 2)) (.vd 19 (o_bin .lss (.tmp 18) (.const (.int .i64 0))) (.vd 20 (o_mov (.tmp 19)) (.vg 21 20 false (o_mov (.tmp 2)) (.vg 22 20 false (o_bin .eql (.tmp 21) (.const (.int .i64 0))) (.vg 23 20 false (o_mov (.tmp 22)) (.vg 24 23 true (o_field 0 (.tmp 4)) (.vg 25 23 true (o_load false 1 (.tmp 24)) (.vg 26 23 true (o_bin .eql (.tmp 25) (.const (.int .i64 2))) (.vg 27 20 false (o_pick (.tmp 23) (.tmp 26) (.const (.bool false))) (.vd 28 (o_pick (.tmp 20) (.const (.bool true)) (.tmp 27)) .nil))))))))))))
  (.cond (.tmp 28)
   (.seq (.ops (.vd 6 (o_mov (.const (.int .i64 1))) .nil))
   .ret)
   .skip))
  (.seq (.ops (.vd 29 (o_mov (.tmp 7)) (.vd 30 (o_mov (.tmp 2)) (.vd 31 (o_nilCheck (.tmp 29)) (.v none none (o_store 1 (.tmp 31) (.tmp 30)) .nil)))))
  (.seq (.ops (.vd 6 (o_mov (.const (.int .i64 0))) .nil))
  .ret))))))
def X41 : FnS := .code ⟨32, 0, .skip, [.tmp 6]⟩ S41
theorem x41 : okX Go.Proofs.Tryz.prog 41 X41 := ⟨C41, c41, rfl, rfl, rfl, by kernel_rfl⟩
def S42 : SCode := (.seq (.ops (.vd 3 (o_box (.tmp 1)) (.vd 4 (o_mov (.const (.int .i64 0))) (.vd 5 (o_mov (.const (.int .i64 0))) .nil))))
  (.seq (.ops (.vd 9 (o_mov (.tmp 0)) (.vd 10 (o_load true 3 (.tmp 3)) (.cd 11 (fun F => c_call F 98 [(.tmp 9), (.tmp 10)]) (.vd 8 (o_mov (.tmp 11)) (.vd 12 (o_extract (.tmp 8) 0) (.vd 13 (o_extract (.tmp 8) 1) (.vd 6 (o_mov (.tmp 12)) (.vd 7 (o_mov (.tmp 13)) .nil)))))))))
  (.seq (.seq (.ops (.vd 14 (o_mov (.tmp 7)) (.vd 15 (o_bin .neq (.tmp 14) (.const (.int .i64 0))) .nil)))
  (.cond (.tmp 15)
   (.seq (.ops (.vd 16 (o_mov (.tmp 7)) (.vd 4 (o_mov (.const (.int .i64 0))) (.vd 5 (o_mov (.tmp 16)) .nil))))
   .ret)
   .skip))
  (.seq (.ops (.vd 17 (o_mov (.tmp 6)) (.vd 18 (o_nilCheck (.tmp 17)) (.vd 19 (o_load false 1 (.tmp 18)) (.vd 4 (o_mov (.tmp 19)) (.vd 5 (o_mov (.const (.int .i64 0))) .nil))))))
  .ret))))
def X42 : FnS := .code ⟨20, 0, .skip, [.tmp 4, .tmp 5]⟩ S42
theorem x42 : okX Go.Proofs.Tryz.prog 42 X42 := ⟨C42, c42, rfl, rfl, rfl, by kernel_rfl⟩
def S43_1 : SCode := .seq (.seq (.ops (.vd 11 (o_mov (.tmp 5)) (.vd 12 (o_mov (.tmp 0)) (.vd 13 (o_len (.tmp 12)) (.vd 14 (o_bin .lss (.tmp 11) (.tmp 13)) .nil)))))
    (.cond (.tmp 14)
     .skip
     (.exit 0)))
    (.seq (.block 1 (.seq (.dregion [⟨⟨some 17, none, .mov (.tmp 0)⟩, 0, 0, 0⟩, ⟨⟨some 18, none, .mov (.tmp 5)⟩, 1, 0, 0⟩, ⟨⟨some 19, none, .index 2 (.tmp 17) (.tmp 18)⟩, 2, 0, 0⟩, ⟨⟨some 20, none, .load true 2 (.tmp 19)⟩, 3, 1, 0⟩, ⟨⟨some 21, none, .mov (.tmp 1)⟩, 4, 0, 0⟩, ⟨⟨some 22, none, .mov (.tmp 5)⟩, 5, 0, 0⟩, ⟨⟨some 23, none, .index 2 (.tmp 21) (.tmp 22)⟩, 6, 0, 0⟩, ⟨⟨some 24, none, .load true 2 (.tmp 23)⟩, 7, 1, 0⟩, ⟨⟨some 25, none, .eqs true 2 (.tmp 20) (.tmp 24)⟩, 8, 0, 0⟩])
     (.cond (.tmp 25)
      (.seq (.ops (.vd 4 (o_mov (.const (.bool false))) .nil))
      .ret)
      .skip)))
    (.ops (.vd 15 (o_mov (.tmp 5)) (.vd 16 (o_bin .add (.tmp 15) (.const (.int .i64 1))) (.vd 5 (o_mov (.tmp 16)) .nil)))))
def S43 : SCode := (.seq (.ops (.vd 4 (o_mov (.const (.bool false))) .nil))
  (.seq (.seq (.ops (.vd 6 (o_mov (.tmp 0)) (.vd 7 (o_len (.tmp 6)) (.vd 8 (o_mov (.tmp 1)) (.vd 9 (o_len (.tmp 8)) (.vd 10 (o_bin .neq (.tmp 7) (.tmp 9)) .nil))))))
  (.cond (.tmp 10)
   (.seq (.ops (.vd 4 (o_mov (.const (.bool false))) .nil))
   .ret)
   .skip))
  (.seq (.seq (.ops (.vd 5 (o_mov (.const (.int .i64 0))) .nil))
  (.block 0 (.loop S43_1)))
  (.seq (.ops (.vd 4 (o_mov (.const (.bool true))) .nil))
  .ret))))
def X43 : FnS := .code ⟨26, 0, .skip, [.tmp 4]⟩ S43
theorem x43 : okX Go.Proofs.Tryz.prog 43 X43 := ⟨C43, c43, rfl, rfl, rfl, by kernel_rfl⟩
def S44 : SCode := (.seq (.ops (.vd 4 (o_mov (.const (.bool false))) .nil))
  (.seq (.ops (.vd 5 (o_mov (.tmp 0)) (.cd 6 (fun F => c_call F 83 [(.tmp 5)]) (.vd 7 (o_mov (.tmp 6)) (.vg 8 7 true (o_mov (.tmp 1)) (.vg 9 7 true (o_bin .geq (.tmp 8) (.const (.int .i64 0))) (.vd 10 (o_pick (.tmp 7) (.tmp 9) (.const (.bool false))) (.vd 11 (o_mov (.tmp 10)) (.vg 12 11 true (o_mov (.tmp 1)) (.vg 13 11 true (o_bin .rem (.tmp 12) (.const (.int .i64 2))) (.vg 14 11 true (o_bin .eql (.tmp 13) (.const (.int .i64 0))) (.vd 15 (o_pick (.tmp 11) (.tmp 14) (.const (.bool false))) (.vd 16 (o_mov (.tmp 15)) (.vg 17 16 true (o_mov (.tmp 0)) (.vg 18 16 true (o_nilCheck (.tmp 17)) (.vg 19 16 true (o_field 2 (.tmp 18)) (.vg 20 16 true (o_load false 1 (.tmp 19)) (.vg 21 16 true (o_mov (.tmp 1)) (.vg 22 16 true (o_bin .quo (.tmp 21) (.const (.int .i64 2))) (.c (some 23) (some (16, true)) (fun F => c_call F 99 [(.tmp 20), (.tmp 22)]) (.vg 24 16 true (o_bin .eql (.tmp 23) (.const (.int .i64 1))) (.vd 25 (o_pick (.tmp 16) (.tmp 24) (.const (.bool false))) (.vd 4 (o_mov (.tmp 25)) .nil)))))))))))))))))))))))
  .ret))
def X44 : FnS := .code ⟨26, 0, .skip, [.tmp 4]⟩ S44
theorem x44 : okX Go.Proofs.Tryz.prog 44 X44 := ⟨C44, c44, rfl, rfl, rfl, by kernel_rfl⟩
def S50_1 : SCode := .seq (.ops (.vd 12 (o_bin .lss (.tmp 11) (.tmp 10)) .nil))
    (.seq (.cond (.tmp 12)
     .skip
     (.exit 0))
    (.seq (.block 1 (.seq (.ops (.vd 13 (o_index 1 (.tmp 9) (.tmp 11)) (.vd 14 (o_load false 1 (.tmp 13)) (.vd 7 (o_mov (.tmp 14)) .nil))))
     (.seq (.ops (.vd 15 (o_mov (.tmp 1)) (.vd 16 (o_mov (.tmp 7)) (.cd 17 (fun F => c_callm F (.tmp 15) [(.tmp 16)] [(267, "dustcart/alloc.place", 272), (268, "dustcart/alloc.place", 277), (269, "dustcart/alloc.place", 285), (270, "dustcart/alloc.place", 286), (271, "dustcart/alloc.place", 290)]) (.vd 18 (o_not (.tmp 17)) .nil)))))
     (.cond (.tmp 18)
      (.seq (.ops (.vd 19 (o_mov (.tmp 2)) (.vd 20 (o_nilCheck (.tmp 19)) (.vd 21 (o_field 2 (.tmp 20)) (.vd 22 (o_load false 1 (.tmp 21)) (.vd 23 (o_bin .add (.tmp 22) (.const (.int .i64 1))) (.vd 24 (o_nilCheck (.tmp 19)) (.vd 25 (o_field 2 (.tmp 24)) (.v none none (o_store 1 (.tmp 25) (.tmp 23)) .nil)))))))))
      (.seq (.dregion [⟨⟨some 30, none, .mov (.tmp 0)⟩, 4, 0, 0⟩, ⟨⟨some 31, none, .mov (.tmp 7)⟩, 5, 0, 0⟩, ⟨⟨some 32, none, .call 107 [(.tmp 30), (.tmp 31)]⟩, 6, 3, 0⟩, ⟨⟨some 26, none, .mov (.tmp 2)⟩, 0, 0, 0⟩, ⟨⟨some 27, none, .nilCheck (.tmp 26)⟩, 1, 0, 0⟩, ⟨⟨some 28, none, .field 3 (.tmp 27)⟩, 2, 0, 0⟩, ⟨⟨some 29, none, .load false 1 (.tmp 28)⟩, 3, 1, 0⟩, ⟨⟨some 33, none, .bin .add (.tmp 29) (.tmp 32)⟩, 7, 0, 1⟩, ⟨⟨some 34, none, .nilCheck (.tmp 26)⟩, 8, 0, 1⟩, ⟨⟨some 35, none, .field 3 (.tmp 34)⟩, 9, 0, 1⟩, ⟨⟨none, none, .store 1 (.tmp 35) (.tmp 33)⟩, 10, 3, 1⟩])
      (.ops (.vd 36 (o_mov (.tmp 0)) (.vd 37 (o_mov (.tmp 7)) (.cd 38 (fun F => c_call F 113 [(.tmp 36), (.tmp 37)]) .nil))))))
      .skip))))
    (.ops (.vd 39 (o_bin .add (.tmp 11) (.const (.int .i64 1))) (.vd 11 (o_mov (.tmp 39)) .nil)))))
def S50 : SCode := (.seq (.ops (.vd 8 (o_mov (.tmp 0)) (.cd 9 (fun F => c_call F 64 [(.tmp 8)]) (.vd 10 (o_len (.tmp 9)) (.vd 11 (o_mov (.const (.int .i64 0))) .nil)))))
  (.block 0 (.loop S50_1)))
def X50 : FnS := .code ⟨40, 0, .skip, []⟩ S50
theorem x50 : okX Go.Proofs.Tryz.prog 50 X50 := ⟨C50, c50, rfl, rfl, rfl, by kernel_rfl⟩
def S53_1 : SCode := .seq (.ops (.vd 68 (o_bin .lss (.tmp 67) (.tmp 66)) .nil))
       (.seq (.cond (.tmp 68)
        .skip
        (.exit 4))
       (.seq (.block 5 (.seq (.ops (.vd 69 (o_mov (.tmp 67)) (.vd 16 (o_mov (.tmp 69)) .nil)))
        (.seq (.ops (.vd 71 (o_mov (.tmp 0)) (.vd 72 (o_mov (.tmp 13)) (.vd 73 (o_mov (.tmp 16)) (.cd 74 (fun F => c_call F 111 [(.tmp 71), (.tmp 72), (.tmp 73)]) (.vd 70 (o_mov (.tmp 74)) (.vd 75 (o_extract (.tmp 70) 0) (.vd 76 (o_extract (.tmp 70) 1) (.vd 17 (o_mov (.tmp 75)) (.vd 18 (o_mov (.tmp 76)) .nil))))))))))
        (.seq (.ops (.vd 78 (o_mov (.tmp 9)) (.vd 79 (o_mov (.tmp 17)) (.vd 80 (o_mapGet true .i64 (.int .i64 0) (.tmp 78) (.tmp 79)) (.vd 77 (o_mov (.tmp 80)) (.vd 81 (o_extract (.tmp 77) 0) (.vd 82 (o_extract (.tmp 77) 1) (.vd 19 (o_mov (.tmp 81)) (.vd 20 (o_mov (.tmp 82)) .nil)))))))))
        (.seq (.ops (.vd 83 (o_mov (.tmp 20)) .nil))
        (.cond (.tmp 83)
         (.ops (.vd 84 (o_mov (.tmp 0)) (.vd 85 (o_mov (.tmp 13)) (.vd 86 (o_mov (.tmp 16)) (.vd 87 (o_mov (.tmp 19)) (.cd 88 (fun F => c_call F 112 [(.tmp 84), (.tmp 85), (.tmp 86), (.tmp 87)]) .nil))))))
         .skip))))))
       (.ops (.vd 89 (o_bin .add (.tmp 67) (.const (.int .i64 1))) (.vd 67 (o_mov (.tmp 89)) .nil)))))
def S53_2 : SCode := .seq (.ops (.vd 56 (o_bin .lss (.tmp 55) (.tmp 54)) .nil))
    (.seq (.cond (.tmp 56)
     .skip
     (.exit 2))
    (.seq (.block 3 (.seq (.ops (.vd 57 (o_index 1 (.tmp 53) (.tmp 55)) (.vd 58 (o_load false 1 (.tmp 57)) (.vd 13 (o_mov (.tmp 58)) .nil))))
     (.seq (.ops (.vd 60 (o_mov (.tmp 0)) (.vd 61 (o_mov (.tmp 13)) (.cd 62 (fun F => c_call F 109 [(.tmp 60), (.tmp 61)]) (.vd 59 (o_mov (.tmp 62)) (.vd 63 (o_extract (.tmp 59) 0) (.vd 64 (o_extract (.tmp 59) 1) (.vd 14 (o_new [.int .i64 0, .int .i64 0, .int .i64 0]) (.v none none (o_store 3 (.tmp 14) (.tmp 63)) (.vd 15 (o_mov (.tmp 64)) .nil))))))))))
     (.seq (.ops (.vd 65 (o_field 0 (.tmp 14)) (.vd 66 (o_load false 1 (.tmp 65)) (.vd 67 (o_mov (.const (.int .i64 0))) .nil))))
     (.block 4 (.loop S53_1))))))
    (.ops (.vd 90 (o_bin .add (.tmp 55) (.const (.int .i64 1))) (.vd 55 (o_mov (.tmp 90)) .nil)))))
def S53_3 : SCode := .seq (.ops (.vd 29 (o_bin .lss (.tmp 28) (.tmp 27)) .nil))
    (.seq (.cond (.tmp 29)
     .skip
     (.exit 0))
    (.seq (.block 1 (.seq (.ops (.vd 30 (o_index 2 (.tmp 26) (.tmp 28)) (.vd 31 (o_load true 2 (.tmp 30)) (.vd 11 (o_new [.int .i64 0, .int .i64 0]) (.v none none (o_store 2 (.tmp 11) (.tmp 31)) .nil)))))
     (.seq (.dregion [⟨⟨some 32, none, .mov (.tmp 7)⟩, 0, 0, 0⟩, ⟨⟨some 33, none, .field 0 (.tmp 11)⟩, 1, 0, 0⟩, ⟨⟨some 34, none, .load false 1 (.tmp 33)⟩, 2, 1, 0⟩, ⟨⟨some 35, none, .buildSlice 1 [.int .i64 0] 1 [(0, 1, (.tmp 34))]⟩, 3, 0, 0⟩, ⟨⟨some 36, none, .append 1 (.tmp 32) (.tmp 35)⟩, 4, 3, 0⟩, ⟨⟨some 37, none, .mov (.tmp 8)⟩, 5, 0, 0⟩, ⟨⟨some 38, none, .field 1 (.tmp 11)⟩, 6, 0, 0⟩, ⟨⟨some 39, none, .load false 1 (.tmp 38)⟩, 7, 1, 0⟩, ⟨⟨some 40, none, .buildSlice 1 [.int .i64 0] 1 [(0, 1, (.tmp 39))]⟩, 8, 0, 0⟩, ⟨⟨some 41, none, .append 1 (.tmp 37) (.tmp 40)⟩, 9, 3, 1⟩, ⟨⟨some 7, none, .mov (.tmp 36)⟩, 10, 0, 2⟩, ⟨⟨some 8, none, .mov (.tmp 41)⟩, 11, 0, 2⟩])
     (.ops (.vd 42 (o_mov (.tmp 9)) (.vd 43 (o_field 0 (.tmp 11)) (.vd 44 (o_load false 1 (.tmp 43)) (.vd 45 (o_field 1 (.tmp 11)) (.vd 46 (o_load false 1 (.tmp 45)) (.v none none (o_mapSet .i64 (.tmp 42) (.tmp 44) (.tmp 46)) .nil))))))))))
    (.ops (.vd 47 (o_bin .add (.tmp 28) (.const (.int .i64 1))) (.vd 28 (o_mov (.tmp 47)) .nil)))))
def S53 : SCode := (.seq (.ops (.vd 21 (o_mov (.tmp 2)) (.cd 22 (fun F => c_call F 115 [(.tmp 21)]) (.vd 6 (o_mov (.tmp 22)) .nil))))
  (.seq (.ops (.vd 23 (o_mov (.tmp 6)) (.cd 24 (fun F => c_call F 116 [(.tmp 23), (.const (.func 117 []))]) .nil)))
  (.seq (.ops (.vd 7 (o_mov (.const (.nilSlice))) (.vd 8 (o_mov (.const (.nilSlice))) .nil)))
  (.seq (.ops (.vd 25 (o_mapNew) (.vd 9 (o_mov (.tmp 25)) .nil)))
  (.seq (.seq (.ops (.vd 26 (o_mov (.tmp 6)) (.vd 27 (o_len (.tmp 26)) (.vd 28 (o_mov (.const (.int .i64 0))) .nil))))
  (.block 0 (.loop S53_3)))
  (.seq (.ops (.vd 48 (o_mov (.tmp 1)) (.vd 49 (o_mov (.tmp 7)) (.vd 50 (o_mov (.tmp 8)) (.cd 51 (fun F => c_call F 118 [(.tmp 48), (.tmp 49), (.tmp 50)]) .nil)))))
  (.seq (.ops (.vd 52 (o_mov (.tmp 0)) (.cd 53 (fun F => c_call F 64 [(.tmp 52)]) (.vd 54 (o_len (.tmp 53)) (.vd 55 (o_mov (.const (.int .i64 0))) .nil)))))
  (.block 2 (.loop S53_2)))))))))
def X53 : FnS := .code ⟨91, 0, .skip, []⟩ S53
theorem x53 : okX Go.Proofs.Tryz.prog 53 X53 := ⟨C53, c53, rfl, rfl, rfl, by kernel_rfl⟩
def S54_1 : SCode := .seq (.ops (.vd 6 (o_bin .lss (.tmp 5) (.tmp 4)) .nil))
    (.seq (.cond (.tmp 6)
     .skip
     (.exit 0))
    (.seq (.block 1 (.seq (.ops (.vd 7 (o_mov (.tmp 5)) (.vd 2 (o_mov (.tmp 7)) .nil)))
     (.ops (.vd 8 (o_mov (.tmp 0)) (.vd 9 (o_mov (.tmp 2)) (.cd 10 (fun F => c_call F 119 [(.tmp 8), (.tmp 9)]) .nil))))))
    (.ops (.vd 11 (o_bin .add (.tmp 5) (.const (.int .i64 1))) (.vd 5 (o_mov (.tmp 11)) .nil)))))
def S54 : SCode := (.seq (.ops (.vd 3 (o_mov (.tmp 0)) (.cd 4 (fun F => c_call F 30 [(.tmp 3)]) (.vd 5 (o_mov (.const (.int .i64 0))) .nil))))
  (.block 0 (.loop S54_1)))
def X54 : FnS := .code ⟨12, 0, .skip, []⟩ S54
theorem x54 : okX Go.Proofs.Tryz.prog 54 X54 := ⟨C54, c54, rfl, rfl, rfl, by kernel_rfl⟩
def S55_1 : SCode := .seq (.ops (.vd 27 (o_bin .lss (.tmp 26) (.tmp 25)) .nil))
    (.seq (.cond (.tmp 27)
     .skip
     (.exit 0))
    (.seq (.block 1 (.seq (.ops (.vd 28 (o_index 2 (.tmp 24) (.tmp 26)) (.vd 29 (o_load true 2 (.tmp 28)) (.vd 7 (o_new [.int .i64 0, .int .i64 0]) (.v none none (o_store 2 (.tmp 7) (.tmp 29)) .nil)))))
     (.dregion [⟨⟨some 34, none, .mov (.tmp 0)⟩, 4, 0, 0⟩, ⟨⟨some 35, none, .field 1 (.tmp 7)⟩, 5, 0, 0⟩, ⟨⟨some 36, none, .load false 1 (.tmp 35)⟩, 6, 1, 0⟩, ⟨⟨some 37, none, .call 107 [(.tmp 34), (.tmp 36)]⟩, 7, 3, 0⟩, ⟨⟨some 30, none, .mov (.tmp 2)⟩, 0, 0, 0⟩, ⟨⟨some 31, none, .nilCheck (.tmp 30)⟩, 1, 0, 0⟩, ⟨⟨some 32, none, .field 5 (.tmp 31)⟩, 2, 0, 0⟩, ⟨⟨some 33, none, .load false 1 (.tmp 32)⟩, 3, 1, 0⟩, ⟨⟨some 38, none, .bin .add (.tmp 33) (.tmp 37)⟩, 8, 0, 1⟩, ⟨⟨some 39, none, .nilCheck (.tmp 30)⟩, 9, 0, 1⟩, ⟨⟨some 40, none, .field 5 (.tmp 39)⟩, 10, 0, 1⟩, ⟨⟨none, none, .store 1 (.tmp 40) (.tmp 38)⟩, 11, 3, 1⟩])))
    (.ops (.vd 41 (o_bin .add (.tmp 26) (.const (.int .i64 1))) (.vd 26 (o_mov (.tmp 41)) .nil)))))
def S55 : SCode := (.seq (.ops (.vd 8 (o_mov (.tmp 2)) (.vd 9 (o_mov (.tmp 2)) (.vd 10 (o_mov (.tmp 0)) (.cd 11 (fun F => c_call F 64 [(.tmp 10)]) (.vd 12 (o_len (.tmp 11)) (.vd 13 (o_mov (.tmp 0)) (.cd 14 (fun F => c_call F 120 [(.tmp 13)]) (.vd 15 (o_nilCheck (.tmp 8)) (.vd 16 (o_field 0 (.tmp 15)) (.v none none (o_store 1 (.tmp 16) (.tmp 12)) (.vd 17 (o_nilCheck (.tmp 9)) (.vd 18 (o_field 1 (.tmp 17)) (.v none none (o_store 1 (.tmp 18) (.tmp 14)) .nil))))))))))))))
  (.seq (.ops (.vd 19 (o_mov (.tmp 2)) (.vd 20 (o_mov (.tmp 1)) (.vd 21 (o_len (.tmp 20)) (.vd 22 (o_nilCheck (.tmp 19)) (.vd 23 (o_field 4 (.tmp 22)) (.v none none (o_store 1 (.tmp 23) (.tmp 21)) .nil)))))))
  (.seq (.ops (.vd 24 (o_mov (.tmp 1)) (.vd 25 (o_len (.tmp 24)) (.vd 26 (o_mov (.const (.int .i64 0))) .nil))))
  (.block 0 (.loop S55_1)))))
def X55 : FnS := .code ⟨42, 0, .skip, []⟩ S55
theorem x55 : okX Go.Proofs.Tryz.prog 55 X55 := ⟨C55, c55, rfl, rfl, rfl, by kernel_rfl⟩
def S58 : SCode := (.seq (.ops (.vd 4 (o_mov (.const (.int .i64 0))) .nil))
  (.seq (.seq (.ops (.vd 5 (o_mov (.tmp 1)) (.vd 6 (o_bin .lss (.tmp 5) (.const (.int .i64 0))) (.vd 7 (o_mov (.tmp 6)) (.vg 8 7 false (o_mov (.tmp 1)) (.vg 9 7 false (o_mov (.tmp 0)) (.c (some 10) (some (7, false)) (fun F => c_call F 30 [(.tmp 9)]) (.vg 11 7 false (o_bin .geq (.tmp 8) (.tmp 10)) (.vd 12 (o_pick (.tmp 7) (.const (.bool true)) (.tmp 11)) .nil)))))))))
  (.cond (.tmp 12)
   (.seq (.ops (.vd 4 (o_mov (.const (.int .i64 (-1)))) .nil))
   .ret)
   .skip))
  (.seq (.ops (.vd 13 (o_mov (.tmp 0)) (.vd 14 (o_nilCheck (.tmp 13)) (.vd 15 (o_field 0 (.tmp 14)) (.vd 16 (o_load false 1 (.tmp 15)) (.vd 17 (o_mov (.tmp 1)) (.vd 18 (o_index 2 (.tmp 16) (.tmp 17)) (.vd 19 (o_field 0 (.tmp 18)) (.vd 20 (o_load false 1 (.tmp 19)) (.vd 4 (o_mov (.tmp 20)) .nil))))))))))
  .ret)))
def X58 : FnS := .code ⟨21, 0, .skip, [.tmp 4]⟩ S58
theorem x58 : okX Go.Proofs.Tryz.prog 58 X58 := ⟨C58, c58, rfl, rfl, rfl, by kernel_rfl⟩
def S63_1 : SCode := .seq (.seq (.ops (.vd 16 (o_mov (.tmp 6)) (.vd 17 (o_mov (.tmp 0)) (.vd 18 (o_len (.tmp 17)) (.vd 19 (o_bin .lss (.tmp 16) (.tmp 18)) .nil)))))
    (.cond (.tmp 19)
     .skip
     (.exit 0)))
    (.seq (.block 1 (.seq (.ops (.vd 22 (o_mov (.tmp 0)) (.vd 23 (o_mov (.tmp 6)) (.vd 24 (o_index 1 (.tmp 22) (.tmp 23)) (.vd 25 (o_load false 1 (.tmp 24)) (.vd 7 (o_mov (.tmp 25)) .nil))))))
     (.seq (.ops (.vd 26 (o_mov (.tmp 1)) (.vd 27 (o_mov (.tmp 7)) (.cd 28 (fun F => c_callm F (.tmp 26) [(.tmp 27)] [(267, "dustcart/alloc.place", 272), (268, "dustcart/alloc.place", 277), (269, "dustcart/alloc.place", 285), (270, "dustcart/alloc.place", 286), (271, "dustcart/alloc.place", 290)]) (.vd 29 (o_not (.tmp 28)) .nil)))))
     (.cond (.tmp 29)
      (.seq (.ops (.vd 30 (o_mov (.tmp 0)) (.vd 31 (o_mov (.tmp 5)) (.vd 32 (o_mov (.tmp 7)) (.vd 33 (o_index 1 (.tmp 30) (.tmp 31)) (.v none none (o_store 1 (.tmp 33) (.tmp 32)) .nil))))))
      (.ops (.vd 34 (o_mov (.tmp 5)) (.vd 35 (o_bin .add (.tmp 34) (.const (.int .i64 1))) (.vd 5 (o_mov (.tmp 35)) .nil)))))
      .skip))))
    (.ops (.vd 20 (o_mov (.tmp 6)) (.vd 21 (o_bin .add (.tmp 20) (.const (.int .i64 1))) (.vd 6 (o_mov (.tmp 21)) .nil)))))
def S63 : SCode := (.seq (.ops (.vd 4 (o_mov (.const (.nilSlice))) .nil))
  (.seq (.ops (.vd 8 (o_mov (.tmp 0)) (.vd 9 (o_mov (.tmp 1)) (.cd 10 (fun F => c_call F 133 [(.tmp 8), (.tmp 9)]) (.vd 5 (o_mov (.tmp 10)) .nil)))))
  (.seq (.seq (.ops (.vd 11 (o_mov (.tmp 5)) (.vd 12 (o_bin .eql (.tmp 11) (.const (.int .i64 (-1)))) .nil)))
  (.cond (.tmp 12)
   (.seq (.ops (.vd 13 (o_mov (.tmp 0)) (.vd 4 (o_mov (.tmp 13)) .nil)))
   .ret)
   .skip))
  (.seq (.seq (.ops (.vd 14 (o_mov (.tmp 5)) (.vd 15 (o_bin .add (.tmp 14) (.const (.int .i64 1))) (.vd 6 (o_mov (.tmp 15)) .nil))))
  (.block 0 (.loop S63_1)))
  (.seq (.ops (.vd 36 (o_mov (.tmp 0)) (.vd 37 (o_mov (.tmp 5)) (.vd 38 (o_slice 1 (.tmp 36) (some (.tmp 37)) none none) (.v none none (o_clear [.int .i64 0] (.tmp 38)) .nil)))))
  (.seq (.ops (.vd 39 (o_mov (.tmp 0)) (.vd 40 (o_mov (.tmp 5)) (.vd 41 (o_slice 1 (.tmp 39) none (some (.tmp 40)) none) (.vd 4 (o_mov (.tmp 41)) .nil)))))
  .ret))))))
def X63 : FnS := .code ⟨42, 0, .skip, [.tmp 4]⟩ S63
theorem x63 : okX Go.Proofs.Tryz.prog 63 X63 := ⟨C63, c63, rfl, rfl, rfl, by kernel_rfl⟩
end Go.Cs.Tryz

/- The turned functions, part 1. -/
noncomputable section
namespace Go.Cs.Tryz
open Go Go.Cs Go.Cs.K
set_option maxRecDepth 100000
def S64 : SCode := (.seq (.ops (.vd 2 (o_mov (.const (.nilSlice))) .nil))
  (.seq (.seq (.ops (.vd 3 (o_mov (.tmp 0)) (.cd 4 (fun F => c_call F 83 [(.tmp 3)]) (.vd 5 (o_not (.tmp 4)) .nil))))
  (.cond (.tmp 5)
   (.seq (.ops (.vd 2 (o_mov (.const (.nilSlice))) .nil))
   .ret)
   .skip))
  (.seq (.ops (.vd 6 (o_mov (.tmp 0)) (.vd 7 (o_mov (.tmp 0)) (.vd 8 (o_nilCheck (.tmp 7)) (.vd 9 (o_field 1 (.tmp 8)) (.vd 10 (o_load false 1 (.tmp 9)) (.vd 11 (o_len (.tmp 10)) (.cd 12 (fun F => c_call F 87 [(.tmp 6), (.const (.int .i64 0)), (.tmp 11)]) (.vd 2 (o_mov (.tmp 12)) .nil)))))))))
  .ret)))
def X64 : FnS := .code ⟨13, 0, .skip, [.tmp 2]⟩ S64
theorem x64 : okX Go.Proofs.Tryz.prog 64 X64 := ⟨C64, c64, rfl, rfl, rfl, by kernel_rfl⟩
def S66 : SCode := (.seq (.ops (.vd 4 (o_mov (.const (.bool false))) .nil))
  (.seq (.ops (.vd 5 (o_mov (.tmp 0)) (.vd 6 (o_mov (.tmp 1)) (.cd 7 (fun F => c_call F 44 [(.tmp 5), (.tmp 6)]) (.vd 8 (o_mov (.tmp 7)) (.vg 9 8 true (o_mov (.tmp 0)) (.vg 10 8 true (o_nilCheck (.tmp 9)) (.vg 11 8 true (o_field 3 (.tmp 10)) (.vg 12 8 true (o_load false 1 (.tmp 11)) (.vg 13 8 true (o_mov (.tmp 1)) (.vg 14 8 true (o_bin .quo (.tmp 13) (.const (.int .i64 2))) (.c (some 15) (some (8, true)) (fun F => c_call F 99 [(.tmp 12), (.tmp 14)]) (.vg 16 8 true (o_bin .eql (.tmp 15) (.const (.int .i64 1))) (.vd 17 (o_pick (.tmp 8) (.tmp 16) (.const (.bool false))) (.vd 4 (o_mov (.tmp 17)) .nil)))))))))))))))
  .ret))
def X66 : FnS := .code ⟨18, 0, .skip, [.tmp 4]⟩ S66
theorem x66 : okX Go.Proofs.Tryz.prog 66 X66 := ⟨C66, c66, rfl, rfl, rfl, by kernel_rfl⟩
def S68_1 : SCode := .seq (.seq (.ops (.vd 63 (o_mov (.tmp 11)) (.cd 64 (fun F => c_call F 138 [(.tmp 63)]) .nil)))
    (.cond (.tmp 64)
     .skip
     (.exit 2)))
    (.block 3 (.ops (.vd 65 (o_mov (.tmp 11)) (.cd 66 (fun F => c_call F 137 [(.tmp 65)]) .nil))))
def S68_2 : SCode := .seq (.ops (.vd 48 (o_bin .lss (.tmp 47) (.tmp 46)) .nil))
    (.seq (.cond (.tmp 48)
     .skip
     (.exit 0))
    (.seq (.block 1 (.seq (.ops (.vd 49 (o_index 3 (.tmp 45) (.tmp 47)) (.vd 50 (o_load true 3 (.tmp 49)) (.vd 13 (o_new [.int .i64 0, .int .i64 0, .int .i64 0]) (.v none none (o_store 3 (.tmp 13) (.tmp 50)) .nil)))))
     (.seq (.ops (.vd 52 (o_mov (.tmp 1)) (.vd 53 (o_load true 3 (.tmp 13)) (.cd 54 (fun F => c_call F 42 [(.tmp 52), (.tmp 53)]) (.vd 51 (o_mov (.tmp 54)) (.vd 55 (o_extract (.tmp 51) 0) (.vd 56 (o_extract (.tmp 51) 1) (.vd 14 (o_mov (.tmp 55)) (.vd 15 (o_mov (.tmp 56)) .nil)))))))))
     (.ops (.vd 57 (o_mov (.tmp 11)) (.vd 58 (o_mov (.tmp 14)) (.cd 59 (fun F => c_call F 136 [(.tmp 57), (.tmp 58)]) .nil)))))))
    (.ops (.vd 60 (o_bin .add (.tmp 47) (.const (.int .i64 1))) (.vd 47 (o_mov (.tmp 60)) .nil)))))
def S68 : SCode := (.seq (.ops (.vd 8 (o_mov (.const (.nilPtr))) (.vd 9 (o_new [.int .i64 0, .int .i64 0, .int .i64 0, .int .i64 0, .int .i64 0]) (.vd 10 (o_mov (.const (.int .i64 0))) .nil))))
  (.seq (.seq (.ops (.vd 16 (o_mov (.tmp 0)) (.vd 17 (o_mov (.tmp 1)) (.cd 18 (fun F => c_call F 134 [(.tmp 16), (.tmp 17)]) (.vd 19 (o_not (.tmp 18)) (.vd 20 (o_mov (.tmp 19)) (.vg 21 20 false (o_mov (.tmp 2)) (.vg 22 20 false (o_bin .lss (.tmp 21) (.const (.int .i64 0))) (.vd 23 (o_pick (.tmp 20) (.const (.bool true)) (.tmp 22)) (.vd 24 (o_mov (.tmp 23)) (.vg 25 24 false (o_mov (.tmp 2)) (.vg 26 24 false (o_bin .gtr (.tmp 25) (.const (.int .i64 1))) (.vd 27 (o_pick (.tmp 24) (.const (.bool true)) (.tmp 26)) (.vd 28 (o_mov (.tmp 27)) (.vg 29 28 false (o_mov (.tmp 3)) (.vg 30 28 false (o_bin .lss (.tmp 29) (.const (.int .i64 1))) (.vd 31 (o_pick (.tmp 28) (.const (.bool true)) (.tmp 30)) (.vd 32 (o_mov (.tmp 31)) (.vg 33 32 false (o_mov (.tmp 3)) (.vg 34 32 false (o_bin .gtr (.tmp 33) (.const (.int .i64 4096))) (.vd 35 (o_pick (.tmp 32) (.const (.bool true)) (.tmp 34)) .nil)))))))))))))))))))))
  (.cond (.tmp 35)
   (.seq (.ops (.vd 36 (o_build [.int .i64 0, .int .i64 0, .int .i64 0, .int .i64 0, .int .i64 0] []) (.vd 8 (o_mov (.const (.nilPtr))) (.v none none (o_store 5 (.tmp 9) (.tmp 36)) (.vd 10 (o_mov (.const (.int .i64 1))) .nil)))))
   .ret)
   .skip))
  (.seq (.ops (.vd 37 (o_mov (.tmp 0)) (.vd 38 (o_mov (.tmp 0)) (.cd 39 (fun F => c_call F 135 [(.tmp 38)]) (.vd 40 (o_mov (.tmp 2)) (.vd 41 (o_mov (.tmp 3)) (.vd 42 (o_build [.nilPtr, .nilPtr, .nilSlice, .int .i64 0, .int .i64 0, .bool false, .int .i64 0, .int .i64 0, .int .i64 0, .int .i64 0, .int .i64 0] [(0, 1, (.tmp 37)), (1, 1, (.tmp 39)), (3, 1, (.tmp 40)), (4, 1, (.tmp 41))]) (.vd 43 (o_box (.tmp 42)) (.vd 11 (o_mov (.tmp 43)) .nil)))))))))
  (.seq (.seq (.ops (.vd 44 (o_mov (.tmp 1)) (.cd 45 (fun F => c_call F 101 [(.tmp 44)]) (.vd 46 (o_len (.tmp 45)) (.vd 47 (o_mov (.const (.int .i64 0))) .nil)))))
  (.block 0 (.loop S68_2)))
  (.seq (.ops (.vd 61 (o_mov (.tmp 11)) (.cd 62 (fun F => c_call F 137 [(.tmp 61)]) .nil)))
  (.seq (.block 2 (.loop S68_1))
  (.seq (.dregion [⟨⟨some 67, none, .mov (.tmp 11)⟩, 0, 0, 0⟩, ⟨⟨some 68, none, .nilCheck (.tmp 67)⟩, 1, 0, 0⟩, ⟨⟨some 69, none, .field 1 (.tmp 68)⟩, 2, 0, 0⟩, ⟨⟨some 70, none, .load false 1 (.tmp 69)⟩, 3, 1, 0⟩, ⟨⟨some 71, none, .mov (.tmp 11)⟩, 4, 0, 0⟩, ⟨⟨some 72, none, .nilCheck (.tmp 71)⟩, 5, 0, 0⟩, ⟨⟨some 73, none, .field 6 (.tmp 72)⟩, 6, 0, 0⟩, ⟨⟨some 74, none, .load true 5 (.tmp 73)⟩, 7, 1, 0⟩, ⟨⟨some 8, none, .mov (.tmp 70)⟩, 8, 0, 0⟩, ⟨⟨none, none, .store 5 (.tmp 9) (.tmp 74)⟩, 9, 3, 0⟩, ⟨⟨some 10, none, .mov (.const (.int .i64 0))⟩, 10, 0, 1⟩])
  .ret)))))))
def X68 : FnS := .code ⟨75, 0, .skip, [.tmp 8, .cell 9 true 5, .tmp 10]⟩ S68
theorem x68 : okX Go.Proofs.Tryz.prog 68 X68 := ⟨C68, c68, rfl, rfl, rfl, by kernel_rfl⟩
def S69_1 : SCode := .seq (.ops (.vd 34 (o_bin .lss (.tmp 33) (.tmp 32)) .nil))
       (.seq (.cond (.tmp 34)
        .skip
        (.exit 2))
       (.seq (.block 3 (.seq (.ops (.vd 35 (o_mov (.tmp 33)) (.vd 10 (o_mov (.tmp 35)) .nil)))
        (.seq (.ops (.vd 37 (o_load false 1 (.tmp 2)) (.vd 38 (o_mov (.tmp 7)) (.vd 39 (o_mov (.tmp 10)) (.cd 40 (fun F => c_call F 111 [(.tmp 37), (.tmp 38), (.tmp 39)]) (.vd 36 (o_mov (.tmp 40)) (.vd 41 (o_extract (.tmp 36) 0) (.vd 42 (o_extract (.tmp 36) 1) (.vd 11 (o_mov (.tmp 41)) (.vd 12 (o_mov (.tmp 42)) .nil))))))))))
        (.seq (.ops (.vd 43 (o_mov (.tmp 5)) (.vd 44 (o_mov (.tmp 11)) (.cd 45 (fun F => c_callm F (.tmp 43) [(.tmp 44)] [(267, "dustcart/alloc.place", 272), (268, "dustcart/alloc.place", 277), (269, "dustcart/alloc.place", 285), (270, "dustcart/alloc.place", 286), (271, "dustcart/alloc.place", 290)]) .nil))))
        (.cond (.tmp 45)
         (.seq (.ops (.vd 4 (o_mov (.const (.bool false))) .nil))
         .ret)
         .skip)))))
       (.ops (.vd 46 (o_bin .add (.tmp 33) (.const (.int .i64 1))) (.vd 33 (o_mov (.tmp 46)) .nil)))))
def S69_2 : SCode := .seq (.ops (.vd 22 (o_bin .lss (.tmp 21) (.tmp 20)) .nil))
    (.seq (.cond (.tmp 22)
     .skip
     (.exit 0))
    (.seq (.block 1 (.seq (.ops (.vd 23 (o_index 1 (.tmp 19) (.tmp 21)) (.vd 24 (o_load false 1 (.tmp 23)) (.vd 7 (o_mov (.tmp 24)) .nil))))
     (.seq (.ops (.vd 26 (o_load false 1 (.tmp 2)) (.vd 27 (o_mov (.tmp 7)) (.cd 28 (fun F => c_call F 109 [(.tmp 26), (.tmp 27)]) (.vd 25 (o_mov (.tmp 28)) (.vd 29 (o_extract (.tmp 25) 0) (.vd 30 (o_extract (.tmp 25) 1) (.vd 8 (o_new [.int .i64 0, .int .i64 0, .int .i64 0]) (.v none none (o_store 3 (.tmp 8) (.tmp 29)) (.vd 9 (o_mov (.tmp 30)) .nil))))))))))
     (.seq (.ops (.vd 31 (o_field 0 (.tmp 8)) (.vd 32 (o_load false 1 (.tmp 31)) (.vd 33 (o_mov (.const (.int .i64 0))) .nil))))
     (.block 2 (.loop S69_1))))))
    (.ops (.vd 47 (o_bin .add (.tmp 21) (.const (.int .i64 1))) (.vd 21 (o_mov (.tmp 47)) .nil)))))
def S69 : SCode := (.seq (.ops (.vd 2 (o_box (.tmp 0)) (.vd 4 (o_mov (.const (.bool false))) .nil)))
  (.seq (.ops (.vd 13 (o_mkfunc 139 [(.tmp 2)]) (.vd 5 (o_mov (.tmp 13)) .nil)))
  (.seq (.seq (.ops (.vd 14 (o_mov (.tmp 1)) (.cd 15 (fun F => c_call F 141 [(.tmp 14)]) (.vd 16 (o_mov (.tmp 5)) (.cd 17 (fun F => c_call F 140 [(.tmp 15), (.tmp 16)]) .nil)))))
  (.cond (.tmp 17)
   (.seq (.ops (.vd 4 (o_mov (.const (.bool false))) .nil))
   .ret)
   .skip))
  (.seq (.seq (.ops (.vd 18 (o_load false 1 (.tmp 2)) (.cd 19 (fun F => c_call F 64 [(.tmp 18)]) (.vd 20 (o_len (.tmp 19)) (.vd 21 (o_mov (.const (.int .i64 0))) .nil)))))
  (.block 0 (.loop S69_2)))
  (.seq (.ops (.vd 4 (o_mov (.const (.bool true))) .nil))
  .ret)))))
def X69 : FnS := .code ⟨48, 0, .skip, [.tmp 4]⟩ S69
theorem x69 : okX Go.Proofs.Tryz.prog 69 X69 := ⟨C69, c69, rfl, rfl, rfl, by kernel_rfl⟩
def S70_1 : SCode := .seq (.ops (.vd 54 (o_bin .lss (.tmp 53) (.tmp 52)) .nil))
       (.seq (.cond (.tmp 54)
        .skip
        (.exit 2))
       (.seq (.block 3 (.seq (.ops (.vd 55 (o_mov (.tmp 53)) (.vd 15 (o_mov (.tmp 55)) .nil)))
        (.seq (.ops (.vd 57 (o_mov (.tmp 0)) (.vd 58 (o_mov (.tmp 8)) (.vd 59 (o_mov (.tmp 15)) (.cd 60 (fun F => c_call F 111 [(.tmp 57), (.tmp 58), (.tmp 59)]) (.vd 56 (o_mov (.tmp 60)) (.vd 61 (o_extract (.tmp 56) 0) (.vd 62 (o_extract (.tmp 56) 1) (.vd 16 (o_mov (.tmp 61)) (.vd 17 (o_mov (.tmp 62)) .nil))))))))))
        (.seq (.ops (.vd 63 (o_mov (.tmp 14)) (.vd 64 (o_mov (.tmp 63)) (.vg 65 64 false (o_mov (.tmp 16)) (.vg 66 64 false (o_bin .neq (.tmp 65) (.const (.int .i64 0))) (.vd 67 (o_pick (.tmp 64) (.const (.bool true)) (.tmp 66)) (.vd 14 (o_mov (.tmp 67)) .nil)))))))
        (.ops (.vd 68 (o_mov (.tmp 0)) (.vd 69 (o_mov (.tmp 8)) (.vd 70 (o_mov (.tmp 15)) (.cd 71 (fun F => c_call F 112 [(.tmp 68), (.tmp 69), (.tmp 70), (.const (.int .i64 0))]) .nil)))))))))
       (.ops (.vd 72 (o_bin .add (.tmp 53) (.const (.int .i64 1))) (.vd 53 (o_mov (.tmp 72)) .nil)))))
def S70_2 : SCode := .seq (.ops (.vd 27 (o_bin .lss (.tmp 26) (.tmp 25)) .nil))
    (.seq (.cond (.tmp 27)
     .skip
     (.exit 0))
    (.seq (.block 1 (.seq (.ops (.vd 28 (o_index 1 (.tmp 24) (.tmp 26)) (.vd 29 (o_load false 1 (.tmp 28)) (.vd 8 (o_mov (.tmp 29)) .nil))))
     (.seq (.ops (.vd 31 (o_mov (.tmp 0)) (.vd 32 (o_mov (.tmp 8)) (.cd 33 (fun F => c_call F 109 [(.tmp 31), (.tmp 32)]) (.vd 30 (o_mov (.tmp 33)) (.vd 34 (o_extract (.tmp 30) 0) (.vd 35 (o_extract (.tmp 30) 1) (.vd 9 (o_new [.int .i64 0, .int .i64 0, .int .i64 0]) (.v none none (o_store 3 (.tmp 9) (.tmp 34)) (.vd 10 (o_mov (.tmp 35)) .nil))))))))))
     (.seq (.ops (.vd 36 (o_load true 3 (.tmp 9)) (.cd 37 (fun F => c_call F 144 [(.tmp 36)]) (.vd 11 (o_mov (.tmp 37)) .nil))))
     (.seq (.seq (.ops (.vd 39 (o_mov (.tmp 0)) (.vd 40 (o_mov (.tmp 8)) (.cd 41 (fun F => c_call F 111 [(.tmp 39), (.tmp 40), (.const (.int .i64 0))]) (.vd 38 (o_mov (.tmp 41)) (.vd 42 (o_extract (.tmp 38) 0) (.vd 43 (o_extract (.tmp 38) 1) (.vd 12 (o_mov (.tmp 42)) (.vd 13 (o_mov (.tmp 43)) .nil)))))))))
     (.seq (.ops (.vd 44 (o_mov (.tmp 11)) (.vd 45 (o_bin .eql (.tmp 44) (.const (.int .i64 0))) (.vd 46 (o_mov (.tmp 45)) (.vg 47 46 false (o_mov (.tmp 0)) (.vg 48 46 false (o_mov (.tmp 1)) (.vg 49 46 false (o_mov (.tmp 12)) (.c (some 50) (some (46, false)) (fun F => c_call F 145 [(.tmp 47), (.tmp 48), (.tmp 49)]) (.vd 51 (o_pick (.tmp 46) (.const (.bool true)) (.tmp 50)) .nil)))))))))
     (.cond (.tmp 51)
      (.exit 1)
      .skip)))
     (.seq (.ops (.vd 14 (o_mov (.const (.bool false))) .nil))
     (.seq (.seq (.ops (.vd 52 (o_mov (.tmp 11)) (.vd 53 (o_mov (.const (.int .i64 0))) .nil)))
     (.block 2 (.loop S70_1)))
     (.seq (.ops (.vd 73 (o_mov (.tmp 14)) .nil))
     (.cond (.tmp 73)
      (.ops (.vd 74 (o_mov (.tmp 6)) (.vd 75 (o_bin .add (.tmp 74) (.const (.int .i64 1))) (.vd 6 (o_mov (.tmp 75)) .nil))))
      .skip)))))))))
    (.ops (.vd 76 (o_bin .add (.tmp 26) (.const (.int .i64 1))) (.vd 26 (o_mov (.tmp 76)) .nil)))))
def S70 : SCode := (.seq (.ops (.vd 4 (o_mov (.const (.int .i64 0))) (.vd 5 (o_mov (.const (.int .i64 0))) .nil)))
  (.seq (.seq (.ops (.vd 18 (o_mov (.tmp 0)) (.vd 19 (o_mov (.tmp 1)) (.cd 20 (fun F => c_call F 142 [(.tmp 18), (.tmp 19)]) (.vd 21 (o_not (.tmp 20)) .nil)))))
  (.cond (.tmp 21)
   (.seq (.ops (.vd 4 (o_mov (.const (.int .i64 0))) (.vd 5 (o_mov (.const (.int .i64 1))) .nil)))
   .ret)
   .skip))
  (.seq (.ops (.vd 6 (o_mov (.const (.int .i64 0))) .nil))
  (.seq (.seq (.ops (.vd 22 (o_mov (.tmp 0)) (.vd 23 (o_mov (.tmp 1)) (.cd 24 (fun F => c_call F 143 [(.tmp 22), (.tmp 23)]) (.vd 25 (o_len (.tmp 24)) (.vd 26 (o_mov (.const (.int .i64 0))) .nil))))))
  (.block 0 (.loop S70_2)))
  (.seq (.ops (.vd 77 (o_mov (.tmp 6)) (.vd 4 (o_mov (.tmp 77)) (.vd 5 (o_mov (.const (.int .i64 0))) .nil))))
  .ret)))))
def X70 : FnS := .code ⟨78, 0, .skip, [.tmp 4, .tmp 5]⟩ S70
theorem x70 : okX Go.Proofs.Tryz.prog 70 X70 := ⟨C70, c70, rfl, rfl, rfl, by kernel_rfl⟩
def S73 : SCode := (.seq (.ops (.vd 6 (o_mov (.const (.bool false))) .nil))
  (.seq (.ops (.vd 7 (o_mov (.tmp 0)) (.vd 8 (o_mov (.tmp 1)) (.cd 9 (fun F => c_call F 142 [(.tmp 7), (.tmp 8)]) (.vd 10 (o_mov (.tmp 9)) (.vg 11 10 true (o_mov (.tmp 0)) (.vg 12 10 true (o_mov (.tmp 1)) (.vg 13 10 true (o_mov (.tmp 2)) (.c (some 14) (some (10, true)) (fun F => c_call F 145 [(.tmp 11), (.tmp 12), (.tmp 13)]) (.vd 15 (o_pick (.tmp 10) (.tmp 14) (.const (.bool false))) (.vd 6 (o_mov (.tmp 15)) .nil)))))))))))
  .ret))
def X73 : FnS := .code ⟨16, 0, .skip, [.tmp 6]⟩ S73
theorem x73 : okX Go.Proofs.Tryz.prog 73 X73 := ⟨C73, c73, rfl, rfl, rfl, by kernel_rfl⟩
def S80_1 : SCode := .seq (.ops (.vd 9 (o_bin .lss (.tmp 8) (.tmp 7)) .nil))
    (.seq (.cond (.tmp 9)
     .skip
     (.exit 0))
    (.seq (.block 1 (.seq (.ops (.vd 10 (o_mov (.tmp 8)) (.vd 5 (o_mov (.tmp 10)) .nil)))
     (.seq (.ops (.vd 11 (o_mov (.tmp 1)) (.vd 12 (o_mov (.tmp 0)) (.vd 13 (o_mov (.tmp 5)) (.vd 14 (o_index 1 (.tmp 12) (.tmp 13)) (.vd 15 (o_load false 1 (.tmp 14)) (.vd 16 (o_bin .eql (.tmp 11) (.tmp 15)) .nil)))))))
     (.cond (.tmp 16)
      (.seq (.ops (.vd 17 (o_mov (.tmp 5)) (.vd 4 (o_mov (.tmp 17)) .nil)))
      .ret)
      .skip))))
    (.ops (.vd 18 (o_bin .add (.tmp 8) (.const (.int .i64 1))) (.vd 8 (o_mov (.tmp 18)) .nil)))))
def S80 : SCode := (.seq (.ops (.vd 4 (o_mov (.const (.int .i64 0))) .nil))
  (.seq (.seq (.ops (.vd 6 (o_mov (.tmp 0)) (.vd 7 (o_len (.tmp 6)) (.vd 8 (o_mov (.const (.int .i64 0))) .nil))))
  (.block 0 (.loop S80_1)))
  (.seq (.ops (.vd 4 (o_mov (.const (.int .i64 (-1)))) .nil))
  .ret)))
def X80 : FnS := .code ⟨19, 0, .skip, [.tmp 4]⟩ S80
theorem x80 : okX Go.Proofs.Tryz.prog 80 X80 := ⟨C80, c80, rfl, rfl, rfl, by kernel_rfl⟩
def S81 : SCode := (.seq (.ops (.vd 4 (o_mov (.const (.bool false))) .nil))
  (.seq (.ops (.vd 5 (o_load false 1 (.tmp 1)) (.vd 6 (o_load false 1 (.tmp 2)) (.vd 7 (o_mov (.tmp 0)) (.cd 8 (fun F => c_call F 73 [(.tmp 5), (.tmp 6), (.tmp 7)]) (.vd 4 (o_mov (.tmp 8)) .nil))))))
  .ret))
def X81 : FnS := .code ⟨9, 0, .skip, [.tmp 4]⟩ S81
theorem x81 : okX Go.Proofs.Tryz.prog 81 X81 := ⟨C81, c81, rfl, rfl, rfl, by kernel_rfl⟩
def S82 : SCode := (.seq (.ops (.vd 6 (o_mov (.const (.int .i64 0))) .nil))
  (.seq (.seq (.ops (.vd 12 (o_mov (.tmp 0)) (.vd 13 (o_mov (.tmp 1)) (.cd 14 (fun F => c_call F 153 [(.tmp 12), (.tmp 13)]) (.vd 7 (o_mov (.tmp 14)) .nil)))))
  (.seq (.ops (.vd 15 (o_mov (.tmp 7)) (.vd 16 (o_bin .neq (.tmp 15) (.const (.int .i64 0))) .nil)))
  (.cond (.tmp 16)
   (.seq (.ops (.vd 17 (o_mov (.tmp 7)) (.vd 6 (o_mov (.tmp 17)) .nil)))
   .ret)
   .skip)))
  (.seq (.ops (.vd 18 (o_mov (.tmp 0)) (.vd 19 (o_mov (.tmp 1)) (.cd 20 (fun F => c_call F 90 [(.tmp 18), (.tmp 19)]) (.vd 8 (o_mov (.tmp 20)) .nil)))))
  (.seq (.seq (.ops (.vd 21 (o_mov (.tmp 0)) (.vd 22 (o_mov (.tmp 2)) (.vd 23 (o_mov (.tmp 8)) (.vd 24 (o_mov (.tmp 1)) (.cd 25 (fun F => c_call F 93 [(.tmp 21), (.tmp 22), (.tmp 23), (.tmp 24)]) (.vd 9 (o_mov (.tmp 25)) .nil)))))))
  (.seq (.ops (.vd 26 (o_mov (.tmp 9)) (.vd 27 (o_bin .neq (.tmp 26) (.const (.int .i64 0))) .nil)))
  (.cond (.tmp 27)
   (.seq (.ops (.vd 28 (o_mov (.tmp 9)) (.vd 6 (o_mov (.tmp 28)) .nil)))
   .ret)
   .skip)))
  (.seq (.ops (.vd 29 (o_mov (.tmp 0)) (.vd 30 (o_nilCheck (.tmp 29)) (.vd 31 (o_field 3 (.tmp 30)) (.vd 32 (o_load false 1 (.tmp 31)) (.vd 33 (o_mov (.tmp 1)) (.vd 34 (o_bin .quo (.tmp 33) (.const (.int .i64 2))) (.cd 35 (fun F => c_call F 99 [(.tmp 32), (.tmp 34)]) (.vd 10 (o_mov (.tmp 35)) .nil)))))))))
  (.seq (.ops (.vd 36 (o_mov (.tmp 8)) (.vd 37 (o_makeSlice 1 [.int .i64 0] (.tmp 36) (.tmp 36)) (.vd 11 (o_mov (.tmp 37)) .nil))))
  (.seq (.ops (.vd 38 (o_mov (.tmp 11)) (.vd 39 (o_mov (.tmp 0)) (.vd 40 (o_nilCheck (.tmp 39)) (.vd 41 (o_field 1 (.tmp 40)) (.vd 42 (o_load false 1 (.tmp 41)) (.vd 43 (o_mov (.tmp 1)) (.vd 44 (o_mov (.tmp 1)) (.vd 45 (o_mov (.tmp 8)) (.vd 46 (o_bin .add (.tmp 44) (.tmp 45)) (.vd 47 (o_slice 1 (.tmp 42) (some (.tmp 43)) (some (.tmp 46)) none) (.vd 48 (o_copy 1 (.tmp 38) (.tmp 47)) .nil))))))))))))
  (.seq (.ops (.vd 49 (o_mov (.tmp 0)) (.vd 50 (o_nilCheck (.tmp 49)) (.vd 51 (o_field 2 (.tmp 50)) (.vd 52 (o_load false 1 (.tmp 51)) (.vd 53 (o_mov (.tmp 1)) (.vd 54 (o_bin .quo (.tmp 53) (.const (.int .i64 2))) (.cd 55 (fun F => c_call F 96 [(.tmp 52), (.tmp 54), (.const (.int .i64 0))]) .nil))))))))
  (.seq (.ops (.vd 56 (o_mov (.tmp 0)) (.vd 57 (o_nilCheck (.tmp 56)) (.vd 58 (o_field 3 (.tmp 57)) (.vd 59 (o_load false 1 (.tmp 58)) (.vd 60 (o_mov (.tmp 1)) (.vd 61 (o_bin .quo (.tmp 60) (.const (.int .i64 2))) (.cd 62 (fun F => c_call F 96 [(.tmp 59), (.tmp 61), (.const (.int .i64 0))]) .nil))))))))
  (.seq (.ops (.vd 63 (o_mov (.tmp 0)) (.vd 64 (o_mov (.tmp 1)) (.vd 65 (o_mov (.tmp 8)) (.cd 66 (fun F => c_call F 154 [(.tmp 63), (.tmp 64), (.tmp 65)]) .nil)))))
  (.seq (.ops (.vd 67 (o_mov (.tmp 0)) (.vd 68 (o_nilCheck (.tmp 67)) (.vd 69 (o_field 1 (.tmp 68)) (.vd 70 (o_load false 1 (.tmp 69)) (.vd 71 (o_mov (.tmp 2)) (.vd 72 (o_slice 1 (.tmp 70) (some (.tmp 71)) none none) (.vd 73 (o_mov (.tmp 11)) (.vd 74 (o_copy 1 (.tmp 72) (.tmp 73)) .nil)))))))))
  (.seq (.ops (.vd 75 (o_mov (.tmp 0)) (.vd 76 (o_nilCheck (.tmp 75)) (.vd 77 (o_field 2 (.tmp 76)) (.vd 78 (o_load false 1 (.tmp 77)) (.vd 79 (o_mov (.tmp 2)) (.vd 80 (o_bin .quo (.tmp 79) (.const (.int .i64 2))) (.cd 81 (fun F => c_call F 96 [(.tmp 78), (.tmp 80), (.const (.int .i64 1))]) .nil))))))))
  (.seq (.ops (.vd 82 (o_mov (.tmp 0)) (.vd 83 (o_nilCheck (.tmp 82)) (.vd 84 (o_field 3 (.tmp 83)) (.vd 85 (o_load false 1 (.tmp 84)) (.vd 86 (o_mov (.tmp 2)) (.vd 87 (o_bin .quo (.tmp 86) (.const (.int .i64 2))) (.vd 88 (o_mov (.tmp 10)) (.cd 89 (fun F => c_call F 96 [(.tmp 85), (.tmp 87), (.tmp 88)]) .nil)))))))))
  (.seq (.dregion [⟨⟨some 90, none, .mov (.tmp 0)⟩, 0, 0, 0⟩, ⟨⟨some 91, none, .nilCheck (.tmp 90)⟩, 1, 0, 0⟩, ⟨⟨some 92, none, .field 4 (.tmp 91)⟩, 2, 0, 0⟩, ⟨⟨some 93, none, .load false 1 (.tmp 92)⟩, 3, 1, 0⟩, ⟨⟨some 94, none, .mov (.tmp 11)⟩, 4, 0, 0⟩, ⟨⟨some 95, none, .index 1 (.tmp 94) (.const (.int .i64 0))⟩, 5, 0, 0⟩, ⟨⟨some 96, none, .load false 1 (.tmp 95)⟩, 6, 1, 0⟩, ⟨⟨some 97, none, .mov (.tmp 2)⟩, 7, 0, 0⟩, ⟨⟨none, none, .mapSet .i64 (.tmp 93) (.tmp 96) (.tmp 97)⟩, 8, 3, 0⟩])
  (.seq (.ops (.vd 98 (o_mov (.tmp 0)) (.vd 99 (o_nilCheck (.tmp 98)) (.vd 100 (o_field 5 (.tmp 99)) (.vd 101 (o_load false 1 (.tmp 100)) (.vd 102 (o_mov (.tmp 1)) (.vd 103 (o_mov (.tmp 2)) (.v none none (o_mapSet .i64 (.tmp 101) (.tmp 102) (.tmp 103)) .nil))))))))
  (.seq (.ops (.vd 6 (o_mov (.const (.int .i64 0))) .nil))
  .ret))))))))))))))))
def X82 : FnS := .code ⟨104, 0, .skip, [.tmp 6]⟩ S82
theorem x82 : okX Go.Proofs.Tryz.prog 82 X82 := ⟨C82, c82, rfl, rfl, rfl, by kernel_rfl⟩
def S83 : SCode := (.seq (.ops (.vd 2 (o_mov (.const (.bool false))) .nil))
  (.seq (.ops (.vd 3 (o_mov (.tmp 0)) (.vd 4 (o_eqv true 1 (.tmp 3) (.const (.nilPtr))) (.vd 5 (o_mov (.tmp 4)) (.vg 6 5 true (o_mov (.tmp 0)) (.vg 7 5 true (o_nilCheck (.tmp 6)) (.vg 8 5 true (o_field 0 (.tmp 7)) (.vg 9 5 true (o_load false 1 (.tmp 8)) (.vg 10 5 true (o_len (.tmp 9)) (.vg 11 5 true (o_bin .gtr (.tmp 10) (.const (.int .i64 0))) (.vd 12 (o_pick (.tmp 5) (.tmp 11) (.const (.bool false))) (.vd 2 (o_mov (.tmp 12)) .nil))))))))))))
  .ret))
def X83 : FnS := .code ⟨13, 0, .skip, [.tmp 2]⟩ S83
theorem x83 : okX Go.Proofs.Tryz.prog 83 X83 := ⟨C83, c83, rfl, rfl, rfl, by kernel_rfl⟩
def S84 : SCode := (.seq (.ops (.vd 2 (o_mov (.const (.bool false))) .nil))
  (.seq (.ops (.vd 3 (o_mov (.tmp 0)) (.vd 4 (o_eqv true 1 (.tmp 3) (.const (.nilPtr))) (.vd 5 (o_mov (.tmp 4)) (.vg 6 5 true (o_mov (.tmp 0)) (.vg 7 5 true (o_nilCheck (.tmp 6)) (.vg 8 5 true (o_field 0 (.tmp 7)) (.vg 9 5 true (o_load false 1 (.tmp 8)) (.vg 10 5 true (o_bin .gtr (.tmp 9) (.const (.int .i64 0))) (.vd 11 (o_pick (.tmp 5) (.tmp 10) (.const (.bool false))) (.vd 2 (o_mov (.tmp 11)) .nil)))))))))))
  .ret))
def X84 : FnS := .code ⟨12, 0, .skip, [.tmp 2]⟩ S84
theorem x84 : okX Go.Proofs.Tryz.prog 84 X84 := ⟨C84, c84, rfl, rfl, rfl, by kernel_rfl⟩
def S85_1 : SCode := .seq (.ops (.vd 67 (o_bin .lss (.tmp 66) (.tmp 65)) .nil))
    (.seq (.cond (.tmp 67)
     .skip
     (.exit 5))
    (.seq (.block 6 (.seq (.ops (.vd 68 (o_index 1 (.tmp 64) (.tmp 66)) (.vd 69 (o_load false 1 (.tmp 68)) (.vd 15 (o_mov (.tmp 69)) .nil))))
     (.seq (.ops (.vd 70 (o_mov (.tmp 7)) (.vd 71 (o_mov (.tmp 0)) (.vd 72 (o_mov (.tmp 15)) (.cd 73 (fun F => c_call F 107 [(.tmp 71), (.tmp 72)]) (.cd 74 (fun F => c_call F 156 [(.tmp 70), (.tmp 73)]) (.vd 16 (o_mov (.tmp 74)) .nil)))))))
     (.seq (.ops (.vd 75 (o_mov (.tmp 16)) (.vd 76 (o_mov (.tmp 15)) (.vd 77 (o_bin .neq (.tmp 75) (.tmp 76)) .nil))))
     (.cond (.tmp 77)
      (.ops (.vd 78 (o_mov (.tmp 13)) (.vd 79 (o_mov (.tmp 15)) (.vd 80 (o_mov (.tmp 16)) (.vd 81 (o_build [.int .i64 0, .int .i64 0] [(0, 1, (.tmp 79)), (1, 1, (.tmp 80))]) (.vd 82 (o_buildSlice 2 [.int .i64 0, .int .i64 0] 1 [(0, 2, (.tmp 81))]) (.vd 83 (o_append 2 (.tmp 78) (.tmp 82)) (.vd 13 (o_mov (.tmp 83)) .nil))))))))
      .skip)))))
    (.ops (.vd 84 (o_bin .add (.tmp 66) (.const (.int .i64 1))) (.vd 66 (o_mov (.tmp 84)) .nil)))))
def S85_2 : SCode := .seq (.ops (.vd 37 (o_bin .lss (.tmp 36) (.tmp 35)) .nil))
       (.seq (.cond (.tmp 37)
        .skip
        (.exit 2))
       (.seq (.block 3 (.seq (.ops (.vd 38 (o_index 1 (.tmp 34) (.tmp 36)) (.vd 39 (o_load false 1 (.tmp 38)) (.vd 12 (o_mov (.tmp 39)) .nil))))
        (.seq (.ops (.vd 40 (o_mov (.tmp 0)) (.vd 41 (o_mov (.tmp 1)) (.vd 42 (o_mov (.tmp 12)) (.cd 43 (fun F => c_call F 155 [(.tmp 40), (.tmp 41), (.tmp 42)]) .nil)))))
        (.block 4 (.seq (.ops (.vd 45 (o_bin .eql (.tmp 43) (.const (.int .i64 1))) (.vd 44 (o_mov (.tmp 45)) .nil)))
         (.cond (.tmp 44)
          (.ops (.vd 46 (o_mov (.tmp 7)) (.vd 47 (o_mov (.tmp 7)) (.vd 48 (o_nilCheck (.tmp 47)) (.vd 49 (o_field 4 (.tmp 48)) (.vd 50 (o_load false 1 (.tmp 49)) (.vd 51 (o_mov (.tmp 12)) (.vd 52 (o_buildSlice 1 [.int .i64 0] 1 [(0, 1, (.tmp 51))]) (.vd 53 (o_append 1 (.tmp 50) (.tmp 52)) (.vd 54 (o_nilCheck (.tmp 46)) (.vd 55 (o_field 4 (.tmp 54)) (.v none none (o_store 1 (.tmp 55) (.tmp 53)) .nil))))))))))))
          (.seq (.ops (.vd 57 (o_bin .eql (.tmp 43) (.const (.int .i64 2))) (.vd 56 (o_mov (.tmp 57)) .nil)))
          (.cond (.tmp 56)
           (.ops (.vd 58 (o_mov (.tmp 8)) (.vd 59 (o_mov (.tmp 12)) (.vd 60 (o_buildSlice 1 [.int .i64 0] 1 [(0, 1, (.tmp 59))]) (.vd 61 (o_append 1 (.tmp 58) (.tmp 60)) (.vd 8 (o_mov (.tmp 61)) .nil))))))
           .skip))))))))
       (.ops (.vd 62 (o_bin .add (.tmp 36) (.const (.int .i64 1))) (.vd 36 (o_mov (.tmp 62)) .nil)))))
def S85_3 : SCode := .seq (.ops (.vd 29 (o_bin .lss (.tmp 28) (.tmp 27)) .nil))
    (.seq (.cond (.tmp 29)
     .skip
     (.exit 0))
    (.seq (.block 1 (.seq (.ops (.vd 30 (o_index 1 (.tmp 26) (.tmp 28)) (.vd 31 (o_load false 1 (.tmp 30)) (.vd 10 (o_mov (.tmp 31)) .nil))))
     (.seq (.ops (.vd 32 (o_mov (.tmp 0)) (.vd 33 (o_mov (.tmp 10)) (.cd 34 (fun F => c_call F 35 [(.tmp 32), (.tmp 33)]) (.vd 35 (o_len (.tmp 34)) (.vd 36 (o_mov (.const (.int .i64 0))) .nil))))))
     (.block 2 (.loop S85_2)))))
    (.ops (.vd 63 (o_bin .add (.tmp 28) (.const (.int .i64 1))) (.vd 28 (o_mov (.tmp 63)) .nil)))))
def S85 : SCode := (.seq (.ops (.vd 6 (o_mov (.const (.nilSlice))) .nil))
  (.seq (.ops (.vd 17 (o_mov (.tmp 0)) (.vd 18 (o_mov (.tmp 0)) (.vd 19 (o_mov (.tmp 2)) (.cd 20 (fun F => c_call F 34 [(.tmp 18), (.tmp 19)]) (.vd 21 (o_build [.nilPtr, .nilSlice, .int .i64 0, .int .i64 0, .nilSlice] [(0, 1, (.tmp 17)), (1, 1, (.tmp 20))]) (.vd 22 (o_box (.tmp 21)) (.vd 7 (o_mov (.tmp 22)) .nil))))))))
  (.seq (.ops (.vd 8 (o_mov (.const (.nilSlice))) .nil))
  (.seq (.seq (.ops (.vd 23 (o_mov (.tmp 7)) (.vd 24 (o_nilCheck (.tmp 23)) (.vd 25 (o_field 1 (.tmp 24)) (.vd 26 (o_load false 1 (.tmp 25)) (.vd 27 (o_len (.tmp 26)) (.vd 28 (o_mov (.const (.int .i64 0))) .nil)))))))
  (.block 0 (.loop S85_3)))
  (.seq (.ops (.vd 13 (o_mov (.const (.nilSlice))) .nil))
  (.seq (.seq (.ops (.vd 64 (o_mov (.tmp 8)) (.vd 65 (o_len (.tmp 64)) (.vd 66 (o_mov (.const (.int .i64 0))) .nil))))
  (.block 5 (.loop S85_1)))
  (.seq (.ops (.vd 85 (o_mov (.tmp 13)) (.vd 6 (o_mov (.tmp 85)) .nil)))
  .ret)))))))
def X85 : FnS := .code ⟨86, 0, .skip, [.tmp 6]⟩ S85
theorem x85 : okX Go.Proofs.Tryz.prog 85 X85 := ⟨C85, c85, rfl, rfl, rfl, by kernel_rfl⟩
def S86 : SCode := (.seq (.ops (.vd 4 (o_mov (.const (.int .i64 0))) .nil))
  (.seq (.seq (.ops (.vd 5 (o_mov (.tmp 1)) (.vd 6 (o_bin .lss (.tmp 5) (.const (.int .i64 0))) (.vd 7 (o_mov (.tmp 6)) (.vg 8 7 false (o_mov (.tmp 1)) (.vg 9 7 false (o_mov (.tmp 0)) (.c (some 10) (some (7, false)) (fun F => c_call F 30 [(.tmp 9)]) (.vg 11 7 false (o_bin .geq (.tmp 8) (.tmp 10)) (.vd 12 (o_pick (.tmp 7) (.const (.bool true)) (.tmp 11)) .nil)))))))))
  (.cond (.tmp 12)
   (.seq (.ops (.vd 4 (o_mov (.const (.int .i64 (-1)))) .nil))
   .ret)
   .skip))
  (.seq (.ops (.vd 13 (o_mov (.tmp 0)) (.vd 14 (o_nilCheck (.tmp 13)) (.vd 15 (o_field 0 (.tmp 14)) (.vd 16 (o_load false 1 (.tmp 15)) (.vd 17 (o_mov (.tmp 1)) (.vd 18 (o_index 2 (.tmp 16) (.tmp 17)) (.vd 19 (o_field 1 (.tmp 18)) (.vd 20 (o_load false 1 (.tmp 19)) (.vd 4 (o_mov (.tmp 20)) .nil))))))))))
  .ret)))
def X86 : FnS := .code ⟨21, 0, .skip, [.tmp 4]⟩ S86
theorem x86 : okX Go.Proofs.Tryz.prog 86 X86 := ⟨C86, c86, rfl, rfl, rfl, by kernel_rfl⟩
def S87_1 : SCode := .seq (.seq (.ops (.vd 20 (o_mov (.tmp 9)) (.vd 21 (o_bin .eql (.tmp 20) (.const (.int .i64 0))) (.vd 22 (o_mov (.tmp 21)) (.vg 23 22 true (o_mov (.tmp 8)) (.vg 24 22 true (o_bin .mul (.const (.int .i64 2)) (.tmp 23)) (.vg 25 22 true (o_mov (.tmp 2)) (.vg 26 22 true (o_bin .lss (.tmp 24) (.tmp 25)) (.vd 27 (o_pick (.tmp 22) (.tmp 26) (.const (.bool false))) .nil)))))))))
    (.cond (.tmp 27)
     .skip
     (.exit 0)))
    (.seq (.block 1 (.ops (.vd 38 (o_mov (.tmp 7)) (.vd 39 (o_mov (.tmp 8)) (.vd 40 (o_bin .mul (.const (.int .i64 2)) (.tmp 39)) (.vd 41 (o_buildSlice 1 [.int .i64 0] 1 [(0, 1, (.tmp 40))]) (.vd 42 (o_append 1 (.tmp 38) (.tmp 41)) (.vd 7 (o_mov (.tmp 42)) .nil))))))))
    (.ops (.vd 29 (o_mov (.tmp 0)) (.vd 30 (o_nilCheck (.tmp 29)) (.vd 31 (o_field 2 (.tmp 30)) (.vd 32 (o_load false 1 (.tmp 31)) (.vd 33 (o_mov (.tmp 8)) (.vd 34 (o_bin .add (.tmp 33) (.const (.int .i64 1))) (.cd 35 (fun F => c_call F 157 [(.tmp 32), (.tmp 34), (.const (.int .i64 1))]) (.vd 28 (o_mov (.tmp 35)) (.vd 36 (o_extract (.tmp 28) 0) (.vd 37 (o_extract (.tmp 28) 1) (.vd 8 (o_mov (.tmp 36)) (.vd 9 (o_mov (.tmp 37)) .nil))))))))))))))
def S87 : SCode := (.seq (.ops (.vd 6 (o_mov (.const (.nilSlice))) .nil))
  (.seq (.ops (.vd 7 (o_mov (.const (.nilSlice))) .nil))
  (.seq (.seq (.ops (.vd 11 (o_mov (.tmp 0)) (.vd 12 (o_nilCheck (.tmp 11)) (.vd 13 (o_field 2 (.tmp 12)) (.vd 14 (o_load false 1 (.tmp 13)) (.vd 15 (o_mov (.tmp 1)) (.vd 16 (o_bin .quo (.tmp 15) (.const (.int .i64 2))) (.cd 17 (fun F => c_call F 157 [(.tmp 14), (.tmp 16), (.const (.int .i64 1))]) (.vd 10 (o_mov (.tmp 17)) (.vd 18 (o_extract (.tmp 10) 0) (.vd 19 (o_extract (.tmp 10) 1) (.vd 8 (o_mov (.tmp 18)) (.vd 9 (o_mov (.tmp 19)) .nil)))))))))))))
  (.block 0 (.loop S87_1)))
  (.seq (.ops (.vd 43 (o_mov (.tmp 7)) (.vd 6 (o_mov (.tmp 43)) .nil)))
  .ret))))
def X87 : FnS := .code ⟨44, 0, .skip, [.tmp 6]⟩ S87
theorem x87 : okX Go.Proofs.Tryz.prog 87 X87 := ⟨C87, c87, rfl, rfl, rfl, by kernel_rfl⟩
def S90 : SCode := (.seq (.ops (.vd 4 (o_mov (.const (.int .i64 0))) .nil))
  (.seq (.ops (.vd 5 (o_mov (.tmp 0)) (.vd 6 (o_nilCheck (.tmp 5)) (.vd 7 (o_field 1 (.tmp 6)) (.vd 8 (o_load false 1 (.tmp 7)) (.vd 9 (o_mov (.tmp 1)) (.vd 10 (o_bin .add (.tmp 9) (.const (.int .i64 1))) (.vd 11 (o_index 1 (.tmp 8) (.tmp 10)) (.vd 12 (o_load false 1 (.tmp 11)) (.cd 13 (fun F => c_call F 159 [(.tmp 12)]) (.cd 14 (fun F => c_call F 94 [(.tmp 13)]) (.vd 4 (o_mov (.tmp 14)) .nil))))))))))))
  .ret))
def X90 : FnS := .code ⟨15, 0, .skip, [.tmp 4]⟩ S90
theorem x90 : okX Go.Proofs.Tryz.prog 90 X90 := ⟨C90, c90, rfl, rfl, rfl, by kernel_rfl⟩
def S91_1 : SCode := .seq (.ops (.vd 55 (o_bin .lss (.tmp 54) (.tmp 53)) .nil))
    (.seq (.cond (.tmp 55)
     .skip
     (.exit 1))
    (.seq (.block 2 (.seq (.ops (.vd 56 (o_mov (.tmp 54)) (.vd 11 (o_mov (.tmp 56)) .nil)))
     (.dregion [⟨⟨some 57, none, .mov (.tmp 0)⟩, 0, 0, 0⟩, ⟨⟨some 58, none, .nilCheck (.tmp 57)⟩, 1, 0, 0⟩, ⟨⟨some 59, none, .field 0 (.tmp 58)⟩, 2, 0, 0⟩, ⟨⟨some 60, none, .load false 1 (.tmp 59)⟩, 3, 1, 0⟩, ⟨⟨some 61, none, .mov (.tmp 1)⟩, 4, 0, 0⟩, ⟨⟨some 62, none, .mov (.tmp 11)⟩, 5, 0, 0⟩, ⟨⟨some 63, none, .bin .add (.tmp 61) (.tmp 62)⟩, 6, 0, 0⟩, ⟨⟨some 64, none, .load true 2 (.tmp 9)⟩, 7, 1, 0⟩, ⟨⟨some 65, none, .index 2 (.tmp 60) (.tmp 63)⟩, 8, 0, 0⟩, ⟨⟨none, none, .store 2 (.tmp 65) (.tmp 64)⟩, 9, 3, 0⟩])))
    (.ops (.vd 66 (o_bin .add (.tmp 54) (.const (.int .i64 1))) (.vd 54 (o_mov (.tmp 66)) .nil)))))
def S91 : SCode := (.seq (.ops (.vd 8 (o_box (.tmp 3)) (.vd 9 (o_box (.tmp 4)) (.vd 10 (o_mov (.const (.int .i64 0))) .nil))))
  (.seq (.block 0 (.seq (.ops (.vd 13 (o_mov (.tmp 0)) (.cd 14 (fun F => c_call F 83 [(.tmp 13)]) (.vd 15 (o_not (.tmp 14)) (.vd 12 (o_mov (.tmp 15)) .nil)))))
   (.cond (.tmp 12)
    (.seq (.ops (.vd 10 (o_mov (.const (.int .i64 5))) .nil))
    .ret)
    (.seq (.ops (.vd 17 (o_mov (.tmp 0)) (.vd 18 (o_mov (.tmp 1)) (.cd 19 (fun F => c_call F 158 [(.tmp 17), (.tmp 18)]) (.vd 20 (o_not (.tmp 19)) (.vd 21 (o_mov (.tmp 20)) (.vg 22 21 false (o_mov (.tmp 2)) (.vg 23 21 false (o_bin .lss (.tmp 22) (.const (.int .i64 1))) (.vd 24 (o_pick (.tmp 21) (.const (.bool true)) (.tmp 23)) (.vd 25 (o_mov (.tmp 24)) (.vg 26 25 false (o_mov (.tmp 2)) (.vg 27 25 false (o_mov (.tmp 0)) (.vg 28 25 false (o_nilCheck (.tmp 27)) (.vg 29 25 false (o_field 0 (.tmp 28)) (.vg 30 25 false (o_load false 1 (.tmp 29)) (.vg 31 25 false (o_len (.tmp 30)) (.vg 32 25 false (o_mov (.tmp 1)) (.vg 33 25 false (o_bin .sub (.tmp 31) (.tmp 32)) (.vg 34 25 false (o_bin .gtr (.tmp 26) (.tmp 33)) (.vd 35 (o_pick (.tmp 25) (.const (.bool true)) (.tmp 34)) (.vd 36 (o_mov (.tmp 35)) (.vg 37 36 false (o_field 1 (.tmp 8)) (.vg 38 36 false (o_load false 1 (.tmp 37)) (.c (some 39) (some (36, false)) (fun F => c_call F 160 [(.tmp 38)]) (.vg 40 36 false (o_not (.tmp 39)) (.vd 41 (o_pick (.tmp 36) (.const (.bool true)) (.tmp 40)) (.vd 16 (o_mov (.tmp 41)) .nil)))))))))))))))))))))))))))
    (.cond (.tmp 16)
     (.seq (.ops (.vd 10 (o_mov (.const (.int .i64 1))) .nil))
     .ret)
     (.seq (.ops (.vd 43 (o_mov (.tmp 0)) (.vd 44 (o_nilCheck (.tmp 43)) (.vd 45 (o_field 0 (.tmp 44)) (.vd 46 (o_load false 1 (.tmp 45)) (.vd 47 (o_mov (.tmp 1)) (.vd 48 (o_mov (.tmp 1)) (.vd 49 (o_mov (.tmp 2)) (.vd 50 (o_bin .add (.tmp 48) (.tmp 49)) (.vd 51 (o_slice 2 (.tmp 46) (some (.tmp 47)) (some (.tmp 50)) none) (.cd 52 (fun F => c_call F 161 [(.tmp 51), (.const (.func 162 []))]) (.vd 42 (o_mov (.tmp 52)) .nil))))))))))))
     (.cond (.tmp 42)
      (.seq (.ops (.vd 10 (o_mov (.const (.int .i64 8))) .nil))
      .ret)
      .skip)))))))
  (.seq (.seq (.ops (.vd 53 (o_mov (.tmp 2)) (.vd 54 (o_mov (.const (.int .i64 0))) .nil)))
  (.block 1 (.loop S91_1)))
  (.seq (.dregion [⟨⟨some 67, none, .mov (.tmp 0)⟩, 0, 0, 0⟩, ⟨⟨some 68, none, .nilCheck (.tmp 67)⟩, 1, 0, 0⟩, ⟨⟨some 69, none, .field 0 (.tmp 68)⟩, 2, 0, 0⟩, ⟨⟨some 70, none, .load false 1 (.tmp 69)⟩, 3, 1, 0⟩, ⟨⟨some 71, none, .mov (.tmp 1)⟩, 4, 0, 0⟩, ⟨⟨some 72, none, .load true 2 (.tmp 8)⟩, 5, 1, 0⟩, ⟨⟨some 73, none, .index 2 (.tmp 70) (.tmp 71)⟩, 6, 0, 0⟩, ⟨⟨none, none, .store 2 (.tmp 73) (.tmp 72)⟩, 7, 3, 0⟩])
  (.seq (.ops (.vd 10 (o_mov (.const (.int .i64 0))) .nil))
  .ret)))))
def X91 : FnS := .code ⟨74, 0, .skip, [.tmp 10]⟩ S91
theorem x91 : okX Go.Proofs.Tryz.prog 91 X91 := ⟨C91, c91, rfl, rfl, rfl, by kernel_rfl⟩
def S92 : SCode := (.seq (.ops (.vd 1 (o_box (.tmp 0)) (.vd 2 (o_mov (.const (.bool false))) .nil)))
  (.seq (.ops (.vd 3 (o_field 0 (.tmp 1)) (.vd 4 (o_load false 1 (.tmp 3)) (.vd 5 (o_bin .geq (.tmp 4) (.const (.int .i64 0))) (.vd 6 (o_mov (.tmp 5)) (.vg 7 6 true (o_field 0 (.tmp 1)) (.vg 8 6 true (o_load false 1 (.tmp 7)) (.vg 9 6 true (o_bin .leq (.tmp 8) (.const (.int .i64 15))) (.vd 10 (o_pick (.tmp 6) (.tmp 9) (.const (.bool false))) (.vd 11 (o_mov (.tmp 10)) (.vg 12 11 true (o_field 1 (.tmp 1)) (.vg 13 11 true (o_load false 1 (.tmp 12)) (.vg 14 11 true (o_bin .geq (.tmp 13) (.const (.int .i64 0))) (.vd 15 (o_pick (.tmp 11) (.tmp 14) (.const (.bool false))) (.vd 16 (o_mov (.tmp 15)) (.vg 17 16 true (o_field 1 (.tmp 1)) (.vg 18 16 true (o_load false 1 (.tmp 17)) (.vg 19 16 true (o_bin .leq (.tmp 18) (.const (.int .i64 200))) (.vd 20 (o_pick (.tmp 16) (.tmp 19) (.const (.bool false))) (.vd 21 (o_mov (.tmp 20)) (.vg 22 21 true (o_field 2 (.tmp 1)) (.vg 23 21 true (o_load false 1 (.tmp 22)) (.vg 24 21 true (o_bin .geq (.tmp 23) (.const (.int .i64 0))) (.vd 25 (o_pick (.tmp 21) (.tmp 24) (.const (.bool false))) (.vd 26 (o_mov (.tmp 25)) (.vg 27 26 true (o_field 2 (.tmp 1)) (.vg 28 26 true (o_load false 1 (.tmp 27)) (.vg 29 26 true (o_bin .leq (.tmp 28) (.const (.int .i64 3))) (.vd 30 (o_pick (.tmp 26) (.tmp 29) (.const (.bool false))) (.vd 31 (o_mov (.tmp 30)) (.vg 32 31 true (o_field 2 (.tmp 1)) (.vg 33 31 true (o_load false 1 (.tmp 32)) (.vg 34 31 true (o_bin .neq (.tmp 33) (.const (.int .i64 1))) (.vg 35 31 true (o_mov (.tmp 34)) (.vg 36 35 false (o_field 0 (.tmp 1)) (.vg 37 35 false (o_load false 1 (.tmp 36)) (.vg 38 35 false (o_bin .geq (.tmp 37) (.const (.int .i64 1))) (.vg 39 31 true (o_pick (.tmp 35) (.const (.bool true)) (.tmp 38)) (.vd 40 (o_pick (.tmp 31) (.tmp 39) (.const (.bool false))) (.vd 41 (o_mov (.tmp 40)) (.vg 42 41 true (o_field 2 (.tmp 1)) (.vg 43 41 true (o_load false 1 (.tmp 42)) (.vg 44 41 true (o_bin .neq (.tmp 43) (.const (.int .i64 2))) (.vg 45 41 true (o_mov (.tmp 44)) (.vg 46 45 false (o_field 0 (.tmp 1)) (.vg 47 45 false (o_load false 1 (.tmp 46)) (.vg 48 45 false (o_bin .geq (.tmp 47) (.const (.int .i64 2))) (.vg 49 41 true (o_pick (.tmp 45) (.const (.bool true)) (.tmp 48)) (.vd 50 (o_pick (.tmp 41) (.tmp 49) (.const (.bool false))) (.vd 2 (o_mov (.tmp 50)) .nil))))))))))))))))))))))))))))))))))))))))))))))))))
  .ret))
def X92 : FnS := .code ⟨51, 0, .skip, [.tmp 2]⟩ S92
theorem x92 : okX Go.Proofs.Tryz.prog 92 X92 := ⟨C92, c92, rfl, rfl, rfl, by kernel_rfl⟩
def S93_1 : SCode := .seq (.seq (.ops (.vd 76 (o_mov (.tmp 10)) (.vd 77 (o_mov (.tmp 1)) (.vd 78 (o_mov (.tmp 2)) (.vd 79 (o_bin .add (.tmp 77) (.tmp 78)) (.vd 80 (o_bin .lss (.tmp 76) (.tmp 79)) .nil))))))
    (.cond (.tmp 80)
     .skip
     (.exit 0)))
    (.seq (.block 1 (.seq (.ops (.vd 84 (o_mov (.tmp 0)) (.vd 85 (o_mov (.tmp 10)) (.cd 86 (fun F => c_call F 131 [(.tmp 84), (.tmp 85)]) (.vd 83 (o_mov (.tmp 86)) (.vd 87 (o_extract (.tmp 83) 0) (.vd 88 (o_extract (.tmp 83) 1) (.vd 11 (o_mov (.tmp 87)) (.vd 12 (o_mov (.tmp 88)) .nil)))))))))
     (.seq (.ops (.vd 89 (o_mov (.tmp 12)) (.vd 90 (o_bin .eql (.tmp 89) (.const (.int .i64 0))) (.vd 91 (o_mov (.tmp 90)) (.vg 92 91 true (o_mov (.tmp 11)) (.vg 93 91 true (o_mov (.tmp 3)) (.vg 94 91 true (o_bin .neq (.tmp 92) (.tmp 93)) (.vd 95 (o_pick (.tmp 91) (.tmp 94) (.const (.bool false))) .nil))))))))
     (.cond (.tmp 95)
      (.seq (.ops (.vd 8 (o_mov (.const (.int .i64 8))) .nil))
      .ret)
      .skip))))
    (.ops (.vd 81 (o_mov (.tmp 10)) (.vd 82 (o_bin .add (.tmp 81) (.const (.int .i64 2))) (.vd 10 (o_mov (.tmp 82)) .nil)))))
def S93 : SCode := (.seq (.ops (.vd 8 (o_mov (.const (.int .i64 0))) .nil))
  (.seq (.seq (.ops (.vd 13 (o_mov (.tmp 1)) (.vd 14 (o_bin .lss (.tmp 13) (.const (.int .i64 0))) (.vd 15 (o_mov (.tmp 14)) (.vg 16 15 false (o_mov (.tmp 1)) (.vg 17 15 false (o_mov (.tmp 0)) (.vg 18 15 false (o_nilCheck (.tmp 17)) (.vg 19 15 false (o_field 1 (.tmp 18)) (.vg 20 15 false (o_load false 1 (.tmp 19)) (.vg 21 15 false (o_len (.tmp 20)) (.vg 22 15 false (o_bin .geq (.tmp 16) (.tmp 21)) (.vd 23 (o_pick (.tmp 15) (.const (.bool true)) (.tmp 22)) (.vd 24 (o_mov (.tmp 23)) (.vg 25 24 false (o_mov (.tmp 1)) (.vg 26 24 false (o_bin .rem (.tmp 25) (.const (.int .i64 2))) (.vg 27 24 false (o_bin .neq (.tmp 26) (.const (.int .i64 0))) (.vd 28 (o_pick (.tmp 24) (.const (.bool true)) (.tmp 27)) .nil)))))))))))))))))
  (.cond (.tmp 28)
   (.seq (.ops (.vd 8 (o_mov (.const (.int .i64 1))) .nil))
   .ret)
   .skip))
  (.seq (.ops (.vd 29 (o_mov (.tmp 1)) (.vd 30 (o_bin .quo (.tmp 29) (.const (.int .i64 64))) (.vd 9 (o_mov (.tmp 30)) .nil))))
  (.seq (.seq (.ops (.vd 31 (o_mov (.tmp 2)) (.vd 32 (o_bin .leq (.tmp 31) (.const (.int .i64 32))) .nil)))
  (.cond (.tmp 32)
   (.seq (.ops (.vd 33 (o_mov (.tmp 0)) (.vd 34 (o_nilCheck (.tmp 33)) (.vd 35 (o_field 0 (.tmp 34)) (.vd 36 (o_load false 1 (.tmp 35)) (.vd 37 (o_mov (.tmp 9)) (.vd 38 (o_index 2 (.tmp 36) (.tmp 37)) (.vd 39 (o_field 0 (.tmp 38)) (.vd 40 (o_load false 1 (.tmp 39)) (.vd 41 (o_bin .neq (.tmp 40) (.const (.int .i64 1))) (.vd 42 (o_mov (.tmp 41)) (.vg 43 42 false (o_mov (.tmp 1)) (.vg 44 42 false (o_mov (.tmp 2)) (.vg 45 42 false (o_bin .add (.tmp 43) (.tmp 44)) (.vg 46 42 false (o_bin .sub (.tmp 45) (.const (.int .i64 1))) (.vg 47 42 false (o_bin .quo (.tmp 46) (.const (.int .i64 64))) (.vg 48 42 false (o_mov (.tmp 9)) (.vg 49 42 false (o_bin .neq (.tmp 47) (.tmp 48)) (.vd 50 (o_pick (.tmp 42) (.const (.bool true)) (.tmp 49)) .nil)))))))))))))))))))
   (.cond (.tmp 50)
    (.seq (.ops (.vd 8 (o_mov (.const (.int .i64 5))) .nil))
    .ret)
    .skip))
   (.seq (.ops (.vd 51 (o_mov (.tmp 0)) (.vd 52 (o_nilCheck (.tmp 51)) (.vd 53 (o_field 0 (.tmp 52)) (.vd 54 (o_load false 1 (.tmp 53)) (.vd 55 (o_mov (.tmp 9)) (.vd 56 (o_index 2 (.tmp 54) (.tmp 55)) (.vd 57 (o_field 0 (.tmp 56)) (.vd 58 (o_load false 1 (.tmp 57)) (.vd 59 (o_bin .neq (.tmp 58) (.const (.int .i64 2))) (.vd 60 (o_mov (.tmp 59)) (.vg 61 60 false (o_mov (.tmp 1)) (.vg 62 60 false (o_bin .rem (.tmp 61) (.const (.int .i64 64))) (.vg 63 60 false (o_bin .neq (.tmp 62) (.const (.int .i64 0))) (.vd 64 (o_pick (.tmp 60) (.const (.bool true)) (.tmp 63)) (.vd 65 (o_mov (.tmp 64)) (.vg 66 65 false (o_mov (.tmp 0)) (.vg 67 65 false (o_mov (.tmp 9)) (.c (some 68) (some (65, false)) (fun F => c_call F 163 [(.tmp 66), (.tmp 67)]) (.vg 69 65 false (o_mov (.tmp 2)) (.vg 70 65 false (o_bin .add (.tmp 69) (.const (.int .i64 64))) (.vg 71 65 false (o_bin .sub (.tmp 70) (.const (.int .i64 1))) (.vg 72 65 false (o_bin .quo (.tmp 71) (.const (.int .i64 64))) (.vg 73 65 false (o_bin .neq (.tmp 68) (.tmp 72)) (.vd 74 (o_pick (.tmp 65) (.const (.bool true)) (.tmp 73)) .nil)))))))))))))))))))))))))
   (.cond (.tmp 74)
    (.seq (.ops (.vd 8 (o_mov (.const (.int .i64 5))) .nil))
    .ret)
    .skip))))
  (.seq (.seq (.ops (.vd 75 (o_mov (.tmp 1)) (.vd 10 (o_mov (.tmp 75)) .nil)))
  (.block 0 (.loop S93_1)))
  (.seq (.ops (.vd 8 (o_mov (.const (.int .i64 0))) .nil))
  .ret))))))
def X93 : FnS := .code ⟨96, 0, .skip, [.tmp 8]⟩ S93
theorem x93 : okX Go.Proofs.Tryz.prog 93 X93 := ⟨C93, c93, rfl, rfl, rfl, by kernel_rfl⟩
def S94 : SCode := (.seq (.ops (.vd 1 (o_box (.tmp 0)) (.vd 2 (o_mov (.const (.int .i64 0))) .nil)))
  (.seq (.seq (.ops (.vd 3 (o_load true 3 (.tmp 1)) (.cd 4 (fun F => c_call F 92 [(.tmp 3)]) (.vd 5 (o_not (.tmp 4)) .nil))))
  (.cond (.tmp 5)
   (.seq (.ops (.vd 2 (o_mov (.const (.int .i64 0))) .nil))
   .ret)
   .skip))
  (.seq (.ops (.vd 6 (o_field 0 (.tmp 1)) (.vd 7 (o_load false 1 (.tmp 6)) (.vd 8 (o_bin .add (.const (.int .i64 2)) (.tmp 7)) (.vd 9 (o_field 1 (.tmp 1)) (.vd 10 (o_load false 1 (.tmp 9)) (.vd 11 (o_bin .add (.tmp 8) (.tmp 10)) (.vd 12 (o_bin .add (.tmp 11) (.const (.int .i64 1))) (.vd 13 (o_bin .quo (.tmp 12) (.const (.int .i64 2))) (.vd 14 (o_bin .mul (.tmp 13) (.const (.int .i64 2))) (.vd 2 (o_mov (.tmp 14)) .nil)))))))))))
  .ret)))
def X94 : FnS := .code ⟨15, 0, .skip, [.tmp 2]⟩ S94
theorem x94 : okX Go.Proofs.Tryz.prog 94 X94 := ⟨C94, c94, rfl, rfl, rfl, by kernel_rfl⟩
def S95 : SCode := (.seq (.ops (.vd 1 (o_box (.tmp 0)) (.vd 2 (o_mov (.const (.int .i64 0))) .nil)))
  (.seq (.ops (.vd 3 (o_field 0 (.tmp 1)) (.vd 4 (o_load false 1 (.tmp 3)) (.vd 5 (o_field 1 (.tmp 1)) (.vd 6 (o_load false 1 (.tmp 5)) (.vd 7 (o_bin .mul (.const (.int .i64 16)) (.tmp 6)) (.vd 8 (o_bin .add (.tmp 4) (.tmp 7)) (.vd 9 (o_field 2 (.tmp 1)) (.vd 10 (o_load false 1 (.tmp 9)) (.vd 11 (o_bin .mul (.const (.int .i64 4096)) (.tmp 10)) (.vd 12 (o_bin .add (.tmp 8) (.tmp 11)) (.vd 2 (o_mov (.tmp 12)) .nil))))))))))))
  .ret))
def X95 : FnS := .code ⟨13, 0, .skip, [.tmp 2]⟩ S95
theorem x95 : okX Go.Proofs.Tryz.prog 95 X95 := ⟨C95, c95, rfl, rfl, rfl, by kernel_rfl⟩
def S96 : SCode := (.seq (.ops (.vd 6 (o_mov (.const (.int .i64 0))) .nil))
  (.seq (.seq (.ops (.vd 8 (o_mov (.tmp 0)) (.vd 9 (o_mov (.tmp 1)) (.vd 10 (o_mov (.tmp 2)) (.vd 11 (o_buildSlice 1 [.int .i64 0] 1 [(0, 1, (.tmp 10))]) (.cd 12 (fun F => c_call F 164 [(.tmp 8), (.tmp 9), (.tmp 11)]) (.vd 7 (o_mov (.tmp 12)) .nil)))))))
  (.seq (.ops (.vd 13 (o_mov (.tmp 7)) (.vd 14 (o_bin .neq (.tmp 13) (.const (.int .i64 0))) .nil)))
  (.cond (.tmp 14)
   (.seq (.ops (.vd 15 (o_mov (.tmp 7)) (.vd 6 (o_mov (.tmp 15)) .nil)))
   .ret)
   .skip)))
  (.seq (.ops (.vd 16 (o_mov (.tmp 0)) (.vd 17 (o_mov (.tmp 1)) (.vd 18 (o_mov (.tmp 2)) (.cd 19 (fun F => c_call F 165 [(.tmp 16), (.tmp 17), (.tmp 18)]) .nil)))))
  (.seq (.ops (.vd 6 (o_mov (.const (.int .i64 0))) .nil))
  .ret))))
def X96 : FnS := .code ⟨20, 0, .skip, [.tmp 6]⟩ S96
theorem x96 : okX Go.Proofs.Tryz.prog 96 X96 := ⟨C96, c96, rfl, rfl, rfl, by kernel_rfl⟩
def S97 : SCode := (.seq (.ops (.vd 6 (o_mov (.const (.int .i64 0))) .nil))
  (.seq (.seq (.ops (.vd 8 (o_mov (.tmp 0)) (.vd 9 (o_mov (.tmp 1)) (.cd 10 (fun F => c_call F 153 [(.tmp 8), (.tmp 9)]) (.vd 7 (o_mov (.tmp 10)) .nil)))))
  (.seq (.ops (.vd 11 (o_mov (.tmp 7)) (.vd 12 (o_bin .neq (.tmp 11) (.const (.int .i64 0))) .nil)))
  (.cond (.tmp 12)
   (.seq (.ops (.vd 13 (o_mov (.tmp 7)) (.vd 6 (o_mov (.tmp 13)) .nil)))
   .ret)
   .skip)))
  (.seq (.ops (.vd 14 (o_mov (.tmp 0)) (.vd 15 (o_nilCheck (.tmp 14)) (.vd 16 (o_field 3 (.tmp 15)) (.vd 17 (o_load false 1 (.tmp 16)) (.vd 18 (o_mov (.tmp 1)) (.vd 19 (o_bin .quo (.tmp 18) (.const (.int .i64 2))) (.vd 20 (o_mov (.tmp 2)) (.cd 21 (fun F => c_call F 96 [(.tmp 17), (.tmp 19), (.tmp 20)]) .nil)))))))))
  (.seq (.ops (.vd 6 (o_mov (.const (.int .i64 0))) .nil))
  .ret))))
def X97 : FnS := .code ⟨22, 0, .skip, [.tmp 6]⟩ S97
theorem x97 : okX Go.Proofs.Tryz.prog 97 X97 := ⟨C97, c97, rfl, rfl, rfl, by kernel_rfl⟩
def S98 : SCode := (.seq (.ops (.vd 3 (o_box (.tmp 1)) (.vd 4 (o_mov (.const (.nilPtr))) (.vd 5 (o_mov (.const (.int .i64 0))) .nil))))
  (.seq (.seq (.ops (.vd 7 (o_mov (.tmp 0)) (.cd 8 (fun F => c_call F 166 [(.tmp 7)]) (.vd 9 (o_not (.tmp 8)) .nil))))
  (.cond (.tmp 9)
   (.seq (.ops (.vd 4 (o_mov (.const (.nilPtr))) (.vd 5 (o_mov (.const (.int .i64 5))) .nil)))
   .ret)
   .skip))
  (.seq (.ops (.vd 10 (o_mov (.tmp 0)) (.vd 11 (o_load true 3 (.tmp 3)) (.cd 12 (fun F => c_call F 167 [(.tmp 10), (.tmp 11)]) (.vd 6 (o_mov (.tmp 12)) .nil)))))
  (.seq (.seq (.ops (.vd 13 (o_mov (.tmp 6)) (.vd 14 (o_eqv false 1 (.tmp 13) (.const (.nilPtr))) .nil)))
  (.cond (.tmp 14)
   (.seq (.ops (.vd 4 (o_mov (.const (.nilPtr))) (.vd 5 (o_mov (.const (.int .i64 1))) .nil)))
   .ret)
   .skip))
  (.seq (.ops (.vd 15 (o_mov (.tmp 6)) (.vd 4 (o_mov (.tmp 15)) (.vd 5 (o_mov (.const (.int .i64 0))) .nil))))
  .ret)))))
def X98 : FnS := .code ⟨16, 0, .skip, [.tmp 4, .tmp 5]⟩ S98
theorem x98 : okX Go.Proofs.Tryz.prog 98 X98 := ⟨C98, c98, rfl, rfl, rfl, by kernel_rfl⟩
def S99 : SCode := (.seq (.ops (.vd 4 (o_mov (.const (.int .i64 0))) .nil))
  (.seq (.seq (.ops (.vd 5 (o_mov (.tmp 0)) (.vd 6 (o_mov (.tmp 1)) (.cd 7 (fun F => c_call F 168 [(.tmp 5), (.tmp 6)]) (.vd 8 (o_not (.tmp 7)) .nil)))))
  (.cond (.tmp 8)
   (.seq (.ops (.vd 4 (o_mov (.const (.int .i64 (-1)))) .nil))
   .ret)
   .skip))
  (.seq (.ops (.vd 9 (o_mov (.tmp 0)) (.vd 10 (o_mov (.tmp 1)) (.cd 11 (fun F => c_call F 169 [(.tmp 9), (.tmp 10)]) (.vd 4 (o_mov (.tmp 11)) .nil)))))
  .ret)))
def X99 : FnS := .code ⟨12, 0, .skip, [.tmp 4]⟩ S99
theorem x99 : okX Go.Proofs.Tryz.prog 99 X99 := ⟨C99, c99, rfl, rfl, rfl, by kernel_rfl⟩
def S100 : SCode := (.seq (.ops (.vd 2 (o_mov (.const (.int .i64 0))) .nil))
  (.seq (.seq (.ops (.vd 3 (o_mov (.tmp 0)) (.cd 4 (fun F => c_call F 166 [(.tmp 3)]) (.vd 5 (o_not (.tmp 4)) .nil))))
  (.cond (.tmp 5)
   (.seq (.ops (.vd 2 (o_mov (.const (.int .i64 0))) .nil))
   .ret)
   .skip))
  (.seq (.ops (.vd 6 (o_mov (.tmp 0)) (.vd 7 (o_nilCheck (.tmp 6)) (.vd 8 (o_field 0 (.tmp 7)) (.vd 9 (o_load false 1 (.tmp 8)) (.vd 2 (o_mov (.tmp 9)) .nil))))))
  .ret)))
def X100 : FnS := .code ⟨10, 0, .skip, [.tmp 2]⟩ S100
theorem x100 : okX Go.Proofs.Tryz.prog 100 X100 := ⟨C100, c100, rfl, rfl, rfl, by kernel_rfl⟩
def S101 : SCode := (.seq (.ops (.vd 2 (o_mov (.const (.nilSlice))) .nil))
  (.seq (.seq (.ops (.vd 5 (o_mov (.tmp 0)) (.cd 6 (fun F => c_call F 166 [(.tmp 5)]) (.vd 7 (o_not (.tmp 6)) .nil))))
  (.cond (.tmp 7)
   (.seq (.ops (.vd 2 (o_mov (.const (.nilSlice))) .nil))
   .ret)
   .skip))
  (.seq (.ops (.vd 3 (o_new [.nilSlice]) .nil))
  (.seq (.seq (.ops (.vd 8 (o_mov (.tmp 0)) (.cd 9 (fun F => c_call F 170 [(.tmp 8)]) .nil)))
  (.block 0 (.rangeF (.tmp 9) [10, 11] 17 3232)))
  (.seq (.ops (.vd 16 (o_load false 1 (.tmp 3)) (.vd 2 (o_mov (.tmp 16)) .nil)))
  .ret)))))
def X101 : FnS := .code ⟨17, 0, .skip, [.tmp 2]⟩ S101
theorem x101 : okX Go.Proofs.Tryz.prog 101 X101 := ⟨C101, c101, rfl, rfl, rfl, by kernel_rfl⟩
def S1003232 : SCode := (.ops (.vd 4 (o_new [.int .i64 0, .int .i64 0, .int .i64 0]) (.v none none (o_store 3 (.tmp 4) (.tmp 10)) .nil)))
def X1003232 : FnS := .code ⟨17, 1, .skip, []⟩ S1003232
theorem x1003232 : okX Go.Proofs.Tryz.prog 1003232 X1003232 := ⟨C1003232, c1003232, rfl, rfl, rfl, by kernel_rfl⟩
def S1003233 : SCode := (.block 1 (.ops (.vd 12 (o_load false 1 (.tmp 3)) (.vd 13 (o_load true 3 (.tmp 4)) (.vd 14 (o_buildSlice 3 [.int .i64 0, .int .i64 0, .int .i64 0] 1 [(0, 3, (.tmp 13))]) (.vd 15 (o_append 3 (.tmp 12) (.tmp 14)) (.v none none (o_store 1 (.tmp 3) (.tmp 15)) .nil)))))))
def X1003233 : FnS := .code ⟨17, 2, .skip, []⟩ S1003233
theorem x1003233 : okX Go.Proofs.Tryz.prog 1003233 X1003233 := ⟨C1003233, c1003233, rfl, rfl, rfl, by kernel_rfl⟩
def S105 : SCode := (.seq (.ops (.vd 4 (o_mov (.const (.bool false))) .nil))
  (.seq (.ops (.vd 5 (o_mov (.tmp 0)) (.vd 6 (o_mov (.tmp 1)) (.cd 7 (fun F => c_call F 66 [(.tmp 5), (.tmp 6)]) (.vd 8 (o_mov (.tmp 7)) (.vg 9 8 false (o_mov (.tmp 0)) (.vg 10 8 false (o_mov (.tmp 1)) (.c (some 11) (some (8, false)) (fun F => c_call F 107 [(.tmp 9), (.tmp 10)]) (.vg 12 8 false (o_bin .gtr (.tmp 11) (.const (.int .i64 32))) (.vd 13 (o_pick (.tmp 8) (.const (.bool true)) (.tmp 12)) (.vd 4 (o_mov (.tmp 13)) .nil)))))))))))
  .ret))
def X105 : FnS := .code ⟨14, 0, .skip, [.tmp 4]⟩ S105
theorem x105 : okX Go.Proofs.Tryz.prog 105 X105 := ⟨C105, c105, rfl, rfl, rfl, by kernel_rfl⟩
def S107 : SCode := (.seq (.ops (.vd 4 (o_mov (.const (.int .i64 0))) .nil))
  (.seq (.ops (.vd 8 (o_mov (.tmp 0)) (.vd 9 (o_mov (.tmp 1)) (.cd 10 (fun F => c_call F 109 [(.tmp 8), (.tmp 9)]) (.vd 7 (o_mov (.tmp 10)) (.vd 11 (o_extract (.tmp 7) 0) (.vd 12 (o_extract (.tmp 7) 1) (.vd 5 (o_new [.int .i64 0, .int .i64 0, .int .i64 0]) (.v none none (o_store 3 (.tmp 5) (.tmp 11)) (.vd 6 (o_mov (.tmp 12)) .nil))))))))))
  (.seq (.ops (.vd 13 (o_load true 3 (.tmp 5)) (.cd 14 (fun F => c_call F 94 [(.tmp 13)]) (.vd 4 (o_mov (.tmp 14)) .nil))))
  .ret)))
def X107 : FnS := .code ⟨15, 0, .skip, [.tmp 4]⟩ S107
theorem x107 : okX Go.Proofs.Tryz.prog 107 X107 := ⟨C107, c107, rfl, rfl, rfl, by kernel_rfl⟩
def S109 : SCode := (.seq (.ops (.vd 4 (o_new [.int .i64 0, .int .i64 0, .int .i64 0]) (.vd 5 (o_mov (.const (.int .i64 0))) .nil)))
  (.seq (.seq (.ops (.vd 7 (o_mov (.tmp 0)) (.vd 8 (o_mov (.tmp 1)) (.cd 9 (fun F => c_call F 153 [(.tmp 7), (.tmp 8)]) (.vd 6 (o_mov (.tmp 9)) .nil)))))
  (.seq (.ops (.vd 10 (o_mov (.tmp 6)) (.vd 11 (o_bin .neq (.tmp 10) (.const (.int .i64 0))) .nil)))
  (.cond (.tmp 11)
   (.seq (.ops (.vd 12 (o_build [.int .i64 0, .int .i64 0, .int .i64 0] []) (.vd 13 (o_mov (.tmp 6)) (.v none none (o_store 3 (.tmp 4) (.tmp 12)) (.vd 5 (o_mov (.tmp 13)) .nil)))))
   .ret)
   .skip)))
  (.seq (.ops (.vd 14 (o_mov (.tmp 0)) (.vd 15 (o_nilCheck (.tmp 14)) (.vd 16 (o_field 1 (.tmp 15)) (.vd 17 (o_load false 1 (.tmp 16)) (.vd 18 (o_mov (.tmp 1)) (.vd 19 (o_bin .add (.tmp 18) (.const (.int .i64 1))) (.vd 20 (o_index 1 (.tmp 17) (.tmp 19)) (.vd 21 (o_load false 1 (.tmp 20)) (.cd 22 (fun F => c_call F 159 [(.tmp 21)]) (.v none none (o_store 3 (.tmp 4) (.tmp 22)) (.vd 5 (o_mov (.const (.int .i64 0))) .nil))))))))))))
  .ret)))
def X109 : FnS := .code ⟨23, 0, .skip, [.cell 4 true 3, .tmp 5]⟩ S109
theorem x109 : okX Go.Proofs.Tryz.prog 109 X109 := ⟨C109, c109, rfl, rfl, rfl, by kernel_rfl⟩
def S111 : SCode := (.seq (.ops (.vd 6 (o_mov (.const (.int .i64 0))) (.vd 7 (o_mov (.const (.int .i64 0))) .nil)))
  (.seq (.ops (.vd 11 (o_mov (.tmp 0)) (.vd 12 (o_mov (.tmp 1)) (.vd 13 (o_mov (.tmp 2)) (.cd 14 (fun F => c_call F 172 [(.tmp 11), (.tmp 12), (.tmp 13), (.const (.bool false))]) (.vd 10 (o_mov (.tmp 14)) (.vd 15 (o_extract (.tmp 10) 0) (.vd 16 (o_extract (.tmp 10) 1) (.vd 8 (o_mov (.tmp 15)) (.vd 9 (o_mov (.tmp 16)) .nil))))))))))
  (.seq (.seq (.ops (.vd 17 (o_mov (.tmp 9)) (.vd 18 (o_bin .neq (.tmp 17) (.const (.int .i64 0))) .nil)))
  (.cond (.tmp 18)
   (.seq (.ops (.vd 19 (o_mov (.tmp 9)) (.vd 6 (o_mov (.const (.int .i64 0))) (.vd 7 (o_mov (.tmp 19)) .nil))))
   .ret)
   .skip))
  (.seq (.ops (.vd 20 (o_mov (.tmp 0)) (.vd 21 (o_nilCheck (.tmp 20)) (.vd 22 (o_field 1 (.tmp 21)) (.vd 23 (o_load false 1 (.tmp 22)) (.vd 24 (o_mov (.tmp 8)) (.vd 25 (o_index 1 (.tmp 23) (.tmp 24)) (.vd 26 (o_load false 1 (.tmp 25)) (.vd 6 (o_mov (.tmp 26)) (.vd 7 (o_mov (.const (.int .i64 0))) .nil))))))))))
  .ret))))
def X111 : FnS := .code ⟨27, 0, .skip, [.tmp 6, .tmp 7]⟩ S111
theorem x111 : okX Go.Proofs.Tryz.prog 111 X111 := ⟨C111, c111, rfl, rfl, rfl, by kernel_rfl⟩
def S113 : SCode := (.seq (.ops (.vd 4 (o_mov (.const (.int .i64 0))) .nil))
  (.seq (.seq (.ops (.vd 6 (o_mov (.tmp 0)) (.vd 7 (o_mov (.tmp 1)) (.cd 8 (fun F => c_call F 153 [(.tmp 6), (.tmp 7)]) (.vd 5 (o_mov (.tmp 8)) .nil)))))
  (.seq (.ops (.vd 9 (o_mov (.tmp 5)) (.vd 10 (o_bin .neq (.tmp 9) (.const (.int .i64 0))) .nil)))
  (.cond (.tmp 10)
   (.seq (.ops (.vd 11 (o_mov (.tmp 5)) (.vd 4 (o_mov (.tmp 11)) .nil)))
   .ret)
   .skip)))
  (.seq (.dregion [⟨⟨some 12, none, .mov (.tmp 0)⟩, 0, 0, 0⟩, ⟨⟨some 13, none, .nilCheck (.tmp 12)⟩, 1, 0, 0⟩, ⟨⟨some 14, none, .field 4 (.tmp 13)⟩, 2, 0, 0⟩, ⟨⟨some 15, none, .load false 1 (.tmp 14)⟩, 3, 1, 0⟩, ⟨⟨some 16, none, .mov (.tmp 0)⟩, 4, 0, 0⟩, ⟨⟨some 17, none, .nilCheck (.tmp 16)⟩, 5, 0, 0⟩, ⟨⟨some 18, none, .field 1 (.tmp 17)⟩, 6, 0, 0⟩, ⟨⟨some 19, none, .load false 1 (.tmp 18)⟩, 7, 1, 0⟩, ⟨⟨some 20, none, .mov (.tmp 1)⟩, 8, 0, 0⟩, ⟨⟨some 21, none, .index 1 (.tmp 19) (.tmp 20)⟩, 9, 0, 0⟩, ⟨⟨some 22, none, .load false 1 (.tmp 21)⟩, 10, 1, 0⟩, ⟨⟨none, none, .mapDel .i64 (.tmp 15) (.tmp 22)⟩, 11, 3, 0⟩])
  (.seq (.ops (.vd 23 (o_mov (.tmp 0)) (.vd 24 (o_nilCheck (.tmp 23)) (.vd 25 (o_field 2 (.tmp 24)) (.vd 26 (o_load false 1 (.tmp 25)) (.vd 27 (o_mov (.tmp 1)) (.vd 28 (o_bin .quo (.tmp 27) (.const (.int .i64 2))) (.cd 29 (fun F => c_call F 96 [(.tmp 26), (.tmp 28), (.const (.int .i64 0))]) .nil))))))))
  (.seq (.ops (.vd 30 (o_mov (.tmp 0)) (.vd 31 (o_nilCheck (.tmp 30)) (.vd 32 (o_field 3 (.tmp 31)) (.vd 33 (o_load false 1 (.tmp 32)) (.vd 34 (o_mov (.tmp 1)) (.vd 35 (o_bin .quo (.tmp 34) (.const (.int .i64 2))) (.cd 36 (fun F => c_call F 96 [(.tmp 33), (.tmp 35), (.const (.int .i64 0))]) .nil))))))))
  (.seq (.ops (.vd 37 (o_mov (.tmp 0)) (.vd 38 (o_mov (.tmp 1)) (.vd 39 (o_mov (.tmp 0)) (.vd 40 (o_mov (.tmp 1)) (.cd 41 (fun F => c_call F 90 [(.tmp 39), (.tmp 40)]) (.cd 42 (fun F => c_call F 154 [(.tmp 37), (.tmp 38), (.tmp 41)]) .nil)))))))
  (.seq (.ops (.vd 4 (o_mov (.const (.int .i64 0))) .nil))
  .ret)))))))
def X113 : FnS := .code ⟨43, 0, .skip, [.tmp 4]⟩ S113
theorem x113 : okX Go.Proofs.Tryz.prog 113 X113 := ⟨C113, c113, rfl, rfl, rfl, by kernel_rfl⟩
def S115 : SCode := (.seq (.ops (.vd 2 (o_mov (.const (.nilSlice))) .nil))
  (.seq (.seq (.ops (.vd 3 (o_mov (.tmp 0)) (.vd 4 (o_eqv false 2 (.tmp 3) (.const (.nilSlice))) .nil)))
  (.cond (.tmp 4)
   (.seq (.ops (.vd 2 (o_mov (.const (.nilSlice))) .nil))
   .ret)
   .skip))
  (.seq (.ops (.vd 5 (o_buildSlice 2 [] 0 []) (.vd 6 (o_mov (.tmp 0)) (.vd 7 (o_append 2 (.tmp 5) (.tmp 6)) (.vd 2 (o_mov (.tmp 7)) .nil)))))
  .ret)))
def X115 : FnS := .code ⟨8, 0, .skip, [.tmp 2]⟩ S115
theorem x115 : okX Go.Proofs.Tryz.prog 115 X115 := ⟨C115, c115, rfl, rfl, rfl, by kernel_rfl⟩
def S116 : SCode := (.seq (.ops (.vd 5 (o_mov (.tmp 0)) (.vd 6 (o_len (.tmp 5)) (.vd 4 (o_mov (.tmp 6)) .nil))))
  (.ops (.vd 7 (o_mov (.tmp 0)) (.vd 8 (o_mov (.tmp 4)) (.vd 9 (o_mov (.tmp 4)) (.vd 10 (o_conv .u64 (.tmp 9)) (.cd 11 (fun F => c_call F 150 [(.tmp 10)]) (.vd 12 (o_mov (.tmp 1)) (.cd 13 (fun F => c_call F 173 [(.tmp 7), (.const (.int .i64 0)), (.tmp 8), (.tmp 11), (.tmp 12)]) .nil)))))))))
def X116 : FnS := .code ⟨14, 0, .skip, []⟩ S116
theorem x116 : okX Go.Proofs.Tryz.prog 116 X116 := ⟨C116, c116, rfl, rfl, rfl, by kernel_rfl⟩
def S117 : SCode := (.seq (.ops (.vd 2 (o_box (.tmp 0)) (.vd 3 (o_box (.tmp 1)) (.vd 4 (o_mov (.const (.int .i64 0))) .nil))))
  (.seq (.ops (.vd 5 (o_field 0 (.tmp 2)) (.vd 6 (o_load false 1 (.tmp 5)) (.vd 7 (o_field 0 (.tmp 3)) (.vd 8 (o_load false 1 (.tmp 7)) (.vd 9 (o_bin .sub (.tmp 6) (.tmp 8)) (.vd 4 (o_mov (.tmp 9)) .nil)))))))
  .ret))
def X117 : FnS := .code ⟨10, 0, .skip, [.tmp 4]⟩ S117
theorem x117 : okX Go.Proofs.Tryz.prog 117 X117 := ⟨C117, c117, rfl, rfl, rfl, by kernel_rfl⟩
def S118_1 : SCode := .seq (.ops (.vd 25 (o_bin .lss (.tmp 24) (.tmp 23)) .nil))
    (.seq (.cond (.tmp 25)
     .skip
     (.exit 0))
    (.seq (.block 1 (.seq (.ops (.vd 26 (o_mov (.tmp 24)) (.vd 8 (o_mov (.tmp 26)) .nil)))
     (.seq (.dregion [⟨⟨some 27, none, .load false 1 (.tmp 4)⟩, 0, 1, 0⟩, ⟨⟨some 28, none, .mov (.tmp 8)⟩, 1, 0, 0⟩, ⟨⟨some 29, none, .index 1 (.tmp 27) (.tmp 28)⟩, 2, 0, 0⟩, ⟨⟨some 30, none, .load false 1 (.tmp 29)⟩, 3, 1, 0⟩, ⟨⟨some 31, none, .bin .leq (.tmp 30) (.const (.int .i64 0))⟩, 4, 0, 0⟩, ⟨⟨some 32, none, .mov (.tmp 31)⟩, 5, 0, 0⟩, ⟨⟨some 33, some (32, false), .load false 1 (.tmp 5)⟩, 6, 1, 0⟩, ⟨⟨some 34, some (32, false), .mov (.tmp 8)⟩, 7, 0, 0⟩, ⟨⟨some 35, some (32, false), .index 1 (.tmp 33) (.tmp 34)⟩, 8, 0, 0⟩, ⟨⟨some 36, some (32, false), .load false 1 (.tmp 35)⟩, 9, 1, 0⟩, ⟨⟨some 37, some (32, false), .bin .leq (.tmp 36) (.const (.int .i64 0))⟩, 10, 0, 0⟩, ⟨⟨some 38, none, .pick (.tmp 32) (.const (.bool true)) (.tmp 37)⟩, 11, 0, 0⟩, ⟨⟨some 39, none, .mov (.tmp 38)⟩, 12, 0, 0⟩, ⟨⟨some 40, some (39, false), .mov (.tmp 8)⟩, 13, 0, 0⟩, ⟨⟨some 41, some (39, false), .bin .gtr (.tmp 40) (.const (.int .i64 0))⟩, 14, 0, 0⟩, ⟨⟨some 42, some (39, false), .mov (.tmp 41)⟩, 15, 0, 0⟩, ⟨⟨some 43, some (42, true), .load false 1 (.tmp 4)⟩, 16, 1, 0⟩, ⟨⟨some 44, some (42, true), .mov (.tmp 8)⟩, 17, 0, 0⟩, ⟨⟨some 45, some (42, true), .index 1 (.tmp 43) (.tmp 44)⟩, 18, 0, 0⟩, ⟨⟨some 46, some (42, true), .load false 1 (.tmp 45)⟩, 19, 1, 0⟩, ⟨⟨some 47, some (42, true), .load false 1 (.tmp 4)⟩, 20, 1, 0⟩, ⟨⟨some 48, some (42, true), .mov (.tmp 8)⟩, 21, 0, 0⟩, ⟨⟨some 49, some (42, true), .bin .sub (.tmp 48) (.const (.int .i64 1))⟩, 22, 0, 0⟩, ⟨⟨some 50, some (42, true), .index 1 (.tmp 47) (.tmp 49)⟩, 23, 0, 0⟩, ⟨⟨some 51, some (42, true), .load false 1 (.tmp 50)⟩, 24, 1, 0⟩, ⟨⟨some 52, some (42, true), .bin .leq (.tmp 46) (.tmp 51)⟩, 25, 0, 0⟩, ⟨⟨some 53, some (39, false), .pick (.tmp 42) (.tmp 52) (.const (.bool false))⟩, 26, 0, 0⟩, ⟨⟨some 54, none, .pick (.tmp 39) (.const (.bool true)) (.tmp 53)⟩, 27, 0, 0⟩])
     (.cond (.tmp 54)
      (.seq (.ops (.vd 6 (o_mov (.const (.int .i64 0))) (.vd 7 (o_mov (.const (.int .i64 1))) .nil)))
      .ret)
      .skip))))
    (.ops (.vd 55 (o_bin .add (.tmp 24) (.const (.int .i64 1))) (.vd 24 (o_mov (.tmp 55)) .nil)))))
def S118 : SCode := (.seq (.ops (.vd 4 (o_box (.tmp 1)) (.vd 5 (o_box (.tmp 2)) (.vd 6 (o_mov (.const (.int .i64 0))) (.vd 7 (o_mov (.const (.int .i64 0))) .nil)))))
  (.seq (.seq (.ops (.vd 14 (o_mov (.tmp 0)) (.cd 15 (fun F => c_call F 166 [(.tmp 14)]) (.vd 16 (o_not (.tmp 15)) .nil))))
  (.cond (.tmp 16)
   (.seq (.ops (.vd 6 (o_mov (.const (.int .i64 0))) (.vd 7 (o_mov (.const (.int .i64 5))) .nil)))
   .ret)
   .skip))
  (.seq (.seq (.ops (.vd 17 (o_load false 1 (.tmp 4)) (.vd 18 (o_len (.tmp 17)) (.vd 19 (o_load false 1 (.tmp 5)) (.vd 20 (o_len (.tmp 19)) (.vd 21 (o_bin .neq (.tmp 18) (.tmp 20)) .nil))))))
  (.cond (.tmp 21)
   (.seq (.ops (.vd 6 (o_mov (.const (.int .i64 0))) (.vd 7 (o_mov (.const (.int .i64 1))) .nil)))
   .ret)
   .skip))
  (.seq (.seq (.ops (.vd 22 (o_load false 1 (.tmp 4)) (.vd 23 (o_len (.tmp 22)) (.vd 24 (o_mov (.const (.int .i64 0))) .nil))))
  (.block 0 (.loop S118_1)))
  (.seq (.ops (.vd 9 (o_new [.int .i64 0]) (.v none none (o_store 1 (.tmp 9) (.const (.int .i64 0))) .nil)))
  (.seq (.seq (.ops (.vd 56 (o_mov (.tmp 0)) (.cd 57 (fun F => c_call F 170 [(.tmp 56)]) .nil)))
  (.block 2 (.rangeF (.tmp 57) [58, 59] 78 3776)))
  (.seq (.ops (.vd 77 (o_load false 1 (.tmp 9)) (.vd 6 (o_mov (.tmp 77)) (.vd 7 (o_mov (.const (.int .i64 0))) .nil))))
  .ret)))))))
def X118 : FnS := .code ⟨78, 0, .skip, [.tmp 6, .tmp 7]⟩ S118
theorem x118 : okX Go.Proofs.Tryz.prog 118 X118 := ⟨C118, c118, rfl, rfl, rfl, by kernel_rfl⟩
def S1003776 : SCode := (.ops (.vd 11 (o_mov (.tmp 59)) .nil))
def X1003776 : FnS := .code ⟨78, 1, .skip, []⟩ S1003776
theorem x1003776 : okX Go.Proofs.Tryz.prog 1003776 X1003776 := ⟨C1003776, c1003776, rfl, rfl, rfl, by kernel_rfl⟩
def S1003777 : SCode := (.block 3 (.seq (.dregion [⟨⟨some 61, none, .load false 1 (.tmp 4)⟩, 0, 1, 0⟩, ⟨⟨some 62, none, .mov (.tmp 11)⟩, 1, 0, 0⟩, ⟨⟨some 63, none, .nilCheck (.tmp 62)⟩, 2, 0, 0⟩, ⟨⟨some 64, none, .load false 1 (.tmp 63)⟩, 3, 1, 0⟩, ⟨⟨some 65, none, .call 174 [(.tmp 61), (.tmp 64)]⟩, 4, 3, 0⟩, ⟨⟨some 60, none, .mov (.tmp 65)⟩, 5, 0, 1⟩, ⟨⟨some 66, none, .extract (.tmp 60) 0⟩, 6, 0, 1⟩, ⟨⟨some 67, none, .extract (.tmp 60) 1⟩, 7, 0, 1⟩, ⟨⟨some 12, none, .mov (.tmp 66)⟩, 8, 0, 1⟩, ⟨⟨some 13, none, .mov (.tmp 67)⟩, 9, 0, 1⟩])
   (.seq (.ops (.vd 68 (o_mov (.tmp 13)) .nil))
   (.cond (.tmp 68)
    (.seq (.ops (.vd 69 (o_mov (.tmp 11)) (.vd 70 (o_load false 1 (.tmp 5)) (.vd 71 (o_mov (.tmp 12)) (.vd 72 (o_index 1 (.tmp 70) (.tmp 71)) (.vd 73 (o_load false 1 (.tmp 72)) (.vd 74 (o_nilCheck (.tmp 69)) (.v none none (o_store 1 (.tmp 74) (.tmp 73)) .nil))))))))
    (.ops (.vd 75 (o_load false 1 (.tmp 9)) (.vd 76 (o_bin .add (.tmp 75) (.const (.int .i64 1))) (.v none none (o_store 1 (.tmp 9) (.tmp 76)) .nil)))))
    .skip))))
def X1003777 : FnS := .code ⟨78, 2, .skip, []⟩ S1003777
theorem x1003777 : okX Go.Proofs.Tryz.prog 1003777 X1003777 := ⟨C1003777, c1003777, rfl, rfl, rfl, by kernel_rfl⟩
end Go.Cs.Tryz

/- The turned functions, part 2. -/
noncomputable section
namespace Go.Cs.Tryz
open Go Go.Cs Go.Cs.K
set_option maxRecDepth 100000
def S119_1 : SCode := .seq (.seq (.ops (.vd 21 (o_mov (.tmp 6)) (.vd 22 (o_bin .gtr (.tmp 21) (.const (.int .i64 0))) .nil)))
    (.cond (.tmp 22)
     .skip
     (.exit 0)))
    (.seq (.block 1 (.ops (.vd 25 (o_mov (.tmp 0)) (.vd 26 (o_nilCheck (.tmp 25)) (.vd 27 (o_field 0 (.tmp 26)) (.vd 28 (o_load false 1 (.tmp 27)) (.vd 29 (o_mov (.tmp 1)) (.vd 30 (o_mov (.tmp 6)) (.vd 31 (o_bin .add (.tmp 29) (.tmp 30)) (.vd 32 (o_bin .sub (.tmp 31) (.const (.int .i64 1))) (.vd 33 (o_build [.int .i64 0, .int .i64 0] []) (.vd 34 (o_index 2 (.tmp 28) (.tmp 32)) (.v none none (o_store 2 (.tmp 34) (.tmp 33)) .nil)))))))))))))
    (.ops (.vd 23 (o_mov (.tmp 6)) (.vd 24 (o_bin .sub (.tmp 23) (.const (.int .i64 1))) (.vd 6 (o_mov (.tmp 24)) .nil)))))
def S119 : SCode := (.seq (.ops (.vd 4 (o_mov (.const (.int .i64 0))) .nil))
  (.seq (.seq (.ops (.vd 7 (o_mov (.tmp 0)) (.vd 8 (o_mov (.tmp 1)) (.cd 9 (fun F => c_call F 175 [(.tmp 7), (.tmp 8), (.const (.bool true))]) (.vd 5 (o_mov (.tmp 9)) .nil)))))
  (.seq (.ops (.vd 10 (o_mov (.tmp 5)) (.vd 11 (o_bin .neq (.tmp 10) (.const (.int .i64 0))) .nil)))
  (.cond (.tmp 11)
   (.seq (.ops (.vd 12 (o_mov (.tmp 5)) (.vd 4 (o_mov (.tmp 12)) .nil)))
   .ret)
   .skip)))
  (.seq (.seq (.ops (.vd 13 (o_mov (.tmp 0)) (.vd 14 (o_mov (.tmp 1)) (.cd 15 (fun F => c_call F 35 [(.tmp 13), (.tmp 14)]) (.vd 16 (o_len (.tmp 15)) (.vd 17 (o_bin .gtr (.tmp 16) (.const (.int .i64 0))) .nil))))))
  (.cond (.tmp 17)
   (.seq (.ops (.vd 4 (o_mov (.const (.int .i64 8))) .nil))
   .ret)
   .skip))
  (.seq (.seq (.ops (.vd 18 (o_mov (.tmp 0)) (.vd 19 (o_mov (.tmp 1)) (.cd 20 (fun F => c_call F 163 [(.tmp 18), (.tmp 19)]) (.vd 6 (o_mov (.tmp 20)) .nil)))))
  (.block 0 (.loop S119_1)))
  (.seq (.ops (.vd 4 (o_mov (.const (.int .i64 0))) .nil))
  .ret)))))
def X119 : FnS := .code ⟨35, 0, .skip, [.tmp 4]⟩ S119
theorem x119 : okX Go.Proofs.Tryz.prog 119 X119 := ⟨C119, c119, rfl, rfl, rfl, by kernel_rfl⟩
def S120_1 : SCode := .seq (.ops (.vd 10 (o_bin .lss (.tmp 9) (.tmp 8)) .nil))
    (.seq (.cond (.tmp 10)
     .skip
     (.exit 0))
    (.seq (.block 1 (.seq (.ops (.vd 11 (o_index 1 (.tmp 7) (.tmp 9)) (.vd 12 (o_load false 1 (.tmp 11)) (.vd 5 (o_mov (.tmp 12)) .nil))))
     (.ops (.vd 13 (o_mov (.tmp 3)) (.vd 14 (o_mov (.tmp 0)) (.vd 15 (o_mov (.tmp 5)) (.cd 16 (fun F => c_call F 90 [(.tmp 14), (.tmp 15)]) (.vd 17 (o_bin .add (.tmp 13) (.tmp 16)) (.vd 3 (o_mov (.tmp 17)) .nil)))))))))
    (.ops (.vd 18 (o_bin .add (.tmp 9) (.const (.int .i64 1))) (.vd 9 (o_mov (.tmp 18)) .nil)))))
def S120 : SCode := (.seq (.ops (.vd 2 (o_mov (.const (.int .i64 0))) .nil))
  (.seq (.ops (.vd 3 (o_mov (.const (.int .i64 0))) .nil))
  (.seq (.seq (.ops (.vd 6 (o_mov (.tmp 0)) (.cd 7 (fun F => c_call F 64 [(.tmp 6)]) (.vd 8 (o_len (.tmp 7)) (.vd 9 (o_mov (.const (.int .i64 0))) .nil)))))
  (.block 0 (.loop S120_1)))
  (.seq (.ops (.vd 19 (o_mov (.tmp 3)) (.vd 2 (o_mov (.tmp 19)) .nil)))
  .ret))))
def X120 : FnS := .code ⟨20, 0, .skip, [.tmp 2]⟩ S120
theorem x120 : okX Go.Proofs.Tryz.prog 120 X120 := ⟨C120, c120, rfl, rfl, rfl, by kernel_rfl⟩
def S131 : SCode := (.seq (.ops (.vd 4 (o_mov (.const (.int .i64 0))) (.vd 5 (o_mov (.const (.int .i64 0))) .nil)))
  (.seq (.seq (.ops (.vd 8 (o_mov (.tmp 0)) (.cd 9 (fun F => c_call F 83 [(.tmp 8)]) (.vd 10 (o_not (.tmp 9)) .nil))))
  (.cond (.tmp 10)
   (.seq (.ops (.vd 4 (o_mov (.const (.int .i64 0))) (.vd 5 (o_mov (.const (.int .i64 5))) .nil)))
   .ret)
   .skip))
  (.seq (.seq (.ops (.vd 11 (o_mov (.tmp 1)) (.vd 12 (o_bin .lss (.tmp 11) (.const (.int .i64 0))) (.vd 13 (o_mov (.tmp 12)) (.vg 14 13 false (o_mov (.tmp 1)) (.vg 15 13 false (o_mov (.tmp 0)) (.vg 16 13 false (o_nilCheck (.tmp 15)) (.vg 17 13 false (o_field 1 (.tmp 16)) (.vg 18 13 false (o_load false 1 (.tmp 17)) (.vg 19 13 false (o_len (.tmp 18)) (.vg 20 13 false (o_bin .geq (.tmp 14) (.tmp 19)) (.vd 21 (o_pick (.tmp 13) (.const (.bool true)) (.tmp 20)) .nil))))))))))))
  (.cond (.tmp 21)
   (.seq (.ops (.vd 4 (o_mov (.const (.int .i64 0))) (.vd 5 (o_mov (.const (.int .i64 4))) .nil)))
   .ret)
   .skip))
  (.seq (.ops (.vd 23 (o_mov (.tmp 0)) (.vd 24 (o_nilCheck (.tmp 23)) (.vd 25 (o_field 2 (.tmp 24)) (.vd 26 (o_load false 1 (.tmp 25)) (.vd 27 (o_mov (.tmp 1)) (.vd 28 (o_bin .quo (.tmp 27) (.const (.int .i64 2))) (.vd 29 (o_bin .add (.tmp 28) (.const (.int .i64 1))) (.cd 30 (fun F => c_call F 189 [(.tmp 26), (.tmp 29), (.const (.int .i64 1))]) (.vd 22 (o_mov (.tmp 30)) (.vd 31 (o_extract (.tmp 22) 0) (.vd 32 (o_extract (.tmp 22) 1) (.vd 6 (o_mov (.tmp 31)) (.vd 7 (o_mov (.tmp 32)) .nil))))))))))))))
  (.seq (.seq (.ops (.vd 33 (o_mov (.tmp 7)) (.vd 34 (o_bin .neq (.tmp 33) (.const (.int .i64 0))) (.vd 35 (o_mov (.tmp 34)) (.vg 36 35 false (o_mov (.tmp 1)) (.vg 37 35 false (o_mov (.tmp 6)) (.vg 38 35 false (o_bin .mul (.const (.int .i64 2)) (.tmp 37)) (.vg 39 35 false (o_mov (.tmp 0)) (.vg 40 35 false (o_mov (.tmp 6)) (.vg 41 35 false (o_bin .mul (.const (.int .i64 2)) (.tmp 40)) (.c (some 42) (some (35, false)) (fun F => c_call F 90 [(.tmp 39), (.tmp 41)]) (.vg 43 35 false (o_bin .add (.tmp 38) (.tmp 42)) (.vg 44 35 false (o_bin .geq (.tmp 36) (.tmp 43)) (.vd 45 (o_pick (.tmp 35) (.const (.bool true)) (.tmp 44)) .nil))))))))))))))
  (.cond (.tmp 45)
   (.seq (.ops (.vd 4 (o_mov (.const (.int .i64 0))) (.vd 5 (o_mov (.const (.int .i64 4))) .nil)))
   .ret)
   .skip))
  (.seq (.ops (.vd 46 (o_mov (.tmp 6)) (.vd 47 (o_bin .mul (.const (.int .i64 2)) (.tmp 46)) (.vd 4 (o_mov (.tmp 47)) (.vd 5 (o_mov (.const (.int .i64 0))) .nil)))))
  .ret))))))
def X131 : FnS := .code ⟨48, 0, .skip, [.tmp 4, .tmp 5]⟩ S131
theorem x131 : okX Go.Proofs.Tryz.prog 131 X131 := ⟨C131, c131, rfl, rfl, rfl, by kernel_rfl⟩
def S133_1 : SCode := .seq (.ops (.vd 9 (o_bin .lss (.tmp 8) (.tmp 7)) .nil))
    (.seq (.cond (.tmp 9)
     .skip
     (.exit 0))
    (.seq (.block 1 (.seq (.ops (.vd 10 (o_mov (.tmp 8)) (.vd 5 (o_mov (.tmp 10)) .nil)))
     (.seq (.ops (.vd 11 (o_mov (.tmp 1)) (.vd 12 (o_mov (.tmp 0)) (.vd 13 (o_mov (.tmp 5)) (.vd 14 (o_index 1 (.tmp 12) (.tmp 13)) (.vd 15 (o_load false 1 (.tmp 14)) (.cd 16 (fun F => c_callm F (.tmp 11) [(.tmp 15)] [(267, "dustcart/alloc.place", 272), (268, "dustcart/alloc.place", 277), (269, "dustcart/alloc.place", 285), (270, "dustcart/alloc.place", 286), (271, "dustcart/alloc.place", 290)]) .nil)))))))
     (.cond (.tmp 16)
      (.seq (.ops (.vd 17 (o_mov (.tmp 5)) (.vd 4 (o_mov (.tmp 17)) .nil)))
      .ret)
      .skip))))
    (.ops (.vd 18 (o_bin .add (.tmp 8) (.const (.int .i64 1))) (.vd 8 (o_mov (.tmp 18)) .nil)))))
def S133 : SCode := (.seq (.ops (.vd 4 (o_mov (.const (.int .i64 0))) .nil))
  (.seq (.seq (.ops (.vd 6 (o_mov (.tmp 0)) (.vd 7 (o_len (.tmp 6)) (.vd 8 (o_mov (.const (.int .i64 0))) .nil))))
  (.block 0 (.loop S133_1)))
  (.seq (.ops (.vd 4 (o_mov (.const (.int .i64 (-1)))) .nil))
  .ret)))
def X133 : FnS := .code ⟨19, 0, .skip, [.tmp 4]⟩ S133
theorem x133 : okX Go.Proofs.Tryz.prog 133 X133 := ⟨C133, c133, rfl, rfl, rfl, by kernel_rfl⟩
def S134 : SCode := (.seq (.ops (.vd 4 (o_mov (.const (.bool false))) .nil))
  (.seq (.ops (.vd 5 (o_mov (.tmp 0)) (.cd 6 (fun F => c_call F 30 [(.tmp 5)]) (.vd 7 (o_bin .gtr (.tmp 6) (.const (.int .i64 0))) (.vd 8 (o_mov (.tmp 7)) (.vg 9 8 true (o_mov (.tmp 1)) (.c (some 10) (some (8, true)) (fun F => c_call F 100 [(.tmp 9)]) (.vg 11 8 true (o_bin .gtr (.tmp 10) (.const (.int .i64 0))) (.vd 12 (o_pick (.tmp 8) (.tmp 11) (.const (.bool false))) (.vd 4 (o_mov (.tmp 12)) .nil))))))))))
  .ret))
def X134 : FnS := .code ⟨13, 0, .skip, [.tmp 4]⟩ S134
theorem x134 : okX Go.Proofs.Tryz.prog 134 X134 := ⟨C134, c134, rfl, rfl, rfl, by kernel_rfl⟩
def S135 : SCode := (.seq (.ops (.vd 2 (o_mov (.const (.nilPtr))) .nil))
  (.seq (.ops (.vd 6 (o_mov (.tmp 0)) (.cd 7 (fun F => c_call F 30 [(.tmp 6)]) (.vd 8 (o_bin .mul (.tmp 7) (.const (.int .i64 64))) (.vd 9 (o_bin .quo (.tmp 8) (.const (.int .i64 2))) (.cd 10 (fun F => c_call F 9 [(.tmp 9), (.const (.int .i64 1))]) (.vd 5 (o_mov (.tmp 10)) (.vd 11 (o_extract (.tmp 5) 0) (.vd 12 (o_extract (.tmp 5) 1) (.vd 3 (o_mov (.tmp 11)) (.vd 4 (o_mov (.tmp 12)) .nil)))))))))))
  (.seq (.ops (.vd 13 (o_mov (.tmp 3)) (.vd 2 (o_mov (.tmp 13)) .nil)))
  .ret)))
def X135 : FnS := .code ⟨14, 0, .skip, [.tmp 2]⟩ S135
theorem x135 : okX Go.Proofs.Tryz.prog 135 X135 := ⟨C135, c135, rfl, rfl, rfl, by kernel_rfl⟩
def S136 : SCode := (.seq (.ops (.vd 4 (o_mov (.const (.bool false))) .nil))
  (.seq (.seq (.dregion [⟨⟨some 5, none, .mov (.tmp 0)⟩, 0, 0, 0⟩, ⟨⟨some 6, none, .nilCheck (.tmp 5)⟩, 1, 0, 0⟩, ⟨⟨some 7, none, .field 0 (.tmp 6)⟩, 2, 0, 0⟩, ⟨⟨some 8, none, .load false 1 (.tmp 7)⟩, 3, 1, 0⟩, ⟨⟨some 9, none, .mov (.tmp 0)⟩, 4, 0, 0⟩, ⟨⟨some 10, none, .nilCheck (.tmp 9)⟩, 5, 0, 0⟩, ⟨⟨some 11, none, .field 1 (.tmp 10)⟩, 6, 0, 0⟩, ⟨⟨some 12, none, .load false 1 (.tmp 11)⟩, 7, 1, 0⟩, ⟨⟨some 13, none, .mov (.tmp 1)⟩, 8, 0, 0⟩, ⟨⟨some 14, none, .call 190 [(.tmp 8), (.tmp 12), (.tmp 13)]⟩, 9, 3, 0⟩, ⟨⟨some 15, none, .not (.tmp 14)⟩, 10, 0, 1⟩])
  (.cond (.tmp 15)
   (.seq (.ops (.vd 4 (o_mov (.const (.bool false))) .nil))
   .ret)
   .skip))
  (.seq (.seq (.dregion [⟨⟨some 16, none, .mov (.tmp 0)⟩, 0, 0, 0⟩, ⟨⟨some 17, none, .nilCheck (.tmp 16)⟩, 1, 0, 0⟩, ⟨⟨some 18, none, .field 2 (.tmp 17)⟩, 2, 0, 0⟩, ⟨⟨some 19, none, .field 0 (.tmp 18)⟩, 3, 0, 0⟩, ⟨⟨some 20, none, .load false 1 (.tmp 19)⟩, 4, 1, 0⟩, ⟨⟨some 21, none, .len (.tmp 20)⟩, 5, 0, 0⟩, ⟨⟨some 22, none, .mov (.tmp 0)⟩, 6, 0, 0⟩, ⟨⟨some 23, none, .nilCheck (.tmp 22)⟩, 7, 0, 0⟩, ⟨⟨some 24, none, .field 4 (.tmp 23)⟩, 8, 0, 0⟩, ⟨⟨some 25, none, .load false 1 (.tmp 24)⟩, 9, 1, 0⟩, ⟨⟨some 26, none, .bin .eql (.tmp 21) (.tmp 25)⟩, 10, 0, 0⟩])
  (.cond (.tmp 26)
   (.seq (.ops (.vd 27 (o_mov (.tmp 0)) (.vd 28 (o_nilCheck (.tmp 27)) (.vd 29 (o_field 5 (.tmp 28)) (.v none none (o_store 1 (.tmp 29) (.const (.bool true))) .nil)))))
   (.seq (.ops (.vd 30 (o_mov (.tmp 0)) (.vd 31 (o_nilCheck (.tmp 30)) (.vd 32 (o_field 6 (.tmp 31)) (.vd 33 (o_field 1 (.tmp 32)) (.vd 34 (o_load false 1 (.tmp 33)) (.vd 35 (o_bin .add (.tmp 34) (.const (.int .i64 1))) (.vd 36 (o_nilCheck (.tmp 30)) (.vd 37 (o_field 6 (.tmp 36)) (.vd 38 (o_field 1 (.tmp 37)) (.v none none (o_store 1 (.tmp 38) (.tmp 35)) .nil)))))))))))
   (.seq (.ops (.vd 4 (o_mov (.const (.bool true))) .nil))
   .ret)))
   .skip))
  (.seq (.ops (.vd 39 (o_mov (.tmp 0)) (.vd 40 (o_nilCheck (.tmp 39)) (.vd 41 (o_field 2 (.tmp 40)) (.vd 42 (o_mov (.tmp 1)) (.cd 43 (fun F => c_call F 191 [(.tmp 41), (.tmp 42)]) .nil))))))
  (.seq (.dregion [⟨⟨some 44, none, .mov (.tmp 0)⟩, 0, 0, 0⟩, ⟨⟨some 45, none, .mov (.tmp 0)⟩, 1, 0, 0⟩, ⟨⟨some 46, none, .nilCheck (.tmp 45)⟩, 2, 0, 0⟩, ⟨⟨some 47, none, .field 6 (.tmp 46)⟩, 3, 0, 0⟩, ⟨⟨some 48, none, .field 4 (.tmp 47)⟩, 4, 0, 0⟩, ⟨⟨some 49, none, .load false 1 (.tmp 48)⟩, 5, 1, 0⟩, ⟨⟨some 50, none, .mov (.tmp 0)⟩, 6, 0, 0⟩, ⟨⟨some 51, none, .nilCheck (.tmp 50)⟩, 7, 0, 0⟩, ⟨⟨some 52, none, .field 2 (.tmp 51)⟩, 8, 0, 0⟩, ⟨⟨some 53, none, .field 0 (.tmp 52)⟩, 9, 0, 0⟩, ⟨⟨some 54, none, .load false 1 (.tmp 53)⟩, 10, 1, 0⟩, ⟨⟨some 55, none, .len (.tmp 54)⟩, 11, 0, 0⟩, ⟨⟨some 56, none, .mm true [(.tmp 49), (.tmp 55)]⟩, 12, 0, 0⟩, ⟨⟨some 57, none, .nilCheck (.tmp 44)⟩, 13, 0, 0⟩, ⟨⟨some 58, none, .field 6 (.tmp 57)⟩, 14, 0, 0⟩, ⟨⟨some 59, none, .field 4 (.tmp 58)⟩, 15, 0, 0⟩, ⟨⟨none, none, .store 1 (.tmp 59) (.tmp 56)⟩, 16, 3, 0⟩])
  (.seq (.ops (.vd 4 (o_mov (.const (.bool true))) .nil))
  .ret))))))
def X136 : FnS := .code ⟨60, 0, .skip, [.tmp 4]⟩ S136
theorem x136 : okX Go.Proofs.Tryz.prog 136 X136 := ⟨C136, c136, rfl, rfl, rfl, by kernel_rfl⟩
def S137_1 : SCode := .seq (.ops (.vd 33 (o_bin .lss (.tmp 32) (.tmp 31)) .nil))
       (.seq (.cond (.tmp 33)
        .skip
        (.exit 2))
       (.seq (.block 3 (.seq (.ops (.vd 34 (o_index 1 (.tmp 30) (.tmp 32)) (.vd 35 (o_load false 1 (.tmp 34)) (.vd 3 (o_mov (.tmp 35)) .nil))))
        (.seq (.ops (.vd 36 (o_mov (.tmp 0)) (.vd 37 (o_mov (.tmp 3)) (.cd 38 (fun F => c_call F 193 [(.tmp 36), (.tmp 37)]) .nil))))
        (.ops (.vd 39 (o_mov (.tmp 0)) (.cd 40 (fun F => c_call F 192 [(.tmp 39)]) .nil))))))
       (.ops (.vd 41 (o_bin .add (.tmp 32) (.const (.int .i64 1))) (.vd 32 (o_mov (.tmp 41)) .nil)))))
def S137_2 : SCode := .seq (.seq (.ops (.vd 6 (o_mov (.tmp 0)) (.vd 7 (o_nilCheck (.tmp 6)) (.vd 8 (o_field 5 (.tmp 7)) (.vd 9 (o_load false 1 (.tmp 8)) .nil)))))
    (.cond (.tmp 9)
     .skip
     (.exit 0)))
    (.block 1 (.seq (.ops (.vd 10 (o_mov (.tmp 0)) (.vd 11 (o_nilCheck (.tmp 10)) (.vd 12 (o_field 5 (.tmp 11)) (.v none none (o_store 1 (.tmp 12) (.const (.bool false))) .nil)))))
     (.seq (.ops (.vd 13 (o_mov (.tmp 0)) (.vd 14 (o_nilCheck (.tmp 13)) (.vd 15 (o_field 6 (.tmp 14)) (.vd 16 (o_field 2 (.tmp 15)) (.vd 17 (o_load false 1 (.tmp 16)) (.vd 18 (o_bin .add (.tmp 17) (.const (.int .i64 1))) (.vd 19 (o_nilCheck (.tmp 13)) (.vd 20 (o_field 6 (.tmp 19)) (.vd 21 (o_field 2 (.tmp 20)) (.v none none (o_store 1 (.tmp 21) (.tmp 18)) .nil)))))))))))
     (.seq (.dregion [⟨⟨some 22, none, .mov (.tmp 0)⟩, 0, 0, 0⟩, ⟨⟨some 23, none, .nilCheck (.tmp 22)⟩, 1, 0, 0⟩, ⟨⟨some 24, none, .field 0 (.tmp 23)⟩, 2, 0, 0⟩, ⟨⟨some 25, none, .load false 1 (.tmp 24)⟩, 3, 1, 0⟩, ⟨⟨some 26, none, .mov (.tmp 0)⟩, 4, 0, 0⟩, ⟨⟨some 27, none, .nilCheck (.tmp 26)⟩, 5, 0, 0⟩, ⟨⟨some 28, none, .field 1 (.tmp 27)⟩, 6, 0, 0⟩, ⟨⟨some 29, none, .load false 1 (.tmp 28)⟩, 7, 1, 0⟩, ⟨⟨some 30, none, .call 143 [(.tmp 25), (.tmp 29)]⟩, 8, 3, 0⟩, ⟨⟨some 31, none, .len (.tmp 30)⟩, 9, 0, 1⟩, ⟨⟨some 32, none, .mov (.const (.int .i64 0))⟩, 10, 0, 0⟩])
     (.block 2 (.loop S137_1))))))
def S137 : SCode := (.seq (.ops (.vd 4 (o_mov (.tmp 0)) (.cd 5 (fun F => c_call F 192 [(.tmp 4)]) .nil)))
  (.block 0 (.loop S137_2)))
def X137 : FnS := .code ⟨42, 0, .skip, []⟩ S137
theorem x137 : okX Go.Proofs.Tryz.prog 137 X137 := ⟨C137, c137, rfl, rfl, rfl, by kernel_rfl⟩
def S138_1 : SCode := .seq (.ops (.vd 26 (o_bin .lss (.tmp 25) (.tmp 24)) .nil))
    (.seq (.cond (.tmp 26)
     .skip
     (.exit 0))
    (.seq (.block 1 (.seq (.ops (.vd 27 (o_index 1 (.tmp 23) (.tmp 25)) (.vd 28 (o_load false 1 (.tmp 27)) (.vd 5 (o_mov (.tmp 28)) .nil))))
     (.ops (.vd 29 (o_mov (.tmp 0)) (.vd 30 (o_mov (.tmp 5)) (.cd 31 (fun F => c_call F 136 [(.tmp 29), (.tmp 30)]) (.vd 32 (o_mov (.tmp 31)) (.vg 33 32 false (o_mov (.tmp 3)) (.vd 34 (o_pick (.tmp 32) (.const (.bool true)) (.tmp 33)) (.vd 3 (o_mov (.tmp 34)) .nil))))))))))
    (.ops (.vd 35 (o_bin .add (.tmp 25) (.const (.int .i64 1))) (.vd 25 (o_mov (.tmp 35)) .nil)))))
def S138 : SCode := (.seq (.ops (.vd 2 (o_mov (.const (.bool false))) .nil))
  (.seq (.ops (.vd 6 (o_mov (.tmp 0)) (.vd 7 (o_nilCheck (.tmp 6)) (.vd 8 (o_field 6 (.tmp 7)) (.vd 9 (o_field 3 (.tmp 8)) (.vd 10 (o_load false 1 (.tmp 9)) (.vd 11 (o_bin .add (.tmp 10) (.const (.int .i64 1))) (.vd 12 (o_nilCheck (.tmp 6)) (.vd 13 (o_field 6 (.tmp 12)) (.vd 14 (o_field 3 (.tmp 13)) (.v none none (o_store 1 (.tmp 14) (.tmp 11)) .nil)))))))))))
  (.seq (.ops (.vd 3 (o_mov (.const (.bool false))) .nil))
  (.seq (.seq (.dregion [⟨⟨some 15, none, .mov (.tmp 0)⟩, 0, 0, 0⟩, ⟨⟨some 16, none, .nilCheck (.tmp 15)⟩, 1, 0, 0⟩, ⟨⟨some 17, none, .field 0 (.tmp 16)⟩, 2, 0, 0⟩, ⟨⟨some 18, none, .load false 1 (.tmp 17)⟩, 3, 1, 0⟩, ⟨⟨some 19, none, .mov (.tmp 0)⟩, 4, 0, 0⟩, ⟨⟨some 20, none, .nilCheck (.tmp 19)⟩, 5, 0, 0⟩, ⟨⟨some 21, none, .field 1 (.tmp 20)⟩, 6, 0, 0⟩, ⟨⟨some 22, none, .load false 1 (.tmp 21)⟩, 7, 1, 0⟩, ⟨⟨some 23, none, .call 194 [(.tmp 18), (.tmp 22)]⟩, 8, 3, 0⟩, ⟨⟨some 24, none, .len (.tmp 23)⟩, 9, 0, 1⟩, ⟨⟨some 25, none, .mov (.const (.int .i64 0))⟩, 10, 0, 0⟩])
  (.block 0 (.loop S138_1)))
  (.seq (.ops (.vd 36 (o_mov (.tmp 3)) (.vd 2 (o_mov (.tmp 36)) .nil)))
  .ret)))))
def X138 : FnS := .code ⟨37, 0, .skip, [.tmp 2]⟩ S138
theorem x138 : okX Go.Proofs.Tryz.prog 138 X138 := ⟨C138, c138, rfl, rfl, rfl, by kernel_rfl⟩
def S139 : SCode := (.seq (.ops (.vd 3 (o_mov (.const (.bool false))) .nil))
  (.seq (.ops (.vd 4 (o_mov (.tmp 0)) (.vd 5 (o_bin .neq (.tmp 4) (.const (.int .i64 0))) (.vd 6 (o_mov (.tmp 5)) (.vg 7 6 true (o_load false 1 (.tmp 1)) (.vg 8 6 true (o_mov (.tmp 0)) (.c (some 9) (some (6, true)) (fun F => c_call F 44 [(.tmp 7), (.tmp 8)]) (.vg 10 6 true (o_not (.tmp 9)) (.vd 11 (o_pick (.tmp 6) (.tmp 10) (.const (.bool false))) (.vd 3 (o_mov (.tmp 11)) .nil))))))))))
  .ret))
def X139 : FnS := .code ⟨12, 0, .skip, [.tmp 3]⟩ S139
theorem x139 : okX Go.Proofs.Tryz.prog 139 X139 := ⟨C139, c139, rfl, rfl, rfl, by kernel_rfl⟩
def S140 : SCode := (.seq (.ops (.vd 4 (o_mov (.const (.bool false))) .nil))
  (.seq (.ops (.vd 5 (o_mov (.tmp 0)) (.vd 6 (o_mov (.tmp 1)) (.cd 7 (fun F => c_call F 133 [(.tmp 5), (.tmp 6)]) (.vd 8 (o_bin .geq (.tmp 7) (.const (.int .i64 0))) (.vd 4 (o_mov (.tmp 8)) .nil))))))
  .ret))
def X140 : FnS := .code ⟨9, 0, .skip, [.tmp 4]⟩ S140
theorem x140 : okX Go.Proofs.Tryz.prog 140 X140 := ⟨C140, c140, rfl, rfl, rfl, by kernel_rfl⟩
def S141 : SCode := (.seq (.ops (.vd 2 (o_mov (.const (.nilSlice))) .nil))
  (.seq (.seq (.ops (.vd 6 (o_mov (.tmp 0)) (.cd 7 (fun F => c_call F 166 [(.tmp 6)]) (.vd 8 (o_not (.tmp 7)) .nil))))
  (.cond (.tmp 8)
   (.seq (.ops (.vd 2 (o_mov (.const (.nilSlice))) .nil))
   .ret)
   .skip))
  (.seq (.ops (.vd 3 (o_new [.nilSlice]) .nil))
  (.seq (.seq (.ops (.vd 9 (o_mov (.tmp 0)) (.cd 10 (fun F => c_call F 170 [(.tmp 9)]) .nil)))
  (.block 0 (.rangeF (.tmp 10) [11, 12] 26 4512)))
  (.seq (.ops (.vd 25 (o_load false 1 (.tmp 3)) (.vd 2 (o_mov (.tmp 25)) .nil)))
  .ret)))))
def X141 : FnS := .code ⟨26, 0, .skip, [.tmp 2]⟩ S141
theorem x141 : okX Go.Proofs.Tryz.prog 141 X141 := ⟨C141, c141, rfl, rfl, rfl, by kernel_rfl⟩
def S1004512 : SCode := (.ops (.vd 5 (o_mov (.tmp 12)) .nil))
def X1004512 : FnS := .code ⟨26, 1, .skip, []⟩ S1004512
theorem x1004512 : okX Go.Proofs.Tryz.prog 1004512 X1004512 := ⟨C1004512, c1004512, rfl, rfl, rfl, by kernel_rfl⟩
def S1004513 : SCode := (.block 1 (.seq (.dregion [⟨⟨some 13, none, .load false 1 (.tmp 3)⟩, 0, 1, 0⟩, ⟨⟨some 14, none, .mov (.tmp 5)⟩, 1, 0, 0⟩, ⟨⟨some 15, none, .nilCheck (.tmp 14)⟩, 2, 0, 0⟩, ⟨⟨some 16, none, .load false 1 (.tmp 15)⟩, 3, 1, 0⟩, ⟨⟨some 17, none, .call 28 [(.tmp 13), (.tmp 16)]⟩, 4, 3, 0⟩, ⟨⟨some 18, none, .not (.tmp 17)⟩, 5, 0, 1⟩])
   (.cond (.tmp 18)
    (.dregion [⟨⟨some 19, none, .load false 1 (.tmp 3)⟩, 0, 1, 0⟩, ⟨⟨some 20, none, .mov (.tmp 5)⟩, 1, 0, 0⟩, ⟨⟨some 21, none, .nilCheck (.tmp 20)⟩, 2, 0, 0⟩, ⟨⟨some 22, none, .load false 1 (.tmp 21)⟩, 3, 1, 0⟩, ⟨⟨some 23, none, .buildSlice 1 [.int .i64 0] 1 [(0, 1, (.tmp 22))]⟩, 4, 0, 0⟩, ⟨⟨some 24, none, .append 1 (.tmp 19) (.tmp 23)⟩, 5, 3, 0⟩, ⟨⟨none, none, .store 1 (.tmp 3) (.tmp 24)⟩, 6, 3, 1⟩])
    .skip)))
def X1004513 : FnS := .code ⟨26, 2, .skip, []⟩ S1004513
theorem x1004513 : okX Go.Proofs.Tryz.prog 1004513 X1004513 := ⟨C1004513, c1004513, rfl, rfl, rfl, by kernel_rfl⟩
def S142 : SCode := (.seq (.ops (.vd 4 (o_mov (.const (.bool false))) .nil))
  (.seq (.ops (.vd 5 (o_mov (.tmp 0)) (.cd 6 (fun F => c_call F 30 [(.tmp 5)]) (.vd 7 (o_bin .gtr (.tmp 6) (.const (.int .i64 0))) (.vd 8 (o_mov (.tmp 7)) (.vg 9 8 true (o_mov (.tmp 1)) (.c (some 10) (some (8, true)) (fun F => c_call F 31 [(.tmp 9)]) (.vg 11 8 true (o_bin .eql (.tmp 10) (.const (.int .i64 1))) (.vd 12 (o_pick (.tmp 8) (.tmp 11) (.const (.bool false))) (.vd 13 (o_mov (.tmp 12)) (.vg 14 13 true (o_mov (.tmp 1)) (.c (some 15) (some (13, true)) (fun F => c_call F 32 [(.tmp 14)]) (.vg 16 13 true (o_mov (.tmp 0)) (.c (some 17) (some (13, true)) (fun F => c_call F 30 [(.tmp 16)]) (.vg 18 13 true (o_bin .mul (.tmp 17) (.const (.int .i64 64))) (.vg 19 13 true (o_bin .quo (.tmp 18) (.const (.int .i64 2))) (.vg 20 13 true (o_bin .eql (.tmp 15) (.tmp 19)) (.vd 21 (o_pick (.tmp 13) (.tmp 20) (.const (.bool false))) (.vd 4 (o_mov (.tmp 21)) .nil)))))))))))))))))))
  .ret))
def X142 : FnS := .code ⟨22, 0, .skip, [.tmp 4]⟩ S142
theorem x142 : okX Go.Proofs.Tryz.prog 142 X142 := ⟨C142, c142, rfl, rfl, rfl, by kernel_rfl⟩
def S143 : SCode := (.seq (.ops (.vd 2 (o_box (.tmp 0)) (.vd 3 (o_box (.tmp 1)) (.vd 4 (o_mov (.const (.nilSlice))) .nil))))
  (.seq (.ops (.vd 5 (o_load false 1 (.tmp 2)) (.cd 6 (fun F => c_call F 64 [(.tmp 5)]) (.vd 7 (o_mkfunc 195 [(.tmp 2), (.tmp 3)]) (.cd 8 (fun F => c_call F 63 [(.tmp 6), (.tmp 7)]) (.vd 4 (o_mov (.tmp 8)) .nil))))))
  .ret))
def X143 : FnS := .code ⟨9, 0, .skip, [.tmp 4]⟩ S143
theorem x143 : okX Go.Proofs.Tryz.prog 143 X143 := ⟨C143, c143, rfl, rfl, rfl, by kernel_rfl⟩
def S144 : SCode := (.seq (.ops (.vd 1 (o_box (.tmp 0)) (.vd 2 (o_mov (.const (.int .i64 0))) .nil)))
  (.seq (.seq (.ops (.vd 3 (o_field 2 (.tmp 1)) (.vd 4 (o_load false 1 (.tmp 3)) .nil)))
  (.block 0 (.seq (.ops (.vd 6 (o_bin .eql (.tmp 4) (.const (.int .i64 1))) (.vd 5 (o_mov (.tmp 6)) .nil)))
   (.cond (.tmp 5)
    (.seq (.ops (.vd 2 (o_mov (.const (.int .i64 1))) .nil))
    .ret)
    (.seq (.ops (.vd 8 (o_bin .eql (.tmp 4) (.const (.int .i64 2))) (.vd 7 (o_mov (.tmp 8)) .nil)))
    (.cond (.tmp 7)
     (.seq (.ops (.vd 2 (o_mov (.const (.int .i64 2))) .nil))
     .ret)
     .skip))))))
  (.seq (.ops (.vd 2 (o_mov (.const (.int .i64 0))) .nil))
  .ret)))
def X144 : FnS := .code ⟨9, 0, .skip, [.tmp 2]⟩ S144
theorem x144 : okX Go.Proofs.Tryz.prog 144 X144 := ⟨C144, c144, rfl, rfl, rfl, by kernel_rfl⟩
def S145 : SCode := (.seq (.ops (.vd 6 (o_mov (.const (.bool false))) .nil))
  (.seq (.ops (.vd 7 (o_mov (.tmp 0)) (.vd 8 (o_mov (.tmp 2)) (.cd 9 (fun F => c_call F 44 [(.tmp 7), (.tmp 8)]) (.vd 10 (o_mov (.tmp 9)) (.vg 11 10 true (o_mov (.tmp 1)) (.vg 12 10 true (o_mov (.tmp 2)) (.vg 13 10 true (o_bin .quo (.tmp 12) (.const (.int .i64 2))) (.c (some 14) (some (10, true)) (fun F => c_call F 99 [(.tmp 11), (.tmp 13)]) (.vg 15 10 true (o_bin .eql (.tmp 14) (.const (.int .i64 1))) (.vd 16 (o_pick (.tmp 10) (.tmp 15) (.const (.bool false))) (.vd 6 (o_mov (.tmp 16)) .nil))))))))))))
  .ret))
def X145 : FnS := .code ⟨17, 0, .skip, [.tmp 6]⟩ S145
theorem x145 : okX Go.Proofs.Tryz.prog 145 X145 := ⟨C145, c145, rfl, rfl, rfl, by kernel_rfl⟩
def S150 : SCode := (.seq (.ops (.vd 2 (o_mov (.const (.int .i64 0))) .nil))
  (.seq (.cond (.const (.bool false))
   (.seq (.ops (.vd 3 (o_mov (.tmp 0)) (.vd 4 (o_conv .u32 (.tmp 3)) (.cd 5 (fun F => c_call F 206 [(.tmp 4)]) (.vd 2 (o_mov (.tmp 5)) .nil)))))
   .ret)
   .skip)
  (.seq (.ops (.vd 6 (o_mov (.tmp 0)) (.cd 7 (fun F => c_call F 207 [(.tmp 6)]) (.vd 2 (o_mov (.tmp 7)) .nil))))
  .ret)))
def X150 : FnS := .code ⟨8, 0, .skip, [.tmp 2]⟩ S150
theorem x150 : okX Go.Proofs.Tryz.prog 150 X150 := ⟨C150, c150, rfl, rfl, rfl, by kernel_rfl⟩
def S153 : SCode := (.seq (.ops (.vd 4 (o_mov (.const (.int .i64 0))) .nil))
  (.seq (.block 0 (.seq (.ops (.vd 6 (o_mov (.tmp 0)) (.cd 7 (fun F => c_call F 83 [(.tmp 6)]) (.vd 8 (o_not (.tmp 7)) (.vd 5 (o_mov (.tmp 8)) .nil)))))
   (.cond (.tmp 5)
    (.seq (.ops (.vd 4 (o_mov (.const (.int .i64 5))) .nil))
    .ret)
    (.seq (.ops (.vd 10 (o_mov (.tmp 0)) (.vd 11 (o_mov (.tmp 1)) (.cd 12 (fun F => c_call F 44 [(.tmp 10), (.tmp 11)]) (.vd 13 (o_not (.tmp 12)) (.vd 9 (o_mov (.tmp 13)) .nil))))))
    (.cond (.tmp 9)
     (.seq (.ops (.vd 4 (o_mov (.const (.int .i64 4))) .nil))
     .ret)
     .skip)))))
  (.seq (.ops (.vd 4 (o_mov (.const (.int .i64 0))) .nil))
  .ret)))
def X153 : FnS := .code ⟨14, 0, .skip, [.tmp 4]⟩ S153
theorem x153 : okX Go.Proofs.Tryz.prog 153 X153 := ⟨C153, c153, rfl, rfl, rfl, by kernel_rfl⟩
def S154 : SCode := (.ops (.vd 6 (o_mov (.tmp 0)) (.vd 7 (o_nilCheck (.tmp 6)) (.vd 8 (o_field 1 (.tmp 7)) (.vd 9 (o_load false 1 (.tmp 8)) (.vd 10 (o_mov (.tmp 1)) (.vd 11 (o_mov (.tmp 1)) (.vd 12 (o_mov (.tmp 2)) (.vd 13 (o_bin .add (.tmp 11) (.tmp 12)) (.vd 14 (o_slice 1 (.tmp 9) (some (.tmp 10)) (some (.tmp 13)) none) (.v none none (o_clear [.int .i64 0] (.tmp 14)) .nil)))))))))))
def X154 : FnS := .code ⟨15, 0, .skip, []⟩ S154
theorem x154 : okX Go.Proofs.Tryz.prog 154 X154 := ⟨C154, c154, rfl, rfl, rfl, by kernel_rfl⟩
def S155 : SCode := (.seq (.ops (.vd 6 (o_mov (.const (.int .i64 0))) .nil))
  (.seq (.block 0 (.seq (.ops (.vd 8 (o_mov (.tmp 0)) (.vd 9 (o_mov (.tmp 1)) (.vd 10 (o_mov (.tmp 2)) (.cd 11 (fun F => c_call F 73 [(.tmp 8), (.tmp 9), (.tmp 10)]) (.vd 12 (o_not (.tmp 11)) (.vd 7 (o_mov (.tmp 12)) .nil)))))))
   (.cond (.tmp 7)
    (.seq (.ops (.vd 6 (o_mov (.const (.int .i64 0))) .nil))
    .ret)
    (.seq (.ops (.vd 14 (o_mov (.tmp 0)) (.vd 15 (o_mov (.tmp 2)) (.cd 16 (fun F => c_call F 105 [(.tmp 14), (.tmp 15)]) (.vd 13 (o_mov (.tmp 16)) .nil)))))
    (.cond (.tmp 13)
     (.seq (.ops (.vd 6 (o_mov (.const (.int .i64 1))) .nil))
     .ret)
     .skip)))))
  (.seq (.ops (.vd 6 (o_mov (.const (.int .i64 2))) .nil))
  .ret)))
def X155 : FnS := .code ⟨17, 0, .skip, [.tmp 6]⟩ S155
theorem x155 : okX Go.Proofs.Tryz.prog 155 X155 := ⟨C155, c155, rfl, rfl, rfl, by kernel_rfl⟩
def S156_1 : SCode := .block 1 (.seq (.dregion [⟨⟨some 7, none, .mov (.tmp 0)⟩, 0, 0, 0⟩, ⟨⟨some 8, none, .nilCheck (.tmp 7)⟩, 1, 0, 0⟩, ⟨⟨some 9, none, .field 1 (.tmp 8)⟩, 2, 0, 0⟩, ⟨⟨some 10, none, .load false 1 (.tmp 9)⟩, 3, 1, 0⟩, ⟨⟨some 11, none, .mov (.tmp 0)⟩, 4, 0, 0⟩, ⟨⟨some 12, none, .nilCheck (.tmp 11)⟩, 5, 0, 0⟩, ⟨⟨some 13, none, .field 2 (.tmp 12)⟩, 6, 0, 0⟩, ⟨⟨some 14, none, .load false 1 (.tmp 13)⟩, 7, 1, 0⟩, ⟨⟨some 15, none, .index 1 (.tmp 10) (.tmp 14)⟩, 8, 0, 0⟩, ⟨⟨some 16, none, .load false 1 (.tmp 15)⟩, 9, 1, 0⟩, ⟨⟨some 5, none, .mov (.tmp 16)⟩, 10, 0, 0⟩])
     (.seq (.ops (.vd 17 (o_mov (.tmp 0)) (.vd 18 (o_mov (.tmp 0)) (.vd 19 (o_nilCheck (.tmp 18)) (.vd 20 (o_field 3 (.tmp 19)) (.vd 21 (o_load false 1 (.tmp 20)) (.vd 22 (o_mov (.tmp 5)) (.vd 23 (o_bin .mul (.tmp 22) (.const (.int .i64 64))) (.vd 24 (o_mm true [(.tmp 21), (.tmp 23)]) (.vd 25 (o_nilCheck (.tmp 17)) (.vd 26 (o_field 3 (.tmp 25)) (.v none none (o_store 1 (.tmp 26) (.tmp 24)) .nil))))))))))))
     (.seq (.seq (.ops (.vd 27 (o_mov (.tmp 0)) (.vd 28 (o_nilCheck (.tmp 27)) (.vd 29 (o_field 3 (.tmp 28)) (.vd 30 (o_load false 1 (.tmp 29)) (.vd 31 (o_mov (.tmp 1)) (.vd 32 (o_bin .add (.tmp 30) (.tmp 31)) (.vd 33 (o_mov (.tmp 5)) (.vd 34 (o_bin .add (.tmp 33) (.const (.int .i64 1))) (.vd 35 (o_bin .mul (.tmp 34) (.const (.int .i64 64))) (.vd 36 (o_bin .gtr (.tmp 32) (.tmp 35)) .nil)))))))))))
     (.cond (.tmp 36)
      (.seq (.ops (.vd 37 (o_mov (.tmp 0)) (.vd 38 (o_nilCheck (.tmp 37)) (.vd 39 (o_field 2 (.tmp 38)) (.vd 40 (o_load false 1 (.tmp 39)) (.vd 41 (o_bin .add (.tmp 40) (.const (.int .i64 1))) (.vd 42 (o_nilCheck (.tmp 37)) (.vd 43 (o_field 2 (.tmp 42)) (.v none none (o_store 1 (.tmp 43) (.tmp 41)) .nil)))))))))
      (.exit 1))
      .skip))
     (.seq (.seq (.ops (.vd 44 (o_mov (.tmp 0)) (.vd 45 (o_mov (.tmp 0)) (.vd 46 (o_nilCheck (.tmp 45)) (.vd 47 (o_field 3 (.tmp 46)) (.vd 48 (o_load false 1 (.tmp 47)) (.vd 49 (o_mov (.tmp 1)) (.cd 50 (fun F => c_call F 209 [(.tmp 44), (.tmp 48), (.tmp 49)]) (.vd 6 (o_mov (.tmp 50)) .nil)))))))))
     (.seq (.ops (.vd 51 (o_mov (.tmp 6)) (.vd 52 (o_bin .gtr (.tmp 51) (.const (.int .i64 0))) .nil)))
     (.cond (.tmp 52)
      (.seq (.ops (.vd 53 (o_mov (.tmp 0)) (.vd 54 (o_mov (.tmp 6)) (.vd 55 (o_nilCheck (.tmp 53)) (.vd 56 (o_field 3 (.tmp 55)) (.v none none (o_store 1 (.tmp 56) (.tmp 54)) .nil))))))
      (.exit 1))
      .skip)))
     (.seq (.ops (.vd 57 (o_mov (.tmp 0)) (.vd 58 (o_nilCheck (.tmp 57)) (.vd 59 (o_field 3 (.tmp 58)) (.vd 60 (o_load false 1 (.tmp 59)) (.vd 61 (o_mov (.tmp 1)) (.vd 62 (o_bin .add (.tmp 60) (.tmp 61)) (.vd 63 (o_nilCheck (.tmp 57)) (.vd 64 (o_field 3 (.tmp 63)) (.v none none (o_store 1 (.tmp 64) (.tmp 62)) .nil))))))))))
     (.seq (.ops (.vd 65 (o_mov (.tmp 0)) (.vd 66 (o_nilCheck (.tmp 65)) (.vd 67 (o_field 3 (.tmp 66)) (.vd 68 (o_load false 1 (.tmp 67)) (.vd 69 (o_mov (.tmp 1)) (.vd 70 (o_bin .sub (.tmp 68) (.tmp 69)) (.vd 4 (o_mov (.tmp 70)) .nil))))))))
     .ret))))))
def S156 : SCode := (.seq (.ops (.vd 4 (o_mov (.const (.int .i64 0))) .nil))
  (.block 0 (.loop S156_1)))
def X156 : FnS := .code ⟨71, 0, .skip, [.tmp 4]⟩ S156
theorem x156 : okX Go.Proofs.Tryz.prog 156 X156 := ⟨C156, c156, rfl, rfl, rfl, by kernel_rfl⟩
def S158 : SCode := (.seq (.ops (.vd 4 (o_mov (.const (.bool false))) .nil))
  (.seq (.ops (.vd 5 (o_mov (.tmp 0)) (.cd 6 (fun F => c_call F 83 [(.tmp 5)]) (.vd 7 (o_mov (.tmp 6)) (.vg 8 7 true (o_mov (.tmp 1)) (.vg 9 7 true (o_bin .geq (.tmp 8) (.const (.int .i64 1))) (.vd 10 (o_pick (.tmp 7) (.tmp 9) (.const (.bool false))) (.vd 11 (o_mov (.tmp 10)) (.vg 12 11 true (o_mov (.tmp 1)) (.vg 13 11 true (o_mov (.tmp 0)) (.vg 14 11 true (o_nilCheck (.tmp 13)) (.vg 15 11 true (o_field 0 (.tmp 14)) (.vg 16 11 true (o_load false 1 (.tmp 15)) (.vg 17 11 true (o_len (.tmp 16)) (.vg 18 11 true (o_bin .lss (.tmp 12) (.tmp 17)) (.vd 19 (o_pick (.tmp 11) (.tmp 18) (.const (.bool false))) (.vd 4 (o_mov (.tmp 19)) .nil)))))))))))))))))
  .ret))
def X158 : FnS := .code ⟨20, 0, .skip, [.tmp 4]⟩ S158
theorem x158 : okX Go.Proofs.Tryz.prog 158 X158 := ⟨C158, c158, rfl, rfl, rfl, by kernel_rfl⟩
def S159 : SCode := (.seq (.ops (.vd 2 (o_new [.int .i64 0, .int .i64 0, .int .i64 0]) .nil))
  (.seq (.ops (.vd 3 (o_mov (.tmp 0)) (.vd 4 (o_bin .rem (.tmp 3) (.const (.int .i64 16))) (.vd 5 (o_mov (.tmp 0)) (.vd 6 (o_bin .rem (.tmp 5) (.const (.int .i64 4096))) (.vd 7 (o_bin .quo (.tmp 6) (.const (.int .i64 16))) (.vd 8 (o_mov (.tmp 0)) (.vd 9 (o_bin .quo (.tmp 8) (.const (.int .i64 4096))) (.vd 10 (o_build [.int .i64 0, .int .i64 0, .int .i64 0] [(0, 1, (.tmp 4)), (1, 1, (.tmp 7)), (2, 1, (.tmp 9))]) (.v none none (o_store 3 (.tmp 2) (.tmp 10)) .nil))))))))))
  .ret))
def X159 : FnS := .code ⟨11, 0, .skip, [.cell 2 true 3]⟩ S159
theorem x159 : okX Go.Proofs.Tryz.prog 159 X159 := ⟨C159, c159, rfl, rfl, rfl, by kernel_rfl⟩
def S160 : SCode := (.seq (.ops (.vd 2 (o_mov (.const (.bool false))) .nil))
  (.seq (.ops (.vd 3 (o_mov (.tmp 0)) (.vd 4 (o_bin .geq (.tmp 3) (.const (.int .i64 0))) (.vd 5 (o_mov (.tmp 4)) (.vg 6 5 true (o_mov (.tmp 0)) (.vg 7 5 true (o_bin .lss (.tmp 6) (.const (.int .i64 8))) (.vd 8 (o_pick (.tmp 5) (.tmp 7) (.const (.bool false))) (.vd 2 (o_mov (.tmp 8)) .nil))))))))
  .ret))
def X160 : FnS := .code ⟨9, 0, .skip, [.tmp 2]⟩ S160
theorem x160 : okX Go.Proofs.Tryz.prog 160 X160 := ⟨C160, c160, rfl, rfl, rfl, by kernel_rfl⟩
def S161 : SCode := (.seq (.ops (.vd 4 (o_mov (.const (.bool false))) .nil))
  (.seq (.ops (.vd 5 (o_mov (.tmp 0)) (.vd 6 (o_mov (.tmp 1)) (.cd 7 (fun F => c_call F 210 [(.tmp 5), (.tmp 6)]) (.vd 8 (o_bin .geq (.tmp 7) (.const (.int .i64 0))) (.vd 4 (o_mov (.tmp 8)) .nil))))))
  .ret))
def X161 : FnS := .code ⟨9, 0, .skip, [.tmp 4]⟩ S161
theorem x161 : okX Go.Proofs.Tryz.prog 161 X161 := ⟨C161, c161, rfl, rfl, rfl, by kernel_rfl⟩
def S162 : SCode := (.seq (.ops (.vd 1 (o_box (.tmp 0)) (.vd 2 (o_mov (.const (.bool false))) .nil)))
  (.seq (.ops (.vd 3 (o_load true 2 (.tmp 1)) (.vd 4 (o_build [.int .i64 0, .int .i64 0] []) (.vd 5 (o_eqs true 2 (.tmp 3) (.tmp 4)) (.vd 2 (o_mov (.tmp 5)) .nil)))))
  .ret))
def X162 : FnS := .code ⟨6, 0, .skip, [.tmp 2]⟩ S162
theorem x162 : okX Go.Proofs.Tryz.prog 162 X162 := ⟨C162, c162, rfl, rfl, rfl, by kernel_rfl⟩
def S164 : SCode := (.seq (.ops (.vd 3 (o_box (.tmp 0)) (.vd 6 (o_mov (.const (.int .i64 0))) .nil)))
  (.seq (.block 0 (.seq (.ops (.vd 8 (o_load false 1 (.tmp 3)) (.cd 9 (fun F => c_call F 84 [(.tmp 8)]) (.vd 10 (o_not (.tmp 9)) (.vd 7 (o_mov (.tmp 10)) .nil)))))
   (.cond (.tmp 7)
    (.seq (.ops (.vd 6 (o_mov (.const (.int .i64 5))) .nil))
    .ret)
    (.seq (.ops (.vd 12 (o_load false 1 (.tmp 3)) (.vd 13 (o_mov (.tmp 1)) (.cd 14 (fun F => c_call F 168 [(.tmp 12), (.tmp 13)]) (.vd 15 (o_not (.tmp 14)) (.vd 16 (o_mov (.tmp 15)) (.vg 17 16 false (o_mov (.tmp 2)) (.vg 18 16 false (o_mkfunc 211 [(.tmp 3)]) (.c (some 19) (some (16, false)) (fun F => c_call F 140 [(.tmp 17), (.tmp 18)]) (.vd 20 (o_pick (.tmp 16) (.const (.bool true)) (.tmp 19)) (.vd 11 (o_mov (.tmp 20)) .nil)))))))))))
    (.cond (.tmp 11)
     (.seq (.ops (.vd 6 (o_mov (.const (.int .i64 1))) .nil))
     .ret)
     .skip)))))
  (.seq (.ops (.vd 6 (o_mov (.const (.int .i64 0))) .nil))
  .ret)))
def X164 : FnS := .code ⟨21, 0, .skip, [.tmp 6]⟩ S164
theorem x164 : okX Go.Proofs.Tryz.prog 164 X164 := ⟨C164, c164, rfl, rfl, rfl, by kernel_rfl⟩
def S165 : SCode := (.seq (.ops (.vd 8 (o_mov (.tmp 1)) (.vd 9 (o_mov (.tmp 0)) (.vd 10 (o_nilCheck (.tmp 9)) (.vd 11 (o_field 1 (.tmp 10)) (.vd 12 (o_load false 1 (.tmp 11)) (.vd 13 (o_bin .mul (.tmp 8) (.tmp 12)) (.vd 6 (o_mov (.tmp 13)) .nil))))))))
  (.seq (.ops (.vd 14 (o_mov (.tmp 0)) (.vd 15 (o_nilCheck (.tmp 14)) (.vd 16 (o_field 2 (.tmp 15)) (.vd 17 (o_load false 1 (.tmp 16)) (.vd 18 (o_mov (.tmp 6)) (.vd 19 (o_bin .quo (.tmp 18) (.const (.int .i64 64))) (.vd 20 (o_index 1 (.tmp 17) (.tmp 19)) (.vd 7 (o_mov (.tmp 20)) .nil)))))))))
  (.dregion [⟨⟨some 25, none, .mov (.tmp 0)⟩, 4, 0, 0⟩, ⟨⟨some 26, none, .call 213 [(.tmp 25)]⟩, 5, 3, 0⟩, ⟨⟨some 21, none, .mov (.tmp 7)⟩, 0, 0, 0⟩, ⟨⟨some 22, none, .mov (.tmp 7)⟩, 1, 0, 0⟩, ⟨⟨some 23, none, .nilCheck (.tmp 22)⟩, 2, 0, 0⟩, ⟨⟨some 24, none, .load false 1 (.tmp 23)⟩, 3, 1, 0⟩, ⟨⟨some 27, none, .conv .u64 (.tmp 26)⟩, 6, 0, 1⟩, ⟨⟨some 28, none, .mov (.tmp 6)⟩, 7, 0, 0⟩, ⟨⟨some 29, none, .bin .rem (.tmp 28) (.const (.int .i64 64))⟩, 8, 0, 0⟩, ⟨⟨some 30, none, .shift .shl (.tmp 27) (.tmp 29)⟩, 9, 0, 1⟩, ⟨⟨some 31, none, .bin .andNot (.tmp 24) (.tmp 30)⟩, 10, 0, 1⟩, ⟨⟨some 32, none, .mov (.tmp 2)⟩, 11, 0, 0⟩, ⟨⟨some 33, none, .conv .u64 (.tmp 32)⟩, 12, 0, 0⟩, ⟨⟨some 34, none, .mov (.tmp 6)⟩, 13, 0, 0⟩, ⟨⟨some 35, none, .bin .rem (.tmp 34) (.const (.int .i64 64))⟩, 14, 0, 0⟩, ⟨⟨some 36, none, .shift .shl (.tmp 33) (.tmp 35)⟩, 15, 0, 0⟩, ⟨⟨some 37, none, .bin .or (.tmp 31) (.tmp 36)⟩, 16, 0, 1⟩, ⟨⟨some 38, none, .nilCheck (.tmp 21)⟩, 17, 0, 1⟩, ⟨⟨none, none, .store 1 (.tmp 38) (.tmp 37)⟩, 18, 3, 1⟩])))
def X165 : FnS := .code ⟨39, 0, .skip, []⟩ S165
theorem x165 : okX Go.Proofs.Tryz.prog 165 X165 := ⟨C165, c165, rfl, rfl, rfl, by kernel_rfl⟩
def S166 : SCode := (.seq (.ops (.vd 2 (o_mov (.const (.bool false))) .nil))
  (.seq (.ops (.vd 3 (o_mov (.tmp 0)) (.vd 4 (o_eqv true 1 (.tmp 3) (.const (.nilPtr))) (.vd 5 (o_mov (.tmp 4)) (.vg 6 5 true (o_mov (.tmp 0)) (.vg 7 5 true (o_nilCheck (.tmp 6)) (.vg 8 5 true (o_field 0 (.tmp 7)) (.vg 9 5 true (o_load false 1 (.tmp 8)) (.vg 10 5 true (o_bin .gtr (.tmp 9) (.const (.int .i64 0))) (.vd 11 (o_pick (.tmp 5) (.tmp 10) (.const (.bool false))) (.vd 2 (o_mov (.tmp 11)) .nil)))))))))))
  .ret))
def X166 : FnS := .code ⟨12, 0, .skip, [.tmp 2]⟩ S166
theorem x166 : okX Go.Proofs.Tryz.prog 166 X166 := ⟨C166, c166, rfl, rfl, rfl, by kernel_rfl⟩
def S167 : SCode := (.seq (.ops (.vd 3 (o_box (.tmp 1)) (.vd 4 (o_mov (.const (.nilPtr))) .nil)))
  (.seq (.ops (.vd 6 (o_mkfunc 214 [(.tmp 3)]) (.vd 5 (o_mov (.tmp 6)) .nil)))
  (.seq (.block 0 (.seq (.dregion [⟨⟨some 8, none, .field 0 (.tmp 3)⟩, 0, 0, 0⟩, ⟨⟨some 9, none, .load false 1 (.tmp 8)⟩, 1, 1, 0⟩, ⟨⟨some 10, none, .bin .eql (.tmp 9) (.const (.int .i64 0))⟩, 2, 0, 0⟩, ⟨⟨some 11, none, .mov (.tmp 10)⟩, 3, 0, 0⟩, ⟨⟨some 12, some (11, true), .field 1 (.tmp 3)⟩, 4, 0, 0⟩, ⟨⟨some 13, some (11, true), .load false 1 (.tmp 12)⟩, 5, 1, 0⟩, ⟨⟨some 14, some (11, true), .bin .geq (.tmp 13) (.const (.int .i64 0))⟩, 6, 0, 0⟩, ⟨⟨some 15, none, .pick (.tmp 11) (.tmp 14) (.const (.bool false))⟩, 7, 0, 0⟩, ⟨⟨some 16, none, .mov (.tmp 15)⟩, 8, 0, 0⟩, ⟨⟨some 17, some (16, true), .field 1 (.tmp 3)⟩, 9, 0, 0⟩, ⟨⟨some 18, some (16, true), .load false 1 (.tmp 17)⟩, 10, 1, 0⟩, ⟨⟨some 19, some (16, true), .mov (.tmp 0)⟩, 11, 0, 0⟩, ⟨⟨some 20, some (16, true), .nilCheck (.tmp 19)⟩, 12, 0, 0⟩, ⟨⟨some 21, some (16, true), .field 0 (.tmp 20)⟩, 13, 0, 0⟩, ⟨⟨some 22, some (16, true), .load false 1 (.tmp 21)⟩, 14, 1, 0⟩, ⟨⟨some 23, some (16, true), .bin .lss (.tmp 18) (.tmp 22)⟩, 15, 0, 0⟩, ⟨⟨some 24, none, .pick (.tmp 16) (.tmp 23) (.const (.bool false))⟩, 16, 0, 0⟩, ⟨⟨some 7, none, .mov (.tmp 24)⟩, 17, 0, 0⟩])
   (.cond (.tmp 7)
    (.seq (.dregion [⟨⟨some 25, none, .mov (.tmp 5)⟩, 0, 0, 0⟩, ⟨⟨some 26, none, .mov (.tmp 0)⟩, 1, 0, 0⟩, ⟨⟨some 27, none, .nilCheck (.tmp 26)⟩, 2, 0, 0⟩, ⟨⟨some 28, none, .field 1 (.tmp 27)⟩, 3, 0, 0⟩, ⟨⟨some 29, none, .load false 1 (.tmp 28)⟩, 4, 1, 0⟩, ⟨⟨some 30, none, .field 1 (.tmp 3)⟩, 5, 0, 0⟩, ⟨⟨some 31, none, .load false 1 (.tmp 30)⟩, 6, 1, 0⟩, ⟨⟨some 32, none, .bin .mul (.tmp 31) (.const (.int .i64 16))⟩, 7, 0, 0⟩, ⟨⟨some 33, none, .field 1 (.tmp 3)⟩, 8, 0, 0⟩, ⟨⟨some 34, none, .load false 1 (.tmp 33)⟩, 9, 1, 0⟩, ⟨⟨some 35, none, .bin .add (.tmp 34) (.const (.int .i64 1))⟩, 10, 0, 0⟩, ⟨⟨some 36, none, .bin .mul (.tmp 35) (.const (.int .i64 16))⟩, 11, 0, 0⟩, ⟨⟨some 37, none, .slice 1 (.tmp 29) (some (.tmp 32)) (some (.tmp 36)) none⟩, 12, 0, 0⟩, ⟨⟨some 38, none, .callm (.tmp 25) [(.tmp 37)] [(267, "dustcart/alloc.place", 272), (268, "dustcart/alloc.place", 277), (269, "dustcart/alloc.place", 285), (270, "dustcart/alloc.place", 286), (271, "dustcart/alloc.place", 290)]⟩, 13, 3, 0⟩, ⟨⟨some 4, none, .mov (.tmp 38)⟩, 14, 0, 1⟩])
    .ret)
    (.seq (.ops (.vd 40 (o_field 0 (.tmp 3)) (.vd 41 (o_load false 1 (.tmp 40)) (.vd 42 (o_bin .eql (.tmp 41) (.const (.int .i64 1))) (.vd 43 (o_mov (.tmp 42)) (.vg 44 43 true (o_field 1 (.tmp 3)) (.vg 45 43 true (o_load false 1 (.tmp 44)) (.vg 46 43 true (o_bin .eql (.tmp 45) (.const (.int .i64 0))) (.vd 47 (o_pick (.tmp 43) (.tmp 46) (.const (.bool false))) (.vd 39 (o_mov (.tmp 47)) .nil))))))))))
    (.cond (.tmp 39)
     (.seq (.ops (.vd 48 (o_mov (.tmp 5)) (.vd 49 (o_mov (.tmp 0)) (.vd 50 (o_nilCheck (.tmp 49)) (.vd 51 (o_field 2 (.tmp 50)) (.vd 52 (o_load false 1 (.tmp 51)) (.cd 53 (fun F => c_callm F (.tmp 48) [(.tmp 52)] [(267, "dustcart/alloc.place", 272), (268, "dustcart/alloc.place", 277), (269, "dustcart/alloc.place", 285), (270, "dustcart/alloc.place", 286), (271, "dustcart/alloc.place", 290)]) (.vd 4 (o_mov (.tmp 53)) .nil))))))))
     .ret)
     (.seq (.ops (.vd 55 (o_field 0 (.tmp 3)) (.vd 56 (o_load false 1 (.tmp 55)) (.vd 57 (o_bin .eql (.tmp 56) (.const (.int .i64 2))) (.vd 58 (o_mov (.tmp 57)) (.vg 59 58 true (o_field 1 (.tmp 3)) (.vg 60 58 true (o_load false 1 (.tmp 59)) (.vg 61 58 true (o_bin .eql (.tmp 60) (.const (.int .i64 0))) (.vd 62 (o_pick (.tmp 58) (.tmp 61) (.const (.bool false))) (.vd 54 (o_mov (.tmp 62)) .nil))))))))))
     (.cond (.tmp 54)
      (.seq (.ops (.vd 63 (o_mov (.tmp 5)) (.vd 64 (o_mov (.tmp 0)) (.vd 65 (o_nilCheck (.tmp 64)) (.vd 66 (o_field 3 (.tmp 65)) (.vd 67 (o_load false 1 (.tmp 66)) (.cd 68 (fun F => c_callm F (.tmp 63) [(.tmp 67)] [(267, "dustcart/alloc.place", 272), (268, "dustcart/alloc.place", 277), (269, "dustcart/alloc.place", 285), (270, "dustcart/alloc.place", 286), (271, "dustcart/alloc.place", 290)]) (.vd 4 (o_mov (.tmp 68)) .nil))))))))
      .ret)
      .skip)))))))
  (.seq (.ops (.vd 4 (o_mov (.const (.nilPtr))) .nil))
  .ret))))
def X167 : FnS := .code ⟨69, 0, .skip, [.tmp 4]⟩ S167
theorem x167 : okX Go.Proofs.Tryz.prog 167 X167 := ⟨C167, c167, rfl, rfl, rfl, by kernel_rfl⟩
def S168 : SCode := (.seq (.ops (.vd 4 (o_mov (.const (.bool false))) .nil))
  (.seq (.ops (.vd 5 (o_mov (.tmp 0)) (.cd 6 (fun F => c_call F 84 [(.tmp 5)]) (.vd 7 (o_mov (.tmp 6)) (.vg 8 7 true (o_mov (.tmp 1)) (.vg 9 7 true (o_bin .geq (.tmp 8) (.const (.int .i64 0))) (.vd 10 (o_pick (.tmp 7) (.tmp 9) (.const (.bool false))) (.vd 11 (o_mov (.tmp 10)) (.vg 12 11 true (o_mov (.tmp 1)) (.vg 13 11 true (o_mov (.tmp 0)) (.vg 14 11 true (o_nilCheck (.tmp 13)) (.vg 15 11 true (o_field 0 (.tmp 14)) (.vg 16 11 true (o_load false 1 (.tmp 15)) (.vg 17 11 true (o_bin .lss (.tmp 12) (.tmp 16)) (.vd 18 (o_pick (.tmp 11) (.tmp 17) (.const (.bool false))) (.vd 4 (o_mov (.tmp 18)) .nil))))))))))))))))
  .ret))
def X168 : FnS := .code ⟨19, 0, .skip, [.tmp 4]⟩ S168
theorem x168 : okX Go.Proofs.Tryz.prog 168 X168 := ⟨C168, c168, rfl, rfl, rfl, by kernel_rfl⟩
def S169 : SCode := (.seq (.ops (.vd 4 (o_mov (.const (.int .i64 0))) .nil))
  (.seq (.ops (.vd 6 (o_mov (.tmp 1)) (.vd 7 (o_mov (.tmp 0)) (.vd 8 (o_nilCheck (.tmp 7)) (.vd 9 (o_field 1 (.tmp 8)) (.vd 10 (o_load false 1 (.tmp 9)) (.vd 11 (o_bin .mul (.tmp 6) (.tmp 10)) (.vd 5 (o_mov (.tmp 11)) .nil))))))))
  (.seq (.dregion [⟨⟨some 24, none, .mov (.tmp 0)⟩, 12, 0, 0⟩, ⟨⟨some 25, none, .call 213 [(.tmp 24)]⟩, 13, 3, 0⟩, ⟨⟨some 12, none, .mov (.tmp 0)⟩, 0, 0, 0⟩, ⟨⟨some 13, none, .nilCheck (.tmp 12)⟩, 1, 0, 0⟩, ⟨⟨some 14, none, .field 2 (.tmp 13)⟩, 2, 0, 0⟩, ⟨⟨some 15, none, .load false 1 (.tmp 14)⟩, 3, 1, 0⟩, ⟨⟨some 16, none, .mov (.tmp 5)⟩, 4, 0, 0⟩, ⟨⟨some 17, none, .bin .quo (.tmp 16) (.const (.int .i64 64))⟩, 5, 0, 0⟩, ⟨⟨some 18, none, .index 1 (.tmp 15) (.tmp 17)⟩, 6, 0, 0⟩, ⟨⟨some 19, none, .load false 1 (.tmp 18)⟩, 7, 1, 0⟩, ⟨⟨some 20, none, .mov (.tmp 5)⟩, 8, 0, 0⟩, ⟨⟨some 21, none, .bin .rem (.tmp 20) (.const (.int .i64 64))⟩, 9, 0, 0⟩, ⟨⟨some 22, none, .shift .shr (.tmp 19) (.tmp 21)⟩, 10, 0, 0⟩, ⟨⟨some 23, none, .conv .i64 (.tmp 22)⟩, 11, 0, 0⟩, ⟨⟨some 26, none, .bin .and (.tmp 23) (.tmp 25)⟩, 14, 0, 1⟩, ⟨⟨some 4, none, .mov (.tmp 26)⟩, 15, 0, 1⟩])
  .ret)))
def X169 : FnS := .code ⟨27, 0, .skip, [.tmp 4]⟩ S169
theorem x169 : okX Go.Proofs.Tryz.prog 169 X169 := ⟨C169, c169, rfl, rfl, rfl, by kernel_rfl⟩
def S170 : SCode := (.seq (.ops (.vd 1 (o_box (.tmp 0)) (.vd 2 (o_mov (.const (.nilFunc))) .nil)))
  (.seq (.ops (.vd 3 (o_mkfunc 215 [(.tmp 1)]) (.vd 2 (o_mov (.tmp 3)) .nil)))
  .ret))
def X170 : FnS := .code ⟨4, 0, .skip, [.tmp 2]⟩ S170
theorem x170 : okX Go.Proofs.Tryz.prog 170 X170 := ⟨C170, c170, rfl, rfl, rfl, by kernel_rfl⟩
def S172 : SCode := (.seq (.ops (.vd 8 (o_mov (.const (.int .i64 0))) (.vd 9 (o_mov (.const (.int .i64 0))) .nil)))
  (.seq (.seq (.ops (.vd 14 (o_mov (.tmp 0)) (.vd 15 (o_mov (.tmp 1)) (.cd 16 (fun F => c_call F 153 [(.tmp 14), (.tmp 15)]) (.vd 10 (o_mov (.tmp 16)) .nil)))))
  (.seq (.ops (.vd 17 (o_mov (.tmp 10)) (.vd 18 (o_bin .neq (.tmp 17) (.const (.int .i64 0))) .nil)))
  (.cond (.tmp 18)
   (.seq (.ops (.vd 19 (o_mov (.tmp 10)) (.vd 8 (o_mov (.const (.int .i64 0))) (.vd 9 (o_mov (.tmp 19)) .nil))))
   .ret)
   .skip)))
  (.seq (.ops (.vd 20 (o_mov (.tmp 0)) (.vd 21 (o_nilCheck (.tmp 20)) (.vd 22 (o_field 1 (.tmp 21)) (.vd 23 (o_load false 1 (.tmp 22)) (.vd 24 (o_mov (.tmp 1)) (.vd 25 (o_bin .add (.tmp 24) (.const (.int .i64 1))) (.vd 26 (o_index 1 (.tmp 23) (.tmp 25)) (.vd 27 (o_load false 1 (.tmp 26)) (.cd 28 (fun F => c_call F 159 [(.tmp 27)]) (.vd 11 (o_new [.int .i64 0, .int .i64 0, .int .i64 0]) (.v none none (o_store 3 (.tmp 11) (.tmp 28)) .nil))))))))))))
  (.seq (.dregion [⟨⟨some 29, none, .mov (.tmp 1)⟩, 0, 0, 0⟩, ⟨⟨some 30, none, .bin .add (.tmp 29) (.const (.int .i64 2))⟩, 1, 0, 0⟩, ⟨⟨some 31, none, .field 0 (.tmp 11)⟩, 2, 0, 0⟩, ⟨⟨some 32, none, .load false 1 (.tmp 31)⟩, 3, 1, 0⟩, ⟨⟨some 12, none, .mov (.tmp 30)⟩, 4, 0, 0⟩, ⟨⟨some 13, none, .mov (.tmp 32)⟩, 5, 0, 0⟩])
  (.seq (.seq (.ops (.vd 33 (o_mov (.tmp 3)) .nil))
  (.cond (.tmp 33)
   (.dregion [⟨⟨some 34, none, .mov (.tmp 12)⟩, 0, 0, 0⟩, ⟨⟨some 35, none, .field 0 (.tmp 11)⟩, 1, 0, 0⟩, ⟨⟨some 36, none, .load false 1 (.tmp 35)⟩, 2, 1, 0⟩, ⟨⟨some 37, none, .bin .add (.tmp 34) (.tmp 36)⟩, 3, 0, 0⟩, ⟨⟨some 38, none, .field 1 (.tmp 11)⟩, 4, 0, 0⟩, ⟨⟨some 39, none, .load false 1 (.tmp 38)⟩, 5, 1, 0⟩, ⟨⟨some 12, none, .mov (.tmp 37)⟩, 6, 0, 0⟩, ⟨⟨some 13, none, .mov (.tmp 39)⟩, 7, 0, 0⟩])
   .skip))
  (.seq (.seq (.ops (.vd 40 (o_mov (.tmp 2)) (.vd 41 (o_bin .lss (.tmp 40) (.const (.int .i64 0))) (.vd 42 (o_mov (.tmp 41)) (.vg 43 42 false (o_mov (.tmp 2)) (.vg 44 42 false (o_mov (.tmp 13)) (.vg 45 42 false (o_bin .geq (.tmp 43) (.tmp 44)) (.vd 46 (o_pick (.tmp 42) (.const (.bool true)) (.tmp 45)) .nil))))))))
  (.cond (.tmp 46)
   (.seq (.ops (.vd 8 (o_mov (.const (.int .i64 0))) (.vd 9 (o_mov (.const (.int .i64 1))) .nil)))
   .ret)
   .skip))
  (.seq (.ops (.vd 47 (o_mov (.tmp 12)) (.vd 48 (o_mov (.tmp 2)) (.vd 49 (o_bin .add (.tmp 47) (.tmp 48)) (.vd 8 (o_mov (.tmp 49)) (.vd 9 (o_mov (.const (.int .i64 0))) .nil))))))
  .ret)))))))
def X172 : FnS := .code ⟨50, 0, .skip, [.tmp 8, .tmp 9]⟩ S172
theorem x172 : okX Go.Proofs.Tryz.prog 172 X172 := ⟨C172, c172, rfl, rfl, rfl, by kernel_rfl⟩
def S173_1 : SCode := .block 1 (.seq (.ops (.vd 21 (o_mov (.tmp 2)) (.vd 22 (o_mov (.tmp 1)) (.vd 23 (o_bin .sub (.tmp 21) (.tmp 22)) (.vd 12 (o_mov (.tmp 23)) .nil)))))
     (.seq (.seq (.ops (.vd 24 (o_mov (.tmp 12)) (.vd 25 (o_bin .leq (.tmp 24) (.const (.int .i64 12))) .nil)))
     (.cond (.tmp 25)
      (.seq (.ops (.vd 26 (o_mov (.tmp 0)) (.vd 27 (o_mov (.tmp 1)) (.vd 28 (o_mov (.tmp 2)) (.vd 29 (o_mov (.tmp 4)) (.cd 30 (fun F => c_call F 216 [(.tmp 26), (.tmp 27), (.tmp 28), (.tmp 29)]) .nil))))))
      .ret)
      .skip))
     (.seq (.seq (.ops (.vd 31 (o_mov (.tmp 3)) (.vd 32 (o_bin .eql (.tmp 31) (.const (.int .i64 0))) .nil)))
     (.cond (.tmp 32)
      (.seq (.ops (.vd 33 (o_mov (.tmp 0)) (.vd 34 (o_mov (.tmp 1)) (.vd 35 (o_mov (.tmp 2)) (.vd 36 (o_mov (.tmp 4)) (.cd 37 (fun F => c_call F 217 [(.tmp 33), (.tmp 34), (.tmp 35), (.tmp 36)]) .nil))))))
      .ret)
      .skip))
     (.seq (.seq (.ops (.vd 38 (o_mov (.tmp 10)) (.vd 39 (o_not (.tmp 38)) .nil)))
     (.cond (.tmp 39)
      (.seq (.ops (.vd 40 (o_mov (.tmp 0)) (.vd 41 (o_mov (.tmp 1)) (.vd 42 (o_mov (.tmp 2)) (.vd 43 (o_mov (.tmp 4)) (.cd 44 (fun F => c_call F 218 [(.tmp 40), (.tmp 41), (.tmp 42), (.tmp 43)]) .nil))))))
      (.ops (.vd 45 (o_mov (.tmp 3)) (.vd 46 (o_bin .sub (.tmp 45) (.const (.int .i64 1))) (.vd 3 (o_mov (.tmp 46)) .nil)))))
      .skip))
     (.seq (.ops (.vd 48 (o_mov (.tmp 0)) (.vd 49 (o_mov (.tmp 1)) (.vd 50 (o_mov (.tmp 2)) (.vd 51 (o_mov (.tmp 4)) (.cd 52 (fun F => c_call F 219 [(.tmp 48), (.tmp 49), (.tmp 50), (.tmp 51)]) (.vd 47 (o_mov (.tmp 52)) (.vd 53 (o_extract (.tmp 47) 0) (.vd 54 (o_extract (.tmp 47) 1) (.vd 13 (o_mov (.tmp 53)) (.vd 14 (o_mov (.tmp 54)) .nil)))))))))))
     (.seq (.seq (.ops (.vd 55 (o_mov (.tmp 14)) (.vd 56 (o_bin .eql (.tmp 55) (.const (.int .i64 2))) .nil)))
     (.cond (.tmp 56)
      (.seq (.ops (.vd 57 (o_mov (.tmp 0)) (.vd 58 (o_mov (.tmp 1)) (.vd 59 (o_mov (.tmp 2)) (.vd 60 (o_mov (.tmp 4)) (.cd 61 (fun F => c_call F 220 [(.tmp 57), (.tmp 58), (.tmp 59), (.tmp 60)]) .nil))))))
      (.seq (.ops (.vd 62 (o_mov (.tmp 2)) (.vd 63 (o_bin .sub (.tmp 62) (.const (.int .i64 1))) (.vd 64 (o_mov (.tmp 13)) (.vd 65 (o_mov (.tmp 1)) (.vd 66 (o_bin .sub (.tmp 64) (.tmp 65)) (.vd 67 (o_bin .sub (.tmp 63) (.tmp 66)) (.vd 13 (o_mov (.tmp 67)) .nil))))))))
      (.ops (.vd 14 (o_mov (.const (.int .i64 1))) .nil))))
      .skip))
     (.seq (.seq (.ops (.vd 68 (o_mov (.tmp 10)) (.vd 69 (o_mov (.tmp 68)) (.vg 70 69 true (o_mov (.tmp 11)) (.vd 71 (o_pick (.tmp 69) (.tmp 70) (.const (.bool false))) (.vd 72 (o_mov (.tmp 71)) (.vg 73 72 true (o_mov (.tmp 14)) (.vg 74 72 true (o_bin .eql (.tmp 73) (.const (.int .i64 1))) (.vd 75 (o_pick (.tmp 72) (.tmp 74) (.const (.bool false))) .nil)))))))))
     (.cond (.tmp 75)
      (.seq (.ops (.vd 76 (o_mov (.tmp 0)) (.vd 77 (o_mov (.tmp 1)) (.vd 78 (o_mov (.tmp 2)) (.vd 79 (o_mov (.tmp 4)) (.cd 80 (fun F => c_call F 221 [(.tmp 76), (.tmp 77), (.tmp 78), (.tmp 79)]) .nil))))))
      (.cond (.tmp 80)
       .ret
       .skip))
      .skip))
     (.seq (.seq (.dregion [⟨⟨some 81, none, .mov (.tmp 1)⟩, 0, 0, 0⟩, ⟨⟨some 82, none, .bin .gtr (.tmp 81) (.const (.int .i64 0))⟩, 1, 0, 0⟩, ⟨⟨some 83, none, .mov (.tmp 82)⟩, 2, 0, 0⟩, ⟨⟨some 84, some (83, true), .mov (.tmp 4)⟩, 3, 0, 0⟩, ⟨⟨some 85, some (83, true), .mov (.tmp 0)⟩, 4, 0, 0⟩, ⟨⟨some 86, some (83, true), .mov (.tmp 1)⟩, 5, 0, 0⟩, ⟨⟨some 87, some (83, true), .bin .sub (.tmp 86) (.const (.int .i64 1))⟩, 6, 0, 0⟩, ⟨⟨some 88, some (83, true), .index 2 (.tmp 85) (.tmp 87)⟩, 7, 0, 0⟩, ⟨⟨some 89, some (83, true), .load true 2 (.tmp 88)⟩, 8, 1, 0⟩, ⟨⟨some 90, some (83, true), .mov (.tmp 0)⟩, 9, 0, 0⟩, ⟨⟨some 91, some (83, true), .mov (.tmp 13)⟩, 10, 0, 0⟩, ⟨⟨some 92, some (83, true), .index 2 (.tmp 90) (.tmp 91)⟩, 11, 0, 0⟩, ⟨⟨some 93, some (83, true), .load true 2 (.tmp 92)⟩, 12, 1, 0⟩, ⟨⟨some 94, some (83, true), .callm (.tmp 84) [(.tmp 89), (.tmp 93)] [(267, "dustcart/alloc.place", 272), (268, "dustcart/alloc.place", 277), (269, "dustcart/alloc.place", 285), (270, "dustcart/alloc.place", 286), (271, "dustcart/alloc.place", 290)]⟩, 13, 3, 0⟩, ⟨⟨some 95, some (83, true), .bin .lss (.tmp 94) (.const (.int .i64 0))⟩, 14, 0, 1⟩, ⟨⟨some 96, some (83, true), .not (.tmp 95)⟩, 15, 0, 1⟩, ⟨⟨some 97, none, .pick (.tmp 83) (.tmp 96) (.const (.bool false))⟩, 16, 0, 1⟩])
     (.cond (.tmp 97)
      (.seq (.ops (.vd 98 (o_mov (.tmp 0)) (.vd 99 (o_mov (.tmp 1)) (.vd 100 (o_mov (.tmp 2)) (.vd 101 (o_mov (.tmp 13)) (.vd 102 (o_mov (.tmp 4)) (.cd 103 (fun F => c_call F 222 [(.tmp 98), (.tmp 99), (.tmp 100), (.tmp 101), (.tmp 102)]) (.vd 15 (o_mov (.tmp 103)) .nil))))))))
      (.seq (.ops (.vd 104 (o_mov (.tmp 15)) (.vd 1 (o_mov (.tmp 104)) .nil)))
      (.exit 1)))
      .skip))
     (.seq (.ops (.vd 106 (o_mov (.tmp 0)) (.vd 107 (o_mov (.tmp 1)) (.vd 108 (o_mov (.tmp 2)) (.vd 109 (o_mov (.tmp 13)) (.vd 110 (o_mov (.tmp 4)) (.cd 111 (fun F => c_call F 223 [(.tmp 106), (.tmp 107), (.tmp 108), (.tmp 109), (.tmp 110)]) (.vd 105 (o_mov (.tmp 111)) (.vd 112 (o_extract (.tmp 105) 0) (.vd 113 (o_extract (.tmp 105) 1) (.vd 16 (o_mov (.tmp 112)) (.vd 17 (o_mov (.tmp 113)) .nil))))))))))))
     (.seq (.ops (.vd 114 (o_mov (.tmp 17)) (.vd 11 (o_mov (.tmp 114)) .nil)))
     (.seq (.ops (.vd 115 (o_mov (.tmp 16)) (.vd 116 (o_mov (.tmp 1)) (.vd 117 (o_bin .sub (.tmp 115) (.tmp 116)) (.vd 118 (o_mov (.tmp 2)) (.vd 119 (o_mov (.tmp 16)) (.vd 120 (o_bin .sub (.tmp 118) (.tmp 119)) (.vd 18 (o_mov (.tmp 117)) (.vd 19 (o_mov (.tmp 120)) .nil)))))))))
     (.seq (.ops (.vd 121 (o_mov (.tmp 12)) (.vd 122 (o_bin .quo (.tmp 121) (.const (.int .i64 8))) (.vd 20 (o_mov (.tmp 122)) .nil))))
     (.seq (.ops (.vd 123 (o_mov (.tmp 18)) (.vd 124 (o_mov (.tmp 19)) (.vd 125 (o_bin .lss (.tmp 123) (.tmp 124)) .nil))))
     (.cond (.tmp 125)
      (.seq (.ops (.vd 126 (o_mov (.tmp 18)) (.vd 127 (o_mov (.tmp 20)) (.vd 128 (o_bin .geq (.tmp 126) (.tmp 127)) (.vd 10 (o_mov (.tmp 128)) .nil)))))
      (.seq (.ops (.vd 129 (o_mov (.tmp 0)) (.vd 130 (o_mov (.tmp 1)) (.vd 131 (o_mov (.tmp 16)) (.vd 132 (o_mov (.tmp 3)) (.vd 133 (o_mov (.tmp 4)) (.cd 134 (fun F => c_call F 173 [(.tmp 129), (.tmp 130), (.tmp 131), (.tmp 132), (.tmp 133)]) .nil)))))))
      (.ops (.vd 135 (o_mov (.tmp 16)) (.vd 136 (o_bin .add (.tmp 135) (.const (.int .i64 1))) (.vd 1 (o_mov (.tmp 136)) .nil))))))
      (.seq (.ops (.vd 137 (o_mov (.tmp 19)) (.vd 138 (o_mov (.tmp 20)) (.vd 139 (o_bin .geq (.tmp 137) (.tmp 138)) (.vd 10 (o_mov (.tmp 139)) .nil)))))
      (.seq (.ops (.vd 140 (o_mov (.tmp 0)) (.vd 141 (o_mov (.tmp 16)) (.vd 142 (o_bin .add (.tmp 141) (.const (.int .i64 1))) (.vd 143 (o_mov (.tmp 2)) (.vd 144 (o_mov (.tmp 3)) (.vd 145 (o_mov (.tmp 4)) (.cd 146 (fun F => c_call F 173 [(.tmp 140), (.tmp 142), (.tmp 143), (.tmp 144), (.tmp 145)]) .nil))))))))
      (.ops (.vd 147 (o_mov (.tmp 16)) (.vd 2 (o_mov (.tmp 147)) .nil)))))))))))))))))))
def S173 : SCode := (.seq (.ops (.vd 10 (o_mov (.const (.bool true))) .nil))
  (.seq (.ops (.vd 11 (o_mov (.const (.bool true))) .nil))
  (.block 0 (.loop S173_1))))
def X173 : FnS := .code ⟨148, 0, .skip, []⟩ S173
theorem x173 : okX Go.Proofs.Tryz.prog 173 X173 := ⟨C173, c173, rfl, rfl, rfl, by kernel_rfl⟩
def S174_1 : SCode := .seq (.seq (.ops (.vd 13 (o_mov (.tmp 7)) (.vd 14 (o_mov (.tmp 8)) (.vd 15 (o_bin .lss (.tmp 13) (.tmp 14)) .nil))))
    (.cond (.tmp 15)
     .skip
     (.exit 0)))
    (.block 1 (.seq (.ops (.vd 16 (o_mov (.tmp 7)) (.vd 17 (o_mov (.tmp 8)) (.vd 18 (o_bin .add (.tmp 16) (.tmp 17)) (.vd 19 (o_conv .u64 (.tmp 18)) (.vd 20 (o_shift .shr (.tmp 19) (.const (.int .u64 1))) (.vd 21 (o_conv .i64 (.tmp 20)) (.vd 9 (o_mov (.tmp 21)) .nil))))))))
     (.seq (.ops (.vd 22 (o_mov (.tmp 0)) (.vd 23 (o_mov (.tmp 9)) (.vd 24 (o_index 1 (.tmp 22) (.tmp 23)) (.vd 25 (o_load false 1 (.tmp 24)) (.vd 26 (o_mov (.tmp 1)) (.cd 27 (fun F => c_call F 203 [(.tmp 25), (.tmp 26)]) .nil)))))))
     (.cond (.tmp 27)
      (.ops (.vd 28 (o_mov (.tmp 9)) (.vd 29 (o_bin .add (.tmp 28) (.const (.int .i64 1))) (.vd 7 (o_mov (.tmp 29)) .nil))))
      (.ops (.vd 30 (o_mov (.tmp 9)) (.vd 8 (o_mov (.tmp 30)) .nil)))))))
def S174 : SCode := (.seq (.ops (.vd 4 (o_mov (.const (.int .i64 0))) (.vd 5 (o_mov (.const (.bool false))) .nil)))
  (.seq (.ops (.vd 10 (o_mov (.tmp 0)) (.vd 11 (o_len (.tmp 10)) (.vd 6 (o_mov (.tmp 11)) .nil))))
  (.seq (.ops (.vd 12 (o_mov (.tmp 6)) (.vd 7 (o_mov (.const (.int .i64 0))) (.vd 8 (o_mov (.tmp 12)) .nil))))
  (.seq (.block 0 (.loop S174_1))
  (.seq (.ops (.vd 31 (o_mov (.tmp 7)) (.vd 32 (o_mov (.tmp 7)) (.vd 33 (o_mov (.tmp 6)) (.vd 34 (o_bin .lss (.tmp 32) (.tmp 33)) (.vd 35 (o_mov (.tmp 34)) (.vg 36 35 true (o_mov (.tmp 0)) (.vg 37 35 true (o_mov (.tmp 7)) (.vg 38 35 true (o_index 1 (.tmp 36) (.tmp 37)) (.vg 39 35 true (o_load false 1 (.tmp 38)) (.vg 40 35 true (o_mov (.tmp 1)) (.vg 41 35 true (o_bin .eql (.tmp 39) (.tmp 40)) (.vg 42 35 true (o_mov (.tmp 41)) (.vg 43 42 false (o_mov (.tmp 0)) (.vg 44 42 false (o_mov (.tmp 7)) (.vg 45 42 false (o_index 1 (.tmp 43) (.tmp 44)) (.vg 46 42 false (o_load false 1 (.tmp 45)) (.c (some 47) (some (42, false)) (fun F => c_call F 224 [(.tmp 46)]) (.vg 48 42 false (o_mov (.tmp 47)) (.vg 49 48 true (o_mov (.tmp 1)) (.c (some 50) (some (48, true)) (fun F => c_call F 224 [(.tmp 49)]) (.vg 51 42 false (o_pick (.tmp 48) (.tmp 50) (.const (.bool false))) (.vg 52 35 true (o_pick (.tmp 42) (.const (.bool true)) (.tmp 51)) (.vd 53 (o_pick (.tmp 35) (.tmp 52) (.const (.bool false))) (.vd 4 (o_mov (.tmp 31)) (.vd 5 (o_mov (.tmp 53)) .nil))))))))))))))))))))))))))
  .ret)))))
def X174 : FnS := .code ⟨54, 0, .skip, [.tmp 4, .tmp 5]⟩ S174
theorem x174 : okX Go.Proofs.Tryz.prog 174 X174 := ⟨C174, c174, rfl, rfl, rfl, by kernel_rfl⟩
def S175 : SCode := (.seq (.ops (.vd 6 (o_mov (.const (.int .i64 0))) .nil))
  (.seq (.block 0 (.seq (.ops (.vd 8 (o_mov (.tmp 0)) (.cd 9 (fun F => c_call F 83 [(.tmp 8)]) (.vd 10 (o_not (.tmp 9)) (.vd 7 (o_mov (.tmp 10)) .nil)))))
   (.cond (.tmp 7)
    (.seq (.ops (.vd 6 (o_mov (.const (.int .i64 5))) .nil))
    .ret)
    (.seq (.ops (.vd 12 (o_mov (.tmp 0)) (.vd 13 (o_mov (.tmp 1)) (.cd 14 (fun F => c_call F 158 [(.tmp 12), (.tmp 13)]) (.vd 15 (o_not (.tmp 14)) (.vd 16 (o_mov (.tmp 15)) (.vg 17 16 false (o_mov (.tmp 2)) (.vg 18 16 false (o_not (.tmp 17)) (.vd 19 (o_pick (.tmp 16) (.const (.bool true)) (.tmp 18)) (.vd 11 (o_mov (.tmp 19)) .nil))))))))))
    (.cond (.tmp 11)
     (.seq (.ops (.vd 6 (o_mov (.const (.int .i64 1))) .nil))
     .ret)
     (.seq (.ops (.vd 21 (o_mov (.tmp 0)) (.vd 22 (o_nilCheck (.tmp 21)) (.vd 23 (o_field 0 (.tmp 22)) (.vd 24 (o_load false 1 (.tmp 23)) (.vd 25 (o_mov (.tmp 1)) (.vd 26 (o_index 2 (.tmp 24) (.tmp 25)) (.vd 27 (o_field 0 (.tmp 26)) (.vd 28 (o_load false 1 (.tmp 27)) (.vd 29 (o_bin .neq (.tmp 28) (.const (.int .i64 1))) (.vd 30 (o_mov (.tmp 29)) (.vg 31 30 true (o_mov (.tmp 0)) (.vg 32 30 true (o_nilCheck (.tmp 31)) (.vg 33 30 true (o_field 0 (.tmp 32)) (.vg 34 30 true (o_load false 1 (.tmp 33)) (.vg 35 30 true (o_mov (.tmp 1)) (.vg 36 30 true (o_index 2 (.tmp 34) (.tmp 35)) (.vg 37 30 true (o_field 0 (.tmp 36)) (.vg 38 30 true (o_load false 1 (.tmp 37)) (.vg 39 30 true (o_bin .neq (.tmp 38) (.const (.int .i64 2))) (.vd 40 (o_pick (.tmp 30) (.tmp 39) (.const (.bool false))) (.vd 20 (o_mov (.tmp 40)) .nil))))))))))))))))))))))
     (.cond (.tmp 20)
      (.seq (.ops (.vd 6 (o_mov (.const (.int .i64 5))) .nil))
      .ret)
      .skip)))))))
  (.seq (.ops (.vd 6 (o_mov (.const (.int .i64 0))) .nil))
  .ret)))
def X175 : FnS := .code ⟨41, 0, .skip, [.tmp 6]⟩ S175
theorem x175 : okX Go.Proofs.Tryz.prog 175 X175 := ⟨C175, c175, rfl, rfl, rfl, by kernel_rfl⟩
end Go.Cs.Tryz
