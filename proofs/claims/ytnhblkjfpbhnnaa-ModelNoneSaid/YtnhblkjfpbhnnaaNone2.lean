/- A part of the proof: ModelNone returns true for every input: a model that nobody made returns ErrState and zero values. (R1) Conditions: none. -/
import Derived.Test.YtnhblkjfpbhnnaaNone1
import Derived.Test.YtnhblkjfpbhnnaaProg
import Derived.KernelRfl
set_option linter.unusedVariables false
set_option linter.unusedSimpArgs false
set_option linter.defProp false
/- The compiled functions of the seat, part 2. -/
namespace Go.Cs.Try
open Go Go.Cs
set_option maxRecDepth 100000
-- (*dustcart/model.Model).Queue
def C39 : CFunc := ⟨(.seq (.region [⟨some 2, none, .mov (.const (.nilSlice))⟩])
  (.seq (.seq (.region [⟨some 3, none, .mov (.tmp 0)⟩, ⟨some 4, none, .call 41 [(.tmp 3)]⟩, ⟨some 5, none, .not (.tmp 4)⟩])
  (.cond (.tmp 5)
   (.seq (.region [⟨some 2, none, .mov (.const (.nilSlice))⟩])
   .ret)
   .skip))
  (.seq (.region [⟨some 6, none, .mov (.tmp 0)⟩, ⟨some 7, none, .nilCheck (.tmp 6)⟩, ⟨some 8, none, .field 2 (.tmp 7)⟩, ⟨some 9, none, .load false 1 (.tmp 8)⟩, ⟨some 10, none, .call 53 [(.tmp 9)]⟩, ⟨some 2, none, .mov (.tmp 10)⟩])
  .ret))),
  [.tmp 2]⟩
theorem c39 : cprog Go.Proofs.Try.prog 39 = some C39 := by kernel_rfl
-- (*dustcart/model.Model).Do
def C40 : CFunc := ⟨(.seq (.region [⟨some 5, none, .box (.tmp 2)⟩, ⟨some 6, none, .new [.nilSlice, .int .i64 0, .int .i64 0, .int .i64 0, .int .i64 0, .int .i64 0, .int .i64 0]⟩, ⟨some 7, none, .mov (.const (.int .i64 0))⟩])
  (.seq (.seq (.region [⟨some 13, none, .mov (.tmp 0)⟩, ⟨some 14, none, .call 41 [(.tmp 13)]⟩, ⟨some 15, none, .not (.tmp 14)⟩])
  (.cond (.tmp 15)
   (.seq (.region [⟨some 16, none, .build [.nilSlice, .int .i64 0, .int .i64 0, .int .i64 0, .int .i64 0, .int .i64 0, .int .i64 0] []⟩, ⟨none, none, .store 7 (.tmp 6) (.tmp 16)⟩, ⟨some 7, none, .mov (.const (.int .i64 5))⟩])
   .ret)
   .skip))
  (.seq (.region [⟨some 17, none, .call 70 []⟩, ⟨some 8, none, .mov (.tmp 17)⟩])
  (.seq (.seq (.region [⟨some 18, none, .mov (.tmp 1)⟩, ⟨some 19, none, .bin .lss (.tmp 18) (.const (.int .i64 0))⟩, ⟨some 20, none, .mov (.tmp 19)⟩, ⟨some 21, some (20, false), .mov (.tmp 1)⟩, ⟨some 22, some (20, false), .mov (.tmp 0)⟩, ⟨some 23, some (20, false), .nilCheck (.tmp 22)⟩, ⟨some 24, some (20, false), .field 0 (.tmp 23)⟩, ⟨some 25, some (20, false), .load false 1 (.tmp 24)⟩, ⟨some 26, some (20, false), .len (.tmp 25)⟩, ⟨some 27, some (20, false), .bin .geq (.tmp 21) (.tmp 26)⟩, ⟨some 28, none, .pick (.tmp 20) (.const (.bool true)) (.tmp 27)⟩, ⟨some 29, none, .mov (.tmp 28)⟩, ⟨some 30, some (29, false), .field 0 (.tmp 5)⟩, ⟨some 31, some (29, false), .load false 1 (.tmp 30)⟩, ⟨some 32, some (29, false), .bin .lss (.tmp 31) (.const (.int .i64 0))⟩, ⟨some 33, none, .pick (.tmp 29) (.const (.bool true)) (.tmp 32)⟩, ⟨some 34, none, .mov (.tmp 33)⟩, ⟨some 35, some (34, false), .field 0 (.tmp 5)⟩, ⟨some 36, some (34, false), .load false 1 (.tmp 35)⟩, ⟨some 37, some (34, false), .mov (.tmp 8)⟩, ⟨some 38, some (34, false), .len (.tmp 37)⟩, ⟨some 39, some (34, false), .bin .geq (.tmp 36) (.tmp 38)⟩, ⟨some 40, none, .pick (.tmp 34) (.const (.bool true)) (.tmp 39)⟩])
  (.cond (.tmp 40)
   (.seq (.region [⟨some 41, none, .build [.nilSlice, .int .i64 0, .int .i64 0, .int .i64 0, .int .i64 0, .int .i64 0, .int .i64 0] []⟩, ⟨none, none, .store 7 (.tmp 6) (.tmp 41)⟩, ⟨some 7, none, .mov (.const (.int .i64 1))⟩])
   .ret)
   .skip))
  (.seq (.region [⟨some 42, none, .mov (.tmp 8)⟩, ⟨some 43, none, .field 0 (.tmp 5)⟩, ⟨some 44, none, .load false 1 (.tmp 43)⟩, ⟨some 45, none, .index 4 (.tmp 42) (.tmp 44)⟩, ⟨some 46, none, .load true 4 (.tmp 45)⟩, ⟨some 9, none, .new [.bool false, .nilFunc, .nilFunc, .nilFunc]⟩, ⟨none, none, .store 4 (.tmp 9) (.tmp 46)⟩])
  (.seq (.dregion [⟨⟨some 47, none, .load true 8 (.tmp 5)⟩, 0, 1, 0⟩, ⟨⟨some 48, none, .mov (.tmp 0)⟩, 1, 0, 0⟩, ⟨⟨some 49, none, .mov (.tmp 0)⟩, 2, 0, 0⟩, ⟨⟨some 50, none, .nilCheck (.tmp 49)⟩, 3, 0, 0⟩, ⟨⟨some 51, none, .field 0 (.tmp 50)⟩, 4, 0, 0⟩, ⟨⟨some 52, none, .load false 1 (.tmp 51)⟩, 5, 1, 0⟩, ⟨⟨some 53, none, .mov (.tmp 1)⟩, 6, 0, 0⟩, ⟨⟨some 54, none, .index 1 (.tmp 52) (.tmp 53)⟩, 7, 0, 0⟩, ⟨⟨some 55, none, .load false 1 (.tmp 54)⟩, 8, 1, 0⟩, ⟨⟨some 56, none, .build [.int .i64 0, .int .i64 0, .int .i64 0, .int .i64 0, .int .i64 0, .int .i64 0, .int .i64 0, .int .i64 0, .nilPtr, .nilSlice] [(0, 8, (.tmp 47)), (8, 1, (.tmp 48)), (9, 1, (.tmp 55))]⟩, 9, 0, 0⟩, ⟨⟨some 57, none, .box (.tmp 56)⟩, 10, 0, 0⟩, ⟨⟨some 10, none, .mov (.tmp 57)⟩, 11, 0, 0⟩])
  (.seq (.block 0 (.seq (.region [⟨some 59, none, .field 1 (.tmp 5)⟩, ⟨some 60, none, .load false 1 (.tmp 59)⟩, ⟨some 61, none, .call 48 [(.tmp 60)]⟩, ⟨some 62, none, .not (.tmp 61)⟩, ⟨some 63, none, .mov (.tmp 62)⟩, ⟨some 64, some (63, false), .field 0 (.tmp 9)⟩, ⟨some 65, some (63, false), .load false 1 (.tmp 64)⟩, ⟨some 66, some (63, false), .mov (.tmp 65)⟩, ⟨some 67, some (66, true), .field 2 (.tmp 5)⟩, ⟨some 68, some (66, true), .load false 1 (.tmp 67)⟩, ⟨some 69, some (66, true), .call 48 [(.tmp 68)]⟩, ⟨some 70, some (66, true), .not (.tmp 69)⟩, ⟨some 71, some (63, false), .pick (.tmp 66) (.tmp 70) (.const (.bool false))⟩, ⟨some 72, none, .pick (.tmp 63) (.const (.bool true)) (.tmp 71)⟩, ⟨some 58, none, .mov (.tmp 72)⟩])
   (.cond (.tmp 58)
    (.seq (.region [⟨some 73, none, .build [.nilSlice, .int .i64 0, .int .i64 0, .int .i64 0, .int .i64 0, .int .i64 0, .int .i64 0] []⟩, ⟨none, none, .store 7 (.tmp 6) (.tmp 73)⟩, ⟨some 7, none, .mov (.const (.int .i64 1))⟩])
    .ret)
    (.seq (.region [⟨some 75, none, .field 0 (.tmp 5)⟩, ⟨some 76, none, .load false 1 (.tmp 75)⟩, ⟨some 77, none, .bin .eql (.tmp 76) (.const (.int .i64 0))⟩, ⟨some 78, none, .mov (.tmp 77)⟩, ⟨some 79, some (78, true), .field 5 (.tmp 5)⟩, ⟨some 80, some (78, true), .load true 3 (.tmp 79)⟩, ⟨some 81, some (78, true), .call 71 [(.tmp 80)]⟩, ⟨some 82, some (78, true), .not (.tmp 81)⟩, ⟨some 83, none, .pick (.tmp 78) (.tmp 82) (.const (.bool false))⟩, ⟨some 74, none, .mov (.tmp 83)⟩])
    (.cond (.tmp 74)
     (.seq (.region [⟨some 84, none, .build [.nilSlice, .int .i64 0, .int .i64 0, .int .i64 0, .int .i64 0, .int .i64 0, .int .i64 0] []⟩, ⟨none, none, .store 7 (.tmp 6) (.tmp 84)⟩, ⟨some 7, none, .mov (.const (.int .i64 2))⟩])
     .ret)
     .skip)))))
  (.seq (.seq (.region [⟨some 85, none, .field 1 (.tmp 9)⟩, ⟨some 86, none, .load false 1 (.tmp 85)⟩, ⟨some 87, none, .mov (.tmp 10)⟩, ⟨some 88, none, .callv (.tmp 86) [(.tmp 87)]⟩, ⟨some 11, none, .mov (.tmp 88)⟩])
  (.seq (.region [⟨some 89, none, .mov (.tmp 11)⟩, ⟨some 90, none, .bin .geq (.tmp 89) (.const (.int .i64 0))⟩, ⟨some 91, none, .mov (.tmp 90)⟩, ⟨some 92, some (91, true), .mov (.tmp 10)⟩, ⟨some 93, some (91, true), .nilCheck (.tmp 92)⟩, ⟨some 94, some (91, true), .field 9 (.tmp 93)⟩, ⟨some 95, some (91, true), .load false 1 (.tmp 94)⟩, ⟨some 96, some (91, true), .mov (.tmp 11)⟩, ⟨some 97, some (91, true), .index 1 (.tmp 95) (.tmp 96)⟩, ⟨some 98, some (91, true), .load false 1 (.tmp 97)⟩, ⟨some 99, some (91, true), .bin .eql (.tmp 98) (.const (.int .i64 0))⟩, ⟨some 100, none, .pick (.tmp 91) (.tmp 99) (.const (.bool false))⟩])
  (.cond (.tmp 100)
   (.seq (.region [⟨some 101, none, .build [.nilSlice, .int .i64 0, .int .i64 0, .int .i64 0, .int .i64 0, .int .i64 0, .int .i64 0] []⟩, ⟨none, none, .store 7 (.tmp 6) (.tmp 101)⟩, ⟨some 7, none, .mov (.const (.int .i64 7))⟩])
   .ret)
   .skip)))
  (.seq (.seq (.region [⟨some 102, none, .field 2 (.tmp 9)⟩, ⟨some 103, none, .load false 1 (.tmp 102)⟩, ⟨some 104, none, .mov (.tmp 10)⟩, ⟨some 105, none, .callv (.tmp 103) [(.tmp 104)]⟩, ⟨some 12, none, .mov (.tmp 105)⟩])
  (.seq (.region [⟨some 106, none, .mov (.tmp 12)⟩, ⟨some 107, none, .bin .geq (.tmp 106) (.const (.int .i64 0))⟩, ⟨some 108, none, .mov (.tmp 107)⟩, ⟨some 109, some (108, true), .field 3 (.tmp 5)⟩, ⟨some 110, some (108, true), .load false 1 (.tmp 109)⟩, ⟨some 111, some (108, true), .bin .lss (.tmp 110) (.const (.int .i64 0))⟩, ⟨some 112, some (108, true), .mov (.tmp 111)⟩, ⟨some 113, some (112, false), .field 3 (.tmp 5)⟩, ⟨some 114, some (112, false), .load false 1 (.tmp 113)⟩, ⟨some 115, some (112, false), .mov (.tmp 12)⟩, ⟨some 116, some (112, false), .bin .geq (.tmp 114) (.tmp 115)⟩, ⟨some 117, some (108, true), .pick (.tmp 112) (.const (.bool true)) (.tmp 116)⟩, ⟨some 118, none, .pick (.tmp 108) (.tmp 117) (.const (.bool false))⟩])
  (.cond (.tmp 118)
   (.seq (.region [⟨some 119, none, .build [.nilSlice, .int .i64 0, .int .i64 0, .int .i64 0, .int .i64 0, .int .i64 0, .int .i64 0] []⟩, ⟨none, none, .store 7 (.tmp 6) (.tmp 119)⟩, ⟨some 7, none, .mov (.const (.int .i64 1))⟩])
   .ret)
   .skip)))
  (.seq (.region [⟨some 120, none, .field 3 (.tmp 9)⟩, ⟨some 121, none, .load false 1 (.tmp 120)⟩, ⟨some 122, none, .mov (.tmp 10)⟩, ⟨some 123, none, .callv (.tmp 121) [(.tmp 122)]⟩, ⟨none, none, .store 7 (.tmp 6) (.tmp 123)⟩, ⟨some 7, none, .mov (.const (.int .i64 0))⟩])
  .ret)))))))))),
  [.cell 6 true 7, .tmp 7]⟩
theorem c40 : cprog Go.Proofs.Try.prog 40 = some C40 := by kernel_rfl
-- (*dustcart/model.Model).made
def C41 : CFunc := ⟨(.seq (.region [⟨some 2, none, .mov (.const (.bool false))⟩])
  (.seq (.region [⟨some 3, none, .mov (.tmp 0)⟩, ⟨some 4, none, .eqv true 1 (.tmp 3) (.const (.nilPtr))⟩, ⟨some 5, none, .mov (.tmp 4)⟩, ⟨some 6, some (5, true), .mov (.tmp 0)⟩, ⟨some 7, some (5, true), .nilCheck (.tmp 6)⟩, ⟨some 8, some (5, true), .field 0 (.tmp 7)⟩, ⟨some 9, some (5, true), .load false 1 (.tmp 8)⟩, ⟨some 10, some (5, true), .len (.tmp 9)⟩, ⟨some 11, some (5, true), .bin .gtr (.tmp 10) (.const (.int .i64 0))⟩, ⟨some 12, none, .pick (.tmp 5) (.tmp 11) (.const (.bool false))⟩, ⟨some 2, none, .mov (.tmp 12)⟩])
  .ret)),
  [.tmp 2]⟩
theorem c41 : cprog Go.Proofs.Try.prog 41 = some C41 := by kernel_rfl
-- (*dustcart/model.Model).kept
def C42_1 : CCode := .seq (.region [⟨some 97, none, .bin .lss (.tmp 96) (.tmp 95)⟩])
       (.seq (.cond (.tmp 97)
        .skip
        (.exit 10))
       (.seq (.block 11 (.seq (.region [⟨some 98, none, .mov (.tmp 96)⟩, ⟨some 99, none, .index 5 (.tmp 94) (.tmp 96)⟩, ⟨some 100, none, .load true 5 (.tmp 99)⟩, ⟨some 15, none, .new [.int .i64 0, .int .i64 0, .int .i64 0, .nilSlice, .nilSlice]⟩, ⟨some 14, none, .mov (.tmp 98)⟩, ⟨none, none, .store 5 (.tmp 15) (.tmp 100)⟩])
        (.seq (.dregion [⟨⟨some 101, none, .load false 1 (.tmp 3)⟩, 0, 1, 0⟩, ⟨⟨some 102, none, .mov (.tmp 14)⟩, 1, 0, 0⟩, ⟨⟨some 103, none, .bin .add (.tmp 102) (.const (.int .i64 1))⟩, 2, 0, 0⟩, ⟨⟨some 104, none, .index 1 (.tmp 101) (.tmp 103)⟩, 3, 0, 0⟩, ⟨⟨some 105, none, .load false 1 (.tmp 104)⟩, 4, 1, 0⟩, ⟨⟨some 106, none, .mov (.tmp 105)⟩, 5, 0, 0⟩, ⟨⟨some 107, some (106, true), .field 0 (.tmp 15)⟩, 6, 0, 0⟩, ⟨⟨some 108, some (106, true), .field 2 (.tmp 107)⟩, 7, 0, 0⟩, ⟨⟨some 109, some (106, true), .load false 1 (.tmp 108)⟩, 8, 1, 0⟩, ⟨⟨some 110, some (106, true), .bin .eql (.tmp 109) (.const (.int .i64 2))⟩, 9, 0, 0⟩, ⟨⟨some 111, none, .pick (.tmp 106) (.tmp 110) (.const (.bool false))⟩, 10, 0, 0⟩, ⟨⟨some 112, none, .mov (.tmp 111)⟩, 11, 0, 0⟩, ⟨⟨some 113, some (112, true), .load false 1 (.tmp 3)⟩, 12, 1, 0⟩, ⟨⟨some 114, some (112, true), .field 3 (.tmp 15)⟩, 13, 0, 0⟩, ⟨⟨some 115, some (112, true), .load false 1 (.tmp 114)⟩, 14, 1, 0⟩, ⟨⟨some 116, some (112, true), .index 1 (.tmp 115) (.const (.int .i64 0))⟩, 15, 0, 0⟩, ⟨⟨some 117, some (112, true), .load false 1 (.tmp 116)⟩, 16, 1, 0⟩, ⟨⟨some 118, some (112, true), .index 1 (.tmp 113) (.tmp 117)⟩, 17, 0, 0⟩, ⟨⟨some 119, some (112, true), .load false 1 (.tmp 118)⟩, 18, 1, 0⟩, ⟨⟨some 120, none, .pick (.tmp 112) (.tmp 119) (.const (.bool false))⟩, 19, 0, 0⟩])
        (.cond (.tmp 120)
         (.region [⟨some 121, none, .mov (.tmp 5)⟩, ⟨some 122, none, .field 3 (.tmp 15)⟩, ⟨some 123, none, .load false 1 (.tmp 122)⟩, ⟨some 124, none, .index 1 (.tmp 123) (.const (.int .i64 1))⟩, ⟨some 125, none, .load false 1 (.tmp 124)⟩, ⟨some 126, none, .callv (.tmp 121) [(.tmp 125)]⟩])
         .skip))))
       (.region [⟨some 127, none, .bin .add (.tmp 96) (.const (.int .i64 1))⟩, ⟨some 96, none, .mov (.tmp 127)⟩])))
def C42_2 : CCode := .seq (.region [⟨some 84, none, .bin .lss (.tmp 83) (.tmp 82)⟩])
          (.seq (.cond (.tmp 84)
           .skip
           (.exit 8))
          (.seq (.block 9 (.seq (.region [⟨some 85, none, .index 1 (.tmp 81) (.tmp 83)⟩, ⟨some 86, none, .load false 1 (.tmp 85)⟩, ⟨some 13, none, .mov (.tmp 86)⟩])
           (.region [⟨some 87, none, .mov (.tmp 5)⟩, ⟨some 88, none, .mov (.tmp 13)⟩, ⟨some 89, none, .callv (.tmp 87) [(.tmp 88)]⟩])))
          (.region [⟨some 90, none, .bin .add (.tmp 83) (.const (.int .i64 1))⟩, ⟨some 83, none, .mov (.tmp 90)⟩])))
def C42_3 : CCode := .seq (.seq (.region [⟨some 56, none, .load false 1 (.tmp 4)⟩, ⟨some 57, none, .len (.tmp 56)⟩, ⟨some 58, none, .bin .gtr (.tmp 57) (.const (.int .i64 0))⟩])
       (.cond (.tmp 58)
        .skip
        (.exit 6)))
       (.block 7 (.seq (.region [⟨some 59, none, .mov (.tmp 0)⟩, ⟨some 60, none, .load false 1 (.tmp 4)⟩, ⟨some 61, none, .load false 1 (.tmp 4)⟩, ⟨some 62, none, .len (.tmp 61)⟩, ⟨some 63, none, .bin .sub (.tmp 62) (.const (.int .i64 1))⟩, ⟨some 64, none, .index 1 (.tmp 60) (.tmp 63)⟩, ⟨some 65, none, .load false 1 (.tmp 64)⟩, ⟨some 66, none, .call 74 [(.tmp 59), (.tmp 65)]⟩, ⟨some 11, none, .mov (.tmp 66)⟩])
        (.seq (.region [⟨some 67, none, .load false 1 (.tmp 4)⟩, ⟨some 68, none, .load false 1 (.tmp 4)⟩, ⟨some 69, none, .len (.tmp 68)⟩, ⟨some 70, none, .bin .sub (.tmp 69) (.const (.int .i64 1))⟩, ⟨some 71, none, .slice 1 (.tmp 67) none (some (.tmp 70)) none⟩, ⟨none, none, .store 1 (.tmp 4) (.tmp 71)⟩])
        (.seq (.dregion [⟨⟨some 76, none, .mov (.tmp 11)⟩, 4, 0, 0⟩, ⟨⟨some 77, none, .nilCheck (.tmp 76)⟩, 5, 0, 0⟩, ⟨⟨some 78, none, .field 0 (.tmp 77)⟩, 6, 0, 0⟩, ⟨⟨some 79, none, .load true 3 (.tmp 78)⟩, 7, 1, 0⟩, ⟨⟨some 80, none, .call 50 [(.tmp 79)]⟩, 8, 3, 0⟩, ⟨⟨some 72, none, .mov (.tmp 11)⟩, 0, 0, 0⟩, ⟨⟨some 73, none, .nilCheck (.tmp 72)⟩, 1, 0, 0⟩, ⟨⟨some 74, none, .field 3 (.tmp 73)⟩, 2, 0, 0⟩, ⟨⟨some 75, none, .load false 1 (.tmp 74)⟩, 3, 1, 0⟩, ⟨⟨some 81, none, .slice 1 (.tmp 75) (some (.tmp 80)) none none⟩, 9, 0, 1⟩, ⟨⟨some 82, none, .len (.tmp 81)⟩, 10, 0, 1⟩, ⟨⟨some 83, none, .mov (.const (.int .i64 0))⟩, 11, 0, 0⟩])
        (.block 8 (.loop C42_2))))))
def C42_4 : CCode := .seq (.seq (.region [⟨some 55, none, .mov (.tmp 10)⟩])
    (.cond (.tmp 55)
     .skip
     (.exit 4)))
    (.block 5 (.seq (.block 6 (.loop C42_3))
     (.seq (.seq (.region [⟨some 91, none, .mov (.tmp 0)⟩, ⟨some 92, none, .nilCheck (.tmp 91)⟩, ⟨some 93, none, .field 3 (.tmp 92)⟩, ⟨some 94, none, .load false 1 (.tmp 93)⟩, ⟨some 95, none, .len (.tmp 94)⟩, ⟨some 96, none, .mov (.const (.int .i64 0))⟩])
     (.block 10 (.loop C42_1)))
     (.region [⟨some 128, none, .load false 1 (.tmp 4)⟩, ⟨some 129, none, .len (.tmp 128)⟩, ⟨some 130, none, .bin .gtr (.tmp 129) (.const (.int .i64 0))⟩, ⟨some 10, none, .mov (.tmp 130)⟩]))))
def C42_5 : CCode := .seq (.region [⟨some 47, none, .bin .lss (.tmp 46) (.tmp 45)⟩])
       (.seq (.cond (.tmp 47)
        .skip
        (.exit 2))
       (.seq (.block 3 (.seq (.region [⟨some 48, none, .index 1 (.tmp 44) (.tmp 46)⟩, ⟨some 49, none, .load false 1 (.tmp 48)⟩, ⟨some 9, none, .mov (.tmp 49)⟩])
        (.region [⟨some 50, none, .mov (.tmp 5)⟩, ⟨some 51, none, .mov (.tmp 9)⟩, ⟨some 52, none, .callv (.tmp 50) [(.tmp 51)]⟩])))
       (.region [⟨some 53, none, .bin .add (.tmp 46) (.const (.int .i64 1))⟩, ⟨some 46, none, .mov (.tmp 53)⟩])))
def C42_6 : CCode := .seq (.region [⟨some 41, none, .bin .lss (.tmp 40) (.tmp 39)⟩])
    (.seq (.cond (.tmp 41)
     .skip
     (.exit 0))
    (.seq (.block 1 (.seq (.region [⟨some 42, none, .index 1 (.tmp 38) (.tmp 40)⟩, ⟨some 43, none, .load false 1 (.tmp 42)⟩, ⟨some 7, none, .mov (.tmp 43)⟩])
     (.seq (.region [⟨some 44, none, .mov (.tmp 7)⟩, ⟨some 45, none, .len (.tmp 44)⟩, ⟨some 46, none, .mov (.const (.int .i64 0))⟩])
     (.block 2 (.loop C42_5)))))
    (.region [⟨some 54, none, .bin .add (.tmp 40) (.const (.int .i64 1))⟩, ⟨some 40, none, .mov (.tmp 54)⟩])))
def C42 : CFunc := ⟨(.seq (.region [⟨some 2, none, .mov (.const (.nilSlice))⟩])
  (.seq (.region [⟨some 16, none, .mov (.tmp 0)⟩, ⟨some 17, none, .nilCheck (.tmp 16)⟩, ⟨some 18, none, .field 3 (.tmp 17)⟩, ⟨some 19, none, .load false 1 (.tmp 18)⟩, ⟨some 20, none, .len (.tmp 19)⟩, ⟨some 21, none, .bin .add (.tmp 20) (.const (.int .i64 1))⟩, ⟨some 22, none, .makeSlice 1 [.bool false] (.tmp 21) (.tmp 21)⟩, ⟨some 3, none, .new [.nilSlice]⟩, ⟨none, none, .store 1 (.tmp 3) (.tmp 22)⟩])
  (.seq (.region [⟨some 4, none, .new [.nilSlice]⟩])
  (.seq (.region [⟨some 23, none, .mkfunc 72 [(.tmp 3), (.tmp 4)]⟩, ⟨some 5, none, .mov (.tmp 23)⟩])
  (.seq (.seq (.dregion [⟨⟨some 24, none, .mov (.tmp 0)⟩, 0, 0, 0⟩, ⟨⟨some 25, none, .nilCheck (.tmp 24)⟩, 1, 0, 0⟩, ⟨⟨some 26, none, .field 0 (.tmp 25)⟩, 2, 0, 0⟩, ⟨⟨some 27, none, .load false 1 (.tmp 26)⟩, 3, 1, 0⟩, ⟨⟨some 28, none, .call 73 [(.tmp 27)]⟩, 4, 3, 0⟩, ⟨⟨some 29, none, .mov (.tmp 0)⟩, 5, 0, 0⟩, ⟨⟨some 30, none, .nilCheck (.tmp 29)⟩, 6, 0, 0⟩, ⟨⟨some 31, none, .field 1 (.tmp 30)⟩, 7, 0, 0⟩, ⟨⟨some 32, none, .load false 1 (.tmp 31)⟩, 8, 1, 0⟩, ⟨⟨some 33, none, .mov (.tmp 0)⟩, 9, 0, 0⟩, ⟨⟨some 34, none, .nilCheck (.tmp 33)⟩, 10, 0, 0⟩, ⟨⟨some 35, none, .field 2 (.tmp 34)⟩, 11, 0, 0⟩, ⟨⟨some 36, none, .load false 1 (.tmp 35)⟩, 12, 1, 0⟩, ⟨⟨some 37, none, .buildSlice 1 [.nilSlice, .nilSlice] 2 [(0, 1, (.tmp 32)), (1, 1, (.tmp 36))]⟩, 13, 0, 0⟩, ⟨⟨some 38, none, .append 1 (.tmp 28) (.tmp 37)⟩, 14, 3, 1⟩, ⟨⟨some 39, none, .len (.tmp 38)⟩, 15, 0, 2⟩, ⟨⟨some 40, none, .mov (.const (.int .i64 0))⟩, 16, 0, 0⟩])
  (.block 0 (.loop C42_6)))
  (.seq (.seq (.region [⟨some 10, none, .mov (.const (.bool true))⟩])
  (.block 4 (.loop C42_4)))
  (.seq (.region [⟨some 131, none, .load false 1 (.tmp 3)⟩, ⟨some 2, none, .mov (.tmp 131)⟩])
  .ret))))))),
  [.tmp 2]⟩
theorem c42 : cprog Go.Proofs.Try.prog 42 = some C42 := by kernel_rfl
-- (*dustcart/model.Model).object
def C43 : CFunc := ⟨(.seq (.region [⟨some 4, none, .mov (.const (.nilPtr))⟩, ⟨some 5, none, .mov (.const (.int .i64 0))⟩])
  (.seq (.block 0 (.seq (.region [⟨some 7, none, .mov (.tmp 0)⟩, ⟨some 8, none, .call 41 [(.tmp 7)]⟩, ⟨some 9, none, .not (.tmp 8)⟩, ⟨some 6, none, .mov (.tmp 9)⟩])
   (.cond (.tmp 6)
    (.seq (.region [⟨some 4, none, .mov (.const (.nilPtr))⟩, ⟨some 5, none, .mov (.const (.int .i64 5))⟩])
    .ret)
    (.seq (.region [⟨some 11, none, .mov (.tmp 0)⟩, ⟨some 12, none, .mov (.tmp 1)⟩, ⟨some 13, none, .call 45 [(.tmp 11), (.tmp 12)]⟩, ⟨some 14, none, .not (.tmp 13)⟩, ⟨some 10, none, .mov (.tmp 14)⟩])
    (.cond (.tmp 10)
     (.seq (.region [⟨some 4, none, .mov (.const (.nilPtr))⟩, ⟨some 5, none, .mov (.const (.int .i64 4))⟩])
     .ret)
     .skip)))))
  (.seq (.region [⟨some 15, none, .mov (.tmp 0)⟩, ⟨some 16, none, .mov (.tmp 1)⟩, ⟨some 17, none, .call 74 [(.tmp 15), (.tmp 16)]⟩, ⟨some 4, none, .mov (.tmp 17)⟩, ⟨some 5, none, .mov (.const (.int .i64 0))⟩])
  .ret))),
  [.tmp 4, .tmp 5]⟩
theorem c43 : cprog Go.Proofs.Try.prog 43 = some C43 := by kernel_rfl
-- dustcart/model.element
def C44 : CFunc := ⟨(.seq (.region [⟨some 4, none, .mov (.const (.int .i64 0))⟩, ⟨some 5, none, .mov (.const (.int .i64 0))⟩])
  (.seq (.seq (.region [⟨some 6, none, .mov (.tmp 1)⟩, ⟨some 7, none, .bin .lss (.tmp 6) (.const (.int .i64 0))⟩, ⟨some 8, none, .mov (.tmp 7)⟩, ⟨some 9, some (8, false), .mov (.tmp 1)⟩, ⟨some 10, some (8, false), .mov (.tmp 0)⟩, ⟨some 11, some (8, false), .len (.tmp 10)⟩, ⟨some 12, some (8, false), .bin .geq (.tmp 9) (.tmp 11)⟩, ⟨some 13, none, .pick (.tmp 8) (.const (.bool true)) (.tmp 12)⟩])
  (.cond (.tmp 13)
   (.seq (.region [⟨some 4, none, .mov (.const (.int .i64 0))⟩, ⟨some 5, none, .mov (.const (.int .i64 1))⟩])
   .ret)
   .skip))
  (.seq (.region [⟨some 14, none, .mov (.tmp 0)⟩, ⟨some 15, none, .mov (.tmp 1)⟩, ⟨some 16, none, .index 1 (.tmp 14) (.tmp 15)⟩, ⟨some 17, none, .load false 1 (.tmp 16)⟩, ⟨some 4, none, .mov (.tmp 17)⟩, ⟨some 5, none, .mov (.const (.int .i64 0))⟩])
  .ret))),
  [.tmp 4, .tmp 5]⟩
theorem c44 : cprog Go.Proofs.Try.prog 44 = some C44 := by kernel_rfl
-- (*dustcart/model.Model).there
def C45 : CFunc := ⟨(.seq (.region [⟨some 4, none, .mov (.const (.bool false))⟩])
  (.seq (.region [⟨some 5, none, .mov (.tmp 0)⟩, ⟨some 6, none, .call 41 [(.tmp 5)]⟩, ⟨some 7, none, .mov (.tmp 6)⟩, ⟨some 8, some (7, true), .mov (.tmp 1)⟩, ⟨some 9, some (7, true), .bin .geq (.tmp 8) (.const (.int .i64 1))⟩, ⟨some 10, none, .pick (.tmp 7) (.tmp 9) (.const (.bool false))⟩, ⟨some 11, none, .mov (.tmp 10)⟩, ⟨some 12, some (11, true), .mov (.tmp 1)⟩, ⟨some 13, some (11, true), .mov (.tmp 0)⟩, ⟨some 14, some (11, true), .nilCheck (.tmp 13)⟩, ⟨some 15, some (11, true), .field 3 (.tmp 14)⟩, ⟨some 16, some (11, true), .load false 1 (.tmp 15)⟩, ⟨some 17, some (11, true), .len (.tmp 16)⟩, ⟨some 18, some (11, true), .bin .leq (.tmp 12) (.tmp 17)⟩, ⟨some 19, none, .pick (.tmp 11) (.tmp 18) (.const (.bool false))⟩, ⟨some 4, none, .mov (.tmp 19)⟩])
  .ret)),
  [.tmp 4]⟩
theorem c45 : cprog Go.Proofs.Try.prog 45 = some C45 := by kernel_rfl
-- (*dustcart/model.Model).Pop
def C46 : CFunc := ⟨(.seq (.region [⟨some 2, none, .mov (.const (.int .i64 0))⟩, ⟨some 3, none, .mov (.const (.int .i64 0))⟩])
  (.seq (.block 0 (.seq (.region [⟨some 6, none, .mov (.tmp 0)⟩, ⟨some 7, none, .call 41 [(.tmp 6)]⟩, ⟨some 8, none, .not (.tmp 7)⟩, ⟨some 5, none, .mov (.tmp 8)⟩])
   (.cond (.tmp 5)
    (.seq (.region [⟨some 2, none, .mov (.const (.int .i64 0))⟩, ⟨some 3, none, .mov (.const (.int .i64 5))⟩])
    .ret)
    (.seq (.region [⟨some 10, none, .mov (.tmp 0)⟩, ⟨some 11, none, .nilCheck (.tmp 10)⟩, ⟨some 12, none, .field 2 (.tmp 11)⟩, ⟨some 13, none, .load false 1 (.tmp 12)⟩, ⟨some 14, none, .len (.tmp 13)⟩, ⟨some 15, none, .bin .eql (.tmp 14) (.const (.int .i64 0))⟩, ⟨some 9, none, .mov (.tmp 15)⟩])
    (.cond (.tmp 9)
     (.seq (.region [⟨some 2, none, .mov (.const (.int .i64 0))⟩, ⟨some 3, none, .mov (.const (.int .i64 4))⟩])
     .ret)
     .skip)))))
  (.seq (.region [⟨some 16, none, .mov (.tmp 0)⟩, ⟨some 17, none, .nilCheck (.tmp 16)⟩, ⟨some 18, none, .field 2 (.tmp 17)⟩, ⟨some 19, none, .load false 1 (.tmp 18)⟩, ⟨some 20, none, .index 1 (.tmp 19) (.const (.int .i64 0))⟩, ⟨some 21, none, .load false 1 (.tmp 20)⟩, ⟨some 4, none, .mov (.tmp 21)⟩])
  (.seq (.region [⟨some 22, none, .mov (.tmp 0)⟩, ⟨some 23, none, .mov (.tmp 0)⟩, ⟨some 24, none, .nilCheck (.tmp 23)⟩, ⟨some 25, none, .field 2 (.tmp 24)⟩, ⟨some 26, none, .load false 1 (.tmp 25)⟩, ⟨some 27, none, .slice 1 (.tmp 26) (some (.const (.int .i64 1))) none none⟩, ⟨some 28, none, .call 53 [(.tmp 27)]⟩, ⟨some 29, none, .nilCheck (.tmp 22)⟩, ⟨some 30, none, .field 2 (.tmp 29)⟩, ⟨none, none, .store 1 (.tmp 30) (.tmp 28)⟩])
  (.seq (.region [⟨some 31, none, .mov (.tmp 4)⟩, ⟨some 2, none, .mov (.tmp 31)⟩, ⟨some 3, none, .mov (.const (.int .i64 0))⟩])
  .ret))))),
  [.tmp 2, .tmp 3]⟩
theorem c46 : cprog Go.Proofs.Try.prog 46 = some C46 := by kernel_rfl
-- (*dustcart/model.Model).Data
def C47 : CFunc := ⟨(.seq (.region [⟨some 6, none, .mov (.const (.int .i64 0))⟩, ⟨some 7, none, .mov (.const (.int .i64 0))⟩])
  (.seq (.region [⟨some 11, none, .mov (.tmp 0)⟩, ⟨some 12, none, .mov (.tmp 1)⟩, ⟨some 13, none, .call 43 [(.tmp 11), (.tmp 12)]⟩, ⟨some 10, none, .mov (.tmp 13)⟩, ⟨some 14, none, .extract (.tmp 10) 0⟩, ⟨some 15, none, .extract (.tmp 10) 1⟩, ⟨some 8, none, .mov (.tmp 14)⟩, ⟨some 9, none, .mov (.tmp 15)⟩])
  (.seq (.seq (.region [⟨some 16, none, .mov (.tmp 9)⟩, ⟨some 17, none, .bin .neq (.tmp 16) (.const (.int .i64 0))⟩])
  (.cond (.tmp 17)
   (.seq (.region [⟨some 18, none, .mov (.tmp 9)⟩, ⟨some 6, none, .mov (.const (.int .i64 0))⟩, ⟨some 7, none, .mov (.tmp 18)⟩])
   .ret)
   .skip))
  (.seq (.region [⟨some 19, none, .mov (.tmp 8)⟩, ⟨some 20, none, .nilCheck (.tmp 19)⟩, ⟨some 21, none, .field 4 (.tmp 20)⟩, ⟨some 22, none, .load false 1 (.tmp 21)⟩, ⟨some 23, none, .mov (.tmp 2)⟩, ⟨some 24, none, .call 44 [(.tmp 22), (.tmp 23)]⟩, ⟨some 25, none, .extract (.tmp 24) 0⟩, ⟨some 26, none, .extract (.tmp 24) 1⟩, ⟨some 6, none, .mov (.tmp 25)⟩, ⟨some 7, none, .mov (.tmp 26)⟩])
  .ret)))),
  [.tmp 6, .tmp 7]⟩
theorem c47 : cprog Go.Proofs.Try.prog 47 = some C47 := by kernel_rfl
-- dustcart/model.slot
def C48 : CFunc := ⟨(.seq (.region [⟨some 2, none, .mov (.const (.bool false))⟩])
  (.seq (.region [⟨some 3, none, .mov (.tmp 0)⟩, ⟨some 4, none, .bin .geq (.tmp 3) (.const (.int .i64 0))⟩, ⟨some 5, none, .mov (.tmp 4)⟩, ⟨some 6, some (5, true), .mov (.tmp 0)⟩, ⟨some 7, some (5, true), .bin .lss (.tmp 6) (.const (.int .i64 16))⟩, ⟨some 8, none, .pick (.tmp 5) (.tmp 7) (.const (.bool false))⟩, ⟨some 2, none, .mov (.tmp 8)⟩])
  .ret)),
  [.tmp 2]⟩
theorem c48 : cprog Go.Proofs.Try.prog 48 = some C48 := by kernel_rfl
-- dustcart/dustcartref04.Strong
def C49 : CFunc := ⟨(.seq (.region [⟨some 2, none, .box (.tmp 0)⟩, ⟨some 4, none, .mov (.const (.bool false))⟩])
  (.seq (.region [⟨some 5, none, .field 2 (.tmp 2)⟩, ⟨some 6, none, .load false 1 (.tmp 5)⟩, ⟨some 7, none, .bin .neq (.tmp 6) (.const (.int .i64 1))⟩, ⟨some 8, none, .mov (.tmp 7)⟩, ⟨some 9, some (8, true), .field 2 (.tmp 2)⟩, ⟨some 10, some (8, true), .load false 1 (.tmp 9)⟩, ⟨some 11, some (8, true), .bin .neq (.tmp 10) (.const (.int .i64 2))⟩, ⟨some 12, none, .pick (.tmp 8) (.tmp 11) (.const (.bool false))⟩, ⟨some 13, none, .mov (.tmp 12)⟩, ⟨some 14, some (13, false), .mov (.tmp 1)⟩, ⟨some 15, some (13, false), .bin .gtr (.tmp 14) (.const (.int .i64 0))⟩, ⟨some 16, some (13, false), .mov (.tmp 15)⟩, ⟨some 17, some (16, true), .field 2 (.tmp 2)⟩, ⟨some 18, some (16, true), .load false 1 (.tmp 17)⟩, ⟨some 19, some (16, true), .bin .eql (.tmp 18) (.const (.int .i64 1))⟩, ⟨some 20, some (16, true), .mov (.tmp 19)⟩, ⟨some 21, some (20, false), .mov (.tmp 1)⟩, ⟨some 22, some (20, false), .bin .gtr (.tmp 21) (.const (.int .i64 1))⟩, ⟨some 23, some (16, true), .pick (.tmp 20) (.const (.bool true)) (.tmp 22)⟩, ⟨some 24, some (13, false), .pick (.tmp 16) (.tmp 23) (.const (.bool false))⟩, ⟨some 25, none, .pick (.tmp 13) (.const (.bool true)) (.tmp 24)⟩, ⟨some 4, none, .mov (.tmp 25)⟩])
  .ret)),
  [.tmp 4]⟩
theorem c49 : cprog Go.Proofs.Try.prog 49 = some C49 := by kernel_rfl
-- dustcart/model.softs
def C50 : CFunc := ⟨(.seq (.region [⟨some 1, none, .box (.tmp 0)⟩, ⟨some 2, none, .mov (.const (.int .i64 0))⟩])
  (.seq (.seq (.region [⟨some 3, none, .field 2 (.tmp 1)⟩, ⟨some 4, none, .load false 1 (.tmp 3)⟩])
  (.block 0 (.seq (.region [⟨some 6, none, .bin .eql (.tmp 4) (.const (.int .i64 1))⟩, ⟨some 5, none, .mov (.tmp 6)⟩])
   (.cond (.tmp 5)
    (.seq (.region [⟨some 2, none, .mov (.const (.int .i64 1))⟩])
    .ret)
    (.seq (.region [⟨some 8, none, .bin .eql (.tmp 4) (.const (.int .i64 2))⟩, ⟨some 7, none, .mov (.tmp 8)⟩])
    (.cond (.tmp 7)
     (.seq (.region [⟨some 2, none, .mov (.const (.int .i64 2))⟩])
     .ret)
     .skip))))))
  (.seq (.region [⟨some 2, none, .mov (.const (.int .i64 0))⟩])
  .ret))),
  [.tmp 2]⟩
theorem c50 : cprog Go.Proofs.Try.prog 50 = some C50 := by kernel_rfl
-- slices.ContainsFunc[[]int,int]
def C51 : CFunc := ⟨(.seq (.region [⟨some 4, none, .mov (.const (.bool false))⟩])
  (.seq (.region [⟨some 5, none, .mov (.tmp 0)⟩, ⟨some 6, none, .mov (.tmp 1)⟩, ⟨some 7, none, .call 75 [(.tmp 5), (.tmp 6)]⟩, ⟨some 8, none, .bin .geq (.tmp 7) (.const (.int .i64 0))⟩, ⟨some 4, none, .mov (.tmp 8)⟩])
  .ret)),
  [.tmp 4]⟩
theorem c51 : cprog Go.Proofs.Try.prog 51 = some C51 := by kernel_rfl
-- (*dustcart/model.Model).Collect$1
def C52 : CFunc := ⟨(.seq (.region [⟨some 2, none, .mov (.const (.bool false))⟩])
  (.seq (.region [⟨some 3, none, .mov (.tmp 0)⟩, ⟨some 4, none, .bin .neq (.tmp 3) (.const (.int .i64 0))⟩, ⟨some 2, none, .mov (.tmp 4)⟩])
  .ret)),
  [.tmp 2]⟩
theorem c52 : cprog Go.Proofs.Try.prog 52 = some C52 := by kernel_rfl
-- slices.Clone[[]int,int]
def C53 : CFunc := ⟨(.seq (.region [⟨some 2, none, .mov (.const (.nilSlice))⟩])
  (.seq (.seq (.region [⟨some 3, none, .mov (.tmp 0)⟩, ⟨some 4, none, .eqv false 2 (.tmp 3) (.const (.nilSlice))⟩])
  (.cond (.tmp 4)
   (.seq (.region [⟨some 2, none, .mov (.const (.nilSlice))⟩])
   .ret)
   .skip))
  (.seq (.region [⟨some 5, none, .buildSlice 1 [] 0 []⟩, ⟨some 6, none, .mov (.tmp 0)⟩, ⟨some 7, none, .append 1 (.tmp 5) (.tmp 6)⟩, ⟨some 2, none, .mov (.tmp 7)⟩])
  .ret))),
  [.tmp 2]⟩
theorem c53 : cprog Go.Proofs.Try.prog 53 = some C53 := by kernel_rfl
-- (*dustcart/dustcartref04.Model).Made
def C54 : CFunc := ⟨(.seq (.region [⟨some 2, none, .mov (.const (.bool false))⟩])
  (.seq (.region [⟨some 3, none, .mov (.tmp 0)⟩, ⟨some 4, none, .eqv true 1 (.tmp 3) (.const (.nilPtr))⟩, ⟨some 5, none, .mov (.tmp 4)⟩, ⟨some 6, some (5, true), .mov (.tmp 0)⟩, ⟨some 7, some (5, true), .nilCheck (.tmp 6)⟩, ⟨some 8, some (5, true), .field 0 (.tmp 7)⟩, ⟨some 9, some (5, true), .load false 1 (.tmp 8)⟩, ⟨some 10, some (5, true), .len (.tmp 9)⟩, ⟨some 11, some (5, true), .bin .gtr (.tmp 10) (.const (.int .i64 0))⟩, ⟨some 12, none, .pick (.tmp 5) (.tmp 11) (.const (.bool false))⟩, ⟨some 2, none, .mov (.tmp 12)⟩])
  .ret)),
  [.tmp 2]⟩
theorem c54 : cprog Go.Proofs.Try.prog 54 = some C54 := by kernel_rfl
-- (*dustcart/dustcartref04.Model).Do
def C55 : CFunc := ⟨(.seq (.region [⟨some 5, none, .box (.tmp 2)⟩, ⟨some 6, none, .new [.nilSlice, .int .i64 0, .int .i64 0, .int .i64 0, .int .i64 0, .int .i64 0, .int .i64 0]⟩, ⟨some 7, none, .mov (.const (.int .i64 0))⟩])
  (.seq (.seq (.region [⟨some 12, none, .mov (.tmp 0)⟩, ⟨some 13, none, .call 54 [(.tmp 12)]⟩, ⟨some 14, none, .not (.tmp 13)⟩])
  (.cond (.tmp 14)
   (.seq (.region [⟨some 15, none, .build [.nilSlice, .int .i64 0, .int .i64 0, .int .i64 0, .int .i64 0, .int .i64 0, .int .i64 0] []⟩, ⟨none, none, .store 7 (.tmp 6) (.tmp 15)⟩, ⟨some 7, none, .mov (.const (.int .i64 5))⟩])
   .ret)
   .skip))
  (.seq (.seq (.region [⟨some 16, none, .mov (.tmp 0)⟩, ⟨some 17, none, .mov (.tmp 1)⟩, ⟨some 18, none, .load true 8 (.tmp 5)⟩, ⟨some 19, none, .call 76 [(.tmp 16), (.tmp 17), (.tmp 18)]⟩, ⟨some 8, none, .mov (.tmp 19)⟩])
  (.seq (.region [⟨some 20, none, .mov (.tmp 8)⟩, ⟨some 21, none, .bin .neq (.tmp 20) (.const (.int .i64 0))⟩])
  (.cond (.tmp 21)
   (.seq (.region [⟨some 22, none, .build [.nilSlice, .int .i64 0, .int .i64 0, .int .i64 0, .int .i64 0, .int .i64 0, .int .i64 0] []⟩, ⟨some 23, none, .mov (.tmp 8)⟩, ⟨none, none, .store 7 (.tmp 6) (.tmp 22)⟩, ⟨some 7, none, .mov (.tmp 23)⟩])
   .ret)
   .skip)))
  (.seq (.region [⟨some 24, none, .mov (.tmp 0)⟩, ⟨some 25, none, .nilCheck (.tmp 24)⟩, ⟨some 26, none, .field 0 (.tmp 25)⟩, ⟨some 27, none, .load false 1 (.tmp 26)⟩, ⟨some 28, none, .mov (.tmp 1)⟩, ⟨some 29, none, .index 1 (.tmp 27) (.tmp 28)⟩, ⟨some 30, none, .load false 1 (.tmp 29)⟩, ⟨some 9, none, .mov (.tmp 30)⟩])
  (.seq (.region [⟨some 10, none, .new [.nilSlice, .int .i64 0, .int .i64 0, .int .i64 0, .int .i64 0, .int .i64 0, .int .i64 0]⟩])
  (.seq (.seq (.region [⟨some 31, none, .field 0 (.tmp 5)⟩, ⟨some 32, none, .load false 1 (.tmp 31)⟩])
  (.block 0 (.seq (.region [⟨some 34, none, .bin .eql (.tmp 32) (.const (.int .i64 0))⟩, ⟨some 33, none, .mov (.tmp 34)⟩])
   (.cond (.tmp 33)
    (.seq (.dregion [⟨⟨some 36, none, .mov (.tmp 0)⟩, 1, 0, 0⟩, ⟨⟨some 37, none, .nilCheck (.tmp 36)⟩, 2, 0, 0⟩, ⟨⟨some 38, none, .field 3 (.tmp 37)⟩, 3, 0, 0⟩, ⟨⟨some 39, none, .load false 1 (.tmp 38)⟩, 4, 1, 0⟩, ⟨⟨some 40, none, .field 5 (.tmp 5)⟩, 5, 0, 0⟩, ⟨⟨some 41, none, .load true 3 (.tmp 40)⟩, 6, 1, 0⟩, ⟨⟨some 42, none, .field 5 (.tmp 5)⟩, 7, 0, 0⟩, ⟨⟨some 43, none, .field 0 (.tmp 42)⟩, 8, 0, 0⟩, ⟨⟨some 44, none, .load false 1 (.tmp 43)⟩, 9, 1, 0⟩, ⟨⟨some 45, none, .makeSlice 1 [.int .i64 0] (.tmp 44) (.tmp 44)⟩, 10, 0, 0⟩, ⟨⟨some 46, none, .field 5 (.tmp 5)⟩, 11, 0, 0⟩, ⟨⟨some 47, none, .field 1 (.tmp 46)⟩, 12, 0, 0⟩, ⟨⟨some 48, none, .load false 1 (.tmp 47)⟩, 13, 1, 0⟩, ⟨⟨some 49, none, .makeSlice 1 [.int .i64 0] (.tmp 48) (.tmp 48)⟩, 14, 0, 0⟩, ⟨⟨some 50, none, .build [.int .i64 0, .int .i64 0, .int .i64 0, .nilSlice, .nilSlice] [(0, 3, (.tmp 41)), (3, 1, (.tmp 45)), (4, 1, (.tmp 49))]⟩, 15, 0, 0⟩, ⟨⟨some 51, none, .buildSlice 5 [.int .i64 0, .int .i64 0, .int .i64 0, .nilSlice, .nilSlice] 1 [(0, 5, (.tmp 50))]⟩, 16, 0, 0⟩, ⟨⟨some 52, none, .append 5 (.tmp 39) (.tmp 51)⟩, 17, 3, 0⟩, ⟨⟨some 35, none, .mov (.tmp 0)⟩, 0, 0, 0⟩, ⟨⟨some 53, none, .nilCheck (.tmp 35)⟩, 18, 0, 1⟩, ⟨⟨some 54, none, .field 3 (.tmp 53)⟩, 19, 0, 1⟩, ⟨⟨none, none, .store 1 (.tmp 54) (.tmp 52)⟩, 20, 3, 1⟩])
    (.seq (.dregion [⟨⟨some 55, none, .mov (.tmp 9)⟩, 0, 0, 0⟩, ⟨⟨some 56, none, .field 1 (.tmp 5)⟩, 1, 0, 0⟩, ⟨⟨some 57, none, .load false 1 (.tmp 56)⟩, 2, 1, 0⟩, ⟨⟨some 58, none, .mov (.tmp 0)⟩, 3, 0, 0⟩, ⟨⟨some 59, none, .nilCheck (.tmp 58)⟩, 4, 0, 0⟩, ⟨⟨some 60, none, .field 3 (.tmp 59)⟩, 5, 0, 0⟩, ⟨⟨some 61, none, .load false 1 (.tmp 60)⟩, 6, 1, 0⟩, ⟨⟨some 62, none, .len (.tmp 61)⟩, 7, 0, 0⟩, ⟨⟨some 63, none, .index 1 (.tmp 55) (.tmp 57)⟩, 8, 0, 0⟩, ⟨⟨none, none, .store 1 (.tmp 63) (.tmp 62)⟩, 9, 3, 0⟩])
    (.region [⟨some 64, none, .mov (.tmp 0)⟩, ⟨some 65, none, .nilCheck (.tmp 64)⟩, ⟨some 66, none, .field 3 (.tmp 65)⟩, ⟨some 67, none, .load false 1 (.tmp 66)⟩, ⟨some 68, none, .len (.tmp 67)⟩, ⟨some 69, none, .field 5 (.tmp 10)⟩, ⟨none, none, .store 1 (.tmp 69) (.tmp 68)⟩])))
    (.seq (.region [⟨some 71, none, .bin .eql (.tmp 32) (.const (.int .i64 1))⟩, ⟨some 70, none, .mov (.tmp 71)⟩])
    (.cond (.tmp 70)
     (.seq (.dregion [⟨⟨some 72, none, .mov (.tmp 9)⟩, 0, 0, 0⟩, ⟨⟨some 73, none, .field 1 (.tmp 5)⟩, 1, 0, 0⟩, ⟨⟨some 74, none, .load false 1 (.tmp 73)⟩, 2, 1, 0⟩, ⟨⟨some 75, none, .mov (.tmp 0)⟩, 3, 0, 0⟩, ⟨⟨some 76, none, .nilCheck (.tmp 75)⟩, 4, 0, 0⟩, ⟨⟨some 77, none, .field 3 (.tmp 76)⟩, 5, 0, 0⟩, ⟨⟨some 78, none, .load false 1 (.tmp 77)⟩, 6, 1, 0⟩, ⟨⟨some 79, none, .mov (.tmp 9)⟩, 7, 0, 0⟩, ⟨⟨some 80, none, .field 2 (.tmp 5)⟩, 8, 0, 0⟩, ⟨⟨some 81, none, .load false 1 (.tmp 80)⟩, 9, 1, 0⟩, ⟨⟨some 82, none, .index 1 (.tmp 79) (.tmp 81)⟩, 10, 0, 0⟩, ⟨⟨some 83, none, .load false 1 (.tmp 82)⟩, 11, 1, 0⟩, ⟨⟨some 84, none, .bin .sub (.tmp 83) (.const (.int .i64 1))⟩, 12, 0, 0⟩, ⟨⟨some 85, none, .index 5 (.tmp 78) (.tmp 84)⟩, 13, 0, 0⟩, ⟨⟨some 86, none, .field 3 (.tmp 85)⟩, 14, 0, 0⟩, ⟨⟨some 87, none, .load false 1 (.tmp 86)⟩, 15, 1, 0⟩, ⟨⟨some 88, none, .field 3 (.tmp 5)⟩, 16, 0, 0⟩, ⟨⟨some 89, none, .load false 1 (.tmp 88)⟩, 17, 1, 0⟩, ⟨⟨some 90, none, .index 1 (.tmp 87) (.tmp 89)⟩, 18, 0, 0⟩, ⟨⟨some 91, none, .load false 1 (.tmp 90)⟩, 19, 1, 0⟩, ⟨⟨some 92, none, .index 1 (.tmp 72) (.tmp 74)⟩, 20, 0, 0⟩, ⟨⟨none, none, .store 1 (.tmp 92) (.tmp 91)⟩, 21, 3, 0⟩])
     (.region [⟨some 93, none, .mov (.tmp 9)⟩, ⟨some 94, none, .field 1 (.tmp 5)⟩, ⟨some 95, none, .load false 1 (.tmp 94)⟩, ⟨some 96, none, .index 1 (.tmp 93) (.tmp 95)⟩, ⟨some 97, none, .load false 1 (.tmp 96)⟩, ⟨some 98, none, .field 6 (.tmp 10)⟩, ⟨none, none, .store 1 (.tmp 98) (.tmp 97)⟩]))
     (.seq (.region [⟨some 100, none, .bin .eql (.tmp 32) (.const (.int .i64 2))⟩, ⟨some 99, none, .mov (.tmp 100)⟩])
     (.cond (.tmp 99)
      (.seq (.dregion [⟨⟨some 101, none, .mov (.tmp 9)⟩, 0, 0, 0⟩, ⟨⟨some 102, none, .field 1 (.tmp 5)⟩, 1, 0, 0⟩, ⟨⟨some 103, none, .load false 1 (.tmp 102)⟩, 2, 1, 0⟩, ⟨⟨some 104, none, .index 1 (.tmp 101) (.tmp 103)⟩, 3, 0, 0⟩, ⟨⟨some 105, none, .load false 1 (.tmp 104)⟩, 4, 1, 0⟩, ⟨⟨some 113, none, .field 1 (.tmp 10)⟩, 12, 0, 0⟩, ⟨⟨none, none, .store 1 (.tmp 113) (.tmp 105)⟩, 13, 3, 0⟩, ⟨⟨some 106, none, .field 3 (.tmp 5)⟩, 5, 0, 0⟩, ⟨⟨some 107, none, .load false 1 (.tmp 106)⟩, 6, 1, 0⟩, ⟨⟨some 114, none, .field 2 (.tmp 10)⟩, 14, 0, 1⟩, ⟨⟨none, none, .store 1 (.tmp 114) (.tmp 107)⟩, 15, 3, 1⟩, ⟨⟨some 108, none, .mov (.tmp 9)⟩, 7, 0, 0⟩, ⟨⟨some 109, none, .field 2 (.tmp 5)⟩, 8, 0, 0⟩, ⟨⟨some 110, none, .load false 1 (.tmp 109)⟩, 9, 1, 0⟩, ⟨⟨some 111, none, .index 1 (.tmp 108) (.tmp 110)⟩, 10, 0, 0⟩, ⟨⟨some 112, none, .load false 1 (.tmp 111)⟩, 11, 1, 0⟩, ⟨⟨some 115, none, .field 4 (.tmp 10)⟩, 16, 0, 2⟩, ⟨⟨none, none, .store 1 (.tmp 115) (.tmp 112)⟩, 17, 3, 2⟩])
      (.seq (.dregion [⟨⟨some 116, none, .mov (.tmp 0)⟩, 0, 0, 0⟩, ⟨⟨some 117, none, .nilCheck (.tmp 116)⟩, 1, 0, 0⟩, ⟨⟨some 118, none, .field 3 (.tmp 117)⟩, 2, 0, 0⟩, ⟨⟨some 119, none, .load false 1 (.tmp 118)⟩, 3, 1, 0⟩, ⟨⟨some 120, none, .mov (.tmp 9)⟩, 4, 0, 0⟩, ⟨⟨some 121, none, .field 1 (.tmp 5)⟩, 5, 0, 0⟩, ⟨⟨some 122, none, .load false 1 (.tmp 121)⟩, 6, 1, 0⟩, ⟨⟨some 123, none, .index 1 (.tmp 120) (.tmp 122)⟩, 7, 0, 0⟩, ⟨⟨some 124, none, .load false 1 (.tmp 123)⟩, 8, 1, 0⟩, ⟨⟨some 125, none, .bin .sub (.tmp 124) (.const (.int .i64 1))⟩, 9, 0, 0⟩, ⟨⟨some 126, none, .index 5 (.tmp 119) (.tmp 125)⟩, 10, 0, 0⟩, ⟨⟨some 127, none, .field 3 (.tmp 126)⟩, 11, 0, 0⟩, ⟨⟨some 128, none, .load false 1 (.tmp 127)⟩, 12, 1, 0⟩, ⟨⟨some 129, none, .field 3 (.tmp 5)⟩, 13, 0, 0⟩, ⟨⟨some 130, none, .load false 1 (.tmp 129)⟩, 14, 1, 0⟩, ⟨⟨some 131, none, .index 1 (.tmp 128) (.tmp 130)⟩, 15, 0, 0⟩, ⟨⟨some 132, none, .load false 1 (.tmp 131)⟩, 16, 1, 0⟩, ⟨⟨some 133, none, .field 3 (.tmp 10)⟩, 17, 0, 0⟩, ⟨⟨none, none, .store 1 (.tmp 133) (.tmp 132)⟩, 18, 3, 0⟩])
      (.dregion [⟨⟨some 134, none, .mov (.tmp 0)⟩, 0, 0, 0⟩, ⟨⟨some 135, none, .nilCheck (.tmp 134)⟩, 1, 0, 0⟩, ⟨⟨some 136, none, .field 3 (.tmp 135)⟩, 2, 0, 0⟩, ⟨⟨some 137, none, .load false 1 (.tmp 136)⟩, 3, 1, 0⟩, ⟨⟨some 138, none, .mov (.tmp 9)⟩, 4, 0, 0⟩, ⟨⟨some 139, none, .field 1 (.tmp 5)⟩, 5, 0, 0⟩, ⟨⟨some 140, none, .load false 1 (.tmp 139)⟩, 6, 1, 0⟩, ⟨⟨some 141, none, .index 1 (.tmp 138) (.tmp 140)⟩, 7, 0, 0⟩, ⟨⟨some 142, none, .load false 1 (.tmp 141)⟩, 8, 1, 0⟩, ⟨⟨some 143, none, .bin .sub (.tmp 142) (.const (.int .i64 1))⟩, 9, 0, 0⟩, ⟨⟨some 144, none, .index 5 (.tmp 137) (.tmp 143)⟩, 10, 0, 0⟩, ⟨⟨some 145, none, .field 3 (.tmp 144)⟩, 11, 0, 0⟩, ⟨⟨some 146, none, .load false 1 (.tmp 145)⟩, 12, 1, 0⟩, ⟨⟨some 147, none, .field 3 (.tmp 5)⟩, 13, 0, 0⟩, ⟨⟨some 148, none, .load false 1 (.tmp 147)⟩, 14, 1, 0⟩, ⟨⟨some 149, none, .mov (.tmp 9)⟩, 15, 0, 0⟩, ⟨⟨some 150, none, .field 2 (.tmp 5)⟩, 16, 0, 0⟩, ⟨⟨some 151, none, .load false 1 (.tmp 150)⟩, 17, 1, 0⟩, ⟨⟨some 152, none, .index 1 (.tmp 149) (.tmp 151)⟩, 18, 0, 0⟩, ⟨⟨some 153, none, .load false 1 (.tmp 152)⟩, 19, 1, 0⟩, ⟨⟨some 154, none, .index 1 (.tmp 146) (.tmp 148)⟩, 20, 0, 0⟩, ⟨⟨none, none, .store 1 (.tmp 154) (.tmp 153)⟩, 21, 3, 0⟩])))
      (.seq (.region [⟨some 156, none, .bin .eql (.tmp 32) (.const (.int .i64 3))⟩, ⟨some 155, none, .mov (.tmp 156)⟩])
      (.cond (.tmp 155)
       (.dregion [⟨⟨some 157, none, .mov (.tmp 0)⟩, 0, 0, 0⟩, ⟨⟨some 158, none, .nilCheck (.tmp 157)⟩, 1, 0, 0⟩, ⟨⟨some 159, none, .field 3 (.tmp 158)⟩, 2, 0, 0⟩, ⟨⟨some 160, none, .load false 1 (.tmp 159)⟩, 3, 1, 0⟩, ⟨⟨some 161, none, .mov (.tmp 9)⟩, 4, 0, 0⟩, ⟨⟨some 162, none, .field 1 (.tmp 5)⟩, 5, 0, 0⟩, ⟨⟨some 163, none, .load false 1 (.tmp 162)⟩, 6, 1, 0⟩, ⟨⟨some 164, none, .index 1 (.tmp 161) (.tmp 163)⟩, 7, 0, 0⟩, ⟨⟨some 165, none, .load false 1 (.tmp 164)⟩, 8, 1, 0⟩, ⟨⟨some 166, none, .bin .sub (.tmp 165) (.const (.int .i64 1))⟩, 9, 0, 0⟩, ⟨⟨some 167, none, .index 5 (.tmp 160) (.tmp 166)⟩, 10, 0, 0⟩, ⟨⟨some 168, none, .field 4 (.tmp 167)⟩, 11, 0, 0⟩, ⟨⟨some 169, none, .load false 1 (.tmp 168)⟩, 12, 1, 0⟩, ⟨⟨some 170, none, .field 3 (.tmp 5)⟩, 13, 0, 0⟩, ⟨⟨some 171, none, .load false 1 (.tmp 170)⟩, 14, 1, 0⟩, ⟨⟨some 172, none, .field 4 (.tmp 5)⟩, 15, 0, 0⟩, ⟨⟨some 173, none, .load false 1 (.tmp 172)⟩, 16, 1, 0⟩, ⟨⟨some 174, none, .index 1 (.tmp 169) (.tmp 171)⟩, 17, 0, 0⟩, ⟨⟨none, none, .store 1 (.tmp 174) (.tmp 173)⟩, 18, 3, 0⟩])
       (.seq (.region [⟨some 176, none, .bin .eql (.tmp 32) (.const (.int .i64 4))⟩, ⟨some 175, none, .mov (.tmp 176)⟩])
       (.cond (.tmp 175)
        (.dregion [⟨⟨some 177, none, .mov (.tmp 0)⟩, 0, 0, 0⟩, ⟨⟨some 178, none, .nilCheck (.tmp 177)⟩, 1, 0, 0⟩, ⟨⟨some 179, none, .field 3 (.tmp 178)⟩, 2, 0, 0⟩, ⟨⟨some 180, none, .load false 1 (.tmp 179)⟩, 3, 1, 0⟩, ⟨⟨some 181, none, .mov (.tmp 9)⟩, 4, 0, 0⟩, ⟨⟨some 182, none, .field 1 (.tmp 5)⟩, 5, 0, 0⟩, ⟨⟨some 183, none, .load false 1 (.tmp 182)⟩, 6, 1, 0⟩, ⟨⟨some 184, none, .index 1 (.tmp 181) (.tmp 183)⟩, 7, 0, 0⟩, ⟨⟨some 185, none, .load false 1 (.tmp 184)⟩, 8, 1, 0⟩, ⟨⟨some 186, none, .bin .sub (.tmp 185) (.const (.int .i64 1))⟩, 9, 0, 0⟩, ⟨⟨some 187, none, .index 5 (.tmp 180) (.tmp 186)⟩, 10, 0, 0⟩, ⟨⟨some 188, none, .field 4 (.tmp 187)⟩, 11, 0, 0⟩, ⟨⟨some 189, none, .load false 1 (.tmp 188)⟩, 12, 1, 0⟩, ⟨⟨some 190, none, .field 3 (.tmp 5)⟩, 13, 0, 0⟩, ⟨⟨some 191, none, .load false 1 (.tmp 190)⟩, 14, 1, 0⟩, ⟨⟨some 192, none, .index 1 (.tmp 189) (.tmp 191)⟩, 15, 0, 0⟩, ⟨⟨some 193, none, .load false 1 (.tmp 192)⟩, 16, 1, 0⟩, ⟨⟨some 194, none, .buildSlice 1 [.int .i64 0] 1 [(0, 1, (.tmp 193))]⟩, 17, 0, 0⟩, ⟨⟨some 195, none, .field 0 (.tmp 10)⟩, 18, 0, 0⟩, ⟨⟨none, none, .store 1 (.tmp 195) (.tmp 194)⟩, 19, 3, 0⟩])
        (.seq (.region [⟨some 197, none, .bin .eql (.tmp 32) (.const (.int .i64 5))⟩, ⟨some 196, none, .mov (.tmp 197)⟩])
        (.cond (.tmp 196)
         (.seq (.dregion [⟨⟨some 198, none, .mov (.tmp 9)⟩, 0, 0, 0⟩, ⟨⟨some 199, none, .field 1 (.tmp 5)⟩, 1, 0, 0⟩, ⟨⟨some 200, none, .load false 1 (.tmp 199)⟩, 2, 1, 0⟩, ⟨⟨some 201, none, .mov (.tmp 9)⟩, 3, 0, 0⟩, ⟨⟨some 202, none, .field 2 (.tmp 5)⟩, 4, 0, 0⟩, ⟨⟨some 203, none, .load false 1 (.tmp 202)⟩, 5, 1, 0⟩, ⟨⟨some 204, none, .index 1 (.tmp 201) (.tmp 203)⟩, 6, 0, 0⟩, ⟨⟨some 205, none, .load false 1 (.tmp 204)⟩, 7, 1, 0⟩, ⟨⟨some 206, none, .index 1 (.tmp 198) (.tmp 200)⟩, 8, 0, 0⟩, ⟨⟨none, none, .store 1 (.tmp 206) (.tmp 205)⟩, 9, 3, 0⟩])
         (.region [⟨some 207, none, .mov (.tmp 9)⟩, ⟨some 208, none, .field 1 (.tmp 5)⟩, ⟨some 209, none, .load false 1 (.tmp 208)⟩, ⟨some 210, none, .index 1 (.tmp 207) (.tmp 209)⟩, ⟨some 211, none, .load false 1 (.tmp 210)⟩, ⟨some 212, none, .field 6 (.tmp 10)⟩, ⟨none, none, .store 1 (.tmp 212) (.tmp 211)⟩]))
         (.seq (.region [⟨some 214, none, .bin .eql (.tmp 32) (.const (.int .i64 6))⟩, ⟨some 213, none, .mov (.tmp 214)⟩])
         (.cond (.tmp 213)
          (.region [⟨some 215, none, .mov (.tmp 9)⟩, ⟨some 216, none, .field 1 (.tmp 5)⟩, ⟨some 217, none, .load false 1 (.tmp 216)⟩, ⟨some 218, none, .index 1 (.tmp 215) (.tmp 217)⟩, ⟨none, none, .store 1 (.tmp 218) (.const (.int .i64 0))⟩])
          (.seq (.region [⟨some 220, none, .bin .eql (.tmp 32) (.const (.int .i64 7))⟩, ⟨some 219, none, .mov (.tmp 220)⟩])
          (.cond (.tmp 219)
           (.seq (.region [⟨some 221, none, .buildSlice 1 [.int .i64 0] 1 [(0, 1, (.const (.int .i64 0)))]⟩, ⟨some 222, none, .field 0 (.tmp 10)⟩, ⟨none, none, .store 1 (.tmp 222) (.tmp 221)⟩])
           (.seq (.dregion [⟨⟨some 223, none, .mov (.tmp 9)⟩, 0, 0, 0⟩, ⟨⟨some 224, none, .field 1 (.tmp 5)⟩, 1, 0, 0⟩, ⟨⟨some 225, none, .load false 1 (.tmp 224)⟩, 2, 1, 0⟩, ⟨⟨some 226, none, .index 1 (.tmp 223) (.tmp 225)⟩, 3, 0, 0⟩, ⟨⟨some 227, none, .load false 1 (.tmp 226)⟩, 4, 1, 0⟩, ⟨⟨some 228, none, .mov (.tmp 9)⟩, 5, 0, 0⟩, ⟨⟨some 229, none, .field 2 (.tmp 5)⟩, 6, 0, 0⟩, ⟨⟨some 230, none, .load false 1 (.tmp 229)⟩, 7, 1, 0⟩, ⟨⟨some 231, none, .index 1 (.tmp 228) (.tmp 230)⟩, 8, 0, 0⟩, ⟨⟨some 232, none, .load false 1 (.tmp 231)⟩, 9, 1, 0⟩, ⟨⟨some 233, none, .bin .eql (.tmp 227) (.tmp 232)⟩, 10, 0, 0⟩])
           (.cond (.tmp 233)
            (.region [⟨some 234, none, .buildSlice 1 [.int .i64 0] 1 [(0, 1, (.const (.int .i64 1)))]⟩, ⟨some 235, none, .field 0 (.tmp 10)⟩, ⟨none, none, .store 1 (.tmp 235) (.tmp 234)⟩])
            .skip)))
           (.seq (.region [⟨some 237, none, .bin .eql (.tmp 32) (.const (.int .i64 8))⟩, ⟨some 236, none, .mov (.tmp 237)⟩])
           (.cond (.tmp 236)
            (.region [⟨some 238, none, .mov (.tmp 9)⟩, ⟨some 239, none, .field 1 (.tmp 5)⟩, ⟨some 240, none, .load false 1 (.tmp 239)⟩, ⟨some 241, none, .index 1 (.tmp 238) (.tmp 240)⟩, ⟨some 242, none, .load false 1 (.tmp 241)⟩, ⟨some 243, none, .buildSlice 1 [.int .i64 0] 1 [(0, 1, (.tmp 242))]⟩, ⟨some 244, none, .field 0 (.tmp 10)⟩, ⟨none, none, .store 1 (.tmp 244) (.tmp 243)⟩])
            (.seq (.region [⟨some 246, none, .bin .eql (.tmp 32) (.const (.int .i64 9))⟩, ⟨some 245, none, .mov (.tmp 246)⟩])
            (.cond (.tmp 245)
             (.dregion [⟨⟨some 247, none, .mov (.tmp 0)⟩, 0, 0, 0⟩, ⟨⟨some 248, none, .nilCheck (.tmp 247)⟩, 1, 0, 0⟩, ⟨⟨some 249, none, .field 1 (.tmp 248)⟩, 2, 0, 0⟩, ⟨⟨some 250, none, .load false 1 (.tmp 249)⟩, 3, 1, 0⟩, ⟨⟨some 251, none, .field 3 (.tmp 5)⟩, 4, 0, 0⟩, ⟨⟨some 252, none, .load false 1 (.tmp 251)⟩, 5, 1, 0⟩, ⟨⟨some 253, none, .mov (.tmp 9)⟩, 6, 0, 0⟩, ⟨⟨some 254, none, .field 1 (.tmp 5)⟩, 7, 0, 0⟩, ⟨⟨some 255, none, .load false 1 (.tmp 254)⟩, 8, 1, 0⟩, ⟨⟨some 256, none, .index 1 (.tmp 253) (.tmp 255)⟩, 9, 0, 0⟩, ⟨⟨some 257, none, .load false 1 (.tmp 256)⟩, 10, 1, 0⟩, ⟨⟨some 258, none, .index 1 (.tmp 250) (.tmp 252)⟩, 11, 0, 0⟩, ⟨⟨none, none, .store 1 (.tmp 258) (.tmp 257)⟩, 12, 3, 0⟩])
             (.seq (.region [⟨some 260, none, .bin .eql (.tmp 32) (.const (.int .i64 10))⟩, ⟨some 259, none, .mov (.tmp 260)⟩])
             (.cond (.tmp 259)
              (.seq (.dregion [⟨⟨some 261, none, .mov (.tmp 9)⟩, 0, 0, 0⟩, ⟨⟨some 262, none, .field 1 (.tmp 5)⟩, 1, 0, 0⟩, ⟨⟨some 263, none, .load false 1 (.tmp 262)⟩, 2, 1, 0⟩, ⟨⟨some 264, none, .mov (.tmp 0)⟩, 3, 0, 0⟩, ⟨⟨some 265, none, .nilCheck (.tmp 264)⟩, 4, 0, 0⟩, ⟨⟨some 266, none, .field 1 (.tmp 265)⟩, 5, 0, 0⟩, ⟨⟨some 267, none, .load false 1 (.tmp 266)⟩, 6, 1, 0⟩, ⟨⟨some 268, none, .field 3 (.tmp 5)⟩, 7, 0, 0⟩, ⟨⟨some 269, none, .load false 1 (.tmp 268)⟩, 8, 1, 0⟩, ⟨⟨some 270, none, .index 1 (.tmp 267) (.tmp 269)⟩, 9, 0, 0⟩, ⟨⟨some 271, none, .load false 1 (.tmp 270)⟩, 10, 1, 0⟩, ⟨⟨some 272, none, .index 1 (.tmp 261) (.tmp 263)⟩, 11, 0, 0⟩, ⟨⟨none, none, .store 1 (.tmp 272) (.tmp 271)⟩, 12, 3, 0⟩])
              (.region [⟨some 273, none, .mov (.tmp 9)⟩, ⟨some 274, none, .field 1 (.tmp 5)⟩, ⟨some 275, none, .load false 1 (.tmp 274)⟩, ⟨some 276, none, .index 1 (.tmp 273) (.tmp 275)⟩, ⟨some 277, none, .load false 1 (.tmp 276)⟩, ⟨some 278, none, .field 6 (.tmp 10)⟩, ⟨none, none, .store 1 (.tmp 278) (.tmp 277)⟩]))
              (.seq (.region [⟨some 280, none, .bin .eql (.tmp 32) (.const (.int .i64 11))⟩, ⟨some 279, none, .mov (.tmp 280)⟩])
              (.cond (.tmp 279)
               (.seq (.dregion [⟨⟨some 281, none, .mov (.tmp 0)⟩, 0, 0, 0⟩, ⟨⟨some 282, none, .nilCheck (.tmp 281)⟩, 1, 0, 0⟩, ⟨⟨some 283, none, .field 3 (.tmp 282)⟩, 2, 0, 0⟩, ⟨⟨some 284, none, .load false 1 (.tmp 283)⟩, 3, 1, 0⟩, ⟨⟨some 285, none, .mov (.tmp 9)⟩, 4, 0, 0⟩, ⟨⟨some 286, none, .field 1 (.tmp 5)⟩, 5, 0, 0⟩, ⟨⟨some 287, none, .load false 1 (.tmp 286)⟩, 6, 1, 0⟩, ⟨⟨some 288, none, .index 1 (.tmp 285) (.tmp 287)⟩, 7, 0, 0⟩, ⟨⟨some 289, none, .load false 1 (.tmp 288)⟩, 8, 1, 0⟩, ⟨⟨some 290, none, .bin .sub (.tmp 289) (.const (.int .i64 1))⟩, 9, 0, 0⟩, ⟨⟨some 291, none, .index 5 (.tmp 284) (.tmp 290)⟩, 10, 0, 0⟩, ⟨⟨some 292, none, .field 0 (.tmp 291)⟩, 11, 0, 0⟩, ⟨⟨some 293, none, .load true 3 (.tmp 292)⟩, 12, 1, 0⟩, ⟨⟨some 11, none, .new [.int .i64 0, .int .i64 0, .int .i64 0]⟩, 13, 0, 0⟩, ⟨⟨none, none, .store 3 (.tmp 11) (.tmp 293)⟩, 14, 3, 0⟩])
               (.region [⟨some 294, none, .field 0 (.tmp 11)⟩, ⟨some 295, none, .load false 1 (.tmp 294)⟩, ⟨some 296, none, .field 1 (.tmp 11)⟩, ⟨some 297, none, .load false 1 (.tmp 296)⟩, ⟨some 298, none, .field 2 (.tmp 11)⟩, ⟨some 299, none, .load false 1 (.tmp 298)⟩, ⟨some 300, none, .buildSlice 1 [.int .i64 0, .int .i64 0, .int .i64 0] 3 [(0, 1, (.tmp 295)), (1, 1, (.tmp 297)), (2, 1, (.tmp 299))]⟩, ⟨some 301, none, .field 0 (.tmp 10)⟩, ⟨none, none, .store 1 (.tmp 301) (.tmp 300)⟩]))
               .skip))))))))))))))))))))))))))
  (.seq (.region [⟨some 302, none, .load true 7 (.tmp 10)⟩, ⟨none, none, .store 7 (.tmp 6) (.tmp 302)⟩, ⟨some 7, none, .mov (.const (.int .i64 0))⟩])
  .ret))))))),
  [.cell 6 true 7, .tmp 7]⟩
theorem c55 : cprog Go.Proofs.Try.prog 55 = some C55 := by kernel_rfl
-- dustcart/dustcartref04.SameEffect
def C56_1 : CCode := .seq (.seq (.region [⟨some 55, none, .mov (.tmp 5)⟩, ⟨some 56, none, .field 0 (.tmp 2)⟩, ⟨some 57, none, .load false 1 (.tmp 56)⟩, ⟨some 58, none, .len (.tmp 57)⟩, ⟨some 59, none, .bin .lss (.tmp 55) (.tmp 58)⟩])
    (.cond (.tmp 59)
     .skip
     (.exit 0)))
    (.seq (.block 1 (.seq (.dregion [⟨⟨some 62, none, .field 0 (.tmp 2)⟩, 0, 0, 0⟩, ⟨⟨some 63, none, .load false 1 (.tmp 62)⟩, 1, 1, 0⟩, ⟨⟨some 64, none, .mov (.tmp 5)⟩, 2, 0, 0⟩, ⟨⟨some 65, none, .index 1 (.tmp 63) (.tmp 64)⟩, 3, 0, 0⟩, ⟨⟨some 66, none, .load false 1 (.tmp 65)⟩, 4, 1, 0⟩, ⟨⟨some 67, none, .field 0 (.tmp 3)⟩, 5, 0, 0⟩, ⟨⟨some 68, none, .load false 1 (.tmp 67)⟩, 6, 1, 0⟩, ⟨⟨some 69, none, .mov (.tmp 5)⟩, 7, 0, 0⟩, ⟨⟨some 70, none, .index 1 (.tmp 68) (.tmp 69)⟩, 8, 0, 0⟩, ⟨⟨some 71, none, .load false 1 (.tmp 70)⟩, 9, 1, 0⟩, ⟨⟨some 72, none, .bin .neq (.tmp 66) (.tmp 71)⟩, 10, 0, 0⟩])
     (.cond (.tmp 72)
      (.seq (.region [⟨some 4, none, .mov (.const (.bool false))⟩])
      .ret)
      .skip)))
    (.region [⟨some 60, none, .mov (.tmp 5)⟩, ⟨some 61, none, .bin .add (.tmp 60) (.const (.int .i64 1))⟩, ⟨some 5, none, .mov (.tmp 61)⟩]))
def C56 : CFunc := ⟨(.seq (.region [⟨some 2, none, .box (.tmp 0)⟩, ⟨some 3, none, .box (.tmp 1)⟩, ⟨some 4, none, .mov (.const (.bool false))⟩])
  (.seq (.seq (.region [⟨some 6, none, .field 0 (.tmp 2)⟩, ⟨some 7, none, .load false 1 (.tmp 6)⟩, ⟨some 8, none, .len (.tmp 7)⟩, ⟨some 9, none, .field 0 (.tmp 3)⟩, ⟨some 10, none, .load false 1 (.tmp 9)⟩, ⟨some 11, none, .len (.tmp 10)⟩, ⟨some 12, none, .bin .neq (.tmp 8) (.tmp 11)⟩, ⟨some 13, none, .mov (.tmp 12)⟩, ⟨some 14, some (13, false), .field 1 (.tmp 2)⟩, ⟨some 15, some (13, false), .load false 1 (.tmp 14)⟩, ⟨some 16, some (13, false), .field 1 (.tmp 3)⟩, ⟨some 17, some (13, false), .load false 1 (.tmp 16)⟩, ⟨some 18, some (13, false), .bin .neq (.tmp 15) (.tmp 17)⟩, ⟨some 19, none, .pick (.tmp 13) (.const (.bool true)) (.tmp 18)⟩, ⟨some 20, none, .mov (.tmp 19)⟩, ⟨some 21, some (20, false), .field 2 (.tmp 2)⟩, ⟨some 22, some (20, false), .load false 1 (.tmp 21)⟩, ⟨some 23, some (20, false), .field 2 (.tmp 3)⟩, ⟨some 24, some (20, false), .load false 1 (.tmp 23)⟩, ⟨some 25, some (20, false), .bin .neq (.tmp 22) (.tmp 24)⟩, ⟨some 26, none, .pick (.tmp 20) (.const (.bool true)) (.tmp 25)⟩, ⟨some 27, none, .mov (.tmp 26)⟩, ⟨some 28, some (27, false), .field 3 (.tmp 2)⟩, ⟨some 29, some (27, false), .load false 1 (.tmp 28)⟩, ⟨some 30, some (27, false), .field 3 (.tmp 3)⟩, ⟨some 31, some (27, false), .load false 1 (.tmp 30)⟩, ⟨some 32, some (27, false), .bin .neq (.tmp 29) (.tmp 31)⟩, ⟨some 33, none, .pick (.tmp 27) (.const (.bool true)) (.tmp 32)⟩, ⟨some 34, none, .mov (.tmp 33)⟩, ⟨some 35, some (34, false), .field 4 (.tmp 2)⟩, ⟨some 36, some (34, false), .load false 1 (.tmp 35)⟩, ⟨some 37, some (34, false), .field 4 (.tmp 3)⟩, ⟨some 38, some (34, false), .load false 1 (.tmp 37)⟩, ⟨some 39, some (34, false), .bin .neq (.tmp 36) (.tmp 38)⟩, ⟨some 40, none, .pick (.tmp 34) (.const (.bool true)) (.tmp 39)⟩, ⟨some 41, none, .mov (.tmp 40)⟩, ⟨some 42, some (41, false), .field 5 (.tmp 2)⟩, ⟨some 43, some (41, false), .load false 1 (.tmp 42)⟩, ⟨some 44, some (41, false), .field 5 (.tmp 3)⟩, ⟨some 45, some (41, false), .load false 1 (.tmp 44)⟩, ⟨some 46, some (41, false), .bin .neq (.tmp 43) (.tmp 45)⟩, ⟨some 47, none, .pick (.tmp 41) (.const (.bool true)) (.tmp 46)⟩, ⟨some 48, none, .mov (.tmp 47)⟩, ⟨some 49, some (48, false), .field 6 (.tmp 2)⟩, ⟨some 50, some (48, false), .load false 1 (.tmp 49)⟩, ⟨some 51, some (48, false), .field 6 (.tmp 3)⟩, ⟨some 52, some (48, false), .load false 1 (.tmp 51)⟩, ⟨some 53, some (48, false), .bin .neq (.tmp 50) (.tmp 52)⟩, ⟨some 54, none, .pick (.tmp 48) (.const (.bool true)) (.tmp 53)⟩])
  (.cond (.tmp 54)
   (.seq (.region [⟨some 4, none, .mov (.const (.bool false))⟩])
   .ret)
   .skip))
  (.seq (.seq (.region [⟨some 5, none, .mov (.const (.int .i64 0))⟩])
  (.block 0 (.loop C56_1)))
  (.seq (.region [⟨some 4, none, .mov (.const (.bool true))⟩])
  .ret)))),
  [.tmp 4]⟩
theorem c56 : cprog Go.Proofs.Try.prog 56 = some C56 := by kernel_rfl
-- (*dustcart/dustcartref04.Model).Collect
def C57_1 : CCode := .seq (.seq (.region [⟨some 13, none, .mov (.tmp 5)⟩, ⟨some 14, none, .mov (.tmp 3)⟩, ⟨some 15, none, .len (.tmp 14)⟩, ⟨some 16, none, .bin .lss (.tmp 13) (.tmp 15)⟩])
    (.cond (.tmp 16)
     .skip
     (.exit 0)))
    (.seq (.block 1 (.seq (.region [⟨some 19, none, .mov (.tmp 0)⟩, ⟨some 20, none, .nilCheck (.tmp 19)⟩, ⟨some 21, none, .field 3 (.tmp 20)⟩, ⟨some 22, none, .load false 1 (.tmp 21)⟩, ⟨some 23, none, .mov (.tmp 5)⟩, ⟨some 24, none, .bin .sub (.tmp 23) (.const (.int .i64 1))⟩, ⟨some 25, none, .index 5 (.tmp 22) (.tmp 24)⟩, ⟨some 26, none, .load true 5 (.tmp 25)⟩, ⟨some 6, none, .new [.int .i64 0, .int .i64 0, .int .i64 0, .nilSlice, .nilSlice]⟩, ⟨none, none, .store 5 (.tmp 6) (.tmp 26)⟩])
     (.seq (.seq (.region [⟨some 27, none, .mov (.tmp 3)⟩, ⟨some 28, none, .mov (.tmp 5)⟩, ⟨some 29, none, .index 1 (.tmp 27) (.tmp 28)⟩, ⟨some 30, none, .load false 1 (.tmp 29)⟩, ⟨some 31, none, .not (.tmp 30)⟩, ⟨some 32, none, .mov (.tmp 31)⟩, ⟨some 33, some (32, false), .field 0 (.tmp 6)⟩, ⟨some 34, some (32, false), .field 2 (.tmp 33)⟩, ⟨some 35, some (32, false), .load false 1 (.tmp 34)⟩, ⟨some 36, some (32, false), .bin .neq (.tmp 35) (.const (.int .i64 1))⟩, ⟨some 37, some (32, false), .mov (.tmp 36)⟩, ⟨some 38, some (37, true), .field 0 (.tmp 6)⟩, ⟨some 39, some (37, true), .field 2 (.tmp 38)⟩, ⟨some 40, some (37, true), .load false 1 (.tmp 39)⟩, ⟨some 41, some (37, true), .bin .neq (.tmp 40) (.const (.int .i64 2))⟩, ⟨some 42, some (32, false), .pick (.tmp 37) (.tmp 41) (.const (.bool false))⟩, ⟨some 43, none, .pick (.tmp 32) (.const (.bool true)) (.tmp 42)⟩, ⟨some 44, none, .mov (.tmp 43)⟩, ⟨some 45, some (44, false), .mov (.tmp 3)⟩, ⟨some 46, some (44, false), .field 3 (.tmp 6)⟩, ⟨some 47, some (44, false), .load false 1 (.tmp 46)⟩, ⟨some 48, some (44, false), .index 1 (.tmp 47) (.const (.int .i64 0))⟩, ⟨some 49, some (44, false), .load false 1 (.tmp 48)⟩, ⟨some 50, some (44, false), .index 1 (.tmp 45) (.tmp 49)⟩, ⟨some 51, some (44, false), .load false 1 (.tmp 50)⟩, ⟨some 52, none, .pick (.tmp 44) (.const (.bool true)) (.tmp 51)⟩])
     (.cond (.tmp 52)
      (.exit 1)
      .skip))
     (.seq (.region [⟨some 53, none, .field 3 (.tmp 6)⟩, ⟨some 54, none, .load false 1 (.tmp 53)⟩, ⟨some 55, none, .index 1 (.tmp 54) (.const (.int .i64 0))⟩, ⟨some 56, none, .load false 1 (.tmp 55)⟩, ⟨some 57, none, .bin .neq (.tmp 56) (.const (.int .i64 0))⟩, ⟨some 7, none, .mov (.tmp 57)⟩])
     (.seq (.region [⟨some 58, none, .field 3 (.tmp 6)⟩, ⟨some 59, none, .load false 1 (.tmp 58)⟩, ⟨some 60, none, .index 1 (.tmp 59) (.const (.int .i64 0))⟩, ⟨none, none, .store 1 (.tmp 60) (.const (.int .i64 0))⟩])
     (.seq (.seq (.region [⟨some 61, none, .field 0 (.tmp 6)⟩, ⟨some 62, none, .field 2 (.tmp 61)⟩, ⟨some 63, none, .load false 1 (.tmp 62)⟩, ⟨some 64, none, .bin .eql (.tmp 63) (.const (.int .i64 2))⟩])
     (.cond (.tmp 64)
      (.seq (.region [⟨some 65, none, .mov (.tmp 7)⟩, ⟨some 66, none, .mov (.tmp 65)⟩, ⟨some 67, some (66, false), .field 3 (.tmp 6)⟩, ⟨some 68, some (66, false), .load false 1 (.tmp 67)⟩, ⟨some 69, some (66, false), .index 1 (.tmp 68) (.const (.int .i64 1))⟩, ⟨some 70, some (66, false), .load false 1 (.tmp 69)⟩, ⟨some 71, some (66, false), .bin .neq (.tmp 70) (.const (.int .i64 0))⟩, ⟨some 72, none, .pick (.tmp 66) (.const (.bool true)) (.tmp 71)⟩, ⟨some 7, none, .mov (.tmp 72)⟩])
      (.region [⟨some 73, none, .field 3 (.tmp 6)⟩, ⟨some 74, none, .load false 1 (.tmp 73)⟩, ⟨some 75, none, .index 1 (.tmp 74) (.const (.int .i64 1))⟩, ⟨none, none, .store 1 (.tmp 75) (.const (.int .i64 0))⟩]))
      .skip))
     (.seq (.region [⟨some 76, none, .mov (.tmp 7)⟩])
     (.cond (.tmp 76)
      (.region [⟨some 77, none, .mov (.tmp 4)⟩, ⟨some 78, none, .bin .add (.tmp 77) (.const (.int .i64 1))⟩, ⟨some 4, none, .mov (.tmp 78)⟩])
      .skip))))))))
    (.region [⟨some 17, none, .mov (.tmp 5)⟩, ⟨some 18, none, .bin .add (.tmp 17) (.const (.int .i64 1))⟩, ⟨some 5, none, .mov (.tmp 18)⟩]))
def C57 : CFunc := ⟨(.seq (.region [⟨some 2, none, .mov (.const (.int .i64 0))⟩])
  (.seq (.seq (.region [⟨some 8, none, .mov (.tmp 0)⟩, ⟨some 9, none, .call 54 [(.tmp 8)]⟩, ⟨some 10, none, .not (.tmp 9)⟩])
  (.cond (.tmp 10)
   (.seq (.region [⟨some 2, none, .mov (.const (.int .i64 0))⟩])
   .ret)
   .skip))
  (.seq (.region [⟨some 11, none, .mov (.tmp 0)⟩, ⟨some 12, none, .call 77 [(.tmp 11)]⟩, ⟨some 3, none, .mov (.tmp 12)⟩])
  (.seq (.region [⟨some 4, none, .mov (.const (.int .i64 0))⟩])
  (.seq (.seq (.region [⟨some 5, none, .mov (.const (.int .i64 1))⟩])
  (.block 0 (.loop C57_1)))
  (.seq (.region [⟨some 79, none, .mov (.tmp 4)⟩, ⟨some 2, none, .mov (.tmp 79)⟩])
  .ret)))))),
  [.tmp 2]⟩
theorem c57 : cprog Go.Proofs.Try.prog 57 = some C57 := by kernel_rfl
-- (*dustcart/dustcartref04.Model).Push
def C58 : CFunc := ⟨(.seq (.region [⟨some 4, none, .mov (.const (.int .i64 0))⟩])
  (.seq (.seq (.region [⟨some 5, none, .mov (.tmp 0)⟩, ⟨some 6, none, .call 54 [(.tmp 5)]⟩, ⟨some 7, none, .not (.tmp 6)⟩])
  (.cond (.tmp 7)
   (.seq (.region [⟨some 4, none, .mov (.const (.int .i64 5))⟩])
   .ret)
   .skip))
  (.seq (.seq (.region [⟨some 8, none, .mov (.tmp 0)⟩, ⟨some 9, none, .mov (.tmp 1)⟩, ⟨some 10, none, .call 78 [(.tmp 8), (.tmp 9)]⟩, ⟨some 11, none, .not (.tmp 10)⟩])
  (.cond (.tmp 11)
   (.seq (.region [⟨some 4, none, .mov (.const (.int .i64 4))⟩])
   .ret)
   .skip))
  (.seq (.seq (.region [⟨some 12, none, .mov (.tmp 0)⟩, ⟨some 13, none, .nilCheck (.tmp 12)⟩, ⟨some 14, none, .field 2 (.tmp 13)⟩, ⟨some 15, none, .load false 1 (.tmp 14)⟩, ⟨some 16, none, .len (.tmp 15)⟩, ⟨some 17, none, .bin .geq (.tmp 16) (.const (.int .i64 64))⟩])
  (.cond (.tmp 17)
   (.seq (.region [⟨some 4, none, .mov (.const (.int .i64 6))⟩])
   .ret)
   .skip))
  (.seq (.region [⟨some 18, none, .mov (.tmp 0)⟩, ⟨some 19, none, .mov (.tmp 0)⟩, ⟨some 20, none, .nilCheck (.tmp 19)⟩, ⟨some 21, none, .field 2 (.tmp 20)⟩, ⟨some 22, none, .load false 1 (.tmp 21)⟩, ⟨some 23, none, .mov (.tmp 1)⟩, ⟨some 24, none, .buildSlice 1 [.int .i64 0] 1 [(0, 1, (.tmp 23))]⟩, ⟨some 25, none, .append 1 (.tmp 22) (.tmp 24)⟩, ⟨some 26, none, .nilCheck (.tmp 18)⟩, ⟨some 27, none, .field 2 (.tmp 26)⟩, ⟨none, none, .store 1 (.tmp 27) (.tmp 25)⟩])
  (.seq (.region [⟨some 4, none, .mov (.const (.int .i64 0))⟩])
  .ret)))))),
  [.tmp 4]⟩
theorem c58 : cprog Go.Proofs.Try.prog 58 = some C58 := by kernel_rfl
-- (*dustcart/dustcartref04.Model).Pop
def C59 : CFunc := ⟨(.seq (.region [⟨some 2, none, .mov (.const (.int .i64 0))⟩, ⟨some 3, none, .mov (.const (.int .i64 0))⟩])
  (.seq (.seq (.region [⟨some 5, none, .mov (.tmp 0)⟩, ⟨some 6, none, .call 54 [(.tmp 5)]⟩, ⟨some 7, none, .not (.tmp 6)⟩])
  (.cond (.tmp 7)
   (.seq (.region [⟨some 2, none, .mov (.const (.int .i64 0))⟩, ⟨some 3, none, .mov (.const (.int .i64 5))⟩])
   .ret)
   .skip))
  (.seq (.seq (.region [⟨some 8, none, .mov (.tmp 0)⟩, ⟨some 9, none, .nilCheck (.tmp 8)⟩, ⟨some 10, none, .field 2 (.tmp 9)⟩, ⟨some 11, none, .load false 1 (.tmp 10)⟩, ⟨some 12, none, .len (.tmp 11)⟩, ⟨some 13, none, .bin .eql (.tmp 12) (.const (.int .i64 0))⟩])
  (.cond (.tmp 13)
   (.seq (.region [⟨some 2, none, .mov (.const (.int .i64 0))⟩, ⟨some 3, none, .mov (.const (.int .i64 4))⟩])
   .ret)
   .skip))
  (.seq (.region [⟨some 14, none, .mov (.tmp 0)⟩, ⟨some 15, none, .nilCheck (.tmp 14)⟩, ⟨some 16, none, .field 2 (.tmp 15)⟩, ⟨some 17, none, .load false 1 (.tmp 16)⟩, ⟨some 18, none, .index 1 (.tmp 17) (.const (.int .i64 0))⟩, ⟨some 19, none, .load false 1 (.tmp 18)⟩, ⟨some 4, none, .mov (.tmp 19)⟩])
  (.seq (.region [⟨some 20, none, .mov (.tmp 0)⟩, ⟨some 21, none, .buildSlice 1 [] 0 []⟩, ⟨some 22, none, .mov (.tmp 0)⟩, ⟨some 23, none, .nilCheck (.tmp 22)⟩, ⟨some 24, none, .field 2 (.tmp 23)⟩, ⟨some 25, none, .load false 1 (.tmp 24)⟩, ⟨some 26, none, .slice 1 (.tmp 25) (some (.const (.int .i64 1))) none none⟩, ⟨some 27, none, .append 1 (.tmp 21) (.tmp 26)⟩, ⟨some 28, none, .nilCheck (.tmp 20)⟩, ⟨some 29, none, .field 2 (.tmp 28)⟩, ⟨none, none, .store 1 (.tmp 29) (.tmp 27)⟩])
  (.seq (.region [⟨some 30, none, .mov (.tmp 4)⟩, ⟨some 2, none, .mov (.tmp 30)⟩, ⟨some 3, none, .mov (.const (.int .i64 0))⟩])
  .ret)))))),
  [.tmp 2, .tmp 3]⟩
theorem c59 : cprog Go.Proofs.Try.prog 59 = some C59 := by kernel_rfl
-- (*dustcart/dustcartref04.Model).SetRef
def C60 : CFunc := ⟨(.seq (.region [⟨some 8, none, .mov (.const (.int .i64 0))⟩])
  (.seq (.seq (.region [⟨some 10, none, .mov (.tmp 0)⟩, ⟨some 11, none, .mov (.tmp 1)⟩, ⟨some 12, none, .call 79 [(.tmp 10), (.tmp 11)]⟩, ⟨some 9, none, .mov (.tmp 12)⟩])
  (.seq (.region [⟨some 13, none, .mov (.tmp 9)⟩, ⟨some 14, none, .bin .neq (.tmp 13) (.const (.int .i64 0))⟩])
  (.cond (.tmp 14)
   (.seq (.region [⟨some 15, none, .mov (.tmp 9)⟩, ⟨some 8, none, .mov (.tmp 15)⟩])
   .ret)
   .skip)))
  (.seq (.seq (.region [⟨some 16, none, .mov (.tmp 2)⟩, ⟨some 17, none, .bin .lss (.tmp 16) (.const (.int .i64 0))⟩, ⟨some 18, none, .mov (.tmp 17)⟩, ⟨some 19, some (18, false), .mov (.tmp 2)⟩, ⟨some 20, some (18, false), .mov (.tmp 0)⟩, ⟨some 21, some (18, false), .nilCheck (.tmp 20)⟩, ⟨some 22, some (18, false), .field 3 (.tmp 21)⟩, ⟨some 23, some (18, false), .load false 1 (.tmp 22)⟩, ⟨some 24, some (18, false), .mov (.tmp 1)⟩, ⟨some 25, some (18, false), .bin .sub (.tmp 24) (.const (.int .i64 1))⟩, ⟨some 26, some (18, false), .index 5 (.tmp 23) (.tmp 25)⟩, ⟨some 27, some (18, false), .field 3 (.tmp 26)⟩, ⟨some 28, some (18, false), .load false 1 (.tmp 27)⟩, ⟨some 29, some (18, false), .len (.tmp 28)⟩, ⟨some 30, some (18, false), .bin .geq (.tmp 19) (.tmp 29)⟩, ⟨some 31, none, .pick (.tmp 18) (.const (.bool true)) (.tmp 30)⟩, ⟨some 32, none, .mov (.tmp 31)⟩, ⟨some 33, some (32, false), .mov (.tmp 3)⟩, ⟨some 34, some (32, false), .bin .neq (.tmp 33) (.const (.int .i64 0))⟩, ⟨some 35, some (32, false), .mov (.tmp 34)⟩, ⟨some 36, some (35, true), .mov (.tmp 0)⟩, ⟨some 37, some (35, true), .mov (.tmp 3)⟩, ⟨some 38, some (35, true), .call 78 [(.tmp 36), (.tmp 37)]⟩, ⟨some 39, some (35, true), .not (.tmp 38)⟩, ⟨some 40, some (32, false), .pick (.tmp 35) (.tmp 39) (.const (.bool false))⟩, ⟨some 41, none, .pick (.tmp 32) (.const (.bool true)) (.tmp 40)⟩])
  (.cond (.tmp 41)
   (.seq (.region [⟨some 8, none, .mov (.const (.int .i64 1))⟩])
   .ret)
   .skip))
  (.seq (.region [⟨some 42, none, .mov (.tmp 0)⟩, ⟨some 43, none, .nilCheck (.tmp 42)⟩, ⟨some 44, none, .field 3 (.tmp 43)⟩, ⟨some 45, none, .load false 1 (.tmp 44)⟩, ⟨some 46, none, .mov (.tmp 1)⟩, ⟨some 47, none, .bin .sub (.tmp 46) (.const (.int .i64 1))⟩, ⟨some 48, none, .index 5 (.tmp 45) (.tmp 47)⟩, ⟨some 49, none, .field 3 (.tmp 48)⟩, ⟨some 50, none, .load false 1 (.tmp 49)⟩, ⟨some 51, none, .mov (.tmp 2)⟩, ⟨some 52, none, .mov (.tmp 3)⟩, ⟨some 53, none, .index 1 (.tmp 50) (.tmp 51)⟩, ⟨none, none, .store 1 (.tmp 53) (.tmp 52)⟩])
  (.seq (.region [⟨some 8, none, .mov (.const (.int .i64 0))⟩])
  .ret))))),
  [.tmp 8]⟩
theorem c60 : cprog Go.Proofs.Try.prog 60 = some C60 := by kernel_rfl
-- (*dustcart/dustcartref04.Model).Mutators
def C61 : CFunc := ⟨(.seq (.region [⟨some 2, none, .mov (.const (.int .i64 0))⟩])
  (.seq (.seq (.region [⟨some 3, none, .mov (.tmp 0)⟩, ⟨some 4, none, .call 54 [(.tmp 3)]⟩, ⟨some 5, none, .not (.tmp 4)⟩])
  (.cond (.tmp 5)
   (.seq (.region [⟨some 2, none, .mov (.const (.int .i64 0))⟩])
   .ret)
   .skip))
  (.seq (.region [⟨some 6, none, .mov (.tmp 0)⟩, ⟨some 7, none, .nilCheck (.tmp 6)⟩, ⟨some 8, none, .field 0 (.tmp 7)⟩, ⟨some 9, none, .load false 1 (.tmp 8)⟩, ⟨some 10, none, .len (.tmp 9)⟩, ⟨some 2, none, .mov (.tmp 10)⟩])
  .ret))),
  [.tmp 2]⟩
theorem c61 : cprog Go.Proofs.Try.prog 61 = some C61 := by kernel_rfl
end Go.Cs.Try

/- The compiled functions of the seat, part 3. -/
namespace Go.Cs.Try
open Go Go.Cs
set_option maxRecDepth 100000
-- (*dustcart/dustcartref04.Model).Births
def C62 : CFunc := ⟨(.seq (.region [⟨some 2, none, .mov (.const (.int .i64 0))⟩])
  (.seq (.seq (.region [⟨some 3, none, .mov (.tmp 0)⟩, ⟨some 4, none, .call 54 [(.tmp 3)]⟩, ⟨some 5, none, .not (.tmp 4)⟩])
  (.cond (.tmp 5)
   (.seq (.region [⟨some 2, none, .mov (.const (.int .i64 0))⟩])
   .ret)
   .skip))
  (.seq (.region [⟨some 6, none, .mov (.tmp 0)⟩, ⟨some 7, none, .nilCheck (.tmp 6)⟩, ⟨some 8, none, .field 3 (.tmp 7)⟩, ⟨some 9, none, .load false 1 (.tmp 8)⟩, ⟨some 10, none, .len (.tmp 9)⟩, ⟨some 2, none, .mov (.tmp 10)⟩])
  .ret))),
  [.tmp 2]⟩
theorem c62 : cprog Go.Proofs.Try.prog 62 = some C62 := by kernel_rfl
-- (*dustcart/dustcartref04.Model).Queue
def C63 : CFunc := ⟨(.seq (.region [⟨some 2, none, .mov (.const (.nilSlice))⟩])
  (.seq (.seq (.region [⟨some 3, none, .mov (.tmp 0)⟩, ⟨some 4, none, .call 54 [(.tmp 3)]⟩, ⟨some 5, none, .not (.tmp 4)⟩])
  (.cond (.tmp 5)
   (.seq (.region [⟨some 2, none, .mov (.const (.nilSlice))⟩])
   .ret)
   .skip))
  (.seq (.region [⟨some 6, none, .buildSlice 1 [] 0 []⟩, ⟨some 7, none, .mov (.tmp 0)⟩, ⟨some 8, none, .nilCheck (.tmp 7)⟩, ⟨some 9, none, .field 2 (.tmp 8)⟩, ⟨some 10, none, .load false 1 (.tmp 9)⟩, ⟨some 11, none, .append 1 (.tmp 6) (.tmp 10)⟩, ⟨some 2, none, .mov (.tmp 11)⟩])
  .ret))),
  [.tmp 2]⟩
theorem c63 : cprog Go.Proofs.Try.prog 63 = some C63 := by kernel_rfl
-- (*dustcart/dustcartref04.Model).Kept
def C64_1 : CCode := .seq (.seq (.region [⟨some 12, none, .mov (.tmp 5)⟩, ⟨some 13, none, .mov (.tmp 4)⟩, ⟨some 14, none, .len (.tmp 13)⟩, ⟨some 15, none, .bin .lss (.tmp 12) (.tmp 14)⟩])
    (.cond (.tmp 15)
     .skip
     (.exit 0)))
    (.seq (.block 1 (.seq (.region [⟨some 18, none, .mov (.tmp 4)⟩, ⟨some 19, none, .mov (.tmp 5)⟩, ⟨some 20, none, .index 1 (.tmp 18) (.tmp 19)⟩, ⟨some 21, none, .load false 1 (.tmp 20)⟩])
     (.cond (.tmp 21)
      (.region [⟨some 22, none, .mov (.tmp 3)⟩, ⟨some 23, none, .mov (.tmp 5)⟩, ⟨some 24, none, .buildSlice 1 [.int .i64 0] 1 [(0, 1, (.tmp 23))]⟩, ⟨some 25, none, .append 1 (.tmp 22) (.tmp 24)⟩, ⟨some 3, none, .mov (.tmp 25)⟩])
      .skip)))
    (.region [⟨some 16, none, .mov (.tmp 5)⟩, ⟨some 17, none, .bin .add (.tmp 16) (.const (.int .i64 1))⟩, ⟨some 5, none, .mov (.tmp 17)⟩]))
def C64 : CFunc := ⟨(.seq (.region [⟨some 2, none, .mov (.const (.nilSlice))⟩])
  (.seq (.region [⟨some 3, none, .mov (.const (.nilSlice))⟩])
  (.seq (.seq (.region [⟨some 6, none, .mov (.tmp 0)⟩, ⟨some 7, none, .call 54 [(.tmp 6)]⟩, ⟨some 8, none, .not (.tmp 7)⟩])
  (.cond (.tmp 8)
   (.seq (.region [⟨some 9, none, .mov (.tmp 3)⟩, ⟨some 2, none, .mov (.tmp 9)⟩])
   .ret)
   .skip))
  (.seq (.region [⟨some 10, none, .mov (.tmp 0)⟩, ⟨some 11, none, .call 77 [(.tmp 10)]⟩, ⟨some 4, none, .mov (.tmp 11)⟩])
  (.seq (.seq (.region [⟨some 5, none, .mov (.const (.int .i64 1))⟩])
  (.block 0 (.loop C64_1)))
  (.seq (.region [⟨some 26, none, .mov (.tmp 3)⟩, ⟨some 2, none, .mov (.tmp 26)⟩])
  .ret)))))),
  [.tmp 2]⟩
theorem c64 : cprog Go.Proofs.Try.prog 64 = some C64 := by kernel_rfl
-- (*dustcart/dustcartref04.Model).Slot
def C65 : CFunc := ⟨(.seq (.region [⟨some 6, none, .mov (.const (.int .i64 0))⟩, ⟨some 7, none, .mov (.const (.int .i64 0))⟩])
  (.seq (.seq (.region [⟨some 8, none, .mov (.tmp 0)⟩, ⟨some 9, none, .call 54 [(.tmp 8)]⟩, ⟨some 10, none, .not (.tmp 9)⟩])
  (.cond (.tmp 10)
   (.seq (.region [⟨some 6, none, .mov (.const (.int .i64 0))⟩, ⟨some 7, none, .mov (.const (.int .i64 5))⟩])
   .ret)
   .skip))
  (.seq (.seq (.region [⟨some 11, none, .mov (.tmp 1)⟩, ⟨some 12, none, .bin .lss (.tmp 11) (.const (.int .i64 0))⟩, ⟨some 13, none, .mov (.tmp 12)⟩, ⟨some 14, some (13, false), .mov (.tmp 1)⟩, ⟨some 15, some (13, false), .mov (.tmp 0)⟩, ⟨some 16, some (13, false), .nilCheck (.tmp 15)⟩, ⟨some 17, some (13, false), .field 0 (.tmp 16)⟩, ⟨some 18, some (13, false), .load false 1 (.tmp 17)⟩, ⟨some 19, some (13, false), .len (.tmp 18)⟩, ⟨some 20, some (13, false), .bin .geq (.tmp 14) (.tmp 19)⟩, ⟨some 21, none, .pick (.tmp 13) (.const (.bool true)) (.tmp 20)⟩, ⟨some 22, none, .mov (.tmp 21)⟩, ⟨some 23, some (22, false), .mov (.tmp 2)⟩, ⟨some 24, some (22, false), .bin .lss (.tmp 23) (.const (.int .i64 0))⟩, ⟨some 25, none, .pick (.tmp 22) (.const (.bool true)) (.tmp 24)⟩, ⟨some 26, none, .mov (.tmp 25)⟩, ⟨some 27, some (26, false), .mov (.tmp 2)⟩, ⟨some 28, some (26, false), .bin .geq (.tmp 27) (.const (.int .i64 16))⟩, ⟨some 29, none, .pick (.tmp 26) (.const (.bool true)) (.tmp 28)⟩])
  (.cond (.tmp 29)
   (.seq (.region [⟨some 6, none, .mov (.const (.int .i64 0))⟩, ⟨some 7, none, .mov (.const (.int .i64 1))⟩])
   .ret)
   .skip))
  (.seq (.region [⟨some 30, none, .mov (.tmp 0)⟩, ⟨some 31, none, .nilCheck (.tmp 30)⟩, ⟨some 32, none, .field 0 (.tmp 31)⟩, ⟨some 33, none, .load false 1 (.tmp 32)⟩, ⟨some 34, none, .mov (.tmp 1)⟩, ⟨some 35, none, .index 1 (.tmp 33) (.tmp 34)⟩, ⟨some 36, none, .load false 1 (.tmp 35)⟩, ⟨some 37, none, .mov (.tmp 2)⟩, ⟨some 38, none, .index 1 (.tmp 36) (.tmp 37)⟩, ⟨some 39, none, .load false 1 (.tmp 38)⟩, ⟨some 6, none, .mov (.tmp 39)⟩, ⟨some 7, none, .mov (.const (.int .i64 0))⟩])
  .ret)))),
  [.tmp 6, .tmp 7]⟩
theorem c65 : cprog Go.Proofs.Try.prog 65 = some C65 := by kernel_rfl
-- (*dustcart/dustcartref04.Model).Global
def C66 : CFunc := ⟨(.seq (.region [⟨some 4, none, .mov (.const (.int .i64 0))⟩, ⟨some 5, none, .mov (.const (.int .i64 0))⟩])
  (.seq (.seq (.region [⟨some 6, none, .mov (.tmp 0)⟩, ⟨some 7, none, .call 54 [(.tmp 6)]⟩, ⟨some 8, none, .not (.tmp 7)⟩])
  (.cond (.tmp 8)
   (.seq (.region [⟨some 4, none, .mov (.const (.int .i64 0))⟩, ⟨some 5, none, .mov (.const (.int .i64 5))⟩])
   .ret)
   .skip))
  (.seq (.seq (.region [⟨some 9, none, .mov (.tmp 1)⟩, ⟨some 10, none, .bin .lss (.tmp 9) (.const (.int .i64 0))⟩, ⟨some 11, none, .mov (.tmp 10)⟩, ⟨some 12, some (11, false), .mov (.tmp 1)⟩, ⟨some 13, some (11, false), .bin .geq (.tmp 12) (.const (.int .i64 16))⟩, ⟨some 14, none, .pick (.tmp 11) (.const (.bool true)) (.tmp 13)⟩])
  (.cond (.tmp 14)
   (.seq (.region [⟨some 4, none, .mov (.const (.int .i64 0))⟩, ⟨some 5, none, .mov (.const (.int .i64 1))⟩])
   .ret)
   .skip))
  (.seq (.region [⟨some 15, none, .mov (.tmp 0)⟩, ⟨some 16, none, .nilCheck (.tmp 15)⟩, ⟨some 17, none, .field 1 (.tmp 16)⟩, ⟨some 18, none, .load false 1 (.tmp 17)⟩, ⟨some 19, none, .mov (.tmp 1)⟩, ⟨some 20, none, .index 1 (.tmp 18) (.tmp 19)⟩, ⟨some 21, none, .load false 1 (.tmp 20)⟩, ⟨some 4, none, .mov (.tmp 21)⟩, ⟨some 5, none, .mov (.const (.int .i64 0))⟩])
  .ret)))),
  [.tmp 4, .tmp 5]⟩
theorem c66 : cprog Go.Proofs.Try.prog 66 = some C66 := by kernel_rfl
-- (*dustcart/dustcartref04.Model).Shape
def C67 : CFunc := ⟨(.seq (.region [⟨some 4, none, .new [.int .i64 0, .int .i64 0, .int .i64 0]⟩, ⟨some 5, none, .mov (.const (.int .i64 0))⟩])
  (.seq (.seq (.region [⟨some 7, none, .mov (.tmp 0)⟩, ⟨some 8, none, .mov (.tmp 1)⟩, ⟨some 9, none, .call 79 [(.tmp 7), (.tmp 8)]⟩, ⟨some 6, none, .mov (.tmp 9)⟩])
  (.seq (.region [⟨some 10, none, .mov (.tmp 6)⟩, ⟨some 11, none, .bin .neq (.tmp 10) (.const (.int .i64 0))⟩])
  (.cond (.tmp 11)
   (.seq (.region [⟨some 12, none, .build [.int .i64 0, .int .i64 0, .int .i64 0] []⟩, ⟨some 13, none, .mov (.tmp 6)⟩, ⟨none, none, .store 3 (.tmp 4) (.tmp 12)⟩, ⟨some 5, none, .mov (.tmp 13)⟩])
   .ret)
   .skip)))
  (.seq (.region [⟨some 14, none, .mov (.tmp 0)⟩, ⟨some 15, none, .nilCheck (.tmp 14)⟩, ⟨some 16, none, .field 3 (.tmp 15)⟩, ⟨some 17, none, .load false 1 (.tmp 16)⟩, ⟨some 18, none, .mov (.tmp 1)⟩, ⟨some 19, none, .bin .sub (.tmp 18) (.const (.int .i64 1))⟩, ⟨some 20, none, .index 5 (.tmp 17) (.tmp 19)⟩, ⟨some 21, none, .field 0 (.tmp 20)⟩, ⟨some 22, none, .load true 3 (.tmp 21)⟩, ⟨none, none, .store 3 (.tmp 4) (.tmp 22)⟩, ⟨some 5, none, .mov (.const (.int .i64 0))⟩])
  .ret))),
  [.cell 4 true 3, .tmp 5]⟩
theorem c67 : cprog Go.Proofs.Try.prog 67 = some C67 := by kernel_rfl
-- (*dustcart/dustcartref04.Model).Ref
def C68 : CFunc := ⟨(.seq (.region [⟨some 6, none, .mov (.const (.int .i64 0))⟩, ⟨some 7, none, .mov (.const (.int .i64 0))⟩])
  (.seq (.seq (.region [⟨some 9, none, .mov (.tmp 0)⟩, ⟨some 10, none, .mov (.tmp 1)⟩, ⟨some 11, none, .call 79 [(.tmp 9), (.tmp 10)]⟩, ⟨some 8, none, .mov (.tmp 11)⟩])
  (.seq (.region [⟨some 12, none, .mov (.tmp 8)⟩, ⟨some 13, none, .bin .neq (.tmp 12) (.const (.int .i64 0))⟩])
  (.cond (.tmp 13)
   (.seq (.region [⟨some 14, none, .mov (.tmp 8)⟩, ⟨some 6, none, .mov (.const (.int .i64 0))⟩, ⟨some 7, none, .mov (.tmp 14)⟩])
   .ret)
   .skip)))
  (.seq (.seq (.region [⟨some 15, none, .mov (.tmp 2)⟩, ⟨some 16, none, .bin .lss (.tmp 15) (.const (.int .i64 0))⟩, ⟨some 17, none, .mov (.tmp 16)⟩, ⟨some 18, some (17, false), .mov (.tmp 2)⟩, ⟨some 19, some (17, false), .mov (.tmp 0)⟩, ⟨some 20, some (17, false), .nilCheck (.tmp 19)⟩, ⟨some 21, some (17, false), .field 3 (.tmp 20)⟩, ⟨some 22, some (17, false), .load false 1 (.tmp 21)⟩, ⟨some 23, some (17, false), .mov (.tmp 1)⟩, ⟨some 24, some (17, false), .bin .sub (.tmp 23) (.const (.int .i64 1))⟩, ⟨some 25, some (17, false), .index 5 (.tmp 22) (.tmp 24)⟩, ⟨some 26, some (17, false), .field 3 (.tmp 25)⟩, ⟨some 27, some (17, false), .load false 1 (.tmp 26)⟩, ⟨some 28, some (17, false), .len (.tmp 27)⟩, ⟨some 29, some (17, false), .bin .geq (.tmp 18) (.tmp 28)⟩, ⟨some 30, none, .pick (.tmp 17) (.const (.bool true)) (.tmp 29)⟩])
  (.cond (.tmp 30)
   (.seq (.region [⟨some 6, none, .mov (.const (.int .i64 0))⟩, ⟨some 7, none, .mov (.const (.int .i64 1))⟩])
   .ret)
   .skip))
  (.seq (.region [⟨some 31, none, .mov (.tmp 0)⟩, ⟨some 32, none, .nilCheck (.tmp 31)⟩, ⟨some 33, none, .field 3 (.tmp 32)⟩, ⟨some 34, none, .load false 1 (.tmp 33)⟩, ⟨some 35, none, .mov (.tmp 1)⟩, ⟨some 36, none, .bin .sub (.tmp 35) (.const (.int .i64 1))⟩, ⟨some 37, none, .index 5 (.tmp 34) (.tmp 36)⟩, ⟨some 38, none, .field 3 (.tmp 37)⟩, ⟨some 39, none, .load false 1 (.tmp 38)⟩, ⟨some 40, none, .mov (.tmp 2)⟩, ⟨some 41, none, .index 1 (.tmp 39) (.tmp 40)⟩, ⟨some 42, none, .load false 1 (.tmp 41)⟩, ⟨some 6, none, .mov (.tmp 42)⟩, ⟨some 7, none, .mov (.const (.int .i64 0))⟩])
  .ret)))),
  [.tmp 6, .tmp 7]⟩
theorem c68 : cprog Go.Proofs.Try.prog 68 = some C68 := by kernel_rfl
-- (*dustcart/dustcartref04.Model).Data
def C69 : CFunc := ⟨(.seq (.region [⟨some 6, none, .mov (.const (.int .i64 0))⟩, ⟨some 7, none, .mov (.const (.int .i64 0))⟩])
  (.seq (.seq (.region [⟨some 9, none, .mov (.tmp 0)⟩, ⟨some 10, none, .mov (.tmp 1)⟩, ⟨some 11, none, .call 79 [(.tmp 9), (.tmp 10)]⟩, ⟨some 8, none, .mov (.tmp 11)⟩])
  (.seq (.region [⟨some 12, none, .mov (.tmp 8)⟩, ⟨some 13, none, .bin .neq (.tmp 12) (.const (.int .i64 0))⟩])
  (.cond (.tmp 13)
   (.seq (.region [⟨some 14, none, .mov (.tmp 8)⟩, ⟨some 6, none, .mov (.const (.int .i64 0))⟩, ⟨some 7, none, .mov (.tmp 14)⟩])
   .ret)
   .skip)))
  (.seq (.seq (.region [⟨some 15, none, .mov (.tmp 2)⟩, ⟨some 16, none, .bin .lss (.tmp 15) (.const (.int .i64 0))⟩, ⟨some 17, none, .mov (.tmp 16)⟩, ⟨some 18, some (17, false), .mov (.tmp 2)⟩, ⟨some 19, some (17, false), .mov (.tmp 0)⟩, ⟨some 20, some (17, false), .nilCheck (.tmp 19)⟩, ⟨some 21, some (17, false), .field 3 (.tmp 20)⟩, ⟨some 22, some (17, false), .load false 1 (.tmp 21)⟩, ⟨some 23, some (17, false), .mov (.tmp 1)⟩, ⟨some 24, some (17, false), .bin .sub (.tmp 23) (.const (.int .i64 1))⟩, ⟨some 25, some (17, false), .index 5 (.tmp 22) (.tmp 24)⟩, ⟨some 26, some (17, false), .field 4 (.tmp 25)⟩, ⟨some 27, some (17, false), .load false 1 (.tmp 26)⟩, ⟨some 28, some (17, false), .len (.tmp 27)⟩, ⟨some 29, some (17, false), .bin .geq (.tmp 18) (.tmp 28)⟩, ⟨some 30, none, .pick (.tmp 17) (.const (.bool true)) (.tmp 29)⟩])
  (.cond (.tmp 30)
   (.seq (.region [⟨some 6, none, .mov (.const (.int .i64 0))⟩, ⟨some 7, none, .mov (.const (.int .i64 1))⟩])
   .ret)
   .skip))
  (.seq (.region [⟨some 31, none, .mov (.tmp 0)⟩, ⟨some 32, none, .nilCheck (.tmp 31)⟩, ⟨some 33, none, .field 3 (.tmp 32)⟩, ⟨some 34, none, .load false 1 (.tmp 33)⟩, ⟨some 35, none, .mov (.tmp 1)⟩, ⟨some 36, none, .bin .sub (.tmp 35) (.const (.int .i64 1))⟩, ⟨some 37, none, .index 5 (.tmp 34) (.tmp 36)⟩, ⟨some 38, none, .field 4 (.tmp 37)⟩, ⟨some 39, none, .load false 1 (.tmp 38)⟩, ⟨some 40, none, .mov (.tmp 2)⟩, ⟨some 41, none, .index 1 (.tmp 39) (.tmp 40)⟩, ⟨some 42, none, .load false 1 (.tmp 41)⟩, ⟨some 6, none, .mov (.tmp 42)⟩, ⟨some 7, none, .mov (.const (.int .i64 0))⟩])
  .ret)))),
  [.tmp 6, .tmp 7]⟩
theorem c69 : cprog Go.Proofs.Try.prog 69 = some C69 := by kernel_rfl
-- dustcart/model.ways
def C70 : CFunc := ⟨(.seq (.region [⟨some 0, none, .mov (.const (.nilSlice))⟩])
  (.seq (.region [⟨some 1, none, .build [.bool false, .nilFunc, .nilFunc, .nilFunc] [(0, 1, (.const (.bool false))), (1, 1, (.const (.func 80 []))), (2, 1, (.const (.func 80 []))), (3, 1, (.const (.func 81 [])))]⟩, ⟨some 2, none, .build [.bool false, .nilFunc, .nilFunc, .nilFunc] [(0, 1, (.const (.bool true))), (1, 1, (.const (.func 82 []))), (2, 1, (.const (.func 83 []))), (3, 1, (.const (.func 84 [])))]⟩, ⟨some 3, none, .build [.bool false, .nilFunc, .nilFunc, .nilFunc] [(0, 1, (.const (.bool true))), (1, 1, (.const (.func 86 []))), (2, 1, (.const (.func 87 []))), (3, 1, (.const (.func 88 [])))]⟩, ⟨some 4, none, .build [.bool false, .nilFunc, .nilFunc, .nilFunc] [(0, 1, (.const (.bool false))), (1, 1, (.const (.func 86 []))), (2, 1, (.const (.func 89 []))), (3, 1, (.const (.func 90 [])))]⟩, ⟨some 5, none, .build [.bool false, .nilFunc, .nilFunc, .nilFunc] [(0, 1, (.const (.bool false))), (1, 1, (.const (.func 86 []))), (2, 1, (.const (.func 89 []))), (3, 1, (.const (.func 91 [])))]⟩, ⟨some 6, none, .build [.bool false, .nilFunc, .nilFunc, .nilFunc] [(0, 1, (.const (.bool true))), (1, 1, (.const (.func 80 []))), (2, 1, (.const (.func 80 []))), (3, 1, (.const (.func 93 [])))]⟩, ⟨some 7, none, .build [.bool false, .nilFunc, .nilFunc, .nilFunc] [(0, 1, (.const (.bool false))), (1, 1, (.const (.func 80 []))), (2, 1, (.const (.func 80 []))), (3, 1, (.const (.func 94 [])))]⟩, ⟨some 8, none, .build [.bool false, .nilFunc, .nilFunc, .nilFunc] [(0, 1, (.const (.bool true))), (1, 1, (.const (.func 80 []))), (2, 1, (.const (.func 80 []))), (3, 1, (.const (.func 95 [])))]⟩, ⟨some 9, none, .build [.bool false, .nilFunc, .nilFunc, .nilFunc] [(0, 1, (.const (.bool false))), (1, 1, (.const (.func 80 []))), (2, 1, (.const (.func 80 []))), (3, 1, (.const (.func 96 [])))]⟩, ⟨some 10, none, .build [.bool false, .nilFunc, .nilFunc, .nilFunc] [(0, 1, (.const (.bool false))), (1, 1, (.const (.func 80 []))), (2, 1, (.const (.func 97 []))), (3, 1, (.const (.func 98 [])))]⟩, ⟨some 11, none, .build [.bool false, .nilFunc, .nilFunc, .nilFunc] [(0, 1, (.const (.bool false))), (1, 1, (.const (.func 80 []))), (2, 1, (.const (.func 97 []))), (3, 1, (.const (.func 99 [])))]⟩, ⟨some 12, none, .build [.bool false, .nilFunc, .nilFunc, .nilFunc] [(0, 1, (.const (.bool false))), (1, 1, (.const (.func 86 []))), (2, 1, (.const (.func 80 []))), (3, 1, (.const (.func 100 [])))]⟩, ⟨some 13, none, .buildSlice 4 [.bool false, .nilFunc, .nilFunc, .nilFunc, .bool false, .nilFunc, .nilFunc, .nilFunc, .bool false, .nilFunc, .nilFunc, .nilFunc, .bool false, .nilFunc, .nilFunc, .nilFunc, .bool false, .nilFunc, .nilFunc, .nilFunc, .bool false, .nilFunc, .nilFunc, .nilFunc, .bool false, .nilFunc, .nilFunc, .nilFunc, .bool false, .nilFunc, .nilFunc, .nilFunc, .bool false, .nilFunc, .nilFunc, .nilFunc, .bool false, .nilFunc, .nilFunc, .nilFunc, .bool false, .nilFunc, .nilFunc, .nilFunc, .bool false, .nilFunc, .nilFunc, .nilFunc] 12 [(0, 4, (.tmp 1)), (4, 4, (.tmp 2)), (8, 4, (.tmp 3)), (12, 4, (.tmp 4)), (16, 4, (.tmp 5)), (20, 4, (.tmp 6)), (24, 4, (.tmp 7)), (28, 4, (.tmp 8)), (32, 4, (.tmp 9)), (36, 4, (.tmp 10)), (40, 4, (.tmp 11)), (44, 4, (.tmp 12))]⟩, ⟨some 0, none, .mov (.tmp 13)⟩])
  .ret)),
  [.tmp 0]⟩
theorem c70 : cprog Go.Proofs.Try.prog 70 = some C70 := by kernel_rfl
-- dustcart/model.valid
def C71 : CFunc := ⟨(.seq (.region [⟨some 1, none, .box (.tmp 0)⟩, ⟨some 2, none, .mov (.const (.bool false))⟩])
  (.seq (.region [⟨some 3, none, .field 0 (.tmp 1)⟩, ⟨some 4, none, .load false 1 (.tmp 3)⟩, ⟨some 5, none, .bin .geq (.tmp 4) (.const (.int .i64 0))⟩, ⟨some 6, none, .mov (.tmp 5)⟩, ⟨some 7, some (6, true), .field 0 (.tmp 1)⟩, ⟨some 8, some (6, true), .load false 1 (.tmp 7)⟩, ⟨some 9, some (6, true), .bin .leq (.tmp 8) (.const (.int .i64 15))⟩, ⟨some 10, none, .pick (.tmp 6) (.tmp 9) (.const (.bool false))⟩, ⟨some 11, none, .mov (.tmp 10)⟩, ⟨some 12, some (11, true), .field 1 (.tmp 1)⟩, ⟨some 13, some (11, true), .load false 1 (.tmp 12)⟩, ⟨some 14, some (11, true), .bin .geq (.tmp 13) (.const (.int .i64 0))⟩, ⟨some 15, none, .pick (.tmp 11) (.tmp 14) (.const (.bool false))⟩, ⟨some 16, none, .mov (.tmp 15)⟩, ⟨some 17, some (16, true), .field 1 (.tmp 1)⟩, ⟨some 18, some (16, true), .load false 1 (.tmp 17)⟩, ⟨some 19, some (16, true), .bin .leq (.tmp 18) (.const (.int .i64 200))⟩, ⟨some 20, none, .pick (.tmp 16) (.tmp 19) (.const (.bool false))⟩, ⟨some 21, none, .mov (.tmp 20)⟩, ⟨some 22, some (21, true), .field 2 (.tmp 1)⟩, ⟨some 23, some (21, true), .load false 1 (.tmp 22)⟩, ⟨some 24, some (21, true), .bin .geq (.tmp 23) (.const (.int .i64 0))⟩, ⟨some 25, none, .pick (.tmp 21) (.tmp 24) (.const (.bool false))⟩, ⟨some 26, none, .mov (.tmp 25)⟩, ⟨some 27, some (26, true), .field 2 (.tmp 1)⟩, ⟨some 28, some (26, true), .load false 1 (.tmp 27)⟩, ⟨some 29, some (26, true), .bin .leq (.tmp 28) (.const (.int .i64 3))⟩, ⟨some 30, none, .pick (.tmp 26) (.tmp 29) (.const (.bool false))⟩, ⟨some 31, none, .mov (.tmp 30)⟩, ⟨some 32, some (31, true), .field 2 (.tmp 1)⟩, ⟨some 33, some (31, true), .load false 1 (.tmp 32)⟩, ⟨some 34, some (31, true), .bin .neq (.tmp 33) (.const (.int .i64 1))⟩, ⟨some 35, some (31, true), .mov (.tmp 34)⟩, ⟨some 36, some (35, false), .field 0 (.tmp 1)⟩, ⟨some 37, some (35, false), .load false 1 (.tmp 36)⟩, ⟨some 38, some (35, false), .bin .geq (.tmp 37) (.const (.int .i64 1))⟩, ⟨some 39, some (31, true), .pick (.tmp 35) (.const (.bool true)) (.tmp 38)⟩, ⟨some 40, none, .pick (.tmp 31) (.tmp 39) (.const (.bool false))⟩, ⟨some 41, none, .mov (.tmp 40)⟩, ⟨some 42, some (41, true), .field 2 (.tmp 1)⟩, ⟨some 43, some (41, true), .load false 1 (.tmp 42)⟩, ⟨some 44, some (41, true), .bin .neq (.tmp 43) (.const (.int .i64 2))⟩, ⟨some 45, some (41, true), .mov (.tmp 44)⟩, ⟨some 46, some (45, false), .field 0 (.tmp 1)⟩, ⟨some 47, some (45, false), .load false 1 (.tmp 46)⟩, ⟨some 48, some (45, false), .bin .geq (.tmp 47) (.const (.int .i64 2))⟩, ⟨some 49, some (41, true), .pick (.tmp 45) (.const (.bool true)) (.tmp 48)⟩, ⟨some 50, none, .pick (.tmp 41) (.tmp 49) (.const (.bool false))⟩, ⟨some 2, none, .mov (.tmp 50)⟩])
  .ret)),
  [.tmp 2]⟩
theorem c71 : cprog Go.Proofs.Try.prog 71 = some C71 := by kernel_rfl
-- (*dustcart/model.Model).kept$1
def C72 : CFunc := ⟨(.seq (.region [⟨some 4, none, .mov (.tmp 0)⟩, ⟨some 5, none, .bin .neq (.tmp 4) (.const (.int .i64 0))⟩, ⟨some 6, none, .mov (.tmp 5)⟩, ⟨some 7, some (6, true), .load false 1 (.tmp 1)⟩, ⟨some 8, some (6, true), .mov (.tmp 0)⟩, ⟨some 9, some (6, true), .index 1 (.tmp 7) (.tmp 8)⟩, ⟨some 10, some (6, true), .load false 1 (.tmp 9)⟩, ⟨some 11, some (6, true), .not (.tmp 10)⟩, ⟨some 12, none, .pick (.tmp 6) (.tmp 11) (.const (.bool false))⟩])
  (.cond (.tmp 12)
   (.seq (.region [⟨some 13, none, .load false 1 (.tmp 1)⟩, ⟨some 14, none, .mov (.tmp 0)⟩, ⟨some 15, none, .index 1 (.tmp 13) (.tmp 14)⟩, ⟨none, none, .store 1 (.tmp 15) (.const (.bool true))⟩])
   (.region [⟨some 16, none, .load false 1 (.tmp 2)⟩, ⟨some 17, none, .mov (.tmp 0)⟩, ⟨some 18, none, .buildSlice 1 [.int .i64 0] 1 [(0, 1, (.tmp 17))]⟩, ⟨some 19, none, .append 1 (.tmp 16) (.tmp 18)⟩, ⟨none, none, .store 1 (.tmp 2) (.tmp 19)⟩]))
   .skip)),
  []⟩
theorem c72 : cprog Go.Proofs.Try.prog 72 = some C72 := by kernel_rfl
-- slices.Clone[[][]int,[]int]
def C73 : CFunc := ⟨(.seq (.region [⟨some 2, none, .mov (.const (.nilSlice))⟩])
  (.seq (.seq (.region [⟨some 3, none, .mov (.tmp 0)⟩, ⟨some 4, none, .eqv false 2 (.tmp 3) (.const (.nilSlice))⟩])
  (.cond (.tmp 4)
   (.seq (.region [⟨some 2, none, .mov (.const (.nilSlice))⟩])
   .ret)
   .skip))
  (.seq (.region [⟨some 5, none, .buildSlice 1 [] 0 []⟩, ⟨some 6, none, .mov (.tmp 0)⟩, ⟨some 7, none, .append 1 (.tmp 5) (.tmp 6)⟩, ⟨some 2, none, .mov (.tmp 7)⟩])
  .ret))),
  [.tmp 2]⟩
theorem c73 : cprog Go.Proofs.Try.prog 73 = some C73 := by kernel_rfl
-- (*dustcart/model.Model).of
def C74 : CFunc := ⟨(.seq (.region [⟨some 4, none, .mov (.const (.nilPtr))⟩])
  (.seq (.region [⟨some 5, none, .mov (.tmp 0)⟩, ⟨some 6, none, .nilCheck (.tmp 5)⟩, ⟨some 7, none, .field 3 (.tmp 6)⟩, ⟨some 8, none, .load false 1 (.tmp 7)⟩, ⟨some 9, none, .mov (.tmp 1)⟩, ⟨some 10, none, .bin .sub (.tmp 9) (.const (.int .i64 1))⟩, ⟨some 11, none, .index 5 (.tmp 8) (.tmp 10)⟩, ⟨some 4, none, .mov (.tmp 11)⟩])
  .ret)),
  [.tmp 4]⟩
theorem c74 : cprog Go.Proofs.Try.prog 74 = some C74 := by kernel_rfl
-- slices.IndexFunc[[]int,int]
def C75_1 : CCode := .seq (.region [⟨some 9, none, .bin .lss (.tmp 8) (.tmp 7)⟩])
    (.seq (.cond (.tmp 9)
     .skip
     (.exit 0))
    (.seq (.block 1 (.seq (.region [⟨some 10, none, .mov (.tmp 8)⟩, ⟨some 5, none, .mov (.tmp 10)⟩])
     (.seq (.region [⟨some 11, none, .mov (.tmp 1)⟩, ⟨some 12, none, .mov (.tmp 0)⟩, ⟨some 13, none, .mov (.tmp 5)⟩, ⟨some 14, none, .index 1 (.tmp 12) (.tmp 13)⟩, ⟨some 15, none, .load false 1 (.tmp 14)⟩, ⟨some 16, none, .callv (.tmp 11) [(.tmp 15)]⟩])
     (.cond (.tmp 16)
      (.seq (.region [⟨some 17, none, .mov (.tmp 5)⟩, ⟨some 4, none, .mov (.tmp 17)⟩])
      .ret)
      .skip))))
    (.region [⟨some 18, none, .bin .add (.tmp 8) (.const (.int .i64 1))⟩, ⟨some 8, none, .mov (.tmp 18)⟩])))
def C75 : CFunc := ⟨(.seq (.region [⟨some 4, none, .mov (.const (.int .i64 0))⟩])
  (.seq (.seq (.region [⟨some 6, none, .mov (.tmp 0)⟩, ⟨some 7, none, .len (.tmp 6)⟩, ⟨some 8, none, .mov (.const (.int .i64 0))⟩])
  (.block 0 (.loop C75_1)))
  (.seq (.region [⟨some 4, none, .mov (.const (.int .i64 (-1)))⟩])
  .ret))),
  [.tmp 4]⟩
theorem c75 : cprog Go.Proofs.Try.prog 75 = some C75 := by kernel_rfl
-- (*dustcart/dustcartref04.Model).errors
def C76 : CFunc := ⟨(.seq (.region [⟨some 5, none, .box (.tmp 2)⟩, ⟨some 6, none, .mov (.const (.int .i64 0))⟩])
  (.seq (.seq (.dregion [⟨⟨some 11, none, .mov (.tmp 0)⟩, 0, 0, 0⟩, ⟨⟨some 12, none, .nilCheck (.tmp 11)⟩, 1, 0, 0⟩, ⟨⟨some 13, none, .field 0 (.tmp 12)⟩, 2, 0, 0⟩, ⟨⟨some 14, none, .load false 1 (.tmp 13)⟩, 3, 1, 0⟩, ⟨⟨some 15, none, .len (.tmp 14)⟩, 4, 0, 0⟩, ⟨⟨some 16, none, .mov (.tmp 1)⟩, 5, 0, 0⟩, ⟨⟨some 17, none, .load true 8 (.tmp 5)⟩, 6, 1, 0⟩, ⟨⟨some 18, none, .call 101 [(.tmp 15), (.tmp 16), (.tmp 17)]⟩, 7, 3, 0⟩, ⟨⟨some 7, none, .mov (.tmp 18)⟩, 8, 0, 1⟩])
  (.seq (.region [⟨some 19, none, .mov (.tmp 7)⟩, ⟨some 20, none, .bin .neq (.tmp 19) (.const (.int .i64 0))⟩])
  (.cond (.tmp 20)
   (.seq (.region [⟨some 21, none, .mov (.tmp 7)⟩, ⟨some 6, none, .mov (.tmp 21)⟩])
   .ret)
   .skip)))
  (.seq (.region [⟨some 8, none, .new [.int .i64 0, .int .i64 0, .int .i64 0]⟩])
  (.seq (.seq (.region [⟨some 22, none, .load true 8 (.tmp 5)⟩, ⟨some 23, none, .call 102 [(.tmp 22)]⟩, ⟨some 9, none, .mov (.tmp 23)⟩])
  (.seq (.region [⟨some 24, none, .mov (.tmp 9)⟩, ⟨some 25, none, .bin .geq (.tmp 24) (.const (.int .i64 0))⟩])
  (.cond (.tmp 25)
   (.seq (.region [⟨some 26, none, .mov (.tmp 0)⟩, ⟨some 27, none, .nilCheck (.tmp 26)⟩, ⟨some 28, none, .field 0 (.tmp 27)⟩, ⟨some 29, none, .load false 1 (.tmp 28)⟩, ⟨some 30, none, .mov (.tmp 1)⟩, ⟨some 31, none, .index 1 (.tmp 29) (.tmp 30)⟩, ⟨some 32, none, .load false 1 (.tmp 31)⟩, ⟨some 33, none, .mov (.tmp 9)⟩, ⟨some 34, none, .index 1 (.tmp 32) (.tmp 33)⟩, ⟨some 35, none, .load false 1 (.tmp 34)⟩, ⟨some 10, none, .mov (.tmp 35)⟩])
   (.seq (.seq (.region [⟨some 36, none, .mov (.tmp 10)⟩, ⟨some 37, none, .bin .eql (.tmp 36) (.const (.int .i64 0))⟩])
   (.cond (.tmp 37)
    (.seq (.region [⟨some 6, none, .mov (.const (.int .i64 7))⟩])
    .ret)
    .skip))
   (.region [⟨some 38, none, .mov (.tmp 0)⟩, ⟨some 39, none, .nilCheck (.tmp 38)⟩, ⟨some 40, none, .field 3 (.tmp 39)⟩, ⟨some 41, none, .load false 1 (.tmp 40)⟩, ⟨some 42, none, .mov (.tmp 10)⟩, ⟨some 43, none, .bin .sub (.tmp 42) (.const (.int .i64 1))⟩, ⟨some 44, none, .index 5 (.tmp 41) (.tmp 43)⟩, ⟨some 45, none, .field 0 (.tmp 44)⟩, ⟨some 46, none, .load true 3 (.tmp 45)⟩, ⟨none, none, .store 3 (.tmp 8) (.tmp 46)⟩])))
   .skip)))
  (.seq (.seq (.region [⟨some 47, none, .load true 8 (.tmp 5)⟩, ⟨some 48, none, .load true 3 (.tmp 8)⟩, ⟨some 49, none, .call 103 [(.tmp 47), (.tmp 48)]⟩, ⟨some 50, none, .not (.tmp 49)⟩])
  (.cond (.tmp 50)
   (.seq (.region [⟨some 6, none, .mov (.const (.int .i64 1))⟩])
   .ret)
   .skip))
  (.seq (.region [⟨some 6, none, .mov (.const (.int .i64 0))⟩])
  .ret)))))),
  [.tmp 6]⟩
theorem c76 : cprog Go.Proofs.Try.prog 76 = some C76 := by kernel_rfl
-- (*dustcart/dustcartref04.Model).kept
def C77_1 : CCode := .seq (.seq (.region [⟨some 111, none, .mov (.tmp 11)⟩, ⟨some 112, none, .field 3 (.tmp 10)⟩, ⟨some 113, none, .load false 1 (.tmp 112)⟩, ⟨some 114, none, .len (.tmp 113)⟩, ⟨some 115, none, .bin .lss (.tmp 111) (.tmp 114)⟩])
          (.cond (.tmp 115)
           .skip
           (.exit 12)))
          (.seq (.block 13 (.seq (.region [⟨some 118, none, .field 3 (.tmp 10)⟩, ⟨some 119, none, .load false 1 (.tmp 118)⟩, ⟨some 120, none, .mov (.tmp 11)⟩, ⟨some 121, none, .index 1 (.tmp 119) (.tmp 120)⟩, ⟨some 122, none, .load false 1 (.tmp 121)⟩, ⟨some 12, none, .mov (.tmp 122)⟩])
           (.seq (.seq (.region [⟨some 123, none, .mov (.tmp 12)⟩, ⟨some 124, none, .bin .eql (.tmp 123) (.const (.int .i64 0))⟩, ⟨some 125, none, .mov (.tmp 124)⟩, ⟨some 126, some (125, false), .mov (.tmp 3)⟩, ⟨some 127, some (125, false), .mov (.tmp 12)⟩, ⟨some 128, some (125, false), .index 1 (.tmp 126) (.tmp 127)⟩, ⟨some 129, some (125, false), .load false 1 (.tmp 128)⟩, ⟨some 130, none, .pick (.tmp 125) (.const (.bool true)) (.tmp 129)⟩])
           (.cond (.tmp 130)
            (.exit 13)
            .skip))
           (.seq (.region [⟨some 131, none, .field 0 (.tmp 10)⟩, ⟨some 132, none, .load true 3 (.tmp 131)⟩, ⟨some 133, none, .mov (.tmp 11)⟩, ⟨some 134, none, .call 49 [(.tmp 132), (.tmp 133)]⟩, ⟨some 135, none, .mov (.tmp 134)⟩, ⟨some 136, some (135, false), .field 0 (.tmp 10)⟩, ⟨some 137, some (135, false), .field 2 (.tmp 136)⟩, ⟨some 138, some (135, false), .load false 1 (.tmp 137)⟩, ⟨some 139, some (135, false), .bin .eql (.tmp 138) (.const (.int .i64 2))⟩, ⟨some 140, some (135, false), .mov (.tmp 139)⟩, ⟨some 141, some (140, true), .mov (.tmp 11)⟩, ⟨some 142, some (140, true), .bin .eql (.tmp 141) (.const (.int .i64 1))⟩, ⟨some 143, some (135, false), .pick (.tmp 140) (.tmp 142) (.const (.bool false))⟩, ⟨some 144, some (135, false), .mov (.tmp 143)⟩, ⟨some 145, some (144, true), .mov (.tmp 3)⟩, ⟨some 146, some (144, true), .field 3 (.tmp 10)⟩, ⟨some 147, some (144, true), .load false 1 (.tmp 146)⟩, ⟨some 148, some (144, true), .index 1 (.tmp 147) (.const (.int .i64 0))⟩, ⟨some 149, some (144, true), .load false 1 (.tmp 148)⟩, ⟨some 150, some (144, true), .index 1 (.tmp 145) (.tmp 149)⟩, ⟨some 151, some (144, true), .load false 1 (.tmp 150)⟩, ⟨some 152, some (135, false), .pick (.tmp 144) (.tmp 151) (.const (.bool false))⟩, ⟨some 153, none, .pick (.tmp 135) (.const (.bool true)) (.tmp 152)⟩])
           (.cond (.tmp 153)
            (.seq (.region [⟨some 154, none, .mov (.tmp 3)⟩, ⟨some 155, none, .mov (.tmp 12)⟩, ⟨some 156, none, .index 1 (.tmp 154) (.tmp 155)⟩, ⟨none, none, .store 1 (.tmp 156) (.const (.bool true))⟩])
            (.region [⟨some 8, none, .mov (.const (.bool true))⟩]))
            .skip)))))
          (.region [⟨some 116, none, .mov (.tmp 11)⟩, ⟨some 117, none, .bin .add (.tmp 116) (.const (.int .i64 1))⟩, ⟨some 11, none, .mov (.tmp 117)⟩]))
def C77_2 : CCode := .seq (.seq (.region [⟨some 92, none, .mov (.tmp 9)⟩, ⟨some 93, none, .mov (.tmp 3)⟩, ⟨some 94, none, .len (.tmp 93)⟩, ⟨some 95, none, .bin .lss (.tmp 92) (.tmp 94)⟩])
       (.cond (.tmp 95)
        .skip
        (.exit 10)))
       (.seq (.block 11 (.seq (.seq (.region [⟨some 98, none, .mov (.tmp 3)⟩, ⟨some 99, none, .mov (.tmp 9)⟩, ⟨some 100, none, .index 1 (.tmp 98) (.tmp 99)⟩, ⟨some 101, none, .load false 1 (.tmp 100)⟩, ⟨some 102, none, .not (.tmp 101)⟩])
        (.cond (.tmp 102)
         (.exit 11)
         .skip))
        (.seq (.region [⟨some 103, none, .mov (.tmp 0)⟩, ⟨some 104, none, .nilCheck (.tmp 103)⟩, ⟨some 105, none, .field 3 (.tmp 104)⟩, ⟨some 106, none, .load false 1 (.tmp 105)⟩, ⟨some 107, none, .mov (.tmp 9)⟩, ⟨some 108, none, .bin .sub (.tmp 107) (.const (.int .i64 1))⟩, ⟨some 109, none, .index 5 (.tmp 106) (.tmp 108)⟩, ⟨some 110, none, .load true 5 (.tmp 109)⟩, ⟨some 10, none, .new [.int .i64 0, .int .i64 0, .int .i64 0, .nilSlice, .nilSlice]⟩, ⟨none, none, .store 5 (.tmp 10) (.tmp 110)⟩])
        (.seq (.region [⟨some 11, none, .mov (.const (.int .i64 0))⟩])
        (.block 12 (.loop C77_1))))))
       (.region [⟨some 96, none, .mov (.tmp 9)⟩, ⟨some 97, none, .bin .add (.tmp 96) (.const (.int .i64 1))⟩, ⟨some 9, none, .mov (.tmp 97)⟩]))
def C77_3 : CCode := .seq (.seq (.region [⟨some 91, none, .mov (.tmp 8)⟩])
    (.cond (.tmp 91)
     .skip
     (.exit 8)))
    (.block 9 (.seq (.region [⟨some 8, none, .mov (.const (.bool false))⟩])
     (.seq (.region [⟨some 9, none, .mov (.const (.int .i64 1))⟩])
     (.block 10 (.loop C77_2)))))
def C77_4 : CCode := .seq (.seq (.region [⟨some 71, none, .mov (.tmp 7)⟩, ⟨some 72, none, .mov (.tmp 0)⟩, ⟨some 73, none, .nilCheck (.tmp 72)⟩, ⟨some 74, none, .field 2 (.tmp 73)⟩, ⟨some 75, none, .load false 1 (.tmp 74)⟩, ⟨some 76, none, .len (.tmp 75)⟩, ⟨some 77, none, .bin .lss (.tmp 71) (.tmp 76)⟩])
    (.cond (.tmp 77)
     .skip
     (.exit 6)))
    (.seq (.block 7 (.region [⟨some 80, none, .mov (.tmp 3)⟩, ⟨some 81, none, .mov (.tmp 0)⟩, ⟨some 82, none, .nilCheck (.tmp 81)⟩, ⟨some 83, none, .field 2 (.tmp 82)⟩, ⟨some 84, none, .load false 1 (.tmp 83)⟩, ⟨some 85, none, .mov (.tmp 7)⟩, ⟨some 86, none, .index 1 (.tmp 84) (.tmp 85)⟩, ⟨some 87, none, .load false 1 (.tmp 86)⟩, ⟨some 88, none, .index 1 (.tmp 80) (.tmp 87)⟩, ⟨none, none, .store 1 (.tmp 88) (.const (.bool true))⟩]))
    (.region [⟨some 78, none, .mov (.tmp 7)⟩, ⟨some 79, none, .bin .add (.tmp 78) (.const (.int .i64 1))⟩, ⟨some 7, none, .mov (.tmp 79)⟩]))
def C77_5 : CCode := .seq (.seq (.region [⟨some 53, none, .mov (.tmp 6)⟩, ⟨some 54, none, .mov (.tmp 0)⟩, ⟨some 55, none, .nilCheck (.tmp 54)⟩, ⟨some 56, none, .field 1 (.tmp 55)⟩, ⟨some 57, none, .load false 1 (.tmp 56)⟩, ⟨some 58, none, .len (.tmp 57)⟩, ⟨some 59, none, .bin .lss (.tmp 53) (.tmp 58)⟩])
    (.cond (.tmp 59)
     .skip
     (.exit 4)))
    (.seq (.block 5 (.region [⟨some 62, none, .mov (.tmp 3)⟩, ⟨some 63, none, .mov (.tmp 0)⟩, ⟨some 64, none, .nilCheck (.tmp 63)⟩, ⟨some 65, none, .field 1 (.tmp 64)⟩, ⟨some 66, none, .load false 1 (.tmp 65)⟩, ⟨some 67, none, .mov (.tmp 6)⟩, ⟨some 68, none, .index 1 (.tmp 66) (.tmp 67)⟩, ⟨some 69, none, .load false 1 (.tmp 68)⟩, ⟨some 70, none, .index 1 (.tmp 62) (.tmp 69)⟩, ⟨none, none, .store 1 (.tmp 70) (.const (.bool true))⟩]))
    (.region [⟨some 60, none, .mov (.tmp 6)⟩, ⟨some 61, none, .bin .add (.tmp 60) (.const (.int .i64 1))⟩, ⟨some 6, none, .mov (.tmp 61)⟩]))
def C77_6 : CCode := .seq (.seq (.region [⟨some 29, none, .mov (.tmp 5)⟩, ⟨some 30, none, .mov (.tmp 0)⟩, ⟨some 31, none, .nilCheck (.tmp 30)⟩, ⟨some 32, none, .field 0 (.tmp 31)⟩, ⟨some 33, none, .load false 1 (.tmp 32)⟩, ⟨some 34, none, .mov (.tmp 4)⟩, ⟨some 35, none, .index 1 (.tmp 33) (.tmp 34)⟩, ⟨some 36, none, .load false 1 (.tmp 35)⟩, ⟨some 37, none, .len (.tmp 36)⟩, ⟨some 38, none, .bin .lss (.tmp 29) (.tmp 37)⟩])
       (.cond (.tmp 38)
        .skip
        (.exit 2)))
       (.seq (.block 3 (.region [⟨some 41, none, .mov (.tmp 3)⟩, ⟨some 42, none, .mov (.tmp 0)⟩, ⟨some 43, none, .nilCheck (.tmp 42)⟩, ⟨some 44, none, .field 0 (.tmp 43)⟩, ⟨some 45, none, .load false 1 (.tmp 44)⟩, ⟨some 46, none, .mov (.tmp 4)⟩, ⟨some 47, none, .index 1 (.tmp 45) (.tmp 46)⟩, ⟨some 48, none, .load false 1 (.tmp 47)⟩, ⟨some 49, none, .mov (.tmp 5)⟩, ⟨some 50, none, .index 1 (.tmp 48) (.tmp 49)⟩, ⟨some 51, none, .load false 1 (.tmp 50)⟩, ⟨some 52, none, .index 1 (.tmp 41) (.tmp 51)⟩, ⟨none, none, .store 1 (.tmp 52) (.const (.bool true))⟩]))
       (.region [⟨some 39, none, .mov (.tmp 5)⟩, ⟨some 40, none, .bin .add (.tmp 39) (.const (.int .i64 1))⟩, ⟨some 5, none, .mov (.tmp 40)⟩]))
def C77_7 : CCode := .seq (.seq (.region [⟨some 20, none, .mov (.tmp 4)⟩, ⟨some 21, none, .mov (.tmp 0)⟩, ⟨some 22, none, .nilCheck (.tmp 21)⟩, ⟨some 23, none, .field 0 (.tmp 22)⟩, ⟨some 24, none, .load false 1 (.tmp 23)⟩, ⟨some 25, none, .len (.tmp 24)⟩, ⟨some 26, none, .bin .lss (.tmp 20) (.tmp 25)⟩])
    (.cond (.tmp 26)
     .skip
     (.exit 0)))
    (.seq (.block 1 (.seq (.region [⟨some 5, none, .mov (.const (.int .i64 0))⟩])
     (.block 2 (.loop C77_6))))
    (.region [⟨some 27, none, .mov (.tmp 4)⟩, ⟨some 28, none, .bin .add (.tmp 27) (.const (.int .i64 1))⟩, ⟨some 4, none, .mov (.tmp 28)⟩]))
def C77 : CFunc := ⟨(.seq (.region [⟨some 2, none, .mov (.const (.nilSlice))⟩])
  (.seq (.region [⟨some 13, none, .mov (.tmp 0)⟩, ⟨some 14, none, .nilCheck (.tmp 13)⟩, ⟨some 15, none, .field 3 (.tmp 14)⟩, ⟨some 16, none, .load false 1 (.tmp 15)⟩, ⟨some 17, none, .len (.tmp 16)⟩, ⟨some 18, none, .bin .add (.tmp 17) (.const (.int .i64 1))⟩, ⟨some 19, none, .makeSlice 1 [.bool false] (.tmp 18) (.tmp 18)⟩, ⟨some 3, none, .mov (.tmp 19)⟩])
  (.seq (.seq (.region [⟨some 4, none, .mov (.const (.int .i64 0))⟩])
  (.block 0 (.loop C77_7)))
  (.seq (.seq (.region [⟨some 6, none, .mov (.const (.int .i64 0))⟩])
  (.block 4 (.loop C77_5)))
  (.seq (.seq (.region [⟨some 7, none, .mov (.const (.int .i64 0))⟩])
  (.block 6 (.loop C77_4)))
  (.seq (.region [⟨some 89, none, .mov (.tmp 3)⟩, ⟨some 90, none, .index 1 (.tmp 89) (.const (.int .i64 0))⟩, ⟨none, none, .store 1 (.tmp 90) (.const (.bool false))⟩])
  (.seq (.seq (.region [⟨some 8, none, .mov (.const (.bool true))⟩])
  (.block 8 (.loop C77_3)))
  (.seq (.region [⟨some 157, none, .mov (.tmp 3)⟩, ⟨some 2, none, .mov (.tmp 157)⟩])
  .ret)))))))),
  [.tmp 2]⟩
theorem c77 : cprog Go.Proofs.Try.prog 77 = some C77 := by kernel_rfl
-- (*dustcart/dustcartref04.Model).has
def C78 : CFunc := ⟨(.seq (.region [⟨some 4, none, .mov (.const (.bool false))⟩])
  (.seq (.region [⟨some 5, none, .mov (.tmp 1)⟩, ⟨some 6, none, .bin .geq (.tmp 5) (.const (.int .i64 1))⟩, ⟨some 7, none, .mov (.tmp 6)⟩, ⟨some 8, some (7, true), .mov (.tmp 1)⟩, ⟨some 9, some (7, true), .mov (.tmp 0)⟩, ⟨some 10, some (7, true), .nilCheck (.tmp 9)⟩, ⟨some 11, some (7, true), .field 3 (.tmp 10)⟩, ⟨some 12, some (7, true), .load false 1 (.tmp 11)⟩, ⟨some 13, some (7, true), .len (.tmp 12)⟩, ⟨some 14, some (7, true), .bin .leq (.tmp 8) (.tmp 13)⟩, ⟨some 15, none, .pick (.tmp 7) (.tmp 14) (.const (.bool false))⟩, ⟨some 4, none, .mov (.tmp 15)⟩])
  .ret)),
  [.tmp 4]⟩
theorem c78 : cprog Go.Proofs.Try.prog 78 = some C78 := by kernel_rfl
-- (*dustcart/dustcartref04.Model).lacks
def C79 : CFunc := ⟨(.seq (.region [⟨some 4, none, .mov (.const (.int .i64 0))⟩])
  (.seq (.seq (.region [⟨some 5, none, .mov (.tmp 0)⟩, ⟨some 6, none, .call 54 [(.tmp 5)]⟩, ⟨some 7, none, .not (.tmp 6)⟩])
  (.cond (.tmp 7)
   (.seq (.region [⟨some 4, none, .mov (.const (.int .i64 5))⟩])
   .ret)
   .skip))
  (.seq (.seq (.region [⟨some 8, none, .mov (.tmp 0)⟩, ⟨some 9, none, .mov (.tmp 1)⟩, ⟨some 10, none, .call 78 [(.tmp 8), (.tmp 9)]⟩, ⟨some 11, none, .not (.tmp 10)⟩])
  (.cond (.tmp 11)
   (.seq (.region [⟨some 4, none, .mov (.const (.int .i64 4))⟩])
   .ret)
   .skip))
  (.seq (.region [⟨some 4, none, .mov (.const (.int .i64 0))⟩])
  .ret)))),
  [.tmp 4]⟩
theorem c79 : cprog Go.Proofs.Try.prog 79 = some C79 := by kernel_rfl
-- dustcart/model.none
def C80 : CFunc := ⟨(.seq (.region [⟨some 2, none, .mov (.const (.int .i64 0))⟩])
  (.seq (.region [⟨some 2, none, .mov (.const (.int .i64 (-1)))⟩])
  .ret)),
  [.tmp 2]⟩
theorem c80 : cprog Go.Proofs.Try.prog 80 = some C80 := by kernel_rfl
-- (*dustcart/model.act).born
def C81 : CFunc := ⟨(.seq (.region [⟨some 2, none, .new [.nilSlice, .int .i64 0, .int .i64 0, .int .i64 0, .int .i64 0, .int .i64 0, .int .i64 0]⟩])
  (.seq (.region [⟨some 4, none, .mov (.tmp 0)⟩, ⟨some 5, none, .nilCheck (.tmp 4)⟩, ⟨some 6, none, .field 0 (.tmp 5)⟩, ⟨some 7, none, .field 5 (.tmp 6)⟩, ⟨some 8, none, .load true 3 (.tmp 7)⟩, ⟨some 3, none, .new [.int .i64 0, .int .i64 0, .int .i64 0]⟩, ⟨none, none, .store 3 (.tmp 3) (.tmp 8)⟩])
  (.seq (.dregion [⟨⟨some 13, none, .mov (.tmp 0)⟩, 4, 0, 0⟩, ⟨⟨some 14, none, .nilCheck (.tmp 13)⟩, 5, 0, 0⟩, ⟨⟨some 15, none, .field 8 (.tmp 14)⟩, 6, 0, 0⟩, ⟨⟨some 16, none, .load false 1 (.tmp 15)⟩, 7, 1, 0⟩, ⟨⟨some 17, none, .nilCheck (.tmp 16)⟩, 8, 0, 0⟩, ⟨⟨some 18, none, .field 3 (.tmp 17)⟩, 9, 0, 0⟩, ⟨⟨some 19, none, .load false 1 (.tmp 18)⟩, 10, 1, 0⟩, ⟨⟨some 20, none, .load true 3 (.tmp 3)⟩, 11, 1, 0⟩, ⟨⟨some 21, none, .field 0 (.tmp 3)⟩, 12, 0, 0⟩, ⟨⟨some 22, none, .load false 1 (.tmp 21)⟩, 13, 1, 0⟩, ⟨⟨some 23, none, .makeSlice 1 [.int .i64 0] (.tmp 22) (.tmp 22)⟩, 14, 0, 0⟩, ⟨⟨some 24, none, .field 1 (.tmp 3)⟩, 15, 0, 0⟩, ⟨⟨some 25, none, .load false 1 (.tmp 24)⟩, 16, 1, 0⟩, ⟨⟨some 26, none, .makeSlice 1 [.int .i64 0] (.tmp 25) (.tmp 25)⟩, 17, 0, 0⟩, ⟨⟨some 27, none, .build [.int .i64 0, .int .i64 0, .int .i64 0, .nilSlice, .nilSlice] [(0, 3, (.tmp 20)), (3, 1, (.tmp 23)), (4, 1, (.tmp 26))]⟩, 18, 0, 0⟩, ⟨⟨some 28, none, .buildSlice 5 [.int .i64 0, .int .i64 0, .int .i64 0, .nilSlice, .nilSlice] 1 [(0, 5, (.tmp 27))]⟩, 19, 0, 0⟩, ⟨⟨some 29, none, .append 5 (.tmp 19) (.tmp 28)⟩, 20, 3, 0⟩, ⟨⟨some 9, none, .mov (.tmp 0)⟩, 0, 0, 0⟩, ⟨⟨some 10, none, .nilCheck (.tmp 9)⟩, 1, 0, 0⟩, ⟨⟨some 11, none, .field 8 (.tmp 10)⟩, 2, 0, 0⟩, ⟨⟨some 12, none, .load false 1 (.tmp 11)⟩, 3, 1, 0⟩, ⟨⟨some 30, none, .nilCheck (.tmp 12)⟩, 21, 0, 1⟩, ⟨⟨some 31, none, .field 3 (.tmp 30)⟩, 22, 0, 1⟩, ⟨⟨none, none, .store 1 (.tmp 31) (.tmp 29)⟩, 23, 3, 1⟩])
  (.seq (.dregion [⟨⟨some 32, none, .mov (.tmp 0)⟩, 0, 0, 0⟩, ⟨⟨some 33, none, .nilCheck (.tmp 32)⟩, 1, 0, 0⟩, ⟨⟨some 34, none, .field 9 (.tmp 33)⟩, 2, 0, 0⟩, ⟨⟨some 35, none, .load false 1 (.tmp 34)⟩, 3, 1, 0⟩, ⟨⟨some 36, none, .mov (.tmp 0)⟩, 4, 0, 0⟩, ⟨⟨some 37, none, .nilCheck (.tmp 36)⟩, 5, 0, 0⟩, ⟨⟨some 38, none, .field 0 (.tmp 37)⟩, 6, 0, 0⟩, ⟨⟨some 39, none, .field 1 (.tmp 38)⟩, 7, 0, 0⟩, ⟨⟨some 40, none, .load false 1 (.tmp 39)⟩, 8, 1, 0⟩, ⟨⟨some 41, none, .mov (.tmp 0)⟩, 9, 0, 0⟩, ⟨⟨some 42, none, .nilCheck (.tmp 41)⟩, 10, 0, 0⟩, ⟨⟨some 43, none, .field 8 (.tmp 42)⟩, 11, 0, 0⟩, ⟨⟨some 44, none, .load false 1 (.tmp 43)⟩, 12, 1, 0⟩, ⟨⟨some 45, none, .nilCheck (.tmp 44)⟩, 13, 0, 0⟩, ⟨⟨some 46, none, .field 3 (.tmp 45)⟩, 14, 0, 0⟩, ⟨⟨some 47, none, .load false 1 (.tmp 46)⟩, 15, 1, 0⟩, ⟨⟨some 48, none, .len (.tmp 47)⟩, 16, 0, 0⟩, ⟨⟨some 49, none, .index 1 (.tmp 35) (.tmp 40)⟩, 17, 0, 0⟩, ⟨⟨none, none, .store 1 (.tmp 49) (.tmp 48)⟩, 18, 3, 0⟩])
  (.seq (.region [⟨some 50, none, .mov (.tmp 0)⟩, ⟨some 51, none, .nilCheck (.tmp 50)⟩, ⟨some 52, none, .field 8 (.tmp 51)⟩, ⟨some 53, none, .load false 1 (.tmp 52)⟩, ⟨some 54, none, .nilCheck (.tmp 53)⟩, ⟨some 55, none, .field 3 (.tmp 54)⟩, ⟨some 56, none, .load false 1 (.tmp 55)⟩, ⟨some 57, none, .len (.tmp 56)⟩, ⟨some 58, none, .build [.nilSlice, .int .i64 0, .int .i64 0, .int .i64 0, .int .i64 0, .int .i64 0, .int .i64 0] [(5, 1, (.tmp 57))]⟩, ⟨none, none, .store 7 (.tmp 2) (.tmp 58)⟩])
  .ret))))),
  [.cell 2 true 7]⟩
theorem c81 : cprog Go.Proofs.Try.prog 81 = some C81 := by kernel_rfl
-- dustcart/model.slotB
def C82 : CFunc := ⟨(.seq (.region [⟨some 2, none, .mov (.const (.int .i64 0))⟩])
  (.seq (.region [⟨some 3, none, .mov (.tmp 0)⟩, ⟨some 4, none, .nilCheck (.tmp 3)⟩, ⟨some 5, none, .field 0 (.tmp 4)⟩, ⟨some 6, none, .field 2 (.tmp 5)⟩, ⟨some 7, none, .load false 1 (.tmp 6)⟩, ⟨some 2, none, .mov (.tmp 7)⟩])
  .ret)),
  [.tmp 2]⟩
theorem c82 : cprog Go.Proofs.Try.prog 82 = some C82 := by kernel_rfl
-- dustcart/model.refsB
def C83 : CFunc := ⟨(.seq (.region [⟨some 2, none, .mov (.const (.int .i64 0))⟩])
  (.seq (.dregion [⟨⟨some 3, none, .mov (.tmp 0)⟩, 0, 0, 0⟩, ⟨⟨some 4, none, .nilCheck (.tmp 3)⟩, 1, 0, 0⟩, ⟨⟨some 5, none, .field 8 (.tmp 4)⟩, 2, 0, 0⟩, ⟨⟨some 6, none, .load false 1 (.tmp 5)⟩, 3, 1, 0⟩, ⟨⟨some 7, none, .mov (.tmp 0)⟩, 4, 0, 0⟩, ⟨⟨some 8, none, .nilCheck (.tmp 7)⟩, 5, 0, 0⟩, ⟨⟨some 9, none, .field 9 (.tmp 8)⟩, 6, 0, 0⟩, ⟨⟨some 10, none, .load false 1 (.tmp 9)⟩, 7, 1, 0⟩, ⟨⟨some 11, none, .mov (.tmp 0)⟩, 8, 0, 0⟩, ⟨⟨some 12, none, .nilCheck (.tmp 11)⟩, 9, 0, 0⟩, ⟨⟨some 13, none, .field 0 (.tmp 12)⟩, 10, 0, 0⟩, ⟨⟨some 14, none, .field 2 (.tmp 13)⟩, 11, 0, 0⟩, ⟨⟨some 15, none, .load false 1 (.tmp 14)⟩, 12, 1, 0⟩, ⟨⟨some 16, none, .index 1 (.tmp 10) (.tmp 15)⟩, 13, 0, 0⟩, ⟨⟨some 17, none, .load false 1 (.tmp 16)⟩, 14, 1, 0⟩, ⟨⟨some 18, none, .call 74 [(.tmp 6), (.tmp 17)]⟩, 15, 3, 0⟩, ⟨⟨some 19, none, .nilCheck (.tmp 18)⟩, 16, 0, 1⟩, ⟨⟨some 20, none, .field 0 (.tmp 19)⟩, 17, 0, 1⟩, ⟨⟨some 21, none, .field 0 (.tmp 20)⟩, 18, 0, 1⟩, ⟨⟨some 22, none, .load false 1 (.tmp 21)⟩, 19, 1, 1⟩, ⟨⟨some 2, none, .mov (.tmp 22)⟩, 20, 0, 1⟩])
  .ret)),
  [.tmp 2]⟩
theorem c83 : cprog Go.Proofs.Try.prog 83 = some C83 := by kernel_rfl
-- dustcart/model.ways$1
def C84 : CFunc := ⟨(.seq (.region [⟨some 2, none, .new [.nilSlice, .int .i64 0, .int .i64 0, .int .i64 0, .int .i64 0, .int .i64 0, .int .i64 0]⟩])
  (.seq (.dregion [⟨⟨some 4, none, .mov (.tmp 0)⟩, 1, 0, 0⟩, ⟨⟨some 5, none, .nilCheck (.tmp 4)⟩, 2, 0, 0⟩, ⟨⟨some 6, none, .field 8 (.tmp 5)⟩, 3, 0, 0⟩, ⟨⟨some 7, none, .load false 1 (.tmp 6)⟩, 4, 1, 0⟩, ⟨⟨some 8, none, .mov (.tmp 0)⟩, 5, 0, 0⟩, ⟨⟨some 9, none, .nilCheck (.tmp 8)⟩, 6, 0, 0⟩, ⟨⟨some 10, none, .field 9 (.tmp 9)⟩, 7, 0, 0⟩, ⟨⟨some 11, none, .load false 1 (.tmp 10)⟩, 8, 1, 0⟩, ⟨⟨some 12, none, .mov (.tmp 0)⟩, 9, 0, 0⟩, ⟨⟨some 13, none, .nilCheck (.tmp 12)⟩, 10, 0, 0⟩, ⟨⟨some 14, none, .field 0 (.tmp 13)⟩, 11, 0, 0⟩, ⟨⟨some 15, none, .field 2 (.tmp 14)⟩, 12, 0, 0⟩, ⟨⟨some 16, none, .load false 1 (.tmp 15)⟩, 13, 1, 0⟩, ⟨⟨some 17, none, .index 1 (.tmp 11) (.tmp 16)⟩, 14, 0, 0⟩, ⟨⟨some 18, none, .load false 1 (.tmp 17)⟩, 15, 1, 0⟩, ⟨⟨some 19, none, .call 74 [(.tmp 7), (.tmp 18)]⟩, 16, 3, 0⟩, ⟨⟨some 3, none, .mov (.tmp 0)⟩, 0, 0, 0⟩, ⟨⟨some 20, none, .nilCheck (.tmp 19)⟩, 17, 0, 1⟩, ⟨⟨some 21, none, .field 3 (.tmp 20)⟩, 18, 0, 1⟩, ⟨⟨some 22, none, .load false 1 (.tmp 21)⟩, 19, 1, 1⟩, ⟨⟨some 23, none, .mov (.tmp 0)⟩, 20, 0, 0⟩, ⟨⟨some 24, none, .nilCheck (.tmp 23)⟩, 21, 0, 0⟩, ⟨⟨some 25, none, .field 0 (.tmp 24)⟩, 22, 0, 0⟩, ⟨⟨some 26, none, .field 3 (.tmp 25)⟩, 23, 0, 0⟩, ⟨⟨some 27, none, .load false 1 (.tmp 26)⟩, 24, 1, 0⟩, ⟨⟨some 28, none, .index 1 (.tmp 22) (.tmp 27)⟩, 25, 0, 1⟩, ⟨⟨some 29, none, .load false 1 (.tmp 28)⟩, 26, 1, 1⟩, ⟨⟨some 30, none, .call 85 [(.tmp 3), (.tmp 29)]⟩, 27, 3, 1⟩, ⟨⟨none, none, .store 7 (.tmp 2) (.tmp 30)⟩, 28, 3, 2⟩])
  .ret)),
  [.cell 2 true 7]⟩
theorem c84 : cprog Go.Proofs.Try.prog 84 = some C84 := by kernel_rfl
-- (*dustcart/model.act).load
def C85 : CFunc := ⟨(.seq (.region [⟨some 4, none, .new [.nilSlice, .int .i64 0, .int .i64 0, .int .i64 0, .int .i64 0, .int .i64 0, .int .i64 0]⟩])
  (.seq (.dregion [⟨⟨some 5, none, .mov (.tmp 0)⟩, 0, 0, 0⟩, ⟨⟨some 6, none, .nilCheck (.tmp 5)⟩, 1, 0, 0⟩, ⟨⟨some 7, none, .field 9 (.tmp 6)⟩, 2, 0, 0⟩, ⟨⟨some 8, none, .load false 1 (.tmp 7)⟩, 3, 1, 0⟩, ⟨⟨some 9, none, .mov (.tmp 0)⟩, 4, 0, 0⟩, ⟨⟨some 10, none, .nilCheck (.tmp 9)⟩, 5, 0, 0⟩, ⟨⟨some 11, none, .field 0 (.tmp 10)⟩, 6, 0, 0⟩, ⟨⟨some 12, none, .field 1 (.tmp 11)⟩, 7, 0, 0⟩, ⟨⟨some 13, none, .load false 1 (.tmp 12)⟩, 8, 1, 0⟩, ⟨⟨some 14, none, .mov (.tmp 1)⟩, 9, 0, 0⟩, ⟨⟨some 15, none, .index 1 (.tmp 8) (.tmp 13)⟩, 10, 0, 0⟩, ⟨⟨none, none, .store 1 (.tmp 15) (.tmp 14)⟩, 11, 3, 0⟩])
  (.seq (.region [⟨some 16, none, .mov (.tmp 1)⟩, ⟨some 17, none, .build [.nilSlice, .int .i64 0, .int .i64 0, .int .i64 0, .int .i64 0, .int .i64 0, .int .i64 0] [(6, 1, (.tmp 16))]⟩, ⟨none, none, .store 7 (.tmp 4) (.tmp 17)⟩])
  .ret))),
  [.cell 4 true 7]⟩
theorem c85 : cprog Go.Proofs.Try.prog 85 = some C85 := by kernel_rfl
-- dustcart/model.slotA
def C86 : CFunc := ⟨(.seq (.region [⟨some 2, none, .mov (.const (.int .i64 0))⟩])
  (.seq (.region [⟨some 3, none, .mov (.tmp 0)⟩, ⟨some 4, none, .nilCheck (.tmp 3)⟩, ⟨some 5, none, .field 0 (.tmp 4)⟩, ⟨some 6, none, .field 1 (.tmp 5)⟩, ⟨some 7, none, .load false 1 (.tmp 6)⟩, ⟨some 2, none, .mov (.tmp 7)⟩])
  .ret)),
  [.tmp 2]⟩
theorem c86 : cprog Go.Proofs.Try.prog 86 = some C86 := by kernel_rfl
-- dustcart/model.refsA
def C87 : CFunc := ⟨(.seq (.region [⟨some 2, none, .mov (.const (.int .i64 0))⟩])
  (.seq (.dregion [⟨⟨some 3, none, .mov (.tmp 0)⟩, 0, 0, 0⟩, ⟨⟨some 4, none, .nilCheck (.tmp 3)⟩, 1, 0, 0⟩, ⟨⟨some 5, none, .field 8 (.tmp 4)⟩, 2, 0, 0⟩, ⟨⟨some 6, none, .load false 1 (.tmp 5)⟩, 3, 1, 0⟩, ⟨⟨some 7, none, .mov (.tmp 0)⟩, 4, 0, 0⟩, ⟨⟨some 8, none, .nilCheck (.tmp 7)⟩, 5, 0, 0⟩, ⟨⟨some 9, none, .field 9 (.tmp 8)⟩, 6, 0, 0⟩, ⟨⟨some 10, none, .load false 1 (.tmp 9)⟩, 7, 1, 0⟩, ⟨⟨some 11, none, .mov (.tmp 0)⟩, 8, 0, 0⟩, ⟨⟨some 12, none, .nilCheck (.tmp 11)⟩, 9, 0, 0⟩, ⟨⟨some 13, none, .field 0 (.tmp 12)⟩, 10, 0, 0⟩, ⟨⟨some 14, none, .field 1 (.tmp 13)⟩, 11, 0, 0⟩, ⟨⟨some 15, none, .load false 1 (.tmp 14)⟩, 12, 1, 0⟩, ⟨⟨some 16, none, .index 1 (.tmp 10) (.tmp 15)⟩, 13, 0, 0⟩, ⟨⟨some 17, none, .load false 1 (.tmp 16)⟩, 14, 1, 0⟩, ⟨⟨some 18, none, .call 74 [(.tmp 6), (.tmp 17)]⟩, 15, 3, 0⟩, ⟨⟨some 19, none, .nilCheck (.tmp 18)⟩, 16, 0, 1⟩, ⟨⟨some 20, none, .field 0 (.tmp 19)⟩, 17, 0, 1⟩, ⟨⟨some 21, none, .field 0 (.tmp 20)⟩, 18, 0, 1⟩, ⟨⟨some 22, none, .load false 1 (.tmp 21)⟩, 19, 1, 1⟩, ⟨⟨some 2, none, .mov (.tmp 22)⟩, 20, 0, 1⟩])
  .ret)),
  [.tmp 2]⟩
theorem c87 : cprog Go.Proofs.Try.prog 87 = some C87 := by kernel_rfl
-- (*dustcart/model.act).store
def C88 : CFunc := ⟨(.seq (.region [⟨some 2, none, .new [.nilSlice, .int .i64 0, .int .i64 0, .int .i64 0, .int .i64 0, .int .i64 0, .int .i64 0]⟩])
  (.seq (.dregion [⟨⟨some 6, none, .mov (.tmp 0)⟩, 0, 0, 0⟩, ⟨⟨some 7, none, .nilCheck (.tmp 6)⟩, 1, 0, 0⟩, ⟨⟨some 8, none, .field 9 (.tmp 7)⟩, 2, 0, 0⟩, ⟨⟨some 9, none, .load false 1 (.tmp 8)⟩, 3, 1, 0⟩, ⟨⟨some 10, none, .mov (.tmp 0)⟩, 4, 0, 0⟩, ⟨⟨some 11, none, .nilCheck (.tmp 10)⟩, 5, 0, 0⟩, ⟨⟨some 12, none, .field 0 (.tmp 11)⟩, 6, 0, 0⟩, ⟨⟨some 13, none, .field 1 (.tmp 12)⟩, 7, 0, 0⟩, ⟨⟨some 14, none, .load false 1 (.tmp 13)⟩, 8, 1, 0⟩, ⟨⟨some 15, none, .index 1 (.tmp 9) (.tmp 14)⟩, 9, 0, 0⟩, ⟨⟨some 16, none, .load false 1 (.tmp 15)⟩, 10, 1, 0⟩, ⟨⟨some 3, none, .mov (.tmp 16)⟩, 11, 0, 0⟩])
  (.seq (.dregion [⟨⟨some 17, none, .mov (.tmp 0)⟩, 0, 0, 0⟩, ⟨⟨some 18, none, .nilCheck (.tmp 17)⟩, 1, 0, 0⟩, ⟨⟨some 19, none, .field 8 (.tmp 18)⟩, 2, 0, 0⟩, ⟨⟨some 20, none, .load false 1 (.tmp 19)⟩, 3, 1, 0⟩, ⟨⟨some 21, none, .mov (.tmp 3)⟩, 4, 0, 0⟩, ⟨⟨some 22, none, .call 74 [(.tmp 20), (.tmp 21)]⟩, 5, 3, 0⟩, ⟨⟨some 23, none, .nilCheck (.tmp 22)⟩, 6, 0, 1⟩, ⟨⟨some 24, none, .field 3 (.tmp 23)⟩, 7, 0, 1⟩, ⟨⟨some 25, none, .load false 1 (.tmp 24)⟩, 8, 1, 1⟩, ⟨⟨some 26, none, .mov (.tmp 0)⟩, 9, 0, 0⟩, ⟨⟨some 27, none, .nilCheck (.tmp 26)⟩, 10, 0, 0⟩, ⟨⟨some 28, none, .field 0 (.tmp 27)⟩, 11, 0, 0⟩, ⟨⟨some 29, none, .field 3 (.tmp 28)⟩, 12, 0, 0⟩, ⟨⟨some 30, none, .load false 1 (.tmp 29)⟩, 13, 1, 0⟩, ⟨⟨some 31, none, .index 1 (.tmp 25) (.tmp 30)⟩, 14, 0, 1⟩, ⟨⟨some 4, none, .mov (.tmp 31)⟩, 15, 0, 1⟩])
  (.seq (.dregion [⟨⟨some 32, none, .mov (.tmp 3)⟩, 0, 0, 0⟩, ⟨⟨some 33, none, .mov (.tmp 0)⟩, 1, 0, 0⟩, ⟨⟨some 34, none, .nilCheck (.tmp 33)⟩, 2, 0, 0⟩, ⟨⟨some 35, none, .field 0 (.tmp 34)⟩, 3, 0, 0⟩, ⟨⟨some 36, none, .field 3 (.tmp 35)⟩, 4, 0, 0⟩, ⟨⟨some 37, none, .load false 1 (.tmp 36)⟩, 5, 1, 0⟩, ⟨⟨some 38, none, .mov (.tmp 4)⟩, 6, 0, 0⟩, ⟨⟨some 39, none, .nilCheck (.tmp 38)⟩, 7, 0, 0⟩, ⟨⟨some 40, none, .load false 1 (.tmp 39)⟩, 8, 1, 0⟩, ⟨⟨some 41, none, .mov (.tmp 0)⟩, 9, 0, 0⟩, ⟨⟨some 42, none, .nilCheck (.tmp 41)⟩, 10, 0, 0⟩, ⟨⟨some 43, none, .field 9 (.tmp 42)⟩, 11, 0, 0⟩, ⟨⟨some 44, none, .load false 1 (.tmp 43)⟩, 12, 1, 0⟩, ⟨⟨some 45, none, .mov (.tmp 0)⟩, 13, 0, 0⟩, ⟨⟨some 46, none, .nilCheck (.tmp 45)⟩, 14, 0, 0⟩, ⟨⟨some 47, none, .field 0 (.tmp 46)⟩, 15, 0, 0⟩, ⟨⟨some 48, none, .field 2 (.tmp 47)⟩, 16, 0, 0⟩, ⟨⟨some 49, none, .load false 1 (.tmp 48)⟩, 17, 1, 0⟩, ⟨⟨some 50, none, .index 1 (.tmp 44) (.tmp 49)⟩, 18, 0, 0⟩, ⟨⟨some 51, none, .load false 1 (.tmp 50)⟩, 19, 1, 0⟩, ⟨⟨some 52, none, .build [.nilSlice, .int .i64 0, .int .i64 0, .int .i64 0, .int .i64 0, .int .i64 0, .int .i64 0] [(1, 1, (.tmp 32)), (2, 1, (.tmp 37)), (3, 1, (.tmp 40)), (4, 1, (.tmp 51))]⟩, 20, 0, 0⟩, ⟨⟨some 5, none, .new [.nilSlice, .int .i64 0, .int .i64 0, .int .i64 0, .int .i64 0, .int .i64 0, .int .i64 0]⟩, 21, 0, 0⟩, ⟨⟨none, none, .store 7 (.tmp 5) (.tmp 52)⟩, 22, 3, 0⟩])
  (.seq (.region [⟨some 53, none, .mov (.tmp 4)⟩, ⟨some 54, none, .field 4 (.tmp 5)⟩, ⟨some 55, none, .load false 1 (.tmp 54)⟩, ⟨some 56, none, .nilCheck (.tmp 53)⟩, ⟨none, none, .store 1 (.tmp 56) (.tmp 55)⟩])
  (.seq (.region [⟨some 57, none, .load true 7 (.tmp 5)⟩, ⟨none, none, .store 7 (.tmp 2) (.tmp 57)⟩])
  .ret)))))),
  [.cell 2 true 7]⟩
theorem c88 : cprog Go.Proofs.Try.prog 88 = some C88 := by kernel_rfl
-- dustcart/model.dataA
def C89 : CFunc := ⟨(.seq (.region [⟨some 2, none, .mov (.const (.int .i64 0))⟩])
  (.seq (.dregion [⟨⟨some 3, none, .mov (.tmp 0)⟩, 0, 0, 0⟩, ⟨⟨some 4, none, .nilCheck (.tmp 3)⟩, 1, 0, 0⟩, ⟨⟨some 5, none, .field 8 (.tmp 4)⟩, 2, 0, 0⟩, ⟨⟨some 6, none, .load false 1 (.tmp 5)⟩, 3, 1, 0⟩, ⟨⟨some 7, none, .mov (.tmp 0)⟩, 4, 0, 0⟩, ⟨⟨some 8, none, .nilCheck (.tmp 7)⟩, 5, 0, 0⟩, ⟨⟨some 9, none, .field 9 (.tmp 8)⟩, 6, 0, 0⟩, ⟨⟨some 10, none, .load false 1 (.tmp 9)⟩, 7, 1, 0⟩, ⟨⟨some 11, none, .mov (.tmp 0)⟩, 8, 0, 0⟩, ⟨⟨some 12, none, .nilCheck (.tmp 11)⟩, 9, 0, 0⟩, ⟨⟨some 13, none, .field 0 (.tmp 12)⟩, 10, 0, 0⟩, ⟨⟨some 14, none, .field 1 (.tmp 13)⟩, 11, 0, 0⟩, ⟨⟨some 15, none, .load false 1 (.tmp 14)⟩, 12, 1, 0⟩, ⟨⟨some 16, none, .index 1 (.tmp 10) (.tmp 15)⟩, 13, 0, 0⟩, ⟨⟨some 17, none, .load false 1 (.tmp 16)⟩, 14, 1, 0⟩, ⟨⟨some 18, none, .call 74 [(.tmp 6), (.tmp 17)]⟩, 15, 3, 0⟩, ⟨⟨some 19, none, .nilCheck (.tmp 18)⟩, 16, 0, 1⟩, ⟨⟨some 20, none, .field 0 (.tmp 19)⟩, 17, 0, 1⟩, ⟨⟨some 21, none, .field 1 (.tmp 20)⟩, 18, 0, 1⟩, ⟨⟨some 22, none, .load false 1 (.tmp 21)⟩, 19, 1, 1⟩, ⟨⟨some 2, none, .mov (.tmp 22)⟩, 20, 0, 1⟩])
  .ret)),
  [.tmp 2]⟩
theorem c89 : cprog Go.Proofs.Try.prog 89 = some C89 := by kernel_rfl
-- dustcart/model.ways$2
def C90 : CFunc := ⟨(.seq (.region [⟨some 2, none, .new [.nilSlice, .int .i64 0, .int .i64 0, .int .i64 0, .int .i64 0, .int .i64 0, .int .i64 0]⟩])
  (.seq (.dregion [⟨⟨some 3, none, .mov (.tmp 0)⟩, 0, 0, 0⟩, ⟨⟨some 4, none, .nilCheck (.tmp 3)⟩, 1, 0, 0⟩, ⟨⟨some 5, none, .field 8 (.tmp 4)⟩, 2, 0, 0⟩, ⟨⟨some 6, none, .load false 1 (.tmp 5)⟩, 3, 1, 0⟩, ⟨⟨some 7, none, .mov (.tmp 0)⟩, 4, 0, 0⟩, ⟨⟨some 8, none, .nilCheck (.tmp 7)⟩, 5, 0, 0⟩, ⟨⟨some 9, none, .field 9 (.tmp 8)⟩, 6, 0, 0⟩, ⟨⟨some 10, none, .load false 1 (.tmp 9)⟩, 7, 1, 0⟩, ⟨⟨some 11, none, .mov (.tmp 0)⟩, 8, 0, 0⟩, ⟨⟨some 12, none, .nilCheck (.tmp 11)⟩, 9, 0, 0⟩, ⟨⟨some 13, none, .field 0 (.tmp 12)⟩, 10, 0, 0⟩, ⟨⟨some 14, none, .field 1 (.tmp 13)⟩, 11, 0, 0⟩, ⟨⟨some 15, none, .load false 1 (.tmp 14)⟩, 12, 1, 0⟩, ⟨⟨some 16, none, .index 1 (.tmp 10) (.tmp 15)⟩, 13, 0, 0⟩, ⟨⟨some 17, none, .load false 1 (.tmp 16)⟩, 14, 1, 0⟩, ⟨⟨some 18, none, .call 74 [(.tmp 6), (.tmp 17)]⟩, 15, 3, 0⟩, ⟨⟨some 19, none, .nilCheck (.tmp 18)⟩, 16, 0, 1⟩, ⟨⟨some 20, none, .field 4 (.tmp 19)⟩, 17, 0, 1⟩, ⟨⟨some 21, none, .load false 1 (.tmp 20)⟩, 18, 1, 1⟩, ⟨⟨some 22, none, .mov (.tmp 0)⟩, 19, 0, 0⟩, ⟨⟨some 23, none, .nilCheck (.tmp 22)⟩, 20, 0, 0⟩, ⟨⟨some 24, none, .field 0 (.tmp 23)⟩, 21, 0, 0⟩, ⟨⟨some 25, none, .field 3 (.tmp 24)⟩, 22, 0, 0⟩, ⟨⟨some 26, none, .load false 1 (.tmp 25)⟩, 23, 1, 0⟩, ⟨⟨some 27, none, .mov (.tmp 0)⟩, 24, 0, 0⟩, ⟨⟨some 28, none, .nilCheck (.tmp 27)⟩, 25, 0, 0⟩, ⟨⟨some 29, none, .field 0 (.tmp 28)⟩, 26, 0, 0⟩, ⟨⟨some 30, none, .field 4 (.tmp 29)⟩, 27, 0, 0⟩, ⟨⟨some 31, none, .load false 1 (.tmp 30)⟩, 28, 1, 0⟩, ⟨⟨some 32, none, .index 1 (.tmp 21) (.tmp 26)⟩, 29, 0, 1⟩, ⟨⟨none, none, .store 1 (.tmp 32) (.tmp 31)⟩, 30, 3, 1⟩])
  (.seq (.region [⟨some 33, none, .build [.nilSlice, .int .i64 0, .int .i64 0, .int .i64 0, .int .i64 0, .int .i64 0, .int .i64 0] []⟩, ⟨none, none, .store 7 (.tmp 2) (.tmp 33)⟩])
  .ret))),
  [.cell 2 true 7]⟩
theorem c90 : cprog Go.Proofs.Try.prog 90 = some C90 := by kernel_rfl
-- dustcart/model.ways$3
def C91 : CFunc := ⟨(.seq (.region [⟨some 2, none, .new [.nilSlice, .int .i64 0, .int .i64 0, .int .i64 0, .int .i64 0, .int .i64 0, .int .i64 0]⟩])
  (.seq (.dregion [⟨⟨some 3, none, .mov (.tmp 0)⟩, 0, 0, 0⟩, ⟨⟨some 4, none, .nilCheck (.tmp 3)⟩, 1, 0, 0⟩, ⟨⟨some 5, none, .field 8 (.tmp 4)⟩, 2, 0, 0⟩, ⟨⟨some 6, none, .load false 1 (.tmp 5)⟩, 3, 1, 0⟩, ⟨⟨some 7, none, .mov (.tmp 0)⟩, 4, 0, 0⟩, ⟨⟨some 8, none, .nilCheck (.tmp 7)⟩, 5, 0, 0⟩, ⟨⟨some 9, none, .field 9 (.tmp 8)⟩, 6, 0, 0⟩, ⟨⟨some 10, none, .load false 1 (.tmp 9)⟩, 7, 1, 0⟩, ⟨⟨some 11, none, .mov (.tmp 0)⟩, 8, 0, 0⟩, ⟨⟨some 12, none, .nilCheck (.tmp 11)⟩, 9, 0, 0⟩, ⟨⟨some 13, none, .field 0 (.tmp 12)⟩, 10, 0, 0⟩, ⟨⟨some 14, none, .field 1 (.tmp 13)⟩, 11, 0, 0⟩, ⟨⟨some 15, none, .load false 1 (.tmp 14)⟩, 12, 1, 0⟩, ⟨⟨some 16, none, .index 1 (.tmp 10) (.tmp 15)⟩, 13, 0, 0⟩, ⟨⟨some 17, none, .load false 1 (.tmp 16)⟩, 14, 1, 0⟩, ⟨⟨some 18, none, .call 74 [(.tmp 6), (.tmp 17)]⟩, 15, 3, 0⟩, ⟨⟨some 19, none, .nilCheck (.tmp 18)⟩, 16, 0, 1⟩, ⟨⟨some 20, none, .field 4 (.tmp 19)⟩, 17, 0, 1⟩, ⟨⟨some 21, none, .load false 1 (.tmp 20)⟩, 18, 1, 1⟩, ⟨⟨some 22, none, .mov (.tmp 0)⟩, 19, 0, 0⟩, ⟨⟨some 23, none, .nilCheck (.tmp 22)⟩, 20, 0, 0⟩, ⟨⟨some 24, none, .field 0 (.tmp 23)⟩, 21, 0, 0⟩, ⟨⟨some 25, none, .field 3 (.tmp 24)⟩, 22, 0, 0⟩, ⟨⟨some 26, none, .load false 1 (.tmp 25)⟩, 23, 1, 0⟩, ⟨⟨some 27, none, .index 1 (.tmp 21) (.tmp 26)⟩, 24, 0, 1⟩, ⟨⟨some 28, none, .load false 1 (.tmp 27)⟩, 25, 1, 1⟩, ⟨⟨some 29, none, .buildSlice 1 [.int .i64 0] 1 [(0, 1, (.tmp 28))]⟩, 26, 0, 1⟩, ⟨⟨some 30, none, .call 92 [(.tmp 29)]⟩, 27, 3, 1⟩, ⟨⟨none, none, .store 7 (.tmp 2) (.tmp 30)⟩, 28, 3, 2⟩])
  .ret)),
  [.cell 2 true 7]⟩
theorem c91 : cprog Go.Proofs.Try.prog 91 = some C91 := by kernel_rfl
end Go.Cs.Try

/- The compiled functions of the seat, part 4. -/
namespace Go.Cs.Try
open Go Go.Cs
set_option maxRecDepth 100000
-- dustcart/model.told
def C92 : CFunc := ⟨(.seq (.region [⟨some 2, none, .new [.nilSlice, .int .i64 0, .int .i64 0, .int .i64 0, .int .i64 0, .int .i64 0, .int .i64 0]⟩])
  (.seq (.region [⟨some 3, none, .mov (.tmp 0)⟩, ⟨some 4, none, .build [.nilSlice, .int .i64 0, .int .i64 0, .int .i64 0, .int .i64 0, .int .i64 0, .int .i64 0] [(0, 1, (.tmp 3))]⟩, ⟨none, none, .store 7 (.tmp 2) (.tmp 4)⟩])
  .ret)),
  [.cell 2 true 7]⟩
theorem c92 : cprog Go.Proofs.Try.prog 92 = some C92 := by kernel_rfl
-- dustcart/model.ways$4
def C93 : CFunc := ⟨(.seq (.region [⟨some 2, none, .new [.nilSlice, .int .i64 0, .int .i64 0, .int .i64 0, .int .i64 0, .int .i64 0, .int .i64 0]⟩])
  (.seq (.dregion [⟨⟨some 3, none, .mov (.tmp 0)⟩, 0, 0, 0⟩, ⟨⟨some 4, none, .mov (.tmp 0)⟩, 1, 0, 0⟩, ⟨⟨some 5, none, .nilCheck (.tmp 4)⟩, 2, 0, 0⟩, ⟨⟨some 6, none, .field 9 (.tmp 5)⟩, 3, 0, 0⟩, ⟨⟨some 7, none, .load false 1 (.tmp 6)⟩, 4, 1, 0⟩, ⟨⟨some 8, none, .mov (.tmp 0)⟩, 5, 0, 0⟩, ⟨⟨some 9, none, .nilCheck (.tmp 8)⟩, 6, 0, 0⟩, ⟨⟨some 10, none, .field 0 (.tmp 9)⟩, 7, 0, 0⟩, ⟨⟨some 11, none, .field 2 (.tmp 10)⟩, 8, 0, 0⟩, ⟨⟨some 12, none, .load false 1 (.tmp 11)⟩, 9, 1, 0⟩, ⟨⟨some 13, none, .index 1 (.tmp 7) (.tmp 12)⟩, 10, 0, 0⟩, ⟨⟨some 14, none, .load false 1 (.tmp 13)⟩, 11, 1, 0⟩, ⟨⟨some 15, none, .call 85 [(.tmp 3), (.tmp 14)]⟩, 12, 3, 0⟩, ⟨⟨none, none, .store 7 (.tmp 2) (.tmp 15)⟩, 13, 3, 1⟩])
  .ret)),
  [.cell 2 true 7]⟩
theorem c93 : cprog Go.Proofs.Try.prog 93 = some C93 := by kernel_rfl
-- dustcart/model.ways$5
def C94 : CFunc := ⟨(.seq (.region [⟨some 2, none, .new [.nilSlice, .int .i64 0, .int .i64 0, .int .i64 0, .int .i64 0, .int .i64 0, .int .i64 0]⟩])
  (.seq (.dregion [⟨⟨some 3, none, .mov (.tmp 0)⟩, 0, 0, 0⟩, ⟨⟨some 4, none, .nilCheck (.tmp 3)⟩, 1, 0, 0⟩, ⟨⟨some 5, none, .field 9 (.tmp 4)⟩, 2, 0, 0⟩, ⟨⟨some 6, none, .load false 1 (.tmp 5)⟩, 3, 1, 0⟩, ⟨⟨some 7, none, .mov (.tmp 0)⟩, 4, 0, 0⟩, ⟨⟨some 8, none, .nilCheck (.tmp 7)⟩, 5, 0, 0⟩, ⟨⟨some 9, none, .field 0 (.tmp 8)⟩, 6, 0, 0⟩, ⟨⟨some 10, none, .field 1 (.tmp 9)⟩, 7, 0, 0⟩, ⟨⟨some 11, none, .load false 1 (.tmp 10)⟩, 8, 1, 0⟩, ⟨⟨some 12, none, .index 1 (.tmp 6) (.tmp 11)⟩, 9, 0, 0⟩, ⟨⟨none, none, .store 1 (.tmp 12) (.const (.int .i64 0))⟩, 10, 3, 0⟩])
  (.seq (.region [⟨some 13, none, .build [.nilSlice, .int .i64 0, .int .i64 0, .int .i64 0, .int .i64 0, .int .i64 0, .int .i64 0] []⟩, ⟨none, none, .store 7 (.tmp 2) (.tmp 13)⟩])
  .ret))),
  [.cell 2 true 7]⟩
theorem c94 : cprog Go.Proofs.Try.prog 94 = some C94 := by kernel_rfl
-- dustcart/model.ways$6
def C95 : CFunc := ⟨(.seq (.region [⟨some 2, none, .new [.nilSlice, .int .i64 0, .int .i64 0, .int .i64 0, .int .i64 0, .int .i64 0, .int .i64 0]⟩])
  (.seq (.seq (.dregion [⟨⟨some 3, none, .mov (.tmp 0)⟩, 0, 0, 0⟩, ⟨⟨some 4, none, .nilCheck (.tmp 3)⟩, 1, 0, 0⟩, ⟨⟨some 5, none, .field 9 (.tmp 4)⟩, 2, 0, 0⟩, ⟨⟨some 6, none, .load false 1 (.tmp 5)⟩, 3, 1, 0⟩, ⟨⟨some 7, none, .mov (.tmp 0)⟩, 4, 0, 0⟩, ⟨⟨some 8, none, .nilCheck (.tmp 7)⟩, 5, 0, 0⟩, ⟨⟨some 9, none, .field 0 (.tmp 8)⟩, 6, 0, 0⟩, ⟨⟨some 10, none, .field 1 (.tmp 9)⟩, 7, 0, 0⟩, ⟨⟨some 11, none, .load false 1 (.tmp 10)⟩, 8, 1, 0⟩, ⟨⟨some 12, none, .index 1 (.tmp 6) (.tmp 11)⟩, 9, 0, 0⟩, ⟨⟨some 13, none, .load false 1 (.tmp 12)⟩, 10, 1, 0⟩, ⟨⟨some 14, none, .mov (.tmp 0)⟩, 11, 0, 0⟩, ⟨⟨some 15, none, .nilCheck (.tmp 14)⟩, 12, 0, 0⟩, ⟨⟨some 16, none, .field 9 (.tmp 15)⟩, 13, 0, 0⟩, ⟨⟨some 17, none, .load false 1 (.tmp 16)⟩, 14, 1, 0⟩, ⟨⟨some 18, none, .mov (.tmp 0)⟩, 15, 0, 0⟩, ⟨⟨some 19, none, .nilCheck (.tmp 18)⟩, 16, 0, 0⟩, ⟨⟨some 20, none, .field 0 (.tmp 19)⟩, 17, 0, 0⟩, ⟨⟨some 21, none, .field 2 (.tmp 20)⟩, 18, 0, 0⟩, ⟨⟨some 22, none, .load false 1 (.tmp 21)⟩, 19, 1, 0⟩, ⟨⟨some 23, none, .index 1 (.tmp 17) (.tmp 22)⟩, 20, 0, 0⟩, ⟨⟨some 24, none, .load false 1 (.tmp 23)⟩, 21, 1, 0⟩, ⟨⟨some 25, none, .bin .eql (.tmp 13) (.tmp 24)⟩, 22, 0, 0⟩])
  (.cond (.tmp 25)
   (.seq (.region [⟨some 26, none, .buildSlice 1 [.int .i64 0] 1 [(0, 1, (.const (.int .i64 1)))]⟩, ⟨some 27, none, .call 92 [(.tmp 26)]⟩, ⟨none, none, .store 7 (.tmp 2) (.tmp 27)⟩])
   .ret)
   .skip))
  (.seq (.region [⟨some 28, none, .buildSlice 1 [.int .i64 0] 1 [(0, 1, (.const (.int .i64 0)))]⟩, ⟨some 29, none, .call 92 [(.tmp 28)]⟩, ⟨none, none, .store 7 (.tmp 2) (.tmp 29)⟩])
  .ret))),
  [.cell 2 true 7]⟩
theorem c95 : cprog Go.Proofs.Try.prog 95 = some C95 := by kernel_rfl
-- dustcart/model.ways$7
def C96 : CFunc := ⟨(.seq (.region [⟨some 2, none, .new [.nilSlice, .int .i64 0, .int .i64 0, .int .i64 0, .int .i64 0, .int .i64 0, .int .i64 0]⟩])
  (.seq (.dregion [⟨⟨some 3, none, .mov (.tmp 0)⟩, 0, 0, 0⟩, ⟨⟨some 4, none, .nilCheck (.tmp 3)⟩, 1, 0, 0⟩, ⟨⟨some 5, none, .field 9 (.tmp 4)⟩, 2, 0, 0⟩, ⟨⟨some 6, none, .load false 1 (.tmp 5)⟩, 3, 1, 0⟩, ⟨⟨some 7, none, .mov (.tmp 0)⟩, 4, 0, 0⟩, ⟨⟨some 8, none, .nilCheck (.tmp 7)⟩, 5, 0, 0⟩, ⟨⟨some 9, none, .field 0 (.tmp 8)⟩, 6, 0, 0⟩, ⟨⟨some 10, none, .field 1 (.tmp 9)⟩, 7, 0, 0⟩, ⟨⟨some 11, none, .load false 1 (.tmp 10)⟩, 8, 1, 0⟩, ⟨⟨some 12, none, .index 1 (.tmp 6) (.tmp 11)⟩, 9, 0, 0⟩, ⟨⟨some 13, none, .load false 1 (.tmp 12)⟩, 10, 1, 0⟩, ⟨⟨some 14, none, .buildSlice 1 [.int .i64 0] 1 [(0, 1, (.tmp 13))]⟩, 11, 0, 0⟩, ⟨⟨some 15, none, .call 92 [(.tmp 14)]⟩, 12, 3, 0⟩, ⟨⟨none, none, .store 7 (.tmp 2) (.tmp 15)⟩, 13, 3, 1⟩])
  .ret)),
  [.cell 2 true 7]⟩
theorem c96 : cprog Go.Proofs.Try.prog 96 = some C96 := by kernel_rfl
-- dustcart/model.globals
def C97 : CFunc := ⟨(.seq (.region [⟨some 2, none, .mov (.const (.int .i64 0))⟩])
  (.seq (.region [⟨some 2, none, .mov (.const (.int .i64 16))⟩])
  .ret)),
  [.tmp 2]⟩
theorem c97 : cprog Go.Proofs.Try.prog 97 = some C97 := by kernel_rfl
-- dustcart/model.ways$8
def C98 : CFunc := ⟨(.seq (.region [⟨some 2, none, .new [.nilSlice, .int .i64 0, .int .i64 0, .int .i64 0, .int .i64 0, .int .i64 0, .int .i64 0]⟩])
  (.seq (.dregion [⟨⟨some 3, none, .mov (.tmp 0)⟩, 0, 0, 0⟩, ⟨⟨some 4, none, .nilCheck (.tmp 3)⟩, 1, 0, 0⟩, ⟨⟨some 5, none, .field 8 (.tmp 4)⟩, 2, 0, 0⟩, ⟨⟨some 6, none, .load false 1 (.tmp 5)⟩, 3, 1, 0⟩, ⟨⟨some 7, none, .nilCheck (.tmp 6)⟩, 4, 0, 0⟩, ⟨⟨some 8, none, .field 1 (.tmp 7)⟩, 5, 0, 0⟩, ⟨⟨some 9, none, .load false 1 (.tmp 8)⟩, 6, 1, 0⟩, ⟨⟨some 10, none, .mov (.tmp 0)⟩, 7, 0, 0⟩, ⟨⟨some 11, none, .nilCheck (.tmp 10)⟩, 8, 0, 0⟩, ⟨⟨some 12, none, .field 0 (.tmp 11)⟩, 9, 0, 0⟩, ⟨⟨some 13, none, .field 3 (.tmp 12)⟩, 10, 0, 0⟩, ⟨⟨some 14, none, .load false 1 (.tmp 13)⟩, 11, 1, 0⟩, ⟨⟨some 15, none, .mov (.tmp 0)⟩, 12, 0, 0⟩, ⟨⟨some 16, none, .nilCheck (.tmp 15)⟩, 13, 0, 0⟩, ⟨⟨some 17, none, .field 9 (.tmp 16)⟩, 14, 0, 0⟩, ⟨⟨some 18, none, .load false 1 (.tmp 17)⟩, 15, 1, 0⟩, ⟨⟨some 19, none, .mov (.tmp 0)⟩, 16, 0, 0⟩, ⟨⟨some 20, none, .nilCheck (.tmp 19)⟩, 17, 0, 0⟩, ⟨⟨some 21, none, .field 0 (.tmp 20)⟩, 18, 0, 0⟩, ⟨⟨some 22, none, .field 1 (.tmp 21)⟩, 19, 0, 0⟩, ⟨⟨some 23, none, .load false 1 (.tmp 22)⟩, 20, 1, 0⟩, ⟨⟨some 24, none, .index 1 (.tmp 18) (.tmp 23)⟩, 21, 0, 0⟩, ⟨⟨some 25, none, .load false 1 (.tmp 24)⟩, 22, 1, 0⟩, ⟨⟨some 26, none, .index 1 (.tmp 9) (.tmp 14)⟩, 23, 0, 0⟩, ⟨⟨none, none, .store 1 (.tmp 26) (.tmp 25)⟩, 24, 3, 0⟩])
  (.seq (.region [⟨some 27, none, .build [.nilSlice, .int .i64 0, .int .i64 0, .int .i64 0, .int .i64 0, .int .i64 0, .int .i64 0] []⟩, ⟨none, none, .store 7 (.tmp 2) (.tmp 27)⟩])
  .ret))),
  [.cell 2 true 7]⟩
theorem c98 : cprog Go.Proofs.Try.prog 98 = some C98 := by kernel_rfl
-- dustcart/model.ways$9
def C99 : CFunc := ⟨(.seq (.region [⟨some 2, none, .new [.nilSlice, .int .i64 0, .int .i64 0, .int .i64 0, .int .i64 0, .int .i64 0, .int .i64 0]⟩])
  (.seq (.dregion [⟨⟨some 3, none, .mov (.tmp 0)⟩, 0, 0, 0⟩, ⟨⟨some 4, none, .mov (.tmp 0)⟩, 1, 0, 0⟩, ⟨⟨some 5, none, .nilCheck (.tmp 4)⟩, 2, 0, 0⟩, ⟨⟨some 6, none, .field 8 (.tmp 5)⟩, 3, 0, 0⟩, ⟨⟨some 7, none, .load false 1 (.tmp 6)⟩, 4, 1, 0⟩, ⟨⟨some 8, none, .nilCheck (.tmp 7)⟩, 5, 0, 0⟩, ⟨⟨some 9, none, .field 1 (.tmp 8)⟩, 6, 0, 0⟩, ⟨⟨some 10, none, .load false 1 (.tmp 9)⟩, 7, 1, 0⟩, ⟨⟨some 11, none, .mov (.tmp 0)⟩, 8, 0, 0⟩, ⟨⟨some 12, none, .nilCheck (.tmp 11)⟩, 9, 0, 0⟩, ⟨⟨some 13, none, .field 0 (.tmp 12)⟩, 10, 0, 0⟩, ⟨⟨some 14, none, .field 3 (.tmp 13)⟩, 11, 0, 0⟩, ⟨⟨some 15, none, .load false 1 (.tmp 14)⟩, 12, 1, 0⟩, ⟨⟨some 16, none, .index 1 (.tmp 10) (.tmp 15)⟩, 13, 0, 0⟩, ⟨⟨some 17, none, .load false 1 (.tmp 16)⟩, 14, 1, 0⟩, ⟨⟨some 18, none, .call 85 [(.tmp 3), (.tmp 17)]⟩, 15, 3, 0⟩, ⟨⟨none, none, .store 7 (.tmp 2) (.tmp 18)⟩, 16, 3, 1⟩])
  .ret)),
  [.cell 2 true 7]⟩
theorem c99 : cprog Go.Proofs.Try.prog 99 = some C99 := by kernel_rfl
-- dustcart/model.ways$10
def C100 : CFunc := ⟨(.seq (.region [⟨some 2, none, .new [.nilSlice, .int .i64 0, .int .i64 0, .int .i64 0, .int .i64 0, .int .i64 0, .int .i64 0]⟩])
  (.seq (.dregion [⟨⟨some 4, none, .mov (.tmp 0)⟩, 0, 0, 0⟩, ⟨⟨some 5, none, .nilCheck (.tmp 4)⟩, 1, 0, 0⟩, ⟨⟨some 6, none, .field 8 (.tmp 5)⟩, 2, 0, 0⟩, ⟨⟨some 7, none, .load false 1 (.tmp 6)⟩, 3, 1, 0⟩, ⟨⟨some 8, none, .mov (.tmp 0)⟩, 4, 0, 0⟩, ⟨⟨some 9, none, .nilCheck (.tmp 8)⟩, 5, 0, 0⟩, ⟨⟨some 10, none, .field 9 (.tmp 9)⟩, 6, 0, 0⟩, ⟨⟨some 11, none, .load false 1 (.tmp 10)⟩, 7, 1, 0⟩, ⟨⟨some 12, none, .mov (.tmp 0)⟩, 8, 0, 0⟩, ⟨⟨some 13, none, .nilCheck (.tmp 12)⟩, 9, 0, 0⟩, ⟨⟨some 14, none, .field 0 (.tmp 13)⟩, 10, 0, 0⟩, ⟨⟨some 15, none, .field 1 (.tmp 14)⟩, 11, 0, 0⟩, ⟨⟨some 16, none, .load false 1 (.tmp 15)⟩, 12, 1, 0⟩, ⟨⟨some 17, none, .index 1 (.tmp 11) (.tmp 16)⟩, 13, 0, 0⟩, ⟨⟨some 18, none, .load false 1 (.tmp 17)⟩, 14, 1, 0⟩, ⟨⟨some 19, none, .call 74 [(.tmp 7), (.tmp 18)]⟩, 15, 3, 0⟩, ⟨⟨some 20, none, .nilCheck (.tmp 19)⟩, 16, 0, 1⟩, ⟨⟨some 21, none, .field 0 (.tmp 20)⟩, 17, 0, 1⟩, ⟨⟨some 22, none, .load true 3 (.tmp 21)⟩, 18, 1, 1⟩, ⟨⟨some 3, none, .new [.int .i64 0, .int .i64 0, .int .i64 0]⟩, 19, 0, 0⟩, ⟨⟨none, none, .store 3 (.tmp 3) (.tmp 22)⟩, 20, 3, 1⟩])
  (.seq (.region [⟨some 23, none, .field 0 (.tmp 3)⟩, ⟨some 24, none, .load false 1 (.tmp 23)⟩, ⟨some 25, none, .field 1 (.tmp 3)⟩, ⟨some 26, none, .load false 1 (.tmp 25)⟩, ⟨some 27, none, .field 2 (.tmp 3)⟩, ⟨some 28, none, .load false 1 (.tmp 27)⟩, ⟨some 29, none, .buildSlice 1 [.int .i64 0, .int .i64 0, .int .i64 0] 3 [(0, 1, (.tmp 24)), (1, 1, (.tmp 26)), (2, 1, (.tmp 28))]⟩, ⟨some 30, none, .call 92 [(.tmp 29)]⟩, ⟨none, none, .store 7 (.tmp 2) (.tmp 30)⟩])
  .ret))),
  [.cell 2 true 7]⟩
theorem c100 : cprog Go.Proofs.Try.prog 100 = some C100 := by kernel_rfl
-- dustcart/dustcartref04.Head
def C101 : CFunc := ⟨(.seq (.region [⟨some 5, none, .box (.tmp 2)⟩, ⟨some 6, none, .mov (.const (.int .i64 0))⟩])
  (.seq (.seq (.region [⟨some 7, none, .mov (.tmp 1)⟩, ⟨some 8, none, .bin .lss (.tmp 7) (.const (.int .i64 0))⟩, ⟨some 9, none, .mov (.tmp 8)⟩, ⟨some 10, some (9, false), .mov (.tmp 1)⟩, ⟨some 11, some (9, false), .mov (.tmp 0)⟩, ⟨some 12, some (9, false), .bin .geq (.tmp 10) (.tmp 11)⟩, ⟨some 13, none, .pick (.tmp 9) (.const (.bool true)) (.tmp 12)⟩, ⟨some 14, none, .mov (.tmp 13)⟩, ⟨some 15, some (14, false), .field 0 (.tmp 5)⟩, ⟨some 16, some (14, false), .load false 1 (.tmp 15)⟩, ⟨some 17, some (14, false), .bin .lss (.tmp 16) (.const (.int .i64 0))⟩, ⟨some 18, none, .pick (.tmp 14) (.const (.bool true)) (.tmp 17)⟩, ⟨some 19, none, .mov (.tmp 18)⟩, ⟨some 20, some (19, false), .field 0 (.tmp 5)⟩, ⟨some 21, some (19, false), .load false 1 (.tmp 20)⟩, ⟨some 22, some (19, false), .bin .gtr (.tmp 21) (.const (.int .i64 11))⟩, ⟨some 23, none, .pick (.tmp 19) (.const (.bool true)) (.tmp 22)⟩])
  (.cond (.tmp 23)
   (.seq (.region [⟨some 6, none, .mov (.const (.int .i64 1))⟩])
   .ret)
   .skip))
  (.seq (.seq (.region [⟨some 24, none, .field 1 (.tmp 5)⟩, ⟨some 25, none, .load false 1 (.tmp 24)⟩, ⟨some 26, none, .bin .lss (.tmp 25) (.const (.int .i64 0))⟩, ⟨some 27, none, .mov (.tmp 26)⟩, ⟨some 28, some (27, false), .field 1 (.tmp 5)⟩, ⟨some 29, some (27, false), .load false 1 (.tmp 28)⟩, ⟨some 30, some (27, false), .bin .geq (.tmp 29) (.const (.int .i64 16))⟩, ⟨some 31, none, .pick (.tmp 27) (.const (.bool true)) (.tmp 30)⟩, ⟨some 32, none, .mov (.tmp 31)⟩, ⟨some 33, some (32, false), .field 0 (.tmp 5)⟩, ⟨some 34, some (32, false), .load false 1 (.tmp 33)⟩, ⟨some 35, some (32, false), .call 104 [(.tmp 34)]⟩, ⟨some 36, some (32, false), .mov (.tmp 35)⟩, ⟨some 37, some (36, true), .field 2 (.tmp 5)⟩, ⟨some 38, some (36, true), .load false 1 (.tmp 37)⟩, ⟨some 39, some (36, true), .bin .lss (.tmp 38) (.const (.int .i64 0))⟩, ⟨some 40, some (36, true), .mov (.tmp 39)⟩, ⟨some 41, some (40, false), .field 2 (.tmp 5)⟩, ⟨some 42, some (40, false), .load false 1 (.tmp 41)⟩, ⟨some 43, some (40, false), .bin .geq (.tmp 42) (.const (.int .i64 16))⟩, ⟨some 44, some (36, true), .pick (.tmp 40) (.const (.bool true)) (.tmp 43)⟩, ⟨some 45, some (32, false), .pick (.tmp 36) (.tmp 44) (.const (.bool false))⟩, ⟨some 46, none, .pick (.tmp 32) (.const (.bool true)) (.tmp 45)⟩])
  (.cond (.tmp 46)
   (.seq (.region [⟨some 6, none, .mov (.const (.int .i64 1))⟩])
   .ret)
   .skip))
  (.seq (.seq (.region [⟨some 47, none, .field 0 (.tmp 5)⟩, ⟨some 48, none, .load false 1 (.tmp 47)⟩, ⟨some 49, none, .bin .eql (.tmp 48) (.const (.int .i64 0))⟩, ⟨some 50, none, .mov (.tmp 49)⟩, ⟨some 51, some (50, true), .field 5 (.tmp 5)⟩, ⟨some 52, some (50, true), .load true 3 (.tmp 51)⟩, ⟨some 53, some (50, true), .call 105 [(.tmp 52)]⟩, ⟨some 54, some (50, true), .not (.tmp 53)⟩, ⟨some 55, none, .pick (.tmp 50) (.tmp 54) (.const (.bool false))⟩])
  (.cond (.tmp 55)
   (.seq (.region [⟨some 6, none, .mov (.const (.int .i64 2))⟩])
   .ret)
   .skip))
  (.seq (.region [⟨some 6, none, .mov (.const (.int .i64 0))⟩])
  .ret))))),
  [.tmp 6]⟩
theorem c101 : cprog Go.Proofs.Try.prog 101 = some C101 := by kernel_rfl
-- dustcart/dustcartref04.Needs
def C102 : CFunc := ⟨(.seq (.region [⟨some 1, none, .box (.tmp 0)⟩, ⟨some 2, none, .mov (.const (.int .i64 0))⟩])
  (.seq (.seq (.region [⟨some 3, none, .field 0 (.tmp 1)⟩, ⟨some 4, none, .load false 1 (.tmp 3)⟩])
  (.block 0 (.seq (.region [⟨some 6, none, .bin .eql (.tmp 4) (.const (.int .i64 1))⟩, ⟨some 5, none, .mov (.tmp 6)⟩])
   (.cond (.tmp 5)
    (.seq (.region [⟨some 7, none, .field 2 (.tmp 1)⟩, ⟨some 8, none, .load false 1 (.tmp 7)⟩, ⟨some 2, none, .mov (.tmp 8)⟩])
    .ret)
    (.seq (.seq (.region [⟨some 10, none, .bin .eql (.tmp 4) (.const (.int .i64 2))⟩, ⟨some 9, none, .mov (.tmp 10)⟩])
    (.cond (.tmp 9)
     .skip
     (.seq (.region [⟨some 11, none, .bin .eql (.tmp 4) (.const (.int .i64 3))⟩, ⟨some 9, none, .mov (.tmp 11)⟩])
     (.cond (.tmp 9)
      .skip
      (.seq (.region [⟨some 12, none, .bin .eql (.tmp 4) (.const (.int .i64 4))⟩, ⟨some 9, none, .mov (.tmp 12)⟩])
      (.cond (.tmp 9)
       .skip
       (.region [⟨some 13, none, .bin .eql (.tmp 4) (.const (.int .i64 11))⟩, ⟨some 9, none, .mov (.tmp 13)⟩])))))))
    (.cond (.tmp 9)
     (.seq (.region [⟨some 14, none, .field 1 (.tmp 1)⟩, ⟨some 15, none, .load false 1 (.tmp 14)⟩, ⟨some 2, none, .mov (.tmp 15)⟩])
     .ret)
     .skip))))))
  (.seq (.region [⟨some 2, none, .mov (.const (.int .i64 (-1)))⟩])
  .ret))),
  [.tmp 2]⟩
theorem c102 : cprog Go.Proofs.Try.prog 102 = some C102 := by kernel_rfl
-- dustcart/dustcartref04.Index
def C103 : CFunc := ⟨(.seq (.region [⟨some 2, none, .box (.tmp 0)⟩, ⟨some 3, none, .box (.tmp 1)⟩, ⟨some 4, none, .mov (.const (.bool false))⟩])
  (.seq (.seq (.region [⟨some 5, none, .field 0 (.tmp 2)⟩, ⟨some 6, none, .load false 1 (.tmp 5)⟩])
  (.block 0 (.seq (.seq (.region [⟨some 8, none, .bin .eql (.tmp 6) (.const (.int .i64 1))⟩, ⟨some 7, none, .mov (.tmp 8)⟩])
   (.cond (.tmp 7)
    .skip
    (.region [⟨some 9, none, .bin .eql (.tmp 6) (.const (.int .i64 2))⟩, ⟨some 7, none, .mov (.tmp 9)⟩])))
   (.cond (.tmp 7)
    (.seq (.region [⟨some 10, none, .field 3 (.tmp 2)⟩, ⟨some 11, none, .load false 1 (.tmp 10)⟩, ⟨some 12, none, .bin .geq (.tmp 11) (.const (.int .i64 0))⟩, ⟨some 13, none, .mov (.tmp 12)⟩, ⟨some 14, some (13, true), .field 3 (.tmp 2)⟩, ⟨some 15, some (13, true), .load false 1 (.tmp 14)⟩, ⟨some 16, some (13, true), .field 0 (.tmp 3)⟩, ⟨some 17, some (13, true), .load false 1 (.tmp 16)⟩, ⟨some 18, some (13, true), .bin .lss (.tmp 15) (.tmp 17)⟩, ⟨some 19, none, .pick (.tmp 13) (.tmp 18) (.const (.bool false))⟩, ⟨some 4, none, .mov (.tmp 19)⟩])
    .ret)
    (.seq (.seq (.region [⟨some 21, none, .bin .eql (.tmp 6) (.const (.int .i64 3))⟩, ⟨some 20, none, .mov (.tmp 21)⟩])
    (.cond (.tmp 20)
     .skip
     (.region [⟨some 22, none, .bin .eql (.tmp 6) (.const (.int .i64 4))⟩, ⟨some 20, none, .mov (.tmp 22)⟩])))
    (.cond (.tmp 20)
     (.seq (.region [⟨some 23, none, .field 3 (.tmp 2)⟩, ⟨some 24, none, .load false 1 (.tmp 23)⟩, ⟨some 25, none, .bin .geq (.tmp 24) (.const (.int .i64 0))⟩, ⟨some 26, none, .mov (.tmp 25)⟩, ⟨some 27, some (26, true), .field 3 (.tmp 2)⟩, ⟨some 28, some (26, true), .load false 1 (.tmp 27)⟩, ⟨some 29, some (26, true), .field 1 (.tmp 3)⟩, ⟨some 30, some (26, true), .load false 1 (.tmp 29)⟩, ⟨some 31, some (26, true), .bin .lss (.tmp 28) (.tmp 30)⟩, ⟨some 32, none, .pick (.tmp 26) (.tmp 31) (.const (.bool false))⟩, ⟨some 4, none, .mov (.tmp 32)⟩])
     .ret)
     (.seq (.seq (.region [⟨some 34, none, .bin .eql (.tmp 6) (.const (.int .i64 9))⟩, ⟨some 33, none, .mov (.tmp 34)⟩])
     (.cond (.tmp 33)
      .skip
      (.region [⟨some 35, none, .bin .eql (.tmp 6) (.const (.int .i64 10))⟩, ⟨some 33, none, .mov (.tmp 35)⟩])))
     (.cond (.tmp 33)
      (.seq (.region [⟨some 36, none, .field 3 (.tmp 2)⟩, ⟨some 37, none, .load false 1 (.tmp 36)⟩, ⟨some 38, none, .bin .geq (.tmp 37) (.const (.int .i64 0))⟩, ⟨some 39, none, .mov (.tmp 38)⟩, ⟨some 40, some (39, true), .field 3 (.tmp 2)⟩, ⟨some 41, some (39, true), .load false 1 (.tmp 40)⟩, ⟨some 42, some (39, true), .bin .lss (.tmp 41) (.const (.int .i64 16))⟩, ⟨some 43, none, .pick (.tmp 39) (.tmp 42) (.const (.bool false))⟩, ⟨some 4, none, .mov (.tmp 43)⟩])
      .ret)
      .skip))))))))
  (.seq (.region [⟨some 4, none, .mov (.const (.bool true))⟩])
  .ret))),
  [.tmp 4]⟩
theorem c103 : cprog Go.Proofs.Try.prog 103 = some C103 := by kernel_rfl
-- dustcart/dustcartref04.UsesB
def C104 : CFunc := ⟨(.seq (.region [⟨some 2, none, .mov (.const (.bool false))⟩])
  (.seq (.region [⟨some 3, none, .mov (.tmp 0)⟩, ⟨some 4, none, .bin .eql (.tmp 3) (.const (.int .i64 1))⟩, ⟨some 5, none, .mov (.tmp 4)⟩, ⟨some 6, some (5, false), .mov (.tmp 0)⟩, ⟨some 7, some (5, false), .bin .eql (.tmp 6) (.const (.int .i64 2))⟩, ⟨some 8, none, .pick (.tmp 5) (.const (.bool true)) (.tmp 7)⟩, ⟨some 9, none, .mov (.tmp 8)⟩, ⟨some 10, some (9, false), .mov (.tmp 0)⟩, ⟨some 11, some (9, false), .bin .eql (.tmp 10) (.const (.int .i64 5))⟩, ⟨some 12, none, .pick (.tmp 9) (.const (.bool true)) (.tmp 11)⟩, ⟨some 13, none, .mov (.tmp 12)⟩, ⟨some 14, some (13, false), .mov (.tmp 0)⟩, ⟨some 15, some (13, false), .bin .eql (.tmp 14) (.const (.int .i64 7))⟩, ⟨some 16, none, .pick (.tmp 13) (.const (.bool true)) (.tmp 15)⟩, ⟨some 2, none, .mov (.tmp 16)⟩])
  .ret)),
  [.tmp 2]⟩
theorem c104 : cprog Go.Proofs.Try.prog 104 = some C104 := by kernel_rfl
-- dustcart/dustcartref02.Valid
def C105 : CFunc := ⟨(.seq (.region [⟨some 1, none, .box (.tmp 0)⟩, ⟨some 2, none, .mov (.const (.bool false))⟩])
  (.seq (.seq (.region [⟨some 3, none, .field 0 (.tmp 1)⟩, ⟨some 4, none, .load false 1 (.tmp 3)⟩, ⟨some 5, none, .bin .lss (.tmp 4) (.const (.int .i64 0))⟩, ⟨some 6, none, .mov (.tmp 5)⟩, ⟨some 7, some (6, false), .field 0 (.tmp 1)⟩, ⟨some 8, some (6, false), .load false 1 (.tmp 7)⟩, ⟨some 9, some (6, false), .bin .gtr (.tmp 8) (.const (.int .i64 15))⟩, ⟨some 10, none, .pick (.tmp 6) (.const (.bool true)) (.tmp 9)⟩, ⟨some 11, none, .mov (.tmp 10)⟩, ⟨some 12, some (11, false), .field 1 (.tmp 1)⟩, ⟨some 13, some (11, false), .load false 1 (.tmp 12)⟩, ⟨some 14, some (11, false), .bin .lss (.tmp 13) (.const (.int .i64 0))⟩, ⟨some 15, none, .pick (.tmp 11) (.const (.bool true)) (.tmp 14)⟩, ⟨some 16, none, .mov (.tmp 15)⟩, ⟨some 17, some (16, false), .field 1 (.tmp 1)⟩, ⟨some 18, some (16, false), .load false 1 (.tmp 17)⟩, ⟨some 19, some (16, false), .bin .gtr (.tmp 18) (.const (.int .i64 200))⟩, ⟨some 20, none, .pick (.tmp 16) (.const (.bool true)) (.tmp 19)⟩])
  (.cond (.tmp 20)
   (.seq (.region [⟨some 2, none, .mov (.const (.bool false))⟩])
   .ret)
   .skip))
  (.seq (.seq (.region [⟨some 21, none, .field 2 (.tmp 1)⟩, ⟨some 22, none, .load false 1 (.tmp 21)⟩])
  (.block 0 (.seq (.seq (.region [⟨some 24, none, .bin .eql (.tmp 22) (.const (.int .i64 0))⟩, ⟨some 23, none, .mov (.tmp 24)⟩])
   (.cond (.tmp 23)
    .skip
    (.region [⟨some 25, none, .bin .eql (.tmp 22) (.const (.int .i64 3))⟩, ⟨some 23, none, .mov (.tmp 25)⟩])))
   (.cond (.tmp 23)
    (.seq (.region [⟨some 2, none, .mov (.const (.bool true))⟩])
    .ret)
    (.seq (.region [⟨some 27, none, .bin .eql (.tmp 22) (.const (.int .i64 1))⟩, ⟨some 26, none, .mov (.tmp 27)⟩])
    (.cond (.tmp 26)
     (.seq (.region [⟨some 28, none, .field 0 (.tmp 1)⟩, ⟨some 29, none, .load false 1 (.tmp 28)⟩, ⟨some 30, none, .bin .geq (.tmp 29) (.const (.int .i64 1))⟩, ⟨some 2, none, .mov (.tmp 30)⟩])
     .ret)
     (.seq (.region [⟨some 32, none, .bin .eql (.tmp 22) (.const (.int .i64 2))⟩, ⟨some 31, none, .mov (.tmp 32)⟩])
     (.cond (.tmp 31)
      (.seq (.region [⟨some 33, none, .field 0 (.tmp 1)⟩, ⟨some 34, none, .load false 1 (.tmp 33)⟩, ⟨some 35, none, .bin .geq (.tmp 34) (.const (.int .i64 2))⟩, ⟨some 2, none, .mov (.tmp 35)⟩])
      .ret)
      .skip))))))))
  (.seq (.region [⟨some 2, none, .mov (.const (.bool false))⟩])
  .ret)))),
  [.tmp 2]⟩
theorem c105 : cprog Go.Proofs.Try.prog 105 = some C105 := by kernel_rfl
end Go.Cs.Try

/- What the functions of the model that only read return. -/
namespace Go.Cs.Try
open Go Go.Cs
set_option maxRecDepth 100000
noncomputable abbrev P : CProg := cprog Go.Proofs.Try.prog
section
variable {o : Tags} {g : Nat} {H : CHeap} {b : Nat} {M : Mdl} {L : Lay}

theorem f48 {H : CHeap} {n : Int} : run P 48 [.i n] H = some (.bool (decide (0 ≤ n ∧ n < 16)), H) := by
  rw [run_lv c48]
  by_cases h0 : 0 ≤ n
  · by_cases h1 : n < 16
    · simp (disch := first | omega | rfl | assumption | (simp only [csN, Nat.reduceAdd, Nat.reduceMul, Nat.reduceLeDiff, Nat.reduceEqDiff] <;> omega) | (simp only [csF]; done) | (simp only [csF] <;> assumption) | fail) only [Nat.reduceEqDiff, Nat.reduceAdd, Nat.reduceMul, Nat.reduceSub, Nat.reduceLeDiff, Int.reduceAdd, Int.reduceSub, Int.reduceMul, Int.reduceLT, Int.reduceLE, Int.reduceGT, Int.reduceGE, Int.reduceEq, Int.reduceBEq, Int.reduceBNe, Int.reduceNeg, Int.reduceToNat, csAll, ↓reduceIte, C48, entry_1]; simp [h0, h1]
    · simp (disch := first | omega | rfl | assumption | (simp only [csN, Nat.reduceAdd, Nat.reduceMul, Nat.reduceLeDiff, Nat.reduceEqDiff] <;> omega) | (simp only [csF]; done) | (simp only [csF] <;> assumption) | fail) only [Nat.reduceEqDiff, Nat.reduceAdd, Nat.reduceMul, Nat.reduceSub, Nat.reduceLeDiff, Int.reduceAdd, Int.reduceSub, Int.reduceMul, Int.reduceLT, Int.reduceLE, Int.reduceGT, Int.reduceGE, Int.reduceEq, Int.reduceBEq, Int.reduceBNe, Int.reduceNeg, Int.reduceToNat, csAll, ↓reduceIte, C48, entry_1]; simp [h0, h1]
  · simp (disch := first | omega | rfl | assumption | (simp only [csN, Nat.reduceAdd, Nat.reduceMul, Nat.reduceLeDiff, Nat.reduceEqDiff] <;> omega) | (simp only [csF]; done) | (simp only [csF] <;> assumption) | fail) only [Nat.reduceEqDiff, Nat.reduceAdd, Nat.reduceMul, Nat.reduceSub, Nat.reduceLeDiff, Int.reduceAdd, Int.reduceSub, Int.reduceMul, Int.reduceLT, Int.reduceLE, Int.reduceGT, Int.reduceGE, Int.reduceEq, Int.reduceBEq, Int.reduceBNe, Int.reduceNeg, Int.reduceToNat, csAll, ↓reduceIte, C48, entry_1]; simp [h0]

theorem f41 (m : MRep o g H b M L) (w : M.Ok) : run P 41 [.ptr b 0] H = some (.bool true, H) := by
  have h1 := m.cells
  have h2 := m.slots.len
  have h3 := w.ns
  rw [run_lv c41]
  simp (disch := first | omega | rfl | assumption | (simp only [csN, Nat.reduceAdd, Nat.reduceMul, Nat.reduceLeDiff, Nat.reduceEqDiff] <;> omega) | (simp only [csF]; done) | (simp only [csF] <;> assumption) | fail) only [Nat.reduceEqDiff, Nat.reduceAdd, Nat.reduceMul, Nat.reduceSub, Nat.reduceLeDiff, Int.reduceAdd, Int.reduceSub, Int.reduceMul, Int.reduceLT, Int.reduceLE, Int.reduceGT, Int.reduceGE, Int.reduceEq, Int.reduceBEq, Int.reduceBNe, Int.reduceNeg, Int.reduceToNat, csAll, ↓reduceIte, C41, entry_1, h1, h2]

theorem f22 (m : MRep o g H b M L) (w : M.Ok) : run P 22 [.ptr b 0] H = some (.i M.slots.length, H) := by
  have h1 := m.cells
  have h2 := m.slots.len
  have h4 := f41 m w
  rw [run_lv c22]
  simp (disch := first | omega | rfl | assumption | (simp only [csN, Nat.reduceAdd, Nat.reduceMul, Nat.reduceLeDiff, Nat.reduceEqDiff] <;> omega) | (simp only [csF]; done) | (simp only [csF] <;> assumption) | fail) only [Nat.reduceEqDiff, Nat.reduceAdd, Nat.reduceMul, Nat.reduceSub, Nat.reduceLeDiff, Int.reduceAdd, Int.reduceSub, Int.reduceMul, Int.reduceLT, Int.reduceLE, Int.reduceGT, Int.reduceGE, Int.reduceEq, Int.reduceBEq, Int.reduceBNe, Int.reduceNeg, Int.reduceToNat, csAll, ↓reduceIte, C22, entry_1, h1, h2, h4]

theorem f23 (m : MRep o g H b M L) (w : M.Ok) : run P 23 [.ptr b 0] H = some (.i M.objs.length, H) := by
  have h1 := m.cells
  have h2 := m.objs.len
  have h4 := f41 m w
  rw [run_lv c23]
  simp (disch := first | omega | rfl | assumption | (simp only [csN, Nat.reduceAdd, Nat.reduceMul, Nat.reduceLeDiff, Nat.reduceEqDiff] <;> omega) | (simp only [csF]; done) | (simp only [csF] <;> assumption) | fail) only [Nat.reduceEqDiff, Nat.reduceAdd, Nat.reduceMul, Nat.reduceSub, Nat.reduceLeDiff, Int.reduceAdd, Int.reduceSub, Int.reduceMul, Int.reduceLT, Int.reduceLE, Int.reduceGT, Int.reduceGE, Int.reduceEq, Int.reduceBEq, Int.reduceBNe, Int.reduceNeg, Int.reduceToNat, csAll, ↓reduceIte, C23, entry_1, h1, h2, h4]

theorem f25 (m : MRep o g H b M L) (w : M.Ok) (mu i : Int) : run P 25 [.ptr b 0, .i mu, .i i] H = some (pair2 (M.slotAt mu i), H) := by
  have h1 := m.cells
  have h2 := m.slots.len
  have h4 := f41 m w
  rw [run_lv c25]
  by_cases c : 0 ≤ mu ∧ mu < M.slots.length ∧ 0 ≤ i ∧ i < 16
  · obtain ⟨c1, c2, c3, c4⟩ := c
    have hs := getD_of (l := M.slots) (i := mu.toNat) [] (by omega)
    obtain ⟨v, hv, ha⟩ := m.slot _ _ hs
    obtain ⟨tl, e1, e2, e3, e4⟩ := m.slots.pos (by omega)
    obtain ⟨tl', d1, d2, d3, d4⟩ := ha.pos (by omega)
    have hx := getD_of (l := M.slots.getD mu.toNat []) (i := i.toNat) 0 (by have := (w.s16 _ (List.mem_of_getElem? hs)).1; omega)
    have hx' := ints_get (M.slots.getD mu.toNat []) i.toNat
    rw [hx] at hx'
    rw [e1] at h1 h2
    rw [d1] at hv
    have hc : decide (0 ≤ i ∧ i < 16) = true := by simp [c3, c4]
    have hp : M.slotAt mu i = ((M.slots.getD mu.toNat []).getD i.toNat 0, 0) := by unfold Mdl.slotAt; rw [if_pos ⟨c1, c2, c3, c4⟩]
    simp (disch := first | omega | rfl | assumption | (simp only [csN, Nat.reduceAdd, Nat.reduceMul, Nat.reduceLeDiff, Nat.reduceEqDiff] <;> omega) | (simp only [csF]; done) | (simp only [csF] <;> assumption) | fail) only [Nat.reduceEqDiff, Nat.reduceAdd, Nat.reduceMul, Nat.reduceSub, Nat.reduceLeDiff, Int.reduceAdd, Int.reduceSub, Int.reduceMul, Int.reduceLT, Int.reduceLE, Int.reduceGT, Int.reduceGE, Int.reduceEq, Int.reduceBEq, Int.reduceBNe, Int.reduceNeg, Int.reduceToNat, csAll, ↓reduceIte, C25, entry_3, h1, h2, h4, f48, hc, e3, hv, d3, hx', pair2, hp]
  · have hp : pair2 (M.slotAt mu i) = .tup [.i 0, .i 1] := by unfold Mdl.slotAt pair2; rw [if_neg c]
    rw [hp]
    by_cases c1 : 0 ≤ mu
    · by_cases c2 : mu < M.slots.length
      · have hc : decide (0 ≤ i ∧ i < 16) = false := by
          simp only [decide_eq_false_iff_not]; intro hh; exact c ⟨c1, c2, hh⟩
        simp (disch := first | omega | rfl | assumption | (simp only [csN, Nat.reduceAdd, Nat.reduceMul, Nat.reduceLeDiff, Nat.reduceEqDiff] <;> omega) | (simp only [csF]; done) | (simp only [csF] <;> assumption) | fail) only [Nat.reduceEqDiff, Nat.reduceAdd, Nat.reduceMul, Nat.reduceSub, Nat.reduceLeDiff, Int.reduceAdd, Int.reduceSub, Int.reduceMul, Int.reduceLT, Int.reduceLE, Int.reduceGT, Int.reduceGE, Int.reduceEq, Int.reduceBEq, Int.reduceBNe, Int.reduceNeg, Int.reduceToNat, csAll, ↓reduceIte, C25, entry_3, h1, h2, h4, f48, hc]
      · simp (disch := first | omega | rfl | assumption | (simp only [csN, Nat.reduceAdd, Nat.reduceMul, Nat.reduceLeDiff, Nat.reduceEqDiff] <;> omega) | (simp only [csF]; done) | (simp only [csF] <;> assumption) | fail) only [Nat.reduceEqDiff, Nat.reduceAdd, Nat.reduceMul, Nat.reduceSub, Nat.reduceLeDiff, Int.reduceAdd, Int.reduceSub, Int.reduceMul, Int.reduceLT, Int.reduceLE, Int.reduceGT, Int.reduceGE, Int.reduceEq, Int.reduceBEq, Int.reduceBNe, Int.reduceNeg, Int.reduceToNat, csAll, ↓reduceIte, C25, entry_3, h1, h2, h4, f48]
    · simp (disch := first | omega | rfl | assumption | (simp only [csN, Nat.reduceAdd, Nat.reduceMul, Nat.reduceLeDiff, Nat.reduceEqDiff] <;> omega) | (simp only [csF]; done) | (simp only [csF] <;> assumption) | fail) only [Nat.reduceEqDiff, Nat.reduceAdd, Nat.reduceMul, Nat.reduceSub, Nat.reduceLeDiff, Int.reduceAdd, Int.reduceSub, Int.reduceMul, Int.reduceLT, Int.reduceLE, Int.reduceGT, Int.reduceGE, Int.reduceEq, Int.reduceBEq, Int.reduceBNe, Int.reduceNeg, Int.reduceToNat, csAll, ↓reduceIte, C25, entry_3, h1, h2, h4, f48]

theorem f37 (m : MRep o g H b M L) (w : M.Ok) (i : Int) : run P 37 [.ptr b 0, .i i] H = some (pair2 (M.globalAt i), H) := by
  have h1 := m.cells
  have h4 := f41 m w
  rw [run_lv c37]
  by_cases c : 0 ≤ i ∧ i < 16
  · obtain ⟨c3, c4⟩ := c
    obtain ⟨tl, e1, e2, e3, e4⟩ := m.globals.pos (by omega)
    have hx := getD_of (l := M.globals) (i := i.toNat) 0 (by have := w.g16.1; omega)
    have hx' := ints_get M.globals i.toNat
    rw [hx] at hx'
    rw [e1] at h1
    have hp : M.globalAt i = (M.globals.getD i.toNat 0, 0) := by unfold Mdl.globalAt; rw [if_pos ⟨c3, c4⟩]
    simp (disch := first | omega | rfl | assumption | (simp only [csN, Nat.reduceAdd, Nat.reduceMul, Nat.reduceLeDiff, Nat.reduceEqDiff] <;> omega) | (simp only [csF]; done) | (simp only [csF] <;> assumption) | fail) only [Nat.reduceEqDiff, Nat.reduceAdd, Nat.reduceMul, Nat.reduceSub, Nat.reduceLeDiff, Int.reduceAdd, Int.reduceSub, Int.reduceMul, Int.reduceLT, Int.reduceLE, Int.reduceGT, Int.reduceGE, Int.reduceEq, Int.reduceBEq, Int.reduceBNe, Int.reduceNeg, Int.reduceToNat, csAll, ↓reduceIte, C37, entry_2, h1, h4, e3, hx', pair2, hp]
  · have hp : pair2 (M.globalAt i) = .tup [.i 0, .i 1] := by unfold Mdl.globalAt pair2; rw [if_neg c]
    rw [hp]
    by_cases c1 : 0 ≤ i
    · simp (disch := first | omega | rfl | assumption | (simp only [csN, Nat.reduceAdd, Nat.reduceMul, Nat.reduceLeDiff, Nat.reduceEqDiff] <;> omega) | (simp only [csF]; done) | (simp only [csF] <;> assumption) | fail) only [Nat.reduceEqDiff, Nat.reduceAdd, Nat.reduceMul, Nat.reduceSub, Nat.reduceLeDiff, Int.reduceAdd, Int.reduceSub, Int.reduceMul, Int.reduceLT, Int.reduceLE, Int.reduceGT, Int.reduceGE, Int.reduceEq, Int.reduceBEq, Int.reduceBNe, Int.reduceNeg, Int.reduceToNat, csAll, ↓reduceIte, C37, entry_2, h1, h4]
    · simp (disch := first | omega | rfl | assumption | (simp only [csN, Nat.reduceAdd, Nat.reduceMul, Nat.reduceLeDiff, Nat.reduceEqDiff] <;> omega) | (simp only [csF]; done) | (simp only [csF] <;> assumption) | fail) only [Nat.reduceEqDiff, Nat.reduceAdd, Nat.reduceMul, Nat.reduceSub, Nat.reduceLeDiff, Int.reduceAdd, Int.reduceSub, Int.reduceMul, Int.reduceLT, Int.reduceLE, Int.reduceGT, Int.reduceGE, Int.reduceEq, Int.reduceBEq, Int.reduceBNe, Int.reduceNeg, Int.reduceToNat, csAll, ↓reduceIte, C37, entry_2, h1, h4]

theorem f45 (m : MRep o g H b M L) (w : M.Ok) (n : Int) : run P 45 [.ptr b 0, .i n] H = some (.bool (decide (M.has n)), H) := by
  have h1 := m.cells
  have h2 := m.objs.len
  have h4 := f41 m w
  rw [run_lv c45]
  by_cases c : 1 ≤ n
  · by_cases c' : n ≤ M.objs.length
    · have : decide (M.has n) = true := by simp [Mdl.has, c, c']
      simp (disch := first | omega | rfl | assumption | (simp only [csN, Nat.reduceAdd, Nat.reduceMul, Nat.reduceLeDiff, Nat.reduceEqDiff] <;> omega) | (simp only [csF]; done) | (simp only [csF] <;> assumption) | fail) only [Nat.reduceEqDiff, Nat.reduceAdd, Nat.reduceMul, Nat.reduceSub, Nat.reduceLeDiff, Int.reduceAdd, Int.reduceSub, Int.reduceMul, Int.reduceLT, Int.reduceLE, Int.reduceGT, Int.reduceGE, Int.reduceEq, Int.reduceBEq, Int.reduceBNe, Int.reduceNeg, Int.reduceToNat, csAll, ↓reduceIte, C45, entry_2, h1, h2, h4, this]
    · have : decide (M.has n) = false := by simp [Mdl.has, c, c']
      simp (disch := first | omega | rfl | assumption | (simp only [csN, Nat.reduceAdd, Nat.reduceMul, Nat.reduceLeDiff, Nat.reduceEqDiff] <;> omega) | (simp only [csF]; done) | (simp only [csF] <;> assumption) | fail) only [Nat.reduceEqDiff, Nat.reduceAdd, Nat.reduceMul, Nat.reduceSub, Nat.reduceLeDiff, Int.reduceAdd, Int.reduceSub, Int.reduceMul, Int.reduceLT, Int.reduceLE, Int.reduceGT, Int.reduceGE, Int.reduceEq, Int.reduceBEq, Int.reduceBNe, Int.reduceNeg, Int.reduceToNat, csAll, ↓reduceIte, C45, entry_2, h1, h2, h4, this]
  · have : decide (M.has n) = false := by simp [Mdl.has, c]
    simp (disch := first | omega | rfl | assumption | (simp only [csN, Nat.reduceAdd, Nat.reduceMul, Nat.reduceLeDiff, Nat.reduceEqDiff] <;> omega) | (simp only [csF]; done) | (simp only [csF] <;> assumption) | fail) only [Nat.reduceEqDiff, Nat.reduceAdd, Nat.reduceMul, Nat.reduceSub, Nat.reduceLeDiff, Int.reduceAdd, Int.reduceSub, Int.reduceMul, Int.reduceLT, Int.reduceLE, Int.reduceGT, Int.reduceGE, Int.reduceEq, Int.reduceBEq, Int.reduceBNe, Int.reduceNeg, Int.reduceToNat, csAll, ↓reduceIte, C45, entry_2, h1, h2, h4, this]

theorem f74 (m : MRep o g H b M L) (w : M.Ok) (n : Int) (c : M.has n) : run P 74 [.ptr b 0, .i n] H = some (.ptr (blkOf L.ov) ((n - 1).toNat * 5), H) := by
  have h1 := m.cells
  unfold Mdl.has at c
  have hf : (M.objs.length : Int) ≤ M.objs.length := by omega
  obtain ⟨tl, e1, e2, e3, e4⟩ := m.objs.pos (by omega)
  rw [e1] at h1
  rw [run_lv c74]
  have hw : IntKind.i64.wrap (n - 1) = n - 1 := by
    have h5 := lt_of_get e3
    apply wrap_id
    have := w.few
    omega
  simp (disch := first | omega | rfl | assumption | (simp only [csN, Nat.reduceAdd, Nat.reduceMul, Nat.reduceLeDiff, Nat.reduceEqDiff] <;> omega) | (simp only [csF]; done) | (simp only [csF] <;> assumption) | fail) only [Nat.reduceEqDiff, Nat.reduceAdd, Nat.reduceMul, Nat.reduceSub, Nat.reduceLeDiff, Int.reduceAdd, Int.reduceSub, Int.reduceMul, Int.reduceLT, Int.reduceLE, Int.reduceGT, Int.reduceGE, Int.reduceEq, Int.reduceBEq, Int.reduceBNe, Int.reduceNeg, Int.reduceToNat, csAll, ↓reduceIte, C74, entry_2, h1, hw]
end
end Go.Cs.Try

/- What the functions of the model that ask of an object return. -/
namespace Go.Cs.Try
open Go Go.Cs
set_option maxRecDepth 100000
section
variable {o : Tags} {g : Nat} {H : CHeap} {b : Nat} {M : Mdl} {L : Lay}

theorem f43_yes (m : MRep o g H b M L) (w : M.Ok) (n : Int) (c : M.has n) : run P 43 [.ptr b 0, .i n] H = some (.tup [.ptr (blkOf L.ov) ((n - 1).toNat * 5), .i 0], H) := by
  have h1 := f41 m w
  have h2 := f45 m w n
  have h3 := f74 m w n c
  have h4 : decide (M.has n) = true := by simp [c]
  rw [run_lv c43]
  simp (disch := first | omega | rfl | assumption | (simp only [csN, Nat.reduceAdd, Nat.reduceMul, Nat.reduceLeDiff, Nat.reduceEqDiff] <;> omega) | (simp only [csF]; done) | (simp only [csF] <;> assumption) | fail) only [Nat.reduceEqDiff, Nat.reduceAdd, Nat.reduceMul, Nat.reduceSub, Nat.reduceLeDiff, Int.reduceAdd, Int.reduceSub, Int.reduceMul, Int.reduceLT, Int.reduceLE, Int.reduceGT, Int.reduceGE, Int.reduceEq, Int.reduceBEq, Int.reduceBNe, Int.reduceNeg, Int.reduceToNat, csAll, ↓reduceIte, C43, entry_2, h1, h2, h3, h4]

theorem f43_no (m : MRep o g H b M L) (w : M.Ok) (n : Int) (c : ¬ M.has n) : run P 43 [.ptr b 0, .i n] H = some (.tup [.nilPtr, .i 4], H) := by
  have h1 := f41 m w
  have h2 := f45 m w n
  have h4 : decide (M.has n) = false := by simp [c]
  rw [run_lv c43]
  simp (disch := first | omega | rfl | assumption | (simp only [csN, Nat.reduceAdd, Nat.reduceMul, Nat.reduceLeDiff, Nat.reduceEqDiff] <;> omega) | (simp only [csF]; done) | (simp only [csF] <;> assumption) | fail) only [Nat.reduceEqDiff, Nat.reduceAdd, Nat.reduceMul, Nat.reduceSub, Nat.reduceLeDiff, Int.reduceAdd, Int.reduceSub, Int.reduceMul, Int.reduceLT, Int.reduceLE, Int.reduceGT, Int.reduceGE, Int.reduceEq, Int.reduceBEq, Int.reduceBNe, Int.reduceNeg, Int.reduceToNat, csAll, ↓reduceIte, C43, entry_2, h1, h2, h4]

theorem f44 {t : Tag} {v : CV} {l : List Int} (a : At o t H v 1 l.length (ints l)) (i : Int) : run P 44 [v, .i i] H = some (pair2 (elAt l i), H) := by
  have h1 := a.len
  rw [run_lv c44]
  by_cases c : 0 ≤ i ∧ i < (l.length : Int)
  · obtain ⟨c1, c2⟩ := c
    obtain ⟨tl, e1, e2, e3, e4⟩ := a.pos (by omega)
    have hx := getD_of (l := l) (i := i.toNat) 0 (by omega)
    have hx' := ints_get l i.toNat
    rw [hx] at hx'
    have hp : elAt l i = (l.getD i.toNat 0, 0) := by unfold elAt; rw [if_pos ⟨c1, c2⟩]
    rw [e1] at h1 ⊢
    simp (disch := first | omega | rfl | assumption | (simp only [csN, Nat.reduceAdd, Nat.reduceMul, Nat.reduceLeDiff, Nat.reduceEqDiff] <;> omega) | (simp only [csF]; done) | (simp only [csF] <;> assumption) | fail) only [Nat.reduceEqDiff, Nat.reduceAdd, Nat.reduceMul, Nat.reduceSub, Nat.reduceLeDiff, Int.reduceAdd, Int.reduceSub, Int.reduceMul, Int.reduceLT, Int.reduceLE, Int.reduceGT, Int.reduceGE, Int.reduceEq, Int.reduceBEq, Int.reduceBNe, Int.reduceNeg, Int.reduceToNat, csAll, ↓reduceIte, C44, entry_2, h1, e3, hx', hp, pair2]
  · have hp : elAt l i = (0, 1) := by unfold elAt; rw [if_neg c]
    by_cases c1 : 0 ≤ i
    · simp (disch := first | omega | rfl | assumption | (simp only [csN, Nat.reduceAdd, Nat.reduceMul, Nat.reduceLeDiff, Nat.reduceEqDiff] <;> omega) | (simp only [csF]; done) | (simp only [csF] <;> assumption) | fail) only [Nat.reduceEqDiff, Nat.reduceAdd, Nat.reduceMul, Nat.reduceSub, Nat.reduceLeDiff, Int.reduceAdd, Int.reduceSub, Int.reduceMul, Int.reduceLT, Int.reduceLE, Int.reduceGT, Int.reduceGE, Int.reduceEq, Int.reduceBEq, Int.reduceBNe, Int.reduceNeg, Int.reduceToNat, csAll, ↓reduceIte, C44, entry_2, h1, hp, pair2]
    · simp (disch := first | omega | rfl | assumption | (simp only [csN, Nat.reduceAdd, Nat.reduceMul, Nat.reduceLeDiff, Nat.reduceEqDiff] <;> omega) | (simp only [csF]; done) | (simp only [csF] <;> assumption) | fail) only [Nat.reduceEqDiff, Nat.reduceAdd, Nat.reduceMul, Nat.reduceSub, Nat.reduceLeDiff, Int.reduceAdd, Int.reduceSub, Int.reduceMul, Int.reduceLT, Int.reduceLE, Int.reduceGT, Int.reduceGE, Int.reduceEq, Int.reduceBEq, Int.reduceBNe, Int.reduceNeg, Int.reduceToNat, csAll, ↓reduceIte, C44, entry_2, h1, hp, pair2]

def shape3 (s : Int × Int × Int) : List CV := [.i s.1, .i s.2.1, .i s.2.2]

theorem drop_get {l : List CV} {k i : Nat} : l[k + i]? = (l.drop k)[i]? := by rw [List.getElem?_drop]

theorem f15 (m : MRep o g H b M L) (w : M.Ok) (n : Int) : run P 15 [.ptr b 0, .i n] H = some (.tup [.agg (shape3 (M.shapeAt n).1), .i (M.shapeAt n).2], H ++ [⟨shape3 (M.shapeAt n).1, .rw, 0⟩]) := by
  have m' := m.app [⟨[.i 0, .i 0, .i 0], .rw, 0⟩]
  rw [run_lv c15]
  by_cases c : M.has n
  · have h1 := f43_yes m' w n c
    obtain ⟨h, rest, -, h2, h3, h4, -, -, -⟩ := m'.objAt n c
    have hl := lt_of_get h2
    have hd := m.dom _ _ m.top
    have h5 : blkOf L.ov < H.length := by
      obtain ⟨_, _, _, e3, _, _, e, _⟩ := m.objAt n c
      exact m.dom _ _ e
    rw [List.getElem?_append_left h5] at h2
    have hp : M.shapeAt n = (((M.obj n).nr, (M.obj n).nd, (M.obj n).kd), 0) := by unfold Mdl.shapeAt; rw [if_pos c]
    simp (disch := first | omega | rfl | assumption | (simp only [csN, Nat.reduceAdd, Nat.reduceMul, Nat.reduceLeDiff, Nat.reduceEqDiff] <;> omega) | (simp only [csF]; done) | (simp only [csF] <;> assumption) | fail) only [Nat.reduceEqDiff, Nat.reduceAdd, Nat.reduceMul, Nat.reduceSub, Nat.reduceLeDiff, Int.reduceAdd, Int.reduceSub, Int.reduceMul, Int.reduceLT, Int.reduceLE, Int.reduceGT, Int.reduceGE, Int.reduceEq, Int.reduceBEq, Int.reduceBNe, Int.reduceNeg, Int.reduceToNat, csAll, ↓reduceIte, C15, entry_2, h1, h2, h3, hp, shape3]
  · have h1 := f43_no m' w n c
    have hp : M.shapeAt n = ((0, 0, 0), 4) := by unfold Mdl.shapeAt; rw [if_neg c]
    simp (disch := first | omega | rfl | assumption | (simp only [csN, Nat.reduceAdd, Nat.reduceMul, Nat.reduceLeDiff, Nat.reduceEqDiff] <;> omega) | (simp only [csF]; done) | (simp only [csF] <;> assumption) | fail) only [Nat.reduceEqDiff, Nat.reduceAdd, Nat.reduceMul, Nat.reduceSub, Nat.reduceLeDiff, Int.reduceAdd, Int.reduceSub, Int.reduceMul, Int.reduceLT, Int.reduceLE, Int.reduceGT, Int.reduceGE, Int.reduceEq, Int.reduceBEq, Int.reduceBNe, Int.reduceNeg, Int.reduceToNat, csAll, ↓reduceIte, C15, entry_2, h1, hp, shape3]

theorem f16 (m : MRep o g H b M L) (w : M.Ok) (n i : Int) : run P 16 [.ptr b 0, .i n, .i i] H = some (pair2 (M.refAt n i), H) := by
  rw [run_lv c16]
  by_cases c : M.has n
  · have h1 := f43_yes m w n c
    obtain ⟨h, rest, -, h2, h3, h4, -, h6, h7⟩ := m.objAt n c
    have h5 := f44 h6 i
    have hp : M.refAt n i = elAt (M.obj n).refs i := by unfold Mdl.refAt; rw [if_pos c]
    simp (disch := first | omega | rfl | assumption | (simp only [csN, Nat.reduceAdd, Nat.reduceMul, Nat.reduceLeDiff, Nat.reduceEqDiff] <;> omega) | (simp only [csF]; done) | (simp only [csF] <;> assumption) | fail) only [Nat.reduceEqDiff, Nat.reduceAdd, Nat.reduceMul, Nat.reduceSub, Nat.reduceLeDiff, Int.reduceAdd, Int.reduceSub, Int.reduceMul, Int.reduceLT, Int.reduceLE, Int.reduceGT, Int.reduceGE, Int.reduceEq, Int.reduceBEq, Int.reduceBNe, Int.reduceNeg, Int.reduceToNat, csAll, ↓reduceIte, C16, entry_3, h1, h2, drop_get, h3, h5, hp, pair2]
  · have h1 := f43_no m w n c
    have hp : M.refAt n i = (0, 4) := by unfold Mdl.refAt; rw [if_neg c]
    simp (disch := first | omega | rfl | assumption | (simp only [csN, Nat.reduceAdd, Nat.reduceMul, Nat.reduceLeDiff, Nat.reduceEqDiff] <;> omega) | (simp only [csF]; done) | (simp only [csF] <;> assumption) | fail) only [Nat.reduceEqDiff, Nat.reduceAdd, Nat.reduceMul, Nat.reduceSub, Nat.reduceLeDiff, Int.reduceAdd, Int.reduceSub, Int.reduceMul, Int.reduceLT, Int.reduceLE, Int.reduceGT, Int.reduceGE, Int.reduceEq, Int.reduceBEq, Int.reduceBNe, Int.reduceNeg, Int.reduceToNat, csAll, ↓reduceIte, C16, entry_3, h1, hp, pair2]

theorem f47 (m : MRep o g H b M L) (w : M.Ok) (n i : Int) : run P 47 [.ptr b 0, .i n, .i i] H = some (pair2 (M.dataAt n i), H) := by
  rw [run_lv c47]
  by_cases c : M.has n
  · have h1 := f43_yes m w n c
    obtain ⟨h, rest, -, h2, h3, h4, -, h6, h7⟩ := m.objAt n c
    have h5 := f44 h7 i
    have hp : M.dataAt n i = elAt (M.obj n).data i := by unfold Mdl.dataAt; rw [if_pos c]
    simp (disch := first | omega | rfl | assumption | (simp only [csN, Nat.reduceAdd, Nat.reduceMul, Nat.reduceLeDiff, Nat.reduceEqDiff] <;> omega) | (simp only [csF]; done) | (simp only [csF] <;> assumption) | fail) only [Nat.reduceEqDiff, Nat.reduceAdd, Nat.reduceMul, Nat.reduceSub, Nat.reduceLeDiff, Int.reduceAdd, Int.reduceSub, Int.reduceMul, Int.reduceLT, Int.reduceLE, Int.reduceGT, Int.reduceGE, Int.reduceEq, Int.reduceBEq, Int.reduceBNe, Int.reduceNeg, Int.reduceToNat, csAll, ↓reduceIte, C47, entry_3, h1, h2, drop_get, h3, h5, hp, pair2]
  · have h1 := f43_no m w n c
    have hp : M.dataAt n i = (0, 4) := by unfold Mdl.dataAt; rw [if_neg c]
    simp (disch := first | omega | rfl | assumption | (simp only [csN, Nat.reduceAdd, Nat.reduceMul, Nat.reduceLeDiff, Nat.reduceEqDiff] <;> omega) | (simp only [csF]; done) | (simp only [csF] <;> assumption) | fail) only [Nat.reduceEqDiff, Nat.reduceAdd, Nat.reduceMul, Nat.reduceSub, Nat.reduceLeDiff, Int.reduceAdd, Int.reduceSub, Int.reduceMul, Int.reduceLT, Int.reduceLE, Int.reduceGT, Int.reduceGE, Int.reduceEq, Int.reduceBEq, Int.reduceBNe, Int.reduceNeg, Int.reduceToNat, csAll, ↓reduceIte, C47, entry_3, h1, hp, pair2]
end
end Go.Cs.Try

/- Changes of a model, and how they are kept in the clean heap. -/
namespace Go.Cs
open Go

/-! ### What a call may change -/

structure Frm (g : Nat) (o : Tags) (H : CHeap) (o' : Tags) (H' : CHeap) : Prop where
  len : H.length ≤ H'.length
  tag : ∀ c, c < H.length → o' c = o c
  new : ∀ c t, o' c = some t → H.length ≤ c → t.1 = g
  keep : ∀ c, c < H.length → (∀ k, o c ≠ some (g, k)) → H'[c]? = H[c]?

theorem Frm.trans {g : Nat} {o o' o'' : Tags} {H H' H'' : CHeap} (a : Frm g o H o' H') (c : Frm g o' H' o'' H'') : Frm g o H o'' H'' where
  len := Nat.le_trans a.len c.len
  tag := fun x h => by rw [c.tag x (Nat.lt_of_lt_of_le h a.len), a.tag x h]
  new := fun x t h hx => by
    by_cases hl : x < H'.length
    · rw [c.tag x hl] at h; exact a.new x t h hx
    · exact c.new x t h (by omega)
  keep := fun x h hk => by
    have := Nat.lt_of_lt_of_le h a.len
    rw [c.keep x this (by rw [a.tag x h]; exact hk), a.keep x h hk]

theorem Frm.refl {g : Nat} {o : Tags} {H : CHeap} (hd : ∀ c t, o c = some t → c < H.length) : Frm g o H o H :=
  ⟨Nat.le_refl _, fun _ _ => rfl, fun c t h hc => by have := hd c t h; omega, fun _ _ _ => rfl⟩

theorem Frm.grow {g : Nat} {o : Tags} {H H' : CHeap} (hd : ∀ c t, o c = some t → c < H.length) (hl : H.length ≤ H'.length) (hk : ∀ c, c < H.length → H'[c]? = H[c]?) : Frm g o H o H' :=
  ⟨hl, fun _ _ => rfl, fun c t h hc => by have := hd c t h; omega, fun c h _ => hk c h⟩

/-- Another model is not touched. -/
theorem MRep.other {o o' : Tags} {g g' : Nat} {H H' : CHeap} {b : Nat} {M : Mdl} {L : Lay} (m : MRep o g H b M L) (f : Frm g' o H o' H') (hg : g ≠ g') (hd : ∀ c t, o' c = some t → c < H'.length) : MRep o' g H' b M L :=
  m.frame hd (fun c k h => by rw [f.tag c (m.dom c _ h), h]) (fun c k h => f.keep c (m.dom c _ h) (by intro k' h'; rw [h] at h'; simp only [Option.some.injEq, Prod.mk.injEq] at h'; exact hg h'.1))

/-- What a call that changes a model comes to. -/
def Does (o : Tags) (g : Nat) (H : CHeap) (b : Nat) (M' : Mdl) (v : CV) (r : Option (CV × CHeap)) : Prop :=
  ∃ H' o' L', r = some (v, H') ∧ MRep o' g H' b M' L' ∧ Frm g o H o' H'

/-! ### Changes -/

theorem objCells_set : ∀ (xs : List Obj) (hs : List (CV × CV)) (j : Nat) (x x' : Obj), xs[j]? = some x → x'.nr = x.nr → x'.nd = x.nd → x'.kd = x.kd → objCells (xs.set j x') hs = objCells xs hs
  | [], _, j, _, _, e, _, _, _ => by simp at e
  | y :: ys, [], 0, _, _, _, _, _, _ => rfl
  | y :: ys, [], j + 1, _, _, _, _, _, _ => rfl
  | y :: ys, h :: hs, 0, x, x', e, e1, e2, e3 => by
    simp only [List.getElem?_cons_zero, Option.some.injEq] at e
    subst e
    simp only [List.set_cons_zero, objCells, e1, e2, e3]
  | y :: ys, h :: hs, j + 1, x, x', e, e1, e2, e3 => by
    simp only [List.getElem?_cons_succ] at e
    simp only [List.set_cons_succ, objCells]
    rw [objCells_set ys hs j x x' e e1 e2 e3]

section
variable {o : Tags} {g : Nat} {H H' : CHeap} {b : Nat} {M : Mdl} {L : Lay}

theorem MRep.setObj (m : MRep o g H b M L) {j : Nat} {x x' : Obj} (hx : M.objs[j]? = some x) (e : x'.nr = x.nr ∧ x'.nd = x.nd ∧ x'.kd = x.kd ∧ x'.refs.length = x.refs.length ∧ x'.data.length = x.data.length)
    (hl : H.length ≤ H'.length) (hf : ∀ c k, o c = some (g, k) → k ≠ (6, j) → k ≠ (7, j) → H'[c]? = H[c]?)
    (hr : ∀ h, L.hv[j]? = some h → At o (g, 6, j) H' h.1 1 x.refs.length (ints x'.refs) ∧ At o (g, 7, j) H' h.2 1 x.data.length (ints x'.data)) :
    MRep o g H' b { M with objs := M.objs.set j x' } L where
  dom := fun c t h => Nat.lt_of_lt_of_le (m.dom c t h) hl
  top := m.top
  cells := by rw [hf _ _ m.top (by simp) (by simp), m.cells]
  nsv := m.nsv
  slots := m.slots.frame (fun c h => h) (fun c h => hf c _ h (by simp) (by simp))
  slot := fun i s h => by
    obtain ⟨v, h1, h2⟩ := m.slot i s h
    exact ⟨v, h1, h2.frame (fun c h => h) (fun c h => hf c _ h (by simp) (by simp))⟩
  globals := m.globals.frame (fun c h => h) (fun c h => hf c _ h (by simp) (by simp))
  queue := m.queue.frame (fun c h => h) (fun c h => hf c _ h (by simp) (by simp))
  nhv := by simp [m.nhv]
  objs := by
    have := m.objs.frame (o' := o) (H' := H') (fun c h => h) (fun c h => hf c _ h (by simp) (by simp))
    rw [objCells_set _ _ _ _ _ hx e.1 e.2.1 e.2.2.1, List.length_set]
    exact this
  refs := fun i y h => by
    rw [List.getElem?_set] at h
    by_cases hij : j = i
    · subst hij
      rw [if_pos rfl] at h
      split at h
      · simp only [Option.some.injEq] at h
        subst h
        obtain ⟨v, h1, h2, h3⟩ := m.refs j x hx
        obtain ⟨h4, h5⟩ := hr v h1
        exact ⟨v, h1, by rw [e.2.2.2.1]; exact h4, by rw [e.2.2.2.2]; exact h5⟩
      · cases h
    · rw [if_neg hij] at h
      obtain ⟨v, h1, h2, h3⟩ := m.refs i y h
      refine ⟨v, h1, h2.frame (fun c h => h) (fun c h => hf c _ h ?_ ?_), h3.frame (fun c h => h) (fun c h => hf c _ h ?_ ?_)⟩ <;>
        (simp only [ne_eq, Prod.mk.injEq, not_and]; omega)

theorem MRep.setSlot (m : MRep o g H b M L) {j : Nat} {s s' : List Int} (hs : M.slots[j]? = some s)
    (hl : H.length ≤ H'.length) (hf : ∀ c k, o c = some (g, k) → k ≠ (2, j) → H'[c]? = H[c]?)
    (hr : ∀ v, L.sv[j]? = some v → At o (g, 2, j) H' v 1 16 (ints s')) :
    MRep o g H' b { M with slots := M.slots.set j s' } L where
  dom := fun c t h => Nat.lt_of_lt_of_le (m.dom c t h) hl
  top := m.top
  cells := by rw [hf _ _ m.top (by simp), m.cells]
  nsv := by simp [m.nsv]
  slots := by
    have := m.slots.frame (o' := o) (H' := H') (fun c h => h) (fun c h => hf c _ h (by simp))
    rw [List.length_set]; exact this
  slot := fun i s h => by
    rw [List.getElem?_set] at h
    by_cases hij : j = i
    · subst hij
      rw [if_pos rfl] at h
      split at h
      · simp only [Option.some.injEq] at h
        subst h
        obtain ⟨v, h1, h2⟩ := m.slot j _ hs
        exact ⟨v, h1, hr v h1⟩
      · cases h
    · rw [if_neg hij] at h
      obtain ⟨v, h1, h2⟩ := m.slot i s h
      exact ⟨v, h1, h2.frame (fun c h => h) (fun c h => hf c _ h (by simp only [ne_eq, Prod.mk.injEq, not_and]; omega))⟩
  globals := m.globals.frame (fun c h => h) (fun c h => hf c _ h (by simp))
  queue := m.queue.frame (fun c h => h) (fun c h => hf c _ h (by simp))
  nhv := m.nhv
  objs := m.objs.frame (fun c h => h) (fun c h => hf c _ h (by simp))
  refs := fun j x h => by
    obtain ⟨v, h1, h2, h3⟩ := m.refs j x h
    exact ⟨v, h1, h2.frame (fun c h => h) (fun c h => hf c _ h (by simp)), h3.frame (fun c h => h) (fun c h => hf c _ h (by simp))⟩

theorem MRep.setGlobals (m : MRep o g H b M L) {l : List Int}
    (hl : H.length ≤ H'.length) (hf : ∀ c k, o c = some (g, k) → k ≠ (3, 0) → H'[c]? = H[c]?)
    (hr : At o (g, 3, 0) H' L.gl 1 16 (ints l)) :
    MRep o g H' b { M with globals := l } L where
  dom := fun c t h => Nat.lt_of_lt_of_le (m.dom c t h) hl
  top := m.top
  cells := by rw [hf _ _ m.top (by simp), m.cells]
  nsv := m.nsv
  slots := m.slots.frame (fun c h => h) (fun c h => hf c _ h (by simp))
  slot := fun i s h => by
    obtain ⟨v, h1, h2⟩ := m.slot i s h
    exact ⟨v, h1, h2.frame (fun c h => h) (fun c h => hf c _ h (by simp))⟩
  globals := hr
  queue := m.queue.frame (fun c h => h) (fun c h => hf c _ h (by simp))
  nhv := m.nhv
  objs := m.objs.frame (fun c h => h) (fun c h => hf c _ h (by simp))
  refs := fun j x h => by
    obtain ⟨v, h1, h2, h3⟩ := m.refs j x h
    exact ⟨v, h1, h2.frame (fun c h => h) (fun c h => hf c _ h (by simp)), h3.frame (fun c h => h) (fun c h => hf c _ h (by simp))⟩

def Tags.put (o : Tags) (c : Nat) (t : Tag) : Tags := fun d => if d = c then some t else o d
theorem Tags.put_eq {o : Tags} {c : Nat} {t : Tag} : o.put c t c = some t := by simp [Tags.put]
theorem Tags.put_ne {o : Tags} {c d : Nat} {t : Tag} (h : d ≠ c) : o.put c t d = o d := by simp [Tags.put, h]

/-- A block that is new is of a tag now. -/
theorem MRep.grows (m : MRep o g H b M L) {c : Nat} {t : Tag} (hc : H.length ≤ c) (hc' : c < H'.length) (hf : ∀ c k, o c = some (g, k) → H'[c]? = H[c]?) : MRep (o.put c t) g H' b M L :=
  m.frame (fun d k h => by
      by_cases e : d = c
      · subst e; exact hc'
      · rw [Tags.put_ne e] at h; have := m.dom d k h; omega)
    (fun d k h => by rw [Tags.put_ne]; · exact h
                     · have := m.dom d _ h; omega) hf

theorem MRep.setQueue (m : MRep o g H b M L) {l : List Int} {v : CV} {o' : Tags}
    (hd : ∀ c t, o' c = some t → c < H'.length) (ho : ∀ c k, o c = some (g, k) → o' c = some (g, k))
    (hl : H.length ≤ H'.length) (hf : ∀ c k, o c = some (g, k) → k ≠ (4, 0) → k ≠ (0, 0) → H'[c]? = H[c]?) (hb : H'[b]? = some ⟨[L.sl, L.gl, v, L.ov], .rw, 0⟩)
    (hr : At o' (g, 4, 0) H' v 1 l.length (ints l)) :
    MRep o' g H' b { M with queue := l } { L with qv := v } where
  dom := hd
  top := ho _ _ m.top
  cells := hb
  nsv := m.nsv
  slots := m.slots.frame (fun c => ho c _) (fun c h => hf c _ h (by simp) (by simp))
  slot := fun i s h => by
    obtain ⟨v, h1, h2⟩ := m.slot i s h
    exact ⟨v, h1, h2.frame (fun c => ho c _) (fun c h => hf c _ h (by simp) (by simp))⟩
  globals := m.globals.frame (fun c => ho c _) (fun c h => hf c _ h (by simp) (by simp))
  queue := hr
  nhv := m.nhv
  objs := m.objs.frame (fun c => ho c _) (fun c h => hf c _ h (by simp) (by simp))
  refs := fun j x h => by
    obtain ⟨v, h1, h2, h3⟩ := m.refs j x h
    exact ⟨v, h1, h2.frame (fun c => ho c _) (fun c h => hf c _ h (by simp) (by simp)), h3.frame (fun c => ho c _) (fun c h => hf c _ h (by simp) (by simp))⟩

/-- A further object. -/
theorem MRep.born (m : MRep o g H b M L) {x : Obj} {h : CV × CV} {v : CV} {o' : Tags}
    (hd : ∀ c t, o' c = some t → c < H'.length) (ho : ∀ c k, o c = some (g, k) → o' c = some (g, k))
    (hf : ∀ c k, o c = some (g, k) → k ≠ (5, 0) → k ≠ (0, 0) → H'[c]? = H[c]?) (hb : H'[b]? = some ⟨[L.sl, L.gl, L.qv, v], .rw, 0⟩)
    (hr : At o' (g, 5, 0) H' v 5 (M.objs.length + 1) (objCells M.objs L.hv ++ [.i x.nr, .i x.nd, .i x.kd, h.1, h.2]))
    (h1 : At o' (g, 6, M.objs.length) H' h.1 1 x.refs.length (ints x.refs)) (h2 : At o' (g, 7, M.objs.length) H' h.2 1 x.data.length (ints x.data)) :
    MRep o' g H' b { M with objs := M.objs ++ [x] } { L with ov := v, hv := L.hv ++ [h] } where
  dom := hd
  top := ho _ _ m.top
  cells := hb
  nsv := m.nsv
  slots := m.slots.frame (fun c => ho c _) (fun c h => hf c _ h (by simp) (by simp))
  slot := fun i s h => by
    obtain ⟨v, h1, h2⟩ := m.slot i s h
    exact ⟨v, h1, h2.frame (fun c => ho c _) (fun c h => hf c _ h (by simp) (by simp))⟩
  globals := m.globals.frame (fun c => ho c _) (fun c h => hf c _ h (by simp) (by simp))
  queue := m.queue.frame (fun c => ho c _) (fun c h => hf c _ h (by simp) (by simp))
  nhv := by simp [m.nhv]
  objs := by
    show At o' (g, 5, 0) H' v 5 (M.objs ++ [x]).length (objCells (M.objs ++ [x]) (L.hv ++ [h]))
    rw [objCells_app _ _ _ _ m.nhv, List.length_append]
    exact hr
  refs := fun j y hy => by
    rw [List.getElem?_append] at hy
    split at hy
    · rename_i hj
      obtain ⟨v, e1, e2, e3⟩ := m.refs j y hy
      refine ⟨v, ?_, e2.frame (fun c => ho c _) (fun c h => hf c _ h (by simp) (by simp)), e3.frame (fun c => ho c _) (fun c h => hf c _ h (by simp) (by simp))⟩
      show (L.hv ++ [h])[j]? = _
      rw [List.getElem?_append_left (by rw [m.nhv]; exact hj)]
      exact e1
    · rename_i hj
      have hj' : j = M.objs.length := by
        have := lt_of_get hy
        simp at this; omega
      subst hj'
      simp at hy
      subst hy
      refine ⟨h, ?_, h1, h2⟩
      show (L.hv ++ [h])[M.objs.length]? = _
      rw [← m.nhv]; simp
end
end Go.Cs

/- The changes of a model, plainly; and what keeps it in order. -/
namespace Go.Cs
open Go

def Mdl.setObj (M : Mdl) (n : Int) (x : Obj) : Mdl := { M with objs := M.objs.set (n - 1).toNat x }

def Mdl.push (M : Mdl) (n : Int) : Mdl × Int :=
  if M.has n then if M.queue.length = 64 then (M, 6) else ({ M with queue := M.queue ++ [n] }, 0) else (M, 4)

def Mdl.pop (M : Mdl) : Mdl × Int × Int :=
  match M.queue with
  | [] => (M, 0, 4)
  | a :: r => ({ M with queue := r }, a, 0)

def Mdl.setRef (M : Mdl) (n i to : Int) : Mdl × Int :=
  if M.has n then
    if 0 ≤ i ∧ i < ((M.obj n).refs.length : Int) ∧ (to = 0 ∨ M.has to) then
      (M.setObj n { M.obj n with refs := (M.obj n).refs.set i.toNat to }, 0)
    else (M, 1)
  else (M, 4)

theorem Obj.Ok.more {n k : Nat} {x : Obj} (h : x.Ok n) (hk : n ≤ k) : x.Ok k :=
  ⟨h.nr, h.nd, h.kd, fun v hv => by have := h.ids v hv; omega⟩

theorem Mdl.Ok.obj {M : Mdl} (w : M.Ok) {n : Int} (c : M.has n) : (M.obj n).Ok M.objs.length := w.objs _ (List.mem_of_getElem? (Mdl.obj_get c))

theorem Mdl.Ok.setObj {M : Mdl} (w : M.Ok) {n : Int} {x : Obj} (h : x.Ok M.objs.length) : (M.setObj n x).Ok where
  ns := w.ns
  s16 := by simpa [Mdl.setObj] using w.s16
  g16 := by simpa [Mdl.setObj] using w.g16
  q64 := by simpa [Mdl.setObj] using w.q64
  objs := fun y hy => by
    simp only [Mdl.setObj, List.length_set] at hy ⊢
    rcases List.mem_or_eq_of_mem_set hy with hy | rfl
    · exact w.objs y hy
    · exact h
  few := by simpa [Mdl.setObj] using w.few

theorem Mdl.Ok.push {M : Mdl} (w : M.Ok) (n : Int) : (M.push n).1.Ok := by
  unfold Mdl.push
  split
  · rename_i h
    split
    · exact w
    · rename_i hq
      refine ⟨w.ns, w.s16, w.g16, ⟨?_, ?_⟩, w.objs, w.few⟩
      · have := w.q64.1; simp; omega
      · intro v hv
        simp only [List.mem_append, List.mem_singleton] at hv
        rcases hv with hv | rfl
        · exact w.q64.2 v hv
        · exact h
  · exact w

theorem Mdl.Ok.pop {M : Mdl} (w : M.Ok) : M.pop.1.Ok := by
  unfold Mdl.pop
  split
  · exact w
  · rename_i a r h
    refine ⟨w.ns, w.s16, w.g16, ⟨?_, ?_⟩, w.objs, w.few⟩
    · have := w.q64.1; rw [h] at this; simp at this; show r.length ≤ 64; omega
    · intro v hv
      exact w.q64.2 v (by rw [h]; exact List.mem_cons_of_mem _ hv)

theorem Mdl.Ok.setRef {M : Mdl} (w : M.Ok) (n i to : Int) : (M.setRef n i to).1.Ok := by
  unfold Mdl.setRef
  split
  · rename_i h
    split
    · rename_i hi
      refine w.setObj ?_
      have hx := w.obj h
      refine ⟨by simpa using hx.nr, hx.nd, hx.kd, fun v hv => ?_⟩
      rcases List.mem_or_eq_of_mem_set hv with hv | rfl
      · exact hx.ids v hv
      · rcases hi.2.2 with rfl | h2
        · omega
        · unfold Mdl.has at h2; omega
    · exact w
  · exact w

/-- The tags of what is newer than a state of the heap. -/
def Loc (k : Nat) : Tags := fun c => if k ≤ c then some (0, 0, 0) else none
abbrev z3 : Tag := (0, 0, 0)
theorem Loc_some {k c : Nat} {t : Tag} : Loc k c = some t ↔ k ≤ c ∧ t = z3 := by
  unfold Loc
  split
  · simp only [Option.some.injEq]; constructor
    · intro h; exact ⟨by assumption, h.symm⟩
    · intro h; exact h.2.symm
  · simp; omega

/-- What was new comes to belong to a tag. -/
theorem At.adopt {k e n : Nat} {H : CHeap} {v : CV} {cs : List CV} {o : Tags} {t : Tag} (h : At (Loc k) z3 H v e n cs) (ho : ∀ d s, o d = some s → d < k) :
    ∃ o' : Tags, (∀ d, d < k → o' d = o d) ∧ (∀ d s, o' d = some s → k ≤ d → s = t ∧ d < H.length) ∧ At o' t H v e n cs := by
  rcases h with h | ⟨b, tl, rfl, h1, h2, h3⟩
  · exact ⟨o, fun _ _ => rfl, fun d s h1 h2 => by have := ho d s h1; omega, .inl h⟩
  · have hb := (Loc_some.1 h1).1
    refine ⟨o.put b t, fun d hd => Tags.put_ne (by omega), fun d s h4 h5 => ?_, .inr ⟨b, tl, rfl, Tags.put_eq, h2, h3⟩⟩
    by_cases e : d = b
    · subst e
      rw [Tags.put_eq] at h4
      simp only [Option.some.injEq] at h4
      exact ⟨h4.symm, lt_of_get h2⟩
    · rw [Tags.put_ne e] at h4
      have := ho d s h4; omega

/-- The queue is new. -/
theorem MRep.newQueue {o : Tags} {g : Nat} {H Hf : CHeap} {b : Nat} {M : Mdl} {L : Lay} (m : MRep o g H b M L) {v : CV} {l : List Int} (h : At (Loc H.length) z3 Hf v 1 l.length (ints l)) (hl : H.length ≤ Hf.length)
    (hb : Hf[b]? = some ⟨[L.sl, L.gl, v, L.ov], .rw, 0⟩) (hf : ∀ d, d < H.length → o d ≠ some (g, 4, 0) → d ≠ b → Hf[d]? = H[d]?) :
    ∃ o' L', MRep o' g Hf b { M with queue := l } L' ∧ Frm g o H o' Hf := by
  obtain ⟨o', h1, h2, h3⟩ := h.adopt (o := o) (t := (g, 4, 0)) m.dom
  refine ⟨o', { L with qv := v }, ?_, ?_⟩
  · refine m.setQueue (v := v) ?_ ?_ hl ?_ hb h3
    · intro c t h
      by_cases hc : c < H.length
      · omega
      · exact (h2 c t h (by omega)).2
    · intro c k h
      rw [h1 c (m.dom c _ h), h]
    · intro c k h k1 k2
      refine hf c (m.dom c _ h) (by rw [h]; simpa using k1) ?_
      rintro rfl
      rw [m.top] at h
      simp only [Option.some.injEq, Prod.mk.injEq, true_and] at h
      exact k2 h.symm
  · refine ⟨hl, h1, fun c t h hc => ?_, fun c hc hk => hf c hc (hk _) ?_⟩
    · rw [(h2 c t h hc).1]
    · rintro rfl; exact hk _ m.top
end Go.Cs

/- What the functions that change references and the queue do. -/
namespace Go.Cs.Try
open Go Go.Cs
set_option maxRecDepth 100000
section
variable {o : Tags} {g : Nat} {H : CHeap} {b : Nat} {M : Mdl} {L : Lay}

/-- slices.Clone of a list of integers. -/
theorem f53 {v : CV} {n : Nat} {cs : List CV} (hv : v = .nilSlice ∧ n = 0 ∧ cs = [] ∨ ∃ b f l c z t, v = .slice b f l c z t) (he : ∀ J, elems (H ++ J) 1 v = some (n, cs)) (hc : cs.length = n) (hl : cs.all leaf = true) (hn : n ≤ maxEls) :
    ∃ v' J, run P 53 [v] H = some (v', H ++ J) ∧ At (Loc H.length) z3 (H ++ J) v' 1 n cs := by
  rcases hv with ⟨rfl, rfl, rfl⟩ | ⟨b, f, l, c, z, t, rfl⟩
  · refine ⟨.nilSlice, [], ?_, .inl ⟨rfl, rfl, .inl rfl⟩⟩
    rw [run_lv c53, List.append_nil]
    have e : ∀ H, vEqv false 2 .nilSlice .nilSlice H = some (.bool true, H) := fun _ => rfl
    simp (disch := first | omega | rfl | assumption | (simp only [csN, Nat.reduceAdd, Nat.reduceMul, Nat.reduceLeDiff, Nat.reduceEqDiff] <;> omega) | (simp only [csF]; done) | (simp only [csF] <;> assumption) | fail) only [Nat.reduceEqDiff, Nat.reduceAdd, Nat.reduceMul, Nat.reduceSub, Nat.reduceLeDiff, Int.reduceAdd, Int.reduceSub, Int.reduceMul, Int.reduceLT, Int.reduceLE, Int.reduceGT, Int.reduceGE, Int.reduceEq, Int.reduceBEq, Int.reduceBNe, Int.reduceNeg, Int.reduceToNat, csAll, ↓reduceIte, C53, entry_1, e]
  · have e : ∀ H, vEqv false 2 (.slice b f l c z t) .nilSlice H = some (.bool false, H) := fun _ => rfl
    have he' := he [⟨[], .rw, 1⟩]
    have ha : At (Loc H.length) z3 (H ++ [⟨[], .rw, 1⟩]) (.slice H.length 0 0 0 1 false) 1 0 [] := .inl ⟨rfl, rfl, .inr ⟨_, _, rfl⟩⟩
    rcases Nat.eq_zero_or_pos n with rfl | hp
    · have : cs = [] := List.eq_nil_of_length_eq_zero hc
      subst this
      refine ⟨.slice H.length 0 0 0 1 false, [⟨[], .rw, 1⟩], ?_, ?_⟩
      · rw [run_lv c53]
        have ea : ∀ H', appendTo H' 1 (.slice H.length 0 0 0 1 false) 0 [] = some (.slice H.length 0 0 0 1 false, H') := fun _ => rfl
        simp (disch := first | omega | rfl | assumption | (simp only [csN, Nat.reduceAdd, Nat.reduceMul, Nat.reduceLeDiff, Nat.reduceEqDiff] <;> omega) | (simp only [csF]; done) | (simp only [csF] <;> assumption) | fail) only [Nat.reduceEqDiff, Nat.reduceAdd, Nat.reduceMul, Nat.reduceSub, Nat.reduceLeDiff, Int.reduceAdd, Int.reduceSub, Int.reduceMul, Int.reduceLT, Int.reduceLE, Int.reduceGT, Int.reduceGE, Int.reduceEq, Int.reduceBEq, Int.reduceBNe, Int.reduceNeg, Int.reduceToNat, csAll, ↓reduceIte, C53, entry_1, e, he', ea]
      · exact .inl ⟨rfl, rfl, .inr ⟨_, _, rfl⟩⟩
    · have ea : appendTo (H ++ [⟨[], .rw, 1⟩]) 1 (.slice H.length 0 0 0 1 false) n cs = some (.slice (H.length + 1) 0 n n 1 true, H ++ [⟨[], .rw, 1⟩] ++ [⟨cs, .rw, 1⟩]) := by
        unfold appendTo
        dsimp only
        rw [if_neg (by omega), if_neg (by omega), if_pos (by omega)]
        simp
      refine ⟨.slice (H.length + 1) 0 n n 1 true, [⟨[], .rw, 1⟩, ⟨cs, .rw, 1⟩], ?_, ?_⟩
      · rw [run_lv c53]
        simp (disch := first | omega | rfl | assumption | (simp only [csN, Nat.reduceAdd, Nat.reduceMul, Nat.reduceLeDiff, Nat.reduceEqDiff] <;> omega) | (simp only [csF]; done) | (simp only [csF] <;> assumption) | fail) only [Nat.reduceEqDiff, Nat.reduceAdd, Nat.reduceMul, Nat.reduceSub, Nat.reduceLeDiff, Int.reduceAdd, Int.reduceSub, Int.reduceMul, Int.reduceLT, Int.reduceLE, Int.reduceGT, Int.reduceGE, Int.reduceEq, Int.reduceBEq, Int.reduceBNe, Int.reduceNeg, Int.reduceToNat, csAll, ↓reduceIte, C53, entry_1, e, he', ea]
        simp
      · refine .inr ⟨_, _, rfl, ?_, ?_, by omega⟩
        · rw [Loc_some]; exact ⟨by omega, rfl⟩
        · rw [List.getElem?_append_right (by omega)]; simp

theorem At.slicey {o : Tags} {t : Tag} {H : CHeap} {v : CV} {e n : Nat} {cs : List CV} (h : At o t H v e n cs) : v = .nilSlice ∧ n = 0 ∧ cs = [] ∨ ∃ b f l c z t, v = .slice b f l c z t := by
  rcases h with ⟨rfl, rfl, rfl | ⟨b, f, rfl⟩⟩ | ⟨b, tl, rfl, h1, h2, h3⟩
  · exact .inl ⟨rfl, rfl, rfl⟩
  · exact .inr ⟨_, _, _, _, _, _, rfl⟩
  · exact .inr ⟨_, _, _, _, _, _, rfl⟩

/-- Queue. -/
theorem f39 (m : MRep o g H b M L) (w : M.Ok) : ∃ v J, run P 39 [.ptr b 0] H = some (v, H ++ J) ∧ At (Loc H.length) z3 (H ++ J) v 1 M.queue.length (Go.Cs.ints M.queue) := by
  have h1 := m.cells
  have h2 := f41 m w
  obtain ⟨v, J, e, h⟩ := f53 (H := H) (At.slicey m.queue) (fun J => m.queue.elems (fun c hc => List.getElem?_append_left (m.dom _ _ hc))) (ints_len _) (ints_leaf _) (Nat.le_trans w.q64.1 (by decide))
  refine ⟨v, J, ?_, h⟩
  rw [run_lv c39]
  simp (disch := first | omega | rfl | assumption | (simp only [csN, Nat.reduceAdd, Nat.reduceMul, Nat.reduceLeDiff, Nat.reduceEqDiff] <;> omega) | (simp only [csF]; done) | (simp only [csF] <;> assumption) | fail) only [Nat.reduceEqDiff, Nat.reduceAdd, Nat.reduceMul, Nat.reduceSub, Nat.reduceLeDiff, Int.reduceAdd, Int.reduceSub, Int.reduceMul, Int.reduceLT, Int.reduceLE, Int.reduceGT, Int.reduceGE, Int.reduceEq, Int.reduceBEq, Int.reduceBNe, Int.reduceNeg, Int.reduceToNat, csAll, ↓reduceIte, C39, entry_1, h1, h2, e]

/-- SetRef. -/
theorem f17 (m : MRep o g H b M L) (w : M.Ok) (n i to : Int) : Does o g H b (M.setRef n i to).1 (.i (M.setRef n i to).2) (run P 17 [.ptr b 0, .i n, .i i, .i to] H) := by
  by_cases c : M.has n
  · have h1 := f43_yes m w n c
    obtain ⟨h, rest, h0, h2, h3, h4, -, h6, h7⟩ := m.objAt n c
    have h5 := f44 h6 i
    have h8 := f45 m w to
    by_cases ci : 0 ≤ i ∧ i < ((M.obj n).refs.length : Int)
    · have hp : elAt (M.obj n).refs i = ((M.obj n).refs.getD i.toNat 0, 0) := by unfold elAt; rw [if_pos ci]
      by_cases ct : to = 0 ∨ M.has to
      · have hs : M.setRef n i to = (M.setObj n { M.obj n with refs := (M.obj n).refs.set i.toNat to }, 0) := by
          unfold Mdl.setRef; rw [if_pos c, if_pos ⟨ci.1, ci.2, ct⟩]
        obtain ⟨tl, d1, d2, d3, d4⟩ := h6.pos (by omega)
        have d5 := lt_of_get d3
        have hl := ints_len (M.obj n).refs
        refine ⟨H.set (blkOf h.1) ⟨Go.Cs.ints ((M.obj n).refs.set i.toNat to), .rw, 1⟩, o, L, ?_, ?_, ?_⟩
        · rw [run_lv c17, hs]
          rw [d1] at h3 h5
          by_cases c0 : to = 0
          · subst c0
            simp (disch := first | omega | rfl | assumption | (simp only [csN, Nat.reduceAdd, Nat.reduceMul, Nat.reduceLeDiff, Nat.reduceEqDiff] <;> omega) | (simp only [csF]; done) | (simp only [csF] <;> assumption) | fail) only [Nat.reduceEqDiff, Nat.reduceAdd, Nat.reduceMul, Nat.reduceSub, Nat.reduceLeDiff, Int.reduceAdd, Int.reduceSub, Int.reduceMul, Int.reduceLT, Int.reduceLE, Int.reduceGT, Int.reduceGE, Int.reduceEq, Int.reduceBEq, Int.reduceBNe, Int.reduceNeg, Int.reduceToNat, csAll, ↓reduceIte, C17, entry_4, h1, h2, drop_get, h3, h5, hp, pair2, h8, d3, hl, ints_set]
          · have ct' : decide (M.has to) = true := by simp [ct.resolve_left c0]
            simp (disch := first | omega | rfl | assumption | (simp only [csN, Nat.reduceAdd, Nat.reduceMul, Nat.reduceLeDiff, Nat.reduceEqDiff] <;> omega) | (simp only [csF]; done) | (simp only [csF] <;> assumption) | fail) only [Nat.reduceEqDiff, Nat.reduceAdd, Nat.reduceMul, Nat.reduceSub, Nat.reduceLeDiff, Int.reduceAdd, Int.reduceSub, Int.reduceMul, Int.reduceLT, Int.reduceLE, Int.reduceGT, Int.reduceGE, Int.reduceEq, Int.reduceBEq, Int.reduceBNe, Int.reduceNeg, Int.reduceToNat, csAll, ↓reduceIte, C17, entry_4, h1, h2, drop_get, h3, h5, hp, pair2, h8, ct', d3, hl, ints_set]
        · rw [hs]
          refine m.setObj (Mdl.obj_get c) ⟨rfl, rfl, rfl, by simp, rfl⟩ (by simp) ?_ ?_
          · intro c' k hk h6' _
            rw [List.getElem?_set_ne]
            rintro rfl
            rw [d2] at hk
            simp only [Option.some.injEq, Prod.mk.injEq, true_and] at hk
            exact h6' (by rw [← hk])
          · intro h' hh
            rw [h0] at hh
            simp only [Option.some.injEq] at hh
            subst hh
            refine ⟨.inr ⟨blkOf h.1, tl, d1, d2, by rw [List.getElem?_set_self d5], by simp [ints_len]⟩, h7.frame (fun _ h => h) (fun c' hc' => ?_)⟩
            rw [List.getElem?_set_ne]
            rintro rfl
            rw [d2] at hc'
            simp at hc'
        · refine ⟨by simp, fun _ _ => rfl, fun c t h hc => by have := m.dom c t h; omega, fun c' hc' hk => ?_⟩
          rw [List.getElem?_set_ne]
          rintro rfl
          exact hk _ d2
      · have hs : M.setRef n i to = (M, 1) := by
          unfold Mdl.setRef; rw [if_pos c, if_neg (fun h => ct h.2.2)]
        refine ⟨H, o, L, ?_, by rw [hs]; exact m, .refl m.dom⟩
        rw [run_lv c17, hs]
        simp only [not_or] at ct
        have c0 := ct.1
        have ct' : decide (M.has to) = false := by simp [ct.2]
        simp (disch := first | omega | rfl | assumption | (simp only [csN, Nat.reduceAdd, Nat.reduceMul, Nat.reduceLeDiff, Nat.reduceEqDiff] <;> omega) | (simp only [csF]; done) | (simp only [csF] <;> assumption) | fail) only [Nat.reduceEqDiff, Nat.reduceAdd, Nat.reduceMul, Nat.reduceSub, Nat.reduceLeDiff, Int.reduceAdd, Int.reduceSub, Int.reduceMul, Int.reduceLT, Int.reduceLE, Int.reduceGT, Int.reduceGE, Int.reduceEq, Int.reduceBEq, Int.reduceBNe, Int.reduceNeg, Int.reduceToNat, csAll, ↓reduceIte, C17, entry_4, h1, h2, drop_get, h3, h5, hp, pair2, h8, ct']
    · have hp : elAt (M.obj n).refs i = (0, 1) := by unfold elAt; rw [if_neg ci]
      have hs : M.setRef n i to = (M, 1) := by
        unfold Mdl.setRef; rw [if_pos c, if_neg (fun h => ci ⟨h.1, h.2.1⟩)]
      refine ⟨H, o, L, ?_, by rw [hs]; exact m, .refl m.dom⟩
      rw [run_lv c17, hs]
      have h5' : run P 44 [h.1, .i i] H = some (.tup [.i 0, .i 1], H) := by rw [h5, hp]; rfl
      simp (disch := first | omega | rfl | assumption | (simp only [csN, Nat.reduceAdd, Nat.reduceMul, Nat.reduceLeDiff, Nat.reduceEqDiff] <;> omega) | (simp only [csF]; done) | (simp only [csF] <;> assumption) | fail) only [Nat.reduceEqDiff, Nat.reduceAdd, Nat.reduceMul, Nat.reduceSub, Nat.reduceLeDiff, Int.reduceAdd, Int.reduceSub, Int.reduceMul, Int.reduceLT, Int.reduceLE, Int.reduceGT, Int.reduceGE, Int.reduceEq, Int.reduceBEq, Int.reduceBNe, Int.reduceNeg, Int.reduceToNat, csAll, ↓reduceIte, C17, entry_4, h1, h2, drop_get, h3, h5']
  · have h1 := f43_no m w n c
    have hs : M.setRef n i to = (M, 4) := by unfold Mdl.setRef; rw [if_neg c]
    refine ⟨H, o, L, ?_, by rw [hs]; exact m, .refl m.dom⟩
    rw [run_lv c17, hs]
    simp (disch := first | omega | rfl | assumption | (simp only [csN, Nat.reduceAdd, Nat.reduceMul, Nat.reduceLeDiff, Nat.reduceEqDiff] <;> omega) | (simp only [csF]; done) | (simp only [csF] <;> assumption) | fail) only [Nat.reduceEqDiff, Nat.reduceAdd, Nat.reduceMul, Nat.reduceSub, Nat.reduceLeDiff, Int.reduceAdd, Int.reduceSub, Int.reduceMul, Int.reduceLT, Int.reduceLE, Int.reduceGT, Int.reduceGE, Int.reduceEq, Int.reduceBEq, Int.reduceBNe, Int.reduceNeg, Int.reduceToNat, csAll, ↓reduceIte, C17, entry_4, h1]
end
end Go.Cs.Try

/- What Push and Pop do. -/
namespace Go.Cs.Try
open Go Go.Cs
set_option maxRecDepth 100000
section
variable {o : Tags} {g : Nat} {H : CHeap} {b : Nat} {M : Mdl} {L : Lay}

/-- Push. -/
theorem f18 (m : MRep o g H b M L) (w : M.Ok) (n : Int) : Does o g H b (M.push n).1 (.i (M.push n).2) (run P 18 [.ptr b 0, .i n] H) := by
  have h0 := m.cells
  have h1 := f41 m w
  have h2 := f45 m w n
  have h3 := m.queue.len
  have hb := lt_of_get h0
  by_cases c : M.has n
  · have c' : decide (M.has n) = true := by simp [c]
    by_cases q : M.queue.length = 64
    · have hs : M.push n = (M, 6) := by unfold Mdl.push; rw [if_pos c, if_pos q]
      refine ⟨H, o, L, ?_, by rw [hs]; exact m, .refl m.dom⟩
      rw [run_lv c18, hs]
      simp (disch := first | omega | rfl | assumption | (simp only [csN, Nat.reduceAdd, Nat.reduceMul, Nat.reduceLeDiff, Nat.reduceEqDiff] <;> omega) | (simp only [csF]; done) | (simp only [csF] <;> assumption) | fail) only [Nat.reduceEqDiff, Nat.reduceAdd, Nat.reduceMul, Nat.reduceSub, Nat.reduceLeDiff, Int.reduceAdd, Int.reduceSub, Int.reduceMul, Int.reduceLT, Int.reduceLE, Int.reduceGT, Int.reduceGE, Int.reduceEq, Int.reduceBEq, Int.reduceBNe, Int.reduceNeg, Int.reduceToNat, csAll, ↓reduceIte, C18, entry_2, h0, h1, h2, h3, c']
    · have hs : M.push n = ({ M with queue := M.queue ++ [n] }, 0) := by unfold Mdl.push; rw [if_pos c, if_neg q]
      have mm := m.app [⟨[.i n], .rw, 1⟩]
      obtain ⟨H', e1, e2, e3, e4⟩ := mm.queue.append (k := 1) (new := [.i n]) (by omega) (Nat.le_trans (Nat.add_le_add_right w.q64.1 1) (by decide)) (by simp [leaf]) (by simp)
      simp only [List.length_append, List.length_cons, List.length_nil, Nat.zero_add] at e1 e2 e3 e4
      have hbk : H'[b]? = some ⟨[L.sl, L.gl, L.qv, L.ov], .rw, 0⟩ := by
        rw [e4 b (by omega) (by rw [m.top]; simp), List.getElem?_append_left hb, h0]
      have hf := m.newQueue (Hf := H'.set b ⟨[L.sl, L.gl, .slice (H.length + 1) 0 (M.queue.length + 1) (M.queue.length + 1) 1 true, L.ov], .rw, 0⟩) (l := M.queue ++ [n])
        (.inr ⟨H.length + 1, true, (by simp : CV.slice (H.length + 1) 0 (M.queue.length + 1) (M.queue.length + 1) 1 true = _), Loc_some.2 ⟨by omega, rfl⟩, by rw [List.getElem?_set_ne (by omega), e3, ints_app]; rfl, by simp [ints_len]⟩)
        (by rw [List.length_set]; omega) (by rw [List.getElem?_set_self (by omega)])
        (fun d hd h h' => by rw [List.getElem?_set_ne (Ne.symm h'), e4 d (by omega) h, List.getElem?_append_left hd])
      obtain ⟨o', L', r1, r2⟩ := hf
      refine ⟨_, o', L', ?_, by rw [hs]; exact r1, r2⟩
      rw [run_lv c18, hs]
      have hst : elems (H ++ [⟨[.i n], .rw, 1⟩]) 1 (.slice H.length 0 1 1 1 false) = some (1, [.i n]) := by
        unfold elems loadN; simp
      simp (disch := first | omega | rfl | assumption | (simp only [csN, Nat.reduceAdd, Nat.reduceMul, Nat.reduceLeDiff, Nat.reduceEqDiff] <;> omega) | (simp only [csF]; done) | (simp only [csF] <;> assumption) | fail) only [Nat.reduceEqDiff, Nat.reduceAdd, Nat.reduceMul, Nat.reduceSub, Nat.reduceLeDiff, Int.reduceAdd, Int.reduceSub, Int.reduceMul, Int.reduceLT, Int.reduceLE, Int.reduceGT, Int.reduceGE, Int.reduceEq, Int.reduceBEq, Int.reduceBNe, Int.reduceNeg, Int.reduceToNat, csAll, ↓reduceIte, C18, entry_2, h0, h1, h2, h3, c', hst, e1, hbk]
  · have c' : decide (M.has n) = false := by simp [c]
    have hs : M.push n = (M, 4) := by unfold Mdl.push; rw [if_neg c]
    refine ⟨H, o, L, ?_, by rw [hs]; exact m, .refl m.dom⟩
    rw [run_lv c18, hs]
    simp (disch := first | omega | rfl | assumption | (simp only [csN, Nat.reduceAdd, Nat.reduceMul, Nat.reduceLeDiff, Nat.reduceEqDiff] <;> omega) | (simp only [csF]; done) | (simp only [csF] <;> assumption) | fail) only [Nat.reduceEqDiff, Nat.reduceAdd, Nat.reduceMul, Nat.reduceSub, Nat.reduceLeDiff, Int.reduceAdd, Int.reduceSub, Int.reduceMul, Int.reduceLT, Int.reduceLE, Int.reduceGT, Int.reduceGE, Int.reduceEq, Int.reduceBEq, Int.reduceBNe, Int.reduceNeg, Int.reduceToNat, csAll, ↓reduceIte, C18, entry_2, h1, h2, c']

/-- Pop. -/
theorem f46 (m : MRep o g H b M L) (w : M.Ok) : Does o g H b M.pop.1 (pair2 M.pop.2) (run P 46 [.ptr b 0] H) := by
  have h0 := m.cells
  have h1 := f41 m w
  have h3 := m.queue.len
  have hb := lt_of_get h0
  cases hq : M.queue with
  | nil =>
    have hs : M.pop = (M, 0, 4) := by unfold Mdl.pop; rw [hq]
    refine ⟨H, o, L, ?_, by rw [hs]; exact m, .refl m.dom⟩
    rw [hq] at h3
    rw [run_lv c46, hs]
    simp (disch := first | omega | rfl | assumption | (simp only [csN, Nat.reduceAdd, Nat.reduceMul, Nat.reduceLeDiff, Nat.reduceEqDiff] <;> omega) | (simp only [csF]; done) | (simp only [csF] <;> assumption) | fail) only [Nat.reduceEqDiff, Nat.reduceAdd, Nat.reduceMul, Nat.reduceSub, Nat.reduceLeDiff, Int.reduceAdd, Int.reduceSub, Int.reduceMul, Int.reduceLT, Int.reduceLE, Int.reduceGT, Int.reduceGE, Int.reduceEq, Int.reduceBEq, Int.reduceBNe, Int.reduceNeg, Int.reduceToNat, csAll, ↓reduceIte, C46, entry_1, h0, h1, h3, pair2]
  | cons a r =>
    have hs : M.pop = ({ M with queue := r }, a, 0) := by unfold Mdl.pop; rw [hq]
    have mq := m.queue
    rw [hq] at mq h3
    obtain ⟨tl, d1, d2, d3, d4⟩ := mq.pos (by simp)
    have d5 := lt_of_get d3
    rw [ints_cons] at d3
    rw [d1] at h0 h3
    have hle : r.length + 1 ≤ 64 := by have := w.q64.1; rw [hq] at this; simpa using this
    have hel : ∀ J, elems (H ++ J) 1 (.slice (blkOf L.qv) 1 r.length r.length 1 tl) = some (r.length, Go.Cs.ints r) := by
      intro J
      rcases Nat.eq_zero_or_pos r.length with hr | hr
      · rw [hr]
        have : r = [] := List.eq_nil_of_length_eq_zero hr
        subst this; rfl
      · rw [elems_s hr, List.getElem?_append_left d5, d3, ldN_rw, if_pos (by simp [ints_len]; omega)]
        simp [← ints_len r]
    obtain ⟨v', J, e1, e2⟩ := f53 (H := H) (.inr ⟨_, _, _, _, _, _, rfl⟩) hel (ints_len _) (ints_leaf _) (Nat.le_trans (by omega : r.length ≤ 64) (by decide))
    have hf := m.newQueue (Hf := (H ++ J).set b ⟨[L.sl, L.gl, v', L.ov], .rw, 0⟩) (l := r) (e2.frame (fun _ h => h) (fun c hc => by
        rw [List.getElem?_set_ne]
        have := (Loc_some.1 hc).1; omega)) (by simp) (by rw [List.getElem?_set_self (by simp; omega)])
      (fun d hd h h' => by rw [List.getElem?_set_ne (Ne.symm h'), List.getElem?_append_left hd])
    obtain ⟨o', L', r1, r2⟩ := hf
    refine ⟨_, o', L', ?_, by rw [hs]; exact r1, r2⟩
    have hbk : (H ++ J)[b]? = some ⟨[L.sl, L.gl, L.qv, L.ov], .rw, 0⟩ := by rw [List.getElem?_append_left hb, m.cells]
    have hst : sliceV 1 (.slice (blkOf L.qv) 0 (r.length + 1) (r.length + 1) 1 tl) (some (.i 1)) none none = some (.slice (blkOf L.qv) 1 r.length r.length 1 tl) := by
      simp [sliceV, sliceBndsV, boundOV, boundV]
      rw [if_pos (by omega)]
      rfl
    have hv' := e2.leaf
    rw [run_lv c46, hs]
    simp only [List.length_cons] at h0 h3
    simp (disch := first | omega | rfl | assumption | (simp only [csN, Nat.reduceAdd, Nat.reduceMul, Nat.reduceLeDiff, Nat.reduceEqDiff] <;> omega) | (simp only [csF]; done) | (simp only [csF] <;> assumption) | fail) only [Nat.reduceEqDiff, Nat.reduceAdd, Nat.reduceMul, Nat.reduceSub, Nat.reduceLeDiff, Int.reduceAdd, Int.reduceSub, Int.reduceMul, Int.reduceLT, Int.reduceLE, Int.reduceGT, Int.reduceGE, Int.reduceEq, Int.reduceBEq, Int.reduceBNe, Int.reduceNeg, Int.reduceToNat, csAll, ↓reduceIte, C46, entry_1, h0, h1, h3, pair2, d3, hst, e1, hbk]
end
end Go.Cs.Try

/- What the effects of acts do. -/
namespace Go.Cs
open Go

structure Act where
  k : Int
  a : Int
  b : Int
  i : Int
  n : Int
  nr : Int
  nd : Int
  sk : Int

def actCells (x : Act) : List CV := [.i x.k, .i x.a, .i x.b, .i x.i, .i x.n, .i x.nr, .i x.nd, .i x.sk]

/-- An act that is being done. -/
structure ActAt (o : Tags) (g : Nat) (H : CHeap) (b : Nat) (M : Mdl) (L : Lay) (ab : Nat) (x : Act) (mu : Nat) (s : List Int) (v : CV) (tl : Bool) : Prop where
  m : MRep o g H b M L
  w : M.Ok
  blk : H[ab]? = some ⟨[.i x.k, .i x.a, .i x.b, .i x.i, .i x.n, .i x.nr, .i x.nd, .i x.sk, .ptr b 0, v], .rw, 0⟩
  free : o ab = none
  hs : M.slots[mu]? = some s
  hv : L.sv[mu]? = some v
  ev : v = .slice (blkOf v) 0 16 16 1 tl
  tag : o (blkOf v) = some (g, 2, mu)
  cells : H[blkOf v]? = some ⟨ints s, .rw, 1⟩
  len : s.length = 16

theorem ActAt.app {o : Tags} {g : Nat} {H : CHeap} {b : Nat} {M : Mdl} {L : Lay} {ab : Nat} {x : Act} {mu : Nat} {s : List Int} {v : CV} {tl : Bool} (A : ActAt o g H b M L ab x mu s v tl) (J : CHeap) : ActAt o g (H ++ J) b M L ab x mu s v tl where
  m := A.m.app J
  w := A.w
  blk := by rw [List.getElem?_append_left (lt_of_get A.blk), A.blk]
  free := A.free
  hs := A.hs
  hv := A.hv
  ev := A.ev
  tag := A.tag
  cells := by rw [List.getElem?_append_left (lt_of_get A.cells), A.cells]
  len := A.len

theorem ActAt.ne {o : Tags} {g : Nat} {H : CHeap} {b : Nat} {M : Mdl} {L : Lay} {ab : Nat} {x : Act} {mu : Nat} {s : List Int} {v : CV} {tl : Bool} (A : ActAt o g H b M L ab x mu s v tl) : ab ≠ blkOf v := by
  intro h
  have := A.free
  rw [h, A.tag] at this
  cases this

/-- The slot of an act. -/
theorem slotGet {s : List Int} {a : Int} (hl : s.length = 16) (h : 0 ≤ a ∧ a < 16) : (ints s)[a.toNat]? = some (.i (s.getD a.toNat 0)) := by
  rw [ints_get, getD_of 0 (by omega)]; rfl

theorem slotHas {M : Mdl} (w : M.Ok) {mu : Nat} {s : List Int} (hs : M.slots[mu]? = some s) {a : Int} (h : 0 ≤ a ∧ a < 16) (hz : s.getD a.toNat 0 ≠ 0) : M.has (s.getD a.toNat 0) := by
  have h1 := w.s16 _ (List.mem_of_getElem? hs)
  have h2 := h1.2 _ (List.mem_of_getElem? (getD_of (l := s) (i := a.toNat) 0 (by omega)))
  unfold Mdl.has; omega

def bornObj (x : Act) : Obj := ⟨x.nr, x.nd, x.sk, List.replicate x.nr.toNat 0, List.replicate x.nd.toNat 0⟩

structure Eff where
  told : List Int
  o : Int
  i : Int
  old : Int
  new : Int
  made : Int
  loaded : Int

def effOf (tv : CV) (e : Eff) : CV := .agg [tv, .i e.o, .i e.i, .i e.old, .i e.new, .i e.made, .i e.loaded]

/-- What an act comes to. -/
def DoesE (o : Tags) (g : Nat) (H : CHeap) (b : Nat) (M' : Mdl) (e : Eff) (r : Option (CV × CHeap)) : Prop :=
  ∃ H' o' L' tv, r = some (effOf tv e, H') ∧ MRep o' g H' b M' L' ∧ Frm g o H o' H' ∧ At (Loc H.length) z3 H' tv 1 e.told.length (ints e.told)

/-- A slot is changed. -/
theorem ActAt.setSlot {o : Tags} {g : Nat} {H Hf : CHeap} {b : Nat} {M : Mdl} {L : Lay} {ab : Nat} {x : Act} {mu : Nat} {s : List Int} {v : CV} {tl : Bool} (A : ActAt o g H b M L ab x mu s v tl) {s' : List Int} (hs' : s'.length = 16) {H0 : CHeap} (hl : H0.length ≤ H.length) (hl' : H.length ≤ Hf.length)
    (hd : ∀ c t, o c = some t → c < H0.length)
    (hc : Hf[blkOf v]? = some ⟨ints s', .rw, 1⟩) (hf : ∀ d, d < H.length → d ≠ blkOf v → Hf[d]? = H[d]?) (hk : ∀ c, c < H0.length → H[c]? = H0[c]?) :
    MRep o g Hf b { M with slots := M.slots.set mu s' } L ∧ Frm g o H0 o Hf := by
  refine ⟨A.m.setSlot A.hs hl' ?_ ?_, by omega, fun _ _ => rfl, fun c t h hc => by have := hd c t h; omega, ?_⟩
  · intro c k h hk
    refine hf c (A.m.dom c _ h) ?_
    rintro rfl
    rw [A.tag] at h
    simp only [Option.some.injEq, Prod.mk.injEq, true_and] at h
    exact hk h.symm
  · intro v' hv'
    rw [A.hv] at hv'
    simp only [Option.some.injEq] at hv'
    subst hv'
    exact .inr ⟨blkOf v, tl, A.ev, A.tag, hc, by simp [ints_len, hs']⟩
  · intro c hc' hk'
    rw [hf c (by omega) (by rintro rfl; exact hk' _ A.tag), hk c hc']
end Go.Cs

namespace Go.Cs.Try
open Go Go.Cs
set_option maxRecDepth 100000
section
variable {o : Tags} {g : Nat} {H : CHeap} {b : Nat} {M : Mdl} {L : Lay} {ab : Nat} {x : Act} {mu : Nat} {s : List Int} {v : CV} {tl : Bool}

theorem f80 {p : CV} : run P 80 [p] H = some (.i (-1), H) := by
  rw [run_lv c80]; simp (disch := first | omega | rfl | assumption | (simp only [csN, Nat.reduceAdd, Nat.reduceMul, Nat.reduceLeDiff, Nat.reduceEqDiff] <;> omega) | (simp only [csF]; done) | (simp only [csF] <;> assumption) | fail) only [Nat.reduceEqDiff, Nat.reduceAdd, Nat.reduceMul, Nat.reduceSub, Nat.reduceLeDiff, Int.reduceAdd, Int.reduceSub, Int.reduceMul, Int.reduceLT, Int.reduceLE, Int.reduceGT, Int.reduceGE, Int.reduceEq, Int.reduceBEq, Int.reduceBNe, Int.reduceNeg, Int.reduceToNat, csAll, ↓reduceIte, C80, entry_1]
theorem f97 {p : CV} : run P 97 [p] H = some (.i 16, H) := by
  rw [run_lv c97]; simp (disch := first | omega | rfl | assumption | (simp only [csN, Nat.reduceAdd, Nat.reduceMul, Nat.reduceLeDiff, Nat.reduceEqDiff] <;> omega) | (simp only [csF]; done) | (simp only [csF] <;> assumption) | fail) only [Nat.reduceEqDiff, Nat.reduceAdd, Nat.reduceMul, Nat.reduceSub, Nat.reduceLeDiff, Int.reduceAdd, Int.reduceSub, Int.reduceMul, Int.reduceLT, Int.reduceLE, Int.reduceGT, Int.reduceGE, Int.reduceEq, Int.reduceBEq, Int.reduceBNe, Int.reduceNeg, Int.reduceToNat, csAll, ↓reduceIte, C97, entry_1]
theorem f82 (A : ActAt o g H b M L ab x mu s v tl) : run P 82 [.ptr ab 0] H = some (.i x.b, H) := by
  have h := A.blk
  rw [run_lv c82]; simp (disch := first | omega | rfl | assumption | (simp only [csN, Nat.reduceAdd, Nat.reduceMul, Nat.reduceLeDiff, Nat.reduceEqDiff] <;> omega) | (simp only [csF]; done) | (simp only [csF] <;> assumption) | fail) only [Nat.reduceEqDiff, Nat.reduceAdd, Nat.reduceMul, Nat.reduceSub, Nat.reduceLeDiff, Int.reduceAdd, Int.reduceSub, Int.reduceMul, Int.reduceLT, Int.reduceLE, Int.reduceGT, Int.reduceGE, Int.reduceEq, Int.reduceBEq, Int.reduceBNe, Int.reduceNeg, Int.reduceToNat, csAll, ↓reduceIte, C82, entry_1, h]
theorem f86 (A : ActAt o g H b M L ab x mu s v tl) : run P 86 [.ptr ab 0] H = some (.i x.a, H) := by
  have h := A.blk
  rw [run_lv c86]; simp (disch := first | omega | rfl | assumption | (simp only [csN, Nat.reduceAdd, Nat.reduceMul, Nat.reduceLeDiff, Nat.reduceEqDiff] <;> omega) | (simp only [csF]; done) | (simp only [csF] <;> assumption) | fail) only [Nat.reduceEqDiff, Nat.reduceAdd, Nat.reduceMul, Nat.reduceSub, Nat.reduceLeDiff, Int.reduceAdd, Int.reduceSub, Int.reduceMul, Int.reduceLT, Int.reduceLE, Int.reduceGT, Int.reduceGE, Int.reduceEq, Int.reduceBEq, Int.reduceBNe, Int.reduceNeg, Int.reduceToNat, csAll, ↓reduceIte, C86, entry_1, h]

theorem f83 (A : ActAt o g H b M L ab x mu s v tl) (ha : 0 ≤ x.b ∧ x.b < 16) (hz : s.getD x.b.toNat 0 ≠ 0) : run P 83 [.ptr ab 0] H = some (.i (M.obj (s.getD x.b.toNat 0)).nr, H) := by
  have h := A.blk
  rw [A.ev] at h
  have h2 := A.cells
  have h3 := slotGet A.len ha
  have h4 := slotHas A.w A.hs ha hz
  have h5 := f74 A.m A.w _ h4
  obtain ⟨hh, rest, h0, h6, h7, -, -, -, -⟩ := A.m.objAt _ h4
  have h8 := drop0 h7
  rw [run_lv c83]
  simp (disch := first | omega | rfl | assumption | (simp only [csN, Nat.reduceAdd, Nat.reduceMul, Nat.reduceLeDiff, Nat.reduceEqDiff] <;> omega) | (simp only [csF]; done) | (simp only [csF] <;> assumption) | fail) only [Nat.reduceEqDiff, Nat.reduceAdd, Nat.reduceMul, Nat.reduceSub, Nat.reduceLeDiff, Int.reduceAdd, Int.reduceSub, Int.reduceMul, Int.reduceLT, Int.reduceLE, Int.reduceGT, Int.reduceGE, Int.reduceEq, Int.reduceBEq, Int.reduceBNe, Int.reduceNeg, Int.reduceToNat, csAll, ↓reduceIte, C83, entry_1, h, h2, h3, h5, h6, h8, drop_get, h7]
theorem f87 (A : ActAt o g H b M L ab x mu s v tl) (ha : 0 ≤ x.a ∧ x.a < 16) (hz : s.getD x.a.toNat 0 ≠ 0) : run P 87 [.ptr ab 0] H = some (.i (M.obj (s.getD x.a.toNat 0)).nr, H) := by
  have h := A.blk
  rw [A.ev] at h
  have h2 := A.cells
  have h3 := slotGet A.len ha
  have h4 := slotHas A.w A.hs ha hz
  have h5 := f74 A.m A.w _ h4
  obtain ⟨hh, rest, h0, h6, h7, -, -, -, -⟩ := A.m.objAt _ h4
  have h8 := drop0 h7
  rw [run_lv c87]
  simp (disch := first | omega | rfl | assumption | (simp only [csN, Nat.reduceAdd, Nat.reduceMul, Nat.reduceLeDiff, Nat.reduceEqDiff] <;> omega) | (simp only [csF]; done) | (simp only [csF] <;> assumption) | fail) only [Nat.reduceEqDiff, Nat.reduceAdd, Nat.reduceMul, Nat.reduceSub, Nat.reduceLeDiff, Int.reduceAdd, Int.reduceSub, Int.reduceMul, Int.reduceLT, Int.reduceLE, Int.reduceGT, Int.reduceGE, Int.reduceEq, Int.reduceBEq, Int.reduceBNe, Int.reduceNeg, Int.reduceToNat, csAll, ↓reduceIte, C87, entry_1, h, h2, h3, h5, h6, h8, drop_get, h7]
theorem f89 (A : ActAt o g H b M L ab x mu s v tl) (ha : 0 ≤ x.a ∧ x.a < 16) (hz : s.getD x.a.toNat 0 ≠ 0) : run P 89 [.ptr ab 0] H = some (.i (M.obj (s.getD x.a.toNat 0)).nd, H) := by
  have h := A.blk
  rw [A.ev] at h
  have h2 := A.cells
  have h3 := slotGet A.len ha
  have h4 := slotHas A.w A.hs ha hz
  have h5 := f74 A.m A.w _ h4
  obtain ⟨hh, rest, h0, h6, h7, -, -, -, -⟩ := A.m.objAt _ h4
  have h8 := drop0 h7
  rw [run_lv c89]
  simp (disch := first | omega | rfl | assumption | (simp only [csN, Nat.reduceAdd, Nat.reduceMul, Nat.reduceLeDiff, Nat.reduceEqDiff] <;> omega) | (simp only [csF]; done) | (simp only [csF] <;> assumption) | fail) only [Nat.reduceEqDiff, Nat.reduceAdd, Nat.reduceMul, Nat.reduceSub, Nat.reduceLeDiff, Int.reduceAdd, Int.reduceSub, Int.reduceMul, Int.reduceLT, Int.reduceLE, Int.reduceGT, Int.reduceGE, Int.reduceEq, Int.reduceBEq, Int.reduceBNe, Int.reduceNeg, Int.reduceToNat, csAll, ↓reduceIte, C89, entry_1, h, h2, h3, h5, h6, h8, drop_get, h7]

abbrev zEff : List CV := [.nilSlice, .i 0, .i 0, .i 0, .i 0, .i 0, .i 0]

/-- Setting the slot. -/
theorem f85 (A : ActAt o g H b M L ab x mu s v tl) (ha : 0 ≤ x.a ∧ x.a < 16) (z : Int) : run P 85 [.ptr ab 0, .i z] H =
    some (.agg [.nilSlice, .i 0, .i 0, .i 0, .i 0, .i 0, .i z], H.set (blkOf v) ⟨ints (s.set x.a.toNat z), .rw, 1⟩ ++ [⟨[.nilSlice, .i 0, .i 0, .i 0, .i 0, .i 0, .i z], .rw, 0⟩]) := by
  have h := A.blk
  rw [A.ev] at h
  have h2 := A.cells
  have hl := lt_of_get h
  have hl2 := lt_of_get h2
  have h3 : (Go.Cs.ints s).length = 16 := by rw [ints_len, A.len]
  rw [run_lv c85]
  simp (disch := first | omega | rfl | assumption | (simp only [csN, Nat.reduceAdd, Nat.reduceMul, Nat.reduceLeDiff, Nat.reduceEqDiff] <;> omega) | (simp only [csF]; done) | (simp only [csF] <;> assumption) | fail) only [Nat.reduceEqDiff, Nat.reduceAdd, Nat.reduceMul, Nat.reduceSub, Nat.reduceLeDiff, Int.reduceAdd, Int.reduceSub, Int.reduceMul, Int.reduceLT, Int.reduceLE, Int.reduceGT, Int.reduceGE, Int.reduceEq, Int.reduceBEq, Int.reduceBNe, Int.reduceNeg, Int.reduceToNat, csAll, ↓reduceIte, C85, entry_2, h, h2, h3, ints_set]

theorem f92 {tv : CV} (h : leaf tv = true) : run P 92 [tv] H = some (.agg [tv, .i 0, .i 0, .i 0, .i 0, .i 0, .i 0], H ++ [⟨[tv, .i 0, .i 0, .i 0, .i 0, .i 0, .i 0], .rw, 0⟩]) := by
  rw [run_lv c92]
  simp (disch := first | omega | rfl | assumption | (simp only [csN, Nat.reduceAdd, Nat.reduceMul, Nat.reduceLeDiff, Nat.reduceEqDiff] <;> omega) | (simp only [csF]; done) | (simp only [csF] <;> assumption) | fail) only [Nat.reduceEqDiff, Nat.reduceAdd, Nat.reduceMul, Nat.reduceSub, Nat.reduceLeDiff, Int.reduceAdd, Int.reduceSub, Int.reduceMul, Int.reduceLT, Int.reduceLE, Int.reduceGT, Int.reduceGE, Int.reduceEq, Int.reduceBEq, Int.reduceBNe, Int.reduceNeg, Int.reduceToNat, csAll, ↓reduceIte, C92, entry_1]

/-- ActLoad. -/
theorem e84 (A : ActAt o g H b M L ab x mu s v tl) (ha : 0 ≤ x.a ∧ x.a < 16) (hb : 0 ≤ x.b ∧ x.b < 16) (hz : s.getD x.b.toNat 0 ≠ 0) (hi : 0 ≤ x.i ∧ x.i < (M.obj (s.getD x.b.toNat 0)).nr) :
    DoesE o g H b { M with slots := M.slots.set mu (s.set x.a.toNat ((M.obj (s.getD x.b.toNat 0)).refs.getD x.i.toNat 0)) } ⟨[], 0, 0, 0, 0, 0, (M.obj (s.getD x.b.toNat 0)).refs.getD x.i.toNat 0⟩ (run P 84 [.ptr ab 0] H) := by
  have h := A.blk
  rw [A.ev] at h
  have h2 := A.cells
  have hl := lt_of_get h
  have hl2 := lt_of_get h2
  have h3 := slotGet A.len hb
  have h4 := slotHas A.w A.hs hb hz
  have A' := A.app [⟨zEff, .rw, 0⟩]
  have h5 := f74 A'.m A.w _ h4
  obtain ⟨hh, rest, h0, h6, h7, -, ht, h8, -⟩ := A.m.objAt _ h4
  have hl3 := A.m.dom _ _ ht
  have hnr := (A.w.obj h4).nr
  obtain ⟨tl', d1, d2, d3, d4⟩ := h8.pos (by omega)
  have hl4 := A.m.dom _ _ d2
  have h9 : (Go.Cs.ints (M.obj (s.getD x.b.toNat 0)).refs)[x.i.toNat]? = some (.i ((M.obj (s.getD x.b.toNat 0)).refs.getD x.i.toNat 0)) := by
    rw [ints_get, getD_of 0 (by omega)]; rfl
  rw [d1] at h7
  have h10 := f85 A' ha ((M.obj (s.getD x.b.toNat 0)).refs.getD x.i.toNat 0)
  rw [set_lt hl2] at h10
  obtain ⟨m1, m2⟩ := A.setSlot (Hf := H.set (blkOf v) ⟨Go.Cs.ints (s.set x.a.toNat ((M.obj (s.getD x.b.toNat 0)).refs.getD x.i.toNat 0)), .rw, 1⟩ ++ [⟨[.nilSlice, .i 0, .i 0, .i 0, .i 0, .i 0, .i ((M.obj (s.getD x.b.toNat 0)).refs.getD x.i.toNat 0)], .rw, 0⟩] ++ [⟨[.nilSlice, .i 0, .i 0, .i 0, .i 0, .i 0, .i ((M.obj (s.getD x.b.toNat 0)).refs.getD x.i.toNat 0)], .rw, 0⟩])
    (s' := s.set x.a.toNat ((M.obj (s.getD x.b.toNat 0)).refs.getD x.i.toNat 0)) (by simp [A.len]) (Nat.le_refl _) (by simp) A.m.dom
    (by simp (disch := first | omega | rfl | assumption | (simp only [csN, Nat.reduceAdd, Nat.reduceMul, Nat.reduceLeDiff, Nat.reduceEqDiff] <;> omega) | (simp only [csF]; done) | (simp only [csF] <;> assumption) | fail) only [Nat.reduceEqDiff, Nat.reduceAdd, Nat.reduceMul, Nat.reduceSub, Nat.reduceLeDiff, Int.reduceAdd, Int.reduceSub, Int.reduceMul, Int.reduceLT, Int.reduceLE, Int.reduceGT, Int.reduceGE, Int.reduceEq, Int.reduceBEq, Int.reduceBNe, Int.reduceNeg, Int.reduceToNat, csAll, ↓reduceIte]) (fun d hd hd' => by simp (disch := first | omega | rfl | assumption | (simp only [csN, Nat.reduceAdd, Nat.reduceMul, Nat.reduceLeDiff, Nat.reduceEqDiff] <;> omega) | (simp only [csF]; done) | (simp only [csF] <;> assumption) | fail) only [Nat.reduceEqDiff, Nat.reduceAdd, Nat.reduceMul, Nat.reduceSub, Nat.reduceLeDiff, Int.reduceAdd, Int.reduceSub, Int.reduceMul, Int.reduceLT, Int.reduceLE, Int.reduceGT, Int.reduceGE, Int.reduceEq, Int.reduceBEq, Int.reduceBNe, Int.reduceNeg, Int.reduceToNat, csAll, ↓reduceIte]) (fun _ _ => rfl)
  refine ⟨_, o, L, .nilSlice, ?_, m1, m2, .inl ⟨rfl, rfl, .inl rfl⟩⟩
  rw [run_lv c84]
  simp (disch := first | omega | rfl | assumption | (simp only [csN, Nat.reduceAdd, Nat.reduceMul, Nat.reduceLeDiff, Nat.reduceEqDiff] <;> omega) | (simp only [csF]; done) | (simp only [csF] <;> assumption) | fail) only [Nat.reduceEqDiff, Nat.reduceAdd, Nat.reduceMul, Nat.reduceSub, Nat.reduceLeDiff, Int.reduceAdd, Int.reduceSub, Int.reduceMul, Int.reduceLT, Int.reduceLE, Int.reduceGT, Int.reduceGE, Int.reduceEq, Int.reduceBEq, Int.reduceBNe, Int.reduceNeg, Int.reduceToNat, csAll, ↓reduceIte, C84, entry_1, h, h2, h3, h5, h6, drop_get, h7, d3, h9, h10, effOf]
end
end Go.Cs.Try

/- What the effects of acts do, further ones. -/
namespace Go.Cs.Try
open Go Go.Cs
set_option maxRecDepth 100000
section
variable {o : Tags} {g : Nat} {H : CHeap} {b : Nat} {M : Mdl} {L : Lay} {ab : Nat} {x : Act} {mu : Nat} {s : List Int} {v : CV} {tl : Bool}

theorem At.nil {o : Tags} {t : Tag} {H : CHeap} : At o t H .nilSlice 1 0 [] := .inl ⟨rfl, rfl, .inl rfl⟩

/-- ActCopy. -/
theorem e93 (A : ActAt o g H b M L ab x mu s v tl) (ha : 0 ≤ x.a ∧ x.a < 16) (hb : 0 ≤ x.b ∧ x.b < 16) :
    DoesE o g H b { M with slots := M.slots.set mu (s.set x.a.toNat (s.getD x.b.toNat 0)) } ⟨[], 0, 0, 0, 0, 0, s.getD x.b.toNat 0⟩ (run P 93 [.ptr ab 0] H) := by
  have h := A.blk
  rw [A.ev] at h
  have h2 := A.cells
  have hl := lt_of_get h
  have hl2 := lt_of_get h2
  have h3 := slotGet A.len hb
  have A' := A.app [⟨zEff, .rw, 0⟩]
  generalize hz : s.getD x.b.toNat 0 = z at *
  have h10 := f85 A' ha z
  rw [set_lt hl2] at h10
  obtain ⟨m1, m2⟩ := A.setSlot (Hf := H.set (blkOf v) ⟨Go.Cs.ints (s.set x.a.toNat z), .rw, 1⟩ ++ [⟨[.nilSlice, .i 0, .i 0, .i 0, .i 0, .i 0, .i z], .rw, 0⟩] ++ [⟨[.nilSlice, .i 0, .i 0, .i 0, .i 0, .i 0, .i z], .rw, 0⟩])
    (s' := s.set x.a.toNat z) (by simp [A.len]) (Nat.le_refl _) (by simp) A.m.dom
    (by simp (disch := first | omega | rfl | assumption | (simp only [csN, Nat.reduceAdd, Nat.reduceMul, Nat.reduceLeDiff, Nat.reduceEqDiff] <;> omega) | (simp only [csF]; done) | (simp only [csF] <;> assumption) | fail) only [Nat.reduceEqDiff, Nat.reduceAdd, Nat.reduceMul, Nat.reduceSub, Nat.reduceLeDiff, Int.reduceAdd, Int.reduceSub, Int.reduceMul, Int.reduceLT, Int.reduceLE, Int.reduceGT, Int.reduceGE, Int.reduceEq, Int.reduceBEq, Int.reduceBNe, Int.reduceNeg, Int.reduceToNat, csAll, ↓reduceIte]) (fun d hd hd' => by simp (disch := first | omega | rfl | assumption | (simp only [csN, Nat.reduceAdd, Nat.reduceMul, Nat.reduceLeDiff, Nat.reduceEqDiff] <;> omega) | (simp only [csF]; done) | (simp only [csF] <;> assumption) | fail) only [Nat.reduceEqDiff, Nat.reduceAdd, Nat.reduceMul, Nat.reduceSub, Nat.reduceLeDiff, Int.reduceAdd, Int.reduceSub, Int.reduceMul, Int.reduceLT, Int.reduceLE, Int.reduceGT, Int.reduceGE, Int.reduceEq, Int.reduceBEq, Int.reduceBNe, Int.reduceNeg, Int.reduceToNat, csAll, ↓reduceIte]) (fun _ _ => rfl)
  refine ⟨_, o, L, .nilSlice, ?_, m1, m2, At.nil⟩
  rw [run_lv c93]
  simp (disch := first | omega | rfl | assumption | (simp only [csN, Nat.reduceAdd, Nat.reduceMul, Nat.reduceLeDiff, Nat.reduceEqDiff] <;> omega) | (simp only [csF]; done) | (simp only [csF] <;> assumption) | fail) only [Nat.reduceEqDiff, Nat.reduceAdd, Nat.reduceMul, Nat.reduceSub, Nat.reduceLeDiff, Int.reduceAdd, Int.reduceSub, Int.reduceMul, Int.reduceLT, Int.reduceLE, Int.reduceGT, Int.reduceGE, Int.reduceEq, Int.reduceBEq, Int.reduceBNe, Int.reduceNeg, Int.reduceToNat, csAll, ↓reduceIte, C93, entry_1, h, h2, h3, h10, effOf]

/-- ActDrop. -/
theorem e94 (A : ActAt o g H b M L ab x mu s v tl) (ha : 0 ≤ x.a ∧ x.a < 16) :
    DoesE o g H b { M with slots := M.slots.set mu (s.set x.a.toNat 0) } ⟨[], 0, 0, 0, 0, 0, 0⟩ (run P 94 [.ptr ab 0] H) := by
  have h := A.blk
  rw [A.ev] at h
  have h2 := A.cells
  have hl := lt_of_get h
  have hl2 := lt_of_get h2
  have h3 : (Go.Cs.ints s).length = 16 := by rw [ints_len, A.len]
  obtain ⟨m1, m2⟩ := A.setSlot (Hf := H.set (blkOf v) ⟨Go.Cs.ints (s.set x.a.toNat 0), .rw, 1⟩ ++ [⟨zEff, .rw, 0⟩])
    (s' := s.set x.a.toNat 0) (by simp [A.len]) (Nat.le_refl _) (by simp) A.m.dom
    (by simp (disch := first | omega | rfl | assumption | (simp only [csN, Nat.reduceAdd, Nat.reduceMul, Nat.reduceLeDiff, Nat.reduceEqDiff] <;> omega) | (simp only [csF]; done) | (simp only [csF] <;> assumption) | fail) only [Nat.reduceEqDiff, Nat.reduceAdd, Nat.reduceMul, Nat.reduceSub, Nat.reduceLeDiff, Int.reduceAdd, Int.reduceSub, Int.reduceMul, Int.reduceLT, Int.reduceLE, Int.reduceGT, Int.reduceGE, Int.reduceEq, Int.reduceBEq, Int.reduceBNe, Int.reduceNeg, Int.reduceToNat, csAll, ↓reduceIte]) (fun d hd hd' => by simp (disch := first | omega | rfl | assumption | (simp only [csN, Nat.reduceAdd, Nat.reduceMul, Nat.reduceLeDiff, Nat.reduceEqDiff] <;> omega) | (simp only [csF]; done) | (simp only [csF] <;> assumption) | fail) only [Nat.reduceEqDiff, Nat.reduceAdd, Nat.reduceMul, Nat.reduceSub, Nat.reduceLeDiff, Int.reduceAdd, Int.reduceSub, Int.reduceMul, Int.reduceLT, Int.reduceLE, Int.reduceGT, Int.reduceGE, Int.reduceEq, Int.reduceBEq, Int.reduceBNe, Int.reduceNeg, Int.reduceToNat, csAll, ↓reduceIte]) (fun _ _ => rfl)
  refine ⟨_, o, L, .nilSlice, ?_, m1, m2, At.nil⟩
  rw [run_lv c94]
  simp (disch := first | omega | rfl | assumption | (simp only [csN, Nat.reduceAdd, Nat.reduceMul, Nat.reduceLeDiff, Nat.reduceEqDiff] <;> omega) | (simp only [csF]; done) | (simp only [csF] <;> assumption) | fail) only [Nat.reduceEqDiff, Nat.reduceAdd, Nat.reduceMul, Nat.reduceSub, Nat.reduceLeDiff, Int.reduceAdd, Int.reduceSub, Int.reduceMul, Int.reduceLT, Int.reduceLE, Int.reduceGT, Int.reduceGE, Int.reduceEq, Int.reduceBEq, Int.reduceBNe, Int.reduceNeg, Int.reduceToNat, csAll, ↓reduceIte, C94, entry_1, h, h2, h3, effOf, ints_set]

/-- What tells numbers. -/
theorem tells {l : List Int} {H1 H2 : CHeap} {n : Nat} {r : Option (CV × CHeap)} (m : MRep o g H b M L) (hl : l.length = n) (hr : r = some (effOf (.slice (H.length + 1) 0 n n 1 false) ⟨l, 0, 0, 0, 0, 0, 0⟩, H ++ [⟨[.slice (H.length + 1) 0 n n 1 false, .i 0, .i 0, .i 0, .i 0, .i 0, .i 0], .rw, 0⟩] ++ [⟨Go.Cs.ints l, .rw, 1⟩] ++ [⟨[.slice (H.length + 1) 0 n n 1 false, .i 0, .i 0, .i 0, .i 0, .i 0, .i 0], .rw, 0⟩])) :
    DoesE o g H b M ⟨l, 0, 0, 0, 0, 0, 0⟩ r := by
  subst hr
  refine ⟨_, o, L, _, rfl, ((m.app _).app _).app _, .grow m.dom (by simp) (fun c hc => by simp (disch := first | omega | rfl | assumption | (simp only [csN, Nat.reduceAdd, Nat.reduceMul, Nat.reduceLeDiff, Nat.reduceEqDiff] <;> omega) | (simp only [csF]; done) | (simp only [csF] <;> assumption) | fail) only [Nat.reduceEqDiff, Nat.reduceAdd, Nat.reduceMul, Nat.reduceSub, Nat.reduceLeDiff, Int.reduceAdd, Int.reduceSub, Int.reduceMul, Int.reduceLT, Int.reduceLE, Int.reduceGT, Int.reduceGE, Int.reduceEq, Int.reduceBEq, Int.reduceBNe, Int.reduceNeg, Int.reduceToNat, csAll, ↓reduceIte]), .inr ⟨_, _, by rw [hl], Loc_some.2 ⟨by omega, rfl⟩, by simp (disch := first | omega | rfl | assumption | (simp only [csN, Nat.reduceAdd, Nat.reduceMul, Nat.reduceLeDiff, Nat.reduceEqDiff] <;> omega) | (simp only [csF]; done) | (simp only [csF] <;> assumption) | fail) only [Nat.reduceEqDiff, Nat.reduceAdd, Nat.reduceMul, Nat.reduceSub, Nat.reduceLeDiff, Int.reduceAdd, Int.reduceSub, Int.reduceMul, Int.reduceLT, Int.reduceLE, Int.reduceGT, Int.reduceGE, Int.reduceEq, Int.reduceBEq, Int.reduceBNe, Int.reduceNeg, Int.reduceToNat, csAll, ↓reduceIte], by simp [ints_len]⟩⟩

/-- ActIdent. -/
theorem e96 (A : ActAt o g H b M L ab x mu s v tl) (ha : 0 ≤ x.a ∧ x.a < 16) : DoesE o g H b M ⟨[s.getD x.a.toNat 0], 0, 0, 0, 0, 0, 0⟩ (run P 96 [.ptr ab 0] H) := by
  have h := A.blk
  rw [A.ev] at h
  have h2 := A.cells
  have hl := lt_of_get h
  have hl2 := lt_of_get h2
  have h3 := slotGet A.len ha
  refine tells (H1 := H) (H2 := H) A.m rfl ?_
  rw [run_lv c96]
  simp (disch := first | omega | rfl | assumption | (simp only [csN, Nat.reduceAdd, Nat.reduceMul, Nat.reduceLeDiff, Nat.reduceEqDiff] <;> omega) | (simp only [csF]; done) | (simp only [csF] <;> assumption) | fail) only [Nat.reduceEqDiff, Nat.reduceAdd, Nat.reduceMul, Nat.reduceSub, Nat.reduceLeDiff, Int.reduceAdd, Int.reduceSub, Int.reduceMul, Int.reduceLT, Int.reduceLE, Int.reduceGT, Int.reduceGE, Int.reduceEq, Int.reduceBEq, Int.reduceBNe, Int.reduceNeg, Int.reduceToNat, csAll, ↓reduceIte, C96, entry_1, h, h2, h3, effOf, f92, ints_cons, ints_nil]

/-- ActSame. -/
theorem e95 (A : ActAt o g H b M L ab x mu s v tl) (ha : 0 ≤ x.a ∧ x.a < 16) (hb : 0 ≤ x.b ∧ x.b < 16) : DoesE o g H b M ⟨[if s.getD x.a.toNat 0 = s.getD x.b.toNat 0 then 1 else 0], 0, 0, 0, 0, 0, 0⟩ (run P 95 [.ptr ab 0] H) := by
  have h := A.blk
  rw [A.ev] at h
  have h2 := A.cells
  have hl := lt_of_get h
  have hl2 := lt_of_get h2
  have h3 := slotGet A.len ha
  have h3' := slotGet A.len hb
  refine tells (H1 := H) (H2 := H) A.m rfl ?_
  rw [run_lv c95]
  generalize s.getD x.a.toNat 0 = p at *
  generalize s.getD x.b.toNat 0 = q at *
  by_cases e : p = q
  · simp (disch := first | omega | rfl | assumption | (simp only [csN, Nat.reduceAdd, Nat.reduceMul, Nat.reduceLeDiff, Nat.reduceEqDiff] <;> omega) | (simp only [csF]; done) | (simp only [csF] <;> assumption) | fail) only [Nat.reduceEqDiff, Nat.reduceAdd, Nat.reduceMul, Nat.reduceSub, Nat.reduceLeDiff, Int.reduceAdd, Int.reduceSub, Int.reduceMul, Int.reduceLT, Int.reduceLE, Int.reduceGT, Int.reduceGE, Int.reduceEq, Int.reduceBEq, Int.reduceBNe, Int.reduceNeg, Int.reduceToNat, csAll, ↓reduceIte, C95, entry_1, h, h2, h3, h3', effOf, f92, ints_cons, ints_nil, if_pos e]
  · simp (disch := first | omega | rfl | assumption | (simp only [csN, Nat.reduceAdd, Nat.reduceMul, Nat.reduceLeDiff, Nat.reduceEqDiff] <;> omega) | (simp only [csF]; done) | (simp only [csF] <;> assumption) | fail) only [Nat.reduceEqDiff, Nat.reduceAdd, Nat.reduceMul, Nat.reduceSub, Nat.reduceLeDiff, Int.reduceAdd, Int.reduceSub, Int.reduceMul, Int.reduceLT, Int.reduceLE, Int.reduceGT, Int.reduceGE, Int.reduceEq, Int.reduceBEq, Int.reduceBNe, Int.reduceNeg, Int.reduceToNat, csAll, ↓reduceIte, C95, entry_1, h, h2, h3, h3', effOf, f92, ints_cons, ints_nil, if_neg e]

/-- ActImport. -/
theorem e99 (A : ActAt o g H b M L ab x mu s v tl) (ha : 0 ≤ x.a ∧ x.a < 16) (hi : 0 ≤ x.i ∧ x.i < 16) :
    DoesE o g H b { M with slots := M.slots.set mu (s.set x.a.toNat (M.globals.getD x.i.toNat 0)) } ⟨[], 0, 0, 0, 0, 0, M.globals.getD x.i.toNat 0⟩ (run P 99 [.ptr ab 0] H) := by
  have h := A.blk
  rw [A.ev] at h
  have h2 := A.cells
  have hl := lt_of_get h
  have hl2 := lt_of_get h2
  have h3 := slotGet A.w.g16.1 hi
  have A' := A.app [⟨zEff, .rw, 0⟩]
  have hc := A.m.cells
  obtain ⟨tl', d1, d2, d3, d4⟩ := A.m.globals.pos (by omega)
  have hl3 := lt_of_get d3
  have hl4 := lt_of_get hc
  rw [d1] at hc
  generalize hz : M.globals.getD x.i.toNat 0 = z at *
  have h10 := f85 A' ha z
  rw [set_lt hl2] at h10
  obtain ⟨m1, m2⟩ := A.setSlot (Hf := H.set (blkOf v) ⟨Go.Cs.ints (s.set x.a.toNat z), .rw, 1⟩ ++ [⟨[.nilSlice, .i 0, .i 0, .i 0, .i 0, .i 0, .i z], .rw, 0⟩] ++ [⟨[.nilSlice, .i 0, .i 0, .i 0, .i 0, .i 0, .i z], .rw, 0⟩])
    (s' := s.set x.a.toNat z) (by simp [A.len]) (Nat.le_refl _) (by simp) A.m.dom
    (by simp (disch := first | omega | rfl | assumption | (simp only [csN, Nat.reduceAdd, Nat.reduceMul, Nat.reduceLeDiff, Nat.reduceEqDiff] <;> omega) | (simp only [csF]; done) | (simp only [csF] <;> assumption) | fail) only [Nat.reduceEqDiff, Nat.reduceAdd, Nat.reduceMul, Nat.reduceSub, Nat.reduceLeDiff, Int.reduceAdd, Int.reduceSub, Int.reduceMul, Int.reduceLT, Int.reduceLE, Int.reduceGT, Int.reduceGE, Int.reduceEq, Int.reduceBEq, Int.reduceBNe, Int.reduceNeg, Int.reduceToNat, csAll, ↓reduceIte]) (fun d hd hd' => by simp (disch := first | omega | rfl | assumption | (simp only [csN, Nat.reduceAdd, Nat.reduceMul, Nat.reduceLeDiff, Nat.reduceEqDiff] <;> omega) | (simp only [csF]; done) | (simp only [csF] <;> assumption) | fail) only [Nat.reduceEqDiff, Nat.reduceAdd, Nat.reduceMul, Nat.reduceSub, Nat.reduceLeDiff, Int.reduceAdd, Int.reduceSub, Int.reduceMul, Int.reduceLT, Int.reduceLE, Int.reduceGT, Int.reduceGE, Int.reduceEq, Int.reduceBEq, Int.reduceBNe, Int.reduceNeg, Int.reduceToNat, csAll, ↓reduceIte]) (fun _ _ => rfl)
  refine ⟨_, o, L, .nilSlice, ?_, m1, m2, At.nil⟩
  rw [run_lv c99]
  simp (disch := first | omega | rfl | assumption | (simp only [csN, Nat.reduceAdd, Nat.reduceMul, Nat.reduceLeDiff, Nat.reduceEqDiff] <;> omega) | (simp only [csF]; done) | (simp only [csF] <;> assumption) | fail) only [Nat.reduceEqDiff, Nat.reduceAdd, Nat.reduceMul, Nat.reduceSub, Nat.reduceLeDiff, Int.reduceAdd, Int.reduceSub, Int.reduceMul, Int.reduceLT, Int.reduceLE, Int.reduceGT, Int.reduceGE, Int.reduceEq, Int.reduceBEq, Int.reduceBNe, Int.reduceNeg, Int.reduceToNat, csAll, ↓reduceIte, C99, entry_1, h, hc, d3, h2, h3, h10, effOf]

/-- ActExport. -/
theorem e98 (A : ActAt o g H b M L ab x mu s v tl) (ha : 0 ≤ x.a ∧ x.a < 16) (hi : 0 ≤ x.i ∧ x.i < 16) :
    DoesE o g H b { M with globals := M.globals.set x.i.toNat (s.getD x.a.toNat 0) } ⟨[], 0, 0, 0, 0, 0, 0⟩ (run P 98 [.ptr ab 0] H) := by
  have h := A.blk
  rw [A.ev] at h
  have h2 := A.cells
  have hl := lt_of_get h
  have hl2 := lt_of_get h2
  have h3 := slotGet A.len ha
  have hc := A.m.cells
  obtain ⟨tl', d1, d2, d3, d4⟩ := A.m.globals.pos (by omega)
  have hl3 := lt_of_get d3
  have hl4 := lt_of_get hc
  have hg : (Go.Cs.ints M.globals).length = 16 := by rw [ints_len, A.w.g16.1]
  rw [d1] at hc
  generalize hz : s.getD x.a.toNat 0 = z at *
  refine ⟨H.set (blkOf L.gl) ⟨Go.Cs.ints (M.globals.set x.i.toNat z), .rw, 1⟩ ++ [⟨zEff, .rw, 0⟩], o, L, .nilSlice, ?_, ?_, ?_, At.nil⟩
  · rw [run_lv c98]
    simp (disch := first | omega | rfl | assumption | (simp only [csN, Nat.reduceAdd, Nat.reduceMul, Nat.reduceLeDiff, Nat.reduceEqDiff] <;> omega) | (simp only [csF]; done) | (simp only [csF] <;> assumption) | fail) only [Nat.reduceEqDiff, Nat.reduceAdd, Nat.reduceMul, Nat.reduceSub, Nat.reduceLeDiff, Int.reduceAdd, Int.reduceSub, Int.reduceMul, Int.reduceLT, Int.reduceLE, Int.reduceGT, Int.reduceGE, Int.reduceEq, Int.reduceBEq, Int.reduceBNe, Int.reduceNeg, Int.reduceToNat, csAll, ↓reduceIte, C98, entry_1, h, hc, d3, h2, h3, effOf, hg, ints_set]
  · refine A.m.setGlobals (by simp) (fun c k hk hk' => ?_) (.inr ⟨_, _, d1, d2, by simp (disch := first | omega | rfl | assumption | (simp only [csN, Nat.reduceAdd, Nat.reduceMul, Nat.reduceLeDiff, Nat.reduceEqDiff] <;> omega) | (simp only [csF]; done) | (simp only [csF] <;> assumption) | fail) only [Nat.reduceEqDiff, Nat.reduceAdd, Nat.reduceMul, Nat.reduceSub, Nat.reduceLeDiff, Int.reduceAdd, Int.reduceSub, Int.reduceMul, Int.reduceLT, Int.reduceLE, Int.reduceGT, Int.reduceGE, Int.reduceEq, Int.reduceBEq, Int.reduceBNe, Int.reduceNeg, Int.reduceToNat, csAll, ↓reduceIte], by simp [ints_len, A.w.g16.1]⟩)
    have hcl := A.m.dom c _ hk
    have : c ≠ blkOf L.gl := by
      rintro rfl
      rw [d2] at hk
      simp only [Option.some.injEq, Prod.mk.injEq, true_and] at hk
      exact hk' hk.symm
    simp (disch := first | omega | rfl | assumption | (simp only [csN, Nat.reduceAdd, Nat.reduceMul, Nat.reduceLeDiff, Nat.reduceEqDiff] <;> omega) | (simp only [csF]; done) | (simp only [csF] <;> assumption) | fail) only [Nat.reduceEqDiff, Nat.reduceAdd, Nat.reduceMul, Nat.reduceSub, Nat.reduceLeDiff, Int.reduceAdd, Int.reduceSub, Int.reduceMul, Int.reduceLT, Int.reduceLE, Int.reduceGT, Int.reduceGE, Int.reduceEq, Int.reduceBEq, Int.reduceBNe, Int.reduceNeg, Int.reduceToNat, csAll, ↓reduceIte]
  · refine ⟨by simp, fun _ _ => rfl, fun c t h hc => by have := A.m.dom c t h; omega, fun c hcl hk => ?_⟩
    have : c ≠ blkOf L.gl := by rintro rfl; exact hk _ d2
    simp (disch := first | omega | rfl | assumption | (simp only [csN, Nat.reduceAdd, Nat.reduceMul, Nat.reduceLeDiff, Nat.reduceEqDiff] <;> omega) | (simp only [csF]; done) | (simp only [csF] <;> assumption) | fail) only [Nat.reduceEqDiff, Nat.reduceAdd, Nat.reduceMul, Nat.reduceSub, Nat.reduceLeDiff, Int.reduceAdd, Int.reduceSub, Int.reduceMul, Int.reduceLT, Int.reduceLE, Int.reduceGT, Int.reduceGE, Int.reduceEq, Int.reduceBEq, Int.reduceBNe, Int.reduceNeg, Int.reduceToNat, csAll, ↓reduceIte]

/-- ActGet. -/
theorem e91 (A : ActAt o g H b M L ab x mu s v tl) (ha : 0 ≤ x.a ∧ x.a < 16) (hz : s.getD x.a.toNat 0 ≠ 0) (hi : 0 ≤ x.i ∧ x.i < (M.obj (s.getD x.a.toNat 0)).nd) :
    DoesE o g H b M ⟨[(M.obj (s.getD x.a.toNat 0)).data.getD x.i.toNat 0], 0, 0, 0, 0, 0, 0⟩ (run P 91 [.ptr ab 0] H) := by
  have h := A.blk
  rw [A.ev] at h
  have h2 := A.cells
  have hl := lt_of_get h
  have hl2 := lt_of_get h2
  have h3 := slotGet A.len ha
  have h4 := slotHas A.w A.hs ha hz
  have A' := A.app [⟨zEff, .rw, 0⟩]
  have h5 := f74 A'.m A.w _ h4
  obtain ⟨hh, rest, h0, h6, h7, -, ht, -, h8⟩ := A.m.objAt _ h4
  have hl3 := A.m.dom _ _ ht
  have hnd := (A.w.obj h4).nd
  obtain ⟨tl', d1, d2, d3, d4⟩ := h8.pos (by omega)
  have hl4 := A.m.dom _ _ d2
  have h9 : (Go.Cs.ints (M.obj (s.getD x.a.toNat 0)).data)[x.i.toNat]? = some (.i ((M.obj (s.getD x.a.toNat 0)).data.getD x.i.toNat 0)) := by
    rw [ints_get, getD_of 0 (by omega)]; rfl
  rw [d1] at h7
  refine tells (H1 := H) (H2 := H) A.m rfl ?_
  rw [run_lv c91]
  simp (disch := first | omega | rfl | assumption | (simp only [csN, Nat.reduceAdd, Nat.reduceMul, Nat.reduceLeDiff, Nat.reduceEqDiff] <;> omega) | (simp only [csF]; done) | (simp only [csF] <;> assumption) | fail) only [Nat.reduceEqDiff, Nat.reduceAdd, Nat.reduceMul, Nat.reduceSub, Nat.reduceLeDiff, Int.reduceAdd, Int.reduceSub, Int.reduceMul, Int.reduceLT, Int.reduceLE, Int.reduceGT, Int.reduceGE, Int.reduceEq, Int.reduceBEq, Int.reduceBNe, Int.reduceNeg, Int.reduceToNat, csAll, ↓reduceIte, C91, entry_1, h, h2, h3, h5, h6, drop_get, h7, d3, h9, effOf, f92, ints_cons, ints_nil]

/-- ActShape. -/
theorem e100 (A : ActAt o g H b M L ab x mu s v tl) (ha : 0 ≤ x.a ∧ x.a < 16) (hz : s.getD x.a.toNat 0 ≠ 0) :
    DoesE o g H b M ⟨[(M.obj (s.getD x.a.toNat 0)).nr, (M.obj (s.getD x.a.toNat 0)).nd, (M.obj (s.getD x.a.toNat 0)).kd], 0, 0, 0, 0, 0, 0⟩ (run P 100 [.ptr ab 0] H) := by
  have h := A.blk
  rw [A.ev] at h
  have h2 := A.cells
  have hl := lt_of_get h
  have hl2 := lt_of_get h2
  have h3 := slotGet A.len ha
  have h4 := slotHas A.w A.hs ha hz
  have A' := A.app [⟨zEff, .rw, 0⟩]
  have h5 := f74 A'.m A.w _ h4
  obtain ⟨hh, rest, h0, h6, h7, h7', ht, -, -⟩ := A.m.objAt _ h4
  have hl3 := A.m.dom _ _ ht
  generalize hx : M.obj (s.getD x.a.toNat 0) = xx at *
  refine ⟨H ++ [⟨[.slice (H.length + 2) 0 3 3 1 false, .i 0, .i 0, .i 0, .i 0, .i 0, .i 0], .rw, 0⟩] ++ [⟨[.i xx.nr, .i xx.nd, .i xx.kd], .rw, 0⟩] ++ [⟨[.i xx.nr, .i xx.nd, .i xx.kd], .rw, 1⟩] ++ [⟨[.slice (H.length + 2) 0 3 3 1 false, .i 0, .i 0, .i 0, .i 0, .i 0, .i 0], .rw, 0⟩], o, L, .slice (H.length + 2) 0 3 3 1 false, ?_,
    (((A.m.app _).app _).app _).app _, .grow A.m.dom (by simp) (fun c hc => by simp (disch := first | omega | rfl | assumption | (simp only [csN, Nat.reduceAdd, Nat.reduceMul, Nat.reduceLeDiff, Nat.reduceEqDiff] <;> omega) | (simp only [csF]; done) | (simp only [csF] <;> assumption) | fail) only [Nat.reduceEqDiff, Nat.reduceAdd, Nat.reduceMul, Nat.reduceSub, Nat.reduceLeDiff, Int.reduceAdd, Int.reduceSub, Int.reduceMul, Int.reduceLT, Int.reduceLE, Int.reduceGT, Int.reduceGE, Int.reduceEq, Int.reduceBEq, Int.reduceBNe, Int.reduceNeg, Int.reduceToNat, csAll, ↓reduceIte]), .inr ⟨_, _, rfl, Loc_some.2 ⟨by omega, rfl⟩, by simp (disch := first | omega | rfl | assumption | (simp only [csN, Nat.reduceAdd, Nat.reduceMul, Nat.reduceLeDiff, Nat.reduceEqDiff] <;> omega) | (simp only [csF]; done) | (simp only [csF] <;> assumption) | fail) only [Nat.reduceEqDiff, Nat.reduceAdd, Nat.reduceMul, Nat.reduceSub, Nat.reduceLeDiff, Int.reduceAdd, Int.reduceSub, Int.reduceMul, Int.reduceLT, Int.reduceLE, Int.reduceGT, Int.reduceGE, Int.reduceEq, Int.reduceBEq, Int.reduceBNe, Int.reduceNeg, Int.reduceToNat, csAll, ↓reduceIte, ints_cons, ints_nil], rfl⟩⟩
  rw [run_lv c100]
  simp (disch := first | omega | rfl | assumption | (simp only [csN, Nat.reduceAdd, Nat.reduceMul, Nat.reduceLeDiff, Nat.reduceEqDiff] <;> omega) | (simp only [csF]; done) | (simp only [csF] <;> assumption) | fail) only [Nat.reduceEqDiff, Nat.reduceAdd, Nat.reduceMul, Nat.reduceSub, Nat.reduceLeDiff, Int.reduceAdd, Int.reduceSub, Int.reduceMul, Int.reduceLT, Int.reduceLE, Int.reduceGT, Int.reduceGE, Int.reduceEq, Int.reduceBEq, Int.reduceBNe, Int.reduceNeg, Int.reduceToNat, csAll, ↓reduceIte, C100, entry_1, h, h2, h3, h5, h6, h7, effOf, f92]
end
end Go.Cs.Try

/- What the effects of acts do: Put, Store, New. -/
namespace Go.Cs
theorem MRep.objOf {o : Tags} {g : Nat} {H Hf : CHeap} {b : Nat} {M : Mdl} {L : Lay} (m : MRep o g H b M L) {n : Int} (c : M.has n) {h : CV × CV} (h0 : L.hv[(n - 1).toNat]? = some h) {x' : Obj}
    (e : x'.nr = (M.obj n).nr ∧ x'.nd = (M.obj n).nd ∧ x'.kd = (M.obj n).kd ∧ x'.refs.length = (M.obj n).refs.length ∧ x'.data.length = (M.obj n).data.length) {k : Nat} {c0 : Nat} (hk : k = 6 ∨ k = 7) (ht : o c0 = some (g, k, (n - 1).toNat))
    (hl : H.length ≤ Hf.length) (hf : ∀ d, d < H.length → d ≠ c0 → Hf[d]? = H[d]?)
    (hr : At o (g, 6, (n - 1).toNat) Hf h.1 1 (M.obj n).refs.length (ints x'.refs) ∧ At o (g, 7, (n - 1).toNat) Hf h.2 1 (M.obj n).data.length (ints x'.data)) :
    MRep o g Hf b (M.setObj n x') L ∧ Frm g o H o Hf := by
  refine ⟨m.setObj (Mdl.obj_get c) e hl ?_ ?_, hl, fun _ _ => rfl, fun c t h hc => by have := m.dom c t h; omega, fun d hd hk' => hf d hd ?_⟩
  · intro d k' hd h6 h7
    refine hf d (m.dom d _ hd) ?_
    rintro rfl
    rw [ht] at hd
    simp only [Option.some.injEq, Prod.mk.injEq, true_and] at hd
    rcases hk with rfl | rfl
    · exact h6 hd.symm
    · exact h7 hd.symm
  · intro h' hh
    rw [h0] at hh
    simp only [Option.some.injEq] at hh
    subst hh
    exact hr
  · rintro rfl; exact hk' _ ht
end Go.Cs
namespace Go.Cs.Try
open Go Go.Cs
set_option maxRecDepth 100000
section
variable {o : Tags} {g : Nat} {H : CHeap} {b : Nat} {M : Mdl} {L : Lay} {ab : Nat} {x : Act} {mu : Nat} {s : List Int} {v : CV} {tl : Bool}

/-- ActPut. -/
theorem e90 (A : ActAt o g H b M L ab x mu s v tl) (ha : 0 ≤ x.a ∧ x.a < 16) (hz : s.getD x.a.toNat 0 ≠ 0) (hi : 0 ≤ x.i ∧ x.i < (M.obj (s.getD x.a.toNat 0)).nd) :
    DoesE o g H b (M.setObj (s.getD x.a.toNat 0) { M.obj (s.getD x.a.toNat 0) with data := (M.obj (s.getD x.a.toNat 0)).data.set x.i.toNat x.n }) ⟨[], 0, 0, 0, 0, 0, 0⟩ (run P 90 [.ptr ab 0] H) := by
  have h := A.blk
  rw [A.ev] at h
  have h2 := A.cells
  have hl := lt_of_get h
  have hl2 := lt_of_get h2
  have h3 := slotGet A.len ha
  have h4 := slotHas A.w A.hs ha hz
  have A' := A.app [⟨zEff, .rw, 0⟩]
  have h5 := f74 A'.m A.w _ h4
  obtain ⟨hh, rest, h0, h6, h7, -, ht, h8', h8⟩ := A.m.objAt _ h4
  have hl3 := A.m.dom _ _ ht
  have hnd := (A.w.obj h4).nd
  obtain ⟨tl', d1, d2, d3, d4⟩ := h8.pos (by omega)
  have hl4 := A.m.dom _ _ d2
  have hg := ints_len (M.obj (s.getD x.a.toNat 0)).data
  rw [d1] at h7
  generalize hq : s.getD x.a.toNat 0 = q at *
  generalize hx : M.obj q = xx at *
  obtain ⟨m1, m2⟩ := A.m.objOf (Hf := H.set (blkOf hh.2) ⟨Go.Cs.ints (xx.data.set x.i.toNat x.n), .rw, 1⟩ ++ [⟨zEff, .rw, 0⟩]) h4 h0 (x' := { xx with data := xx.data.set x.i.toNat x.n })
    (by rw [hx]; simp) (.inr rfl) d2 (by simp) (fun d hd hd' => by simp (disch := first | omega | rfl | assumption | (simp only [csN, Nat.reduceAdd, Nat.reduceMul, Nat.reduceLeDiff, Nat.reduceEqDiff] <;> omega) | (simp only [csF]; done) | (simp only [csF] <;> assumption) | fail) only [Nat.reduceEqDiff, Nat.reduceAdd, Nat.reduceMul, Nat.reduceSub, Nat.reduceLeDiff, Int.reduceAdd, Int.reduceSub, Int.reduceMul, Int.reduceLT, Int.reduceLE, Int.reduceGT, Int.reduceGE, Int.reduceEq, Int.reduceBEq, Int.reduceBNe, Int.reduceNeg, Int.reduceToNat, csAll, ↓reduceIte])
    ⟨by rw [hx]; exact h8'.frame (fun _ h => h) (fun c hc => by
        have hcl := A.m.dom c _ hc
        have : c ≠ blkOf hh.2 := by rintro rfl; rw [d2] at hc; simp at hc
        simp (disch := first | omega | rfl | assumption | (simp only [csN, Nat.reduceAdd, Nat.reduceMul, Nat.reduceLeDiff, Nat.reduceEqDiff] <;> omega) | (simp only [csF]; done) | (simp only [csF] <;> assumption) | fail) only [Nat.reduceEqDiff, Nat.reduceAdd, Nat.reduceMul, Nat.reduceSub, Nat.reduceLeDiff, Int.reduceAdd, Int.reduceSub, Int.reduceMul, Int.reduceLT, Int.reduceLE, Int.reduceGT, Int.reduceGE, Int.reduceEq, Int.reduceBEq, Int.reduceBNe, Int.reduceNeg, Int.reduceToNat, csAll, ↓reduceIte]), by rw [hx]; exact .inr ⟨_, _, d1, d2, by simp (disch := first | omega | rfl | assumption | (simp only [csN, Nat.reduceAdd, Nat.reduceMul, Nat.reduceLeDiff, Nat.reduceEqDiff] <;> omega) | (simp only [csF]; done) | (simp only [csF] <;> assumption) | fail) only [Nat.reduceEqDiff, Nat.reduceAdd, Nat.reduceMul, Nat.reduceSub, Nat.reduceLeDiff, Int.reduceAdd, Int.reduceSub, Int.reduceMul, Int.reduceLT, Int.reduceLE, Int.reduceGT, Int.reduceGE, Int.reduceEq, Int.reduceBEq, Int.reduceBNe, Int.reduceNeg, Int.reduceToNat, csAll, ↓reduceIte], by simp [ints_len]⟩⟩
  refine ⟨_, o, L, .nilSlice, ?_, m1, m2, At.nil⟩
  rw [run_lv c90]
  simp (disch := first | omega | rfl | assumption | (simp only [csN, Nat.reduceAdd, Nat.reduceMul, Nat.reduceLeDiff, Nat.reduceEqDiff] <;> omega) | (simp only [csF]; done) | (simp only [csF] <;> assumption) | fail) only [Nat.reduceEqDiff, Nat.reduceAdd, Nat.reduceMul, Nat.reduceSub, Nat.reduceLeDiff, Int.reduceAdd, Int.reduceSub, Int.reduceMul, Int.reduceLT, Int.reduceLE, Int.reduceGT, Int.reduceGE, Int.reduceEq, Int.reduceBEq, Int.reduceBNe, Int.reduceNeg, Int.reduceToNat, csAll, ↓reduceIte, C90, entry_1, h, h2, h3, h5, h6, drop_get, h7, d3, effOf, ints_set, hg]

/-- ActStore. -/
theorem e88 (A : ActAt o g H b M L ab x mu s v tl) (ha : 0 ≤ x.a ∧ x.a < 16) (hb : 0 ≤ x.b ∧ x.b < 16) (hz : s.getD x.a.toNat 0 ≠ 0) (hi : 0 ≤ x.i ∧ x.i < (M.obj (s.getD x.a.toNat 0)).nr) :
    DoesE o g H b (M.setObj (s.getD x.a.toNat 0) { M.obj (s.getD x.a.toNat 0) with refs := (M.obj (s.getD x.a.toNat 0)).refs.set x.i.toNat (s.getD x.b.toNat 0) })
      ⟨[], s.getD x.a.toNat 0, x.i, (M.obj (s.getD x.a.toNat 0)).refs.getD x.i.toNat 0, s.getD x.b.toNat 0, 0, 0⟩ (run P 88 [.ptr ab 0] H) := by
  have h := A.blk
  rw [A.ev] at h
  have h2 := A.cells
  have hl := lt_of_get h
  have hl2 := lt_of_get h2
  have h3 := slotGet A.len ha
  have h3' := slotGet A.len hb
  have h4 := slotHas A.w A.hs ha hz
  have A' := A.app [⟨zEff, .rw, 0⟩]
  have h5 := f74 A'.m A.w _ h4
  obtain ⟨hh, rest, h0, h6, h7, -, ht, h8, h8'⟩ := A.m.objAt _ h4
  have hl3 := A.m.dom _ _ ht
  have hnd := (A.w.obj h4).nr
  obtain ⟨tl', d1, d2, d3, d4⟩ := h8.pos (by omega)
  have hl4 := A.m.dom _ _ d2
  have hg := ints_len (M.obj (s.getD x.a.toNat 0)).refs
  have h9 : (Go.Cs.ints (M.obj (s.getD x.a.toNat 0)).refs)[x.i.toNat]? = some (.i ((M.obj (s.getD x.a.toNat 0)).refs.getD x.i.toNat 0)) := by
    rw [ints_get, getD_of 0 (by omega)]; rfl
  rw [d1] at h7
  generalize hq : s.getD x.a.toNat 0 = q at *
  generalize hq' : s.getD x.b.toNat 0 = q' at *
  generalize hx : M.obj q = xx at *
  generalize hold : xx.refs.getD x.i.toNat 0 = old at *
  obtain ⟨m1, m2⟩ := A.m.objOf (Hf := H.set (blkOf hh.1) ⟨Go.Cs.ints (xx.refs.set x.i.toNat q'), .rw, 1⟩ ++ [⟨[.nilSlice, .i q, .i x.i, .i old, .i q', .i 0, .i 0], .rw, 0⟩] ++ [⟨[.nilSlice, .i q, .i x.i, .i old, .i q', .i 0, .i 0], .rw, 0⟩]) h4 h0 (x' := { xx with refs := xx.refs.set x.i.toNat q' })
    (by rw [hx]; simp) (.inl rfl) d2 (by simp) (fun d hd hd' => by simp (disch := first | omega | rfl | assumption | (simp only [csN, Nat.reduceAdd, Nat.reduceMul, Nat.reduceLeDiff, Nat.reduceEqDiff] <;> omega) | (simp only [csF]; done) | (simp only [csF] <;> assumption) | fail) only [Nat.reduceEqDiff, Nat.reduceAdd, Nat.reduceMul, Nat.reduceSub, Nat.reduceLeDiff, Int.reduceAdd, Int.reduceSub, Int.reduceMul, Int.reduceLT, Int.reduceLE, Int.reduceGT, Int.reduceGE, Int.reduceEq, Int.reduceBEq, Int.reduceBNe, Int.reduceNeg, Int.reduceToNat, csAll, ↓reduceIte])
    ⟨by rw [hx]; exact .inr ⟨_, _, d1, d2, by simp (disch := first | omega | rfl | assumption | (simp only [csN, Nat.reduceAdd, Nat.reduceMul, Nat.reduceLeDiff, Nat.reduceEqDiff] <;> omega) | (simp only [csF]; done) | (simp only [csF] <;> assumption) | fail) only [Nat.reduceEqDiff, Nat.reduceAdd, Nat.reduceMul, Nat.reduceSub, Nat.reduceLeDiff, Int.reduceAdd, Int.reduceSub, Int.reduceMul, Int.reduceLT, Int.reduceLE, Int.reduceGT, Int.reduceGE, Int.reduceEq, Int.reduceBEq, Int.reduceBNe, Int.reduceNeg, Int.reduceToNat, csAll, ↓reduceIte], by simp [ints_len]⟩, by rw [hx]; exact h8'.frame (fun _ h => h) (fun c hc => by
        have hcl := A.m.dom c _ hc
        have : c ≠ blkOf hh.1 := by rintro rfl; rw [d2] at hc; simp at hc
        simp (disch := first | omega | rfl | assumption | (simp only [csN, Nat.reduceAdd, Nat.reduceMul, Nat.reduceLeDiff, Nat.reduceEqDiff] <;> omega) | (simp only [csF]; done) | (simp only [csF] <;> assumption) | fail) only [Nat.reduceEqDiff, Nat.reduceAdd, Nat.reduceMul, Nat.reduceSub, Nat.reduceLeDiff, Int.reduceAdd, Int.reduceSub, Int.reduceMul, Int.reduceLT, Int.reduceLE, Int.reduceGT, Int.reduceGE, Int.reduceEq, Int.reduceBEq, Int.reduceBNe, Int.reduceNeg, Int.reduceToNat, csAll, ↓reduceIte])⟩
  refine ⟨_, o, L, .nilSlice, ?_, m1, m2, At.nil⟩
  rw [run_lv c88]
  simp (disch := first | omega | rfl | assumption | (simp only [csN, Nat.reduceAdd, Nat.reduceMul, Nat.reduceLeDiff, Nat.reduceEqDiff] <;> omega) | (simp only [csF]; done) | (simp only [csF] <;> assumption) | fail) only [Nat.reduceEqDiff, Nat.reduceAdd, Nat.reduceMul, Nat.reduceSub, Nat.reduceLeDiff, Int.reduceAdd, Int.reduceSub, Int.reduceMul, Int.reduceLT, Int.reduceLE, Int.reduceGT, Int.reduceGE, Int.reduceEq, Int.reduceBEq, Int.reduceBNe, Int.reduceNeg, Int.reduceToNat, csAll, ↓reduceIte, C88, entry_1, h, h2, h3, h3', h5, h6, drop_get, h7, d3, h9, effOf, ints_set, hg]



theorem ints_rep (n : Nat) : Go.Cs.ints (List.replicate n 0) = (List.replicate n [CV.int .i64 0]).flatten := by
  induction n with
  | zero => rfl
  | succ n ih => simp only [List.replicate_succ, ints_cons, ih, List.flatten_cons]; rfl

/-- ActNew. -/
theorem e81 (A : ActAt o g H b M L ab x mu s v tl) (ha : 0 ≤ x.a ∧ x.a < 16) (hs : 0 ≤ x.nr ∧ x.nr ≤ 15 ∧ 0 ≤ x.nd ∧ x.nd ≤ 200) (hf : M.objs.length < 100000) :
    DoesE o g H b { M with objs := M.objs ++ [Go.Cs.bornObj x], slots := M.slots.set mu (s.set x.a.toNat (M.objs.length + 1)) } ⟨[], 0, 0, 0, 0, M.objs.length + 1, 0⟩ (run P 81 [.ptr ab 0] H) := by
  have h := A.blk
  rw [A.ev] at h
  have h2 := A.cells
  have hl := lt_of_get h
  have hl2 := lt_of_get h2
  have hc := A.m.cells
  have hl3 := lt_of_get hc
  have hg : (Go.Cs.ints s).length = 16 := by rw [ints_len, A.len]
  have ho := A.m.objs.len
  have m1 : MRep o g (H ++ [⟨zEff, .rw, 0⟩] ++ [⟨[.i x.nr, .i x.nd, .i x.sk], .rw, 0⟩] ++ [⟨(List.replicate x.nr.toNat [CV.int .i64 0]).flatten, .rw, 1⟩] ++ [⟨(List.replicate x.nd.toNat [CV.int .i64 0]).flatten, .rw, 1⟩] ++ [⟨[.i x.nr, .i x.nd, .i x.sk, .slice (H.length + 2) 0 x.nr.toNat x.nr.toNat 1 false, .slice (H.length + 3) 0 x.nd.toNat x.nd.toNat 1 false], .rw, 5⟩] : CHeap) b M L := ((((A.m.app _).app _).app _).app _).app _
  obtain ⟨H', a1, a2, a3, a4⟩ := m1.objs.append (k := 1) (new := [.i x.nr, .i x.nd, .i x.sk, .slice (H.length + 2) 0 x.nr.toNat x.nr.toNat 1 false, .slice (H.length + 3) 0 x.nd.toNat x.nd.toNat 1 false]) (by omega) (Nat.le_trans (by omega : M.objs.length + 1 ≤ 100001) (by decide)) rfl rfl
  have hH1 : (H ++ [⟨zEff, .rw, 0⟩] ++ [⟨[.i x.nr, .i x.nd, .i x.sk], .rw, 0⟩] ++ [⟨(List.replicate x.nr.toNat [CV.int .i64 0]).flatten, .rw, 1⟩] ++ [⟨(List.replicate x.nd.toNat [CV.int .i64 0]).flatten, .rw, 1⟩] ++ [⟨[.i x.nr, .i x.nd, .i x.sk, .slice (H.length + 2) 0 x.nr.toNat x.nr.toNat 1 false, .slice (H.length + 3) 0 x.nd.toNat x.nd.toNat 1 false], .rw, 5⟩] : CHeap).length = H.length + 5 := by simp
  rw [hH1] at a1 a2 a3 a4
  have old : ∀ c, c < H.length → o c ≠ some (g, 5, 0) → H'[c]? = H[c]? := fun c hc' ho' => by
    rw [a4 c (by omega) ho']; simp (disch := first | omega | rfl | assumption | (simp only [csN, Nat.reduceAdd, Nat.reduceMul, Nat.reduceLeDiff, Nat.reduceEqDiff] <;> omega) | (simp only [csF]; done) | (simp only [csF] <;> assumption) | fail) only [Nat.reduceEqDiff, Nat.reduceAdd, Nat.reduceMul, Nat.reduceSub, Nat.reduceLeDiff, Int.reduceAdd, Int.reduceSub, Int.reduceMul, Int.reduceLT, Int.reduceLE, Int.reduceGT, Int.reduceGE, Int.reduceEq, Int.reduceBEq, Int.reduceBNe, Int.reduceNeg, Int.reduceToNat, csAll, ↓reduceIte]
  have hnone : ∀ c, H.length ≤ c → o c ≠ some (g, 5, 0) := fun c hc' e => by have := A.m.dom c _ e; omega
  have h0' : H'[H.length]? = some ⟨zEff, .rw, 0⟩ := by rw [a4 _ (by omega) (hnone _ (by omega))]; simp (disch := first | omega | rfl | assumption | (simp only [csN, Nat.reduceAdd, Nat.reduceMul, Nat.reduceLeDiff, Nat.reduceEqDiff] <;> omega) | (simp only [csF]; done) | (simp only [csF] <;> assumption) | fail) only [Nat.reduceEqDiff, Nat.reduceAdd, Nat.reduceMul, Nat.reduceSub, Nat.reduceLeDiff, Int.reduceAdd, Int.reduceSub, Int.reduceMul, Int.reduceLT, Int.reduceLE, Int.reduceGT, Int.reduceGE, Int.reduceEq, Int.reduceBEq, Int.reduceBNe, Int.reduceNeg, Int.reduceToNat, csAll, ↓reduceIte]
  have h1' : H'[H.length + 1]? = some ⟨[.i x.nr, .i x.nd, .i x.sk], .rw, 0⟩ := by rw [a4 _ (by omega) (hnone _ (by omega))]; simp (disch := first | omega | rfl | assumption | (simp only [csN, Nat.reduceAdd, Nat.reduceMul, Nat.reduceLeDiff, Nat.reduceEqDiff] <;> omega) | (simp only [csF]; done) | (simp only [csF] <;> assumption) | fail) only [Nat.reduceEqDiff, Nat.reduceAdd, Nat.reduceMul, Nat.reduceSub, Nat.reduceLeDiff, Int.reduceAdd, Int.reduceSub, Int.reduceMul, Int.reduceLT, Int.reduceLE, Int.reduceGT, Int.reduceGE, Int.reduceEq, Int.reduceBEq, Int.reduceBNe, Int.reduceNeg, Int.reduceToNat, csAll, ↓reduceIte]
  have h2' : H'[H.length + 2]? = some ⟨(List.replicate x.nr.toNat [CV.int .i64 0]).flatten, .rw, 1⟩ := by rw [a4 _ (by omega) (hnone _ (by omega))]; simp (disch := first | omega | rfl | assumption | (simp only [csN, Nat.reduceAdd, Nat.reduceMul, Nat.reduceLeDiff, Nat.reduceEqDiff] <;> omega) | (simp only [csF]; done) | (simp only [csF] <;> assumption) | fail) only [Nat.reduceEqDiff, Nat.reduceAdd, Nat.reduceMul, Nat.reduceSub, Nat.reduceLeDiff, Int.reduceAdd, Int.reduceSub, Int.reduceMul, Int.reduceLT, Int.reduceLE, Int.reduceGT, Int.reduceGE, Int.reduceEq, Int.reduceBEq, Int.reduceBNe, Int.reduceNeg, Int.reduceToNat, csAll, ↓reduceIte]
  have h3' : H'[H.length + 3]? = some ⟨(List.replicate x.nd.toNat [CV.int .i64 0]).flatten, .rw, 1⟩ := by rw [a4 _ (by omega) (hnone _ (by omega))]; simp (disch := first | omega | rfl | assumption | (simp only [csN, Nat.reduceAdd, Nat.reduceMul, Nat.reduceLeDiff, Nat.reduceEqDiff] <;> omega) | (simp only [csF]; done) | (simp only [csF] <;> assumption) | fail) only [Nat.reduceEqDiff, Nat.reduceAdd, Nat.reduceMul, Nat.reduceSub, Nat.reduceLeDiff, Int.reduceAdd, Int.reduceSub, Int.reduceMul, Int.reduceLT, Int.reduceLE, Int.reduceGT, Int.reduceGE, Int.reduceEq, Int.reduceBEq, Int.reduceBNe, Int.reduceNeg, Int.reduceToNat, csAll, ↓reduceIte]
  have hab' : H'[ab]? = _ := (old ab hl (by rw [A.free]; simp)).trans h
  have hv' : H'[blkOf v]? = _ := (old _ hl2 (by rw [A.tag]; simp)).trans h2
  have hb' : H'[b]? = _ := (old b hl3 (by rw [A.m.top]; simp)).trans hc
  have hbv : b ≠ blkOf v := by rintro rfl; have := A.m.top; rw [A.tag] at this; simp at this
  have hba : b ≠ ab := by rintro rfl; have := A.m.top; rw [A.free] at this; simp at this
  have hav := A.ne
  -- the new object
  have mb : MRep (((o.put (H.length + 2) (g, 6, M.objs.length)).put (H.length + 3) (g, 7, M.objs.length)).put (H.length + 5) (g, 5, 0)) g (H'.set b ⟨[L.sl, L.gl, L.qv, .slice (H.length + 5) 0 (M.objs.length + 1) (M.objs.length + 1) 5 true], .rw, 0⟩) b { M with objs := M.objs ++ [Go.Cs.bornObj x] } { L with ov := .slice (H.length + 5) 0 (M.objs.length + 1) (M.objs.length + 1) 5 true, hv := L.hv ++ [(.slice (H.length + 2) 0 x.nr.toNat x.nr.toNat 1 false, .slice (H.length + 3) 0 x.nd.toNat x.nd.toNat 1 false)] } := by
    refine A.m.born ?_ ?_ ?_ (by simp (disch := first | omega | rfl | assumption | (simp only [csN, Nat.reduceAdd, Nat.reduceMul, Nat.reduceLeDiff, Nat.reduceEqDiff] <;> omega) | (simp only [csF]; done) | (simp only [csF] <;> assumption) | fail) only [Nat.reduceEqDiff, Nat.reduceAdd, Nat.reduceMul, Nat.reduceSub, Nat.reduceLeDiff, Int.reduceAdd, Int.reduceSub, Int.reduceMul, Int.reduceLT, Int.reduceLE, Int.reduceGT, Int.reduceGE, Int.reduceEq, Int.reduceBEq, Int.reduceBNe, Int.reduceNeg, Int.reduceToNat, csAll, ↓reduceIte]) ?_ ?_ ?_
    · intro c t ht
      rw [List.length_set, a2]
      by_cases c5 : c = H.length + 5
      · omega
      · rw [Tags.put_ne c5] at ht
        by_cases c3 : c = H.length + 3
        · omega
        · rw [Tags.put_ne c3] at ht
          by_cases c2 : c = H.length + 2
          · omega
          · rw [Tags.put_ne c2] at ht
            have := A.m.dom c t ht; omega
    · intro c k hk
      have := A.m.dom c _ hk
      rw [Tags.put_ne (by omega), Tags.put_ne (by omega), Tags.put_ne (by omega), hk]
    · intro c k hk k5 k0
      have hcl := A.m.dom c _ hk
      have : b ≠ c := by rintro rfl; rw [A.m.top] at hk; simp only [Option.some.injEq, Prod.mk.injEq, true_and] at hk; exact k0 hk.symm
      rw [List.getElem?_set_ne this, old c hcl (by rw [hk]; simpa using k5)]
    · refine .inr ⟨_, _, rfl, Tags.put_eq, ?_, by simp [objCells_len _ _ A.m.nhv]; omega⟩
      rw [List.getElem?_set_ne (by omega), a3]; rfl
    · refine .inr ⟨H.length + 2, false, by simp [Go.Cs.bornObj], by rw [Tags.put_ne (by omega), Tags.put_ne (by omega), Tags.put_eq], ?_, by simp [ints_len, Go.Cs.bornObj]⟩
      rw [List.getElem?_set_ne (by omega), h2']; simp only [Go.Cs.bornObj, ints_rep]
    · refine .inr ⟨H.length + 3, false, by simp [Go.Cs.bornObj], by rw [Tags.put_ne (by omega), Tags.put_eq], ?_, by simp [ints_len, Go.Cs.bornObj]⟩
      rw [List.getElem?_set_ne (by omega), h3']; simp only [Go.Cs.bornObj, ints_rep]
  have htag : ∀ c, c < H.length → (((o.put (H.length + 2) (g, 6, M.objs.length)).put (H.length + 3) (g, 7, M.objs.length)).put (H.length + 5) (g, 5, 0)) c = o c := fun c hcl => by
    rw [Tags.put_ne (by omega), Tags.put_ne (by omega), Tags.put_ne (by omega)]
  have hvt := (htag _ hl2).trans A.tag
  have hnew : ∀ c t, (((o.put (H.length + 2) (g, 6, M.objs.length)).put (H.length + 3) (g, 7, M.objs.length)).put (H.length + 5) (g, 5, 0)) c = some t → H.length ≤ c → t.1 = g ∧ c ≠ H.length := by
    intro c t ht hcl
    by_cases c5 : c = H.length + 5
    · rw [c5, Tags.put_eq] at ht; simp only [Option.some.injEq] at ht; exact ⟨by rw [← ht], by omega⟩
    · rw [Tags.put_ne c5] at ht
      by_cases c3 : c = H.length + 3
      · rw [c3, Tags.put_eq] at ht; simp only [Option.some.injEq] at ht; exact ⟨by rw [← ht], by omega⟩
      · rw [Tags.put_ne c3] at ht
        by_cases c2 : c = H.length + 2
        · rw [c2, Tags.put_eq] at ht; simp only [Option.some.injEq] at ht; exact ⟨by rw [← ht], by omega⟩
        · rw [Tags.put_ne c2] at ht; have := A.m.dom c t ht; omega
  refine ⟨((H'.set b ⟨[L.sl, L.gl, L.qv, .slice (H.length + 5) 0 (M.objs.length + 1) (M.objs.length + 1) 5 true], .rw, 0⟩).set (blkOf v) ⟨Go.Cs.ints (s.set x.a.toNat (M.objs.length + 1)), .rw, 1⟩).set H.length ⟨[.nilSlice, .i 0, .i 0, .i 0, .i 0, .i (M.objs.length + 1), .i 0], .rw, 0⟩, _, _, .nilSlice, ?_, mb.setSlot A.hs (s' := s.set x.a.toNat (M.objs.length + 1)) (by simp) ?_ ?_, ⟨by simp [a2]; omega, htag, fun c t ht hcl => (hnew c t ht hcl).1, ?_⟩, At.nil⟩
  · rw [run_lv c81]
    have hcast : ((M.objs.length + 1 : Nat) : Int) = (M.objs.length : Int) + 1 := by omega
    simp (disch := first | omega | rfl | assumption | (simp only [csN, Nat.reduceAdd, Nat.reduceMul, Nat.reduceLeDiff, Nat.reduceEqDiff] <;> omega) | (simp only [csF]; done) | (simp only [csF] <;> assumption) | fail) only [Nat.reduceEqDiff, Nat.reduceAdd, Nat.reduceMul, Nat.reduceSub, Nat.reduceLeDiff, Int.reduceAdd, Int.reduceSub, Int.reduceMul, Int.reduceLT, Int.reduceLE, Int.reduceGT, Int.reduceGE, Int.reduceEq, Int.reduceBEq, Int.reduceBNe, Int.reduceNeg, Int.reduceToNat, csAll, ↓reduceIte, C81, entry_1, h, h2, hc, ho, a1, hab', hb', hv', h0', effOf, hg, ints_set, a2, hcast]
  · intro c k hk hk2
    have hcl := mb.dom c _ hk
    have e1 : c ≠ H.length := fun e => (hnew c _ hk (by omega)).2 e
    rw [List.getElem?_set_ne (Ne.symm e1), List.getElem?_set_ne]
    rintro rfl
    rw [hvt] at hk
    simp only [Option.some.injEq, Prod.mk.injEq, true_and] at hk
    exact hk2 hk.symm
  · intro v' hv'
    have : some v = some v' := A.hv.symm.trans hv'
    simp only [Option.some.injEq] at this
    subst this
    refine .inr ⟨blkOf v, tl, A.ev, hvt, ?_, by simp [ints_len, A.len]⟩
    rw [List.getElem?_set_ne (by omega), List.getElem?_set_self (by simp [a2]; omega)]
  · intro c hcl hk
    have e1 : blkOf v ≠ c := by rintro rfl; exact hk _ A.tag
    have e2 : b ≠ c := by rintro rfl; exact hk _ A.m.top
    rw [List.getElem?_set_ne (by omega), List.getElem?_set_ne e1, List.getElem?_set_ne e2, old c hcl (hk _)]
end
end Go.Cs.Try
