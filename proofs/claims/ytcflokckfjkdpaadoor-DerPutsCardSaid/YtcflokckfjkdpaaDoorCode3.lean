/- The functions as the engine has them: by program, out of the translation. -/
import Derived.Test.YtcflokckfjkdpaaDoorEngE
import Derived.Test.YtcflokckfjkdpaaDoorProg
set_option maxRecDepth 100000
namespace Go.Proofs.YtcflokckfjkdpaaDoor.Code
open Go Go.Proofs Go.Proofs.YtcflokckfjkdpaaDoor.Eng

/-- slices.insertionSortCmpFunc[chirograph/ber.kid] -/
def c123 : Fun := ⟨53, [],
  (.seq (.ops [⟨some 10, none, .mv (.tmp 1)⟩,
    ⟨some 11, none, .bin .add (.tmp 10) (.const (.int .i64 1))⟩,
    ⟨some 8, none, .mv (.tmp 11)⟩])
  (.block 0
    (.loop
      (.seq (.seq (.ops [⟨some 12, none, .mv (.tmp 8)⟩,
        ⟨some 13, none, .mv (.tmp 2)⟩,
        ⟨some 14, none, .bin .lss (.tmp 12) (.tmp 13)⟩])
      (.cond (.tmp 14)
        .skip
        (.exit 0)))
      (.seq (.block 1
        (.seq (.ops [⟨some 17, none, .mv (.tmp 8)⟩,
          ⟨some 9, none, .mv (.tmp 17)⟩])
        (.block 2
          (.loop
            (.seq (.seq (.draw 17 [⟨some 18, none, .mv (.tmp 9)⟩,
              ⟨some 19, none, .mv (.tmp 1)⟩,
              ⟨some 20, none, .bin .gtr (.tmp 18) (.tmp 19)⟩,
              ⟨some 21, none, .mv (.tmp 20)⟩,
              ⟨some 22, some (21, true), .mv (.tmp 3)⟩,
              ⟨some 23, some (21, true), .mv (.tmp 0)⟩,
              ⟨some 24, some (21, true), .mv (.tmp 9)⟩,
              ⟨some 25, some (21, true), .ia 2 (.tmp 23) (.tmp 24)⟩,
              ⟨some 26, some (21, true), .ld (.agg 2) (.tmp 25)⟩,
              ⟨some 27, some (21, true), .mv (.tmp 0)⟩,
              ⟨some 28, some (21, true), .mv (.tmp 9)⟩,
              ⟨some 29, some (21, true), .bin .sub (.tmp 28) (.const (.int .i64 1))⟩,
              ⟨some 30, some (21, true), .ia 2 (.tmp 27) (.tmp 29)⟩,
              ⟨some 31, some (21, true), .ld (.agg 2) (.tmp 30)⟩,
              ⟨some 32, some (21, true), .no⟩,
              ⟨some 33, some (21, true), .bin .lss (.tmp 32) (.const (.int .i64 0))⟩,
              ⟨some 34, none, .pick (.tmp 21) (.tmp 33) (.const (.bool false))⟩])
            (.cond (.tmp 34)
              .skip
              (.exit 2)))
            (.seq (.block 3
              (.drawS [(0, 0), (0, 1), (0, 2), (0, 3), (0, 4), (0, 5), (0, 6), (0, 7), (0, 8), (0, 10), (0, 11), (0, 12), (1, 9), (1, 13), (0, 14), (2, 15), (0, 16), (2, 17)]
                [⟨some 37, none, .mv (.tmp 0)⟩,
                ⟨some 38, none, .mv (.tmp 9)⟩,
                ⟨some 39, none, .mv (.tmp 0)⟩,
                ⟨some 40, none, .mv (.tmp 9)⟩,
                ⟨some 41, none, .bin .sub (.tmp 40) (.const (.int .i64 1))⟩,
                ⟨some 42, none, .mv (.tmp 0)⟩,
                ⟨some 43, none, .mv (.tmp 9)⟩,
                ⟨some 44, none, .bin .sub (.tmp 43) (.const (.int .i64 1))⟩,
                ⟨some 45, none, .ia 2 (.tmp 42) (.tmp 44)⟩,
                ⟨some 46, none, .ld (.agg 2) (.tmp 45)⟩,
                ⟨some 47, none, .mv (.tmp 0)⟩,
                ⟨some 48, none, .mv (.tmp 9)⟩,
                ⟨some 49, none, .ia 2 (.tmp 47) (.tmp 48)⟩,
                ⟨some 50, none, .ld (.agg 2) (.tmp 49)⟩,
                ⟨some 51, none, .ia 2 (.tmp 37) (.tmp 38)⟩,
                ⟨none, none, .st 2 (.tmp 51) (.tmp 46)⟩,
                ⟨some 52, none, .ia 2 (.tmp 39) (.tmp 41)⟩,
                ⟨none, none, .st 2 (.tmp 52) (.tmp 50)⟩]))
            (.ops [⟨some 35, none, .mv (.tmp 9)⟩,
              ⟨some 36, none, .bin .sub (.tmp 35) (.const (.int .i64 1))⟩,
              ⟨some 9, none, .mv (.tmp 36)⟩])))))))
      (.ops [⟨some 15, none, .mv (.tmp 8)⟩,
        ⟨some 16, none, .bin .add (.tmp 15) (.const (.int .i64 1))⟩,
        ⟨some 8, none, .mv (.tmp 16)⟩]))))))⟩
theorem h123 : strF Tryd.prog [(6, .inl [(0, 0), (0, 1), (0, 2), (0, 3), (0, 4), (0, 5), (0, 6), (0, 7), (0, 8), (0, 10), (0, 11), (0, 12), (1, 9), (1, 13), (0, 14), (2, 15), (0, 16), (2, 17)])] Tryd.f123 = some c123 := by kernel_rfl

/-- slices.symMergeCmpFunc[chirograph/ber.kid] -/
def c124 : Fun := ⟨220, [],
  (.seq (.seq (.ops [⟨some 25, none, .mv (.tmp 2)⟩,
    ⟨some 26, none, .mv (.tmp 1)⟩,
    ⟨some 27, none, .bin .sub (.tmp 25) (.tmp 26)⟩,
    ⟨some 28, none, .bin .eql (.tmp 27) (.const (.int .i64 1))⟩])
  (.cond (.tmp 28)
    (.seq (.ops [⟨some 29, none, .mv (.tmp 2)⟩,
      ⟨some 10, none, .mv (.tmp 29)⟩])
    (.seq (.ops [⟨some 30, none, .mv (.tmp 3)⟩,
      ⟨some 11, none, .mv (.tmp 30)⟩])
    (.seq (.block 0
      (.loop
        (.seq (.seq (.ops [⟨some 31, none, .mv (.tmp 10)⟩,
          ⟨some 32, none, .mv (.tmp 11)⟩,
          ⟨some 33, none, .bin .lss (.tmp 31) (.tmp 32)⟩])
        (.cond (.tmp 33)
          .skip
          (.exit 0)))
        (.block 1
          (.seq (.ops [⟨some 34, none, .mv (.tmp 10)⟩,
            ⟨some 35, none, .mv (.tmp 11)⟩,
            ⟨some 36, none, .bin .add (.tmp 34) (.tmp 35)⟩,
            ⟨some 37, none, .cv .u64 (.tmp 36)⟩,
            ⟨some 38, none, .bin .shr (.tmp 37) (.const (.int .u64 1))⟩,
            ⟨some 39, none, .cv .i64 (.tmp 38)⟩,
            ⟨some 12, none, .mv (.tmp 39)⟩])
          (.seq (.draw 11 [⟨some 40, none, .mv (.tmp 4)⟩,
            ⟨some 41, none, .mv (.tmp 0)⟩,
            ⟨some 42, none, .mv (.tmp 12)⟩,
            ⟨some 43, none, .ia 2 (.tmp 41) (.tmp 42)⟩,
            ⟨some 44, none, .ld (.agg 2) (.tmp 43)⟩,
            ⟨some 45, none, .mv (.tmp 0)⟩,
            ⟨some 46, none, .mv (.tmp 1)⟩,
            ⟨some 47, none, .ia 2 (.tmp 45) (.tmp 46)⟩,
            ⟨some 48, none, .ld (.agg 2) (.tmp 47)⟩,
            ⟨some 49, none, .no⟩,
            ⟨some 50, none, .bin .lss (.tmp 49) (.const (.int .i64 0))⟩])
          (.cond (.tmp 50)
            (.ops [⟨some 51, none, .mv (.tmp 12)⟩,
              ⟨some 52, none, .bin .add (.tmp 51) (.const (.int .i64 1))⟩,
              ⟨some 10, none, .mv (.tmp 52)⟩])
            (.ops [⟨some 53, none, .mv (.tmp 12)⟩,
              ⟨some 11, none, .mv (.tmp 53)⟩]))))))))
    (.seq (.seq (.ops [⟨some 54, none, .mv (.tmp 1)⟩,
      ⟨some 13, none, .mv (.tmp 54)⟩])
    (.block 2
      (.loop
        (.seq (.seq (.ops [⟨some 55, none, .mv (.tmp 13)⟩,
          ⟨some 56, none, .mv (.tmp 10)⟩,
          ⟨some 57, none, .bin .sub (.tmp 56) (.const (.int .i64 1))⟩,
          ⟨some 58, none, .bin .lss (.tmp 55) (.tmp 57)⟩])
        (.cond (.tmp 58)
          .skip
          (.exit 2)))
        (.seq (.block 3
          (.drawS [(0, 0), (0, 1), (0, 2), (0, 3), (0, 4), (0, 5), (0, 6), (0, 7), (0, 8), (0, 10), (0, 11), (0, 12), (1, 9), (1, 13), (0, 14), (2, 15), (0, 16), (2, 17)]
            [⟨some 61, none, .mv (.tmp 0)⟩,
            ⟨some 62, none, .mv (.tmp 13)⟩,
            ⟨some 63, none, .mv (.tmp 0)⟩,
            ⟨some 64, none, .mv (.tmp 13)⟩,
            ⟨some 65, none, .bin .add (.tmp 64) (.const (.int .i64 1))⟩,
            ⟨some 66, none, .mv (.tmp 0)⟩,
            ⟨some 67, none, .mv (.tmp 13)⟩,
            ⟨some 68, none, .bin .add (.tmp 67) (.const (.int .i64 1))⟩,
            ⟨some 69, none, .ia 2 (.tmp 66) (.tmp 68)⟩,
            ⟨some 70, none, .ld (.agg 2) (.tmp 69)⟩,
            ⟨some 71, none, .mv (.tmp 0)⟩,
            ⟨some 72, none, .mv (.tmp 13)⟩,
            ⟨some 73, none, .ia 2 (.tmp 71) (.tmp 72)⟩,
            ⟨some 74, none, .ld (.agg 2) (.tmp 73)⟩,
            ⟨some 75, none, .ia 2 (.tmp 61) (.tmp 62)⟩,
            ⟨none, none, .st 2 (.tmp 75) (.tmp 70)⟩,
            ⟨some 76, none, .ia 2 (.tmp 63) (.tmp 65)⟩,
            ⟨none, none, .st 2 (.tmp 76) (.tmp 74)⟩]))
        (.ops [⟨some 59, none, .mv (.tmp 13)⟩,
          ⟨some 60, none, .bin .add (.tmp 59) (.const (.int .i64 1))⟩,
          ⟨some 13, none, .mv (.tmp 60)⟩]))))))
    .ret))))
    .skip))
  (.seq (.seq (.ops [⟨some 77, none, .mv (.tmp 3)⟩,
    ⟨some 78, none, .mv (.tmp 2)⟩,
    ⟨some 79, none, .bin .sub (.tmp 77) (.tmp 78)⟩,
    ⟨some 80, none, .bin .eql (.tmp 79) (.const (.int .i64 1))⟩])
  (.cond (.tmp 80)
    (.seq (.ops [⟨some 81, none, .mv (.tmp 1)⟩,
      ⟨some 14, none, .mv (.tmp 81)⟩])
    (.seq (.ops [⟨some 82, none, .mv (.tmp 2)⟩,
      ⟨some 15, none, .mv (.tmp 82)⟩])
    (.seq (.block 4
      (.loop
        (.seq (.seq (.ops [⟨some 83, none, .mv (.tmp 14)⟩,
          ⟨some 84, none, .mv (.tmp 15)⟩,
          ⟨some 85, none, .bin .lss (.tmp 83) (.tmp 84)⟩])
        (.cond (.tmp 85)
          .skip
          (.exit 4)))
        (.block 5
          (.seq (.ops [⟨some 86, none, .mv (.tmp 14)⟩,
            ⟨some 87, none, .mv (.tmp 15)⟩,
            ⟨some 88, none, .bin .add (.tmp 86) (.tmp 87)⟩,
            ⟨some 89, none, .cv .u64 (.tmp 88)⟩,
            ⟨some 90, none, .bin .shr (.tmp 89) (.const (.int .u64 1))⟩,
            ⟨some 91, none, .cv .i64 (.tmp 90)⟩,
            ⟨some 16, none, .mv (.tmp 91)⟩])
          (.seq (.draw 12 [⟨some 92, none, .mv (.tmp 4)⟩,
            ⟨some 93, none, .mv (.tmp 0)⟩,
            ⟨some 94, none, .mv (.tmp 2)⟩,
            ⟨some 95, none, .ia 2 (.tmp 93) (.tmp 94)⟩,
            ⟨some 96, none, .ld (.agg 2) (.tmp 95)⟩,
            ⟨some 97, none, .mv (.tmp 0)⟩,
            ⟨some 98, none, .mv (.tmp 16)⟩,
            ⟨some 99, none, .ia 2 (.tmp 97) (.tmp 98)⟩,
            ⟨some 100, none, .ld (.agg 2) (.tmp 99)⟩,
            ⟨some 101, none, .no⟩,
            ⟨some 102, none, .bin .lss (.tmp 101) (.const (.int .i64 0))⟩,
            ⟨some 103, none, .un .not (.tmp 102)⟩])
          (.cond (.tmp 103)
            (.ops [⟨some 104, none, .mv (.tmp 16)⟩,
              ⟨some 105, none, .bin .add (.tmp 104) (.const (.int .i64 1))⟩,
              ⟨some 14, none, .mv (.tmp 105)⟩])
            (.ops [⟨some 106, none, .mv (.tmp 16)⟩,
              ⟨some 15, none, .mv (.tmp 106)⟩]))))))))
    (.seq (.seq (.ops [⟨some 107, none, .mv (.tmp 2)⟩,
      ⟨some 17, none, .mv (.tmp 107)⟩])
    (.block 6
      (.loop
        (.seq (.seq (.ops [⟨some 108, none, .mv (.tmp 17)⟩,
          ⟨some 109, none, .mv (.tmp 14)⟩,
          ⟨some 110, none, .bin .gtr (.tmp 108) (.tmp 109)⟩])
        (.cond (.tmp 110)
          .skip
          (.exit 6)))
        (.seq (.block 7
          (.drawS [(0, 0), (0, 1), (0, 2), (0, 3), (0, 4), (0, 5), (0, 6), (0, 7), (0, 8), (0, 10), (0, 11), (0, 12), (1, 9), (1, 13), (0, 14), (2, 15), (0, 16), (2, 17)]
            [⟨some 113, none, .mv (.tmp 0)⟩,
            ⟨some 114, none, .mv (.tmp 17)⟩,
            ⟨some 115, none, .mv (.tmp 0)⟩,
            ⟨some 116, none, .mv (.tmp 17)⟩,
            ⟨some 117, none, .bin .sub (.tmp 116) (.const (.int .i64 1))⟩,
            ⟨some 118, none, .mv (.tmp 0)⟩,
            ⟨some 119, none, .mv (.tmp 17)⟩,
            ⟨some 120, none, .bin .sub (.tmp 119) (.const (.int .i64 1))⟩,
            ⟨some 121, none, .ia 2 (.tmp 118) (.tmp 120)⟩,
            ⟨some 122, none, .ld (.agg 2) (.tmp 121)⟩,
            ⟨some 123, none, .mv (.tmp 0)⟩,
            ⟨some 124, none, .mv (.tmp 17)⟩,
            ⟨some 125, none, .ia 2 (.tmp 123) (.tmp 124)⟩,
            ⟨some 126, none, .ld (.agg 2) (.tmp 125)⟩,
            ⟨some 127, none, .ia 2 (.tmp 113) (.tmp 114)⟩,
            ⟨none, none, .st 2 (.tmp 127) (.tmp 122)⟩,
            ⟨some 128, none, .ia 2 (.tmp 115) (.tmp 117)⟩,
            ⟨none, none, .st 2 (.tmp 128) (.tmp 126)⟩]))
        (.ops [⟨some 111, none, .mv (.tmp 17)⟩,
          ⟨some 112, none, .bin .sub (.tmp 111) (.const (.int .i64 1))⟩,
          ⟨some 17, none, .mv (.tmp 112)⟩]))))))
    .ret))))
    .skip))
  (.seq (.ops [⟨some 129, none, .mv (.tmp 1)⟩,
    ⟨some 130, none, .mv (.tmp 3)⟩,
    ⟨some 131, none, .bin .add (.tmp 129) (.tmp 130)⟩,
    ⟨some 132, none, .cv .u64 (.tmp 131)⟩,
    ⟨some 133, none, .bin .shr (.tmp 132) (.const (.int .u64 1))⟩,
    ⟨some 134, none, .cv .i64 (.tmp 133)⟩,
    ⟨some 18, none, .mv (.tmp 134)⟩])
  (.seq (.ops [⟨some 135, none, .mv (.tmp 18)⟩,
    ⟨some 136, none, .mv (.tmp 2)⟩,
    ⟨some 137, none, .bin .add (.tmp 135) (.tmp 136)⟩,
    ⟨some 19, none, .mv (.tmp 137)⟩])
  (.seq (.ops [⟨some 20, none, .mv (.const (.int .i64 0))⟩,
    ⟨some 21, none, .mv (.const (.int .i64 0))⟩])
  (.join (.seq (.ops [⟨some 138, none, .mv (.tmp 2)⟩,
    ⟨some 139, none, .mv (.tmp 18)⟩,
    ⟨some 140, none, .bin .gtr (.tmp 138) (.tmp 139)⟩])
  (.cond (.tmp 140)
    (.seq (.ops [⟨some 141, none, .mv (.tmp 19)⟩,
      ⟨some 142, none, .mv (.tmp 3)⟩,
      ⟨some 143, none, .bin .sub (.tmp 141) (.tmp 142)⟩,
      ⟨some 20, none, .mv (.tmp 143)⟩])
    (.ops [⟨some 144, none, .mv (.tmp 18)⟩,
      ⟨some 21, none, .mv (.tmp 144)⟩]))
    (.seq (.ops [⟨some 145, none, .mv (.tmp 1)⟩,
      ⟨some 20, none, .mv (.tmp 145)⟩])
    (.ops [⟨some 146, none, .mv (.tmp 2)⟩,
      ⟨some 21, none, .mv (.tmp 146)⟩]))))
  (.seq (.ops [⟨some 147, none, .mv (.tmp 19)⟩,
    ⟨some 148, none, .bin .sub (.tmp 147) (.const (.int .i64 1))⟩,
    ⟨some 22, none, .mv (.tmp 148)⟩])
  (.seq (.block 8
    (.loop
      (.seq (.seq (.ops [⟨some 149, none, .mv (.tmp 20)⟩,
        ⟨some 150, none, .mv (.tmp 21)⟩,
        ⟨some 151, none, .bin .lss (.tmp 149) (.tmp 150)⟩])
      (.cond (.tmp 151)
        .skip
        (.exit 8)))
      (.block 9
        (.seq (.ops [⟨some 152, none, .mv (.tmp 20)⟩,
          ⟨some 153, none, .mv (.tmp 21)⟩,
          ⟨some 154, none, .bin .add (.tmp 152) (.tmp 153)⟩,
          ⟨some 155, none, .cv .u64 (.tmp 154)⟩,
          ⟨some 156, none, .bin .shr (.tmp 155) (.const (.int .u64 1))⟩,
          ⟨some 157, none, .cv .i64 (.tmp 156)⟩,
          ⟨some 23, none, .mv (.tmp 157)⟩])
        (.seq (.draw 14 [⟨some 158, none, .mv (.tmp 4)⟩,
          ⟨some 159, none, .mv (.tmp 0)⟩,
          ⟨some 160, none, .mv (.tmp 22)⟩,
          ⟨some 161, none, .mv (.tmp 23)⟩,
          ⟨some 162, none, .bin .sub (.tmp 160) (.tmp 161)⟩,
          ⟨some 163, none, .ia 2 (.tmp 159) (.tmp 162)⟩,
          ⟨some 164, none, .ld (.agg 2) (.tmp 163)⟩,
          ⟨some 165, none, .mv (.tmp 0)⟩,
          ⟨some 166, none, .mv (.tmp 23)⟩,
          ⟨some 167, none, .ia 2 (.tmp 165) (.tmp 166)⟩,
          ⟨some 168, none, .ld (.agg 2) (.tmp 167)⟩,
          ⟨some 169, none, .no⟩,
          ⟨some 170, none, .bin .lss (.tmp 169) (.const (.int .i64 0))⟩,
          ⟨some 171, none, .un .not (.tmp 170)⟩])
        (.cond (.tmp 171)
          (.ops [⟨some 172, none, .mv (.tmp 23)⟩,
            ⟨some 173, none, .bin .add (.tmp 172) (.const (.int .i64 1))⟩,
            ⟨some 20, none, .mv (.tmp 173)⟩])
          (.ops [⟨some 174, none, .mv (.tmp 23)⟩,
            ⟨some 21, none, .mv (.tmp 174)⟩]))))))))
  (.seq (.ops [⟨some 175, none, .mv (.tmp 19)⟩,
    ⟨some 176, none, .mv (.tmp 20)⟩,
    ⟨some 177, none, .bin .sub (.tmp 175) (.tmp 176)⟩,
    ⟨some 24, none, .mv (.tmp 177)⟩])
  (.join (.seq (.ops [⟨some 178, none, .mv (.tmp 20)⟩,
    ⟨some 179, none, .mv (.tmp 2)⟩,
    ⟨some 180, none, .bin .lss (.tmp 178) (.tmp 179)⟩,
    ⟨some 181, none, .mv (.tmp 180)⟩,
    ⟨some 182, some (181, true), .mv (.tmp 2)⟩,
    ⟨some 183, some (181, true), .mv (.tmp 24)⟩,
    ⟨some 184, some (181, true), .bin .lss (.tmp 182) (.tmp 183)⟩,
    ⟨some 185, none, .pick (.tmp 181) (.tmp 184) (.const (.bool false))⟩])
  (.cond (.tmp 185)
    (.ops [⟨some 186, none, .mv (.tmp 0)⟩,
      ⟨some 187, none, .mv (.tmp 20)⟩,
      ⟨some 188, none, .mv (.tmp 2)⟩,
      ⟨some 189, none, .mv (.tmp 24)⟩,
      ⟨some 190, none, .mv (.tmp 4)⟩,
      ⟨some 191, none, .call 125 [(.tmp 186), (.tmp 187), (.tmp 188), (.tmp 189), (.tmp 190)]⟩])
    .skip))
  (.join (.seq (.ops [⟨some 192, none, .mv (.tmp 1)⟩,
    ⟨some 193, none, .mv (.tmp 20)⟩,
    ⟨some 194, none, .bin .lss (.tmp 192) (.tmp 193)⟩,
    ⟨some 195, none, .mv (.tmp 194)⟩,
    ⟨some 196, some (195, true), .mv (.tmp 20)⟩,
    ⟨some 197, some (195, true), .mv (.tmp 18)⟩,
    ⟨some 198, some (195, true), .bin .lss (.tmp 196) (.tmp 197)⟩,
    ⟨some 199, none, .pick (.tmp 195) (.tmp 198) (.const (.bool false))⟩])
  (.cond (.tmp 199)
    (.ops [⟨some 200, none, .mv (.tmp 0)⟩,
      ⟨some 201, none, .mv (.tmp 1)⟩,
      ⟨some 202, none, .mv (.tmp 20)⟩,
      ⟨some 203, none, .mv (.tmp 18)⟩,
      ⟨some 204, none, .mv (.tmp 4)⟩,
      ⟨some 205, none, .call 124 [(.tmp 200), (.tmp 201), (.tmp 202), (.tmp 203), (.tmp 204)]⟩])
    .skip))
  (.seq (.ops [⟨some 206, none, .mv (.tmp 18)⟩,
    ⟨some 207, none, .mv (.tmp 24)⟩,
    ⟨some 208, none, .bin .lss (.tmp 206) (.tmp 207)⟩,
    ⟨some 209, none, .mv (.tmp 208)⟩,
    ⟨some 210, some (209, true), .mv (.tmp 24)⟩,
    ⟨some 211, some (209, true), .mv (.tmp 3)⟩,
    ⟨some 212, some (209, true), .bin .lss (.tmp 210) (.tmp 211)⟩,
    ⟨some 213, none, .pick (.tmp 209) (.tmp 212) (.const (.bool false))⟩])
  (.cond (.tmp 213)
    (.ops [⟨some 214, none, .mv (.tmp 0)⟩,
      ⟨some 215, none, .mv (.tmp 18)⟩,
      ⟨some 216, none, .mv (.tmp 24)⟩,
      ⟨some 217, none, .mv (.tmp 3)⟩,
      ⟨some 218, none, .mv (.tmp 4)⟩,
      ⟨some 219, none, .call 124 [(.tmp 214), (.tmp 215), (.tmp 216), (.tmp 217), (.tmp 218)]⟩])
    .skip)))))))))))))⟩
theorem h124 : strF Tryd.prog [(11, .inl [(0, 0), (0, 1), (0, 2), (0, 3), (0, 4), (0, 5), (0, 6), (0, 7), (0, 8), (0, 10), (0, 11), (0, 12), (1, 9), (1, 13), (0, 14), (2, 15), (0, 16), (2, 17)]), (23, .inl [(0, 0), (0, 1), (0, 2), (0, 3), (0, 4), (0, 5), (0, 6), (0, 7), (0, 8), (0, 10), (0, 11), (0, 12), (1, 9), (1, 13), (0, 14), (2, 15), (0, 16), (2, 17)])] Tryd.f124 = some c124 := by kernel_rfl

/-- slices.rotateCmpFunc[chirograph/ber.kid] -/
def c125 : Fun := ⟨58, [],
  (.seq (.ops [⟨some 12, none, .mv (.tmp 2)⟩,
    ⟨some 13, none, .mv (.tmp 1)⟩,
    ⟨some 14, none, .bin .sub (.tmp 12) (.tmp 13)⟩,
    ⟨some 10, none, .mv (.tmp 14)⟩])
  (.seq (.ops [⟨some 15, none, .mv (.tmp 3)⟩,
    ⟨some 16, none, .mv (.tmp 2)⟩,
    ⟨some 17, none, .bin .sub (.tmp 15) (.tmp 16)⟩,
    ⟨some 11, none, .mv (.tmp 17)⟩])
  (.seq (.block 0
    (.loop
      (.seq (.seq (.ops [⟨some 18, none, .mv (.tmp 10)⟩,
        ⟨some 19, none, .mv (.tmp 11)⟩,
        ⟨some 20, none, .bin .neq (.tmp 18) (.tmp 19)⟩])
      (.cond (.tmp 20)
        .skip
        (.exit 0)))
      (.block 1
        (.seq (.ops [⟨some 21, none, .mv (.tmp 10)⟩,
          ⟨some 22, none, .mv (.tmp 11)⟩,
          ⟨some 23, none, .bin .gtr (.tmp 21) (.tmp 22)⟩])
        (.cond (.tmp 23)
          (.seq (.ops [⟨some 24, none, .mv (.tmp 0)⟩,
            ⟨some 25, none, .mv (.tmp 2)⟩,
            ⟨some 26, none, .mv (.tmp 10)⟩,
            ⟨some 27, none, .bin .sub (.tmp 25) (.tmp 26)⟩,
            ⟨some 28, none, .mv (.tmp 2)⟩,
            ⟨some 29, none, .mv (.tmp 11)⟩,
            ⟨some 30, none, .mv (.tmp 4)⟩,
            ⟨some 31, none, .call 126 [(.tmp 24), (.tmp 27), (.tmp 28), (.tmp 29), (.tmp 30)]⟩])
          (.ops [⟨some 32, none, .mv (.tmp 10)⟩,
            ⟨some 33, none, .mv (.tmp 11)⟩,
            ⟨some 34, none, .bin .sub (.tmp 32) (.tmp 33)⟩,
            ⟨some 10, none, .mv (.tmp 34)⟩]))
          (.seq (.ops [⟨some 35, none, .mv (.tmp 0)⟩,
            ⟨some 36, none, .mv (.tmp 2)⟩,
            ⟨some 37, none, .mv (.tmp 10)⟩,
            ⟨some 38, none, .bin .sub (.tmp 36) (.tmp 37)⟩,
            ⟨some 39, none, .mv (.tmp 2)⟩,
            ⟨some 40, none, .mv (.tmp 11)⟩,
            ⟨some 41, none, .bin .add (.tmp 39) (.tmp 40)⟩,
            ⟨some 42, none, .mv (.tmp 10)⟩,
            ⟨some 43, none, .bin .sub (.tmp 41) (.tmp 42)⟩,
            ⟨some 44, none, .mv (.tmp 10)⟩,
            ⟨some 45, none, .mv (.tmp 4)⟩,
            ⟨some 46, none, .call 126 [(.tmp 35), (.tmp 38), (.tmp 43), (.tmp 44), (.tmp 45)]⟩])
          (.ops [⟨some 47, none, .mv (.tmp 11)⟩,
            ⟨some 48, none, .mv (.tmp 10)⟩,
            ⟨some 49, none, .bin .sub (.tmp 47) (.tmp 48)⟩,
            ⟨some 11, none, .mv (.tmp 49)⟩]))))))))
  (.ops [⟨some 50, none, .mv (.tmp 0)⟩,
    ⟨some 51, none, .mv (.tmp 2)⟩,
    ⟨some 52, none, .mv (.tmp 10)⟩,
    ⟨some 53, none, .bin .sub (.tmp 51) (.tmp 52)⟩,
    ⟨some 54, none, .mv (.tmp 2)⟩,
    ⟨some 55, none, .mv (.tmp 10)⟩,
    ⟨some 56, none, .mv (.tmp 4)⟩,
    ⟨some 57, none, .call 126 [(.tmp 50), (.tmp 53), (.tmp 54), (.tmp 55), (.tmp 56)]⟩]))))⟩
theorem h125 : strF Tryd.prog [] Tryd.f125 = some c125 := by kernel_rfl

/-- slices.swapRangeCmpFunc[chirograph/ber.kid] -/
def c126 : Fun := ⟨38, [],
  (.seq (.ops [⟨some 10, none, .mv (.const (.int .i64 0))⟩])
  (.block 0
    (.loop
      (.seq (.seq (.ops [⟨some 11, none, .mv (.tmp 10)⟩,
        ⟨some 12, none, .mv (.tmp 3)⟩,
        ⟨some 13, none, .bin .lss (.tmp 11) (.tmp 12)⟩])
      (.cond (.tmp 13)
        .skip
        (.exit 0)))
      (.seq (.block 1
        (.drawS [(0, 0), (0, 1), (0, 2), (0, 3), (0, 4), (0, 5), (0, 6), (0, 7), (0, 8), (0, 9), (0, 10), (0, 11), (0, 12), (0, 14), (0, 15), (0, 16), (0, 17), (0, 18), (1, 13), (1, 19), (0, 20), (2, 21), (0, 22), (2, 23)]
          [⟨some 16, none, .mv (.tmp 0)⟩,
          ⟨some 17, none, .mv (.tmp 1)⟩,
          ⟨some 18, none, .mv (.tmp 10)⟩,
          ⟨some 19, none, .bin .add (.tmp 17) (.tmp 18)⟩,
          ⟨some 20, none, .mv (.tmp 0)⟩,
          ⟨some 21, none, .mv (.tmp 2)⟩,
          ⟨some 22, none, .mv (.tmp 10)⟩,
          ⟨some 23, none, .bin .add (.tmp 21) (.tmp 22)⟩,
          ⟨some 24, none, .mv (.tmp 0)⟩,
          ⟨some 25, none, .mv (.tmp 2)⟩,
          ⟨some 26, none, .mv (.tmp 10)⟩,
          ⟨some 27, none, .bin .add (.tmp 25) (.tmp 26)⟩,
          ⟨some 28, none, .ia 2 (.tmp 24) (.tmp 27)⟩,
          ⟨some 29, none, .ld (.agg 2) (.tmp 28)⟩,
          ⟨some 30, none, .mv (.tmp 0)⟩,
          ⟨some 31, none, .mv (.tmp 1)⟩,
          ⟨some 32, none, .mv (.tmp 10)⟩,
          ⟨some 33, none, .bin .add (.tmp 31) (.tmp 32)⟩,
          ⟨some 34, none, .ia 2 (.tmp 30) (.tmp 33)⟩,
          ⟨some 35, none, .ld (.agg 2) (.tmp 34)⟩,
          ⟨some 36, none, .ia 2 (.tmp 16) (.tmp 19)⟩,
          ⟨none, none, .st 2 (.tmp 36) (.tmp 29)⟩,
          ⟨some 37, none, .ia 2 (.tmp 20) (.tmp 23)⟩,
          ⟨none, none, .st 2 (.tmp 37) (.tmp 35)⟩]))
      (.ops [⟨some 14, none, .mv (.tmp 10)⟩,
        ⟨some 15, none, .bin .add (.tmp 14) (.const (.int .i64 1))⟩,
        ⟨some 10, none, .mv (.tmp 15)⟩]))))))⟩
theorem h126 : strF Tryd.prog [(3, .inl [(0, 0), (0, 1), (0, 2), (0, 3), (0, 4), (0, 5), (0, 6), (0, 7), (0, 8), (0, 9), (0, 10), (0, 11), (0, 12), (0, 14), (0, 15), (0, 16), (0, 17), (0, 18), (1, 13), (1, 19), (0, 20), (2, 21), (0, 22), (2, 23)])] Tryd.f126 = some c126 := by kernel_rfl

end Go.Proofs.YtcflokckfjkdpaaDoor.Code
