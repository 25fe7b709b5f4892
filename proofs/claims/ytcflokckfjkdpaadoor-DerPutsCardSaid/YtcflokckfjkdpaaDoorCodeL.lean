/- The functions as the engine has them: by program, out of the translation. -/
import Derived.Test.YtcflokckfjkdpaaDoorEngE
import Derived.Test.YtcflokckfjkdpaaDoorProg
set_option maxRecDepth 100000
namespace Go.Proofs.YtcflokckfjkdpaaDoor.Code
open Go Go.Proofs Go.Proofs.YtcflokckfjkdpaaDoor.Eng

/-- chirograph/chirographlaw04.DerBits -/
def c3 : Fun := ⟨75, [.inl 2],
  (.seq (.ops [⟨some 2, none, .mv (.const (.bool false))⟩])
  (.seq (.seq (.ops [⟨some 14, none, .mv (.tmp 0)⟩,
    ⟨some 15, none, .len (.tmp 14)⟩,
    ⟨some 16, none, .bin .gtr (.tmp 15) (.const (.int .i64 16384))⟩])
  (.cond (.tmp 16)
    (.seq (.ops [⟨some 17, none, .call 12 []⟩,
      ⟨some 2, none, .mv (.tmp 17)⟩])
    .ret)
    .skip))
  (.seq (.ops [⟨some 18, none, .mv (.tmp 0)⟩,
    ⟨some 19, none, .call 13 [(.tmp 18)]⟩,
    ⟨some 3, none, .mv (.tmp 19)⟩])
  (.seq (.ops [⟨some 21, none, .mv (.tmp 3)⟩,
    ⟨some 22, none, .call 14 [(.tmp 21)]⟩,
    ⟨some 20, none, .mv (.tmp 22)⟩,
    ⟨some 23, none, .ext (.tmp 20) 0⟩,
    ⟨some 24, none, .ext (.tmp 20) 1⟩,
    ⟨some 25, none, .ext (.tmp 20) 2⟩,
    ⟨some 4, none, .mv (.tmp 23)⟩,
    ⟨some 5, none, .mv (.tmp 24)⟩,
    ⟨some 6, none, .mv (.tmp 25)⟩])
  (.seq (.ops [⟨some 27, none, .mv (.tmp 0)⟩,
    ⟨some 28, none, .call 15 [(.tmp 27)]⟩,
    ⟨some 26, none, .mv (.tmp 28)⟩,
    ⟨some 29, none, .ext (.tmp 26) 0⟩,
    ⟨some 30, none, .ext (.tmp 26) 1⟩,
    ⟨some 31, none, .ext (.tmp 26) 2⟩,
    ⟨some 7, none, .mv (.tmp 29)⟩,
    ⟨some 8, none, .mv (.tmp 30)⟩,
    ⟨some 9, none, .mv (.tmp 31)⟩])
  (.seq (.ops [⟨some 33, none, .mv (.tmp 3)⟩,
    ⟨some 34, none, .call 16 [(.tmp 33)]⟩,
    ⟨some 32, none, .mv (.tmp 34)⟩,
    ⟨some 35, none, .ext (.tmp 32) 0⟩,
    ⟨some 36, none, .ext (.tmp 32) 1⟩,
    ⟨some 10, none, .mv (.tmp 35)⟩,
    ⟨some 11, none, .mv (.tmp 36)⟩])
  (.seq (.ops [⟨some 38, none, .mv (.tmp 0)⟩,
    ⟨some 39, none, .call 17 [(.tmp 38)]⟩,
    ⟨some 37, none, .mv (.tmp 39)⟩,
    ⟨some 40, none, .ext (.tmp 37) 0⟩,
    ⟨some 41, none, .ext (.tmp 37) 1⟩,
    ⟨some 12, none, .mv (.tmp 40)⟩,
    ⟨some 13, none, .mv (.tmp 41)⟩])
  (.seq (.ops [⟨some 42, none, .mv (.tmp 4)⟩,
    ⟨some 43, none, .mv (.tmp 7)⟩,
    ⟨some 44, none, .call 18 [(.tmp 42), (.tmp 43)]⟩,
    ⟨some 45, none, .mv (.tmp 44)⟩,
    ⟨some 46, some (45, true), .mv (.tmp 5)⟩,
    ⟨some 47, some (45, true), .mv (.tmp 8)⟩,
    ⟨some 48, some (45, true), .bin .eql (.tmp 46) (.tmp 47)⟩,
    ⟨some 49, none, .pick (.tmp 45) (.tmp 48) (.const (.bool false))⟩,
    ⟨some 50, none, .mv (.tmp 49)⟩,
    ⟨some 51, some (50, true), .mv (.tmp 6)⟩,
    ⟨some 52, some (50, true), .call 19 [(.tmp 51)]⟩,
    ⟨some 53, some (50, true), .mv (.tmp 9)⟩,
    ⟨some 54, some (50, true), .bin .eql (.tmp 52) (.tmp 53)⟩,
    ⟨some 55, none, .pick (.tmp 50) (.tmp 54) (.const (.bool false))⟩,
    ⟨some 56, none, .mv (.tmp 55)⟩,
    ⟨some 57, some (56, true), .mv (.tmp 10)⟩,
    ⟨some 58, some (56, true), .mv (.tmp 12)⟩,
    ⟨some 59, some (56, true), .bin .eql (.tmp 57) (.tmp 58)⟩,
    ⟨some 60, none, .pick (.tmp 56) (.tmp 59) (.const (.bool false))⟩,
    ⟨some 61, none, .mv (.tmp 60)⟩,
    ⟨some 62, some (61, true), .mv (.tmp 11)⟩,
    ⟨some 63, some (61, true), .call 19 [(.tmp 62)]⟩,
    ⟨some 64, some (61, true), .mv (.tmp 13)⟩,
    ⟨some 65, some (61, true), .bin .eql (.tmp 63) (.tmp 64)⟩,
    ⟨some 66, none, .pick (.tmp 61) (.tmp 65) (.const (.bool false))⟩,
    ⟨some 67, none, .mv (.tmp 66)⟩,
    ⟨some 68, some (67, true), .mv (.tmp 3)⟩,
    ⟨some 69, some (67, true), .mv (.tmp 0)⟩,
    ⟨some 70, some (67, true), .call 20 [(.tmp 68), (.tmp 69)]⟩,
    ⟨some 71, none, .pick (.tmp 67) (.tmp 70) (.const (.bool false))⟩,
    ⟨some 72, none, .mv (.tmp 71)⟩,
    ⟨some 73, some (72, true), .call 12 []⟩,
    ⟨some 74, none, .pick (.tmp 72) (.tmp 73) (.const (.bool false))⟩,
    ⟨some 2, none, .mv (.tmp 74)⟩])
  .ret))))))))⟩
theorem h3 : strF Tryd.prog [] Tryd.f3 = some c3 := by kernel_rfl

/-- chirograph/chirographlaw04.DerOids -/
def c4 : Fun := ⟨65, [.inl 4],
  (.seq (.ops [⟨some 4, none, .mv (.const (.bool false))⟩])
  (.seq (.seq (.ops [⟨some 13, none, .mv (.tmp 0)⟩,
    ⟨some 14, none, .len (.tmp 13)⟩,
    ⟨some 15, none, .bin .gtr (.tmp 14) (.const (.int .i64 2000))⟩,
    ⟨some 16, none, .mv (.tmp 15)⟩,
    ⟨some 17, some (16, false), .mv (.tmp 1)⟩,
    ⟨some 18, some (16, false), .lens (.tmp 17)⟩,
    ⟨some 19, some (16, false), .bin .gtr (.tmp 18) (.const (.int .i64 2000))⟩,
    ⟨some 20, none, .pick (.tmp 16) (.const (.bool true)) (.tmp 19)⟩])
  (.cond (.tmp 20)
    (.seq (.ops [⟨some 21, none, .call 12 []⟩,
      ⟨some 4, none, .mv (.tmp 21)⟩])
    .ret)
    .skip))
  (.seq (.ops [⟨some 23, none, .mv (.tmp 0)⟩,
    ⟨some 24, none, .call 21 [(.tmp 23)]⟩,
    ⟨some 22, none, .mv (.tmp 24)⟩,
    ⟨some 25, none, .ext (.tmp 22) 0⟩,
    ⟨some 26, none, .ext (.tmp 22) 1⟩,
    ⟨some 5, none, .mv (.tmp 25)⟩,
    ⟨some 6, none, .mv (.tmp 26)⟩])
  (.seq (.ops [⟨some 28, none, .mv (.tmp 0)⟩,
    ⟨some 29, none, .call 22 [(.tmp 28)]⟩,
    ⟨some 27, none, .mv (.tmp 29)⟩,
    ⟨some 30, none, .ext (.tmp 27) 0⟩,
    ⟨some 31, none, .ext (.tmp 27) 1⟩,
    ⟨some 7, none, .mv (.tmp 30)⟩,
    ⟨some 8, none, .mv (.tmp 31)⟩])
  (.seq (.ops [⟨some 33, none, .mv (.tmp 1)⟩,
    ⟨some 34, none, .call 23 [(.tmp 33)]⟩,
    ⟨some 32, none, .mv (.tmp 34)⟩,
    ⟨some 35, none, .ext (.tmp 32) 0⟩,
    ⟨some 36, none, .ext (.tmp 32) 1⟩,
    ⟨some 9, none, .mv (.tmp 35)⟩,
    ⟨some 10, none, .mv (.tmp 36)⟩])
  (.seq (.ops [⟨some 38, none, .mv (.tmp 1)⟩,
    ⟨some 39, none, .call 24 [(.tmp 38)]⟩,
    ⟨some 37, none, .mv (.tmp 39)⟩,
    ⟨some 40, none, .ext (.tmp 37) 0⟩,
    ⟨some 41, none, .ext (.tmp 37) 1⟩,
    ⟨some 11, none, .mv (.tmp 40)⟩,
    ⟨some 12, none, .mv (.tmp 41)⟩])
  (.seq (.ops [⟨some 42, none, .mv (.tmp 5)⟩,
    ⟨some 43, none, .mv (.tmp 7)⟩,
    ⟨some 44, none, .bin .eql (.tmp 42) (.tmp 43)⟩,
    ⟨some 45, none, .mv (.tmp 44)⟩,
    ⟨some 46, some (45, true), .mv (.tmp 6)⟩,
    ⟨some 47, some (45, true), .call 19 [(.tmp 46)]⟩,
    ⟨some 48, some (45, true), .mv (.tmp 8)⟩,
    ⟨some 49, some (45, true), .bin .eql (.tmp 47) (.tmp 48)⟩,
    ⟨some 50, none, .pick (.tmp 45) (.tmp 49) (.const (.bool false))⟩,
    ⟨some 51, none, .mv (.tmp 50)⟩,
    ⟨some 52, some (51, true), .mv (.tmp 9)⟩,
    ⟨some 53, some (51, true), .mv (.tmp 11)⟩,
    ⟨some 54, some (51, true), .call 18 [(.tmp 52), (.tmp 53)]⟩,
    ⟨some 55, none, .pick (.tmp 51) (.tmp 54) (.const (.bool false))⟩,
    ⟨some 56, none, .mv (.tmp 55)⟩,
    ⟨some 57, some (56, true), .mv (.tmp 10)⟩,
    ⟨some 58, some (56, true), .call 19 [(.tmp 57)]⟩,
    ⟨some 59, some (56, true), .mv (.tmp 12)⟩,
    ⟨some 60, some (56, true), .bin .eql (.tmp 58) (.tmp 59)⟩,
    ⟨some 61, none, .pick (.tmp 56) (.tmp 60) (.const (.bool false))⟩,
    ⟨some 62, none, .mv (.tmp 61)⟩,
    ⟨some 63, some (62, true), .call 12 []⟩,
    ⟨some 64, none, .pick (.tmp 62) (.tmp 63) (.const (.bool false))⟩,
    ⟨some 4, none, .mv (.tmp 64)⟩])
  .ret)))))))⟩
theorem h4 : strF Tryd.prog [] Tryd.f4 = some c4 := by kernel_rfl

/-- chirograph/chirographlaw04.DerOwn -/
def c5 : Fun := ⟨107, [.inl 2],
  (.seq (.ops [⟨some 2, none, .mv (.const (.bool false))⟩])
  (.seq (.seq (.ops [⟨some 15, none, .mv (.tmp 0)⟩,
    ⟨some 16, none, .len (.tmp 15)⟩,
    ⟨some 17, none, .bin .gtr (.tmp 16) (.const (.int .i64 2000))⟩])
  (.cond (.tmp 17)
    (.seq (.ops [⟨some 18, none, .call 12 []⟩,
      ⟨some 2, none, .mv (.tmp 18)⟩])
    .ret)
    .skip))
  (.seq (.ops [⟨some 19, none, .bsl0 5⟩,
    ⟨some 20, none, .mv (.tmp 0)⟩,
    ⟨some 21, none, .app 5 1 1 #[(.int .u8 0)] (.tmp 19) (.tmp 20)⟩,
    ⟨some 3, none, .mv (.tmp 21)⟩])
  (.seq (.ops [⟨some 23, none, .mv (.tmp 3)⟩,
    ⟨some 24, none, .call 25 [(.tmp 23)]⟩,
    ⟨some 22, none, .mv (.tmp 24)⟩,
    ⟨some 25, none, .ext (.tmp 22) 0⟩,
    ⟨some 26, none, .ext (.tmp 22) 1⟩,
    ⟨some 27, none, .ext (.tmp 22) 2⟩,
    ⟨some 4, none, .mv (.tmp 25)⟩,
    ⟨some 5, none, .mv (.tmp 26)⟩,
    ⟨some 6, none, .mv (.tmp 27)⟩])
  (.seq (.ops [⟨some 29, none, .mv (.tmp 0)⟩,
    ⟨some 30, none, .call 25 [(.tmp 29)]⟩,
    ⟨some 28, none, .mv (.tmp 30)⟩,
    ⟨some 31, none, .ext (.tmp 28) 0⟩,
    ⟨some 32, none, .ext (.tmp 28) 1⟩,
    ⟨some 33, none, .ext (.tmp 28) 2⟩,
    ⟨some 7, none, .mv (.tmp 31)⟩,
    ⟨some 8, none, .mv (.tmp 32)⟩,
    ⟨some 9, none, .mv (.tmp 33)⟩])
  (.seq (.ops [⟨some 34, none, .mv (.tmp 3)⟩,
    ⟨some 35, none, .call 26 [(.tmp 34)]⟩])
  (.seq (.seq (.ops [⟨some 36, none, .mv (.tmp 4)⟩,
    ⟨some 37, none, .mv (.tmp 7)⟩,
    ⟨some 38, none, .call 27 [(.tmp 36), (.tmp 37)]⟩,
    ⟨some 39, none, .un .not (.tmp 38)⟩])
  (.cond (.tmp 39)
    (.seq (.ops [⟨some 2, none, .mv (.const (.bool false))⟩])
    .ret)
    .skip))
  (.seq (.seq (.ops [⟨some 10, none, .mv (.const (.int .i64 0))⟩])
  (.block 0
    (.loop
      (.seq (.seq (.ops [⟨some 40, none, .mv (.tmp 10)⟩,
        ⟨some 41, none, .mv (.tmp 4)⟩,
        ⟨some 42, none, .len (.tmp 41)⟩,
        ⟨some 43, none, .bin .lss (.tmp 40) (.tmp 42)⟩])
      (.cond (.tmp 43)
        .skip
        (.exit 0)))
      (.seq (.block 1
        (.seq (.ops [⟨some 46, none, .mv (.tmp 4)⟩,
          ⟨some 47, none, .mv (.tmp 10)⟩,
          ⟨some 48, none, .ia 5 (.tmp 46) (.tmp 47)⟩,
          ⟨some 49, none, .fa 3 (.tmp 48)⟩,
          ⟨some 50, none, .ld .slice (.tmp 49)⟩,
          ⟨some 51, none, .bsl 5 1 3 #[(.int .u8 0)] [(0, (.const (.int .u8 1))), (1, (.const (.int .u8 2))), (2, (.const (.int .u8 3)))]⟩,
          ⟨some 52, none, .app 5 1 1 #[(.int .u8 0)] (.tmp 50) (.tmp 51)⟩,
          ⟨some 53, none, .call 26 [(.tmp 52)]⟩])
        (.seq (.ops [⟨some 54, none, .mv (.tmp 4)⟩,
          ⟨some 55, none, .mv (.tmp 10)⟩,
          ⟨some 56, none, .ia 5 (.tmp 54) (.tmp 55)⟩,
          ⟨some 57, none, .fa 3 (.tmp 56)⟩,
          ⟨some 58, none, .ld .slice (.tmp 57)⟩,
          ⟨some 59, none, .call 26 [(.tmp 58)]⟩])
        (.seq (.seq (.drawS [(0, 0), (0, 1), (0, 2), (0, 3), (0, 5), (0, 6), (0, 7), (0, 8), (1, 4), (1, 9), (2, 10), (0, 11), (0, 12), (0, 13), (0, 14), (0, 15), (0, 16), (0, 17), (0, 18), (0, 19), (0, 20), (2, 21), (0, 22), (0, 23)]
          [⟨some 60, none, .mv (.tmp 4)⟩,
          ⟨some 61, none, .mv (.tmp 10)⟩,
          ⟨some 62, none, .ia 5 (.tmp 60) (.tmp 61)⟩,
          ⟨some 63, none, .fa 4 (.tmp 62)⟩,
          ⟨some 64, none, .ld .slice (.tmp 63)⟩,
          ⟨some 65, none, .mv (.tmp 7)⟩,
          ⟨some 66, none, .mv (.tmp 10)⟩,
          ⟨some 67, none, .ia 5 (.tmp 65) (.tmp 66)⟩,
          ⟨some 68, none, .fa 4 (.tmp 67)⟩,
          ⟨some 69, none, .ld .slice (.tmp 68)⟩,
          ⟨some 70, none, .call 18 [(.tmp 64), (.tmp 69)]⟩,
          ⟨some 71, none, .un .not (.tmp 70)⟩,
          ⟨some 72, none, .mv (.tmp 71)⟩,
          ⟨some 73, some (72, false), .mv (.tmp 4)⟩,
          ⟨some 74, some (72, false), .mv (.tmp 10)⟩,
          ⟨some 75, some (72, false), .bin .add (.tmp 74) (.const (.int .i64 1))⟩,
          ⟨some 76, some (72, false), .slc 5 (.tmp 73) (some (.tmp 75)) none none⟩,
          ⟨some 77, some (72, false), .mv (.tmp 7)⟩,
          ⟨some 78, some (72, false), .mv (.tmp 10)⟩,
          ⟨some 79, some (72, false), .bin .add (.tmp 78) (.const (.int .i64 1))⟩,
          ⟨some 80, some (72, false), .slc 5 (.tmp 77) (some (.tmp 79)) none none⟩,
          ⟨some 81, some (72, false), .call 27 [(.tmp 76), (.tmp 80)]⟩,
          ⟨some 82, some (72, false), .un .not (.tmp 81)⟩,
          ⟨some 83, none, .pick (.tmp 72) (.const (.bool true)) (.tmp 82)⟩])
        (.cond (.tmp 83)
          (.seq (.ops [⟨some 2, none, .mv (.const (.bool false))⟩])
          .ret)
          .skip))
        (.ops [⟨some 84, none, .mv (.tmp 4)⟩,
          ⟨some 85, none, .mv (.tmp 10)⟩,
          ⟨some 86, none, .ia 5 (.tmp 84) (.tmp 85)⟩,
          ⟨some 87, none, .fa 4 (.tmp 86)⟩,
          ⟨some 88, none, .ld .slice (.tmp 87)⟩,
          ⟨some 89, none, .call 26 [(.tmp 88)]⟩])))))
      (.ops [⟨some 44, none, .mv (.tmp 10)⟩,
        ⟨some 45, none, .bin .add (.tmp 44) (.const (.int .i64 1))⟩,
        ⟨some 10, none, .mv (.tmp 45)⟩]))))))
  (.seq (.ops [⟨some 91, none, .mv (.tmp 0)⟩,
    ⟨some 92, none, .call 14 [(.tmp 91)]⟩,
    ⟨some 90, none, .mv (.tmp 92)⟩,
    ⟨some 93, none, .ext (.tmp 90) 0⟩,
    ⟨some 94, none, .ext (.tmp 90) 1⟩,
    ⟨some 95, none, .ext (.tmp 90) 2⟩,
    ⟨some 11, none, .mv (.tmp 93)⟩,
    ⟨some 12, none, .mv (.tmp 94)⟩,
    ⟨some 13, none, .mv (.tmp 95)⟩])
  (.seq (.ops [⟨some 96, none, .bsl0 5⟩,
    ⟨some 97, none, .mv (.tmp 0)⟩,
    ⟨some 98, none, .app 5 1 1 #[(.int .u8 0)] (.tmp 96) (.tmp 97)⟩,
    ⟨some 14, none, .mv (.tmp 98)⟩])
  (.seq (.ops [⟨some 99, none, .mv (.tmp 11)⟩,
    ⟨some 100, none, .call 26 [(.tmp 99)]⟩])
  (.seq (.ops [⟨some 101, none, .mv (.tmp 14)⟩,
    ⟨some 102, none, .mv (.tmp 0)⟩,
    ⟨some 103, none, .call 18 [(.tmp 101), (.tmp 102)]⟩,
    ⟨some 104, none, .mv (.tmp 103)⟩,
    ⟨some 105, some (104, true), .call 12 []⟩,
    ⟨some 106, none, .pick (.tmp 104) (.tmp 105) (.const (.bool false))⟩,
    ⟨some 2, none, .mv (.tmp 106)⟩])
  .ret))))))))))))⟩
theorem h5 : strF Tryd.prog [(14, .inl [(0, 0), (0, 1), (0, 2), (0, 3), (0, 5), (0, 6), (0, 7), (0, 8), (1, 4), (1, 9), (2, 10), (0, 11), (0, 12), (0, 13), (0, 14), (0, 15), (0, 16), (0, 17), (0, 18), (0, 19), (0, 20), (2, 21), (0, 22), (0, 23)])] Tryd.f5 = some c5 := by kernel_rfl

/-- chirograph/chirographlaw04.DerSplits -/
def c6 : Fun := ⟨77, [.inl 2],
  (.seq (.ops [⟨some 2, none, .mv (.const (.bool false))⟩])
  (.seq (.seq (.ops [⟨some 14, none, .mv (.tmp 0)⟩,
    ⟨some 15, none, .len (.tmp 14)⟩,
    ⟨some 16, none, .bin .gtr (.tmp 15) (.const (.int .i64 16384))⟩])
  (.cond (.tmp 16)
    (.seq (.ops [⟨some 17, none, .call 12 []⟩,
      ⟨some 2, none, .mv (.tmp 17)⟩])
    .ret)
    .skip))
  (.seq (.ops [⟨some 18, none, .mv (.tmp 0)⟩,
    ⟨some 19, none, .call 13 [(.tmp 18)]⟩,
    ⟨some 3, none, .mv (.tmp 19)⟩])
  (.seq (.ops [⟨some 21, none, .mv (.tmp 3)⟩,
    ⟨some 22, none, .call 25 [(.tmp 21)]⟩,
    ⟨some 20, none, .mv (.tmp 22)⟩,
    ⟨some 23, none, .ext (.tmp 20) 0⟩,
    ⟨some 24, none, .ext (.tmp 20) 1⟩,
    ⟨some 25, none, .ext (.tmp 20) 2⟩,
    ⟨some 4, none, .mv (.tmp 23)⟩,
    ⟨some 5, none, .mv (.tmp 24)⟩,
    ⟨some 6, none, .mv (.tmp 25)⟩])
  (.seq (.ops [⟨some 27, none, .mv (.tmp 0)⟩,
    ⟨some 28, none, .call 28 [(.tmp 27)]⟩,
    ⟨some 26, none, .mv (.tmp 28)⟩,
    ⟨some 29, none, .ext (.tmp 26) 0⟩,
    ⟨some 30, none, .ext (.tmp 26) 1⟩,
    ⟨some 31, none, .ext (.tmp 26) 2⟩,
    ⟨some 7, none, .mv (.tmp 29)⟩,
    ⟨some 8, none, .mv (.tmp 30)⟩,
    ⟨some 9, none, .mv (.tmp 31)⟩])
  (.seq (.ops [⟨some 33, none, .mv (.tmp 3)⟩,
    ⟨some 34, none, .call 29 [(.tmp 33)]⟩,
    ⟨some 32, none, .mv (.tmp 34)⟩,
    ⟨some 35, none, .ext (.tmp 32) 0⟩,
    ⟨some 36, none, .ext (.tmp 32) 1⟩,
    ⟨some 10, none, .alloc 53 (.agg #[(.int .i64 0), (.int .i64 0), (.bool false), (.slice none 0 0), (.slice none 0 0)])⟩,
    ⟨none, none, .st 5 (.tmp 10) (.tmp 35)⟩,
    ⟨some 11, none, .mv (.tmp 36)⟩])
  (.seq (.ops [⟨some 38, none, .mv (.tmp 0)⟩,
    ⟨some 39, none, .call 30 [(.tmp 38)]⟩,
    ⟨some 37, none, .mv (.tmp 39)⟩,
    ⟨some 40, none, .ext (.tmp 37) 0⟩,
    ⟨some 41, none, .ext (.tmp 37) 1⟩,
    ⟨some 12, none, .alloc 53 (.agg #[(.int .i64 0), (.int .i64 0), (.bool false), (.slice none 0 0), (.slice none 0 0)])⟩,
    ⟨none, none, .st 5 (.tmp 12) (.tmp 40)⟩,
    ⟨some 13, none, .mv (.tmp 41)⟩])
  (.seq (.ops [⟨some 42, none, .mv (.tmp 4)⟩,
    ⟨some 43, none, .mv (.tmp 7)⟩,
    ⟨some 44, none, .call 27 [(.tmp 42), (.tmp 43)]⟩,
    ⟨some 45, none, .mv (.tmp 44)⟩,
    ⟨some 46, some (45, true), .mv (.tmp 5)⟩,
    ⟨some 47, some (45, true), .call 19 [(.tmp 46)]⟩,
    ⟨some 48, some (45, true), .mv (.tmp 8)⟩,
    ⟨some 49, some (45, true), .bin .eql (.tmp 47) (.tmp 48)⟩,
    ⟨some 50, none, .pick (.tmp 45) (.tmp 49) (.const (.bool false))⟩,
    ⟨some 51, none, .mv (.tmp 50)⟩,
    ⟨some 52, some (51, true), .mv (.tmp 6)⟩,
    ⟨some 53, some (51, true), .mv (.tmp 9)⟩,
    ⟨some 54, some (51, true), .bin .eql (.tmp 52) (.tmp 53)⟩,
    ⟨some 55, none, .pick (.tmp 51) (.tmp 54) (.const (.bool false))⟩,
    ⟨some 56, none, .mv (.tmp 55)⟩,
    ⟨some 57, some (56, true), .ld (.agg 5) (.tmp 10)⟩,
    ⟨some 58, some (56, true), .bsl 53 5 1 #[(.int .i64 0), (.int .i64 0), (.bool false), (.slice none 0 0), (.slice none 0 0)] [(0, (.tmp 57))]⟩,
    ⟨some 59, some (56, true), .ld (.agg 5) (.tmp 12)⟩,
    ⟨some 60, some (56, true), .bsl 53 5 1 #[(.int .i64 0), (.int .i64 0), (.bool false), (.slice none 0 0), (.slice none 0 0)] [(0, (.tmp 59))]⟩,
    ⟨some 61, some (56, true), .call 27 [(.tmp 58), (.tmp 60)]⟩,
    ⟨some 62, none, .pick (.tmp 56) (.tmp 61) (.const (.bool false))⟩,
    ⟨some 63, none, .mv (.tmp 62)⟩,
    ⟨some 64, some (63, true), .mv (.tmp 11)⟩,
    ⟨some 65, some (63, true), .call 19 [(.tmp 64)]⟩,
    ⟨some 66, some (63, true), .mv (.tmp 13)⟩,
    ⟨some 67, some (63, true), .bin .eql (.tmp 65) (.tmp 66)⟩,
    ⟨some 68, none, .pick (.tmp 63) (.tmp 67) (.const (.bool false))⟩,
    ⟨some 69, none, .mv (.tmp 68)⟩,
    ⟨some 70, some (69, true), .mv (.tmp 3)⟩,
    ⟨some 71, some (69, true), .mv (.tmp 0)⟩,
    ⟨some 72, some (69, true), .call 20 [(.tmp 70), (.tmp 71)]⟩,
    ⟨some 73, none, .pick (.tmp 69) (.tmp 72) (.const (.bool false))⟩,
    ⟨some 74, none, .mv (.tmp 73)⟩,
    ⟨some 75, some (74, true), .call 12 []⟩,
    ⟨some 76, none, .pick (.tmp 74) (.tmp 75) (.const (.bool false))⟩,
    ⟨some 2, none, .mv (.tmp 76)⟩])
  .ret))))))))⟩
theorem h6 : strF Tryd.prog [] Tryd.f6 = some c6 := by kernel_rfl

/-- chirograph/chirographlaw04.DerPuts -/
def c7 : Fun := ⟨102, [.inl 8],
  (.seq (.ops [⟨some 8, none, .mv (.const (.bool false))⟩])
  (.seq (.ops [⟨some 9, none, .mv (.const (.int .i64 0))⟩])
  (.seq (.seq (.ops [⟨some 10, none, .mv (.const (.int .i64 0))⟩])
  (.block 0
    (.loop
      (.seq (.seq (.ops [⟨some 18, none, .mv (.tmp 10)⟩,
        ⟨some 19, none, .mv (.tmp 3)⟩,
        ⟨some 20, none, .len (.tmp 19)⟩,
        ⟨some 21, none, .bin .lss (.tmp 18) (.tmp 20)⟩])
      (.cond (.tmp 21)
        .skip
        (.exit 0)))
      (.seq (.block 1
        (.seq (.seq (.ops [⟨some 24, none, .mv (.tmp 3)⟩,
          ⟨some 25, none, .mv (.tmp 10)⟩,
          ⟨some 26, none, .ia 1 (.tmp 24) (.tmp 25)⟩,
          ⟨some 27, none, .ld .slice (.tmp 26)⟩,
          ⟨some 28, none, .len (.tmp 27)⟩,
          ⟨some 29, none, .mv (.tmp 9)⟩,
          ⟨some 30, none, .bin .sub (.const (.int .i64 16384)) (.tmp 29)⟩,
          ⟨some 31, none, .bin .gtr (.tmp 28) (.tmp 30)⟩,
          ⟨some 32, none, .mv (.tmp 31)⟩,
          ⟨some 33, some (32, false), .mv (.tmp 10)⟩,
          ⟨some 34, some (32, false), .bin .gtr (.tmp 33) (.const (.int .i64 1000))⟩,
          ⟨some 35, none, .pick (.tmp 32) (.const (.bool true)) (.tmp 34)⟩])
        (.cond (.tmp 35)
          (.seq (.ops [⟨some 36, none, .call 12 []⟩,
            ⟨some 8, none, .mv (.tmp 36)⟩])
          .ret)
          .skip))
        (.ops [⟨some 37, none, .mv (.tmp 9)⟩,
          ⟨some 38, none, .mv (.tmp 3)⟩,
          ⟨some 39, none, .mv (.tmp 10)⟩,
          ⟨some 40, none, .ia 1 (.tmp 38) (.tmp 39)⟩,
          ⟨some 41, none, .ld .slice (.tmp 40)⟩,
          ⟨some 42, none, .len (.tmp 41)⟩,
          ⟨some 43, none, .bin .add (.tmp 37) (.tmp 42)⟩,
          ⟨some 9, none, .mv (.tmp 43)⟩])))
      (.ops [⟨some 22, none, .mv (.tmp 10)⟩,
        ⟨some 23, none, .bin .add (.tmp 22) (.const (.int .i64 1))⟩,
        ⟨some 10, none, .mv (.tmp 23)⟩]))))))
  (.seq (.ops [⟨some 11, none, .mv (.const (.slice none 0 0))⟩])
  (.seq (.seq (.ops [⟨some 12, none, .mv (.const (.int .i64 0))⟩])
  (.block 2
    (.loop
      (.seq (.seq (.ops [⟨some 44, none, .mv (.tmp 12)⟩,
        ⟨some 45, none, .mv (.tmp 3)⟩,
        ⟨some 46, none, .len (.tmp 45)⟩,
        ⟨some 47, none, .bin .lss (.tmp 44) (.tmp 46)⟩])
      (.cond (.tmp 47)
        .skip
        (.exit 2)))
      (.seq (.block 3
        (.ops [⟨some 50, none, .mv (.tmp 11)⟩,
          ⟨some 51, none, .mv (.tmp 3)⟩,
          ⟨some 52, none, .mv (.tmp 12)⟩,
          ⟨some 53, none, .ia 1 (.tmp 51) (.tmp 52)⟩,
          ⟨some 54, none, .ld .slice (.tmp 53)⟩,
          ⟨some 55, none, .call 13 [(.tmp 54)]⟩,
          ⟨some 56, none, .bsl 22 1 1 #[(.slice none 0 0)] [(0, (.tmp 55))]⟩,
          ⟨some 57, none, .app 22 1 24 #[(.slice none 0 0)] (.tmp 50) (.tmp 56)⟩,
          ⟨some 11, none, .mv (.tmp 57)⟩]))
      (.ops [⟨some 48, none, .mv (.tmp 12)⟩,
        ⟨some 49, none, .bin .add (.tmp 48) (.const (.int .i64 1))⟩,
        ⟨some 12, none, .mv (.tmp 49)⟩]))))))
  (.seq (.ops [⟨some 59, none, .mv (.tmp 0)⟩,
    ⟨some 60, none, .mv (.tmp 1)⟩,
    ⟨some 61, none, .mv (.tmp 2)⟩,
    ⟨some 62, none, .mv (.tmp 11)⟩,
    ⟨some 63, none, .call 31 [(.tmp 59), (.tmp 60), (.tmp 61), (.tmp 62)]⟩,
    ⟨some 58, none, .mv (.tmp 63)⟩,
    ⟨some 64, none, .ext (.tmp 58) 0⟩,
    ⟨some 65, none, .ext (.tmp 58) 1⟩,
    ⟨some 13, none, .mv (.tmp 64)⟩,
    ⟨some 14, none, .mv (.tmp 65)⟩])
  (.seq (.ops [⟨some 67, none, .mv (.tmp 0)⟩,
    ⟨some 68, none, .mv (.tmp 1)⟩,
    ⟨some 69, none, .mv (.tmp 2)⟩,
    ⟨some 70, none, .mv (.tmp 3)⟩,
    ⟨some 71, none, .call 32 [(.tmp 67), (.tmp 68), (.tmp 69), (.tmp 70)]⟩,
    ⟨some 66, none, .mv (.tmp 71)⟩,
    ⟨some 72, none, .ext (.tmp 66) 0⟩,
    ⟨some 73, none, .ext (.tmp 66) 1⟩,
    ⟨some 15, none, .mv (.tmp 72)⟩,
    ⟨some 16, none, .mv (.tmp 73)⟩])
  (.seq (.seq (.ops [⟨some 17, none, .mv (.const (.int .i64 0))⟩])
  (.block 4
    (.loop
      (.seq (.seq (.ops [⟨some 74, none, .mv (.tmp 17)⟩,
        ⟨some 75, none, .mv (.tmp 3)⟩,
        ⟨some 76, none, .len (.tmp 75)⟩,
        ⟨some 77, none, .bin .lss (.tmp 74) (.tmp 76)⟩])
      (.cond (.tmp 77)
        .skip
        (.exit 4)))
      (.seq (.block 5
        (.seq (.drawS [(0, 0), (0, 1), (0, 2), (0, 4), (0, 5), (0, 6), (1, 3), (1, 7), (2, 8), (0, 9)]
          [⟨some 80, none, .mv (.tmp 11)⟩,
          ⟨some 81, none, .mv (.tmp 17)⟩,
          ⟨some 82, none, .ia 1 (.tmp 80) (.tmp 81)⟩,
          ⟨some 83, none, .ld .slice (.tmp 82)⟩,
          ⟨some 84, none, .mv (.tmp 3)⟩,
          ⟨some 85, none, .mv (.tmp 17)⟩,
          ⟨some 86, none, .ia 1 (.tmp 84) (.tmp 85)⟩,
          ⟨some 87, none, .ld .slice (.tmp 86)⟩,
          ⟨some 88, none, .call 20 [(.tmp 83), (.tmp 87)]⟩,
          ⟨some 89, none, .un .not (.tmp 88)⟩])
        (.cond (.tmp 89)
          (.seq (.ops [⟨some 8, none, .mv (.const (.bool false))⟩])
          .ret)
          .skip)))
      (.ops [⟨some 78, none, .mv (.tmp 17)⟩,
        ⟨some 79, none, .bin .add (.tmp 78) (.const (.int .i64 1))⟩,
        ⟨some 17, none, .mv (.tmp 79)⟩]))))))
  (.seq (.ops [⟨some 90, none, .mv (.tmp 13)⟩,
    ⟨some 91, none, .mv (.tmp 15)⟩,
    ⟨some 92, none, .call 18 [(.tmp 90), (.tmp 91)]⟩,
    ⟨some 93, none, .mv (.tmp 92)⟩,
    ⟨some 94, some (93, true), .mv (.tmp 14)⟩,
    ⟨some 95, some (93, true), .call 19 [(.tmp 94)]⟩,
    ⟨some 96, some (93, true), .mv (.tmp 16)⟩,
    ⟨some 97, some (93, true), .bin .eql (.tmp 95) (.tmp 96)⟩,
    ⟨some 98, none, .pick (.tmp 93) (.tmp 97) (.const (.bool false))⟩,
    ⟨some 99, none, .mv (.tmp 98)⟩,
    ⟨some 100, some (99, true), .call 12 []⟩,
    ⟨some 101, none, .pick (.tmp 99) (.tmp 100) (.const (.bool false))⟩,
    ⟨some 8, none, .mv (.tmp 101)⟩])
  .ret)))))))))⟩
theorem h7 : strF Tryd.prog [(18, .inl [(0, 0), (0, 1), (0, 2), (0, 4), (0, 5), (0, 6), (1, 3), (1, 7), (2, 8), (0, 9)])] Tryd.f7 = some c7 := by kernel_rfl

/-- chirograph/chirographlaw04.DerBack -/
def c8 : Fun := ⟨116, [.inl 2],
  (.seq (.ops [⟨some 2, none, .mv (.const (.bool false))⟩])
  (.seq (.seq (.ops [⟨some 11, none, .mv (.tmp 0)⟩,
    ⟨some 12, none, .len (.tmp 11)⟩,
    ⟨some 13, none, .bin .gtr (.tmp 12) (.const (.int .i64 60))⟩])
  (.cond (.tmp 13)
    (.seq (.ops [⟨some 14, none, .call 12 []⟩,
      ⟨some 2, none, .mv (.tmp 14)⟩])
    .ret)
    .skip))
  (.seq (.ops [⟨some 3, none, .mv (.const (.slice none 0 0))⟩])
  (.seq (.ops [⟨some 4, none, .mv (.const (.slice none 0 0))⟩])
  (.seq (.seq (.ops [⟨some 5, none, .mv (.const (.int .i64 0))⟩])
  (.block 0
    (.loop
      (.seq (.seq (.ops [⟨some 15, none, .mv (.tmp 5)⟩,
        ⟨some 16, none, .mv (.tmp 0)⟩,
        ⟨some 17, none, .len (.tmp 16)⟩,
        ⟨some 18, none, .bin .lss (.tmp 15) (.tmp 17)⟩])
      (.cond (.tmp 18)
        .skip
        (.exit 0)))
      (.join (.block 1
        (.seq (.seq (.ops [⟨some 21, none, .mv (.tmp 0)⟩,
          ⟨some 22, none, .mv (.tmp 5)⟩,
          ⟨some 23, none, .ia 5 (.tmp 21) (.tmp 22)⟩,
          ⟨some 24, none, .fa 3 (.tmp 23)⟩,
          ⟨some 25, none, .ld .slice (.tmp 24)⟩,
          ⟨some 26, none, .len (.tmp 25)⟩,
          ⟨some 27, none, .bin .gtr (.tmp 26) (.const (.int .i64 1000))⟩])
        (.cond (.tmp 27)
          (.seq (.ops [⟨some 28, none, .call 12 []⟩,
            ⟨some 2, none, .mv (.tmp 28)⟩])
          .ret)
          .skip))
        (.seq (.drawT (.st 0 0 (.st 0 1 (.st 0 2 (.st 0 3 (.st 0 5 (.st 0 6 (.st 0 7 (.st 0 8 (.st 0 10 (.st 0 11 (.st 0 12 (.st 0 13 (.st 0 15 (.st 0 16 (.st 0 17 (.st 0 18 (.st 1 19 (.st 3 4 (.st 3 9 (.st 3 14 (.cov (.one 20 (.cov (.one 21 (.st 0 22 (.st 0 23 (.st 0 24 (.st 0 25 (.st 0 26 .nil)))))))))))))))))))))))))))))
          [⟨some 30, none, .mv (.tmp 0)⟩,
            ⟨some 31, none, .mv (.tmp 5)⟩,
            ⟨some 32, none, .ia 5 (.tmp 30) (.tmp 31)⟩,
            ⟨some 33, none, .fa 0 (.tmp 32)⟩,
            ⟨some 34, none, .ld (.int .i64) (.tmp 33)⟩,
            ⟨some 35, none, .mv (.tmp 0)⟩,
            ⟨some 36, none, .mv (.tmp 5)⟩,
            ⟨some 37, none, .ia 5 (.tmp 35) (.tmp 36)⟩,
            ⟨some 38, none, .fa 1 (.tmp 37)⟩,
            ⟨some 39, none, .ld (.int .i64) (.tmp 38)⟩,
            ⟨some 40, none, .mv (.tmp 0)⟩,
            ⟨some 41, none, .mv (.tmp 5)⟩,
            ⟨some 42, none, .ia 5 (.tmp 40) (.tmp 41)⟩,
            ⟨some 43, none, .fa 2 (.tmp 42)⟩,
            ⟨some 44, none, .ld .bool (.tmp 43)⟩,
            ⟨some 45, none, .mv (.tmp 0)⟩,
            ⟨some 46, none, .mv (.tmp 5)⟩,
            ⟨some 47, none, .ia 5 (.tmp 45) (.tmp 46)⟩,
            ⟨some 48, none, .fa 3 (.tmp 47)⟩,
            ⟨some 49, none, .ld .slice (.tmp 48)⟩,
            ⟨some 50, none, .bsl 22 1 1 #[(.slice none 0 0)] [(0, (.tmp 49))]⟩,
            ⟨some 51, none, .call 31 [(.tmp 34), (.tmp 39), (.tmp 44), (.tmp 50)]⟩,
            ⟨some 29, none, .mv (.tmp 51)⟩,
            ⟨some 52, none, .ext (.tmp 29) 0⟩,
            ⟨some 53, none, .ext (.tmp 29) 1⟩,
            ⟨some 6, none, .mv (.tmp 52)⟩,
            ⟨some 7, none, .mv (.tmp 53)⟩])
        (.seq (.seq (.ops [⟨some 54, none, .mv (.tmp 7)⟩,
          ⟨some 55, none, .call 19 [(.tmp 54)]⟩,
          ⟨some 56, none, .bin .neq (.tmp 55) (.const (.int .i64 0))⟩])
        (.cond (.tmp 56)
          (.seq (.seq (.ops [⟨some 57, none, .mv (.tmp 6)⟩,
            ⟨some 58, none, .len (.tmp 57)⟩,
            ⟨some 59, none, .bin .neq (.tmp 58) (.const (.int .i64 0))⟩,
            ⟨some 60, none, .mv (.tmp 59)⟩,
            ⟨some 61, some (60, false), .mv (.tmp 7)⟩,
            ⟨some 62, some (60, false), .call 19 [(.tmp 61)]⟩,
            ⟨some 63, some (60, false), .bin .neq (.tmp 62) (.const (.int .i64 1))⟩,
            ⟨some 64, none, .pick (.tmp 60) (.const (.bool true)) (.tmp 63)⟩])
          (.cond (.tmp 64)
            (.seq (.ops [⟨some 2, none, .mv (.const (.bool false))⟩])
            .ret)
            .skip))
          (.exit 1))
          .skip))
        (.seq (.ops [⟨some 65, none, .mv (.tmp 3)⟩,
          ⟨some 66, none, .mv (.tmp 6)⟩,
          ⟨some 67, none, .app 5 1 1 #[(.int .u8 0)] (.tmp 65) (.tmp 66)⟩,
          ⟨some 3, none, .mv (.tmp 67)⟩])
        (.drawS [(0, 0), (0, 1), (0, 2), (0, 3), (0, 4), (0, 6), (0, 7), (0, 8), (0, 9), (0, 11), (0, 12), (0, 13), (0, 14), (0, 16), (0, 17), (0, 18), (0, 19), (0, 21), (1, 5), (1, 10), (1, 15), (1, 20), (0, 22), (2, 23), (2, 24), (0, 25)]
          [⟨some 68, none, .mv (.tmp 4)⟩,
          ⟨some 69, none, .mv (.tmp 0)⟩,
          ⟨some 70, none, .mv (.tmp 5)⟩,
          ⟨some 71, none, .ia 5 (.tmp 69) (.tmp 70)⟩,
          ⟨some 72, none, .fa 0 (.tmp 71)⟩,
          ⟨some 73, none, .ld (.int .i64) (.tmp 72)⟩,
          ⟨some 74, none, .mv (.tmp 0)⟩,
          ⟨some 75, none, .mv (.tmp 5)⟩,
          ⟨some 76, none, .ia 5 (.tmp 74) (.tmp 75)⟩,
          ⟨some 77, none, .fa 1 (.tmp 76)⟩,
          ⟨some 78, none, .ld (.int .i64) (.tmp 77)⟩,
          ⟨some 79, none, .mv (.tmp 0)⟩,
          ⟨some 80, none, .mv (.tmp 5)⟩,
          ⟨some 81, none, .ia 5 (.tmp 79) (.tmp 80)⟩,
          ⟨some 82, none, .fa 2 (.tmp 81)⟩,
          ⟨some 83, none, .ld .bool (.tmp 82)⟩,
          ⟨some 84, none, .mv (.tmp 0)⟩,
          ⟨some 85, none, .mv (.tmp 5)⟩,
          ⟨some 86, none, .ia 5 (.tmp 84) (.tmp 85)⟩,
          ⟨some 87, none, .fa 3 (.tmp 86)⟩,
          ⟨some 88, none, .ld .slice (.tmp 87)⟩,
          ⟨some 89, none, .mv (.tmp 6)⟩,
          ⟨some 90, none, .bld #[(.int .i64 0), (.int .i64 0), (.bool false), (.slice none 0 0), (.slice none 0 0)] [(0, 1), (1, 1), (2, 1), (3, 1), (4, 1)] [(0, (.tmp 73)), (1, (.tmp 78)), (2, (.tmp 83)), (3, (.tmp 88)), (4, (.tmp 89))]⟩,
          ⟨some 91, none, .bsl 53 5 1 #[(.int .i64 0), (.int .i64 0), (.bool false), (.slice none 0 0), (.slice none 0 0)] [(0, (.tmp 90))]⟩,
          ⟨some 92, none, .app 53 5 72 #[(.int .i64 0), (.int .i64 0), (.bool false), (.slice none 0 0), (.slice none 0 0)] (.tmp 68) (.tmp 91)⟩,
          ⟨some 4, none, .mv (.tmp 92)⟩]))))))
      (.ops [⟨some 19, none, .mv (.tmp 5)⟩,
        ⟨some 20, none, .bin .add (.tmp 19) (.const (.int .i64 1))⟩,
        ⟨some 5, none, .mv (.tmp 20)⟩]))))))
  (.seq (.ops [⟨some 94, none, .mv (.tmp 3)⟩,
    ⟨some 95, none, .call 25 [(.tmp 94)]⟩,
    ⟨some 93, none, .mv (.tmp 95)⟩,
    ⟨some 96, none, .ext (.tmp 93) 0⟩,
    ⟨some 97, none, .ext (.tmp 93) 1⟩,
    ⟨some 98, none, .ext (.tmp 93) 2⟩,
    ⟨some 8, none, .mv (.tmp 96)⟩,
    ⟨some 9, none, .mv (.tmp 97)⟩,
    ⟨some 10, none, .mv (.tmp 98)⟩])
  (.seq (.ops [⟨some 99, none, .mv (.tmp 9)⟩,
    ⟨some 100, none, .call 19 [(.tmp 99)]⟩,
    ⟨some 101, none, .bin .eql (.tmp 100) (.const (.int .i64 0))⟩,
    ⟨some 102, none, .mv (.tmp 101)⟩,
    ⟨some 103, some (102, true), .mv (.tmp 10)⟩,
    ⟨some 104, some (102, true), .mv (.tmp 3)⟩,
    ⟨some 105, some (102, true), .len (.tmp 104)⟩,
    ⟨some 106, some (102, true), .bin .eql (.tmp 103) (.tmp 105)⟩,
    ⟨some 107, none, .pick (.tmp 102) (.tmp 106) (.const (.bool false))⟩,
    ⟨some 108, none, .mv (.tmp 107)⟩,
    ⟨some 109, some (108, true), .mv (.tmp 8)⟩,
    ⟨some 110, some (108, true), .mv (.tmp 4)⟩,
    ⟨some 111, some (108, true), .call 27 [(.tmp 109), (.tmp 110)]⟩,
    ⟨some 112, none, .pick (.tmp 108) (.tmp 111) (.const (.bool false))⟩,
    ⟨some 113, none, .mv (.tmp 112)⟩,
    ⟨some 114, some (113, true), .call 12 []⟩,
    ⟨some 115, none, .pick (.tmp 113) (.tmp 114) (.const (.bool false))⟩,
    ⟨some 2, none, .mv (.tmp 115)⟩])
  .ret)))))))⟩
theorem h8 : strF Tryd.prog [(10, .inr (.st 0 0 (.st 0 1 (.st 0 2 (.st 0 3 (.st 0 5 (.st 0 6 (.st 0 7 (.st 0 8 (.st 0 10 (.st 0 11 (.st 0 12 (.st 0 13 (.st 0 15 (.st 0 16 (.st 0 17 (.st 0 18 (.st 1 19 (.st 3 4 (.st 3 9 (.st 3 14 (.cov (.one 20 (.cov (.one 21 (.st 0 22 (.st 0 23 (.st 0 24 (.st 0 25 (.st 0 26 .nil)))))))))))))))))))))))))))))), (15, .inl [(0, 0), (0, 1), (0, 2), (0, 3), (0, 4), (0, 6), (0, 7), (0, 8), (0, 9), (0, 11), (0, 12), (0, 13), (0, 14), (0, 16), (0, 17), (0, 18), (0, 19), (0, 21), (1, 5), (1, 10), (1, 15), (1, 20), (0, 22), (2, 23), (2, 24), (0, 25)])] Tryd.f8 = some c8 := by kernel_rfl

/-- chirograph/chirographlaw04.DerThere -/
def c9 : Fun := ⟨95, [.inl 6],
  (.seq (.ops [⟨some 6, none, .mv (.const (.bool false))⟩])
  (.seq (.seq (.ops [⟨some 17, none, .mv (.tmp 1)⟩,
    ⟨some 18, none, .len (.tmp 17)⟩,
    ⟨some 19, none, .bin .gtr (.tmp 18) (.const (.int .i64 100))⟩,
    ⟨some 20, none, .mv (.tmp 19)⟩,
    ⟨some 21, some (20, false), .mv (.tmp 2)⟩,
    ⟨some 22, some (20, false), .len (.tmp 21)⟩,
    ⟨some 23, some (20, false), .bin .gtr (.tmp 22) (.const (.int .i64 2000))⟩,
    ⟨some 24, none, .pick (.tmp 20) (.const (.bool true)) (.tmp 23)⟩])
  (.cond (.tmp 24)
    (.seq (.ops [⟨some 25, none, .call 12 []⟩,
      ⟨some 6, none, .mv (.tmp 25)⟩])
    .ret)
    .skip))
  (.seq (.ops [⟨some 27, none, .mv (.tmp 0)⟩,
    ⟨some 28, none, .call 34 [(.tmp 27)]⟩,
    ⟨some 29, none, .call 33 [(.tmp 28)]⟩,
    ⟨some 26, none, .mv (.tmp 29)⟩,
    ⟨some 30, none, .ext (.tmp 26) 0⟩,
    ⟨some 31, none, .ext (.tmp 26) 1⟩,
    ⟨some 7, none, .mv (.tmp 30)⟩,
    ⟨some 8, none, .mv (.tmp 31)⟩])
  (.seq (.ops [⟨some 33, none, .mv (.tmp 1)⟩,
    ⟨some 34, none, .call 36 [(.tmp 33)]⟩,
    ⟨some 35, none, .call 35 [(.tmp 34)]⟩,
    ⟨some 32, none, .mv (.tmp 35)⟩,
    ⟨some 36, none, .ext (.tmp 32) 0⟩,
    ⟨some 37, none, .ext (.tmp 32) 1⟩,
    ⟨some 9, none, .mv (.tmp 36)⟩,
    ⟨some 10, none, .mv (.tmp 37)⟩])
  (.seq (.seq (.ops [⟨some 38, none, .mv (.tmp 8)⟩,
    ⟨some 39, none, .call 19 [(.tmp 38)]⟩,
    ⟨some 40, none, .mv (.tmp 10)⟩,
    ⟨some 41, none, .call 19 [(.tmp 40)]⟩,
    ⟨some 42, none, .bin .add (.tmp 39) (.tmp 41)⟩,
    ⟨some 43, none, .bin .neq (.tmp 42) (.const (.int .i64 0))⟩,
    ⟨some 44, none, .mv (.tmp 43)⟩,
    ⟨some 45, some (44, false), .mv (.tmp 7)⟩,
    ⟨some 46, some (44, false), .mv (.tmp 0)⟩,
    ⟨some 47, some (44, false), .bin .neq (.tmp 45) (.tmp 46)⟩,
    ⟨some 48, none, .pick (.tmp 44) (.const (.bool true)) (.tmp 47)⟩,
    ⟨some 49, none, .mv (.tmp 48)⟩,
    ⟨some 50, some (49, false), .mv (.tmp 9)⟩,
    ⟨some 51, some (49, false), .mv (.tmp 1)⟩,
    ⟨some 52, some (49, false), .call 38 [(.tmp 51)]⟩,
    ⟨some 53, some (49, false), .call 37 [(.tmp 50), (.tmp 52)]⟩,
    ⟨some 54, some (49, false), .un .not (.tmp 53)⟩,
    ⟨some 55, none, .pick (.tmp 49) (.const (.bool true)) (.tmp 54)⟩])
  (.cond (.tmp 55)
    (.seq (.ops [⟨some 6, none, .mv (.const (.bool false))⟩])
    .ret)
    .skip))
  (.seq (.ops [⟨some 57, none, .mv (.tmp 2)⟩,
    ⟨some 58, none, .call 21 [(.tmp 57)]⟩,
    ⟨some 56, none, .mv (.tmp 58)⟩,
    ⟨some 59, none, .ext (.tmp 56) 0⟩,
    ⟨some 60, none, .ext (.tmp 56) 1⟩,
    ⟨some 11, none, .mv (.tmp 59)⟩,
    ⟨some 12, none, .mv (.tmp 60)⟩])
  (.join (.seq (.ops [⟨some 61, none, .mv (.tmp 12)⟩,
    ⟨some 62, none, .call 19 [(.tmp 61)]⟩,
    ⟨some 63, none, .bin .eql (.tmp 62) (.const (.int .i64 0))⟩])
  (.cond (.tmp 63)
    (.seq (.ops [⟨some 65, none, .mv (.tmp 11)⟩,
      ⟨some 66, none, .call 23 [(.tmp 65)]⟩,
      ⟨some 64, none, .mv (.tmp 66)⟩,
      ⟨some 67, none, .ext (.tmp 64) 0⟩,
      ⟨some 68, none, .ext (.tmp 64) 1⟩,
      ⟨some 13, none, .mv (.tmp 67)⟩,
      ⟨some 14, none, .mv (.tmp 68)⟩])
    (.seq (.ops [⟨some 69, none, .mv (.tmp 14)⟩,
      ⟨some 70, none, .call 19 [(.tmp 69)]⟩,
      ⟨some 71, none, .bin .neq (.tmp 70) (.const (.int .i64 0))⟩,
      ⟨some 72, none, .mv (.tmp 71)⟩,
      ⟨some 73, some (72, false), .mv (.tmp 13)⟩,
      ⟨some 74, some (72, false), .mv (.tmp 2)⟩,
      ⟨some 75, some (72, false), .call 18 [(.tmp 73), (.tmp 74)]⟩,
      ⟨some 76, some (72, false), .un .not (.tmp 75)⟩,
      ⟨some 77, none, .pick (.tmp 72) (.const (.bool true)) (.tmp 76)⟩])
    (.cond (.tmp 77)
      (.seq (.ops [⟨some 6, none, .mv (.const (.bool false))⟩])
      .ret)
      .skip)))
    .skip))
  (.seq (.ops [⟨some 79, none, .mv (.tmp 2)⟩,
    ⟨some 80, none, .call 33 [(.tmp 79)]⟩,
    ⟨some 78, none, .mv (.tmp 80)⟩,
    ⟨some 81, none, .ext (.tmp 78) 0⟩,
    ⟨some 82, none, .ext (.tmp 78) 1⟩,
    ⟨some 15, none, .mv (.tmp 81)⟩,
    ⟨some 16, none, .mv (.tmp 82)⟩])
  (.seq (.ops [⟨some 83, none, .mv (.tmp 16)⟩,
    ⟨some 84, none, .call 19 [(.tmp 83)]⟩,
    ⟨some 85, none, .bin .neq (.tmp 84) (.const (.int .i64 0))⟩,
    ⟨some 86, none, .mv (.tmp 85)⟩,
    ⟨some 87, some (86, false), .mv (.tmp 15)⟩,
    ⟨some 88, some (86, false), .call 34 [(.tmp 87)]⟩,
    ⟨some 89, some (86, false), .mv (.tmp 2)⟩,
    ⟨some 90, some (86, false), .call 18 [(.tmp 88), (.tmp 89)]⟩,
    ⟨some 91, none, .pick (.tmp 86) (.const (.bool true)) (.tmp 90)⟩,
    ⟨some 92, none, .mv (.tmp 91)⟩,
    ⟨some 93, some (92, true), .call 12 []⟩,
    ⟨some 94, none, .pick (.tmp 92) (.tmp 93) (.const (.bool false))⟩,
    ⟨some 6, none, .mv (.tmp 94)⟩])
  .ret)))))))))⟩
theorem h9 : strF Tryd.prog [] Tryd.f9 = some c9 := by kernel_rfl

/-- chirograph/chirographlaw04.DerNumbers -/
def c10 : Fun := ⟨105, [.inl 6],
  (.seq (.ops [⟨some 6, none, .mv (.const (.bool false))⟩])
  (.seq (.seq (.ops [⟨some 19, none, .mv (.tmp 0)⟩,
    ⟨some 20, none, .len (.tmp 19)⟩,
    ⟨some 21, none, .bin .gtr (.tmp 20) (.const (.int .i64 16384))⟩,
    ⟨some 22, none, .mv (.tmp 21)⟩,
    ⟨some 23, some (22, false), .mv (.tmp 2)⟩,
    ⟨some 24, some (22, false), .len (.tmp 23)⟩,
    ⟨some 25, some (22, false), .bin .gtr (.tmp 24) (.const (.int .i64 600))⟩,
    ⟨some 26, none, .pick (.tmp 22) (.const (.bool true)) (.tmp 25)⟩])
  (.cond (.tmp 26)
    (.seq (.ops [⟨some 27, none, .call 12 []⟩,
      ⟨some 6, none, .mv (.tmp 27)⟩])
    .ret)
    .skip))
  (.seq (.ops [⟨some 29, none, .mv (.tmp 0)⟩,
    ⟨some 30, none, .call 39 [(.tmp 29)]⟩,
    ⟨some 28, none, .mv (.tmp 30)⟩,
    ⟨some 31, none, .ext (.tmp 28) 0⟩,
    ⟨some 32, none, .ext (.tmp 28) 1⟩,
    ⟨some 7, none, .mv (.tmp 31)⟩,
    ⟨some 8, none, .mv (.tmp 32)⟩])
  (.seq (.ops [⟨some 34, none, .mv (.tmp 0)⟩,
    ⟨some 35, none, .call 40 [(.tmp 34)]⟩,
    ⟨some 33, none, .mv (.tmp 35)⟩,
    ⟨some 36, none, .ext (.tmp 33) 0⟩,
    ⟨some 37, none, .ext (.tmp 33) 1⟩,
    ⟨some 9, none, .mv (.tmp 36)⟩,
    ⟨some 10, none, .mv (.tmp 37)⟩])
  (.seq (.ops [⟨some 39, none, .mv (.tmp 0)⟩,
    ⟨some 40, none, .call 33 [(.tmp 39)]⟩,
    ⟨some 38, none, .mv (.tmp 40)⟩,
    ⟨some 41, none, .ext (.tmp 38) 0⟩,
    ⟨some 42, none, .ext (.tmp 38) 1⟩,
    ⟨some 11, none, .mv (.tmp 41)⟩,
    ⟨some 12, none, .mv (.tmp 42)⟩])
  (.seq (.ops [⟨some 44, none, .mv (.tmp 0)⟩,
    ⟨some 45, none, .call 41 [(.tmp 44)]⟩,
    ⟨some 43, none, .mv (.tmp 45)⟩,
    ⟨some 46, none, .ext (.tmp 43) 0⟩,
    ⟨some 47, none, .ext (.tmp 43) 1⟩,
    ⟨some 13, none, .mv (.tmp 46)⟩,
    ⟨some 14, none, .mv (.tmp 47)⟩])
  (.seq (.ops [⟨some 49, none, .mv (.tmp 0)⟩,
    ⟨some 50, none, .call 35 [(.tmp 49)]⟩,
    ⟨some 48, none, .mv (.tmp 50)⟩,
    ⟨some 51, none, .ext (.tmp 48) 0⟩,
    ⟨some 52, none, .ext (.tmp 48) 1⟩,
    ⟨some 15, none, .mv (.tmp 51)⟩,
    ⟨some 16, none, .mv (.tmp 52)⟩])
  (.seq (.ops [⟨some 54, none, .mv (.tmp 0)⟩,
    ⟨some 55, none, .call 42 [(.tmp 54)]⟩,
    ⟨some 53, none, .mv (.tmp 55)⟩,
    ⟨some 56, none, .ext (.tmp 53) 0⟩,
    ⟨some 57, none, .ext (.tmp 53) 1⟩,
    ⟨some 17, none, .mv (.tmp 56)⟩,
    ⟨some 18, none, .mv (.tmp 57)⟩])
  (.seq (.seq (.ops [⟨some 58, none, .mv (.tmp 7)⟩,
    ⟨some 59, none, .mv (.tmp 9)⟩,
    ⟨some 60, none, .eq .bool true (.tmp 58) (.tmp 59)⟩,
    ⟨some 61, none, .mv (.tmp 60)⟩,
    ⟨some 62, some (61, false), .mv (.tmp 8)⟩,
    ⟨some 63, some (61, false), .call 19 [(.tmp 62)]⟩,
    ⟨some 64, some (61, false), .mv (.tmp 10)⟩,
    ⟨some 65, some (61, false), .bin .neq (.tmp 63) (.tmp 64)⟩,
    ⟨some 66, none, .pick (.tmp 61) (.const (.bool true)) (.tmp 65)⟩,
    ⟨some 67, none, .mv (.tmp 66)⟩,
    ⟨some 68, some (67, false), .mv (.tmp 11)⟩,
    ⟨some 69, some (67, false), .mv (.tmp 13)⟩,
    ⟨some 70, some (67, false), .bin .neq (.tmp 68) (.tmp 69)⟩,
    ⟨some 71, none, .pick (.tmp 67) (.const (.bool true)) (.tmp 70)⟩,
    ⟨some 72, none, .mv (.tmp 71)⟩,
    ⟨some 73, some (72, false), .mv (.tmp 12)⟩,
    ⟨some 74, some (72, false), .call 19 [(.tmp 73)]⟩,
    ⟨some 75, some (72, false), .mv (.tmp 14)⟩,
    ⟨some 76, some (72, false), .bin .neq (.tmp 74) (.tmp 75)⟩,
    ⟨some 77, none, .pick (.tmp 72) (.const (.bool true)) (.tmp 76)⟩,
    ⟨some 78, none, .mv (.tmp 77)⟩,
    ⟨some 79, some (78, false), .mv (.tmp 15)⟩,
    ⟨some 80, some (78, false), .mv (.tmp 17)⟩,
    ⟨some 81, some (78, false), .call 37 [(.tmp 79), (.tmp 80)]⟩,
    ⟨some 82, some (78, false), .un .not (.tmp 81)⟩,
    ⟨some 83, none, .pick (.tmp 78) (.const (.bool true)) (.tmp 82)⟩,
    ⟨some 84, none, .mv (.tmp 83)⟩,
    ⟨some 85, some (84, false), .mv (.tmp 16)⟩,
    ⟨some 86, some (84, false), .call 19 [(.tmp 85)]⟩,
    ⟨some 87, some (84, false), .mv (.tmp 18)⟩,
    ⟨some 88, some (84, false), .bin .neq (.tmp 86) (.tmp 87)⟩,
    ⟨some 89, none, .pick (.tmp 84) (.const (.bool true)) (.tmp 88)⟩])
  (.cond (.tmp 89)
    (.seq (.ops [⟨some 6, none, .mv (.const (.bool false))⟩])
    .ret)
    .skip))
  (.seq (.ops [⟨some 90, none, .mv (.tmp 1)⟩,
    ⟨some 91, none, .call 34 [(.tmp 90)]⟩,
    ⟨some 92, none, .mv (.tmp 1)⟩,
    ⟨some 93, none, .call 43 [(.tmp 92)]⟩,
    ⟨some 94, none, .call 18 [(.tmp 91), (.tmp 93)]⟩,
    ⟨some 95, none, .mv (.tmp 94)⟩,
    ⟨some 96, some (95, true), .mv (.tmp 2)⟩,
    ⟨some 97, some (95, true), .call 36 [(.tmp 96)]⟩,
    ⟨some 98, some (95, true), .mv (.tmp 2)⟩,
    ⟨some 99, some (95, true), .call 44 [(.tmp 98)]⟩,
    ⟨some 100, some (95, true), .call 18 [(.tmp 97), (.tmp 99)]⟩,
    ⟨some 101, none, .pick (.tmp 95) (.tmp 100) (.const (.bool false))⟩,
    ⟨some 102, none, .mv (.tmp 101)⟩,
    ⟨some 103, some (102, true), .call 12 []⟩,
    ⟨some 104, none, .pick (.tmp 102) (.tmp 103) (.const (.bool false))⟩,
    ⟨some 6, none, .mv (.tmp 104)⟩])
  .ret))))))))))⟩
theorem h10 : strF Tryd.prog [] Tryd.f10 = some c10 := by kernel_rfl

/-- chirograph/chirographlaw04.DerWhole -/
def c11 : Fun := ⟨122, [.inl 2],
  (.seq (.ops [⟨some 2, none, .mv (.const (.bool false))⟩])
  (.seq (.seq (.ops [⟨some 12, none, .mv (.tmp 0)⟩,
    ⟨some 13, none, .len (.tmp 12)⟩,
    ⟨some 14, none, .bin .gtr (.tmp 13) (.const (.int .i64 4000))⟩,
    ⟨some 15, none, .mv (.tmp 14)⟩,
    ⟨some 16, some (15, false), .mv (.tmp 0)⟩,
    ⟨some 17, some (15, false), .call 45 [(.tmp 16)]⟩,
    ⟨some 18, some (15, false), .un .not (.tmp 17)⟩,
    ⟨some 19, none, .pick (.tmp 15) (.const (.bool true)) (.tmp 18)⟩])
  (.cond (.tmp 19)
    (.seq (.ops [⟨some 20, none, .call 12 []⟩,
      ⟨some 2, none, .mv (.tmp 20)⟩])
    .ret)
    .skip))
  (.seq (.ops [⟨some 21, none, .mv (.tmp 0)⟩,
    ⟨some 22, none, .bsl 22 1 1 #[(.slice none 0 0)] [(0, (.tmp 21))]⟩,
    ⟨some 3, none, .mv (.tmp 22)⟩])
  (.seq (.seq (.ops [⟨some 4, none, .mv (.const (.int .i64 0))⟩])
  (.block 0
    (.loop
      (.seq (.seq (.ops [⟨some 23, none, .mv (.tmp 4)⟩,
        ⟨some 24, none, .mv (.tmp 3)⟩,
        ⟨some 25, none, .len (.tmp 24)⟩,
        ⟨some 26, none, .bin .lss (.tmp 23) (.tmp 25)⟩])
      (.cond (.tmp 26)
        .skip
        (.exit 0)))
      (.seq (.block 1
        (.seq (.ops [⟨some 30, none, .mv (.tmp 3)⟩,
          ⟨some 31, none, .mv (.tmp 4)⟩,
          ⟨some 32, none, .ia 1 (.tmp 30) (.tmp 31)⟩,
          ⟨some 33, none, .ld .slice (.tmp 32)⟩,
          ⟨some 34, none, .call 25 [(.tmp 33)]⟩,
          ⟨some 29, none, .mv (.tmp 34)⟩,
          ⟨some 35, none, .ext (.tmp 29) 0⟩,
          ⟨some 36, none, .ext (.tmp 29) 1⟩,
          ⟨some 37, none, .ext (.tmp 29) 2⟩,
          ⟨some 5, none, .mv (.tmp 35)⟩,
          ⟨some 6, none, .mv (.tmp 36)⟩,
          ⟨some 7, none, .mv (.tmp 37)⟩])
        (.seq (.seq (.ops [⟨some 38, none, .mv (.tmp 6)⟩,
          ⟨some 39, none, .call 19 [(.tmp 38)]⟩,
          ⟨some 40, none, .bin .neq (.tmp 39) (.const (.int .i64 0))⟩,
          ⟨some 41, none, .mv (.tmp 40)⟩,
          ⟨some 42, some (41, false), .mv (.tmp 4)⟩,
          ⟨some 43, some (41, false), .bin .eql (.tmp 42) (.const (.int .i64 0))⟩,
          ⟨some 44, some (41, false), .mv (.tmp 43)⟩,
          ⟨some 45, some (44, true), .mv (.tmp 5)⟩,
          ⟨some 46, some (44, true), .len (.tmp 45)⟩,
          ⟨some 47, some (44, true), .bin .neq (.tmp 46) (.const (.int .i64 1))⟩,
          ⟨some 48, some (41, false), .pick (.tmp 44) (.tmp 47) (.const (.bool false))⟩,
          ⟨some 49, none, .pick (.tmp 41) (.const (.bool true)) (.tmp 48)⟩])
        (.cond (.tmp 49)
          (.seq (.ops [⟨some 2, none, .mv (.const (.bool false))⟩])
          .ret)
          .skip))
        (.seq (.ops [⟨some 8, none, .mv (.const (.slice none 0 0))⟩])
        (.seq (.seq (.ops [⟨some 9, none, .mv (.const (.int .i64 0))⟩])
        (.block 2
          (.loop
            (.seq (.seq (.ops [⟨some 50, none, .mv (.tmp 9)⟩,
              ⟨some 51, none, .mv (.tmp 5)⟩,
              ⟨some 52, none, .len (.tmp 51)⟩,
              ⟨some 53, none, .bin .lss (.tmp 50) (.tmp 52)⟩])
            (.cond (.tmp 53)
              .skip
              (.exit 2)))
            (.join (.block 3
              (.seq (.drawT (.st 0 0 (.st 0 1 (.st 0 2 (.st 0 3 (.st 0 5 (.st 0 6 (.st 0 7 (.st 0 8 (.st 0 10 (.st 0 11 (.st 0 12 (.st 0 13 (.st 0 15 (.st 0 16 (.st 0 17 (.st 0 18 (.st 1 19 (.st 3 4 (.st 3 9 (.st 3 14 (.cov (.one 20 (.cov (.one 21 (.st 0 22 (.st 0 23 (.st 0 24 (.st 0 25 (.st 0 26 .nil)))))))))))))))))))))))))))))
                [⟨some 57, none, .mv (.tmp 5)⟩,
                  ⟨some 58, none, .mv (.tmp 9)⟩,
                  ⟨some 59, none, .ia 5 (.tmp 57) (.tmp 58)⟩,
                  ⟨some 60, none, .fa 0 (.tmp 59)⟩,
                  ⟨some 61, none, .ld (.int .i64) (.tmp 60)⟩,
                  ⟨some 62, none, .mv (.tmp 5)⟩,
                  ⟨some 63, none, .mv (.tmp 9)⟩,
                  ⟨some 64, none, .ia 5 (.tmp 62) (.tmp 63)⟩,
                  ⟨some 65, none, .fa 1 (.tmp 64)⟩,
                  ⟨some 66, none, .ld (.int .i64) (.tmp 65)⟩,
                  ⟨some 67, none, .mv (.tmp 5)⟩,
                  ⟨some 68, none, .mv (.tmp 9)⟩,
                  ⟨some 69, none, .ia 5 (.tmp 67) (.tmp 68)⟩,
                  ⟨some 70, none, .fa 2 (.tmp 69)⟩,
                  ⟨some 71, none, .ld .bool (.tmp 70)⟩,
                  ⟨some 72, none, .mv (.tmp 5)⟩,
                  ⟨some 73, none, .mv (.tmp 9)⟩,
                  ⟨some 74, none, .ia 5 (.tmp 72) (.tmp 73)⟩,
                  ⟨some 75, none, .fa 3 (.tmp 74)⟩,
                  ⟨some 76, none, .ld .slice (.tmp 75)⟩,
                  ⟨some 77, none, .bsl 22 1 1 #[(.slice none 0 0)] [(0, (.tmp 76))]⟩,
                  ⟨some 78, none, .call 31 [(.tmp 61), (.tmp 66), (.tmp 71), (.tmp 77)]⟩,
                  ⟨some 56, none, .mv (.tmp 78)⟩,
                  ⟨some 79, none, .ext (.tmp 56) 0⟩,
                  ⟨some 80, none, .ext (.tmp 56) 1⟩,
                  ⟨some 10, none, .mv (.tmp 79)⟩,
                  ⟨some 11, none, .mv (.tmp 80)⟩])
              (.seq (.seq (.ops [⟨some 81, none, .mv (.tmp 11)⟩,
                ⟨some 82, none, .call 19 [(.tmp 81)]⟩,
                ⟨some 83, none, .bin .neq (.tmp 82) (.const (.int .i64 0))⟩,
                ⟨some 84, none, .mv (.tmp 83)⟩,
                ⟨some 85, some (84, false), .mv (.tmp 10)⟩,
                ⟨some 86, some (84, false), .mv (.tmp 5)⟩,
                ⟨some 87, some (84, false), .mv (.tmp 9)⟩,
                ⟨some 88, some (84, false), .ia 5 (.tmp 86) (.tmp 87)⟩,
                ⟨some 89, some (84, false), .fa 4 (.tmp 88)⟩,
                ⟨some 90, some (84, false), .ld .slice (.tmp 89)⟩,
                ⟨some 91, some (84, false), .call 18 [(.tmp 85), (.tmp 90)]⟩,
                ⟨some 92, some (84, false), .un .not (.tmp 91)⟩,
                ⟨some 93, none, .pick (.tmp 84) (.const (.bool true)) (.tmp 92)⟩])
              (.cond (.tmp 93)
                (.seq (.ops [⟨some 2, none, .mv (.const (.bool false))⟩])
                .ret)
                .skip))
              (.seq (.ops [⟨some 94, none, .mv (.tmp 8)⟩,
                ⟨some 95, none, .mv (.tmp 5)⟩,
                ⟨some 96, none, .mv (.tmp 9)⟩,
                ⟨some 97, none, .ia 5 (.tmp 95) (.tmp 96)⟩,
                ⟨some 98, none, .fa 4 (.tmp 97)⟩,
                ⟨some 99, none, .ld .slice (.tmp 98)⟩,
                ⟨some 100, none, .app 5 1 1 #[(.int .u8 0)] (.tmp 94) (.tmp 99)⟩,
                ⟨some 8, none, .mv (.tmp 100)⟩])
              (.seq (.ops [⟨some 101, none, .mv (.tmp 5)⟩,
                ⟨some 102, none, .mv (.tmp 9)⟩,
                ⟨some 103, none, .ia 5 (.tmp 101) (.tmp 102)⟩,
                ⟨some 104, none, .fa 2 (.tmp 103)⟩,
                ⟨some 105, none, .ld .bool (.tmp 104)⟩])
              (.cond (.tmp 105)
                (.ops [⟨some 106, none, .mv (.tmp 3)⟩,
                  ⟨some 107, none, .mv (.tmp 5)⟩,
                  ⟨some 108, none, .mv (.tmp 9)⟩,
                  ⟨some 109, none, .ia 5 (.tmp 107) (.tmp 108)⟩,
                  ⟨some 110, none, .fa 3 (.tmp 109)⟩,
                  ⟨some 111, none, .ld .slice (.tmp 110)⟩,
                  ⟨some 112, none, .bsl 22 1 1 #[(.slice none 0 0)] [(0, (.tmp 111))]⟩,
                  ⟨some 113, none, .app 22 1 24 #[(.slice none 0 0)] (.tmp 106) (.tmp 112)⟩,
                  ⟨some 3, none, .mv (.tmp 113)⟩])
                .skip))))))
            (.ops [⟨some 54, none, .mv (.tmp 9)⟩,
              ⟨some 55, none, .bin .add (.tmp 54) (.const (.int .i64 1))⟩,
              ⟨some 9, none, .mv (.tmp 55)⟩]))))))
        (.seq (.ops [⟨some 114, none, .mv (.tmp 8)⟩,
          ⟨some 115, none, .mv (.tmp 3)⟩,
          ⟨some 116, none, .mv (.tmp 4)⟩,
          ⟨some 117, none, .ia 1 (.tmp 115) (.tmp 116)⟩,
          ⟨some 118, none, .ld .slice (.tmp 117)⟩,
          ⟨some 119, none, .call 18 [(.tmp 114), (.tmp 118)]⟩,
          ⟨some 120, none, .un .not (.tmp 119)⟩])
        (.cond (.tmp 120)
          (.seq (.ops [⟨some 2, none, .mv (.const (.bool false))⟩])
          .ret)
          .skip)))))))
      (.ops [⟨some 27, none, .mv (.tmp 4)⟩,
        ⟨some 28, none, .bin .add (.tmp 27) (.const (.int .i64 1))⟩,
        ⟨some 4, none, .mv (.tmp 28)⟩]))))))
  (.seq (.ops [⟨some 121, none, .call 12 []⟩,
    ⟨some 2, none, .mv (.tmp 121)⟩])
  .ret)))))⟩
theorem h11 : strF Tryd.prog [(14, .inr (.st 0 0 (.st 0 1 (.st 0 2 (.st 0 3 (.st 0 5 (.st 0 6 (.st 0 7 (.st 0 8 (.st 0 10 (.st 0 11 (.st 0 12 (.st 0 13 (.st 0 15 (.st 0 16 (.st 0 17 (.st 0 18 (.st 1 19 (.st 3 4 (.st 3 9 (.st 3 14 (.cov (.one 20 (.cov (.one 21 (.st 0 22 (.st 0 23 (.st 0 24 (.st 0 25 (.st 0 26 .nil))))))))))))))))))))))))))))))] Tryd.f11 = some c11 := by kernel_rfl

/-- chirograph/chirographlaw04.live -/
def c12 : Fun := ⟨112, [.inl 0],
  (.seq (.ops [⟨some 0, none, .mv (.const (.bool false))⟩])
  (.seq (.ops [⟨some 15, none, .bsl 5 1 7 #[(.int .u8 0)] [(0, (.const (.int .u8 2))), (1, (.const (.int .u8 1))), (2, (.const (.int .u8 5))), (3, (.const (.int .u8 48))), (4, (.const (.int .u8 2))), (5, (.const (.int .u8 5))), (6, (.const (.int .u8 0)))]⟩,
    ⟨some 16, none, .call 25 [(.tmp 15)]⟩,
    ⟨some 14, none, .mv (.tmp 16)⟩,
    ⟨some 17, none, .ext (.tmp 14) 0⟩,
    ⟨some 18, none, .ext (.tmp 14) 1⟩,
    ⟨some 19, none, .ext (.tmp 14) 2⟩,
    ⟨some 1, none, .mv (.tmp 17)⟩,
    ⟨some 2, none, .mv (.tmp 18)⟩,
    ⟨some 3, none, .mv (.tmp 19)⟩])
  (.seq (.seq (.ops [⟨some 20, none, .mv (.tmp 2)⟩,
    ⟨some 21, none, .call 19 [(.tmp 20)]⟩,
    ⟨some 22, none, .bin .neq (.tmp 21) (.const (.int .i64 0))⟩,
    ⟨some 23, none, .mv (.tmp 22)⟩,
    ⟨some 24, some (23, false), .mv (.tmp 3)⟩,
    ⟨some 25, some (23, false), .bin .neq (.tmp 24) (.const (.int .i64 7))⟩,
    ⟨some 26, none, .pick (.tmp 23) (.const (.bool true)) (.tmp 25)⟩,
    ⟨some 27, none, .mv (.tmp 26)⟩,
    ⟨some 28, some (27, false), .mv (.tmp 1)⟩,
    ⟨some 29, some (27, false), .len (.tmp 28)⟩,
    ⟨some 30, some (27, false), .bin .neq (.tmp 29) (.const (.int .i64 2))⟩,
    ⟨some 31, none, .pick (.tmp 27) (.const (.bool true)) (.tmp 30)⟩,
    ⟨some 32, none, .mv (.tmp 31)⟩,
    ⟨some 33, some (32, false), .mv (.tmp 1)⟩,
    ⟨some 34, some (32, false), .ia 5 (.tmp 33) (.const (.int .i64 0))⟩,
    ⟨some 35, some (32, false), .fa 1 (.tmp 34)⟩,
    ⟨some 36, some (32, false), .ld (.int .i64) (.tmp 35)⟩,
    ⟨some 37, some (32, false), .bin .neq (.tmp 36) (.const (.int .i64 2))⟩,
    ⟨some 38, none, .pick (.tmp 32) (.const (.bool true)) (.tmp 37)⟩,
    ⟨some 39, none, .mv (.tmp 38)⟩,
    ⟨some 40, some (39, false), .mv (.tmp 1)⟩,
    ⟨some 41, some (39, false), .ia 5 (.tmp 40) (.const (.int .i64 1))⟩,
    ⟨some 42, some (39, false), .fa 3 (.tmp 41)⟩,
    ⟨some 43, some (39, false), .ld .slice (.tmp 42)⟩,
    ⟨some 44, some (39, false), .cvbs (.tmp 43)⟩,
    ⟨some 45, some (39, false), .bin .neq (.tmp 44) (.const (.string ⟨#[5, 0]⟩))⟩,
    ⟨some 46, none, .pick (.tmp 39) (.const (.bool true)) (.tmp 45)⟩,
    ⟨some 47, none, .mv (.tmp 46)⟩,
    ⟨some 48, some (47, false), .mv (.tmp 1)⟩,
    ⟨some 49, some (47, false), .ia 5 (.tmp 48) (.const (.int .i64 1))⟩,
    ⟨some 50, some (47, false), .fa 2 (.tmp 49)⟩,
    ⟨some 51, some (47, false), .ld .bool (.tmp 50)⟩,
    ⟨some 52, some (47, false), .un .not (.tmp 51)⟩,
    ⟨some 53, none, .pick (.tmp 47) (.const (.bool true)) (.tmp 52)⟩])
  (.cond (.tmp 53)
    (.seq (.ops [⟨some 0, none, .mv (.const (.bool false))⟩])
    .ret)
    .skip))
  (.seq (.ops [⟨some 55, none, .bsl 5 1 2 #[(.int .u8 0)] [(0, (.const (.int .u8 255))), (1, (.const (.int .u8 127)))]⟩,
    ⟨some 56, none, .call 33 [(.tmp 55)]⟩,
    ⟨some 54, none, .mv (.tmp 56)⟩,
    ⟨some 57, none, .ext (.tmp 54) 0⟩,
    ⟨some 58, none, .ext (.tmp 54) 1⟩,
    ⟨some 4, none, .mv (.tmp 57)⟩,
    ⟨some 5, none, .mv (.tmp 58)⟩])
  (.seq (.ops [⟨some 60, none, .bsl 5 1 3 #[(.int .u8 0)] [(0, (.const (.int .u8 42))), (1, (.const (.int .u8 134))), (2, (.const (.int .u8 72)))]⟩,
    ⟨some 61, none, .call 21 [(.tmp 60)]⟩,
    ⟨some 59, none, .mv (.tmp 61)⟩,
    ⟨some 62, none, .ext (.tmp 59) 0⟩,
    ⟨some 63, none, .ext (.tmp 59) 1⟩,
    ⟨some 6, none, .mv (.tmp 62)⟩,
    ⟨some 7, none, .mv (.tmp 63)⟩])
  (.seq (.ops [⟨some 65, none, .call 23 [(.const (.string ⟨#[50, 46, 57, 57, 57]⟩))]⟩,
    ⟨some 64, none, .mv (.tmp 65)⟩,
    ⟨some 66, none, .ext (.tmp 64) 0⟩,
    ⟨some 67, none, .ext (.tmp 64) 1⟩,
    ⟨some 8, none, .mv (.tmp 66)⟩,
    ⟨some 9, none, .mv (.tmp 67)⟩])
  (.seq (.ops [⟨some 69, none, .bsl 5 1 2 #[(.int .u8 0)] [(0, (.const (.int .u8 5))), (1, (.const (.int .u8 160)))]⟩,
    ⟨some 70, none, .call 16 [(.tmp 69)]⟩,
    ⟨some 68, none, .mv (.tmp 70)⟩,
    ⟨some 71, none, .ext (.tmp 68) 0⟩,
    ⟨some 72, none, .ext (.tmp 68) 1⟩,
    ⟨some 10, none, .mv (.tmp 71)⟩,
    ⟨some 11, none, .mv (.tmp 72)⟩])
  (.seq (.ops [⟨some 74, none, .bsl 5 1 1 #[(.int .u8 0)] [(0, (.const (.int .u8 128)))]⟩,
    ⟨some 75, none, .call 35 [(.tmp 74)]⟩,
    ⟨some 73, none, .mv (.tmp 75)⟩,
    ⟨some 76, none, .ext (.tmp 73) 0⟩,
    ⟨some 77, none, .ext (.tmp 73) 1⟩,
    ⟨some 12, none, .mv (.tmp 76)⟩,
    ⟨some 13, none, .mv (.tmp 77)⟩])
  (.seq (.ops [⟨some 78, none, .mv (.tmp 5)⟩,
    ⟨some 79, none, .call 19 [(.tmp 78)]⟩,
    ⟨some 80, none, .mv (.tmp 7)⟩,
    ⟨some 81, none, .call 19 [(.tmp 80)]⟩,
    ⟨some 82, none, .bin .add (.tmp 79) (.tmp 81)⟩,
    ⟨some 83, none, .mv (.tmp 9)⟩,
    ⟨some 84, none, .call 19 [(.tmp 83)]⟩,
    ⟨some 85, none, .bin .add (.tmp 82) (.tmp 84)⟩,
    ⟨some 86, none, .mv (.tmp 11)⟩,
    ⟨some 87, none, .call 19 [(.tmp 86)]⟩,
    ⟨some 88, none, .bin .add (.tmp 85) (.tmp 87)⟩,
    ⟨some 89, none, .bin .eql (.tmp 88) (.const (.int .i64 0))⟩,
    ⟨some 90, none, .mv (.tmp 89)⟩,
    ⟨some 91, some (90, true), .mv (.tmp 4)⟩,
    ⟨some 92, some (90, true), .bin .eql (.tmp 91) (.const (.int .i64 (-129)))⟩,
    ⟨some 93, none, .pick (.tmp 90) (.tmp 92) (.const (.bool false))⟩,
    ⟨some 94, none, .mv (.tmp 93)⟩,
    ⟨some 95, some (94, true), .mv (.tmp 6)⟩,
    ⟨some 96, some (94, true), .bin .eql (.tmp 95) (.const (.string ⟨#[49, 46, 50, 46, 56, 52, 48]⟩))⟩,
    ⟨some 97, none, .pick (.tmp 94) (.tmp 96) (.const (.bool false))⟩,
    ⟨some 98, none, .mv (.tmp 97)⟩,
    ⟨some 99, some (98, true), .mv (.tmp 8)⟩,
    ⟨some 100, some (98, true), .cvbs (.tmp 99)⟩,
    ⟨some 101, some (98, true), .bin .eql (.tmp 100) (.const (.string ⟨#[136, 55]⟩))⟩,
    ⟨some 102, none, .pick (.tmp 98) (.tmp 101) (.const (.bool false))⟩,
    ⟨some 103, none, .mv (.tmp 102)⟩,
    ⟨some 104, some (103, true), .mv (.tmp 10)⟩,
    ⟨some 105, some (103, true), .bin .eql (.tmp 104) (.const (.int .u32 5))⟩,
    ⟨some 106, none, .pick (.tmp 103) (.tmp 105) (.const (.bool false))⟩,
    ⟨some 107, none, .mv (.tmp 106)⟩,
    ⟨some 108, some (107, true), .mv (.tmp 13)⟩,
    ⟨some 109, some (107, true), .call 19 [(.tmp 108)]⟩,
    ⟨some 110, some (107, true), .bin .eql (.tmp 109) (.const (.int .i64 40))⟩,
    ⟨some 111, none, .pick (.tmp 107) (.tmp 110) (.const (.bool false))⟩,
    ⟨some 0, none, .mv (.tmp 111)⟩])
  .ret)))))))))⟩
theorem h12 : strF Tryd.prog [] Tryd.f12 = some c12 := by kernel_rfl

/-- chirograph/chirographlaw04.num -/
def c19 : Fun := ⟨4, [.inl 2],
  (.seq (.ops [⟨some 2, none, .mv (.const (.int .i64 0))⟩])
  (.seq (.ops [⟨some 3, none, .mv (.tmp 0)⟩,
    ⟨some 2, none, .mv (.tmp 3)⟩])
  .ret))⟩
theorem h19 : strF Tryd.prog [] Tryd.f19 = some c19 := by kernel_rfl

end Go.Proofs.YtcflokckfjkdpaaDoor.Code
