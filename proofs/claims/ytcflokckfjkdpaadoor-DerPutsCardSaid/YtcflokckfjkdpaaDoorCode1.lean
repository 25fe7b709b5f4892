/- The functions as the engine has them: by program, out of the translation. -/
import Derived.Test.YtcflokckfjkdpaaDoorEngE
import Derived.Test.YtcflokckfjkdpaaDoorProg
set_option maxRecDepth 100000
namespace Go.Proofs.YtcflokckfjkdpaaDoor.Code
open Go Go.Proofs Go.Proofs.YtcflokckfjkdpaaDoor.Eng

/-- chirograph/chirographref04.arcs -/
def c51 : Fun := ⟨94, [.inl 2, .inl 3],
  (.seq (.ops [⟨some 2, none, .mv (.const (.slice none 0 0))⟩,
    ⟨some 3, none, .mv (.const (.bool false))⟩])
  (.seq (.ops [⟨some 4, none, .mv (.const (.slice none 0 0))⟩])
  (.seq (.ops [⟨some 5, none, .mv (.const (.int .i64 0))⟩])
  (.seq (.seq (.ops [⟨some 6, none, .mv (.const (.int .i64 0))⟩])
  (.block 0
    (.loop
      (.seq (.seq (.ops [⟨some 9, none, .mv (.tmp 6)⟩,
        ⟨some 10, none, .mv (.tmp 0)⟩,
        ⟨some 11, none, .lens (.tmp 10)⟩,
        ⟨some 12, none, .bin .leq (.tmp 9) (.tmp 11)⟩])
      (.cond (.tmp 12)
        .skip
        (.exit 0)))
      (.join (.block 1
        (.seq (.seq (.ops [⟨some 15, none, .mv (.tmp 6)⟩,
          ⟨some 16, none, .mv (.tmp 0)⟩,
          ⟨some 17, none, .lens (.tmp 16)⟩,
          ⟨some 18, none, .bin .lss (.tmp 15) (.tmp 17)⟩,
          ⟨some 19, none, .mv (.tmp 18)⟩,
          ⟨some 20, some (19, true), .mv (.tmp 0)⟩,
          ⟨some 21, some (19, true), .mv (.tmp 6)⟩,
          ⟨some 22, some (19, true), .ixs (.tmp 20) (.tmp 21)⟩,
          ⟨some 23, some (19, true), .bin .neq (.tmp 22) (.const (.int .u8 46))⟩,
          ⟨some 24, none, .pick (.tmp 19) (.tmp 23) (.const (.bool false))⟩])
        (.cond (.tmp 24)
          (.seq (.seq (.ops [⟨some 25, none, .mv (.tmp 0)⟩,
            ⟨some 26, none, .mv (.tmp 6)⟩,
            ⟨some 27, none, .ixs (.tmp 25) (.tmp 26)⟩,
            ⟨some 28, none, .bin .lss (.tmp 27) (.const (.int .u8 48))⟩,
            ⟨some 29, none, .mv (.tmp 28)⟩,
            ⟨some 30, some (29, false), .mv (.tmp 0)⟩,
            ⟨some 31, some (29, false), .mv (.tmp 6)⟩,
            ⟨some 32, some (29, false), .ixs (.tmp 30) (.tmp 31)⟩,
            ⟨some 33, some (29, false), .bin .gtr (.tmp 32) (.const (.int .u8 57))⟩,
            ⟨some 34, none, .pick (.tmp 29) (.const (.bool true)) (.tmp 33)⟩])
          (.cond (.tmp 34)
            (.seq (.ops [⟨some 2, none, .mv (.const (.slice none 0 0))⟩,
              ⟨some 3, none, .mv (.const (.bool false))⟩])
            .ret)
            .skip))
          (.exit 1))
          .skip))
        (.seq (.seq (.ops [⟨some 35, none, .mv (.tmp 6)⟩,
          ⟨some 36, none, .mv (.tmp 5)⟩,
          ⟨some 37, none, .bin .eql (.tmp 35) (.tmp 36)⟩,
          ⟨some 38, none, .mv (.tmp 37)⟩,
          ⟨some 39, some (38, false), .mv (.tmp 0)⟩,
          ⟨some 40, some (38, false), .mv (.tmp 5)⟩,
          ⟨some 41, some (38, false), .ixs (.tmp 39) (.tmp 40)⟩,
          ⟨some 42, some (38, false), .bin .eql (.tmp 41) (.const (.int .u8 48))⟩,
          ⟨some 43, some (38, false), .mv (.tmp 42)⟩,
          ⟨some 44, some (43, true), .mv (.tmp 6)⟩,
          ⟨some 45, some (43, true), .mv (.tmp 5)⟩,
          ⟨some 46, some (43, true), .bin .add (.tmp 45) (.const (.int .i64 1))⟩,
          ⟨some 47, some (43, true), .bin .gtr (.tmp 44) (.tmp 46)⟩,
          ⟨some 48, some (38, false), .pick (.tmp 43) (.tmp 47) (.const (.bool false))⟩,
          ⟨some 49, none, .pick (.tmp 38) (.const (.bool true)) (.tmp 48)⟩])
        (.cond (.tmp 49)
          (.seq (.ops [⟨some 2, none, .mv (.const (.slice none 0 0))⟩,
            ⟨some 3, none, .mv (.const (.bool false))⟩])
          .ret)
          .skip))
        (.seq (.ops [⟨some 7, none, .mv (.const (.int .i64 0))⟩])
        (.seq (.seq (.ops [⟨some 50, none, .mv (.tmp 5)⟩,
          ⟨some 8, none, .mv (.tmp 50)⟩])
        (.block 2
          (.loop
            (.seq (.seq (.ops [⟨some 51, none, .mv (.tmp 8)⟩,
              ⟨some 52, none, .mv (.tmp 6)⟩,
              ⟨some 53, none, .bin .lss (.tmp 51) (.tmp 52)⟩])
            (.cond (.tmp 53)
              .skip
              (.exit 2)))
            (.join (.block 3
              (.seq (.ops [⟨some 56, none, .mv (.tmp 7)⟩,
                ⟨some 57, none, .bin .mul (.tmp 56) (.const (.int .i64 10))⟩,
                ⟨some 58, none, .mv (.tmp 0)⟩,
                ⟨some 59, none, .mv (.tmp 8)⟩,
                ⟨some 60, none, .ixs (.tmp 58) (.tmp 59)⟩,
                ⟨some 61, none, .bin .sub (.tmp 60) (.const (.int .u8 48))⟩,
                ⟨some 62, none, .cv .i64 (.tmp 61)⟩,
                ⟨some 63, none, .bin .add (.tmp 57) (.tmp 62)⟩,
                ⟨some 7, none, .mv (.tmp 63)⟩])
              (.seq (.ops [⟨some 64, none, .mv (.tmp 7)⟩,
                ⟨some 65, none, .bin .gtr (.tmp 64) (.const (.int .i64 1099511627776))⟩])
              (.cond (.tmp 65)
                (.ops [⟨some 7, none, .mv (.const (.int .i64 1099511627776))⟩])
                .skip))))
            (.ops [⟨some 54, none, .mv (.tmp 8)⟩,
              ⟨some 55, none, .bin .add (.tmp 54) (.const (.int .i64 1))⟩,
              ⟨some 8, none, .mv (.tmp 55)⟩]))))))
        (.seq (.ops [⟨some 66, none, .mv (.tmp 4)⟩,
          ⟨some 67, none, .mv (.tmp 7)⟩,
          ⟨some 68, none, .bsl 3 1 1 #[(.int .i64 0)] [(0, (.tmp 67))]⟩,
          ⟨some 69, none, .app 3 1 8 #[(.int .i64 0)] (.tmp 66) (.tmp 68)⟩,
          ⟨some 4, none, .mv (.tmp 69)⟩])
        (.ops [⟨some 70, none, .mv (.tmp 6)⟩,
          ⟨some 71, none, .bin .add (.tmp 70) (.const (.int .i64 1))⟩,
          ⟨some 5, none, .mv (.tmp 71)⟩])))))))
      (.ops [⟨some 13, none, .mv (.tmp 6)⟩,
        ⟨some 14, none, .bin .add (.tmp 13) (.const (.int .i64 1))⟩,
        ⟨some 6, none, .mv (.tmp 14)⟩]))))))
  (.seq (.draw 24 [⟨some 72, none, .mv (.tmp 4)⟩,
    ⟨some 73, none, .mv (.tmp 4)⟩,
    ⟨some 74, none, .len (.tmp 73)⟩,
    ⟨some 75, none, .bin .geq (.tmp 74) (.const (.int .i64 2))⟩,
    ⟨some 76, none, .mv (.tmp 75)⟩,
    ⟨some 77, some (76, true), .mv (.tmp 4)⟩,
    ⟨some 78, some (76, true), .ia 1 (.tmp 77) (.const (.int .i64 0))⟩,
    ⟨some 79, some (76, true), .ld (.int .i64) (.tmp 78)⟩,
    ⟨some 80, some (76, true), .bin .leq (.tmp 79) (.const (.int .i64 2))⟩,
    ⟨some 81, none, .pick (.tmp 76) (.tmp 80) (.const (.bool false))⟩,
    ⟨some 82, none, .mv (.tmp 81)⟩,
    ⟨some 83, some (82, true), .mv (.tmp 4)⟩,
    ⟨some 84, some (82, true), .ia 1 (.tmp 83) (.const (.int .i64 0))⟩,
    ⟨some 85, some (82, true), .ld (.int .i64) (.tmp 84)⟩,
    ⟨some 86, some (82, true), .bin .eql (.tmp 85) (.const (.int .i64 2))⟩,
    ⟨some 87, some (82, true), .mv (.tmp 86)⟩,
    ⟨some 88, some (87, false), .mv (.tmp 4)⟩,
    ⟨some 89, some (87, false), .ia 1 (.tmp 88) (.const (.int .i64 1))⟩,
    ⟨some 90, some (87, false), .ld (.int .i64) (.tmp 89)⟩,
    ⟨some 91, some (87, false), .bin .lss (.tmp 90) (.const (.int .i64 40))⟩,
    ⟨some 92, some (82, true), .pick (.tmp 87) (.const (.bool true)) (.tmp 91)⟩,
    ⟨some 93, none, .pick (.tmp 82) (.tmp 92) (.const (.bool false))⟩,
    ⟨some 2, none, .mv (.tmp 72)⟩,
    ⟨some 3, none, .mv (.tmp 93)⟩])
  .ret)))))⟩
theorem h51 : strF Tryd.prog [] Tryd.f51 = some c51 := by kernel_rfl

/-- chirograph/der.tag -/
def c52 : Fun := ⟨83, [.inl 4, .inl 5, .inl 6, .inl 7],
  (.seq (.ops [⟨some 4, none, .mv (.const (.int .i64 0))⟩,
    ⟨some 5, none, .mv (.const (.int .i64 0))⟩,
    ⟨some 6, none, .mv (.const (.int .i64 0))⟩,
    ⟨some 7, none, .mv (.const (.int .i64 0))⟩])
  (.seq (.ops [⟨some 8, none, .mv (.tmp 0)⟩,
    ⟨some 9, none, .mv (.tmp 1)⟩,
    ⟨some 10, none, .ia 1 (.tmp 8) (.tmp 9)⟩,
    ⟨some 11, none, .ld (.int .u8) (.tmp 10)⟩,
    ⟨some 12, none, .bin .and (.tmp 11) (.const (.int .u8 31))⟩,
    ⟨some 13, none, .cv .i64 (.tmp 12)⟩,
    ⟨some 14, none, .mv (.tmp 1)⟩,
    ⟨some 15, none, .bin .add (.tmp 14) (.const (.int .i64 1))⟩,
    ⟨some 4, none, .mv (.tmp 13)⟩,
    ⟨some 5, none, .mv (.tmp 15)⟩])
  (.seq (.seq (.ops [⟨some 16, none, .mv (.tmp 4)⟩,
    ⟨some 17, none, .bin .lss (.tmp 16) (.const (.int .i64 31))⟩])
  (.cond (.tmp 17)
    (.seq (.seq (.ops [⟨some 18, none, .mv (.tmp 4)⟩,
      ⟨some 19, none, .bin .eql (.tmp 18) (.const (.int .i64 0))⟩,
      ⟨some 20, none, .mv (.tmp 19)⟩,
      ⟨some 21, some (20, true), .mv (.tmp 0)⟩,
      ⟨some 22, some (20, true), .mv (.tmp 1)⟩,
      ⟨some 23, some (20, true), .ia 1 (.tmp 21) (.tmp 22)⟩,
      ⟨some 24, some (20, true), .ld (.int .u8) (.tmp 23)⟩,
      ⟨some 25, some (20, true), .bin .shr (.tmp 24) (.const (.int .u64 6))⟩,
      ⟨some 26, some (20, true), .bin .eql (.tmp 25) (.const (.int .u8 0))⟩,
      ⟨some 27, none, .pick (.tmp 20) (.tmp 26) (.const (.bool false))⟩])
    (.cond (.tmp 27)
      (.seq (.ops [⟨some 28, none, .mv (.tmp 1)⟩,
        ⟨some 4, none, .mv (.const (.int .i64 0))⟩,
        ⟨some 5, none, .mv (.const (.int .i64 0))⟩,
        ⟨some 6, none, .mv (.const (.int .i64 30))⟩,
        ⟨some 7, none, .mv (.tmp 28)⟩])
      .ret)
      .skip))
    (.seq (.ops [⟨some 29, none, .mv (.tmp 4)⟩,
      ⟨some 30, none, .mv (.tmp 5)⟩,
      ⟨some 4, none, .mv (.tmp 29)⟩,
      ⟨some 5, none, .mv (.tmp 30)⟩,
      ⟨some 6, none, .mv (.const (.int .i64 0))⟩,
      ⟨some 7, none, .mv (.const (.int .i64 0))⟩])
    .ret))
    .skip))
  (.seq (.seq (.ops [⟨some 4, none, .mv (.const (.int .i64 0))⟩])
  (.block 0
    (.loop
      (.seq (.seq (.ops [⟨some 31, none, .mv (.tmp 5)⟩,
        ⟨some 32, none, .mv (.tmp 0)⟩,
        ⟨some 33, none, .len (.tmp 32)⟩,
        ⟨some 34, none, .bin .lss (.tmp 31) (.tmp 33)⟩])
      (.cond (.tmp 34)
        .skip
        (.exit 0)))
      (.seq (.block 1
        (.seq (.ops [⟨some 37, none, .mv (.tmp 4)⟩,
          ⟨some 38, none, .bin .shl (.tmp 37) (.const (.int .u64 7))⟩,
          ⟨some 39, none, .mv (.tmp 0)⟩,
          ⟨some 40, none, .mv (.tmp 5)⟩,
          ⟨some 41, none, .ia 1 (.tmp 39) (.tmp 40)⟩,
          ⟨some 42, none, .ld (.int .u8) (.tmp 41)⟩,
          ⟨some 43, none, .bin .and (.tmp 42) (.const (.int .u8 127))⟩,
          ⟨some 44, none, .cv .i64 (.tmp 43)⟩,
          ⟨some 45, none, .bin .or (.tmp 38) (.tmp 44)⟩,
          ⟨some 4, none, .mv (.tmp 45)⟩])
        (.seq (.seq (.ops [⟨some 46, none, .mv (.tmp 5)⟩,
          ⟨some 47, none, .mv (.tmp 1)⟩,
          ⟨some 48, none, .bin .add (.tmp 47) (.const (.int .i64 1))⟩,
          ⟨some 49, none, .bin .eql (.tmp 46) (.tmp 48)⟩,
          ⟨some 50, none, .mv (.tmp 49)⟩,
          ⟨some 51, some (50, true), .mv (.tmp 0)⟩,
          ⟨some 52, some (50, true), .mv (.tmp 5)⟩,
          ⟨some 53, some (50, true), .ia 1 (.tmp 51) (.tmp 52)⟩,
          ⟨some 54, some (50, true), .ld (.int .u8) (.tmp 53)⟩,
          ⟨some 55, some (50, true), .bin .eql (.tmp 54) (.const (.int .u8 128))⟩,
          ⟨some 56, none, .pick (.tmp 50) (.tmp 55) (.const (.bool false))⟩,
          ⟨some 57, none, .mv (.tmp 56)⟩,
          ⟨some 58, some (57, false), .mv (.tmp 4)⟩,
          ⟨some 59, some (57, false), .bin .gtr (.tmp 58) (.const (.int .i64 268435455))⟩,
          ⟨some 60, none, .pick (.tmp 57) (.const (.bool true)) (.tmp 59)⟩,
          ⟨some 61, none, .mv (.tmp 60)⟩,
          ⟨some 62, some (61, false), .mv (.tmp 0)⟩,
          ⟨some 63, some (61, false), .mv (.tmp 5)⟩,
          ⟨some 64, some (61, false), .ia 1 (.tmp 62) (.tmp 63)⟩,
          ⟨some 65, some (61, false), .ld (.int .u8) (.tmp 64)⟩,
          ⟨some 66, some (61, false), .bin .lss (.tmp 65) (.const (.int .u8 128))⟩,
          ⟨some 67, some (61, false), .mv (.tmp 66)⟩,
          ⟨some 68, some (67, true), .mv (.tmp 4)⟩,
          ⟨some 69, some (67, true), .bin .lss (.tmp 68) (.const (.int .i64 31))⟩,
          ⟨some 70, some (61, false), .pick (.tmp 67) (.tmp 69) (.const (.bool false))⟩,
          ⟨some 71, none, .pick (.tmp 61) (.const (.bool true)) (.tmp 70)⟩])
        (.cond (.tmp 71)
          (.seq (.ops [⟨some 72, none, .mv (.tmp 5)⟩,
            ⟨some 4, none, .mv (.const (.int .i64 0))⟩,
            ⟨some 5, none, .mv (.const (.int .i64 0))⟩,
            ⟨some 6, none, .mv (.const (.int .i64 30))⟩,
            ⟨some 7, none, .mv (.tmp 72)⟩])
          .ret)
          .skip))
        (.seq (.ops [⟨some 73, none, .mv (.tmp 0)⟩,
          ⟨some 74, none, .mv (.tmp 5)⟩,
          ⟨some 75, none, .ia 1 (.tmp 73) (.tmp 74)⟩,
          ⟨some 76, none, .ld (.int .u8) (.tmp 75)⟩,
          ⟨some 77, none, .bin .lss (.tmp 76) (.const (.int .u8 128))⟩])
        (.cond (.tmp 77)
          (.seq (.ops [⟨some 78, none, .mv (.tmp 4)⟩,
            ⟨some 79, none, .mv (.tmp 5)⟩,
            ⟨some 80, none, .bin .add (.tmp 79) (.const (.int .i64 1))⟩,
            ⟨some 4, none, .mv (.tmp 78)⟩,
            ⟨some 5, none, .mv (.tmp 80)⟩,
            ⟨some 6, none, .mv (.const (.int .i64 0))⟩,
            ⟨some 7, none, .mv (.const (.int .i64 0))⟩])
          .ret)
          .skip)))))
      (.ops [⟨some 35, none, .mv (.tmp 5)⟩,
        ⟨some 36, none, .bin .add (.tmp 35) (.const (.int .i64 1))⟩,
        ⟨some 5, none, .mv (.tmp 36)⟩]))))))
  (.seq (.ops [⟨some 81, none, .mv (.tmp 0)⟩,
    ⟨some 82, none, .len (.tmp 81)⟩,
    ⟨some 4, none, .mv (.const (.int .i64 0))⟩,
    ⟨some 5, none, .mv (.const (.int .i64 0))⟩,
    ⟨some 6, none, .mv (.const (.int .i64 2))⟩,
    ⟨some 7, none, .mv (.tmp 82)⟩])
  .ret)))))⟩
theorem h52 : strF Tryd.prog [] Tryd.f52 = some c52 := by kernel_rfl

/-- chirograph/der.length -/
def c53 : Fun := ⟨82, [.inl 4, .inl 5, .inl 6, .inl 7],
  (.seq (.ops [⟨some 4, none, .mv (.const (.int .i64 0))⟩,
    ⟨some 5, none, .mv (.const (.int .i64 0))⟩,
    ⟨some 6, none, .mv (.const (.int .i64 0))⟩,
    ⟨some 7, none, .mv (.const (.int .i64 0))⟩])
  (.seq (.seq (.ops [⟨some 11, none, .mv (.tmp 1)⟩,
    ⟨some 12, none, .mv (.tmp 0)⟩,
    ⟨some 13, none, .len (.tmp 12)⟩,
    ⟨some 14, none, .bin .eql (.tmp 11) (.tmp 13)⟩])
  (.cond (.tmp 14)
    (.seq (.ops [⟨some 15, none, .mv (.tmp 1)⟩,
      ⟨some 4, none, .mv (.const (.int .i64 0))⟩,
      ⟨some 5, none, .mv (.const (.int .i64 0))⟩,
      ⟨some 6, none, .mv (.const (.int .i64 2))⟩,
      ⟨some 7, none, .mv (.tmp 15)⟩])
    .ret)
    .skip))
  (.seq (.ops [⟨some 16, none, .mv (.tmp 0)⟩,
    ⟨some 17, none, .mv (.tmp 1)⟩,
    ⟨some 18, none, .ia 1 (.tmp 16) (.tmp 17)⟩,
    ⟨some 19, none, .ld (.int .u8) (.tmp 18)⟩,
    ⟨some 20, none, .cv .i64 (.tmp 19)⟩,
    ⟨some 21, none, .mv (.tmp 1)⟩,
    ⟨some 22, none, .bin .add (.tmp 21) (.const (.int .i64 1))⟩,
    ⟨some 4, none, .mv (.tmp 20)⟩,
    ⟨some 5, none, .mv (.tmp 22)⟩])
  (.join (.seq (.ops [⟨some 23, none, .mv (.tmp 4)⟩,
    ⟨some 24, none, .bin .geq (.tmp 23) (.const (.int .i64 128))⟩])
  (.cond (.tmp 24)
    (.seq (.ops [⟨some 25, none, .mv (.tmp 4)⟩,
      ⟨some 26, none, .bin .and (.tmp 25) (.const (.int .i64 127))⟩,
      ⟨some 8, none, .mv (.tmp 26)⟩])
    (.seq (.seq (.ops [⟨some 27, none, .mv (.tmp 8)⟩,
      ⟨some 28, none, .bin .eql (.tmp 27) (.const (.int .i64 0))⟩,
      ⟨some 29, none, .mv (.tmp 28)⟩,
      ⟨some 30, some (29, false), .mv (.tmp 8)⟩,
      ⟨some 31, some (29, false), .bin .eql (.tmp 30) (.const (.int .i64 127))⟩,
      ⟨some 32, none, .pick (.tmp 29) (.const (.bool true)) (.tmp 31)⟩])
    (.cond (.tmp 32)
      (.seq (.ops [⟨some 33, none, .mv (.tmp 1)⟩,
        ⟨some 4, none, .mv (.const (.int .i64 0))⟩,
        ⟨some 5, none, .mv (.const (.int .i64 0))⟩,
        ⟨some 6, none, .mv (.const (.int .i64 31))⟩,
        ⟨some 7, none, .mv (.tmp 33)⟩])
      .ret)
      .skip))
    (.seq (.seq (.ops [⟨some 34, none, .mv (.tmp 8)⟩,
      ⟨some 35, none, .mv (.tmp 0)⟩,
      ⟨some 36, none, .len (.tmp 35)⟩,
      ⟨some 37, none, .mv (.tmp 5)⟩,
      ⟨some 38, none, .bin .sub (.tmp 36) (.tmp 37)⟩,
      ⟨some 39, none, .bin .gtr (.tmp 34) (.tmp 38)⟩])
    (.cond (.tmp 39)
      (.seq (.ops [⟨some 40, none, .mv (.tmp 0)⟩,
        ⟨some 41, none, .len (.tmp 40)⟩,
        ⟨some 4, none, .mv (.const (.int .i64 0))⟩,
        ⟨some 5, none, .mv (.const (.int .i64 0))⟩,
        ⟨some 6, none, .mv (.const (.int .i64 2))⟩,
        ⟨some 7, none, .mv (.tmp 41)⟩])
      .ret)
      .skip))
    (.seq (.ops [⟨some 4, none, .mv (.const (.int .i64 0))⟩])
    (.seq (.seq (.ops [⟨some 42, none, .mv (.tmp 0)⟩,
      ⟨some 43, none, .mv (.tmp 5)⟩,
      ⟨some 44, none, .mv (.tmp 5)⟩,
      ⟨some 45, none, .mv (.tmp 8)⟩,
      ⟨some 46, none, .bin .add (.tmp 44) (.tmp 45)⟩,
      ⟨some 47, none, .slc 1 (.tmp 42) (some (.tmp 43)) (some (.tmp 46)) none⟩,
      ⟨some 48, none, .len (.tmp 47)⟩,
      ⟨some 49, none, .mv (.const (.int .i64 0))⟩])
    (.block 0
      (.loop
        (.seq (.ops [⟨some 50, none, .bin .lss (.tmp 49) (.tmp 48)⟩])
        (.seq (.cond (.tmp 50)
          .skip
          (.exit 0))
        (.seq (.block 1
          (.seq (.ops [⟨some 51, none, .ia 1 (.tmp 47) (.tmp 49)⟩,
            ⟨some 52, none, .ld (.int .u8) (.tmp 51)⟩,
            ⟨some 10, none, .mv (.tmp 52)⟩])
          (.ops [⟨some 53, none, .mv (.tmp 4)⟩,
            ⟨some 54, none, .bin .shl (.tmp 53) (.const (.int .u64 8))⟩,
            ⟨some 55, none, .mv (.tmp 10)⟩,
            ⟨some 56, none, .cv .i64 (.tmp 55)⟩,
            ⟨some 57, none, .bin .or (.tmp 54) (.tmp 56)⟩,
            ⟨some 58, none, .min2 (.tmp 57) (.const (.int .i64 16777217))⟩,
            ⟨some 4, none, .mv (.tmp 58)⟩])))
        (.ops [⟨some 59, none, .bin .add (.tmp 49) (.const (.int .i64 1))⟩,
          ⟨some 49, none, .mv (.tmp 59)⟩])))))))
    (.seq (.seq (.ops [⟨some 60, none, .mv (.tmp 0)⟩,
      ⟨some 61, none, .mv (.tmp 5)⟩,
      ⟨some 62, none, .ia 1 (.tmp 60) (.tmp 61)⟩,
      ⟨some 63, none, .ld (.int .u8) (.tmp 62)⟩,
      ⟨some 64, none, .bin .eql (.tmp 63) (.const (.int .u8 0))⟩,
      ⟨some 65, none, .mv (.tmp 64)⟩,
      ⟨some 66, some (65, false), .mv (.tmp 4)⟩,
      ⟨some 67, some (65, false), .bin .lss (.tmp 66) (.const (.int .i64 128))⟩,
      ⟨some 68, none, .pick (.tmp 65) (.const (.bool true)) (.tmp 67)⟩])
    (.cond (.tmp 68)
      (.seq (.ops [⟨some 69, none, .mv (.tmp 1)⟩,
        ⟨some 4, none, .mv (.const (.int .i64 0))⟩,
        ⟨some 5, none, .mv (.const (.int .i64 0))⟩,
        ⟨some 6, none, .mv (.const (.int .i64 31))⟩,
        ⟨some 7, none, .mv (.tmp 69)⟩])
      .ret)
      .skip))
    (.ops [⟨some 70, none, .mv (.tmp 5)⟩,
      ⟨some 71, none, .mv (.tmp 8)⟩,
      ⟨some 72, none, .bin .add (.tmp 70) (.tmp 71)⟩,
      ⟨some 5, none, .mv (.tmp 72)⟩])))))))
    .skip))
  (.seq (.seq (.ops [⟨some 73, none, .mv (.tmp 4)⟩,
    ⟨some 74, none, .mv (.tmp 0)⟩,
    ⟨some 75, none, .len (.tmp 74)⟩,
    ⟨some 76, none, .mv (.tmp 5)⟩,
    ⟨some 77, none, .bin .sub (.tmp 75) (.tmp 76)⟩,
    ⟨some 78, none, .bin .gtr (.tmp 73) (.tmp 77)⟩])
  (.cond (.tmp 78)
    (.seq (.ops [⟨some 79, none, .mv (.tmp 1)⟩,
      ⟨some 4, none, .mv (.const (.int .i64 0))⟩,
      ⟨some 5, none, .mv (.const (.int .i64 0))⟩,
      ⟨some 6, none, .mv (.const (.int .i64 31))⟩,
      ⟨some 7, none, .mv (.tmp 79)⟩])
    .ret)
    .skip))
  (.seq (.ops [⟨some 80, none, .mv (.tmp 4)⟩,
    ⟨some 81, none, .mv (.tmp 5)⟩,
    ⟨some 4, none, .mv (.tmp 80)⟩,
    ⟨some 5, none, .mv (.tmp 81)⟩,
    ⟨some 6, none, .mv (.const (.int .i64 0))⟩,
    ⟨some 7, none, .mv (.const (.int .i64 0))⟩])
  .ret))))))⟩
theorem h53 : strF Tryd.prog [] Tryd.f53 = some c53 := by kernel_rfl

/-- chirograph/chirographref04.tag -/
def c54 : Fun := ⟨84, [.inl 4, .inl 5, .inl 6, .inl 7],
  (.seq (.ops [⟨some 4, none, .mv (.const (.int .i64 0))⟩,
    ⟨some 5, none, .mv (.const (.int .i64 0))⟩,
    ⟨some 6, none, .mv (.const (.int .i64 0))⟩,
    ⟨some 7, none, .mv (.const (.int .i64 0))⟩])
  (.seq (.seq (.ops [⟨some 10, none, .mv (.tmp 0)⟩,
    ⟨some 11, none, .mv (.tmp 1)⟩,
    ⟨some 12, none, .ia 1 (.tmp 10) (.tmp 11)⟩,
    ⟨some 13, none, .ld (.int .u8) (.tmp 12)⟩,
    ⟨some 14, none, .bin .rem (.tmp 13) (.const (.int .u8 32))⟩,
    ⟨some 15, none, .bin .neq (.tmp 14) (.const (.int .u8 31))⟩])
  (.cond (.tmp 15)
    (.seq (.seq (.ops [⟨some 16, none, .mv (.tmp 0)⟩,
      ⟨some 17, none, .mv (.tmp 1)⟩,
      ⟨some 18, none, .ia 1 (.tmp 16) (.tmp 17)⟩,
      ⟨some 19, none, .ld (.int .u8) (.tmp 18)⟩,
      ⟨some 20, none, .bin .rem (.tmp 19) (.const (.int .u8 32))⟩,
      ⟨some 21, none, .bin .eql (.tmp 20) (.const (.int .u8 0))⟩,
      ⟨some 22, none, .mv (.tmp 21)⟩,
      ⟨some 23, some (22, true), .mv (.tmp 0)⟩,
      ⟨some 24, some (22, true), .mv (.tmp 1)⟩,
      ⟨some 25, some (22, true), .ia 1 (.tmp 23) (.tmp 24)⟩,
      ⟨some 26, some (22, true), .ld (.int .u8) (.tmp 25)⟩,
      ⟨some 27, some (22, true), .bin .lss (.tmp 26) (.const (.int .u8 64))⟩,
      ⟨some 28, none, .pick (.tmp 22) (.tmp 27) (.const (.bool false))⟩])
    (.cond (.tmp 28)
      (.seq (.ops [⟨some 29, none, .mv (.tmp 1)⟩,
        ⟨some 4, none, .mv (.const (.int .i64 0))⟩,
        ⟨some 5, none, .mv (.const (.int .i64 0))⟩,
        ⟨some 6, none, .mv (.const (.int .i64 30))⟩,
        ⟨some 7, none, .mv (.tmp 29)⟩])
      .ret)
      .skip))
    (.seq (.ops [⟨some 30, none, .mv (.tmp 0)⟩,
      ⟨some 31, none, .mv (.tmp 1)⟩,
      ⟨some 32, none, .ia 1 (.tmp 30) (.tmp 31)⟩,
      ⟨some 33, none, .ld (.int .u8) (.tmp 32)⟩,
      ⟨some 34, none, .bin .rem (.tmp 33) (.const (.int .u8 32))⟩,
      ⟨some 35, none, .cv .i64 (.tmp 34)⟩,
      ⟨some 36, none, .mv (.tmp 1)⟩,
      ⟨some 37, none, .bin .add (.tmp 36) (.const (.int .i64 1))⟩,
      ⟨some 4, none, .mv (.tmp 35)⟩,
      ⟨some 5, none, .mv (.tmp 37)⟩,
      ⟨some 6, none, .mv (.const (.int .i64 0))⟩,
      ⟨some 7, none, .mv (.const (.int .i64 0))⟩])
    .ret))
    .skip))
  (.seq (.ops [⟨some 8, none, .mv (.const (.int .i64 0))⟩])
  (.seq (.seq (.ops [⟨some 38, none, .mv (.tmp 1)⟩,
    ⟨some 39, none, .bin .add (.tmp 38) (.const (.int .i64 1))⟩,
    ⟨some 9, none, .mv (.tmp 39)⟩])
  (.block 0
    (.loop
      (.seq (.seq (.ops [⟨some 40, none, .mv (.tmp 9)⟩,
        ⟨some 41, none, .mv (.tmp 0)⟩,
        ⟨some 42, none, .len (.tmp 41)⟩,
        ⟨some 43, none, .bin .lss (.tmp 40) (.tmp 42)⟩])
      (.cond (.tmp 43)
        .skip
        (.exit 0)))
      (.seq (.block 1
        (.seq (.ops [⟨some 46, none, .mv (.tmp 8)⟩,
          ⟨some 47, none, .bin .mul (.tmp 46) (.const (.int .i64 128))⟩,
          ⟨some 48, none, .mv (.tmp 0)⟩,
          ⟨some 49, none, .mv (.tmp 9)⟩,
          ⟨some 50, none, .ia 1 (.tmp 48) (.tmp 49)⟩,
          ⟨some 51, none, .ld (.int .u8) (.tmp 50)⟩,
          ⟨some 52, none, .bin .rem (.tmp 51) (.const (.int .u8 128))⟩,
          ⟨some 53, none, .cv .i64 (.tmp 52)⟩,
          ⟨some 54, none, .bin .add (.tmp 47) (.tmp 53)⟩,
          ⟨some 8, none, .mv (.tmp 54)⟩])
        (.seq (.seq (.ops [⟨some 55, none, .mv (.tmp 8)⟩,
          ⟨some 56, none, .bin .gtr (.tmp 55) (.const (.int .i64 268435455))⟩,
          ⟨some 57, none, .mv (.tmp 56)⟩,
          ⟨some 58, some (57, false), .mv (.tmp 9)⟩,
          ⟨some 59, some (57, false), .mv (.tmp 1)⟩,
          ⟨some 60, some (57, false), .bin .add (.tmp 59) (.const (.int .i64 1))⟩,
          ⟨some 61, some (57, false), .bin .eql (.tmp 58) (.tmp 60)⟩,
          ⟨some 62, some (57, false), .mv (.tmp 61)⟩,
          ⟨some 63, some (62, true), .mv (.tmp 0)⟩,
          ⟨some 64, some (62, true), .mv (.tmp 9)⟩,
          ⟨some 65, some (62, true), .ia 1 (.tmp 63) (.tmp 64)⟩,
          ⟨some 66, some (62, true), .ld (.int .u8) (.tmp 65)⟩,
          ⟨some 67, some (62, true), .bin .eql (.tmp 66) (.const (.int .u8 128))⟩,
          ⟨some 68, some (57, false), .pick (.tmp 62) (.tmp 67) (.const (.bool false))⟩,
          ⟨some 69, none, .pick (.tmp 57) (.const (.bool true)) (.tmp 68)⟩])
        (.cond (.tmp 69)
          (.seq (.ops [⟨some 70, none, .mv (.tmp 9)⟩,
            ⟨some 4, none, .mv (.const (.int .i64 0))⟩,
            ⟨some 5, none, .mv (.const (.int .i64 0))⟩,
            ⟨some 6, none, .mv (.const (.int .i64 30))⟩,
            ⟨some 7, none, .mv (.tmp 70)⟩])
          .ret)
          .skip))
        (.seq (.ops [⟨some 71, none, .mv (.tmp 0)⟩,
          ⟨some 72, none, .mv (.tmp 9)⟩,
          ⟨some 73, none, .ia 1 (.tmp 71) (.tmp 72)⟩,
          ⟨some 74, none, .ld (.int .u8) (.tmp 73)⟩,
          ⟨some 75, none, .bin .lss (.tmp 74) (.const (.int .u8 128))⟩])
        (.cond (.tmp 75)
          (.seq (.seq (.ops [⟨some 76, none, .mv (.tmp 8)⟩,
            ⟨some 77, none, .bin .lss (.tmp 76) (.const (.int .i64 31))⟩])
          (.cond (.tmp 77)
            (.seq (.ops [⟨some 78, none, .mv (.tmp 9)⟩,
              ⟨some 4, none, .mv (.const (.int .i64 0))⟩,
              ⟨some 5, none, .mv (.const (.int .i64 0))⟩,
              ⟨some 6, none, .mv (.const (.int .i64 30))⟩,
              ⟨some 7, none, .mv (.tmp 78)⟩])
            .ret)
            .skip))
          (.seq (.ops [⟨some 79, none, .mv (.tmp 8)⟩,
            ⟨some 80, none, .mv (.tmp 9)⟩,
            ⟨some 81, none, .bin .add (.tmp 80) (.const (.int .i64 1))⟩,
            ⟨some 4, none, .mv (.tmp 79)⟩,
            ⟨some 5, none, .mv (.tmp 81)⟩,
            ⟨some 6, none, .mv (.const (.int .i64 0))⟩,
            ⟨some 7, none, .mv (.const (.int .i64 0))⟩])
          .ret))
          .skip)))))
      (.ops [⟨some 44, none, .mv (.tmp 9)⟩,
        ⟨some 45, none, .bin .add (.tmp 44) (.const (.int .i64 1))⟩,
        ⟨some 9, none, .mv (.tmp 45)⟩]))))))
  (.seq (.ops [⟨some 82, none, .mv (.tmp 0)⟩,
    ⟨some 83, none, .len (.tmp 82)⟩,
    ⟨some 4, none, .mv (.const (.int .i64 0))⟩,
    ⟨some 5, none, .mv (.const (.int .i64 0))⟩,
    ⟨some 6, none, .mv (.const (.int .i64 2))⟩,
    ⟨some 7, none, .mv (.tmp 83)⟩])
  .ret)))))⟩
theorem h54 : strF Tryd.prog [] Tryd.f54 = some c54 := by kernel_rfl

/-- chirograph/chirographref04.length -/
def c55 : Fun := ⟨88, [.inl 4, .inl 5, .inl 6, .inl 7],
  (.seq (.ops [⟨some 4, none, .mv (.const (.int .i64 0))⟩,
    ⟨some 5, none, .mv (.const (.int .i64 0))⟩,
    ⟨some 6, none, .mv (.const (.int .i64 0))⟩,
    ⟨some 7, none, .mv (.const (.int .i64 0))⟩])
  (.seq (.seq (.ops [⟨some 12, none, .mv (.tmp 1)⟩,
    ⟨some 13, none, .mv (.tmp 0)⟩,
    ⟨some 14, none, .len (.tmp 13)⟩,
    ⟨some 15, none, .bin .geq (.tmp 12) (.tmp 14)⟩])
  (.cond (.tmp 15)
    (.seq (.ops [⟨some 16, none, .mv (.tmp 0)⟩,
      ⟨some 17, none, .len (.tmp 16)⟩,
      ⟨some 4, none, .mv (.const (.int .i64 0))⟩,
      ⟨some 5, none, .mv (.const (.int .i64 0))⟩,
      ⟨some 6, none, .mv (.const (.int .i64 2))⟩,
      ⟨some 7, none, .mv (.tmp 17)⟩])
    .ret)
    .skip))
  (.seq (.ops [⟨some 18, none, .mv (.tmp 0)⟩,
    ⟨some 19, none, .mv (.tmp 1)⟩,
    ⟨some 20, none, .ia 1 (.tmp 18) (.tmp 19)⟩,
    ⟨some 21, none, .ld (.int .u8) (.tmp 20)⟩,
    ⟨some 22, none, .cv .i64 (.tmp 21)⟩,
    ⟨some 8, none, .mv (.tmp 22)⟩])
  (.seq (.ops [⟨some 23, none, .mv (.tmp 1)⟩,
    ⟨some 24, none, .bin .add (.tmp 23) (.const (.int .i64 1))⟩,
    ⟨some 9, none, .mv (.tmp 24)⟩])
  (.seq (.seq (.ops [⟨some 25, none, .mv (.tmp 8)⟩,
    ⟨some 26, none, .bin .eql (.tmp 25) (.const (.int .i64 128))⟩,
    ⟨some 27, none, .mv (.tmp 26)⟩,
    ⟨some 28, some (27, false), .mv (.tmp 8)⟩,
    ⟨some 29, some (27, false), .bin .eql (.tmp 28) (.const (.int .i64 255))⟩,
    ⟨some 30, none, .pick (.tmp 27) (.const (.bool true)) (.tmp 29)⟩])
  (.cond (.tmp 30)
    (.seq (.ops [⟨some 31, none, .mv (.tmp 1)⟩,
      ⟨some 4, none, .mv (.const (.int .i64 0))⟩,
      ⟨some 5, none, .mv (.const (.int .i64 0))⟩,
      ⟨some 6, none, .mv (.const (.int .i64 31))⟩,
      ⟨some 7, none, .mv (.tmp 31)⟩])
    .ret)
    .skip))
  (.join (.seq (.ops [⟨some 32, none, .mv (.tmp 8)⟩,
    ⟨some 33, none, .bin .gtr (.tmp 32) (.const (.int .i64 128))⟩])
  (.cond (.tmp 33)
    (.seq (.ops [⟨some 34, none, .mv (.tmp 8)⟩,
      ⟨some 35, none, .bin .sub (.tmp 34) (.const (.int .i64 128))⟩,
      ⟨some 10, none, .mv (.tmp 35)⟩])
    (.seq (.seq (.ops [⟨some 36, none, .mv (.tmp 1)⟩,
      ⟨some 37, none, .bin .add (.tmp 36) (.const (.int .i64 1))⟩,
      ⟨some 38, none, .mv (.tmp 10)⟩,
      ⟨some 39, none, .bin .add (.tmp 37) (.tmp 38)⟩,
      ⟨some 40, none, .mv (.tmp 0)⟩,
      ⟨some 41, none, .len (.tmp 40)⟩,
      ⟨some 42, none, .bin .gtr (.tmp 39) (.tmp 41)⟩])
    (.cond (.tmp 42)
      (.seq (.ops [⟨some 43, none, .mv (.tmp 0)⟩,
        ⟨some 44, none, .len (.tmp 43)⟩,
        ⟨some 4, none, .mv (.const (.int .i64 0))⟩,
        ⟨some 5, none, .mv (.const (.int .i64 0))⟩,
        ⟨some 6, none, .mv (.const (.int .i64 2))⟩,
        ⟨some 7, none, .mv (.tmp 44)⟩])
      .ret)
      .skip))
    (.seq (.ops [⟨some 8, none, .mv (.const (.int .i64 0))⟩])
    (.seq (.seq (.ops [⟨some 45, none, .mv (.tmp 1)⟩,
      ⟨some 46, none, .bin .add (.tmp 45) (.const (.int .i64 1))⟩,
      ⟨some 11, none, .mv (.tmp 46)⟩])
    (.block 0
      (.loop
        (.seq (.seq (.ops [⟨some 47, none, .mv (.tmp 11)⟩,
          ⟨some 48, none, .mv (.tmp 1)⟩,
          ⟨some 49, none, .mv (.tmp 10)⟩,
          ⟨some 50, none, .bin .add (.tmp 48) (.tmp 49)⟩,
          ⟨some 51, none, .bin .leq (.tmp 47) (.tmp 50)⟩])
        (.cond (.tmp 51)
          .skip
          (.exit 0)))
        (.join (.block 1
          (.seq (.ops [⟨some 54, none, .mv (.tmp 8)⟩,
            ⟨some 55, none, .bin .mul (.tmp 54) (.const (.int .i64 256))⟩,
            ⟨some 56, none, .mv (.tmp 0)⟩,
            ⟨some 57, none, .mv (.tmp 11)⟩,
            ⟨some 58, none, .ia 1 (.tmp 56) (.tmp 57)⟩,
            ⟨some 59, none, .ld (.int .u8) (.tmp 58)⟩,
            ⟨some 60, none, .cv .i64 (.tmp 59)⟩,
            ⟨some 61, none, .bin .add (.tmp 55) (.tmp 60)⟩,
            ⟨some 8, none, .mv (.tmp 61)⟩])
          (.seq (.ops [⟨some 62, none, .mv (.tmp 8)⟩,
            ⟨some 63, none, .bin .gtr (.tmp 62) (.const (.int .i64 16777216))⟩])
          (.cond (.tmp 63)
            (.ops [⟨some 8, none, .mv (.const (.int .i64 16777217))⟩])
            .skip))))
        (.ops [⟨some 52, none, .mv (.tmp 11)⟩,
          ⟨some 53, none, .bin .add (.tmp 52) (.const (.int .i64 1))⟩,
          ⟨some 11, none, .mv (.tmp 53)⟩]))))))
    (.seq (.seq (.ops [⟨some 64, none, .mv (.tmp 8)⟩,
      ⟨some 65, none, .bin .lss (.tmp 64) (.const (.int .i64 128))⟩,
      ⟨some 66, none, .mv (.tmp 65)⟩,
      ⟨some 67, some (66, false), .mv (.tmp 0)⟩,
      ⟨some 68, some (66, false), .mv (.tmp 1)⟩,
      ⟨some 69, some (66, false), .bin .add (.tmp 68) (.const (.int .i64 1))⟩,
      ⟨some 70, some (66, false), .ia 1 (.tmp 67) (.tmp 69)⟩,
      ⟨some 71, some (66, false), .ld (.int .u8) (.tmp 70)⟩,
      ⟨some 72, some (66, false), .bin .eql (.tmp 71) (.const (.int .u8 0))⟩,
      ⟨some 73, none, .pick (.tmp 66) (.const (.bool true)) (.tmp 72)⟩])
    (.cond (.tmp 73)
      (.seq (.ops [⟨some 74, none, .mv (.tmp 1)⟩,
        ⟨some 4, none, .mv (.const (.int .i64 0))⟩,
        ⟨some 5, none, .mv (.const (.int .i64 0))⟩,
        ⟨some 6, none, .mv (.const (.int .i64 31))⟩,
        ⟨some 7, none, .mv (.tmp 74)⟩])
      .ret)
      .skip))
    (.ops [⟨some 75, none, .mv (.tmp 1)⟩,
      ⟨some 76, none, .bin .add (.tmp 75) (.const (.int .i64 1))⟩,
      ⟨some 77, none, .mv (.tmp 10)⟩,
      ⟨some 78, none, .bin .add (.tmp 76) (.tmp 77)⟩,
      ⟨some 9, none, .mv (.tmp 78)⟩]))))))
    .skip))
  (.seq (.seq (.ops [⟨some 79, none, .mv (.tmp 8)⟩,
    ⟨some 80, none, .mv (.tmp 0)⟩,
    ⟨some 81, none, .len (.tmp 80)⟩,
    ⟨some 82, none, .mv (.tmp 9)⟩,
    ⟨some 83, none, .bin .sub (.tmp 81) (.tmp 82)⟩,
    ⟨some 84, none, .bin .gtr (.tmp 79) (.tmp 83)⟩])
  (.cond (.tmp 84)
    (.seq (.ops [⟨some 85, none, .mv (.tmp 1)⟩,
      ⟨some 4, none, .mv (.const (.int .i64 0))⟩,
      ⟨some 5, none, .mv (.const (.int .i64 0))⟩,
      ⟨some 6, none, .mv (.const (.int .i64 31))⟩,
      ⟨some 7, none, .mv (.tmp 85)⟩])
    .ret)
    .skip))
  (.seq (.ops [⟨some 86, none, .mv (.tmp 8)⟩,
    ⟨some 87, none, .mv (.tmp 9)⟩,
    ⟨some 4, none, .mv (.tmp 86)⟩,
    ⟨some 5, none, .mv (.tmp 87)⟩,
    ⟨some 6, none, .mv (.const (.int .i64 0))⟩,
    ⟨some 7, none, .mv (.const (.int .i64 0))⟩])
  .ret))))))))⟩
theorem h55 : strF Tryd.prog [] Tryd.f55 = some c55 := by kernel_rfl

/-- bytes.TrimLeft -/
def c56 : Fun := ⟨36, [.inl 4],
  (.seq (.ops [⟨some 4, none, .mv (.const (.slice none 0 0))⟩])
  (.seq (.seq (.ops [⟨some 7, none, .mv (.tmp 0)⟩,
    ⟨some 8, none, .len (.tmp 7)⟩,
    ⟨some 9, none, .bin .eql (.tmp 8) (.const (.int .i64 0))⟩])
  (.cond (.tmp 9)
    (.seq (.ops [⟨some 4, none, .mv (.const (.slice none 0 0))⟩])
    .ret)
    .skip))
  (.seq (.seq (.ops [⟨some 10, none, .mv (.tmp 1)⟩,
    ⟨some 11, none, .bin .eql (.tmp 10) (.const (.string ⟨#[]⟩))⟩])
  (.cond (.tmp 11)
    (.seq (.ops [⟨some 12, none, .mv (.tmp 0)⟩,
      ⟨some 4, none, .mv (.tmp 12)⟩])
    .ret)
    .skip))
  (.seq (.seq (.ops [⟨some 13, none, .mv (.tmp 1)⟩,
    ⟨some 14, none, .lens (.tmp 13)⟩,
    ⟨some 15, none, .bin .eql (.tmp 14) (.const (.int .i64 1))⟩,
    ⟨some 16, none, .mv (.tmp 15)⟩,
    ⟨some 17, some (16, true), .mv (.tmp 1)⟩,
    ⟨some 18, some (16, true), .ixs (.tmp 17) (.const (.int .i64 0))⟩,
    ⟨some 19, some (16, true), .bin .lss (.tmp 18) (.const (.int .u8 128))⟩,
    ⟨some 20, none, .pick (.tmp 16) (.tmp 19) (.const (.bool false))⟩])
  (.cond (.tmp 20)
    (.seq (.ops [⟨some 21, none, .mv (.tmp 0)⟩,
      ⟨some 22, none, .mv (.tmp 1)⟩,
      ⟨some 23, none, .ixs (.tmp 22) (.const (.int .i64 0))⟩,
      ⟨some 24, none, .call 68 [(.tmp 21), (.tmp 23)]⟩,
      ⟨some 4, none, .mv (.tmp 24)⟩])
    .ret)
    .skip))
  (.seq (.seq (.ops [⟨some 26, none, .mv (.tmp 1)⟩,
    ⟨some 27, none, .call 69 [(.tmp 26)]⟩,
    ⟨some 25, none, .mv (.tmp 27)⟩,
    ⟨some 28, none, .ext (.tmp 25) 0⟩,
    ⟨some 29, none, .ext (.tmp 25) 1⟩,
    ⟨some 5, none, .alloc 109 (.agg (Array.replicate 256 (.bool false)))⟩,
    ⟨none, none, .st 256 (.tmp 5) (.tmp 28)⟩,
    ⟨some 6, none, .mv (.tmp 29)⟩])
  (.seq (.ops [⟨some 30, none, .mv (.tmp 6)⟩])
  (.cond (.tmp 30)
    (.seq (.ops [⟨some 31, none, .mv (.tmp 0)⟩,
      ⟨some 32, none, .call 70 [(.tmp 31), (.tmp 5)]⟩,
      ⟨some 4, none, .mv (.tmp 32)⟩])
    .ret)
    .skip)))
  (.seq (.ops [⟨some 33, none, .mv (.tmp 0)⟩,
    ⟨some 34, none, .mv (.tmp 1)⟩,
    ⟨some 35, none, .call 71 [(.tmp 33), (.tmp 34)]⟩,
    ⟨some 4, none, .mv (.tmp 35)⟩])
  .ret))))))⟩
theorem h56 : strF Tryd.prog [] Tryd.f56 = some c56 := by kernel_rfl

/-- chirograph/chirographref03.Head -/
def c57 : Fun := ⟨77, [.inl 4],
  (.seq (.ops [⟨some 2, none, .box 101 (.tmp 0)⟩,
    ⟨some 4, none, .mv (.const (.slice none 0 0))⟩])
  (.seq (.ops [⟨some 11, none, .fa 1 (.tmp 2)⟩,
    ⟨some 12, none, .ld (.int .i64) (.tmp 11)⟩,
    ⟨some 13, none, .cv .u8 (.tmp 12)⟩,
    ⟨some 14, none, .bin .shl (.tmp 13) (.const (.int .u64 6))⟩,
    ⟨some 5, none, .mv (.tmp 14)⟩])
  (.join (.seq (.ops [⟨some 15, none, .fa 3 (.tmp 2)⟩,
    ⟨some 16, none, .ld .bool (.tmp 15)⟩])
  (.cond (.tmp 16)
    (.ops [⟨some 17, none, .mv (.tmp 5)⟩,
      ⟨some 18, none, .bin .add (.tmp 17) (.const (.int .u8 32))⟩,
      ⟨some 5, none, .mv (.tmp 18)⟩])
    .skip))
  (.seq (.ops [⟨some 6, none, .mv (.const (.slice none 0 0))⟩])
  (.join (.seq (.ops [⟨some 19, none, .fa 2 (.tmp 2)⟩,
    ⟨some 20, none, .ld (.int .i64) (.tmp 19)⟩,
    ⟨some 21, none, .bin .lss (.tmp 20) (.const (.int .i64 31))⟩])
  (.cond (.tmp 21)
    (.ops [⟨some 22, none, .mv (.tmp 5)⟩,
      ⟨some 23, none, .fa 2 (.tmp 2)⟩,
      ⟨some 24, none, .ld (.int .i64) (.tmp 23)⟩,
      ⟨some 25, none, .cv .u8 (.tmp 24)⟩,
      ⟨some 26, none, .bin .add (.tmp 22) (.tmp 25)⟩,
      ⟨some 27, none, .bsl 5 1 1 #[(.int .u8 0)] [(0, (.tmp 26))]⟩,
      ⟨some 6, none, .mv (.tmp 27)⟩])
    (.seq (.ops [⟨some 7, none, .mv (.const (.slice none 0 0))⟩])
    (.seq (.seq (.ops [⟨some 28, none, .fa 2 (.tmp 2)⟩,
      ⟨some 29, none, .ld (.int .i64) (.tmp 28)⟩,
      ⟨some 8, none, .mv (.tmp 29)⟩])
    (.block 0
      (.loop
        (.seq (.seq (.ops [⟨some 30, none, .mv (.tmp 8)⟩,
          ⟨some 31, none, .bin .gtr (.tmp 30) (.const (.int .i64 0))⟩])
        (.cond (.tmp 31)
          .skip
          (.exit 0)))
        (.seq (.block 1
          (.seq (.ops [⟨some 34, none, .mv (.tmp 8)⟩,
            ⟨some 35, none, .bin .rem (.tmp 34) (.const (.int .i64 128))⟩,
            ⟨some 36, none, .cv .u8 (.tmp 35)⟩,
            ⟨some 9, none, .mv (.tmp 36)⟩])
          (.join (.seq (.ops [⟨some 37, none, .mv (.tmp 7)⟩,
            ⟨some 38, none, .len (.tmp 37)⟩,
            ⟨some 39, none, .bin .gtr (.tmp 38) (.const (.int .i64 0))⟩])
          (.cond (.tmp 39)
            (.ops [⟨some 40, none, .mv (.tmp 9)⟩,
              ⟨some 41, none, .bin .add (.tmp 40) (.const (.int .u8 128))⟩,
              ⟨some 9, none, .mv (.tmp 41)⟩])
            .skip))
          (.ops [⟨some 42, none, .mv (.tmp 9)⟩,
            ⟨some 43, none, .bsl 5 1 1 #[(.int .u8 0)] [(0, (.tmp 42))]⟩,
            ⟨some 44, none, .mv (.tmp 7)⟩,
            ⟨some 45, none, .app 5 1 1 #[(.int .u8 0)] (.tmp 43) (.tmp 44)⟩,
            ⟨some 7, none, .mv (.tmp 45)⟩]))))
        (.ops [⟨some 32, none, .mv (.tmp 8)⟩,
          ⟨some 33, none, .bin .quo (.tmp 32) (.const (.int .i64 128))⟩,
          ⟨some 8, none, .mv (.tmp 33)⟩]))))))
    (.ops [⟨some 46, none, .mv (.tmp 5)⟩,
      ⟨some 47, none, .bin .add (.tmp 46) (.const (.int .u8 31))⟩,
      ⟨some 48, none, .bsl 5 1 1 #[(.int .u8 0)] [(0, (.tmp 47))]⟩,
      ⟨some 49, none, .mv (.tmp 7)⟩,
      ⟨some 50, none, .app 5 1 1 #[(.int .u8 0)] (.tmp 48) (.tmp 49)⟩,
      ⟨some 6, none, .mv (.tmp 50)⟩])))))
  (.seq (.seq (.ops [⟨some 51, none, .mv (.tmp 1)⟩,
    ⟨some 52, none, .bin .lss (.tmp 51) (.const (.int .i64 128))⟩])
  (.cond (.tmp 52)
    (.seq (.ops [⟨some 53, none, .mv (.tmp 6)⟩,
      ⟨some 54, none, .mv (.tmp 1)⟩,
      ⟨some 55, none, .cv .u8 (.tmp 54)⟩,
      ⟨some 56, none, .bsl 5 1 1 #[(.int .u8 0)] [(0, (.tmp 55))]⟩,
      ⟨some 57, none, .app 5 1 1 #[(.int .u8 0)] (.tmp 53) (.tmp 56)⟩,
      ⟨some 4, none, .mv (.tmp 57)⟩])
    .ret)
    .skip))
  (.seq (.ops [⟨some 10, none, .mv (.const (.slice none 0 0))⟩])
  (.seq (.block 2
    (.loop
      (.seq (.seq (.ops [⟨some 58, none, .mv (.tmp 1)⟩,
        ⟨some 59, none, .bin .gtr (.tmp 58) (.const (.int .i64 0))⟩])
      (.cond (.tmp 59)
        .skip
        (.exit 2)))
      (.seq (.block 3
        (.ops [⟨some 62, none, .mv (.tmp 1)⟩,
          ⟨some 63, none, .bin .rem (.tmp 62) (.const (.int .i64 256))⟩,
          ⟨some 64, none, .cv .u8 (.tmp 63)⟩,
          ⟨some 65, none, .bsl 5 1 1 #[(.int .u8 0)] [(0, (.tmp 64))]⟩,
          ⟨some 66, none, .mv (.tmp 10)⟩,
          ⟨some 67, none, .app 5 1 1 #[(.int .u8 0)] (.tmp 65) (.tmp 66)⟩,
          ⟨some 10, none, .mv (.tmp 67)⟩]))
      (.ops [⟨some 60, none, .mv (.tmp 1)⟩,
        ⟨some 61, none, .bin .quo (.tmp 60) (.const (.int .i64 256))⟩,
        ⟨some 1, none, .mv (.tmp 61)⟩])))))
  (.seq (.ops [⟨some 68, none, .mv (.tmp 6)⟩,
    ⟨some 69, none, .mv (.tmp 10)⟩,
    ⟨some 70, none, .len (.tmp 69)⟩,
    ⟨some 71, none, .bin .add (.const (.int .i64 128)) (.tmp 70)⟩,
    ⟨some 72, none, .cv .u8 (.tmp 71)⟩,
    ⟨some 73, none, .bsl 5 1 1 #[(.int .u8 0)] [(0, (.tmp 72))]⟩,
    ⟨some 74, none, .app 5 1 1 #[(.int .u8 0)] (.tmp 68) (.tmp 73)⟩,
    ⟨some 75, none, .mv (.tmp 10)⟩,
    ⟨some 76, none, .app 5 1 1 #[(.int .u8 0)] (.tmp 74) (.tmp 75)⟩,
    ⟨some 4, none, .mv (.tmp 76)⟩])
  .ret)))))))))⟩
theorem h57 : strF Tryd.prog [] Tryd.f57 = some c57 := by kernel_rfl

/-- chirograph/der.whole -/
def c58 : Fun := ⟨34, [.inl 2],
  (.seq (.ops [⟨some 2, none, .mv (.const (.bool false))⟩])
  (.seq (.seq (.ops [⟨some 3, none, .mv (.tmp 0)⟩,
    ⟨some 4, none, .len (.tmp 3)⟩,
    ⟨some 5, none, .bin .lss (.tmp 4) (.const (.int .i64 2))⟩])
  (.cond (.tmp 5)
    (.seq (.ops [⟨some 6, none, .mv (.tmp 0)⟩,
      ⟨some 7, none, .len (.tmp 6)⟩,
      ⟨some 8, none, .bin .eql (.tmp 7) (.const (.int .i64 1))⟩,
      ⟨some 2, none, .mv (.tmp 8)⟩])
    .ret)
    .skip))
  (.seq (.ops [⟨some 9, none, .mv (.tmp 0)⟩,
    ⟨some 10, none, .ia 1 (.tmp 9) (.const (.int .i64 0))⟩,
    ⟨some 11, none, .ld (.int .u8) (.tmp 10)⟩,
    ⟨some 12, none, .bin .eql (.tmp 11) (.const (.int .u8 0))⟩,
    ⟨some 13, none, .mv (.tmp 12)⟩,
    ⟨some 14, some (13, true), .mv (.tmp 0)⟩,
    ⟨some 15, some (13, true), .ia 1 (.tmp 14) (.const (.int .i64 1))⟩,
    ⟨some 16, some (13, true), .ld (.int .u8) (.tmp 15)⟩,
    ⟨some 17, some (13, true), .bin .and (.tmp 16) (.const (.int .u8 128))⟩,
    ⟨some 18, some (13, true), .bin .eql (.tmp 17) (.const (.int .u8 0))⟩,
    ⟨some 19, none, .pick (.tmp 13) (.tmp 18) (.const (.bool false))⟩,
    ⟨some 20, none, .mv (.tmp 19)⟩,
    ⟨some 21, some (20, false), .mv (.tmp 0)⟩,
    ⟨some 22, some (20, false), .ia 1 (.tmp 21) (.const (.int .i64 0))⟩,
    ⟨some 23, some (20, false), .ld (.int .u8) (.tmp 22)⟩,
    ⟨some 24, some (20, false), .bin .eql (.tmp 23) (.const (.int .u8 255))⟩,
    ⟨some 25, some (20, false), .mv (.tmp 24)⟩,
    ⟨some 26, some (25, true), .mv (.tmp 0)⟩,
    ⟨some 27, some (25, true), .ia 1 (.tmp 26) (.const (.int .i64 1))⟩,
    ⟨some 28, some (25, true), .ld (.int .u8) (.tmp 27)⟩,
    ⟨some 29, some (25, true), .bin .and (.tmp 28) (.const (.int .u8 128))⟩,
    ⟨some 30, some (25, true), .bin .neq (.tmp 29) (.const (.int .u8 0))⟩,
    ⟨some 31, some (20, false), .pick (.tmp 25) (.tmp 30) (.const (.bool false))⟩,
    ⟨some 32, none, .pick (.tmp 20) (.const (.bool true)) (.tmp 31)⟩,
    ⟨some 33, none, .un .not (.tmp 32)⟩,
    ⟨some 2, none, .mv (.tmp 33)⟩])
  .ret)))⟩
theorem h58 : strF Tryd.prog [] Tryd.f58 = some c58 := by kernel_rfl

/-- chirograph/nat.FromBytes -/
def c59 : Fun := ⟨42, [.inl 2, .inl 3],
  (.seq (.ops [⟨some 2, none, .mv (.const (.slice none 0 0))⟩,
    ⟨some 3, none, .mv (.const (.int .i64 0))⟩])
  (.seq (.seq (.ops [⟨some 6, none, .mv (.tmp 0)⟩,
    ⟨some 7, none, .len (.tmp 6)⟩,
    ⟨some 8, none, .bin .gtr (.tmp 7) (.const (.int .i64 2048))⟩])
  (.cond (.tmp 8)
    (.seq (.ops [⟨some 2, none, .mv (.const (.slice none 0 0))⟩,
      ⟨some 3, none, .mv (.const (.int .i64 3))⟩])
    .ret)
    .skip))
  (.seq (.ops [⟨some 9, none, .mv (.tmp 0)⟩,
    ⟨some 10, none, .len (.tmp 9)⟩,
    ⟨some 11, none, .bin .add (.tmp 10) (.const (.int .i64 3))⟩,
    ⟨some 12, none, .bin .quo (.tmp 11) (.const (.int .i64 4))⟩,
    ⟨some 13, none, .mks 30 1 4 #[(.int .u32 0)] (.tmp 12) (.tmp 12)⟩,
    ⟨some 4, none, .mv (.tmp 13)⟩])
  (.seq (.seq (.ops [⟨some 14, none, .mv (.tmp 0)⟩,
    ⟨some 15, none, .len (.tmp 14)⟩,
    ⟨some 16, none, .mv (.const (.int .i64 0))⟩])
  (.block 0
    (.loop
      (.seq (.ops [⟨some 17, none, .bin .lss (.tmp 16) (.tmp 15)⟩])
      (.seq (.cond (.tmp 17)
        .skip
        (.exit 0))
      (.seq (.block 1
        (.seq (.ops [⟨some 18, none, .mv (.tmp 16)⟩,
          ⟨some 5, none, .mv (.tmp 18)⟩])
        (.draw 20 [⟨some 19, none, .mv (.tmp 4)⟩,
          ⟨some 20, none, .mv (.tmp 5)⟩,
          ⟨some 21, none, .bin .quo (.tmp 20) (.const (.int .i64 4))⟩,
          ⟨some 22, none, .ia 1 (.tmp 19) (.tmp 21)⟩,
          ⟨some 23, none, .ld (.int .u32) (.tmp 22)⟩,
          ⟨some 24, none, .mv (.tmp 0)⟩,
          ⟨some 25, none, .mv (.tmp 0)⟩,
          ⟨some 26, none, .len (.tmp 25)⟩,
          ⟨some 27, none, .bin .sub (.tmp 26) (.const (.int .i64 1))⟩,
          ⟨some 28, none, .mv (.tmp 5)⟩,
          ⟨some 29, none, .bin .sub (.tmp 27) (.tmp 28)⟩,
          ⟨some 30, none, .ia 1 (.tmp 24) (.tmp 29)⟩,
          ⟨some 31, none, .ld (.int .u8) (.tmp 30)⟩,
          ⟨some 32, none, .cv .u32 (.tmp 31)⟩,
          ⟨some 33, none, .mv (.tmp 5)⟩,
          ⟨some 34, none, .bin .rem (.tmp 33) (.const (.int .i64 4))⟩,
          ⟨some 35, none, .bin .mul (.const (.int .i64 8)) (.tmp 34)⟩,
          ⟨some 36, none, .bin .shl (.tmp 32) (.tmp 35)⟩,
          ⟨some 37, none, .bin .or (.tmp 23) (.tmp 36)⟩,
          ⟨some 38, none, .ia 1 (.tmp 19) (.tmp 21)⟩,
          ⟨none, none, .st 1 (.tmp 38) (.tmp 37)⟩])))
      (.ops [⟨some 39, none, .bin .add (.tmp 16) (.const (.int .i64 1))⟩,
        ⟨some 16, none, .mv (.tmp 39)⟩])))))))
  (.seq (.ops [⟨some 40, none, .mv (.tmp 4)⟩,
    ⟨some 41, none, .call 72 [(.tmp 40)]⟩,
    ⟨some 2, none, .mv (.tmp 41)⟩,
    ⟨some 3, none, .mv (.const (.int .i64 0))⟩])
  .ret)))))⟩
theorem h59 : strF Tryd.prog [] Tryd.f59 = some c59 := by kernel_rfl

/-- chirograph/nat.Bits -/
def c60 : Fun := ⟨20, [.inl 2],
  (.seq (.ops [⟨some 2, none, .mv (.const (.int .i64 0))⟩])
  (.seq (.ops [⟨some 3, none, .mv (.tmp 0)⟩,
    ⟨some 4, none, .call 72 [(.tmp 3)]⟩,
    ⟨some 0, none, .mv (.tmp 4)⟩])
  (.seq (.seq (.ops [⟨some 5, none, .mv (.tmp 0)⟩,
    ⟨some 6, none, .len (.tmp 5)⟩,
    ⟨some 7, none, .bin .eql (.tmp 6) (.const (.int .i64 0))⟩])
  (.cond (.tmp 7)
    (.seq (.ops [⟨some 2, none, .mv (.const (.int .i64 0))⟩])
    .ret)
    .skip))
  (.seq (.ops [⟨some 8, none, .mv (.tmp 0)⟩,
    ⟨some 9, none, .len (.tmp 8)⟩,
    ⟨some 10, none, .bin .sub (.tmp 9) (.const (.int .i64 1))⟩,
    ⟨some 11, none, .bin .mul (.const (.int .i64 32)) (.tmp 10)⟩,
    ⟨some 12, none, .mv (.tmp 0)⟩,
    ⟨some 13, none, .mv (.tmp 0)⟩,
    ⟨some 14, none, .len (.tmp 13)⟩,
    ⟨some 15, none, .bin .sub (.tmp 14) (.const (.int .i64 1))⟩,
    ⟨some 16, none, .ia 1 (.tmp 12) (.tmp 15)⟩,
    ⟨some 17, none, .ld (.int .u32) (.tmp 16)⟩,
    ⟨some 18, none, .call 73 [(.tmp 17)]⟩,
    ⟨some 19, none, .bin .add (.tmp 11) (.tmp 18)⟩,
    ⟨some 2, none, .mv (.tmp 19)⟩])
  .ret))))⟩
theorem h60 : strF Tryd.prog [] Tryd.f60 = some c60 := by kernel_rfl

/-- chirograph/chirographref01.Limbs -/
def c61 : Fun := ⟨38, [.inl 2],
  (.seq (.ops [⟨some 2, none, .mv (.const (.slice none 0 0))⟩])
  (.seq (.ops [⟨some 6, none, .mv (.tmp 0)⟩,
    ⟨some 7, none, .call 74 [(.tmp 6)]⟩,
    ⟨some 0, none, .mv (.tmp 7)⟩])
  (.seq (.ops [⟨some 3, none, .mv (.const (.slice none 0 0))⟩])
  (.seq (.seq (.ops [⟨some 4, none, .mv (.const (.int .i64 0))⟩])
  (.block 0
    (.loop
      (.seq (.seq (.ops [⟨some 8, none, .mv (.tmp 4)⟩,
        ⟨some 9, none, .mv (.tmp 0)⟩,
        ⟨some 10, none, .len (.tmp 9)⟩,
        ⟨some 11, none, .bin .lss (.tmp 8) (.tmp 10)⟩])
      (.cond (.tmp 11)
        .skip
        (.exit 0)))
      (.seq (.block 1
        (.seq (.ops [⟨some 14, none, .mv (.tmp 0)⟩,
          ⟨some 15, none, .mv (.tmp 4)⟩,
          ⟨some 16, none, .ia 1 (.tmp 14) (.tmp 15)⟩,
          ⟨some 17, none, .ld (.int .u64) (.tmp 16)⟩,
          ⟨some 18, none, .cv .u32 (.tmp 17)⟩,
          ⟨some 5, none, .mv (.tmp 18)⟩])
        (.join (.seq (.ops [⟨some 19, none, .mv (.tmp 4)⟩,
          ⟨some 20, none, .bin .add (.tmp 19) (.const (.int .i64 1))⟩,
          ⟨some 21, none, .mv (.tmp 0)⟩,
          ⟨some 22, none, .len (.tmp 21)⟩,
          ⟨some 23, none, .bin .lss (.tmp 20) (.tmp 22)⟩])
        (.cond (.tmp 23)
          (.ops [⟨some 24, none, .mv (.tmp 5)⟩,
            ⟨some 25, none, .mv (.tmp 0)⟩,
            ⟨some 26, none, .mv (.tmp 4)⟩,
            ⟨some 27, none, .bin .add (.tmp 26) (.const (.int .i64 1))⟩,
            ⟨some 28, none, .ia 1 (.tmp 25) (.tmp 27)⟩,
            ⟨some 29, none, .ld (.int .u64) (.tmp 28)⟩,
            ⟨some 30, none, .cv .u32 (.tmp 29)⟩,
            ⟨some 31, none, .bin .shl (.tmp 30) (.const (.int .u64 16))⟩,
            ⟨some 32, none, .bin .add (.tmp 24) (.tmp 31)⟩,
            ⟨some 5, none, .mv (.tmp 32)⟩])
          .skip))
        (.ops [⟨some 33, none, .mv (.tmp 3)⟩,
          ⟨some 34, none, .mv (.tmp 5)⟩,
          ⟨some 35, none, .bsl 30 1 1 #[(.int .u32 0)] [(0, (.tmp 34))]⟩,
          ⟨some 36, none, .app 30 1 4 #[(.int .u32 0)] (.tmp 33) (.tmp 35)⟩,
          ⟨some 3, none, .mv (.tmp 36)⟩]))))
      (.ops [⟨some 12, none, .mv (.tmp 4)⟩,
        ⟨some 13, none, .bin .add (.tmp 12) (.const (.int .i64 2))⟩,
        ⟨some 4, none, .mv (.tmp 13)⟩]))))))
  (.seq (.ops [⟨some 37, none, .mv (.tmp 3)⟩,
    ⟨some 2, none, .mv (.tmp 37)⟩])
  .ret)))))⟩
theorem h61 : strF Tryd.prog [] Tryd.f61 = some c61 := by kernel_rfl

/-- chirograph/chirographref01.Digits -/
def c62 : Fun := ⟨28, [.inl 2],
  (.seq (.ops [⟨some 2, none, .mv (.const (.slice none 0 0))⟩])
  (.seq (.ops [⟨some 3, none, .mv (.const (.slice none 0 0))⟩])
  (.seq (.seq (.ops [⟨some 4, none, .mv (.const (.int .i64 0))⟩])
  (.block 0
    (.loop
      (.seq (.seq (.ops [⟨some 5, none, .mv (.tmp 4)⟩,
        ⟨some 6, none, .mv (.tmp 0)⟩,
        ⟨some 7, none, .len (.tmp 6)⟩,
        ⟨some 8, none, .bin .lss (.tmp 5) (.tmp 7)⟩])
      (.cond (.tmp 8)
        .skip
        (.exit 0)))
      (.seq (.block 1
        (.drawS [(0, 0), (0, 1), (0, 2), (0, 3), (0, 7), (0, 8), (0, 9), (1, 4), (0, 5), (0, 6), (1, 10), (0, 11), (0, 12), (2, 13), (2, 14), (0, 15)]
          [⟨some 11, none, .mv (.tmp 3)⟩,
          ⟨some 12, none, .mv (.tmp 0)⟩,
          ⟨some 13, none, .mv (.tmp 4)⟩,
          ⟨some 14, none, .ia 1 (.tmp 12) (.tmp 13)⟩,
          ⟨some 15, none, .ld (.int .u32) (.tmp 14)⟩,
          ⟨some 16, none, .bin .and (.tmp 15) (.const (.int .u32 65535))⟩,
          ⟨some 17, none, .cv .u64 (.tmp 16)⟩,
          ⟨some 18, none, .mv (.tmp 0)⟩,
          ⟨some 19, none, .mv (.tmp 4)⟩,
          ⟨some 20, none, .ia 1 (.tmp 18) (.tmp 19)⟩,
          ⟨some 21, none, .ld (.int .u32) (.tmp 20)⟩,
          ⟨some 22, none, .bin .shr (.tmp 21) (.const (.int .u64 16))⟩,
          ⟨some 23, none, .cv .u64 (.tmp 22)⟩,
          ⟨some 24, none, .bsl 84 1 2 #[(.int .u64 0)] [(0, (.tmp 17)), (1, (.tmp 23))]⟩,
          ⟨some 25, none, .app 84 1 8 #[(.int .u64 0)] (.tmp 11) (.tmp 24)⟩,
          ⟨some 3, none, .mv (.tmp 25)⟩]))
      (.ops [⟨some 9, none, .mv (.tmp 4)⟩,
        ⟨some 10, none, .bin .add (.tmp 9) (.const (.int .i64 1))⟩,
        ⟨some 4, none, .mv (.tmp 10)⟩]))))))
  (.seq (.ops [⟨some 26, none, .mv (.tmp 3)⟩,
    ⟨some 27, none, .call 74 [(.tmp 26)]⟩,
    ⟨some 2, none, .mv (.tmp 27)⟩])
  .ret))))⟩
theorem h62 : strF Tryd.prog [(5, .inl [(0, 0), (0, 1), (0, 2), (0, 3), (0, 7), (0, 8), (0, 9), (1, 4), (0, 5), (0, 6), (1, 10), (0, 11), (0, 12), (2, 13), (2, 14), (0, 15)])] Tryd.f62 = some c62 := by kernel_rfl

/-- chirograph/chirographref04.whole -/
def c63 : Fun := ⟨37, [.inl 2],
  (.seq (.ops [⟨some 2, none, .mv (.const (.bool false))⟩])
  (.seq (.ops [⟨some 3, none, .mv (.tmp 0)⟩,
    ⟨some 4, none, .len (.tmp 3)⟩,
    ⟨some 5, none, .bin .eql (.tmp 4) (.const (.int .i64 1))⟩,
    ⟨some 6, none, .mv (.tmp 5)⟩,
    ⟨some 7, some (6, false), .mv (.tmp 0)⟩,
    ⟨some 8, some (6, false), .len (.tmp 7)⟩,
    ⟨some 9, some (6, false), .bin .gtr (.tmp 8) (.const (.int .i64 1))⟩,
    ⟨some 10, some (6, false), .mv (.tmp 9)⟩,
    ⟨some 11, some (10, true), .mv (.tmp 0)⟩,
    ⟨some 12, some (10, true), .ia 1 (.tmp 11) (.const (.int .i64 0))⟩,
    ⟨some 13, some (10, true), .ld (.int .u8) (.tmp 12)⟩,
    ⟨some 14, some (10, true), .bin .eql (.tmp 13) (.const (.int .u8 0))⟩,
    ⟨some 15, some (10, true), .mv (.tmp 14)⟩,
    ⟨some 16, some (15, true), .mv (.tmp 0)⟩,
    ⟨some 17, some (15, true), .ia 1 (.tmp 16) (.const (.int .i64 1))⟩,
    ⟨some 18, some (15, true), .ld (.int .u8) (.tmp 17)⟩,
    ⟨some 19, some (15, true), .bin .lss (.tmp 18) (.const (.int .u8 128))⟩,
    ⟨some 20, some (10, true), .pick (.tmp 15) (.tmp 19) (.const (.bool false))⟩,
    ⟨some 21, some (10, true), .un .not (.tmp 20)⟩,
    ⟨some 22, some (6, false), .pick (.tmp 10) (.tmp 21) (.const (.bool false))⟩,
    ⟨some 23, some (6, false), .mv (.tmp 22)⟩,
    ⟨some 24, some (23, true), .mv (.tmp 0)⟩,
    ⟨some 25, some (23, true), .ia 1 (.tmp 24) (.const (.int .i64 0))⟩,
    ⟨some 26, some (23, true), .ld (.int .u8) (.tmp 25)⟩,
    ⟨some 27, some (23, true), .bin .eql (.tmp 26) (.const (.int .u8 255))⟩,
    ⟨some 28, some (23, true), .mv (.tmp 27)⟩,
    ⟨some 29, some (28, true), .mv (.tmp 0)⟩,
    ⟨some 30, some (28, true), .ia 1 (.tmp 29) (.const (.int .i64 1))⟩,
    ⟨some 31, some (28, true), .ld (.int .u8) (.tmp 30)⟩,
    ⟨some 32, some (28, true), .bin .geq (.tmp 31) (.const (.int .u8 128))⟩,
    ⟨some 33, some (23, true), .pick (.tmp 28) (.tmp 32) (.const (.bool false))⟩,
    ⟨some 34, some (23, true), .un .not (.tmp 33)⟩,
    ⟨some 35, some (6, false), .pick (.tmp 23) (.tmp 34) (.const (.bool false))⟩,
    ⟨some 36, none, .pick (.tmp 6) (.const (.bool true)) (.tmp 35)⟩,
    ⟨some 2, none, .mv (.tmp 36)⟩])
  .ret))⟩
theorem h63 : strF Tryd.prog [] Tryd.f63 = some c63 := by kernel_rfl

/-- chirograph/chirographref01.FromBytes -/
def c64 : Fun := ⟨39, [.inl 2, .inl 3],
  (.seq (.ops [⟨some 2, none, .mv (.const (.slice none 0 0))⟩,
    ⟨some 3, none, .mv (.const (.int .i64 0))⟩])
  (.seq (.seq (.ops [⟨some 7, none, .mv (.tmp 0)⟩,
    ⟨some 8, none, .len (.tmp 7)⟩,
    ⟨some 9, none, .bin .gtr (.tmp 8) (.const (.int .i64 2048))⟩])
  (.cond (.tmp 9)
    (.seq (.ops [⟨some 2, none, .mv (.const (.slice none 0 0))⟩,
      ⟨some 3, none, .mv (.const (.int .i64 3))⟩])
    .ret)
    .skip))
  (.seq (.ops [⟨some 4, none, .mv (.const (.slice none 0 0))⟩])
  (.seq (.seq (.ops [⟨some 10, none, .mv (.tmp 0)⟩,
    ⟨some 11, none, .len (.tmp 10)⟩,
    ⟨some 12, none, .bin .sub (.tmp 11) (.const (.int .i64 1))⟩,
    ⟨some 5, none, .mv (.tmp 12)⟩])
  (.block 0
    (.loop
      (.seq (.seq (.ops [⟨some 13, none, .mv (.tmp 5)⟩,
        ⟨some 14, none, .bin .geq (.tmp 13) (.const (.int .i64 0))⟩])
      (.cond (.tmp 14)
        .skip
        (.exit 0)))
      (.seq (.block 1
        (.seq (.ops [⟨some 17, none, .mv (.tmp 0)⟩,
          ⟨some 18, none, .mv (.tmp 5)⟩,
          ⟨some 19, none, .ia 1 (.tmp 17) (.tmp 18)⟩,
          ⟨some 20, none, .ld (.int .u8) (.tmp 19)⟩,
          ⟨some 21, none, .cv .u64 (.tmp 20)⟩,
          ⟨some 6, none, .mv (.tmp 21)⟩])
        (.join (.seq (.ops [⟨some 22, none, .mv (.tmp 5)⟩,
          ⟨some 23, none, .bin .gtr (.tmp 22) (.const (.int .i64 0))⟩])
        (.cond (.tmp 23)
          (.ops [⟨some 24, none, .mv (.tmp 6)⟩,
            ⟨some 25, none, .mv (.tmp 0)⟩,
            ⟨some 26, none, .mv (.tmp 5)⟩,
            ⟨some 27, none, .bin .sub (.tmp 26) (.const (.int .i64 1))⟩,
            ⟨some 28, none, .ia 1 (.tmp 25) (.tmp 27)⟩,
            ⟨some 29, none, .ld (.int .u8) (.tmp 28)⟩,
            ⟨some 30, none, .cv .u64 (.tmp 29)⟩,
            ⟨some 31, none, .bin .shl (.tmp 30) (.const (.int .u64 8))⟩,
            ⟨some 32, none, .bin .add (.tmp 24) (.tmp 31)⟩,
            ⟨some 6, none, .mv (.tmp 32)⟩])
          .skip))
        (.ops [⟨some 33, none, .mv (.tmp 4)⟩,
          ⟨some 34, none, .mv (.tmp 6)⟩,
          ⟨some 35, none, .bsl 84 1 1 #[(.int .u64 0)] [(0, (.tmp 34))]⟩,
          ⟨some 36, none, .app 84 1 8 #[(.int .u64 0)] (.tmp 33) (.tmp 35)⟩,
          ⟨some 4, none, .mv (.tmp 36)⟩]))))
      (.ops [⟨some 15, none, .mv (.tmp 5)⟩,
        ⟨some 16, none, .bin .sub (.tmp 15) (.const (.int .i64 2))⟩,
        ⟨some 5, none, .mv (.tmp 16)⟩]))))))
  (.seq (.ops [⟨some 37, none, .mv (.tmp 4)⟩,
    ⟨some 38, none, .call 61 [(.tmp 37)]⟩,
    ⟨some 2, none, .mv (.tmp 38)⟩,
    ⟨some 3, none, .mv (.const (.int .i64 0))⟩])
  .ret)))))⟩
theorem h64 : strF Tryd.prog [] Tryd.f64 = some c64 := by kernel_rfl

/-- chirograph/ber.ToDer -/
def c65 : Fun := ⟨31, [.inl 2, .inl 3],
  (.seq (.ops [⟨some 2, none, .mv (.const (.slice none 0 0))⟩,
    ⟨some 3, none, .mv (.const (.int .i64 0))⟩])
  (.seq (.ops [⟨some 10, none, .mv (.tmp 0)⟩,
    ⟨some 11, none, .call 75 [(.tmp 10)]⟩,
    ⟨some 9, none, .mv (.tmp 11)⟩,
    ⟨some 12, none, .ext (.tmp 9) 0⟩,
    ⟨some 13, none, .ext (.tmp 9) 1⟩,
    ⟨some 14, none, .ext (.tmp 9) 2⟩,
    ⟨some 4, none, .mv (.tmp 12)⟩,
    ⟨some 5, none, .mv (.tmp 13)⟩,
    ⟨some 6, none, .mv (.tmp 14)⟩])
  (.seq (.seq (.ops [⟨some 15, none, .mv (.tmp 5)⟩,
    ⟨some 16, none, .bin .neq (.tmp 15) (.const (.int .i64 0))⟩])
  (.cond (.tmp 16)
    (.seq (.ops [⟨some 17, none, .mv (.tmp 5)⟩,
      ⟨some 2, none, .mv (.const (.slice none 0 0))⟩,
      ⟨some 3, none, .mv (.tmp 17)⟩])
    .ret)
    .skip))
  (.seq (.ops [⟨some 19, none, .mv (.tmp 4)⟩,
    ⟨some 20, none, .call 76 [(.tmp 19)]⟩,
    ⟨some 18, none, .mv (.tmp 20)⟩,
    ⟨some 21, none, .ext (.tmp 18) 0⟩,
    ⟨some 22, none, .ext (.tmp 18) 1⟩,
    ⟨some 23, none, .ext (.tmp 18) 2⟩,
    ⟨some 7, none, .mv (.tmp 21)⟩,
    ⟨some 5, none, .mv (.tmp 22)⟩,
    ⟨some 8, none, .mv (.tmp 23)⟩])
  (.seq (.seq (.ops [⟨some 24, none, .mv (.tmp 5)⟩,
    ⟨some 25, none, .bin .neq (.tmp 24) (.const (.int .i64 0))⟩])
  (.cond (.tmp 25)
    (.seq (.ops [⟨some 26, none, .mv (.tmp 5)⟩,
      ⟨some 2, none, .mv (.const (.slice none 0 0))⟩,
      ⟨some 3, none, .mv (.tmp 26)⟩])
    .ret)
    .skip))
  (.seq (.ops [⟨some 27, none, .mv (.tmp 7)⟩,
    ⟨some 28, none, .call 77 [(.tmp 27)]⟩,
    ⟨some 29, none, .ext (.tmp 28) 0⟩,
    ⟨some 30, none, .ext (.tmp 28) 1⟩,
    ⟨some 2, none, .mv (.tmp 29)⟩,
    ⟨some 3, none, .mv (.tmp 30)⟩])
  .ret))))))⟩
theorem h65 : strF Tryd.prog [] Tryd.f65 = some c65 := by kernel_rfl

/-- bytes.Equal -/
def c66 : Fun := ⟨10, [.inl 4],
  (.seq (.ops [⟨some 4, none, .mv (.const (.bool false))⟩])
  (.seq (.ops [⟨some 5, none, .mv (.tmp 0)⟩,
    ⟨some 6, none, .cvbs (.tmp 5)⟩,
    ⟨some 7, none, .mv (.tmp 1)⟩,
    ⟨some 8, none, .cvbs (.tmp 7)⟩,
    ⟨some 9, none, .bin .eql (.tmp 6) (.tmp 8)⟩,
    ⟨some 4, none, .mv (.tmp 9)⟩])
  .ret))⟩
theorem h66 : strF Tryd.prog [] Tryd.f66 = some c66 := by kernel_rfl

/-- internal/strconv.Itoa -/
def c67 : Fun := ⟨5, [.inl 2],
  (.seq (.ops [⟨some 2, none, .mv (.const (.string ⟨#[]⟩))⟩])
  (.seq (.ops [⟨some 3, none, .mv (.tmp 0)⟩,
    ⟨some 4, none, .call 78 [(.tmp 3), (.const (.int .i64 10))]⟩,
    ⟨some 2, none, .mv (.tmp 4)⟩])
  .ret))⟩
theorem h67 : strF Tryd.prog [] Tryd.f67 = some c67 := by kernel_rfl

/-- bytes.trimLeftByte -/
def c68 : Fun := ⟨21, [.inl 4],
  (.seq (.ops [⟨some 4, none, .mv (.const (.slice none 0 0))⟩])
  (.seq (.block 0
    (.loop
      (.seq (.seq (.ops [⟨some 5, none, .mv (.tmp 0)⟩,
        ⟨some 6, none, .len (.tmp 5)⟩,
        ⟨some 7, none, .bin .gtr (.tmp 6) (.const (.int .i64 0))⟩,
        ⟨some 8, none, .mv (.tmp 7)⟩,
        ⟨some 9, some (8, true), .mv (.tmp 0)⟩,
        ⟨some 10, some (8, true), .ia 1 (.tmp 9) (.const (.int .i64 0))⟩,
        ⟨some 11, some (8, true), .ld (.int .u8) (.tmp 10)⟩,
        ⟨some 12, some (8, true), .mv (.tmp 1)⟩,
        ⟨some 13, some (8, true), .bin .eql (.tmp 11) (.tmp 12)⟩,
        ⟨some 14, none, .pick (.tmp 8) (.tmp 13) (.const (.bool false))⟩])
      (.cond (.tmp 14)
        .skip
        (.exit 0)))
      (.block 1
        (.ops [⟨some 15, none, .mv (.tmp 0)⟩,
          ⟨some 16, none, .slc 1 (.tmp 15) (some (.const (.int .i64 1))) none none⟩,
          ⟨some 0, none, .mv (.tmp 16)⟩])))))
  (.seq (.seq (.ops [⟨some 17, none, .mv (.tmp 0)⟩,
    ⟨some 18, none, .len (.tmp 17)⟩,
    ⟨some 19, none, .bin .eql (.tmp 18) (.const (.int .i64 0))⟩])
  (.cond (.tmp 19)
    (.seq (.ops [⟨some 4, none, .mv (.const (.slice none 0 0))⟩])
    .ret)
    .skip))
  (.seq (.ops [⟨some 20, none, .mv (.tmp 0)⟩,
    ⟨some 4, none, .mv (.tmp 20)⟩])
  .ret))))⟩
theorem h68 : strF Tryd.prog [] Tryd.f68 = some c68 := by kernel_rfl

/-- bytes.makeASCIISet -/
def c69 : Fun := ⟨21, [.inr ((.agg 256), 2), .inl 3],
  (.seq (.ops [⟨some 2, none, .alloc 109 (.agg (Array.replicate 256 (.bool false)))⟩,
    ⟨some 3, none, .mv (.const (.bool false))⟩])
  (.seq (.seq (.ops [⟨some 4, none, .mv (.const (.int .i64 0))⟩])
  (.block 0
    (.loop
      (.seq (.seq (.ops [⟨some 6, none, .mv (.tmp 4)⟩,
        ⟨some 7, none, .mv (.tmp 0)⟩,
        ⟨some 8, none, .lens (.tmp 7)⟩,
        ⟨some 9, none, .bin .lss (.tmp 6) (.tmp 8)⟩])
      (.cond (.tmp 9)
        .skip
        (.exit 0)))
      (.seq (.block 1
        (.seq (.ops [⟨some 12, none, .mv (.tmp 0)⟩,
          ⟨some 13, none, .mv (.tmp 4)⟩,
          ⟨some 14, none, .ixs (.tmp 12) (.tmp 13)⟩,
          ⟨some 5, none, .mv (.tmp 14)⟩])
        (.seq (.seq (.ops [⟨some 15, none, .mv (.tmp 5)⟩,
          ⟨some 16, none, .bin .geq (.tmp 15) (.const (.int .u8 128))⟩])
        (.cond (.tmp 16)
          (.seq (.ops [⟨some 17, none, .ld (.agg 256) (.tmp 2)⟩,
            ⟨none, none, .st 256 (.tmp 2) (.tmp 17)⟩,
            ⟨some 3, none, .mv (.const (.bool false))⟩])
          .ret)
          .skip))
        (.ops [⟨some 18, none, .mv (.tmp 5)⟩,
          ⟨some 19, none, .iaA 256 1 (.tmp 2) (.tmp 18)⟩,
          ⟨none, none, .st 1 (.tmp 19) (.const (.bool true))⟩]))))
      (.ops [⟨some 10, none, .mv (.tmp 4)⟩,
        ⟨some 11, none, .bin .add (.tmp 10) (.const (.int .i64 1))⟩,
        ⟨some 4, none, .mv (.tmp 11)⟩]))))))
  (.seq (.ops [⟨some 20, none, .ld (.agg 256) (.tmp 2)⟩,
    ⟨none, none, .st 256 (.tmp 2) (.tmp 20)⟩,
    ⟨some 3, none, .mv (.const (.bool true))⟩])
  .ret)))⟩
theorem h69 : strF Tryd.prog [] Tryd.f69 = some c69 := by kernel_rfl

/-- bytes.trimLeftASCII -/
def c70 : Fun := ⟨20, [.inl 4],
  (.seq (.ops [⟨some 4, none, .mv (.const (.slice none 0 0))⟩])
  (.join (.block 0
    (.loop
      (.seq (.seq (.ops [⟨some 5, none, .mv (.tmp 0)⟩,
        ⟨some 6, none, .len (.tmp 5)⟩,
        ⟨some 7, none, .bin .gtr (.tmp 6) (.const (.int .i64 0))⟩])
      (.cond (.tmp 7)
        .skip
        (.exit 0)))
      (.block 1
        (.seq (.seq (.ops [⟨some 8, none, .mv (.tmp 1)⟩,
          ⟨some 9, none, .mv (.tmp 0)⟩,
          ⟨some 10, none, .ia 1 (.tmp 9) (.const (.int .i64 0))⟩,
          ⟨some 11, none, .ld (.int .u8) (.tmp 10)⟩,
          ⟨some 12, none, .call 79 [(.tmp 8), (.tmp 11)]⟩,
          ⟨some 13, none, .un .not (.tmp 12)⟩])
        (.cond (.tmp 13)
          (.exit 0)
          .skip))
        (.ops [⟨some 14, none, .mv (.tmp 0)⟩,
          ⟨some 15, none, .slc 1 (.tmp 14) (some (.const (.int .i64 1))) none none⟩,
          ⟨some 0, none, .mv (.tmp 15)⟩]))))))
  (.seq (.seq (.ops [⟨some 16, none, .mv (.tmp 0)⟩,
    ⟨some 17, none, .len (.tmp 16)⟩,
    ⟨some 18, none, .bin .eql (.tmp 17) (.const (.int .i64 0))⟩])
  (.cond (.tmp 18)
    (.seq (.ops [⟨some 4, none, .mv (.const (.slice none 0 0))⟩])
    .ret)
    .skip))
  (.seq (.ops [⟨some 19, none, .mv (.tmp 0)⟩,
    ⟨some 4, none, .mv (.tmp 19)⟩])
  .ret))))⟩
theorem h70 : strF Tryd.prog [] Tryd.f70 = some c70 := by kernel_rfl

/-- bytes.trimLeftUnicode -/
def c71 : Fun := ⟨26, [.inl 4],
  (.seq (.ops [⟨some 4, none, .mv (.const (.slice none 0 0))⟩])
  (.join (.block 0
    (.loop
      (.seq (.seq (.ops [⟨some 7, none, .mv (.tmp 0)⟩,
        ⟨some 8, none, .len (.tmp 7)⟩,
        ⟨some 9, none, .bin .gtr (.tmp 8) (.const (.int .i64 0))⟩])
      (.cond (.tmp 9)
        .skip
        (.exit 0)))
      (.block 1
        (.seq (.ops [⟨some 11, none, .mv (.tmp 0)⟩,
          ⟨some 12, none, .call 80 [(.tmp 11)]⟩,
          ⟨some 10, none, .mv (.tmp 12)⟩,
          ⟨some 13, none, .ext (.tmp 10) 0⟩,
          ⟨some 14, none, .ext (.tmp 10) 1⟩,
          ⟨some 5, none, .mv (.tmp 13)⟩,
          ⟨some 6, none, .mv (.tmp 14)⟩])
        (.seq (.seq (.ops [⟨some 15, none, .mv (.tmp 1)⟩,
          ⟨some 16, none, .mv (.tmp 5)⟩,
          ⟨some 17, none, .call 81 [(.tmp 15), (.tmp 16)]⟩,
          ⟨some 18, none, .un .not (.tmp 17)⟩])
        (.cond (.tmp 18)
          (.exit 0)
          .skip))
        (.ops [⟨some 19, none, .mv (.tmp 0)⟩,
          ⟨some 20, none, .mv (.tmp 6)⟩,
          ⟨some 21, none, .slc 1 (.tmp 19) (some (.tmp 20)) none none⟩,
          ⟨some 0, none, .mv (.tmp 21)⟩])))))))
  (.seq (.seq (.ops [⟨some 22, none, .mv (.tmp 0)⟩,
    ⟨some 23, none, .len (.tmp 22)⟩,
    ⟨some 24, none, .bin .eql (.tmp 23) (.const (.int .i64 0))⟩])
  (.cond (.tmp 24)
    (.seq (.ops [⟨some 4, none, .mv (.const (.slice none 0 0))⟩])
    .ret)
    .skip))
  (.seq (.ops [⟨some 25, none, .mv (.tmp 0)⟩,
    ⟨some 4, none, .mv (.tmp 25)⟩])
  .ret))))⟩
theorem h71 : strF Tryd.prog [] Tryd.f71 = some c71 := by kernel_rfl

/-- chirograph/nat.cut -/
def c72 : Fun := ⟨21, [.inl 2],
  (.seq (.ops [⟨some 2, none, .mv (.const (.slice none 0 0))⟩])
  (.seq (.ops [⟨some 4, none, .mv (.tmp 0)⟩,
    ⟨some 5, none, .len (.tmp 4)⟩,
    ⟨some 3, none, .mv (.tmp 5)⟩])
  (.seq (.block 0
    (.loop
      (.seq (.seq (.ops [⟨some 6, none, .mv (.tmp 3)⟩,
        ⟨some 7, none, .bin .gtr (.tmp 6) (.const (.int .i64 0))⟩,
        ⟨some 8, none, .mv (.tmp 7)⟩,
        ⟨some 9, some (8, true), .mv (.tmp 0)⟩,
        ⟨some 10, some (8, true), .mv (.tmp 3)⟩,
        ⟨some 11, some (8, true), .bin .sub (.tmp 10) (.const (.int .i64 1))⟩,
        ⟨some 12, some (8, true), .ia 1 (.tmp 9) (.tmp 11)⟩,
        ⟨some 13, some (8, true), .ld (.int .u32) (.tmp 12)⟩,
        ⟨some 14, some (8, true), .bin .eql (.tmp 13) (.const (.int .u32 0))⟩,
        ⟨some 15, none, .pick (.tmp 8) (.tmp 14) (.const (.bool false))⟩])
      (.cond (.tmp 15)
        .skip
        (.exit 0)))
      (.block 1
        (.ops [⟨some 16, none, .mv (.tmp 3)⟩,
          ⟨some 17, none, .bin .sub (.tmp 16) (.const (.int .i64 1))⟩,
          ⟨some 3, none, .mv (.tmp 17)⟩])))))
  (.seq (.ops [⟨some 18, none, .mv (.tmp 0)⟩,
    ⟨some 19, none, .mv (.tmp 3)⟩,
    ⟨some 20, none, .slc 1 (.tmp 18) none (some (.tmp 19)) none⟩,
    ⟨some 2, none, .mv (.tmp 20)⟩])
  .ret))))⟩
theorem h72 : strF Tryd.prog [] Tryd.f72 = some c72 := by kernel_rfl

/-- math/bits.Len32 -/
def c73 : Fun := ⟨19, [.inl 2],
  (.seq (.ops [⟨some 2, none, .mv (.const (.int .i64 0))⟩])
  (.join (.seq (.ops [⟨some 3, none, .mv (.tmp 0)⟩,
    ⟨some 4, none, .bin .geq (.tmp 3) (.const (.int .u32 65536))⟩])
  (.cond (.tmp 4)
    (.seq (.ops [⟨some 5, none, .mv (.tmp 0)⟩,
      ⟨some 6, none, .bin .shr (.tmp 5) (.const (.int .u64 16))⟩,
      ⟨some 0, none, .mv (.tmp 6)⟩])
    (.ops [⟨some 2, none, .mv (.const (.int .i64 16))⟩]))
    .skip))
  (.join (.seq (.ops [⟨some 7, none, .mv (.tmp 0)⟩,
    ⟨some 8, none, .bin .geq (.tmp 7) (.const (.int .u32 256))⟩])
  (.cond (.tmp 8)
    (.seq (.ops [⟨some 9, none, .mv (.tmp 0)⟩,
      ⟨some 10, none, .bin .shr (.tmp 9) (.const (.int .u64 8))⟩,
      ⟨some 0, none, .mv (.tmp 10)⟩])
    (.ops [⟨some 11, none, .mv (.tmp 2)⟩,
      ⟨some 12, none, .bin .add (.tmp 11) (.const (.int .i64 8))⟩,
      ⟨some 2, none, .mv (.tmp 12)⟩]))
    .skip))
  (.seq (.ops [⟨some 13, none, .mv (.tmp 2)⟩,
    ⟨some 14, none, .mv (.tmp 0)⟩,
    ⟨some 15, none, .cv .u8 (.tmp 14)⟩,
    ⟨some 16, none, .ixs (.const (.string ⟨#[0, 1, 2, 2, 3, 3, 3, 3, 4, 4, 4, 4, 4, 4, 4, 4, 5, 5, 5, 5, 5, 5, 5, 5, 5, 5, 5, 5, 5, 5, 5, 5, 6, 6, 6, 6, 6, 6, 6, 6, 6, 6, 6, 6, 6, 6, 6, 6, 6, 6, 6, 6, 6, 6, 6, 6, 6, 6, 6, 6, 6, 6, 6, 6, 7, 7, 7, 7, 7, 7, 7, 7, 7, 7, 7, 7, 7, 7, 7, 7, 7, 7, 7, 7, 7, 7, 7, 7, 7, 7, 7, 7, 7, 7, 7, 7, 7, 7, 7, 7, 7, 7, 7, 7, 7, 7, 7, 7, 7, 7, 7, 7, 7, 7, 7, 7, 7, 7, 7, 7, 7, 7, 7, 7, 7, 7, 7, 7, 8, 8, 8, 8, 8, 8, 8, 8, 8, 8, 8, 8, 8, 8, 8, 8, 8, 8, 8, 8, 8, 8, 8, 8, 8, 8, 8, 8, 8, 8, 8, 8, 8, 8, 8, 8, 8, 8, 8, 8, 8, 8, 8, 8, 8, 8, 8, 8, 8, 8, 8, 8, 8, 8, 8, 8, 8, 8, 8, 8, 8, 8, 8, 8, 8, 8, 8, 8, 8, 8, 8, 8, 8, 8, 8, 8, 8, 8, 8, 8, 8, 8, 8, 8, 8, 8, 8, 8, 8, 8, 8, 8, 8, 8, 8, 8, 8, 8, 8, 8, 8, 8, 8, 8, 8, 8, 8, 8, 8, 8, 8, 8, 8, 8, 8, 8, 8, 8, 8, 8, 8, 8, 8, 8, 8, 8, 8, 8]⟩)) (.tmp 15)⟩,
    ⟨some 17, none, .cv .i64 (.tmp 16)⟩,
    ⟨some 18, none, .bin .add (.tmp 13) (.tmp 17)⟩,
    ⟨some 2, none, .mv (.tmp 18)⟩])
  .ret))))⟩
theorem h73 : strF Tryd.prog [] Tryd.f73 = some c73 := by kernel_rfl

/-- chirograph/chirographref01.plain -/
def c74 : Fun := ⟨21, [.inl 2],
  (.seq (.ops [⟨some 2, none, .mv (.const (.slice none 0 0))⟩])
  (.seq (.ops [⟨some 4, none, .mv (.tmp 0)⟩,
    ⟨some 5, none, .len (.tmp 4)⟩,
    ⟨some 3, none, .mv (.tmp 5)⟩])
  (.seq (.block 0
    (.loop
      (.seq (.seq (.ops [⟨some 6, none, .mv (.tmp 3)⟩,
        ⟨some 7, none, .bin .gtr (.tmp 6) (.const (.int .i64 0))⟩,
        ⟨some 8, none, .mv (.tmp 7)⟩,
        ⟨some 9, some (8, true), .mv (.tmp 0)⟩,
        ⟨some 10, some (8, true), .mv (.tmp 3)⟩,
        ⟨some 11, some (8, true), .bin .sub (.tmp 10) (.const (.int .i64 1))⟩,
        ⟨some 12, some (8, true), .ia 1 (.tmp 9) (.tmp 11)⟩,
        ⟨some 13, some (8, true), .ld (.int .u64) (.tmp 12)⟩,
        ⟨some 14, some (8, true), .bin .eql (.tmp 13) (.const (.int .u64 0))⟩,
        ⟨some 15, none, .pick (.tmp 8) (.tmp 14) (.const (.bool false))⟩])
      (.cond (.tmp 15)
        .skip
        (.exit 0)))
      (.block 1
        (.ops [⟨some 16, none, .mv (.tmp 3)⟩,
          ⟨some 17, none, .bin .sub (.tmp 16) (.const (.int .i64 1))⟩,
          ⟨some 3, none, .mv (.tmp 17)⟩])))))
  (.seq (.ops [⟨some 18, none, .mv (.tmp 0)⟩,
    ⟨some 19, none, .mv (.tmp 3)⟩,
    ⟨some 20, none, .slc 1 (.tmp 18) none (some (.tmp 19)) none⟩,
    ⟨some 2, none, .mv (.tmp 20)⟩])
  .ret))))⟩
theorem h74 : strF Tryd.prog [] Tryd.f74 = some c74 := by kernel_rfl

/-- chirograph/ber.Parse -/
def c75 : Fun := ⟨34, [.inl 2, .inl 3, .inl 4],
  (.seq (.ops [⟨some 2, none, .mv (.const (.slice none 0 0))⟩,
    ⟨some 3, none, .mv (.const (.int .i64 0))⟩,
    ⟨some 4, none, .mv (.const (.int .i64 0))⟩])
  (.seq (.seq (.ops [⟨some 8, none, .mv (.tmp 0)⟩,
    ⟨some 9, none, .len (.tmp 8)⟩,
    ⟨some 10, none, .bin .gtr (.tmp 9) (.const (.int .i64 16777216))⟩])
  (.cond (.tmp 10)
    (.seq (.ops [⟨some 2, none, .mv (.const (.slice none 0 0))⟩,
      ⟨some 3, none, .mv (.const (.int .i64 3))⟩,
      ⟨some 4, none, .mv (.const (.int .i64 0))⟩])
    .ret)
    .skip))
  (.seq (.ops [⟨some 11, none, .mv (.tmp 0)⟩,
    ⟨some 12, none, .bld #[(.slice none 0 0), (.slice none 0 0), (.slice none 0 0)] [(0, 1), (1, 1), (2, 1)] [(0, (.tmp 11))]⟩,
    ⟨some 13, none, .box 129 (.tmp 12)⟩,
    ⟨some 5, none, .mv (.tmp 13)⟩])
  (.seq (.ops [⟨some 15, none, .mv (.tmp 5)⟩,
    ⟨some 16, none, .call 82 [(.tmp 15)]⟩,
    ⟨some 14, none, .mv (.tmp 16)⟩,
    ⟨some 17, none, .ext (.tmp 14) 0⟩,
    ⟨some 18, none, .ext (.tmp 14) 1⟩,
    ⟨some 6, none, .mv (.tmp 17)⟩,
    ⟨some 7, none, .mv (.tmp 18)⟩])
  (.seq (.seq (.ops [⟨some 20, none, .mv (.tmp 7)⟩,
    ⟨some 21, none, .mv (.tmp 6)⟩,
    ⟨some 22, none, .call 83 [(.tmp 20), (.tmp 21)]⟩,
    ⟨some 19, none, .mv (.tmp 22)⟩,
    ⟨some 23, none, .ext (.tmp 19) 0⟩,
    ⟨some 24, none, .ext (.tmp 19) 1⟩,
    ⟨some 3, none, .mv (.tmp 23)⟩,
    ⟨some 4, none, .mv (.tmp 24)⟩])
  (.seq (.ops [⟨some 25, none, .mv (.tmp 3)⟩,
    ⟨some 26, none, .bin .neq (.tmp 25) (.const (.int .i64 0))⟩])
  (.cond (.tmp 26)
    (.seq (.ops [⟨some 27, none, .mv (.tmp 3)⟩,
      ⟨some 28, none, .mv (.tmp 4)⟩,
      ⟨some 2, none, .mv (.const (.slice none 0 0))⟩,
      ⟨some 3, none, .mv (.tmp 27)⟩,
      ⟨some 4, none, .mv (.tmp 28)⟩])
    .ret)
    .skip)))
  (.seq (.ops [⟨some 29, none, .mv (.tmp 5)⟩,
    ⟨some 30, none, .nilc (.tmp 29)⟩,
    ⟨some 31, none, .fa 2 (.tmp 30)⟩,
    ⟨some 32, none, .ld .slice (.tmp 31)⟩,
    ⟨some 33, none, .mv (.tmp 6)⟩,
    ⟨some 2, none, .mv (.tmp 32)⟩,
    ⟨some 3, none, .mv (.const (.int .i64 0))⟩,
    ⟨some 4, none, .mv (.tmp 33)⟩])
  .ret))))))⟩
theorem h75 : strF Tryd.prog [] Tryd.f75 = some c75 := by kernel_rfl

/-- chirograph/ber.Normal -/
def c76 : Fun := ⟨20, [.inl 2, .inl 3, .inl 4],
  (.seq (.ops [⟨some 2, none, .mv (.const (.slice none 0 0))⟩,
    ⟨some 3, none, .mv (.const (.int .i64 0))⟩,
    ⟨some 4, none, .mv (.const (.int .i64 0))⟩])
  (.seq (.seq (.ops [⟨some 5, none, .mv (.tmp 0)⟩,
    ⟨some 6, none, .call 84 [(.tmp 5)]⟩,
    ⟨some 7, none, .un .not (.tmp 6)⟩])
  (.cond (.tmp 7)
    (.seq (.ops [⟨some 2, none, .mv (.const (.slice none 0 0))⟩,
      ⟨some 3, none, .mv (.const (.int .i64 35))⟩,
      ⟨some 4, none, .mv (.const (.int .i64 0))⟩])
    .ret)
    .skip))
  (.seq (.seq (.ops [⟨some 9, none, .mv (.tmp 0)⟩,
    ⟨some 10, none, .call 85 [(.tmp 9)]⟩,
    ⟨some 11, none, .call 83 [(.tmp 10), (.const (.int .i64 0))]⟩,
    ⟨some 8, none, .mv (.tmp 11)⟩,
    ⟨some 12, none, .ext (.tmp 8) 0⟩,
    ⟨some 13, none, .ext (.tmp 8) 1⟩,
    ⟨some 3, none, .mv (.tmp 12)⟩,
    ⟨some 4, none, .mv (.tmp 13)⟩])
  (.seq (.ops [⟨some 14, none, .mv (.tmp 3)⟩,
    ⟨some 15, none, .bin .neq (.tmp 14) (.const (.int .i64 0))⟩])
  (.cond (.tmp 15)
    (.seq (.ops [⟨some 16, none, .mv (.tmp 3)⟩,
      ⟨some 17, none, .mv (.tmp 4)⟩,
      ⟨some 2, none, .mv (.const (.slice none 0 0))⟩,
      ⟨some 3, none, .mv (.tmp 16)⟩,
      ⟨some 4, none, .mv (.tmp 17)⟩])
    .ret)
    .skip)))
  (.seq (.ops [⟨some 18, none, .mv (.tmp 0)⟩,
    ⟨some 19, none, .call 86 [(.const (.slice none 0 0)), (.tmp 18), (.const (.int .i64 0))]⟩,
    ⟨some 2, none, .mv (.tmp 19)⟩,
    ⟨some 3, none, .mv (.const (.int .i64 0))⟩,
    ⟨some 4, none, .mv (.const (.int .i64 0))⟩])
  .ret))))⟩
theorem h76 : strF Tryd.prog [] Tryd.f76 = some c76 := by kernel_rfl

/-- chirograph/ber.Encode -/
def c77 : Fun := ⟨25, [.inl 2, .inl 3],
  (.seq (.ops [⟨some 2, none, .mv (.const (.slice none 0 0))⟩,
    ⟨some 3, none, .mv (.const (.int .i64 0))⟩])
  (.seq (.seq (.ops [⟨some 5, none, .mv (.tmp 0)⟩,
    ⟨some 6, none, .call 84 [(.tmp 5)]⟩,
    ⟨some 7, none, .un .not (.tmp 6)⟩])
  (.cond (.tmp 7)
    (.seq (.ops [⟨some 2, none, .mv (.const (.slice none 0 0))⟩,
      ⟨some 3, none, .mv (.const (.int .i64 35))⟩])
    .ret)
    .skip))
  (.seq (.seq (.ops [⟨some 8, none, .mv (.tmp 0)⟩,
    ⟨some 9, none, .call 87 [(.tmp 8)]⟩,
    ⟨some 4, none, .mv (.tmp 9)⟩])
  (.seq (.draw 13 [⟨some 10, none, .mv (.tmp 4)⟩,
    ⟨some 11, none, .ia 1 (.tmp 10) (.const (.int .i64 0))⟩,
    ⟨some 12, none, .ld (.int .i64) (.tmp 11)⟩,
    ⟨some 13, none, .mv (.tmp 0)⟩,
    ⟨some 14, none, .ia 5 (.tmp 13) (.const (.int .i64 0))⟩,
    ⟨some 15, none, .ld (.agg 5) (.tmp 14)⟩,
    ⟨some 16, none, .mv (.tmp 4)⟩,
    ⟨some 17, none, .ia 1 (.tmp 16) (.const (.int .i64 0))⟩,
    ⟨some 18, none, .ld (.int .i64) (.tmp 17)⟩,
    ⟨some 19, none, .call 88 [(.tmp 15), (.tmp 18)]⟩,
    ⟨some 20, none, .len (.tmp 19)⟩,
    ⟨some 21, none, .bin .add (.tmp 12) (.tmp 20)⟩,
    ⟨some 22, none, .bin .gtr (.tmp 21) (.const (.int .i64 16777216))⟩])
  (.cond (.tmp 22)
    (.seq (.ops [⟨some 2, none, .mv (.const (.slice none 0 0))⟩,
      ⟨some 3, none, .mv (.const (.int .i64 3))⟩])
    .ret)
    .skip)))
  (.seq (.ops [⟨some 23, none, .mv (.tmp 0)⟩,
    ⟨some 24, none, .call 89 [(.tmp 23)]⟩,
    ⟨some 2, none, .mv (.tmp 24)⟩,
    ⟨some 3, none, .mv (.const (.int .i64 0))⟩])
  .ret))))⟩
theorem h77 : strF Tryd.prog [] Tryd.f77 = some c77 := by kernel_rfl

/-- internal/strconv.FormatInt -/
def c78 : Fun := ⟨54, [.inl 4],
  (.seq (.ops [⟨some 4, none, .mv (.const (.string ⟨#[]⟩))⟩])
  (.seq (.seq (.ops [⟨some 10, none, .mv (.tmp 1)⟩,
    ⟨some 11, none, .bin .eql (.tmp 10) (.const (.int .i64 10))⟩])
  (.cond (.tmp 11)
    (.seq (.seq (.ops [⟨some 12, none, .mv (.tmp 0)⟩,
      ⟨some 13, none, .bin .leq (.const (.int .i64 0)) (.tmp 12)⟩,
      ⟨some 14, none, .mv (.tmp 13)⟩,
      ⟨some 15, some (14, true), .mv (.tmp 0)⟩,
      ⟨some 16, some (14, true), .bin .lss (.tmp 15) (.const (.int .i64 100))⟩,
      ⟨some 17, none, .pick (.tmp 14) (.tmp 16) (.const (.bool false))⟩])
    (.cond (.tmp 17)
      (.seq (.ops [⟨some 18, none, .mv (.tmp 0)⟩,
        ⟨some 19, none, .call 90 [(.tmp 18)]⟩,
        ⟨some 4, none, .mv (.tmp 19)⟩])
      .ret)
      .skip))
    (.seq (.ops [⟨some 5, none, .alloc 141 (.agg (Array.replicate 24 (.int .u8 0)))⟩])
    (.seq (.ops [⟨some 20, none, .mv (.tmp 0)⟩,
      ⟨some 21, none, .cv .u64 (.tmp 20)⟩,
      ⟨some 6, none, .mv (.tmp 21)⟩])
    (.join (.seq (.ops [⟨some 22, none, .mv (.tmp 0)⟩,
      ⟨some 23, none, .bin .lss (.tmp 22) (.const (.int .i64 0))⟩])
    (.cond (.tmp 23)
      (.ops [⟨some 24, none, .mv (.tmp 6)⟩,
        ⟨some 25, none, .un .neg (.tmp 24)⟩,
        ⟨some 6, none, .mv (.tmp 25)⟩])
      .skip))
    (.seq (.ops [⟨some 26, none, .mv (.tmp 6)⟩,
      ⟨some 27, none, .call 91 [(.tmp 26)]⟩,
      ⟨some 7, none, .mv (.tmp 27)⟩])
    (.seq (.ops [⟨some 28, none, .mv (.tmp 7)⟩,
      ⟨some 29, none, .bin .add (.const (.int .i64 1)) (.tmp 28)⟩,
      ⟨some 30, none, .sla 24 1 (.tmp 5) (some (.const (.int .i64 1))) (some (.tmp 29))⟩,
      ⟨some 31, none, .mv (.tmp 6)⟩,
      ⟨some 32, none, .call 92 [(.tmp 30), (.tmp 31)]⟩])
    (.seq (.seq (.ops [⟨some 33, none, .mv (.tmp 0)⟩,
      ⟨some 34, none, .bin .lss (.tmp 33) (.const (.int .i64 0))⟩])
    (.cond (.tmp 34)
      (.seq (.ops [⟨some 35, none, .iaA 24 1 (.tmp 5) (.const (.int .i64 0))⟩,
        ⟨none, none, .st 1 (.tmp 35) (.const (.int .u8 45))⟩])
      (.seq (.ops [⟨some 36, none, .mv (.tmp 7)⟩,
        ⟨some 37, none, .bin .add (.const (.int .i64 1)) (.tmp 36)⟩,
        ⟨some 38, none, .sla 24 1 (.tmp 5) none (some (.tmp 37))⟩,
        ⟨some 39, none, .cvbs (.tmp 38)⟩,
        ⟨some 4, none, .mv (.tmp 39)⟩])
      .ret))
      .skip))
    (.seq (.ops [⟨some 40, none, .mv (.tmp 7)⟩,
      ⟨some 41, none, .bin .add (.const (.int .i64 1)) (.tmp 40)⟩,
      ⟨some 42, none, .sla 24 1 (.tmp 5) (some (.const (.int .i64 1))) (some (.tmp 41))⟩,
      ⟨some 43, none, .cvbs (.tmp 42)⟩,
      ⟨some 4, none, .mv (.tmp 43)⟩])
    .ret))))))))
    .skip))
  (.seq (.ops [⟨some 45, none, .mv (.tmp 0)⟩,
    ⟨some 46, none, .cv .u64 (.tmp 45)⟩,
    ⟨some 47, none, .mv (.tmp 1)⟩,
    ⟨some 48, none, .mv (.tmp 0)⟩,
    ⟨some 49, none, .bin .lss (.tmp 48) (.const (.int .i64 0))⟩,
    ⟨some 50, none, .call 93 [(.const (.slice none 0 0)), (.tmp 46), (.tmp 47), (.tmp 49), (.const (.bool false))]⟩,
    ⟨some 44, none, .mv (.tmp 50)⟩,
    ⟨some 51, none, .ext (.tmp 44) 0⟩,
    ⟨some 52, none, .ext (.tmp 44) 1⟩,
    ⟨some 8, none, .mv (.tmp 51)⟩,
    ⟨some 9, none, .mv (.tmp 52)⟩])
  (.seq (.ops [⟨some 53, none, .mv (.tmp 9)⟩,
    ⟨some 4, none, .mv (.tmp 53)⟩])
  .ret))))⟩
theorem h78 : strF Tryd.prog [] Tryd.f78 = some c78 := by kernel_rfl

/-- (*bytes.asciiSet).contains -/
def c79 : Fun := ⟨10, [.inl 4],
  (.seq (.ops [⟨some 4, none, .mv (.const (.bool false))⟩])
  (.seq (.ops [⟨some 5, none, .mv (.tmp 0)⟩,
    ⟨some 6, none, .mv (.tmp 1)⟩,
    ⟨some 7, none, .nilc (.tmp 5)⟩,
    ⟨some 8, none, .iaA 256 1 (.tmp 7) (.tmp 6)⟩,
    ⟨some 9, none, .ld .bool (.tmp 8)⟩,
    ⟨some 4, none, .mv (.tmp 9)⟩])
  .ret))⟩
theorem h79 : strF Tryd.prog [] Tryd.f79 = some c79 := by kernel_rfl

/-- unicode/utf8.DecodeRune -/
def c80 : Fun := ⟨22, [.inl 2, .inl 3],
  (.seq (.ops [⟨some 2, none, .mv (.const (.int .i32 0))⟩,
    ⟨some 3, none, .mv (.const (.int .i64 0))⟩])
  (.join (.seq (.ops [⟨some 6, none, .mv (.tmp 0)⟩,
    ⟨some 7, none, .len (.tmp 6)⟩,
    ⟨some 8, none, .mv (.const (.int .i64 0))⟩])
  (.block 0
    (.loop
      (.seq (.ops [⟨some 9, none, .bin .lss (.tmp 8) (.tmp 7)⟩])
      (.seq (.cond (.tmp 9)
        .skip
        (.exit 0))
      (.seq (.block 1
        (.seq (.ops [⟨some 10, none, .ia 1 (.tmp 6) (.tmp 8)⟩,
          ⟨some 11, none, .ld (.int .u8) (.tmp 10)⟩,
          ⟨some 5, none, .mv (.tmp 11)⟩])
        (.seq (.seq (.ops [⟨some 12, none, .mv (.tmp 5)⟩,
          ⟨some 13, none, .bin .lss (.tmp 12) (.const (.int .u8 128))⟩])
        (.cond (.tmp 13)
          (.seq (.ops [⟨some 14, none, .mv (.tmp 5)⟩,
            ⟨some 15, none, .cv .i32 (.tmp 14)⟩,
            ⟨some 2, none, .mv (.tmp 15)⟩,
            ⟨some 3, none, .mv (.const (.int .i64 1))⟩])
          .ret)
          .skip))
        (.exit 0))))
      (.ops [⟨some 16, none, .bin .add (.tmp 8) (.const (.int .i64 1))⟩,
        ⟨some 8, none, .mv (.tmp 16)⟩])))))))
  (.seq (.ops [⟨some 18, none, .mv (.tmp 0)⟩,
    ⟨some 19, none, .call 94 [(.tmp 18)]⟩,
    ⟨some 17, none, .mv (.tmp 19)⟩,
    ⟨some 20, none, .ext (.tmp 17) 0⟩,
    ⟨some 21, none, .ext (.tmp 17) 1⟩,
    ⟨some 2, none, .mv (.tmp 20)⟩,
    ⟨some 3, none, .mv (.tmp 21)⟩])
  .ret)))⟩
theorem h80 : strF Tryd.prog [] Tryd.f80 = some c80 := by kernel_rfl

/-- bytes.containsRune -/
def c81 : Fun := ⟨15, [.inl 4],
  (.seq (.ops [⟨some 4, none, .mv (.const (.bool false))⟩])
  (.seq (.seq (.ops [⟨some 7, none, .mv (.tmp 0)⟩,
    ⟨some 8, none, .rgs (.tmp 7)⟩])
  (.block 0
    (.loop
      (.seq (.ops [⟨some 9, none, .nxs (.tmp 8)⟩,
        ⟨some 10, none, .ext (.tmp 9) 0⟩])
      (.seq (.cond (.tmp 10)
        .skip
        (.exit 0))
      (.block 1
        (.seq (.ops [⟨some 11, none, .ext (.tmp 9) 2⟩,
          ⟨some 6, none, .mv (.tmp 11)⟩])
        (.seq (.ops [⟨some 12, none, .mv (.tmp 6)⟩,
          ⟨some 13, none, .mv (.tmp 1)⟩,
          ⟨some 14, none, .bin .eql (.tmp 12) (.tmp 13)⟩])
        (.cond (.tmp 14)
          (.seq (.ops [⟨some 4, none, .mv (.const (.bool true))⟩])
          .ret)
          .skip)))))))))
  (.seq (.ops [⟨some 4, none, .mv (.const (.bool false))⟩])
  .ret)))⟩
theorem h81 : strF Tryd.prog [] Tryd.f81 = some c81 := by kernel_rfl

/-- chirograph/ber.told -/
def c83 : Fun := ⟨19, [.inl 4, .inl 5],
  (.seq (.ops [⟨some 4, none, .mv (.const (.int .i64 0))⟩,
    ⟨some 5, none, .mv (.const (.int .i64 0))⟩])
  (.seq (.ops [⟨some 6, none, .alloc 149 (.pointer none)⟩])
  (.seq (.seq (.ops [⟨some 7, none, .mv (.tmp 0)⟩,
    ⟨some 8, none, .mki 153 (.tmp 6)⟩,
    ⟨some 9, none, .call 96 [(.tmp 7), (.tmp 8)]⟩])
  (.cond (.tmp 9)
    (.seq (.draw 10 [⟨some 10, none, .ld .pointer (.tmp 6)⟩,
      ⟨some 11, none, .nilc (.tmp 10)⟩,
      ⟨some 12, none, .fa 0 (.tmp 11)⟩,
      ⟨some 13, none, .ld (.int .i64) (.tmp 12)⟩,
      ⟨some 14, none, .ld .pointer (.tmp 6)⟩,
      ⟨some 15, none, .nilc (.tmp 14)⟩,
      ⟨some 16, none, .fa 1 (.tmp 15)⟩,
      ⟨some 17, none, .ld (.int .i64) (.tmp 16)⟩,
      ⟨some 4, none, .mv (.tmp 13)⟩,
      ⟨some 5, none, .mv (.tmp 17)⟩])
    .ret)
    .skip))
  (.seq (.ops [⟨some 18, none, .mv (.tmp 1)⟩,
    ⟨some 4, none, .mv (.const (.int .i64 0))⟩,
    ⟨some 5, none, .mv (.tmp 18)⟩])
  .ret))))⟩
theorem h83 : strF Tryd.prog [] Tryd.f83 = some c83 := by kernel_rfl

/-- chirograph/ber.tree -/
def c84 : Fun := ⟨91, [.inl 2],
  (.seq (.ops [⟨some 2, none, .mv (.const (.bool false))⟩])
  (.seq (.seq (.ops [⟨some 6, none, .mv (.tmp 0)⟩,
    ⟨some 7, none, .len (.tmp 6)⟩,
    ⟨some 8, none, .bin .eql (.tmp 7) (.const (.int .i64 0))⟩,
    ⟨some 9, none, .mv (.tmp 8)⟩,
    ⟨some 10, some (9, false), .mv (.tmp 0)⟩,
    ⟨some 11, some (9, false), .len (.tmp 10)⟩,
    ⟨some 12, some (9, false), .bin .gtr (.tmp 11) (.const (.int .i64 65536))⟩,
    ⟨some 13, none, .pick (.tmp 9) (.const (.bool true)) (.tmp 12)⟩,
    ⟨some 14, none, .mv (.tmp 13)⟩,
    ⟨some 15, some (14, false), .mv (.tmp 0)⟩,
    ⟨some 16, some (14, false), .ia 5 (.tmp 15) (.const (.int .i64 0))⟩,
    ⟨some 17, some (14, false), .fa 0 (.tmp 16)⟩,
    ⟨some 18, some (14, false), .ld (.int .i64) (.tmp 17)⟩,
    ⟨some 19, some (14, false), .bin .neq (.tmp 18) (.const (.int .i64 0))⟩,
    ⟨some 20, none, .pick (.tmp 14) (.const (.bool true)) (.tmp 19)⟩])
  (.cond (.tmp 20)
    (.seq (.ops [⟨some 2, none, .mv (.const (.bool false))⟩])
    .ret)
    .skip))
  (.seq (.seq (.ops [⟨some 21, none, .mv (.tmp 0)⟩,
    ⟨some 22, none, .len (.tmp 21)⟩,
    ⟨some 23, none, .mv (.const (.int .i64 0))⟩])
  (.block 0
    (.loop
      (.seq (.ops [⟨some 24, none, .bin .lss (.tmp 23) (.tmp 22)⟩])
      (.seq (.cond (.tmp 24)
        .skip
        (.exit 0))
      (.join (.block 1
        (.seq (.ops [⟨some 25, none, .mv (.tmp 23)⟩,
          ⟨some 26, none, .ia 5 (.tmp 21) (.tmp 23)⟩,
          ⟨some 27, none, .ld (.agg 5) (.tmp 26)⟩,
          ⟨some 4, none, .alloc 101 (.agg #[(.int .i64 0), (.int .i64 0), (.int .i64 0), (.bool false), (.slice none 0 0)])⟩,
          ⟨some 3, none, .mv (.tmp 25)⟩,
          ⟨none, none, .st 5 (.tmp 4) (.tmp 27)⟩])
        (.seq (.seq (.ops [⟨some 28, none, .fa 1 (.tmp 4)⟩,
          ⟨some 29, none, .ld (.int .i64) (.tmp 28)⟩,
          ⟨some 30, none, .bin .andNot (.tmp 29) (.const (.int .i64 3))⟩,
          ⟨some 31, none, .bin .neq (.tmp 30) (.const (.int .i64 0))⟩,
          ⟨some 32, none, .mv (.tmp 31)⟩,
          ⟨some 33, some (32, false), .fa 2 (.tmp 4)⟩,
          ⟨some 34, some (32, false), .ld (.int .i64) (.tmp 33)⟩,
          ⟨some 35, some (32, false), .bin .lss (.tmp 34) (.const (.int .i64 0))⟩,
          ⟨some 36, none, .pick (.tmp 32) (.const (.bool true)) (.tmp 35)⟩,
          ⟨some 37, none, .mv (.tmp 36)⟩,
          ⟨some 38, some (37, false), .fa 2 (.tmp 4)⟩,
          ⟨some 39, some (37, false), .ld (.int .i64) (.tmp 38)⟩,
          ⟨some 40, some (37, false), .bin .gtr (.tmp 39) (.const (.int .i64 268435455))⟩,
          ⟨some 41, none, .pick (.tmp 37) (.const (.bool true)) (.tmp 40)⟩,
          ⟨some 42, none, .mv (.tmp 41)⟩,
          ⟨some 43, some (42, false), .fa 1 (.tmp 4)⟩,
          ⟨some 44, some (42, false), .ld (.int .i64) (.tmp 43)⟩,
          ⟨some 45, some (42, false), .fa 2 (.tmp 4)⟩,
          ⟨some 46, some (42, false), .ld (.int .i64) (.tmp 45)⟩,
          ⟨some 47, some (42, false), .bin .or (.tmp 44) (.tmp 46)⟩,
          ⟨some 48, some (42, false), .bin .eql (.tmp 47) (.const (.int .i64 0))⟩,
          ⟨some 49, none, .pick (.tmp 42) (.const (.bool true)) (.tmp 48)⟩,
          ⟨some 50, none, .mv (.tmp 49)⟩,
          ⟨some 51, some (50, false), .fa 3 (.tmp 4)⟩,
          ⟨some 52, some (50, false), .ld .bool (.tmp 51)⟩,
          ⟨some 53, some (50, false), .mv (.tmp 52)⟩,
          ⟨some 54, some (53, true), .fa 4 (.tmp 4)⟩,
          ⟨some 55, some (53, true), .ld .slice (.tmp 54)⟩,
          ⟨some 56, some (53, true), .len (.tmp 55)⟩,
          ⟨some 57, some (53, true), .bin .neq (.tmp 56) (.const (.int .i64 0))⟩,
          ⟨some 58, some (50, false), .pick (.tmp 53) (.tmp 57) (.const (.bool false))⟩,
          ⟨some 59, none, .pick (.tmp 50) (.const (.bool true)) (.tmp 58)⟩])
        (.cond (.tmp 59)
          (.seq (.ops [⟨some 2, none, .mv (.const (.bool false))⟩])
          .ret)
          .skip))
        (.seq (.seq (.ops [⟨some 60, none, .mv (.tmp 3)⟩,
          ⟨some 61, none, .bin .eql (.tmp 60) (.const (.int .i64 0))⟩])
        (.cond (.tmp 61)
          (.exit 1)
          .skip))
        (.seq (.ops [⟨some 62, none, .mv (.tmp 0)⟩,
          ⟨some 63, none, .mv (.tmp 3)⟩,
          ⟨some 64, none, .bin .sub (.tmp 63) (.const (.int .i64 1))⟩,
          ⟨some 65, none, .ia 5 (.tmp 62) (.tmp 64)⟩,
          ⟨some 66, none, .fa 0 (.tmp 65)⟩,
          ⟨some 67, none, .ld (.int .i64) (.tmp 66)⟩,
          ⟨some 5, none, .mv (.tmp 67)⟩])
        (.join (.seq (.ops [⟨some 68, none, .mv (.tmp 0)⟩,
          ⟨some 69, none, .mv (.tmp 3)⟩,
          ⟨some 70, none, .bin .sub (.tmp 69) (.const (.int .i64 1))⟩,
          ⟨some 71, none, .ia 5 (.tmp 68) (.tmp 70)⟩,
          ⟨some 72, none, .fa 3 (.tmp 71)⟩,
          ⟨some 73, none, .ld .bool (.tmp 72)⟩])
        (.cond (.tmp 73)
          (.ops [⟨some 74, none, .mv (.tmp 5)⟩,
            ⟨some 75, none, .bin .add (.tmp 74) (.const (.int .i64 1))⟩,
            ⟨some 5, none, .mv (.tmp 75)⟩])
          .skip))
        (.seq (.ops [⟨some 76, none, .fa 0 (.tmp 4)⟩,
          ⟨some 77, none, .ld (.int .i64) (.tmp 76)⟩,
          ⟨some 78, none, .bin .lss (.tmp 77) (.const (.int .i64 1))⟩,
          ⟨some 79, none, .mv (.tmp 78)⟩,
          ⟨some 80, some (79, false), .fa 0 (.tmp 4)⟩,
          ⟨some 81, some (79, false), .ld (.int .i64) (.tmp 80)⟩,
          ⟨some 82, some (79, false), .mv (.tmp 5)⟩,
          ⟨some 83, some (79, false), .bin .gtr (.tmp 81) (.tmp 82)⟩,
          ⟨some 84, none, .pick (.tmp 79) (.const (.bool true)) (.tmp 83)⟩,
          ⟨some 85, none, .mv (.tmp 84)⟩,
          ⟨some 86, some (85, false), .fa 0 (.tmp 4)⟩,
          ⟨some 87, some (85, false), .ld (.int .i64) (.tmp 86)⟩,
          ⟨some 88, some (85, false), .bin .geq (.tmp 87) (.const (.int .i64 64))⟩,
          ⟨some 89, none, .pick (.tmp 85) (.const (.bool true)) (.tmp 88)⟩])
        (.cond (.tmp 89)
          (.seq (.ops [⟨some 2, none, .mv (.const (.bool false))⟩])
          .ret)
          .skip))))))))
      (.ops [⟨some 90, none, .bin .add (.tmp 23) (.const (.int .i64 1))⟩,
        ⟨some 23, none, .mv (.tmp 90)⟩])))))))
  (.seq (.ops [⟨some 2, none, .mv (.const (.bool true))⟩])
  .ret))))⟩
theorem h84 : strF Tryd.prog [] Tryd.f84 = some c84 := by kernel_rfl

/-- chirograph/ber.checked -/
def c85 : Fun := ⟨146, [.inl 2],
  (.seq (.ops [⟨some 2, none, .mv (.const .nilIface)⟩])
  (.seq (.ops [⟨some 3, none, .alloc 154 (.agg (Array.replicate 64 (.int .i64 0)))⟩])
  (.seq (.ops [⟨some 4, none, .mv (.const (.int .i64 (-1)))⟩,
    ⟨some 5, none, .mv (.const (.int .i64 0))⟩])
  (.seq (.seq (.ops [⟨some 12, none, .mv (.tmp 0)⟩,
    ⟨some 13, none, .len (.tmp 12)⟩,
    ⟨some 14, none, .mv (.const (.int .i64 0))⟩])
  (.block 0
    (.loop
      (.seq (.ops [⟨some 15, none, .bin .lss (.tmp 14) (.tmp 13)⟩])
      (.seq (.cond (.tmp 15)
        .skip
        (.exit 0))
      (.join (.block 1
        (.seq (.ops [⟨some 16, none, .mv (.tmp 14)⟩,
          ⟨some 17, none, .ia 5 (.tmp 12) (.tmp 14)⟩,
          ⟨some 18, none, .ld (.agg 5) (.tmp 17)⟩,
          ⟨some 7, none, .alloc 101 (.agg #[(.int .i64 0), (.int .i64 0), (.int .i64 0), (.bool false), (.slice none 0 0)])⟩,
          ⟨some 6, none, .mv (.tmp 16)⟩,
          ⟨none, none, .st 5 (.tmp 7) (.tmp 18)⟩])
        (.seq (.ops [⟨some 19, none, .fa 0 (.tmp 7)⟩,
          ⟨some 20, none, .ld (.int .i64) (.tmp 19)⟩,
          ⟨some 21, none, .mv (.tmp 6)⟩,
          ⟨some 22, none, .iaA 64 1 (.tmp 3) (.tmp 20)⟩,
          ⟨none, none, .st 1 (.tmp 22) (.tmp 21)⟩])
        (.seq (.ops [⟨some 8, none, .mv (.const (.int .i64 0))⟩])
        (.join (.seq (.ops [⟨some 23, none, .fa 0 (.tmp 7)⟩,
          ⟨some 24, none, .ld (.int .i64) (.tmp 23)⟩,
          ⟨some 25, none, .bin .gtr (.tmp 24) (.const (.int .i64 0))⟩])
        (.cond (.tmp 25)
          (.seq (.ops [⟨some 26, none, .mv (.tmp 0)⟩,
            ⟨some 27, none, .fa 0 (.tmp 7)⟩,
            ⟨some 28, none, .ld (.int .i64) (.tmp 27)⟩,
            ⟨some 29, none, .bin .sub (.tmp 28) (.const (.int .i64 1))⟩,
            ⟨some 30, none, .iaA 64 1 (.tmp 3) (.tmp 29)⟩,
            ⟨some 31, none, .ld (.int .i64) (.tmp 30)⟩,
            ⟨some 32, none, .ia 5 (.tmp 26) (.tmp 31)⟩,
            ⟨some 33, none, .ld (.agg 5) (.tmp 32)⟩,
            ⟨some 9, none, .alloc 101 (.agg #[(.int .i64 0), (.int .i64 0), (.int .i64 0), (.bool false), (.slice none 0 0)])⟩,
            ⟨none, none, .st 5 (.tmp 9) (.tmp 33)⟩])
          (.seq (.ops [⟨some 34, none, .ld (.agg 5) (.tmp 9)⟩,
            ⟨some 35, none, .call 97 [(.tmp 34)]⟩])
          (.cond (.tmp 35)
            (.seq (.ops [⟨some 8, none, .mv (.const (.int .i64 4))⟩])
            (.seq (.ops [⟨some 36, none, .fa 2 (.tmp 9)⟩,
              ⟨some 37, none, .ld (.int .i64) (.tmp 36)⟩,
              ⟨some 38, none, .bin .eql (.tmp 37) (.const (.int .i64 3))⟩])
            (.cond (.tmp 38)
              (.ops [⟨some 8, none, .mv (.const (.int .i64 3))⟩])
              .skip)))
            .skip)))
          .skip))
        (.seq (.seq (.ops [⟨some 39, none, .mv (.tmp 8)⟩,
          ⟨some 40, none, .bin .neq (.tmp 39) (.const (.int .i64 0))⟩,
          ⟨some 41, none, .mv (.tmp 40)⟩,
          ⟨some 42, some (41, true), .fa 1 (.tmp 7)⟩,
          ⟨some 43, some (41, true), .ld (.int .i64) (.tmp 42)⟩,
          ⟨some 44, some (41, true), .bin .neq (.tmp 43) (.const (.int .i64 0))⟩,
          ⟨some 45, some (41, true), .mv (.tmp 44)⟩,
          ⟨some 46, some (45, false), .fa 2 (.tmp 7)⟩,
          ⟨some 47, some (45, false), .ld (.int .i64) (.tmp 46)⟩,
          ⟨some 48, some (45, false), .mv (.tmp 8)⟩,
          ⟨some 49, some (45, false), .bin .neq (.tmp 47) (.tmp 48)⟩,
          ⟨some 50, some (41, true), .pick (.tmp 45) (.const (.bool true)) (.tmp 49)⟩,
          ⟨some 51, none, .pick (.tmp 41) (.tmp 50) (.const (.bool false))⟩])
        (.cond (.tmp 51)
          (.seq (.ops [⟨some 52, none, .mv (.tmp 6)⟩,
            ⟨some 53, none, .bld #[(.int .i64 0), (.int .i64 0)] [(0, 1), (1, 1)] [(0, (.const (.int .i64 30))), (1, (.tmp 52))]⟩,
            ⟨some 54, none, .box 151 (.tmp 53)⟩,
            ⟨some 55, none, .mki 149 (.tmp 54)⟩,
            ⟨some 2, none, .mv (.tmp 55)⟩])
          .ret)
          .skip))
        (.seq (.seq (.ops [⟨some 56, none, .fa 1 (.tmp 7)⟩,
          ⟨some 57, none, .ld (.int .i64) (.tmp 56)⟩,
          ⟨some 58, none, .bin .neq (.tmp 57) (.const (.int .i64 0))⟩])
        (.cond (.tmp 58)
          (.exit 1)
          .skip))
        (.join (.seq (.ops [⟨some 59, none, .mv (.tmp 6)⟩,
          ⟨some 60, none, .mv (.tmp 5)⟩,
          ⟨some 61, none, .bin .geq (.tmp 59) (.tmp 60)⟩,
          ⟨some 62, none, .mv (.tmp 61)⟩,
          ⟨some 63, some (62, true), .fa 2 (.tmp 7)⟩,
          ⟨some 64, some (62, true), .ld (.int .i64) (.tmp 63)⟩,
          ⟨some 65, some (62, true), .call 98 [(.tmp 64)]⟩,
          ⟨some 66, some (62, true), .bin .eql (.tmp 65) (.const (.int .i64 3))⟩,
          ⟨some 67, none, .pick (.tmp 62) (.tmp 66) (.const (.bool false))⟩,
          ⟨some 68, none, .mv (.tmp 67)⟩,
          ⟨some 69, some (68, true), .fa 3 (.tmp 7)⟩,
          ⟨some 70, some (68, true), .ld .bool (.tmp 69)⟩,
          ⟨some 71, none, .pick (.tmp 68) (.tmp 70) (.const (.bool false))⟩])
        (.cond (.tmp 71)
          (.seq (.ops [⟨some 72, none, .mv (.tmp 0)⟩,
            ⟨some 73, none, .mv (.tmp 6)⟩,
            ⟨some 74, none, .call 99 [(.tmp 72), (.tmp 73)]⟩,
            ⟨some 5, none, .mv (.tmp 74)⟩])
          (.seq (.ops [⟨some 75, none, .mv (.tmp 6)⟩,
            ⟨some 76, none, .bin .add (.tmp 75) (.const (.int .i64 1))⟩,
            ⟨some 10, none, .mv (.tmp 76)⟩])
          (.block 2
            (.loop
              (.seq (.seq (.ops [⟨some 77, none, .mv (.tmp 10)⟩,
                ⟨some 78, none, .mv (.tmp 5)⟩,
                ⟨some 79, none, .bin .lss (.tmp 77) (.tmp 78)⟩])
              (.cond (.tmp 79)
                .skip
                (.exit 2)))
              (.join (.block 3
                (.seq (.ops [⟨some 82, none, .mv (.tmp 0)⟩,
                  ⟨some 83, none, .mv (.tmp 10)⟩,
                  ⟨some 84, none, .ia 5 (.tmp 82) (.tmp 83)⟩,
                  ⟨some 85, none, .fa 3 (.tmp 84)⟩,
                  ⟨some 86, none, .ld .bool (.tmp 85)⟩,
                  ⟨some 87, none, .un .not (.tmp 86)⟩])
                (.cond (.tmp 87)
                  (.ops [⟨some 88, none, .mv (.tmp 10)⟩,
                    ⟨some 4, none, .mv (.tmp 88)⟩])
                  .skip)))
              (.ops [⟨some 80, none, .mv (.tmp 10)⟩,
                ⟨some 81, none, .bin .add (.tmp 80) (.const (.int .i64 1))⟩,
                ⟨some 10, none, .mv (.tmp 81)⟩])))))))
          .skip))
        (.seq (.ops [⟨some 89, none, .fa 2 (.tmp 7)⟩,
          ⟨some 90, none, .ld (.int .i64) (.tmp 89)⟩,
          ⟨some 91, none, .call 98 [(.tmp 90)]⟩,
          ⟨some 11, none, .mv (.tmp 91)⟩])
        (.block 4
          (.seq (.ops [⟨some 93, none, .mv (.tmp 11)⟩,
            ⟨some 94, none, .bin .eql (.tmp 93) (.const (.int .i64 0))⟩,
            ⟨some 92, none, .mv (.tmp 94)⟩])
          (.cond (.tmp 92)
            (.seq (.ops [⟨some 95, none, .mv (.tmp 6)⟩,
              ⟨some 96, none, .bld #[(.int .i64 0), (.int .i64 0)] [(0, 1), (1, 1)] [(0, (.const (.int .i64 30))), (1, (.tmp 95))]⟩,
              ⟨some 97, none, .box 151 (.tmp 96)⟩,
              ⟨some 98, none, .mki 149 (.tmp 97)⟩,
              ⟨some 2, none, .mv (.tmp 98)⟩])
            .ret)
            (.join (.seq (.ops [⟨some 100, none, .mv (.tmp 11)⟩,
              ⟨some 101, none, .bin .eql (.tmp 100) (.const (.int .i64 1))⟩,
              ⟨some 102, none, .mv (.tmp 101)⟩,
              ⟨some 103, some (102, true), .fa 3 (.tmp 7)⟩,
              ⟨some 104, some (102, true), .ld .bool (.tmp 103)⟩,
              ⟨some 105, some (102, true), .un .not (.tmp 104)⟩,
              ⟨some 106, none, .pick (.tmp 102) (.tmp 105) (.const (.bool false))⟩,
              ⟨some 99, none, .mv (.tmp 106)⟩])
            (.cond (.tmp 99)
              .skip
              (.ops [⟨some 107, none, .mv (.tmp 11)⟩,
                ⟨some 108, none, .bin .eql (.tmp 107) (.const (.int .i64 2))⟩,
                ⟨some 109, none, .mv (.tmp 108)⟩,
                ⟨some 110, some (109, true), .fa 3 (.tmp 7)⟩,
                ⟨some 111, some (109, true), .ld .bool (.tmp 110)⟩,
                ⟨some 112, none, .pick (.tmp 109) (.tmp 111) (.const (.bool false))⟩,
                ⟨some 99, none, .mv (.tmp 112)⟩])))
            (.cond (.tmp 99)
              (.seq (.ops [⟨some 113, none, .mv (.tmp 6)⟩,
                ⟨some 114, none, .bld #[(.int .i64 0), (.int .i64 0)] [(0, 1), (1, 1)] [(0, (.const (.int .i64 34))), (1, (.tmp 113))]⟩,
                ⟨some 115, none, .box 151 (.tmp 114)⟩,
                ⟨some 116, none, .mki 149 (.tmp 115)⟩,
                ⟨some 2, none, .mv (.tmp 116)⟩])
              .ret)
              (.seq (.ops [⟨some 118, none, .fa 3 (.tmp 7)⟩,
                ⟨some 119, none, .ld .bool (.tmp 118)⟩,
                ⟨some 117, none, .mv (.tmp 119)⟩])
              (.cond (.tmp 117)
                .skip
                (.join (.seq (.ops [⟨some 121, none, .fa 2 (.tmp 7)⟩,
                  ⟨some 122, none, .ld (.int .i64) (.tmp 121)⟩,
                  ⟨some 123, none, .fa 4 (.tmp 7)⟩,
                  ⟨some 124, none, .ld .slice (.tmp 123)⟩,
                  ⟨some 125, none, .call 100 [(.tmp 122), (.tmp 124)]⟩,
                  ⟨some 126, none, .un .not (.tmp 125)⟩,
                  ⟨some 120, none, .mv (.tmp 126)⟩])
                (.cond (.tmp 120)
                  .skip
                  (.ops [⟨some 127, none, .mv (.tmp 8)⟩,
                    ⟨some 128, none, .bin .eql (.tmp 127) (.const (.int .i64 3))⟩,
                    ⟨some 129, none, .mv (.tmp 128)⟩,
                    ⟨some 130, some (129, true), .fa 4 (.tmp 7)⟩,
                    ⟨some 131, some (129, true), .ld .slice (.tmp 130)⟩,
                    ⟨some 132, some (129, true), .ia 1 (.tmp 131) (.const (.int .i64 0))⟩,
                    ⟨some 133, some (129, true), .ld (.int .u8) (.tmp 132)⟩,
                    ⟨some 134, some (129, true), .bin .neq (.tmp 133) (.const (.int .u8 0))⟩,
                    ⟨some 135, none, .pick (.tmp 129) (.tmp 134) (.const (.bool false))⟩,
                    ⟨some 136, none, .mv (.tmp 135)⟩,
                    ⟨some 137, some (136, true), .mv (.tmp 6)⟩,
                    ⟨some 138, some (136, true), .mv (.tmp 4)⟩,
                    ⟨some 139, some (136, true), .bin .neq (.tmp 137) (.tmp 138)⟩,
                    ⟨some 140, none, .pick (.tmp 136) (.tmp 139) (.const (.bool false))⟩,
                    ⟨some 120, none, .mv (.tmp 140)⟩])))
                (.cond (.tmp 120)
                  (.seq (.ops [⟨some 141, none, .mv (.tmp 6)⟩,
                    ⟨some 142, none, .bld #[(.int .i64 0), (.int .i64 0)] [(0, 1), (1, 1)] [(0, (.const (.int .i64 6))), (1, (.tmp 141))]⟩,
                    ⟨some 143, none, .box 151 (.tmp 142)⟩,
                    ⟨some 144, none, .mki 149 (.tmp 143)⟩,
                    ⟨some 2, none, .mv (.tmp 144)⟩])
                  .ret)
                  .skip))))))))))))))))))
      (.ops [⟨some 145, none, .bin .add (.tmp 14) (.const (.int .i64 1))⟩,
        ⟨some 14, none, .mv (.tmp 145)⟩])))))))
  (.seq (.ops [⟨some 2, none, .mv (.const .nilIface)⟩])
  .ret)))))⟩
theorem h85 : strF Tryd.prog [] Tryd.f85 = some c85 := by kernel_rfl

/-- chirograph/ber.put -/
def c86 : Fun := ⟨92, [.inl 6],
  (.seq (.ops [⟨some 6, none, .mv (.const (.slice none 0 0))⟩])
  (.seq (.ops [⟨some 15, none, .mv (.tmp 1)⟩,
    ⟨some 16, none, .mv (.tmp 2)⟩,
    ⟨some 17, none, .ia 5 (.tmp 15) (.tmp 16)⟩,
    ⟨some 18, none, .ld (.agg 5) (.tmp 17)⟩,
    ⟨some 7, none, .alloc 101 (.agg #[(.int .i64 0), (.int .i64 0), (.int .i64 0), (.bool false), (.slice none 0 0)])⟩,
    ⟨none, none, .st 5 (.tmp 7) (.tmp 18)⟩])
  (.seq (.seq (.ops [⟨some 19, none, .fa 3 (.tmp 7)⟩,
    ⟨some 20, none, .ld .bool (.tmp 19)⟩,
    ⟨some 21, none, .un .not (.tmp 20)⟩,
    ⟨some 22, none, .mv (.tmp 21)⟩,
    ⟨some 23, some (22, false), .ld (.agg 5) (.tmp 7)⟩,
    ⟨some 24, some (22, false), .call 97 [(.tmp 23)]⟩,
    ⟨some 25, none, .pick (.tmp 22) (.const (.bool true)) (.tmp 24)⟩])
  (.cond (.tmp 25)
    (.seq (.ops [⟨some 26, none, .mv (.tmp 0)⟩,
      ⟨some 27, none, .mv (.tmp 1)⟩,
      ⟨some 28, none, .mv (.tmp 2)⟩,
      ⟨some 29, none, .call 101 [(.tmp 27), (.tmp 28)]⟩,
      ⟨some 30, none, .bsl 101 5 1 #[(.int .i64 0), (.int .i64 0), (.int .i64 0), (.bool false), (.slice none 0 0)] [(0, (.tmp 29))]⟩,
      ⟨some 31, none, .app 101 5 56 #[(.int .i64 0), (.int .i64 0), (.int .i64 0), (.bool false), (.slice none 0 0)] (.tmp 26) (.tmp 30)⟩,
      ⟨some 6, none, .mv (.tmp 31)⟩])
    .ret)
    .skip))
  (.seq (.ops [⟨some 32, none, .mv (.tmp 0)⟩,
    ⟨some 33, none, .ld (.agg 5) (.tmp 7)⟩,
    ⟨some 34, none, .bsl 101 5 1 #[(.int .i64 0), (.int .i64 0), (.int .i64 0), (.bool false), (.slice none 0 0)] [(0, (.tmp 33))]⟩,
    ⟨some 35, none, .app 101 5 56 #[(.int .i64 0), (.int .i64 0), (.int .i64 0), (.bool false), (.slice none 0 0)] (.tmp 32) (.tmp 34)⟩,
    ⟨some 0, none, .mv (.tmp 35)⟩])
  (.seq (.ops [⟨some 36, none, .mv (.tmp 1)⟩,
    ⟨some 37, none, .mv (.tmp 2)⟩,
    ⟨some 38, none, .call 99 [(.tmp 36), (.tmp 37)]⟩,
    ⟨some 8, none, .mv (.tmp 38)⟩])
  (.seq (.seq (.ops [⟨some 39, none, .fa 1 (.tmp 7)⟩,
    ⟨some 40, none, .ld (.int .i64) (.tmp 39)⟩,
    ⟨some 41, none, .bin .neq (.tmp 40) (.const (.int .i64 0))⟩,
    ⟨some 42, none, .mv (.tmp 41)⟩,
    ⟨some 43, some (42, false), .fa 2 (.tmp 7)⟩,
    ⟨some 44, some (42, false), .ld (.int .i64) (.tmp 43)⟩,
    ⟨some 45, some (42, false), .bin .neq (.tmp 44) (.const (.int .i64 17))⟩,
    ⟨some 46, none, .pick (.tmp 42) (.const (.bool true)) (.tmp 45)⟩])
  (.cond (.tmp 46)
    (.seq (.seq (.ops [⟨some 47, none, .mv (.tmp 2)⟩,
      ⟨some 48, none, .bin .add (.tmp 47) (.const (.int .i64 1))⟩,
      ⟨some 9, none, .mv (.tmp 48)⟩])
    (.block 0
      (.loop
        (.seq (.seq (.ops [⟨some 49, none, .mv (.tmp 9)⟩,
          ⟨some 50, none, .mv (.tmp 8)⟩,
          ⟨some 51, none, .bin .lss (.tmp 49) (.tmp 50)⟩])
        (.cond (.tmp 51)
          .skip
          (.exit 0)))
        (.seq (.block 1
          (.ops [⟨some 55, none, .mv (.tmp 0)⟩,
            ⟨some 56, none, .mv (.tmp 1)⟩,
            ⟨some 57, none, .mv (.tmp 9)⟩,
            ⟨some 58, none, .call 86 [(.tmp 55), (.tmp 56), (.tmp 57)]⟩,
            ⟨some 0, none, .mv (.tmp 58)⟩]))
        (.ops [⟨some 52, none, .mv (.tmp 1)⟩,
          ⟨some 53, none, .mv (.tmp 9)⟩,
          ⟨some 54, none, .call 99 [(.tmp 52), (.tmp 53)]⟩,
          ⟨some 9, none, .mv (.tmp 54)⟩]))))))
    (.seq (.ops [⟨some 59, none, .mv (.tmp 0)⟩,
      ⟨some 6, none, .mv (.tmp 59)⟩])
    .ret))
    .skip))
  (.seq (.ops [⟨some 10, none, .mv (.const (.slice none 0 0))⟩])
  (.seq (.seq (.ops [⟨some 60, none, .mv (.tmp 2)⟩,
    ⟨some 61, none, .bin .add (.tmp 60) (.const (.int .i64 1))⟩,
    ⟨some 11, none, .mv (.tmp 61)⟩])
  (.block 2
    (.loop
      (.seq (.seq (.ops [⟨some 62, none, .mv (.tmp 11)⟩,
        ⟨some 63, none, .mv (.tmp 8)⟩,
        ⟨some 64, none, .bin .lss (.tmp 62) (.tmp 63)⟩])
      (.cond (.tmp 64)
        .skip
        (.exit 2)))
      (.seq (.block 3
        (.seq (.ops [⟨some 68, none, .mv (.tmp 1)⟩,
          ⟨some 69, none, .mv (.tmp 11)⟩,
          ⟨some 70, none, .call 86 [(.const (.slice none 0 0)), (.tmp 68), (.tmp 69)]⟩,
          ⟨some 12, none, .mv (.tmp 70)⟩])
        (.ops [⟨some 71, none, .mv (.tmp 10)⟩,
          ⟨some 72, none, .mv (.tmp 12)⟩,
          ⟨some 73, none, .mv (.tmp 12)⟩,
          ⟨some 74, none, .call 89 [(.tmp 73)]⟩,
          ⟨some 75, none, .bld #[(.slice none 0 0), (.slice none 0 0)] [(0, 1), (1, 1)] [(0, (.tmp 72)), (1, (.tmp 74))]⟩,
          ⟨some 76, none, .bsl 162 2 1 #[(.slice none 0 0), (.slice none 0 0)] [(0, (.tmp 75))]⟩,
          ⟨some 77, none, .app 162 2 48 #[(.slice none 0 0), (.slice none 0 0)] (.tmp 71) (.tmp 76)⟩,
          ⟨some 10, none, .mv (.tmp 77)⟩])))
      (.ops [⟨some 65, none, .mv (.tmp 1)⟩,
        ⟨some 66, none, .mv (.tmp 11)⟩,
        ⟨some 67, none, .call 99 [(.tmp 65), (.tmp 66)]⟩,
        ⟨some 11, none, .mv (.tmp 67)⟩]))))))
  (.seq (.ops [⟨some 78, none, .mv (.tmp 10)⟩,
    ⟨some 79, none, .call 102 [(.tmp 78), (.func 103)]⟩])
  (.seq (.seq (.ops [⟨some 80, none, .mv (.tmp 10)⟩,
    ⟨some 81, none, .len (.tmp 80)⟩,
    ⟨some 82, none, .mv (.const (.int .i64 0))⟩])
  (.block 4
    (.loop
      (.seq (.ops [⟨some 83, none, .bin .lss (.tmp 82) (.tmp 81)⟩])
      (.seq (.cond (.tmp 83)
        .skip
        (.exit 4))
      (.seq (.block 5
        (.seq (.ops [⟨some 84, none, .ia 2 (.tmp 80) (.tmp 82)⟩,
          ⟨some 85, none, .ld (.agg 2) (.tmp 84)⟩,
          ⟨some 14, none, .alloc 162 (.agg #[(.slice none 0 0), (.slice none 0 0)])⟩,
          ⟨none, none, .st 2 (.tmp 14) (.tmp 85)⟩])
        (.ops [⟨some 86, none, .mv (.tmp 0)⟩,
          ⟨some 87, none, .fa 0 (.tmp 14)⟩,
          ⟨some 88, none, .ld .slice (.tmp 87)⟩,
          ⟨some 89, none, .app 101 5 56 #[(.int .i64 0), (.int .i64 0), (.int .i64 0), (.bool false), (.slice none 0 0)] (.tmp 86) (.tmp 88)⟩,
          ⟨some 0, none, .mv (.tmp 89)⟩])))
      (.ops [⟨some 90, none, .bin .add (.tmp 82) (.const (.int .i64 1))⟩,
        ⟨some 82, none, .mv (.tmp 90)⟩])))))))
  (.seq (.ops [⟨some 91, none, .mv (.tmp 0)⟩,
    ⟨some 6, none, .mv (.tmp 91)⟩])
  .ret)))))))))))⟩
theorem h86 : strF Tryd.prog [] Tryd.f86 = some c86 := by kernel_rfl

/-- chirograph/ber.sizes -/
def c87 : Fun := ⟨60, [.inl 2],
  (.seq (.ops [⟨some 2, none, .mv (.const (.slice none 0 0))⟩])
  (.seq (.ops [⟨some 7, none, .mv (.tmp 0)⟩,
    ⟨some 8, none, .len (.tmp 7)⟩,
    ⟨some 9, none, .mks 3 1 8 #[(.int .i64 0)] (.tmp 8) (.tmp 8)⟩,
    ⟨some 3, none, .mv (.tmp 9)⟩])
  (.seq (.ops [⟨some 4, none, .alloc 166 (.agg (Array.replicate 65 (.int .i64 0)))⟩])
  (.seq (.seq (.ops [⟨some 10, none, .mv (.tmp 0)⟩,
    ⟨some 11, none, .len (.tmp 10)⟩,
    ⟨some 12, none, .bin .sub (.tmp 11) (.const (.int .i64 1))⟩,
    ⟨some 5, none, .mv (.tmp 12)⟩])
  (.block 0
    (.loop
      (.seq (.seq (.ops [⟨some 13, none, .mv (.tmp 5)⟩,
        ⟨some 14, none, .bin .geq (.tmp 13) (.const (.int .i64 0))⟩])
      (.cond (.tmp 14)
        .skip
        (.exit 0)))
      (.seq (.block 1
        (.seq (.ops [⟨some 17, none, .mv (.tmp 0)⟩,
          ⟨some 18, none, .mv (.tmp 5)⟩,
          ⟨some 19, none, .ia 5 (.tmp 17) (.tmp 18)⟩,
          ⟨some 20, none, .ld (.agg 5) (.tmp 19)⟩,
          ⟨some 6, none, .alloc 101 (.agg #[(.int .i64 0), (.int .i64 0), (.int .i64 0), (.bool false), (.slice none 0 0)])⟩,
          ⟨none, none, .st 5 (.tmp 6) (.tmp 20)⟩])
        (.seq (.ops [⟨some 21, none, .mv (.tmp 3)⟩,
          ⟨some 22, none, .mv (.tmp 5)⟩,
          ⟨some 23, none, .fa 4 (.tmp 6)⟩,
          ⟨some 24, none, .ld .slice (.tmp 23)⟩,
          ⟨some 25, none, .len (.tmp 24)⟩,
          ⟨some 26, none, .ia 1 (.tmp 21) (.tmp 22)⟩,
          ⟨none, none, .st 1 (.tmp 26) (.tmp 25)⟩])
        (.join (.seq (.ops [⟨some 27, none, .fa 3 (.tmp 6)⟩,
          ⟨some 28, none, .ld .bool (.tmp 27)⟩])
        (.cond (.tmp 28)
          (.ops [⟨some 29, none, .mv (.tmp 3)⟩,
            ⟨some 30, none, .mv (.tmp 5)⟩,
            ⟨some 31, none, .fa 0 (.tmp 6)⟩,
            ⟨some 32, none, .ld (.int .i64) (.tmp 31)⟩,
            ⟨some 33, none, .bin .add (.tmp 32) (.const (.int .i64 1))⟩,
            ⟨some 34, none, .iaA 65 1 (.tmp 4) (.tmp 33)⟩,
            ⟨some 35, none, .ld (.int .i64) (.tmp 34)⟩,
            ⟨some 36, none, .ia 1 (.tmp 29) (.tmp 30)⟩,
            ⟨none, none, .st 1 (.tmp 36) (.tmp 35)⟩])
          .skip))
        (.seq (.ops [⟨some 37, none, .fa 0 (.tmp 6)⟩,
          ⟨some 38, none, .ld (.int .i64) (.tmp 37)⟩,
          ⟨some 39, none, .bin .add (.tmp 38) (.const (.int .i64 1))⟩,
          ⟨some 40, none, .iaA 65 1 (.tmp 4) (.tmp 39)⟩,
          ⟨none, none, .st 1 (.tmp 40) (.const (.int .i64 0))⟩])
        (.draw 18 [⟨some 41, none, .fa 0 (.tmp 6)⟩,
          ⟨some 42, none, .ld (.int .i64) (.tmp 41)⟩,
          ⟨some 43, none, .iaA 65 1 (.tmp 4) (.tmp 42)⟩,
          ⟨some 44, none, .ld (.int .i64) (.tmp 43)⟩,
          ⟨some 45, none, .ld (.agg 5) (.tmp 6)⟩,
          ⟨some 46, none, .mv (.tmp 3)⟩,
          ⟨some 47, none, .mv (.tmp 5)⟩,
          ⟨some 48, none, .ia 1 (.tmp 46) (.tmp 47)⟩,
          ⟨some 49, none, .ld (.int .i64) (.tmp 48)⟩,
          ⟨some 50, none, .call 88 [(.tmp 45), (.tmp 49)]⟩,
          ⟨some 51, none, .len (.tmp 50)⟩,
          ⟨some 52, none, .mv (.tmp 3)⟩,
          ⟨some 53, none, .mv (.tmp 5)⟩,
          ⟨some 54, none, .ia 1 (.tmp 52) (.tmp 53)⟩,
          ⟨some 55, none, .ld (.int .i64) (.tmp 54)⟩,
          ⟨some 56, none, .bin .add (.tmp 51) (.tmp 55)⟩,
          ⟨some 57, none, .bin .add (.tmp 44) (.tmp 56)⟩,
          ⟨some 58, none, .iaA 65 1 (.tmp 4) (.tmp 42)⟩,
          ⟨none, none, .st 1 (.tmp 58) (.tmp 57)⟩]))))))
      (.ops [⟨some 15, none, .mv (.tmp 5)⟩,
        ⟨some 16, none, .bin .sub (.tmp 15) (.const (.int .i64 1))⟩,
        ⟨some 5, none, .mv (.tmp 16)⟩]))))))
  (.seq (.ops [⟨some 59, none, .mv (.tmp 3)⟩,
    ⟨some 2, none, .mv (.tmp 59)⟩])
  .ret)))))⟩
theorem h87 : strF Tryd.prog [] Tryd.f87 = some c87 := by kernel_rfl

end Go.Proofs.YtcflokckfjkdpaaDoor.Code
