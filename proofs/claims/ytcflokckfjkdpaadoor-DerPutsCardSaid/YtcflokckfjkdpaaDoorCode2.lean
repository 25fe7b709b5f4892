/- The functions as the engine has them: by program, out of the translation. -/
import Derived.Test.YtcflokckfjkdpaaDoorEngE
import Derived.Test.YtcflokckfjkdpaaDoorProg
set_option maxRecDepth 100000
namespace Go.Proofs.YtcflokckfjkdpaaDoor.Code
open Go Go.Proofs Go.Proofs.YtcflokckfjkdpaaDoor.Eng

/-- chirograph/ber.head -/
def c88 : Fun := ⟨92, [.inl 4],
  (.seq (.ops [⟨some 2, none, .box 101 (.tmp 0)⟩,
    ⟨some 4, none, .mv (.const (.slice none 0 0))⟩])
  (.seq (.ops [⟨some 10, none, .fa 1 (.tmp 2)⟩,
    ⟨some 11, none, .ld (.int .i64) (.tmp 10)⟩,
    ⟨some 12, none, .bin .shl (.tmp 11) (.const (.int .u64 6))⟩,
    ⟨some 13, none, .cv .u8 (.tmp 12)⟩,
    ⟨some 5, none, .mv (.tmp 13)⟩])
  (.join (.seq (.ops [⟨some 14, none, .fa 3 (.tmp 2)⟩,
    ⟨some 15, none, .ld .bool (.tmp 14)⟩])
  (.cond (.tmp 15)
    (.ops [⟨some 16, none, .mv (.tmp 5)⟩,
      ⟨some 17, none, .bin .or (.tmp 16) (.const (.int .u8 32))⟩,
      ⟨some 5, none, .mv (.tmp 17)⟩])
    .skip))
  (.seq (.ops [⟨some 18, none, .mv (.tmp 5)⟩,
    ⟨some 19, none, .fa 2 (.tmp 2)⟩,
    ⟨some 20, none, .ld (.int .i64) (.tmp 19)⟩,
    ⟨some 21, none, .cv .u8 (.tmp 20)⟩,
    ⟨some 22, none, .bin .or (.tmp 18) (.tmp 21)⟩,
    ⟨some 23, none, .bsl 5 1 1 #[(.int .u8 0)] [(0, (.tmp 22))]⟩,
    ⟨some 6, none, .mv (.tmp 23)⟩])
  (.join (.seq (.ops [⟨some 24, none, .fa 2 (.tmp 2)⟩,
    ⟨some 25, none, .ld (.int .i64) (.tmp 24)⟩,
    ⟨some 26, none, .bin .geq (.tmp 25) (.const (.int .i64 31))⟩])
  (.cond (.tmp 26)
    (.seq (.ops [⟨some 27, none, .mv (.tmp 6)⟩,
      ⟨some 28, none, .mv (.tmp 5)⟩,
      ⟨some 29, none, .bin .or (.tmp 28) (.const (.int .u8 31))⟩,
      ⟨some 30, none, .ia 1 (.tmp 27) (.const (.int .i64 0))⟩,
      ⟨none, none, .st 1 (.tmp 30) (.tmp 29)⟩])
    (.seq (.seq (.ops [⟨some 7, none, .mv (.const (.int .i64 21))⟩])
    (.block 0
      (.loop
        (.seq (.seq (.ops [⟨some 31, none, .mv (.tmp 7)⟩,
          ⟨some 32, none, .bin .geq (.tmp 31) (.const (.int .i64 0))⟩])
        (.cond (.tmp 32)
          .skip
          (.exit 0)))
        (.join (.block 1
          (.seq (.ops [⟨some 35, none, .fa 2 (.tmp 2)⟩,
            ⟨some 36, none, .ld (.int .i64) (.tmp 35)⟩,
            ⟨some 37, none, .mv (.tmp 7)⟩,
            ⟨some 38, none, .bin .shr (.tmp 36) (.tmp 37)⟩,
            ⟨some 39, none, .bin .neq (.tmp 38) (.const (.int .i64 0))⟩])
          (.cond (.tmp 39)
            (.ops [⟨some 40, none, .mv (.tmp 6)⟩,
              ⟨some 41, none, .fa 2 (.tmp 2)⟩,
              ⟨some 42, none, .ld (.int .i64) (.tmp 41)⟩,
              ⟨some 43, none, .mv (.tmp 7)⟩,
              ⟨some 44, none, .bin .shr (.tmp 42) (.tmp 43)⟩,
              ⟨some 45, none, .cv .u8 (.tmp 44)⟩,
              ⟨some 46, none, .bin .or (.tmp 45) (.const (.int .u8 128))⟩,
              ⟨some 47, none, .bsl 5 1 1 #[(.int .u8 0)] [(0, (.tmp 46))]⟩,
              ⟨some 48, none, .app 5 1 1 #[(.int .u8 0)] (.tmp 40) (.tmp 47)⟩,
              ⟨some 6, none, .mv (.tmp 48)⟩])
            .skip)))
        (.ops [⟨some 33, none, .mv (.tmp 7)⟩,
          ⟨some 34, none, .bin .sub (.tmp 33) (.const (.int .i64 7))⟩,
          ⟨some 7, none, .mv (.tmp 34)⟩]))))))
    (.ops [⟨some 49, none, .mv (.tmp 6)⟩,
      ⟨some 50, none, .mv (.tmp 6)⟩,
      ⟨some 51, none, .len (.tmp 50)⟩,
      ⟨some 52, none, .bin .sub (.tmp 51) (.const (.int .i64 1))⟩,
      ⟨some 53, none, .ia 1 (.tmp 49) (.tmp 52)⟩,
      ⟨some 54, none, .ld (.int .u8) (.tmp 53)⟩,
      ⟨some 55, none, .bin .and (.tmp 54) (.const (.int .u8 127))⟩,
      ⟨some 56, none, .ia 1 (.tmp 49) (.tmp 52)⟩,
      ⟨none, none, .st 1 (.tmp 56) (.tmp 55)⟩])))
    .skip))
  (.seq (.seq (.ops [⟨some 57, none, .mv (.tmp 1)⟩,
    ⟨some 58, none, .bin .lss (.tmp 57) (.const (.int .i64 128))⟩])
  (.cond (.tmp 58)
    (.seq (.ops [⟨some 59, none, .mv (.tmp 6)⟩,
      ⟨some 60, none, .mv (.tmp 1)⟩,
      ⟨some 61, none, .cv .u8 (.tmp 60)⟩,
      ⟨some 62, none, .bsl 5 1 1 #[(.int .u8 0)] [(0, (.tmp 61))]⟩,
      ⟨some 63, none, .app 5 1 1 #[(.int .u8 0)] (.tmp 59) (.tmp 62)⟩,
      ⟨some 4, none, .mv (.tmp 63)⟩])
    .ret)
    .skip))
  (.seq (.ops [⟨some 8, none, .mv (.const (.int .i64 1))⟩])
  (.seq (.block 2
    (.loop
      (.seq (.seq (.ops [⟨some 64, none, .mv (.tmp 1)⟩,
        ⟨some 65, none, .mv (.tmp 8)⟩,
        ⟨some 66, none, .bin .mul (.const (.int .i64 8)) (.tmp 65)⟩,
        ⟨some 67, none, .bin .shr (.tmp 64) (.tmp 66)⟩,
        ⟨some 68, none, .bin .neq (.tmp 67) (.const (.int .i64 0))⟩])
      (.cond (.tmp 68)
        .skip
        (.exit 2)))
      (.block 3
        (.ops [⟨some 69, none, .mv (.tmp 8)⟩,
          ⟨some 70, none, .bin .add (.tmp 69) (.const (.int .i64 1))⟩,
          ⟨some 8, none, .mv (.tmp 70)⟩])))))
  (.seq (.ops [⟨some 71, none, .mv (.tmp 6)⟩,
    ⟨some 72, none, .mv (.tmp 8)⟩,
    ⟨some 73, none, .cv .u8 (.tmp 72)⟩,
    ⟨some 74, none, .bin .or (.const (.int .u8 128)) (.tmp 73)⟩,
    ⟨some 75, none, .bsl 5 1 1 #[(.int .u8 0)] [(0, (.tmp 74))]⟩,
    ⟨some 76, none, .app 5 1 1 #[(.int .u8 0)] (.tmp 71) (.tmp 75)⟩,
    ⟨some 6, none, .mv (.tmp 76)⟩])
  (.seq (.seq (.ops [⟨some 77, none, .mv (.tmp 8)⟩,
    ⟨some 78, none, .bin .sub (.tmp 77) (.const (.int .i64 1))⟩,
    ⟨some 9, none, .mv (.tmp 78)⟩])
  (.block 4
    (.loop
      (.seq (.seq (.ops [⟨some 79, none, .mv (.tmp 9)⟩,
        ⟨some 80, none, .bin .geq (.tmp 79) (.const (.int .i64 0))⟩])
      (.cond (.tmp 80)
        .skip
        (.exit 4)))
      (.seq (.block 5
        (.ops [⟨some 83, none, .mv (.tmp 6)⟩,
          ⟨some 84, none, .mv (.tmp 1)⟩,
          ⟨some 85, none, .mv (.tmp 9)⟩,
          ⟨some 86, none, .bin .mul (.const (.int .i64 8)) (.tmp 85)⟩,
          ⟨some 87, none, .bin .shr (.tmp 84) (.tmp 86)⟩,
          ⟨some 88, none, .cv .u8 (.tmp 87)⟩,
          ⟨some 89, none, .bsl 5 1 1 #[(.int .u8 0)] [(0, (.tmp 88))]⟩,
          ⟨some 90, none, .app 5 1 1 #[(.int .u8 0)] (.tmp 83) (.tmp 89)⟩,
          ⟨some 6, none, .mv (.tmp 90)⟩]))
      (.ops [⟨some 81, none, .mv (.tmp 9)⟩,
        ⟨some 82, none, .bin .sub (.tmp 81) (.const (.int .i64 1))⟩,
        ⟨some 9, none, .mv (.tmp 82)⟩]))))))
  (.seq (.ops [⟨some 91, none, .mv (.tmp 6)⟩,
    ⟨some 4, none, .mv (.tmp 91)⟩])
  .ret)))))))))))⟩
theorem h88 : strF Tryd.prog [] Tryd.f88 = some c88 := by kernel_rfl

/-- chirograph/ber.laid -/
def c89 : Fun := ⟨34, [.inl 2],
  (.seq (.ops [⟨some 2, none, .mv (.const (.slice none 0 0))⟩])
  (.seq (.ops [⟨some 7, none, .mv (.tmp 0)⟩,
    ⟨some 8, none, .call 87 [(.tmp 7)]⟩,
    ⟨some 3, none, .mv (.tmp 8)⟩])
  (.seq (.ops [⟨some 9, none, .mv (.tmp 3)⟩,
    ⟨some 10, none, .ia 1 (.tmp 9) (.const (.int .i64 0))⟩,
    ⟨some 11, none, .ld (.int .i64) (.tmp 10)⟩,
    ⟨some 12, none, .bin .add (.tmp 11) (.const (.int .i64 12))⟩,
    ⟨some 13, none, .mks 5 1 1 #[(.int .u8 0)] (.const (.int .i64 0)) (.tmp 12)⟩,
    ⟨some 4, none, .mv (.tmp 13)⟩])
  (.seq (.seq (.ops [⟨some 14, none, .mv (.tmp 0)⟩,
    ⟨some 15, none, .len (.tmp 14)⟩,
    ⟨some 16, none, .mv (.const (.int .i64 0))⟩])
  (.block 0
    (.loop
      (.seq (.ops [⟨some 17, none, .bin .lss (.tmp 16) (.tmp 15)⟩])
      (.seq (.cond (.tmp 17)
        .skip
        (.exit 0))
      (.seq (.block 1
        (.seq (.ops [⟨some 18, none, .mv (.tmp 16)⟩,
          ⟨some 19, none, .ia 5 (.tmp 14) (.tmp 16)⟩,
          ⟨some 20, none, .ld (.agg 5) (.tmp 19)⟩,
          ⟨some 6, none, .alloc 101 (.agg #[(.int .i64 0), (.int .i64 0), (.int .i64 0), (.bool false), (.slice none 0 0)])⟩,
          ⟨some 5, none, .mv (.tmp 18)⟩,
          ⟨none, none, .st 5 (.tmp 6) (.tmp 20)⟩])
        (.drawT (.st 0 0 (.st 0 2 (.st 0 3 (.st 0 4 (.st 0 8 (.st 1 1 (.st 1 5 (.st 3 9 (.cov (.one 6 (.cov (.one 7 (.cov (.one 10 (.st 0 11 .nil)))))))))))))))
          [⟨some 21, none, .mv (.tmp 4)⟩,
            ⟨some 22, none, .ld (.agg 5) (.tmp 6)⟩,
            ⟨some 23, none, .mv (.tmp 3)⟩,
            ⟨some 24, none, .mv (.tmp 5)⟩,
            ⟨some 25, none, .ia 1 (.tmp 23) (.tmp 24)⟩,
            ⟨some 26, none, .ld (.int .i64) (.tmp 25)⟩,
            ⟨some 27, none, .call 88 [(.tmp 22), (.tmp 26)]⟩,
            ⟨some 28, none, .app 5 1 1 #[(.int .u8 0)] (.tmp 21) (.tmp 27)⟩,
            ⟨some 29, none, .fa 4 (.tmp 6)⟩,
            ⟨some 30, none, .ld .slice (.tmp 29)⟩,
            ⟨some 31, none, .app 5 1 1 #[(.int .u8 0)] (.tmp 28) (.tmp 30)⟩,
            ⟨some 4, none, .mv (.tmp 31)⟩])))
      (.ops [⟨some 32, none, .bin .add (.tmp 16) (.const (.int .i64 1))⟩,
        ⟨some 16, none, .mv (.tmp 32)⟩])))))))
  (.seq (.ops [⟨some 33, none, .mv (.tmp 4)⟩,
    ⟨some 2, none, .mv (.tmp 33)⟩])
  .ret)))))⟩
theorem h89 : strF Tryd.prog [(6, .inr (.st 0 0 (.st 0 2 (.st 0 3 (.st 0 4 (.st 0 8 (.st 1 1 (.st 1 5 (.st 3 9 (.cov (.one 6 (.cov (.one 7 (.cov (.one 10 (.st 0 11 .nil))))))))))))))))] Tryd.f89 = some c89 := by kernel_rfl

/-- internal/strconv.small -/
def c90 : Fun := ⟨15, [.inl 2],
  (.seq (.ops [⟨some 2, none, .mv (.const (.string ⟨#[]⟩))⟩])
  (.seq (.seq (.ops [⟨some 3, none, .mv (.tmp 0)⟩,
    ⟨some 4, none, .bin .lss (.tmp 3) (.const (.int .i64 10))⟩])
  (.cond (.tmp 4)
    (.seq (.ops [⟨some 5, none, .mv (.tmp 0)⟩,
      ⟨some 6, none, .mv (.tmp 0)⟩,
      ⟨some 7, none, .bin .add (.tmp 6) (.const (.int .i64 1))⟩,
      ⟨some 8, none, .sls (.const (.string ⟨#[48, 49, 50, 51, 52, 53, 54, 55, 56, 57, 97, 98, 99, 100, 101, 102, 103, 104, 105, 106, 107, 108, 109, 110, 111, 112, 113, 114, 115, 116, 117, 118, 119, 120, 121, 122]⟩)) (some (.tmp 5)) (some (.tmp 7))⟩,
      ⟨some 2, none, .mv (.tmp 8)⟩])
    .ret)
    .skip))
  (.seq (.ops [⟨some 9, none, .mv (.tmp 0)⟩,
    ⟨some 10, none, .bin .mul (.tmp 9) (.const (.int .i64 2))⟩,
    ⟨some 11, none, .mv (.tmp 0)⟩,
    ⟨some 12, none, .bin .mul (.tmp 11) (.const (.int .i64 2))⟩,
    ⟨some 13, none, .bin .add (.tmp 12) (.const (.int .i64 2))⟩,
    ⟨some 14, none, .sls (.const (.string ⟨#[48, 48, 48, 49, 48, 50, 48, 51, 48, 52, 48, 53, 48, 54, 48, 55, 48, 56, 48, 57, 49, 48, 49, 49, 49, 50, 49, 51, 49, 52, 49, 53, 49, 54, 49, 55, 49, 56, 49, 57, 50, 48, 50, 49, 50, 50, 50, 51, 50, 52, 50, 53, 50, 54, 50, 55, 50, 56, 50, 57, 51, 48, 51, 49, 51, 50, 51, 51, 51, 52, 51, 53, 51, 54, 51, 55, 51, 56, 51, 57, 52, 48, 52, 49, 52, 50, 52, 51, 52, 52, 52, 53, 52, 54, 52, 55, 52, 56, 52, 57, 53, 48, 53, 49, 53, 50, 53, 51, 53, 52, 53, 53, 53, 54, 53, 55, 53, 56, 53, 57, 54, 48, 54, 49, 54, 50, 54, 51, 54, 52, 54, 53, 54, 54, 54, 55, 54, 56, 54, 57, 55, 48, 55, 49, 55, 50, 55, 51, 55, 52, 55, 53, 55, 54, 55, 55, 55, 56, 55, 57, 56, 48, 56, 49, 56, 50, 56, 51, 56, 52, 56, 53, 56, 54, 56, 55, 56, 56, 56, 57, 57, 48, 57, 49, 57, 50, 57, 51, 57, 52, 57, 53, 57, 54, 57, 55, 57, 56, 57, 57]⟩)) (some (.tmp 10)) (some (.tmp 13))⟩,
    ⟨some 2, none, .mv (.tmp 14)⟩])
  .ret)))⟩
theorem h90 : strF Tryd.prog [] Tryd.f90 = some c90 := by kernel_rfl

/-- internal/strconv.numDigits -/
def c91 : Fun := ⟨15, [.inl 2],
  (.seq (.ops [⟨some 2, none, .mv (.const (.int .i64 0))⟩])
  (.seq (.ops [⟨some 4, none, .mv (.tmp 0)⟩,
    ⟨some 5, none, .call 106 [(.tmp 4)]⟩,
    ⟨some 6, none, .call 105 [(.tmp 5)]⟩,
    ⟨some 3, none, .mv (.tmp 6)⟩])
  (.seq (.ops [⟨some 7, none, .mv (.tmp 3)⟩,
    ⟨some 8, none, .mv (.tmp 0)⟩,
    ⟨some 9, none, .mv (.tmp 3)⟩,
    ⟨some 10, none, .iaA 20 1 (.global 0) (.tmp 9)⟩,
    ⟨some 11, none, .ld (.int .u64) (.tmp 10)⟩,
    ⟨some 12, none, .bin .geq (.tmp 8) (.tmp 11)⟩,
    ⟨some 13, none, .call 107 [(.tmp 12)]⟩,
    ⟨some 14, none, .bin .add (.tmp 7) (.tmp 13)⟩,
    ⟨some 2, none, .mv (.tmp 14)⟩])
  .ret)))⟩
theorem h91 : strF Tryd.prog [] Tryd.f91 = some c91 := by kernel_rfl

/-- internal/strconv.formatBase10 -/
def c92 : Fun := ⟨167, [],
  (.seq (.ops [⟨some 17, none, .mv (.tmp 0)⟩,
    ⟨some 18, none, .len (.tmp 17)⟩,
    ⟨some 4, none, .mv (.tmp 18)⟩])
  (.seq (.block 0
    (.loop
      (.seq (.seq (.ops [⟨some 19, none, .mv (.tmp 4)⟩,
        ⟨some 20, none, .bin .geq (.tmp 19) (.const (.int .i64 8))⟩])
      (.cond (.tmp 20)
        .skip
        (.exit 0)))
      (.block 1
        (.seq (.ops [⟨some 21, none, .mv (.tmp 1)⟩,
          ⟨some 22, none, .bin .rem (.tmp 21) (.const (.int .u64 100000000))⟩,
          ⟨some 23, none, .cv .u32 (.tmp 22)⟩,
          ⟨some 5, none, .mv (.tmp 23)⟩])
        (.seq (.ops [⟨some 24, none, .mv (.tmp 1)⟩,
          ⟨some 25, none, .bin .quo (.tmp 24) (.const (.int .u64 100000000))⟩,
          ⟨some 1, none, .mv (.tmp 25)⟩])
        (.seq (.ops [⟨some 26, none, .mv (.tmp 5)⟩,
          ⟨some 27, none, .bin .quo (.tmp 26) (.const (.int .u32 10000))⟩,
          ⟨some 28, none, .mv (.tmp 5)⟩,
          ⟨some 29, none, .bin .rem (.tmp 28) (.const (.int .u32 10000))⟩,
          ⟨some 6, none, .mv (.tmp 27)⟩,
          ⟨some 7, none, .mv (.tmp 29)⟩])
        (.seq (.ops [⟨some 30, none, .mv (.tmp 7)⟩,
          ⟨some 31, none, .bin .quo (.tmp 30) (.const (.int .u32 100))⟩,
          ⟨some 32, none, .bin .mul (.tmp 31) (.const (.int .u32 2))⟩,
          ⟨some 33, none, .mv (.tmp 7)⟩,
          ⟨some 34, none, .bin .rem (.tmp 33) (.const (.int .u32 100))⟩,
          ⟨some 35, none, .bin .mul (.tmp 34) (.const (.int .u32 2))⟩,
          ⟨some 8, none, .mv (.tmp 32)⟩,
          ⟨some 9, none, .mv (.tmp 35)⟩])
        (.seq (.ops [⟨some 36, none, .mv (.tmp 6)⟩,
          ⟨some 37, none, .bin .quo (.tmp 36) (.const (.int .u32 100))⟩,
          ⟨some 38, none, .bin .mul (.tmp 37) (.const (.int .u32 2))⟩,
          ⟨some 39, none, .mv (.tmp 6)⟩,
          ⟨some 40, none, .bin .rem (.tmp 39) (.const (.int .u32 100))⟩,
          ⟨some 41, none, .bin .mul (.tmp 40) (.const (.int .u32 2))⟩,
          ⟨some 10, none, .mv (.tmp 38)⟩,
          ⟨some 11, none, .mv (.tmp 41)⟩])
        (.seq (.drawS [(0, 0), (0, 1), (0, 2), (0, 3), (0, 4), (0, 5), (0, 6), (0, 7), (0, 8), (0, 9), (0, 10), (0, 11), (2, 12), (0, 13), (2, 14)]
          [⟨some 42, none, .mv (.tmp 0)⟩,
          ⟨some 43, none, .mv (.tmp 4)⟩,
          ⟨some 44, none, .bin .sub (.tmp 43) (.const (.int .i64 1))⟩,
          ⟨some 45, none, .mv (.tmp 0)⟩,
          ⟨some 46, none, .mv (.tmp 4)⟩,
          ⟨some 47, none, .bin .sub (.tmp 46) (.const (.int .i64 2))⟩,
          ⟨some 48, none, .mv (.tmp 9)⟩,
          ⟨some 49, none, .bin .add (.tmp 48) (.const (.int .u32 1))⟩,
          ⟨some 50, none, .ixs (.const (.string ⟨#[48, 48, 48, 49, 48, 50, 48, 51, 48, 52, 48, 53, 48, 54, 48, 55, 48, 56, 48, 57, 49, 48, 49, 49, 49, 50, 49, 51, 49, 52, 49, 53, 49, 54, 49, 55, 49, 56, 49, 57, 50, 48, 50, 49, 50, 50, 50, 51, 50, 52, 50, 53, 50, 54, 50, 55, 50, 56, 50, 57, 51, 48, 51, 49, 51, 50, 51, 51, 51, 52, 51, 53, 51, 54, 51, 55, 51, 56, 51, 57, 52, 48, 52, 49, 52, 50, 52, 51, 52, 52, 52, 53, 52, 54, 52, 55, 52, 56, 52, 57, 53, 48, 53, 49, 53, 50, 53, 51, 53, 52, 53, 53, 53, 54, 53, 55, 53, 56, 53, 57, 54, 48, 54, 49, 54, 50, 54, 51, 54, 52, 54, 53, 54, 54, 54, 55, 54, 56, 54, 57, 55, 48, 55, 49, 55, 50, 55, 51, 55, 52, 55, 53, 55, 54, 55, 55, 55, 56, 55, 57, 56, 48, 56, 49, 56, 50, 56, 51, 56, 52, 56, 53, 56, 54, 56, 55, 56, 56, 56, 57, 57, 48, 57, 49, 57, 50, 57, 51, 57, 52, 57, 53, 57, 54, 57, 55, 57, 56, 57, 57]⟩)) (.tmp 49)⟩,
          ⟨some 51, none, .mv (.tmp 9)⟩,
          ⟨some 52, none, .ixs (.const (.string ⟨#[48, 48, 48, 49, 48, 50, 48, 51, 48, 52, 48, 53, 48, 54, 48, 55, 48, 56, 48, 57, 49, 48, 49, 49, 49, 50, 49, 51, 49, 52, 49, 53, 49, 54, 49, 55, 49, 56, 49, 57, 50, 48, 50, 49, 50, 50, 50, 51, 50, 52, 50, 53, 50, 54, 50, 55, 50, 56, 50, 57, 51, 48, 51, 49, 51, 50, 51, 51, 51, 52, 51, 53, 51, 54, 51, 55, 51, 56, 51, 57, 52, 48, 52, 49, 52, 50, 52, 51, 52, 52, 52, 53, 52, 54, 52, 55, 52, 56, 52, 57, 53, 48, 53, 49, 53, 50, 53, 51, 53, 52, 53, 53, 53, 54, 53, 55, 53, 56, 53, 57, 54, 48, 54, 49, 54, 50, 54, 51, 54, 52, 54, 53, 54, 54, 54, 55, 54, 56, 54, 57, 55, 48, 55, 49, 55, 50, 55, 51, 55, 52, 55, 53, 55, 54, 55, 55, 55, 56, 55, 57, 56, 48, 56, 49, 56, 50, 56, 51, 56, 52, 56, 53, 56, 54, 56, 55, 56, 56, 56, 57, 57, 48, 57, 49, 57, 50, 57, 51, 57, 52, 57, 53, 57, 54, 57, 55, 57, 56, 57, 57]⟩)) (.tmp 51)⟩,
          ⟨some 53, none, .ia 1 (.tmp 42) (.tmp 44)⟩,
          ⟨none, none, .st 1 (.tmp 53) (.tmp 50)⟩,
          ⟨some 54, none, .ia 1 (.tmp 45) (.tmp 47)⟩,
          ⟨none, none, .st 1 (.tmp 54) (.tmp 52)⟩])
        (.seq (.drawS [(0, 0), (0, 1), (0, 2), (0, 3), (0, 4), (0, 5), (0, 6), (0, 7), (0, 8), (0, 9), (0, 10), (0, 11), (2, 12), (0, 13), (2, 14)]
          [⟨some 55, none, .mv (.tmp 0)⟩,
          ⟨some 56, none, .mv (.tmp 4)⟩,
          ⟨some 57, none, .bin .sub (.tmp 56) (.const (.int .i64 3))⟩,
          ⟨some 58, none, .mv (.tmp 0)⟩,
          ⟨some 59, none, .mv (.tmp 4)⟩,
          ⟨some 60, none, .bin .sub (.tmp 59) (.const (.int .i64 4))⟩,
          ⟨some 61, none, .mv (.tmp 8)⟩,
          ⟨some 62, none, .bin .add (.tmp 61) (.const (.int .u32 1))⟩,
          ⟨some 63, none, .ixs (.const (.string ⟨#[48, 48, 48, 49, 48, 50, 48, 51, 48, 52, 48, 53, 48, 54, 48, 55, 48, 56, 48, 57, 49, 48, 49, 49, 49, 50, 49, 51, 49, 52, 49, 53, 49, 54, 49, 55, 49, 56, 49, 57, 50, 48, 50, 49, 50, 50, 50, 51, 50, 52, 50, 53, 50, 54, 50, 55, 50, 56, 50, 57, 51, 48, 51, 49, 51, 50, 51, 51, 51, 52, 51, 53, 51, 54, 51, 55, 51, 56, 51, 57, 52, 48, 52, 49, 52, 50, 52, 51, 52, 52, 52, 53, 52, 54, 52, 55, 52, 56, 52, 57, 53, 48, 53, 49, 53, 50, 53, 51, 53, 52, 53, 53, 53, 54, 53, 55, 53, 56, 53, 57, 54, 48, 54, 49, 54, 50, 54, 51, 54, 52, 54, 53, 54, 54, 54, 55, 54, 56, 54, 57, 55, 48, 55, 49, 55, 50, 55, 51, 55, 52, 55, 53, 55, 54, 55, 55, 55, 56, 55, 57, 56, 48, 56, 49, 56, 50, 56, 51, 56, 52, 56, 53, 56, 54, 56, 55, 56, 56, 56, 57, 57, 48, 57, 49, 57, 50, 57, 51, 57, 52, 57, 53, 57, 54, 57, 55, 57, 56, 57, 57]⟩)) (.tmp 62)⟩,
          ⟨some 64, none, .mv (.tmp 8)⟩,
          ⟨some 65, none, .ixs (.const (.string ⟨#[48, 48, 48, 49, 48, 50, 48, 51, 48, 52, 48, 53, 48, 54, 48, 55, 48, 56, 48, 57, 49, 48, 49, 49, 49, 50, 49, 51, 49, 52, 49, 53, 49, 54, 49, 55, 49, 56, 49, 57, 50, 48, 50, 49, 50, 50, 50, 51, 50, 52, 50, 53, 50, 54, 50, 55, 50, 56, 50, 57, 51, 48, 51, 49, 51, 50, 51, 51, 51, 52, 51, 53, 51, 54, 51, 55, 51, 56, 51, 57, 52, 48, 52, 49, 52, 50, 52, 51, 52, 52, 52, 53, 52, 54, 52, 55, 52, 56, 52, 57, 53, 48, 53, 49, 53, 50, 53, 51, 53, 52, 53, 53, 53, 54, 53, 55, 53, 56, 53, 57, 54, 48, 54, 49, 54, 50, 54, 51, 54, 52, 54, 53, 54, 54, 54, 55, 54, 56, 54, 57, 55, 48, 55, 49, 55, 50, 55, 51, 55, 52, 55, 53, 55, 54, 55, 55, 55, 56, 55, 57, 56, 48, 56, 49, 56, 50, 56, 51, 56, 52, 56, 53, 56, 54, 56, 55, 56, 56, 56, 57, 57, 48, 57, 49, 57, 50, 57, 51, 57, 52, 57, 53, 57, 54, 57, 55, 57, 56, 57, 57]⟩)) (.tmp 64)⟩,
          ⟨some 66, none, .ia 1 (.tmp 55) (.tmp 57)⟩,
          ⟨none, none, .st 1 (.tmp 66) (.tmp 63)⟩,
          ⟨some 67, none, .ia 1 (.tmp 58) (.tmp 60)⟩,
          ⟨none, none, .st 1 (.tmp 67) (.tmp 65)⟩])
        (.seq (.drawS [(0, 0), (0, 1), (0, 2), (0, 3), (0, 4), (0, 5), (0, 6), (0, 7), (0, 8), (0, 9), (0, 10), (0, 11), (2, 12), (0, 13), (2, 14)]
          [⟨some 68, none, .mv (.tmp 0)⟩,
          ⟨some 69, none, .mv (.tmp 4)⟩,
          ⟨some 70, none, .bin .sub (.tmp 69) (.const (.int .i64 5))⟩,
          ⟨some 71, none, .mv (.tmp 0)⟩,
          ⟨some 72, none, .mv (.tmp 4)⟩,
          ⟨some 73, none, .bin .sub (.tmp 72) (.const (.int .i64 6))⟩,
          ⟨some 74, none, .mv (.tmp 11)⟩,
          ⟨some 75, none, .bin .add (.tmp 74) (.const (.int .u32 1))⟩,
          ⟨some 76, none, .ixs (.const (.string ⟨#[48, 48, 48, 49, 48, 50, 48, 51, 48, 52, 48, 53, 48, 54, 48, 55, 48, 56, 48, 57, 49, 48, 49, 49, 49, 50, 49, 51, 49, 52, 49, 53, 49, 54, 49, 55, 49, 56, 49, 57, 50, 48, 50, 49, 50, 50, 50, 51, 50, 52, 50, 53, 50, 54, 50, 55, 50, 56, 50, 57, 51, 48, 51, 49, 51, 50, 51, 51, 51, 52, 51, 53, 51, 54, 51, 55, 51, 56, 51, 57, 52, 48, 52, 49, 52, 50, 52, 51, 52, 52, 52, 53, 52, 54, 52, 55, 52, 56, 52, 57, 53, 48, 53, 49, 53, 50, 53, 51, 53, 52, 53, 53, 53, 54, 53, 55, 53, 56, 53, 57, 54, 48, 54, 49, 54, 50, 54, 51, 54, 52, 54, 53, 54, 54, 54, 55, 54, 56, 54, 57, 55, 48, 55, 49, 55, 50, 55, 51, 55, 52, 55, 53, 55, 54, 55, 55, 55, 56, 55, 57, 56, 48, 56, 49, 56, 50, 56, 51, 56, 52, 56, 53, 56, 54, 56, 55, 56, 56, 56, 57, 57, 48, 57, 49, 57, 50, 57, 51, 57, 52, 57, 53, 57, 54, 57, 55, 57, 56, 57, 57]⟩)) (.tmp 75)⟩,
          ⟨some 77, none, .mv (.tmp 11)⟩,
          ⟨some 78, none, .ixs (.const (.string ⟨#[48, 48, 48, 49, 48, 50, 48, 51, 48, 52, 48, 53, 48, 54, 48, 55, 48, 56, 48, 57, 49, 48, 49, 49, 49, 50, 49, 51, 49, 52, 49, 53, 49, 54, 49, 55, 49, 56, 49, 57, 50, 48, 50, 49, 50, 50, 50, 51, 50, 52, 50, 53, 50, 54, 50, 55, 50, 56, 50, 57, 51, 48, 51, 49, 51, 50, 51, 51, 51, 52, 51, 53, 51, 54, 51, 55, 51, 56, 51, 57, 52, 48, 52, 49, 52, 50, 52, 51, 52, 52, 52, 53, 52, 54, 52, 55, 52, 56, 52, 57, 53, 48, 53, 49, 53, 50, 53, 51, 53, 52, 53, 53, 53, 54, 53, 55, 53, 56, 53, 57, 54, 48, 54, 49, 54, 50, 54, 51, 54, 52, 54, 53, 54, 54, 54, 55, 54, 56, 54, 57, 55, 48, 55, 49, 55, 50, 55, 51, 55, 52, 55, 53, 55, 54, 55, 55, 55, 56, 55, 57, 56, 48, 56, 49, 56, 50, 56, 51, 56, 52, 56, 53, 56, 54, 56, 55, 56, 56, 56, 57, 57, 48, 57, 49, 57, 50, 57, 51, 57, 52, 57, 53, 57, 54, 57, 55, 57, 56, 57, 57]⟩)) (.tmp 77)⟩,
          ⟨some 79, none, .ia 1 (.tmp 68) (.tmp 70)⟩,
          ⟨none, none, .st 1 (.tmp 79) (.tmp 76)⟩,
          ⟨some 80, none, .ia 1 (.tmp 71) (.tmp 73)⟩,
          ⟨none, none, .st 1 (.tmp 80) (.tmp 78)⟩])
        (.seq (.drawS [(0, 0), (0, 1), (0, 2), (0, 3), (0, 4), (0, 5), (0, 6), (0, 7), (0, 8), (0, 9), (0, 10), (0, 11), (2, 12), (0, 13), (2, 14)]
          [⟨some 81, none, .mv (.tmp 0)⟩,
          ⟨some 82, none, .mv (.tmp 4)⟩,
          ⟨some 83, none, .bin .sub (.tmp 82) (.const (.int .i64 7))⟩,
          ⟨some 84, none, .mv (.tmp 0)⟩,
          ⟨some 85, none, .mv (.tmp 4)⟩,
          ⟨some 86, none, .bin .sub (.tmp 85) (.const (.int .i64 8))⟩,
          ⟨some 87, none, .mv (.tmp 10)⟩,
          ⟨some 88, none, .bin .add (.tmp 87) (.const (.int .u32 1))⟩,
          ⟨some 89, none, .ixs (.const (.string ⟨#[48, 48, 48, 49, 48, 50, 48, 51, 48, 52, 48, 53, 48, 54, 48, 55, 48, 56, 48, 57, 49, 48, 49, 49, 49, 50, 49, 51, 49, 52, 49, 53, 49, 54, 49, 55, 49, 56, 49, 57, 50, 48, 50, 49, 50, 50, 50, 51, 50, 52, 50, 53, 50, 54, 50, 55, 50, 56, 50, 57, 51, 48, 51, 49, 51, 50, 51, 51, 51, 52, 51, 53, 51, 54, 51, 55, 51, 56, 51, 57, 52, 48, 52, 49, 52, 50, 52, 51, 52, 52, 52, 53, 52, 54, 52, 55, 52, 56, 52, 57, 53, 48, 53, 49, 53, 50, 53, 51, 53, 52, 53, 53, 53, 54, 53, 55, 53, 56, 53, 57, 54, 48, 54, 49, 54, 50, 54, 51, 54, 52, 54, 53, 54, 54, 54, 55, 54, 56, 54, 57, 55, 48, 55, 49, 55, 50, 55, 51, 55, 52, 55, 53, 55, 54, 55, 55, 55, 56, 55, 57, 56, 48, 56, 49, 56, 50, 56, 51, 56, 52, 56, 53, 56, 54, 56, 55, 56, 56, 56, 57, 57, 48, 57, 49, 57, 50, 57, 51, 57, 52, 57, 53, 57, 54, 57, 55, 57, 56, 57, 57]⟩)) (.tmp 88)⟩,
          ⟨some 90, none, .mv (.tmp 10)⟩,
          ⟨some 91, none, .ixs (.const (.string ⟨#[48, 48, 48, 49, 48, 50, 48, 51, 48, 52, 48, 53, 48, 54, 48, 55, 48, 56, 48, 57, 49, 48, 49, 49, 49, 50, 49, 51, 49, 52, 49, 53, 49, 54, 49, 55, 49, 56, 49, 57, 50, 48, 50, 49, 50, 50, 50, 51, 50, 52, 50, 53, 50, 54, 50, 55, 50, 56, 50, 57, 51, 48, 51, 49, 51, 50, 51, 51, 51, 52, 51, 53, 51, 54, 51, 55, 51, 56, 51, 57, 52, 48, 52, 49, 52, 50, 52, 51, 52, 52, 52, 53, 52, 54, 52, 55, 52, 56, 52, 57, 53, 48, 53, 49, 53, 50, 53, 51, 53, 52, 53, 53, 53, 54, 53, 55, 53, 56, 53, 57, 54, 48, 54, 49, 54, 50, 54, 51, 54, 52, 54, 53, 54, 54, 54, 55, 54, 56, 54, 57, 55, 48, 55, 49, 55, 50, 55, 51, 55, 52, 55, 53, 55, 54, 55, 55, 55, 56, 55, 57, 56, 48, 56, 49, 56, 50, 56, 51, 56, 52, 56, 53, 56, 54, 56, 55, 56, 56, 56, 57, 57, 48, 57, 49, 57, 50, 57, 51, 57, 52, 57, 53, 57, 54, 57, 55, 57, 56, 57, 57]⟩)) (.tmp 90)⟩,
          ⟨some 92, none, .ia 1 (.tmp 81) (.tmp 83)⟩,
          ⟨none, none, .st 1 (.tmp 92) (.tmp 89)⟩,
          ⟨some 93, none, .ia 1 (.tmp 84) (.tmp 86)⟩,
          ⟨none, none, .st 1 (.tmp 93) (.tmp 91)⟩])
        (.ops [⟨some 94, none, .mv (.tmp 4)⟩,
          ⟨some 95, none, .bin .sub (.tmp 94) (.const (.int .i64 8))⟩,
          ⟨some 4, none, .mv (.tmp 95)⟩]))))))))))))))
  (.seq (.ops [⟨some 96, none, .mv (.tmp 1)⟩,
    ⟨some 97, none, .cv .u32 (.tmp 96)⟩,
    ⟨some 12, none, .mv (.tmp 97)⟩])
  (.join (.seq (.ops [⟨some 98, none, .mv (.tmp 4)⟩,
    ⟨some 99, none, .bin .geq (.tmp 98) (.const (.int .i64 4))⟩])
  (.cond (.tmp 99)
    (.seq (.ops [⟨some 100, none, .mv (.tmp 12)⟩,
      ⟨some 101, none, .bin .rem (.tmp 100) (.const (.int .u32 10000))⟩,
      ⟨some 13, none, .mv (.tmp 101)⟩])
    (.seq (.ops [⟨some 102, none, .mv (.tmp 12)⟩,
      ⟨some 103, none, .bin .quo (.tmp 102) (.const (.int .u32 10000))⟩,
      ⟨some 12, none, .mv (.tmp 103)⟩])
    (.seq (.ops [⟨some 104, none, .mv (.tmp 13)⟩,
      ⟨some 105, none, .bin .quo (.tmp 104) (.const (.int .u32 100))⟩,
      ⟨some 106, none, .bin .mul (.tmp 105) (.const (.int .u32 2))⟩,
      ⟨some 107, none, .mv (.tmp 13)⟩,
      ⟨some 108, none, .bin .rem (.tmp 107) (.const (.int .u32 100))⟩,
      ⟨some 109, none, .bin .mul (.tmp 108) (.const (.int .u32 2))⟩,
      ⟨some 14, none, .mv (.tmp 106)⟩,
      ⟨some 15, none, .mv (.tmp 109)⟩])
    (.seq (.drawS [(0, 0), (0, 1), (0, 2), (0, 3), (0, 4), (0, 5), (0, 6), (0, 7), (0, 8), (0, 9), (0, 10), (0, 11), (2, 12), (0, 13), (2, 14)]
      [⟨some 110, none, .mv (.tmp 0)⟩,
      ⟨some 111, none, .mv (.tmp 4)⟩,
      ⟨some 112, none, .bin .sub (.tmp 111) (.const (.int .i64 1))⟩,
      ⟨some 113, none, .mv (.tmp 0)⟩,
      ⟨some 114, none, .mv (.tmp 4)⟩,
      ⟨some 115, none, .bin .sub (.tmp 114) (.const (.int .i64 2))⟩,
      ⟨some 116, none, .mv (.tmp 15)⟩,
      ⟨some 117, none, .bin .add (.tmp 116) (.const (.int .u32 1))⟩,
      ⟨some 118, none, .ixs (.const (.string ⟨#[48, 48, 48, 49, 48, 50, 48, 51, 48, 52, 48, 53, 48, 54, 48, 55, 48, 56, 48, 57, 49, 48, 49, 49, 49, 50, 49, 51, 49, 52, 49, 53, 49, 54, 49, 55, 49, 56, 49, 57, 50, 48, 50, 49, 50, 50, 50, 51, 50, 52, 50, 53, 50, 54, 50, 55, 50, 56, 50, 57, 51, 48, 51, 49, 51, 50, 51, 51, 51, 52, 51, 53, 51, 54, 51, 55, 51, 56, 51, 57, 52, 48, 52, 49, 52, 50, 52, 51, 52, 52, 52, 53, 52, 54, 52, 55, 52, 56, 52, 57, 53, 48, 53, 49, 53, 50, 53, 51, 53, 52, 53, 53, 53, 54, 53, 55, 53, 56, 53, 57, 54, 48, 54, 49, 54, 50, 54, 51, 54, 52, 54, 53, 54, 54, 54, 55, 54, 56, 54, 57, 55, 48, 55, 49, 55, 50, 55, 51, 55, 52, 55, 53, 55, 54, 55, 55, 55, 56, 55, 57, 56, 48, 56, 49, 56, 50, 56, 51, 56, 52, 56, 53, 56, 54, 56, 55, 56, 56, 56, 57, 57, 48, 57, 49, 57, 50, 57, 51, 57, 52, 57, 53, 57, 54, 57, 55, 57, 56, 57, 57]⟩)) (.tmp 117)⟩,
      ⟨some 119, none, .mv (.tmp 15)⟩,
      ⟨some 120, none, .ixs (.const (.string ⟨#[48, 48, 48, 49, 48, 50, 48, 51, 48, 52, 48, 53, 48, 54, 48, 55, 48, 56, 48, 57, 49, 48, 49, 49, 49, 50, 49, 51, 49, 52, 49, 53, 49, 54, 49, 55, 49, 56, 49, 57, 50, 48, 50, 49, 50, 50, 50, 51, 50, 52, 50, 53, 50, 54, 50, 55, 50, 56, 50, 57, 51, 48, 51, 49, 51, 50, 51, 51, 51, 52, 51, 53, 51, 54, 51, 55, 51, 56, 51, 57, 52, 48, 52, 49, 52, 50, 52, 51, 52, 52, 52, 53, 52, 54, 52, 55, 52, 56, 52, 57, 53, 48, 53, 49, 53, 50, 53, 51, 53, 52, 53, 53, 53, 54, 53, 55, 53, 56, 53, 57, 54, 48, 54, 49, 54, 50, 54, 51, 54, 52, 54, 53, 54, 54, 54, 55, 54, 56, 54, 57, 55, 48, 55, 49, 55, 50, 55, 51, 55, 52, 55, 53, 55, 54, 55, 55, 55, 56, 55, 57, 56, 48, 56, 49, 56, 50, 56, 51, 56, 52, 56, 53, 56, 54, 56, 55, 56, 56, 56, 57, 57, 48, 57, 49, 57, 50, 57, 51, 57, 52, 57, 53, 57, 54, 57, 55, 57, 56, 57, 57]⟩)) (.tmp 119)⟩,
      ⟨some 121, none, .ia 1 (.tmp 110) (.tmp 112)⟩,
      ⟨none, none, .st 1 (.tmp 121) (.tmp 118)⟩,
      ⟨some 122, none, .ia 1 (.tmp 113) (.tmp 115)⟩,
      ⟨none, none, .st 1 (.tmp 122) (.tmp 120)⟩])
    (.seq (.drawS [(0, 0), (0, 1), (0, 2), (0, 3), (0, 4), (0, 5), (0, 6), (0, 7), (0, 8), (0, 9), (0, 10), (0, 11), (2, 12), (0, 13), (2, 14)]
      [⟨some 123, none, .mv (.tmp 0)⟩,
      ⟨some 124, none, .mv (.tmp 4)⟩,
      ⟨some 125, none, .bin .sub (.tmp 124) (.const (.int .i64 3))⟩,
      ⟨some 126, none, .mv (.tmp 0)⟩,
      ⟨some 127, none, .mv (.tmp 4)⟩,
      ⟨some 128, none, .bin .sub (.tmp 127) (.const (.int .i64 4))⟩,
      ⟨some 129, none, .mv (.tmp 14)⟩,
      ⟨some 130, none, .bin .add (.tmp 129) (.const (.int .u32 1))⟩,
      ⟨some 131, none, .ixs (.const (.string ⟨#[48, 48, 48, 49, 48, 50, 48, 51, 48, 52, 48, 53, 48, 54, 48, 55, 48, 56, 48, 57, 49, 48, 49, 49, 49, 50, 49, 51, 49, 52, 49, 53, 49, 54, 49, 55, 49, 56, 49, 57, 50, 48, 50, 49, 50, 50, 50, 51, 50, 52, 50, 53, 50, 54, 50, 55, 50, 56, 50, 57, 51, 48, 51, 49, 51, 50, 51, 51, 51, 52, 51, 53, 51, 54, 51, 55, 51, 56, 51, 57, 52, 48, 52, 49, 52, 50, 52, 51, 52, 52, 52, 53, 52, 54, 52, 55, 52, 56, 52, 57, 53, 48, 53, 49, 53, 50, 53, 51, 53, 52, 53, 53, 53, 54, 53, 55, 53, 56, 53, 57, 54, 48, 54, 49, 54, 50, 54, 51, 54, 52, 54, 53, 54, 54, 54, 55, 54, 56, 54, 57, 55, 48, 55, 49, 55, 50, 55, 51, 55, 52, 55, 53, 55, 54, 55, 55, 55, 56, 55, 57, 56, 48, 56, 49, 56, 50, 56, 51, 56, 52, 56, 53, 56, 54, 56, 55, 56, 56, 56, 57, 57, 48, 57, 49, 57, 50, 57, 51, 57, 52, 57, 53, 57, 54, 57, 55, 57, 56, 57, 57]⟩)) (.tmp 130)⟩,
      ⟨some 132, none, .mv (.tmp 14)⟩,
      ⟨some 133, none, .ixs (.const (.string ⟨#[48, 48, 48, 49, 48, 50, 48, 51, 48, 52, 48, 53, 48, 54, 48, 55, 48, 56, 48, 57, 49, 48, 49, 49, 49, 50, 49, 51, 49, 52, 49, 53, 49, 54, 49, 55, 49, 56, 49, 57, 50, 48, 50, 49, 50, 50, 50, 51, 50, 52, 50, 53, 50, 54, 50, 55, 50, 56, 50, 57, 51, 48, 51, 49, 51, 50, 51, 51, 51, 52, 51, 53, 51, 54, 51, 55, 51, 56, 51, 57, 52, 48, 52, 49, 52, 50, 52, 51, 52, 52, 52, 53, 52, 54, 52, 55, 52, 56, 52, 57, 53, 48, 53, 49, 53, 50, 53, 51, 53, 52, 53, 53, 53, 54, 53, 55, 53, 56, 53, 57, 54, 48, 54, 49, 54, 50, 54, 51, 54, 52, 54, 53, 54, 54, 54, 55, 54, 56, 54, 57, 55, 48, 55, 49, 55, 50, 55, 51, 55, 52, 55, 53, 55, 54, 55, 55, 55, 56, 55, 57, 56, 48, 56, 49, 56, 50, 56, 51, 56, 52, 56, 53, 56, 54, 56, 55, 56, 56, 56, 57, 57, 48, 57, 49, 57, 50, 57, 51, 57, 52, 57, 53, 57, 54, 57, 55, 57, 56, 57, 57]⟩)) (.tmp 132)⟩,
      ⟨some 134, none, .ia 1 (.tmp 123) (.tmp 125)⟩,
      ⟨none, none, .st 1 (.tmp 134) (.tmp 131)⟩,
      ⟨some 135, none, .ia 1 (.tmp 126) (.tmp 128)⟩,
      ⟨none, none, .st 1 (.tmp 135) (.tmp 133)⟩])
    (.ops [⟨some 136, none, .mv (.tmp 4)⟩,
      ⟨some 137, none, .bin .sub (.tmp 136) (.const (.int .i64 4))⟩,
      ⟨some 4, none, .mv (.tmp 137)⟩]))))))
    .skip))
  (.join (.seq (.ops [⟨some 138, none, .mv (.tmp 4)⟩,
    ⟨some 139, none, .bin .geq (.tmp 138) (.const (.int .i64 2))⟩])
  (.cond (.tmp 139)
    (.seq (.ops [⟨some 140, none, .mv (.tmp 12)⟩,
      ⟨some 141, none, .bin .rem (.tmp 140) (.const (.int .u32 100))⟩,
      ⟨some 142, none, .bin .mul (.tmp 141) (.const (.int .u32 2))⟩,
      ⟨some 16, none, .mv (.tmp 142)⟩])
    (.seq (.ops [⟨some 143, none, .mv (.tmp 12)⟩,
      ⟨some 144, none, .bin .quo (.tmp 143) (.const (.int .u32 100))⟩,
      ⟨some 12, none, .mv (.tmp 144)⟩])
    (.seq (.drawS [(0, 0), (0, 1), (0, 2), (0, 3), (0, 4), (0, 5), (0, 6), (0, 7), (0, 8), (0, 9), (0, 10), (0, 11), (2, 12), (0, 13), (2, 14)]
      [⟨some 145, none, .mv (.tmp 0)⟩,
      ⟨some 146, none, .mv (.tmp 4)⟩,
      ⟨some 147, none, .bin .sub (.tmp 146) (.const (.int .i64 1))⟩,
      ⟨some 148, none, .mv (.tmp 0)⟩,
      ⟨some 149, none, .mv (.tmp 4)⟩,
      ⟨some 150, none, .bin .sub (.tmp 149) (.const (.int .i64 2))⟩,
      ⟨some 151, none, .mv (.tmp 16)⟩,
      ⟨some 152, none, .bin .add (.tmp 151) (.const (.int .u32 1))⟩,
      ⟨some 153, none, .ixs (.const (.string ⟨#[48, 48, 48, 49, 48, 50, 48, 51, 48, 52, 48, 53, 48, 54, 48, 55, 48, 56, 48, 57, 49, 48, 49, 49, 49, 50, 49, 51, 49, 52, 49, 53, 49, 54, 49, 55, 49, 56, 49, 57, 50, 48, 50, 49, 50, 50, 50, 51, 50, 52, 50, 53, 50, 54, 50, 55, 50, 56, 50, 57, 51, 48, 51, 49, 51, 50, 51, 51, 51, 52, 51, 53, 51, 54, 51, 55, 51, 56, 51, 57, 52, 48, 52, 49, 52, 50, 52, 51, 52, 52, 52, 53, 52, 54, 52, 55, 52, 56, 52, 57, 53, 48, 53, 49, 53, 50, 53, 51, 53, 52, 53, 53, 53, 54, 53, 55, 53, 56, 53, 57, 54, 48, 54, 49, 54, 50, 54, 51, 54, 52, 54, 53, 54, 54, 54, 55, 54, 56, 54, 57, 55, 48, 55, 49, 55, 50, 55, 51, 55, 52, 55, 53, 55, 54, 55, 55, 55, 56, 55, 57, 56, 48, 56, 49, 56, 50, 56, 51, 56, 52, 56, 53, 56, 54, 56, 55, 56, 56, 56, 57, 57, 48, 57, 49, 57, 50, 57, 51, 57, 52, 57, 53, 57, 54, 57, 55, 57, 56, 57, 57]⟩)) (.tmp 152)⟩,
      ⟨some 154, none, .mv (.tmp 16)⟩,
      ⟨some 155, none, .ixs (.const (.string ⟨#[48, 48, 48, 49, 48, 50, 48, 51, 48, 52, 48, 53, 48, 54, 48, 55, 48, 56, 48, 57, 49, 48, 49, 49, 49, 50, 49, 51, 49, 52, 49, 53, 49, 54, 49, 55, 49, 56, 49, 57, 50, 48, 50, 49, 50, 50, 50, 51, 50, 52, 50, 53, 50, 54, 50, 55, 50, 56, 50, 57, 51, 48, 51, 49, 51, 50, 51, 51, 51, 52, 51, 53, 51, 54, 51, 55, 51, 56, 51, 57, 52, 48, 52, 49, 52, 50, 52, 51, 52, 52, 52, 53, 52, 54, 52, 55, 52, 56, 52, 57, 53, 48, 53, 49, 53, 50, 53, 51, 53, 52, 53, 53, 53, 54, 53, 55, 53, 56, 53, 57, 54, 48, 54, 49, 54, 50, 54, 51, 54, 52, 54, 53, 54, 54, 54, 55, 54, 56, 54, 57, 55, 48, 55, 49, 55, 50, 55, 51, 55, 52, 55, 53, 55, 54, 55, 55, 55, 56, 55, 57, 56, 48, 56, 49, 56, 50, 56, 51, 56, 52, 56, 53, 56, 54, 56, 55, 56, 56, 56, 57, 57, 48, 57, 49, 57, 50, 57, 51, 57, 52, 57, 53, 57, 54, 57, 55, 57, 56, 57, 57]⟩)) (.tmp 154)⟩,
      ⟨some 156, none, .ia 1 (.tmp 145) (.tmp 147)⟩,
      ⟨none, none, .st 1 (.tmp 156) (.tmp 153)⟩,
      ⟨some 157, none, .ia 1 (.tmp 148) (.tmp 150)⟩,
      ⟨none, none, .st 1 (.tmp 157) (.tmp 155)⟩])
    (.ops [⟨some 158, none, .mv (.tmp 4)⟩,
      ⟨some 159, none, .bin .sub (.tmp 158) (.const (.int .i64 2))⟩,
      ⟨some 4, none, .mv (.tmp 159)⟩]))))
    .skip))
  (.seq (.ops [⟨some 160, none, .mv (.tmp 4)⟩,
    ⟨some 161, none, .bin .gtr (.tmp 160) (.const (.int .i64 0))⟩])
  (.cond (.tmp 161)
    (.ops [⟨some 162, none, .mv (.tmp 0)⟩,
      ⟨some 163, none, .mv (.tmp 12)⟩,
      ⟨some 164, none, .bin .add (.const (.int .u32 48)) (.tmp 163)⟩,
      ⟨some 165, none, .cv .u8 (.tmp 164)⟩,
      ⟨some 166, none, .ia 1 (.tmp 162) (.const (.int .i64 0))⟩,
      ⟨none, none, .st 1 (.tmp 166) (.tmp 165)⟩])
    .skip)))))))⟩
theorem h92 : strF Tryd.prog [(7, .inl [(0, 0), (0, 1), (0, 2), (0, 3), (0, 4), (0, 5), (0, 6), (0, 7), (0, 8), (0, 9), (0, 10), (0, 11), (2, 12), (0, 13), (2, 14)]), (8, .inl [(0, 0), (0, 1), (0, 2), (0, 3), (0, 4), (0, 5), (0, 6), (0, 7), (0, 8), (0, 9), (0, 10), (0, 11), (2, 12), (0, 13), (2, 14)]), (9, .inl [(0, 0), (0, 1), (0, 2), (0, 3), (0, 4), (0, 5), (0, 6), (0, 7), (0, 8), (0, 9), (0, 10), (0, 11), (2, 12), (0, 13), (2, 14)]), (10, .inl [(0, 0), (0, 1), (0, 2), (0, 3), (0, 4), (0, 5), (0, 6), (0, 7), (0, 8), (0, 9), (0, 10), (0, 11), (2, 12), (0, 13), (2, 14)]), (17, .inl [(0, 0), (0, 1), (0, 2), (0, 3), (0, 4), (0, 5), (0, 6), (0, 7), (0, 8), (0, 9), (0, 10), (0, 11), (2, 12), (0, 13), (2, 14)]), (18, .inl [(0, 0), (0, 1), (0, 2), (0, 3), (0, 4), (0, 5), (0, 6), (0, 7), (0, 8), (0, 9), (0, 10), (0, 11), (2, 12), (0, 13), (2, 14)]), (23, .inl [(0, 0), (0, 1), (0, 2), (0, 3), (0, 4), (0, 5), (0, 6), (0, 7), (0, 8), (0, 9), (0, 10), (0, 11), (2, 12), (0, 13), (2, 14)])] Tryd.f92 = some c92 := by kernel_rfl

/-- internal/strconv.formatBits -/
def c93 : Fun := ⟨102, [.inl 10, .inl 11],
  (.seq (.ops [⟨some 10, none, .mv (.const (.slice none 0 0))⟩,
    ⟨some 11, none, .mv (.const (.string ⟨#[]⟩))⟩])
  (.join (.seq (.ops [⟨some 19, none, .mv (.tmp 2)⟩,
    ⟨some 20, none, .bin .lss (.tmp 19) (.const (.int .i64 2))⟩,
    ⟨some 21, none, .mv (.tmp 20)⟩,
    ⟨some 22, some (21, false), .mv (.tmp 2)⟩,
    ⟨some 23, some (21, false), .bin .eql (.tmp 22) (.const (.int .i64 10))⟩,
    ⟨some 24, none, .pick (.tmp 21) (.const (.bool true)) (.tmp 23)⟩,
    ⟨some 25, none, .mv (.tmp 24)⟩,
    ⟨some 26, some (25, false), .mv (.tmp 2)⟩,
    ⟨some 27, some (25, false), .bin .gtr (.tmp 26) (.const (.int .i64 36))⟩,
    ⟨some 28, none, .pick (.tmp 25) (.const (.bool true)) (.tmp 27)⟩])
  (.cond (.tmp 28)
    (.ops [⟨some 29, none, .mki 9 (.const (.string ⟨#[115, 116, 114, 99, 111, 110, 118, 58, 32, 105, 108, 108, 101, 103, 97, 108, 32, 65, 112, 112, 101, 110, 100, 73, 110, 116, 47, 70, 111, 114, 109, 97, 116, 73, 110, 116, 32, 98, 97, 115, 101]⟩))⟩,
      ⟨none, none, .no⟩])
    .skip))
  (.seq (.ops [⟨some 12, none, .alloc 169 (.agg (Array.replicate 65 (.int .u8 0)))⟩])
  (.seq (.ops [⟨some 13, none, .mv (.const (.int .i64 65))⟩])
  (.join (.seq (.ops [⟨some 30, none, .mv (.tmp 3)⟩])
  (.cond (.tmp 30)
    (.ops [⟨some 31, none, .mv (.tmp 1)⟩,
      ⟨some 32, none, .un .neg (.tmp 31)⟩,
      ⟨some 1, none, .mv (.tmp 32)⟩])
    .skip))
  (.join (.seq (.ops [⟨some 33, none, .mv (.tmp 2)⟩,
    ⟨some 34, none, .call 108 [(.tmp 33)]⟩])
  (.cond (.tmp 34)
    (.seq (.ops [⟨some 35, none, .mv (.tmp 2)⟩,
      ⟨some 36, none, .cv .u64 (.tmp 35)⟩,
      ⟨some 37, none, .call 109 [(.tmp 36)]⟩,
      ⟨some 38, none, .cv .u64 (.tmp 37)⟩,
      ⟨some 14, none, .mv (.tmp 38)⟩])
    (.seq (.ops [⟨some 39, none, .mv (.tmp 2)⟩,
      ⟨some 40, none, .cv .u64 (.tmp 39)⟩,
      ⟨some 15, none, .mv (.tmp 40)⟩])
    (.seq (.ops [⟨some 41, none, .mv (.tmp 2)⟩,
      ⟨some 42, none, .cv .u64 (.tmp 41)⟩,
      ⟨some 43, none, .bin .sub (.tmp 42) (.const (.int .u64 1))⟩,
      ⟨some 16, none, .mv (.tmp 43)⟩])
    (.seq (.block 0
      (.loop
        (.seq (.seq (.ops [⟨some 44, none, .mv (.tmp 1)⟩,
          ⟨some 45, none, .mv (.tmp 15)⟩,
          ⟨some 46, none, .bin .geq (.tmp 44) (.tmp 45)⟩])
        (.cond (.tmp 46)
          .skip
          (.exit 0)))
        (.block 1
          (.seq (.ops [⟨some 47, none, .mv (.tmp 13)⟩,
            ⟨some 48, none, .bin .sub (.tmp 47) (.const (.int .i64 1))⟩,
            ⟨some 13, none, .mv (.tmp 48)⟩])
          (.seq (.ops [⟨some 49, none, .mv (.tmp 13)⟩,
            ⟨some 50, none, .mv (.tmp 1)⟩,
            ⟨some 51, none, .mv (.tmp 16)⟩,
            ⟨some 52, none, .bin .and (.tmp 50) (.tmp 51)⟩,
            ⟨some 53, none, .ixs (.const (.string ⟨#[48, 49, 50, 51, 52, 53, 54, 55, 56, 57, 97, 98, 99, 100, 101, 102, 103, 104, 105, 106, 107, 108, 109, 110, 111, 112, 113, 114, 115, 116, 117, 118, 119, 120, 121, 122]⟩)) (.tmp 52)⟩,
            ⟨some 54, none, .iaA 65 1 (.tmp 12) (.tmp 49)⟩,
            ⟨none, none, .st 1 (.tmp 54) (.tmp 53)⟩])
          (.ops [⟨some 55, none, .mv (.tmp 1)⟩,
            ⟨some 56, none, .mv (.tmp 14)⟩,
            ⟨some 57, none, .bin .shr (.tmp 55) (.tmp 56)⟩,
            ⟨some 1, none, .mv (.tmp 57)⟩])))))))
    (.seq (.ops [⟨some 58, none, .mv (.tmp 13)⟩,
      ⟨some 59, none, .bin .sub (.tmp 58) (.const (.int .i64 1))⟩,
      ⟨some 13, none, .mv (.tmp 59)⟩])
    (.ops [⟨some 60, none, .mv (.tmp 13)⟩,
      ⟨some 61, none, .mv (.tmp 1)⟩,
      ⟨some 62, none, .ixs (.const (.string ⟨#[48, 49, 50, 51, 52, 53, 54, 55, 56, 57, 97, 98, 99, 100, 101, 102, 103, 104, 105, 106, 107, 108, 109, 110, 111, 112, 113, 114, 115, 116, 117, 118, 119, 120, 121, 122]⟩)) (.tmp 61)⟩,
      ⟨some 63, none, .iaA 65 1 (.tmp 12) (.tmp 60)⟩,
      ⟨none, none, .st 1 (.tmp 63) (.tmp 62)⟩]))))))
    (.seq (.ops [⟨some 64, none, .mv (.tmp 2)⟩,
      ⟨some 65, none, .cv .u64 (.tmp 64)⟩,
      ⟨some 17, none, .mv (.tmp 65)⟩])
    (.seq (.block 2
      (.loop
        (.seq (.seq (.ops [⟨some 66, none, .mv (.tmp 1)⟩,
          ⟨some 67, none, .mv (.tmp 17)⟩,
          ⟨some 68, none, .bin .geq (.tmp 66) (.tmp 67)⟩])
        (.cond (.tmp 68)
          .skip
          (.exit 2)))
        (.block 3
          (.seq (.ops [⟨some 69, none, .mv (.tmp 13)⟩,
            ⟨some 70, none, .bin .sub (.tmp 69) (.const (.int .i64 1))⟩,
            ⟨some 13, none, .mv (.tmp 70)⟩])
          (.seq (.ops [⟨some 71, none, .mv (.tmp 1)⟩,
            ⟨some 72, none, .mv (.tmp 17)⟩,
            ⟨some 73, none, .bin .quo (.tmp 71) (.tmp 72)⟩,
            ⟨some 18, none, .mv (.tmp 73)⟩])
          (.seq (.ops [⟨some 74, none, .mv (.tmp 13)⟩,
            ⟨some 75, none, .mv (.tmp 1)⟩,
            ⟨some 76, none, .mv (.tmp 18)⟩,
            ⟨some 77, none, .mv (.tmp 17)⟩,
            ⟨some 78, none, .bin .mul (.tmp 76) (.tmp 77)⟩,
            ⟨some 79, none, .bin .sub (.tmp 75) (.tmp 78)⟩,
            ⟨some 80, none, .ixs (.const (.string ⟨#[48, 49, 50, 51, 52, 53, 54, 55, 56, 57, 97, 98, 99, 100, 101, 102, 103, 104, 105, 106, 107, 108, 109, 110, 111, 112, 113, 114, 115, 116, 117, 118, 119, 120, 121, 122]⟩)) (.tmp 79)⟩,
            ⟨some 81, none, .iaA 65 1 (.tmp 12) (.tmp 74)⟩,
            ⟨none, none, .st 1 (.tmp 81) (.tmp 80)⟩])
          (.ops [⟨some 82, none, .mv (.tmp 18)⟩,
            ⟨some 1, none, .mv (.tmp 82)⟩]))))))))
    (.seq (.ops [⟨some 83, none, .mv (.tmp 13)⟩,
      ⟨some 84, none, .bin .sub (.tmp 83) (.const (.int .i64 1))⟩,
      ⟨some 13, none, .mv (.tmp 84)⟩])
    (.ops [⟨some 85, none, .mv (.tmp 13)⟩,
      ⟨some 86, none, .mv (.tmp 1)⟩,
      ⟨some 87, none, .ixs (.const (.string ⟨#[48, 49, 50, 51, 52, 53, 54, 55, 56, 57, 97, 98, 99, 100, 101, 102, 103, 104, 105, 106, 107, 108, 109, 110, 111, 112, 113, 114, 115, 116, 117, 118, 119, 120, 121, 122]⟩)) (.tmp 86)⟩,
      ⟨some 88, none, .iaA 65 1 (.tmp 12) (.tmp 85)⟩,
      ⟨none, none, .st 1 (.tmp 88) (.tmp 87)⟩]))))))
  (.join (.seq (.ops [⟨some 89, none, .mv (.tmp 3)⟩])
  (.cond (.tmp 89)
    (.seq (.ops [⟨some 90, none, .mv (.tmp 13)⟩,
      ⟨some 91, none, .bin .sub (.tmp 90) (.const (.int .i64 1))⟩,
      ⟨some 13, none, .mv (.tmp 91)⟩])
    (.ops [⟨some 92, none, .mv (.tmp 13)⟩,
      ⟨some 93, none, .iaA 65 1 (.tmp 12) (.tmp 92)⟩,
      ⟨none, none, .st 1 (.tmp 93) (.const (.int .u8 45))⟩]))
    .skip))
  (.seq (.seq (.ops [⟨some 94, none, .mv (.tmp 4)⟩])
  (.cond (.tmp 94)
    (.seq (.ops [⟨some 95, none, .mv (.tmp 0)⟩,
      ⟨some 96, none, .mv (.tmp 13)⟩,
      ⟨some 97, none, .sla 65 1 (.tmp 12) (some (.tmp 96)) none⟩,
      ⟨some 98, none, .app 5 1 1 #[(.int .u8 0)] (.tmp 95) (.tmp 97)⟩,
      ⟨some 10, none, .mv (.tmp 98)⟩])
    .ret)
    .skip))
  (.seq (.ops [⟨some 99, none, .mv (.tmp 13)⟩,
    ⟨some 100, none, .sla 65 1 (.tmp 12) (some (.tmp 99)) none⟩,
    ⟨some 101, none, .cvbs (.tmp 100)⟩,
    ⟨some 11, none, .mv (.tmp 101)⟩])
  .ret)))))))))⟩
theorem h93 : strF Tryd.prog [] Tryd.f93 = some c93 := by kernel_rfl

/-- unicode/utf8.decodeRuneSlow -/
def c94 : Fun := ⟨122, [.inl 2, .inl 3],
  (.seq (.ops [⟨some 2, none, .mv (.const (.int .i32 0))⟩,
    ⟨some 3, none, .mv (.const (.int .i64 0))⟩])
  (.seq (.ops [⟨some 13, none, .mv (.tmp 0)⟩,
    ⟨some 14, none, .len (.tmp 13)⟩,
    ⟨some 4, none, .mv (.tmp 14)⟩])
  (.seq (.seq (.ops [⟨some 15, none, .mv (.tmp 4)⟩,
    ⟨some 16, none, .bin .lss (.tmp 15) (.const (.int .i64 1))⟩])
  (.cond (.tmp 16)
    (.seq (.ops [⟨some 2, none, .mv (.const (.int .i32 65533))⟩,
      ⟨some 3, none, .mv (.const (.int .i64 0))⟩])
    .ret)
    .skip))
  (.seq (.ops [⟨some 17, none, .mv (.tmp 0)⟩,
    ⟨some 18, none, .ia 1 (.tmp 17) (.const (.int .i64 0))⟩,
    ⟨some 19, none, .ld (.int .u8) (.tmp 18)⟩,
    ⟨some 5, none, .mv (.tmp 19)⟩])
  (.seq (.ops [⟨some 20, none, .mv (.tmp 5)⟩,
    ⟨some 21, none, .iaA 256 1 (.global 1) (.tmp 20)⟩,
    ⟨some 22, none, .ld (.int .u8) (.tmp 21)⟩,
    ⟨some 6, none, .mv (.tmp 22)⟩])
  (.seq (.seq (.ops [⟨some 23, none, .mv (.tmp 6)⟩,
    ⟨some 24, none, .bin .geq (.tmp 23) (.const (.int .u8 240))⟩])
  (.cond (.tmp 24)
    (.seq (.ops [⟨some 25, none, .mv (.tmp 6)⟩,
      ⟨some 26, none, .cv .i32 (.tmp 25)⟩,
      ⟨some 27, none, .bin .shl (.tmp 26) (.const (.int .u64 31))⟩,
      ⟨some 28, none, .bin .shr (.tmp 27) (.const (.int .u64 31))⟩,
      ⟨some 7, none, .mv (.tmp 28)⟩])
    (.seq (.ops [⟨some 29, none, .mv (.tmp 0)⟩,
      ⟨some 30, none, .ia 1 (.tmp 29) (.const (.int .i64 0))⟩,
      ⟨some 31, none, .ld (.int .u8) (.tmp 30)⟩,
      ⟨some 32, none, .cv .i32 (.tmp 31)⟩,
      ⟨some 33, none, .mv (.tmp 7)⟩,
      ⟨some 34, none, .bin .andNot (.tmp 32) (.tmp 33)⟩,
      ⟨some 35, none, .mv (.tmp 7)⟩,
      ⟨some 36, none, .bin .and (.const (.int .i32 65533)) (.tmp 35)⟩,
      ⟨some 37, none, .bin .or (.tmp 34) (.tmp 36)⟩,
      ⟨some 2, none, .mv (.tmp 37)⟩,
      ⟨some 3, none, .mv (.const (.int .i64 1))⟩])
    .ret))
    .skip))
  (.seq (.ops [⟨some 38, none, .mv (.tmp 6)⟩,
    ⟨some 39, none, .bin .and (.tmp 38) (.const (.int .u8 7))⟩,
    ⟨some 40, none, .cv .i64 (.tmp 39)⟩,
    ⟨some 8, none, .mv (.tmp 40)⟩])
  (.seq (.ops [⟨some 41, none, .mv (.tmp 6)⟩,
    ⟨some 42, none, .bin .shr (.tmp 41) (.const (.int .u64 4))⟩,
    ⟨some 43, none, .iaA 16 2 (.global 2) (.tmp 42)⟩,
    ⟨some 44, none, .ld (.agg 2) (.tmp 43)⟩,
    ⟨some 9, none, .alloc 174 (.agg #[(.int .u8 0), (.int .u8 0)])⟩,
    ⟨none, none, .st 2 (.tmp 9) (.tmp 44)⟩])
  (.seq (.seq (.ops [⟨some 45, none, .mv (.tmp 4)⟩,
    ⟨some 46, none, .mv (.tmp 8)⟩,
    ⟨some 47, none, .bin .lss (.tmp 45) (.tmp 46)⟩])
  (.cond (.tmp 47)
    (.seq (.ops [⟨some 2, none, .mv (.const (.int .i32 65533))⟩,
      ⟨some 3, none, .mv (.const (.int .i64 1))⟩])
    .ret)
    .skip))
  (.seq (.ops [⟨some 48, none, .mv (.tmp 0)⟩,
    ⟨some 49, none, .ia 1 (.tmp 48) (.const (.int .i64 1))⟩,
    ⟨some 50, none, .ld (.int .u8) (.tmp 49)⟩,
    ⟨some 10, none, .mv (.tmp 50)⟩])
  (.seq (.seq (.ops [⟨some 51, none, .mv (.tmp 10)⟩,
    ⟨some 52, none, .fa 0 (.tmp 9)⟩,
    ⟨some 53, none, .ld (.int .u8) (.tmp 52)⟩,
    ⟨some 54, none, .bin .lss (.tmp 51) (.tmp 53)⟩,
    ⟨some 55, none, .mv (.tmp 54)⟩,
    ⟨some 56, some (55, false), .fa 1 (.tmp 9)⟩,
    ⟨some 57, some (55, false), .ld (.int .u8) (.tmp 56)⟩,
    ⟨some 58, some (55, false), .mv (.tmp 10)⟩,
    ⟨some 59, some (55, false), .bin .lss (.tmp 57) (.tmp 58)⟩,
    ⟨some 60, none, .pick (.tmp 55) (.const (.bool true)) (.tmp 59)⟩])
  (.cond (.tmp 60)
    (.seq (.ops [⟨some 2, none, .mv (.const (.int .i32 65533))⟩,
      ⟨some 3, none, .mv (.const (.int .i64 1))⟩])
    .ret)
    .skip))
  (.seq (.seq (.ops [⟨some 61, none, .mv (.tmp 8)⟩,
    ⟨some 62, none, .bin .leq (.tmp 61) (.const (.int .i64 2))⟩])
  (.cond (.tmp 62)
    (.seq (.ops [⟨some 63, none, .mv (.tmp 5)⟩,
      ⟨some 64, none, .bin .and (.tmp 63) (.const (.int .u8 31))⟩,
      ⟨some 65, none, .cv .i32 (.tmp 64)⟩,
      ⟨some 66, none, .bin .shl (.tmp 65) (.const (.int .u64 6))⟩,
      ⟨some 67, none, .mv (.tmp 10)⟩,
      ⟨some 68, none, .bin .and (.tmp 67) (.const (.int .u8 63))⟩,
      ⟨some 69, none, .cv .i32 (.tmp 68)⟩,
      ⟨some 70, none, .bin .or (.tmp 66) (.tmp 69)⟩,
      ⟨some 2, none, .mv (.tmp 70)⟩,
      ⟨some 3, none, .mv (.const (.int .i64 2))⟩])
    .ret)
    .skip))
  (.seq (.ops [⟨some 71, none, .mv (.tmp 0)⟩,
    ⟨some 72, none, .ia 1 (.tmp 71) (.const (.int .i64 2))⟩,
    ⟨some 73, none, .ld (.int .u8) (.tmp 72)⟩,
    ⟨some 11, none, .mv (.tmp 73)⟩])
  (.seq (.seq (.ops [⟨some 74, none, .mv (.tmp 11)⟩,
    ⟨some 75, none, .bin .lss (.tmp 74) (.const (.int .u8 128))⟩,
    ⟨some 76, none, .mv (.tmp 75)⟩,
    ⟨some 77, some (76, false), .mv (.tmp 11)⟩,
    ⟨some 78, some (76, false), .bin .lss (.const (.int .u8 191)) (.tmp 77)⟩,
    ⟨some 79, none, .pick (.tmp 76) (.const (.bool true)) (.tmp 78)⟩])
  (.cond (.tmp 79)
    (.seq (.ops [⟨some 2, none, .mv (.const (.int .i32 65533))⟩,
      ⟨some 3, none, .mv (.const (.int .i64 1))⟩])
    .ret)
    .skip))
  (.seq (.seq (.ops [⟨some 80, none, .mv (.tmp 8)⟩,
    ⟨some 81, none, .bin .leq (.tmp 80) (.const (.int .i64 3))⟩])
  (.cond (.tmp 81)
    (.seq (.ops [⟨some 82, none, .mv (.tmp 5)⟩,
      ⟨some 83, none, .bin .and (.tmp 82) (.const (.int .u8 15))⟩,
      ⟨some 84, none, .cv .i32 (.tmp 83)⟩,
      ⟨some 85, none, .bin .shl (.tmp 84) (.const (.int .u64 12))⟩,
      ⟨some 86, none, .mv (.tmp 10)⟩,
      ⟨some 87, none, .bin .and (.tmp 86) (.const (.int .u8 63))⟩,
      ⟨some 88, none, .cv .i32 (.tmp 87)⟩,
      ⟨some 89, none, .bin .shl (.tmp 88) (.const (.int .u64 6))⟩,
      ⟨some 90, none, .bin .or (.tmp 85) (.tmp 89)⟩,
      ⟨some 91, none, .mv (.tmp 11)⟩,
      ⟨some 92, none, .bin .and (.tmp 91) (.const (.int .u8 63))⟩,
      ⟨some 93, none, .cv .i32 (.tmp 92)⟩,
      ⟨some 94, none, .bin .or (.tmp 90) (.tmp 93)⟩,
      ⟨some 2, none, .mv (.tmp 94)⟩,
      ⟨some 3, none, .mv (.const (.int .i64 3))⟩])
    .ret)
    .skip))
  (.seq (.ops [⟨some 95, none, .mv (.tmp 0)⟩,
    ⟨some 96, none, .ia 1 (.tmp 95) (.const (.int .i64 3))⟩,
    ⟨some 97, none, .ld (.int .u8) (.tmp 96)⟩,
    ⟨some 12, none, .mv (.tmp 97)⟩])
  (.seq (.seq (.ops [⟨some 98, none, .mv (.tmp 12)⟩,
    ⟨some 99, none, .bin .lss (.tmp 98) (.const (.int .u8 128))⟩,
    ⟨some 100, none, .mv (.tmp 99)⟩,
    ⟨some 101, some (100, false), .mv (.tmp 12)⟩,
    ⟨some 102, some (100, false), .bin .lss (.const (.int .u8 191)) (.tmp 101)⟩,
    ⟨some 103, none, .pick (.tmp 100) (.const (.bool true)) (.tmp 102)⟩])
  (.cond (.tmp 103)
    (.seq (.ops [⟨some 2, none, .mv (.const (.int .i32 65533))⟩,
      ⟨some 3, none, .mv (.const (.int .i64 1))⟩])
    .ret)
    .skip))
  (.seq (.ops [⟨some 104, none, .mv (.tmp 5)⟩,
    ⟨some 105, none, .bin .and (.tmp 104) (.const (.int .u8 7))⟩,
    ⟨some 106, none, .cv .i32 (.tmp 105)⟩,
    ⟨some 107, none, .bin .shl (.tmp 106) (.const (.int .u64 18))⟩,
    ⟨some 108, none, .mv (.tmp 10)⟩,
    ⟨some 109, none, .bin .and (.tmp 108) (.const (.int .u8 63))⟩,
    ⟨some 110, none, .cv .i32 (.tmp 109)⟩,
    ⟨some 111, none, .bin .shl (.tmp 110) (.const (.int .u64 12))⟩,
    ⟨some 112, none, .bin .or (.tmp 107) (.tmp 111)⟩,
    ⟨some 113, none, .mv (.tmp 11)⟩,
    ⟨some 114, none, .bin .and (.tmp 113) (.const (.int .u8 63))⟩,
    ⟨some 115, none, .cv .i32 (.tmp 114)⟩,
    ⟨some 116, none, .bin .shl (.tmp 115) (.const (.int .u64 6))⟩,
    ⟨some 117, none, .bin .or (.tmp 112) (.tmp 116)⟩,
    ⟨some 118, none, .mv (.tmp 12)⟩,
    ⟨some 119, none, .bin .and (.tmp 118) (.const (.int .u8 63))⟩,
    ⟨some 120, none, .cv .i32 (.tmp 119)⟩,
    ⟨some 121, none, .bin .or (.tmp 117) (.tmp 120)⟩,
    ⟨some 2, none, .mv (.tmp 121)⟩,
    ⟨some 3, none, .mv (.const (.int .i64 4))⟩])
  .ret))))))))))))))))))⟩
theorem h94 : strF Tryd.prog [] Tryd.f94 = some c94 := by kernel_rfl

/-- (*chirograph/ber.scan).element -/
def c95 : Fun := ⟨151, [.inl 6, .inl 7],
  (.seq (.ops [⟨some 6, none, .mv (.const (.int .i64 0))⟩,
    ⟨some 7, none, .mv (.const .nilIface)⟩])
  (.seq (.block 0
    (.seq (.ops [⟨some 16, none, .mv (.tmp 0)⟩,
      ⟨some 17, none, .nilc (.tmp 16)⟩,
      ⟨some 18, none, .fa 2 (.tmp 17)⟩,
      ⟨some 19, none, .ld .slice (.tmp 18)⟩,
      ⟨some 20, none, .len (.tmp 19)⟩,
      ⟨some 21, none, .bin .eql (.tmp 20) (.const (.int .i64 65536))⟩,
      ⟨some 15, none, .mv (.tmp 21)⟩])
    (.cond (.tmp 15)
      (.seq (.ops [⟨some 22, none, .mv (.tmp 1)⟩,
        ⟨some 23, none, .bld #[(.int .i64 0), (.int .i64 0)] [(0, 1), (1, 1)] [(0, (.const (.int .i64 4))), (1, (.tmp 22))]⟩,
        ⟨some 24, none, .box 151 (.tmp 23)⟩,
        ⟨some 25, none, .mki 149 (.tmp 24)⟩,
        ⟨some 6, none, .mv (.const (.int .i64 0))⟩,
        ⟨some 7, none, .mv (.tmp 25)⟩])
      .ret)
      (.seq (.ops [⟨some 27, none, .mv (.tmp 0)⟩,
        ⟨some 28, none, .nilc (.tmp 27)⟩,
        ⟨some 29, none, .fa 1 (.tmp 28)⟩,
        ⟨some 30, none, .ld .slice (.tmp 29)⟩,
        ⟨some 31, none, .len (.tmp 30)⟩,
        ⟨some 32, none, .bin .eql (.tmp 31) (.const (.int .i64 64))⟩,
        ⟨some 26, none, .mv (.tmp 32)⟩])
      (.cond (.tmp 26)
        (.seq (.ops [⟨some 33, none, .mv (.tmp 1)⟩,
          ⟨some 34, none, .bld #[(.int .i64 0), (.int .i64 0)] [(0, 1), (1, 1)] [(0, (.const (.int .i64 32))), (1, (.tmp 33))]⟩,
          ⟨some 35, none, .box 151 (.tmp 34)⟩,
          ⟨some 36, none, .mki 149 (.tmp 35)⟩,
          ⟨some 6, none, .mv (.const (.int .i64 0))⟩,
          ⟨some 7, none, .mv (.tmp 36)⟩])
        .ret)
        (.seq (.ops [⟨some 38, none, .mv (.tmp 1)⟩,
          ⟨some 39, none, .mv (.tmp 2)⟩,
          ⟨some 40, none, .bin .geq (.tmp 38) (.tmp 39)⟩,
          ⟨some 37, none, .mv (.tmp 40)⟩])
        (.cond (.tmp 37)
          (.seq (.ops [⟨some 41, none, .mv (.tmp 2)⟩,
            ⟨some 42, none, .bld #[(.int .i64 0), (.int .i64 0)] [(0, 1), (1, 1)] [(0, (.const (.int .i64 2))), (1, (.tmp 41))]⟩,
            ⟨some 43, none, .box 151 (.tmp 42)⟩,
            ⟨some 44, none, .mki 149 (.tmp 43)⟩,
            ⟨some 6, none, .mv (.const (.int .i64 0))⟩,
            ⟨some 7, none, .mv (.tmp 44)⟩])
          .ret)
          .skip)))))))
  (.seq (.drawT (.st 0 0 (.st 0 1 (.st 0 2 (.st 0 5 (.st 0 6 (.st 0 7 (.st 0 9 (.st 0 14 (.st 0 15 (.st 0 16 (.st 0 18 (.st 3 3 (.st 0 4 (.st 3 8 (.st 0 10 (.st 3 11 (.st 0 12 (.st 0 13 (.st 3 17 (.st 0 19 (.st 3 20 (.st 0 21 (.st 0 22 (.st 0 23 (.cov (.one 24 (.cov (.one 25 .nil))))))))))))))))))))))))))))
    [⟨some 45, none, .mv (.tmp 0)⟩,
      ⟨some 46, none, .nilc (.tmp 45)⟩,
      ⟨some 47, none, .fa 1 (.tmp 46)⟩,
      ⟨some 48, none, .ld .slice (.tmp 47)⟩,
      ⟨some 49, none, .len (.tmp 48)⟩,
      ⟨some 50, none, .mv (.tmp 0)⟩,
      ⟨some 51, none, .nilc (.tmp 50)⟩,
      ⟨some 52, none, .fa 0 (.tmp 51)⟩,
      ⟨some 53, none, .ld .slice (.tmp 52)⟩,
      ⟨some 54, none, .mv (.tmp 1)⟩,
      ⟨some 55, none, .ia 1 (.tmp 53) (.tmp 54)⟩,
      ⟨some 56, none, .ld (.int .u8) (.tmp 55)⟩,
      ⟨some 57, none, .bin .shr (.tmp 56) (.const (.int .u64 6))⟩,
      ⟨some 58, none, .cv .i64 (.tmp 57)⟩,
      ⟨some 59, none, .mv (.tmp 0)⟩,
      ⟨some 60, none, .nilc (.tmp 59)⟩,
      ⟨some 61, none, .fa 0 (.tmp 60)⟩,
      ⟨some 62, none, .ld .slice (.tmp 61)⟩,
      ⟨some 63, none, .mv (.tmp 1)⟩,
      ⟨some 64, none, .ia 1 (.tmp 62) (.tmp 63)⟩,
      ⟨some 65, none, .ld (.int .u8) (.tmp 64)⟩,
      ⟨some 66, none, .bin .and (.tmp 65) (.const (.int .u8 32))⟩,
      ⟨some 67, none, .bin .neq (.tmp 66) (.const (.int .u8 0))⟩,
      ⟨some 68, none, .bld #[(.int .i64 0), (.int .i64 0), (.int .i64 0), (.bool false), (.slice none 0 0)] [(0, 1), (1, 1), (2, 1), (3, 1), (4, 1)] [(0, (.tmp 49)), (1, (.tmp 58)), (3, (.tmp 67))]⟩,
      ⟨some 8, none, .alloc 101 (.agg #[(.int .i64 0), (.int .i64 0), (.int .i64 0), (.bool false), (.slice none 0 0)])⟩,
      ⟨none, none, .st 5 (.tmp 8) (.tmp 68)⟩])
  (.seq (.ops [⟨some 70, none, .mv (.tmp 0)⟩,
    ⟨some 71, none, .mv (.tmp 1)⟩,
    ⟨some 72, none, .mv (.tmp 2)⟩,
    ⟨some 73, none, .call 110 [(.tmp 70), (.tmp 71), (.tmp 72)]⟩,
    ⟨some 69, none, .mv (.tmp 73)⟩,
    ⟨some 74, none, .ext (.tmp 69) 0⟩,
    ⟨some 75, none, .ext (.tmp 69) 1⟩,
    ⟨some 76, none, .ext (.tmp 69) 2⟩,
    ⟨some 9, none, .mv (.tmp 74)⟩,
    ⟨some 10, none, .mv (.tmp 75)⟩,
    ⟨some 11, none, .mv (.tmp 76)⟩])
  (.seq (.seq (.ops [⟨some 77, none, .mv (.tmp 11)⟩,
    ⟨some 78, none, .eq .other true (.tmp 77) (.const .nilIface)⟩])
  (.cond (.tmp 78)
    (.seq (.ops [⟨some 79, none, .mv (.tmp 11)⟩,
      ⟨some 6, none, .mv (.const (.int .i64 0))⟩,
      ⟨some 7, none, .mv (.tmp 79)⟩])
    .ret)
    .skip))
  (.seq (.seq (.ops [⟨some 80, none, .fa 1 (.tmp 8)⟩,
    ⟨some 81, none, .ld (.int .i64) (.tmp 80)⟩,
    ⟨some 82, none, .bin .eql (.tmp 81) (.const (.int .i64 0))⟩,
    ⟨some 83, none, .mv (.tmp 82)⟩,
    ⟨some 84, some (83, true), .mv (.tmp 9)⟩,
    ⟨some 85, some (83, true), .bin .eql (.tmp 84) (.const (.int .i64 0))⟩,
    ⟨some 86, none, .pick (.tmp 83) (.tmp 85) (.const (.bool false))⟩])
  (.cond (.tmp 86)
    (.seq (.ops [⟨some 87, none, .mv (.tmp 1)⟩,
      ⟨some 88, none, .bld #[(.int .i64 0), (.int .i64 0)] [(0, 1), (1, 1)] [(0, (.const (.int .i64 30))), (1, (.tmp 87))]⟩,
      ⟨some 89, none, .box 151 (.tmp 88)⟩,
      ⟨some 90, none, .mki 149 (.tmp 89)⟩,
      ⟨some 6, none, .mv (.const (.int .i64 0))⟩,
      ⟨some 7, none, .mv (.tmp 90)⟩])
    .ret)
    .skip))
  (.seq (.ops [⟨some 91, none, .mv (.tmp 9)⟩,
    ⟨some 92, none, .fa 2 (.tmp 8)⟩,
    ⟨none, none, .st 1 (.tmp 92) (.tmp 91)⟩])
  (.seq (.ops [⟨some 94, none, .mv (.tmp 0)⟩,
    ⟨some 95, none, .mv (.tmp 10)⟩,
    ⟨some 96, none, .mv (.tmp 2)⟩,
    ⟨some 97, none, .fa 3 (.tmp 8)⟩,
    ⟨some 98, none, .ld .bool (.tmp 97)⟩,
    ⟨some 99, none, .call 111 [(.tmp 94), (.tmp 95), (.tmp 96), (.tmp 98)]⟩,
    ⟨some 93, none, .mv (.tmp 99)⟩,
    ⟨some 100, none, .ext (.tmp 93) 0⟩,
    ⟨some 101, none, .ext (.tmp 93) 1⟩,
    ⟨some 102, none, .ext (.tmp 93) 2⟩,
    ⟨some 103, none, .ext (.tmp 93) 3⟩,
    ⟨some 12, none, .mv (.tmp 100)⟩,
    ⟨some 10, none, .mv (.tmp 101)⟩,
    ⟨some 13, none, .mv (.tmp 102)⟩,
    ⟨some 11, none, .mv (.tmp 103)⟩])
  (.seq (.seq (.ops [⟨some 104, none, .mv (.tmp 11)⟩,
    ⟨some 105, none, .eq .other true (.tmp 104) (.const .nilIface)⟩])
  (.cond (.tmp 105)
    (.seq (.ops [⟨some 106, none, .mv (.tmp 11)⟩,
      ⟨some 6, none, .mv (.const (.int .i64 0))⟩,
      ⟨some 7, none, .mv (.tmp 106)⟩])
    .ret)
    .skip))
  (.join (.seq (.ops [⟨some 107, none, .fa 3 (.tmp 8)⟩,
    ⟨some 108, none, .ld .bool (.tmp 107)⟩])
  (.cond (.tmp 108)
    (.seq (.ops [⟨some 109, none, .mv (.tmp 10)⟩,
      ⟨some 110, none, .mv (.tmp 12)⟩,
      ⟨some 111, none, .bin .add (.tmp 109) (.tmp 110)⟩,
      ⟨some 112, none, .mv (.tmp 13)⟩,
      ⟨some 113, none, .bld #[(.int .i64 0), (.bool false)] [(0, 1), (1, 1)] [(0, (.tmp 111)), (1, (.tmp 112))]⟩,
      ⟨some 14, none, .alloc 147 (.agg #[(.int .i64 0), (.bool false)])⟩,
      ⟨none, none, .st 2 (.tmp 14) (.tmp 113)⟩])
    (.join (.seq (.ops [⟨some 114, none, .mv (.tmp 13)⟩])
    (.cond (.tmp 114)
      (.ops [⟨some 115, none, .mv (.tmp 2)⟩,
        ⟨some 116, none, .fa 0 (.tmp 14)⟩,
        ⟨none, none, .st 1 (.tmp 116) (.tmp 115)⟩])
      .skip))
    (.seq (.drawT (.st 0 0 (.st 0 1 (.st 0 2 (.st 0 3 (.st 1 5 (.st 3 4 (.cov (.one 6 (.cov (.one 7 (.st 0 8 (.st 0 9 (.cov (.one 10 .nil))))))))))))))
      [⟨some 117, none, .mv (.tmp 0)⟩,
        ⟨some 118, none, .mv (.tmp 0)⟩,
        ⟨some 119, none, .nilc (.tmp 118)⟩,
        ⟨some 120, none, .fa 1 (.tmp 119)⟩,
        ⟨some 121, none, .ld .slice (.tmp 120)⟩,
        ⟨some 122, none, .ld (.agg 2) (.tmp 14)⟩,
        ⟨some 123, none, .bsl 147 2 1 #[(.int .i64 0), (.bool false)] [(0, (.tmp 122))]⟩,
        ⟨some 124, none, .app 147 2 16 #[(.int .i64 0), (.bool false)] (.tmp 121) (.tmp 123)⟩,
        ⟨some 125, none, .nilc (.tmp 117)⟩,
        ⟨some 126, none, .fa 1 (.tmp 125)⟩,
        ⟨none, none, .st 1 (.tmp 126) (.tmp 124)⟩])
    (.ops [⟨some 12, none, .mv (.const (.int .i64 0))⟩]))))
    (.ops [⟨some 127, none, .mv (.tmp 0)⟩,
      ⟨some 128, none, .nilc (.tmp 127)⟩,
      ⟨some 129, none, .fa 0 (.tmp 128)⟩,
      ⟨some 130, none, .ld .slice (.tmp 129)⟩,
      ⟨some 131, none, .mv (.tmp 10)⟩,
      ⟨some 132, none, .mv (.tmp 10)⟩,
      ⟨some 133, none, .mv (.tmp 12)⟩,
      ⟨some 134, none, .bin .add (.tmp 132) (.tmp 133)⟩,
      ⟨some 135, none, .slc 1 (.tmp 130) (some (.tmp 131)) (some (.tmp 134)) none⟩,
      ⟨some 136, none, .call 46 [(.tmp 135)]⟩,
      ⟨some 137, none, .fa 4 (.tmp 8)⟩,
      ⟨none, none, .st 1 (.tmp 137) (.tmp 136)⟩])))
  (.seq (.drawT (.st 0 0 (.st 0 1 (.st 0 2 (.st 0 3 (.st 1 5 (.st 3 4 (.cov (.one 6 (.cov (.one 7 (.st 0 8 (.st 0 9 (.cov (.one 10 .nil))))))))))))))
    [⟨some 138, none, .mv (.tmp 0)⟩,
      ⟨some 139, none, .mv (.tmp 0)⟩,
      ⟨some 140, none, .nilc (.tmp 139)⟩,
      ⟨some 141, none, .fa 2 (.tmp 140)⟩,
      ⟨some 142, none, .ld .slice (.tmp 141)⟩,
      ⟨some 143, none, .ld (.agg 5) (.tmp 8)⟩,
      ⟨some 144, none, .bsl 101 5 1 #[(.int .i64 0), (.int .i64 0), (.int .i64 0), (.bool false), (.slice none 0 0)] [(0, (.tmp 143))]⟩,
      ⟨some 145, none, .app 101 5 56 #[(.int .i64 0), (.int .i64 0), (.int .i64 0), (.bool false), (.slice none 0 0)] (.tmp 142) (.tmp 144)⟩,
      ⟨some 146, none, .nilc (.tmp 138)⟩,
      ⟨some 147, none, .fa 2 (.tmp 146)⟩,
      ⟨none, none, .st 1 (.tmp 147) (.tmp 145)⟩])
  (.seq (.ops [⟨some 148, none, .mv (.tmp 10)⟩,
    ⟨some 149, none, .mv (.tmp 12)⟩,
    ⟨some 150, none, .bin .add (.tmp 148) (.tmp 149)⟩,
    ⟨some 6, none, .mv (.tmp 150)⟩,
    ⟨some 7, none, .mv (.const .nilIface)⟩])
  .ret))))))))))))⟩
theorem h95 : strF Tryd.prog [(7, .inr (.st 0 0 (.st 0 1 (.st 0 2 (.st 0 5 (.st 0 6 (.st 0 7 (.st 0 9 (.st 0 14 (.st 0 15 (.st 0 16 (.st 0 18 (.st 3 3 (.st 0 4 (.st 3 8 (.st 0 10 (.st 3 11 (.st 0 12 (.st 0 13 (.st 3 17 (.st 0 19 (.st 3 20 (.st 0 21 (.st 0 22 (.st 0 23 (.cov (.one 24 (.cov (.one 25 .nil))))))))))))))))))))))))))))), (21, .inr (.st 0 0 (.st 0 1 (.st 0 2 (.st 0 3 (.st 1 5 (.st 3 4 (.cov (.one 6 (.cov (.one 7 (.st 0 8 (.st 0 9 (.cov (.one 10 .nil))))))))))))))), (24, .inr (.st 0 0 (.st 0 1 (.st 0 2 (.st 0 3 (.st 1 5 (.st 3 4 (.cov (.one 6 (.cov (.one 7 (.st 0 8 (.st 0 9 (.cov (.one 10 .nil)))))))))))))))] Tryd.f95 = some c95 := by kernel_rfl

/-- errors.As -/
def c96 : Fun := ⟨42, [.inl 4],
  (.seq (.ops [⟨some 4, none, .mv (.const (.bool false))⟩])
  (.seq (.seq (.ops [⟨some 8, none, .mv (.tmp 0)⟩,
    ⟨some 9, none, .eq .other false (.tmp 8) (.const .nilIface)⟩])
  (.cond (.tmp 9)
    (.seq (.ops [⟨some 4, none, .mv (.const (.bool false))⟩])
    .ret)
    .skip))
  (.join (.seq (.ops [⟨some 10, none, .mv (.tmp 1)⟩,
    ⟨some 11, none, .eq .other false (.tmp 10) (.const .nilIface)⟩])
  (.cond (.tmp 11)
    (.ops [⟨some 12, none, .mki 9 (.const (.string ⟨#[101, 114, 114, 111, 114, 115, 58, 32, 116, 97, 114, 103, 101, 116, 32, 99, 97, 110, 110, 111, 116, 32, 98, 101, 32, 110, 105, 108]⟩))⟩,
      ⟨none, none, .no⟩])
    .skip))
  (.seq (.ops [⟨some 13, none, .mv (.tmp 1)⟩,
    ⟨some 14, none, .no⟩,
    ⟨some 5, none, .alloc 183 (.agg #[(.pointer none), (.pointer none), (.int .u64 0)])⟩,
    ⟨none, none, .st 3 (.tmp 5) (.tmp 14)⟩])
  (.seq (.ops [⟨some 15, none, .ld (.agg 3) (.tmp 5)⟩,
    ⟨some 16, none, .no⟩,
    ⟨some 6, none, .mv (.tmp 16)⟩])
  (.join (.seq (.ops [⟨some 17, none, .mv (.tmp 6)⟩,
    ⟨some 18, none, .no⟩,
    ⟨some 19, none, .bin .neq (.tmp 18) (.const (.int .u8 22))⟩,
    ⟨some 20, none, .mv (.tmp 19)⟩,
    ⟨some 21, some (20, false), .ld (.agg 3) (.tmp 5)⟩,
    ⟨some 22, some (20, false), .no⟩,
    ⟨some 23, none, .pick (.tmp 20) (.const (.bool true)) (.tmp 22)⟩])
  (.cond (.tmp 23)
    (.ops [⟨some 24, none, .mki 9 (.const (.string ⟨#[101, 114, 114, 111, 114, 115, 58, 32, 116, 97, 114, 103, 101, 116, 32, 109, 117, 115, 116, 32, 98, 101, 32, 97, 32, 110, 111, 110, 45, 110, 105, 108, 32, 112, 111, 105, 110, 116, 101, 114]⟩))⟩,
      ⟨none, none, .no⟩])
    .skip))
  (.seq (.ops [⟨some 25, none, .mv (.tmp 6)⟩,
    ⟨some 26, none, .no⟩,
    ⟨some 7, none, .mv (.tmp 26)⟩])
  (.join (.seq (.ops [⟨some 27, none, .mv (.tmp 7)⟩,
    ⟨some 28, none, .no⟩,
    ⟨some 29, none, .bin .neq (.tmp 28) (.const (.int .u8 20))⟩,
    ⟨some 30, none, .mv (.tmp 29)⟩,
    ⟨some 31, some (30, true), .mv (.tmp 7)⟩,
    ⟨some 32, some (30, true), .ld .other (.global 3)⟩,
    ⟨some 33, some (30, true), .no⟩,
    ⟨some 34, some (30, true), .un .not (.tmp 33)⟩,
    ⟨some 35, none, .pick (.tmp 30) (.tmp 34) (.const (.bool false))⟩])
  (.cond (.tmp 35)
    (.ops [⟨some 36, none, .mki 9 (.const (.string ⟨#[101, 114, 114, 111, 114, 115, 58, 32, 42, 116, 97, 114, 103, 101, 116, 32, 109, 117, 115, 116, 32, 98, 101, 32, 105, 110, 116, 101, 114, 102, 97, 99, 101, 32, 111, 114, 32, 105, 109, 112, 108, 101, 109, 101, 110, 116, 32, 101, 114, 114, 111, 114]⟩))⟩,
      ⟨none, none, .no⟩])
    .skip))
  (.seq (.ops [⟨some 37, none, .mv (.tmp 0)⟩,
    ⟨some 38, none, .mv (.tmp 1)⟩,
    ⟨some 39, none, .ld (.agg 3) (.tmp 5)⟩,
    ⟨some 40, none, .mv (.tmp 7)⟩,
    ⟨some 41, none, .call 115 [(.tmp 37), (.tmp 38), (.tmp 39), (.tmp 40)]⟩,
    ⟨some 4, none, .mv (.tmp 41)⟩])
  .ret)))))))))⟩
theorem h96 : strF Tryd.prog [] Tryd.f96 = some c96 := by kernel_rfl

/-- chirograph/ber.string1 -/
def c97 : Fun := ⟨12, [.inl 2],
  (.seq (.ops [⟨some 1, none, .box 101 (.tmp 0)⟩,
    ⟨some 2, none, .mv (.const (.bool false))⟩])
  (.seq (.ops [⟨some 3, none, .fa 1 (.tmp 1)⟩,
    ⟨some 4, none, .ld (.int .i64) (.tmp 3)⟩,
    ⟨some 5, none, .bin .eql (.tmp 4) (.const (.int .i64 0))⟩,
    ⟨some 6, none, .mv (.tmp 5)⟩,
    ⟨some 7, some (6, true), .fa 2 (.tmp 1)⟩,
    ⟨some 8, some (6, true), .ld (.int .i64) (.tmp 7)⟩,
    ⟨some 9, some (6, true), .call 98 [(.tmp 8)]⟩,
    ⟨some 10, some (6, true), .bin .eql (.tmp 9) (.const (.int .i64 3))⟩,
    ⟨some 11, none, .pick (.tmp 6) (.tmp 10) (.const (.bool false))⟩,
    ⟨some 2, none, .mv (.tmp 11)⟩])
  .ret))⟩
theorem h97 : strF Tryd.prog [] Tryd.f97 = some c97 := by kernel_rfl

/-- chirograph/ber.kind -/
def c98 : Fun := ⟨24, [.inl 2],
  (.seq (.ops [⟨some 2, none, .mv (.const (.int .i64 0))⟩])
  (.seq (.seq (.ops [⟨some 3, none, .mv (.tmp 0)⟩])
  (.block 0
    (.join (.seq (.ops [⟨some 5, none, .bin .eql (.tmp 3) (.const (.int .i64 16))⟩,
      ⟨some 4, none, .mv (.tmp 5)⟩])
    (.cond (.tmp 4)
      .skip
      (.ops [⟨some 6, none, .bin .eql (.tmp 3) (.const (.int .i64 17))⟩,
        ⟨some 4, none, .mv (.tmp 6)⟩])))
    (.cond (.tmp 4)
      (.seq (.ops [⟨some 2, none, .mv (.const (.int .i64 1))⟩])
      .ret)
      (.join (.seq (.ops [⟨some 8, none, .bin .eql (.tmp 3) (.const (.int .i64 1))⟩,
        ⟨some 7, none, .mv (.tmp 8)⟩])
      (.cond (.tmp 7)
        .skip
        (.seq (.ops [⟨some 9, none, .bin .eql (.tmp 3) (.const (.int .i64 2))⟩,
          ⟨some 7, none, .mv (.tmp 9)⟩])
        (.cond (.tmp 7)
          .skip
          (.seq (.ops [⟨some 10, none, .bin .eql (.tmp 3) (.const (.int .i64 5))⟩,
            ⟨some 7, none, .mv (.tmp 10)⟩])
          (.cond (.tmp 7)
            .skip
            (.seq (.ops [⟨some 11, none, .bin .eql (.tmp 3) (.const (.int .i64 6))⟩,
              ⟨some 7, none, .mv (.tmp 11)⟩])
            (.cond (.tmp 7)
              .skip
              (.ops [⟨some 12, none, .bin .eql (.tmp 3) (.const (.int .i64 10))⟩,
                ⟨some 7, none, .mv (.tmp 12)⟩])))))))))
      (.cond (.tmp 7)
        (.seq (.ops [⟨some 2, none, .mv (.const (.int .i64 2))⟩])
        .ret)
        (.join (.seq (.ops [⟨some 14, none, .bin .eql (.tmp 3) (.const (.int .i64 3))⟩,
          ⟨some 13, none, .mv (.tmp 14)⟩])
        (.cond (.tmp 13)
          .skip
          (.seq (.ops [⟨some 15, none, .bin .eql (.tmp 3) (.const (.int .i64 4))⟩,
            ⟨some 13, none, .mv (.tmp 15)⟩])
          (.cond (.tmp 13)
            .skip
            (.seq (.ops [⟨some 16, none, .bin .eql (.tmp 3) (.const (.int .i64 12))⟩,
              ⟨some 13, none, .mv (.tmp 16)⟩])
            (.cond (.tmp 13)
              .skip
              (.seq (.ops [⟨some 17, none, .bin .eql (.tmp 3) (.const (.int .i64 18))⟩,
                ⟨some 13, none, .mv (.tmp 17)⟩])
              (.cond (.tmp 13)
                .skip
                (.seq (.ops [⟨some 18, none, .bin .eql (.tmp 3) (.const (.int .i64 19))⟩,
                  ⟨some 13, none, .mv (.tmp 18)⟩])
                (.cond (.tmp 13)
                  .skip
                  (.seq (.ops [⟨some 19, none, .bin .eql (.tmp 3) (.const (.int .i64 22))⟩,
                    ⟨some 13, none, .mv (.tmp 19)⟩])
                  (.cond (.tmp 13)
                    .skip
                    (.seq (.ops [⟨some 20, none, .bin .eql (.tmp 3) (.const (.int .i64 23))⟩,
                      ⟨some 13, none, .mv (.tmp 20)⟩])
                    (.cond (.tmp 13)
                      .skip
                      (.seq (.ops [⟨some 21, none, .bin .eql (.tmp 3) (.const (.int .i64 24))⟩,
                        ⟨some 13, none, .mv (.tmp 21)⟩])
                      (.cond (.tmp 13)
                        .skip
                        (.seq (.ops [⟨some 22, none, .bin .eql (.tmp 3) (.const (.int .i64 26))⟩,
                          ⟨some 13, none, .mv (.tmp 22)⟩])
                        (.cond (.tmp 13)
                          .skip
                          (.ops [⟨some 23, none, .bin .eql (.tmp 3) (.const (.int .i64 30))⟩,
                            ⟨some 13, none, .mv (.tmp 23)⟩])))))))))))))))))))
        (.cond (.tmp 13)
          (.seq (.ops [⟨some 2, none, .mv (.const (.int .i64 3))⟩])
          .ret)
          .skip))))))))
  (.seq (.ops [⟨some 2, none, .mv (.const (.int .i64 0))⟩])
  .ret)))⟩
theorem h98 : strF Tryd.prog [] Tryd.f98 = some c98 := by kernel_rfl

/-- chirograph/ber.end -/
def c99 : Fun := ⟨28, [.inl 4],
  (.seq (.ops [⟨some 4, none, .mv (.const (.int .i64 0))⟩])
  (.seq (.ops [⟨some 6, none, .mv (.tmp 1)⟩,
    ⟨some 7, none, .bin .add (.tmp 6) (.const (.int .i64 1))⟩,
    ⟨some 5, none, .mv (.tmp 7)⟩])
  (.seq (.block 0
    (.loop
      (.seq (.seq (.draw 17 [⟨some 8, none, .mv (.tmp 5)⟩,
        ⟨some 9, none, .mv (.tmp 0)⟩,
        ⟨some 10, none, .len (.tmp 9)⟩,
        ⟨some 11, none, .bin .lss (.tmp 8) (.tmp 10)⟩,
        ⟨some 12, none, .mv (.tmp 11)⟩,
        ⟨some 13, some (12, true), .mv (.tmp 0)⟩,
        ⟨some 14, some (12, true), .mv (.tmp 5)⟩,
        ⟨some 15, some (12, true), .ia 5 (.tmp 13) (.tmp 14)⟩,
        ⟨some 16, some (12, true), .fa 0 (.tmp 15)⟩,
        ⟨some 17, some (12, true), .ld (.int .i64) (.tmp 16)⟩,
        ⟨some 18, some (12, true), .mv (.tmp 0)⟩,
        ⟨some 19, some (12, true), .mv (.tmp 1)⟩,
        ⟨some 20, some (12, true), .ia 5 (.tmp 18) (.tmp 19)⟩,
        ⟨some 21, some (12, true), .fa 0 (.tmp 20)⟩,
        ⟨some 22, some (12, true), .ld (.int .i64) (.tmp 21)⟩,
        ⟨some 23, some (12, true), .bin .gtr (.tmp 17) (.tmp 22)⟩,
        ⟨some 24, none, .pick (.tmp 12) (.tmp 23) (.const (.bool false))⟩])
      (.cond (.tmp 24)
        .skip
        (.exit 0)))
      (.block 1
        (.ops [⟨some 25, none, .mv (.tmp 5)⟩,
          ⟨some 26, none, .bin .add (.tmp 25) (.const (.int .i64 1))⟩,
          ⟨some 5, none, .mv (.tmp 26)⟩])))))
  (.seq (.ops [⟨some 27, none, .mv (.tmp 5)⟩,
    ⟨some 4, none, .mv (.tmp 27)⟩])
  .ret))))⟩
theorem h99 : strF Tryd.prog [] Tryd.f99 = some c99 := by kernel_rfl

/-- chirograph/ber.well -/
def c100 : Fun := ⟨90, [.inl 4],
  (.seq (.ops [⟨some 4, none, .mv (.const (.bool false))⟩])
  (.seq (.seq (.ops [⟨some 9, none, .mv (.tmp 0)⟩])
  (.block 0
    (.seq (.ops [⟨some 11, none, .bin .eql (.tmp 9) (.const (.int .i64 1))⟩,
      ⟨some 10, none, .mv (.tmp 11)⟩])
    (.cond (.tmp 10)
      (.seq (.ops [⟨some 12, none, .mv (.tmp 1)⟩,
        ⟨some 13, none, .len (.tmp 12)⟩,
        ⟨some 14, none, .bin .eql (.tmp 13) (.const (.int .i64 1))⟩,
        ⟨some 4, none, .mv (.tmp 14)⟩])
      .ret)
      (.seq (.ops [⟨some 16, none, .bin .eql (.tmp 9) (.const (.int .i64 5))⟩,
        ⟨some 15, none, .mv (.tmp 16)⟩])
      (.cond (.tmp 15)
        (.seq (.ops [⟨some 17, none, .mv (.tmp 1)⟩,
          ⟨some 18, none, .len (.tmp 17)⟩,
          ⟨some 19, none, .bin .eql (.tmp 18) (.const (.int .i64 0))⟩,
          ⟨some 4, none, .mv (.tmp 19)⟩])
        .ret)
        (.join (.seq (.ops [⟨some 21, none, .bin .eql (.tmp 9) (.const (.int .i64 2))⟩,
          ⟨some 20, none, .mv (.tmp 21)⟩])
        (.cond (.tmp 20)
          .skip
          (.ops [⟨some 22, none, .bin .eql (.tmp 9) (.const (.int .i64 10))⟩,
            ⟨some 20, none, .mv (.tmp 22)⟩])))
        (.cond (.tmp 20)
          (.seq (.seq (.ops [⟨some 23, none, .mv (.tmp 1)⟩,
            ⟨some 24, none, .len (.tmp 23)⟩,
            ⟨some 25, none, .bin .lss (.tmp 24) (.const (.int .i64 2))⟩])
          (.cond (.tmp 25)
            (.seq (.ops [⟨some 26, none, .mv (.tmp 1)⟩,
              ⟨some 27, none, .len (.tmp 26)⟩,
              ⟨some 28, none, .bin .eql (.tmp 27) (.const (.int .i64 1))⟩,
              ⟨some 4, none, .mv (.tmp 28)⟩])
            .ret)
            .skip))
          (.seq (.draw 12 [⟨some 29, none, .mv (.tmp 1)⟩,
            ⟨some 30, none, .ia 1 (.tmp 29) (.const (.int .i64 0))⟩,
            ⟨some 31, none, .ld (.int .u8) (.tmp 30)⟩,
            ⟨some 32, none, .cv .i64 (.tmp 31)⟩,
            ⟨some 33, none, .bin .shl (.tmp 32) (.const (.int .u64 1))⟩,
            ⟨some 34, none, .mv (.tmp 1)⟩,
            ⟨some 35, none, .ia 1 (.tmp 34) (.const (.int .i64 1))⟩,
            ⟨some 36, none, .ld (.int .u8) (.tmp 35)⟩,
            ⟨some 37, none, .bin .shr (.tmp 36) (.const (.int .u64 7))⟩,
            ⟨some 38, none, .cv .i64 (.tmp 37)⟩,
            ⟨some 39, none, .bin .or (.tmp 33) (.tmp 38)⟩,
            ⟨some 5, none, .mv (.tmp 39)⟩])
          (.seq (.ops [⟨some 40, none, .mv (.tmp 5)⟩,
            ⟨some 41, none, .bin .neq (.tmp 40) (.const (.int .i64 0))⟩,
            ⟨some 42, none, .mv (.tmp 41)⟩,
            ⟨some 43, some (42, true), .mv (.tmp 5)⟩,
            ⟨some 44, some (42, true), .bin .neq (.tmp 43) (.const (.int .i64 511))⟩,
            ⟨some 45, none, .pick (.tmp 42) (.tmp 44) (.const (.bool false))⟩,
            ⟨some 4, none, .mv (.tmp 45)⟩])
          .ret)))
          (.seq (.ops [⟨some 47, none, .bin .eql (.tmp 9) (.const (.int .i64 6))⟩,
            ⟨some 46, none, .mv (.tmp 47)⟩])
          (.cond (.tmp 46)
            (.seq (.ops [⟨some 6, none, .mv (.const (.bool true))⟩])
            (.seq (.seq (.ops [⟨some 48, none, .mv (.tmp 1)⟩,
              ⟨some 49, none, .len (.tmp 48)⟩,
              ⟨some 50, none, .mv (.const (.int .i64 0))⟩])
            (.block 1
              (.loop
                (.seq (.ops [⟨some 51, none, .bin .lss (.tmp 50) (.tmp 49)⟩])
                (.seq (.cond (.tmp 51)
                  .skip
                  (.exit 1))
                (.seq (.block 2
                  (.seq (.ops [⟨some 52, none, .ia 1 (.tmp 48) (.tmp 50)⟩,
                    ⟨some 53, none, .ld (.int .u8) (.tmp 52)⟩,
                    ⟨some 8, none, .mv (.tmp 53)⟩])
                  (.seq (.seq (.ops [⟨some 54, none, .mv (.tmp 6)⟩,
                    ⟨some 55, none, .mv (.tmp 54)⟩,
                    ⟨some 56, some (55, true), .mv (.tmp 8)⟩,
                    ⟨some 57, some (55, true), .bin .eql (.tmp 56) (.const (.int .u8 128))⟩,
                    ⟨some 58, none, .pick (.tmp 55) (.tmp 57) (.const (.bool false))⟩])
                  (.cond (.tmp 58)
                    (.seq (.ops [⟨some 4, none, .mv (.const (.bool false))⟩])
                    .ret)
                    .skip))
                  (.ops [⟨some 59, none, .mv (.tmp 8)⟩,
                    ⟨some 60, none, .bin .lss (.tmp 59) (.const (.int .u8 128))⟩,
                    ⟨some 6, none, .mv (.tmp 60)⟩]))))
                (.ops [⟨some 61, none, .bin .add (.tmp 50) (.const (.int .i64 1))⟩,
                  ⟨some 50, none, .mv (.tmp 61)⟩])))))))
            (.seq (.ops [⟨some 62, none, .mv (.tmp 1)⟩,
              ⟨some 63, none, .len (.tmp 62)⟩,
              ⟨some 64, none, .bin .gtr (.tmp 63) (.const (.int .i64 0))⟩,
              ⟨some 65, none, .mv (.tmp 64)⟩,
              ⟨some 66, some (65, true), .mv (.tmp 6)⟩,
              ⟨some 67, none, .pick (.tmp 65) (.tmp 66) (.const (.bool false))⟩,
              ⟨some 4, none, .mv (.tmp 67)⟩])
            .ret)))
            (.seq (.ops [⟨some 69, none, .bin .eql (.tmp 9) (.const (.int .i64 3))⟩,
              ⟨some 68, none, .mv (.tmp 69)⟩])
            (.cond (.tmp 68)
              (.seq (.ops [⟨some 70, none, .mv (.tmp 1)⟩,
                ⟨some 71, none, .len (.tmp 70)⟩,
                ⟨some 72, none, .bin .gtr (.tmp 71) (.const (.int .i64 1))⟩,
                ⟨some 73, none, .mv (.tmp 72)⟩,
                ⟨some 74, some (73, true), .mv (.tmp 1)⟩,
                ⟨some 75, some (73, true), .ia 1 (.tmp 74) (.const (.int .i64 0))⟩,
                ⟨some 76, some (73, true), .ld (.int .u8) (.tmp 75)⟩,
                ⟨some 77, some (73, true), .bin .lss (.tmp 76) (.const (.int .u8 8))⟩,
                ⟨some 78, none, .pick (.tmp 73) (.tmp 77) (.const (.bool false))⟩,
                ⟨some 79, none, .mv (.tmp 78)⟩,
                ⟨some 80, some (79, false), .mv (.tmp 1)⟩,
                ⟨some 81, some (79, false), .len (.tmp 80)⟩,
                ⟨some 82, some (79, false), .bin .eql (.tmp 81) (.const (.int .i64 1))⟩,
                ⟨some 83, some (79, false), .mv (.tmp 82)⟩,
                ⟨some 84, some (83, true), .mv (.tmp 1)⟩,
                ⟨some 85, some (83, true), .ia 1 (.tmp 84) (.const (.int .i64 0))⟩,
                ⟨some 86, some (83, true), .ld (.int .u8) (.tmp 85)⟩,
                ⟨some 87, some (83, true), .bin .eql (.tmp 86) (.const (.int .u8 0))⟩,
                ⟨some 88, some (79, false), .pick (.tmp 83) (.tmp 87) (.const (.bool false))⟩,
                ⟨some 89, none, .pick (.tmp 79) (.const (.bool true)) (.tmp 88)⟩,
                ⟨some 4, none, .mv (.tmp 89)⟩])
              .ret)
              .skip))))))))))))
  (.seq (.ops [⟨some 4, none, .mv (.const (.bool true))⟩])
  .ret)))⟩
theorem h100 : strF Tryd.prog [] Tryd.f100 = some c100 := by kernel_rfl

/-- chirograph/ber.one -/
def c101 : Fun := ⟨115, [.inr ((.agg 5), 4)],
  (.seq (.ops [⟨some 4, none, .alloc 101 (.agg #[(.int .i64 0), (.int .i64 0), (.int .i64 0), (.bool false), (.slice none 0 0)])⟩])
  (.seq (.ops [⟨some 10, none, .mv (.tmp 0)⟩,
    ⟨some 11, none, .mv (.tmp 1)⟩,
    ⟨some 12, none, .ia 5 (.tmp 10) (.tmp 11)⟩,
    ⟨some 13, none, .ld (.agg 5) (.tmp 12)⟩,
    ⟨some 5, none, .alloc 101 (.agg #[(.int .i64 0), (.int .i64 0), (.int .i64 0), (.bool false), (.slice none 0 0)])⟩,
    ⟨none, none, .st 5 (.tmp 5) (.tmp 13)⟩])
  (.join (.seq (.ops [⟨some 14, none, .fa 3 (.tmp 5)⟩,
    ⟨some 15, none, .ld .bool (.tmp 14)⟩])
  (.cond (.tmp 15)
    (.seq (.ops [⟨some 16, none, .fa 3 (.tmp 5)⟩,
      ⟨none, none, .st 1 (.tmp 16) (.const (.bool false))⟩])
    (.seq (.ops [⟨some 6, none, .mv (.const (.int .u8 0))⟩])
    (.seq (.seq (.ops [⟨some 17, none, .mv (.tmp 1)⟩,
      ⟨some 18, none, .bin .add (.tmp 17) (.const (.int .i64 1))⟩,
      ⟨some 7, none, .mv (.tmp 18)⟩])
    (.block 0
      (.loop
        (.seq (.seq (.ops [⟨some 19, none, .mv (.tmp 7)⟩,
          ⟨some 20, none, .mv (.tmp 0)⟩,
          ⟨some 21, none, .mv (.tmp 1)⟩,
          ⟨some 22, none, .call 99 [(.tmp 20), (.tmp 21)]⟩,
          ⟨some 23, none, .bin .lss (.tmp 19) (.tmp 22)⟩])
        (.cond (.tmp 23)
          .skip
          (.exit 0)))
        (.join (.block 1
          (.seq (.ops [⟨some 26, none, .mv (.tmp 0)⟩,
            ⟨some 27, none, .mv (.tmp 7)⟩,
            ⟨some 28, none, .ia 5 (.tmp 26) (.tmp 27)⟩,
            ⟨some 29, none, .fa 4 (.tmp 28)⟩,
            ⟨some 30, none, .ld .slice (.tmp 29)⟩,
            ⟨some 8, none, .mv (.tmp 30)⟩])
          (.block 2
            (.seq (.ops [⟨some 37, none, .mv (.tmp 0)⟩,
              ⟨some 38, none, .mv (.tmp 7)⟩,
              ⟨some 39, none, .ia 5 (.tmp 37) (.tmp 38)⟩,
              ⟨some 40, none, .fa 3 (.tmp 39)⟩,
              ⟨some 41, none, .ld .bool (.tmp 40)⟩,
              ⟨some 36, none, .mv (.tmp 41)⟩])
            (.cond (.tmp 36)
              .skip
              (.seq (.ops [⟨some 43, none, .fa 2 (.tmp 5)⟩,
                ⟨some 44, none, .ld (.int .i64) (.tmp 43)⟩,
                ⟨some 45, none, .bin .eql (.tmp 44) (.const (.int .i64 3))⟩,
                ⟨some 42, none, .mv (.tmp 45)⟩])
              (.cond (.tmp 42)
                (.seq (.ops [⟨some 46, none, .mv (.tmp 8)⟩,
                  ⟨some 47, none, .ia 1 (.tmp 46) (.const (.int .i64 0))⟩,
                  ⟨some 48, none, .ld (.int .u8) (.tmp 47)⟩,
                  ⟨some 6, none, .mv (.tmp 48)⟩])
                (.draw 4 [⟨some 49, none, .fa 4 (.tmp 5)⟩,
                  ⟨some 50, none, .ld .slice (.tmp 49)⟩,
                  ⟨some 51, none, .mv (.tmp 8)⟩,
                  ⟨some 52, none, .slc 1 (.tmp 51) (some (.const (.int .i64 1))) none none⟩,
                  ⟨some 53, none, .app 5 1 1 #[(.int .u8 0)] (.tmp 50) (.tmp 52)⟩,
                  ⟨some 54, none, .fa 4 (.tmp 5)⟩,
                  ⟨none, none, .st 1 (.tmp 54) (.tmp 53)⟩]))
                (.ops [⟨some 31, none, .fa 4 (.tmp 5)⟩,
                  ⟨some 32, none, .ld .slice (.tmp 31)⟩,
                  ⟨some 33, none, .mv (.tmp 8)⟩,
                  ⟨some 34, none, .app 5 1 1 #[(.int .u8 0)] (.tmp 32) (.tmp 33)⟩,
                  ⟨some 35, none, .fa 4 (.tmp 5)⟩,
                  ⟨none, none, .st 1 (.tmp 35) (.tmp 34)⟩]))))))))
        (.ops [⟨some 24, none, .mv (.tmp 7)⟩,
          ⟨some 25, none, .bin .add (.tmp 24) (.const (.int .i64 1))⟩,
          ⟨some 7, none, .mv (.tmp 25)⟩]))))))
    (.seq (.ops [⟨some 55, none, .fa 2 (.tmp 5)⟩,
      ⟨some 56, none, .ld (.int .i64) (.tmp 55)⟩,
      ⟨some 57, none, .bin .eql (.tmp 56) (.const (.int .i64 3))⟩])
    (.cond (.tmp 57)
      (.ops [⟨some 58, none, .mv (.tmp 6)⟩,
        ⟨some 59, none, .bsl 5 1 1 #[(.int .u8 0)] [(0, (.tmp 58))]⟩,
        ⟨some 60, none, .fa 4 (.tmp 5)⟩,
        ⟨some 61, none, .ld .slice (.tmp 60)⟩,
        ⟨some 62, none, .app 5 1 1 #[(.int .u8 0)] (.tmp 59) (.tmp 61)⟩,
        ⟨some 63, none, .fa 4 (.tmp 5)⟩,
        ⟨none, none, .st 1 (.tmp 63) (.tmp 62)⟩])
      .skip)))))
    (.ops [⟨some 64, none, .fa 4 (.tmp 5)⟩,
      ⟨some 65, none, .ld .slice (.tmp 64)⟩,
      ⟨some 66, none, .call 46 [(.tmp 65)]⟩,
      ⟨some 67, none, .fa 4 (.tmp 5)⟩,
      ⟨none, none, .st 1 (.tmp 67) (.tmp 66)⟩])))
  (.join (.seq (.ops [⟨some 68, none, .fa 1 (.tmp 5)⟩,
    ⟨some 69, none, .ld (.int .i64) (.tmp 68)⟩,
    ⟨some 70, none, .bin .eql (.tmp 69) (.const (.int .i64 0))⟩,
    ⟨some 71, none, .mv (.tmp 70)⟩,
    ⟨some 72, some (71, true), .fa 2 (.tmp 5)⟩,
    ⟨some 73, some (71, true), .ld (.int .i64) (.tmp 72)⟩,
    ⟨some 74, some (71, true), .bin .eql (.tmp 73) (.const (.int .i64 1))⟩,
    ⟨some 75, none, .pick (.tmp 71) (.tmp 74) (.const (.bool false))⟩,
    ⟨some 76, none, .mv (.tmp 75)⟩,
    ⟨some 77, some (76, true), .fa 4 (.tmp 5)⟩,
    ⟨some 78, some (76, true), .ld .slice (.tmp 77)⟩,
    ⟨some 79, some (76, true), .ia 1 (.tmp 78) (.const (.int .i64 0))⟩,
    ⟨some 80, some (76, true), .ld (.int .u8) (.tmp 79)⟩,
    ⟨some 81, some (76, true), .bin .neq (.tmp 80) (.const (.int .u8 0))⟩,
    ⟨some 82, none, .pick (.tmp 76) (.tmp 81) (.const (.bool false))⟩])
  (.cond (.tmp 82)
    (.ops [⟨some 83, none, .fa 4 (.tmp 5)⟩,
      ⟨some 84, none, .ld .slice (.tmp 83)⟩,
      ⟨some 85, none, .ia 1 (.tmp 84) (.const (.int .i64 0))⟩,
      ⟨none, none, .st 1 (.tmp 85) (.const (.int .u8 255))⟩])
    .skip))
  (.join (.seq (.ops [⟨some 86, none, .fa 4 (.tmp 5)⟩,
    ⟨some 87, none, .ld .slice (.tmp 86)⟩,
    ⟨some 88, none, .len (.tmp 87)⟩,
    ⟨some 9, none, .mv (.tmp 88)⟩])
  (.seq (.ops [⟨some 89, none, .fa 1 (.tmp 5)⟩,
    ⟨some 90, none, .ld (.int .i64) (.tmp 89)⟩,
    ⟨some 91, none, .bin .eql (.tmp 90) (.const (.int .i64 0))⟩,
    ⟨some 92, none, .mv (.tmp 91)⟩,
    ⟨some 93, some (92, true), .fa 2 (.tmp 5)⟩,
    ⟨some 94, some (92, true), .ld (.int .i64) (.tmp 93)⟩,
    ⟨some 95, some (92, true), .bin .eql (.tmp 94) (.const (.int .i64 3))⟩,
    ⟨some 96, none, .pick (.tmp 92) (.tmp 95) (.const (.bool false))⟩,
    ⟨some 97, none, .mv (.tmp 96)⟩,
    ⟨some 98, some (97, true), .mv (.tmp 9)⟩,
    ⟨some 99, some (97, true), .bin .gtr (.tmp 98) (.const (.int .i64 1))⟩,
    ⟨some 100, none, .pick (.tmp 97) (.tmp 99) (.const (.bool false))⟩])
  (.cond (.tmp 100)
    (.draw 13 [⟨some 101, none, .fa 4 (.tmp 5)⟩,
      ⟨some 102, none, .ld .slice (.tmp 101)⟩,
      ⟨some 103, none, .mv (.tmp 9)⟩,
      ⟨some 104, none, .bin .sub (.tmp 103) (.const (.int .i64 1))⟩,
      ⟨some 105, none, .ia 1 (.tmp 102) (.tmp 104)⟩,
      ⟨some 106, none, .ld (.int .u8) (.tmp 105)⟩,
      ⟨some 107, none, .fa 4 (.tmp 5)⟩,
      ⟨some 108, none, .ld .slice (.tmp 107)⟩,
      ⟨some 109, none, .ia 1 (.tmp 108) (.const (.int .i64 0))⟩,
      ⟨some 110, none, .ld (.int .u8) (.tmp 109)⟩,
      ⟨some 111, none, .bin .shl (.const (.int .u8 255)) (.tmp 110)⟩,
      ⟨some 112, none, .bin .and (.tmp 106) (.tmp 111)⟩,
      ⟨some 113, none, .ia 1 (.tmp 102) (.tmp 104)⟩,
      ⟨none, none, .st 1 (.tmp 113) (.tmp 112)⟩])
    .skip)))
  (.seq (.ops [⟨some 114, none, .ld (.agg 5) (.tmp 5)⟩,
    ⟨none, none, .st 5 (.tmp 4) (.tmp 114)⟩])
  .ret))))))⟩
theorem h101 : strF Tryd.prog [] Tryd.f101 = some c101 := by kernel_rfl

/-- slices.SortStableFunc[[]chirograph/ber.kid,chirograph/ber.kid] -/
def c102 : Fun := ⟨9, [],
  (.ops [⟨some 4, none, .mv (.tmp 0)⟩,
    ⟨some 5, none, .mv (.tmp 0)⟩,
    ⟨some 6, none, .len (.tmp 5)⟩,
    ⟨some 7, none, .mv (.tmp 1)⟩,
    ⟨some 8, none, .call 116 [(.tmp 4), (.tmp 6), (.tmp 7)]⟩])⟩
theorem h102 : strF Tryd.prog [] Tryd.f102 = some c102 := by kernel_rfl

/-- chirograph/ber.put$1 -/
def c103 : Fun := ⟨10, [.inl 4],
  (.seq (.ops [⟨some 2, none, .box 162 (.tmp 0)⟩,
    ⟨some 3, none, .box 162 (.tmp 1)⟩,
    ⟨some 4, none, .mv (.const (.int .i64 0))⟩])
  (.seq (.ops [⟨some 5, none, .fa 1 (.tmp 2)⟩,
    ⟨some 6, none, .ld .slice (.tmp 5)⟩,
    ⟨some 7, none, .fa 1 (.tmp 3)⟩,
    ⟨some 8, none, .ld .slice (.tmp 7)⟩,
    ⟨some 9, none, .call 104 [(.tmp 6), (.tmp 8)]⟩,
    ⟨some 4, none, .mv (.tmp 9)⟩])
  .ret))⟩
theorem h103 : strF Tryd.prog [] Tryd.f103 = some c103 := by kernel_rfl

/-- bytes.Compare -/
def c104 : Fun := ⟨8, [.inl 4],
  (.seq (.ops [⟨some 4, none, .mv (.const (.int .i64 0))⟩])
  (.seq (.ops [⟨some 5, none, .mv (.tmp 0)⟩,
    ⟨some 6, none, .mv (.tmp 1)⟩,
    ⟨some 7, none, .no⟩,
    ⟨some 4, none, .mv (.tmp 7)⟩])
  .ret))⟩
theorem h104 : strF Tryd.prog [] Tryd.f104 = some c104 := by kernel_rfl

/-- internal/strconv.log10Pow2 -/
def c105 : Fun := ⟨6, [.inl 2],
  (.seq (.ops [⟨some 2, none, .mv (.const (.int .i64 0))⟩])
  (.seq (.ops [⟨some 3, none, .mv (.tmp 0)⟩,
    ⟨some 4, none, .bin .mul (.tmp 3) (.const (.int .i64 78913))⟩,
    ⟨some 5, none, .bin .shr (.tmp 4) (.const (.int .u64 18))⟩,
    ⟨some 2, none, .mv (.tmp 5)⟩])
  .ret))⟩
theorem h105 : strF Tryd.prog [] Tryd.f105 = some c105 := by kernel_rfl

/-- math/bits.Len64 -/
def c106 : Fun := ⟨25, [.inl 2],
  (.seq (.ops [⟨some 2, none, .mv (.const (.int .i64 0))⟩])
  (.join (.seq (.ops [⟨some 3, none, .mv (.tmp 0)⟩,
    ⟨some 4, none, .bin .geq (.tmp 3) (.const (.int .u64 4294967296))⟩])
  (.cond (.tmp 4)
    (.seq (.ops [⟨some 5, none, .mv (.tmp 0)⟩,
      ⟨some 6, none, .bin .shr (.tmp 5) (.const (.int .u64 32))⟩,
      ⟨some 0, none, .mv (.tmp 6)⟩])
    (.ops [⟨some 2, none, .mv (.const (.int .i64 32))⟩]))
    .skip))
  (.join (.seq (.ops [⟨some 7, none, .mv (.tmp 0)⟩,
    ⟨some 8, none, .bin .geq (.tmp 7) (.const (.int .u64 65536))⟩])
  (.cond (.tmp 8)
    (.seq (.ops [⟨some 9, none, .mv (.tmp 0)⟩,
      ⟨some 10, none, .bin .shr (.tmp 9) (.const (.int .u64 16))⟩,
      ⟨some 0, none, .mv (.tmp 10)⟩])
    (.ops [⟨some 11, none, .mv (.tmp 2)⟩,
      ⟨some 12, none, .bin .add (.tmp 11) (.const (.int .i64 16))⟩,
      ⟨some 2, none, .mv (.tmp 12)⟩]))
    .skip))
  (.join (.seq (.ops [⟨some 13, none, .mv (.tmp 0)⟩,
    ⟨some 14, none, .bin .geq (.tmp 13) (.const (.int .u64 256))⟩])
  (.cond (.tmp 14)
    (.seq (.ops [⟨some 15, none, .mv (.tmp 0)⟩,
      ⟨some 16, none, .bin .shr (.tmp 15) (.const (.int .u64 8))⟩,
      ⟨some 0, none, .mv (.tmp 16)⟩])
    (.ops [⟨some 17, none, .mv (.tmp 2)⟩,
      ⟨some 18, none, .bin .add (.tmp 17) (.const (.int .i64 8))⟩,
      ⟨some 2, none, .mv (.tmp 18)⟩]))
    .skip))
  (.seq (.ops [⟨some 19, none, .mv (.tmp 2)⟩,
    ⟨some 20, none, .mv (.tmp 0)⟩,
    ⟨some 21, none, .cv .u8 (.tmp 20)⟩,
    ⟨some 22, none, .ixs (.const (.string ⟨#[0, 1, 2, 2, 3, 3, 3, 3, 4, 4, 4, 4, 4, 4, 4, 4, 5, 5, 5, 5, 5, 5, 5, 5, 5, 5, 5, 5, 5, 5, 5, 5, 6, 6, 6, 6, 6, 6, 6, 6, 6, 6, 6, 6, 6, 6, 6, 6, 6, 6, 6, 6, 6, 6, 6, 6, 6, 6, 6, 6, 6, 6, 6, 6, 7, 7, 7, 7, 7, 7, 7, 7, 7, 7, 7, 7, 7, 7, 7, 7, 7, 7, 7, 7, 7, 7, 7, 7, 7, 7, 7, 7, 7, 7, 7, 7, 7, 7, 7, 7, 7, 7, 7, 7, 7, 7, 7, 7, 7, 7, 7, 7, 7, 7, 7, 7, 7, 7, 7, 7, 7, 7, 7, 7, 7, 7, 7, 7, 8, 8, 8, 8, 8, 8, 8, 8, 8, 8, 8, 8, 8, 8, 8, 8, 8, 8, 8, 8, 8, 8, 8, 8, 8, 8, 8, 8, 8, 8, 8, 8, 8, 8, 8, 8, 8, 8, 8, 8, 8, 8, 8, 8, 8, 8, 8, 8, 8, 8, 8, 8, 8, 8, 8, 8, 8, 8, 8, 8, 8, 8, 8, 8, 8, 8, 8, 8, 8, 8, 8, 8, 8, 8, 8, 8, 8, 8, 8, 8, 8, 8, 8, 8, 8, 8, 8, 8, 8, 8, 8, 8, 8, 8, 8, 8, 8, 8, 8, 8, 8, 8, 8, 8, 8, 8, 8, 8, 8, 8, 8, 8, 8, 8, 8, 8, 8, 8, 8, 8, 8, 8, 8, 8, 8, 8, 8, 8]⟩)) (.tmp 21)⟩,
    ⟨some 23, none, .cv .i64 (.tmp 22)⟩,
    ⟨some 24, none, .bin .add (.tmp 19) (.tmp 23)⟩,
    ⟨some 2, none, .mv (.tmp 24)⟩])
  .ret)))))⟩
theorem h106 : strF Tryd.prog [] Tryd.f106 = some c106 := by kernel_rfl

/-- internal/strconv.bool2[int] -/
def c107 : Fun := ⟨4, [.inl 2],
  (.seq (.ops [⟨some 2, none, .mv (.const (.int .i64 0))⟩])
  (.seq (.seq (.ops [⟨some 3, none, .mv (.tmp 0)⟩])
  (.cond (.tmp 3)
    (.seq (.ops [⟨some 2, none, .mv (.const (.int .i64 1))⟩])
    .ret)
    .skip))
  (.seq (.ops [⟨some 2, none, .mv (.const (.int .i64 0))⟩])
  .ret)))⟩
theorem h107 : strF Tryd.prog [] Tryd.f107 = some c107 := by kernel_rfl

/-- internal/strconv.isPowerOfTwo -/
def c108 : Fun := ⟨8, [.inl 2],
  (.seq (.ops [⟨some 2, none, .mv (.const (.bool false))⟩])
  (.seq (.ops [⟨some 3, none, .mv (.tmp 0)⟩,
    ⟨some 4, none, .mv (.tmp 0)⟩,
    ⟨some 5, none, .bin .sub (.tmp 4) (.const (.int .i64 1))⟩,
    ⟨some 6, none, .bin .and (.tmp 3) (.tmp 5)⟩,
    ⟨some 7, none, .bin .eql (.tmp 6) (.const (.int .i64 0))⟩,
    ⟨some 2, none, .mv (.tmp 7)⟩])
  .ret))⟩
theorem h108 : strF Tryd.prog [] Tryd.f108 = some c108 := by kernel_rfl

/-- math/bits.TrailingZeros -/
def c109 : Fun := ⟨8, [.inl 2],
  (.seq (.ops [⟨some 2, none, .mv (.const (.int .i64 0))⟩])
  (.seq (.cond (.const (.bool false))
    (.seq (.ops [⟨some 3, none, .mv (.tmp 0)⟩,
      ⟨some 4, none, .cv .u32 (.tmp 3)⟩,
      ⟨some 5, none, .call 118 [(.tmp 4)]⟩,
      ⟨some 2, none, .mv (.tmp 5)⟩])
    .ret)
    .skip)
  (.seq (.ops [⟨some 6, none, .mv (.tmp 0)⟩,
    ⟨some 7, none, .call 119 [(.tmp 6)]⟩,
    ⟨some 2, none, .mv (.tmp 7)⟩])
  .ret)))⟩
theorem h109 : strF Tryd.prog [] Tryd.f109 = some c109 := by kernel_rfl

/-- (*chirograph/ber.scan).tag -/
def c110 : Fun := ⟨82, [.inl 6, .inl 7, .inl 8],
  (.seq (.ops [⟨some 6, none, .mv (.const (.int .i64 0))⟩,
    ⟨some 7, none, .mv (.const (.int .i64 0))⟩,
    ⟨some 8, none, .mv (.const .nilIface)⟩])
  (.seq (.seq (.ops [⟨some 13, none, .mv (.tmp 0)⟩,
    ⟨some 14, none, .nilc (.tmp 13)⟩,
    ⟨some 15, none, .fa 0 (.tmp 14)⟩,
    ⟨some 16, none, .ld .slice (.tmp 15)⟩,
    ⟨some 17, none, .mv (.tmp 1)⟩,
    ⟨some 18, none, .ia 1 (.tmp 16) (.tmp 17)⟩,
    ⟨some 19, none, .ld (.int .u8) (.tmp 18)⟩,
    ⟨some 20, none, .bin .and (.tmp 19) (.const (.int .u8 31))⟩,
    ⟨some 21, none, .cv .i64 (.tmp 20)⟩,
    ⟨some 9, none, .mv (.tmp 21)⟩])
  (.seq (.ops [⟨some 22, none, .mv (.tmp 9)⟩,
    ⟨some 23, none, .bin .lss (.tmp 22) (.const (.int .i64 31))⟩])
  (.cond (.tmp 23)
    (.seq (.ops [⟨some 24, none, .mv (.tmp 9)⟩,
      ⟨some 25, none, .mv (.tmp 1)⟩,
      ⟨some 26, none, .bin .add (.tmp 25) (.const (.int .i64 1))⟩,
      ⟨some 6, none, .mv (.tmp 24)⟩,
      ⟨some 7, none, .mv (.tmp 26)⟩,
      ⟨some 8, none, .mv (.const .nilIface)⟩])
    .ret)
    .skip)))
  (.seq (.ops [⟨some 10, none, .mv (.const (.int .i64 0))⟩])
  (.seq (.seq (.ops [⟨some 27, none, .mv (.tmp 1)⟩,
    ⟨some 28, none, .bin .add (.tmp 27) (.const (.int .i64 1))⟩,
    ⟨some 11, none, .mv (.tmp 28)⟩])
  (.block 0
    (.loop
      (.seq (.seq (.ops [⟨some 29, none, .mv (.tmp 11)⟩,
        ⟨some 30, none, .mv (.tmp 2)⟩,
        ⟨some 31, none, .bin .lss (.tmp 29) (.tmp 30)⟩])
      (.cond (.tmp 31)
        .skip
        (.exit 0)))
      (.seq (.block 1
        (.seq (.ops [⟨some 34, none, .mv (.tmp 0)⟩,
          ⟨some 35, none, .nilc (.tmp 34)⟩,
          ⟨some 36, none, .fa 0 (.tmp 35)⟩,
          ⟨some 37, none, .ld .slice (.tmp 36)⟩,
          ⟨some 38, none, .mv (.tmp 11)⟩,
          ⟨some 39, none, .ia 1 (.tmp 37) (.tmp 38)⟩,
          ⟨some 40, none, .ld (.int .u8) (.tmp 39)⟩,
          ⟨some 12, none, .mv (.tmp 40)⟩])
        (.seq (.ops [⟨some 41, none, .mv (.tmp 10)⟩,
          ⟨some 42, none, .bin .shl (.tmp 41) (.const (.int .u64 7))⟩,
          ⟨some 43, none, .mv (.tmp 12)⟩,
          ⟨some 44, none, .bin .and (.tmp 43) (.const (.int .u8 127))⟩,
          ⟨some 45, none, .cv .i64 (.tmp 44)⟩,
          ⟨some 46, none, .bin .or (.tmp 42) (.tmp 45)⟩,
          ⟨some 10, none, .mv (.tmp 46)⟩])
        (.block 2
          (.join (.seq (.ops [⟨some 48, none, .mv (.tmp 10)⟩,
            ⟨some 49, none, .bin .eql (.tmp 48) (.const (.int .i64 0))⟩,
            ⟨some 50, none, .mv (.tmp 49)⟩,
            ⟨some 51, some (50, true), .mv (.tmp 12)⟩,
            ⟨some 52, some (50, true), .bin .eql (.tmp 51) (.const (.int .u8 128))⟩,
            ⟨some 53, none, .pick (.tmp 50) (.tmp 52) (.const (.bool false))⟩,
            ⟨some 54, none, .mv (.tmp 53)⟩,
            ⟨some 55, some (54, true), .mv (.tmp 11)⟩,
            ⟨some 56, some (54, true), .mv (.tmp 1)⟩,
            ⟨some 57, some (54, true), .bin .add (.tmp 56) (.const (.int .i64 1))⟩,
            ⟨some 58, some (54, true), .bin .eql (.tmp 55) (.tmp 57)⟩,
            ⟨some 59, none, .pick (.tmp 54) (.tmp 58) (.const (.bool false))⟩,
            ⟨some 47, none, .mv (.tmp 59)⟩])
          (.cond (.tmp 47)
            .skip
            (.seq (.ops [⟨some 60, none, .mv (.tmp 10)⟩,
              ⟨some 61, none, .bin .gtr (.tmp 60) (.const (.int .i64 268435455))⟩,
              ⟨some 47, none, .mv (.tmp 61)⟩])
            (.cond (.tmp 47)
              .skip
              (.ops [⟨some 62, none, .mv (.tmp 12)⟩,
                ⟨some 63, none, .bin .lss (.tmp 62) (.const (.int .u8 128))⟩,
                ⟨some 64, none, .mv (.tmp 63)⟩,
                ⟨some 65, some (64, true), .mv (.tmp 10)⟩,
                ⟨some 66, some (64, true), .bin .lss (.tmp 65) (.const (.int .i64 31))⟩,
                ⟨some 67, none, .pick (.tmp 64) (.tmp 66) (.const (.bool false))⟩,
                ⟨some 47, none, .mv (.tmp 67)⟩])))))
          (.cond (.tmp 47)
            (.seq (.ops [⟨some 68, none, .mv (.tmp 11)⟩,
              ⟨some 69, none, .bld #[(.int .i64 0), (.int .i64 0)] [(0, 1), (1, 1)] [(0, (.const (.int .i64 30))), (1, (.tmp 68))]⟩,
              ⟨some 70, none, .box 151 (.tmp 69)⟩,
              ⟨some 71, none, .mki 149 (.tmp 70)⟩,
              ⟨some 6, none, .mv (.const (.int .i64 0))⟩,
              ⟨some 7, none, .mv (.const (.int .i64 0))⟩,
              ⟨some 8, none, .mv (.tmp 71)⟩])
            .ret)
            (.seq (.ops [⟨some 73, none, .mv (.tmp 12)⟩,
              ⟨some 74, none, .bin .lss (.tmp 73) (.const (.int .u8 128))⟩,
              ⟨some 72, none, .mv (.tmp 74)⟩])
            (.cond (.tmp 72)
              (.seq (.ops [⟨some 75, none, .mv (.tmp 10)⟩,
                ⟨some 76, none, .mv (.tmp 11)⟩,
                ⟨some 77, none, .bin .add (.tmp 76) (.const (.int .i64 1))⟩,
                ⟨some 6, none, .mv (.tmp 75)⟩,
                ⟨some 7, none, .mv (.tmp 77)⟩,
                ⟨some 8, none, .mv (.const .nilIface)⟩])
              .ret)
              .skip))))))))
      (.ops [⟨some 32, none, .mv (.tmp 11)⟩,
        ⟨some 33, none, .bin .add (.tmp 32) (.const (.int .i64 1))⟩,
        ⟨some 11, none, .mv (.tmp 33)⟩]))))))
  (.seq (.ops [⟨some 78, none, .mv (.tmp 2)⟩,
    ⟨some 79, none, .bld #[(.int .i64 0), (.int .i64 0)] [(0, 1), (1, 1)] [(0, (.const (.int .i64 2))), (1, (.tmp 78))]⟩,
    ⟨some 80, none, .box 151 (.tmp 79)⟩,
    ⟨some 81, none, .mki 149 (.tmp 80)⟩,
    ⟨some 6, none, .mv (.const (.int .i64 0))⟩,
    ⟨some 7, none, .mv (.const (.int .i64 0))⟩,
    ⟨some 8, none, .mv (.tmp 81)⟩])
  .ret)))))⟩
theorem h110 : strF Tryd.prog [] Tryd.f110 = some c110 := by kernel_rfl

/-- (*chirograph/ber.scan).length -/
def c111 : Fun := ⟨97, [.inl 8, .inl 9, .inl 10, .inl 11],
  (.seq (.ops [⟨some 8, none, .mv (.const (.int .i64 0))⟩,
    ⟨some 9, none, .mv (.const (.int .i64 0))⟩,
    ⟨some 10, none, .mv (.const (.bool false))⟩,
    ⟨some 11, none, .mv (.const .nilIface)⟩])
  (.seq (.seq (.ops [⟨some 17, none, .mv (.tmp 1)⟩,
    ⟨some 18, none, .mv (.tmp 2)⟩,
    ⟨some 19, none, .bin .geq (.tmp 17) (.tmp 18)⟩])
  (.cond (.tmp 19)
    (.seq (.ops [⟨some 20, none, .mv (.tmp 2)⟩,
      ⟨some 21, none, .bld #[(.int .i64 0), (.int .i64 0)] [(0, 1), (1, 1)] [(0, (.const (.int .i64 2))), (1, (.tmp 20))]⟩,
      ⟨some 22, none, .box 151 (.tmp 21)⟩,
      ⟨some 23, none, .mki 149 (.tmp 22)⟩,
      ⟨some 8, none, .mv (.const (.int .i64 0))⟩,
      ⟨some 9, none, .mv (.const (.int .i64 0))⟩,
      ⟨some 10, none, .mv (.const (.bool false))⟩,
      ⟨some 11, none, .mv (.tmp 23)⟩])
    .ret)
    .skip))
  (.seq (.ops [⟨some 24, none, .mv (.tmp 0)⟩,
    ⟨some 25, none, .nilc (.tmp 24)⟩,
    ⟨some 26, none, .fa 0 (.tmp 25)⟩,
    ⟨some 27, none, .ld .slice (.tmp 26)⟩,
    ⟨some 28, none, .mv (.tmp 1)⟩,
    ⟨some 29, none, .ia 1 (.tmp 27) (.tmp 28)⟩,
    ⟨some 30, none, .ld (.int .u8) (.tmp 29)⟩,
    ⟨some 12, none, .mv (.tmp 30)⟩])
  (.seq (.ops [⟨some 31, none, .mv (.tmp 12)⟩,
    ⟨some 32, none, .cv .i64 (.tmp 31)⟩,
    ⟨some 33, none, .mv (.tmp 1)⟩,
    ⟨some 34, none, .bin .add (.tmp 33) (.const (.int .i64 1))⟩,
    ⟨some 13, none, .mv (.tmp 32)⟩,
    ⟨some 14, none, .mv (.tmp 34)⟩])
  (.join (.block 0
    (.seq (.ops [⟨some 36, none, .mv (.tmp 12)⟩,
      ⟨some 37, none, .bin .eql (.tmp 36) (.const (.int .u8 128))⟩,
      ⟨some 38, none, .mv (.tmp 37)⟩,
      ⟨some 39, some (38, true), .mv (.tmp 3)⟩,
      ⟨some 40, none, .pick (.tmp 38) (.tmp 39) (.const (.bool false))⟩,
      ⟨some 35, none, .mv (.tmp 40)⟩])
    (.cond (.tmp 35)
      (.seq (.ops [⟨some 41, none, .mv (.tmp 14)⟩,
        ⟨some 8, none, .mv (.const (.int .i64 0))⟩,
        ⟨some 9, none, .mv (.tmp 41)⟩,
        ⟨some 10, none, .mv (.const (.bool true))⟩,
        ⟨some 11, none, .mv (.const .nilIface)⟩])
      .ret)
      (.join (.seq (.ops [⟨some 43, none, .mv (.tmp 12)⟩,
        ⟨some 44, none, .bin .eql (.tmp 43) (.const (.int .u8 128))⟩,
        ⟨some 42, none, .mv (.tmp 44)⟩])
      (.cond (.tmp 42)
        .skip
        (.ops [⟨some 45, none, .mv (.tmp 12)⟩,
          ⟨some 46, none, .bin .eql (.tmp 45) (.const (.int .u8 255))⟩,
          ⟨some 42, none, .mv (.tmp 46)⟩])))
      (.cond (.tmp 42)
        (.seq (.ops [⟨some 47, none, .mv (.tmp 1)⟩,
          ⟨some 48, none, .bld #[(.int .i64 0), (.int .i64 0)] [(0, 1), (1, 1)] [(0, (.const (.int .i64 31))), (1, (.tmp 47))]⟩,
          ⟨some 49, none, .box 151 (.tmp 48)⟩,
          ⟨some 50, none, .mki 149 (.tmp 49)⟩,
          ⟨some 8, none, .mv (.const (.int .i64 0))⟩,
          ⟨some 9, none, .mv (.const (.int .i64 0))⟩,
          ⟨some 10, none, .mv (.const (.bool false))⟩,
          ⟨some 11, none, .mv (.tmp 50)⟩])
        .ret)
        (.seq (.ops [⟨some 52, none, .mv (.tmp 12)⟩,
          ⟨some 53, none, .bin .gtr (.tmp 52) (.const (.int .u8 128))⟩,
          ⟨some 51, none, .mv (.tmp 53)⟩])
        (.cond (.tmp 51)
          (.seq (.ops [⟨some 54, none, .mv (.tmp 14)⟩,
            ⟨some 55, none, .mv (.tmp 12)⟩,
            ⟨some 56, none, .bin .and (.tmp 55) (.const (.int .u8 127))⟩,
            ⟨some 57, none, .cv .i64 (.tmp 56)⟩,
            ⟨some 58, none, .bin .add (.tmp 54) (.tmp 57)⟩,
            ⟨some 14, none, .mv (.tmp 58)⟩])
          (.seq (.seq (.ops [⟨some 59, none, .mv (.tmp 14)⟩,
            ⟨some 60, none, .mv (.tmp 2)⟩,
            ⟨some 61, none, .bin .gtr (.tmp 59) (.tmp 60)⟩])
          (.cond (.tmp 61)
            (.seq (.ops [⟨some 62, none, .mv (.tmp 2)⟩,
              ⟨some 63, none, .bld #[(.int .i64 0), (.int .i64 0)] [(0, 1), (1, 1)] [(0, (.const (.int .i64 2))), (1, (.tmp 62))]⟩,
              ⟨some 64, none, .box 151 (.tmp 63)⟩,
              ⟨some 65, none, .mki 149 (.tmp 64)⟩,
              ⟨some 8, none, .mv (.const (.int .i64 0))⟩,
              ⟨some 9, none, .mv (.const (.int .i64 0))⟩,
              ⟨some 10, none, .mv (.const (.bool false))⟩,
              ⟨some 11, none, .mv (.tmp 65)⟩])
            .ret)
            .skip))
          (.seq (.ops [⟨some 13, none, .mv (.const (.int .i64 0))⟩])
          (.seq (.ops [⟨some 66, none, .mv (.tmp 0)⟩,
            ⟨some 67, none, .nilc (.tmp 66)⟩,
            ⟨some 68, none, .fa 0 (.tmp 67)⟩,
            ⟨some 69, none, .ld .slice (.tmp 68)⟩,
            ⟨some 70, none, .mv (.tmp 1)⟩,
            ⟨some 71, none, .bin .add (.tmp 70) (.const (.int .i64 1))⟩,
            ⟨some 72, none, .mv (.tmp 14)⟩,
            ⟨some 73, none, .slc 1 (.tmp 69) (some (.tmp 71)) (some (.tmp 72)) none⟩,
            ⟨some 74, none, .len (.tmp 73)⟩,
            ⟨some 75, none, .mv (.const (.int .i64 0))⟩])
          (.block 1
            (.loop
              (.seq (.ops [⟨some 76, none, .bin .lss (.tmp 75) (.tmp 74)⟩])
              (.seq (.cond (.tmp 76)
                .skip
                (.exit 1))
              (.seq (.block 2
                (.seq (.ops [⟨some 77, none, .ia 1 (.tmp 73) (.tmp 75)⟩,
                  ⟨some 78, none, .ld (.int .u8) (.tmp 77)⟩,
                  ⟨some 16, none, .mv (.tmp 78)⟩])
                (.ops [⟨some 79, none, .mv (.tmp 13)⟩,
                  ⟨some 80, none, .bin .shl (.tmp 79) (.const (.int .u64 8))⟩,
                  ⟨some 81, none, .mv (.tmp 16)⟩,
                  ⟨some 82, none, .cv .i64 (.tmp 81)⟩,
                  ⟨some 83, none, .bin .or (.tmp 80) (.tmp 82)⟩,
                  ⟨some 84, none, .min2 (.tmp 83) (.const (.int .i64 16777217))⟩,
                  ⟨some 13, none, .mv (.tmp 84)⟩])))
              (.ops [⟨some 85, none, .bin .add (.tmp 75) (.const (.int .i64 1))⟩,
                ⟨some 75, none, .mv (.tmp 85)⟩]))))))))))
          .skip)))))))
  (.seq (.seq (.ops [⟨some 86, none, .mv (.tmp 13)⟩,
    ⟨some 87, none, .mv (.tmp 2)⟩,
    ⟨some 88, none, .mv (.tmp 14)⟩,
    ⟨some 89, none, .bin .sub (.tmp 87) (.tmp 88)⟩,
    ⟨some 90, none, .bin .gtr (.tmp 86) (.tmp 89)⟩])
  (.cond (.tmp 90)
    (.seq (.ops [⟨some 91, none, .mv (.tmp 1)⟩,
      ⟨some 92, none, .bld #[(.int .i64 0), (.int .i64 0)] [(0, 1), (1, 1)] [(0, (.const (.int .i64 31))), (1, (.tmp 91))]⟩,
      ⟨some 93, none, .box 151 (.tmp 92)⟩,
      ⟨some 94, none, .mki 149 (.tmp 93)⟩,
      ⟨some 8, none, .mv (.const (.int .i64 0))⟩,
      ⟨some 9, none, .mv (.const (.int .i64 0))⟩,
      ⟨some 10, none, .mv (.const (.bool false))⟩,
      ⟨some 11, none, .mv (.tmp 94)⟩])
    .ret)
    .skip))
  (.seq (.ops [⟨some 95, none, .mv (.tmp 13)⟩,
    ⟨some 96, none, .mv (.tmp 14)⟩,
    ⟨some 8, none, .mv (.tmp 95)⟩,
    ⟨some 9, none, .mv (.tmp 96)⟩,
    ⟨some 10, none, .mv (.const (.bool false))⟩,
    ⟨some 11, none, .mv (.const .nilIface)⟩])
  .ret)))))))⟩
theorem h111 : strF Tryd.prog [] Tryd.f111 = some c111 := by kernel_rfl

/-- errors.as -/
def c115 : Fun := ⟨62, [.inl 8],
  (.seq (.ops [⟨some 6, none, .box 183 (.tmp 2)⟩,
    ⟨some 8, none, .mv (.const (.bool false))⟩])
  (.block 0
    (.loop
      (.block 1
        (.seq (.seq (.ops [⟨some 16, none, .mv (.tmp 0)⟩,
          ⟨some 17, none, .no⟩,
          ⟨some 18, none, .mv (.tmp 3)⟩,
          ⟨some 19, none, .no⟩])
        (.cond (.tmp 19)
          (.seq (.ops [⟨some 20, none, .ld (.agg 3) (.tmp 6)⟩,
            ⟨some 21, none, .no⟩,
            ⟨some 22, none, .mv (.tmp 0)⟩,
            ⟨some 23, none, .no⟩,
            ⟨some 24, none, .no⟩])
          (.seq (.ops [⟨some 8, none, .mv (.const (.bool true))⟩])
          .ret))
          .skip))
        (.seq (.seq (.ops [⟨some 26, none, .mv (.tmp 0)⟩,
          ⟨some 27, none, .no⟩,
          ⟨some 25, none, .mv (.tmp 27)⟩,
          ⟨some 28, none, .ext (.tmp 25) 0⟩,
          ⟨some 29, none, .ext (.tmp 25) 1⟩,
          ⟨some 9, none, .mv (.tmp 28)⟩,
          ⟨some 10, none, .mv (.tmp 29)⟩])
        (.seq (.ops [⟨some 30, none, .mv (.tmp 10)⟩,
          ⟨some 31, none, .mv (.tmp 30)⟩,
          ⟨some 32, some (31, true), .mv (.tmp 9)⟩,
          ⟨some 33, some (31, true), .mv (.tmp 1)⟩,
          ⟨some 34, some (31, true), .no⟩,
          ⟨some 35, none, .pick (.tmp 31) (.tmp 34) (.const (.bool false))⟩])
        (.cond (.tmp 35)
          (.seq (.ops [⟨some 8, none, .mv (.const (.bool true))⟩])
          .ret)
          .skip)))
        (.seq (.ops [⟨some 36, none, .mv (.tmp 0)⟩])
        (.block 2
          (.seq (.ops [⟨some 37, none, .no⟩,
            ⟨some 38, none, .ext (.tmp 37) 1⟩,
            ⟨some 39, none, .ext (.tmp 37) 0⟩])
          (.cond (.tmp 38)
            (.seq (.ops [⟨some 11, none, .mv (.tmp 39)⟩])
            (.seq (.ops [⟨some 40, none, .mv (.tmp 11)⟩,
              ⟨some 41, none, .no⟩,
              ⟨some 0, none, .mv (.tmp 41)⟩])
            (.seq (.ops [⟨some 42, none, .mv (.tmp 0)⟩,
              ⟨some 43, none, .eq .other false (.tmp 42) (.const .nilIface)⟩])
            (.cond (.tmp 43)
              (.seq (.ops [⟨some 8, none, .mv (.const (.bool false))⟩])
              .ret)
              .skip))))
            (.seq (.ops [⟨some 44, none, .no⟩,
              ⟨some 45, none, .ext (.tmp 44) 1⟩,
              ⟨some 46, none, .ext (.tmp 44) 0⟩])
            (.cond (.tmp 45)
              (.seq (.ops [⟨some 12, none, .mv (.tmp 46)⟩])
              (.seq (.seq (.ops [⟨some 47, none, .mv (.tmp 12)⟩,
                ⟨some 48, none, .no⟩,
                ⟨some 49, none, .len (.tmp 48)⟩,
                ⟨some 50, none, .mv (.const (.int .i64 0))⟩])
              (.block 3
                (.loop
                  (.seq (.ops [⟨some 51, none, .bin .lss (.tmp 50) (.tmp 49)⟩])
                  (.seq (.cond (.tmp 51)
                    .skip
                    (.exit 3))
                  (.join (.block 4
                    (.seq (.ops [⟨some 52, none, .ia 1 (.tmp 48) (.tmp 50)⟩,
                      ⟨some 53, none, .ld .other (.tmp 52)⟩,
                      ⟨some 14, none, .mv (.tmp 53)⟩])
                    (.seq (.seq (.ops [⟨some 54, none, .mv (.tmp 14)⟩,
                      ⟨some 55, none, .eq .other false (.tmp 54) (.const .nilIface)⟩])
                    (.cond (.tmp 55)
                      (.exit 4)
                      .skip))
                    (.seq (.ops [⟨some 56, none, .mv (.tmp 14)⟩,
                      ⟨some 57, none, .mv (.tmp 1)⟩,
                      ⟨some 58, none, .ld (.agg 3) (.tmp 6)⟩,
                      ⟨some 59, none, .mv (.tmp 3)⟩,
                      ⟨some 60, none, .call 115 [(.tmp 56), (.tmp 57), (.tmp 58), (.tmp 59)]⟩])
                    (.cond (.tmp 60)
                      (.seq (.ops [⟨some 8, none, .mv (.const (.bool true))⟩])
                      .ret)
                      .skip)))))
                  (.ops [⟨some 61, none, .bin .add (.tmp 50) (.const (.int .i64 1))⟩,
                    ⟨some 50, none, .mv (.tmp 61)⟩])))))))
              (.seq (.ops [⟨some 8, none, .mv (.const (.bool false))⟩])
              .ret)))
              (.seq (.ops [⟨some 15, none, .mv (.tmp 36)⟩])
              (.seq (.ops [⟨some 8, none, .mv (.const (.bool false))⟩])
              .ret))))))))))))))⟩
theorem h115 : strF Tryd.prog [] Tryd.f115 = some c115 := by kernel_rfl

/-- slices.stableCmpFunc[chirograph/ber.kid] -/
def c116 : Fun := ⟨63, [],
  (.seq (.ops [⟨some 6, none, .mv (.const (.int .i64 20))⟩])
  (.seq (.ops [⟨some 10, none, .mv (.tmp 6)⟩,
    ⟨some 7, none, .mv (.const (.int .i64 0))⟩,
    ⟨some 8, none, .mv (.tmp 10)⟩])
  (.seq (.block 0
    (.loop
      (.seq (.seq (.ops [⟨some 11, none, .mv (.tmp 8)⟩,
        ⟨some 12, none, .mv (.tmp 1)⟩,
        ⟨some 13, none, .bin .leq (.tmp 11) (.tmp 12)⟩])
      (.cond (.tmp 13)
        .skip
        (.exit 0)))
      (.block 1
        (.seq (.ops [⟨some 14, none, .mv (.tmp 0)⟩,
          ⟨some 15, none, .mv (.tmp 7)⟩,
          ⟨some 16, none, .mv (.tmp 8)⟩,
          ⟨some 17, none, .mv (.tmp 2)⟩,
          ⟨some 18, none, .call 123 [(.tmp 14), (.tmp 15), (.tmp 16), (.tmp 17)]⟩])
        (.seq (.ops [⟨some 19, none, .mv (.tmp 8)⟩,
          ⟨some 7, none, .mv (.tmp 19)⟩])
        (.ops [⟨some 20, none, .mv (.tmp 8)⟩,
          ⟨some 21, none, .mv (.tmp 6)⟩,
          ⟨some 22, none, .bin .add (.tmp 20) (.tmp 21)⟩,
          ⟨some 8, none, .mv (.tmp 22)⟩])))))))
  (.seq (.ops [⟨some 23, none, .mv (.tmp 0)⟩,
    ⟨some 24, none, .mv (.tmp 7)⟩,
    ⟨some 25, none, .mv (.tmp 1)⟩,
    ⟨some 26, none, .mv (.tmp 2)⟩,
    ⟨some 27, none, .call 123 [(.tmp 23), (.tmp 24), (.tmp 25), (.tmp 26)]⟩])
  (.block 2
    (.loop
      (.seq (.seq (.ops [⟨some 28, none, .mv (.tmp 6)⟩,
        ⟨some 29, none, .mv (.tmp 1)⟩,
        ⟨some 30, none, .bin .lss (.tmp 28) (.tmp 29)⟩])
      (.cond (.tmp 30)
        .skip
        (.exit 2)))
      (.block 3
        (.seq (.ops [⟨some 31, none, .mv (.tmp 6)⟩,
          ⟨some 32, none, .bin .mul (.const (.int .i64 2)) (.tmp 31)⟩,
          ⟨some 7, none, .mv (.const (.int .i64 0))⟩,
          ⟨some 8, none, .mv (.tmp 32)⟩])
        (.seq (.block 4
          (.loop
            (.seq (.seq (.ops [⟨some 33, none, .mv (.tmp 8)⟩,
              ⟨some 34, none, .mv (.tmp 1)⟩,
              ⟨some 35, none, .bin .leq (.tmp 33) (.tmp 34)⟩])
            (.cond (.tmp 35)
              .skip
              (.exit 4)))
            (.block 5
              (.seq (.ops [⟨some 36, none, .mv (.tmp 0)⟩,
                ⟨some 37, none, .mv (.tmp 7)⟩,
                ⟨some 38, none, .mv (.tmp 7)⟩,
                ⟨some 39, none, .mv (.tmp 6)⟩,
                ⟨some 40, none, .bin .add (.tmp 38) (.tmp 39)⟩,
                ⟨some 41, none, .mv (.tmp 8)⟩,
                ⟨some 42, none, .mv (.tmp 2)⟩,
                ⟨some 43, none, .call 124 [(.tmp 36), (.tmp 37), (.tmp 40), (.tmp 41), (.tmp 42)]⟩])
              (.seq (.ops [⟨some 44, none, .mv (.tmp 8)⟩,
                ⟨some 7, none, .mv (.tmp 44)⟩])
              (.ops [⟨some 45, none, .mv (.tmp 8)⟩,
                ⟨some 46, none, .mv (.tmp 6)⟩,
                ⟨some 47, none, .bin .mul (.const (.int .i64 2)) (.tmp 46)⟩,
                ⟨some 48, none, .bin .add (.tmp 45) (.tmp 47)⟩,
                ⟨some 8, none, .mv (.tmp 48)⟩])))))))
        (.join (.seq (.ops [⟨some 49, none, .mv (.tmp 7)⟩,
          ⟨some 50, none, .mv (.tmp 6)⟩,
          ⟨some 51, none, .bin .add (.tmp 49) (.tmp 50)⟩,
          ⟨some 9, none, .mv (.tmp 51)⟩])
        (.seq (.ops [⟨some 52, none, .mv (.tmp 9)⟩,
          ⟨some 53, none, .mv (.tmp 1)⟩,
          ⟨some 54, none, .bin .lss (.tmp 52) (.tmp 53)⟩])
        (.cond (.tmp 54)
          (.ops [⟨some 55, none, .mv (.tmp 0)⟩,
            ⟨some 56, none, .mv (.tmp 7)⟩,
            ⟨some 57, none, .mv (.tmp 9)⟩,
            ⟨some 58, none, .mv (.tmp 1)⟩,
            ⟨some 59, none, .mv (.tmp 2)⟩,
            ⟨some 60, none, .call 124 [(.tmp 55), (.tmp 56), (.tmp 57), (.tmp 58), (.tmp 59)]⟩])
          .skip)))
        (.ops [⟨some 61, none, .mv (.tmp 6)⟩,
          ⟨some 62, none, .bin .mul (.tmp 61) (.const (.int .i64 2))⟩,
          ⟨some 6, none, .mv (.tmp 62)⟩]))))))))))))⟩
theorem h116 : strF Tryd.prog [] Tryd.f116 = some c116 := by kernel_rfl

/-- math/bits.TrailingZeros32 -/
def c118 : Fun := ⟨14, [.inl 2],
  (.seq (.ops [⟨some 2, none, .mv (.const (.int .i64 0))⟩])
  (.seq (.seq (.ops [⟨some 3, none, .mv (.tmp 0)⟩,
    ⟨some 4, none, .bin .eql (.tmp 3) (.const (.int .u32 0))⟩])
  (.cond (.tmp 4)
    (.seq (.ops [⟨some 2, none, .mv (.const (.int .i64 32))⟩])
    .ret)
    .skip))
  (.seq (.ops [⟨some 5, none, .mv (.tmp 0)⟩,
    ⟨some 6, none, .mv (.tmp 0)⟩,
    ⟨some 7, none, .un .neg (.tmp 6)⟩,
    ⟨some 8, none, .bin .and (.tmp 5) (.tmp 7)⟩,
    ⟨some 9, none, .bin .mul (.tmp 8) (.const (.int .u32 125613361))⟩,
    ⟨some 10, none, .bin .shr (.tmp 9) (.const (.int .u64 27))⟩,
    ⟨some 11, none, .iaA 32 1 (.global 5) (.tmp 10)⟩,
    ⟨some 12, none, .ld (.int .u8) (.tmp 11)⟩,
    ⟨some 13, none, .cv .i64 (.tmp 12)⟩,
    ⟨some 2, none, .mv (.tmp 13)⟩])
  .ret)))⟩
theorem h118 : strF Tryd.prog [] Tryd.f118 = some c118 := by kernel_rfl

/-- math/bits.TrailingZeros64 -/
def c119 : Fun := ⟨14, [.inl 2],
  (.seq (.ops [⟨some 2, none, .mv (.const (.int .i64 0))⟩])
  (.seq (.seq (.ops [⟨some 3, none, .mv (.tmp 0)⟩,
    ⟨some 4, none, .bin .eql (.tmp 3) (.const (.int .u64 0))⟩])
  (.cond (.tmp 4)
    (.seq (.ops [⟨some 2, none, .mv (.const (.int .i64 64))⟩])
    .ret)
    .skip))
  (.seq (.ops [⟨some 5, none, .mv (.tmp 0)⟩,
    ⟨some 6, none, .mv (.tmp 0)⟩,
    ⟨some 7, none, .un .neg (.tmp 6)⟩,
    ⟨some 8, none, .bin .and (.tmp 5) (.tmp 7)⟩,
    ⟨some 9, none, .bin .mul (.tmp 8) (.const (.int .u64 285870213051353865))⟩,
    ⟨some 10, none, .bin .shr (.tmp 9) (.const (.int .u64 58))⟩,
    ⟨some 11, none, .iaA 64 1 (.global 6) (.tmp 10)⟩,
    ⟨some 12, none, .ld (.int .u8) (.tmp 11)⟩,
    ⟨some 13, none, .cv .i64 (.tmp 12)⟩,
    ⟨some 2, none, .mv (.tmp 13)⟩])
  .ret)))⟩
theorem h119 : strF Tryd.prog [] Tryd.f119 = some c119 := by kernel_rfl

end Go.Proofs.YtcflokckfjkdpaaDoor.Code
