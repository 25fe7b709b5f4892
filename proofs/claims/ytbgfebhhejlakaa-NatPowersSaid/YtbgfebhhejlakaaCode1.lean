/- The functions as the engine has them: by program, out of the translation. -/
import Derived.Test.YtbgfebhhejlakaaEngE
import Derived.Test.YtbgfebhhejlakaaProg
set_option maxRecDepth 100000
namespace Go.Proofs.Ytbgfebhhejlakaa.Code
open Go Go.Proofs Go.Proofs.Ytbgfebhhejlakaa.Eng

/-- chirograph/chirographref01.product -/
def c65 : Fun := ⟨123, [.inl 6],
  (.seq (.ops [⟨some 6, none, .mv (.const (.slice none 0 0))⟩])
  (.seq (.ops [⟨some 16, none, .mv (.tmp 2)⟩,
    ⟨some 17, none, .len (.tmp 16)⟩,
    ⟨some 7, none, .mv (.tmp 17)⟩])
  (.seq (.ops [⟨some 18, none, .mv (.tmp 7)⟩,
    ⟨some 19, none, .bin .mul (.const (.int .i64 2)) (.tmp 18)⟩,
    ⟨some 20, none, .mks 50 1 8 #[(.int .u64 0)] (.tmp 19) (.tmp 19)⟩,
    ⟨some 8, none, .mv (.tmp 20)⟩])
  (.seq (.seq (.ops [⟨some 9, none, .mv (.const (.int .i64 0))⟩])
  (.block 0
    (.loop
      (.seq (.seq (.ops [⟨some 21, none, .mv (.tmp 9)⟩,
        ⟨some 22, none, .mv (.tmp 7)⟩,
        ⟨some 23, none, .bin .lss (.tmp 21) (.tmp 22)⟩])
      (.cond (.tmp 23)
        .skip
        (.exit 0)))
      (.seq (.block 1
        (.seq (.ops [⟨some 10, none, .mv (.const (.int .u64 0))⟩])
        (.seq (.seq (.ops [⟨some 11, none, .mv (.const (.int .i64 0))⟩])
        (.block 2
          (.loop
            (.seq (.seq (.ops [⟨some 26, none, .mv (.tmp 11)⟩,
              ⟨some 27, none, .mv (.tmp 7)⟩,
              ⟨some 28, none, .bin .lss (.tmp 26) (.tmp 27)⟩])
            (.cond (.tmp 28)
              .skip
              (.exit 2)))
            (.seq (.block 3
              (.seq (.draw 19 [⟨some 31, none, .mv (.tmp 0)⟩,
                ⟨some 32, none, .mv (.tmp 9)⟩,
                ⟨some 33, none, .ia 1 (.tmp 31) (.tmp 32)⟩,
                ⟨some 34, none, .ld (.int .u64) (.tmp 33)⟩,
                ⟨some 35, none, .mv (.tmp 1)⟩,
                ⟨some 36, none, .mv (.tmp 11)⟩,
                ⟨some 37, none, .ia 1 (.tmp 35) (.tmp 36)⟩,
                ⟨some 38, none, .ld (.int .u64) (.tmp 37)⟩,
                ⟨some 39, none, .bin .mul (.tmp 34) (.tmp 38)⟩,
                ⟨some 40, none, .mv (.tmp 8)⟩,
                ⟨some 41, none, .mv (.tmp 9)⟩,
                ⟨some 42, none, .mv (.tmp 11)⟩,
                ⟨some 43, none, .bin .add (.tmp 41) (.tmp 42)⟩,
                ⟨some 44, none, .ia 1 (.tmp 40) (.tmp 43)⟩,
                ⟨some 45, none, .ld (.int .u64) (.tmp 44)⟩,
                ⟨some 46, none, .bin .add (.tmp 39) (.tmp 45)⟩,
                ⟨some 47, none, .mv (.tmp 10)⟩,
                ⟨some 48, none, .bin .add (.tmp 46) (.tmp 47)⟩,
                ⟨some 12, none, .mv (.tmp 48)⟩])
              (.seq (.ops [⟨some 49, none, .mv (.tmp 8)⟩,
                ⟨some 50, none, .mv (.tmp 9)⟩,
                ⟨some 51, none, .mv (.tmp 11)⟩,
                ⟨some 52, none, .bin .add (.tmp 50) (.tmp 51)⟩,
                ⟨some 53, none, .mv (.tmp 12)⟩,
                ⟨some 54, none, .bin .and (.tmp 53) (.const (.int .u64 4294967295))⟩,
                ⟨some 55, none, .ia 1 (.tmp 49) (.tmp 52)⟩,
                ⟨none, none, .st 1 (.tmp 55) (.tmp 54)⟩])
              (.ops [⟨some 56, none, .mv (.tmp 12)⟩,
                ⟨some 57, none, .bin .shr (.tmp 56) (.const (.int .u64 32))⟩,
                ⟨some 10, none, .mv (.tmp 57)⟩]))))
            (.ops [⟨some 29, none, .mv (.tmp 11)⟩,
              ⟨some 30, none, .bin .add (.tmp 29) (.const (.int .i64 1))⟩,
              ⟨some 11, none, .mv (.tmp 30)⟩]))))))
        (.ops [⟨some 58, none, .mv (.tmp 8)⟩,
          ⟨some 59, none, .mv (.tmp 9)⟩,
          ⟨some 60, none, .mv (.tmp 7)⟩,
          ⟨some 61, none, .bin .add (.tmp 59) (.tmp 60)⟩,
          ⟨some 62, none, .mv (.tmp 10)⟩,
          ⟨some 63, none, .ia 1 (.tmp 58) (.tmp 61)⟩,
          ⟨none, none, .st 1 (.tmp 63) (.tmp 62)⟩]))))
      (.ops [⟨some 24, none, .mv (.tmp 9)⟩,
        ⟨some 25, none, .bin .add (.tmp 24) (.const (.int .i64 1))⟩,
        ⟨some 9, none, .mv (.tmp 25)⟩]))))))
  (.seq (.ops [⟨some 64, none, .mv (.tmp 7)⟩,
    ⟨some 65, none, .bin .add (.tmp 64) (.const (.int .i64 1))⟩,
    ⟨some 66, none, .mks 50 1 8 #[(.int .u64 0)] (.tmp 65) (.tmp 65)⟩,
    ⟨some 13, none, .mv (.tmp 66)⟩])
  (.seq (.seq (.ops [⟨some 67, none, .mv (.tmp 7)⟩,
    ⟨some 68, none, .bin .mul (.const (.int .i64 2)) (.tmp 67)⟩,
    ⟨some 69, none, .bin .sub (.tmp 68) (.const (.int .i64 1))⟩,
    ⟨some 14, none, .mv (.tmp 69)⟩])
  (.block 4
    (.loop
      (.seq (.seq (.ops [⟨some 70, none, .mv (.tmp 14)⟩,
        ⟨some 71, none, .bin .geq (.tmp 70) (.const (.int .i64 0))⟩])
      (.cond (.tmp 71)
        .skip
        (.exit 4)))
      (.seq (.block 5
        (.seq (.seq (.ops [⟨some 74, none, .mv (.tmp 7)⟩,
          ⟨some 15, none, .mv (.tmp 74)⟩])
        (.block 6
          (.loop
            (.seq (.seq (.ops [⟨some 75, none, .mv (.tmp 15)⟩,
              ⟨some 76, none, .bin .gtr (.tmp 75) (.const (.int .i64 0))⟩])
            (.cond (.tmp 76)
              .skip
              (.exit 6)))
            (.seq (.block 7
              (.ops [⟨some 79, none, .mv (.tmp 13)⟩,
                ⟨some 80, none, .mv (.tmp 15)⟩,
                ⟨some 81, none, .mv (.tmp 13)⟩,
                ⟨some 82, none, .mv (.tmp 15)⟩,
                ⟨some 83, none, .bin .sub (.tmp 82) (.const (.int .i64 1))⟩,
                ⟨some 84, none, .ia 1 (.tmp 81) (.tmp 83)⟩,
                ⟨some 85, none, .ld (.int .u64) (.tmp 84)⟩,
                ⟨some 86, none, .ia 1 (.tmp 79) (.tmp 80)⟩,
                ⟨none, none, .st 1 (.tmp 86) (.tmp 85)⟩]))
            (.ops [⟨some 77, none, .mv (.tmp 15)⟩,
              ⟨some 78, none, .bin .sub (.tmp 77) (.const (.int .i64 1))⟩,
              ⟨some 15, none, .mv (.tmp 78)⟩]))))))
        (.seq (.ops [⟨some 87, none, .mv (.tmp 13)⟩,
          ⟨some 88, none, .mv (.tmp 8)⟩,
          ⟨some 89, none, .mv (.tmp 14)⟩,
          ⟨some 90, none, .ia 1 (.tmp 88) (.tmp 89)⟩,
          ⟨some 91, none, .ld (.int .u64) (.tmp 90)⟩,
          ⟨some 92, none, .ia 1 (.tmp 87) (.const (.int .i64 0))⟩,
          ⟨none, none, .st 1 (.tmp 92) (.tmp 91)⟩])
        (.seq (.drawS [(0, 0), (0, 1), (0, 2), (0, 3), (0, 4), (0, 7), (0, 8), (0, 9), (0, 10), (0, 13), (0, 14), (0, 15), (0, 16), (1, 5), (0, 6), (1, 11), (0, 12), (1, 17), (0, 18), (0, 19), (2, 20)]
          [⟨some 93, none, .mv (.tmp 13)⟩,
          ⟨some 94, none, .mv (.tmp 2)⟩,
          ⟨some 95, none, .mv (.tmp 13)⟩,
          ⟨some 96, none, .mv (.tmp 7)⟩,
          ⟨some 97, none, .ia 1 (.tmp 95) (.tmp 96)⟩,
          ⟨some 98, none, .ld (.int .u64) (.tmp 97)⟩,
          ⟨some 99, none, .bin .shl (.tmp 98) (.const (.int .u64 32))⟩,
          ⟨some 100, none, .mv (.tmp 13)⟩,
          ⟨some 101, none, .mv (.tmp 7)⟩,
          ⟨some 102, none, .bin .sub (.tmp 101) (.const (.int .i64 1))⟩,
          ⟨some 103, none, .ia 1 (.tmp 100) (.tmp 102)⟩,
          ⟨some 104, none, .ld (.int .u64) (.tmp 103)⟩,
          ⟨some 105, none, .bin .or (.tmp 99) (.tmp 104)⟩,
          ⟨some 106, none, .mv (.tmp 2)⟩,
          ⟨some 107, none, .mv (.tmp 7)⟩,
          ⟨some 108, none, .bin .sub (.tmp 107) (.const (.int .i64 1))⟩,
          ⟨some 109, none, .ia 1 (.tmp 106) (.tmp 108)⟩,
          ⟨some 110, none, .ld (.int .u64) (.tmp 109)⟩,
          ⟨some 111, none, .bin .add (.tmp 110) (.const (.int .u64 1))⟩,
          ⟨some 112, none, .bin .quo (.tmp 105) (.tmp 111)⟩,
          ⟨some 113, none, .call 75 [(.tmp 93), (.tmp 94), (.tmp 112)]⟩])
        (.block 8
          (.loop
            (.seq (.seq (.ops [⟨some 114, none, .mv (.tmp 13)⟩,
              ⟨some 115, none, .mv (.tmp 2)⟩,
              ⟨some 116, none, .call 76 [(.tmp 114), (.tmp 115)]⟩])
            (.cond (.tmp 116)
              .skip
              (.exit 8)))
            (.block 9
              (.ops [⟨some 117, none, .mv (.tmp 13)⟩,
                ⟨some 118, none, .mv (.tmp 2)⟩,
                ⟨some 119, none, .call 75 [(.tmp 117), (.tmp 118), (.const (.int .u64 1))]⟩])))))))))
      (.ops [⟨some 72, none, .mv (.tmp 14)⟩,
        ⟨some 73, none, .bin .sub (.tmp 72) (.const (.int .i64 1))⟩,
        ⟨some 14, none, .mv (.tmp 73)⟩]))))))
  (.seq (.ops [⟨some 120, none, .mv (.tmp 13)⟩,
    ⟨some 121, none, .mv (.tmp 7)⟩,
    ⟨some 122, none, .slc 1 (.tmp 120) none (some (.tmp 121)) none⟩,
    ⟨some 6, none, .mv (.tmp 122)⟩])
  .ret)))))))⟩
theorem h65 : strF Try.prog [(23, [(0, 0), (0, 1), (0, 2), (0, 3), (0, 4), (0, 7), (0, 8), (0, 9), (0, 10), (0, 13), (0, 14), (0, 15), (0, 16), (1, 5), (0, 6), (1, 11), (0, 12), (1, 17), (0, 18), (0, 19), (2, 20)])] Try.f65 = some c65 := by kernel_rfl

/-- chirograph/chirographref01.digit -/
def c66 : Fun := ⟨17, [.inl 4],
  (.seq (.ops [⟨some 4, none, .mv (.const (.int .u64 0))⟩])
  (.seq (.seq (.ops [⟨some 5, none, .mv (.tmp 1)⟩,
    ⟨some 6, none, .bin .geq (.tmp 5) (.const (.int .i64 0))⟩,
    ⟨some 7, none, .mv (.tmp 6)⟩,
    ⟨some 8, some (7, true), .mv (.tmp 1)⟩,
    ⟨some 9, some (7, true), .mv (.tmp 0)⟩,
    ⟨some 10, some (7, true), .len (.tmp 9)⟩,
    ⟨some 11, some (7, true), .bin .lss (.tmp 8) (.tmp 10)⟩,
    ⟨some 12, none, .pick (.tmp 7) (.tmp 11) (.const (.bool false))⟩])
  (.cond (.tmp 12)
    (.seq (.ops [⟨some 13, none, .mv (.tmp 0)⟩,
      ⟨some 14, none, .mv (.tmp 1)⟩,
      ⟨some 15, none, .ia 1 (.tmp 13) (.tmp 14)⟩,
      ⟨some 16, none, .ld (.int .u64) (.tmp 15)⟩,
      ⟨some 4, none, .mv (.tmp 16)⟩])
    .ret)
    .skip))
  (.seq (.ops [⟨some 4, none, .mv (.const (.int .u64 0))⟩])
  .ret)))⟩
theorem h66 : strF Try.prog [] Try.f66 = some c66 := by kernel_rfl

/-- math/bits.Add32 -/
def c67 : Fun := ⟨22, [.inl 6, .inl 7],
  (.seq (.ops [⟨some 6, none, .mv (.const (.int .u32 0))⟩,
    ⟨some 7, none, .mv (.const (.int .u32 0))⟩])
  (.seq (.ops [⟨some 9, none, .mv (.tmp 0)⟩,
    ⟨some 10, none, .cv .u64 (.tmp 9)⟩,
    ⟨some 11, none, .mv (.tmp 1)⟩,
    ⟨some 12, none, .cv .u64 (.tmp 11)⟩,
    ⟨some 13, none, .bin .add (.tmp 10) (.tmp 12)⟩,
    ⟨some 14, none, .mv (.tmp 2)⟩,
    ⟨some 15, none, .cv .u64 (.tmp 14)⟩,
    ⟨some 16, none, .bin .add (.tmp 13) (.tmp 15)⟩,
    ⟨some 8, none, .mv (.tmp 16)⟩])
  (.seq (.ops [⟨some 17, none, .mv (.tmp 8)⟩,
    ⟨some 18, none, .cv .u32 (.tmp 17)⟩,
    ⟨some 6, none, .mv (.tmp 18)⟩])
  (.seq (.ops [⟨some 19, none, .mv (.tmp 8)⟩,
    ⟨some 20, none, .bin .shr (.tmp 19) (.const (.int .u64 32))⟩,
    ⟨some 21, none, .cv .u32 (.tmp 20)⟩,
    ⟨some 7, none, .mv (.tmp 21)⟩])
  .ret))))⟩
theorem h67 : strF Try.prog [] Try.f67 = some c67 := by kernel_rfl

/-- chirograph/chirographref01.plain -/
def c68 : Fun := ⟨21, [.inl 2],
  (.seq (.ops [⟨some 2, none, .mv (.const (.slice none 0 0))⟩])
  (.seq (.ops [⟨some 4, none, .mv (.tmp 0)⟩,
    ⟨some 5, none, .len (.tmp 4)⟩,
    ⟨some 3, none, .mv (.tmp 5)⟩])
  (.seq (.block 0
    (.loop
      (.seq (.seq (.ops [⟨some 6, none, .mv (.tmp 3)⟩,
        ⟨some 7, none, .bin .gtr (.tmp 6) (.const (.int .i64 0))⟩,
        ⟨some 8, none, .mv (.tmp 7)⟩,
        ⟨some 9, some (8, true), .mv (.tmp 0)⟩,
        ⟨some 10, some (8, true), .mv (.tmp 3)⟩,
        ⟨some 11, some (8, true), .bin .sub (.tmp 10) (.const (.int .i64 1))⟩,
        ⟨some 12, some (8, true), .ia 1 (.tmp 9) (.tmp 11)⟩,
        ⟨some 13, some (8, true), .ld (.int .u64) (.tmp 12)⟩,
        ⟨some 14, some (8, true), .bin .eql (.tmp 13) (.const (.int .u64 0))⟩,
        ⟨some 15, none, .pick (.tmp 8) (.tmp 14) (.const (.bool false))⟩])
      (.cond (.tmp 15)
        .skip
        (.exit 0)))
      (.block 1
        (.ops [⟨some 16, none, .mv (.tmp 3)⟩,
          ⟨some 17, none, .bin .sub (.tmp 16) (.const (.int .i64 1))⟩,
          ⟨some 3, none, .mv (.tmp 17)⟩])))))
  (.seq (.ops [⟨some 18, none, .mv (.tmp 0)⟩,
    ⟨some 19, none, .mv (.tmp 3)⟩,
    ⟨some 20, none, .slc 1 (.tmp 18) none (some (.tmp 19)) none⟩,
    ⟨some 2, none, .mv (.tmp 20)⟩])
  .ret))))⟩
theorem h68 : strF Try.prog [] Try.f68 = some c68 := by kernel_rfl

/-- math/bits.Sub32 -/
def c69 : Fun := ⟨25, [.inl 6, .inl 7],
  (.seq (.ops [⟨some 6, none, .mv (.const (.int .u32 0))⟩,
    ⟨some 7, none, .mv (.const (.int .u32 0))⟩])
  (.seq (.ops [⟨some 8, none, .mv (.tmp 0)⟩,
    ⟨some 9, none, .mv (.tmp 1)⟩,
    ⟨some 10, none, .bin .sub (.tmp 8) (.tmp 9)⟩,
    ⟨some 11, none, .mv (.tmp 2)⟩,
    ⟨some 12, none, .bin .sub (.tmp 10) (.tmp 11)⟩,
    ⟨some 6, none, .mv (.tmp 12)⟩])
  (.seq (.ops [⟨some 13, none, .mv (.tmp 0)⟩,
    ⟨some 14, none, .un .xor (.tmp 13)⟩,
    ⟨some 15, none, .mv (.tmp 1)⟩,
    ⟨some 16, none, .bin .and (.tmp 14) (.tmp 15)⟩,
    ⟨some 17, none, .mv (.tmp 0)⟩,
    ⟨some 18, none, .mv (.tmp 1)⟩,
    ⟨some 19, none, .bin .xor (.tmp 17) (.tmp 18)⟩,
    ⟨some 20, none, .un .xor (.tmp 19)⟩,
    ⟨some 21, none, .mv (.tmp 6)⟩,
    ⟨some 22, none, .bin .and (.tmp 20) (.tmp 21)⟩,
    ⟨some 23, none, .bin .or (.tmp 16) (.tmp 22)⟩,
    ⟨some 24, none, .bin .shr (.tmp 23) (.const (.int .u64 31))⟩,
    ⟨some 7, none, .mv (.tmp 24)⟩])
  .ret)))⟩
theorem h69 : strF Try.prog [] Try.f69 = some c69 := by kernel_rfl

/-- chirograph/nat.short -/
def c70 : Fun := ⟨36, [.inl 4, .inl 5],
  (.seq (.ops [⟨some 4, none, .mv (.const (.slice none 0 0))⟩,
    ⟨some 5, none, .mv (.const (.slice none 0 0))⟩])
  (.seq (.ops [⟨some 8, none, .mv (.tmp 0)⟩,
    ⟨some 9, none, .len (.tmp 8)⟩,
    ⟨some 10, none, .mks 42 1 4 #[(.int .u32 0)] (.tmp 9) (.tmp 9)⟩,
    ⟨some 4, none, .mv (.tmp 10)⟩])
  (.seq (.ops [⟨some 6, none, .mv (.const (.int .u32 0))⟩])
  (.seq (.seq (.ops [⟨some 11, none, .mv (.tmp 0)⟩,
    ⟨some 12, none, .len (.tmp 11)⟩,
    ⟨some 13, none, .bin .sub (.tmp 12) (.const (.int .i64 1))⟩,
    ⟨some 7, none, .mv (.tmp 13)⟩])
  (.block 0
    (.loop
      (.seq (.seq (.ops [⟨some 14, none, .mv (.tmp 7)⟩,
        ⟨some 15, none, .bin .geq (.tmp 14) (.const (.int .i64 0))⟩])
      (.cond (.tmp 15)
        .skip
        (.exit 0)))
      (.seq (.block 1
        (.ops [⟨some 19, none, .mv (.tmp 4)⟩,
          ⟨some 20, none, .mv (.tmp 7)⟩,
          ⟨some 21, none, .mv (.tmp 6)⟩,
          ⟨some 22, none, .mv (.tmp 0)⟩,
          ⟨some 23, none, .mv (.tmp 7)⟩,
          ⟨some 24, none, .ia 1 (.tmp 22) (.tmp 23)⟩,
          ⟨some 25, none, .ld (.int .u32) (.tmp 24)⟩,
          ⟨some 26, none, .mv (.tmp 1)⟩,
          ⟨some 27, none, .call 77 [(.tmp 21), (.tmp 25), (.tmp 26)]⟩,
          ⟨some 18, none, .mv (.tmp 27)⟩,
          ⟨some 28, none, .ext (.tmp 18) 0⟩,
          ⟨some 29, none, .ext (.tmp 18) 1⟩,
          ⟨some 30, none, .ia 1 (.tmp 19) (.tmp 20)⟩,
          ⟨none, none, .st 1 (.tmp 30) (.tmp 28)⟩,
          ⟨some 6, none, .mv (.tmp 29)⟩]))
      (.ops [⟨some 16, none, .mv (.tmp 7)⟩,
        ⟨some 17, none, .bin .sub (.tmp 16) (.const (.int .i64 1))⟩,
        ⟨some 7, none, .mv (.tmp 17)⟩]))))))
  (.seq (.ops [⟨some 31, none, .mv (.tmp 4)⟩,
    ⟨some 32, none, .call 55 [(.tmp 31)]⟩,
    ⟨some 33, none, .mv (.tmp 6)⟩,
    ⟨some 34, none, .bsl 42 1 1 #[(.int .u32 0)] [(0, (.tmp 33))]⟩,
    ⟨some 35, none, .call 55 [(.tmp 34)]⟩,
    ⟨some 4, none, .mv (.tmp 32)⟩,
    ⟨some 5, none, .mv (.tmp 35)⟩])
  .ret)))))⟩
theorem h70 : strF Try.prog [] Try.f70 = some c70 := by kernel_rfl

/-- math/bits.LeadingZeros32 -/
def c71 : Fun := ⟨6, [.inl 2],
  (.seq (.ops [⟨some 2, none, .mv (.const (.int .i64 0))⟩])
  (.seq (.ops [⟨some 3, none, .mv (.tmp 0)⟩,
    ⟨some 4, none, .call 57 [(.tmp 3)]⟩,
    ⟨some 5, none, .bin .sub (.const (.int .i64 32)) (.tmp 4)⟩,
    ⟨some 2, none, .mv (.tmp 5)⟩])
  .ret))⟩
theorem h71 : strF Try.prog [] Try.f71 = some c71 := by kernel_rfl

/-- chirograph/nat.shifted -/
def c72 : Fun := ⟨41, [.inl 4],
  (.seq (.ops [⟨some 4, none, .mv (.const (.slice none 0 0))⟩])
  (.seq (.ops [⟨some 8, none, .mv (.tmp 0)⟩,
    ⟨some 9, none, .len (.tmp 8)⟩,
    ⟨some 10, none, .bin .add (.tmp 9) (.const (.int .i64 1))⟩,
    ⟨some 11, none, .mks 42 1 4 #[(.int .u32 0)] (.tmp 10) (.tmp 10)⟩,
    ⟨some 5, none, .mv (.tmp 11)⟩])
  (.seq (.seq (.ops [⟨some 12, none, .mv (.tmp 0)⟩,
    ⟨some 13, none, .len (.tmp 12)⟩,
    ⟨some 14, none, .mv (.const (.int .i64 0))⟩])
  (.block 0
    (.loop
      (.seq (.ops [⟨some 15, none, .bin .lss (.tmp 14) (.tmp 13)⟩])
      (.seq (.cond (.tmp 15)
        .skip
        (.exit 0))
      (.seq (.block 1
        (.seq (.ops [⟨some 16, none, .mv (.tmp 14)⟩,
          ⟨some 6, none, .mv (.tmp 16)⟩])
        (.seq (.ops [⟨some 17, none, .mv (.tmp 0)⟩,
          ⟨some 18, none, .mv (.tmp 6)⟩,
          ⟨some 19, none, .ia 1 (.tmp 17) (.tmp 18)⟩,
          ⟨some 20, none, .ld (.int .u32) (.tmp 19)⟩,
          ⟨some 21, none, .cv .u64 (.tmp 20)⟩,
          ⟨some 22, none, .mv (.tmp 1)⟩,
          ⟨some 23, none, .bin .shl (.tmp 21) (.tmp 22)⟩,
          ⟨some 7, none, .mv (.tmp 23)⟩])
        (.seq (.ops [⟨some 24, none, .mv (.tmp 5)⟩,
          ⟨some 25, none, .mv (.tmp 6)⟩,
          ⟨some 26, none, .ia 1 (.tmp 24) (.tmp 25)⟩,
          ⟨some 27, none, .ld (.int .u32) (.tmp 26)⟩,
          ⟨some 28, none, .mv (.tmp 7)⟩,
          ⟨some 29, none, .cv .u32 (.tmp 28)⟩,
          ⟨some 30, none, .bin .or (.tmp 27) (.tmp 29)⟩,
          ⟨some 31, none, .ia 1 (.tmp 24) (.tmp 25)⟩,
          ⟨none, none, .st 1 (.tmp 31) (.tmp 30)⟩])
        (.ops [⟨some 32, none, .mv (.tmp 5)⟩,
          ⟨some 33, none, .mv (.tmp 6)⟩,
          ⟨some 34, none, .bin .add (.tmp 33) (.const (.int .i64 1))⟩,
          ⟨some 35, none, .mv (.tmp 7)⟩,
          ⟨some 36, none, .bin .shr (.tmp 35) (.const (.int .u64 32))⟩,
          ⟨some 37, none, .cv .u32 (.tmp 36)⟩,
          ⟨some 38, none, .ia 1 (.tmp 32) (.tmp 34)⟩,
          ⟨none, none, .st 1 (.tmp 38) (.tmp 37)⟩])))))
      (.ops [⟨some 39, none, .bin .add (.tmp 14) (.const (.int .i64 1))⟩,
        ⟨some 14, none, .mv (.tmp 39)⟩])))))))
  (.seq (.ops [⟨some 40, none, .mv (.tmp 5)⟩,
    ⟨some 4, none, .mv (.tmp 40)⟩])
  .ret))))⟩
theorem h72 : strF Try.prog [] Try.f72 = some c72 := by kernel_rfl

/-- chirograph/nat.guess -/
def c73 : Fun := ⟨63, [.inl 6],
  (.seq (.ops [⟨some 6, none, .mv (.const (.int .u32 0))⟩])
  (.seq (.ops [⟨some 11, none, .mv (.tmp 0)⟩,
    ⟨some 12, none, .len (.tmp 11)⟩,
    ⟨some 7, none, .mv (.tmp 12)⟩])
  (.seq (.draw 15 [⟨some 13, none, .mv (.tmp 0)⟩,
    ⟨some 14, none, .mv (.tmp 7)⟩,
    ⟨some 15, none, .bin .sub (.tmp 14) (.const (.int .i64 1))⟩,
    ⟨some 16, none, .ia 1 (.tmp 13) (.tmp 15)⟩,
    ⟨some 17, none, .ld (.int .u32) (.tmp 16)⟩,
    ⟨some 18, none, .cv .u64 (.tmp 17)⟩,
    ⟨some 19, none, .bin .shl (.tmp 18) (.const (.int .u64 32))⟩,
    ⟨some 20, none, .mv (.tmp 0)⟩,
    ⟨some 21, none, .mv (.tmp 7)⟩,
    ⟨some 22, none, .bin .sub (.tmp 21) (.const (.int .i64 2))⟩,
    ⟨some 23, none, .ia 1 (.tmp 20) (.tmp 22)⟩,
    ⟨some 24, none, .ld (.int .u32) (.tmp 23)⟩,
    ⟨some 25, none, .cv .u64 (.tmp 24)⟩,
    ⟨some 26, none, .bin .or (.tmp 19) (.tmp 25)⟩,
    ⟨some 8, none, .mv (.tmp 26)⟩])
  (.seq (.ops [⟨some 27, none, .mv (.tmp 8)⟩,
    ⟨some 28, none, .mv (.tmp 1)⟩,
    ⟨some 29, none, .cv .u64 (.tmp 28)⟩,
    ⟨some 30, none, .bin .quo (.tmp 27) (.tmp 29)⟩,
    ⟨some 9, none, .mv (.tmp 30)⟩])
  (.seq (.ops [⟨some 31, none, .mv (.tmp 8)⟩,
    ⟨some 32, none, .mv (.tmp 1)⟩,
    ⟨some 33, none, .cv .u64 (.tmp 32)⟩,
    ⟨some 34, none, .bin .rem (.tmp 31) (.tmp 33)⟩,
    ⟨some 10, none, .mv (.tmp 34)⟩])
  (.join (.block 0
    (.loop
      (.seq (.seq (.ops [⟨some 35, none, .mv (.tmp 9)⟩,
        ⟨some 36, none, .bin .geq (.tmp 35) (.const (.int .u64 4294967296))⟩,
        ⟨some 37, none, .mv (.tmp 36)⟩,
        ⟨some 38, some (37, false), .mv (.tmp 9)⟩,
        ⟨some 39, some (37, false), .mv (.tmp 2)⟩,
        ⟨some 40, some (37, false), .cv .u64 (.tmp 39)⟩,
        ⟨some 41, some (37, false), .bin .mul (.tmp 38) (.tmp 40)⟩,
        ⟨some 42, some (37, false), .mv (.tmp 10)⟩,
        ⟨some 43, some (37, false), .bin .shl (.tmp 42) (.const (.int .u64 32))⟩,
        ⟨some 44, some (37, false), .mv (.tmp 0)⟩,
        ⟨some 45, some (37, false), .mv (.tmp 7)⟩,
        ⟨some 46, some (37, false), .bin .sub (.tmp 45) (.const (.int .i64 3))⟩,
        ⟨some 47, some (37, false), .ia 1 (.tmp 44) (.tmp 46)⟩,
        ⟨some 48, some (37, false), .ld (.int .u32) (.tmp 47)⟩,
        ⟨some 49, some (37, false), .cv .u64 (.tmp 48)⟩,
        ⟨some 50, some (37, false), .bin .or (.tmp 43) (.tmp 49)⟩,
        ⟨some 51, some (37, false), .bin .gtr (.tmp 41) (.tmp 50)⟩,
        ⟨some 52, none, .pick (.tmp 37) (.const (.bool true)) (.tmp 51)⟩])
      (.cond (.tmp 52)
        .skip
        (.exit 0)))
      (.block 1
        (.seq (.ops [⟨some 53, none, .mv (.tmp 9)⟩,
          ⟨some 54, none, .bin .sub (.tmp 53) (.const (.int .u64 1))⟩,
          ⟨some 9, none, .mv (.tmp 54)⟩])
        (.seq (.ops [⟨some 55, none, .mv (.tmp 10)⟩,
          ⟨some 56, none, .mv (.tmp 1)⟩,
          ⟨some 57, none, .cv .u64 (.tmp 56)⟩,
          ⟨some 58, none, .bin .add (.tmp 55) (.tmp 57)⟩,
          ⟨some 10, none, .mv (.tmp 58)⟩])
        (.seq (.ops [⟨some 59, none, .mv (.tmp 10)⟩,
          ⟨some 60, none, .bin .geq (.tmp 59) (.const (.int .u64 4294967296))⟩])
        (.cond (.tmp 60)
          (.exit 0)
          .skip))))))))
  (.seq (.ops [⟨some 61, none, .mv (.tmp 9)⟩,
    ⟨some 62, none, .cv .u32 (.tmp 61)⟩,
    ⟨some 6, none, .mv (.tmp 62)⟩])
  .ret)))))))⟩
theorem h73 : strF Try.prog [] Try.f73 = some c73 := by kernel_rfl

/-- chirograph/nat.takes -/
def c74 : Fun := ⟨93, [.inl 6],
  (.seq (.ops [⟨some 6, none, .mv (.const (.bool false))⟩])
  (.seq (.ops [⟨some 7, none, .mv (.const (.int .u64 0))⟩,
    ⟨some 8, none, .mv (.const (.int .u32 0))⟩])
  (.seq (.seq (.ops [⟨some 13, none, .mv (.tmp 1)⟩,
    ⟨some 14, none, .len (.tmp 13)⟩,
    ⟨some 15, none, .mv (.const (.int .i64 0))⟩])
  (.block 0
    (.loop
      (.seq (.ops [⟨some 16, none, .bin .lss (.tmp 15) (.tmp 14)⟩])
      (.seq (.cond (.tmp 16)
        .skip
        (.exit 0))
      (.seq (.block 1
        (.seq (.ops [⟨some 17, none, .mv (.tmp 15)⟩,
          ⟨some 9, none, .mv (.tmp 17)⟩])
        (.seq (.ops [⟨some 18, none, .mv (.tmp 2)⟩,
          ⟨some 19, none, .cv .u64 (.tmp 18)⟩,
          ⟨some 20, none, .mv (.tmp 1)⟩,
          ⟨some 21, none, .mv (.tmp 9)⟩,
          ⟨some 22, none, .ia 1 (.tmp 20) (.tmp 21)⟩,
          ⟨some 23, none, .ld (.int .u32) (.tmp 22)⟩,
          ⟨some 24, none, .cv .u64 (.tmp 23)⟩,
          ⟨some 25, none, .bin .mul (.tmp 19) (.tmp 24)⟩,
          ⟨some 26, none, .mv (.tmp 7)⟩,
          ⟨some 27, none, .bin .add (.tmp 25) (.tmp 26)⟩,
          ⟨some 10, none, .mv (.tmp 27)⟩])
        (.seq (.ops [⟨some 28, none, .mv (.tmp 10)⟩,
          ⟨some 29, none, .bin .shr (.tmp 28) (.const (.int .u64 32))⟩,
          ⟨some 7, none, .mv (.tmp 29)⟩])
        (.ops [⟨some 31, none, .mv (.tmp 0)⟩,
          ⟨some 32, none, .mv (.tmp 9)⟩,
          ⟨some 33, none, .mv (.tmp 0)⟩,
          ⟨some 34, none, .mv (.tmp 9)⟩,
          ⟨some 35, none, .ia 1 (.tmp 33) (.tmp 34)⟩,
          ⟨some 36, none, .ld (.int .u32) (.tmp 35)⟩,
          ⟨some 37, none, .mv (.tmp 10)⟩,
          ⟨some 38, none, .cv .u32 (.tmp 37)⟩,
          ⟨some 39, none, .mv (.tmp 8)⟩,
          ⟨some 40, none, .call 69 [(.tmp 36), (.tmp 38), (.tmp 39)]⟩,
          ⟨some 30, none, .mv (.tmp 40)⟩,
          ⟨some 41, none, .ext (.tmp 30) 0⟩,
          ⟨some 42, none, .ext (.tmp 30) 1⟩,
          ⟨some 43, none, .ia 1 (.tmp 31) (.tmp 32)⟩,
          ⟨none, none, .st 1 (.tmp 43) (.tmp 41)⟩,
          ⟨some 8, none, .mv (.tmp 42)⟩])))))
      (.ops [⟨some 44, none, .bin .add (.tmp 15) (.const (.int .i64 1))⟩,
        ⟨some 15, none, .mv (.tmp 44)⟩])))))))
  (.seq (.ops [⟨some 46, none, .mv (.tmp 0)⟩,
    ⟨some 47, none, .mv (.tmp 1)⟩,
    ⟨some 48, none, .len (.tmp 47)⟩,
    ⟨some 49, none, .mv (.tmp 0)⟩,
    ⟨some 50, none, .mv (.tmp 1)⟩,
    ⟨some 51, none, .len (.tmp 50)⟩,
    ⟨some 52, none, .ia 1 (.tmp 49) (.tmp 51)⟩,
    ⟨some 53, none, .ld (.int .u32) (.tmp 52)⟩,
    ⟨some 54, none, .mv (.tmp 7)⟩,
    ⟨some 55, none, .cv .u32 (.tmp 54)⟩,
    ⟨some 56, none, .mv (.tmp 8)⟩,
    ⟨some 57, none, .call 69 [(.tmp 53), (.tmp 55), (.tmp 56)]⟩,
    ⟨some 45, none, .mv (.tmp 57)⟩,
    ⟨some 58, none, .ext (.tmp 45) 0⟩,
    ⟨some 59, none, .ext (.tmp 45) 1⟩,
    ⟨some 60, none, .ia 1 (.tmp 46) (.tmp 48)⟩,
    ⟨none, none, .st 1 (.tmp 60) (.tmp 58)⟩,
    ⟨some 8, none, .mv (.tmp 59)⟩])
  (.seq (.seq (.ops [⟨some 61, none, .mv (.tmp 8)⟩,
    ⟨some 62, none, .bin .eql (.tmp 61) (.const (.int .u32 0))⟩])
  (.cond (.tmp 62)
    (.seq (.ops [⟨some 6, none, .mv (.const (.bool true))⟩])
    .ret)
    .skip))
  (.seq (.ops [⟨some 11, none, .mv (.const (.int .u32 0))⟩])
  (.seq (.seq (.ops [⟨some 63, none, .mv (.tmp 1)⟩,
    ⟨some 64, none, .len (.tmp 63)⟩,
    ⟨some 65, none, .mv (.const (.int .i64 0))⟩])
  (.block 2
    (.loop
      (.seq (.ops [⟨some 66, none, .bin .lss (.tmp 65) (.tmp 64)⟩])
      (.seq (.cond (.tmp 66)
        .skip
        (.exit 2))
      (.seq (.block 3
        (.seq (.ops [⟨some 67, none, .mv (.tmp 65)⟩,
          ⟨some 12, none, .mv (.tmp 67)⟩])
        (.drawS [(0, 0), (0, 1), (0, 2), (0, 3), (0, 4), (0, 6), (0, 7), (0, 8), (0, 10), (1, 5), (1, 9), (2, 11), (0, 12), (0, 13), (0, 14), (0, 15), (2, 16), (0, 17)]
          [⟨some 69, none, .mv (.tmp 0)⟩,
          ⟨some 70, none, .mv (.tmp 12)⟩,
          ⟨some 71, none, .mv (.tmp 0)⟩,
          ⟨some 72, none, .mv (.tmp 12)⟩,
          ⟨some 73, none, .ia 1 (.tmp 71) (.tmp 72)⟩,
          ⟨some 74, none, .ld (.int .u32) (.tmp 73)⟩,
          ⟨some 75, none, .mv (.tmp 1)⟩,
          ⟨some 76, none, .mv (.tmp 12)⟩,
          ⟨some 77, none, .ia 1 (.tmp 75) (.tmp 76)⟩,
          ⟨some 78, none, .ld (.int .u32) (.tmp 77)⟩,
          ⟨some 79, none, .mv (.tmp 11)⟩,
          ⟨some 80, none, .call 67 [(.tmp 74), (.tmp 78), (.tmp 79)]⟩,
          ⟨some 68, none, .mv (.tmp 80)⟩,
          ⟨some 81, none, .ext (.tmp 68) 0⟩,
          ⟨some 82, none, .ext (.tmp 68) 1⟩,
          ⟨some 83, none, .ia 1 (.tmp 69) (.tmp 70)⟩,
          ⟨none, none, .st 1 (.tmp 83) (.tmp 81)⟩,
          ⟨some 11, none, .mv (.tmp 82)⟩])))
      (.ops [⟨some 84, none, .bin .add (.tmp 65) (.const (.int .i64 1))⟩,
        ⟨some 65, none, .mv (.tmp 84)⟩])))))))
  (.seq (.ops [⟨some 85, none, .mv (.tmp 0)⟩,
    ⟨some 86, none, .mv (.tmp 1)⟩,
    ⟨some 87, none, .len (.tmp 86)⟩,
    ⟨some 88, none, .ia 1 (.tmp 85) (.tmp 87)⟩,
    ⟨some 89, none, .ld (.int .u32) (.tmp 88)⟩,
    ⟨some 90, none, .mv (.tmp 11)⟩,
    ⟨some 91, none, .bin .add (.tmp 89) (.tmp 90)⟩,
    ⟨some 92, none, .ia 1 (.tmp 85) (.tmp 87)⟩,
    ⟨none, none, .st 1 (.tmp 92) (.tmp 91)⟩])
  (.seq (.ops [⟨some 6, none, .mv (.const (.bool false))⟩])
  .ret)))))))))⟩
theorem h74 : strF Try.prog [(16, [(0, 0), (0, 1), (0, 2), (0, 3), (0, 4), (0, 6), (0, 7), (0, 8), (0, 10), (1, 5), (1, 9), (2, 11), (0, 12), (0, 13), (0, 14), (0, 15), (2, 16), (0, 17)])] Try.f74 = some c74 := by kernel_rfl

/-- chirograph/chirographref01.take -/
def c75 : Fun := ⟨63, [],
  (.seq (.ops [⟨some 6, none, .mv (.const (.int .u64 0))⟩])
  (.seq (.seq (.ops [⟨some 7, none, .mv (.const (.int .i64 0))⟩])
  (.block 0
    (.loop
      (.seq (.seq (.ops [⟨some 9, none, .mv (.tmp 7)⟩,
        ⟨some 10, none, .mv (.tmp 1)⟩,
        ⟨some 11, none, .len (.tmp 10)⟩,
        ⟨some 12, none, .bin .lss (.tmp 9) (.tmp 11)⟩])
      (.cond (.tmp 12)
        .skip
        (.exit 0)))
      (.seq (.block 1
        (.seq (.ops [⟨some 15, none, .mv (.tmp 2)⟩,
          ⟨some 16, none, .mv (.tmp 1)⟩,
          ⟨some 17, none, .mv (.tmp 7)⟩,
          ⟨some 18, none, .ia 1 (.tmp 16) (.tmp 17)⟩,
          ⟨some 19, none, .ld (.int .u64) (.tmp 18)⟩,
          ⟨some 20, none, .bin .mul (.tmp 15) (.tmp 19)⟩,
          ⟨some 21, none, .mv (.tmp 6)⟩,
          ⟨some 22, none, .bin .add (.tmp 20) (.tmp 21)⟩,
          ⟨some 8, none, .mv (.tmp 22)⟩])
        (.seq (.ops [⟨some 23, none, .mv (.tmp 8)⟩,
          ⟨some 24, none, .bin .shr (.tmp 23) (.const (.int .u64 32))⟩,
          ⟨some 6, none, .mv (.tmp 24)⟩])
        (.seq (.ops [⟨some 25, none, .mv (.tmp 8)⟩,
          ⟨some 26, none, .bin .and (.tmp 25) (.const (.int .u64 4294967295))⟩,
          ⟨some 8, none, .mv (.tmp 26)⟩])
        (.join (.seq (.ops [⟨some 27, none, .mv (.tmp 0)⟩,
          ⟨some 28, none, .mv (.tmp 7)⟩,
          ⟨some 29, none, .ia 1 (.tmp 27) (.tmp 28)⟩,
          ⟨some 30, none, .ld (.int .u64) (.tmp 29)⟩,
          ⟨some 31, none, .mv (.tmp 8)⟩,
          ⟨some 32, none, .bin .lss (.tmp 30) (.tmp 31)⟩])
        (.cond (.tmp 32)
          (.seq (.ops [⟨some 33, none, .mv (.tmp 0)⟩,
            ⟨some 34, none, .mv (.tmp 7)⟩,
            ⟨some 35, none, .mv (.tmp 0)⟩,
            ⟨some 36, none, .mv (.tmp 7)⟩,
            ⟨some 37, none, .ia 1 (.tmp 35) (.tmp 36)⟩,
            ⟨some 38, none, .ld (.int .u64) (.tmp 37)⟩,
            ⟨some 39, none, .bin .add (.tmp 38) (.const (.int .u64 4294967296))⟩,
            ⟨some 40, none, .ia 1 (.tmp 33) (.tmp 34)⟩,
            ⟨none, none, .st 1 (.tmp 40) (.tmp 39)⟩])
          (.ops [⟨some 41, none, .mv (.tmp 6)⟩,
            ⟨some 42, none, .bin .add (.tmp 41) (.const (.int .u64 1))⟩,
            ⟨some 6, none, .mv (.tmp 42)⟩]))
          .skip))
        (.ops [⟨some 43, none, .mv (.tmp 0)⟩,
          ⟨some 44, none, .mv (.tmp 7)⟩,
          ⟨some 45, none, .mv (.tmp 0)⟩,
          ⟨some 46, none, .mv (.tmp 7)⟩,
          ⟨some 47, none, .ia 1 (.tmp 45) (.tmp 46)⟩,
          ⟨some 48, none, .ld (.int .u64) (.tmp 47)⟩,
          ⟨some 49, none, .mv (.tmp 8)⟩,
          ⟨some 50, none, .bin .sub (.tmp 48) (.tmp 49)⟩,
          ⟨some 51, none, .ia 1 (.tmp 43) (.tmp 44)⟩,
          ⟨none, none, .st 1 (.tmp 51) (.tmp 50)⟩]))))))
      (.ops [⟨some 13, none, .mv (.tmp 7)⟩,
        ⟨some 14, none, .bin .add (.tmp 13) (.const (.int .i64 1))⟩,
        ⟨some 7, none, .mv (.tmp 14)⟩]))))))
  (.ops [⟨some 52, none, .mv (.tmp 0)⟩,
    ⟨some 53, none, .mv (.tmp 1)⟩,
    ⟨some 54, none, .len (.tmp 53)⟩,
    ⟨some 55, none, .mv (.tmp 0)⟩,
    ⟨some 56, none, .mv (.tmp 1)⟩,
    ⟨some 57, none, .len (.tmp 56)⟩,
    ⟨some 58, none, .ia 1 (.tmp 55) (.tmp 57)⟩,
    ⟨some 59, none, .ld (.int .u64) (.tmp 58)⟩,
    ⟨some 60, none, .mv (.tmp 6)⟩,
    ⟨some 61, none, .bin .sub (.tmp 59) (.tmp 60)⟩,
    ⟨some 62, none, .ia 1 (.tmp 52) (.tmp 54)⟩,
    ⟨none, none, .st 1 (.tmp 62) (.tmp 61)⟩])))⟩
theorem h75 : strF Try.prog [] Try.f75 = some c75 := by kernel_rfl

/-- chirograph/chirographref01.reach -/
def c76 : Fun := ⟨37, [.inl 4],
  (.seq (.ops [⟨some 4, none, .mv (.const (.bool false))⟩])
  (.seq (.seq (.ops [⟨some 6, none, .mv (.tmp 0)⟩,
    ⟨some 7, none, .mv (.tmp 1)⟩,
    ⟨some 8, none, .len (.tmp 7)⟩,
    ⟨some 9, none, .ia 1 (.tmp 6) (.tmp 8)⟩,
    ⟨some 10, none, .ld (.int .u64) (.tmp 9)⟩,
    ⟨some 11, none, .bin .gtr (.tmp 10) (.const (.int .u64 0))⟩])
  (.cond (.tmp 11)
    (.seq (.ops [⟨some 4, none, .mv (.const (.bool true))⟩])
    .ret)
    .skip))
  (.seq (.seq (.ops [⟨some 12, none, .mv (.tmp 1)⟩,
    ⟨some 13, none, .len (.tmp 12)⟩,
    ⟨some 14, none, .bin .sub (.tmp 13) (.const (.int .i64 1))⟩,
    ⟨some 5, none, .mv (.tmp 14)⟩])
  (.block 0
    (.loop
      (.seq (.seq (.ops [⟨some 15, none, .mv (.tmp 5)⟩,
        ⟨some 16, none, .bin .geq (.tmp 15) (.const (.int .i64 0))⟩])
      (.cond (.tmp 16)
        .skip
        (.exit 0)))
      (.seq (.block 1
        (.seq (.draw 9 [⟨some 19, none, .mv (.tmp 0)⟩,
          ⟨some 20, none, .mv (.tmp 5)⟩,
          ⟨some 21, none, .ia 1 (.tmp 19) (.tmp 20)⟩,
          ⟨some 22, none, .ld (.int .u64) (.tmp 21)⟩,
          ⟨some 23, none, .mv (.tmp 1)⟩,
          ⟨some 24, none, .mv (.tmp 5)⟩,
          ⟨some 25, none, .ia 1 (.tmp 23) (.tmp 24)⟩,
          ⟨some 26, none, .ld (.int .u64) (.tmp 25)⟩,
          ⟨some 27, none, .bin .neq (.tmp 22) (.tmp 26)⟩])
        (.cond (.tmp 27)
          (.seq (.draw 10 [⟨some 28, none, .mv (.tmp 0)⟩,
            ⟨some 29, none, .mv (.tmp 5)⟩,
            ⟨some 30, none, .ia 1 (.tmp 28) (.tmp 29)⟩,
            ⟨some 31, none, .ld (.int .u64) (.tmp 30)⟩,
            ⟨some 32, none, .mv (.tmp 1)⟩,
            ⟨some 33, none, .mv (.tmp 5)⟩,
            ⟨some 34, none, .ia 1 (.tmp 32) (.tmp 33)⟩,
            ⟨some 35, none, .ld (.int .u64) (.tmp 34)⟩,
            ⟨some 36, none, .bin .gtr (.tmp 31) (.tmp 35)⟩,
            ⟨some 4, none, .mv (.tmp 36)⟩])
          .ret)
          .skip)))
      (.ops [⟨some 17, none, .mv (.tmp 5)⟩,
        ⟨some 18, none, .bin .sub (.tmp 17) (.const (.int .i64 1))⟩,
        ⟨some 5, none, .mv (.tmp 18)⟩]))))))
  (.seq (.ops [⟨some 4, none, .mv (.const (.bool true))⟩])
  .ret))))⟩
theorem h76 : strF Try.prog [] Try.f76 = some c76 := by kernel_rfl

/-- math/bits.Div32 -/
def c77 : Fun := ⟨33, [.inl 6, .inl 7],
  (.seq (.ops [⟨some 6, none, .mv (.const (.int .u32 0))⟩,
    ⟨some 7, none, .mv (.const (.int .u32 0))⟩])
  (.join (.seq (.ops [⟨some 9, none, .mv (.tmp 2)⟩,
    ⟨some 10, none, .bin .neq (.tmp 9) (.const (.int .u32 0))⟩,
    ⟨some 11, none, .mv (.tmp 10)⟩,
    ⟨some 12, some (11, true), .mv (.tmp 2)⟩,
    ⟨some 13, some (11, true), .mv (.tmp 0)⟩,
    ⟨some 14, some (11, true), .bin .leq (.tmp 12) (.tmp 13)⟩,
    ⟨some 15, none, .pick (.tmp 11) (.tmp 14) (.const (.bool false))⟩])
  (.cond (.tmp 15)
    (.ops [⟨some 16, none, .ld .other (.global 0)⟩,
      ⟨none, none, .no⟩])
    .skip))
  (.seq (.ops [⟨some 17, none, .mv (.tmp 0)⟩,
    ⟨some 18, none, .cv .u64 (.tmp 17)⟩,
    ⟨some 19, none, .bin .shl (.tmp 18) (.const (.int .u64 32))⟩,
    ⟨some 20, none, .mv (.tmp 1)⟩,
    ⟨some 21, none, .cv .u64 (.tmp 20)⟩,
    ⟨some 22, none, .bin .or (.tmp 19) (.tmp 21)⟩,
    ⟨some 8, none, .mv (.tmp 22)⟩])
  (.seq (.draw 12 [⟨some 23, none, .mv (.tmp 8)⟩,
    ⟨some 24, none, .mv (.tmp 2)⟩,
    ⟨some 25, none, .cv .u64 (.tmp 24)⟩,
    ⟨some 26, none, .bin .quo (.tmp 23) (.tmp 25)⟩,
    ⟨some 27, none, .cv .u32 (.tmp 26)⟩,
    ⟨some 28, none, .mv (.tmp 8)⟩,
    ⟨some 29, none, .mv (.tmp 2)⟩,
    ⟨some 30, none, .cv .u64 (.tmp 29)⟩,
    ⟨some 31, none, .bin .rem (.tmp 28) (.tmp 30)⟩,
    ⟨some 32, none, .cv .u32 (.tmp 31)⟩,
    ⟨some 6, none, .mv (.tmp 27)⟩,
    ⟨some 7, none, .mv (.tmp 32)⟩])
  .ret))))⟩
theorem h77 : strF Try.prog [] Try.f77 = some c77 := by kernel_rfl

end Go.Proofs.Ytbgfebhhejlakaa.Code
