/- The functions as the engine has them: by program, out of the translation. -/
import Derived.Test.YtbgfebhhejlakaaEngE
import Derived.Test.YtbgfebhhejlakaaProg
set_option maxRecDepth 100000
namespace Go.Proofs.Ytbgfebhhejlakaa.Code
open Go Go.Proofs Go.Proofs.Ytbgfebhhejlakaa.Eng

/-- chirograph/chirographref01.Lent -/
def c15 : Fun := ⟨13, [.inl 2],
  (.seq (.ops [⟨some 2, none, .mv (.const (.slice none 0 0))⟩])
  (.seq (.ops [⟨some 4, none, .bsl0 42⟩,
    ⟨some 5, none, .mv (.tmp 0)⟩,
    ⟨some 6, none, .app 42 1 4 #[(.int .u32 0)] (.tmp 4) (.tmp 5)⟩,
    ⟨some 7, none, .bsl 42 1 2 #[(.int .u32 0)] [(0, (.const (.int .u32 57005))), (1, (.const (.int .u32 48879)))]⟩,
    ⟨some 8, none, .app 42 1 4 #[(.int .u32 0)] (.tmp 6) (.tmp 7)⟩,
    ⟨some 3, none, .mv (.tmp 8)⟩])
  (.seq (.ops [⟨some 9, none, .mv (.tmp 3)⟩,
    ⟨some 10, none, .mv (.tmp 0)⟩,
    ⟨some 11, none, .len (.tmp 10)⟩,
    ⟨some 12, none, .slc 1 (.tmp 9) none (some (.tmp 11)) none⟩,
    ⟨some 2, none, .mv (.tmp 12)⟩])
  .ret)))⟩
theorem h15 : strF Try.prog [] Try.f15 = some c15 := by kernel_rfl

/-- chirograph/nat.Add -/
def c16 : Fun := ⟨18, [.inl 4, .inl 5],
  (.seq (.ops [⟨some 4, none, .mv (.const (.slice none 0 0))⟩,
    ⟨some 5, none, .mv (.const (.int .i64 0))⟩])
  (.seq (.seq (.ops [⟨some 7, none, .mv (.tmp 0)⟩,
    ⟨some 8, none, .mv (.tmp 1)⟩,
    ⟨some 9, none, .bsl 22 1 2 #[(.slice none 0 0)] [(0, (.tmp 7)), (1, (.tmp 8))]⟩,
    ⟨some 10, none, .call 48 [(.const (.int .i64 512)), (.tmp 9)]⟩])
  (.cond (.tmp 10)
    (.seq (.ops [⟨some 4, none, .mv (.const (.slice none 0 0))⟩,
      ⟨some 5, none, .mv (.const (.int .i64 3))⟩])
    .ret)
    .skip))
  (.seq (.ops [⟨some 11, none, .mv (.tmp 0)⟩,
    ⟨some 12, none, .mv (.tmp 1)⟩,
    ⟨some 13, none, .call 49 [(.tmp 11), (.tmp 12)]⟩,
    ⟨some 6, none, .mv (.tmp 13)⟩])
  (.seq (.seq (.ops [⟨some 14, none, .mv (.tmp 6)⟩,
    ⟨some 15, none, .len (.tmp 14)⟩,
    ⟨some 16, none, .bin .gtr (.tmp 15) (.const (.int .i64 512))⟩])
  (.cond (.tmp 16)
    (.seq (.ops [⟨some 4, none, .mv (.const (.slice none 0 0))⟩,
      ⟨some 5, none, .mv (.const (.int .i64 3))⟩])
    .ret)
    .skip))
  (.seq (.ops [⟨some 17, none, .mv (.tmp 6)⟩,
    ⟨some 4, none, .mv (.tmp 17)⟩,
    ⟨some 5, none, .mv (.const (.int .i64 0))⟩])
  .ret)))))⟩
theorem h16 : strF Try.prog [] Try.f16 = some c16 := by kernel_rfl

/-- chirograph/chirographref01.Add -/
def c17 : Fun := ⟨20, [.inl 4, .inl 5],
  (.seq (.ops [⟨some 4, none, .mv (.const (.slice none 0 0))⟩,
    ⟨some 5, none, .mv (.const (.int .i64 0))⟩])
  (.seq (.seq (.ops [⟨some 7, none, .mv (.tmp 0)⟩,
    ⟨some 8, none, .mv (.tmp 1)⟩,
    ⟨some 9, none, .call 50 [(.const (.int .i64 512)), (.tmp 7), (.tmp 8)]⟩])
  (.cond (.tmp 9)
    (.seq (.ops [⟨some 4, none, .mv (.const (.slice none 0 0))⟩,
      ⟨some 5, none, .mv (.const (.int .i64 3))⟩])
    .ret)
    .skip))
  (.seq (.ops [⟨some 10, none, .mv (.tmp 0)⟩,
    ⟨some 11, none, .call 53 [(.tmp 10)]⟩,
    ⟨some 12, none, .mv (.tmp 1)⟩,
    ⟨some 13, none, .call 53 [(.tmp 12)]⟩,
    ⟨some 14, none, .call 52 [(.tmp 11), (.tmp 13)]⟩,
    ⟨some 15, none, .call 51 [(.tmp 14)]⟩,
    ⟨some 6, none, .mv (.tmp 15)⟩])
  (.seq (.seq (.ops [⟨some 16, none, .mv (.tmp 6)⟩,
    ⟨some 17, none, .len (.tmp 16)⟩,
    ⟨some 18, none, .bin .gtr (.tmp 17) (.const (.int .i64 512))⟩])
  (.cond (.tmp 18)
    (.seq (.ops [⟨some 4, none, .mv (.const (.slice none 0 0))⟩,
      ⟨some 5, none, .mv (.const (.int .i64 3))⟩])
    .ret)
    .skip))
  (.seq (.ops [⟨some 19, none, .mv (.tmp 6)⟩,
    ⟨some 4, none, .mv (.tmp 19)⟩,
    ⟨some 5, none, .mv (.const (.int .i64 0))⟩])
  .ret)))))⟩
theorem h17 : strF Try.prog [] Try.f17 = some c17 := by kernel_rfl

/-- chirograph/nat.Sub -/
def c18 : Fun := ⟨21, [.inl 4, .inl 5],
  (.seq (.ops [⟨some 4, none, .mv (.const (.slice none 0 0))⟩,
    ⟨some 5, none, .mv (.const (.int .i64 0))⟩])
  (.seq (.block 0
    (.seq (.ops [⟨some 7, none, .mv (.tmp 0)⟩,
      ⟨some 8, none, .mv (.tmp 1)⟩,
      ⟨some 9, none, .bsl 22 1 2 #[(.slice none 0 0)] [(0, (.tmp 7)), (1, (.tmp 8))]⟩,
      ⟨some 10, none, .call 48 [(.const (.int .i64 512)), (.tmp 9)]⟩,
      ⟨some 6, none, .mv (.tmp 10)⟩])
    (.cond (.tmp 6)
      (.seq (.ops [⟨some 4, none, .mv (.const (.slice none 0 0))⟩,
        ⟨some 5, none, .mv (.const (.int .i64 3))⟩])
      .ret)
      (.seq (.ops [⟨some 12, none, .mv (.tmp 0)⟩,
        ⟨some 13, none, .mv (.tmp 1)⟩,
        ⟨some 14, none, .call 26 [(.tmp 12), (.tmp 13)]⟩,
        ⟨some 15, none, .bin .lss (.tmp 14) (.const (.int .i64 0))⟩,
        ⟨some 11, none, .mv (.tmp 15)⟩])
      (.cond (.tmp 11)
        (.seq (.ops [⟨some 4, none, .mv (.const (.slice none 0 0))⟩,
          ⟨some 5, none, .mv (.const (.int .i64 10))⟩])
        .ret)
        .skip)))))
  (.seq (.ops [⟨some 16, none, .mv (.tmp 0)⟩,
    ⟨some 17, none, .call 55 [(.tmp 16)]⟩,
    ⟨some 18, none, .mv (.tmp 1)⟩,
    ⟨some 19, none, .call 55 [(.tmp 18)]⟩,
    ⟨some 20, none, .call 54 [(.tmp 17), (.tmp 19)]⟩,
    ⟨some 4, none, .mv (.tmp 20)⟩,
    ⟨some 5, none, .mv (.const (.int .i64 0))⟩])
  .ret)))⟩
theorem h18 : strF Try.prog [] Try.f18 = some c18 := by kernel_rfl

/-- chirograph/chirographref01.Sub -/
def c19 : Fun := ⟨19, [.inl 4, .inl 5],
  (.seq (.ops [⟨some 4, none, .mv (.const (.slice none 0 0))⟩,
    ⟨some 5, none, .mv (.const (.int .i64 0))⟩])
  (.seq (.seq (.ops [⟨some 6, none, .mv (.tmp 0)⟩,
    ⟨some 7, none, .mv (.tmp 1)⟩,
    ⟨some 8, none, .call 50 [(.const (.int .i64 512)), (.tmp 6), (.tmp 7)]⟩])
  (.cond (.tmp 8)
    (.seq (.ops [⟨some 4, none, .mv (.const (.slice none 0 0))⟩,
      ⟨some 5, none, .mv (.const (.int .i64 3))⟩])
    .ret)
    .skip))
  (.seq (.seq (.ops [⟨some 9, none, .mv (.tmp 0)⟩,
    ⟨some 10, none, .mv (.tmp 1)⟩,
    ⟨some 11, none, .call 27 [(.tmp 9), (.tmp 10)]⟩,
    ⟨some 12, none, .bin .lss (.tmp 11) (.const (.int .i64 0))⟩])
  (.cond (.tmp 12)
    (.seq (.ops [⟨some 4, none, .mv (.const (.slice none 0 0))⟩,
      ⟨some 5, none, .mv (.const (.int .i64 10))⟩])
    .ret)
    .skip))
  (.seq (.ops [⟨some 13, none, .mv (.tmp 0)⟩,
    ⟨some 14, none, .call 53 [(.tmp 13)]⟩,
    ⟨some 15, none, .mv (.tmp 1)⟩,
    ⟨some 16, none, .call 53 [(.tmp 15)]⟩,
    ⟨some 17, none, .call 56 [(.tmp 14), (.tmp 16)]⟩,
    ⟨some 18, none, .call 51 [(.tmp 17)]⟩,
    ⟨some 4, none, .mv (.tmp 18)⟩,
    ⟨some 5, none, .mv (.const (.int .i64 0))⟩])
  .ret))))⟩
theorem h19 : strF Try.prog [] Try.f19 = some c19 := by kernel_rfl

/-- chirograph/chirographref01.Same -/
def c20 : Fun := ⟨26, [.inl 4],
  (.seq (.ops [⟨some 4, none, .mv (.const (.bool false))⟩])
  (.seq (.seq (.ops [⟨some 6, none, .mv (.tmp 0)⟩,
    ⟨some 7, none, .len (.tmp 6)⟩,
    ⟨some 8, none, .mv (.tmp 1)⟩,
    ⟨some 9, none, .len (.tmp 8)⟩,
    ⟨some 10, none, .bin .neq (.tmp 7) (.tmp 9)⟩])
  (.cond (.tmp 10)
    (.seq (.ops [⟨some 4, none, .mv (.const (.bool false))⟩])
    .ret)
    .skip))
  (.seq (.seq (.ops [⟨some 5, none, .mv (.const (.int .i64 0))⟩])
  (.block 0
    (.loop
      (.seq (.seq (.ops [⟨some 11, none, .mv (.tmp 5)⟩,
        ⟨some 12, none, .mv (.tmp 0)⟩,
        ⟨some 13, none, .len (.tmp 12)⟩,
        ⟨some 14, none, .bin .lss (.tmp 11) (.tmp 13)⟩])
      (.cond (.tmp 14)
        .skip
        (.exit 0)))
      (.seq (.block 1
        (.seq (.draw 9 [⟨some 17, none, .mv (.tmp 0)⟩,
          ⟨some 18, none, .mv (.tmp 5)⟩,
          ⟨some 19, none, .ia 1 (.tmp 17) (.tmp 18)⟩,
          ⟨some 20, none, .ld (.int .u32) (.tmp 19)⟩,
          ⟨some 21, none, .mv (.tmp 1)⟩,
          ⟨some 22, none, .mv (.tmp 5)⟩,
          ⟨some 23, none, .ia 1 (.tmp 21) (.tmp 22)⟩,
          ⟨some 24, none, .ld (.int .u32) (.tmp 23)⟩,
          ⟨some 25, none, .bin .neq (.tmp 20) (.tmp 24)⟩])
        (.cond (.tmp 25)
          (.seq (.ops [⟨some 4, none, .mv (.const (.bool false))⟩])
          .ret)
          .skip)))
      (.ops [⟨some 15, none, .mv (.tmp 5)⟩,
        ⟨some 16, none, .bin .add (.tmp 15) (.const (.int .i64 1))⟩,
        ⟨some 5, none, .mv (.tmp 16)⟩]))))))
  (.seq (.ops [⟨some 4, none, .mv (.const (.bool true))⟩])
  .ret))))⟩
theorem h20 : strF Try.prog [] Try.f20 = some c20 := by kernel_rfl

/-- chirograph/nat.Trim -/
def c22 : Fun := ⟨6, [.inl 2],
  (.seq (.ops [⟨some 2, none, .mv (.const (.slice none 0 0))⟩])
  (.seq (.ops [⟨some 3, none, .mv (.tmp 0)⟩,
    ⟨some 4, none, .call 55 [(.tmp 3)]⟩,
    ⟨some 5, none, .app 42 1 4 #[(.int .u32 0)] (.const (.slice none 0 0)) (.tmp 4)⟩,
    ⟨some 2, none, .mv (.tmp 5)⟩])
  .ret))⟩
theorem h22 : strF Try.prog [] Try.f22 = some c22 := by kernel_rfl

/-- chirograph/chirographref01.Trim -/
def c23 : Fun := ⟨6, [.inl 2],
  (.seq (.ops [⟨some 2, none, .mv (.const (.slice none 0 0))⟩])
  (.seq (.ops [⟨some 3, none, .mv (.tmp 0)⟩,
    ⟨some 4, none, .call 53 [(.tmp 3)]⟩,
    ⟨some 5, none, .call 51 [(.tmp 4)]⟩,
    ⟨some 2, none, .mv (.tmp 5)⟩])
  .ret))⟩
theorem h23 : strF Try.prog [] Try.f23 = some c23 := by kernel_rfl

/-- chirograph/nat.Bits -/
def c24 : Fun := ⟨20, [.inl 2],
  (.seq (.ops [⟨some 2, none, .mv (.const (.int .i64 0))⟩])
  (.seq (.ops [⟨some 3, none, .mv (.tmp 0)⟩,
    ⟨some 4, none, .call 55 [(.tmp 3)]⟩,
    ⟨some 0, none, .mv (.tmp 4)⟩])
  (.seq (.seq (.ops [⟨some 5, none, .mv (.tmp 0)⟩,
    ⟨some 6, none, .len (.tmp 5)⟩,
    ⟨some 7, none, .bin .eql (.tmp 6) (.const (.int .i64 0))⟩])
  (.cond (.tmp 7)
    (.seq (.ops [⟨some 2, none, .mv (.const (.int .i64 0))⟩])
    .ret)
    .skip))
  (.seq (.ops [⟨some 8, none, .mv (.tmp 0)⟩,
    ⟨some 9, none, .len (.tmp 8)⟩,
    ⟨some 10, none, .bin .sub (.tmp 9) (.const (.int .i64 1))⟩,
    ⟨some 11, none, .bin .mul (.const (.int .i64 32)) (.tmp 10)⟩,
    ⟨some 12, none, .mv (.tmp 0)⟩,
    ⟨some 13, none, .mv (.tmp 0)⟩,
    ⟨some 14, none, .len (.tmp 13)⟩,
    ⟨some 15, none, .bin .sub (.tmp 14) (.const (.int .i64 1))⟩,
    ⟨some 16, none, .ia 1 (.tmp 12) (.tmp 15)⟩,
    ⟨some 17, none, .ld (.int .u32) (.tmp 16)⟩,
    ⟨some 18, none, .call 57 [(.tmp 17)]⟩,
    ⟨some 19, none, .bin .add (.tmp 11) (.tmp 18)⟩,
    ⟨some 2, none, .mv (.tmp 19)⟩])
  .ret))))⟩
theorem h24 : strF Try.prog [] Try.f24 = some c24 := by kernel_rfl

/-- chirograph/chirographref01.Bits -/
def c25 : Fun := ⟨29, [.inl 2],
  (.seq (.ops [⟨some 2, none, .mv (.const (.int .i64 0))⟩])
  (.seq (.ops [⟨some 5, none, .mv (.tmp 0)⟩,
    ⟨some 6, none, .call 53 [(.tmp 5)]⟩,
    ⟨some 3, none, .mv (.tmp 6)⟩])
  (.seq (.ops [⟨some 7, none, .mv (.tmp 3)⟩,
    ⟨some 8, none, .len (.tmp 7)⟩,
    ⟨some 9, none, .bin .mul (.const (.int .i64 16)) (.tmp 8)⟩,
    ⟨some 4, none, .mv (.tmp 9)⟩])
  (.seq (.block 0
    (.loop
      (.seq (.seq (.ops [⟨some 10, none, .mv (.tmp 4)⟩,
        ⟨some 11, none, .bin .gtr (.tmp 10) (.const (.int .i64 0))⟩,
        ⟨some 12, none, .mv (.tmp 11)⟩,
        ⟨some 13, some (12, true), .mv (.tmp 3)⟩,
        ⟨some 14, some (12, true), .mv (.tmp 4)⟩,
        ⟨some 15, some (12, true), .bin .sub (.tmp 14) (.const (.int .i64 1))⟩,
        ⟨some 16, some (12, true), .bin .quo (.tmp 15) (.const (.int .i64 16))⟩,
        ⟨some 17, some (12, true), .ia 1 (.tmp 13) (.tmp 16)⟩,
        ⟨some 18, some (12, true), .ld (.int .u64) (.tmp 17)⟩,
        ⟨some 19, some (12, true), .mv (.tmp 4)⟩,
        ⟨some 20, some (12, true), .bin .sub (.tmp 19) (.const (.int .i64 1))⟩,
        ⟨some 21, some (12, true), .bin .rem (.tmp 20) (.const (.int .i64 16))⟩,
        ⟨some 22, some (12, true), .bin .shr (.tmp 18) (.tmp 21)⟩,
        ⟨some 23, some (12, true), .bin .and (.tmp 22) (.const (.int .u64 1))⟩,
        ⟨some 24, some (12, true), .bin .eql (.tmp 23) (.const (.int .u64 0))⟩,
        ⟨some 25, none, .pick (.tmp 12) (.tmp 24) (.const (.bool false))⟩])
      (.cond (.tmp 25)
        .skip
        (.exit 0)))
      (.block 1
        (.ops [⟨some 26, none, .mv (.tmp 4)⟩,
          ⟨some 27, none, .bin .sub (.tmp 26) (.const (.int .i64 1))⟩,
          ⟨some 4, none, .mv (.tmp 27)⟩])))))
  (.seq (.ops [⟨some 28, none, .mv (.tmp 4)⟩,
    ⟨some 2, none, .mv (.tmp 28)⟩])
  .ret)))))⟩
theorem h25 : strF Try.prog [] Try.f25 = some c25 := by kernel_rfl

/-- chirograph/nat.Cmp -/
def c26 : Fun := ⟨52, [.inl 4],
  (.seq (.ops [⟨some 4, none, .mv (.const (.int .i64 0))⟩])
  (.seq (.ops [⟨some 7, none, .mv (.tmp 0)⟩,
    ⟨some 8, none, .call 55 [(.tmp 7)]⟩,
    ⟨some 9, none, .mv (.tmp 1)⟩,
    ⟨some 10, none, .call 55 [(.tmp 9)]⟩,
    ⟨some 0, none, .mv (.tmp 8)⟩,
    ⟨some 1, none, .mv (.tmp 10)⟩])
  (.seq (.block 0
    (.seq (.ops [⟨some 12, none, .mv (.tmp 0)⟩,
      ⟨some 13, none, .len (.tmp 12)⟩,
      ⟨some 14, none, .mv (.tmp 1)⟩,
      ⟨some 15, none, .len (.tmp 14)⟩,
      ⟨some 16, none, .bin .lss (.tmp 13) (.tmp 15)⟩,
      ⟨some 11, none, .mv (.tmp 16)⟩])
    (.cond (.tmp 11)
      (.seq (.ops [⟨some 4, none, .mv (.const (.int .i64 (-1)))⟩])
      .ret)
      (.seq (.ops [⟨some 18, none, .mv (.tmp 0)⟩,
        ⟨some 19, none, .len (.tmp 18)⟩,
        ⟨some 20, none, .mv (.tmp 1)⟩,
        ⟨some 21, none, .len (.tmp 20)⟩,
        ⟨some 22, none, .bin .gtr (.tmp 19) (.tmp 21)⟩,
        ⟨some 17, none, .mv (.tmp 22)⟩])
      (.cond (.tmp 17)
        (.seq (.ops [⟨some 4, none, .mv (.const (.int .i64 1))⟩])
        .ret)
        .skip)))))
  (.seq (.seq (.ops [⟨some 23, none, .mv (.tmp 0)⟩,
    ⟨some 24, none, .len (.tmp 23)⟩,
    ⟨some 25, none, .mv (.const (.int .i64 0))⟩])
  (.block 1
    (.loop
      (.seq (.ops [⟨some 26, none, .bin .lss (.tmp 25) (.tmp 24)⟩])
      (.seq (.cond (.tmp 26)
        .skip
        (.exit 1))
      (.seq (.block 2
        (.seq (.ops [⟨some 27, none, .mv (.tmp 25)⟩,
          ⟨some 5, none, .mv (.tmp 27)⟩])
        (.seq (.ops [⟨some 28, none, .mv (.tmp 0)⟩,
          ⟨some 29, none, .len (.tmp 28)⟩,
          ⟨some 30, none, .bin .sub (.tmp 29) (.const (.int .i64 1))⟩,
          ⟨some 31, none, .mv (.tmp 5)⟩,
          ⟨some 32, none, .bin .sub (.tmp 30) (.tmp 31)⟩,
          ⟨some 6, none, .mv (.tmp 32)⟩])
        (.seq (.seq (.draw 9 [⟨some 33, none, .mv (.tmp 0)⟩,
          ⟨some 34, none, .mv (.tmp 6)⟩,
          ⟨some 35, none, .ia 1 (.tmp 33) (.tmp 34)⟩,
          ⟨some 36, none, .ld (.int .u32) (.tmp 35)⟩,
          ⟨some 37, none, .mv (.tmp 1)⟩,
          ⟨some 38, none, .mv (.tmp 6)⟩,
          ⟨some 39, none, .ia 1 (.tmp 37) (.tmp 38)⟩,
          ⟨some 40, none, .ld (.int .u32) (.tmp 39)⟩,
          ⟨some 41, none, .bin .lss (.tmp 36) (.tmp 40)⟩])
        (.cond (.tmp 41)
          (.seq (.ops [⟨some 4, none, .mv (.const (.int .i64 (-1)))⟩])
          .ret)
          .skip))
        (.seq (.draw 9 [⟨some 42, none, .mv (.tmp 0)⟩,
          ⟨some 43, none, .mv (.tmp 6)⟩,
          ⟨some 44, none, .ia 1 (.tmp 42) (.tmp 43)⟩,
          ⟨some 45, none, .ld (.int .u32) (.tmp 44)⟩,
          ⟨some 46, none, .mv (.tmp 1)⟩,
          ⟨some 47, none, .mv (.tmp 6)⟩,
          ⟨some 48, none, .ia 1 (.tmp 46) (.tmp 47)⟩,
          ⟨some 49, none, .ld (.int .u32) (.tmp 48)⟩,
          ⟨some 50, none, .bin .gtr (.tmp 45) (.tmp 49)⟩])
        (.cond (.tmp 50)
          (.seq (.ops [⟨some 4, none, .mv (.const (.int .i64 1))⟩])
          .ret)
          .skip))))))
      (.ops [⟨some 51, none, .bin .add (.tmp 25) (.const (.int .i64 1))⟩,
        ⟨some 25, none, .mv (.tmp 51)⟩])))))))
  (.seq (.ops [⟨some 4, none, .mv (.const (.int .i64 0))⟩])
  .ret)))))⟩
theorem h26 : strF Try.prog [] Try.f26 = some c26 := by kernel_rfl

/-- chirograph/chirographref01.Cmp -/
def c27 : Fun := ⟨10, [.inl 4],
  (.seq (.ops [⟨some 4, none, .mv (.const (.int .i64 0))⟩])
  (.seq (.ops [⟨some 5, none, .mv (.tmp 0)⟩,
    ⟨some 6, none, .call 53 [(.tmp 5)]⟩,
    ⟨some 7, none, .mv (.tmp 1)⟩,
    ⟨some 8, none, .call 53 [(.tmp 7)]⟩,
    ⟨some 9, none, .call 58 [(.tmp 6), (.tmp 8)]⟩,
    ⟨some 4, none, .mv (.tmp 9)⟩])
  .ret))⟩
theorem h27 : strF Try.prog [] Try.f27 = some c27 := by kernel_rfl

/-- chirograph/chirographref01.Kept -/
def c28 : Fun := ⟨31, [.inl 4],
  (.seq (.ops [⟨some 4, none, .mv (.const (.bool false))⟩])
  (.seq (.ops [⟨some 6, none, .mv (.tmp 0)⟩,
    ⟨some 7, none, .mv (.tmp 0)⟩,
    ⟨some 8, none, .len (.tmp 7)⟩,
    ⟨some 9, none, .bin .add (.tmp 8) (.const (.int .i64 2))⟩,
    ⟨some 10, none, .slc 1 (.tmp 6) none (some (.tmp 9)) none⟩,
    ⟨some 5, none, .mv (.tmp 10)⟩])
  (.seq (.ops [⟨some 11, none, .mv (.tmp 0)⟩,
    ⟨some 12, none, .mv (.tmp 1)⟩,
    ⟨some 13, none, .call 20 [(.tmp 11), (.tmp 12)]⟩,
    ⟨some 14, none, .mv (.tmp 13)⟩,
    ⟨some 15, some (14, true), .mv (.tmp 5)⟩,
    ⟨some 16, some (14, true), .mv (.tmp 0)⟩,
    ⟨some 17, some (14, true), .len (.tmp 16)⟩,
    ⟨some 18, some (14, true), .ia 1 (.tmp 15) (.tmp 17)⟩,
    ⟨some 19, some (14, true), .ld (.int .u32) (.tmp 18)⟩,
    ⟨some 20, some (14, true), .bin .eql (.tmp 19) (.const (.int .u32 57005))⟩,
    ⟨some 21, none, .pick (.tmp 14) (.tmp 20) (.const (.bool false))⟩,
    ⟨some 22, none, .mv (.tmp 21)⟩,
    ⟨some 23, some (22, true), .mv (.tmp 5)⟩,
    ⟨some 24, some (22, true), .mv (.tmp 0)⟩,
    ⟨some 25, some (22, true), .len (.tmp 24)⟩,
    ⟨some 26, some (22, true), .bin .add (.tmp 25) (.const (.int .i64 1))⟩,
    ⟨some 27, some (22, true), .ia 1 (.tmp 23) (.tmp 26)⟩,
    ⟨some 28, some (22, true), .ld (.int .u32) (.tmp 27)⟩,
    ⟨some 29, some (22, true), .bin .eql (.tmp 28) (.const (.int .u32 48879))⟩,
    ⟨some 30, none, .pick (.tmp 22) (.tmp 29) (.const (.bool false))⟩,
    ⟨some 4, none, .mv (.tmp 30)⟩])
  .ret)))⟩
theorem h28 : strF Try.prog [] Try.f28 = some c28 := by kernel_rfl

/-- chirograph/nat.Mul -/
def c30 : Fun := ⟨20, [.inl 4, .inl 5],
  (.seq (.ops [⟨some 4, none, .mv (.const (.slice none 0 0))⟩,
    ⟨some 5, none, .mv (.const (.int .i64 0))⟩])
  (.seq (.seq (.ops [⟨some 7, none, .mv (.tmp 0)⟩,
    ⟨some 8, none, .mv (.tmp 1)⟩,
    ⟨some 9, none, .bsl 22 1 2 #[(.slice none 0 0)] [(0, (.tmp 7)), (1, (.tmp 8))]⟩,
    ⟨some 10, none, .call 48 [(.const (.int .i64 512)), (.tmp 9)]⟩])
  (.cond (.tmp 10)
    (.seq (.ops [⟨some 4, none, .mv (.const (.slice none 0 0))⟩,
      ⟨some 5, none, .mv (.const (.int .i64 3))⟩])
    .ret)
    .skip))
  (.seq (.ops [⟨some 11, none, .mv (.tmp 0)⟩,
    ⟨some 12, none, .call 55 [(.tmp 11)]⟩,
    ⟨some 13, none, .mv (.tmp 1)⟩,
    ⟨some 14, none, .call 55 [(.tmp 13)]⟩,
    ⟨some 15, none, .call 59 [(.tmp 12), (.tmp 14)]⟩,
    ⟨some 6, none, .mv (.tmp 15)⟩])
  (.seq (.seq (.ops [⟨some 16, none, .mv (.tmp 6)⟩,
    ⟨some 17, none, .len (.tmp 16)⟩,
    ⟨some 18, none, .bin .gtr (.tmp 17) (.const (.int .i64 512))⟩])
  (.cond (.tmp 18)
    (.seq (.ops [⟨some 4, none, .mv (.const (.slice none 0 0))⟩,
      ⟨some 5, none, .mv (.const (.int .i64 3))⟩])
    .ret)
    .skip))
  (.seq (.ops [⟨some 19, none, .mv (.tmp 6)⟩,
    ⟨some 4, none, .mv (.tmp 19)⟩,
    ⟨some 5, none, .mv (.const (.int .i64 0))⟩])
  .ret)))))⟩
theorem h30 : strF Try.prog [] Try.f30 = some c30 := by kernel_rfl

/-- chirograph/chirographref01.Mul -/
def c31 : Fun := ⟨20, [.inl 4, .inl 5],
  (.seq (.ops [⟨some 4, none, .mv (.const (.slice none 0 0))⟩,
    ⟨some 5, none, .mv (.const (.int .i64 0))⟩])
  (.seq (.seq (.ops [⟨some 7, none, .mv (.tmp 0)⟩,
    ⟨some 8, none, .mv (.tmp 1)⟩,
    ⟨some 9, none, .call 50 [(.const (.int .i64 512)), (.tmp 7), (.tmp 8)]⟩])
  (.cond (.tmp 9)
    (.seq (.ops [⟨some 4, none, .mv (.const (.slice none 0 0))⟩,
      ⟨some 5, none, .mv (.const (.int .i64 3))⟩])
    .ret)
    .skip))
  (.seq (.ops [⟨some 10, none, .mv (.tmp 0)⟩,
    ⟨some 11, none, .call 53 [(.tmp 10)]⟩,
    ⟨some 12, none, .mv (.tmp 1)⟩,
    ⟨some 13, none, .call 53 [(.tmp 12)]⟩,
    ⟨some 14, none, .call 60 [(.tmp 11), (.tmp 13)]⟩,
    ⟨some 15, none, .call 51 [(.tmp 14)]⟩,
    ⟨some 6, none, .mv (.tmp 15)⟩])
  (.seq (.seq (.ops [⟨some 16, none, .mv (.tmp 6)⟩,
    ⟨some 17, none, .len (.tmp 16)⟩,
    ⟨some 18, none, .bin .gtr (.tmp 17) (.const (.int .i64 512))⟩])
  (.cond (.tmp 18)
    (.seq (.ops [⟨some 4, none, .mv (.const (.slice none 0 0))⟩,
      ⟨some 5, none, .mv (.const (.int .i64 3))⟩])
    .ret)
    .skip))
  (.seq (.ops [⟨some 19, none, .mv (.tmp 6)⟩,
    ⟨some 4, none, .mv (.tmp 19)⟩,
    ⟨some 5, none, .mv (.const (.int .i64 0))⟩])
  .ret)))))⟩
theorem h31 : strF Try.prog [] Try.f31 = some c31 := by kernel_rfl

/-- chirograph/nat.DivMod -/
def c32 : Fun := ⟨24, [.inl 4, .inl 5, .inl 6],
  (.seq (.ops [⟨some 4, none, .mv (.const (.slice none 0 0))⟩,
    ⟨some 5, none, .mv (.const (.slice none 0 0))⟩,
    ⟨some 6, none, .mv (.const (.int .i64 0))⟩])
  (.seq (.block 0
    (.seq (.ops [⟨some 8, none, .mv (.tmp 0)⟩,
      ⟨some 9, none, .mv (.tmp 1)⟩,
      ⟨some 10, none, .bsl 22 1 2 #[(.slice none 0 0)] [(0, (.tmp 8)), (1, (.tmp 9))]⟩,
      ⟨some 11, none, .call 48 [(.const (.int .i64 512)), (.tmp 10)]⟩,
      ⟨some 7, none, .mv (.tmp 11)⟩])
    (.cond (.tmp 7)
      (.seq (.ops [⟨some 4, none, .mv (.const (.slice none 0 0))⟩,
        ⟨some 5, none, .mv (.const (.slice none 0 0))⟩,
        ⟨some 6, none, .mv (.const (.int .i64 3))⟩])
      .ret)
      (.seq (.ops [⟨some 13, none, .mv (.tmp 1)⟩,
        ⟨some 14, none, .call 24 [(.tmp 13)]⟩,
        ⟨some 15, none, .bin .eql (.tmp 14) (.const (.int .i64 0))⟩,
        ⟨some 12, none, .mv (.tmp 15)⟩])
      (.cond (.tmp 12)
        (.seq (.ops [⟨some 4, none, .mv (.const (.slice none 0 0))⟩,
          ⟨some 5, none, .mv (.const (.slice none 0 0))⟩,
          ⟨some 6, none, .mv (.const (.int .i64 11))⟩])
        .ret)
        .skip)))))
  (.seq (.ops [⟨some 17, none, .mv (.tmp 0)⟩,
    ⟨some 18, none, .mv (.tmp 1)⟩,
    ⟨some 19, none, .call 61 [(.tmp 17), (.tmp 18)]⟩,
    ⟨some 16, none, .mv (.tmp 19)⟩,
    ⟨some 20, none, .ext (.tmp 16) 0⟩,
    ⟨some 21, none, .ext (.tmp 16) 1⟩,
    ⟨some 4, none, .mv (.tmp 20)⟩,
    ⟨some 5, none, .mv (.tmp 21)⟩])
  (.seq (.ops [⟨some 22, none, .mv (.tmp 4)⟩,
    ⟨some 23, none, .mv (.tmp 5)⟩,
    ⟨some 4, none, .mv (.tmp 22)⟩,
    ⟨some 5, none, .mv (.tmp 23)⟩,
    ⟨some 6, none, .mv (.const (.int .i64 0))⟩])
  .ret))))⟩
theorem h32 : strF Try.prog [] Try.f32 = some c32 := by kernel_rfl

/-- chirograph/chirographref01.DivMod -/
def c33 : Fun := ⟨29, [.inl 4, .inl 5, .inl 6],
  (.seq (.ops [⟨some 4, none, .mv (.const (.slice none 0 0))⟩,
    ⟨some 5, none, .mv (.const (.slice none 0 0))⟩,
    ⟨some 6, none, .mv (.const (.int .i64 0))⟩])
  (.seq (.seq (.ops [⟨some 10, none, .mv (.tmp 0)⟩,
    ⟨some 11, none, .mv (.tmp 1)⟩,
    ⟨some 12, none, .call 50 [(.const (.int .i64 512)), (.tmp 10), (.tmp 11)]⟩])
  (.cond (.tmp 12)
    (.seq (.ops [⟨some 4, none, .mv (.const (.slice none 0 0))⟩,
      ⟨some 5, none, .mv (.const (.slice none 0 0))⟩,
      ⟨some 6, none, .mv (.const (.int .i64 3))⟩])
    .ret)
    .skip))
  (.seq (.ops [⟨some 13, none, .mv (.tmp 1)⟩,
    ⟨some 14, none, .call 53 [(.tmp 13)]⟩,
    ⟨some 7, none, .mv (.tmp 14)⟩])
  (.seq (.seq (.ops [⟨some 15, none, .mv (.tmp 7)⟩,
    ⟨some 16, none, .len (.tmp 15)⟩,
    ⟨some 17, none, .bin .eql (.tmp 16) (.const (.int .i64 0))⟩])
  (.cond (.tmp 17)
    (.seq (.ops [⟨some 4, none, .mv (.const (.slice none 0 0))⟩,
      ⟨some 5, none, .mv (.const (.slice none 0 0))⟩,
      ⟨some 6, none, .mv (.const (.int .i64 11))⟩])
    .ret)
    .skip))
  (.seq (.ops [⟨some 19, none, .mv (.tmp 0)⟩,
    ⟨some 20, none, .call 53 [(.tmp 19)]⟩,
    ⟨some 21, none, .mv (.tmp 7)⟩,
    ⟨some 22, none, .call 62 [(.tmp 20), (.tmp 21)]⟩,
    ⟨some 18, none, .mv (.tmp 22)⟩,
    ⟨some 23, none, .ext (.tmp 18) 0⟩,
    ⟨some 24, none, .ext (.tmp 18) 1⟩,
    ⟨some 8, none, .mv (.tmp 23)⟩,
    ⟨some 9, none, .mv (.tmp 24)⟩])
  (.seq (.ops [⟨some 25, none, .mv (.tmp 8)⟩,
    ⟨some 26, none, .call 51 [(.tmp 25)]⟩,
    ⟨some 27, none, .mv (.tmp 9)⟩,
    ⟨some 28, none, .call 51 [(.tmp 27)]⟩,
    ⟨some 4, none, .mv (.tmp 26)⟩,
    ⟨some 5, none, .mv (.tmp 28)⟩,
    ⟨some 6, none, .mv (.const (.int .i64 0))⟩])
  .ret))))))⟩
theorem h33 : strF Try.prog [] Try.f33 = some c33 := by kernel_rfl

/-- chirograph/nat.ExpMod -/
def c35 : Fun := ⟨93, [.inl 6, .inl 7],
  (.seq (.ops [⟨some 6, none, .mv (.const (.slice none 0 0))⟩,
    ⟨some 7, none, .mv (.const (.int .i64 0))⟩])
  (.join (.block 0
    (.seq (.block 3
      (.join (.block 2
        (.block 1
          (.seq (.seq (.seq (.ops [⟨some 17, none, .mv (.tmp 0)⟩,
            ⟨some 18, none, .bsl 22 1 1 #[(.slice none 0 0)] [(0, (.tmp 17))]⟩,
            ⟨some 19, none, .call 48 [(.const (.int .i64 512)), (.tmp 18)]⟩,
            ⟨some 16, none, .mv (.tmp 19)⟩])
          (.cond (.tmp 16)
            (.exit 1)
            .skip))
          (.seq (.seq (.ops [⟨some 21, none, .mv (.tmp 1)⟩,
            ⟨some 22, none, .mv (.tmp 2)⟩,
            ⟨some 23, none, .bsl 22 1 2 #[(.slice none 0 0)] [(0, (.tmp 21)), (1, (.tmp 22))]⟩,
            ⟨some 24, none, .call 48 [(.const (.int .i64 256)), (.tmp 23)]⟩,
            ⟨some 20, none, .mv (.tmp 24)⟩])
          (.cond (.tmp 20)
            (.exit 2)
            .skip))
          (.seq (.ops [⟨some 26, none, .mv (.tmp 2)⟩,
            ⟨some 27, none, .call 24 [(.tmp 26)]⟩,
            ⟨some 28, none, .bin .eql (.tmp 27) (.const (.int .i64 0))⟩,
            ⟨some 25, none, .mv (.tmp 28)⟩])
          (.cond (.tmp 25)
            (.exit 3)
            .skip))))
          (.exit 0))))
      (.seq (.seq (.ops [⟨some 6, none, .mv (.const (.slice none 0 0))⟩,
        ⟨some 7, none, .mv (.const (.int .i64 3))⟩])
      .ret)
      (.exit 0))))
    (.seq (.seq (.ops [⟨some 6, none, .mv (.const (.slice none 0 0))⟩,
      ⟨some 7, none, .mv (.const (.int .i64 11))⟩])
    .ret)
    (.exit 0))))
  (.seq (.ops [⟨some 29, none, .mv (.tmp 2)⟩,
    ⟨some 30, none, .call 55 [(.tmp 29)]⟩,
    ⟨some 2, none, .mv (.tmp 30)⟩])
  (.seq (.ops [⟨some 32, none, .bsl 42 1 1 #[(.int .u32 0)] [(0, (.const (.int .u32 1)))]⟩,
    ⟨some 33, none, .mv (.tmp 2)⟩,
    ⟨some 34, none, .call 61 [(.tmp 32), (.tmp 33)]⟩,
    ⟨some 31, none, .mv (.tmp 34)⟩,
    ⟨some 35, none, .ext (.tmp 31) 0⟩,
    ⟨some 36, none, .ext (.tmp 31) 1⟩,
    ⟨some 8, none, .mv (.tmp 35)⟩,
    ⟨some 9, none, .mv (.tmp 36)⟩])
  (.seq (.ops [⟨some 38, none, .mv (.tmp 0)⟩,
    ⟨some 39, none, .mv (.tmp 2)⟩,
    ⟨some 40, none, .call 61 [(.tmp 38), (.tmp 39)]⟩,
    ⟨some 37, none, .mv (.tmp 40)⟩,
    ⟨some 41, none, .ext (.tmp 37) 0⟩,
    ⟨some 42, none, .ext (.tmp 37) 1⟩,
    ⟨some 10, none, .mv (.tmp 41)⟩,
    ⟨some 11, none, .mv (.tmp 42)⟩])
  (.seq (.ops [⟨some 12, none, .alloc 70 (.agg (Array.replicate 16 (.slice none 0 0)))⟩])
  (.seq (.ops [⟨some 43, none, .mv (.tmp 9)⟩,
    ⟨some 44, none, .iaA 16 1 (.tmp 12) (.const (.int .i64 0))⟩,
    ⟨none, none, .st 1 (.tmp 44) (.tmp 43)⟩])
  (.seq (.seq (.ops [⟨some 45, none, .mv (.const (.int .i64 0))⟩])
  (.block 4
    (.loop
      (.seq (.ops [⟨some 46, none, .bin .lss (.tmp 45) (.const (.int .i64 15))⟩])
      (.seq (.cond (.tmp 46)
        .skip
        (.exit 4))
      (.seq (.block 5
        (.seq (.ops [⟨some 47, none, .mv (.tmp 45)⟩,
          ⟨some 13, none, .mv (.tmp 47)⟩])
        (.ops [⟨some 48, none, .mv (.tmp 13)⟩,
          ⟨some 49, none, .bin .add (.tmp 48) (.const (.int .i64 1))⟩,
          ⟨some 50, none, .mv (.tmp 13)⟩,
          ⟨some 51, none, .iaA 16 1 (.tmp 12) (.tmp 50)⟩,
          ⟨some 52, none, .ld .slice (.tmp 51)⟩,
          ⟨some 53, none, .mv (.tmp 11)⟩,
          ⟨some 54, none, .mv (.tmp 2)⟩,
          ⟨some 55, none, .call 63 [(.tmp 52), (.tmp 53), (.tmp 54)]⟩,
          ⟨some 56, none, .iaA 16 1 (.tmp 12) (.tmp 49)⟩,
          ⟨none, none, .st 1 (.tmp 56) (.tmp 55)⟩])))
      (.ops [⟨some 57, none, .bin .add (.tmp 45) (.const (.int .i64 1))⟩,
        ⟨some 45, none, .mv (.tmp 57)⟩])))))))
  (.seq (.ops [⟨some 58, none, .mv (.tmp 9)⟩,
    ⟨some 14, none, .mv (.tmp 58)⟩])
  (.seq (.seq (.ops [⟨some 59, none, .mv (.tmp 1)⟩,
    ⟨some 60, none, .call 24 [(.tmp 59)]⟩,
    ⟨some 61, none, .bin .add (.tmp 60) (.const (.int .i64 3))⟩,
    ⟨some 62, none, .bin .quo (.tmp 61) (.const (.int .i64 4))⟩,
    ⟨some 63, none, .bin .mul (.tmp 62) (.const (.int .i64 4))⟩,
    ⟨some 15, none, .mv (.tmp 63)⟩])
  (.block 6
    (.loop
      (.seq (.seq (.ops [⟨some 64, none, .mv (.tmp 15)⟩,
        ⟨some 65, none, .bin .gtr (.tmp 64) (.const (.int .i64 0))⟩])
      (.cond (.tmp 65)
        .skip
        (.exit 6)))
      (.seq (.block 7
        (.seq (.seq (.ops [⟨some 68, none, .mv (.const (.int .i64 0))⟩])
        (.block 8
          (.loop
            (.seq (.ops [⟨some 69, none, .bin .lss (.tmp 68) (.const (.int .i64 4))⟩])
            (.seq (.cond (.tmp 69)
              .skip
              (.exit 8))
            (.seq (.block 9
              (.ops [⟨some 70, none, .mv (.tmp 14)⟩,
                ⟨some 71, none, .mv (.tmp 14)⟩,
                ⟨some 72, none, .mv (.tmp 2)⟩,
                ⟨some 73, none, .call 63 [(.tmp 70), (.tmp 71), (.tmp 72)]⟩,
                ⟨some 14, none, .mv (.tmp 73)⟩]))
            (.ops [⟨some 74, none, .bin .add (.tmp 68) (.const (.int .i64 1))⟩,
              ⟨some 68, none, .mv (.tmp 74)⟩])))))))
        (.ops [⟨some 75, none, .mv (.tmp 14)⟩,
          ⟨some 76, none, .mv (.tmp 1)⟩,
          ⟨some 77, none, .mv (.tmp 15)⟩,
          ⟨some 78, none, .bin .sub (.tmp 77) (.const (.int .i64 4))⟩,
          ⟨some 79, none, .bin .quo (.tmp 78) (.const (.int .i64 32))⟩,
          ⟨some 80, none, .ia 1 (.tmp 76) (.tmp 79)⟩,
          ⟨some 81, none, .ld (.int .u32) (.tmp 80)⟩,
          ⟨some 82, none, .mv (.tmp 15)⟩,
          ⟨some 83, none, .bin .sub (.tmp 82) (.const (.int .i64 4))⟩,
          ⟨some 84, none, .bin .rem (.tmp 83) (.const (.int .i64 32))⟩,
          ⟨some 85, none, .bin .shr (.tmp 81) (.tmp 84)⟩,
          ⟨some 86, none, .bin .and (.tmp 85) (.const (.int .u32 15))⟩,
          ⟨some 87, none, .iaA 16 1 (.tmp 12) (.tmp 86)⟩,
          ⟨some 88, none, .ld .slice (.tmp 87)⟩,
          ⟨some 89, none, .mv (.tmp 2)⟩,
          ⟨some 90, none, .call 63 [(.tmp 75), (.tmp 88), (.tmp 89)]⟩,
          ⟨some 14, none, .mv (.tmp 90)⟩])))
      (.ops [⟨some 66, none, .mv (.tmp 15)⟩,
        ⟨some 67, none, .bin .sub (.tmp 66) (.const (.int .i64 4))⟩,
        ⟨some 15, none, .mv (.tmp 67)⟩]))))))
  (.seq (.ops [⟨some 91, none, .mv (.tmp 14)⟩,
    ⟨some 92, none, .call 22 [(.tmp 91)]⟩,
    ⟨some 6, none, .mv (.tmp 92)⟩,
    ⟨some 7, none, .mv (.const (.int .i64 0))⟩])
  .ret)))))))))))⟩
theorem h35 : strF Try.prog [] Try.f35 = some c35 := by kernel_rfl

/-- chirograph/chirographref01.ExpMod -/
def c36 : Fun := ⟨122, [.inl 6, .inl 7],
  (.seq (.ops [⟨some 6, none, .mv (.const (.slice none 0 0))⟩,
    ⟨some 7, none, .mv (.const (.int .i64 0))⟩])
  (.seq (.seq (.ops [⟨some 20, none, .mv (.tmp 0)⟩,
    ⟨some 21, none, .len (.tmp 20)⟩,
    ⟨some 22, none, .bin .gtr (.tmp 21) (.const (.int .i64 512))⟩,
    ⟨some 23, none, .mv (.tmp 22)⟩,
    ⟨some 24, some (23, false), .mv (.tmp 1)⟩,
    ⟨some 25, some (23, false), .mv (.tmp 2)⟩,
    ⟨some 26, some (23, false), .call 50 [(.const (.int .i64 256)), (.tmp 24), (.tmp 25)]⟩,
    ⟨some 27, none, .pick (.tmp 23) (.const (.bool true)) (.tmp 26)⟩])
  (.cond (.tmp 27)
    (.seq (.ops [⟨some 6, none, .mv (.const (.slice none 0 0))⟩,
      ⟨some 7, none, .mv (.const (.int .i64 3))⟩])
    .ret)
    .skip))
  (.seq (.ops [⟨some 28, none, .mv (.tmp 2)⟩,
    ⟨some 29, none, .call 53 [(.tmp 28)]⟩,
    ⟨some 8, none, .mv (.tmp 29)⟩])
  (.seq (.seq (.ops [⟨some 30, none, .mv (.tmp 8)⟩,
    ⟨some 31, none, .len (.tmp 30)⟩,
    ⟨some 32, none, .bin .eql (.tmp 31) (.const (.int .i64 0))⟩])
  (.cond (.tmp 32)
    (.seq (.ops [⟨some 6, none, .mv (.const (.slice none 0 0))⟩,
      ⟨some 7, none, .mv (.const (.int .i64 11))⟩])
    .ret)
    .skip))
  (.seq (.ops [⟨some 33, none, .mv (.tmp 8)⟩,
    ⟨some 34, none, .call 51 [(.tmp 33)]⟩,
    ⟨some 2, none, .mv (.tmp 34)⟩])
  (.seq (.ops [⟨some 35, none, .bsl 50 1 1 #[(.int .u64 0)] [(0, (.const (.int .u64 1)))]⟩,
    ⟨some 9, none, .mv (.tmp 35)⟩])
  (.seq (.block 0
    (.loop
      (.seq (.seq (.ops [⟨some 36, none, .mv (.tmp 2)⟩,
        ⟨some 37, none, .mv (.tmp 2)⟩,
        ⟨some 38, none, .len (.tmp 37)⟩,
        ⟨some 39, none, .bin .sub (.tmp 38) (.const (.int .i64 1))⟩,
        ⟨some 40, none, .ia 1 (.tmp 36) (.tmp 39)⟩,
        ⟨some 41, none, .ld (.int .u32) (.tmp 40)⟩,
        ⟨some 42, none, .bin .lss (.tmp 41) (.const (.int .u32 2147483648))⟩])
      (.cond (.tmp 42)
        .skip
        (.exit 0)))
      (.block 1
        (.seq (.ops [⟨some 43, none, .mv (.tmp 2)⟩,
          ⟨some 44, none, .call 53 [(.tmp 43)]⟩,
          ⟨some 45, none, .mv (.tmp 2)⟩,
          ⟨some 46, none, .call 53 [(.tmp 45)]⟩,
          ⟨some 47, none, .call 52 [(.tmp 44), (.tmp 46)]⟩,
          ⟨some 48, none, .call 51 [(.tmp 47)]⟩,
          ⟨some 2, none, .mv (.tmp 48)⟩])
        (.ops [⟨some 49, none, .mv (.tmp 9)⟩,
          ⟨some 50, none, .mv (.tmp 9)⟩,
          ⟨some 51, none, .call 52 [(.tmp 49), (.tmp 50)]⟩,
          ⟨some 9, none, .mv (.tmp 51)⟩]))))))
  (.seq (.ops [⟨some 52, none, .mv (.tmp 2)⟩,
    ⟨some 53, none, .mv (.tmp 2)⟩,
    ⟨some 54, none, .len (.tmp 53)⟩,
    ⟨some 55, none, .call 64 [(.tmp 52), (.tmp 54)]⟩,
    ⟨some 10, none, .mv (.tmp 55)⟩])
  (.seq (.ops [⟨some 57, none, .mv (.tmp 0)⟩,
    ⟨some 58, none, .call 53 [(.tmp 57)]⟩,
    ⟨some 59, none, .mv (.tmp 8)⟩,
    ⟨some 60, none, .mv (.tmp 9)⟩,
    ⟨some 61, none, .call 60 [(.tmp 59), (.tmp 60)]⟩,
    ⟨some 62, none, .call 62 [(.tmp 58), (.tmp 61)]⟩,
    ⟨some 56, none, .mv (.tmp 62)⟩,
    ⟨some 63, none, .ext (.tmp 56) 0⟩,
    ⟨some 64, none, .ext (.tmp 56) 1⟩,
    ⟨some 11, none, .mv (.tmp 63)⟩,
    ⟨some 12, none, .mv (.tmp 64)⟩])
  (.seq (.ops [⟨some 65, none, .mv (.tmp 12)⟩,
    ⟨some 66, none, .call 51 [(.tmp 65)]⟩,
    ⟨some 67, none, .mv (.tmp 10)⟩,
    ⟨some 68, none, .len (.tmp 67)⟩,
    ⟨some 69, none, .call 64 [(.tmp 66), (.tmp 68)]⟩,
    ⟨some 13, none, .mv (.tmp 69)⟩])
  (.seq (.ops [⟨some 70, none, .bsl 42 1 1 #[(.int .u32 0)] [(0, (.const (.int .u32 1)))]⟩,
    ⟨some 71, none, .mv (.tmp 10)⟩,
    ⟨some 72, none, .len (.tmp 71)⟩,
    ⟨some 73, none, .call 64 [(.tmp 70), (.tmp 72)]⟩,
    ⟨some 14, none, .mv (.tmp 73)⟩])
  (.seq (.seq (.ops [⟨some 74, none, .mv (.tmp 1)⟩,
    ⟨some 75, none, .call 25 [(.tmp 74)]⟩,
    ⟨some 76, none, .bin .sub (.tmp 75) (.const (.int .i64 1))⟩,
    ⟨some 15, none, .mv (.tmp 76)⟩])
  (.block 2
    (.loop
      (.seq (.seq (.ops [⟨some 77, none, .mv (.tmp 15)⟩,
        ⟨some 78, none, .bin .geq (.tmp 77) (.const (.int .i64 0))⟩])
      (.cond (.tmp 78)
        .skip
        (.exit 2)))
      (.join (.block 3
        (.seq (.ops [⟨some 81, none, .mv (.tmp 14)⟩,
          ⟨some 82, none, .mv (.tmp 14)⟩,
          ⟨some 83, none, .mv (.tmp 10)⟩,
          ⟨some 84, none, .call 65 [(.tmp 81), (.tmp 82), (.tmp 83)]⟩,
          ⟨some 14, none, .mv (.tmp 84)⟩])
        (.seq (.ops [⟨some 85, none, .mv (.tmp 1)⟩,
          ⟨some 86, none, .mv (.tmp 15)⟩,
          ⟨some 87, none, .bin .quo (.tmp 86) (.const (.int .i64 32))⟩,
          ⟨some 88, none, .ia 1 (.tmp 85) (.tmp 87)⟩,
          ⟨some 89, none, .ld (.int .u32) (.tmp 88)⟩,
          ⟨some 90, none, .mv (.tmp 15)⟩,
          ⟨some 91, none, .bin .rem (.tmp 90) (.const (.int .i64 32))⟩,
          ⟨some 92, none, .bin .shr (.tmp 89) (.tmp 91)⟩,
          ⟨some 93, none, .bin .and (.tmp 92) (.const (.int .u32 1))⟩,
          ⟨some 94, none, .bin .eql (.tmp 93) (.const (.int .u32 1))⟩])
        (.cond (.tmp 94)
          (.ops [⟨some 95, none, .mv (.tmp 14)⟩,
            ⟨some 96, none, .mv (.tmp 13)⟩,
            ⟨some 97, none, .mv (.tmp 10)⟩,
            ⟨some 98, none, .call 65 [(.tmp 95), (.tmp 96), (.tmp 97)]⟩,
            ⟨some 14, none, .mv (.tmp 98)⟩])
          .skip))))
      (.ops [⟨some 79, none, .mv (.tmp 15)⟩,
        ⟨some 80, none, .bin .sub (.tmp 79) (.const (.int .i64 1))⟩,
        ⟨some 15, none, .mv (.tmp 80)⟩]))))))
  (.seq (.ops [⟨some 16, none, .mv (.const (.slice none 0 0))⟩])
  (.seq (.seq (.ops [⟨some 17, none, .mv (.const (.int .i64 0))⟩])
  (.block 4
    (.loop
      (.seq (.seq (.ops [⟨some 99, none, .mv (.tmp 17)⟩,
        ⟨some 100, none, .mv (.tmp 14)⟩,
        ⟨some 101, none, .len (.tmp 100)⟩,
        ⟨some 102, none, .bin .lss (.tmp 99) (.tmp 101)⟩])
      (.cond (.tmp 102)
        .skip
        (.exit 4)))
      (.seq (.block 5
        (.ops [⟨some 105, none, .mv (.tmp 16)⟩,
          ⟨some 106, none, .mv (.tmp 14)⟩,
          ⟨some 107, none, .mv (.tmp 17)⟩,
          ⟨some 108, none, .ia 1 (.tmp 106) (.tmp 107)⟩,
          ⟨some 109, none, .ld (.int .u64) (.tmp 108)⟩,
          ⟨some 110, none, .cv .u32 (.tmp 109)⟩,
          ⟨some 111, none, .bsl 42 1 1 #[(.int .u32 0)] [(0, (.tmp 110))]⟩,
          ⟨some 112, none, .app 42 1 4 #[(.int .u32 0)] (.tmp 105) (.tmp 111)⟩,
          ⟨some 16, none, .mv (.tmp 112)⟩]))
      (.ops [⟨some 103, none, .mv (.tmp 17)⟩,
        ⟨some 104, none, .bin .add (.tmp 103) (.const (.int .i64 1))⟩,
        ⟨some 17, none, .mv (.tmp 104)⟩]))))))
  (.seq (.ops [⟨some 114, none, .mv (.tmp 16)⟩,
    ⟨some 115, none, .call 53 [(.tmp 114)]⟩,
    ⟨some 116, none, .mv (.tmp 8)⟩,
    ⟨some 117, none, .call 62 [(.tmp 115), (.tmp 116)]⟩,
    ⟨some 113, none, .mv (.tmp 117)⟩,
    ⟨some 118, none, .ext (.tmp 113) 0⟩,
    ⟨some 119, none, .ext (.tmp 113) 1⟩,
    ⟨some 18, none, .mv (.tmp 118)⟩,
    ⟨some 19, none, .mv (.tmp 119)⟩])
  (.seq (.ops [⟨some 120, none, .mv (.tmp 19)⟩,
    ⟨some 121, none, .call 51 [(.tmp 120)]⟩,
    ⟨some 6, none, .mv (.tmp 121)⟩,
    ⟨some 7, none, .mv (.const (.int .i64 0))⟩])
  .ret))))))))))))))))⟩
theorem h36 : strF Try.prog [] Try.f36 = some c36 := by kernel_rfl

/-- chirograph/nat.Inverse -/
def c37 : Fun := ⟨72, [.inl 4, .inl 5],
  (.seq (.ops [⟨some 4, none, .mv (.const (.slice none 0 0))⟩,
    ⟨some 5, none, .mv (.const (.int .i64 0))⟩])
  (.seq (.block 0
    (.seq (.ops [⟨some 15, none, .mv (.tmp 0)⟩,
      ⟨some 16, none, .mv (.tmp 1)⟩,
      ⟨some 17, none, .bsl 22 1 2 #[(.slice none 0 0)] [(0, (.tmp 15)), (1, (.tmp 16))]⟩,
      ⟨some 18, none, .call 48 [(.const (.int .i64 512)), (.tmp 17)]⟩,
      ⟨some 14, none, .mv (.tmp 18)⟩])
    (.cond (.tmp 14)
      (.seq (.ops [⟨some 4, none, .mv (.const (.slice none 0 0))⟩,
        ⟨some 5, none, .mv (.const (.int .i64 3))⟩])
      .ret)
      (.seq (.ops [⟨some 20, none, .mv (.tmp 1)⟩,
        ⟨some 21, none, .call 24 [(.tmp 20)]⟩,
        ⟨some 22, none, .bin .eql (.tmp 21) (.const (.int .i64 0))⟩,
        ⟨some 19, none, .mv (.tmp 22)⟩])
      (.cond (.tmp 19)
        (.seq (.ops [⟨some 4, none, .mv (.const (.slice none 0 0))⟩,
          ⟨some 5, none, .mv (.const (.int .i64 11))⟩])
        .ret)
        .skip)))))
  (.seq (.ops [⟨some 23, none, .mv (.tmp 1)⟩,
    ⟨some 24, none, .call 55 [(.tmp 23)]⟩,
    ⟨some 1, none, .mv (.tmp 24)⟩])
  (.seq (.ops [⟨some 26, none, .mv (.tmp 0)⟩,
    ⟨some 27, none, .mv (.tmp 1)⟩,
    ⟨some 28, none, .call 61 [(.tmp 26), (.tmp 27)]⟩,
    ⟨some 25, none, .mv (.tmp 28)⟩,
    ⟨some 29, none, .ext (.tmp 25) 0⟩,
    ⟨some 30, none, .ext (.tmp 25) 1⟩,
    ⟨some 6, none, .mv (.tmp 29)⟩,
    ⟨some 7, none, .mv (.tmp 30)⟩])
  (.seq (.ops [⟨some 31, none, .mv (.tmp 1)⟩,
    ⟨some 32, none, .call 22 [(.tmp 31)]⟩,
    ⟨some 8, none, .mv (.tmp 32)⟩])
  (.seq (.ops [⟨some 33, none, .bsl 42 1 1 #[(.int .u32 0)] [(0, (.const (.int .u32 1)))]⟩,
    ⟨some 9, none, .mv (.tmp 33)⟩,
    ⟨some 10, none, .mv (.const (.slice none 0 0))⟩])
  (.seq (.block 1
    (.loop
      (.seq (.seq (.ops [⟨some 34, none, .mv (.tmp 7)⟩,
        ⟨some 35, none, .call 24 [(.tmp 34)]⟩,
        ⟨some 36, none, .bin .gtr (.tmp 35) (.const (.int .i64 0))⟩])
      (.cond (.tmp 36)
        .skip
        (.exit 1)))
      (.block 2
        (.seq (.ops [⟨some 38, none, .mv (.tmp 8)⟩,
          ⟨some 39, none, .mv (.tmp 7)⟩,
          ⟨some 40, none, .call 61 [(.tmp 38), (.tmp 39)]⟩,
          ⟨some 37, none, .mv (.tmp 40)⟩,
          ⟨some 41, none, .ext (.tmp 37) 0⟩,
          ⟨some 42, none, .ext (.tmp 37) 1⟩,
          ⟨some 11, none, .mv (.tmp 41)⟩,
          ⟨some 12, none, .mv (.tmp 42)⟩])
        (.seq (.ops [⟨some 43, none, .mv (.tmp 11)⟩,
          ⟨some 44, none, .mv (.tmp 9)⟩,
          ⟨some 45, none, .mv (.tmp 1)⟩,
          ⟨some 46, none, .call 63 [(.tmp 43), (.tmp 44), (.tmp 45)]⟩,
          ⟨some 13, none, .mv (.tmp 46)⟩])
        (.join (.seq (.ops [⟨some 47, none, .mv (.tmp 10)⟩,
          ⟨some 48, none, .mv (.tmp 13)⟩,
          ⟨some 49, none, .call 26 [(.tmp 47), (.tmp 48)]⟩,
          ⟨some 50, none, .bin .lss (.tmp 49) (.const (.int .i64 0))⟩])
        (.cond (.tmp 50)
          (.ops [⟨some 51, none, .mv (.tmp 10)⟩,
            ⟨some 52, none, .mv (.tmp 1)⟩,
            ⟨some 53, none, .call 49 [(.tmp 51), (.tmp 52)]⟩,
            ⟨some 10, none, .mv (.tmp 53)⟩])
          .skip))
        (.seq (.ops [⟨some 54, none, .mv (.tmp 7)⟩,
          ⟨some 55, none, .mv (.tmp 12)⟩,
          ⟨some 8, none, .mv (.tmp 54)⟩,
          ⟨some 7, none, .mv (.tmp 55)⟩])
        (.ops [⟨some 56, none, .mv (.tmp 10)⟩,
          ⟨some 57, none, .mv (.tmp 13)⟩,
          ⟨some 58, none, .call 54 [(.tmp 56), (.tmp 57)]⟩,
          ⟨some 59, none, .mv (.tmp 9)⟩,
          ⟨some 9, none, .mv (.tmp 58)⟩,
          ⟨some 10, none, .mv (.tmp 59)⟩])))))))))
  (.seq (.seq (.ops [⟨some 60, none, .mv (.tmp 8)⟩,
    ⟨some 61, none, .bsl 42 1 1 #[(.int .u32 0)] [(0, (.const (.int .u32 1)))]⟩,
    ⟨some 62, none, .call 26 [(.tmp 60), (.tmp 61)]⟩,
    ⟨some 63, none, .bin .neq (.tmp 62) (.const (.int .i64 0))⟩])
  (.cond (.tmp 63)
    (.seq (.ops [⟨some 4, none, .mv (.const (.slice none 0 0))⟩,
      ⟨some 5, none, .mv (.const (.int .i64 5))⟩])
    .ret)
    .skip))
  (.seq (.ops [⟨some 65, none, .mv (.tmp 10)⟩,
    ⟨some 66, none, .mv (.tmp 1)⟩,
    ⟨some 67, none, .call 61 [(.tmp 65), (.tmp 66)]⟩,
    ⟨some 64, none, .mv (.tmp 67)⟩,
    ⟨some 68, none, .ext (.tmp 64) 0⟩,
    ⟨some 69, none, .ext (.tmp 64) 1⟩,
    ⟨some 10, none, .mv (.tmp 69)⟩])
  (.seq (.ops [⟨some 70, none, .mv (.tmp 10)⟩,
    ⟨some 71, none, .call 22 [(.tmp 70)]⟩,
    ⟨some 4, none, .mv (.tmp 71)⟩,
    ⟨some 5, none, .mv (.const (.int .i64 0))⟩])
  .ret))))))))))⟩
theorem h37 : strF Try.prog [] Try.f37 = some c37 := by kernel_rfl

/-- chirograph/chirographref01.Inverse -/
def c38 : Fun := ⟨78, [.inl 4, .inl 5],
  (.seq (.ops [⟨some 4, none, .mv (.const (.slice none 0 0))⟩,
    ⟨some 5, none, .mv (.const (.int .i64 0))⟩])
  (.seq (.seq (.ops [⟨some 18, none, .mv (.tmp 0)⟩,
    ⟨some 19, none, .mv (.tmp 1)⟩,
    ⟨some 20, none, .call 50 [(.const (.int .i64 512)), (.tmp 18), (.tmp 19)]⟩])
  (.cond (.tmp 20)
    (.seq (.ops [⟨some 4, none, .mv (.const (.slice none 0 0))⟩,
      ⟨some 5, none, .mv (.const (.int .i64 3))⟩])
    .ret)
    .skip))
  (.seq (.ops [⟨some 21, none, .mv (.tmp 1)⟩,
    ⟨some 22, none, .call 53 [(.tmp 21)]⟩,
    ⟨some 6, none, .mv (.tmp 22)⟩])
  (.seq (.seq (.ops [⟨some 23, none, .mv (.tmp 6)⟩,
    ⟨some 24, none, .len (.tmp 23)⟩,
    ⟨some 25, none, .bin .eql (.tmp 24) (.const (.int .i64 0))⟩])
  (.cond (.tmp 25)
    (.seq (.ops [⟨some 4, none, .mv (.const (.slice none 0 0))⟩,
      ⟨some 5, none, .mv (.const (.int .i64 11))⟩])
    .ret)
    .skip))
  (.seq (.ops [⟨some 27, none, .mv (.tmp 0)⟩,
    ⟨some 28, none, .call 53 [(.tmp 27)]⟩,
    ⟨some 29, none, .mv (.tmp 6)⟩,
    ⟨some 30, none, .call 62 [(.tmp 28), (.tmp 29)]⟩,
    ⟨some 26, none, .mv (.tmp 30)⟩,
    ⟨some 31, none, .ext (.tmp 26) 0⟩,
    ⟨some 32, none, .ext (.tmp 26) 1⟩,
    ⟨some 7, none, .mv (.tmp 31)⟩,
    ⟨some 8, none, .mv (.tmp 32)⟩])
  (.seq (.ops [⟨some 33, none, .mv (.tmp 6)⟩,
    ⟨some 9, none, .mv (.tmp 33)⟩])
  (.seq (.ops [⟨some 34, none, .bsl 50 1 1 #[(.int .u64 0)] [(0, (.const (.int .u64 1)))]⟩,
    ⟨some 10, none, .mv (.tmp 34)⟩])
  (.seq (.ops [⟨some 11, none, .mv (.const (.slice none 0 0))⟩])
  (.seq (.block 0
    (.loop
      (.seq (.seq (.ops [⟨some 35, none, .mv (.tmp 8)⟩,
        ⟨some 36, none, .len (.tmp 35)⟩,
        ⟨some 37, none, .bin .gtr (.tmp 36) (.const (.int .i64 0))⟩])
      (.cond (.tmp 37)
        .skip
        (.exit 0)))
      (.block 1
        (.seq (.ops [⟨some 39, none, .mv (.tmp 9)⟩,
          ⟨some 40, none, .mv (.tmp 8)⟩,
          ⟨some 41, none, .call 62 [(.tmp 39), (.tmp 40)]⟩,
          ⟨some 38, none, .mv (.tmp 41)⟩,
          ⟨some 42, none, .ext (.tmp 38) 0⟩,
          ⟨some 43, none, .ext (.tmp 38) 1⟩,
          ⟨some 12, none, .mv (.tmp 42)⟩,
          ⟨some 13, none, .mv (.tmp 43)⟩])
        (.seq (.ops [⟨some 45, none, .mv (.tmp 12)⟩,
          ⟨some 46, none, .mv (.tmp 10)⟩,
          ⟨some 47, none, .call 60 [(.tmp 45), (.tmp 46)]⟩,
          ⟨some 48, none, .mv (.tmp 6)⟩,
          ⟨some 49, none, .call 62 [(.tmp 47), (.tmp 48)]⟩,
          ⟨some 44, none, .mv (.tmp 49)⟩,
          ⟨some 50, none, .ext (.tmp 44) 0⟩,
          ⟨some 51, none, .ext (.tmp 44) 1⟩,
          ⟨some 14, none, .mv (.tmp 50)⟩,
          ⟨some 15, none, .mv (.tmp 51)⟩])
        (.seq (.ops [⟨some 53, none, .mv (.tmp 11)⟩,
          ⟨some 54, none, .mv (.tmp 6)⟩,
          ⟨some 55, none, .mv (.tmp 15)⟩,
          ⟨some 56, none, .call 56 [(.tmp 54), (.tmp 55)]⟩,
          ⟨some 57, none, .call 52 [(.tmp 53), (.tmp 56)]⟩,
          ⟨some 58, none, .mv (.tmp 6)⟩,
          ⟨some 59, none, .call 62 [(.tmp 57), (.tmp 58)]⟩,
          ⟨some 52, none, .mv (.tmp 59)⟩,
          ⟨some 60, none, .ext (.tmp 52) 0⟩,
          ⟨some 61, none, .ext (.tmp 52) 1⟩,
          ⟨some 16, none, .mv (.tmp 60)⟩,
          ⟨some 17, none, .mv (.tmp 61)⟩])
        (.seq (.ops [⟨some 62, none, .mv (.tmp 8)⟩,
          ⟨some 63, none, .mv (.tmp 13)⟩,
          ⟨some 9, none, .mv (.tmp 62)⟩,
          ⟨some 8, none, .mv (.tmp 63)⟩])
        (.ops [⟨some 64, none, .mv (.tmp 10)⟩,
          ⟨some 65, none, .mv (.tmp 17)⟩,
          ⟨some 11, none, .mv (.tmp 64)⟩,
          ⟨some 10, none, .mv (.tmp 65)⟩])))))))))
  (.seq (.seq (.ops [⟨some 66, none, .mv (.tmp 9)⟩,
    ⟨some 67, none, .bsl 50 1 1 #[(.int .u64 0)] [(0, (.const (.int .u64 1)))]⟩,
    ⟨some 68, none, .call 58 [(.tmp 66), (.tmp 67)]⟩,
    ⟨some 69, none, .bin .neq (.tmp 68) (.const (.int .i64 0))⟩])
  (.cond (.tmp 69)
    (.seq (.ops [⟨some 4, none, .mv (.const (.slice none 0 0))⟩,
      ⟨some 5, none, .mv (.const (.int .i64 5))⟩])
    .ret)
    .skip))
  (.seq (.ops [⟨some 71, none, .mv (.tmp 11)⟩,
    ⟨some 72, none, .mv (.tmp 6)⟩,
    ⟨some 73, none, .call 62 [(.tmp 71), (.tmp 72)]⟩,
    ⟨some 70, none, .mv (.tmp 73)⟩,
    ⟨some 74, none, .ext (.tmp 70) 0⟩,
    ⟨some 75, none, .ext (.tmp 70) 1⟩,
    ⟨some 11, none, .mv (.tmp 75)⟩])
  (.seq (.ops [⟨some 76, none, .mv (.tmp 11)⟩,
    ⟨some 77, none, .call 51 [(.tmp 76)]⟩,
    ⟨some 4, none, .mv (.tmp 77)⟩,
    ⟨some 5, none, .mv (.const (.int .i64 0))⟩])
  .ret))))))))))))⟩
theorem h38 : strF Try.prog [] Try.f38 = some c38 := by kernel_rfl

/-- chirograph/nat.FromBytes -/
def c39 : Fun := ⟨42, [.inl 2, .inl 3],
  (.seq (.ops [⟨some 2, none, .mv (.const (.slice none 0 0))⟩,
    ⟨some 3, none, .mv (.const (.int .i64 0))⟩])
  (.seq (.seq (.ops [⟨some 6, none, .mv (.tmp 0)⟩,
    ⟨some 7, none, .len (.tmp 6)⟩,
    ⟨some 8, none, .bin .gtr (.tmp 7) (.const (.int .i64 2048))⟩])
  (.cond (.tmp 8)
    (.seq (.ops [⟨some 2, none, .mv (.const (.slice none 0 0))⟩,
      ⟨some 3, none, .mv (.const (.int .i64 3))⟩])
    .ret)
    .skip))
  (.seq (.ops [⟨some 9, none, .mv (.tmp 0)⟩,
    ⟨some 10, none, .len (.tmp 9)⟩,
    ⟨some 11, none, .bin .add (.tmp 10) (.const (.int .i64 3))⟩,
    ⟨some 12, none, .bin .quo (.tmp 11) (.const (.int .i64 4))⟩,
    ⟨some 13, none, .mks 42 1 4 #[(.int .u32 0)] (.tmp 12) (.tmp 12)⟩,
    ⟨some 4, none, .mv (.tmp 13)⟩])
  (.seq (.seq (.ops [⟨some 14, none, .mv (.tmp 0)⟩,
    ⟨some 15, none, .len (.tmp 14)⟩,
    ⟨some 16, none, .mv (.const (.int .i64 0))⟩])
  (.block 0
    (.loop
      (.seq (.ops [⟨some 17, none, .bin .lss (.tmp 16) (.tmp 15)⟩])
      (.seq (.cond (.tmp 17)
        .skip
        (.exit 0))
      (.seq (.block 1
        (.seq (.ops [⟨some 18, none, .mv (.tmp 16)⟩,
          ⟨some 5, none, .mv (.tmp 18)⟩])
        (.draw 20 [⟨some 19, none, .mv (.tmp 4)⟩,
          ⟨some 20, none, .mv (.tmp 5)⟩,
          ⟨some 21, none, .bin .quo (.tmp 20) (.const (.int .i64 4))⟩,
          ⟨some 22, none, .ia 1 (.tmp 19) (.tmp 21)⟩,
          ⟨some 23, none, .ld (.int .u32) (.tmp 22)⟩,
          ⟨some 24, none, .mv (.tmp 0)⟩,
          ⟨some 25, none, .mv (.tmp 0)⟩,
          ⟨some 26, none, .len (.tmp 25)⟩,
          ⟨some 27, none, .bin .sub (.tmp 26) (.const (.int .i64 1))⟩,
          ⟨some 28, none, .mv (.tmp 5)⟩,
          ⟨some 29, none, .bin .sub (.tmp 27) (.tmp 28)⟩,
          ⟨some 30, none, .ia 1 (.tmp 24) (.tmp 29)⟩,
          ⟨some 31, none, .ld (.int .u8) (.tmp 30)⟩,
          ⟨some 32, none, .cv .u32 (.tmp 31)⟩,
          ⟨some 33, none, .mv (.tmp 5)⟩,
          ⟨some 34, none, .bin .rem (.tmp 33) (.const (.int .i64 4))⟩,
          ⟨some 35, none, .bin .mul (.const (.int .i64 8)) (.tmp 34)⟩,
          ⟨some 36, none, .bin .shl (.tmp 32) (.tmp 35)⟩,
          ⟨some 37, none, .bin .or (.tmp 23) (.tmp 36)⟩,
          ⟨some 38, none, .ia 1 (.tmp 19) (.tmp 21)⟩,
          ⟨none, none, .st 1 (.tmp 38) (.tmp 37)⟩])))
      (.ops [⟨some 39, none, .bin .add (.tmp 16) (.const (.int .i64 1))⟩,
        ⟨some 16, none, .mv (.tmp 39)⟩])))))))
  (.seq (.ops [⟨some 40, none, .mv (.tmp 4)⟩,
    ⟨some 41, none, .call 55 [(.tmp 40)]⟩,
    ⟨some 2, none, .mv (.tmp 41)⟩,
    ⟨some 3, none, .mv (.const (.int .i64 0))⟩])
  .ret)))))⟩
theorem h39 : strF Try.prog [] Try.f39 = some c39 := by kernel_rfl

/-- chirograph/nat.Bytes -/
def c40 : Fun := ⟨55, [.inl 4, .inl 5],
  (.seq (.ops [⟨some 4, none, .mv (.const (.slice none 0 0))⟩,
    ⟨some 5, none, .mv (.const (.int .i64 0))⟩])
  (.seq (.block 0
    (.seq (.ops [⟨some 9, none, .mv (.tmp 0)⟩,
      ⟨some 10, none, .bsl 22 1 1 #[(.slice none 0 0)] [(0, (.tmp 9))]⟩,
      ⟨some 11, none, .call 48 [(.const (.int .i64 512)), (.tmp 10)]⟩,
      ⟨some 8, none, .mv (.tmp 11)⟩])
    (.cond (.tmp 8)
      (.seq (.ops [⟨some 4, none, .mv (.const (.slice none 0 0))⟩,
        ⟨some 5, none, .mv (.const (.int .i64 3))⟩])
      .ret)
      (.seq (.ops [⟨some 13, none, .mv (.tmp 1)⟩,
        ⟨some 14, none, .bin .lss (.tmp 13) (.const (.int .i64 0))⟩,
        ⟨some 15, none, .mv (.tmp 14)⟩,
        ⟨some 16, some (15, false), .mv (.tmp 1)⟩,
        ⟨some 17, some (15, false), .bin .gtr (.tmp 16) (.const (.int .i64 2048))⟩,
        ⟨some 18, none, .pick (.tmp 15) (.const (.bool true)) (.tmp 17)⟩,
        ⟨some 12, none, .mv (.tmp 18)⟩])
      (.cond (.tmp 12)
        (.seq (.ops [⟨some 4, none, .mv (.const (.slice none 0 0))⟩,
          ⟨some 5, none, .mv (.const (.int .i64 1))⟩])
        .ret)
        (.seq (.ops [⟨some 20, none, .mv (.tmp 0)⟩,
          ⟨some 21, none, .call 24 [(.tmp 20)]⟩,
          ⟨some 22, none, .bin .add (.tmp 21) (.const (.int .i64 7))⟩,
          ⟨some 23, none, .bin .quo (.tmp 22) (.const (.int .i64 8))⟩,
          ⟨some 24, none, .mv (.tmp 1)⟩,
          ⟨some 25, none, .bin .gtr (.tmp 23) (.tmp 24)⟩,
          ⟨some 19, none, .mv (.tmp 25)⟩])
        (.cond (.tmp 19)
          (.seq (.ops [⟨some 4, none, .mv (.const (.slice none 0 0))⟩,
            ⟨some 5, none, .mv (.const (.int .i64 3))⟩])
          .ret)
          .skip)))))))
  (.seq (.ops [⟨some 26, none, .mv (.tmp 1)⟩,
    ⟨some 27, none, .mks 5 1 1 #[(.int .u8 0)] (.tmp 26) (.tmp 26)⟩,
    ⟨some 6, none, .mv (.tmp 27)⟩])
  (.seq (.seq (.ops [⟨some 28, none, .mv (.tmp 1)⟩,
    ⟨some 29, none, .mv (.const (.int .i64 0))⟩])
  (.block 1
    (.loop
      (.seq (.ops [⟨some 30, none, .bin .lss (.tmp 29) (.tmp 28)⟩])
      (.seq (.cond (.tmp 30)
        .skip
        (.exit 1))
      (.join (.block 2
        (.seq (.ops [⟨some 31, none, .mv (.tmp 29)⟩,
          ⟨some 7, none, .mv (.tmp 31)⟩])
        (.seq (.ops [⟨some 32, none, .mv (.tmp 7)⟩,
          ⟨some 33, none, .bin .quo (.tmp 32) (.const (.int .i64 4))⟩,
          ⟨some 34, none, .mv (.tmp 0)⟩,
          ⟨some 35, none, .len (.tmp 34)⟩,
          ⟨some 36, none, .bin .lss (.tmp 33) (.tmp 35)⟩])
        (.cond (.tmp 36)
          (.ops [⟨some 37, none, .mv (.tmp 6)⟩,
            ⟨some 38, none, .mv (.tmp 1)⟩,
            ⟨some 39, none, .bin .sub (.tmp 38) (.const (.int .i64 1))⟩,
            ⟨some 40, none, .mv (.tmp 7)⟩,
            ⟨some 41, none, .bin .sub (.tmp 39) (.tmp 40)⟩,
            ⟨some 42, none, .mv (.tmp 0)⟩,
            ⟨some 43, none, .mv (.tmp 7)⟩,
            ⟨some 44, none, .bin .quo (.tmp 43) (.const (.int .i64 4))⟩,
            ⟨some 45, none, .ia 1 (.tmp 42) (.tmp 44)⟩,
            ⟨some 46, none, .ld (.int .u32) (.tmp 45)⟩,
            ⟨some 47, none, .mv (.tmp 7)⟩,
            ⟨some 48, none, .bin .rem (.tmp 47) (.const (.int .i64 4))⟩,
            ⟨some 49, none, .bin .mul (.const (.int .i64 8)) (.tmp 48)⟩,
            ⟨some 50, none, .bin .shr (.tmp 46) (.tmp 49)⟩,
            ⟨some 51, none, .cv .u8 (.tmp 50)⟩,
            ⟨some 52, none, .ia 1 (.tmp 37) (.tmp 41)⟩,
            ⟨none, none, .st 1 (.tmp 52) (.tmp 51)⟩])
          .skip))))
      (.ops [⟨some 53, none, .bin .add (.tmp 29) (.const (.int .i64 1))⟩,
        ⟨some 29, none, .mv (.tmp 53)⟩])))))))
  (.seq (.ops [⟨some 54, none, .mv (.tmp 6)⟩,
    ⟨some 4, none, .mv (.tmp 54)⟩,
    ⟨some 5, none, .mv (.const (.int .i64 0))⟩])
  .ret)))))⟩
theorem h40 : strF Try.prog [] Try.f40 = some c40 := by kernel_rfl

/-- chirograph/chirographref01.SameBytes -/
def c41 : Fun := ⟨26, [.inl 4],
  (.seq (.ops [⟨some 4, none, .mv (.const (.bool false))⟩])
  (.seq (.seq (.ops [⟨some 6, none, .mv (.tmp 0)⟩,
    ⟨some 7, none, .len (.tmp 6)⟩,
    ⟨some 8, none, .mv (.tmp 1)⟩,
    ⟨some 9, none, .len (.tmp 8)⟩,
    ⟨some 10, none, .bin .neq (.tmp 7) (.tmp 9)⟩])
  (.cond (.tmp 10)
    (.seq (.ops [⟨some 4, none, .mv (.const (.bool false))⟩])
    .ret)
    .skip))
  (.seq (.seq (.ops [⟨some 5, none, .mv (.const (.int .i64 0))⟩])
  (.block 0
    (.loop
      (.seq (.seq (.ops [⟨some 11, none, .mv (.tmp 5)⟩,
        ⟨some 12, none, .mv (.tmp 0)⟩,
        ⟨some 13, none, .len (.tmp 12)⟩,
        ⟨some 14, none, .bin .lss (.tmp 11) (.tmp 13)⟩])
      (.cond (.tmp 14)
        .skip
        (.exit 0)))
      (.seq (.block 1
        (.seq (.draw 9 [⟨some 17, none, .mv (.tmp 0)⟩,
          ⟨some 18, none, .mv (.tmp 5)⟩,
          ⟨some 19, none, .ia 1 (.tmp 17) (.tmp 18)⟩,
          ⟨some 20, none, .ld (.int .u8) (.tmp 19)⟩,
          ⟨some 21, none, .mv (.tmp 1)⟩,
          ⟨some 22, none, .mv (.tmp 5)⟩,
          ⟨some 23, none, .ia 1 (.tmp 21) (.tmp 22)⟩,
          ⟨some 24, none, .ld (.int .u8) (.tmp 23)⟩,
          ⟨some 25, none, .bin .neq (.tmp 20) (.tmp 24)⟩])
        (.cond (.tmp 25)
          (.seq (.ops [⟨some 4, none, .mv (.const (.bool false))⟩])
          .ret)
          .skip)))
      (.ops [⟨some 15, none, .mv (.tmp 5)⟩,
        ⟨some 16, none, .bin .add (.tmp 15) (.const (.int .i64 1))⟩,
        ⟨some 5, none, .mv (.tmp 16)⟩]))))))
  (.seq (.ops [⟨some 4, none, .mv (.const (.bool true))⟩])
  .ret))))⟩
theorem h41 : strF Try.prog [] Try.f41 = some c41 := by kernel_rfl

/-- chirograph/chirographref01.LentBytes -/
def c42 : Fun := ⟨13, [.inl 2],
  (.seq (.ops [⟨some 2, none, .mv (.const (.slice none 0 0))⟩])
  (.seq (.ops [⟨some 4, none, .bsl0 5⟩,
    ⟨some 5, none, .mv (.tmp 0)⟩,
    ⟨some 6, none, .app 5 1 1 #[(.int .u8 0)] (.tmp 4) (.tmp 5)⟩,
    ⟨some 7, none, .bsl 5 1 2 #[(.int .u8 0)] [(0, (.const (.int .u8 90))), (1, (.const (.int .u8 165)))]⟩,
    ⟨some 8, none, .app 5 1 1 #[(.int .u8 0)] (.tmp 6) (.tmp 7)⟩,
    ⟨some 3, none, .mv (.tmp 8)⟩])
  (.seq (.ops [⟨some 9, none, .mv (.tmp 3)⟩,
    ⟨some 10, none, .mv (.tmp 0)⟩,
    ⟨some 11, none, .len (.tmp 10)⟩,
    ⟨some 12, none, .slc 1 (.tmp 9) none (some (.tmp 11)) none⟩,
    ⟨some 2, none, .mv (.tmp 12)⟩])
  .ret)))⟩
theorem h42 : strF Try.prog [] Try.f42 = some c42 := by kernel_rfl

/-- chirograph/chirographref01.FromBytes -/
def c43 : Fun := ⟨39, [.inl 2, .inl 3],
  (.seq (.ops [⟨some 2, none, .mv (.const (.slice none 0 0))⟩,
    ⟨some 3, none, .mv (.const (.int .i64 0))⟩])
  (.seq (.seq (.ops [⟨some 7, none, .mv (.tmp 0)⟩,
    ⟨some 8, none, .len (.tmp 7)⟩,
    ⟨some 9, none, .bin .gtr (.tmp 8) (.const (.int .i64 2048))⟩])
  (.cond (.tmp 9)
    (.seq (.ops [⟨some 2, none, .mv (.const (.slice none 0 0))⟩,
      ⟨some 3, none, .mv (.const (.int .i64 3))⟩])
    .ret)
    .skip))
  (.seq (.ops [⟨some 4, none, .mv (.const (.slice none 0 0))⟩])
  (.seq (.seq (.ops [⟨some 10, none, .mv (.tmp 0)⟩,
    ⟨some 11, none, .len (.tmp 10)⟩,
    ⟨some 12, none, .bin .sub (.tmp 11) (.const (.int .i64 1))⟩,
    ⟨some 5, none, .mv (.tmp 12)⟩])
  (.block 0
    (.loop
      (.seq (.seq (.ops [⟨some 13, none, .mv (.tmp 5)⟩,
        ⟨some 14, none, .bin .geq (.tmp 13) (.const (.int .i64 0))⟩])
      (.cond (.tmp 14)
        .skip
        (.exit 0)))
      (.seq (.block 1
        (.seq (.ops [⟨some 17, none, .mv (.tmp 0)⟩,
          ⟨some 18, none, .mv (.tmp 5)⟩,
          ⟨some 19, none, .ia 1 (.tmp 17) (.tmp 18)⟩,
          ⟨some 20, none, .ld (.int .u8) (.tmp 19)⟩,
          ⟨some 21, none, .cv .u64 (.tmp 20)⟩,
          ⟨some 6, none, .mv (.tmp 21)⟩])
        (.join (.seq (.ops [⟨some 22, none, .mv (.tmp 5)⟩,
          ⟨some 23, none, .bin .gtr (.tmp 22) (.const (.int .i64 0))⟩])
        (.cond (.tmp 23)
          (.ops [⟨some 24, none, .mv (.tmp 6)⟩,
            ⟨some 25, none, .mv (.tmp 0)⟩,
            ⟨some 26, none, .mv (.tmp 5)⟩,
            ⟨some 27, none, .bin .sub (.tmp 26) (.const (.int .i64 1))⟩,
            ⟨some 28, none, .ia 1 (.tmp 25) (.tmp 27)⟩,
            ⟨some 29, none, .ld (.int .u8) (.tmp 28)⟩,
            ⟨some 30, none, .cv .u64 (.tmp 29)⟩,
            ⟨some 31, none, .bin .shl (.tmp 30) (.const (.int .u64 8))⟩,
            ⟨some 32, none, .bin .add (.tmp 24) (.tmp 31)⟩,
            ⟨some 6, none, .mv (.tmp 32)⟩])
          .skip))
        (.ops [⟨some 33, none, .mv (.tmp 4)⟩,
          ⟨some 34, none, .mv (.tmp 6)⟩,
          ⟨some 35, none, .bsl 50 1 1 #[(.int .u64 0)] [(0, (.tmp 34))]⟩,
          ⟨some 36, none, .app 50 1 8 #[(.int .u64 0)] (.tmp 33) (.tmp 35)⟩,
          ⟨some 4, none, .mv (.tmp 36)⟩]))))
      (.ops [⟨some 15, none, .mv (.tmp 5)⟩,
        ⟨some 16, none, .bin .sub (.tmp 15) (.const (.int .i64 2))⟩,
        ⟨some 5, none, .mv (.tmp 16)⟩]))))))
  (.seq (.ops [⟨some 37, none, .mv (.tmp 4)⟩,
    ⟨some 38, none, .call 51 [(.tmp 37)]⟩,
    ⟨some 2, none, .mv (.tmp 38)⟩,
    ⟨some 3, none, .mv (.const (.int .i64 0))⟩])
  .ret)))))⟩
theorem h43 : strF Try.prog [] Try.f43 = some c43 := by kernel_rfl

/-- chirograph/chirographref01.Bytes -/
def c44 : Fun := ⟨48, [.inl 4, .inl 5],
  (.seq (.ops [⟨some 4, none, .mv (.const (.slice none 0 0))⟩,
    ⟨some 5, none, .mv (.const (.int .i64 0))⟩])
  (.seq (.seq (.ops [⟨some 9, none, .mv (.tmp 0)⟩,
    ⟨some 10, none, .len (.tmp 9)⟩,
    ⟨some 11, none, .bin .gtr (.tmp 10) (.const (.int .i64 512))⟩])
  (.cond (.tmp 11)
    (.seq (.ops [⟨some 4, none, .mv (.const (.slice none 0 0))⟩,
      ⟨some 5, none, .mv (.const (.int .i64 3))⟩])
    .ret)
    .skip))
  (.seq (.seq (.ops [⟨some 12, none, .mv (.tmp 1)⟩,
    ⟨some 13, none, .bin .lss (.tmp 12) (.const (.int .i64 0))⟩,
    ⟨some 14, none, .mv (.tmp 13)⟩,
    ⟨some 15, some (14, false), .mv (.tmp 1)⟩,
    ⟨some 16, some (14, false), .bin .gtr (.tmp 15) (.const (.int .i64 2048))⟩,
    ⟨some 17, none, .pick (.tmp 14) (.const (.bool true)) (.tmp 16)⟩])
  (.cond (.tmp 17)
    (.seq (.ops [⟨some 4, none, .mv (.const (.slice none 0 0))⟩,
      ⟨some 5, none, .mv (.const (.int .i64 1))⟩])
    .ret)
    .skip))
  (.seq (.ops [⟨some 18, none, .mv (.tmp 0)⟩,
    ⟨some 19, none, .call 53 [(.tmp 18)]⟩,
    ⟨some 6, none, .mv (.tmp 19)⟩])
  (.seq (.seq (.ops [⟨some 20, none, .mv (.tmp 0)⟩,
    ⟨some 21, none, .call 25 [(.tmp 20)]⟩,
    ⟨some 22, none, .mv (.tmp 1)⟩,
    ⟨some 23, none, .bin .mul (.const (.int .i64 8)) (.tmp 22)⟩,
    ⟨some 24, none, .bin .gtr (.tmp 21) (.tmp 23)⟩])
  (.cond (.tmp 24)
    (.seq (.ops [⟨some 4, none, .mv (.const (.slice none 0 0))⟩,
      ⟨some 5, none, .mv (.const (.int .i64 3))⟩])
    .ret)
    .skip))
  (.seq (.ops [⟨some 25, none, .mv (.tmp 1)⟩,
    ⟨some 26, none, .mks 5 1 1 #[(.int .u8 0)] (.tmp 25) (.tmp 25)⟩,
    ⟨some 7, none, .mv (.tmp 26)⟩])
  (.seq (.seq (.ops [⟨some 8, none, .mv (.const (.int .i64 0))⟩])
  (.block 0
    (.loop
      (.seq (.seq (.ops [⟨some 27, none, .mv (.tmp 8)⟩,
        ⟨some 28, none, .mv (.tmp 1)⟩,
        ⟨some 29, none, .bin .lss (.tmp 27) (.tmp 28)⟩])
      (.cond (.tmp 29)
        .skip
        (.exit 0)))
      (.seq (.block 1
        (.ops [⟨some 32, none, .mv (.tmp 7)⟩,
          ⟨some 33, none, .mv (.tmp 1)⟩,
          ⟨some 34, none, .bin .sub (.tmp 33) (.const (.int .i64 1))⟩,
          ⟨some 35, none, .mv (.tmp 8)⟩,
          ⟨some 36, none, .bin .sub (.tmp 34) (.tmp 35)⟩,
          ⟨some 37, none, .mv (.tmp 6)⟩,
          ⟨some 38, none, .mv (.tmp 8)⟩,
          ⟨some 39, none, .bin .quo (.tmp 38) (.const (.int .i64 2))⟩,
          ⟨some 40, none, .call 66 [(.tmp 37), (.tmp 39)]⟩,
          ⟨some 41, none, .mv (.tmp 8)⟩,
          ⟨some 42, none, .bin .rem (.tmp 41) (.const (.int .i64 2))⟩,
          ⟨some 43, none, .bin .mul (.const (.int .i64 8)) (.tmp 42)⟩,
          ⟨some 44, none, .bin .shr (.tmp 40) (.tmp 43)⟩,
          ⟨some 45, none, .cv .u8 (.tmp 44)⟩,
          ⟨some 46, none, .ia 1 (.tmp 32) (.tmp 36)⟩,
          ⟨none, none, .st 1 (.tmp 46) (.tmp 45)⟩]))
      (.ops [⟨some 30, none, .mv (.tmp 8)⟩,
        ⟨some 31, none, .bin .add (.tmp 30) (.const (.int .i64 1))⟩,
        ⟨some 8, none, .mv (.tmp 31)⟩]))))))
  (.seq (.ops [⟨some 47, none, .mv (.tmp 7)⟩,
    ⟨some 4, none, .mv (.tmp 47)⟩,
    ⟨some 5, none, .mv (.const (.int .i64 0))⟩])
  .ret))))))))⟩
theorem h44 : strF Try.prog [] Try.f44 = some c44 := by kernel_rfl

/-- chirograph/nat.Small -/
def c45 : Fun := ⟨10, [.inl 2],
  (.seq (.ops [⟨some 2, none, .mv (.const (.slice none 0 0))⟩])
  (.seq (.ops [⟨some 3, none, .mv (.tmp 0)⟩,
    ⟨some 4, none, .cv .u32 (.tmp 3)⟩,
    ⟨some 5, none, .mv (.tmp 0)⟩,
    ⟨some 6, none, .bin .shr (.tmp 5) (.const (.int .u64 32))⟩,
    ⟨some 7, none, .cv .u32 (.tmp 6)⟩,
    ⟨some 8, none, .bsl 42 1 2 #[(.int .u32 0)] [(0, (.tmp 4)), (1, (.tmp 7))]⟩,
    ⟨some 9, none, .call 22 [(.tmp 8)]⟩,
    ⟨some 2, none, .mv (.tmp 9)⟩])
  .ret))⟩
theorem h45 : strF Try.prog [] Try.f45 = some c45 := by kernel_rfl

/-- chirograph/chirographref01.Small -/
def c46 : Fun := ⟨10, [.inl 2],
  (.seq (.ops [⟨some 2, none, .mv (.const (.slice none 0 0))⟩])
  (.seq (.ops [⟨some 3, none, .mv (.tmp 0)⟩,
    ⟨some 4, none, .cv .u32 (.tmp 3)⟩,
    ⟨some 5, none, .mv (.tmp 0)⟩,
    ⟨some 6, none, .bin .shr (.tmp 5) (.const (.int .u64 32))⟩,
    ⟨some 7, none, .cv .u32 (.tmp 6)⟩,
    ⟨some 8, none, .bsl 42 1 2 #[(.int .u32 0)] [(0, (.tmp 4)), (1, (.tmp 7))]⟩,
    ⟨some 9, none, .call 23 [(.tmp 8)]⟩,
    ⟨some 2, none, .mv (.tmp 9)⟩])
  .ret))⟩
theorem h46 : strF Try.prog [] Try.f46 = some c46 := by kernel_rfl

/-- chirograph/chirographref01.KeptBytes -/
def c47 : Fun := ⟨31, [.inl 4],
  (.seq (.ops [⟨some 4, none, .mv (.const (.bool false))⟩])
  (.seq (.ops [⟨some 6, none, .mv (.tmp 0)⟩,
    ⟨some 7, none, .mv (.tmp 0)⟩,
    ⟨some 8, none, .len (.tmp 7)⟩,
    ⟨some 9, none, .bin .add (.tmp 8) (.const (.int .i64 2))⟩,
    ⟨some 10, none, .slc 1 (.tmp 6) none (some (.tmp 9)) none⟩,
    ⟨some 5, none, .mv (.tmp 10)⟩])
  (.seq (.ops [⟨some 11, none, .mv (.tmp 0)⟩,
    ⟨some 12, none, .mv (.tmp 1)⟩,
    ⟨some 13, none, .call 41 [(.tmp 11), (.tmp 12)]⟩,
    ⟨some 14, none, .mv (.tmp 13)⟩,
    ⟨some 15, some (14, true), .mv (.tmp 5)⟩,
    ⟨some 16, some (14, true), .mv (.tmp 0)⟩,
    ⟨some 17, some (14, true), .len (.tmp 16)⟩,
    ⟨some 18, some (14, true), .ia 1 (.tmp 15) (.tmp 17)⟩,
    ⟨some 19, some (14, true), .ld (.int .u8) (.tmp 18)⟩,
    ⟨some 20, some (14, true), .bin .eql (.tmp 19) (.const (.int .u8 90))⟩,
    ⟨some 21, none, .pick (.tmp 14) (.tmp 20) (.const (.bool false))⟩,
    ⟨some 22, none, .mv (.tmp 21)⟩,
    ⟨some 23, some (22, true), .mv (.tmp 5)⟩,
    ⟨some 24, some (22, true), .mv (.tmp 0)⟩,
    ⟨some 25, some (22, true), .len (.tmp 24)⟩,
    ⟨some 26, some (22, true), .bin .add (.tmp 25) (.const (.int .i64 1))⟩,
    ⟨some 27, some (22, true), .ia 1 (.tmp 23) (.tmp 26)⟩,
    ⟨some 28, some (22, true), .ld (.int .u8) (.tmp 27)⟩,
    ⟨some 29, some (22, true), .bin .eql (.tmp 28) (.const (.int .u8 165))⟩,
    ⟨some 30, none, .pick (.tmp 22) (.tmp 29) (.const (.bool false))⟩,
    ⟨some 4, none, .mv (.tmp 30)⟩])
  .ret)))⟩
theorem h47 : strF Try.prog [] Try.f47 = some c47 := by kernel_rfl

/-- chirograph/nat.long -/
def c48 : Fun := ⟨18, [.inl 4],
  (.seq (.ops [⟨some 4, none, .mv (.const (.bool false))⟩])
  (.seq (.seq (.ops [⟨some 7, none, .mv (.tmp 1)⟩,
    ⟨some 8, none, .len (.tmp 7)⟩,
    ⟨some 9, none, .mv (.const (.int .i64 0))⟩])
  (.block 0
    (.loop
      (.seq (.ops [⟨some 10, none, .bin .lss (.tmp 9) (.tmp 8)⟩])
      (.seq (.cond (.tmp 10)
        .skip
        (.exit 0))
      (.seq (.block 1
        (.seq (.ops [⟨some 11, none, .ia 1 (.tmp 7) (.tmp 9)⟩,
          ⟨some 12, none, .ld .slice (.tmp 11)⟩,
          ⟨some 6, none, .mv (.tmp 12)⟩])
        (.seq (.ops [⟨some 13, none, .mv (.tmp 6)⟩,
          ⟨some 14, none, .len (.tmp 13)⟩,
          ⟨some 15, none, .mv (.tmp 0)⟩,
          ⟨some 16, none, .bin .gtr (.tmp 14) (.tmp 15)⟩])
        (.cond (.tmp 16)
          (.seq (.ops [⟨some 4, none, .mv (.const (.bool true))⟩])
          .ret)
          .skip))))
      (.ops [⟨some 17, none, .bin .add (.tmp 9) (.const (.int .i64 1))⟩,
        ⟨some 9, none, .mv (.tmp 17)⟩])))))))
  (.seq (.ops [⟨some 4, none, .mv (.const (.bool false))⟩])
  .ret)))⟩
theorem h48 : strF Try.prog [] Try.f48 = some c48 := by kernel_rfl

/-- chirograph/nat.sum -/
def c49 : Fun := ⟨54, [.inl 4],
  (.seq (.ops [⟨some 4, none, .mv (.const (.slice none 0 0))⟩])
  (.join (.seq (.ops [⟨some 9, none, .mv (.tmp 0)⟩,
    ⟨some 10, none, .len (.tmp 9)⟩,
    ⟨some 11, none, .mv (.tmp 1)⟩,
    ⟨some 12, none, .len (.tmp 11)⟩,
    ⟨some 13, none, .bin .lss (.tmp 10) (.tmp 12)⟩])
  (.cond (.tmp 13)
    (.ops [⟨some 14, none, .mv (.tmp 1)⟩,
      ⟨some 15, none, .mv (.tmp 0)⟩,
      ⟨some 0, none, .mv (.tmp 14)⟩,
      ⟨some 1, none, .mv (.tmp 15)⟩])
    .skip))
  (.seq (.ops [⟨some 16, none, .mv (.tmp 0)⟩,
    ⟨some 17, none, .len (.tmp 16)⟩,
    ⟨some 18, none, .bin .add (.tmp 17) (.const (.int .i64 1))⟩,
    ⟨some 19, none, .mks 42 1 4 #[(.int .u32 0)] (.tmp 18) (.tmp 18)⟩,
    ⟨some 5, none, .mv (.tmp 19)⟩])
  (.seq (.ops [⟨some 6, none, .mv (.const (.int .u32 0))⟩])
  (.seq (.seq (.ops [⟨some 20, none, .mv (.tmp 0)⟩,
    ⟨some 21, none, .len (.tmp 20)⟩,
    ⟨some 22, none, .mv (.const (.int .i64 0))⟩])
  (.block 0
    (.loop
      (.seq (.ops [⟨some 23, none, .bin .lss (.tmp 22) (.tmp 21)⟩])
      (.seq (.cond (.tmp 23)
        .skip
        (.exit 0))
      (.seq (.block 1
        (.seq (.ops [⟨some 24, none, .mv (.tmp 22)⟩,
          ⟨some 7, none, .mv (.tmp 24)⟩])
        (.seq (.ops [⟨some 8, none, .mv (.const (.int .u32 0))⟩])
        (.join (.seq (.ops [⟨some 25, none, .mv (.tmp 7)⟩,
          ⟨some 26, none, .mv (.tmp 1)⟩,
          ⟨some 27, none, .len (.tmp 26)⟩,
          ⟨some 28, none, .bin .lss (.tmp 25) (.tmp 27)⟩])
        (.cond (.tmp 28)
          (.ops [⟨some 29, none, .mv (.tmp 1)⟩,
            ⟨some 30, none, .mv (.tmp 7)⟩,
            ⟨some 31, none, .ia 1 (.tmp 29) (.tmp 30)⟩,
            ⟨some 32, none, .ld (.int .u32) (.tmp 31)⟩,
            ⟨some 8, none, .mv (.tmp 32)⟩])
          .skip))
        (.ops [⟨some 34, none, .mv (.tmp 5)⟩,
          ⟨some 35, none, .mv (.tmp 7)⟩,
          ⟨some 36, none, .mv (.tmp 0)⟩,
          ⟨some 37, none, .mv (.tmp 7)⟩,
          ⟨some 38, none, .ia 1 (.tmp 36) (.tmp 37)⟩,
          ⟨some 39, none, .ld (.int .u32) (.tmp 38)⟩,
          ⟨some 40, none, .mv (.tmp 8)⟩,
          ⟨some 41, none, .mv (.tmp 6)⟩,
          ⟨some 42, none, .call 67 [(.tmp 39), (.tmp 40), (.tmp 41)]⟩,
          ⟨some 33, none, .mv (.tmp 42)⟩,
          ⟨some 43, none, .ext (.tmp 33) 0⟩,
          ⟨some 44, none, .ext (.tmp 33) 1⟩,
          ⟨some 45, none, .ia 1 (.tmp 34) (.tmp 35)⟩,
          ⟨none, none, .st 1 (.tmp 45) (.tmp 43)⟩,
          ⟨some 6, none, .mv (.tmp 44)⟩])))))
      (.ops [⟨some 46, none, .bin .add (.tmp 22) (.const (.int .i64 1))⟩,
        ⟨some 22, none, .mv (.tmp 46)⟩])))))))
  (.seq (.ops [⟨some 47, none, .mv (.tmp 5)⟩,
    ⟨some 48, none, .mv (.tmp 0)⟩,
    ⟨some 49, none, .len (.tmp 48)⟩,
    ⟨some 50, none, .mv (.tmp 6)⟩,
    ⟨some 51, none, .ia 1 (.tmp 47) (.tmp 49)⟩,
    ⟨none, none, .st 1 (.tmp 51) (.tmp 50)⟩])
  (.seq (.ops [⟨some 52, none, .mv (.tmp 5)⟩,
    ⟨some 53, none, .call 55 [(.tmp 52)]⟩,
    ⟨some 4, none, .mv (.tmp 53)⟩])
  .ret)))))))⟩
theorem h49 : strF Try.prog [] Try.f49 = some c49 := by kernel_rfl

/-- chirograph/chirographref01.long -/
def c50 : Fun := ⟨17, [.inl 6],
  (.seq (.ops [⟨some 6, none, .mv (.const (.bool false))⟩])
  (.seq (.ops [⟨some 7, none, .mv (.tmp 1)⟩,
    ⟨some 8, none, .len (.tmp 7)⟩,
    ⟨some 9, none, .mv (.tmp 0)⟩,
    ⟨some 10, none, .bin .gtr (.tmp 8) (.tmp 9)⟩,
    ⟨some 11, none, .mv (.tmp 10)⟩,
    ⟨some 12, some (11, false), .mv (.tmp 2)⟩,
    ⟨some 13, some (11, false), .len (.tmp 12)⟩,
    ⟨some 14, some (11, false), .mv (.tmp 0)⟩,
    ⟨some 15, some (11, false), .bin .gtr (.tmp 13) (.tmp 14)⟩,
    ⟨some 16, none, .pick (.tmp 11) (.const (.bool true)) (.tmp 15)⟩,
    ⟨some 6, none, .mv (.tmp 16)⟩])
  .ret))⟩
theorem h50 : strF Try.prog [] Try.f50 = some c50 := by kernel_rfl

/-- chirograph/chirographref01.Limbs -/
def c51 : Fun := ⟨38, [.inl 2],
  (.seq (.ops [⟨some 2, none, .mv (.const (.slice none 0 0))⟩])
  (.seq (.ops [⟨some 6, none, .mv (.tmp 0)⟩,
    ⟨some 7, none, .call 68 [(.tmp 6)]⟩,
    ⟨some 0, none, .mv (.tmp 7)⟩])
  (.seq (.ops [⟨some 3, none, .mv (.const (.slice none 0 0))⟩])
  (.seq (.seq (.ops [⟨some 4, none, .mv (.const (.int .i64 0))⟩])
  (.block 0
    (.loop
      (.seq (.seq (.ops [⟨some 8, none, .mv (.tmp 4)⟩,
        ⟨some 9, none, .mv (.tmp 0)⟩,
        ⟨some 10, none, .len (.tmp 9)⟩,
        ⟨some 11, none, .bin .lss (.tmp 8) (.tmp 10)⟩])
      (.cond (.tmp 11)
        .skip
        (.exit 0)))
      (.seq (.block 1
        (.seq (.ops [⟨some 14, none, .mv (.tmp 0)⟩,
          ⟨some 15, none, .mv (.tmp 4)⟩,
          ⟨some 16, none, .ia 1 (.tmp 14) (.tmp 15)⟩,
          ⟨some 17, none, .ld (.int .u64) (.tmp 16)⟩,
          ⟨some 18, none, .cv .u32 (.tmp 17)⟩,
          ⟨some 5, none, .mv (.tmp 18)⟩])
        (.join (.seq (.ops [⟨some 19, none, .mv (.tmp 4)⟩,
          ⟨some 20, none, .bin .add (.tmp 19) (.const (.int .i64 1))⟩,
          ⟨some 21, none, .mv (.tmp 0)⟩,
          ⟨some 22, none, .len (.tmp 21)⟩,
          ⟨some 23, none, .bin .lss (.tmp 20) (.tmp 22)⟩])
        (.cond (.tmp 23)
          (.ops [⟨some 24, none, .mv (.tmp 5)⟩,
            ⟨some 25, none, .mv (.tmp 0)⟩,
            ⟨some 26, none, .mv (.tmp 4)⟩,
            ⟨some 27, none, .bin .add (.tmp 26) (.const (.int .i64 1))⟩,
            ⟨some 28, none, .ia 1 (.tmp 25) (.tmp 27)⟩,
            ⟨some 29, none, .ld (.int .u64) (.tmp 28)⟩,
            ⟨some 30, none, .cv .u32 (.tmp 29)⟩,
            ⟨some 31, none, .bin .shl (.tmp 30) (.const (.int .u64 16))⟩,
            ⟨some 32, none, .bin .add (.tmp 24) (.tmp 31)⟩,
            ⟨some 5, none, .mv (.tmp 32)⟩])
          .skip))
        (.ops [⟨some 33, none, .mv (.tmp 3)⟩,
          ⟨some 34, none, .mv (.tmp 5)⟩,
          ⟨some 35, none, .bsl 42 1 1 #[(.int .u32 0)] [(0, (.tmp 34))]⟩,
          ⟨some 36, none, .app 42 1 4 #[(.int .u32 0)] (.tmp 33) (.tmp 35)⟩,
          ⟨some 3, none, .mv (.tmp 36)⟩]))))
      (.ops [⟨some 12, none, .mv (.tmp 4)⟩,
        ⟨some 13, none, .bin .add (.tmp 12) (.const (.int .i64 2))⟩,
        ⟨some 4, none, .mv (.tmp 13)⟩]))))))
  (.seq (.ops [⟨some 37, none, .mv (.tmp 3)⟩,
    ⟨some 2, none, .mv (.tmp 37)⟩])
  .ret)))))⟩
theorem h51 : strF Try.prog [] Try.f51 = some c51 := by kernel_rfl

/-- chirograph/chirographref01.add -/
def c52 : Fun := ⟨43, [.inl 4],
  (.seq (.ops [⟨some 4, none, .mv (.const (.slice none 0 0))⟩])
  (.seq (.ops [⟨some 5, none, .mv (.const (.slice none 0 0))⟩])
  (.seq (.ops [⟨some 6, none, .mv (.const (.int .u64 0))⟩])
  (.seq (.seq (.ops [⟨some 7, none, .mv (.const (.int .i64 0))⟩])
  (.block 0
    (.loop
      (.seq (.seq (.ops [⟨some 9, none, .mv (.tmp 7)⟩,
        ⟨some 10, none, .mv (.tmp 0)⟩,
        ⟨some 11, none, .len (.tmp 10)⟩,
        ⟨some 12, none, .bin .lss (.tmp 9) (.tmp 11)⟩,
        ⟨some 13, none, .mv (.tmp 12)⟩,
        ⟨some 14, some (13, false), .mv (.tmp 7)⟩,
        ⟨some 15, some (13, false), .mv (.tmp 1)⟩,
        ⟨some 16, some (13, false), .len (.tmp 15)⟩,
        ⟨some 17, some (13, false), .bin .lss (.tmp 14) (.tmp 16)⟩,
        ⟨some 18, none, .pick (.tmp 13) (.const (.bool true)) (.tmp 17)⟩,
        ⟨some 19, none, .mv (.tmp 18)⟩,
        ⟨some 20, some (19, false), .mv (.tmp 6)⟩,
        ⟨some 21, some (19, false), .bin .gtr (.tmp 20) (.const (.int .u64 0))⟩,
        ⟨some 22, none, .pick (.tmp 19) (.const (.bool true)) (.tmp 21)⟩])
      (.cond (.tmp 22)
        .skip
        (.exit 0)))
      (.seq (.block 1
        (.seq (.ops [⟨some 25, none, .mv (.tmp 0)⟩,
          ⟨some 26, none, .mv (.tmp 7)⟩,
          ⟨some 27, none, .call 66 [(.tmp 25), (.tmp 26)]⟩,
          ⟨some 28, none, .mv (.tmp 1)⟩,
          ⟨some 29, none, .mv (.tmp 7)⟩,
          ⟨some 30, none, .call 66 [(.tmp 28), (.tmp 29)]⟩,
          ⟨some 31, none, .bin .add (.tmp 27) (.tmp 30)⟩,
          ⟨some 32, none, .mv (.tmp 6)⟩,
          ⟨some 33, none, .bin .add (.tmp 31) (.tmp 32)⟩,
          ⟨some 8, none, .mv (.tmp 33)⟩])
        (.seq (.ops [⟨some 34, none, .mv (.tmp 5)⟩,
          ⟨some 35, none, .mv (.tmp 8)⟩,
          ⟨some 36, none, .bin .rem (.tmp 35) (.const (.int .u64 65536))⟩,
          ⟨some 37, none, .bsl 50 1 1 #[(.int .u64 0)] [(0, (.tmp 36))]⟩,
          ⟨some 38, none, .app 50 1 8 #[(.int .u64 0)] (.tmp 34) (.tmp 37)⟩,
          ⟨some 5, none, .mv (.tmp 38)⟩])
        (.ops [⟨some 39, none, .mv (.tmp 8)⟩,
          ⟨some 40, none, .bin .quo (.tmp 39) (.const (.int .u64 65536))⟩,
          ⟨some 6, none, .mv (.tmp 40)⟩]))))
      (.ops [⟨some 23, none, .mv (.tmp 7)⟩,
        ⟨some 24, none, .bin .add (.tmp 23) (.const (.int .i64 1))⟩,
        ⟨some 7, none, .mv (.tmp 24)⟩]))))))
  (.seq (.ops [⟨some 41, none, .mv (.tmp 5)⟩,
    ⟨some 42, none, .call 68 [(.tmp 41)]⟩,
    ⟨some 4, none, .mv (.tmp 42)⟩])
  .ret)))))⟩
theorem h52 : strF Try.prog [] Try.f52 = some c52 := by kernel_rfl

/-- chirograph/chirographref01.Digits -/
def c53 : Fun := ⟨28, [.inl 2],
  (.seq (.ops [⟨some 2, none, .mv (.const (.slice none 0 0))⟩])
  (.seq (.ops [⟨some 3, none, .mv (.const (.slice none 0 0))⟩])
  (.seq (.seq (.ops [⟨some 4, none, .mv (.const (.int .i64 0))⟩])
  (.block 0
    (.loop
      (.seq (.seq (.ops [⟨some 5, none, .mv (.tmp 4)⟩,
        ⟨some 6, none, .mv (.tmp 0)⟩,
        ⟨some 7, none, .len (.tmp 6)⟩,
        ⟨some 8, none, .bin .lss (.tmp 5) (.tmp 7)⟩])
      (.cond (.tmp 8)
        .skip
        (.exit 0)))
      (.seq (.block 1
        (.drawS [(0, 0), (0, 1), (0, 2), (0, 3), (0, 7), (0, 8), (0, 9), (1, 4), (0, 5), (0, 6), (1, 10), (0, 11), (0, 12), (2, 13), (2, 14), (0, 15)]
          [⟨some 11, none, .mv (.tmp 3)⟩,
          ⟨some 12, none, .mv (.tmp 0)⟩,
          ⟨some 13, none, .mv (.tmp 4)⟩,
          ⟨some 14, none, .ia 1 (.tmp 12) (.tmp 13)⟩,
          ⟨some 15, none, .ld (.int .u32) (.tmp 14)⟩,
          ⟨some 16, none, .bin .and (.tmp 15) (.const (.int .u32 65535))⟩,
          ⟨some 17, none, .cv .u64 (.tmp 16)⟩,
          ⟨some 18, none, .mv (.tmp 0)⟩,
          ⟨some 19, none, .mv (.tmp 4)⟩,
          ⟨some 20, none, .ia 1 (.tmp 18) (.tmp 19)⟩,
          ⟨some 21, none, .ld (.int .u32) (.tmp 20)⟩,
          ⟨some 22, none, .bin .shr (.tmp 21) (.const (.int .u64 16))⟩,
          ⟨some 23, none, .cv .u64 (.tmp 22)⟩,
          ⟨some 24, none, .bsl 50 1 2 #[(.int .u64 0)] [(0, (.tmp 17)), (1, (.tmp 23))]⟩,
          ⟨some 25, none, .app 50 1 8 #[(.int .u64 0)] (.tmp 11) (.tmp 24)⟩,
          ⟨some 3, none, .mv (.tmp 25)⟩]))
      (.ops [⟨some 9, none, .mv (.tmp 4)⟩,
        ⟨some 10, none, .bin .add (.tmp 9) (.const (.int .i64 1))⟩,
        ⟨some 4, none, .mv (.tmp 10)⟩]))))))
  (.seq (.ops [⟨some 26, none, .mv (.tmp 3)⟩,
    ⟨some 27, none, .call 68 [(.tmp 26)]⟩,
    ⟨some 2, none, .mv (.tmp 27)⟩])
  .ret))))⟩
theorem h53 : strF Try.prog [(5, [(0, 0), (0, 1), (0, 2), (0, 3), (0, 7), (0, 8), (0, 9), (1, 4), (0, 5), (0, 6), (1, 10), (0, 11), (0, 12), (2, 13), (2, 14), (0, 15)])] Try.f53 = some c53 := by kernel_rfl

/-- chirograph/nat.less -/
def c54 : Fun := ⟨41, [.inl 4],
  (.seq (.ops [⟨some 4, none, .mv (.const (.slice none 0 0))⟩])
  (.seq (.ops [⟨some 9, none, .mv (.tmp 0)⟩,
    ⟨some 10, none, .len (.tmp 9)⟩,
    ⟨some 11, none, .mks 42 1 4 #[(.int .u32 0)] (.tmp 10) (.tmp 10)⟩,
    ⟨some 5, none, .mv (.tmp 11)⟩])
  (.seq (.ops [⟨some 6, none, .mv (.const (.int .u32 0))⟩])
  (.seq (.seq (.ops [⟨some 12, none, .mv (.tmp 0)⟩,
    ⟨some 13, none, .len (.tmp 12)⟩,
    ⟨some 14, none, .mv (.const (.int .i64 0))⟩])
  (.block 0
    (.loop
      (.seq (.ops [⟨some 15, none, .bin .lss (.tmp 14) (.tmp 13)⟩])
      (.seq (.cond (.tmp 15)
        .skip
        (.exit 0))
      (.seq (.block 1
        (.seq (.ops [⟨some 16, none, .mv (.tmp 14)⟩,
          ⟨some 7, none, .mv (.tmp 16)⟩])
        (.seq (.ops [⟨some 8, none, .mv (.const (.int .u32 0))⟩])
        (.join (.seq (.ops [⟨some 17, none, .mv (.tmp 7)⟩,
          ⟨some 18, none, .mv (.tmp 1)⟩,
          ⟨some 19, none, .len (.tmp 18)⟩,
          ⟨some 20, none, .bin .lss (.tmp 17) (.tmp 19)⟩])
        (.cond (.tmp 20)
          (.ops [⟨some 21, none, .mv (.tmp 1)⟩,
            ⟨some 22, none, .mv (.tmp 7)⟩,
            ⟨some 23, none, .ia 1 (.tmp 21) (.tmp 22)⟩,
            ⟨some 24, none, .ld (.int .u32) (.tmp 23)⟩,
            ⟨some 8, none, .mv (.tmp 24)⟩])
          .skip))
        (.ops [⟨some 26, none, .mv (.tmp 5)⟩,
          ⟨some 27, none, .mv (.tmp 7)⟩,
          ⟨some 28, none, .mv (.tmp 0)⟩,
          ⟨some 29, none, .mv (.tmp 7)⟩,
          ⟨some 30, none, .ia 1 (.tmp 28) (.tmp 29)⟩,
          ⟨some 31, none, .ld (.int .u32) (.tmp 30)⟩,
          ⟨some 32, none, .mv (.tmp 8)⟩,
          ⟨some 33, none, .mv (.tmp 6)⟩,
          ⟨some 34, none, .call 69 [(.tmp 31), (.tmp 32), (.tmp 33)]⟩,
          ⟨some 25, none, .mv (.tmp 34)⟩,
          ⟨some 35, none, .ext (.tmp 25) 0⟩,
          ⟨some 36, none, .ext (.tmp 25) 1⟩,
          ⟨some 37, none, .ia 1 (.tmp 26) (.tmp 27)⟩,
          ⟨none, none, .st 1 (.tmp 37) (.tmp 35)⟩,
          ⟨some 6, none, .mv (.tmp 36)⟩])))))
      (.ops [⟨some 38, none, .bin .add (.tmp 14) (.const (.int .i64 1))⟩,
        ⟨some 14, none, .mv (.tmp 38)⟩])))))))
  (.seq (.ops [⟨some 39, none, .mv (.tmp 5)⟩,
    ⟨some 40, none, .call 55 [(.tmp 39)]⟩,
    ⟨some 4, none, .mv (.tmp 40)⟩])
  .ret)))))⟩
theorem h54 : strF Try.prog [] Try.f54 = some c54 := by kernel_rfl

/-- chirograph/nat.cut -/
def c55 : Fun := ⟨21, [.inl 2],
  (.seq (.ops [⟨some 2, none, .mv (.const (.slice none 0 0))⟩])
  (.seq (.ops [⟨some 4, none, .mv (.tmp 0)⟩,
    ⟨some 5, none, .len (.tmp 4)⟩,
    ⟨some 3, none, .mv (.tmp 5)⟩])
  (.seq (.block 0
    (.loop
      (.seq (.seq (.ops [⟨some 6, none, .mv (.tmp 3)⟩,
        ⟨some 7, none, .bin .gtr (.tmp 6) (.const (.int .i64 0))⟩,
        ⟨some 8, none, .mv (.tmp 7)⟩,
        ⟨some 9, some (8, true), .mv (.tmp 0)⟩,
        ⟨some 10, some (8, true), .mv (.tmp 3)⟩,
        ⟨some 11, some (8, true), .bin .sub (.tmp 10) (.const (.int .i64 1))⟩,
        ⟨some 12, some (8, true), .ia 1 (.tmp 9) (.tmp 11)⟩,
        ⟨some 13, some (8, true), .ld (.int .u32) (.tmp 12)⟩,
        ⟨some 14, some (8, true), .bin .eql (.tmp 13) (.const (.int .u32 0))⟩,
        ⟨some 15, none, .pick (.tmp 8) (.tmp 14) (.const (.bool false))⟩])
      (.cond (.tmp 15)
        .skip
        (.exit 0)))
      (.block 1
        (.ops [⟨some 16, none, .mv (.tmp 3)⟩,
          ⟨some 17, none, .bin .sub (.tmp 16) (.const (.int .i64 1))⟩,
          ⟨some 3, none, .mv (.tmp 17)⟩])))))
  (.seq (.ops [⟨some 18, none, .mv (.tmp 0)⟩,
    ⟨some 19, none, .mv (.tmp 3)⟩,
    ⟨some 20, none, .slc 1 (.tmp 18) none (some (.tmp 19)) none⟩,
    ⟨some 2, none, .mv (.tmp 20)⟩])
  .ret))))⟩
theorem h55 : strF Try.prog [] Try.f55 = some c55 := by kernel_rfl

/-- chirograph/chirographref01.sub -/
def c56 : Fun := ⟨36, [.inl 4],
  (.seq (.ops [⟨some 4, none, .mv (.const (.slice none 0 0))⟩])
  (.seq (.ops [⟨some 5, none, .mv (.const (.slice none 0 0))⟩])
  (.seq (.ops [⟨some 6, none, .mv (.const (.int .u64 0))⟩])
  (.seq (.seq (.ops [⟨some 7, none, .mv (.const (.int .i64 0))⟩])
  (.block 0
    (.loop
      (.seq (.seq (.ops [⟨some 9, none, .mv (.tmp 7)⟩,
        ⟨some 10, none, .mv (.tmp 0)⟩,
        ⟨some 11, none, .len (.tmp 10)⟩,
        ⟨some 12, none, .bin .lss (.tmp 9) (.tmp 11)⟩])
      (.cond (.tmp 12)
        .skip
        (.exit 0)))
      (.seq (.block 1
        (.seq (.draw 12 [⟨some 15, none, .mv (.tmp 0)⟩,
          ⟨some 16, none, .mv (.tmp 7)⟩,
          ⟨some 17, none, .ia 1 (.tmp 15) (.tmp 16)⟩,
          ⟨some 18, none, .ld (.int .u64) (.tmp 17)⟩,
          ⟨some 19, none, .bin .add (.const (.int .u64 65536)) (.tmp 18)⟩,
          ⟨some 20, none, .mv (.tmp 1)⟩,
          ⟨some 21, none, .mv (.tmp 7)⟩,
          ⟨some 22, none, .call 66 [(.tmp 20), (.tmp 21)]⟩,
          ⟨some 23, none, .bin .sub (.tmp 19) (.tmp 22)⟩,
          ⟨some 24, none, .mv (.tmp 6)⟩,
          ⟨some 25, none, .bin .sub (.tmp 23) (.tmp 24)⟩,
          ⟨some 8, none, .mv (.tmp 25)⟩])
        (.seq (.ops [⟨some 26, none, .mv (.tmp 5)⟩,
          ⟨some 27, none, .mv (.tmp 8)⟩,
          ⟨some 28, none, .bin .rem (.tmp 27) (.const (.int .u64 65536))⟩,
          ⟨some 29, none, .bsl 50 1 1 #[(.int .u64 0)] [(0, (.tmp 28))]⟩,
          ⟨some 30, none, .app 50 1 8 #[(.int .u64 0)] (.tmp 26) (.tmp 29)⟩,
          ⟨some 5, none, .mv (.tmp 30)⟩])
        (.ops [⟨some 31, none, .mv (.tmp 8)⟩,
          ⟨some 32, none, .bin .quo (.tmp 31) (.const (.int .u64 65536))⟩,
          ⟨some 33, none, .bin .sub (.const (.int .u64 1)) (.tmp 32)⟩,
          ⟨some 6, none, .mv (.tmp 33)⟩]))))
      (.ops [⟨some 13, none, .mv (.tmp 7)⟩,
        ⟨some 14, none, .bin .add (.tmp 13) (.const (.int .i64 1))⟩,
        ⟨some 7, none, .mv (.tmp 14)⟩]))))))
  (.seq (.ops [⟨some 34, none, .mv (.tmp 5)⟩,
    ⟨some 35, none, .call 68 [(.tmp 34)]⟩,
    ⟨some 4, none, .mv (.tmp 35)⟩])
  .ret)))))⟩
theorem h56 : strF Try.prog [] Try.f56 = some c56 := by kernel_rfl

/-- math/bits.Len32 -/
def c57 : Fun := ⟨19, [.inl 2],
  (.seq (.ops [⟨some 2, none, .mv (.const (.int .i64 0))⟩])
  (.join (.seq (.ops [⟨some 3, none, .mv (.tmp 0)⟩,
    ⟨some 4, none, .bin .geq (.tmp 3) (.const (.int .u32 65536))⟩])
  (.cond (.tmp 4)
    (.seq (.ops [⟨some 5, none, .mv (.tmp 0)⟩,
      ⟨some 6, none, .bin .shr (.tmp 5) (.const (.int .u64 16))⟩,
      ⟨some 0, none, .mv (.tmp 6)⟩])
    (.ops [⟨some 2, none, .mv (.const (.int .i64 16))⟩]))
    .skip))
  (.join (.seq (.ops [⟨some 7, none, .mv (.tmp 0)⟩,
    ⟨some 8, none, .bin .geq (.tmp 7) (.const (.int .u32 256))⟩])
  (.cond (.tmp 8)
    (.seq (.ops [⟨some 9, none, .mv (.tmp 0)⟩,
      ⟨some 10, none, .bin .shr (.tmp 9) (.const (.int .u64 8))⟩,
      ⟨some 0, none, .mv (.tmp 10)⟩])
    (.ops [⟨some 11, none, .mv (.tmp 2)⟩,
      ⟨some 12, none, .bin .add (.tmp 11) (.const (.int .i64 8))⟩,
      ⟨some 2, none, .mv (.tmp 12)⟩]))
    .skip))
  (.seq (.ops [⟨some 13, none, .mv (.tmp 2)⟩,
    ⟨some 14, none, .mv (.tmp 0)⟩,
    ⟨some 15, none, .cv .u8 (.tmp 14)⟩,
    ⟨some 16, none, .ixs (.const (.string ⟨#[0, 1, 2, 2, 3, 3, 3, 3, 4, 4, 4, 4, 4, 4, 4, 4, 5, 5, 5, 5, 5, 5, 5, 5, 5, 5, 5, 5, 5, 5, 5, 5, 6, 6, 6, 6, 6, 6, 6, 6, 6, 6, 6, 6, 6, 6, 6, 6, 6, 6, 6, 6, 6, 6, 6, 6, 6, 6, 6, 6, 6, 6, 6, 6, 7, 7, 7, 7, 7, 7, 7, 7, 7, 7, 7, 7, 7, 7, 7, 7, 7, 7, 7, 7, 7, 7, 7, 7, 7, 7, 7, 7, 7, 7, 7, 7, 7, 7, 7, 7, 7, 7, 7, 7, 7, 7, 7, 7, 7, 7, 7, 7, 7, 7, 7, 7, 7, 7, 7, 7, 7, 7, 7, 7, 7, 7, 7, 7, 8, 8, 8, 8, 8, 8, 8, 8, 8, 8, 8, 8, 8, 8, 8, 8, 8, 8, 8, 8, 8, 8, 8, 8, 8, 8, 8, 8, 8, 8, 8, 8, 8, 8, 8, 8, 8, 8, 8, 8, 8, 8, 8, 8, 8, 8, 8, 8, 8, 8, 8, 8, 8, 8, 8, 8, 8, 8, 8, 8, 8, 8, 8, 8, 8, 8, 8, 8, 8, 8, 8, 8, 8, 8, 8, 8, 8, 8, 8, 8, 8, 8, 8, 8, 8, 8, 8, 8, 8, 8, 8, 8, 8, 8, 8, 8, 8, 8, 8, 8, 8, 8, 8, 8, 8, 8, 8, 8, 8, 8, 8, 8, 8, 8, 8, 8, 8, 8, 8, 8, 8, 8, 8, 8, 8, 8, 8, 8]⟩)) (.tmp 15)⟩,
    ⟨some 17, none, .cv .i64 (.tmp 16)⟩,
    ⟨some 18, none, .bin .add (.tmp 13) (.tmp 17)⟩,
    ⟨some 2, none, .mv (.tmp 18)⟩])
  .ret))))⟩
theorem h57 : strF Try.prog [] Try.f57 = some c57 := by kernel_rfl

/-- chirograph/chirographref01.order -/
def c58 : Fun := ⟨35, [.inl 4],
  (.seq (.ops [⟨some 4, none, .mv (.const (.int .i64 0))⟩])
  (.seq (.ops [⟨some 9, none, .mv (.tmp 0)⟩,
    ⟨some 10, none, .len (.tmp 9)⟩,
    ⟨some 5, none, .mv (.tmp 10)⟩])
  (.join (.seq (.ops [⟨some 11, none, .mv (.tmp 1)⟩,
    ⟨some 12, none, .len (.tmp 11)⟩,
    ⟨some 13, none, .mv (.tmp 5)⟩,
    ⟨some 14, none, .bin .gtr (.tmp 12) (.tmp 13)⟩])
  (.cond (.tmp 14)
    (.ops [⟨some 15, none, .mv (.tmp 1)⟩,
      ⟨some 16, none, .len (.tmp 15)⟩,
      ⟨some 5, none, .mv (.tmp 16)⟩])
    .skip))
  (.seq (.seq (.ops [⟨some 17, none, .mv (.tmp 5)⟩,
    ⟨some 18, none, .bin .sub (.tmp 17) (.const (.int .i64 1))⟩,
    ⟨some 6, none, .mv (.tmp 18)⟩])
  (.block 0
    (.loop
      (.seq (.seq (.ops [⟨some 19, none, .mv (.tmp 6)⟩,
        ⟨some 20, none, .bin .geq (.tmp 19) (.const (.int .i64 0))⟩])
      (.cond (.tmp 20)
        .skip
        (.exit 0)))
      (.seq (.block 1
        (.seq (.ops [⟨some 23, none, .mv (.tmp 0)⟩,
          ⟨some 24, none, .mv (.tmp 6)⟩,
          ⟨some 25, none, .call 66 [(.tmp 23), (.tmp 24)]⟩,
          ⟨some 26, none, .mv (.tmp 1)⟩,
          ⟨some 27, none, .mv (.tmp 6)⟩,
          ⟨some 28, none, .call 66 [(.tmp 26), (.tmp 27)]⟩,
          ⟨some 7, none, .mv (.tmp 25)⟩,
          ⟨some 8, none, .mv (.tmp 28)⟩])
        (.seq (.seq (.ops [⟨some 29, none, .mv (.tmp 7)⟩,
          ⟨some 30, none, .mv (.tmp 8)⟩,
          ⟨some 31, none, .bin .lss (.tmp 29) (.tmp 30)⟩])
        (.cond (.tmp 31)
          (.seq (.ops [⟨some 4, none, .mv (.const (.int .i64 (-1)))⟩])
          .ret)
          .skip))
        (.seq (.ops [⟨some 32, none, .mv (.tmp 7)⟩,
          ⟨some 33, none, .mv (.tmp 8)⟩,
          ⟨some 34, none, .bin .gtr (.tmp 32) (.tmp 33)⟩])
        (.cond (.tmp 34)
          (.seq (.ops [⟨some 4, none, .mv (.const (.int .i64 1))⟩])
          .ret)
          .skip)))))
      (.ops [⟨some 21, none, .mv (.tmp 6)⟩,
        ⟨some 22, none, .bin .sub (.tmp 21) (.const (.int .i64 1))⟩,
        ⟨some 6, none, .mv (.tmp 22)⟩]))))))
  (.seq (.ops [⟨some 4, none, .mv (.const (.int .i64 0))⟩])
  .ret)))))⟩
theorem h58 : strF Try.prog [] Try.f58 = some c58 := by kernel_rfl

/-- chirograph/nat.product -/
def c59 : Fun := ⟨68, [.inl 4],
  (.seq (.ops [⟨some 4, none, .mv (.const (.slice none 0 0))⟩])
  (.seq (.ops [⟨some 10, none, .mv (.tmp 0)⟩,
    ⟨some 11, none, .len (.tmp 10)⟩,
    ⟨some 12, none, .mv (.tmp 1)⟩,
    ⟨some 13, none, .len (.tmp 12)⟩,
    ⟨some 14, none, .bin .add (.tmp 11) (.tmp 13)⟩,
    ⟨some 15, none, .mks 42 1 4 #[(.int .u32 0)] (.tmp 14) (.tmp 14)⟩,
    ⟨some 5, none, .mv (.tmp 15)⟩])
  (.seq (.seq (.ops [⟨some 16, none, .mv (.tmp 0)⟩,
    ⟨some 17, none, .len (.tmp 16)⟩,
    ⟨some 18, none, .mv (.const (.int .i64 0))⟩])
  (.block 0
    (.loop
      (.seq (.ops [⟨some 19, none, .bin .lss (.tmp 18) (.tmp 17)⟩])
      (.seq (.cond (.tmp 19)
        .skip
        (.exit 0))
      (.seq (.block 1
        (.seq (.ops [⟨some 20, none, .mv (.tmp 18)⟩,
          ⟨some 6, none, .mv (.tmp 20)⟩])
        (.seq (.ops [⟨some 7, none, .mv (.const (.int .u64 0))⟩])
        (.seq (.seq (.ops [⟨some 21, none, .mv (.tmp 1)⟩,
          ⟨some 22, none, .len (.tmp 21)⟩,
          ⟨some 23, none, .mv (.const (.int .i64 0))⟩])
        (.block 2
          (.loop
            (.seq (.ops [⟨some 24, none, .bin .lss (.tmp 23) (.tmp 22)⟩])
            (.seq (.cond (.tmp 24)
              .skip
              (.exit 2))
            (.seq (.block 3
              (.seq (.ops [⟨some 25, none, .mv (.tmp 23)⟩,
                ⟨some 8, none, .mv (.tmp 25)⟩])
              (.seq (.draw 22 [⟨some 26, none, .mv (.tmp 0)⟩,
                ⟨some 27, none, .mv (.tmp 6)⟩,
                ⟨some 28, none, .ia 1 (.tmp 26) (.tmp 27)⟩,
                ⟨some 29, none, .ld (.int .u32) (.tmp 28)⟩,
                ⟨some 30, none, .cv .u64 (.tmp 29)⟩,
                ⟨some 31, none, .mv (.tmp 1)⟩,
                ⟨some 32, none, .mv (.tmp 8)⟩,
                ⟨some 33, none, .ia 1 (.tmp 31) (.tmp 32)⟩,
                ⟨some 34, none, .ld (.int .u32) (.tmp 33)⟩,
                ⟨some 35, none, .cv .u64 (.tmp 34)⟩,
                ⟨some 36, none, .bin .mul (.tmp 30) (.tmp 35)⟩,
                ⟨some 37, none, .mv (.tmp 5)⟩,
                ⟨some 38, none, .mv (.tmp 6)⟩,
                ⟨some 39, none, .mv (.tmp 8)⟩,
                ⟨some 40, none, .bin .add (.tmp 38) (.tmp 39)⟩,
                ⟨some 41, none, .ia 1 (.tmp 37) (.tmp 40)⟩,
                ⟨some 42, none, .ld (.int .u32) (.tmp 41)⟩,
                ⟨some 43, none, .cv .u64 (.tmp 42)⟩,
                ⟨some 44, none, .bin .add (.tmp 36) (.tmp 43)⟩,
                ⟨some 45, none, .mv (.tmp 7)⟩,
                ⟨some 46, none, .bin .add (.tmp 44) (.tmp 45)⟩,
                ⟨some 9, none, .mv (.tmp 46)⟩])
              (.seq (.ops [⟨some 47, none, .mv (.tmp 5)⟩,
                ⟨some 48, none, .mv (.tmp 6)⟩,
                ⟨some 49, none, .mv (.tmp 8)⟩,
                ⟨some 50, none, .bin .add (.tmp 48) (.tmp 49)⟩,
                ⟨some 51, none, .mv (.tmp 9)⟩,
                ⟨some 52, none, .cv .u32 (.tmp 51)⟩,
                ⟨some 53, none, .ia 1 (.tmp 47) (.tmp 50)⟩,
                ⟨none, none, .st 1 (.tmp 53) (.tmp 52)⟩])
              (.ops [⟨some 54, none, .mv (.tmp 9)⟩,
                ⟨some 55, none, .bin .shr (.tmp 54) (.const (.int .u64 32))⟩,
                ⟨some 7, none, .mv (.tmp 55)⟩])))))
            (.ops [⟨some 56, none, .bin .add (.tmp 23) (.const (.int .i64 1))⟩,
              ⟨some 23, none, .mv (.tmp 56)⟩])))))))
        (.ops [⟨some 57, none, .mv (.tmp 5)⟩,
          ⟨some 58, none, .mv (.tmp 6)⟩,
          ⟨some 59, none, .mv (.tmp 1)⟩,
          ⟨some 60, none, .len (.tmp 59)⟩,
          ⟨some 61, none, .bin .add (.tmp 58) (.tmp 60)⟩,
          ⟨some 62, none, .mv (.tmp 7)⟩,
          ⟨some 63, none, .cv .u32 (.tmp 62)⟩,
          ⟨some 64, none, .ia 1 (.tmp 57) (.tmp 61)⟩,
          ⟨none, none, .st 1 (.tmp 64) (.tmp 63)⟩])))))
      (.ops [⟨some 65, none, .bin .add (.tmp 18) (.const (.int .i64 1))⟩,
        ⟨some 18, none, .mv (.tmp 65)⟩])))))))
  (.seq (.ops [⟨some 66, none, .mv (.tmp 5)⟩,
    ⟨some 67, none, .call 55 [(.tmp 66)]⟩,
    ⟨some 4, none, .mv (.tmp 67)⟩])
  .ret))))⟩
theorem h59 : strF Try.prog [] Try.f59 = some c59 := by kernel_rfl

/-- chirograph/chirographref01.mul -/
def c60 : Fun := ⟨64, [.inl 4],
  (.seq (.ops [⟨some 4, none, .mv (.const (.slice none 0 0))⟩])
  (.seq (.ops [⟨some 10, none, .mv (.tmp 0)⟩,
    ⟨some 11, none, .len (.tmp 10)⟩,
    ⟨some 12, none, .mv (.tmp 1)⟩,
    ⟨some 13, none, .len (.tmp 12)⟩,
    ⟨some 14, none, .bin .add (.tmp 11) (.tmp 13)⟩,
    ⟨some 15, none, .mks 50 1 8 #[(.int .u64 0)] (.tmp 14) (.tmp 14)⟩,
    ⟨some 5, none, .mv (.tmp 15)⟩])
  (.seq (.seq (.ops [⟨some 6, none, .mv (.const (.int .i64 0))⟩])
  (.block 0
    (.loop
      (.seq (.seq (.ops [⟨some 16, none, .mv (.tmp 6)⟩,
        ⟨some 17, none, .mv (.tmp 0)⟩,
        ⟨some 18, none, .len (.tmp 17)⟩,
        ⟨some 19, none, .bin .lss (.tmp 16) (.tmp 18)⟩])
      (.cond (.tmp 19)
        .skip
        (.exit 0)))
      (.seq (.block 1
        (.seq (.ops [⟨some 7, none, .mv (.const (.int .u64 0))⟩])
        (.seq (.seq (.ops [⟨some 8, none, .mv (.const (.int .i64 0))⟩])
        (.block 2
          (.loop
            (.seq (.seq (.ops [⟨some 22, none, .mv (.tmp 8)⟩,
              ⟨some 23, none, .mv (.tmp 1)⟩,
              ⟨some 24, none, .len (.tmp 23)⟩,
              ⟨some 25, none, .bin .lss (.tmp 22) (.tmp 24)⟩])
            (.cond (.tmp 25)
              .skip
              (.exit 2)))
            (.seq (.block 3
              (.seq (.draw 19 [⟨some 28, none, .mv (.tmp 5)⟩,
                ⟨some 29, none, .mv (.tmp 6)⟩,
                ⟨some 30, none, .mv (.tmp 8)⟩,
                ⟨some 31, none, .bin .add (.tmp 29) (.tmp 30)⟩,
                ⟨some 32, none, .ia 1 (.tmp 28) (.tmp 31)⟩,
                ⟨some 33, none, .ld (.int .u64) (.tmp 32)⟩,
                ⟨some 34, none, .mv (.tmp 0)⟩,
                ⟨some 35, none, .mv (.tmp 6)⟩,
                ⟨some 36, none, .ia 1 (.tmp 34) (.tmp 35)⟩,
                ⟨some 37, none, .ld (.int .u64) (.tmp 36)⟩,
                ⟨some 38, none, .mv (.tmp 1)⟩,
                ⟨some 39, none, .mv (.tmp 8)⟩,
                ⟨some 40, none, .ia 1 (.tmp 38) (.tmp 39)⟩,
                ⟨some 41, none, .ld (.int .u64) (.tmp 40)⟩,
                ⟨some 42, none, .bin .mul (.tmp 37) (.tmp 41)⟩,
                ⟨some 43, none, .bin .add (.tmp 33) (.tmp 42)⟩,
                ⟨some 44, none, .mv (.tmp 7)⟩,
                ⟨some 45, none, .bin .add (.tmp 43) (.tmp 44)⟩,
                ⟨some 9, none, .mv (.tmp 45)⟩])
              (.seq (.ops [⟨some 46, none, .mv (.tmp 5)⟩,
                ⟨some 47, none, .mv (.tmp 6)⟩,
                ⟨some 48, none, .mv (.tmp 8)⟩,
                ⟨some 49, none, .bin .add (.tmp 47) (.tmp 48)⟩,
                ⟨some 50, none, .mv (.tmp 9)⟩,
                ⟨some 51, none, .bin .rem (.tmp 50) (.const (.int .u64 65536))⟩,
                ⟨some 52, none, .ia 1 (.tmp 46) (.tmp 49)⟩,
                ⟨none, none, .st 1 (.tmp 52) (.tmp 51)⟩])
              (.ops [⟨some 53, none, .mv (.tmp 9)⟩,
                ⟨some 54, none, .bin .quo (.tmp 53) (.const (.int .u64 65536))⟩,
                ⟨some 7, none, .mv (.tmp 54)⟩]))))
            (.ops [⟨some 26, none, .mv (.tmp 8)⟩,
              ⟨some 27, none, .bin .add (.tmp 26) (.const (.int .i64 1))⟩,
              ⟨some 8, none, .mv (.tmp 27)⟩]))))))
        (.ops [⟨some 55, none, .mv (.tmp 5)⟩,
          ⟨some 56, none, .mv (.tmp 6)⟩,
          ⟨some 57, none, .mv (.tmp 1)⟩,
          ⟨some 58, none, .len (.tmp 57)⟩,
          ⟨some 59, none, .bin .add (.tmp 56) (.tmp 58)⟩,
          ⟨some 60, none, .mv (.tmp 7)⟩,
          ⟨some 61, none, .ia 1 (.tmp 55) (.tmp 59)⟩,
          ⟨none, none, .st 1 (.tmp 61) (.tmp 60)⟩]))))
      (.ops [⟨some 20, none, .mv (.tmp 6)⟩,
        ⟨some 21, none, .bin .add (.tmp 20) (.const (.int .i64 1))⟩,
        ⟨some 6, none, .mv (.tmp 21)⟩]))))))
  (.seq (.ops [⟨some 62, none, .mv (.tmp 5)⟩,
    ⟨some 63, none, .call 68 [(.tmp 62)]⟩,
    ⟨some 4, none, .mv (.tmp 63)⟩])
  .ret))))⟩
theorem h60 : strF Try.prog [] Try.f60 = some c60 := by kernel_rfl

/-- chirograph/nat.parts -/
def c61 : Fun := ⟨129, [.inl 4, .inl 5],
  (.seq (.ops [⟨some 4, none, .mv (.const (.slice none 0 0))⟩,
    ⟨some 5, none, .mv (.const (.slice none 0 0))⟩])
  (.seq (.ops [⟨some 13, none, .mv (.tmp 0)⟩,
    ⟨some 14, none, .call 55 [(.tmp 13)]⟩,
    ⟨some 15, none, .mv (.tmp 1)⟩,
    ⟨some 16, none, .call 55 [(.tmp 15)]⟩,
    ⟨some 0, none, .mv (.tmp 14)⟩,
    ⟨some 1, none, .mv (.tmp 16)⟩])
  (.seq (.block 0
    (.seq (.ops [⟨some 18, none, .mv (.tmp 0)⟩,
      ⟨some 19, none, .mv (.tmp 1)⟩,
      ⟨some 20, none, .call 26 [(.tmp 18), (.tmp 19)]⟩,
      ⟨some 21, none, .bin .lss (.tmp 20) (.const (.int .i64 0))⟩,
      ⟨some 17, none, .mv (.tmp 21)⟩])
    (.cond (.tmp 17)
      (.seq (.ops [⟨some 22, none, .mv (.tmp 0)⟩,
        ⟨some 23, none, .call 22 [(.tmp 22)]⟩,
        ⟨some 4, none, .mv (.const (.slice none 0 0))⟩,
        ⟨some 5, none, .mv (.tmp 23)⟩])
      .ret)
      (.seq (.ops [⟨some 25, none, .mv (.tmp 1)⟩,
        ⟨some 26, none, .len (.tmp 25)⟩,
        ⟨some 27, none, .bin .eql (.tmp 26) (.const (.int .i64 1))⟩,
        ⟨some 24, none, .mv (.tmp 27)⟩])
      (.cond (.tmp 24)
        (.seq (.ops [⟨some 28, none, .mv (.tmp 0)⟩,
          ⟨some 29, none, .mv (.tmp 1)⟩,
          ⟨some 30, none, .ia 1 (.tmp 29) (.const (.int .i64 0))⟩,
          ⟨some 31, none, .ld (.int .u32) (.tmp 30)⟩,
          ⟨some 32, none, .call 70 [(.tmp 28), (.tmp 31)]⟩,
          ⟨some 33, none, .ext (.tmp 32) 0⟩,
          ⟨some 34, none, .ext (.tmp 32) 1⟩,
          ⟨some 4, none, .mv (.tmp 33)⟩,
          ⟨some 5, none, .mv (.tmp 34)⟩])
        .ret)
        .skip)))))
  (.seq (.ops [⟨some 35, none, .mv (.tmp 1)⟩,
    ⟨some 36, none, .mv (.tmp 1)⟩,
    ⟨some 37, none, .len (.tmp 36)⟩,
    ⟨some 38, none, .bin .sub (.tmp 37) (.const (.int .i64 1))⟩,
    ⟨some 39, none, .ia 1 (.tmp 35) (.tmp 38)⟩,
    ⟨some 40, none, .ld (.int .u32) (.tmp 39)⟩,
    ⟨some 41, none, .call 71 [(.tmp 40)]⟩,
    ⟨some 6, none, .mv (.tmp 41)⟩])
  (.seq (.ops [⟨some 42, none, .mv (.tmp 0)⟩,
    ⟨some 43, none, .mv (.tmp 6)⟩,
    ⟨some 44, none, .call 72 [(.tmp 42), (.tmp 43)]⟩,
    ⟨some 45, none, .mv (.tmp 1)⟩,
    ⟨some 46, none, .mv (.tmp 6)⟩,
    ⟨some 47, none, .call 72 [(.tmp 45), (.tmp 46)]⟩,
    ⟨some 48, none, .call 55 [(.tmp 47)]⟩,
    ⟨some 7, none, .mv (.tmp 44)⟩,
    ⟨some 8, none, .mv (.tmp 48)⟩])
  (.seq (.ops [⟨some 49, none, .mv (.tmp 8)⟩,
    ⟨some 50, none, .len (.tmp 49)⟩,
    ⟨some 9, none, .mv (.tmp 50)⟩])
  (.seq (.ops [⟨some 51, none, .mv (.tmp 7)⟩,
    ⟨some 52, none, .len (.tmp 51)⟩,
    ⟨some 53, none, .mv (.tmp 9)⟩,
    ⟨some 54, none, .bin .sub (.tmp 52) (.tmp 53)⟩,
    ⟨some 55, none, .mks 42 1 4 #[(.int .u32 0)] (.tmp 54) (.tmp 54)⟩,
    ⟨some 4, none, .mv (.tmp 55)⟩])
  (.seq (.seq (.ops [⟨some 56, none, .mv (.tmp 7)⟩,
    ⟨some 57, none, .len (.tmp 56)⟩,
    ⟨some 58, none, .mv (.tmp 9)⟩,
    ⟨some 59, none, .bin .sub (.tmp 57) (.tmp 58)⟩,
    ⟨some 60, none, .bin .sub (.tmp 59) (.const (.int .i64 1))⟩,
    ⟨some 10, none, .mv (.tmp 60)⟩])
  (.block 1
    (.loop
      (.seq (.seq (.ops [⟨some 61, none, .mv (.tmp 10)⟩,
        ⟨some 62, none, .bin .geq (.tmp 61) (.const (.int .i64 0))⟩])
      (.cond (.tmp 62)
        .skip
        (.exit 1)))
      (.seq (.block 2
        (.seq (.drawS [(0, 0), (0, 1), (0, 2), (0, 3), (0, 4), (0, 5), (0, 6), (0, 7), (0, 8), (0, 9), (0, 11), (0, 12), (0, 13), (0, 14), (1, 10), (1, 15), (2, 16), (0, 17)]
          [⟨some 65, none, .mv (.tmp 7)⟩,
          ⟨some 66, none, .mv (.tmp 10)⟩,
          ⟨some 67, none, .mv (.tmp 9)⟩,
          ⟨some 68, none, .bin .add (.tmp 66) (.tmp 67)⟩,
          ⟨some 69, none, .bin .add (.tmp 68) (.const (.int .i64 1))⟩,
          ⟨some 70, none, .slc 1 (.tmp 65) none (some (.tmp 69)) none⟩,
          ⟨some 71, none, .mv (.tmp 8)⟩,
          ⟨some 72, none, .mv (.tmp 9)⟩,
          ⟨some 73, none, .bin .sub (.tmp 72) (.const (.int .i64 1))⟩,
          ⟨some 74, none, .ia 1 (.tmp 71) (.tmp 73)⟩,
          ⟨some 75, none, .ld (.int .u32) (.tmp 74)⟩,
          ⟨some 76, none, .mv (.tmp 8)⟩,
          ⟨some 77, none, .mv (.tmp 9)⟩,
          ⟨some 78, none, .bin .sub (.tmp 77) (.const (.int .i64 2))⟩,
          ⟨some 79, none, .ia 1 (.tmp 76) (.tmp 78)⟩,
          ⟨some 80, none, .ld (.int .u32) (.tmp 79)⟩,
          ⟨some 81, none, .call 73 [(.tmp 70), (.tmp 75), (.tmp 80)]⟩,
          ⟨some 11, none, .mv (.tmp 81)⟩])
        (.join (.seq (.ops [⟨some 82, none, .mv (.tmp 7)⟩,
          ⟨some 83, none, .mv (.tmp 10)⟩,
          ⟨some 84, none, .mv (.tmp 10)⟩,
          ⟨some 85, none, .mv (.tmp 9)⟩,
          ⟨some 86, none, .bin .add (.tmp 84) (.tmp 85)⟩,
          ⟨some 87, none, .bin .add (.tmp 86) (.const (.int .i64 1))⟩,
          ⟨some 88, none, .slc 1 (.tmp 82) (some (.tmp 83)) (some (.tmp 87)) none⟩,
          ⟨some 89, none, .mv (.tmp 8)⟩,
          ⟨some 90, none, .mv (.tmp 11)⟩,
          ⟨some 91, none, .call 74 [(.tmp 88), (.tmp 89), (.tmp 90)]⟩,
          ⟨some 92, none, .un .not (.tmp 91)⟩])
        (.cond (.tmp 92)
          (.ops [⟨some 93, none, .mv (.tmp 11)⟩,
            ⟨some 94, none, .bin .sub (.tmp 93) (.const (.int .u32 1))⟩,
            ⟨some 11, none, .mv (.tmp 94)⟩])
          .skip))
        (.ops [⟨some 95, none, .mv (.tmp 4)⟩,
          ⟨some 96, none, .mv (.tmp 10)⟩,
          ⟨some 97, none, .mv (.tmp 11)⟩,
          ⟨some 98, none, .ia 1 (.tmp 95) (.tmp 96)⟩,
          ⟨none, none, .st 1 (.tmp 98) (.tmp 97)⟩]))))
      (.ops [⟨some 63, none, .mv (.tmp 10)⟩,
        ⟨some 64, none, .bin .sub (.tmp 63) (.const (.int .i64 1))⟩,
        ⟨some 10, none, .mv (.tmp 64)⟩]))))))
  (.seq (.ops [⟨some 99, none, .mv (.tmp 9)⟩,
    ⟨some 100, none, .mks 42 1 4 #[(.int .u32 0)] (.tmp 99) (.tmp 99)⟩,
    ⟨some 5, none, .mv (.tmp 100)⟩])
  (.seq (.seq (.ops [⟨some 101, none, .mv (.tmp 9)⟩,
    ⟨some 102, none, .mv (.const (.int .i64 0))⟩])
  (.block 3
    (.loop
      (.seq (.ops [⟨some 103, none, .bin .lss (.tmp 102) (.tmp 101)⟩])
      (.seq (.cond (.tmp 103)
        .skip
        (.exit 3))
      (.seq (.block 4
        (.seq (.ops [⟨some 104, none, .mv (.tmp 102)⟩,
          ⟨some 12, none, .mv (.tmp 104)⟩])
        (.draw 19 [⟨some 105, none, .mv (.tmp 5)⟩,
          ⟨some 106, none, .mv (.tmp 12)⟩,
          ⟨some 107, none, .mv (.tmp 7)⟩,
          ⟨some 108, none, .mv (.tmp 12)⟩,
          ⟨some 109, none, .bin .add (.tmp 108) (.const (.int .i64 1))⟩,
          ⟨some 110, none, .ia 1 (.tmp 107) (.tmp 109)⟩,
          ⟨some 111, none, .ld (.int .u32) (.tmp 110)⟩,
          ⟨some 112, none, .cv .u64 (.tmp 111)⟩,
          ⟨some 113, none, .bin .shl (.tmp 112) (.const (.int .u64 32))⟩,
          ⟨some 114, none, .mv (.tmp 7)⟩,
          ⟨some 115, none, .mv (.tmp 12)⟩,
          ⟨some 116, none, .ia 1 (.tmp 114) (.tmp 115)⟩,
          ⟨some 117, none, .ld (.int .u32) (.tmp 116)⟩,
          ⟨some 118, none, .cv .u64 (.tmp 117)⟩,
          ⟨some 119, none, .bin .or (.tmp 113) (.tmp 118)⟩,
          ⟨some 120, none, .mv (.tmp 6)⟩,
          ⟨some 121, none, .bin .shr (.tmp 119) (.tmp 120)⟩,
          ⟨some 122, none, .cv .u32 (.tmp 121)⟩,
          ⟨some 123, none, .ia 1 (.tmp 105) (.tmp 106)⟩,
          ⟨none, none, .st 1 (.tmp 123) (.tmp 122)⟩])))
      (.ops [⟨some 124, none, .bin .add (.tmp 102) (.const (.int .i64 1))⟩,
        ⟨some 102, none, .mv (.tmp 124)⟩])))))))
  (.seq (.ops [⟨some 125, none, .mv (.tmp 4)⟩,
    ⟨some 126, none, .call 55 [(.tmp 125)]⟩,
    ⟨some 127, none, .mv (.tmp 5)⟩,
    ⟨some 128, none, .call 55 [(.tmp 127)]⟩,
    ⟨some 4, none, .mv (.tmp 126)⟩,
    ⟨some 5, none, .mv (.tmp 128)⟩])
  .ret)))))))))))⟩
theorem h61 : strF Try.prog [(13, [(0, 0), (0, 1), (0, 2), (0, 3), (0, 4), (0, 5), (0, 6), (0, 7), (0, 8), (0, 9), (0, 11), (0, 12), (0, 13), (0, 14), (1, 10), (1, 15), (2, 16), (0, 17)])] Try.f61 = some c61 := by kernel_rfl

/-- chirograph/chirographref01.divmod -/
def c62 : Fun := ⟨101, [.inl 4, .inl 5],
  (.seq (.ops [⟨some 4, none, .mv (.const (.slice none 0 0))⟩,
    ⟨some 5, none, .mv (.const (.slice none 0 0))⟩])
  (.seq (.ops [⟨some 14, none, .mv (.tmp 0)⟩,
    ⟨some 15, none, .len (.tmp 14)⟩,
    ⟨some 16, none, .mks 50 1 8 #[(.int .u64 0)] (.tmp 15) (.tmp 15)⟩,
    ⟨some 6, none, .mv (.tmp 16)⟩])
  (.seq (.ops [⟨some 17, none, .mv (.tmp 1)⟩,
    ⟨some 18, none, .len (.tmp 17)⟩,
    ⟨some 7, none, .mv (.tmp 18)⟩])
  (.seq (.draw 12 [⟨some 19, none, .mv (.tmp 1)⟩,
    ⟨some 20, none, .mv (.tmp 7)⟩,
    ⟨some 21, none, .bin .sub (.tmp 20) (.const (.int .i64 1))⟩,
    ⟨some 22, none, .ia 1 (.tmp 19) (.tmp 21)⟩,
    ⟨some 23, none, .ld (.int .u64) (.tmp 22)⟩,
    ⟨some 24, none, .bin .mul (.tmp 23) (.const (.int .u64 65536))⟩,
    ⟨some 25, none, .mv (.tmp 1)⟩,
    ⟨some 26, none, .mv (.tmp 7)⟩,
    ⟨some 27, none, .bin .sub (.tmp 26) (.const (.int .i64 2))⟩,
    ⟨some 28, none, .call 66 [(.tmp 25), (.tmp 27)]⟩,
    ⟨some 29, none, .bin .add (.tmp 24) (.tmp 28)⟩,
    ⟨some 8, none, .mv (.tmp 29)⟩])
  (.seq (.ops [⟨some 9, none, .mv (.const (.slice none 0 0))⟩])
  (.seq (.seq (.ops [⟨some 30, none, .mv (.tmp 0)⟩,
    ⟨some 31, none, .len (.tmp 30)⟩,
    ⟨some 32, none, .bin .sub (.tmp 31) (.const (.int .i64 1))⟩,
    ⟨some 10, none, .mv (.tmp 32)⟩])
  (.block 0
    (.loop
      (.seq (.seq (.ops [⟨some 33, none, .mv (.tmp 10)⟩,
        ⟨some 34, none, .bin .geq (.tmp 33) (.const (.int .i64 0))⟩])
      (.cond (.tmp 34)
        .skip
        (.exit 0)))
      (.join (.block 1
        (.seq (.ops [⟨some 37, none, .mv (.tmp 0)⟩,
          ⟨some 38, none, .mv (.tmp 10)⟩,
          ⟨some 39, none, .ia 1 (.tmp 37) (.tmp 38)⟩,
          ⟨some 40, none, .ld (.int .u64) (.tmp 39)⟩,
          ⟨some 41, none, .bsl 50 1 1 #[(.int .u64 0)] [(0, (.tmp 40))]⟩,
          ⟨some 42, none, .mv (.tmp 9)⟩,
          ⟨some 43, none, .app 50 1 8 #[(.int .u64 0)] (.tmp 41) (.tmp 42)⟩,
          ⟨some 44, none, .call 68 [(.tmp 43)]⟩,
          ⟨some 9, none, .mv (.tmp 44)⟩])
        (.seq (.seq (.ops [⟨some 45, none, .mv (.tmp 9)⟩,
          ⟨some 46, none, .mv (.tmp 1)⟩,
          ⟨some 47, none, .call 58 [(.tmp 45), (.tmp 46)]⟩,
          ⟨some 48, none, .bin .lss (.tmp 47) (.const (.int .i64 0))⟩])
        (.cond (.tmp 48)
          (.exit 1)
          .skip))
        (.seq (.ops [⟨some 11, none, .mv (.const (.int .u64 0))⟩])
        (.join (.seq (.ops [⟨some 49, none, .mv (.tmp 7)⟩,
          ⟨some 50, none, .bin .geq (.tmp 49) (.const (.int .i64 2))⟩])
        (.cond (.tmp 50)
          (.ops [⟨some 51, none, .mv (.tmp 9)⟩,
            ⟨some 52, none, .mv (.tmp 7)⟩,
            ⟨some 53, none, .call 66 [(.tmp 51), (.tmp 52)]⟩,
            ⟨some 54, none, .bin .mul (.tmp 53) (.const (.int .u64 65536))⟩,
            ⟨some 55, none, .mv (.tmp 9)⟩,
            ⟨some 56, none, .mv (.tmp 7)⟩,
            ⟨some 57, none, .bin .sub (.tmp 56) (.const (.int .i64 1))⟩,
            ⟨some 58, none, .call 66 [(.tmp 55), (.tmp 57)]⟩,
            ⟨some 59, none, .bin .add (.tmp 54) (.tmp 58)⟩,
            ⟨some 60, none, .bin .mul (.tmp 59) (.const (.int .u64 65536))⟩,
            ⟨some 61, none, .mv (.tmp 9)⟩,
            ⟨some 62, none, .mv (.tmp 7)⟩,
            ⟨some 63, none, .bin .sub (.tmp 62) (.const (.int .i64 2))⟩,
            ⟨some 64, none, .call 66 [(.tmp 61), (.tmp 63)]⟩,
            ⟨some 65, none, .bin .add (.tmp 60) (.tmp 64)⟩,
            ⟨some 11, none, .mv (.tmp 65)⟩])
          (.ops [⟨some 66, none, .mv (.tmp 9)⟩,
            ⟨some 67, none, .call 66 [(.tmp 66), (.const (.int .i64 1))]⟩,
            ⟨some 68, none, .bin .mul (.tmp 67) (.const (.int .u64 65536))⟩,
            ⟨some 69, none, .mv (.tmp 9)⟩,
            ⟨some 70, none, .call 66 [(.tmp 69), (.const (.int .i64 0))]⟩,
            ⟨some 71, none, .bin .add (.tmp 68) (.tmp 70)⟩,
            ⟨some 72, none, .bin .mul (.tmp 71) (.const (.int .u64 65536))⟩,
            ⟨some 11, none, .mv (.tmp 72)⟩])))
        (.seq (.ops [⟨some 73, none, .mv (.tmp 11)⟩,
          ⟨some 74, none, .mv (.tmp 8)⟩,
          ⟨some 75, none, .bin .quo (.tmp 73) (.tmp 74)⟩,
          ⟨some 12, none, .mv (.tmp 75)⟩])
        (.join (.seq (.ops [⟨some 76, none, .mv (.tmp 12)⟩,
          ⟨some 77, none, .bin .gtr (.tmp 76) (.const (.int .u64 65535))⟩])
        (.cond (.tmp 77)
          (.ops [⟨some 12, none, .mv (.const (.int .u64 65535))⟩])
          .skip))
        (.seq (.ops [⟨some 78, none, .mv (.tmp 1)⟩,
          ⟨some 79, none, .mv (.tmp 12)⟩,
          ⟨some 80, none, .bsl 50 1 1 #[(.int .u64 0)] [(0, (.tmp 79))]⟩,
          ⟨some 81, none, .call 60 [(.tmp 78), (.tmp 80)]⟩,
          ⟨some 13, none, .mv (.tmp 81)⟩])
        (.seq (.block 2
          (.loop
            (.seq (.seq (.ops [⟨some 82, none, .mv (.tmp 13)⟩,
              ⟨some 83, none, .mv (.tmp 9)⟩,
              ⟨some 84, none, .call 58 [(.tmp 82), (.tmp 83)]⟩,
              ⟨some 85, none, .bin .gtr (.tmp 84) (.const (.int .i64 0))⟩])
            (.cond (.tmp 85)
              .skip
              (.exit 2)))
            (.block 3
              (.seq (.ops [⟨some 86, none, .mv (.tmp 12)⟩,
                ⟨some 87, none, .bin .sub (.tmp 86) (.const (.int .u64 1))⟩,
                ⟨some 12, none, .mv (.tmp 87)⟩])
              (.ops [⟨some 88, none, .mv (.tmp 13)⟩,
                ⟨some 89, none, .mv (.tmp 1)⟩,
                ⟨some 90, none, .call 56 [(.tmp 88), (.tmp 89)]⟩,
                ⟨some 13, none, .mv (.tmp 90)⟩]))))))
        (.seq (.ops [⟨some 91, none, .mv (.tmp 9)⟩,
          ⟨some 92, none, .mv (.tmp 13)⟩,
          ⟨some 93, none, .call 56 [(.tmp 91), (.tmp 92)]⟩,
          ⟨some 9, none, .mv (.tmp 93)⟩])
        (.ops [⟨some 94, none, .mv (.tmp 6)⟩,
          ⟨some 95, none, .mv (.tmp 10)⟩,
          ⟨some 96, none, .mv (.tmp 12)⟩,
          ⟨some 97, none, .ia 1 (.tmp 94) (.tmp 95)⟩,
          ⟨none, none, .st 1 (.tmp 97) (.tmp 96)⟩])))))))))))
      (.ops [⟨some 35, none, .mv (.tmp 10)⟩,
        ⟨some 36, none, .bin .sub (.tmp 35) (.const (.int .i64 1))⟩,
        ⟨some 10, none, .mv (.tmp 36)⟩]))))))
  (.seq (.ops [⟨some 98, none, .mv (.tmp 6)⟩,
    ⟨some 99, none, .call 68 [(.tmp 98)]⟩,
    ⟨some 100, none, .mv (.tmp 9)⟩,
    ⟨some 4, none, .mv (.tmp 99)⟩,
    ⟨some 5, none, .mv (.tmp 100)⟩])
  .ret)))))))⟩
theorem h62 : strF Try.prog [] Try.f62 = some c62 := by kernel_rfl

/-- chirograph/nat.times -/
def c63 : Fun := ⟨18, [.inl 6],
  (.seq (.ops [⟨some 6, none, .mv (.const (.slice none 0 0))⟩])
  (.seq (.ops [⟨some 10, none, .mv (.tmp 0)⟩,
    ⟨some 11, none, .mv (.tmp 1)⟩,
    ⟨some 12, none, .call 59 [(.tmp 10), (.tmp 11)]⟩,
    ⟨some 13, none, .mv (.tmp 2)⟩,
    ⟨some 14, none, .call 61 [(.tmp 12), (.tmp 13)]⟩,
    ⟨some 9, none, .mv (.tmp 14)⟩,
    ⟨some 15, none, .ext (.tmp 9) 0⟩,
    ⟨some 16, none, .ext (.tmp 9) 1⟩,
    ⟨some 7, none, .mv (.tmp 15)⟩,
    ⟨some 8, none, .mv (.tmp 16)⟩])
  (.seq (.ops [⟨some 17, none, .mv (.tmp 8)⟩,
    ⟨some 6, none, .mv (.tmp 17)⟩])
  .ret)))⟩
theorem h63 : strF Try.prog [] Try.f63 = some c63 := by kernel_rfl

/-- chirograph/chirographref01.wide -/
def c64 : Fun := ⟨29, [.inl 4],
  (.seq (.ops [⟨some 4, none, .mv (.const (.slice none 0 0))⟩])
  (.seq (.ops [⟨some 7, none, .mv (.tmp 1)⟩,
    ⟨some 8, none, .mks 50 1 8 #[(.int .u64 0)] (.tmp 7) (.tmp 7)⟩,
    ⟨some 5, none, .mv (.tmp 8)⟩])
  (.seq (.seq (.ops [⟨some 6, none, .mv (.const (.int .i64 0))⟩])
  (.block 0
    (.loop
      (.seq (.seq (.ops [⟨some 9, none, .mv (.tmp 6)⟩,
        ⟨some 10, none, .mv (.tmp 1)⟩,
        ⟨some 11, none, .bin .lss (.tmp 9) (.tmp 10)⟩,
        ⟨some 12, none, .mv (.tmp 11)⟩,
        ⟨some 13, some (12, true), .mv (.tmp 6)⟩,
        ⟨some 14, some (12, true), .mv (.tmp 0)⟩,
        ⟨some 15, some (12, true), .len (.tmp 14)⟩,
        ⟨some 16, some (12, true), .bin .lss (.tmp 13) (.tmp 15)⟩,
        ⟨some 17, none, .pick (.tmp 12) (.tmp 16) (.const (.bool false))⟩])
      (.cond (.tmp 17)
        .skip
        (.exit 0)))
      (.seq (.block 1
        (.ops [⟨some 20, none, .mv (.tmp 5)⟩,
          ⟨some 21, none, .mv (.tmp 6)⟩,
          ⟨some 22, none, .mv (.tmp 0)⟩,
          ⟨some 23, none, .mv (.tmp 6)⟩,
          ⟨some 24, none, .ia 1 (.tmp 22) (.tmp 23)⟩,
          ⟨some 25, none, .ld (.int .u32) (.tmp 24)⟩,
          ⟨some 26, none, .cv .u64 (.tmp 25)⟩,
          ⟨some 27, none, .ia 1 (.tmp 20) (.tmp 21)⟩,
          ⟨none, none, .st 1 (.tmp 27) (.tmp 26)⟩]))
      (.ops [⟨some 18, none, .mv (.tmp 6)⟩,
        ⟨some 19, none, .bin .add (.tmp 18) (.const (.int .i64 1))⟩,
        ⟨some 6, none, .mv (.tmp 19)⟩]))))))
  (.seq (.ops [⟨some 28, none, .mv (.tmp 5)⟩,
    ⟨some 4, none, .mv (.tmp 28)⟩])
  .ret))))⟩
theorem h64 : strF Try.prog [] Try.f64 = some c64 := by kernel_rfl

end Go.Proofs.Ytbgfebhhejlakaa.Code
