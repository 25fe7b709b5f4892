/- The functions as the engine has them: by program, out of the translation. -/
import Derived.Test.YtcflokckfjkdpaaDoorDerBacke1
import Derived.Test.YtcflokckfjkdpaaDoorProg
set_option maxRecDepth 100000
namespace Go.Proofs.YtcflokckfjkdpaaDoor.Code
open Go Go.Proofs Go.Proofs.YtcflokckfjkdpaaDoor.Eng
/-- chirograph/der.Bits -/
def c14 : Fun := ⟨50, [.inl 2, .inl 3, .inl 4],
  (.seq (.ops [⟨some 2, none, .mv (.const (.slice none 0 0))⟩,
    ⟨some 3, none, .mv (.const (.int .i64 0))⟩,
    ⟨some 4, none, .mv (.const (.int .i64 0))⟩])
  (.seq (.seq (.ops [⟨some 5, none, .mv (.tmp 0)⟩,
    ⟨some 6, none, .len (.tmp 5)⟩,
    ⟨some 7, none, .bin .eql (.tmp 6) (.const (.int .i64 0))⟩,
    ⟨some 8, none, .mv (.tmp 7)⟩,
    ⟨some 9, some (8, false), .mv (.tmp 0)⟩,
    ⟨some 10, some (8, false), .ia 1 (.tmp 9) (.const (.int .i64 0))⟩,
    ⟨some 11, some (8, false), .ld (.int .u8) (.tmp 10)⟩,
    ⟨some 12, some (8, false), .bin .gtr (.tmp 11) (.const (.int .u8 7))⟩,
    ⟨some 13, none, .pick (.tmp 8) (.const (.bool true)) (.tmp 12)⟩,
    ⟨some 14, none, .mv (.tmp 13)⟩,
    ⟨some 15, some (14, false), .mv (.tmp 0)⟩,
    ⟨some 16, some (14, false), .ia 1 (.tmp 15) (.const (.int .i64 0))⟩,
    ⟨some 17, some (14, false), .ld (.int .u8) (.tmp 16)⟩,
    ⟨some 18, some (14, false), .bin .gtr (.tmp 17) (.const (.int .u8 0))⟩,
    ⟨some 19, some (14, false), .mv (.tmp 18)⟩,
    ⟨some 20, some (19, true), .mv (.tmp 0)⟩,
    ⟨some 21, some (19, true), .len (.tmp 20)⟩,
    ⟨some 22, some (19, true), .bin .eql (.tmp 21) (.const (.int .i64 1))⟩,
    ⟨some 23, some (14, false), .pick (.tmp 19) (.tmp 22) (.const (.bool false))⟩,
    ⟨some 24, none, .pick (.tmp 14) (.const (.bool true)) (.tmp 23)⟩])
  (.cond (.tmp 24)
    (.seq (.ops [⟨some 2, none, .mv (.const (.slice none 0 0))⟩,
      ⟨some 3, none, .mv (.const (.int .i64 0))⟩,
      ⟨some 4, none, .mv (.const (.int .i64 6))⟩])
    .ret)
    .skip))
  (.seq (.seq (.draw 18 [⟨some 25, none, .mv (.tmp 0)⟩,
    ⟨some 26, none, .ia 1 (.tmp 25) (.const (.int .i64 0))⟩,
    ⟨some 27, none, .ld (.int .u8) (.tmp 26)⟩,
    ⟨some 28, none, .bin .gtr (.tmp 27) (.const (.int .u8 0))⟩,
    ⟨some 29, none, .mv (.tmp 28)⟩,
    ⟨some 30, some (29, true), .mv (.tmp 0)⟩,
    ⟨some 31, some (29, true), .mv (.tmp 0)⟩,
    ⟨some 32, some (29, true), .len (.tmp 31)⟩,
    ⟨some 33, some (29, true), .bin .sub (.tmp 32) (.const (.int .i64 1))⟩,
    ⟨some 34, some (29, true), .ia 1 (.tmp 30) (.tmp 33)⟩,
    ⟨some 35, some (29, true), .ld (.int .u8) (.tmp 34)⟩,
    ⟨some 36, some (29, true), .mv (.tmp 0)⟩,
    ⟨some 37, some (29, true), .ia 1 (.tmp 36) (.const (.int .i64 0))⟩,
    ⟨some 38, some (29, true), .ld (.int .u8) (.tmp 37)⟩,
    ⟨some 39, some (29, true), .bin .sub (.const (.int .u8 8)) (.tmp 38)⟩,
    ⟨some 40, some (29, true), .bin .shl (.tmp 35) (.tmp 39)⟩,
    ⟨some 41, some (29, true), .bin .neq (.tmp 40) (.const (.int .u8 0))⟩,
    ⟨some 42, none, .pick (.tmp 29) (.tmp 41) (.const (.bool false))⟩])
  (.cond (.tmp 42)
    (.seq (.ops [⟨some 2, none, .mv (.const (.slice none 0 0))⟩,
      ⟨some 3, none, .mv (.const (.int .i64 0))⟩,
      ⟨some 4, none, .mv (.const (.int .i64 6))⟩])
    .ret)
    .skip))
  (.seq (.drawT (.st 0 0 (.st 0 1 (.st 0 3 (.st 0 4 (.st 3 5 (.st 0 6 (.cov (.one 2 (.st 0 7 (.st 0 8 (.st 0 9 .nil)))))))))))
    [⟨some 43, none, .mv (.tmp 0)⟩,
      ⟨some 44, none, .slc 1 (.tmp 43) (some (.const (.int .i64 1))) none none⟩,
      ⟨some 45, none, .call 46 [(.tmp 44)]⟩,
      ⟨some 46, none, .mv (.tmp 0)⟩,
      ⟨some 47, none, .ia 1 (.tmp 46) (.const (.int .i64 0))⟩,
      ⟨some 48, none, .ld (.int .u8) (.tmp 47)⟩,
      ⟨some 49, none, .cv .i64 (.tmp 48)⟩,
      ⟨some 2, none, .mv (.tmp 45)⟩,
      ⟨some 3, none, .mv (.tmp 49)⟩,
      ⟨some 4, none, .mv (.const (.int .i64 0))⟩])
  .ret))))⟩
theorem h14 : strF Tryd.prog [(5, .inr (.st 0 0 (.st 0 1 (.st 0 3 (.st 0 4 (.st 3 5 (.st 0 6 (.cov (.one 2 (.st 0 7 (.st 0 8 (.st 0 9 .nil))))))))))))] Tryd.f14 = some c14 := by kernel_rfl
/-- chirograph/der.Flags -/
def c16 : Fun := ⟨46, [.inl 2, .inl 3],
  (.seq (.ops [⟨some 2, none, .mv (.const (.int .u32 0))⟩,
    ⟨some 3, none, .mv (.const (.int .i64 0))⟩])
  (.seq (.ops [⟨some 10, none, .mv (.tmp 0)⟩,
    ⟨some 11, none, .call 14 [(.tmp 10)]⟩,
    ⟨some 9, none, .mv (.tmp 11)⟩,
    ⟨some 12, none, .ext (.tmp 9) 0⟩,
    ⟨some 13, none, .ext (.tmp 9) 1⟩,
    ⟨some 14, none, .ext (.tmp 9) 2⟩,
    ⟨some 4, none, .mv (.tmp 12)⟩,
    ⟨some 5, none, .mv (.tmp 13)⟩,
    ⟨some 6, none, .mv (.tmp 14)⟩])
  (.seq (.block 0
    (.seq (.ops [⟨some 16, none, .mv (.tmp 6)⟩,
      ⟨some 17, none, .bin .neq (.tmp 16) (.const (.int .i64 0))⟩,
      ⟨some 15, none, .mv (.tmp 17)⟩])
    (.cond (.tmp 15)
      (.seq (.ops [⟨some 18, none, .mv (.tmp 6)⟩,
        ⟨some 2, none, .mv (.const (.int .u32 0))⟩,
        ⟨some 3, none, .mv (.tmp 18)⟩])
      .ret)
      (.seq (.ops [⟨some 20, none, .mv (.tmp 4)⟩,
        ⟨some 21, none, .len (.tmp 20)⟩,
        ⟨some 22, none, .bin .gtr (.tmp 21) (.const (.int .i64 4))⟩,
        ⟨some 19, none, .mv (.tmp 22)⟩])
      (.cond (.tmp 19)
        (.seq (.ops [⟨some 2, none, .mv (.const (.int .u32 0))⟩,
          ⟨some 3, none, .mv (.const (.int .i64 3))⟩])
        .ret)
        .skip)))))
  (.seq (.ops [⟨some 7, none, .mv (.const (.int .u32 0))⟩])
  (.seq (.seq (.ops [⟨some 23, none, .mv (.tmp 4)⟩,
    ⟨some 24, none, .len (.tmp 23)⟩,
    ⟨some 25, none, .bin .mul (.const (.int .i64 8)) (.tmp 24)⟩,
    ⟨some 26, none, .mv (.const (.int .i64 0))⟩])
  (.block 1
    (.loop
      (.seq (.ops [⟨some 27, none, .bin .lss (.tmp 26) (.tmp 25)⟩])
      (.seq (.cond (.tmp 27)
        .skip
        (.exit 1))
      (.seq (.block 2
        (.seq (.ops [⟨some 28, none, .mv (.tmp 26)⟩,
          ⟨some 8, none, .mv (.tmp 28)⟩])
        (.ops [⟨some 29, none, .mv (.tmp 7)⟩,
          ⟨some 30, none, .mv (.tmp 4)⟩,
          ⟨some 31, none, .mv (.tmp 8)⟩,
          ⟨some 32, none, .bin .quo (.tmp 31) (.const (.int .i64 8))⟩,
          ⟨some 33, none, .ia 1 (.tmp 30) (.tmp 32)⟩,
          ⟨some 34, none, .ld (.int .u8) (.tmp 33)⟩,
          ⟨some 35, none, .mv (.tmp 8)⟩,
          ⟨some 36, none, .bin .rem (.tmp 35) (.const (.int .i64 8))⟩,
          ⟨some 37, none, .bin .sub (.const (.int .i64 7)) (.tmp 36)⟩,
          ⟨some 38, none, .bin .shr (.tmp 34) (.tmp 37)⟩,
          ⟨some 39, none, .bin .and (.tmp 38) (.const (.int .u8 1))⟩,
          ⟨some 40, none, .cv .u32 (.tmp 39)⟩,
          ⟨some 41, none, .mv (.tmp 8)⟩,
          ⟨some 42, none, .bin .shl (.tmp 40) (.tmp 41)⟩,
          ⟨some 43, none, .bin .or (.tmp 29) (.tmp 42)⟩,
          ⟨some 7, none, .mv (.tmp 43)⟩])))
      (.ops [⟨some 44, none, .bin .add (.tmp 26) (.const (.int .i64 1))⟩,
        ⟨some 26, none, .mv (.tmp 44)⟩])))))))
  (.seq (.ops [⟨some 45, none, .mv (.tmp 7)⟩,
    ⟨some 2, none, .mv (.tmp 45)⟩,
    ⟨some 3, none, .mv (.const (.int .i64 0))⟩])
  .ret))))))⟩
theorem h16 : strF Tryd.prog [] Tryd.f16 = some c16 := by kernel_rfl
/-- chirograph/chirographref01.SameBytes -/
def c18 : Fun := ⟨26, [.inl 4],
  (.seq (.ops [⟨some 4, none, .mv (.const (.bool false))⟩])
  (.seq (.seq (.ops [⟨some 6, none, .mv (.tmp 0)⟩,
    ⟨some 7, none, .len (.tmp 6)⟩,
    ⟨some 8, none, .mv (.tmp 1)⟩,
    ⟨some 9, none, .len (.tmp 8)⟩,
    ⟨some 10, none, .bin .neq (.tmp 7) (.tmp 9)⟩])
  (.cond (.tmp 10)
    (.seq (.ops [⟨some 4, none, .mv (.const (.bool false))⟩])
    .ret)
    .skip))
  (.seq (.seq (.ops [⟨some 5, none, .mv (.const (.int .i64 0))⟩])
  (.block 0
    (.loop
      (.seq (.seq (.ops [⟨some 11, none, .mv (.tmp 5)⟩,
        ⟨some 12, none, .mv (.tmp 0)⟩,
        ⟨some 13, none, .len (.tmp 12)⟩,
        ⟨some 14, none, .bin .lss (.tmp 11) (.tmp 13)⟩])
      (.cond (.tmp 14)
        .skip
        (.exit 0)))
      (.seq (.block 1
        (.seq (.draw 9 [⟨some 17, none, .mv (.tmp 0)⟩,
          ⟨some 18, none, .mv (.tmp 5)⟩,
          ⟨some 19, none, .ia 1 (.tmp 17) (.tmp 18)⟩,
          ⟨some 20, none, .ld (.int .u8) (.tmp 19)⟩,
          ⟨some 21, none, .mv (.tmp 1)⟩,
          ⟨some 22, none, .mv (.tmp 5)⟩,
          ⟨some 23, none, .ia 1 (.tmp 21) (.tmp 22)⟩,
          ⟨some 24, none, .ld (.int .u8) (.tmp 23)⟩,
          ⟨some 25, none, .bin .neq (.tmp 20) (.tmp 24)⟩])
        (.cond (.tmp 25)
          (.seq (.ops [⟨some 4, none, .mv (.const (.bool false))⟩])
          .ret)
          .skip)))
      (.ops [⟨some 15, none, .mv (.tmp 5)⟩,
        ⟨some 16, none, .bin .add (.tmp 15) (.const (.int .i64 1))⟩,
        ⟨some 5, none, .mv (.tmp 16)⟩]))))))
  (.seq (.ops [⟨some 4, none, .mv (.const (.bool true))⟩])
  .ret))))⟩
theorem h18 : strF Tryd.prog [] Tryd.f18 = some c18 := by kernel_rfl
/-- chirograph/der.Oid -/
def c21 : Fun := ⟨82, [.inl 2, .inl 3],
  (.seq (.ops [⟨some 2, none, .mv (.const (.string ⟨#[]⟩))⟩,
    ⟨some 3, none, .mv (.const (.int .i64 0))⟩])
  (.seq (.seq (.ops [⟨some 11, none, .mv (.tmp 0)⟩,
    ⟨some 12, none, .len (.tmp 11)⟩,
    ⟨some 13, none, .bin .eql (.tmp 12) (.const (.int .i64 0))⟩,
    ⟨some 14, none, .mv (.tmp 13)⟩,
    ⟨some 15, some (14, false), .mv (.tmp 0)⟩,
    ⟨some 16, some (14, false), .mv (.tmp 0)⟩,
    ⟨some 17, some (14, false), .len (.tmp 16)⟩,
    ⟨some 18, some (14, false), .bin .sub (.tmp 17) (.const (.int .i64 1))⟩,
    ⟨some 19, some (14, false), .ia 1 (.tmp 15) (.tmp 18)⟩,
    ⟨some 20, some (14, false), .ld (.int .u8) (.tmp 19)⟩,
    ⟨some 21, some (14, false), .bin .geq (.tmp 20) (.const (.int .u8 128))⟩,
    ⟨some 22, none, .pick (.tmp 14) (.const (.bool true)) (.tmp 21)⟩])
  (.cond (.tmp 22)
    (.seq (.ops [⟨some 2, none, .mv (.const (.string ⟨#[]⟩))⟩,
      ⟨some 3, none, .mv (.const (.int .i64 6))⟩])
    .ret)
    .skip))
  (.seq (.seq (.ops [⟨some 23, none, .mv (.tmp 0)⟩,
    ⟨some 24, none, .len (.tmp 23)⟩,
    ⟨some 25, none, .mv (.const (.int .i64 0))⟩])
  (.block 0
    (.loop
      (.seq (.ops [⟨some 26, none, .bin .lss (.tmp 25) (.tmp 24)⟩])
      (.seq (.cond (.tmp 26)
        .skip
        (.exit 0))
      (.seq (.block 1
        (.seq (.ops [⟨some 27, none, .mv (.tmp 25)⟩,
          ⟨some 28, none, .ia 1 (.tmp 23) (.tmp 25)⟩,
          ⟨some 29, none, .ld (.int .u8) (.tmp 28)⟩,
          ⟨some 4, none, .mv (.tmp 27)⟩,
          ⟨some 5, none, .mv (.tmp 29)⟩])
        (.seq (.ops [⟨some 30, none, .mv (.tmp 5)⟩,
          ⟨some 31, none, .bin .eql (.tmp 30) (.const (.int .u8 128))⟩,
          ⟨some 32, none, .mv (.tmp 31)⟩,
          ⟨some 33, some (32, true), .mv (.tmp 4)⟩,
          ⟨some 34, some (32, true), .bin .eql (.tmp 33) (.const (.int .i64 0))⟩,
          ⟨some 35, some (32, true), .mv (.tmp 34)⟩,
          ⟨some 36, some (35, false), .mv (.tmp 0)⟩,
          ⟨some 37, some (35, false), .mv (.tmp 4)⟩,
          ⟨some 38, some (35, false), .bin .sub (.tmp 37) (.const (.int .i64 1))⟩,
          ⟨some 39, some (35, false), .ia 1 (.tmp 36) (.tmp 38)⟩,
          ⟨some 40, some (35, false), .ld (.int .u8) (.tmp 39)⟩,
          ⟨some 41, some (35, false), .bin .lss (.tmp 40) (.const (.int .u8 128))⟩,
          ⟨some 42, some (32, true), .pick (.tmp 35) (.const (.bool true)) (.tmp 41)⟩,
          ⟨some 43, none, .pick (.tmp 32) (.tmp 42) (.const (.bool false))⟩])
        (.cond (.tmp 43)
          (.seq (.ops [⟨some 2, none, .mv (.const (.string ⟨#[]⟩))⟩,
            ⟨some 3, none, .mv (.const (.int .i64 6))⟩])
          .ret)
          .skip))))
      (.ops [⟨some 44, none, .bin .add (.tmp 25) (.const (.int .i64 1))⟩,
        ⟨some 25, none, .mv (.tmp 44)⟩])))))))
  (.seq (.ops [⟨some 6, none, .mv (.const (.string ⟨#[]⟩))⟩])
  (.seq (.ops [⟨some 7, none, .mv (.const (.int .u64 0))⟩])
  (.seq (.seq (.ops [⟨some 45, none, .mv (.tmp 0)⟩,
    ⟨some 46, none, .len (.tmp 45)⟩,
    ⟨some 47, none, .mv (.const (.int .i64 0))⟩])
  (.block 2
    (.loop
      (.seq (.ops [⟨some 48, none, .bin .lss (.tmp 47) (.tmp 46)⟩])
      (.seq (.cond (.tmp 48)
        .skip
        (.exit 2))
      (.join (.block 3
        (.seq (.ops [⟨some 49, none, .ia 1 (.tmp 45) (.tmp 47)⟩,
          ⟨some 50, none, .ld (.int .u8) (.tmp 49)⟩,
          ⟨some 9, none, .mv (.tmp 50)⟩])
        (.seq (.ops [⟨some 51, none, .mv (.tmp 7)⟩,
          ⟨some 52, none, .bin .shl (.tmp 51) (.const (.int .u64 7))⟩,
          ⟨some 53, none, .mv (.tmp 9)⟩,
          ⟨some 54, none, .bin .and (.tmp 53) (.const (.int .u8 127))⟩,
          ⟨some 55, none, .cv .u64 (.tmp 54)⟩,
          ⟨some 56, none, .bin .or (.tmp 52) (.tmp 55)⟩,
          ⟨some 57, none, .min2 (.tmp 56) (.const (.int .u64 1099511627776))⟩,
          ⟨some 7, none, .mv (.tmp 57)⟩])
        (.seq (.seq (.ops [⟨some 58, none, .mv (.tmp 9)⟩,
          ⟨some 59, none, .bin .geq (.tmp 58) (.const (.int .u8 128))⟩])
        (.cond (.tmp 59)
          (.exit 3)
          .skip))
        (.join (.seq (.ops [⟨some 60, none, .mv (.tmp 6)⟩,
          ⟨some 61, none, .bin .eql (.tmp 60) (.const (.string ⟨#[]⟩))⟩])
        (.cond (.tmp 61)
          (.seq (.ops [⟨some 62, none, .mv (.tmp 7)⟩,
            ⟨some 63, none, .bin .quo (.tmp 62) (.const (.int .u64 40))⟩,
            ⟨some 64, none, .min2 (.tmp 63) (.const (.int .u64 2))⟩,
            ⟨some 10, none, .mv (.tmp 64)⟩])
          (.seq (.ops [⟨some 65, none, .mv (.tmp 10)⟩,
            ⟨some 66, none, .cv .i64 (.tmp 65)⟩,
            ⟨some 67, none, .call 47 [(.tmp 66)]⟩,
            ⟨some 6, none, .mv (.tmp 67)⟩])
          (.ops [⟨some 68, none, .mv (.tmp 7)⟩,
            ⟨some 69, none, .mv (.tmp 10)⟩,
            ⟨some 70, none, .bin .mul (.const (.int .u64 40)) (.tmp 69)⟩,
            ⟨some 71, none, .bin .sub (.tmp 68) (.tmp 70)⟩,
            ⟨some 7, none, .mv (.tmp 71)⟩])))
          .skip))
        (.seq (.seq (.ops [⟨some 72, none, .mv (.tmp 7)⟩,
          ⟨some 73, none, .bin .gtr (.tmp 72) (.const (.int .u64 2147483647))⟩])
        (.cond (.tmp 73)
          (.seq (.ops [⟨some 2, none, .mv (.const (.string ⟨#[]⟩))⟩,
            ⟨some 3, none, .mv (.const (.int .i64 3))⟩])
          .ret)
          .skip))
        (.seq (.ops [⟨some 74, none, .mv (.tmp 6)⟩,
          ⟨some 75, none, .mv (.tmp 7)⟩,
          ⟨some 76, none, .cv .i64 (.tmp 75)⟩,
          ⟨some 77, none, .call 47 [(.tmp 76)]⟩,
          ⟨some 78, none, .bin .add (.const (.string ⟨#[46]⟩)) (.tmp 77)⟩,
          ⟨some 79, none, .bin .add (.tmp 74) (.tmp 78)⟩,
          ⟨some 6, none, .mv (.tmp 79)⟩])
        (.ops [⟨some 7, none, .mv (.const (.int .u64 0))⟩]))))))))
      (.ops [⟨some 80, none, .bin .add (.tmp 47) (.const (.int .i64 1))⟩,
        ⟨some 47, none, .mv (.tmp 80)⟩])))))))
  (.seq (.ops [⟨some 81, none, .mv (.tmp 6)⟩,
    ⟨some 2, none, .mv (.tmp 81)⟩,
    ⟨some 3, none, .mv (.const (.int .i64 0))⟩])
  .ret)))))))⟩
theorem h21 : strF Tryd.prog [] Tryd.f21 = some c21 := by kernel_rfl
/-- chirograph/der.PutOid -/
def c23 : Fun := ⟨49, [.inl 2, .inl 3],
  (.seq (.ops [⟨some 2, none, .mv (.const (.slice none 0 0))⟩,
    ⟨some 3, none, .mv (.const (.int .i64 0))⟩])
  (.seq (.ops [⟨some 12, none, .mv (.tmp 0)⟩,
    ⟨some 13, none, .call 49 [(.tmp 12)]⟩,
    ⟨some 11, none, .mv (.tmp 13)⟩,
    ⟨some 14, none, .ext (.tmp 11) 0⟩,
    ⟨some 15, none, .ext (.tmp 11) 1⟩,
    ⟨some 4, none, .mv (.tmp 14)⟩,
    ⟨some 5, none, .mv (.tmp 15)⟩])
  (.seq (.seq (.ops [⟨some 16, none, .mv (.tmp 5)⟩,
    ⟨some 17, none, .un .not (.tmp 16)⟩])
  (.cond (.tmp 17)
    (.seq (.ops [⟨some 2, none, .mv (.const (.slice none 0 0))⟩,
      ⟨some 3, none, .mv (.const (.int .i64 6))⟩])
    .ret)
    .skip))
  (.seq (.seq (.ops [⟨some 18, none, .mv (.tmp 4)⟩,
    ⟨some 19, none, .len (.tmp 18)⟩,
    ⟨some 20, none, .mv (.const (.int .i64 0))⟩])
  (.block 0
    (.loop
      (.seq (.ops [⟨some 21, none, .bin .lss (.tmp 20) (.tmp 19)⟩])
      (.seq (.cond (.tmp 21)
        .skip
        (.exit 0))
      (.seq (.block 1
        (.seq (.ops [⟨some 22, none, .ia 1 (.tmp 18) (.tmp 20)⟩,
          ⟨some 23, none, .ld (.int .u64) (.tmp 22)⟩,
          ⟨some 7, none, .mv (.tmp 23)⟩])
        (.seq (.ops [⟨some 24, none, .mv (.tmp 7)⟩,
          ⟨some 25, none, .bin .gtr (.tmp 24) (.const (.int .u64 2147483647))⟩])
        (.cond (.tmp 25)
          (.seq (.ops [⟨some 2, none, .mv (.const (.slice none 0 0))⟩,
            ⟨some 3, none, .mv (.const (.int .i64 3))⟩])
          .ret)
          .skip))))
      (.ops [⟨some 26, none, .bin .add (.tmp 20) (.const (.int .i64 1))⟩,
        ⟨some 20, none, .mv (.tmp 26)⟩])))))))
  (.seq (.drawS [(0, 0), (0, 1), (0, 4), (0, 5), (1, 2), (0, 3), (1, 6), (0, 7), (2, 8), (0, 9)]
    [⟨some 27, none, .mv (.tmp 4)⟩,
    ⟨some 28, none, .ia 1 (.tmp 27) (.const (.int .i64 0))⟩,
    ⟨some 29, none, .ld (.int .u64) (.tmp 28)⟩,
    ⟨some 30, none, .bin .mul (.const (.int .u64 40)) (.tmp 29)⟩,
    ⟨some 31, none, .mv (.tmp 4)⟩,
    ⟨some 32, none, .ia 1 (.tmp 31) (.const (.int .i64 1))⟩,
    ⟨some 33, none, .ld (.int .u64) (.tmp 32)⟩,
    ⟨some 34, none, .bin .add (.tmp 30) (.tmp 33)⟩,
    ⟨some 35, none, .call 50 [(.tmp 34)]⟩,
    ⟨some 8, none, .mv (.tmp 35)⟩])
  (.seq (.seq (.ops [⟨some 36, none, .mv (.tmp 4)⟩,
    ⟨some 37, none, .slc 1 (.tmp 36) (some (.const (.int .i64 2))) none none⟩,
    ⟨some 38, none, .len (.tmp 37)⟩,
    ⟨some 39, none, .mv (.const (.int .i64 0))⟩])
  (.block 2
    (.loop
      (.seq (.ops [⟨some 40, none, .bin .lss (.tmp 39) (.tmp 38)⟩])
      (.seq (.cond (.tmp 40)
        .skip
        (.exit 2))
      (.seq (.block 3
        (.seq (.ops [⟨some 41, none, .ia 1 (.tmp 37) (.tmp 39)⟩,
          ⟨some 42, none, .ld (.int .u64) (.tmp 41)⟩,
          ⟨some 10, none, .mv (.tmp 42)⟩])
        (.ops [⟨some 43, none, .mv (.tmp 8)⟩,
          ⟨some 44, none, .mv (.tmp 10)⟩,
          ⟨some 45, none, .call 50 [(.tmp 44)]⟩,
          ⟨some 46, none, .app 5 1 1 #[(.int .u8 0)] (.tmp 43) (.tmp 45)⟩,
          ⟨some 8, none, .mv (.tmp 46)⟩])))
      (.ops [⟨some 47, none, .bin .add (.tmp 39) (.const (.int .i64 1))⟩,
        ⟨some 39, none, .mv (.tmp 47)⟩])))))))
  (.seq (.ops [⟨some 48, none, .mv (.tmp 8)⟩,
    ⟨some 2, none, .mv (.tmp 48)⟩,
    ⟨some 3, none, .mv (.const (.int .i64 0))⟩])
  .ret)))))))⟩
theorem h23 : strF Tryd.prog [(10, .inl [(0, 0), (0, 1), (0, 4), (0, 5), (1, 2), (0, 3), (1, 6), (0, 7), (2, 8), (0, 9)])] Tryd.f23 = some c23 := by kernel_rfl
/-- chirograph/der.Split -/
def c25 : Fun := ⟨83, [.inl 2, .inl 3, .inl 4],
  (.seq (.ops [⟨some 2, none, .mv (.const (.slice none 0 0))⟩,
    ⟨some 3, none, .mv (.const (.int .i64 0))⟩,
    ⟨some 4, none, .mv (.const (.int .i64 0))⟩])
  (.seq (.seq (.ops [⟨some 11, none, .mv (.tmp 0)⟩,
    ⟨some 12, none, .len (.tmp 11)⟩,
    ⟨some 13, none, .bin .gtr (.tmp 12) (.const (.int .i64 16777216))⟩])
  (.cond (.tmp 13)
    (.seq (.ops [⟨some 2, none, .mv (.const (.slice none 0 0))⟩,
      ⟨some 3, none, .mv (.const (.int .i64 3))⟩,
      ⟨some 4, none, .mv (.const (.int .i64 0))⟩])
    .ret)
    .skip))
  (.seq (.seq (.ops [⟨some 5, none, .mv (.const (.int .i64 0))⟩])
  (.block 0
    (.loop
      (.seq (.seq (.ops [⟨some 14, none, .mv (.tmp 5)⟩,
        ⟨some 15, none, .mv (.tmp 0)⟩,
        ⟨some 16, none, .len (.tmp 15)⟩,
        ⟨some 17, none, .bin .lss (.tmp 14) (.tmp 16)⟩])
      (.cond (.tmp 17)
        .skip
        (.exit 0)))
      (.block 1
        (.seq (.seq (.ops [⟨some 18, none, .mv (.tmp 2)⟩,
          ⟨some 19, none, .len (.tmp 18)⟩,
          ⟨some 20, none, .bin .eql (.tmp 19) (.const (.int .i64 65536))⟩])
        (.cond (.tmp 20)
          (.seq (.ops [⟨some 21, none, .mv (.tmp 5)⟩,
            ⟨some 2, none, .mv (.const (.slice none 0 0))⟩,
            ⟨some 3, none, .mv (.const (.int .i64 4))⟩,
            ⟨some 4, none, .mv (.tmp 21)⟩])
          .ret)
          .skip))
        (.seq (.ops [⟨some 23, none, .mv (.tmp 0)⟩,
          ⟨some 24, none, .mv (.tmp 5)⟩,
          ⟨some 25, none, .call 52 [(.tmp 23), (.tmp 24)]⟩,
          ⟨some 22, none, .mv (.tmp 25)⟩,
          ⟨some 26, none, .ext (.tmp 22) 0⟩,
          ⟨some 27, none, .ext (.tmp 22) 1⟩,
          ⟨some 28, none, .ext (.tmp 22) 2⟩,
          ⟨some 29, none, .ext (.tmp 22) 3⟩,
          ⟨some 6, none, .mv (.tmp 26)⟩,
          ⟨some 7, none, .mv (.tmp 27)⟩,
          ⟨some 8, none, .mv (.tmp 28)⟩,
          ⟨some 9, none, .mv (.tmp 29)⟩])
        (.seq (.seq (.ops [⟨some 30, none, .mv (.tmp 8)⟩,
          ⟨some 31, none, .bin .neq (.tmp 30) (.const (.int .i64 0))⟩])
        (.cond (.tmp 31)
          (.seq (.ops [⟨some 32, none, .mv (.tmp 8)⟩,
            ⟨some 33, none, .mv (.tmp 9)⟩,
            ⟨some 2, none, .mv (.const (.slice none 0 0))⟩,
            ⟨some 3, none, .mv (.tmp 32)⟩,
            ⟨some 4, none, .mv (.tmp 33)⟩])
          .ret)
          .skip))
        (.seq (.ops [⟨some 35, none, .mv (.tmp 0)⟩,
          ⟨some 36, none, .mv (.tmp 7)⟩,
          ⟨some 37, none, .call 53 [(.tmp 35), (.tmp 36)]⟩,
          ⟨some 34, none, .mv (.tmp 37)⟩,
          ⟨some 38, none, .ext (.tmp 34) 0⟩,
          ⟨some 39, none, .ext (.tmp 34) 1⟩,
          ⟨some 40, none, .ext (.tmp 34) 2⟩,
          ⟨some 41, none, .ext (.tmp 34) 3⟩,
          ⟨some 10, none, .mv (.tmp 38)⟩,
          ⟨some 7, none, .mv (.tmp 39)⟩,
          ⟨some 8, none, .mv (.tmp 40)⟩,
          ⟨some 9, none, .mv (.tmp 41)⟩])
        (.seq (.seq (.ops [⟨some 42, none, .mv (.tmp 8)⟩,
          ⟨some 43, none, .bin .neq (.tmp 42) (.const (.int .i64 0))⟩])
        (.cond (.tmp 43)
          (.seq (.ops [⟨some 44, none, .mv (.tmp 8)⟩,
            ⟨some 45, none, .mv (.tmp 9)⟩,
            ⟨some 2, none, .mv (.const (.slice none 0 0))⟩,
            ⟨some 3, none, .mv (.tmp 44)⟩,
            ⟨some 4, none, .mv (.tmp 45)⟩])
          .ret)
          .skip))
        (.seq (.drawT (.st 0 0 (.st 0 1 (.st 0 2 (.st 0 3 (.st 0 7 (.st 0 8 (.st 0 9 (.st 0 10 (.st 0 14 (.st 0 15 (.st 0 16 (.st 0 17 (.st 0 18 (.st 0 19 (.st 0 21 (.st 0 22 (.st 0 23 (.st 0 24 (.st 0 25 (.st 0 26 (.st 3 4 (.st 0 5 (.st 0 6 (.st 3 11 (.st 0 12 (.st 0 13 (.cov (.one 20 (.cov (.one 27 (.st 0 28 (.cov (.one 29 (.cov (.one 30 (.st 0 31 .nil))))))))))))))))))))))))))))))))))))
          [⟨some 46, none, .mv (.tmp 2)⟩,
            ⟨some 47, none, .mv (.tmp 0)⟩,
            ⟨some 48, none, .mv (.tmp 5)⟩,
            ⟨some 49, none, .ia 1 (.tmp 47) (.tmp 48)⟩,
            ⟨some 50, none, .ld (.int .u8) (.tmp 49)⟩,
            ⟨some 51, none, .bin .shr (.tmp 50) (.const (.int .u64 6))⟩,
            ⟨some 52, none, .cv .i64 (.tmp 51)⟩,
            ⟨some 53, none, .mv (.tmp 6)⟩,
            ⟨some 54, none, .mv (.tmp 0)⟩,
            ⟨some 55, none, .mv (.tmp 5)⟩,
            ⟨some 56, none, .ia 1 (.tmp 54) (.tmp 55)⟩,
            ⟨some 57, none, .ld (.int .u8) (.tmp 56)⟩,
            ⟨some 58, none, .bin .and (.tmp 57) (.const (.int .u8 32))⟩,
            ⟨some 59, none, .bin .neq (.tmp 58) (.const (.int .u8 0))⟩,
            ⟨some 60, none, .mv (.tmp 0)⟩,
            ⟨some 61, none, .mv (.tmp 7)⟩,
            ⟨some 62, none, .mv (.tmp 7)⟩,
            ⟨some 63, none, .mv (.tmp 10)⟩,
            ⟨some 64, none, .bin .add (.tmp 62) (.tmp 63)⟩,
            ⟨some 65, none, .slc 1 (.tmp 60) (some (.tmp 61)) (some (.tmp 64)) none⟩,
            ⟨some 66, none, .call 46 [(.tmp 65)]⟩,
            ⟨some 67, none, .mv (.tmp 0)⟩,
            ⟨some 68, none, .mv (.tmp 5)⟩,
            ⟨some 69, none, .mv (.tmp 7)⟩,
            ⟨some 70, none, .mv (.tmp 10)⟩,
            ⟨some 71, none, .bin .add (.tmp 69) (.tmp 70)⟩,
            ⟨some 72, none, .slc 1 (.tmp 67) (some (.tmp 68)) (some (.tmp 71)) none⟩,
            ⟨some 73, none, .call 46 [(.tmp 72)]⟩,
            ⟨some 74, none, .bld #[(.int .i64 0), (.int .i64 0), (.bool false), (.slice none 0 0), (.slice none 0 0)] [(0, 1), (1, 1), (2, 1), (3, 1), (4, 1)] [(0, (.tmp 52)), (1, (.tmp 53)), (2, (.tmp 59)), (3, (.tmp 66)), (4, (.tmp 73))]⟩,
            ⟨some 75, none, .bsl 53 5 1 #[(.int .i64 0), (.int .i64 0), (.bool false), (.slice none 0 0), (.slice none 0 0)] [(0, (.tmp 74))]⟩,
            ⟨some 76, none, .app 53 5 72 #[(.int .i64 0), (.int .i64 0), (.bool false), (.slice none 0 0), (.slice none 0 0)] (.tmp 46) (.tmp 75)⟩,
            ⟨some 2, none, .mv (.tmp 76)⟩])
        (.ops [⟨some 77, none, .mv (.tmp 7)⟩,
          ⟨some 78, none, .mv (.tmp 10)⟩,
          ⟨some 79, none, .bin .add (.tmp 77) (.tmp 78)⟩,
          ⟨some 5, none, .mv (.tmp 79)⟩]))))))))))))
  (.seq (.ops [⟨some 80, none, .mv (.tmp 2)⟩,
    ⟨some 81, none, .mv (.tmp 0)⟩,
    ⟨some 82, none, .len (.tmp 81)⟩,
    ⟨some 2, none, .mv (.tmp 80)⟩,
    ⟨some 3, none, .mv (.const (.int .i64 0))⟩,
    ⟨some 4, none, .mv (.tmp 82)⟩])
  .ret))))⟩
theorem h25 : strF Tryd.prog [(13, .inr (.st 0 0 (.st 0 1 (.st 0 2 (.st 0 3 (.st 0 7 (.st 0 8 (.st 0 9 (.st 0 10 (.st 0 14 (.st 0 15 (.st 0 16 (.st 0 17 (.st 0 18 (.st 0 19 (.st 0 21 (.st 0 22 (.st 0 23 (.st 0 24 (.st 0 25 (.st 0 26 (.st 3 4 (.st 0 5 (.st 0 6 (.st 3 11 (.st 0 12 (.st 0 13 (.cov (.one 20 (.cov (.one 27 (.st 0 28 (.cov (.one 29 (.cov (.one 30 (.st 0 31 .nil)))))))))))))))))))))))))))))))))))))] Tryd.f25 = some c25 := by kernel_rfl
/-- chirograph/chirographref04.Same -/
def c27 : Fun := ⟨62, [.inl 4],
  (.seq (.ops [⟨some 4, none, .mv (.const (.bool false))⟩])
  (.seq (.seq (.ops [⟨some 8, none, .mv (.tmp 0)⟩,
    ⟨some 9, none, .len (.tmp 8)⟩,
    ⟨some 10, none, .mv (.tmp 1)⟩,
    ⟨some 11, none, .len (.tmp 10)⟩,
    ⟨some 12, none, .bin .neq (.tmp 9) (.tmp 11)⟩])
  (.cond (.tmp 12)
    (.seq (.ops [⟨some 4, none, .mv (.const (.bool false))⟩])
    .ret)
    .skip))
  (.seq (.seq (.ops [⟨some 5, none, .mv (.const (.int .i64 0))⟩])
  (.block 0
    (.loop
      (.seq (.seq (.ops [⟨some 13, none, .mv (.tmp 5)⟩,
        ⟨some 14, none, .mv (.tmp 0)⟩,
        ⟨some 15, none, .len (.tmp 14)⟩,
        ⟨some 16, none, .bin .lss (.tmp 13) (.tmp 15)⟩])
      (.cond (.tmp 16)
        .skip
        (.exit 0)))
      (.seq (.block 1
        (.join (.drawT (.st 0 0 (.st 0 1 (.st 0 2 (.st 0 4 (.st 0 5 (.st 0 6 (.st 3 3 (.st 3 7 (.cov (.more 8 (.cov (.one 9 (.cov (.one 10 (.cov (.one 11 .nil)))))) (.one 9 (.cov (.one 8 (.cov (.one 10 (.cov (.one 11 .nil)))))))))))))))))
          [⟨some 19, none, .mv (.tmp 0)⟩,
            ⟨some 20, none, .mv (.tmp 5)⟩,
            ⟨some 21, none, .ia 5 (.tmp 19) (.tmp 20)⟩,
            ⟨some 22, none, .ld (.agg 5) (.tmp 21)⟩,
            ⟨some 23, none, .mv (.tmp 1)⟩,
            ⟨some 24, none, .mv (.tmp 5)⟩,
            ⟨some 25, none, .ia 5 (.tmp 23) (.tmp 24)⟩,
            ⟨some 26, none, .ld (.agg 5) (.tmp 25)⟩,
            ⟨some 6, none, .alloc 53 (.agg #[(.int .i64 0), (.int .i64 0), (.bool false), (.slice none 0 0), (.slice none 0 0)])⟩,
            ⟨some 7, none, .alloc 53 (.agg #[(.int .i64 0), (.int .i64 0), (.bool false), (.slice none 0 0), (.slice none 0 0)])⟩,
            ⟨none, none, .st 5 (.tmp 6) (.tmp 22)⟩,
            ⟨none, none, .st 5 (.tmp 7) (.tmp 26)⟩])
        (.seq (.ops [⟨some 27, none, .fa 0 (.tmp 6)⟩,
          ⟨some 28, none, .ld (.int .i64) (.tmp 27)⟩,
          ⟨some 29, none, .fa 0 (.tmp 7)⟩,
          ⟨some 30, none, .ld (.int .i64) (.tmp 29)⟩,
          ⟨some 31, none, .bin .neq (.tmp 28) (.tmp 30)⟩,
          ⟨some 32, none, .mv (.tmp 31)⟩,
          ⟨some 33, some (32, false), .fa 1 (.tmp 6)⟩,
          ⟨some 34, some (32, false), .ld (.int .i64) (.tmp 33)⟩,
          ⟨some 35, some (32, false), .fa 1 (.tmp 7)⟩,
          ⟨some 36, some (32, false), .ld (.int .i64) (.tmp 35)⟩,
          ⟨some 37, some (32, false), .bin .neq (.tmp 34) (.tmp 36)⟩,
          ⟨some 38, none, .pick (.tmp 32) (.const (.bool true)) (.tmp 37)⟩,
          ⟨some 39, none, .mv (.tmp 38)⟩,
          ⟨some 40, some (39, false), .fa 2 (.tmp 6)⟩,
          ⟨some 41, some (39, false), .ld .bool (.tmp 40)⟩,
          ⟨some 42, some (39, false), .fa 2 (.tmp 7)⟩,
          ⟨some 43, some (39, false), .ld .bool (.tmp 42)⟩,
          ⟨some 44, some (39, false), .eq .bool true (.tmp 41) (.tmp 43)⟩,
          ⟨some 45, none, .pick (.tmp 39) (.const (.bool true)) (.tmp 44)⟩,
          ⟨some 46, none, .mv (.tmp 45)⟩,
          ⟨some 47, some (46, false), .fa 3 (.tmp 6)⟩,
          ⟨some 48, some (46, false), .ld .slice (.tmp 47)⟩,
          ⟨some 49, some (46, false), .fa 3 (.tmp 7)⟩,
          ⟨some 50, some (46, false), .ld .slice (.tmp 49)⟩,
          ⟨some 51, some (46, false), .call 18 [(.tmp 48), (.tmp 50)]⟩,
          ⟨some 52, some (46, false), .un .not (.tmp 51)⟩,
          ⟨some 53, none, .pick (.tmp 46) (.const (.bool true)) (.tmp 52)⟩,
          ⟨some 54, none, .mv (.tmp 53)⟩,
          ⟨some 55, some (54, false), .fa 4 (.tmp 6)⟩,
          ⟨some 56, some (54, false), .ld .slice (.tmp 55)⟩,
          ⟨some 57, some (54, false), .fa 4 (.tmp 7)⟩,
          ⟨some 58, some (54, false), .ld .slice (.tmp 57)⟩,
          ⟨some 59, some (54, false), .call 18 [(.tmp 56), (.tmp 58)]⟩,
          ⟨some 60, some (54, false), .un .not (.tmp 59)⟩,
          ⟨some 61, none, .pick (.tmp 54) (.const (.bool true)) (.tmp 60)⟩])
        (.cond (.tmp 61)
          (.seq (.ops [⟨some 4, none, .mv (.const (.bool false))⟩])
          .ret)
          .skip))))
      (.ops [⟨some 17, none, .mv (.tmp 5)⟩,
        ⟨some 18, none, .bin .add (.tmp 17) (.const (.int .i64 1))⟩,
        ⟨some 5, none, .mv (.tmp 18)⟩]))))))
  (.seq (.ops [⟨some 4, none, .mv (.const (.bool true))⟩])
  .ret))))⟩
theorem h27 : strF Tryd.prog [(6, .inr (.st 0 0 (.st 0 1 (.st 0 2 (.st 0 4 (.st 0 5 (.st 0 6 (.st 3 3 (.st 3 7 (.cov (.more 8 (.cov (.one 9 (.cov (.one 10 (.cov (.one 11 .nil)))))) (.one 9 (.cov (.one 8 (.cov (.one 10 (.cov (.one 11 .nil))))))))))))))))))] Tryd.f27 = some c27 := by kernel_rfl
/-- chirograph/der.Put -/
def c31 : Fun := ⟨122, [.inl 8, .inl 9],
  (.seq (.ops [⟨some 8, none, .mv (.const (.slice none 0 0))⟩,
    ⟨some 9, none, .mv (.const (.int .i64 0))⟩])
  (.seq (.seq (.ops [⟨some 18, none, .mv (.tmp 0)⟩,
    ⟨some 19, none, .bin .lss (.tmp 18) (.const (.int .i64 0))⟩,
    ⟨some 20, none, .mv (.tmp 19)⟩,
    ⟨some 21, some (20, false), .mv (.tmp 0)⟩,
    ⟨some 22, some (20, false), .bin .gtr (.tmp 21) (.const (.int .i64 3))⟩,
    ⟨some 23, none, .pick (.tmp 20) (.const (.bool true)) (.tmp 22)⟩,
    ⟨some 24, none, .mv (.tmp 23)⟩,
    ⟨some 25, some (24, false), .mv (.tmp 1)⟩,
    ⟨some 26, some (24, false), .bin .lss (.tmp 25) (.const (.int .i64 0))⟩,
    ⟨some 27, none, .pick (.tmp 24) (.const (.bool true)) (.tmp 26)⟩,
    ⟨some 28, none, .mv (.tmp 27)⟩,
    ⟨some 29, some (28, false), .mv (.tmp 1)⟩,
    ⟨some 30, some (28, false), .bin .gtr (.tmp 29) (.const (.int .i64 268435455))⟩,
    ⟨some 31, none, .pick (.tmp 28) (.const (.bool true)) (.tmp 30)⟩,
    ⟨some 32, none, .mv (.tmp 31)⟩,
    ⟨some 33, some (32, false), .mv (.tmp 0)⟩,
    ⟨some 34, some (32, false), .mv (.tmp 1)⟩,
    ⟨some 35, some (32, false), .bin .add (.tmp 33) (.tmp 34)⟩,
    ⟨some 36, some (32, false), .bin .eql (.tmp 35) (.const (.int .i64 0))⟩,
    ⟨some 37, none, .pick (.tmp 32) (.const (.bool true)) (.tmp 36)⟩])
  (.cond (.tmp 37)
    (.seq (.ops [⟨some 8, none, .mv (.const (.slice none 0 0))⟩,
      ⟨some 9, none, .mv (.const (.int .i64 1))⟩])
    .ret)
    .skip))
  (.seq (.ops [⟨some 10, none, .mv (.const (.int .i64 0))⟩])
  (.seq (.seq (.ops [⟨some 38, none, .mv (.tmp 3)⟩,
    ⟨some 39, none, .len (.tmp 38)⟩,
    ⟨some 40, none, .mv (.const (.int .i64 0))⟩])
  (.block 0
    (.loop
      (.seq (.ops [⟨some 41, none, .bin .lss (.tmp 40) (.tmp 39)⟩])
      (.seq (.cond (.tmp 41)
        .skip
        (.exit 0))
      (.seq (.block 1
        (.seq (.ops [⟨some 42, none, .ia 1 (.tmp 38) (.tmp 40)⟩,
          ⟨some 43, none, .ld .slice (.tmp 42)⟩,
          ⟨some 12, none, .mv (.tmp 43)⟩])
        (.seq (.seq (.ops [⟨some 44, none, .mv (.tmp 12)⟩,
          ⟨some 45, none, .len (.tmp 44)⟩,
          ⟨some 46, none, .mv (.tmp 10)⟩,
          ⟨some 47, none, .bin .sub (.const (.int .i64 16777216)) (.tmp 46)⟩,
          ⟨some 48, none, .bin .gtr (.tmp 45) (.tmp 47)⟩])
        (.cond (.tmp 48)
          (.seq (.ops [⟨some 8, none, .mv (.const (.slice none 0 0))⟩,
            ⟨some 9, none, .mv (.const (.int .i64 3))⟩])
          .ret)
          .skip))
        (.ops [⟨some 49, none, .mv (.tmp 10)⟩,
          ⟨some 50, none, .mv (.tmp 12)⟩,
          ⟨some 51, none, .len (.tmp 50)⟩,
          ⟨some 52, none, .bin .add (.tmp 49) (.tmp 51)⟩,
          ⟨some 10, none, .mv (.tmp 52)⟩]))))
      (.ops [⟨some 53, none, .bin .add (.tmp 40) (.const (.int .i64 1))⟩,
        ⟨some 40, none, .mv (.tmp 53)⟩])))))))
  (.seq (.ops [⟨some 54, none, .mv (.tmp 0)⟩,
    ⟨some 55, none, .bin .shl (.tmp 54) (.const (.int .u64 6))⟩,
    ⟨some 56, none, .cv .u8 (.tmp 55)⟩,
    ⟨some 13, none, .mv (.tmp 56)⟩])
  (.join (.seq (.ops [⟨some 57, none, .mv (.tmp 2)⟩])
  (.cond (.tmp 57)
    (.ops [⟨some 58, none, .mv (.tmp 13)⟩,
      ⟨some 59, none, .bin .or (.tmp 58) (.const (.int .u8 32))⟩,
      ⟨some 13, none, .mv (.tmp 59)⟩])
    .skip))
  (.seq (.ops [⟨some 60, none, .mv (.tmp 10)⟩,
    ⟨some 61, none, .bin .add (.tmp 60) (.const (.int .i64 10))⟩,
    ⟨some 62, none, .mks 5 1 1 #[(.int .u8 0)] (.const (.int .i64 0)) (.tmp 61)⟩,
    ⟨some 14, none, .mv (.tmp 62)⟩])
  (.join (.seq (.ops [⟨some 63, none, .mv (.tmp 1)⟩,
    ⟨some 64, none, .bin .lss (.tmp 63) (.const (.int .i64 31))⟩])
  (.cond (.tmp 64)
    (.ops [⟨some 65, none, .mv (.tmp 14)⟩,
      ⟨some 66, none, .mv (.tmp 13)⟩,
      ⟨some 67, none, .mv (.tmp 1)⟩,
      ⟨some 68, none, .cv .u8 (.tmp 67)⟩,
      ⟨some 69, none, .bin .or (.tmp 66) (.tmp 68)⟩,
      ⟨some 70, none, .bsl 5 1 1 #[(.int .u8 0)] [(0, (.tmp 69))]⟩,
      ⟨some 71, none, .app 5 1 1 #[(.int .u8 0)] (.tmp 65) (.tmp 70)⟩,
      ⟨some 14, none, .mv (.tmp 71)⟩])
    (.seq (.ops [⟨some 72, none, .mv (.tmp 14)⟩,
      ⟨some 73, none, .mv (.tmp 13)⟩,
      ⟨some 74, none, .bin .or (.tmp 73) (.const (.int .u8 31))⟩,
      ⟨some 75, none, .bsl 5 1 1 #[(.int .u8 0)] [(0, (.tmp 74))]⟩,
      ⟨some 76, none, .app 5 1 1 #[(.int .u8 0)] (.tmp 72) (.tmp 75)⟩,
      ⟨some 14, none, .mv (.tmp 76)⟩])
    (.ops [⟨some 77, none, .mv (.tmp 14)⟩,
      ⟨some 78, none, .mv (.tmp 1)⟩,
      ⟨some 79, none, .cv .u64 (.tmp 78)⟩,
      ⟨some 80, none, .call 50 [(.tmp 79)]⟩,
      ⟨some 81, none, .app 5 1 1 #[(.int .u8 0)] (.tmp 77) (.tmp 80)⟩,
      ⟨some 14, none, .mv (.tmp 81)⟩]))))
  (.join (.seq (.ops [⟨some 82, none, .mv (.tmp 10)⟩,
    ⟨some 83, none, .bin .lss (.tmp 82) (.const (.int .i64 128))⟩])
  (.cond (.tmp 83)
    (.ops [⟨some 84, none, .mv (.tmp 14)⟩,
      ⟨some 85, none, .mv (.tmp 10)⟩,
      ⟨some 86, none, .cv .u8 (.tmp 85)⟩,
      ⟨some 87, none, .bsl 5 1 1 #[(.int .u8 0)] [(0, (.tmp 86))]⟩,
      ⟨some 88, none, .app 5 1 1 #[(.int .u8 0)] (.tmp 84) (.tmp 87)⟩,
      ⟨some 14, none, .mv (.tmp 88)⟩])
    (.seq (.ops [⟨some 89, none, .mv (.tmp 10)⟩,
      ⟨some 90, none, .bin .shr (.tmp 89) (.const (.int .u64 24))⟩,
      ⟨some 91, none, .cv .u8 (.tmp 90)⟩,
      ⟨some 92, none, .mv (.tmp 10)⟩,
      ⟨some 93, none, .bin .shr (.tmp 92) (.const (.int .u64 16))⟩,
      ⟨some 94, none, .cv .u8 (.tmp 93)⟩,
      ⟨some 95, none, .mv (.tmp 10)⟩,
      ⟨some 96, none, .bin .shr (.tmp 95) (.const (.int .u64 8))⟩,
      ⟨some 97, none, .cv .u8 (.tmp 96)⟩,
      ⟨some 98, none, .mv (.tmp 10)⟩,
      ⟨some 99, none, .cv .u8 (.tmp 98)⟩,
      ⟨some 100, none, .bsl 5 1 4 #[(.int .u8 0)] [(0, (.tmp 91)), (1, (.tmp 94)), (2, (.tmp 97)), (3, (.tmp 99))]⟩,
      ⟨some 101, none, .call 56 [(.tmp 100), (.const (.string ⟨#[0]⟩))]⟩,
      ⟨some 15, none, .mv (.tmp 101)⟩])
    (.ops [⟨some 102, none, .mv (.tmp 14)⟩,
      ⟨some 103, none, .mv (.tmp 15)⟩,
      ⟨some 104, none, .len (.tmp 103)⟩,
      ⟨some 105, none, .cv .u8 (.tmp 104)⟩,
      ⟨some 106, none, .bin .or (.const (.int .u8 128)) (.tmp 105)⟩,
      ⟨some 107, none, .bsl 5 1 1 #[(.int .u8 0)] [(0, (.tmp 106))]⟩,
      ⟨some 108, none, .app 5 1 1 #[(.int .u8 0)] (.tmp 102) (.tmp 107)⟩,
      ⟨some 109, none, .mv (.tmp 15)⟩,
      ⟨some 110, none, .app 5 1 1 #[(.int .u8 0)] (.tmp 108) (.tmp 109)⟩,
      ⟨some 14, none, .mv (.tmp 110)⟩]))))
  (.seq (.seq (.ops [⟨some 111, none, .mv (.tmp 3)⟩,
    ⟨some 112, none, .len (.tmp 111)⟩,
    ⟨some 113, none, .mv (.const (.int .i64 0))⟩])
  (.block 2
    (.loop
      (.seq (.ops [⟨some 114, none, .bin .lss (.tmp 113) (.tmp 112)⟩])
      (.seq (.cond (.tmp 114)
        .skip
        (.exit 2))
      (.seq (.block 3
        (.seq (.ops [⟨some 115, none, .ia 1 (.tmp 111) (.tmp 113)⟩,
          ⟨some 116, none, .ld .slice (.tmp 115)⟩,
          ⟨some 17, none, .mv (.tmp 116)⟩])
        (.ops [⟨some 117, none, .mv (.tmp 14)⟩,
          ⟨some 118, none, .mv (.tmp 17)⟩,
          ⟨some 119, none, .app 5 1 1 #[(.int .u8 0)] (.tmp 117) (.tmp 118)⟩,
          ⟨some 14, none, .mv (.tmp 119)⟩])))
      (.ops [⟨some 120, none, .bin .add (.tmp 113) (.const (.int .i64 1))⟩,
        ⟨some 113, none, .mv (.tmp 120)⟩])))))))
  (.seq (.ops [⟨some 121, none, .mv (.tmp 14)⟩,
    ⟨some 8, none, .mv (.tmp 121)⟩,
    ⟨some 9, none, .mv (.const (.int .i64 0))⟩])
  .ret)))))))))))⟩
theorem h31 : strF Tryd.prog [] Tryd.f31 = some c31 := by kernel_rfl
/-- chirograph/der.Int -/
def c33 : Fun := ⟨34, [.inl 2, .inl 3],
  (.seq (.ops [⟨some 2, none, .mv (.const (.int .i64 0))⟩,
    ⟨some 3, none, .mv (.const (.int .i64 0))⟩])
  (.seq (.block 0
    (.seq (.ops [⟨some 8, none, .mv (.tmp 0)⟩,
      ⟨some 9, none, .call 58 [(.tmp 8)]⟩,
      ⟨some 10, none, .un .not (.tmp 9)⟩,
      ⟨some 7, none, .mv (.tmp 10)⟩])
    (.cond (.tmp 7)
      (.seq (.ops [⟨some 2, none, .mv (.const (.int .i64 0))⟩,
        ⟨some 3, none, .mv (.const (.int .i64 6))⟩])
      .ret)
      (.seq (.ops [⟨some 12, none, .mv (.tmp 0)⟩,
        ⟨some 13, none, .len (.tmp 12)⟩,
        ⟨some 14, none, .bin .gtr (.tmp 13) (.const (.int .i64 8))⟩,
        ⟨some 11, none, .mv (.tmp 14)⟩])
      (.cond (.tmp 11)
        (.seq (.ops [⟨some 2, none, .mv (.const (.int .i64 0))⟩,
          ⟨some 3, none, .mv (.const (.int .i64 3))⟩])
        .ret)
        .skip)))))
  (.seq (.ops [⟨some 15, none, .mv (.tmp 0)⟩,
    ⟨some 16, none, .ia 1 (.tmp 15) (.const (.int .i64 0))⟩,
    ⟨some 17, none, .ld (.int .u8) (.tmp 16)⟩,
    ⟨some 18, none, .cv .i8 (.tmp 17)⟩,
    ⟨some 19, none, .cv .i64 (.tmp 18)⟩,
    ⟨some 4, none, .mv (.tmp 19)⟩])
  (.seq (.seq (.ops [⟨some 20, none, .mv (.tmp 0)⟩,
    ⟨some 21, none, .slc 1 (.tmp 20) (some (.const (.int .i64 1))) none none⟩,
    ⟨some 22, none, .len (.tmp 21)⟩,
    ⟨some 23, none, .mv (.const (.int .i64 0))⟩])
  (.block 1
    (.loop
      (.seq (.ops [⟨some 24, none, .bin .lss (.tmp 23) (.tmp 22)⟩])
      (.seq (.cond (.tmp 24)
        .skip
        (.exit 1))
      (.seq (.block 2
        (.seq (.ops [⟨some 25, none, .ia 1 (.tmp 21) (.tmp 23)⟩,
          ⟨some 26, none, .ld (.int .u8) (.tmp 25)⟩,
          ⟨some 6, none, .mv (.tmp 26)⟩])
        (.ops [⟨some 27, none, .mv (.tmp 4)⟩,
          ⟨some 28, none, .bin .shl (.tmp 27) (.const (.int .u64 8))⟩,
          ⟨some 29, none, .mv (.tmp 6)⟩,
          ⟨some 30, none, .cv .i64 (.tmp 29)⟩,
          ⟨some 31, none, .bin .or (.tmp 28) (.tmp 30)⟩,
          ⟨some 4, none, .mv (.tmp 31)⟩])))
      (.ops [⟨some 32, none, .bin .add (.tmp 23) (.const (.int .i64 1))⟩,
        ⟨some 23, none, .mv (.tmp 32)⟩])))))))
  (.seq (.ops [⟨some 33, none, .mv (.tmp 4)⟩,
    ⟨some 2, none, .mv (.tmp 33)⟩,
    ⟨some 3, none, .mv (.const (.int .i64 0))⟩])
  .ret)))))⟩
theorem h33 : strF Tryd.prog [] Tryd.f33 = some c33 := by kernel_rfl
/-- chirograph/der.Uint -/
def c35 : Fun := ⟨19, [.inl 2, .inl 3],
  (.seq (.ops [⟨some 2, none, .mv (.const (.slice none 0 0))⟩,
    ⟨some 3, none, .mv (.const (.int .i64 0))⟩])
  (.seq (.block 0
    (.seq (.ops [⟨some 5, none, .mv (.tmp 0)⟩,
      ⟨some 6, none, .call 58 [(.tmp 5)]⟩,
      ⟨some 7, none, .un .not (.tmp 6)⟩,
      ⟨some 4, none, .mv (.tmp 7)⟩])
    (.cond (.tmp 4)
      (.seq (.ops [⟨some 2, none, .mv (.const (.slice none 0 0))⟩,
        ⟨some 3, none, .mv (.const (.int .i64 6))⟩])
      .ret)
      (.seq (.ops [⟨some 9, none, .mv (.tmp 0)⟩,
        ⟨some 10, none, .ia 1 (.tmp 9) (.const (.int .i64 0))⟩,
        ⟨some 11, none, .ld (.int .u8) (.tmp 10)⟩,
        ⟨some 12, none, .bin .and (.tmp 11) (.const (.int .u8 128))⟩,
        ⟨some 13, none, .bin .neq (.tmp 12) (.const (.int .u8 0))⟩,
        ⟨some 8, none, .mv (.tmp 13)⟩])
      (.cond (.tmp 8)
        (.seq (.ops [⟨some 2, none, .mv (.const (.slice none 0 0))⟩,
          ⟨some 3, none, .mv (.const (.int .i64 40))⟩])
        .ret)
        .skip)))))
  (.seq (.ops [⟨some 14, none, .mv (.tmp 0)⟩,
    ⟨some 15, none, .call 56 [(.tmp 14), (.const (.string ⟨#[0]⟩))]⟩,
    ⟨some 16, none, .call 59 [(.tmp 15)]⟩,
    ⟨some 17, none, .ext (.tmp 16) 0⟩,
    ⟨some 18, none, .ext (.tmp 16) 1⟩,
    ⟨some 2, none, .mv (.tmp 17)⟩,
    ⟨some 3, none, .mv (.tmp 18)⟩])
  .ret)))⟩
theorem h35 : strF Tryd.prog [] Tryd.f35 = some c35 := by kernel_rfl
/-- bytes.Clone -/
def c46 : Fun := ⟨8, [.inl 2],
  (.seq (.ops [⟨some 2, none, .mv (.const (.slice none 0 0))⟩])
  (.seq (.seq (.ops [⟨some 3, none, .mv (.tmp 0)⟩,
    ⟨some 4, none, .eq .slice false (.tmp 3) (.const (.slice none 0 0))⟩])
  (.cond (.tmp 4)
    (.seq (.ops [⟨some 2, none, .mv (.const (.slice none 0 0))⟩])
    .ret)
    .skip))
  (.seq (.ops [⟨some 5, none, .bsl0 5⟩,
    ⟨some 6, none, .mv (.tmp 0)⟩,
    ⟨some 7, none, .app 5 1 1 #[(.int .u8 0)] (.tmp 5) (.tmp 6)⟩,
    ⟨some 2, none, .mv (.tmp 7)⟩])
  .ret)))⟩
theorem h46 : strF Tryd.prog [] Tryd.f46 = some c46 := by kernel_rfl
/-- chirograph/der.arcs -/
def c49 : Fun := ⟨73, [.inl 2, .inl 3],
  (.seq (.ops [⟨some 2, none, .mv (.const (.slice none 0 0))⟩,
    ⟨some 3, none, .mv (.const (.bool false))⟩])
  (.seq (.ops [⟨some 4, none, .mv (.const (.slice none 0 0))⟩])
  (.seq (.ops [⟨some 5, none, .mv (.const (.int .u64 0))⟩,
    ⟨some 6, none, .mv (.const (.int .i64 0))⟩])
  (.seq (.seq (.ops [⟨some 9, none, .mv (.tmp 0)⟩,
    ⟨some 10, none, .bin .add (.tmp 9) (.const (.string ⟨#[46]⟩))⟩,
    ⟨some 11, none, .rgs (.tmp 10)⟩])
  (.block 0
    (.loop
      (.seq (.ops [⟨some 12, none, .nxs (.tmp 11)⟩,
        ⟨some 13, none, .ext (.tmp 12) 0⟩])
      (.seq (.cond (.tmp 13)
        .skip
        (.exit 0))
      (.block 1
        (.seq (.ops [⟨some 14, none, .ext (.tmp 12) 2⟩,
          ⟨some 8, none, .mv (.tmp 14)⟩])
        (.block 2
          (.seq (.ops [⟨some 26, none, .mv (.tmp 8)⟩,
            ⟨some 27, none, .bin .eql (.tmp 26) (.const (.int .i32 46))⟩,
            ⟨some 28, none, .mv (.tmp 27)⟩,
            ⟨some 29, some (28, true), .mv (.tmp 6)⟩,
            ⟨some 30, some (28, true), .bin .gtr (.tmp 29) (.const (.int .i64 0))⟩,
            ⟨some 31, none, .pick (.tmp 28) (.tmp 30) (.const (.bool false))⟩,
            ⟨some 25, none, .mv (.tmp 31)⟩])
          (.cond (.tmp 25)
            (.seq (.ops [⟨some 32, none, .mv (.tmp 4)⟩,
              ⟨some 33, none, .mv (.tmp 5)⟩,
              ⟨some 34, none, .bsl 84 1 1 #[(.int .u64 0)] [(0, (.tmp 33))]⟩,
              ⟨some 35, none, .app 84 1 8 #[(.int .u64 0)] (.tmp 32) (.tmp 34)⟩,
              ⟨some 4, none, .mv (.tmp 35)⟩])
            (.ops [⟨some 5, none, .mv (.const (.int .u64 0))⟩,
              ⟨some 6, none, .mv (.const (.int .i64 0))⟩]))
            (.seq (.ops [⟨some 37, none, .mv (.tmp 8)⟩,
              ⟨some 38, none, .bin .lss (.tmp 37) (.const (.int .i32 48))⟩,
              ⟨some 39, none, .mv (.tmp 38)⟩,
              ⟨some 40, some (39, false), .mv (.tmp 8)⟩,
              ⟨some 41, some (39, false), .bin .gtr (.tmp 40) (.const (.int .i32 57))⟩,
              ⟨some 42, none, .pick (.tmp 39) (.const (.bool true)) (.tmp 41)⟩,
              ⟨some 43, none, .mv (.tmp 42)⟩,
              ⟨some 44, some (43, false), .mv (.tmp 6)⟩,
              ⟨some 45, some (43, false), .bin .eql (.tmp 44) (.const (.int .i64 1))⟩,
              ⟨some 46, some (43, false), .mv (.tmp 45)⟩,
              ⟨some 47, some (46, true), .mv (.tmp 5)⟩,
              ⟨some 48, some (46, true), .bin .eql (.tmp 47) (.const (.int .u64 0))⟩,
              ⟨some 49, some (43, false), .pick (.tmp 46) (.tmp 48) (.const (.bool false))⟩,
              ⟨some 50, none, .pick (.tmp 43) (.const (.bool true)) (.tmp 49)⟩,
              ⟨some 36, none, .mv (.tmp 50)⟩])
            (.cond (.tmp 36)
              (.seq (.ops [⟨some 2, none, .mv (.const (.slice none 0 0))⟩,
                ⟨some 3, none, .mv (.const (.bool false))⟩])
              .ret)
              (.seq (.ops [⟨some 15, none, .mv (.tmp 5)⟩,
                ⟨some 16, none, .bin .mul (.const (.int .u64 10)) (.tmp 15)⟩,
                ⟨some 17, none, .mv (.tmp 8)⟩,
                ⟨some 18, none, .bin .sub (.tmp 17) (.const (.int .i32 48))⟩,
                ⟨some 19, none, .cv .u64 (.tmp 18)⟩,
                ⟨some 20, none, .bin .add (.tmp 16) (.tmp 19)⟩,
                ⟨some 21, none, .min2 (.tmp 20) (.const (.int .u64 1099511627776))⟩,
                ⟨some 5, none, .mv (.tmp 21)⟩])
              (.ops [⟨some 22, none, .mv (.tmp 6)⟩,
                ⟨some 23, none, .bin .add (.tmp 22) (.const (.int .i64 1))⟩,
                ⟨some 24, none, .min2 (.tmp 23) (.const (.int .i64 20))⟩,
                ⟨some 6, none, .mv (.tmp 24)⟩]))))))))))))))
  (.seq (.seq (.ops [⟨some 51, none, .mv (.tmp 4)⟩,
    ⟨some 52, none, .len (.tmp 51)⟩,
    ⟨some 53, none, .bin .lss (.tmp 52) (.const (.int .i64 2))⟩,
    ⟨some 54, none, .mv (.tmp 53)⟩,
    ⟨some 55, some (54, false), .mv (.tmp 4)⟩,
    ⟨some 56, some (54, false), .ia 1 (.tmp 55) (.const (.int .i64 0))⟩,
    ⟨some 57, some (54, false), .ld (.int .u64) (.tmp 56)⟩,
    ⟨some 58, some (54, false), .bin .gtr (.tmp 57) (.const (.int .u64 2))⟩,
    ⟨some 59, none, .pick (.tmp 54) (.const (.bool true)) (.tmp 58)⟩,
    ⟨some 60, none, .mv (.tmp 59)⟩,
    ⟨some 61, some (60, false), .mv (.tmp 4)⟩,
    ⟨some 62, some (60, false), .ia 1 (.tmp 61) (.const (.int .i64 0))⟩,
    ⟨some 63, some (60, false), .ld (.int .u64) (.tmp 62)⟩,
    ⟨some 64, some (60, false), .bin .lss (.tmp 63) (.const (.int .u64 2))⟩,
    ⟨some 65, some (60, false), .mv (.tmp 64)⟩,
    ⟨some 66, some (65, true), .mv (.tmp 4)⟩,
    ⟨some 67, some (65, true), .ia 1 (.tmp 66) (.const (.int .i64 1))⟩,
    ⟨some 68, some (65, true), .ld (.int .u64) (.tmp 67)⟩,
    ⟨some 69, some (65, true), .bin .geq (.tmp 68) (.const (.int .u64 40))⟩,
    ⟨some 70, some (60, false), .pick (.tmp 65) (.tmp 69) (.const (.bool false))⟩,
    ⟨some 71, none, .pick (.tmp 60) (.const (.bool true)) (.tmp 70)⟩])
  (.cond (.tmp 71)
    (.seq (.ops [⟨some 2, none, .mv (.const (.slice none 0 0))⟩,
      ⟨some 3, none, .mv (.const (.bool false))⟩])
    .ret)
    .skip))
  (.seq (.ops [⟨some 72, none, .mv (.tmp 4)⟩,
    ⟨some 2, none, .mv (.tmp 72)⟩,
    ⟨some 3, none, .mv (.const (.bool true))⟩])
  .ret))))))⟩
theorem h49 : strF Tryd.prog [] Tryd.f49 = some c49 := by kernel_rfl
/-- chirograph/der.seven -/
def c50 : Fun := ⟨21, [.inl 2],
  (.seq (.ops [⟨some 2, none, .mv (.const (.slice none 0 0))⟩])
  (.seq (.ops [⟨some 4, none, .mv (.tmp 0)⟩,
    ⟨some 5, none, .bin .and (.tmp 4) (.const (.int .u64 127))⟩,
    ⟨some 6, none, .cv .u8 (.tmp 5)⟩,
    ⟨some 7, none, .bsl 5 1 1 #[(.int .u8 0)] [(0, (.tmp 6))]⟩,
    ⟨some 3, none, .mv (.tmp 7)⟩])
  (.seq (.seq (.ops [⟨some 8, none, .mv (.tmp 0)⟩,
    ⟨some 9, none, .bin .shr (.tmp 8) (.const (.int .u64 7))⟩,
    ⟨some 0, none, .mv (.tmp 9)⟩])
  (.block 0
    (.loop
      (.seq (.seq (.ops [⟨some 10, none, .mv (.tmp 0)⟩,
        ⟨some 11, none, .bin .gtr (.tmp 10) (.const (.int .u64 0))⟩])
      (.cond (.tmp 11)
        .skip
        (.exit 0)))
      (.seq (.block 1
        (.ops [⟨some 14, none, .mv (.tmp 0)⟩,
          ⟨some 15, none, .cv .u8 (.tmp 14)⟩,
          ⟨some 16, none, .bin .or (.tmp 15) (.const (.int .u8 128))⟩,
          ⟨some 17, none, .bsl 5 1 1 #[(.int .u8 0)] [(0, (.tmp 16))]⟩,
          ⟨some 18, none, .mv (.tmp 3)⟩,
          ⟨some 19, none, .app 5 1 1 #[(.int .u8 0)] (.tmp 17) (.tmp 18)⟩,
          ⟨some 3, none, .mv (.tmp 19)⟩]))
      (.ops [⟨some 12, none, .mv (.tmp 0)⟩,
        ⟨some 13, none, .bin .shr (.tmp 12) (.const (.int .u64 7))⟩,
        ⟨some 0, none, .mv (.tmp 13)⟩]))))))
  (.seq (.ops [⟨some 20, none, .mv (.tmp 3)⟩,
    ⟨some 2, none, .mv (.tmp 20)⟩])
  .ret))))⟩
theorem h50 : strF Tryd.prog [] Tryd.f50 = some c50 := by kernel_rfl
/-- chirograph/der.tag -/
def c52 : Fun := ⟨83, [.inl 4, .inl 5, .inl 6, .inl 7],
  (.seq (.ops [⟨some 4, none, .mv (.const (.int .i64 0))⟩,
    ⟨some 5, none, .mv (.const (.int .i64 0))⟩,
    ⟨some 6, none, .mv (.const (.int .i64 0))⟩,
    ⟨some 7, none, .mv (.const (.int .i64 0))⟩])
  (.seq (.ops [⟨some 8, none, .mv (.tmp 0)⟩,
    ⟨some 9, none, .mv (.tmp 1)⟩,
    ⟨some 10, none, .ia 1 (.tmp 8) (.tmp 9)⟩,
    ⟨some 11, none, .ld (.int .u8) (.tmp 10)⟩,
    ⟨some 12, none, .bin .and (.tmp 11) (.const (.int .u8 31))⟩,
    ⟨some 13, none, .cv .i64 (.tmp 12)⟩,
    ⟨some 14, none, .mv (.tmp 1)⟩,
    ⟨some 15, none, .bin .add (.tmp 14) (.const (.int .i64 1))⟩,
    ⟨some 4, none, .mv (.tmp 13)⟩,
    ⟨some 5, none, .mv (.tmp 15)⟩])
  (.seq (.seq (.ops [⟨some 16, none, .mv (.tmp 4)⟩,
    ⟨some 17, none, .bin .lss (.tmp 16) (.const (.int .i64 31))⟩])
  (.cond (.tmp 17)
    (.seq (.seq (.ops [⟨some 18, none, .mv (.tmp 4)⟩,
      ⟨some 19, none, .bin .eql (.tmp 18) (.const (.int .i64 0))⟩,
      ⟨some 20, none, .mv (.tmp 19)⟩,
      ⟨some 21, some (20, true), .mv (.tmp 0)⟩,
      ⟨some 22, some (20, true), .mv (.tmp 1)⟩,
      ⟨some 23, some (20, true), .ia 1 (.tmp 21) (.tmp 22)⟩,
      ⟨some 24, some (20, true), .ld (.int .u8) (.tmp 23)⟩,
      ⟨some 25, some (20, true), .bin .shr (.tmp 24) (.const (.int .u64 6))⟩,
      ⟨some 26, some (20, true), .bin .eql (.tmp 25) (.const (.int .u8 0))⟩,
      ⟨some 27, none, .pick (.tmp 20) (.tmp 26) (.const (.bool false))⟩])
    (.cond (.tmp 27)
      (.seq (.ops [⟨some 28, none, .mv (.tmp 1)⟩,
        ⟨some 4, none, .mv (.const (.int .i64 0))⟩,
        ⟨some 5, none, .mv (.const (.int .i64 0))⟩,
        ⟨some 6, none, .mv (.const (.int .i64 30))⟩,
        ⟨some 7, none, .mv (.tmp 28)⟩])
      .ret)
      .skip))
    (.seq (.ops [⟨some 29, none, .mv (.tmp 4)⟩,
      ⟨some 30, none, .mv (.tmp 5)⟩,
      ⟨some 4, none, .mv (.tmp 29)⟩,
      ⟨some 5, none, .mv (.tmp 30)⟩,
      ⟨some 6, none, .mv (.const (.int .i64 0))⟩,
      ⟨some 7, none, .mv (.const (.int .i64 0))⟩])
    .ret))
    .skip))
  (.seq (.seq (.ops [⟨some 4, none, .mv (.const (.int .i64 0))⟩])
  (.block 0
    (.loop
      (.seq (.seq (.ops [⟨some 31, none, .mv (.tmp 5)⟩,
        ⟨some 32, none, .mv (.tmp 0)⟩,
        ⟨some 33, none, .len (.tmp 32)⟩,
        ⟨some 34, none, .bin .lss (.tmp 31) (.tmp 33)⟩])
      (.cond (.tmp 34)
        .skip
        (.exit 0)))
      (.seq (.block 1
        (.seq (.ops [⟨some 37, none, .mv (.tmp 4)⟩,
          ⟨some 38, none, .bin .shl (.tmp 37) (.const (.int .u64 7))⟩,
          ⟨some 39, none, .mv (.tmp 0)⟩,
          ⟨some 40, none, .mv (.tmp 5)⟩,
          ⟨some 41, none, .ia 1 (.tmp 39) (.tmp 40)⟩,
          ⟨some 42, none, .ld (.int .u8) (.tmp 41)⟩,
          ⟨some 43, none, .bin .and (.tmp 42) (.const (.int .u8 127))⟩,
          ⟨some 44, none, .cv .i64 (.tmp 43)⟩,
          ⟨some 45, none, .bin .or (.tmp 38) (.tmp 44)⟩,
          ⟨some 4, none, .mv (.tmp 45)⟩])
        (.seq (.seq (.ops [⟨some 46, none, .mv (.tmp 5)⟩,
          ⟨some 47, none, .mv (.tmp 1)⟩,
          ⟨some 48, none, .bin .add (.tmp 47) (.const (.int .i64 1))⟩,
          ⟨some 49, none, .bin .eql (.tmp 46) (.tmp 48)⟩,
          ⟨some 50, none, .mv (.tmp 49)⟩,
          ⟨some 51, some (50, true), .mv (.tmp 0)⟩,
          ⟨some 52, some (50, true), .mv (.tmp 5)⟩,
          ⟨some 53, some (50, true), .ia 1 (.tmp 51) (.tmp 52)⟩,
          ⟨some 54, some (50, true), .ld (.int .u8) (.tmp 53)⟩,
          ⟨some 55, some (50, true), .bin .eql (.tmp 54) (.const (.int .u8 128))⟩,
          ⟨some 56, none, .pick (.tmp 50) (.tmp 55) (.const (.bool false))⟩,
          ⟨some 57, none, .mv (.tmp 56)⟩,
          ⟨some 58, some (57, false), .mv (.tmp 4)⟩,
          ⟨some 59, some (57, false), .bin .gtr (.tmp 58) (.const (.int .i64 268435455))⟩,
          ⟨some 60, none, .pick (.tmp 57) (.const (.bool true)) (.tmp 59)⟩,
          ⟨some 61, none, .mv (.tmp 60)⟩,
          ⟨some 62, some (61, false), .mv (.tmp 0)⟩,
          ⟨some 63, some (61, false), .mv (.tmp 5)⟩,
          ⟨some 64, some (61, false), .ia 1 (.tmp 62) (.tmp 63)⟩,
          ⟨some 65, some (61, false), .ld (.int .u8) (.tmp 64)⟩,
          ⟨some 66, some (61, false), .bin .lss (.tmp 65) (.const (.int .u8 128))⟩,
          ⟨some 67, some (61, false), .mv (.tmp 66)⟩,
          ⟨some 68, some (67, true), .mv (.tmp 4)⟩,
          ⟨some 69, some (67, true), .bin .lss (.tmp 68) (.const (.int .i64 31))⟩,
          ⟨some 70, some (61, false), .pick (.tmp 67) (.tmp 69) (.const (.bool false))⟩,
          ⟨some 71, none, .pick (.tmp 61) (.const (.bool true)) (.tmp 70)⟩])
        (.cond (.tmp 71)
          (.seq (.ops [⟨some 72, none, .mv (.tmp 5)⟩,
            ⟨some 4, none, .mv (.const (.int .i64 0))⟩,
            ⟨some 5, none, .mv (.const (.int .i64 0))⟩,
            ⟨some 6, none, .mv (.const (.int .i64 30))⟩,
            ⟨some 7, none, .mv (.tmp 72)⟩])
          .ret)
          .skip))
        (.seq (.ops [⟨some 73, none, .mv (.tmp 0)⟩,
          ⟨some 74, none, .mv (.tmp 5)⟩,
          ⟨some 75, none, .ia 1 (.tmp 73) (.tmp 74)⟩,
          ⟨some 76, none, .ld (.int .u8) (.tmp 75)⟩,
          ⟨some 77, none, .bin .lss (.tmp 76) (.const (.int .u8 128))⟩])
        (.cond (.tmp 77)
          (.seq (.ops [⟨some 78, none, .mv (.tmp 4)⟩,
            ⟨some 79, none, .mv (.tmp 5)⟩,
            ⟨some 80, none, .bin .add (.tmp 79) (.const (.int .i64 1))⟩,
            ⟨some 4, none, .mv (.tmp 78)⟩,
            ⟨some 5, none, .mv (.tmp 80)⟩,
            ⟨some 6, none, .mv (.const (.int .i64 0))⟩,
            ⟨some 7, none, .mv (.const (.int .i64 0))⟩])
          .ret)
          .skip)))))
      (.ops [⟨some 35, none, .mv (.tmp 5)⟩,
        ⟨some 36, none, .bin .add (.tmp 35) (.const (.int .i64 1))⟩,
        ⟨some 5, none, .mv (.tmp 36)⟩]))))))
  (.seq (.ops [⟨some 81, none, .mv (.tmp 0)⟩,
    ⟨some 82, none, .len (.tmp 81)⟩,
    ⟨some 4, none, .mv (.const (.int .i64 0))⟩,
    ⟨some 5, none, .mv (.const (.int .i64 0))⟩,
    ⟨some 6, none, .mv (.const (.int .i64 2))⟩,
    ⟨some 7, none, .mv (.tmp 82)⟩])
  .ret)))))⟩
theorem h52 : strF Tryd.prog [] Tryd.f52 = some c52 := by kernel_rfl
/-- chirograph/der.length -/
def c53 : Fun := ⟨82, [.inl 4, .inl 5, .inl 6, .inl 7],
  (.seq (.ops [⟨some 4, none, .mv (.const (.int .i64 0))⟩,
    ⟨some 5, none, .mv (.const (.int .i64 0))⟩,
    ⟨some 6, none, .mv (.const (.int .i64 0))⟩,
    ⟨some 7, none, .mv (.const (.int .i64 0))⟩])
  (.seq (.seq (.ops [⟨some 11, none, .mv (.tmp 1)⟩,
    ⟨some 12, none, .mv (.tmp 0)⟩,
    ⟨some 13, none, .len (.tmp 12)⟩,
    ⟨some 14, none, .bin .eql (.tmp 11) (.tmp 13)⟩])
  (.cond (.tmp 14)
    (.seq (.ops [⟨some 15, none, .mv (.tmp 1)⟩,
      ⟨some 4, none, .mv (.const (.int .i64 0))⟩,
      ⟨some 5, none, .mv (.const (.int .i64 0))⟩,
      ⟨some 6, none, .mv (.const (.int .i64 2))⟩,
      ⟨some 7, none, .mv (.tmp 15)⟩])
    .ret)
    .skip))
  (.seq (.ops [⟨some 16, none, .mv (.tmp 0)⟩,
    ⟨some 17, none, .mv (.tmp 1)⟩,
    ⟨some 18, none, .ia 1 (.tmp 16) (.tmp 17)⟩,
    ⟨some 19, none, .ld (.int .u8) (.tmp 18)⟩,
    ⟨some 20, none, .cv .i64 (.tmp 19)⟩,
    ⟨some 21, none, .mv (.tmp 1)⟩,
    ⟨some 22, none, .bin .add (.tmp 21) (.const (.int .i64 1))⟩,
    ⟨some 4, none, .mv (.tmp 20)⟩,
    ⟨some 5, none, .mv (.tmp 22)⟩])
  (.join (.seq (.ops [⟨some 23, none, .mv (.tmp 4)⟩,
    ⟨some 24, none, .bin .geq (.tmp 23) (.const (.int .i64 128))⟩])
  (.cond (.tmp 24)
    (.seq (.ops [⟨some 25, none, .mv (.tmp 4)⟩,
      ⟨some 26, none, .bin .and (.tmp 25) (.const (.int .i64 127))⟩,
      ⟨some 8, none, .mv (.tmp 26)⟩])
    (.seq (.seq (.ops [⟨some 27, none, .mv (.tmp 8)⟩,
      ⟨some 28, none, .bin .eql (.tmp 27) (.const (.int .i64 0))⟩,
      ⟨some 29, none, .mv (.tmp 28)⟩,
      ⟨some 30, some (29, false), .mv (.tmp 8)⟩,
      ⟨some 31, some (29, false), .bin .eql (.tmp 30) (.const (.int .i64 127))⟩,
      ⟨some 32, none, .pick (.tmp 29) (.const (.bool true)) (.tmp 31)⟩])
    (.cond (.tmp 32)
      (.seq (.ops [⟨some 33, none, .mv (.tmp 1)⟩,
        ⟨some 4, none, .mv (.const (.int .i64 0))⟩,
        ⟨some 5, none, .mv (.const (.int .i64 0))⟩,
        ⟨some 6, none, .mv (.const (.int .i64 31))⟩,
        ⟨some 7, none, .mv (.tmp 33)⟩])
      .ret)
      .skip))
    (.seq (.seq (.ops [⟨some 34, none, .mv (.tmp 8)⟩,
      ⟨some 35, none, .mv (.tmp 0)⟩,
      ⟨some 36, none, .len (.tmp 35)⟩,
      ⟨some 37, none, .mv (.tmp 5)⟩,
      ⟨some 38, none, .bin .sub (.tmp 36) (.tmp 37)⟩,
      ⟨some 39, none, .bin .gtr (.tmp 34) (.tmp 38)⟩])
    (.cond (.tmp 39)
      (.seq (.ops [⟨some 40, none, .mv (.tmp 0)⟩,
        ⟨some 41, none, .len (.tmp 40)⟩,
        ⟨some 4, none, .mv (.const (.int .i64 0))⟩,
        ⟨some 5, none, .mv (.const (.int .i64 0))⟩,
        ⟨some 6, none, .mv (.const (.int .i64 2))⟩,
        ⟨some 7, none, .mv (.tmp 41)⟩])
      .ret)
      .skip))
    (.seq (.ops [⟨some 4, none, .mv (.const (.int .i64 0))⟩])
    (.seq (.seq (.ops [⟨some 42, none, .mv (.tmp 0)⟩,
      ⟨some 43, none, .mv (.tmp 5)⟩,
      ⟨some 44, none, .mv (.tmp 5)⟩,
      ⟨some 45, none, .mv (.tmp 8)⟩,
      ⟨some 46, none, .bin .add (.tmp 44) (.tmp 45)⟩,
      ⟨some 47, none, .slc 1 (.tmp 42) (some (.tmp 43)) (some (.tmp 46)) none⟩,
      ⟨some 48, none, .len (.tmp 47)⟩,
      ⟨some 49, none, .mv (.const (.int .i64 0))⟩])
    (.block 0
      (.loop
        (.seq (.ops [⟨some 50, none, .bin .lss (.tmp 49) (.tmp 48)⟩])
        (.seq (.cond (.tmp 50)
          .skip
          (.exit 0))
        (.seq (.block 1
          (.seq (.ops [⟨some 51, none, .ia 1 (.tmp 47) (.tmp 49)⟩,
            ⟨some 52, none, .ld (.int .u8) (.tmp 51)⟩,
            ⟨some 10, none, .mv (.tmp 52)⟩])
          (.ops [⟨some 53, none, .mv (.tmp 4)⟩,
            ⟨some 54, none, .bin .shl (.tmp 53) (.const (.int .u64 8))⟩,
            ⟨some 55, none, .mv (.tmp 10)⟩,
            ⟨some 56, none, .cv .i64 (.tmp 55)⟩,
            ⟨some 57, none, .bin .or (.tmp 54) (.tmp 56)⟩,
            ⟨some 58, none, .min2 (.tmp 57) (.const (.int .i64 16777217))⟩,
            ⟨some 4, none, .mv (.tmp 58)⟩])))
        (.ops [⟨some 59, none, .bin .add (.tmp 49) (.const (.int .i64 1))⟩,
          ⟨some 49, none, .mv (.tmp 59)⟩])))))))
    (.seq (.seq (.ops [⟨some 60, none, .mv (.tmp 0)⟩,
      ⟨some 61, none, .mv (.tmp 5)⟩,
      ⟨some 62, none, .ia 1 (.tmp 60) (.tmp 61)⟩,
      ⟨some 63, none, .ld (.int .u8) (.tmp 62)⟩,
      ⟨some 64, none, .bin .eql (.tmp 63) (.const (.int .u8 0))⟩,
      ⟨some 65, none, .mv (.tmp 64)⟩,
      ⟨some 66, some (65, false), .mv (.tmp 4)⟩,
      ⟨some 67, some (65, false), .bin .lss (.tmp 66) (.const (.int .i64 128))⟩,
      ⟨some 68, none, .pick (.tmp 65) (.const (.bool true)) (.tmp 67)⟩])
    (.cond (.tmp 68)
      (.seq (.ops [⟨some 69, none, .mv (.tmp 1)⟩,
        ⟨some 4, none, .mv (.const (.int .i64 0))⟩,
        ⟨some 5, none, .mv (.const (.int .i64 0))⟩,
        ⟨some 6, none, .mv (.const (.int .i64 31))⟩,
        ⟨some 7, none, .mv (.tmp 69)⟩])
      .ret)
      .skip))
    (.ops [⟨some 70, none, .mv (.tmp 5)⟩,
      ⟨some 71, none, .mv (.tmp 8)⟩,
      ⟨some 72, none, .bin .add (.tmp 70) (.tmp 71)⟩,
      ⟨some 5, none, .mv (.tmp 72)⟩])))))))
    .skip))
  (.seq (.seq (.ops [⟨some 73, none, .mv (.tmp 4)⟩,
    ⟨some 74, none, .mv (.tmp 0)⟩,
    ⟨some 75, none, .len (.tmp 74)⟩,
    ⟨some 76, none, .mv (.tmp 5)⟩,
    ⟨some 77, none, .bin .sub (.tmp 75) (.tmp 76)⟩,
    ⟨some 78, none, .bin .gtr (.tmp 73) (.tmp 77)⟩])
  (.cond (.tmp 78)
    (.seq (.ops [⟨some 79, none, .mv (.tmp 1)⟩,
      ⟨some 4, none, .mv (.const (.int .i64 0))⟩,
      ⟨some 5, none, .mv (.const (.int .i64 0))⟩,
      ⟨some 6, none, .mv (.const (.int .i64 31))⟩,
      ⟨some 7, none, .mv (.tmp 79)⟩])
    .ret)
    .skip))
  (.seq (.ops [⟨some 80, none, .mv (.tmp 4)⟩,
    ⟨some 81, none, .mv (.tmp 5)⟩,
    ⟨some 4, none, .mv (.tmp 80)⟩,
    ⟨some 5, none, .mv (.tmp 81)⟩,
    ⟨some 6, none, .mv (.const (.int .i64 0))⟩,
    ⟨some 7, none, .mv (.const (.int .i64 0))⟩])
  .ret))))))⟩
theorem h53 : strF Tryd.prog [] Tryd.f53 = some c53 := by kernel_rfl
/-- bytes.TrimLeft -/
def c56 : Fun := ⟨36, [.inl 4],
  (.seq (.ops [⟨some 4, none, .mv (.const (.slice none 0 0))⟩])
  (.seq (.seq (.ops [⟨some 7, none, .mv (.tmp 0)⟩,
    ⟨some 8, none, .len (.tmp 7)⟩,
    ⟨some 9, none, .bin .eql (.tmp 8) (.const (.int .i64 0))⟩])
  (.cond (.tmp 9)
    (.seq (.ops [⟨some 4, none, .mv (.const (.slice none 0 0))⟩])
    .ret)
    .skip))
  (.seq (.seq (.ops [⟨some 10, none, .mv (.tmp 1)⟩,
    ⟨some 11, none, .bin .eql (.tmp 10) (.const (.string ⟨#[]⟩))⟩])
  (.cond (.tmp 11)
    (.seq (.ops [⟨some 12, none, .mv (.tmp 0)⟩,
      ⟨some 4, none, .mv (.tmp 12)⟩])
    .ret)
    .skip))
  (.seq (.seq (.ops [⟨some 13, none, .mv (.tmp 1)⟩,
    ⟨some 14, none, .lens (.tmp 13)⟩,
    ⟨some 15, none, .bin .eql (.tmp 14) (.const (.int .i64 1))⟩,
    ⟨some 16, none, .mv (.tmp 15)⟩,
    ⟨some 17, some (16, true), .mv (.tmp 1)⟩,
    ⟨some 18, some (16, true), .ixs (.tmp 17) (.const (.int .i64 0))⟩,
    ⟨some 19, some (16, true), .bin .lss (.tmp 18) (.const (.int .u8 128))⟩,
    ⟨some 20, none, .pick (.tmp 16) (.tmp 19) (.const (.bool false))⟩])
  (.cond (.tmp 20)
    (.seq (.ops [⟨some 21, none, .mv (.tmp 0)⟩,
      ⟨some 22, none, .mv (.tmp 1)⟩,
      ⟨some 23, none, .ixs (.tmp 22) (.const (.int .i64 0))⟩,
      ⟨some 24, none, .call 68 [(.tmp 21), (.tmp 23)]⟩,
      ⟨some 4, none, .mv (.tmp 24)⟩])
    .ret)
    .skip))
  (.seq (.seq (.ops [⟨some 26, none, .mv (.tmp 1)⟩,
    ⟨some 27, none, .call 69 [(.tmp 26)]⟩,
    ⟨some 25, none, .mv (.tmp 27)⟩,
    ⟨some 28, none, .ext (.tmp 25) 0⟩,
    ⟨some 29, none, .ext (.tmp 25) 1⟩,
    ⟨some 5, none, .alloc 109 (.agg (Array.replicate 256 (.bool false)))⟩,
    ⟨none, none, .st 256 (.tmp 5) (.tmp 28)⟩,
    ⟨some 6, none, .mv (.tmp 29)⟩])
  (.seq (.ops [⟨some 30, none, .mv (.tmp 6)⟩])
  (.cond (.tmp 30)
    (.seq (.ops [⟨some 31, none, .mv (.tmp 0)⟩,
      ⟨some 32, none, .call 70 [(.tmp 31), (.tmp 5)]⟩,
      ⟨some 4, none, .mv (.tmp 32)⟩])
    .ret)
    .skip)))
  (.seq (.ops [⟨some 33, none, .mv (.tmp 0)⟩,
    ⟨some 34, none, .mv (.tmp 1)⟩,
    ⟨some 35, none, .call 71 [(.tmp 33), (.tmp 34)]⟩,
    ⟨some 4, none, .mv (.tmp 35)⟩])
  .ret))))))⟩
theorem h56 : strF Tryd.prog [] Tryd.f56 = some c56 := by kernel_rfl
/-- chirograph/der.whole -/
def c58 : Fun := ⟨34, [.inl 2],
  (.seq (.ops [⟨some 2, none, .mv (.const (.bool false))⟩])
  (.seq (.seq (.ops [⟨some 3, none, .mv (.tmp 0)⟩,
    ⟨some 4, none, .len (.tmp 3)⟩,
    ⟨some 5, none, .bin .lss (.tmp 4) (.const (.int .i64 2))⟩])
  (.cond (.tmp 5)
    (.seq (.ops [⟨some 6, none, .mv (.tmp 0)⟩,
      ⟨some 7, none, .len (.tmp 6)⟩,
      ⟨some 8, none, .bin .eql (.tmp 7) (.const (.int .i64 1))⟩,
      ⟨some 2, none, .mv (.tmp 8)⟩])
    .ret)
    .skip))
  (.seq (.ops [⟨some 9, none, .mv (.tmp 0)⟩,
    ⟨some 10, none, .ia 1 (.tmp 9) (.const (.int .i64 0))⟩,
    ⟨some 11, none, .ld (.int .u8) (.tmp 10)⟩,
    ⟨some 12, none, .bin .eql (.tmp 11) (.const (.int .u8 0))⟩,
    ⟨some 13, none, .mv (.tmp 12)⟩,
    ⟨some 14, some (13, true), .mv (.tmp 0)⟩,
    ⟨some 15, some (13, true), .ia 1 (.tmp 14) (.const (.int .i64 1))⟩,
    ⟨some 16, some (13, true), .ld (.int .u8) (.tmp 15)⟩,
    ⟨some 17, some (13, true), .bin .and (.tmp 16) (.const (.int .u8 128))⟩,
    ⟨some 18, some (13, true), .bin .eql (.tmp 17) (.const (.int .u8 0))⟩,
    ⟨some 19, none, .pick (.tmp 13) (.tmp 18) (.const (.bool false))⟩,
    ⟨some 20, none, .mv (.tmp 19)⟩,
    ⟨some 21, some (20, false), .mv (.tmp 0)⟩,
    ⟨some 22, some (20, false), .ia 1 (.tmp 21) (.const (.int .i64 0))⟩,
    ⟨some 23, some (20, false), .ld (.int .u8) (.tmp 22)⟩,
    ⟨some 24, some (20, false), .bin .eql (.tmp 23) (.const (.int .u8 255))⟩,
    ⟨some 25, some (20, false), .mv (.tmp 24)⟩,
    ⟨some 26, some (25, true), .mv (.tmp 0)⟩,
    ⟨some 27, some (25, true), .ia 1 (.tmp 26) (.const (.int .i64 1))⟩,
    ⟨some 28, some (25, true), .ld (.int .u8) (.tmp 27)⟩,
    ⟨some 29, some (25, true), .bin .and (.tmp 28) (.const (.int .u8 128))⟩,
    ⟨some 30, some (25, true), .bin .neq (.tmp 29) (.const (.int .u8 0))⟩,
    ⟨some 31, some (20, false), .pick (.tmp 25) (.tmp 30) (.const (.bool false))⟩,
    ⟨some 32, none, .pick (.tmp 20) (.const (.bool true)) (.tmp 31)⟩,
    ⟨some 33, none, .un .not (.tmp 32)⟩,
    ⟨some 2, none, .mv (.tmp 33)⟩])
  .ret)))⟩
theorem h58 : strF Tryd.prog [] Tryd.f58 = some c58 := by kernel_rfl
/-- chirograph/nat.FromBytes -/
def c59 : Fun := ⟨42, [.inl 2, .inl 3],
  (.seq (.ops [⟨some 2, none, .mv (.const (.slice none 0 0))⟩,
    ⟨some 3, none, .mv (.const (.int .i64 0))⟩])
  (.seq (.seq (.ops [⟨some 6, none, .mv (.tmp 0)⟩,
    ⟨some 7, none, .len (.tmp 6)⟩,
    ⟨some 8, none, .bin .gtr (.tmp 7) (.const (.int .i64 2048))⟩])
  (.cond (.tmp 8)
    (.seq (.ops [⟨some 2, none, .mv (.const (.slice none 0 0))⟩,
      ⟨some 3, none, .mv (.const (.int .i64 3))⟩])
    .ret)
    .skip))
  (.seq (.ops [⟨some 9, none, .mv (.tmp 0)⟩,
    ⟨some 10, none, .len (.tmp 9)⟩,
    ⟨some 11, none, .bin .add (.tmp 10) (.const (.int .i64 3))⟩,
    ⟨some 12, none, .bin .quo (.tmp 11) (.const (.int .i64 4))⟩,
    ⟨some 13, none, .mks 30 1 4 #[(.int .u32 0)] (.tmp 12) (.tmp 12)⟩,
    ⟨some 4, none, .mv (.tmp 13)⟩])
  (.seq (.seq (.ops [⟨some 14, none, .mv (.tmp 0)⟩,
    ⟨some 15, none, .len (.tmp 14)⟩,
    ⟨some 16, none, .mv (.const (.int .i64 0))⟩])
  (.block 0
    (.loop
      (.seq (.ops [⟨some 17, none, .bin .lss (.tmp 16) (.tmp 15)⟩])
      (.seq (.cond (.tmp 17)
        .skip
        (.exit 0))
      (.seq (.block 1
        (.seq (.ops [⟨some 18, none, .mv (.tmp 16)⟩,
          ⟨some 5, none, .mv (.tmp 18)⟩])
        (.draw 20 [⟨some 19, none, .mv (.tmp 4)⟩,
          ⟨some 20, none, .mv (.tmp 5)⟩,
          ⟨some 21, none, .bin .quo (.tmp 20) (.const (.int .i64 4))⟩,
          ⟨some 22, none, .ia 1 (.tmp 19) (.tmp 21)⟩,
          ⟨some 23, none, .ld (.int .u32) (.tmp 22)⟩,
          ⟨some 24, none, .mv (.tmp 0)⟩,
          ⟨some 25, none, .mv (.tmp 0)⟩,
          ⟨some 26, none, .len (.tmp 25)⟩,
          ⟨some 27, none, .bin .sub (.tmp 26) (.const (.int .i64 1))⟩,
          ⟨some 28, none, .mv (.tmp 5)⟩,
          ⟨some 29, none, .bin .sub (.tmp 27) (.tmp 28)⟩,
          ⟨some 30, none, .ia 1 (.tmp 24) (.tmp 29)⟩,
          ⟨some 31, none, .ld (.int .u8) (.tmp 30)⟩,
          ⟨some 32, none, .cv .u32 (.tmp 31)⟩,
          ⟨some 33, none, .mv (.tmp 5)⟩,
          ⟨some 34, none, .bin .rem (.tmp 33) (.const (.int .i64 4))⟩,
          ⟨some 35, none, .bin .mul (.const (.int .i64 8)) (.tmp 34)⟩,
          ⟨some 36, none, .bin .shl (.tmp 32) (.tmp 35)⟩,
          ⟨some 37, none, .bin .or (.tmp 23) (.tmp 36)⟩,
          ⟨some 38, none, .ia 1 (.tmp 19) (.tmp 21)⟩,
          ⟨none, none, .st 1 (.tmp 38) (.tmp 37)⟩])))
      (.ops [⟨some 39, none, .bin .add (.tmp 16) (.const (.int .i64 1))⟩,
        ⟨some 16, none, .mv (.tmp 39)⟩])))))))
  (.seq (.ops [⟨some 40, none, .mv (.tmp 4)⟩,
    ⟨some 41, none, .call 72 [(.tmp 40)]⟩,
    ⟨some 2, none, .mv (.tmp 41)⟩,
    ⟨some 3, none, .mv (.const (.int .i64 0))⟩])
  .ret)))))⟩
theorem h59 : strF Tryd.prog [] Tryd.f59 = some c59 := by kernel_rfl
/-- chirograph/nat.Bits -/
def c60 : Fun := ⟨20, [.inl 2],
  (.seq (.ops [⟨some 2, none, .mv (.const (.int .i64 0))⟩])
  (.seq (.ops [⟨some 3, none, .mv (.tmp 0)⟩,
    ⟨some 4, none, .call 72 [(.tmp 3)]⟩,
    ⟨some 0, none, .mv (.tmp 4)⟩])
  (.seq (.seq (.ops [⟨some 5, none, .mv (.tmp 0)⟩,
    ⟨some 6, none, .len (.tmp 5)⟩,
    ⟨some 7, none, .bin .eql (.tmp 6) (.const (.int .i64 0))⟩])
  (.cond (.tmp 7)
    (.seq (.ops [⟨some 2, none, .mv (.const (.int .i64 0))⟩])
    .ret)
    .skip))
  (.seq (.ops [⟨some 8, none, .mv (.tmp 0)⟩,
    ⟨some 9, none, .len (.tmp 8)⟩,
    ⟨some 10, none, .bin .sub (.tmp 9) (.const (.int .i64 1))⟩,
    ⟨some 11, none, .bin .mul (.const (.int .i64 32)) (.tmp 10)⟩,
    ⟨some 12, none, .mv (.tmp 0)⟩,
    ⟨some 13, none, .mv (.tmp 0)⟩,
    ⟨some 14, none, .len (.tmp 13)⟩,
    ⟨some 15, none, .bin .sub (.tmp 14) (.const (.int .i64 1))⟩,
    ⟨some 16, none, .ia 1 (.tmp 12) (.tmp 15)⟩,
    ⟨some 17, none, .ld (.int .u32) (.tmp 16)⟩,
    ⟨some 18, none, .call 73 [(.tmp 17)]⟩,
    ⟨some 19, none, .bin .add (.tmp 11) (.tmp 18)⟩,
    ⟨some 2, none, .mv (.tmp 19)⟩])
  .ret))))⟩
theorem h60 : strF Tryd.prog [] Tryd.f60 = some c60 := by kernel_rfl
/-- bytes.trimLeftByte -/
def c68 : Fun := ⟨21, [.inl 4],
  (.seq (.ops [⟨some 4, none, .mv (.const (.slice none 0 0))⟩])
  (.seq (.block 0
    (.loop
      (.seq (.seq (.ops [⟨some 5, none, .mv (.tmp 0)⟩,
        ⟨some 6, none, .len (.tmp 5)⟩,
        ⟨some 7, none, .bin .gtr (.tmp 6) (.const (.int .i64 0))⟩,
        ⟨some 8, none, .mv (.tmp 7)⟩,
        ⟨some 9, some (8, true), .mv (.tmp 0)⟩,
        ⟨some 10, some (8, true), .ia 1 (.tmp 9) (.const (.int .i64 0))⟩,
        ⟨some 11, some (8, true), .ld (.int .u8) (.tmp 10)⟩,
        ⟨some 12, some (8, true), .mv (.tmp 1)⟩,
        ⟨some 13, some (8, true), .bin .eql (.tmp 11) (.tmp 12)⟩,
        ⟨some 14, none, .pick (.tmp 8) (.tmp 13) (.const (.bool false))⟩])
      (.cond (.tmp 14)
        .skip
        (.exit 0)))
      (.block 1
        (.ops [⟨some 15, none, .mv (.tmp 0)⟩,
          ⟨some 16, none, .slc 1 (.tmp 15) (some (.const (.int .i64 1))) none none⟩,
          ⟨some 0, none, .mv (.tmp 16)⟩])))))
  (.seq (.seq (.ops [⟨some 17, none, .mv (.tmp 0)⟩,
    ⟨some 18, none, .len (.tmp 17)⟩,
    ⟨some 19, none, .bin .eql (.tmp 18) (.const (.int .i64 0))⟩])
  (.cond (.tmp 19)
    (.seq (.ops [⟨some 4, none, .mv (.const (.slice none 0 0))⟩])
    .ret)
    .skip))
  (.seq (.ops [⟨some 20, none, .mv (.tmp 0)⟩,
    ⟨some 4, none, .mv (.tmp 20)⟩])
  .ret))))⟩
theorem h68 : strF Tryd.prog [] Tryd.f68 = some c68 := by kernel_rfl
/-- chirograph/nat.cut -/
def c72 : Fun := ⟨21, [.inl 2],
  (.seq (.ops [⟨some 2, none, .mv (.const (.slice none 0 0))⟩])
  (.seq (.ops [⟨some 4, none, .mv (.tmp 0)⟩,
    ⟨some 5, none, .len (.tmp 4)⟩,
    ⟨some 3, none, .mv (.tmp 5)⟩])
  (.seq (.block 0
    (.loop
      (.seq (.seq (.ops [⟨some 6, none, .mv (.tmp 3)⟩,
        ⟨some 7, none, .bin .gtr (.tmp 6) (.const (.int .i64 0))⟩,
        ⟨some 8, none, .mv (.tmp 7)⟩,
        ⟨some 9, some (8, true), .mv (.tmp 0)⟩,
        ⟨some 10, some (8, true), .mv (.tmp 3)⟩,
        ⟨some 11, some (8, true), .bin .sub (.tmp 10) (.const (.int .i64 1))⟩,
        ⟨some 12, some (8, true), .ia 1 (.tmp 9) (.tmp 11)⟩,
        ⟨some 13, some (8, true), .ld (.int .u32) (.tmp 12)⟩,
        ⟨some 14, some (8, true), .bin .eql (.tmp 13) (.const (.int .u32 0))⟩,
        ⟨some 15, none, .pick (.tmp 8) (.tmp 14) (.const (.bool false))⟩])
      (.cond (.tmp 15)
        .skip
        (.exit 0)))
      (.block 1
        (.ops [⟨some 16, none, .mv (.tmp 3)⟩,
          ⟨some 17, none, .bin .sub (.tmp 16) (.const (.int .i64 1))⟩,
          ⟨some 3, none, .mv (.tmp 17)⟩])))))
  (.seq (.ops [⟨some 18, none, .mv (.tmp 0)⟩,
    ⟨some 19, none, .mv (.tmp 3)⟩,
    ⟨some 20, none, .slc 1 (.tmp 18) none (some (.tmp 19)) none⟩,
    ⟨some 2, none, .mv (.tmp 20)⟩])
  .ret))))⟩
theorem h72 : strF Tryd.prog [] Tryd.f72 = some c72 := by kernel_rfl
/-- math/bits.Len32 -/
def c73 : Fun := ⟨19, [.inl 2],
  (.seq (.ops [⟨some 2, none, .mv (.const (.int .i64 0))⟩])
  (.join (.seq (.ops [⟨some 3, none, .mv (.tmp 0)⟩,
    ⟨some 4, none, .bin .geq (.tmp 3) (.const (.int .u32 65536))⟩])
  (.cond (.tmp 4)
    (.seq (.ops [⟨some 5, none, .mv (.tmp 0)⟩,
      ⟨some 6, none, .bin .shr (.tmp 5) (.const (.int .u64 16))⟩,
      ⟨some 0, none, .mv (.tmp 6)⟩])
    (.ops [⟨some 2, none, .mv (.const (.int .i64 16))⟩]))
    .skip))
  (.join (.seq (.ops [⟨some 7, none, .mv (.tmp 0)⟩,
    ⟨some 8, none, .bin .geq (.tmp 7) (.const (.int .u32 256))⟩])
  (.cond (.tmp 8)
    (.seq (.ops [⟨some 9, none, .mv (.tmp 0)⟩,
      ⟨some 10, none, .bin .shr (.tmp 9) (.const (.int .u64 8))⟩,
      ⟨some 0, none, .mv (.tmp 10)⟩])
    (.ops [⟨some 11, none, .mv (.tmp 2)⟩,
      ⟨some 12, none, .bin .add (.tmp 11) (.const (.int .i64 8))⟩,
      ⟨some 2, none, .mv (.tmp 12)⟩]))
    .skip))
  (.seq (.ops [⟨some 13, none, .mv (.tmp 2)⟩,
    ⟨some 14, none, .mv (.tmp 0)⟩,
    ⟨some 15, none, .cv .u8 (.tmp 14)⟩,
    ⟨some 16, none, .ixs (.const (.string ⟨#[0, 1, 2, 2, 3, 3, 3, 3, 4, 4, 4, 4, 4, 4, 4, 4, 5, 5, 5, 5, 5, 5, 5, 5, 5, 5, 5, 5, 5, 5, 5, 5, 6, 6, 6, 6, 6, 6, 6, 6, 6, 6, 6, 6, 6, 6, 6, 6, 6, 6, 6, 6, 6, 6, 6, 6, 6, 6, 6, 6, 6, 6, 6, 6, 7, 7, 7, 7, 7, 7, 7, 7, 7, 7, 7, 7, 7, 7, 7, 7, 7, 7, 7, 7, 7, 7, 7, 7, 7, 7, 7, 7, 7, 7, 7, 7, 7, 7, 7, 7, 7, 7, 7, 7, 7, 7, 7, 7, 7, 7, 7, 7, 7, 7, 7, 7, 7, 7, 7, 7, 7, 7, 7, 7, 7, 7, 7, 7, 8, 8, 8, 8, 8, 8, 8, 8, 8, 8, 8, 8, 8, 8, 8, 8, 8, 8, 8, 8, 8, 8, 8, 8, 8, 8, 8, 8, 8, 8, 8, 8, 8, 8, 8, 8, 8, 8, 8, 8, 8, 8, 8, 8, 8, 8, 8, 8, 8, 8, 8, 8, 8, 8, 8, 8, 8, 8, 8, 8, 8, 8, 8, 8, 8, 8, 8, 8, 8, 8, 8, 8, 8, 8, 8, 8, 8, 8, 8, 8, 8, 8, 8, 8, 8, 8, 8, 8, 8, 8, 8, 8, 8, 8, 8, 8, 8, 8, 8, 8, 8, 8, 8, 8, 8, 8, 8, 8, 8, 8, 8, 8, 8, 8, 8, 8, 8, 8, 8, 8, 8, 8, 8, 8, 8, 8, 8, 8]⟩)) (.tmp 15)⟩,
    ⟨some 17, none, .cv .i64 (.tmp 16)⟩,
    ⟨some 18, none, .bin .add (.tmp 13) (.tmp 17)⟩,
    ⟨some 2, none, .mv (.tmp 18)⟩])
  .ret))))⟩
theorem h73 : strF Tryd.prog [] Tryd.f73 = some c73 := by kernel_rfl
/-- chirograph/chirographlaw04.DerBack -/
def c8 : Fun := ⟨116, [.inl 2],
  (.seq (.ops [⟨some 2, none, .mv (.const (.bool false))⟩])
  (.seq (.seq (.ops [⟨some 11, none, .mv (.tmp 0)⟩,
    ⟨some 12, none, .len (.tmp 11)⟩,
    ⟨some 13, none, .bin .gtr (.tmp 12) (.const (.int .i64 60))⟩])
  (.cond (.tmp 13)
    (.seq (.ops [⟨some 14, none, .call 12 []⟩,
      ⟨some 2, none, .mv (.tmp 14)⟩])
    .ret)
    .skip))
  (.seq (.ops [⟨some 3, none, .mv (.const (.slice none 0 0))⟩])
  (.seq (.ops [⟨some 4, none, .mv (.const (.slice none 0 0))⟩])
  (.seq (.seq (.ops [⟨some 5, none, .mv (.const (.int .i64 0))⟩])
  (.block 0
    (.loop
      (.seq (.seq (.ops [⟨some 15, none, .mv (.tmp 5)⟩,
        ⟨some 16, none, .mv (.tmp 0)⟩,
        ⟨some 17, none, .len (.tmp 16)⟩,
        ⟨some 18, none, .bin .lss (.tmp 15) (.tmp 17)⟩])
      (.cond (.tmp 18)
        .skip
        (.exit 0)))
      (.join (.block 1
        (.seq (.seq (.ops [⟨some 21, none, .mv (.tmp 0)⟩,
          ⟨some 22, none, .mv (.tmp 5)⟩,
          ⟨some 23, none, .ia 5 (.tmp 21) (.tmp 22)⟩,
          ⟨some 24, none, .fa 3 (.tmp 23)⟩,
          ⟨some 25, none, .ld .slice (.tmp 24)⟩,
          ⟨some 26, none, .len (.tmp 25)⟩,
          ⟨some 27, none, .bin .gtr (.tmp 26) (.const (.int .i64 1000))⟩])
        (.cond (.tmp 27)
          (.seq (.ops [⟨some 28, none, .call 12 []⟩,
            ⟨some 2, none, .mv (.tmp 28)⟩])
          .ret)
          .skip))
        (.seq (.drawT (.st 0 0 (.st 0 1 (.st 0 2 (.st 0 3 (.st 0 5 (.st 0 6 (.st 0 7 (.st 0 8 (.st 0 10 (.st 0 11 (.st 0 12 (.st 0 13 (.st 0 15 (.st 0 16 (.st 0 17 (.st 0 18 (.st 1 19 (.st 3 4 (.st 3 9 (.st 3 14 (.cov (.one 20 (.cov (.one 21 (.st 0 22 (.st 0 23 (.st 0 24 (.st 0 25 (.st 0 26 .nil)))))))))))))))))))))))))))))
          [⟨some 30, none, .mv (.tmp 0)⟩,
            ⟨some 31, none, .mv (.tmp 5)⟩,
            ⟨some 32, none, .ia 5 (.tmp 30) (.tmp 31)⟩,
            ⟨some 33, none, .fa 0 (.tmp 32)⟩,
            ⟨some 34, none, .ld (.int .i64) (.tmp 33)⟩,
            ⟨some 35, none, .mv (.tmp 0)⟩,
            ⟨some 36, none, .mv (.tmp 5)⟩,
            ⟨some 37, none, .ia 5 (.tmp 35) (.tmp 36)⟩,
            ⟨some 38, none, .fa 1 (.tmp 37)⟩,
            ⟨some 39, none, .ld (.int .i64) (.tmp 38)⟩,
            ⟨some 40, none, .mv (.tmp 0)⟩,
            ⟨some 41, none, .mv (.tmp 5)⟩,
            ⟨some 42, none, .ia 5 (.tmp 40) (.tmp 41)⟩,
            ⟨some 43, none, .fa 2 (.tmp 42)⟩,
            ⟨some 44, none, .ld .bool (.tmp 43)⟩,
            ⟨some 45, none, .mv (.tmp 0)⟩,
            ⟨some 46, none, .mv (.tmp 5)⟩,
            ⟨some 47, none, .ia 5 (.tmp 45) (.tmp 46)⟩,
            ⟨some 48, none, .fa 3 (.tmp 47)⟩,
            ⟨some 49, none, .ld .slice (.tmp 48)⟩,
            ⟨some 50, none, .bsl 22 1 1 #[(.slice none 0 0)] [(0, (.tmp 49))]⟩,
            ⟨some 51, none, .call 31 [(.tmp 34), (.tmp 39), (.tmp 44), (.tmp 50)]⟩,
            ⟨some 29, none, .mv (.tmp 51)⟩,
            ⟨some 52, none, .ext (.tmp 29) 0⟩,
            ⟨some 53, none, .ext (.tmp 29) 1⟩,
            ⟨some 6, none, .mv (.tmp 52)⟩,
            ⟨some 7, none, .mv (.tmp 53)⟩])
        (.seq (.seq (.ops [⟨some 54, none, .mv (.tmp 7)⟩,
          ⟨some 55, none, .call 19 [(.tmp 54)]⟩,
          ⟨some 56, none, .bin .neq (.tmp 55) (.const (.int .i64 0))⟩])
        (.cond (.tmp 56)
          (.seq (.seq (.ops [⟨some 57, none, .mv (.tmp 6)⟩,
            ⟨some 58, none, .len (.tmp 57)⟩,
            ⟨some 59, none, .bin .neq (.tmp 58) (.const (.int .i64 0))⟩,
            ⟨some 60, none, .mv (.tmp 59)⟩,
            ⟨some 61, some (60, false), .mv (.tmp 7)⟩,
            ⟨some 62, some (60, false), .call 19 [(.tmp 61)]⟩,
            ⟨some 63, some (60, false), .bin .neq (.tmp 62) (.const (.int .i64 1))⟩,
            ⟨some 64, none, .pick (.tmp 60) (.const (.bool true)) (.tmp 63)⟩])
          (.cond (.tmp 64)
            (.seq (.ops [⟨some 2, none, .mv (.const (.bool false))⟩])
            .ret)
            .skip))
          (.exit 1))
          .skip))
        (.seq (.ops [⟨some 65, none, .mv (.tmp 3)⟩,
          ⟨some 66, none, .mv (.tmp 6)⟩,
          ⟨some 67, none, .app 5 1 1 #[(.int .u8 0)] (.tmp 65) (.tmp 66)⟩,
          ⟨some 3, none, .mv (.tmp 67)⟩])
        (.drawS [(0, 0), (0, 1), (0, 2), (0, 3), (0, 4), (0, 6), (0, 7), (0, 8), (0, 9), (0, 11), (0, 12), (0, 13), (0, 14), (0, 16), (0, 17), (0, 18), (0, 19), (0, 21), (1, 5), (1, 10), (1, 15), (1, 20), (0, 22), (2, 23), (2, 24), (0, 25)]
          [⟨some 68, none, .mv (.tmp 4)⟩,
          ⟨some 69, none, .mv (.tmp 0)⟩,
          ⟨some 70, none, .mv (.tmp 5)⟩,
          ⟨some 71, none, .ia 5 (.tmp 69) (.tmp 70)⟩,
          ⟨some 72, none, .fa 0 (.tmp 71)⟩,
          ⟨some 73, none, .ld (.int .i64) (.tmp 72)⟩,
          ⟨some 74, none, .mv (.tmp 0)⟩,
          ⟨some 75, none, .mv (.tmp 5)⟩,
          ⟨some 76, none, .ia 5 (.tmp 74) (.tmp 75)⟩,
          ⟨some 77, none, .fa 1 (.tmp 76)⟩,
          ⟨some 78, none, .ld (.int .i64) (.tmp 77)⟩,
          ⟨some 79, none, .mv (.tmp 0)⟩,
          ⟨some 80, none, .mv (.tmp 5)⟩,
          ⟨some 81, none, .ia 5 (.tmp 79) (.tmp 80)⟩,
          ⟨some 82, none, .fa 2 (.tmp 81)⟩,
          ⟨some 83, none, .ld .bool (.tmp 82)⟩,
          ⟨some 84, none, .mv (.tmp 0)⟩,
          ⟨some 85, none, .mv (.tmp 5)⟩,
          ⟨some 86, none, .ia 5 (.tmp 84) (.tmp 85)⟩,
          ⟨some 87, none, .fa 3 (.tmp 86)⟩,
          ⟨some 88, none, .ld .slice (.tmp 87)⟩,
          ⟨some 89, none, .mv (.tmp 6)⟩,
          ⟨some 90, none, .bld #[(.int .i64 0), (.int .i64 0), (.bool false), (.slice none 0 0), (.slice none 0 0)] [(0, 1), (1, 1), (2, 1), (3, 1), (4, 1)] [(0, (.tmp 73)), (1, (.tmp 78)), (2, (.tmp 83)), (3, (.tmp 88)), (4, (.tmp 89))]⟩,
          ⟨some 91, none, .bsl 53 5 1 #[(.int .i64 0), (.int .i64 0), (.bool false), (.slice none 0 0), (.slice none 0 0)] [(0, (.tmp 90))]⟩,
          ⟨some 92, none, .app 53 5 72 #[(.int .i64 0), (.int .i64 0), (.bool false), (.slice none 0 0), (.slice none 0 0)] (.tmp 68) (.tmp 91)⟩,
          ⟨some 4, none, .mv (.tmp 92)⟩]))))))
      (.ops [⟨some 19, none, .mv (.tmp 5)⟩,
        ⟨some 20, none, .bin .add (.tmp 19) (.const (.int .i64 1))⟩,
        ⟨some 5, none, .mv (.tmp 20)⟩]))))))
  (.seq (.ops [⟨some 94, none, .mv (.tmp 3)⟩,
    ⟨some 95, none, .call 25 [(.tmp 94)]⟩,
    ⟨some 93, none, .mv (.tmp 95)⟩,
    ⟨some 96, none, .ext (.tmp 93) 0⟩,
    ⟨some 97, none, .ext (.tmp 93) 1⟩,
    ⟨some 98, none, .ext (.tmp 93) 2⟩,
    ⟨some 8, none, .mv (.tmp 96)⟩,
    ⟨some 9, none, .mv (.tmp 97)⟩,
    ⟨some 10, none, .mv (.tmp 98)⟩])
  (.seq (.ops [⟨some 99, none, .mv (.tmp 9)⟩,
    ⟨some 100, none, .call 19 [(.tmp 99)]⟩,
    ⟨some 101, none, .bin .eql (.tmp 100) (.const (.int .i64 0))⟩,
    ⟨some 102, none, .mv (.tmp 101)⟩,
    ⟨some 103, some (102, true), .mv (.tmp 10)⟩,
    ⟨some 104, some (102, true), .mv (.tmp 3)⟩,
    ⟨some 105, some (102, true), .len (.tmp 104)⟩,
    ⟨some 106, some (102, true), .bin .eql (.tmp 103) (.tmp 105)⟩,
    ⟨some 107, none, .pick (.tmp 102) (.tmp 106) (.const (.bool false))⟩,
    ⟨some 108, none, .mv (.tmp 107)⟩,
    ⟨some 109, some (108, true), .mv (.tmp 8)⟩,
    ⟨some 110, some (108, true), .mv (.tmp 4)⟩,
    ⟨some 111, some (108, true), .call 27 [(.tmp 109), (.tmp 110)]⟩,
    ⟨some 112, none, .pick (.tmp 108) (.tmp 111) (.const (.bool false))⟩,
    ⟨some 113, none, .mv (.tmp 112)⟩,
    ⟨some 114, some (113, true), .call 12 []⟩,
    ⟨some 115, none, .pick (.tmp 113) (.tmp 114) (.const (.bool false))⟩,
    ⟨some 2, none, .mv (.tmp 115)⟩])
  .ret)))))))⟩
theorem h8 : strF Tryd.prog [(10, .inr (.st 0 0 (.st 0 1 (.st 0 2 (.st 0 3 (.st 0 5 (.st 0 6 (.st 0 7 (.st 0 8 (.st 0 10 (.st 0 11 (.st 0 12 (.st 0 13 (.st 0 15 (.st 0 16 (.st 0 17 (.st 0 18 (.st 1 19 (.st 3 4 (.st 3 9 (.st 3 14 (.cov (.one 20 (.cov (.one 21 (.st 0 22 (.st 0 23 (.st 0 24 (.st 0 25 (.st 0 26 .nil)))))))))))))))))))))))))))))), (15, .inl [(0, 0), (0, 1), (0, 2), (0, 3), (0, 4), (0, 6), (0, 7), (0, 8), (0, 9), (0, 11), (0, 12), (0, 13), (0, 14), (0, 16), (0, 17), (0, 18), (0, 19), (0, 21), (1, 5), (1, 10), (1, 15), (1, 20), (0, 22), (2, 23), (2, 24), (0, 25)])] Tryd.f8 = some c8 := by kernel_rfl
/-- chirograph/chirographlaw04.live -/
def c12 : Fun := ⟨112, [.inl 0],
  (.seq (.ops [⟨some 0, none, .mv (.const (.bool false))⟩])
  (.seq (.ops [⟨some 15, none, .bsl 5 1 7 #[(.int .u8 0)] [(0, (.const (.int .u8 2))), (1, (.const (.int .u8 1))), (2, (.const (.int .u8 5))), (3, (.const (.int .u8 48))), (4, (.const (.int .u8 2))), (5, (.const (.int .u8 5))), (6, (.const (.int .u8 0)))]⟩,
    ⟨some 16, none, .call 25 [(.tmp 15)]⟩,
    ⟨some 14, none, .mv (.tmp 16)⟩,
    ⟨some 17, none, .ext (.tmp 14) 0⟩,
    ⟨some 18, none, .ext (.tmp 14) 1⟩,
    ⟨some 19, none, .ext (.tmp 14) 2⟩,
    ⟨some 1, none, .mv (.tmp 17)⟩,
    ⟨some 2, none, .mv (.tmp 18)⟩,
    ⟨some 3, none, .mv (.tmp 19)⟩])
  (.seq (.seq (.ops [⟨some 20, none, .mv (.tmp 2)⟩,
    ⟨some 21, none, .call 19 [(.tmp 20)]⟩,
    ⟨some 22, none, .bin .neq (.tmp 21) (.const (.int .i64 0))⟩,
    ⟨some 23, none, .mv (.tmp 22)⟩,
    ⟨some 24, some (23, false), .mv (.tmp 3)⟩,
    ⟨some 25, some (23, false), .bin .neq (.tmp 24) (.const (.int .i64 7))⟩,
    ⟨some 26, none, .pick (.tmp 23) (.const (.bool true)) (.tmp 25)⟩,
    ⟨some 27, none, .mv (.tmp 26)⟩,
    ⟨some 28, some (27, false), .mv (.tmp 1)⟩,
    ⟨some 29, some (27, false), .len (.tmp 28)⟩,
    ⟨some 30, some (27, false), .bin .neq (.tmp 29) (.const (.int .i64 2))⟩,
    ⟨some 31, none, .pick (.tmp 27) (.const (.bool true)) (.tmp 30)⟩,
    ⟨some 32, none, .mv (.tmp 31)⟩,
    ⟨some 33, some (32, false), .mv (.tmp 1)⟩,
    ⟨some 34, some (32, false), .ia 5 (.tmp 33) (.const (.int .i64 0))⟩,
    ⟨some 35, some (32, false), .fa 1 (.tmp 34)⟩,
    ⟨some 36, some (32, false), .ld (.int .i64) (.tmp 35)⟩,
    ⟨some 37, some (32, false), .bin .neq (.tmp 36) (.const (.int .i64 2))⟩,
    ⟨some 38, none, .pick (.tmp 32) (.const (.bool true)) (.tmp 37)⟩,
    ⟨some 39, none, .mv (.tmp 38)⟩,
    ⟨some 40, some (39, false), .mv (.tmp 1)⟩,
    ⟨some 41, some (39, false), .ia 5 (.tmp 40) (.const (.int .i64 1))⟩,
    ⟨some 42, some (39, false), .fa 3 (.tmp 41)⟩,
    ⟨some 43, some (39, false), .ld .slice (.tmp 42)⟩,
    ⟨some 44, some (39, false), .cvbs (.tmp 43)⟩,
    ⟨some 45, some (39, false), .bin .neq (.tmp 44) (.const (.string ⟨#[5, 0]⟩))⟩,
    ⟨some 46, none, .pick (.tmp 39) (.const (.bool true)) (.tmp 45)⟩,
    ⟨some 47, none, .mv (.tmp 46)⟩,
    ⟨some 48, some (47, false), .mv (.tmp 1)⟩,
    ⟨some 49, some (47, false), .ia 5 (.tmp 48) (.const (.int .i64 1))⟩,
    ⟨some 50, some (47, false), .fa 2 (.tmp 49)⟩,
    ⟨some 51, some (47, false), .ld .bool (.tmp 50)⟩,
    ⟨some 52, some (47, false), .un .not (.tmp 51)⟩,
    ⟨some 53, none, .pick (.tmp 47) (.const (.bool true)) (.tmp 52)⟩])
  (.cond (.tmp 53)
    (.seq (.ops [⟨some 0, none, .mv (.const (.bool false))⟩])
    .ret)
    .skip))
  (.seq (.ops [⟨some 55, none, .bsl 5 1 2 #[(.int .u8 0)] [(0, (.const (.int .u8 255))), (1, (.const (.int .u8 127)))]⟩,
    ⟨some 56, none, .call 33 [(.tmp 55)]⟩,
    ⟨some 54, none, .mv (.tmp 56)⟩,
    ⟨some 57, none, .ext (.tmp 54) 0⟩,
    ⟨some 58, none, .ext (.tmp 54) 1⟩,
    ⟨some 4, none, .mv (.tmp 57)⟩,
    ⟨some 5, none, .mv (.tmp 58)⟩])
  (.seq (.ops [⟨some 60, none, .bsl 5 1 3 #[(.int .u8 0)] [(0, (.const (.int .u8 42))), (1, (.const (.int .u8 134))), (2, (.const (.int .u8 72)))]⟩,
    ⟨some 61, none, .call 21 [(.tmp 60)]⟩,
    ⟨some 59, none, .mv (.tmp 61)⟩,
    ⟨some 62, none, .ext (.tmp 59) 0⟩,
    ⟨some 63, none, .ext (.tmp 59) 1⟩,
    ⟨some 6, none, .mv (.tmp 62)⟩,
    ⟨some 7, none, .mv (.tmp 63)⟩])
  (.seq (.ops [⟨some 65, none, .call 23 [(.const (.string ⟨#[50, 46, 57, 57, 57]⟩))]⟩,
    ⟨some 64, none, .mv (.tmp 65)⟩,
    ⟨some 66, none, .ext (.tmp 64) 0⟩,
    ⟨some 67, none, .ext (.tmp 64) 1⟩,
    ⟨some 8, none, .mv (.tmp 66)⟩,
    ⟨some 9, none, .mv (.tmp 67)⟩])
  (.seq (.ops [⟨some 69, none, .bsl 5 1 2 #[(.int .u8 0)] [(0, (.const (.int .u8 5))), (1, (.const (.int .u8 160)))]⟩,
    ⟨some 70, none, .call 16 [(.tmp 69)]⟩,
    ⟨some 68, none, .mv (.tmp 70)⟩,
    ⟨some 71, none, .ext (.tmp 68) 0⟩,
    ⟨some 72, none, .ext (.tmp 68) 1⟩,
    ⟨some 10, none, .mv (.tmp 71)⟩,
    ⟨some 11, none, .mv (.tmp 72)⟩])
  (.seq (.ops [⟨some 74, none, .bsl 5 1 1 #[(.int .u8 0)] [(0, (.const (.int .u8 128)))]⟩,
    ⟨some 75, none, .call 35 [(.tmp 74)]⟩,
    ⟨some 73, none, .mv (.tmp 75)⟩,
    ⟨some 76, none, .ext (.tmp 73) 0⟩,
    ⟨some 77, none, .ext (.tmp 73) 1⟩,
    ⟨some 12, none, .mv (.tmp 76)⟩,
    ⟨some 13, none, .mv (.tmp 77)⟩])
  (.seq (.ops [⟨some 78, none, .mv (.tmp 5)⟩,
    ⟨some 79, none, .call 19 [(.tmp 78)]⟩,
    ⟨some 80, none, .mv (.tmp 7)⟩,
    ⟨some 81, none, .call 19 [(.tmp 80)]⟩,
    ⟨some 82, none, .bin .add (.tmp 79) (.tmp 81)⟩,
    ⟨some 83, none, .mv (.tmp 9)⟩,
    ⟨some 84, none, .call 19 [(.tmp 83)]⟩,
    ⟨some 85, none, .bin .add (.tmp 82) (.tmp 84)⟩,
    ⟨some 86, none, .mv (.tmp 11)⟩,
    ⟨some 87, none, .call 19 [(.tmp 86)]⟩,
    ⟨some 88, none, .bin .add (.tmp 85) (.tmp 87)⟩,
    ⟨some 89, none, .bin .eql (.tmp 88) (.const (.int .i64 0))⟩,
    ⟨some 90, none, .mv (.tmp 89)⟩,
    ⟨some 91, some (90, true), .mv (.tmp 4)⟩,
    ⟨some 92, some (90, true), .bin .eql (.tmp 91) (.const (.int .i64 (-129)))⟩,
    ⟨some 93, none, .pick (.tmp 90) (.tmp 92) (.const (.bool false))⟩,
    ⟨some 94, none, .mv (.tmp 93)⟩,
    ⟨some 95, some (94, true), .mv (.tmp 6)⟩,
    ⟨some 96, some (94, true), .bin .eql (.tmp 95) (.const (.string ⟨#[49, 46, 50, 46, 56, 52, 48]⟩))⟩,
    ⟨some 97, none, .pick (.tmp 94) (.tmp 96) (.const (.bool false))⟩,
    ⟨some 98, none, .mv (.tmp 97)⟩,
    ⟨some 99, some (98, true), .mv (.tmp 8)⟩,
    ⟨some 100, some (98, true), .cvbs (.tmp 99)⟩,
    ⟨some 101, some (98, true), .bin .eql (.tmp 100) (.const (.string ⟨#[136, 55]⟩))⟩,
    ⟨some 102, none, .pick (.tmp 98) (.tmp 101) (.const (.bool false))⟩,
    ⟨some 103, none, .mv (.tmp 102)⟩,
    ⟨some 104, some (103, true), .mv (.tmp 10)⟩,
    ⟨some 105, some (103, true), .bin .eql (.tmp 104) (.const (.int .u32 5))⟩,
    ⟨some 106, none, .pick (.tmp 103) (.tmp 105) (.const (.bool false))⟩,
    ⟨some 107, none, .mv (.tmp 106)⟩,
    ⟨some 108, some (107, true), .mv (.tmp 13)⟩,
    ⟨some 109, some (107, true), .call 19 [(.tmp 108)]⟩,
    ⟨some 110, some (107, true), .bin .eql (.tmp 109) (.const (.int .i64 40))⟩,
    ⟨some 111, none, .pick (.tmp 107) (.tmp 110) (.const (.bool false))⟩,
    ⟨some 0, none, .mv (.tmp 111)⟩])
  .ret)))))))))⟩
theorem h12 : strF Tryd.prog [] Tryd.f12 = some c12 := by kernel_rfl
/-- chirograph/chirographlaw04.num -/
def c19 : Fun := ⟨4, [.inl 2],
  (.seq (.ops [⟨some 2, none, .mv (.const (.int .i64 0))⟩])
  (.seq (.ops [⟨some 3, none, .mv (.tmp 0)⟩,
    ⟨some 2, none, .mv (.tmp 3)⟩])
  .ret))⟩
theorem h19 : strF Tryd.prog [] Tryd.f19 = some c19 := by kernel_rfl
end Go.Proofs.YtcflokckfjkdpaaDoor.Code
