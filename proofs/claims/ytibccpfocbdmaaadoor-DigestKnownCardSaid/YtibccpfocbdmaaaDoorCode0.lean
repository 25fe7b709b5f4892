/- The functions as the engine has them: by program, out of the translation. -/
import Derived.Test.YtibccpfocbdmaaaDoorEngE
import Derived.Test.YtibccpfocbdmaaaDoorProg
set_option maxRecDepth 100000
namespace Go.Proofs.YtibccpfocbdmaaaDoor.Code
open Go Go.Proofs Go.Proofs.YtibccpfocbdmaaaDoor.Eng

/-- chirograph/chirographlaw02.DigestSums -/
def c3 : Fun := ⟨83, [.inl 4],
  (.seq (.ops [⟨some 4, none, .mv (.const (.bool false))⟩])
  (.seq (.seq (.ops [⟨some 12, none, .mv (.tmp 1)⟩,
    ⟨some 13, none, .call 9 [(.tmp 12), (.const (.int .i64 65536))]⟩])
  (.cond (.tmp 13)
    (.seq (.ops [⟨some 14, none, .call 10 []⟩,
      ⟨some 4, none, .mv (.tmp 14)⟩])
    .ret)
    .skip))
  (.seq (.ops [⟨some 5, none, .mv (.const (.slice none 0 0))⟩])
  (.seq (.seq (.ops [⟨some 6, none, .mv (.const (.int .i64 0))⟩])
  (.block 0
    (.loop
      (.seq (.seq (.ops [⟨some 15, none, .mv (.tmp 6)⟩,
        ⟨some 16, none, .mv (.tmp 1)⟩,
        ⟨some 17, none, .len (.tmp 16)⟩,
        ⟨some 18, none, .bin .lss (.tmp 15) (.tmp 17)⟩])
      (.cond (.tmp 18)
        .skip
        (.exit 0)))
      (.seq (.block 1
        (.ops [⟨some 21, none, .mv (.tmp 5)⟩,
          ⟨some 22, none, .mv (.tmp 1)⟩,
          ⟨some 23, none, .mv (.tmp 6)⟩,
          ⟨some 24, none, .ia 1 (.tmp 22) (.tmp 23)⟩,
          ⟨some 25, none, .ld .slice (.tmp 24)⟩,
          ⟨some 26, none, .call 11 [(.tmp 25)]⟩,
          ⟨some 27, none, .bsl 25 1 1 #[(.slice none 0 0)] [(0, (.tmp 26))]⟩,
          ⟨some 28, none, .app 25 1 24 #[(.slice none 0 0)] (.tmp 21) (.tmp 27)⟩,
          ⟨some 5, none, .mv (.tmp 28)⟩]))
      (.ops [⟨some 19, none, .mv (.tmp 6)⟩,
        ⟨some 20, none, .bin .add (.tmp 19) (.const (.int .i64 1))⟩,
        ⟨some 6, none, .mv (.tmp 20)⟩]))))))
  (.seq (.ops [⟨some 30, none, .mv (.tmp 0)⟩,
    ⟨some 31, none, .mv (.tmp 5)⟩,
    ⟨some 32, none, .call 12 [(.tmp 30), (.tmp 31)]⟩,
    ⟨some 29, none, .mv (.tmp 32)⟩,
    ⟨some 33, none, .ext (.tmp 29) 0⟩,
    ⟨some 34, none, .ext (.tmp 29) 1⟩,
    ⟨some 7, none, .mv (.tmp 33)⟩,
    ⟨some 8, none, .mv (.tmp 34)⟩])
  (.seq (.ops [⟨some 36, none, .mv (.tmp 0)⟩,
    ⟨some 37, none, .mv (.tmp 1)⟩,
    ⟨some 38, none, .call 13 [(.tmp 36), (.tmp 37)]⟩,
    ⟨some 35, none, .mv (.tmp 38)⟩,
    ⟨some 39, none, .ext (.tmp 35) 0⟩,
    ⟨some 40, none, .ext (.tmp 35) 1⟩,
    ⟨some 9, none, .mv (.tmp 39)⟩,
    ⟨some 10, none, .mv (.tmp 40)⟩])
  (.seq (.seq (.ops [⟨some 11, none, .mv (.const (.int .i64 0))⟩])
  (.block 2
    (.loop
      (.seq (.seq (.ops [⟨some 41, none, .mv (.tmp 11)⟩,
        ⟨some 42, none, .mv (.tmp 1)⟩,
        ⟨some 43, none, .len (.tmp 42)⟩,
        ⟨some 44, none, .bin .lss (.tmp 41) (.tmp 43)⟩])
      (.cond (.tmp 44)
        .skip
        (.exit 2)))
      (.seq (.block 3
        (.seq (.draw 10 [⟨some 47, none, .mv (.tmp 5)⟩,
          ⟨some 48, none, .mv (.tmp 11)⟩,
          ⟨some 49, none, .ia 1 (.tmp 47) (.tmp 48)⟩,
          ⟨some 50, none, .ld .slice (.tmp 49)⟩,
          ⟨some 51, none, .mv (.tmp 1)⟩,
          ⟨some 52, none, .mv (.tmp 11)⟩,
          ⟨some 53, none, .ia 1 (.tmp 51) (.tmp 52)⟩,
          ⟨some 54, none, .ld .slice (.tmp 53)⟩,
          ⟨some 55, none, .call 14 [(.tmp 50), (.tmp 54)]⟩,
          ⟨some 56, none, .un .not (.tmp 55)⟩])
        (.cond (.tmp 56)
          (.seq (.ops [⟨some 4, none, .mv (.const (.bool false))⟩])
          .ret)
          .skip)))
      (.ops [⟨some 45, none, .mv (.tmp 11)⟩,
        ⟨some 46, none, .bin .add (.tmp 45) (.const (.int .i64 1))⟩,
        ⟨some 11, none, .mv (.tmp 46)⟩]))))))
  (.seq (.ops [⟨some 57, none, .mv (.tmp 7)⟩,
    ⟨some 58, none, .mv (.tmp 9)⟩,
    ⟨some 59, none, .call 15 [(.tmp 57), (.tmp 58)]⟩,
    ⟨some 60, none, .mv (.tmp 59)⟩,
    ⟨some 61, some (60, true), .mv (.tmp 8)⟩,
    ⟨some 62, some (60, true), .call 16 [(.tmp 61)]⟩,
    ⟨some 63, some (60, true), .mv (.tmp 10)⟩,
    ⟨some 64, some (60, true), .bin .eql (.tmp 62) (.tmp 63)⟩,
    ⟨some 65, none, .pick (.tmp 60) (.tmp 64) (.const (.bool false))⟩,
    ⟨some 66, none, .mv (.tmp 65)⟩,
    ⟨some 67, some (66, true), .mv (.tmp 0)⟩,
    ⟨some 68, some (66, true), .call 17 [(.tmp 67)]⟩,
    ⟨some 69, some (66, true), .mv (.tmp 0)⟩,
    ⟨some 70, some (66, true), .call 18 [(.tmp 69)]⟩,
    ⟨some 71, some (66, true), .bin .eql (.tmp 68) (.tmp 70)⟩,
    ⟨some 72, none, .pick (.tmp 66) (.tmp 71) (.const (.bool false))⟩,
    ⟨some 73, none, .mv (.tmp 72)⟩,
    ⟨some 74, some (73, true), .mv (.tmp 0)⟩,
    ⟨some 75, some (73, true), .call 19 [(.tmp 74)]⟩,
    ⟨some 76, some (73, true), .mv (.tmp 0)⟩,
    ⟨some 77, some (73, true), .call 20 [(.tmp 76)]⟩,
    ⟨some 78, some (73, true), .bin .eql (.tmp 75) (.tmp 77)⟩,
    ⟨some 79, none, .pick (.tmp 73) (.tmp 78) (.const (.bool false))⟩,
    ⟨some 80, none, .mv (.tmp 79)⟩,
    ⟨some 81, some (80, true), .call 10 []⟩,
    ⟨some 82, none, .pick (.tmp 80) (.tmp 81) (.const (.bool false))⟩,
    ⟨some 4, none, .mv (.tmp 82)⟩])
  .ret))))))))⟩
theorem h3 : strF Tryd.prog [] Tryd.f3 = some c3 := by kernel_rfl

/-- chirograph/chirographlaw02.DigestPieces -/
def c4 : Fun := ⟨149, [.inl 6],
  (.seq (.ops [⟨some 6, none, .mv (.const (.bool false))⟩])
  (.seq (.seq (.ops [⟨some 16, none, .mv (.tmp 1)⟩,
    ⟨some 17, none, .len (.tmp 16)⟩,
    ⟨some 18, none, .bin .gtr (.tmp 17) (.const (.int .i64 65536))⟩,
    ⟨some 19, none, .mv (.tmp 18)⟩,
    ⟨some 20, some (19, false), .mv (.tmp 2)⟩,
    ⟨some 21, some (19, false), .bin .lss (.tmp 20) (.const (.int .i64 0))⟩,
    ⟨some 22, none, .pick (.tmp 19) (.const (.bool true)) (.tmp 21)⟩,
    ⟨some 23, none, .mv (.tmp 22)⟩,
    ⟨some 24, some (23, false), .mv (.tmp 2)⟩,
    ⟨some 25, some (23, false), .mv (.tmp 1)⟩,
    ⟨some 26, some (23, false), .len (.tmp 25)⟩,
    ⟨some 27, some (23, false), .bin .gtr (.tmp 24) (.tmp 26)⟩,
    ⟨some 28, none, .pick (.tmp 23) (.const (.bool true)) (.tmp 27)⟩])
  (.cond (.tmp 28)
    (.seq (.ops [⟨some 29, none, .call 10 []⟩,
      ⟨some 6, none, .mv (.tmp 29)⟩])
    .ret)
    .skip))
  (.seq (.ops [⟨some 31, none, .mv (.tmp 0)⟩,
    ⟨some 32, none, .mv (.tmp 1)⟩,
    ⟨some 33, none, .bsl 25 1 1 #[(.slice none 0 0)] [(0, (.tmp 32))]⟩,
    ⟨some 34, none, .call 12 [(.tmp 31), (.tmp 33)]⟩,
    ⟨some 30, none, .mv (.tmp 34)⟩,
    ⟨some 35, none, .ext (.tmp 30) 0⟩,
    ⟨some 36, none, .ext (.tmp 30) 1⟩,
    ⟨some 7, none, .mv (.tmp 35)⟩,
    ⟨some 8, none, .mv (.tmp 36)⟩])
  (.seq (.drawS [(0, 0), (0, 1), (0, 2), (0, 3), (0, 4), (0, 5), (0, 6), (2, 7), (1, 8), (0, 9), (0, 10), (0, 11), (0, 12), (0, 13)]
    [⟨some 38, none, .mv (.tmp 0)⟩,
    ⟨some 39, none, .mv (.tmp 1)⟩,
    ⟨some 40, none, .mv (.tmp 2)⟩,
    ⟨some 41, none, .slc 1 (.tmp 39) none (some (.tmp 40)) none⟩,
    ⟨some 42, none, .mv (.tmp 1)⟩,
    ⟨some 43, none, .mv (.tmp 2)⟩,
    ⟨some 44, none, .slc 1 (.tmp 42) (some (.tmp 43)) none none⟩,
    ⟨some 45, none, .bsl 25 1 3 #[(.slice none 0 0)] [(0, (.tmp 41)), (1, (.const (.slice none 0 0))), (2, (.tmp 44))]⟩,
    ⟨some 46, none, .call 12 [(.tmp 38), (.tmp 45)]⟩,
    ⟨some 37, none, .mv (.tmp 46)⟩,
    ⟨some 47, none, .ext (.tmp 37) 0⟩,
    ⟨some 48, none, .ext (.tmp 37) 1⟩,
    ⟨some 9, none, .mv (.tmp 47)⟩,
    ⟨some 10, none, .mv (.tmp 48)⟩])
  (.seq (.ops [⟨some 50, none, .mv (.tmp 0)⟩,
    ⟨some 51, none, .call 21 [(.tmp 50)]⟩,
    ⟨some 49, none, .mv (.tmp 51)⟩,
    ⟨some 52, none, .ext (.tmp 49) 0⟩,
    ⟨some 53, none, .ext (.tmp 49) 1⟩,
    ⟨some 11, none, .mv (.tmp 52)⟩,
    ⟨some 12, none, .mv (.tmp 53)⟩])
  (.seq (.seq (.ops [⟨some 54, none, .mv (.tmp 0)⟩,
    ⟨some 55, none, .call 17 [(.tmp 54)]⟩,
    ⟨some 56, none, .bin .eql (.tmp 55) (.const (.int .i64 0))⟩])
  (.cond (.tmp 56)
    (.seq (.ops [⟨some 57, none, .mv (.tmp 8)⟩,
      ⟨some 58, none, .call 16 [(.tmp 57)]⟩,
      ⟨some 59, none, .bin .eql (.tmp 58) (.const (.int .i64 1))⟩,
      ⟨some 60, none, .mv (.tmp 59)⟩,
      ⟨some 61, some (60, true), .mv (.tmp 10)⟩,
      ⟨some 62, some (60, true), .call 16 [(.tmp 61)]⟩,
      ⟨some 63, some (60, true), .bin .eql (.tmp 62) (.const (.int .i64 1))⟩,
      ⟨some 64, none, .pick (.tmp 60) (.tmp 63) (.const (.bool false))⟩,
      ⟨some 65, none, .mv (.tmp 64)⟩,
      ⟨some 66, some (65, true), .mv (.tmp 12)⟩,
      ⟨some 67, some (65, true), .call 16 [(.tmp 66)]⟩,
      ⟨some 68, some (65, true), .bin .eql (.tmp 67) (.const (.int .i64 1))⟩,
      ⟨some 69, none, .pick (.tmp 65) (.tmp 68) (.const (.bool false))⟩,
      ⟨some 70, none, .mv (.tmp 69)⟩,
      ⟨some 71, some (70, true), .mv (.tmp 11)⟩,
      ⟨some 72, some (70, true), .eq .pointer false (.tmp 71) (.const (.pointer none))⟩,
      ⟨some 73, none, .pick (.tmp 70) (.tmp 72) (.const (.bool false))⟩,
      ⟨some 74, none, .mv (.tmp 73)⟩,
      ⟨some 75, some (74, true), .mv (.tmp 7)⟩,
      ⟨some 76, some (74, true), .len (.tmp 75)⟩,
      ⟨some 77, some (74, true), .mv (.tmp 9)⟩,
      ⟨some 78, some (74, true), .len (.tmp 77)⟩,
      ⟨some 79, some (74, true), .bin .add (.tmp 76) (.tmp 78)⟩,
      ⟨some 80, some (74, true), .bin .eql (.tmp 79) (.const (.int .i64 0))⟩,
      ⟨some 81, none, .pick (.tmp 74) (.tmp 80) (.const (.bool false))⟩,
      ⟨some 82, none, .mv (.tmp 81)⟩,
      ⟨some 83, some (82, true), .call 10 []⟩,
      ⟨some 84, none, .pick (.tmp 82) (.tmp 83) (.const (.bool false))⟩,
      ⟨some 6, none, .mv (.tmp 84)⟩])
    .ret)
    .skip))
  (.seq (.seq (.ops [⟨some 85, none, .mv (.tmp 11)⟩,
    ⟨some 86, none, .eq .pointer false (.tmp 85) (.const (.pointer none))⟩])
  (.cond (.tmp 86)
    (.seq (.ops [⟨some 6, none, .mv (.const (.bool false))⟩])
    .ret)
    .skip))
  (.seq (.ops [⟨some 87, none, .mv (.tmp 11)⟩,
    ⟨some 88, none, .mv (.tmp 1)⟩,
    ⟨some 89, none, .mv (.tmp 2)⟩,
    ⟨some 90, none, .mv (.tmp 2)⟩,
    ⟨some 91, none, .slc 1 (.tmp 88) (some (.tmp 89)) (some (.tmp 90)) none⟩,
    ⟨some 92, none, .call 22 [(.tmp 87), (.tmp 91)]⟩])
  (.seq (.ops [⟨some 93, none, .mv (.tmp 11)⟩,
    ⟨some 94, none, .mv (.tmp 1)⟩,
    ⟨some 95, none, .mv (.tmp 2)⟩,
    ⟨some 96, none, .slc 1 (.tmp 94) none (some (.tmp 95)) none⟩,
    ⟨some 97, none, .call 22 [(.tmp 93), (.tmp 96)]⟩])
  (.seq (.ops [⟨some 98, none, .mv (.tmp 11)⟩,
    ⟨some 99, none, .call 23 [(.tmp 98)]⟩,
    ⟨some 13, none, .mv (.tmp 99)⟩])
  (.seq (.ops [⟨some 100, none, .mv (.tmp 11)⟩,
    ⟨some 101, none, .mv (.tmp 1)⟩,
    ⟨some 102, none, .mv (.tmp 2)⟩,
    ⟨some 103, none, .slc 1 (.tmp 101) (some (.tmp 102)) none none⟩,
    ⟨some 104, none, .call 22 [(.tmp 100), (.tmp 103)]⟩])
  (.seq (.ops [⟨some 106, none, .mv (.tmp 0)⟩,
    ⟨some 107, none, .mv (.tmp 1)⟩,
    ⟨some 108, none, .mv (.tmp 2)⟩,
    ⟨some 109, none, .slc 1 (.tmp 107) none (some (.tmp 108)) none⟩,
    ⟨some 110, none, .bsl 25 1 1 #[(.slice none 0 0)] [(0, (.tmp 109))]⟩,
    ⟨some 111, none, .call 12 [(.tmp 106), (.tmp 110)]⟩,
    ⟨some 105, none, .mv (.tmp 111)⟩,
    ⟨some 112, none, .ext (.tmp 105) 0⟩,
    ⟨some 113, none, .ext (.tmp 105) 1⟩,
    ⟨some 14, none, .mv (.tmp 112)⟩,
    ⟨some 15, none, .mv (.tmp 113)⟩])
  (.seq (.ops [⟨some 114, none, .mv (.tmp 8)⟩,
    ⟨some 115, none, .call 16 [(.tmp 114)]⟩,
    ⟨some 116, none, .mv (.tmp 10)⟩,
    ⟨some 117, none, .call 16 [(.tmp 116)]⟩,
    ⟨some 118, none, .bin .add (.tmp 115) (.tmp 117)⟩,
    ⟨some 119, none, .mv (.tmp 12)⟩,
    ⟨some 120, none, .call 16 [(.tmp 119)]⟩,
    ⟨some 121, none, .bin .add (.tmp 118) (.tmp 120)⟩,
    ⟨some 122, none, .bin .eql (.tmp 121) (.const (.int .i64 0))⟩,
    ⟨some 123, none, .mv (.tmp 122)⟩,
    ⟨some 124, some (123, true), .mv (.tmp 7)⟩,
    ⟨some 125, some (123, true), .mv (.tmp 9)⟩,
    ⟨some 126, some (123, true), .call 15 [(.tmp 124), (.tmp 125)]⟩,
    ⟨some 127, none, .pick (.tmp 123) (.tmp 126) (.const (.bool false))⟩,
    ⟨some 128, none, .mv (.tmp 127)⟩,
    ⟨some 129, some (128, true), .mv (.tmp 7)⟩,
    ⟨some 130, some (128, true), .mv (.tmp 11)⟩,
    ⟨some 131, some (128, true), .call 23 [(.tmp 130)]⟩,
    ⟨some 132, some (128, true), .call 15 [(.tmp 129), (.tmp 131)]⟩,
    ⟨some 133, none, .pick (.tmp 128) (.tmp 132) (.const (.bool false))⟩,
    ⟨some 134, none, .mv (.tmp 133)⟩,
    ⟨some 135, some (134, true), .mv (.tmp 13)⟩,
    ⟨some 136, some (134, true), .mv (.tmp 14)⟩,
    ⟨some 137, some (134, true), .call 15 [(.tmp 135), (.tmp 136)]⟩,
    ⟨some 138, none, .pick (.tmp 134) (.tmp 137) (.const (.bool false))⟩,
    ⟨some 139, none, .mv (.tmp 138)⟩,
    ⟨some 140, some (139, true), .mv (.tmp 7)⟩,
    ⟨some 141, some (139, true), .len (.tmp 140)⟩,
    ⟨some 142, some (139, true), .mv (.tmp 0)⟩,
    ⟨some 143, some (139, true), .call 17 [(.tmp 142)]⟩,
    ⟨some 144, some (139, true), .bin .eql (.tmp 141) (.tmp 143)⟩,
    ⟨some 145, none, .pick (.tmp 139) (.tmp 144) (.const (.bool false))⟩,
    ⟨some 146, none, .mv (.tmp 145)⟩,
    ⟨some 147, some (146, true), .call 10 []⟩,
    ⟨some 148, none, .pick (.tmp 146) (.tmp 147) (.const (.bool false))⟩,
    ⟨some 6, none, .mv (.tmp 148)⟩])
  .ret)))))))))))))⟩
theorem h4 : strF Tryd.prog [(4, [(0, 0), (0, 1), (0, 2), (0, 3), (0, 4), (0, 5), (0, 6), (2, 7), (1, 8), (0, 9), (0, 10), (0, 11), (0, 12), (0, 13)])] Tryd.f4 = some c4 := by kernel_rfl

/-- chirograph/chirographlaw02.DigestKnown -/
def c5 : Fun := ⟨77, [.inl 0],
  (.seq (.ops [⟨some 0, none, .mv (.const (.bool false))⟩])
  (.seq (.ops [⟨some 10, none, .call 12 [(.const (.int .i64 2)), (.const (.slice none 0 0))]⟩,
    ⟨some 9, none, .mv (.tmp 10)⟩,
    ⟨some 11, none, .ext (.tmp 9) 0⟩,
    ⟨some 12, none, .ext (.tmp 9) 1⟩,
    ⟨some 1, none, .mv (.tmp 11)⟩,
    ⟨some 2, none, .mv (.tmp 12)⟩])
  (.seq (.ops [⟨some 14, none, .bsl 5 1 3 #[(.int .u8 0)] [(0, (.const (.int .u8 97))), (1, (.const (.int .u8 98))), (2, (.const (.int .u8 99)))]⟩,
    ⟨some 15, none, .cvid (.tmp 14)⟩,
    ⟨some 16, none, .bsl 25 1 1 #[(.slice none 0 0)] [(0, (.tmp 15))]⟩,
    ⟨some 17, none, .call 12 [(.const (.int .i64 3)), (.tmp 16)]⟩,
    ⟨some 13, none, .mv (.tmp 17)⟩,
    ⟨some 18, none, .ext (.tmp 13) 0⟩,
    ⟨some 19, none, .ext (.tmp 13) 1⟩,
    ⟨some 3, none, .mv (.tmp 18)⟩,
    ⟨some 4, none, .mv (.tmp 19)⟩])
  (.seq (.ops [⟨some 21, none, .bsl 5 1 3 #[(.int .u8 0)] [(0, (.const (.int .u8 97))), (1, (.const (.int .u8 98))), (2, (.const (.int .u8 99)))]⟩,
    ⟨some 22, none, .cvid (.tmp 21)⟩,
    ⟨some 23, none, .bsl 25 1 1 #[(.slice none 0 0)] [(0, (.tmp 22))]⟩,
    ⟨some 24, none, .call 12 [(.const (.int .i64 4)), (.tmp 23)]⟩,
    ⟨some 20, none, .mv (.tmp 24)⟩,
    ⟨some 25, none, .ext (.tmp 20) 0⟩,
    ⟨some 26, none, .ext (.tmp 20) 1⟩,
    ⟨some 5, none, .mv (.tmp 25)⟩,
    ⟨some 6, none, .mv (.tmp 26)⟩])
  (.seq (.ops [⟨some 28, none, .bsl 5 1 56 #[(.int .u8 0)] [(0, (.const (.int .u8 97))), (1, (.const (.int .u8 98))), (2, (.const (.int .u8 99))), (3, (.const (.int .u8 100))), (4, (.const (.int .u8 98))), (5, (.const (.int .u8 99))), (6, (.const (.int .u8 100))), (7, (.const (.int .u8 101))), (8, (.const (.int .u8 99))), (9, (.const (.int .u8 100))), (10, (.const (.int .u8 101))), (11, (.const (.int .u8 102))), (12, (.const (.int .u8 100))), (13, (.const (.int .u8 101))), (14, (.const (.int .u8 102))), (15, (.const (.int .u8 103))), (16, (.const (.int .u8 101))), (17, (.const (.int .u8 102))), (18, (.const (.int .u8 103))), (19, (.const (.int .u8 104))), (20, (.const (.int .u8 102))), (21, (.const (.int .u8 103))), (22, (.const (.int .u8 104))), (23, (.const (.int .u8 105))), (24, (.const (.int .u8 103))), (25, (.const (.int .u8 104))), (26, (.const (.int .u8 105))), (27, (.const (.int .u8 106))), (28, (.const (.int .u8 104))), (29, (.const (.int .u8 105))), (30, (.const (.int .u8 106))), (31, (.const (.int .u8 107))), (32, (.const (.int .u8 105))), (33, (.const (.int .u8 106))), (34, (.const (.int .u8 107))), (35, (.const (.int .u8 108))), (36, (.const (.int .u8 106))), (37, (.const (.int .u8 107))), (38, (.const (.int .u8 108))), (39, (.const (.int .u8 109))), (40, (.const (.int .u8 107))), (41, (.const (.int .u8 108))), (42, (.const (.int .u8 109))), (43, (.const (.int .u8 110))), (44, (.const (.int .u8 108))), (45, (.const (.int .u8 109))), (46, (.const (.int .u8 110))), (47, (.const (.int .u8 111))), (48, (.const (.int .u8 109))), (49, (.const (.int .u8 110))), (50, (.const (.int .u8 111))), (51, (.const (.int .u8 112))), (52, (.const (.int .u8 110))), (53, (.const (.int .u8 111))), (54, (.const (.int .u8 112))), (55, (.const (.int .u8 113)))]⟩,
    ⟨some 29, none, .cvid (.tmp 28)⟩,
    ⟨some 30, none, .bsl 25 1 1 #[(.slice none 0 0)] [(0, (.tmp 29))]⟩,
    ⟨some 31, none, .call 12 [(.const (.int .i64 2)), (.tmp 30)]⟩,
    ⟨some 27, none, .mv (.tmp 31)⟩,
    ⟨some 32, none, .ext (.tmp 27) 0⟩,
    ⟨some 33, none, .ext (.tmp 27) 1⟩,
    ⟨some 7, none, .mv (.tmp 32)⟩,
    ⟨some 8, none, .mv (.tmp 33)⟩])
  (.seq (.seq (.ops [⟨some 34, none, .mv (.tmp 1)⟩,
    ⟨some 35, none, .len (.tmp 34)⟩,
    ⟨some 36, none, .bin .neq (.tmp 35) (.const (.int .i64 32))⟩,
    ⟨some 37, none, .mv (.tmp 36)⟩,
    ⟨some 38, some (37, false), .mv (.tmp 3)⟩,
    ⟨some 39, some (37, false), .len (.tmp 38)⟩,
    ⟨some 40, some (37, false), .bin .neq (.tmp 39) (.const (.int .i64 48))⟩,
    ⟨some 41, none, .pick (.tmp 37) (.const (.bool true)) (.tmp 40)⟩,
    ⟨some 42, none, .mv (.tmp 41)⟩,
    ⟨some 43, some (42, false), .mv (.tmp 5)⟩,
    ⟨some 44, some (42, false), .len (.tmp 43)⟩,
    ⟨some 45, some (42, false), .bin .neq (.tmp 44) (.const (.int .i64 64))⟩,
    ⟨some 46, none, .pick (.tmp 42) (.const (.bool true)) (.tmp 45)⟩,
    ⟨some 47, none, .mv (.tmp 46)⟩,
    ⟨some 48, some (47, false), .mv (.tmp 7)⟩,
    ⟨some 49, some (47, false), .len (.tmp 48)⟩,
    ⟨some 50, some (47, false), .bin .neq (.tmp 49) (.const (.int .i64 32))⟩,
    ⟨some 51, none, .pick (.tmp 47) (.const (.bool true)) (.tmp 50)⟩])
  (.cond (.tmp 51)
    (.seq (.ops [⟨some 0, none, .mv (.const (.bool false))⟩])
    .ret)
    .skip))
  (.seq (.ops [⟨some 52, none, .mv (.tmp 1)⟩,
    ⟨some 53, none, .slc 1 (.tmp 52) none (some (.const (.int .i64 8))) none⟩,
    ⟨some 54, none, .cvbs (.tmp 53)⟩,
    ⟨some 55, none, .bin .eql (.tmp 54) (.const (.string ⟨#[227, 176, 196, 66, 152, 252, 28, 20]⟩))⟩,
    ⟨some 56, none, .mv (.tmp 55)⟩,
    ⟨some 57, some (56, true), .mv (.tmp 3)⟩,
    ⟨some 58, some (56, true), .slc 1 (.tmp 57) none (some (.const (.int .i64 8))) none⟩,
    ⟨some 59, some (56, true), .cvbs (.tmp 58)⟩,
    ⟨some 60, some (56, true), .bin .eql (.tmp 59) (.const (.string ⟨#[203, 0, 117, 63, 69, 163, 94, 139]⟩))⟩,
    ⟨some 61, none, .pick (.tmp 56) (.tmp 60) (.const (.bool false))⟩,
    ⟨some 62, none, .mv (.tmp 61)⟩,
    ⟨some 63, some (62, true), .mv (.tmp 5)⟩,
    ⟨some 64, some (62, true), .slc 1 (.tmp 63) none (some (.const (.int .i64 8))) none⟩,
    ⟨some 65, some (62, true), .cvbs (.tmp 64)⟩,
    ⟨some 66, some (62, true), .bin .eql (.tmp 65) (.const (.string ⟨#[221, 175, 53, 161, 147, 97, 122, 186]⟩))⟩,
    ⟨some 67, none, .pick (.tmp 62) (.tmp 66) (.const (.bool false))⟩,
    ⟨some 68, none, .mv (.tmp 67)⟩,
    ⟨some 69, some (68, true), .mv (.tmp 7)⟩,
    ⟨some 70, some (68, true), .slc 1 (.tmp 69) none (some (.const (.int .i64 8))) none⟩,
    ⟨some 71, some (68, true), .cvbs (.tmp 70)⟩,
    ⟨some 72, some (68, true), .bin .eql (.tmp 71) (.const (.string ⟨#[36, 141, 106, 97, 210, 6, 56, 184]⟩))⟩,
    ⟨some 73, none, .pick (.tmp 68) (.tmp 72) (.const (.bool false))⟩,
    ⟨some 74, none, .mv (.tmp 73)⟩,
    ⟨some 75, some (74, true), .call 10 []⟩,
    ⟨some 76, none, .pick (.tmp 74) (.tmp 75) (.const (.bool false))⟩,
    ⟨some 0, none, .mv (.tmp 76)⟩])
  .ret)))))))⟩
theorem h5 : strF Tryd.prog [] Tryd.f5 = some c5 := by kernel_rfl

/-- chirograph/chirographlaw02.DigestApart -/
def c6 : Fun := ⟨112, [.inl 8],
  (.seq (.ops [⟨some 8, none, .mv (.const (.bool false))⟩])
  (.seq (.seq (.ops [⟨some 17, none, .mv (.tmp 2)⟩,
    ⟨some 18, none, .len (.tmp 17)⟩,
    ⟨some 19, none, .bin .gtr (.tmp 18) (.const (.int .i64 65536))⟩,
    ⟨some 20, none, .mv (.tmp 19)⟩,
    ⟨some 21, some (20, false), .mv (.tmp 3)⟩,
    ⟨some 22, some (20, false), .len (.tmp 21)⟩,
    ⟨some 23, some (20, false), .bin .gtr (.tmp 22) (.const (.int .i64 65536))⟩,
    ⟨some 24, none, .pick (.tmp 20) (.const (.bool true)) (.tmp 23)⟩])
  (.cond (.tmp 24)
    (.seq (.ops [⟨some 25, none, .call 10 []⟩,
      ⟨some 8, none, .mv (.tmp 25)⟩])
    .ret)
    .skip))
  (.seq (.ops [⟨some 27, none, .mv (.tmp 0)⟩,
    ⟨some 28, none, .call 21 [(.tmp 27)]⟩,
    ⟨some 26, none, .mv (.tmp 28)⟩,
    ⟨some 29, none, .ext (.tmp 26) 0⟩,
    ⟨some 30, none, .ext (.tmp 26) 1⟩,
    ⟨some 9, none, .mv (.tmp 29)⟩,
    ⟨some 10, none, .mv (.tmp 30)⟩])
  (.seq (.ops [⟨some 32, none, .mv (.tmp 1)⟩,
    ⟨some 33, none, .call 21 [(.tmp 32)]⟩,
    ⟨some 31, none, .mv (.tmp 33)⟩,
    ⟨some 34, none, .ext (.tmp 31) 0⟩,
    ⟨some 35, none, .ext (.tmp 31) 1⟩,
    ⟨some 11, none, .mv (.tmp 34)⟩,
    ⟨some 12, none, .mv (.tmp 35)⟩])
  (.seq (.seq (.ops [⟨some 36, none, .mv (.tmp 10)⟩,
    ⟨some 37, none, .call 16 [(.tmp 36)]⟩,
    ⟨some 38, none, .bin .neq (.tmp 37) (.const (.int .i64 0))⟩,
    ⟨some 39, none, .mv (.tmp 38)⟩,
    ⟨some 40, some (39, false), .mv (.tmp 12)⟩,
    ⟨some 41, some (39, false), .call 16 [(.tmp 40)]⟩,
    ⟨some 42, some (39, false), .bin .neq (.tmp 41) (.const (.int .i64 0))⟩,
    ⟨some 43, none, .pick (.tmp 39) (.const (.bool true)) (.tmp 42)⟩])
  (.cond (.tmp 43)
    (.seq (.ops [⟨some 44, none, .mv (.tmp 9)⟩,
      ⟨some 45, none, .eq .pointer false (.tmp 44) (.const (.pointer none))⟩,
      ⟨some 46, none, .mv (.tmp 10)⟩,
      ⟨some 47, none, .call 16 [(.tmp 46)]⟩,
      ⟨some 48, none, .bin .neq (.tmp 47) (.const (.int .i64 0))⟩,
      ⟨some 49, none, .eq .bool false (.tmp 45) (.tmp 48)⟩,
      ⟨some 50, none, .mv (.tmp 49)⟩,
      ⟨some 51, some (50, true), .mv (.tmp 11)⟩,
      ⟨some 52, some (50, true), .eq .pointer false (.tmp 51) (.const (.pointer none))⟩,
      ⟨some 53, some (50, true), .mv (.tmp 12)⟩,
      ⟨some 54, some (50, true), .call 16 [(.tmp 53)]⟩,
      ⟨some 55, some (50, true), .bin .neq (.tmp 54) (.const (.int .i64 0))⟩,
      ⟨some 56, some (50, true), .eq .bool false (.tmp 52) (.tmp 55)⟩,
      ⟨some 57, none, .pick (.tmp 50) (.tmp 56) (.const (.bool false))⟩,
      ⟨some 58, none, .mv (.tmp 57)⟩,
      ⟨some 59, some (58, true), .call 10 []⟩,
      ⟨some 60, none, .pick (.tmp 58) (.tmp 59) (.const (.bool false))⟩,
      ⟨some 8, none, .mv (.tmp 60)⟩])
    .ret)
    .skip))
  (.seq (.ops [⟨some 61, none, .mv (.tmp 9)⟩,
    ⟨some 62, none, .mv (.tmp 2)⟩,
    ⟨some 63, none, .call 22 [(.tmp 61), (.tmp 62)]⟩])
  (.seq (.ops [⟨some 64, none, .mv (.tmp 11)⟩,
    ⟨some 65, none, .mv (.tmp 3)⟩,
    ⟨some 66, none, .call 22 [(.tmp 64), (.tmp 65)]⟩])
  (.seq (.ops [⟨some 67, none, .mv (.tmp 9)⟩,
    ⟨some 68, none, .mv (.tmp 3)⟩,
    ⟨some 69, none, .call 22 [(.tmp 67), (.tmp 68)]⟩])
  (.seq (.ops [⟨some 70, none, .mv (.tmp 11)⟩,
    ⟨some 71, none, .mv (.tmp 2)⟩,
    ⟨some 72, none, .call 22 [(.tmp 70), (.tmp 71)]⟩])
  (.seq (.ops [⟨some 74, none, .mv (.tmp 0)⟩,
    ⟨some 75, none, .mv (.tmp 2)⟩,
    ⟨some 76, none, .mv (.tmp 3)⟩,
    ⟨some 77, none, .bsl 25 1 2 #[(.slice none 0 0)] [(0, (.tmp 75)), (1, (.tmp 76))]⟩,
    ⟨some 78, none, .call 12 [(.tmp 74), (.tmp 77)]⟩,
    ⟨some 73, none, .mv (.tmp 78)⟩,
    ⟨some 79, none, .ext (.tmp 73) 0⟩,
    ⟨some 80, none, .ext (.tmp 73) 1⟩,
    ⟨some 13, none, .mv (.tmp 79)⟩,
    ⟨some 14, none, .mv (.tmp 80)⟩])
  (.seq (.ops [⟨some 82, none, .mv (.tmp 1)⟩,
    ⟨some 83, none, .mv (.tmp 3)⟩,
    ⟨some 84, none, .mv (.tmp 2)⟩,
    ⟨some 85, none, .bsl 25 1 2 #[(.slice none 0 0)] [(0, (.tmp 83)), (1, (.tmp 84))]⟩,
    ⟨some 86, none, .call 12 [(.tmp 82), (.tmp 85)]⟩,
    ⟨some 81, none, .mv (.tmp 86)⟩,
    ⟨some 87, none, .ext (.tmp 81) 0⟩,
    ⟨some 88, none, .ext (.tmp 81) 1⟩,
    ⟨some 15, none, .mv (.tmp 87)⟩,
    ⟨some 16, none, .mv (.tmp 88)⟩])
  (.seq (.ops [⟨some 89, none, .mv (.tmp 9)⟩,
    ⟨some 90, none, .call 23 [(.tmp 89)]⟩,
    ⟨some 91, none, .mv (.tmp 13)⟩,
    ⟨some 92, none, .call 15 [(.tmp 90), (.tmp 91)]⟩,
    ⟨some 93, none, .mv (.tmp 92)⟩,
    ⟨some 94, some (93, true), .mv (.tmp 11)⟩,
    ⟨some 95, some (93, true), .call 23 [(.tmp 94)]⟩,
    ⟨some 96, some (93, true), .mv (.tmp 15)⟩,
    ⟨some 97, some (93, true), .call 15 [(.tmp 95), (.tmp 96)]⟩,
    ⟨some 98, none, .pick (.tmp 93) (.tmp 97) (.const (.bool false))⟩,
    ⟨some 99, none, .mv (.tmp 98)⟩,
    ⟨some 100, some (99, true), .mv (.tmp 9)⟩,
    ⟨some 101, some (99, true), .call 24 [(.tmp 100)]⟩,
    ⟨some 102, some (99, true), .mv (.tmp 2)⟩,
    ⟨some 103, some (99, true), .len (.tmp 102)⟩,
    ⟨some 104, some (99, true), .mv (.tmp 3)⟩,
    ⟨some 105, some (99, true), .len (.tmp 104)⟩,
    ⟨some 106, some (99, true), .bin .add (.tmp 103) (.tmp 105)⟩,
    ⟨some 107, some (99, true), .bin .eql (.tmp 101) (.tmp 106)⟩,
    ⟨some 108, none, .pick (.tmp 99) (.tmp 107) (.const (.bool false))⟩,
    ⟨some 109, none, .mv (.tmp 108)⟩,
    ⟨some 110, some (109, true), .call 10 []⟩,
    ⟨some 111, none, .pick (.tmp 109) (.tmp 110) (.const (.bool false))⟩,
    ⟨some 8, none, .mv (.tmp 111)⟩])
  .ret))))))))))))⟩
theorem h6 : strF Tryd.prog [] Tryd.f6 = some c6 := by kernel_rfl

/-- chirograph/chirographlaw02.DigestStreams -/
def c7 : Fun := ⟨107, [.inl 4],
  (.seq (.ops [⟨some 4, none, .mv (.const (.bool false))⟩])
  (.seq (.seq (.ops [⟨some 11, none, .mv (.tmp 1)⟩,
    ⟨some 12, none, .call 9 [(.tmp 11), (.const (.int .i64 4000))]⟩,
    ⟨some 13, none, .mv (.tmp 12)⟩,
    ⟨some 14, some (13, false), .mv (.tmp 1)⟩,
    ⟨some 15, some (13, false), .len (.tmp 14)⟩,
    ⟨some 16, some (13, false), .bin .gtr (.tmp 15) (.const (.int .i64 60))⟩,
    ⟨some 17, none, .pick (.tmp 13) (.const (.bool true)) (.tmp 16)⟩])
  (.cond (.tmp 17)
    (.seq (.ops [⟨some 18, none, .call 10 []⟩,
      ⟨some 4, none, .mv (.tmp 18)⟩])
    .ret)
    .skip))
  (.seq (.ops [⟨some 20, none, .mv (.tmp 0)⟩,
    ⟨some 21, none, .call 21 [(.tmp 20)]⟩,
    ⟨some 19, none, .mv (.tmp 21)⟩,
    ⟨some 22, none, .ext (.tmp 19) 0⟩,
    ⟨some 23, none, .ext (.tmp 19) 1⟩,
    ⟨some 5, none, .mv (.tmp 22)⟩,
    ⟨some 6, none, .mv (.tmp 23)⟩])
  (.seq (.seq (.ops [⟨some 24, none, .mv (.tmp 0)⟩,
    ⟨some 25, none, .call 18 [(.tmp 24)]⟩,
    ⟨some 26, none, .bin .eql (.tmp 25) (.const (.int .i64 0))⟩])
  (.cond (.tmp 26)
    (.seq (.ops [⟨some 27, none, .mv (.tmp 5)⟩,
      ⟨some 28, none, .eq .pointer false (.tmp 27) (.const (.pointer none))⟩,
      ⟨some 29, none, .mv (.tmp 28)⟩,
      ⟨some 30, some (29, true), .mv (.tmp 6)⟩,
      ⟨some 31, some (29, true), .call 16 [(.tmp 30)]⟩,
      ⟨some 32, some (29, true), .bin .eql (.tmp 31) (.const (.int .i64 1))⟩,
      ⟨some 33, none, .pick (.tmp 29) (.tmp 32) (.const (.bool false))⟩,
      ⟨some 34, none, .mv (.tmp 33)⟩,
      ⟨some 35, some (34, true), .call 10 []⟩,
      ⟨some 36, none, .pick (.tmp 34) (.tmp 35) (.const (.bool false))⟩,
      ⟨some 4, none, .mv (.tmp 36)⟩])
    .ret)
    .skip))
  (.seq (.seq (.ops [⟨some 37, none, .mv (.tmp 5)⟩,
    ⟨some 38, none, .eq .pointer false (.tmp 37) (.const (.pointer none))⟩,
    ⟨some 39, none, .mv (.tmp 38)⟩,
    ⟨some 40, some (39, false), .mv (.tmp 6)⟩,
    ⟨some 41, some (39, false), .call 16 [(.tmp 40)]⟩,
    ⟨some 42, some (39, false), .bin .neq (.tmp 41) (.const (.int .i64 0))⟩,
    ⟨some 43, none, .pick (.tmp 39) (.const (.bool true)) (.tmp 42)⟩])
  (.cond (.tmp 43)
    (.seq (.ops [⟨some 4, none, .mv (.const (.bool false))⟩])
    .ret)
    .skip))
  (.seq (.ops [⟨some 7, none, .mv (.const (.slice none 0 0))⟩])
  (.seq (.seq (.ops [⟨some 8, none, .mv (.const (.int .i64 0))⟩])
  (.block 0
    (.loop
      (.seq (.seq (.ops [⟨some 44, none, .mv (.tmp 8)⟩,
        ⟨some 45, none, .mv (.tmp 1)⟩,
        ⟨some 46, none, .len (.tmp 45)⟩,
        ⟨some 47, none, .bin .lss (.tmp 44) (.tmp 46)⟩])
      (.cond (.tmp 47)
        .skip
        (.exit 0)))
      (.seq (.block 1
        (.seq (.ops [⟨some 50, none, .mv (.tmp 1)⟩,
          ⟨some 51, none, .mv (.tmp 8)⟩,
          ⟨some 52, none, .ia 1 (.tmp 50) (.tmp 51)⟩,
          ⟨some 53, none, .ld .slice (.tmp 52)⟩,
          ⟨some 54, none, .call 11 [(.tmp 53)]⟩,
          ⟨some 9, none, .mv (.tmp 54)⟩])
        (.seq (.ops [⟨some 55, none, .mv (.tmp 5)⟩,
          ⟨some 56, none, .mv (.tmp 9)⟩,
          ⟨some 57, none, .call 22 [(.tmp 55), (.tmp 56)]⟩,
          ⟨some 10, none, .mv (.tmp 57)⟩])
        (.seq (.seq (.ops [⟨some 58, none, .mv (.tmp 10)⟩,
          ⟨some 59, none, .call 16 [(.tmp 58)]⟩,
          ⟨some 60, none, .bin .neq (.tmp 59) (.const (.int .i64 0))⟩,
          ⟨some 61, none, .mv (.tmp 60)⟩,
          ⟨some 62, some (61, false), .mv (.tmp 9)⟩,
          ⟨some 63, some (61, false), .mv (.tmp 1)⟩,
          ⟨some 64, some (61, false), .mv (.tmp 8)⟩,
          ⟨some 65, some (61, false), .ia 1 (.tmp 63) (.tmp 64)⟩,
          ⟨some 66, some (61, false), .ld .slice (.tmp 65)⟩,
          ⟨some 67, some (61, false), .call 14 [(.tmp 62), (.tmp 66)]⟩,
          ⟨some 68, some (61, false), .un .not (.tmp 67)⟩,
          ⟨some 69, none, .pick (.tmp 61) (.const (.bool true)) (.tmp 68)⟩])
        (.cond (.tmp 69)
          (.seq (.ops [⟨some 4, none, .mv (.const (.bool false))⟩])
          .ret)
          .skip))
        (.seq (.ops [⟨some 70, none, .mv (.tmp 9)⟩,
          ⟨some 71, none, .call 25 [(.tmp 70)]⟩])
        (.seq (.ops [⟨some 72, none, .mv (.tmp 7)⟩,
          ⟨some 73, none, .mv (.tmp 1)⟩,
          ⟨some 74, none, .mv (.tmp 8)⟩,
          ⟨some 75, none, .ia 1 (.tmp 73) (.tmp 74)⟩,
          ⟨some 76, none, .ld .slice (.tmp 75)⟩,
          ⟨some 77, none, .app 5 1 1 #[(.int .u8 0)] (.tmp 72) (.tmp 76)⟩,
          ⟨some 7, none, .mv (.tmp 77)⟩])
        (.seq (.ops [⟨some 78, none, .mv (.tmp 5)⟩,
          ⟨some 79, none, .call 23 [(.tmp 78)]⟩,
          ⟨some 80, none, .mv (.tmp 0)⟩,
          ⟨some 81, none, .mv (.tmp 7)⟩,
          ⟨some 82, none, .call 26 [(.tmp 80), (.tmp 81)]⟩,
          ⟨some 83, none, .call 15 [(.tmp 79), (.tmp 82)]⟩,
          ⟨some 84, none, .un .not (.tmp 83)⟩,
          ⟨some 85, none, .mv (.tmp 84)⟩,
          ⟨some 86, some (85, false), .mv (.tmp 5)⟩,
          ⟨some 87, some (85, false), .call 24 [(.tmp 86)]⟩,
          ⟨some 88, some (85, false), .mv (.tmp 7)⟩,
          ⟨some 89, some (85, false), .len (.tmp 88)⟩,
          ⟨some 90, some (85, false), .bin .neq (.tmp 87) (.tmp 89)⟩,
          ⟨some 91, none, .pick (.tmp 85) (.const (.bool true)) (.tmp 90)⟩,
          ⟨some 92, none, .mv (.tmp 91)⟩,
          ⟨some 93, some (92, false), .mv (.tmp 5)⟩,
          ⟨some 94, some (92, false), .call 27 [(.tmp 93)]⟩,
          ⟨some 95, some (92, false), .mv (.tmp 0)⟩,
          ⟨some 96, some (92, false), .bin .neq (.tmp 94) (.tmp 95)⟩,
          ⟨some 97, none, .pick (.tmp 92) (.const (.bool true)) (.tmp 96)⟩])
        (.cond (.tmp 97)
          (.seq (.ops [⟨some 4, none, .mv (.const (.bool false))⟩])
          .ret)
          .skip))))))))
      (.ops [⟨some 48, none, .mv (.tmp 8)⟩,
        ⟨some 49, none, .bin .add (.tmp 48) (.const (.int .i64 1))⟩,
        ⟨some 8, none, .mv (.tmp 49)⟩]))))))
  (.seq (.ops [⟨some 98, none, .mv (.tmp 5)⟩,
    ⟨some 99, none, .call 23 [(.tmp 98)]⟩,
    ⟨some 100, none, .mv (.tmp 0)⟩,
    ⟨some 101, none, .mv (.tmp 7)⟩,
    ⟨some 102, none, .call 26 [(.tmp 100), (.tmp 101)]⟩,
    ⟨some 103, none, .call 15 [(.tmp 99), (.tmp 102)]⟩,
    ⟨some 104, none, .mv (.tmp 103)⟩,
    ⟨some 105, some (104, true), .call 10 []⟩,
    ⟨some 106, none, .pick (.tmp 104) (.tmp 105) (.const (.bool false))⟩,
    ⟨some 4, none, .mv (.tmp 106)⟩])
  .ret))))))))⟩
theorem h7 : strF Tryd.prog [] Tryd.f7 = some c7 := by kernel_rfl

/-- chirograph/chirographlaw02.DigestOwn -/
def c8 : Fun := ⟨82, [.inl 4],
  (.seq (.ops [⟨some 4, none, .mv (.const (.bool false))⟩])
  (.seq (.seq (.ops [⟨some 12, none, .mv (.tmp 1)⟩,
    ⟨some 13, none, .len (.tmp 12)⟩,
    ⟨some 14, none, .bin .gtr (.tmp 13) (.const (.int .i64 65536))⟩])
  (.cond (.tmp 14)
    (.seq (.ops [⟨some 15, none, .call 10 []⟩,
      ⟨some 4, none, .mv (.tmp 15)⟩])
    .ret)
    .skip))
  (.seq (.ops [⟨some 5, none, .mv (.const (.pointer none))⟩])
  (.seq (.seq (.ops [⟨some 16, none, .mv (.tmp 5)⟩,
    ⟨some 17, none, .mv (.tmp 1)⟩,
    ⟨some 18, none, .call 22 [(.tmp 16), (.tmp 17)]⟩,
    ⟨some 19, none, .call 16 [(.tmp 18)]⟩,
    ⟨some 20, none, .bin .neq (.tmp 19) (.const (.int .i64 7))⟩,
    ⟨some 21, none, .mv (.tmp 20)⟩,
    ⟨some 22, some (21, false), .mv (.tmp 5)⟩,
    ⟨some 23, some (21, false), .call 23 [(.tmp 22)]⟩,
    ⟨some 24, some (21, false), .len (.tmp 23)⟩,
    ⟨some 25, some (21, false), .bin .neq (.tmp 24) (.const (.int .i64 0))⟩,
    ⟨some 26, none, .pick (.tmp 21) (.const (.bool true)) (.tmp 25)⟩,
    ⟨some 27, none, .mv (.tmp 26)⟩,
    ⟨some 28, some (27, false), .mv (.tmp 5)⟩,
    ⟨some 29, some (27, false), .call 24 [(.tmp 28)]⟩,
    ⟨some 30, some (27, false), .bin .neq (.tmp 29) (.const (.int .i64 0))⟩,
    ⟨some 31, none, .pick (.tmp 27) (.const (.bool true)) (.tmp 30)⟩,
    ⟨some 32, none, .mv (.tmp 31)⟩,
    ⟨some 33, some (32, false), .mv (.tmp 5)⟩,
    ⟨some 34, some (32, false), .call 27 [(.tmp 33)]⟩,
    ⟨some 35, some (32, false), .bin .neq (.tmp 34) (.const (.int .i64 0))⟩,
    ⟨some 36, none, .pick (.tmp 32) (.const (.bool true)) (.tmp 35)⟩])
  (.cond (.tmp 36)
    (.seq (.ops [⟨some 4, none, .mv (.const (.bool false))⟩])
    .ret)
    .skip))
  (.seq (.ops [⟨some 38, none, .mv (.tmp 0)⟩,
    ⟨some 39, none, .call 21 [(.tmp 38)]⟩,
    ⟨some 37, none, .mv (.tmp 39)⟩,
    ⟨some 40, none, .ext (.tmp 37) 0⟩,
    ⟨some 41, none, .ext (.tmp 37) 1⟩,
    ⟨some 6, none, .mv (.tmp 40)⟩,
    ⟨some 7, none, .mv (.tmp 41)⟩])
  (.seq (.seq (.ops [⟨some 42, none, .mv (.tmp 7)⟩,
    ⟨some 43, none, .call 16 [(.tmp 42)]⟩,
    ⟨some 44, none, .bin .neq (.tmp 43) (.const (.int .i64 0))⟩])
  (.cond (.tmp 44)
    (.seq (.ops [⟨some 45, none, .mv (.tmp 6)⟩,
      ⟨some 46, none, .eq .pointer false (.tmp 45) (.const (.pointer none))⟩,
      ⟨some 47, none, .mv (.tmp 46)⟩,
      ⟨some 48, some (47, true), .call 10 []⟩,
      ⟨some 49, none, .pick (.tmp 47) (.tmp 48) (.const (.bool false))⟩,
      ⟨some 4, none, .mv (.tmp 49)⟩])
    .ret)
    .skip))
  (.seq (.ops [⟨some 50, none, .mv (.tmp 6)⟩,
    ⟨some 51, none, .mv (.tmp 1)⟩,
    ⟨some 52, none, .call 22 [(.tmp 50), (.tmp 51)]⟩])
  (.seq (.ops [⟨some 53, none, .mv (.tmp 6)⟩,
    ⟨some 54, none, .call 23 [(.tmp 53)]⟩,
    ⟨some 8, none, .mv (.tmp 54)⟩])
  (.seq (.ops [⟨some 55, none, .mv (.tmp 6)⟩,
    ⟨some 56, none, .call 23 [(.tmp 55)]⟩,
    ⟨some 9, none, .mv (.tmp 56)⟩])
  (.seq (.ops [⟨some 57, none, .mv (.tmp 8)⟩,
    ⟨some 58, none, .bsl 5 1 3 #[(.int .u8 0)] [(0, (.const (.int .u8 1))), (1, (.const (.int .u8 2))), (2, (.const (.int .u8 3)))]⟩,
    ⟨some 59, none, .app 5 1 1 #[(.int .u8 0)] (.tmp 57) (.tmp 58)⟩,
    ⟨some 60, none, .call 25 [(.tmp 59)]⟩])
  (.seq (.ops [⟨some 61, none, .mv (.tmp 8)⟩,
    ⟨some 62, none, .call 25 [(.tmp 61)]⟩])
  (.seq (.ops [⟨some 64, none, .mv (.tmp 0)⟩,
    ⟨some 65, none, .mv (.tmp 1)⟩,
    ⟨some 66, none, .bsl 25 1 1 #[(.slice none 0 0)] [(0, (.tmp 65))]⟩,
    ⟨some 67, none, .call 12 [(.tmp 64), (.tmp 66)]⟩,
    ⟨some 63, none, .mv (.tmp 67)⟩,
    ⟨some 68, none, .ext (.tmp 63) 0⟩,
    ⟨some 69, none, .ext (.tmp 63) 1⟩,
    ⟨some 10, none, .mv (.tmp 68)⟩,
    ⟨some 11, none, .mv (.tmp 69)⟩])
  (.seq (.ops [⟨some 70, none, .mv (.tmp 9)⟩,
    ⟨some 71, none, .mv (.tmp 10)⟩,
    ⟨some 72, none, .call 15 [(.tmp 70), (.tmp 71)]⟩,
    ⟨some 73, none, .mv (.tmp 72)⟩,
    ⟨some 74, some (73, true), .mv (.tmp 6)⟩,
    ⟨some 75, some (73, true), .call 23 [(.tmp 74)]⟩,
    ⟨some 76, some (73, true), .mv (.tmp 10)⟩,
    ⟨some 77, some (73, true), .call 15 [(.tmp 75), (.tmp 76)]⟩,
    ⟨some 78, none, .pick (.tmp 73) (.tmp 77) (.const (.bool false))⟩,
    ⟨some 79, none, .mv (.tmp 78)⟩,
    ⟨some 80, some (79, true), .call 10 []⟩,
    ⟨some 81, none, .pick (.tmp 79) (.tmp 80) (.const (.bool false))⟩,
    ⟨some 4, none, .mv (.tmp 81)⟩])
  .ret)))))))))))))⟩
theorem h8 : strF Tryd.prog [] Tryd.f8 = some c8 := by kernel_rfl

/-- chirograph/chirographlaw02.much -/
def c9 : Fun := ⟨33, [.inl 4],
  (.seq (.ops [⟨some 4, none, .mv (.const (.bool false))⟩])
  (.seq (.ops [⟨some 5, none, .mv (.const (.int .i64 0))⟩])
  (.seq (.seq (.ops [⟨some 6, none, .mv (.const (.int .i64 0))⟩])
  (.block 0
    (.loop
      (.seq (.seq (.ops [⟨some 7, none, .mv (.tmp 6)⟩,
        ⟨some 8, none, .mv (.tmp 0)⟩,
        ⟨some 9, none, .len (.tmp 8)⟩,
        ⟨some 10, none, .bin .lss (.tmp 7) (.tmp 9)⟩])
      (.cond (.tmp 10)
        .skip
        (.exit 0)))
      (.seq (.block 1
        (.seq (.seq (.ops [⟨some 13, none, .mv (.tmp 0)⟩,
          ⟨some 14, none, .mv (.tmp 6)⟩,
          ⟨some 15, none, .ia 1 (.tmp 13) (.tmp 14)⟩,
          ⟨some 16, none, .ld .slice (.tmp 15)⟩,
          ⟨some 17, none, .len (.tmp 16)⟩,
          ⟨some 18, none, .mv (.tmp 1)⟩,
          ⟨some 19, none, .mv (.tmp 5)⟩,
          ⟨some 20, none, .bin .sub (.tmp 18) (.tmp 19)⟩,
          ⟨some 21, none, .bin .gtr (.tmp 17) (.tmp 20)⟩,
          ⟨some 22, none, .mv (.tmp 21)⟩,
          ⟨some 23, some (22, false), .mv (.tmp 6)⟩,
          ⟨some 24, some (22, false), .bin .geq (.tmp 23) (.const (.int .i64 1000))⟩,
          ⟨some 25, none, .pick (.tmp 22) (.const (.bool true)) (.tmp 24)⟩])
        (.cond (.tmp 25)
          (.seq (.ops [⟨some 4, none, .mv (.const (.bool true))⟩])
          .ret)
          .skip))
        (.ops [⟨some 26, none, .mv (.tmp 5)⟩,
          ⟨some 27, none, .mv (.tmp 0)⟩,
          ⟨some 28, none, .mv (.tmp 6)⟩,
          ⟨some 29, none, .ia 1 (.tmp 27) (.tmp 28)⟩,
          ⟨some 30, none, .ld .slice (.tmp 29)⟩,
          ⟨some 31, none, .len (.tmp 30)⟩,
          ⟨some 32, none, .bin .add (.tmp 26) (.tmp 31)⟩,
          ⟨some 5, none, .mv (.tmp 32)⟩])))
      (.ops [⟨some 11, none, .mv (.tmp 6)⟩,
        ⟨some 12, none, .bin .add (.tmp 11) (.const (.int .i64 1))⟩,
        ⟨some 6, none, .mv (.tmp 12)⟩]))))))
  (.seq (.ops [⟨some 4, none, .mv (.const (.bool false))⟩])
  .ret))))⟩
theorem h9 : strF Tryd.prog [] Tryd.f9 = some c9 := by kernel_rfl

/-- chirograph/chirographlaw02.live -/
def c10 : Fun := ⟨22, [.inl 0],
  (.seq (.ops [⟨some 0, none, .mv (.const (.bool false))⟩])
  (.seq (.ops [⟨some 4, none, .bsl 5 1 3 #[(.int .u8 0)] [(0, (.const (.int .u8 97))), (1, (.const (.int .u8 98))), (2, (.const (.int .u8 99)))]⟩,
    ⟨some 5, none, .cvid (.tmp 4)⟩,
    ⟨some 6, none, .bsl 25 1 1 #[(.slice none 0 0)] [(0, (.tmp 5))]⟩,
    ⟨some 7, none, .call 12 [(.const (.int .i64 1)), (.tmp 6)]⟩,
    ⟨some 3, none, .mv (.tmp 7)⟩,
    ⟨some 8, none, .ext (.tmp 3) 0⟩,
    ⟨some 9, none, .ext (.tmp 3) 1⟩,
    ⟨some 1, none, .mv (.tmp 8)⟩,
    ⟨some 2, none, .mv (.tmp 9)⟩])
  (.seq (.ops [⟨some 10, none, .mv (.tmp 2)⟩,
    ⟨some 11, none, .call 16 [(.tmp 10)]⟩,
    ⟨some 12, none, .bin .eql (.tmp 11) (.const (.int .i64 0))⟩,
    ⟨some 13, none, .mv (.tmp 12)⟩,
    ⟨some 14, some (13, true), .mv (.tmp 1)⟩,
    ⟨some 15, some (13, true), .cvbs (.tmp 14)⟩,
    ⟨some 16, some (13, true), .bin .eql (.tmp 15) (.const (.string ⟨#[169, 153, 62, 54, 71, 6, 129, 106, 186, 62, 37, 113, 120, 80, 194, 108, 156, 208, 216, 157]⟩))⟩,
    ⟨some 17, none, .pick (.tmp 13) (.tmp 16) (.const (.bool false))⟩,
    ⟨some 18, none, .mv (.tmp 17)⟩,
    ⟨some 19, some (18, true), .call 17 [(.const (.int .i64 1))]⟩,
    ⟨some 20, some (18, true), .bin .eql (.tmp 19) (.const (.int .i64 20))⟩,
    ⟨some 21, none, .pick (.tmp 18) (.tmp 20) (.const (.bool false))⟩,
    ⟨some 0, none, .mv (.tmp 21)⟩])
  .ret)))⟩
theorem h10 : strF Tryd.prog [] Tryd.f10 = some c10 := by kernel_rfl

/-- chirograph/chirographref01.LentBytes -/
def c11 : Fun := ⟨13, [.inl 2],
  (.seq (.ops [⟨some 2, none, .mv (.const (.slice none 0 0))⟩])
  (.seq (.ops [⟨some 4, none, .bsl0 5⟩,
    ⟨some 5, none, .mv (.tmp 0)⟩,
    ⟨some 6, none, .app 5 1 1 #[(.int .u8 0)] (.tmp 4) (.tmp 5)⟩,
    ⟨some 7, none, .bsl 5 1 2 #[(.int .u8 0)] [(0, (.const (.int .u8 90))), (1, (.const (.int .u8 165)))]⟩,
    ⟨some 8, none, .app 5 1 1 #[(.int .u8 0)] (.tmp 6) (.tmp 7)⟩,
    ⟨some 3, none, .mv (.tmp 8)⟩])
  (.seq (.ops [⟨some 9, none, .mv (.tmp 3)⟩,
    ⟨some 10, none, .mv (.tmp 0)⟩,
    ⟨some 11, none, .len (.tmp 10)⟩,
    ⟨some 12, none, .slc 1 (.tmp 9) none (some (.tmp 11)) none⟩,
    ⟨some 2, none, .mv (.tmp 12)⟩])
  .ret)))⟩
theorem h11 : strF Tryd.prog [] Tryd.f11 = some c11 := by kernel_rfl

/-- chirograph/digest.Sum -/
def c12 : Fun := ⟨49, [.inl 4, .inl 5],
  (.seq (.ops [⟨some 4, none, .mv (.const (.slice none 0 0))⟩,
    ⟨some 5, none, .mv (.const (.int .i64 0))⟩])
  (.seq (.seq (.ops [⟨some 13, none, .mv (.tmp 0)⟩,
    ⟨some 14, none, .call 17 [(.tmp 13)]⟩,
    ⟨some 15, none, .bin .eql (.tmp 14) (.const (.int .i64 0))⟩])
  (.cond (.tmp 15)
    (.seq (.ops [⟨some 4, none, .mv (.const (.slice none 0 0))⟩,
      ⟨some 5, none, .mv (.const (.int .i64 1))⟩])
    .ret)
    .skip))
  (.seq (.ops [⟨some 6, none, .mv (.const (.int .i64 0))⟩])
  (.seq (.seq (.ops [⟨some 16, none, .mv (.tmp 1)⟩,
    ⟨some 17, none, .len (.tmp 16)⟩,
    ⟨some 18, none, .mv (.const (.int .i64 0))⟩])
  (.block 0
    (.loop
      (.seq (.ops [⟨some 19, none, .bin .lss (.tmp 18) (.tmp 17)⟩])
      (.seq (.cond (.tmp 19)
        .skip
        (.exit 0))
      (.seq (.block 1
        (.seq (.ops [⟨some 20, none, .ia 1 (.tmp 16) (.tmp 18)⟩,
          ⟨some 21, none, .ld .slice (.tmp 20)⟩,
          ⟨some 8, none, .mv (.tmp 21)⟩])
        (.seq (.seq (.ops [⟨some 22, none, .mv (.tmp 8)⟩,
          ⟨some 23, none, .len (.tmp 22)⟩,
          ⟨some 24, none, .mv (.tmp 6)⟩,
          ⟨some 25, none, .bin .sub (.const (.int .i64 16777216)) (.tmp 24)⟩,
          ⟨some 26, none, .bin .gtr (.tmp 23) (.tmp 25)⟩])
        (.cond (.tmp 26)
          (.seq (.ops [⟨some 4, none, .mv (.const (.slice none 0 0))⟩,
            ⟨some 5, none, .mv (.const (.int .i64 3))⟩])
          .ret)
          .skip))
        (.ops [⟨some 27, none, .mv (.tmp 6)⟩,
          ⟨some 28, none, .mv (.tmp 8)⟩,
          ⟨some 29, none, .len (.tmp 28)⟩,
          ⟨some 30, none, .bin .add (.tmp 27) (.tmp 29)⟩,
          ⟨some 6, none, .mv (.tmp 30)⟩]))))
      (.ops [⟨some 31, none, .bin .add (.tmp 18) (.const (.int .i64 1))⟩,
        ⟨some 18, none, .mv (.tmp 31)⟩])))))))
  (.seq (.ops [⟨some 33, none, .mv (.tmp 0)⟩,
    ⟨some 34, none, .call 21 [(.tmp 33)]⟩,
    ⟨some 32, none, .mv (.tmp 34)⟩,
    ⟨some 35, none, .ext (.tmp 32) 0⟩,
    ⟨some 36, none, .ext (.tmp 32) 1⟩,
    ⟨some 9, none, .mv (.tmp 35)⟩,
    ⟨some 10, none, .mv (.tmp 36)⟩])
  (.seq (.seq (.ops [⟨some 37, none, .mv (.tmp 1)⟩,
    ⟨some 38, none, .len (.tmp 37)⟩,
    ⟨some 39, none, .mv (.const (.int .i64 0))⟩])
  (.block 2
    (.loop
      (.seq (.ops [⟨some 40, none, .bin .lss (.tmp 39) (.tmp 38)⟩])
      (.seq (.cond (.tmp 40)
        .skip
        (.exit 2))
      (.seq (.block 3
        (.seq (.ops [⟨some 41, none, .ia 1 (.tmp 37) (.tmp 39)⟩,
          ⟨some 42, none, .ld .slice (.tmp 41)⟩,
          ⟨some 12, none, .mv (.tmp 42)⟩])
        (.ops [⟨some 43, none, .mv (.tmp 9)⟩,
          ⟨some 44, none, .mv (.tmp 12)⟩,
          ⟨some 45, none, .call 22 [(.tmp 43), (.tmp 44)]⟩])))
      (.ops [⟨some 46, none, .bin .add (.tmp 39) (.const (.int .i64 1))⟩,
        ⟨some 39, none, .mv (.tmp 46)⟩])))))))
  (.seq (.ops [⟨some 47, none, .mv (.tmp 9)⟩,
    ⟨some 48, none, .call 23 [(.tmp 47)]⟩,
    ⟨some 4, none, .mv (.tmp 48)⟩,
    ⟨some 5, none, .mv (.const (.int .i64 0))⟩])
  .ret)))))))⟩
theorem h12 : strF Tryd.prog [] Tryd.f12 = some c12 := by kernel_rfl

/-- chirograph/chirographref02.Sum -/
def c13 : Fun := ⟨35, [.inl 4, .inl 5],
  (.seq (.ops [⟨some 4, none, .mv (.const (.slice none 0 0))⟩,
    ⟨some 5, none, .mv (.const (.int .i64 0))⟩])
  (.seq (.seq (.ops [⟨some 8, none, .mv (.tmp 0)⟩,
    ⟨some 9, none, .call 18 [(.tmp 8)]⟩,
    ⟨some 10, none, .bin .eql (.tmp 9) (.const (.int .i64 0))⟩])
  (.cond (.tmp 10)
    (.seq (.ops [⟨some 4, none, .mv (.const (.slice none 0 0))⟩,
      ⟨some 5, none, .mv (.const (.int .i64 1))⟩])
    .ret)
    .skip))
  (.seq (.ops [⟨some 6, none, .mv (.const (.slice none 0 0))⟩])
  (.seq (.seq (.ops [⟨some 7, none, .mv (.const (.int .i64 0))⟩])
  (.block 0
    (.loop
      (.seq (.seq (.ops [⟨some 11, none, .mv (.tmp 7)⟩,
        ⟨some 12, none, .mv (.tmp 1)⟩,
        ⟨some 13, none, .len (.tmp 12)⟩,
        ⟨some 14, none, .bin .lss (.tmp 11) (.tmp 13)⟩])
      (.cond (.tmp 14)
        .skip
        (.exit 0)))
      (.seq (.block 1
        (.seq (.seq (.ops [⟨some 17, none, .mv (.tmp 1)⟩,
          ⟨some 18, none, .mv (.tmp 7)⟩,
          ⟨some 19, none, .ia 1 (.tmp 17) (.tmp 18)⟩,
          ⟨some 20, none, .ld .slice (.tmp 19)⟩,
          ⟨some 21, none, .len (.tmp 20)⟩,
          ⟨some 22, none, .mv (.tmp 6)⟩,
          ⟨some 23, none, .len (.tmp 22)⟩,
          ⟨some 24, none, .bin .sub (.const (.int .i64 16777216)) (.tmp 23)⟩,
          ⟨some 25, none, .bin .gtr (.tmp 21) (.tmp 24)⟩])
        (.cond (.tmp 25)
          (.seq (.ops [⟨some 4, none, .mv (.const (.slice none 0 0))⟩,
            ⟨some 5, none, .mv (.const (.int .i64 3))⟩])
          .ret)
          .skip))
        (.ops [⟨some 26, none, .mv (.tmp 6)⟩,
          ⟨some 27, none, .mv (.tmp 1)⟩,
          ⟨some 28, none, .mv (.tmp 7)⟩,
          ⟨some 29, none, .ia 1 (.tmp 27) (.tmp 28)⟩,
          ⟨some 30, none, .ld .slice (.tmp 29)⟩,
          ⟨some 31, none, .app 5 1 1 #[(.int .u8 0)] (.tmp 26) (.tmp 30)⟩,
          ⟨some 6, none, .mv (.tmp 31)⟩])))
      (.ops [⟨some 15, none, .mv (.tmp 7)⟩,
        ⟨some 16, none, .bin .add (.tmp 15) (.const (.int .i64 1))⟩,
        ⟨some 7, none, .mv (.tmp 16)⟩]))))))
  (.seq (.ops [⟨some 32, none, .mv (.tmp 0)⟩,
    ⟨some 33, none, .mv (.tmp 6)⟩,
    ⟨some 34, none, .call 26 [(.tmp 32), (.tmp 33)]⟩,
    ⟨some 4, none, .mv (.tmp 34)⟩,
    ⟨some 5, none, .mv (.const (.int .i64 0))⟩])
  .ret)))))⟩
theorem h13 : strF Tryd.prog [] Tryd.f13 = some c13 := by kernel_rfl

/-- chirograph/chirographref01.KeptBytes -/
def c14 : Fun := ⟨31, [.inl 4],
  (.seq (.ops [⟨some 4, none, .mv (.const (.bool false))⟩])
  (.seq (.ops [⟨some 6, none, .mv (.tmp 0)⟩,
    ⟨some 7, none, .mv (.tmp 0)⟩,
    ⟨some 8, none, .len (.tmp 7)⟩,
    ⟨some 9, none, .bin .add (.tmp 8) (.const (.int .i64 2))⟩,
    ⟨some 10, none, .slc 1 (.tmp 6) none (some (.tmp 9)) none⟩,
    ⟨some 5, none, .mv (.tmp 10)⟩])
  (.seq (.ops [⟨some 11, none, .mv (.tmp 0)⟩,
    ⟨some 12, none, .mv (.tmp 1)⟩,
    ⟨some 13, none, .call 15 [(.tmp 11), (.tmp 12)]⟩,
    ⟨some 14, none, .mv (.tmp 13)⟩,
    ⟨some 15, some (14, true), .mv (.tmp 5)⟩,
    ⟨some 16, some (14, true), .mv (.tmp 0)⟩,
    ⟨some 17, some (14, true), .len (.tmp 16)⟩,
    ⟨some 18, some (14, true), .ia 1 (.tmp 15) (.tmp 17)⟩,
    ⟨some 19, some (14, true), .ld (.int .u8) (.tmp 18)⟩,
    ⟨some 20, some (14, true), .bin .eql (.tmp 19) (.const (.int .u8 90))⟩,
    ⟨some 21, none, .pick (.tmp 14) (.tmp 20) (.const (.bool false))⟩,
    ⟨some 22, none, .mv (.tmp 21)⟩,
    ⟨some 23, some (22, true), .mv (.tmp 5)⟩,
    ⟨some 24, some (22, true), .mv (.tmp 0)⟩,
    ⟨some 25, some (22, true), .len (.tmp 24)⟩,
    ⟨some 26, some (22, true), .bin .add (.tmp 25) (.const (.int .i64 1))⟩,
    ⟨some 27, some (22, true), .ia 1 (.tmp 23) (.tmp 26)⟩,
    ⟨some 28, some (22, true), .ld (.int .u8) (.tmp 27)⟩,
    ⟨some 29, some (22, true), .bin .eql (.tmp 28) (.const (.int .u8 165))⟩,
    ⟨some 30, none, .pick (.tmp 22) (.tmp 29) (.const (.bool false))⟩,
    ⟨some 4, none, .mv (.tmp 30)⟩])
  .ret)))⟩
theorem h14 : strF Tryd.prog [] Tryd.f14 = some c14 := by kernel_rfl

/-- chirograph/chirographref01.SameBytes -/
def c15 : Fun := ⟨26, [.inl 4],
  (.seq (.ops [⟨some 4, none, .mv (.const (.bool false))⟩])
  (.seq (.seq (.ops [⟨some 6, none, .mv (.tmp 0)⟩,
    ⟨some 7, none, .len (.tmp 6)⟩,
    ⟨some 8, none, .mv (.tmp 1)⟩,
    ⟨some 9, none, .len (.tmp 8)⟩,
    ⟨some 10, none, .bin .neq (.tmp 7) (.tmp 9)⟩])
  (.cond (.tmp 10)
    (.seq (.ops [⟨some 4, none, .mv (.const (.bool false))⟩])
    .ret)
    .skip))
  (.seq (.seq (.ops [⟨some 5, none, .mv (.const (.int .i64 0))⟩])
  (.block 0
    (.loop
      (.seq (.seq (.ops [⟨some 11, none, .mv (.tmp 5)⟩,
        ⟨some 12, none, .mv (.tmp 0)⟩,
        ⟨some 13, none, .len (.tmp 12)⟩,
        ⟨some 14, none, .bin .lss (.tmp 11) (.tmp 13)⟩])
      (.cond (.tmp 14)
        .skip
        (.exit 0)))
      (.seq (.block 1
        (.seq (.draw 9 [⟨some 17, none, .mv (.tmp 0)⟩,
          ⟨some 18, none, .mv (.tmp 5)⟩,
          ⟨some 19, none, .ia 1 (.tmp 17) (.tmp 18)⟩,
          ⟨some 20, none, .ld (.int .u8) (.tmp 19)⟩,
          ⟨some 21, none, .mv (.tmp 1)⟩,
          ⟨some 22, none, .mv (.tmp 5)⟩,
          ⟨some 23, none, .ia 1 (.tmp 21) (.tmp 22)⟩,
          ⟨some 24, none, .ld (.int .u8) (.tmp 23)⟩,
          ⟨some 25, none, .bin .neq (.tmp 20) (.tmp 24)⟩])
        (.cond (.tmp 25)
          (.seq (.ops [⟨some 4, none, .mv (.const (.bool false))⟩])
          .ret)
          .skip)))
      (.ops [⟨some 15, none, .mv (.tmp 5)⟩,
        ⟨some 16, none, .bin .add (.tmp 15) (.const (.int .i64 1))⟩,
        ⟨some 5, none, .mv (.tmp 16)⟩]))))))
  (.seq (.ops [⟨some 4, none, .mv (.const (.bool true))⟩])
  .ret))))⟩
theorem h15 : strF Tryd.prog [] Tryd.f15 = some c15 := by kernel_rfl

/-- chirograph/chirographlaw02.num -/
def c16 : Fun := ⟨4, [.inl 2],
  (.seq (.ops [⟨some 2, none, .mv (.const (.int .i64 0))⟩])
  (.seq (.ops [⟨some 3, none, .mv (.tmp 0)⟩,
    ⟨some 2, none, .mv (.tmp 3)⟩])
  .ret))⟩
theorem h16 : strF Tryd.prog [] Tryd.f16 = some c16 := by kernel_rfl

/-- chirograph/digest.Size -/
def c17 : Fun := ⟨12, [.inl 2],
  (.seq (.ops [⟨some 2, none, .mv (.const (.int .i64 0))⟩])
  (.seq (.seq (.ops [⟨some 3, none, .mv (.tmp 0)⟩])
  (.block 0
    (.seq (.ops [⟨some 5, none, .bin .eql (.tmp 3) (.const (.int .i64 1))⟩,
      ⟨some 4, none, .mv (.tmp 5)⟩])
    (.cond (.tmp 4)
      (.seq (.ops [⟨some 2, none, .mv (.const (.int .i64 20))⟩])
      .ret)
      (.seq (.ops [⟨some 7, none, .bin .eql (.tmp 3) (.const (.int .i64 2))⟩,
        ⟨some 6, none, .mv (.tmp 7)⟩])
      (.cond (.tmp 6)
        (.seq (.ops [⟨some 2, none, .mv (.const (.int .i64 32))⟩])
        .ret)
        (.seq (.ops [⟨some 9, none, .bin .eql (.tmp 3) (.const (.int .i64 3))⟩,
          ⟨some 8, none, .mv (.tmp 9)⟩])
        (.cond (.tmp 8)
          (.seq (.ops [⟨some 2, none, .mv (.const (.int .i64 48))⟩])
          .ret)
          (.seq (.ops [⟨some 11, none, .bin .eql (.tmp 3) (.const (.int .i64 4))⟩,
            ⟨some 10, none, .mv (.tmp 11)⟩])
          (.cond (.tmp 10)
            (.seq (.ops [⟨some 2, none, .mv (.const (.int .i64 64))⟩])
            .ret)
            .skip))))))))))
  (.seq (.ops [⟨some 2, none, .mv (.const (.int .i64 0))⟩])
  .ret)))⟩
theorem h17 : strF Tryd.prog [] Tryd.f17 = some c17 := by kernel_rfl

/-- chirograph/chirographref02.Size -/
def c18 : Fun := ⟨13, [.inl 2],
  (.seq (.ops [⟨some 2, none, .mv (.const (.int .i64 0))⟩])
  (.seq (.seq (.ops [⟨some 3, none, .mv (.tmp 0)⟩,
    ⟨some 4, none, .bin .lss (.tmp 3) (.const (.int .i64 1))⟩,
    ⟨some 5, none, .mv (.tmp 4)⟩,
    ⟨some 6, some (5, false), .mv (.tmp 0)⟩,
    ⟨some 7, some (5, false), .bin .gtr (.tmp 6) (.const (.int .i64 4))⟩,
    ⟨some 8, none, .pick (.tmp 5) (.const (.bool true)) (.tmp 7)⟩])
  (.cond (.tmp 8)
    (.seq (.ops [⟨some 2, none, .mv (.const (.int .i64 0))⟩])
    .ret)
    .skip))
  (.seq (.ops [⟨some 9, none, .bld (Array.replicate 4 (.int .i64 0)) [(0, 1), (1, 1), (2, 1), (3, 1)] [(0, (.const (.int .i64 20))), (1, (.const (.int .i64 32))), (2, (.const (.int .i64 48))), (3, (.const (.int .i64 64)))]⟩,
    ⟨some 10, none, .mv (.tmp 0)⟩,
    ⟨some 11, none, .bin .sub (.tmp 10) (.const (.int .i64 1))⟩,
    ⟨some 12, none, .ixa 4 (.tmp 9) (.tmp 11)⟩,
    ⟨some 2, none, .mv (.tmp 12)⟩])
  .ret)))⟩
theorem h18 : strF Tryd.prog [] Tryd.f18 = some c18 := by kernel_rfl

/-- chirograph/digest.Block -/
def c19 : Fun := ⟨10, [.inl 2],
  (.seq (.ops [⟨some 2, none, .mv (.const (.int .i64 0))⟩])
  (.seq (.seq (.ops [⟨some 3, none, .mv (.tmp 0)⟩])
  (.block 0
    (.join (.seq (.ops [⟨some 5, none, .bin .eql (.tmp 3) (.const (.int .i64 1))⟩,
      ⟨some 4, none, .mv (.tmp 5)⟩])
    (.cond (.tmp 4)
      .skip
      (.ops [⟨some 6, none, .bin .eql (.tmp 3) (.const (.int .i64 2))⟩,
        ⟨some 4, none, .mv (.tmp 6)⟩])))
    (.cond (.tmp 4)
      (.seq (.ops [⟨some 2, none, .mv (.const (.int .i64 64))⟩])
      .ret)
      (.join (.seq (.ops [⟨some 8, none, .bin .eql (.tmp 3) (.const (.int .i64 3))⟩,
        ⟨some 7, none, .mv (.tmp 8)⟩])
      (.cond (.tmp 7)
        .skip
        (.ops [⟨some 9, none, .bin .eql (.tmp 3) (.const (.int .i64 4))⟩,
          ⟨some 7, none, .mv (.tmp 9)⟩])))
      (.cond (.tmp 7)
        (.seq (.ops [⟨some 2, none, .mv (.const (.int .i64 128))⟩])
        .ret)
        .skip))))))
  (.seq (.ops [⟨some 2, none, .mv (.const (.int .i64 0))⟩])
  .ret)))⟩
theorem h19 : strF Tryd.prog [] Tryd.f19 = some c19 := by kernel_rfl

/-- chirograph/chirographref02.Block -/
def c20 : Fun := ⟨13, [.inl 2],
  (.seq (.ops [⟨some 2, none, .mv (.const (.int .i64 0))⟩])
  (.seq (.seq (.ops [⟨some 3, none, .mv (.tmp 0)⟩,
    ⟨some 4, none, .bin .lss (.tmp 3) (.const (.int .i64 1))⟩,
    ⟨some 5, none, .mv (.tmp 4)⟩,
    ⟨some 6, some (5, false), .mv (.tmp 0)⟩,
    ⟨some 7, some (5, false), .bin .gtr (.tmp 6) (.const (.int .i64 4))⟩,
    ⟨some 8, none, .pick (.tmp 5) (.const (.bool true)) (.tmp 7)⟩])
  (.cond (.tmp 8)
    (.seq (.ops [⟨some 2, none, .mv (.const (.int .i64 0))⟩])
    .ret)
    .skip))
  (.seq (.ops [⟨some 9, none, .bld (Array.replicate 4 (.int .i64 0)) [(0, 1), (1, 1), (2, 1), (3, 1)] [(0, (.const (.int .i64 64))), (1, (.const (.int .i64 64))), (2, (.const (.int .i64 128))), (3, (.const (.int .i64 128)))]⟩,
    ⟨some 10, none, .mv (.tmp 0)⟩,
    ⟨some 11, none, .bin .sub (.tmp 10) (.const (.int .i64 1))⟩,
    ⟨some 12, none, .ixa 4 (.tmp 9) (.tmp 11)⟩,
    ⟨some 2, none, .mv (.tmp 12)⟩])
  .ret)))⟩
theorem h20 : strF Tryd.prog [] Tryd.f20 = some c20 := by kernel_rfl

/-- chirograph/digest.New -/
def c21 : Fun := ⟨34, [.inl 2, .inl 3],
  (.seq (.ops [⟨some 2, none, .mv (.const (.pointer none))⟩,
    ⟨some 3, none, .mv (.const (.int .i64 0))⟩])
  (.seq (.ops [⟨some 5, none, .mv (.tmp 0)⟩,
    ⟨some 6, none, .bld #[(.int .i64 0), (.int .u32 0), (.int .u32 0), (.int .u32 0), (.int .u32 0), (.int .u32 0), (.int .u32 0), (.int .u32 0), (.int .u32 0), (.int .u64 0), (.int .u64 0), (.int .u64 0), (.int .u64 0), (.int .u64 0), (.int .u64 0), (.int .u64 0), (.int .u64 0), (.slice none 0 0), (.int .i64 0)] [(0, 1), (1, 8), (9, 8), (17, 1), (18, 1)] [(0, (.tmp 5))]⟩,
    ⟨some 7, none, .box 53 (.tmp 6)⟩,
    ⟨some 4, none, .mv (.tmp 7)⟩])
  (.join (.seq (.ops [⟨some 8, none, .mv (.tmp 0)⟩])
  (.block 0
    (.seq (.ops [⟨some 10, none, .bin .eql (.tmp 8) (.const (.int .i64 1))⟩,
      ⟨some 9, none, .mv (.tmp 10)⟩])
    (.cond (.tmp 9)
      (.ops [⟨some 11, none, .mv (.tmp 4)⟩,
        ⟨some 12, none, .bld (Array.replicate 8 (.int .u32 0)) [(0, 1), (1, 1), (2, 1), (3, 1), (4, 1), (5, 1), (6, 1), (7, 1)] [(0, (.const (.int .u32 1732584193))), (1, (.const (.int .u32 4023233417))), (2, (.const (.int .u32 2562383102))), (3, (.const (.int .u32 271733878))), (4, (.const (.int .u32 3285377520)))]⟩,
        ⟨some 13, none, .nilc (.tmp 11)⟩,
        ⟨some 14, none, .fa 1 (.tmp 13)⟩,
        ⟨none, none, .st 8 (.tmp 14) (.tmp 12)⟩])
      (.seq (.ops [⟨some 16, none, .bin .eql (.tmp 8) (.const (.int .i64 2))⟩,
        ⟨some 15, none, .mv (.tmp 16)⟩])
      (.cond (.tmp 15)
        (.ops [⟨some 17, none, .mv (.tmp 4)⟩,
          ⟨some 18, none, .bld (Array.replicate 8 (.int .u32 0)) [(0, 1), (1, 1), (2, 1), (3, 1), (4, 1), (5, 1), (6, 1), (7, 1)] [(0, (.const (.int .u32 1779033703))), (1, (.const (.int .u32 3144134277))), (2, (.const (.int .u32 1013904242))), (3, (.const (.int .u32 2773480762))), (4, (.const (.int .u32 1359893119))), (5, (.const (.int .u32 2600822924))), (6, (.const (.int .u32 528734635))), (7, (.const (.int .u32 1541459225)))]⟩,
          ⟨some 19, none, .nilc (.tmp 17)⟩,
          ⟨some 20, none, .fa 1 (.tmp 19)⟩,
          ⟨none, none, .st 8 (.tmp 20) (.tmp 18)⟩])
        (.seq (.ops [⟨some 22, none, .bin .eql (.tmp 8) (.const (.int .i64 3))⟩,
          ⟨some 21, none, .mv (.tmp 22)⟩])
        (.cond (.tmp 21)
          (.ops [⟨some 23, none, .mv (.tmp 4)⟩,
            ⟨some 24, none, .bld (Array.replicate 8 (.int .u64 0)) [(0, 1), (1, 1), (2, 1), (3, 1), (4, 1), (5, 1), (6, 1), (7, 1)] [(0, (.const (.int .u64 14680500436340154072))), (1, (.const (.int .u64 7105036623409894663))), (2, (.const (.int .u64 10473403895298186519))), (3, (.const (.int .u64 1526699215303891257))), (4, (.const (.int .u64 7436329637833083697))), (5, (.const (.int .u64 10282925794625328401))), (6, (.const (.int .u64 15784041429090275239))), (7, (.const (.int .u64 5167115440072839076)))]⟩,
            ⟨some 25, none, .nilc (.tmp 23)⟩,
            ⟨some 26, none, .fa 9 (.tmp 25)⟩,
            ⟨none, none, .st 8 (.tmp 26) (.tmp 24)⟩])
          (.seq (.ops [⟨some 28, none, .bin .eql (.tmp 8) (.const (.int .i64 4))⟩,
            ⟨some 27, none, .mv (.tmp 28)⟩])
          (.cond (.tmp 27)
            (.ops [⟨some 29, none, .mv (.tmp 4)⟩,
              ⟨some 30, none, .bld (Array.replicate 8 (.int .u64 0)) [(0, 1), (1, 1), (2, 1), (3, 1), (4, 1), (5, 1), (6, 1), (7, 1)] [(0, (.const (.int .u64 7640891576956012808))), (1, (.const (.int .u64 13503953896175478587))), (2, (.const (.int .u64 4354685564936845355))), (3, (.const (.int .u64 11912009170470909681))), (4, (.const (.int .u64 5840696475078001361))), (5, (.const (.int .u64 11170449401992604703))), (6, (.const (.int .u64 2270897969802886507))), (7, (.const (.int .u64 6620516959819538809)))]⟩,
              ⟨some 31, none, .nilc (.tmp 29)⟩,
              ⟨some 32, none, .fa 9 (.tmp 31)⟩,
              ⟨none, none, .st 8 (.tmp 32) (.tmp 30)⟩])
            (.seq (.ops [⟨some 2, none, .mv (.const (.pointer none))⟩,
              ⟨some 3, none, .mv (.const (.int .i64 1))⟩])
            .ret)))))))))))
  (.seq (.ops [⟨some 33, none, .mv (.tmp 4)⟩,
    ⟨some 2, none, .mv (.tmp 33)⟩,
    ⟨some 3, none, .mv (.const (.int .i64 0))⟩])
  .ret))))⟩
theorem h21 : strF Tryd.prog [] Tryd.f21 = some c21 := by kernel_rfl

/-- (*chirograph/digest.Hash).Write -/
def c22 : Fun := ⟨99, [.inl 4],
  (.seq (.ops [⟨some 4, none, .mv (.const (.int .i64 0))⟩])
  (.seq (.seq (.ops [⟨some 7, none, .mv (.tmp 0)⟩,
    ⟨some 8, none, .eq .pointer false (.tmp 7) (.const (.pointer none))⟩])
  (.cond (.tmp 8)
    (.seq (.ops [⟨some 4, none, .mv (.const (.int .i64 7))⟩])
    .ret)
    .skip))
  (.seq (.seq (.ops [⟨some 9, none, .mv (.tmp 1)⟩,
    ⟨some 10, none, .len (.tmp 9)⟩,
    ⟨some 11, none, .mv (.tmp 0)⟩,
    ⟨some 12, none, .nilc (.tmp 11)⟩,
    ⟨some 13, none, .fa 18 (.tmp 12)⟩,
    ⟨some 14, none, .ld (.int .i64) (.tmp 13)⟩,
    ⟨some 15, none, .bin .sub (.const (.int .i64 16777216)) (.tmp 14)⟩,
    ⟨some 16, none, .bin .gtr (.tmp 10) (.tmp 15)⟩])
  (.cond (.tmp 16)
    (.seq (.ops [⟨some 4, none, .mv (.const (.int .i64 3))⟩])
    .ret)
    .skip))
  (.seq (.ops [⟨some 17, none, .mv (.tmp 0)⟩,
    ⟨some 18, none, .nilc (.tmp 17)⟩,
    ⟨some 19, none, .fa 18 (.tmp 18)⟩,
    ⟨some 20, none, .ld (.int .i64) (.tmp 19)⟩,
    ⟨some 21, none, .mv (.tmp 1)⟩,
    ⟨some 22, none, .len (.tmp 21)⟩,
    ⟨some 23, none, .bin .add (.tmp 20) (.tmp 22)⟩,
    ⟨some 24, none, .nilc (.tmp 17)⟩,
    ⟨some 25, none, .fa 18 (.tmp 24)⟩,
    ⟨none, none, .st 1 (.tmp 25) (.tmp 23)⟩])
  (.seq (.ops [⟨some 26, none, .mv (.tmp 0)⟩,
    ⟨some 27, none, .nilc (.tmp 26)⟩,
    ⟨some 28, none, .fa 0 (.tmp 27)⟩,
    ⟨some 29, none, .ld (.int .i64) (.tmp 28)⟩,
    ⟨some 30, none, .call 19 [(.tmp 29)]⟩,
    ⟨some 5, none, .mv (.tmp 30)⟩])
  (.join (.seq (.ops [⟨some 31, none, .mv (.tmp 0)⟩,
    ⟨some 32, none, .nilc (.tmp 31)⟩,
    ⟨some 33, none, .fa 17 (.tmp 32)⟩,
    ⟨some 34, none, .ld .slice (.tmp 33)⟩,
    ⟨some 35, none, .len (.tmp 34)⟩,
    ⟨some 36, none, .bin .gtr (.tmp 35) (.const (.int .i64 0))⟩])
  (.cond (.tmp 36)
    (.seq (.ops [⟨some 37, none, .mv (.tmp 1)⟩,
      ⟨some 38, none, .len (.tmp 37)⟩,
      ⟨some 39, none, .mv (.tmp 5)⟩,
      ⟨some 40, none, .mv (.tmp 0)⟩,
      ⟨some 41, none, .nilc (.tmp 40)⟩,
      ⟨some 42, none, .fa 17 (.tmp 41)⟩,
      ⟨some 43, none, .ld .slice (.tmp 42)⟩,
      ⟨some 44, none, .len (.tmp 43)⟩,
      ⟨some 45, none, .bin .sub (.tmp 39) (.tmp 44)⟩,
      ⟨some 46, none, .min2 (.tmp 38) (.tmp 45)⟩,
      ⟨some 6, none, .mv (.tmp 46)⟩])
    (.seq (.drawS [(0, 0), (0, 1), (0, 2), (0, 3), (0, 5), (0, 6), (0, 7), (1, 4), (2, 8), (0, 9), (0, 10), (2, 11)]
      [⟨some 47, none, .mv (.tmp 0)⟩,
      ⟨some 48, none, .mv (.tmp 0)⟩,
      ⟨some 49, none, .nilc (.tmp 48)⟩,
      ⟨some 50, none, .fa 17 (.tmp 49)⟩,
      ⟨some 51, none, .ld .slice (.tmp 50)⟩,
      ⟨some 52, none, .mv (.tmp 1)⟩,
      ⟨some 53, none, .mv (.tmp 6)⟩,
      ⟨some 54, none, .slc 1 (.tmp 52) none (some (.tmp 53)) none⟩,
      ⟨some 55, none, .app 5 1 1 #[(.int .u8 0)] (.tmp 51) (.tmp 54)⟩,
      ⟨some 56, none, .nilc (.tmp 47)⟩,
      ⟨some 57, none, .fa 17 (.tmp 56)⟩,
      ⟨none, none, .st 1 (.tmp 57) (.tmp 55)⟩])
    (.seq (.ops [⟨some 58, none, .mv (.tmp 1)⟩,
      ⟨some 59, none, .mv (.tmp 6)⟩,
      ⟨some 60, none, .slc 1 (.tmp 58) (some (.tmp 59)) none none⟩,
      ⟨some 1, none, .mv (.tmp 60)⟩])
    (.seq (.seq (.ops [⟨some 61, none, .mv (.tmp 0)⟩,
      ⟨some 62, none, .nilc (.tmp 61)⟩,
      ⟨some 63, none, .fa 17 (.tmp 62)⟩,
      ⟨some 64, none, .ld .slice (.tmp 63)⟩,
      ⟨some 65, none, .len (.tmp 64)⟩,
      ⟨some 66, none, .mv (.tmp 5)⟩,
      ⟨some 67, none, .bin .lss (.tmp 65) (.tmp 66)⟩])
    (.cond (.tmp 67)
      (.seq (.ops [⟨some 4, none, .mv (.const (.int .i64 0))⟩])
      .ret)
      .skip))
    (.seq (.ops [⟨some 68, none, .mv (.tmp 0)⟩,
      ⟨some 69, none, .mv (.tmp 0)⟩,
      ⟨some 70, none, .nilc (.tmp 69)⟩,
      ⟨some 71, none, .fa 17 (.tmp 70)⟩,
      ⟨some 72, none, .ld .slice (.tmp 71)⟩,
      ⟨some 73, none, .call 28 [(.tmp 68), (.tmp 72)]⟩])
    (.ops [⟨some 74, none, .mv (.tmp 0)⟩,
      ⟨some 75, none, .nilc (.tmp 74)⟩,
      ⟨some 76, none, .fa 17 (.tmp 75)⟩,
      ⟨none, none, .st 1 (.tmp 76) (.const (.slice none 0 0))⟩]))))))
    .skip))
  (.seq (.block 0
    (.loop
      (.seq (.seq (.ops [⟨some 77, none, .mv (.tmp 1)⟩,
        ⟨some 78, none, .len (.tmp 77)⟩,
        ⟨some 79, none, .mv (.tmp 5)⟩,
        ⟨some 80, none, .bin .geq (.tmp 78) (.tmp 79)⟩])
      (.cond (.tmp 80)
        .skip
        (.exit 0)))
      (.block 1
        (.seq (.ops [⟨some 81, none, .mv (.tmp 0)⟩,
          ⟨some 82, none, .mv (.tmp 1)⟩,
          ⟨some 83, none, .mv (.tmp 5)⟩,
          ⟨some 84, none, .slc 1 (.tmp 82) none (some (.tmp 83)) none⟩,
          ⟨some 85, none, .call 28 [(.tmp 81), (.tmp 84)]⟩])
        (.ops [⟨some 86, none, .mv (.tmp 1)⟩,
          ⟨some 87, none, .mv (.tmp 5)⟩,
          ⟨some 88, none, .slc 1 (.tmp 86) (some (.tmp 87)) none none⟩,
          ⟨some 1, none, .mv (.tmp 88)⟩]))))))
  (.join (.seq (.ops [⟨some 89, none, .mv (.tmp 1)⟩,
    ⟨some 90, none, .len (.tmp 89)⟩,
    ⟨some 91, none, .bin .gtr (.tmp 90) (.const (.int .i64 0))⟩])
  (.cond (.tmp 91)
    (.ops [⟨some 92, none, .mv (.tmp 0)⟩,
      ⟨some 93, none, .mv (.tmp 5)⟩,
      ⟨some 94, none, .mks 5 1 1 #[(.int .u8 0)] (.const (.int .i64 0)) (.tmp 93)⟩,
      ⟨some 95, none, .mv (.tmp 1)⟩,
      ⟨some 96, none, .app 5 1 1 #[(.int .u8 0)] (.tmp 94) (.tmp 95)⟩,
      ⟨some 97, none, .nilc (.tmp 92)⟩,
      ⟨some 98, none, .fa 17 (.tmp 97)⟩,
      ⟨none, none, .st 1 (.tmp 98) (.tmp 96)⟩])
    .skip))
  (.seq (.ops [⟨some 4, none, .mv (.const (.int .i64 0))⟩])
  .ret)))))))))⟩
theorem h22 : strF Tryd.prog [(9, [(0, 0), (0, 1), (0, 2), (0, 3), (0, 5), (0, 6), (0, 7), (1, 4), (2, 8), (0, 9), (0, 10), (2, 11)])] Tryd.f22 = some c22 := by kernel_rfl

/-- (*chirograph/digest.Hash).Sum -/
def c23 : Fun := ⟨150, [.inl 2],
  (.seq (.ops [⟨some 2, none, .mv (.const (.slice none 0 0))⟩])
  (.seq (.seq (.ops [⟨some 11, none, .mv (.tmp 0)⟩,
    ⟨some 12, none, .eq .pointer false (.tmp 11) (.const (.pointer none))⟩,
    ⟨some 13, none, .mv (.tmp 12)⟩,
    ⟨some 14, some (13, false), .mv (.tmp 0)⟩,
    ⟨some 15, some (13, false), .nilc (.tmp 14)⟩,
    ⟨some 16, some (13, false), .fa 0 (.tmp 15)⟩,
    ⟨some 17, some (13, false), .ld (.int .i64) (.tmp 16)⟩,
    ⟨some 18, some (13, false), .call 17 [(.tmp 17)]⟩,
    ⟨some 19, some (13, false), .bin .eql (.tmp 18) (.const (.int .i64 0))⟩,
    ⟨some 20, none, .pick (.tmp 13) (.const (.bool true)) (.tmp 19)⟩])
  (.cond (.tmp 20)
    (.seq (.ops [⟨some 2, none, .mv (.const (.slice none 0 0))⟩])
    .ret)
    .skip))
  (.seq (.ops [⟨some 21, none, .mv (.tmp 0)⟩,
    ⟨some 22, none, .nilc (.tmp 21)⟩,
    ⟨some 23, none, .ld (.agg 19) (.tmp 22)⟩,
    ⟨some 3, none, .alloc 53 (.agg #[(.int .i64 0), (.int .u32 0), (.int .u32 0), (.int .u32 0), (.int .u32 0), (.int .u32 0), (.int .u32 0), (.int .u32 0), (.int .u32 0), (.int .u64 0), (.int .u64 0), (.int .u64 0), (.int .u64 0), (.int .u64 0), (.int .u64 0), (.int .u64 0), (.int .u64 0), (.slice none 0 0), (.int .i64 0)])⟩,
    ⟨none, none, .st 19 (.tmp 3) (.tmp 23)⟩])
  (.seq (.ops [⟨some 24, none, .mv (.tmp 0)⟩,
    ⟨some 25, none, .nilc (.tmp 24)⟩,
    ⟨some 26, none, .fa 0 (.tmp 25)⟩,
    ⟨some 27, none, .ld (.int .i64) (.tmp 26)⟩,
    ⟨some 28, none, .call 19 [(.tmp 27)]⟩,
    ⟨some 4, none, .mv (.tmp 28)⟩])
  (.seq (.ops [⟨some 29, none, .mv (.tmp 0)⟩,
    ⟨some 30, none, .nilc (.tmp 29)⟩,
    ⟨some 31, none, .fa 17 (.tmp 30)⟩,
    ⟨some 32, none, .ld .slice (.tmp 31)⟩,
    ⟨some 33, none, .app 5 1 1 #[(.int .u8 0)] (.const (.slice none 0 0)) (.tmp 32)⟩,
    ⟨some 34, none, .bsl 5 1 1 #[(.int .u8 0)] [(0, (.const (.int .u8 128)))]⟩,
    ⟨some 35, none, .app 5 1 1 #[(.int .u8 0)] (.tmp 33) (.tmp 34)⟩,
    ⟨some 5, none, .mv (.tmp 35)⟩])
  (.seq (.block 0
    (.loop
      (.seq (.seq (.ops [⟨some 36, none, .mv (.tmp 5)⟩,
        ⟨some 37, none, .len (.tmp 36)⟩,
        ⟨some 38, none, .mv (.tmp 4)⟩,
        ⟨some 39, none, .bin .rem (.tmp 37) (.tmp 38)⟩,
        ⟨some 40, none, .mv (.tmp 4)⟩,
        ⟨some 41, none, .bin .sub (.tmp 40) (.const (.int .i64 8))⟩,
        ⟨some 42, none, .bin .neq (.tmp 39) (.tmp 41)⟩])
      (.cond (.tmp 42)
        .skip
        (.exit 0)))
      (.block 1
        (.ops [⟨some 43, none, .mv (.tmp 5)⟩,
          ⟨some 44, none, .bsl 5 1 1 #[(.int .u8 0)] [(0, (.const (.int .u8 0)))]⟩,
          ⟨some 45, none, .app 5 1 1 #[(.int .u8 0)] (.tmp 43) (.tmp 44)⟩,
          ⟨some 5, none, .mv (.tmp 45)⟩])))))
  (.join (.seq (.ops [⟨some 46, none, .mv (.tmp 4)⟩,
    ⟨some 47, none, .bin .eql (.tmp 46) (.const (.int .i64 128))⟩,
    ⟨some 48, none, .mv (.tmp 47)⟩,
    ⟨some 49, some (48, true), .mv (.tmp 0)⟩,
    ⟨some 50, some (48, true), .nilc (.tmp 49)⟩,
    ⟨some 51, some (48, true), .fa 17 (.tmp 50)⟩,
    ⟨some 52, some (48, true), .ld .slice (.tmp 51)⟩,
    ⟨some 53, some (48, true), .len (.tmp 52)⟩,
    ⟨some 54, some (48, true), .bin .geq (.tmp 53) (.const (.int .i64 112))⟩,
    ⟨some 55, none, .pick (.tmp 48) (.tmp 54) (.const (.bool false))⟩,
    ⟨some 56, none, .mv (.tmp 55)⟩,
    ⟨some 57, some (56, true), .mv (.tmp 5)⟩,
    ⟨some 58, some (56, true), .len (.tmp 57)⟩,
    ⟨some 59, some (56, true), .bin .eql (.tmp 58) (.const (.int .i64 120))⟩,
    ⟨some 60, none, .pick (.tmp 56) (.tmp 59) (.const (.bool false))⟩])
  (.cond (.tmp 60)
    (.ops [⟨some 61, none, .mv (.tmp 5)⟩,
      ⟨some 62, none, .appz 5 1 1 #[(.int .u8 0)] (.tmp 61) (.const (.int .i64 128))⟩,
      ⟨some 5, none, .mv (.tmp 62)⟩])
    .skip))
  (.seq (.seq (.ops [⟨some 63, none, .mv (.const (.int .i64 0))⟩])
  (.block 2
    (.loop
      (.seq (.ops [⟨some 64, none, .bin .lss (.tmp 63) (.const (.int .i64 8))⟩])
      (.seq (.cond (.tmp 64)
        .skip
        (.exit 2))
      (.seq (.block 3
        (.seq (.ops [⟨some 65, none, .mv (.tmp 63)⟩,
          ⟨some 6, none, .mv (.tmp 65)⟩])
        (.ops [⟨some 66, none, .mv (.tmp 5)⟩,
          ⟨some 67, none, .mv (.tmp 0)⟩,
          ⟨some 68, none, .nilc (.tmp 67)⟩,
          ⟨some 69, none, .fa 18 (.tmp 68)⟩,
          ⟨some 70, none, .ld (.int .i64) (.tmp 69)⟩,
          ⟨some 71, none, .bin .mul (.const (.int .i64 8)) (.tmp 70)⟩,
          ⟨some 72, none, .cv .u64 (.tmp 71)⟩,
          ⟨some 73, none, .mv (.tmp 6)⟩,
          ⟨some 74, none, .bin .mul (.const (.int .i64 8)) (.tmp 73)⟩,
          ⟨some 75, none, .bin .sub (.const (.int .i64 56)) (.tmp 74)⟩,
          ⟨some 76, none, .bin .shr (.tmp 72) (.tmp 75)⟩,
          ⟨some 77, none, .cv .u8 (.tmp 76)⟩,
          ⟨some 78, none, .bsl 5 1 1 #[(.int .u8 0)] [(0, (.tmp 77))]⟩,
          ⟨some 79, none, .app 5 1 1 #[(.int .u8 0)] (.tmp 66) (.tmp 78)⟩,
          ⟨some 5, none, .mv (.tmp 79)⟩])))
      (.ops [⟨some 80, none, .bin .add (.tmp 63) (.const (.int .i64 1))⟩,
        ⟨some 63, none, .mv (.tmp 80)⟩])))))))
  (.seq (.seq (.ops [⟨some 7, none, .mv (.const (.int .i64 0))⟩])
  (.block 4
    (.loop
      (.seq (.seq (.ops [⟨some 81, none, .mv (.tmp 7)⟩,
        ⟨some 82, none, .mv (.tmp 5)⟩,
        ⟨some 83, none, .len (.tmp 82)⟩,
        ⟨some 84, none, .bin .lss (.tmp 81) (.tmp 83)⟩])
      (.cond (.tmp 84)
        .skip
        (.exit 4)))
      (.seq (.block 5
        (.ops [⟨some 88, none, .mv (.tmp 5)⟩,
          ⟨some 89, none, .mv (.tmp 7)⟩,
          ⟨some 90, none, .mv (.tmp 7)⟩,
          ⟨some 91, none, .mv (.tmp 4)⟩,
          ⟨some 92, none, .bin .add (.tmp 90) (.tmp 91)⟩,
          ⟨some 93, none, .slc 1 (.tmp 88) (some (.tmp 89)) (some (.tmp 92)) none⟩,
          ⟨some 94, none, .call 28 [(.tmp 3), (.tmp 93)]⟩]))
      (.ops [⟨some 85, none, .mv (.tmp 7)⟩,
        ⟨some 86, none, .mv (.tmp 4)⟩,
        ⟨some 87, none, .bin .add (.tmp 85) (.tmp 86)⟩,
        ⟨some 7, none, .mv (.tmp 87)⟩]))))))
  (.seq (.ops [⟨some 8, none, .mv (.const (.slice none 0 0))⟩])
  (.seq (.seq (.ops [⟨some 95, none, .mv (.const (.int .i64 0))⟩])
  (.block 6
    (.loop
      (.seq (.ops [⟨some 96, none, .bin .lss (.tmp 95) (.const (.int .i64 8))⟩])
      (.seq (.cond (.tmp 96)
        .skip
        (.exit 6))
      (.join (.block 7
        (.seq (.ops [⟨some 97, none, .mv (.tmp 95)⟩,
          ⟨some 9, none, .mv (.tmp 97)⟩])
        (.seq (.seq (.ops [⟨some 98, none, .mv (.tmp 4)⟩,
          ⟨some 99, none, .bin .eql (.tmp 98) (.const (.int .i64 64))⟩])
        (.cond (.tmp 99)
          (.seq (.drawS [(0, 0), (0, 1), (0, 2), (0, 3), (0, 7), (0, 8), (0, 9), (0, 13), (0, 14), (0, 15), (0, 19), (0, 20), (0, 21), (1, 4), (0, 5), (0, 6), (1, 10), (0, 11), (0, 12), (1, 16), (0, 17), (0, 18), (1, 22), (0, 23), (2, 24), (2, 25), (0, 26)]
            [⟨some 100, none, .mv (.tmp 8)⟩,
            ⟨some 101, none, .mv (.tmp 9)⟩,
            ⟨some 102, none, .fa 1 (.tmp 3)⟩,
            ⟨some 103, none, .iaA 8 1 (.tmp 102) (.tmp 101)⟩,
            ⟨some 104, none, .ld (.int .u32) (.tmp 103)⟩,
            ⟨some 105, none, .bin .shr (.tmp 104) (.const (.int .u64 24))⟩,
            ⟨some 106, none, .cv .u8 (.tmp 105)⟩,
            ⟨some 107, none, .mv (.tmp 9)⟩,
            ⟨some 108, none, .fa 1 (.tmp 3)⟩,
            ⟨some 109, none, .iaA 8 1 (.tmp 108) (.tmp 107)⟩,
            ⟨some 110, none, .ld (.int .u32) (.tmp 109)⟩,
            ⟨some 111, none, .bin .shr (.tmp 110) (.const (.int .u64 16))⟩,
            ⟨some 112, none, .cv .u8 (.tmp 111)⟩,
            ⟨some 113, none, .mv (.tmp 9)⟩,
            ⟨some 114, none, .fa 1 (.tmp 3)⟩,
            ⟨some 115, none, .iaA 8 1 (.tmp 114) (.tmp 113)⟩,
            ⟨some 116, none, .ld (.int .u32) (.tmp 115)⟩,
            ⟨some 117, none, .bin .shr (.tmp 116) (.const (.int .u64 8))⟩,
            ⟨some 118, none, .cv .u8 (.tmp 117)⟩,
            ⟨some 119, none, .mv (.tmp 9)⟩,
            ⟨some 120, none, .fa 1 (.tmp 3)⟩,
            ⟨some 121, none, .iaA 8 1 (.tmp 120) (.tmp 119)⟩,
            ⟨some 122, none, .ld (.int .u32) (.tmp 121)⟩,
            ⟨some 123, none, .cv .u8 (.tmp 122)⟩,
            ⟨some 124, none, .bsl 5 1 4 #[(.int .u8 0)] [(0, (.tmp 106)), (1, (.tmp 112)), (2, (.tmp 118)), (3, (.tmp 123))]⟩,
            ⟨some 125, none, .app 5 1 1 #[(.int .u8 0)] (.tmp 100) (.tmp 124)⟩,
            ⟨some 8, none, .mv (.tmp 125)⟩])
          (.exit 7))
          .skip))
        (.seq (.ops [⟨some 126, none, .mv (.const (.int .i64 0))⟩])
        (.block 8
          (.loop
            (.seq (.ops [⟨some 127, none, .bin .lss (.tmp 126) (.const (.int .i64 8))⟩])
            (.seq (.cond (.tmp 127)
              .skip
              (.exit 8))
            (.seq (.block 9
              (.seq (.ops [⟨some 128, none, .mv (.tmp 126)⟩,
                ⟨some 10, none, .mv (.tmp 128)⟩])
              (.ops [⟨some 129, none, .mv (.tmp 8)⟩,
                ⟨some 130, none, .mv (.tmp 9)⟩,
                ⟨some 131, none, .fa 9 (.tmp 3)⟩,
                ⟨some 132, none, .iaA 8 1 (.tmp 131) (.tmp 130)⟩,
                ⟨some 133, none, .ld (.int .u64) (.tmp 132)⟩,
                ⟨some 134, none, .mv (.tmp 10)⟩,
                ⟨some 135, none, .bin .mul (.const (.int .i64 8)) (.tmp 134)⟩,
                ⟨some 136, none, .bin .sub (.const (.int .i64 56)) (.tmp 135)⟩,
                ⟨some 137, none, .bin .shr (.tmp 133) (.tmp 136)⟩,
                ⟨some 138, none, .cv .u8 (.tmp 137)⟩,
                ⟨some 139, none, .bsl 5 1 1 #[(.int .u8 0)] [(0, (.tmp 138))]⟩,
                ⟨some 140, none, .app 5 1 1 #[(.int .u8 0)] (.tmp 129) (.tmp 139)⟩,
                ⟨some 8, none, .mv (.tmp 140)⟩])))
            (.ops [⟨some 141, none, .bin .add (.tmp 126) (.const (.int .i64 1))⟩,
              ⟨some 126, none, .mv (.tmp 141)⟩]))))))))))
      (.ops [⟨some 142, none, .bin .add (.tmp 95) (.const (.int .i64 1))⟩,
        ⟨some 95, none, .mv (.tmp 142)⟩])))))))
  (.seq (.ops [⟨some 143, none, .mv (.tmp 8)⟩,
    ⟨some 144, none, .mv (.tmp 0)⟩,
    ⟨some 145, none, .nilc (.tmp 144)⟩,
    ⟨some 146, none, .fa 0 (.tmp 145)⟩,
    ⟨some 147, none, .ld (.int .i64) (.tmp 146)⟩,
    ⟨some 148, none, .call 17 [(.tmp 147)]⟩,
    ⟨some 149, none, .slc 1 (.tmp 143) none (some (.tmp 148)) none⟩,
    ⟨some 2, none, .mv (.tmp 149)⟩])
  .ret))))))))))))⟩
theorem h23 : strF Tryd.prog [(24, [(0, 0), (0, 1), (0, 2), (0, 3), (0, 7), (0, 8), (0, 9), (0, 13), (0, 14), (0, 15), (0, 19), (0, 20), (0, 21), (1, 4), (0, 5), (0, 6), (1, 10), (0, 11), (0, 12), (1, 16), (0, 17), (0, 18), (1, 22), (0, 23), (2, 24), (2, 25), (0, 26)])] Tryd.f23 = some c23 := by kernel_rfl

/-- (*chirograph/digest.Hash).Len -/
def c24 : Fun := ⟨9, [.inl 2],
  (.seq (.ops [⟨some 2, none, .mv (.const (.int .i64 0))⟩])
  (.seq (.seq (.ops [⟨some 3, none, .mv (.tmp 0)⟩,
    ⟨some 4, none, .eq .pointer false (.tmp 3) (.const (.pointer none))⟩])
  (.cond (.tmp 4)
    (.seq (.ops [⟨some 2, none, .mv (.const (.int .i64 0))⟩])
    .ret)
    .skip))
  (.seq (.ops [⟨some 5, none, .mv (.tmp 0)⟩,
    ⟨some 6, none, .nilc (.tmp 5)⟩,
    ⟨some 7, none, .fa 18 (.tmp 6)⟩,
    ⟨some 8, none, .ld (.int .i64) (.tmp 7)⟩,
    ⟨some 2, none, .mv (.tmp 8)⟩])
  .ret)))⟩
theorem h24 : strF Tryd.prog [] Tryd.f24 = some c24 := by kernel_rfl

/-- chirograph/chirographref01.Spoil -/
def c25 : Fun := ⟨17, [],
  (.seq (.ops [⟨some 2, none, .mv (.const (.int .i64 0))⟩])
  (.block 0
    (.loop
      (.seq (.seq (.ops [⟨some 3, none, .mv (.tmp 2)⟩,
        ⟨some 4, none, .mv (.tmp 0)⟩,
        ⟨some 5, none, .len (.tmp 4)⟩,
        ⟨some 6, none, .bin .lss (.tmp 3) (.tmp 5)⟩])
      (.cond (.tmp 6)
        .skip
        (.exit 0)))
      (.seq (.block 1
        (.ops [⟨some 9, none, .mv (.tmp 0)⟩,
          ⟨some 10, none, .mv (.tmp 2)⟩,
          ⟨some 11, none, .mv (.tmp 0)⟩,
          ⟨some 12, none, .mv (.tmp 2)⟩,
          ⟨some 13, none, .ia 1 (.tmp 11) (.tmp 12)⟩,
          ⟨some 14, none, .ld (.int .u8) (.tmp 13)⟩,
          ⟨some 15, none, .bin .xor (.tmp 14) (.const (.int .u8 60))⟩,
          ⟨some 16, none, .ia 1 (.tmp 9) (.tmp 10)⟩,
          ⟨none, none, .st 1 (.tmp 16) (.tmp 15)⟩]))
      (.ops [⟨some 7, none, .mv (.tmp 2)⟩,
        ⟨some 8, none, .bin .add (.tmp 7) (.const (.int .i64 1))⟩,
        ⟨some 2, none, .mv (.tmp 8)⟩]))))))⟩
theorem h25 : strF Tryd.prog [] Tryd.f25 = some c25 := by kernel_rfl

/-- chirograph/chirographref02.Digest -/
def c26 : Fun := ⟨29, [.inl 4],
  (.seq (.ops [⟨some 4, none, .mv (.const (.slice none 0 0))⟩])
  (.seq (.seq (.ops [⟨some 5, none, .mv (.tmp 0)⟩])
  (.block 0
    (.seq (.ops [⟨some 7, none, .bin .eql (.tmp 5) (.const (.int .i64 1))⟩,
      ⟨some 6, none, .mv (.tmp 7)⟩])
    (.cond (.tmp 6)
      (.seq (.ops [⟨some 8, none, .mv (.tmp 1)⟩,
        ⟨some 9, none, .call 30 [(.tmp 8), (.const (.int .i64 64))]⟩,
        ⟨some 10, none, .call 29 [(.tmp 9)]⟩,
        ⟨some 4, none, .mv (.tmp 10)⟩])
      .ret)
      (.seq (.ops [⟨some 12, none, .bin .eql (.tmp 5) (.const (.int .i64 2))⟩,
        ⟨some 11, none, .mv (.tmp 12)⟩])
      (.cond (.tmp 11)
        (.seq (.ops [⟨some 13, none, .mv (.tmp 1)⟩,
          ⟨some 14, none, .call 30 [(.tmp 13), (.const (.int .i64 64))]⟩,
          ⟨some 15, none, .call 31 [(.tmp 14)]⟩,
          ⟨some 4, none, .mv (.tmp 15)⟩])
        .ret)
        (.seq (.ops [⟨some 17, none, .bin .eql (.tmp 5) (.const (.int .i64 3))⟩,
          ⟨some 16, none, .mv (.tmp 17)⟩])
        (.cond (.tmp 16)
          (.seq (.ops [⟨some 18, none, .mv (.tmp 1)⟩,
            ⟨some 19, none, .call 30 [(.tmp 18), (.const (.int .i64 128))]⟩,
            ⟨some 20, none, .bld (Array.replicate 8 (.int .u64 0)) [(0, 1), (1, 1), (2, 1), (3, 1), (4, 1), (5, 1), (6, 1), (7, 1)] [(0, (.const (.int .u64 14680500436340154072))), (1, (.const (.int .u64 7105036623409894663))), (2, (.const (.int .u64 10473403895298186519))), (3, (.const (.int .u64 1526699215303891257))), (4, (.const (.int .u64 7436329637833083697))), (5, (.const (.int .u64 10282925794625328401))), (6, (.const (.int .u64 15784041429090275239))), (7, (.const (.int .u64 5167115440072839076)))]⟩,
            ⟨some 21, none, .call 32 [(.tmp 19), (.tmp 20)]⟩,
            ⟨some 22, none, .slc 1 (.tmp 21) none (some (.const (.int .i64 48))) none⟩,
            ⟨some 4, none, .mv (.tmp 22)⟩])
          .ret)
          (.seq (.ops [⟨some 24, none, .bin .eql (.tmp 5) (.const (.int .i64 4))⟩,
            ⟨some 23, none, .mv (.tmp 24)⟩])
          (.cond (.tmp 23)
            (.seq (.ops [⟨some 25, none, .mv (.tmp 1)⟩,
              ⟨some 26, none, .call 30 [(.tmp 25), (.const (.int .i64 128))]⟩,
              ⟨some 27, none, .bld (Array.replicate 8 (.int .u64 0)) [(0, 1), (1, 1), (2, 1), (3, 1), (4, 1), (5, 1), (6, 1), (7, 1)] [(0, (.const (.int .u64 7640891576956012808))), (1, (.const (.int .u64 13503953896175478587))), (2, (.const (.int .u64 4354685564936845355))), (3, (.const (.int .u64 11912009170470909681))), (4, (.const (.int .u64 5840696475078001361))), (5, (.const (.int .u64 11170449401992604703))), (6, (.const (.int .u64 2270897969802886507))), (7, (.const (.int .u64 6620516959819538809)))]⟩,
              ⟨some 28, none, .call 32 [(.tmp 26), (.tmp 27)]⟩,
              ⟨some 4, none, .mv (.tmp 28)⟩])
            .ret)
            .skip))))))))))
  (.seq (.ops [⟨some 4, none, .mv (.const (.slice none 0 0))⟩])
  .ret)))⟩
theorem h26 : strF Tryd.prog [] Tryd.f26 = some c26 := by kernel_rfl

/-- (*chirograph/digest.Hash).Alg -/
def c27 : Fun := ⟨9, [.inl 2],
  (.seq (.ops [⟨some 2, none, .mv (.const (.int .i64 0))⟩])
  (.seq (.seq (.ops [⟨some 3, none, .mv (.tmp 0)⟩,
    ⟨some 4, none, .eq .pointer false (.tmp 3) (.const (.pointer none))⟩])
  (.cond (.tmp 4)
    (.seq (.ops [⟨some 2, none, .mv (.const (.int .i64 0))⟩])
    .ret)
    .skip))
  (.seq (.ops [⟨some 5, none, .mv (.tmp 0)⟩,
    ⟨some 6, none, .nilc (.tmp 5)⟩,
    ⟨some 7, none, .fa 0 (.tmp 6)⟩,
    ⟨some 8, none, .ld (.int .i64) (.tmp 7)⟩,
    ⟨some 2, none, .mv (.tmp 8)⟩])
  .ret)))⟩
theorem h27 : strF Tryd.prog [] Tryd.f27 = some c27 := by kernel_rfl

/-- (*chirograph/digest.Hash).block -/
def c28 : Fun := ⟨39, [],
  (.seq (.ops [⟨some 4, none, .mv (.tmp 0)⟩,
    ⟨some 5, none, .nilc (.tmp 4)⟩,
    ⟨some 6, none, .fa 0 (.tmp 5)⟩,
    ⟨some 7, none, .ld (.int .i64) (.tmp 6)⟩])
  (.block 0
    (.seq (.ops [⟨some 18, none, .bin .eql (.tmp 7) (.const (.int .i64 1))⟩,
      ⟨some 17, none, .mv (.tmp 18)⟩])
    (.cond (.tmp 17)
      (.ops [⟨some 19, none, .mv (.tmp 0)⟩,
        ⟨some 20, none, .mv (.tmp 0)⟩,
        ⟨some 21, none, .nilc (.tmp 20)⟩,
        ⟨some 22, none, .fa 1 (.tmp 21)⟩,
        ⟨some 23, none, .ld (.agg 8) (.tmp 22)⟩,
        ⟨some 24, none, .mv (.tmp 1)⟩,
        ⟨some 25, none, .call 33 [(.tmp 23), (.tmp 24)]⟩,
        ⟨some 26, none, .nilc (.tmp 19)⟩,
        ⟨some 27, none, .fa 1 (.tmp 26)⟩,
        ⟨none, none, .st 8 (.tmp 27) (.tmp 25)⟩])
      (.seq (.ops [⟨some 29, none, .bin .eql (.tmp 7) (.const (.int .i64 2))⟩,
        ⟨some 28, none, .mv (.tmp 29)⟩])
      (.cond (.tmp 28)
        (.ops [⟨some 30, none, .mv (.tmp 0)⟩,
          ⟨some 31, none, .mv (.tmp 0)⟩,
          ⟨some 32, none, .nilc (.tmp 31)⟩,
          ⟨some 33, none, .fa 1 (.tmp 32)⟩,
          ⟨some 34, none, .ld (.agg 8) (.tmp 33)⟩,
          ⟨some 35, none, .mv (.tmp 1)⟩,
          ⟨some 36, none, .call 34 [(.tmp 34), (.tmp 35)]⟩,
          ⟨some 37, none, .nilc (.tmp 30)⟩,
          ⟨some 38, none, .fa 1 (.tmp 37)⟩,
          ⟨none, none, .st 8 (.tmp 38) (.tmp 36)⟩])
        (.ops [⟨some 8, none, .mv (.tmp 0)⟩,
          ⟨some 9, none, .mv (.tmp 0)⟩,
          ⟨some 10, none, .nilc (.tmp 9)⟩,
          ⟨some 11, none, .fa 9 (.tmp 10)⟩,
          ⟨some 12, none, .ld (.agg 8) (.tmp 11)⟩,
          ⟨some 13, none, .mv (.tmp 1)⟩,
          ⟨some 14, none, .call 35 [(.tmp 12), (.tmp 13)]⟩,
          ⟨some 15, none, .nilc (.tmp 8)⟩,
          ⟨some 16, none, .fa 9 (.tmp 15)⟩,
          ⟨none, none, .st 8 (.tmp 16) (.tmp 14)⟩])))))))⟩
theorem h28 : strF Tryd.prog [] Tryd.f28 = some c28 := by kernel_rfl

/-- chirograph/chirographref02.sha1 -/
def c29 : Fun := ⟨207, [.inl 2],
  (.seq (.ops [⟨some 2, none, .mv (.const (.slice none 0 0))⟩])
  (.seq (.ops [⟨some 19, none, .bld (Array.replicate 5 (.int .u32 0)) [(0, 1), (1, 1), (2, 1), (3, 1), (4, 1)] [(0, (.const (.int .u32 1732584193))), (1, (.const (.int .u32 4023233417))), (2, (.const (.int .u32 2562383102))), (3, (.const (.int .u32 271733878))), (4, (.const (.int .u32 3285377520)))]⟩,
    ⟨some 3, none, .alloc 59 (.agg (Array.replicate 5 (.int .u32 0)))⟩,
    ⟨none, none, .st 5 (.tmp 3) (.tmp 19)⟩])
  (.seq (.seq (.ops [⟨some 4, none, .mv (.const (.int .i64 0))⟩])
  (.block 0
    (.loop
      (.seq (.seq (.ops [⟨some 20, none, .mv (.tmp 4)⟩,
        ⟨some 21, none, .mv (.tmp 0)⟩,
        ⟨some 22, none, .len (.tmp 21)⟩,
        ⟨some 23, none, .bin .lss (.tmp 20) (.tmp 22)⟩])
      (.cond (.tmp 23)
        .skip
        (.exit 0)))
      (.seq (.block 1
        (.seq (.ops [⟨some 5, none, .alloc 60 (.agg (Array.replicate 80 (.int .u32 0)))⟩])
        (.seq (.seq (.ops [⟨some 6, none, .mv (.const (.int .i64 0))⟩])
        (.block 2
          (.loop
            (.seq (.seq (.ops [⟨some 26, none, .mv (.tmp 6)⟩,
              ⟨some 27, none, .bin .lss (.tmp 26) (.const (.int .i64 80))⟩])
            (.cond (.tmp 27)
              .skip
              (.exit 2)))
            (.join (.block 3
              (.seq (.ops [⟨some 30, none, .mv (.tmp 6)⟩,
                ⟨some 31, none, .bin .lss (.tmp 30) (.const (.int .i64 16))⟩])
              (.cond (.tmp 31)
                (.seq (.ops [⟨some 32, none, .mv (.tmp 0)⟩,
                  ⟨some 33, none, .mv (.tmp 4)⟩,
                  ⟨some 34, none, .mv (.tmp 6)⟩,
                  ⟨some 35, none, .bin .mul (.const (.int .i64 4)) (.tmp 34)⟩,
                  ⟨some 36, none, .bin .add (.tmp 33) (.tmp 35)⟩,
                  ⟨some 37, none, .mv (.tmp 4)⟩,
                  ⟨some 38, none, .mv (.tmp 6)⟩,
                  ⟨some 39, none, .bin .mul (.const (.int .i64 4)) (.tmp 38)⟩,
                  ⟨some 40, none, .bin .add (.tmp 37) (.tmp 39)⟩,
                  ⟨some 41, none, .bin .add (.tmp 40) (.const (.int .i64 4))⟩,
                  ⟨some 42, none, .slc 1 (.tmp 32) (some (.tmp 36)) (some (.tmp 41)) none⟩,
                  ⟨some 7, none, .mv (.tmp 42)⟩])
                (.draw 24 [⟨some 43, none, .mv (.tmp 6)⟩,
                  ⟨some 44, none, .mv (.tmp 7)⟩,
                  ⟨some 45, none, .ia 1 (.tmp 44) (.const (.int .i64 0))⟩,
                  ⟨some 46, none, .ld (.int .u8) (.tmp 45)⟩,
                  ⟨some 47, none, .cv .u32 (.tmp 46)⟩,
                  ⟨some 48, none, .bin .shl (.tmp 47) (.const (.int .u64 24))⟩,
                  ⟨some 49, none, .mv (.tmp 7)⟩,
                  ⟨some 50, none, .ia 1 (.tmp 49) (.const (.int .i64 1))⟩,
                  ⟨some 51, none, .ld (.int .u8) (.tmp 50)⟩,
                  ⟨some 52, none, .cv .u32 (.tmp 51)⟩,
                  ⟨some 53, none, .bin .shl (.tmp 52) (.const (.int .u64 16))⟩,
                  ⟨some 54, none, .bin .add (.tmp 48) (.tmp 53)⟩,
                  ⟨some 55, none, .mv (.tmp 7)⟩,
                  ⟨some 56, none, .ia 1 (.tmp 55) (.const (.int .i64 2))⟩,
                  ⟨some 57, none, .ld (.int .u8) (.tmp 56)⟩,
                  ⟨some 58, none, .cv .u32 (.tmp 57)⟩,
                  ⟨some 59, none, .bin .shl (.tmp 58) (.const (.int .u64 8))⟩,
                  ⟨some 60, none, .bin .add (.tmp 54) (.tmp 59)⟩,
                  ⟨some 61, none, .mv (.tmp 7)⟩,
                  ⟨some 62, none, .ia 1 (.tmp 61) (.const (.int .i64 3))⟩,
                  ⟨some 63, none, .ld (.int .u8) (.tmp 62)⟩,
                  ⟨some 64, none, .cv .u32 (.tmp 63)⟩,
                  ⟨some 65, none, .bin .add (.tmp 60) (.tmp 64)⟩,
                  ⟨some 66, none, .iaA 80 1 (.tmp 5) (.tmp 43)⟩,
                  ⟨none, none, .st 1 (.tmp 66) (.tmp 65)⟩]))
                (.draw 22 [⟨some 67, none, .mv (.tmp 6)⟩,
                  ⟨some 68, none, .mv (.tmp 6)⟩,
                  ⟨some 69, none, .bin .sub (.tmp 68) (.const (.int .i64 3))⟩,
                  ⟨some 70, none, .iaA 80 1 (.tmp 5) (.tmp 69)⟩,
                  ⟨some 71, none, .ld (.int .u32) (.tmp 70)⟩,
                  ⟨some 72, none, .mv (.tmp 6)⟩,
                  ⟨some 73, none, .bin .sub (.tmp 72) (.const (.int .i64 8))⟩,
                  ⟨some 74, none, .iaA 80 1 (.tmp 5) (.tmp 73)⟩,
                  ⟨some 75, none, .ld (.int .u32) (.tmp 74)⟩,
                  ⟨some 76, none, .bin .xor (.tmp 71) (.tmp 75)⟩,
                  ⟨some 77, none, .mv (.tmp 6)⟩,
                  ⟨some 78, none, .bin .sub (.tmp 77) (.const (.int .i64 14))⟩,
                  ⟨some 79, none, .iaA 80 1 (.tmp 5) (.tmp 78)⟩,
                  ⟨some 80, none, .ld (.int .u32) (.tmp 79)⟩,
                  ⟨some 81, none, .bin .xor (.tmp 76) (.tmp 80)⟩,
                  ⟨some 82, none, .mv (.tmp 6)⟩,
                  ⟨some 83, none, .bin .sub (.tmp 82) (.const (.int .i64 16))⟩,
                  ⟨some 84, none, .iaA 80 1 (.tmp 5) (.tmp 83)⟩,
                  ⟨some 85, none, .ld (.int .u32) (.tmp 84)⟩,
                  ⟨some 86, none, .bin .xor (.tmp 81) (.tmp 85)⟩,
                  ⟨some 87, none, .call 36 [(.tmp 86), (.const (.int .i64 1))]⟩,
                  ⟨some 88, none, .iaA 80 1 (.tmp 5) (.tmp 67)⟩,
                  ⟨none, none, .st 1 (.tmp 88) (.tmp 87)⟩]))))
            (.ops [⟨some 28, none, .mv (.tmp 6)⟩,
              ⟨some 29, none, .bin .add (.tmp 28) (.const (.int .i64 1))⟩,
              ⟨some 6, none, .mv (.tmp 29)⟩]))))))
        (.seq (.draw 15 [⟨some 89, none, .iaA 5 1 (.tmp 3) (.const (.int .i64 0))⟩,
          ⟨some 90, none, .ld (.int .u32) (.tmp 89)⟩,
          ⟨some 91, none, .iaA 5 1 (.tmp 3) (.const (.int .i64 1))⟩,
          ⟨some 92, none, .ld (.int .u32) (.tmp 91)⟩,
          ⟨some 93, none, .iaA 5 1 (.tmp 3) (.const (.int .i64 2))⟩,
          ⟨some 94, none, .ld (.int .u32) (.tmp 93)⟩,
          ⟨some 95, none, .iaA 5 1 (.tmp 3) (.const (.int .i64 3))⟩,
          ⟨some 96, none, .ld (.int .u32) (.tmp 95)⟩,
          ⟨some 97, none, .iaA 5 1 (.tmp 3) (.const (.int .i64 4))⟩,
          ⟨some 98, none, .ld (.int .u32) (.tmp 97)⟩,
          ⟨some 8, none, .mv (.tmp 90)⟩,
          ⟨some 9, none, .mv (.tmp 92)⟩,
          ⟨some 10, none, .mv (.tmp 94)⟩,
          ⟨some 11, none, .mv (.tmp 96)⟩,
          ⟨some 12, none, .mv (.tmp 98)⟩])
        (.seq (.seq (.ops [⟨some 13, none, .mv (.const (.int .i64 0))⟩])
        (.block 4
          (.loop
            (.seq (.seq (.ops [⟨some 99, none, .mv (.tmp 13)⟩,
              ⟨some 100, none, .bin .lss (.tmp 99) (.const (.int .i64 80))⟩])
            (.cond (.tmp 100)
              .skip
              (.exit 4)))
            (.seq (.block 5
              (.seq (.ops [⟨some 14, none, .mv (.const (.int .u32 0))⟩,
                ⟨some 15, none, .mv (.const (.int .u32 0))⟩])
              (.join (.block 6
                (.seq (.ops [⟨some 109, none, .mv (.tmp 13)⟩,
                  ⟨some 110, none, .bin .lss (.tmp 109) (.const (.int .i64 20))⟩,
                  ⟨some 108, none, .mv (.tmp 110)⟩])
                (.cond (.tmp 108)
                  (.ops [⟨some 111, none, .mv (.tmp 9)⟩,
                    ⟨some 112, none, .mv (.tmp 10)⟩,
                    ⟨some 113, none, .bin .and (.tmp 111) (.tmp 112)⟩,
                    ⟨some 114, none, .mv (.tmp 9)⟩,
                    ⟨some 115, none, .un .xor (.tmp 114)⟩,
                    ⟨some 116, none, .mv (.tmp 11)⟩,
                    ⟨some 117, none, .bin .and (.tmp 115) (.tmp 116)⟩,
                    ⟨some 118, none, .bin .or (.tmp 113) (.tmp 117)⟩,
                    ⟨some 14, none, .mv (.tmp 118)⟩,
                    ⟨some 15, none, .mv (.const (.int .u32 1518500249))⟩])
                  (.seq (.ops [⟨some 120, none, .mv (.tmp 13)⟩,
                    ⟨some 121, none, .bin .lss (.tmp 120) (.const (.int .i64 40))⟩,
                    ⟨some 119, none, .mv (.tmp 121)⟩])
                  (.cond (.tmp 119)
                    (.ops [⟨some 122, none, .mv (.tmp 9)⟩,
                      ⟨some 123, none, .mv (.tmp 10)⟩,
                      ⟨some 124, none, .bin .xor (.tmp 122) (.tmp 123)⟩,
                      ⟨some 125, none, .mv (.tmp 11)⟩,
                      ⟨some 126, none, .bin .xor (.tmp 124) (.tmp 125)⟩,
                      ⟨some 14, none, .mv (.tmp 126)⟩,
                      ⟨some 15, none, .mv (.const (.int .u32 1859775393))⟩])
                    (.seq (.ops [⟨some 128, none, .mv (.tmp 13)⟩,
                      ⟨some 129, none, .bin .lss (.tmp 128) (.const (.int .i64 60))⟩,
                      ⟨some 127, none, .mv (.tmp 129)⟩])
                    (.cond (.tmp 127)
                      (.ops [⟨some 130, none, .mv (.tmp 9)⟩,
                        ⟨some 131, none, .mv (.tmp 10)⟩,
                        ⟨some 132, none, .bin .and (.tmp 130) (.tmp 131)⟩,
                        ⟨some 133, none, .mv (.tmp 9)⟩,
                        ⟨some 134, none, .mv (.tmp 11)⟩,
                        ⟨some 135, none, .bin .and (.tmp 133) (.tmp 134)⟩,
                        ⟨some 136, none, .bin .or (.tmp 132) (.tmp 135)⟩,
                        ⟨some 137, none, .mv (.tmp 10)⟩,
                        ⟨some 138, none, .mv (.tmp 11)⟩,
                        ⟨some 139, none, .bin .and (.tmp 137) (.tmp 138)⟩,
                        ⟨some 140, none, .bin .or (.tmp 136) (.tmp 139)⟩,
                        ⟨some 14, none, .mv (.tmp 140)⟩,
                        ⟨some 15, none, .mv (.const (.int .u32 2400959708))⟩])
                      (.ops [⟨some 103, none, .mv (.tmp 9)⟩,
                        ⟨some 104, none, .mv (.tmp 10)⟩,
                        ⟨some 105, none, .bin .xor (.tmp 103) (.tmp 104)⟩,
                        ⟨some 106, none, .mv (.tmp 11)⟩,
                        ⟨some 107, none, .bin .xor (.tmp 105) (.tmp 106)⟩,
                        ⟨some 14, none, .mv (.tmp 107)⟩,
                        ⟨some 15, none, .mv (.const (.int .u32 3395469782))⟩]))))))))
              (.seq (.draw 13 [⟨some 141, none, .mv (.tmp 8)⟩,
                ⟨some 142, none, .call 36 [(.tmp 141), (.const (.int .i64 5))]⟩,
                ⟨some 143, none, .mv (.tmp 14)⟩,
                ⟨some 144, none, .bin .add (.tmp 142) (.tmp 143)⟩,
                ⟨some 145, none, .mv (.tmp 12)⟩,
                ⟨some 146, none, .bin .add (.tmp 144) (.tmp 145)⟩,
                ⟨some 147, none, .mv (.tmp 15)⟩,
                ⟨some 148, none, .bin .add (.tmp 146) (.tmp 147)⟩,
                ⟨some 149, none, .mv (.tmp 13)⟩,
                ⟨some 150, none, .iaA 80 1 (.tmp 5) (.tmp 149)⟩,
                ⟨some 151, none, .ld (.int .u32) (.tmp 150)⟩,
                ⟨some 152, none, .bin .add (.tmp 148) (.tmp 151)⟩,
                ⟨some 16, none, .mv (.tmp 152)⟩])
              (.ops [⟨some 153, none, .mv (.tmp 11)⟩,
                ⟨some 154, none, .mv (.tmp 10)⟩,
                ⟨some 155, none, .mv (.tmp 9)⟩,
                ⟨some 156, none, .call 36 [(.tmp 155), (.const (.int .i64 30))]⟩,
                ⟨some 157, none, .mv (.tmp 8)⟩,
                ⟨some 158, none, .mv (.tmp 16)⟩,
                ⟨some 12, none, .mv (.tmp 153)⟩,
                ⟨some 11, none, .mv (.tmp 154)⟩,
                ⟨some 10, none, .mv (.tmp 156)⟩,
                ⟨some 9, none, .mv (.tmp 157)⟩,
                ⟨some 8, none, .mv (.tmp 158)⟩])))))
            (.ops [⟨some 101, none, .mv (.tmp 13)⟩,
              ⟨some 102, none, .bin .add (.tmp 101) (.const (.int .i64 1))⟩,
              ⟨some 13, none, .mv (.tmp 102)⟩]))))))
        (.ops [⟨some 159, none, .iaA 5 1 (.tmp 3) (.const (.int .i64 0))⟩,
          ⟨some 160, none, .ld (.int .u32) (.tmp 159)⟩,
          ⟨some 161, none, .mv (.tmp 8)⟩,
          ⟨some 162, none, .bin .add (.tmp 160) (.tmp 161)⟩,
          ⟨some 163, none, .iaA 5 1 (.tmp 3) (.const (.int .i64 1))⟩,
          ⟨some 164, none, .ld (.int .u32) (.tmp 163)⟩,
          ⟨some 165, none, .mv (.tmp 9)⟩,
          ⟨some 166, none, .bin .add (.tmp 164) (.tmp 165)⟩,
          ⟨some 167, none, .iaA 5 1 (.tmp 3) (.const (.int .i64 2))⟩,
          ⟨some 168, none, .ld (.int .u32) (.tmp 167)⟩,
          ⟨some 169, none, .mv (.tmp 10)⟩,
          ⟨some 170, none, .bin .add (.tmp 168) (.tmp 169)⟩,
          ⟨some 171, none, .iaA 5 1 (.tmp 3) (.const (.int .i64 3))⟩,
          ⟨some 172, none, .ld (.int .u32) (.tmp 171)⟩,
          ⟨some 173, none, .mv (.tmp 11)⟩,
          ⟨some 174, none, .bin .add (.tmp 172) (.tmp 173)⟩,
          ⟨some 175, none, .iaA 5 1 (.tmp 3) (.const (.int .i64 4))⟩,
          ⟨some 176, none, .ld (.int .u32) (.tmp 175)⟩,
          ⟨some 177, none, .mv (.tmp 12)⟩,
          ⟨some 178, none, .bin .add (.tmp 176) (.tmp 177)⟩,
          ⟨some 179, none, .bld (Array.replicate 5 (.int .u32 0)) [(0, 1), (1, 1), (2, 1), (3, 1), (4, 1)] [(0, (.tmp 162)), (1, (.tmp 166)), (2, (.tmp 170)), (3, (.tmp 174)), (4, (.tmp 178))]⟩,
          ⟨none, none, .st 5 (.tmp 3) (.tmp 179)⟩]))))))
      (.ops [⟨some 24, none, .mv (.tmp 4)⟩,
        ⟨some 25, none, .bin .add (.tmp 24) (.const (.int .i64 64))⟩,
        ⟨some 4, none, .mv (.tmp 25)⟩]))))))
  (.seq (.ops [⟨some 17, none, .mv (.const (.slice none 0 0))⟩])
  (.seq (.seq (.ops [⟨some 18, none, .mv (.const (.int .i64 0))⟩])
  (.block 7
    (.loop
      (.seq (.seq (.ops [⟨some 180, none, .mv (.tmp 18)⟩,
        ⟨some 181, none, .bin .lss (.tmp 180) (.const (.int .i64 5))⟩])
      (.cond (.tmp 181)
        .skip
        (.exit 7)))
      (.seq (.block 8
        (.drawS [(0, 0), (0, 1), (0, 2), (0, 6), (0, 7), (0, 11), (0, 12), (0, 16), (0, 17), (1, 3), (0, 4), (0, 5), (1, 8), (0, 9), (0, 10), (1, 13), (0, 14), (0, 15), (1, 18), (0, 19), (2, 20), (2, 21), (0, 22)]
          [⟨some 184, none, .mv (.tmp 17)⟩,
          ⟨some 185, none, .mv (.tmp 18)⟩,
          ⟨some 186, none, .iaA 5 1 (.tmp 3) (.tmp 185)⟩,
          ⟨some 187, none, .ld (.int .u32) (.tmp 186)⟩,
          ⟨some 188, none, .bin .shr (.tmp 187) (.const (.int .u64 24))⟩,
          ⟨some 189, none, .cv .u8 (.tmp 188)⟩,
          ⟨some 190, none, .mv (.tmp 18)⟩,
          ⟨some 191, none, .iaA 5 1 (.tmp 3) (.tmp 190)⟩,
          ⟨some 192, none, .ld (.int .u32) (.tmp 191)⟩,
          ⟨some 193, none, .bin .shr (.tmp 192) (.const (.int .u64 16))⟩,
          ⟨some 194, none, .cv .u8 (.tmp 193)⟩,
          ⟨some 195, none, .mv (.tmp 18)⟩,
          ⟨some 196, none, .iaA 5 1 (.tmp 3) (.tmp 195)⟩,
          ⟨some 197, none, .ld (.int .u32) (.tmp 196)⟩,
          ⟨some 198, none, .bin .shr (.tmp 197) (.const (.int .u64 8))⟩,
          ⟨some 199, none, .cv .u8 (.tmp 198)⟩,
          ⟨some 200, none, .mv (.tmp 18)⟩,
          ⟨some 201, none, .iaA 5 1 (.tmp 3) (.tmp 200)⟩,
          ⟨some 202, none, .ld (.int .u32) (.tmp 201)⟩,
          ⟨some 203, none, .cv .u8 (.tmp 202)⟩,
          ⟨some 204, none, .bsl 5 1 4 #[(.int .u8 0)] [(0, (.tmp 189)), (1, (.tmp 194)), (2, (.tmp 199)), (3, (.tmp 203))]⟩,
          ⟨some 205, none, .app 5 1 1 #[(.int .u8 0)] (.tmp 184) (.tmp 204)⟩,
          ⟨some 17, none, .mv (.tmp 205)⟩]))
      (.ops [⟨some 182, none, .mv (.tmp 18)⟩,
        ⟨some 183, none, .bin .add (.tmp 182) (.const (.int .i64 1))⟩,
        ⟨some 18, none, .mv (.tmp 183)⟩]))))))
  (.seq (.ops [⟨some 206, none, .mv (.tmp 17)⟩,
    ⟨some 2, none, .mv (.tmp 206)⟩])
  .ret))))))⟩
theorem h29 : strF Tryd.prog [(32, [(0, 0), (0, 1), (0, 2), (0, 6), (0, 7), (0, 11), (0, 12), (0, 16), (0, 17), (1, 3), (0, 4), (0, 5), (1, 8), (0, 9), (0, 10), (1, 13), (0, 14), (0, 15), (1, 18), (0, 19), (2, 20), (2, 21), (0, 22)])] Tryd.f29 = some c29 := by kernel_rfl

/-- chirograph/chirographref02.filled -/
def c30 : Fun := ⟨47, [.inl 4],
  (.seq (.ops [⟨some 4, none, .mv (.const (.slice none 0 0))⟩])
  (.seq (.ops [⟨some 9, none, .mv (.tmp 1)⟩,
    ⟨some 10, none, .bin .quo (.tmp 9) (.const (.int .i64 8))⟩,
    ⟨some 5, none, .mv (.tmp 10)⟩])
  (.seq (.ops [⟨some 11, none, .bsl0 5⟩,
    ⟨some 12, none, .mv (.tmp 0)⟩,
    ⟨some 13, none, .app 5 1 1 #[(.int .u8 0)] (.tmp 11) (.tmp 12)⟩,
    ⟨some 14, none, .bsl 5 1 1 #[(.int .u8 0)] [(0, (.const (.int .u8 128)))]⟩,
    ⟨some 15, none, .app 5 1 1 #[(.int .u8 0)] (.tmp 13) (.tmp 14)⟩,
    ⟨some 6, none, .mv (.tmp 15)⟩])
  (.seq (.block 0
    (.loop
      (.seq (.seq (.ops [⟨some 16, none, .mv (.tmp 6)⟩,
        ⟨some 17, none, .len (.tmp 16)⟩,
        ⟨some 18, none, .mv (.tmp 5)⟩,
        ⟨some 19, none, .bin .add (.tmp 17) (.tmp 18)⟩,
        ⟨some 20, none, .mv (.tmp 1)⟩,
        ⟨some 21, none, .bin .rem (.tmp 19) (.tmp 20)⟩,
        ⟨some 22, none, .bin .neq (.tmp 21) (.const (.int .i64 0))⟩])
      (.cond (.tmp 22)
        .skip
        (.exit 0)))
      (.block 1
        (.ops [⟨some 23, none, .mv (.tmp 6)⟩,
          ⟨some 24, none, .bsl 5 1 1 #[(.int .u8 0)] [(0, (.const (.int .u8 0)))]⟩,
          ⟨some 25, none, .app 5 1 1 #[(.int .u8 0)] (.tmp 23) (.tmp 24)⟩,
          ⟨some 6, none, .mv (.tmp 25)⟩])))))
  (.seq (.seq (.ops [⟨some 26, none, .mv (.tmp 5)⟩,
    ⟨some 27, none, .bin .sub (.tmp 26) (.const (.int .i64 1))⟩,
    ⟨some 7, none, .mv (.tmp 27)⟩])
  (.block 2
    (.loop
      (.seq (.seq (.ops [⟨some 28, none, .mv (.tmp 7)⟩,
        ⟨some 29, none, .bin .geq (.tmp 28) (.const (.int .i64 0))⟩])
      (.cond (.tmp 29)
        .skip
        (.exit 2)))
      (.seq (.block 3
        (.seq (.ops [⟨some 8, none, .mv (.const (.int .u8 0))⟩])
        (.join (.seq (.ops [⟨some 32, none, .mv (.tmp 7)⟩,
          ⟨some 33, none, .bin .lss (.tmp 32) (.const (.int .i64 8))⟩])
        (.cond (.tmp 33)
          (.ops [⟨some 34, none, .mv (.tmp 0)⟩,
            ⟨some 35, none, .len (.tmp 34)⟩,
            ⟨some 36, none, .bin .mul (.const (.int .i64 8)) (.tmp 35)⟩,
            ⟨some 37, none, .cv .u64 (.tmp 36)⟩,
            ⟨some 38, none, .mv (.tmp 7)⟩,
            ⟨some 39, none, .bin .mul (.const (.int .i64 8)) (.tmp 38)⟩,
            ⟨some 40, none, .bin .shr (.tmp 37) (.tmp 39)⟩,
            ⟨some 41, none, .cv .u8 (.tmp 40)⟩,
            ⟨some 8, none, .mv (.tmp 41)⟩])
          .skip))
        (.ops [⟨some 42, none, .mv (.tmp 6)⟩,
          ⟨some 43, none, .mv (.tmp 8)⟩,
          ⟨some 44, none, .bsl 5 1 1 #[(.int .u8 0)] [(0, (.tmp 43))]⟩,
          ⟨some 45, none, .app 5 1 1 #[(.int .u8 0)] (.tmp 42) (.tmp 44)⟩,
          ⟨some 6, none, .mv (.tmp 45)⟩]))))
      (.ops [⟨some 30, none, .mv (.tmp 7)⟩,
        ⟨some 31, none, .bin .sub (.tmp 30) (.const (.int .i64 1))⟩,
        ⟨some 7, none, .mv (.tmp 31)⟩]))))))
  (.seq (.ops [⟨some 46, none, .mv (.tmp 6)⟩,
    ⟨some 4, none, .mv (.tmp 46)⟩])
  .ret))))))⟩
theorem h30 : strF Tryd.prog [] Tryd.f30 = some c30 := by kernel_rfl

end Go.Proofs.YtibccpfocbdmaaaDoor.Code
