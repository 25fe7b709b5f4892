/- The functions as the engine has them: by program, out of the translation. -/
import Derived.Test.YtibccpfocbdmaaaDoorEngE
import Derived.Test.YtibccpfocbdmaaaDoorProg
set_option maxRecDepth 100000
namespace Go.Proofs.YtibccpfocbdmaaaDoor.Code
open Go Go.Proofs Go.Proofs.YtibccpfocbdmaaaDoor.Eng

/-- chirograph/chirographlaw02.DigestSums -/
def c3 : Fun := ⟨83, [.inl 4],
  (.seq (.ops [⟨some 4, none, .mv (.const (.bool false))⟩])
  (.seq (.seq (.ops [⟨some 12, none, .mv (.tmp 1)⟩,
    ⟨some 13, none, .call 9 [(.tmp 12), (.const (.int .i64 65536))]⟩])
  (.cond (.tmp 13)
    (.seq (.ops [⟨some 14, none, .call 10 []⟩,
      ⟨some 4, none, .mv (.tmp 14)⟩])
    .ret)
    .skip))
  (.seq (.ops [⟨some 5, none, .mv (.const (.slice none 0 0))⟩])
  (.seq (.seq (.ops [⟨some 6, none, .mv (.const (.int .i64 0))⟩])
  (.block 0
    (.loop
      (.seq (.seq (.ops [⟨some 15, none, .mv (.tmp 6)⟩,
        ⟨some 16, none, .mv (.tmp 1)⟩,
        ⟨some 17, none, .len (.tmp 16)⟩,
        ⟨some 18, none, .bin .lss (.tmp 15) (.tmp 17)⟩])
      (.cond (.tmp 18)
        .skip
        (.exit 0)))
      (.seq (.block 1
        (.ops [⟨some 21, none, .mv (.tmp 5)⟩,
          ⟨some 22, none, .mv (.tmp 1)⟩,
          ⟨some 23, none, .mv (.tmp 6)⟩,
          ⟨some 24, none, .ia 1 (.tmp 22) (.tmp 23)⟩,
          ⟨some 25, none, .ld .slice (.tmp 24)⟩,
          ⟨some 26, none, .call 11 [(.tmp 25)]⟩,
          ⟨some 27, none, .bsl 25 1 1 #[(.slice none 0 0)] [(0, (.tmp 26))]⟩,
          ⟨some 28, none, .app 25 1 24 #[(.slice none 0 0)] (.tmp 21) (.tmp 27)⟩,
          ⟨some 5, none, .mv (.tmp 28)⟩]))
      (.ops [⟨some 19, none, .mv (.tmp 6)⟩,
        ⟨some 20, none, .bin .add (.tmp 19) (.const (.int .i64 1))⟩,
        ⟨some 6, none, .mv (.tmp 20)⟩]))))))
  (.seq (.ops [⟨some 30, none, .mv (.tmp 0)⟩,
    ⟨some 31, none, .mv (.tmp 5)⟩,
    ⟨some 32, none, .call 12 [(.tmp 30), (.tmp 31)]⟩,
    ⟨some 29, none, .mv (.tmp 32)⟩,
    ⟨some 33, none, .ext (.tmp 29) 0⟩,
    ⟨some 34, none, .ext (.tmp 29) 1⟩,
    ⟨some 7, none, .mv (.tmp 33)⟩,
    ⟨some 8, none, .mv (.tmp 34)⟩])
  (.seq (.ops [⟨some 36, none, .mv (.tmp 0)⟩,
    ⟨some 37, none, .mv (.tmp 1)⟩,
    ⟨some 38, none, .call 13 [(.tmp 36), (.tmp 37)]⟩,
    ⟨some 35, none, .mv (.tmp 38)⟩,
    ⟨some 39, none, .ext (.tmp 35) 0⟩,
    ⟨some 40, none, .ext (.tmp 35) 1⟩,
    ⟨some 9, none, .mv (.tmp 39)⟩,
    ⟨some 10, none, .mv (.tmp 40)⟩])
  (.seq (.seq (.ops [⟨some 11, none, .mv (.const (.int .i64 0))⟩])
  (.block 2
    (.loop
      (.seq (.seq (.ops [⟨some 41, none, .mv (.tmp 11)⟩,
        ⟨some 42, none, .mv (.tmp 1)⟩,
        ⟨some 43, none, .len (.tmp 42)⟩,
        ⟨some 44, none, .bin .lss (.tmp 41) (.tmp 43)⟩])
      (.cond (.tmp 44)
        .skip
        (.exit 2)))
      (.seq (.block 3
        (.seq (.drawS [(0, 0), (0, 1), (0, 2), (0, 4), (0, 5), (0, 6), (1, 3), (1, 7), (2, 8), (0, 9)]
          [⟨some 47, none, .mv (.tmp 5)⟩,
          ⟨some 48, none, .mv (.tmp 11)⟩,
          ⟨some 49, none, .ia 1 (.tmp 47) (.tmp 48)⟩,
          ⟨some 50, none, .ld .slice (.tmp 49)⟩,
          ⟨some 51, none, .mv (.tmp 1)⟩,
          ⟨some 52, none, .mv (.tmp 11)⟩,
          ⟨some 53, none, .ia 1 (.tmp 51) (.tmp 52)⟩,
          ⟨some 54, none, .ld .slice (.tmp 53)⟩,
          ⟨some 55, none, .call 14 [(.tmp 50), (.tmp 54)]⟩,
          ⟨some 56, none, .un .not (.tmp 55)⟩])
        (.cond (.tmp 56)
          (.seq (.ops [⟨some 4, none, .mv (.const (.bool false))⟩])
          .ret)
          .skip)))
      (.ops [⟨some 45, none, .mv (.tmp 11)⟩,
        ⟨some 46, none, .bin .add (.tmp 45) (.const (.int .i64 1))⟩,
        ⟨some 11, none, .mv (.tmp 46)⟩]))))))
  (.seq (.ops [⟨some 57, none, .mv (.tmp 7)⟩,
    ⟨some 58, none, .mv (.tmp 9)⟩,
    ⟨some 59, none, .call 15 [(.tmp 57), (.tmp 58)]⟩,
    ⟨some 60, none, .mv (.tmp 59)⟩,
    ⟨some 61, some (60, true), .mv (.tmp 8)⟩,
    ⟨some 62, some (60, true), .call 16 [(.tmp 61)]⟩,
    ⟨some 63, some (60, true), .mv (.tmp 10)⟩,
    ⟨some 64, some (60, true), .bin .eql (.tmp 62) (.tmp 63)⟩,
    ⟨some 65, none, .pick (.tmp 60) (.tmp 64) (.const (.bool false))⟩,
    ⟨some 66, none, .mv (.tmp 65)⟩,
    ⟨some 67, some (66, true), .mv (.tmp 0)⟩,
    ⟨some 68, some (66, true), .call 17 [(.tmp 67)]⟩,
    ⟨some 69, some (66, true), .mv (.tmp 0)⟩,
    ⟨some 70, some (66, true), .call 18 [(.tmp 69)]⟩,
    ⟨some 71, some (66, true), .bin .eql (.tmp 68) (.tmp 70)⟩,
    ⟨some 72, none, .pick (.tmp 66) (.tmp 71) (.const (.bool false))⟩,
    ⟨some 73, none, .mv (.tmp 72)⟩,
    ⟨some 74, some (73, true), .mv (.tmp 0)⟩,
    ⟨some 75, some (73, true), .call 19 [(.tmp 74)]⟩,
    ⟨some 76, some (73, true), .mv (.tmp 0)⟩,
    ⟨some 77, some (73, true), .call 20 [(.tmp 76)]⟩,
    ⟨some 78, some (73, true), .bin .eql (.tmp 75) (.tmp 77)⟩,
    ⟨some 79, none, .pick (.tmp 73) (.tmp 78) (.const (.bool false))⟩,
    ⟨some 80, none, .mv (.tmp 79)⟩,
    ⟨some 81, some (80, true), .call 10 []⟩,
    ⟨some 82, none, .pick (.tmp 80) (.tmp 81) (.const (.bool false))⟩,
    ⟨some 4, none, .mv (.tmp 82)⟩])
  .ret))))))))⟩
theorem h3 : strF Tryd.prog [(13, [(0, 0), (0, 1), (0, 2), (0, 4), (0, 5), (0, 6), (1, 3), (1, 7), (2, 8), (0, 9)])] Tryd.f3 = some c3 := by kernel_rfl

/-- chirograph/chirographlaw02.DigestPieces -/
def c4 : Fun := ⟨149, [.inl 6],
  (.seq (.ops [⟨some 6, none, .mv (.const (.bool false))⟩])
  (.seq (.seq (.ops [⟨some 16, none, .mv (.tmp 1)⟩,
    ⟨some 17, none, .len (.tmp 16)⟩,
    ⟨some 18, none, .bin .gtr (.tmp 17) (.const (.int .i64 65536))⟩,
    ⟨some 19, none, .mv (.tmp 18)⟩,
    ⟨some 20, some (19, false), .mv (.tmp 2)⟩,
    ⟨some 21, some (19, false), .bin .lss (.tmp 20) (.const (.int .i64 0))⟩,
    ⟨some 22, none, .pick (.tmp 19) (.const (.bool true)) (.tmp 21)⟩,
    ⟨some 23, none, .mv (.tmp 22)⟩,
    ⟨some 24, some (23, false), .mv (.tmp 2)⟩,
    ⟨some 25, some (23, false), .mv (.tmp 1)⟩,
    ⟨some 26, some (23, false), .len (.tmp 25)⟩,
    ⟨some 27, some (23, false), .bin .gtr (.tmp 24) (.tmp 26)⟩,
    ⟨some 28, none, .pick (.tmp 23) (.const (.bool true)) (.tmp 27)⟩])
  (.cond (.tmp 28)
    (.seq (.ops [⟨some 29, none, .call 10 []⟩,
      ⟨some 6, none, .mv (.tmp 29)⟩])
    .ret)
    .skip))
  (.seq (.ops [⟨some 31, none, .mv (.tmp 0)⟩,
    ⟨some 32, none, .mv (.tmp 1)⟩,
    ⟨some 33, none, .bsl 25 1 1 #[(.slice none 0 0)] [(0, (.tmp 32))]⟩,
    ⟨some 34, none, .call 12 [(.tmp 31), (.tmp 33)]⟩,
    ⟨some 30, none, .mv (.tmp 34)⟩,
    ⟨some 35, none, .ext (.tmp 30) 0⟩,
    ⟨some 36, none, .ext (.tmp 30) 1⟩,
    ⟨some 7, none, .mv (.tmp 35)⟩,
    ⟨some 8, none, .mv (.tmp 36)⟩])
  (.seq (.drawS [(0, 0), (0, 1), (0, 2), (0, 3), (0, 4), (0, 5), (0, 6), (2, 7), (2, 8), (0, 9), (0, 10), (0, 11), (0, 12), (0, 13)]
    [⟨some 38, none, .mv (.tmp 0)⟩,
    ⟨some 39, none, .mv (.tmp 1)⟩,
    ⟨some 40, none, .mv (.tmp 2)⟩,
    ⟨some 41, none, .slc 1 (.tmp 39) none (some (.tmp 40)) none⟩,
    ⟨some 42, none, .mv (.tmp 1)⟩,
    ⟨some 43, none, .mv (.tmp 2)⟩,
    ⟨some 44, none, .slc 1 (.tmp 42) (some (.tmp 43)) none none⟩,
    ⟨some 45, none, .bsl 25 1 3 #[(.slice none 0 0)] [(0, (.tmp 41)), (1, (.const (.slice none 0 0))), (2, (.tmp 44))]⟩,
    ⟨some 46, none, .call 12 [(.tmp 38), (.tmp 45)]⟩,
    ⟨some 37, none, .mv (.tmp 46)⟩,
    ⟨some 47, none, .ext (.tmp 37) 0⟩,
    ⟨some 48, none, .ext (.tmp 37) 1⟩,
    ⟨some 9, none, .mv (.tmp 47)⟩,
    ⟨some 10, none, .mv (.tmp 48)⟩])
  (.seq (.ops [⟨some 50, none, .mv (.tmp 0)⟩,
    ⟨some 51, none, .call 21 [(.tmp 50)]⟩,
    ⟨some 49, none, .mv (.tmp 51)⟩,
    ⟨some 52, none, .ext (.tmp 49) 0⟩,
    ⟨some 53, none, .ext (.tmp 49) 1⟩,
    ⟨some 11, none, .mv (.tmp 52)⟩,
    ⟨some 12, none, .mv (.tmp 53)⟩])
  (.seq (.seq (.ops [⟨some 54, none, .mv (.tmp 0)⟩,
    ⟨some 55, none, .call 17 [(.tmp 54)]⟩,
    ⟨some 56, none, .bin .eql (.tmp 55) (.const (.int .i64 0))⟩])
  (.cond (.tmp 56)
    (.seq (.ops [⟨some 57, none, .mv (.tmp 8)⟩,
      ⟨some 58, none, .call 16 [(.tmp 57)]⟩,
      ⟨some 59, none, .bin .eql (.tmp 58) (.const (.int .i64 1))⟩,
      ⟨some 60, none, .mv (.tmp 59)⟩,
      ⟨some 61, some (60, true), .mv (.tmp 10)⟩,
      ⟨some 62, some (60, true), .call 16 [(.tmp 61)]⟩,
      ⟨some 63, some (60, true), .bin .eql (.tmp 62) (.const (.int .i64 1))⟩,
      ⟨some 64, none, .pick (.tmp 60) (.tmp 63) (.const (.bool false))⟩,
      ⟨some 65, none, .mv (.tmp 64)⟩,
      ⟨some 66, some (65, true), .mv (.tmp 12)⟩,
      ⟨some 67, some (65, true), .call 16 [(.tmp 66)]⟩,
      ⟨some 68, some (65, true), .bin .eql (.tmp 67) (.const (.int .i64 1))⟩,
      ⟨some 69, none, .pick (.tmp 65) (.tmp 68) (.const (.bool false))⟩,
      ⟨some 70, none, .mv (.tmp 69)⟩,
      ⟨some 71, some (70, true), .mv (.tmp 11)⟩,
      ⟨some 72, some (70, true), .eq .pointer false (.tmp 71) (.const (.pointer none))⟩,
      ⟨some 73, none, .pick (.tmp 70) (.tmp 72) (.const (.bool false))⟩,
      ⟨some 74, none, .mv (.tmp 73)⟩,
      ⟨some 75, some (74, true), .mv (.tmp 7)⟩,
      ⟨some 76, some (74, true), .len (.tmp 75)⟩,
      ⟨some 77, some (74, true), .mv (.tmp 9)⟩,
      ⟨some 78, some (74, true), .len (.tmp 77)⟩,
      ⟨some 79, some (74, true), .bin .add (.tmp 76) (.tmp 78)⟩,
      ⟨some 80, some (74, true), .bin .eql (.tmp 79) (.const (.int .i64 0))⟩,
      ⟨some 81, none, .pick (.tmp 74) (.tmp 80) (.const (.bool false))⟩,
      ⟨some 82, none, .mv (.tmp 81)⟩,
      ⟨some 83, some (82, true), .call 10 []⟩,
      ⟨some 84, none, .pick (.tmp 82) (.tmp 83) (.const (.bool false))⟩,
      ⟨some 6, none, .mv (.tmp 84)⟩])
    .ret)
    .skip))
  (.seq (.seq (.ops [⟨some 85, none, .mv (.tmp 11)⟩,
    ⟨some 86, none, .eq .pointer false (.tmp 85) (.const (.pointer none))⟩])
  (.cond (.tmp 86)
    (.seq (.ops [⟨some 6, none, .mv (.const (.bool false))⟩])
    .ret)
    .skip))
  (.seq (.ops [⟨some 87, none, .mv (.tmp 11)⟩,
    ⟨some 88, none, .mv (.tmp 1)⟩,
    ⟨some 89, none, .mv (.tmp 2)⟩,
    ⟨some 90, none, .mv (.tmp 2)⟩,
    ⟨some 91, none, .slc 1 (.tmp 88) (some (.tmp 89)) (some (.tmp 90)) none⟩,
    ⟨some 92, none, .call 22 [(.tmp 87), (.tmp 91)]⟩])
  (.seq (.ops [⟨some 93, none, .mv (.tmp 11)⟩,
    ⟨some 94, none, .mv (.tmp 1)⟩,
    ⟨some 95, none, .mv (.tmp 2)⟩,
    ⟨some 96, none, .slc 1 (.tmp 94) none (some (.tmp 95)) none⟩,
    ⟨some 97, none, .call 22 [(.tmp 93), (.tmp 96)]⟩])
  (.seq (.ops [⟨some 98, none, .mv (.tmp 11)⟩,
    ⟨some 99, none, .call 23 [(.tmp 98)]⟩,
    ⟨some 13, none, .mv (.tmp 99)⟩])
  (.seq (.ops [⟨some 100, none, .mv (.tmp 11)⟩,
    ⟨some 101, none, .mv (.tmp 1)⟩,
    ⟨some 102, none, .mv (.tmp 2)⟩,
    ⟨some 103, none, .slc 1 (.tmp 101) (some (.tmp 102)) none none⟩,
    ⟨some 104, none, .call 22 [(.tmp 100), (.tmp 103)]⟩])
  (.seq (.ops [⟨some 106, none, .mv (.tmp 0)⟩,
    ⟨some 107, none, .mv (.tmp 1)⟩,
    ⟨some 108, none, .mv (.tmp 2)⟩,
    ⟨some 109, none, .slc 1 (.tmp 107) none (some (.tmp 108)) none⟩,
    ⟨some 110, none, .bsl 25 1 1 #[(.slice none 0 0)] [(0, (.tmp 109))]⟩,
    ⟨some 111, none, .call 12 [(.tmp 106), (.tmp 110)]⟩,
    ⟨some 105, none, .mv (.tmp 111)⟩,
    ⟨some 112, none, .ext (.tmp 105) 0⟩,
    ⟨some 113, none, .ext (.tmp 105) 1⟩,
    ⟨some 14, none, .mv (.tmp 112)⟩,
    ⟨some 15, none, .mv (.tmp 113)⟩])
  (.seq (.ops [⟨some 114, none, .mv (.tmp 8)⟩,
    ⟨some 115, none, .call 16 [(.tmp 114)]⟩,
    ⟨some 116, none, .mv (.tmp 10)⟩,
    ⟨some 117, none, .call 16 [(.tmp 116)]⟩,
    ⟨some 118, none, .bin .add (.tmp 115) (.tmp 117)⟩,
    ⟨some 119, none, .mv (.tmp 12)⟩,
    ⟨some 120, none, .call 16 [(.tmp 119)]⟩,
    ⟨some 121, none, .bin .add (.tmp 118) (.tmp 120)⟩,
    ⟨some 122, none, .bin .eql (.tmp 121) (.const (.int .i64 0))⟩,
    ⟨some 123, none, .mv (.tmp 122)⟩,
    ⟨some 124, some (123, true), .mv (.tmp 7)⟩,
    ⟨some 125, some (123, true), .mv (.tmp 9)⟩,
    ⟨some 126, some (123, true), .call 15 [(.tmp 124), (.tmp 125)]⟩,
    ⟨some 127, none, .pick (.tmp 123) (.tmp 126) (.const (.bool false))⟩,
    ⟨some 128, none, .mv (.tmp 127)⟩,
    ⟨some 129, some (128, true), .mv (.tmp 7)⟩,
    ⟨some 130, some (128, true), .mv (.tmp 11)⟩,
    ⟨some 131, some (128, true), .call 23 [(.tmp 130)]⟩,
    ⟨some 132, some (128, true), .call 15 [(.tmp 129), (.tmp 131)]⟩,
    ⟨some 133, none, .pick (.tmp 128) (.tmp 132) (.const (.bool false))⟩,
    ⟨some 134, none, .mv (.tmp 133)⟩,
    ⟨some 135, some (134, true), .mv (.tmp 13)⟩,
    ⟨some 136, some (134, true), .mv (.tmp 14)⟩,
    ⟨some 137, some (134, true), .call 15 [(.tmp 135), (.tmp 136)]⟩,
    ⟨some 138, none, .pick (.tmp 134) (.tmp 137) (.const (.bool false))⟩,
    ⟨some 139, none, .mv (.tmp 138)⟩,
    ⟨some 140, some (139, true), .mv (.tmp 7)⟩,
    ⟨some 141, some (139, true), .len (.tmp 140)⟩,
    ⟨some 142, some (139, true), .mv (.tmp 0)⟩,
    ⟨some 143, some (139, true), .call 17 [(.tmp 142)]⟩,
    ⟨some 144, some (139, true), .bin .eql (.tmp 141) (.tmp 143)⟩,
    ⟨some 145, none, .pick (.tmp 139) (.tmp 144) (.const (.bool false))⟩,
    ⟨some 146, none, .mv (.tmp 145)⟩,
    ⟨some 147, some (146, true), .call 10 []⟩,
    ⟨some 148, none, .pick (.tmp 146) (.tmp 147) (.const (.bool false))⟩,
    ⟨some 6, none, .mv (.tmp 148)⟩])
  .ret)))))))))))))⟩
theorem h4 : strF Tryd.prog [(4, [(0, 0), (0, 1), (0, 2), (0, 3), (0, 4), (0, 5), (0, 6), (2, 7), (2, 8), (0, 9), (0, 10), (0, 11), (0, 12), (0, 13)])] Tryd.f4 = some c4 := by kernel_rfl

/-- chirograph/chirographlaw02.DigestKnown -/
def c5 : Fun := ⟨77, [.inl 0],
  (.seq (.ops [⟨some 0, none, .mv (.const (.bool false))⟩])
  (.seq (.ops [⟨some 10, none, .call 12 [(.const (.int .i64 2)), (.const (.slice none 0 0))]⟩,
    ⟨some 9, none, .mv (.tmp 10)⟩,
    ⟨some 11, none, .ext (.tmp 9) 0⟩,
    ⟨some 12, none, .ext (.tmp 9) 1⟩,
    ⟨some 1, none, .mv (.tmp 11)⟩,
    ⟨some 2, none, .mv (.tmp 12)⟩])
  (.seq (.ops [⟨some 14, none, .bsl 5 1 3 #[(.int .u8 0)] [(0, (.const (.int .u8 97))), (1, (.const (.int .u8 98))), (2, (.const (.int .u8 99)))]⟩,
    ⟨some 15, none, .cvid (.tmp 14)⟩,
    ⟨some 16, none, .bsl 25 1 1 #[(.slice none 0 0)] [(0, (.tmp 15))]⟩,
    ⟨some 17, none, .call 12 [(.const (.int .i64 3)), (.tmp 16)]⟩,
    ⟨some 13, none, .mv (.tmp 17)⟩,
    ⟨some 18, none, .ext (.tmp 13) 0⟩,
    ⟨some 19, none, .ext (.tmp 13) 1⟩,
    ⟨some 3, none, .mv (.tmp 18)⟩,
    ⟨some 4, none, .mv (.tmp 19)⟩])
  (.seq (.ops [⟨some 21, none, .bsl 5 1 3 #[(.int .u8 0)] [(0, (.const (.int .u8 97))), (1, (.const (.int .u8 98))), (2, (.const (.int .u8 99)))]⟩,
    ⟨some 22, none, .cvid (.tmp 21)⟩,
    ⟨some 23, none, .bsl 25 1 1 #[(.slice none 0 0)] [(0, (.tmp 22))]⟩,
    ⟨some 24, none, .call 12 [(.const (.int .i64 4)), (.tmp 23)]⟩,
    ⟨some 20, none, .mv (.tmp 24)⟩,
    ⟨some 25, none, .ext (.tmp 20) 0⟩,
    ⟨some 26, none, .ext (.tmp 20) 1⟩,
    ⟨some 5, none, .mv (.tmp 25)⟩,
    ⟨some 6, none, .mv (.tmp 26)⟩])
  (.seq (.ops [⟨some 28, none, .bsl 5 1 56 #[(.int .u8 0)] [(0, (.const (.int .u8 97))), (1, (.const (.int .u8 98))), (2, (.const (.int .u8 99))), (3, (.const (.int .u8 100))), (4, (.const (.int .u8 98))), (5, (.const (.int .u8 99))), (6, (.const (.int .u8 100))), (7, (.const (.int .u8 101))), (8, (.const (.int .u8 99))), (9, (.const (.int .u8 100))), (10, (.const (.int .u8 101))), (11, (.const (.int .u8 102))), (12, (.const (.int .u8 100))), (13, (.const (.int .u8 101))), (14, (.const (.int .u8 102))), (15, (.const (.int .u8 103))), (16, (.const (.int .u8 101))), (17, (.const (.int .u8 102))), (18, (.const (.int .u8 103))), (19, (.const (.int .u8 104))), (20, (.const (.int .u8 102))), (21, (.const (.int .u8 103))), (22, (.const (.int .u8 104))), (23, (.const (.int .u8 105))), (24, (.const (.int .u8 103))), (25, (.const (.int .u8 104))), (26, (.const (.int .u8 105))), (27, (.const (.int .u8 106))), (28, (.const (.int .u8 104))), (29, (.const (.int .u8 105))), (30, (.const (.int .u8 106))), (31, (.const (.int .u8 107))), (32, (.const (.int .u8 105))), (33, (.const (.int .u8 106))), (34, (.const (.int .u8 107))), (35, (.const (.int .u8 108))), (36, (.const (.int .u8 106))), (37, (.const (.int .u8 107))), (38, (.const (.int .u8 108))), (39, (.const (.int .u8 109))), (40, (.const (.int .u8 107))), (41, (.const (.int .u8 108))), (42, (.const (.int .u8 109))), (43, (.const (.int .u8 110))), (44, (.const (.int .u8 108))), (45, (.const (.int .u8 109))), (46, (.const (.int .u8 110))), (47, (.const (.int .u8 111))), (48, (.const (.int .u8 109))), (49, (.const (.int .u8 110))), (50, (.const (.int .u8 111))), (51, (.const (.int .u8 112))), (52, (.const (.int .u8 110))), (53, (.const (.int .u8 111))), (54, (.const (.int .u8 112))), (55, (.const (.int .u8 113)))]⟩,
    ⟨some 29, none, .cvid (.tmp 28)⟩,
    ⟨some 30, none, .bsl 25 1 1 #[(.slice none 0 0)] [(0, (.tmp 29))]⟩,
    ⟨some 31, none, .call 12 [(.const (.int .i64 2)), (.tmp 30)]⟩,
    ⟨some 27, none, .mv (.tmp 31)⟩,
    ⟨some 32, none, .ext (.tmp 27) 0⟩,
    ⟨some 33, none, .ext (.tmp 27) 1⟩,
    ⟨some 7, none, .mv (.tmp 32)⟩,
    ⟨some 8, none, .mv (.tmp 33)⟩])
  (.seq (.seq (.ops [⟨some 34, none, .mv (.tmp 1)⟩,
    ⟨some 35, none, .len (.tmp 34)⟩,
    ⟨some 36, none, .bin .neq (.tmp 35) (.const (.int .i64 32))⟩,
    ⟨some 37, none, .mv (.tmp 36)⟩,
    ⟨some 38, some (37, false), .mv (.tmp 3)⟩,
    ⟨some 39, some (37, false), .len (.tmp 38)⟩,
    ⟨some 40, some (37, false), .bin .neq (.tmp 39) (.const (.int .i64 48))⟩,
    ⟨some 41, none, .pick (.tmp 37) (.const (.bool true)) (.tmp 40)⟩,
    ⟨some 42, none, .mv (.tmp 41)⟩,
    ⟨some 43, some (42, false), .mv (.tmp 5)⟩,
    ⟨some 44, some (42, false), .len (.tmp 43)⟩,
    ⟨some 45, some (42, false), .bin .neq (.tmp 44) (.const (.int .i64 64))⟩,
    ⟨some 46, none, .pick (.tmp 42) (.const (.bool true)) (.tmp 45)⟩,
    ⟨some 47, none, .mv (.tmp 46)⟩,
    ⟨some 48, some (47, false), .mv (.tmp 7)⟩,
    ⟨some 49, some (47, false), .len (.tmp 48)⟩,
    ⟨some 50, some (47, false), .bin .neq (.tmp 49) (.const (.int .i64 32))⟩,
    ⟨some 51, none, .pick (.tmp 47) (.const (.bool true)) (.tmp 50)⟩])
  (.cond (.tmp 51)
    (.seq (.ops [⟨some 0, none, .mv (.const (.bool false))⟩])
    .ret)
    .skip))
  (.seq (.ops [⟨some 52, none, .mv (.tmp 1)⟩,
    ⟨some 53, none, .slc 1 (.tmp 52) none (some (.const (.int .i64 8))) none⟩,
    ⟨some 54, none, .cvbs (.tmp 53)⟩,
    ⟨some 55, none, .bin .eql (.tmp 54) (.const (.string ⟨#[227, 176, 196, 66, 152, 252, 28, 20]⟩))⟩,
    ⟨some 56, none, .mv (.tmp 55)⟩,
    ⟨some 57, some (56, true), .mv (.tmp 3)⟩,
    ⟨some 58, some (56, true), .slc 1 (.tmp 57) none (some (.const (.int .i64 8))) none⟩,
    ⟨some 59, some (56, true), .cvbs (.tmp 58)⟩,
    ⟨some 60, some (56, true), .bin .eql (.tmp 59) (.const (.string ⟨#[203, 0, 117, 63, 69, 163, 94, 139]⟩))⟩,
    ⟨some 61, none, .pick (.tmp 56) (.tmp 60) (.const (.bool false))⟩,
    ⟨some 62, none, .mv (.tmp 61)⟩,
    ⟨some 63, some (62, true), .mv (.tmp 5)⟩,
    ⟨some 64, some (62, true), .slc 1 (.tmp 63) none (some (.const (.int .i64 8))) none⟩,
    ⟨some 65, some (62, true), .cvbs (.tmp 64)⟩,
    ⟨some 66, some (62, true), .bin .eql (.tmp 65) (.const (.string ⟨#[221, 175, 53, 161, 147, 97, 122, 186]⟩))⟩,
    ⟨some 67, none, .pick (.tmp 62) (.tmp 66) (.const (.bool false))⟩,
    ⟨some 68, none, .mv (.tmp 67)⟩,
    ⟨some 69, some (68, true), .mv (.tmp 7)⟩,
    ⟨some 70, some (68, true), .slc 1 (.tmp 69) none (some (.const (.int .i64 8))) none⟩,
    ⟨some 71, some (68, true), .cvbs (.tmp 70)⟩,
    ⟨some 72, some (68, true), .bin .eql (.tmp 71) (.const (.string ⟨#[36, 141, 106, 97, 210, 6, 56, 184]⟩))⟩,
    ⟨some 73, none, .pick (.tmp 68) (.tmp 72) (.const (.bool false))⟩,
    ⟨some 74, none, .mv (.tmp 73)⟩,
    ⟨some 75, some (74, true), .call 10 []⟩,
    ⟨some 76, none, .pick (.tmp 74) (.tmp 75) (.const (.bool false))⟩,
    ⟨some 0, none, .mv (.tmp 76)⟩])
  .ret)))))))⟩
theorem h5 : strF Tryd.prog [] Tryd.f5 = some c5 := by kernel_rfl

/-- chirograph/chirographlaw02.DigestApart -/
def c6 : Fun := ⟨112, [.inl 8],
  (.seq (.ops [⟨some 8, none, .mv (.const (.bool false))⟩])
  (.seq (.seq (.ops [⟨some 17, none, .mv (.tmp 2)⟩,
    ⟨some 18, none, .len (.tmp 17)⟩,
    ⟨some 19, none, .bin .gtr (.tmp 18) (.const (.int .i64 65536))⟩,
    ⟨some 20, none, .mv (.tmp 19)⟩,
    ⟨some 21, some (20, false), .mv (.tmp 3)⟩,
    ⟨some 22, some (20, false), .len (.tmp 21)⟩,
    ⟨some 23, some (20, false), .bin .gtr (.tmp 22) (.const (.int .i64 65536))⟩,
    ⟨some 24, none, .pick (.tmp 20) (.const (.bool true)) (.tmp 23)⟩])
  (.cond (.tmp 24)
    (.seq (.ops [⟨some 25, none, .call 10 []⟩,
      ⟨some 8, none, .mv (.tmp 25)⟩])
    .ret)
    .skip))
  (.seq (.ops [⟨some 27, none, .mv (.tmp 0)⟩,
    ⟨some 28, none, .call 21 [(.tmp 27)]⟩,
    ⟨some 26, none, .mv (.tmp 28)⟩,
    ⟨some 29, none, .ext (.tmp 26) 0⟩,
    ⟨some 30, none, .ext (.tmp 26) 1⟩,
    ⟨some 9, none, .mv (.tmp 29)⟩,
    ⟨some 10, none, .mv (.tmp 30)⟩])
  (.seq (.ops [⟨some 32, none, .mv (.tmp 1)⟩,
    ⟨some 33, none, .call 21 [(.tmp 32)]⟩,
    ⟨some 31, none, .mv (.tmp 33)⟩,
    ⟨some 34, none, .ext (.tmp 31) 0⟩,
    ⟨some 35, none, .ext (.tmp 31) 1⟩,
    ⟨some 11, none, .mv (.tmp 34)⟩,
    ⟨some 12, none, .mv (.tmp 35)⟩])
  (.seq (.seq (.ops [⟨some 36, none, .mv (.tmp 10)⟩,
    ⟨some 37, none, .call 16 [(.tmp 36)]⟩,
    ⟨some 38, none, .bin .neq (.tmp 37) (.const (.int .i64 0))⟩,
    ⟨some 39, none, .mv (.tmp 38)⟩,
    ⟨some 40, some (39, false), .mv (.tmp 12)⟩,
    ⟨some 41, some (39, false), .call 16 [(.tmp 40)]⟩,
    ⟨some 42, some (39, false), .bin .neq (.tmp 41) (.const (.int .i64 0))⟩,
    ⟨some 43, none, .pick (.tmp 39) (.const (.bool true)) (.tmp 42)⟩])
  (.cond (.tmp 43)
    (.seq (.ops [⟨some 44, none, .mv (.tmp 9)⟩,
      ⟨some 45, none, .eq .pointer false (.tmp 44) (.const (.pointer none))⟩,
      ⟨some 46, none, .mv (.tmp 10)⟩,
      ⟨some 47, none, .call 16 [(.tmp 46)]⟩,
      ⟨some 48, none, .bin .neq (.tmp 47) (.const (.int .i64 0))⟩,
      ⟨some 49, none, .eq .bool false (.tmp 45) (.tmp 48)⟩,
      ⟨some 50, none, .mv (.tmp 49)⟩,
      ⟨some 51, some (50, true), .mv (.tmp 11)⟩,
      ⟨some 52, some (50, true), .eq .pointer false (.tmp 51) (.const (.pointer none))⟩,
      ⟨some 53, some (50, true), .mv (.tmp 12)⟩,
      ⟨some 54, some (50, true), .call 16 [(.tmp 53)]⟩,
      ⟨some 55, some (50, true), .bin .neq (.tmp 54) (.const (.int .i64 0))⟩,
      ⟨some 56, some (50, true), .eq .bool false (.tmp 52) (.tmp 55)⟩,
      ⟨some 57, none, .pick (.tmp 50) (.tmp 56) (.const (.bool false))⟩,
      ⟨some 58, none, .mv (.tmp 57)⟩,
      ⟨some 59, some (58, true), .call 10 []⟩,
      ⟨some 60, none, .pick (.tmp 58) (.tmp 59) (.const (.bool false))⟩,
      ⟨some 8, none, .mv (.tmp 60)⟩])
    .ret)
    .skip))
  (.seq (.ops [⟨some 61, none, .mv (.tmp 9)⟩,
    ⟨some 62, none, .mv (.tmp 2)⟩,
    ⟨some 63, none, .call 22 [(.tmp 61), (.tmp 62)]⟩])
  (.seq (.ops [⟨some 64, none, .mv (.tmp 11)⟩,
    ⟨some 65, none, .mv (.tmp 3)⟩,
    ⟨some 66, none, .call 22 [(.tmp 64), (.tmp 65)]⟩])
  (.seq (.ops [⟨some 67, none, .mv (.tmp 9)⟩,
    ⟨some 68, none, .mv (.tmp 3)⟩,
    ⟨some 69, none, .call 22 [(.tmp 67), (.tmp 68)]⟩])
  (.seq (.ops [⟨some 70, none, .mv (.tmp 11)⟩,
    ⟨some 71, none, .mv (.tmp 2)⟩,
    ⟨some 72, none, .call 22 [(.tmp 70), (.tmp 71)]⟩])
  (.seq (.ops [⟨some 74, none, .mv (.tmp 0)⟩,
    ⟨some 75, none, .mv (.tmp 2)⟩,
    ⟨some 76, none, .mv (.tmp 3)⟩,
    ⟨some 77, none, .bsl 25 1 2 #[(.slice none 0 0)] [(0, (.tmp 75)), (1, (.tmp 76))]⟩,
    ⟨some 78, none, .call 12 [(.tmp 74), (.tmp 77)]⟩,
    ⟨some 73, none, .mv (.tmp 78)⟩,
    ⟨some 79, none, .ext (.tmp 73) 0⟩,
    ⟨some 80, none, .ext (.tmp 73) 1⟩,
    ⟨some 13, none, .mv (.tmp 79)⟩,
    ⟨some 14, none, .mv (.tmp 80)⟩])
  (.seq (.ops [⟨some 82, none, .mv (.tmp 1)⟩,
    ⟨some 83, none, .mv (.tmp 3)⟩,
    ⟨some 84, none, .mv (.tmp 2)⟩,
    ⟨some 85, none, .bsl 25 1 2 #[(.slice none 0 0)] [(0, (.tmp 83)), (1, (.tmp 84))]⟩,
    ⟨some 86, none, .call 12 [(.tmp 82), (.tmp 85)]⟩,
    ⟨some 81, none, .mv (.tmp 86)⟩,
    ⟨some 87, none, .ext (.tmp 81) 0⟩,
    ⟨some 88, none, .ext (.tmp 81) 1⟩,
    ⟨some 15, none, .mv (.tmp 87)⟩,
    ⟨some 16, none, .mv (.tmp 88)⟩])
  (.seq (.ops [⟨some 89, none, .mv (.tmp 9)⟩,
    ⟨some 90, none, .call 23 [(.tmp 89)]⟩,
    ⟨some 91, none, .mv (.tmp 13)⟩,
    ⟨some 92, none, .call 15 [(.tmp 90), (.tmp 91)]⟩,
    ⟨some 93, none, .mv (.tmp 92)⟩,
    ⟨some 94, some (93, true), .mv (.tmp 11)⟩,
    ⟨some 95, some (93, true), .call 23 [(.tmp 94)]⟩,
    ⟨some 96, some (93, true), .mv (.tmp 15)⟩,
    ⟨some 97, some (93, true), .call 15 [(.tmp 95), (.tmp 96)]⟩,
    ⟨some 98, none, .pick (.tmp 93) (.tmp 97) (.const (.bool false))⟩,
    ⟨some 99, none, .mv (.tmp 98)⟩,
    ⟨some 100, some (99, true), .mv (.tmp 9)⟩,
    ⟨some 101, some (99, true), .call 24 [(.tmp 100)]⟩,
    ⟨some 102, some (99, true), .mv (.tmp 2)⟩,
    ⟨some 103, some (99, true), .len (.tmp 102)⟩,
    ⟨some 104, some (99, true), .mv (.tmp 3)⟩,
    ⟨some 105, some (99, true), .len (.tmp 104)⟩,
    ⟨some 106, some (99, true), .bin .add (.tmp 103) (.tmp 105)⟩,
    ⟨some 107, some (99, true), .bin .eql (.tmp 101) (.tmp 106)⟩,
    ⟨some 108, none, .pick (.tmp 99) (.tmp 107) (.const (.bool false))⟩,
    ⟨some 109, none, .mv (.tmp 108)⟩,
    ⟨some 110, some (109, true), .call 10 []⟩,
    ⟨some 111, none, .pick (.tmp 109) (.tmp 110) (.const (.bool false))⟩,
    ⟨some 8, none, .mv (.tmp 111)⟩])
  .ret))))))))))))⟩
theorem h6 : strF Tryd.prog [] Tryd.f6 = some c6 := by kernel_rfl

/-- chirograph/chirographlaw02.DigestStreams -/
def c7 : Fun := ⟨107, [.inl 4],
  (.seq (.ops [⟨some 4, none, .mv (.const (.bool false))⟩])
  (.seq (.seq (.ops [⟨some 11, none, .mv (.tmp 1)⟩,
    ⟨some 12, none, .call 9 [(.tmp 11), (.const (.int .i64 4000))]⟩,
    ⟨some 13, none, .mv (.tmp 12)⟩,
    ⟨some 14, some (13, false), .mv (.tmp 1)⟩,
    ⟨some 15, some (13, false), .len (.tmp 14)⟩,
    ⟨some 16, some (13, false), .bin .gtr (.tmp 15) (.const (.int .i64 60))⟩,
    ⟨some 17, none, .pick (.tmp 13) (.const (.bool true)) (.tmp 16)⟩])
  (.cond (.tmp 17)
    (.seq (.ops [⟨some 18, none, .call 10 []⟩,
      ⟨some 4, none, .mv (.tmp 18)⟩])
    .ret)
    .skip))
  (.seq (.ops [⟨some 20, none, .mv (.tmp 0)⟩,
    ⟨some 21, none, .call 21 [(.tmp 20)]⟩,
    ⟨some 19, none, .mv (.tmp 21)⟩,
    ⟨some 22, none, .ext (.tmp 19) 0⟩,
    ⟨some 23, none, .ext (.tmp 19) 1⟩,
    ⟨some 5, none, .mv (.tmp 22)⟩,
    ⟨some 6, none, .mv (.tmp 23)⟩])
  (.seq (.seq (.ops [⟨some 24, none, .mv (.tmp 0)⟩,
    ⟨some 25, none, .call 18 [(.tmp 24)]⟩,
    ⟨some 26, none, .bin .eql (.tmp 25) (.const (.int .i64 0))⟩])
  (.cond (.tmp 26)
    (.seq (.ops [⟨some 27, none, .mv (.tmp 5)⟩,
      ⟨some 28, none, .eq .pointer false (.tmp 27) (.const (.pointer none))⟩,
      ⟨some 29, none, .mv (.tmp 28)⟩,
      ⟨some 30, some (29, true), .mv (.tmp 6)⟩,
      ⟨some 31, some (29, true), .call 16 [(.tmp 30)]⟩,
      ⟨some 32, some (29, true), .bin .eql (.tmp 31) (.const (.int .i64 1))⟩,
      ⟨some 33, none, .pick (.tmp 29) (.tmp 32) (.const (.bool false))⟩,
      ⟨some 34, none, .mv (.tmp 33)⟩,
      ⟨some 35, some (34, true), .call 10 []⟩,
      ⟨some 36, none, .pick (.tmp 34) (.tmp 35) (.const (.bool false))⟩,
      ⟨some 4, none, .mv (.tmp 36)⟩])
    .ret)
    .skip))
  (.seq (.seq (.ops [⟨some 37, none, .mv (.tmp 5)⟩,
    ⟨some 38, none, .eq .pointer false (.tmp 37) (.const (.pointer none))⟩,
    ⟨some 39, none, .mv (.tmp 38)⟩,
    ⟨some 40, some (39, false), .mv (.tmp 6)⟩,
    ⟨some 41, some (39, false), .call 16 [(.tmp 40)]⟩,
    ⟨some 42, some (39, false), .bin .neq (.tmp 41) (.const (.int .i64 0))⟩,
    ⟨some 43, none, .pick (.tmp 39) (.const (.bool true)) (.tmp 42)⟩])
  (.cond (.tmp 43)
    (.seq (.ops [⟨some 4, none, .mv (.const (.bool false))⟩])
    .ret)
    .skip))
  (.seq (.ops [⟨some 7, none, .mv (.const (.slice none 0 0))⟩])
  (.seq (.seq (.ops [⟨some 8, none, .mv (.const (.int .i64 0))⟩])
  (.block 0
    (.loop
      (.seq (.seq (.ops [⟨some 44, none, .mv (.tmp 8)⟩,
        ⟨some 45, none, .mv (.tmp 1)⟩,
        ⟨some 46, none, .len (.tmp 45)⟩,
        ⟨some 47, none, .bin .lss (.tmp 44) (.tmp 46)⟩])
      (.cond (.tmp 47)
        .skip
        (.exit 0)))
      (.seq (.block 1
        (.seq (.ops [⟨some 50, none, .mv (.tmp 1)⟩,
          ⟨some 51, none, .mv (.tmp 8)⟩,
          ⟨some 52, none, .ia 1 (.tmp 50) (.tmp 51)⟩,
          ⟨some 53, none, .ld .slice (.tmp 52)⟩,
          ⟨some 54, none, .call 11 [(.tmp 53)]⟩,
          ⟨some 9, none, .mv (.tmp 54)⟩])
        (.seq (.ops [⟨some 55, none, .mv (.tmp 5)⟩,
          ⟨some 56, none, .mv (.tmp 9)⟩,
          ⟨some 57, none, .call 22 [(.tmp 55), (.tmp 56)]⟩,
          ⟨some 10, none, .mv (.tmp 57)⟩])
        (.seq (.seq (.ops [⟨some 58, none, .mv (.tmp 10)⟩,
          ⟨some 59, none, .call 16 [(.tmp 58)]⟩,
          ⟨some 60, none, .bin .neq (.tmp 59) (.const (.int .i64 0))⟩,
          ⟨some 61, none, .mv (.tmp 60)⟩,
          ⟨some 62, some (61, false), .mv (.tmp 9)⟩,
          ⟨some 63, some (61, false), .mv (.tmp 1)⟩,
          ⟨some 64, some (61, false), .mv (.tmp 8)⟩,
          ⟨some 65, some (61, false), .ia 1 (.tmp 63) (.tmp 64)⟩,
          ⟨some 66, some (61, false), .ld .slice (.tmp 65)⟩,
          ⟨some 67, some (61, false), .call 14 [(.tmp 62), (.tmp 66)]⟩,
          ⟨some 68, some (61, false), .un .not (.tmp 67)⟩,
          ⟨some 69, none, .pick (.tmp 61) (.const (.bool true)) (.tmp 68)⟩])
        (.cond (.tmp 69)
          (.seq (.ops [⟨some 4, none, .mv (.const (.bool false))⟩])
          .ret)
          .skip))
        (.seq (.ops [⟨some 70, none, .mv (.tmp 9)⟩,
          ⟨some 71, none, .call 25 [(.tmp 70)]⟩])
        (.seq (.ops [⟨some 72, none, .mv (.tmp 7)⟩,
          ⟨some 73, none, .mv (.tmp 1)⟩,
          ⟨some 74, none, .mv (.tmp 8)⟩,
          ⟨some 75, none, .ia 1 (.tmp 73) (.tmp 74)⟩,
          ⟨some 76, none, .ld .slice (.tmp 75)⟩,
          ⟨some 77, none, .app 5 1 1 #[(.int .u8 0)] (.tmp 72) (.tmp 76)⟩,
          ⟨some 7, none, .mv (.tmp 77)⟩])
        (.seq (.ops [⟨some 78, none, .mv (.tmp 5)⟩,
          ⟨some 79, none, .call 23 [(.tmp 78)]⟩,
          ⟨some 80, none, .mv (.tmp 0)⟩,
          ⟨some 81, none, .mv (.tmp 7)⟩,
          ⟨some 82, none, .call 26 [(.tmp 80), (.tmp 81)]⟩,
          ⟨some 83, none, .call 15 [(.tmp 79), (.tmp 82)]⟩,
          ⟨some 84, none, .un .not (.tmp 83)⟩,
          ⟨some 85, none, .mv (.tmp 84)⟩,
          ⟨some 86, some (85, false), .mv (.tmp 5)⟩,
          ⟨some 87, some (85, false), .call 24 [(.tmp 86)]⟩,
          ⟨some 88, some (85, false), .mv (.tmp 7)⟩,
          ⟨some 89, some (85, false), .len (.tmp 88)⟩,
          ⟨some 90, some (85, false), .bin .neq (.tmp 87) (.tmp 89)⟩,
          ⟨some 91, none, .pick (.tmp 85) (.const (.bool true)) (.tmp 90)⟩,
          ⟨some 92, none, .mv (.tmp 91)⟩,
          ⟨some 93, some (92, false), .mv (.tmp 5)⟩,
          ⟨some 94, some (92, false), .call 27 [(.tmp 93)]⟩,
          ⟨some 95, some (92, false), .mv (.tmp 0)⟩,
          ⟨some 96, some (92, false), .bin .neq (.tmp 94) (.tmp 95)⟩,
          ⟨some 97, none, .pick (.tmp 92) (.const (.bool true)) (.tmp 96)⟩])
        (.cond (.tmp 97)
          (.seq (.ops [⟨some 4, none, .mv (.const (.bool false))⟩])
          .ret)
          .skip))))))))
      (.ops [⟨some 48, none, .mv (.tmp 8)⟩,
        ⟨some 49, none, .bin .add (.tmp 48) (.const (.int .i64 1))⟩,
        ⟨some 8, none, .mv (.tmp 49)⟩]))))))
  (.seq (.ops [⟨some 98, none, .mv (.tmp 5)⟩,
    ⟨some 99, none, .call 23 [(.tmp 98)]⟩,
    ⟨some 100, none, .mv (.tmp 0)⟩,
    ⟨some 101, none, .mv (.tmp 7)⟩,
    ⟨some 102, none, .call 26 [(.tmp 100), (.tmp 101)]⟩,
    ⟨some 103, none, .call 15 [(.tmp 99), (.tmp 102)]⟩,
    ⟨some 104, none, .mv (.tmp 103)⟩,
    ⟨some 105, some (104, true), .call 10 []⟩,
    ⟨some 106, none, .pick (.tmp 104) (.tmp 105) (.const (.bool false))⟩,
    ⟨some 4, none, .mv (.tmp 106)⟩])
  .ret))))))))⟩
theorem h7 : strF Tryd.prog [] Tryd.f7 = some c7 := by kernel_rfl

/-- chirograph/chirographlaw02.DigestOwn -/
def c8 : Fun := ⟨82, [.inl 4],
  (.seq (.ops [⟨some 4, none, .mv (.const (.bool false))⟩])
  (.seq (.seq (.ops [⟨some 12, none, .mv (.tmp 1)⟩,
    ⟨some 13, none, .len (.tmp 12)⟩,
    ⟨some 14, none, .bin .gtr (.tmp 13) (.const (.int .i64 65536))⟩])
  (.cond (.tmp 14)
    (.seq (.ops [⟨some 15, none, .call 10 []⟩,
      ⟨some 4, none, .mv (.tmp 15)⟩])
    .ret)
    .skip))
  (.seq (.ops [⟨some 5, none, .mv (.const (.pointer none))⟩])
  (.seq (.seq (.ops [⟨some 16, none, .mv (.tmp 5)⟩,
    ⟨some 17, none, .mv (.tmp 1)⟩,
    ⟨some 18, none, .call 22 [(.tmp 16), (.tmp 17)]⟩,
    ⟨some 19, none, .call 16 [(.tmp 18)]⟩,
    ⟨some 20, none, .bin .neq (.tmp 19) (.const (.int .i64 7))⟩,
    ⟨some 21, none, .mv (.tmp 20)⟩,
    ⟨some 22, some (21, false), .mv (.tmp 5)⟩,
    ⟨some 23, some (21, false), .call 23 [(.tmp 22)]⟩,
    ⟨some 24, some (21, false), .len (.tmp 23)⟩,
    ⟨some 25, some (21, false), .bin .neq (.tmp 24) (.const (.int .i64 0))⟩,
    ⟨some 26, none, .pick (.tmp 21) (.const (.bool true)) (.tmp 25)⟩,
    ⟨some 27, none, .mv (.tmp 26)⟩,
    ⟨some 28, some (27, false), .mv (.tmp 5)⟩,
    ⟨some 29, some (27, false), .call 24 [(.tmp 28)]⟩,
    ⟨some 30, some (27, false), .bin .neq (.tmp 29) (.const (.int .i64 0))⟩,
    ⟨some 31, none, .pick (.tmp 27) (.const (.bool true)) (.tmp 30)⟩,
    ⟨some 32, none, .mv (.tmp 31)⟩,
    ⟨some 33, some (32, false), .mv (.tmp 5)⟩,
    ⟨some 34, some (32, false), .call 27 [(.tmp 33)]⟩,
    ⟨some 35, some (32, false), .bin .neq (.tmp 34) (.const (.int .i64 0))⟩,
    ⟨some 36, none, .pick (.tmp 32) (.const (.bool true)) (.tmp 35)⟩])
  (.cond (.tmp 36)
    (.seq (.ops [⟨some 4, none, .mv (.const (.bool false))⟩])
    .ret)
    .skip))
  (.seq (.ops [⟨some 38, none, .mv (.tmp 0)⟩,
    ⟨some 39, none, .call 21 [(.tmp 38)]⟩,
    ⟨some 37, none, .mv (.tmp 39)⟩,
    ⟨some 40, none, .ext (.tmp 37) 0⟩,
    ⟨some 41, none, .ext (.tmp 37) 1⟩,
    ⟨some 6, none, .mv (.tmp 40)⟩,
    ⟨some 7, none, .mv (.tmp 41)⟩])
  (.seq (.seq (.ops [⟨some 42, none, .mv (.tmp 7)⟩,
    ⟨some 43, none, .call 16 [(.tmp 42)]⟩,
    ⟨some 44, none, .bin .neq (.tmp 43) (.const (.int .i64 0))⟩])
  (.cond (.tmp 44)
    (.seq (.ops [⟨some 45, none, .mv (.tmp 6)⟩,
      ⟨some 46, none, .eq .pointer false (.tmp 45) (.const (.pointer none))⟩,
      ⟨some 47, none, .mv (.tmp 46)⟩,
      ⟨some 48, some (47, true), .call 10 []⟩,
      ⟨some 49, none, .pick (.tmp 47) (.tmp 48) (.const (.bool false))⟩,
      ⟨some 4, none, .mv (.tmp 49)⟩])
    .ret)
    .skip))
  (.seq (.ops [⟨some 50, none, .mv (.tmp 6)⟩,
    ⟨some 51, none, .mv (.tmp 1)⟩,
    ⟨some 52, none, .call 22 [(.tmp 50), (.tmp 51)]⟩])
  (.seq (.ops [⟨some 53, none, .mv (.tmp 6)⟩,
    ⟨some 54, none, .call 23 [(.tmp 53)]⟩,
    ⟨some 8, none, .mv (.tmp 54)⟩])
  (.seq (.ops [⟨some 55, none, .mv (.tmp 6)⟩,
    ⟨some 56, none, .call 23 [(.tmp 55)]⟩,
    ⟨some 9, none, .mv (.tmp 56)⟩])
  (.seq (.ops [⟨some 57, none, .mv (.tmp 8)⟩,
    ⟨some 58, none, .bsl 5 1 3 #[(.int .u8 0)] [(0, (.const (.int .u8 1))), (1, (.const (.int .u8 2))), (2, (.const (.int .u8 3)))]⟩,
    ⟨some 59, none, .app 5 1 1 #[(.int .u8 0)] (.tmp 57) (.tmp 58)⟩,
    ⟨some 60, none, .call 25 [(.tmp 59)]⟩])
  (.seq (.ops [⟨some 61, none, .mv (.tmp 8)⟩,
    ⟨some 62, none, .call 25 [(.tmp 61)]⟩])
  (.seq (.ops [⟨some 64, none, .mv (.tmp 0)⟩,
    ⟨some 65, none, .mv (.tmp 1)⟩,
    ⟨some 66, none, .bsl 25 1 1 #[(.slice none 0 0)] [(0, (.tmp 65))]⟩,
    ⟨some 67, none, .call 12 [(.tmp 64), (.tmp 66)]⟩,
    ⟨some 63, none, .mv (.tmp 67)⟩,
    ⟨some 68, none, .ext (.tmp 63) 0⟩,
    ⟨some 69, none, .ext (.tmp 63) 1⟩,
    ⟨some 10, none, .mv (.tmp 68)⟩,
    ⟨some 11, none, .mv (.tmp 69)⟩])
  (.seq (.ops [⟨some 70, none, .mv (.tmp 9)⟩,
    ⟨some 71, none, .mv (.tmp 10)⟩,
    ⟨some 72, none, .call 15 [(.tmp 70), (.tmp 71)]⟩,
    ⟨some 73, none, .mv (.tmp 72)⟩,
    ⟨some 74, some (73, true), .mv (.tmp 6)⟩,
    ⟨some 75, some (73, true), .call 23 [(.tmp 74)]⟩,
    ⟨some 76, some (73, true), .mv (.tmp 10)⟩,
    ⟨some 77, some (73, true), .call 15 [(.tmp 75), (.tmp 76)]⟩,
    ⟨some 78, none, .pick (.tmp 73) (.tmp 77) (.const (.bool false))⟩,
    ⟨some 79, none, .mv (.tmp 78)⟩,
    ⟨some 80, some (79, true), .call 10 []⟩,
    ⟨some 81, none, .pick (.tmp 79) (.tmp 80) (.const (.bool false))⟩,
    ⟨some 4, none, .mv (.tmp 81)⟩])
  .ret)))))))))))))⟩
theorem h8 : strF Tryd.prog [] Tryd.f8 = some c8 := by kernel_rfl

/-- chirograph/chirographlaw02.much -/
def c9 : Fun := ⟨33, [.inl 4],
  (.seq (.ops [⟨some 4, none, .mv (.const (.bool false))⟩])
  (.seq (.ops [⟨some 5, none, .mv (.const (.int .i64 0))⟩])
  (.seq (.seq (.ops [⟨some 6, none, .mv (.const (.int .i64 0))⟩])
  (.block 0
    (.loop
      (.seq (.seq (.ops [⟨some 7, none, .mv (.tmp 6)⟩,
        ⟨some 8, none, .mv (.tmp 0)⟩,
        ⟨some 9, none, .len (.tmp 8)⟩,
        ⟨some 10, none, .bin .lss (.tmp 7) (.tmp 9)⟩])
      (.cond (.tmp 10)
        .skip
        (.exit 0)))
      (.seq (.block 1
        (.seq (.seq (.ops [⟨some 13, none, .mv (.tmp 0)⟩,
          ⟨some 14, none, .mv (.tmp 6)⟩,
          ⟨some 15, none, .ia 1 (.tmp 13) (.tmp 14)⟩,
          ⟨some 16, none, .ld .slice (.tmp 15)⟩,
          ⟨some 17, none, .len (.tmp 16)⟩,
          ⟨some 18, none, .mv (.tmp 1)⟩,
          ⟨some 19, none, .mv (.tmp 5)⟩,
          ⟨some 20, none, .bin .sub (.tmp 18) (.tmp 19)⟩,
          ⟨some 21, none, .bin .gtr (.tmp 17) (.tmp 20)⟩,
          ⟨some 22, none, .mv (.tmp 21)⟩,
          ⟨some 23, some (22, false), .mv (.tmp 6)⟩,
          ⟨some 24, some (22, false), .bin .geq (.tmp 23) (.const (.int .i64 1000))⟩,
          ⟨some 25, none, .pick (.tmp 22) (.const (.bool true)) (.tmp 24)⟩])
        (.cond (.tmp 25)
          (.seq (.ops [⟨some 4, none, .mv (.const (.bool true))⟩])
          .ret)
          .skip))
        (.ops [⟨some 26, none, .mv (.tmp 5)⟩,
          ⟨some 27, none, .mv (.tmp 0)⟩,
          ⟨some 28, none, .mv (.tmp 6)⟩,
          ⟨some 29, none, .ia 1 (.tmp 27) (.tmp 28)⟩,
          ⟨some 30, none, .ld .slice (.tmp 29)⟩,
          ⟨some 31, none, .len (.tmp 30)⟩,
          ⟨some 32, none, .bin .add (.tmp 26) (.tmp 31)⟩,
          ⟨some 5, none, .mv (.tmp 32)⟩])))
      (.ops [⟨some 11, none, .mv (.tmp 6)⟩,
        ⟨some 12, none, .bin .add (.tmp 11) (.const (.int .i64 1))⟩,
        ⟨some 6, none, .mv (.tmp 12)⟩]))))))
  (.seq (.ops [⟨some 4, none, .mv (.const (.bool false))⟩])
  .ret))))⟩
theorem h9 : strF Tryd.prog [] Tryd.f9 = some c9 := by kernel_rfl

/-- chirograph/chirographlaw02.live -/
def c10 : Fun := ⟨22, [.inl 0],
  (.seq (.ops [⟨some 0, none, .mv (.const (.bool false))⟩])
  (.seq (.ops [⟨some 4, none, .bsl 5 1 3 #[(.int .u8 0)] [(0, (.const (.int .u8 97))), (1, (.const (.int .u8 98))), (2, (.const (.int .u8 99)))]⟩,
    ⟨some 5, none, .cvid (.tmp 4)⟩,
    ⟨some 6, none, .bsl 25 1 1 #[(.slice none 0 0)] [(0, (.tmp 5))]⟩,
    ⟨some 7, none, .call 12 [(.const (.int .i64 1)), (.tmp 6)]⟩,
    ⟨some 3, none, .mv (.tmp 7)⟩,
    ⟨some 8, none, .ext (.tmp 3) 0⟩,
    ⟨some 9, none, .ext (.tmp 3) 1⟩,
    ⟨some 1, none, .mv (.tmp 8)⟩,
    ⟨some 2, none, .mv (.tmp 9)⟩])
  (.seq (.ops [⟨some 10, none, .mv (.tmp 2)⟩,
    ⟨some 11, none, .call 16 [(.tmp 10)]⟩,
    ⟨some 12, none, .bin .eql (.tmp 11) (.const (.int .i64 0))⟩,
    ⟨some 13, none, .mv (.tmp 12)⟩,
    ⟨some 14, some (13, true), .mv (.tmp 1)⟩,
    ⟨some 15, some (13, true), .cvbs (.tmp 14)⟩,
    ⟨some 16, some (13, true), .bin .eql (.tmp 15) (.const (.string ⟨#[169, 153, 62, 54, 71, 6, 129, 106, 186, 62, 37, 113, 120, 80, 194, 108, 156, 208, 216, 157]⟩))⟩,
    ⟨some 17, none, .pick (.tmp 13) (.tmp 16) (.const (.bool false))⟩,
    ⟨some 18, none, .mv (.tmp 17)⟩,
    ⟨some 19, some (18, true), .call 17 [(.const (.int .i64 1))]⟩,
    ⟨some 20, some (18, true), .bin .eql (.tmp 19) (.const (.int .i64 20))⟩,
    ⟨some 21, none, .pick (.tmp 18) (.tmp 20) (.const (.bool false))⟩,
    ⟨some 0, none, .mv (.tmp 21)⟩])
  .ret)))⟩
theorem h10 : strF Tryd.prog [] Tryd.f10 = some c10 := by kernel_rfl

/-- chirograph/chirographlaw02.num -/
def c16 : Fun := ⟨4, [.inl 2],
  (.seq (.ops [⟨some 2, none, .mv (.const (.int .i64 0))⟩])
  (.seq (.ops [⟨some 3, none, .mv (.tmp 0)⟩,
    ⟨some 2, none, .mv (.tmp 3)⟩])
  .ret))⟩
theorem h16 : strF Tryd.prog [] Tryd.f16 = some c16 := by kernel_rfl

end Go.Proofs.YtibccpfocbdmaaaDoor.Code
