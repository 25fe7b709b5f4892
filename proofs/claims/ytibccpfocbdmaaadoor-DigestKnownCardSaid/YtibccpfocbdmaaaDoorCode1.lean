/- The functions as the engine has them: by program, out of the translation. -/
import Derived.Test.YtibccpfocbdmaaaDoorEngE
import Derived.Test.YtibccpfocbdmaaaDoorProg
set_option maxRecDepth 100000
namespace Go.Proofs.YtibccpfocbdmaaaDoor.Code
open Go Go.Proofs Go.Proofs.YtibccpfocbdmaaaDoor.Eng

/-- chirograph/chirographref02.sha256 -/
def c31 : Fun := ⟨249, [.inl 2],
  (.seq (.ops [⟨some 2, none, .mv (.const (.slice none 0 0))⟩])
  (.seq (.ops [⟨some 24, none, .call 37 []⟩,
    ⟨some 3, none, .alloc 62 (.agg (Array.replicate 64 (.int .u32 0)))⟩,
    ⟨none, none, .st 64 (.tmp 3) (.tmp 24)⟩])
  (.seq (.ops [⟨some 25, none, .bld (Array.replicate 8 (.int .u32 0)) [(0, 1), (1, 1), (2, 1), (3, 1), (4, 1), (5, 1), (6, 1), (7, 1)] [(0, (.const (.int .u32 1779033703))), (1, (.const (.int .u32 3144134277))), (2, (.const (.int .u32 1013904242))), (3, (.const (.int .u32 2773480762))), (4, (.const (.int .u32 1359893119))), (5, (.const (.int .u32 2600822924))), (6, (.const (.int .u32 528734635))), (7, (.const (.int .u32 1541459225)))]⟩,
    ⟨some 4, none, .alloc 49 (.agg (Array.replicate 8 (.int .u32 0)))⟩,
    ⟨none, none, .st 8 (.tmp 4) (.tmp 25)⟩])
  (.seq (.seq (.ops [⟨some 5, none, .mv (.const (.int .i64 0))⟩])
  (.block 0
    (.loop
      (.seq (.seq (.ops [⟨some 26, none, .mv (.tmp 5)⟩,
        ⟨some 27, none, .mv (.tmp 0)⟩,
        ⟨some 28, none, .len (.tmp 27)⟩,
        ⟨some 29, none, .bin .lss (.tmp 26) (.tmp 28)⟩])
      (.cond (.tmp 29)
        .skip
        (.exit 0)))
      (.seq (.block 1
        (.seq (.ops [⟨some 6, none, .alloc 62 (.agg (Array.replicate 64 (.int .u32 0)))⟩])
        (.seq (.seq (.ops [⟨some 7, none, .mv (.const (.int .i64 0))⟩])
        (.block 2
          (.loop
            (.seq (.seq (.ops [⟨some 32, none, .mv (.tmp 7)⟩,
              ⟨some 33, none, .bin .lss (.tmp 32) (.const (.int .i64 64))⟩])
            (.cond (.tmp 33)
              .skip
              (.exit 2)))
            (.join (.block 3
              (.seq (.seq (.ops [⟨some 36, none, .mv (.tmp 7)⟩,
                ⟨some 37, none, .bin .lss (.tmp 36) (.const (.int .i64 16))⟩])
              (.cond (.tmp 37)
                (.seq (.ops [⟨some 38, none, .mv (.tmp 0)⟩,
                  ⟨some 39, none, .mv (.tmp 5)⟩,
                  ⟨some 40, none, .mv (.tmp 7)⟩,
                  ⟨some 41, none, .bin .mul (.const (.int .i64 4)) (.tmp 40)⟩,
                  ⟨some 42, none, .bin .add (.tmp 39) (.tmp 41)⟩,
                  ⟨some 43, none, .mv (.tmp 5)⟩,
                  ⟨some 44, none, .mv (.tmp 7)⟩,
                  ⟨some 45, none, .bin .mul (.const (.int .i64 4)) (.tmp 44)⟩,
                  ⟨some 46, none, .bin .add (.tmp 43) (.tmp 45)⟩,
                  ⟨some 47, none, .bin .add (.tmp 46) (.const (.int .i64 4))⟩,
                  ⟨some 48, none, .slc 1 (.tmp 38) (some (.tmp 42)) (some (.tmp 47)) none⟩,
                  ⟨some 8, none, .mv (.tmp 48)⟩])
                (.seq (.draw 24 [⟨some 49, none, .mv (.tmp 7)⟩,
                  ⟨some 50, none, .mv (.tmp 8)⟩,
                  ⟨some 51, none, .ia 1 (.tmp 50) (.const (.int .i64 0))⟩,
                  ⟨some 52, none, .ld (.int .u8) (.tmp 51)⟩,
                  ⟨some 53, none, .cv .u32 (.tmp 52)⟩,
                  ⟨some 54, none, .bin .shl (.tmp 53) (.const (.int .u64 24))⟩,
                  ⟨some 55, none, .mv (.tmp 8)⟩,
                  ⟨some 56, none, .ia 1 (.tmp 55) (.const (.int .i64 1))⟩,
                  ⟨some 57, none, .ld (.int .u8) (.tmp 56)⟩,
                  ⟨some 58, none, .cv .u32 (.tmp 57)⟩,
                  ⟨some 59, none, .bin .shl (.tmp 58) (.const (.int .u64 16))⟩,
                  ⟨some 60, none, .bin .add (.tmp 54) (.tmp 59)⟩,
                  ⟨some 61, none, .mv (.tmp 8)⟩,
                  ⟨some 62, none, .ia 1 (.tmp 61) (.const (.int .i64 2))⟩,
                  ⟨some 63, none, .ld (.int .u8) (.tmp 62)⟩,
                  ⟨some 64, none, .cv .u32 (.tmp 63)⟩,
                  ⟨some 65, none, .bin .shl (.tmp 64) (.const (.int .u64 8))⟩,
                  ⟨some 66, none, .bin .add (.tmp 60) (.tmp 65)⟩,
                  ⟨some 67, none, .mv (.tmp 8)⟩,
                  ⟨some 68, none, .ia 1 (.tmp 67) (.const (.int .i64 3))⟩,
                  ⟨some 69, none, .ld (.int .u8) (.tmp 68)⟩,
                  ⟨some 70, none, .cv .u32 (.tmp 69)⟩,
                  ⟨some 71, none, .bin .add (.tmp 66) (.tmp 70)⟩,
                  ⟨some 72, none, .iaA 64 1 (.tmp 6) (.tmp 49)⟩,
                  ⟨none, none, .st 1 (.tmp 72) (.tmp 71)⟩])
                (.exit 3)))
                .skip))
              (.seq (.draw 10 [⟨some 73, none, .mv (.tmp 7)⟩,
                ⟨some 74, none, .bin .sub (.tmp 73) (.const (.int .i64 15))⟩,
                ⟨some 75, none, .iaA 64 1 (.tmp 6) (.tmp 74)⟩,
                ⟨some 76, none, .ld (.int .u32) (.tmp 75)⟩,
                ⟨some 77, none, .mv (.tmp 7)⟩,
                ⟨some 78, none, .bin .sub (.tmp 77) (.const (.int .i64 2))⟩,
                ⟨some 79, none, .iaA 64 1 (.tmp 6) (.tmp 78)⟩,
                ⟨some 80, none, .ld (.int .u32) (.tmp 79)⟩,
                ⟨some 9, none, .mv (.tmp 76)⟩,
                ⟨some 10, none, .mv (.tmp 80)⟩])
              (.draw 29 [⟨some 81, none, .mv (.tmp 7)⟩,
                ⟨some 82, none, .mv (.tmp 10)⟩,
                ⟨some 83, none, .call 38 [(.tmp 82), (.const (.int .i64 17))]⟩,
                ⟨some 84, none, .mv (.tmp 10)⟩,
                ⟨some 85, none, .call 38 [(.tmp 84), (.const (.int .i64 19))]⟩,
                ⟨some 86, none, .bin .xor (.tmp 83) (.tmp 85)⟩,
                ⟨some 87, none, .mv (.tmp 10)⟩,
                ⟨some 88, none, .bin .shr (.tmp 87) (.const (.int .u64 10))⟩,
                ⟨some 89, none, .bin .xor (.tmp 86) (.tmp 88)⟩,
                ⟨some 90, none, .mv (.tmp 7)⟩,
                ⟨some 91, none, .bin .sub (.tmp 90) (.const (.int .i64 7))⟩,
                ⟨some 92, none, .iaA 64 1 (.tmp 6) (.tmp 91)⟩,
                ⟨some 93, none, .ld (.int .u32) (.tmp 92)⟩,
                ⟨some 94, none, .bin .add (.tmp 89) (.tmp 93)⟩,
                ⟨some 95, none, .mv (.tmp 9)⟩,
                ⟨some 96, none, .call 38 [(.tmp 95), (.const (.int .i64 7))]⟩,
                ⟨some 97, none, .mv (.tmp 9)⟩,
                ⟨some 98, none, .call 38 [(.tmp 97), (.const (.int .i64 18))]⟩,
                ⟨some 99, none, .bin .xor (.tmp 96) (.tmp 98)⟩,
                ⟨some 100, none, .mv (.tmp 9)⟩,
                ⟨some 101, none, .bin .shr (.tmp 100) (.const (.int .u64 3))⟩,
                ⟨some 102, none, .bin .xor (.tmp 99) (.tmp 101)⟩,
                ⟨some 103, none, .bin .add (.tmp 94) (.tmp 102)⟩,
                ⟨some 104, none, .mv (.tmp 7)⟩,
                ⟨some 105, none, .bin .sub (.tmp 104) (.const (.int .i64 16))⟩,
                ⟨some 106, none, .iaA 64 1 (.tmp 6) (.tmp 105)⟩,
                ⟨some 107, none, .ld (.int .u32) (.tmp 106)⟩,
                ⟨some 108, none, .bin .add (.tmp 103) (.tmp 107)⟩,
                ⟨some 109, none, .iaA 64 1 (.tmp 6) (.tmp 81)⟩,
                ⟨none, none, .st 1 (.tmp 109) (.tmp 108)⟩]))))
            (.ops [⟨some 34, none, .mv (.tmp 7)⟩,
              ⟨some 35, none, .bin .add (.tmp 34) (.const (.int .i64 1))⟩,
              ⟨some 7, none, .mv (.tmp 35)⟩]))))))
        (.seq (.draw 24 [⟨some 110, none, .iaA 8 1 (.tmp 4) (.const (.int .i64 0))⟩,
          ⟨some 111, none, .ld (.int .u32) (.tmp 110)⟩,
          ⟨some 112, none, .iaA 8 1 (.tmp 4) (.const (.int .i64 1))⟩,
          ⟨some 113, none, .ld (.int .u32) (.tmp 112)⟩,
          ⟨some 114, none, .iaA 8 1 (.tmp 4) (.const (.int .i64 2))⟩,
          ⟨some 115, none, .ld (.int .u32) (.tmp 114)⟩,
          ⟨some 116, none, .iaA 8 1 (.tmp 4) (.const (.int .i64 3))⟩,
          ⟨some 117, none, .ld (.int .u32) (.tmp 116)⟩,
          ⟨some 118, none, .iaA 8 1 (.tmp 4) (.const (.int .i64 4))⟩,
          ⟨some 119, none, .ld (.int .u32) (.tmp 118)⟩,
          ⟨some 120, none, .iaA 8 1 (.tmp 4) (.const (.int .i64 5))⟩,
          ⟨some 121, none, .ld (.int .u32) (.tmp 120)⟩,
          ⟨some 122, none, .iaA 8 1 (.tmp 4) (.const (.int .i64 6))⟩,
          ⟨some 123, none, .ld (.int .u32) (.tmp 122)⟩,
          ⟨some 124, none, .iaA 8 1 (.tmp 4) (.const (.int .i64 7))⟩,
          ⟨some 125, none, .ld (.int .u32) (.tmp 124)⟩,
          ⟨some 11, none, .mv (.tmp 111)⟩,
          ⟨some 12, none, .mv (.tmp 113)⟩,
          ⟨some 13, none, .mv (.tmp 115)⟩,
          ⟨some 14, none, .mv (.tmp 117)⟩,
          ⟨some 15, none, .mv (.tmp 119)⟩,
          ⟨some 16, none, .mv (.tmp 121)⟩,
          ⟨some 17, none, .mv (.tmp 123)⟩,
          ⟨some 18, none, .mv (.tmp 125)⟩])
        (.seq (.seq (.ops [⟨some 19, none, .mv (.const (.int .i64 0))⟩])
        (.block 4
          (.loop
            (.seq (.seq (.ops [⟨some 126, none, .mv (.tmp 19)⟩,
              ⟨some 127, none, .bin .lss (.tmp 126) (.const (.int .i64 64))⟩])
            (.cond (.tmp 127)
              .skip
              (.exit 4)))
            (.seq (.block 5
              (.seq (.draw 28 [⟨some 130, none, .mv (.tmp 18)⟩,
                ⟨some 131, none, .mv (.tmp 15)⟩,
                ⟨some 132, none, .call 38 [(.tmp 131), (.const (.int .i64 6))]⟩,
                ⟨some 133, none, .mv (.tmp 15)⟩,
                ⟨some 134, none, .call 38 [(.tmp 133), (.const (.int .i64 11))]⟩,
                ⟨some 135, none, .bin .xor (.tmp 132) (.tmp 134)⟩,
                ⟨some 136, none, .mv (.tmp 15)⟩,
                ⟨some 137, none, .call 38 [(.tmp 136), (.const (.int .i64 25))]⟩,
                ⟨some 138, none, .bin .xor (.tmp 135) (.tmp 137)⟩,
                ⟨some 139, none, .bin .add (.tmp 130) (.tmp 138)⟩,
                ⟨some 140, none, .mv (.tmp 15)⟩,
                ⟨some 141, none, .mv (.tmp 16)⟩,
                ⟨some 142, none, .bin .and (.tmp 140) (.tmp 141)⟩,
                ⟨some 143, none, .mv (.tmp 15)⟩,
                ⟨some 144, none, .un .xor (.tmp 143)⟩,
                ⟨some 145, none, .mv (.tmp 17)⟩,
                ⟨some 146, none, .bin .and (.tmp 144) (.tmp 145)⟩,
                ⟨some 147, none, .bin .xor (.tmp 142) (.tmp 146)⟩,
                ⟨some 148, none, .bin .add (.tmp 139) (.tmp 147)⟩,
                ⟨some 149, none, .mv (.tmp 19)⟩,
                ⟨some 150, none, .iaA 64 1 (.tmp 3) (.tmp 149)⟩,
                ⟨some 151, none, .ld (.int .u32) (.tmp 150)⟩,
                ⟨some 152, none, .bin .add (.tmp 148) (.tmp 151)⟩,
                ⟨some 153, none, .mv (.tmp 19)⟩,
                ⟨some 154, none, .iaA 64 1 (.tmp 6) (.tmp 153)⟩,
                ⟨some 155, none, .ld (.int .u32) (.tmp 154)⟩,
                ⟨some 156, none, .bin .add (.tmp 152) (.tmp 155)⟩,
                ⟨some 20, none, .mv (.tmp 156)⟩])
              (.seq (.ops [⟨some 157, none, .mv (.tmp 11)⟩,
                ⟨some 158, none, .call 38 [(.tmp 157), (.const (.int .i64 2))]⟩,
                ⟨some 159, none, .mv (.tmp 11)⟩,
                ⟨some 160, none, .call 38 [(.tmp 159), (.const (.int .i64 13))]⟩,
                ⟨some 161, none, .bin .xor (.tmp 158) (.tmp 160)⟩,
                ⟨some 162, none, .mv (.tmp 11)⟩,
                ⟨some 163, none, .call 38 [(.tmp 162), (.const (.int .i64 22))]⟩,
                ⟨some 164, none, .bin .xor (.tmp 161) (.tmp 163)⟩,
                ⟨some 165, none, .mv (.tmp 11)⟩,
                ⟨some 166, none, .mv (.tmp 12)⟩,
                ⟨some 167, none, .bin .and (.tmp 165) (.tmp 166)⟩,
                ⟨some 168, none, .mv (.tmp 11)⟩,
                ⟨some 169, none, .mv (.tmp 13)⟩,
                ⟨some 170, none, .bin .and (.tmp 168) (.tmp 169)⟩,
                ⟨some 171, none, .bin .xor (.tmp 167) (.tmp 170)⟩,
                ⟨some 172, none, .mv (.tmp 12)⟩,
                ⟨some 173, none, .mv (.tmp 13)⟩,
                ⟨some 174, none, .bin .and (.tmp 172) (.tmp 173)⟩,
                ⟨some 175, none, .bin .xor (.tmp 171) (.tmp 174)⟩,
                ⟨some 176, none, .bin .add (.tmp 164) (.tmp 175)⟩,
                ⟨some 21, none, .mv (.tmp 176)⟩])
              (.ops [⟨some 177, none, .mv (.tmp 17)⟩,
                ⟨some 178, none, .mv (.tmp 16)⟩,
                ⟨some 179, none, .mv (.tmp 15)⟩,
                ⟨some 180, none, .mv (.tmp 14)⟩,
                ⟨some 181, none, .mv (.tmp 20)⟩,
                ⟨some 182, none, .bin .add (.tmp 180) (.tmp 181)⟩,
                ⟨some 183, none, .mv (.tmp 13)⟩,
                ⟨some 184, none, .mv (.tmp 12)⟩,
                ⟨some 185, none, .mv (.tmp 11)⟩,
                ⟨some 186, none, .mv (.tmp 20)⟩,
                ⟨some 187, none, .mv (.tmp 21)⟩,
                ⟨some 188, none, .bin .add (.tmp 186) (.tmp 187)⟩,
                ⟨some 18, none, .mv (.tmp 177)⟩,
                ⟨some 17, none, .mv (.tmp 178)⟩,
                ⟨some 16, none, .mv (.tmp 179)⟩,
                ⟨some 15, none, .mv (.tmp 182)⟩,
                ⟨some 14, none, .mv (.tmp 183)⟩,
                ⟨some 13, none, .mv (.tmp 184)⟩,
                ⟨some 12, none, .mv (.tmp 185)⟩,
                ⟨some 11, none, .mv (.tmp 188)⟩]))))
            (.ops [⟨some 128, none, .mv (.tmp 19)⟩,
              ⟨some 129, none, .bin .add (.tmp 128) (.const (.int .i64 1))⟩,
              ⟨some 19, none, .mv (.tmp 129)⟩]))))))
        (.ops [⟨some 189, none, .iaA 8 1 (.tmp 4) (.const (.int .i64 0))⟩,
          ⟨some 190, none, .ld (.int .u32) (.tmp 189)⟩,
          ⟨some 191, none, .mv (.tmp 11)⟩,
          ⟨some 192, none, .bin .add (.tmp 190) (.tmp 191)⟩,
          ⟨some 193, none, .iaA 8 1 (.tmp 4) (.const (.int .i64 1))⟩,
          ⟨some 194, none, .ld (.int .u32) (.tmp 193)⟩,
          ⟨some 195, none, .mv (.tmp 12)⟩,
          ⟨some 196, none, .bin .add (.tmp 194) (.tmp 195)⟩,
          ⟨some 197, none, .iaA 8 1 (.tmp 4) (.const (.int .i64 2))⟩,
          ⟨some 198, none, .ld (.int .u32) (.tmp 197)⟩,
          ⟨some 199, none, .mv (.tmp 13)⟩,
          ⟨some 200, none, .bin .add (.tmp 198) (.tmp 199)⟩,
          ⟨some 201, none, .iaA 8 1 (.tmp 4) (.const (.int .i64 3))⟩,
          ⟨some 202, none, .ld (.int .u32) (.tmp 201)⟩,
          ⟨some 203, none, .mv (.tmp 14)⟩,
          ⟨some 204, none, .bin .add (.tmp 202) (.tmp 203)⟩,
          ⟨some 205, none, .iaA 8 1 (.tmp 4) (.const (.int .i64 4))⟩,
          ⟨some 206, none, .ld (.int .u32) (.tmp 205)⟩,
          ⟨some 207, none, .mv (.tmp 15)⟩,
          ⟨some 208, none, .bin .add (.tmp 206) (.tmp 207)⟩,
          ⟨some 209, none, .iaA 8 1 (.tmp 4) (.const (.int .i64 5))⟩,
          ⟨some 210, none, .ld (.int .u32) (.tmp 209)⟩,
          ⟨some 211, none, .mv (.tmp 16)⟩,
          ⟨some 212, none, .bin .add (.tmp 210) (.tmp 211)⟩,
          ⟨some 213, none, .iaA 8 1 (.tmp 4) (.const (.int .i64 6))⟩,
          ⟨some 214, none, .ld (.int .u32) (.tmp 213)⟩,
          ⟨some 215, none, .mv (.tmp 17)⟩,
          ⟨some 216, none, .bin .add (.tmp 214) (.tmp 215)⟩,
          ⟨some 217, none, .iaA 8 1 (.tmp 4) (.const (.int .i64 7))⟩,
          ⟨some 218, none, .ld (.int .u32) (.tmp 217)⟩,
          ⟨some 219, none, .mv (.tmp 18)⟩,
          ⟨some 220, none, .bin .add (.tmp 218) (.tmp 219)⟩,
          ⟨some 221, none, .bld (Array.replicate 8 (.int .u32 0)) [(0, 1), (1, 1), (2, 1), (3, 1), (4, 1), (5, 1), (6, 1), (7, 1)] [(0, (.tmp 192)), (1, (.tmp 196)), (2, (.tmp 200)), (3, (.tmp 204)), (4, (.tmp 208)), (5, (.tmp 212)), (6, (.tmp 216)), (7, (.tmp 220))]⟩,
          ⟨none, none, .st 8 (.tmp 4) (.tmp 221)⟩]))))))
      (.ops [⟨some 30, none, .mv (.tmp 5)⟩,
        ⟨some 31, none, .bin .add (.tmp 30) (.const (.int .i64 64))⟩,
        ⟨some 5, none, .mv (.tmp 31)⟩]))))))
  (.seq (.ops [⟨some 22, none, .mv (.const (.slice none 0 0))⟩])
  (.seq (.seq (.ops [⟨some 23, none, .mv (.const (.int .i64 0))⟩])
  (.block 6
    (.loop
      (.seq (.seq (.ops [⟨some 222, none, .mv (.tmp 23)⟩,
        ⟨some 223, none, .bin .lss (.tmp 222) (.const (.int .i64 8))⟩])
      (.cond (.tmp 223)
        .skip
        (.exit 6)))
      (.seq (.block 7
        (.drawS [(0, 0), (0, 1), (0, 2), (0, 6), (0, 7), (0, 11), (0, 12), (0, 16), (0, 17), (1, 3), (0, 4), (0, 5), (1, 8), (0, 9), (0, 10), (1, 13), (0, 14), (0, 15), (1, 18), (0, 19), (2, 20), (2, 21), (0, 22)]
          [⟨some 226, none, .mv (.tmp 22)⟩,
          ⟨some 227, none, .mv (.tmp 23)⟩,
          ⟨some 228, none, .iaA 8 1 (.tmp 4) (.tmp 227)⟩,
          ⟨some 229, none, .ld (.int .u32) (.tmp 228)⟩,
          ⟨some 230, none, .bin .shr (.tmp 229) (.const (.int .u64 24))⟩,
          ⟨some 231, none, .cv .u8 (.tmp 230)⟩,
          ⟨some 232, none, .mv (.tmp 23)⟩,
          ⟨some 233, none, .iaA 8 1 (.tmp 4) (.tmp 232)⟩,
          ⟨some 234, none, .ld (.int .u32) (.tmp 233)⟩,
          ⟨some 235, none, .bin .shr (.tmp 234) (.const (.int .u64 16))⟩,
          ⟨some 236, none, .cv .u8 (.tmp 235)⟩,
          ⟨some 237, none, .mv (.tmp 23)⟩,
          ⟨some 238, none, .iaA 8 1 (.tmp 4) (.tmp 237)⟩,
          ⟨some 239, none, .ld (.int .u32) (.tmp 238)⟩,
          ⟨some 240, none, .bin .shr (.tmp 239) (.const (.int .u64 8))⟩,
          ⟨some 241, none, .cv .u8 (.tmp 240)⟩,
          ⟨some 242, none, .mv (.tmp 23)⟩,
          ⟨some 243, none, .iaA 8 1 (.tmp 4) (.tmp 242)⟩,
          ⟨some 244, none, .ld (.int .u32) (.tmp 243)⟩,
          ⟨some 245, none, .cv .u8 (.tmp 244)⟩,
          ⟨some 246, none, .bsl 5 1 4 #[(.int .u8 0)] [(0, (.tmp 231)), (1, (.tmp 236)), (2, (.tmp 241)), (3, (.tmp 245))]⟩,
          ⟨some 247, none, .app 5 1 1 #[(.int .u8 0)] (.tmp 226) (.tmp 246)⟩,
          ⟨some 22, none, .mv (.tmp 247)⟩]))
      (.ops [⟨some 224, none, .mv (.tmp 23)⟩,
        ⟨some 225, none, .bin .add (.tmp 224) (.const (.int .i64 1))⟩,
        ⟨some 23, none, .mv (.tmp 225)⟩]))))))
  (.seq (.ops [⟨some 248, none, .mv (.tmp 22)⟩,
    ⟨some 2, none, .mv (.tmp 248)⟩])
  .ret)))))))⟩
theorem h31 : strF Tryd.prog [(27, [(0, 0), (0, 1), (0, 2), (0, 6), (0, 7), (0, 11), (0, 12), (0, 16), (0, 17), (1, 3), (0, 4), (0, 5), (1, 8), (0, 9), (0, 10), (1, 13), (0, 14), (0, 15), (1, 18), (0, 19), (2, 20), (2, 21), (0, 22)])] Tryd.f31 = some c31 := by kernel_rfl

/-- chirograph/chirographref02.sha512 -/
def c32 : Fun := ⟨227, [.inl 4],
  (.seq (.ops [⟨some 3, none, .box 51 (.tmp 1)⟩,
    ⟨some 4, none, .mv (.const (.slice none 0 0))⟩])
  (.seq (.ops [⟨some 26, none, .call 39 []⟩,
    ⟨some 5, none, .alloc 64 (.agg (Array.replicate 80 (.int .u64 0)))⟩,
    ⟨none, none, .st 80 (.tmp 5) (.tmp 26)⟩])
  (.seq (.seq (.ops [⟨some 6, none, .mv (.const (.int .i64 0))⟩])
  (.block 0
    (.loop
      (.seq (.seq (.ops [⟨some 27, none, .mv (.tmp 6)⟩,
        ⟨some 28, none, .mv (.tmp 0)⟩,
        ⟨some 29, none, .len (.tmp 28)⟩,
        ⟨some 30, none, .bin .lss (.tmp 27) (.tmp 29)⟩])
      (.cond (.tmp 30)
        .skip
        (.exit 0)))
      (.seq (.block 1
        (.seq (.ops [⟨some 7, none, .alloc 64 (.agg (Array.replicate 80 (.int .u64 0)))⟩])
        (.seq (.seq (.ops [⟨some 8, none, .mv (.const (.int .i64 0))⟩])
        (.block 2
          (.loop
            (.seq (.seq (.ops [⟨some 33, none, .mv (.tmp 8)⟩,
              ⟨some 34, none, .bin .lss (.tmp 33) (.const (.int .i64 80))⟩])
            (.cond (.tmp 34)
              .skip
              (.exit 2)))
            (.join (.block 3
              (.seq (.seq (.ops [⟨some 37, none, .mv (.tmp 8)⟩,
                ⟨some 38, none, .bin .lss (.tmp 37) (.const (.int .i64 16))⟩])
              (.cond (.tmp 38)
                (.seq (.seq (.ops [⟨some 9, none, .mv (.const (.int .i64 0))⟩])
                (.block 4
                  (.loop
                    (.seq (.seq (.ops [⟨some 39, none, .mv (.tmp 9)⟩,
                      ⟨some 40, none, .bin .lss (.tmp 39) (.const (.int .i64 8))⟩])
                    (.cond (.tmp 40)
                      .skip
                      (.exit 4)))
                    (.seq (.block 5
                      (.draw 17 [⟨some 43, none, .mv (.tmp 8)⟩,
                        ⟨some 44, none, .mv (.tmp 8)⟩,
                        ⟨some 45, none, .iaA 80 1 (.tmp 7) (.tmp 44)⟩,
                        ⟨some 46, none, .ld (.int .u64) (.tmp 45)⟩,
                        ⟨some 47, none, .bin .mul (.tmp 46) (.const (.int .u64 256))⟩,
                        ⟨some 48, none, .mv (.tmp 0)⟩,
                        ⟨some 49, none, .mv (.tmp 6)⟩,
                        ⟨some 50, none, .mv (.tmp 8)⟩,
                        ⟨some 51, none, .bin .mul (.const (.int .i64 8)) (.tmp 50)⟩,
                        ⟨some 52, none, .bin .add (.tmp 49) (.tmp 51)⟩,
                        ⟨some 53, none, .mv (.tmp 9)⟩,
                        ⟨some 54, none, .bin .add (.tmp 52) (.tmp 53)⟩,
                        ⟨some 55, none, .ia 1 (.tmp 48) (.tmp 54)⟩,
                        ⟨some 56, none, .ld (.int .u8) (.tmp 55)⟩,
                        ⟨some 57, none, .cv .u64 (.tmp 56)⟩,
                        ⟨some 58, none, .bin .add (.tmp 47) (.tmp 57)⟩,
                        ⟨some 59, none, .iaA 80 1 (.tmp 7) (.tmp 43)⟩,
                        ⟨none, none, .st 1 (.tmp 59) (.tmp 58)⟩]))
                    (.ops [⟨some 41, none, .mv (.tmp 9)⟩,
                      ⟨some 42, none, .bin .add (.tmp 41) (.const (.int .i64 1))⟩,
                      ⟨some 9, none, .mv (.tmp 42)⟩]))))))
                (.exit 3))
                .skip))
              (.seq (.draw 10 [⟨some 60, none, .mv (.tmp 8)⟩,
                ⟨some 61, none, .bin .sub (.tmp 60) (.const (.int .i64 15))⟩,
                ⟨some 62, none, .iaA 80 1 (.tmp 7) (.tmp 61)⟩,
                ⟨some 63, none, .ld (.int .u64) (.tmp 62)⟩,
                ⟨some 64, none, .mv (.tmp 8)⟩,
                ⟨some 65, none, .bin .sub (.tmp 64) (.const (.int .i64 2))⟩,
                ⟨some 66, none, .iaA 80 1 (.tmp 7) (.tmp 65)⟩,
                ⟨some 67, none, .ld (.int .u64) (.tmp 66)⟩,
                ⟨some 10, none, .mv (.tmp 63)⟩,
                ⟨some 11, none, .mv (.tmp 67)⟩])
              (.draw 29 [⟨some 68, none, .mv (.tmp 8)⟩,
                ⟨some 69, none, .mv (.tmp 11)⟩,
                ⟨some 70, none, .call 40 [(.tmp 69), (.const (.int .i64 19))]⟩,
                ⟨some 71, none, .mv (.tmp 11)⟩,
                ⟨some 72, none, .call 40 [(.tmp 71), (.const (.int .i64 61))]⟩,
                ⟨some 73, none, .bin .xor (.tmp 70) (.tmp 72)⟩,
                ⟨some 74, none, .mv (.tmp 11)⟩,
                ⟨some 75, none, .bin .shr (.tmp 74) (.const (.int .u64 6))⟩,
                ⟨some 76, none, .bin .xor (.tmp 73) (.tmp 75)⟩,
                ⟨some 77, none, .mv (.tmp 8)⟩,
                ⟨some 78, none, .bin .sub (.tmp 77) (.const (.int .i64 7))⟩,
                ⟨some 79, none, .iaA 80 1 (.tmp 7) (.tmp 78)⟩,
                ⟨some 80, none, .ld (.int .u64) (.tmp 79)⟩,
                ⟨some 81, none, .bin .add (.tmp 76) (.tmp 80)⟩,
                ⟨some 82, none, .mv (.tmp 10)⟩,
                ⟨some 83, none, .call 40 [(.tmp 82), (.const (.int .i64 1))]⟩,
                ⟨some 84, none, .mv (.tmp 10)⟩,
                ⟨some 85, none, .call 40 [(.tmp 84), (.const (.int .i64 8))]⟩,
                ⟨some 86, none, .bin .xor (.tmp 83) (.tmp 85)⟩,
                ⟨some 87, none, .mv (.tmp 10)⟩,
                ⟨some 88, none, .bin .shr (.tmp 87) (.const (.int .u64 7))⟩,
                ⟨some 89, none, .bin .xor (.tmp 86) (.tmp 88)⟩,
                ⟨some 90, none, .bin .add (.tmp 81) (.tmp 89)⟩,
                ⟨some 91, none, .mv (.tmp 8)⟩,
                ⟨some 92, none, .bin .sub (.tmp 91) (.const (.int .i64 16))⟩,
                ⟨some 93, none, .iaA 80 1 (.tmp 7) (.tmp 92)⟩,
                ⟨some 94, none, .ld (.int .u64) (.tmp 93)⟩,
                ⟨some 95, none, .bin .add (.tmp 90) (.tmp 94)⟩,
                ⟨some 96, none, .iaA 80 1 (.tmp 7) (.tmp 68)⟩,
                ⟨none, none, .st 1 (.tmp 96) (.tmp 95)⟩]))))
            (.ops [⟨some 35, none, .mv (.tmp 8)⟩,
              ⟨some 36, none, .bin .add (.tmp 35) (.const (.int .i64 1))⟩,
              ⟨some 8, none, .mv (.tmp 36)⟩]))))))
        (.seq (.draw 24 [⟨some 97, none, .iaA 8 1 (.tmp 3) (.const (.int .i64 0))⟩,
          ⟨some 98, none, .ld (.int .u64) (.tmp 97)⟩,
          ⟨some 99, none, .iaA 8 1 (.tmp 3) (.const (.int .i64 1))⟩,
          ⟨some 100, none, .ld (.int .u64) (.tmp 99)⟩,
          ⟨some 101, none, .iaA 8 1 (.tmp 3) (.const (.int .i64 2))⟩,
          ⟨some 102, none, .ld (.int .u64) (.tmp 101)⟩,
          ⟨some 103, none, .iaA 8 1 (.tmp 3) (.const (.int .i64 3))⟩,
          ⟨some 104, none, .ld (.int .u64) (.tmp 103)⟩,
          ⟨some 105, none, .iaA 8 1 (.tmp 3) (.const (.int .i64 4))⟩,
          ⟨some 106, none, .ld (.int .u64) (.tmp 105)⟩,
          ⟨some 107, none, .iaA 8 1 (.tmp 3) (.const (.int .i64 5))⟩,
          ⟨some 108, none, .ld (.int .u64) (.tmp 107)⟩,
          ⟨some 109, none, .iaA 8 1 (.tmp 3) (.const (.int .i64 6))⟩,
          ⟨some 110, none, .ld (.int .u64) (.tmp 109)⟩,
          ⟨some 111, none, .iaA 8 1 (.tmp 3) (.const (.int .i64 7))⟩,
          ⟨some 112, none, .ld (.int .u64) (.tmp 111)⟩,
          ⟨some 12, none, .mv (.tmp 98)⟩,
          ⟨some 13, none, .mv (.tmp 100)⟩,
          ⟨some 14, none, .mv (.tmp 102)⟩,
          ⟨some 15, none, .mv (.tmp 104)⟩,
          ⟨some 16, none, .mv (.tmp 106)⟩,
          ⟨some 17, none, .mv (.tmp 108)⟩,
          ⟨some 18, none, .mv (.tmp 110)⟩,
          ⟨some 19, none, .mv (.tmp 112)⟩])
        (.seq (.seq (.ops [⟨some 20, none, .mv (.const (.int .i64 0))⟩])
        (.block 6
          (.loop
            (.seq (.seq (.ops [⟨some 113, none, .mv (.tmp 20)⟩,
              ⟨some 114, none, .bin .lss (.tmp 113) (.const (.int .i64 80))⟩])
            (.cond (.tmp 114)
              .skip
              (.exit 6)))
            (.seq (.block 7
              (.seq (.draw 28 [⟨some 117, none, .mv (.tmp 19)⟩,
                ⟨some 118, none, .mv (.tmp 16)⟩,
                ⟨some 119, none, .call 40 [(.tmp 118), (.const (.int .i64 14))]⟩,
                ⟨some 120, none, .mv (.tmp 16)⟩,
                ⟨some 121, none, .call 40 [(.tmp 120), (.const (.int .i64 18))]⟩,
                ⟨some 122, none, .bin .xor (.tmp 119) (.tmp 121)⟩,
                ⟨some 123, none, .mv (.tmp 16)⟩,
                ⟨some 124, none, .call 40 [(.tmp 123), (.const (.int .i64 41))]⟩,
                ⟨some 125, none, .bin .xor (.tmp 122) (.tmp 124)⟩,
                ⟨some 126, none, .bin .add (.tmp 117) (.tmp 125)⟩,
                ⟨some 127, none, .mv (.tmp 16)⟩,
                ⟨some 128, none, .mv (.tmp 17)⟩,
                ⟨some 129, none, .bin .and (.tmp 127) (.tmp 128)⟩,
                ⟨some 130, none, .mv (.tmp 16)⟩,
                ⟨some 131, none, .un .xor (.tmp 130)⟩,
                ⟨some 132, none, .mv (.tmp 18)⟩,
                ⟨some 133, none, .bin .and (.tmp 131) (.tmp 132)⟩,
                ⟨some 134, none, .bin .xor (.tmp 129) (.tmp 133)⟩,
                ⟨some 135, none, .bin .add (.tmp 126) (.tmp 134)⟩,
                ⟨some 136, none, .mv (.tmp 20)⟩,
                ⟨some 137, none, .iaA 80 1 (.tmp 5) (.tmp 136)⟩,
                ⟨some 138, none, .ld (.int .u64) (.tmp 137)⟩,
                ⟨some 139, none, .bin .add (.tmp 135) (.tmp 138)⟩,
                ⟨some 140, none, .mv (.tmp 20)⟩,
                ⟨some 141, none, .iaA 80 1 (.tmp 7) (.tmp 140)⟩,
                ⟨some 142, none, .ld (.int .u64) (.tmp 141)⟩,
                ⟨some 143, none, .bin .add (.tmp 139) (.tmp 142)⟩,
                ⟨some 21, none, .mv (.tmp 143)⟩])
              (.seq (.ops [⟨some 144, none, .mv (.tmp 12)⟩,
                ⟨some 145, none, .call 40 [(.tmp 144), (.const (.int .i64 28))]⟩,
                ⟨some 146, none, .mv (.tmp 12)⟩,
                ⟨some 147, none, .call 40 [(.tmp 146), (.const (.int .i64 34))]⟩,
                ⟨some 148, none, .bin .xor (.tmp 145) (.tmp 147)⟩,
                ⟨some 149, none, .mv (.tmp 12)⟩,
                ⟨some 150, none, .call 40 [(.tmp 149), (.const (.int .i64 39))]⟩,
                ⟨some 151, none, .bin .xor (.tmp 148) (.tmp 150)⟩,
                ⟨some 152, none, .mv (.tmp 12)⟩,
                ⟨some 153, none, .mv (.tmp 13)⟩,
                ⟨some 154, none, .bin .and (.tmp 152) (.tmp 153)⟩,
                ⟨some 155, none, .mv (.tmp 12)⟩,
                ⟨some 156, none, .mv (.tmp 14)⟩,
                ⟨some 157, none, .bin .and (.tmp 155) (.tmp 156)⟩,
                ⟨some 158, none, .bin .xor (.tmp 154) (.tmp 157)⟩,
                ⟨some 159, none, .mv (.tmp 13)⟩,
                ⟨some 160, none, .mv (.tmp 14)⟩,
                ⟨some 161, none, .bin .and (.tmp 159) (.tmp 160)⟩,
                ⟨some 162, none, .bin .xor (.tmp 158) (.tmp 161)⟩,
                ⟨some 163, none, .bin .add (.tmp 151) (.tmp 162)⟩,
                ⟨some 22, none, .mv (.tmp 163)⟩])
              (.ops [⟨some 164, none, .mv (.tmp 18)⟩,
                ⟨some 165, none, .mv (.tmp 17)⟩,
                ⟨some 166, none, .mv (.tmp 16)⟩,
                ⟨some 167, none, .mv (.tmp 15)⟩,
                ⟨some 168, none, .mv (.tmp 21)⟩,
                ⟨some 169, none, .bin .add (.tmp 167) (.tmp 168)⟩,
                ⟨some 170, none, .mv (.tmp 14)⟩,
                ⟨some 171, none, .mv (.tmp 13)⟩,
                ⟨some 172, none, .mv (.tmp 12)⟩,
                ⟨some 173, none, .mv (.tmp 21)⟩,
                ⟨some 174, none, .mv (.tmp 22)⟩,
                ⟨some 175, none, .bin .add (.tmp 173) (.tmp 174)⟩,
                ⟨some 19, none, .mv (.tmp 164)⟩,
                ⟨some 18, none, .mv (.tmp 165)⟩,
                ⟨some 17, none, .mv (.tmp 166)⟩,
                ⟨some 16, none, .mv (.tmp 169)⟩,
                ⟨some 15, none, .mv (.tmp 170)⟩,
                ⟨some 14, none, .mv (.tmp 171)⟩,
                ⟨some 13, none, .mv (.tmp 172)⟩,
                ⟨some 12, none, .mv (.tmp 175)⟩]))))
            (.ops [⟨some 115, none, .mv (.tmp 20)⟩,
              ⟨some 116, none, .bin .add (.tmp 115) (.const (.int .i64 1))⟩,
              ⟨some 20, none, .mv (.tmp 116)⟩]))))))
        (.ops [⟨some 176, none, .iaA 8 1 (.tmp 3) (.const (.int .i64 0))⟩,
          ⟨some 177, none, .ld (.int .u64) (.tmp 176)⟩,
          ⟨some 178, none, .mv (.tmp 12)⟩,
          ⟨some 179, none, .bin .add (.tmp 177) (.tmp 178)⟩,
          ⟨some 180, none, .iaA 8 1 (.tmp 3) (.const (.int .i64 1))⟩,
          ⟨some 181, none, .ld (.int .u64) (.tmp 180)⟩,
          ⟨some 182, none, .mv (.tmp 13)⟩,
          ⟨some 183, none, .bin .add (.tmp 181) (.tmp 182)⟩,
          ⟨some 184, none, .iaA 8 1 (.tmp 3) (.const (.int .i64 2))⟩,
          ⟨some 185, none, .ld (.int .u64) (.tmp 184)⟩,
          ⟨some 186, none, .mv (.tmp 14)⟩,
          ⟨some 187, none, .bin .add (.tmp 185) (.tmp 186)⟩,
          ⟨some 188, none, .iaA 8 1 (.tmp 3) (.const (.int .i64 3))⟩,
          ⟨some 189, none, .ld (.int .u64) (.tmp 188)⟩,
          ⟨some 190, none, .mv (.tmp 15)⟩,
          ⟨some 191, none, .bin .add (.tmp 189) (.tmp 190)⟩,
          ⟨some 192, none, .iaA 8 1 (.tmp 3) (.const (.int .i64 4))⟩,
          ⟨some 193, none, .ld (.int .u64) (.tmp 192)⟩,
          ⟨some 194, none, .mv (.tmp 16)⟩,
          ⟨some 195, none, .bin .add (.tmp 193) (.tmp 194)⟩,
          ⟨some 196, none, .iaA 8 1 (.tmp 3) (.const (.int .i64 5))⟩,
          ⟨some 197, none, .ld (.int .u64) (.tmp 196)⟩,
          ⟨some 198, none, .mv (.tmp 17)⟩,
          ⟨some 199, none, .bin .add (.tmp 197) (.tmp 198)⟩,
          ⟨some 200, none, .iaA 8 1 (.tmp 3) (.const (.int .i64 6))⟩,
          ⟨some 201, none, .ld (.int .u64) (.tmp 200)⟩,
          ⟨some 202, none, .mv (.tmp 18)⟩,
          ⟨some 203, none, .bin .add (.tmp 201) (.tmp 202)⟩,
          ⟨some 204, none, .iaA 8 1 (.tmp 3) (.const (.int .i64 7))⟩,
          ⟨some 205, none, .ld (.int .u64) (.tmp 204)⟩,
          ⟨some 206, none, .mv (.tmp 19)⟩,
          ⟨some 207, none, .bin .add (.tmp 205) (.tmp 206)⟩,
          ⟨some 208, none, .bld (Array.replicate 8 (.int .u64 0)) [(0, 1), (1, 1), (2, 1), (3, 1), (4, 1), (5, 1), (6, 1), (7, 1)] [(0, (.tmp 179)), (1, (.tmp 183)), (2, (.tmp 187)), (3, (.tmp 191)), (4, (.tmp 195)), (5, (.tmp 199)), (6, (.tmp 203)), (7, (.tmp 207))]⟩,
          ⟨none, none, .st 8 (.tmp 3) (.tmp 208)⟩]))))))
      (.ops [⟨some 31, none, .mv (.tmp 6)⟩,
        ⟨some 32, none, .bin .add (.tmp 31) (.const (.int .i64 128))⟩,
        ⟨some 6, none, .mv (.tmp 32)⟩]))))))
  (.seq (.ops [⟨some 23, none, .mv (.const (.slice none 0 0))⟩])
  (.seq (.seq (.ops [⟨some 24, none, .mv (.const (.int .i64 0))⟩])
  (.block 8
    (.loop
      (.seq (.seq (.ops [⟨some 209, none, .mv (.tmp 24)⟩,
        ⟨some 210, none, .bin .lss (.tmp 209) (.const (.int .i64 8))⟩])
      (.cond (.tmp 210)
        .skip
        (.exit 8)))
      (.seq (.block 9
        (.seq (.ops [⟨some 25, none, .mv (.const (.int .i64 56))⟩])
        (.block 10
          (.loop
            (.seq (.seq (.ops [⟨some 213, none, .mv (.tmp 25)⟩,
              ⟨some 214, none, .bin .geq (.tmp 213) (.const (.int .i64 0))⟩])
            (.cond (.tmp 214)
              .skip
              (.exit 10)))
            (.seq (.block 11
              (.ops [⟨some 217, none, .mv (.tmp 23)⟩,
                ⟨some 218, none, .mv (.tmp 24)⟩,
                ⟨some 219, none, .iaA 8 1 (.tmp 3) (.tmp 218)⟩,
                ⟨some 220, none, .ld (.int .u64) (.tmp 219)⟩,
                ⟨some 221, none, .mv (.tmp 25)⟩,
                ⟨some 222, none, .bin .shr (.tmp 220) (.tmp 221)⟩,
                ⟨some 223, none, .cv .u8 (.tmp 222)⟩,
                ⟨some 224, none, .bsl 5 1 1 #[(.int .u8 0)] [(0, (.tmp 223))]⟩,
                ⟨some 225, none, .app 5 1 1 #[(.int .u8 0)] (.tmp 217) (.tmp 224)⟩,
                ⟨some 23, none, .mv (.tmp 225)⟩]))
            (.ops [⟨some 215, none, .mv (.tmp 25)⟩,
              ⟨some 216, none, .bin .sub (.tmp 215) (.const (.int .i64 8))⟩,
              ⟨some 25, none, .mv (.tmp 216)⟩])))))))
      (.ops [⟨some 211, none, .mv (.tmp 24)⟩,
        ⟨some 212, none, .bin .add (.tmp 211) (.const (.int .i64 1))⟩,
        ⟨some 24, none, .mv (.tmp 212)⟩]))))))
  (.seq (.ops [⟨some 226, none, .mv (.tmp 23)⟩,
    ⟨some 4, none, .mv (.tmp 226)⟩])
  .ret))))))⟩
theorem h32 : strF Tryd.prog [] Tryd.f32 = some c32 := by kernel_rfl

/-- chirograph/digest.one -/
def c33 : Fun := ⟨126, [.inr ((.agg 8), 4)],
  (.seq (.ops [⟨some 2, none, .box 49 (.tmp 0)⟩,
    ⟨some 4, none, .alloc 49 (.agg (Array.replicate 8 (.int .u32 0)))⟩])
  (.seq (.ops [⟨some 15, none, .mv (.tmp 1)⟩,
    ⟨some 16, none, .call 41 [(.tmp 15)]⟩,
    ⟨some 5, none, .alloc 67 (.agg (Array.replicate 16 (.int .u32 0)))⟩,
    ⟨none, none, .st 16 (.tmp 5) (.tmp 16)⟩])
  (.seq (.draw 15 [⟨some 17, none, .iaA 8 1 (.tmp 2) (.const (.int .i64 0))⟩,
    ⟨some 18, none, .ld (.int .u32) (.tmp 17)⟩,
    ⟨some 19, none, .iaA 8 1 (.tmp 2) (.const (.int .i64 1))⟩,
    ⟨some 20, none, .ld (.int .u32) (.tmp 19)⟩,
    ⟨some 21, none, .iaA 8 1 (.tmp 2) (.const (.int .i64 2))⟩,
    ⟨some 22, none, .ld (.int .u32) (.tmp 21)⟩,
    ⟨some 23, none, .iaA 8 1 (.tmp 2) (.const (.int .i64 3))⟩,
    ⟨some 24, none, .ld (.int .u32) (.tmp 23)⟩,
    ⟨some 25, none, .iaA 8 1 (.tmp 2) (.const (.int .i64 4))⟩,
    ⟨some 26, none, .ld (.int .u32) (.tmp 25)⟩,
    ⟨some 6, none, .mv (.tmp 18)⟩,
    ⟨some 7, none, .mv (.tmp 20)⟩,
    ⟨some 8, none, .mv (.tmp 22)⟩,
    ⟨some 9, none, .mv (.tmp 24)⟩,
    ⟨some 10, none, .mv (.tmp 26)⟩])
  (.seq (.seq (.ops [⟨some 27, none, .mv (.const (.int .i64 0))⟩])
  (.block 0
    (.loop
      (.seq (.ops [⟨some 28, none, .bin .lss (.tmp 27) (.const (.int .i64 80))⟩])
      (.seq (.cond (.tmp 28)
        .skip
        (.exit 0))
      (.seq (.block 1
        (.seq (.ops [⟨some 29, none, .mv (.tmp 27)⟩,
          ⟨some 11, none, .mv (.tmp 29)⟩])
        (.seq (.ops [⟨some 30, none, .mv (.tmp 11)⟩,
          ⟨some 31, none, .bin .rem (.tmp 30) (.const (.int .i64 16))⟩,
          ⟨some 12, none, .mv (.tmp 31)⟩])
        (.join (.seq (.ops [⟨some 32, none, .mv (.tmp 11)⟩,
          ⟨some 33, none, .bin .geq (.tmp 32) (.const (.int .i64 16))⟩])
        (.cond (.tmp 33)
          (.draw 24 [⟨some 34, none, .mv (.tmp 12)⟩,
            ⟨some 35, none, .mv (.tmp 12)⟩,
            ⟨some 36, none, .bin .add (.tmp 35) (.const (.int .i64 13))⟩,
            ⟨some 37, none, .bin .rem (.tmp 36) (.const (.int .i64 16))⟩,
            ⟨some 38, none, .iaA 16 1 (.tmp 5) (.tmp 37)⟩,
            ⟨some 39, none, .ld (.int .u32) (.tmp 38)⟩,
            ⟨some 40, none, .mv (.tmp 12)⟩,
            ⟨some 41, none, .bin .add (.tmp 40) (.const (.int .i64 8))⟩,
            ⟨some 42, none, .bin .rem (.tmp 41) (.const (.int .i64 16))⟩,
            ⟨some 43, none, .iaA 16 1 (.tmp 5) (.tmp 42)⟩,
            ⟨some 44, none, .ld (.int .u32) (.tmp 43)⟩,
            ⟨some 45, none, .bin .xor (.tmp 39) (.tmp 44)⟩,
            ⟨some 46, none, .mv (.tmp 12)⟩,
            ⟨some 47, none, .bin .add (.tmp 46) (.const (.int .i64 2))⟩,
            ⟨some 48, none, .bin .rem (.tmp 47) (.const (.int .i64 16))⟩,
            ⟨some 49, none, .iaA 16 1 (.tmp 5) (.tmp 48)⟩,
            ⟨some 50, none, .ld (.int .u32) (.tmp 49)⟩,
            ⟨some 51, none, .bin .xor (.tmp 45) (.tmp 50)⟩,
            ⟨some 52, none, .mv (.tmp 12)⟩,
            ⟨some 53, none, .iaA 16 1 (.tmp 5) (.tmp 52)⟩,
            ⟨some 54, none, .ld (.int .u32) (.tmp 53)⟩,
            ⟨some 55, none, .bin .xor (.tmp 51) (.tmp 54)⟩,
            ⟨some 56, none, .call 42 [(.tmp 55), (.const (.int .i64 1))]⟩,
            ⟨some 57, none, .iaA 16 1 (.tmp 5) (.tmp 34)⟩,
            ⟨none, none, .st 1 (.tmp 57) (.tmp 56)⟩])
          .skip))
        (.seq (.ops [⟨some 58, none, .mv (.tmp 7)⟩,
          ⟨some 59, none, .mv (.tmp 8)⟩,
          ⟨some 60, none, .bin .xor (.tmp 58) (.tmp 59)⟩,
          ⟨some 61, none, .mv (.tmp 9)⟩,
          ⟨some 62, none, .bin .xor (.tmp 60) (.tmp 61)⟩,
          ⟨some 13, none, .mv (.tmp 62)⟩,
          ⟨some 14, none, .mv (.const (.int .u32 3395469782))⟩])
        (.join (.seq (.ops [⟨some 63, none, .mv (.tmp 11)⟩,
          ⟨some 64, none, .bin .quo (.tmp 63) (.const (.int .i64 20))⟩])
        (.block 2
          (.seq (.ops [⟨some 66, none, .bin .eql (.tmp 64) (.const (.int .i64 0))⟩,
            ⟨some 65, none, .mv (.tmp 66)⟩])
          (.cond (.tmp 65)
            (.ops [⟨some 67, none, .mv (.tmp 9)⟩,
              ⟨some 68, none, .mv (.tmp 7)⟩,
              ⟨some 69, none, .mv (.tmp 8)⟩,
              ⟨some 70, none, .mv (.tmp 9)⟩,
              ⟨some 71, none, .bin .xor (.tmp 69) (.tmp 70)⟩,
              ⟨some 72, none, .bin .and (.tmp 68) (.tmp 71)⟩,
              ⟨some 73, none, .bin .xor (.tmp 67) (.tmp 72)⟩,
              ⟨some 13, none, .mv (.tmp 73)⟩,
              ⟨some 14, none, .mv (.const (.int .u32 1518500249))⟩])
            (.seq (.ops [⟨some 75, none, .bin .eql (.tmp 64) (.const (.int .i64 1))⟩,
              ⟨some 74, none, .mv (.tmp 75)⟩])
            (.cond (.tmp 74)
              (.ops [⟨some 14, none, .mv (.const (.int .u32 1859775393))⟩])
              (.seq (.ops [⟨some 77, none, .bin .eql (.tmp 64) (.const (.int .i64 2))⟩,
                ⟨some 76, none, .mv (.tmp 77)⟩])
              (.cond (.tmp 76)
                (.ops [⟨some 78, none, .mv (.tmp 7)⟩,
                  ⟨some 79, none, .mv (.tmp 8)⟩,
                  ⟨some 80, none, .bin .and (.tmp 78) (.tmp 79)⟩,
                  ⟨some 81, none, .mv (.tmp 9)⟩,
                  ⟨some 82, none, .mv (.tmp 7)⟩,
                  ⟨some 83, none, .mv (.tmp 8)⟩,
                  ⟨some 84, none, .bin .or (.tmp 82) (.tmp 83)⟩,
                  ⟨some 85, none, .bin .and (.tmp 81) (.tmp 84)⟩,
                  ⟨some 86, none, .bin .or (.tmp 80) (.tmp 85)⟩,
                  ⟨some 13, none, .mv (.tmp 86)⟩,
                  ⟨some 14, none, .mv (.const (.int .u32 2400959708))⟩])
                .skip))))))))
        (.draw 22 [⟨some 87, none, .mv (.tmp 6)⟩,
          ⟨some 88, none, .call 42 [(.tmp 87), (.const (.int .i64 5))]⟩,
          ⟨some 89, none, .mv (.tmp 13)⟩,
          ⟨some 90, none, .bin .add (.tmp 88) (.tmp 89)⟩,
          ⟨some 91, none, .mv (.tmp 10)⟩,
          ⟨some 92, none, .bin .add (.tmp 90) (.tmp 91)⟩,
          ⟨some 93, none, .mv (.tmp 14)⟩,
          ⟨some 94, none, .bin .add (.tmp 92) (.tmp 93)⟩,
          ⟨some 95, none, .mv (.tmp 12)⟩,
          ⟨some 96, none, .iaA 16 1 (.tmp 5) (.tmp 95)⟩,
          ⟨some 97, none, .ld (.int .u32) (.tmp 96)⟩,
          ⟨some 98, none, .bin .add (.tmp 94) (.tmp 97)⟩,
          ⟨some 99, none, .mv (.tmp 6)⟩,
          ⟨some 100, none, .mv (.tmp 7)⟩,
          ⟨some 101, none, .call 42 [(.tmp 100), (.const (.int .i64 30))]⟩,
          ⟨some 102, none, .mv (.tmp 8)⟩,
          ⟨some 103, none, .mv (.tmp 9)⟩,
          ⟨some 6, none, .mv (.tmp 98)⟩,
          ⟨some 7, none, .mv (.tmp 99)⟩,
          ⟨some 8, none, .mv (.tmp 101)⟩,
          ⟨some 9, none, .mv (.tmp 102)⟩,
          ⟨some 10, none, .mv (.tmp 103)⟩])))))))
      (.ops [⟨some 104, none, .bin .add (.tmp 27) (.const (.int .i64 1))⟩,
        ⟨some 27, none, .mv (.tmp 104)⟩])))))))
  (.seq (.ops [⟨some 105, none, .iaA 8 1 (.tmp 2) (.const (.int .i64 0))⟩,
    ⟨some 106, none, .ld (.int .u32) (.tmp 105)⟩,
    ⟨some 107, none, .mv (.tmp 6)⟩,
    ⟨some 108, none, .bin .add (.tmp 106) (.tmp 107)⟩,
    ⟨some 109, none, .iaA 8 1 (.tmp 2) (.const (.int .i64 1))⟩,
    ⟨some 110, none, .ld (.int .u32) (.tmp 109)⟩,
    ⟨some 111, none, .mv (.tmp 7)⟩,
    ⟨some 112, none, .bin .add (.tmp 110) (.tmp 111)⟩,
    ⟨some 113, none, .iaA 8 1 (.tmp 2) (.const (.int .i64 2))⟩,
    ⟨some 114, none, .ld (.int .u32) (.tmp 113)⟩,
    ⟨some 115, none, .mv (.tmp 8)⟩,
    ⟨some 116, none, .bin .add (.tmp 114) (.tmp 115)⟩,
    ⟨some 117, none, .iaA 8 1 (.tmp 2) (.const (.int .i64 3))⟩,
    ⟨some 118, none, .ld (.int .u32) (.tmp 117)⟩,
    ⟨some 119, none, .mv (.tmp 9)⟩,
    ⟨some 120, none, .bin .add (.tmp 118) (.tmp 119)⟩,
    ⟨some 121, none, .iaA 8 1 (.tmp 2) (.const (.int .i64 4))⟩,
    ⟨some 122, none, .ld (.int .u32) (.tmp 121)⟩,
    ⟨some 123, none, .mv (.tmp 10)⟩,
    ⟨some 124, none, .bin .add (.tmp 122) (.tmp 123)⟩,
    ⟨some 125, none, .bld (Array.replicate 8 (.int .u32 0)) [(0, 1), (1, 1), (2, 1), (3, 1), (4, 1), (5, 1), (6, 1), (7, 1)] [(0, (.tmp 108)), (1, (.tmp 112)), (2, (.tmp 116)), (3, (.tmp 120)), (4, (.tmp 124))]⟩,
    ⟨none, none, .st 8 (.tmp 4) (.tmp 125)⟩])
  .ret)))))⟩
theorem h33 : strF Tryd.prog [] Tryd.f33 = some c33 := by kernel_rfl

/-- chirograph/digest.two -/
def c34 : Fun := ⟨124, [.inr ((.agg 8), 4)],
  (.seq (.ops [⟨some 2, none, .box 49 (.tmp 0)⟩,
    ⟨some 4, none, .alloc 49 (.agg (Array.replicate 8 (.int .u32 0)))⟩])
  (.seq (.ops [⟨some 12, none, .mv (.tmp 1)⟩,
    ⟨some 13, none, .call 41 [(.tmp 12)]⟩,
    ⟨some 5, none, .alloc 67 (.agg (Array.replicate 16 (.int .u32 0)))⟩,
    ⟨none, none, .st 16 (.tmp 5) (.tmp 13)⟩])
  (.seq (.ops [⟨some 14, none, .ld (.agg 8) (.tmp 2)⟩,
    ⟨some 6, none, .alloc 49 (.agg (Array.replicate 8 (.int .u32 0)))⟩,
    ⟨none, none, .st 8 (.tmp 6) (.tmp 14)⟩])
  (.seq (.seq (.ops [⟨some 15, none, .mv (.const (.int .i64 0))⟩])
  (.block 0
    (.loop
      (.seq (.ops [⟨some 16, none, .bin .lss (.tmp 15) (.const (.int .i64 64))⟩])
      (.seq (.cond (.tmp 16)
        .skip
        (.exit 0))
      (.seq (.block 1
        (.seq (.ops [⟨some 17, none, .mv (.tmp 15)⟩,
          ⟨some 7, none, .mv (.tmp 17)⟩])
        (.seq (.ops [⟨some 18, none, .mv (.tmp 7)⟩,
          ⟨some 19, none, .bin .rem (.tmp 18) (.const (.int .i64 16))⟩,
          ⟨some 8, none, .mv (.tmp 19)⟩])
        (.join (.seq (.ops [⟨some 20, none, .mv (.tmp 7)⟩,
          ⟨some 21, none, .bin .geq (.tmp 20) (.const (.int .i64 16))⟩])
        (.cond (.tmp 21)
          (.draw 24 [⟨some 22, none, .mv (.tmp 8)⟩,
            ⟨some 23, none, .iaA 16 1 (.tmp 5) (.tmp 22)⟩,
            ⟨some 24, none, .ld (.int .u32) (.tmp 23)⟩,
            ⟨some 25, none, .mv (.tmp 8)⟩,
            ⟨some 26, none, .bin .add (.tmp 25) (.const (.int .i64 14))⟩,
            ⟨some 27, none, .bin .rem (.tmp 26) (.const (.int .i64 16))⟩,
            ⟨some 28, none, .iaA 16 1 (.tmp 5) (.tmp 27)⟩,
            ⟨some 29, none, .ld (.int .u32) (.tmp 28)⟩,
            ⟨some 30, none, .call 43 [(.tmp 29), (.const (.int .i64 17)), (.const (.int .i64 19)), (.const (.int .i64 10)), (.const (.bool true))]⟩,
            ⟨some 31, none, .mv (.tmp 8)⟩,
            ⟨some 32, none, .bin .add (.tmp 31) (.const (.int .i64 9))⟩,
            ⟨some 33, none, .bin .rem (.tmp 32) (.const (.int .i64 16))⟩,
            ⟨some 34, none, .iaA 16 1 (.tmp 5) (.tmp 33)⟩,
            ⟨some 35, none, .ld (.int .u32) (.tmp 34)⟩,
            ⟨some 36, none, .bin .add (.tmp 30) (.tmp 35)⟩,
            ⟨some 37, none, .mv (.tmp 8)⟩,
            ⟨some 38, none, .bin .add (.tmp 37) (.const (.int .i64 1))⟩,
            ⟨some 39, none, .bin .rem (.tmp 38) (.const (.int .i64 16))⟩,
            ⟨some 40, none, .iaA 16 1 (.tmp 5) (.tmp 39)⟩,
            ⟨some 41, none, .ld (.int .u32) (.tmp 40)⟩,
            ⟨some 42, none, .call 43 [(.tmp 41), (.const (.int .i64 7)), (.const (.int .i64 18)), (.const (.int .i64 3)), (.const (.bool true))]⟩,
            ⟨some 43, none, .bin .add (.tmp 36) (.tmp 42)⟩,
            ⟨some 44, none, .bin .add (.tmp 24) (.tmp 43)⟩,
            ⟨some 45, none, .iaA 16 1 (.tmp 5) (.tmp 22)⟩,
            ⟨none, none, .st 1 (.tmp 45) (.tmp 44)⟩])
          .skip))
        (.seq (.draw 27 [⟨some 46, none, .iaA 8 1 (.tmp 6) (.const (.int .i64 7))⟩,
          ⟨some 47, none, .ld (.int .u32) (.tmp 46)⟩,
          ⟨some 48, none, .iaA 8 1 (.tmp 6) (.const (.int .i64 4))⟩,
          ⟨some 49, none, .ld (.int .u32) (.tmp 48)⟩,
          ⟨some 50, none, .call 43 [(.tmp 49), (.const (.int .i64 6)), (.const (.int .i64 11)), (.const (.int .i64 25)), (.const (.bool false))]⟩,
          ⟨some 51, none, .bin .add (.tmp 47) (.tmp 50)⟩,
          ⟨some 52, none, .iaA 8 1 (.tmp 6) (.const (.int .i64 6))⟩,
          ⟨some 53, none, .ld (.int .u32) (.tmp 52)⟩,
          ⟨some 54, none, .iaA 8 1 (.tmp 6) (.const (.int .i64 4))⟩,
          ⟨some 55, none, .ld (.int .u32) (.tmp 54)⟩,
          ⟨some 56, none, .iaA 8 1 (.tmp 6) (.const (.int .i64 5))⟩,
          ⟨some 57, none, .ld (.int .u32) (.tmp 56)⟩,
          ⟨some 58, none, .iaA 8 1 (.tmp 6) (.const (.int .i64 6))⟩,
          ⟨some 59, none, .ld (.int .u32) (.tmp 58)⟩,
          ⟨some 60, none, .bin .xor (.tmp 57) (.tmp 59)⟩,
          ⟨some 61, none, .bin .and (.tmp 55) (.tmp 60)⟩,
          ⟨some 62, none, .bin .xor (.tmp 53) (.tmp 61)⟩,
          ⟨some 63, none, .bin .add (.tmp 51) (.tmp 62)⟩,
          ⟨some 64, none, .mv (.tmp 7)⟩,
          ⟨some 65, none, .iaA 64 1 (.global 0) (.tmp 64)⟩,
          ⟨some 66, none, .ld (.int .u32) (.tmp 65)⟩,
          ⟨some 67, none, .bin .add (.tmp 63) (.tmp 66)⟩,
          ⟨some 68, none, .mv (.tmp 8)⟩,
          ⟨some 69, none, .iaA 16 1 (.tmp 5) (.tmp 68)⟩,
          ⟨some 70, none, .ld (.int .u32) (.tmp 69)⟩,
          ⟨some 71, none, .bin .add (.tmp 67) (.tmp 70)⟩,
          ⟨some 9, none, .mv (.tmp 71)⟩])
        (.seq (.draw 19 [⟨some 72, none, .iaA 8 1 (.tmp 6) (.const (.int .i64 0))⟩,
          ⟨some 73, none, .ld (.int .u32) (.tmp 72)⟩,
          ⟨some 74, none, .call 43 [(.tmp 73), (.const (.int .i64 2)), (.const (.int .i64 13)), (.const (.int .i64 22)), (.const (.bool false))]⟩,
          ⟨some 75, none, .iaA 8 1 (.tmp 6) (.const (.int .i64 0))⟩,
          ⟨some 76, none, .ld (.int .u32) (.tmp 75)⟩,
          ⟨some 77, none, .iaA 8 1 (.tmp 6) (.const (.int .i64 1))⟩,
          ⟨some 78, none, .ld (.int .u32) (.tmp 77)⟩,
          ⟨some 79, none, .bin .and (.tmp 76) (.tmp 78)⟩,
          ⟨some 80, none, .iaA 8 1 (.tmp 6) (.const (.int .i64 2))⟩,
          ⟨some 81, none, .ld (.int .u32) (.tmp 80)⟩,
          ⟨some 82, none, .iaA 8 1 (.tmp 6) (.const (.int .i64 0))⟩,
          ⟨some 83, none, .ld (.int .u32) (.tmp 82)⟩,
          ⟨some 84, none, .iaA 8 1 (.tmp 6) (.const (.int .i64 1))⟩,
          ⟨some 85, none, .ld (.int .u32) (.tmp 84)⟩,
          ⟨some 86, none, .bin .or (.tmp 83) (.tmp 85)⟩,
          ⟨some 87, none, .bin .and (.tmp 81) (.tmp 86)⟩,
          ⟨some 88, none, .bin .or (.tmp 79) (.tmp 87)⟩,
          ⟨some 89, none, .bin .add (.tmp 74) (.tmp 88)⟩,
          ⟨some 10, none, .mv (.tmp 89)⟩])
        (.ops [⟨some 90, none, .mv (.tmp 9)⟩,
          ⟨some 91, none, .mv (.tmp 10)⟩,
          ⟨some 92, none, .bin .add (.tmp 90) (.tmp 91)⟩,
          ⟨some 93, none, .iaA 8 1 (.tmp 6) (.const (.int .i64 0))⟩,
          ⟨some 94, none, .ld (.int .u32) (.tmp 93)⟩,
          ⟨some 95, none, .iaA 8 1 (.tmp 6) (.const (.int .i64 1))⟩,
          ⟨some 96, none, .ld (.int .u32) (.tmp 95)⟩,
          ⟨some 97, none, .iaA 8 1 (.tmp 6) (.const (.int .i64 2))⟩,
          ⟨some 98, none, .ld (.int .u32) (.tmp 97)⟩,
          ⟨some 99, none, .iaA 8 1 (.tmp 6) (.const (.int .i64 3))⟩,
          ⟨some 100, none, .ld (.int .u32) (.tmp 99)⟩,
          ⟨some 101, none, .mv (.tmp 9)⟩,
          ⟨some 102, none, .bin .add (.tmp 100) (.tmp 101)⟩,
          ⟨some 103, none, .iaA 8 1 (.tmp 6) (.const (.int .i64 4))⟩,
          ⟨some 104, none, .ld (.int .u32) (.tmp 103)⟩,
          ⟨some 105, none, .iaA 8 1 (.tmp 6) (.const (.int .i64 5))⟩,
          ⟨some 106, none, .ld (.int .u32) (.tmp 105)⟩,
          ⟨some 107, none, .iaA 8 1 (.tmp 6) (.const (.int .i64 6))⟩,
          ⟨some 108, none, .ld (.int .u32) (.tmp 107)⟩,
          ⟨some 109, none, .bld (Array.replicate 8 (.int .u32 0)) [(0, 1), (1, 1), (2, 1), (3, 1), (4, 1), (5, 1), (6, 1), (7, 1)] [(0, (.tmp 92)), (1, (.tmp 94)), (2, (.tmp 96)), (3, (.tmp 98)), (4, (.tmp 102)), (5, (.tmp 104)), (6, (.tmp 106)), (7, (.tmp 108))]⟩,
          ⟨none, none, .st 8 (.tmp 6) (.tmp 109)⟩])))))))
      (.ops [⟨some 110, none, .bin .add (.tmp 15) (.const (.int .i64 1))⟩,
        ⟨some 15, none, .mv (.tmp 110)⟩])))))))
  (.seq (.seq (.ops [⟨some 111, none, .mv (.const (.int .i64 0))⟩])
  (.block 2
    (.loop
      (.seq (.ops [⟨some 112, none, .bin .lss (.tmp 111) (.const (.int .i64 8))⟩])
      (.seq (.cond (.tmp 112)
        .skip
        (.exit 2))
      (.seq (.block 3
        (.seq (.ops [⟨some 113, none, .mv (.tmp 111)⟩,
          ⟨some 11, none, .mv (.tmp 113)⟩])
        (.draw 8 [⟨some 114, none, .mv (.tmp 11)⟩,
          ⟨some 115, none, .iaA 8 1 (.tmp 6) (.tmp 114)⟩,
          ⟨some 116, none, .ld (.int .u32) (.tmp 115)⟩,
          ⟨some 117, none, .mv (.tmp 11)⟩,
          ⟨some 118, none, .iaA 8 1 (.tmp 2) (.tmp 117)⟩,
          ⟨some 119, none, .ld (.int .u32) (.tmp 118)⟩,
          ⟨some 120, none, .bin .add (.tmp 116) (.tmp 119)⟩,
          ⟨some 121, none, .iaA 8 1 (.tmp 6) (.tmp 114)⟩,
          ⟨none, none, .st 1 (.tmp 121) (.tmp 120)⟩])))
      (.ops [⟨some 122, none, .bin .add (.tmp 111) (.const (.int .i64 1))⟩,
        ⟨some 111, none, .mv (.tmp 122)⟩])))))))
  (.seq (.ops [⟨some 123, none, .ld (.agg 8) (.tmp 6)⟩,
    ⟨none, none, .st 8 (.tmp 4) (.tmp 123)⟩])
  .ret))))))⟩
theorem h34 : strF Tryd.prog [] Tryd.f34 = some c34 := by kernel_rfl

/-- chirograph/digest.wide -/
def c35 : Fun := ⟨141, [.inr ((.agg 8), 4)],
  (.seq (.ops [⟨some 2, none, .box 51 (.tmp 0)⟩,
    ⟨some 4, none, .alloc 51 (.agg (Array.replicate 8 (.int .u64 0)))⟩])
  (.seq (.ops [⟨some 5, none, .alloc 70 (.agg (Array.replicate 16 (.int .u64 0)))⟩])
  (.seq (.seq (.ops [⟨some 13, none, .mv (.const (.int .i64 0))⟩])
  (.block 0
    (.loop
      (.seq (.ops [⟨some 14, none, .bin .lss (.tmp 13) (.const (.int .i64 128))⟩])
      (.seq (.cond (.tmp 14)
        .skip
        (.exit 0))
      (.seq (.block 1
        (.seq (.ops [⟨some 15, none, .mv (.tmp 13)⟩,
          ⟨some 6, none, .mv (.tmp 15)⟩])
        (.draw 14 [⟨some 16, none, .mv (.tmp 6)⟩,
          ⟨some 17, none, .bin .quo (.tmp 16) (.const (.int .i64 8))⟩,
          ⟨some 18, none, .mv (.tmp 6)⟩,
          ⟨some 19, none, .bin .quo (.tmp 18) (.const (.int .i64 8))⟩,
          ⟨some 20, none, .iaA 16 1 (.tmp 5) (.tmp 19)⟩,
          ⟨some 21, none, .ld (.int .u64) (.tmp 20)⟩,
          ⟨some 22, none, .bin .shl (.tmp 21) (.const (.int .u64 8))⟩,
          ⟨some 23, none, .mv (.tmp 1)⟩,
          ⟨some 24, none, .mv (.tmp 6)⟩,
          ⟨some 25, none, .ia 1 (.tmp 23) (.tmp 24)⟩,
          ⟨some 26, none, .ld (.int .u8) (.tmp 25)⟩,
          ⟨some 27, none, .cv .u64 (.tmp 26)⟩,
          ⟨some 28, none, .bin .or (.tmp 22) (.tmp 27)⟩,
          ⟨some 29, none, .iaA 16 1 (.tmp 5) (.tmp 17)⟩,
          ⟨none, none, .st 1 (.tmp 29) (.tmp 28)⟩])))
      (.ops [⟨some 30, none, .bin .add (.tmp 13) (.const (.int .i64 1))⟩,
        ⟨some 13, none, .mv (.tmp 30)⟩])))))))
  (.seq (.ops [⟨some 31, none, .ld (.agg 8) (.tmp 2)⟩,
    ⟨some 7, none, .alloc 51 (.agg (Array.replicate 8 (.int .u64 0)))⟩,
    ⟨none, none, .st 8 (.tmp 7) (.tmp 31)⟩])
  (.seq (.seq (.ops [⟨some 32, none, .mv (.const (.int .i64 0))⟩])
  (.block 2
    (.loop
      (.seq (.ops [⟨some 33, none, .bin .lss (.tmp 32) (.const (.int .i64 80))⟩])
      (.seq (.cond (.tmp 33)
        .skip
        (.exit 2))
      (.seq (.block 3
        (.seq (.ops [⟨some 34, none, .mv (.tmp 32)⟩,
          ⟨some 8, none, .mv (.tmp 34)⟩])
        (.seq (.ops [⟨some 35, none, .mv (.tmp 8)⟩,
          ⟨some 36, none, .bin .rem (.tmp 35) (.const (.int .i64 16))⟩,
          ⟨some 9, none, .mv (.tmp 36)⟩])
        (.join (.seq (.ops [⟨some 37, none, .mv (.tmp 8)⟩,
          ⟨some 38, none, .bin .geq (.tmp 37) (.const (.int .i64 16))⟩])
        (.cond (.tmp 38)
          (.draw 24 [⟨some 39, none, .mv (.tmp 9)⟩,
            ⟨some 40, none, .iaA 16 1 (.tmp 5) (.tmp 39)⟩,
            ⟨some 41, none, .ld (.int .u64) (.tmp 40)⟩,
            ⟨some 42, none, .mv (.tmp 9)⟩,
            ⟨some 43, none, .bin .add (.tmp 42) (.const (.int .i64 14))⟩,
            ⟨some 44, none, .bin .rem (.tmp 43) (.const (.int .i64 16))⟩,
            ⟨some 45, none, .iaA 16 1 (.tmp 5) (.tmp 44)⟩,
            ⟨some 46, none, .ld (.int .u64) (.tmp 45)⟩,
            ⟨some 47, none, .call 44 [(.tmp 46), (.const (.int .i64 19)), (.const (.int .i64 61)), (.const (.int .i64 6)), (.const (.bool true))]⟩,
            ⟨some 48, none, .mv (.tmp 9)⟩,
            ⟨some 49, none, .bin .add (.tmp 48) (.const (.int .i64 9))⟩,
            ⟨some 50, none, .bin .rem (.tmp 49) (.const (.int .i64 16))⟩,
            ⟨some 51, none, .iaA 16 1 (.tmp 5) (.tmp 50)⟩,
            ⟨some 52, none, .ld (.int .u64) (.tmp 51)⟩,
            ⟨some 53, none, .bin .add (.tmp 47) (.tmp 52)⟩,
            ⟨some 54, none, .mv (.tmp 9)⟩,
            ⟨some 55, none, .bin .add (.tmp 54) (.const (.int .i64 1))⟩,
            ⟨some 56, none, .bin .rem (.tmp 55) (.const (.int .i64 16))⟩,
            ⟨some 57, none, .iaA 16 1 (.tmp 5) (.tmp 56)⟩,
            ⟨some 58, none, .ld (.int .u64) (.tmp 57)⟩,
            ⟨some 59, none, .call 44 [(.tmp 58), (.const (.int .i64 1)), (.const (.int .i64 8)), (.const (.int .i64 7)), (.const (.bool true))]⟩,
            ⟨some 60, none, .bin .add (.tmp 53) (.tmp 59)⟩,
            ⟨some 61, none, .bin .add (.tmp 41) (.tmp 60)⟩,
            ⟨some 62, none, .iaA 16 1 (.tmp 5) (.tmp 39)⟩,
            ⟨none, none, .st 1 (.tmp 62) (.tmp 61)⟩])
          .skip))
        (.seq (.draw 27 [⟨some 63, none, .iaA 8 1 (.tmp 7) (.const (.int .i64 7))⟩,
          ⟨some 64, none, .ld (.int .u64) (.tmp 63)⟩,
          ⟨some 65, none, .iaA 8 1 (.tmp 7) (.const (.int .i64 4))⟩,
          ⟨some 66, none, .ld (.int .u64) (.tmp 65)⟩,
          ⟨some 67, none, .call 44 [(.tmp 66), (.const (.int .i64 14)), (.const (.int .i64 18)), (.const (.int .i64 41)), (.const (.bool false))]⟩,
          ⟨some 68, none, .bin .add (.tmp 64) (.tmp 67)⟩,
          ⟨some 69, none, .iaA 8 1 (.tmp 7) (.const (.int .i64 6))⟩,
          ⟨some 70, none, .ld (.int .u64) (.tmp 69)⟩,
          ⟨some 71, none, .iaA 8 1 (.tmp 7) (.const (.int .i64 4))⟩,
          ⟨some 72, none, .ld (.int .u64) (.tmp 71)⟩,
          ⟨some 73, none, .iaA 8 1 (.tmp 7) (.const (.int .i64 5))⟩,
          ⟨some 74, none, .ld (.int .u64) (.tmp 73)⟩,
          ⟨some 75, none, .iaA 8 1 (.tmp 7) (.const (.int .i64 6))⟩,
          ⟨some 76, none, .ld (.int .u64) (.tmp 75)⟩,
          ⟨some 77, none, .bin .xor (.tmp 74) (.tmp 76)⟩,
          ⟨some 78, none, .bin .and (.tmp 72) (.tmp 77)⟩,
          ⟨some 79, none, .bin .xor (.tmp 70) (.tmp 78)⟩,
          ⟨some 80, none, .bin .add (.tmp 68) (.tmp 79)⟩,
          ⟨some 81, none, .mv (.tmp 8)⟩,
          ⟨some 82, none, .iaA 80 1 (.global 1) (.tmp 81)⟩,
          ⟨some 83, none, .ld (.int .u64) (.tmp 82)⟩,
          ⟨some 84, none, .bin .add (.tmp 80) (.tmp 83)⟩,
          ⟨some 85, none, .mv (.tmp 9)⟩,
          ⟨some 86, none, .iaA 16 1 (.tmp 5) (.tmp 85)⟩,
          ⟨some 87, none, .ld (.int .u64) (.tmp 86)⟩,
          ⟨some 88, none, .bin .add (.tmp 84) (.tmp 87)⟩,
          ⟨some 10, none, .mv (.tmp 88)⟩])
        (.seq (.draw 19 [⟨some 89, none, .iaA 8 1 (.tmp 7) (.const (.int .i64 0))⟩,
          ⟨some 90, none, .ld (.int .u64) (.tmp 89)⟩,
          ⟨some 91, none, .call 44 [(.tmp 90), (.const (.int .i64 28)), (.const (.int .i64 34)), (.const (.int .i64 39)), (.const (.bool false))]⟩,
          ⟨some 92, none, .iaA 8 1 (.tmp 7) (.const (.int .i64 0))⟩,
          ⟨some 93, none, .ld (.int .u64) (.tmp 92)⟩,
          ⟨some 94, none, .iaA 8 1 (.tmp 7) (.const (.int .i64 1))⟩,
          ⟨some 95, none, .ld (.int .u64) (.tmp 94)⟩,
          ⟨some 96, none, .bin .and (.tmp 93) (.tmp 95)⟩,
          ⟨some 97, none, .iaA 8 1 (.tmp 7) (.const (.int .i64 2))⟩,
          ⟨some 98, none, .ld (.int .u64) (.tmp 97)⟩,
          ⟨some 99, none, .iaA 8 1 (.tmp 7) (.const (.int .i64 0))⟩,
          ⟨some 100, none, .ld (.int .u64) (.tmp 99)⟩,
          ⟨some 101, none, .iaA 8 1 (.tmp 7) (.const (.int .i64 1))⟩,
          ⟨some 102, none, .ld (.int .u64) (.tmp 101)⟩,
          ⟨some 103, none, .bin .or (.tmp 100) (.tmp 102)⟩,
          ⟨some 104, none, .bin .and (.tmp 98) (.tmp 103)⟩,
          ⟨some 105, none, .bin .or (.tmp 96) (.tmp 104)⟩,
          ⟨some 106, none, .bin .add (.tmp 91) (.tmp 105)⟩,
          ⟨some 11, none, .mv (.tmp 106)⟩])
        (.ops [⟨some 107, none, .mv (.tmp 10)⟩,
          ⟨some 108, none, .mv (.tmp 11)⟩,
          ⟨some 109, none, .bin .add (.tmp 107) (.tmp 108)⟩,
          ⟨some 110, none, .iaA 8 1 (.tmp 7) (.const (.int .i64 0))⟩,
          ⟨some 111, none, .ld (.int .u64) (.tmp 110)⟩,
          ⟨some 112, none, .iaA 8 1 (.tmp 7) (.const (.int .i64 1))⟩,
          ⟨some 113, none, .ld (.int .u64) (.tmp 112)⟩,
          ⟨some 114, none, .iaA 8 1 (.tmp 7) (.const (.int .i64 2))⟩,
          ⟨some 115, none, .ld (.int .u64) (.tmp 114)⟩,
          ⟨some 116, none, .iaA 8 1 (.tmp 7) (.const (.int .i64 3))⟩,
          ⟨some 117, none, .ld (.int .u64) (.tmp 116)⟩,
          ⟨some 118, none, .mv (.tmp 10)⟩,
          ⟨some 119, none, .bin .add (.tmp 117) (.tmp 118)⟩,
          ⟨some 120, none, .iaA 8 1 (.tmp 7) (.const (.int .i64 4))⟩,
          ⟨some 121, none, .ld (.int .u64) (.tmp 120)⟩,
          ⟨some 122, none, .iaA 8 1 (.tmp 7) (.const (.int .i64 5))⟩,
          ⟨some 123, none, .ld (.int .u64) (.tmp 122)⟩,
          ⟨some 124, none, .iaA 8 1 (.tmp 7) (.const (.int .i64 6))⟩,
          ⟨some 125, none, .ld (.int .u64) (.tmp 124)⟩,
          ⟨some 126, none, .bld (Array.replicate 8 (.int .u64 0)) [(0, 1), (1, 1), (2, 1), (3, 1), (4, 1), (5, 1), (6, 1), (7, 1)] [(0, (.tmp 109)), (1, (.tmp 111)), (2, (.tmp 113)), (3, (.tmp 115)), (4, (.tmp 119)), (5, (.tmp 121)), (6, (.tmp 123)), (7, (.tmp 125))]⟩,
          ⟨none, none, .st 8 (.tmp 7) (.tmp 126)⟩])))))))
      (.ops [⟨some 127, none, .bin .add (.tmp 32) (.const (.int .i64 1))⟩,
        ⟨some 32, none, .mv (.tmp 127)⟩])))))))
  (.seq (.seq (.ops [⟨some 128, none, .mv (.const (.int .i64 0))⟩])
  (.block 4
    (.loop
      (.seq (.ops [⟨some 129, none, .bin .lss (.tmp 128) (.const (.int .i64 8))⟩])
      (.seq (.cond (.tmp 129)
        .skip
        (.exit 4))
      (.seq (.block 5
        (.seq (.ops [⟨some 130, none, .mv (.tmp 128)⟩,
          ⟨some 12, none, .mv (.tmp 130)⟩])
        (.draw 8 [⟨some 131, none, .mv (.tmp 12)⟩,
          ⟨some 132, none, .iaA 8 1 (.tmp 7) (.tmp 131)⟩,
          ⟨some 133, none, .ld (.int .u64) (.tmp 132)⟩,
          ⟨some 134, none, .mv (.tmp 12)⟩,
          ⟨some 135, none, .iaA 8 1 (.tmp 2) (.tmp 134)⟩,
          ⟨some 136, none, .ld (.int .u64) (.tmp 135)⟩,
          ⟨some 137, none, .bin .add (.tmp 133) (.tmp 136)⟩,
          ⟨some 138, none, .iaA 8 1 (.tmp 7) (.tmp 131)⟩,
          ⟨none, none, .st 1 (.tmp 138) (.tmp 137)⟩])))
      (.ops [⟨some 139, none, .bin .add (.tmp 128) (.const (.int .i64 1))⟩,
        ⟨some 128, none, .mv (.tmp 139)⟩])))))))
  (.seq (.ops [⟨some 140, none, .ld (.agg 8) (.tmp 7)⟩,
    ⟨none, none, .st 8 (.tmp 4) (.tmp 140)⟩])
  .ret)))))))⟩
theorem h35 : strF Tryd.prog [] Tryd.f35 = some c35 := by kernel_rfl

/-- chirograph/chirographref02.left -/
def c36 : Fun := ⟨13, [.inl 4],
  (.seq (.ops [⟨some 4, none, .mv (.const (.int .u32 0))⟩])
  (.seq (.draw 9 [⟨some 5, none, .mv (.tmp 0)⟩,
    ⟨some 6, none, .mv (.tmp 1)⟩,
    ⟨some 7, none, .bin .shl (.tmp 5) (.tmp 6)⟩,
    ⟨some 8, none, .mv (.tmp 0)⟩,
    ⟨some 9, none, .mv (.tmp 1)⟩,
    ⟨some 10, none, .bin .sub (.const (.int .i64 32)) (.tmp 9)⟩,
    ⟨some 11, none, .bin .shr (.tmp 8) (.tmp 10)⟩,
    ⟨some 12, none, .bin .or (.tmp 7) (.tmp 11)⟩,
    ⟨some 4, none, .mv (.tmp 12)⟩])
  .ret))⟩
theorem h36 : strF Tryd.prog [] Tryd.f36 = some c36 := by kernel_rfl

/-- chirograph/chirographref02.roots32 -/
def c37 : Fun := ⟨2, [.inr ((.agg 64), 0)],
  (.seq (.ops [⟨some 0, none, .alloc 62 (.agg (Array.replicate 64 (.int .u32 0)))⟩])
  (.seq (.ops [⟨some 1, none, .bld (Array.replicate 64 (.int .u32 0)) [(0, 1), (1, 1), (2, 1), (3, 1), (4, 1), (5, 1), (6, 1), (7, 1), (8, 1), (9, 1), (10, 1), (11, 1), (12, 1), (13, 1), (14, 1), (15, 1), (16, 1), (17, 1), (18, 1), (19, 1), (20, 1), (21, 1), (22, 1), (23, 1), (24, 1), (25, 1), (26, 1), (27, 1), (28, 1), (29, 1), (30, 1), (31, 1), (32, 1), (33, 1), (34, 1), (35, 1), (36, 1), (37, 1), (38, 1), (39, 1), (40, 1), (41, 1), (42, 1), (43, 1), (44, 1), (45, 1), (46, 1), (47, 1), (48, 1), (49, 1), (50, 1), (51, 1), (52, 1), (53, 1), (54, 1), (55, 1), (56, 1), (57, 1), (58, 1), (59, 1), (60, 1), (61, 1), (62, 1), (63, 1)] [(0, (.const (.int .u32 1116352408))), (1, (.const (.int .u32 1899447441))), (2, (.const (.int .u32 3049323471))), (3, (.const (.int .u32 3921009573))), (4, (.const (.int .u32 961987163))), (5, (.const (.int .u32 1508970993))), (6, (.const (.int .u32 2453635748))), (7, (.const (.int .u32 2870763221))), (8, (.const (.int .u32 3624381080))), (9, (.const (.int .u32 310598401))), (10, (.const (.int .u32 607225278))), (11, (.const (.int .u32 1426881987))), (12, (.const (.int .u32 1925078388))), (13, (.const (.int .u32 2162078206))), (14, (.const (.int .u32 2614888103))), (15, (.const (.int .u32 3248222580))), (16, (.const (.int .u32 3835390401))), (17, (.const (.int .u32 4022224774))), (18, (.const (.int .u32 264347078))), (19, (.const (.int .u32 604807628))), (20, (.const (.int .u32 770255983))), (21, (.const (.int .u32 1249150122))), (22, (.const (.int .u32 1555081692))), (23, (.const (.int .u32 1996064986))), (24, (.const (.int .u32 2554220882))), (25, (.const (.int .u32 2821834349))), (26, (.const (.int .u32 2952996808))), (27, (.const (.int .u32 3210313671))), (28, (.const (.int .u32 3336571891))), (29, (.const (.int .u32 3584528711))), (30, (.const (.int .u32 113926993))), (31, (.const (.int .u32 338241895))), (32, (.const (.int .u32 666307205))), (33, (.const (.int .u32 773529912))), (34, (.const (.int .u32 1294757372))), (35, (.const (.int .u32 1396182291))), (36, (.const (.int .u32 1695183700))), (37, (.const (.int .u32 1986661051))), (38, (.const (.int .u32 2177026350))), (39, (.const (.int .u32 2456956037))), (40, (.const (.int .u32 2730485921))), (41, (.const (.int .u32 2820302411))), (42, (.const (.int .u32 3259730800))), (43, (.const (.int .u32 3345764771))), (44, (.const (.int .u32 3516065817))), (45, (.const (.int .u32 3600352804))), (46, (.const (.int .u32 4094571909))), (47, (.const (.int .u32 275423344))), (48, (.const (.int .u32 430227734))), (49, (.const (.int .u32 506948616))), (50, (.const (.int .u32 659060556))), (51, (.const (.int .u32 883997877))), (52, (.const (.int .u32 958139571))), (53, (.const (.int .u32 1322822218))), (54, (.const (.int .u32 1537002063))), (55, (.const (.int .u32 1747873779))), (56, (.const (.int .u32 1955562222))), (57, (.const (.int .u32 2024104815))), (58, (.const (.int .u32 2227730452))), (59, (.const (.int .u32 2361852424))), (60, (.const (.int .u32 2428436474))), (61, (.const (.int .u32 2756734187))), (62, (.const (.int .u32 3204031479))), (63, (.const (.int .u32 3329325298)))]⟩,
    ⟨none, none, .st 64 (.tmp 0) (.tmp 1)⟩])
  .ret))⟩
theorem h37 : strF Tryd.prog [] Tryd.f37 = some c37 := by kernel_rfl

/-- chirograph/chirographref02.right -/
def c38 : Fun := ⟨13, [.inl 4],
  (.seq (.ops [⟨some 4, none, .mv (.const (.int .u32 0))⟩])
  (.seq (.draw 9 [⟨some 5, none, .mv (.tmp 0)⟩,
    ⟨some 6, none, .mv (.tmp 1)⟩,
    ⟨some 7, none, .bin .shr (.tmp 5) (.tmp 6)⟩,
    ⟨some 8, none, .mv (.tmp 0)⟩,
    ⟨some 9, none, .mv (.tmp 1)⟩,
    ⟨some 10, none, .bin .sub (.const (.int .i64 32)) (.tmp 9)⟩,
    ⟨some 11, none, .bin .shl (.tmp 8) (.tmp 10)⟩,
    ⟨some 12, none, .bin .or (.tmp 7) (.tmp 11)⟩,
    ⟨some 4, none, .mv (.tmp 12)⟩])
  .ret))⟩
theorem h38 : strF Tryd.prog [] Tryd.f38 = some c38 := by kernel_rfl

/-- chirograph/chirographref02.roots64 -/
def c39 : Fun := ⟨2, [.inr ((.agg 80), 0)],
  (.seq (.ops [⟨some 0, none, .alloc 64 (.agg (Array.replicate 80 (.int .u64 0)))⟩])
  (.seq (.ops [⟨some 1, none, .bld (Array.replicate 80 (.int .u64 0)) [(0, 1), (1, 1), (2, 1), (3, 1), (4, 1), (5, 1), (6, 1), (7, 1), (8, 1), (9, 1), (10, 1), (11, 1), (12, 1), (13, 1), (14, 1), (15, 1), (16, 1), (17, 1), (18, 1), (19, 1), (20, 1), (21, 1), (22, 1), (23, 1), (24, 1), (25, 1), (26, 1), (27, 1), (28, 1), (29, 1), (30, 1), (31, 1), (32, 1), (33, 1), (34, 1), (35, 1), (36, 1), (37, 1), (38, 1), (39, 1), (40, 1), (41, 1), (42, 1), (43, 1), (44, 1), (45, 1), (46, 1), (47, 1), (48, 1), (49, 1), (50, 1), (51, 1), (52, 1), (53, 1), (54, 1), (55, 1), (56, 1), (57, 1), (58, 1), (59, 1), (60, 1), (61, 1), (62, 1), (63, 1), (64, 1), (65, 1), (66, 1), (67, 1), (68, 1), (69, 1), (70, 1), (71, 1), (72, 1), (73, 1), (74, 1), (75, 1), (76, 1), (77, 1), (78, 1), (79, 1)] [(0, (.const (.int .u64 4794697086780616226))), (1, (.const (.int .u64 8158064640168781261))), (2, (.const (.int .u64 13096744586834688815))), (3, (.const (.int .u64 16840607885511220156))), (4, (.const (.int .u64 4131703408338449720))), (5, (.const (.int .u64 6480981068601479193))), (6, (.const (.int .u64 10538285296894168987))), (7, (.const (.int .u64 12329834152419229976))), (8, (.const (.int .u64 15566598209576043074))), (9, (.const (.int .u64 1334009975649890238))), (10, (.const (.int .u64 2608012711638119052))), (11, (.const (.int .u64 6128411473006802146))), (12, (.const (.int .u64 8268148722764581231))), (13, (.const (.int .u64 9286055187155687089))), (14, (.const (.int .u64 11230858885718282805))), (15, (.const (.int .u64 13951009754708518548))), (16, (.const (.int .u64 16472876342353939154))), (17, (.const (.int .u64 17275323862435702243))), (18, (.const (.int .u64 1135362057144423861))), (19, (.const (.int .u64 2597628984639134821))), (20, (.const (.int .u64 3308224258029322869))), (21, (.const (.int .u64 5365058923640841347))), (22, (.const (.int .u64 6679025012923562964))), (23, (.const (.int .u64 8573033837759648693))), (24, (.const (.int .u64 10970295158949994411))), (25, (.const (.int .u64 12119686244451234320))), (26, (.const (.int .u64 12683024718118986047))), (27, (.const (.int .u64 13788192230050041572))), (28, (.const (.int .u64 14330467153632333762))), (29, (.const (.int .u64 15395433587784984357))), (30, (.const (.int .u64 489312712824947311))), (31, (.const (.int .u64 1452737877330783856))), (32, (.const (.int .u64 2861767655752347644))), (33, (.const (.int .u64 3322285676063803686))), (34, (.const (.int .u64 5560940570517711597))), (35, (.const (.int .u64 5996557281743188959))), (36, (.const (.int .u64 7280758554555802590))), (37, (.const (.int .u64 8532644243296465576))), (38, (.const (.int .u64 9350256976987008742))), (39, (.const (.int .u64 10552545826968843579))), (40, (.const (.int .u64 11727347734174303076))), (41, (.const (.int .u64 12113106623233404929))), (42, (.const (.int .u64 14000437183269869457))), (43, (.const (.int .u64 14369950271660146224))), (44, (.const (.int .u64 15101387698204529176))), (45, (.const (.int .u64 15463397548674623760))), (46, (.const (.int .u64 17586052441742319658))), (47, (.const (.int .u64 1182934255886127544))), (48, (.const (.int .u64 1847814050463011016))), (49, (.const (.int .u64 2177327727835720531))), (50, (.const (.int .u64 2830643537854262169))), (51, (.const (.int .u64 3796741975233480872))), (52, (.const (.int .u64 4115178125766777443))), (53, (.const (.int .u64 5681478168544905931))), (54, (.const (.int .u64 6601373596472566643))), (55, (.const (.int .u64 7507060721942968483))), (56, (.const (.int .u64 8399075790359081724))), (57, (.const (.int .u64 8693463985226723168))), (58, (.const (.int .u64 9568029438360202098))), (59, (.const (.int .u64 10144078919501101548))), (60, (.const (.int .u64 10430055236837252648))), (61, (.const (.int .u64 11840083180663258601))), (62, (.const (.int .u64 13761210420658862357))), (63, (.const (.int .u64 14299343276471374635))), (64, (.const (.int .u64 14566680578165727644))), (65, (.const (.int .u64 15097957966210449927))), (66, (.const (.int .u64 16922976911328602910))), (67, (.const (.int .u64 17689382322260857208))), (68, (.const (.int .u64 500013540394364858))), (69, (.const (.int .u64 748580250866718886))), (70, (.const (.int .u64 1242879168328830382))), (71, (.const (.int .u64 1977374033974150939))), (72, (.const (.int .u64 2944078676154940804))), (73, (.const (.int .u64 3659926193048069267))), (74, (.const (.int .u64 4368137639120453308))), (75, (.const (.int .u64 4836135668995329356))), (76, (.const (.int .u64 5532061633213252278))), (77, (.const (.int .u64 6448918945643986474))), (78, (.const (.int .u64 6902733635092675308))), (79, (.const (.int .u64 7801388544844847127)))]⟩,
    ⟨none, none, .st 80 (.tmp 0) (.tmp 1)⟩])
  .ret))⟩
theorem h39 : strF Tryd.prog [] Tryd.f39 = some c39 := by kernel_rfl

/-- chirograph/chirographref02.turn -/
def c40 : Fun := ⟨13, [.inl 4],
  (.seq (.ops [⟨some 4, none, .mv (.const (.int .u64 0))⟩])
  (.seq (.draw 9 [⟨some 5, none, .mv (.tmp 0)⟩,
    ⟨some 6, none, .mv (.tmp 1)⟩,
    ⟨some 7, none, .bin .shr (.tmp 5) (.tmp 6)⟩,
    ⟨some 8, none, .mv (.tmp 0)⟩,
    ⟨some 9, none, .mv (.tmp 1)⟩,
    ⟨some 10, none, .bin .sub (.const (.int .i64 64)) (.tmp 9)⟩,
    ⟨some 11, none, .bin .shl (.tmp 8) (.tmp 10)⟩,
    ⟨some 12, none, .bin .or (.tmp 7) (.tmp 11)⟩,
    ⟨some 4, none, .mv (.tmp 12)⟩])
  .ret))⟩
theorem h40 : strF Tryd.prog [] Tryd.f40 = some c40 := by kernel_rfl

/-- chirograph/digest.words -/
def c41 : Fun := ⟨44, [.inr ((.agg 16), 2)],
  (.seq (.ops [⟨some 2, none, .alloc 67 (.agg (Array.replicate 16 (.int .u32 0)))⟩])
  (.seq (.seq (.ops [⟨some 4, none, .mv (.const (.int .i64 0))⟩])
  (.block 0
    (.loop
      (.seq (.ops [⟨some 5, none, .bin .lss (.tmp 4) (.const (.int .i64 16))⟩])
      (.seq (.cond (.tmp 5)
        .skip
        (.exit 0))
      (.seq (.block 1
        (.seq (.ops [⟨some 6, none, .mv (.tmp 4)⟩,
          ⟨some 3, none, .mv (.tmp 6)⟩])
        (.draw 35 [⟨some 7, none, .mv (.tmp 3)⟩,
          ⟨some 8, none, .mv (.tmp 0)⟩,
          ⟨some 9, none, .mv (.tmp 3)⟩,
          ⟨some 10, none, .bin .mul (.const (.int .i64 4)) (.tmp 9)⟩,
          ⟨some 11, none, .ia 1 (.tmp 8) (.tmp 10)⟩,
          ⟨some 12, none, .ld (.int .u8) (.tmp 11)⟩,
          ⟨some 13, none, .cv .u32 (.tmp 12)⟩,
          ⟨some 14, none, .bin .shl (.tmp 13) (.const (.int .u64 24))⟩,
          ⟨some 15, none, .mv (.tmp 0)⟩,
          ⟨some 16, none, .mv (.tmp 3)⟩,
          ⟨some 17, none, .bin .mul (.const (.int .i64 4)) (.tmp 16)⟩,
          ⟨some 18, none, .bin .add (.tmp 17) (.const (.int .i64 1))⟩,
          ⟨some 19, none, .ia 1 (.tmp 15) (.tmp 18)⟩,
          ⟨some 20, none, .ld (.int .u8) (.tmp 19)⟩,
          ⟨some 21, none, .cv .u32 (.tmp 20)⟩,
          ⟨some 22, none, .bin .shl (.tmp 21) (.const (.int .u64 16))⟩,
          ⟨some 23, none, .bin .or (.tmp 14) (.tmp 22)⟩,
          ⟨some 24, none, .mv (.tmp 0)⟩,
          ⟨some 25, none, .mv (.tmp 3)⟩,
          ⟨some 26, none, .bin .mul (.const (.int .i64 4)) (.tmp 25)⟩,
          ⟨some 27, none, .bin .add (.tmp 26) (.const (.int .i64 2))⟩,
          ⟨some 28, none, .ia 1 (.tmp 24) (.tmp 27)⟩,
          ⟨some 29, none, .ld (.int .u8) (.tmp 28)⟩,
          ⟨some 30, none, .cv .u32 (.tmp 29)⟩,
          ⟨some 31, none, .bin .shl (.tmp 30) (.const (.int .u64 8))⟩,
          ⟨some 32, none, .bin .or (.tmp 23) (.tmp 31)⟩,
          ⟨some 33, none, .mv (.tmp 0)⟩,
          ⟨some 34, none, .mv (.tmp 3)⟩,
          ⟨some 35, none, .bin .mul (.const (.int .i64 4)) (.tmp 34)⟩,
          ⟨some 36, none, .bin .add (.tmp 35) (.const (.int .i64 3))⟩,
          ⟨some 37, none, .ia 1 (.tmp 33) (.tmp 36)⟩,
          ⟨some 38, none, .ld (.int .u8) (.tmp 37)⟩,
          ⟨some 39, none, .cv .u32 (.tmp 38)⟩,
          ⟨some 40, none, .bin .or (.tmp 32) (.tmp 39)⟩,
          ⟨some 41, none, .iaA 16 1 (.tmp 2) (.tmp 7)⟩,
          ⟨none, none, .st 1 (.tmp 41) (.tmp 40)⟩])))
      (.ops [⟨some 42, none, .bin .add (.tmp 4) (.const (.int .i64 1))⟩,
        ⟨some 4, none, .mv (.tmp 42)⟩])))))))
  (.seq (.ops [⟨some 43, none, .ld (.agg 16) (.tmp 2)⟩,
    ⟨none, none, .st 16 (.tmp 2) (.tmp 43)⟩])
  .ret)))⟩
theorem h41 : strF Tryd.prog [] Tryd.f41 = some c41 := by kernel_rfl

/-- math/bits.RotateLeft32 -/
def c42 : Fun := ⟨17, [.inl 4],
  (.seq (.ops [⟨some 4, none, .mv (.const (.int .u32 0))⟩])
  (.seq (.ops [⟨some 6, none, .mv (.tmp 1)⟩,
    ⟨some 7, none, .cv .u64 (.tmp 6)⟩,
    ⟨some 8, none, .bin .and (.tmp 7) (.const (.int .u64 31))⟩,
    ⟨some 5, none, .mv (.tmp 8)⟩])
  (.seq (.ops [⟨some 9, none, .mv (.tmp 0)⟩,
    ⟨some 10, none, .mv (.tmp 5)⟩,
    ⟨some 11, none, .bin .shl (.tmp 9) (.tmp 10)⟩,
    ⟨some 12, none, .mv (.tmp 0)⟩,
    ⟨some 13, none, .mv (.tmp 5)⟩,
    ⟨some 14, none, .bin .sub (.const (.int .u64 32)) (.tmp 13)⟩,
    ⟨some 15, none, .bin .shr (.tmp 12) (.tmp 14)⟩,
    ⟨some 16, none, .bin .or (.tmp 11) (.tmp 15)⟩,
    ⟨some 4, none, .mv (.tmp 16)⟩])
  .ret)))⟩
theorem h42 : strF Tryd.prog [] Tryd.f42 = some c42 := by kernel_rfl

/-- chirograph/digest.turns -/
def c43 : Fun := ⟨31, [.inl 10],
  (.seq (.ops [⟨some 10, none, .mv (.const (.int .u32 0))⟩])
  (.seq (.ops [⟨some 12, none, .mv (.tmp 0)⟩,
    ⟨some 13, none, .mv (.tmp 3)⟩,
    ⟨some 14, none, .un .neg (.tmp 13)⟩,
    ⟨some 15, none, .call 42 [(.tmp 12), (.tmp 14)]⟩,
    ⟨some 11, none, .mv (.tmp 15)⟩])
  (.join (.seq (.ops [⟨some 16, none, .mv (.tmp 4)⟩])
  (.cond (.tmp 16)
    (.ops [⟨some 17, none, .mv (.tmp 0)⟩,
      ⟨some 18, none, .mv (.tmp 3)⟩,
      ⟨some 19, none, .bin .shr (.tmp 17) (.tmp 18)⟩,
      ⟨some 11, none, .mv (.tmp 19)⟩])
    .skip))
  (.seq (.ops [⟨some 20, none, .mv (.tmp 0)⟩,
    ⟨some 21, none, .mv (.tmp 1)⟩,
    ⟨some 22, none, .un .neg (.tmp 21)⟩,
    ⟨some 23, none, .call 42 [(.tmp 20), (.tmp 22)]⟩,
    ⟨some 24, none, .mv (.tmp 0)⟩,
    ⟨some 25, none, .mv (.tmp 2)⟩,
    ⟨some 26, none, .un .neg (.tmp 25)⟩,
    ⟨some 27, none, .call 42 [(.tmp 24), (.tmp 26)]⟩,
    ⟨some 28, none, .bin .xor (.tmp 23) (.tmp 27)⟩,
    ⟨some 29, none, .mv (.tmp 11)⟩,
    ⟨some 30, none, .bin .xor (.tmp 28) (.tmp 29)⟩,
    ⟨some 10, none, .mv (.tmp 30)⟩])
  .ret))))⟩
theorem h43 : strF Tryd.prog [] Tryd.f43 = some c43 := by kernel_rfl

/-- chirograph/digest.wturns -/
def c44 : Fun := ⟨31, [.inl 10],
  (.seq (.ops [⟨some 10, none, .mv (.const (.int .u64 0))⟩])
  (.seq (.ops [⟨some 12, none, .mv (.tmp 0)⟩,
    ⟨some 13, none, .mv (.tmp 3)⟩,
    ⟨some 14, none, .un .neg (.tmp 13)⟩,
    ⟨some 15, none, .call 45 [(.tmp 12), (.tmp 14)]⟩,
    ⟨some 11, none, .mv (.tmp 15)⟩])
  (.join (.seq (.ops [⟨some 16, none, .mv (.tmp 4)⟩])
  (.cond (.tmp 16)
    (.ops [⟨some 17, none, .mv (.tmp 0)⟩,
      ⟨some 18, none, .mv (.tmp 3)⟩,
      ⟨some 19, none, .bin .shr (.tmp 17) (.tmp 18)⟩,
      ⟨some 11, none, .mv (.tmp 19)⟩])
    .skip))
  (.seq (.ops [⟨some 20, none, .mv (.tmp 0)⟩,
    ⟨some 21, none, .mv (.tmp 1)⟩,
    ⟨some 22, none, .un .neg (.tmp 21)⟩,
    ⟨some 23, none, .call 45 [(.tmp 20), (.tmp 22)]⟩,
    ⟨some 24, none, .mv (.tmp 0)⟩,
    ⟨some 25, none, .mv (.tmp 2)⟩,
    ⟨some 26, none, .un .neg (.tmp 25)⟩,
    ⟨some 27, none, .call 45 [(.tmp 24), (.tmp 26)]⟩,
    ⟨some 28, none, .bin .xor (.tmp 23) (.tmp 27)⟩,
    ⟨some 29, none, .mv (.tmp 11)⟩,
    ⟨some 30, none, .bin .xor (.tmp 28) (.tmp 29)⟩,
    ⟨some 10, none, .mv (.tmp 30)⟩])
  .ret))))⟩
theorem h44 : strF Tryd.prog [] Tryd.f44 = some c44 := by kernel_rfl

/-- math/bits.RotateLeft64 -/
def c45 : Fun := ⟨17, [.inl 4],
  (.seq (.ops [⟨some 4, none, .mv (.const (.int .u64 0))⟩])
  (.seq (.ops [⟨some 6, none, .mv (.tmp 1)⟩,
    ⟨some 7, none, .cv .u64 (.tmp 6)⟩,
    ⟨some 8, none, .bin .and (.tmp 7) (.const (.int .u64 63))⟩,
    ⟨some 5, none, .mv (.tmp 8)⟩])
  (.seq (.ops [⟨some 9, none, .mv (.tmp 0)⟩,
    ⟨some 10, none, .mv (.tmp 5)⟩,
    ⟨some 11, none, .bin .shl (.tmp 9) (.tmp 10)⟩,
    ⟨some 12, none, .mv (.tmp 0)⟩,
    ⟨some 13, none, .mv (.tmp 5)⟩,
    ⟨some 14, none, .bin .sub (.const (.int .u64 64)) (.tmp 13)⟩,
    ⟨some 15, none, .bin .shr (.tmp 12) (.tmp 14)⟩,
    ⟨some 16, none, .bin .or (.tmp 11) (.tmp 15)⟩,
    ⟨some 4, none, .mv (.tmp 16)⟩])
  .ret)))⟩
theorem h45 : strF Tryd.prog [] Tryd.f45 = some c45 := by kernel_rfl

end Go.Proofs.YtibccpfocbdmaaaDoor.Code
