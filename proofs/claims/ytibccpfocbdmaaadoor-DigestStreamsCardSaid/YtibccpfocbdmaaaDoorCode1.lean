/- The functions as the engine has them: by program, out of the translation. -/
import Derived.Test.YtibccpfocbdmaaaDoorEngE
import Derived.Test.YtibccpfocbdmaaaDoorProg
set_option maxRecDepth 100000
namespace Go.Proofs.YtibccpfocbdmaaaDoor.Code
open Go Go.Proofs Go.Proofs.YtibccpfocbdmaaaDoor.Eng

/-- chirograph/digest.wide -/
def c35 : Fun := ⟨141, [.inr ((.agg 8), 4)],
  (.seq (.ops [⟨some 2, none, .box 51 (.tmp 0)⟩,
    ⟨some 4, none, .alloc 51 (.agg (Array.replicate 8 (.int .u64 0)))⟩])
  (.seq (.ops [⟨some 5, none, .alloc 70 (.agg (Array.replicate 16 (.int .u64 0)))⟩])
  (.seq (.seq (.ops [⟨some 13, none, .mv (.const (.int .i64 0))⟩])
  (.block 0
    (.loop
      (.seq (.ops [⟨some 14, none, .bin .lss (.tmp 13) (.const (.int .i64 128))⟩])
      (.seq (.cond (.tmp 14)
        .skip
        (.exit 0))
      (.seq (.block 1
        (.seq (.ops [⟨some 15, none, .mv (.tmp 13)⟩,
          ⟨some 6, none, .mv (.tmp 15)⟩])
        (.draw 14 [⟨some 16, none, .mv (.tmp 6)⟩,
          ⟨some 17, none, .bin .quo (.tmp 16) (.const (.int .i64 8))⟩,
          ⟨some 18, none, .mv (.tmp 6)⟩,
          ⟨some 19, none, .bin .quo (.tmp 18) (.const (.int .i64 8))⟩,
          ⟨some 20, none, .iaA 16 1 (.tmp 5) (.tmp 19)⟩,
          ⟨some 21, none, .ld (.int .u64) (.tmp 20)⟩,
          ⟨some 22, none, .bin .shl (.tmp 21) (.const (.int .u64 8))⟩,
          ⟨some 23, none, .mv (.tmp 1)⟩,
          ⟨some 24, none, .mv (.tmp 6)⟩,
          ⟨some 25, none, .ia 1 (.tmp 23) (.tmp 24)⟩,
          ⟨some 26, none, .ld (.int .u8) (.tmp 25)⟩,
          ⟨some 27, none, .cv .u64 (.tmp 26)⟩,
          ⟨some 28, none, .bin .or (.tmp 22) (.tmp 27)⟩,
          ⟨some 29, none, .iaA 16 1 (.tmp 5) (.tmp 17)⟩,
          ⟨none, none, .st 1 (.tmp 29) (.tmp 28)⟩])))
      (.ops [⟨some 30, none, .bin .add (.tmp 13) (.const (.int .i64 1))⟩,
        ⟨some 13, none, .mv (.tmp 30)⟩])))))))
  (.seq (.ops [⟨some 31, none, .ld (.agg 8) (.tmp 2)⟩,
    ⟨some 7, none, .alloc 51 (.agg (Array.replicate 8 (.int .u64 0)))⟩,
    ⟨none, none, .st 8 (.tmp 7) (.tmp 31)⟩])
  (.seq (.seq (.ops [⟨some 32, none, .mv (.const (.int .i64 0))⟩])
  (.block 2
    (.loop
      (.seq (.ops [⟨some 33, none, .bin .lss (.tmp 32) (.const (.int .i64 80))⟩])
      (.seq (.cond (.tmp 33)
        .skip
        (.exit 2))
      (.seq (.block 3
        (.seq (.ops [⟨some 34, none, .mv (.tmp 32)⟩,
          ⟨some 8, none, .mv (.tmp 34)⟩])
        (.seq (.ops [⟨some 35, none, .mv (.tmp 8)⟩,
          ⟨some 36, none, .bin .rem (.tmp 35) (.const (.int .i64 16))⟩,
          ⟨some 9, none, .mv (.tmp 36)⟩])
        (.join (.seq (.ops [⟨some 37, none, .mv (.tmp 8)⟩,
          ⟨some 38, none, .bin .geq (.tmp 37) (.const (.int .i64 16))⟩])
        (.cond (.tmp 38)
          (.draw 24 [⟨some 39, none, .mv (.tmp 9)⟩,
            ⟨some 40, none, .iaA 16 1 (.tmp 5) (.tmp 39)⟩,
            ⟨some 41, none, .ld (.int .u64) (.tmp 40)⟩,
            ⟨some 42, none, .mv (.tmp 9)⟩,
            ⟨some 43, none, .bin .add (.tmp 42) (.const (.int .i64 14))⟩,
            ⟨some 44, none, .bin .rem (.tmp 43) (.const (.int .i64 16))⟩,
            ⟨some 45, none, .iaA 16 1 (.tmp 5) (.tmp 44)⟩,
            ⟨some 46, none, .ld (.int .u64) (.tmp 45)⟩,
            ⟨some 47, none, .call 44 [(.tmp 46), (.const (.int .i64 19)), (.const (.int .i64 61)), (.const (.int .i64 6)), (.const (.bool true))]⟩,
            ⟨some 48, none, .mv (.tmp 9)⟩,
            ⟨some 49, none, .bin .add (.tmp 48) (.const (.int .i64 9))⟩,
            ⟨some 50, none, .bin .rem (.tmp 49) (.const (.int .i64 16))⟩,
            ⟨some 51, none, .iaA 16 1 (.tmp 5) (.tmp 50)⟩,
            ⟨some 52, none, .ld (.int .u64) (.tmp 51)⟩,
            ⟨some 53, none, .bin .add (.tmp 47) (.tmp 52)⟩,
            ⟨some 54, none, .mv (.tmp 9)⟩,
            ⟨some 55, none, .bin .add (.tmp 54) (.const (.int .i64 1))⟩,
            ⟨some 56, none, .bin .rem (.tmp 55) (.const (.int .i64 16))⟩,
            ⟨some 57, none, .iaA 16 1 (.tmp 5) (.tmp 56)⟩,
            ⟨some 58, none, .ld (.int .u64) (.tmp 57)⟩,
            ⟨some 59, none, .call 44 [(.tmp 58), (.const (.int .i64 1)), (.const (.int .i64 8)), (.const (.int .i64 7)), (.const (.bool true))]⟩,
            ⟨some 60, none, .bin .add (.tmp 53) (.tmp 59)⟩,
            ⟨some 61, none, .bin .add (.tmp 41) (.tmp 60)⟩,
            ⟨some 62, none, .iaA 16 1 (.tmp 5) (.tmp 39)⟩,
            ⟨none, none, .st 1 (.tmp 62) (.tmp 61)⟩])
          .skip))
        (.seq (.draw 27 [⟨some 63, none, .iaA 8 1 (.tmp 7) (.const (.int .i64 7))⟩,
          ⟨some 64, none, .ld (.int .u64) (.tmp 63)⟩,
          ⟨some 65, none, .iaA 8 1 (.tmp 7) (.const (.int .i64 4))⟩,
          ⟨some 66, none, .ld (.int .u64) (.tmp 65)⟩,
          ⟨some 67, none, .call 44 [(.tmp 66), (.const (.int .i64 14)), (.const (.int .i64 18)), (.const (.int .i64 41)), (.const (.bool false))]⟩,
          ⟨some 68, none, .bin .add (.tmp 64) (.tmp 67)⟩,
          ⟨some 69, none, .iaA 8 1 (.tmp 7) (.const (.int .i64 6))⟩,
          ⟨some 70, none, .ld (.int .u64) (.tmp 69)⟩,
          ⟨some 71, none, .iaA 8 1 (.tmp 7) (.const (.int .i64 4))⟩,
          ⟨some 72, none, .ld (.int .u64) (.tmp 71)⟩,
          ⟨some 73, none, .iaA 8 1 (.tmp 7) (.const (.int .i64 5))⟩,
          ⟨some 74, none, .ld (.int .u64) (.tmp 73)⟩,
          ⟨some 75, none, .iaA 8 1 (.tmp 7) (.const (.int .i64 6))⟩,
          ⟨some 76, none, .ld (.int .u64) (.tmp 75)⟩,
          ⟨some 77, none, .bin .xor (.tmp 74) (.tmp 76)⟩,
          ⟨some 78, none, .bin .and (.tmp 72) (.tmp 77)⟩,
          ⟨some 79, none, .bin .xor (.tmp 70) (.tmp 78)⟩,
          ⟨some 80, none, .bin .add (.tmp 68) (.tmp 79)⟩,
          ⟨some 81, none, .mv (.tmp 8)⟩,
          ⟨some 82, none, .iaA 80 1 (.global 1) (.tmp 81)⟩,
          ⟨some 83, none, .ld (.int .u64) (.tmp 82)⟩,
          ⟨some 84, none, .bin .add (.tmp 80) (.tmp 83)⟩,
          ⟨some 85, none, .mv (.tmp 9)⟩,
          ⟨some 86, none, .iaA 16 1 (.tmp 5) (.tmp 85)⟩,
          ⟨some 87, none, .ld (.int .u64) (.tmp 86)⟩,
          ⟨some 88, none, .bin .add (.tmp 84) (.tmp 87)⟩,
          ⟨some 10, none, .mv (.tmp 88)⟩])
        (.seq (.draw 19 [⟨some 89, none, .iaA 8 1 (.tmp 7) (.const (.int .i64 0))⟩,
          ⟨some 90, none, .ld (.int .u64) (.tmp 89)⟩,
          ⟨some 91, none, .call 44 [(.tmp 90), (.const (.int .i64 28)), (.const (.int .i64 34)), (.const (.int .i64 39)), (.const (.bool false))]⟩,
          ⟨some 92, none, .iaA 8 1 (.tmp 7) (.const (.int .i64 0))⟩,
          ⟨some 93, none, .ld (.int .u64) (.tmp 92)⟩,
          ⟨some 94, none, .iaA 8 1 (.tmp 7) (.const (.int .i64 1))⟩,
          ⟨some 95, none, .ld (.int .u64) (.tmp 94)⟩,
          ⟨some 96, none, .bin .and (.tmp 93) (.tmp 95)⟩,
          ⟨some 97, none, .iaA 8 1 (.tmp 7) (.const (.int .i64 2))⟩,
          ⟨some 98, none, .ld (.int .u64) (.tmp 97)⟩,
          ⟨some 99, none, .iaA 8 1 (.tmp 7) (.const (.int .i64 0))⟩,
          ⟨some 100, none, .ld (.int .u64) (.tmp 99)⟩,
          ⟨some 101, none, .iaA 8 1 (.tmp 7) (.const (.int .i64 1))⟩,
          ⟨some 102, none, .ld (.int .u64) (.tmp 101)⟩,
          ⟨some 103, none, .bin .or (.tmp 100) (.tmp 102)⟩,
          ⟨some 104, none, .bin .and (.tmp 98) (.tmp 103)⟩,
          ⟨some 105, none, .bin .or (.tmp 96) (.tmp 104)⟩,
          ⟨some 106, none, .bin .add (.tmp 91) (.tmp 105)⟩,
          ⟨some 11, none, .mv (.tmp 106)⟩])
        (.ops [⟨some 107, none, .mv (.tmp 10)⟩,
          ⟨some 108, none, .mv (.tmp 11)⟩,
          ⟨some 109, none, .bin .add (.tmp 107) (.tmp 108)⟩,
          ⟨some 110, none, .iaA 8 1 (.tmp 7) (.const (.int .i64 0))⟩,
          ⟨some 111, none, .ld (.int .u64) (.tmp 110)⟩,
          ⟨some 112, none, .iaA 8 1 (.tmp 7) (.const (.int .i64 1))⟩,
          ⟨some 113, none, .ld (.int .u64) (.tmp 112)⟩,
          ⟨some 114, none, .iaA 8 1 (.tmp 7) (.const (.int .i64 2))⟩,
          ⟨some 115, none, .ld (.int .u64) (.tmp 114)⟩,
          ⟨some 116, none, .iaA 8 1 (.tmp 7) (.const (.int .i64 3))⟩,
          ⟨some 117, none, .ld (.int .u64) (.tmp 116)⟩,
          ⟨some 118, none, .mv (.tmp 10)⟩,
          ⟨some 119, none, .bin .add (.tmp 117) (.tmp 118)⟩,
          ⟨some 120, none, .iaA 8 1 (.tmp 7) (.const (.int .i64 4))⟩,
          ⟨some 121, none, .ld (.int .u64) (.tmp 120)⟩,
          ⟨some 122, none, .iaA 8 1 (.tmp 7) (.const (.int .i64 5))⟩,
          ⟨some 123, none, .ld (.int .u64) (.tmp 122)⟩,
          ⟨some 124, none, .iaA 8 1 (.tmp 7) (.const (.int .i64 6))⟩,
          ⟨some 125, none, .ld (.int .u64) (.tmp 124)⟩,
          ⟨some 126, none, .bld (Array.replicate 8 (.int .u64 0)) [(0, 1), (1, 1), (2, 1), (3, 1), (4, 1), (5, 1), (6, 1), (7, 1)] [(0, (.tmp 109)), (1, (.tmp 111)), (2, (.tmp 113)), (3, (.tmp 115)), (4, (.tmp 119)), (5, (.tmp 121)), (6, (.tmp 123)), (7, (.tmp 125))]⟩,
          ⟨none, none, .st 8 (.tmp 7) (.tmp 126)⟩])))))))
      (.ops [⟨some 127, none, .bin .add (.tmp 32) (.const (.int .i64 1))⟩,
        ⟨some 32, none, .mv (.tmp 127)⟩])))))))
  (.seq (.seq (.ops [⟨some 128, none, .mv (.const (.int .i64 0))⟩])
  (.block 4
    (.loop
      (.seq (.ops [⟨some 129, none, .bin .lss (.tmp 128) (.const (.int .i64 8))⟩])
      (.seq (.cond (.tmp 129)
        .skip
        (.exit 4))
      (.seq (.block 5
        (.seq (.ops [⟨some 130, none, .mv (.tmp 128)⟩,
          ⟨some 12, none, .mv (.tmp 130)⟩])
        (.draw 8 [⟨some 131, none, .mv (.tmp 12)⟩,
          ⟨some 132, none, .iaA 8 1 (.tmp 7) (.tmp 131)⟩,
          ⟨some 133, none, .ld (.int .u64) (.tmp 132)⟩,
          ⟨some 134, none, .mv (.tmp 12)⟩,
          ⟨some 135, none, .iaA 8 1 (.tmp 2) (.tmp 134)⟩,
          ⟨some 136, none, .ld (.int .u64) (.tmp 135)⟩,
          ⟨some 137, none, .bin .add (.tmp 133) (.tmp 136)⟩,
          ⟨some 138, none, .iaA 8 1 (.tmp 7) (.tmp 131)⟩,
          ⟨none, none, .st 1 (.tmp 138) (.tmp 137)⟩])))
      (.ops [⟨some 139, none, .bin .add (.tmp 128) (.const (.int .i64 1))⟩,
        ⟨some 128, none, .mv (.tmp 139)⟩])))))))
  (.seq (.ops [⟨some 140, none, .ld (.agg 8) (.tmp 7)⟩,
    ⟨none, none, .st 8 (.tmp 4) (.tmp 140)⟩])
  .ret)))))))⟩
theorem h35 : strF Tryd.prog [] Tryd.f35 = some c35 := by kernel_rfl

/-- chirograph/chirographref02.left -/
def c36 : Fun := ⟨13, [.inl 4],
  (.seq (.ops [⟨some 4, none, .mv (.const (.int .u32 0))⟩])
  (.seq (.draw 9 [⟨some 5, none, .mv (.tmp 0)⟩,
    ⟨some 6, none, .mv (.tmp 1)⟩,
    ⟨some 7, none, .bin .shl (.tmp 5) (.tmp 6)⟩,
    ⟨some 8, none, .mv (.tmp 0)⟩,
    ⟨some 9, none, .mv (.tmp 1)⟩,
    ⟨some 10, none, .bin .sub (.const (.int .i64 32)) (.tmp 9)⟩,
    ⟨some 11, none, .bin .shr (.tmp 8) (.tmp 10)⟩,
    ⟨some 12, none, .bin .or (.tmp 7) (.tmp 11)⟩,
    ⟨some 4, none, .mv (.tmp 12)⟩])
  .ret))⟩
theorem h36 : strF Tryd.prog [] Tryd.f36 = some c36 := by kernel_rfl

/-- chirograph/chirographref02.roots32 -/
def c37 : Fun := ⟨2, [.inr ((.agg 64), 0)],
  (.seq (.ops [⟨some 0, none, .alloc 62 (.agg (Array.replicate 64 (.int .u32 0)))⟩])
  (.seq (.ops [⟨some 1, none, .bld (Array.replicate 64 (.int .u32 0)) [(0, 1), (1, 1), (2, 1), (3, 1), (4, 1), (5, 1), (6, 1), (7, 1), (8, 1), (9, 1), (10, 1), (11, 1), (12, 1), (13, 1), (14, 1), (15, 1), (16, 1), (17, 1), (18, 1), (19, 1), (20, 1), (21, 1), (22, 1), (23, 1), (24, 1), (25, 1), (26, 1), (27, 1), (28, 1), (29, 1), (30, 1), (31, 1), (32, 1), (33, 1), (34, 1), (35, 1), (36, 1), (37, 1), (38, 1), (39, 1), (40, 1), (41, 1), (42, 1), (43, 1), (44, 1), (45, 1), (46, 1), (47, 1), (48, 1), (49, 1), (50, 1), (51, 1), (52, 1), (53, 1), (54, 1), (55, 1), (56, 1), (57, 1), (58, 1), (59, 1), (60, 1), (61, 1), (62, 1), (63, 1)] [(0, (.const (.int .u32 1116352408))), (1, (.const (.int .u32 1899447441))), (2, (.const (.int .u32 3049323471))), (3, (.const (.int .u32 3921009573))), (4, (.const (.int .u32 961987163))), (5, (.const (.int .u32 1508970993))), (6, (.const (.int .u32 2453635748))), (7, (.const (.int .u32 2870763221))), (8, (.const (.int .u32 3624381080))), (9, (.const (.int .u32 310598401))), (10, (.const (.int .u32 607225278))), (11, (.const (.int .u32 1426881987))), (12, (.const (.int .u32 1925078388))), (13, (.const (.int .u32 2162078206))), (14, (.const (.int .u32 2614888103))), (15, (.const (.int .u32 3248222580))), (16, (.const (.int .u32 3835390401))), (17, (.const (.int .u32 4022224774))), (18, (.const (.int .u32 264347078))), (19, (.const (.int .u32 604807628))), (20, (.const (.int .u32 770255983))), (21, (.const (.int .u32 1249150122))), (22, (.const (.int .u32 1555081692))), (23, (.const (.int .u32 1996064986))), (24, (.const (.int .u32 2554220882))), (25, (.const (.int .u32 2821834349))), (26, (.const (.int .u32 2952996808))), (27, (.const (.int .u32 3210313671))), (28, (.const (.int .u32 3336571891))), (29, (.const (.int .u32 3584528711))), (30, (.const (.int .u32 113926993))), (31, (.const (.int .u32 338241895))), (32, (.const (.int .u32 666307205))), (33, (.const (.int .u32 773529912))), (34, (.const (.int .u32 1294757372))), (35, (.const (.int .u32 1396182291))), (36, (.const (.int .u32 1695183700))), (37, (.const (.int .u32 1986661051))), (38, (.const (.int .u32 2177026350))), (39, (.const (.int .u32 2456956037))), (40, (.const (.int .u32 2730485921))), (41, (.const (.int .u32 2820302411))), (42, (.const (.int .u32 3259730800))), (43, (.const (.int .u32 3345764771))), (44, (.const (.int .u32 3516065817))), (45, (.const (.int .u32 3600352804))), (46, (.const (.int .u32 4094571909))), (47, (.const (.int .u32 275423344))), (48, (.const (.int .u32 430227734))), (49, (.const (.int .u32 506948616))), (50, (.const (.int .u32 659060556))), (51, (.const (.int .u32 883997877))), (52, (.const (.int .u32 958139571))), (53, (.const (.int .u32 1322822218))), (54, (.const (.int .u32 1537002063))), (55, (.const (.int .u32 1747873779))), (56, (.const (.int .u32 1955562222))), (57, (.const (.int .u32 2024104815))), (58, (.const (.int .u32 2227730452))), (59, (.const (.int .u32 2361852424))), (60, (.const (.int .u32 2428436474))), (61, (.const (.int .u32 2756734187))), (62, (.const (.int .u32 3204031479))), (63, (.const (.int .u32 3329325298)))]⟩,
    ⟨none, none, .st 64 (.tmp 0) (.tmp 1)⟩])
  .ret))⟩
theorem h37 : strF Tryd.prog [] Tryd.f37 = some c37 := by kernel_rfl

/-- chirograph/chirographref02.right -/
def c38 : Fun := ⟨13, [.inl 4],
  (.seq (.ops [⟨some 4, none, .mv (.const (.int .u32 0))⟩])
  (.seq (.draw 9 [⟨some 5, none, .mv (.tmp 0)⟩,
    ⟨some 6, none, .mv (.tmp 1)⟩,
    ⟨some 7, none, .bin .shr (.tmp 5) (.tmp 6)⟩,
    ⟨some 8, none, .mv (.tmp 0)⟩,
    ⟨some 9, none, .mv (.tmp 1)⟩,
    ⟨some 10, none, .bin .sub (.const (.int .i64 32)) (.tmp 9)⟩,
    ⟨some 11, none, .bin .shl (.tmp 8) (.tmp 10)⟩,
    ⟨some 12, none, .bin .or (.tmp 7) (.tmp 11)⟩,
    ⟨some 4, none, .mv (.tmp 12)⟩])
  .ret))⟩
theorem h38 : strF Tryd.prog [] Tryd.f38 = some c38 := by kernel_rfl

/-- chirograph/chirographref02.roots64 -/
def c39 : Fun := ⟨2, [.inr ((.agg 80), 0)],
  (.seq (.ops [⟨some 0, none, .alloc 64 (.agg (Array.replicate 80 (.int .u64 0)))⟩])
  (.seq (.ops [⟨some 1, none, .bld (Array.replicate 80 (.int .u64 0)) [(0, 1), (1, 1), (2, 1), (3, 1), (4, 1), (5, 1), (6, 1), (7, 1), (8, 1), (9, 1), (10, 1), (11, 1), (12, 1), (13, 1), (14, 1), (15, 1), (16, 1), (17, 1), (18, 1), (19, 1), (20, 1), (21, 1), (22, 1), (23, 1), (24, 1), (25, 1), (26, 1), (27, 1), (28, 1), (29, 1), (30, 1), (31, 1), (32, 1), (33, 1), (34, 1), (35, 1), (36, 1), (37, 1), (38, 1), (39, 1), (40, 1), (41, 1), (42, 1), (43, 1), (44, 1), (45, 1), (46, 1), (47, 1), (48, 1), (49, 1), (50, 1), (51, 1), (52, 1), (53, 1), (54, 1), (55, 1), (56, 1), (57, 1), (58, 1), (59, 1), (60, 1), (61, 1), (62, 1), (63, 1), (64, 1), (65, 1), (66, 1), (67, 1), (68, 1), (69, 1), (70, 1), (71, 1), (72, 1), (73, 1), (74, 1), (75, 1), (76, 1), (77, 1), (78, 1), (79, 1)] [(0, (.const (.int .u64 4794697086780616226))), (1, (.const (.int .u64 8158064640168781261))), (2, (.const (.int .u64 13096744586834688815))), (3, (.const (.int .u64 16840607885511220156))), (4, (.const (.int .u64 4131703408338449720))), (5, (.const (.int .u64 6480981068601479193))), (6, (.const (.int .u64 10538285296894168987))), (7, (.const (.int .u64 12329834152419229976))), (8, (.const (.int .u64 15566598209576043074))), (9, (.const (.int .u64 1334009975649890238))), (10, (.const (.int .u64 2608012711638119052))), (11, (.const (.int .u64 6128411473006802146))), (12, (.const (.int .u64 8268148722764581231))), (13, (.const (.int .u64 9286055187155687089))), (14, (.const (.int .u64 11230858885718282805))), (15, (.const (.int .u64 13951009754708518548))), (16, (.const (.int .u64 16472876342353939154))), (17, (.const (.int .u64 17275323862435702243))), (18, (.const (.int .u64 1135362057144423861))), (19, (.const (.int .u64 2597628984639134821))), (20, (.const (.int .u64 3308224258029322869))), (21, (.const (.int .u64 5365058923640841347))), (22, (.const (.int .u64 6679025012923562964))), (23, (.const (.int .u64 8573033837759648693))), (24, (.const (.int .u64 10970295158949994411))), (25, (.const (.int .u64 12119686244451234320))), (26, (.const (.int .u64 12683024718118986047))), (27, (.const (.int .u64 13788192230050041572))), (28, (.const (.int .u64 14330467153632333762))), (29, (.const (.int .u64 15395433587784984357))), (30, (.const (.int .u64 489312712824947311))), (31, (.const (.int .u64 1452737877330783856))), (32, (.const (.int .u64 2861767655752347644))), (33, (.const (.int .u64 3322285676063803686))), (34, (.const (.int .u64 5560940570517711597))), (35, (.const (.int .u64 5996557281743188959))), (36, (.const (.int .u64 7280758554555802590))), (37, (.const (.int .u64 8532644243296465576))), (38, (.const (.int .u64 9350256976987008742))), (39, (.const (.int .u64 10552545826968843579))), (40, (.const (.int .u64 11727347734174303076))), (41, (.const (.int .u64 12113106623233404929))), (42, (.const (.int .u64 14000437183269869457))), (43, (.const (.int .u64 14369950271660146224))), (44, (.const (.int .u64 15101387698204529176))), (45, (.const (.int .u64 15463397548674623760))), (46, (.const (.int .u64 17586052441742319658))), (47, (.const (.int .u64 1182934255886127544))), (48, (.const (.int .u64 1847814050463011016))), (49, (.const (.int .u64 2177327727835720531))), (50, (.const (.int .u64 2830643537854262169))), (51, (.const (.int .u64 3796741975233480872))), (52, (.const (.int .u64 4115178125766777443))), (53, (.const (.int .u64 5681478168544905931))), (54, (.const (.int .u64 6601373596472566643))), (55, (.const (.int .u64 7507060721942968483))), (56, (.const (.int .u64 8399075790359081724))), (57, (.const (.int .u64 8693463985226723168))), (58, (.const (.int .u64 9568029438360202098))), (59, (.const (.int .u64 10144078919501101548))), (60, (.const (.int .u64 10430055236837252648))), (61, (.const (.int .u64 11840083180663258601))), (62, (.const (.int .u64 13761210420658862357))), (63, (.const (.int .u64 14299343276471374635))), (64, (.const (.int .u64 14566680578165727644))), (65, (.const (.int .u64 15097957966210449927))), (66, (.const (.int .u64 16922976911328602910))), (67, (.const (.int .u64 17689382322260857208))), (68, (.const (.int .u64 500013540394364858))), (69, (.const (.int .u64 748580250866718886))), (70, (.const (.int .u64 1242879168328830382))), (71, (.const (.int .u64 1977374033974150939))), (72, (.const (.int .u64 2944078676154940804))), (73, (.const (.int .u64 3659926193048069267))), (74, (.const (.int .u64 4368137639120453308))), (75, (.const (.int .u64 4836135668995329356))), (76, (.const (.int .u64 5532061633213252278))), (77, (.const (.int .u64 6448918945643986474))), (78, (.const (.int .u64 6902733635092675308))), (79, (.const (.int .u64 7801388544844847127)))]⟩,
    ⟨none, none, .st 80 (.tmp 0) (.tmp 1)⟩])
  .ret))⟩
theorem h39 : strF Tryd.prog [] Tryd.f39 = some c39 := by kernel_rfl

/-- chirograph/chirographref02.turn -/
def c40 : Fun := ⟨13, [.inl 4],
  (.seq (.ops [⟨some 4, none, .mv (.const (.int .u64 0))⟩])
  (.seq (.draw 9 [⟨some 5, none, .mv (.tmp 0)⟩,
    ⟨some 6, none, .mv (.tmp 1)⟩,
    ⟨some 7, none, .bin .shr (.tmp 5) (.tmp 6)⟩,
    ⟨some 8, none, .mv (.tmp 0)⟩,
    ⟨some 9, none, .mv (.tmp 1)⟩,
    ⟨some 10, none, .bin .sub (.const (.int .i64 64)) (.tmp 9)⟩,
    ⟨some 11, none, .bin .shl (.tmp 8) (.tmp 10)⟩,
    ⟨some 12, none, .bin .or (.tmp 7) (.tmp 11)⟩,
    ⟨some 4, none, .mv (.tmp 12)⟩])
  .ret))⟩
theorem h40 : strF Tryd.prog [] Tryd.f40 = some c40 := by kernel_rfl

/-- chirograph/digest.words -/
def c41 : Fun := ⟨44, [.inr ((.agg 16), 2)],
  (.seq (.ops [⟨some 2, none, .alloc 67 (.agg (Array.replicate 16 (.int .u32 0)))⟩])
  (.seq (.seq (.ops [⟨some 4, none, .mv (.const (.int .i64 0))⟩])
  (.block 0
    (.loop
      (.seq (.ops [⟨some 5, none, .bin .lss (.tmp 4) (.const (.int .i64 16))⟩])
      (.seq (.cond (.tmp 5)
        .skip
        (.exit 0))
      (.seq (.block 1
        (.seq (.ops [⟨some 6, none, .mv (.tmp 4)⟩,
          ⟨some 3, none, .mv (.tmp 6)⟩])
        (.draw 35 [⟨some 7, none, .mv (.tmp 3)⟩,
          ⟨some 8, none, .mv (.tmp 0)⟩,
          ⟨some 9, none, .mv (.tmp 3)⟩,
          ⟨some 10, none, .bin .mul (.const (.int .i64 4)) (.tmp 9)⟩,
          ⟨some 11, none, .ia 1 (.tmp 8) (.tmp 10)⟩,
          ⟨some 12, none, .ld (.int .u8) (.tmp 11)⟩,
          ⟨some 13, none, .cv .u32 (.tmp 12)⟩,
          ⟨some 14, none, .bin .shl (.tmp 13) (.const (.int .u64 24))⟩,
          ⟨some 15, none, .mv (.tmp 0)⟩,
          ⟨some 16, none, .mv (.tmp 3)⟩,
          ⟨some 17, none, .bin .mul (.const (.int .i64 4)) (.tmp 16)⟩,
          ⟨some 18, none, .bin .add (.tmp 17) (.const (.int .i64 1))⟩,
          ⟨some 19, none, .ia 1 (.tmp 15) (.tmp 18)⟩,
          ⟨some 20, none, .ld (.int .u8) (.tmp 19)⟩,
          ⟨some 21, none, .cv .u32 (.tmp 20)⟩,
          ⟨some 22, none, .bin .shl (.tmp 21) (.const (.int .u64 16))⟩,
          ⟨some 23, none, .bin .or (.tmp 14) (.tmp 22)⟩,
          ⟨some 24, none, .mv (.tmp 0)⟩,
          ⟨some 25, none, .mv (.tmp 3)⟩,
          ⟨some 26, none, .bin .mul (.const (.int .i64 4)) (.tmp 25)⟩,
          ⟨some 27, none, .bin .add (.tmp 26) (.const (.int .i64 2))⟩,
          ⟨some 28, none, .ia 1 (.tmp 24) (.tmp 27)⟩,
          ⟨some 29, none, .ld (.int .u8) (.tmp 28)⟩,
          ⟨some 30, none, .cv .u32 (.tmp 29)⟩,
          ⟨some 31, none, .bin .shl (.tmp 30) (.const (.int .u64 8))⟩,
          ⟨some 32, none, .bin .or (.tmp 23) (.tmp 31)⟩,
          ⟨some 33, none, .mv (.tmp 0)⟩,
          ⟨some 34, none, .mv (.tmp 3)⟩,
          ⟨some 35, none, .bin .mul (.const (.int .i64 4)) (.tmp 34)⟩,
          ⟨some 36, none, .bin .add (.tmp 35) (.const (.int .i64 3))⟩,
          ⟨some 37, none, .ia 1 (.tmp 33) (.tmp 36)⟩,
          ⟨some 38, none, .ld (.int .u8) (.tmp 37)⟩,
          ⟨some 39, none, .cv .u32 (.tmp 38)⟩,
          ⟨some 40, none, .bin .or (.tmp 32) (.tmp 39)⟩,
          ⟨some 41, none, .iaA 16 1 (.tmp 2) (.tmp 7)⟩,
          ⟨none, none, .st 1 (.tmp 41) (.tmp 40)⟩])))
      (.ops [⟨some 42, none, .bin .add (.tmp 4) (.const (.int .i64 1))⟩,
        ⟨some 4, none, .mv (.tmp 42)⟩])))))))
  (.seq (.ops [⟨some 43, none, .ld (.agg 16) (.tmp 2)⟩,
    ⟨none, none, .st 16 (.tmp 2) (.tmp 43)⟩])
  .ret)))⟩
theorem h41 : strF Tryd.prog [] Tryd.f41 = some c41 := by kernel_rfl

/-- math/bits.RotateLeft32 -/
def c42 : Fun := ⟨17, [.inl 4],
  (.seq (.ops [⟨some 4, none, .mv (.const (.int .u32 0))⟩])
  (.seq (.ops [⟨some 6, none, .mv (.tmp 1)⟩,
    ⟨some 7, none, .cv .u64 (.tmp 6)⟩,
    ⟨some 8, none, .bin .and (.tmp 7) (.const (.int .u64 31))⟩,
    ⟨some 5, none, .mv (.tmp 8)⟩])
  (.seq (.ops [⟨some 9, none, .mv (.tmp 0)⟩,
    ⟨some 10, none, .mv (.tmp 5)⟩,
    ⟨some 11, none, .bin .shl (.tmp 9) (.tmp 10)⟩,
    ⟨some 12, none, .mv (.tmp 0)⟩,
    ⟨some 13, none, .mv (.tmp 5)⟩,
    ⟨some 14, none, .bin .sub (.const (.int .u64 32)) (.tmp 13)⟩,
    ⟨some 15, none, .bin .shr (.tmp 12) (.tmp 14)⟩,
    ⟨some 16, none, .bin .or (.tmp 11) (.tmp 15)⟩,
    ⟨some 4, none, .mv (.tmp 16)⟩])
  .ret)))⟩
theorem h42 : strF Tryd.prog [] Tryd.f42 = some c42 := by kernel_rfl

/-- chirograph/digest.turns -/
def c43 : Fun := ⟨31, [.inl 10],
  (.seq (.ops [⟨some 10, none, .mv (.const (.int .u32 0))⟩])
  (.seq (.ops [⟨some 12, none, .mv (.tmp 0)⟩,
    ⟨some 13, none, .mv (.tmp 3)⟩,
    ⟨some 14, none, .un .neg (.tmp 13)⟩,
    ⟨some 15, none, .call 42 [(.tmp 12), (.tmp 14)]⟩,
    ⟨some 11, none, .mv (.tmp 15)⟩])
  (.join (.seq (.ops [⟨some 16, none, .mv (.tmp 4)⟩])
  (.cond (.tmp 16)
    (.ops [⟨some 17, none, .mv (.tmp 0)⟩,
      ⟨some 18, none, .mv (.tmp 3)⟩,
      ⟨some 19, none, .bin .shr (.tmp 17) (.tmp 18)⟩,
      ⟨some 11, none, .mv (.tmp 19)⟩])
    .skip))
  (.seq (.ops [⟨some 20, none, .mv (.tmp 0)⟩,
    ⟨some 21, none, .mv (.tmp 1)⟩,
    ⟨some 22, none, .un .neg (.tmp 21)⟩,
    ⟨some 23, none, .call 42 [(.tmp 20), (.tmp 22)]⟩,
    ⟨some 24, none, .mv (.tmp 0)⟩,
    ⟨some 25, none, .mv (.tmp 2)⟩,
    ⟨some 26, none, .un .neg (.tmp 25)⟩,
    ⟨some 27, none, .call 42 [(.tmp 24), (.tmp 26)]⟩,
    ⟨some 28, none, .bin .xor (.tmp 23) (.tmp 27)⟩,
    ⟨some 29, none, .mv (.tmp 11)⟩,
    ⟨some 30, none, .bin .xor (.tmp 28) (.tmp 29)⟩,
    ⟨some 10, none, .mv (.tmp 30)⟩])
  .ret))))⟩
theorem h43 : strF Tryd.prog [] Tryd.f43 = some c43 := by kernel_rfl

/-- chirograph/digest.wturns -/
def c44 : Fun := ⟨31, [.inl 10],
  (.seq (.ops [⟨some 10, none, .mv (.const (.int .u64 0))⟩])
  (.seq (.ops [⟨some 12, none, .mv (.tmp 0)⟩,
    ⟨some 13, none, .mv (.tmp 3)⟩,
    ⟨some 14, none, .un .neg (.tmp 13)⟩,
    ⟨some 15, none, .call 45 [(.tmp 12), (.tmp 14)]⟩,
    ⟨some 11, none, .mv (.tmp 15)⟩])
  (.join (.seq (.ops [⟨some 16, none, .mv (.tmp 4)⟩])
  (.cond (.tmp 16)
    (.ops [⟨some 17, none, .mv (.tmp 0)⟩,
      ⟨some 18, none, .mv (.tmp 3)⟩,
      ⟨some 19, none, .bin .shr (.tmp 17) (.tmp 18)⟩,
      ⟨some 11, none, .mv (.tmp 19)⟩])
    .skip))
  (.seq (.ops [⟨some 20, none, .mv (.tmp 0)⟩,
    ⟨some 21, none, .mv (.tmp 1)⟩,
    ⟨some 22, none, .un .neg (.tmp 21)⟩,
    ⟨some 23, none, .call 45 [(.tmp 20), (.tmp 22)]⟩,
    ⟨some 24, none, .mv (.tmp 0)⟩,
    ⟨some 25, none, .mv (.tmp 2)⟩,
    ⟨some 26, none, .un .neg (.tmp 25)⟩,
    ⟨some 27, none, .call 45 [(.tmp 24), (.tmp 26)]⟩,
    ⟨some 28, none, .bin .xor (.tmp 23) (.tmp 27)⟩,
    ⟨some 29, none, .mv (.tmp 11)⟩,
    ⟨some 30, none, .bin .xor (.tmp 28) (.tmp 29)⟩,
    ⟨some 10, none, .mv (.tmp 30)⟩])
  .ret))))⟩
theorem h44 : strF Tryd.prog [] Tryd.f44 = some c44 := by kernel_rfl

/-- math/bits.RotateLeft64 -/
def c45 : Fun := ⟨17, [.inl 4],
  (.seq (.ops [⟨some 4, none, .mv (.const (.int .u64 0))⟩])
  (.seq (.ops [⟨some 6, none, .mv (.tmp 1)⟩,
    ⟨some 7, none, .cv .u64 (.tmp 6)⟩,
    ⟨some 8, none, .bin .and (.tmp 7) (.const (.int .u64 63))⟩,
    ⟨some 5, none, .mv (.tmp 8)⟩])
  (.seq (.ops [⟨some 9, none, .mv (.tmp 0)⟩,
    ⟨some 10, none, .mv (.tmp 5)⟩,
    ⟨some 11, none, .bin .shl (.tmp 9) (.tmp 10)⟩,
    ⟨some 12, none, .mv (.tmp 0)⟩,
    ⟨some 13, none, .mv (.tmp 5)⟩,
    ⟨some 14, none, .bin .sub (.const (.int .u64 64)) (.tmp 13)⟩,
    ⟨some 15, none, .bin .shr (.tmp 12) (.tmp 14)⟩,
    ⟨some 16, none, .bin .or (.tmp 11) (.tmp 15)⟩,
    ⟨some 4, none, .mv (.tmp 16)⟩])
  .ret)))⟩
theorem h45 : strF Tryd.prog [] Tryd.f45 = some c45 := by kernel_rfl

end Go.Proofs.YtibccpfocbdmaaaDoor.Code
