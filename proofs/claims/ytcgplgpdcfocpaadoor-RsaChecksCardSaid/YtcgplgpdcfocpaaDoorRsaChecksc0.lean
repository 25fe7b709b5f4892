/- The functions as the engine has them: by program, out of the translation. -/
import Derived.Test.YtcgplgpdcfocpaaDoorRsaCheckse1
import Derived.Test.YtcgplgpdcfocpaaDoorProg
set_option maxRecDepth 100000
namespace Go.Proofs.YtcgplgpdcfocpaaDoor.Code
open Go Go.Proofs Go.Proofs.YtcgplgpdcfocpaaDoor.Eng
/-- chirograph/rsa.Check -/
def c9 : Fun := ⟨41, [.inl 2],
  (.seq (.ops [⟨some 1, none, .box 24 (.tmp 0)⟩,
    ⟨some 2, none, .mv (.const (.int .i64 0))⟩])
  (.seq (.drawT (.st 0 0 (.st 0 3 (.st 1 1 (.st 3 4 (.cov (.one 2 (.cov (.one 5 (.st 0 6 (.st 0 7 .nil))))))))))
    [⟨some 5, none, .fa 0 (.tmp 1)⟩,
      ⟨some 6, none, .ld .slice (.tmp 5)⟩,
      ⟨some 7, none, .call 25 [(.tmp 6)]⟩,
      ⟨some 8, none, .fa 1 (.tmp 1)⟩,
      ⟨some 9, none, .ld .slice (.tmp 8)⟩,
      ⟨some 10, none, .call 25 [(.tmp 9)]⟩,
      ⟨some 3, none, .mv (.tmp 7)⟩,
      ⟨some 4, none, .mv (.tmp 10)⟩])
  (.seq (.block 0
    (.join (.seq (.ops [⟨some 12, none, .fa 0 (.tmp 1)⟩,
      ⟨some 13, none, .ld .slice (.tmp 12)⟩,
      ⟨some 14, none, .len (.tmp 13)⟩,
      ⟨some 15, none, .bin .gtr (.tmp 14) (.const (.int .i64 256))⟩,
      ⟨some 16, none, .mv (.tmp 15)⟩,
      ⟨some 17, some (16, false), .fa 1 (.tmp 1)⟩,
      ⟨some 18, some (16, false), .ld .slice (.tmp 17)⟩,
      ⟨some 19, some (16, false), .len (.tmp 18)⟩,
      ⟨some 20, some (16, false), .bin .gtr (.tmp 19) (.const (.int .i64 256))⟩,
      ⟨some 21, none, .pick (.tmp 16) (.const (.bool true)) (.tmp 20)⟩,
      ⟨some 11, none, .mv (.tmp 21)⟩])
    (.cond (.tmp 11)
      .skip
      (.seq (.ops [⟨some 22, none, .mv (.tmp 3)⟩,
        ⟨some 23, none, .bin .lss (.tmp 22) (.const (.int .i64 512))⟩,
        ⟨some 11, none, .mv (.tmp 23)⟩])
      (.cond (.tmp 11)
        .skip
        (.seq (.ops [⟨some 24, none, .mv (.tmp 4)⟩,
          ⟨some 25, none, .bin .lss (.tmp 24) (.const (.int .i64 2))⟩,
          ⟨some 26, none, .mv (.tmp 25)⟩,
          ⟨some 27, some (26, false), .mv (.tmp 4)⟩,
          ⟨some 28, some (26, false), .bin .gtr (.tmp 27) (.const (.int .i64 64))⟩,
          ⟨some 29, none, .pick (.tmp 26) (.const (.bool true)) (.tmp 28)⟩,
          ⟨some 11, none, .mv (.tmp 29)⟩])
        (.cond (.tmp 11)
          .skip
          (.draw 12 [⟨some 30, none, .fa 0 (.tmp 1)⟩,
            ⟨some 31, none, .ld .slice (.tmp 30)⟩,
            ⟨some 32, none, .ia 1 (.tmp 31) (.const (.int .i64 0))⟩,
            ⟨some 33, none, .ld (.int .u32) (.tmp 32)⟩,
            ⟨some 34, none, .fa 1 (.tmp 1)⟩,
            ⟨some 35, none, .ld .slice (.tmp 34)⟩,
            ⟨some 36, none, .ia 1 (.tmp 35) (.const (.int .i64 0))⟩,
            ⟨some 37, none, .ld (.int .u32) (.tmp 36)⟩,
            ⟨some 38, none, .bin .and (.tmp 33) (.tmp 37)⟩,
            ⟨some 39, none, .bin .and (.tmp 38) (.const (.int .u32 1))⟩,
            ⟨some 40, none, .bin .eql (.tmp 39) (.const (.int .u32 0))⟩,
            ⟨some 11, none, .mv (.tmp 40)⟩])))))))
    (.cond (.tmp 11)
      (.seq (.ops [⟨some 2, none, .mv (.const (.int .i64 80))⟩])
      .ret)
      .skip)))
  (.seq (.ops [⟨some 2, none, .mv (.const (.int .i64 0))⟩])
  .ret))))⟩
theorem h9 : strF Tryd.prog [(1, .inr (.st 0 0 (.st 0 3 (.st 1 1 (.st 3 4 (.cov (.one 2 (.cov (.one 5 (.st 0 6 (.st 0 7 .nil)))))))))))] Tryd.f9 = some c9 := by kernel_rfl
/-- chirograph/chirographref08.Check -/
def c10 : Fun := ⟨47, [.inl 2],
  (.seq (.ops [⟨some 1, none, .box 24 (.tmp 0)⟩,
    ⟨some 2, none, .mv (.const (.int .i64 0))⟩])
  (.seq (.seq (.ops [⟨some 3, none, .fa 0 (.tmp 1)⟩,
    ⟨some 4, none, .ld .slice (.tmp 3)⟩,
    ⟨some 5, none, .len (.tmp 4)⟩,
    ⟨some 6, none, .bin .gtr (.tmp 5) (.const (.int .i64 256))⟩,
    ⟨some 7, none, .mv (.tmp 6)⟩,
    ⟨some 8, some (7, false), .fa 1 (.tmp 1)⟩,
    ⟨some 9, some (7, false), .ld .slice (.tmp 8)⟩,
    ⟨some 10, some (7, false), .len (.tmp 9)⟩,
    ⟨some 11, some (7, false), .bin .gtr (.tmp 10) (.const (.int .i64 256))⟩,
    ⟨some 12, none, .pick (.tmp 7) (.const (.bool true)) (.tmp 11)⟩,
    ⟨some 13, none, .mv (.tmp 12)⟩,
    ⟨some 14, some (13, false), .fa 0 (.tmp 1)⟩,
    ⟨some 15, some (13, false), .ld .slice (.tmp 14)⟩,
    ⟨some 16, some (13, false), .call 26 [(.tmp 15)]⟩,
    ⟨some 17, some (13, false), .bin .lss (.tmp 16) (.const (.int .i64 512))⟩,
    ⟨some 18, none, .pick (.tmp 13) (.const (.bool true)) (.tmp 17)⟩,
    ⟨some 19, none, .mv (.tmp 18)⟩,
    ⟨some 20, some (19, false), .fa 1 (.tmp 1)⟩,
    ⟨some 21, some (19, false), .ld .slice (.tmp 20)⟩,
    ⟨some 22, some (19, false), .call 26 [(.tmp 21)]⟩,
    ⟨some 23, some (19, false), .bin .lss (.tmp 22) (.const (.int .i64 2))⟩,
    ⟨some 24, none, .pick (.tmp 19) (.const (.bool true)) (.tmp 23)⟩,
    ⟨some 25, none, .mv (.tmp 24)⟩,
    ⟨some 26, some (25, false), .fa 1 (.tmp 1)⟩,
    ⟨some 27, some (25, false), .ld .slice (.tmp 26)⟩,
    ⟨some 28, some (25, false), .call 26 [(.tmp 27)]⟩,
    ⟨some 29, some (25, false), .bin .gtr (.tmp 28) (.const (.int .i64 64))⟩,
    ⟨some 30, none, .pick (.tmp 25) (.const (.bool true)) (.tmp 29)⟩,
    ⟨some 31, none, .mv (.tmp 30)⟩,
    ⟨some 32, some (31, false), .fa 0 (.tmp 1)⟩,
    ⟨some 33, some (31, false), .ld .slice (.tmp 32)⟩,
    ⟨some 34, some (31, false), .ia 1 (.tmp 33) (.const (.int .i64 0))⟩,
    ⟨some 35, some (31, false), .ld (.int .u32) (.tmp 34)⟩,
    ⟨some 36, some (31, false), .bin .rem (.tmp 35) (.const (.int .u32 2))⟩,
    ⟨some 37, some (31, false), .bin .eql (.tmp 36) (.const (.int .u32 0))⟩,
    ⟨some 38, none, .pick (.tmp 31) (.const (.bool true)) (.tmp 37)⟩,
    ⟨some 39, none, .mv (.tmp 38)⟩,
    ⟨some 40, some (39, false), .fa 1 (.tmp 1)⟩,
    ⟨some 41, some (39, false), .ld .slice (.tmp 40)⟩,
    ⟨some 42, some (39, false), .ia 1 (.tmp 41) (.const (.int .i64 0))⟩,
    ⟨some 43, some (39, false), .ld (.int .u32) (.tmp 42)⟩,
    ⟨some 44, some (39, false), .bin .rem (.tmp 43) (.const (.int .u32 2))⟩,
    ⟨some 45, some (39, false), .bin .eql (.tmp 44) (.const (.int .u32 0))⟩,
    ⟨some 46, none, .pick (.tmp 39) (.const (.bool true)) (.tmp 45)⟩])
  (.cond (.tmp 46)
    (.seq (.ops [⟨some 2, none, .mv (.const (.int .i64 80))⟩])
    .ret)
    .skip))
  (.seq (.ops [⟨some 2, none, .mv (.const (.int .i64 0))⟩])
  .ret)))⟩
theorem h10 : strF Tryd.prog [] Tryd.f10 = some c10 := by kernel_rfl
/-- chirograph/rsa.Size -/
def c11 : Fun := ⟨11, [.inl 2],
  (.seq (.ops [⟨some 1, none, .box 24 (.tmp 0)⟩,
    ⟨some 2, none, .mv (.const (.int .i64 0))⟩])
  (.seq (.seq (.ops [⟨some 3, none, .ld (.agg 2) (.tmp 1)⟩,
    ⟨some 4, none, .call 9 [(.tmp 3)]⟩,
    ⟨some 5, none, .bin .neq (.tmp 4) (.const (.int .i64 0))⟩])
  (.cond (.tmp 5)
    (.seq (.ops [⟨some 2, none, .mv (.const (.int .i64 0))⟩])
    .ret)
    .skip))
  (.seq (.ops [⟨some 6, none, .fa 0 (.tmp 1)⟩,
    ⟨some 7, none, .ld .slice (.tmp 6)⟩,
    ⟨some 8, none, .call 25 [(.tmp 7)]⟩,
    ⟨some 9, none, .bin .add (.tmp 8) (.const (.int .i64 7))⟩,
    ⟨some 10, none, .bin .quo (.tmp 9) (.const (.int .i64 8))⟩,
    ⟨some 2, none, .mv (.tmp 10)⟩])
  .ret)))⟩
theorem h11 : strF Tryd.prog [] Tryd.f11 = some c11 := by kernel_rfl
/-- chirograph/chirographref08.Size -/
def c12 : Fun := ⟨11, [.inl 2],
  (.seq (.ops [⟨some 1, none, .box 24 (.tmp 0)⟩,
    ⟨some 2, none, .mv (.const (.int .i64 0))⟩])
  (.seq (.seq (.ops [⟨some 3, none, .ld (.agg 2) (.tmp 1)⟩,
    ⟨some 4, none, .call 10 [(.tmp 3)]⟩,
    ⟨some 5, none, .bin .neq (.tmp 4) (.const (.int .i64 0))⟩])
  (.cond (.tmp 5)
    (.seq (.ops [⟨some 2, none, .mv (.const (.int .i64 0))⟩])
    .ret)
    .skip))
  (.seq (.ops [⟨some 6, none, .fa 0 (.tmp 1)⟩,
    ⟨some 7, none, .ld .slice (.tmp 6)⟩,
    ⟨some 8, none, .call 26 [(.tmp 7)]⟩,
    ⟨some 9, none, .bin .add (.tmp 8) (.const (.int .i64 7))⟩,
    ⟨some 10, none, .bin .quo (.tmp 9) (.const (.int .i64 8))⟩,
    ⟨some 2, none, .mv (.tmp 10)⟩])
  .ret)))⟩
theorem h12 : strF Tryd.prog [] Tryd.f12 = some c12 := by kernel_rfl
/-- chirograph/rsa.Pad -/
def c18 : Fun := ⟨40, [.inl 6, .inl 7],
  (.seq (.ops [⟨some 6, none, .mv (.const (.slice none 0 0))⟩,
    ⟨some 7, none, .mv (.const (.int .i64 0))⟩])
  (.seq (.seq (.ops [⟨some 10, none, .mv (.tmp 0)⟩,
    ⟨some 11, none, .mv (.tmp 1)⟩,
    ⟨some 12, none, .call 31 [(.tmp 10), (.tmp 11)]⟩,
    ⟨some 13, none, .un .not (.tmp 12)⟩,
    ⟨some 14, none, .mv (.tmp 13)⟩,
    ⟨some 15, some (14, false), .mv (.tmp 2)⟩,
    ⟨some 16, some (14, false), .bin .gtr (.tmp 15) (.const (.int .i64 2048))⟩,
    ⟨some 17, none, .pick (.tmp 14) (.const (.bool true)) (.tmp 16)⟩])
  (.cond (.tmp 17)
    (.seq (.ops [⟨some 6, none, .mv (.const (.slice none 0 0))⟩,
      ⟨some 7, none, .mv (.const (.int .i64 1))⟩])
    .ret)
    .skip))
  (.seq (.ops [⟨some 18, none, .mv (.tmp 0)⟩,
    ⟨some 19, none, .mv (.tmp 1)⟩,
    ⟨some 20, none, .call 32 [(.tmp 18), (.tmp 19)]⟩,
    ⟨some 8, none, .mv (.tmp 20)⟩])
  (.seq (.seq (.ops [⟨some 21, none, .mv (.tmp 2)⟩,
    ⟨some 22, none, .mv (.tmp 8)⟩,
    ⟨some 23, none, .len (.tmp 22)⟩,
    ⟨some 24, none, .bin .add (.tmp 23) (.const (.int .i64 11))⟩,
    ⟨some 25, none, .bin .lss (.tmp 21) (.tmp 24)⟩])
  (.cond (.tmp 25)
    (.seq (.ops [⟨some 6, none, .mv (.const (.slice none 0 0))⟩,
      ⟨some 7, none, .mv (.const (.int .i64 2))⟩])
    .ret)
    .skip))
  (.seq (.ops [⟨some 26, none, .bsl 5 1 2 #[(.int .u8 0)] [(0, (.const (.int .u8 0))), (1, (.const (.int .u8 1)))]⟩,
    ⟨some 27, none, .bsl 5 1 1 #[(.int .u8 0)] [(0, (.const (.int .u8 255)))]⟩,
    ⟨some 28, none, .mv (.tmp 2)⟩,
    ⟨some 29, none, .mv (.tmp 8)⟩,
    ⟨some 30, none, .len (.tmp 29)⟩,
    ⟨some 31, none, .bin .sub (.tmp 28) (.tmp 30)⟩,
    ⟨some 32, none, .bin .sub (.tmp 31) (.const (.int .i64 3))⟩,
    ⟨some 33, none, .call 33 [(.tmp 27), (.tmp 32)]⟩,
    ⟨some 34, none, .app 5 1 1 #[(.int .u8 0)] (.tmp 26) (.tmp 33)⟩,
    ⟨some 9, none, .mv (.tmp 34)⟩])
  (.seq (.ops [⟨some 35, none, .mv (.tmp 9)⟩,
    ⟨some 36, none, .bsl 5 1 1 #[(.int .u8 0)] [(0, (.const (.int .u8 0)))]⟩,
    ⟨some 37, none, .app 5 1 1 #[(.int .u8 0)] (.tmp 35) (.tmp 36)⟩,
    ⟨some 38, none, .mv (.tmp 8)⟩,
    ⟨some 39, none, .app 5 1 1 #[(.int .u8 0)] (.tmp 37) (.tmp 38)⟩,
    ⟨some 6, none, .mv (.tmp 39)⟩,
    ⟨some 7, none, .mv (.const (.int .i64 0))⟩])
  .ret))))))⟩
theorem h18 : strF Tryd.prog [] Tryd.f18 = some c18 := by kernel_rfl
/-- chirograph/chirographref08.Known -/
def c24 : Fun := ⟨21, [.inr ((.agg 2), 2), .inl 3],
  (.seq (.ops [⟨some 2, none, .alloc 24 (.agg #[(.slice none 0 0), (.slice none 0 0)])⟩,
    ⟨some 3, none, .mv (.const (.slice none 0 0))⟩])
  (.seq (.seq (.ops [⟨some 4, none, .mv (.tmp 0)⟩])
  (.block 0
    (.seq (.ops [⟨some 6, none, .bin .eql (.tmp 4) (.const (.int .i64 0))⟩,
      ⟨some 5, none, .mv (.tmp 6)⟩])
    (.cond (.tmp 5)
      (.seq (.ops [⟨some 7, none, .bsl 46 1 16 #[(.int .u32 0)] [(0, (.const (.int .u32 1295419795))), (1, (.const (.int .u32 3173228247))), (2, (.const (.int .u32 2137395180))), (3, (.const (.int .u32 1548933856))), (4, (.const (.int .u32 3106420408))), (5, (.const (.int .u32 3948765562))), (6, (.const (.int .u32 1049120400))), (7, (.const (.int .u32 779370009))), (8, (.const (.int .u32 4082781268))), (9, (.const (.int .u32 1057109357))), (10, (.const (.int .u32 1184194943))), (11, (.const (.int .u32 1393408190))), (12, (.const (.int .u32 1811714008))), (13, (.const (.int .u32 4142931574))), (14, (.const (.int .u32 3115507167))), (15, (.const (.int .u32 2773311948)))]⟩,
        ⟨some 8, none, .bsl 46 1 1 #[(.int .u32 0)] [(0, (.const (.int .u32 3)))]⟩,
        ⟨some 9, none, .bld #[(.slice none 0 0), (.slice none 0 0)] [(0, 1), (1, 1)] [(0, (.tmp 7)), (1, (.tmp 8))]⟩,
        ⟨some 10, none, .bsl 46 1 16 #[(.int .u32 0)] [(0, (.const (.int .u32 4047561943))), (1, (.const (.int .u32 3660979146))), (2, (.const (.int .u32 4003215933))), (3, (.const (.int .u32 1116455983))), (4, (.const (.int .u32 1700758801))), (5, (.const (.int .u32 463339884))), (6, (.const (.int .u32 276911730))), (7, (.const (.int .u32 3273242993))), (8, (.const (.int .u32 4259602957))), (9, (.const (.int .u32 2323668540))), (10, (.const (.int .u32 3060677354))), (11, (.const (.int .u32 1663890463))), (12, (.const (.int .u32 3165263865))), (13, (.const (.int .u32 2837972243))), (14, (.const (.int .u32 519251194))), (15, (.const (.int .u32 462218658)))]⟩,
        ⟨none, none, .st 2 (.tmp 2) (.tmp 9)⟩,
        ⟨some 3, none, .mv (.tmp 10)⟩])
      .ret)
      (.seq (.ops [⟨some 12, none, .bin .eql (.tmp 4) (.const (.int .i64 1))⟩,
        ⟨some 11, none, .mv (.tmp 12)⟩])
      (.cond (.tmp 11)
        (.seq (.ops [⟨some 13, none, .bsl 46 1 24 #[(.int .u32 0)] [(0, (.const (.int .u32 447526239))), (1, (.const (.int .u32 1829156313))), (2, (.const (.int .u32 1879515421))), (3, (.const (.int .u32 4107444635))), (4, (.const (.int .u32 3585720734))), (5, (.const (.int .u32 1991253479))), (6, (.const (.int .u32 2516768444))), (7, (.const (.int .u32 3373017810))), (8, (.const (.int .u32 1205978055))), (9, (.const (.int .u32 1538251098))), (10, (.const (.int .u32 196053331))), (11, (.const (.int .u32 1922245038))), (12, (.const (.int .u32 2255523067))), (13, (.const (.int .u32 1735923309))), (14, (.const (.int .u32 2944431911))), (15, (.const (.int .u32 868394361))), (16, (.const (.int .u32 4017789066))), (17, (.const (.int .u32 1470251928))), (18, (.const (.int .u32 1835714117))), (19, (.const (.int .u32 3624612288))), (20, (.const (.int .u32 4242376361))), (21, (.const (.int .u32 1111742522))), (22, (.const (.int .u32 1457454055))), (23, (.const (.int .u32 3904486991)))]⟩,
          ⟨some 14, none, .bsl 46 1 1 #[(.int .u32 0)] [(0, (.const (.int .u32 65537)))]⟩,
          ⟨some 15, none, .bld #[(.slice none 0 0), (.slice none 0 0)] [(0, 1), (1, 1)] [(0, (.tmp 13)), (1, (.tmp 14))]⟩,
          ⟨some 16, none, .bsl 46 1 24 #[(.int .u32 0)] [(0, (.const (.int .u32 3621519977))), (1, (.const (.int .u32 3268799092))), (2, (.const (.int .u32 3739516396))), (3, (.const (.int .u32 206456287))), (4, (.const (.int .u32 3610635974))), (5, (.const (.int .u32 623975115))), (6, (.const (.int .u32 3290812447))), (7, (.const (.int .u32 1284005469))), (8, (.const (.int .u32 2839468200))), (9, (.const (.int .u32 1102384690))), (10, (.const (.int .u32 247832016))), (11, (.const (.int .u32 3318194052))), (12, (.const (.int .u32 792414134))), (13, (.const (.int .u32 1014899858))), (14, (.const (.int .u32 3018861402))), (15, (.const (.int .u32 3270484745))), (16, (.const (.int .u32 3809549036))), (17, (.const (.int .u32 2137766059))), (18, (.const (.int .u32 3239253027))), (19, (.const (.int .u32 2310304235))), (20, (.const (.int .u32 3354661807))), (21, (.const (.int .u32 2841138446))), (22, (.const (.int .u32 2129838785))), (23, (.const (.int .u32 419123029)))]⟩,
          ⟨none, none, .st 2 (.tmp 2) (.tmp 15)⟩,
          ⟨some 3, none, .mv (.tmp 16)⟩])
        .ret)
        .skip))))))
  (.seq (.ops [⟨some 17, none, .bsl 46 1 32 #[(.int .u32 0)] [(0, (.const (.int .u32 2647757785))), (1, (.const (.int .u32 1389125602))), (2, (.const (.int .u32 1571717152))), (3, (.const (.int .u32 2974836829))), (4, (.const (.int .u32 3776471463))), (5, (.const (.int .u32 3789918380))), (6, (.const (.int .u32 265465329))), (7, (.const (.int .u32 2705477333))), (8, (.const (.int .u32 2528306116))), (9, (.const (.int .u32 1305786319))), (10, (.const (.int .u32 3012271374))), (11, (.const (.int .u32 1555166574))), (12, (.const (.int .u32 3737811301))), (13, (.const (.int .u32 2107156747))), (14, (.const (.int .u32 423797723))), (15, (.const (.int .u32 3496193931))), (16, (.const (.int .u32 2229497578))), (17, (.const (.int .u32 3545628057))), (18, (.const (.int .u32 795677410))), (19, (.const (.int .u32 3294071916))), (20, (.const (.int .u32 3692226254))), (21, (.const (.int .u32 2201277676))), (22, (.const (.int .u32 1168892286))), (23, (.const (.int .u32 3890423924))), (24, (.const (.int .u32 3768719188))), (25, (.const (.int .u32 1348662635))), (26, (.const (.int .u32 838196833))), (27, (.const (.int .u32 466793529))), (28, (.const (.int .u32 1006143140))), (29, (.const (.int .u32 3002503770))), (30, (.const (.int .u32 4121073702))), (31, (.const (.int .u32 3778180073)))]⟩,
    ⟨some 18, none, .bsl 46 1 1 #[(.int .u32 0)] [(0, (.const (.int .u32 65537)))]⟩,
    ⟨some 19, none, .bld #[(.slice none 0 0), (.slice none 0 0)] [(0, 1), (1, 1)] [(0, (.tmp 17)), (1, (.tmp 18))]⟩,
    ⟨some 20, none, .bsl 46 1 32 #[(.int .u32 0)] [(0, (.const (.int .u32 221114889))), (1, (.const (.int .u32 4052409353))), (2, (.const (.int .u32 3618135462))), (3, (.const (.int .u32 3638896212))), (4, (.const (.int .u32 41876785))), (5, (.const (.int .u32 2981551223))), (6, (.const (.int .u32 2886658486))), (7, (.const (.int .u32 1775630866))), (8, (.const (.int .u32 3447871993))), (9, (.const (.int .u32 1687748997))), (10, (.const (.int .u32 3209162719))), (11, (.const (.int .u32 3268866316))), (12, (.const (.int .u32 2051154063))), (13, (.const (.int .u32 2544485275))), (14, (.const (.int .u32 3760155216))), (15, (.const (.int .u32 3752499951))), (16, (.const (.int .u32 2496820468))), (17, (.const (.int .u32 83771141))), (18, (.const (.int .u32 3160279440))), (19, (.const (.int .u32 1312331270))), (20, (.const (.int .u32 3585048767))), (21, (.const (.int .u32 3787517679))), (22, (.const (.int .u32 1319449402))), (23, (.const (.int .u32 1117739304))), (24, (.const (.int .u32 4056262221))), (25, (.const (.int .u32 2567164873))), (26, (.const (.int .u32 3762953771))), (27, (.const (.int .u32 2291027615))), (28, (.const (.int .u32 2230826018))), (29, (.const (.int .u32 4177935750))), (30, (.const (.int .u32 4171126346))), (31, (.const (.int .u32 831105070)))]⟩,
    ⟨none, none, .st 2 (.tmp 2) (.tmp 19)⟩,
    ⟨some 3, none, .mv (.tmp 20)⟩])
  .ret)))⟩
theorem h24 : strF Tryd.prog [] Tryd.f24 = some c24 := by kernel_rfl
/-- chirograph/nat.Bits -/
def c25 : Fun := ⟨20, [.inl 2],
  (.seq (.ops [⟨some 2, none, .mv (.const (.int .i64 0))⟩])
  (.seq (.ops [⟨some 3, none, .mv (.tmp 0)⟩,
    ⟨some 4, none, .call 47 [(.tmp 3)]⟩,
    ⟨some 0, none, .mv (.tmp 4)⟩])
  (.seq (.seq (.ops [⟨some 5, none, .mv (.tmp 0)⟩,
    ⟨some 6, none, .len (.tmp 5)⟩,
    ⟨some 7, none, .bin .eql (.tmp 6) (.const (.int .i64 0))⟩])
  (.cond (.tmp 7)
    (.seq (.ops [⟨some 2, none, .mv (.const (.int .i64 0))⟩])
    .ret)
    .skip))
  (.seq (.ops [⟨some 8, none, .mv (.tmp 0)⟩,
    ⟨some 9, none, .len (.tmp 8)⟩,
    ⟨some 10, none, .bin .sub (.tmp 9) (.const (.int .i64 1))⟩,
    ⟨some 11, none, .bin .mul (.const (.int .i64 32)) (.tmp 10)⟩,
    ⟨some 12, none, .mv (.tmp 0)⟩,
    ⟨some 13, none, .mv (.tmp 0)⟩,
    ⟨some 14, none, .len (.tmp 13)⟩,
    ⟨some 15, none, .bin .sub (.tmp 14) (.const (.int .i64 1))⟩,
    ⟨some 16, none, .ia 1 (.tmp 12) (.tmp 15)⟩,
    ⟨some 17, none, .ld (.int .u32) (.tmp 16)⟩,
    ⟨some 18, none, .call 48 [(.tmp 17)]⟩,
    ⟨some 19, none, .bin .add (.tmp 11) (.tmp 18)⟩,
    ⟨some 2, none, .mv (.tmp 19)⟩])
  .ret))))⟩
theorem h25 : strF Tryd.prog [] Tryd.f25 = some c25 := by kernel_rfl
/-- chirograph/chirographref01.Bits -/
def c26 : Fun := ⟨29, [.inl 2],
  (.seq (.ops [⟨some 2, none, .mv (.const (.int .i64 0))⟩])
  (.seq (.ops [⟨some 5, none, .mv (.tmp 0)⟩,
    ⟨some 6, none, .call 49 [(.tmp 5)]⟩,
    ⟨some 3, none, .mv (.tmp 6)⟩])
  (.seq (.ops [⟨some 7, none, .mv (.tmp 3)⟩,
    ⟨some 8, none, .len (.tmp 7)⟩,
    ⟨some 9, none, .bin .mul (.const (.int .i64 16)) (.tmp 8)⟩,
    ⟨some 4, none, .mv (.tmp 9)⟩])
  (.seq (.block 0
    (.loop
      (.seq (.seq (.ops [⟨some 10, none, .mv (.tmp 4)⟩,
        ⟨some 11, none, .bin .gtr (.tmp 10) (.const (.int .i64 0))⟩,
        ⟨some 12, none, .mv (.tmp 11)⟩,
        ⟨some 13, some (12, true), .mv (.tmp 3)⟩,
        ⟨some 14, some (12, true), .mv (.tmp 4)⟩,
        ⟨some 15, some (12, true), .bin .sub (.tmp 14) (.const (.int .i64 1))⟩,
        ⟨some 16, some (12, true), .bin .quo (.tmp 15) (.const (.int .i64 16))⟩,
        ⟨some 17, some (12, true), .ia 1 (.tmp 13) (.tmp 16)⟩,
        ⟨some 18, some (12, true), .ld (.int .u64) (.tmp 17)⟩,
        ⟨some 19, some (12, true), .mv (.tmp 4)⟩,
        ⟨some 20, some (12, true), .bin .sub (.tmp 19) (.const (.int .i64 1))⟩,
        ⟨some 21, some (12, true), .bin .rem (.tmp 20) (.const (.int .i64 16))⟩,
        ⟨some 22, some (12, true), .bin .shr (.tmp 18) (.tmp 21)⟩,
        ⟨some 23, some (12, true), .bin .and (.tmp 22) (.const (.int .u64 1))⟩,
        ⟨some 24, some (12, true), .bin .eql (.tmp 23) (.const (.int .u64 0))⟩,
        ⟨some 25, none, .pick (.tmp 12) (.tmp 24) (.const (.bool false))⟩])
      (.cond (.tmp 25)
        .skip
        (.exit 0)))
      (.block 1
        (.ops [⟨some 26, none, .mv (.tmp 4)⟩,
          ⟨some 27, none, .bin .sub (.tmp 26) (.const (.int .i64 1))⟩,
          ⟨some 4, none, .mv (.tmp 27)⟩])))))
  (.seq (.ops [⟨some 28, none, .mv (.tmp 4)⟩,
    ⟨some 2, none, .mv (.tmp 28)⟩])
  .ret)))))⟩
theorem h26 : strF Tryd.prog [] Tryd.f26 = some c26 := by kernel_rfl
/-- chirograph/digest.Size -/
def c27 : Fun := ⟨12, [.inl 2],
  (.seq (.ops [⟨some 2, none, .mv (.const (.int .i64 0))⟩])
  (.seq (.seq (.ops [⟨some 3, none, .mv (.tmp 0)⟩])
  (.block 0
    (.seq (.ops [⟨some 5, none, .bin .eql (.tmp 3) (.const (.int .i64 1))⟩,
      ⟨some 4, none, .mv (.tmp 5)⟩])
    (.cond (.tmp 4)
      (.seq (.ops [⟨some 2, none, .mv (.const (.int .i64 20))⟩])
      .ret)
      (.seq (.ops [⟨some 7, none, .bin .eql (.tmp 3) (.const (.int .i64 2))⟩,
        ⟨some 6, none, .mv (.tmp 7)⟩])
      (.cond (.tmp 6)
        (.seq (.ops [⟨some 2, none, .mv (.const (.int .i64 32))⟩])
        .ret)
        (.seq (.ops [⟨some 9, none, .bin .eql (.tmp 3) (.const (.int .i64 3))⟩,
          ⟨some 8, none, .mv (.tmp 9)⟩])
        (.cond (.tmp 8)
          (.seq (.ops [⟨some 2, none, .mv (.const (.int .i64 48))⟩])
          .ret)
          (.seq (.ops [⟨some 11, none, .bin .eql (.tmp 3) (.const (.int .i64 4))⟩,
            ⟨some 10, none, .mv (.tmp 11)⟩])
          (.cond (.tmp 10)
            (.seq (.ops [⟨some 2, none, .mv (.const (.int .i64 64))⟩])
            .ret)
            .skip))))))))))
  (.seq (.ops [⟨some 2, none, .mv (.const (.int .i64 0))⟩])
  .ret)))⟩
theorem h27 : strF Tryd.prog [] Tryd.f27 = some c27 := by kernel_rfl
/-- chirograph/rsa.known -/
def c31 : Fun := ⟨15, [.inl 4],
  (.seq (.ops [⟨some 4, none, .mv (.const (.bool false))⟩])
  (.seq (.ops [⟨some 5, none, .mv (.tmp 0)⟩,
    ⟨some 6, none, .call 27 [(.tmp 5)]⟩,
    ⟨some 7, none, .bin .gtr (.tmp 6) (.const (.int .i64 0))⟩,
    ⟨some 8, none, .mv (.tmp 7)⟩,
    ⟨some 9, some (8, true), .mv (.tmp 1)⟩,
    ⟨some 10, some (8, true), .len (.tmp 9)⟩,
    ⟨some 11, some (8, true), .mv (.tmp 0)⟩,
    ⟨some 12, some (8, true), .call 27 [(.tmp 11)]⟩,
    ⟨some 13, some (8, true), .bin .eql (.tmp 10) (.tmp 12)⟩,
    ⟨some 14, none, .pick (.tmp 8) (.tmp 13) (.const (.bool false))⟩,
    ⟨some 4, none, .mv (.tmp 14)⟩])
  .ret))⟩
theorem h31 : strF Tryd.prog [] Tryd.f31 = some c31 := by kernel_rfl
/-- chirograph/rsa.info -/
def c32 : Fun := ⟨54, [.inl 4],
  (.seq (.ops [⟨some 4, none, .mv (.const (.slice none 0 0))⟩])
  (.seq (.ops [⟨some 18, none, .mv (.tmp 0)⟩,
    ⟨some 19, none, .call 57 [(.tmp 18)]⟩,
    ⟨some 20, none, .call 56 [(.tmp 19)]⟩,
    ⟨some 17, none, .mv (.tmp 20)⟩,
    ⟨some 21, none, .ext (.tmp 17) 0⟩,
    ⟨some 22, none, .ext (.tmp 17) 1⟩,
    ⟨some 5, none, .mv (.tmp 21)⟩,
    ⟨some 6, none, .mv (.tmp 22)⟩])
  (.seq (.ops [⟨some 24, none, .mv (.tmp 5)⟩,
    ⟨some 25, none, .bsl 31 1 1 #[(.slice none 0 0)] [(0, (.tmp 24))]⟩,
    ⟨some 26, none, .call 58 [(.const (.int .i64 0)), (.const (.int .i64 6)), (.const (.bool false)), (.tmp 25)]⟩,
    ⟨some 23, none, .mv (.tmp 26)⟩,
    ⟨some 27, none, .ext (.tmp 23) 0⟩,
    ⟨some 28, none, .ext (.tmp 23) 1⟩,
    ⟨some 7, none, .mv (.tmp 27)⟩,
    ⟨some 8, none, .mv (.tmp 28)⟩])
  (.seq (.ops [⟨some 30, none, .call 58 [(.const (.int .i64 0)), (.const (.int .i64 5)), (.const (.bool false)), (.const (.slice none 0 0))]⟩,
    ⟨some 29, none, .mv (.tmp 30)⟩,
    ⟨some 31, none, .ext (.tmp 29) 0⟩,
    ⟨some 32, none, .ext (.tmp 29) 1⟩,
    ⟨some 9, none, .mv (.tmp 31)⟩,
    ⟨some 10, none, .mv (.tmp 32)⟩])
  (.seq (.ops [⟨some 34, none, .mv (.tmp 7)⟩,
    ⟨some 35, none, .mv (.tmp 9)⟩,
    ⟨some 36, none, .bsl 31 1 2 #[(.slice none 0 0)] [(0, (.tmp 34)), (1, (.tmp 35))]⟩,
    ⟨some 37, none, .call 58 [(.const (.int .i64 0)), (.const (.int .i64 16)), (.const (.bool true)), (.tmp 36)]⟩,
    ⟨some 33, none, .mv (.tmp 37)⟩,
    ⟨some 38, none, .ext (.tmp 33) 0⟩,
    ⟨some 39, none, .ext (.tmp 33) 1⟩,
    ⟨some 11, none, .mv (.tmp 38)⟩,
    ⟨some 12, none, .mv (.tmp 39)⟩])
  (.seq (.ops [⟨some 41, none, .mv (.tmp 1)⟩,
    ⟨some 42, none, .bsl 31 1 1 #[(.slice none 0 0)] [(0, (.tmp 41))]⟩,
    ⟨some 43, none, .call 58 [(.const (.int .i64 0)), (.const (.int .i64 4)), (.const (.bool false)), (.tmp 42)]⟩,
    ⟨some 40, none, .mv (.tmp 43)⟩,
    ⟨some 44, none, .ext (.tmp 40) 0⟩,
    ⟨some 45, none, .ext (.tmp 40) 1⟩,
    ⟨some 13, none, .mv (.tmp 44)⟩,
    ⟨some 14, none, .mv (.tmp 45)⟩])
  (.seq (.ops [⟨some 47, none, .mv (.tmp 11)⟩,
    ⟨some 48, none, .mv (.tmp 13)⟩,
    ⟨some 49, none, .bsl 31 1 2 #[(.slice none 0 0)] [(0, (.tmp 47)), (1, (.tmp 48))]⟩,
    ⟨some 50, none, .call 58 [(.const (.int .i64 0)), (.const (.int .i64 16)), (.const (.bool true)), (.tmp 49)]⟩,
    ⟨some 46, none, .mv (.tmp 50)⟩,
    ⟨some 51, none, .ext (.tmp 46) 0⟩,
    ⟨some 52, none, .ext (.tmp 46) 1⟩,
    ⟨some 15, none, .mv (.tmp 51)⟩,
    ⟨some 16, none, .mv (.tmp 52)⟩])
  (.seq (.ops [⟨some 53, none, .mv (.tmp 15)⟩,
    ⟨some 4, none, .mv (.tmp 53)⟩])
  .ret))))))))⟩
theorem h32 : strF Tryd.prog [] Tryd.f32 = some c32 := by kernel_rfl
/-- bytes.Repeat -/
def c33 : Fun := ⟨77, [.inl 4],
  (.seq (.ops [⟨some 4, none, .mv (.const (.slice none 0 0))⟩])
  (.seq (.seq (.ops [⟨some 12, none, .mv (.tmp 1)⟩,
    ⟨some 13, none, .bin .eql (.tmp 12) (.const (.int .i64 0))⟩])
  (.cond (.tmp 13)
    (.seq (.ops [⟨some 14, none, .bsl0 5⟩,
      ⟨some 4, none, .mv (.tmp 14)⟩])
    .ret)
    .skip))
  (.join (.seq (.ops [⟨some 15, none, .mv (.tmp 1)⟩,
    ⟨some 16, none, .bin .lss (.tmp 15) (.const (.int .i64 0))⟩])
  (.cond (.tmp 16)
    (.ops [⟨some 17, none, .mki 9 (.const (.string ⟨#[98, 121, 116, 101, 115, 58, 32, 110, 101, 103, 97, 116, 105, 118, 101, 32, 82, 101, 112, 101, 97, 116, 32, 99, 111, 117, 110, 116]⟩))⟩,
      ⟨none, none, .no⟩])
    .skip))
  (.seq (.ops [⟨some 19, none, .mv (.tmp 0)⟩,
    ⟨some 20, none, .len (.tmp 19)⟩,
    ⟨some 21, none, .cv .u64 (.tmp 20)⟩,
    ⟨some 22, none, .mv (.tmp 1)⟩,
    ⟨some 23, none, .cv .u64 (.tmp 22)⟩,
    ⟨some 24, none, .call 59 [(.tmp 21), (.tmp 23)]⟩,
    ⟨some 18, none, .mv (.tmp 24)⟩,
    ⟨some 25, none, .ext (.tmp 18) 0⟩,
    ⟨some 26, none, .ext (.tmp 18) 1⟩,
    ⟨some 5, none, .mv (.tmp 25)⟩,
    ⟨some 6, none, .mv (.tmp 26)⟩])
  (.join (.seq (.ops [⟨some 27, none, .mv (.tmp 5)⟩,
    ⟨some 28, none, .bin .gtr (.tmp 27) (.const (.int .u64 0))⟩,
    ⟨some 29, none, .mv (.tmp 28)⟩,
    ⟨some 30, some (29, false), .mv (.tmp 6)⟩,
    ⟨some 31, some (29, false), .bin .gtr (.tmp 30) (.const (.int .u64 9223372036854775807))⟩,
    ⟨some 32, none, .pick (.tmp 29) (.const (.bool true)) (.tmp 31)⟩])
  (.cond (.tmp 32)
    (.ops [⟨some 33, none, .mki 9 (.const (.string ⟨#[98, 121, 116, 101, 115, 58, 32, 82, 101, 112, 101, 97, 116, 32, 111, 117, 116, 112, 117, 116, 32, 108, 101, 110, 103, 116, 104, 32, 111, 118, 101, 114, 102, 108, 111, 119]⟩))⟩,
      ⟨none, none, .no⟩])
    .skip))
  (.seq (.ops [⟨some 34, none, .mv (.tmp 6)⟩,
    ⟨some 35, none, .cv .i64 (.tmp 34)⟩,
    ⟨some 7, none, .mv (.tmp 35)⟩])
  (.seq (.seq (.ops [⟨some 36, none, .mv (.tmp 0)⟩,
    ⟨some 37, none, .len (.tmp 36)⟩,
    ⟨some 38, none, .bin .eql (.tmp 37) (.const (.int .i64 0))⟩])
  (.cond (.tmp 38)
    (.seq (.ops [⟨some 39, none, .bsl0 5⟩,
      ⟨some 4, none, .mv (.tmp 39)⟩])
    .ret)
    .skip))
  (.seq (.ops [⟨some 40, none, .mv (.tmp 7)⟩,
    ⟨some 8, none, .mv (.tmp 40)⟩])
  (.join (.seq (.ops [⟨some 41, none, .mv (.tmp 8)⟩,
    ⟨some 42, none, .bin .gtr (.tmp 41) (.const (.int .i64 8192))⟩])
  (.cond (.tmp 42)
    (.seq (.ops [⟨some 43, none, .mv (.tmp 0)⟩,
      ⟨some 44, none, .len (.tmp 43)⟩,
      ⟨some 45, none, .bin .quo (.const (.int .i64 8192)) (.tmp 44)⟩,
      ⟨some 46, none, .mv (.tmp 0)⟩,
      ⟨some 47, none, .len (.tmp 46)⟩,
      ⟨some 48, none, .bin .mul (.tmp 45) (.tmp 47)⟩,
      ⟨some 8, none, .mv (.tmp 48)⟩])
    (.seq (.ops [⟨some 49, none, .mv (.tmp 8)⟩,
      ⟨some 50, none, .bin .eql (.tmp 49) (.const (.int .i64 0))⟩])
    (.cond (.tmp 50)
      (.ops [⟨some 51, none, .mv (.tmp 0)⟩,
        ⟨some 52, none, .len (.tmp 51)⟩,
        ⟨some 8, none, .mv (.tmp 52)⟩])
      .skip)))
    .skip))
  (.seq (.ops [⟨some 53, none, .mv (.tmp 7)⟩,
    ⟨some 54, none, .raw (.call { callee := .value (.func 60), args := #[(.tmp 53)], argTypes := #[3] })⟩,
    ⟨some 55, none, .mv (.tmp 7)⟩,
    ⟨some 56, none, .mv (.tmp 7)⟩,
    ⟨some 57, none, .slc 1 (.tmp 54) none (some (.tmp 55)) (some (.tmp 56))⟩,
    ⟨some 9, none, .mv (.tmp 57)⟩])
  (.seq (.ops [⟨some 58, none, .mv (.tmp 9)⟩,
    ⟨some 59, none, .mv (.tmp 0)⟩,
    ⟨some 60, none, .cpy 1 (.tmp 58) (.tmp 59)⟩,
    ⟨some 10, none, .mv (.tmp 60)⟩])
  (.seq (.block 0
    (.loop
      (.seq (.seq (.ops [⟨some 61, none, .mv (.tmp 10)⟩,
        ⟨some 62, none, .mv (.tmp 7)⟩,
        ⟨some 63, none, .bin .lss (.tmp 61) (.tmp 62)⟩])
      (.cond (.tmp 63)
        .skip
        (.exit 0)))
      (.block 1
        (.seq (.ops [⟨some 64, none, .mv (.tmp 10)⟩,
          ⟨some 65, none, .mv (.tmp 8)⟩,
          ⟨some 66, none, .min2 (.tmp 64) (.tmp 65)⟩,
          ⟨some 11, none, .mv (.tmp 66)⟩])
        (.drawS [(0, 0), (0, 1), (0, 2), (0, 3), (0, 4), (0, 5), (0, 6), (2, 7), (0, 8), (0, 9)]
          [⟨some 67, none, .mv (.tmp 10)⟩,
          ⟨some 68, none, .mv (.tmp 9)⟩,
          ⟨some 69, none, .mv (.tmp 10)⟩,
          ⟨some 70, none, .slc 1 (.tmp 68) (some (.tmp 69)) none none⟩,
          ⟨some 71, none, .mv (.tmp 9)⟩,
          ⟨some 72, none, .mv (.tmp 11)⟩,
          ⟨some 73, none, .slc 1 (.tmp 71) none (some (.tmp 72)) none⟩,
          ⟨some 74, none, .cpy 1 (.tmp 70) (.tmp 73)⟩,
          ⟨some 75, none, .bin .add (.tmp 67) (.tmp 74)⟩,
          ⟨some 10, none, .mv (.tmp 75)⟩]))))))
  (.seq (.ops [⟨some 76, none, .mv (.tmp 9)⟩,
    ⟨some 4, none, .mv (.tmp 76)⟩])
  .ret)))))))))))))⟩
theorem h33 : strF Tryd.prog [(20, .inl [(0, 0), (0, 1), (0, 2), (0, 3), (0, 4), (0, 5), (0, 6), (2, 7), (0, 8), (0, 9)])] Tryd.f33 = some c33 := by kernel_rfl
/-- chirograph/nat.cut -/
def c47 : Fun := ⟨21, [.inl 2],
  (.seq (.ops [⟨some 2, none, .mv (.const (.slice none 0 0))⟩])
  (.seq (.ops [⟨some 4, none, .mv (.tmp 0)⟩,
    ⟨some 5, none, .len (.tmp 4)⟩,
    ⟨some 3, none, .mv (.tmp 5)⟩])
  (.seq (.block 0
    (.loop
      (.seq (.seq (.ops [⟨some 6, none, .mv (.tmp 3)⟩,
        ⟨some 7, none, .bin .gtr (.tmp 6) (.const (.int .i64 0))⟩,
        ⟨some 8, none, .mv (.tmp 7)⟩,
        ⟨some 9, some (8, true), .mv (.tmp 0)⟩,
        ⟨some 10, some (8, true), .mv (.tmp 3)⟩,
        ⟨some 11, some (8, true), .bin .sub (.tmp 10) (.const (.int .i64 1))⟩,
        ⟨some 12, some (8, true), .ia 1 (.tmp 9) (.tmp 11)⟩,
        ⟨some 13, some (8, true), .ld (.int .u32) (.tmp 12)⟩,
        ⟨some 14, some (8, true), .bin .eql (.tmp 13) (.const (.int .u32 0))⟩,
        ⟨some 15, none, .pick (.tmp 8) (.tmp 14) (.const (.bool false))⟩])
      (.cond (.tmp 15)
        .skip
        (.exit 0)))
      (.block 1
        (.ops [⟨some 16, none, .mv (.tmp 3)⟩,
          ⟨some 17, none, .bin .sub (.tmp 16) (.const (.int .i64 1))⟩,
          ⟨some 3, none, .mv (.tmp 17)⟩])))))
  (.seq (.ops [⟨some 18, none, .mv (.tmp 0)⟩,
    ⟨some 19, none, .mv (.tmp 3)⟩,
    ⟨some 20, none, .slc 1 (.tmp 18) none (some (.tmp 19)) none⟩,
    ⟨some 2, none, .mv (.tmp 20)⟩])
  .ret))))⟩
theorem h47 : strF Tryd.prog [] Tryd.f47 = some c47 := by kernel_rfl
/-- math/bits.Len32 -/
def c48 : Fun := ⟨19, [.inl 2],
  (.seq (.ops [⟨some 2, none, .mv (.const (.int .i64 0))⟩])
  (.join (.seq (.ops [⟨some 3, none, .mv (.tmp 0)⟩,
    ⟨some 4, none, .bin .geq (.tmp 3) (.const (.int .u32 65536))⟩])
  (.cond (.tmp 4)
    (.seq (.ops [⟨some 5, none, .mv (.tmp 0)⟩,
      ⟨some 6, none, .bin .shr (.tmp 5) (.const (.int .u64 16))⟩,
      ⟨some 0, none, .mv (.tmp 6)⟩])
    (.ops [⟨some 2, none, .mv (.const (.int .i64 16))⟩]))
    .skip))
  (.join (.seq (.ops [⟨some 7, none, .mv (.tmp 0)⟩,
    ⟨some 8, none, .bin .geq (.tmp 7) (.const (.int .u32 256))⟩])
  (.cond (.tmp 8)
    (.seq (.ops [⟨some 9, none, .mv (.tmp 0)⟩,
      ⟨some 10, none, .bin .shr (.tmp 9) (.const (.int .u64 8))⟩,
      ⟨some 0, none, .mv (.tmp 10)⟩])
    (.ops [⟨some 11, none, .mv (.tmp 2)⟩,
      ⟨some 12, none, .bin .add (.tmp 11) (.const (.int .i64 8))⟩,
      ⟨some 2, none, .mv (.tmp 12)⟩]))
    .skip))
  (.seq (.ops [⟨some 13, none, .mv (.tmp 2)⟩,
    ⟨some 14, none, .mv (.tmp 0)⟩,
    ⟨some 15, none, .cv .u8 (.tmp 14)⟩,
    ⟨some 16, none, .ixs (.const (.string ⟨#[0, 1, 2, 2, 3, 3, 3, 3, 4, 4, 4, 4, 4, 4, 4, 4, 5, 5, 5, 5, 5, 5, 5, 5, 5, 5, 5, 5, 5, 5, 5, 5, 6, 6, 6, 6, 6, 6, 6, 6, 6, 6, 6, 6, 6, 6, 6, 6, 6, 6, 6, 6, 6, 6, 6, 6, 6, 6, 6, 6, 6, 6, 6, 6, 7, 7, 7, 7, 7, 7, 7, 7, 7, 7, 7, 7, 7, 7, 7, 7, 7, 7, 7, 7, 7, 7, 7, 7, 7, 7, 7, 7, 7, 7, 7, 7, 7, 7, 7, 7, 7, 7, 7, 7, 7, 7, 7, 7, 7, 7, 7, 7, 7, 7, 7, 7, 7, 7, 7, 7, 7, 7, 7, 7, 7, 7, 7, 7, 8, 8, 8, 8, 8, 8, 8, 8, 8, 8, 8, 8, 8, 8, 8, 8, 8, 8, 8, 8, 8, 8, 8, 8, 8, 8, 8, 8, 8, 8, 8, 8, 8, 8, 8, 8, 8, 8, 8, 8, 8, 8, 8, 8, 8, 8, 8, 8, 8, 8, 8, 8, 8, 8, 8, 8, 8, 8, 8, 8, 8, 8, 8, 8, 8, 8, 8, 8, 8, 8, 8, 8, 8, 8, 8, 8, 8, 8, 8, 8, 8, 8, 8, 8, 8, 8, 8, 8, 8, 8, 8, 8, 8, 8, 8, 8, 8, 8, 8, 8, 8, 8, 8, 8, 8, 8, 8, 8, 8, 8, 8, 8, 8, 8, 8, 8, 8, 8, 8, 8, 8, 8, 8, 8, 8, 8, 8, 8]⟩)) (.tmp 15)⟩,
    ⟨some 17, none, .cv .i64 (.tmp 16)⟩,
    ⟨some 18, none, .bin .add (.tmp 13) (.tmp 17)⟩,
    ⟨some 2, none, .mv (.tmp 18)⟩])
  .ret))))⟩
theorem h48 : strF Tryd.prog [] Tryd.f48 = some c48 := by kernel_rfl
/-- chirograph/chirographref01.Digits -/
def c49 : Fun := ⟨28, [.inl 2],
  (.seq (.ops [⟨some 2, none, .mv (.const (.slice none 0 0))⟩])
  (.seq (.ops [⟨some 3, none, .mv (.const (.slice none 0 0))⟩])
  (.seq (.seq (.ops [⟨some 4, none, .mv (.const (.int .i64 0))⟩])
  (.block 0
    (.loop
      (.seq (.seq (.ops [⟨some 5, none, .mv (.tmp 4)⟩,
        ⟨some 6, none, .mv (.tmp 0)⟩,
        ⟨some 7, none, .len (.tmp 6)⟩,
        ⟨some 8, none, .bin .lss (.tmp 5) (.tmp 7)⟩])
      (.cond (.tmp 8)
        .skip
        (.exit 0)))
      (.seq (.block 1
        (.drawS [(0, 0), (0, 1), (0, 2), (0, 3), (0, 7), (0, 8), (0, 9), (1, 4), (0, 5), (0, 6), (1, 10), (0, 11), (0, 12), (2, 13), (2, 14), (0, 15)]
          [⟨some 11, none, .mv (.tmp 3)⟩,
          ⟨some 12, none, .mv (.tmp 0)⟩,
          ⟨some 13, none, .mv (.tmp 4)⟩,
          ⟨some 14, none, .ia 1 (.tmp 12) (.tmp 13)⟩,
          ⟨some 15, none, .ld (.int .u32) (.tmp 14)⟩,
          ⟨some 16, none, .bin .and (.tmp 15) (.const (.int .u32 65535))⟩,
          ⟨some 17, none, .cv .u64 (.tmp 16)⟩,
          ⟨some 18, none, .mv (.tmp 0)⟩,
          ⟨some 19, none, .mv (.tmp 4)⟩,
          ⟨some 20, none, .ia 1 (.tmp 18) (.tmp 19)⟩,
          ⟨some 21, none, .ld (.int .u32) (.tmp 20)⟩,
          ⟨some 22, none, .bin .shr (.tmp 21) (.const (.int .u64 16))⟩,
          ⟨some 23, none, .cv .u64 (.tmp 22)⟩,
          ⟨some 24, none, .bsl 71 1 2 #[(.int .u64 0)] [(0, (.tmp 17)), (1, (.tmp 23))]⟩,
          ⟨some 25, none, .app 71 1 8 #[(.int .u64 0)] (.tmp 11) (.tmp 24)⟩,
          ⟨some 3, none, .mv (.tmp 25)⟩]))
      (.ops [⟨some 9, none, .mv (.tmp 4)⟩,
        ⟨some 10, none, .bin .add (.tmp 9) (.const (.int .i64 1))⟩,
        ⟨some 4, none, .mv (.tmp 10)⟩]))))))
  (.seq (.ops [⟨some 26, none, .mv (.tmp 3)⟩,
    ⟨some 27, none, .call 76 [(.tmp 26)]⟩,
    ⟨some 2, none, .mv (.tmp 27)⟩])
  .ret))))⟩
theorem h49 : strF Tryd.prog [(5, .inl [(0, 0), (0, 1), (0, 2), (0, 3), (0, 7), (0, 8), (0, 9), (1, 4), (0, 5), (0, 6), (1, 10), (0, 11), (0, 12), (2, 13), (2, 14), (0, 15)])] Tryd.f49 = some c49 := by kernel_rfl
/-- chirograph/rsa.blocks$1 -/
def c50 : Fun := ⟨32, [],
  (.seq (.ops [⟨some 4, none, .mv (.const (.int .i64 0))⟩])
  (.block 0
    (.loop
      (.seq (.block 1
        (.seq (.ops [⟨some 10, none, .ld (.int .i64) (.tmp 1)⟩,
          ⟨some 11, none, .ld .slice (.tmp 2)⟩,
          ⟨some 12, none, .mv (.tmp 4)⟩,
          ⟨some 13, none, .bin .shr (.tmp 12) (.const (.int .u64 24))⟩,
          ⟨some 14, none, .cv .u8 (.tmp 13)⟩,
          ⟨some 15, none, .mv (.tmp 4)⟩,
          ⟨some 16, none, .bin .shr (.tmp 15) (.const (.int .u64 16))⟩,
          ⟨some 17, none, .cv .u8 (.tmp 16)⟩,
          ⟨some 18, none, .mv (.tmp 4)⟩,
          ⟨some 19, none, .bin .shr (.tmp 18) (.const (.int .u64 8))⟩,
          ⟨some 20, none, .cv .u8 (.tmp 19)⟩,
          ⟨some 21, none, .mv (.tmp 4)⟩,
          ⟨some 22, none, .cv .u8 (.tmp 21)⟩,
          ⟨some 23, none, .bsl 5 1 4 #[(.int .u8 0)] [(0, (.tmp 14)), (1, (.tmp 17)), (2, (.tmp 20)), (3, (.tmp 22))]⟩,
          ⟨some 24, none, .bsl 31 1 2 #[(.slice none 0 0)] [(0, (.tmp 11)), (1, (.tmp 23))]⟩,
          ⟨some 25, none, .call 51 [(.tmp 10), (.tmp 24)]⟩,
          ⟨some 9, none, .mv (.tmp 25)⟩,
          ⟨some 26, none, .ext (.tmp 9) 0⟩,
          ⟨some 27, none, .ext (.tmp 9) 1⟩,
          ⟨some 5, none, .mv (.tmp 26)⟩,
          ⟨some 6, none, .mv (.tmp 27)⟩])
        (.seq (.ops [⟨some 28, none, .mv (.tmp 0)⟩,
          ⟨some 29, none, .mv (.tmp 5)⟩,
          ⟨some 30, none, .raw (.call { callee := .value (.tmp 28), args := #[(.tmp 29)], argTypes := #[31] })⟩,
          ⟨some 31, none, .un .not (.tmp 30)⟩])
        (.cond (.tmp 31)
          .ret
          .skip))))
      (.ops [⟨some 7, none, .mv (.tmp 4)⟩,
        ⟨some 8, none, .bin .add (.tmp 7) (.const (.int .i64 1))⟩,
        ⟨some 4, none, .mv (.tmp 8)⟩])))))⟩
theorem h50 : strF Tryd.prog [] Tryd.f50 = some c50 := by kernel_rfl
/-- chirograph/digest.Sum -/
def c51 : Fun := ⟨49, [.inl 4, .inl 5],
  (.seq (.ops [⟨some 4, none, .mv (.const (.slice none 0 0))⟩,
    ⟨some 5, none, .mv (.const (.int .i64 0))⟩])
  (.seq (.seq (.ops [⟨some 13, none, .mv (.tmp 0)⟩,
    ⟨some 14, none, .call 27 [(.tmp 13)]⟩,
    ⟨some 15, none, .bin .eql (.tmp 14) (.const (.int .i64 0))⟩])
  (.cond (.tmp 15)
    (.seq (.ops [⟨some 4, none, .mv (.const (.slice none 0 0))⟩,
      ⟨some 5, none, .mv (.const (.int .i64 1))⟩])
    .ret)
    .skip))
  (.seq (.ops [⟨some 6, none, .mv (.const (.int .i64 0))⟩])
  (.seq (.seq (.ops [⟨some 16, none, .mv (.tmp 1)⟩,
    ⟨some 17, none, .len (.tmp 16)⟩,
    ⟨some 18, none, .mv (.const (.int .i64 0))⟩])
  (.block 0
    (.loop
      (.seq (.ops [⟨some 19, none, .bin .lss (.tmp 18) (.tmp 17)⟩])
      (.seq (.cond (.tmp 19)
        .skip
        (.exit 0))
      (.seq (.block 1
        (.seq (.ops [⟨some 20, none, .ia 1 (.tmp 16) (.tmp 18)⟩,
          ⟨some 21, none, .ld .slice (.tmp 20)⟩,
          ⟨some 8, none, .mv (.tmp 21)⟩])
        (.seq (.seq (.ops [⟨some 22, none, .mv (.tmp 8)⟩,
          ⟨some 23, none, .len (.tmp 22)⟩,
          ⟨some 24, none, .mv (.tmp 6)⟩,
          ⟨some 25, none, .bin .sub (.const (.int .i64 16777216)) (.tmp 24)⟩,
          ⟨some 26, none, .bin .gtr (.tmp 23) (.tmp 25)⟩])
        (.cond (.tmp 26)
          (.seq (.ops [⟨some 4, none, .mv (.const (.slice none 0 0))⟩,
            ⟨some 5, none, .mv (.const (.int .i64 3))⟩])
          .ret)
          .skip))
        (.ops [⟨some 27, none, .mv (.tmp 6)⟩,
          ⟨some 28, none, .mv (.tmp 8)⟩,
          ⟨some 29, none, .len (.tmp 28)⟩,
          ⟨some 30, none, .bin .add (.tmp 27) (.tmp 29)⟩,
          ⟨some 6, none, .mv (.tmp 30)⟩]))))
      (.ops [⟨some 31, none, .bin .add (.tmp 18) (.const (.int .i64 1))⟩,
        ⟨some 18, none, .mv (.tmp 31)⟩])))))))
  (.seq (.ops [⟨some 33, none, .mv (.tmp 0)⟩,
    ⟨some 34, none, .call 77 [(.tmp 33)]⟩,
    ⟨some 32, none, .mv (.tmp 34)⟩,
    ⟨some 35, none, .ext (.tmp 32) 0⟩,
    ⟨some 36, none, .ext (.tmp 32) 1⟩,
    ⟨some 9, none, .mv (.tmp 35)⟩,
    ⟨some 10, none, .mv (.tmp 36)⟩])
  (.seq (.seq (.ops [⟨some 37, none, .mv (.tmp 1)⟩,
    ⟨some 38, none, .len (.tmp 37)⟩,
    ⟨some 39, none, .mv (.const (.int .i64 0))⟩])
  (.block 2
    (.loop
      (.seq (.ops [⟨some 40, none, .bin .lss (.tmp 39) (.tmp 38)⟩])
      (.seq (.cond (.tmp 40)
        .skip
        (.exit 2))
      (.seq (.block 3
        (.seq (.ops [⟨some 41, none, .ia 1 (.tmp 37) (.tmp 39)⟩,
          ⟨some 42, none, .ld .slice (.tmp 41)⟩,
          ⟨some 12, none, .mv (.tmp 42)⟩])
        (.ops [⟨some 43, none, .mv (.tmp 9)⟩,
          ⟨some 44, none, .mv (.tmp 12)⟩,
          ⟨some 45, none, .call 78 [(.tmp 43), (.tmp 44)]⟩])))
      (.ops [⟨some 46, none, .bin .add (.tmp 39) (.const (.int .i64 1))⟩,
        ⟨some 39, none, .mv (.tmp 46)⟩])))))))
  (.seq (.ops [⟨some 47, none, .mv (.tmp 9)⟩,
    ⟨some 48, none, .call 79 [(.tmp 47)]⟩,
    ⟨some 4, none, .mv (.tmp 48)⟩,
    ⟨some 5, none, .mv (.const (.int .i64 0))⟩])
  .ret)))))))⟩
theorem h51 : strF Tryd.prog [] Tryd.f51 = some c51 := by kernel_rfl
/-- chirograph/der.PutOid -/
def c56 : Fun := ⟨49, [.inl 2, .inl 3],
  (.seq (.ops [⟨some 2, none, .mv (.const (.slice none 0 0))⟩,
    ⟨some 3, none, .mv (.const (.int .i64 0))⟩])
  (.seq (.ops [⟨some 12, none, .mv (.tmp 0)⟩,
    ⟨some 13, none, .call 85 [(.tmp 12)]⟩,
    ⟨some 11, none, .mv (.tmp 13)⟩,
    ⟨some 14, none, .ext (.tmp 11) 0⟩,
    ⟨some 15, none, .ext (.tmp 11) 1⟩,
    ⟨some 4, none, .mv (.tmp 14)⟩,
    ⟨some 5, none, .mv (.tmp 15)⟩])
  (.seq (.seq (.ops [⟨some 16, none, .mv (.tmp 5)⟩,
    ⟨some 17, none, .un .not (.tmp 16)⟩])
  (.cond (.tmp 17)
    (.seq (.ops [⟨some 2, none, .mv (.const (.slice none 0 0))⟩,
      ⟨some 3, none, .mv (.const (.int .i64 6))⟩])
    .ret)
    .skip))
  (.seq (.seq (.ops [⟨some 18, none, .mv (.tmp 4)⟩,
    ⟨some 19, none, .len (.tmp 18)⟩,
    ⟨some 20, none, .mv (.const (.int .i64 0))⟩])
  (.block 0
    (.loop
      (.seq (.ops [⟨some 21, none, .bin .lss (.tmp 20) (.tmp 19)⟩])
      (.seq (.cond (.tmp 21)
        .skip
        (.exit 0))
      (.seq (.block 1
        (.seq (.ops [⟨some 22, none, .ia 1 (.tmp 18) (.tmp 20)⟩,
          ⟨some 23, none, .ld (.int .u64) (.tmp 22)⟩,
          ⟨some 7, none, .mv (.tmp 23)⟩])
        (.seq (.ops [⟨some 24, none, .mv (.tmp 7)⟩,
          ⟨some 25, none, .bin .gtr (.tmp 24) (.const (.int .u64 2147483647))⟩])
        (.cond (.tmp 25)
          (.seq (.ops [⟨some 2, none, .mv (.const (.slice none 0 0))⟩,
            ⟨some 3, none, .mv (.const (.int .i64 3))⟩])
          .ret)
          .skip))))
      (.ops [⟨some 26, none, .bin .add (.tmp 20) (.const (.int .i64 1))⟩,
        ⟨some 20, none, .mv (.tmp 26)⟩])))))))
  (.seq (.drawS [(0, 0), (0, 1), (0, 4), (0, 5), (1, 2), (0, 3), (1, 6), (0, 7), (2, 8), (0, 9)]
    [⟨some 27, none, .mv (.tmp 4)⟩,
    ⟨some 28, none, .ia 1 (.tmp 27) (.const (.int .i64 0))⟩,
    ⟨some 29, none, .ld (.int .u64) (.tmp 28)⟩,
    ⟨some 30, none, .bin .mul (.const (.int .u64 40)) (.tmp 29)⟩,
    ⟨some 31, none, .mv (.tmp 4)⟩,
    ⟨some 32, none, .ia 1 (.tmp 31) (.const (.int .i64 1))⟩,
    ⟨some 33, none, .ld (.int .u64) (.tmp 32)⟩,
    ⟨some 34, none, .bin .add (.tmp 30) (.tmp 33)⟩,
    ⟨some 35, none, .call 86 [(.tmp 34)]⟩,
    ⟨some 8, none, .mv (.tmp 35)⟩])
  (.seq (.seq (.ops [⟨some 36, none, .mv (.tmp 4)⟩,
    ⟨some 37, none, .slc 1 (.tmp 36) (some (.const (.int .i64 2))) none none⟩,
    ⟨some 38, none, .len (.tmp 37)⟩,
    ⟨some 39, none, .mv (.const (.int .i64 0))⟩])
  (.block 2
    (.loop
      (.seq (.ops [⟨some 40, none, .bin .lss (.tmp 39) (.tmp 38)⟩])
      (.seq (.cond (.tmp 40)
        .skip
        (.exit 2))
      (.seq (.block 3
        (.seq (.ops [⟨some 41, none, .ia 1 (.tmp 37) (.tmp 39)⟩,
          ⟨some 42, none, .ld (.int .u64) (.tmp 41)⟩,
          ⟨some 10, none, .mv (.tmp 42)⟩])
        (.ops [⟨some 43, none, .mv (.tmp 8)⟩,
          ⟨some 44, none, .mv (.tmp 10)⟩,
          ⟨some 45, none, .call 86 [(.tmp 44)]⟩,
          ⟨some 46, none, .app 5 1 1 #[(.int .u8 0)] (.tmp 43) (.tmp 45)⟩,
          ⟨some 8, none, .mv (.tmp 46)⟩])))
      (.ops [⟨some 47, none, .bin .add (.tmp 39) (.const (.int .i64 1))⟩,
        ⟨some 39, none, .mv (.tmp 47)⟩])))))))
  (.seq (.ops [⟨some 48, none, .mv (.tmp 8)⟩,
    ⟨some 2, none, .mv (.tmp 48)⟩,
    ⟨some 3, none, .mv (.const (.int .i64 0))⟩])
  .ret)))))))⟩
theorem h56 : strF Tryd.prog [(10, .inl [(0, 0), (0, 1), (0, 4), (0, 5), (1, 2), (0, 3), (1, 6), (0, 7), (2, 8), (0, 9)])] Tryd.f56 = some c56 := by kernel_rfl
/-- chirograph/rsa.oid -/
def c57 : Fun := ⟨10, [.inl 2],
  (.seq (.ops [⟨some 2, none, .mv (.const (.string ⟨#[]⟩))⟩])
  (.seq (.seq (.ops [⟨some 3, none, .mv (.tmp 0)⟩])
  (.block 0
    (.seq (.ops [⟨some 5, none, .bin .eql (.tmp 3) (.const (.int .i64 1))⟩,
      ⟨some 4, none, .mv (.tmp 5)⟩])
    (.cond (.tmp 4)
      (.seq (.ops [⟨some 2, none, .mv (.const (.string ⟨#[49, 46, 51, 46, 49, 52, 46, 51, 46, 50, 46, 50, 54]⟩))⟩])
      .ret)
      (.seq (.ops [⟨some 7, none, .bin .eql (.tmp 3) (.const (.int .i64 2))⟩,
        ⟨some 6, none, .mv (.tmp 7)⟩])
      (.cond (.tmp 6)
        (.seq (.ops [⟨some 2, none, .mv (.const (.string ⟨#[50, 46, 49, 54, 46, 56, 52, 48, 46, 49, 46, 49, 48, 49, 46, 51, 46, 52, 46, 50, 46, 49]⟩))⟩])
        .ret)
        (.seq (.ops [⟨some 9, none, .bin .eql (.tmp 3) (.const (.int .i64 3))⟩,
          ⟨some 8, none, .mv (.tmp 9)⟩])
        (.cond (.tmp 8)
          (.seq (.ops [⟨some 2, none, .mv (.const (.string ⟨#[50, 46, 49, 54, 46, 56, 52, 48, 46, 49, 46, 49, 48, 49, 46, 51, 46, 52, 46, 50, 46, 50]⟩))⟩])
          .ret)
          .skip))))))))
  (.seq (.ops [⟨some 2, none, .mv (.const (.string ⟨#[50, 46, 49, 54, 46, 56, 52, 48, 46, 49, 46, 49, 48, 49, 46, 51, 46, 52, 46, 50, 46, 51]⟩))⟩])
  .ret)))⟩
theorem h57 : strF Tryd.prog [] Tryd.f57 = some c57 := by kernel_rfl
/-- chirograph/der.Put -/
def c58 : Fun := ⟨122, [.inl 8, .inl 9],
  (.seq (.ops [⟨some 8, none, .mv (.const (.slice none 0 0))⟩,
    ⟨some 9, none, .mv (.const (.int .i64 0))⟩])
  (.seq (.seq (.ops [⟨some 18, none, .mv (.tmp 0)⟩,
    ⟨some 19, none, .bin .lss (.tmp 18) (.const (.int .i64 0))⟩,
    ⟨some 20, none, .mv (.tmp 19)⟩,
    ⟨some 21, some (20, false), .mv (.tmp 0)⟩,
    ⟨some 22, some (20, false), .bin .gtr (.tmp 21) (.const (.int .i64 3))⟩,
    ⟨some 23, none, .pick (.tmp 20) (.const (.bool true)) (.tmp 22)⟩,
    ⟨some 24, none, .mv (.tmp 23)⟩,
    ⟨some 25, some (24, false), .mv (.tmp 1)⟩,
    ⟨some 26, some (24, false), .bin .lss (.tmp 25) (.const (.int .i64 0))⟩,
    ⟨some 27, none, .pick (.tmp 24) (.const (.bool true)) (.tmp 26)⟩,
    ⟨some 28, none, .mv (.tmp 27)⟩,
    ⟨some 29, some (28, false), .mv (.tmp 1)⟩,
    ⟨some 30, some (28, false), .bin .gtr (.tmp 29) (.const (.int .i64 268435455))⟩,
    ⟨some 31, none, .pick (.tmp 28) (.const (.bool true)) (.tmp 30)⟩,
    ⟨some 32, none, .mv (.tmp 31)⟩,
    ⟨some 33, some (32, false), .mv (.tmp 0)⟩,
    ⟨some 34, some (32, false), .mv (.tmp 1)⟩,
    ⟨some 35, some (32, false), .bin .add (.tmp 33) (.tmp 34)⟩,
    ⟨some 36, some (32, false), .bin .eql (.tmp 35) (.const (.int .i64 0))⟩,
    ⟨some 37, none, .pick (.tmp 32) (.const (.bool true)) (.tmp 36)⟩])
  (.cond (.tmp 37)
    (.seq (.ops [⟨some 8, none, .mv (.const (.slice none 0 0))⟩,
      ⟨some 9, none, .mv (.const (.int .i64 1))⟩])
    .ret)
    .skip))
  (.seq (.ops [⟨some 10, none, .mv (.const (.int .i64 0))⟩])
  (.seq (.seq (.ops [⟨some 38, none, .mv (.tmp 3)⟩,
    ⟨some 39, none, .len (.tmp 38)⟩,
    ⟨some 40, none, .mv (.const (.int .i64 0))⟩])
  (.block 0
    (.loop
      (.seq (.ops [⟨some 41, none, .bin .lss (.tmp 40) (.tmp 39)⟩])
      (.seq (.cond (.tmp 41)
        .skip
        (.exit 0))
      (.seq (.block 1
        (.seq (.ops [⟨some 42, none, .ia 1 (.tmp 38) (.tmp 40)⟩,
          ⟨some 43, none, .ld .slice (.tmp 42)⟩,
          ⟨some 12, none, .mv (.tmp 43)⟩])
        (.seq (.seq (.ops [⟨some 44, none, .mv (.tmp 12)⟩,
          ⟨some 45, none, .len (.tmp 44)⟩,
          ⟨some 46, none, .mv (.tmp 10)⟩,
          ⟨some 47, none, .bin .sub (.const (.int .i64 16777216)) (.tmp 46)⟩,
          ⟨some 48, none, .bin .gtr (.tmp 45) (.tmp 47)⟩])
        (.cond (.tmp 48)
          (.seq (.ops [⟨some 8, none, .mv (.const (.slice none 0 0))⟩,
            ⟨some 9, none, .mv (.const (.int .i64 3))⟩])
          .ret)
          .skip))
        (.ops [⟨some 49, none, .mv (.tmp 10)⟩,
          ⟨some 50, none, .mv (.tmp 12)⟩,
          ⟨some 51, none, .len (.tmp 50)⟩,
          ⟨some 52, none, .bin .add (.tmp 49) (.tmp 51)⟩,
          ⟨some 10, none, .mv (.tmp 52)⟩]))))
      (.ops [⟨some 53, none, .bin .add (.tmp 40) (.const (.int .i64 1))⟩,
        ⟨some 40, none, .mv (.tmp 53)⟩])))))))
  (.seq (.ops [⟨some 54, none, .mv (.tmp 0)⟩,
    ⟨some 55, none, .bin .shl (.tmp 54) (.const (.int .u64 6))⟩,
    ⟨some 56, none, .cv .u8 (.tmp 55)⟩,
    ⟨some 13, none, .mv (.tmp 56)⟩])
  (.join (.seq (.ops [⟨some 57, none, .mv (.tmp 2)⟩])
  (.cond (.tmp 57)
    (.ops [⟨some 58, none, .mv (.tmp 13)⟩,
      ⟨some 59, none, .bin .or (.tmp 58) (.const (.int .u8 32))⟩,
      ⟨some 13, none, .mv (.tmp 59)⟩])
    .skip))
  (.seq (.ops [⟨some 60, none, .mv (.tmp 10)⟩,
    ⟨some 61, none, .bin .add (.tmp 60) (.const (.int .i64 10))⟩,
    ⟨some 62, none, .mks 5 1 1 #[(.int .u8 0)] (.const (.int .i64 0)) (.tmp 61)⟩,
    ⟨some 14, none, .mv (.tmp 62)⟩])
  (.join (.seq (.ops [⟨some 63, none, .mv (.tmp 1)⟩,
    ⟨some 64, none, .bin .lss (.tmp 63) (.const (.int .i64 31))⟩])
  (.cond (.tmp 64)
    (.ops [⟨some 65, none, .mv (.tmp 14)⟩,
      ⟨some 66, none, .mv (.tmp 13)⟩,
      ⟨some 67, none, .mv (.tmp 1)⟩,
      ⟨some 68, none, .cv .u8 (.tmp 67)⟩,
      ⟨some 69, none, .bin .or (.tmp 66) (.tmp 68)⟩,
      ⟨some 70, none, .bsl 5 1 1 #[(.int .u8 0)] [(0, (.tmp 69))]⟩,
      ⟨some 71, none, .app 5 1 1 #[(.int .u8 0)] (.tmp 65) (.tmp 70)⟩,
      ⟨some 14, none, .mv (.tmp 71)⟩])
    (.seq (.ops [⟨some 72, none, .mv (.tmp 14)⟩,
      ⟨some 73, none, .mv (.tmp 13)⟩,
      ⟨some 74, none, .bin .or (.tmp 73) (.const (.int .u8 31))⟩,
      ⟨some 75, none, .bsl 5 1 1 #[(.int .u8 0)] [(0, (.tmp 74))]⟩,
      ⟨some 76, none, .app 5 1 1 #[(.int .u8 0)] (.tmp 72) (.tmp 75)⟩,
      ⟨some 14, none, .mv (.tmp 76)⟩])
    (.ops [⟨some 77, none, .mv (.tmp 14)⟩,
      ⟨some 78, none, .mv (.tmp 1)⟩,
      ⟨some 79, none, .cv .u64 (.tmp 78)⟩,
      ⟨some 80, none, .call 86 [(.tmp 79)]⟩,
      ⟨some 81, none, .app 5 1 1 #[(.int .u8 0)] (.tmp 77) (.tmp 80)⟩,
      ⟨some 14, none, .mv (.tmp 81)⟩]))))
  (.join (.seq (.ops [⟨some 82, none, .mv (.tmp 10)⟩,
    ⟨some 83, none, .bin .lss (.tmp 82) (.const (.int .i64 128))⟩])
  (.cond (.tmp 83)
    (.ops [⟨some 84, none, .mv (.tmp 14)⟩,
      ⟨some 85, none, .mv (.tmp 10)⟩,
      ⟨some 86, none, .cv .u8 (.tmp 85)⟩,
      ⟨some 87, none, .bsl 5 1 1 #[(.int .u8 0)] [(0, (.tmp 86))]⟩,
      ⟨some 88, none, .app 5 1 1 #[(.int .u8 0)] (.tmp 84) (.tmp 87)⟩,
      ⟨some 14, none, .mv (.tmp 88)⟩])
    (.seq (.ops [⟨some 89, none, .mv (.tmp 10)⟩,
      ⟨some 90, none, .bin .shr (.tmp 89) (.const (.int .u64 24))⟩,
      ⟨some 91, none, .cv .u8 (.tmp 90)⟩,
      ⟨some 92, none, .mv (.tmp 10)⟩,
      ⟨some 93, none, .bin .shr (.tmp 92) (.const (.int .u64 16))⟩,
      ⟨some 94, none, .cv .u8 (.tmp 93)⟩,
      ⟨some 95, none, .mv (.tmp 10)⟩,
      ⟨some 96, none, .bin .shr (.tmp 95) (.const (.int .u64 8))⟩,
      ⟨some 97, none, .cv .u8 (.tmp 96)⟩,
      ⟨some 98, none, .mv (.tmp 10)⟩,
      ⟨some 99, none, .cv .u8 (.tmp 98)⟩,
      ⟨some 100, none, .bsl 5 1 4 #[(.int .u8 0)] [(0, (.tmp 91)), (1, (.tmp 94)), (2, (.tmp 97)), (3, (.tmp 99))]⟩,
      ⟨some 101, none, .call 87 [(.tmp 100), (.const (.string ⟨#[0]⟩))]⟩,
      ⟨some 15, none, .mv (.tmp 101)⟩])
    (.ops [⟨some 102, none, .mv (.tmp 14)⟩,
      ⟨some 103, none, .mv (.tmp 15)⟩,
      ⟨some 104, none, .len (.tmp 103)⟩,
      ⟨some 105, none, .cv .u8 (.tmp 104)⟩,
      ⟨some 106, none, .bin .or (.const (.int .u8 128)) (.tmp 105)⟩,
      ⟨some 107, none, .bsl 5 1 1 #[(.int .u8 0)] [(0, (.tmp 106))]⟩,
      ⟨some 108, none, .app 5 1 1 #[(.int .u8 0)] (.tmp 102) (.tmp 107)⟩,
      ⟨some 109, none, .mv (.tmp 15)⟩,
      ⟨some 110, none, .app 5 1 1 #[(.int .u8 0)] (.tmp 108) (.tmp 109)⟩,
      ⟨some 14, none, .mv (.tmp 110)⟩]))))
  (.seq (.seq (.ops [⟨some 111, none, .mv (.tmp 3)⟩,
    ⟨some 112, none, .len (.tmp 111)⟩,
    ⟨some 113, none, .mv (.const (.int .i64 0))⟩])
  (.block 2
    (.loop
      (.seq (.ops [⟨some 114, none, .bin .lss (.tmp 113) (.tmp 112)⟩])
      (.seq (.cond (.tmp 114)
        .skip
        (.exit 2))
      (.seq (.block 3
        (.seq (.ops [⟨some 115, none, .ia 1 (.tmp 111) (.tmp 113)⟩,
          ⟨some 116, none, .ld .slice (.tmp 115)⟩,
          ⟨some 17, none, .mv (.tmp 116)⟩])
        (.ops [⟨some 117, none, .mv (.tmp 14)⟩,
          ⟨some 118, none, .mv (.tmp 17)⟩,
          ⟨some 119, none, .app 5 1 1 #[(.int .u8 0)] (.tmp 117) (.tmp 118)⟩,
          ⟨some 14, none, .mv (.tmp 119)⟩])))
      (.ops [⟨some 120, none, .bin .add (.tmp 113) (.const (.int .i64 1))⟩,
        ⟨some 113, none, .mv (.tmp 120)⟩])))))))
  (.seq (.ops [⟨some 121, none, .mv (.tmp 14)⟩,
    ⟨some 8, none, .mv (.tmp 121)⟩,
    ⟨some 9, none, .mv (.const (.int .i64 0))⟩])
  .ret)))))))))))⟩
theorem h58 : strF Tryd.prog [] Tryd.f58 = some c58 := by kernel_rfl
/-- math/bits.Mul -/
def c59 : Fun := ⟨30, [.inl 4, .inl 5],
  (.seq (.ops [⟨some 4, none, .mv (.const (.int .u64 0))⟩,
    ⟨some 5, none, .mv (.const (.int .u64 0))⟩])
  (.seq (.cond (.const (.bool false))
    (.seq (.ops [⟨some 11, none, .mv (.tmp 0)⟩,
      ⟨some 12, none, .cv .u32 (.tmp 11)⟩,
      ⟨some 13, none, .mv (.tmp 1)⟩,
      ⟨some 14, none, .cv .u32 (.tmp 13)⟩,
      ⟨some 15, none, .call 88 [(.tmp 12), (.tmp 14)]⟩,
      ⟨some 10, none, .mv (.tmp 15)⟩,
      ⟨some 16, none, .ext (.tmp 10) 0⟩,
      ⟨some 17, none, .ext (.tmp 10) 1⟩,
      ⟨some 6, none, .mv (.tmp 16)⟩,
      ⟨some 7, none, .mv (.tmp 17)⟩])
    (.seq (.ops [⟨some 18, none, .mv (.tmp 6)⟩,
      ⟨some 19, none, .cv .u64 (.tmp 18)⟩,
      ⟨some 20, none, .mv (.tmp 7)⟩,
      ⟨some 21, none, .cv .u64 (.tmp 20)⟩,
      ⟨some 4, none, .mv (.tmp 19)⟩,
      ⟨some 5, none, .mv (.tmp 21)⟩])
    .ret))
    .skip)
  (.seq (.ops [⟨some 23, none, .mv (.tmp 0)⟩,
    ⟨some 24, none, .mv (.tmp 1)⟩,
    ⟨some 25, none, .call 89 [(.tmp 23), (.tmp 24)]⟩,
    ⟨some 22, none, .mv (.tmp 25)⟩,
    ⟨some 26, none, .ext (.tmp 22) 0⟩,
    ⟨some 27, none, .ext (.tmp 22) 1⟩,
    ⟨some 8, none, .mv (.tmp 26)⟩,
    ⟨some 9, none, .mv (.tmp 27)⟩])
  (.seq (.ops [⟨some 28, none, .mv (.tmp 8)⟩,
    ⟨some 29, none, .mv (.tmp 9)⟩,
    ⟨some 4, none, .mv (.tmp 28)⟩,
    ⟨some 5, none, .mv (.tmp 29)⟩])
  .ret))))⟩
theorem h59 : strF Tryd.prog [] Tryd.f59 = some c59 := by kernel_rfl
/-- chirograph/chirographref01.plain -/
def c76 : Fun := ⟨21, [.inl 2],
  (.seq (.ops [⟨some 2, none, .mv (.const (.slice none 0 0))⟩])
  (.seq (.ops [⟨some 4, none, .mv (.tmp 0)⟩,
    ⟨some 5, none, .len (.tmp 4)⟩,
    ⟨some 3, none, .mv (.tmp 5)⟩])
  (.seq (.block 0
    (.loop
      (.seq (.seq (.ops [⟨some 6, none, .mv (.tmp 3)⟩,
        ⟨some 7, none, .bin .gtr (.tmp 6) (.const (.int .i64 0))⟩,
        ⟨some 8, none, .mv (.tmp 7)⟩,
        ⟨some 9, some (8, true), .mv (.tmp 0)⟩,
        ⟨some 10, some (8, true), .mv (.tmp 3)⟩,
        ⟨some 11, some (8, true), .bin .sub (.tmp 10) (.const (.int .i64 1))⟩,
        ⟨some 12, some (8, true), .ia 1 (.tmp 9) (.tmp 11)⟩,
        ⟨some 13, some (8, true), .ld (.int .u64) (.tmp 12)⟩,
        ⟨some 14, some (8, true), .bin .eql (.tmp 13) (.const (.int .u64 0))⟩,
        ⟨some 15, none, .pick (.tmp 8) (.tmp 14) (.const (.bool false))⟩])
      (.cond (.tmp 15)
        .skip
        (.exit 0)))
      (.block 1
        (.ops [⟨some 16, none, .mv (.tmp 3)⟩,
          ⟨some 17, none, .bin .sub (.tmp 16) (.const (.int .i64 1))⟩,
          ⟨some 3, none, .mv (.tmp 17)⟩])))))
  (.seq (.ops [⟨some 18, none, .mv (.tmp 0)⟩,
    ⟨some 19, none, .mv (.tmp 3)⟩,
    ⟨some 20, none, .slc 1 (.tmp 18) none (some (.tmp 19)) none⟩,
    ⟨some 2, none, .mv (.tmp 20)⟩])
  .ret))))⟩
theorem h76 : strF Tryd.prog [] Tryd.f76 = some c76 := by kernel_rfl
/-- chirograph/digest.New -/
def c77 : Fun := ⟨34, [.inl 2, .inl 3],
  (.seq (.ops [⟨some 2, none, .mv (.const (.pointer none))⟩,
    ⟨some 3, none, .mv (.const (.int .i64 0))⟩])
  (.seq (.ops [⟨some 5, none, .mv (.tmp 0)⟩,
    ⟨some 6, none, .bld #[(.int .i64 0), (.int .u32 0), (.int .u32 0), (.int .u32 0), (.int .u32 0), (.int .u32 0), (.int .u32 0), (.int .u32 0), (.int .u32 0), (.int .u64 0), (.int .u64 0), (.int .u64 0), (.int .u64 0), (.int .u64 0), (.int .u64 0), (.int .u64 0), (.int .u64 0), (.slice none 0 0), (.int .i64 0)] [(0, 1), (1, 8), (9, 8), (17, 1), (18, 1)] [(0, (.tmp 5))]⟩,
    ⟨some 7, none, .box 137 (.tmp 6)⟩,
    ⟨some 4, none, .mv (.tmp 7)⟩])
  (.join (.seq (.ops [⟨some 8, none, .mv (.tmp 0)⟩])
  (.block 0
    (.seq (.ops [⟨some 10, none, .bin .eql (.tmp 8) (.const (.int .i64 1))⟩,
      ⟨some 9, none, .mv (.tmp 10)⟩])
    (.cond (.tmp 9)
      (.ops [⟨some 11, none, .mv (.tmp 4)⟩,
        ⟨some 12, none, .bld (Array.replicate 8 (.int .u32 0)) [(0, 1), (1, 1), (2, 1), (3, 1), (4, 1), (5, 1), (6, 1), (7, 1)] [(0, (.const (.int .u32 1732584193))), (1, (.const (.int .u32 4023233417))), (2, (.const (.int .u32 2562383102))), (3, (.const (.int .u32 271733878))), (4, (.const (.int .u32 3285377520)))]⟩,
        ⟨some 13, none, .nilc (.tmp 11)⟩,
        ⟨some 14, none, .fa 1 (.tmp 13)⟩,
        ⟨none, none, .st 8 (.tmp 14) (.tmp 12)⟩])
      (.seq (.ops [⟨some 16, none, .bin .eql (.tmp 8) (.const (.int .i64 2))⟩,
        ⟨some 15, none, .mv (.tmp 16)⟩])
      (.cond (.tmp 15)
        (.ops [⟨some 17, none, .mv (.tmp 4)⟩,
          ⟨some 18, none, .bld (Array.replicate 8 (.int .u32 0)) [(0, 1), (1, 1), (2, 1), (3, 1), (4, 1), (5, 1), (6, 1), (7, 1)] [(0, (.const (.int .u32 1779033703))), (1, (.const (.int .u32 3144134277))), (2, (.const (.int .u32 1013904242))), (3, (.const (.int .u32 2773480762))), (4, (.const (.int .u32 1359893119))), (5, (.const (.int .u32 2600822924))), (6, (.const (.int .u32 528734635))), (7, (.const (.int .u32 1541459225)))]⟩,
          ⟨some 19, none, .nilc (.tmp 17)⟩,
          ⟨some 20, none, .fa 1 (.tmp 19)⟩,
          ⟨none, none, .st 8 (.tmp 20) (.tmp 18)⟩])
        (.seq (.ops [⟨some 22, none, .bin .eql (.tmp 8) (.const (.int .i64 3))⟩,
          ⟨some 21, none, .mv (.tmp 22)⟩])
        (.cond (.tmp 21)
          (.ops [⟨some 23, none, .mv (.tmp 4)⟩,
            ⟨some 24, none, .bld (Array.replicate 8 (.int .u64 0)) [(0, 1), (1, 1), (2, 1), (3, 1), (4, 1), (5, 1), (6, 1), (7, 1)] [(0, (.const (.int .u64 14680500436340154072))), (1, (.const (.int .u64 7105036623409894663))), (2, (.const (.int .u64 10473403895298186519))), (3, (.const (.int .u64 1526699215303891257))), (4, (.const (.int .u64 7436329637833083697))), (5, (.const (.int .u64 10282925794625328401))), (6, (.const (.int .u64 15784041429090275239))), (7, (.const (.int .u64 5167115440072839076)))]⟩,
            ⟨some 25, none, .nilc (.tmp 23)⟩,
            ⟨some 26, none, .fa 9 (.tmp 25)⟩,
            ⟨none, none, .st 8 (.tmp 26) (.tmp 24)⟩])
          (.seq (.ops [⟨some 28, none, .bin .eql (.tmp 8) (.const (.int .i64 4))⟩,
            ⟨some 27, none, .mv (.tmp 28)⟩])
          (.cond (.tmp 27)
            (.ops [⟨some 29, none, .mv (.tmp 4)⟩,
              ⟨some 30, none, .bld (Array.replicate 8 (.int .u64 0)) [(0, 1), (1, 1), (2, 1), (3, 1), (4, 1), (5, 1), (6, 1), (7, 1)] [(0, (.const (.int .u64 7640891576956012808))), (1, (.const (.int .u64 13503953896175478587))), (2, (.const (.int .u64 4354685564936845355))), (3, (.const (.int .u64 11912009170470909681))), (4, (.const (.int .u64 5840696475078001361))), (5, (.const (.int .u64 11170449401992604703))), (6, (.const (.int .u64 2270897969802886507))), (7, (.const (.int .u64 6620516959819538809)))]⟩,
              ⟨some 31, none, .nilc (.tmp 29)⟩,
              ⟨some 32, none, .fa 9 (.tmp 31)⟩,
              ⟨none, none, .st 8 (.tmp 32) (.tmp 30)⟩])
            (.seq (.ops [⟨some 2, none, .mv (.const (.pointer none))⟩,
              ⟨some 3, none, .mv (.const (.int .i64 1))⟩])
            .ret)))))))))))
  (.seq (.ops [⟨some 33, none, .mv (.tmp 4)⟩,
    ⟨some 2, none, .mv (.tmp 33)⟩,
    ⟨some 3, none, .mv (.const (.int .i64 0))⟩])
  .ret))))⟩
theorem h77 : strF Tryd.prog [] Tryd.f77 = some c77 := by kernel_rfl
/-- (*chirograph/digest.Hash).Write -/
def c78 : Fun := ⟨99, [.inl 4],
  (.seq (.ops [⟨some 4, none, .mv (.const (.int .i64 0))⟩])
  (.seq (.seq (.ops [⟨some 7, none, .mv (.tmp 0)⟩,
    ⟨some 8, none, .eq .pointer false (.tmp 7) (.const (.pointer none))⟩])
  (.cond (.tmp 8)
    (.seq (.ops [⟨some 4, none, .mv (.const (.int .i64 7))⟩])
    .ret)
    .skip))
  (.seq (.seq (.ops [⟨some 9, none, .mv (.tmp 1)⟩,
    ⟨some 10, none, .len (.tmp 9)⟩,
    ⟨some 11, none, .mv (.tmp 0)⟩,
    ⟨some 12, none, .nilc (.tmp 11)⟩,
    ⟨some 13, none, .fa 18 (.tmp 12)⟩,
    ⟨some 14, none, .ld (.int .i64) (.tmp 13)⟩,
    ⟨some 15, none, .bin .sub (.const (.int .i64 16777216)) (.tmp 14)⟩,
    ⟨some 16, none, .bin .gtr (.tmp 10) (.tmp 15)⟩])
  (.cond (.tmp 16)
    (.seq (.ops [⟨some 4, none, .mv (.const (.int .i64 3))⟩])
    .ret)
    .skip))
  (.seq (.ops [⟨some 17, none, .mv (.tmp 0)⟩,
    ⟨some 18, none, .nilc (.tmp 17)⟩,
    ⟨some 19, none, .fa 18 (.tmp 18)⟩,
    ⟨some 20, none, .ld (.int .i64) (.tmp 19)⟩,
    ⟨some 21, none, .mv (.tmp 1)⟩,
    ⟨some 22, none, .len (.tmp 21)⟩,
    ⟨some 23, none, .bin .add (.tmp 20) (.tmp 22)⟩,
    ⟨some 24, none, .nilc (.tmp 17)⟩,
    ⟨some 25, none, .fa 18 (.tmp 24)⟩,
    ⟨none, none, .st 1 (.tmp 25) (.tmp 23)⟩])
  (.seq (.ops [⟨some 26, none, .mv (.tmp 0)⟩,
    ⟨some 27, none, .nilc (.tmp 26)⟩,
    ⟨some 28, none, .fa 0 (.tmp 27)⟩,
    ⟨some 29, none, .ld (.int .i64) (.tmp 28)⟩,
    ⟨some 30, none, .call 101 [(.tmp 29)]⟩,
    ⟨some 5, none, .mv (.tmp 30)⟩])
  (.join (.seq (.ops [⟨some 31, none, .mv (.tmp 0)⟩,
    ⟨some 32, none, .nilc (.tmp 31)⟩,
    ⟨some 33, none, .fa 17 (.tmp 32)⟩,
    ⟨some 34, none, .ld .slice (.tmp 33)⟩,
    ⟨some 35, none, .len (.tmp 34)⟩,
    ⟨some 36, none, .bin .gtr (.tmp 35) (.const (.int .i64 0))⟩])
  (.cond (.tmp 36)
    (.seq (.ops [⟨some 37, none, .mv (.tmp 1)⟩,
      ⟨some 38, none, .len (.tmp 37)⟩,
      ⟨some 39, none, .mv (.tmp 5)⟩,
      ⟨some 40, none, .mv (.tmp 0)⟩,
      ⟨some 41, none, .nilc (.tmp 40)⟩,
      ⟨some 42, none, .fa 17 (.tmp 41)⟩,
      ⟨some 43, none, .ld .slice (.tmp 42)⟩,
      ⟨some 44, none, .len (.tmp 43)⟩,
      ⟨some 45, none, .bin .sub (.tmp 39) (.tmp 44)⟩,
      ⟨some 46, none, .min2 (.tmp 38) (.tmp 45)⟩,
      ⟨some 6, none, .mv (.tmp 46)⟩])
    (.seq (.drawS [(0, 0), (0, 1), (0, 2), (0, 3), (0, 5), (0, 6), (0, 7), (1, 4), (2, 8), (0, 9), (0, 10), (2, 11)]
      [⟨some 47, none, .mv (.tmp 0)⟩,
      ⟨some 48, none, .mv (.tmp 0)⟩,
      ⟨some 49, none, .nilc (.tmp 48)⟩,
      ⟨some 50, none, .fa 17 (.tmp 49)⟩,
      ⟨some 51, none, .ld .slice (.tmp 50)⟩,
      ⟨some 52, none, .mv (.tmp 1)⟩,
      ⟨some 53, none, .mv (.tmp 6)⟩,
      ⟨some 54, none, .slc 1 (.tmp 52) none (some (.tmp 53)) none⟩,
      ⟨some 55, none, .app 5 1 1 #[(.int .u8 0)] (.tmp 51) (.tmp 54)⟩,
      ⟨some 56, none, .nilc (.tmp 47)⟩,
      ⟨some 57, none, .fa 17 (.tmp 56)⟩,
      ⟨none, none, .st 1 (.tmp 57) (.tmp 55)⟩])
    (.seq (.ops [⟨some 58, none, .mv (.tmp 1)⟩,
      ⟨some 59, none, .mv (.tmp 6)⟩,
      ⟨some 60, none, .slc 1 (.tmp 58) (some (.tmp 59)) none none⟩,
      ⟨some 1, none, .mv (.tmp 60)⟩])
    (.seq (.seq (.ops [⟨some 61, none, .mv (.tmp 0)⟩,
      ⟨some 62, none, .nilc (.tmp 61)⟩,
      ⟨some 63, none, .fa 17 (.tmp 62)⟩,
      ⟨some 64, none, .ld .slice (.tmp 63)⟩,
      ⟨some 65, none, .len (.tmp 64)⟩,
      ⟨some 66, none, .mv (.tmp 5)⟩,
      ⟨some 67, none, .bin .lss (.tmp 65) (.tmp 66)⟩])
    (.cond (.tmp 67)
      (.seq (.ops [⟨some 4, none, .mv (.const (.int .i64 0))⟩])
      .ret)
      .skip))
    (.seq (.ops [⟨some 68, none, .mv (.tmp 0)⟩,
      ⟨some 69, none, .mv (.tmp 0)⟩,
      ⟨some 70, none, .nilc (.tmp 69)⟩,
      ⟨some 71, none, .fa 17 (.tmp 70)⟩,
      ⟨some 72, none, .ld .slice (.tmp 71)⟩,
      ⟨some 73, none, .call 102 [(.tmp 68), (.tmp 72)]⟩])
    (.ops [⟨some 74, none, .mv (.tmp 0)⟩,
      ⟨some 75, none, .nilc (.tmp 74)⟩,
      ⟨some 76, none, .fa 17 (.tmp 75)⟩,
      ⟨none, none, .st 1 (.tmp 76) (.const (.slice none 0 0))⟩]))))))
    .skip))
  (.seq (.block 0
    (.loop
      (.seq (.seq (.ops [⟨some 77, none, .mv (.tmp 1)⟩,
        ⟨some 78, none, .len (.tmp 77)⟩,
        ⟨some 79, none, .mv (.tmp 5)⟩,
        ⟨some 80, none, .bin .geq (.tmp 78) (.tmp 79)⟩])
      (.cond (.tmp 80)
        .skip
        (.exit 0)))
      (.block 1
        (.seq (.ops [⟨some 81, none, .mv (.tmp 0)⟩,
          ⟨some 82, none, .mv (.tmp 1)⟩,
          ⟨some 83, none, .mv (.tmp 5)⟩,
          ⟨some 84, none, .slc 1 (.tmp 82) none (some (.tmp 83)) none⟩,
          ⟨some 85, none, .call 102 [(.tmp 81), (.tmp 84)]⟩])
        (.ops [⟨some 86, none, .mv (.tmp 1)⟩,
          ⟨some 87, none, .mv (.tmp 5)⟩,
          ⟨some 88, none, .slc 1 (.tmp 86) (some (.tmp 87)) none none⟩,
          ⟨some 1, none, .mv (.tmp 88)⟩]))))))
  (.join (.seq (.ops [⟨some 89, none, .mv (.tmp 1)⟩,
    ⟨some 90, none, .len (.tmp 89)⟩,
    ⟨some 91, none, .bin .gtr (.tmp 90) (.const (.int .i64 0))⟩])
  (.cond (.tmp 91)
    (.ops [⟨some 92, none, .mv (.tmp 0)⟩,
      ⟨some 93, none, .mv (.tmp 5)⟩,
      ⟨some 94, none, .mks 5 1 1 #[(.int .u8 0)] (.const (.int .i64 0)) (.tmp 93)⟩,
      ⟨some 95, none, .mv (.tmp 1)⟩,
      ⟨some 96, none, .app 5 1 1 #[(.int .u8 0)] (.tmp 94) (.tmp 95)⟩,
      ⟨some 97, none, .nilc (.tmp 92)⟩,
      ⟨some 98, none, .fa 17 (.tmp 97)⟩,
      ⟨none, none, .st 1 (.tmp 98) (.tmp 96)⟩])
    .skip))
  (.seq (.ops [⟨some 4, none, .mv (.const (.int .i64 0))⟩])
  .ret)))))))))⟩
theorem h78 : strF Tryd.prog [(9, .inl [(0, 0), (0, 1), (0, 2), (0, 3), (0, 5), (0, 6), (0, 7), (1, 4), (2, 8), (0, 9), (0, 10), (2, 11)])] Tryd.f78 = some c78 := by kernel_rfl
/-- (*chirograph/digest.Hash).Sum -/
def c79 : Fun := ⟨150, [.inl 2],
  (.seq (.ops [⟨some 2, none, .mv (.const (.slice none 0 0))⟩])
  (.seq (.seq (.ops [⟨some 11, none, .mv (.tmp 0)⟩,
    ⟨some 12, none, .eq .pointer false (.tmp 11) (.const (.pointer none))⟩,
    ⟨some 13, none, .mv (.tmp 12)⟩,
    ⟨some 14, some (13, false), .mv (.tmp 0)⟩,
    ⟨some 15, some (13, false), .nilc (.tmp 14)⟩,
    ⟨some 16, some (13, false), .fa 0 (.tmp 15)⟩,
    ⟨some 17, some (13, false), .ld (.int .i64) (.tmp 16)⟩,
    ⟨some 18, some (13, false), .call 27 [(.tmp 17)]⟩,
    ⟨some 19, some (13, false), .bin .eql (.tmp 18) (.const (.int .i64 0))⟩,
    ⟨some 20, none, .pick (.tmp 13) (.const (.bool true)) (.tmp 19)⟩])
  (.cond (.tmp 20)
    (.seq (.ops [⟨some 2, none, .mv (.const (.slice none 0 0))⟩])
    .ret)
    .skip))
  (.seq (.ops [⟨some 21, none, .mv (.tmp 0)⟩,
    ⟨some 22, none, .nilc (.tmp 21)⟩,
    ⟨some 23, none, .ld (.agg 19) (.tmp 22)⟩,
    ⟨some 3, none, .alloc 137 (.agg #[(.int .i64 0), (.int .u32 0), (.int .u32 0), (.int .u32 0), (.int .u32 0), (.int .u32 0), (.int .u32 0), (.int .u32 0), (.int .u32 0), (.int .u64 0), (.int .u64 0), (.int .u64 0), (.int .u64 0), (.int .u64 0), (.int .u64 0), (.int .u64 0), (.int .u64 0), (.slice none 0 0), (.int .i64 0)])⟩,
    ⟨none, none, .st 19 (.tmp 3) (.tmp 23)⟩])
  (.seq (.ops [⟨some 24, none, .mv (.tmp 0)⟩,
    ⟨some 25, none, .nilc (.tmp 24)⟩,
    ⟨some 26, none, .fa 0 (.tmp 25)⟩,
    ⟨some 27, none, .ld (.int .i64) (.tmp 26)⟩,
    ⟨some 28, none, .call 101 [(.tmp 27)]⟩,
    ⟨some 4, none, .mv (.tmp 28)⟩])
  (.seq (.ops [⟨some 29, none, .mv (.tmp 0)⟩,
    ⟨some 30, none, .nilc (.tmp 29)⟩,
    ⟨some 31, none, .fa 17 (.tmp 30)⟩,
    ⟨some 32, none, .ld .slice (.tmp 31)⟩,
    ⟨some 33, none, .app 5 1 1 #[(.int .u8 0)] (.const (.slice none 0 0)) (.tmp 32)⟩,
    ⟨some 34, none, .bsl 5 1 1 #[(.int .u8 0)] [(0, (.const (.int .u8 128)))]⟩,
    ⟨some 35, none, .app 5 1 1 #[(.int .u8 0)] (.tmp 33) (.tmp 34)⟩,
    ⟨some 5, none, .mv (.tmp 35)⟩])
  (.seq (.block 0
    (.loop
      (.seq (.seq (.ops [⟨some 36, none, .mv (.tmp 5)⟩,
        ⟨some 37, none, .len (.tmp 36)⟩,
        ⟨some 38, none, .mv (.tmp 4)⟩,
        ⟨some 39, none, .bin .rem (.tmp 37) (.tmp 38)⟩,
        ⟨some 40, none, .mv (.tmp 4)⟩,
        ⟨some 41, none, .bin .sub (.tmp 40) (.const (.int .i64 8))⟩,
        ⟨some 42, none, .bin .neq (.tmp 39) (.tmp 41)⟩])
      (.cond (.tmp 42)
        .skip
        (.exit 0)))
      (.block 1
        (.ops [⟨some 43, none, .mv (.tmp 5)⟩,
          ⟨some 44, none, .bsl 5 1 1 #[(.int .u8 0)] [(0, (.const (.int .u8 0)))]⟩,
          ⟨some 45, none, .app 5 1 1 #[(.int .u8 0)] (.tmp 43) (.tmp 44)⟩,
          ⟨some 5, none, .mv (.tmp 45)⟩])))))
  (.join (.seq (.ops [⟨some 46, none, .mv (.tmp 4)⟩,
    ⟨some 47, none, .bin .eql (.tmp 46) (.const (.int .i64 128))⟩,
    ⟨some 48, none, .mv (.tmp 47)⟩,
    ⟨some 49, some (48, true), .mv (.tmp 0)⟩,
    ⟨some 50, some (48, true), .nilc (.tmp 49)⟩,
    ⟨some 51, some (48, true), .fa 17 (.tmp 50)⟩,
    ⟨some 52, some (48, true), .ld .slice (.tmp 51)⟩,
    ⟨some 53, some (48, true), .len (.tmp 52)⟩,
    ⟨some 54, some (48, true), .bin .geq (.tmp 53) (.const (.int .i64 112))⟩,
    ⟨some 55, none, .pick (.tmp 48) (.tmp 54) (.const (.bool false))⟩,
    ⟨some 56, none, .mv (.tmp 55)⟩,
    ⟨some 57, some (56, true), .mv (.tmp 5)⟩,
    ⟨some 58, some (56, true), .len (.tmp 57)⟩,
    ⟨some 59, some (56, true), .bin .eql (.tmp 58) (.const (.int .i64 120))⟩,
    ⟨some 60, none, .pick (.tmp 56) (.tmp 59) (.const (.bool false))⟩])
  (.cond (.tmp 60)
    (.ops [⟨some 61, none, .mv (.tmp 5)⟩,
      ⟨some 62, none, .appz 5 1 1 #[(.int .u8 0)] (.tmp 61) (.const (.int .i64 128))⟩,
      ⟨some 5, none, .mv (.tmp 62)⟩])
    .skip))
  (.seq (.seq (.ops [⟨some 63, none, .mv (.const (.int .i64 0))⟩])
  (.block 2
    (.loop
      (.seq (.ops [⟨some 64, none, .bin .lss (.tmp 63) (.const (.int .i64 8))⟩])
      (.seq (.cond (.tmp 64)
        .skip
        (.exit 2))
      (.seq (.block 3
        (.seq (.ops [⟨some 65, none, .mv (.tmp 63)⟩,
          ⟨some 6, none, .mv (.tmp 65)⟩])
        (.ops [⟨some 66, none, .mv (.tmp 5)⟩,
          ⟨some 67, none, .mv (.tmp 0)⟩,
          ⟨some 68, none, .nilc (.tmp 67)⟩,
          ⟨some 69, none, .fa 18 (.tmp 68)⟩,
          ⟨some 70, none, .ld (.int .i64) (.tmp 69)⟩,
          ⟨some 71, none, .bin .mul (.const (.int .i64 8)) (.tmp 70)⟩,
          ⟨some 72, none, .cv .u64 (.tmp 71)⟩,
          ⟨some 73, none, .mv (.tmp 6)⟩,
          ⟨some 74, none, .bin .mul (.const (.int .i64 8)) (.tmp 73)⟩,
          ⟨some 75, none, .bin .sub (.const (.int .i64 56)) (.tmp 74)⟩,
          ⟨some 76, none, .bin .shr (.tmp 72) (.tmp 75)⟩,
          ⟨some 77, none, .cv .u8 (.tmp 76)⟩,
          ⟨some 78, none, .bsl 5 1 1 #[(.int .u8 0)] [(0, (.tmp 77))]⟩,
          ⟨some 79, none, .app 5 1 1 #[(.int .u8 0)] (.tmp 66) (.tmp 78)⟩,
          ⟨some 5, none, .mv (.tmp 79)⟩])))
      (.ops [⟨some 80, none, .bin .add (.tmp 63) (.const (.int .i64 1))⟩,
        ⟨some 63, none, .mv (.tmp 80)⟩])))))))
  (.seq (.seq (.ops [⟨some 7, none, .mv (.const (.int .i64 0))⟩])
  (.block 4
    (.loop
      (.seq (.seq (.ops [⟨some 81, none, .mv (.tmp 7)⟩,
        ⟨some 82, none, .mv (.tmp 5)⟩,
        ⟨some 83, none, .len (.tmp 82)⟩,
        ⟨some 84, none, .bin .lss (.tmp 81) (.tmp 83)⟩])
      (.cond (.tmp 84)
        .skip
        (.exit 4)))
      (.seq (.block 5
        (.ops [⟨some 88, none, .mv (.tmp 5)⟩,
          ⟨some 89, none, .mv (.tmp 7)⟩,
          ⟨some 90, none, .mv (.tmp 7)⟩,
          ⟨some 91, none, .mv (.tmp 4)⟩,
          ⟨some 92, none, .bin .add (.tmp 90) (.tmp 91)⟩,
          ⟨some 93, none, .slc 1 (.tmp 88) (some (.tmp 89)) (some (.tmp 92)) none⟩,
          ⟨some 94, none, .call 102 [(.tmp 3), (.tmp 93)]⟩]))
      (.ops [⟨some 85, none, .mv (.tmp 7)⟩,
        ⟨some 86, none, .mv (.tmp 4)⟩,
        ⟨some 87, none, .bin .add (.tmp 85) (.tmp 86)⟩,
        ⟨some 7, none, .mv (.tmp 87)⟩]))))))
  (.seq (.ops [⟨some 8, none, .mv (.const (.slice none 0 0))⟩])
  (.seq (.seq (.ops [⟨some 95, none, .mv (.const (.int .i64 0))⟩])
  (.block 6
    (.loop
      (.seq (.ops [⟨some 96, none, .bin .lss (.tmp 95) (.const (.int .i64 8))⟩])
      (.seq (.cond (.tmp 96)
        .skip
        (.exit 6))
      (.join (.block 7
        (.seq (.ops [⟨some 97, none, .mv (.tmp 95)⟩,
          ⟨some 9, none, .mv (.tmp 97)⟩])
        (.seq (.seq (.ops [⟨some 98, none, .mv (.tmp 4)⟩,
          ⟨some 99, none, .bin .eql (.tmp 98) (.const (.int .i64 64))⟩])
        (.cond (.tmp 99)
          (.seq (.drawS [(0, 0), (0, 1), (0, 2), (0, 3), (0, 7), (0, 8), (0, 9), (0, 13), (0, 14), (0, 15), (0, 19), (0, 20), (0, 21), (1, 4), (0, 5), (0, 6), (1, 10), (0, 11), (0, 12), (1, 16), (0, 17), (0, 18), (1, 22), (0, 23), (2, 24), (2, 25), (0, 26)]
            [⟨some 100, none, .mv (.tmp 8)⟩,
            ⟨some 101, none, .mv (.tmp 9)⟩,
            ⟨some 102, none, .fa 1 (.tmp 3)⟩,
            ⟨some 103, none, .iaA 8 1 (.tmp 102) (.tmp 101)⟩,
            ⟨some 104, none, .ld (.int .u32) (.tmp 103)⟩,
            ⟨some 105, none, .bin .shr (.tmp 104) (.const (.int .u64 24))⟩,
            ⟨some 106, none, .cv .u8 (.tmp 105)⟩,
            ⟨some 107, none, .mv (.tmp 9)⟩,
            ⟨some 108, none, .fa 1 (.tmp 3)⟩,
            ⟨some 109, none, .iaA 8 1 (.tmp 108) (.tmp 107)⟩,
            ⟨some 110, none, .ld (.int .u32) (.tmp 109)⟩,
            ⟨some 111, none, .bin .shr (.tmp 110) (.const (.int .u64 16))⟩,
            ⟨some 112, none, .cv .u8 (.tmp 111)⟩,
            ⟨some 113, none, .mv (.tmp 9)⟩,
            ⟨some 114, none, .fa 1 (.tmp 3)⟩,
            ⟨some 115, none, .iaA 8 1 (.tmp 114) (.tmp 113)⟩,
            ⟨some 116, none, .ld (.int .u32) (.tmp 115)⟩,
            ⟨some 117, none, .bin .shr (.tmp 116) (.const (.int .u64 8))⟩,
            ⟨some 118, none, .cv .u8 (.tmp 117)⟩,
            ⟨some 119, none, .mv (.tmp 9)⟩,
            ⟨some 120, none, .fa 1 (.tmp 3)⟩,
            ⟨some 121, none, .iaA 8 1 (.tmp 120) (.tmp 119)⟩,
            ⟨some 122, none, .ld (.int .u32) (.tmp 121)⟩,
            ⟨some 123, none, .cv .u8 (.tmp 122)⟩,
            ⟨some 124, none, .bsl 5 1 4 #[(.int .u8 0)] [(0, (.tmp 106)), (1, (.tmp 112)), (2, (.tmp 118)), (3, (.tmp 123))]⟩,
            ⟨some 125, none, .app 5 1 1 #[(.int .u8 0)] (.tmp 100) (.tmp 124)⟩,
            ⟨some 8, none, .mv (.tmp 125)⟩])
          (.exit 7))
          .skip))
        (.seq (.ops [⟨some 126, none, .mv (.const (.int .i64 0))⟩])
        (.block 8
          (.loop
            (.seq (.ops [⟨some 127, none, .bin .lss (.tmp 126) (.const (.int .i64 8))⟩])
            (.seq (.cond (.tmp 127)
              .skip
              (.exit 8))
            (.seq (.block 9
              (.seq (.ops [⟨some 128, none, .mv (.tmp 126)⟩,
                ⟨some 10, none, .mv (.tmp 128)⟩])
              (.ops [⟨some 129, none, .mv (.tmp 8)⟩,
                ⟨some 130, none, .mv (.tmp 9)⟩,
                ⟨some 131, none, .fa 9 (.tmp 3)⟩,
                ⟨some 132, none, .iaA 8 1 (.tmp 131) (.tmp 130)⟩,
                ⟨some 133, none, .ld (.int .u64) (.tmp 132)⟩,
                ⟨some 134, none, .mv (.tmp 10)⟩,
                ⟨some 135, none, .bin .mul (.const (.int .i64 8)) (.tmp 134)⟩,
                ⟨some 136, none, .bin .sub (.const (.int .i64 56)) (.tmp 135)⟩,
                ⟨some 137, none, .bin .shr (.tmp 133) (.tmp 136)⟩,
                ⟨some 138, none, .cv .u8 (.tmp 137)⟩,
                ⟨some 139, none, .bsl 5 1 1 #[(.int .u8 0)] [(0, (.tmp 138))]⟩,
                ⟨some 140, none, .app 5 1 1 #[(.int .u8 0)] (.tmp 129) (.tmp 139)⟩,
                ⟨some 8, none, .mv (.tmp 140)⟩])))
            (.ops [⟨some 141, none, .bin .add (.tmp 126) (.const (.int .i64 1))⟩,
              ⟨some 126, none, .mv (.tmp 141)⟩]))))))))))
      (.ops [⟨some 142, none, .bin .add (.tmp 95) (.const (.int .i64 1))⟩,
        ⟨some 95, none, .mv (.tmp 142)⟩])))))))
  (.seq (.ops [⟨some 143, none, .mv (.tmp 8)⟩,
    ⟨some 144, none, .mv (.tmp 0)⟩,
    ⟨some 145, none, .nilc (.tmp 144)⟩,
    ⟨some 146, none, .fa 0 (.tmp 145)⟩,
    ⟨some 147, none, .ld (.int .i64) (.tmp 146)⟩,
    ⟨some 148, none, .call 27 [(.tmp 147)]⟩,
    ⟨some 149, none, .slc 1 (.tmp 143) none (some (.tmp 148)) none⟩,
    ⟨some 2, none, .mv (.tmp 149)⟩])
  .ret))))))))))))⟩
theorem h79 : strF Tryd.prog [(24, .inl [(0, 0), (0, 1), (0, 2), (0, 3), (0, 7), (0, 8), (0, 9), (0, 13), (0, 14), (0, 15), (0, 19), (0, 20), (0, 21), (1, 4), (0, 5), (0, 6), (1, 10), (0, 11), (0, 12), (1, 16), (0, 17), (0, 18), (1, 22), (0, 23), (2, 24), (2, 25), (0, 26)])] Tryd.f79 = some c79 := by kernel_rfl
/-- chirograph/der.arcs -/
def c85 : Fun := ⟨73, [.inl 2, .inl 3],
  (.seq (.ops [⟨some 2, none, .mv (.const (.slice none 0 0))⟩,
    ⟨some 3, none, .mv (.const (.bool false))⟩])
  (.seq (.ops [⟨some 4, none, .mv (.const (.slice none 0 0))⟩])
  (.seq (.ops [⟨some 5, none, .mv (.const (.int .u64 0))⟩,
    ⟨some 6, none, .mv (.const (.int .i64 0))⟩])
  (.seq (.seq (.ops [⟨some 9, none, .mv (.tmp 0)⟩,
    ⟨some 10, none, .bin .add (.tmp 9) (.const (.string ⟨#[46]⟩))⟩,
    ⟨some 11, none, .rgs (.tmp 10)⟩])
  (.block 0
    (.loop
      (.seq (.ops [⟨some 12, none, .nxs (.tmp 11)⟩,
        ⟨some 13, none, .ext (.tmp 12) 0⟩])
      (.seq (.cond (.tmp 13)
        .skip
        (.exit 0))
      (.block 1
        (.seq (.ops [⟨some 14, none, .ext (.tmp 12) 2⟩,
          ⟨some 8, none, .mv (.tmp 14)⟩])
        (.block 2
          (.seq (.ops [⟨some 26, none, .mv (.tmp 8)⟩,
            ⟨some 27, none, .bin .eql (.tmp 26) (.const (.int .i32 46))⟩,
            ⟨some 28, none, .mv (.tmp 27)⟩,
            ⟨some 29, some (28, true), .mv (.tmp 6)⟩,
            ⟨some 30, some (28, true), .bin .gtr (.tmp 29) (.const (.int .i64 0))⟩,
            ⟨some 31, none, .pick (.tmp 28) (.tmp 30) (.const (.bool false))⟩,
            ⟨some 25, none, .mv (.tmp 31)⟩])
          (.cond (.tmp 25)
            (.seq (.ops [⟨some 32, none, .mv (.tmp 4)⟩,
              ⟨some 33, none, .mv (.tmp 5)⟩,
              ⟨some 34, none, .bsl 71 1 1 #[(.int .u64 0)] [(0, (.tmp 33))]⟩,
              ⟨some 35, none, .app 71 1 8 #[(.int .u64 0)] (.tmp 32) (.tmp 34)⟩,
              ⟨some 4, none, .mv (.tmp 35)⟩])
            (.ops [⟨some 5, none, .mv (.const (.int .u64 0))⟩,
              ⟨some 6, none, .mv (.const (.int .i64 0))⟩]))
            (.seq (.ops [⟨some 37, none, .mv (.tmp 8)⟩,
              ⟨some 38, none, .bin .lss (.tmp 37) (.const (.int .i32 48))⟩,
              ⟨some 39, none, .mv (.tmp 38)⟩,
              ⟨some 40, some (39, false), .mv (.tmp 8)⟩,
              ⟨some 41, some (39, false), .bin .gtr (.tmp 40) (.const (.int .i32 57))⟩,
              ⟨some 42, none, .pick (.tmp 39) (.const (.bool true)) (.tmp 41)⟩,
              ⟨some 43, none, .mv (.tmp 42)⟩,
              ⟨some 44, some (43, false), .mv (.tmp 6)⟩,
              ⟨some 45, some (43, false), .bin .eql (.tmp 44) (.const (.int .i64 1))⟩,
              ⟨some 46, some (43, false), .mv (.tmp 45)⟩,
              ⟨some 47, some (46, true), .mv (.tmp 5)⟩,
              ⟨some 48, some (46, true), .bin .eql (.tmp 47) (.const (.int .u64 0))⟩,
              ⟨some 49, some (43, false), .pick (.tmp 46) (.tmp 48) (.const (.bool false))⟩,
              ⟨some 50, none, .pick (.tmp 43) (.const (.bool true)) (.tmp 49)⟩,
              ⟨some 36, none, .mv (.tmp 50)⟩])
            (.cond (.tmp 36)
              (.seq (.ops [⟨some 2, none, .mv (.const (.slice none 0 0))⟩,
                ⟨some 3, none, .mv (.const (.bool false))⟩])
              .ret)
              (.seq (.ops [⟨some 15, none, .mv (.tmp 5)⟩,
                ⟨some 16, none, .bin .mul (.const (.int .u64 10)) (.tmp 15)⟩,
                ⟨some 17, none, .mv (.tmp 8)⟩,
                ⟨some 18, none, .bin .sub (.tmp 17) (.const (.int .i32 48))⟩,
                ⟨some 19, none, .cv .u64 (.tmp 18)⟩,
                ⟨some 20, none, .bin .add (.tmp 16) (.tmp 19)⟩,
                ⟨some 21, none, .min2 (.tmp 20) (.const (.int .u64 1099511627776))⟩,
                ⟨some 5, none, .mv (.tmp 21)⟩])
              (.ops [⟨some 22, none, .mv (.tmp 6)⟩,
                ⟨some 23, none, .bin .add (.tmp 22) (.const (.int .i64 1))⟩,
                ⟨some 24, none, .min2 (.tmp 23) (.const (.int .i64 20))⟩,
                ⟨some 6, none, .mv (.tmp 24)⟩]))))))))))))))
  (.seq (.seq (.ops [⟨some 51, none, .mv (.tmp 4)⟩,
    ⟨some 52, none, .len (.tmp 51)⟩,
    ⟨some 53, none, .bin .lss (.tmp 52) (.const (.int .i64 2))⟩,
    ⟨some 54, none, .mv (.tmp 53)⟩,
    ⟨some 55, some (54, false), .mv (.tmp 4)⟩,
    ⟨some 56, some (54, false), .ia 1 (.tmp 55) (.const (.int .i64 0))⟩,
    ⟨some 57, some (54, false), .ld (.int .u64) (.tmp 56)⟩,
    ⟨some 58, some (54, false), .bin .gtr (.tmp 57) (.const (.int .u64 2))⟩,
    ⟨some 59, none, .pick (.tmp 54) (.const (.bool true)) (.tmp 58)⟩,
    ⟨some 60, none, .mv (.tmp 59)⟩,
    ⟨some 61, some (60, false), .mv (.tmp 4)⟩,
    ⟨some 62, some (60, false), .ia 1 (.tmp 61) (.const (.int .i64 0))⟩,
    ⟨some 63, some (60, false), .ld (.int .u64) (.tmp 62)⟩,
    ⟨some 64, some (60, false), .bin .lss (.tmp 63) (.const (.int .u64 2))⟩,
    ⟨some 65, some (60, false), .mv (.tmp 64)⟩,
    ⟨some 66, some (65, true), .mv (.tmp 4)⟩,
    ⟨some 67, some (65, true), .ia 1 (.tmp 66) (.const (.int .i64 1))⟩,
    ⟨some 68, some (65, true), .ld (.int .u64) (.tmp 67)⟩,
    ⟨some 69, some (65, true), .bin .geq (.tmp 68) (.const (.int .u64 40))⟩,
    ⟨some 70, some (60, false), .pick (.tmp 65) (.tmp 69) (.const (.bool false))⟩,
    ⟨some 71, none, .pick (.tmp 60) (.const (.bool true)) (.tmp 70)⟩])
  (.cond (.tmp 71)
    (.seq (.ops [⟨some 2, none, .mv (.const (.slice none 0 0))⟩,
      ⟨some 3, none, .mv (.const (.bool false))⟩])
    .ret)
    .skip))
  (.seq (.ops [⟨some 72, none, .mv (.tmp 4)⟩,
    ⟨some 2, none, .mv (.tmp 72)⟩,
    ⟨some 3, none, .mv (.const (.bool true))⟩])
  .ret))))))⟩
theorem h85 : strF Tryd.prog [] Tryd.f85 = some c85 := by kernel_rfl
/-- chirograph/der.seven -/
def c86 : Fun := ⟨21, [.inl 2],
  (.seq (.ops [⟨some 2, none, .mv (.const (.slice none 0 0))⟩])
  (.seq (.ops [⟨some 4, none, .mv (.tmp 0)⟩,
    ⟨some 5, none, .bin .and (.tmp 4) (.const (.int .u64 127))⟩,
    ⟨some 6, none, .cv .u8 (.tmp 5)⟩,
    ⟨some 7, none, .bsl 5 1 1 #[(.int .u8 0)] [(0, (.tmp 6))]⟩,
    ⟨some 3, none, .mv (.tmp 7)⟩])
  (.seq (.seq (.ops [⟨some 8, none, .mv (.tmp 0)⟩,
    ⟨some 9, none, .bin .shr (.tmp 8) (.const (.int .u64 7))⟩,
    ⟨some 0, none, .mv (.tmp 9)⟩])
  (.block 0
    (.loop
      (.seq (.seq (.ops [⟨some 10, none, .mv (.tmp 0)⟩,
        ⟨some 11, none, .bin .gtr (.tmp 10) (.const (.int .u64 0))⟩])
      (.cond (.tmp 11)
        .skip
        (.exit 0)))
      (.seq (.block 1
        (.ops [⟨some 14, none, .mv (.tmp 0)⟩,
          ⟨some 15, none, .cv .u8 (.tmp 14)⟩,
          ⟨some 16, none, .bin .or (.tmp 15) (.const (.int .u8 128))⟩,
          ⟨some 17, none, .bsl 5 1 1 #[(.int .u8 0)] [(0, (.tmp 16))]⟩,
          ⟨some 18, none, .mv (.tmp 3)⟩,
          ⟨some 19, none, .app 5 1 1 #[(.int .u8 0)] (.tmp 17) (.tmp 18)⟩,
          ⟨some 3, none, .mv (.tmp 19)⟩]))
      (.ops [⟨some 12, none, .mv (.tmp 0)⟩,
        ⟨some 13, none, .bin .shr (.tmp 12) (.const (.int .u64 7))⟩,
        ⟨some 0, none, .mv (.tmp 13)⟩]))))))
  (.seq (.ops [⟨some 20, none, .mv (.tmp 3)⟩,
    ⟨some 2, none, .mv (.tmp 20)⟩])
  .ret))))⟩
theorem h86 : strF Tryd.prog [] Tryd.f86 = some c86 := by kernel_rfl
/-- bytes.TrimLeft -/
def c87 : Fun := ⟨36, [.inl 4],
  (.seq (.ops [⟨some 4, none, .mv (.const (.slice none 0 0))⟩])
  (.seq (.seq (.ops [⟨some 7, none, .mv (.tmp 0)⟩,
    ⟨some 8, none, .len (.tmp 7)⟩,
    ⟨some 9, none, .bin .eql (.tmp 8) (.const (.int .i64 0))⟩])
  (.cond (.tmp 9)
    (.seq (.ops [⟨some 4, none, .mv (.const (.slice none 0 0))⟩])
    .ret)
    .skip))
  (.seq (.seq (.ops [⟨some 10, none, .mv (.tmp 1)⟩,
    ⟨some 11, none, .bin .eql (.tmp 10) (.const (.string ⟨#[]⟩))⟩])
  (.cond (.tmp 11)
    (.seq (.ops [⟨some 12, none, .mv (.tmp 0)⟩,
      ⟨some 4, none, .mv (.tmp 12)⟩])
    .ret)
    .skip))
  (.seq (.seq (.ops [⟨some 13, none, .mv (.tmp 1)⟩,
    ⟨some 14, none, .lens (.tmp 13)⟩,
    ⟨some 15, none, .bin .eql (.tmp 14) (.const (.int .i64 1))⟩,
    ⟨some 16, none, .mv (.tmp 15)⟩,
    ⟨some 17, some (16, true), .mv (.tmp 1)⟩,
    ⟨some 18, some (16, true), .ixs (.tmp 17) (.const (.int .i64 0))⟩,
    ⟨some 19, some (16, true), .bin .lss (.tmp 18) (.const (.int .u8 128))⟩,
    ⟨some 20, none, .pick (.tmp 16) (.tmp 19) (.const (.bool false))⟩])
  (.cond (.tmp 20)
    (.seq (.ops [⟨some 21, none, .mv (.tmp 0)⟩,
      ⟨some 22, none, .mv (.tmp 1)⟩,
      ⟨some 23, none, .ixs (.tmp 22) (.const (.int .i64 0))⟩,
      ⟨some 24, none, .call 103 [(.tmp 21), (.tmp 23)]⟩,
      ⟨some 4, none, .mv (.tmp 24)⟩])
    .ret)
    .skip))
  (.seq (.seq (.ops [⟨some 26, none, .mv (.tmp 1)⟩,
    ⟨some 27, none, .call 104 [(.tmp 26)]⟩,
    ⟨some 25, none, .mv (.tmp 27)⟩,
    ⟨some 28, none, .ext (.tmp 25) 0⟩,
    ⟨some 29, none, .ext (.tmp 25) 1⟩,
    ⟨some 5, none, .alloc 141 (.agg (Array.replicate 256 (.bool false)))⟩,
    ⟨none, none, .st 256 (.tmp 5) (.tmp 28)⟩,
    ⟨some 6, none, .mv (.tmp 29)⟩])
  (.seq (.ops [⟨some 30, none, .mv (.tmp 6)⟩])
  (.cond (.tmp 30)
    (.seq (.ops [⟨some 31, none, .mv (.tmp 0)⟩,
      ⟨some 32, none, .call 105 [(.tmp 31), (.tmp 5)]⟩,
      ⟨some 4, none, .mv (.tmp 32)⟩])
    .ret)
    .skip)))
  (.seq (.ops [⟨some 33, none, .mv (.tmp 0)⟩,
    ⟨some 34, none, .mv (.tmp 1)⟩,
    ⟨some 35, none, .call 106 [(.tmp 33), (.tmp 34)]⟩,
    ⟨some 4, none, .mv (.tmp 35)⟩])
  .ret))))))⟩
theorem h87 : strF Tryd.prog [] Tryd.f87 = some c87 := by kernel_rfl
/-- math/bits.Mul64 -/
def c89 : Fun := ⟨51, [.inl 4, .inl 5],
  (.seq (.ops [⟨some 4, none, .mv (.const (.int .u64 0))⟩,
    ⟨some 5, none, .mv (.const (.int .u64 0))⟩])
  (.seq (.ops [⟨some 14, none, .mv (.tmp 0)⟩,
    ⟨some 15, none, .bin .and (.tmp 14) (.const (.int .u64 4294967295))⟩,
    ⟨some 6, none, .mv (.tmp 15)⟩])
  (.seq (.ops [⟨some 16, none, .mv (.tmp 0)⟩,
    ⟨some 17, none, .bin .shr (.tmp 16) (.const (.int .u64 32))⟩,
    ⟨some 7, none, .mv (.tmp 17)⟩])
  (.seq (.ops [⟨some 18, none, .mv (.tmp 1)⟩,
    ⟨some 19, none, .bin .and (.tmp 18) (.const (.int .u64 4294967295))⟩,
    ⟨some 8, none, .mv (.tmp 19)⟩])
  (.seq (.ops [⟨some 20, none, .mv (.tmp 1)⟩,
    ⟨some 21, none, .bin .shr (.tmp 20) (.const (.int .u64 32))⟩,
    ⟨some 9, none, .mv (.tmp 21)⟩])
  (.seq (.ops [⟨some 22, none, .mv (.tmp 6)⟩,
    ⟨some 23, none, .mv (.tmp 8)⟩,
    ⟨some 24, none, .bin .mul (.tmp 22) (.tmp 23)⟩,
    ⟨some 10, none, .mv (.tmp 24)⟩])
  (.seq (.ops [⟨some 25, none, .mv (.tmp 7)⟩,
    ⟨some 26, none, .mv (.tmp 8)⟩,
    ⟨some 27, none, .bin .mul (.tmp 25) (.tmp 26)⟩,
    ⟨some 28, none, .mv (.tmp 10)⟩,
    ⟨some 29, none, .bin .shr (.tmp 28) (.const (.int .u64 32))⟩,
    ⟨some 30, none, .bin .add (.tmp 27) (.tmp 29)⟩,
    ⟨some 11, none, .mv (.tmp 30)⟩])
  (.seq (.ops [⟨some 31, none, .mv (.tmp 11)⟩,
    ⟨some 32, none, .bin .and (.tmp 31) (.const (.int .u64 4294967295))⟩,
    ⟨some 12, none, .mv (.tmp 32)⟩])
  (.seq (.ops [⟨some 33, none, .mv (.tmp 11)⟩,
    ⟨some 34, none, .bin .shr (.tmp 33) (.const (.int .u64 32))⟩,
    ⟨some 13, none, .mv (.tmp 34)⟩])
  (.seq (.ops [⟨some 35, none, .mv (.tmp 12)⟩,
    ⟨some 36, none, .mv (.tmp 6)⟩,
    ⟨some 37, none, .mv (.tmp 9)⟩,
    ⟨some 38, none, .bin .mul (.tmp 36) (.tmp 37)⟩,
    ⟨some 39, none, .bin .add (.tmp 35) (.tmp 38)⟩,
    ⟨some 12, none, .mv (.tmp 39)⟩])
  (.seq (.ops [⟨some 40, none, .mv (.tmp 7)⟩,
    ⟨some 41, none, .mv (.tmp 9)⟩,
    ⟨some 42, none, .bin .mul (.tmp 40) (.tmp 41)⟩,
    ⟨some 43, none, .mv (.tmp 13)⟩,
    ⟨some 44, none, .bin .add (.tmp 42) (.tmp 43)⟩,
    ⟨some 45, none, .mv (.tmp 12)⟩,
    ⟨some 46, none, .bin .shr (.tmp 45) (.const (.int .u64 32))⟩,
    ⟨some 47, none, .bin .add (.tmp 44) (.tmp 46)⟩,
    ⟨some 4, none, .mv (.tmp 47)⟩])
  (.seq (.ops [⟨some 48, none, .mv (.tmp 0)⟩,
    ⟨some 49, none, .mv (.tmp 1)⟩,
    ⟨some 50, none, .bin .mul (.tmp 48) (.tmp 49)⟩,
    ⟨some 5, none, .mv (.tmp 50)⟩])
  .ret))))))))))))⟩
theorem h89 : strF Tryd.prog [] Tryd.f89 = some c89 := by kernel_rfl
/-- chirograph/digest.Block -/
def c101 : Fun := ⟨10, [.inl 2],
  (.seq (.ops [⟨some 2, none, .mv (.const (.int .i64 0))⟩])
  (.seq (.seq (.ops [⟨some 3, none, .mv (.tmp 0)⟩])
  (.block 0
    (.join (.seq (.ops [⟨some 5, none, .bin .eql (.tmp 3) (.const (.int .i64 1))⟩,
      ⟨some 4, none, .mv (.tmp 5)⟩])
    (.cond (.tmp 4)
      .skip
      (.ops [⟨some 6, none, .bin .eql (.tmp 3) (.const (.int .i64 2))⟩,
        ⟨some 4, none, .mv (.tmp 6)⟩])))
    (.cond (.tmp 4)
      (.seq (.ops [⟨some 2, none, .mv (.const (.int .i64 64))⟩])
      .ret)
      (.join (.seq (.ops [⟨some 8, none, .bin .eql (.tmp 3) (.const (.int .i64 3))⟩,
        ⟨some 7, none, .mv (.tmp 8)⟩])
      (.cond (.tmp 7)
        .skip
        (.ops [⟨some 9, none, .bin .eql (.tmp 3) (.const (.int .i64 4))⟩,
          ⟨some 7, none, .mv (.tmp 9)⟩])))
      (.cond (.tmp 7)
        (.seq (.ops [⟨some 2, none, .mv (.const (.int .i64 128))⟩])
        .ret)
        .skip))))))
  (.seq (.ops [⟨some 2, none, .mv (.const (.int .i64 0))⟩])
  .ret)))⟩
theorem h101 : strF Tryd.prog [] Tryd.f101 = some c101 := by kernel_rfl
/-- (*chirograph/digest.Hash).block -/
def c102 : Fun := ⟨39, [],
  (.seq (.ops [⟨some 4, none, .mv (.tmp 0)⟩,
    ⟨some 5, none, .nilc (.tmp 4)⟩,
    ⟨some 6, none, .fa 0 (.tmp 5)⟩,
    ⟨some 7, none, .ld (.int .i64) (.tmp 6)⟩])
  (.block 0
    (.seq (.ops [⟨some 18, none, .bin .eql (.tmp 7) (.const (.int .i64 1))⟩,
      ⟨some 17, none, .mv (.tmp 18)⟩])
    (.cond (.tmp 17)
      (.ops [⟨some 19, none, .mv (.tmp 0)⟩,
        ⟨some 20, none, .mv (.tmp 0)⟩,
        ⟨some 21, none, .nilc (.tmp 20)⟩,
        ⟨some 22, none, .fa 1 (.tmp 21)⟩,
        ⟨some 23, none, .ld (.agg 8) (.tmp 22)⟩,
        ⟨some 24, none, .mv (.tmp 1)⟩,
        ⟨some 25, none, .call 110 [(.tmp 23), (.tmp 24)]⟩,
        ⟨some 26, none, .nilc (.tmp 19)⟩,
        ⟨some 27, none, .fa 1 (.tmp 26)⟩,
        ⟨none, none, .st 8 (.tmp 27) (.tmp 25)⟩])
      (.seq (.ops [⟨some 29, none, .bin .eql (.tmp 7) (.const (.int .i64 2))⟩,
        ⟨some 28, none, .mv (.tmp 29)⟩])
      (.cond (.tmp 28)
        (.ops [⟨some 30, none, .mv (.tmp 0)⟩,
          ⟨some 31, none, .mv (.tmp 0)⟩,
          ⟨some 32, none, .nilc (.tmp 31)⟩,
          ⟨some 33, none, .fa 1 (.tmp 32)⟩,
          ⟨some 34, none, .ld (.agg 8) (.tmp 33)⟩,
          ⟨some 35, none, .mv (.tmp 1)⟩,
          ⟨some 36, none, .call 111 [(.tmp 34), (.tmp 35)]⟩,
          ⟨some 37, none, .nilc (.tmp 30)⟩,
          ⟨some 38, none, .fa 1 (.tmp 37)⟩,
          ⟨none, none, .st 8 (.tmp 38) (.tmp 36)⟩])
        (.ops [⟨some 8, none, .mv (.tmp 0)⟩,
          ⟨some 9, none, .mv (.tmp 0)⟩,
          ⟨some 10, none, .nilc (.tmp 9)⟩,
          ⟨some 11, none, .fa 9 (.tmp 10)⟩,
          ⟨some 12, none, .ld (.agg 8) (.tmp 11)⟩,
          ⟨some 13, none, .mv (.tmp 1)⟩,
          ⟨some 14, none, .call 112 [(.tmp 12), (.tmp 13)]⟩,
          ⟨some 15, none, .nilc (.tmp 8)⟩,
          ⟨some 16, none, .fa 9 (.tmp 15)⟩,
          ⟨none, none, .st 8 (.tmp 16) (.tmp 14)⟩])))))))⟩
theorem h102 : strF Tryd.prog [] Tryd.f102 = some c102 := by kernel_rfl
/-- bytes.trimLeftByte -/
def c103 : Fun := ⟨21, [.inl 4],
  (.seq (.ops [⟨some 4, none, .mv (.const (.slice none 0 0))⟩])
  (.seq (.block 0
    (.loop
      (.seq (.seq (.ops [⟨some 5, none, .mv (.tmp 0)⟩,
        ⟨some 6, none, .len (.tmp 5)⟩,
        ⟨some 7, none, .bin .gtr (.tmp 6) (.const (.int .i64 0))⟩,
        ⟨some 8, none, .mv (.tmp 7)⟩,
        ⟨some 9, some (8, true), .mv (.tmp 0)⟩,
        ⟨some 10, some (8, true), .ia 1 (.tmp 9) (.const (.int .i64 0))⟩,
        ⟨some 11, some (8, true), .ld (.int .u8) (.tmp 10)⟩,
        ⟨some 12, some (8, true), .mv (.tmp 1)⟩,
        ⟨some 13, some (8, true), .bin .eql (.tmp 11) (.tmp 12)⟩,
        ⟨some 14, none, .pick (.tmp 8) (.tmp 13) (.const (.bool false))⟩])
      (.cond (.tmp 14)
        .skip
        (.exit 0)))
      (.block 1
        (.ops [⟨some 15, none, .mv (.tmp 0)⟩,
          ⟨some 16, none, .slc 1 (.tmp 15) (some (.const (.int .i64 1))) none none⟩,
          ⟨some 0, none, .mv (.tmp 16)⟩])))))
  (.seq (.seq (.ops [⟨some 17, none, .mv (.tmp 0)⟩,
    ⟨some 18, none, .len (.tmp 17)⟩,
    ⟨some 19, none, .bin .eql (.tmp 18) (.const (.int .i64 0))⟩])
  (.cond (.tmp 19)
    (.seq (.ops [⟨some 4, none, .mv (.const (.slice none 0 0))⟩])
    .ret)
    .skip))
  (.seq (.ops [⟨some 20, none, .mv (.tmp 0)⟩,
    ⟨some 4, none, .mv (.tmp 20)⟩])
  .ret))))⟩
theorem h103 : strF Tryd.prog [] Tryd.f103 = some c103 := by kernel_rfl
/-- chirograph/digest.one -/
def c110 : Fun := ⟨126, [.inr ((.agg 8), 4)],
  (.seq (.ops [⟨some 2, none, .box 110 (.tmp 0)⟩,
    ⟨some 4, none, .alloc 110 (.agg (Array.replicate 8 (.int .u32 0)))⟩])
  (.seq (.ops [⟨some 15, none, .mv (.tmp 1)⟩,
    ⟨some 16, none, .call 116 [(.tmp 15)]⟩,
    ⟨some 5, none, .alloc 155 (.agg (Array.replicate 16 (.int .u32 0)))⟩,
    ⟨none, none, .st 16 (.tmp 5) (.tmp 16)⟩])
  (.seq (.draw 15 [⟨some 17, none, .iaA 8 1 (.tmp 2) (.const (.int .i64 0))⟩,
    ⟨some 18, none, .ld (.int .u32) (.tmp 17)⟩,
    ⟨some 19, none, .iaA 8 1 (.tmp 2) (.const (.int .i64 1))⟩,
    ⟨some 20, none, .ld (.int .u32) (.tmp 19)⟩,
    ⟨some 21, none, .iaA 8 1 (.tmp 2) (.const (.int .i64 2))⟩,
    ⟨some 22, none, .ld (.int .u32) (.tmp 21)⟩,
    ⟨some 23, none, .iaA 8 1 (.tmp 2) (.const (.int .i64 3))⟩,
    ⟨some 24, none, .ld (.int .u32) (.tmp 23)⟩,
    ⟨some 25, none, .iaA 8 1 (.tmp 2) (.const (.int .i64 4))⟩,
    ⟨some 26, none, .ld (.int .u32) (.tmp 25)⟩,
    ⟨some 6, none, .mv (.tmp 18)⟩,
    ⟨some 7, none, .mv (.tmp 20)⟩,
    ⟨some 8, none, .mv (.tmp 22)⟩,
    ⟨some 9, none, .mv (.tmp 24)⟩,
    ⟨some 10, none, .mv (.tmp 26)⟩])
  (.seq (.seq (.ops [⟨some 27, none, .mv (.const (.int .i64 0))⟩])
  (.block 0
    (.loop
      (.seq (.ops [⟨some 28, none, .bin .lss (.tmp 27) (.const (.int .i64 80))⟩])
      (.seq (.cond (.tmp 28)
        .skip
        (.exit 0))
      (.seq (.block 1
        (.seq (.ops [⟨some 29, none, .mv (.tmp 27)⟩,
          ⟨some 11, none, .mv (.tmp 29)⟩])
        (.seq (.ops [⟨some 30, none, .mv (.tmp 11)⟩,
          ⟨some 31, none, .bin .rem (.tmp 30) (.const (.int .i64 16))⟩,
          ⟨some 12, none, .mv (.tmp 31)⟩])
        (.join (.seq (.ops [⟨some 32, none, .mv (.tmp 11)⟩,
          ⟨some 33, none, .bin .geq (.tmp 32) (.const (.int .i64 16))⟩])
        (.cond (.tmp 33)
          (.draw 24 [⟨some 34, none, .mv (.tmp 12)⟩,
            ⟨some 35, none, .mv (.tmp 12)⟩,
            ⟨some 36, none, .bin .add (.tmp 35) (.const (.int .i64 13))⟩,
            ⟨some 37, none, .bin .rem (.tmp 36) (.const (.int .i64 16))⟩,
            ⟨some 38, none, .iaA 16 1 (.tmp 5) (.tmp 37)⟩,
            ⟨some 39, none, .ld (.int .u32) (.tmp 38)⟩,
            ⟨some 40, none, .mv (.tmp 12)⟩,
            ⟨some 41, none, .bin .add (.tmp 40) (.const (.int .i64 8))⟩,
            ⟨some 42, none, .bin .rem (.tmp 41) (.const (.int .i64 16))⟩,
            ⟨some 43, none, .iaA 16 1 (.tmp 5) (.tmp 42)⟩,
            ⟨some 44, none, .ld (.int .u32) (.tmp 43)⟩,
            ⟨some 45, none, .bin .xor (.tmp 39) (.tmp 44)⟩,
            ⟨some 46, none, .mv (.tmp 12)⟩,
            ⟨some 47, none, .bin .add (.tmp 46) (.const (.int .i64 2))⟩,
            ⟨some 48, none, .bin .rem (.tmp 47) (.const (.int .i64 16))⟩,
            ⟨some 49, none, .iaA 16 1 (.tmp 5) (.tmp 48)⟩,
            ⟨some 50, none, .ld (.int .u32) (.tmp 49)⟩,
            ⟨some 51, none, .bin .xor (.tmp 45) (.tmp 50)⟩,
            ⟨some 52, none, .mv (.tmp 12)⟩,
            ⟨some 53, none, .iaA 16 1 (.tmp 5) (.tmp 52)⟩,
            ⟨some 54, none, .ld (.int .u32) (.tmp 53)⟩,
            ⟨some 55, none, .bin .xor (.tmp 51) (.tmp 54)⟩,
            ⟨some 56, none, .call 117 [(.tmp 55), (.const (.int .i64 1))]⟩,
            ⟨some 57, none, .iaA 16 1 (.tmp 5) (.tmp 34)⟩,
            ⟨none, none, .st 1 (.tmp 57) (.tmp 56)⟩])
          .skip))
        (.seq (.ops [⟨some 58, none, .mv (.tmp 7)⟩,
          ⟨some 59, none, .mv (.tmp 8)⟩,
          ⟨some 60, none, .bin .xor (.tmp 58) (.tmp 59)⟩,
          ⟨some 61, none, .mv (.tmp 9)⟩,
          ⟨some 62, none, .bin .xor (.tmp 60) (.tmp 61)⟩,
          ⟨some 13, none, .mv (.tmp 62)⟩,
          ⟨some 14, none, .mv (.const (.int .u32 3395469782))⟩])
        (.join (.seq (.ops [⟨some 63, none, .mv (.tmp 11)⟩,
          ⟨some 64, none, .bin .quo (.tmp 63) (.const (.int .i64 20))⟩])
        (.block 2
          (.seq (.ops [⟨some 66, none, .bin .eql (.tmp 64) (.const (.int .i64 0))⟩,
            ⟨some 65, none, .mv (.tmp 66)⟩])
          (.cond (.tmp 65)
            (.ops [⟨some 67, none, .mv (.tmp 9)⟩,
              ⟨some 68, none, .mv (.tmp 7)⟩,
              ⟨some 69, none, .mv (.tmp 8)⟩,
              ⟨some 70, none, .mv (.tmp 9)⟩,
              ⟨some 71, none, .bin .xor (.tmp 69) (.tmp 70)⟩,
              ⟨some 72, none, .bin .and (.tmp 68) (.tmp 71)⟩,
              ⟨some 73, none, .bin .xor (.tmp 67) (.tmp 72)⟩,
              ⟨some 13, none, .mv (.tmp 73)⟩,
              ⟨some 14, none, .mv (.const (.int .u32 1518500249))⟩])
            (.seq (.ops [⟨some 75, none, .bin .eql (.tmp 64) (.const (.int .i64 1))⟩,
              ⟨some 74, none, .mv (.tmp 75)⟩])
            (.cond (.tmp 74)
              (.ops [⟨some 14, none, .mv (.const (.int .u32 1859775393))⟩])
              (.seq (.ops [⟨some 77, none, .bin .eql (.tmp 64) (.const (.int .i64 2))⟩,
                ⟨some 76, none, .mv (.tmp 77)⟩])
              (.cond (.tmp 76)
                (.ops [⟨some 78, none, .mv (.tmp 7)⟩,
                  ⟨some 79, none, .mv (.tmp 8)⟩,
                  ⟨some 80, none, .bin .and (.tmp 78) (.tmp 79)⟩,
                  ⟨some 81, none, .mv (.tmp 9)⟩,
                  ⟨some 82, none, .mv (.tmp 7)⟩,
                  ⟨some 83, none, .mv (.tmp 8)⟩,
                  ⟨some 84, none, .bin .or (.tmp 82) (.tmp 83)⟩,
                  ⟨some 85, none, .bin .and (.tmp 81) (.tmp 84)⟩,
                  ⟨some 86, none, .bin .or (.tmp 80) (.tmp 85)⟩,
                  ⟨some 13, none, .mv (.tmp 86)⟩,
                  ⟨some 14, none, .mv (.const (.int .u32 2400959708))⟩])
                .skip))))))))
        (.draw 22 [⟨some 87, none, .mv (.tmp 6)⟩,
          ⟨some 88, none, .call 117 [(.tmp 87), (.const (.int .i64 5))]⟩,
          ⟨some 89, none, .mv (.tmp 13)⟩,
          ⟨some 90, none, .bin .add (.tmp 88) (.tmp 89)⟩,
          ⟨some 91, none, .mv (.tmp 10)⟩,
          ⟨some 92, none, .bin .add (.tmp 90) (.tmp 91)⟩,
          ⟨some 93, none, .mv (.tmp 14)⟩,
          ⟨some 94, none, .bin .add (.tmp 92) (.tmp 93)⟩,
          ⟨some 95, none, .mv (.tmp 12)⟩,
          ⟨some 96, none, .iaA 16 1 (.tmp 5) (.tmp 95)⟩,
          ⟨some 97, none, .ld (.int .u32) (.tmp 96)⟩,
          ⟨some 98, none, .bin .add (.tmp 94) (.tmp 97)⟩,
          ⟨some 99, none, .mv (.tmp 6)⟩,
          ⟨some 100, none, .mv (.tmp 7)⟩,
          ⟨some 101, none, .call 117 [(.tmp 100), (.const (.int .i64 30))]⟩,
          ⟨some 102, none, .mv (.tmp 8)⟩,
          ⟨some 103, none, .mv (.tmp 9)⟩,
          ⟨some 6, none, .mv (.tmp 98)⟩,
          ⟨some 7, none, .mv (.tmp 99)⟩,
          ⟨some 8, none, .mv (.tmp 101)⟩,
          ⟨some 9, none, .mv (.tmp 102)⟩,
          ⟨some 10, none, .mv (.tmp 103)⟩])))))))
      (.ops [⟨some 104, none, .bin .add (.tmp 27) (.const (.int .i64 1))⟩,
        ⟨some 27, none, .mv (.tmp 104)⟩])))))))
  (.seq (.ops [⟨some 105, none, .iaA 8 1 (.tmp 2) (.const (.int .i64 0))⟩,
    ⟨some 106, none, .ld (.int .u32) (.tmp 105)⟩,
    ⟨some 107, none, .mv (.tmp 6)⟩,
    ⟨some 108, none, .bin .add (.tmp 106) (.tmp 107)⟩,
    ⟨some 109, none, .iaA 8 1 (.tmp 2) (.const (.int .i64 1))⟩,
    ⟨some 110, none, .ld (.int .u32) (.tmp 109)⟩,
    ⟨some 111, none, .mv (.tmp 7)⟩,
    ⟨some 112, none, .bin .add (.tmp 110) (.tmp 111)⟩,
    ⟨some 113, none, .iaA 8 1 (.tmp 2) (.const (.int .i64 2))⟩,
    ⟨some 114, none, .ld (.int .u32) (.tmp 113)⟩,
    ⟨some 115, none, .mv (.tmp 8)⟩,
    ⟨some 116, none, .bin .add (.tmp 114) (.tmp 115)⟩,
    ⟨some 117, none, .iaA 8 1 (.tmp 2) (.const (.int .i64 3))⟩,
    ⟨some 118, none, .ld (.int .u32) (.tmp 117)⟩,
    ⟨some 119, none, .mv (.tmp 9)⟩,
    ⟨some 120, none, .bin .add (.tmp 118) (.tmp 119)⟩,
    ⟨some 121, none, .iaA 8 1 (.tmp 2) (.const (.int .i64 4))⟩,
    ⟨some 122, none, .ld (.int .u32) (.tmp 121)⟩,
    ⟨some 123, none, .mv (.tmp 10)⟩,
    ⟨some 124, none, .bin .add (.tmp 122) (.tmp 123)⟩,
    ⟨some 125, none, .bld (Array.replicate 8 (.int .u32 0)) [(0, 1), (1, 1), (2, 1), (3, 1), (4, 1), (5, 1), (6, 1), (7, 1)] [(0, (.tmp 108)), (1, (.tmp 112)), (2, (.tmp 116)), (3, (.tmp 120)), (4, (.tmp 124))]⟩,
    ⟨none, none, .st 8 (.tmp 4) (.tmp 125)⟩])
  .ret)))))⟩
theorem h110 : strF Tryd.prog [] Tryd.f110 = some c110 := by kernel_rfl
/-- chirograph/digest.two -/
def c111 : Fun := ⟨124, [.inr ((.agg 8), 4)],
  (.seq (.ops [⟨some 2, none, .box 110 (.tmp 0)⟩,
    ⟨some 4, none, .alloc 110 (.agg (Array.replicate 8 (.int .u32 0)))⟩])
  (.seq (.ops [⟨some 12, none, .mv (.tmp 1)⟩,
    ⟨some 13, none, .call 116 [(.tmp 12)]⟩,
    ⟨some 5, none, .alloc 155 (.agg (Array.replicate 16 (.int .u32 0)))⟩,
    ⟨none, none, .st 16 (.tmp 5) (.tmp 13)⟩])
  (.seq (.ops [⟨some 14, none, .ld (.agg 8) (.tmp 2)⟩,
    ⟨some 6, none, .alloc 110 (.agg (Array.replicate 8 (.int .u32 0)))⟩,
    ⟨none, none, .st 8 (.tmp 6) (.tmp 14)⟩])
  (.seq (.seq (.ops [⟨some 15, none, .mv (.const (.int .i64 0))⟩])
  (.block 0
    (.loop
      (.seq (.ops [⟨some 16, none, .bin .lss (.tmp 15) (.const (.int .i64 64))⟩])
      (.seq (.cond (.tmp 16)
        .skip
        (.exit 0))
      (.seq (.block 1
        (.seq (.ops [⟨some 17, none, .mv (.tmp 15)⟩,
          ⟨some 7, none, .mv (.tmp 17)⟩])
        (.seq (.ops [⟨some 18, none, .mv (.tmp 7)⟩,
          ⟨some 19, none, .bin .rem (.tmp 18) (.const (.int .i64 16))⟩,
          ⟨some 8, none, .mv (.tmp 19)⟩])
        (.join (.seq (.ops [⟨some 20, none, .mv (.tmp 7)⟩,
          ⟨some 21, none, .bin .geq (.tmp 20) (.const (.int .i64 16))⟩])
        (.cond (.tmp 21)
          (.draw 24 [⟨some 22, none, .mv (.tmp 8)⟩,
            ⟨some 23, none, .iaA 16 1 (.tmp 5) (.tmp 22)⟩,
            ⟨some 24, none, .ld (.int .u32) (.tmp 23)⟩,
            ⟨some 25, none, .mv (.tmp 8)⟩,
            ⟨some 26, none, .bin .add (.tmp 25) (.const (.int .i64 14))⟩,
            ⟨some 27, none, .bin .rem (.tmp 26) (.const (.int .i64 16))⟩,
            ⟨some 28, none, .iaA 16 1 (.tmp 5) (.tmp 27)⟩,
            ⟨some 29, none, .ld (.int .u32) (.tmp 28)⟩,
            ⟨some 30, none, .call 118 [(.tmp 29), (.const (.int .i64 17)), (.const (.int .i64 19)), (.const (.int .i64 10)), (.const (.bool true))]⟩,
            ⟨some 31, none, .mv (.tmp 8)⟩,
            ⟨some 32, none, .bin .add (.tmp 31) (.const (.int .i64 9))⟩,
            ⟨some 33, none, .bin .rem (.tmp 32) (.const (.int .i64 16))⟩,
            ⟨some 34, none, .iaA 16 1 (.tmp 5) (.tmp 33)⟩,
            ⟨some 35, none, .ld (.int .u32) (.tmp 34)⟩,
            ⟨some 36, none, .bin .add (.tmp 30) (.tmp 35)⟩,
            ⟨some 37, none, .mv (.tmp 8)⟩,
            ⟨some 38, none, .bin .add (.tmp 37) (.const (.int .i64 1))⟩,
            ⟨some 39, none, .bin .rem (.tmp 38) (.const (.int .i64 16))⟩,
            ⟨some 40, none, .iaA 16 1 (.tmp 5) (.tmp 39)⟩,
            ⟨some 41, none, .ld (.int .u32) (.tmp 40)⟩,
            ⟨some 42, none, .call 118 [(.tmp 41), (.const (.int .i64 7)), (.const (.int .i64 18)), (.const (.int .i64 3)), (.const (.bool true))]⟩,
            ⟨some 43, none, .bin .add (.tmp 36) (.tmp 42)⟩,
            ⟨some 44, none, .bin .add (.tmp 24) (.tmp 43)⟩,
            ⟨some 45, none, .iaA 16 1 (.tmp 5) (.tmp 22)⟩,
            ⟨none, none, .st 1 (.tmp 45) (.tmp 44)⟩])
          .skip))
        (.seq (.draw 27 [⟨some 46, none, .iaA 8 1 (.tmp 6) (.const (.int .i64 7))⟩,
          ⟨some 47, none, .ld (.int .u32) (.tmp 46)⟩,
          ⟨some 48, none, .iaA 8 1 (.tmp 6) (.const (.int .i64 4))⟩,
          ⟨some 49, none, .ld (.int .u32) (.tmp 48)⟩,
          ⟨some 50, none, .call 118 [(.tmp 49), (.const (.int .i64 6)), (.const (.int .i64 11)), (.const (.int .i64 25)), (.const (.bool false))]⟩,
          ⟨some 51, none, .bin .add (.tmp 47) (.tmp 50)⟩,
          ⟨some 52, none, .iaA 8 1 (.tmp 6) (.const (.int .i64 6))⟩,
          ⟨some 53, none, .ld (.int .u32) (.tmp 52)⟩,
          ⟨some 54, none, .iaA 8 1 (.tmp 6) (.const (.int .i64 4))⟩,
          ⟨some 55, none, .ld (.int .u32) (.tmp 54)⟩,
          ⟨some 56, none, .iaA 8 1 (.tmp 6) (.const (.int .i64 5))⟩,
          ⟨some 57, none, .ld (.int .u32) (.tmp 56)⟩,
          ⟨some 58, none, .iaA 8 1 (.tmp 6) (.const (.int .i64 6))⟩,
          ⟨some 59, none, .ld (.int .u32) (.tmp 58)⟩,
          ⟨some 60, none, .bin .xor (.tmp 57) (.tmp 59)⟩,
          ⟨some 61, none, .bin .and (.tmp 55) (.tmp 60)⟩,
          ⟨some 62, none, .bin .xor (.tmp 53) (.tmp 61)⟩,
          ⟨some 63, none, .bin .add (.tmp 51) (.tmp 62)⟩,
          ⟨some 64, none, .mv (.tmp 7)⟩,
          ⟨some 65, none, .iaA 64 1 (.global 2) (.tmp 64)⟩,
          ⟨some 66, none, .ld (.int .u32) (.tmp 65)⟩,
          ⟨some 67, none, .bin .add (.tmp 63) (.tmp 66)⟩,
          ⟨some 68, none, .mv (.tmp 8)⟩,
          ⟨some 69, none, .iaA 16 1 (.tmp 5) (.tmp 68)⟩,
          ⟨some 70, none, .ld (.int .u32) (.tmp 69)⟩,
          ⟨some 71, none, .bin .add (.tmp 67) (.tmp 70)⟩,
          ⟨some 9, none, .mv (.tmp 71)⟩])
        (.seq (.draw 19 [⟨some 72, none, .iaA 8 1 (.tmp 6) (.const (.int .i64 0))⟩,
          ⟨some 73, none, .ld (.int .u32) (.tmp 72)⟩,
          ⟨some 74, none, .call 118 [(.tmp 73), (.const (.int .i64 2)), (.const (.int .i64 13)), (.const (.int .i64 22)), (.const (.bool false))]⟩,
          ⟨some 75, none, .iaA 8 1 (.tmp 6) (.const (.int .i64 0))⟩,
          ⟨some 76, none, .ld (.int .u32) (.tmp 75)⟩,
          ⟨some 77, none, .iaA 8 1 (.tmp 6) (.const (.int .i64 1))⟩,
          ⟨some 78, none, .ld (.int .u32) (.tmp 77)⟩,
          ⟨some 79, none, .bin .and (.tmp 76) (.tmp 78)⟩,
          ⟨some 80, none, .iaA 8 1 (.tmp 6) (.const (.int .i64 2))⟩,
          ⟨some 81, none, .ld (.int .u32) (.tmp 80)⟩,
          ⟨some 82, none, .iaA 8 1 (.tmp 6) (.const (.int .i64 0))⟩,
          ⟨some 83, none, .ld (.int .u32) (.tmp 82)⟩,
          ⟨some 84, none, .iaA 8 1 (.tmp 6) (.const (.int .i64 1))⟩,
          ⟨some 85, none, .ld (.int .u32) (.tmp 84)⟩,
          ⟨some 86, none, .bin .or (.tmp 83) (.tmp 85)⟩,
          ⟨some 87, none, .bin .and (.tmp 81) (.tmp 86)⟩,
          ⟨some 88, none, .bin .or (.tmp 79) (.tmp 87)⟩,
          ⟨some 89, none, .bin .add (.tmp 74) (.tmp 88)⟩,
          ⟨some 10, none, .mv (.tmp 89)⟩])
        (.ops [⟨some 90, none, .mv (.tmp 9)⟩,
          ⟨some 91, none, .mv (.tmp 10)⟩,
          ⟨some 92, none, .bin .add (.tmp 90) (.tmp 91)⟩,
          ⟨some 93, none, .iaA 8 1 (.tmp 6) (.const (.int .i64 0))⟩,
          ⟨some 94, none, .ld (.int .u32) (.tmp 93)⟩,
          ⟨some 95, none, .iaA 8 1 (.tmp 6) (.const (.int .i64 1))⟩,
          ⟨some 96, none, .ld (.int .u32) (.tmp 95)⟩,
          ⟨some 97, none, .iaA 8 1 (.tmp 6) (.const (.int .i64 2))⟩,
          ⟨some 98, none, .ld (.int .u32) (.tmp 97)⟩,
          ⟨some 99, none, .iaA 8 1 (.tmp 6) (.const (.int .i64 3))⟩,
          ⟨some 100, none, .ld (.int .u32) (.tmp 99)⟩,
          ⟨some 101, none, .mv (.tmp 9)⟩,
          ⟨some 102, none, .bin .add (.tmp 100) (.tmp 101)⟩,
          ⟨some 103, none, .iaA 8 1 (.tmp 6) (.const (.int .i64 4))⟩,
          ⟨some 104, none, .ld (.int .u32) (.tmp 103)⟩,
          ⟨some 105, none, .iaA 8 1 (.tmp 6) (.const (.int .i64 5))⟩,
          ⟨some 106, none, .ld (.int .u32) (.tmp 105)⟩,
          ⟨some 107, none, .iaA 8 1 (.tmp 6) (.const (.int .i64 6))⟩,
          ⟨some 108, none, .ld (.int .u32) (.tmp 107)⟩,
          ⟨some 109, none, .bld (Array.replicate 8 (.int .u32 0)) [(0, 1), (1, 1), (2, 1), (3, 1), (4, 1), (5, 1), (6, 1), (7, 1)] [(0, (.tmp 92)), (1, (.tmp 94)), (2, (.tmp 96)), (3, (.tmp 98)), (4, (.tmp 102)), (5, (.tmp 104)), (6, (.tmp 106)), (7, (.tmp 108))]⟩,
          ⟨none, none, .st 8 (.tmp 6) (.tmp 109)⟩])))))))
      (.ops [⟨some 110, none, .bin .add (.tmp 15) (.const (.int .i64 1))⟩,
        ⟨some 15, none, .mv (.tmp 110)⟩])))))))
  (.seq (.seq (.ops [⟨some 111, none, .mv (.const (.int .i64 0))⟩])
  (.block 2
    (.loop
      (.seq (.ops [⟨some 112, none, .bin .lss (.tmp 111) (.const (.int .i64 8))⟩])
      (.seq (.cond (.tmp 112)
        .skip
        (.exit 2))
      (.seq (.block 3
        (.seq (.ops [⟨some 113, none, .mv (.tmp 111)⟩,
          ⟨some 11, none, .mv (.tmp 113)⟩])
        (.draw 8 [⟨some 114, none, .mv (.tmp 11)⟩,
          ⟨some 115, none, .iaA 8 1 (.tmp 6) (.tmp 114)⟩,
          ⟨some 116, none, .ld (.int .u32) (.tmp 115)⟩,
          ⟨some 117, none, .mv (.tmp 11)⟩,
          ⟨some 118, none, .iaA 8 1 (.tmp 2) (.tmp 117)⟩,
          ⟨some 119, none, .ld (.int .u32) (.tmp 118)⟩,
          ⟨some 120, none, .bin .add (.tmp 116) (.tmp 119)⟩,
          ⟨some 121, none, .iaA 8 1 (.tmp 6) (.tmp 114)⟩,
          ⟨none, none, .st 1 (.tmp 121) (.tmp 120)⟩])))
      (.ops [⟨some 122, none, .bin .add (.tmp 111) (.const (.int .i64 1))⟩,
        ⟨some 111, none, .mv (.tmp 122)⟩])))))))
  (.seq (.ops [⟨some 123, none, .ld (.agg 8) (.tmp 6)⟩,
    ⟨none, none, .st 8 (.tmp 4) (.tmp 123)⟩])
  .ret))))))⟩
theorem h111 : strF Tryd.prog [] Tryd.f111 = some c111 := by kernel_rfl
/-- chirograph/digest.wide -/
def c112 : Fun := ⟨141, [.inr ((.agg 8), 4)],
  (.seq (.ops [⟨some 2, none, .box 76 (.tmp 0)⟩,
    ⟨some 4, none, .alloc 76 (.agg (Array.replicate 8 (.int .u64 0)))⟩])
  (.seq (.ops [⟨some 5, none, .alloc 158 (.agg (Array.replicate 16 (.int .u64 0)))⟩])
  (.seq (.seq (.ops [⟨some 13, none, .mv (.const (.int .i64 0))⟩])
  (.block 0
    (.loop
      (.seq (.ops [⟨some 14, none, .bin .lss (.tmp 13) (.const (.int .i64 128))⟩])
      (.seq (.cond (.tmp 14)
        .skip
        (.exit 0))
      (.seq (.block 1
        (.seq (.ops [⟨some 15, none, .mv (.tmp 13)⟩,
          ⟨some 6, none, .mv (.tmp 15)⟩])
        (.draw 14 [⟨some 16, none, .mv (.tmp 6)⟩,
          ⟨some 17, none, .bin .quo (.tmp 16) (.const (.int .i64 8))⟩,
          ⟨some 18, none, .mv (.tmp 6)⟩,
          ⟨some 19, none, .bin .quo (.tmp 18) (.const (.int .i64 8))⟩,
          ⟨some 20, none, .iaA 16 1 (.tmp 5) (.tmp 19)⟩,
          ⟨some 21, none, .ld (.int .u64) (.tmp 20)⟩,
          ⟨some 22, none, .bin .shl (.tmp 21) (.const (.int .u64 8))⟩,
          ⟨some 23, none, .mv (.tmp 1)⟩,
          ⟨some 24, none, .mv (.tmp 6)⟩,
          ⟨some 25, none, .ia 1 (.tmp 23) (.tmp 24)⟩,
          ⟨some 26, none, .ld (.int .u8) (.tmp 25)⟩,
          ⟨some 27, none, .cv .u64 (.tmp 26)⟩,
          ⟨some 28, none, .bin .or (.tmp 22) (.tmp 27)⟩,
          ⟨some 29, none, .iaA 16 1 (.tmp 5) (.tmp 17)⟩,
          ⟨none, none, .st 1 (.tmp 29) (.tmp 28)⟩])))
      (.ops [⟨some 30, none, .bin .add (.tmp 13) (.const (.int .i64 1))⟩,
        ⟨some 13, none, .mv (.tmp 30)⟩])))))))
  (.seq (.ops [⟨some 31, none, .ld (.agg 8) (.tmp 2)⟩,
    ⟨some 7, none, .alloc 76 (.agg (Array.replicate 8 (.int .u64 0)))⟩,
    ⟨none, none, .st 8 (.tmp 7) (.tmp 31)⟩])
  (.seq (.seq (.ops [⟨some 32, none, .mv (.const (.int .i64 0))⟩])
  (.block 2
    (.loop
      (.seq (.ops [⟨some 33, none, .bin .lss (.tmp 32) (.const (.int .i64 80))⟩])
      (.seq (.cond (.tmp 33)
        .skip
        (.exit 2))
      (.seq (.block 3
        (.seq (.ops [⟨some 34, none, .mv (.tmp 32)⟩,
          ⟨some 8, none, .mv (.tmp 34)⟩])
        (.seq (.ops [⟨some 35, none, .mv (.tmp 8)⟩,
          ⟨some 36, none, .bin .rem (.tmp 35) (.const (.int .i64 16))⟩,
          ⟨some 9, none, .mv (.tmp 36)⟩])
        (.join (.seq (.ops [⟨some 37, none, .mv (.tmp 8)⟩,
          ⟨some 38, none, .bin .geq (.tmp 37) (.const (.int .i64 16))⟩])
        (.cond (.tmp 38)
          (.draw 24 [⟨some 39, none, .mv (.tmp 9)⟩,
            ⟨some 40, none, .iaA 16 1 (.tmp 5) (.tmp 39)⟩,
            ⟨some 41, none, .ld (.int .u64) (.tmp 40)⟩,
            ⟨some 42, none, .mv (.tmp 9)⟩,
            ⟨some 43, none, .bin .add (.tmp 42) (.const (.int .i64 14))⟩,
            ⟨some 44, none, .bin .rem (.tmp 43) (.const (.int .i64 16))⟩,
            ⟨some 45, none, .iaA 16 1 (.tmp 5) (.tmp 44)⟩,
            ⟨some 46, none, .ld (.int .u64) (.tmp 45)⟩,
            ⟨some 47, none, .call 119 [(.tmp 46), (.const (.int .i64 19)), (.const (.int .i64 61)), (.const (.int .i64 6)), (.const (.bool true))]⟩,
            ⟨some 48, none, .mv (.tmp 9)⟩,
            ⟨some 49, none, .bin .add (.tmp 48) (.const (.int .i64 9))⟩,
            ⟨some 50, none, .bin .rem (.tmp 49) (.const (.int .i64 16))⟩,
            ⟨some 51, none, .iaA 16 1 (.tmp 5) (.tmp 50)⟩,
            ⟨some 52, none, .ld (.int .u64) (.tmp 51)⟩,
            ⟨some 53, none, .bin .add (.tmp 47) (.tmp 52)⟩,
            ⟨some 54, none, .mv (.tmp 9)⟩,
            ⟨some 55, none, .bin .add (.tmp 54) (.const (.int .i64 1))⟩,
            ⟨some 56, none, .bin .rem (.tmp 55) (.const (.int .i64 16))⟩,
            ⟨some 57, none, .iaA 16 1 (.tmp 5) (.tmp 56)⟩,
            ⟨some 58, none, .ld (.int .u64) (.tmp 57)⟩,
            ⟨some 59, none, .call 119 [(.tmp 58), (.const (.int .i64 1)), (.const (.int .i64 8)), (.const (.int .i64 7)), (.const (.bool true))]⟩,
            ⟨some 60, none, .bin .add (.tmp 53) (.tmp 59)⟩,
            ⟨some 61, none, .bin .add (.tmp 41) (.tmp 60)⟩,
            ⟨some 62, none, .iaA 16 1 (.tmp 5) (.tmp 39)⟩,
            ⟨none, none, .st 1 (.tmp 62) (.tmp 61)⟩])
          .skip))
        (.seq (.draw 27 [⟨some 63, none, .iaA 8 1 (.tmp 7) (.const (.int .i64 7))⟩,
          ⟨some 64, none, .ld (.int .u64) (.tmp 63)⟩,
          ⟨some 65, none, .iaA 8 1 (.tmp 7) (.const (.int .i64 4))⟩,
          ⟨some 66, none, .ld (.int .u64) (.tmp 65)⟩,
          ⟨some 67, none, .call 119 [(.tmp 66), (.const (.int .i64 14)), (.const (.int .i64 18)), (.const (.int .i64 41)), (.const (.bool false))]⟩,
          ⟨some 68, none, .bin .add (.tmp 64) (.tmp 67)⟩,
          ⟨some 69, none, .iaA 8 1 (.tmp 7) (.const (.int .i64 6))⟩,
          ⟨some 70, none, .ld (.int .u64) (.tmp 69)⟩,
          ⟨some 71, none, .iaA 8 1 (.tmp 7) (.const (.int .i64 4))⟩,
          ⟨some 72, none, .ld (.int .u64) (.tmp 71)⟩,
          ⟨some 73, none, .iaA 8 1 (.tmp 7) (.const (.int .i64 5))⟩,
          ⟨some 74, none, .ld (.int .u64) (.tmp 73)⟩,
          ⟨some 75, none, .iaA 8 1 (.tmp 7) (.const (.int .i64 6))⟩,
          ⟨some 76, none, .ld (.int .u64) (.tmp 75)⟩,
          ⟨some 77, none, .bin .xor (.tmp 74) (.tmp 76)⟩,
          ⟨some 78, none, .bin .and (.tmp 72) (.tmp 77)⟩,
          ⟨some 79, none, .bin .xor (.tmp 70) (.tmp 78)⟩,
          ⟨some 80, none, .bin .add (.tmp 68) (.tmp 79)⟩,
          ⟨some 81, none, .mv (.tmp 8)⟩,
          ⟨some 82, none, .iaA 80 1 (.global 3) (.tmp 81)⟩,
          ⟨some 83, none, .ld (.int .u64) (.tmp 82)⟩,
          ⟨some 84, none, .bin .add (.tmp 80) (.tmp 83)⟩,
          ⟨some 85, none, .mv (.tmp 9)⟩,
          ⟨some 86, none, .iaA 16 1 (.tmp 5) (.tmp 85)⟩,
          ⟨some 87, none, .ld (.int .u64) (.tmp 86)⟩,
          ⟨some 88, none, .bin .add (.tmp 84) (.tmp 87)⟩,
          ⟨some 10, none, .mv (.tmp 88)⟩])
        (.seq (.draw 19 [⟨some 89, none, .iaA 8 1 (.tmp 7) (.const (.int .i64 0))⟩,
          ⟨some 90, none, .ld (.int .u64) (.tmp 89)⟩,
          ⟨some 91, none, .call 119 [(.tmp 90), (.const (.int .i64 28)), (.const (.int .i64 34)), (.const (.int .i64 39)), (.const (.bool false))]⟩,
          ⟨some 92, none, .iaA 8 1 (.tmp 7) (.const (.int .i64 0))⟩,
          ⟨some 93, none, .ld (.int .u64) (.tmp 92)⟩,
          ⟨some 94, none, .iaA 8 1 (.tmp 7) (.const (.int .i64 1))⟩,
          ⟨some 95, none, .ld (.int .u64) (.tmp 94)⟩,
          ⟨some 96, none, .bin .and (.tmp 93) (.tmp 95)⟩,
          ⟨some 97, none, .iaA 8 1 (.tmp 7) (.const (.int .i64 2))⟩,
          ⟨some 98, none, .ld (.int .u64) (.tmp 97)⟩,
          ⟨some 99, none, .iaA 8 1 (.tmp 7) (.const (.int .i64 0))⟩,
          ⟨some 100, none, .ld (.int .u64) (.tmp 99)⟩,
          ⟨some 101, none, .iaA 8 1 (.tmp 7) (.const (.int .i64 1))⟩,
          ⟨some 102, none, .ld (.int .u64) (.tmp 101)⟩,
          ⟨some 103, none, .bin .or (.tmp 100) (.tmp 102)⟩,
          ⟨some 104, none, .bin .and (.tmp 98) (.tmp 103)⟩,
          ⟨some 105, none, .bin .or (.tmp 96) (.tmp 104)⟩,
          ⟨some 106, none, .bin .add (.tmp 91) (.tmp 105)⟩,
          ⟨some 11, none, .mv (.tmp 106)⟩])
        (.ops [⟨some 107, none, .mv (.tmp 10)⟩,
          ⟨some 108, none, .mv (.tmp 11)⟩,
          ⟨some 109, none, .bin .add (.tmp 107) (.tmp 108)⟩,
          ⟨some 110, none, .iaA 8 1 (.tmp 7) (.const (.int .i64 0))⟩,
          ⟨some 111, none, .ld (.int .u64) (.tmp 110)⟩,
          ⟨some 112, none, .iaA 8 1 (.tmp 7) (.const (.int .i64 1))⟩,
          ⟨some 113, none, .ld (.int .u64) (.tmp 112)⟩,
          ⟨some 114, none, .iaA 8 1 (.tmp 7) (.const (.int .i64 2))⟩,
          ⟨some 115, none, .ld (.int .u64) (.tmp 114)⟩,
          ⟨some 116, none, .iaA 8 1 (.tmp 7) (.const (.int .i64 3))⟩,
          ⟨some 117, none, .ld (.int .u64) (.tmp 116)⟩,
          ⟨some 118, none, .mv (.tmp 10)⟩,
          ⟨some 119, none, .bin .add (.tmp 117) (.tmp 118)⟩,
          ⟨some 120, none, .iaA 8 1 (.tmp 7) (.const (.int .i64 4))⟩,
          ⟨some 121, none, .ld (.int .u64) (.tmp 120)⟩,
          ⟨some 122, none, .iaA 8 1 (.tmp 7) (.const (.int .i64 5))⟩,
          ⟨some 123, none, .ld (.int .u64) (.tmp 122)⟩,
          ⟨some 124, none, .iaA 8 1 (.tmp 7) (.const (.int .i64 6))⟩,
          ⟨some 125, none, .ld (.int .u64) (.tmp 124)⟩,
          ⟨some 126, none, .bld (Array.replicate 8 (.int .u64 0)) [(0, 1), (1, 1), (2, 1), (3, 1), (4, 1), (5, 1), (6, 1), (7, 1)] [(0, (.tmp 109)), (1, (.tmp 111)), (2, (.tmp 113)), (3, (.tmp 115)), (4, (.tmp 119)), (5, (.tmp 121)), (6, (.tmp 123)), (7, (.tmp 125))]⟩,
          ⟨none, none, .st 8 (.tmp 7) (.tmp 126)⟩])))))))
      (.ops [⟨some 127, none, .bin .add (.tmp 32) (.const (.int .i64 1))⟩,
        ⟨some 32, none, .mv (.tmp 127)⟩])))))))
  (.seq (.seq (.ops [⟨some 128, none, .mv (.const (.int .i64 0))⟩])
  (.block 4
    (.loop
      (.seq (.ops [⟨some 129, none, .bin .lss (.tmp 128) (.const (.int .i64 8))⟩])
      (.seq (.cond (.tmp 129)
        .skip
        (.exit 4))
      (.seq (.block 5
        (.seq (.ops [⟨some 130, none, .mv (.tmp 128)⟩,
          ⟨some 12, none, .mv (.tmp 130)⟩])
        (.draw 8 [⟨some 131, none, .mv (.tmp 12)⟩,
          ⟨some 132, none, .iaA 8 1 (.tmp 7) (.tmp 131)⟩,
          ⟨some 133, none, .ld (.int .u64) (.tmp 132)⟩,
          ⟨some 134, none, .mv (.tmp 12)⟩,
          ⟨some 135, none, .iaA 8 1 (.tmp 2) (.tmp 134)⟩,
          ⟨some 136, none, .ld (.int .u64) (.tmp 135)⟩,
          ⟨some 137, none, .bin .add (.tmp 133) (.tmp 136)⟩,
          ⟨some 138, none, .iaA 8 1 (.tmp 7) (.tmp 131)⟩,
          ⟨none, none, .st 1 (.tmp 138) (.tmp 137)⟩])))
      (.ops [⟨some 139, none, .bin .add (.tmp 128) (.const (.int .i64 1))⟩,
        ⟨some 128, none, .mv (.tmp 139)⟩])))))))
  (.seq (.ops [⟨some 140, none, .ld (.agg 8) (.tmp 7)⟩,
    ⟨none, none, .st 8 (.tmp 4) (.tmp 140)⟩])
  .ret)))))))⟩
theorem h112 : strF Tryd.prog [] Tryd.f112 = some c112 := by kernel_rfl
/-- chirograph/digest.words -/
def c116 : Fun := ⟨44, [.inr ((.agg 16), 2)],
  (.seq (.ops [⟨some 2, none, .alloc 155 (.agg (Array.replicate 16 (.int .u32 0)))⟩])
  (.seq (.seq (.ops [⟨some 4, none, .mv (.const (.int .i64 0))⟩])
  (.block 0
    (.loop
      (.seq (.ops [⟨some 5, none, .bin .lss (.tmp 4) (.const (.int .i64 16))⟩])
      (.seq (.cond (.tmp 5)
        .skip
        (.exit 0))
      (.seq (.block 1
        (.seq (.ops [⟨some 6, none, .mv (.tmp 4)⟩,
          ⟨some 3, none, .mv (.tmp 6)⟩])
        (.draw 35 [⟨some 7, none, .mv (.tmp 3)⟩,
          ⟨some 8, none, .mv (.tmp 0)⟩,
          ⟨some 9, none, .mv (.tmp 3)⟩,
          ⟨some 10, none, .bin .mul (.const (.int .i64 4)) (.tmp 9)⟩,
          ⟨some 11, none, .ia 1 (.tmp 8) (.tmp 10)⟩,
          ⟨some 12, none, .ld (.int .u8) (.tmp 11)⟩,
          ⟨some 13, none, .cv .u32 (.tmp 12)⟩,
          ⟨some 14, none, .bin .shl (.tmp 13) (.const (.int .u64 24))⟩,
          ⟨some 15, none, .mv (.tmp 0)⟩,
          ⟨some 16, none, .mv (.tmp 3)⟩,
          ⟨some 17, none, .bin .mul (.const (.int .i64 4)) (.tmp 16)⟩,
          ⟨some 18, none, .bin .add (.tmp 17) (.const (.int .i64 1))⟩,
          ⟨some 19, none, .ia 1 (.tmp 15) (.tmp 18)⟩,
          ⟨some 20, none, .ld (.int .u8) (.tmp 19)⟩,
          ⟨some 21, none, .cv .u32 (.tmp 20)⟩,
          ⟨some 22, none, .bin .shl (.tmp 21) (.const (.int .u64 16))⟩,
          ⟨some 23, none, .bin .or (.tmp 14) (.tmp 22)⟩,
          ⟨some 24, none, .mv (.tmp 0)⟩,
          ⟨some 25, none, .mv (.tmp 3)⟩,
          ⟨some 26, none, .bin .mul (.const (.int .i64 4)) (.tmp 25)⟩,
          ⟨some 27, none, .bin .add (.tmp 26) (.const (.int .i64 2))⟩,
          ⟨some 28, none, .ia 1 (.tmp 24) (.tmp 27)⟩,
          ⟨some 29, none, .ld (.int .u8) (.tmp 28)⟩,
          ⟨some 30, none, .cv .u32 (.tmp 29)⟩,
          ⟨some 31, none, .bin .shl (.tmp 30) (.const (.int .u64 8))⟩,
          ⟨some 32, none, .bin .or (.tmp 23) (.tmp 31)⟩,
          ⟨some 33, none, .mv (.tmp 0)⟩,
          ⟨some 34, none, .mv (.tmp 3)⟩,
          ⟨some 35, none, .bin .mul (.const (.int .i64 4)) (.tmp 34)⟩,
          ⟨some 36, none, .bin .add (.tmp 35) (.const (.int .i64 3))⟩,
          ⟨some 37, none, .ia 1 (.tmp 33) (.tmp 36)⟩,
          ⟨some 38, none, .ld (.int .u8) (.tmp 37)⟩,
          ⟨some 39, none, .cv .u32 (.tmp 38)⟩,
          ⟨some 40, none, .bin .or (.tmp 32) (.tmp 39)⟩,
          ⟨some 41, none, .iaA 16 1 (.tmp 2) (.tmp 7)⟩,
          ⟨none, none, .st 1 (.tmp 41) (.tmp 40)⟩])))
      (.ops [⟨some 42, none, .bin .add (.tmp 4) (.const (.int .i64 1))⟩,
        ⟨some 4, none, .mv (.tmp 42)⟩])))))))
  (.seq (.ops [⟨some 43, none, .ld (.agg 16) (.tmp 2)⟩,
    ⟨none, none, .st 16 (.tmp 2) (.tmp 43)⟩])
  .ret)))⟩
theorem h116 : strF Tryd.prog [] Tryd.f116 = some c116 := by kernel_rfl
/-- math/bits.RotateLeft32 -/
def c117 : Fun := ⟨17, [.inl 4],
  (.seq (.ops [⟨some 4, none, .mv (.const (.int .u32 0))⟩])
  (.seq (.ops [⟨some 6, none, .mv (.tmp 1)⟩,
    ⟨some 7, none, .cv .u64 (.tmp 6)⟩,
    ⟨some 8, none, .bin .and (.tmp 7) (.const (.int .u64 31))⟩,
    ⟨some 5, none, .mv (.tmp 8)⟩])
  (.seq (.ops [⟨some 9, none, .mv (.tmp 0)⟩,
    ⟨some 10, none, .mv (.tmp 5)⟩,
    ⟨some 11, none, .bin .shl (.tmp 9) (.tmp 10)⟩,
    ⟨some 12, none, .mv (.tmp 0)⟩,
    ⟨some 13, none, .mv (.tmp 5)⟩,
    ⟨some 14, none, .bin .sub (.const (.int .u64 32)) (.tmp 13)⟩,
    ⟨some 15, none, .bin .shr (.tmp 12) (.tmp 14)⟩,
    ⟨some 16, none, .bin .or (.tmp 11) (.tmp 15)⟩,
    ⟨some 4, none, .mv (.tmp 16)⟩])
  .ret)))⟩
theorem h117 : strF Tryd.prog [] Tryd.f117 = some c117 := by kernel_rfl
/-- chirograph/digest.turns -/
def c118 : Fun := ⟨31, [.inl 10],
  (.seq (.ops [⟨some 10, none, .mv (.const (.int .u32 0))⟩])
  (.seq (.ops [⟨some 12, none, .mv (.tmp 0)⟩,
    ⟨some 13, none, .mv (.tmp 3)⟩,
    ⟨some 14, none, .un .neg (.tmp 13)⟩,
    ⟨some 15, none, .call 117 [(.tmp 12), (.tmp 14)]⟩,
    ⟨some 11, none, .mv (.tmp 15)⟩])
  (.join (.seq (.ops [⟨some 16, none, .mv (.tmp 4)⟩])
  (.cond (.tmp 16)
    (.ops [⟨some 17, none, .mv (.tmp 0)⟩,
      ⟨some 18, none, .mv (.tmp 3)⟩,
      ⟨some 19, none, .bin .shr (.tmp 17) (.tmp 18)⟩,
      ⟨some 11, none, .mv (.tmp 19)⟩])
    .skip))
  (.seq (.ops [⟨some 20, none, .mv (.tmp 0)⟩,
    ⟨some 21, none, .mv (.tmp 1)⟩,
    ⟨some 22, none, .un .neg (.tmp 21)⟩,
    ⟨some 23, none, .call 117 [(.tmp 20), (.tmp 22)]⟩,
    ⟨some 24, none, .mv (.tmp 0)⟩,
    ⟨some 25, none, .mv (.tmp 2)⟩,
    ⟨some 26, none, .un .neg (.tmp 25)⟩,
    ⟨some 27, none, .call 117 [(.tmp 24), (.tmp 26)]⟩,
    ⟨some 28, none, .bin .xor (.tmp 23) (.tmp 27)⟩,
    ⟨some 29, none, .mv (.tmp 11)⟩,
    ⟨some 30, none, .bin .xor (.tmp 28) (.tmp 29)⟩,
    ⟨some 10, none, .mv (.tmp 30)⟩])
  .ret))))⟩
theorem h118 : strF Tryd.prog [] Tryd.f118 = some c118 := by kernel_rfl
/-- chirograph/digest.wturns -/
def c119 : Fun := ⟨31, [.inl 10],
  (.seq (.ops [⟨some 10, none, .mv (.const (.int .u64 0))⟩])
  (.seq (.ops [⟨some 12, none, .mv (.tmp 0)⟩,
    ⟨some 13, none, .mv (.tmp 3)⟩,
    ⟨some 14, none, .un .neg (.tmp 13)⟩,
    ⟨some 15, none, .call 121 [(.tmp 12), (.tmp 14)]⟩,
    ⟨some 11, none, .mv (.tmp 15)⟩])
  (.join (.seq (.ops [⟨some 16, none, .mv (.tmp 4)⟩])
  (.cond (.tmp 16)
    (.ops [⟨some 17, none, .mv (.tmp 0)⟩,
      ⟨some 18, none, .mv (.tmp 3)⟩,
      ⟨some 19, none, .bin .shr (.tmp 17) (.tmp 18)⟩,
      ⟨some 11, none, .mv (.tmp 19)⟩])
    .skip))
  (.seq (.ops [⟨some 20, none, .mv (.tmp 0)⟩,
    ⟨some 21, none, .mv (.tmp 1)⟩,
    ⟨some 22, none, .un .neg (.tmp 21)⟩,
    ⟨some 23, none, .call 121 [(.tmp 20), (.tmp 22)]⟩,
    ⟨some 24, none, .mv (.tmp 0)⟩,
    ⟨some 25, none, .mv (.tmp 2)⟩,
    ⟨some 26, none, .un .neg (.tmp 25)⟩,
    ⟨some 27, none, .call 121 [(.tmp 24), (.tmp 26)]⟩,
    ⟨some 28, none, .bin .xor (.tmp 23) (.tmp 27)⟩,
    ⟨some 29, none, .mv (.tmp 11)⟩,
    ⟨some 30, none, .bin .xor (.tmp 28) (.tmp 29)⟩,
    ⟨some 10, none, .mv (.tmp 30)⟩])
  .ret))))⟩
theorem h119 : strF Tryd.prog [] Tryd.f119 = some c119 := by kernel_rfl
/-- math/bits.RotateLeft64 -/
def c121 : Fun := ⟨17, [.inl 4],
  (.seq (.ops [⟨some 4, none, .mv (.const (.int .u64 0))⟩])
  (.seq (.ops [⟨some 6, none, .mv (.tmp 1)⟩,
    ⟨some 7, none, .cv .u64 (.tmp 6)⟩,
    ⟨some 8, none, .bin .and (.tmp 7) (.const (.int .u64 63))⟩,
    ⟨some 5, none, .mv (.tmp 8)⟩])
  (.seq (.ops [⟨some 9, none, .mv (.tmp 0)⟩,
    ⟨some 10, none, .mv (.tmp 5)⟩,
    ⟨some 11, none, .bin .shl (.tmp 9) (.tmp 10)⟩,
    ⟨some 12, none, .mv (.tmp 0)⟩,
    ⟨some 13, none, .mv (.tmp 5)⟩,
    ⟨some 14, none, .bin .sub (.const (.int .u64 64)) (.tmp 13)⟩,
    ⟨some 15, none, .bin .shr (.tmp 12) (.tmp 14)⟩,
    ⟨some 16, none, .bin .or (.tmp 11) (.tmp 15)⟩,
    ⟨some 4, none, .mv (.tmp 16)⟩])
  .ret)))⟩
theorem h121 : strF Tryd.prog [] Tryd.f121 = some c121 := by kernel_rfl
/-- chirograph/chirographlaw08.RsaChecks -/
def c3 : Fun := ⟨30, [.inl 2],
  (.seq (.ops [⟨some 1, none, .box 24 (.tmp 0)⟩,
    ⟨some 2, none, .mv (.const (.bool false))⟩])
  (.seq (.seq (.ops [⟨some 3, none, .fa 0 (.tmp 1)⟩,
    ⟨some 4, none, .ld .slice (.tmp 3)⟩,
    ⟨some 5, none, .len (.tmp 4)⟩,
    ⟨some 6, none, .bin .gtr (.tmp 5) (.const (.int .i64 600))⟩,
    ⟨some 7, none, .mv (.tmp 6)⟩,
    ⟨some 8, some (7, false), .fa 1 (.tmp 1)⟩,
    ⟨some 9, some (7, false), .ld .slice (.tmp 8)⟩,
    ⟨some 10, some (7, false), .len (.tmp 9)⟩,
    ⟨some 11, some (7, false), .bin .gtr (.tmp 10) (.const (.int .i64 600))⟩,
    ⟨some 12, none, .pick (.tmp 7) (.const (.bool true)) (.tmp 11)⟩])
  (.cond (.tmp 12)
    (.seq (.ops [⟨some 13, none, .call 7 []⟩,
      ⟨some 2, none, .mv (.tmp 13)⟩])
    .ret)
    .skip))
  (.seq (.drawT (.st 1 0 (.st 3 3 (.cov (.one 1 (.cov (.one 2 (.cov (.one 4 (.st 0 5 (.st 0 6 (.st 1 7 (.st 3 9 (.cov (.one 8 (.cov (.one 10 (.st 0 11 (.st 0 12 (.st 0 13 (.cov (.one 14 (.st 0 15 (.st 0 16 .nil)))))))))))))))))))))))
    [⟨some 14, none, .ld (.agg 2) (.tmp 1)⟩,
      ⟨some 15, none, .call 9 [(.tmp 14)]⟩,
      ⟨some 16, none, .call 8 [(.tmp 15)]⟩,
      ⟨some 17, none, .ld (.agg 2) (.tmp 1)⟩,
      ⟨some 18, none, .call 10 [(.tmp 17)]⟩,
      ⟨some 19, none, .bin .eql (.tmp 16) (.tmp 18)⟩,
      ⟨some 20, none, .mv (.tmp 19)⟩,
      ⟨some 21, some (20, true), .ld (.agg 2) (.tmp 1)⟩,
      ⟨some 22, some (20, true), .call 11 [(.tmp 21)]⟩,
      ⟨some 23, some (20, true), .ld (.agg 2) (.tmp 1)⟩,
      ⟨some 24, some (20, true), .call 12 [(.tmp 23)]⟩,
      ⟨some 25, some (20, true), .bin .eql (.tmp 22) (.tmp 24)⟩,
      ⟨some 26, none, .pick (.tmp 20) (.tmp 25) (.const (.bool false))⟩,
      ⟨some 27, none, .mv (.tmp 26)⟩,
      ⟨some 28, some (27, true), .call 7 []⟩,
      ⟨some 29, none, .pick (.tmp 27) (.tmp 28) (.const (.bool false))⟩,
      ⟨some 2, none, .mv (.tmp 29)⟩])
  .ret)))⟩
theorem h3 : strF Tryd.prog [(3, .inr (.st 1 0 (.st 3 3 (.cov (.one 1 (.cov (.one 2 (.cov (.one 4 (.st 0 5 (.st 0 6 (.st 1 7 (.st 3 9 (.cov (.one 8 (.cov (.one 10 (.st 0 11 (.st 0 12 (.st 0 13 (.cov (.one 14 (.st 0 15 (.st 0 16 .nil))))))))))))))))))))))))] Tryd.f3 = some c3 := by kernel_rfl
/-- chirograph/chirographlaw08.live -/
def c7 : Fun := ⟨69, [.inl 0],
  (.seq (.ops [⟨some 0, none, .mv (.const (.bool false))⟩])
  (.seq (.ops [⟨some 8, none, .bsl 5 1 3 #[(.int .u8 0)] [(0, (.const (.int .u8 102))), (1, (.const (.int .u8 111))), (2, (.const (.int .u8 111)))]⟩,
    ⟨some 9, none, .cvid (.tmp 8)⟩,
    ⟨some 10, none, .call 14 [(.const (.int .i64 1)), (.tmp 9), (.const (.int .i64 3))]⟩,
    ⟨some 7, none, .mv (.tmp 10)⟩,
    ⟨some 11, none, .ext (.tmp 7) 0⟩,
    ⟨some 12, none, .ext (.tmp 7) 1⟩,
    ⟨some 1, none, .mv (.tmp 11)⟩,
    ⟨some 2, none, .mv (.tmp 12)⟩])
  (.seq (.ops [⟨some 14, none, .mks 5 1 1 #[(.int .u8 0)] (.const (.int .i64 20)) (.const (.int .i64 20))⟩,
    ⟨some 15, none, .call 18 [(.const (.int .i64 1)), (.tmp 14), (.const (.int .i64 46))]⟩,
    ⟨some 13, none, .mv (.tmp 15)⟩,
    ⟨some 16, none, .ext (.tmp 13) 0⟩,
    ⟨some 17, none, .ext (.tmp 13) 1⟩,
    ⟨some 3, none, .mv (.tmp 16)⟩,
    ⟨some 4, none, .mv (.tmp 17)⟩])
  (.seq (.ops [⟨some 19, none, .call 24 [(.const (.int .i64 0))]⟩,
    ⟨some 18, none, .mv (.tmp 19)⟩,
    ⟨some 20, none, .ext (.tmp 18) 0⟩,
    ⟨some 21, none, .ext (.tmp 18) 1⟩,
    ⟨some 5, none, .alloc 24 (.agg #[(.slice none 0 0), (.slice none 0 0)])⟩,
    ⟨none, none, .st 2 (.tmp 5) (.tmp 20)⟩,
    ⟨some 6, none, .mv (.tmp 21)⟩])
  (.seq (.ops [⟨some 22, none, .mv (.tmp 2)⟩,
    ⟨some 23, none, .call 8 [(.tmp 22)]⟩,
    ⟨some 24, none, .mv (.tmp 4)⟩,
    ⟨some 25, none, .call 8 [(.tmp 24)]⟩,
    ⟨some 26, none, .bin .add (.tmp 23) (.tmp 25)⟩,
    ⟨some 27, none, .bin .eql (.tmp 26) (.const (.int .i64 0))⟩,
    ⟨some 28, none, .mv (.tmp 27)⟩,
    ⟨some 29, some (28, true), .mv (.tmp 1)⟩,
    ⟨some 30, some (28, true), .cvbs (.tmp 29)⟩,
    ⟨some 31, some (28, true), .bin .eql (.tmp 30) (.const (.string ⟨#[26, 201, 7]⟩))⟩,
    ⟨some 32, none, .pick (.tmp 28) (.tmp 31) (.const (.bool false))⟩,
    ⟨some 33, none, .mv (.tmp 32)⟩,
    ⟨some 34, some (33, true), .mv (.tmp 3)⟩,
    ⟨some 35, some (33, true), .len (.tmp 34)⟩,
    ⟨some 36, some (33, true), .bin .eql (.tmp 35) (.const (.int .i64 46))⟩,
    ⟨some 37, none, .pick (.tmp 33) (.tmp 36) (.const (.bool false))⟩,
    ⟨some 38, none, .mv (.tmp 37)⟩,
    ⟨some 39, some (38, true), .mv (.tmp 3)⟩,
    ⟨some 40, some (38, true), .ia 1 (.tmp 39) (.const (.int .i64 1))⟩,
    ⟨some 41, some (38, true), .ld (.int .u8) (.tmp 40)⟩,
    ⟨some 42, some (38, true), .bin .eql (.tmp 41) (.const (.int .u8 1))⟩,
    ⟨some 43, none, .pick (.tmp 38) (.tmp 42) (.const (.bool false))⟩,
    ⟨some 44, none, .mv (.tmp 43)⟩,
    ⟨some 45, some (44, true), .mv (.tmp 3)⟩,
    ⟨some 46, some (44, true), .ia 1 (.tmp 45) (.const (.int .i64 10))⟩,
    ⟨some 47, some (44, true), .ld (.int .u8) (.tmp 46)⟩,
    ⟨some 48, some (44, true), .bin .eql (.tmp 47) (.const (.int .u8 0))⟩,
    ⟨some 49, none, .pick (.tmp 44) (.tmp 48) (.const (.bool false))⟩,
    ⟨some 50, none, .mv (.tmp 49)⟩,
    ⟨some 51, some (50, true), .mv (.tmp 3)⟩,
    ⟨some 52, some (50, true), .ia 1 (.tmp 51) (.const (.int .i64 11))⟩,
    ⟨some 53, some (50, true), .ld (.int .u8) (.tmp 52)⟩,
    ⟨some 54, some (50, true), .bin .eql (.tmp 53) (.const (.int .u8 48))⟩,
    ⟨some 55, none, .pick (.tmp 50) (.tmp 54) (.const (.bool false))⟩,
    ⟨some 56, none, .mv (.tmp 55)⟩,
    ⟨some 57, some (56, true), .bsl 46 1 1 #[(.int .u32 0)] [(0, (.const (.int .u32 15)))]⟩,
    ⟨some 58, some (56, true), .bsl 46 1 1 #[(.int .u32 0)] [(0, (.const (.int .u32 3)))]⟩,
    ⟨some 59, some (56, true), .bld #[(.slice none 0 0), (.slice none 0 0)] [(0, 1), (1, 1)] [(0, (.tmp 57)), (1, (.tmp 58))]⟩,
    ⟨some 60, some (56, true), .call 9 [(.tmp 59)]⟩,
    ⟨some 61, some (56, true), .call 8 [(.tmp 60)]⟩,
    ⟨some 62, some (56, true), .bin .eql (.tmp 61) (.const (.int .i64 80))⟩,
    ⟨some 63, none, .pick (.tmp 56) (.tmp 62) (.const (.bool false))⟩,
    ⟨some 64, none, .mv (.tmp 63)⟩,
    ⟨some 65, some (64, true), .ld (.agg 2) (.tmp 5)⟩,
    ⟨some 66, some (64, true), .call 11 [(.tmp 65)]⟩,
    ⟨some 67, some (64, true), .bin .eql (.tmp 66) (.const (.int .i64 64))⟩,
    ⟨some 68, none, .pick (.tmp 64) (.tmp 67) (.const (.bool false))⟩,
    ⟨some 0, none, .mv (.tmp 68)⟩])
  .ret)))))⟩
theorem h7 : strF Tryd.prog [] Tryd.f7 = some c7 := by kernel_rfl
/-- chirograph/chirographlaw08.num -/
def c8 : Fun := ⟨4, [.inl 2],
  (.seq (.ops [⟨some 2, none, .mv (.const (.int .i64 0))⟩])
  (.seq (.ops [⟨some 3, none, .mv (.tmp 0)⟩,
    ⟨some 2, none, .mv (.tmp 3)⟩])
  .ret))⟩
theorem h8 : strF Tryd.prog [] Tryd.f8 = some c8 := by kernel_rfl
end Go.Proofs.YtcgplgpdcfocpaaDoor.Code
