/- The functions as the engine has them: by program, out of the translation. -/
import Derived.Test.YtcgplgpdcfocpaaGreatDoorRsaVerifiese1
import Derived.Test.YtcgplgpdcfocpaaGreatDoorProg
set_option maxRecDepth 100000
namespace Go.Proofs.YtcgplgpdcfocpaaGreatDoor.Code
open Go Go.Proofs Go.Proofs.YtcgplgpdcfocpaaGreatDoor.Eng
@[reducible] def Zs (d : Nat) (i : I) : O := ⟨some d, none, i⟩
@[reducible] def Zo (d s : Nat) : O := ⟨some d, none, .mv (.tmp s)⟩
@[reducible] def Zi (n : Int) : Operand := .const (.int .i64 n)
/-- chirograph/chirographref01.LentBytes -/
def c9 : Fun := ⟨13, [.inl 2],
 (.seq (.ops [Zs 2 (.mv (.const (.slice none 0 0)))])
 (.seq (.ops [Zs 4 (.bsl0 5),
 Zo 5 0,
 Zs 6 (.app 5 1 1 #[(.int .u8 0)] (.tmp 4) (.tmp 5)),
 Zs 7 (.bsl 5 1 2 #[(.int .u8 0)] [(0, (.const (.int .u8 90))), (1, (.const (.int .u8 165)))]),
 Zs 8 (.app 5 1 1 #[(.int .u8 0)] (.tmp 6) (.tmp 7)),
 Zo 3 8])
 (.seq (.ops [Zo 9 3,
 Zo 10 0,
 Zs 11 (.len (.tmp 10)),
 Zs 12 (.slc 1 (.tmp 9) none (some (.tmp 11)) none),
 Zo 2 12])
 .ret)))⟩
theorem h9 : strF Tryz.prog [] Tryz.f9 = some c9 := by kernel_rfl
/-- chirograph/rsa.Verify -/
def c11 : Fun := ⟨42, [.inl 8],
 (.seq (.ops [Zs 4 (.box 24 (.tmp 0)),
 Zs 8 (.mv (Zi 0))])
 (.seq (.seq (.ops [Zo 13 1,
 Zo 14 2,
 Zs 15 (.call 26 [(.tmp 13), (.tmp 14)]),
 Zs 16 (.un .not (.tmp 15))])
 (.cond (.tmp 16)
 (.seq (.ops [Zs 8 (.mv (Zi 1))])
 .ret)
 .skip))
 (.seq (.ops [Zs 18 (.ld (.agg 2) (.tmp 4)),
 Zo 19 3,
 Zs 20 (.call 27 [(.tmp 18), (.tmp 19)]),
 Zo 17 20,
 Zs 21 (.ext (.tmp 17) 0),
 Zs 22 (.ext (.tmp 17) 1),
 Zo 9 21,
 Zo 10 22])
 (.seq (.seq (.ops [Zo 23 10,
 Zs 24 (.bin .neq (.tmp 23) (Zi 0))])
 (.cond (.tmp 24)
 (.seq (.ops [Zo 25 10,
 Zo 8 25])
 .ret)
 .skip))
 (.seq (.seq (.ops [Zo 27 1,
 Zo 28 2,
 Zo 29 9,
 Zs 30 (.len (.tmp 29)),
 Zs 31 (.call 23 [(.tmp 27), (.tmp 28), (.tmp 30)]),
 Zo 26 31,
 Zs 32 (.ext (.tmp 26) 0),
 Zs 33 (.ext (.tmp 26) 1),
 Zo 11 32,
 Zo 12 33])
 (.seq (.ops [Zo 34 12,
 Zs 35 (.bin .neq (.tmp 34) (Zi 0)),
 Zo 36 35,
 ⟨some 37, some (36, false), .mv (.tmp 11)⟩,
 ⟨some 38, some (36, false), .mv (.tmp 9)⟩,
 ⟨some 39, some (36, false), .call 28 [(.tmp 37), (.tmp 38)]⟩,
 ⟨some 40, some (36, false), .un .not (.tmp 39)⟩,
 Zs 41 (.pick (.tmp 36) (.const (.bool true)) (.tmp 40))])
 (.cond (.tmp 41)
 (.seq (.ops [Zs 8 (.mv (Zi 112))])
 .ret)
 .skip)))
 (.seq (.ops [Zs 8 (.mv (Zi 0))])
 .ret))))))⟩
theorem h11 : strF Tryz.prog [] Tryz.f11 = some c11 := by kernel_rfl
/-- chirograph/chirographref08.Verify -/
def c12 : Fun := ⟨47, [.inl 8],
 (.seq (.ops [Zs 4 (.box 24 (.tmp 0)),
 Zs 8 (.mv (Zi 0))])
 (.seq (.seq (.ops [Zo 12 1,
 Zs 13 (.call 14 [(.tmp 12)]),
 Zs 14 (.bin .eql (.tmp 13) (Zi 0)),
 Zo 15 14,
 ⟨some 16, some (15, false), .mv (.tmp 2)⟩,
 ⟨some 17, some (15, false), .len (.tmp 16)⟩,
 ⟨some 18, some (15, false), .mv (.tmp 1)⟩,
 ⟨some 19, some (15, false), .call 14 [(.tmp 18)]⟩,
 ⟨some 20, some (15, false), .bin .neq (.tmp 17) (.tmp 19)⟩,
 Zs 21 (.pick (.tmp 15) (.const (.bool true)) (.tmp 20))])
 (.cond (.tmp 21)
 (.seq (.ops [Zs 8 (.mv (Zi 1))])
 .ret)
 .skip))
 (.seq (.ops [Zs 23 (.ld (.agg 2) (.tmp 4)),
 Zo 24 3,
 Zs 25 (.call 29 [(.tmp 23), (.tmp 24)]),
 Zo 22 25,
 Zs 26 (.ext (.tmp 22) 0),
 Zs 27 (.ext (.tmp 22) 1),
 Zo 9 26,
 Zo 10 27])
 (.seq (.seq (.ops [Zo 28 10,
 Zs 29 (.bin .neq (.tmp 28) (Zi 0))])
 (.cond (.tmp 29)
 (.seq (.ops [Zo 30 10,
 Zo 8 30])
 .ret)
 .skip))
 (.seq (.ops [Zo 32 1,
 Zo 33 2,
 Zo 34 9,
 Zs 35 (.len (.tmp 34)),
 Zs 36 (.call 30 [(.tmp 32), (.tmp 33), (.tmp 35)]),
 Zo 31 36,
 Zs 37 (.ext (.tmp 31) 0),
 Zs 38 (.ext (.tmp 31) 1),
 Zo 11 37,
 Zo 10 38])
 (.seq (.seq (.ops [Zo 39 10,
 Zs 40 (.bin .neq (.tmp 39) (Zi 0)),
 Zo 41 40,
 ⟨some 42, some (41, false), .mv (.tmp 11)⟩,
 ⟨some 43, some (41, false), .mv (.tmp 9)⟩,
 ⟨some 44, some (41, false), .call 18 [(.tmp 42), (.tmp 43)]⟩,
 ⟨some 45, some (41, false), .un .not (.tmp 44)⟩,
 Zs 46 (.pick (.tmp 41) (.const (.bool true)) (.tmp 45))])
 (.cond (.tmp 46)
 (.seq (.ops [Zs 8 (.mv (Zi 112))])
 .ret)
 .skip))
 (.seq (.ops [Zs 8 (.mv (Zi 0))])
 .ret)))))))⟩
theorem h12 : strF Tryz.prog [] Tryz.f12 = some c12 := by kernel_rfl
/-- chirograph/chirographref01.KeptBytes -/
def c13 : Fun := ⟨31, [.inl 4],
 (.seq (.ops [Zs 4 (.mv (.const (.bool false)))])
 (.seq (.ops [Zo 6 0,
 Zo 7 0,
 Zs 8 (.len (.tmp 7)),
 Zs 9 (.bin .add (.tmp 8) (Zi 2)),
 Zs 10 (.slc 1 (.tmp 6) none (some (.tmp 9)) none),
 Zo 5 10])
 (.seq (.ops [Zo 11 0,
 Zo 12 1,
 Zs 13 (.call 18 [(.tmp 11), (.tmp 12)]),
 Zo 14 13,
 ⟨some 15, some (14, true), .mv (.tmp 5)⟩,
 ⟨some 16, some (14, true), .mv (.tmp 0)⟩,
 ⟨some 17, some (14, true), .len (.tmp 16)⟩,
 ⟨some 18, some (14, true), .ia 1 (.tmp 15) (.tmp 17)⟩,
 ⟨some 19, some (14, true), .ld (.int .u8) (.tmp 18)⟩,
 ⟨some 20, some (14, true), .bin .eql (.tmp 19) (.const (.int .u8 90))⟩,
 Zs 21 (.pick (.tmp 14) (.tmp 20) (.const (.bool false))),
 Zo 22 21,
 ⟨some 23, some (22, true), .mv (.tmp 5)⟩,
 ⟨some 24, some (22, true), .mv (.tmp 0)⟩,
 ⟨some 25, some (22, true), .len (.tmp 24)⟩,
 ⟨some 26, some (22, true), .bin .add (.tmp 25) (Zi 1)⟩,
 ⟨some 27, some (22, true), .ia 1 (.tmp 23) (.tmp 26)⟩,
 ⟨some 28, some (22, true), .ld (.int .u8) (.tmp 27)⟩,
 ⟨some 29, some (22, true), .bin .eql (.tmp 28) (.const (.int .u8 165))⟩,
 Zs 30 (.pick (.tmp 22) (.tmp 29) (.const (.bool false))),
 Zo 4 30])
 .ret)))⟩
theorem h13 : strF Tryz.prog [] Tryz.f13 = some c13 := by kernel_rfl
/-- chirograph/chirographref02.Size -/
def c14 : Fun := ⟨13, [.inl 2],
 (.seq (.ops [Zs 2 (.mv (Zi 0))])
 (.seq (.seq (.ops [Zo 3 0,
 Zs 4 (.bin .lss (.tmp 3) (Zi 1)),
 Zo 5 4,
 ⟨some 6, some (5, false), .mv (.tmp 0)⟩,
 ⟨some 7, some (5, false), .bin .gtr (.tmp 6) (Zi 4)⟩,
 Zs 8 (.pick (.tmp 5) (.const (.bool true)) (.tmp 7))])
 (.cond (.tmp 8)
 (.seq (.ops [Zs 2 (.mv (Zi 0))])
 .ret)
 .skip))
 (.seq (.ops [Zs 9 (.bld (Array.replicate 4 (.int .i64 0)) [(0, 1), (1, 1), (2, 1), (3, 1)] [(0, (Zi 20)), (1, (Zi 32)), (2, (Zi 48)), (3, (Zi 64))]),
 Zo 10 0,
 Zs 11 (.bin .sub (.tmp 10) (Zi 1)),
 Zs 12 (.ixa 4 (.tmp 9) (.tmp 11)),
 Zo 2 12])
 .ret)))⟩
theorem h14 : strF Tryz.prog [] Tryz.f14 = some c14 := by kernel_rfl
/-- chirograph/chirographref08.Known -/
def c15 : Fun := ⟨21, [.inr ((.agg 2), 2), .inl 3],
 (.seq (.ops [Zs 2 (.alloc 24 (.agg #[(.slice none 0 0), (.slice none 0 0)])),
 Zs 3 (.mv (.const (.slice none 0 0)))])
 (.seq (.seq (.ops [Zo 4 0])
 (.block 0
 (.seq (.ops [Zs 6 (.bin .eql (.tmp 4) (Zi 0)),
 Zo 5 6])
 (.cond (.tmp 5)
 (.seq (.ops [Zs 7 (.bsl 50 1 16 #[(.int .u32 0)] [(0, (.const (.int .u32 1295419795))), (1, (.const (.int .u32 3173228247))), (2, (.const (.int .u32 2137395180))), (3, (.const (.int .u32 1548933856))), (4, (.const (.int .u32 3106420408))), (5, (.const (.int .u32 3948765562))), (6, (.const (.int .u32 1049120400))), (7, (.const (.int .u32 779370009))), (8, (.const (.int .u32 4082781268))), (9, (.const (.int .u32 1057109357))), (10, (.const (.int .u32 1184194943))), (11, (.const (.int .u32 1393408190))), (12, (.const (.int .u32 1811714008))), (13, (.const (.int .u32 4142931574))), (14, (.const (.int .u32 3115507167))), (15, (.const (.int .u32 2773311948)))]),
 Zs 8 (.bsl 50 1 1 #[(.int .u32 0)] [(0, (.const (.int .u32 3)))]),
 Zs 9 (.bld #[(.slice none 0 0), (.slice none 0 0)] [(0, 1), (1, 1)] [(0, (.tmp 7)), (1, (.tmp 8))]),
 Zs 10 (.bsl 50 1 16 #[(.int .u32 0)] [(0, (.const (.int .u32 4047561943))), (1, (.const (.int .u32 3660979146))), (2, (.const (.int .u32 4003215933))), (3, (.const (.int .u32 1116455983))), (4, (.const (.int .u32 1700758801))), (5, (.const (.int .u32 463339884))), (6, (.const (.int .u32 276911730))), (7, (.const (.int .u32 3273242993))), (8, (.const (.int .u32 4259602957))), (9, (.const (.int .u32 2323668540))), (10, (.const (.int .u32 3060677354))), (11, (.const (.int .u32 1663890463))), (12, (.const (.int .u32 3165263865))), (13, (.const (.int .u32 2837972243))), (14, (.const (.int .u32 519251194))), (15, (.const (.int .u32 462218658)))]),
 ⟨none, none, .st 2 (.tmp 2) (.tmp 9)⟩,
 Zo 3 10])
 .ret)
 (.seq (.ops [Zs 12 (.bin .eql (.tmp 4) (Zi 1)),
 Zo 11 12])
 (.cond (.tmp 11)
 (.seq (.ops [Zs 13 (.bsl 50 1 24 #[(.int .u32 0)] [(0, (.const (.int .u32 447526239))), (1, (.const (.int .u32 1829156313))), (2, (.const (.int .u32 1879515421))), (3, (.const (.int .u32 4107444635))), (4, (.const (.int .u32 3585720734))), (5, (.const (.int .u32 1991253479))), (6, (.const (.int .u32 2516768444))), (7, (.const (.int .u32 3373017810))), (8, (.const (.int .u32 1205978055))), (9, (.const (.int .u32 1538251098))), (10, (.const (.int .u32 196053331))), (11, (.const (.int .u32 1922245038))), (12, (.const (.int .u32 2255523067))), (13, (.const (.int .u32 1735923309))), (14, (.const (.int .u32 2944431911))), (15, (.const (.int .u32 868394361))), (16, (.const (.int .u32 4017789066))), (17, (.const (.int .u32 1470251928))), (18, (.const (.int .u32 1835714117))), (19, (.const (.int .u32 3624612288))), (20, (.const (.int .u32 4242376361))), (21, (.const (.int .u32 1111742522))), (22, (.const (.int .u32 1457454055))), (23, (.const (.int .u32 3904486991)))]),
 Zs 14 (.bsl 50 1 1 #[(.int .u32 0)] [(0, (.const (.int .u32 65537)))]),
 Zs 15 (.bld #[(.slice none 0 0), (.slice none 0 0)] [(0, 1), (1, 1)] [(0, (.tmp 13)), (1, (.tmp 14))]),
 Zs 16 (.bsl 50 1 24 #[(.int .u32 0)] [(0, (.const (.int .u32 3621519977))), (1, (.const (.int .u32 3268799092))), (2, (.const (.int .u32 3739516396))), (3, (.const (.int .u32 206456287))), (4, (.const (.int .u32 3610635974))), (5, (.const (.int .u32 623975115))), (6, (.const (.int .u32 3290812447))), (7, (.const (.int .u32 1284005469))), (8, (.const (.int .u32 2839468200))), (9, (.const (.int .u32 1102384690))), (10, (.const (.int .u32 247832016))), (11, (.const (.int .u32 3318194052))), (12, (.const (.int .u32 792414134))), (13, (.const (.int .u32 1014899858))), (14, (.const (.int .u32 3018861402))), (15, (.const (.int .u32 3270484745))), (16, (.const (.int .u32 3809549036))), (17, (.const (.int .u32 2137766059))), (18, (.const (.int .u32 3239253027))), (19, (.const (.int .u32 2310304235))), (20, (.const (.int .u32 3354661807))), (21, (.const (.int .u32 2841138446))), (22, (.const (.int .u32 2129838785))), (23, (.const (.int .u32 419123029)))]),
 ⟨none, none, .st 2 (.tmp 2) (.tmp 15)⟩,
 Zo 3 16])
 .ret)
 .skip))))))
 (.seq (.ops [Zs 17 (.bsl 50 1 32 #[(.int .u32 0)] [(0, (.const (.int .u32 2647757785))), (1, (.const (.int .u32 1389125602))), (2, (.const (.int .u32 1571717152))), (3, (.const (.int .u32 2974836829))), (4, (.const (.int .u32 3776471463))), (5, (.const (.int .u32 3789918380))), (6, (.const (.int .u32 265465329))), (7, (.const (.int .u32 2705477333))), (8, (.const (.int .u32 2528306116))), (9, (.const (.int .u32 1305786319))), (10, (.const (.int .u32 3012271374))), (11, (.const (.int .u32 1555166574))), (12, (.const (.int .u32 3737811301))), (13, (.const (.int .u32 2107156747))), (14, (.const (.int .u32 423797723))), (15, (.const (.int .u32 3496193931))), (16, (.const (.int .u32 2229497578))), (17, (.const (.int .u32 3545628057))), (18, (.const (.int .u32 795677410))), (19, (.const (.int .u32 3294071916))), (20, (.const (.int .u32 3692226254))), (21, (.const (.int .u32 2201277676))), (22, (.const (.int .u32 1168892286))), (23, (.const (.int .u32 3890423924))), (24, (.const (.int .u32 3768719188))), (25, (.const (.int .u32 1348662635))), (26, (.const (.int .u32 838196833))), (27, (.const (.int .u32 466793529))), (28, (.const (.int .u32 1006143140))), (29, (.const (.int .u32 3002503770))), (30, (.const (.int .u32 4121073702))), (31, (.const (.int .u32 3778180073)))]),
 Zs 18 (.bsl 50 1 1 #[(.int .u32 0)] [(0, (.const (.int .u32 65537)))]),
 Zs 19 (.bld #[(.slice none 0 0), (.slice none 0 0)] [(0, 1), (1, 1)] [(0, (.tmp 17)), (1, (.tmp 18))]),
 Zs 20 (.bsl 50 1 32 #[(.int .u32 0)] [(0, (.const (.int .u32 221114889))), (1, (.const (.int .u32 4052409353))), (2, (.const (.int .u32 3618135462))), (3, (.const (.int .u32 3638896212))), (4, (.const (.int .u32 41876785))), (5, (.const (.int .u32 2981551223))), (6, (.const (.int .u32 2886658486))), (7, (.const (.int .u32 1775630866))), (8, (.const (.int .u32 3447871993))), (9, (.const (.int .u32 1687748997))), (10, (.const (.int .u32 3209162719))), (11, (.const (.int .u32 3268866316))), (12, (.const (.int .u32 2051154063))), (13, (.const (.int .u32 2544485275))), (14, (.const (.int .u32 3760155216))), (15, (.const (.int .u32 3752499951))), (16, (.const (.int .u32 2496820468))), (17, (.const (.int .u32 83771141))), (18, (.const (.int .u32 3160279440))), (19, (.const (.int .u32 1312331270))), (20, (.const (.int .u32 3585048767))), (21, (.const (.int .u32 3787517679))), (22, (.const (.int .u32 1319449402))), (23, (.const (.int .u32 1117739304))), (24, (.const (.int .u32 4056262221))), (25, (.const (.int .u32 2567164873))), (26, (.const (.int .u32 3762953771))), (27, (.const (.int .u32 2291027615))), (28, (.const (.int .u32 2230826018))), (29, (.const (.int .u32 4177935750))), (30, (.const (.int .u32 4171126346))), (31, (.const (.int .u32 831105070)))]),
 ⟨none, none, .st 2 (.tmp 2) (.tmp 19)⟩,
 Zo 3 20])
 .ret)))⟩
theorem h15 : strF Tryz.prog [] Tryz.f15 = some c15 := by kernel_rfl
/-- chirograph/chirographref01.SameBytes -/
def c18 : Fun := ⟨26, [.inl 4],
 (.seq (.ops [Zs 4 (.mv (.const (.bool false)))])
 (.seq (.seq (.ops [Zo 6 0,
 Zs 7 (.len (.tmp 6)),
 Zo 8 1,
 Zs 9 (.len (.tmp 8)),
 Zs 10 (.bin .neq (.tmp 7) (.tmp 9))])
 (.cond (.tmp 10)
 (.seq (.ops [Zs 4 (.mv (.const (.bool false)))])
 .ret)
 .skip))
 (.seq (.seq (.ops [Zs 5 (.mv (Zi 0))])
 (.block 0
 (.loop
 (.seq (.seq (.ops [Zo 11 5,
 Zo 12 0,
 Zs 13 (.len (.tmp 12)),
 Zs 14 (.bin .lss (.tmp 11) (.tmp 13))])
 (.cond (.tmp 14)
 .skip
 (.exit 0)))
 (.seq (.block 1
 (.seq (.draw 9 [Zo 17 0,
 Zo 18 5,
 Zs 19 (.ia 1 (.tmp 17) (.tmp 18)),
 Zs 20 (.ld (.int .u8) (.tmp 19)),
 Zo 21 1,
 Zo 22 5,
 Zs 23 (.ia 1 (.tmp 21) (.tmp 22)),
 Zs 24 (.ld (.int .u8) (.tmp 23)),
 Zs 25 (.bin .neq (.tmp 20) (.tmp 24))])
 (.cond (.tmp 25)
 (.seq (.ops [Zs 4 (.mv (.const (.bool false)))])
 .ret)
 .skip)))
 (.ops [Zo 15 5,
 Zs 16 (.bin .add (.tmp 15) (Zi 1)),
 Zo 5 16]))))))
 (.seq (.ops [Zs 4 (.mv (.const (.bool true)))])
 .ret))))⟩
theorem h18 : strF Tryz.prog [] Tryz.f18 = some c18 := by kernel_rfl
/-- chirograph/rsa.Pad -/
def c23 : Fun := ⟨40, [.inl 6, .inl 7],
 (.seq (.ops [Zs 6 (.mv (.const (.slice none 0 0))),
 Zs 7 (.mv (Zi 0))])
 (.seq (.seq (.ops [Zo 10 0,
 Zo 11 1,
 Zs 12 (.call 26 [(.tmp 10), (.tmp 11)]),
 Zs 13 (.un .not (.tmp 12)),
 Zo 14 13,
 ⟨some 15, some (14, false), .mv (.tmp 2)⟩,
 ⟨some 16, some (14, false), .bin .gtr (.tmp 15) (Zi 2048)⟩,
 Zs 17 (.pick (.tmp 14) (.const (.bool true)) (.tmp 16))])
 (.cond (.tmp 17)
 (.seq (.ops [Zs 6 (.mv (.const (.slice none 0 0))),
 Zs 7 (.mv (Zi 1))])
 .ret)
 .skip))
 (.seq (.ops [Zo 18 0,
 Zo 19 1,
 Zs 20 (.call 44 [(.tmp 18), (.tmp 19)]),
 Zo 8 20])
 (.seq (.seq (.ops [Zo 21 2,
 Zo 22 8,
 Zs 23 (.len (.tmp 22)),
 Zs 24 (.bin .add (.tmp 23) (Zi 11)),
 Zs 25 (.bin .lss (.tmp 21) (.tmp 24))])
 (.cond (.tmp 25)
 (.seq (.ops [Zs 6 (.mv (.const (.slice none 0 0))),
 Zs 7 (.mv (Zi 2))])
 .ret)
 .skip))
 (.seq (.ops [Zs 26 (.bsl 5 1 2 #[(.int .u8 0)] [(0, (.const (.int .u8 0))), (1, (.const (.int .u8 1)))]),
 Zs 27 (.bsl 5 1 1 #[(.int .u8 0)] [(0, (.const (.int .u8 255)))]),
 Zo 28 2,
 Zo 29 8,
 Zs 30 (.len (.tmp 29)),
 Zs 31 (.bin .sub (.tmp 28) (.tmp 30)),
 Zs 32 (.bin .sub (.tmp 31) (Zi 3)),
 Zs 33 (.call 45 [(.tmp 27), (.tmp 32)]),
 Zs 34 (.app 5 1 1 #[(.int .u8 0)] (.tmp 26) (.tmp 33)),
 Zo 9 34])
 (.seq (.ops [Zo 35 9,
 Zs 36 (.bsl 5 1 1 #[(.int .u8 0)] [(0, (.const (.int .u8 0)))]),
 Zs 37 (.app 5 1 1 #[(.int .u8 0)] (.tmp 35) (.tmp 36)),
 Zo 38 8,
 Zs 39 (.app 5 1 1 #[(.int .u8 0)] (.tmp 37) (.tmp 38)),
 Zo 6 39,
 Zs 7 (.mv (Zi 0))])
 .ret))))))⟩
theorem h23 : strF Tryz.prog [] Tryz.f23 = some c23 := by kernel_rfl
/-- chirograph/rsa.Check -/
def c24 : Fun := ⟨41, [.inl 2],
 (.seq (.ops [Zs 1 (.box 24 (.tmp 0)),
 Zs 2 (.mv (Zi 0))])
 (.seq (.drawT (.st 0 0 (.st 0 3 (.st 1 1 (.st 3 4 (.cov (.one 2 (.cov (.one 5 (.st 0 6 (.st 0 7 .nil))))))))))
 [Zs 5 (.fa 0 (.tmp 1)),
 Zs 6 (.ld .slice (.tmp 5)),
 Zs 7 (.call 38 [(.tmp 6)]),
 Zs 8 (.fa 1 (.tmp 1)),
 Zs 9 (.ld .slice (.tmp 8)),
 Zs 10 (.call 38 [(.tmp 9)]),
 Zo 3 7,
 Zo 4 10])
 (.seq (.block 0
 (.join (.seq (.ops [Zs 12 (.fa 0 (.tmp 1)),
 Zs 13 (.ld .slice (.tmp 12)),
 Zs 14 (.len (.tmp 13)),
 Zs 15 (.bin .gtr (.tmp 14) (Zi 256)),
 Zo 16 15,
 ⟨some 17, some (16, false), .fa 1 (.tmp 1)⟩,
 ⟨some 18, some (16, false), .ld .slice (.tmp 17)⟩,
 ⟨some 19, some (16, false), .len (.tmp 18)⟩,
 ⟨some 20, some (16, false), .bin .gtr (.tmp 19) (Zi 256)⟩,
 Zs 21 (.pick (.tmp 16) (.const (.bool true)) (.tmp 20)),
 Zo 11 21])
 (.cond (.tmp 11)
 .skip
 (.seq (.ops [Zo 22 3,
 Zs 23 (.bin .lss (.tmp 22) (Zi 512)),
 Zo 11 23])
 (.cond (.tmp 11)
 .skip
 (.seq (.ops [Zo 24 4,
 Zs 25 (.bin .lss (.tmp 24) (Zi 2)),
 Zo 26 25,
 ⟨some 27, some (26, false), .mv (.tmp 4)⟩,
 ⟨some 28, some (26, false), .bin .gtr (.tmp 27) (Zi 64)⟩,
 Zs 29 (.pick (.tmp 26) (.const (.bool true)) (.tmp 28)),
 Zo 11 29])
 (.cond (.tmp 11)
 .skip
 (.draw 12 [Zs 30 (.fa 0 (.tmp 1)),
 Zs 31 (.ld .slice (.tmp 30)),
 Zs 32 (.ia 1 (.tmp 31) (Zi 0)),
 Zs 33 (.ld (.int .u32) (.tmp 32)),
 Zs 34 (.fa 1 (.tmp 1)),
 Zs 35 (.ld .slice (.tmp 34)),
 Zs 36 (.ia 1 (.tmp 35) (Zi 0)),
 Zs 37 (.ld (.int .u32) (.tmp 36)),
 Zs 38 (.bin .and (.tmp 33) (.tmp 37)),
 Zs 39 (.bin .and (.tmp 38) (.const (.int .u32 1))),
 Zs 40 (.bin .eql (.tmp 39) (.const (.int .u32 0))),
 Zo 11 40])))))))
 (.cond (.tmp 11)
 (.seq (.ops [Zs 2 (.mv (Zi 80))])
 .ret)
 .skip)))
 (.seq (.ops [Zs 2 (.mv (Zi 0))])
 .ret))))⟩
theorem h24 : strF Tryz.prog [(1, .inr (.st 0 0 (.st 0 3 (.st 1 1 (.st 3 4 (.cov (.one 2 (.cov (.one 5 (.st 0 6 (.st 0 7 .nil)))))))))))] Tryz.f24 = some c24 := by kernel_rfl
/-- chirograph/rsa.Size -/
def c25 : Fun := ⟨11, [.inl 2],
 (.seq (.ops [Zs 1 (.box 24 (.tmp 0)),
 Zs 2 (.mv (Zi 0))])
 (.seq (.seq (.ops [Zs 3 (.ld (.agg 2) (.tmp 1)),
 Zs 4 (.call 24 [(.tmp 3)]),
 Zs 5 (.bin .neq (.tmp 4) (Zi 0))])
 (.cond (.tmp 5)
 (.seq (.ops [Zs 2 (.mv (Zi 0))])
 .ret)
 .skip))
 (.seq (.ops [Zs 6 (.fa 0 (.tmp 1)),
 Zs 7 (.ld .slice (.tmp 6)),
 Zs 8 (.call 38 [(.tmp 7)]),
 Zs 9 (.bin .add (.tmp 8) (Zi 7)),
 Zs 10 (.bin .quo (.tmp 9) (Zi 8)),
 Zo 2 10])
 .ret)))⟩
theorem h25 : strF Tryz.prog [] Tryz.f25 = some c25 := by kernel_rfl
/-- chirograph/rsa.known -/
def c26 : Fun := ⟨15, [.inl 4],
 (.seq (.ops [Zs 4 (.mv (.const (.bool false)))])
 (.seq (.ops [Zo 5 0,
 Zs 6 (.call 37 [(.tmp 5)]),
 Zs 7 (.bin .gtr (.tmp 6) (Zi 0)),
 Zo 8 7,
 ⟨some 9, some (8, true), .mv (.tmp 1)⟩,
 ⟨some 10, some (8, true), .len (.tmp 9)⟩,
 ⟨some 11, some (8, true), .mv (.tmp 0)⟩,
 ⟨some 12, some (8, true), .call 37 [(.tmp 11)]⟩,
 ⟨some 13, some (8, true), .bin .eql (.tmp 10) (.tmp 12)⟩,
 Zs 14 (.pick (.tmp 8) (.tmp 13) (.const (.bool false))),
 Zo 4 14])
 .ret))⟩
theorem h26 : strF Tryz.prog [] Tryz.f26 = some c26 := by kernel_rfl
/-- chirograph/rsa.Raw -/
def c27 : Fun := ⟨47, [.inl 4, .inl 5],
 (.seq (.ops [Zs 2 (.box 24 (.tmp 0)),
 Zs 4 (.mv (.const (.slice none 0 0))),
 Zs 5 (.mv (Zi 0))])
 (.seq (.ops [Zs 13 (.ld (.agg 2) (.tmp 2)),
 Zs 14 (.call 25 [(.tmp 13)]),
 Zo 6 14])
 (.seq (.seq (.ops [Zo 15 6,
 Zs 16 (.bin .eql (.tmp 15) (Zi 0))])
 (.cond (.tmp 16)
 (.seq (.ops [Zs 4 (.mv (.const (.slice none 0 0))),
 Zs 5 (.mv (Zi 80))])
 .ret)
 .skip))
 (.seq (.seq (.ops [Zo 17 1,
 Zs 18 (.len (.tmp 17)),
 Zo 19 6,
 Zs 20 (.bin .neq (.tmp 18) (.tmp 19))])
 (.cond (.tmp 20)
 (.seq (.ops [Zs 4 (.mv (.const (.slice none 0 0))),
 Zs 5 (.mv (Zi 112))])
 .ret)
 .skip))
 (.seq (.ops [Zo 22 1,
 Zs 23 (.call 46 [(.tmp 22)]),
 Zo 21 23,
 Zs 24 (.ext (.tmp 21) 0),
 Zs 25 (.ext (.tmp 21) 1),
 Zo 7 24,
 Zo 8 25])
 (.seq (.seq (.ops [Zo 26 7,
 Zs 27 (.fa 0 (.tmp 2)),
 Zs 28 (.ld .slice (.tmp 27)),
 Zs 29 (.call 47 [(.tmp 26), (.tmp 28)]),
 Zs 30 (.bin .geq (.tmp 29) (Zi 0))])
 (.cond (.tmp 30)
 (.seq (.ops [Zs 4 (.mv (.const (.slice none 0 0))),
 Zs 5 (.mv (Zi 112))])
 .ret)
 .skip))
 (.seq (.ops [Zo 32 7,
 Zs 33 (.fa 1 (.tmp 2)),
 Zs 34 (.ld .slice (.tmp 33)),
 Zs 35 (.fa 0 (.tmp 2)),
 Zs 36 (.ld .slice (.tmp 35)),
 Zs 37 (.call 48 [(.tmp 32), (.tmp 34), (.tmp 36)]),
 Zo 31 37,
 Zs 38 (.ext (.tmp 31) 0),
 Zs 39 (.ext (.tmp 31) 1),
 Zo 9 38,
 Zo 10 39])
 (.seq (.ops [Zo 41 9,
 Zo 42 6,
 Zs 43 (.call 49 [(.tmp 41), (.tmp 42)]),
 Zo 40 43,
 Zs 44 (.ext (.tmp 40) 0),
 Zs 45 (.ext (.tmp 40) 1),
 Zo 11 44,
 Zo 12 45])
 (.seq (.ops [Zo 46 11,
 Zo 4 46,
 Zs 5 (.mv (Zi 0))])
 .ret)))))))))⟩
theorem h27 : strF Tryz.prog [] Tryz.f27 = some c27 := by kernel_rfl
/-- bytes.Equal -/
def c28 : Fun := ⟨10, [.inl 4],
 (.seq (.ops [Zs 4 (.mv (.const (.bool false)))])
 (.seq (.ops [Zo 5 0,
 Zs 6 (.cvbs (.tmp 5)),
 Zo 7 1,
 Zs 8 (.cvbs (.tmp 7)),
 Zs 9 (.bin .eql (.tmp 6) (.tmp 8)),
 Zo 4 9])
 .ret))⟩
theorem h28 : strF Tryz.prog [] Tryz.f28 = some c28 := by kernel_rfl
/-- chirograph/chirographref08.Raw -/
def c29 : Fun := ⟨43, [.inl 4, .inl 5],
 (.seq (.ops [Zs 2 (.box 24 (.tmp 0)),
 Zs 4 (.mv (.const (.slice none 0 0))),
 Zs 5 (.mv (Zi 0))])
 (.seq (.seq (.ops [Zs 10 (.ld (.agg 2) (.tmp 2)),
 Zs 11 (.call 50 [(.tmp 10)]),
 Zs 12 (.bin .neq (.tmp 11) (Zi 0))])
 (.cond (.tmp 12)
 (.seq (.ops [Zs 4 (.mv (.const (.slice none 0 0))),
 Zs 5 (.mv (Zi 80))])
 .ret)
 .skip))
 (.seq (.seq (.ops [Zo 13 1,
 Zs 14 (.len (.tmp 13)),
 Zs 15 (.ld (.agg 2) (.tmp 2)),
 Zs 16 (.call 35 [(.tmp 15)]),
 Zs 17 (.bin .neq (.tmp 14) (.tmp 16))])
 (.cond (.tmp 17)
 (.seq (.ops [Zs 4 (.mv (.const (.slice none 0 0))),
 Zs 5 (.mv (Zi 112))])
 .ret)
 .skip))
 (.seq (.ops [Zo 19 1,
 Zs 20 (.call 51 [(.tmp 19)]),
 Zo 18 20,
 Zs 21 (.ext (.tmp 18) 0),
 Zs 22 (.ext (.tmp 18) 1),
 Zo 6 21,
 Zo 7 22])
 (.seq (.seq (.ops [Zo 23 6,
 Zs 24 (.fa 0 (.tmp 2)),
 Zs 25 (.ld .slice (.tmp 24)),
 Zs 26 (.call 52 [(.tmp 23), (.tmp 25)]),
 Zs 27 (.bin .geq (.tmp 26) (Zi 0))])
 (.cond (.tmp 27)
 (.seq (.ops [Zs 4 (.mv (.const (.slice none 0 0))),
 Zs 5 (.mv (Zi 112))])
 .ret)
 .skip))
 (.seq (.ops [Zo 29 6,
 Zs 30 (.fa 1 (.tmp 2)),
 Zs 31 (.ld .slice (.tmp 30)),
 Zs 32 (.fa 0 (.tmp 2)),
 Zs 33 (.ld .slice (.tmp 32)),
 Zs 34 (.call 53 [(.tmp 29), (.tmp 31), (.tmp 33)]),
 Zo 28 34,
 Zs 35 (.ext (.tmp 28) 0),
 Zs 36 (.ext (.tmp 28) 1),
 Zo 8 35,
 Zo 9 36])
 (.seq (.ops [Zo 37 8,
 Zs 38 (.ld (.agg 2) (.tmp 2)),
 Zs 39 (.call 35 [(.tmp 38)]),
 Zs 40 (.call 54 [(.tmp 37), (.tmp 39)]),
 Zs 41 (.ext (.tmp 40) 0),
 Zs 42 (.ext (.tmp 40) 1),
 Zo 4 41,
 Zo 5 42])
 .ret)))))))⟩
theorem h29 : strF Tryz.prog [] Tryz.f29 = some c29 := by kernel_rfl
/-- chirograph/chirographref08.Pad -/
def c30 : Fun := ⟨60, [.inl 6, .inl 7],
 (.seq (.ops [Zs 6 (.mv (.const (.slice none 0 0))),
 Zs 7 (.mv (Zi 0))])
 (.seq (.seq (.ops [Zo 10 0,
 Zs 11 (.call 14 [(.tmp 10)]),
 Zs 12 (.bin .eql (.tmp 11) (Zi 0)),
 Zo 13 12,
 ⟨some 14, some (13, false), .mv (.tmp 1)⟩,
 ⟨some 15, some (13, false), .len (.tmp 14)⟩,
 ⟨some 16, some (13, false), .mv (.tmp 0)⟩,
 ⟨some 17, some (13, false), .call 14 [(.tmp 16)]⟩,
 ⟨some 18, some (13, false), .bin .neq (.tmp 15) (.tmp 17)⟩,
 Zs 19 (.pick (.tmp 13) (.const (.bool true)) (.tmp 18)),
 Zo 20 19,
 ⟨some 21, some (20, false), .mv (.tmp 2)⟩,
 ⟨some 22, some (20, false), .bin .gtr (.tmp 21) (Zi 2048)⟩,
 Zs 23 (.pick (.tmp 20) (.const (.bool true)) (.tmp 22))])
 (.cond (.tmp 23)
 (.seq (.ops [Zs 6 (.mv (.const (.slice none 0 0))),
 Zs 7 (.mv (Zi 1))])
 .ret)
 .skip))
 (.seq (.ops [Zo 24 0,
 Zs 25 (.call 57 [(.tmp 24)]),
 Zs 26 (.call 56 [(.tmp 25)]),
 Zs 27 (.call 58 [(Zi 5), (.const (.slice none 0 0))]),
 Zs 28 (.bsl 25 1 2 #[(.slice none 0 0)] [(0, (.tmp 26)), (1, (.tmp 27))]),
 Zs 29 (.call 55 [(Zi 16), (.tmp 28)]),
 Zo 30 1,
 Zs 31 (.call 58 [(Zi 4), (.tmp 30)]),
 Zs 32 (.bsl 25 1 2 #[(.slice none 0 0)] [(0, (.tmp 29)), (1, (.tmp 31))]),
 Zs 33 (.call 55 [(Zi 16), (.tmp 32)]),
 Zo 8 33])
 (.seq (.seq (.ops [Zo 34 2,
 Zs 35 (.bin .lss (.tmp 34) (Zi 11)),
 Zo 36 35,
 ⟨some 37, some (36, false), .mv (.tmp 2)⟩,
 ⟨some 38, some (36, false), .bin .sub (.tmp 37) (Zi 11)⟩,
 ⟨some 39, some (36, false), .mv (.tmp 8)⟩,
 ⟨some 40, some (36, false), .len (.tmp 39)⟩,
 ⟨some 41, some (36, false), .bin .lss (.tmp 38) (.tmp 40)⟩,
 Zs 42 (.pick (.tmp 36) (.const (.bool true)) (.tmp 41))])
 (.cond (.tmp 42)
 (.seq (.ops [Zs 6 (.mv (.const (.slice none 0 0))),
 Zs 7 (.mv (Zi 2))])
 .ret)
 .skip))
 (.seq (.ops [Zs 43 (.bsl 5 1 2 #[(.int .u8 0)] [(0, (.const (.int .u8 0))), (1, (.const (.int .u8 1)))]),
 Zo 9 43])
 (.seq (.block 0
 (.loop
 (.seq (.seq (.ops [Zo 44 9,
 Zs 45 (.len (.tmp 44)),
 Zo 46 2,
 Zs 47 (.bin .sub (.tmp 46) (Zi 1)),
 Zo 48 8,
 Zs 49 (.len (.tmp 48)),
 Zs 50 (.bin .sub (.tmp 47) (.tmp 49)),
 Zs 51 (.bin .lss (.tmp 45) (.tmp 50))])
 (.cond (.tmp 51)
 .skip
 (.exit 0)))
 (.block 1
 (.ops [Zo 52 9,
 Zs 53 (.bsl 5 1 1 #[(.int .u8 0)] [(0, (.const (.int .u8 255)))]),
 Zs 54 (.app 5 1 1 #[(.int .u8 0)] (.tmp 52) (.tmp 53)),
 Zo 9 54])))))
 (.seq (.ops [Zo 55 9,
 Zs 56 (.bsl 5 1 1 #[(.int .u8 0)] [(0, (.const (.int .u8 0)))]),
 Zs 57 (.app 5 1 1 #[(.int .u8 0)] (.tmp 55) (.tmp 56)),
 Zo 58 8,
 Zs 59 (.app 5 1 1 #[(.int .u8 0)] (.tmp 57) (.tmp 58)),
 Zo 6 59,
 Zs 7 (.mv (Zi 0))])
 .ret)))))))⟩
theorem h30 : strF Tryz.prog [] Tryz.f30 = some c30 := by kernel_rfl
/-- chirograph/chirographref08.Size -/
def c35 : Fun := ⟨11, [.inl 2],
 (.seq (.ops [Zs 1 (.box 24 (.tmp 0)),
 Zs 2 (.mv (Zi 0))])
 (.seq (.seq (.ops [Zs 3 (.ld (.agg 2) (.tmp 1)),
 Zs 4 (.call 50 [(.tmp 3)]),
 Zs 5 (.bin .neq (.tmp 4) (Zi 0))])
 (.cond (.tmp 5)
 (.seq (.ops [Zs 2 (.mv (Zi 0))])
 .ret)
 .skip))
 (.seq (.ops [Zs 6 (.fa 0 (.tmp 1)),
 Zs 7 (.ld .slice (.tmp 6)),
 Zs 8 (.call 41 [(.tmp 7)]),
 Zs 9 (.bin .add (.tmp 8) (Zi 7)),
 Zs 10 (.bin .quo (.tmp 9) (Zi 8)),
 Zo 2 10])
 .ret)))⟩
theorem h35 : strF Tryz.prog [] Tryz.f35 = some c35 := by kernel_rfl
/-- chirograph/digest.Size -/
def c37 : Fun := ⟨12, [.inl 2],
 (.seq (.ops [Zs 2 (.mv (Zi 0))])
 (.seq (.seq (.ops [Zo 3 0])
 (.block 0
 (.seq (.ops [Zs 5 (.bin .eql (.tmp 3) (Zi 1)),
 Zo 4 5])
 (.cond (.tmp 4)
 (.seq (.ops [Zs 2 (.mv (Zi 20))])
 .ret)
 (.seq (.ops [Zs 7 (.bin .eql (.tmp 3) (Zi 2)),
 Zo 6 7])
 (.cond (.tmp 6)
 (.seq (.ops [Zs 2 (.mv (Zi 32))])
 .ret)
 (.seq (.ops [Zs 9 (.bin .eql (.tmp 3) (Zi 3)),
 Zo 8 9])
 (.cond (.tmp 8)
 (.seq (.ops [Zs 2 (.mv (Zi 48))])
 .ret)
 (.seq (.ops [Zs 11 (.bin .eql (.tmp 3) (Zi 4)),
 Zo 10 11])
 (.cond (.tmp 10)
 (.seq (.ops [Zs 2 (.mv (Zi 64))])
 .ret)
 .skip))))))))))
 (.seq (.ops [Zs 2 (.mv (Zi 0))])
 .ret)))⟩
theorem h37 : strF Tryz.prog [] Tryz.f37 = some c37 := by kernel_rfl
/-- chirograph/nat.Bits -/
def c38 : Fun := ⟨20, [.inl 2],
 (.seq (.ops [Zs 2 (.mv (Zi 0))])
 (.seq (.ops [Zo 3 0,
 Zs 4 (.call 64 [(.tmp 3)]),
 Zo 0 4])
 (.seq (.seq (.ops [Zo 5 0,
 Zs 6 (.len (.tmp 5)),
 Zs 7 (.bin .eql (.tmp 6) (Zi 0))])
 (.cond (.tmp 7)
 (.seq (.ops [Zs 2 (.mv (Zi 0))])
 .ret)
 .skip))
 (.seq (.ops [Zo 8 0,
 Zs 9 (.len (.tmp 8)),
 Zs 10 (.bin .sub (.tmp 9) (Zi 1)),
 Zs 11 (.bin .mul (Zi 32) (.tmp 10)),
 Zo 12 0,
 Zo 13 0,
 Zs 14 (.len (.tmp 13)),
 Zs 15 (.bin .sub (.tmp 14) (Zi 1)),
 Zs 16 (.ia 1 (.tmp 12) (.tmp 15)),
 Zs 17 (.ld (.int .u32) (.tmp 16)),
 Zs 18 (.call 65 [(.tmp 17)]),
 Zs 19 (.bin .add (.tmp 11) (.tmp 18)),
 Zo 2 19])
 .ret))))⟩
theorem h38 : strF Tryz.prog [] Tryz.f38 = some c38 := by kernel_rfl
/-- bytes.TrimLeft -/
def c39 : Fun := ⟨36, [.inl 4],
 (.seq (.ops [Zs 4 (.mv (.const (.slice none 0 0)))])
 (.seq (.seq (.ops [Zo 7 0,
 Zs 8 (.len (.tmp 7)),
 Zs 9 (.bin .eql (.tmp 8) (Zi 0))])
 (.cond (.tmp 9)
 (.seq (.ops [Zs 4 (.mv (.const (.slice none 0 0)))])
 .ret)
 .skip))
 (.seq (.seq (.ops [Zo 10 1,
 Zs 11 (.bin .eql (.tmp 10) (.const (.string ⟨#[]⟩)))])
 (.cond (.tmp 11)
 (.seq (.ops [Zo 12 0,
 Zo 4 12])
 .ret)
 .skip))
 (.seq (.seq (.ops [Zo 13 1,
 Zs 14 (.lens (.tmp 13)),
 Zs 15 (.bin .eql (.tmp 14) (Zi 1)),
 Zo 16 15,
 ⟨some 17, some (16, true), .mv (.tmp 1)⟩,
 ⟨some 18, some (16, true), .ixs (.tmp 17) (Zi 0)⟩,
 ⟨some 19, some (16, true), .bin .lss (.tmp 18) (.const (.int .u8 128))⟩,
 Zs 20 (.pick (.tmp 16) (.tmp 19) (.const (.bool false)))])
 (.cond (.tmp 20)
 (.seq (.ops [Zo 21 0,
 Zo 22 1,
 Zs 23 (.ixs (.tmp 22) (Zi 0)),
 Zs 24 (.call 66 [(.tmp 21), (.tmp 23)]),
 Zo 4 24])
 .ret)
 .skip))
 (.seq (.seq (.ops [Zo 26 1,
 Zs 27 (.call 67 [(.tmp 26)]),
 Zo 25 27,
 Zs 28 (.ext (.tmp 25) 0),
 Zs 29 (.ext (.tmp 25) 1),
 Zs 5 (.alloc 95 (.agg (Array.replicate 256 (.bool false)))),
 ⟨none, none, .st 256 (.tmp 5) (.tmp 28)⟩,
 Zo 6 29])
 (.seq (.ops [Zo 30 6])
 (.cond (.tmp 30)
 (.seq (.ops [Zo 31 0,
 Zs 32 (.call 68 [(.tmp 31), (.tmp 5)]),
 Zo 4 32])
 .ret)
 .skip)))
 (.seq (.ops [Zo 33 0,
 Zo 34 1,
 Zs 35 (.call 69 [(.tmp 33), (.tmp 34)]),
 Zo 4 35])
 .ret))))))⟩
theorem h39 : strF Tryz.prog [] Tryz.f39 = some c39 := by kernel_rfl
/-- chirograph/digest.Sum -/
def c40 : Fun := ⟨49, [.inl 4, .inl 5],
 (.seq (.ops [Zs 4 (.mv (.const (.slice none 0 0))),
 Zs 5 (.mv (Zi 0))])
 (.seq (.seq (.ops [Zo 13 0,
 Zs 14 (.call 37 [(.tmp 13)]),
 Zs 15 (.bin .eql (.tmp 14) (Zi 0))])
 (.cond (.tmp 15)
 (.seq (.ops [Zs 4 (.mv (.const (.slice none 0 0))),
 Zs 5 (.mv (Zi 1))])
 .ret)
 .skip))
 (.seq (.ops [Zs 6 (.mv (Zi 0))])
 (.seq (.seq (.ops [Zo 16 1,
 Zs 17 (.len (.tmp 16)),
 Zs 18 (.mv (Zi 0))])
 (.block 0
 (.loop
 (.seq (.ops [Zs 19 (.bin .lss (.tmp 18) (.tmp 17))])
 (.seq (.cond (.tmp 19)
 .skip
 (.exit 0))
 (.seq (.block 1
 (.seq (.ops [Zs 20 (.ia 1 (.tmp 16) (.tmp 18)),
 Zs 21 (.ld .slice (.tmp 20)),
 Zo 8 21])
 (.seq (.seq (.ops [Zo 22 8,
 Zs 23 (.len (.tmp 22)),
 Zo 24 6,
 Zs 25 (.bin .sub (Zi 16777216) (.tmp 24)),
 Zs 26 (.bin .gtr (.tmp 23) (.tmp 25))])
 (.cond (.tmp 26)
 (.seq (.ops [Zs 4 (.mv (.const (.slice none 0 0))),
 Zs 5 (.mv (Zi 3))])
 .ret)
 .skip))
 (.ops [Zo 27 6,
 Zo 28 8,
 Zs 29 (.len (.tmp 28)),
 Zs 30 (.bin .add (.tmp 27) (.tmp 29)),
 Zo 6 30]))))
 (.ops [Zs 31 (.bin .add (.tmp 18) (Zi 1)),
 Zo 18 31])))))))
 (.seq (.ops [Zo 33 0,
 Zs 34 (.call 70 [(.tmp 33)]),
 Zo 32 34,
 Zs 35 (.ext (.tmp 32) 0),
 Zs 36 (.ext (.tmp 32) 1),
 Zo 9 35,
 Zo 10 36])
 (.seq (.seq (.ops [Zo 37 1,
 Zs 38 (.len (.tmp 37)),
 Zs 39 (.mv (Zi 0))])
 (.block 2
 (.loop
 (.seq (.ops [Zs 40 (.bin .lss (.tmp 39) (.tmp 38))])
 (.seq (.cond (.tmp 40)
 .skip
 (.exit 2))
 (.seq (.block 3
 (.seq (.ops [Zs 41 (.ia 1 (.tmp 37) (.tmp 39)),
 Zs 42 (.ld .slice (.tmp 41)),
 Zo 12 42])
 (.ops [Zo 43 9,
 Zo 44 12,
 Zs 45 (.call 71 [(.tmp 43), (.tmp 44)])])))
 (.ops [Zs 46 (.bin .add (.tmp 39) (Zi 1)),
 Zo 39 46])))))))
 (.seq (.ops [Zo 47 9,
 Zs 48 (.call 72 [(.tmp 47)]),
 Zo 4 48,
 Zs 5 (.mv (Zi 0))])
 .ret)))))))⟩
theorem h40 : strF Tryz.prog [] Tryz.f40 = some c40 := by kernel_rfl
/-- chirograph/chirographref01.Bits -/
def c41 : Fun := ⟨29, [.inl 2],
 (.seq (.ops [Zs 2 (.mv (Zi 0))])
 (.seq (.ops [Zo 5 0,
 Zs 6 (.call 73 [(.tmp 5)]),
 Zo 3 6])
 (.seq (.ops [Zo 7 3,
 Zs 8 (.len (.tmp 7)),
 Zs 9 (.bin .mul (Zi 16) (.tmp 8)),
 Zo 4 9])
 (.seq (.block 0
 (.loop
 (.seq (.seq (.ops [Zo 10 4,
 Zs 11 (.bin .gtr (.tmp 10) (Zi 0)),
 Zo 12 11,
 ⟨some 13, some (12, true), .mv (.tmp 3)⟩,
 ⟨some 14, some (12, true), .mv (.tmp 4)⟩,
 ⟨some 15, some (12, true), .bin .sub (.tmp 14) (Zi 1)⟩,
 ⟨some 16, some (12, true), .bin .quo (.tmp 15) (Zi 16)⟩,
 ⟨some 17, some (12, true), .ia 1 (.tmp 13) (.tmp 16)⟩,
 ⟨some 18, some (12, true), .ld (.int .u64) (.tmp 17)⟩,
 ⟨some 19, some (12, true), .mv (.tmp 4)⟩,
 ⟨some 20, some (12, true), .bin .sub (.tmp 19) (Zi 1)⟩,
 ⟨some 21, some (12, true), .bin .rem (.tmp 20) (Zi 16)⟩,
 ⟨some 22, some (12, true), .bin .shr (.tmp 18) (.tmp 21)⟩,
 ⟨some 23, some (12, true), .bin .and (.tmp 22) (.const (.int .u64 1))⟩,
 ⟨some 24, some (12, true), .bin .eql (.tmp 23) (.const (.int .u64 0))⟩,
 Zs 25 (.pick (.tmp 12) (.tmp 24) (.const (.bool false)))])
 (.cond (.tmp 25)
 .skip
 (.exit 0)))
 (.block 1
 (.ops [Zo 26 4,
 Zs 27 (.bin .sub (.tmp 26) (Zi 1)),
 Zo 4 27])))))
 (.seq (.ops [Zo 28 4,
 Zo 2 28])
 .ret)))))⟩
theorem h41 : strF Tryz.prog [] Tryz.f41 = some c41 := by kernel_rfl
/-- chirograph/rsa.info -/
def c44 : Fun := ⟨54, [.inl 4],
 (.seq (.ops [Zs 4 (.mv (.const (.slice none 0 0)))])
 (.seq (.ops [Zo 18 0,
 Zs 19 (.call 76 [(.tmp 18)]),
 Zs 20 (.call 75 [(.tmp 19)]),
 Zo 17 20,
 Zs 21 (.ext (.tmp 17) 0),
 Zs 22 (.ext (.tmp 17) 1),
 Zo 5 21,
 Zo 6 22])
 (.seq (.ops [Zo 24 5,
 Zs 25 (.bsl 25 1 1 #[(.slice none 0 0)] [(0, (.tmp 24))]),
 Zs 26 (.call 77 [(Zi 0), (Zi 6), (.const (.bool false)), (.tmp 25)]),
 Zo 23 26,
 Zs 27 (.ext (.tmp 23) 0),
 Zs 28 (.ext (.tmp 23) 1),
 Zo 7 27,
 Zo 8 28])
 (.seq (.ops [Zs 30 (.call 77 [(Zi 0), (Zi 5), (.const (.bool false)), (.const (.slice none 0 0))]),
 Zo 29 30,
 Zs 31 (.ext (.tmp 29) 0),
 Zs 32 (.ext (.tmp 29) 1),
 Zo 9 31,
 Zo 10 32])
 (.seq (.ops [Zo 34 7,
 Zo 35 9,
 Zs 36 (.bsl 25 1 2 #[(.slice none 0 0)] [(0, (.tmp 34)), (1, (.tmp 35))]),
 Zs 37 (.call 77 [(Zi 0), (Zi 16), (.const (.bool true)), (.tmp 36)]),
 Zo 33 37,
 Zs 38 (.ext (.tmp 33) 0),
 Zs 39 (.ext (.tmp 33) 1),
 Zo 11 38,
 Zo 12 39])
 (.seq (.ops [Zo 41 1,
 Zs 42 (.bsl 25 1 1 #[(.slice none 0 0)] [(0, (.tmp 41))]),
 Zs 43 (.call 77 [(Zi 0), (Zi 4), (.const (.bool false)), (.tmp 42)]),
 Zo 40 43,
 Zs 44 (.ext (.tmp 40) 0),
 Zs 45 (.ext (.tmp 40) 1),
 Zo 13 44,
 Zo 14 45])
 (.seq (.ops [Zo 47 11,
 Zo 48 13,
 Zs 49 (.bsl 25 1 2 #[(.slice none 0 0)] [(0, (.tmp 47)), (1, (.tmp 48))]),
 Zs 50 (.call 77 [(Zi 0), (Zi 16), (.const (.bool true)), (.tmp 49)]),
 Zo 46 50,
 Zs 51 (.ext (.tmp 46) 0),
 Zs 52 (.ext (.tmp 46) 1),
 Zo 15 51,
 Zo 16 52])
 (.seq (.ops [Zo 53 15,
 Zo 4 53])
 .ret))))))))⟩
theorem h44 : strF Tryz.prog [] Tryz.f44 = some c44 := by kernel_rfl
/-- bytes.Repeat -/
def c45 : Fun := ⟨77, [.inl 4],
 (.seq (.ops [Zs 4 (.mv (.const (.slice none 0 0)))])
 (.seq (.seq (.ops [Zo 12 1,
 Zs 13 (.bin .eql (.tmp 12) (Zi 0))])
 (.cond (.tmp 13)
 (.seq (.ops [Zs 14 (.bsl0 5),
 Zo 4 14])
 .ret)
 .skip))
 (.join (.seq (.ops [Zo 15 1,
 Zs 16 (.bin .lss (.tmp 15) (Zi 0))])
 (.cond (.tmp 16)
 (.ops [Zs 17 (.mki 9 (.const (.string ⟨#[98, 121, 116, 101, 115, 58, 32, 110, 101, 103, 97, 116, 105, 118, 101, 32, 82, 101, 112, 101, 97, 116, 32, 99, 111, 117, 110, 116]⟩))),
 ⟨none, none, .no⟩])
 .skip))
 (.seq (.ops [Zo 19 0,
 Zs 20 (.len (.tmp 19)),
 Zs 21 (.cv .u64 (.tmp 20)),
 Zo 22 1,
 Zs 23 (.cv .u64 (.tmp 22)),
 Zs 24 (.call 78 [(.tmp 21), (.tmp 23)]),
 Zo 18 24,
 Zs 25 (.ext (.tmp 18) 0),
 Zs 26 (.ext (.tmp 18) 1),
 Zo 5 25,
 Zo 6 26])
 (.join (.seq (.ops [Zo 27 5,
 Zs 28 (.bin .gtr (.tmp 27) (.const (.int .u64 0))),
 Zo 29 28,
 ⟨some 30, some (29, false), .mv (.tmp 6)⟩,
 ⟨some 31, some (29, false), .bin .gtr (.tmp 30) (.const (.int .u64 9223372036854775807))⟩,
 Zs 32 (.pick (.tmp 29) (.const (.bool true)) (.tmp 31))])
 (.cond (.tmp 32)
 (.ops [Zs 33 (.mki 9 (.const (.string ⟨#[98, 121, 116, 101, 115, 58, 32, 82, 101, 112, 101, 97, 116, 32, 111, 117, 116, 112, 117, 116, 32, 108, 101, 110, 103, 116, 104, 32, 111, 118, 101, 114, 102, 108, 111, 119]⟩))),
 ⟨none, none, .no⟩])
 .skip))
 (.seq (.ops [Zo 34 6,
 Zs 35 (.cv .i64 (.tmp 34)),
 Zo 7 35])
 (.seq (.seq (.ops [Zo 36 0,
 Zs 37 (.len (.tmp 36)),
 Zs 38 (.bin .eql (.tmp 37) (Zi 0))])
 (.cond (.tmp 38)
 (.seq (.ops [Zs 39 (.bsl0 5),
 Zo 4 39])
 .ret)
 .skip))
 (.seq (.ops [Zo 40 7,
 Zo 8 40])
 (.join (.seq (.ops [Zo 41 8,
 Zs 42 (.bin .gtr (.tmp 41) (Zi 8192))])
 (.cond (.tmp 42)
 (.seq (.ops [Zo 43 0,
 Zs 44 (.len (.tmp 43)),
 Zs 45 (.bin .quo (Zi 8192) (.tmp 44)),
 Zo 46 0,
 Zs 47 (.len (.tmp 46)),
 Zs 48 (.bin .mul (.tmp 45) (.tmp 47)),
 Zo 8 48])
 (.seq (.ops [Zo 49 8,
 Zs 50 (.bin .eql (.tmp 49) (Zi 0))])
 (.cond (.tmp 50)
 (.ops [Zo 51 0,
 Zs 52 (.len (.tmp 51)),
 Zo 8 52])
 .skip)))
 .skip))
 (.seq (.ops [Zo 53 7,
 Zs 54 (.raw (.call { callee := .value (.func 79), args := #[(.tmp 53)], argTypes := #[3] })),
 Zo 55 7,
 Zo 56 7,
 Zs 57 (.slc 1 (.tmp 54) none (some (.tmp 55)) (some (.tmp 56))),
 Zo 9 57])
 (.seq (.ops [Zo 58 9,
 Zo 59 0,
 Zs 60 (.cpy 1 (.tmp 58) (.tmp 59)),
 Zo 10 60])
 (.seq (.block 0
 (.loop
 (.seq (.seq (.ops [Zo 61 10,
 Zo 62 7,
 Zs 63 (.bin .lss (.tmp 61) (.tmp 62))])
 (.cond (.tmp 63)
 .skip
 (.exit 0)))
 (.block 1
 (.seq (.ops [Zo 64 10,
 Zo 65 8,
 Zs 66 (.min2 (.tmp 64) (.tmp 65)),
 Zo 11 66])
 (.drawS [(0, 0), (0, 1), (0, 2), (0, 3), (0, 4), (0, 5), (0, 6), (2, 7), (0, 8), (0, 9)]
 [Zo 67 10,
 Zo 68 9,
 Zo 69 10,
 Zs 70 (.slc 1 (.tmp 68) (some (.tmp 69)) none none),
 Zo 71 9,
 Zo 72 11,
 Zs 73 (.slc 1 (.tmp 71) none (some (.tmp 72)) none),
 Zs 74 (.cpy 1 (.tmp 70) (.tmp 73)),
 Zs 75 (.bin .add (.tmp 67) (.tmp 74)),
 Zo 10 75]))))))
 (.seq (.ops [Zo 76 9,
 Zo 4 76])
 .ret)))))))))))))⟩
theorem h45 : strF Tryz.prog [(20, .inl [(0, 0), (0, 1), (0, 2), (0, 3), (0, 4), (0, 5), (0, 6), (2, 7), (0, 8), (0, 9)])] Tryz.f45 = some c45 := by kernel_rfl
/-- chirograph/nat.FromBytes -/
def c46 : Fun := ⟨42, [.inl 2, .inl 3],
 (.seq (.ops [Zs 2 (.mv (.const (.slice none 0 0))),
 Zs 3 (.mv (Zi 0))])
 (.seq (.seq (.ops [Zo 6 0,
 Zs 7 (.len (.tmp 6)),
 Zs 8 (.bin .gtr (.tmp 7) (Zi 2048))])
 (.cond (.tmp 8)
 (.seq (.ops [Zs 2 (.mv (.const (.slice none 0 0))),
 Zs 3 (.mv (Zi 3))])
 .ret)
 .skip))
 (.seq (.ops [Zo 9 0,
 Zs 10 (.len (.tmp 9)),
 Zs 11 (.bin .add (.tmp 10) (Zi 3)),
 Zs 12 (.bin .quo (.tmp 11) (Zi 4)),
 Zs 13 (.mks 50 1 4 #[(.int .u32 0)] (.tmp 12) (.tmp 12)),
 Zo 4 13])
 (.seq (.seq (.ops [Zo 14 0,
 Zs 15 (.len (.tmp 14)),
 Zs 16 (.mv (Zi 0))])
 (.block 0
 (.loop
 (.seq (.ops [Zs 17 (.bin .lss (.tmp 16) (.tmp 15))])
 (.seq (.cond (.tmp 17)
 .skip
 (.exit 0))
 (.seq (.block 1
 (.seq (.ops [Zo 18 16,
 Zo 5 18])
 (.draw 20 [Zo 19 4,
 Zo 20 5,
 Zs 21 (.bin .quo (.tmp 20) (Zi 4)),
 Zs 22 (.ia 1 (.tmp 19) (.tmp 21)),
 Zs 23 (.ld (.int .u32) (.tmp 22)),
 Zo 24 0,
 Zo 25 0,
 Zs 26 (.len (.tmp 25)),
 Zs 27 (.bin .sub (.tmp 26) (Zi 1)),
 Zo 28 5,
 Zs 29 (.bin .sub (.tmp 27) (.tmp 28)),
 Zs 30 (.ia 1 (.tmp 24) (.tmp 29)),
 Zs 31 (.ld (.int .u8) (.tmp 30)),
 Zs 32 (.cv .u32 (.tmp 31)),
 Zo 33 5,
 Zs 34 (.bin .rem (.tmp 33) (Zi 4)),
 Zs 35 (.bin .mul (Zi 8) (.tmp 34)),
 Zs 36 (.bin .shl (.tmp 32) (.tmp 35)),
 Zs 37 (.bin .or (.tmp 23) (.tmp 36)),
 Zs 38 (.ia 1 (.tmp 19) (.tmp 21)),
 ⟨none, none, .st 1 (.tmp 38) (.tmp 37)⟩])))
 (.ops [Zs 39 (.bin .add (.tmp 16) (Zi 1)),
 Zo 16 39])))))))
 (.seq (.ops [Zo 40 4,
 Zs 41 (.call 64 [(.tmp 40)]),
 Zo 2 41,
 Zs 3 (.mv (Zi 0))])
 .ret)))))⟩
theorem h46 : strF Tryz.prog [] Tryz.f46 = some c46 := by kernel_rfl
/-- chirograph/nat.Cmp -/
def c47 : Fun := ⟨52, [.inl 4],
 (.seq (.ops [Zs 4 (.mv (Zi 0))])
 (.seq (.ops [Zo 7 0,
 Zs 8 (.call 64 [(.tmp 7)]),
 Zo 9 1,
 Zs 10 (.call 64 [(.tmp 9)]),
 Zo 0 8,
 Zo 1 10])
 (.seq (.block 0
 (.seq (.ops [Zo 12 0,
 Zs 13 (.len (.tmp 12)),
 Zo 14 1,
 Zs 15 (.len (.tmp 14)),
 Zs 16 (.bin .lss (.tmp 13) (.tmp 15)),
 Zo 11 16])
 (.cond (.tmp 11)
 (.seq (.ops [Zs 4 (.mv (.const (.int .i64 (-1))))])
 .ret)
 (.seq (.ops [Zo 18 0,
 Zs 19 (.len (.tmp 18)),
 Zo 20 1,
 Zs 21 (.len (.tmp 20)),
 Zs 22 (.bin .gtr (.tmp 19) (.tmp 21)),
 Zo 17 22])
 (.cond (.tmp 17)
 (.seq (.ops [Zs 4 (.mv (Zi 1))])
 .ret)
 .skip)))))
 (.seq (.seq (.ops [Zo 23 0,
 Zs 24 (.len (.tmp 23)),
 Zs 25 (.mv (Zi 0))])
 (.block 1
 (.loop
 (.seq (.ops [Zs 26 (.bin .lss (.tmp 25) (.tmp 24))])
 (.seq (.cond (.tmp 26)
 .skip
 (.exit 1))
 (.seq (.block 2
 (.seq (.ops [Zo 27 25,
 Zo 5 27])
 (.seq (.ops [Zo 28 0,
 Zs 29 (.len (.tmp 28)),
 Zs 30 (.bin .sub (.tmp 29) (Zi 1)),
 Zo 31 5,
 Zs 32 (.bin .sub (.tmp 30) (.tmp 31)),
 Zo 6 32])
 (.seq (.seq (.draw 9 [Zo 33 0,
 Zo 34 6,
 Zs 35 (.ia 1 (.tmp 33) (.tmp 34)),
 Zs 36 (.ld (.int .u32) (.tmp 35)),
 Zo 37 1,
 Zo 38 6,
 Zs 39 (.ia 1 (.tmp 37) (.tmp 38)),
 Zs 40 (.ld (.int .u32) (.tmp 39)),
 Zs 41 (.bin .lss (.tmp 36) (.tmp 40))])
 (.cond (.tmp 41)
 (.seq (.ops [Zs 4 (.mv (.const (.int .i64 (-1))))])
 .ret)
 .skip))
 (.seq (.draw 9 [Zo 42 0,
 Zo 43 6,
 Zs 44 (.ia 1 (.tmp 42) (.tmp 43)),
 Zs 45 (.ld (.int .u32) (.tmp 44)),
 Zo 46 1,
 Zo 47 6,
 Zs 48 (.ia 1 (.tmp 46) (.tmp 47)),
 Zs 49 (.ld (.int .u32) (.tmp 48)),
 Zs 50 (.bin .gtr (.tmp 45) (.tmp 49))])
 (.cond (.tmp 50)
 (.seq (.ops [Zs 4 (.mv (Zi 1))])
 .ret)
 .skip))))))
 (.ops [Zs 51 (.bin .add (.tmp 25) (Zi 1)),
 Zo 25 51])))))))
 (.seq (.ops [Zs 4 (.mv (Zi 0))])
 .ret)))))⟩
theorem h47 : strF Tryz.prog [] Tryz.f47 = some c47 := by kernel_rfl
/-- chirograph/nat.ExpMod -/
def c48 : Fun := ⟨93, [.inl 6, .inl 7],
 (.seq (.ops [Zs 6 (.mv (.const (.slice none 0 0))),
 Zs 7 (.mv (Zi 0))])
 (.join (.block 0
 (.seq (.block 3
 (.join (.block 2
 (.block 1
 (.seq (.seq (.seq (.ops [Zo 17 0,
 Zs 18 (.bsl 22 1 1 #[(.slice none 0 0)] [(0, (.tmp 17))]),
 Zs 19 (.call 80 [(Zi 512), (.tmp 18)]),
 Zo 16 19])
 (.cond (.tmp 16)
 (.exit 1)
 .skip))
 (.seq (.seq (.ops [Zo 21 1,
 Zo 22 2,
 Zs 23 (.bsl 22 1 2 #[(.slice none 0 0)] [(0, (.tmp 21)), (1, (.tmp 22))]),
 Zs 24 (.call 80 [(Zi 256), (.tmp 23)]),
 Zo 20 24])
 (.cond (.tmp 20)
 (.exit 2)
 .skip))
 (.seq (.ops [Zo 26 2,
 Zs 27 (.call 38 [(.tmp 26)]),
 Zs 28 (.bin .eql (.tmp 27) (Zi 0)),
 Zo 25 28])
 (.cond (.tmp 25)
 (.exit 3)
 .skip))))
 (.exit 0))))
 (.seq (.seq (.ops [Zs 6 (.mv (.const (.slice none 0 0))),
 Zs 7 (.mv (Zi 3))])
 .ret)
 (.exit 0))))
 (.seq (.seq (.ops [Zs 6 (.mv (.const (.slice none 0 0))),
 Zs 7 (.mv (Zi 11))])
 .ret)
 (.exit 0))))
 (.seq (.ops [Zo 29 2,
 Zs 30 (.call 64 [(.tmp 29)]),
 Zo 2 30])
 (.seq (.ops [Zs 32 (.bsl 50 1 1 #[(.int .u32 0)] [(0, (.const (.int .u32 1)))]),
 Zo 33 2,
 Zs 34 (.call 81 [(.tmp 32), (.tmp 33)]),
 Zo 31 34,
 Zs 35 (.ext (.tmp 31) 0),
 Zs 36 (.ext (.tmp 31) 1),
 Zo 8 35,
 Zo 9 36])
 (.seq (.ops [Zo 38 0,
 Zo 39 2,
 Zs 40 (.call 81 [(.tmp 38), (.tmp 39)]),
 Zo 37 40,
 Zs 41 (.ext (.tmp 37) 0),
 Zs 42 (.ext (.tmp 37) 1),
 Zo 10 41,
 Zo 11 42])
 (.seq (.ops [Zs 12 (.alloc 117 (.agg (Array.replicate 16 (.slice none 0 0))))])
 (.seq (.ops [Zo 43 9,
 Zs 44 (.iaA 16 1 (.tmp 12) (Zi 0)),
 ⟨none, none, .st 1 (.tmp 44) (.tmp 43)⟩])
 (.seq (.seq (.ops [Zs 45 (.mv (Zi 0))])
 (.block 4
 (.loop
 (.seq (.ops [Zs 46 (.bin .lss (.tmp 45) (Zi 15))])
 (.seq (.cond (.tmp 46)
 .skip
 (.exit 4))
 (.seq (.block 5
 (.seq (.ops [Zo 47 45,
 Zo 13 47])
 (.ops [Zo 48 13,
 Zs 49 (.bin .add (.tmp 48) (Zi 1)),
 Zo 50 13,
 Zs 51 (.iaA 16 1 (.tmp 12) (.tmp 50)),
 Zs 52 (.ld .slice (.tmp 51)),
 Zo 53 11,
 Zo 54 2,
 Zs 55 (.call 82 [(.tmp 52), (.tmp 53), (.tmp 54)]),
 Zs 56 (.iaA 16 1 (.tmp 12) (.tmp 49)),
 ⟨none, none, .st 1 (.tmp 56) (.tmp 55)⟩])))
 (.ops [Zs 57 (.bin .add (.tmp 45) (Zi 1)),
 Zo 45 57])))))))
 (.seq (.ops [Zo 58 9,
 Zo 14 58])
 (.seq (.seq (.ops [Zo 59 1,
 Zs 60 (.call 38 [(.tmp 59)]),
 Zs 61 (.bin .add (.tmp 60) (Zi 3)),
 Zs 62 (.bin .quo (.tmp 61) (Zi 4)),
 Zs 63 (.bin .mul (.tmp 62) (Zi 4)),
 Zo 15 63])
 (.block 6
 (.loop
 (.seq (.seq (.ops [Zo 64 15,
 Zs 65 (.bin .gtr (.tmp 64) (Zi 0))])
 (.cond (.tmp 65)
 .skip
 (.exit 6)))
 (.seq (.block 7
 (.seq (.seq (.ops [Zs 68 (.mv (Zi 0))])
 (.block 8
 (.loop
 (.seq (.ops [Zs 69 (.bin .lss (.tmp 68) (Zi 4))])
 (.seq (.cond (.tmp 69)
 .skip
 (.exit 8))
 (.seq (.block 9
 (.ops [Zo 70 14,
 Zo 71 14,
 Zo 72 2,
 Zs 73 (.call 82 [(.tmp 70), (.tmp 71), (.tmp 72)]),
 Zo 14 73]))
 (.ops [Zs 74 (.bin .add (.tmp 68) (Zi 1)),
 Zo 68 74])))))))
 (.ops [Zo 75 14,
 Zo 76 1,
 Zo 77 15,
 Zs 78 (.bin .sub (.tmp 77) (Zi 4)),
 Zs 79 (.bin .quo (.tmp 78) (Zi 32)),
 Zs 80 (.ia 1 (.tmp 76) (.tmp 79)),
 Zs 81 (.ld (.int .u32) (.tmp 80)),
 Zo 82 15,
 Zs 83 (.bin .sub (.tmp 82) (Zi 4)),
 Zs 84 (.bin .rem (.tmp 83) (Zi 32)),
 Zs 85 (.bin .shr (.tmp 81) (.tmp 84)),
 Zs 86 (.bin .and (.tmp 85) (.const (.int .u32 15))),
 Zs 87 (.iaA 16 1 (.tmp 12) (.tmp 86)),
 Zs 88 (.ld .slice (.tmp 87)),
 Zo 89 2,
 Zs 90 (.call 82 [(.tmp 75), (.tmp 88), (.tmp 89)]),
 Zo 14 90])))
 (.ops [Zo 66 15,
 Zs 67 (.bin .sub (.tmp 66) (Zi 4)),
 Zo 15 67]))))))
 (.seq (.ops [Zo 91 14,
 Zs 92 (.call 83 [(.tmp 91)]),
 Zo 6 92,
 Zs 7 (.mv (Zi 0))])
 .ret)))))))))))⟩
theorem h48 : strF Tryz.prog [] Tryz.f48 = some c48 := by kernel_rfl
/-- chirograph/nat.Bytes -/
def c49 : Fun := ⟨55, [.inl 4, .inl 5],
 (.seq (.ops [Zs 4 (.mv (.const (.slice none 0 0))),
 Zs 5 (.mv (Zi 0))])
 (.seq (.block 0
 (.seq (.ops [Zo 9 0,
 Zs 10 (.bsl 22 1 1 #[(.slice none 0 0)] [(0, (.tmp 9))]),
 Zs 11 (.call 80 [(Zi 512), (.tmp 10)]),
 Zo 8 11])
 (.cond (.tmp 8)
 (.seq (.ops [Zs 4 (.mv (.const (.slice none 0 0))),
 Zs 5 (.mv (Zi 3))])
 .ret)
 (.seq (.ops [Zo 13 1,
 Zs 14 (.bin .lss (.tmp 13) (Zi 0)),
 Zo 15 14,
 ⟨some 16, some (15, false), .mv (.tmp 1)⟩,
 ⟨some 17, some (15, false), .bin .gtr (.tmp 16) (Zi 2048)⟩,
 Zs 18 (.pick (.tmp 15) (.const (.bool true)) (.tmp 17)),
 Zo 12 18])
 (.cond (.tmp 12)
 (.seq (.ops [Zs 4 (.mv (.const (.slice none 0 0))),
 Zs 5 (.mv (Zi 1))])
 .ret)
 (.seq (.ops [Zo 20 0,
 Zs 21 (.call 38 [(.tmp 20)]),
 Zs 22 (.bin .add (.tmp 21) (Zi 7)),
 Zs 23 (.bin .quo (.tmp 22) (Zi 8)),
 Zo 24 1,
 Zs 25 (.bin .gtr (.tmp 23) (.tmp 24)),
 Zo 19 25])
 (.cond (.tmp 19)
 (.seq (.ops [Zs 4 (.mv (.const (.slice none 0 0))),
 Zs 5 (.mv (Zi 3))])
 .ret)
 .skip)))))))
 (.seq (.ops [Zo 26 1,
 Zs 27 (.mks 5 1 1 #[(.int .u8 0)] (.tmp 26) (.tmp 26)),
 Zo 6 27])
 (.seq (.seq (.ops [Zo 28 1,
 Zs 29 (.mv (Zi 0))])
 (.block 1
 (.loop
 (.seq (.ops [Zs 30 (.bin .lss (.tmp 29) (.tmp 28))])
 (.seq (.cond (.tmp 30)
 .skip
 (.exit 1))
 (.join (.block 2
 (.seq (.ops [Zo 31 29,
 Zo 7 31])
 (.seq (.ops [Zo 32 7,
 Zs 33 (.bin .quo (.tmp 32) (Zi 4)),
 Zo 34 0,
 Zs 35 (.len (.tmp 34)),
 Zs 36 (.bin .lss (.tmp 33) (.tmp 35))])
 (.cond (.tmp 36)
 (.ops [Zo 37 6,
 Zo 38 1,
 Zs 39 (.bin .sub (.tmp 38) (Zi 1)),
 Zo 40 7,
 Zs 41 (.bin .sub (.tmp 39) (.tmp 40)),
 Zo 42 0,
 Zo 43 7,
 Zs 44 (.bin .quo (.tmp 43) (Zi 4)),
 Zs 45 (.ia 1 (.tmp 42) (.tmp 44)),
 Zs 46 (.ld (.int .u32) (.tmp 45)),
 Zo 47 7,
 Zs 48 (.bin .rem (.tmp 47) (Zi 4)),
 Zs 49 (.bin .mul (Zi 8) (.tmp 48)),
 Zs 50 (.bin .shr (.tmp 46) (.tmp 49)),
 Zs 51 (.cv .u8 (.tmp 50)),
 Zs 52 (.ia 1 (.tmp 37) (.tmp 41)),
 ⟨none, none, .st 1 (.tmp 52) (.tmp 51)⟩])
 .skip))))
 (.ops [Zs 53 (.bin .add (.tmp 29) (Zi 1)),
 Zo 29 53])))))))
 (.seq (.ops [Zo 54 6,
 Zo 4 54,
 Zs 5 (.mv (Zi 0))])
 .ret)))))⟩
theorem h49 : strF Tryz.prog [] Tryz.f49 = some c49 := by kernel_rfl
/-- chirograph/chirographref08.Check -/
def c50 : Fun := ⟨47, [.inl 2],
 (.seq (.ops [Zs 1 (.box 24 (.tmp 0)),
 Zs 2 (.mv (Zi 0))])
 (.seq (.seq (.ops [Zs 3 (.fa 0 (.tmp 1)),
 Zs 4 (.ld .slice (.tmp 3)),
 Zs 5 (.len (.tmp 4)),
 Zs 6 (.bin .gtr (.tmp 5) (Zi 256)),
 Zo 7 6,
 ⟨some 8, some (7, false), .fa 1 (.tmp 1)⟩,
 ⟨some 9, some (7, false), .ld .slice (.tmp 8)⟩,
 ⟨some 10, some (7, false), .len (.tmp 9)⟩,
 ⟨some 11, some (7, false), .bin .gtr (.tmp 10) (Zi 256)⟩,
 Zs 12 (.pick (.tmp 7) (.const (.bool true)) (.tmp 11)),
 Zo 13 12,
 ⟨some 14, some (13, false), .fa 0 (.tmp 1)⟩,
 ⟨some 15, some (13, false), .ld .slice (.tmp 14)⟩,
 ⟨some 16, some (13, false), .call 41 [(.tmp 15)]⟩,
 ⟨some 17, some (13, false), .bin .lss (.tmp 16) (Zi 512)⟩,
 Zs 18 (.pick (.tmp 13) (.const (.bool true)) (.tmp 17)),
 Zo 19 18,
 ⟨some 20, some (19, false), .fa 1 (.tmp 1)⟩,
 ⟨some 21, some (19, false), .ld .slice (.tmp 20)⟩,
 ⟨some 22, some (19, false), .call 41 [(.tmp 21)]⟩,
 ⟨some 23, some (19, false), .bin .lss (.tmp 22) (Zi 2)⟩,
 Zs 24 (.pick (.tmp 19) (.const (.bool true)) (.tmp 23)),
 Zo 25 24,
 ⟨some 26, some (25, false), .fa 1 (.tmp 1)⟩,
 ⟨some 27, some (25, false), .ld .slice (.tmp 26)⟩,
 ⟨some 28, some (25, false), .call 41 [(.tmp 27)]⟩,
 ⟨some 29, some (25, false), .bin .gtr (.tmp 28) (Zi 64)⟩,
 Zs 30 (.pick (.tmp 25) (.const (.bool true)) (.tmp 29)),
 Zo 31 30,
 ⟨some 32, some (31, false), .fa 0 (.tmp 1)⟩,
 ⟨some 33, some (31, false), .ld .slice (.tmp 32)⟩,
 ⟨some 34, some (31, false), .ia 1 (.tmp 33) (Zi 0)⟩,
 ⟨some 35, some (31, false), .ld (.int .u32) (.tmp 34)⟩,
 ⟨some 36, some (31, false), .bin .rem (.tmp 35) (.const (.int .u32 2))⟩,
 ⟨some 37, some (31, false), .bin .eql (.tmp 36) (.const (.int .u32 0))⟩,
 Zs 38 (.pick (.tmp 31) (.const (.bool true)) (.tmp 37)),
 Zo 39 38,
 ⟨some 40, some (39, false), .fa 1 (.tmp 1)⟩,
 ⟨some 41, some (39, false), .ld .slice (.tmp 40)⟩,
 ⟨some 42, some (39, false), .ia 1 (.tmp 41) (Zi 0)⟩,
 ⟨some 43, some (39, false), .ld (.int .u32) (.tmp 42)⟩,
 ⟨some 44, some (39, false), .bin .rem (.tmp 43) (.const (.int .u32 2))⟩,
 ⟨some 45, some (39, false), .bin .eql (.tmp 44) (.const (.int .u32 0))⟩,
 Zs 46 (.pick (.tmp 39) (.const (.bool true)) (.tmp 45))])
 (.cond (.tmp 46)
 (.seq (.ops [Zs 2 (.mv (Zi 80))])
 .ret)
 .skip))
 (.seq (.ops [Zs 2 (.mv (Zi 0))])
 .ret)))⟩
theorem h50 : strF Tryz.prog [] Tryz.f50 = some c50 := by kernel_rfl
/-- chirograph/chirographref01.FromBytes -/
def c51 : Fun := ⟨39, [.inl 2, .inl 3],
 (.seq (.ops [Zs 2 (.mv (.const (.slice none 0 0))),
 Zs 3 (.mv (Zi 0))])
 (.seq (.seq (.ops [Zo 7 0,
 Zs 8 (.len (.tmp 7)),
 Zs 9 (.bin .gtr (.tmp 8) (Zi 2048))])
 (.cond (.tmp 9)
 (.seq (.ops [Zs 2 (.mv (.const (.slice none 0 0))),
 Zs 3 (.mv (Zi 3))])
 .ret)
 .skip))
 (.seq (.ops [Zs 4 (.mv (.const (.slice none 0 0)))])
 (.seq (.seq (.ops [Zo 10 0,
 Zs 11 (.len (.tmp 10)),
 Zs 12 (.bin .sub (.tmp 11) (Zi 1)),
 Zo 5 12])
 (.block 0
 (.loop
 (.seq (.seq (.ops [Zo 13 5,
 Zs 14 (.bin .geq (.tmp 13) (Zi 0))])
 (.cond (.tmp 14)
 .skip
 (.exit 0)))
 (.seq (.block 1
 (.seq (.ops [Zo 17 0,
 Zo 18 5,
 Zs 19 (.ia 1 (.tmp 17) (.tmp 18)),
 Zs 20 (.ld (.int .u8) (.tmp 19)),
 Zs 21 (.cv .u64 (.tmp 20)),
 Zo 6 21])
 (.join (.seq (.ops [Zo 22 5,
 Zs 23 (.bin .gtr (.tmp 22) (Zi 0))])
 (.cond (.tmp 23)
 (.ops [Zo 24 6,
 Zo 25 0,
 Zo 26 5,
 Zs 27 (.bin .sub (.tmp 26) (Zi 1)),
 Zs 28 (.ia 1 (.tmp 25) (.tmp 27)),
 Zs 29 (.ld (.int .u8) (.tmp 28)),
 Zs 30 (.cv .u64 (.tmp 29)),
 Zs 31 (.bin .shl (.tmp 30) (.const (.int .u64 8))),
 Zs 32 (.bin .add (.tmp 24) (.tmp 31)),
 Zo 6 32])
 .skip))
 (.ops [Zo 33 4,
 Zo 34 6,
 Zs 35 (.bsl 60 1 1 #[(.int .u64 0)] [(0, (.tmp 34))]),
 Zs 36 (.app 60 1 8 #[(.int .u64 0)] (.tmp 33) (.tmp 35)),
 Zo 4 36]))))
 (.ops [Zo 15 5,
 Zs 16 (.bin .sub (.tmp 15) (Zi 2)),
 Zo 5 16]))))))
 (.seq (.ops [Zo 37 4,
 Zs 38 (.call 84 [(.tmp 37)]),
 Zo 2 38,
 Zs 3 (.mv (Zi 0))])
 .ret)))))⟩
theorem h51 : strF Tryz.prog [] Tryz.f51 = some c51 := by kernel_rfl
/-- chirograph/chirographref01.Cmp -/
def c52 : Fun := ⟨10, [.inl 4],
 (.seq (.ops [Zs 4 (.mv (Zi 0))])
 (.seq (.ops [Zo 5 0,
 Zs 6 (.call 73 [(.tmp 5)]),
 Zo 7 1,
 Zs 8 (.call 73 [(.tmp 7)]),
 Zs 9 (.call 85 [(.tmp 6), (.tmp 8)]),
 Zo 4 9])
 .ret))⟩
theorem h52 : strF Tryz.prog [] Tryz.f52 = some c52 := by kernel_rfl
/-- chirograph/chirographref01.ExpMod -/
def c53 : Fun := ⟨122, [.inl 6, .inl 7],
 (.seq (.ops [Zs 6 (.mv (.const (.slice none 0 0))),
 Zs 7 (.mv (Zi 0))])
 (.seq (.seq (.ops [Zo 20 0,
 Zs 21 (.len (.tmp 20)),
 Zs 22 (.bin .gtr (.tmp 21) (Zi 512)),
 Zo 23 22,
 ⟨some 24, some (23, false), .mv (.tmp 1)⟩,
 ⟨some 25, some (23, false), .mv (.tmp 2)⟩,
 ⟨some 26, some (23, false), .call 86 [(Zi 256), (.tmp 24), (.tmp 25)]⟩,
 Zs 27 (.pick (.tmp 23) (.const (.bool true)) (.tmp 26))])
 (.cond (.tmp 27)
 (.seq (.ops [Zs 6 (.mv (.const (.slice none 0 0))),
 Zs 7 (.mv (Zi 3))])
 .ret)
 .skip))
 (.seq (.ops [Zo 28 2,
 Zs 29 (.call 73 [(.tmp 28)]),
 Zo 8 29])
 (.seq (.seq (.ops [Zo 30 8,
 Zs 31 (.len (.tmp 30)),
 Zs 32 (.bin .eql (.tmp 31) (Zi 0))])
 (.cond (.tmp 32)
 (.seq (.ops [Zs 6 (.mv (.const (.slice none 0 0))),
 Zs 7 (.mv (Zi 11))])
 .ret)
 .skip))
 (.seq (.ops [Zo 33 8,
 Zs 34 (.call 84 [(.tmp 33)]),
 Zo 2 34])
 (.seq (.ops [Zs 35 (.bsl 60 1 1 #[(.int .u64 0)] [(0, (.const (.int .u64 1)))]),
 Zo 9 35])
 (.seq (.block 0
 (.loop
 (.seq (.seq (.ops [Zo 36 2,
 Zo 37 2,
 Zs 38 (.len (.tmp 37)),
 Zs 39 (.bin .sub (.tmp 38) (Zi 1)),
 Zs 40 (.ia 1 (.tmp 36) (.tmp 39)),
 Zs 41 (.ld (.int .u32) (.tmp 40)),
 Zs 42 (.bin .lss (.tmp 41) (.const (.int .u32 2147483648)))])
 (.cond (.tmp 42)
 .skip
 (.exit 0)))
 (.block 1
 (.seq (.ops [Zo 43 2,
 Zs 44 (.call 73 [(.tmp 43)]),
 Zo 45 2,
 Zs 46 (.call 73 [(.tmp 45)]),
 Zs 47 (.call 87 [(.tmp 44), (.tmp 46)]),
 Zs 48 (.call 84 [(.tmp 47)]),
 Zo 2 48])
 (.ops [Zo 49 9,
 Zo 50 9,
 Zs 51 (.call 87 [(.tmp 49), (.tmp 50)]),
 Zo 9 51]))))))
 (.seq (.ops [Zo 52 2,
 Zo 53 2,
 Zs 54 (.len (.tmp 53)),
 Zs 55 (.call 88 [(.tmp 52), (.tmp 54)]),
 Zo 10 55])
 (.seq (.ops [Zo 57 0,
 Zs 58 (.call 73 [(.tmp 57)]),
 Zo 59 8,
 Zo 60 9,
 Zs 61 (.call 90 [(.tmp 59), (.tmp 60)]),
 Zs 62 (.call 89 [(.tmp 58), (.tmp 61)]),
 Zo 56 62,
 Zs 63 (.ext (.tmp 56) 0),
 Zs 64 (.ext (.tmp 56) 1),
 Zo 11 63,
 Zo 12 64])
 (.seq (.ops [Zo 65 12,
 Zs 66 (.call 84 [(.tmp 65)]),
 Zo 67 10,
 Zs 68 (.len (.tmp 67)),
 Zs 69 (.call 88 [(.tmp 66), (.tmp 68)]),
 Zo 13 69])
 (.seq (.ops [Zs 70 (.bsl 50 1 1 #[(.int .u32 0)] [(0, (.const (.int .u32 1)))]),
 Zo 71 10,
 Zs 72 (.len (.tmp 71)),
 Zs 73 (.call 88 [(.tmp 70), (.tmp 72)]),
 Zo 14 73])
 (.seq (.seq (.ops [Zo 74 1,
 Zs 75 (.call 41 [(.tmp 74)]),
 Zs 76 (.bin .sub (.tmp 75) (Zi 1)),
 Zo 15 76])
 (.block 2
 (.loop
 (.seq (.seq (.ops [Zo 77 15,
 Zs 78 (.bin .geq (.tmp 77) (Zi 0))])
 (.cond (.tmp 78)
 .skip
 (.exit 2)))
 (.join (.block 3
 (.seq (.ops [Zo 81 14,
 Zo 82 14,
 Zo 83 10,
 Zs 84 (.call 91 [(.tmp 81), (.tmp 82), (.tmp 83)]),
 Zo 14 84])
 (.seq (.ops [Zo 85 1,
 Zo 86 15,
 Zs 87 (.bin .quo (.tmp 86) (Zi 32)),
 Zs 88 (.ia 1 (.tmp 85) (.tmp 87)),
 Zs 89 (.ld (.int .u32) (.tmp 88)),
 Zo 90 15,
 Zs 91 (.bin .rem (.tmp 90) (Zi 32)),
 Zs 92 (.bin .shr (.tmp 89) (.tmp 91)),
 Zs 93 (.bin .and (.tmp 92) (.const (.int .u32 1))),
 Zs 94 (.bin .eql (.tmp 93) (.const (.int .u32 1)))])
 (.cond (.tmp 94)
 (.ops [Zo 95 14,
 Zo 96 13,
 Zo 97 10,
 Zs 98 (.call 91 [(.tmp 95), (.tmp 96), (.tmp 97)]),
 Zo 14 98])
 .skip))))
 (.ops [Zo 79 15,
 Zs 80 (.bin .sub (.tmp 79) (Zi 1)),
 Zo 15 80]))))))
 (.seq (.ops [Zs 16 (.mv (.const (.slice none 0 0)))])
 (.seq (.seq (.ops [Zs 17 (.mv (Zi 0))])
 (.block 4
 (.loop
 (.seq (.seq (.ops [Zo 99 17,
 Zo 100 14,
 Zs 101 (.len (.tmp 100)),
 Zs 102 (.bin .lss (.tmp 99) (.tmp 101))])
 (.cond (.tmp 102)
 .skip
 (.exit 4)))
 (.seq (.block 5
 (.ops [Zo 105 16,
 Zo 106 14,
 Zo 107 17,
 Zs 108 (.ia 1 (.tmp 106) (.tmp 107)),
 Zs 109 (.ld (.int .u64) (.tmp 108)),
 Zs 110 (.cv .u32 (.tmp 109)),
 Zs 111 (.bsl 50 1 1 #[(.int .u32 0)] [(0, (.tmp 110))]),
 Zs 112 (.app 50 1 4 #[(.int .u32 0)] (.tmp 105) (.tmp 111)),
 Zo 16 112]))
 (.ops [Zo 103 17,
 Zs 104 (.bin .add (.tmp 103) (Zi 1)),
 Zo 17 104]))))))
 (.seq (.ops [Zo 114 16,
 Zs 115 (.call 73 [(.tmp 114)]),
 Zo 116 8,
 Zs 117 (.call 89 [(.tmp 115), (.tmp 116)]),
 Zo 113 117,
 Zs 118 (.ext (.tmp 113) 0),
 Zs 119 (.ext (.tmp 113) 1),
 Zo 18 118,
 Zo 19 119])
 (.seq (.ops [Zo 120 19,
 Zs 121 (.call 84 [(.tmp 120)]),
 Zo 6 121,
 Zs 7 (.mv (Zi 0))])
 .ret))))))))))))))))⟩
theorem h53 : strF Tryz.prog [] Tryz.f53 = some c53 := by kernel_rfl
/-- chirograph/chirographref01.Bytes -/
def c54 : Fun := ⟨48, [.inl 4, .inl 5],
 (.seq (.ops [Zs 4 (.mv (.const (.slice none 0 0))),
 Zs 5 (.mv (Zi 0))])
 (.seq (.seq (.ops [Zo 9 0,
 Zs 10 (.len (.tmp 9)),
 Zs 11 (.bin .gtr (.tmp 10) (Zi 512))])
 (.cond (.tmp 11)
 (.seq (.ops [Zs 4 (.mv (.const (.slice none 0 0))),
 Zs 5 (.mv (Zi 3))])
 .ret)
 .skip))
 (.seq (.seq (.ops [Zo 12 1,
 Zs 13 (.bin .lss (.tmp 12) (Zi 0)),
 Zo 14 13,
 ⟨some 15, some (14, false), .mv (.tmp 1)⟩,
 ⟨some 16, some (14, false), .bin .gtr (.tmp 15) (Zi 2048)⟩,
 Zs 17 (.pick (.tmp 14) (.const (.bool true)) (.tmp 16))])
 (.cond (.tmp 17)
 (.seq (.ops [Zs 4 (.mv (.const (.slice none 0 0))),
 Zs 5 (.mv (Zi 1))])
 .ret)
 .skip))
 (.seq (.ops [Zo 18 0,
 Zs 19 (.call 73 [(.tmp 18)]),
 Zo 6 19])
 (.seq (.seq (.ops [Zo 20 0,
 Zs 21 (.call 41 [(.tmp 20)]),
 Zo 22 1,
 Zs 23 (.bin .mul (Zi 8) (.tmp 22)),
 Zs 24 (.bin .gtr (.tmp 21) (.tmp 23))])
 (.cond (.tmp 24)
 (.seq (.ops [Zs 4 (.mv (.const (.slice none 0 0))),
 Zs 5 (.mv (Zi 3))])
 .ret)
 .skip))
 (.seq (.ops [Zo 25 1,
 Zs 26 (.mks 5 1 1 #[(.int .u8 0)] (.tmp 25) (.tmp 25)),
 Zo 7 26])
 (.seq (.seq (.ops [Zs 8 (.mv (Zi 0))])
 (.block 0
 (.loop
 (.seq (.seq (.ops [Zo 27 8,
 Zo 28 1,
 Zs 29 (.bin .lss (.tmp 27) (.tmp 28))])
 (.cond (.tmp 29)
 .skip
 (.exit 0)))
 (.seq (.block 1
 (.ops [Zo 32 7,
 Zo 33 1,
 Zs 34 (.bin .sub (.tmp 33) (Zi 1)),
 Zo 35 8,
 Zs 36 (.bin .sub (.tmp 34) (.tmp 35)),
 Zo 37 6,
 Zo 38 8,
 Zs 39 (.bin .quo (.tmp 38) (Zi 2)),
 Zs 40 (.call 92 [(.tmp 37), (.tmp 39)]),
 Zo 41 8,
 Zs 42 (.bin .rem (.tmp 41) (Zi 2)),
 Zs 43 (.bin .mul (Zi 8) (.tmp 42)),
 Zs 44 (.bin .shr (.tmp 40) (.tmp 43)),
 Zs 45 (.cv .u8 (.tmp 44)),
 Zs 46 (.ia 1 (.tmp 32) (.tmp 36)),
 ⟨none, none, .st 1 (.tmp 46) (.tmp 45)⟩]))
 (.ops [Zo 30 8,
 Zs 31 (.bin .add (.tmp 30) (Zi 1)),
 Zo 8 31]))))))
 (.seq (.ops [Zo 47 7,
 Zo 4 47,
 Zs 5 (.mv (Zi 0))])
 .ret))))))))⟩
theorem h54 : strF Tryz.prog [] Tryz.f54 = some c54 := by kernel_rfl
/-- chirograph/chirographref08.Seq -/
def c55 : Fun := ⟨14, [.inl 4],
 (.seq (.ops [Zs 4 (.mv (.const (.slice none 0 0)))])
 (.seq (.ops [Zo 8 0,
 Zo 9 1,
 Zs 10 (.call 93 [(Zi 0), (.tmp 8), (.const (.bool true)), (.tmp 9)]),
 Zo 7 10,
 Zs 11 (.ext (.tmp 7) 0),
 Zs 12 (.ext (.tmp 7) 1),
 Zo 5 11,
 Zo 6 12])
 (.seq (.ops [Zo 13 5,
 Zo 4 13])
 .ret)))⟩
theorem h55 : strF Tryz.prog [] Tryz.f55 = some c55 := by kernel_rfl
/-- chirograph/chirographref08.OidOf -/
def c56 : Fun := ⟨12, [.inl 2],
 (.seq (.ops [Zs 2 (.mv (.const (.slice none 0 0)))])
 (.seq (.ops [Zo 6 0,
 Zs 7 (.call 94 [(.tmp 6)]),
 Zo 5 7,
 Zs 8 (.ext (.tmp 5) 0),
 Zs 9 (.ext (.tmp 5) 1),
 Zo 3 8,
 Zo 4 9])
 (.seq (.ops [Zo 10 3,
 Zs 11 (.call 58 [(Zi 6), (.tmp 10)]),
 Zo 2 11])
 .ret)))⟩
theorem h56 : strF Tryz.prog [] Tryz.f56 = some c56 := by kernel_rfl
/-- chirograph/chirographref08.Oid -/
def c57 : Fun := ⟨10, [.inl 2],
 (.seq (.ops [Zs 2 (.mv (.const (.string ⟨#[]⟩)))])
 (.seq (.seq (.ops [Zo 3 0])
 (.block 0
 (.seq (.ops [Zs 5 (.bin .eql (.tmp 3) (Zi 1)),
 Zo 4 5])
 (.cond (.tmp 4)
 (.seq (.ops [Zs 2 (.mv (.const (.string ⟨#[49, 46, 51, 46, 49, 52, 46, 51, 46, 50, 46, 50, 54]⟩)))])
 .ret)
 (.seq (.ops [Zs 7 (.bin .eql (.tmp 3) (Zi 2)),
 Zo 6 7])
 (.cond (.tmp 6)
 (.seq (.ops [Zs 2 (.mv (.const (.string ⟨#[50, 46, 49, 54, 46, 56, 52, 48, 46, 49, 46, 49, 48, 49, 46, 51, 46, 52, 46, 50, 46, 49]⟩)))])
 .ret)
 (.seq (.ops [Zs 9 (.bin .eql (.tmp 3) (Zi 3)),
 Zo 8 9])
 (.cond (.tmp 8)
 (.seq (.ops [Zs 2 (.mv (.const (.string ⟨#[50, 46, 49, 54, 46, 56, 52, 48, 46, 49, 46, 49, 48, 49, 46, 51, 46, 52, 46, 50, 46, 50]⟩)))])
 .ret)
 .skip))))))))
 (.seq (.ops [Zs 2 (.mv (.const (.string ⟨#[50, 46, 49, 54, 46, 56, 52, 48, 46, 49, 46, 49, 48, 49, 46, 51, 46, 52, 46, 50, 46, 51]⟩)))])
 .ret)))⟩
theorem h57 : strF Tryz.prog [] Tryz.f57 = some c57 := by kernel_rfl
/-- chirograph/chirographref08.Prim -/
def c58 : Fun := ⟨15, [.inl 4],
 (.seq (.ops [Zs 4 (.mv (.const (.slice none 0 0)))])
 (.seq (.ops [Zo 8 0,
 Zo 9 1,
 Zs 10 (.bsl 25 1 1 #[(.slice none 0 0)] [(0, (.tmp 9))]),
 Zs 11 (.call 93 [(Zi 0), (.tmp 8), (.const (.bool false)), (.tmp 10)]),
 Zo 7 11,
 Zs 12 (.ext (.tmp 7) 0),
 Zs 13 (.ext (.tmp 7) 1),
 Zo 5 12,
 Zo 6 13])
 (.seq (.ops [Zo 14 5,
 Zo 4 14])
 .ret)))⟩
theorem h58 : strF Tryz.prog [] Tryz.f58 = some c58 := by kernel_rfl
/-- chirograph/nat.cut -/
def c64 : Fun := ⟨21, [.inl 2],
 (.seq (.ops [Zs 2 (.mv (.const (.slice none 0 0)))])
 (.seq (.ops [Zo 4 0,
 Zs 5 (.len (.tmp 4)),
 Zo 3 5])
 (.seq (.block 0
 (.loop
 (.seq (.seq (.ops [Zo 6 3,
 Zs 7 (.bin .gtr (.tmp 6) (Zi 0)),
 Zo 8 7,
 ⟨some 9, some (8, true), .mv (.tmp 0)⟩,
 ⟨some 10, some (8, true), .mv (.tmp 3)⟩,
 ⟨some 11, some (8, true), .bin .sub (.tmp 10) (Zi 1)⟩,
 ⟨some 12, some (8, true), .ia 1 (.tmp 9) (.tmp 11)⟩,
 ⟨some 13, some (8, true), .ld (.int .u32) (.tmp 12)⟩,
 ⟨some 14, some (8, true), .bin .eql (.tmp 13) (.const (.int .u32 0))⟩,
 Zs 15 (.pick (.tmp 8) (.tmp 14) (.const (.bool false)))])
 (.cond (.tmp 15)
 .skip
 (.exit 0)))
 (.block 1
 (.ops [Zo 16 3,
 Zs 17 (.bin .sub (.tmp 16) (Zi 1)),
 Zo 3 17])))))
 (.seq (.ops [Zo 18 0,
 Zo 19 3,
 Zs 20 (.slc 1 (.tmp 18) none (some (.tmp 19)) none),
 Zo 2 20])
 .ret))))⟩
theorem h64 : strF Tryz.prog [] Tryz.f64 = some c64 := by kernel_rfl
/-- math/bits.Len32 -/
def c65 : Fun := ⟨19, [.inl 2],
 (.seq (.ops [Zs 2 (.mv (Zi 0))])
 (.join (.seq (.ops [Zo 3 0,
 Zs 4 (.bin .geq (.tmp 3) (.const (.int .u32 65536)))])
 (.cond (.tmp 4)
 (.seq (.ops [Zo 5 0,
 Zs 6 (.bin .shr (.tmp 5) (.const (.int .u64 16))),
 Zo 0 6])
 (.ops [Zs 2 (.mv (Zi 16))]))
 .skip))
 (.join (.seq (.ops [Zo 7 0,
 Zs 8 (.bin .geq (.tmp 7) (.const (.int .u32 256)))])
 (.cond (.tmp 8)
 (.seq (.ops [Zo 9 0,
 Zs 10 (.bin .shr (.tmp 9) (.const (.int .u64 8))),
 Zo 0 10])
 (.ops [Zo 11 2,
 Zs 12 (.bin .add (.tmp 11) (Zi 8)),
 Zo 2 12]))
 .skip))
 (.seq (.ops [Zo 13 2,
 Zo 14 0,
 Zs 15 (.cv .u8 (.tmp 14)),
 Zs 16 (.ixs (.const (.string ⟨#[0, 1, 2, 2, 3, 3, 3, 3, 4, 4, 4, 4, 4, 4, 4, 4, 5, 5, 5, 5, 5, 5, 5, 5, 5, 5, 5, 5, 5, 5, 5, 5, 6, 6, 6, 6, 6, 6, 6, 6, 6, 6, 6, 6, 6, 6, 6, 6, 6, 6, 6, 6, 6, 6, 6, 6, 6, 6, 6, 6, 6, 6, 6, 6, 7, 7, 7, 7, 7, 7, 7, 7, 7, 7, 7, 7, 7, 7, 7, 7, 7, 7, 7, 7, 7, 7, 7, 7, 7, 7, 7, 7, 7, 7, 7, 7, 7, 7, 7, 7, 7, 7, 7, 7, 7, 7, 7, 7, 7, 7, 7, 7, 7, 7, 7, 7, 7, 7, 7, 7, 7, 7, 7, 7, 7, 7, 7, 7, 8, 8, 8, 8, 8, 8, 8, 8, 8, 8, 8, 8, 8, 8, 8, 8, 8, 8, 8, 8, 8, 8, 8, 8, 8, 8, 8, 8, 8, 8, 8, 8, 8, 8, 8, 8, 8, 8, 8, 8, 8, 8, 8, 8, 8, 8, 8, 8, 8, 8, 8, 8, 8, 8, 8, 8, 8, 8, 8, 8, 8, 8, 8, 8, 8, 8, 8, 8, 8, 8, 8, 8, 8, 8, 8, 8, 8, 8, 8, 8, 8, 8, 8, 8, 8, 8, 8, 8, 8, 8, 8, 8, 8, 8, 8, 8, 8, 8, 8, 8, 8, 8, 8, 8, 8, 8, 8, 8, 8, 8, 8, 8, 8, 8, 8, 8, 8, 8, 8, 8, 8, 8, 8, 8, 8, 8, 8, 8]⟩)) (.tmp 15)),
 Zs 17 (.cv .i64 (.tmp 16)),
 Zs 18 (.bin .add (.tmp 13) (.tmp 17)),
 Zo 2 18])
 .ret))))⟩
theorem h65 : strF Tryz.prog [] Tryz.f65 = some c65 := by kernel_rfl
/-- bytes.trimLeftByte -/
def c66 : Fun := ⟨21, [.inl 4],
 (.seq (.ops [Zs 4 (.mv (.const (.slice none 0 0)))])
 (.seq (.block 0
 (.loop
 (.seq (.seq (.ops [Zo 5 0,
 Zs 6 (.len (.tmp 5)),
 Zs 7 (.bin .gtr (.tmp 6) (Zi 0)),
 Zo 8 7,
 ⟨some 9, some (8, true), .mv (.tmp 0)⟩,
 ⟨some 10, some (8, true), .ia 1 (.tmp 9) (Zi 0)⟩,
 ⟨some 11, some (8, true), .ld (.int .u8) (.tmp 10)⟩,
 ⟨some 12, some (8, true), .mv (.tmp 1)⟩,
 ⟨some 13, some (8, true), .bin .eql (.tmp 11) (.tmp 12)⟩,
 Zs 14 (.pick (.tmp 8) (.tmp 13) (.const (.bool false)))])
 (.cond (.tmp 14)
 .skip
 (.exit 0)))
 (.block 1
 (.ops [Zo 15 0,
 Zs 16 (.slc 1 (.tmp 15) (some (Zi 1)) none none),
 Zo 0 16])))))
 (.seq (.seq (.ops [Zo 17 0,
 Zs 18 (.len (.tmp 17)),
 Zs 19 (.bin .eql (.tmp 18) (Zi 0))])
 (.cond (.tmp 19)
 (.seq (.ops [Zs 4 (.mv (.const (.slice none 0 0)))])
 .ret)
 .skip))
 (.seq (.ops [Zo 20 0,
 Zo 4 20])
 .ret))))⟩
theorem h66 : strF Tryz.prog [] Tryz.f66 = some c66 := by kernel_rfl
/-- chirograph/digest.New -/
def c70 : Fun := ⟨34, [.inl 2, .inl 3],
 (.seq (.ops [Zs 2 (.mv (.const (.pointer none))),
 Zs 3 (.mv (Zi 0))])
 (.seq (.ops [Zo 5 0,
 Zs 6 (.bld #[(.int .i64 0), (.int .u32 0), (.int .u32 0), (.int .u32 0), (.int .u32 0), (.int .u32 0), (.int .u32 0), (.int .u32 0), (.int .u32 0), (.int .u64 0), (.int .u64 0), (.int .u64 0), (.int .u64 0), (.int .u64 0), (.int .u64 0), (.int .u64 0), (.int .u64 0), (.slice none 0 0), (.int .i64 0)] [(0, 1), (1, 8), (9, 8), (17, 1), (18, 1)] [(0, (.tmp 5))]),
 Zs 7 (.box 135 (.tmp 6)),
 Zo 4 7])
 (.join (.seq (.ops [Zo 8 0])
 (.block 0
 (.seq (.ops [Zs 10 (.bin .eql (.tmp 8) (Zi 1)),
 Zo 9 10])
 (.cond (.tmp 9)
 (.ops [Zo 11 4,
 Zs 12 (.bld (Array.replicate 8 (.int .u32 0)) [(0, 1), (1, 1), (2, 1), (3, 1), (4, 1), (5, 1), (6, 1), (7, 1)] [(0, (.const (.int .u32 1732584193))), (1, (.const (.int .u32 4023233417))), (2, (.const (.int .u32 2562383102))), (3, (.const (.int .u32 271733878))), (4, (.const (.int .u32 3285377520)))]),
 Zs 13 (.nilc (.tmp 11)),
 Zs 14 (.fa 1 (.tmp 13)),
 ⟨none, none, .st 8 (.tmp 14) (.tmp 12)⟩])
 (.seq (.ops [Zs 16 (.bin .eql (.tmp 8) (Zi 2)),
 Zo 15 16])
 (.cond (.tmp 15)
 (.ops [Zo 17 4,
 Zs 18 (.bld (Array.replicate 8 (.int .u32 0)) [(0, 1), (1, 1), (2, 1), (3, 1), (4, 1), (5, 1), (6, 1), (7, 1)] [(0, (.const (.int .u32 1779033703))), (1, (.const (.int .u32 3144134277))), (2, (.const (.int .u32 1013904242))), (3, (.const (.int .u32 2773480762))), (4, (.const (.int .u32 1359893119))), (5, (.const (.int .u32 2600822924))), (6, (.const (.int .u32 528734635))), (7, (.const (.int .u32 1541459225)))]),
 Zs 19 (.nilc (.tmp 17)),
 Zs 20 (.fa 1 (.tmp 19)),
 ⟨none, none, .st 8 (.tmp 20) (.tmp 18)⟩])
 (.seq (.ops [Zs 22 (.bin .eql (.tmp 8) (Zi 3)),
 Zo 21 22])
 (.cond (.tmp 21)
 (.ops [Zo 23 4,
 Zs 24 (.bld (Array.replicate 8 (.int .u64 0)) [(0, 1), (1, 1), (2, 1), (3, 1), (4, 1), (5, 1), (6, 1), (7, 1)] [(0, (.const (.int .u64 14680500436340154072))), (1, (.const (.int .u64 7105036623409894663))), (2, (.const (.int .u64 10473403895298186519))), (3, (.const (.int .u64 1526699215303891257))), (4, (.const (.int .u64 7436329637833083697))), (5, (.const (.int .u64 10282925794625328401))), (6, (.const (.int .u64 15784041429090275239))), (7, (.const (.int .u64 5167115440072839076)))]),
 Zs 25 (.nilc (.tmp 23)),
 Zs 26 (.fa 9 (.tmp 25)),
 ⟨none, none, .st 8 (.tmp 26) (.tmp 24)⟩])
 (.seq (.ops [Zs 28 (.bin .eql (.tmp 8) (Zi 4)),
 Zo 27 28])
 (.cond (.tmp 27)
 (.ops [Zo 29 4,
 Zs 30 (.bld (Array.replicate 8 (.int .u64 0)) [(0, 1), (1, 1), (2, 1), (3, 1), (4, 1), (5, 1), (6, 1), (7, 1)] [(0, (.const (.int .u64 7640891576956012808))), (1, (.const (.int .u64 13503953896175478587))), (2, (.const (.int .u64 4354685564936845355))), (3, (.const (.int .u64 11912009170470909681))), (4, (.const (.int .u64 5840696475078001361))), (5, (.const (.int .u64 11170449401992604703))), (6, (.const (.int .u64 2270897969802886507))), (7, (.const (.int .u64 6620516959819538809)))]),
 Zs 31 (.nilc (.tmp 29)),
 Zs 32 (.fa 9 (.tmp 31)),
 ⟨none, none, .st 8 (.tmp 32) (.tmp 30)⟩])
 (.seq (.ops [Zs 2 (.mv (.const (.pointer none))),
 Zs 3 (.mv (Zi 1))])
 .ret)))))))))))
 (.seq (.ops [Zo 33 4,
 Zo 2 33,
 Zs 3 (.mv (Zi 0))])
 .ret))))⟩
theorem h70 : strF Tryz.prog [] Tryz.f70 = some c70 := by kernel_rfl
/-- (*chirograph/digest.Hash).Write -/
def c71 : Fun := ⟨99, [.inl 4],
 (.seq (.ops [Zs 4 (.mv (Zi 0))])
 (.seq (.seq (.ops [Zo 7 0,
 Zs 8 (.eq .pointer false (.tmp 7) (.const (.pointer none)))])
 (.cond (.tmp 8)
 (.seq (.ops [Zs 4 (.mv (Zi 7))])
 .ret)
 .skip))
 (.seq (.seq (.ops [Zo 9 1,
 Zs 10 (.len (.tmp 9)),
 Zo 11 0,
 Zs 12 (.nilc (.tmp 11)),
 Zs 13 (.fa 18 (.tmp 12)),
 Zs 14 (.ld (.int .i64) (.tmp 13)),
 Zs 15 (.bin .sub (Zi 16777216) (.tmp 14)),
 Zs 16 (.bin .gtr (.tmp 10) (.tmp 15))])
 (.cond (.tmp 16)
 (.seq (.ops [Zs 4 (.mv (Zi 3))])
 .ret)
 .skip))
 (.seq (.ops [Zo 17 0,
 Zs 18 (.nilc (.tmp 17)),
 Zs 19 (.fa 18 (.tmp 18)),
 Zs 20 (.ld (.int .i64) (.tmp 19)),
 Zo 21 1,
 Zs 22 (.len (.tmp 21)),
 Zs 23 (.bin .add (.tmp 20) (.tmp 22)),
 Zs 24 (.nilc (.tmp 17)),
 Zs 25 (.fa 18 (.tmp 24)),
 ⟨none, none, .st 1 (.tmp 25) (.tmp 23)⟩])
 (.seq (.ops [Zo 26 0,
 Zs 27 (.nilc (.tmp 26)),
 Zs 28 (.fa 0 (.tmp 27)),
 Zs 29 (.ld (.int .i64) (.tmp 28)),
 Zs 30 (.call 98 [(.tmp 29)]),
 Zo 5 30])
 (.join (.seq (.ops [Zo 31 0,
 Zs 32 (.nilc (.tmp 31)),
 Zs 33 (.fa 17 (.tmp 32)),
 Zs 34 (.ld .slice (.tmp 33)),
 Zs 35 (.len (.tmp 34)),
 Zs 36 (.bin .gtr (.tmp 35) (Zi 0))])
 (.cond (.tmp 36)
 (.seq (.ops [Zo 37 1,
 Zs 38 (.len (.tmp 37)),
 Zo 39 5,
 Zo 40 0,
 Zs 41 (.nilc (.tmp 40)),
 Zs 42 (.fa 17 (.tmp 41)),
 Zs 43 (.ld .slice (.tmp 42)),
 Zs 44 (.len (.tmp 43)),
 Zs 45 (.bin .sub (.tmp 39) (.tmp 44)),
 Zs 46 (.min2 (.tmp 38) (.tmp 45)),
 Zo 6 46])
 (.seq (.drawS [(0, 0), (0, 1), (0, 2), (0, 3), (0, 5), (0, 6), (0, 7), (1, 4), (2, 8), (0, 9), (0, 10), (2, 11)]
 [Zo 47 0,
 Zo 48 0,
 Zs 49 (.nilc (.tmp 48)),
 Zs 50 (.fa 17 (.tmp 49)),
 Zs 51 (.ld .slice (.tmp 50)),
 Zo 52 1,
 Zo 53 6,
 Zs 54 (.slc 1 (.tmp 52) none (some (.tmp 53)) none),
 Zs 55 (.app 5 1 1 #[(.int .u8 0)] (.tmp 51) (.tmp 54)),
 Zs 56 (.nilc (.tmp 47)),
 Zs 57 (.fa 17 (.tmp 56)),
 ⟨none, none, .st 1 (.tmp 57) (.tmp 55)⟩])
 (.seq (.ops [Zo 58 1,
 Zo 59 6,
 Zs 60 (.slc 1 (.tmp 58) (some (.tmp 59)) none none),
 Zo 1 60])
 (.seq (.seq (.ops [Zo 61 0,
 Zs 62 (.nilc (.tmp 61)),
 Zs 63 (.fa 17 (.tmp 62)),
 Zs 64 (.ld .slice (.tmp 63)),
 Zs 65 (.len (.tmp 64)),
 Zo 66 5,
 Zs 67 (.bin .lss (.tmp 65) (.tmp 66))])
 (.cond (.tmp 67)
 (.seq (.ops [Zs 4 (.mv (Zi 0))])
 .ret)
 .skip))
 (.seq (.ops [Zo 68 0,
 Zo 69 0,
 Zs 70 (.nilc (.tmp 69)),
 Zs 71 (.fa 17 (.tmp 70)),
 Zs 72 (.ld .slice (.tmp 71)),
 Zs 73 (.call 99 [(.tmp 68), (.tmp 72)])])
 (.ops [Zo 74 0,
 Zs 75 (.nilc (.tmp 74)),
 Zs 76 (.fa 17 (.tmp 75)),
 ⟨none, none, .st 1 (.tmp 76) (.const (.slice none 0 0))⟩]))))))
 .skip))
 (.seq (.block 0
 (.loop
 (.seq (.seq (.ops [Zo 77 1,
 Zs 78 (.len (.tmp 77)),
 Zo 79 5,
 Zs 80 (.bin .geq (.tmp 78) (.tmp 79))])
 (.cond (.tmp 80)
 .skip
 (.exit 0)))
 (.block 1
 (.seq (.ops [Zo 81 0,
 Zo 82 1,
 Zo 83 5,
 Zs 84 (.slc 1 (.tmp 82) none (some (.tmp 83)) none),
 Zs 85 (.call 99 [(.tmp 81), (.tmp 84)])])
 (.ops [Zo 86 1,
 Zo 87 5,
 Zs 88 (.slc 1 (.tmp 86) (some (.tmp 87)) none none),
 Zo 1 88]))))))
 (.join (.seq (.ops [Zo 89 1,
 Zs 90 (.len (.tmp 89)),
 Zs 91 (.bin .gtr (.tmp 90) (Zi 0))])
 (.cond (.tmp 91)
 (.ops [Zo 92 0,
 Zo 93 5,
 Zs 94 (.mks 5 1 1 #[(.int .u8 0)] (Zi 0) (.tmp 93)),
 Zo 95 1,
 Zs 96 (.app 5 1 1 #[(.int .u8 0)] (.tmp 94) (.tmp 95)),
 Zs 97 (.nilc (.tmp 92)),
 Zs 98 (.fa 17 (.tmp 97)),
 ⟨none, none, .st 1 (.tmp 98) (.tmp 96)⟩])
 .skip))
 (.seq (.ops [Zs 4 (.mv (Zi 0))])
 .ret)))))))))⟩
theorem h71 : strF Tryz.prog [(9, .inl [(0, 0), (0, 1), (0, 2), (0, 3), (0, 5), (0, 6), (0, 7), (1, 4), (2, 8), (0, 9), (0, 10), (2, 11)])] Tryz.f71 = some c71 := by kernel_rfl
/-- (*chirograph/digest.Hash).Sum -/
def c72 : Fun := ⟨150, [.inl 2],
 (.seq (.ops [Zs 2 (.mv (.const (.slice none 0 0)))])
 (.seq (.seq (.ops [Zo 11 0,
 Zs 12 (.eq .pointer false (.tmp 11) (.const (.pointer none))),
 Zo 13 12,
 ⟨some 14, some (13, false), .mv (.tmp 0)⟩,
 ⟨some 15, some (13, false), .nilc (.tmp 14)⟩,
 ⟨some 16, some (13, false), .fa 0 (.tmp 15)⟩,
 ⟨some 17, some (13, false), .ld (.int .i64) (.tmp 16)⟩,
 ⟨some 18, some (13, false), .call 37 [(.tmp 17)]⟩,
 ⟨some 19, some (13, false), .bin .eql (.tmp 18) (Zi 0)⟩,
 Zs 20 (.pick (.tmp 13) (.const (.bool true)) (.tmp 19))])
 (.cond (.tmp 20)
 (.seq (.ops [Zs 2 (.mv (.const (.slice none 0 0)))])
 .ret)
 .skip))
 (.seq (.ops [Zo 21 0,
 Zs 22 (.nilc (.tmp 21)),
 Zs 23 (.ld (.agg 19) (.tmp 22)),
 Zs 3 (.alloc 135 (.agg #[(.int .i64 0), (.int .u32 0), (.int .u32 0), (.int .u32 0), (.int .u32 0), (.int .u32 0), (.int .u32 0), (.int .u32 0), (.int .u32 0), (.int .u64 0), (.int .u64 0), (.int .u64 0), (.int .u64 0), (.int .u64 0), (.int .u64 0), (.int .u64 0), (.int .u64 0), (.slice none 0 0), (.int .i64 0)])),
 ⟨none, none, .st 19 (.tmp 3) (.tmp 23)⟩])
 (.seq (.ops [Zo 24 0,
 Zs 25 (.nilc (.tmp 24)),
 Zs 26 (.fa 0 (.tmp 25)),
 Zs 27 (.ld (.int .i64) (.tmp 26)),
 Zs 28 (.call 98 [(.tmp 27)]),
 Zo 4 28])
 (.seq (.ops [Zo 29 0,
 Zs 30 (.nilc (.tmp 29)),
 Zs 31 (.fa 17 (.tmp 30)),
 Zs 32 (.ld .slice (.tmp 31)),
 Zs 33 (.app 5 1 1 #[(.int .u8 0)] (.const (.slice none 0 0)) (.tmp 32)),
 Zs 34 (.bsl 5 1 1 #[(.int .u8 0)] [(0, (.const (.int .u8 128)))]),
 Zs 35 (.app 5 1 1 #[(.int .u8 0)] (.tmp 33) (.tmp 34)),
 Zo 5 35])
 (.seq (.block 0
 (.loop
 (.seq (.seq (.ops [Zo 36 5,
 Zs 37 (.len (.tmp 36)),
 Zo 38 4,
 Zs 39 (.bin .rem (.tmp 37) (.tmp 38)),
 Zo 40 4,
 Zs 41 (.bin .sub (.tmp 40) (Zi 8)),
 Zs 42 (.bin .neq (.tmp 39) (.tmp 41))])
 (.cond (.tmp 42)
 .skip
 (.exit 0)))
 (.block 1
 (.ops [Zo 43 5,
 Zs 44 (.bsl 5 1 1 #[(.int .u8 0)] [(0, (.const (.int .u8 0)))]),
 Zs 45 (.app 5 1 1 #[(.int .u8 0)] (.tmp 43) (.tmp 44)),
 Zo 5 45])))))
 (.join (.seq (.ops [Zo 46 4,
 Zs 47 (.bin .eql (.tmp 46) (Zi 128)),
 Zo 48 47,
 ⟨some 49, some (48, true), .mv (.tmp 0)⟩,
 ⟨some 50, some (48, true), .nilc (.tmp 49)⟩,
 ⟨some 51, some (48, true), .fa 17 (.tmp 50)⟩,
 ⟨some 52, some (48, true), .ld .slice (.tmp 51)⟩,
 ⟨some 53, some (48, true), .len (.tmp 52)⟩,
 ⟨some 54, some (48, true), .bin .geq (.tmp 53) (Zi 112)⟩,
 Zs 55 (.pick (.tmp 48) (.tmp 54) (.const (.bool false))),
 Zo 56 55,
 ⟨some 57, some (56, true), .mv (.tmp 5)⟩,
 ⟨some 58, some (56, true), .len (.tmp 57)⟩,
 ⟨some 59, some (56, true), .bin .eql (.tmp 58) (Zi 120)⟩,
 Zs 60 (.pick (.tmp 56) (.tmp 59) (.const (.bool false)))])
 (.cond (.tmp 60)
 (.ops [Zo 61 5,
 Zs 62 (.appz 5 1 1 #[(.int .u8 0)] (.tmp 61) (Zi 128)),
 Zo 5 62])
 .skip))
 (.seq (.seq (.ops [Zs 63 (.mv (Zi 0))])
 (.block 2
 (.loop
 (.seq (.ops [Zs 64 (.bin .lss (.tmp 63) (Zi 8))])
 (.seq (.cond (.tmp 64)
 .skip
 (.exit 2))
 (.seq (.block 3
 (.seq (.ops [Zo 65 63,
 Zo 6 65])
 (.ops [Zo 66 5,
 Zo 67 0,
 Zs 68 (.nilc (.tmp 67)),
 Zs 69 (.fa 18 (.tmp 68)),
 Zs 70 (.ld (.int .i64) (.tmp 69)),
 Zs 71 (.bin .mul (Zi 8) (.tmp 70)),
 Zs 72 (.cv .u64 (.tmp 71)),
 Zo 73 6,
 Zs 74 (.bin .mul (Zi 8) (.tmp 73)),
 Zs 75 (.bin .sub (Zi 56) (.tmp 74)),
 Zs 76 (.bin .shr (.tmp 72) (.tmp 75)),
 Zs 77 (.cv .u8 (.tmp 76)),
 Zs 78 (.bsl 5 1 1 #[(.int .u8 0)] [(0, (.tmp 77))]),
 Zs 79 (.app 5 1 1 #[(.int .u8 0)] (.tmp 66) (.tmp 78)),
 Zo 5 79])))
 (.ops [Zs 80 (.bin .add (.tmp 63) (Zi 1)),
 Zo 63 80])))))))
 (.seq (.seq (.ops [Zs 7 (.mv (Zi 0))])
 (.block 4
 (.loop
 (.seq (.seq (.ops [Zo 81 7,
 Zo 82 5,
 Zs 83 (.len (.tmp 82)),
 Zs 84 (.bin .lss (.tmp 81) (.tmp 83))])
 (.cond (.tmp 84)
 .skip
 (.exit 4)))
 (.seq (.block 5
 (.ops [Zo 88 5,
 Zo 89 7,
 Zo 90 7,
 Zo 91 4,
 Zs 92 (.bin .add (.tmp 90) (.tmp 91)),
 Zs 93 (.slc 1 (.tmp 88) (some (.tmp 89)) (some (.tmp 92)) none),
 Zs 94 (.call 99 [(.tmp 3), (.tmp 93)])]))
 (.ops [Zo 85 7,
 Zo 86 4,
 Zs 87 (.bin .add (.tmp 85) (.tmp 86)),
 Zo 7 87]))))))
 (.seq (.ops [Zs 8 (.mv (.const (.slice none 0 0)))])
 (.seq (.seq (.ops [Zs 95 (.mv (Zi 0))])
 (.block 6
 (.loop
 (.seq (.ops [Zs 96 (.bin .lss (.tmp 95) (Zi 8))])
 (.seq (.cond (.tmp 96)
 .skip
 (.exit 6))
 (.join (.block 7
 (.seq (.ops [Zo 97 95,
 Zo 9 97])
 (.seq (.seq (.ops [Zo 98 4,
 Zs 99 (.bin .eql (.tmp 98) (Zi 64))])
 (.cond (.tmp 99)
 (.seq (.drawS [(0, 0), (0, 1), (0, 2), (0, 3), (0, 7), (0, 8), (0, 9), (0, 13), (0, 14), (0, 15), (0, 19), (0, 20), (0, 21), (1, 4), (0, 5), (0, 6), (1, 10), (0, 11), (0, 12), (1, 16), (0, 17), (0, 18), (1, 22), (0, 23), (2, 24), (2, 25), (0, 26)]
 [Zo 100 8,
 Zo 101 9,
 Zs 102 (.fa 1 (.tmp 3)),
 Zs 103 (.iaA 8 1 (.tmp 102) (.tmp 101)),
 Zs 104 (.ld (.int .u32) (.tmp 103)),
 Zs 105 (.bin .shr (.tmp 104) (.const (.int .u64 24))),
 Zs 106 (.cv .u8 (.tmp 105)),
 Zo 107 9,
 Zs 108 (.fa 1 (.tmp 3)),
 Zs 109 (.iaA 8 1 (.tmp 108) (.tmp 107)),
 Zs 110 (.ld (.int .u32) (.tmp 109)),
 Zs 111 (.bin .shr (.tmp 110) (.const (.int .u64 16))),
 Zs 112 (.cv .u8 (.tmp 111)),
 Zo 113 9,
 Zs 114 (.fa 1 (.tmp 3)),
 Zs 115 (.iaA 8 1 (.tmp 114) (.tmp 113)),
 Zs 116 (.ld (.int .u32) (.tmp 115)),
 Zs 117 (.bin .shr (.tmp 116) (.const (.int .u64 8))),
 Zs 118 (.cv .u8 (.tmp 117)),
 Zo 119 9,
 Zs 120 (.fa 1 (.tmp 3)),
 Zs 121 (.iaA 8 1 (.tmp 120) (.tmp 119)),
 Zs 122 (.ld (.int .u32) (.tmp 121)),
 Zs 123 (.cv .u8 (.tmp 122)),
 Zs 124 (.bsl 5 1 4 #[(.int .u8 0)] [(0, (.tmp 106)), (1, (.tmp 112)), (2, (.tmp 118)), (3, (.tmp 123))]),
 Zs 125 (.app 5 1 1 #[(.int .u8 0)] (.tmp 100) (.tmp 124)),
 Zo 8 125])
 (.exit 7))
 .skip))
 (.seq (.ops [Zs 126 (.mv (Zi 0))])
 (.block 8
 (.loop
 (.seq (.ops [Zs 127 (.bin .lss (.tmp 126) (Zi 8))])
 (.seq (.cond (.tmp 127)
 .skip
 (.exit 8))
 (.seq (.block 9
 (.seq (.ops [Zo 128 126,
 Zo 10 128])
 (.ops [Zo 129 8,
 Zo 130 9,
 Zs 131 (.fa 9 (.tmp 3)),
 Zs 132 (.iaA 8 1 (.tmp 131) (.tmp 130)),
 Zs 133 (.ld (.int .u64) (.tmp 132)),
 Zo 134 10,
 Zs 135 (.bin .mul (Zi 8) (.tmp 134)),
 Zs 136 (.bin .sub (Zi 56) (.tmp 135)),
 Zs 137 (.bin .shr (.tmp 133) (.tmp 136)),
 Zs 138 (.cv .u8 (.tmp 137)),
 Zs 139 (.bsl 5 1 1 #[(.int .u8 0)] [(0, (.tmp 138))]),
 Zs 140 (.app 5 1 1 #[(.int .u8 0)] (.tmp 129) (.tmp 139)),
 Zo 8 140])))
 (.ops [Zs 141 (.bin .add (.tmp 126) (Zi 1)),
 Zo 126 141]))))))))))
 (.ops [Zs 142 (.bin .add (.tmp 95) (Zi 1)),
 Zo 95 142])))))))
 (.seq (.ops [Zo 143 8,
 Zo 144 0,
 Zs 145 (.nilc (.tmp 144)),
 Zs 146 (.fa 0 (.tmp 145)),
 Zs 147 (.ld (.int .i64) (.tmp 146)),
 Zs 148 (.call 37 [(.tmp 147)]),
 Zs 149 (.slc 1 (.tmp 143) none (some (.tmp 148)) none),
 Zo 2 149])
 .ret))))))))))))⟩
theorem h72 : strF Tryz.prog [(24, .inl [(0, 0), (0, 1), (0, 2), (0, 3), (0, 7), (0, 8), (0, 9), (0, 13), (0, 14), (0, 15), (0, 19), (0, 20), (0, 21), (1, 4), (0, 5), (0, 6), (1, 10), (0, 11), (0, 12), (1, 16), (0, 17), (0, 18), (1, 22), (0, 23), (2, 24), (2, 25), (0, 26)])] Tryz.f72 = some c72 := by kernel_rfl
/-- chirograph/chirographref01.Digits -/
def c73 : Fun := ⟨28, [.inl 2],
 (.seq (.ops [Zs 2 (.mv (.const (.slice none 0 0)))])
 (.seq (.ops [Zs 3 (.mv (.const (.slice none 0 0)))])
 (.seq (.seq (.ops [Zs 4 (.mv (Zi 0))])
 (.block 0
 (.loop
 (.seq (.seq (.ops [Zo 5 4,
 Zo 6 0,
 Zs 7 (.len (.tmp 6)),
 Zs 8 (.bin .lss (.tmp 5) (.tmp 7))])
 (.cond (.tmp 8)
 .skip
 (.exit 0)))
 (.seq (.block 1
 (.drawS [(0, 0), (0, 1), (0, 2), (0, 3), (0, 7), (0, 8), (0, 9), (1, 4), (0, 5), (0, 6), (1, 10), (0, 11), (0, 12), (2, 13), (2, 14), (0, 15)]
 [Zo 11 3,
 Zo 12 0,
 Zo 13 4,
 Zs 14 (.ia 1 (.tmp 12) (.tmp 13)),
 Zs 15 (.ld (.int .u32) (.tmp 14)),
 Zs 16 (.bin .and (.tmp 15) (.const (.int .u32 65535))),
 Zs 17 (.cv .u64 (.tmp 16)),
 Zo 18 0,
 Zo 19 4,
 Zs 20 (.ia 1 (.tmp 18) (.tmp 19)),
 Zs 21 (.ld (.int .u32) (.tmp 20)),
 Zs 22 (.bin .shr (.tmp 21) (.const (.int .u64 16))),
 Zs 23 (.cv .u64 (.tmp 22)),
 Zs 24 (.bsl 60 1 2 #[(.int .u64 0)] [(0, (.tmp 17)), (1, (.tmp 23))]),
 Zs 25 (.app 60 1 8 #[(.int .u64 0)] (.tmp 11) (.tmp 24)),
 Zo 3 25]))
 (.ops [Zo 9 4,
 Zs 10 (.bin .add (.tmp 9) (Zi 1)),
 Zo 4 10]))))))
 (.seq (.ops [Zo 26 3,
 Zs 27 (.call 100 [(.tmp 26)]),
 Zo 2 27])
 .ret))))⟩
theorem h73 : strF Tryz.prog [(5, .inl [(0, 0), (0, 1), (0, 2), (0, 3), (0, 7), (0, 8), (0, 9), (1, 4), (0, 5), (0, 6), (1, 10), (0, 11), (0, 12), (2, 13), (2, 14), (0, 15)])] Tryz.f73 = some c73 := by kernel_rfl
/-- chirograph/rsa.blocks$1 -/
def c74 : Fun := ⟨32, [],
 (.seq (.ops [Zs 4 (.mv (Zi 0))])
 (.block 0
 (.loop
 (.seq (.block 1
 (.seq (.ops [Zs 10 (.ld (.int .i64) (.tmp 1)),
 Zs 11 (.ld .slice (.tmp 2)),
 Zo 12 4,
 Zs 13 (.bin .shr (.tmp 12) (.const (.int .u64 24))),
 Zs 14 (.cv .u8 (.tmp 13)),
 Zo 15 4,
 Zs 16 (.bin .shr (.tmp 15) (.const (.int .u64 16))),
 Zs 17 (.cv .u8 (.tmp 16)),
 Zo 18 4,
 Zs 19 (.bin .shr (.tmp 18) (.const (.int .u64 8))),
 Zs 20 (.cv .u8 (.tmp 19)),
 Zo 21 4,
 Zs 22 (.cv .u8 (.tmp 21)),
 Zs 23 (.bsl 5 1 4 #[(.int .u8 0)] [(0, (.tmp 14)), (1, (.tmp 17)), (2, (.tmp 20)), (3, (.tmp 22))]),
 Zs 24 (.bsl 25 1 2 #[(.slice none 0 0)] [(0, (.tmp 11)), (1, (.tmp 23))]),
 Zs 25 (.call 40 [(.tmp 10), (.tmp 24)]),
 Zo 9 25,
 Zs 26 (.ext (.tmp 9) 0),
 Zs 27 (.ext (.tmp 9) 1),
 Zo 5 26,
 Zo 6 27])
 (.seq (.ops [Zo 28 0,
 Zo 29 5,
 Zs 30 (.raw (.call { callee := .value (.tmp 28), args := #[(.tmp 29)], argTypes := #[25] })),
 Zs 31 (.un .not (.tmp 30))])
 (.cond (.tmp 31)
 .ret
 .skip))))
 (.ops [Zo 7 4,
 Zs 8 (.bin .add (.tmp 7) (Zi 1)),
 Zo 4 8])))))⟩
theorem h74 : strF Tryz.prog [] Tryz.f74 = some c74 := by kernel_rfl
/-- chirograph/der.PutOid -/
def c75 : Fun := ⟨49, [.inl 2, .inl 3],
 (.seq (.ops [Zs 2 (.mv (.const (.slice none 0 0))),
 Zs 3 (.mv (Zi 0))])
 (.seq (.ops [Zo 12 0,
 Zs 13 (.call 101 [(.tmp 12)]),
 Zo 11 13,
 Zs 14 (.ext (.tmp 11) 0),
 Zs 15 (.ext (.tmp 11) 1),
 Zo 4 14,
 Zo 5 15])
 (.seq (.seq (.ops [Zo 16 5,
 Zs 17 (.un .not (.tmp 16))])
 (.cond (.tmp 17)
 (.seq (.ops [Zs 2 (.mv (.const (.slice none 0 0))),
 Zs 3 (.mv (Zi 6))])
 .ret)
 .skip))
 (.seq (.seq (.ops [Zo 18 4,
 Zs 19 (.len (.tmp 18)),
 Zs 20 (.mv (Zi 0))])
 (.block 0
 (.loop
 (.seq (.ops [Zs 21 (.bin .lss (.tmp 20) (.tmp 19))])
 (.seq (.cond (.tmp 21)
 .skip
 (.exit 0))
 (.seq (.block 1
 (.seq (.ops [Zs 22 (.ia 1 (.tmp 18) (.tmp 20)),
 Zs 23 (.ld (.int .u64) (.tmp 22)),
 Zo 7 23])
 (.seq (.ops [Zo 24 7,
 Zs 25 (.bin .gtr (.tmp 24) (.const (.int .u64 2147483647)))])
 (.cond (.tmp 25)
 (.seq (.ops [Zs 2 (.mv (.const (.slice none 0 0))),
 Zs 3 (.mv (Zi 3))])
 .ret)
 .skip))))
 (.ops [Zs 26 (.bin .add (.tmp 20) (Zi 1)),
 Zo 20 26])))))))
 (.seq (.drawS [(0, 0), (0, 1), (0, 4), (0, 5), (1, 2), (0, 3), (1, 6), (0, 7), (2, 8), (0, 9)]
 [Zo 27 4,
 Zs 28 (.ia 1 (.tmp 27) (Zi 0)),
 Zs 29 (.ld (.int .u64) (.tmp 28)),
 Zs 30 (.bin .mul (.const (.int .u64 40)) (.tmp 29)),
 Zo 31 4,
 Zs 32 (.ia 1 (.tmp 31) (Zi 1)),
 Zs 33 (.ld (.int .u64) (.tmp 32)),
 Zs 34 (.bin .add (.tmp 30) (.tmp 33)),
 Zs 35 (.call 102 [(.tmp 34)]),
 Zo 8 35])
 (.seq (.seq (.ops [Zo 36 4,
 Zs 37 (.slc 1 (.tmp 36) (some (Zi 2)) none none),
 Zs 38 (.len (.tmp 37)),
 Zs 39 (.mv (Zi 0))])
 (.block 2
 (.loop
 (.seq (.ops [Zs 40 (.bin .lss (.tmp 39) (.tmp 38))])
 (.seq (.cond (.tmp 40)
 .skip
 (.exit 2))
 (.seq (.block 3
 (.seq (.ops [Zs 41 (.ia 1 (.tmp 37) (.tmp 39)),
 Zs 42 (.ld (.int .u64) (.tmp 41)),
 Zo 10 42])
 (.ops [Zo 43 8,
 Zo 44 10,
 Zs 45 (.call 102 [(.tmp 44)]),
 Zs 46 (.app 5 1 1 #[(.int .u8 0)] (.tmp 43) (.tmp 45)),
 Zo 8 46])))
 (.ops [Zs 47 (.bin .add (.tmp 39) (Zi 1)),
 Zo 39 47])))))))
 (.seq (.ops [Zo 48 8,
 Zo 2 48,
 Zs 3 (.mv (Zi 0))])
 .ret)))))))⟩
theorem h75 : strF Tryz.prog [(10, .inl [(0, 0), (0, 1), (0, 4), (0, 5), (1, 2), (0, 3), (1, 6), (0, 7), (2, 8), (0, 9)])] Tryz.f75 = some c75 := by kernel_rfl
/-- chirograph/rsa.oid -/
def c76 : Fun := ⟨10, [.inl 2],
 (.seq (.ops [Zs 2 (.mv (.const (.string ⟨#[]⟩)))])
 (.seq (.seq (.ops [Zo 3 0])
 (.block 0
 (.seq (.ops [Zs 5 (.bin .eql (.tmp 3) (Zi 1)),
 Zo 4 5])
 (.cond (.tmp 4)
 (.seq (.ops [Zs 2 (.mv (.const (.string ⟨#[49, 46, 51, 46, 49, 52, 46, 51, 46, 50, 46, 50, 54]⟩)))])
 .ret)
 (.seq (.ops [Zs 7 (.bin .eql (.tmp 3) (Zi 2)),
 Zo 6 7])
 (.cond (.tmp 6)
 (.seq (.ops [Zs 2 (.mv (.const (.string ⟨#[50, 46, 49, 54, 46, 56, 52, 48, 46, 49, 46, 49, 48, 49, 46, 51, 46, 52, 46, 50, 46, 49]⟩)))])
 .ret)
 (.seq (.ops [Zs 9 (.bin .eql (.tmp 3) (Zi 3)),
 Zo 8 9])
 (.cond (.tmp 8)
 (.seq (.ops [Zs 2 (.mv (.const (.string ⟨#[50, 46, 49, 54, 46, 56, 52, 48, 46, 49, 46, 49, 48, 49, 46, 51, 46, 52, 46, 50, 46, 50]⟩)))])
 .ret)
 .skip))))))))
 (.seq (.ops [Zs 2 (.mv (.const (.string ⟨#[50, 46, 49, 54, 46, 56, 52, 48, 46, 49, 46, 49, 48, 49, 46, 51, 46, 52, 46, 50, 46, 51]⟩)))])
 .ret)))⟩
theorem h76 : strF Tryz.prog [] Tryz.f76 = some c76 := by kernel_rfl
/-- chirograph/der.Put -/
def c77 : Fun := ⟨122, [.inl 8, .inl 9],
 (.seq (.ops [Zs 8 (.mv (.const (.slice none 0 0))),
 Zs 9 (.mv (Zi 0))])
 (.seq (.seq (.ops [Zo 18 0,
 Zs 19 (.bin .lss (.tmp 18) (Zi 0)),
 Zo 20 19,
 ⟨some 21, some (20, false), .mv (.tmp 0)⟩,
 ⟨some 22, some (20, false), .bin .gtr (.tmp 21) (Zi 3)⟩,
 Zs 23 (.pick (.tmp 20) (.const (.bool true)) (.tmp 22)),
 Zo 24 23,
 ⟨some 25, some (24, false), .mv (.tmp 1)⟩,
 ⟨some 26, some (24, false), .bin .lss (.tmp 25) (Zi 0)⟩,
 Zs 27 (.pick (.tmp 24) (.const (.bool true)) (.tmp 26)),
 Zo 28 27,
 ⟨some 29, some (28, false), .mv (.tmp 1)⟩,
 ⟨some 30, some (28, false), .bin .gtr (.tmp 29) (Zi 268435455)⟩,
 Zs 31 (.pick (.tmp 28) (.const (.bool true)) (.tmp 30)),
 Zo 32 31,
 ⟨some 33, some (32, false), .mv (.tmp 0)⟩,
 ⟨some 34, some (32, false), .mv (.tmp 1)⟩,
 ⟨some 35, some (32, false), .bin .add (.tmp 33) (.tmp 34)⟩,
 ⟨some 36, some (32, false), .bin .eql (.tmp 35) (Zi 0)⟩,
 Zs 37 (.pick (.tmp 32) (.const (.bool true)) (.tmp 36))])
 (.cond (.tmp 37)
 (.seq (.ops [Zs 8 (.mv (.const (.slice none 0 0))),
 Zs 9 (.mv (Zi 1))])
 .ret)
 .skip))
 (.seq (.ops [Zs 10 (.mv (Zi 0))])
 (.seq (.seq (.ops [Zo 38 3,
 Zs 39 (.len (.tmp 38)),
 Zs 40 (.mv (Zi 0))])
 (.block 0
 (.loop
 (.seq (.ops [Zs 41 (.bin .lss (.tmp 40) (.tmp 39))])
 (.seq (.cond (.tmp 41)
 .skip
 (.exit 0))
 (.seq (.block 1
 (.seq (.ops [Zs 42 (.ia 1 (.tmp 38) (.tmp 40)),
 Zs 43 (.ld .slice (.tmp 42)),
 Zo 12 43])
 (.seq (.seq (.ops [Zo 44 12,
 Zs 45 (.len (.tmp 44)),
 Zo 46 10,
 Zs 47 (.bin .sub (Zi 16777216) (.tmp 46)),
 Zs 48 (.bin .gtr (.tmp 45) (.tmp 47))])
 (.cond (.tmp 48)
 (.seq (.ops [Zs 8 (.mv (.const (.slice none 0 0))),
 Zs 9 (.mv (Zi 3))])
 .ret)
 .skip))
 (.ops [Zo 49 10,
 Zo 50 12,
 Zs 51 (.len (.tmp 50)),
 Zs 52 (.bin .add (.tmp 49) (.tmp 51)),
 Zo 10 52]))))
 (.ops [Zs 53 (.bin .add (.tmp 40) (Zi 1)),
 Zo 40 53])))))))
 (.seq (.ops [Zo 54 0,
 Zs 55 (.bin .shl (.tmp 54) (.const (.int .u64 6))),
 Zs 56 (.cv .u8 (.tmp 55)),
 Zo 13 56])
 (.join (.seq (.ops [Zo 57 2])
 (.cond (.tmp 57)
 (.ops [Zo 58 13,
 Zs 59 (.bin .or (.tmp 58) (.const (.int .u8 32))),
 Zo 13 59])
 .skip))
 (.seq (.ops [Zo 60 10,
 Zs 61 (.bin .add (.tmp 60) (Zi 10)),
 Zs 62 (.mks 5 1 1 #[(.int .u8 0)] (Zi 0) (.tmp 61)),
 Zo 14 62])
 (.join (.seq (.ops [Zo 63 1,
 Zs 64 (.bin .lss (.tmp 63) (Zi 31))])
 (.cond (.tmp 64)
 (.ops [Zo 65 14,
 Zo 66 13,
 Zo 67 1,
 Zs 68 (.cv .u8 (.tmp 67)),
 Zs 69 (.bin .or (.tmp 66) (.tmp 68)),
 Zs 70 (.bsl 5 1 1 #[(.int .u8 0)] [(0, (.tmp 69))]),
 Zs 71 (.app 5 1 1 #[(.int .u8 0)] (.tmp 65) (.tmp 70)),
 Zo 14 71])
 (.seq (.ops [Zo 72 14,
 Zo 73 13,
 Zs 74 (.bin .or (.tmp 73) (.const (.int .u8 31))),
 Zs 75 (.bsl 5 1 1 #[(.int .u8 0)] [(0, (.tmp 74))]),
 Zs 76 (.app 5 1 1 #[(.int .u8 0)] (.tmp 72) (.tmp 75)),
 Zo 14 76])
 (.ops [Zo 77 14,
 Zo 78 1,
 Zs 79 (.cv .u64 (.tmp 78)),
 Zs 80 (.call 102 [(.tmp 79)]),
 Zs 81 (.app 5 1 1 #[(.int .u8 0)] (.tmp 77) (.tmp 80)),
 Zo 14 81]))))
 (.join (.seq (.ops [Zo 82 10,
 Zs 83 (.bin .lss (.tmp 82) (Zi 128))])
 (.cond (.tmp 83)
 (.ops [Zo 84 14,
 Zo 85 10,
 Zs 86 (.cv .u8 (.tmp 85)),
 Zs 87 (.bsl 5 1 1 #[(.int .u8 0)] [(0, (.tmp 86))]),
 Zs 88 (.app 5 1 1 #[(.int .u8 0)] (.tmp 84) (.tmp 87)),
 Zo 14 88])
 (.seq (.ops [Zo 89 10,
 Zs 90 (.bin .shr (.tmp 89) (.const (.int .u64 24))),
 Zs 91 (.cv .u8 (.tmp 90)),
 Zo 92 10,
 Zs 93 (.bin .shr (.tmp 92) (.const (.int .u64 16))),
 Zs 94 (.cv .u8 (.tmp 93)),
 Zo 95 10,
 Zs 96 (.bin .shr (.tmp 95) (.const (.int .u64 8))),
 Zs 97 (.cv .u8 (.tmp 96)),
 Zo 98 10,
 Zs 99 (.cv .u8 (.tmp 98)),
 Zs 100 (.bsl 5 1 4 #[(.int .u8 0)] [(0, (.tmp 91)), (1, (.tmp 94)), (2, (.tmp 97)), (3, (.tmp 99))]),
 Zs 101 (.call 39 [(.tmp 100), (.const (.string ⟨#[0]⟩))]),
 Zo 15 101])
 (.ops [Zo 102 14,
 Zo 103 15,
 Zs 104 (.len (.tmp 103)),
 Zs 105 (.cv .u8 (.tmp 104)),
 Zs 106 (.bin .or (.const (.int .u8 128)) (.tmp 105)),
 Zs 107 (.bsl 5 1 1 #[(.int .u8 0)] [(0, (.tmp 106))]),
 Zs 108 (.app 5 1 1 #[(.int .u8 0)] (.tmp 102) (.tmp 107)),
 Zo 109 15,
 Zs 110 (.app 5 1 1 #[(.int .u8 0)] (.tmp 108) (.tmp 109)),
 Zo 14 110]))))
 (.seq (.seq (.ops [Zo 111 3,
 Zs 112 (.len (.tmp 111)),
 Zs 113 (.mv (Zi 0))])
 (.block 2
 (.loop
 (.seq (.ops [Zs 114 (.bin .lss (.tmp 113) (.tmp 112))])
 (.seq (.cond (.tmp 114)
 .skip
 (.exit 2))
 (.seq (.block 3
 (.seq (.ops [Zs 115 (.ia 1 (.tmp 111) (.tmp 113)),
 Zs 116 (.ld .slice (.tmp 115)),
 Zo 17 116])
 (.ops [Zo 117 14,
 Zo 118 17,
 Zs 119 (.app 5 1 1 #[(.int .u8 0)] (.tmp 117) (.tmp 118)),
 Zo 14 119])))
 (.ops [Zs 120 (.bin .add (.tmp 113) (Zi 1)),
 Zo 113 120])))))))
 (.seq (.ops [Zo 121 14,
 Zo 8 121,
 Zs 9 (.mv (Zi 0))])
 .ret)))))))))))⟩
theorem h77 : strF Tryz.prog [] Tryz.f77 = some c77 := by kernel_rfl
/-- math/bits.Mul -/
def c78 : Fun := ⟨30, [.inl 4, .inl 5],
 (.seq (.ops [Zs 4 (.mv (.const (.int .u64 0))),
 Zs 5 (.mv (.const (.int .u64 0)))])
 (.seq (.cond (.const (.bool false))
 (.seq (.ops [Zo 11 0,
 Zs 12 (.cv .u32 (.tmp 11)),
 Zo 13 1,
 Zs 14 (.cv .u32 (.tmp 13)),
 Zs 15 (.call 103 [(.tmp 12), (.tmp 14)]),
 Zo 10 15,
 Zs 16 (.ext (.tmp 10) 0),
 Zs 17 (.ext (.tmp 10) 1),
 Zo 6 16,
 Zo 7 17])
 (.seq (.ops [Zo 18 6,
 Zs 19 (.cv .u64 (.tmp 18)),
 Zo 20 7,
 Zs 21 (.cv .u64 (.tmp 20)),
 Zo 4 19,
 Zo 5 21])
 .ret))
 .skip)
 (.seq (.ops [Zo 23 0,
 Zo 24 1,
 Zs 25 (.call 104 [(.tmp 23), (.tmp 24)]),
 Zo 22 25,
 Zs 26 (.ext (.tmp 22) 0),
 Zs 27 (.ext (.tmp 22) 1),
 Zo 8 26,
 Zo 9 27])
 (.seq (.ops [Zo 28 8,
 Zo 29 9,
 Zo 4 28,
 Zo 5 29])
 .ret))))⟩
theorem h78 : strF Tryz.prog [] Tryz.f78 = some c78 := by kernel_rfl
/-- chirograph/nat.long -/
def c80 : Fun := ⟨18, [.inl 4],
 (.seq (.ops [Zs 4 (.mv (.const (.bool false)))])
 (.seq (.seq (.ops [Zo 7 1,
 Zs 8 (.len (.tmp 7)),
 Zs 9 (.mv (Zi 0))])
 (.block 0
 (.loop
 (.seq (.ops [Zs 10 (.bin .lss (.tmp 9) (.tmp 8))])
 (.seq (.cond (.tmp 10)
 .skip
 (.exit 0))
 (.seq (.block 1
 (.seq (.ops [Zs 11 (.ia 1 (.tmp 7) (.tmp 9)),
 Zs 12 (.ld .slice (.tmp 11)),
 Zo 6 12])
 (.seq (.ops [Zo 13 6,
 Zs 14 (.len (.tmp 13)),
 Zo 15 0,
 Zs 16 (.bin .gtr (.tmp 14) (.tmp 15))])
 (.cond (.tmp 16)
 (.seq (.ops [Zs 4 (.mv (.const (.bool true)))])
 .ret)
 .skip))))
 (.ops [Zs 17 (.bin .add (.tmp 9) (Zi 1)),
 Zo 9 17])))))))
 (.seq (.ops [Zs 4 (.mv (.const (.bool false)))])
 .ret)))⟩
theorem h80 : strF Tryz.prog [] Tryz.f80 = some c80 := by kernel_rfl
/-- chirograph/nat.parts -/
def c81 : Fun := ⟨129, [.inl 4, .inl 5],
 (.seq (.ops [Zs 4 (.mv (.const (.slice none 0 0))),
 Zs 5 (.mv (.const (.slice none 0 0)))])
 (.seq (.ops [Zo 13 0,
 Zs 14 (.call 64 [(.tmp 13)]),
 Zo 15 1,
 Zs 16 (.call 64 [(.tmp 15)]),
 Zo 0 14,
 Zo 1 16])
 (.seq (.block 0
 (.seq (.ops [Zo 18 0,
 Zo 19 1,
 Zs 20 (.call 47 [(.tmp 18), (.tmp 19)]),
 Zs 21 (.bin .lss (.tmp 20) (Zi 0)),
 Zo 17 21])
 (.cond (.tmp 17)
 (.seq (.ops [Zo 22 0,
 Zs 23 (.call 83 [(.tmp 22)]),
 Zs 4 (.mv (.const (.slice none 0 0))),
 Zo 5 23])
 .ret)
 (.seq (.ops [Zo 25 1,
 Zs 26 (.len (.tmp 25)),
 Zs 27 (.bin .eql (.tmp 26) (Zi 1)),
 Zo 24 27])
 (.cond (.tmp 24)
 (.seq (.ops [Zo 28 0,
 Zo 29 1,
 Zs 30 (.ia 1 (.tmp 29) (Zi 0)),
 Zs 31 (.ld (.int .u32) (.tmp 30)),
 Zs 32 (.call 105 [(.tmp 28), (.tmp 31)]),
 Zs 33 (.ext (.tmp 32) 0),
 Zs 34 (.ext (.tmp 32) 1),
 Zo 4 33,
 Zo 5 34])
 .ret)
 .skip)))))
 (.seq (.ops [Zo 35 1,
 Zo 36 1,
 Zs 37 (.len (.tmp 36)),
 Zs 38 (.bin .sub (.tmp 37) (Zi 1)),
 Zs 39 (.ia 1 (.tmp 35) (.tmp 38)),
 Zs 40 (.ld (.int .u32) (.tmp 39)),
 Zs 41 (.call 106 [(.tmp 40)]),
 Zo 6 41])
 (.seq (.ops [Zo 42 0,
 Zo 43 6,
 Zs 44 (.call 107 [(.tmp 42), (.tmp 43)]),
 Zo 45 1,
 Zo 46 6,
 Zs 47 (.call 107 [(.tmp 45), (.tmp 46)]),
 Zs 48 (.call 64 [(.tmp 47)]),
 Zo 7 44,
 Zo 8 48])
 (.seq (.ops [Zo 49 8,
 Zs 50 (.len (.tmp 49)),
 Zo 9 50])
 (.seq (.ops [Zo 51 7,
 Zs 52 (.len (.tmp 51)),
 Zo 53 9,
 Zs 54 (.bin .sub (.tmp 52) (.tmp 53)),
 Zs 55 (.mks 50 1 4 #[(.int .u32 0)] (.tmp 54) (.tmp 54)),
 Zo 4 55])
 (.seq (.seq (.ops [Zo 56 7,
 Zs 57 (.len (.tmp 56)),
 Zo 58 9,
 Zs 59 (.bin .sub (.tmp 57) (.tmp 58)),
 Zs 60 (.bin .sub (.tmp 59) (Zi 1)),
 Zo 10 60])
 (.block 1
 (.loop
 (.seq (.seq (.ops [Zo 61 10,
 Zs 62 (.bin .geq (.tmp 61) (Zi 0))])
 (.cond (.tmp 62)
 .skip
 (.exit 1)))
 (.seq (.block 2
 (.seq (.drawS [(0, 0), (0, 1), (0, 2), (0, 3), (0, 4), (0, 5), (0, 6), (0, 7), (0, 8), (0, 9), (0, 11), (0, 12), (0, 13), (0, 14), (1, 10), (1, 15), (2, 16), (0, 17)]
 [Zo 65 7,
 Zo 66 10,
 Zo 67 9,
 Zs 68 (.bin .add (.tmp 66) (.tmp 67)),
 Zs 69 (.bin .add (.tmp 68) (Zi 1)),
 Zs 70 (.slc 1 (.tmp 65) none (some (.tmp 69)) none),
 Zo 71 8,
 Zo 72 9,
 Zs 73 (.bin .sub (.tmp 72) (Zi 1)),
 Zs 74 (.ia 1 (.tmp 71) (.tmp 73)),
 Zs 75 (.ld (.int .u32) (.tmp 74)),
 Zo 76 8,
 Zo 77 9,
 Zs 78 (.bin .sub (.tmp 77) (Zi 2)),
 Zs 79 (.ia 1 (.tmp 76) (.tmp 78)),
 Zs 80 (.ld (.int .u32) (.tmp 79)),
 Zs 81 (.call 108 [(.tmp 70), (.tmp 75), (.tmp 80)]),
 Zo 11 81])
 (.join (.seq (.ops [Zo 82 7,
 Zo 83 10,
 Zo 84 10,
 Zo 85 9,
 Zs 86 (.bin .add (.tmp 84) (.tmp 85)),
 Zs 87 (.bin .add (.tmp 86) (Zi 1)),
 Zs 88 (.slc 1 (.tmp 82) (some (.tmp 83)) (some (.tmp 87)) none),
 Zo 89 8,
 Zo 90 11,
 Zs 91 (.call 109 [(.tmp 88), (.tmp 89), (.tmp 90)]),
 Zs 92 (.un .not (.tmp 91))])
 (.cond (.tmp 92)
 (.ops [Zo 93 11,
 Zs 94 (.bin .sub (.tmp 93) (.const (.int .u32 1))),
 Zo 11 94])
 .skip))
 (.ops [Zo 95 4,
 Zo 96 10,
 Zo 97 11,
 Zs 98 (.ia 1 (.tmp 95) (.tmp 96)),
 ⟨none, none, .st 1 (.tmp 98) (.tmp 97)⟩]))))
 (.ops [Zo 63 10,
 Zs 64 (.bin .sub (.tmp 63) (Zi 1)),
 Zo 10 64]))))))
 (.seq (.ops [Zo 99 9,
 Zs 100 (.mks 50 1 4 #[(.int .u32 0)] (.tmp 99) (.tmp 99)),
 Zo 5 100])
 (.seq (.seq (.ops [Zo 101 9,
 Zs 102 (.mv (Zi 0))])
 (.block 3
 (.loop
 (.seq (.ops [Zs 103 (.bin .lss (.tmp 102) (.tmp 101))])
 (.seq (.cond (.tmp 103)
 .skip
 (.exit 3))
 (.seq (.block 4
 (.seq (.ops [Zo 104 102,
 Zo 12 104])
 (.draw 19 [Zo 105 5,
 Zo 106 12,
 Zo 107 7,
 Zo 108 12,
 Zs 109 (.bin .add (.tmp 108) (Zi 1)),
 Zs 110 (.ia 1 (.tmp 107) (.tmp 109)),
 Zs 111 (.ld (.int .u32) (.tmp 110)),
 Zs 112 (.cv .u64 (.tmp 111)),
 Zs 113 (.bin .shl (.tmp 112) (.const (.int .u64 32))),
 Zo 114 7,
 Zo 115 12,
 Zs 116 (.ia 1 (.tmp 114) (.tmp 115)),
 Zs 117 (.ld (.int .u32) (.tmp 116)),
 Zs 118 (.cv .u64 (.tmp 117)),
 Zs 119 (.bin .or (.tmp 113) (.tmp 118)),
 Zo 120 6,
 Zs 121 (.bin .shr (.tmp 119) (.tmp 120)),
 Zs 122 (.cv .u32 (.tmp 121)),
 Zs 123 (.ia 1 (.tmp 105) (.tmp 106)),
 ⟨none, none, .st 1 (.tmp 123) (.tmp 122)⟩])))
 (.ops [Zs 124 (.bin .add (.tmp 102) (Zi 1)),
 Zo 102 124])))))))
 (.seq (.ops [Zo 125 4,
 Zs 126 (.call 64 [(.tmp 125)]),
 Zo 127 5,
 Zs 128 (.call 64 [(.tmp 127)]),
 Zo 4 126,
 Zo 5 128])
 .ret)))))))))))⟩
theorem h81 : strF Tryz.prog [(13, .inl [(0, 0), (0, 1), (0, 2), (0, 3), (0, 4), (0, 5), (0, 6), (0, 7), (0, 8), (0, 9), (0, 11), (0, 12), (0, 13), (0, 14), (1, 10), (1, 15), (2, 16), (0, 17)])] Tryz.f81 = some c81 := by kernel_rfl
/-- chirograph/nat.times -/
def c82 : Fun := ⟨18, [.inl 6],
 (.seq (.ops [Zs 6 (.mv (.const (.slice none 0 0)))])
 (.seq (.ops [Zo 10 0,
 Zo 11 1,
 Zs 12 (.call 110 [(.tmp 10), (.tmp 11)]),
 Zo 13 2,
 Zs 14 (.call 81 [(.tmp 12), (.tmp 13)]),
 Zo 9 14,
 Zs 15 (.ext (.tmp 9) 0),
 Zs 16 (.ext (.tmp 9) 1),
 Zo 7 15,
 Zo 8 16])
 (.seq (.ops [Zo 17 8,
 Zo 6 17])
 .ret)))⟩
theorem h82 : strF Tryz.prog [] Tryz.f82 = some c82 := by kernel_rfl
/-- chirograph/nat.Trim -/
def c83 : Fun := ⟨6, [.inl 2],
 (.seq (.ops [Zs 2 (.mv (.const (.slice none 0 0)))])
 (.seq (.ops [Zo 3 0,
 Zs 4 (.call 64 [(.tmp 3)]),
 Zs 5 (.app 50 1 4 #[(.int .u32 0)] (.const (.slice none 0 0)) (.tmp 4)),
 Zo 2 5])
 .ret))⟩
theorem h83 : strF Tryz.prog [] Tryz.f83 = some c83 := by kernel_rfl
/-- chirograph/chirographref01.Limbs -/
def c84 : Fun := ⟨38, [.inl 2],
 (.seq (.ops [Zs 2 (.mv (.const (.slice none 0 0)))])
 (.seq (.ops [Zo 6 0,
 Zs 7 (.call 100 [(.tmp 6)]),
 Zo 0 7])
 (.seq (.ops [Zs 3 (.mv (.const (.slice none 0 0)))])
 (.seq (.seq (.ops [Zs 4 (.mv (Zi 0))])
 (.block 0
 (.loop
 (.seq (.seq (.ops [Zo 8 4,
 Zo 9 0,
 Zs 10 (.len (.tmp 9)),
 Zs 11 (.bin .lss (.tmp 8) (.tmp 10))])
 (.cond (.tmp 11)
 .skip
 (.exit 0)))
 (.seq (.block 1
 (.seq (.ops [Zo 14 0,
 Zo 15 4,
 Zs 16 (.ia 1 (.tmp 14) (.tmp 15)),
 Zs 17 (.ld (.int .u64) (.tmp 16)),
 Zs 18 (.cv .u32 (.tmp 17)),
 Zo 5 18])
 (.join (.seq (.ops [Zo 19 4,
 Zs 20 (.bin .add (.tmp 19) (Zi 1)),
 Zo 21 0,
 Zs 22 (.len (.tmp 21)),
 Zs 23 (.bin .lss (.tmp 20) (.tmp 22))])
 (.cond (.tmp 23)
 (.ops [Zo 24 5,
 Zo 25 0,
 Zo 26 4,
 Zs 27 (.bin .add (.tmp 26) (Zi 1)),
 Zs 28 (.ia 1 (.tmp 25) (.tmp 27)),
 Zs 29 (.ld (.int .u64) (.tmp 28)),
 Zs 30 (.cv .u32 (.tmp 29)),
 Zs 31 (.bin .shl (.tmp 30) (.const (.int .u64 16))),
 Zs 32 (.bin .add (.tmp 24) (.tmp 31)),
 Zo 5 32])
 .skip))
 (.ops [Zo 33 3,
 Zo 34 5,
 Zs 35 (.bsl 50 1 1 #[(.int .u32 0)] [(0, (.tmp 34))]),
 Zs 36 (.app 50 1 4 #[(.int .u32 0)] (.tmp 33) (.tmp 35)),
 Zo 3 36]))))
 (.ops [Zo 12 4,
 Zs 13 (.bin .add (.tmp 12) (Zi 2)),
 Zo 4 13]))))))
 (.seq (.ops [Zo 37 3,
 Zo 2 37])
 .ret)))))⟩
theorem h84 : strF Tryz.prog [] Tryz.f84 = some c84 := by kernel_rfl
/-- chirograph/chirographref01.order -/
def c85 : Fun := ⟨35, [.inl 4],
 (.seq (.ops [Zs 4 (.mv (Zi 0))])
 (.seq (.ops [Zo 9 0,
 Zs 10 (.len (.tmp 9)),
 Zo 5 10])
 (.join (.seq (.ops [Zo 11 1,
 Zs 12 (.len (.tmp 11)),
 Zo 13 5,
 Zs 14 (.bin .gtr (.tmp 12) (.tmp 13))])
 (.cond (.tmp 14)
 (.ops [Zo 15 1,
 Zs 16 (.len (.tmp 15)),
 Zo 5 16])
 .skip))
 (.seq (.seq (.ops [Zo 17 5,
 Zs 18 (.bin .sub (.tmp 17) (Zi 1)),
 Zo 6 18])
 (.block 0
 (.loop
 (.seq (.seq (.ops [Zo 19 6,
 Zs 20 (.bin .geq (.tmp 19) (Zi 0))])
 (.cond (.tmp 20)
 .skip
 (.exit 0)))
 (.seq (.block 1
 (.seq (.ops [Zo 23 0,
 Zo 24 6,
 Zs 25 (.call 92 [(.tmp 23), (.tmp 24)]),
 Zo 26 1,
 Zo 27 6,
 Zs 28 (.call 92 [(.tmp 26), (.tmp 27)]),
 Zo 7 25,
 Zo 8 28])
 (.seq (.seq (.ops [Zo 29 7,
 Zo 30 8,
 Zs 31 (.bin .lss (.tmp 29) (.tmp 30))])
 (.cond (.tmp 31)
 (.seq (.ops [Zs 4 (.mv (.const (.int .i64 (-1))))])
 .ret)
 .skip))
 (.seq (.ops [Zo 32 7,
 Zo 33 8,
 Zs 34 (.bin .gtr (.tmp 32) (.tmp 33))])
 (.cond (.tmp 34)
 (.seq (.ops [Zs 4 (.mv (Zi 1))])
 .ret)
 .skip)))))
 (.ops [Zo 21 6,
 Zs 22 (.bin .sub (.tmp 21) (Zi 1)),
 Zo 6 22]))))))
 (.seq (.ops [Zs 4 (.mv (Zi 0))])
 .ret)))))⟩
theorem h85 : strF Tryz.prog [] Tryz.f85 = some c85 := by kernel_rfl
/-- chirograph/chirographref01.long -/
def c86 : Fun := ⟨17, [.inl 6],
 (.seq (.ops [Zs 6 (.mv (.const (.bool false)))])
 (.seq (.ops [Zo 7 1,
 Zs 8 (.len (.tmp 7)),
 Zo 9 0,
 Zs 10 (.bin .gtr (.tmp 8) (.tmp 9)),
 Zo 11 10,
 ⟨some 12, some (11, false), .mv (.tmp 2)⟩,
 ⟨some 13, some (11, false), .len (.tmp 12)⟩,
 ⟨some 14, some (11, false), .mv (.tmp 0)⟩,
 ⟨some 15, some (11, false), .bin .gtr (.tmp 13) (.tmp 14)⟩,
 Zs 16 (.pick (.tmp 11) (.const (.bool true)) (.tmp 15)),
 Zo 6 16])
 .ret))⟩
theorem h86 : strF Tryz.prog [] Tryz.f86 = some c86 := by kernel_rfl
/-- chirograph/chirographref01.add -/
def c87 : Fun := ⟨43, [.inl 4],
 (.seq (.ops [Zs 4 (.mv (.const (.slice none 0 0)))])
 (.seq (.ops [Zs 5 (.mv (.const (.slice none 0 0)))])
 (.seq (.ops [Zs 6 (.mv (.const (.int .u64 0)))])
 (.seq (.seq (.ops [Zs 7 (.mv (Zi 0))])
 (.block 0
 (.loop
 (.seq (.seq (.ops [Zo 9 7,
 Zo 10 0,
 Zs 11 (.len (.tmp 10)),
 Zs 12 (.bin .lss (.tmp 9) (.tmp 11)),
 Zo 13 12,
 ⟨some 14, some (13, false), .mv (.tmp 7)⟩,
 ⟨some 15, some (13, false), .mv (.tmp 1)⟩,
 ⟨some 16, some (13, false), .len (.tmp 15)⟩,
 ⟨some 17, some (13, false), .bin .lss (.tmp 14) (.tmp 16)⟩,
 Zs 18 (.pick (.tmp 13) (.const (.bool true)) (.tmp 17)),
 Zo 19 18,
 ⟨some 20, some (19, false), .mv (.tmp 6)⟩,
 ⟨some 21, some (19, false), .bin .gtr (.tmp 20) (.const (.int .u64 0))⟩,
 Zs 22 (.pick (.tmp 19) (.const (.bool true)) (.tmp 21))])
 (.cond (.tmp 22)
 .skip
 (.exit 0)))
 (.seq (.block 1
 (.seq (.ops [Zo 25 0,
 Zo 26 7,
 Zs 27 (.call 92 [(.tmp 25), (.tmp 26)]),
 Zo 28 1,
 Zo 29 7,
 Zs 30 (.call 92 [(.tmp 28), (.tmp 29)]),
 Zs 31 (.bin .add (.tmp 27) (.tmp 30)),
 Zo 32 6,
 Zs 33 (.bin .add (.tmp 31) (.tmp 32)),
 Zo 8 33])
 (.seq (.ops [Zo 34 5,
 Zo 35 8,
 Zs 36 (.bin .rem (.tmp 35) (.const (.int .u64 65536))),
 Zs 37 (.bsl 60 1 1 #[(.int .u64 0)] [(0, (.tmp 36))]),
 Zs 38 (.app 60 1 8 #[(.int .u64 0)] (.tmp 34) (.tmp 37)),
 Zo 5 38])
 (.ops [Zo 39 8,
 Zs 40 (.bin .quo (.tmp 39) (.const (.int .u64 65536))),
 Zo 6 40]))))
 (.ops [Zo 23 7,
 Zs 24 (.bin .add (.tmp 23) (Zi 1)),
 Zo 7 24]))))))
 (.seq (.ops [Zo 41 5,
 Zs 42 (.call 100 [(.tmp 41)]),
 Zo 4 42])
 .ret)))))⟩
theorem h87 : strF Tryz.prog [] Tryz.f87 = some c87 := by kernel_rfl
/-- chirograph/chirographref01.wide -/
def c88 : Fun := ⟨29, [.inl 4],
 (.seq (.ops [Zs 4 (.mv (.const (.slice none 0 0)))])
 (.seq (.ops [Zo 7 1,
 Zs 8 (.mks 60 1 8 #[(.int .u64 0)] (.tmp 7) (.tmp 7)),
 Zo 5 8])
 (.seq (.seq (.ops [Zs 6 (.mv (Zi 0))])
 (.block 0
 (.loop
 (.seq (.seq (.ops [Zo 9 6,
 Zo 10 1,
 Zs 11 (.bin .lss (.tmp 9) (.tmp 10)),
 Zo 12 11,
 ⟨some 13, some (12, true), .mv (.tmp 6)⟩,
 ⟨some 14, some (12, true), .mv (.tmp 0)⟩,
 ⟨some 15, some (12, true), .len (.tmp 14)⟩,
 ⟨some 16, some (12, true), .bin .lss (.tmp 13) (.tmp 15)⟩,
 Zs 17 (.pick (.tmp 12) (.tmp 16) (.const (.bool false)))])
 (.cond (.tmp 17)
 .skip
 (.exit 0)))
 (.seq (.block 1
 (.ops [Zo 20 5,
 Zo 21 6,
 Zo 22 0,
 Zo 23 6,
 Zs 24 (.ia 1 (.tmp 22) (.tmp 23)),
 Zs 25 (.ld (.int .u32) (.tmp 24)),
 Zs 26 (.cv .u64 (.tmp 25)),
 Zs 27 (.ia 1 (.tmp 20) (.tmp 21)),
 ⟨none, none, .st 1 (.tmp 27) (.tmp 26)⟩]))
 (.ops [Zo 18 6,
 Zs 19 (.bin .add (.tmp 18) (Zi 1)),
 Zo 6 19]))))))
 (.seq (.ops [Zo 28 5,
 Zo 4 28])
 .ret))))⟩
theorem h88 : strF Tryz.prog [] Tryz.f88 = some c88 := by kernel_rfl
/-- chirograph/chirographref01.divmod -/
def c89 : Fun := ⟨101, [.inl 4, .inl 5],
 (.seq (.ops [Zs 4 (.mv (.const (.slice none 0 0))),
 Zs 5 (.mv (.const (.slice none 0 0)))])
 (.seq (.ops [Zo 14 0,
 Zs 15 (.len (.tmp 14)),
 Zs 16 (.mks 60 1 8 #[(.int .u64 0)] (.tmp 15) (.tmp 15)),
 Zo 6 16])
 (.seq (.ops [Zo 17 1,
 Zs 18 (.len (.tmp 17)),
 Zo 7 18])
 (.seq (.draw 12 [Zo 19 1,
 Zo 20 7,
 Zs 21 (.bin .sub (.tmp 20) (Zi 1)),
 Zs 22 (.ia 1 (.tmp 19) (.tmp 21)),
 Zs 23 (.ld (.int .u64) (.tmp 22)),
 Zs 24 (.bin .mul (.tmp 23) (.const (.int .u64 65536))),
 Zo 25 1,
 Zo 26 7,
 Zs 27 (.bin .sub (.tmp 26) (Zi 2)),
 Zs 28 (.call 92 [(.tmp 25), (.tmp 27)]),
 Zs 29 (.bin .add (.tmp 24) (.tmp 28)),
 Zo 8 29])
 (.seq (.ops [Zs 9 (.mv (.const (.slice none 0 0)))])
 (.seq (.seq (.ops [Zo 30 0,
 Zs 31 (.len (.tmp 30)),
 Zs 32 (.bin .sub (.tmp 31) (Zi 1)),
 Zo 10 32])
 (.block 0
 (.loop
 (.seq (.seq (.ops [Zo 33 10,
 Zs 34 (.bin .geq (.tmp 33) (Zi 0))])
 (.cond (.tmp 34)
 .skip
 (.exit 0)))
 (.join (.block 1
 (.seq (.ops [Zo 37 0,
 Zo 38 10,
 Zs 39 (.ia 1 (.tmp 37) (.tmp 38)),
 Zs 40 (.ld (.int .u64) (.tmp 39)),
 Zs 41 (.bsl 60 1 1 #[(.int .u64 0)] [(0, (.tmp 40))]),
 Zo 42 9,
 Zs 43 (.app 60 1 8 #[(.int .u64 0)] (.tmp 41) (.tmp 42)),
 Zs 44 (.call 100 [(.tmp 43)]),
 Zo 9 44])
 (.seq (.seq (.ops [Zo 45 9,
 Zo 46 1,
 Zs 47 (.call 85 [(.tmp 45), (.tmp 46)]),
 Zs 48 (.bin .lss (.tmp 47) (Zi 0))])
 (.cond (.tmp 48)
 (.exit 1)
 .skip))
 (.seq (.ops [Zs 11 (.mv (.const (.int .u64 0)))])
 (.join (.seq (.ops [Zo 49 7,
 Zs 50 (.bin .geq (.tmp 49) (Zi 2))])
 (.cond (.tmp 50)
 (.ops [Zo 51 9,
 Zo 52 7,
 Zs 53 (.call 92 [(.tmp 51), (.tmp 52)]),
 Zs 54 (.bin .mul (.tmp 53) (.const (.int .u64 65536))),
 Zo 55 9,
 Zo 56 7,
 Zs 57 (.bin .sub (.tmp 56) (Zi 1)),
 Zs 58 (.call 92 [(.tmp 55), (.tmp 57)]),
 Zs 59 (.bin .add (.tmp 54) (.tmp 58)),
 Zs 60 (.bin .mul (.tmp 59) (.const (.int .u64 65536))),
 Zo 61 9,
 Zo 62 7,
 Zs 63 (.bin .sub (.tmp 62) (Zi 2)),
 Zs 64 (.call 92 [(.tmp 61), (.tmp 63)]),
 Zs 65 (.bin .add (.tmp 60) (.tmp 64)),
 Zo 11 65])
 (.ops [Zo 66 9,
 Zs 67 (.call 92 [(.tmp 66), (Zi 1)]),
 Zs 68 (.bin .mul (.tmp 67) (.const (.int .u64 65536))),
 Zo 69 9,
 Zs 70 (.call 92 [(.tmp 69), (Zi 0)]),
 Zs 71 (.bin .add (.tmp 68) (.tmp 70)),
 Zs 72 (.bin .mul (.tmp 71) (.const (.int .u64 65536))),
 Zo 11 72])))
 (.seq (.ops [Zo 73 11,
 Zo 74 8,
 Zs 75 (.bin .quo (.tmp 73) (.tmp 74)),
 Zo 12 75])
 (.join (.seq (.ops [Zo 76 12,
 Zs 77 (.bin .gtr (.tmp 76) (.const (.int .u64 65535)))])
 (.cond (.tmp 77)
 (.ops [Zs 12 (.mv (.const (.int .u64 65535)))])
 .skip))
 (.seq (.ops [Zo 78 1,
 Zo 79 12,
 Zs 80 (.bsl 60 1 1 #[(.int .u64 0)] [(0, (.tmp 79))]),
 Zs 81 (.call 90 [(.tmp 78), (.tmp 80)]),
 Zo 13 81])
 (.seq (.block 2
 (.loop
 (.seq (.seq (.ops [Zo 82 13,
 Zo 83 9,
 Zs 84 (.call 85 [(.tmp 82), (.tmp 83)]),
 Zs 85 (.bin .gtr (.tmp 84) (Zi 0))])
 (.cond (.tmp 85)
 .skip
 (.exit 2)))
 (.block 3
 (.seq (.ops [Zo 86 12,
 Zs 87 (.bin .sub (.tmp 86) (.const (.int .u64 1))),
 Zo 12 87])
 (.ops [Zo 88 13,
 Zo 89 1,
 Zs 90 (.call 111 [(.tmp 88), (.tmp 89)]),
 Zo 13 90]))))))
 (.seq (.ops [Zo 91 9,
 Zo 92 13,
 Zs 93 (.call 111 [(.tmp 91), (.tmp 92)]),
 Zo 9 93])
 (.ops [Zo 94 6,
 Zo 95 10,
 Zo 96 12,
 Zs 97 (.ia 1 (.tmp 94) (.tmp 95)),
 ⟨none, none, .st 1 (.tmp 97) (.tmp 96)⟩])))))))))))
 (.ops [Zo 35 10,
 Zs 36 (.bin .sub (.tmp 35) (Zi 1)),
 Zo 10 36]))))))
 (.seq (.ops [Zo 98 6,
 Zs 99 (.call 100 [(.tmp 98)]),
 Zo 100 9,
 Zo 4 99,
 Zo 5 100])
 .ret)))))))⟩
theorem h89 : strF Tryz.prog [] Tryz.f89 = some c89 := by kernel_rfl
/-- chirograph/chirographref01.mul -/
def c90 : Fun := ⟨64, [.inl 4],
 (.seq (.ops [Zs 4 (.mv (.const (.slice none 0 0)))])
 (.seq (.ops [Zo 10 0,
 Zs 11 (.len (.tmp 10)),
 Zo 12 1,
 Zs 13 (.len (.tmp 12)),
 Zs 14 (.bin .add (.tmp 11) (.tmp 13)),
 Zs 15 (.mks 60 1 8 #[(.int .u64 0)] (.tmp 14) (.tmp 14)),
 Zo 5 15])
 (.seq (.seq (.ops [Zs 6 (.mv (Zi 0))])
 (.block 0
 (.loop
 (.seq (.seq (.ops [Zo 16 6,
 Zo 17 0,
 Zs 18 (.len (.tmp 17)),
 Zs 19 (.bin .lss (.tmp 16) (.tmp 18))])
 (.cond (.tmp 19)
 .skip
 (.exit 0)))
 (.seq (.block 1
 (.seq (.ops [Zs 7 (.mv (.const (.int .u64 0)))])
 (.seq (.seq (.ops [Zs 8 (.mv (Zi 0))])
 (.block 2
 (.loop
 (.seq (.seq (.ops [Zo 22 8,
 Zo 23 1,
 Zs 24 (.len (.tmp 23)),
 Zs 25 (.bin .lss (.tmp 22) (.tmp 24))])
 (.cond (.tmp 25)
 .skip
 (.exit 2)))
 (.seq (.block 3
 (.seq (.draw 19 [Zo 28 5,
 Zo 29 6,
 Zo 30 8,
 Zs 31 (.bin .add (.tmp 29) (.tmp 30)),
 Zs 32 (.ia 1 (.tmp 28) (.tmp 31)),
 Zs 33 (.ld (.int .u64) (.tmp 32)),
 Zo 34 0,
 Zo 35 6,
 Zs 36 (.ia 1 (.tmp 34) (.tmp 35)),
 Zs 37 (.ld (.int .u64) (.tmp 36)),
 Zo 38 1,
 Zo 39 8,
 Zs 40 (.ia 1 (.tmp 38) (.tmp 39)),
 Zs 41 (.ld (.int .u64) (.tmp 40)),
 Zs 42 (.bin .mul (.tmp 37) (.tmp 41)),
 Zs 43 (.bin .add (.tmp 33) (.tmp 42)),
 Zo 44 7,
 Zs 45 (.bin .add (.tmp 43) (.tmp 44)),
 Zo 9 45])
 (.seq (.ops [Zo 46 5,
 Zo 47 6,
 Zo 48 8,
 Zs 49 (.bin .add (.tmp 47) (.tmp 48)),
 Zo 50 9,
 Zs 51 (.bin .rem (.tmp 50) (.const (.int .u64 65536))),
 Zs 52 (.ia 1 (.tmp 46) (.tmp 49)),
 ⟨none, none, .st 1 (.tmp 52) (.tmp 51)⟩])
 (.ops [Zo 53 9,
 Zs 54 (.bin .quo (.tmp 53) (.const (.int .u64 65536))),
 Zo 7 54]))))
 (.ops [Zo 26 8,
 Zs 27 (.bin .add (.tmp 26) (Zi 1)),
 Zo 8 27]))))))
 (.ops [Zo 55 5,
 Zo 56 6,
 Zo 57 1,
 Zs 58 (.len (.tmp 57)),
 Zs 59 (.bin .add (.tmp 56) (.tmp 58)),
 Zo 60 7,
 Zs 61 (.ia 1 (.tmp 55) (.tmp 59)),
 ⟨none, none, .st 1 (.tmp 61) (.tmp 60)⟩]))))
 (.ops [Zo 20 6,
 Zs 21 (.bin .add (.tmp 20) (Zi 1)),
 Zo 6 21]))))))
 (.seq (.ops [Zo 62 5,
 Zs 63 (.call 100 [(.tmp 62)]),
 Zo 4 63])
 .ret))))⟩
theorem h90 : strF Tryz.prog [] Tryz.f90 = some c90 := by kernel_rfl
/-- chirograph/chirographref01.product -/
def c91 : Fun := ⟨123, [.inl 6],
 (.seq (.ops [Zs 6 (.mv (.const (.slice none 0 0)))])
 (.seq (.ops [Zo 16 2,
 Zs 17 (.len (.tmp 16)),
 Zo 7 17])
 (.seq (.ops [Zo 18 7,
 Zs 19 (.bin .mul (Zi 2) (.tmp 18)),
 Zs 20 (.mks 60 1 8 #[(.int .u64 0)] (.tmp 19) (.tmp 19)),
 Zo 8 20])
 (.seq (.seq (.ops [Zs 9 (.mv (Zi 0))])
 (.block 0
 (.loop
 (.seq (.seq (.ops [Zo 21 9,
 Zo 22 7,
 Zs 23 (.bin .lss (.tmp 21) (.tmp 22))])
 (.cond (.tmp 23)
 .skip
 (.exit 0)))
 (.seq (.block 1
 (.seq (.ops [Zs 10 (.mv (.const (.int .u64 0)))])
 (.seq (.seq (.ops [Zs 11 (.mv (Zi 0))])
 (.block 2
 (.loop
 (.seq (.seq (.ops [Zo 26 11,
 Zo 27 7,
 Zs 28 (.bin .lss (.tmp 26) (.tmp 27))])
 (.cond (.tmp 28)
 .skip
 (.exit 2)))
 (.seq (.block 3
 (.seq (.draw 19 [Zo 31 0,
 Zo 32 9,
 Zs 33 (.ia 1 (.tmp 31) (.tmp 32)),
 Zs 34 (.ld (.int .u64) (.tmp 33)),
 Zo 35 1,
 Zo 36 11,
 Zs 37 (.ia 1 (.tmp 35) (.tmp 36)),
 Zs 38 (.ld (.int .u64) (.tmp 37)),
 Zs 39 (.bin .mul (.tmp 34) (.tmp 38)),
 Zo 40 8,
 Zo 41 9,
 Zo 42 11,
 Zs 43 (.bin .add (.tmp 41) (.tmp 42)),
 Zs 44 (.ia 1 (.tmp 40) (.tmp 43)),
 Zs 45 (.ld (.int .u64) (.tmp 44)),
 Zs 46 (.bin .add (.tmp 39) (.tmp 45)),
 Zo 47 10,
 Zs 48 (.bin .add (.tmp 46) (.tmp 47)),
 Zo 12 48])
 (.seq (.ops [Zo 49 8,
 Zo 50 9,
 Zo 51 11,
 Zs 52 (.bin .add (.tmp 50) (.tmp 51)),
 Zo 53 12,
 Zs 54 (.bin .and (.tmp 53) (.const (.int .u64 4294967295))),
 Zs 55 (.ia 1 (.tmp 49) (.tmp 52)),
 ⟨none, none, .st 1 (.tmp 55) (.tmp 54)⟩])
 (.ops [Zo 56 12,
 Zs 57 (.bin .shr (.tmp 56) (.const (.int .u64 32))),
 Zo 10 57]))))
 (.ops [Zo 29 11,
 Zs 30 (.bin .add (.tmp 29) (Zi 1)),
 Zo 11 30]))))))
 (.ops [Zo 58 8,
 Zo 59 9,
 Zo 60 7,
 Zs 61 (.bin .add (.tmp 59) (.tmp 60)),
 Zo 62 10,
 Zs 63 (.ia 1 (.tmp 58) (.tmp 61)),
 ⟨none, none, .st 1 (.tmp 63) (.tmp 62)⟩]))))
 (.ops [Zo 24 9,
 Zs 25 (.bin .add (.tmp 24) (Zi 1)),
 Zo 9 25]))))))
 (.seq (.ops [Zo 64 7,
 Zs 65 (.bin .add (.tmp 64) (Zi 1)),
 Zs 66 (.mks 60 1 8 #[(.int .u64 0)] (.tmp 65) (.tmp 65)),
 Zo 13 66])
 (.seq (.seq (.ops [Zo 67 7,
 Zs 68 (.bin .mul (Zi 2) (.tmp 67)),
 Zs 69 (.bin .sub (.tmp 68) (Zi 1)),
 Zo 14 69])
 (.block 4
 (.loop
 (.seq (.seq (.ops [Zo 70 14,
 Zs 71 (.bin .geq (.tmp 70) (Zi 0))])
 (.cond (.tmp 71)
 .skip
 (.exit 4)))
 (.seq (.block 5
 (.seq (.seq (.ops [Zo 74 7,
 Zo 15 74])
 (.block 6
 (.loop
 (.seq (.seq (.ops [Zo 75 15,
 Zs 76 (.bin .gtr (.tmp 75) (Zi 0))])
 (.cond (.tmp 76)
 .skip
 (.exit 6)))
 (.seq (.block 7
 (.ops [Zo 79 13,
 Zo 80 15,
 Zo 81 13,
 Zo 82 15,
 Zs 83 (.bin .sub (.tmp 82) (Zi 1)),
 Zs 84 (.ia 1 (.tmp 81) (.tmp 83)),
 Zs 85 (.ld (.int .u64) (.tmp 84)),
 Zs 86 (.ia 1 (.tmp 79) (.tmp 80)),
 ⟨none, none, .st 1 (.tmp 86) (.tmp 85)⟩]))
 (.ops [Zo 77 15,
 Zs 78 (.bin .sub (.tmp 77) (Zi 1)),
 Zo 15 78]))))))
 (.seq (.ops [Zo 87 13,
 Zo 88 8,
 Zo 89 14,
 Zs 90 (.ia 1 (.tmp 88) (.tmp 89)),
 Zs 91 (.ld (.int .u64) (.tmp 90)),
 Zs 92 (.ia 1 (.tmp 87) (Zi 0)),
 ⟨none, none, .st 1 (.tmp 92) (.tmp 91)⟩])
 (.seq (.drawS [(0, 0), (0, 1), (0, 2), (0, 3), (0, 4), (0, 7), (0, 8), (0, 9), (0, 10), (0, 13), (0, 14), (0, 15), (0, 16), (1, 5), (0, 6), (1, 11), (0, 12), (1, 17), (0, 18), (0, 19), (2, 20)]
 [Zo 93 13,
 Zo 94 2,
 Zo 95 13,
 Zo 96 7,
 Zs 97 (.ia 1 (.tmp 95) (.tmp 96)),
 Zs 98 (.ld (.int .u64) (.tmp 97)),
 Zs 99 (.bin .shl (.tmp 98) (.const (.int .u64 32))),
 Zo 100 13,
 Zo 101 7,
 Zs 102 (.bin .sub (.tmp 101) (Zi 1)),
 Zs 103 (.ia 1 (.tmp 100) (.tmp 102)),
 Zs 104 (.ld (.int .u64) (.tmp 103)),
 Zs 105 (.bin .or (.tmp 99) (.tmp 104)),
 Zo 106 2,
 Zo 107 7,
 Zs 108 (.bin .sub (.tmp 107) (Zi 1)),
 Zs 109 (.ia 1 (.tmp 106) (.tmp 108)),
 Zs 110 (.ld (.int .u64) (.tmp 109)),
 Zs 111 (.bin .add (.tmp 110) (.const (.int .u64 1))),
 Zs 112 (.bin .quo (.tmp 105) (.tmp 111)),
 Zs 113 (.call 112 [(.tmp 93), (.tmp 94), (.tmp 112)])])
 (.block 8
 (.loop
 (.seq (.seq (.ops [Zo 114 13,
 Zo 115 2,
 Zs 116 (.call 113 [(.tmp 114), (.tmp 115)])])
 (.cond (.tmp 116)
 .skip
 (.exit 8)))
 (.block 9
 (.ops [Zo 117 13,
 Zo 118 2,
 Zs 119 (.call 112 [(.tmp 117), (.tmp 118), (.const (.int .u64 1))])])))))))))
 (.ops [Zo 72 14,
 Zs 73 (.bin .sub (.tmp 72) (Zi 1)),
 Zo 14 73]))))))
 (.seq (.ops [Zo 120 13,
 Zo 121 7,
 Zs 122 (.slc 1 (.tmp 120) none (some (.tmp 121)) none),
 Zo 6 122])
 .ret)))))))⟩
theorem h91 : strF Tryz.prog [(23, .inl [(0, 0), (0, 1), (0, 2), (0, 3), (0, 4), (0, 7), (0, 8), (0, 9), (0, 10), (0, 13), (0, 14), (0, 15), (0, 16), (1, 5), (0, 6), (1, 11), (0, 12), (1, 17), (0, 18), (0, 19), (2, 20)])] Tryz.f91 = some c91 := by kernel_rfl
/-- chirograph/chirographref01.digit -/
def c92 : Fun := ⟨17, [.inl 4],
 (.seq (.ops [Zs 4 (.mv (.const (.int .u64 0)))])
 (.seq (.seq (.ops [Zo 5 1,
 Zs 6 (.bin .geq (.tmp 5) (Zi 0)),
 Zo 7 6,
 ⟨some 8, some (7, true), .mv (.tmp 1)⟩,
 ⟨some 9, some (7, true), .mv (.tmp 0)⟩,
 ⟨some 10, some (7, true), .len (.tmp 9)⟩,
 ⟨some 11, some (7, true), .bin .lss (.tmp 8) (.tmp 10)⟩,
 Zs 12 (.pick (.tmp 7) (.tmp 11) (.const (.bool false)))])
 (.cond (.tmp 12)
 (.seq (.ops [Zo 13 0,
 Zo 14 1,
 Zs 15 (.ia 1 (.tmp 13) (.tmp 14)),
 Zs 16 (.ld (.int .u64) (.tmp 15)),
 Zo 4 16])
 .ret)
 .skip))
 (.seq (.ops [Zs 4 (.mv (.const (.int .u64 0)))])
 .ret)))⟩
theorem h92 : strF Tryz.prog [] Tryz.f92 = some c92 := by kernel_rfl
/-- chirograph/chirographref04.Put -/
def c93 : Fun := ⟨64, [.inl 8, .inl 9],
 (.seq (.ops [Zs 8 (.mv (.const (.slice none 0 0))),
 Zs 9 (.mv (Zi 0))])
 (.seq (.seq (.ops [Zo 12 0,
 Zs 13 (.bin .lss (.tmp 12) (Zi 0)),
 Zo 14 13,
 ⟨some 15, some (14, false), .mv (.tmp 0)⟩,
 ⟨some 16, some (14, false), .bin .gtr (.tmp 15) (Zi 3)⟩,
 Zs 17 (.pick (.tmp 14) (.const (.bool true)) (.tmp 16)),
 Zo 18 17,
 ⟨some 19, some (18, false), .mv (.tmp 1)⟩,
 ⟨some 20, some (18, false), .bin .lss (.tmp 19) (Zi 0)⟩,
 Zs 21 (.pick (.tmp 18) (.const (.bool true)) (.tmp 20)),
 Zo 22 21,
 ⟨some 23, some (22, false), .mv (.tmp 1)⟩,
 ⟨some 24, some (22, false), .bin .gtr (.tmp 23) (Zi 268435455)⟩,
 Zs 25 (.pick (.tmp 22) (.const (.bool true)) (.tmp 24)),
 Zo 26 25,
 ⟨some 27, some (26, false), .mv (.tmp 0)⟩,
 ⟨some 28, some (26, false), .bin .eql (.tmp 27) (Zi 0)⟩,
 ⟨some 29, some (26, false), .mv (.tmp 28)⟩,
 ⟨some 30, some (29, true), .mv (.tmp 1)⟩,
 ⟨some 31, some (29, true), .bin .eql (.tmp 30) (Zi 0)⟩,
 ⟨some 32, some (26, false), .pick (.tmp 29) (.tmp 31) (.const (.bool false))⟩,
 Zs 33 (.pick (.tmp 26) (.const (.bool true)) (.tmp 32))])
 (.cond (.tmp 33)
 (.seq (.ops [Zs 8 (.mv (.const (.slice none 0 0))),
 Zs 9 (.mv (Zi 1))])
 .ret)
 .skip))
 (.seq (.ops [Zs 10 (.mv (.const (.slice none 0 0)))])
 (.seq (.seq (.ops [Zs 11 (.mv (Zi 0))])
 (.block 0
 (.loop
 (.seq (.seq (.ops [Zo 34 11,
 Zo 35 3,
 Zs 36 (.len (.tmp 35)),
 Zs 37 (.bin .lss (.tmp 34) (.tmp 36))])
 (.cond (.tmp 37)
 .skip
 (.exit 0)))
 (.seq (.block 1
 (.seq (.seq (.ops [Zo 40 3,
 Zo 41 11,
 Zs 42 (.ia 1 (.tmp 40) (.tmp 41)),
 Zs 43 (.ld .slice (.tmp 42)),
 Zs 44 (.len (.tmp 43)),
 Zo 45 10,
 Zs 46 (.len (.tmp 45)),
 Zs 47 (.bin .sub (Zi 16777216) (.tmp 46)),
 Zs 48 (.bin .gtr (.tmp 44) (.tmp 47))])
 (.cond (.tmp 48)
 (.seq (.ops [Zs 8 (.mv (.const (.slice none 0 0))),
 Zs 9 (.mv (Zi 3))])
 .ret)
 .skip))
 (.ops [Zo 49 10,
 Zo 50 3,
 Zo 51 11,
 Zs 52 (.ia 1 (.tmp 50) (.tmp 51)),
 Zs 53 (.ld .slice (.tmp 52)),
 Zs 54 (.app 5 1 1 #[(.int .u8 0)] (.tmp 49) (.tmp 53)),
 Zo 10 54])))
 (.ops [Zo 38 11,
 Zs 39 (.bin .add (.tmp 38) (Zi 1)),
 Zo 11 39]))))))
 (.seq (.ops [Zo 55 0,
 Zo 56 1,
 Zo 57 2,
 Zs 58 (.bld #[(.int .i64 0), (.int .i64 0), (.int .i64 0), (.bool false), (.slice none 0 0)] [(0, 1), (1, 1), (2, 1), (3, 1), (4, 1)] [(1, (.tmp 55)), (2, (.tmp 56)), (3, (.tmp 57))]),
 Zo 59 10,
 Zs 60 (.len (.tmp 59)),
 Zs 61 (.call 114 [(.tmp 58), (.tmp 60)]),
 Zo 62 10,
 Zs 63 (.app 5 1 1 #[(.int .u8 0)] (.tmp 61) (.tmp 62)),
 Zo 8 63,
 Zs 9 (.mv (Zi 0))])
 .ret)))))⟩
theorem h93 : strF Tryz.prog [] Tryz.f93 = some c93 := by kernel_rfl
/-- chirograph/chirographref04.PutOid -/
def c94 : Fun := ⟨72, [.inl 2, .inl 3],
 (.seq (.ops [Zs 2 (.mv (.const (.slice none 0 0))),
 Zs 3 (.mv (Zi 0))])
 (.seq (.ops [Zo 12 0,
 Zs 13 (.call 115 [(.tmp 12)]),
 Zo 11 13,
 Zs 14 (.ext (.tmp 11) 0),
 Zs 15 (.ext (.tmp 11) 1),
 Zo 4 14,
 Zo 5 15])
 (.seq (.seq (.ops [Zo 16 5,
 Zs 17 (.un .not (.tmp 16))])
 (.cond (.tmp 17)
 (.seq (.ops [Zs 2 (.mv (.const (.slice none 0 0))),
 Zs 3 (.mv (Zi 6))])
 .ret)
 .skip))
 (.seq (.seq (.ops [Zs 6 (.mv (Zi 0))])
 (.block 0
 (.loop
 (.seq (.seq (.ops [Zo 18 6,
 Zo 19 4,
 Zs 20 (.len (.tmp 19)),
 Zs 21 (.bin .lss (.tmp 18) (.tmp 20))])
 (.cond (.tmp 21)
 .skip
 (.exit 0)))
 (.seq (.block 1
 (.seq (.ops [Zo 24 4,
 Zo 25 6,
 Zs 26 (.ia 1 (.tmp 24) (.tmp 25)),
 Zs 27 (.ld (.int .i64) (.tmp 26)),
 Zs 28 (.bin .gtr (.tmp 27) (Zi 2147483647))])
 (.cond (.tmp 28)
 (.seq (.ops [Zs 2 (.mv (.const (.slice none 0 0))),
 Zs 3 (.mv (Zi 3))])
 .ret)
 .skip)))
 (.ops [Zo 22 6,
 Zs 23 (.bin .add (.tmp 22) (Zi 1)),
 Zo 6 23]))))))
 (.seq (.draw 10 [Zo 29 4,
 Zo 30 4,
 Zs 31 (.ia 1 (.tmp 30) (Zi 1)),
 Zs 32 (.ld (.int .i64) (.tmp 31)),
 Zo 33 4,
 Zs 34 (.ia 1 (.tmp 33) (Zi 0)),
 Zs 35 (.ld (.int .i64) (.tmp 34)),
 Zs 36 (.bin .mul (Zi 40) (.tmp 35)),
 Zs 37 (.bin .add (.tmp 32) (.tmp 36)),
 Zs 38 (.ia 1 (.tmp 29) (Zi 1)),
 ⟨none, none, .st 1 (.tmp 38) (.tmp 37)⟩])
 (.seq (.ops [Zs 7 (.mv (.const (.slice none 0 0)))])
 (.seq (.seq (.ops [Zs 8 (.mv (Zi 1))])
 (.block 2
 (.loop
 (.seq (.seq (.ops [Zo 39 8,
 Zo 40 4,
 Zs 41 (.len (.tmp 40)),
 Zs 42 (.bin .lss (.tmp 39) (.tmp 41))])
 (.cond (.tmp 42)
 .skip
 (.exit 2)))
 (.seq (.block 3
 (.seq (.ops [Zo 45 4,
 Zo 46 8,
 Zs 47 (.ia 1 (.tmp 45) (.tmp 46)),
 Zs 48 (.ld (.int .i64) (.tmp 47)),
 Zs 49 (.bin .rem (.tmp 48) (Zi 128)),
 Zs 50 (.cv .u8 (.tmp 49)),
 Zs 51 (.bsl 5 1 1 #[(.int .u8 0)] [(0, (.tmp 50))]),
 Zo 9 51])
 (.seq (.seq (.ops [Zo 52 4,
 Zo 53 8,
 Zs 54 (.ia 1 (.tmp 52) (.tmp 53)),
 Zs 55 (.ld (.int .i64) (.tmp 54)),
 Zs 56 (.bin .quo (.tmp 55) (Zi 128)),
 Zo 10 56])
 (.block 4
 (.loop
 (.seq (.seq (.ops [Zo 57 10,
 Zs 58 (.bin .gtr (.tmp 57) (Zi 0))])
 (.cond (.tmp 58)
 .skip
 (.exit 4)))
 (.seq (.block 5
 (.ops [Zo 61 10,
 Zs 62 (.bin .rem (.tmp 61) (Zi 128)),
 Zs 63 (.bin .add (.tmp 62) (Zi 128)),
 Zs 64 (.cv .u8 (.tmp 63)),
 Zs 65 (.bsl 5 1 1 #[(.int .u8 0)] [(0, (.tmp 64))]),
 Zo 66 9,
 Zs 67 (.app 5 1 1 #[(.int .u8 0)] (.tmp 65) (.tmp 66)),
 Zo 9 67]))
 (.ops [Zo 59 10,
 Zs 60 (.bin .quo (.tmp 59) (Zi 128)),
 Zo 10 60]))))))
 (.ops [Zo 68 7,
 Zo 69 9,
 Zs 70 (.app 5 1 1 #[(.int .u8 0)] (.tmp 68) (.tmp 69)),
 Zo 7 70]))))
 (.ops [Zo 43 8,
 Zs 44 (.bin .add (.tmp 43) (Zi 1)),
 Zo 8 44]))))))
 (.seq (.ops [Zo 71 7,
 Zo 2 71,
 Zs 3 (.mv (Zi 0))])
 .ret))))))))⟩
theorem h94 : strF Tryz.prog [] Tryz.f94 = some c94 := by kernel_rfl
/-- chirograph/digest.Block -/
def c98 : Fun := ⟨10, [.inl 2],
 (.seq (.ops [Zs 2 (.mv (Zi 0))])
 (.seq (.seq (.ops [Zo 3 0])
 (.block 0
 (.join (.seq (.ops [Zs 5 (.bin .eql (.tmp 3) (Zi 1)),
 Zo 4 5])
 (.cond (.tmp 4)
 .skip
 (.ops [Zs 6 (.bin .eql (.tmp 3) (Zi 2)),
 Zo 4 6])))
 (.cond (.tmp 4)
 (.seq (.ops [Zs 2 (.mv (Zi 64))])
 .ret)
 (.join (.seq (.ops [Zs 8 (.bin .eql (.tmp 3) (Zi 3)),
 Zo 7 8])
 (.cond (.tmp 7)
 .skip
 (.ops [Zs 9 (.bin .eql (.tmp 3) (Zi 4)),
 Zo 7 9])))
 (.cond (.tmp 7)
 (.seq (.ops [Zs 2 (.mv (Zi 128))])
 .ret)
 .skip))))))
 (.seq (.ops [Zs 2 (.mv (Zi 0))])
 .ret)))⟩
theorem h98 : strF Tryz.prog [] Tryz.f98 = some c98 := by kernel_rfl
/-- (*chirograph/digest.Hash).block -/
def c99 : Fun := ⟨39, [],
 (.seq (.ops [Zo 4 0,
 Zs 5 (.nilc (.tmp 4)),
 Zs 6 (.fa 0 (.tmp 5)),
 Zs 7 (.ld (.int .i64) (.tmp 6))])
 (.block 0
 (.seq (.ops [Zs 18 (.bin .eql (.tmp 7) (Zi 1)),
 Zo 17 18])
 (.cond (.tmp 17)
 (.ops [Zo 19 0,
 Zo 20 0,
 Zs 21 (.nilc (.tmp 20)),
 Zs 22 (.fa 1 (.tmp 21)),
 Zs 23 (.ld (.agg 8) (.tmp 22)),
 Zo 24 1,
 Zs 25 (.call 117 [(.tmp 23), (.tmp 24)]),
 Zs 26 (.nilc (.tmp 19)),
 Zs 27 (.fa 1 (.tmp 26)),
 ⟨none, none, .st 8 (.tmp 27) (.tmp 25)⟩])
 (.seq (.ops [Zs 29 (.bin .eql (.tmp 7) (Zi 2)),
 Zo 28 29])
 (.cond (.tmp 28)
 (.ops [Zo 30 0,
 Zo 31 0,
 Zs 32 (.nilc (.tmp 31)),
 Zs 33 (.fa 1 (.tmp 32)),
 Zs 34 (.ld (.agg 8) (.tmp 33)),
 Zo 35 1,
 Zs 36 (.call 118 [(.tmp 34), (.tmp 35)]),
 Zs 37 (.nilc (.tmp 30)),
 Zs 38 (.fa 1 (.tmp 37)),
 ⟨none, none, .st 8 (.tmp 38) (.tmp 36)⟩])
 (.ops [Zo 8 0,
 Zo 9 0,
 Zs 10 (.nilc (.tmp 9)),
 Zs 11 (.fa 9 (.tmp 10)),
 Zs 12 (.ld (.agg 8) (.tmp 11)),
 Zo 13 1,
 Zs 14 (.call 119 [(.tmp 12), (.tmp 13)]),
 Zs 15 (.nilc (.tmp 8)),
 Zs 16 (.fa 9 (.tmp 15)),
 ⟨none, none, .st 8 (.tmp 16) (.tmp 14)⟩])))))))⟩
theorem h99 : strF Tryz.prog [] Tryz.f99 = some c99 := by kernel_rfl
/-- chirograph/chirographref01.plain -/
def c100 : Fun := ⟨21, [.inl 2],
 (.seq (.ops [Zs 2 (.mv (.const (.slice none 0 0)))])
 (.seq (.ops [Zo 4 0,
 Zs 5 (.len (.tmp 4)),
 Zo 3 5])
 (.seq (.block 0
 (.loop
 (.seq (.seq (.ops [Zo 6 3,
 Zs 7 (.bin .gtr (.tmp 6) (Zi 0)),
 Zo 8 7,
 ⟨some 9, some (8, true), .mv (.tmp 0)⟩,
 ⟨some 10, some (8, true), .mv (.tmp 3)⟩,
 ⟨some 11, some (8, true), .bin .sub (.tmp 10) (Zi 1)⟩,
 ⟨some 12, some (8, true), .ia 1 (.tmp 9) (.tmp 11)⟩,
 ⟨some 13, some (8, true), .ld (.int .u64) (.tmp 12)⟩,
 ⟨some 14, some (8, true), .bin .eql (.tmp 13) (.const (.int .u64 0))⟩,
 Zs 15 (.pick (.tmp 8) (.tmp 14) (.const (.bool false)))])
 (.cond (.tmp 15)
 .skip
 (.exit 0)))
 (.block 1
 (.ops [Zo 16 3,
 Zs 17 (.bin .sub (.tmp 16) (Zi 1)),
 Zo 3 17])))))
 (.seq (.ops [Zo 18 0,
 Zo 19 3,
 Zs 20 (.slc 1 (.tmp 18) none (some (.tmp 19)) none),
 Zo 2 20])
 .ret))))⟩
theorem h100 : strF Tryz.prog [] Tryz.f100 = some c100 := by kernel_rfl
/-- chirograph/der.arcs -/
def c101 : Fun := ⟨73, [.inl 2, .inl 3],
 (.seq (.ops [Zs 2 (.mv (.const (.slice none 0 0))),
 Zs 3 (.mv (.const (.bool false)))])
 (.seq (.ops [Zs 4 (.mv (.const (.slice none 0 0)))])
 (.seq (.ops [Zs 5 (.mv (.const (.int .u64 0))),
 Zs 6 (.mv (Zi 0))])
 (.seq (.seq (.ops [Zo 9 0,
 Zs 10 (.bin .add (.tmp 9) (.const (.string ⟨#[46]⟩))),
 Zs 11 (.rgs (.tmp 10))])
 (.block 0
 (.loop
 (.seq (.ops [Zs 12 (.nxs (.tmp 11)),
 Zs 13 (.ext (.tmp 12) 0)])
 (.seq (.cond (.tmp 13)
 .skip
 (.exit 0))
 (.block 1
 (.seq (.ops [Zs 14 (.ext (.tmp 12) 2),
 Zo 8 14])
 (.block 2
 (.seq (.ops [Zo 26 8,
 Zs 27 (.bin .eql (.tmp 26) (.const (.int .i32 46))),
 Zo 28 27,
 ⟨some 29, some (28, true), .mv (.tmp 6)⟩,
 ⟨some 30, some (28, true), .bin .gtr (.tmp 29) (Zi 0)⟩,
 Zs 31 (.pick (.tmp 28) (.tmp 30) (.const (.bool false))),
 Zo 25 31])
 (.cond (.tmp 25)
 (.seq (.ops [Zo 32 4,
 Zo 33 5,
 Zs 34 (.bsl 60 1 1 #[(.int .u64 0)] [(0, (.tmp 33))]),
 Zs 35 (.app 60 1 8 #[(.int .u64 0)] (.tmp 32) (.tmp 34)),
 Zo 4 35])
 (.ops [Zs 5 (.mv (.const (.int .u64 0))),
 Zs 6 (.mv (Zi 0))]))
 (.seq (.ops [Zo 37 8,
 Zs 38 (.bin .lss (.tmp 37) (.const (.int .i32 48))),
 Zo 39 38,
 ⟨some 40, some (39, false), .mv (.tmp 8)⟩,
 ⟨some 41, some (39, false), .bin .gtr (.tmp 40) (.const (.int .i32 57))⟩,
 Zs 42 (.pick (.tmp 39) (.const (.bool true)) (.tmp 41)),
 Zo 43 42,
 ⟨some 44, some (43, false), .mv (.tmp 6)⟩,
 ⟨some 45, some (43, false), .bin .eql (.tmp 44) (Zi 1)⟩,
 ⟨some 46, some (43, false), .mv (.tmp 45)⟩,
 ⟨some 47, some (46, true), .mv (.tmp 5)⟩,
 ⟨some 48, some (46, true), .bin .eql (.tmp 47) (.const (.int .u64 0))⟩,
 ⟨some 49, some (43, false), .pick (.tmp 46) (.tmp 48) (.const (.bool false))⟩,
 Zs 50 (.pick (.tmp 43) (.const (.bool true)) (.tmp 49)),
 Zo 36 50])
 (.cond (.tmp 36)
 (.seq (.ops [Zs 2 (.mv (.const (.slice none 0 0))),
 Zs 3 (.mv (.const (.bool false)))])
 .ret)
 (.seq (.ops [Zo 15 5,
 Zs 16 (.bin .mul (.const (.int .u64 10)) (.tmp 15)),
 Zo 17 8,
 Zs 18 (.bin .sub (.tmp 17) (.const (.int .i32 48))),
 Zs 19 (.cv .u64 (.tmp 18)),
 Zs 20 (.bin .add (.tmp 16) (.tmp 19)),
 Zs 21 (.min2 (.tmp 20) (.const (.int .u64 1099511627776))),
 Zo 5 21])
 (.ops [Zo 22 6,
 Zs 23 (.bin .add (.tmp 22) (Zi 1)),
 Zs 24 (.min2 (.tmp 23) (Zi 20)),
 Zo 6 24]))))))))))))))
 (.seq (.seq (.ops [Zo 51 4,
 Zs 52 (.len (.tmp 51)),
 Zs 53 (.bin .lss (.tmp 52) (Zi 2)),
 Zo 54 53,
 ⟨some 55, some (54, false), .mv (.tmp 4)⟩,
 ⟨some 56, some (54, false), .ia 1 (.tmp 55) (Zi 0)⟩,
 ⟨some 57, some (54, false), .ld (.int .u64) (.tmp 56)⟩,
 ⟨some 58, some (54, false), .bin .gtr (.tmp 57) (.const (.int .u64 2))⟩,
 Zs 59 (.pick (.tmp 54) (.const (.bool true)) (.tmp 58)),
 Zo 60 59,
 ⟨some 61, some (60, false), .mv (.tmp 4)⟩,
 ⟨some 62, some (60, false), .ia 1 (.tmp 61) (Zi 0)⟩,
 ⟨some 63, some (60, false), .ld (.int .u64) (.tmp 62)⟩,
 ⟨some 64, some (60, false), .bin .lss (.tmp 63) (.const (.int .u64 2))⟩,
 ⟨some 65, some (60, false), .mv (.tmp 64)⟩,
 ⟨some 66, some (65, true), .mv (.tmp 4)⟩,
 ⟨some 67, some (65, true), .ia 1 (.tmp 66) (Zi 1)⟩,
 ⟨some 68, some (65, true), .ld (.int .u64) (.tmp 67)⟩,
 ⟨some 69, some (65, true), .bin .geq (.tmp 68) (.const (.int .u64 40))⟩,
 ⟨some 70, some (60, false), .pick (.tmp 65) (.tmp 69) (.const (.bool false))⟩,
 Zs 71 (.pick (.tmp 60) (.const (.bool true)) (.tmp 70))])
 (.cond (.tmp 71)
 (.seq (.ops [Zs 2 (.mv (.const (.slice none 0 0))),
 Zs 3 (.mv (.const (.bool false)))])
 .ret)
 .skip))
 (.seq (.ops [Zo 72 4,
 Zo 2 72,
 Zs 3 (.mv (.const (.bool true)))])
 .ret))))))⟩
theorem h101 : strF Tryz.prog [] Tryz.f101 = some c101 := by kernel_rfl
/-- chirograph/der.seven -/
def c102 : Fun := ⟨21, [.inl 2],
 (.seq (.ops [Zs 2 (.mv (.const (.slice none 0 0)))])
 (.seq (.ops [Zo 4 0,
 Zs 5 (.bin .and (.tmp 4) (.const (.int .u64 127))),
 Zs 6 (.cv .u8 (.tmp 5)),
 Zs 7 (.bsl 5 1 1 #[(.int .u8 0)] [(0, (.tmp 6))]),
 Zo 3 7])
 (.seq (.seq (.ops [Zo 8 0,
 Zs 9 (.bin .shr (.tmp 8) (.const (.int .u64 7))),
 Zo 0 9])
 (.block 0
 (.loop
 (.seq (.seq (.ops [Zo 10 0,
 Zs 11 (.bin .gtr (.tmp 10) (.const (.int .u64 0)))])
 (.cond (.tmp 11)
 .skip
 (.exit 0)))
 (.seq (.block 1
 (.ops [Zo 14 0,
 Zs 15 (.cv .u8 (.tmp 14)),
 Zs 16 (.bin .or (.tmp 15) (.const (.int .u8 128))),
 Zs 17 (.bsl 5 1 1 #[(.int .u8 0)] [(0, (.tmp 16))]),
 Zo 18 3,
 Zs 19 (.app 5 1 1 #[(.int .u8 0)] (.tmp 17) (.tmp 18)),
 Zo 3 19]))
 (.ops [Zo 12 0,
 Zs 13 (.bin .shr (.tmp 12) (.const (.int .u64 7))),
 Zo 0 13]))))))
 (.seq (.ops [Zo 20 3,
 Zo 2 20])
 .ret))))⟩
theorem h102 : strF Tryz.prog [] Tryz.f102 = some c102 := by kernel_rfl
/-- math/bits.Mul64 -/
def c104 : Fun := ⟨51, [.inl 4, .inl 5],
 (.seq (.ops [Zs 4 (.mv (.const (.int .u64 0))),
 Zs 5 (.mv (.const (.int .u64 0)))])
 (.seq (.ops [Zo 14 0,
 Zs 15 (.bin .and (.tmp 14) (.const (.int .u64 4294967295))),
 Zo 6 15])
 (.seq (.ops [Zo 16 0,
 Zs 17 (.bin .shr (.tmp 16) (.const (.int .u64 32))),
 Zo 7 17])
 (.seq (.ops [Zo 18 1,
 Zs 19 (.bin .and (.tmp 18) (.const (.int .u64 4294967295))),
 Zo 8 19])
 (.seq (.ops [Zo 20 1,
 Zs 21 (.bin .shr (.tmp 20) (.const (.int .u64 32))),
 Zo 9 21])
 (.seq (.ops [Zo 22 6,
 Zo 23 8,
 Zs 24 (.bin .mul (.tmp 22) (.tmp 23)),
 Zo 10 24])
 (.seq (.ops [Zo 25 7,
 Zo 26 8,
 Zs 27 (.bin .mul (.tmp 25) (.tmp 26)),
 Zo 28 10,
 Zs 29 (.bin .shr (.tmp 28) (.const (.int .u64 32))),
 Zs 30 (.bin .add (.tmp 27) (.tmp 29)),
 Zo 11 30])
 (.seq (.ops [Zo 31 11,
 Zs 32 (.bin .and (.tmp 31) (.const (.int .u64 4294967295))),
 Zo 12 32])
 (.seq (.ops [Zo 33 11,
 Zs 34 (.bin .shr (.tmp 33) (.const (.int .u64 32))),
 Zo 13 34])
 (.seq (.ops [Zo 35 12,
 Zo 36 6,
 Zo 37 9,
 Zs 38 (.bin .mul (.tmp 36) (.tmp 37)),
 Zs 39 (.bin .add (.tmp 35) (.tmp 38)),
 Zo 12 39])
 (.seq (.ops [Zo 40 7,
 Zo 41 9,
 Zs 42 (.bin .mul (.tmp 40) (.tmp 41)),
 Zo 43 13,
 Zs 44 (.bin .add (.tmp 42) (.tmp 43)),
 Zo 45 12,
 Zs 46 (.bin .shr (.tmp 45) (.const (.int .u64 32))),
 Zs 47 (.bin .add (.tmp 44) (.tmp 46)),
 Zo 4 47])
 (.seq (.ops [Zo 48 0,
 Zo 49 1,
 Zs 50 (.bin .mul (.tmp 48) (.tmp 49)),
 Zo 5 50])
 .ret))))))))))))⟩
theorem h104 : strF Tryz.prog [] Tryz.f104 = some c104 := by kernel_rfl
/-- chirograph/nat.short -/
def c105 : Fun := ⟨36, [.inl 4, .inl 5],
 (.seq (.ops [Zs 4 (.mv (.const (.slice none 0 0))),
 Zs 5 (.mv (.const (.slice none 0 0)))])
 (.seq (.ops [Zo 8 0,
 Zs 9 (.len (.tmp 8)),
 Zs 10 (.mks 50 1 4 #[(.int .u32 0)] (.tmp 9) (.tmp 9)),
 Zo 4 10])
 (.seq (.ops [Zs 6 (.mv (.const (.int .u32 0)))])
 (.seq (.seq (.ops [Zo 11 0,
 Zs 12 (.len (.tmp 11)),
 Zs 13 (.bin .sub (.tmp 12) (Zi 1)),
 Zo 7 13])
 (.block 0
 (.loop
 (.seq (.seq (.ops [Zo 14 7,
 Zs 15 (.bin .geq (.tmp 14) (Zi 0))])
 (.cond (.tmp 15)
 .skip
 (.exit 0)))
 (.seq (.block 1
 (.ops [Zo 19 4,
 Zo 20 7,
 Zo 21 6,
 Zo 22 0,
 Zo 23 7,
 Zs 24 (.ia 1 (.tmp 22) (.tmp 23)),
 Zs 25 (.ld (.int .u32) (.tmp 24)),
 Zo 26 1,
 Zs 27 (.call 120 [(.tmp 21), (.tmp 25), (.tmp 26)]),
 Zo 18 27,
 Zs 28 (.ext (.tmp 18) 0),
 Zs 29 (.ext (.tmp 18) 1),
 Zs 30 (.ia 1 (.tmp 19) (.tmp 20)),
 ⟨none, none, .st 1 (.tmp 30) (.tmp 28)⟩,
 Zo 6 29]))
 (.ops [Zo 16 7,
 Zs 17 (.bin .sub (.tmp 16) (Zi 1)),
 Zo 7 17]))))))
 (.seq (.ops [Zo 31 4,
 Zs 32 (.call 64 [(.tmp 31)]),
 Zo 33 6,
 Zs 34 (.bsl 50 1 1 #[(.int .u32 0)] [(0, (.tmp 33))]),
 Zs 35 (.call 64 [(.tmp 34)]),
 Zo 4 32,
 Zo 5 35])
 .ret)))))⟩
theorem h105 : strF Tryz.prog [] Tryz.f105 = some c105 := by kernel_rfl
/-- math/bits.LeadingZeros32 -/
def c106 : Fun := ⟨6, [.inl 2],
 (.seq (.ops [Zs 2 (.mv (Zi 0))])
 (.seq (.ops [Zo 3 0,
 Zs 4 (.call 65 [(.tmp 3)]),
 Zs 5 (.bin .sub (Zi 32) (.tmp 4)),
 Zo 2 5])
 .ret))⟩
theorem h106 : strF Tryz.prog [] Tryz.f106 = some c106 := by kernel_rfl
/-- chirograph/nat.shifted -/
def c107 : Fun := ⟨41, [.inl 4],
 (.seq (.ops [Zs 4 (.mv (.const (.slice none 0 0)))])
 (.seq (.ops [Zo 8 0,
 Zs 9 (.len (.tmp 8)),
 Zs 10 (.bin .add (.tmp 9) (Zi 1)),
 Zs 11 (.mks 50 1 4 #[(.int .u32 0)] (.tmp 10) (.tmp 10)),
 Zo 5 11])
 (.seq (.seq (.ops [Zo 12 0,
 Zs 13 (.len (.tmp 12)),
 Zs 14 (.mv (Zi 0))])
 (.block 0
 (.loop
 (.seq (.ops [Zs 15 (.bin .lss (.tmp 14) (.tmp 13))])
 (.seq (.cond (.tmp 15)
 .skip
 (.exit 0))
 (.seq (.block 1
 (.seq (.ops [Zo 16 14,
 Zo 6 16])
 (.seq (.ops [Zo 17 0,
 Zo 18 6,
 Zs 19 (.ia 1 (.tmp 17) (.tmp 18)),
 Zs 20 (.ld (.int .u32) (.tmp 19)),
 Zs 21 (.cv .u64 (.tmp 20)),
 Zo 22 1,
 Zs 23 (.bin .shl (.tmp 21) (.tmp 22)),
 Zo 7 23])
 (.seq (.ops [Zo 24 5,
 Zo 25 6,
 Zs 26 (.ia 1 (.tmp 24) (.tmp 25)),
 Zs 27 (.ld (.int .u32) (.tmp 26)),
 Zo 28 7,
 Zs 29 (.cv .u32 (.tmp 28)),
 Zs 30 (.bin .or (.tmp 27) (.tmp 29)),
 Zs 31 (.ia 1 (.tmp 24) (.tmp 25)),
 ⟨none, none, .st 1 (.tmp 31) (.tmp 30)⟩])
 (.ops [Zo 32 5,
 Zo 33 6,
 Zs 34 (.bin .add (.tmp 33) (Zi 1)),
 Zo 35 7,
 Zs 36 (.bin .shr (.tmp 35) (.const (.int .u64 32))),
 Zs 37 (.cv .u32 (.tmp 36)),
 Zs 38 (.ia 1 (.tmp 32) (.tmp 34)),
 ⟨none, none, .st 1 (.tmp 38) (.tmp 37)⟩])))))
 (.ops [Zs 39 (.bin .add (.tmp 14) (Zi 1)),
 Zo 14 39])))))))
 (.seq (.ops [Zo 40 5,
 Zo 4 40])
 .ret))))⟩
theorem h107 : strF Tryz.prog [] Tryz.f107 = some c107 := by kernel_rfl
/-- chirograph/nat.guess -/
def c108 : Fun := ⟨63, [.inl 6],
 (.seq (.ops [Zs 6 (.mv (.const (.int .u32 0)))])
 (.seq (.ops [Zo 11 0,
 Zs 12 (.len (.tmp 11)),
 Zo 7 12])
 (.seq (.draw 15 [Zo 13 0,
 Zo 14 7,
 Zs 15 (.bin .sub (.tmp 14) (Zi 1)),
 Zs 16 (.ia 1 (.tmp 13) (.tmp 15)),
 Zs 17 (.ld (.int .u32) (.tmp 16)),
 Zs 18 (.cv .u64 (.tmp 17)),
 Zs 19 (.bin .shl (.tmp 18) (.const (.int .u64 32))),
 Zo 20 0,
 Zo 21 7,
 Zs 22 (.bin .sub (.tmp 21) (Zi 2)),
 Zs 23 (.ia 1 (.tmp 20) (.tmp 22)),
 Zs 24 (.ld (.int .u32) (.tmp 23)),
 Zs 25 (.cv .u64 (.tmp 24)),
 Zs 26 (.bin .or (.tmp 19) (.tmp 25)),
 Zo 8 26])
 (.seq (.ops [Zo 27 8,
 Zo 28 1,
 Zs 29 (.cv .u64 (.tmp 28)),
 Zs 30 (.bin .quo (.tmp 27) (.tmp 29)),
 Zo 9 30])
 (.seq (.ops [Zo 31 8,
 Zo 32 1,
 Zs 33 (.cv .u64 (.tmp 32)),
 Zs 34 (.bin .rem (.tmp 31) (.tmp 33)),
 Zo 10 34])
 (.join (.block 0
 (.loop
 (.seq (.seq (.ops [Zo 35 9,
 Zs 36 (.bin .geq (.tmp 35) (.const (.int .u64 4294967296))),
 Zo 37 36,
 ⟨some 38, some (37, false), .mv (.tmp 9)⟩,
 ⟨some 39, some (37, false), .mv (.tmp 2)⟩,
 ⟨some 40, some (37, false), .cv .u64 (.tmp 39)⟩,
 ⟨some 41, some (37, false), .bin .mul (.tmp 38) (.tmp 40)⟩,
 ⟨some 42, some (37, false), .mv (.tmp 10)⟩,
 ⟨some 43, some (37, false), .bin .shl (.tmp 42) (.const (.int .u64 32))⟩,
 ⟨some 44, some (37, false), .mv (.tmp 0)⟩,
 ⟨some 45, some (37, false), .mv (.tmp 7)⟩,
 ⟨some 46, some (37, false), .bin .sub (.tmp 45) (Zi 3)⟩,
 ⟨some 47, some (37, false), .ia 1 (.tmp 44) (.tmp 46)⟩,
 ⟨some 48, some (37, false), .ld (.int .u32) (.tmp 47)⟩,
 ⟨some 49, some (37, false), .cv .u64 (.tmp 48)⟩,
 ⟨some 50, some (37, false), .bin .or (.tmp 43) (.tmp 49)⟩,
 ⟨some 51, some (37, false), .bin .gtr (.tmp 41) (.tmp 50)⟩,
 Zs 52 (.pick (.tmp 37) (.const (.bool true)) (.tmp 51))])
 (.cond (.tmp 52)
 .skip
 (.exit 0)))
 (.block 1
 (.seq (.ops [Zo 53 9,
 Zs 54 (.bin .sub (.tmp 53) (.const (.int .u64 1))),
 Zo 9 54])
 (.seq (.ops [Zo 55 10,
 Zo 56 1,
 Zs 57 (.cv .u64 (.tmp 56)),
 Zs 58 (.bin .add (.tmp 55) (.tmp 57)),
 Zo 10 58])
 (.seq (.ops [Zo 59 10,
 Zs 60 (.bin .geq (.tmp 59) (.const (.int .u64 4294967296)))])
 (.cond (.tmp 60)
 (.exit 0)
 .skip))))))))
 (.seq (.ops [Zo 61 9,
 Zs 62 (.cv .u32 (.tmp 61)),
 Zo 6 62])
 .ret)))))))⟩
theorem h108 : strF Tryz.prog [] Tryz.f108 = some c108 := by kernel_rfl
/-- chirograph/nat.takes -/
def c109 : Fun := ⟨93, [.inl 6],
 (.seq (.ops [Zs 6 (.mv (.const (.bool false)))])
 (.seq (.ops [Zs 7 (.mv (.const (.int .u64 0))),
 Zs 8 (.mv (.const (.int .u32 0)))])
 (.seq (.seq (.ops [Zo 13 1,
 Zs 14 (.len (.tmp 13)),
 Zs 15 (.mv (Zi 0))])
 (.block 0
 (.loop
 (.seq (.ops [Zs 16 (.bin .lss (.tmp 15) (.tmp 14))])
 (.seq (.cond (.tmp 16)
 .skip
 (.exit 0))
 (.seq (.block 1
 (.seq (.ops [Zo 17 15,
 Zo 9 17])
 (.seq (.ops [Zo 18 2,
 Zs 19 (.cv .u64 (.tmp 18)),
 Zo 20 1,
 Zo 21 9,
 Zs 22 (.ia 1 (.tmp 20) (.tmp 21)),
 Zs 23 (.ld (.int .u32) (.tmp 22)),
 Zs 24 (.cv .u64 (.tmp 23)),
 Zs 25 (.bin .mul (.tmp 19) (.tmp 24)),
 Zo 26 7,
 Zs 27 (.bin .add (.tmp 25) (.tmp 26)),
 Zo 10 27])
 (.seq (.ops [Zo 28 10,
 Zs 29 (.bin .shr (.tmp 28) (.const (.int .u64 32))),
 Zo 7 29])
 (.ops [Zo 31 0,
 Zo 32 9,
 Zo 33 0,
 Zo 34 9,
 Zs 35 (.ia 1 (.tmp 33) (.tmp 34)),
 Zs 36 (.ld (.int .u32) (.tmp 35)),
 Zo 37 10,
 Zs 38 (.cv .u32 (.tmp 37)),
 Zo 39 8,
 Zs 40 (.call 121 [(.tmp 36), (.tmp 38), (.tmp 39)]),
 Zo 30 40,
 Zs 41 (.ext (.tmp 30) 0),
 Zs 42 (.ext (.tmp 30) 1),
 Zs 43 (.ia 1 (.tmp 31) (.tmp 32)),
 ⟨none, none, .st 1 (.tmp 43) (.tmp 41)⟩,
 Zo 8 42])))))
 (.ops [Zs 44 (.bin .add (.tmp 15) (Zi 1)),
 Zo 15 44])))))))
 (.seq (.ops [Zo 46 0,
 Zo 47 1,
 Zs 48 (.len (.tmp 47)),
 Zo 49 0,
 Zo 50 1,
 Zs 51 (.len (.tmp 50)),
 Zs 52 (.ia 1 (.tmp 49) (.tmp 51)),
 Zs 53 (.ld (.int .u32) (.tmp 52)),
 Zo 54 7,
 Zs 55 (.cv .u32 (.tmp 54)),
 Zo 56 8,
 Zs 57 (.call 121 [(.tmp 53), (.tmp 55), (.tmp 56)]),
 Zo 45 57,
 Zs 58 (.ext (.tmp 45) 0),
 Zs 59 (.ext (.tmp 45) 1),
 Zs 60 (.ia 1 (.tmp 46) (.tmp 48)),
 ⟨none, none, .st 1 (.tmp 60) (.tmp 58)⟩,
 Zo 8 59])
 (.seq (.seq (.ops [Zo 61 8,
 Zs 62 (.bin .eql (.tmp 61) (.const (.int .u32 0)))])
 (.cond (.tmp 62)
 (.seq (.ops [Zs 6 (.mv (.const (.bool true)))])
 .ret)
 .skip))
 (.seq (.ops [Zs 11 (.mv (.const (.int .u32 0)))])
 (.seq (.seq (.ops [Zo 63 1,
 Zs 64 (.len (.tmp 63)),
 Zs 65 (.mv (Zi 0))])
 (.block 2
 (.loop
 (.seq (.ops [Zs 66 (.bin .lss (.tmp 65) (.tmp 64))])
 (.seq (.cond (.tmp 66)
 .skip
 (.exit 2))
 (.seq (.block 3
 (.seq (.ops [Zo 67 65,
 Zo 12 67])
 (.drawS [(0, 0), (0, 1), (0, 2), (0, 3), (0, 4), (0, 6), (0, 7), (0, 8), (0, 10), (1, 5), (1, 9), (2, 11), (0, 12), (0, 13), (0, 14), (0, 15), (2, 16), (0, 17)]
 [Zo 69 0,
 Zo 70 12,
 Zo 71 0,
 Zo 72 12,
 Zs 73 (.ia 1 (.tmp 71) (.tmp 72)),
 Zs 74 (.ld (.int .u32) (.tmp 73)),
 Zo 75 1,
 Zo 76 12,
 Zs 77 (.ia 1 (.tmp 75) (.tmp 76)),
 Zs 78 (.ld (.int .u32) (.tmp 77)),
 Zo 79 11,
 Zs 80 (.call 122 [(.tmp 74), (.tmp 78), (.tmp 79)]),
 Zo 68 80,
 Zs 81 (.ext (.tmp 68) 0),
 Zs 82 (.ext (.tmp 68) 1),
 Zs 83 (.ia 1 (.tmp 69) (.tmp 70)),
 ⟨none, none, .st 1 (.tmp 83) (.tmp 81)⟩,
 Zo 11 82])))
 (.ops [Zs 84 (.bin .add (.tmp 65) (Zi 1)),
 Zo 65 84])))))))
 (.seq (.ops [Zo 85 0,
 Zo 86 1,
 Zs 87 (.len (.tmp 86)),
 Zs 88 (.ia 1 (.tmp 85) (.tmp 87)),
 Zs 89 (.ld (.int .u32) (.tmp 88)),
 Zo 90 11,
 Zs 91 (.bin .add (.tmp 89) (.tmp 90)),
 Zs 92 (.ia 1 (.tmp 85) (.tmp 87)),
 ⟨none, none, .st 1 (.tmp 92) (.tmp 91)⟩])
 (.seq (.ops [Zs 6 (.mv (.const (.bool false)))])
 .ret)))))))))⟩
theorem h109 : strF Tryz.prog [(16, .inl [(0, 0), (0, 1), (0, 2), (0, 3), (0, 4), (0, 6), (0, 7), (0, 8), (0, 10), (1, 5), (1, 9), (2, 11), (0, 12), (0, 13), (0, 14), (0, 15), (2, 16), (0, 17)])] Tryz.f109 = some c109 := by kernel_rfl
/-- chirograph/nat.product -/
def c110 : Fun := ⟨68, [.inl 4],
 (.seq (.ops [Zs 4 (.mv (.const (.slice none 0 0)))])
 (.seq (.ops [Zo 10 0,
 Zs 11 (.len (.tmp 10)),
 Zo 12 1,
 Zs 13 (.len (.tmp 12)),
 Zs 14 (.bin .add (.tmp 11) (.tmp 13)),
 Zs 15 (.mks 50 1 4 #[(.int .u32 0)] (.tmp 14) (.tmp 14)),
 Zo 5 15])
 (.seq (.seq (.ops [Zo 16 0,
 Zs 17 (.len (.tmp 16)),
 Zs 18 (.mv (Zi 0))])
 (.block 0
 (.loop
 (.seq (.ops [Zs 19 (.bin .lss (.tmp 18) (.tmp 17))])
 (.seq (.cond (.tmp 19)
 .skip
 (.exit 0))
 (.seq (.block 1
 (.seq (.ops [Zo 20 18,
 Zo 6 20])
 (.seq (.ops [Zs 7 (.mv (.const (.int .u64 0)))])
 (.seq (.seq (.ops [Zo 21 1,
 Zs 22 (.len (.tmp 21)),
 Zs 23 (.mv (Zi 0))])
 (.block 2
 (.loop
 (.seq (.ops [Zs 24 (.bin .lss (.tmp 23) (.tmp 22))])
 (.seq (.cond (.tmp 24)
 .skip
 (.exit 2))
 (.seq (.block 3
 (.seq (.ops [Zo 25 23,
 Zo 8 25])
 (.seq (.draw 22 [Zo 26 0,
 Zo 27 6,
 Zs 28 (.ia 1 (.tmp 26) (.tmp 27)),
 Zs 29 (.ld (.int .u32) (.tmp 28)),
 Zs 30 (.cv .u64 (.tmp 29)),
 Zo 31 1,
 Zo 32 8,
 Zs 33 (.ia 1 (.tmp 31) (.tmp 32)),
 Zs 34 (.ld (.int .u32) (.tmp 33)),
 Zs 35 (.cv .u64 (.tmp 34)),
 Zs 36 (.bin .mul (.tmp 30) (.tmp 35)),
 Zo 37 5,
 Zo 38 6,
 Zo 39 8,
 Zs 40 (.bin .add (.tmp 38) (.tmp 39)),
 Zs 41 (.ia 1 (.tmp 37) (.tmp 40)),
 Zs 42 (.ld (.int .u32) (.tmp 41)),
 Zs 43 (.cv .u64 (.tmp 42)),
 Zs 44 (.bin .add (.tmp 36) (.tmp 43)),
 Zo 45 7,
 Zs 46 (.bin .add (.tmp 44) (.tmp 45)),
 Zo 9 46])
 (.seq (.ops [Zo 47 5,
 Zo 48 6,
 Zo 49 8,
 Zs 50 (.bin .add (.tmp 48) (.tmp 49)),
 Zo 51 9,
 Zs 52 (.cv .u32 (.tmp 51)),
 Zs 53 (.ia 1 (.tmp 47) (.tmp 50)),
 ⟨none, none, .st 1 (.tmp 53) (.tmp 52)⟩])
 (.ops [Zo 54 9,
 Zs 55 (.bin .shr (.tmp 54) (.const (.int .u64 32))),
 Zo 7 55])))))
 (.ops [Zs 56 (.bin .add (.tmp 23) (Zi 1)),
 Zo 23 56])))))))
 (.ops [Zo 57 5,
 Zo 58 6,
 Zo 59 1,
 Zs 60 (.len (.tmp 59)),
 Zs 61 (.bin .add (.tmp 58) (.tmp 60)),
 Zo 62 7,
 Zs 63 (.cv .u32 (.tmp 62)),
 Zs 64 (.ia 1 (.tmp 57) (.tmp 61)),
 ⟨none, none, .st 1 (.tmp 64) (.tmp 63)⟩])))))
 (.ops [Zs 65 (.bin .add (.tmp 18) (Zi 1)),
 Zo 18 65])))))))
 (.seq (.ops [Zo 66 5,
 Zs 67 (.call 64 [(.tmp 66)]),
 Zo 4 67])
 .ret))))⟩
theorem h110 : strF Tryz.prog [] Tryz.f110 = some c110 := by kernel_rfl
/-- chirograph/chirographref01.sub -/
def c111 : Fun := ⟨36, [.inl 4],
 (.seq (.ops [Zs 4 (.mv (.const (.slice none 0 0)))])
 (.seq (.ops [Zs 5 (.mv (.const (.slice none 0 0)))])
 (.seq (.ops [Zs 6 (.mv (.const (.int .u64 0)))])
 (.seq (.seq (.ops [Zs 7 (.mv (Zi 0))])
 (.block 0
 (.loop
 (.seq (.seq (.ops [Zo 9 7,
 Zo 10 0,
 Zs 11 (.len (.tmp 10)),
 Zs 12 (.bin .lss (.tmp 9) (.tmp 11))])
 (.cond (.tmp 12)
 .skip
 (.exit 0)))
 (.seq (.block 1
 (.seq (.draw 12 [Zo 15 0,
 Zo 16 7,
 Zs 17 (.ia 1 (.tmp 15) (.tmp 16)),
 Zs 18 (.ld (.int .u64) (.tmp 17)),
 Zs 19 (.bin .add (.const (.int .u64 65536)) (.tmp 18)),
 Zo 20 1,
 Zo 21 7,
 Zs 22 (.call 92 [(.tmp 20), (.tmp 21)]),
 Zs 23 (.bin .sub (.tmp 19) (.tmp 22)),
 Zo 24 6,
 Zs 25 (.bin .sub (.tmp 23) (.tmp 24)),
 Zo 8 25])
 (.seq (.ops [Zo 26 5,
 Zo 27 8,
 Zs 28 (.bin .rem (.tmp 27) (.const (.int .u64 65536))),
 Zs 29 (.bsl 60 1 1 #[(.int .u64 0)] [(0, (.tmp 28))]),
 Zs 30 (.app 60 1 8 #[(.int .u64 0)] (.tmp 26) (.tmp 29)),
 Zo 5 30])
 (.ops [Zo 31 8,
 Zs 32 (.bin .quo (.tmp 31) (.const (.int .u64 65536))),
 Zs 33 (.bin .sub (.const (.int .u64 1)) (.tmp 32)),
 Zo 6 33]))))
 (.ops [Zo 13 7,
 Zs 14 (.bin .add (.tmp 13) (Zi 1)),
 Zo 7 14]))))))
 (.seq (.ops [Zo 34 5,
 Zs 35 (.call 100 [(.tmp 34)]),
 Zo 4 35])
 .ret)))))⟩
theorem h111 : strF Tryz.prog [] Tryz.f111 = some c111 := by kernel_rfl
/-- chirograph/chirographref01.take -/
def c112 : Fun := ⟨63, [],
 (.seq (.ops [Zs 6 (.mv (.const (.int .u64 0)))])
 (.seq (.seq (.ops [Zs 7 (.mv (Zi 0))])
 (.block 0
 (.loop
 (.seq (.seq (.ops [Zo 9 7,
 Zo 10 1,
 Zs 11 (.len (.tmp 10)),
 Zs 12 (.bin .lss (.tmp 9) (.tmp 11))])
 (.cond (.tmp 12)
 .skip
 (.exit 0)))
 (.seq (.block 1
 (.seq (.ops [Zo 15 2,
 Zo 16 1,
 Zo 17 7,
 Zs 18 (.ia 1 (.tmp 16) (.tmp 17)),
 Zs 19 (.ld (.int .u64) (.tmp 18)),
 Zs 20 (.bin .mul (.tmp 15) (.tmp 19)),
 Zo 21 6,
 Zs 22 (.bin .add (.tmp 20) (.tmp 21)),
 Zo 8 22])
 (.seq (.ops [Zo 23 8,
 Zs 24 (.bin .shr (.tmp 23) (.const (.int .u64 32))),
 Zo 6 24])
 (.seq (.ops [Zo 25 8,
 Zs 26 (.bin .and (.tmp 25) (.const (.int .u64 4294967295))),
 Zo 8 26])
 (.join (.seq (.ops [Zo 27 0,
 Zo 28 7,
 Zs 29 (.ia 1 (.tmp 27) (.tmp 28)),
 Zs 30 (.ld (.int .u64) (.tmp 29)),
 Zo 31 8,
 Zs 32 (.bin .lss (.tmp 30) (.tmp 31))])
 (.cond (.tmp 32)
 (.seq (.ops [Zo 33 0,
 Zo 34 7,
 Zo 35 0,
 Zo 36 7,
 Zs 37 (.ia 1 (.tmp 35) (.tmp 36)),
 Zs 38 (.ld (.int .u64) (.tmp 37)),
 Zs 39 (.bin .add (.tmp 38) (.const (.int .u64 4294967296))),
 Zs 40 (.ia 1 (.tmp 33) (.tmp 34)),
 ⟨none, none, .st 1 (.tmp 40) (.tmp 39)⟩])
 (.ops [Zo 41 6,
 Zs 42 (.bin .add (.tmp 41) (.const (.int .u64 1))),
 Zo 6 42]))
 .skip))
 (.ops [Zo 43 0,
 Zo 44 7,
 Zo 45 0,
 Zo 46 7,
 Zs 47 (.ia 1 (.tmp 45) (.tmp 46)),
 Zs 48 (.ld (.int .u64) (.tmp 47)),
 Zo 49 8,
 Zs 50 (.bin .sub (.tmp 48) (.tmp 49)),
 Zs 51 (.ia 1 (.tmp 43) (.tmp 44)),
 ⟨none, none, .st 1 (.tmp 51) (.tmp 50)⟩]))))))
 (.ops [Zo 13 7,
 Zs 14 (.bin .add (.tmp 13) (Zi 1)),
 Zo 7 14]))))))
 (.ops [Zo 52 0,
 Zo 53 1,
 Zs 54 (.len (.tmp 53)),
 Zo 55 0,
 Zo 56 1,
 Zs 57 (.len (.tmp 56)),
 Zs 58 (.ia 1 (.tmp 55) (.tmp 57)),
 Zs 59 (.ld (.int .u64) (.tmp 58)),
 Zo 60 6,
 Zs 61 (.bin .sub (.tmp 59) (.tmp 60)),
 Zs 62 (.ia 1 (.tmp 52) (.tmp 54)),
 ⟨none, none, .st 1 (.tmp 62) (.tmp 61)⟩])))⟩
theorem h112 : strF Tryz.prog [] Tryz.f112 = some c112 := by kernel_rfl
/-- chirograph/chirographref01.reach -/
def c113 : Fun := ⟨37, [.inl 4],
 (.seq (.ops [Zs 4 (.mv (.const (.bool false)))])
 (.seq (.seq (.ops [Zo 6 0,
 Zo 7 1,
 Zs 8 (.len (.tmp 7)),
 Zs 9 (.ia 1 (.tmp 6) (.tmp 8)),
 Zs 10 (.ld (.int .u64) (.tmp 9)),
 Zs 11 (.bin .gtr (.tmp 10) (.const (.int .u64 0)))])
 (.cond (.tmp 11)
 (.seq (.ops [Zs 4 (.mv (.const (.bool true)))])
 .ret)
 .skip))
 (.seq (.seq (.ops [Zo 12 1,
 Zs 13 (.len (.tmp 12)),
 Zs 14 (.bin .sub (.tmp 13) (Zi 1)),
 Zo 5 14])
 (.block 0
 (.loop
 (.seq (.seq (.ops [Zo 15 5,
 Zs 16 (.bin .geq (.tmp 15) (Zi 0))])
 (.cond (.tmp 16)
 .skip
 (.exit 0)))
 (.seq (.block 1
 (.seq (.draw 9 [Zo 19 0,
 Zo 20 5,
 Zs 21 (.ia 1 (.tmp 19) (.tmp 20)),
 Zs 22 (.ld (.int .u64) (.tmp 21)),
 Zo 23 1,
 Zo 24 5,
 Zs 25 (.ia 1 (.tmp 23) (.tmp 24)),
 Zs 26 (.ld (.int .u64) (.tmp 25)),
 Zs 27 (.bin .neq (.tmp 22) (.tmp 26))])
 (.cond (.tmp 27)
 (.seq (.draw 10 [Zo 28 0,
 Zo 29 5,
 Zs 30 (.ia 1 (.tmp 28) (.tmp 29)),
 Zs 31 (.ld (.int .u64) (.tmp 30)),
 Zo 32 1,
 Zo 33 5,
 Zs 34 (.ia 1 (.tmp 32) (.tmp 33)),
 Zs 35 (.ld (.int .u64) (.tmp 34)),
 Zs 36 (.bin .gtr (.tmp 31) (.tmp 35)),
 Zo 4 36])
 .ret)
 .skip)))
 (.ops [Zo 17 5,
 Zs 18 (.bin .sub (.tmp 17) (Zi 1)),
 Zo 5 18]))))))
 (.seq (.ops [Zs 4 (.mv (.const (.bool true)))])
 .ret))))⟩
theorem h113 : strF Tryz.prog [] Tryz.f113 = some c113 := by kernel_rfl
/-- chirograph/chirographref03.Head -/
def c114 : Fun := ⟨77, [.inl 4],
 (.seq (.ops [Zs 2 (.box 155 (.tmp 0)),
 Zs 4 (.mv (.const (.slice none 0 0)))])
 (.seq (.ops [Zs 11 (.fa 1 (.tmp 2)),
 Zs 12 (.ld (.int .i64) (.tmp 11)),
 Zs 13 (.cv .u8 (.tmp 12)),
 Zs 14 (.bin .shl (.tmp 13) (.const (.int .u64 6))),
 Zo 5 14])
 (.join (.seq (.ops [Zs 15 (.fa 3 (.tmp 2)),
 Zs 16 (.ld .bool (.tmp 15))])
 (.cond (.tmp 16)
 (.ops [Zo 17 5,
 Zs 18 (.bin .add (.tmp 17) (.const (.int .u8 32))),
 Zo 5 18])
 .skip))
 (.seq (.ops [Zs 6 (.mv (.const (.slice none 0 0)))])
 (.join (.seq (.ops [Zs 19 (.fa 2 (.tmp 2)),
 Zs 20 (.ld (.int .i64) (.tmp 19)),
 Zs 21 (.bin .lss (.tmp 20) (Zi 31))])
 (.cond (.tmp 21)
 (.ops [Zo 22 5,
 Zs 23 (.fa 2 (.tmp 2)),
 Zs 24 (.ld (.int .i64) (.tmp 23)),
 Zs 25 (.cv .u8 (.tmp 24)),
 Zs 26 (.bin .add (.tmp 22) (.tmp 25)),
 Zs 27 (.bsl 5 1 1 #[(.int .u8 0)] [(0, (.tmp 26))]),
 Zo 6 27])
 (.seq (.ops [Zs 7 (.mv (.const (.slice none 0 0)))])
 (.seq (.seq (.ops [Zs 28 (.fa 2 (.tmp 2)),
 Zs 29 (.ld (.int .i64) (.tmp 28)),
 Zo 8 29])
 (.block 0
 (.loop
 (.seq (.seq (.ops [Zo 30 8,
 Zs 31 (.bin .gtr (.tmp 30) (Zi 0))])
 (.cond (.tmp 31)
 .skip
 (.exit 0)))
 (.seq (.block 1
 (.seq (.ops [Zo 34 8,
 Zs 35 (.bin .rem (.tmp 34) (Zi 128)),
 Zs 36 (.cv .u8 (.tmp 35)),
 Zo 9 36])
 (.join (.seq (.ops [Zo 37 7,
 Zs 38 (.len (.tmp 37)),
 Zs 39 (.bin .gtr (.tmp 38) (Zi 0))])
 (.cond (.tmp 39)
 (.ops [Zo 40 9,
 Zs 41 (.bin .add (.tmp 40) (.const (.int .u8 128))),
 Zo 9 41])
 .skip))
 (.ops [Zo 42 9,
 Zs 43 (.bsl 5 1 1 #[(.int .u8 0)] [(0, (.tmp 42))]),
 Zo 44 7,
 Zs 45 (.app 5 1 1 #[(.int .u8 0)] (.tmp 43) (.tmp 44)),
 Zo 7 45]))))
 (.ops [Zo 32 8,
 Zs 33 (.bin .quo (.tmp 32) (Zi 128)),
 Zo 8 33]))))))
 (.ops [Zo 46 5,
 Zs 47 (.bin .add (.tmp 46) (.const (.int .u8 31))),
 Zs 48 (.bsl 5 1 1 #[(.int .u8 0)] [(0, (.tmp 47))]),
 Zo 49 7,
 Zs 50 (.app 5 1 1 #[(.int .u8 0)] (.tmp 48) (.tmp 49)),
 Zo 6 50])))))
 (.seq (.seq (.ops [Zo 51 1,
 Zs 52 (.bin .lss (.tmp 51) (Zi 128))])
 (.cond (.tmp 52)
 (.seq (.ops [Zo 53 6,
 Zo 54 1,
 Zs 55 (.cv .u8 (.tmp 54)),
 Zs 56 (.bsl 5 1 1 #[(.int .u8 0)] [(0, (.tmp 55))]),
 Zs 57 (.app 5 1 1 #[(.int .u8 0)] (.tmp 53) (.tmp 56)),
 Zo 4 57])
 .ret)
 .skip))
 (.seq (.ops [Zs 10 (.mv (.const (.slice none 0 0)))])
 (.seq (.block 2
 (.loop
 (.seq (.seq (.ops [Zo 58 1,
 Zs 59 (.bin .gtr (.tmp 58) (Zi 0))])
 (.cond (.tmp 59)
 .skip
 (.exit 2)))
 (.seq (.block 3
 (.ops [Zo 62 1,
 Zs 63 (.bin .rem (.tmp 62) (Zi 256)),
 Zs 64 (.cv .u8 (.tmp 63)),
 Zs 65 (.bsl 5 1 1 #[(.int .u8 0)] [(0, (.tmp 64))]),
 Zo 66 10,
 Zs 67 (.app 5 1 1 #[(.int .u8 0)] (.tmp 65) (.tmp 66)),
 Zo 10 67]))
 (.ops [Zo 60 1,
 Zs 61 (.bin .quo (.tmp 60) (Zi 256)),
 Zo 1 61])))))
 (.seq (.ops [Zo 68 6,
 Zo 69 10,
 Zs 70 (.len (.tmp 69)),
 Zs 71 (.bin .add (Zi 128) (.tmp 70)),
 Zs 72 (.cv .u8 (.tmp 71)),
 Zs 73 (.bsl 5 1 1 #[(.int .u8 0)] [(0, (.tmp 72))]),
 Zs 74 (.app 5 1 1 #[(.int .u8 0)] (.tmp 68) (.tmp 73)),
 Zo 75 10,
 Zs 76 (.app 5 1 1 #[(.int .u8 0)] (.tmp 74) (.tmp 75)),
 Zo 4 76])
 .ret)))))))))⟩
theorem h114 : strF Tryz.prog [] Tryz.f114 = some c114 := by kernel_rfl
/-- chirograph/chirographref04.arcs -/
def c115 : Fun := ⟨94, [.inl 2, .inl 3],
 (.seq (.ops [Zs 2 (.mv (.const (.slice none 0 0))),
 Zs 3 (.mv (.const (.bool false)))])
 (.seq (.ops [Zs 4 (.mv (.const (.slice none 0 0)))])
 (.seq (.ops [Zs 5 (.mv (Zi 0))])
 (.seq (.seq (.ops [Zs 6 (.mv (Zi 0))])
 (.block 0
 (.loop
 (.seq (.seq (.ops [Zo 9 6,
 Zo 10 0,
 Zs 11 (.lens (.tmp 10)),
 Zs 12 (.bin .leq (.tmp 9) (.tmp 11))])
 (.cond (.tmp 12)
 .skip
 (.exit 0)))
 (.join (.block 1
 (.seq (.seq (.ops [Zo 15 6,
 Zo 16 0,
 Zs 17 (.lens (.tmp 16)),
 Zs 18 (.bin .lss (.tmp 15) (.tmp 17)),
 Zo 19 18,
 ⟨some 20, some (19, true), .mv (.tmp 0)⟩,
 ⟨some 21, some (19, true), .mv (.tmp 6)⟩,
 ⟨some 22, some (19, true), .ixs (.tmp 20) (.tmp 21)⟩,
 ⟨some 23, some (19, true), .bin .neq (.tmp 22) (.const (.int .u8 46))⟩,
 Zs 24 (.pick (.tmp 19) (.tmp 23) (.const (.bool false)))])
 (.cond (.tmp 24)
 (.seq (.seq (.ops [Zo 25 0,
 Zo 26 6,
 Zs 27 (.ixs (.tmp 25) (.tmp 26)),
 Zs 28 (.bin .lss (.tmp 27) (.const (.int .u8 48))),
 Zo 29 28,
 ⟨some 30, some (29, false), .mv (.tmp 0)⟩,
 ⟨some 31, some (29, false), .mv (.tmp 6)⟩,
 ⟨some 32, some (29, false), .ixs (.tmp 30) (.tmp 31)⟩,
 ⟨some 33, some (29, false), .bin .gtr (.tmp 32) (.const (.int .u8 57))⟩,
 Zs 34 (.pick (.tmp 29) (.const (.bool true)) (.tmp 33))])
 (.cond (.tmp 34)
 (.seq (.ops [Zs 2 (.mv (.const (.slice none 0 0))),
 Zs 3 (.mv (.const (.bool false)))])
 .ret)
 .skip))
 (.exit 1))
 .skip))
 (.seq (.seq (.ops [Zo 35 6,
 Zo 36 5,
 Zs 37 (.bin .eql (.tmp 35) (.tmp 36)),
 Zo 38 37,
 ⟨some 39, some (38, false), .mv (.tmp 0)⟩,
 ⟨some 40, some (38, false), .mv (.tmp 5)⟩,
 ⟨some 41, some (38, false), .ixs (.tmp 39) (.tmp 40)⟩,
 ⟨some 42, some (38, false), .bin .eql (.tmp 41) (.const (.int .u8 48))⟩,
 ⟨some 43, some (38, false), .mv (.tmp 42)⟩,
 ⟨some 44, some (43, true), .mv (.tmp 6)⟩,
 ⟨some 45, some (43, true), .mv (.tmp 5)⟩,
 ⟨some 46, some (43, true), .bin .add (.tmp 45) (Zi 1)⟩,
 ⟨some 47, some (43, true), .bin .gtr (.tmp 44) (.tmp 46)⟩,
 ⟨some 48, some (38, false), .pick (.tmp 43) (.tmp 47) (.const (.bool false))⟩,
 Zs 49 (.pick (.tmp 38) (.const (.bool true)) (.tmp 48))])
 (.cond (.tmp 49)
 (.seq (.ops [Zs 2 (.mv (.const (.slice none 0 0))),
 Zs 3 (.mv (.const (.bool false)))])
 .ret)
 .skip))
 (.seq (.ops [Zs 7 (.mv (Zi 0))])
 (.seq (.seq (.ops [Zo 50 5,
 Zo 8 50])
 (.block 2
 (.loop
 (.seq (.seq (.ops [Zo 51 8,
 Zo 52 6,
 Zs 53 (.bin .lss (.tmp 51) (.tmp 52))])
 (.cond (.tmp 53)
 .skip
 (.exit 2)))
 (.join (.block 3
 (.seq (.ops [Zo 56 7,
 Zs 57 (.bin .mul (.tmp 56) (Zi 10)),
 Zo 58 0,
 Zo 59 8,
 Zs 60 (.ixs (.tmp 58) (.tmp 59)),
 Zs 61 (.bin .sub (.tmp 60) (.const (.int .u8 48))),
 Zs 62 (.cv .i64 (.tmp 61)),
 Zs 63 (.bin .add (.tmp 57) (.tmp 62)),
 Zo 7 63])
 (.seq (.ops [Zo 64 7,
 Zs 65 (.bin .gtr (.tmp 64) (Zi 1099511627776))])
 (.cond (.tmp 65)
 (.ops [Zs 7 (.mv (Zi 1099511627776))])
 .skip))))
 (.ops [Zo 54 8,
 Zs 55 (.bin .add (.tmp 54) (Zi 1)),
 Zo 8 55]))))))
 (.seq (.ops [Zo 66 4,
 Zo 67 7,
 Zs 68 (.bsl 3 1 1 #[(.int .i64 0)] [(0, (.tmp 67))]),
 Zs 69 (.app 3 1 8 #[(.int .i64 0)] (.tmp 66) (.tmp 68)),
 Zo 4 69])
 (.ops [Zo 70 6,
 Zs 71 (.bin .add (.tmp 70) (Zi 1)),
 Zo 5 71])))))))
 (.ops [Zo 13 6,
 Zs 14 (.bin .add (.tmp 13) (Zi 1)),
 Zo 6 14]))))))
 (.seq (.draw 24 [Zo 72 4,
 Zo 73 4,
 Zs 74 (.len (.tmp 73)),
 Zs 75 (.bin .geq (.tmp 74) (Zi 2)),
 Zo 76 75,
 ⟨some 77, some (76, true), .mv (.tmp 4)⟩,
 ⟨some 78, some (76, true), .ia 1 (.tmp 77) (Zi 0)⟩,
 ⟨some 79, some (76, true), .ld (.int .i64) (.tmp 78)⟩,
 ⟨some 80, some (76, true), .bin .leq (.tmp 79) (Zi 2)⟩,
 Zs 81 (.pick (.tmp 76) (.tmp 80) (.const (.bool false))),
 Zo 82 81,
 ⟨some 83, some (82, true), .mv (.tmp 4)⟩,
 ⟨some 84, some (82, true), .ia 1 (.tmp 83) (Zi 0)⟩,
 ⟨some 85, some (82, true), .ld (.int .i64) (.tmp 84)⟩,
 ⟨some 86, some (82, true), .bin .eql (.tmp 85) (Zi 2)⟩,
 ⟨some 87, some (82, true), .mv (.tmp 86)⟩,
 ⟨some 88, some (87, false), .mv (.tmp 4)⟩,
 ⟨some 89, some (87, false), .ia 1 (.tmp 88) (Zi 1)⟩,
 ⟨some 90, some (87, false), .ld (.int .i64) (.tmp 89)⟩,
 ⟨some 91, some (87, false), .bin .lss (.tmp 90) (Zi 40)⟩,
 ⟨some 92, some (82, true), .pick (.tmp 87) (.const (.bool true)) (.tmp 91)⟩,
 Zs 93 (.pick (.tmp 82) (.tmp 92) (.const (.bool false))),
 Zo 2 72,
 Zo 3 93])
 .ret)))))⟩
theorem h115 : strF Tryz.prog [] Tryz.f115 = some c115 := by kernel_rfl
/-- chirograph/digest.one -/
def c117 : Fun := ⟨126, [.inr ((.agg 8), 4)],
 (.seq (.ops [Zs 2 (.box 87 (.tmp 0)),
 Zs 4 (.alloc 87 (.agg (Array.replicate 8 (.int .u32 0))))])
 (.seq (.ops [Zo 15 1,
 Zs 16 (.call 123 [(.tmp 15)]),
 Zs 5 (.alloc 166 (.agg (Array.replicate 16 (.int .u32 0)))),
 ⟨none, none, .st 16 (.tmp 5) (.tmp 16)⟩])
 (.seq (.draw 15 [Zs 17 (.iaA 8 1 (.tmp 2) (Zi 0)),
 Zs 18 (.ld (.int .u32) (.tmp 17)),
 Zs 19 (.iaA 8 1 (.tmp 2) (Zi 1)),
 Zs 20 (.ld (.int .u32) (.tmp 19)),
 Zs 21 (.iaA 8 1 (.tmp 2) (Zi 2)),
 Zs 22 (.ld (.int .u32) (.tmp 21)),
 Zs 23 (.iaA 8 1 (.tmp 2) (Zi 3)),
 Zs 24 (.ld (.int .u32) (.tmp 23)),
 Zs 25 (.iaA 8 1 (.tmp 2) (Zi 4)),
 Zs 26 (.ld (.int .u32) (.tmp 25)),
 Zo 6 18,
 Zo 7 20,
 Zo 8 22,
 Zo 9 24,
 Zo 10 26])
 (.seq (.seq (.ops [Zs 27 (.mv (Zi 0))])
 (.block 0
 (.loop
 (.seq (.ops [Zs 28 (.bin .lss (.tmp 27) (Zi 80))])
 (.seq (.cond (.tmp 28)
 .skip
 (.exit 0))
 (.seq (.block 1
 (.seq (.ops [Zo 29 27,
 Zo 11 29])
 (.seq (.ops [Zo 30 11,
 Zs 31 (.bin .rem (.tmp 30) (Zi 16)),
 Zo 12 31])
 (.join (.seq (.ops [Zo 32 11,
 Zs 33 (.bin .geq (.tmp 32) (Zi 16))])
 (.cond (.tmp 33)
 (.draw 24 [Zo 34 12,
 Zo 35 12,
 Zs 36 (.bin .add (.tmp 35) (Zi 13)),
 Zs 37 (.bin .rem (.tmp 36) (Zi 16)),
 Zs 38 (.iaA 16 1 (.tmp 5) (.tmp 37)),
 Zs 39 (.ld (.int .u32) (.tmp 38)),
 Zo 40 12,
 Zs 41 (.bin .add (.tmp 40) (Zi 8)),
 Zs 42 (.bin .rem (.tmp 41) (Zi 16)),
 Zs 43 (.iaA 16 1 (.tmp 5) (.tmp 42)),
 Zs 44 (.ld (.int .u32) (.tmp 43)),
 Zs 45 (.bin .xor (.tmp 39) (.tmp 44)),
 Zo 46 12,
 Zs 47 (.bin .add (.tmp 46) (Zi 2)),
 Zs 48 (.bin .rem (.tmp 47) (Zi 16)),
 Zs 49 (.iaA 16 1 (.tmp 5) (.tmp 48)),
 Zs 50 (.ld (.int .u32) (.tmp 49)),
 Zs 51 (.bin .xor (.tmp 45) (.tmp 50)),
 Zo 52 12,
 Zs 53 (.iaA 16 1 (.tmp 5) (.tmp 52)),
 Zs 54 (.ld (.int .u32) (.tmp 53)),
 Zs 55 (.bin .xor (.tmp 51) (.tmp 54)),
 Zs 56 (.call 124 [(.tmp 55), (Zi 1)]),
 Zs 57 (.iaA 16 1 (.tmp 5) (.tmp 34)),
 ⟨none, none, .st 1 (.tmp 57) (.tmp 56)⟩])
 .skip))
 (.seq (.ops [Zo 58 7,
 Zo 59 8,
 Zs 60 (.bin .xor (.tmp 58) (.tmp 59)),
 Zo 61 9,
 Zs 62 (.bin .xor (.tmp 60) (.tmp 61)),
 Zo 13 62,
 Zs 14 (.mv (.const (.int .u32 3395469782)))])
 (.join (.seq (.ops [Zo 63 11,
 Zs 64 (.bin .quo (.tmp 63) (Zi 20))])
 (.block 2
 (.seq (.ops [Zs 66 (.bin .eql (.tmp 64) (Zi 0)),
 Zo 65 66])
 (.cond (.tmp 65)
 (.ops [Zo 67 9,
 Zo 68 7,
 Zo 69 8,
 Zo 70 9,
 Zs 71 (.bin .xor (.tmp 69) (.tmp 70)),
 Zs 72 (.bin .and (.tmp 68) (.tmp 71)),
 Zs 73 (.bin .xor (.tmp 67) (.tmp 72)),
 Zo 13 73,
 Zs 14 (.mv (.const (.int .u32 1518500249)))])
 (.seq (.ops [Zs 75 (.bin .eql (.tmp 64) (Zi 1)),
 Zo 74 75])
 (.cond (.tmp 74)
 (.ops [Zs 14 (.mv (.const (.int .u32 1859775393)))])
 (.seq (.ops [Zs 77 (.bin .eql (.tmp 64) (Zi 2)),
 Zo 76 77])
 (.cond (.tmp 76)
 (.ops [Zo 78 7,
 Zo 79 8,
 Zs 80 (.bin .and (.tmp 78) (.tmp 79)),
 Zo 81 9,
 Zo 82 7,
 Zo 83 8,
 Zs 84 (.bin .or (.tmp 82) (.tmp 83)),
 Zs 85 (.bin .and (.tmp 81) (.tmp 84)),
 Zs 86 (.bin .or (.tmp 80) (.tmp 85)),
 Zo 13 86,
 Zs 14 (.mv (.const (.int .u32 2400959708)))])
 .skip))))))))
 (.draw 22 [Zo 87 6,
 Zs 88 (.call 124 [(.tmp 87), (Zi 5)]),
 Zo 89 13,
 Zs 90 (.bin .add (.tmp 88) (.tmp 89)),
 Zo 91 10,
 Zs 92 (.bin .add (.tmp 90) (.tmp 91)),
 Zo 93 14,
 Zs 94 (.bin .add (.tmp 92) (.tmp 93)),
 Zo 95 12,
 Zs 96 (.iaA 16 1 (.tmp 5) (.tmp 95)),
 Zs 97 (.ld (.int .u32) (.tmp 96)),
 Zs 98 (.bin .add (.tmp 94) (.tmp 97)),
 Zo 99 6,
 Zo 100 7,
 Zs 101 (.call 124 [(.tmp 100), (Zi 30)]),
 Zo 102 8,
 Zo 103 9,
 Zo 6 98,
 Zo 7 99,
 Zo 8 101,
 Zo 9 102,
 Zo 10 103])))))))
 (.ops [Zs 104 (.bin .add (.tmp 27) (Zi 1)),
 Zo 27 104])))))))
 (.seq (.ops [Zs 105 (.iaA 8 1 (.tmp 2) (Zi 0)),
 Zs 106 (.ld (.int .u32) (.tmp 105)),
 Zo 107 6,
 Zs 108 (.bin .add (.tmp 106) (.tmp 107)),
 Zs 109 (.iaA 8 1 (.tmp 2) (Zi 1)),
 Zs 110 (.ld (.int .u32) (.tmp 109)),
 Zo 111 7,
 Zs 112 (.bin .add (.tmp 110) (.tmp 111)),
 Zs 113 (.iaA 8 1 (.tmp 2) (Zi 2)),
 Zs 114 (.ld (.int .u32) (.tmp 113)),
 Zo 115 8,
 Zs 116 (.bin .add (.tmp 114) (.tmp 115)),
 Zs 117 (.iaA 8 1 (.tmp 2) (Zi 3)),
 Zs 118 (.ld (.int .u32) (.tmp 117)),
 Zo 119 9,
 Zs 120 (.bin .add (.tmp 118) (.tmp 119)),
 Zs 121 (.iaA 8 1 (.tmp 2) (Zi 4)),
 Zs 122 (.ld (.int .u32) (.tmp 121)),
 Zo 123 10,
 Zs 124 (.bin .add (.tmp 122) (.tmp 123)),
 Zs 125 (.bld (Array.replicate 8 (.int .u32 0)) [(0, 1), (1, 1), (2, 1), (3, 1), (4, 1), (5, 1), (6, 1), (7, 1)] [(0, (.tmp 108)), (1, (.tmp 112)), (2, (.tmp 116)), (3, (.tmp 120)), (4, (.tmp 124))]),
 ⟨none, none, .st 8 (.tmp 4) (.tmp 125)⟩])
 .ret)))))⟩
theorem h117 : strF Tryz.prog [] Tryz.f117 = some c117 := by kernel_rfl
/-- chirograph/digest.two -/
def c118 : Fun := ⟨124, [.inr ((.agg 8), 4)],
 (.seq (.ops [Zs 2 (.box 87 (.tmp 0)),
 Zs 4 (.alloc 87 (.agg (Array.replicate 8 (.int .u32 0))))])
 (.seq (.ops [Zo 12 1,
 Zs 13 (.call 123 [(.tmp 12)]),
 Zs 5 (.alloc 166 (.agg (Array.replicate 16 (.int .u32 0)))),
 ⟨none, none, .st 16 (.tmp 5) (.tmp 13)⟩])
 (.seq (.ops [Zs 14 (.ld (.agg 8) (.tmp 2)),
 Zs 6 (.alloc 87 (.agg (Array.replicate 8 (.int .u32 0)))),
 ⟨none, none, .st 8 (.tmp 6) (.tmp 14)⟩])
 (.seq (.seq (.ops [Zs 15 (.mv (Zi 0))])
 (.block 0
 (.loop
 (.seq (.ops [Zs 16 (.bin .lss (.tmp 15) (Zi 64))])
 (.seq (.cond (.tmp 16)
 .skip
 (.exit 0))
 (.seq (.block 1
 (.seq (.ops [Zo 17 15,
 Zo 7 17])
 (.seq (.ops [Zo 18 7,
 Zs 19 (.bin .rem (.tmp 18) (Zi 16)),
 Zo 8 19])
 (.join (.seq (.ops [Zo 20 7,
 Zs 21 (.bin .geq (.tmp 20) (Zi 16))])
 (.cond (.tmp 21)
 (.draw 24 [Zo 22 8,
 Zs 23 (.iaA 16 1 (.tmp 5) (.tmp 22)),
 Zs 24 (.ld (.int .u32) (.tmp 23)),
 Zo 25 8,
 Zs 26 (.bin .add (.tmp 25) (Zi 14)),
 Zs 27 (.bin .rem (.tmp 26) (Zi 16)),
 Zs 28 (.iaA 16 1 (.tmp 5) (.tmp 27)),
 Zs 29 (.ld (.int .u32) (.tmp 28)),
 Zs 30 (.call 125 [(.tmp 29), (Zi 17), (Zi 19), (Zi 10), (.const (.bool true))]),
 Zo 31 8,
 Zs 32 (.bin .add (.tmp 31) (Zi 9)),
 Zs 33 (.bin .rem (.tmp 32) (Zi 16)),
 Zs 34 (.iaA 16 1 (.tmp 5) (.tmp 33)),
 Zs 35 (.ld (.int .u32) (.tmp 34)),
 Zs 36 (.bin .add (.tmp 30) (.tmp 35)),
 Zo 37 8,
 Zs 38 (.bin .add (.tmp 37) (Zi 1)),
 Zs 39 (.bin .rem (.tmp 38) (Zi 16)),
 Zs 40 (.iaA 16 1 (.tmp 5) (.tmp 39)),
 Zs 41 (.ld (.int .u32) (.tmp 40)),
 Zs 42 (.call 125 [(.tmp 41), (Zi 7), (Zi 18), (Zi 3), (.const (.bool true))]),
 Zs 43 (.bin .add (.tmp 36) (.tmp 42)),
 Zs 44 (.bin .add (.tmp 24) (.tmp 43)),
 Zs 45 (.iaA 16 1 (.tmp 5) (.tmp 22)),
 ⟨none, none, .st 1 (.tmp 45) (.tmp 44)⟩])
 .skip))
 (.seq (.draw 27 [Zs 46 (.iaA 8 1 (.tmp 6) (Zi 7)),
 Zs 47 (.ld (.int .u32) (.tmp 46)),
 Zs 48 (.iaA 8 1 (.tmp 6) (Zi 4)),
 Zs 49 (.ld (.int .u32) (.tmp 48)),
 Zs 50 (.call 125 [(.tmp 49), (Zi 6), (Zi 11), (Zi 25), (.const (.bool false))]),
 Zs 51 (.bin .add (.tmp 47) (.tmp 50)),
 Zs 52 (.iaA 8 1 (.tmp 6) (Zi 6)),
 Zs 53 (.ld (.int .u32) (.tmp 52)),
 Zs 54 (.iaA 8 1 (.tmp 6) (Zi 4)),
 Zs 55 (.ld (.int .u32) (.tmp 54)),
 Zs 56 (.iaA 8 1 (.tmp 6) (Zi 5)),
 Zs 57 (.ld (.int .u32) (.tmp 56)),
 Zs 58 (.iaA 8 1 (.tmp 6) (Zi 6)),
 Zs 59 (.ld (.int .u32) (.tmp 58)),
 Zs 60 (.bin .xor (.tmp 57) (.tmp 59)),
 Zs 61 (.bin .and (.tmp 55) (.tmp 60)),
 Zs 62 (.bin .xor (.tmp 53) (.tmp 61)),
 Zs 63 (.bin .add (.tmp 51) (.tmp 62)),
 Zo 64 7,
 Zs 65 (.iaA 64 1 (.global 3) (.tmp 64)),
 Zs 66 (.ld (.int .u32) (.tmp 65)),
 Zs 67 (.bin .add (.tmp 63) (.tmp 66)),
 Zo 68 8,
 Zs 69 (.iaA 16 1 (.tmp 5) (.tmp 68)),
 Zs 70 (.ld (.int .u32) (.tmp 69)),
 Zs 71 (.bin .add (.tmp 67) (.tmp 70)),
 Zo 9 71])
 (.seq (.draw 19 [Zs 72 (.iaA 8 1 (.tmp 6) (Zi 0)),
 Zs 73 (.ld (.int .u32) (.tmp 72)),
 Zs 74 (.call 125 [(.tmp 73), (Zi 2), (Zi 13), (Zi 22), (.const (.bool false))]),
 Zs 75 (.iaA 8 1 (.tmp 6) (Zi 0)),
 Zs 76 (.ld (.int .u32) (.tmp 75)),
 Zs 77 (.iaA 8 1 (.tmp 6) (Zi 1)),
 Zs 78 (.ld (.int .u32) (.tmp 77)),
 Zs 79 (.bin .and (.tmp 76) (.tmp 78)),
 Zs 80 (.iaA 8 1 (.tmp 6) (Zi 2)),
 Zs 81 (.ld (.int .u32) (.tmp 80)),
 Zs 82 (.iaA 8 1 (.tmp 6) (Zi 0)),
 Zs 83 (.ld (.int .u32) (.tmp 82)),
 Zs 84 (.iaA 8 1 (.tmp 6) (Zi 1)),
 Zs 85 (.ld (.int .u32) (.tmp 84)),
 Zs 86 (.bin .or (.tmp 83) (.tmp 85)),
 Zs 87 (.bin .and (.tmp 81) (.tmp 86)),
 Zs 88 (.bin .or (.tmp 79) (.tmp 87)),
 Zs 89 (.bin .add (.tmp 74) (.tmp 88)),
 Zo 10 89])
 (.ops [Zo 90 9,
 Zo 91 10,
 Zs 92 (.bin .add (.tmp 90) (.tmp 91)),
 Zs 93 (.iaA 8 1 (.tmp 6) (Zi 0)),
 Zs 94 (.ld (.int .u32) (.tmp 93)),
 Zs 95 (.iaA 8 1 (.tmp 6) (Zi 1)),
 Zs 96 (.ld (.int .u32) (.tmp 95)),
 Zs 97 (.iaA 8 1 (.tmp 6) (Zi 2)),
 Zs 98 (.ld (.int .u32) (.tmp 97)),
 Zs 99 (.iaA 8 1 (.tmp 6) (Zi 3)),
 Zs 100 (.ld (.int .u32) (.tmp 99)),
 Zo 101 9,
 Zs 102 (.bin .add (.tmp 100) (.tmp 101)),
 Zs 103 (.iaA 8 1 (.tmp 6) (Zi 4)),
 Zs 104 (.ld (.int .u32) (.tmp 103)),
 Zs 105 (.iaA 8 1 (.tmp 6) (Zi 5)),
 Zs 106 (.ld (.int .u32) (.tmp 105)),
 Zs 107 (.iaA 8 1 (.tmp 6) (Zi 6)),
 Zs 108 (.ld (.int .u32) (.tmp 107)),
 Zs 109 (.bld (Array.replicate 8 (.int .u32 0)) [(0, 1), (1, 1), (2, 1), (3, 1), (4, 1), (5, 1), (6, 1), (7, 1)] [(0, (.tmp 92)), (1, (.tmp 94)), (2, (.tmp 96)), (3, (.tmp 98)), (4, (.tmp 102)), (5, (.tmp 104)), (6, (.tmp 106)), (7, (.tmp 108))]),
 ⟨none, none, .st 8 (.tmp 6) (.tmp 109)⟩])))))))
 (.ops [Zs 110 (.bin .add (.tmp 15) (Zi 1)),
 Zo 15 110])))))))
 (.seq (.seq (.ops [Zs 111 (.mv (Zi 0))])
 (.block 2
 (.loop
 (.seq (.ops [Zs 112 (.bin .lss (.tmp 111) (Zi 8))])
 (.seq (.cond (.tmp 112)
 .skip
 (.exit 2))
 (.seq (.block 3
 (.seq (.ops [Zo 113 111,
 Zo 11 113])
 (.draw 8 [Zo 114 11,
 Zs 115 (.iaA 8 1 (.tmp 6) (.tmp 114)),
 Zs 116 (.ld (.int .u32) (.tmp 115)),
 Zo 117 11,
 Zs 118 (.iaA 8 1 (.tmp 2) (.tmp 117)),
 Zs 119 (.ld (.int .u32) (.tmp 118)),
 Zs 120 (.bin .add (.tmp 116) (.tmp 119)),
 Zs 121 (.iaA 8 1 (.tmp 6) (.tmp 114)),
 ⟨none, none, .st 1 (.tmp 121) (.tmp 120)⟩])))
 (.ops [Zs 122 (.bin .add (.tmp 111) (Zi 1)),
 Zo 111 122])))))))
 (.seq (.ops [Zs 123 (.ld (.agg 8) (.tmp 6)),
 ⟨none, none, .st 8 (.tmp 4) (.tmp 123)⟩])
 .ret))))))⟩
theorem h118 : strF Tryz.prog [] Tryz.f118 = some c118 := by kernel_rfl
/-- chirograph/digest.wide -/
def c119 : Fun := ⟨141, [.inr ((.agg 8), 4)],
 (.seq (.ops [Zs 2 (.box 61 (.tmp 0)),
 Zs 4 (.alloc 61 (.agg (Array.replicate 8 (.int .u64 0))))])
 (.seq (.ops [Zs 5 (.alloc 169 (.agg (Array.replicate 16 (.int .u64 0))))])
 (.seq (.seq (.ops [Zs 13 (.mv (Zi 0))])
 (.block 0
 (.loop
 (.seq (.ops [Zs 14 (.bin .lss (.tmp 13) (Zi 128))])
 (.seq (.cond (.tmp 14)
 .skip
 (.exit 0))
 (.seq (.block 1
 (.seq (.ops [Zo 15 13,
 Zo 6 15])
 (.draw 14 [Zo 16 6,
 Zs 17 (.bin .quo (.tmp 16) (Zi 8)),
 Zo 18 6,
 Zs 19 (.bin .quo (.tmp 18) (Zi 8)),
 Zs 20 (.iaA 16 1 (.tmp 5) (.tmp 19)),
 Zs 21 (.ld (.int .u64) (.tmp 20)),
 Zs 22 (.bin .shl (.tmp 21) (.const (.int .u64 8))),
 Zo 23 1,
 Zo 24 6,
 Zs 25 (.ia 1 (.tmp 23) (.tmp 24)),
 Zs 26 (.ld (.int .u8) (.tmp 25)),
 Zs 27 (.cv .u64 (.tmp 26)),
 Zs 28 (.bin .or (.tmp 22) (.tmp 27)),
 Zs 29 (.iaA 16 1 (.tmp 5) (.tmp 17)),
 ⟨none, none, .st 1 (.tmp 29) (.tmp 28)⟩])))
 (.ops [Zs 30 (.bin .add (.tmp 13) (Zi 1)),
 Zo 13 30])))))))
 (.seq (.ops [Zs 31 (.ld (.agg 8) (.tmp 2)),
 Zs 7 (.alloc 61 (.agg (Array.replicate 8 (.int .u64 0)))),
 ⟨none, none, .st 8 (.tmp 7) (.tmp 31)⟩])
 (.seq (.seq (.ops [Zs 32 (.mv (Zi 0))])
 (.block 2
 (.loop
 (.seq (.ops [Zs 33 (.bin .lss (.tmp 32) (Zi 80))])
 (.seq (.cond (.tmp 33)
 .skip
 (.exit 2))
 (.seq (.block 3
 (.seq (.ops [Zo 34 32,
 Zo 8 34])
 (.seq (.ops [Zo 35 8,
 Zs 36 (.bin .rem (.tmp 35) (Zi 16)),
 Zo 9 36])
 (.join (.seq (.ops [Zo 37 8,
 Zs 38 (.bin .geq (.tmp 37) (Zi 16))])
 (.cond (.tmp 38)
 (.draw 24 [Zo 39 9,
 Zs 40 (.iaA 16 1 (.tmp 5) (.tmp 39)),
 Zs 41 (.ld (.int .u64) (.tmp 40)),
 Zo 42 9,
 Zs 43 (.bin .add (.tmp 42) (Zi 14)),
 Zs 44 (.bin .rem (.tmp 43) (Zi 16)),
 Zs 45 (.iaA 16 1 (.tmp 5) (.tmp 44)),
 Zs 46 (.ld (.int .u64) (.tmp 45)),
 Zs 47 (.call 126 [(.tmp 46), (Zi 19), (Zi 61), (Zi 6), (.const (.bool true))]),
 Zo 48 9,
 Zs 49 (.bin .add (.tmp 48) (Zi 9)),
 Zs 50 (.bin .rem (.tmp 49) (Zi 16)),
 Zs 51 (.iaA 16 1 (.tmp 5) (.tmp 50)),
 Zs 52 (.ld (.int .u64) (.tmp 51)),
 Zs 53 (.bin .add (.tmp 47) (.tmp 52)),
 Zo 54 9,
 Zs 55 (.bin .add (.tmp 54) (Zi 1)),
 Zs 56 (.bin .rem (.tmp 55) (Zi 16)),
 Zs 57 (.iaA 16 1 (.tmp 5) (.tmp 56)),
 Zs 58 (.ld (.int .u64) (.tmp 57)),
 Zs 59 (.call 126 [(.tmp 58), (Zi 1), (Zi 8), (Zi 7), (.const (.bool true))]),
 Zs 60 (.bin .add (.tmp 53) (.tmp 59)),
 Zs 61 (.bin .add (.tmp 41) (.tmp 60)),
 Zs 62 (.iaA 16 1 (.tmp 5) (.tmp 39)),
 ⟨none, none, .st 1 (.tmp 62) (.tmp 61)⟩])
 .skip))
 (.seq (.draw 27 [Zs 63 (.iaA 8 1 (.tmp 7) (Zi 7)),
 Zs 64 (.ld (.int .u64) (.tmp 63)),
 Zs 65 (.iaA 8 1 (.tmp 7) (Zi 4)),
 Zs 66 (.ld (.int .u64) (.tmp 65)),
 Zs 67 (.call 126 [(.tmp 66), (Zi 14), (Zi 18), (Zi 41), (.const (.bool false))]),
 Zs 68 (.bin .add (.tmp 64) (.tmp 67)),
 Zs 69 (.iaA 8 1 (.tmp 7) (Zi 6)),
 Zs 70 (.ld (.int .u64) (.tmp 69)),
 Zs 71 (.iaA 8 1 (.tmp 7) (Zi 4)),
 Zs 72 (.ld (.int .u64) (.tmp 71)),
 Zs 73 (.iaA 8 1 (.tmp 7) (Zi 5)),
 Zs 74 (.ld (.int .u64) (.tmp 73)),
 Zs 75 (.iaA 8 1 (.tmp 7) (Zi 6)),
 Zs 76 (.ld (.int .u64) (.tmp 75)),
 Zs 77 (.bin .xor (.tmp 74) (.tmp 76)),
 Zs 78 (.bin .and (.tmp 72) (.tmp 77)),
 Zs 79 (.bin .xor (.tmp 70) (.tmp 78)),
 Zs 80 (.bin .add (.tmp 68) (.tmp 79)),
 Zo 81 8,
 Zs 82 (.iaA 80 1 (.global 4) (.tmp 81)),
 Zs 83 (.ld (.int .u64) (.tmp 82)),
 Zs 84 (.bin .add (.tmp 80) (.tmp 83)),
 Zo 85 9,
 Zs 86 (.iaA 16 1 (.tmp 5) (.tmp 85)),
 Zs 87 (.ld (.int .u64) (.tmp 86)),
 Zs 88 (.bin .add (.tmp 84) (.tmp 87)),
 Zo 10 88])
 (.seq (.draw 19 [Zs 89 (.iaA 8 1 (.tmp 7) (Zi 0)),
 Zs 90 (.ld (.int .u64) (.tmp 89)),
 Zs 91 (.call 126 [(.tmp 90), (Zi 28), (Zi 34), (Zi 39), (.const (.bool false))]),
 Zs 92 (.iaA 8 1 (.tmp 7) (Zi 0)),
 Zs 93 (.ld (.int .u64) (.tmp 92)),
 Zs 94 (.iaA 8 1 (.tmp 7) (Zi 1)),
 Zs 95 (.ld (.int .u64) (.tmp 94)),
 Zs 96 (.bin .and (.tmp 93) (.tmp 95)),
 Zs 97 (.iaA 8 1 (.tmp 7) (Zi 2)),
 Zs 98 (.ld (.int .u64) (.tmp 97)),
 Zs 99 (.iaA 8 1 (.tmp 7) (Zi 0)),
 Zs 100 (.ld (.int .u64) (.tmp 99)),
 Zs 101 (.iaA 8 1 (.tmp 7) (Zi 1)),
 Zs 102 (.ld (.int .u64) (.tmp 101)),
 Zs 103 (.bin .or (.tmp 100) (.tmp 102)),
 Zs 104 (.bin .and (.tmp 98) (.tmp 103)),
 Zs 105 (.bin .or (.tmp 96) (.tmp 104)),
 Zs 106 (.bin .add (.tmp 91) (.tmp 105)),
 Zo 11 106])
 (.ops [Zo 107 10,
 Zo 108 11,
 Zs 109 (.bin .add (.tmp 107) (.tmp 108)),
 Zs 110 (.iaA 8 1 (.tmp 7) (Zi 0)),
 Zs 111 (.ld (.int .u64) (.tmp 110)),
 Zs 112 (.iaA 8 1 (.tmp 7) (Zi 1)),
 Zs 113 (.ld (.int .u64) (.tmp 112)),
 Zs 114 (.iaA 8 1 (.tmp 7) (Zi 2)),
 Zs 115 (.ld (.int .u64) (.tmp 114)),
 Zs 116 (.iaA 8 1 (.tmp 7) (Zi 3)),
 Zs 117 (.ld (.int .u64) (.tmp 116)),
 Zo 118 10,
 Zs 119 (.bin .add (.tmp 117) (.tmp 118)),
 Zs 120 (.iaA 8 1 (.tmp 7) (Zi 4)),
 Zs 121 (.ld (.int .u64) (.tmp 120)),
 Zs 122 (.iaA 8 1 (.tmp 7) (Zi 5)),
 Zs 123 (.ld (.int .u64) (.tmp 122)),
 Zs 124 (.iaA 8 1 (.tmp 7) (Zi 6)),
 Zs 125 (.ld (.int .u64) (.tmp 124)),
 Zs 126 (.bld (Array.replicate 8 (.int .u64 0)) [(0, 1), (1, 1), (2, 1), (3, 1), (4, 1), (5, 1), (6, 1), (7, 1)] [(0, (.tmp 109)), (1, (.tmp 111)), (2, (.tmp 113)), (3, (.tmp 115)), (4, (.tmp 119)), (5, (.tmp 121)), (6, (.tmp 123)), (7, (.tmp 125))]),
 ⟨none, none, .st 8 (.tmp 7) (.tmp 126)⟩])))))))
 (.ops [Zs 127 (.bin .add (.tmp 32) (Zi 1)),
 Zo 32 127])))))))
 (.seq (.seq (.ops [Zs 128 (.mv (Zi 0))])
 (.block 4
 (.loop
 (.seq (.ops [Zs 129 (.bin .lss (.tmp 128) (Zi 8))])
 (.seq (.cond (.tmp 129)
 .skip
 (.exit 4))
 (.seq (.block 5
 (.seq (.ops [Zo 130 128,
 Zo 12 130])
 (.draw 8 [Zo 131 12,
 Zs 132 (.iaA 8 1 (.tmp 7) (.tmp 131)),
 Zs 133 (.ld (.int .u64) (.tmp 132)),
 Zo 134 12,
 Zs 135 (.iaA 8 1 (.tmp 2) (.tmp 134)),
 Zs 136 (.ld (.int .u64) (.tmp 135)),
 Zs 137 (.bin .add (.tmp 133) (.tmp 136)),
 Zs 138 (.iaA 8 1 (.tmp 7) (.tmp 131)),
 ⟨none, none, .st 1 (.tmp 138) (.tmp 137)⟩])))
 (.ops [Zs 139 (.bin .add (.tmp 128) (Zi 1)),
 Zo 128 139])))))))
 (.seq (.ops [Zs 140 (.ld (.agg 8) (.tmp 7)),
 ⟨none, none, .st 8 (.tmp 4) (.tmp 140)⟩])
 .ret)))))))⟩
theorem h119 : strF Tryz.prog [] Tryz.f119 = some c119 := by kernel_rfl
/-- math/bits.Div32 -/
def c120 : Fun := ⟨33, [.inl 6, .inl 7],
 (.seq (.ops [Zs 6 (.mv (.const (.int .u32 0))),
 Zs 7 (.mv (.const (.int .u32 0)))])
 (.join (.seq (.ops [Zo 9 2,
 Zs 10 (.bin .neq (.tmp 9) (.const (.int .u32 0))),
 Zo 11 10,
 ⟨some 12, some (11, true), .mv (.tmp 2)⟩,
 ⟨some 13, some (11, true), .mv (.tmp 0)⟩,
 ⟨some 14, some (11, true), .bin .leq (.tmp 12) (.tmp 13)⟩,
 Zs 15 (.pick (.tmp 11) (.tmp 14) (.const (.bool false)))])
 (.cond (.tmp 15)
 (.ops [Zs 16 (.ld .other (.global 5)),
 ⟨none, none, .no⟩])
 .skip))
 (.seq (.ops [Zo 17 0,
 Zs 18 (.cv .u64 (.tmp 17)),
 Zs 19 (.bin .shl (.tmp 18) (.const (.int .u64 32))),
 Zo 20 1,
 Zs 21 (.cv .u64 (.tmp 20)),
 Zs 22 (.bin .or (.tmp 19) (.tmp 21)),
 Zo 8 22])
 (.seq (.draw 12 [Zo 23 8,
 Zo 24 2,
 Zs 25 (.cv .u64 (.tmp 24)),
 Zs 26 (.bin .quo (.tmp 23) (.tmp 25)),
 Zs 27 (.cv .u32 (.tmp 26)),
 Zo 28 8,
 Zo 29 2,
 Zs 30 (.cv .u64 (.tmp 29)),
 Zs 31 (.bin .rem (.tmp 28) (.tmp 30)),
 Zs 32 (.cv .u32 (.tmp 31)),
 Zo 6 27,
 Zo 7 32])
 .ret))))⟩
theorem h120 : strF Tryz.prog [] Tryz.f120 = some c120 := by kernel_rfl
/-- math/bits.Sub32 -/
def c121 : Fun := ⟨25, [.inl 6, .inl 7],
 (.seq (.ops [Zs 6 (.mv (.const (.int .u32 0))),
 Zs 7 (.mv (.const (.int .u32 0)))])
 (.seq (.ops [Zo 8 0,
 Zo 9 1,
 Zs 10 (.bin .sub (.tmp 8) (.tmp 9)),
 Zo 11 2,
 Zs 12 (.bin .sub (.tmp 10) (.tmp 11)),
 Zo 6 12])
 (.seq (.ops [Zo 13 0,
 Zs 14 (.un .xor (.tmp 13)),
 Zo 15 1,
 Zs 16 (.bin .and (.tmp 14) (.tmp 15)),
 Zo 17 0,
 Zo 18 1,
 Zs 19 (.bin .xor (.tmp 17) (.tmp 18)),
 Zs 20 (.un .xor (.tmp 19)),
 Zo 21 6,
 Zs 22 (.bin .and (.tmp 20) (.tmp 21)),
 Zs 23 (.bin .or (.tmp 16) (.tmp 22)),
 Zs 24 (.bin .shr (.tmp 23) (.const (.int .u64 31))),
 Zo 7 24])
 .ret)))⟩
theorem h121 : strF Tryz.prog [] Tryz.f121 = some c121 := by kernel_rfl
/-- math/bits.Add32 -/
def c122 : Fun := ⟨22, [.inl 6, .inl 7],
 (.seq (.ops [Zs 6 (.mv (.const (.int .u32 0))),
 Zs 7 (.mv (.const (.int .u32 0)))])
 (.seq (.ops [Zo 9 0,
 Zs 10 (.cv .u64 (.tmp 9)),
 Zo 11 1,
 Zs 12 (.cv .u64 (.tmp 11)),
 Zs 13 (.bin .add (.tmp 10) (.tmp 12)),
 Zo 14 2,
 Zs 15 (.cv .u64 (.tmp 14)),
 Zs 16 (.bin .add (.tmp 13) (.tmp 15)),
 Zo 8 16])
 (.seq (.ops [Zo 17 8,
 Zs 18 (.cv .u32 (.tmp 17)),
 Zo 6 18])
 (.seq (.ops [Zo 19 8,
 Zs 20 (.bin .shr (.tmp 19) (.const (.int .u64 32))),
 Zs 21 (.cv .u32 (.tmp 20)),
 Zo 7 21])
 .ret))))⟩
theorem h122 : strF Tryz.prog [] Tryz.f122 = some c122 := by kernel_rfl
/-- chirograph/digest.words -/
def c123 : Fun := ⟨44, [.inr ((.agg 16), 2)],
 (.seq (.ops [Zs 2 (.alloc 166 (.agg (Array.replicate 16 (.int .u32 0))))])
 (.seq (.seq (.ops [Zs 4 (.mv (Zi 0))])
 (.block 0
 (.loop
 (.seq (.ops [Zs 5 (.bin .lss (.tmp 4) (Zi 16))])
 (.seq (.cond (.tmp 5)
 .skip
 (.exit 0))
 (.seq (.block 1
 (.seq (.ops [Zo 6 4,
 Zo 3 6])
 (.draw 35 [Zo 7 3,
 Zo 8 0,
 Zo 9 3,
 Zs 10 (.bin .mul (Zi 4) (.tmp 9)),
 Zs 11 (.ia 1 (.tmp 8) (.tmp 10)),
 Zs 12 (.ld (.int .u8) (.tmp 11)),
 Zs 13 (.cv .u32 (.tmp 12)),
 Zs 14 (.bin .shl (.tmp 13) (.const (.int .u64 24))),
 Zo 15 0,
 Zo 16 3,
 Zs 17 (.bin .mul (Zi 4) (.tmp 16)),
 Zs 18 (.bin .add (.tmp 17) (Zi 1)),
 Zs 19 (.ia 1 (.tmp 15) (.tmp 18)),
 Zs 20 (.ld (.int .u8) (.tmp 19)),
 Zs 21 (.cv .u32 (.tmp 20)),
 Zs 22 (.bin .shl (.tmp 21) (.const (.int .u64 16))),
 Zs 23 (.bin .or (.tmp 14) (.tmp 22)),
 Zo 24 0,
 Zo 25 3,
 Zs 26 (.bin .mul (Zi 4) (.tmp 25)),
 Zs 27 (.bin .add (.tmp 26) (Zi 2)),
 Zs 28 (.ia 1 (.tmp 24) (.tmp 27)),
 Zs 29 (.ld (.int .u8) (.tmp 28)),
 Zs 30 (.cv .u32 (.tmp 29)),
 Zs 31 (.bin .shl (.tmp 30) (.const (.int .u64 8))),
 Zs 32 (.bin .or (.tmp 23) (.tmp 31)),
 Zo 33 0,
 Zo 34 3,
 Zs 35 (.bin .mul (Zi 4) (.tmp 34)),
 Zs 36 (.bin .add (.tmp 35) (Zi 3)),
 Zs 37 (.ia 1 (.tmp 33) (.tmp 36)),
 Zs 38 (.ld (.int .u8) (.tmp 37)),
 Zs 39 (.cv .u32 (.tmp 38)),
 Zs 40 (.bin .or (.tmp 32) (.tmp 39)),
 Zs 41 (.iaA 16 1 (.tmp 2) (.tmp 7)),
 ⟨none, none, .st 1 (.tmp 41) (.tmp 40)⟩])))
 (.ops [Zs 42 (.bin .add (.tmp 4) (Zi 1)),
 Zo 4 42])))))))
 (.seq (.ops [Zs 43 (.ld (.agg 16) (.tmp 2)),
 ⟨none, none, .st 16 (.tmp 2) (.tmp 43)⟩])
 .ret)))⟩
theorem h123 : strF Tryz.prog [] Tryz.f123 = some c123 := by kernel_rfl
/-- math/bits.RotateLeft32 -/
def c124 : Fun := ⟨17, [.inl 4],
 (.seq (.ops [Zs 4 (.mv (.const (.int .u32 0)))])
 (.seq (.ops [Zo 6 1,
 Zs 7 (.cv .u64 (.tmp 6)),
 Zs 8 (.bin .and (.tmp 7) (.const (.int .u64 31))),
 Zo 5 8])
 (.seq (.ops [Zo 9 0,
 Zo 10 5,
 Zs 11 (.bin .shl (.tmp 9) (.tmp 10)),
 Zo 12 0,
 Zo 13 5,
 Zs 14 (.bin .sub (.const (.int .u64 32)) (.tmp 13)),
 Zs 15 (.bin .shr (.tmp 12) (.tmp 14)),
 Zs 16 (.bin .or (.tmp 11) (.tmp 15)),
 Zo 4 16])
 .ret)))⟩
theorem h124 : strF Tryz.prog [] Tryz.f124 = some c124 := by kernel_rfl
/-- chirograph/digest.turns -/
def c125 : Fun := ⟨31, [.inl 10],
 (.seq (.ops [Zs 10 (.mv (.const (.int .u32 0)))])
 (.seq (.ops [Zo 12 0,
 Zo 13 3,
 Zs 14 (.un .neg (.tmp 13)),
 Zs 15 (.call 124 [(.tmp 12), (.tmp 14)]),
 Zo 11 15])
 (.join (.seq (.ops [Zo 16 4])
 (.cond (.tmp 16)
 (.ops [Zo 17 0,
 Zo 18 3,
 Zs 19 (.bin .shr (.tmp 17) (.tmp 18)),
 Zo 11 19])
 .skip))
 (.seq (.ops [Zo 20 0,
 Zo 21 1,
 Zs 22 (.un .neg (.tmp 21)),
 Zs 23 (.call 124 [(.tmp 20), (.tmp 22)]),
 Zo 24 0,
 Zo 25 2,
 Zs 26 (.un .neg (.tmp 25)),
 Zs 27 (.call 124 [(.tmp 24), (.tmp 26)]),
 Zs 28 (.bin .xor (.tmp 23) (.tmp 27)),
 Zo 29 11,
 Zs 30 (.bin .xor (.tmp 28) (.tmp 29)),
 Zo 10 30])
 .ret))))⟩
theorem h125 : strF Tryz.prog [] Tryz.f125 = some c125 := by kernel_rfl
/-- chirograph/digest.wturns -/
def c126 : Fun := ⟨31, [.inl 10],
 (.seq (.ops [Zs 10 (.mv (.const (.int .u64 0)))])
 (.seq (.ops [Zo 12 0,
 Zo 13 3,
 Zs 14 (.un .neg (.tmp 13)),
 Zs 15 (.call 127 [(.tmp 12), (.tmp 14)]),
 Zo 11 15])
 (.join (.seq (.ops [Zo 16 4])
 (.cond (.tmp 16)
 (.ops [Zo 17 0,
 Zo 18 3,
 Zs 19 (.bin .shr (.tmp 17) (.tmp 18)),
 Zo 11 19])
 .skip))
 (.seq (.ops [Zo 20 0,
 Zo 21 1,
 Zs 22 (.un .neg (.tmp 21)),
 Zs 23 (.call 127 [(.tmp 20), (.tmp 22)]),
 Zo 24 0,
 Zo 25 2,
 Zs 26 (.un .neg (.tmp 25)),
 Zs 27 (.call 127 [(.tmp 24), (.tmp 26)]),
 Zs 28 (.bin .xor (.tmp 23) (.tmp 27)),
 Zo 29 11,
 Zs 30 (.bin .xor (.tmp 28) (.tmp 29)),
 Zo 10 30])
 .ret))))⟩
theorem h126 : strF Tryz.prog [] Tryz.f126 = some c126 := by kernel_rfl
/-- math/bits.RotateLeft64 -/
def c127 : Fun := ⟨17, [.inl 4],
 (.seq (.ops [Zs 4 (.mv (.const (.int .u64 0)))])
 (.seq (.ops [Zo 6 1,
 Zs 7 (.cv .u64 (.tmp 6)),
 Zs 8 (.bin .and (.tmp 7) (.const (.int .u64 63))),
 Zo 5 8])
 (.seq (.ops [Zo 9 0,
 Zo 10 5,
 Zs 11 (.bin .shl (.tmp 9) (.tmp 10)),
 Zo 12 0,
 Zo 13 5,
 Zs 14 (.bin .sub (.const (.int .u64 64)) (.tmp 13)),
 Zs 15 (.bin .shr (.tmp 12) (.tmp 14)),
 Zs 16 (.bin .or (.tmp 11) (.tmp 15)),
 Zo 4 16])
 .ret)))⟩
theorem h127 : strF Tryz.prog [] Tryz.f127 = some c127 := by kernel_rfl
/-- chirograph/chirographlaw08.RsaVerifies -/
def c3 : Fun := ⟨61, [.inl 8],
 (.seq (.ops [Zs 4 (.box 24 (.tmp 0)),
 Zs 8 (.mv (.const (.bool false)))])
 (.seq (.seq (.ops [Zs 11 (.fa 0 (.tmp 4)),
 Zs 12 (.ld .slice (.tmp 11)),
 Zs 13 (.len (.tmp 12)),
 Zs 14 (.bin .gtr (.tmp 13) (Zi 64)),
 Zo 15 14,
 ⟨some 16, some (15, false), .fa 1 (.tmp 4)⟩,
 ⟨some 17, some (15, false), .ld .slice (.tmp 16)⟩,
 ⟨some 18, some (15, false), .len (.tmp 17)⟩,
 ⟨some 19, some (15, false), .bin .gtr (.tmp 18) (Zi 600)⟩,
 Zs 20 (.pick (.tmp 15) (.const (.bool true)) (.tmp 19)),
 Zo 21 20,
 ⟨some 22, some (21, false), .mv (.tmp 2)⟩,
 ⟨some 23, some (21, false), .len (.tmp 22)⟩,
 ⟨some 24, some (21, false), .bin .gtr (.tmp 23) (Zi 8192)⟩,
 Zs 25 (.pick (.tmp 21) (.const (.bool true)) (.tmp 24)),
 Zo 26 25,
 ⟨some 27, some (26, false), .mv (.tmp 3)⟩,
 ⟨some 28, some (26, false), .len (.tmp 27)⟩,
 ⟨some 29, some (26, false), .bin .gtr (.tmp 28) (Zi 8192)⟩,
 Zs 30 (.pick (.tmp 26) (.const (.bool true)) (.tmp 29))])
 (.cond (.tmp 30)
 (.seq (.ops [Zs 31 (.call 8 []),
 Zo 8 31])
 .ret)
 .skip))
 (.seq (.ops [Zo 32 2,
 Zs 33 (.call 9 [(.tmp 32)]),
 Zo 34 3,
 Zs 35 (.call 9 [(.tmp 34)]),
 Zo 9 33,
 Zo 10 35])
 (.seq (.drawT (.st 0 1 (.st 0 2 (.st 0 3 (.st 0 7 (.st 0 8 (.st 0 9 (.st 1 0 (.st 3 6 (.cov (.one 4 (.cov (.one 5 (.cov (.one 10 (.st 0 11 (.st 0 12 (.st 0 13 (.st 0 14 (.cov (.one 15 (.st 0 16 (.st 0 17 (.st 0 18 (.st 0 19 (.cov (.one 20 (.st 0 21 (.st 0 22 (.cov (.one 23 (.st 0 24 (.st 0 25 .nil))))))))))))))))))))))))))))))))
 [Zs 36 (.ld (.agg 2) (.tmp 4)),
 Zo 37 1,
 Zo 38 9,
 Zo 39 10,
 Zs 40 (.call 11 [(.tmp 36), (.tmp 37), (.tmp 38), (.tmp 39)]),
 Zs 41 (.call 10 [(.tmp 40)]),
 Zs 42 (.ld (.agg 2) (.tmp 4)),
 Zo 43 1,
 Zo 44 2,
 Zo 45 3,
 Zs 46 (.call 12 [(.tmp 42), (.tmp 43), (.tmp 44), (.tmp 45)]),
 Zs 47 (.bin .eql (.tmp 41) (.tmp 46)),
 Zo 48 47,
 ⟨some 49, some (48, true), .mv (.tmp 9)⟩,
 ⟨some 50, some (48, true), .mv (.tmp 2)⟩,
 ⟨some 51, some (48, true), .call 13 [(.tmp 49), (.tmp 50)]⟩,
 Zs 52 (.pick (.tmp 48) (.tmp 51) (.const (.bool false))),
 Zo 53 52,
 ⟨some 54, some (53, true), .mv (.tmp 10)⟩,
 ⟨some 55, some (53, true), .mv (.tmp 3)⟩,
 ⟨some 56, some (53, true), .call 13 [(.tmp 54), (.tmp 55)]⟩,
 Zs 57 (.pick (.tmp 53) (.tmp 56) (.const (.bool false))),
 Zo 58 57,
 ⟨some 59, some (58, true), .call 8 []⟩,
 Zs 60 (.pick (.tmp 58) (.tmp 59) (.const (.bool false))),
 Zo 8 60])
 .ret))))⟩
theorem h3 : strF Tryz.prog [(4, .inr (.st 0 1 (.st 0 2 (.st 0 3 (.st 0 7 (.st 0 8 (.st 0 9 (.st 1 0 (.st 3 6 (.cov (.one 4 (.cov (.one 5 (.cov (.one 10 (.st 0 11 (.st 0 12 (.st 0 13 (.st 0 14 (.cov (.one 15 (.st 0 16 (.st 0 17 (.st 0 18 (.st 0 19 (.cov (.one 20 (.st 0 21 (.st 0 22 (.cov (.one 23 (.st 0 24 (.st 0 25 .nil)))))))))))))))))))))))))))))))))] Tryz.f3 = some c3 := by kernel_rfl
/-- chirograph/chirographlaw08.live -/
def c8 : Fun := ⟨69, [.inl 0],
 (.seq (.ops [Zs 0 (.mv (.const (.bool false)))])
 (.seq (.ops [Zs 8 (.bsl 5 1 3 #[(.int .u8 0)] [(0, (.const (.int .u8 102))), (1, (.const (.int .u8 111))), (2, (.const (.int .u8 111)))]),
 Zs 9 (.cvid (.tmp 8)),
 Zs 10 (.call 22 [(Zi 1), (.tmp 9), (Zi 3)]),
 Zo 7 10,
 Zs 11 (.ext (.tmp 7) 0),
 Zs 12 (.ext (.tmp 7) 1),
 Zo 1 11,
 Zo 2 12])
 (.seq (.ops [Zs 14 (.mks 5 1 1 #[(.int .u8 0)] (Zi 20) (Zi 20)),
 Zs 15 (.call 23 [(Zi 1), (.tmp 14), (Zi 46)]),
 Zo 13 15,
 Zs 16 (.ext (.tmp 13) 0),
 Zs 17 (.ext (.tmp 13) 1),
 Zo 3 16,
 Zo 4 17])
 (.seq (.ops [Zs 19 (.call 15 [(Zi 0)]),
 Zo 18 19,
 Zs 20 (.ext (.tmp 18) 0),
 Zs 21 (.ext (.tmp 18) 1),
 Zs 5 (.alloc 24 (.agg #[(.slice none 0 0), (.slice none 0 0)])),
 ⟨none, none, .st 2 (.tmp 5) (.tmp 20)⟩,
 Zo 6 21])
 (.seq (.ops [Zo 22 2,
 Zs 23 (.call 10 [(.tmp 22)]),
 Zo 24 4,
 Zs 25 (.call 10 [(.tmp 24)]),
 Zs 26 (.bin .add (.tmp 23) (.tmp 25)),
 Zs 27 (.bin .eql (.tmp 26) (Zi 0)),
 Zo 28 27,
 ⟨some 29, some (28, true), .mv (.tmp 1)⟩,
 ⟨some 30, some (28, true), .cvbs (.tmp 29)⟩,
 ⟨some 31, some (28, true), .bin .eql (.tmp 30) (.const (.string ⟨#[26, 201, 7]⟩))⟩,
 Zs 32 (.pick (.tmp 28) (.tmp 31) (.const (.bool false))),
 Zo 33 32,
 ⟨some 34, some (33, true), .mv (.tmp 3)⟩,
 ⟨some 35, some (33, true), .len (.tmp 34)⟩,
 ⟨some 36, some (33, true), .bin .eql (.tmp 35) (Zi 46)⟩,
 Zs 37 (.pick (.tmp 33) (.tmp 36) (.const (.bool false))),
 Zo 38 37,
 ⟨some 39, some (38, true), .mv (.tmp 3)⟩,
 ⟨some 40, some (38, true), .ia 1 (.tmp 39) (Zi 1)⟩,
 ⟨some 41, some (38, true), .ld (.int .u8) (.tmp 40)⟩,
 ⟨some 42, some (38, true), .bin .eql (.tmp 41) (.const (.int .u8 1))⟩,
 Zs 43 (.pick (.tmp 38) (.tmp 42) (.const (.bool false))),
 Zo 44 43,
 ⟨some 45, some (44, true), .mv (.tmp 3)⟩,
 ⟨some 46, some (44, true), .ia 1 (.tmp 45) (Zi 10)⟩,
 ⟨some 47, some (44, true), .ld (.int .u8) (.tmp 46)⟩,
 ⟨some 48, some (44, true), .bin .eql (.tmp 47) (.const (.int .u8 0))⟩,
 Zs 49 (.pick (.tmp 44) (.tmp 48) (.const (.bool false))),
 Zo 50 49,
 ⟨some 51, some (50, true), .mv (.tmp 3)⟩,
 ⟨some 52, some (50, true), .ia 1 (.tmp 51) (Zi 11)⟩,
 ⟨some 53, some (50, true), .ld (.int .u8) (.tmp 52)⟩,
 ⟨some 54, some (50, true), .bin .eql (.tmp 53) (.const (.int .u8 48))⟩,
 Zs 55 (.pick (.tmp 50) (.tmp 54) (.const (.bool false))),
 Zo 56 55,
 ⟨some 57, some (56, true), .bsl 50 1 1 #[(.int .u32 0)] [(0, (.const (.int .u32 15)))]⟩,
 ⟨some 58, some (56, true), .bsl 50 1 1 #[(.int .u32 0)] [(0, (.const (.int .u32 3)))]⟩,
 ⟨some 59, some (56, true), .bld #[(.slice none 0 0), (.slice none 0 0)] [(0, 1), (1, 1)] [(0, (.tmp 57)), (1, (.tmp 58))]⟩,
 ⟨some 60, some (56, true), .call 24 [(.tmp 59)]⟩,
 ⟨some 61, some (56, true), .call 10 [(.tmp 60)]⟩,
 ⟨some 62, some (56, true), .bin .eql (.tmp 61) (Zi 80)⟩,
 Zs 63 (.pick (.tmp 56) (.tmp 62) (.const (.bool false))),
 Zo 64 63,
 ⟨some 65, some (64, true), .ld (.agg 2) (.tmp 5)⟩,
 ⟨some 66, some (64, true), .call 25 [(.tmp 65)]⟩,
 ⟨some 67, some (64, true), .bin .eql (.tmp 66) (Zi 64)⟩,
 Zs 68 (.pick (.tmp 64) (.tmp 67) (.const (.bool false))),
 Zo 0 68])
 .ret)))))⟩
theorem h8 : strF Tryz.prog [] Tryz.f8 = some c8 := by kernel_rfl
/-- chirograph/chirographlaw08.num -/
def c10 : Fun := ⟨4, [.inl 2],
 (.seq (.ops [Zs 2 (.mv (Zi 0))])
 (.seq (.ops [Zo 3 0,
 Zo 2 3])
 .ret))⟩
theorem h10 : strF Tryz.prog [] Tryz.f10 = some c10 := by kernel_rfl
end Go.Proofs.YtcgplgpdcfocpaaGreatDoor.Code
