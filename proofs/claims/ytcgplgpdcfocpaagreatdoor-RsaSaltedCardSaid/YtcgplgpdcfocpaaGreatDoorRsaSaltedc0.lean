/- The functions as the engine has them: by program, out of the translation. -/
import Derived.Test.YtcgplgpdcfocpaaGreatDoorRsaSaltede1
import Derived.Test.YtcgplgpdcfocpaaGreatDoorProg
set_option maxRecDepth 100000
namespace Go.Proofs.YtcgplgpdcfocpaaGreatDoor.Code
open Go Go.Proofs Go.Proofs.YtcgplgpdcfocpaaGreatDoor.Eng
@[reducible] def Zh (d : Nat) (k : IntKind) (a : Nat) : O := ⟨some d, none, .ld (.int k) (.tmp a)⟩
@[reducible] def Zr (d a : Nat) : O := ⟨some d, none, .len (.tmp a)⟩
@[reducible] def Zt (d s a b : Nat) : O := ⟨some d, none, .ia s (.tmp a) (.tmp b)⟩
@[reducible] def Zs (d : Nat) (i : I) : O := ⟨some d, none, i⟩
@[reducible] def Zo (d s : Nat) : O := ⟨some d, none, .mv (.tmp s)⟩
@[reducible] def Zi (n : Int) : Operand := .const (.int .i64 n)
@[reducible] def Zy (d : Nat) (o : BinOp) (a b : Nat) : O := ⟨some d, none, .bin o (.tmp a) (.tmp b)⟩
@[reducible] def Zw (d : Nat) (o : BinOp) (a : Nat) (n : Int) : O := ⟨some d, none, .bin o (.tmp a) (.const (.int .i64 n))⟩
def c14 : Fun := ⟨13,[.inl 2],
 (.seq (.ops [Zs 2 (.mv (Zi 0))])
 (.seq (.seq (.ops [Zo 3 0,
 Zw 4 .lss 3 1,
 Zo 5 4,
 ⟨some 6,some (5,false),.mv (.tmp 0)⟩,
 ⟨some 7,some (5,false),.bin .gtr (.tmp 6) (Zi 4)⟩,
 Zs 8 (.pick (.tmp 5) (.const (.bool true)) (.tmp 7))])
 (.cond (.tmp 8)
 (.seq (.ops [Zs 2 (.mv (Zi 0))])
 .ret)
 .skip))
 (.seq (.ops [Zs 9 (.bld (Array.replicate 4 (.int .i64 0)) [(0,1),(1,1),(2,1),(3,1)] [(0,(Zi 20)),(1,(Zi 32)),(2,(Zi 48)),(3,(Zi 64))]),
 Zo 10 0,
 Zw 11 .sub 10 1,
 Zs 12 (.ixa 4 (.tmp 9) (.tmp 11)),
 Zo 2 12])
 .ret)))⟩
theorem h14 : strF Tryz.prog [] Tryz.f14 = some c14 := by kernel_rfl
def c15 : Fun := ⟨21,[.inr ((.agg 2),2),.inl 3],
 (.seq (.ops [Zs 2 (.alloc 24 (.agg #[(.slice none 0 0),(.slice none 0 0)])),
 Zs 3 (.mv (.const (.slice none 0 0)))])
 (.seq (.seq (.ops [Zo 4 0])
 (.block 0
 (.seq (.ops [Zw 6 .eql 4 0,
 Zo 5 6])
 (.cond (.tmp 5)
 (.seq (.ops [Zs 7 (.bsl 50 1 16 #[(.int .u32 0)] [(0,(.const (.int .u32 1295419795))),(1,(.const (.int .u32 3173228247))),(2,(.const (.int .u32 2137395180))),(3,(.const (.int .u32 1548933856))),(4,(.const (.int .u32 3106420408))),(5,(.const (.int .u32 3948765562))),(6,(.const (.int .u32 1049120400))),(7,(.const (.int .u32 779370009))),(8,(.const (.int .u32 4082781268))),(9,(.const (.int .u32 1057109357))),(10,(.const (.int .u32 1184194943))),(11,(.const (.int .u32 1393408190))),(12,(.const (.int .u32 1811714008))),(13,(.const (.int .u32 4142931574))),(14,(.const (.int .u32 3115507167))),(15,(.const (.int .u32 2773311948)))]),
 Zs 8 (.bsl 50 1 1 #[(.int .u32 0)] [(0,(.const (.int .u32 3)))]),
 Zs 9 (.bld #[(.slice none 0 0),(.slice none 0 0)] [(0,1),(1,1)] [(0,(.tmp 7)),(1,(.tmp 8))]),
 Zs 10 (.bsl 50 1 16 #[(.int .u32 0)] [(0,(.const (.int .u32 4047561943))),(1,(.const (.int .u32 3660979146))),(2,(.const (.int .u32 4003215933))),(3,(.const (.int .u32 1116455983))),(4,(.const (.int .u32 1700758801))),(5,(.const (.int .u32 463339884))),(6,(.const (.int .u32 276911730))),(7,(.const (.int .u32 3273242993))),(8,(.const (.int .u32 4259602957))),(9,(.const (.int .u32 2323668540))),(10,(.const (.int .u32 3060677354))),(11,(.const (.int .u32 1663890463))),(12,(.const (.int .u32 3165263865))),(13,(.const (.int .u32 2837972243))),(14,(.const (.int .u32 519251194))),(15,(.const (.int .u32 462218658)))]),
 ⟨none,none,.st 2 (.tmp 2) (.tmp 9)⟩,
 Zo 3 10])
 .ret)
 (.seq (.ops [Zw 12 .eql 4 1,
 Zo 11 12])
 (.cond (.tmp 11)
 (.seq (.ops [Zs 13 (.bsl 50 1 24 #[(.int .u32 0)] [(0,(.const (.int .u32 447526239))),(1,(.const (.int .u32 1829156313))),(2,(.const (.int .u32 1879515421))),(3,(.const (.int .u32 4107444635))),(4,(.const (.int .u32 3585720734))),(5,(.const (.int .u32 1991253479))),(6,(.const (.int .u32 2516768444))),(7,(.const (.int .u32 3373017810))),(8,(.const (.int .u32 1205978055))),(9,(.const (.int .u32 1538251098))),(10,(.const (.int .u32 196053331))),(11,(.const (.int .u32 1922245038))),(12,(.const (.int .u32 2255523067))),(13,(.const (.int .u32 1735923309))),(14,(.const (.int .u32 2944431911))),(15,(.const (.int .u32 868394361))),(16,(.const (.int .u32 4017789066))),(17,(.const (.int .u32 1470251928))),(18,(.const (.int .u32 1835714117))),(19,(.const (.int .u32 3624612288))),(20,(.const (.int .u32 4242376361))),(21,(.const (.int .u32 1111742522))),(22,(.const (.int .u32 1457454055))),(23,(.const (.int .u32 3904486991)))]),
 Zs 14 (.bsl 50 1 1 #[(.int .u32 0)] [(0,(.const (.int .u32 65537)))]),
 Zs 15 (.bld #[(.slice none 0 0),(.slice none 0 0)] [(0,1),(1,1)] [(0,(.tmp 13)),(1,(.tmp 14))]),
 Zs 16 (.bsl 50 1 24 #[(.int .u32 0)] [(0,(.const (.int .u32 3621519977))),(1,(.const (.int .u32 3268799092))),(2,(.const (.int .u32 3739516396))),(3,(.const (.int .u32 206456287))),(4,(.const (.int .u32 3610635974))),(5,(.const (.int .u32 623975115))),(6,(.const (.int .u32 3290812447))),(7,(.const (.int .u32 1284005469))),(8,(.const (.int .u32 2839468200))),(9,(.const (.int .u32 1102384690))),(10,(.const (.int .u32 247832016))),(11,(.const (.int .u32 3318194052))),(12,(.const (.int .u32 792414134))),(13,(.const (.int .u32 1014899858))),(14,(.const (.int .u32 3018861402))),(15,(.const (.int .u32 3270484745))),(16,(.const (.int .u32 3809549036))),(17,(.const (.int .u32 2137766059))),(18,(.const (.int .u32 3239253027))),(19,(.const (.int .u32 2310304235))),(20,(.const (.int .u32 3354661807))),(21,(.const (.int .u32 2841138446))),(22,(.const (.int .u32 2129838785))),(23,(.const (.int .u32 419123029)))]),
 ⟨none,none,.st 2 (.tmp 2) (.tmp 15)⟩,
 Zo 3 16])
 .ret)
 .skip))))))
 (.seq (.ops [Zs 17 (.bsl 50 1 32 #[(.int .u32 0)] [(0,(.const (.int .u32 2647757785))),(1,(.const (.int .u32 1389125602))),(2,(.const (.int .u32 1571717152))),(3,(.const (.int .u32 2974836829))),(4,(.const (.int .u32 3776471463))),(5,(.const (.int .u32 3789918380))),(6,(.const (.int .u32 265465329))),(7,(.const (.int .u32 2705477333))),(8,(.const (.int .u32 2528306116))),(9,(.const (.int .u32 1305786319))),(10,(.const (.int .u32 3012271374))),(11,(.const (.int .u32 1555166574))),(12,(.const (.int .u32 3737811301))),(13,(.const (.int .u32 2107156747))),(14,(.const (.int .u32 423797723))),(15,(.const (.int .u32 3496193931))),(16,(.const (.int .u32 2229497578))),(17,(.const (.int .u32 3545628057))),(18,(.const (.int .u32 795677410))),(19,(.const (.int .u32 3294071916))),(20,(.const (.int .u32 3692226254))),(21,(.const (.int .u32 2201277676))),(22,(.const (.int .u32 1168892286))),(23,(.const (.int .u32 3890423924))),(24,(.const (.int .u32 3768719188))),(25,(.const (.int .u32 1348662635))),(26,(.const (.int .u32 838196833))),(27,(.const (.int .u32 466793529))),(28,(.const (.int .u32 1006143140))),(29,(.const (.int .u32 3002503770))),(30,(.const (.int .u32 4121073702))),(31,(.const (.int .u32 3778180073)))]),
 Zs 18 (.bsl 50 1 1 #[(.int .u32 0)] [(0,(.const (.int .u32 65537)))]),
 Zs 19 (.bld #[(.slice none 0 0),(.slice none 0 0)] [(0,1),(1,1)] [(0,(.tmp 17)),(1,(.tmp 18))]),
 Zs 20 (.bsl 50 1 32 #[(.int .u32 0)] [(0,(.const (.int .u32 221114889))),(1,(.const (.int .u32 4052409353))),(2,(.const (.int .u32 3618135462))),(3,(.const (.int .u32 3638896212))),(4,(.const (.int .u32 41876785))),(5,(.const (.int .u32 2981551223))),(6,(.const (.int .u32 2886658486))),(7,(.const (.int .u32 1775630866))),(8,(.const (.int .u32 3447871993))),(9,(.const (.int .u32 1687748997))),(10,(.const (.int .u32 3209162719))),(11,(.const (.int .u32 3268866316))),(12,(.const (.int .u32 2051154063))),(13,(.const (.int .u32 2544485275))),(14,(.const (.int .u32 3760155216))),(15,(.const (.int .u32 3752499951))),(16,(.const (.int .u32 2496820468))),(17,(.const (.int .u32 83771141))),(18,(.const (.int .u32 3160279440))),(19,(.const (.int .u32 1312331270))),(20,(.const (.int .u32 3585048767))),(21,(.const (.int .u32 3787517679))),(22,(.const (.int .u32 1319449402))),(23,(.const (.int .u32 1117739304))),(24,(.const (.int .u32 4056262221))),(25,(.const (.int .u32 2567164873))),(26,(.const (.int .u32 3762953771))),(27,(.const (.int .u32 2291027615))),(28,(.const (.int .u32 2230826018))),(29,(.const (.int .u32 4177935750))),(30,(.const (.int .u32 4171126346))),(31,(.const (.int .u32 831105070)))]),
 ⟨none,none,.st 2 (.tmp 2) (.tmp 19)⟩,
 Zo 3 20])
 .ret)))⟩
theorem h15 : strF Tryz.prog [] Tryz.f15 = some c15 := by kernel_rfl
def c16 : Fun := ⟨29,[.inl 4],
 (.seq (.ops [Zs 4 (.mv (.const (.slice none 0 0)))])
 (.seq (.seq (.ops [Zo 5 0])
 (.block 0
 (.seq (.ops [Zw 7 .eql 5 1,
 Zo 6 7])
 (.cond (.tmp 6)
 (.seq (.ops [Zo 8 1,
 Zs 9 (.call 32 [(.tmp 8),(Zi 64)]),
 Zs 10 (.call 31 [(.tmp 9)]),
 Zo 4 10])
 .ret)
 (.seq (.ops [Zw 12 .eql 5 2,
 Zo 11 12])
 (.cond (.tmp 11)
 (.seq (.ops [Zo 13 1,
 Zs 14 (.call 32 [(.tmp 13),(Zi 64)]),
 Zs 15 (.call 33 [(.tmp 14)]),
 Zo 4 15])
 .ret)
 (.seq (.ops [Zw 17 .eql 5 3,
 Zo 16 17])
 (.cond (.tmp 16)
 (.seq (.ops [Zo 18 1,
 Zs 19 (.call 32 [(.tmp 18),(Zi 128)]),
 Zs 20 (.bld (Array.replicate 8 (.int .u64 0)) [(0,1),(1,1),(2,1),(3,1),(4,1),(5,1),(6,1),(7,1)] [(0,(.const (.int .u64 14680500436340154072))),(1,(.const (.int .u64 7105036623409894663))),(2,(.const (.int .u64 10473403895298186519))),(3,(.const (.int .u64 1526699215303891257))),(4,(.const (.int .u64 7436329637833083697))),(5,(.const (.int .u64 10282925794625328401))),(6,(.const (.int .u64 15784041429090275239))),(7,(.const (.int .u64 5167115440072839076)))]),
 Zs 21 (.call 34 [(.tmp 19),(.tmp 20)]),
 Zs 22 (.slc 1 (.tmp 21) none (some (Zi 48)) none),
 Zo 4 22])
 .ret)
 (.seq (.ops [Zw 24 .eql 5 4,
 Zo 23 24])
 (.cond (.tmp 23)
 (.seq (.ops [Zo 25 1,
 Zs 26 (.call 32 [(.tmp 25),(Zi 128)]),
 Zs 27 (.bld (Array.replicate 8 (.int .u64 0)) [(0,1),(1,1),(2,1),(3,1),(4,1),(5,1),(6,1),(7,1)] [(0,(.const (.int .u64 7640891576956012808))),(1,(.const (.int .u64 13503953896175478587))),(2,(.const (.int .u64 4354685564936845355))),(3,(.const (.int .u64 11912009170470909681))),(4,(.const (.int .u64 5840696475078001361))),(5,(.const (.int .u64 11170449401992604703))),(6,(.const (.int .u64 2270897969802886507))),(7,(.const (.int .u64 6620516959819538809)))]),
 Zs 28 (.call 34 [(.tmp 26),(.tmp 27)]),
 Zo 4 28])
 .ret)
 .skip))))))))))
 (.seq (.ops [Zs 4 (.mv (.const (.slice none 0 0)))])
 .ret)))⟩
theorem h16 : strF Tryz.prog [] Tryz.f16 = some c16 := by kernel_rfl
def c19 : Fun := ⟨178,[.inl 12],
 (.seq (.ops [Zs 6 (.box 24 (.tmp 0)),
 Zs 12 (.mv (Zi 0))])
 (.seq (.seq (.ops [Zo 30 1,
 Zo 31 4,
 Zs 32 (.call 26 [(.tmp 30),(.tmp 31)]),
 Zs 33 (.un .not (.tmp 32)),
 Zo 34 33,
 ⟨some 35,some (34,false),.mv (.tmp 2)⟩,
 ⟨some 36,some (34,false),.call 37 [(.tmp 35)]⟩,
 ⟨some 37,some (34,false),.bin .eql (.tmp 36) (Zi 0)⟩,
 Zs 38 (.pick (.tmp 34) (.const (.bool true)) (.tmp 37)),
 Zo 39 38,
 ⟨some 40,some (39,false),.mv (.tmp 3)⟩,
 ⟨some 41,some (39,false),.bin .lss (.tmp 40) (Zi 0)⟩,
 Zs 42 (.pick (.tmp 39) (.const (.bool true)) (.tmp 41))])
 (.cond (.tmp 42)
 (.seq (.ops [Zs 12 (.mv (Zi 1))])
 .ret)
 .skip))
 (.seq (.ops [Zs 44 (.ld (.agg 2) (.tmp 6)),
 Zo 45 5,
 Zs 46 (.call 27 [(.tmp 44),(.tmp 45)]),
 Zo 43 46,
 Zs 47 (.ext (.tmp 43) 0),
 Zs 48 (.ext (.tmp 43) 1),
 Zo 13 47,
 Zo 14 48])
 (.seq (.seq (.ops [Zo 49 14,
 Zw 50 .neq 49 0])
 (.cond (.tmp 50)
 (.seq (.ops [Zo 51 14,
 Zo 12 51])
 .ret)
 .skip))
 (.seq (.ops [Zs 52 (.fa 0 (.tmp 6)),
 Zs 53 (.ld .slice (.tmp 52)),
 Zs 54 (.call 38 [(.tmp 53)]),
 Zw 55 .sub 54 1,
 Zo 15 55])
 (.join (.seq (.ops [Zo 56 15,
 Zw 57 .add 56 7,
 Zw 58 .quo 57 8,
 Zo 16 58])
 (.seq (.ops [Zo 59 13,
 Zr 60 59,
 Zo 61 16,
 Zy 62 .gtr 60 61])
 (.cond (.tmp 62)
 (.seq (.seq (.ops [Zo 63 13,
 Zs 64 (.ia 1 (.tmp 63) (Zi 0)),
 Zh 65 .u8 64,
 Zs 66 (.bin .neq (.tmp 65) (.const (.int .u8 0)))])
 (.cond (.tmp 66)
 (.seq (.ops [Zs 12 (.mv (Zi 112))])
 .ret)
 .skip))
 (.ops [Zo 67 13,
 Zs 68 (.slc 1 (.tmp 67) (some (Zi 1)) none none),
 Zo 13 68]))
 .skip)))
 (.seq (.ops [Zo 69 13,
 Zr 70 69,
 Zo 71 4,
 Zr 72 71,
 Zo 17 70,
 Zo 18 72])
 (.seq (.seq (.ops [Zo 73 3,
 Zo 74 17,
 Zo 75 18,
 Zy 76 .sub 74 75,
 Zw 77 .sub 76 2,
 Zy 78 .gtr 73 77,
 Zo 79 78,
 ⟨some 80,some (79,false),.mv (.tmp 13)⟩,
 ⟨some 81,some (79,false),.mv (.tmp 17)⟩,
 ⟨some 82,some (79,false),.bin .sub (.tmp 81) (Zi 1)⟩,
 ⟨some 83,some (79,false),.ia 1 (.tmp 80) (.tmp 82)⟩,
 ⟨some 84,some (79,false),.ld (.int .u8) (.tmp 83)⟩,
 ⟨some 85,some (79,false),.bin .neq (.tmp 84) (.const (.int .u8 188))⟩,
 Zs 86 (.pick (.tmp 79) (.const (.bool true)) (.tmp 85))])
 (.cond (.tmp 86)
 (.seq (.ops [Zs 12 (.mv (Zi 112))])
 .ret)
 .skip))
 (.seq (.draw 16 [Zo 87 13,
 Zo 88 17,
 Zo 89 18,
 Zy 90 .sub 88 89,
 Zw 91 .sub 90 1,
 Zs 92 (.slc 1 (.tmp 87) none (some (.tmp 91)) none),
 Zo 93 13,
 Zo 94 17,
 Zo 95 18,
 Zy 96 .sub 94 95,
 Zw 97 .sub 96 1,
 Zo 98 17,
 Zw 99 .sub 98 1,
 Zs 100 (.slc 1 (.tmp 93) (some (.tmp 97)) (some (.tmp 99)) none),
 Zo 19 92,
 Zo 20 100])
 (.seq (.ops [Zo 101 17,
 Zs 102 (.bin .mul (Zi 8) (.tmp 101)),
 Zo 103 15,
 Zy 104 .sub 102 103,
 Zs 105 (.bin .shr (.const (.int .u8 255)) (.tmp 104)),
 Zo 21 105])
 (.seq (.seq (.ops [Zo 106 19,
 Zs 107 (.ia 1 (.tmp 106) (Zi 0)),
 Zh 108 .u8 107,
 Zo 109 21,
 Zy 110 .andNot 108 109,
 Zs 111 (.bin .neq (.tmp 110) (.const (.int .u8 0)))])
 (.cond (.tmp 111)
 (.seq (.ops [Zs 12 (.mv (Zi 112))])
 .ret)
 .skip))
 (.seq (.ops [Zo 113 2,
 Zo 114 20,
 Zo 115 19,
 Zr 116 115,
 Zs 117 (.call 22 [(.tmp 113),(.tmp 114),(.tmp 116)]),
 Zo 112 117,
 Zs 118 (.ext (.tmp 112) 0),
 Zs 119 (.ext (.tmp 112) 1),
 Zo 22 118,
 Zo 23 119])
 (.seq (.seq (.ops [Zo 120 19,
 Zr 121 120,
 Zs 122 (.mv (Zi 0))])
 (.block 0
 (.loop
 (.seq (.ops [Zy 123 .lss 122 121])
 (.seq (.cond (.tmp 123)
 .skip
 (.exit 0))
 (.seq (.block 1
 (.seq (.ops [Zo 124 122,
 Zo 24 124])
 (.draw 10 [Zo 125 19,
 Zo 126 24,
 Zt 127 1 125 126,
 Zh 128 .u8 127,
 Zo 129 22,
 Zo 130 24,
 Zt 131 1 129 130,
 Zh 132 .u8 131,
 Zy 133 .xor 128 132,
 Zt 134 1 125 126,
 ⟨none,none,.st 1 (.tmp 134) (.tmp 133)⟩])))
 (.ops [Zw 135 .add 122 1,
 Zo 122 135])))))))
 (.seq (.ops [Zo 136 19,
 Zs 137 (.ia 1 (.tmp 136) (Zi 0)),
 Zh 138 .u8 137,
 Zo 139 21,
 Zy 140 .and 138 139,
 Zs 141 (.ia 1 (.tmp 136) (Zi 0)),
 ⟨none,none,.st 1 (.tmp 141) (.tmp 140)⟩])
 (.seq (.draw 14 [Zo 142 19,
 Zo 143 19,
 Zr 144 143,
 Zo 145 3,
 Zy 146 .sub 144 145,
 Zs 147 (.slc 1 (.tmp 142) none (some (.tmp 146)) none),
 Zo 148 19,
 Zo 149 19,
 Zr 150 149,
 Zo 151 3,
 Zy 152 .sub 150 151,
 Zs 153 (.slc 1 (.tmp 148) (some (.tmp 152)) none none),
 Zo 25 147,
 Zo 26 153])
 (.seq (.seq (.ops [Zo 154 25,
 Zs 155 (.call 39 [(.tmp 154),(.const (.string ⟨#[0]⟩))]),
 Zo 27 155])
 (.seq (.ops [Zo 156 27,
 Zr 157 156,
 Zw 158 .neq 157 1,
 Zo 159 158,
 ⟨some 160,some (159,false),.mv (.tmp 27)⟩,
 ⟨some 161,some (159,false),.ia 1 (.tmp 160) (Zi 0)⟩,
 ⟨some 162,some (159,false),.ld (.int .u8) (.tmp 161)⟩,
 ⟨some 163,some (159,false),.bin .neq (.tmp 162) (.const (.int .u8 1))⟩,
 Zs 164 (.pick (.tmp 159) (.const (.bool true)) (.tmp 163))])
 (.cond (.tmp 164)
 (.seq (.ops [Zs 12 (.mv (Zi 112))])
 .ret)
 .skip)))
 (.seq (.seq (.ops [Zo 166 1,
 Zs 167 (.mks 5 1 1 #[(.int .u8 0)] (Zi 8) (Zi 8)),
 Zo 168 4,
 Zo 169 26,
 Zs 170 (.bsl 25 1 3 #[(.slice none 0 0)] [(0,(.tmp 167)),(1,(.tmp 168)),(2,(.tmp 169))]),
 Zs 171 (.call 40 [(.tmp 166),(.tmp 170)]),
 Zo 165 171,
 Zs 172 (.ext (.tmp 165) 0),
 Zs 173 (.ext (.tmp 165) 1),
 Zo 28 172,
 Zo 29 173])
 (.seq (.ops [Zo 174 28,
 Zo 175 20,
 Zs 176 (.call 28 [(.tmp 174),(.tmp 175)]),
 Zs 177 (.un .not (.tmp 176))])
 (.cond (.tmp 177)
 (.seq (.ops [Zs 12 (.mv (Zi 112))])
 .ret)
 .skip)))
 (.seq (.ops [Zs 12 (.mv (Zi 0))])
 .ret))))))))))))))))))⟩
theorem h19 : strF Tryz.prog [] Tryz.f19 = some c19 := by kernel_rfl
def c21 : Fun := ⟨125,[.inl 10],
 (.seq (.ops [Zs 10 (.mv (.const (.slice none 0 0)))])
 (.seq (.ops [Zo 23 0,
 Zs 24 (.call 15 [(.tmp 23)]),
 Zo 22 24,
 Zs 25 (.ext (.tmp 22) 0),
 Zs 26 (.ext (.tmp 22) 1),
 Zs 11 (.alloc 24 (.agg #[(.slice none 0 0),(.slice none 0 0)])),
 ⟨none,none,.st 2 (.tmp 11) (.tmp 25)⟩,
 Zo 12 26])
 (.seq (.ops [Zs 27 (.fa 0 (.tmp 11)),
 Zs 28 (.ld .slice (.tmp 27)),
 Zs 29 (.call 41 [(.tmp 28)]),
 Zw 30 .sub 29 1,
 Zo 13 30])
 (.seq (.ops [Zo 31 13,
 Zw 32 .add 31 7,
 Zw 33 .quo 32 8,
 Zo 14 33])
 (.seq (.ops [Zo 34 1,
 Zs 35 (.call 14 [(.tmp 34)]),
 Zo 15 35])
 (.seq (.seq (.ops [Zo 36 2,
 Zs 37 (.call 14 [(.tmp 36)]),
 Zw 38 .eql 37 0,
 Zo 39 38,
 ⟨some 40,some (39,false),.mv (.tmp 15)⟩,
 ⟨some 41,some (39,false),.bin .eql (.tmp 40) (Zi 0)⟩,
 Zs 42 (.pick (.tmp 39) (.const (.bool true)) (.tmp 41)),
 Zo 43 42,
 ⟨some 44,some (43,false),.mv (.tmp 4)⟩,
 ⟨some 45,some (43,false),.len (.tmp 44)⟩,
 ⟨some 46,some (43,false),.mv (.tmp 15)⟩,
 ⟨some 47,some (43,false),.bin .neq (.tmp 45) (.tmp 46)⟩,
 Zs 48 (.pick (.tmp 43) (.const (.bool true)) (.tmp 47)),
 Zo 49 48,
 ⟨some 50,some (49,false),.mv (.tmp 14)⟩,
 ⟨some 51,some (49,false),.mv (.tmp 15)⟩,
 ⟨some 52,some (49,false),.mv (.tmp 3)⟩,
 ⟨some 53,some (49,false),.len (.tmp 52)⟩,
 ⟨some 54,some (49,false),.bin .add (.tmp 51) (.tmp 53)⟩,
 ⟨some 55,some (49,false),.bin .add (.tmp 54) (Zi 2)⟩,
 ⟨some 56,some (49,false),.bin .lss (.tmp 50) (.tmp 55)⟩,
 Zs 57 (.pick (.tmp 49) (.const (.bool true)) (.tmp 56))])
 (.cond (.tmp 57)
 (.seq (.ops [Zs 10 (.mv (.const (.slice none 0 0)))])
 .ret)
 .skip))
 (.seq (.ops [Zo 58 1,
 Zs 59 (.mks 5 1 1 #[(.int .u8 0)] (Zi 8) (Zi 8)),
 Zo 60 4,
 Zs 61 (.app 5 1 1 #[(.int .u8 0)] (.tmp 59) (.tmp 60)),
 Zo 62 3,
 Zs 63 (.app 5 1 1 #[(.int .u8 0)] (.tmp 61) (.tmp 62)),
 Zs 64 (.call 16 [(.tmp 58),(.tmp 63)]),
 Zo 16 64])
 (.seq (.ops [Zo 65 14,
 Zo 66 15,
 Zy 67 .sub 65 66,
 Zw 68 .sub 67 2,
 Zo 69 3,
 Zr 70 69,
 Zy 71 .sub 68 70,
 Zs 72 (.mks 5 1 1 #[(.int .u8 0)] (.tmp 71) (.tmp 71)),
 Zo 17 72])
 (.seq (.ops [Zo 73 17,
 Zs 74 (.bsl 5 1 1 #[(.int .u8 0)] [(0,(.const (.int .u8 1)))]),
 Zs 75 (.app 5 1 1 #[(.int .u8 0)] (.tmp 73) (.tmp 74)),
 Zo 76 3,
 Zs 77 (.app 5 1 1 #[(.int .u8 0)] (.tmp 75) (.tmp 76)),
 Zo 17 77])
 (.seq (.ops [Zo 79 2,
 Zo 80 16,
 Zo 81 17,
 Zr 82 81,
 Zs 83 (.call 42 [(.tmp 79),(.tmp 80),(.tmp 82)]),
 Zo 78 83,
 Zs 84 (.ext (.tmp 78) 0),
 Zs 85 (.ext (.tmp 78) 1),
 Zo 18 84,
 Zo 19 85])
 (.seq (.seq (.ops [Zs 20 (.mv (Zi 0))])
 (.block 0
 (.loop
 (.seq (.seq (.ops [Zo 86 20,
 Zo 87 17,
 Zr 88 87,
 Zy 89 .lss 86 88])
 (.cond (.tmp 89)
 .skip
 (.exit 0)))
 (.seq (.block 1
 (.draw 12 [Zo 92 17,
 Zo 93 20,
 Zo 94 17,
 Zo 95 20,
 Zt 96 1 94 95,
 Zh 97 .u8 96,
 Zo 98 18,
 Zo 99 20,
 Zt 100 1 98 99,
 Zh 101 .u8 100,
 Zy 102 .xor 97 101,
 Zt 103 1 92 93,
 ⟨none,none,.st 1 (.tmp 103) (.tmp 102)⟩]))
 (.ops [Zo 90 20,
 Zw 91 .add 90 1,
 Zo 20 91]))))))
 (.seq (.ops [Zo 104 14,
 Zs 105 (.bin .mul (Zi 8) (.tmp 104)),
 Zo 106 13,
 Zy 107 .sub 105 106,
 Zo 21 107])
 (.seq (.ops [Zo 108 17,
 Zo 109 17,
 Zs 110 (.ia 1 (.tmp 109) (Zi 0)),
 Zh 111 .u8 110,
 Zo 112 21,
 Zy 113 .shl 111 112,
 Zo 114 21,
 Zy 115 .shr 113 114,
 Zs 116 (.ia 1 (.tmp 108) (Zi 0)),
 ⟨none,none,.st 1 (.tmp 116) (.tmp 115)⟩])
 (.join (.drawT (.st 0 1 (.st 0 2 (.st 0 3 (.st 3 0 (.cov (.more 4 (.cov (.one 5 (.cov (.one 6 (.cov (.one 7 (.st 0 8 .nil))))))) (.one 5 (.cov (.one 4 (.cov (.one 6 (.cov (.one 7 (.st 0 8 .nil))))))))))))))
 [Zs 117 (.ld (.agg 2) (.tmp 11)),
 Zo 118 12,
 Zo 119 17,
 Zo 120 16,
 Zs 121 (.app 5 1 1 #[(.int .u8 0)] (.tmp 119) (.tmp 120)),
 Zs 122 (.bsl 5 1 1 #[(.int .u8 0)] [(0,(.const (.int .u8 188)))]),
 Zs 123 (.app 5 1 1 #[(.int .u8 0)] (.tmp 121) (.tmp 122)),
 Zs 124 (.call 36 [(.tmp 117),(.tmp 118),(.tmp 123)]),
 Zo 10 124])
 .ret))))))))))))))⟩
theorem h21 : strF Tryz.prog [(17,.inr (.st 0 1 (.st 0 2 (.st 0 3 (.st 3 0 (.cov (.more 4 (.cov (.one 5 (.cov (.one 6 (.cov (.one 7 (.st 0 8 .nil))))))) (.one 5 (.cov (.one 4 (.cov (.one 6 (.cov (.one 7 (.st 0 8 .nil)))))))))))))))] Tryz.f21 = some c21 := by kernel_rfl
def c23 : Fun := ⟨40,[.inl 6,.inl 7],
 (.seq (.ops [Zs 6 (.mv (.const (.slice none 0 0))),
 Zs 7 (.mv (Zi 0))])
 (.seq (.seq (.ops [Zo 10 0,
 Zo 11 1,
 Zs 12 (.call 26 [(.tmp 10),(.tmp 11)]),
 Zs 13 (.un .not (.tmp 12)),
 Zo 14 13,
 ⟨some 15,some (14,false),.mv (.tmp 2)⟩,
 ⟨some 16,some (14,false),.bin .gtr (.tmp 15) (Zi 2048)⟩,
 Zs 17 (.pick (.tmp 14) (.const (.bool true)) (.tmp 16))])
 (.cond (.tmp 17)
 (.seq (.ops [Zs 6 (.mv (.const (.slice none 0 0))),
 Zs 7 (.mv (Zi 1))])
 .ret)
 .skip))
 (.seq (.ops [Zo 18 0,
 Zo 19 1,
 Zs 20 (.call 44 [(.tmp 18),(.tmp 19)]),
 Zo 8 20])
 (.seq (.seq (.ops [Zo 21 2,
 Zo 22 8,
 Zr 23 22,
 Zw 24 .add 23 11,
 Zy 25 .lss 21 24])
 (.cond (.tmp 25)
 (.seq (.ops [Zs 6 (.mv (.const (.slice none 0 0))),
 Zs 7 (.mv (Zi 2))])
 .ret)
 .skip))
 (.seq (.ops [Zs 26 (.bsl 5 1 2 #[(.int .u8 0)] [(0,(.const (.int .u8 0))),(1,(.const (.int .u8 1)))]),
 Zs 27 (.bsl 5 1 1 #[(.int .u8 0)] [(0,(.const (.int .u8 255)))]),
 Zo 28 2,
 Zo 29 8,
 Zr 30 29,
 Zy 31 .sub 28 30,
 Zw 32 .sub 31 3,
 Zs 33 (.call 45 [(.tmp 27),(.tmp 32)]),
 Zs 34 (.app 5 1 1 #[(.int .u8 0)] (.tmp 26) (.tmp 33)),
 Zo 9 34])
 (.seq (.ops [Zo 35 9,
 Zs 36 (.bsl 5 1 1 #[(.int .u8 0)] [(0,(.const (.int .u8 0)))]),
 Zs 37 (.app 5 1 1 #[(.int .u8 0)] (.tmp 35) (.tmp 36)),
 Zo 38 8,
 Zs 39 (.app 5 1 1 #[(.int .u8 0)] (.tmp 37) (.tmp 38)),
 Zo 6 39,
 Zs 7 (.mv (Zi 0))])
 .ret))))))⟩
theorem h23 : strF Tryz.prog [] Tryz.f23 = some c23 := by kernel_rfl
def c24 : Fun := ⟨41,[.inl 2],
 (.seq (.ops [Zs 1 (.box 24 (.tmp 0)),
 Zs 2 (.mv (Zi 0))])
 (.seq (.drawT (.st 0 0 (.st 0 3 (.st 1 1 (.st 3 4 (.cov (.one 2 (.cov (.one 5 (.st 0 6 (.st 0 7 .nil))))))))))
 [Zs 5 (.fa 0 (.tmp 1)),
 Zs 6 (.ld .slice (.tmp 5)),
 Zs 7 (.call 38 [(.tmp 6)]),
 Zs 8 (.fa 1 (.tmp 1)),
 Zs 9 (.ld .slice (.tmp 8)),
 Zs 10 (.call 38 [(.tmp 9)]),
 Zo 3 7,
 Zo 4 10])
 (.seq (.block 0
 (.join (.seq (.ops [Zs 12 (.fa 0 (.tmp 1)),
 Zs 13 (.ld .slice (.tmp 12)),
 Zr 14 13,
 Zw 15 .gtr 14 256,
 Zo 16 15,
 ⟨some 17,some (16,false),.fa 1 (.tmp 1)⟩,
 ⟨some 18,some (16,false),.ld .slice (.tmp 17)⟩,
 ⟨some 19,some (16,false),.len (.tmp 18)⟩,
 ⟨some 20,some (16,false),.bin .gtr (.tmp 19) (Zi 256)⟩,
 Zs 21 (.pick (.tmp 16) (.const (.bool true)) (.tmp 20)),
 Zo 11 21])
 (.cond (.tmp 11)
 .skip
 (.seq (.ops [Zo 22 3,
 Zw 23 .lss 22 512,
 Zo 11 23])
 (.cond (.tmp 11)
 .skip
 (.seq (.ops [Zo 24 4,
 Zw 25 .lss 24 2,
 Zo 26 25,
 ⟨some 27,some (26,false),.mv (.tmp 4)⟩,
 ⟨some 28,some (26,false),.bin .gtr (.tmp 27) (Zi 64)⟩,
 Zs 29 (.pick (.tmp 26) (.const (.bool true)) (.tmp 28)),
 Zo 11 29])
 (.cond (.tmp 11)
 .skip
 (.draw 12 [Zs 30 (.fa 0 (.tmp 1)),
 Zs 31 (.ld .slice (.tmp 30)),
 Zs 32 (.ia 1 (.tmp 31) (Zi 0)),
 Zh 33 .u32 32,
 Zs 34 (.fa 1 (.tmp 1)),
 Zs 35 (.ld .slice (.tmp 34)),
 Zs 36 (.ia 1 (.tmp 35) (Zi 0)),
 Zh 37 .u32 36,
 Zy 38 .and 33 37,
 Zs 39 (.bin .and (.tmp 38) (.const (.int .u32 1))),
 Zs 40 (.bin .eql (.tmp 39) (.const (.int .u32 0))),
 Zo 11 40])))))))
 (.cond (.tmp 11)
 (.seq (.ops [Zs 2 (.mv (Zi 80))])
 .ret)
 .skip)))
 (.seq (.ops [Zs 2 (.mv (Zi 0))])
 .ret))))⟩
theorem h24 : strF Tryz.prog [(1,.inr (.st 0 0 (.st 0 3 (.st 1 1 (.st 3 4 (.cov (.one 2 (.cov (.one 5 (.st 0 6 (.st 0 7 .nil)))))))))))] Tryz.f24 = some c24 := by kernel_rfl
def c25 : Fun := ⟨11,[.inl 2],
 (.seq (.ops [Zs 1 (.box 24 (.tmp 0)),
 Zs 2 (.mv (Zi 0))])
 (.seq (.seq (.ops [Zs 3 (.ld (.agg 2) (.tmp 1)),
 Zs 4 (.call 24 [(.tmp 3)]),
 Zw 5 .neq 4 0])
 (.cond (.tmp 5)
 (.seq (.ops [Zs 2 (.mv (Zi 0))])
 .ret)
 .skip))
 (.seq (.ops [Zs 6 (.fa 0 (.tmp 1)),
 Zs 7 (.ld .slice (.tmp 6)),
 Zs 8 (.call 38 [(.tmp 7)]),
 Zw 9 .add 8 7,
 Zw 10 .quo 9 8,
 Zo 2 10])
 .ret)))⟩
theorem h25 : strF Tryz.prog [] Tryz.f25 = some c25 := by kernel_rfl
def c26 : Fun := ⟨15,[.inl 4],
 (.seq (.ops [Zs 4 (.mv (.const (.bool false)))])
 (.seq (.ops [Zo 5 0,
 Zs 6 (.call 37 [(.tmp 5)]),
 Zw 7 .gtr 6 0,
 Zo 8 7,
 ⟨some 9,some (8,true),.mv (.tmp 1)⟩,
 ⟨some 10,some (8,true),.len (.tmp 9)⟩,
 ⟨some 11,some (8,true),.mv (.tmp 0)⟩,
 ⟨some 12,some (8,true),.call 37 [(.tmp 11)]⟩,
 ⟨some 13,some (8,true),.bin .eql (.tmp 10) (.tmp 12)⟩,
 Zs 14 (.pick (.tmp 8) (.tmp 13) (.const (.bool false))),
 Zo 4 14])
 .ret))⟩
theorem h26 : strF Tryz.prog [] Tryz.f26 = some c26 := by kernel_rfl
def c27 : Fun := ⟨47,[.inl 4,.inl 5],
 (.seq (.ops [Zs 2 (.box 24 (.tmp 0)),
 Zs 4 (.mv (.const (.slice none 0 0))),
 Zs 5 (.mv (Zi 0))])
 (.seq (.ops [Zs 13 (.ld (.agg 2) (.tmp 2)),
 Zs 14 (.call 25 [(.tmp 13)]),
 Zo 6 14])
 (.seq (.seq (.ops [Zo 15 6,
 Zw 16 .eql 15 0])
 (.cond (.tmp 16)
 (.seq (.ops [Zs 4 (.mv (.const (.slice none 0 0))),
 Zs 5 (.mv (Zi 80))])
 .ret)
 .skip))
 (.seq (.seq (.ops [Zo 17 1,
 Zr 18 17,
 Zo 19 6,
 Zy 20 .neq 18 19])
 (.cond (.tmp 20)
 (.seq (.ops [Zs 4 (.mv (.const (.slice none 0 0))),
 Zs 5 (.mv (Zi 112))])
 .ret)
 .skip))
 (.seq (.ops [Zo 22 1,
 Zs 23 (.call 46 [(.tmp 22)]),
 Zo 21 23,
 Zs 24 (.ext (.tmp 21) 0),
 Zs 25 (.ext (.tmp 21) 1),
 Zo 7 24,
 Zo 8 25])
 (.seq (.seq (.ops [Zo 26 7,
 Zs 27 (.fa 0 (.tmp 2)),
 Zs 28 (.ld .slice (.tmp 27)),
 Zs 29 (.call 47 [(.tmp 26),(.tmp 28)]),
 Zw 30 .geq 29 0])
 (.cond (.tmp 30)
 (.seq (.ops [Zs 4 (.mv (.const (.slice none 0 0))),
 Zs 5 (.mv (Zi 112))])
 .ret)
 .skip))
 (.seq (.ops [Zo 32 7,
 Zs 33 (.fa 1 (.tmp 2)),
 Zs 34 (.ld .slice (.tmp 33)),
 Zs 35 (.fa 0 (.tmp 2)),
 Zs 36 (.ld .slice (.tmp 35)),
 Zs 37 (.call 48 [(.tmp 32),(.tmp 34),(.tmp 36)]),
 Zo 31 37,
 Zs 38 (.ext (.tmp 31) 0),
 Zs 39 (.ext (.tmp 31) 1),
 Zo 9 38,
 Zo 10 39])
 (.seq (.ops [Zo 41 9,
 Zo 42 6,
 Zs 43 (.call 49 [(.tmp 41),(.tmp 42)]),
 Zo 40 43,
 Zs 44 (.ext (.tmp 40) 0),
 Zs 45 (.ext (.tmp 40) 1),
 Zo 11 44,
 Zo 12 45])
 (.seq (.ops [Zo 46 11,
 Zo 4 46,
 Zs 5 (.mv (Zi 0))])
 .ret)))))))))⟩
theorem h27 : strF Tryz.prog [] Tryz.f27 = some c27 := by kernel_rfl
def c28 : Fun := ⟨10,[.inl 4],
 (.seq (.ops [Zs 4 (.mv (.const (.bool false)))])
 (.seq (.ops [Zo 5 0,
 Zs 6 (.cvbs (.tmp 5)),
 Zo 7 1,
 Zs 8 (.cvbs (.tmp 7)),
 Zy 9 .eql 6 8,
 Zo 4 9])
 .ret))⟩
theorem h28 : strF Tryz.prog [] Tryz.f28 = some c28 := by kernel_rfl
def c31 : Fun := ⟨207,[.inl 2],
 (.seq (.ops [Zs 2 (.mv (.const (.slice none 0 0)))])
 (.seq (.ops [Zs 19 (.bld (Array.replicate 5 (.int .u32 0)) [(0,1),(1,1),(2,1),(3,1),(4,1)] [(0,(.const (.int .u32 1732584193))),(1,(.const (.int .u32 4023233417))),(2,(.const (.int .u32 2562383102))),(3,(.const (.int .u32 271733878))),(4,(.const (.int .u32 3285377520)))]),
 Zs 3 (.alloc 81 (.agg (Array.replicate 5 (.int .u32 0)))),
 ⟨none,none,.st 5 (.tmp 3) (.tmp 19)⟩])
 (.seq (.seq (.ops [Zs 4 (.mv (Zi 0))])
 (.block 0
 (.loop
 (.seq (.seq (.ops [Zo 20 4,
 Zo 21 0,
 Zr 22 21,
 Zy 23 .lss 20 22])
 (.cond (.tmp 23)
 .skip
 (.exit 0)))
 (.seq (.block 1
 (.seq (.ops [Zs 5 (.alloc 82 (.agg (Array.replicate 80 (.int .u32 0))))])
 (.seq (.seq (.ops [Zs 6 (.mv (Zi 0))])
 (.block 2
 (.loop
 (.seq (.seq (.ops [Zo 26 6,
 Zw 27 .lss 26 80])
 (.cond (.tmp 27)
 .skip
 (.exit 2)))
 (.join (.block 3
 (.seq (.ops [Zo 30 6,
 Zw 31 .lss 30 16])
 (.cond (.tmp 31)
 (.seq (.ops [Zo 32 0,
 Zo 33 4,
 Zo 34 6,
 Zs 35 (.bin .mul (Zi 4) (.tmp 34)),
 Zy 36 .add 33 35,
 Zo 37 4,
 Zo 38 6,
 Zs 39 (.bin .mul (Zi 4) (.tmp 38)),
 Zy 40 .add 37 39,
 Zw 41 .add 40 4,
 Zs 42 (.slc 1 (.tmp 32) (some (.tmp 36)) (some (.tmp 41)) none),
 Zo 7 42])
 (.draw 24 [Zo 43 6,
 Zo 44 7,
 Zs 45 (.ia 1 (.tmp 44) (Zi 0)),
 Zh 46 .u8 45,
 Zs 47 (.cv .u32 (.tmp 46)),
 Zs 48 (.bin .shl (.tmp 47) (.const (.int .u64 24))),
 Zo 49 7,
 Zs 50 (.ia 1 (.tmp 49) (Zi 1)),
 Zh 51 .u8 50,
 Zs 52 (.cv .u32 (.tmp 51)),
 Zs 53 (.bin .shl (.tmp 52) (.const (.int .u64 16))),
 Zy 54 .add 48 53,
 Zo 55 7,
 Zs 56 (.ia 1 (.tmp 55) (Zi 2)),
 Zh 57 .u8 56,
 Zs 58 (.cv .u32 (.tmp 57)),
 Zs 59 (.bin .shl (.tmp 58) (.const (.int .u64 8))),
 Zy 60 .add 54 59,
 Zo 61 7,
 Zs 62 (.ia 1 (.tmp 61) (Zi 3)),
 Zh 63 .u8 62,
 Zs 64 (.cv .u32 (.tmp 63)),
 Zy 65 .add 60 64,
 Zs 66 (.iaA 80 1 (.tmp 5) (.tmp 43)),
 ⟨none,none,.st 1 (.tmp 66) (.tmp 65)⟩]))
 (.draw 22 [Zo 67 6,
 Zo 68 6,
 Zw 69 .sub 68 3,
 Zs 70 (.iaA 80 1 (.tmp 5) (.tmp 69)),
 Zh 71 .u32 70,
 Zo 72 6,
 Zw 73 .sub 72 8,
 Zs 74 (.iaA 80 1 (.tmp 5) (.tmp 73)),
 Zh 75 .u32 74,
 Zy 76 .xor 71 75,
 Zo 77 6,
 Zw 78 .sub 77 14,
 Zs 79 (.iaA 80 1 (.tmp 5) (.tmp 78)),
 Zh 80 .u32 79,
 Zy 81 .xor 76 80,
 Zo 82 6,
 Zw 83 .sub 82 16,
 Zs 84 (.iaA 80 1 (.tmp 5) (.tmp 83)),
 Zh 85 .u32 84,
 Zy 86 .xor 81 85,
 Zs 87 (.call 59 [(.tmp 86),(Zi 1)]),
 Zs 88 (.iaA 80 1 (.tmp 5) (.tmp 67)),
 ⟨none,none,.st 1 (.tmp 88) (.tmp 87)⟩]))))
 (.ops [Zo 28 6,
 Zw 29 .add 28 1,
 Zo 6 29]))))))
 (.seq (.draw 15 [Zs 89 (.iaA 5 1 (.tmp 3) (Zi 0)),
 Zh 90 .u32 89,
 Zs 91 (.iaA 5 1 (.tmp 3) (Zi 1)),
 Zh 92 .u32 91,
 Zs 93 (.iaA 5 1 (.tmp 3) (Zi 2)),
 Zh 94 .u32 93,
 Zs 95 (.iaA 5 1 (.tmp 3) (Zi 3)),
 Zh 96 .u32 95,
 Zs 97 (.iaA 5 1 (.tmp 3) (Zi 4)),
 Zh 98 .u32 97,
 Zo 8 90,
 Zo 9 92,
 Zo 10 94,
 Zo 11 96,
 Zo 12 98])
 (.seq (.seq (.ops [Zs 13 (.mv (Zi 0))])
 (.block 4
 (.loop
 (.seq (.seq (.ops [Zo 99 13,
 Zw 100 .lss 99 80])
 (.cond (.tmp 100)
 .skip
 (.exit 4)))
 (.seq (.block 5
 (.seq (.ops [Zs 14 (.mv (.const (.int .u32 0))),
 Zs 15 (.mv (.const (.int .u32 0)))])
 (.join (.block 6
 (.seq (.ops [Zo 109 13,
 Zw 110 .lss 109 20,
 Zo 108 110])
 (.cond (.tmp 108)
 (.ops [Zo 111 9,
 Zo 112 10,
 Zy 113 .and 111 112,
 Zo 114 9,
 Zs 115 (.un .xor (.tmp 114)),
 Zo 116 11,
 Zy 117 .and 115 116,
 Zy 118 .or 113 117,
 Zo 14 118,
 Zs 15 (.mv (.const (.int .u32 1518500249)))])
 (.seq (.ops [Zo 120 13,
 Zw 121 .lss 120 40,
 Zo 119 121])
 (.cond (.tmp 119)
 (.ops [Zo 122 9,
 Zo 123 10,
 Zy 124 .xor 122 123,
 Zo 125 11,
 Zy 126 .xor 124 125,
 Zo 14 126,
 Zs 15 (.mv (.const (.int .u32 1859775393)))])
 (.seq (.ops [Zo 128 13,
 Zw 129 .lss 128 60,
 Zo 127 129])
 (.cond (.tmp 127)
 (.ops [Zo 130 9,
 Zo 131 10,
 Zy 132 .and 130 131,
 Zo 133 9,
 Zo 134 11,
 Zy 135 .and 133 134,
 Zy 136 .or 132 135,
 Zo 137 10,
 Zo 138 11,
 Zy 139 .and 137 138,
 Zy 140 .or 136 139,
 Zo 14 140,
 Zs 15 (.mv (.const (.int .u32 2400959708)))])
 (.ops [Zo 103 9,
 Zo 104 10,
 Zy 105 .xor 103 104,
 Zo 106 11,
 Zy 107 .xor 105 106,
 Zo 14 107,
 Zs 15 (.mv (.const (.int .u32 3395469782)))]))))))))
 (.seq (.draw 13 [Zo 141 8,
 Zs 142 (.call 59 [(.tmp 141),(Zi 5)]),
 Zo 143 14,
 Zy 144 .add 142 143,
 Zo 145 12,
 Zy 146 .add 144 145,
 Zo 147 15,
 Zy 148 .add 146 147,
 Zo 149 13,
 Zs 150 (.iaA 80 1 (.tmp 5) (.tmp 149)),
 Zh 151 .u32 150,
 Zy 152 .add 148 151,
 Zo 16 152])
 (.ops [Zo 153 11,
 Zo 154 10,
 Zo 155 9,
 Zs 156 (.call 59 [(.tmp 155),(Zi 30)]),
 Zo 157 8,
 Zo 158 16,
 Zo 12 153,
 Zo 11 154,
 Zo 10 156,
 Zo 9 157,
 Zo 8 158])))))
 (.ops [Zo 101 13,
 Zw 102 .add 101 1,
 Zo 13 102]))))))
 (.ops [Zs 159 (.iaA 5 1 (.tmp 3) (Zi 0)),
 Zh 160 .u32 159,
 Zo 161 8,
 Zy 162 .add 160 161,
 Zs 163 (.iaA 5 1 (.tmp 3) (Zi 1)),
 Zh 164 .u32 163,
 Zo 165 9,
 Zy 166 .add 164 165,
 Zs 167 (.iaA 5 1 (.tmp 3) (Zi 2)),
 Zh 168 .u32 167,
 Zo 169 10,
 Zy 170 .add 168 169,
 Zs 171 (.iaA 5 1 (.tmp 3) (Zi 3)),
 Zh 172 .u32 171,
 Zo 173 11,
 Zy 174 .add 172 173,
 Zs 175 (.iaA 5 1 (.tmp 3) (Zi 4)),
 Zh 176 .u32 175,
 Zo 177 12,
 Zy 178 .add 176 177,
 Zs 179 (.bld (Array.replicate 5 (.int .u32 0)) [(0,1),(1,1),(2,1),(3,1),(4,1)] [(0,(.tmp 162)),(1,(.tmp 166)),(2,(.tmp 170)),(3,(.tmp 174)),(4,(.tmp 178))]),
 ⟨none,none,.st 5 (.tmp 3) (.tmp 179)⟩]))))))
 (.ops [Zo 24 4,
 Zw 25 .add 24 64,
 Zo 4 25]))))))
 (.seq (.ops [Zs 17 (.mv (.const (.slice none 0 0)))])
 (.seq (.seq (.ops [Zs 18 (.mv (Zi 0))])
 (.block 7
 (.loop
 (.seq (.seq (.ops [Zo 180 18,
 Zw 181 .lss 180 5])
 (.cond (.tmp 181)
 .skip
 (.exit 7)))
 (.seq (.block 8
 (.drawS [(0,0),(0,1),(0,2),(0,6),(0,7),(0,11),(0,12),(0,16),(0,17),(1,3),(0,4),(0,5),(1,8),(0,9),(0,10),(1,13),(0,14),(0,15),(1,18),(0,19),(2,20),(2,21),(0,22)]
 [Zo 184 17,
 Zo 185 18,
 Zs 186 (.iaA 5 1 (.tmp 3) (.tmp 185)),
 Zh 187 .u32 186,
 Zs 188 (.bin .shr (.tmp 187) (.const (.int .u64 24))),
 Zs 189 (.cv .u8 (.tmp 188)),
 Zo 190 18,
 Zs 191 (.iaA 5 1 (.tmp 3) (.tmp 190)),
 Zh 192 .u32 191,
 Zs 193 (.bin .shr (.tmp 192) (.const (.int .u64 16))),
 Zs 194 (.cv .u8 (.tmp 193)),
 Zo 195 18,
 Zs 196 (.iaA 5 1 (.tmp 3) (.tmp 195)),
 Zh 197 .u32 196,
 Zs 198 (.bin .shr (.tmp 197) (.const (.int .u64 8))),
 Zs 199 (.cv .u8 (.tmp 198)),
 Zo 200 18,
 Zs 201 (.iaA 5 1 (.tmp 3) (.tmp 200)),
 Zh 202 .u32 201,
 Zs 203 (.cv .u8 (.tmp 202)),
 Zs 204 (.bsl 5 1 4 #[(.int .u8 0)] [(0,(.tmp 189)),(1,(.tmp 194)),(2,(.tmp 199)),(3,(.tmp 203))]),
 Zs 205 (.app 5 1 1 #[(.int .u8 0)] (.tmp 184) (.tmp 204)),
 Zo 17 205]))
 (.ops [Zo 182 18,
 Zw 183 .add 182 1,
 Zo 18 183]))))))
 (.seq (.ops [Zo 206 17,
 Zo 2 206])
 .ret))))))⟩
theorem h31 : strF Tryz.prog [(32,.inl [(0,0),(0,1),(0,2),(0,6),(0,7),(0,11),(0,12),(0,16),(0,17),(1,3),(0,4),(0,5),(1,8),(0,9),(0,10),(1,13),(0,14),(0,15),(1,18),(0,19),(2,20),(2,21),(0,22)])] Tryz.f31 = some c31 := by kernel_rfl
def c32 : Fun := ⟨47,[.inl 4],
 (.seq (.ops [Zs 4 (.mv (.const (.slice none 0 0)))])
 (.seq (.ops [Zo 9 1,
 Zw 10 .quo 9 8,
 Zo 5 10])
 (.seq (.ops [Zs 11 (.bsl0 5),
 Zo 12 0,
 Zs 13 (.app 5 1 1 #[(.int .u8 0)] (.tmp 11) (.tmp 12)),
 Zs 14 (.bsl 5 1 1 #[(.int .u8 0)] [(0,(.const (.int .u8 128)))]),
 Zs 15 (.app 5 1 1 #[(.int .u8 0)] (.tmp 13) (.tmp 14)),
 Zo 6 15])
 (.seq (.block 0
 (.loop
 (.seq (.seq (.ops [Zo 16 6,
 Zr 17 16,
 Zo 18 5,
 Zy 19 .add 17 18,
 Zo 20 1,
 Zy 21 .rem 19 20,
 Zw 22 .neq 21 0])
 (.cond (.tmp 22)
 .skip
 (.exit 0)))
 (.block 1
 (.ops [Zo 23 6,
 Zs 24 (.bsl 5 1 1 #[(.int .u8 0)] [(0,(.const (.int .u8 0)))]),
 Zs 25 (.app 5 1 1 #[(.int .u8 0)] (.tmp 23) (.tmp 24)),
 Zo 6 25])))))
 (.seq (.seq (.ops [Zo 26 5,
 Zw 27 .sub 26 1,
 Zo 7 27])
 (.block 2
 (.loop
 (.seq (.seq (.ops [Zo 28 7,
 Zw 29 .geq 28 0])
 (.cond (.tmp 29)
 .skip
 (.exit 2)))
 (.seq (.block 3
 (.seq (.ops [Zs 8 (.mv (.const (.int .u8 0)))])
 (.join (.seq (.ops [Zo 32 7,
 Zw 33 .lss 32 8])
 (.cond (.tmp 33)
 (.ops [Zo 34 0,
 Zr 35 34,
 Zs 36 (.bin .mul (Zi 8) (.tmp 35)),
 Zs 37 (.cv .u64 (.tmp 36)),
 Zo 38 7,
 Zs 39 (.bin .mul (Zi 8) (.tmp 38)),
 Zy 40 .shr 37 39,
 Zs 41 (.cv .u8 (.tmp 40)),
 Zo 8 41])
 .skip))
 (.ops [Zo 42 6,
 Zo 43 8,
 Zs 44 (.bsl 5 1 1 #[(.int .u8 0)] [(0,(.tmp 43))]),
 Zs 45 (.app 5 1 1 #[(.int .u8 0)] (.tmp 42) (.tmp 44)),
 Zo 6 45]))))
 (.ops [Zo 30 7,
 Zw 31 .sub 30 1,
 Zo 7 31]))))))
 (.seq (.ops [Zo 46 6,
 Zo 4 46])
 .ret))))))⟩
theorem h32 : strF Tryz.prog [] Tryz.f32 = some c32 := by kernel_rfl
def c33 : Fun := ⟨249,[.inl 2],
 (.seq (.ops [Zs 2 (.mv (.const (.slice none 0 0)))])
 (.seq (.ops [Zs 24 (.call 60 []),
 Zs 3 (.alloc 85 (.agg (Array.replicate 64 (.int .u32 0)))),
 ⟨none,none,.st 64 (.tmp 3) (.tmp 24)⟩])
 (.seq (.ops [Zs 25 (.bld (Array.replicate 8 (.int .u32 0)) [(0,1),(1,1),(2,1),(3,1),(4,1),(5,1),(6,1),(7,1)] [(0,(.const (.int .u32 1779033703))),(1,(.const (.int .u32 3144134277))),(2,(.const (.int .u32 1013904242))),(3,(.const (.int .u32 2773480762))),(4,(.const (.int .u32 1359893119))),(5,(.const (.int .u32 2600822924))),(6,(.const (.int .u32 528734635))),(7,(.const (.int .u32 1541459225)))]),
 Zs 4 (.alloc 87 (.agg (Array.replicate 8 (.int .u32 0)))),
 ⟨none,none,.st 8 (.tmp 4) (.tmp 25)⟩])
 (.seq (.seq (.ops [Zs 5 (.mv (Zi 0))])
 (.block 0
 (.loop
 (.seq (.seq (.ops [Zo 26 5,
 Zo 27 0,
 Zr 28 27,
 Zy 29 .lss 26 28])
 (.cond (.tmp 29)
 .skip
 (.exit 0)))
 (.seq (.block 1
 (.seq (.ops [Zs 6 (.alloc 85 (.agg (Array.replicate 64 (.int .u32 0))))])
 (.seq (.seq (.ops [Zs 7 (.mv (Zi 0))])
 (.block 2
 (.loop
 (.seq (.seq (.ops [Zo 32 7,
 Zw 33 .lss 32 64])
 (.cond (.tmp 33)
 .skip
 (.exit 2)))
 (.join (.block 3
 (.seq (.seq (.ops [Zo 36 7,
 Zw 37 .lss 36 16])
 (.cond (.tmp 37)
 (.seq (.ops [Zo 38 0,
 Zo 39 5,
 Zo 40 7,
 Zs 41 (.bin .mul (Zi 4) (.tmp 40)),
 Zy 42 .add 39 41,
 Zo 43 5,
 Zo 44 7,
 Zs 45 (.bin .mul (Zi 4) (.tmp 44)),
 Zy 46 .add 43 45,
 Zw 47 .add 46 4,
 Zs 48 (.slc 1 (.tmp 38) (some (.tmp 42)) (some (.tmp 47)) none),
 Zo 8 48])
 (.seq (.draw 24 [Zo 49 7,
 Zo 50 8,
 Zs 51 (.ia 1 (.tmp 50) (Zi 0)),
 Zh 52 .u8 51,
 Zs 53 (.cv .u32 (.tmp 52)),
 Zs 54 (.bin .shl (.tmp 53) (.const (.int .u64 24))),
 Zo 55 8,
 Zs 56 (.ia 1 (.tmp 55) (Zi 1)),
 Zh 57 .u8 56,
 Zs 58 (.cv .u32 (.tmp 57)),
 Zs 59 (.bin .shl (.tmp 58) (.const (.int .u64 16))),
 Zy 60 .add 54 59,
 Zo 61 8,
 Zs 62 (.ia 1 (.tmp 61) (Zi 2)),
 Zh 63 .u8 62,
 Zs 64 (.cv .u32 (.tmp 63)),
 Zs 65 (.bin .shl (.tmp 64) (.const (.int .u64 8))),
 Zy 66 .add 60 65,
 Zo 67 8,
 Zs 68 (.ia 1 (.tmp 67) (Zi 3)),
 Zh 69 .u8 68,
 Zs 70 (.cv .u32 (.tmp 69)),
 Zy 71 .add 66 70,
 Zs 72 (.iaA 64 1 (.tmp 6) (.tmp 49)),
 ⟨none,none,.st 1 (.tmp 72) (.tmp 71)⟩])
 (.exit 3)))
 .skip))
 (.seq (.draw 10 [Zo 73 7,
 Zw 74 .sub 73 15,
 Zs 75 (.iaA 64 1 (.tmp 6) (.tmp 74)),
 Zh 76 .u32 75,
 Zo 77 7,
 Zw 78 .sub 77 2,
 Zs 79 (.iaA 64 1 (.tmp 6) (.tmp 78)),
 Zh 80 .u32 79,
 Zo 9 76,
 Zo 10 80])
 (.draw 29 [Zo 81 7,
 Zo 82 10,
 Zs 83 (.call 61 [(.tmp 82),(Zi 17)]),
 Zo 84 10,
 Zs 85 (.call 61 [(.tmp 84),(Zi 19)]),
 Zy 86 .xor 83 85,
 Zo 87 10,
 Zs 88 (.bin .shr (.tmp 87) (.const (.int .u64 10))),
 Zy 89 .xor 86 88,
 Zo 90 7,
 Zw 91 .sub 90 7,
 Zs 92 (.iaA 64 1 (.tmp 6) (.tmp 91)),
 Zh 93 .u32 92,
 Zy 94 .add 89 93,
 Zo 95 9,
 Zs 96 (.call 61 [(.tmp 95),(Zi 7)]),
 Zo 97 9,
 Zs 98 (.call 61 [(.tmp 97),(Zi 18)]),
 Zy 99 .xor 96 98,
 Zo 100 9,
 Zs 101 (.bin .shr (.tmp 100) (.const (.int .u64 3))),
 Zy 102 .xor 99 101,
 Zy 103 .add 94 102,
 Zo 104 7,
 Zw 105 .sub 104 16,
 Zs 106 (.iaA 64 1 (.tmp 6) (.tmp 105)),
 Zh 107 .u32 106,
 Zy 108 .add 103 107,
 Zs 109 (.iaA 64 1 (.tmp 6) (.tmp 81)),
 ⟨none,none,.st 1 (.tmp 109) (.tmp 108)⟩]))))
 (.ops [Zo 34 7,
 Zw 35 .add 34 1,
 Zo 7 35]))))))
 (.seq (.draw 24 [Zs 110 (.iaA 8 1 (.tmp 4) (Zi 0)),
 Zh 111 .u32 110,
 Zs 112 (.iaA 8 1 (.tmp 4) (Zi 1)),
 Zh 113 .u32 112,
 Zs 114 (.iaA 8 1 (.tmp 4) (Zi 2)),
 Zh 115 .u32 114,
 Zs 116 (.iaA 8 1 (.tmp 4) (Zi 3)),
 Zh 117 .u32 116,
 Zs 118 (.iaA 8 1 (.tmp 4) (Zi 4)),
 Zh 119 .u32 118,
 Zs 120 (.iaA 8 1 (.tmp 4) (Zi 5)),
 Zh 121 .u32 120,
 Zs 122 (.iaA 8 1 (.tmp 4) (Zi 6)),
 Zh 123 .u32 122,
 Zs 124 (.iaA 8 1 (.tmp 4) (Zi 7)),
 Zh 125 .u32 124,
 Zo 11 111,
 Zo 12 113,
 Zo 13 115,
 Zo 14 117,
 Zo 15 119,
 Zo 16 121,
 Zo 17 123,
 Zo 18 125])
 (.seq (.seq (.ops [Zs 19 (.mv (Zi 0))])
 (.block 4
 (.loop
 (.seq (.seq (.ops [Zo 126 19,
 Zw 127 .lss 126 64])
 (.cond (.tmp 127)
 .skip
 (.exit 4)))
 (.seq (.block 5
 (.seq (.draw 28 [Zo 130 18,
 Zo 131 15,
 Zs 132 (.call 61 [(.tmp 131),(Zi 6)]),
 Zo 133 15,
 Zs 134 (.call 61 [(.tmp 133),(Zi 11)]),
 Zy 135 .xor 132 134,
 Zo 136 15,
 Zs 137 (.call 61 [(.tmp 136),(Zi 25)]),
 Zy 138 .xor 135 137,
 Zy 139 .add 130 138,
 Zo 140 15,
 Zo 141 16,
 Zy 142 .and 140 141,
 Zo 143 15,
 Zs 144 (.un .xor (.tmp 143)),
 Zo 145 17,
 Zy 146 .and 144 145,
 Zy 147 .xor 142 146,
 Zy 148 .add 139 147,
 Zo 149 19,
 Zs 150 (.iaA 64 1 (.tmp 3) (.tmp 149)),
 Zh 151 .u32 150,
 Zy 152 .add 148 151,
 Zo 153 19,
 Zs 154 (.iaA 64 1 (.tmp 6) (.tmp 153)),
 Zh 155 .u32 154,
 Zy 156 .add 152 155,
 Zo 20 156])
 (.seq (.ops [Zo 157 11,
 Zs 158 (.call 61 [(.tmp 157),(Zi 2)]),
 Zo 159 11,
 Zs 160 (.call 61 [(.tmp 159),(Zi 13)]),
 Zy 161 .xor 158 160,
 Zo 162 11,
 Zs 163 (.call 61 [(.tmp 162),(Zi 22)]),
 Zy 164 .xor 161 163,
 Zo 165 11,
 Zo 166 12,
 Zy 167 .and 165 166,
 Zo 168 11,
 Zo 169 13,
 Zy 170 .and 168 169,
 Zy 171 .xor 167 170,
 Zo 172 12,
 Zo 173 13,
 Zy 174 .and 172 173,
 Zy 175 .xor 171 174,
 Zy 176 .add 164 175,
 Zo 21 176])
 (.ops [Zo 177 17,
 Zo 178 16,
 Zo 179 15,
 Zo 180 14,
 Zo 181 20,
 Zy 182 .add 180 181,
 Zo 183 13,
 Zo 184 12,
 Zo 185 11,
 Zo 186 20,
 Zo 187 21,
 Zy 188 .add 186 187,
 Zo 18 177,
 Zo 17 178,
 Zo 16 179,
 Zo 15 182,
 Zo 14 183,
 Zo 13 184,
 Zo 12 185,
 Zo 11 188]))))
 (.ops [Zo 128 19,
 Zw 129 .add 128 1,
 Zo 19 129]))))))
 (.ops [Zs 189 (.iaA 8 1 (.tmp 4) (Zi 0)),
 Zh 190 .u32 189,
 Zo 191 11,
 Zy 192 .add 190 191,
 Zs 193 (.iaA 8 1 (.tmp 4) (Zi 1)),
 Zh 194 .u32 193,
 Zo 195 12,
 Zy 196 .add 194 195,
 Zs 197 (.iaA 8 1 (.tmp 4) (Zi 2)),
 Zh 198 .u32 197,
 Zo 199 13,
 Zy 200 .add 198 199,
 Zs 201 (.iaA 8 1 (.tmp 4) (Zi 3)),
 Zh 202 .u32 201,
 Zo 203 14,
 Zy 204 .add 202 203,
 Zs 205 (.iaA 8 1 (.tmp 4) (Zi 4)),
 Zh 206 .u32 205,
 Zo 207 15,
 Zy 208 .add 206 207,
 Zs 209 (.iaA 8 1 (.tmp 4) (Zi 5)),
 Zh 210 .u32 209,
 Zo 211 16,
 Zy 212 .add 210 211,
 Zs 213 (.iaA 8 1 (.tmp 4) (Zi 6)),
 Zh 214 .u32 213,
 Zo 215 17,
 Zy 216 .add 214 215,
 Zs 217 (.iaA 8 1 (.tmp 4) (Zi 7)),
 Zh 218 .u32 217,
 Zo 219 18,
 Zy 220 .add 218 219,
 Zs 221 (.bld (Array.replicate 8 (.int .u32 0)) [(0,1),(1,1),(2,1),(3,1),(4,1),(5,1),(6,1),(7,1)] [(0,(.tmp 192)),(1,(.tmp 196)),(2,(.tmp 200)),(3,(.tmp 204)),(4,(.tmp 208)),(5,(.tmp 212)),(6,(.tmp 216)),(7,(.tmp 220))]),
 ⟨none,none,.st 8 (.tmp 4) (.tmp 221)⟩]))))))
 (.ops [Zo 30 5,
 Zw 31 .add 30 64,
 Zo 5 31]))))))
 (.seq (.ops [Zs 22 (.mv (.const (.slice none 0 0)))])
 (.seq (.seq (.ops [Zs 23 (.mv (Zi 0))])
 (.block 6
 (.loop
 (.seq (.seq (.ops [Zo 222 23,
 Zw 223 .lss 222 8])
 (.cond (.tmp 223)
 .skip
 (.exit 6)))
 (.seq (.block 7
 (.drawS [(0,0),(0,1),(0,2),(0,6),(0,7),(0,11),(0,12),(0,16),(0,17),(1,3),(0,4),(0,5),(1,8),(0,9),(0,10),(1,13),(0,14),(0,15),(1,18),(0,19),(2,20),(2,21),(0,22)]
 [Zo 226 22,
 Zo 227 23,
 Zs 228 (.iaA 8 1 (.tmp 4) (.tmp 227)),
 Zh 229 .u32 228,
 Zs 230 (.bin .shr (.tmp 229) (.const (.int .u64 24))),
 Zs 231 (.cv .u8 (.tmp 230)),
 Zo 232 23,
 Zs 233 (.iaA 8 1 (.tmp 4) (.tmp 232)),
 Zh 234 .u32 233,
 Zs 235 (.bin .shr (.tmp 234) (.const (.int .u64 16))),
 Zs 236 (.cv .u8 (.tmp 235)),
 Zo 237 23,
 Zs 238 (.iaA 8 1 (.tmp 4) (.tmp 237)),
 Zh 239 .u32 238,
 Zs 240 (.bin .shr (.tmp 239) (.const (.int .u64 8))),
 Zs 241 (.cv .u8 (.tmp 240)),
 Zo 242 23,
 Zs 243 (.iaA 8 1 (.tmp 4) (.tmp 242)),
 Zh 244 .u32 243,
 Zs 245 (.cv .u8 (.tmp 244)),
 Zs 246 (.bsl 5 1 4 #[(.int .u8 0)] [(0,(.tmp 231)),(1,(.tmp 236)),(2,(.tmp 241)),(3,(.tmp 245))]),
 Zs 247 (.app 5 1 1 #[(.int .u8 0)] (.tmp 226) (.tmp 246)),
 Zo 22 247]))
 (.ops [Zo 224 23,
 Zw 225 .add 224 1,
 Zo 23 225]))))))
 (.seq (.ops [Zo 248 22,
 Zo 2 248])
 .ret)))))))⟩
theorem h33 : strF Tryz.prog [(27,.inl [(0,0),(0,1),(0,2),(0,6),(0,7),(0,11),(0,12),(0,16),(0,17),(1,3),(0,4),(0,5),(1,8),(0,9),(0,10),(1,13),(0,14),(0,15),(1,18),(0,19),(2,20),(2,21),(0,22)])] Tryz.f33 = some c33 := by kernel_rfl
def c34 : Fun := ⟨227,[.inl 4],
 (.seq (.ops [Zs 3 (.box 61 (.tmp 1)),
 Zs 4 (.mv (.const (.slice none 0 0)))])
 (.seq (.ops [Zs 26 (.call 62 []),
 Zs 5 (.alloc 88 (.agg (Array.replicate 80 (.int .u64 0)))),
 ⟨none,none,.st 80 (.tmp 5) (.tmp 26)⟩])
 (.seq (.seq (.ops [Zs 6 (.mv (Zi 0))])
 (.block 0
 (.loop
 (.seq (.seq (.ops [Zo 27 6,
 Zo 28 0,
 Zr 29 28,
 Zy 30 .lss 27 29])
 (.cond (.tmp 30)
 .skip
 (.exit 0)))
 (.seq (.block 1
 (.seq (.ops [Zs 7 (.alloc 88 (.agg (Array.replicate 80 (.int .u64 0))))])
 (.seq (.seq (.ops [Zs 8 (.mv (Zi 0))])
 (.block 2
 (.loop
 (.seq (.seq (.ops [Zo 33 8,
 Zw 34 .lss 33 80])
 (.cond (.tmp 34)
 .skip
 (.exit 2)))
 (.join (.block 3
 (.seq (.seq (.ops [Zo 37 8,
 Zw 38 .lss 37 16])
 (.cond (.tmp 38)
 (.seq (.seq (.ops [Zs 9 (.mv (Zi 0))])
 (.block 4
 (.loop
 (.seq (.seq (.ops [Zo 39 9,
 Zw 40 .lss 39 8])
 (.cond (.tmp 40)
 .skip
 (.exit 4)))
 (.seq (.block 5
 (.draw 17 [Zo 43 8,
 Zo 44 8,
 Zs 45 (.iaA 80 1 (.tmp 7) (.tmp 44)),
 Zh 46 .u64 45,
 Zs 47 (.bin .mul (.tmp 46) (.const (.int .u64 256))),
 Zo 48 0,
 Zo 49 6,
 Zo 50 8,
 Zs 51 (.bin .mul (Zi 8) (.tmp 50)),
 Zy 52 .add 49 51,
 Zo 53 9,
 Zy 54 .add 52 53,
 Zt 55 1 48 54,
 Zh 56 .u8 55,
 Zs 57 (.cv .u64 (.tmp 56)),
 Zy 58 .add 47 57,
 Zs 59 (.iaA 80 1 (.tmp 7) (.tmp 43)),
 ⟨none,none,.st 1 (.tmp 59) (.tmp 58)⟩]))
 (.ops [Zo 41 9,
 Zw 42 .add 41 1,
 Zo 9 42]))))))
 (.exit 3))
 .skip))
 (.seq (.draw 10 [Zo 60 8,
 Zw 61 .sub 60 15,
 Zs 62 (.iaA 80 1 (.tmp 7) (.tmp 61)),
 Zh 63 .u64 62,
 Zo 64 8,
 Zw 65 .sub 64 2,
 Zs 66 (.iaA 80 1 (.tmp 7) (.tmp 65)),
 Zh 67 .u64 66,
 Zo 10 63,
 Zo 11 67])
 (.draw 29 [Zo 68 8,
 Zo 69 11,
 Zs 70 (.call 63 [(.tmp 69),(Zi 19)]),
 Zo 71 11,
 Zs 72 (.call 63 [(.tmp 71),(Zi 61)]),
 Zy 73 .xor 70 72,
 Zo 74 11,
 Zs 75 (.bin .shr (.tmp 74) (.const (.int .u64 6))),
 Zy 76 .xor 73 75,
 Zo 77 8,
 Zw 78 .sub 77 7,
 Zs 79 (.iaA 80 1 (.tmp 7) (.tmp 78)),
 Zh 80 .u64 79,
 Zy 81 .add 76 80,
 Zo 82 10,
 Zs 83 (.call 63 [(.tmp 82),(Zi 1)]),
 Zo 84 10,
 Zs 85 (.call 63 [(.tmp 84),(Zi 8)]),
 Zy 86 .xor 83 85,
 Zo 87 10,
 Zs 88 (.bin .shr (.tmp 87) (.const (.int .u64 7))),
 Zy 89 .xor 86 88,
 Zy 90 .add 81 89,
 Zo 91 8,
 Zw 92 .sub 91 16,
 Zs 93 (.iaA 80 1 (.tmp 7) (.tmp 92)),
 Zh 94 .u64 93,
 Zy 95 .add 90 94,
 Zs 96 (.iaA 80 1 (.tmp 7) (.tmp 68)),
 ⟨none,none,.st 1 (.tmp 96) (.tmp 95)⟩]))))
 (.ops [Zo 35 8,
 Zw 36 .add 35 1,
 Zo 8 36]))))))
 (.seq (.draw 24 [Zs 97 (.iaA 8 1 (.tmp 3) (Zi 0)),
 Zh 98 .u64 97,
 Zs 99 (.iaA 8 1 (.tmp 3) (Zi 1)),
 Zh 100 .u64 99,
 Zs 101 (.iaA 8 1 (.tmp 3) (Zi 2)),
 Zh 102 .u64 101,
 Zs 103 (.iaA 8 1 (.tmp 3) (Zi 3)),
 Zh 104 .u64 103,
 Zs 105 (.iaA 8 1 (.tmp 3) (Zi 4)),
 Zh 106 .u64 105,
 Zs 107 (.iaA 8 1 (.tmp 3) (Zi 5)),
 Zh 108 .u64 107,
 Zs 109 (.iaA 8 1 (.tmp 3) (Zi 6)),
 Zh 110 .u64 109,
 Zs 111 (.iaA 8 1 (.tmp 3) (Zi 7)),
 Zh 112 .u64 111,
 Zo 12 98,
 Zo 13 100,
 Zo 14 102,
 Zo 15 104,
 Zo 16 106,
 Zo 17 108,
 Zo 18 110,
 Zo 19 112])
 (.seq (.seq (.ops [Zs 20 (.mv (Zi 0))])
 (.block 6
 (.loop
 (.seq (.seq (.ops [Zo 113 20,
 Zw 114 .lss 113 80])
 (.cond (.tmp 114)
 .skip
 (.exit 6)))
 (.seq (.block 7
 (.seq (.draw 28 [Zo 117 19,
 Zo 118 16,
 Zs 119 (.call 63 [(.tmp 118),(Zi 14)]),
 Zo 120 16,
 Zs 121 (.call 63 [(.tmp 120),(Zi 18)]),
 Zy 122 .xor 119 121,
 Zo 123 16,
 Zs 124 (.call 63 [(.tmp 123),(Zi 41)]),
 Zy 125 .xor 122 124,
 Zy 126 .add 117 125,
 Zo 127 16,
 Zo 128 17,
 Zy 129 .and 127 128,
 Zo 130 16,
 Zs 131 (.un .xor (.tmp 130)),
 Zo 132 18,
 Zy 133 .and 131 132,
 Zy 134 .xor 129 133,
 Zy 135 .add 126 134,
 Zo 136 20,
 Zs 137 (.iaA 80 1 (.tmp 5) (.tmp 136)),
 Zh 138 .u64 137,
 Zy 139 .add 135 138,
 Zo 140 20,
 Zs 141 (.iaA 80 1 (.tmp 7) (.tmp 140)),
 Zh 142 .u64 141,
 Zy 143 .add 139 142,
 Zo 21 143])
 (.seq (.ops [Zo 144 12,
 Zs 145 (.call 63 [(.tmp 144),(Zi 28)]),
 Zo 146 12,
 Zs 147 (.call 63 [(.tmp 146),(Zi 34)]),
 Zy 148 .xor 145 147,
 Zo 149 12,
 Zs 150 (.call 63 [(.tmp 149),(Zi 39)]),
 Zy 151 .xor 148 150,
 Zo 152 12,
 Zo 153 13,
 Zy 154 .and 152 153,
 Zo 155 12,
 Zo 156 14,
 Zy 157 .and 155 156,
 Zy 158 .xor 154 157,
 Zo 159 13,
 Zo 160 14,
 Zy 161 .and 159 160,
 Zy 162 .xor 158 161,
 Zy 163 .add 151 162,
 Zo 22 163])
 (.ops [Zo 164 18,
 Zo 165 17,
 Zo 166 16,
 Zo 167 15,
 Zo 168 21,
 Zy 169 .add 167 168,
 Zo 170 14,
 Zo 171 13,
 Zo 172 12,
 Zo 173 21,
 Zo 174 22,
 Zy 175 .add 173 174,
 Zo 19 164,
 Zo 18 165,
 Zo 17 166,
 Zo 16 169,
 Zo 15 170,
 Zo 14 171,
 Zo 13 172,
 Zo 12 175]))))
 (.ops [Zo 115 20,
 Zw 116 .add 115 1,
 Zo 20 116]))))))
 (.ops [Zs 176 (.iaA 8 1 (.tmp 3) (Zi 0)),
 Zh 177 .u64 176,
 Zo 178 12,
 Zy 179 .add 177 178,
 Zs 180 (.iaA 8 1 (.tmp 3) (Zi 1)),
 Zh 181 .u64 180,
 Zo 182 13,
 Zy 183 .add 181 182,
 Zs 184 (.iaA 8 1 (.tmp 3) (Zi 2)),
 Zh 185 .u64 184,
 Zo 186 14,
 Zy 187 .add 185 186,
 Zs 188 (.iaA 8 1 (.tmp 3) (Zi 3)),
 Zh 189 .u64 188,
 Zo 190 15,
 Zy 191 .add 189 190,
 Zs 192 (.iaA 8 1 (.tmp 3) (Zi 4)),
 Zh 193 .u64 192,
 Zo 194 16,
 Zy 195 .add 193 194,
 Zs 196 (.iaA 8 1 (.tmp 3) (Zi 5)),
 Zh 197 .u64 196,
 Zo 198 17,
 Zy 199 .add 197 198,
 Zs 200 (.iaA 8 1 (.tmp 3) (Zi 6)),
 Zh 201 .u64 200,
 Zo 202 18,
 Zy 203 .add 201 202,
 Zs 204 (.iaA 8 1 (.tmp 3) (Zi 7)),
 Zh 205 .u64 204,
 Zo 206 19,
 Zy 207 .add 205 206,
 Zs 208 (.bld (Array.replicate 8 (.int .u64 0)) [(0,1),(1,1),(2,1),(3,1),(4,1),(5,1),(6,1),(7,1)] [(0,(.tmp 179)),(1,(.tmp 183)),(2,(.tmp 187)),(3,(.tmp 191)),(4,(.tmp 195)),(5,(.tmp 199)),(6,(.tmp 203)),(7,(.tmp 207))]),
 ⟨none,none,.st 8 (.tmp 3) (.tmp 208)⟩]))))))
 (.ops [Zo 31 6,
 Zw 32 .add 31 128,
 Zo 6 32]))))))
 (.seq (.ops [Zs 23 (.mv (.const (.slice none 0 0)))])
 (.seq (.seq (.ops [Zs 24 (.mv (Zi 0))])
 (.block 8
 (.loop
 (.seq (.seq (.ops [Zo 209 24,
 Zw 210 .lss 209 8])
 (.cond (.tmp 210)
 .skip
 (.exit 8)))
 (.seq (.block 9
 (.seq (.ops [Zs 25 (.mv (Zi 56))])
 (.block 10
 (.loop
 (.seq (.seq (.ops [Zo 213 25,
 Zw 214 .geq 213 0])
 (.cond (.tmp 214)
 .skip
 (.exit 10)))
 (.seq (.block 11
 (.ops [Zo 217 23,
 Zo 218 24,
 Zs 219 (.iaA 8 1 (.tmp 3) (.tmp 218)),
 Zh 220 .u64 219,
 Zo 221 25,
 Zy 222 .shr 220 221,
 Zs 223 (.cv .u8 (.tmp 222)),
 Zs 224 (.bsl 5 1 1 #[(.int .u8 0)] [(0,(.tmp 223))]),
 Zs 225 (.app 5 1 1 #[(.int .u8 0)] (.tmp 217) (.tmp 224)),
 Zo 23 225]))
 (.ops [Zo 215 25,
 Zw 216 .sub 215 8,
 Zo 25 216])))))))
 (.ops [Zo 211 24,
 Zw 212 .add 211 1,
 Zo 24 212]))))))
 (.seq (.ops [Zo 226 23,
 Zo 4 226])
 .ret))))))⟩
theorem h34 : strF Tryz.prog [] Tryz.f34 = some c34 := by kernel_rfl
def c35 : Fun := ⟨11,[.inl 2],
 (.seq (.ops [Zs 1 (.box 24 (.tmp 0)),
 Zs 2 (.mv (Zi 0))])
 (.seq (.seq (.ops [Zs 3 (.ld (.agg 2) (.tmp 1)),
 Zs 4 (.call 50 [(.tmp 3)]),
 Zw 5 .neq 4 0])
 (.cond (.tmp 5)
 (.seq (.ops [Zs 2 (.mv (Zi 0))])
 .ret)
 .skip))
 (.seq (.ops [Zs 6 (.fa 0 (.tmp 1)),
 Zs 7 (.ld .slice (.tmp 6)),
 Zs 8 (.call 41 [(.tmp 7)]),
 Zw 9 .add 8 7,
 Zw 10 .quo 9 8,
 Zo 2 10])
 .ret)))⟩
theorem h35 : strF Tryz.prog [] Tryz.f35 = some c35 := by kernel_rfl
def c36 : Fun := ⟨34,[.inl 6],
 (.seq (.ops [Zs 3 (.box 24 (.tmp 0)),
 Zs 6 (.mv (.const (.slice none 0 0)))])
 (.seq (.ops [Zo 14 2,
 Zs 15 (.call 51 [(.tmp 14)]),
 Zo 13 15,
 Zs 16 (.ext (.tmp 13) 0),
 Zs 17 (.ext (.tmp 13) 1),
 Zo 7 16,
 Zo 8 17])
 (.seq (.ops [Zo 19 7,
 Zo 20 1,
 Zs 21 (.fa 0 (.tmp 3)),
 Zs 22 (.ld .slice (.tmp 21)),
 Zs 23 (.call 53 [(.tmp 19),(.tmp 20),(.tmp 22)]),
 Zo 18 23,
 Zs 24 (.ext (.tmp 18) 0),
 Zs 25 (.ext (.tmp 18) 1),
 Zo 9 24,
 Zo 10 25])
 (.seq (.ops [Zo 27 9,
 Zs 28 (.ld (.agg 2) (.tmp 3)),
 Zs 29 (.call 35 [(.tmp 28)]),
 Zs 30 (.call 54 [(.tmp 27),(.tmp 29)]),
 Zo 26 30,
 Zs 31 (.ext (.tmp 26) 0),
 Zs 32 (.ext (.tmp 26) 1),
 Zo 11 31,
 Zo 12 32])
 (.seq (.ops [Zo 33 11,
 Zo 6 33])
 .ret)))))⟩
theorem h36 : strF Tryz.prog [] Tryz.f36 = some c36 := by kernel_rfl
def c37 : Fun := ⟨12,[.inl 2],
 (.seq (.ops [Zs 2 (.mv (Zi 0))])
 (.seq (.seq (.ops [Zo 3 0])
 (.block 0
 (.seq (.ops [Zw 5 .eql 3 1,
 Zo 4 5])
 (.cond (.tmp 4)
 (.seq (.ops [Zs 2 (.mv (Zi 20))])
 .ret)
 (.seq (.ops [Zw 7 .eql 3 2,
 Zo 6 7])
 (.cond (.tmp 6)
 (.seq (.ops [Zs 2 (.mv (Zi 32))])
 .ret)
 (.seq (.ops [Zw 9 .eql 3 3,
 Zo 8 9])
 (.cond (.tmp 8)
 (.seq (.ops [Zs 2 (.mv (Zi 48))])
 .ret)
 (.seq (.ops [Zw 11 .eql 3 4,
 Zo 10 11])
 (.cond (.tmp 10)
 (.seq (.ops [Zs 2 (.mv (Zi 64))])
 .ret)
 .skip))))))))))
 (.seq (.ops [Zs 2 (.mv (Zi 0))])
 .ret)))⟩
theorem h37 : strF Tryz.prog [] Tryz.f37 = some c37 := by kernel_rfl
def c38 : Fun := ⟨20,[.inl 2],
 (.seq (.ops [Zs 2 (.mv (Zi 0))])
 (.seq (.ops [Zo 3 0,
 Zs 4 (.call 64 [(.tmp 3)]),
 Zo 0 4])
 (.seq (.seq (.ops [Zo 5 0,
 Zr 6 5,
 Zw 7 .eql 6 0])
 (.cond (.tmp 7)
 (.seq (.ops [Zs 2 (.mv (Zi 0))])
 .ret)
 .skip))
 (.seq (.ops [Zo 8 0,
 Zr 9 8,
 Zw 10 .sub 9 1,
 Zs 11 (.bin .mul (Zi 32) (.tmp 10)),
 Zo 12 0,
 Zo 13 0,
 Zr 14 13,
 Zw 15 .sub 14 1,
 Zt 16 1 12 15,
 Zh 17 .u32 16,
 Zs 18 (.call 65 [(.tmp 17)]),
 Zy 19 .add 11 18,
 Zo 2 19])
 .ret))))⟩
theorem h38 : strF Tryz.prog [] Tryz.f38 = some c38 := by kernel_rfl
def c39 : Fun := ⟨36,[.inl 4],
 (.seq (.ops [Zs 4 (.mv (.const (.slice none 0 0)))])
 (.seq (.seq (.ops [Zo 7 0,
 Zr 8 7,
 Zw 9 .eql 8 0])
 (.cond (.tmp 9)
 (.seq (.ops [Zs 4 (.mv (.const (.slice none 0 0)))])
 .ret)
 .skip))
 (.seq (.seq (.ops [Zo 10 1,
 Zs 11 (.bin .eql (.tmp 10) (.const (.string ⟨#[]⟩)))])
 (.cond (.tmp 11)
 (.seq (.ops [Zo 12 0,
 Zo 4 12])
 .ret)
 .skip))
 (.seq (.seq (.ops [Zo 13 1,
 Zs 14 (.lens (.tmp 13)),
 Zw 15 .eql 14 1,
 Zo 16 15,
 ⟨some 17,some (16,true),.mv (.tmp 1)⟩,
 ⟨some 18,some (16,true),.ixs (.tmp 17) (Zi 0)⟩,
 ⟨some 19,some (16,true),.bin .lss (.tmp 18) (.const (.int .u8 128))⟩,
 Zs 20 (.pick (.tmp 16) (.tmp 19) (.const (.bool false)))])
 (.cond (.tmp 20)
 (.seq (.ops [Zo 21 0,
 Zo 22 1,
 Zs 23 (.ixs (.tmp 22) (Zi 0)),
 Zs 24 (.call 66 [(.tmp 21),(.tmp 23)]),
 Zo 4 24])
 .ret)
 .skip))
 (.seq (.seq (.ops [Zo 26 1,
 Zs 27 (.call 67 [(.tmp 26)]),
 Zo 25 27,
 Zs 28 (.ext (.tmp 25) 0),
 Zs 29 (.ext (.tmp 25) 1),
 Zs 5 (.alloc 95 (.agg (Array.replicate 256 (.bool false)))),
 ⟨none,none,.st 256 (.tmp 5) (.tmp 28)⟩,
 Zo 6 29])
 (.seq (.ops [Zo 30 6])
 (.cond (.tmp 30)
 (.seq (.ops [Zo 31 0,
 Zs 32 (.call 68 [(.tmp 31),(.tmp 5)]),
 Zo 4 32])
 .ret)
 .skip)))
 (.seq (.ops [Zo 33 0,
 Zo 34 1,
 Zs 35 (.call 69 [(.tmp 33),(.tmp 34)]),
 Zo 4 35])
 .ret))))))⟩
theorem h39 : strF Tryz.prog [] Tryz.f39 = some c39 := by kernel_rfl
def c40 : Fun := ⟨49,[.inl 4,.inl 5],
 (.seq (.ops [Zs 4 (.mv (.const (.slice none 0 0))),
 Zs 5 (.mv (Zi 0))])
 (.seq (.seq (.ops [Zo 13 0,
 Zs 14 (.call 37 [(.tmp 13)]),
 Zw 15 .eql 14 0])
 (.cond (.tmp 15)
 (.seq (.ops [Zs 4 (.mv (.const (.slice none 0 0))),
 Zs 5 (.mv (Zi 1))])
 .ret)
 .skip))
 (.seq (.ops [Zs 6 (.mv (Zi 0))])
 (.seq (.seq (.ops [Zo 16 1,
 Zr 17 16,
 Zs 18 (.mv (Zi 0))])
 (.block 0
 (.loop
 (.seq (.ops [Zy 19 .lss 18 17])
 (.seq (.cond (.tmp 19)
 .skip
 (.exit 0))
 (.seq (.block 1
 (.seq (.ops [Zt 20 1 16 18,
 Zs 21 (.ld .slice (.tmp 20)),
 Zo 8 21])
 (.seq (.seq (.ops [Zo 22 8,
 Zr 23 22,
 Zo 24 6,
 Zs 25 (.bin .sub (Zi 16777216) (.tmp 24)),
 Zy 26 .gtr 23 25])
 (.cond (.tmp 26)
 (.seq (.ops [Zs 4 (.mv (.const (.slice none 0 0))),
 Zs 5 (.mv (Zi 3))])
 .ret)
 .skip))
 (.ops [Zo 27 6,
 Zo 28 8,
 Zr 29 28,
 Zy 30 .add 27 29,
 Zo 6 30]))))
 (.ops [Zw 31 .add 18 1,
 Zo 18 31])))))))
 (.seq (.ops [Zo 33 0,
 Zs 34 (.call 70 [(.tmp 33)]),
 Zo 32 34,
 Zs 35 (.ext (.tmp 32) 0),
 Zs 36 (.ext (.tmp 32) 1),
 Zo 9 35,
 Zo 10 36])
 (.seq (.seq (.ops [Zo 37 1,
 Zr 38 37,
 Zs 39 (.mv (Zi 0))])
 (.block 2
 (.loop
 (.seq (.ops [Zy 40 .lss 39 38])
 (.seq (.cond (.tmp 40)
 .skip
 (.exit 2))
 (.seq (.block 3
 (.seq (.ops [Zt 41 1 37 39,
 Zs 42 (.ld .slice (.tmp 41)),
 Zo 12 42])
 (.ops [Zo 43 9,
 Zo 44 12,
 Zs 45 (.call 71 [(.tmp 43),(.tmp 44)])])))
 (.ops [Zw 46 .add 39 1,
 Zo 39 46])))))))
 (.seq (.ops [Zo 47 9,
 Zs 48 (.call 72 [(.tmp 47)]),
 Zo 4 48,
 Zs 5 (.mv (Zi 0))])
 .ret)))))))⟩
theorem h40 : strF Tryz.prog [] Tryz.f40 = some c40 := by kernel_rfl
def c41 : Fun := ⟨29,[.inl 2],
 (.seq (.ops [Zs 2 (.mv (Zi 0))])
 (.seq (.ops [Zo 5 0,
 Zs 6 (.call 73 [(.tmp 5)]),
 Zo 3 6])
 (.seq (.ops [Zo 7 3,
 Zr 8 7,
 Zs 9 (.bin .mul (Zi 16) (.tmp 8)),
 Zo 4 9])
 (.seq (.block 0
 (.loop
 (.seq (.seq (.ops [Zo 10 4,
 Zw 11 .gtr 10 0,
 Zo 12 11,
 ⟨some 13,some (12,true),.mv (.tmp 3)⟩,
 ⟨some 14,some (12,true),.mv (.tmp 4)⟩,
 ⟨some 15,some (12,true),.bin .sub (.tmp 14) (Zi 1)⟩,
 ⟨some 16,some (12,true),.bin .quo (.tmp 15) (Zi 16)⟩,
 ⟨some 17,some (12,true),.ia 1 (.tmp 13) (.tmp 16)⟩,
 ⟨some 18,some (12,true),.ld (.int .u64) (.tmp 17)⟩,
 ⟨some 19,some (12,true),.mv (.tmp 4)⟩,
 ⟨some 20,some (12,true),.bin .sub (.tmp 19) (Zi 1)⟩,
 ⟨some 21,some (12,true),.bin .rem (.tmp 20) (Zi 16)⟩,
 ⟨some 22,some (12,true),.bin .shr (.tmp 18) (.tmp 21)⟩,
 ⟨some 23,some (12,true),.bin .and (.tmp 22) (.const (.int .u64 1))⟩,
 ⟨some 24,some (12,true),.bin .eql (.tmp 23) (.const (.int .u64 0))⟩,
 Zs 25 (.pick (.tmp 12) (.tmp 24) (.const (.bool false)))])
 (.cond (.tmp 25)
 .skip
 (.exit 0)))
 (.block 1
 (.ops [Zo 26 4,
 Zw 27 .sub 26 1,
 Zo 4 27])))))
 (.seq (.ops [Zo 28 4,
 Zo 2 28])
 .ret)))))⟩
theorem h41 : strF Tryz.prog [] Tryz.f41 = some c41 := by kernel_rfl
def c42 : Fun := ⟨50,[.inl 6,.inl 7],
 (.seq (.ops [Zs 6 (.mv (.const (.slice none 0 0))),
 Zs 7 (.mv (Zi 0))])
 (.seq (.seq (.ops [Zo 10 0,
 Zs 11 (.call 14 [(.tmp 10)]),
 Zw 12 .eql 11 0,
 Zo 13 12,
 ⟨some 14,some (13,false),.mv (.tmp 2)⟩,
 ⟨some 15,some (13,false),.bin .lss (.tmp 14) (Zi 0)⟩,
 Zs 16 (.pick (.tmp 13) (.const (.bool true)) (.tmp 15)),
 Zo 17 16,
 ⟨some 18,some (17,false),.mv (.tmp 2)⟩,
 ⟨some 19,some (17,false),.bin .gtr (.tmp 18) (Zi 2048)⟩,
 Zs 20 (.pick (.tmp 17) (.const (.bool true)) (.tmp 19))])
 (.cond (.tmp 20)
 (.seq (.ops [Zs 6 (.mv (.const (.slice none 0 0))),
 Zs 7 (.mv (Zi 1))])
 .ret)
 .skip))
 (.seq (.ops [Zs 8 (.mv (.const (.slice none 0 0)))])
 (.seq (.seq (.ops [Zs 9 (.mv (Zi 0))])
 (.block 0
 (.loop
 (.seq (.seq (.ops [Zo 21 8,
 Zr 22 21,
 Zo 23 2,
 Zy 24 .lss 22 23])
 (.cond (.tmp 24)
 .skip
 (.exit 0)))
 (.seq (.block 1
 (.ops [Zo 27 8,
 Zo 28 0,
 Zs 29 (.bsl0 5),
 Zo 30 1,
 Zs 31 (.app 5 1 1 #[(.int .u8 0)] (.tmp 29) (.tmp 30)),
 Zo 32 9,
 Zs 33 (.bin .shr (.tmp 32) (.const (.int .u64 24))),
 Zs 34 (.cv .u8 (.tmp 33)),
 Zo 35 9,
 Zs 36 (.bin .shr (.tmp 35) (.const (.int .u64 16))),
 Zs 37 (.cv .u8 (.tmp 36)),
 Zo 38 9,
 Zs 39 (.bin .shr (.tmp 38) (.const (.int .u64 8))),
 Zs 40 (.cv .u8 (.tmp 39)),
 Zo 41 9,
 Zs 42 (.cv .u8 (.tmp 41)),
 Zs 43 (.bsl 5 1 4 #[(.int .u8 0)] [(0,(.tmp 34)),(1,(.tmp 37)),(2,(.tmp 40)),(3,(.tmp 42))]),
 Zs 44 (.app 5 1 1 #[(.int .u8 0)] (.tmp 31) (.tmp 43)),
 Zs 45 (.call 16 [(.tmp 28),(.tmp 44)]),
 Zs 46 (.app 5 1 1 #[(.int .u8 0)] (.tmp 27) (.tmp 45)),
 Zo 8 46]))
 (.ops [Zo 25 9,
 Zw 26 .add 25 1,
 Zo 9 26]))))))
 (.seq (.ops [Zo 47 8,
 Zo 48 2,
 Zs 49 (.slc 1 (.tmp 47) none (some (.tmp 48)) none),
 Zo 6 49,
 Zs 7 (.mv (Zi 0))])
 .ret)))))⟩
theorem h42 : strF Tryz.prog [] Tryz.f42 = some c42 := by kernel_rfl
def c44 : Fun := ⟨54,[.inl 4],
 (.seq (.ops [Zs 4 (.mv (.const (.slice none 0 0)))])
 (.seq (.ops [Zo 18 0,
 Zs 19 (.call 76 [(.tmp 18)]),
 Zs 20 (.call 75 [(.tmp 19)]),
 Zo 17 20,
 Zs 21 (.ext (.tmp 17) 0),
 Zs 22 (.ext (.tmp 17) 1),
 Zo 5 21,
 Zo 6 22])
 (.seq (.ops [Zo 24 5,
 Zs 25 (.bsl 25 1 1 #[(.slice none 0 0)] [(0,(.tmp 24))]),
 Zs 26 (.call 77 [(Zi 0),(Zi 6),(.const (.bool false)),(.tmp 25)]),
 Zo 23 26,
 Zs 27 (.ext (.tmp 23) 0),
 Zs 28 (.ext (.tmp 23) 1),
 Zo 7 27,
 Zo 8 28])
 (.seq (.ops [Zs 30 (.call 77 [(Zi 0),(Zi 5),(.const (.bool false)),(.const (.slice none 0 0))]),
 Zo 29 30,
 Zs 31 (.ext (.tmp 29) 0),
 Zs 32 (.ext (.tmp 29) 1),
 Zo 9 31,
 Zo 10 32])
 (.seq (.ops [Zo 34 7,
 Zo 35 9,
 Zs 36 (.bsl 25 1 2 #[(.slice none 0 0)] [(0,(.tmp 34)),(1,(.tmp 35))]),
 Zs 37 (.call 77 [(Zi 0),(Zi 16),(.const (.bool true)),(.tmp 36)]),
 Zo 33 37,
 Zs 38 (.ext (.tmp 33) 0),
 Zs 39 (.ext (.tmp 33) 1),
 Zo 11 38,
 Zo 12 39])
 (.seq (.ops [Zo 41 1,
 Zs 42 (.bsl 25 1 1 #[(.slice none 0 0)] [(0,(.tmp 41))]),
 Zs 43 (.call 77 [(Zi 0),(Zi 4),(.const (.bool false)),(.tmp 42)]),
 Zo 40 43,
 Zs 44 (.ext (.tmp 40) 0),
 Zs 45 (.ext (.tmp 40) 1),
 Zo 13 44,
 Zo 14 45])
 (.seq (.ops [Zo 47 11,
 Zo 48 13,
 Zs 49 (.bsl 25 1 2 #[(.slice none 0 0)] [(0,(.tmp 47)),(1,(.tmp 48))]),
 Zs 50 (.call 77 [(Zi 0),(Zi 16),(.const (.bool true)),(.tmp 49)]),
 Zo 46 50,
 Zs 51 (.ext (.tmp 46) 0),
 Zs 52 (.ext (.tmp 46) 1),
 Zo 15 51,
 Zo 16 52])
 (.seq (.ops [Zo 53 15,
 Zo 4 53])
 .ret))))))))⟩
theorem h44 : strF Tryz.prog [] Tryz.f44 = some c44 := by kernel_rfl
def c45 : Fun := ⟨77,[.inl 4],
 (.seq (.ops [Zs 4 (.mv (.const (.slice none 0 0)))])
 (.seq (.seq (.ops [Zo 12 1,
 Zw 13 .eql 12 0])
 (.cond (.tmp 13)
 (.seq (.ops [Zs 14 (.bsl0 5),
 Zo 4 14])
 .ret)
 .skip))
 (.join (.seq (.ops [Zo 15 1,
 Zw 16 .lss 15 0])
 (.cond (.tmp 16)
 (.ops [Zs 17 (.mki 9 (.const (.string ⟨#[98,121,116,101,115,58,32,110,101,103,97,116,105,118,101,32,82,101,112,101,97,116,32,99,111,117,110,116]⟩))),
 ⟨none,none,.no⟩])
 .skip))
 (.seq (.ops [Zo 19 0,
 Zr 20 19,
 Zs 21 (.cv .u64 (.tmp 20)),
 Zo 22 1,
 Zs 23 (.cv .u64 (.tmp 22)),
 Zs 24 (.call 78 [(.tmp 21),(.tmp 23)]),
 Zo 18 24,
 Zs 25 (.ext (.tmp 18) 0),
 Zs 26 (.ext (.tmp 18) 1),
 Zo 5 25,
 Zo 6 26])
 (.join (.seq (.ops [Zo 27 5,
 Zs 28 (.bin .gtr (.tmp 27) (.const (.int .u64 0))),
 Zo 29 28,
 ⟨some 30,some (29,false),.mv (.tmp 6)⟩,
 ⟨some 31,some (29,false),.bin .gtr (.tmp 30) (.const (.int .u64 9223372036854775807))⟩,
 Zs 32 (.pick (.tmp 29) (.const (.bool true)) (.tmp 31))])
 (.cond (.tmp 32)
 (.ops [Zs 33 (.mki 9 (.const (.string ⟨#[98,121,116,101,115,58,32,82,101,112,101,97,116,32,111,117,116,112,117,116,32,108,101,110,103,116,104,32,111,118,101,114,102,108,111,119]⟩))),
 ⟨none,none,.no⟩])
 .skip))
 (.seq (.ops [Zo 34 6,
 Zs 35 (.cv .i64 (.tmp 34)),
 Zo 7 35])
 (.seq (.seq (.ops [Zo 36 0,
 Zr 37 36,
 Zw 38 .eql 37 0])
 (.cond (.tmp 38)
 (.seq (.ops [Zs 39 (.bsl0 5),
 Zo 4 39])
 .ret)
 .skip))
 (.seq (.ops [Zo 40 7,
 Zo 8 40])
 (.join (.seq (.ops [Zo 41 8,
 Zw 42 .gtr 41 8192])
 (.cond (.tmp 42)
 (.seq (.ops [Zo 43 0,
 Zr 44 43,
 Zs 45 (.bin .quo (Zi 8192) (.tmp 44)),
 Zo 46 0,
 Zr 47 46,
 Zy 48 .mul 45 47,
 Zo 8 48])
 (.seq (.ops [Zo 49 8,
 Zw 50 .eql 49 0])
 (.cond (.tmp 50)
 (.ops [Zo 51 0,
 Zr 52 51,
 Zo 8 52])
 .skip)))
 .skip))
 (.seq (.ops [Zo 53 7,
 Zs 54 (.raw (.call { callee := .value (.func 79),args := #[(.tmp 53)],argTypes := #[3] })),
 Zo 55 7,
 Zo 56 7,
 Zs 57 (.slc 1 (.tmp 54) none (some (.tmp 55)) (some (.tmp 56))),
 Zo 9 57])
 (.seq (.ops [Zo 58 9,
 Zo 59 0,
 Zs 60 (.cpy 1 (.tmp 58) (.tmp 59)),
 Zo 10 60])
 (.seq (.block 0
 (.loop
 (.seq (.seq (.ops [Zo 61 10,
 Zo 62 7,
 Zy 63 .lss 61 62])
 (.cond (.tmp 63)
 .skip
 (.exit 0)))
 (.block 1
 (.seq (.ops [Zo 64 10,
 Zo 65 8,
 Zs 66 (.min2 (.tmp 64) (.tmp 65)),
 Zo 11 66])
 (.drawS [(0,0),(0,1),(0,2),(0,3),(0,4),(0,5),(0,6),(2,7),(0,8),(0,9)]
 [Zo 67 10,
 Zo 68 9,
 Zo 69 10,
 Zs 70 (.slc 1 (.tmp 68) (some (.tmp 69)) none none),
 Zo 71 9,
 Zo 72 11,
 Zs 73 (.slc 1 (.tmp 71) none (some (.tmp 72)) none),
 Zs 74 (.cpy 1 (.tmp 70) (.tmp 73)),
 Zy 75 .add 67 74,
 Zo 10 75]))))))
 (.seq (.ops [Zo 76 9,
 Zo 4 76])
 .ret)))))))))))))⟩
theorem h45 : strF Tryz.prog [(20,.inl [(0,0),(0,1),(0,2),(0,3),(0,4),(0,5),(0,6),(2,7),(0,8),(0,9)])] Tryz.f45 = some c45 := by kernel_rfl
def c46 : Fun := ⟨42,[.inl 2,.inl 3],
 (.seq (.ops [Zs 2 (.mv (.const (.slice none 0 0))),
 Zs 3 (.mv (Zi 0))])
 (.seq (.seq (.ops [Zo 6 0,
 Zr 7 6,
 Zw 8 .gtr 7 2048])
 (.cond (.tmp 8)
 (.seq (.ops [Zs 2 (.mv (.const (.slice none 0 0))),
 Zs 3 (.mv (Zi 3))])
 .ret)
 .skip))
 (.seq (.ops [Zo 9 0,
 Zr 10 9,
 Zw 11 .add 10 3,
 Zw 12 .quo 11 4,
 Zs 13 (.mks 50 1 4 #[(.int .u32 0)] (.tmp 12) (.tmp 12)),
 Zo 4 13])
 (.seq (.seq (.ops [Zo 14 0,
 Zr 15 14,
 Zs 16 (.mv (Zi 0))])
 (.block 0
 (.loop
 (.seq (.ops [Zy 17 .lss 16 15])
 (.seq (.cond (.tmp 17)
 .skip
 (.exit 0))
 (.seq (.block 1
 (.seq (.ops [Zo 18 16,
 Zo 5 18])
 (.draw 20 [Zo 19 4,
 Zo 20 5,
 Zw 21 .quo 20 4,
 Zt 22 1 19 21,
 Zh 23 .u32 22,
 Zo 24 0,
 Zo 25 0,
 Zr 26 25,
 Zw 27 .sub 26 1,
 Zo 28 5,
 Zy 29 .sub 27 28,
 Zt 30 1 24 29,
 Zh 31 .u8 30,
 Zs 32 (.cv .u32 (.tmp 31)),
 Zo 33 5,
 Zw 34 .rem 33 4,
 Zs 35 (.bin .mul (Zi 8) (.tmp 34)),
 Zy 36 .shl 32 35,
 Zy 37 .or 23 36,
 Zt 38 1 19 21,
 ⟨none,none,.st 1 (.tmp 38) (.tmp 37)⟩])))
 (.ops [Zw 39 .add 16 1,
 Zo 16 39])))))))
 (.seq (.ops [Zo 40 4,
 Zs 41 (.call 64 [(.tmp 40)]),
 Zo 2 41,
 Zs 3 (.mv (Zi 0))])
 .ret)))))⟩
theorem h46 : strF Tryz.prog [] Tryz.f46 = some c46 := by kernel_rfl
def c47 : Fun := ⟨52,[.inl 4],
 (.seq (.ops [Zs 4 (.mv (Zi 0))])
 (.seq (.ops [Zo 7 0,
 Zs 8 (.call 64 [(.tmp 7)]),
 Zo 9 1,
 Zs 10 (.call 64 [(.tmp 9)]),
 Zo 0 8,
 Zo 1 10])
 (.seq (.block 0
 (.seq (.ops [Zo 12 0,
 Zr 13 12,
 Zo 14 1,
 Zr 15 14,
 Zy 16 .lss 13 15,
 Zo 11 16])
 (.cond (.tmp 11)
 (.seq (.ops [Zs 4 (.mv (.const (.int .i64 (-1))))])
 .ret)
 (.seq (.ops [Zo 18 0,
 Zr 19 18,
 Zo 20 1,
 Zr 21 20,
 Zy 22 .gtr 19 21,
 Zo 17 22])
 (.cond (.tmp 17)
 (.seq (.ops [Zs 4 (.mv (Zi 1))])
 .ret)
 .skip)))))
 (.seq (.seq (.ops [Zo 23 0,
 Zr 24 23,
 Zs 25 (.mv (Zi 0))])
 (.block 1
 (.loop
 (.seq (.ops [Zy 26 .lss 25 24])
 (.seq (.cond (.tmp 26)
 .skip
 (.exit 1))
 (.seq (.block 2
 (.seq (.ops [Zo 27 25,
 Zo 5 27])
 (.seq (.ops [Zo 28 0,
 Zr 29 28,
 Zw 30 .sub 29 1,
 Zo 31 5,
 Zy 32 .sub 30 31,
 Zo 6 32])
 (.seq (.seq (.draw 9 [Zo 33 0,
 Zo 34 6,
 Zt 35 1 33 34,
 Zh 36 .u32 35,
 Zo 37 1,
 Zo 38 6,
 Zt 39 1 37 38,
 Zh 40 .u32 39,
 Zy 41 .lss 36 40])
 (.cond (.tmp 41)
 (.seq (.ops [Zs 4 (.mv (.const (.int .i64 (-1))))])
 .ret)
 .skip))
 (.seq (.draw 9 [Zo 42 0,
 Zo 43 6,
 Zt 44 1 42 43,
 Zh 45 .u32 44,
 Zo 46 1,
 Zo 47 6,
 Zt 48 1 46 47,
 Zh 49 .u32 48,
 Zy 50 .gtr 45 49])
 (.cond (.tmp 50)
 (.seq (.ops [Zs 4 (.mv (Zi 1))])
 .ret)
 .skip))))))
 (.ops [Zw 51 .add 25 1,
 Zo 25 51])))))))
 (.seq (.ops [Zs 4 (.mv (Zi 0))])
 .ret)))))⟩
theorem h47 : strF Tryz.prog [] Tryz.f47 = some c47 := by kernel_rfl
def c48 : Fun := ⟨93,[.inl 6,.inl 7],
 (.seq (.ops [Zs 6 (.mv (.const (.slice none 0 0))),
 Zs 7 (.mv (Zi 0))])
 (.join (.block 0
 (.seq (.block 3
 (.join (.block 2
 (.block 1
 (.seq (.seq (.seq (.ops [Zo 17 0,
 Zs 18 (.bsl 22 1 1 #[(.slice none 0 0)] [(0,(.tmp 17))]),
 Zs 19 (.call 80 [(Zi 512),(.tmp 18)]),
 Zo 16 19])
 (.cond (.tmp 16)
 (.exit 1)
 .skip))
 (.seq (.seq (.ops [Zo 21 1,
 Zo 22 2,
 Zs 23 (.bsl 22 1 2 #[(.slice none 0 0)] [(0,(.tmp 21)),(1,(.tmp 22))]),
 Zs 24 (.call 80 [(Zi 256),(.tmp 23)]),
 Zo 20 24])
 (.cond (.tmp 20)
 (.exit 2)
 .skip))
 (.seq (.ops [Zo 26 2,
 Zs 27 (.call 38 [(.tmp 26)]),
 Zw 28 .eql 27 0,
 Zo 25 28])
 (.cond (.tmp 25)
 (.exit 3)
 .skip))))
 (.exit 0))))
 (.seq (.seq (.ops [Zs 6 (.mv (.const (.slice none 0 0))),
 Zs 7 (.mv (Zi 3))])
 .ret)
 (.exit 0))))
 (.seq (.seq (.ops [Zs 6 (.mv (.const (.slice none 0 0))),
 Zs 7 (.mv (Zi 11))])
 .ret)
 (.exit 0))))
 (.seq (.ops [Zo 29 2,
 Zs 30 (.call 64 [(.tmp 29)]),
 Zo 2 30])
 (.seq (.ops [Zs 32 (.bsl 50 1 1 #[(.int .u32 0)] [(0,(.const (.int .u32 1)))]),
 Zo 33 2,
 Zs 34 (.call 81 [(.tmp 32),(.tmp 33)]),
 Zo 31 34,
 Zs 35 (.ext (.tmp 31) 0),
 Zs 36 (.ext (.tmp 31) 1),
 Zo 8 35,
 Zo 9 36])
 (.seq (.ops [Zo 38 0,
 Zo 39 2,
 Zs 40 (.call 81 [(.tmp 38),(.tmp 39)]),
 Zo 37 40,
 Zs 41 (.ext (.tmp 37) 0),
 Zs 42 (.ext (.tmp 37) 1),
 Zo 10 41,
 Zo 11 42])
 (.seq (.ops [Zs 12 (.alloc 117 (.agg (Array.replicate 16 (.slice none 0 0))))])
 (.seq (.ops [Zo 43 9,
 Zs 44 (.iaA 16 1 (.tmp 12) (Zi 0)),
 ⟨none,none,.st 1 (.tmp 44) (.tmp 43)⟩])
 (.seq (.seq (.ops [Zs 45 (.mv (Zi 0))])
 (.block 4
 (.loop
 (.seq (.ops [Zw 46 .lss 45 15])
 (.seq (.cond (.tmp 46)
 .skip
 (.exit 4))
 (.seq (.block 5
 (.seq (.ops [Zo 47 45,
 Zo 13 47])
 (.ops [Zo 48 13,
 Zw 49 .add 48 1,
 Zo 50 13,
 Zs 51 (.iaA 16 1 (.tmp 12) (.tmp 50)),
 Zs 52 (.ld .slice (.tmp 51)),
 Zo 53 11,
 Zo 54 2,
 Zs 55 (.call 82 [(.tmp 52),(.tmp 53),(.tmp 54)]),
 Zs 56 (.iaA 16 1 (.tmp 12) (.tmp 49)),
 ⟨none,none,.st 1 (.tmp 56) (.tmp 55)⟩])))
 (.ops [Zw 57 .add 45 1,
 Zo 45 57])))))))
 (.seq (.ops [Zo 58 9,
 Zo 14 58])
 (.seq (.seq (.ops [Zo 59 1,
 Zs 60 (.call 38 [(.tmp 59)]),
 Zw 61 .add 60 3,
 Zw 62 .quo 61 4,
 Zw 63 .mul 62 4,
 Zo 15 63])
 (.block 6
 (.loop
 (.seq (.seq (.ops [Zo 64 15,
 Zw 65 .gtr 64 0])
 (.cond (.tmp 65)
 .skip
 (.exit 6)))
 (.seq (.block 7
 (.seq (.seq (.ops [Zs 68 (.mv (Zi 0))])
 (.block 8
 (.loop
 (.seq (.ops [Zw 69 .lss 68 4])
 (.seq (.cond (.tmp 69)
 .skip
 (.exit 8))
 (.seq (.block 9
 (.ops [Zo 70 14,
 Zo 71 14,
 Zo 72 2,
 Zs 73 (.call 82 [(.tmp 70),(.tmp 71),(.tmp 72)]),
 Zo 14 73]))
 (.ops [Zw 74 .add 68 1,
 Zo 68 74])))))))
 (.ops [Zo 75 14,
 Zo 76 1,
 Zo 77 15,
 Zw 78 .sub 77 4,
 Zw 79 .quo 78 32,
 Zt 80 1 76 79,
 Zh 81 .u32 80,
 Zo 82 15,
 Zw 83 .sub 82 4,
 Zw 84 .rem 83 32,
 Zy 85 .shr 81 84,
 Zs 86 (.bin .and (.tmp 85) (.const (.int .u32 15))),
 Zs 87 (.iaA 16 1 (.tmp 12) (.tmp 86)),
 Zs 88 (.ld .slice (.tmp 87)),
 Zo 89 2,
 Zs 90 (.call 82 [(.tmp 75),(.tmp 88),(.tmp 89)]),
 Zo 14 90])))
 (.ops [Zo 66 15,
 Zw 67 .sub 66 4,
 Zo 15 67]))))))
 (.seq (.ops [Zo 91 14,
 Zs 92 (.call 83 [(.tmp 91)]),
 Zo 6 92,
 Zs 7 (.mv (Zi 0))])
 .ret)))))))))))⟩
theorem h48 : strF Tryz.prog [] Tryz.f48 = some c48 := by kernel_rfl
def c49 : Fun := ⟨55,[.inl 4,.inl 5],
 (.seq (.ops [Zs 4 (.mv (.const (.slice none 0 0))),
 Zs 5 (.mv (Zi 0))])
 (.seq (.block 0
 (.seq (.ops [Zo 9 0,
 Zs 10 (.bsl 22 1 1 #[(.slice none 0 0)] [(0,(.tmp 9))]),
 Zs 11 (.call 80 [(Zi 512),(.tmp 10)]),
 Zo 8 11])
 (.cond (.tmp 8)
 (.seq (.ops [Zs 4 (.mv (.const (.slice none 0 0))),
 Zs 5 (.mv (Zi 3))])
 .ret)
 (.seq (.ops [Zo 13 1,
 Zw 14 .lss 13 0,
 Zo 15 14,
 ⟨some 16,some (15,false),.mv (.tmp 1)⟩,
 ⟨some 17,some (15,false),.bin .gtr (.tmp 16) (Zi 2048)⟩,
 Zs 18 (.pick (.tmp 15) (.const (.bool true)) (.tmp 17)),
 Zo 12 18])
 (.cond (.tmp 12)
 (.seq (.ops [Zs 4 (.mv (.const (.slice none 0 0))),
 Zs 5 (.mv (Zi 1))])
 .ret)
 (.seq (.ops [Zo 20 0,
 Zs 21 (.call 38 [(.tmp 20)]),
 Zw 22 .add 21 7,
 Zw 23 .quo 22 8,
 Zo 24 1,
 Zy 25 .gtr 23 24,
 Zo 19 25])
 (.cond (.tmp 19)
 (.seq (.ops [Zs 4 (.mv (.const (.slice none 0 0))),
 Zs 5 (.mv (Zi 3))])
 .ret)
 .skip)))))))
 (.seq (.ops [Zo 26 1,
 Zs 27 (.mks 5 1 1 #[(.int .u8 0)] (.tmp 26) (.tmp 26)),
 Zo 6 27])
 (.seq (.seq (.ops [Zo 28 1,
 Zs 29 (.mv (Zi 0))])
 (.block 1
 (.loop
 (.seq (.ops [Zy 30 .lss 29 28])
 (.seq (.cond (.tmp 30)
 .skip
 (.exit 1))
 (.join (.block 2
 (.seq (.ops [Zo 31 29,
 Zo 7 31])
 (.seq (.ops [Zo 32 7,
 Zw 33 .quo 32 4,
 Zo 34 0,
 Zr 35 34,
 Zy 36 .lss 33 35])
 (.cond (.tmp 36)
 (.ops [Zo 37 6,
 Zo 38 1,
 Zw 39 .sub 38 1,
 Zo 40 7,
 Zy 41 .sub 39 40,
 Zo 42 0,
 Zo 43 7,
 Zw 44 .quo 43 4,
 Zt 45 1 42 44,
 Zh 46 .u32 45,
 Zo 47 7,
 Zw 48 .rem 47 4,
 Zs 49 (.bin .mul (Zi 8) (.tmp 48)),
 Zy 50 .shr 46 49,
 Zs 51 (.cv .u8 (.tmp 50)),
 Zt 52 1 37 41,
 ⟨none,none,.st 1 (.tmp 52) (.tmp 51)⟩])
 .skip))))
 (.ops [Zw 53 .add 29 1,
 Zo 29 53])))))))
 (.seq (.ops [Zo 54 6,
 Zo 4 54,
 Zs 5 (.mv (Zi 0))])
 .ret)))))⟩
theorem h49 : strF Tryz.prog [] Tryz.f49 = some c49 := by kernel_rfl
def c50 : Fun := ⟨47,[.inl 2],
 (.seq (.ops [Zs 1 (.box 24 (.tmp 0)),
 Zs 2 (.mv (Zi 0))])
 (.seq (.seq (.ops [Zs 3 (.fa 0 (.tmp 1)),
 Zs 4 (.ld .slice (.tmp 3)),
 Zr 5 4,
 Zw 6 .gtr 5 256,
 Zo 7 6,
 ⟨some 8,some (7,false),.fa 1 (.tmp 1)⟩,
 ⟨some 9,some (7,false),.ld .slice (.tmp 8)⟩,
 ⟨some 10,some (7,false),.len (.tmp 9)⟩,
 ⟨some 11,some (7,false),.bin .gtr (.tmp 10) (Zi 256)⟩,
 Zs 12 (.pick (.tmp 7) (.const (.bool true)) (.tmp 11)),
 Zo 13 12,
 ⟨some 14,some (13,false),.fa 0 (.tmp 1)⟩,
 ⟨some 15,some (13,false),.ld .slice (.tmp 14)⟩,
 ⟨some 16,some (13,false),.call 41 [(.tmp 15)]⟩,
 ⟨some 17,some (13,false),.bin .lss (.tmp 16) (Zi 512)⟩,
 Zs 18 (.pick (.tmp 13) (.const (.bool true)) (.tmp 17)),
 Zo 19 18,
 ⟨some 20,some (19,false),.fa 1 (.tmp 1)⟩,
 ⟨some 21,some (19,false),.ld .slice (.tmp 20)⟩,
 ⟨some 22,some (19,false),.call 41 [(.tmp 21)]⟩,
 ⟨some 23,some (19,false),.bin .lss (.tmp 22) (Zi 2)⟩,
 Zs 24 (.pick (.tmp 19) (.const (.bool true)) (.tmp 23)),
 Zo 25 24,
 ⟨some 26,some (25,false),.fa 1 (.tmp 1)⟩,
 ⟨some 27,some (25,false),.ld .slice (.tmp 26)⟩,
 ⟨some 28,some (25,false),.call 41 [(.tmp 27)]⟩,
 ⟨some 29,some (25,false),.bin .gtr (.tmp 28) (Zi 64)⟩,
 Zs 30 (.pick (.tmp 25) (.const (.bool true)) (.tmp 29)),
 Zo 31 30,
 ⟨some 32,some (31,false),.fa 0 (.tmp 1)⟩,
 ⟨some 33,some (31,false),.ld .slice (.tmp 32)⟩,
 ⟨some 34,some (31,false),.ia 1 (.tmp 33) (Zi 0)⟩,
 ⟨some 35,some (31,false),.ld (.int .u32) (.tmp 34)⟩,
 ⟨some 36,some (31,false),.bin .rem (.tmp 35) (.const (.int .u32 2))⟩,
 ⟨some 37,some (31,false),.bin .eql (.tmp 36) (.const (.int .u32 0))⟩,
 Zs 38 (.pick (.tmp 31) (.const (.bool true)) (.tmp 37)),
 Zo 39 38,
 ⟨some 40,some (39,false),.fa 1 (.tmp 1)⟩,
 ⟨some 41,some (39,false),.ld .slice (.tmp 40)⟩,
 ⟨some 42,some (39,false),.ia 1 (.tmp 41) (Zi 0)⟩,
 ⟨some 43,some (39,false),.ld (.int .u32) (.tmp 42)⟩,
 ⟨some 44,some (39,false),.bin .rem (.tmp 43) (.const (.int .u32 2))⟩,
 ⟨some 45,some (39,false),.bin .eql (.tmp 44) (.const (.int .u32 0))⟩,
 Zs 46 (.pick (.tmp 39) (.const (.bool true)) (.tmp 45))])
 (.cond (.tmp 46)
 (.seq (.ops [Zs 2 (.mv (Zi 80))])
 .ret)
 .skip))
 (.seq (.ops [Zs 2 (.mv (Zi 0))])
 .ret)))⟩
theorem h50 : strF Tryz.prog [] Tryz.f50 = some c50 := by kernel_rfl
def c51 : Fun := ⟨39,[.inl 2,.inl 3],
 (.seq (.ops [Zs 2 (.mv (.const (.slice none 0 0))),
 Zs 3 (.mv (Zi 0))])
 (.seq (.seq (.ops [Zo 7 0,
 Zr 8 7,
 Zw 9 .gtr 8 2048])
 (.cond (.tmp 9)
 (.seq (.ops [Zs 2 (.mv (.const (.slice none 0 0))),
 Zs 3 (.mv (Zi 3))])
 .ret)
 .skip))
 (.seq (.ops [Zs 4 (.mv (.const (.slice none 0 0)))])
 (.seq (.seq (.ops [Zo 10 0,
 Zr 11 10,
 Zw 12 .sub 11 1,
 Zo 5 12])
 (.block 0
 (.loop
 (.seq (.seq (.ops [Zo 13 5,
 Zw 14 .geq 13 0])
 (.cond (.tmp 14)
 .skip
 (.exit 0)))
 (.seq (.block 1
 (.seq (.ops [Zo 17 0,
 Zo 18 5,
 Zt 19 1 17 18,
 Zh 20 .u8 19,
 Zs 21 (.cv .u64 (.tmp 20)),
 Zo 6 21])
 (.join (.seq (.ops [Zo 22 5,
 Zw 23 .gtr 22 0])
 (.cond (.tmp 23)
 (.ops [Zo 24 6,
 Zo 25 0,
 Zo 26 5,
 Zw 27 .sub 26 1,
 Zt 28 1 25 27,
 Zh 29 .u8 28,
 Zs 30 (.cv .u64 (.tmp 29)),
 Zs 31 (.bin .shl (.tmp 30) (.const (.int .u64 8))),
 Zy 32 .add 24 31,
 Zo 6 32])
 .skip))
 (.ops [Zo 33 4,
 Zo 34 6,
 Zs 35 (.bsl 60 1 1 #[(.int .u64 0)] [(0,(.tmp 34))]),
 Zs 36 (.app 60 1 8 #[(.int .u64 0)] (.tmp 33) (.tmp 35)),
 Zo 4 36]))))
 (.ops [Zo 15 5,
 Zw 16 .sub 15 2,
 Zo 5 16]))))))
 (.seq (.ops [Zo 37 4,
 Zs 38 (.call 84 [(.tmp 37)]),
 Zo 2 38,
 Zs 3 (.mv (Zi 0))])
 .ret)))))⟩
theorem h51 : strF Tryz.prog [] Tryz.f51 = some c51 := by kernel_rfl
def c53 : Fun := ⟨122,[.inl 6,.inl 7],
 (.seq (.ops [Zs 6 (.mv (.const (.slice none 0 0))),
 Zs 7 (.mv (Zi 0))])
 (.seq (.seq (.ops [Zo 20 0,
 Zr 21 20,
 Zw 22 .gtr 21 512,
 Zo 23 22,
 ⟨some 24,some (23,false),.mv (.tmp 1)⟩,
 ⟨some 25,some (23,false),.mv (.tmp 2)⟩,
 ⟨some 26,some (23,false),.call 86 [(Zi 256),(.tmp 24),(.tmp 25)]⟩,
 Zs 27 (.pick (.tmp 23) (.const (.bool true)) (.tmp 26))])
 (.cond (.tmp 27)
 (.seq (.ops [Zs 6 (.mv (.const (.slice none 0 0))),
 Zs 7 (.mv (Zi 3))])
 .ret)
 .skip))
 (.seq (.ops [Zo 28 2,
 Zs 29 (.call 73 [(.tmp 28)]),
 Zo 8 29])
 (.seq (.seq (.ops [Zo 30 8,
 Zr 31 30,
 Zw 32 .eql 31 0])
 (.cond (.tmp 32)
 (.seq (.ops [Zs 6 (.mv (.const (.slice none 0 0))),
 Zs 7 (.mv (Zi 11))])
 .ret)
 .skip))
 (.seq (.ops [Zo 33 8,
 Zs 34 (.call 84 [(.tmp 33)]),
 Zo 2 34])
 (.seq (.ops [Zs 35 (.bsl 60 1 1 #[(.int .u64 0)] [(0,(.const (.int .u64 1)))]),
 Zo 9 35])
 (.seq (.block 0
 (.loop
 (.seq (.seq (.ops [Zo 36 2,
 Zo 37 2,
 Zr 38 37,
 Zw 39 .sub 38 1,
 Zt 40 1 36 39,
 Zh 41 .u32 40,
 Zs 42 (.bin .lss (.tmp 41) (.const (.int .u32 2147483648)))])
 (.cond (.tmp 42)
 .skip
 (.exit 0)))
 (.block 1
 (.seq (.ops [Zo 43 2,
 Zs 44 (.call 73 [(.tmp 43)]),
 Zo 45 2,
 Zs 46 (.call 73 [(.tmp 45)]),
 Zs 47 (.call 87 [(.tmp 44),(.tmp 46)]),
 Zs 48 (.call 84 [(.tmp 47)]),
 Zo 2 48])
 (.ops [Zo 49 9,
 Zo 50 9,
 Zs 51 (.call 87 [(.tmp 49),(.tmp 50)]),
 Zo 9 51]))))))
 (.seq (.ops [Zo 52 2,
 Zo 53 2,
 Zr 54 53,
 Zs 55 (.call 88 [(.tmp 52),(.tmp 54)]),
 Zo 10 55])
 (.seq (.ops [Zo 57 0,
 Zs 58 (.call 73 [(.tmp 57)]),
 Zo 59 8,
 Zo 60 9,
 Zs 61 (.call 90 [(.tmp 59),(.tmp 60)]),
 Zs 62 (.call 89 [(.tmp 58),(.tmp 61)]),
 Zo 56 62,
 Zs 63 (.ext (.tmp 56) 0),
 Zs 64 (.ext (.tmp 56) 1),
 Zo 11 63,
 Zo 12 64])
 (.seq (.ops [Zo 65 12,
 Zs 66 (.call 84 [(.tmp 65)]),
 Zo 67 10,
 Zr 68 67,
 Zs 69 (.call 88 [(.tmp 66),(.tmp 68)]),
 Zo 13 69])
 (.seq (.ops [Zs 70 (.bsl 50 1 1 #[(.int .u32 0)] [(0,(.const (.int .u32 1)))]),
 Zo 71 10,
 Zr 72 71,
 Zs 73 (.call 88 [(.tmp 70),(.tmp 72)]),
 Zo 14 73])
 (.seq (.seq (.ops [Zo 74 1,
 Zs 75 (.call 41 [(.tmp 74)]),
 Zw 76 .sub 75 1,
 Zo 15 76])
 (.block 2
 (.loop
 (.seq (.seq (.ops [Zo 77 15,
 Zw 78 .geq 77 0])
 (.cond (.tmp 78)
 .skip
 (.exit 2)))
 (.join (.block 3
 (.seq (.ops [Zo 81 14,
 Zo 82 14,
 Zo 83 10,
 Zs 84 (.call 91 [(.tmp 81),(.tmp 82),(.tmp 83)]),
 Zo 14 84])
 (.seq (.ops [Zo 85 1,
 Zo 86 15,
 Zw 87 .quo 86 32,
 Zt 88 1 85 87,
 Zh 89 .u32 88,
 Zo 90 15,
 Zw 91 .rem 90 32,
 Zy 92 .shr 89 91,
 Zs 93 (.bin .and (.tmp 92) (.const (.int .u32 1))),
 Zs 94 (.bin .eql (.tmp 93) (.const (.int .u32 1)))])
 (.cond (.tmp 94)
 (.ops [Zo 95 14,
 Zo 96 13,
 Zo 97 10,
 Zs 98 (.call 91 [(.tmp 95),(.tmp 96),(.tmp 97)]),
 Zo 14 98])
 .skip))))
 (.ops [Zo 79 15,
 Zw 80 .sub 79 1,
 Zo 15 80]))))))
 (.seq (.ops [Zs 16 (.mv (.const (.slice none 0 0)))])
 (.seq (.seq (.ops [Zs 17 (.mv (Zi 0))])
 (.block 4
 (.loop
 (.seq (.seq (.ops [Zo 99 17,
 Zo 100 14,
 Zr 101 100,
 Zy 102 .lss 99 101])
 (.cond (.tmp 102)
 .skip
 (.exit 4)))
 (.seq (.block 5
 (.ops [Zo 105 16,
 Zo 106 14,
 Zo 107 17,
 Zt 108 1 106 107,
 Zh 109 .u64 108,
 Zs 110 (.cv .u32 (.tmp 109)),
 Zs 111 (.bsl 50 1 1 #[(.int .u32 0)] [(0,(.tmp 110))]),
 Zs 112 (.app 50 1 4 #[(.int .u32 0)] (.tmp 105) (.tmp 111)),
 Zo 16 112]))
 (.ops [Zo 103 17,
 Zw 104 .add 103 1,
 Zo 17 104]))))))
 (.seq (.ops [Zo 114 16,
 Zs 115 (.call 73 [(.tmp 114)]),
 Zo 116 8,
 Zs 117 (.call 89 [(.tmp 115),(.tmp 116)]),
 Zo 113 117,
 Zs 118 (.ext (.tmp 113) 0),
 Zs 119 (.ext (.tmp 113) 1),
 Zo 18 118,
 Zo 19 119])
 (.seq (.ops [Zo 120 19,
 Zs 121 (.call 84 [(.tmp 120)]),
 Zo 6 121,
 Zs 7 (.mv (Zi 0))])
 .ret))))))))))))))))⟩
theorem h53 : strF Tryz.prog [] Tryz.f53 = some c53 := by kernel_rfl
def c54 : Fun := ⟨48,[.inl 4,.inl 5],
 (.seq (.ops [Zs 4 (.mv (.const (.slice none 0 0))),
 Zs 5 (.mv (Zi 0))])
 (.seq (.seq (.ops [Zo 9 0,
 Zr 10 9,
 Zw 11 .gtr 10 512])
 (.cond (.tmp 11)
 (.seq (.ops [Zs 4 (.mv (.const (.slice none 0 0))),
 Zs 5 (.mv (Zi 3))])
 .ret)
 .skip))
 (.seq (.seq (.ops [Zo 12 1,
 Zw 13 .lss 12 0,
 Zo 14 13,
 ⟨some 15,some (14,false),.mv (.tmp 1)⟩,
 ⟨some 16,some (14,false),.bin .gtr (.tmp 15) (Zi 2048)⟩,
 Zs 17 (.pick (.tmp 14) (.const (.bool true)) (.tmp 16))])
 (.cond (.tmp 17)
 (.seq (.ops [Zs 4 (.mv (.const (.slice none 0 0))),
 Zs 5 (.mv (Zi 1))])
 .ret)
 .skip))
 (.seq (.ops [Zo 18 0,
 Zs 19 (.call 73 [(.tmp 18)]),
 Zo 6 19])
 (.seq (.seq (.ops [Zo 20 0,
 Zs 21 (.call 41 [(.tmp 20)]),
 Zo 22 1,
 Zs 23 (.bin .mul (Zi 8) (.tmp 22)),
 Zy 24 .gtr 21 23])
 (.cond (.tmp 24)
 (.seq (.ops [Zs 4 (.mv (.const (.slice none 0 0))),
 Zs 5 (.mv (Zi 3))])
 .ret)
 .skip))
 (.seq (.ops [Zo 25 1,
 Zs 26 (.mks 5 1 1 #[(.int .u8 0)] (.tmp 25) (.tmp 25)),
 Zo 7 26])
 (.seq (.seq (.ops [Zs 8 (.mv (Zi 0))])
 (.block 0
 (.loop
 (.seq (.seq (.ops [Zo 27 8,
 Zo 28 1,
 Zy 29 .lss 27 28])
 (.cond (.tmp 29)
 .skip
 (.exit 0)))
 (.seq (.block 1
 (.ops [Zo 32 7,
 Zo 33 1,
 Zw 34 .sub 33 1,
 Zo 35 8,
 Zy 36 .sub 34 35,
 Zo 37 6,
 Zo 38 8,
 Zw 39 .quo 38 2,
 Zs 40 (.call 92 [(.tmp 37),(.tmp 39)]),
 Zo 41 8,
 Zw 42 .rem 41 2,
 Zs 43 (.bin .mul (Zi 8) (.tmp 42)),
 Zy 44 .shr 40 43,
 Zs 45 (.cv .u8 (.tmp 44)),
 Zt 46 1 32 36,
 ⟨none,none,.st 1 (.tmp 46) (.tmp 45)⟩]))
 (.ops [Zo 30 8,
 Zw 31 .add 30 1,
 Zo 8 31]))))))
 (.seq (.ops [Zo 47 7,
 Zo 4 47,
 Zs 5 (.mv (Zi 0))])
 .ret))))))))⟩
theorem h54 : strF Tryz.prog [] Tryz.f54 = some c54 := by kernel_rfl
def c59 : Fun := ⟨13,[.inl 4],
 (.seq (.ops [Zs 4 (.mv (.const (.int .u32 0)))])
 (.seq (.draw 9 [Zo 5 0,
 Zo 6 1,
 Zy 7 .shl 5 6,
 Zo 8 0,
 Zo 9 1,
 Zs 10 (.bin .sub (Zi 32) (.tmp 9)),
 Zy 11 .shr 8 10,
 Zy 12 .or 7 11,
 Zo 4 12])
 .ret))⟩
theorem h59 : strF Tryz.prog [] Tryz.f59 = some c59 := by kernel_rfl
def c60 : Fun := ⟨2,[.inr ((.agg 64),0)],
 (.seq (.ops [Zs 0 (.alloc 85 (.agg (Array.replicate 64 (.int .u32 0))))])
 (.seq (.ops [Zs 1 (.bld (Array.replicate 64 (.int .u32 0)) [(0,1),(1,1),(2,1),(3,1),(4,1),(5,1),(6,1),(7,1),(8,1),(9,1),(10,1),(11,1),(12,1),(13,1),(14,1),(15,1),(16,1),(17,1),(18,1),(19,1),(20,1),(21,1),(22,1),(23,1),(24,1),(25,1),(26,1),(27,1),(28,1),(29,1),(30,1),(31,1),(32,1),(33,1),(34,1),(35,1),(36,1),(37,1),(38,1),(39,1),(40,1),(41,1),(42,1),(43,1),(44,1),(45,1),(46,1),(47,1),(48,1),(49,1),(50,1),(51,1),(52,1),(53,1),(54,1),(55,1),(56,1),(57,1),(58,1),(59,1),(60,1),(61,1),(62,1),(63,1)] [(0,(.const (.int .u32 1116352408))),(1,(.const (.int .u32 1899447441))),(2,(.const (.int .u32 3049323471))),(3,(.const (.int .u32 3921009573))),(4,(.const (.int .u32 961987163))),(5,(.const (.int .u32 1508970993))),(6,(.const (.int .u32 2453635748))),(7,(.const (.int .u32 2870763221))),(8,(.const (.int .u32 3624381080))),(9,(.const (.int .u32 310598401))),(10,(.const (.int .u32 607225278))),(11,(.const (.int .u32 1426881987))),(12,(.const (.int .u32 1925078388))),(13,(.const (.int .u32 2162078206))),(14,(.const (.int .u32 2614888103))),(15,(.const (.int .u32 3248222580))),(16,(.const (.int .u32 3835390401))),(17,(.const (.int .u32 4022224774))),(18,(.const (.int .u32 264347078))),(19,(.const (.int .u32 604807628))),(20,(.const (.int .u32 770255983))),(21,(.const (.int .u32 1249150122))),(22,(.const (.int .u32 1555081692))),(23,(.const (.int .u32 1996064986))),(24,(.const (.int .u32 2554220882))),(25,(.const (.int .u32 2821834349))),(26,(.const (.int .u32 2952996808))),(27,(.const (.int .u32 3210313671))),(28,(.const (.int .u32 3336571891))),(29,(.const (.int .u32 3584528711))),(30,(.const (.int .u32 113926993))),(31,(.const (.int .u32 338241895))),(32,(.const (.int .u32 666307205))),(33,(.const (.int .u32 773529912))),(34,(.const (.int .u32 1294757372))),(35,(.const (.int .u32 1396182291))),(36,(.const (.int .u32 1695183700))),(37,(.const (.int .u32 1986661051))),(38,(.const (.int .u32 2177026350))),(39,(.const (.int .u32 2456956037))),(40,(.const (.int .u32 2730485921))),(41,(.const (.int .u32 2820302411))),(42,(.const (.int .u32 3259730800))),(43,(.const (.int .u32 3345764771))),(44,(.const (.int .u32 3516065817))),(45,(.const (.int .u32 3600352804))),(46,(.const (.int .u32 4094571909))),(47,(.const (.int .u32 275423344))),(48,(.const (.int .u32 430227734))),(49,(.const (.int .u32 506948616))),(50,(.const (.int .u32 659060556))),(51,(.const (.int .u32 883997877))),(52,(.const (.int .u32 958139571))),(53,(.const (.int .u32 1322822218))),(54,(.const (.int .u32 1537002063))),(55,(.const (.int .u32 1747873779))),(56,(.const (.int .u32 1955562222))),(57,(.const (.int .u32 2024104815))),(58,(.const (.int .u32 2227730452))),(59,(.const (.int .u32 2361852424))),(60,(.const (.int .u32 2428436474))),(61,(.const (.int .u32 2756734187))),(62,(.const (.int .u32 3204031479))),(63,(.const (.int .u32 3329325298)))]),
 ⟨none,none,.st 64 (.tmp 0) (.tmp 1)⟩])
 .ret))⟩
theorem h60 : strF Tryz.prog [] Tryz.f60 = some c60 := by kernel_rfl
def c61 : Fun := ⟨13,[.inl 4],
 (.seq (.ops [Zs 4 (.mv (.const (.int .u32 0)))])
 (.seq (.draw 9 [Zo 5 0,
 Zo 6 1,
 Zy 7 .shr 5 6,
 Zo 8 0,
 Zo 9 1,
 Zs 10 (.bin .sub (Zi 32) (.tmp 9)),
 Zy 11 .shl 8 10,
 Zy 12 .or 7 11,
 Zo 4 12])
 .ret))⟩
theorem h61 : strF Tryz.prog [] Tryz.f61 = some c61 := by kernel_rfl
def c62 : Fun := ⟨2,[.inr ((.agg 80),0)],
 (.seq (.ops [Zs 0 (.alloc 88 (.agg (Array.replicate 80 (.int .u64 0))))])
 (.seq (.ops [Zs 1 (.bld (Array.replicate 80 (.int .u64 0)) [(0,1),(1,1),(2,1),(3,1),(4,1),(5,1),(6,1),(7,1),(8,1),(9,1),(10,1),(11,1),(12,1),(13,1),(14,1),(15,1),(16,1),(17,1),(18,1),(19,1),(20,1),(21,1),(22,1),(23,1),(24,1),(25,1),(26,1),(27,1),(28,1),(29,1),(30,1),(31,1),(32,1),(33,1),(34,1),(35,1),(36,1),(37,1),(38,1),(39,1),(40,1),(41,1),(42,1),(43,1),(44,1),(45,1),(46,1),(47,1),(48,1),(49,1),(50,1),(51,1),(52,1),(53,1),(54,1),(55,1),(56,1),(57,1),(58,1),(59,1),(60,1),(61,1),(62,1),(63,1),(64,1),(65,1),(66,1),(67,1),(68,1),(69,1),(70,1),(71,1),(72,1),(73,1),(74,1),(75,1),(76,1),(77,1),(78,1),(79,1)] [(0,(.const (.int .u64 4794697086780616226))),(1,(.const (.int .u64 8158064640168781261))),(2,(.const (.int .u64 13096744586834688815))),(3,(.const (.int .u64 16840607885511220156))),(4,(.const (.int .u64 4131703408338449720))),(5,(.const (.int .u64 6480981068601479193))),(6,(.const (.int .u64 10538285296894168987))),(7,(.const (.int .u64 12329834152419229976))),(8,(.const (.int .u64 15566598209576043074))),(9,(.const (.int .u64 1334009975649890238))),(10,(.const (.int .u64 2608012711638119052))),(11,(.const (.int .u64 6128411473006802146))),(12,(.const (.int .u64 8268148722764581231))),(13,(.const (.int .u64 9286055187155687089))),(14,(.const (.int .u64 11230858885718282805))),(15,(.const (.int .u64 13951009754708518548))),(16,(.const (.int .u64 16472876342353939154))),(17,(.const (.int .u64 17275323862435702243))),(18,(.const (.int .u64 1135362057144423861))),(19,(.const (.int .u64 2597628984639134821))),(20,(.const (.int .u64 3308224258029322869))),(21,(.const (.int .u64 5365058923640841347))),(22,(.const (.int .u64 6679025012923562964))),(23,(.const (.int .u64 8573033837759648693))),(24,(.const (.int .u64 10970295158949994411))),(25,(.const (.int .u64 12119686244451234320))),(26,(.const (.int .u64 12683024718118986047))),(27,(.const (.int .u64 13788192230050041572))),(28,(.const (.int .u64 14330467153632333762))),(29,(.const (.int .u64 15395433587784984357))),(30,(.const (.int .u64 489312712824947311))),(31,(.const (.int .u64 1452737877330783856))),(32,(.const (.int .u64 2861767655752347644))),(33,(.const (.int .u64 3322285676063803686))),(34,(.const (.int .u64 5560940570517711597))),(35,(.const (.int .u64 5996557281743188959))),(36,(.const (.int .u64 7280758554555802590))),(37,(.const (.int .u64 8532644243296465576))),(38,(.const (.int .u64 9350256976987008742))),(39,(.const (.int .u64 10552545826968843579))),(40,(.const (.int .u64 11727347734174303076))),(41,(.const (.int .u64 12113106623233404929))),(42,(.const (.int .u64 14000437183269869457))),(43,(.const (.int .u64 14369950271660146224))),(44,(.const (.int .u64 15101387698204529176))),(45,(.const (.int .u64 15463397548674623760))),(46,(.const (.int .u64 17586052441742319658))),(47,(.const (.int .u64 1182934255886127544))),(48,(.const (.int .u64 1847814050463011016))),(49,(.const (.int .u64 2177327727835720531))),(50,(.const (.int .u64 2830643537854262169))),(51,(.const (.int .u64 3796741975233480872))),(52,(.const (.int .u64 4115178125766777443))),(53,(.const (.int .u64 5681478168544905931))),(54,(.const (.int .u64 6601373596472566643))),(55,(.const (.int .u64 7507060721942968483))),(56,(.const (.int .u64 8399075790359081724))),(57,(.const (.int .u64 8693463985226723168))),(58,(.const (.int .u64 9568029438360202098))),(59,(.const (.int .u64 10144078919501101548))),(60,(.const (.int .u64 10430055236837252648))),(61,(.const (.int .u64 11840083180663258601))),(62,(.const (.int .u64 13761210420658862357))),(63,(.const (.int .u64 14299343276471374635))),(64,(.const (.int .u64 14566680578165727644))),(65,(.const (.int .u64 15097957966210449927))),(66,(.const (.int .u64 16922976911328602910))),(67,(.const (.int .u64 17689382322260857208))),(68,(.const (.int .u64 500013540394364858))),(69,(.const (.int .u64 748580250866718886))),(70,(.const (.int .u64 1242879168328830382))),(71,(.const (.int .u64 1977374033974150939))),(72,(.const (.int .u64 2944078676154940804))),(73,(.const (.int .u64 3659926193048069267))),(74,(.const (.int .u64 4368137639120453308))),(75,(.const (.int .u64 4836135668995329356))),(76,(.const (.int .u64 5532061633213252278))),(77,(.const (.int .u64 6448918945643986474))),(78,(.const (.int .u64 6902733635092675308))),(79,(.const (.int .u64 7801388544844847127)))]),
 ⟨none,none,.st 80 (.tmp 0) (.tmp 1)⟩])
 .ret))⟩
theorem h62 : strF Tryz.prog [] Tryz.f62 = some c62 := by kernel_rfl
def c63 : Fun := ⟨13,[.inl 4],
 (.seq (.ops [Zs 4 (.mv (.const (.int .u64 0)))])
 (.seq (.draw 9 [Zo 5 0,
 Zo 6 1,
 Zy 7 .shr 5 6,
 Zo 8 0,
 Zo 9 1,
 Zs 10 (.bin .sub (Zi 64) (.tmp 9)),
 Zy 11 .shl 8 10,
 Zy 12 .or 7 11,
 Zo 4 12])
 .ret))⟩
theorem h63 : strF Tryz.prog [] Tryz.f63 = some c63 := by kernel_rfl
def c64 : Fun := ⟨21,[.inl 2],
 (.seq (.ops [Zs 2 (.mv (.const (.slice none 0 0)))])
 (.seq (.ops [Zo 4 0,
 Zr 5 4,
 Zo 3 5])
 (.seq (.block 0
 (.loop
 (.seq (.seq (.ops [Zo 6 3,
 Zw 7 .gtr 6 0,
 Zo 8 7,
 ⟨some 9,some (8,true),.mv (.tmp 0)⟩,
 ⟨some 10,some (8,true),.mv (.tmp 3)⟩,
 ⟨some 11,some (8,true),.bin .sub (.tmp 10) (Zi 1)⟩,
 ⟨some 12,some (8,true),.ia 1 (.tmp 9) (.tmp 11)⟩,
 ⟨some 13,some (8,true),.ld (.int .u32) (.tmp 12)⟩,
 ⟨some 14,some (8,true),.bin .eql (.tmp 13) (.const (.int .u32 0))⟩,
 Zs 15 (.pick (.tmp 8) (.tmp 14) (.const (.bool false)))])
 (.cond (.tmp 15)
 .skip
 (.exit 0)))
 (.block 1
 (.ops [Zo 16 3,
 Zw 17 .sub 16 1,
 Zo 3 17])))))
 (.seq (.ops [Zo 18 0,
 Zo 19 3,
 Zs 20 (.slc 1 (.tmp 18) none (some (.tmp 19)) none),
 Zo 2 20])
 .ret))))⟩
theorem h64 : strF Tryz.prog [] Tryz.f64 = some c64 := by kernel_rfl
def c65 : Fun := ⟨19,[.inl 2],
 (.seq (.ops [Zs 2 (.mv (Zi 0))])
 (.join (.seq (.ops [Zo 3 0,
 Zs 4 (.bin .geq (.tmp 3) (.const (.int .u32 65536)))])
 (.cond (.tmp 4)
 (.seq (.ops [Zo 5 0,
 Zs 6 (.bin .shr (.tmp 5) (.const (.int .u64 16))),
 Zo 0 6])
 (.ops [Zs 2 (.mv (Zi 16))]))
 .skip))
 (.join (.seq (.ops [Zo 7 0,
 Zs 8 (.bin .geq (.tmp 7) (.const (.int .u32 256)))])
 (.cond (.tmp 8)
 (.seq (.ops [Zo 9 0,
 Zs 10 (.bin .shr (.tmp 9) (.const (.int .u64 8))),
 Zo 0 10])
 (.ops [Zo 11 2,
 Zw 12 .add 11 8,
 Zo 2 12]))
 .skip))
 (.seq (.ops [Zo 13 2,
 Zo 14 0,
 Zs 15 (.cv .u8 (.tmp 14)),
 Zs 16 (.ixs (.const (.string ⟨#[0,1,2,2,3,3,3,3,4,4,4,4,4,4,4,4,5,5,5,5,5,5,5,5,5,5,5,5,5,5,5,5,6,6,6,6,6,6,6,6,6,6,6,6,6,6,6,6,6,6,6,6,6,6,6,6,6,6,6,6,6,6,6,6,7,7,7,7,7,7,7,7,7,7,7,7,7,7,7,7,7,7,7,7,7,7,7,7,7,7,7,7,7,7,7,7,7,7,7,7,7,7,7,7,7,7,7,7,7,7,7,7,7,7,7,7,7,7,7,7,7,7,7,7,7,7,7,7,8,8,8,8,8,8,8,8,8,8,8,8,8,8,8,8,8,8,8,8,8,8,8,8,8,8,8,8,8,8,8,8,8,8,8,8,8,8,8,8,8,8,8,8,8,8,8,8,8,8,8,8,8,8,8,8,8,8,8,8,8,8,8,8,8,8,8,8,8,8,8,8,8,8,8,8,8,8,8,8,8,8,8,8,8,8,8,8,8,8,8,8,8,8,8,8,8,8,8,8,8,8,8,8,8,8,8,8,8,8,8,8,8,8,8,8,8,8,8,8,8,8,8,8,8,8,8,8]⟩)) (.tmp 15)),
 Zs 17 (.cv .i64 (.tmp 16)),
 Zy 18 .add 13 17,
 Zo 2 18])
 .ret))))⟩
theorem h65 : strF Tryz.prog [] Tryz.f65 = some c65 := by kernel_rfl
def c66 : Fun := ⟨21,[.inl 4],
 (.seq (.ops [Zs 4 (.mv (.const (.slice none 0 0)))])
 (.seq (.block 0
 (.loop
 (.seq (.seq (.ops [Zo 5 0,
 Zr 6 5,
 Zw 7 .gtr 6 0,
 Zo 8 7,
 ⟨some 9,some (8,true),.mv (.tmp 0)⟩,
 ⟨some 10,some (8,true),.ia 1 (.tmp 9) (Zi 0)⟩,
 ⟨some 11,some (8,true),.ld (.int .u8) (.tmp 10)⟩,
 ⟨some 12,some (8,true),.mv (.tmp 1)⟩,
 ⟨some 13,some (8,true),.bin .eql (.tmp 11) (.tmp 12)⟩,
 Zs 14 (.pick (.tmp 8) (.tmp 13) (.const (.bool false)))])
 (.cond (.tmp 14)
 .skip
 (.exit 0)))
 (.block 1
 (.ops [Zo 15 0,
 Zs 16 (.slc 1 (.tmp 15) (some (Zi 1)) none none),
 Zo 0 16])))))
 (.seq (.seq (.ops [Zo 17 0,
 Zr 18 17,
 Zw 19 .eql 18 0])
 (.cond (.tmp 19)
 (.seq (.ops [Zs 4 (.mv (.const (.slice none 0 0)))])
 .ret)
 .skip))
 (.seq (.ops [Zo 20 0,
 Zo 4 20])
 .ret))))⟩
theorem h66 : strF Tryz.prog [] Tryz.f66 = some c66 := by kernel_rfl
def c70 : Fun := ⟨34,[.inl 2,.inl 3],
 (.seq (.ops [Zs 2 (.mv (.const (.pointer none))),
 Zs 3 (.mv (Zi 0))])
 (.seq (.ops [Zo 5 0,
 Zs 6 (.bld #[(.int .i64 0),(.int .u32 0),(.int .u32 0),(.int .u32 0),(.int .u32 0),(.int .u32 0),(.int .u32 0),(.int .u32 0),(.int .u32 0),(.int .u64 0),(.int .u64 0),(.int .u64 0),(.int .u64 0),(.int .u64 0),(.int .u64 0),(.int .u64 0),(.int .u64 0),(.slice none 0 0),(.int .i64 0)] [(0,1),(1,8),(9,8),(17,1),(18,1)] [(0,(.tmp 5))]),
 Zs 7 (.box 135 (.tmp 6)),
 Zo 4 7])
 (.join (.seq (.ops [Zo 8 0])
 (.block 0
 (.seq (.ops [Zw 10 .eql 8 1,
 Zo 9 10])
 (.cond (.tmp 9)
 (.ops [Zo 11 4,
 Zs 12 (.bld (Array.replicate 8 (.int .u32 0)) [(0,1),(1,1),(2,1),(3,1),(4,1),(5,1),(6,1),(7,1)] [(0,(.const (.int .u32 1732584193))),(1,(.const (.int .u32 4023233417))),(2,(.const (.int .u32 2562383102))),(3,(.const (.int .u32 271733878))),(4,(.const (.int .u32 3285377520)))]),
 Zs 13 (.nilc (.tmp 11)),
 Zs 14 (.fa 1 (.tmp 13)),
 ⟨none,none,.st 8 (.tmp 14) (.tmp 12)⟩])
 (.seq (.ops [Zw 16 .eql 8 2,
 Zo 15 16])
 (.cond (.tmp 15)
 (.ops [Zo 17 4,
 Zs 18 (.bld (Array.replicate 8 (.int .u32 0)) [(0,1),(1,1),(2,1),(3,1),(4,1),(5,1),(6,1),(7,1)] [(0,(.const (.int .u32 1779033703))),(1,(.const (.int .u32 3144134277))),(2,(.const (.int .u32 1013904242))),(3,(.const (.int .u32 2773480762))),(4,(.const (.int .u32 1359893119))),(5,(.const (.int .u32 2600822924))),(6,(.const (.int .u32 528734635))),(7,(.const (.int .u32 1541459225)))]),
 Zs 19 (.nilc (.tmp 17)),
 Zs 20 (.fa 1 (.tmp 19)),
 ⟨none,none,.st 8 (.tmp 20) (.tmp 18)⟩])
 (.seq (.ops [Zw 22 .eql 8 3,
 Zo 21 22])
 (.cond (.tmp 21)
 (.ops [Zo 23 4,
 Zs 24 (.bld (Array.replicate 8 (.int .u64 0)) [(0,1),(1,1),(2,1),(3,1),(4,1),(5,1),(6,1),(7,1)] [(0,(.const (.int .u64 14680500436340154072))),(1,(.const (.int .u64 7105036623409894663))),(2,(.const (.int .u64 10473403895298186519))),(3,(.const (.int .u64 1526699215303891257))),(4,(.const (.int .u64 7436329637833083697))),(5,(.const (.int .u64 10282925794625328401))),(6,(.const (.int .u64 15784041429090275239))),(7,(.const (.int .u64 5167115440072839076)))]),
 Zs 25 (.nilc (.tmp 23)),
 Zs 26 (.fa 9 (.tmp 25)),
 ⟨none,none,.st 8 (.tmp 26) (.tmp 24)⟩])
 (.seq (.ops [Zw 28 .eql 8 4,
 Zo 27 28])
 (.cond (.tmp 27)
 (.ops [Zo 29 4,
 Zs 30 (.bld (Array.replicate 8 (.int .u64 0)) [(0,1),(1,1),(2,1),(3,1),(4,1),(5,1),(6,1),(7,1)] [(0,(.const (.int .u64 7640891576956012808))),(1,(.const (.int .u64 13503953896175478587))),(2,(.const (.int .u64 4354685564936845355))),(3,(.const (.int .u64 11912009170470909681))),(4,(.const (.int .u64 5840696475078001361))),(5,(.const (.int .u64 11170449401992604703))),(6,(.const (.int .u64 2270897969802886507))),(7,(.const (.int .u64 6620516959819538809)))]),
 Zs 31 (.nilc (.tmp 29)),
 Zs 32 (.fa 9 (.tmp 31)),
 ⟨none,none,.st 8 (.tmp 32) (.tmp 30)⟩])
 (.seq (.ops [Zs 2 (.mv (.const (.pointer none))),
 Zs 3 (.mv (Zi 1))])
 .ret)))))))))))
 (.seq (.ops [Zo 33 4,
 Zo 2 33,
 Zs 3 (.mv (Zi 0))])
 .ret))))⟩
theorem h70 : strF Tryz.prog [] Tryz.f70 = some c70 := by kernel_rfl
def c71 : Fun := ⟨99,[.inl 4],
 (.seq (.ops [Zs 4 (.mv (Zi 0))])
 (.seq (.seq (.ops [Zo 7 0,
 Zs 8 (.eq .pointer false (.tmp 7) (.const (.pointer none)))])
 (.cond (.tmp 8)
 (.seq (.ops [Zs 4 (.mv (Zi 7))])
 .ret)
 .skip))
 (.seq (.seq (.ops [Zo 9 1,
 Zr 10 9,
 Zo 11 0,
 Zs 12 (.nilc (.tmp 11)),
 Zs 13 (.fa 18 (.tmp 12)),
 Zh 14 .i64 13,
 Zs 15 (.bin .sub (Zi 16777216) (.tmp 14)),
 Zy 16 .gtr 10 15])
 (.cond (.tmp 16)
 (.seq (.ops [Zs 4 (.mv (Zi 3))])
 .ret)
 .skip))
 (.seq (.ops [Zo 17 0,
 Zs 18 (.nilc (.tmp 17)),
 Zs 19 (.fa 18 (.tmp 18)),
 Zh 20 .i64 19,
 Zo 21 1,
 Zr 22 21,
 Zy 23 .add 20 22,
 Zs 24 (.nilc (.tmp 17)),
 Zs 25 (.fa 18 (.tmp 24)),
 ⟨none,none,.st 1 (.tmp 25) (.tmp 23)⟩])
 (.seq (.ops [Zo 26 0,
 Zs 27 (.nilc (.tmp 26)),
 Zs 28 (.fa 0 (.tmp 27)),
 Zh 29 .i64 28,
 Zs 30 (.call 98 [(.tmp 29)]),
 Zo 5 30])
 (.join (.seq (.ops [Zo 31 0,
 Zs 32 (.nilc (.tmp 31)),
 Zs 33 (.fa 17 (.tmp 32)),
 Zs 34 (.ld .slice (.tmp 33)),
 Zr 35 34,
 Zw 36 .gtr 35 0])
 (.cond (.tmp 36)
 (.seq (.ops [Zo 37 1,
 Zr 38 37,
 Zo 39 5,
 Zo 40 0,
 Zs 41 (.nilc (.tmp 40)),
 Zs 42 (.fa 17 (.tmp 41)),
 Zs 43 (.ld .slice (.tmp 42)),
 Zr 44 43,
 Zy 45 .sub 39 44,
 Zs 46 (.min2 (.tmp 38) (.tmp 45)),
 Zo 6 46])
 (.seq (.drawS [(0,0),(0,1),(0,2),(0,3),(0,5),(0,6),(0,7),(1,4),(2,8),(0,9),(0,10),(2,11)]
 [Zo 47 0,
 Zo 48 0,
 Zs 49 (.nilc (.tmp 48)),
 Zs 50 (.fa 17 (.tmp 49)),
 Zs 51 (.ld .slice (.tmp 50)),
 Zo 52 1,
 Zo 53 6,
 Zs 54 (.slc 1 (.tmp 52) none (some (.tmp 53)) none),
 Zs 55 (.app 5 1 1 #[(.int .u8 0)] (.tmp 51) (.tmp 54)),
 Zs 56 (.nilc (.tmp 47)),
 Zs 57 (.fa 17 (.tmp 56)),
 ⟨none,none,.st 1 (.tmp 57) (.tmp 55)⟩])
 (.seq (.ops [Zo 58 1,
 Zo 59 6,
 Zs 60 (.slc 1 (.tmp 58) (some (.tmp 59)) none none),
 Zo 1 60])
 (.seq (.seq (.ops [Zo 61 0,
 Zs 62 (.nilc (.tmp 61)),
 Zs 63 (.fa 17 (.tmp 62)),
 Zs 64 (.ld .slice (.tmp 63)),
 Zr 65 64,
 Zo 66 5,
 Zy 67 .lss 65 66])
 (.cond (.tmp 67)
 (.seq (.ops [Zs 4 (.mv (Zi 0))])
 .ret)
 .skip))
 (.seq (.ops [Zo 68 0,
 Zo 69 0,
 Zs 70 (.nilc (.tmp 69)),
 Zs 71 (.fa 17 (.tmp 70)),
 Zs 72 (.ld .slice (.tmp 71)),
 Zs 73 (.call 99 [(.tmp 68),(.tmp 72)])])
 (.ops [Zo 74 0,
 Zs 75 (.nilc (.tmp 74)),
 Zs 76 (.fa 17 (.tmp 75)),
 ⟨none,none,.st 1 (.tmp 76) (.const (.slice none 0 0))⟩]))))))
 .skip))
 (.seq (.block 0
 (.loop
 (.seq (.seq (.ops [Zo 77 1,
 Zr 78 77,
 Zo 79 5,
 Zy 80 .geq 78 79])
 (.cond (.tmp 80)
 .skip
 (.exit 0)))
 (.block 1
 (.seq (.ops [Zo 81 0,
 Zo 82 1,
 Zo 83 5,
 Zs 84 (.slc 1 (.tmp 82) none (some (.tmp 83)) none),
 Zs 85 (.call 99 [(.tmp 81),(.tmp 84)])])
 (.ops [Zo 86 1,
 Zo 87 5,
 Zs 88 (.slc 1 (.tmp 86) (some (.tmp 87)) none none),
 Zo 1 88]))))))
 (.join (.seq (.ops [Zo 89 1,
 Zr 90 89,
 Zw 91 .gtr 90 0])
 (.cond (.tmp 91)
 (.ops [Zo 92 0,
 Zo 93 5,
 Zs 94 (.mks 5 1 1 #[(.int .u8 0)] (Zi 0) (.tmp 93)),
 Zo 95 1,
 Zs 96 (.app 5 1 1 #[(.int .u8 0)] (.tmp 94) (.tmp 95)),
 Zs 97 (.nilc (.tmp 92)),
 Zs 98 (.fa 17 (.tmp 97)),
 ⟨none,none,.st 1 (.tmp 98) (.tmp 96)⟩])
 .skip))
 (.seq (.ops [Zs 4 (.mv (Zi 0))])
 .ret)))))))))⟩
theorem h71 : strF Tryz.prog [(9,.inl [(0,0),(0,1),(0,2),(0,3),(0,5),(0,6),(0,7),(1,4),(2,8),(0,9),(0,10),(2,11)])] Tryz.f71 = some c71 := by kernel_rfl
def c72 : Fun := ⟨150,[.inl 2],
 (.seq (.ops [Zs 2 (.mv (.const (.slice none 0 0)))])
 (.seq (.seq (.ops [Zo 11 0,
 Zs 12 (.eq .pointer false (.tmp 11) (.const (.pointer none))),
 Zo 13 12,
 ⟨some 14,some (13,false),.mv (.tmp 0)⟩,
 ⟨some 15,some (13,false),.nilc (.tmp 14)⟩,
 ⟨some 16,some (13,false),.fa 0 (.tmp 15)⟩,
 ⟨some 17,some (13,false),.ld (.int .i64) (.tmp 16)⟩,
 ⟨some 18,some (13,false),.call 37 [(.tmp 17)]⟩,
 ⟨some 19,some (13,false),.bin .eql (.tmp 18) (Zi 0)⟩,
 Zs 20 (.pick (.tmp 13) (.const (.bool true)) (.tmp 19))])
 (.cond (.tmp 20)
 (.seq (.ops [Zs 2 (.mv (.const (.slice none 0 0)))])
 .ret)
 .skip))
 (.seq (.ops [Zo 21 0,
 Zs 22 (.nilc (.tmp 21)),
 Zs 23 (.ld (.agg 19) (.tmp 22)),
 Zs 3 (.alloc 135 (.agg #[(.int .i64 0),(.int .u32 0),(.int .u32 0),(.int .u32 0),(.int .u32 0),(.int .u32 0),(.int .u32 0),(.int .u32 0),(.int .u32 0),(.int .u64 0),(.int .u64 0),(.int .u64 0),(.int .u64 0),(.int .u64 0),(.int .u64 0),(.int .u64 0),(.int .u64 0),(.slice none 0 0),(.int .i64 0)])),
 ⟨none,none,.st 19 (.tmp 3) (.tmp 23)⟩])
 (.seq (.ops [Zo 24 0,
 Zs 25 (.nilc (.tmp 24)),
 Zs 26 (.fa 0 (.tmp 25)),
 Zh 27 .i64 26,
 Zs 28 (.call 98 [(.tmp 27)]),
 Zo 4 28])
 (.seq (.ops [Zo 29 0,
 Zs 30 (.nilc (.tmp 29)),
 Zs 31 (.fa 17 (.tmp 30)),
 Zs 32 (.ld .slice (.tmp 31)),
 Zs 33 (.app 5 1 1 #[(.int .u8 0)] (.const (.slice none 0 0)) (.tmp 32)),
 Zs 34 (.bsl 5 1 1 #[(.int .u8 0)] [(0,(.const (.int .u8 128)))]),
 Zs 35 (.app 5 1 1 #[(.int .u8 0)] (.tmp 33) (.tmp 34)),
 Zo 5 35])
 (.seq (.block 0
 (.loop
 (.seq (.seq (.ops [Zo 36 5,
 Zr 37 36,
 Zo 38 4,
 Zy 39 .rem 37 38,
 Zo 40 4,
 Zw 41 .sub 40 8,
 Zy 42 .neq 39 41])
 (.cond (.tmp 42)
 .skip
 (.exit 0)))
 (.block 1
 (.ops [Zo 43 5,
 Zs 44 (.bsl 5 1 1 #[(.int .u8 0)] [(0,(.const (.int .u8 0)))]),
 Zs 45 (.app 5 1 1 #[(.int .u8 0)] (.tmp 43) (.tmp 44)),
 Zo 5 45])))))
 (.join (.seq (.ops [Zo 46 4,
 Zw 47 .eql 46 128,
 Zo 48 47,
 ⟨some 49,some (48,true),.mv (.tmp 0)⟩,
 ⟨some 50,some (48,true),.nilc (.tmp 49)⟩,
 ⟨some 51,some (48,true),.fa 17 (.tmp 50)⟩,
 ⟨some 52,some (48,true),.ld .slice (.tmp 51)⟩,
 ⟨some 53,some (48,true),.len (.tmp 52)⟩,
 ⟨some 54,some (48,true),.bin .geq (.tmp 53) (Zi 112)⟩,
 Zs 55 (.pick (.tmp 48) (.tmp 54) (.const (.bool false))),
 Zo 56 55,
 ⟨some 57,some (56,true),.mv (.tmp 5)⟩,
 ⟨some 58,some (56,true),.len (.tmp 57)⟩,
 ⟨some 59,some (56,true),.bin .eql (.tmp 58) (Zi 120)⟩,
 Zs 60 (.pick (.tmp 56) (.tmp 59) (.const (.bool false)))])
 (.cond (.tmp 60)
 (.ops [Zo 61 5,
 Zs 62 (.appz 5 1 1 #[(.int .u8 0)] (.tmp 61) (Zi 128)),
 Zo 5 62])
 .skip))
 (.seq (.seq (.ops [Zs 63 (.mv (Zi 0))])
 (.block 2
 (.loop
 (.seq (.ops [Zw 64 .lss 63 8])
 (.seq (.cond (.tmp 64)
 .skip
 (.exit 2))
 (.seq (.block 3
 (.seq (.ops [Zo 65 63,
 Zo 6 65])
 (.ops [Zo 66 5,
 Zo 67 0,
 Zs 68 (.nilc (.tmp 67)),
 Zs 69 (.fa 18 (.tmp 68)),
 Zh 70 .i64 69,
 Zs 71 (.bin .mul (Zi 8) (.tmp 70)),
 Zs 72 (.cv .u64 (.tmp 71)),
 Zo 73 6,
 Zs 74 (.bin .mul (Zi 8) (.tmp 73)),
 Zs 75 (.bin .sub (Zi 56) (.tmp 74)),
 Zy 76 .shr 72 75,
 Zs 77 (.cv .u8 (.tmp 76)),
 Zs 78 (.bsl 5 1 1 #[(.int .u8 0)] [(0,(.tmp 77))]),
 Zs 79 (.app 5 1 1 #[(.int .u8 0)] (.tmp 66) (.tmp 78)),
 Zo 5 79])))
 (.ops [Zw 80 .add 63 1,
 Zo 63 80])))))))
 (.seq (.seq (.ops [Zs 7 (.mv (Zi 0))])
 (.block 4
 (.loop
 (.seq (.seq (.ops [Zo 81 7,
 Zo 82 5,
 Zr 83 82,
 Zy 84 .lss 81 83])
 (.cond (.tmp 84)
 .skip
 (.exit 4)))
 (.seq (.block 5
 (.ops [Zo 88 5,
 Zo 89 7,
 Zo 90 7,
 Zo 91 4,
 Zy 92 .add 90 91,
 Zs 93 (.slc 1 (.tmp 88) (some (.tmp 89)) (some (.tmp 92)) none),
 Zs 94 (.call 99 [(.tmp 3),(.tmp 93)])]))
 (.ops [Zo 85 7,
 Zo 86 4,
 Zy 87 .add 85 86,
 Zo 7 87]))))))
 (.seq (.ops [Zs 8 (.mv (.const (.slice none 0 0)))])
 (.seq (.seq (.ops [Zs 95 (.mv (Zi 0))])
 (.block 6
 (.loop
 (.seq (.ops [Zw 96 .lss 95 8])
 (.seq (.cond (.tmp 96)
 .skip
 (.exit 6))
 (.join (.block 7
 (.seq (.ops [Zo 97 95,
 Zo 9 97])
 (.seq (.seq (.ops [Zo 98 4,
 Zw 99 .eql 98 64])
 (.cond (.tmp 99)
 (.seq (.drawS [(0,0),(0,1),(0,2),(0,3),(0,7),(0,8),(0,9),(0,13),(0,14),(0,15),(0,19),(0,20),(0,21),(1,4),(0,5),(0,6),(1,10),(0,11),(0,12),(1,16),(0,17),(0,18),(1,22),(0,23),(2,24),(2,25),(0,26)]
 [Zo 100 8,
 Zo 101 9,
 Zs 102 (.fa 1 (.tmp 3)),
 Zs 103 (.iaA 8 1 (.tmp 102) (.tmp 101)),
 Zh 104 .u32 103,
 Zs 105 (.bin .shr (.tmp 104) (.const (.int .u64 24))),
 Zs 106 (.cv .u8 (.tmp 105)),
 Zo 107 9,
 Zs 108 (.fa 1 (.tmp 3)),
 Zs 109 (.iaA 8 1 (.tmp 108) (.tmp 107)),
 Zh 110 .u32 109,
 Zs 111 (.bin .shr (.tmp 110) (.const (.int .u64 16))),
 Zs 112 (.cv .u8 (.tmp 111)),
 Zo 113 9,
 Zs 114 (.fa 1 (.tmp 3)),
 Zs 115 (.iaA 8 1 (.tmp 114) (.tmp 113)),
 Zh 116 .u32 115,
 Zs 117 (.bin .shr (.tmp 116) (.const (.int .u64 8))),
 Zs 118 (.cv .u8 (.tmp 117)),
 Zo 119 9,
 Zs 120 (.fa 1 (.tmp 3)),
 Zs 121 (.iaA 8 1 (.tmp 120) (.tmp 119)),
 Zh 122 .u32 121,
 Zs 123 (.cv .u8 (.tmp 122)),
 Zs 124 (.bsl 5 1 4 #[(.int .u8 0)] [(0,(.tmp 106)),(1,(.tmp 112)),(2,(.tmp 118)),(3,(.tmp 123))]),
 Zs 125 (.app 5 1 1 #[(.int .u8 0)] (.tmp 100) (.tmp 124)),
 Zo 8 125])
 (.exit 7))
 .skip))
 (.seq (.ops [Zs 126 (.mv (Zi 0))])
 (.block 8
 (.loop
 (.seq (.ops [Zw 127 .lss 126 8])
 (.seq (.cond (.tmp 127)
 .skip
 (.exit 8))
 (.seq (.block 9
 (.seq (.ops [Zo 128 126,
 Zo 10 128])
 (.ops [Zo 129 8,
 Zo 130 9,
 Zs 131 (.fa 9 (.tmp 3)),
 Zs 132 (.iaA 8 1 (.tmp 131) (.tmp 130)),
 Zh 133 .u64 132,
 Zo 134 10,
 Zs 135 (.bin .mul (Zi 8) (.tmp 134)),
 Zs 136 (.bin .sub (Zi 56) (.tmp 135)),
 Zy 137 .shr 133 136,
 Zs 138 (.cv .u8 (.tmp 137)),
 Zs 139 (.bsl 5 1 1 #[(.int .u8 0)] [(0,(.tmp 138))]),
 Zs 140 (.app 5 1 1 #[(.int .u8 0)] (.tmp 129) (.tmp 139)),
 Zo 8 140])))
 (.ops [Zw 141 .add 126 1,
 Zo 126 141]))))))))))
 (.ops [Zw 142 .add 95 1,
 Zo 95 142])))))))
 (.seq (.ops [Zo 143 8,
 Zo 144 0,
 Zs 145 (.nilc (.tmp 144)),
 Zs 146 (.fa 0 (.tmp 145)),
 Zh 147 .i64 146,
 Zs 148 (.call 37 [(.tmp 147)]),
 Zs 149 (.slc 1 (.tmp 143) none (some (.tmp 148)) none),
 Zo 2 149])
 .ret))))))))))))⟩
theorem h72 : strF Tryz.prog [(24,.inl [(0,0),(0,1),(0,2),(0,3),(0,7),(0,8),(0,9),(0,13),(0,14),(0,15),(0,19),(0,20),(0,21),(1,4),(0,5),(0,6),(1,10),(0,11),(0,12),(1,16),(0,17),(0,18),(1,22),(0,23),(2,24),(2,25),(0,26)])] Tryz.f72 = some c72 := by kernel_rfl
def c73 : Fun := ⟨28,[.inl 2],
 (.seq (.ops [Zs 2 (.mv (.const (.slice none 0 0)))])
 (.seq (.ops [Zs 3 (.mv (.const (.slice none 0 0)))])
 (.seq (.seq (.ops [Zs 4 (.mv (Zi 0))])
 (.block 0
 (.loop
 (.seq (.seq (.ops [Zo 5 4,
 Zo 6 0,
 Zr 7 6,
 Zy 8 .lss 5 7])
 (.cond (.tmp 8)
 .skip
 (.exit 0)))
 (.seq (.block 1
 (.drawS [(0,0),(0,1),(0,2),(0,3),(0,7),(0,8),(0,9),(1,4),(0,5),(0,6),(1,10),(0,11),(0,12),(2,13),(2,14),(0,15)]
 [Zo 11 3,
 Zo 12 0,
 Zo 13 4,
 Zt 14 1 12 13,
 Zh 15 .u32 14,
 Zs 16 (.bin .and (.tmp 15) (.const (.int .u32 65535))),
 Zs 17 (.cv .u64 (.tmp 16)),
 Zo 18 0,
 Zo 19 4,
 Zt 20 1 18 19,
 Zh 21 .u32 20,
 Zs 22 (.bin .shr (.tmp 21) (.const (.int .u64 16))),
 Zs 23 (.cv .u64 (.tmp 22)),
 Zs 24 (.bsl 60 1 2 #[(.int .u64 0)] [(0,(.tmp 17)),(1,(.tmp 23))]),
 Zs 25 (.app 60 1 8 #[(.int .u64 0)] (.tmp 11) (.tmp 24)),
 Zo 3 25]))
 (.ops [Zo 9 4,
 Zw 10 .add 9 1,
 Zo 4 10]))))))
 (.seq (.ops [Zo 26 3,
 Zs 27 (.call 100 [(.tmp 26)]),
 Zo 2 27])
 .ret))))⟩
theorem h73 : strF Tryz.prog [(5,.inl [(0,0),(0,1),(0,2),(0,3),(0,7),(0,8),(0,9),(1,4),(0,5),(0,6),(1,10),(0,11),(0,12),(2,13),(2,14),(0,15)])] Tryz.f73 = some c73 := by kernel_rfl
def c74 : Fun := ⟨32,[],
 (.seq (.ops [Zs 4 (.mv (Zi 0))])
 (.block 0
 (.loop
 (.seq (.block 1
 (.seq (.ops [Zh 10 .i64 1,
 Zs 11 (.ld .slice (.tmp 2)),
 Zo 12 4,
 Zs 13 (.bin .shr (.tmp 12) (.const (.int .u64 24))),
 Zs 14 (.cv .u8 (.tmp 13)),
 Zo 15 4,
 Zs 16 (.bin .shr (.tmp 15) (.const (.int .u64 16))),
 Zs 17 (.cv .u8 (.tmp 16)),
 Zo 18 4,
 Zs 19 (.bin .shr (.tmp 18) (.const (.int .u64 8))),
 Zs 20 (.cv .u8 (.tmp 19)),
 Zo 21 4,
 Zs 22 (.cv .u8 (.tmp 21)),
 Zs 23 (.bsl 5 1 4 #[(.int .u8 0)] [(0,(.tmp 14)),(1,(.tmp 17)),(2,(.tmp 20)),(3,(.tmp 22))]),
 Zs 24 (.bsl 25 1 2 #[(.slice none 0 0)] [(0,(.tmp 11)),(1,(.tmp 23))]),
 Zs 25 (.call 40 [(.tmp 10),(.tmp 24)]),
 Zo 9 25,
 Zs 26 (.ext (.tmp 9) 0),
 Zs 27 (.ext (.tmp 9) 1),
 Zo 5 26,
 Zo 6 27])
 (.seq (.ops [Zo 28 0,
 Zo 29 5,
 Zs 30 (.raw (.call { callee := .value (.tmp 28),args := #[(.tmp 29)],argTypes := #[25] })),
 Zs 31 (.un .not (.tmp 30))])
 (.cond (.tmp 31)
 .ret
 .skip))))
 (.ops [Zo 7 4,
 Zw 8 .add 7 1,
 Zo 4 8])))))⟩
theorem h74 : strF Tryz.prog [] Tryz.f74 = some c74 := by kernel_rfl
def c75 : Fun := ⟨49,[.inl 2,.inl 3],
 (.seq (.ops [Zs 2 (.mv (.const (.slice none 0 0))),
 Zs 3 (.mv (Zi 0))])
 (.seq (.ops [Zo 12 0,
 Zs 13 (.call 101 [(.tmp 12)]),
 Zo 11 13,
 Zs 14 (.ext (.tmp 11) 0),
 Zs 15 (.ext (.tmp 11) 1),
 Zo 4 14,
 Zo 5 15])
 (.seq (.seq (.ops [Zo 16 5,
 Zs 17 (.un .not (.tmp 16))])
 (.cond (.tmp 17)
 (.seq (.ops [Zs 2 (.mv (.const (.slice none 0 0))),
 Zs 3 (.mv (Zi 6))])
 .ret)
 .skip))
 (.seq (.seq (.ops [Zo 18 4,
 Zr 19 18,
 Zs 20 (.mv (Zi 0))])
 (.block 0
 (.loop
 (.seq (.ops [Zy 21 .lss 20 19])
 (.seq (.cond (.tmp 21)
 .skip
 (.exit 0))
 (.seq (.block 1
 (.seq (.ops [Zt 22 1 18 20,
 Zh 23 .u64 22,
 Zo 7 23])
 (.seq (.ops [Zo 24 7,
 Zs 25 (.bin .gtr (.tmp 24) (.const (.int .u64 2147483647)))])
 (.cond (.tmp 25)
 (.seq (.ops [Zs 2 (.mv (.const (.slice none 0 0))),
 Zs 3 (.mv (Zi 3))])
 .ret)
 .skip))))
 (.ops [Zw 26 .add 20 1,
 Zo 20 26])))))))
 (.seq (.drawS [(0,0),(0,1),(0,4),(0,5),(1,2),(0,3),(1,6),(0,7),(2,8),(0,9)]
 [Zo 27 4,
 Zs 28 (.ia 1 (.tmp 27) (Zi 0)),
 Zh 29 .u64 28,
 Zs 30 (.bin .mul (.const (.int .u64 40)) (.tmp 29)),
 Zo 31 4,
 Zs 32 (.ia 1 (.tmp 31) (Zi 1)),
 Zh 33 .u64 32,
 Zy 34 .add 30 33,
 Zs 35 (.call 102 [(.tmp 34)]),
 Zo 8 35])
 (.seq (.seq (.ops [Zo 36 4,
 Zs 37 (.slc 1 (.tmp 36) (some (Zi 2)) none none),
 Zr 38 37,
 Zs 39 (.mv (Zi 0))])
 (.block 2
 (.loop
 (.seq (.ops [Zy 40 .lss 39 38])
 (.seq (.cond (.tmp 40)
 .skip
 (.exit 2))
 (.seq (.block 3
 (.seq (.ops [Zt 41 1 37 39,
 Zh 42 .u64 41,
 Zo 10 42])
 (.ops [Zo 43 8,
 Zo 44 10,
 Zs 45 (.call 102 [(.tmp 44)]),
 Zs 46 (.app 5 1 1 #[(.int .u8 0)] (.tmp 43) (.tmp 45)),
 Zo 8 46])))
 (.ops [Zw 47 .add 39 1,
 Zo 39 47])))))))
 (.seq (.ops [Zo 48 8,
 Zo 2 48,
 Zs 3 (.mv (Zi 0))])
 .ret)))))))⟩
theorem h75 : strF Tryz.prog [(10,.inl [(0,0),(0,1),(0,4),(0,5),(1,2),(0,3),(1,6),(0,7),(2,8),(0,9)])] Tryz.f75 = some c75 := by kernel_rfl
def c76 : Fun := ⟨10,[.inl 2],
 (.seq (.ops [Zs 2 (.mv (.const (.string ⟨#[]⟩)))])
 (.seq (.seq (.ops [Zo 3 0])
 (.block 0
 (.seq (.ops [Zw 5 .eql 3 1,
 Zo 4 5])
 (.cond (.tmp 4)
 (.seq (.ops [Zs 2 (.mv (.const (.string ⟨#[49,46,51,46,49,52,46,51,46,50,46,50,54]⟩)))])
 .ret)
 (.seq (.ops [Zw 7 .eql 3 2,
 Zo 6 7])
 (.cond (.tmp 6)
 (.seq (.ops [Zs 2 (.mv (.const (.string ⟨#[50,46,49,54,46,56,52,48,46,49,46,49,48,49,46,51,46,52,46,50,46,49]⟩)))])
 .ret)
 (.seq (.ops [Zw 9 .eql 3 3,
 Zo 8 9])
 (.cond (.tmp 8)
 (.seq (.ops [Zs 2 (.mv (.const (.string ⟨#[50,46,49,54,46,56,52,48,46,49,46,49,48,49,46,51,46,52,46,50,46,50]⟩)))])
 .ret)
 .skip))))))))
 (.seq (.ops [Zs 2 (.mv (.const (.string ⟨#[50,46,49,54,46,56,52,48,46,49,46,49,48,49,46,51,46,52,46,50,46,51]⟩)))])
 .ret)))⟩
theorem h76 : strF Tryz.prog [] Tryz.f76 = some c76 := by kernel_rfl
def c77 : Fun := ⟨122,[.inl 8,.inl 9],
 (.seq (.ops [Zs 8 (.mv (.const (.slice none 0 0))),
 Zs 9 (.mv (Zi 0))])
 (.seq (.seq (.ops [Zo 18 0,
 Zw 19 .lss 18 0,
 Zo 20 19,
 ⟨some 21,some (20,false),.mv (.tmp 0)⟩,
 ⟨some 22,some (20,false),.bin .gtr (.tmp 21) (Zi 3)⟩,
 Zs 23 (.pick (.tmp 20) (.const (.bool true)) (.tmp 22)),
 Zo 24 23,
 ⟨some 25,some (24,false),.mv (.tmp 1)⟩,
 ⟨some 26,some (24,false),.bin .lss (.tmp 25) (Zi 0)⟩,
 Zs 27 (.pick (.tmp 24) (.const (.bool true)) (.tmp 26)),
 Zo 28 27,
 ⟨some 29,some (28,false),.mv (.tmp 1)⟩,
 ⟨some 30,some (28,false),.bin .gtr (.tmp 29) (Zi 268435455)⟩,
 Zs 31 (.pick (.tmp 28) (.const (.bool true)) (.tmp 30)),
 Zo 32 31,
 ⟨some 33,some (32,false),.mv (.tmp 0)⟩,
 ⟨some 34,some (32,false),.mv (.tmp 1)⟩,
 ⟨some 35,some (32,false),.bin .add (.tmp 33) (.tmp 34)⟩,
 ⟨some 36,some (32,false),.bin .eql (.tmp 35) (Zi 0)⟩,
 Zs 37 (.pick (.tmp 32) (.const (.bool true)) (.tmp 36))])
 (.cond (.tmp 37)
 (.seq (.ops [Zs 8 (.mv (.const (.slice none 0 0))),
 Zs 9 (.mv (Zi 1))])
 .ret)
 .skip))
 (.seq (.ops [Zs 10 (.mv (Zi 0))])
 (.seq (.seq (.ops [Zo 38 3,
 Zr 39 38,
 Zs 40 (.mv (Zi 0))])
 (.block 0
 (.loop
 (.seq (.ops [Zy 41 .lss 40 39])
 (.seq (.cond (.tmp 41)
 .skip
 (.exit 0))
 (.seq (.block 1
 (.seq (.ops [Zt 42 1 38 40,
 Zs 43 (.ld .slice (.tmp 42)),
 Zo 12 43])
 (.seq (.seq (.ops [Zo 44 12,
 Zr 45 44,
 Zo 46 10,
 Zs 47 (.bin .sub (Zi 16777216) (.tmp 46)),
 Zy 48 .gtr 45 47])
 (.cond (.tmp 48)
 (.seq (.ops [Zs 8 (.mv (.const (.slice none 0 0))),
 Zs 9 (.mv (Zi 3))])
 .ret)
 .skip))
 (.ops [Zo 49 10,
 Zo 50 12,
 Zr 51 50,
 Zy 52 .add 49 51,
 Zo 10 52]))))
 (.ops [Zw 53 .add 40 1,
 Zo 40 53])))))))
 (.seq (.ops [Zo 54 0,
 Zs 55 (.bin .shl (.tmp 54) (.const (.int .u64 6))),
 Zs 56 (.cv .u8 (.tmp 55)),
 Zo 13 56])
 (.join (.seq (.ops [Zo 57 2])
 (.cond (.tmp 57)
 (.ops [Zo 58 13,
 Zs 59 (.bin .or (.tmp 58) (.const (.int .u8 32))),
 Zo 13 59])
 .skip))
 (.seq (.ops [Zo 60 10,
 Zw 61 .add 60 10,
 Zs 62 (.mks 5 1 1 #[(.int .u8 0)] (Zi 0) (.tmp 61)),
 Zo 14 62])
 (.join (.seq (.ops [Zo 63 1,
 Zw 64 .lss 63 31])
 (.cond (.tmp 64)
 (.ops [Zo 65 14,
 Zo 66 13,
 Zo 67 1,
 Zs 68 (.cv .u8 (.tmp 67)),
 Zy 69 .or 66 68,
 Zs 70 (.bsl 5 1 1 #[(.int .u8 0)] [(0,(.tmp 69))]),
 Zs 71 (.app 5 1 1 #[(.int .u8 0)] (.tmp 65) (.tmp 70)),
 Zo 14 71])
 (.seq (.ops [Zo 72 14,
 Zo 73 13,
 Zs 74 (.bin .or (.tmp 73) (.const (.int .u8 31))),
 Zs 75 (.bsl 5 1 1 #[(.int .u8 0)] [(0,(.tmp 74))]),
 Zs 76 (.app 5 1 1 #[(.int .u8 0)] (.tmp 72) (.tmp 75)),
 Zo 14 76])
 (.ops [Zo 77 14,
 Zo 78 1,
 Zs 79 (.cv .u64 (.tmp 78)),
 Zs 80 (.call 102 [(.tmp 79)]),
 Zs 81 (.app 5 1 1 #[(.int .u8 0)] (.tmp 77) (.tmp 80)),
 Zo 14 81]))))
 (.join (.seq (.ops [Zo 82 10,
 Zw 83 .lss 82 128])
 (.cond (.tmp 83)
 (.ops [Zo 84 14,
 Zo 85 10,
 Zs 86 (.cv .u8 (.tmp 85)),
 Zs 87 (.bsl 5 1 1 #[(.int .u8 0)] [(0,(.tmp 86))]),
 Zs 88 (.app 5 1 1 #[(.int .u8 0)] (.tmp 84) (.tmp 87)),
 Zo 14 88])
 (.seq (.ops [Zo 89 10,
 Zs 90 (.bin .shr (.tmp 89) (.const (.int .u64 24))),
 Zs 91 (.cv .u8 (.tmp 90)),
 Zo 92 10,
 Zs 93 (.bin .shr (.tmp 92) (.const (.int .u64 16))),
 Zs 94 (.cv .u8 (.tmp 93)),
 Zo 95 10,
 Zs 96 (.bin .shr (.tmp 95) (.const (.int .u64 8))),
 Zs 97 (.cv .u8 (.tmp 96)),
 Zo 98 10,
 Zs 99 (.cv .u8 (.tmp 98)),
 Zs 100 (.bsl 5 1 4 #[(.int .u8 0)] [(0,(.tmp 91)),(1,(.tmp 94)),(2,(.tmp 97)),(3,(.tmp 99))]),
 Zs 101 (.call 39 [(.tmp 100),(.const (.string ⟨#[0]⟩))]),
 Zo 15 101])
 (.ops [Zo 102 14,
 Zo 103 15,
 Zr 104 103,
 Zs 105 (.cv .u8 (.tmp 104)),
 Zs 106 (.bin .or (.const (.int .u8 128)) (.tmp 105)),
 Zs 107 (.bsl 5 1 1 #[(.int .u8 0)] [(0,(.tmp 106))]),
 Zs 108 (.app 5 1 1 #[(.int .u8 0)] (.tmp 102) (.tmp 107)),
 Zo 109 15,
 Zs 110 (.app 5 1 1 #[(.int .u8 0)] (.tmp 108) (.tmp 109)),
 Zo 14 110]))))
 (.seq (.seq (.ops [Zo 111 3,
 Zr 112 111,
 Zs 113 (.mv (Zi 0))])
 (.block 2
 (.loop
 (.seq (.ops [Zy 114 .lss 113 112])
 (.seq (.cond (.tmp 114)
 .skip
 (.exit 2))
 (.seq (.block 3
 (.seq (.ops [Zt 115 1 111 113,
 Zs 116 (.ld .slice (.tmp 115)),
 Zo 17 116])
 (.ops [Zo 117 14,
 Zo 118 17,
 Zs 119 (.app 5 1 1 #[(.int .u8 0)] (.tmp 117) (.tmp 118)),
 Zo 14 119])))
 (.ops [Zw 120 .add 113 1,
 Zo 113 120])))))))
 (.seq (.ops [Zo 121 14,
 Zo 8 121,
 Zs 9 (.mv (Zi 0))])
 .ret)))))))))))⟩
theorem h77 : strF Tryz.prog [] Tryz.f77 = some c77 := by kernel_rfl
def c78 : Fun := ⟨30,[.inl 4,.inl 5],
 (.seq (.ops [Zs 4 (.mv (.const (.int .u64 0))),
 Zs 5 (.mv (.const (.int .u64 0)))])
 (.seq (.cond (.const (.bool false))
 (.seq (.ops [Zo 11 0,
 Zs 12 (.cv .u32 (.tmp 11)),
 Zo 13 1,
 Zs 14 (.cv .u32 (.tmp 13)),
 Zs 15 (.call 103 [(.tmp 12),(.tmp 14)]),
 Zo 10 15,
 Zs 16 (.ext (.tmp 10) 0),
 Zs 17 (.ext (.tmp 10) 1),
 Zo 6 16,
 Zo 7 17])
 (.seq (.ops [Zo 18 6,
 Zs 19 (.cv .u64 (.tmp 18)),
 Zo 20 7,
 Zs 21 (.cv .u64 (.tmp 20)),
 Zo 4 19,
 Zo 5 21])
 .ret))
 .skip)
 (.seq (.ops [Zo 23 0,
 Zo 24 1,
 Zs 25 (.call 104 [(.tmp 23),(.tmp 24)]),
 Zo 22 25,
 Zs 26 (.ext (.tmp 22) 0),
 Zs 27 (.ext (.tmp 22) 1),
 Zo 8 26,
 Zo 9 27])
 (.seq (.ops [Zo 28 8,
 Zo 29 9,
 Zo 4 28,
 Zo 5 29])
 .ret))))⟩
theorem h78 : strF Tryz.prog [] Tryz.f78 = some c78 := by kernel_rfl
def c80 : Fun := ⟨18,[.inl 4],
 (.seq (.ops [Zs 4 (.mv (.const (.bool false)))])
 (.seq (.seq (.ops [Zo 7 1,
 Zr 8 7,
 Zs 9 (.mv (Zi 0))])
 (.block 0
 (.loop
 (.seq (.ops [Zy 10 .lss 9 8])
 (.seq (.cond (.tmp 10)
 .skip
 (.exit 0))
 (.seq (.block 1
 (.seq (.ops [Zt 11 1 7 9,
 Zs 12 (.ld .slice (.tmp 11)),
 Zo 6 12])
 (.seq (.ops [Zo 13 6,
 Zr 14 13,
 Zo 15 0,
 Zy 16 .gtr 14 15])
 (.cond (.tmp 16)
 (.seq (.ops [Zs 4 (.mv (.const (.bool true)))])
 .ret)
 .skip))))
 (.ops [Zw 17 .add 9 1,
 Zo 9 17])))))))
 (.seq (.ops [Zs 4 (.mv (.const (.bool false)))])
 .ret)))⟩
theorem h80 : strF Tryz.prog [] Tryz.f80 = some c80 := by kernel_rfl
def c81 : Fun := ⟨129,[.inl 4,.inl 5],
 (.seq (.ops [Zs 4 (.mv (.const (.slice none 0 0))),
 Zs 5 (.mv (.const (.slice none 0 0)))])
 (.seq (.ops [Zo 13 0,
 Zs 14 (.call 64 [(.tmp 13)]),
 Zo 15 1,
 Zs 16 (.call 64 [(.tmp 15)]),
 Zo 0 14,
 Zo 1 16])
 (.seq (.block 0
 (.seq (.ops [Zo 18 0,
 Zo 19 1,
 Zs 20 (.call 47 [(.tmp 18),(.tmp 19)]),
 Zw 21 .lss 20 0,
 Zo 17 21])
 (.cond (.tmp 17)
 (.seq (.ops [Zo 22 0,
 Zs 23 (.call 83 [(.tmp 22)]),
 Zs 4 (.mv (.const (.slice none 0 0))),
 Zo 5 23])
 .ret)
 (.seq (.ops [Zo 25 1,
 Zr 26 25,
 Zw 27 .eql 26 1,
 Zo 24 27])
 (.cond (.tmp 24)
 (.seq (.ops [Zo 28 0,
 Zo 29 1,
 Zs 30 (.ia 1 (.tmp 29) (Zi 0)),
 Zh 31 .u32 30,
 Zs 32 (.call 105 [(.tmp 28),(.tmp 31)]),
 Zs 33 (.ext (.tmp 32) 0),
 Zs 34 (.ext (.tmp 32) 1),
 Zo 4 33,
 Zo 5 34])
 .ret)
 .skip)))))
 (.seq (.ops [Zo 35 1,
 Zo 36 1,
 Zr 37 36,
 Zw 38 .sub 37 1,
 Zt 39 1 35 38,
 Zh 40 .u32 39,
 Zs 41 (.call 106 [(.tmp 40)]),
 Zo 6 41])
 (.seq (.ops [Zo 42 0,
 Zo 43 6,
 Zs 44 (.call 107 [(.tmp 42),(.tmp 43)]),
 Zo 45 1,
 Zo 46 6,
 Zs 47 (.call 107 [(.tmp 45),(.tmp 46)]),
 Zs 48 (.call 64 [(.tmp 47)]),
 Zo 7 44,
 Zo 8 48])
 (.seq (.ops [Zo 49 8,
 Zr 50 49,
 Zo 9 50])
 (.seq (.ops [Zo 51 7,
 Zr 52 51,
 Zo 53 9,
 Zy 54 .sub 52 53,
 Zs 55 (.mks 50 1 4 #[(.int .u32 0)] (.tmp 54) (.tmp 54)),
 Zo 4 55])
 (.seq (.seq (.ops [Zo 56 7,
 Zr 57 56,
 Zo 58 9,
 Zy 59 .sub 57 58,
 Zw 60 .sub 59 1,
 Zo 10 60])
 (.block 1
 (.loop
 (.seq (.seq (.ops [Zo 61 10,
 Zw 62 .geq 61 0])
 (.cond (.tmp 62)
 .skip
 (.exit 1)))
 (.seq (.block 2
 (.seq (.drawS [(0,0),(0,1),(0,2),(0,3),(0,4),(0,5),(0,6),(0,7),(0,8),(0,9),(0,11),(0,12),(0,13),(0,14),(1,10),(1,15),(2,16),(0,17)]
 [Zo 65 7,
 Zo 66 10,
 Zo 67 9,
 Zy 68 .add 66 67,
 Zw 69 .add 68 1,
 Zs 70 (.slc 1 (.tmp 65) none (some (.tmp 69)) none),
 Zo 71 8,
 Zo 72 9,
 Zw 73 .sub 72 1,
 Zt 74 1 71 73,
 Zh 75 .u32 74,
 Zo 76 8,
 Zo 77 9,
 Zw 78 .sub 77 2,
 Zt 79 1 76 78,
 Zh 80 .u32 79,
 Zs 81 (.call 108 [(.tmp 70),(.tmp 75),(.tmp 80)]),
 Zo 11 81])
 (.join (.seq (.ops [Zo 82 7,
 Zo 83 10,
 Zo 84 10,
 Zo 85 9,
 Zy 86 .add 84 85,
 Zw 87 .add 86 1,
 Zs 88 (.slc 1 (.tmp 82) (some (.tmp 83)) (some (.tmp 87)) none),
 Zo 89 8,
 Zo 90 11,
 Zs 91 (.call 109 [(.tmp 88),(.tmp 89),(.tmp 90)]),
 Zs 92 (.un .not (.tmp 91))])
 (.cond (.tmp 92)
 (.ops [Zo 93 11,
 Zs 94 (.bin .sub (.tmp 93) (.const (.int .u32 1))),
 Zo 11 94])
 .skip))
 (.ops [Zo 95 4,
 Zo 96 10,
 Zo 97 11,
 Zt 98 1 95 96,
 ⟨none,none,.st 1 (.tmp 98) (.tmp 97)⟩]))))
 (.ops [Zo 63 10,
 Zw 64 .sub 63 1,
 Zo 10 64]))))))
 (.seq (.ops [Zo 99 9,
 Zs 100 (.mks 50 1 4 #[(.int .u32 0)] (.tmp 99) (.tmp 99)),
 Zo 5 100])
 (.seq (.seq (.ops [Zo 101 9,
 Zs 102 (.mv (Zi 0))])
 (.block 3
 (.loop
 (.seq (.ops [Zy 103 .lss 102 101])
 (.seq (.cond (.tmp 103)
 .skip
 (.exit 3))
 (.seq (.block 4
 (.seq (.ops [Zo 104 102,
 Zo 12 104])
 (.draw 19 [Zo 105 5,
 Zo 106 12,
 Zo 107 7,
 Zo 108 12,
 Zw 109 .add 108 1,
 Zt 110 1 107 109,
 Zh 111 .u32 110,
 Zs 112 (.cv .u64 (.tmp 111)),
 Zs 113 (.bin .shl (.tmp 112) (.const (.int .u64 32))),
 Zo 114 7,
 Zo 115 12,
 Zt 116 1 114 115,
 Zh 117 .u32 116,
 Zs 118 (.cv .u64 (.tmp 117)),
 Zy 119 .or 113 118,
 Zo 120 6,
 Zy 121 .shr 119 120,
 Zs 122 (.cv .u32 (.tmp 121)),
 Zt 123 1 105 106,
 ⟨none,none,.st 1 (.tmp 123) (.tmp 122)⟩])))
 (.ops [Zw 124 .add 102 1,
 Zo 102 124])))))))
 (.seq (.ops [Zo 125 4,
 Zs 126 (.call 64 [(.tmp 125)]),
 Zo 127 5,
 Zs 128 (.call 64 [(.tmp 127)]),
 Zo 4 126,
 Zo 5 128])
 .ret)))))))))))⟩
theorem h81 : strF Tryz.prog [(13,.inl [(0,0),(0,1),(0,2),(0,3),(0,4),(0,5),(0,6),(0,7),(0,8),(0,9),(0,11),(0,12),(0,13),(0,14),(1,10),(1,15),(2,16),(0,17)])] Tryz.f81 = some c81 := by kernel_rfl
def c82 : Fun := ⟨18,[.inl 6],
 (.seq (.ops [Zs 6 (.mv (.const (.slice none 0 0)))])
 (.seq (.ops [Zo 10 0,
 Zo 11 1,
 Zs 12 (.call 110 [(.tmp 10),(.tmp 11)]),
 Zo 13 2,
 Zs 14 (.call 81 [(.tmp 12),(.tmp 13)]),
 Zo 9 14,
 Zs 15 (.ext (.tmp 9) 0),
 Zs 16 (.ext (.tmp 9) 1),
 Zo 7 15,
 Zo 8 16])
 (.seq (.ops [Zo 17 8,
 Zo 6 17])
 .ret)))⟩
theorem h82 : strF Tryz.prog [] Tryz.f82 = some c82 := by kernel_rfl
def c83 : Fun := ⟨6,[.inl 2],
 (.seq (.ops [Zs 2 (.mv (.const (.slice none 0 0)))])
 (.seq (.ops [Zo 3 0,
 Zs 4 (.call 64 [(.tmp 3)]),
 Zs 5 (.app 50 1 4 #[(.int .u32 0)] (.const (.slice none 0 0)) (.tmp 4)),
 Zo 2 5])
 .ret))⟩
theorem h83 : strF Tryz.prog [] Tryz.f83 = some c83 := by kernel_rfl
def c84 : Fun := ⟨38,[.inl 2],
 (.seq (.ops [Zs 2 (.mv (.const (.slice none 0 0)))])
 (.seq (.ops [Zo 6 0,
 Zs 7 (.call 100 [(.tmp 6)]),
 Zo 0 7])
 (.seq (.ops [Zs 3 (.mv (.const (.slice none 0 0)))])
 (.seq (.seq (.ops [Zs 4 (.mv (Zi 0))])
 (.block 0
 (.loop
 (.seq (.seq (.ops [Zo 8 4,
 Zo 9 0,
 Zr 10 9,
 Zy 11 .lss 8 10])
 (.cond (.tmp 11)
 .skip
 (.exit 0)))
 (.seq (.block 1
 (.seq (.ops [Zo 14 0,
 Zo 15 4,
 Zt 16 1 14 15,
 Zh 17 .u64 16,
 Zs 18 (.cv .u32 (.tmp 17)),
 Zo 5 18])
 (.join (.seq (.ops [Zo 19 4,
 Zw 20 .add 19 1,
 Zo 21 0,
 Zr 22 21,
 Zy 23 .lss 20 22])
 (.cond (.tmp 23)
 (.ops [Zo 24 5,
 Zo 25 0,
 Zo 26 4,
 Zw 27 .add 26 1,
 Zt 28 1 25 27,
 Zh 29 .u64 28,
 Zs 30 (.cv .u32 (.tmp 29)),
 Zs 31 (.bin .shl (.tmp 30) (.const (.int .u64 16))),
 Zy 32 .add 24 31,
 Zo 5 32])
 .skip))
 (.ops [Zo 33 3,
 Zo 34 5,
 Zs 35 (.bsl 50 1 1 #[(.int .u32 0)] [(0,(.tmp 34))]),
 Zs 36 (.app 50 1 4 #[(.int .u32 0)] (.tmp 33) (.tmp 35)),
 Zo 3 36]))))
 (.ops [Zo 12 4,
 Zw 13 .add 12 2,
 Zo 4 13]))))))
 (.seq (.ops [Zo 37 3,
 Zo 2 37])
 .ret)))))⟩
theorem h84 : strF Tryz.prog [] Tryz.f84 = some c84 := by kernel_rfl
def c85 : Fun := ⟨35,[.inl 4],
 (.seq (.ops [Zs 4 (.mv (Zi 0))])
 (.seq (.ops [Zo 9 0,
 Zr 10 9,
 Zo 5 10])
 (.join (.seq (.ops [Zo 11 1,
 Zr 12 11,
 Zo 13 5,
 Zy 14 .gtr 12 13])
 (.cond (.tmp 14)
 (.ops [Zo 15 1,
 Zr 16 15,
 Zo 5 16])
 .skip))
 (.seq (.seq (.ops [Zo 17 5,
 Zw 18 .sub 17 1,
 Zo 6 18])
 (.block 0
 (.loop
 (.seq (.seq (.ops [Zo 19 6,
 Zw 20 .geq 19 0])
 (.cond (.tmp 20)
 .skip
 (.exit 0)))
 (.seq (.block 1
 (.seq (.ops [Zo 23 0,
 Zo 24 6,
 Zs 25 (.call 92 [(.tmp 23),(.tmp 24)]),
 Zo 26 1,
 Zo 27 6,
 Zs 28 (.call 92 [(.tmp 26),(.tmp 27)]),
 Zo 7 25,
 Zo 8 28])
 (.seq (.seq (.ops [Zo 29 7,
 Zo 30 8,
 Zy 31 .lss 29 30])
 (.cond (.tmp 31)
 (.seq (.ops [Zs 4 (.mv (.const (.int .i64 (-1))))])
 .ret)
 .skip))
 (.seq (.ops [Zo 32 7,
 Zo 33 8,
 Zy 34 .gtr 32 33])
 (.cond (.tmp 34)
 (.seq (.ops [Zs 4 (.mv (Zi 1))])
 .ret)
 .skip)))))
 (.ops [Zo 21 6,
 Zw 22 .sub 21 1,
 Zo 6 22]))))))
 (.seq (.ops [Zs 4 (.mv (Zi 0))])
 .ret)))))⟩
theorem h85 : strF Tryz.prog [] Tryz.f85 = some c85 := by kernel_rfl
def c86 : Fun := ⟨17,[.inl 6],
 (.seq (.ops [Zs 6 (.mv (.const (.bool false)))])
 (.seq (.ops [Zo 7 1,
 Zr 8 7,
 Zo 9 0,
 Zy 10 .gtr 8 9,
 Zo 11 10,
 ⟨some 12,some (11,false),.mv (.tmp 2)⟩,
 ⟨some 13,some (11,false),.len (.tmp 12)⟩,
 ⟨some 14,some (11,false),.mv (.tmp 0)⟩,
 ⟨some 15,some (11,false),.bin .gtr (.tmp 13) (.tmp 14)⟩,
 Zs 16 (.pick (.tmp 11) (.const (.bool true)) (.tmp 15)),
 Zo 6 16])
 .ret))⟩
theorem h86 : strF Tryz.prog [] Tryz.f86 = some c86 := by kernel_rfl
def c87 : Fun := ⟨43,[.inl 4],
 (.seq (.ops [Zs 4 (.mv (.const (.slice none 0 0)))])
 (.seq (.ops [Zs 5 (.mv (.const (.slice none 0 0)))])
 (.seq (.ops [Zs 6 (.mv (.const (.int .u64 0)))])
 (.seq (.seq (.ops [Zs 7 (.mv (Zi 0))])
 (.block 0
 (.loop
 (.seq (.seq (.ops [Zo 9 7,
 Zo 10 0,
 Zr 11 10,
 Zy 12 .lss 9 11,
 Zo 13 12,
 ⟨some 14,some (13,false),.mv (.tmp 7)⟩,
 ⟨some 15,some (13,false),.mv (.tmp 1)⟩,
 ⟨some 16,some (13,false),.len (.tmp 15)⟩,
 ⟨some 17,some (13,false),.bin .lss (.tmp 14) (.tmp 16)⟩,
 Zs 18 (.pick (.tmp 13) (.const (.bool true)) (.tmp 17)),
 Zo 19 18,
 ⟨some 20,some (19,false),.mv (.tmp 6)⟩,
 ⟨some 21,some (19,false),.bin .gtr (.tmp 20) (.const (.int .u64 0))⟩,
 Zs 22 (.pick (.tmp 19) (.const (.bool true)) (.tmp 21))])
 (.cond (.tmp 22)
 .skip
 (.exit 0)))
 (.seq (.block 1
 (.seq (.ops [Zo 25 0,
 Zo 26 7,
 Zs 27 (.call 92 [(.tmp 25),(.tmp 26)]),
 Zo 28 1,
 Zo 29 7,
 Zs 30 (.call 92 [(.tmp 28),(.tmp 29)]),
 Zy 31 .add 27 30,
 Zo 32 6,
 Zy 33 .add 31 32,
 Zo 8 33])
 (.seq (.ops [Zo 34 5,
 Zo 35 8,
 Zs 36 (.bin .rem (.tmp 35) (.const (.int .u64 65536))),
 Zs 37 (.bsl 60 1 1 #[(.int .u64 0)] [(0,(.tmp 36))]),
 Zs 38 (.app 60 1 8 #[(.int .u64 0)] (.tmp 34) (.tmp 37)),
 Zo 5 38])
 (.ops [Zo 39 8,
 Zs 40 (.bin .quo (.tmp 39) (.const (.int .u64 65536))),
 Zo 6 40]))))
 (.ops [Zo 23 7,
 Zw 24 .add 23 1,
 Zo 7 24]))))))
 (.seq (.ops [Zo 41 5,
 Zs 42 (.call 100 [(.tmp 41)]),
 Zo 4 42])
 .ret)))))⟩
theorem h87 : strF Tryz.prog [] Tryz.f87 = some c87 := by kernel_rfl
def c88 : Fun := ⟨29,[.inl 4],
 (.seq (.ops [Zs 4 (.mv (.const (.slice none 0 0)))])
 (.seq (.ops [Zo 7 1,
 Zs 8 (.mks 60 1 8 #[(.int .u64 0)] (.tmp 7) (.tmp 7)),
 Zo 5 8])
 (.seq (.seq (.ops [Zs 6 (.mv (Zi 0))])
 (.block 0
 (.loop
 (.seq (.seq (.ops [Zo 9 6,
 Zo 10 1,
 Zy 11 .lss 9 10,
 Zo 12 11,
 ⟨some 13,some (12,true),.mv (.tmp 6)⟩,
 ⟨some 14,some (12,true),.mv (.tmp 0)⟩,
 ⟨some 15,some (12,true),.len (.tmp 14)⟩,
 ⟨some 16,some (12,true),.bin .lss (.tmp 13) (.tmp 15)⟩,
 Zs 17 (.pick (.tmp 12) (.tmp 16) (.const (.bool false)))])
 (.cond (.tmp 17)
 .skip
 (.exit 0)))
 (.seq (.block 1
 (.ops [Zo 20 5,
 Zo 21 6,
 Zo 22 0,
 Zo 23 6,
 Zt 24 1 22 23,
 Zh 25 .u32 24,
 Zs 26 (.cv .u64 (.tmp 25)),
 Zt 27 1 20 21,
 ⟨none,none,.st 1 (.tmp 27) (.tmp 26)⟩]))
 (.ops [Zo 18 6,
 Zw 19 .add 18 1,
 Zo 6 19]))))))
 (.seq (.ops [Zo 28 5,
 Zo 4 28])
 .ret))))⟩
theorem h88 : strF Tryz.prog [] Tryz.f88 = some c88 := by kernel_rfl
def c89 : Fun := ⟨101,[.inl 4,.inl 5],
 (.seq (.ops [Zs 4 (.mv (.const (.slice none 0 0))),
 Zs 5 (.mv (.const (.slice none 0 0)))])
 (.seq (.ops [Zo 14 0,
 Zr 15 14,
 Zs 16 (.mks 60 1 8 #[(.int .u64 0)] (.tmp 15) (.tmp 15)),
 Zo 6 16])
 (.seq (.ops [Zo 17 1,
 Zr 18 17,
 Zo 7 18])
 (.seq (.draw 12 [Zo 19 1,
 Zo 20 7,
 Zw 21 .sub 20 1,
 Zt 22 1 19 21,
 Zh 23 .u64 22,
 Zs 24 (.bin .mul (.tmp 23) (.const (.int .u64 65536))),
 Zo 25 1,
 Zo 26 7,
 Zw 27 .sub 26 2,
 Zs 28 (.call 92 [(.tmp 25),(.tmp 27)]),
 Zy 29 .add 24 28,
 Zo 8 29])
 (.seq (.ops [Zs 9 (.mv (.const (.slice none 0 0)))])
 (.seq (.seq (.ops [Zo 30 0,
 Zr 31 30,
 Zw 32 .sub 31 1,
 Zo 10 32])
 (.block 0
 (.loop
 (.seq (.seq (.ops [Zo 33 10,
 Zw 34 .geq 33 0])
 (.cond (.tmp 34)
 .skip
 (.exit 0)))
 (.join (.block 1
 (.seq (.ops [Zo 37 0,
 Zo 38 10,
 Zt 39 1 37 38,
 Zh 40 .u64 39,
 Zs 41 (.bsl 60 1 1 #[(.int .u64 0)] [(0,(.tmp 40))]),
 Zo 42 9,
 Zs 43 (.app 60 1 8 #[(.int .u64 0)] (.tmp 41) (.tmp 42)),
 Zs 44 (.call 100 [(.tmp 43)]),
 Zo 9 44])
 (.seq (.seq (.ops [Zo 45 9,
 Zo 46 1,
 Zs 47 (.call 85 [(.tmp 45),(.tmp 46)]),
 Zw 48 .lss 47 0])
 (.cond (.tmp 48)
 (.exit 1)
 .skip))
 (.seq (.ops [Zs 11 (.mv (.const (.int .u64 0)))])
 (.join (.seq (.ops [Zo 49 7,
 Zw 50 .geq 49 2])
 (.cond (.tmp 50)
 (.ops [Zo 51 9,
 Zo 52 7,
 Zs 53 (.call 92 [(.tmp 51),(.tmp 52)]),
 Zs 54 (.bin .mul (.tmp 53) (.const (.int .u64 65536))),
 Zo 55 9,
 Zo 56 7,
 Zw 57 .sub 56 1,
 Zs 58 (.call 92 [(.tmp 55),(.tmp 57)]),
 Zy 59 .add 54 58,
 Zs 60 (.bin .mul (.tmp 59) (.const (.int .u64 65536))),
 Zo 61 9,
 Zo 62 7,
 Zw 63 .sub 62 2,
 Zs 64 (.call 92 [(.tmp 61),(.tmp 63)]),
 Zy 65 .add 60 64,
 Zo 11 65])
 (.ops [Zo 66 9,
 Zs 67 (.call 92 [(.tmp 66),(Zi 1)]),
 Zs 68 (.bin .mul (.tmp 67) (.const (.int .u64 65536))),
 Zo 69 9,
 Zs 70 (.call 92 [(.tmp 69),(Zi 0)]),
 Zy 71 .add 68 70,
 Zs 72 (.bin .mul (.tmp 71) (.const (.int .u64 65536))),
 Zo 11 72])))
 (.seq (.ops [Zo 73 11,
 Zo 74 8,
 Zy 75 .quo 73 74,
 Zo 12 75])
 (.join (.seq (.ops [Zo 76 12,
 Zs 77 (.bin .gtr (.tmp 76) (.const (.int .u64 65535)))])
 (.cond (.tmp 77)
 (.ops [Zs 12 (.mv (.const (.int .u64 65535)))])
 .skip))
 (.seq (.ops [Zo 78 1,
 Zo 79 12,
 Zs 80 (.bsl 60 1 1 #[(.int .u64 0)] [(0,(.tmp 79))]),
 Zs 81 (.call 90 [(.tmp 78),(.tmp 80)]),
 Zo 13 81])
 (.seq (.block 2
 (.loop
 (.seq (.seq (.ops [Zo 82 13,
 Zo 83 9,
 Zs 84 (.call 85 [(.tmp 82),(.tmp 83)]),
 Zw 85 .gtr 84 0])
 (.cond (.tmp 85)
 .skip
 (.exit 2)))
 (.block 3
 (.seq (.ops [Zo 86 12,
 Zs 87 (.bin .sub (.tmp 86) (.const (.int .u64 1))),
 Zo 12 87])
 (.ops [Zo 88 13,
 Zo 89 1,
 Zs 90 (.call 111 [(.tmp 88),(.tmp 89)]),
 Zo 13 90]))))))
 (.seq (.ops [Zo 91 9,
 Zo 92 13,
 Zs 93 (.call 111 [(.tmp 91),(.tmp 92)]),
 Zo 9 93])
 (.ops [Zo 94 6,
 Zo 95 10,
 Zo 96 12,
 Zt 97 1 94 95,
 ⟨none,none,.st 1 (.tmp 97) (.tmp 96)⟩])))))))))))
 (.ops [Zo 35 10,
 Zw 36 .sub 35 1,
 Zo 10 36]))))))
 (.seq (.ops [Zo 98 6,
 Zs 99 (.call 100 [(.tmp 98)]),
 Zo 100 9,
 Zo 4 99,
 Zo 5 100])
 .ret)))))))⟩
theorem h89 : strF Tryz.prog [] Tryz.f89 = some c89 := by kernel_rfl
def c90 : Fun := ⟨64,[.inl 4],
 (.seq (.ops [Zs 4 (.mv (.const (.slice none 0 0)))])
 (.seq (.ops [Zo 10 0,
 Zr 11 10,
 Zo 12 1,
 Zr 13 12,
 Zy 14 .add 11 13,
 Zs 15 (.mks 60 1 8 #[(.int .u64 0)] (.tmp 14) (.tmp 14)),
 Zo 5 15])
 (.seq (.seq (.ops [Zs 6 (.mv (Zi 0))])
 (.block 0
 (.loop
 (.seq (.seq (.ops [Zo 16 6,
 Zo 17 0,
 Zr 18 17,
 Zy 19 .lss 16 18])
 (.cond (.tmp 19)
 .skip
 (.exit 0)))
 (.seq (.block 1
 (.seq (.ops [Zs 7 (.mv (.const (.int .u64 0)))])
 (.seq (.seq (.ops [Zs 8 (.mv (Zi 0))])
 (.block 2
 (.loop
 (.seq (.seq (.ops [Zo 22 8,
 Zo 23 1,
 Zr 24 23,
 Zy 25 .lss 22 24])
 (.cond (.tmp 25)
 .skip
 (.exit 2)))
 (.seq (.block 3
 (.seq (.draw 19 [Zo 28 5,
 Zo 29 6,
 Zo 30 8,
 Zy 31 .add 29 30,
 Zt 32 1 28 31,
 Zh 33 .u64 32,
 Zo 34 0,
 Zo 35 6,
 Zt 36 1 34 35,
 Zh 37 .u64 36,
 Zo 38 1,
 Zo 39 8,
 Zt 40 1 38 39,
 Zh 41 .u64 40,
 Zy 42 .mul 37 41,
 Zy 43 .add 33 42,
 Zo 44 7,
 Zy 45 .add 43 44,
 Zo 9 45])
 (.seq (.ops [Zo 46 5,
 Zo 47 6,
 Zo 48 8,
 Zy 49 .add 47 48,
 Zo 50 9,
 Zs 51 (.bin .rem (.tmp 50) (.const (.int .u64 65536))),
 Zt 52 1 46 49,
 ⟨none,none,.st 1 (.tmp 52) (.tmp 51)⟩])
 (.ops [Zo 53 9,
 Zs 54 (.bin .quo (.tmp 53) (.const (.int .u64 65536))),
 Zo 7 54]))))
 (.ops [Zo 26 8,
 Zw 27 .add 26 1,
 Zo 8 27]))))))
 (.ops [Zo 55 5,
 Zo 56 6,
 Zo 57 1,
 Zr 58 57,
 Zy 59 .add 56 58,
 Zo 60 7,
 Zt 61 1 55 59,
 ⟨none,none,.st 1 (.tmp 61) (.tmp 60)⟩]))))
 (.ops [Zo 20 6,
 Zw 21 .add 20 1,
 Zo 6 21]))))))
 (.seq (.ops [Zo 62 5,
 Zs 63 (.call 100 [(.tmp 62)]),
 Zo 4 63])
 .ret))))⟩
theorem h90 : strF Tryz.prog [] Tryz.f90 = some c90 := by kernel_rfl
def c91 : Fun := ⟨123,[.inl 6],
 (.seq (.ops [Zs 6 (.mv (.const (.slice none 0 0)))])
 (.seq (.ops [Zo 16 2,
 Zr 17 16,
 Zo 7 17])
 (.seq (.ops [Zo 18 7,
 Zs 19 (.bin .mul (Zi 2) (.tmp 18)),
 Zs 20 (.mks 60 1 8 #[(.int .u64 0)] (.tmp 19) (.tmp 19)),
 Zo 8 20])
 (.seq (.seq (.ops [Zs 9 (.mv (Zi 0))])
 (.block 0
 (.loop
 (.seq (.seq (.ops [Zo 21 9,
 Zo 22 7,
 Zy 23 .lss 21 22])
 (.cond (.tmp 23)
 .skip
 (.exit 0)))
 (.seq (.block 1
 (.seq (.ops [Zs 10 (.mv (.const (.int .u64 0)))])
 (.seq (.seq (.ops [Zs 11 (.mv (Zi 0))])
 (.block 2
 (.loop
 (.seq (.seq (.ops [Zo 26 11,
 Zo 27 7,
 Zy 28 .lss 26 27])
 (.cond (.tmp 28)
 .skip
 (.exit 2)))
 (.seq (.block 3
 (.seq (.draw 19 [Zo 31 0,
 Zo 32 9,
 Zt 33 1 31 32,
 Zh 34 .u64 33,
 Zo 35 1,
 Zo 36 11,
 Zt 37 1 35 36,
 Zh 38 .u64 37,
 Zy 39 .mul 34 38,
 Zo 40 8,
 Zo 41 9,
 Zo 42 11,
 Zy 43 .add 41 42,
 Zt 44 1 40 43,
 Zh 45 .u64 44,
 Zy 46 .add 39 45,
 Zo 47 10,
 Zy 48 .add 46 47,
 Zo 12 48])
 (.seq (.ops [Zo 49 8,
 Zo 50 9,
 Zo 51 11,
 Zy 52 .add 50 51,
 Zo 53 12,
 Zs 54 (.bin .and (.tmp 53) (.const (.int .u64 4294967295))),
 Zt 55 1 49 52,
 ⟨none,none,.st 1 (.tmp 55) (.tmp 54)⟩])
 (.ops [Zo 56 12,
 Zs 57 (.bin .shr (.tmp 56) (.const (.int .u64 32))),
 Zo 10 57]))))
 (.ops [Zo 29 11,
 Zw 30 .add 29 1,
 Zo 11 30]))))))
 (.ops [Zo 58 8,
 Zo 59 9,
 Zo 60 7,
 Zy 61 .add 59 60,
 Zo 62 10,
 Zt 63 1 58 61,
 ⟨none,none,.st 1 (.tmp 63) (.tmp 62)⟩]))))
 (.ops [Zo 24 9,
 Zw 25 .add 24 1,
 Zo 9 25]))))))
 (.seq (.ops [Zo 64 7,
 Zw 65 .add 64 1,
 Zs 66 (.mks 60 1 8 #[(.int .u64 0)] (.tmp 65) (.tmp 65)),
 Zo 13 66])
 (.seq (.seq (.ops [Zo 67 7,
 Zs 68 (.bin .mul (Zi 2) (.tmp 67)),
 Zw 69 .sub 68 1,
 Zo 14 69])
 (.block 4
 (.loop
 (.seq (.seq (.ops [Zo 70 14,
 Zw 71 .geq 70 0])
 (.cond (.tmp 71)
 .skip
 (.exit 4)))
 (.seq (.block 5
 (.seq (.seq (.ops [Zo 74 7,
 Zo 15 74])
 (.block 6
 (.loop
 (.seq (.seq (.ops [Zo 75 15,
 Zw 76 .gtr 75 0])
 (.cond (.tmp 76)
 .skip
 (.exit 6)))
 (.seq (.block 7
 (.ops [Zo 79 13,
 Zo 80 15,
 Zo 81 13,
 Zo 82 15,
 Zw 83 .sub 82 1,
 Zt 84 1 81 83,
 Zh 85 .u64 84,
 Zt 86 1 79 80,
 ⟨none,none,.st 1 (.tmp 86) (.tmp 85)⟩]))
 (.ops [Zo 77 15,
 Zw 78 .sub 77 1,
 Zo 15 78]))))))
 (.seq (.ops [Zo 87 13,
 Zo 88 8,
 Zo 89 14,
 Zt 90 1 88 89,
 Zh 91 .u64 90,
 Zs 92 (.ia 1 (.tmp 87) (Zi 0)),
 ⟨none,none,.st 1 (.tmp 92) (.tmp 91)⟩])
 (.seq (.drawS [(0,0),(0,1),(0,2),(0,3),(0,4),(0,7),(0,8),(0,9),(0,10),(0,13),(0,14),(0,15),(0,16),(1,5),(0,6),(1,11),(0,12),(1,17),(0,18),(0,19),(2,20)]
 [Zo 93 13,
 Zo 94 2,
 Zo 95 13,
 Zo 96 7,
 Zt 97 1 95 96,
 Zh 98 .u64 97,
 Zs 99 (.bin .shl (.tmp 98) (.const (.int .u64 32))),
 Zo 100 13,
 Zo 101 7,
 Zw 102 .sub 101 1,
 Zt 103 1 100 102,
 Zh 104 .u64 103,
 Zy 105 .or 99 104,
 Zo 106 2,
 Zo 107 7,
 Zw 108 .sub 107 1,
 Zt 109 1 106 108,
 Zh 110 .u64 109,
 Zs 111 (.bin .add (.tmp 110) (.const (.int .u64 1))),
 Zy 112 .quo 105 111,
 Zs 113 (.call 112 [(.tmp 93),(.tmp 94),(.tmp 112)])])
 (.block 8
 (.loop
 (.seq (.seq (.ops [Zo 114 13,
 Zo 115 2,
 Zs 116 (.call 113 [(.tmp 114),(.tmp 115)])])
 (.cond (.tmp 116)
 .skip
 (.exit 8)))
 (.block 9
 (.ops [Zo 117 13,
 Zo 118 2,
 Zs 119 (.call 112 [(.tmp 117),(.tmp 118),(.const (.int .u64 1))])])))))))))
 (.ops [Zo 72 14,
 Zw 73 .sub 72 1,
 Zo 14 73]))))))
 (.seq (.ops [Zo 120 13,
 Zo 121 7,
 Zs 122 (.slc 1 (.tmp 120) none (some (.tmp 121)) none),
 Zo 6 122])
 .ret)))))))⟩
theorem h91 : strF Tryz.prog [(23,.inl [(0,0),(0,1),(0,2),(0,3),(0,4),(0,7),(0,8),(0,9),(0,10),(0,13),(0,14),(0,15),(0,16),(1,5),(0,6),(1,11),(0,12),(1,17),(0,18),(0,19),(2,20)])] Tryz.f91 = some c91 := by kernel_rfl
def c92 : Fun := ⟨17,[.inl 4],
 (.seq (.ops [Zs 4 (.mv (.const (.int .u64 0)))])
 (.seq (.seq (.ops [Zo 5 1,
 Zw 6 .geq 5 0,
 Zo 7 6,
 ⟨some 8,some (7,true),.mv (.tmp 1)⟩,
 ⟨some 9,some (7,true),.mv (.tmp 0)⟩,
 ⟨some 10,some (7,true),.len (.tmp 9)⟩,
 ⟨some 11,some (7,true),.bin .lss (.tmp 8) (.tmp 10)⟩,
 Zs 12 (.pick (.tmp 7) (.tmp 11) (.const (.bool false)))])
 (.cond (.tmp 12)
 (.seq (.ops [Zo 13 0,
 Zo 14 1,
 Zt 15 1 13 14,
 Zh 16 .u64 15,
 Zo 4 16])
 .ret)
 .skip))
 (.seq (.ops [Zs 4 (.mv (.const (.int .u64 0)))])
 .ret)))⟩
theorem h92 : strF Tryz.prog [] Tryz.f92 = some c92 := by kernel_rfl
def c98 : Fun := ⟨10,[.inl 2],
 (.seq (.ops [Zs 2 (.mv (Zi 0))])
 (.seq (.seq (.ops [Zo 3 0])
 (.block 0
 (.join (.seq (.ops [Zw 5 .eql 3 1,
 Zo 4 5])
 (.cond (.tmp 4)
 .skip
 (.ops [Zw 6 .eql 3 2,
 Zo 4 6])))
 (.cond (.tmp 4)
 (.seq (.ops [Zs 2 (.mv (Zi 64))])
 .ret)
 (.join (.seq (.ops [Zw 8 .eql 3 3,
 Zo 7 8])
 (.cond (.tmp 7)
 .skip
 (.ops [Zw 9 .eql 3 4,
 Zo 7 9])))
 (.cond (.tmp 7)
 (.seq (.ops [Zs 2 (.mv (Zi 128))])
 .ret)
 .skip))))))
 (.seq (.ops [Zs 2 (.mv (Zi 0))])
 .ret)))⟩
theorem h98 : strF Tryz.prog [] Tryz.f98 = some c98 := by kernel_rfl
def c99 : Fun := ⟨39,[],
 (.seq (.ops [Zo 4 0,
 Zs 5 (.nilc (.tmp 4)),
 Zs 6 (.fa 0 (.tmp 5)),
 Zh 7 .i64 6])
 (.block 0
 (.seq (.ops [Zw 18 .eql 7 1,
 Zo 17 18])
 (.cond (.tmp 17)
 (.ops [Zo 19 0,
 Zo 20 0,
 Zs 21 (.nilc (.tmp 20)),
 Zs 22 (.fa 1 (.tmp 21)),
 Zs 23 (.ld (.agg 8) (.tmp 22)),
 Zo 24 1,
 Zs 25 (.call 117 [(.tmp 23),(.tmp 24)]),
 Zs 26 (.nilc (.tmp 19)),
 Zs 27 (.fa 1 (.tmp 26)),
 ⟨none,none,.st 8 (.tmp 27) (.tmp 25)⟩])
 (.seq (.ops [Zw 29 .eql 7 2,
 Zo 28 29])
 (.cond (.tmp 28)
 (.ops [Zo 30 0,
 Zo 31 0,
 Zs 32 (.nilc (.tmp 31)),
 Zs 33 (.fa 1 (.tmp 32)),
 Zs 34 (.ld (.agg 8) (.tmp 33)),
 Zo 35 1,
 Zs 36 (.call 118 [(.tmp 34),(.tmp 35)]),
 Zs 37 (.nilc (.tmp 30)),
 Zs 38 (.fa 1 (.tmp 37)),
 ⟨none,none,.st 8 (.tmp 38) (.tmp 36)⟩])
 (.ops [Zo 8 0,
 Zo 9 0,
 Zs 10 (.nilc (.tmp 9)),
 Zs 11 (.fa 9 (.tmp 10)),
 Zs 12 (.ld (.agg 8) (.tmp 11)),
 Zo 13 1,
 Zs 14 (.call 119 [(.tmp 12),(.tmp 13)]),
 Zs 15 (.nilc (.tmp 8)),
 Zs 16 (.fa 9 (.tmp 15)),
 ⟨none,none,.st 8 (.tmp 16) (.tmp 14)⟩])))))))⟩
theorem h99 : strF Tryz.prog [] Tryz.f99 = some c99 := by kernel_rfl
def c100 : Fun := ⟨21,[.inl 2],
 (.seq (.ops [Zs 2 (.mv (.const (.slice none 0 0)))])
 (.seq (.ops [Zo 4 0,
 Zr 5 4,
 Zo 3 5])
 (.seq (.block 0
 (.loop
 (.seq (.seq (.ops [Zo 6 3,
 Zw 7 .gtr 6 0,
 Zo 8 7,
 ⟨some 9,some (8,true),.mv (.tmp 0)⟩,
 ⟨some 10,some (8,true),.mv (.tmp 3)⟩,
 ⟨some 11,some (8,true),.bin .sub (.tmp 10) (Zi 1)⟩,
 ⟨some 12,some (8,true),.ia 1 (.tmp 9) (.tmp 11)⟩,
 ⟨some 13,some (8,true),.ld (.int .u64) (.tmp 12)⟩,
 ⟨some 14,some (8,true),.bin .eql (.tmp 13) (.const (.int .u64 0))⟩,
 Zs 15 (.pick (.tmp 8) (.tmp 14) (.const (.bool false)))])
 (.cond (.tmp 15)
 .skip
 (.exit 0)))
 (.block 1
 (.ops [Zo 16 3,
 Zw 17 .sub 16 1,
 Zo 3 17])))))
 (.seq (.ops [Zo 18 0,
 Zo 19 3,
 Zs 20 (.slc 1 (.tmp 18) none (some (.tmp 19)) none),
 Zo 2 20])
 .ret))))⟩
theorem h100 : strF Tryz.prog [] Tryz.f100 = some c100 := by kernel_rfl
def c101 : Fun := ⟨73,[.inl 2,.inl 3],
 (.seq (.ops [Zs 2 (.mv (.const (.slice none 0 0))),
 Zs 3 (.mv (.const (.bool false)))])
 (.seq (.ops [Zs 4 (.mv (.const (.slice none 0 0)))])
 (.seq (.ops [Zs 5 (.mv (.const (.int .u64 0))),
 Zs 6 (.mv (Zi 0))])
 (.seq (.seq (.ops [Zo 9 0,
 Zs 10 (.bin .add (.tmp 9) (.const (.string ⟨#[46]⟩))),
 Zs 11 (.rgs (.tmp 10))])
 (.block 0
 (.loop
 (.seq (.ops [Zs 12 (.nxs (.tmp 11)),
 Zs 13 (.ext (.tmp 12) 0)])
 (.seq (.cond (.tmp 13)
 .skip
 (.exit 0))
 (.block 1
 (.seq (.ops [Zs 14 (.ext (.tmp 12) 2),
 Zo 8 14])
 (.block 2
 (.seq (.ops [Zo 26 8,
 Zs 27 (.bin .eql (.tmp 26) (.const (.int .i32 46))),
 Zo 28 27,
 ⟨some 29,some (28,true),.mv (.tmp 6)⟩,
 ⟨some 30,some (28,true),.bin .gtr (.tmp 29) (Zi 0)⟩,
 Zs 31 (.pick (.tmp 28) (.tmp 30) (.const (.bool false))),
 Zo 25 31])
 (.cond (.tmp 25)
 (.seq (.ops [Zo 32 4,
 Zo 33 5,
 Zs 34 (.bsl 60 1 1 #[(.int .u64 0)] [(0,(.tmp 33))]),
 Zs 35 (.app 60 1 8 #[(.int .u64 0)] (.tmp 32) (.tmp 34)),
 Zo 4 35])
 (.ops [Zs 5 (.mv (.const (.int .u64 0))),
 Zs 6 (.mv (Zi 0))]))
 (.seq (.ops [Zo 37 8,
 Zs 38 (.bin .lss (.tmp 37) (.const (.int .i32 48))),
 Zo 39 38,
 ⟨some 40,some (39,false),.mv (.tmp 8)⟩,
 ⟨some 41,some (39,false),.bin .gtr (.tmp 40) (.const (.int .i32 57))⟩,
 Zs 42 (.pick (.tmp 39) (.const (.bool true)) (.tmp 41)),
 Zo 43 42,
 ⟨some 44,some (43,false),.mv (.tmp 6)⟩,
 ⟨some 45,some (43,false),.bin .eql (.tmp 44) (Zi 1)⟩,
 ⟨some 46,some (43,false),.mv (.tmp 45)⟩,
 ⟨some 47,some (46,true),.mv (.tmp 5)⟩,
 ⟨some 48,some (46,true),.bin .eql (.tmp 47) (.const (.int .u64 0))⟩,
 ⟨some 49,some (43,false),.pick (.tmp 46) (.tmp 48) (.const (.bool false))⟩,
 Zs 50 (.pick (.tmp 43) (.const (.bool true)) (.tmp 49)),
 Zo 36 50])
 (.cond (.tmp 36)
 (.seq (.ops [Zs 2 (.mv (.const (.slice none 0 0))),
 Zs 3 (.mv (.const (.bool false)))])
 .ret)
 (.seq (.ops [Zo 15 5,
 Zs 16 (.bin .mul (.const (.int .u64 10)) (.tmp 15)),
 Zo 17 8,
 Zs 18 (.bin .sub (.tmp 17) (.const (.int .i32 48))),
 Zs 19 (.cv .u64 (.tmp 18)),
 Zy 20 .add 16 19,
 Zs 21 (.min2 (.tmp 20) (.const (.int .u64 1099511627776))),
 Zo 5 21])
 (.ops [Zo 22 6,
 Zw 23 .add 22 1,
 Zs 24 (.min2 (.tmp 23) (Zi 20)),
 Zo 6 24]))))))))))))))
 (.seq (.seq (.ops [Zo 51 4,
 Zr 52 51,
 Zw 53 .lss 52 2,
 Zo 54 53,
 ⟨some 55,some (54,false),.mv (.tmp 4)⟩,
 ⟨some 56,some (54,false),.ia 1 (.tmp 55) (Zi 0)⟩,
 ⟨some 57,some (54,false),.ld (.int .u64) (.tmp 56)⟩,
 ⟨some 58,some (54,false),.bin .gtr (.tmp 57) (.const (.int .u64 2))⟩,
 Zs 59 (.pick (.tmp 54) (.const (.bool true)) (.tmp 58)),
 Zo 60 59,
 ⟨some 61,some (60,false),.mv (.tmp 4)⟩,
 ⟨some 62,some (60,false),.ia 1 (.tmp 61) (Zi 0)⟩,
 ⟨some 63,some (60,false),.ld (.int .u64) (.tmp 62)⟩,
 ⟨some 64,some (60,false),.bin .lss (.tmp 63) (.const (.int .u64 2))⟩,
 ⟨some 65,some (60,false),.mv (.tmp 64)⟩,
 ⟨some 66,some (65,true),.mv (.tmp 4)⟩,
 ⟨some 67,some (65,true),.ia 1 (.tmp 66) (Zi 1)⟩,
 ⟨some 68,some (65,true),.ld (.int .u64) (.tmp 67)⟩,
 ⟨some 69,some (65,true),.bin .geq (.tmp 68) (.const (.int .u64 40))⟩,
 ⟨some 70,some (60,false),.pick (.tmp 65) (.tmp 69) (.const (.bool false))⟩,
 Zs 71 (.pick (.tmp 60) (.const (.bool true)) (.tmp 70))])
 (.cond (.tmp 71)
 (.seq (.ops [Zs 2 (.mv (.const (.slice none 0 0))),
 Zs 3 (.mv (.const (.bool false)))])
 .ret)
 .skip))
 (.seq (.ops [Zo 72 4,
 Zo 2 72,
 Zs 3 (.mv (.const (.bool true)))])
 .ret))))))⟩
theorem h101 : strF Tryz.prog [] Tryz.f101 = some c101 := by kernel_rfl
def c102 : Fun := ⟨21,[.inl 2],
 (.seq (.ops [Zs 2 (.mv (.const (.slice none 0 0)))])
 (.seq (.ops [Zo 4 0,
 Zs 5 (.bin .and (.tmp 4) (.const (.int .u64 127))),
 Zs 6 (.cv .u8 (.tmp 5)),
 Zs 7 (.bsl 5 1 1 #[(.int .u8 0)] [(0,(.tmp 6))]),
 Zo 3 7])
 (.seq (.seq (.ops [Zo 8 0,
 Zs 9 (.bin .shr (.tmp 8) (.const (.int .u64 7))),
 Zo 0 9])
 (.block 0
 (.loop
 (.seq (.seq (.ops [Zo 10 0,
 Zs 11 (.bin .gtr (.tmp 10) (.const (.int .u64 0)))])
 (.cond (.tmp 11)
 .skip
 (.exit 0)))
 (.seq (.block 1
 (.ops [Zo 14 0,
 Zs 15 (.cv .u8 (.tmp 14)),
 Zs 16 (.bin .or (.tmp 15) (.const (.int .u8 128))),
 Zs 17 (.bsl 5 1 1 #[(.int .u8 0)] [(0,(.tmp 16))]),
 Zo 18 3,
 Zs 19 (.app 5 1 1 #[(.int .u8 0)] (.tmp 17) (.tmp 18)),
 Zo 3 19]))
 (.ops [Zo 12 0,
 Zs 13 (.bin .shr (.tmp 12) (.const (.int .u64 7))),
 Zo 0 13]))))))
 (.seq (.ops [Zo 20 3,
 Zo 2 20])
 .ret))))⟩
theorem h102 : strF Tryz.prog [] Tryz.f102 = some c102 := by kernel_rfl
def c104 : Fun := ⟨51,[.inl 4,.inl 5],
 (.seq (.ops [Zs 4 (.mv (.const (.int .u64 0))),
 Zs 5 (.mv (.const (.int .u64 0)))])
 (.seq (.ops [Zo 14 0,
 Zs 15 (.bin .and (.tmp 14) (.const (.int .u64 4294967295))),
 Zo 6 15])
 (.seq (.ops [Zo 16 0,
 Zs 17 (.bin .shr (.tmp 16) (.const (.int .u64 32))),
 Zo 7 17])
 (.seq (.ops [Zo 18 1,
 Zs 19 (.bin .and (.tmp 18) (.const (.int .u64 4294967295))),
 Zo 8 19])
 (.seq (.ops [Zo 20 1,
 Zs 21 (.bin .shr (.tmp 20) (.const (.int .u64 32))),
 Zo 9 21])
 (.seq (.ops [Zo 22 6,
 Zo 23 8,
 Zy 24 .mul 22 23,
 Zo 10 24])
 (.seq (.ops [Zo 25 7,
 Zo 26 8,
 Zy 27 .mul 25 26,
 Zo 28 10,
 Zs 29 (.bin .shr (.tmp 28) (.const (.int .u64 32))),
 Zy 30 .add 27 29,
 Zo 11 30])
 (.seq (.ops [Zo 31 11,
 Zs 32 (.bin .and (.tmp 31) (.const (.int .u64 4294967295))),
 Zo 12 32])
 (.seq (.ops [Zo 33 11,
 Zs 34 (.bin .shr (.tmp 33) (.const (.int .u64 32))),
 Zo 13 34])
 (.seq (.ops [Zo 35 12,
 Zo 36 6,
 Zo 37 9,
 Zy 38 .mul 36 37,
 Zy 39 .add 35 38,
 Zo 12 39])
 (.seq (.ops [Zo 40 7,
 Zo 41 9,
 Zy 42 .mul 40 41,
 Zo 43 13,
 Zy 44 .add 42 43,
 Zo 45 12,
 Zs 46 (.bin .shr (.tmp 45) (.const (.int .u64 32))),
 Zy 47 .add 44 46,
 Zo 4 47])
 (.seq (.ops [Zo 48 0,
 Zo 49 1,
 Zy 50 .mul 48 49,
 Zo 5 50])
 .ret))))))))))))⟩
theorem h104 : strF Tryz.prog [] Tryz.f104 = some c104 := by kernel_rfl
def c105 : Fun := ⟨36,[.inl 4,.inl 5],
 (.seq (.ops [Zs 4 (.mv (.const (.slice none 0 0))),
 Zs 5 (.mv (.const (.slice none 0 0)))])
 (.seq (.ops [Zo 8 0,
 Zr 9 8,
 Zs 10 (.mks 50 1 4 #[(.int .u32 0)] (.tmp 9) (.tmp 9)),
 Zo 4 10])
 (.seq (.ops [Zs 6 (.mv (.const (.int .u32 0)))])
 (.seq (.seq (.ops [Zo 11 0,
 Zr 12 11,
 Zw 13 .sub 12 1,
 Zo 7 13])
 (.block 0
 (.loop
 (.seq (.seq (.ops [Zo 14 7,
 Zw 15 .geq 14 0])
 (.cond (.tmp 15)
 .skip
 (.exit 0)))
 (.seq (.block 1
 (.ops [Zo 19 4,
 Zo 20 7,
 Zo 21 6,
 Zo 22 0,
 Zo 23 7,
 Zt 24 1 22 23,
 Zh 25 .u32 24,
 Zo 26 1,
 Zs 27 (.call 120 [(.tmp 21),(.tmp 25),(.tmp 26)]),
 Zo 18 27,
 Zs 28 (.ext (.tmp 18) 0),
 Zs 29 (.ext (.tmp 18) 1),
 Zt 30 1 19 20,
 ⟨none,none,.st 1 (.tmp 30) (.tmp 28)⟩,
 Zo 6 29]))
 (.ops [Zo 16 7,
 Zw 17 .sub 16 1,
 Zo 7 17]))))))
 (.seq (.ops [Zo 31 4,
 Zs 32 (.call 64 [(.tmp 31)]),
 Zo 33 6,
 Zs 34 (.bsl 50 1 1 #[(.int .u32 0)] [(0,(.tmp 33))]),
 Zs 35 (.call 64 [(.tmp 34)]),
 Zo 4 32,
 Zo 5 35])
 .ret)))))⟩
theorem h105 : strF Tryz.prog [] Tryz.f105 = some c105 := by kernel_rfl
def c106 : Fun := ⟨6,[.inl 2],
 (.seq (.ops [Zs 2 (.mv (Zi 0))])
 (.seq (.ops [Zo 3 0,
 Zs 4 (.call 65 [(.tmp 3)]),
 Zs 5 (.bin .sub (Zi 32) (.tmp 4)),
 Zo 2 5])
 .ret))⟩
theorem h106 : strF Tryz.prog [] Tryz.f106 = some c106 := by kernel_rfl
def c107 : Fun := ⟨41,[.inl 4],
 (.seq (.ops [Zs 4 (.mv (.const (.slice none 0 0)))])
 (.seq (.ops [Zo 8 0,
 Zr 9 8,
 Zw 10 .add 9 1,
 Zs 11 (.mks 50 1 4 #[(.int .u32 0)] (.tmp 10) (.tmp 10)),
 Zo 5 11])
 (.seq (.seq (.ops [Zo 12 0,
 Zr 13 12,
 Zs 14 (.mv (Zi 0))])
 (.block 0
 (.loop
 (.seq (.ops [Zy 15 .lss 14 13])
 (.seq (.cond (.tmp 15)
 .skip
 (.exit 0))
 (.seq (.block 1
 (.seq (.ops [Zo 16 14,
 Zo 6 16])
 (.seq (.ops [Zo 17 0,
 Zo 18 6,
 Zt 19 1 17 18,
 Zh 20 .u32 19,
 Zs 21 (.cv .u64 (.tmp 20)),
 Zo 22 1,
 Zy 23 .shl 21 22,
 Zo 7 23])
 (.seq (.ops [Zo 24 5,
 Zo 25 6,
 Zt 26 1 24 25,
 Zh 27 .u32 26,
 Zo 28 7,
 Zs 29 (.cv .u32 (.tmp 28)),
 Zy 30 .or 27 29,
 Zt 31 1 24 25,
 ⟨none,none,.st 1 (.tmp 31) (.tmp 30)⟩])
 (.ops [Zo 32 5,
 Zo 33 6,
 Zw 34 .add 33 1,
 Zo 35 7,
 Zs 36 (.bin .shr (.tmp 35) (.const (.int .u64 32))),
 Zs 37 (.cv .u32 (.tmp 36)),
 Zt 38 1 32 34,
 ⟨none,none,.st 1 (.tmp 38) (.tmp 37)⟩])))))
 (.ops [Zw 39 .add 14 1,
 Zo 14 39])))))))
 (.seq (.ops [Zo 40 5,
 Zo 4 40])
 .ret))))⟩
theorem h107 : strF Tryz.prog [] Tryz.f107 = some c107 := by kernel_rfl
def c108 : Fun := ⟨63,[.inl 6],
 (.seq (.ops [Zs 6 (.mv (.const (.int .u32 0)))])
 (.seq (.ops [Zo 11 0,
 Zr 12 11,
 Zo 7 12])
 (.seq (.draw 15 [Zo 13 0,
 Zo 14 7,
 Zw 15 .sub 14 1,
 Zt 16 1 13 15,
 Zh 17 .u32 16,
 Zs 18 (.cv .u64 (.tmp 17)),
 Zs 19 (.bin .shl (.tmp 18) (.const (.int .u64 32))),
 Zo 20 0,
 Zo 21 7,
 Zw 22 .sub 21 2,
 Zt 23 1 20 22,
 Zh 24 .u32 23,
 Zs 25 (.cv .u64 (.tmp 24)),
 Zy 26 .or 19 25,
 Zo 8 26])
 (.seq (.ops [Zo 27 8,
 Zo 28 1,
 Zs 29 (.cv .u64 (.tmp 28)),
 Zy 30 .quo 27 29,
 Zo 9 30])
 (.seq (.ops [Zo 31 8,
 Zo 32 1,
 Zs 33 (.cv .u64 (.tmp 32)),
 Zy 34 .rem 31 33,
 Zo 10 34])
 (.join (.block 0
 (.loop
 (.seq (.seq (.ops [Zo 35 9,
 Zs 36 (.bin .geq (.tmp 35) (.const (.int .u64 4294967296))),
 Zo 37 36,
 ⟨some 38,some (37,false),.mv (.tmp 9)⟩,
 ⟨some 39,some (37,false),.mv (.tmp 2)⟩,
 ⟨some 40,some (37,false),.cv .u64 (.tmp 39)⟩,
 ⟨some 41,some (37,false),.bin .mul (.tmp 38) (.tmp 40)⟩,
 ⟨some 42,some (37,false),.mv (.tmp 10)⟩,
 ⟨some 43,some (37,false),.bin .shl (.tmp 42) (.const (.int .u64 32))⟩,
 ⟨some 44,some (37,false),.mv (.tmp 0)⟩,
 ⟨some 45,some (37,false),.mv (.tmp 7)⟩,
 ⟨some 46,some (37,false),.bin .sub (.tmp 45) (Zi 3)⟩,
 ⟨some 47,some (37,false),.ia 1 (.tmp 44) (.tmp 46)⟩,
 ⟨some 48,some (37,false),.ld (.int .u32) (.tmp 47)⟩,
 ⟨some 49,some (37,false),.cv .u64 (.tmp 48)⟩,
 ⟨some 50,some (37,false),.bin .or (.tmp 43) (.tmp 49)⟩,
 ⟨some 51,some (37,false),.bin .gtr (.tmp 41) (.tmp 50)⟩,
 Zs 52 (.pick (.tmp 37) (.const (.bool true)) (.tmp 51))])
 (.cond (.tmp 52)
 .skip
 (.exit 0)))
 (.block 1
 (.seq (.ops [Zo 53 9,
 Zs 54 (.bin .sub (.tmp 53) (.const (.int .u64 1))),
 Zo 9 54])
 (.seq (.ops [Zo 55 10,
 Zo 56 1,
 Zs 57 (.cv .u64 (.tmp 56)),
 Zy 58 .add 55 57,
 Zo 10 58])
 (.seq (.ops [Zo 59 10,
 Zs 60 (.bin .geq (.tmp 59) (.const (.int .u64 4294967296)))])
 (.cond (.tmp 60)
 (.exit 0)
 .skip))))))))
 (.seq (.ops [Zo 61 9,
 Zs 62 (.cv .u32 (.tmp 61)),
 Zo 6 62])
 .ret)))))))⟩
theorem h108 : strF Tryz.prog [] Tryz.f108 = some c108 := by kernel_rfl
def c109 : Fun := ⟨93,[.inl 6],
 (.seq (.ops [Zs 6 (.mv (.const (.bool false)))])
 (.seq (.ops [Zs 7 (.mv (.const (.int .u64 0))),
 Zs 8 (.mv (.const (.int .u32 0)))])
 (.seq (.seq (.ops [Zo 13 1,
 Zr 14 13,
 Zs 15 (.mv (Zi 0))])
 (.block 0
 (.loop
 (.seq (.ops [Zy 16 .lss 15 14])
 (.seq (.cond (.tmp 16)
 .skip
 (.exit 0))
 (.seq (.block 1
 (.seq (.ops [Zo 17 15,
 Zo 9 17])
 (.seq (.ops [Zo 18 2,
 Zs 19 (.cv .u64 (.tmp 18)),
 Zo 20 1,
 Zo 21 9,
 Zt 22 1 20 21,
 Zh 23 .u32 22,
 Zs 24 (.cv .u64 (.tmp 23)),
 Zy 25 .mul 19 24,
 Zo 26 7,
 Zy 27 .add 25 26,
 Zo 10 27])
 (.seq (.ops [Zo 28 10,
 Zs 29 (.bin .shr (.tmp 28) (.const (.int .u64 32))),
 Zo 7 29])
 (.ops [Zo 31 0,
 Zo 32 9,
 Zo 33 0,
 Zo 34 9,
 Zt 35 1 33 34,
 Zh 36 .u32 35,
 Zo 37 10,
 Zs 38 (.cv .u32 (.tmp 37)),
 Zo 39 8,
 Zs 40 (.call 121 [(.tmp 36),(.tmp 38),(.tmp 39)]),
 Zo 30 40,
 Zs 41 (.ext (.tmp 30) 0),
 Zs 42 (.ext (.tmp 30) 1),
 Zt 43 1 31 32,
 ⟨none,none,.st 1 (.tmp 43) (.tmp 41)⟩,
 Zo 8 42])))))
 (.ops [Zw 44 .add 15 1,
 Zo 15 44])))))))
 (.seq (.ops [Zo 46 0,
 Zo 47 1,
 Zr 48 47,
 Zo 49 0,
 Zo 50 1,
 Zr 51 50,
 Zt 52 1 49 51,
 Zh 53 .u32 52,
 Zo 54 7,
 Zs 55 (.cv .u32 (.tmp 54)),
 Zo 56 8,
 Zs 57 (.call 121 [(.tmp 53),(.tmp 55),(.tmp 56)]),
 Zo 45 57,
 Zs 58 (.ext (.tmp 45) 0),
 Zs 59 (.ext (.tmp 45) 1),
 Zt 60 1 46 48,
 ⟨none,none,.st 1 (.tmp 60) (.tmp 58)⟩,
 Zo 8 59])
 (.seq (.seq (.ops [Zo 61 8,
 Zs 62 (.bin .eql (.tmp 61) (.const (.int .u32 0)))])
 (.cond (.tmp 62)
 (.seq (.ops [Zs 6 (.mv (.const (.bool true)))])
 .ret)
 .skip))
 (.seq (.ops [Zs 11 (.mv (.const (.int .u32 0)))])
 (.seq (.seq (.ops [Zo 63 1,
 Zr 64 63,
 Zs 65 (.mv (Zi 0))])
 (.block 2
 (.loop
 (.seq (.ops [Zy 66 .lss 65 64])
 (.seq (.cond (.tmp 66)
 .skip
 (.exit 2))
 (.seq (.block 3
 (.seq (.ops [Zo 67 65,
 Zo 12 67])
 (.drawS [(0,0),(0,1),(0,2),(0,3),(0,4),(0,6),(0,7),(0,8),(0,10),(1,5),(1,9),(2,11),(0,12),(0,13),(0,14),(0,15),(2,16),(0,17)]
 [Zo 69 0,
 Zo 70 12,
 Zo 71 0,
 Zo 72 12,
 Zt 73 1 71 72,
 Zh 74 .u32 73,
 Zo 75 1,
 Zo 76 12,
 Zt 77 1 75 76,
 Zh 78 .u32 77,
 Zo 79 11,
 Zs 80 (.call 122 [(.tmp 74),(.tmp 78),(.tmp 79)]),
 Zo 68 80,
 Zs 81 (.ext (.tmp 68) 0),
 Zs 82 (.ext (.tmp 68) 1),
 Zt 83 1 69 70,
 ⟨none,none,.st 1 (.tmp 83) (.tmp 81)⟩,
 Zo 11 82])))
 (.ops [Zw 84 .add 65 1,
 Zo 65 84])))))))
 (.seq (.ops [Zo 85 0,
 Zo 86 1,
 Zr 87 86,
 Zt 88 1 85 87,
 Zh 89 .u32 88,
 Zo 90 11,
 Zy 91 .add 89 90,
 Zt 92 1 85 87,
 ⟨none,none,.st 1 (.tmp 92) (.tmp 91)⟩])
 (.seq (.ops [Zs 6 (.mv (.const (.bool false)))])
 .ret)))))))))⟩
theorem h109 : strF Tryz.prog [(16,.inl [(0,0),(0,1),(0,2),(0,3),(0,4),(0,6),(0,7),(0,8),(0,10),(1,5),(1,9),(2,11),(0,12),(0,13),(0,14),(0,15),(2,16),(0,17)])] Tryz.f109 = some c109 := by kernel_rfl
def c110 : Fun := ⟨68,[.inl 4],
 (.seq (.ops [Zs 4 (.mv (.const (.slice none 0 0)))])
 (.seq (.ops [Zo 10 0,
 Zr 11 10,
 Zo 12 1,
 Zr 13 12,
 Zy 14 .add 11 13,
 Zs 15 (.mks 50 1 4 #[(.int .u32 0)] (.tmp 14) (.tmp 14)),
 Zo 5 15])
 (.seq (.seq (.ops [Zo 16 0,
 Zr 17 16,
 Zs 18 (.mv (Zi 0))])
 (.block 0
 (.loop
 (.seq (.ops [Zy 19 .lss 18 17])
 (.seq (.cond (.tmp 19)
 .skip
 (.exit 0))
 (.seq (.block 1
 (.seq (.ops [Zo 20 18,
 Zo 6 20])
 (.seq (.ops [Zs 7 (.mv (.const (.int .u64 0)))])
 (.seq (.seq (.ops [Zo 21 1,
 Zr 22 21,
 Zs 23 (.mv (Zi 0))])
 (.block 2
 (.loop
 (.seq (.ops [Zy 24 .lss 23 22])
 (.seq (.cond (.tmp 24)
 .skip
 (.exit 2))
 (.seq (.block 3
 (.seq (.ops [Zo 25 23,
 Zo 8 25])
 (.seq (.draw 22 [Zo 26 0,
 Zo 27 6,
 Zt 28 1 26 27,
 Zh 29 .u32 28,
 Zs 30 (.cv .u64 (.tmp 29)),
 Zo 31 1,
 Zo 32 8,
 Zt 33 1 31 32,
 Zh 34 .u32 33,
 Zs 35 (.cv .u64 (.tmp 34)),
 Zy 36 .mul 30 35,
 Zo 37 5,
 Zo 38 6,
 Zo 39 8,
 Zy 40 .add 38 39,
 Zt 41 1 37 40,
 Zh 42 .u32 41,
 Zs 43 (.cv .u64 (.tmp 42)),
 Zy 44 .add 36 43,
 Zo 45 7,
 Zy 46 .add 44 45,
 Zo 9 46])
 (.seq (.ops [Zo 47 5,
 Zo 48 6,
 Zo 49 8,
 Zy 50 .add 48 49,
 Zo 51 9,
 Zs 52 (.cv .u32 (.tmp 51)),
 Zt 53 1 47 50,
 ⟨none,none,.st 1 (.tmp 53) (.tmp 52)⟩])
 (.ops [Zo 54 9,
 Zs 55 (.bin .shr (.tmp 54) (.const (.int .u64 32))),
 Zo 7 55])))))
 (.ops [Zw 56 .add 23 1,
 Zo 23 56])))))))
 (.ops [Zo 57 5,
 Zo 58 6,
 Zo 59 1,
 Zr 60 59,
 Zy 61 .add 58 60,
 Zo 62 7,
 Zs 63 (.cv .u32 (.tmp 62)),
 Zt 64 1 57 61,
 ⟨none,none,.st 1 (.tmp 64) (.tmp 63)⟩])))))
 (.ops [Zw 65 .add 18 1,
 Zo 18 65])))))))
 (.seq (.ops [Zo 66 5,
 Zs 67 (.call 64 [(.tmp 66)]),
 Zo 4 67])
 .ret))))⟩
theorem h110 : strF Tryz.prog [] Tryz.f110 = some c110 := by kernel_rfl
def c111 : Fun := ⟨36,[.inl 4],
 (.seq (.ops [Zs 4 (.mv (.const (.slice none 0 0)))])
 (.seq (.ops [Zs 5 (.mv (.const (.slice none 0 0)))])
 (.seq (.ops [Zs 6 (.mv (.const (.int .u64 0)))])
 (.seq (.seq (.ops [Zs 7 (.mv (Zi 0))])
 (.block 0
 (.loop
 (.seq (.seq (.ops [Zo 9 7,
 Zo 10 0,
 Zr 11 10,
 Zy 12 .lss 9 11])
 (.cond (.tmp 12)
 .skip
 (.exit 0)))
 (.seq (.block 1
 (.seq (.draw 12 [Zo 15 0,
 Zo 16 7,
 Zt 17 1 15 16,
 Zh 18 .u64 17,
 Zs 19 (.bin .add (.const (.int .u64 65536)) (.tmp 18)),
 Zo 20 1,
 Zo 21 7,
 Zs 22 (.call 92 [(.tmp 20),(.tmp 21)]),
 Zy 23 .sub 19 22,
 Zo 24 6,
 Zy 25 .sub 23 24,
 Zo 8 25])
 (.seq (.ops [Zo 26 5,
 Zo 27 8,
 Zs 28 (.bin .rem (.tmp 27) (.const (.int .u64 65536))),
 Zs 29 (.bsl 60 1 1 #[(.int .u64 0)] [(0,(.tmp 28))]),
 Zs 30 (.app 60 1 8 #[(.int .u64 0)] (.tmp 26) (.tmp 29)),
 Zo 5 30])
 (.ops [Zo 31 8,
 Zs 32 (.bin .quo (.tmp 31) (.const (.int .u64 65536))),
 Zs 33 (.bin .sub (.const (.int .u64 1)) (.tmp 32)),
 Zo 6 33]))))
 (.ops [Zo 13 7,
 Zw 14 .add 13 1,
 Zo 7 14]))))))
 (.seq (.ops [Zo 34 5,
 Zs 35 (.call 100 [(.tmp 34)]),
 Zo 4 35])
 .ret)))))⟩
theorem h111 : strF Tryz.prog [] Tryz.f111 = some c111 := by kernel_rfl
def c112 : Fun := ⟨63,[],
 (.seq (.ops [Zs 6 (.mv (.const (.int .u64 0)))])
 (.seq (.seq (.ops [Zs 7 (.mv (Zi 0))])
 (.block 0
 (.loop
 (.seq (.seq (.ops [Zo 9 7,
 Zo 10 1,
 Zr 11 10,
 Zy 12 .lss 9 11])
 (.cond (.tmp 12)
 .skip
 (.exit 0)))
 (.seq (.block 1
 (.seq (.ops [Zo 15 2,
 Zo 16 1,
 Zo 17 7,
 Zt 18 1 16 17,
 Zh 19 .u64 18,
 Zy 20 .mul 15 19,
 Zo 21 6,
 Zy 22 .add 20 21,
 Zo 8 22])
 (.seq (.ops [Zo 23 8,
 Zs 24 (.bin .shr (.tmp 23) (.const (.int .u64 32))),
 Zo 6 24])
 (.seq (.ops [Zo 25 8,
 Zs 26 (.bin .and (.tmp 25) (.const (.int .u64 4294967295))),
 Zo 8 26])
 (.join (.seq (.ops [Zo 27 0,
 Zo 28 7,
 Zt 29 1 27 28,
 Zh 30 .u64 29,
 Zo 31 8,
 Zy 32 .lss 30 31])
 (.cond (.tmp 32)
 (.seq (.ops [Zo 33 0,
 Zo 34 7,
 Zo 35 0,
 Zo 36 7,
 Zt 37 1 35 36,
 Zh 38 .u64 37,
 Zs 39 (.bin .add (.tmp 38) (.const (.int .u64 4294967296))),
 Zt 40 1 33 34,
 ⟨none,none,.st 1 (.tmp 40) (.tmp 39)⟩])
 (.ops [Zo 41 6,
 Zs 42 (.bin .add (.tmp 41) (.const (.int .u64 1))),
 Zo 6 42]))
 .skip))
 (.ops [Zo 43 0,
 Zo 44 7,
 Zo 45 0,
 Zo 46 7,
 Zt 47 1 45 46,
 Zh 48 .u64 47,
 Zo 49 8,
 Zy 50 .sub 48 49,
 Zt 51 1 43 44,
 ⟨none,none,.st 1 (.tmp 51) (.tmp 50)⟩]))))))
 (.ops [Zo 13 7,
 Zw 14 .add 13 1,
 Zo 7 14]))))))
 (.ops [Zo 52 0,
 Zo 53 1,
 Zr 54 53,
 Zo 55 0,
 Zo 56 1,
 Zr 57 56,
 Zt 58 1 55 57,
 Zh 59 .u64 58,
 Zo 60 6,
 Zy 61 .sub 59 60,
 Zt 62 1 52 54,
 ⟨none,none,.st 1 (.tmp 62) (.tmp 61)⟩])))⟩
theorem h112 : strF Tryz.prog [] Tryz.f112 = some c112 := by kernel_rfl
def c113 : Fun := ⟨37,[.inl 4],
 (.seq (.ops [Zs 4 (.mv (.const (.bool false)))])
 (.seq (.seq (.ops [Zo 6 0,
 Zo 7 1,
 Zr 8 7,
 Zt 9 1 6 8,
 Zh 10 .u64 9,
 Zs 11 (.bin .gtr (.tmp 10) (.const (.int .u64 0)))])
 (.cond (.tmp 11)
 (.seq (.ops [Zs 4 (.mv (.const (.bool true)))])
 .ret)
 .skip))
 (.seq (.seq (.ops [Zo 12 1,
 Zr 13 12,
 Zw 14 .sub 13 1,
 Zo 5 14])
 (.block 0
 (.loop
 (.seq (.seq (.ops [Zo 15 5,
 Zw 16 .geq 15 0])
 (.cond (.tmp 16)
 .skip
 (.exit 0)))
 (.seq (.block 1
 (.seq (.draw 9 [Zo 19 0,
 Zo 20 5,
 Zt 21 1 19 20,
 Zh 22 .u64 21,
 Zo 23 1,
 Zo 24 5,
 Zt 25 1 23 24,
 Zh 26 .u64 25,
 Zy 27 .neq 22 26])
 (.cond (.tmp 27)
 (.seq (.draw 10 [Zo 28 0,
 Zo 29 5,
 Zt 30 1 28 29,
 Zh 31 .u64 30,
 Zo 32 1,
 Zo 33 5,
 Zt 34 1 32 33,
 Zh 35 .u64 34,
 Zy 36 .gtr 31 35,
 Zo 4 36])
 .ret)
 .skip)))
 (.ops [Zo 17 5,
 Zw 18 .sub 17 1,
 Zo 5 18]))))))
 (.seq (.ops [Zs 4 (.mv (.const (.bool true)))])
 .ret))))⟩
theorem h113 : strF Tryz.prog [] Tryz.f113 = some c113 := by kernel_rfl
def c117 : Fun := ⟨126,[.inr ((.agg 8),4)],
 (.seq (.ops [Zs 2 (.box 87 (.tmp 0)),
 Zs 4 (.alloc 87 (.agg (Array.replicate 8 (.int .u32 0))))])
 (.seq (.ops [Zo 15 1,
 Zs 16 (.call 123 [(.tmp 15)]),
 Zs 5 (.alloc 166 (.agg (Array.replicate 16 (.int .u32 0)))),
 ⟨none,none,.st 16 (.tmp 5) (.tmp 16)⟩])
 (.seq (.draw 15 [Zs 17 (.iaA 8 1 (.tmp 2) (Zi 0)),
 Zh 18 .u32 17,
 Zs 19 (.iaA 8 1 (.tmp 2) (Zi 1)),
 Zh 20 .u32 19,
 Zs 21 (.iaA 8 1 (.tmp 2) (Zi 2)),
 Zh 22 .u32 21,
 Zs 23 (.iaA 8 1 (.tmp 2) (Zi 3)),
 Zh 24 .u32 23,
 Zs 25 (.iaA 8 1 (.tmp 2) (Zi 4)),
 Zh 26 .u32 25,
 Zo 6 18,
 Zo 7 20,
 Zo 8 22,
 Zo 9 24,
 Zo 10 26])
 (.seq (.seq (.ops [Zs 27 (.mv (Zi 0))])
 (.block 0
 (.loop
 (.seq (.ops [Zw 28 .lss 27 80])
 (.seq (.cond (.tmp 28)
 .skip
 (.exit 0))
 (.seq (.block 1
 (.seq (.ops [Zo 29 27,
 Zo 11 29])
 (.seq (.ops [Zo 30 11,
 Zw 31 .rem 30 16,
 Zo 12 31])
 (.join (.seq (.ops [Zo 32 11,
 Zw 33 .geq 32 16])
 (.cond (.tmp 33)
 (.draw 24 [Zo 34 12,
 Zo 35 12,
 Zw 36 .add 35 13,
 Zw 37 .rem 36 16,
 Zs 38 (.iaA 16 1 (.tmp 5) (.tmp 37)),
 Zh 39 .u32 38,
 Zo 40 12,
 Zw 41 .add 40 8,
 Zw 42 .rem 41 16,
 Zs 43 (.iaA 16 1 (.tmp 5) (.tmp 42)),
 Zh 44 .u32 43,
 Zy 45 .xor 39 44,
 Zo 46 12,
 Zw 47 .add 46 2,
 Zw 48 .rem 47 16,
 Zs 49 (.iaA 16 1 (.tmp 5) (.tmp 48)),
 Zh 50 .u32 49,
 Zy 51 .xor 45 50,
 Zo 52 12,
 Zs 53 (.iaA 16 1 (.tmp 5) (.tmp 52)),
 Zh 54 .u32 53,
 Zy 55 .xor 51 54,
 Zs 56 (.call 124 [(.tmp 55),(Zi 1)]),
 Zs 57 (.iaA 16 1 (.tmp 5) (.tmp 34)),
 ⟨none,none,.st 1 (.tmp 57) (.tmp 56)⟩])
 .skip))
 (.seq (.ops [Zo 58 7,
 Zo 59 8,
 Zy 60 .xor 58 59,
 Zo 61 9,
 Zy 62 .xor 60 61,
 Zo 13 62,
 Zs 14 (.mv (.const (.int .u32 3395469782)))])
 (.join (.seq (.ops [Zo 63 11,
 Zw 64 .quo 63 20])
 (.block 2
 (.seq (.ops [Zw 66 .eql 64 0,
 Zo 65 66])
 (.cond (.tmp 65)
 (.ops [Zo 67 9,
 Zo 68 7,
 Zo 69 8,
 Zo 70 9,
 Zy 71 .xor 69 70,
 Zy 72 .and 68 71,
 Zy 73 .xor 67 72,
 Zo 13 73,
 Zs 14 (.mv (.const (.int .u32 1518500249)))])
 (.seq (.ops [Zw 75 .eql 64 1,
 Zo 74 75])
 (.cond (.tmp 74)
 (.ops [Zs 14 (.mv (.const (.int .u32 1859775393)))])
 (.seq (.ops [Zw 77 .eql 64 2,
 Zo 76 77])
 (.cond (.tmp 76)
 (.ops [Zo 78 7,
 Zo 79 8,
 Zy 80 .and 78 79,
 Zo 81 9,
 Zo 82 7,
 Zo 83 8,
 Zy 84 .or 82 83,
 Zy 85 .and 81 84,
 Zy 86 .or 80 85,
 Zo 13 86,
 Zs 14 (.mv (.const (.int .u32 2400959708)))])
 .skip))))))))
 (.draw 22 [Zo 87 6,
 Zs 88 (.call 124 [(.tmp 87),(Zi 5)]),
 Zo 89 13,
 Zy 90 .add 88 89,
 Zo 91 10,
 Zy 92 .add 90 91,
 Zo 93 14,
 Zy 94 .add 92 93,
 Zo 95 12,
 Zs 96 (.iaA 16 1 (.tmp 5) (.tmp 95)),
 Zh 97 .u32 96,
 Zy 98 .add 94 97,
 Zo 99 6,
 Zo 100 7,
 Zs 101 (.call 124 [(.tmp 100),(Zi 30)]),
 Zo 102 8,
 Zo 103 9,
 Zo 6 98,
 Zo 7 99,
 Zo 8 101,
 Zo 9 102,
 Zo 10 103])))))))
 (.ops [Zw 104 .add 27 1,
 Zo 27 104])))))))
 (.seq (.ops [Zs 105 (.iaA 8 1 (.tmp 2) (Zi 0)),
 Zh 106 .u32 105,
 Zo 107 6,
 Zy 108 .add 106 107,
 Zs 109 (.iaA 8 1 (.tmp 2) (Zi 1)),
 Zh 110 .u32 109,
 Zo 111 7,
 Zy 112 .add 110 111,
 Zs 113 (.iaA 8 1 (.tmp 2) (Zi 2)),
 Zh 114 .u32 113,
 Zo 115 8,
 Zy 116 .add 114 115,
 Zs 117 (.iaA 8 1 (.tmp 2) (Zi 3)),
 Zh 118 .u32 117,
 Zo 119 9,
 Zy 120 .add 118 119,
 Zs 121 (.iaA 8 1 (.tmp 2) (Zi 4)),
 Zh 122 .u32 121,
 Zo 123 10,
 Zy 124 .add 122 123,
 Zs 125 (.bld (Array.replicate 8 (.int .u32 0)) [(0,1),(1,1),(2,1),(3,1),(4,1),(5,1),(6,1),(7,1)] [(0,(.tmp 108)),(1,(.tmp 112)),(2,(.tmp 116)),(3,(.tmp 120)),(4,(.tmp 124))]),
 ⟨none,none,.st 8 (.tmp 4) (.tmp 125)⟩])
 .ret)))))⟩
theorem h117 : strF Tryz.prog [] Tryz.f117 = some c117 := by kernel_rfl
def c118 : Fun := ⟨124,[.inr ((.agg 8),4)],
 (.seq (.ops [Zs 2 (.box 87 (.tmp 0)),
 Zs 4 (.alloc 87 (.agg (Array.replicate 8 (.int .u32 0))))])
 (.seq (.ops [Zo 12 1,
 Zs 13 (.call 123 [(.tmp 12)]),
 Zs 5 (.alloc 166 (.agg (Array.replicate 16 (.int .u32 0)))),
 ⟨none,none,.st 16 (.tmp 5) (.tmp 13)⟩])
 (.seq (.ops [Zs 14 (.ld (.agg 8) (.tmp 2)),
 Zs 6 (.alloc 87 (.agg (Array.replicate 8 (.int .u32 0)))),
 ⟨none,none,.st 8 (.tmp 6) (.tmp 14)⟩])
 (.seq (.seq (.ops [Zs 15 (.mv (Zi 0))])
 (.block 0
 (.loop
 (.seq (.ops [Zw 16 .lss 15 64])
 (.seq (.cond (.tmp 16)
 .skip
 (.exit 0))
 (.seq (.block 1
 (.seq (.ops [Zo 17 15,
 Zo 7 17])
 (.seq (.ops [Zo 18 7,
 Zw 19 .rem 18 16,
 Zo 8 19])
 (.join (.seq (.ops [Zo 20 7,
 Zw 21 .geq 20 16])
 (.cond (.tmp 21)
 (.draw 24 [Zo 22 8,
 Zs 23 (.iaA 16 1 (.tmp 5) (.tmp 22)),
 Zh 24 .u32 23,
 Zo 25 8,
 Zw 26 .add 25 14,
 Zw 27 .rem 26 16,
 Zs 28 (.iaA 16 1 (.tmp 5) (.tmp 27)),
 Zh 29 .u32 28,
 Zs 30 (.call 125 [(.tmp 29),(Zi 17),(Zi 19),(Zi 10),(.const (.bool true))]),
 Zo 31 8,
 Zw 32 .add 31 9,
 Zw 33 .rem 32 16,
 Zs 34 (.iaA 16 1 (.tmp 5) (.tmp 33)),
 Zh 35 .u32 34,
 Zy 36 .add 30 35,
 Zo 37 8,
 Zw 38 .add 37 1,
 Zw 39 .rem 38 16,
 Zs 40 (.iaA 16 1 (.tmp 5) (.tmp 39)),
 Zh 41 .u32 40,
 Zs 42 (.call 125 [(.tmp 41),(Zi 7),(Zi 18),(Zi 3),(.const (.bool true))]),
 Zy 43 .add 36 42,
 Zy 44 .add 24 43,
 Zs 45 (.iaA 16 1 (.tmp 5) (.tmp 22)),
 ⟨none,none,.st 1 (.tmp 45) (.tmp 44)⟩])
 .skip))
 (.seq (.draw 27 [Zs 46 (.iaA 8 1 (.tmp 6) (Zi 7)),
 Zh 47 .u32 46,
 Zs 48 (.iaA 8 1 (.tmp 6) (Zi 4)),
 Zh 49 .u32 48,
 Zs 50 (.call 125 [(.tmp 49),(Zi 6),(Zi 11),(Zi 25),(.const (.bool false))]),
 Zy 51 .add 47 50,
 Zs 52 (.iaA 8 1 (.tmp 6) (Zi 6)),
 Zh 53 .u32 52,
 Zs 54 (.iaA 8 1 (.tmp 6) (Zi 4)),
 Zh 55 .u32 54,
 Zs 56 (.iaA 8 1 (.tmp 6) (Zi 5)),
 Zh 57 .u32 56,
 Zs 58 (.iaA 8 1 (.tmp 6) (Zi 6)),
 Zh 59 .u32 58,
 Zy 60 .xor 57 59,
 Zy 61 .and 55 60,
 Zy 62 .xor 53 61,
 Zy 63 .add 51 62,
 Zo 64 7,
 Zs 65 (.iaA 64 1 (.global 3) (.tmp 64)),
 Zh 66 .u32 65,
 Zy 67 .add 63 66,
 Zo 68 8,
 Zs 69 (.iaA 16 1 (.tmp 5) (.tmp 68)),
 Zh 70 .u32 69,
 Zy 71 .add 67 70,
 Zo 9 71])
 (.seq (.draw 19 [Zs 72 (.iaA 8 1 (.tmp 6) (Zi 0)),
 Zh 73 .u32 72,
 Zs 74 (.call 125 [(.tmp 73),(Zi 2),(Zi 13),(Zi 22),(.const (.bool false))]),
 Zs 75 (.iaA 8 1 (.tmp 6) (Zi 0)),
 Zh 76 .u32 75,
 Zs 77 (.iaA 8 1 (.tmp 6) (Zi 1)),
 Zh 78 .u32 77,
 Zy 79 .and 76 78,
 Zs 80 (.iaA 8 1 (.tmp 6) (Zi 2)),
 Zh 81 .u32 80,
 Zs 82 (.iaA 8 1 (.tmp 6) (Zi 0)),
 Zh 83 .u32 82,
 Zs 84 (.iaA 8 1 (.tmp 6) (Zi 1)),
 Zh 85 .u32 84,
 Zy 86 .or 83 85,
 Zy 87 .and 81 86,
 Zy 88 .or 79 87,
 Zy 89 .add 74 88,
 Zo 10 89])
 (.ops [Zo 90 9,
 Zo 91 10,
 Zy 92 .add 90 91,
 Zs 93 (.iaA 8 1 (.tmp 6) (Zi 0)),
 Zh 94 .u32 93,
 Zs 95 (.iaA 8 1 (.tmp 6) (Zi 1)),
 Zh 96 .u32 95,
 Zs 97 (.iaA 8 1 (.tmp 6) (Zi 2)),
 Zh 98 .u32 97,
 Zs 99 (.iaA 8 1 (.tmp 6) (Zi 3)),
 Zh 100 .u32 99,
 Zo 101 9,
 Zy 102 .add 100 101,
 Zs 103 (.iaA 8 1 (.tmp 6) (Zi 4)),
 Zh 104 .u32 103,
 Zs 105 (.iaA 8 1 (.tmp 6) (Zi 5)),
 Zh 106 .u32 105,
 Zs 107 (.iaA 8 1 (.tmp 6) (Zi 6)),
 Zh 108 .u32 107,
 Zs 109 (.bld (Array.replicate 8 (.int .u32 0)) [(0,1),(1,1),(2,1),(3,1),(4,1),(5,1),(6,1),(7,1)] [(0,(.tmp 92)),(1,(.tmp 94)),(2,(.tmp 96)),(3,(.tmp 98)),(4,(.tmp 102)),(5,(.tmp 104)),(6,(.tmp 106)),(7,(.tmp 108))]),
 ⟨none,none,.st 8 (.tmp 6) (.tmp 109)⟩])))))))
 (.ops [Zw 110 .add 15 1,
 Zo 15 110])))))))
 (.seq (.seq (.ops [Zs 111 (.mv (Zi 0))])
 (.block 2
 (.loop
 (.seq (.ops [Zw 112 .lss 111 8])
 (.seq (.cond (.tmp 112)
 .skip
 (.exit 2))
 (.seq (.block 3
 (.seq (.ops [Zo 113 111,
 Zo 11 113])
 (.draw 8 [Zo 114 11,
 Zs 115 (.iaA 8 1 (.tmp 6) (.tmp 114)),
 Zh 116 .u32 115,
 Zo 117 11,
 Zs 118 (.iaA 8 1 (.tmp 2) (.tmp 117)),
 Zh 119 .u32 118,
 Zy 120 .add 116 119,
 Zs 121 (.iaA 8 1 (.tmp 6) (.tmp 114)),
 ⟨none,none,.st 1 (.tmp 121) (.tmp 120)⟩])))
 (.ops [Zw 122 .add 111 1,
 Zo 111 122])))))))
 (.seq (.ops [Zs 123 (.ld (.agg 8) (.tmp 6)),
 ⟨none,none,.st 8 (.tmp 4) (.tmp 123)⟩])
 .ret))))))⟩
theorem h118 : strF Tryz.prog [] Tryz.f118 = some c118 := by kernel_rfl
def c119 : Fun := ⟨141,[.inr ((.agg 8),4)],
 (.seq (.ops [Zs 2 (.box 61 (.tmp 0)),
 Zs 4 (.alloc 61 (.agg (Array.replicate 8 (.int .u64 0))))])
 (.seq (.ops [Zs 5 (.alloc 169 (.agg (Array.replicate 16 (.int .u64 0))))])
 (.seq (.seq (.ops [Zs 13 (.mv (Zi 0))])
 (.block 0
 (.loop
 (.seq (.ops [Zw 14 .lss 13 128])
 (.seq (.cond (.tmp 14)
 .skip
 (.exit 0))
 (.seq (.block 1
 (.seq (.ops [Zo 15 13,
 Zo 6 15])
 (.draw 14 [Zo 16 6,
 Zw 17 .quo 16 8,
 Zo 18 6,
 Zw 19 .quo 18 8,
 Zs 20 (.iaA 16 1 (.tmp 5) (.tmp 19)),
 Zh 21 .u64 20,
 Zs 22 (.bin .shl (.tmp 21) (.const (.int .u64 8))),
 Zo 23 1,
 Zo 24 6,
 Zt 25 1 23 24,
 Zh 26 .u8 25,
 Zs 27 (.cv .u64 (.tmp 26)),
 Zy 28 .or 22 27,
 Zs 29 (.iaA 16 1 (.tmp 5) (.tmp 17)),
 ⟨none,none,.st 1 (.tmp 29) (.tmp 28)⟩])))
 (.ops [Zw 30 .add 13 1,
 Zo 13 30])))))))
 (.seq (.ops [Zs 31 (.ld (.agg 8) (.tmp 2)),
 Zs 7 (.alloc 61 (.agg (Array.replicate 8 (.int .u64 0)))),
 ⟨none,none,.st 8 (.tmp 7) (.tmp 31)⟩])
 (.seq (.seq (.ops [Zs 32 (.mv (Zi 0))])
 (.block 2
 (.loop
 (.seq (.ops [Zw 33 .lss 32 80])
 (.seq (.cond (.tmp 33)
 .skip
 (.exit 2))
 (.seq (.block 3
 (.seq (.ops [Zo 34 32,
 Zo 8 34])
 (.seq (.ops [Zo 35 8,
 Zw 36 .rem 35 16,
 Zo 9 36])
 (.join (.seq (.ops [Zo 37 8,
 Zw 38 .geq 37 16])
 (.cond (.tmp 38)
 (.draw 24 [Zo 39 9,
 Zs 40 (.iaA 16 1 (.tmp 5) (.tmp 39)),
 Zh 41 .u64 40,
 Zo 42 9,
 Zw 43 .add 42 14,
 Zw 44 .rem 43 16,
 Zs 45 (.iaA 16 1 (.tmp 5) (.tmp 44)),
 Zh 46 .u64 45,
 Zs 47 (.call 126 [(.tmp 46),(Zi 19),(Zi 61),(Zi 6),(.const (.bool true))]),
 Zo 48 9,
 Zw 49 .add 48 9,
 Zw 50 .rem 49 16,
 Zs 51 (.iaA 16 1 (.tmp 5) (.tmp 50)),
 Zh 52 .u64 51,
 Zy 53 .add 47 52,
 Zo 54 9,
 Zw 55 .add 54 1,
 Zw 56 .rem 55 16,
 Zs 57 (.iaA 16 1 (.tmp 5) (.tmp 56)),
 Zh 58 .u64 57,
 Zs 59 (.call 126 [(.tmp 58),(Zi 1),(Zi 8),(Zi 7),(.const (.bool true))]),
 Zy 60 .add 53 59,
 Zy 61 .add 41 60,
 Zs 62 (.iaA 16 1 (.tmp 5) (.tmp 39)),
 ⟨none,none,.st 1 (.tmp 62) (.tmp 61)⟩])
 .skip))
 (.seq (.draw 27 [Zs 63 (.iaA 8 1 (.tmp 7) (Zi 7)),
 Zh 64 .u64 63,
 Zs 65 (.iaA 8 1 (.tmp 7) (Zi 4)),
 Zh 66 .u64 65,
 Zs 67 (.call 126 [(.tmp 66),(Zi 14),(Zi 18),(Zi 41),(.const (.bool false))]),
 Zy 68 .add 64 67,
 Zs 69 (.iaA 8 1 (.tmp 7) (Zi 6)),
 Zh 70 .u64 69,
 Zs 71 (.iaA 8 1 (.tmp 7) (Zi 4)),
 Zh 72 .u64 71,
 Zs 73 (.iaA 8 1 (.tmp 7) (Zi 5)),
 Zh 74 .u64 73,
 Zs 75 (.iaA 8 1 (.tmp 7) (Zi 6)),
 Zh 76 .u64 75,
 Zy 77 .xor 74 76,
 Zy 78 .and 72 77,
 Zy 79 .xor 70 78,
 Zy 80 .add 68 79,
 Zo 81 8,
 Zs 82 (.iaA 80 1 (.global 4) (.tmp 81)),
 Zh 83 .u64 82,
 Zy 84 .add 80 83,
 Zo 85 9,
 Zs 86 (.iaA 16 1 (.tmp 5) (.tmp 85)),
 Zh 87 .u64 86,
 Zy 88 .add 84 87,
 Zo 10 88])
 (.seq (.draw 19 [Zs 89 (.iaA 8 1 (.tmp 7) (Zi 0)),
 Zh 90 .u64 89,
 Zs 91 (.call 126 [(.tmp 90),(Zi 28),(Zi 34),(Zi 39),(.const (.bool false))]),
 Zs 92 (.iaA 8 1 (.tmp 7) (Zi 0)),
 Zh 93 .u64 92,
 Zs 94 (.iaA 8 1 (.tmp 7) (Zi 1)),
 Zh 95 .u64 94,
 Zy 96 .and 93 95,
 Zs 97 (.iaA 8 1 (.tmp 7) (Zi 2)),
 Zh 98 .u64 97,
 Zs 99 (.iaA 8 1 (.tmp 7) (Zi 0)),
 Zh 100 .u64 99,
 Zs 101 (.iaA 8 1 (.tmp 7) (Zi 1)),
 Zh 102 .u64 101,
 Zy 103 .or 100 102,
 Zy 104 .and 98 103,
 Zy 105 .or 96 104,
 Zy 106 .add 91 105,
 Zo 11 106])
 (.ops [Zo 107 10,
 Zo 108 11,
 Zy 109 .add 107 108,
 Zs 110 (.iaA 8 1 (.tmp 7) (Zi 0)),
 Zh 111 .u64 110,
 Zs 112 (.iaA 8 1 (.tmp 7) (Zi 1)),
 Zh 113 .u64 112,
 Zs 114 (.iaA 8 1 (.tmp 7) (Zi 2)),
 Zh 115 .u64 114,
 Zs 116 (.iaA 8 1 (.tmp 7) (Zi 3)),
 Zh 117 .u64 116,
 Zo 118 10,
 Zy 119 .add 117 118,
 Zs 120 (.iaA 8 1 (.tmp 7) (Zi 4)),
 Zh 121 .u64 120,
 Zs 122 (.iaA 8 1 (.tmp 7) (Zi 5)),
 Zh 123 .u64 122,
 Zs 124 (.iaA 8 1 (.tmp 7) (Zi 6)),
 Zh 125 .u64 124,
 Zs 126 (.bld (Array.replicate 8 (.int .u64 0)) [(0,1),(1,1),(2,1),(3,1),(4,1),(5,1),(6,1),(7,1)] [(0,(.tmp 109)),(1,(.tmp 111)),(2,(.tmp 113)),(3,(.tmp 115)),(4,(.tmp 119)),(5,(.tmp 121)),(6,(.tmp 123)),(7,(.tmp 125))]),
 ⟨none,none,.st 8 (.tmp 7) (.tmp 126)⟩])))))))
 (.ops [Zw 127 .add 32 1,
 Zo 32 127])))))))
 (.seq (.seq (.ops [Zs 128 (.mv (Zi 0))])
 (.block 4
 (.loop
 (.seq (.ops [Zw 129 .lss 128 8])
 (.seq (.cond (.tmp 129)
 .skip
 (.exit 4))
 (.seq (.block 5
 (.seq (.ops [Zo 130 128,
 Zo 12 130])
 (.draw 8 [Zo 131 12,
 Zs 132 (.iaA 8 1 (.tmp 7) (.tmp 131)),
 Zh 133 .u64 132,
 Zo 134 12,
 Zs 135 (.iaA 8 1 (.tmp 2) (.tmp 134)),
 Zh 136 .u64 135,
 Zy 137 .add 133 136,
 Zs 138 (.iaA 8 1 (.tmp 7) (.tmp 131)),
 ⟨none,none,.st 1 (.tmp 138) (.tmp 137)⟩])))
 (.ops [Zw 139 .add 128 1,
 Zo 128 139])))))))
 (.seq (.ops [Zs 140 (.ld (.agg 8) (.tmp 7)),
 ⟨none,none,.st 8 (.tmp 4) (.tmp 140)⟩])
 .ret)))))))⟩
theorem h119 : strF Tryz.prog [] Tryz.f119 = some c119 := by kernel_rfl
def c120 : Fun := ⟨33,[.inl 6,.inl 7],
 (.seq (.ops [Zs 6 (.mv (.const (.int .u32 0))),
 Zs 7 (.mv (.const (.int .u32 0)))])
 (.join (.seq (.ops [Zo 9 2,
 Zs 10 (.bin .neq (.tmp 9) (.const (.int .u32 0))),
 Zo 11 10,
 ⟨some 12,some (11,true),.mv (.tmp 2)⟩,
 ⟨some 13,some (11,true),.mv (.tmp 0)⟩,
 ⟨some 14,some (11,true),.bin .leq (.tmp 12) (.tmp 13)⟩,
 Zs 15 (.pick (.tmp 11) (.tmp 14) (.const (.bool false)))])
 (.cond (.tmp 15)
 (.ops [Zs 16 (.ld .other (.global 5)),
 ⟨none,none,.no⟩])
 .skip))
 (.seq (.ops [Zo 17 0,
 Zs 18 (.cv .u64 (.tmp 17)),
 Zs 19 (.bin .shl (.tmp 18) (.const (.int .u64 32))),
 Zo 20 1,
 Zs 21 (.cv .u64 (.tmp 20)),
 Zy 22 .or 19 21,
 Zo 8 22])
 (.seq (.draw 12 [Zo 23 8,
 Zo 24 2,
 Zs 25 (.cv .u64 (.tmp 24)),
 Zy 26 .quo 23 25,
 Zs 27 (.cv .u32 (.tmp 26)),
 Zo 28 8,
 Zo 29 2,
 Zs 30 (.cv .u64 (.tmp 29)),
 Zy 31 .rem 28 30,
 Zs 32 (.cv .u32 (.tmp 31)),
 Zo 6 27,
 Zo 7 32])
 .ret))))⟩
theorem h120 : strF Tryz.prog [] Tryz.f120 = some c120 := by kernel_rfl
def c121 : Fun := ⟨25,[.inl 6,.inl 7],
 (.seq (.ops [Zs 6 (.mv (.const (.int .u32 0))),
 Zs 7 (.mv (.const (.int .u32 0)))])
 (.seq (.ops [Zo 8 0,
 Zo 9 1,
 Zy 10 .sub 8 9,
 Zo 11 2,
 Zy 12 .sub 10 11,
 Zo 6 12])
 (.seq (.ops [Zo 13 0,
 Zs 14 (.un .xor (.tmp 13)),
 Zo 15 1,
 Zy 16 .and 14 15,
 Zo 17 0,
 Zo 18 1,
 Zy 19 .xor 17 18,
 Zs 20 (.un .xor (.tmp 19)),
 Zo 21 6,
 Zy 22 .and 20 21,
 Zy 23 .or 16 22,
 Zs 24 (.bin .shr (.tmp 23) (.const (.int .u64 31))),
 Zo 7 24])
 .ret)))⟩
theorem h121 : strF Tryz.prog [] Tryz.f121 = some c121 := by kernel_rfl
def c122 : Fun := ⟨22,[.inl 6,.inl 7],
 (.seq (.ops [Zs 6 (.mv (.const (.int .u32 0))),
 Zs 7 (.mv (.const (.int .u32 0)))])
 (.seq (.ops [Zo 9 0,
 Zs 10 (.cv .u64 (.tmp 9)),
 Zo 11 1,
 Zs 12 (.cv .u64 (.tmp 11)),
 Zy 13 .add 10 12,
 Zo 14 2,
 Zs 15 (.cv .u64 (.tmp 14)),
 Zy 16 .add 13 15,
 Zo 8 16])
 (.seq (.ops [Zo 17 8,
 Zs 18 (.cv .u32 (.tmp 17)),
 Zo 6 18])
 (.seq (.ops [Zo 19 8,
 Zs 20 (.bin .shr (.tmp 19) (.const (.int .u64 32))),
 Zs 21 (.cv .u32 (.tmp 20)),
 Zo 7 21])
 .ret))))⟩
theorem h122 : strF Tryz.prog [] Tryz.f122 = some c122 := by kernel_rfl
def c123 : Fun := ⟨44,[.inr ((.agg 16),2)],
 (.seq (.ops [Zs 2 (.alloc 166 (.agg (Array.replicate 16 (.int .u32 0))))])
 (.seq (.seq (.ops [Zs 4 (.mv (Zi 0))])
 (.block 0
 (.loop
 (.seq (.ops [Zw 5 .lss 4 16])
 (.seq (.cond (.tmp 5)
 .skip
 (.exit 0))
 (.seq (.block 1
 (.seq (.ops [Zo 6 4,
 Zo 3 6])
 (.draw 35 [Zo 7 3,
 Zo 8 0,
 Zo 9 3,
 Zs 10 (.bin .mul (Zi 4) (.tmp 9)),
 Zt 11 1 8 10,
 Zh 12 .u8 11,
 Zs 13 (.cv .u32 (.tmp 12)),
 Zs 14 (.bin .shl (.tmp 13) (.const (.int .u64 24))),
 Zo 15 0,
 Zo 16 3,
 Zs 17 (.bin .mul (Zi 4) (.tmp 16)),
 Zw 18 .add 17 1,
 Zt 19 1 15 18,
 Zh 20 .u8 19,
 Zs 21 (.cv .u32 (.tmp 20)),
 Zs 22 (.bin .shl (.tmp 21) (.const (.int .u64 16))),
 Zy 23 .or 14 22,
 Zo 24 0,
 Zo 25 3,
 Zs 26 (.bin .mul (Zi 4) (.tmp 25)),
 Zw 27 .add 26 2,
 Zt 28 1 24 27,
 Zh 29 .u8 28,
 Zs 30 (.cv .u32 (.tmp 29)),
 Zs 31 (.bin .shl (.tmp 30) (.const (.int .u64 8))),
 Zy 32 .or 23 31,
 Zo 33 0,
 Zo 34 3,
 Zs 35 (.bin .mul (Zi 4) (.tmp 34)),
 Zw 36 .add 35 3,
 Zt 37 1 33 36,
 Zh 38 .u8 37,
 Zs 39 (.cv .u32 (.tmp 38)),
 Zy 40 .or 32 39,
 Zs 41 (.iaA 16 1 (.tmp 2) (.tmp 7)),
 ⟨none,none,.st 1 (.tmp 41) (.tmp 40)⟩])))
 (.ops [Zw 42 .add 4 1,
 Zo 4 42])))))))
 (.seq (.ops [Zs 43 (.ld (.agg 16) (.tmp 2)),
 ⟨none,none,.st 16 (.tmp 2) (.tmp 43)⟩])
 .ret)))⟩
theorem h123 : strF Tryz.prog [] Tryz.f123 = some c123 := by kernel_rfl
def c124 : Fun := ⟨17,[.inl 4],
 (.seq (.ops [Zs 4 (.mv (.const (.int .u32 0)))])
 (.seq (.ops [Zo 6 1,
 Zs 7 (.cv .u64 (.tmp 6)),
 Zs 8 (.bin .and (.tmp 7) (.const (.int .u64 31))),
 Zo 5 8])
 (.seq (.ops [Zo 9 0,
 Zo 10 5,
 Zy 11 .shl 9 10,
 Zo 12 0,
 Zo 13 5,
 Zs 14 (.bin .sub (.const (.int .u64 32)) (.tmp 13)),
 Zy 15 .shr 12 14,
 Zy 16 .or 11 15,
 Zo 4 16])
 .ret)))⟩
theorem h124 : strF Tryz.prog [] Tryz.f124 = some c124 := by kernel_rfl
def c125 : Fun := ⟨31,[.inl 10],
 (.seq (.ops [Zs 10 (.mv (.const (.int .u32 0)))])
 (.seq (.ops [Zo 12 0,
 Zo 13 3,
 Zs 14 (.un .neg (.tmp 13)),
 Zs 15 (.call 124 [(.tmp 12),(.tmp 14)]),
 Zo 11 15])
 (.join (.seq (.ops [Zo 16 4])
 (.cond (.tmp 16)
 (.ops [Zo 17 0,
 Zo 18 3,
 Zy 19 .shr 17 18,
 Zo 11 19])
 .skip))
 (.seq (.ops [Zo 20 0,
 Zo 21 1,
 Zs 22 (.un .neg (.tmp 21)),
 Zs 23 (.call 124 [(.tmp 20),(.tmp 22)]),
 Zo 24 0,
 Zo 25 2,
 Zs 26 (.un .neg (.tmp 25)),
 Zs 27 (.call 124 [(.tmp 24),(.tmp 26)]),
 Zy 28 .xor 23 27,
 Zo 29 11,
 Zy 30 .xor 28 29,
 Zo 10 30])
 .ret))))⟩
theorem h125 : strF Tryz.prog [] Tryz.f125 = some c125 := by kernel_rfl
def c126 : Fun := ⟨31,[.inl 10],
 (.seq (.ops [Zs 10 (.mv (.const (.int .u64 0)))])
 (.seq (.ops [Zo 12 0,
 Zo 13 3,
 Zs 14 (.un .neg (.tmp 13)),
 Zs 15 (.call 127 [(.tmp 12),(.tmp 14)]),
 Zo 11 15])
 (.join (.seq (.ops [Zo 16 4])
 (.cond (.tmp 16)
 (.ops [Zo 17 0,
 Zo 18 3,
 Zy 19 .shr 17 18,
 Zo 11 19])
 .skip))
 (.seq (.ops [Zo 20 0,
 Zo 21 1,
 Zs 22 (.un .neg (.tmp 21)),
 Zs 23 (.call 127 [(.tmp 20),(.tmp 22)]),
 Zo 24 0,
 Zo 25 2,
 Zs 26 (.un .neg (.tmp 25)),
 Zs 27 (.call 127 [(.tmp 24),(.tmp 26)]),
 Zy 28 .xor 23 27,
 Zo 29 11,
 Zy 30 .xor 28 29,
 Zo 10 30])
 .ret))))⟩
theorem h126 : strF Tryz.prog [] Tryz.f126 = some c126 := by kernel_rfl
def c127 : Fun := ⟨17,[.inl 4],
 (.seq (.ops [Zs 4 (.mv (.const (.int .u64 0)))])
 (.seq (.ops [Zo 6 1,
 Zs 7 (.cv .u64 (.tmp 6)),
 Zs 8 (.bin .and (.tmp 7) (.const (.int .u64 63))),
 Zo 5 8])
 (.seq (.ops [Zo 9 0,
 Zo 10 5,
 Zy 11 .shl 9 10,
 Zo 12 0,
 Zo 13 5,
 Zs 14 (.bin .sub (.const (.int .u64 64)) (.tmp 13)),
 Zy 15 .shr 12 14,
 Zy 16 .or 11 15,
 Zo 4 16])
 .ret)))⟩
theorem h127 : strF Tryz.prog [] Tryz.f127 = some c127 := by kernel_rfl
def c7 : Fun := ⟨81,[.inl 12],
 (.seq (.ops [Zs 12 (.mv (.const (.bool false)))])
 (.seq (.seq (.ops [Zo 17 4,
 Zr 18 17,
 Zw 19 .gtr 18 8192,
 Zo 20 19,
 ⟨some 21,some (20,false),.mv (.tmp 3)⟩,
 ⟨some 22,some (20,false),.len (.tmp 21)⟩,
 ⟨some 23,some (20,false),.bin .gtr (.tmp 22) (Zi 200)⟩,
 Zs 24 (.pick (.tmp 20) (.const (.bool true)) (.tmp 23)),
 Zo 25 24,
 ⟨some 26,some (25,false),.mv (.tmp 5)⟩,
 ⟨some 27,some (25,false),.bin .lss (.tmp 26) (Zi 0)⟩,
 Zs 28 (.pick (.tmp 25) (.const (.bool true)) (.tmp 27))])
 (.cond (.tmp 28)
 (.seq (.ops [Zs 29 (.call 8 []),
 Zo 12 29])
 .ret)
 .skip))
 (.seq (.ops [Zo 31 0,
 Zs 32 (.bin .rem (.tmp 31) (.const (.int .u8 3))),
 Zs 33 (.cv .i64 (.tmp 32)),
 Zs 34 (.call 15 [(.tmp 33)]),
 Zo 30 34,
 Zs 35 (.ext (.tmp 30) 0),
 Zs 36 (.ext (.tmp 30) 1),
 Zs 13 (.alloc 24 (.agg #[(.slice none 0 0),(.slice none 0 0)])),
 ⟨none,none,.st 2 (.tmp 13) (.tmp 35)⟩,
 Zo 14 36])
 (.seq (.ops [Zo 37 1,
 Zo 38 4,
 Zs 39 (.call 16 [(.tmp 37),(.tmp 38)]),
 Zo 15 39])
 (.seq (.ops [Zo 40 0,
 Zs 41 (.bin .rem (.tmp 40) (.const (.int .u8 3))),
 Zs 42 (.cv .i64 (.tmp 41)),
 Zo 43 1,
 Zo 44 2,
 Zo 45 3,
 Zo 46 15,
 Zs 47 (.call 21 [(.tmp 42),(.tmp 43),(.tmp 44),(.tmp 45),(.tmp 46)]),
 Zo 16 47])
 (.seq (.seq (.ops [Zo 48 16,
 Zr 49 48,
 Zw 50 .eql 49 0])
 (.cond (.tmp 50)
 (.seq (.ops [Zs 51 (.call 8 []),
 Zo 12 51])
 .ret)
 .skip))
 (.seq (.ops [Zs 52 (.ld (.agg 2) (.tmp 13)),
 Zo 53 1,
 Zo 54 2,
 Zo 55 3,
 Zr 56 55,
 Zo 57 15,
 Zo 58 16,
 Zs 59 (.call 19 [(.tmp 52),(.tmp 53),(.tmp 54),(.tmp 56),(.tmp 57),(.tmp 58)]),
 Zs 60 (.call 10 [(.tmp 59)]),
 Zw 61 .eql 60 0,
 Zo 62 61,
 ⟨some 63,some (62,true),.ld (.agg 2) (.tmp 13)⟩,
 ⟨some 64,some (62,true),.mv (.tmp 1)⟩,
 ⟨some 65,some (62,true),.mv (.tmp 2)⟩,
 ⟨some 66,some (62,true),.mv (.tmp 5)⟩,
 ⟨some 67,some (62,true),.mv (.tmp 15)⟩,
 ⟨some 68,some (62,true),.mv (.tmp 16)⟩,
 ⟨some 69,some (62,true),.call 19 [(.tmp 63),(.tmp 64),(.tmp 65),(.tmp 66),(.tmp 67),(.tmp 68)]⟩,
 ⟨some 70,some (62,true),.call 10 [(.tmp 69)]⟩,
 ⟨some 71,some (62,true),.bin .eql (.tmp 70) (Zi 0)⟩,
 ⟨some 72,some (62,true),.mv (.tmp 5)⟩,
 ⟨some 73,some (62,true),.mv (.tmp 3)⟩,
 ⟨some 74,some (62,true),.len (.tmp 73)⟩,
 ⟨some 75,some (62,true),.bin .eql (.tmp 72) (.tmp 74)⟩,
 ⟨some 76,some (62,true),.eq .bool false (.tmp 71) (.tmp 75)⟩,
 Zs 77 (.pick (.tmp 62) (.tmp 76) (.const (.bool false))),
 Zo 78 77,
 ⟨some 79,some (78,true),.call 8 []⟩,
 Zs 80 (.pick (.tmp 78) (.tmp 79) (.const (.bool false))),
 Zo 12 80])
 .ret)))))))⟩
theorem h7 : strF Tryz.prog [] Tryz.f7 = some c7 := by kernel_rfl
def c8 : Fun := ⟨69,[.inl 0],
 (.seq (.ops [Zs 0 (.mv (.const (.bool false)))])
 (.seq (.ops [Zs 8 (.bsl 5 1 3 #[(.int .u8 0)] [(0,(.const (.int .u8 102))),(1,(.const (.int .u8 111))),(2,(.const (.int .u8 111)))]),
 Zs 9 (.cvid (.tmp 8)),
 Zs 10 (.call 22 [(Zi 1),(.tmp 9),(Zi 3)]),
 Zo 7 10,
 Zs 11 (.ext (.tmp 7) 0),
 Zs 12 (.ext (.tmp 7) 1),
 Zo 1 11,
 Zo 2 12])
 (.seq (.ops [Zs 14 (.mks 5 1 1 #[(.int .u8 0)] (Zi 20) (Zi 20)),
 Zs 15 (.call 23 [(Zi 1),(.tmp 14),(Zi 46)]),
 Zo 13 15,
 Zs 16 (.ext (.tmp 13) 0),
 Zs 17 (.ext (.tmp 13) 1),
 Zo 3 16,
 Zo 4 17])
 (.seq (.ops [Zs 19 (.call 15 [(Zi 0)]),
 Zo 18 19,
 Zs 20 (.ext (.tmp 18) 0),
 Zs 21 (.ext (.tmp 18) 1),
 Zs 5 (.alloc 24 (.agg #[(.slice none 0 0),(.slice none 0 0)])),
 ⟨none,none,.st 2 (.tmp 5) (.tmp 20)⟩,
 Zo 6 21])
 (.seq (.ops [Zo 22 2,
 Zs 23 (.call 10 [(.tmp 22)]),
 Zo 24 4,
 Zs 25 (.call 10 [(.tmp 24)]),
 Zy 26 .add 23 25,
 Zw 27 .eql 26 0,
 Zo 28 27,
 ⟨some 29,some (28,true),.mv (.tmp 1)⟩,
 ⟨some 30,some (28,true),.cvbs (.tmp 29)⟩,
 ⟨some 31,some (28,true),.bin .eql (.tmp 30) (.const (.string ⟨#[26,201,7]⟩))⟩,
 Zs 32 (.pick (.tmp 28) (.tmp 31) (.const (.bool false))),
 Zo 33 32,
 ⟨some 34,some (33,true),.mv (.tmp 3)⟩,
 ⟨some 35,some (33,true),.len (.tmp 34)⟩,
 ⟨some 36,some (33,true),.bin .eql (.tmp 35) (Zi 46)⟩,
 Zs 37 (.pick (.tmp 33) (.tmp 36) (.const (.bool false))),
 Zo 38 37,
 ⟨some 39,some (38,true),.mv (.tmp 3)⟩,
 ⟨some 40,some (38,true),.ia 1 (.tmp 39) (Zi 1)⟩,
 ⟨some 41,some (38,true),.ld (.int .u8) (.tmp 40)⟩,
 ⟨some 42,some (38,true),.bin .eql (.tmp 41) (.const (.int .u8 1))⟩,
 Zs 43 (.pick (.tmp 38) (.tmp 42) (.const (.bool false))),
 Zo 44 43,
 ⟨some 45,some (44,true),.mv (.tmp 3)⟩,
 ⟨some 46,some (44,true),.ia 1 (.tmp 45) (Zi 10)⟩,
 ⟨some 47,some (44,true),.ld (.int .u8) (.tmp 46)⟩,
 ⟨some 48,some (44,true),.bin .eql (.tmp 47) (.const (.int .u8 0))⟩,
 Zs 49 (.pick (.tmp 44) (.tmp 48) (.const (.bool false))),
 Zo 50 49,
 ⟨some 51,some (50,true),.mv (.tmp 3)⟩,
 ⟨some 52,some (50,true),.ia 1 (.tmp 51) (Zi 11)⟩,
 ⟨some 53,some (50,true),.ld (.int .u8) (.tmp 52)⟩,
 ⟨some 54,some (50,true),.bin .eql (.tmp 53) (.const (.int .u8 48))⟩,
 Zs 55 (.pick (.tmp 50) (.tmp 54) (.const (.bool false))),
 Zo 56 55,
 ⟨some 57,some (56,true),.bsl 50 1 1 #[(.int .u32 0)] [(0,(.const (.int .u32 15)))]⟩,
 ⟨some 58,some (56,true),.bsl 50 1 1 #[(.int .u32 0)] [(0,(.const (.int .u32 3)))]⟩,
 ⟨some 59,some (56,true),.bld #[(.slice none 0 0),(.slice none 0 0)] [(0,1),(1,1)] [(0,(.tmp 57)),(1,(.tmp 58))]⟩,
 ⟨some 60,some (56,true),.call 24 [(.tmp 59)]⟩,
 ⟨some 61,some (56,true),.call 10 [(.tmp 60)]⟩,
 ⟨some 62,some (56,true),.bin .eql (.tmp 61) (Zi 80)⟩,
 Zs 63 (.pick (.tmp 56) (.tmp 62) (.const (.bool false))),
 Zo 64 63,
 ⟨some 65,some (64,true),.ld (.agg 2) (.tmp 5)⟩,
 ⟨some 66,some (64,true),.call 25 [(.tmp 65)]⟩,
 ⟨some 67,some (64,true),.bin .eql (.tmp 66) (Zi 64)⟩,
 Zs 68 (.pick (.tmp 64) (.tmp 67) (.const (.bool false))),
 Zo 0 68])
 .ret)))))⟩
theorem h8 : strF Tryz.prog [] Tryz.f8 = some c8 := by kernel_rfl
def c10 : Fun := ⟨4,[.inl 2],
 (.seq (.ops [Zs 2 (.mv (Zi 0))])
 (.seq (.ops [Zo 3 0,
 Zo 2 3])
 .ret))⟩
theorem h10 : strF Tryz.prog [] Tryz.f10 = some c10 := by kernel_rfl
end Go.Proofs.YtcgplgpdcfocpaaGreatDoor.Code
