/- RsaSalted: what is used, in one text. -/
import Derived.Lib.MakeNoZero
import Derived.Laws.Externs
import Derived.Shelf.Strconv.Itoa3
import Derived.Lib.ItoaNum
import Derived.Laws.Strings
import Derived.Laws.RangeString
import Derived.Test.YtcgplgpdcfocpaaGreatDoorRsaSaltedr3
set_option linter.unusedVariables false
set_option linter.unusedSimpArgs false
set_option maxRecDepth 100000
open Int renaming reduceAdd → Za, reduceEq → Zb, reduceLE → Zc, reduceLT → Zd, reduceMul → Ze, reduceNeg → Zf, reducePow → Zg, reduceSub → Zj, reduceToNat → Zk
open Nat renaming reduceAdd → Zl, reduceEqDiff → Zm, reduceLT → Zn, reduceLeDiff → Zp, reduceMul → Zq
section
namespace Go.Proofs.YtcgplgpdcfocpaaGreatDoor.Spec
open Go Go.RowKit Go.Proofs Go.Proofs.YtcgplgpdcfocpaaGreatDoor.Eng Go.Proofs.YtcgplgpdcfocpaaGreatDoor.Code
attribute [local irreducible] callK S.W opsW scrW one
theorem roots64_fill : fillL [(0, 1), (1, 1), (2, 1), (3, 1), (4, 1), (5, 1), (6, 1), (7, 1), (8, 1), (9, 1), (10, 1), (11, 1), (12, 1), (13, 1), (14, 1), (15, 1), (16, 1), (17, 1), (18, 1), (19, 1), (20, 1), (21, 1), (22, 1), (23, 1), (24, 1), (25, 1), (26, 1), (27, 1), (28, 1), (29, 1), (30, 1), (31, 1), (32, 1), (33, 1), (34, 1), (35, 1), (36, 1), (37, 1), (38, 1), (39, 1), (40, 1), (41, 1), (42, 1), (43, 1), (44, 1), (45, 1), (46, 1), (47, 1), (48, 1), (49, 1), (50, 1), (51, 1), (52, 1), (53, 1), (54, 1), (55, 1), (56, 1), (57, 1), (58, 1), (59, 1), (60, 1), (61, 1), (62, 1), (63, 1), (64, 1), (65, 1), (66, 1), (67, 1), (68, 1), (69, 1), (70, 1), (71, 1), (72, 1), (73, 1), (74, 1), (75, 1), (76, 1), (77, 1), (78, 1), (79, 1)] (Array.replicate 80 (Value.int .u64 0)) [(0, .int .u64 4794697086780616226), (1, .int .u64 8158064640168781261), (2, .int .u64 13096744586834688815), (3, .int .u64 16840607885511220156), (4, .int .u64 4131703408338449720), (5, .int .u64 6480981068601479193), (6, .int .u64 10538285296894168987), (7, .int .u64 12329834152419229976), (8, .int .u64 15566598209576043074), (9, .int .u64 1334009975649890238), (10, .int .u64 2608012711638119052), (11, .int .u64 6128411473006802146), (12, .int .u64 8268148722764581231), (13, .int .u64 9286055187155687089), (14, .int .u64 11230858885718282805), (15, .int .u64 13951009754708518548), (16, .int .u64 16472876342353939154), (17, .int .u64 17275323862435702243), (18, .int .u64 1135362057144423861), (19, .int .u64 2597628984639134821), (20, .int .u64 3308224258029322869), (21, .int .u64 5365058923640841347), (22, .int .u64 6679025012923562964), (23, .int .u64 8573033837759648693), (24, .int .u64 10970295158949994411), (25, .int .u64 12119686244451234320), (26, .int .u64 12683024718118986047), (27, .int .u64 13788192230050041572), (28, .int .u64 14330467153632333762), (29, .int .u64 15395433587784984357), (30, .int .u64 489312712824947311), (31, .int .u64 1452737877330783856), (32, .int .u64 2861767655752347644), (33, .int .u64 3322285676063803686), (34, .int .u64 5560940570517711597), (35, .int .u64 5996557281743188959), (36, .int .u64 7280758554555802590), (37, .int .u64 8532644243296465576), (38, .int .u64 9350256976987008742), (39, .int .u64 10552545826968843579), (40, .int .u64 11727347734174303076), (41, .int .u64 12113106623233404929), (42, .int .u64 14000437183269869457), (43, .int .u64 14369950271660146224), (44, .int .u64 15101387698204529176), (45, .int .u64 15463397548674623760), (46, .int .u64 17586052441742319658), (47, .int .u64 1182934255886127544), (48, .int .u64 1847814050463011016), (49, .int .u64 2177327727835720531), (50, .int .u64 2830643537854262169), (51, .int .u64 3796741975233480872), (52, .int .u64 4115178125766777443), (53, .int .u64 5681478168544905931), (54, .int .u64 6601373596472566643), (55, .int .u64 7507060721942968483), (56, .int .u64 8399075790359081724), (57, .int .u64 8693463985226723168), (58, .int .u64 9568029438360202098), (59, .int .u64 10144078919501101548), (60, .int .u64 10430055236837252648), (61, .int .u64 11840083180663258601), (62, .int .u64 13761210420658862357), (63, .int .u64 14299343276471374635), (64, .int .u64 14566680578165727644), (65, .int .u64 15097957966210449927), (66, .int .u64 16922976911328602910), (67, .int .u64 17689382322260857208), (68, .int .u64 500013540394364858), (69, .int .u64 748580250866718886), (70, .int .u64 1242879168328830382), (71, .int .u64 1977374033974150939), (72, .int .u64 2944078676154940804), (73, .int .u64 3659926193048069267), (74, .int .u64 4368137639120453308), (75, .int .u64 4836135668995329356), (76, .int .u64 5532061633213252278), (77, .int .u64 6448918945643986474), (78, .int .u64 6902733635092675308), (79, .int .u64 7801388544844847127)] = some (nums .u64 k512).toArray := by kernel_rfl
theorem roots64_spec {w : World} (K : Value → World → Prop) (hK : ∀ w', Fr w w' nob → K (.agg (nums .u64 k512).toArray) w') : callK Tryz.prog 62 [] w K := by
 refine call_of Tryz.func62 Code.h62 (by simp[Code.c62]) ?_
 simp(disch:=omega)only[EZ,↓EP,↓reduceIte,Za,Zb,Zc,Zd,Ze,Zf,Zg,Zj,Zk,Zl,Zm,Zn,Zp,Zq,reduceCtorEq,Code.c62]
 refine al_k (nums .u64 (zs 80)) rfl fun w1 n1 => ?_
 simp(disch:=omega)only[EZ,↓EP,↓reduceIte,Za,Zb,Zc,Zd,Ze,Zf,Zg,Zj,Zk,Zl,Zm,Zn,Zp,Zq,reduceCtorEq]
 refine ⟨_, roots64_fill, ?_⟩
 simp(disch:=omega)only[EZ,↓EP,↓reduceIte,Za,Zb,Zc,Zd,Ze,Zf,Zg,Zj,Zk,Zl,Zm,Zn,Zp,Zq,reduceCtorEq]
 have hl : (nums .u64 k512).length = 80 := by rw[nums_length]; exact k512_len
 refine st_whole n1.blk hl rfl (nums_one _ _) fun w2 p2 => ?_
 simp(disch:=omega)only[EZ,↓EP,↓reduceIte,Za,Zb,Zc,Zd,Ze,Zf,Zg,Zj,Zk,Zl,Zm,Zn,Zp,Zq,reduceCtorEq]
 refine p2.blk.ldAgg hl (hK _ ?_)
 exact fr_of (p2.below (Nat.le_refl _) (n1.below (Nat.le_refl _) (Below.refl _ _))) rfl
theorem wide_all (H S : List Int) (hH : H.length = 8) (hS : S.length = 8) : rounds (wideAdd H) 8 S = [s64 (at' H 0) (at' S 0), s64 (at' H 1) (at' S 1), s64 (at' H 2) (at' S 2), s64 (at' H 3) (at' S 3), s64 (at' H 4) (at' S 4), s64 (at' H 5) (at' S 5), s64 (at' H 6) (at' S 6), s64 (at' H 7) (at' S 7)] := by
 obtain ⟨a, b, c, d, e, f, g, i, rfl⟩ := len8 hH
 obtain ⟨a', b', c', d', e', f', g', i', rfl⟩ := len8 hS
 unfold s64
 show [IntKind.u64.wrap (a' + a), IntKind.u64.wrap (b' + b), IntKind.u64.wrap (c' + c), IntKind.u64.wrap (d' + d), IntKind.u64.wrap (e' + e), IntKind.u64.wrap (f' + f), IntKind.u64.wrap (g' + g), IntKind.u64.wrap (i' + i)] = [IntKind.u64.wrap (a + a'), IntKind.u64.wrap (b + b'), IntKind.u64.wrap (c + c'), IntKind.u64.wrap (d + d'), IntKind.u64.wrap (e + e'), IntKind.u64.wrap (f + f'), IntKind.u64.wrap (g + g'), IntKind.u64.wrap (i + i')]
 simp only[Int.add_comm]
def runW (s M : List Int) (j : Nat) : List Int := rounds (fun j s => wide s (part 128 M j)) j s
theorem runW_succ (s M : List Int) (j : Nat) : runW s M (j + 1) = wide (runW s M j) (part 128 M j) := rfl
theorem runW_len (s M : List Int) (hs : s.length = 8) : ∀ j, (runW s M j).length = 8
 | 0 => hs
 | j + 1 => by rw[runW_succ]; exact wide_len _ _ (runW_len s M hs j)
theorem not_u64 (n : Int) : bits .xor .u64 (if IntKind.u64.signed = true then -1 else IntKind.u64.max) n = bits .xor .u64 18446744073709551615 n := rfl
theorem rowN_set0 (f : Nat → Int) {n k : Nat} (h : k < n) : (rowN f n k).set k 0 = rowN f n k := by
 rw[rowN,List.set_append_right _ _ (by simp)]
 simp only[List.length_map,List.length_range,Nat.sub_self]
 rw[show n - k = (n - (k + 1)) + 1 by omega, List.replicate_succ, List.set_cons_zero]
def wideJ (w : World) (kb sb wb : Nat) (H p : List Int) (m : Nat) (ρ : Env) (w' : World) : Prop :=
 ∃ k : Nat, ρ 20 = .int .i64 k ∧ k ≤ 80 ∧ m = 80 - k ∧ ρ 12 = .int .u64 (at' (rounds wideStep k (wideInit H p)).s 0) ∧ ρ 13 = .int .u64 (at' (rounds wideStep k (wideInit H p)).s 1) ∧ ρ 14 = .int .u64 (at' (rounds wideStep k (wideInit H p)).s 2) ∧ ρ 15 = .int .u64 (at' (rounds wideStep k (wideInit H p)).s 3) ∧ ρ 16 = .int .u64 (at' (rounds wideStep k (wideInit H p)).s 4) ∧ ρ 17 = .int .u64 (at' (rounds wideStep k (wideInit H p)).s 5) ∧ ρ 18 = .int .u64 (at' (rounds wideStep k (wideInit H p)).s 6) ∧ ρ 19 = .int .u64 (at' (rounds wideStep k (wideInit H p)).s 7) ∧
  Blk w' kb (nums .u64 k512) ∧ Blk w' sb (nums .u64 H) ∧ Blk w' wb (nums .u64 (rowN (wideWd p) 80 80)) ∧ Below w.heap.size w w'
theorem wideInit_00 (h p : List Int) : (rounds wideStep 0 (wideInit h p)).s = h := rfl
set_option maxHeartbeats 4000000 in
theorem sha512_vw {w : World} {v : Value} {M s : List Int} (hv : Vw .u8 w v M) (hs : s.length = 8) (hmod : M.length % 128 = 0) (hm : M.length ≤ 16777600) (hb : byteL M) (K : Value → World → Prop)
  (hK : ∀ v' w', Gw .u8 w w' v' ((List.range 8).flatMap fun (i : Nat) => v8 (at' (runW s M (M.length / 128)) (i : Int))) → K v' w') : callK Tryz.prog 34 [v, .agg (nums .u64 s).toArray] w K := by
 obtain ⟨A, c, rfl, hc, hr⟩ := hv
 refine call_of Tryz.func34 Code.h34 (by simp[Code.c34]) ?_
 simp(disch:=omega)only[EZ,↓EP,↓reduceIte,Za,Zb,Zc,Zd,Ze,Zf,Zg,Zj,Zk,Zl,Zm,Zn,Zp,Zq,reduceCtorEq,Code.c34]
 refine al_k (nums .u64 s) rfl fun w1 n1 => ?_
 simp(disch:=omega)only[EZ,↓EP,↓reduceIte,Za,Zb,Zc,Zd,Ze,Zf,Zg,Zj,Zk,Zl,Zm,Zn,Zp,Zq,reduceCtorEq]
 refine roots64_spec _ fun w2 f2 => ?_
 simp(disch:=omega)only[EZ,↓EP,↓reduceIte,Za,Zb,Zc,Zd,Ze,Zf,Zg,Zj,Zk,Zl,Zm,Zn,Zp,Zq,reduceCtorEq]
 refine al_k (nums .u64 (zs 80)) rfl fun w3 n3 => ?_
 simp(disch:=omega)only[EZ,↓EP,↓reduceIte,Za,Zb,Zc,Zd,Ze,Zf,Zg,Zj,Zk,Zl,Zm,Zn,Zp,Zq,reduceCtorEq]
 refine st_whole n3.blk (by rw[nums_length]; exact k512_len) rfl (nums_one _ _) fun w4 p4 => ?_
 simp(disch:=omega)only[EZ,↓EP,↓reduceIte,Za,Zb,Zc,Zd,Ze,Zf,Zg,Zj,Zk,Zl,Zm,Zn,Zp,Zq,reduceCtorEq]
 have z1 := n1.size
 have z2 := f2.size
 have z3 := n3.size
 have z4 := p4.size
 have b2 : Below w.heap.size w w2 := (((n1.fr nob).nb f2).below (Nat.le_refl _) fun _ h => h.elim)
 have b4 : Below w.heap.size w w4 := p4.below (by omega) (n3.below (by omega) b2)
 have hsb4 := p4.keep (by omega) (n3.keep (n1.blk.nb f2))
 have hkb4 := p4.blk
 have hk0 : w.heap.size ≤ w2.heap.size := by omega
 have hs0 : w.heap.size ≤ w.heap.size := Nat.le_refl _
 have hks : w2.heap.size ≠ w.heap.size := by omega
 obtain ⟨sb, esb⟩ : ∃ sb, sb = w.heap.size := ⟨_, rfl⟩
 obtain ⟨kb, ekb⟩ : ∃ kb, kb = w2.heap.size := ⟨_, rfl⟩
 simp only[← ekb,← esb] at hkb4 hsb4 hk0 hs0 hks b4 ⊢
 refine loop_inv (fun t ρ w' => ∃ j : Nat, ρ 6 = .int .i64 (128 * (j : Int)) ∧ 128 * j ≤ M.length ∧ t = M.length - 128 * j ∧ Blk w' kb (nums .u64 k512) ∧ Blk w' sb (nums .u64 (runW s M j)) ∧ Below sb w w') M.length ⟨0, by simp(disch:=omega)only[EZ,↓EP,↓reduceIte,Za,Zb,Zc,Zd,Ze,Zf,Zg,Zj,Zk,Zl,Zm,Zn,Zp,Zq,reduceCtorEq], by omega, by omega, hkb4, hsb4, b4⟩ ?_
 clear b4 n1 f2 n3 p4 hkb4 hsb4 z1 z2 z3 z4 b2 w1
 rintro t ρ w3 hf ⟨j, h4, hj, rfl, hKb, hSb, b3⟩ N hN
 have r0 : ρ 0 = .slice A M.length c := by rw[hf 0 rfl]; simp(disch:=omega)only[EZ,↓EP,↓reduceIte,Za,Zb,Zc,Zd,Ze,Zf,Zg,Zj,Zk,Zl,Zm,Zn,Zp,Zq,reduceCtorEq]
 have rS : ρ 3 = .pointer (some ⟨sb, 0, none⟩) := by rw[hf 3 rfl]; simp(disch:=omega)only[EZ,↓EP,↓reduceIte,Za,Zb,Zc,Zd,Ze,Zf,Zg,Zj,Zk,Zl,Zm,Zn,Zp,Zq,reduceCtorEq,← esb,← ekb]
 have rK : ρ 5 = .pointer (some ⟨kb, 0, none⟩) := by rw[hf 5 rfl]; simp(disch:=omega)only[EZ,↓EP,↓reduceIte,Za,Zb,Zc,Zd,Ze,Zf,Zg,Zj,Zk,Zl,Zm,Zn,Zp,Zq,reduceCtorEq,← esb,← ekb]
 clear hf
 have ltk := hKb.lt
 have lts := hSb.lt
 by_cases hjl : 128 * (j : Int) < (M.length : Int)
 ·have hM0 : 0 < M.length := by omega
  simp(disch:=omega)only[EZ,↓EP,↓reduceIte,Za,Zb,Zc,Zd,Ze,Zf,Zg,Zj,Zk,Zl,Zm,Zn,Zp,Zq,reduceCtorEq,h4,r0,rS,rK]
  refine al_k (nums .u64 (zs 80)) rfl fun w4 n4 => ?_
  have b4 := n4.below (by omega) b3
  have hK4 := n4.keep hKb
  have hS4 := n4.keep hSb
  generalize hpp : part 128 M j = p
  have hpb : byteL p := by rw[← hpp]; exact byteL_part hb j
  simp(disch:=omega)only[EZ,↓EP,↓reduceIte,Za,Zb,Zc,Zd,Ze,Zf,Zg,Zj,Zk,Zl,Zm,Zn,Zp,Zq,reduceCtorEq,h4,r0,rS,rK]
  refine loop_inv (fun t ρ' w' => ∃ k : Nat, ρ' 8 = .int .i64 k ∧ k ≤ 80 ∧ t = 80 - k ∧ Blk w' kb (nums .u64 k512) ∧ Blk w' sb (nums .u64 (runW s M j)) ∧ Blk w' w3.heap.size (nums .u64 (rowN (wideWd p) 80 k)) ∧ Below sb w w') 80 ⟨0, by simp(disch:=omega)only[EZ,↓EP,↓reduceIte,Za,Zb,Zc,Zd,Ze,Zf,Zg,Zj,Zk,Zl,Zm,Zn,Zp,Zq,reduceCtorEq], by omega, by omega, hK4, hS4, n4.blk, b4⟩ ?_
  clear n4 hK4 hS4 b4
  rintro t ρ5 w5 hf ⟨k, h6, hk, rfl, hK5, hS5, hW5, b5⟩ N5 hN5
  have q0 : ρ5 0 = .slice A M.length c := by rw[hf 0 rfl]; simp(disch:=omega)only[EZ,↓EP,↓reduceIte,Za,Zb,Zc,Zd,Ze,Zf,Zg,Zj,Zk,Zl,Zm,Zn,Zp,Zq,reduceCtorEq,r0]
  have qS : ρ5 3 = .pointer (some ⟨sb, 0, none⟩) := by rw[hf 3 rfl]; simp(disch:=omega)only[EZ,↓EP,↓reduceIte,Za,Zb,Zc,Zd,Ze,Zf,Zg,Zj,Zk,Zl,Zm,Zn,Zp,Zq,reduceCtorEq,rS]
  have qK : ρ5 5 = .pointer (some ⟨kb, 0, none⟩) := by rw[hf 5 rfl]; simp(disch:=omega)only[EZ,↓EP,↓reduceIte,Za,Zb,Zc,Zd,Ze,Zf,Zg,Zj,Zk,Zl,Zm,Zn,Zp,Zq,reduceCtorEq,rK]
  have qA : ρ5 6 = .int .i64 (128 * (j : Int)) := by rw[hf 6 rfl]; simp(disch:=omega)only[EZ,↓EP,↓reduceIte,Za,Zb,Zc,Zd,Ze,Zf,Zg,Zj,Zk,Zl,Zm,Zn,Zp,Zq,reduceCtorEq,h4]
  have qW : ρ5 7 = .pointer (some ⟨w3.heap.size, 0, none⟩) := by rw[hf 7 rfl]; simp(disch:=omega)only[EZ,↓EP,↓reduceIte,Za,Zb,Zc,Zd,Ze,Zf,Zg,Zj,Zk,Zl,Zm,Zn,Zp,Zq,reduceCtorEq]
  clear hf
  have hp5 : Rd w5 A (nums .u8 M) := hr.below (esb ▸ b5)
  have hl5 := rowN_len (wideWd p) hk
  by_cases hkR : (k : Int) < 80
  ·have st : ∀ (x : Int) (m : Nat) (ρ6 : Env), x = wideWd p k → ρ6 8 = .int .i64 ((k + 1 : Nat) : Int) → (∀ w', Put (w5.drewN m) w' w3.heap.size (nums .u64 ((rowN (wideWd p) 80 k).set k x)) → endK N5 ρ6 w') := by
    intro x m ρ6 hx h6' w' pt
    rw[hx,rowN_set _ (by omega)] at pt
    exact hN5 (80 - (k + 1)) _ _ (by omega) ⟨k + 1, h6', by omega, rfl, pt.keep (by omega) (hK5.drewN m), pt.keep (by omega) (hS5.drewN m), pt.blk, pt.below (by omega) (below_drewN' b5 m)⟩
   have st0 : ∀ (ρ6 : Env) (w' : World), ρ6 8 = .int .i64 ((k + 1 : Nat) : Int) → Blk w' kb (nums .u64 k512) → Blk w' sb (nums .u64 (runW s M j)) → Blk w' w3.heap.size (nums .u64 (rowN (wideWd p) 80 (k + 1))) → Below sb w w' → endK N5 ρ6 w' := fun ρ6 w' a1 a2 a3 a4 a5 => hN5 (80 - (k + 1)) _ _ (by omega) ⟨k + 1, a1, by omega, rfl, a2, a3, a4, a5⟩
   by_cases hk16 : (k : Int) < 16
   ·clear hN5
    simp(disch:=omega)only[EZ,↓EP,↓reduceIte,Za,Zb,Zc,Zd,Ze,Zf,Zg,Zj,Zk,Zl,Zm,Zn,Zp,Zq,reduceCtorEq,W_join,h6,q0,qS,qA,qW]
    refine loop_inv (fun t ρ' w' => ∃ i : Nat, ρ' 9 = .int .i64 i ∧ i ≤ 8 ∧ t = 8 - i ∧ Blk w' kb (nums .u64 k512) ∧ Blk w' sb (nums .u64 (runW s M j)) ∧ Blk w' w3.heap.size (nums .u64 ((rowN (wideWd p) 80 k).set k (wpart p k i))) ∧ Below sb w w') 8 ⟨0, by simp(disch:=omega)only[EZ,↓EP,↓reduceIte,Za,Zb,Zc,Zd,Ze,Zf,Zg,Zj,Zk,Zl,Zm,Zn,Zp,Zq,reduceCtorEq], by omega, by omega, hK5, hS5, by rw[wpart,rowN_set0 _ (by omega)]; exact hW5, b5⟩ ?_
    clear hK5 hS5 hW5 b5
    rintro t ρ6 w6 hf ⟨i, h9, hi, rfl, hK6, hS6, hW6, b6⟩ N6 hN6
    have u0 : ρ6 0 = .slice A M.length c := by rw[hf 0 rfl]; simp(disch:=omega)only[EZ,↓EP,↓reduceIte,Za,Zb,Zc,Zd,Ze,Zf,Zg,Zj,Zk,Zl,Zm,Zn,Zp,Zq,reduceCtorEq,q0]
    have u6 : ρ6 6 = .int .i64 (128 * (j : Int)) := by rw[hf 6 rfl]; simp(disch:=omega)only[EZ,↓EP,↓reduceIte,Za,Zb,Zc,Zd,Ze,Zf,Zg,Zj,Zk,Zl,Zm,Zn,Zp,Zq,reduceCtorEq,qA]
    have u7 : ρ6 7 = .pointer (some ⟨w3.heap.size, 0, none⟩) := by rw[hf 7 rfl]; simp(disch:=omega)only[EZ,↓EP,↓reduceIte,Za,Zb,Zc,Zd,Ze,Zf,Zg,Zj,Zk,Zl,Zm,Zn,Zp,Zq,reduceCtorEq,qW]
    have u8 : ρ6 8 = .int .i64 k := by rw[hf 8 rfl]; simp(disch:=omega)only[EZ,↓EP,↓reduceIte,Za,Zb,Zc,Zd,Ze,Zf,Zg,Zj,Zk,Zl,Zm,Zn,Zp,Zq,reduceCtorEq,h6]
    clear hf
    have hl6 : ((rowN (wideWd p) 80 k).set k (wpart p k i)).length = 80 := by rw[List.length_set,hl5]
    by_cases hi8 : (i : Int) < 8
    ·obtain ⟨ad, rfl, _, hcl⟩ := (hr.below (esb ▸ b6)).get (by rw[nums_length]; exact hM0)
     have cb : w6.cell? (ad.add (128 * j + 8 * k + i)) = some (.int .u8 (at' p ((8 * k + i : Nat) : Int))) := by
      rw[hcl.numN (j := 128 * j + 8 * k + i) (by omega), ← hpp, part_at (by omega), show j * 128 + (8 * k + i) = 128 * j + 8 * k + i by omega]
     have eb : (128 * (j : Int) + 8 * (k : Int) + (i : Int)).toNat = 128 * j + 8 * k + i := by omega
     have cw : w6.cell? ⟨w3.heap.size, k, none⟩ = some (.int .u64 (wpart p k i)) := by
      rw[hW6.numN (j := k) (by omega),at_setN _ _ _ _ (by omega),if_pos rfl]
     simp(disch:=omega)only[EZ,↓EP,↓reduceIte,Za,Zb,Zc,Zd,Ze,Zf,Zg,Zj,Zk,Zl,Zm,Zn,Zp,Zq,reduceCtorEq,u0,u6,u7,u8,h9,eb,cb,cw]
     intro m
     refine st_num (hW6.drewN m) (by omega) fun w7 p7 => ?_
     simp(disch:=omega)only[EZ,↓EP,↓reduceIte,Za,Zb,Zc,Zd,Ze,Zf,Zg,Zj,Zk,Zl,Zm,Zn,Zp,Zq,reduceCtorEq,h9]
     rw[List.set_set] at p7
     exact hN6 (8 - (i + 1)) _ _ (by omega) ⟨i + 1, by simp(disch:=omega)only[EZ,↓EP,↓reduceIte,Za,Zb,Zc,Zd,Ze,Zf,Zg,Zj,Zk,Zl,Zm,Zn,Zp,Zq,reduceCtorEq,h9,Int.natCast_add], by omega, rfl, p7.keep (by omega) (hK6.drewN m), p7.keep (by omega) (hS6.drewN m), p7.blk, p7.below (by omega) (below_drewN' b6 m)⟩
    ·have hi8' : i = 8 := by omega
     subst hi8'
     rw[← wideWd_lo hpb (by omega),rowN_set _ (by omega)] at hW6
     simp(disch:=omega)only[EZ,↓EP,↓reduceIte,Za,Zb,Zc,Zd,Ze,Zf,Zg,Zj,Zk,Zl,Zm,Zn,Zp,Zq,reduceCtorEq,h9,u8]
     exact st0 _ w6 (by simp(disch:=omega)only[EZ,↓EP,↓reduceIte,Za,Zb,Zc,Zd,Ze,Zf,Zg,Zj,Zk,Zl,Zm,Zn,Zp,Zq,reduceCtorEq,u8,Int.natCast_add]) hK6 hS6 hW6 b6
   ·have e2 : ((k : Int) - 2).toNat = k - 2 := by omega
    have e7 : ((k : Int) - 7).toNat = k - 7 := by omega
    have e15 : ((k : Int) - 15).toNat = k - 15 := by omega
    have e16 : ((k : Int) - 16).toNat = k - 16 := by omega
    have g : ∀ i, i < k → w5.cell? ⟨w3.heap.size, i, none⟩ = some (.int .u64 (wideWd p i)) := fun i hi => by rw[hW5.numN (j := i) (by omega),rowN_at _ hi]
    have g2 := g (k - 2) (by omega)
    have g7 := g (k - 7) (by omega)
    have g15 := g (k - 15) (by omega)
    have g16 := g (k - 16) (by omega)
    simp(disch:=omega)only[EZ,↓EP,↓reduceIte,Za,Zb,Zc,Zd,Ze,Zf,Zg,Zj,Zk,Zl,Zm,Zn,Zp,Zq,reduceCtorEq,W_join,h6,q0,qS,qA,qW,e2,e15,g2,g15]
    intro m0
    refine turn_q _ 19 (by omega) (by omega) _ _ ?_
    simp(disch:=omega)only[EZ,↓EP,↓reduceIte,Za,Zb,Zc,Zd,Ze,Zf,Zg,Zj,Zk,Zl,Zm,Zn,Zp,Zq,reduceCtorEq,h6,qW,e7,e16,g7,g16]
    refine turn_q _ 61 (by omega) (by omega) _ _ ?_
    simp(disch:=omega)only[EZ,↓EP,↓reduceIte,Za,Zb,Zc,Zd,Ze,Zf,Zg,Zj,Zk,Zl,Zm,Zn,Zp,Zq,reduceCtorEq,h6,qW,e7,e16,g7,g16]
    refine turn_q _ 1 (by omega) (by omega) _ _ ?_
    simp(disch:=omega)only[EZ,↓EP,↓reduceIte,Za,Zb,Zc,Zd,Ze,Zf,Zg,Zj,Zk,Zl,Zm,Zn,Zp,Zq,reduceCtorEq,h6,qW,e7,e16,g7,g16]
    refine turn_q _ 8 (by omega) (by omega) _ _ ?_
    simp(disch:=omega)only[EZ,↓EP,↓reduceIte,Za,Zb,Zc,Zd,Ze,Zf,Zg,Zj,Zk,Zl,Zm,Zn,Zp,Zq,reduceCtorEq,h6,qW,e7,e16,g7,g16]
    intro m
    refine st_num (hW5.drewN _) (by omega) fun w6 p6 => ?_
    simp(disch:=omega)only[EZ,↓EP,↓reduceIte,Za,Zb,Zc,Zd,Ze,Zf,Zg,Zj,Zk,Zl,Zm,Zn,Zp,Zq,reduceCtorEq,h6]
    refine st _ _ _ ?_ (by simp(disch:=omega)only[EZ,↓EP,↓reduceIte,Za,Zb,Zc,Zd,Ze,Zf,Zg,Zj,Zk,Zl,Zm,Zn,Zp,Zq,reduceCtorEq,h6,Int.natCast_add]) w6 p6
    rw[wideWd_hi (t := k) (by omega)]
    rfl
  ·have hkR' : k = 80 := by omega
   subst hkR'
   clear hN5
   have hH8 : (runW s M j).length = 8 := runW_len s M hs j
   have g : ∀ i : Nat, i < 8 → w5.cell? ⟨sb, i, none⟩ = some (.int .u64 (at' (runW s M j) (i : Int))) := fun i hi => hS5.numN (j := i) (by omega)
   have a0 := g 0 (by omega)
   have a1 := g 1 (by omega)
   have a2 := g 2 (by omega)
   have a3 := g 3 (by omega)
   have a4 := g 4 (by omega)
   have a5 := g 5 (by omega)
   have a6 := g 6 (by omega)
   have a7 := g 7 (by omega)
   clear g
   simp(disch:=omega)only[EZ,↓EP,↓reduceIte,Za,Zb,Zc,Zd,Ze,Zf,Zg,Zj,Zk,Zl,Zm,Zn,Zp,Zq,reduceCtorEq,h6,q0,qS,qA,qW,a0,a1,a2,a3,a4,a5,a6,a7]
   intro m
   refine loop_inv (wideJ w kb sb w3.heap.size (runW s M j) p) 80 ⟨0, by simp(disch:=omega)only[EZ,↓EP,↓reduceIte,Za,Zb,Zc,Zd,Ze,Zf,Zg,Zj,Zk,Zl,Zm,Zn,Zp,Zq,reduceCtorEq], by omega, by omega, ?_⟩ ?_
   ·simp only[wideInit_00]
    simp(disch:=omega)only[EZ,↓EP,↓reduceIte,Za,Zb,Zc,Zd,Ze,Zf,Zg,Zj,Zk,Zl,Zm,Zn,Zp,Zq,reduceCtorEq]
    exact ⟨hK5.drewN m, hS5.drewN m, hW5.drewN m, esb ▸ below_drewN' b5 m⟩
   clear a0 a1 a2 a3 a4 a5 a6 a7 hl5 hp5
   rintro t ρ7 w7 hf ⟨k, h13, hk, rfl, c0, c1, c2, c3, c4, c5, c6, c7, hK7, hS7, hW7, b7⟩ N7 hN7
   have y0 : ρ7 0 = .slice A M.length c := by rw[hf 0 rfl]; simp(disch:=omega)only[EZ,↓EP,↓reduceIte,Za,Zb,Zc,Zd,Ze,Zf,Zg,Zj,Zk,Zl,Zm,Zn,Zp,Zq,reduceCtorEq,q0]
   have yS : ρ7 3 = .pointer (some ⟨sb, 0, none⟩) := by rw[hf 3 rfl]; simp(disch:=omega)only[EZ,↓EP,↓reduceIte,Za,Zb,Zc,Zd,Ze,Zf,Zg,Zj,Zk,Zl,Zm,Zn,Zp,Zq,reduceCtorEq,qS]
   have yK : ρ7 5 = .pointer (some ⟨kb, 0, none⟩) := by rw[hf 5 rfl]; simp(disch:=omega)only[EZ,↓EP,↓reduceIte,Za,Zb,Zc,Zd,Ze,Zf,Zg,Zj,Zk,Zl,Zm,Zn,Zp,Zq,reduceCtorEq,qK]
   have yA : ρ7 6 = .int .i64 (128 * (j : Int)) := by rw[hf 6 rfl]; simp(disch:=omega)only[EZ,↓EP,↓reduceIte,Za,Zb,Zc,Zd,Ze,Zf,Zg,Zj,Zk,Zl,Zm,Zn,Zp,Zq,reduceCtorEq,qA]
   have yW : ρ7 7 = .pointer (some ⟨w3.heap.size, 0, none⟩) := by rw[hf 7 rfl]; simp(disch:=omega)only[EZ,↓EP,↓reduceIte,Za,Zb,Zc,Zd,Ze,Zf,Zg,Zj,Zk,Zl,Zm,Zn,Zp,Zq,reduceCtorEq,qW]
   clear hf q0 qS qK qA qW
   have hx := wideWd_step (runW s M j) p k
   have hsl := wide_slen (wideInit (runW s M j) p) hH8 k
   generalize hst : rounds wideStep k (wideInit (runW s M j) p) = st at c0 c1 c2 c3 c4 c5 c6 c7 hx hsl
   by_cases hkR : (k : Int) < 80
   ·have gk : w7.cell? ⟨w3.heap.size, k, none⟩ = some (.int .u64 (wideWd p k)) := by rw[hW7.numN (j := k) (by rw [rowN_len _ (Nat.le_refl _)]; omega),rowN_at _ (by omega)]
    have gt : w7.cell? ⟨kb, k, none⟩ = some (.int .u64 (at' k512 (k : Int))) := hK7.numN (j := k) (by rw[k512_len]; omega)
    have fin : ∀ (w8 : World) (ρ8 : Env) (x y : Int), wideX k (wideW k st.w) st.s = x → wideY st.s = y → ρ8 20 = .int .i64 ((k + 1 : Nat) : Int) → ρ8 12 = .int .u64 (s64 x y) → ρ8 13 = .int .u64 (at' st.s 0) → ρ8 14 = .int .u64 (at' st.s 1) → ρ8 15 = .int .u64 (at' st.s 2) → ρ8 16 = .int .u64 (s64 (at' st.s 3) x) → ρ8 17 = .int .u64 (at' st.s 4) → ρ8 18 = .int .u64 (at' st.s 5) → ρ8 19 = .int .u64 (at' st.s 6) →
      Blk w8 kb (nums .u64 k512) → Blk w8 sb (nums .u64 (runW s M j)) → Blk w8 w3.heap.size (nums .u64 (rowN (wideWd p) 80 80)) → Below w.heap.size w w8 → endK N7 ρ8 w8 := by
     intro w8 ρ8 x y hx' hy' g1 d0 d1 d2 d3 d4 d5 d6 d7 g7 g8 g9 g10
     refine hN7 (80 - (k + 1)) _ _ (by omega) ⟨k + 1, g1, by omega, rfl, ?_⟩
     rw[rounds,hst,wideStep,hx',hy']
     exact ⟨d0, d1, d2, d3, d4, d5, d6, d7, g7, g8, g9, g10⟩
    clear hN7
    simp(disch:=omega)only[EZ,↓EP,↓reduceIte,Za,Zb,Zc,Zd,Ze,Zf,Zg,Zj,Zk,Zl,Zm,Zn,Zp,Zq,reduceCtorEq,W_join,h13,yS,yK,yW,c0,c1,c2,c3,c4,c5,c6,c7,gk,gt]
    refine turn_q _ 14 (by omega) (by omega) _ _ ?_
    simp(disch:=omega)only[EZ,↓EP,↓reduceIte,Za,Zb,Zc,Zd,Ze,Zf,Zg,Zj,Zk,Zl,Zm,Zn,Zp,Zq,reduceCtorEq,h13,yS,yK,yW,c0,c1,c2,c3,c4,c5,c6,c7,gk,gt]
    refine turn_q _ 18 (by omega) (by omega) _ _ ?_
    simp(disch:=omega)only[EZ,↓EP,↓reduceIte,Za,Zb,Zc,Zd,Ze,Zf,Zg,Zj,Zk,Zl,Zm,Zn,Zp,Zq,reduceCtorEq,h13,yS,yK,yW,c0,c1,c2,c3,c4,c5,c6,c7,gk,gt]
    refine turn_q _ 41 (by omega) (by omega) _ _ ?_
    simp(disch:=omega)only[EZ,↓EP,↓reduceIte,Za,Zb,Zc,Zd,Ze,Zf,Zg,Zj,Zk,Zl,Zm,Zn,Zp,Zq,reduceCtorEq,h13,yS,yK,yW,c0,c1,c2,c3,c4,c5,c6,c7,gk,gt]
    intro m1
    refine turn_d _ 28 (by omega) (by omega) _ _ fun m2 => ?_
    simp(disch:=omega)only[EZ,↓EP,↓reduceIte,Za,Zb,Zc,Zd,Ze,Zf,Zg,Zj,Zk,Zl,Zm,Zn,Zp,Zq,reduceCtorEq,h13,c0,c1,c2,c3,c4,c5,c6,c7]
    refine turn_d _ 34 (by omega) (by omega) _ _ fun m3 => ?_
    simp(disch:=omega)only[EZ,↓EP,↓reduceIte,Za,Zb,Zc,Zd,Ze,Zf,Zg,Zj,Zk,Zl,Zm,Zn,Zp,Zq,reduceCtorEq,h13,c0,c1,c2,c3,c4,c5,c6,c7]
    refine turn_d _ 39 (by omega) (by omega) _ _ fun m4 => ?_
    simp(disch:=omega)only[EZ,↓EP,↓reduceIte,Za,Zb,Zc,Zd,Ze,Zf,Zg,Zj,Zk,Zl,Zm,Zn,Zp,Zq,reduceCtorEq,h13,c0,c1,c2,c3,c4,c5,c6,c7]
    refine fin _ _ _ _ ?_ ?_ (by simp(disch:=omega)only[EZ,↓EP,↓reduceIte,Za,Zb,Zc,Zd,Ze,Zf,Zg,Zj,Zk,Zl,Zm,Zn,Zp,Zq,reduceCtorEq,h13,Int.natCast_add]) (by simp(disch:=omega)only[EZ,↓EP,↓reduceIte,Za,Zb,Zc,Zd,Ze,Zf,Zg,Zj,Zk,Zl,Zm,Zn,Zp,Zq,reduceCtorEq]; rfl) (by simp(disch:=omega)only[EZ,↓EP,↓reduceIte,Za,Zb,Zc,Zd,Ze,Zf,Zg,Zj,Zk,Zl,Zm,Zn,Zp,Zq,reduceCtorEq,c0]) (by simp(disch:=omega)only[EZ,↓EP,↓reduceIte,Za,Zb,Zc,Zd,Ze,Zf,Zg,Zj,Zk,Zl,Zm,Zn,Zp,Zq,reduceCtorEq,c1]) (by simp(disch:=omega)only[EZ,↓EP,↓reduceIte,Za,Zb,Zc,Zd,Ze,Zf,Zg,Zj,Zk,Zl,Zm,Zn,Zp,Zq,reduceCtorEq,c2]) (by simp(disch:=omega)only[EZ,↓EP,↓reduceIte,Za,Zb,Zc,Zd,Ze,Zf,Zg,Zj,Zk,Zl,Zm,Zn,Zp,Zq,reduceCtorEq,c3]; rfl) (by simp(disch:=omega)only[EZ,↓EP,↓reduceIte,Za,Zb,Zc,Zd,Ze,Zf,Zg,Zj,Zk,Zl,Zm,Zn,Zp,Zq,reduceCtorEq,c4]) (by simp(disch:=omega)only[EZ,↓EP,↓reduceIte,Za,Zb,Zc,Zd,Ze,Zf,Zg,Zj,Zk,Zl,Zm,Zn,Zp,Zq,reduceCtorEq,c5]) (by simp(disch:=omega)only[EZ,↓EP,↓reduceIte,Za,Zb,Zc,Zd,Ze,Zf,Zg,Zj,Zk,Zl,Zm,Zn,Zp,Zq,reduceCtorEq,c6]) (hK7.drewN _) (hS7.drewN _) (hW7.drewN _) (below_drewN' b7 _)
    ·rw[wideX,hx,not_u64,chx64]
     rfl
    ·rw[wideY,majx64]
     rfl
   ·have hkR' : k = 80 := by omega
    subst hkR'
    clear hN7
    have g : ∀ i : Nat, i < 8 → w7.cell? ⟨sb, i, none⟩ = some (.int .u64 (at' (runW s M j) (i : Int))) := fun i hi => hS7.numN (j := i) (by omega)
    have a0 := g 0 (by omega)
    have a1 := g 1 (by omega)
    have a2 := g 2 (by omega)
    have a3 := g 3 (by omega)
    have a4 := g 4 (by omega)
    have a5 := g 5 (by omega)
    have a6 := g 6 (by omega)
    have a7 := g 7 (by omega)
    clear g
    simp(disch:=omega)only[EZ,↓EP,↓reduceIte,Za,Zb,Zc,Zd,Ze,Zf,Zg,Zj,Zk,Zl,Zm,Zn,Zp,Zq,reduceCtorEq,h13,y0,yS,yA,yW,c0,c1,c2,c3,c4,c5,c6,c7,a0,a1,a2,a3,a4,a5,a6,a7]
    refine ⟨_, fill8 _ _ _ _ _ _ _ _ _, ?_⟩
    simp(disch:=omega)only[EZ,↓EP,↓reduceIte,Za,Zb,Zc,Zd,Ze,Zf,Zg,Zj,Zk,Zl,Zm,Zn,Zp,Zq,reduceCtorEq,y0,yS,yA]
    refine st_whole hS7 (by rw[nums_length]; rfl) (by rw[nums_length,hH8]) (nums_one _ _) fun w8 p8 => ?_
    simp(disch:=omega)only[EZ,↓EP,↓reduceIte,Za,Zb,Zc,Zd,Ze,Zf,Zg,Zj,Zk,Zl,Zm,Zn,Zp,Zq,reduceCtorEq,yA]
    refine hN (M.length - 128 * (j + 1)) _ _ (by omega) ⟨j + 1, by simp(disch:=omega)only[EZ,↓EP,↓reduceIte,Za,Zb,Zc,Zd,Ze,Zf,Zg,Zj,Zk,Zl,Zm,Zn,Zp,Zq,reduceCtorEq,yA]; congr 1, by omega, rfl, p8.keep (by omega) hK7, ?_, ?_⟩
    ·have e := runW_succ s M j
     rw[hpp] at e
     rw[e,wide,wide_all _ _ hH8 (by rw [hst]; exact hsl),hst]
     exact p8.blk
    ·exact esb ▸ p8.below (by omega) b7
 ·have hje : M.length / 128 = j := by omega
  simp(disch:=omega)only[EZ,↓EP,↓reduceIte,Za,Zb,Zc,Zd,Ze,Zf,Zg,Zj,Zk,Zl,Zm,Zn,Zp,Zq,reduceCtorEq,h4,r0,rS]
  clear hN
  rw[hje] at hK
  have hH8 : (runW s M j).length = 8 := runW_len s M hs j
  have f3 : Fr w w3 nob := fr_of b3 esb
  refine loop_inv (fun t ρ w' => ∃ (i : Nat) (O : Value), ρ 24 = .int .i64 i ∧ ρ 23 = O ∧ i ≤ 8 ∧ t = 8 - i ∧ Gw .u8 w3 w' O ((List.range i).flatMap fun (i : Nat) => v8 (at' (runW s M j) (i : Int)))) 8 ⟨0, .slice none 0 0, by simp(disch:=omega)only[EZ,↓EP,↓reduceIte,Za,Zb,Zc,Zd,Ze,Zf,Zg,Zj,Zk,Zl,Zm,Zn,Zp,Zq,reduceCtorEq], by simp(disch:=omega)only[EZ,↓EP,↓reduceIte,Za,Zb,Zc,Zd,Ze,Zf,Zg,Zj,Zk,Zl,Zm,Zn,Zp,Zq,reduceCtorEq], by omega, by omega, Gw.nil _ _⟩ ?_
  rintro t ρ8 w8 hf ⟨i, O, h18, h17, hi, rfl, G⟩ N hN
  have q3 : ρ8 3 = .pointer (some ⟨sb, 0, none⟩) := by rw[hf 3 rfl]; simp(disch:=omega)only[EZ,↓EP,↓reduceIte,Za,Zb,Zc,Zd,Ze,Zf,Zg,Zj,Zk,Zl,Zm,Zn,Zp,Zq,reduceCtorEq,rS]
  clear hf
  have hgl := flat_len (f := fun (i : Nat) => v8 (at' (runW s M j) (i : Int))) (n := 8) (fun _ => by simp[v8]) i
  by_cases hi5 : (i : Int) < 8
  ·simp(disch:=omega)only[EZ,↓EP,↓reduceIte,Za,Zb,Zc,Zd,Ze,Zf,Zg,Zj,Zk,Zl,Zm,Zn,Zp,Zq,reduceCtorEq,h18,h17,q3]
   refine loop_inv (fun t ρ w' => ∃ (k : Nat) (O : Value), ρ 25 = .int .i64 (56 - 8 * (k : Int)) ∧ ρ 23 = O ∧ k ≤ 8 ∧ t = 8 - k ∧ Gw .u8 w3 w' O (((List.range i).flatMap fun (i : Nat) => v8 (at' (runW s M j) (i : Int))) ++ (List.range k).map fun k => IntKind.u8.wrap ((at' (runW s M j) (i : Int)).fdiv (2 ^ (56 - 8 * k))))) 8 ⟨0, O, by simp(disch:=omega)only[EZ,↓EP,↓reduceIte,Za,Zb,Zc,Zd,Ze,Zf,Zg,Zj,Zk,Zl,Zm,Zn,Zp,Zq,reduceCtorEq], by simp(disch:=omega)only[EZ,↓EP,↓reduceIte,Za,Zb,Zc,Zd,Ze,Zf,Zg,Zj,Zk,Zl,Zm,Zn,Zp,Zq,reduceCtorEq,h17], by omega, by omega, by simpa using G⟩ ?_
   clear G
   rintro t ρ9 w9 hf ⟨k, O', h25, h23, hk, rfl, G⟩ N' hN'
   have u3 : ρ9 3 = .pointer (some ⟨sb, 0, none⟩) := by rw[hf 3 rfl]; simp(disch:=omega)only[EZ,↓EP,↓reduceIte,Za,Zb,Zc,Zd,Ze,Zf,Zg,Zj,Zk,Zl,Zm,Zn,Zp,Zq,reduceCtorEq,q3]
   have u24 : ρ9 24 = .int .i64 i := by rw[hf 24 rfl]; simp(disch:=omega)only[EZ,↓EP,↓reduceIte,Za,Zb,Zc,Zd,Ze,Zf,Zg,Zj,Zk,Zl,Zm,Zn,Zp,Zq,reduceCtorEq,h18]
   clear hf
   by_cases hk8 : (0 : Int) ≤ 56 - 8 * (k : Int)
   ·have hcw : w9.cell? ⟨sb, i, none⟩ = some (.int .u64 (at' (runW s M j) (i : Int))) := (hSb.nb G.fr).numN (j := i) (by omega)
    have e2 : min (56 - 8 * (k : Int)).toNat 64 = 56 - 8 * k := by omega
    simp(disch:=omega)only[EZ,↓EP,↓reduceIte,Za,Zb,Zc,Zd,Ze,Zf,Zg,Zj,Zk,Zl,Zm,Zn,Zp,Zq,reduceCtorEq,h25,h23,u3,u24,hcw,e2]
    refine bsl1 fun w10 n10 => ?_
    have G1 := G.new n10
    simp(disch:=omega)only[EZ,↓EP,↓reduceIte,Za,Zb,Zc,Zd,Ze,Zf,Zg,Zj,Zk,Zl,Zm,Zn,Zp,Zq,reduceCtorEq,h23]
    refine app_num G1.sl rfl n10.rdl (by rw[List.length_append,hgl]; simp only[List.length_cons,List.length_nil,List.length_map,List.length_range]; omega) (by omega) fun v11 w11 a11 => ?_
    have G2 := G1.apd a11
    simp(disch:=omega)only[EZ,↓EP,↓reduceIte,Za,Zb,Zc,Zd,Ze,Zf,Zg,Zj,Zk,Zl,Zm,Zn,Zp,Zq,reduceCtorEq,h25]
    refine hN' (8 - (k + 1)) _ _ (by omega) ⟨k + 1, v11, by simp(disch:=omega)only[EZ,↓EP,↓reduceIte,Za,Zb,Zc,Zd,Ze,Zf,Zg,Zj,Zk,Zl,Zm,Zn,Zp,Zq,reduceCtorEq,h25]; congr 1; omega, by simp(disch:=omega)only[EZ,↓EP,↓reduceIte,Za,Zb,Zc,Zd,Ze,Zf,Zg,Zj,Zk,Zl,Zm,Zn,Zp,Zq,reduceCtorEq], by omega, rfl, ?_⟩
    rw[map_succ,← List.append_assoc]
    exact G2
   ·have hke : k = 8 := by omega
    subst hke
    simp(disch:=omega)only[EZ,↓EP,↓reduceIte,Za,Zb,Zc,Zd,Ze,Zf,Zg,Zj,Zk,Zl,Zm,Zn,Zp,Zq,reduceCtorEq,h25,h23,u24]
    refine hN (8 - (i + 1)) _ _ (by omega) ⟨i + 1, O', by simp(disch:=omega)only[EZ,↓EP,↓reduceIte,Za,Zb,Zc,Zd,Ze,Zf,Zg,Zj,Zk,Zl,Zm,Zn,Zp,Zq,reduceCtorEq,u24,Int.natCast_add], by simp(disch:=omega)only[EZ,↓EP,↓reduceIte,Za,Zb,Zc,Zd,Ze,Zf,Zg,Zj,Zk,Zl,Zm,Zn,Zp,Zq,reduceCtorEq,h23], by omega, rfl, ?_⟩
    rw[flat_succ]
    exact G
  ·have hie : i = 8 := by omega
   subst hie
   simp(disch:=omega)only[EZ,↓EP,↓reduceIte,Za,Zb,Zc,Zd,Ze,Zf,Zg,Zj,Zk,Zl,Zm,Zn,Zp,Zq,reduceCtorEq,h18,h17]
   exact hK O w8 (G.from f3)
end Go.Proofs.YtcgplgpdcfocpaaGreatDoor.Spec
end
section
namespace Go.Proofs.YtcgplgpdcfocpaaGreatDoor.Spec
open Go Go.RowKit Go.Proofs Go.Proofs.YtcgplgpdcfocpaaGreatDoor.Eng Go.Proofs.YtcgplgpdcfocpaaGreatDoor.Code
attribute [local irreducible] callK S.W opsW scrW one
theorem part_skip {bs q : Nat} {P T : List Int} (hP : P.length = q * bs) (j : Nat) : part bs (P ++ T) (q + j) = part bs T j := by
 unfold part
 rw[Nat.add_mul,← hP,← List.drop_drop,List.drop_left]
theorem runN_skip {alg : Int} {q : Nat} {P T : List Int} (hP : P.length = q * blockI alg) : ∀ j, runN alg (P ++ T) (q + j) = rounds (fun j s => mix alg s (part (blockI alg) T j)) j (runN alg P q)
 | 0 => by rw[Nat.add_zero,runN_app (by omega)]; rfl
 | j + 1 => by
  rw[← Nat.add_assoc,runN_succ,runN_skip hP j,rounds,part_skip hP]
theorem fill_tail {alg : Int} (a1 : 1 ≤ alg) (a4 : alg ≤ 4) (m : List Int) : fillF (blockI alg) m = m.take (m.length / blockI alg * blockI alg) ++ tailF alg m := by
 have hl : (rest alg m).length = m.length % blockI alg := by
  rw[rest_len a1 a4]
  have := Nat.div_add_mod m.length (blockI alg)
  rw[Nat.mul_comm] at this
  omega
 rw[tailF,hl,fillF,zT,rest]
 simp only[← List.append_assoc,List.take_append_drop,← List.replicate_append_replicate]
theorem last_fill {alg : Int} (a1 : 1 ≤ alg) (a4 : alg ≤ 4) (m : List Int) : last alg m = runN alg (fillF (blockI alg) m) ((fillF (blockI alg) m).length / blockI alg) := by
 obtain ⟨d1, d2⟩ := div_facts a1 a4 m
 have hb := blockI_or a1 a4
 have hP : (m.take (m.length / blockI alg * blockI alg)).length = m.length / blockI alg * blockI alg := by simp; omega
 have hlen : (fillF (blockI alg) m).length / blockI alg = m.length / blockI alg + (tailF alg m).length / blockI alg := by
  rw[fill_tail a1 a4,List.length_append,hP,Nat.add_comm,Nat.add_mul_div_right _ _ (by omega),Nat.add_comm]
 rw[hlen,fill_tail a1 a4,runN_skip hP,last]
 have e : runN alg (m.take (m.length / blockI alg * blockI alg)) (m.length / blockI alg) = run alg m := by
  have h := runN_app (alg := alg) (m := m.take (m.length / blockI alg * blockI alg)) (p := m.drop (m.length / blockI alg * blockI alg)) (j := m.length / blockI alg) (by omega)
  rw[List.take_append_drop] at h
  rw[← h]; rfl
 rw[e]
theorem runN_wide {alg : Int} (h : alg = 3 ∨ alg = 4) (M : List Int) : ∀ j, (runN alg M j).2 = runW (st0 alg).2 M j
 | 0 => rfl
 | j + 1 => by
  have e : blockI alg = 128 := by rcases h with rfl | rfl <;> rfl
  rw[runN_succ,runW_succ,← runN_wide h M j,mix,if_neg (by omega),if_neg (by omega),e]
theorem byteL_fill {bs : Nat} {m : List Int} (h : ∀ x ∈ m, 0 ≤ x ∧ x < 256) : byteL (fillF bs m) := by
 have h' : ∀ x ∈ fillF bs m, 0 ≤ x ∧ x < 256 := by
  intro x hx
  simp only[fillF,List.mem_append,List.mem_map,List.mem_replicate,List.mem_cons,List.not_mem_nil,or_false] at hx
  rcases hx with ((hx | rfl) | hx) | ⟨i, _, rfl⟩
  ·exact h x hx
  ·omega
  ·omega
  ·unfold lenB; rw[wu8_mod]; omega
 intro i
 rw[at_nat',List.getD_eq_getElem?_getD]
 cases e : (fillF bs m)[i]? with
 | none => simp
 | some x => exact h' x (List.mem_of_getElem? e)
theorem flat_head (f : Nat → List Int) {n : Nat} (h : ∀ i, (f i).length = n) {a : Nat} (b : Nat) : ((List.range (a + b)).flatMap f).take (a * n) = (List.range a).flatMap f := by
 induction b with
 | zero => rw[Nat.add_zero,List.take_of_length_le (by rw [flat_len h]; omega)]
 | succ b ih =>
  rw[← Nat.add_assoc,flat_succ,List.take_append_of_le_length (by rw [flat_len h,Nat.add_mul]; omega),ih]
set_option maxHeartbeats 1000000 in
theorem rdigest_vw {w : World} {v : Value} {m : List Int} {alg : Int} (a1 : 1 ≤ alg) (a4 : alg ≤ 4) (hv : Vw .u8 w v m) (hm : m.length ≤ 16777216) (hb : ∀ x ∈ m, 0 ≤ x ∧ x < 256) (K : Value → World → Prop)
  (hK : ∀ v' w', Gw .u8 w w' v' (dig alg m) → K v' w') : callK Tryz.prog 16 [.int .i64 alg, v] w K := by
 refine call_of Tryz.func16 Code.h16 (by simp[Code.c16]) ?_
 have hl := last_fill a1 a4 m
 have hF := fill_len (blockI_or a1 a4) m
 have hbl := byteL_fill (bs := blockI alg) hb
 have c : alg = 1 ∨ alg = 2 ∨ alg = 3 ∨ alg = 4 := by omega
 rcases c with rfl | rfl | rfl | rfl
 ·rw[show blockI 1 = 64 by rfl] at hF hbl
  simp(disch:=omega)only[EZ,↓EP,↓reduceIte,Za,Zb,Zc,Zd,Ze,Zf,Zg,Zj,Zk,Zl,Zm,Zn,Zp,Zq,reduceCtorEq,W_join,Code.c16]
  refine filled_vw (bs := 64) hv (.inl rfl) hm _ fun v1 w1 g1 => ?_
  simp(disch:=omega)only[EZ,↓EP,↓reduceIte,Za,Zb,Zc,Zd,Ze,Zf,Zg,Zj,Zk,Zl,Zm,Zn,Zp,Zq,reduceCtorEq]
  refine sha1_vw g1.vw hF.1 (by omega) hbl _ fun v2 w2 g2 => ?_
  simp(disch:=omega)only[EZ,↓EP,↓reduceIte,Za,Zb,Zc,Zd,Ze,Zf,Zg,Zj,Zk,Zl,Zm,Zn,Zp,Zq,reduceCtorEq]
  refine hK v2 w2 ?_
  have e : dig 1 m = (List.range 5).flatMap fun (i : Nat) => w4 (at' (runN 1 (fillF 64 m) ((fillF 64 m).length / 64)).1 (i : Int)) := by
   rw[dig,hl,outF,if_pos (by rfl)]
   exact flat_head (fun (i : Nat) => w4 (at' (runN 1 (fillF 64 m) ((fillF 64 m).length / 64)).1 (i : Int))) (n := 4) (fun _ => rfl) (a := 5) 3
  rw[e]
  exact g2.from g1.fr
 ·rw[show blockI 2 = 64 by rfl] at hF hbl
  simp(disch:=omega)only[EZ,↓EP,↓reduceIte,Za,Zb,Zc,Zd,Ze,Zf,Zg,Zj,Zk,Zl,Zm,Zn,Zp,Zq,reduceCtorEq,W_join,Code.c16]
  refine filled_vw (bs := 64) hv (.inl rfl) hm _ fun v1 w1 g1 => ?_
  simp(disch:=omega)only[EZ,↓EP,↓reduceIte,Za,Zb,Zc,Zd,Ze,Zf,Zg,Zj,Zk,Zl,Zm,Zn,Zp,Zq,reduceCtorEq]
  refine sha256_vw g1.vw hF.1 (by omega) hbl _ fun v2 w2 g2 => ?_
  simp(disch:=omega)only[EZ,↓EP,↓reduceIte,Za,Zb,Zc,Zd,Ze,Zf,Zg,Zj,Zk,Zl,Zm,Zn,Zp,Zq,reduceCtorEq]
  refine hK v2 w2 ?_
  have e : dig 2 m = (List.range 8).flatMap fun (i : Nat) => w4 (at' (runN 2 (fillF 64 m) ((fillF 64 m).length / 64)).1 (i : Int)) := by
   rw[dig,hl,outF,if_pos (by rfl)]
   exact flat_head (fun (i : Nat) => w4 (at' (runN 2 (fillF 64 m) ((fillF 64 m).length / 64)).1 (i : Int))) (n := 4) (fun _ => rfl) (a := 8) 0
  rw[e]
  exact g2.from g1.fr
 ·rw[show blockI 3 = 128 by rfl] at hF hbl
  simp(disch:=omega)only[EZ,↓EP,↓reduceIte,Za,Zb,Zc,Zd,Ze,Zf,Zg,Zj,Zk,Zl,Zm,Zn,Zp,Zq,reduceCtorEq,W_join,Code.c16]
  refine filled_vw (bs := 128) hv (.inr rfl) hm _ fun v1 w1 g1 => ?_
  simp(disch:=omega)only[EZ,↓EP,↓reduceIte,Za,Zb,Zc,Zd,Ze,Zf,Zg,Zj,Zk,Zl,Zm,Zn,Zp,Zq,reduceCtorEq]
  refine ⟨_, fill8 _ _ _ _ _ _ _ _ _, ?_⟩
  simp(disch:=omega)only[EZ,↓EP,↓reduceIte,Za,Zb,Zc,Zd,Ze,Zf,Zg,Zj,Zk,Zl,Zm,Zn,Zp,Zq,reduceCtorEq]
  refine sha512_vw (s := (st0 3).2) g1.vw rfl hF.1 (by omega) hbl _ fun v2 w2 g2 => ?_
  have e : dig 3 m = ((List.range 8).flatMap fun (i : Nat) => v8 (at' (runW (st0 3).2 (fillF 128 m) ((fillF 128 m).length / 128)) (i : Int))).take 48 := by
   rw[dig,hl,outF,if_neg (by decide),runN_wide (.inl rfl)]; rfl
  have hl8 := flat_len (f := fun (i : Nat) => v8 (at' (runW (st0 3).2 (fillF 128 m) ((fillF 128 m).length / 128)) (i : Int))) (n := 8) (fun _ => by simp[v8]) 8
  generalize (List.range 8).flatMap (fun (i : Nat) => v8 (at' (runW (st0 3).2 (fillF 128 m) ((fillF 128 m).length / 128)) (i : Int))) = L at g2 e hl8
  obtain ⟨A2, c2, rfl, hc2, hR2⟩ := readn g2.sl hl8
  simp(disch:=omega)only[EZ,↓EP,↓reduceIte,Za,Zb,Zc,Zd,Ze,Zf,Zg,Zj,Zk,Zl,Zm,Zn,Zp,Zq,reduceCtorEq]
  refine hK _ w2 ?_
  rw[e]
  exact ⟨g2.sl.cut (by omega) (by omega), fun b h => Nat.le_trans g1.fr.size (g2.up b (by cases A2 with | none => cases h | some p => exact h)), g1.fr.nb g2.fr⟩
 ·rw[show blockI 4 = 128 by rfl] at hF hbl
  simp(disch:=omega)only[EZ,↓EP,↓reduceIte,Za,Zb,Zc,Zd,Ze,Zf,Zg,Zj,Zk,Zl,Zm,Zn,Zp,Zq,reduceCtorEq,W_join,Code.c16]
  refine filled_vw (bs := 128) hv (.inr rfl) hm _ fun v1 w1 g1 => ?_
  simp(disch:=omega)only[EZ,↓EP,↓reduceIte,Za,Zb,Zc,Zd,Ze,Zf,Zg,Zj,Zk,Zl,Zm,Zn,Zp,Zq,reduceCtorEq]
  refine ⟨_, fill8 _ _ _ _ _ _ _ _ _, ?_⟩
  simp(disch:=omega)only[EZ,↓EP,↓reduceIte,Za,Zb,Zc,Zd,Ze,Zf,Zg,Zj,Zk,Zl,Zm,Zn,Zp,Zq,reduceCtorEq]
  refine sha512_vw (s := (st0 4).2) g1.vw rfl hF.1 (by omega) hbl _ fun v2 w2 g2 => ?_
  simp(disch:=omega)only[EZ,↓EP,↓reduceIte,Za,Zb,Zc,Zd,Ze,Zf,Zg,Zj,Zk,Zl,Zm,Zn,Zp,Zq,reduceCtorEq]
  refine hK v2 w2 ?_
  have e : dig 4 m = (List.range 8).flatMap fun (i : Nat) => v8 (at' (runW (st0 4).2 (fillF 128 m) ((fillF 128 m).length / 128)) (i : Int)) := by
   rw[dig,hl,outF,if_neg (by decide),runN_wide (.inr rfl)]
   exact flat_head (fun (i : Nat) => v8 (at' (runW (st0 4).2 (fillF 128 m) ((fillF 128 m).length / 128)) (i : Int))) (n := 8) (fun _ => by simp[v8]) (a := 8) 0
  rw[e]
  exact g2.from g1.fr
end Go.Proofs.YtcgplgpdcfocpaaGreatDoor.Spec
end
section
namespace Go.Proofs.YtcgplgpdcfocpaaGreatDoor.Spec
open Go Go.RowKit Go.Proofs Go.Proofs.YtcgplgpdcfocpaaGreatDoor.Eng Go.Proofs.YtcgplgpdcfocpaaGreatDoor.Code
attribute [local irreducible] callK S.W opsW scrW dig
theorem fill4m (a0 a1 a2 a3 : Int) : fillL [(0, 1), (1, 1), (2, 1), (3, 1)] (Array.replicate 4 (Value.int .i64 0)) [(0, .int .i64 a0), (1, .int .i64 a1), (2, .int .i64 a2), (3, .int .i64 a3)] = some (nums .i64 [a0, a1, a2, a3]).toArray := by kernel_rfl
theorem rsize_k (alg : Int) (w : World) (K : Value → World → Prop) (hK : K (.int .i64 (sizeI alg)) w) : callK Tryz.prog 14 [.int .i64 alg] w K := by
 refine call_of Tryz.func14 Code.h14 (by simp[Code.c14]) ?_
 unfold sizeI at hK
 have c : alg = 1 ∨ alg = 2 ∨ alg = 3 ∨ alg = 4 ∨ alg < 1 ∨ 4 < alg := by omega
 rcases c with rfl | rfl | rfl | rfl | c | c
 ·simp(disch:=omega)only[EZ,↓EP,↓reduceIte,Za,Zb,Zc,Zd,Ze,Zf,Zg,Zj,Zk,Zl,Zm,Zn,Zp,Zq,reduceCtorEq,Code.c14]
  refine ⟨_, fill4m _ _ _ _, ?_⟩
  simp(disch:=omega)only[EZ,↓EP,↓reduceIte,Za,Zb,Zc,Zd,Ze,Zf,Zg,Zj,Zk,Zl,Zm,Zn,Zp,Zq,reduceCtorEq]
  refine ⟨_, rfl, ?_⟩
  simp(disch:=omega)only[EZ,↓EP,↓reduceIte,Za,Zb,Zc,Zd,Ze,Zf,Zg,Zj,Zk,Zl,Zm,Zn,Zp,Zq,reduceCtorEq]
  exact hK
 ·simp(disch:=omega)only[EZ,↓EP,↓reduceIte,Za,Zb,Zc,Zd,Ze,Zf,Zg,Zj,Zk,Zl,Zm,Zn,Zp,Zq,reduceCtorEq,Code.c14]
  refine ⟨_, fill4m _ _ _ _, ?_⟩
  simp(disch:=omega)only[EZ,↓EP,↓reduceIte,Za,Zb,Zc,Zd,Ze,Zf,Zg,Zj,Zk,Zl,Zm,Zn,Zp,Zq,reduceCtorEq]
  refine ⟨_, rfl, ?_⟩
  simp(disch:=omega)only[EZ,↓EP,↓reduceIte,Za,Zb,Zc,Zd,Ze,Zf,Zg,Zj,Zk,Zl,Zm,Zn,Zp,Zq,reduceCtorEq]
  exact hK
 ·simp(disch:=omega)only[EZ,↓EP,↓reduceIte,Za,Zb,Zc,Zd,Ze,Zf,Zg,Zj,Zk,Zl,Zm,Zn,Zp,Zq,reduceCtorEq,Code.c14]
  refine ⟨_, fill4m _ _ _ _, ?_⟩
  simp(disch:=omega)only[EZ,↓EP,↓reduceIte,Za,Zb,Zc,Zd,Ze,Zf,Zg,Zj,Zk,Zl,Zm,Zn,Zp,Zq,reduceCtorEq]
  refine ⟨_, rfl, ?_⟩
  simp(disch:=omega)only[EZ,↓EP,↓reduceIte,Za,Zb,Zc,Zd,Ze,Zf,Zg,Zj,Zk,Zl,Zm,Zn,Zp,Zq,reduceCtorEq]
  exact hK
 ·simp(disch:=omega)only[EZ,↓EP,↓reduceIte,Za,Zb,Zc,Zd,Ze,Zf,Zg,Zj,Zk,Zl,Zm,Zn,Zp,Zq,reduceCtorEq,Code.c14]
  refine ⟨_, fill4m _ _ _ _, ?_⟩
  simp(disch:=omega)only[EZ,↓EP,↓reduceIte,Za,Zb,Zc,Zd,Ze,Zf,Zg,Zj,Zk,Zl,Zm,Zn,Zp,Zq,reduceCtorEq]
  refine ⟨_, rfl, ?_⟩
  simp(disch:=omega)only[EZ,↓EP,↓reduceIte,Za,Zb,Zc,Zd,Ze,Zf,Zg,Zj,Zk,Zl,Zm,Zn,Zp,Zq,reduceCtorEq]
  exact hK
 ·simp(disch:=omega)only[EZ,↓EP,↓reduceIte,Za,Zb,Zc,Zd,Ze,Zf,Zg,Zj,Zk,Zl,Zm,Zn,Zp,Zq,reduceCtorEq,Code.c14]
  rwa [if_neg (by omega), if_neg (by omega), if_neg (by omega), if_neg (by omega)] at hK
 ·simp(disch:=omega)only[EZ,↓EP,↓reduceIte,Za,Zb,Zc,Zd,Ze,Zf,Zg,Zj,Zk,Zl,Zm,Zn,Zp,Zq,reduceCtorEq,Code.c14]
  rwa [if_neg (by omega), if_neg (by omega), if_neg (by omega), if_neg (by omega)] at hK
end Go.Proofs.YtcgplgpdcfocpaaGreatDoor.Spec
end
section
namespace Go.Proofs.YtcgplgpdcfocpaaGreatDoor.Spec
open Go Go.RowKit Go.Proofs Go.Proofs.YtcgplgpdcfocpaaGreatDoor.Eng Go.Proofs.YtcgplgpdcfocpaaGreatDoor.Code
attribute [local irreducible] callK S.W opsW scrW dig
def mkAsg : S := .ops [⟨some 9, none, .mv (.tmp 24)⟩]
def mkBody : S := .block 1
  (.seq (.seq (.ops [⟨some 25, none, .ld .slice (.tmp 8)⟩,
   ⟨some 26, none, .len (.tmp 25)⟩,
   ⟨some 27, none, .ld (.int .i64) (.tmp 5)⟩,
   ⟨some 28, none, .bin .geq (.tmp 26) (.tmp 27)⟩])
  (.cond (.tmp 28)
   (.exit 0)
   .skip))
  (.ops [⟨some 29, none, .ld .slice (.tmp 8)⟩,
   ⟨some 30, none, .mv (.tmp 9)⟩,
   ⟨some 31, none, .app 5 1 1 #[(.int .u8 0)] (.tmp 29) (.tmp 30)⟩,
   ⟨none, none, .st 1 (.tmp 8) (.tmp 31)⟩]))
theorem mask_form : ∃ (A0 A1 A2 A3 A4 As Bd : Code), Tryz.f22.body = some (.seq A0 (.seq A1 (.seq A2 (.seq (.seq A3 (.block 0 (.rangeFunc (.tmp 23) #[24] As Bd))) A4)))) ∧
  strS Tryz.prog 36 [] A0 = some (.ops [⟨some 5, none, .box 3 (.tmp 2)⟩, ⟨some 6, none, .mv (.const (.slice none 0 0))⟩, ⟨some 7, none, .mv (.const (.int .i64 0))⟩]) ∧
  strS Tryz.prog 36 [] A1 = some (.seq (.ops [⟨some 10, none, .mv (.tmp 0)⟩,
 ⟨some 11, none, .call 37 [(.tmp 10)]⟩,
 ⟨some 12, none, .bin .eql (.tmp 11) (.const (.int .i64 0))⟩,
 ⟨some 13, none, .mv (.tmp 12)⟩,
 ⟨some 14, some (13, false), .ld (.int .i64) (.tmp 5)⟩,
 ⟨some 15, some (13, false), .bin .lss (.tmp 14) (.const (.int .i64 0))⟩,
 ⟨some 16, none, .pick (.tmp 13) (.const (.bool true)) (.tmp 15)⟩,
 ⟨some 17, none, .mv (.tmp 16)⟩,
 ⟨some 18, some (17, false), .ld (.int .i64) (.tmp 5)⟩,
 ⟨some 19, some (17, false), .bin .gtr (.tmp 18) (.const (.int .i64 2048))⟩,
 ⟨some 20, none, .pick (.tmp 17) (.const (.bool true)) (.tmp 19)⟩])
(.cond (.tmp 20)
 (.seq (.ops [⟨some 6, none, .mv (.const (.slice none 0 0))⟩,
  ⟨some 7, none, .mv (.const (.int .i64 1))⟩])
 .ret)
 .skip)) ∧
  strS Tryz.prog 36 [] A2 = some (.ops [⟨some 8, none, .alloc 25 (.slice none 0 0)⟩]) ∧
  strS Tryz.prog 36 [] A3 = some (.ops [⟨some 21, none, .mv (.tmp 0)⟩, ⟨some 22, none, .mv (.tmp 1)⟩, ⟨some 23, none, .call 43 [(.tmp 21), (.tmp 22)]⟩]) ∧
  strS Tryz.prog 36 [] As = some mkAsg ∧ strS Tryz.prog 36 [] Bd = some mkBody ∧
  strS Tryz.prog 36 [] A4 = some (.seq (.ops [⟨some 32, none, .ld .slice (.tmp 8)⟩,
 ⟨some 33, none, .ld (.int .i64) (.tmp 5)⟩,
 ⟨some 34, none, .ld (.int .i64) (.tmp 5)⟩,
 ⟨some 35, none, .slc 1 (.tmp 32) none (some (.tmp 33)) (some (.tmp 34))⟩,
 ⟨some 6, none, .mv (.tmp 35)⟩,
 ⟨some 7, none, .mv (.const (.int .i64 0))⟩])
.ret) ∧ plainC As = true ∧ plainC Bd = true := by
 exact ⟨_, _, _, _, _, _, _, rfl, by kernel_rfl, by kernel_rfl, by kernel_rfl, by kernel_rfl, by kernel_rfl, by kernel_rfl, by kernel_rfl, by kernel_rfl, by kernel_rfl⟩
theorem fr_put (w : World) (ib : Nat) (o : Obj) : Fr w (w.putObj ib o) (fun b => b = ib) :=
 ⟨⟨rfl, rfl, rfl, by simp[World.putObj], fun k hk => by omega⟩, fun b _ hb => by
   show (w.heap.setIfInBounds ib o)[b]? = w.heap[b]?
   rw[Array.getElem?_setIfInBounds_ne (fun e => hb e.symm)]⟩
theorem put_at {w : World} {ib : Nat} {o o' : Obj} (h : w.heap[ib]? = some o') : (w.putObj ib o).heap[ib]? = some o := by
 show (w.heap.setIfInBounds ib o)[ib]? = some o
 rw[Array.getElem?_setIfInBounds_self_of_lt (Array.getElem?_eq_some_iff.1 h).1]
theorem ob_fr (w : World) (o : Obj) : Fr w (w.alloc o) nob := by
 have hh : (w.alloc o).heap = w.heap.push o := rfl
 refine ⟨⟨rfl, rfl, rfl, ?_, fun k hk => by omega⟩, fun b hb _ => ?_⟩
 ·rw[hh,Array.size_push]; omega
 ·rw[hh,Array.getElem?_push_lt hb,Array.getElem?_eq_getElem hb]
theorem ob_size (w : World) (o : Obj) : (w.alloc o).heap.size = w.heap.size + 1 := by
 show (w.heap.push o).size = _
 rw[Array.size_push]
theorem ob_at (w : World) (o : Obj) : (w.alloc o).heap[w.heap.size]? = some o := by
 show (w.heap.push o)[w.heap.size]? = some o
 rw[Array.getElem?_push_size]
structure MCore (w0 : World) (alg n : Int) (sv : Value) (W : World) : Prop where
 nb : Blk W w0.heap.size [.int .i64 n]
 ab : Blk W (w0.heap.size + 2) [.int .i64 alg]
 sb : Blk W (w0.heap.size + 3) [sv]
 de : W.heap[w0.heap.size + 4]? = some (.deferred (some []))
 fr : Fr w0 W nob
theorem MCore.step {w0 W W' : World} {alg n : Int} {sv : Value} {P : Nat → Prop} (h : MCore w0 alg n sv W) (f : Fr W W' P) (hP : ∀ x, P x → x = w0.heap.size + 1 ∨ w0.heap.size + 5 ≤ x) : MCore w0 alg n sv W' := by
 have hl := (Array.getElem?_eq_some_iff.1 h.de).1
 refine ⟨h.nb.fr f fun e => ?_, h.ab.fr f fun e => ?_, h.sb.fr f fun e => ?_, ?_, h.fr.trans f fun x hx e => ?_⟩
 ·have := hP _ e; omega
 ·have := hP _ e; omega
 ·have := hP _ e; omega
 ·rw[f.block _ hl fun e => by have := hP _ e; omega]; exact h.de
 ·have := hP _ e; omega
structure MI (w0 : World) (alg n : Int) (seed : List Int) (sv : Value) (rec : Loop) (i : Nat) (W : World) : Prop where
 co : MCore w0 alg n sv W
 re : W.heap[w0.heap.size + 5]? = some (.loop rec)
 out : ∃ v, Blk W (w0.heap.size + 1) [v] ∧ Sl .u8 W v (maskL alg seed i) ∧ ∀ b, blkOf v = some b → w0.heap.size + 6 ≤ b
 bd : ∀ j, i = j + 1 → ((maskL alg seed j).length : Int) < n
structure MX (w0 : World) (alg n : Int) (seed : List Int) (sv : Value) (rec : Loop) (W : World) : Prop where
 co : MCore w0 alg n sv W
 re : W.heap[w0.heap.size + 5]? = some (.loop { rec with state := .done, pending := some (.exit 0) })
 out : ∃ i v, Blk W (w0.heap.size + 1) [v] ∧ Sl .u8 W v (maskL alg seed i) ∧ (∀ b, blkOf v = some b → w0.heap.size + 6 ≤ b) ∧ n ≤ (maskL alg seed i).length
set_option maxHeartbeats 4000000 in
theorem mask_round {w0 : World} {alg n : Int} {seed : List Int} {sv : Value} {fn : FuncId} {T : Array Value} {As Bd : Code} {m i : Nat} (a1 : 1 ≤ alg) (a4 : alg ≤ 4) (hn : n ≤ 2048)
  (hpa : plainC As = true) (hpb : plainC Bd = true) (hsa : strS Tryz.prog 36 [] As = some mkAsg) (hsb : strS Tryz.prog 36 [] Bd = some mkBody)
  (hT : T.size = 36) (t5 : T.getD 5 undef = .pointer (some ⟨w0.heap.size, 0, none⟩)) (t8 : T.getD 8 undef = .pointer (some ⟨w0.heap.size + 1, 0, none⟩))
  {rec : Loop} (hrec : rec = ⟨.ready, none, fn, T, #[24], As, Bd, w0.heap.size + 4⟩)
  {W W' : World} {A : Option Addr} {c : Nat} (h : MI w0 alg n seed sv rec i W) (g : Gw .u8 W W' (.slice A (sizeI alg).toNat c) (blkM alg seed i)) :
  YldAt m Tryz.prog (w0.heap.size + 5) (.slice A (sizeI alg).toNat c) W' fun e W'' => (e = .returned (.bool true) ∧ MI w0 alg n seed sv rec (i + 1) W'') ∨ (e = .returned (.bool false) ∧ MX w0 alg n seed sv rec W'') := by
 have hlt := (Array.getElem?_eq_some_iff.1 h.re).1
 have re1 : W'.heap[w0.heap.size + 5]? = some (.loop rec) := by rw[g.fr.block _ hlt fun e => e.elim]; exact h.re
 have co1 := h.co.step g.fr fun x e => e.elim
 obtain ⟨v, hbv, hsv, huv⟩ := h.out
 have hbv := hbv.fr g.fr fun e => e.elim
 have hsv := hsv.fr g.fr fun _ _ e => e.elim
 have hzz := mk_size a1 a4
 have hgl := g.sl
 have hup := g.up
 obtain ⟨x, hx⟩ : ∃ x, x = Value.slice A (sizeI alg).toNat c := ⟨_, rfl⟩
 rw[← hx] at hgl hup ⊢
 refine ⟨fn, T.setIfInBounds 24 x, As, Bd, ?_, ?_⟩
 ·rw[run_yield (args := #[x]) re1 (by rw [hrec]; rfl)]
  simp[hrec]
 refine round_eng (n := 36) hpa hpb hsa hsb (by simpa using hT) ?_
 obtain ⟨ρ, hρ⟩ : ∃ ρ : Env, ρ = fun t => (T.setIfInBounds 24 x).getD t undef := ⟨_, rfl⟩
 have e5 : ρ 5 = .pointer (some ⟨w0.heap.size, 0, none⟩) := by rw[hρ,← t5]; simp[Array.getD_eq_getD_getElem?,Array.getElem?_setIfInBounds_ne]
 have e8 : ρ 8 = .pointer (some ⟨w0.heap.size + 1, 0, none⟩) := by rw[hρ,← t8]; simp[Array.getD_eq_getD_getElem?,Array.getElem?_setIfInBounds_ne]
 have e24 : ρ 24 = x := by rw[hρ]; simp[Array.getD_eq_getD_getElem?,hT]
 rw[← hρ]
 have fb := fr_put W' (w0.heap.size + 5) (.loop { rec with state := .busy })
 have re2 := put_at (o := .loop { rec with state := .busy }) re1
 have co2 := co1.step fb fun x e => by omega
 have hbv2 := hbv.fr fb (by omega)
 have hsv2 := hsv.fr fb fun b e => by have := huv b e; omega
 have hgl2 := hgl.fr fb fun b e => by have := hup b e; omega
 obtain ⟨KK, hKK⟩ : ∃ KK : Exit → Env → World → Prop, KK = fun e ρ w₁ => e = .normal ∧ ∃ r, w₁.heap[w0.heap.size + 5]? = some (.loop r) ∧ r.state = .ready ∧ mkBody.W Tryz.prog (rndK (w0.heap.size + 5) fun e W'' => (e = .returned (.bool true) ∧ MI w0 alg n seed sv rec (i + 1) W'') ∨ (e = .returned (.bool false) ∧ MX w0 alg n seed sv rec W'')) ρ (w₁.putObj (w0.heap.size + 5) (.loop { r with state := .busy })) := ⟨_, rfl⟩
 rw[← hKK]
 suffices hs : ∀ ρ' : Env, ρ' 5 = ρ 5 → ρ' 8 = ρ 8 → ρ' 9 = x → KK .normal ρ' W' by
  simp(disch:=omega)only[Zu,Zv,Zx,Zz,EZ,↓EP,↓reduceIte,Za,Zb,Zc,Zd,Ze,Zf,Zg,Zj,Zk,Zl,Zm,Zn,Zp,Zq,reduceCtorEq,mkAsg,e24]
  refine hs _ ?_ ?_ ?_
  ·simp(disch:=omega)only[Zu,Zv,Zx,Zz,EZ,↓EP,↓reduceIte,Za,Zb,Zc,Zd,Ze,Zf,Zg,Zj,Zk,Zl,Zm,Zn,Zp,Zq,reduceCtorEq]
  ·simp(disch:=omega)only[Zu,Zv,Zx,Zz,EZ,↓EP,↓reduceIte,Za,Zb,Zc,Zd,Ze,Zf,Zg,Zj,Zk,Zl,Zm,Zn,Zp,Zq,reduceCtorEq]
  ·simp(disch:=omega)only[Zu,Zv,Zx,Zz,EZ,↓EP,↓reduceIte,Za,Zb,Zc,Zd,Ze,Zf,Zg,Zj,Zk,Zl,Zm,Zn,Zp,Zq,reduceCtorEq]
 intro ρ' q5 q8 q9
 rw[hKK]
 refine ⟨rfl, rec, re1, by rw[hrec], ?_⟩
 rw[e5] at q5
 rw[e8] at q8
 generalize hW2 : W'.putObj (w0.heap.size + 5) (.loop { rec with state := .busy }) = W2 at *
 have k5 : W2.cell? ⟨w0.heap.size, 0, none⟩ = some (.int .i64 n) := co2.nb.has 0 _ rfl
 have k8 : W2.cell? ⟨w0.heap.size + 1, 0, none⟩ = some v := hbv2.has 0 _ rfl
 obtain ⟨B, d, rfl, hd, hrB, _⟩ := hsv2.read
 obtain ⟨A', c', hx', _, hr', _⟩ := hgl2.read
 by_cases hq : n ≤ ((maskL alg seed i).length : Int)
 ·simp(disch:=omega)only[Zu,Zv,Zx,Zz,EZ,↓EP,↓reduceIte,Za,Zb,Zc,Zd,Ze,Zf,Zg,Zj,Zk,Zl,Zm,Zn,Zp,Zq,reduceCtorEq,mkBody,q5,q8,q9,k5,k8,hq]
  have er : ({ { rec with state := .busy } with state := .done, pending := some (.exit 0) } : Loop) = { rec with state := .done, pending := some (.exit 0) } := rfl
  have f3 := fr_put W2 (w0.heap.size + 5) (.loop { rec with state := .done, pending := some (.exit 0) })
  refine ⟨_, re2, .inr ⟨rfl, ?_⟩⟩
  exact ⟨co2.step f3 fun b e => by omega, put_at re2, i, _, hbv2.fr f3 (by omega), hsv2.fr f3 fun b e => (by have := huv b e; omega), huv, hq⟩
 ·simp(disch:=omega)only[Zu,Zv,Zx,Zz,EZ,↓EP,↓reduceIte,Za,Zb,Zc,Zd,Ze,Zf,Zg,Zj,Zk,Zl,Zm,Zn,Zp,Zq,reduceCtorEq,mkBody,q5,q8,q9,k5,k8,hq]
  subst hx'
  have hl : ((maskL alg seed i).length : Int) < n := by omega
  have hln := dig_len a1 a4 (seed ++ be4 i)
  have hln : (blkM alg seed i).length = (sizeI alg).toNat := hln
  refine app_num hsv2 rfl hr' (by omega) (by decide) fun v' w3 ap => ?_
  have hbv3 := hbv2.fr ap.fr fun e => by have := huv _ e; omega
  have re3 := ap.fr.block _ (Array.getElem?_eq_some_iff.1 re2).1 fun e => by have := huv _ e; omega
  rw[re2] at re3
  have co3 := co2.step ap.fr fun b e => by have := huv _ e; omega
  have hz3 := ap.fr.size
  have hW2s : w0.heap.size + 5 < W2.heap.size := (Array.getElem?_eq_some_iff.1 re2).1
  have huv3 : ∀ b, blkOf v' = some b → w0.heap.size + 6 ≤ b := fun b e => by
   rcases ap.where_ with h | h
   ·exact huv b (h ▸ e)
   ·have := h b e; omega
  have hv1 : v'.oneCell' = true := by
   obtain ⟨_, _, e, _⟩ := ap.sl.read
   rw[e]; rfl
  simp(disch:=omega)only[Zu,Zv,Zx,Zz,EZ,↓EP,↓reduceIte,Za,Zb,Zc,Zd,Ze,Zf,Zg,Zj,Zk,Zl,Zm,Zn,Zp,Zq,reduceCtorEq,q8]
  refine st_one hbv3 (by simp) hv1 fun w4 p4 => ?_
  simp(disch:=omega)only[Zu,Zv,Zx,Zz,EZ,↓EP,↓reduceIte,Za,Zb,Zc,Zd,Ze,Zf,Zg,Zj,Zk,Zl,Zm,Zn,Zp,Zq,reduceCtorEq]
  have re4 : w4.heap[w0.heap.size + 5]? = _ := p4.fr.block _ (Array.getElem?_eq_some_iff.1 re3).1 (by omega)
  rw[re3] at re4
  have co4 := co3.step p4.fr fun b e => by omega
  have f5 := fr_put w4 (w0.heap.size + 5) (.loop rec)
  have er : ({ { rec with state := .busy } with state := .ready, pending := none } : Loop) = rec := by rw[hrec]
  refine ⟨_, re4, .inl ⟨rfl, ?_⟩⟩
  rw[er]
  refine ⟨co4.step f5 fun b e => by omega, put_at re4, ⟨v', ?_, ?_, huv3⟩, fun j e => ?_⟩
  ·exact p4.blk.fr f5 (by omega)
  ·rw[maskL_succ]
   exact (ap.sl.fr p4.fr fun b e => by have := huv3 b e; omega).fr f5 fun b e => by have := huv3 b e; omega
  ·obtain rfl : j = i := by omega
   exact hl
end Go.Proofs.YtcgplgpdcfocpaaGreatDoor.Spec
end
section
namespace Go.Proofs.YtcgplgpdcfocpaaGreatDoor.Spec
open Go Go.RowKit Go.Proofs Go.Proofs.YtcgplgpdcfocpaaGreatDoor.Eng Go.Proofs.YtcgplgpdcfocpaaGreatDoor.Code
attribute [local irreducible] callK S.W opsW scrW dig
theorem sizeI_zero {alg : Int} : sizeI alg = 0 ↔ (alg < 1 ∨ 4 < alg) := by
 constructor
 ·intro h
  by_cases a1 : 1 ≤ alg
  ·by_cases a4 : alg ≤ 4
   ·have := mk_size a1 a4; omega
   ·omega
  ·omega
 ·intro h
  unfold sizeI
  repeat' split
  all_goals omega
set_option maxHeartbeats 4000000 in
theorem mask_k {alg n : Int} {seed : List Int} {A : Option Addr} {c : Nat} {w : World} (hT : Tb w) (hc : seed.length ≤ c) (hr : Rd w A (nums .u8 seed)) (hseed : seed.length ≤ 16777000) {K : Value → World → Prop}
  (hK : ∀ v w', Vw .u8 w' v (maskR alg seed n).1 → (∀ b, blkOf v = some b → w.heap.size ≤ b) → Fr w w' nob → K (.tuple #[v, .int .i64 (maskR alg seed n).2]) w') : callK Tryz.prog 22 [.int .i64 alg, .slice A seed.length c, .int .i64 n] w K := by
 obtain ⟨A0, A1, A2, A3, A4, As, Bd, hb, h0, h1, h2, h3, hsa, hsb, h4, hpa, hpb⟩ := mask_form
 refine call_marks (m := 2) Tryz.func22 hb ?_
 refine wpIn_seq ?_
 refine eng_wide h0 (dfs := []) (by simp) rfl (K := fun e ρ w' => e = .normal ∧ New w w' [.int .i64 n] ∧ ρ 0 = .int .i64 alg ∧ ρ 1 = .slice A seed.length c ∧ ρ 5 = .pointer (some ⟨w.heap.size, 0, none⟩)) ?_ ?_
 ·rw[env_args]
  simp(disch:=omega)only[Zu,Zv,Zx,Zz,EZ,↓EP,↓reduceIte,Za,Zb,Zc,Zd,Ze,Zf,Zg,Zj,Zk,Zl,Zm,Zn,Zp,Zq,reduceCtorEq]
  refine al_k [.int .i64 n] rfl fun w1 n1 => ?_
  simp(disch:=omega)only[Zu,Zv,Zx,Zz,EZ,↓EP,↓reduceIte,Za,Zb,Zc,Zd,Ze,Zf,Zg,Zj,Zk,Zl,Zm,Zn,Zp,Zq,reduceCtorEq]
  exact n1
 rintro e a w1 ⟨hsz, hdf, rfl, n1, e0, e1, e5⟩
 show (Go.Code.seq _ _).wpIn _ _ _ _ _ _
 have f1 := n1.fr nob
 have k5 : w1.cell? ⟨w.heap.size, 0, none⟩ = some (.int .i64 n) := n1.blk.has 0 _ rfl
 refine wpIn_seq ?_
 refine eng_wide h1 (dfs := []) hsz hdf (K := fun e ρ w' => w' = w1 ∧ ((e = .normal ∧ ¬ (sizeI alg = 0 ∨ n < 0 ∨ 2048 < n) ∧ ρ 0 = .int .i64 alg ∧ ρ 1 = .slice A seed.length c ∧ ρ 5 = .pointer (some ⟨w.heap.size, 0, none⟩)) ∨ (e = .ret ∧ (sizeI alg = 0 ∨ n < 0 ∨ 2048 < n) ∧ ρ 6 = .slice none 0 0 ∧ ρ 7 = .int .i64 1))) ?_ ?_
 ·simp(disch:=omega)only[Zu,Zv,Zx,Zz,EZ,↓EP,↓reduceIte,Za,Zb,Zc,Zd,Ze,Zf,Zg,Zj,Zk,Zl,Zm,Zn,Zp,Zq,reduceCtorEq,e0,e1,e5,k5]
  refine size_spec alg _ _ ?_
  by_cases c0 : sizeI alg = 0
  ·simp(disch:=omega)only[Zu,Zv,Zx,Zz,EZ,↓EP,↓reduceIte,Za,Zb,Zc,Zd,Ze,Zf,Zg,Zj,Zk,Zl,Zm,Zn,Zp,Zq,reduceCtorEq,e0,e1,e5,k5,c0]
   simp
  ·by_cases c1 : n < 0
   ·simp(disch:=omega)only[Zu,Zv,Zx,Zz,EZ,↓EP,↓reduceIte,Za,Zb,Zc,Zd,Ze,Zf,Zg,Zj,Zk,Zl,Zm,Zn,Zp,Zq,reduceCtorEq,e0,e1,e5,k5,c0,c1]
    simp
   ·by_cases c2 : 2048 < n
    ·simp(disch:=omega)only[Zu,Zv,Zx,Zz,EZ,↓EP,↓reduceIte,Za,Zb,Zc,Zd,Ze,Zf,Zg,Zj,Zk,Zl,Zm,Zn,Zp,Zq,reduceCtorEq,e0,e1,e5,k5,c0,c1,c2]
     simp
    ·simp(disch:=omega)only[Zu,Zv,Zx,Zz,EZ,↓EP,↓reduceIte,Za,Zb,Zc,Zd,Ze,Zf,Zg,Zj,Zk,Zl,Zm,Zn,Zp,Zq,reduceCtorEq,e0,e1,e5,k5,c0,c1,c2]
     simp
 rintro e a w' ⟨hsz, hdf, rfl, ⟨rfl, hbad, e0, e1, e5⟩ | ⟨rfl, hbad, e6, e7⟩⟩
 rotate_left
 ·show LeavesInM _ _ _ _ _ _ a.defers _ _
  rw[hdf]
  have hR : maskR alg seed n = ([], 1) := if_pos hbad
  obtain ⟨u, hu, e⟩ := results_run (P := Tryz.prog) (fn := Tryz.f22) (a := a) (w := w') (l := [.inl 6, .inl 7]) (by rfl) (K := fun u => u = .tuple #[.slice none 0 0, .int .i64 1]) (by show packV [envOf a 6, envOf a 7] = _; rw[e6,e7]; rfl)
  refine ⟨u, hu, u, rfl, ?_⟩
  rw[e]
  have := hK (.slice none 0 0) w' (by rw[hR]; exact Vw.nil _ _) (fun b e => by cases e) f1
  rw[hR] at this
  exact this
 obtain ⟨g0, gn, gx⟩ : sizeI alg ≠ 0 ∧ 0 ≤ n ∧ n ≤ 2048 := by omega
 have ha : ¬ (alg < 1 ∨ 4 < alg) := fun h => g0 (sizeI_zero.2 h)
 have a1 : 1 ≤ alg := by omega
 have a4 : alg ≤ 4 := by omega
 have hzz := mk_size a1 a4
 have hR : maskR alg seed n = ((maskL alg seed n.toNat).take n.toNat, 0) := if_neg hbad
 rw[hR] at hK
 show (Go.Code.seq _ _).wpIn _ _ _ _ _ _
 refine wpIn_seq ?_
 refine eng_wide h2 (dfs := []) hsz hdf (K := fun e ρ w'' => e = .normal ∧ New w' w'' [.slice none 0 0] ∧ ρ 0 = .int .i64 alg ∧ ρ 1 = .slice A seed.length c ∧ ρ 5 = .pointer (some ⟨w.heap.size, 0, none⟩) ∧ ρ 8 = .pointer (some ⟨w'.heap.size, 0, none⟩)) ?_ ?_
 ·simp(disch:=omega)only[Zu,Zv,Zx,Zz,EZ,↓EP,↓reduceIte,Za,Zb,Zc,Zd,Ze,Zf,Zg,Zj,Zk,Zl,Zm,Zn,Zp,Zq,reduceCtorEq,e0,e1,e5]
  refine al_k [.slice none 0 0] rfl fun w2 n2 => ?_
  simp(disch:=omega)only[Zu,Zv,Zx,Zz,EZ,↓EP,↓reduceIte,Za,Zb,Zc,Zd,Ze,Zf,Zg,Zj,Zk,Zl,Zm,Zn,Zp,Zq,reduceCtorEq,e0,e1,e5]
  exact n2
 clear hsz hdf e0 e1 e5
 rintro e a2 w2 ⟨hsz, hdf, rfl, n2, e0, e1, e5, e8⟩
 rw[n1.size] at e8
 show (Go.Code.seq _ _).wpIn _ _ _ _ _ _
 refine wpIn_seq ?_
 refine wpIn_seq ?_
 refine eng_wide h3 (dfs := []) hsz hdf (K := fun e ρ w4 => e = .normal ∧ (∃ w3, New w2 w3 [.int .i64 alg] ∧ New w3 w4 [.slice A seed.length c]) ∧ ρ 23 = .func (.func 74) #[] #[.pointer (some ⟨w2.heap.size, 0, none⟩), .pointer (some ⟨w2.heap.size + 1, 0, none⟩)] ∧ ρ 5 = .pointer (some ⟨w.heap.size, 0, none⟩) ∧ ρ 8 = .pointer (some ⟨w.heap.size + 1, 0, none⟩)) ?_ ?_
 ·simp(disch:=omega)only[Zu,Zv,Zx,Zz,EZ,↓EP,↓reduceIte,Za,Zb,Zc,Zd,Ze,Zf,Zg,Zj,Zk,Zl,Zm,Zn,Zp,Zq,reduceCtorEq,e0,e1,e5,e8]
  refine blocks_k fun w3 w4 n3 n4 => ?_
  simp(disch:=omega)only[Zu,Zv,Zx,Zz,EZ,↓EP,↓reduceIte,Za,Zb,Zc,Zd,Ze,Zf,Zg,Zj,Zk,Zl,Zm,Zn,Zp,Zq,reduceCtorEq,e0,e1,e5,e8]
  exact ⟨w3, n3, n4⟩
 clear hsz hdf e0 e1 e5 e8
 rintro e a3 w4 ⟨hsz, hdf, rfl, ⟨w3, n3, n4⟩, e23, e5, e8⟩
 have s1 := n1.size
 have s2 := n2.size
 have s3 := n3.size
 have s4 := n4.size
 rw[show w2.heap.size = w.heap.size + 2 by omega] at e23
 show (Go.Code.block 0 _).wpIn _ _ _ _ _ _
 refine wpIn_block ?_
 refine range_eng (by rw[eval_env]; exact e23) (fun args w => call_run Tryz.func74 (by kernel_rfl) (by kernel_rfl) args w) fun fn => ?_
 obtain ⟨rec, hrec⟩ : ∃ rec, rec = recOf w4 fn a3.tmps #[24] As Bd := ⟨_, rfl⟩
 rw[← hrec]
 have hs4 : w4.heap.size = w.heap.size + 4 := by omega
 obtain ⟨W, hW⟩ : ∃ W, W = (w4.alloc (.deferred (some []))).alloc (.loop rec) := ⟨_, rfl⟩
 have f4 : Fr w4 (w4.alloc (.deferred (some []))) nob := ob_fr _ _
 have f5 : Fr (w4.alloc (.deferred (some []))) W nob := by rw[hW]; exact ob_fr _ _
 have r5 : W.heap[w.heap.size + 5]? = some (.loop rec) := by
  have := ob_at (w4.alloc (.deferred (some []))) (.loop rec)
  rw[ob_size,hs4,← hW] at this
  exact this
 have r4 : W.heap[w.heap.size + 4]? = some (.deferred (some [])) := by
  have h := ob_at w4 (.deferred (some []))
  rw[← f5.block _ (by rw [ob_size]; omega) (fun e => e), hs4] at h
  exact h
 have fw : Fr w4 W nob := f4.nb f5
 have ff : Fr w W nob := (((f1.nb (n2.fr nob)).nb (n3.fr nob)).nb (n4.fr nob)).nb fw
 have bo : Blk W (w.heap.size + 1) [.slice none 0 0] := by
  have := n2.blk
  rw[s1] at this
  exact ((this.nb (n3.fr nob)).nb (n4.fr nob)).nb fw
 have bn : Blk W w.heap.size [.int .i64 n] := (((n1.blk.nb (n2.fr nob)).nb (n3.fr nob)).nb (n4.fr nob)).nb fw
 have ba : Blk W (w.heap.size + 2) [.int .i64 alg] := by
  have := n3.blk
  rw[show w2.heap.size = w.heap.size + 2 by omega] at this
  exact (this.nb (n4.fr nob)).nb fw
 have bs : Blk W (w.heap.size + 3) [.slice A seed.length c] := by
  have := n4.blk
  rw[show w3.heap.size = w.heap.size + 3 by omega] at this
  exact this.nb fw
 have hI0 : MI w alg n seed (.slice A seed.length c) rec 0 W := ⟨⟨bn, ba, bs, r4, ff⟩, r5, ⟨_, bo, Sl.nil _ _, fun b e => by cases e⟩, fun j e => by omega⟩
 rw[← hW,hs4]
 have hrec' : rec = ⟨.ready, none, fn, a3.tmps, #[24], As, Bd, w.heap.size + 4⟩ := by rw[hrec,← hs4]; rfl
 have hit := blk_iter (m := 0) (N := 2050) (l := w.heap.size + 5) (ba := w.heap.size + 2) (bs := w.heap.size + 3) (I := fun i W => MI w alg n seed (.slice A seed.length c) rec i W) (Ix := fun W => MX w alg n seed (.slice A seed.length c) rec W) a1 a4 hseed (by decide)
  (fun i W h => by
   rcases i with _ | j
   ·omega
   ·have := h.bd j rfl
    rw[maskL_len a1 a4] at this
    have : j ≤ j * (sizeI alg).toNat := Nat.le_mul_of_pos_right _ (by omega)
    omega)
  (fun i W h => ⟨h.co.ab.has 0 _ rfl, ⟨A, c, h.co.sb.has 0 _ rfl, hc, hr.nb h.co.fr⟩, hT.fr h.co.fr (fun x => x) (fun x => x)⟩)
  (fun i W A' c' W' h g => mask_round a1 a4 gx hpa hpb hsa hsb hsz e5 e8 hrec' h g) hI0
 refine hit.mono ?_
 rintro e W6 ⟨hv, hx⟩
 refine ⟨hv, _, hx.re, (fun h => by cases h), ?_⟩
 show (Go.Code.exit 0).wpIn _ _ _ _ _ _
 refine wpIn_exit ?_
 show A4.wpIn _ _ _ _ _ _
 have f7 := fr_put W6 (w.heap.size + 5) (.loop { { rec with state := .done, pending := some (.exit 0) } with state := .exhausted })
 generalize W6.putObj (w.heap.size + 5) _ = W7 at f7
 obtain ⟨i, v, hbv, hsv, huv, hlen⟩ := hx.out
 have co7 := hx.co.step f7 fun b e => by omega
 have hbv7 := hbv.fr f7 (by omega)
 have hsv7 := hsv.fr f7 fun b e => by have := huv b e; omega
 obtain ⟨B, d, rfl, hd, hrB, _⟩ := hsv7.read
 have k5 : W7.cell? ⟨w.heap.size, 0, none⟩ = some (.int .i64 n) := co7.nb.has 0 _ rfl
 have k8 : W7.cell? ⟨w.heap.size + 1, 0, none⟩ = some _ := hbv7.has 0 _ rfl
 refine eng_wide h4 (dfs := [{ target := .collected (w.heap.size + 4), args := #[] }]) (by exact hsz) (by show _ :: a3.defers = _; rw[hdf]) (K := fun e ρ w'' => e = .ret ∧ w'' = W7 ∧ ∃ A' c', ρ 6 = .slice A' n.toNat c' ∧ ρ 7 = .int .i64 0 ∧ n.toNat ≤ c' ∧ Rd W7 A' (nums .u8 ((maskL alg seed n.toNat).take n.toNat)) ∧ ∀ b, blkOf (.slice A' n.toNat c') = some b → w.heap.size + 6 ≤ b) ?_ ?_
 ·have eo : envOf { tmps := a3.tmps, defers := { target := Target.collected (w.heap.size + 4), args := #[] } :: a3.defers } = envOf a3 := rfl
  rw[eo]
  simp(disch:=omega)only[Zu,Zv,Zx,Zz,EZ,↓EP,↓reduceIte,Za,Zb,Zc,Zd,Ze,Zf,Zg,Zj,Zk,Zl,Zm,Zn,Zp,Zq,reduceCtorEq,e5,e8,k5,k8]
  rw[i_slc_hm]
  have hnd : n ≤ (d : Int) := by omega
  simp(disch:=omega)only[Zu,Zv,Zx,Zz,EZ,↓EP,↓reduceIte,Za,Zb,Zc,Zd,Ze,Zf,Zg,Zj,Zk,Zl,Zm,Zn,Zp,Zq,reduceCtorEq]
  refine ⟨B, n.toNat, rfl, Nat.le_refl _, ?_, fun b e => huv b ?_⟩
  ·rw[← maskL_take a1 a4 seed (by omega : n.toNat ≤ (maskL alg seed i).length)]
   exact hrB.take _
  ·cases B with
   | none => cases e
   | some p => exact e
 rintro e a W8 ⟨_, hdf, rfl, rfl, A', c', e6, e7, hc', hr', huv'⟩
 show LeavesInM _ _ _ _ _ _ a.defers _ _
 rw[hdf]
 refine ⟨by simp, .inl ⟨_, _, rfl, run_takeDeferred co7.de, ?_⟩⟩
 have f9 := fr_put W8 (w.heap.size + 4) (.deferred none)
 generalize W8.putObj (w.heap.size + 4) (.deferred none) = W9 at f9
 obtain ⟨u, hu, e⟩ := results_run (P := Tryz.prog) (fn := Tryz.f22) (a := a) (w := W9) (l := [.inl 6, .inl 7]) (by rfl) (K := fun u => u = .tuple #[.slice A' n.toNat c', .int .i64 0]) (by show packV [envOf a 6, envOf a 7] = _; rw[e6,e7]; rfl)
 refine ⟨u, hu, u, rfl, ?_⟩
 rw[e]
 have hln : ((maskL alg seed n.toNat).take n.toNat).length = n.toNat := by
  rw[List.length_take,maskL_len a1 a4]
  have : n.toNat ≤ n.toNat * (sizeI alg).toNat := Nat.le_mul_of_pos_right _ (by omega)
  omega
 refine hK _ W9 (Vw.of hln hc' (hr'.fr f9 (.inr fun p e x => ?_))) (fun b e => by have := huv' b e; omega) (co7.fr.trans f9 fun x hx e => by omega)
 subst e
 have := huv' _ rfl
 omega
end Go.Proofs.YtcgplgpdcfocpaaGreatDoor.Spec
end
section
namespace Go.Proofs.YtcgplgpdcfocpaaGreatDoor.Spec
open Go Go.RowKit Go.Proofs Go.Proofs.YtcgplgpdcfocpaaGreatDoor.Eng Go.Proofs.YtcgplgpdcfocpaaGreatDoor.Code
attribute [local irreducible] callK S.W opsW scrW
def dgs : Nat → Nat → List Int
 | 0, _ => []
 | n + 1, t => ((t % 256 : Nat) : Int) :: dgs n (t / 256)
theorem dgs_len (n t : Nat) : (dgs n t).length = n := by
 induction n generalizing t with
 | zero => rfl
 | succ n ih => simp[dgs,ih]
theorem digits_dgs : ∀ (n t : Nat) (acc : Array Value), (Extern.BytealgMakeNoZero.digits n t acc).toList = acc.toList ++ nums .u8 (dgs n t)
 | 0, _, acc => by simp[Extern.BytealgMakeNoZero.digits,dgs,nums]
 | n + 1, t, acc => by
  rw[Extern.BytealgMakeNoZero.digits,digits_dgs n]
  simp[dgs,nums]
theorem run_mnz {P : Program} (w : World) (ps : Array TypeId) (t e : TypeId) (ht : P.underlying t = some (.slice e)) (n : Nat) (hn : n ≤ 281474976710656) :
  ∃ (l : List Int) (cs : Array Value), (Extern.BytealgMakeNoZero.makeNoZero ps #[t] #[.int .i64 n]).run P w = .ok (.slice (some ⟨w.heap.size, 0, none⟩) n l.length) (w.drew.drew.alloc (.cells cs e)) ∧ n ≤ l.length ∧ cs.toList = nums .u8 l := by
 have hdef : Extern.BytealgMakeNoZero.makeNoZero ps #[t] #[.int .i64 n] =
   (do
    let .slice elem ← underlying t | stuck "bytealg.MakeNoZero: slice type expected"
    if (n : Int) < 0 || (n : Int) > 2 ^ 48 then runtimePanic (.error "makeslice: len out of range")
    let cap ← choose (.appendCap (n : Int).toNat 0 elem)
    askRoom cap
    let bytes ← choose (.extern "internal/bytealg.MakeNoZero.bytes" 0)
    let a ← newRow elem (Extern.BytealgMakeNoZero.digits cap bytes #[])
    pure (.slice (some a) (n : Int).toNat cap)) := rfl
 refine ⟨dgs (grownCap w n 0 e) ((Question.extern "internal/bytealg.MakeNoZero.bytes" 0).cut (w.tape (w.drawn + 1) (.extern "internal/bytealg.MakeNoZero.bytes" 0))), Extern.BytealgMakeNoZero.digits (grownCap w n 0 e) ((Question.extern "internal/bytealg.MakeNoZero.bytes" 0).cut (w.tape (w.drawn + 1) (.extern "internal/bytealg.MakeNoZero.bytes" 0))) #[], ?_, ?_, ?_⟩
 ·rw[hdef,dgs_len]
  have h1 : ¬ (n : Int) < 0 := by omega
  have h2 : ¬ (281474976710656 : Int) < (n : Int) := by omega
  simp[run_underlying ht,h1,h2,Question.forced,newRow,grownCap]
 ·rw[dgs_len]
  simpa using grownCap_ge w n 0 e
 ·rw[digits_dgs]; simp
theorem mnz_k {w : World} {n : Nat} {ρ : Env} {y : Operand} {ats : Array TypeId} {K : Value → World → Prop} (hn : n ≤ 281474976710656) (hy : ev ρ y = .int .i64 n)
  (hK : ∀ (l : List Int) w', n ≤ l.length → New w w' (nums .u8 l) → K (.slice (some ⟨w.heap.size, 0, none⟩) n l.length) w') : rawT Tryz.prog (.call { callee := .value (.func 79), args := #[y], argTypes := ats }) ρ w K .mk := by
 intro o ho
 obtain ⟨d, op, ty, pos, af, gd⟩ := o
 subst ho
 obtain ⟨l, cs, hr, hl, hcs⟩ := run_mnz (P := Tryz.prog) w Tryz.f79.params 25 5 Tryz.underlying25 n hn
 have he := run_callFunc_extern (P := Tryz.prog) (e := Extern.BytealgMakeNoZero.makeNoZero Tryz.f79.params #[25]) Tryz.func79 (by kernel_rfl) (by kernel_rfl) (by kernel_rfl) (by kernel_rfl) #[.int .i64 n] w
 rw[hr] at he
 have hrun : (execOp (ev ρ) ⟨d, .call { callee := .value (.func 79), args := #[y], argTypes := ats }, ty, pos, af, gd⟩).run Tryz.prog w = .ok (.value (.slice (some ⟨w.heap.size, 0, none⟩) n l.length)) (w.drew.drew.alloc (.cells cs 5)) := by
  simp only[Result.andThen_ok] at he
  simp[execOp,resolve,Deferred.ofValue,invoke,hy,he]
  simp[ev,he]
 unfold runK
 rw[hrun]
 refine hK l _ hl ?_
 have hb : Below w.heap.size w (w.drew.drew.alloc (.cells cs 5)) := (below_drewN' (Below.refl _ _) 2).alloc (Nat.le_refl _) _
 exact ⟨by simp only[size_alloc]; rfl, Blk.new' hcs _, fun h => (h.drewN 2).alloc _, fun hB h => (below_drewN' h 2).alloc hB _, fun h => h.below hb⟩
theorem and_mask : ∀ a : Nat, a < 2049 → bits .and .u64 (a : Int) 4294967295 = (a : Int) := by decide +kernel
theorem mul64_one {n : Nat} {w : World} {K : Value → World → Prop} (hn : n ≤ 2048) (hK : K (.tuple #[.int .u64 0, .int .u64 n]) w) : callK Tryz.prog 104 [.int .u64 1, .int .u64 n] w K := by
 refine call_of Tryz.func104 Code.h104 (by simp[Code.c104]) ?_
 have q1 : (1 : Int) / 4294967296 = 0 := by decide
 have q2 : (n : Int) / 4294967296 = 0 := by omega
 have q3 := and_mask n (by omega)
 have q4 : bits .and .u64 1 4294967295 = 1 := and_mask 1 (by omega)
 have q5 : bits .and .u64 0 4294967295 = 0 := and_mask 0 (by omega)
 simp(disch:=omega)only[Zu,Zv,Zx,Zz,EZ,↓EP,↓reduceIte,Za,Zb,Zc,Zd,Ze,Zf,Zg,Zj,Zk,Zl,Zm,Zn,Zp,Zq,reduceCtorEq,Code.c104,q1,q2,q3,q4,q5,Int.zero_mul,Int.mul_zero,Int.one_mul,Int.mul_one,Int.zero_add,Int.add_zero,Int.zero_ediv]
 exact hK
theorem mul_one_k {n : Nat} {w : World} {K : Value → World → Prop} (hn : n ≤ 2048) (hK : K (.tuple #[.int .u64 0, .int .u64 n]) w) : callK Tryz.prog 78 [.int .u64 1, .int .u64 n] w K := by
 refine call_of Tryz.func78 Code.h78 (by simp[Code.c78]) ?_
 simp(disch:=omega)only[Zu,Zv,Zx,Zz,EZ,↓EP,↓reduceIte,Za,Zb,Zc,Zd,Ze,Zf,Zg,Zj,Zk,Zl,Zm,Zn,Zp,Zq,reduceCtorEq,Code.c78]
 refine mul64_one hn ?_
 simp(disch:=omega)only[Zu,Zv,Zx,Zz,EZ,↓EP,↓reduceIte,Za,Zb,Zc,Zd,Ze,Zf,Zg,Zj,Zk,Zl,Zm,Zn,Zp,Zq,reduceCtorEq]
 exact hK
theorem cpy_num {k : IntKind} {w : World} {b o n c m d : Nat} {B : Option Addr} {L l : List Int} {K : Value → World → Prop} (hb : Blk w b (nums k L)) (hy : Rd w B (nums k l)) (hl : l.length = Nat.min m n) (h0 : 0 < l.length) (ho : o + l.length ≤ L.length)
  (hK : ∀ w', Put w w' b (nums k (L.take o ++ l ++ L.drop (o + l.length))) → K (.int .i64 l.length) w') : cpyT 1 (.slice (some ⟨b, o, none⟩) n c) (.slice B m d) w K .mk := by
 refine ⟨nums k l, by rw[nums_length,Nat.mul_one,hl], fun _ => ?_, fun h => by omega⟩
 obtain ⟨p, hp, hcl⟩ := hy.cells (by rw[nums_length]; exact h0)
 refine ⟨p, b, o, hp, hcl, rfl, ?_, ?_, ?_, ?_⟩
 ·intro v hv
  unfold nums at hv
  rw[List.mem_map] at hv
  obtain ⟨_, _, rfl⟩ := hv
  rfl
 ·intro j hj
  rw[nums_length] at hj
  exact hb.isSome (by rw[nums_length]; omega)
 ·intro j hj
  exact hb.frozen _
 ·rw[← hl]
  refine hK _ ?_
  have := put_cells hb o (nums k l) (by rw[nums_length,nums_length]; exact ho)
  have e : (nums k L).take o ++ nums k l ++ (nums k L).drop (o + (nums k l).length) = nums k (L.take o ++ l ++ L.drop (o + l.length)) := by
   rw[nums_length]; simp[nums]
  rw[e] at this
  exact this
theorem fr_drewN (w : World) (n : Nat) : Fr w (w.drewN n) nob := ⟨below_drewN' (Below.refl _ _) n, fun b hb _ => rfl⟩
set_option maxHeartbeats 4000000 in
theorem repeat_k {w : World} {B : Option Addr} {c n : Nat} {x : Int} (hb : Rd w B (nums .u8 [x])) (h1 : 1 ≤ n) (h2 : n ≤ 2048) {K : Value → World → Prop}
  (hK : ∀ A c w', n ≤ c → Rd w' A (nums .u8 (List.replicate n x)) → Fr w w' nob → K (.slice A n c) w') : callK Tryz.prog 45 [.slice B 1 c, .int .i64 n] w K := by
 refine call_of Tryz.func45 Code.h45 (by simp[Code.c45]) ?_
 simp(disch:=omega)only[Zu,Zv,Zx,Zz,EZ,↓EP,↓reduceIte,Za,Zb,Zc,Zd,Ze,Zf,Zg,Zj,Zk,Zl,Zm,Zn,Zp,Zq,reduceCtorEq,Code.c45,W_join]
 refine mul_one_k h2 ?_
 simp(disch:=omega)only[Zu,Zv,Zx,Zz,EZ,↓EP,↓reduceIte,Za,Zb,Zc,Zd,Ze,Zf,Zg,Zj,Zk,Zl,Zm,Zn,Zp,Zq,reduceCtorEq,W_join]
 refine mnz_k (n := n) (by omega) (by simp(disch:=omega)only[Zu,Zv,Zx,Zz,EZ,↓EP,↓reduceIte,Za,Zb,Zc,Zd,Ze,Zf,Zg,Zj,Zk,Zl,Zm,Zn,Zp,Zq,reduceCtorEq]) fun L w1 hl n1 => ?_
 have f1 := n1.fr nob
 have hcl : (n : Int) ≤ (L.length : Int) := by omega
 simp(disch:=omega)only[Zu,Zv,Zx,Zz,EZ,↓EP,↓reduceIte,Za,Zb,Zc,Zd,Ze,Zf,Zg,Zj,Zk,Zl,Zm,Zn,Zp,Zq,reduceCtorEq,i_slc_hm]
 have hL0 : (0 : Int) ≤ L.length := by omega
 refine cpy_num (l := [x]) n1.blk (hb.nb f1) (Nat.min_eq_left h1).symm (by simp) (by simp; omega) fun w2 p2 => ?_
 simp(disch:=omega)only[Zu,Zv,Zx,Zz,EZ,↓EP,↓reduceIte,Za,Zb,Zc,Zd,Ze,Zf,Zg,Zj,Zk,Zl,Zm,Zn,Zp,Zq,reduceCtorEq]
 have hb2 : Blk w2 w.heap.size (nums .u8 (List.replicate 1 x ++ L.drop 1)) := by simpa using p2.blk
 have f2 : Fr w w2 nob := f1.trans p2.fr fun y hy e => by omega
 refine loop_inv (fun t ρ w' => ∃ j : Nat, 1 ≤ j ∧ j ≤ n ∧ ρ 10 = .int .i64 j ∧ Blk w' w.heap.size (nums .u8 (List.replicate j x ++ L.drop j)) ∧ Fr w w' nob ∧ t = n - j) _ ⟨1, Nat.le_refl _, h1, by simp(disch:=omega)only[Zu,Zv,Zx,Zz,EZ,↓EP,↓reduceIte,Za,Zb,Zc,Zd,Ze,Zf,Zg,Zj,Zk,Zl,Zm,Zn,Zp,Zq,reduceCtorEq], hb2, f2, rfl⟩ ?_
 rintro t ρ w3 hf ⟨j, hj1, hjn, h10, hb3, f3, rfl⟩ N hN
 have r7 : ρ 7 = .int .i64 n := by rw[hf 7 rfl]; simp(disch:=omega)only[Zu,Zv,Zx,Zz,EZ,↓EP,↓reduceIte,Za,Zb,Zc,Zd,Ze,Zf,Zg,Zj,Zk,Zl,Zm,Zn,Zp,Zq,reduceCtorEq]
 have r8 : ρ 8 = .int .i64 n := by rw[hf 8 rfl]; simp(disch:=omega)only[Zu,Zv,Zx,Zz,EZ,↓EP,↓reduceIte,Za,Zb,Zc,Zd,Ze,Zf,Zg,Zj,Zk,Zl,Zm,Zn,Zp,Zq,reduceCtorEq]
 have r9 : ρ 9 = .slice (some ⟨w.heap.size, 0, none⟩) n n := by rw[hf 9 rfl]; simp(disch:=omega)only[Zu,Zv,Zx,Zz,EZ,↓EP,↓reduceIte,Za,Zb,Zc,Zd,Ze,Zf,Zg,Zj,Zk,Zl,Zm,Zn,Zp,Zq,reduceCtorEq]
 clear hf
 by_cases hc : (j : Int) < (n : Int)
 ·have hs : subA (some ⟨w.heap.size, 0, none⟩) n j 1 = some ⟨w.heap.size, j, none⟩ := by
   unfold subA
   rw[if_neg (by omega)]
   simp[Addr.add]
   omega
  obtain ⟨q, hq⟩ : ∃ q, q = Nat.min j (n - j) := ⟨_, rfl⟩
  have hq0 : 0 < q := by rw[hq]; exact Nat.lt_min.2 ⟨by omega, by omega⟩
  have hq1 : q ≤ j := by rw[hq]; exact Nat.min_le_left _ _
  have hq2 : q ≤ n - j := by rw[hq]; exact Nat.min_le_right _ _
  simp(disch:=omega)only[Zu,Zv,Zx,Zz,EZ,↓EP,↓reduceIte,Za,Zb,Zc,Zd,Ze,Zf,Zg,Zj,Zk,Zl,Zm,Zn,Zp,Zq,reduceCtorEq,h10,r7,r8,r9,hc,hs]
  intro m
  have fd := fr_drewN w3 (1 + m)
  have hrd : Rd (w3.drewN (1 + m)) (some ⟨w.heap.size, 0, none⟩) (nums .u8 (List.replicate q x)) := by
   refine (hb3.rd 0 (n := q) ?_).nb fd
   rw[List.drop_zero,nums_take,List.take_append_of_le_length (by simp; omega),List.take_replicate,Nat.min_eq_left hq1]
  refine cpy_num (l := List.replicate q x) (hb3.nb fd) hrd (by rw[List.length_replicate,hq]) (by simpa using hq0) (by simp; omega) fun w4 p4 => ?_
  have hb4 : Blk w4 w.heap.size (nums .u8 (List.replicate (j + q) x ++ L.drop (j + q))) := by
   have h := p4.blk
   have e : (List.replicate j x ++ L.drop j).take j ++ List.replicate q x ++ (List.replicate j x ++ L.drop j).drop (j + (List.replicate q x).length) = List.replicate (j + q) x ++ L.drop (j + q) := by
    rw[List.take_left' (by simp),List.length_replicate,List.drop_append,List.drop_eq_nil_of_le (by simp),List.length_replicate,List.nil_append,List.drop_drop,← List.replicate_append_replicate]
    congr 2
    omega
   rw[e] at h
   exact h
  have f4 : Fr w w4 nob := (f3.nb fd).trans p4.fr fun y hy e => by omega
  rw[List.length_replicate]
  have hjq : (j : Int) + (q : Int) ≤ 2048 := by omega
  simp(disch:=omega)only[Zu,Zv,Zx,Zz,EZ,↓EP,↓reduceIte,Za,Zb,Zc,Zd,Ze,Zf,Zg,Zj,Zk,Zl,Zm,Zn,Zp,Zq,reduceCtorEq,h10]
  intro m2
  have fe := fr_drewN w4 m2
  refine hN (n - (j + q)) _ _ (by omega) ⟨j + q, by omega, by omega, by simp(disch:=omega)only[Zu,Zv,Zx,Zz,EZ,↓EP,↓reduceIte,Za,Zb,Zc,Zd,Ze,Zf,Zg,Zj,Zk,Zl,Zm,Zn,Zp,Zq,reduceCtorEq,Int.natCast_add], hb4.nb fe, f4.nb fe, rfl⟩
 ·obtain rfl : j = n := by omega
  simp(disch:=omega)only[Zu,Zv,Zx,Zz,EZ,↓EP,↓reduceIte,Za,Zb,Zc,Zd,Ze,Zf,Zg,Zj,Zk,Zl,Zm,Zn,Zp,Zq,reduceCtorEq,h10,r7,r8,r9,hc]
  refine hK _ _ _ (Nat.le_refl _) (hb3.rd 0 (n := j) ?_) f3
  rw[List.drop_zero,nums_take,List.take_left' (by simp)]
end Go.Proofs.YtcgplgpdcfocpaaGreatDoor.Spec
end
section
namespace Go.Proofs.YtcgplgpdcfocpaaGreatDoor.Eng
open Go Go.RowKit
theorem or_128 : ∀ a : Nat, a < 256 → bits .or .u8 (a : Int) 128 = (a : Int) % 128 + 128 := by decide +kernel
theorem or_128' : ∀ a : Nat, a < 256 → bits .or .u8 128 (a : Int) = (a : Int) % 128 + 128 := by decide +kernel
theorem d8_or128 {a : Int} (h : 0 ≤ a ∧ a < 256) : bits .or .u8 a 128 = a % 128 + 128 := by
 obtain ⟨a, rfl⟩ := Int.eq_ofNat_of_zero_le h.1; exact or_128 a (by omega)
theorem d8_128or {a : Int} (h : 0 ≤ a ∧ a < 256) : bits .or .u8 128 a = a % 128 + 128 := by
 obtain ⟨a, rfl⟩ := Int.eq_ofNat_of_zero_le h.1; exact or_128' a (by omega)
def ByteL (p : List Int) : Prop := ∀ i : Nat, 0 ≤ at' p (i : Int) ∧ at' p (i : Int) < 256
theorem atN (l : List Int) (i : Nat) : at' l (i : Int) = l.getD i 0 := by unfold at'; rw[Int.toNat_natCast]
theorem ByteL.of {l : List Int} (h : ∀ x ∈ l, 0 ≤ x ∧ x < 256) : ByteL l := by
 intro i
 rw[atN,List.getD_eq_getElem?_getD]
 cases e : l[i]? with
 | none => simp
 | some x => exact h x (List.mem_of_getElem? e)
theorem drop_at {l : List Int} {i : Nat} (h : i < l.length) : l.drop i = at' l (i : Int) :: l.drop (i + 1) := by
 rw[atN,List.drop_eq_getElem_cons h,List.getD_eq_getElem?_getD,List.getElem?_eq_getElem h]; rfl
theorem at_drop (l : List Int) (o i : Nat) : at' (l.drop o) (i : Int) = at' l ((o + i : Nat) : Int) := by
 rw[atN,atN,List.getD_eq_getElem?_getD,List.getElem?_drop,← List.getD_eq_getElem?_getD]
theorem at_take {l : List Int} {n i : Nat} (h : i < n) : at' (l.take n) (i : Int) = at' l (i : Int) := by
 rw[atN,atN,List.getD_eq_getElem?_getD,List.getElem?_take,if_pos h,← List.getD_eq_getElem?_getD]
theorem Vw.cell {w : World} {A : Option Addr} {n c : Nat} {l : List Int} {k : IntKind} (h : Vw k w (.slice A n c) l) (h0 : 0 < l.length) : ∃ ad, A = some ad ∧ n = l.length ∧ ∀ i : Nat, i < l.length → w.cell? (ad.add i) = some (.int k (at' l (i : Int))) := by
 obtain ⟨A', c', e, hc, hr⟩ := h
 cases e
 obtain ⟨ad, e, _, hcl⟩ := hr.get (by rw[nums_length]; exact h0)
 exact ⟨ad, e, rfl, fun i hi => hcl.numN hi⟩
end Go.Proofs.YtcgplgpdcfocpaaGreatDoor.Eng
end
section
namespace Go.Proofs.YtcgplgpdcfocpaaGreatDoor.Der
open Go Go.RowKit Go.Proofs.YtcgplgpdcfocpaaGreatDoor.Eng
structure Tlv where
 cls : Int
 tag : Int
 cons : Bool
 data : List Int
 raw : List Int
deriving DecidableEq
def sevenHi : Nat → Nat → List Int
 | 0, _ => []
 | f + 1, v => if v = 0 then [] else sevenHi f (v / 128) ++ [((v % 128 + 128 : Nat) : Int)]
def sevenR (v : Nat) : List Int := sevenHi 10 (v / 128) ++ [((v % 128 : Nat) : Int)]
def bytesBE : Nat → Nat → List Int
 | 0, _ => []
 | f + 1, v => if v = 0 then [] else bytesBE f (v / 256) ++ [((v % 256 : Nat) : Int)]
def lenBytes (n : Nat) : List Int := if n < 128 then [(n : Int)] else (128 + ((bytesBE 4 n).length : Int)) :: bytesBE 4 n
def headR (cls tag : Int) (cons : Bool) (n : Nat) : List Int :=
 (if tag < 31 then [cls * 64 + (if cons then 32 else 0) + tag] else (cls * 64 + (if cons then 32 else 0) + 31) :: sevenR tag.toNat) ++ lenBytes n
def putR (cls tag : Int) (cons : Bool) (data : List (List Int)) : List Int × Int :=
 if cls < 0 ∨ 3 < cls ∨ tag < 0 ∨ 268435455 < tag ∨ (cls = 0 ∧ tag = 0) then ([], 1)
 else if 16777216 < (data.map List.length).sum then ([], 3)
 else (headR cls tag cons (data.map List.length).sum ++ data.flatten, 0)
end Go.Proofs.YtcgplgpdcfocpaaGreatDoor.Der
end
section
namespace Go.Proofs.YtcgplgpdcfocpaaGreatDoor.Der
open Go Go.RowKit Go.Proofs.YtcgplgpdcfocpaaGreatDoor.Eng
def S (l : List UInt8) : ByteArray := ⟨l.toArray⟩
theorem S_size (l : List UInt8) : (S l).size = l.length := by simp[S,ByteArray.size]
theorem S_append (a b : List UInt8) : S a ++ S b = S (a ++ b) := by
 apply ByteArray.ext
 simp[S]
theorem S_toList (l : List UInt8) : (S l).toList = l := by
 rw[ByteArray.toList_eq]; simp[S]
theorem S_dot : S [46] = ⟨#[46]⟩ := rfl
def digsF : Nat → Nat → List UInt8
 | 0, _ => []
 | f + 1, u => if u < 10 then [UInt8.ofNat (48 + u)] else digsF f (u / 10) ++ [UInt8.ofNat (48 + u % 10)]
def digs (u : Nat) : List UInt8 := digsF 20 u
theorem digsF_len : ∀ (f u : Nat), (digsF f u).length ≤ f
 | 0, u => by simp[digsF]
 | f + 1, u => by
  rw[digsF]
  split
  ·simp
  ·have := digsF_len f (u / 10)
   simp; omega
theorem digs_len (u : Nat) : (digs u).length ≤ 20 := digsF_len 20 u
def satA (v : Int) : Int := if 1099511627776 < v then 1099511627776 else v
def arcsGo : List Int → List Int → Int → Nat → Option (List Int)
 | [], l, _, _ => some l
 | c :: r, l, v, n => if c = 46 ∧ 0 < n then arcsGo r (l ++ [v]) 0 0 else if c < 48 ∨ 57 < c ∨ (n = 1 ∧ v = 0) then none else arcsGo r l (satA (10 * v + (c - 48))) (min (n + 1) 20)
def arcsR (s : List Int) : Option (List Int) :=
 match arcsGo (s ++ [46]) [] 0 0 with
 | none => none
 | some l => if l.length < 2 ∨ 2 < at' l 0 ∨ (at' l 0 < 2 ∧ 40 ≤ at' l 1) then none else some l
def putOidR (s : List Int) : List Int × Int :=
 match arcsR s with
 | none => ([], 6)
 | some l => if l.any (fun v => decide (2147483647 < v)) then ([], 3) else (sevenR (40 * at' l 0 + at' l 1).toNat ++ (l.drop 2).flatMap (fun v => sevenR v.toNat), 0)
end Go.Proofs.YtcgplgpdcfocpaaGreatDoor.Der
end
section
namespace Go.Proofs.YtcgplgpdcfocpaaGreatDoor.Der
open Go Go.RowKit Go.Proofs Go.Proofs.YtcgplgpdcfocpaaGreatDoor.Eng Go.Proofs.YtcgplgpdcfocpaaGreatDoor.Code
attribute [local irreducible] callK S.W opsW scrW scrT
theorem take_snoc {l : List Int} {j : Nat} (h : j < l.length) : l.take (j + 1) = l.take j ++ [at' l (j : Int)] := by
 rw[List.take_add_one,List.getElem?_eq_getElem h,atN,List.getD_eq_getElem?_getD,List.getElem?_eq_getElem h]; rfl
end Go.Proofs.YtcgplgpdcfocpaaGreatDoor.Der
end
section
namespace Go.Proofs.YtcgplgpdcfocpaaGreatDoor.Der
open Go Go.RowKit Go.Proofs Go.Proofs.YtcgplgpdcfocpaaGreatDoor.Eng Go.Proofs.YtcgplgpdcfocpaaGreatDoor.Code
attribute [local irreducible] callK S.W opsW scrW scrT
theorem readn {k : IntKind} {w : World} {v : Value} {l : List Int} (h : Sl k w v l) {n : Nat} (hn : l.length = n) : ∃ A c, v = .slice A n c ∧ n ≤ c ∧ Rd w A (nums k l) := by
 subst hn; obtain ⟨A, c, e, h1, h2, _⟩ := h.read; exact ⟨A, c, e, h1, h2⟩
structure Rws (w0 w : World) (X : Value) (vs : List Value) (ls : List (List Int)) : Prop where
 len : vs.length = ls.length
 each : ∀ (i : Nat) (v : Value) (l : List Int), vs[i]? = some v → ls[i]? = some l → Sl .u8 w v l
 up : ∀ (i : Nat) (v : Value) (b : Nat), vs[i]? = some v → blkOf v = some b → w0.heap.size ≤ b ∧ b < w.heap.size ∧ blkOf X ≠ some b
 apart : ∀ (i j : Nat) (u v : Value) (b : Nat), i ≠ j → vs[i]? = some u → vs[j]? = some v → blkOf u = some b → blkOf v ≠ some b
theorem Rws.nil (w0 w : World) (X : Value) : Rws w0 w X [] [] := ⟨rfl, fun i v l h => by simp at h, fun i v b h => by simp at h, fun i j u v b _ h => by simp at h⟩
theorem Rws.nb {w0 w w' : World} {X : Value} {vs : List Value} {ls : List (List Int)} (h : Rws w0 w X vs ls) (f : Fr w w' nob) : Rws w0 w' X vs ls :=
 ⟨h.len, fun i v l h1 h2 => Sl.nb (h.each i v l h1 h2) f, fun i v b h1 h2 => ⟨(h.up i v b h1 h2).1, Nat.lt_of_lt_of_le (h.up i v b h1 h2).2.1 f.size, (h.up i v b h1 h2).2.2⟩, h.apart⟩
theorem Rws.add {w0 w w' : World} {X v : Value} {vs : List Value} {ls : List (List Int)} {l : List Int} (h : Rws w0 w X vs ls) (hX : ∀ b, blkOf X = some b → b < w.heap.size) (f0 : Fr w0 w nob) (g : Gw .u8 w w' v l) : Rws w0 w' X (vs ++ [v]) (ls ++ [l]) := by
 have h' := h.nb g.fr
 have old : ∀ (i : Nat) (u : Value) (b : Nat), vs[i]? = some u → blkOf u = some b → b < w.heap.size := fun i u b h1 h2 => (h.up i u b h1 h2).2.1
 have spl : ∀ {i : Nat} {u : Value}, (vs ++ [v])[i]? = some u → (i < vs.length ∧ vs[i]? = some u) ∨ (i = vs.length ∧ u = v) := by
  intro i u hi
  by_cases hlt : i < vs.length
  ·rw[List.getElem?_append_left hlt] at hi; exact .inl ⟨hlt, hi⟩
  ·have hi' := (List.getElem?_eq_some_iff.1 hi).1
   simp at hi'
   have e : i = vs.length := by omega
   subst e
   simp at hi
   exact .inr ⟨rfl, hi.symm⟩
 refine ⟨by simp[h.len], fun i u l' h1 h2 => ?_, fun i u b h1 h2 => ?_, fun i j u u' b hne h1 h2 hb => ?_⟩
 ·rcases spl h1 with ⟨hlt, h1⟩ | ⟨rfl, rfl⟩
  ·rw[List.getElem?_append_left (by rw [← h.len]; exact hlt)] at h2
   exact h'.each i u l' h1 h2
  ·rw[h.len] at h2
   simp at h2
   subst h2
   exact g.sl
 ·rcases spl h1 with ⟨hlt, h1⟩ | ⟨rfl, rfl⟩
  ·exact h'.up i u b h1 h2
  ·have := g.up b h2
   have z := f0.size
   exact ⟨by omega, g.sl.lt h2, fun e => by have := hX b e; omega⟩
 ·rcases spl h1 with ⟨hlt, k1⟩ | ⟨k1, e1⟩
  ·rcases spl h2 with ⟨hlt2, k2⟩ | ⟨k2, e2⟩
   ·exact h.apart i j u u' b hne k1 k2 hb
   ·intro e
    rw[e2] at e
    have := g.up b e
    have := old i u b k1 hb
    omega
  ·rw[e1] at hb
   rcases spl h2 with ⟨hlt2, k2⟩ | ⟨k2, e2⟩
   ·intro e
    have := g.up b hb
    have := old j u' b k2 e
    omega
   ·exact absurd (k1.trans k2.symm) hne
theorem Rws.row {w0 w w' : World} {X X' : Value} {n : Nat} {cs : List Value} {vs : List Value} {ls : List (List Int)} (h : Rws w0 w X vs ls) {sz : Nat} (a : Ag sz w X n cs X' w') : Rws w0 w' X' vs ls := by
 refine ⟨h.len, fun i v l h1 h2 => (h.each i v l h1 h2).fr a.fr fun b e => (h.up i v b h1 e).2.2, fun i v b h1 h2 => ?_, h.apart⟩
 obtain ⟨u1, u2, u3⟩ := h.up i v b h1 h2
 refine ⟨u1, Nat.lt_of_lt_of_le u2 a.fr.size, fun e => ?_⟩
 rcases a.where_ with hw | hw
 ·exact u3 (hw ▸ e)
 ·have := hw b e; omega
def tcells (t : Tlv) (d r : Value) : List Value := [.int .i64 t.cls, .int .i64 t.tag, .bool t.cons, d, r]
def tflat (ts : List Tlv) : List (List Int) := ts.flatMap fun t => [t.data, t.raw]
def cellsT : List Tlv → List Value → List Value
 | t :: ts, d :: r :: vs => tcells t d r ++ cellsT ts vs
 | _, _ => []
theorem tflat_len (ts : List Tlv) : (tflat ts).length = 2 * ts.length := by
 induction ts with
 | nil => rfl
 | cons t ts ih => simp only[tflat,List.flatMap_cons,List.length_append,List.length_cons,List.length_nil] at *; omega
theorem tflat_add (ts : List Tlv) (t : Tlv) : tflat (ts ++ [t]) = tflat ts ++ [t.data, t.raw] := by simp[tflat]
theorem cellsT_add : ∀ (ts : List Tlv) (vs : List Value) (t : Tlv) (d r : Value), vs.length = 2 * ts.length → cellsT (ts ++ [t]) (vs ++ [d, r]) = cellsT ts vs ++ tcells t d r
 | [], vs, t, d, r, h => by
  have : vs = [] := List.length_eq_zero_iff.1 (by simpa using h)
  subst this; simp[cellsT]
 | t :: ts, d :: r :: vs, t', d', r', h => by
  simp only[cellsT,List.cons_append]
  rw[cellsT_add ts vs t' d' r' (by simp at h; omega),List.append_assoc]
 | t :: ts, [], _, _, _, h => by simp at h
 | t :: ts, [d], _, _, _, h => by simp at h; omega
structure Tls (w0 w : World) (X : Value) (ts : List Tlv) (vs : List Value) : Prop where
 g : Gg 5 w0 w X ts.length (cellsT ts vs)
 r : Rws w0 w X vs (tflat ts)
theorem Tls.nil (w : World) : Tls w w (.slice none 0 0) [] [] := ⟨Gg.nil 5 w, Rws.nil w w _⟩
theorem Tls.nb {w0 w w' : World} {X : Value} {ts : List Tlv} {vs : List Value} (h : Tls w0 w X ts vs) (f : Fr w w' nob) : Tls w0 w' X ts vs := ⟨h.g.step f, h.r.nb f⟩
theorem Tls.vlen {w0 w : World} {X : Value} {ts : List Tlv} {vs : List Value} (h : Tls w0 w X ts vs) : vs.length = 2 * ts.length := by rw[h.r.len,tflat_len]
end Go.Proofs.YtcgplgpdcfocpaaGreatDoor.Der
end
section
namespace Go.Proofs.YtcgplgpdcfocpaaGreatDoor.Der
open Go Go.RowKit Go.Proofs Go.Proofs.YtcgplgpdcfocpaaGreatDoor.Eng Go.Proofs.YtcgplgpdcfocpaaGreatDoor.Code
attribute [local irreducible] callK S.W opsW scrW scrT
theorem Gg.lt {sz : Nat} {w0 w : World} {v : Value} {n : Nat} {cs : List Value} (g : Gg sz w0 w v n cs) : ∀ b, blkOf v = some b → b < w.heap.size := fun b e => g.sl.lt e
theorem Tls.add {w0 w w1 w2 w3 w4 : World} {X X' : Value} {ts : List Tlv} {vs : List Value} {t : Tlv} {d r : Value} (h : Tls w0 w X ts vs) (gd : Gw .u8 w w1 d t.data) (gr : Gw .u8 w1 w2 r t.raw) (f : Fr w2 w3 nob) (a : Ag 5 w3 X (ts.length + 1) (cellsT ts vs ++ tcells t d r) X' w4) : Tls w0 w4 X' (ts ++ [t]) (vs ++ [d, r]) := by
 have hX : ∀ b, blkOf X = some b → b < w.heap.size := fun b e => h.g.sl.lt e
 have r1 := h.r.add hX h.g.fr gd
 have r2 := r1.add (fun b e => Nat.lt_of_lt_of_le (hX b e) gd.fr.size) (h.g.fr.nb gd.fr) gr
 have r3 := (r2.nb f).row a
 refine ⟨?_, ?_⟩
 ·rw[List.length_append,cellsT_add ts vs t d r h.vlen]
  exact (((h.g.step gd.fr).step gr.fr).step f).apd a
 ·rw[tflat_add]
  simpa using r3
end Go.Proofs.YtcgplgpdcfocpaaGreatDoor.Der
end
section
namespace Go.Proofs.YtcgplgpdcfocpaaGreatDoor.Der
open Go Go.RowKit Go.Proofs Go.Proofs.YtcgplgpdcfocpaaGreatDoor.Eng Go.Proofs.YtcgplgpdcfocpaaGreatDoor.Code
attribute [local irreducible] callK S.W opsW scrW scrT
theorem pos_cells {w : World} {A : Option Addr} {l : List Int} (hr : Rd w A (nums .u8 l)) (h0 : 0 < l.length) : ∃ ad, A = some ad ∧ ∀ i : Nat, i < l.length → w.cell? (ad.add i) = some (.int .u8 (at' l (i : Int))) := by
 obtain ⟨ad, e, _, hcl⟩ := hr.get (by rw[nums_length]; omega)
 exact ⟨ad, e, fun i hi => hcl.numN hi⟩
def pr2 (a : Value) (e : Int) : Value := .tuple #[a, .int .i64 e]
end Go.Proofs.YtcgplgpdcfocpaaGreatDoor.Der
end
section
namespace Go.Proofs.YtcgplgpdcfocpaaGreatDoor.Der
open Go Go.RowKit Go.Proofs Go.Proofs.YtcgplgpdcfocpaaGreatDoor.Eng Go.Proofs.YtcgplgpdcfocpaaGreatDoor.Code
attribute [local irreducible] callK S.W opsW scrW scrT
def stripZ : List Int → List Int
 | [] => []
 | x :: r => if x = 0 then stripZ r else x :: r
theorem trimb_vw {w : World} {v : Value} {l : List Int} (hv : Vw .u8 w v l) (h63 : l.length ≤ 9223372036854775807) (K : Value → World → Prop)
  (hK : ∀ v', Vw .u8 w v' (stripZ l) → K v' w) : callK Tryz.prog 66 [v, .int .u8 0] w K := by
 obtain ⟨A, c, rfl, hc, hr⟩ := hv
 refine call_of Tryz.func66 Code.h66 (by simp[Code.c66]) ?_
 simp(disch:=omega)only[Zu,Zv,Zx,Zz,EZ,↓EP,↓reduceIte,Za,Zb,Zc,Zd,Ze,Zf,Zg,Zj,Zk,Zl,Zm,Zn,Zp,Zq,reduceCtorEq,Code.c66]
 refine loop_inv (fun t ρ w' => w' = w ∧ ∃ (A' : Option Addr) (c' : Nat) (l' : List Int), ρ 0 = .slice A' l'.length c' ∧ ρ 1 = .int .u8 0 ∧ l'.length ≤ c' ∧ l'.length ≤ l.length ∧ t = l'.length ∧ Rd w A' (nums .u8 l') ∧ stripZ l' = stripZ l) _ ⟨rfl, A, c, l, by simp(disch:=omega)only[Zu,Zv,Zx,Zz,EZ,↓EP,↓reduceIte,Za,Zb,Zc,Zd,Ze,Zf,Zg,Zj,Zk,Zl,Zm,Zn,Zp,Zq,reduceCtorEq], by simp(disch:=omega)only[Zu,Zv,Zx,Zz,EZ,↓EP,↓reduceIte,Za,Zb,Zc,Zd,Ze,Zf,Zg,Zj,Zk,Zl,Zm,Zn,Zp,Zq,reduceCtorEq], hc, Nat.le_refl _, rfl, hr, rfl⟩ ?_
 rintro t ρ w' hf ⟨rfl, A', c', l', h0, h1, hc', hll, rfl, hr', hs⟩ N hN
 clear hf
 by_cases hl : l'.length = 0
 ·have : l' = [] := List.length_eq_zero_iff.1 hl
  subst this
  simp(disch:=omega)only[Zu,Zv,Zx,Zz,EZ,↓EP,↓reduceIte,Za,Zb,Zc,Zd,Ze,Zf,Zg,Zj,Zk,Zl,Zm,Zn,Zp,Zq,reduceCtorEq,h0,h1,List.length_nil,Int.natCast_zero]
  rw[← hs] at hK
  exact hK _ (Vw.nil _ _)
 ·obtain ⟨ad, rfl, cell⟩ := pos_cells hr' (by omega)
  have c0 := cell 0 (by omega)
  rw[show ((0 : Nat) : Int) = 0 by rfl] at c0
  have hd := drop_at (show 0 < l'.length by omega)
  rw[List.drop_zero, show ((0 : Nat) : Int) = 0 by rfl] at hd
  by_cases hz : at' l' 0 = 0
  ·simp(disch:=omega)only[Zu,Zv,Zx,Zz,EZ,↓EP,↓reduceIte,Za,Zb,Zc,Zd,Ze,Zf,Zg,Zj,Zk,Zl,Zm,Zn,Zp,Zq,reduceCtorEq,h0,h1,c0,hz]
   refine hN (l'.length - 1) _ _ (by omega) ⟨rfl, subA (some ad) c' 1 1, c' - 1, l'.drop 1, by simp(disch:=omega)only[Zu,Zv,Zx,Zz,EZ,↓EP,↓reduceIte,Za,Zb,Zc,Zd,Ze,Zf,Zg,Zj,Zk,Zl,Zm,Zn,Zp,Zq,reduceCtorEq,h0,List.length_drop], by simp(disch:=omega)only[Zu,Zv,Zx,Zz,EZ,↓EP,↓reduceIte,Za,Zb,Zc,Zd,Ze,Zf,Zg,Zj,Zk,Zl,Zm,Zn,Zp,Zq,reduceCtorEq,h1], by simp; omega, by simp; omega, by simp, hr'.subA c' 1 hc', ?_⟩
   rw[← hs,hd,stripZ,if_pos hz]; rfl
  ·have hzf : (at' l' 0 = 0) = False := eq_false hz
   simp(disch:=omega)only[Zu,Zv,Zx,Zz,EZ,↓EP,↓reduceIte,Za,Zb,Zc,Zd,Ze,Zf,Zg,Zj,Zk,Zl,Zm,Zn,Zp,Zq,reduceCtorEq,h0,h1,c0,hzf]
   rw[← hs,hd,stripZ,if_neg hz,← hd] at hK
   exact hK _ (Vw.of rfl hc' hr')
theorem eq_z0 (K : Value → Prop) : binK .eql (.string ⟨#[0]⟩) (.string ⟨#[]⟩) K = K (.bool false) := by
 have : ((⟨#[0]⟩ : ByteArray).toList == (⟨#[]⟩ : ByteArray).toList) = false := by decide +kernel
 rw[b_seql,this]
theorem ix_z (K : Value → Prop) : ixsK ⟨#[0]⟩ 0 K = K (.int .u8 0) := propext ⟨fun h => h.2.2, fun h => ⟨by decide, by decide, h⟩⟩
theorem sz_z : (⟨#[0]⟩ : ByteArray).size = 1 := rfl
theorem trim_vw {w : World} {v : Value} {l : List Int} (hv : Vw .u8 w v l) (h63 : l.length ≤ 9223372036854775807) (K : Value → World → Prop)
  (hK : ∀ v', Vw .u8 w v' (stripZ l) → K v' w) : callK Tryz.prog 39 [v, .string ⟨#[0]⟩] w K := by
 have hv0 := hv
 obtain ⟨A, c, rfl, hc, hr⟩ := hv
 refine call_of Tryz.func39 Code.h39 (by simp[Code.c39]) ?_
 by_cases hl : l.length = 0
 ·have : l = [] := List.length_eq_zero_iff.1 hl
  subst this
  simp(disch:=omega)only[Zu,Zv,Zx,Zz,EZ,↓EP,↓reduceIte,Za,Zb,Zc,Zd,Ze,Zf,Zg,Zj,Zk,Zl,Zm,Zn,Zp,Zq,reduceCtorEq,Code.c39,List.length_nil,Int.natCast_zero]
  exact hK _ (Vw.nil _ _)
 ·simp(disch:=omega)only[Zu,Zv,Zx,Zz,EZ,↓EP,↓reduceIte,Za,Zb,Zc,Zd,Ze,Zf,Zg,Zj,Zk,Zl,Zm,Zn,Zp,Zq,reduceCtorEq,Code.c39,eq_z0,sz_z,Int.natCast_one,ix_z]
  refine trimb_vw hv0 h63 _ fun v' h' => ?_
  simp(disch:=omega)only[Zu,Zv,Zx,Zz,EZ,↓EP,↓reduceIte,Za,Zb,Zc,Zd,Ze,Zf,Zg,Zj,Zk,Zl,Zm,Zn,Zp,Zq,reduceCtorEq]
  exact hK v' h'
end Go.Proofs.YtcgplgpdcfocpaaGreatDoor.Der
end
section
namespace Go.Proofs.YtcgplgpdcfocpaaGreatDoor.Der
open Go Go.RowKit Go.Proofs Go.Proofs.YtcgplgpdcfocpaaGreatDoor.Eng Go.Proofs.YtcgplgpdcfocpaaGreatDoor.Code
attribute [local irreducible] callK S.W opsW scrW scrT
open Go.Sort
end Go.Proofs.YtcgplgpdcfocpaaGreatDoor.Der
end
section
namespace Go.Proofs.YtcgplgpdcfocpaaGreatDoor.Der
open Go Go.RowKit Go.Proofs Go.Proofs.YtcgplgpdcfocpaaGreatDoor.Eng Go.Proofs.YtcgplgpdcfocpaaGreatDoor.Code
attribute [local irreducible] callK S.W opsW scrW scrT
theorem satA_bd {v : Int} (h : 0 ≤ v) : 0 ≤ satA v ∧ satA v ≤ 1099511627776 := by unfold satA; split <;> omega
end Go.Proofs.YtcgplgpdcfocpaaGreatDoor.Der
end
section
namespace Go.Proofs.YtcgplgpdcfocpaaGreatDoor.Der
open Go Go.RowKit Go.Proofs Go.Proofs.YtcgplgpdcfocpaaGreatDoor.Eng Go.Proofs.YtcgplgpdcfocpaaGreatDoor.Code
attribute [local irreducible] callK S.W opsW scrW scrT
theorem u64_and127 {a : Int} (h : 0 ≤ a) (h' : a < 18446744073709551616) : bits .and .u64 a 127 = a % 128 := by
 obtain ⟨a, rfl⟩ := Int.eq_ofNat_of_zero_le h
 have ea : (BitVec.ofInt 64 (a : Int)).toNat = a := by simp; omega
 have eb : (BitVec.ofInt 64 (127 : Int)).toNat = 127 := by decide
 show IntKind.u64.wrap ((BitVec.ofInt 64 (a : Int) &&& BitVec.ofInt 64 (127 : Int)).toNat : Int) = _
 rw[BitVec.toNat_and, ea, eb, show (127 : Nat) = 2 ^ 7 - 1 by rfl, Nat.and_two_pow_sub_one_eq_mod]
 rw[Zu (by omega) (by omega)]
 omega
theorem sevenHi_z : ∀ f, sevenHi f 0 = []
 | 0 => rfl
 | f + 1 => by rw[sevenHi,if_pos rfl]
theorem sevenHi_len : ∀ f v, (sevenHi f v).length ≤ f
 | 0, v => by simp[sevenHi]
 | f + 1, v => by
  rw[sevenHi]
  split
  ·simp
  ·have := sevenHi_len f (v / 128)
   simp; omega
theorem seven_len (v : Nat) : (sevenR v).length ≤ 11 := by
 have := sevenHi_len 10 (v / 128)
 simp[sevenR]; omega
theorem seven_vw {w : World} {v : Nat} (hv : v < 9223372036854775808) (K : Value → World → Prop)
  (hK : ∀ v' w', Gw .u8 w w' v' (sevenR v) → K v' w') : callK Tryz.prog 102 [.int .u64 v] w K := by
 refine call_of Tryz.func102 Code.h102 (by simp[Code.c102]) ?_
 have e0 := u64_and127 (a := (v : Int)) (by omega) (by omega)
 have e1 : IntKind.u8.wrap ((v : Int) % 128) = (v : Int) % 128 := Zx (by omega) (by omega)
 simp(disch:=omega)only[Zu,Zv,Zx,Zz,EZ,↓EP,↓reduceIte,Za,Zb,Zc,Zd,Ze,Zf,Zg,Zj,Zk,Zl,Zm,Zn,Zp,Zq,reduceCtorEq,Code.c102,e0,e1]
 refine bsl1 fun w1 n1 => ?_
 have g1 : Gw .u8 w w1 (.slice (some ⟨w.heap.size, 0, none⟩) 1 1) [(v : Int) % 128] := ⟨n1.sl, fun b e => by cases e; exact Nat.le_refl _, n1.fr nob⟩
 simp(disch:=omega)only[Zu,Zv,Zx,Zz,EZ,↓EP,↓reduceIte,Za,Zb,Zc,Zd,Ze,Zf,Zg,Zj,Zk,Zl,Zm,Zn,Zp,Zq,reduceCtorEq]
 refine loop_inv (fun t ρ w' => ∃ (x f : Nat) (B : Value) (l : List Int), ρ 0 = .int .u64 x ∧ ρ 3 = B ∧ Gw .u8 w w' B l ∧ t = x ∧ x < 128 ^ f ∧ f ≤ 10 ∧ l.length + f ≤ 11 ∧ x < 9223372036854775808 ∧ sevenHi f x ++ l = sevenR v) _ ⟨v / 128, 10, _, _, by simp(disch:=omega)only[Zu,Zv,Zx,Zz,EZ,↓EP,↓reduceIte,Za,Zb,Zc,Zd,Ze,Zf,Zg,Zj,Zk,Zl,Zm,Zn,Zp,Zq,reduceCtorEq,Int.natCast_ediv], by simp(disch:=omega)only[Zu,Zv,Zx,Zz,EZ,↓EP,↓reduceIte,Za,Zb,Zc,Zd,Ze,Zf,Zg,Zj,Zk,Zl,Zm,Zn,Zp,Zq,reduceCtorEq], g1, rfl, by omega, by omega, by simp, by omega, by simp[sevenR]⟩ ?_
 rintro t ρ w2 hf ⟨x, f, B, l, h0, h3, g, ht, hx, hf10, hl, hx63, hs⟩ N hN
 clear hf
 obtain ⟨BA, bc, rfl, hbc, hBr⟩ := readn g.sl rfl
 by_cases hx0 : x = 0
 ·rw[hx0] at h0 hs
  rw[sevenHi_z,List.nil_append] at hs
  subst hs
  simp(disch:=omega)only[Zu,Zv,Zx,Zz,EZ,↓EP,↓reduceIte,Za,Zb,Zc,Zd,Ze,Zf,Zg,Zj,Zk,Zl,Zm,Zn,Zp,Zq,reduceCtorEq,h0,h3,Int.natCast_zero]
  exact hK _ w2 g
 ·obtain ⟨f, rfl⟩ : ∃ g, f = g + 1 := by
   cases f with
   | zero => simp at hx; omega
   | succ f => exact ⟨f, rfl⟩
  have ewb : IntKind.u8.wrap (x : Int) = ((x % 256 : Nat) : Int) := by rw[wu8_mod]; omega
  have eor : bits .or .u8 ((x % 256 : Nat) : Int) 128 = ((x % 128 + 128 : Nat) : Int) := by
   rw[d8_or128 ⟨by omega, by omega⟩]; omega
  rw[Nat.pow_succ] at hx
  rw[sevenHi,if_neg hx0] at hs
  simp(disch:=omega)only[Zu,Zv,Zx,Zz,EZ,↓EP,↓reduceIte,Za,Zb,Zc,Zd,Ze,Zf,Zg,Zj,Zk,Zl,Zm,Zn,Zp,Zq,reduceCtorEq,h0,h3,ewb,eor]
  refine bsl1 fun w3 n3 => ?_
  simp(disch:=omega)only[Zu,Zv,Zx,Zz,EZ,↓EP,↓reduceIte,Za,Zb,Zc,Zd,Ze,Zf,Zg,Zj,Zk,Zl,Zm,Zn,Zp,Zq,reduceCtorEq,h3]
  refine app_num n3.sl rfl (hBr.nb (n3.fr nob)) (by simp; omega) (by omega) fun v4 w4 a4 => ?_
  have g4 : Gw .u8 w w4 v4 (((x % 128 + 128 : Nat) : Int) :: l) := by
   have := (⟨n3.sl, fun b e => by cases e; exact Nat.le_refl _, n3.fr nob⟩ : Gw .u8 w2 w3 (.slice (some ⟨w2.heap.size, 0, none⟩) 1 1) [((x % 128 + 128 : Nat) : Int)]).apd a4
   exact this.from g.fr
  simp(disch:=omega)only[Zu,Zv,Zx,Zz,EZ,↓EP,↓reduceIte,Za,Zb,Zc,Zd,Ze,Zf,Zg,Zj,Zk,Zl,Zm,Zn,Zp,Zq,reduceCtorEq,h0]
  exact hN (x / 128) _ _ (by omega) ⟨x / 128, f, v4, _, by simp(disch:=omega)only[Zu,Zv,Zx,Zz,EZ,↓EP,↓reduceIte,Za,Zb,Zc,Zd,Ze,Zf,Zg,Zj,Zk,Zl,Zm,Zn,Zp,Zq,reduceCtorEq,h0,Int.natCast_ediv], by simp(disch:=omega)only[Zu,Zv,Zx,Zz,EZ,↓EP,↓reduceIte,Za,Zb,Zc,Zd,Ze,Zf,Zg,Zj,Zk,Zl,Zm,Zn,Zp,Zq,reduceCtorEq], g4, rfl, by omega, by omega, by simp at hl ⊢; omega, by omega, by rw[← hs]; simp⟩
end Go.Proofs.YtcgplgpdcfocpaaGreatDoor.Der
end
section
namespace Go.Proofs.YtcgplgpdcfocpaaGreatDoor.Der
open Go Go.RowKit Go.Proofs Go.Proofs.YtcgplgpdcfocpaaGreatDoor.Eng Go.Proofs.YtcgplgpdcfocpaaGreatDoor.Code
attribute [local irreducible] callK S.W opsW scrW scrT
structure LV (w : World) (X : Value) (ls : List (List Int)) : Prop where
 ex : ∃ A c vs, X = .slice A ls.length c ∧ ls.length ≤ c ∧ Rd w A vs ∧ vs.length = ls.length ∧ ∀ (i : Nat) v l, vs[i]? = some v → ls[i]? = some l → Vw .u8 w v l
theorem LV.nb {w w' : World} {X : Value} {ls : List (List Int)} (h : LV w X ls) (f : Fr w w' nob) : LV w' X ls := by
 obtain ⟨A, c, vs, e, hc, hr, hv, he⟩ := h.ex
 refine ⟨A, c, vs, e, hc, hr.nb f, hv, fun i v l h1 h2 => ?_⟩
 obtain ⟨B, d, e2, hd, hB⟩ := he i v l h1 h2
 exact ⟨B, d, e2, hd, hB.nb f⟩
theorem LV.at {w : World} {A : Option Addr} {n c : Nat} {ls : List (List Int)} (h : LV w (.slice A n c) ls) {i : Nat} (hi : i < ls.length) : ∃ ad dA dc, A = some ad ∧ n = ls.length ∧ w.cell? (ad.add i) = some (.slice dA ls[i].length dc) ∧ ls[i].length ≤ dc ∧ Rd w dA (nums .u8 ls[i]) := by
 obtain ⟨A', c', vs, e, hc, hr, hv, he⟩ := h.ex
 cases e
 have hiv : i < vs.length := by omega
 obtain ⟨ad, ea, hcell⟩ := hr.at (List.getElem?_eq_getElem hiv)
 obtain ⟨dA, dc, e2, hdc, hdr⟩ := he i vs[i] ls[i] (List.getElem?_eq_getElem hiv) (List.getElem?_eq_getElem hi)
 rw[e2] at hcell
 exact ⟨ad, dA, dc, ea, rfl, hcell, hdc, hdr⟩
def tot (ls : List (List Int)) (j : Nat) : Nat := ((ls.take j).map List.length).sum
theorem take_one {α : Type} {ls : List α} {j : Nat} (h : j < ls.length) : ls.take (j + 1) = ls.take j ++ [ls[j]] := by
 rw[List.take_add_one,List.getElem?_eq_getElem h]; rfl
theorem sum_app (a b : List Nat) : (a ++ b).sum = a.sum + b.sum := by
 induction a with
 | nil => simp
 | cons x r ih => simp only[List.cons_append,List.sum_cons,ih]; omega
theorem tot_succ {ls : List (List Int)} {j : Nat} (h : j < ls.length) : tot ls (j + 1) = tot ls j + ls[j].length := by
 unfold tot
 rw[take_one h,List.map_append,sum_app]
 simp only[List.map_cons,List.map_nil,List.sum_cons,List.sum_nil,Nat.add_zero]
theorem tot_all (ls : List (List Int)) : tot ls ls.length = (ls.map List.length).sum := by simp[tot]
theorem tot_le (ls : List (List Int)) (j : Nat) : tot ls j ≤ (ls.map List.length).sum := by
 have : (ls.map List.length).sum = tot ls j + ((ls.drop j).map List.length).sum := by
  unfold tot
  rw[← sum_app,← List.map_append,List.take_append_drop]
 omega
theorem flat_succ {ls : List (List Int)} {j : Nat} (h : j < ls.length) : (ls.take (j + 1)).flatten = (ls.take j).flatten ++ ls[j] := by
 rw[take_one h,List.flatten_append]; simp only[List.flatten_cons,List.flatten_nil,List.append_nil]
theorem flat_len (ls : List (List Int)) (j : Nat) : (ls.take j).flatten.length = tot ls j := by
 unfold tot; simp[List.length_flatten]
theorem or_hi : ∀ a : Nat, a < 8 → ∀ t : Nat, t < 32 → bits .or .u8 ((a * 32 : Nat) : Int) (t : Int) = ((a * 32 + t : Nat) : Int) := by decide +kernel
theorem first_or {a t : Int} (h0 : 0 ≤ a) (h1 : a < 256) (h2 : a % 32 = 0) (h3 : 0 ≤ t) (h4 : t < 32) : bits .or .u8 a t = a + t := by
 obtain ⟨a, rfl⟩ := Int.eq_ofNat_of_zero_le h0
 obtain ⟨t, rfl⟩ := Int.eq_ofNat_of_zero_le h3
 have := or_hi (a / 32) (by omega) t (by omega)
 rw[show a / 32 * 32 = a by omega] at this
 rw[this]; omega
theorem or_32n : ∀ a : Nat, a < 4 → bits .or .u8 ((a * 64 : Nat) : Int) 32 = ((a * 64 + 32 : Nat) : Int) := by decide +kernel
theorem cls_or {a : Int} (h0 : 0 ≤ a) (h1 : a ≤ 3) : bits .or .u8 (a * 64) 32 = a * 64 + 32 := by
 obtain ⟨a, rfl⟩ := Int.eq_ofNat_of_zero_le h0
 have := or_32n a (by omega)
 rw[show ((a : Int) * 64) = ((a * 64 : Nat) : Int) by omega, this]; omega
def firstR (cls : Int) (cons : Bool) : Int := cls * 64 + (if cons then 32 else 0)
theorem firstR_bd {cls : Int} {cons : Bool} (h0 : 0 ≤ cls) (h1 : cls ≤ 3) : 0 ≤ firstR cls cons ∧ firstR cls cons < 256 ∧ firstR cls cons % 32 = 0 := by
 unfold firstR
 cases cons <;> simp <;> omega
def headA (first tag : Int) : List Int := if tag < 31 then [first + tag] else (first + 31) :: sevenR tag.toNat
theorem headR_eq (cls tag : Int) (cons : Bool) (n : Nat) : headR cls tag cons n = headA (firstR cls cons) tag ++ lenBytes n := rfl
theorem headA_len (first tag : Int) : (headA first tag).length ≤ 12 := by
 unfold headA
 split
 ·simp
 ·have := seven_len tag.toNat
  simp; omega
theorem be_len : ∀ f n, (bytesBE f n).length ≤ f
 | 0, n => by simp[bytesBE]
 | f + 1, n => by
  rw[bytesBE]
  split
  ·simp
  ·have := be_len f (n / 256)
   simp; omega
theorem lenB_len (n : Nat) : (lenBytes n).length ≤ 5 := by
 unfold lenBytes
 split
 ·simp
 ·have := be_len 4 n
  simp; omega
theorem new_cap {w w' : World} {c : Nat} (n : New w w' (nums .u8 (List.replicate c 0))) : Gw .u8 w w' (.slice (some ⟨w.heap.size, 0, none⟩) 0 c) [] :=
 ⟨.inr ⟨w.heap.size, List.replicate c 0, by simp, by simpa using n.blk⟩, fun b e => by cases e; exact Nat.le_refl _, n.fr nob⟩
theorem strip_be {n : Nat} (h : n < 4294967296) : stripZ [((n / 16777216 % 256 : Nat) : Int), ((n / 65536 % 256 : Nat) : Int), ((n / 256 % 256 : Nat) : Int), ((n % 256 : Nat) : Int)] = bytesBE 4 n := by
 simp only[bytesBE,stripZ]
 by_cases h0 : n = 0
 ·subst h0; rfl
 by_cases h1 : n / 256 = 0
 ·have e1 : n / 16777216 % 256 = 0 := by omega
  have e2 : n / 65536 % 256 = 0 := by omega
  have e3 : n / 256 % 256 = 0 := by omega
  have e4 : n % 256 ≠ 0 := by omega
  simp[e1,e2,e3,e4,h0,h1]
  omega
 by_cases h2 : n / 256 / 256 = 0
 ·have e1 : n / 16777216 % 256 = 0 := by omega
  have e2 : n / 65536 % 256 = 0 := by omega
  have e3 : n / 256 % 256 ≠ 0 := by omega
  rw[if_pos (by omega),if_pos (by omega),if_neg (by omega),if_neg h0,if_neg h1,if_pos h2]
  simp
 by_cases h3 : n / 256 / 256 / 256 = 0
 ·have e1 : n / 16777216 % 256 = 0 := by omega
  have e2 : n / 65536 % 256 ≠ 0 := by omega
  rw[if_pos (by omega),if_neg (by omega),if_neg h0,if_neg h1,if_neg h2,if_pos h3]
  simp[Nat.div_div_eq_div_mul]
 ·rw[if_neg (by omega),if_neg h0,if_neg h1,if_neg h2,if_neg h3]
  simp[Nat.div_div_eq_div_mul]
theorem trimb_all {w : World} {A : Option Addr} {c : Nat} {l : List Int} (hc : l.length ≤ c) (hr : Rd w A (nums .u8 l)) (h63 : l.length ≤ 9223372036854775807) (K : Value → World → Prop)
  (hK : ∀ A' c', (stripZ l).length ≤ c' → (∀ w2, Rd w2 A (nums .u8 l) → Rd w2 A' (nums .u8 (stripZ l))) → K (.slice A' (stripZ l).length c') w) : callK Tryz.prog 66 [.slice A l.length c, .int .u8 0] w K := by
 refine call_of Tryz.func66 Code.h66 (by simp[Code.c66]) ?_
 simp(disch:=omega)only[Zu,Zv,Zx,Zz,EZ,↓EP,↓reduceIte,Za,Zb,Zc,Zd,Ze,Zf,Zg,Zj,Zk,Zl,Zm,Zn,Zp,Zq,reduceCtorEq,Code.c66]
 refine loop_inv (fun t ρ w' => w' = w ∧ ∃ (A' : Option Addr) (c' : Nat) (l' : List Int), ρ 0 = .slice A' l'.length c' ∧ ρ 1 = .int .u8 0 ∧ l'.length ≤ c' ∧ l'.length ≤ l.length ∧ t = l'.length ∧ (∀ w2, Rd w2 A (nums .u8 l) → Rd w2 A' (nums .u8 l')) ∧ stripZ l' = stripZ l) _ ⟨rfl, A, c, l, by simp(disch:=omega)only[Zu,Zv,Zx,Zz,EZ,↓EP,↓reduceIte,Za,Zb,Zc,Zd,Ze,Zf,Zg,Zj,Zk,Zl,Zm,Zn,Zp,Zq,reduceCtorEq], by simp(disch:=omega)only[Zu,Zv,Zx,Zz,EZ,↓EP,↓reduceIte,Za,Zb,Zc,Zd,Ze,Zf,Zg,Zj,Zk,Zl,Zm,Zn,Zp,Zq,reduceCtorEq], hc, Nat.le_refl _, rfl, fun _ h => h, rfl⟩ ?_
 rintro t ρ w' hf ⟨rfl, A', c', l', h0, h1, hc', hll, rfl, hall, hs⟩ N hN
 have hr' := hall w' hr
 clear hf
 by_cases hl : l'.length = 0
 ·have : l' = [] := List.length_eq_zero_iff.1 hl
  subst this
  simp(disch:=omega)only[Zu,Zv,Zx,Zz,EZ,↓EP,↓reduceIte,Za,Zb,Zc,Zd,Ze,Zf,Zg,Zj,Zk,Zl,Zm,Zn,Zp,Zq,reduceCtorEq,h0,h1,List.length_nil,Int.natCast_zero]
  rw[← hs] at hK
  exact hK none 0 (Nat.le_refl _) fun _ _ => .inl rfl
 ·obtain ⟨ad, rfl, cell⟩ := pos_cells hr' (by omega)
  have c0 := cell 0 (by omega)
  rw[show ((0 : Nat) : Int) = 0 by rfl] at c0
  have hd := drop_at (show 0 < l'.length by omega)
  rw[List.drop_zero, show ((0 : Nat) : Int) = 0 by rfl] at hd
  by_cases hz : at' l' 0 = 0
  ·simp(disch:=omega)only[Zu,Zv,Zx,Zz,EZ,↓EP,↓reduceIte,Za,Zb,Zc,Zd,Ze,Zf,Zg,Zj,Zk,Zl,Zm,Zn,Zp,Zq,reduceCtorEq,h0,h1,c0,hz]
   refine hN (l'.length - 1) _ _ (by omega) ⟨rfl, subA (some ad) c' 1 1, c' - 1, l'.drop 1, by simp(disch:=omega)only[Zu,Zv,Zx,Zz,EZ,↓EP,↓reduceIte,Za,Zb,Zc,Zd,Ze,Zf,Zg,Zj,Zk,Zl,Zm,Zn,Zp,Zq,reduceCtorEq,h0,List.length_drop], by simp(disch:=omega)only[Zu,Zv,Zx,Zz,EZ,↓EP,↓reduceIte,Za,Zb,Zc,Zd,Ze,Zf,Zg,Zj,Zk,Zl,Zm,Zn,Zp,Zq,reduceCtorEq,h1], by simp; omega, by simp; omega, by simp, fun w2 h2 => (hall w2 h2).subA c' 1 hc', ?_⟩
   rw[← hs,hd,stripZ,if_pos hz]; rfl
  ·have hzf : (at' l' 0 = 0) = False := eq_false hz
   simp(disch:=omega)only[Zu,Zv,Zx,Zz,EZ,↓EP,↓reduceIte,Za,Zb,Zc,Zd,Ze,Zf,Zg,Zj,Zk,Zl,Zm,Zn,Zp,Zq,reduceCtorEq,h0,h1,c0,hzf]
   rw[← hs,hd,stripZ,if_neg hz,← hd] at hK
   exact hK _ _ hc' hall
theorem trim_n {w : World} {A : Option Addr} {c : Nat} {l q : List Int} (hc : l.length ≤ c) (hr : Rd w A (nums .u8 l)) (h0 : 0 < l.length) (h63 : l.length ≤ 9223372036854775807) (hq : stripZ l = q) (K : Value → World → Prop)
  (hK : ∀ A' c', q.length ≤ c' → (∀ w2, Rd w2 A (nums .u8 l) → Rd w2 A' (nums .u8 q)) → K (.slice A' q.length c') w) : callK Tryz.prog 39 [.slice A l.length c, .string ⟨#[0]⟩] w K := by
 subst hq
 refine call_of Tryz.func39 Code.h39 (by simp[Code.c39]) ?_
 simp(disch:=omega)only[Zu,Zv,Zx,Zz,EZ,↓EP,↓reduceIte,Za,Zb,Zc,Zd,Ze,Zf,Zg,Zj,Zk,Zl,Zm,Zn,Zp,Zq,reduceCtorEq,Code.c39,eq_z0,sz_z,Int.natCast_one,ix_z]
 refine trimb_all hc hr h63 _ fun A' c' hc' hall => ?_
 simp(disch:=omega)only[Zu,Zv,Zx,Zz,EZ,↓EP,↓reduceIte,Za,Zb,Zc,Zd,Ze,Zf,Zg,Zj,Zk,Zl,Zm,Zn,Zp,Zq,reduceCtorEq]
 exact hK A' c' hc' hall
end Go.Proofs.YtcgplgpdcfocpaaGreatDoor.Der
end
section
namespace Go.Proofs.YtcgplgpdcfocpaaGreatDoor.Der
open Go Go.RowKit Go.Proofs Go.Proofs.YtcgplgpdcfocpaaGreatDoor.Eng Go.Proofs.YtcgplgpdcfocpaaGreatDoor.Code
attribute [local irreducible] callK S.W opsW scrW scrT
set_option maxHeartbeats 4000000 in
theorem put_vw {w : World} {cls tag : Int} {cons : Bool} {X : Value} {ls : List (List Int)} (hX : LV w X ls) (hcl : -9223372036854775808 ≤ cls ∧ cls ≤ 9223372036854775807) (htg : -9223372036854775808 ≤ tag ∧ tag ≤ 9223372036854775807) (h63 : ls.length ≤ 9223372036854775807)
  (hl63 : ∀ l ∈ ls, l.length ≤ 9223372036854775807) (K : Value → World → Prop)
  (hK : ∀ v' w', Gw .u8 w w' v' (putR cls tag cons ls).1 → K (pr2 v' (putR cls tag cons ls).2) w') : callK Tryz.prog 77 [.int .i64 cls, .int .i64 tag, .bool cons, X] w K := by
 have hX0 := hX.ex
 obtain ⟨A, c, vs, rfl, hc, _⟩ := hX0
 refine call_of Tryz.func77 Code.h77 (by simp[Code.c77]) ?_
 unfold putR at hK
 by_cases hbad : cls < 0 ∨ 3 < cls ∨ tag < 0 ∨ 268435455 < tag ∨ (cls = 0 ∧ tag = 0)
 ·rw[if_pos hbad] at hK
  have fin := hK _ w (Gw.nil .u8 w)
  by_cases b1 : cls < 0
  ·simp(disch:=omega)only[Zu,Zv,Zx,Zz,EZ,↓EP,↓reduceIte,Za,Zb,Zc,Zd,Ze,Zf,Zg,Zj,Zk,Zl,Zm,Zn,Zp,Zq,reduceCtorEq,Code.c77]
   exact fin
  by_cases b2 : 3 < cls
  ·simp(disch:=omega)only[Zu,Zv,Zx,Zz,EZ,↓EP,↓reduceIte,Za,Zb,Zc,Zd,Ze,Zf,Zg,Zj,Zk,Zl,Zm,Zn,Zp,Zq,reduceCtorEq,Code.c77]
   exact fin
  by_cases b3 : tag < 0
  ·simp(disch:=omega)only[Zu,Zv,Zx,Zz,EZ,↓EP,↓reduceIte,Za,Zb,Zc,Zd,Ze,Zf,Zg,Zj,Zk,Zl,Zm,Zn,Zp,Zq,reduceCtorEq,Code.c77]
   exact fin
  by_cases b4 : 268435455 < tag
  ·simp(disch:=omega)only[Zu,Zv,Zx,Zz,EZ,↓EP,↓reduceIte,Za,Zb,Zc,Zd,Ze,Zf,Zg,Zj,Zk,Zl,Zm,Zn,Zp,Zq,reduceCtorEq,Code.c77]
   exact fin
  have b5 : cls = 0 ∧ tag = 0 := by omega
  rw[b5.1,b5.2]
  simp(disch:=omega)only[Zu,Zv,Zx,Zz,EZ,↓EP,↓reduceIte,Za,Zb,Zc,Zd,Ze,Zf,Zg,Zj,Zk,Zl,Zm,Zn,Zp,Zq,reduceCtorEq,Code.c77]
  exact fin
 rw[if_neg hbad] at hK
 have hne : (cls + tag = 0) = False := eq_false (by omega)
 have hc0 : 0 ≤ cls ∧ cls ≤ 3 ∧ 0 ≤ tag ∧ tag ≤ 268435455 := by omega
 simp(disch:=omega)only[Zu,Zv,Zx,Zz,EZ,↓EP,↓reduceIte,Za,Zb,Zc,Zd,Ze,Zf,Zg,Zj,Zk,Zl,Zm,Zn,Zp,Zq,reduceCtorEq,Code.c77,hne]
 refine loop_inv (fun t ρ w' => w' = w ∧ ∃ j : Nat, ρ 40 = .int .i64 j ∧ ρ 10 = .int .i64 (tot ls j : Int) ∧ j ≤ ls.length ∧ t = ls.length - j ∧ tot ls j ≤ 16777216) ls.length ⟨rfl, 0, by simp(disch:=omega)only[Zu,Zv,Zx,Zz,EZ,↓EP,↓reduceIte,Za,Zb,Zc,Zd,Ze,Zf,Zg,Zj,Zk,Zl,Zm,Zn,Zp,Zq,reduceCtorEq], by simp(disch:=omega)only[Zu,Zv,Zx,Zz,EZ,↓EP,↓reduceIte,Za,Zb,Zc,Zd,Ze,Zf,Zg,Zj,Zk,Zl,Zm,Zn,Zp,Zq,reduceCtorEq]; rfl, by omega, by omega, by simp[tot]⟩ ?_
 rintro t ρ w' hf ⟨rfl, j, h40, h10, hj, rfl, htj⟩ N hN
 have r0 : ρ 0 = .int .i64 cls := by rw[hf 0 rfl]; simp(disch:=omega)only[Zu,Zv,Zx,Zz,EZ,↓EP,↓reduceIte,Za,Zb,Zc,Zd,Ze,Zf,Zg,Zj,Zk,Zl,Zm,Zn,Zp,Zq,reduceCtorEq]
 have r1 : ρ 1 = .int .i64 tag := by rw[hf 1 rfl]; simp(disch:=omega)only[Zu,Zv,Zx,Zz,EZ,↓EP,↓reduceIte,Za,Zb,Zc,Zd,Ze,Zf,Zg,Zj,Zk,Zl,Zm,Zn,Zp,Zq,reduceCtorEq]
 have r2 : ρ 2 = .bool cons := by rw[hf 2 rfl]; simp(disch:=omega)only[Zu,Zv,Zx,Zz,EZ,↓EP,↓reduceIte,Za,Zb,Zc,Zd,Ze,Zf,Zg,Zj,Zk,Zl,Zm,Zn,Zp,Zq,reduceCtorEq]
 have r3 : ρ 3 = .slice A ls.length c := by rw[hf 3 rfl]; simp(disch:=omega)only[Zu,Zv,Zx,Zz,EZ,↓EP,↓reduceIte,Za,Zb,Zc,Zd,Ze,Zf,Zg,Zj,Zk,Zl,Zm,Zn,Zp,Zq,reduceCtorEq]
 have r38 : ρ 38 = .slice A ls.length c := by rw[hf 38 rfl]; simp(disch:=omega)only[Zu,Zv,Zx,Zz,EZ,↓EP,↓reduceIte,Za,Zb,Zc,Zd,Ze,Zf,Zg,Zj,Zk,Zl,Zm,Zn,Zp,Zq,reduceCtorEq]
 have r39 : ρ 39 = .int .i64 ls.length := by rw[hf 39 rfl]; simp(disch:=omega)only[Zu,Zv,Zx,Zz,EZ,↓EP,↓reduceIte,Za,Zb,Zc,Zd,Ze,Zf,Zg,Zj,Zk,Zl,Zm,Zn,Zp,Zq,reduceCtorEq]
 clear hf
 by_cases hjl : (j : Int) < (ls.length : Int)
 ·obtain ⟨ad, dA, dc, rfl, _, cj, hdc, _⟩ := hX.at (i := j) (by omega)
  have hlj := hl63 ls[j] (List.getElem_mem (by omega))
  have hts := tot_succ (ls := ls) (j := j) (by omega)
  by_cases hbig : 16777216 - (tot ls j : Int) < (ls[j].length : Int)
  ·have htl := tot_le ls (j + 1)
   rw[if_pos (by omega)] at hK
   simp(disch:=omega)only[Zu,Zv,Zx,Zz,EZ,↓EP,↓reduceIte,Za,Zb,Zc,Zd,Ze,Zf,Zg,Zj,Zk,Zl,Zm,Zn,Zp,Zq,reduceCtorEq,W_join,h40,h10,r38,r39,cj]
   exact hK _ w' (Gw.nil .u8 w')
  ·simp(disch:=omega)only[Zu,Zv,Zx,Zz,EZ,↓EP,↓reduceIte,Za,Zb,Zc,Zd,Ze,Zf,Zg,Zj,Zk,Zl,Zm,Zn,Zp,Zq,reduceCtorEq,W_join,h40,h10,r38,r39,cj]
   exact hN (ls.length - (j + 1)) _ _ (by omega) ⟨rfl, j + 1, by simp(disch:=omega)only[Zu,Zv,Zx,Zz,EZ,↓EP,↓reduceIte,Za,Zb,Zc,Zd,Ze,Zf,Zg,Zj,Zk,Zl,Zm,Zn,Zp,Zq,reduceCtorEq,h40,Int.natCast_add], by simp(disch:=omega)only[Zu,Zv,Zx,Zz,EZ,↓EP,↓reduceIte,Za,Zb,Zc,Zd,Ze,Zf,Zg,Zj,Zk,Zl,Zm,Zn,Zp,Zq,reduceCtorEq,h10,hts,Int.natCast_add], by omega, rfl, by omega⟩
 have hje : j = ls.length := by omega
 subst hje
 have hta := tot_all ls
 rw[hta] at h10 htj
 generalize hn : (ls.map List.length).sum = n at hK h10 htj hta
 rw[if_neg (by omega)] at hK
 clear hN
 have e6 : IntKind.u8.wrap (cls * 2 ^ 6) = cls * 64 := by
  rw[show (2 : Int) ^ 6 = 64 by decide]; exact Zx (by omega) (by omega)
 have e6' : IntKind.i64.wrap (cls * 2 ^ 6) = cls * 2 ^ 6 := by
  rw[show (2 : Int) ^ 6 = 64 by decide]; exact w64 (by omega) (by omega)
 simp(disch:=omega)only[Zu,Zv,Zx,Zz,EZ,↓EP,↓reduceIte,Za,Zb,Zc,Zd,Ze,Zf,Zg,Zj,Zk,Zl,Zm,Zn,Zp,Zq,reduceCtorEq,W_joinT,h40,h10,r0,r38,r39,e6,e6']
 refine join_cut (fun ρ' w2 => w2 = w' ∧ ρ' 13 = .int .u8 (firstR cls cons)) ?_ ?_
 ·intro N1 hN1
  cases cons
  ·simp(disch:=omega)only[Zu,Zv,Zx,Zz,EZ,↓EP,↓reduceIte,Za,Zb,Zc,Zd,Ze,Zf,Zg,Zj,Zk,Zl,Zm,Zn,Zp,Zq,reduceCtorEq,r2]
   exact hN1 _ _ ⟨rfl, by simp(disch:=omega)only[Zu,Zv,Zx,Zz,EZ,↓EP,↓reduceIte,Za,Zb,Zc,Zd,Ze,Zf,Zg,Zj,Zk,Zl,Zm,Zn,Zp,Zq,reduceCtorEq,e6,e6']; unfold firstR; simp⟩
  ·have eo := cls_or hc0.1 hc0.2.1
   simp(disch:=omega)only[Zu,Zv,Zx,Zz,EZ,↓EP,↓reduceIte,Za,Zb,Zc,Zd,Ze,Zf,Zg,Zj,Zk,Zl,Zm,Zn,Zp,Zq,reduceCtorEq,r2,e6,e6',eo]
   exact hN1 _ _ ⟨rfl, by simp(disch:=omega)only[Zu,Zv,Zx,Zz,EZ,↓EP,↓reduceIte,Za,Zb,Zc,Zd,Ze,Zf,Zg,Zj,Zk,Zl,Zm,Zn,Zp,Zq,reduceCtorEq,e6,e6',eo]; unfold firstR; simp⟩
 rintro ρ1 w1 hf1 ⟨rfl, g13⟩
 have q1 : ρ1 1 = .int .i64 tag := by rw[hf1 1 rfl]; simp(disch:=omega)only[Zu,Zv,Zx,Zz,EZ,↓EP,↓reduceIte,Za,Zb,Zc,Zd,Ze,Zf,Zg,Zj,Zk,Zl,Zm,Zn,Zp,Zq,reduceCtorEq,r1]
 have q3 : ρ1 3 = .slice A ls.length c := by rw[hf1 3 rfl]; simp(disch:=omega)only[Zu,Zv,Zx,Zz,EZ,↓EP,↓reduceIte,Za,Zb,Zc,Zd,Ze,Zf,Zg,Zj,Zk,Zl,Zm,Zn,Zp,Zq,reduceCtorEq,r3]
 have q10 : ρ1 10 = .int .i64 n := by rw[hf1 10 rfl]; simp(disch:=omega)only[Zu,Zv,Zx,Zz,EZ,↓EP,↓reduceIte,Za,Zb,Zc,Zd,Ze,Zf,Zg,Zj,Zk,Zl,Zm,Zn,Zp,Zq,reduceCtorEq,h10]
 clear hf1
 have hF := firstR_bd (cons := cons) hc0.1 hc0.2.1
 rw[headR_eq] at hK
 generalize firstR cls cons = F at g13 hF hK
 have en : ((n : Int) + 10).toNat = n + 10 := by omega
 simp(disch:=omega)only[Zu,Zv,Zx,Zz,EZ,↓EP,↓reduceIte,Za,Zb,Zc,Zd,Ze,Zf,Zg,Zj,Zk,Zl,Zm,Zn,Zp,Zq,reduceCtorEq,W_joinT,g13,q1,q3,q10,en]
 refine al_k (nums .u8 (List.replicate (n + 10) 0)) (by rw[madeCells_list,nums_replicate]) fun w2 n2 => ?_
 have g2 := new_cap n2
 simp(disch:=omega)only[Zu,Zv,Zx,Zz,EZ,↓EP,↓reduceIte,Za,Zb,Zc,Zd,Ze,Zf,Zg,Zj,Zk,Zl,Zm,Zn,Zp,Zq,reduceCtorEq,W_joinT,g13,q1,q3,q10,en]
 refine join_cut (fun ρ' w3 => ∃ B, ρ' 14 = B ∧ Gw .u8 w1 w3 B (headA F tag)) ?_ ?_
 ·intro N1 hN1
  by_cases h31 : tag < 31
  ·have eo := first_or hF.1 hF.2.1 hF.2.2 hc0.2.2.1 (show tag < 32 by omega)
   have eh : headA F tag = [F + tag] := if_pos h31
   simp(disch:=omega)only[Zu,Zv,Zx,Zz,EZ,↓EP,↓reduceIte,Za,Zb,Zc,Zd,Ze,Zf,Zg,Zj,Zk,Zl,Zm,Zn,Zp,Zq,reduceCtorEq,g13,q1,eo]
   refine bsl1 fun w3 n3 => ?_
   simp(disch:=omega)only[Zu,Zv,Zx,Zz,EZ,↓EP,↓reduceIte,Za,Zb,Zc,Zd,Ze,Zf,Zg,Zj,Zk,Zl,Zm,Zn,Zp,Zq,reduceCtorEq,g13,q1,eo]
   refine app_num (g2.new n3).sl rfl n3.rdv (by simp) (by omega) fun v4 w4 a4 => ?_
   have g4 := (g2.new n3).apd a4
   rw[List.nil_append,← eh] at g4
   simp(disch:=omega)only[Zu,Zv,Zx,Zz,EZ,↓EP,↓reduceIte,Za,Zb,Zc,Zd,Ze,Zf,Zg,Zj,Zk,Zl,Zm,Zn,Zp,Zq,reduceCtorEq]
   exact hN1 _ _ ⟨v4, by simp(disch:=omega)only[Zu,Zv,Zx,Zz,EZ,↓EP,↓reduceIte,Za,Zb,Zc,Zd,Ze,Zf,Zg,Zj,Zk,Zl,Zm,Zn,Zp,Zq,reduceCtorEq], g4⟩
  ·have eo := first_or hF.1 hF.2.1 hF.2.2 (show (0 : Int) ≤ 31 by omega) (by omega)
   have eh : headA F tag = [F + 31] ++ sevenR tag.toNat := if_neg h31
   have hs := seven_len tag.toNat
   have et : tag = ((tag.toNat : Nat) : Int) := by omega
   simp(disch:=omega)only[Zu,Zv,Zx,Zz,EZ,↓EP,↓reduceIte,Za,Zb,Zc,Zd,Ze,Zf,Zg,Zj,Zk,Zl,Zm,Zn,Zp,Zq,reduceCtorEq,g13,q1,eo]
   refine bsl1 fun w3 n3 => ?_
   simp(disch:=omega)only[Zu,Zv,Zx,Zz,EZ,↓EP,↓reduceIte,Za,Zb,Zc,Zd,Ze,Zf,Zg,Zj,Zk,Zl,Zm,Zn,Zp,Zq,reduceCtorEq,g13,q1,eo]
   refine app_num (g2.new n3).sl rfl n3.rdv (by simp) (by omega) fun v4 w4 a4 => ?_
   have g4 := (g2.new n3).apd a4
   rw[List.nil_append] at g4
   rw[et] at q1
   generalize tag.toNat = tn at *
   simp(disch:=omega)only[Zu,Zv,Zx,Zz,EZ,↓EP,↓reduceIte,Za,Zb,Zc,Zd,Ze,Zf,Zg,Zj,Zk,Zl,Zm,Zn,Zp,Zq,reduceCtorEq,q1]
   refine seven_vw (by omega) _ fun v5 w5 g5 => ?_
   obtain ⟨A5, c5, rfl, hc5, hr5⟩ := readn g5.sl rfl
   simp(disch:=omega)only[Zu,Zv,Zx,Zz,EZ,↓EP,↓reduceIte,Za,Zb,Zc,Zd,Ze,Zf,Zg,Zj,Zk,Zl,Zm,Zn,Zp,Zq,reduceCtorEq]
   refine app_num (g4.step g5.fr).sl rfl hr5 (by simp; omega) (by omega) fun v6 w6 a6 => ?_
   have g6 := (g4.step g5.fr).apd a6
   rw[← eh] at g6
   simp(disch:=omega)only[Zu,Zv,Zx,Zz,EZ,↓EP,↓reduceIte,Za,Zb,Zc,Zd,Ze,Zf,Zg,Zj,Zk,Zl,Zm,Zn,Zp,Zq,reduceCtorEq]
   exact hN1 _ _ ⟨v6, by simp(disch:=omega)only[Zu,Zv,Zx,Zz,EZ,↓EP,↓reduceIte,Za,Zb,Zc,Zd,Ze,Zf,Zg,Zj,Zk,Zl,Zm,Zn,Zp,Zq,reduceCtorEq], g6⟩
 rintro ρ2 w3 hf2 ⟨B, k14, g3⟩
 have q3' : ρ2 3 = .slice A ls.length c := by rw[hf2 3 rfl]; simp(disch:=omega)only[Zu,Zv,Zx,Zz,EZ,↓EP,↓reduceIte,Za,Zb,Zc,Zd,Ze,Zf,Zg,Zj,Zk,Zl,Zm,Zn,Zp,Zq,reduceCtorEq,q3]
 have q10' : ρ2 10 = .int .i64 n := by rw[hf2 10 rfl]; simp(disch:=omega)only[Zu,Zv,Zx,Zz,EZ,↓EP,↓reduceIte,Za,Zb,Zc,Zd,Ze,Zf,Zg,Zj,Zk,Zl,Zm,Zn,Zp,Zq,reduceCtorEq,q10]
 clear hf2
 have hal := headA_len F tag
 generalize headA F tag = H at g3 hal hK
 simp(disch:=omega)only[Zu,Zv,Zx,Zz,EZ,↓EP,↓reduceIte,Za,Zb,Zc,Zd,Ze,Zf,Zg,Zj,Zk,Zl,Zm,Zn,Zp,Zq,reduceCtorEq,W_joinT,k14,q3',q10']
 refine join_cut (fun ρ' w4 => ∃ B, ρ' 14 = B ∧ Gw .u8 w1 w4 B (H ++ lenBytes n)) ?_ ?_
 ·intro N1 hN1
  by_cases h128 : (n : Int) < 128
  ·have eh : lenBytes n = [(n : Int)] := if_pos (by omega)
   simp(disch:=omega)only[Zu,Zv,Zx,Zz,EZ,↓EP,↓reduceIte,Za,Zb,Zc,Zd,Ze,Zf,Zg,Zj,Zk,Zl,Zm,Zn,Zp,Zq,reduceCtorEq,k14,q10']
   refine bsl1 fun w4 n4 => ?_
   simp(disch:=omega)only[Zu,Zv,Zx,Zz,EZ,↓EP,↓reduceIte,Za,Zb,Zc,Zd,Ze,Zf,Zg,Zj,Zk,Zl,Zm,Zn,Zp,Zq,reduceCtorEq,k14,q10']
   refine app_num (g3.new n4).sl rfl n4.rdv (by simp; omega) (by omega) fun v5 w5 a5 => ?_
   have g5 := (g3.new n4).apd a5
   rw[← eh] at g5
   simp(disch:=omega)only[Zu,Zv,Zx,Zz,EZ,↓EP,↓reduceIte,Za,Zb,Zc,Zd,Ze,Zf,Zg,Zj,Zk,Zl,Zm,Zn,Zp,Zq,reduceCtorEq]
   exact hN1 _ _ ⟨v5, by simp(disch:=omega)only[Zu,Zv,Zx,Zz,EZ,↓EP,↓reduceIte,Za,Zb,Zc,Zd,Ze,Zf,Zg,Zj,Zk,Zl,Zm,Zn,Zp,Zq,reduceCtorEq], g5⟩
  ·have eh : lenBytes n = [128 + ((bytesBE 4 n).length : Int)] ++ bytesBE 4 n := if_neg (by omega)
   have hbl := be_len 4 n
   have hst := strip_be (n := n) (by omega)
   have e24 : (n : Int) / 16777216 = ((n / 16777216 % 256 : Nat) : Int) := by omega
   have e16 : IntKind.u8.wrap ((n : Int) / 65536) = ((n / 65536 % 256 : Nat) : Int) := by rw[wu8_mod]; omega
   have e8 : IntKind.u8.wrap ((n : Int) / 256) = ((n / 256 % 256 : Nat) : Int) := by rw[wu8_mod]; omega
   have e0 : IntKind.u8.wrap (n : Int) = ((n % 256 : Nat) : Int) := by rw[wu8_mod]; omega
   simp(disch:=omega)only[Zu,Zv,Zx,Zz,EZ,↓EP,↓reduceIte,Za,Zb,Zc,Zd,Ze,Zf,Zg,Zj,Zk,Zl,Zm,Zn,Zp,Zq,reduceCtorEq,k14,q10',e24,e16,e8,e0]
   refine bsl4 fun w4 n4 => ?_
   simp(disch:=omega)only[Zu,Zv,Zx,Zz,EZ,↓EP,↓reduceIte,Za,Zb,Zc,Zd,Ze,Zf,Zg,Zj,Zk,Zl,Zm,Zn,Zp,Zq,reduceCtorEq,k14,q10']
   refine trim_n (l := [((n / 16777216 % 256 : Nat) : Int), ((n / 65536 % 256 : Nat) : Int), ((n / 256 % 256 : Nat) : Int), ((n % 256 : Nat) : Int)]) (Nat.le_refl _) n4.rdv (by simp) (by simp) hst _ fun A5 c5 hc5 hr5 => ?_
   generalize bytesBE 4 n = S5 at *
   have eo := d8_128or (a := (S5.length : Int)) ⟨by omega, by omega⟩
   have eo2 : (S5.length : Int) % 128 + 128 = 128 + (S5.length : Int) := by omega
   rw[eo2] at eo
   simp(disch:=omega)only[Zu,Zv,Zx,Zz,EZ,↓EP,↓reduceIte,Za,Zb,Zc,Zd,Ze,Zf,Zg,Zj,Zk,Zl,Zm,Zn,Zp,Zq,reduceCtorEq,k14,q10',eo]
   refine bsl1 fun w5 n5 => ?_
   simp(disch:=omega)only[Zu,Zv,Zx,Zz,EZ,↓EP,↓reduceIte,Za,Zb,Zc,Zd,Ze,Zf,Zg,Zj,Zk,Zl,Zm,Zn,Zp,Zq,reduceCtorEq,k14,q10',eo]
   refine app_num ((g3.new n4).new n5).sl rfl n5.rdv (by simp; omega) (by omega) fun v6 w6 a6 => ?_
   have g6 := ((g3.new n4).new n5).apd a6
   simp(disch:=omega)only[Zu,Zv,Zx,Zz,EZ,↓EP,↓reduceIte,Za,Zb,Zc,Zd,Ze,Zf,Zg,Zj,Zk,Zl,Zm,Zn,Zp,Zq,reduceCtorEq,k14]
   refine app_num g6.sl rfl (hr5 w6 (((n4.rdv).nb (n5.fr nob)).fr a6.fr (.inr fun p hp hb => by
    have h1 : p.block < w3.heap.size := g3.sl.lt hb
    have h2 : w3.heap.size = p.block := congrArg Addr.block (Option.some.inj hp)
    omega))) (by simp; omega) (by omega) fun v7 w7 a7 => ?_
   have g7 := g6.apd a7
   rw[List.append_assoc,← eh] at g7
   simp(disch:=omega)only[Zu,Zv,Zx,Zz,EZ,↓EP,↓reduceIte,Za,Zb,Zc,Zd,Ze,Zf,Zg,Zj,Zk,Zl,Zm,Zn,Zp,Zq,reduceCtorEq]
   exact hN1 _ _ ⟨v7, by simp(disch:=omega)only[Zu,Zv,Zx,Zz,EZ,↓EP,↓reduceIte,Za,Zb,Zc,Zd,Ze,Zf,Zg,Zj,Zk,Zl,Zm,Zn,Zp,Zq,reduceCtorEq], g7⟩
 rintro ρ3 w4 hf3 ⟨B4, s14, g4⟩
 have s3 : ρ3 3 = .slice A ls.length c := by rw[hf3 3 rfl]; simp(disch:=omega)only[Zu,Zv,Zx,Zz,EZ,↓EP,↓reduceIte,Za,Zb,Zc,Zd,Ze,Zf,Zg,Zj,Zk,Zl,Zm,Zn,Zp,Zq,reduceCtorEq,q3']
 clear hf3
 have hll := lenB_len n
 generalize lenBytes n = L5 at *
 simp(disch:=omega)only[Zu,Zv,Zx,Zz,EZ,↓EP,↓reduceIte,Za,Zb,Zc,Zd,Ze,Zf,Zg,Zj,Zk,Zl,Zm,Zn,Zp,Zq,reduceCtorEq,s14,s3]
 refine loop_inv (fun t ρ5 w5 => ∃ (j : Nat) (C : Value), ρ5 113 = .int .i64 j ∧ ρ5 14 = C ∧ j ≤ ls.length ∧ t = ls.length - j ∧ Gw .u8 w1 w5 C (H ++ L5 ++ (ls.take j).flatten)) ls.length ⟨0, B4, by simp(disch:=omega)only[Zu,Zv,Zx,Zz,EZ,↓EP,↓reduceIte,Za,Zb,Zc,Zd,Ze,Zf,Zg,Zj,Zk,Zl,Zm,Zn,Zp,Zq,reduceCtorEq], by simp(disch:=omega)only[Zu,Zv,Zx,Zz,EZ,↓EP,↓reduceIte,Za,Zb,Zc,Zd,Ze,Zf,Zg,Zj,Zk,Zl,Zm,Zn,Zp,Zq,reduceCtorEq,s14], by omega, by omega, by simpa using g4⟩ ?_
 rintro t ρ5 w5 hf5 ⟨j, C, k113, k14', hj2, rfl, G⟩ N5 hN5
 have s111 : ρ5 111 = .slice A ls.length c := by rw[hf5 111 rfl]; simp(disch:=omega)only[Zu,Zv,Zx,Zz,EZ,↓EP,↓reduceIte,Za,Zb,Zc,Zd,Ze,Zf,Zg,Zj,Zk,Zl,Zm,Zn,Zp,Zq,reduceCtorEq,s3]
 have s112 : ρ5 112 = .int .i64 ls.length := by rw[hf5 112 rfl]; simp(disch:=omega)only[Zu,Zv,Zx,Zz,EZ,↓EP,↓reduceIte,Za,Zb,Zc,Zd,Ze,Zf,Zg,Zj,Zk,Zl,Zm,Zn,Zp,Zq,reduceCtorEq,s3]
 clear hf5
 by_cases hjl2 : (j : Int) < (ls.length : Int)
 ·obtain ⟨ad, dA, dc, rfl, _, cj, hdc, hdr⟩ := (hX.nb G.fr).at (i := j) (by omega)
  have hts := tot_succ (ls := ls) (j := j) (by omega)
  have htl := tot_le ls (j + 1)
  have hfl := flat_len ls j
  simp(disch:=omega)only[Zu,Zv,Zx,Zz,EZ,↓EP,↓reduceIte,Za,Zb,Zc,Zd,Ze,Zf,Zg,Zj,Zk,Zl,Zm,Zn,Zp,Zq,reduceCtorEq,k113,k14',s111,s112,cj]
  refine app_num G.sl rfl hdr (by simp only[List.length_append]; omega) (by omega) fun v6 w6 a6 => ?_
  have g6 := G.apd a6
  rw[List.append_assoc,← flat_succ (by omega)] at g6
  simp(disch:=omega)only[Zu,Zv,Zx,Zz,EZ,↓EP,↓reduceIte,Za,Zb,Zc,Zd,Ze,Zf,Zg,Zj,Zk,Zl,Zm,Zn,Zp,Zq,reduceCtorEq,k113]
  exact hN5 (ls.length - (j + 1)) _ _ (by omega) ⟨j + 1, v6, by simp(disch:=omega)only[Zu,Zv,Zx,Zz,EZ,↓EP,↓reduceIte,Za,Zb,Zc,Zd,Ze,Zf,Zg,Zj,Zk,Zl,Zm,Zn,Zp,Zq,reduceCtorEq,k113,Int.natCast_add], by simp(disch:=omega)only[Zu,Zv,Zx,Zz,EZ,↓EP,↓reduceIte,Za,Zb,Zc,Zd,Ze,Zf,Zg,Zj,Zk,Zl,Zm,Zn,Zp,Zq,reduceCtorEq], by omega, rfl, g6⟩
 ·have hje : j = ls.length := by omega
  subst hje
  rw[List.take_of_length_le (Nat.le_refl _)] at G
  simp(disch:=omega)only[Zu,Zv,Zx,Zz,EZ,↓EP,↓reduceIte,Za,Zb,Zc,Zd,Ze,Zf,Zg,Zj,Zk,Zl,Zm,Zn,Zp,Zq,reduceCtorEq,k113,k14',s112]
  exact hK _ w5 G
end Go.Proofs.YtcgplgpdcfocpaaGreatDoor.Der
end
section
namespace Go.Proofs.YtcgplgpdcfocpaaGreatDoor.Der
open Go Go.RowKit Go.Proofs Go.Proofs.YtcgplgpdcfocpaaGreatDoor.Eng Go.Proofs.YtcgplgpdcfocpaaGreatDoor.Code
attribute [local irreducible] callK S.W opsW scrW scrT
end Go.Proofs.YtcgplgpdcfocpaaGreatDoor.Der
end
section
namespace Go.Proofs.YtcgplgpdcfocpaaGreatDoor.Der
open Go Go.RowKit Go.Proofs Go.Proofs.YtcgplgpdcfocpaaGreatDoor.Eng Go.Proofs.YtcgplgpdcfocpaaGreatDoor.Code
attribute [local irreducible] callK S.W opsW scrW scrT
structure Two (W w : World) (D : Value) (ld : List Int) (R : Value) (lr : List Int) : Prop where
 gd : Gw .u8 W w D ld
 gr : Gw .u8 W w R lr
 ap : ∀ b, blkOf D = some b → blkOf R ≠ some b
theorem Two.step {W w w' : World} {D R : Value} {ld lr : List Int} (t : Two W w D ld R lr) (f : Fr w w' nob) : Two W w' D ld R lr := ⟨t.gd.step f, t.gr.step f, t.ap⟩
end Go.Proofs.YtcgplgpdcfocpaaGreatDoor.Der
end
section
namespace Go.Proofs.YtcgplgpdcfocpaaGreatDoor.Der
open Go Go.RowKit Go.Proofs Go.Proofs.YtcgplgpdcfocpaaGreatDoor.Eng Go.Proofs.YtcgplgpdcfocpaaGreatDoor.Code
attribute [local irreducible] callK S.W opsW scrW scrT
end Go.Proofs.YtcgplgpdcfocpaaGreatDoor.Der
end
section
namespace Go.Proofs.YtcgplgpdcfocpaaGreatDoor.Der
open Go Go.RowKit Go.Proofs Go.Proofs.YtcgplgpdcfocpaaGreatDoor.Eng Go.Proofs.YtcgplgpdcfocpaaGreatDoor.Code
attribute [local irreducible] callK S.W opsW scrW scrT
def ints (u : List UInt8) : List Int := u.map fun b => (b.toNat : Int)
theorem ints_len (u : List UInt8) : (ints u).length = u.length := by simp[ints]
theorem ints_at {u : List UInt8} {i : Nat} (h : i < u.length) : at' (ints u) (i : Int) = ((u[i]).toNat : Int) := by
 rw[atN,List.getD_eq_getElem?_getD,ints,List.getElem?_map,List.getElem?_eq_getElem h]; rfl
theorem S_get {u : List UInt8} {i : Nat} (h : i < (S u).size) : (S u)[i]'h = u[i]'(by rwa [S_size] at h) := by
 simp[S,ByteArray.getElem_eq_getElem_data]
theorem dec_low {u : List UInt8} {i : Nat} (h : i < u.length) (ha : (u[i]).toNat < 128) : Utf8.decode (S u) i = ((u[i]).toNat, 1) := by
 have h' : i < (S u).size := by rwa [S_size]
 rw[decode_ascii (S u) i h' (by rw [S_get]; exact ha),S_get]
theorem dec_high {u : List UInt8} {i : Nat} (h : i < u.length) (ha : 128 ≤ (u[i]).toNat) : 128 ≤ (Utf8.decode (S u) i).1 := by
 have h' : i < (S u).size := by rwa [S_size]
 have e : (S u).get! (i + 0) = u[i] := by
  refine Eq.trans ?_ (S_get h')
  show (S u).get! i = _
  simp[ByteArray.get!,getElem!_pos,h']
  rfl
 unfold Utf8.decode
 simp only[e, show ¬ (u[i]).toNat < 128 by omega, if_false]
 split
 ·split
  ·assumption
  ·decide
 ·split
  ·split
   ·rename_i hh
    simp at hh
    simp only
    omega
   ·decide
  ·split
   ·split
    ·rename_i hh
     simp at hh
     simp only
     omega
    ·decide
   ·decide
theorem fr_it (w : World) (ib : Nat) (o : Obj) : Fr w { w with heap := w.heap.setIfInBounds ib o } (fun b => b = ib) :=
 ⟨⟨rfl, rfl, rfl, by simp, fun k hk => by omega⟩, fun b _ hb => by
   show (w.heap.setIfInBounds ib o)[b]? = w.heap[b]?
   rw[Array.getElem?_setIfInBounds_ne (fun e => hb e.symm)]⟩
theorem nxs_k {w : World} {ib pos c k : Nat} {s : ByteArray} {K : Value → World → Prop} {t : Eng.Tok K} (h : w.heap[ib]? = some (.stringIter s pos)) (hp : pos < s.size) (hd : Utf8.decode s pos = (c, k))
  (hK : ∀ w', Fr w w' (fun b => b = ib) → w'.heap[ib]? = some (.stringIter s (pos + k)) → K (.tuple #[.bool true, .int .i64 pos, .int .i32 c]) w') : nxsT ⟨ib, 0, none⟩ w K t := by
 refine ⟨rfl, s, pos, h, fun _ => ?_, fun h' => by omega⟩
 rw[hd]
 refine hK _ (fr_it w ib _) ?_
 have hib := (Array.getElem?_eq_some_iff.1 h).1
 show (w.heap.setIfInBounds ib _)[ib]? = _
 rw[Array.getElem?_setIfInBounds_self_of_lt hib]
theorem nxs_end {w : World} {ib pos : Nat} {s : ByteArray} {K : Value → World → Prop} {t : Eng.Tok K} (h : w.heap[ib]? = some (.stringIter s pos)) (hp : s.size ≤ pos)
  (hK : K (.tuple #[.bool false]) w) : nxsT ⟨ib, 0, none⟩ w K t := ⟨rfl, s, pos, h, fun h' => by omega, fun _ => hK⟩
theorem it_heap (w : World) (o : Obj) : (w.alloc o).heap = w.heap.push o := rfl
theorem it_fr (w : World) (o : Obj) : Fr w (w.alloc o) nob := by
 refine ⟨⟨rfl, rfl, rfl, ?_, fun k hk => by omega⟩, fun b hb _ => ?_⟩
 ·rw[it_heap,Array.size_push]; omega
 ·rw[it_heap,Array.getElem?_push_lt hb,Array.getElem?_eq_getElem hb]
theorem it_lt (w : World) (o : Obj) : w.heap.size < (w.alloc o).heap.size := by rw[it_heap,Array.size_push]; omega
theorem rgs_k {w : World} {s : ByteArray} {K : Value → World → Prop} {t : Eng.Tok K} (hK : ∀ w', Fr w w' nob → w'.heap[w.heap.size]? = some (.stringIter s 0) → w.heap.size < w'.heap.size → K (.pointer (some ⟨w.heap.size, 0, none⟩)) w') : rgsT s w K t :=
 hK _ (it_fr w _) (World.iter_heap w s 0) (it_lt w _)
theorem pos_cellsK {k : IntKind} {w : World} {A : Option Addr} {l : List Int} (hr : Rd w A (nums k l)) (h0 : 0 < l.length) : ∃ ad, A = some ad ∧ ∀ i : Nat, i < l.length → w.cell? (ad.add i) = some (.int k (at' l (i : Int))) := by
 obtain ⟨ad, e, _, hcl⟩ := hr.get (by rw[nums_length]; omega)
 exact ⟨ad, e, fun i hi => hcl.numN hi⟩
def prb (v : Value) (b : Bool) : Value := .tuple #[v, .bool b]
set_option maxHeartbeats 2000000 in
theorem arcs_vw {w : World} {u : List UInt8} (hm : u.length ≤ 1073741824) (K : Value → World → Prop)
  (hK : ∀ v' w', Gw .u64 w w' v' ((arcsR (ints u)).getD []) → K (prb v' (arcsR (ints u)).isSome) w') : callK Tryz.prog 101 [.string (S u)] w K := by
 refine call_of Tryz.func101 Code.h101 (by simp[Code.c101]) ?_
 have htl : (u ++ [46]).length = u.length + 1 := by simp
 have hti : ints (u ++ [46]) = ints u ++ [46] := by simp[ints]
 unfold arcsR at hK
 rw[← hti] at hK
 simp(disch:=omega)only[Zu,Zv,Zx,Zz,EZ,↓EP,↓reduceIte,Za,Zb,Zc,Zd,Ze,Zf,Zg,Zj,Zk,Zl,Zm,Zn,Zp,Zq,reduceCtorEq,Code.c101,b_sadd,← S_dot,S_append,S_size,List.length_cons,List.length_nil]
 refine rgs_k fun w1 f1 hit hlt => ?_
 generalize hib : w.heap.size = ib at hit hlt
 generalize hT : u ++ [46] = T at hK htl hit
 simp(disch:=omega)only[Zu,Zv,Zx,Zz,EZ,↓EP,↓reduceIte,Za,Zb,Zc,Zd,Ze,Zf,Zg,Zj,Zk,Zl,Zm,Zn,Zp,Zq,reduceCtorEq]
 refine loop_inv (fun t ρ w2 => ∃ (pos : Nat) (l : List Int) (v : Int) (n : Nat) (X : Value), w2.heap[ib]? = some (.stringIter (S T) pos) ∧ ρ 4 = X ∧ ρ 5 = .int .u64 v ∧ ρ 6 = .int .i64 n ∧ pos ≤ T.length ∧ t = T.length - pos ∧ 0 ≤ v ∧ v ≤ 1099511627776 ∧ n ≤ 20 ∧ l.length ≤ pos ∧ Gw .u64 w w2 X l ∧ (∀ b, blkOf X = some b → b ≠ ib) ∧ (∀ x ∈ l, 0 ≤ x ∧ x ≤ 1099511627776) ∧ arcsGo ((ints T).drop pos) l v n = arcsGo (ints T) [] 0 0) T.length ⟨0, [], 0, 0, _, hit, by simp(disch:=omega)only[Zu,Zv,Zx,Zz,EZ,↓EP,↓reduceIte,Za,Zb,Zc,Zd,Ze,Zf,Zg,Zj,Zk,Zl,Zm,Zn,Zp,Zq,reduceCtorEq], by simp(disch:=omega)only[Zu,Zv,Zx,Zz,EZ,↓EP,↓reduceIte,Za,Zb,Zc,Zd,Ze,Zf,Zg,Zj,Zk,Zl,Zm,Zn,Zp,Zq,reduceCtorEq], by simp(disch:=omega)only[Zu,Zv,Zx,Zz,EZ,↓EP,↓reduceIte,Za,Zb,Zc,Zd,Ze,Zf,Zg,Zj,Zk,Zl,Zm,Zn,Zp,Zq,reduceCtorEq], by omega, by omega, by omega, by omega, by omega, by simp, (Gw.nil .u64 w).step f1, fun b e => (by cases e), by simp, rfl⟩ ?_
 rintro t ρ w2 hf ⟨pos, l, v, n, X, hit2, h4, h5, h6, hp, rfl, hv, hv', hn, hll, g, hX, hlm, hgo⟩ N hN
 have r11 : ρ 11 = .pointer (some ⟨ib, 0, none⟩) := by rw[hf 11 rfl]; simp(disch:=omega)only[Zu,Zv,Zx,Zz,EZ,↓EP,↓reduceIte,Za,Zb,Zc,Zd,Ze,Zf,Zg,Zj,Zk,Zl,Zm,Zn,Zp,Zq,reduceCtorEq]
 clear hf
 have hlt2 : ib < w2.heap.size := (Array.getElem?_eq_some_iff.1 hit2).1
 by_cases hpl : pos < T.length
 ·have htp := ints_at hpl
  rw[drop_at (show pos < (ints T).length by rw [ints_len]; exact hpl), arcsGo, htp] at hgo
  have hcb := (T[pos]).toNat_lt
  by_cases hc : (T[pos]).toNat < 128
  ·have hd := dec_low hpl hc
   generalize (T[pos]).toNat = c at *
   simp(disch:=omega)only[Zu,Zv,Zx,Zz,EZ,↓EP,↓reduceIte,Za,Zb,Zc,Zd,Ze,Zf,Zg,Zj,Zk,Zl,Zm,Zn,Zp,Zq,reduceCtorEq,r11]
   refine nxs_k hit2 (by rw[S_size]; exact hpl) hd fun w3 f3 hit3 => ?_
   have g3 := g.other f3 hX (fun b hb => by omega)
   by_cases h46 : c = 46 ∧ 0 < n
   ·rw[if_pos ⟨by omega,h46.2⟩] at hgo
    have h6' : (0 : Int) < (n : Int) := by omega
    rw[h46.1]
    simp(disch:=omega)only[Zu,Zv,Zx,Zz,EZ,↓EP,↓reduceIte,Za,Zb,Zc,Zd,Ze,Zf,Zg,Zj,Zk,Zl,Zm,Zn,Zp,Zq,reduceCtorEq,W_join,h4,h5,h6]
    refine bsl1 fun w4 n4 => ?_
    have g4 := g3.new n4
    simp(disch:=omega)only[Zu,Zv,Zx,Zz,EZ,↓EP,↓reduceIte,Za,Zb,Zc,Zd,Ze,Zf,Zg,Zj,Zk,Zl,Zm,Zn,Zp,Zq,reduceCtorEq,W_join,h4,h5,h6]
    refine app_num g4.sl rfl n4.rdv (by simp; omega) (by omega) fun v5 w5 a5 => ?_
    have g5 := g4.apd a5
    have hit5 : w5.heap[ib]? = some (.stringIter (S T) (pos + 1)) := by
     have b3 : ib < w3.heap.size := Nat.lt_of_lt_of_le hlt2 f3.size
     rw[a5.fr.block ib (Nat.lt_of_lt_of_le b3 (n4.fr nob).size) (fun e => hX ib e rfl), (n4.fr nob).block ib b3 (fun e => e)]
     exact hit3
    simp(disch:=omega)only[Zu,Zv,Zx,Zz,EZ,↓EP,↓reduceIte,Za,Zb,Zc,Zd,Ze,Zf,Zg,Zj,Zk,Zl,Zm,Zn,Zp,Zq,reduceCtorEq,W_join,h4,h5,h6]
    refine hN (T.length - (pos + 1)) _ _ (by omega) ⟨pos + 1, l ++ [v], 0, 0, v5, hit5, by simp(disch:=omega)only[Zu,Zv,Zx,Zz,EZ,↓EP,↓reduceIte,Za,Zb,Zc,Zd,Ze,Zf,Zg,Zj,Zk,Zl,Zm,Zn,Zp,Zq,reduceCtorEq], by simp(disch:=omega)only[Zu,Zv,Zx,Zz,EZ,↓EP,↓reduceIte,Za,Zb,Zc,Zd,Ze,Zf,Zg,Zj,Zk,Zl,Zm,Zn,Zp,Zq,reduceCtorEq], by simp(disch:=omega)only[Zu,Zv,Zx,Zz,EZ,↓EP,↓reduceIte,Za,Zb,Zc,Zd,Ze,Zf,Zg,Zj,Zk,Zl,Zm,Zn,Zp,Zq,reduceCtorEq], by omega, rfl, by omega, by omega, by omega, by simp; omega, g5, fun b e => ?_, ?_, hgo⟩
    ·rcases a5.where_ with hw | hw
     ·exact hX b (hw ▸ e)
     ·have := hw b e
      have := (n4.fr nob).size
      have := f3.size
      omega
    ·intro x hx
     rw[List.mem_append] at hx
     rcases hx with hx | hx
     ·exact hlm x hx
     ·simp at hx; omega
   ·rw[if_neg (fun h => h46 ⟨by omega, h.2⟩)] at hgo
    by_cases hbad : (c : Int) < 48 ∨ 57 < (c : Int) ∨ (n = 1 ∧ v = 0)
    ·rw[if_pos hbad] at hgo
     rw[← hgo] at hK
     have fin := hK _ w3 ((Gw.nil .u64 w).step g3.fr)
     by_cases hc46 : c = 46
     ·have hn0 : n = 0 := by
       apply Nat.eq_zero_of_not_pos
       exact fun h => h46 ⟨hc46, h⟩
      subst hn0
      rw[hc46]
      simp(disch:=omega)only[Zu,Zv,Zx,Zz,EZ,↓EP,↓reduceIte,Za,Zb,Zc,Zd,Ze,Zf,Zg,Zj,Zk,Zl,Zm,Zn,Zp,Zq,reduceCtorEq,W_join,h4,h5,h6,Int.natCast_zero]
      exact fin
     ·have hc46' : ((c : Int) = 46) = False := eq_false (by omega)
      by_cases h1 : (c : Int) < 48
      ·simp(disch:=omega)only[Zu,Zv,Zx,Zz,EZ,↓EP,↓reduceIte,Za,Zb,Zc,Zd,Ze,Zf,Zg,Zj,Zk,Zl,Zm,Zn,Zp,Zq,reduceCtorEq,W_join,h4,h5,h6,hc46']
       exact fin
      ·by_cases h2 : 57 < (c : Int)
       ·simp(disch:=omega)only[Zu,Zv,Zx,Zz,EZ,↓EP,↓reduceIte,Za,Zb,Zc,Zd,Ze,Zf,Zg,Zj,Zk,Zl,Zm,Zn,Zp,Zq,reduceCtorEq,W_join,h4,h5,h6,hc46']
        exact fin
       ·have h3 : n = 1 ∧ v = 0 := by omega
        rw[h3.1] at h6
        rw[h3.2] at h5
        simp(disch:=omega)only[Zu,Zv,Zx,Zz,EZ,↓EP,↓reduceIte,Za,Zb,Zc,Zd,Ze,Zf,Zg,Zj,Zk,Zl,Zm,Zn,Zp,Zq,reduceCtorEq,W_join,h4,h5,h6,hc46',Int.natCast_one]
        exact fin
    ·rw[if_neg hbad] at hgo
     have hc46' : ((c : Int) = 46) = False := eq_false (by omega)
     have hw1 : IntKind.i32.wrap ((c : Int) - 48) = (c : Int) - 48 := by
      unfold IntKind.wrap IntKind.bits IntKind.signed
      simp only[Bool.true_and,decide_eq_true_eq]
      split <;> omega
     have hw2 : IntKind.u64.wrap ((c : Int) - 48) = (c : Int) - 48 := Zu (by omega) (by omega)
     have hst : (if 1099511627776 < 10 * v + ((c : Int) - 48) then (1099511627776 : Int) else 10 * v + ((c : Int) - 48)) = satA (10 * v + ((c : Int) - 48)) := rfl
     have sb := satA_bd (v := 10 * v + ((c : Int) - 48)) (by omega)
     have hmn : (if 20 < (n : Int) + 1 then (20 : Int) else (n : Int) + 1) = ((min (n + 1) 20 : Nat) : Int) := by split <;> omega
     by_cases h1 : n = 1
     ·have hv0 : (v = 0) = False := eq_false (fun h => hbad (.inr (.inr ⟨h1, h⟩)))
      rw[h1] at h6
      subst h1
      simp(disch:=omega)only[Zu,Zv,Zx,Zz,EZ,↓EP,↓reduceIte,Za,Zb,Zc,Zd,Ze,Zf,Zg,Zj,Zk,Zl,Zm,Zn,Zp,Zq,reduceCtorEq,W_join,h4,h5,h6,hc46',hw1,hw2,hv0,Int.natCast_one]
      exact hN (T.length - (pos + 1)) _ _ (by omega) ⟨pos + 1, l, _, _, X, hit3, by simp(disch:=omega)only[Zu,Zv,Zx,Zz,EZ,↓EP,↓reduceIte,Za,Zb,Zc,Zd,Ze,Zf,Zg,Zj,Zk,Zl,Zm,Zn,Zp,Zq,reduceCtorEq,h4], by simp(disch:=omega)only[Zu,Zv,Zx,Zz,EZ,↓EP,↓reduceIte,Za,Zb,Zc,Zd,Ze,Zf,Zg,Zj,Zk,Zl,Zm,Zn,Zp,Zq,reduceCtorEq,hw1,hw2,hst], by simp(disch:=omega)only[Zu,Zv,Zx,Zz,EZ,↓EP,↓reduceIte,Za,Zb,Zc,Zd,Ze,Zf,Zg,Zj,Zk,Zl,Zm,Zn,Zp,Zq,reduceCtorEq], by omega, rfl, sb.1, sb.2, by omega, by omega, g3, hX, hlm, hgo⟩
     ·have h1' : ((n : Int) = 1) = False := eq_false (by omega)
      simp(disch:=omega)only[Zu,Zv,Zx,Zz,EZ,↓EP,↓reduceIte,Za,Zb,Zc,Zd,Ze,Zf,Zg,Zj,Zk,Zl,Zm,Zn,Zp,Zq,reduceCtorEq,W_join,h4,h5,h6,hc46',hw1,hw2,h1']
      exact hN (T.length - (pos + 1)) _ _ (by omega) ⟨pos + 1, l, _, _, X, hit3, by simp(disch:=omega)only[Zu,Zv,Zx,Zz,EZ,↓EP,↓reduceIte,Za,Zb,Zc,Zd,Ze,Zf,Zg,Zj,Zk,Zl,Zm,Zn,Zp,Zq,reduceCtorEq,h4], by simp(disch:=omega)only[Zu,Zv,Zx,Zz,EZ,↓EP,↓reduceIte,Za,Zb,Zc,Zd,Ze,Zf,Zg,Zj,Zk,Zl,Zm,Zn,Zp,Zq,reduceCtorEq,hw1,hw2,hst], by simp(disch:=omega)only[Zu,Zv,Zx,Zz,EZ,↓EP,↓reduceIte,Za,Zb,Zc,Zd,Ze,Zf,Zg,Zj,Zk,Zl,Zm,Zn,Zp,Zq,reduceCtorEq,hmn], by omega, rfl, sb.1, sb.2, by omega, by omega, g3, hX, hlm, hgo⟩
  ·have hh := dec_high hpl (by omega)
   rw[if_neg (fun h => by omega), if_pos (.inr (.inl (by omega)))] at hgo
   rw[← hgo] at hK
   obtain ⟨C, k, hd⟩ : ∃ C k, Utf8.decode (S T) pos = (C, k) := ⟨_, _, rfl⟩
   rw[hd] at hh
   simp only at hh
   simp(disch:=omega)only[Zu,Zv,Zx,Zz,EZ,↓EP,↓reduceIte,Za,Zb,Zc,Zd,Ze,Zf,Zg,Zj,Zk,Zl,Zm,Zn,Zp,Zq,reduceCtorEq,r11]
   refine nxs_k hit2 (by rw[S_size]; exact hpl) hd fun w3 f3 hit3 => ?_
   have g3 := g.other f3 hX (fun b hb => by omega)
   have fin := hK _ w3 ((Gw.nil .u64 w).step g3.fr)
   have hc46' : ((C : Int) = 46) = False := eq_false (by omega)
   simp(disch:=omega)only[Zu,Zv,Zx,Zz,EZ,↓EP,↓reduceIte,Za,Zb,Zc,Zd,Ze,Zf,Zg,Zj,Zk,Zl,Zm,Zn,Zp,Zq,reduceCtorEq,W_join,h4,h5,h6,hc46']
   exact fin
 ·have hpe : pos = T.length := by omega
  rw[hpe, show T.length = (ints T).length by rw [ints_len], List.drop_length, arcsGo] at hgo
  rw[← hgo] at hK
  simp only at hK
  clear hN hgo
  simp(disch:=omega)only[Zu,Zv,Zx,Zz,EZ,↓EP,↓reduceIte,Za,Zb,Zc,Zd,Ze,Zf,Zg,Zj,Zk,Zl,Zm,Zn,Zp,Zq,reduceCtorEq,r11]
  refine nxs_end hit2 (by rw[S_size]; omega) ?_
  have nil2 := (Gw.nil .u64 w).step g.fr
  obtain ⟨XA, xc, rfl, hxc, hXr⟩ := readn g.sl rfl
  by_cases hl2 : l.length < 2
  ·rw[if_pos (.inl hl2)] at hK
   simp(disch:=omega)only[Zu,Zv,Zx,Zz,EZ,↓EP,↓reduceIte,Za,Zb,Zc,Zd,Ze,Zf,Zg,Zj,Zk,Zl,Zm,Zn,Zp,Zq,reduceCtorEq,W_join,h4]
   exact hK _ w2 nil2
  obtain ⟨xa, rfl, cell⟩ := pos_cellsK hXr (by omega)
  have c0 := cell 0 (by omega)
  have c1 := cell 1 (by omega)
  rw[show ((0 : Nat) : Int) = 0 by rfl] at c0
  rw[show ((1 : Nat) : Int) = 1 by rfl] at c1
  by_cases h2 : 2 < at' l 0
  ·rw[if_pos (.inr (.inl h2))] at hK
   simp(disch:=omega)only[Zu,Zv,Zx,Zz,EZ,↓EP,↓reduceIte,Za,Zb,Zc,Zd,Ze,Zf,Zg,Zj,Zk,Zl,Zm,Zn,Zp,Zq,reduceCtorEq,W_join,h4,c0,c1]
   exact hK _ w2 nil2
  by_cases h3 : at' l 0 < 2
  ·by_cases h40 : 40 ≤ at' l 1
   ·rw[if_pos (.inr (.inr ⟨h3,h40⟩))] at hK
    simp(disch:=omega)only[Zu,Zv,Zx,Zz,EZ,↓EP,↓reduceIte,Za,Zb,Zc,Zd,Ze,Zf,Zg,Zj,Zk,Zl,Zm,Zn,Zp,Zq,reduceCtorEq,W_join,h4,c0,c1]
    exact hK _ w2 nil2
   ·rw[if_neg (fun h => by rcases h with h | h | h; exact hl2 h; exact h2 h; exact h40 h.2)] at hK
    simp(disch:=omega)only[Zu,Zv,Zx,Zz,EZ,↓EP,↓reduceIte,Za,Zb,Zc,Zd,Ze,Zf,Zg,Zj,Zk,Zl,Zm,Zn,Zp,Zq,reduceCtorEq,W_join,h4,c0,c1]
    exact hK _ w2 g
  ·rw[if_neg (fun h => by rcases h with h | h | h; exact hl2 h; exact h2 h; exact h3 h.1)] at hK
   simp(disch:=omega)only[Zu,Zv,Zx,Zz,EZ,↓EP,↓reduceIte,Za,Zb,Zc,Zd,Ze,Zf,Zg,Zj,Zk,Zl,Zm,Zn,Zp,Zq,reduceCtorEq,W_join,h4,c0,c1]
   exact hK _ w2 g
end Go.Proofs.YtcgplgpdcfocpaaGreatDoor.Der
end
section
namespace Go.Proofs.YtcgplgpdcfocpaaGreatDoor.Der
open Go Go.RowKit Go.Proofs Go.Proofs.YtcgplgpdcfocpaaGreatDoor.Eng Go.Proofs.YtcgplgpdcfocpaaGreatDoor.Code
attribute [local irreducible] callK S.W opsW scrW scrT
theorem arcsGo_bd : ∀ (s l : List Int) (v : Int) (n : Nat) (r : List Int), arcsGo s l v n = some r → 0 ≤ v → v ≤ 1099511627776 → (∀ x ∈ l, 0 ≤ x ∧ x ≤ 1099511627776) →
  (∀ x ∈ r, 0 ≤ x ∧ x ≤ 1099511627776) ∧ r.length ≤ l.length + s.length
 | [], l, v, n, r, h, h1, h2, h3 => by
  simp only[arcsGo,Option.some.injEq] at h
  subst h
  exact ⟨h3, by simp⟩
 | c :: s, l, v, n, r, h, h1, h2, h3 => by
  rw[arcsGo] at h
  split at h
  ·have := arcsGo_bd s _ _ _ r h (by omega) (by omega) (fun x hx => by
    rw[List.mem_append] at hx
    rcases hx with hx | hx
    ·exact h3 x hx
    ·simp at hx; omega)
   refine ⟨this.1, ?_⟩
   have h4 := this.2
   simp at h4 ⊢; omega
  ·split at h
   ·simp at h
   ·rename_i h5
    have sb := satA_bd (v := 10 * v + (c - 48)) (by omega)
    have := arcsGo_bd s _ _ _ r h sb.1 sb.2 h3
    refine ⟨this.1, ?_⟩
    have h4 := this.2
    simp at h4 ⊢; omega
theorem arcs_bd {s l : List Int} (h : arcsR s = some l) : (∀ x ∈ l, 0 ≤ x ∧ x ≤ 1099511627776) ∧ l.length ≤ s.length + 1 ∧ 2 ≤ l.length ∧ at' l 0 ≤ 2 := by
 unfold arcsR at h
 cases hh : arcsGo (s ++ [46]) [] 0 0 with
 | none => rw[hh] at h; simp at h
 | some r =>
  rw[hh] at h
  simp only at h
  split at h
  ·simp at h
  ·rename_i h1
   simp only[Option.some.injEq] at h
   subst h
   have := arcsGo_bd _ _ _ _ _ hh (by omega) (by omega) (by simp)
   refine ⟨this.1, ?_, ?_, ?_⟩
   ·have h2 := this.2
    simp at h2; omega
   ·apply Nat.le_of_not_lt; exact fun h => h1 (.inl h)
   ·apply Int.le_of_not_gt; exact fun h => h1 (.inr (.inl h))
theorem at_mem {l : List Int} {i : Nat} (h : i < l.length) : at' l (i : Int) ∈ l := by
 rw[atN,List.getD_eq_getElem?_getD,List.getElem?_eq_getElem h]
 exact List.getElem_mem h
def sevens (l : List Int) : List Int := l.flatMap fun v => sevenR v.toNat
theorem sevens_snoc (l : List Int) (x : Int) : sevens (l ++ [x]) = sevens l ++ sevenR x.toNat := by simp[sevens]
set_option maxHeartbeats 2000000 in
theorem putoid_vw {w : World} {u : List UInt8} (hm : u.length ≤ 1073741824) (K : Value → World → Prop)
  (hK : ∀ v' w', Gw .u8 w w' v' (putOidR (ints u)).1 → K (pr2 v' (putOidR (ints u)).2) w') : callK Tryz.prog 75 [.string (S u)] w K := by
 refine call_of Tryz.func75 Code.h75 (by simp[Code.c75]) ?_
 simp(disch:=omega)only[Zu,Zv,Zx,Zz,EZ,↓EP,↓reduceIte,Za,Zb,Zc,Zd,Ze,Zf,Zg,Zj,Zk,Zl,Zm,Zn,Zp,Zq,reduceCtorEq,Code.c75]
 refine arcs_vw hm _ fun v1 w1 g1 => ?_
 simp only[prb]
 unfold putOidR at hK
 cases hl : arcsR (ints u) with
 | none =>
  rw[hl] at hK g1
  simp only[Option.isSome_none] at hK ⊢
  simp(disch:=omega)only[Zu,Zv,Zx,Zz,EZ,↓EP,↓reduceIte,Za,Zb,Zc,Zd,Ze,Zf,Zg,Zj,Zk,Zl,Zm,Zn,Zp,Zq,reduceCtorEq,Bool.not_false]
  exact hK _ w1 ((Gw.nil .u8 w).step g1.fr)
 | some l =>
 rw[hl] at hK g1
 simp only[Option.isSome_some,Option.getD_some] at hK g1 ⊢
 obtain ⟨hbd, hll, h2, h02⟩ := arcs_bd hl
 rw[ints_len] at hll
 obtain ⟨A, c, rfl, hc, hr⟩ := readn g1.sl rfl
 obtain ⟨ad, rfl, cell⟩ := pos_cellsK hr (by omega)
 simp(disch:=omega)only[Zu,Zv,Zx,Zz,EZ,↓EP,↓reduceIte,Za,Zb,Zc,Zd,Ze,Zf,Zg,Zj,Zk,Zl,Zm,Zn,Zp,Zq,reduceCtorEq,Bool.not_true]
 refine loop_inv (fun t ρ w' => w' = w1 ∧ ∃ i : Nat, ρ 20 = .int .i64 i ∧ i ≤ l.length ∧ t = l.length - i ∧ (l.drop i).any (fun v => decide (2147483647 < v)) = l.any (fun v => decide (2147483647 < v))) l.length ⟨rfl, 0, by simp(disch:=omega)only[Zu,Zv,Zx,Zz,EZ,↓EP,↓reduceIte,Za,Zb,Zc,Zd,Ze,Zf,Zg,Zj,Zk,Zl,Zm,Zn,Zp,Zq,reduceCtorEq], by omega, by omega, by simp⟩ ?_
 rintro t ρ w' hf ⟨rfl, i, h20, hi, rfl, hany⟩ N hN
 have r4 : ρ 4 = .slice (some ad) l.length c := by rw[hf 4 rfl]; simp(disch:=omega)only[Zu,Zv,Zx,Zz,EZ,↓EP,↓reduceIte,Za,Zb,Zc,Zd,Ze,Zf,Zg,Zj,Zk,Zl,Zm,Zn,Zp,Zq,reduceCtorEq]
 have r18 : ρ 18 = .slice (some ad) l.length c := by rw[hf 18 rfl]; simp(disch:=omega)only[Zu,Zv,Zx,Zz,EZ,↓EP,↓reduceIte,Za,Zb,Zc,Zd,Ze,Zf,Zg,Zj,Zk,Zl,Zm,Zn,Zp,Zq,reduceCtorEq]
 have r19 : ρ 19 = .int .i64 l.length := by rw[hf 19 rfl]; simp(disch:=omega)only[Zu,Zv,Zx,Zz,EZ,↓EP,↓reduceIte,Za,Zb,Zc,Zd,Ze,Zf,Zg,Zj,Zk,Zl,Zm,Zn,Zp,Zq,reduceCtorEq]
 clear hf
 by_cases hil : (i : Int) < (l.length : Int)
 ·have ci := cell i (by omega)
  rw[drop_at (show i < l.length by omega), List.any_cons] at hany
  by_cases hb : 2147483647 < at' l (i : Int)
  ·rw[decide_eq_true hb,Bool.true_or] at hany
   rw[if_pos hany.symm] at hK
   simp(disch:=omega)only[Zu,Zv,Zx,Zz,EZ,↓EP,↓reduceIte,Za,Zb,Zc,Zd,Ze,Zf,Zg,Zj,Zk,Zl,Zm,Zn,Zp,Zq,reduceCtorEq,W_join,h20,r18,r19,ci]
   exact hK _ w' ((Gw.nil .u8 w).step g1.fr)
  ·rw[decide_eq_false hb,Bool.false_or] at hany
   simp(disch:=omega)only[Zu,Zv,Zx,Zz,EZ,↓EP,↓reduceIte,Za,Zb,Zc,Zd,Ze,Zf,Zg,Zj,Zk,Zl,Zm,Zn,Zp,Zq,reduceCtorEq,W_join,h20,r18,r19,ci]
   exact hN (l.length - (i + 1)) _ _ (by omega) ⟨rfl, i + 1, by simp(disch:=omega)only[Zu,Zv,Zx,Zz,EZ,↓EP,↓reduceIte,Za,Zb,Zc,Zd,Ze,Zf,Zg,Zj,Zk,Zl,Zm,Zn,Zp,Zq,reduceCtorEq,h20,Int.natCast_add], by omega, rfl, hany⟩
 have hie : i = l.length := by omega
 subst hie
 rw[List.drop_length,List.any_nil] at hany
 rw[if_neg (by rw [← hany]; simp)] at hK
 have hsm : ∀ i : Nat, i < l.length → 0 ≤ at' l (i : Int) ∧ at' l (i : Int) ≤ 2147483647 := fun i hi => by
  have h1 := hbd _ (at_mem hi)
  refine ⟨h1.1, ?_⟩
  apply Int.le_of_not_gt
  intro hgt
  have : l.any (fun v => decide (2147483647 < v)) = true := List.any_eq_true.2 ⟨_, at_mem hi, decide_eq_true hgt⟩
  rw[this] at hany
  simp at hany
 clear hany hN
 have c0 := cell 0 (by omega)
 have c1 := cell 1 (by omega)
 have b0 := hsm 0 (by omega)
 have b1 := hsm 1 (by omega)
 rw[show ((0 : Nat) : Int) = 0 by rfl] at c0 b0
 rw[show ((1 : Nat) : Int) = 1 by rfl] at c1 b1
 have cellf : ∀ w2, Fr w' w2 nob → w2.cell? (ad.add 0) = some (.int .u64 (at' l 0)) ∧ w2.cell? (ad.add 1) = some (.int .u64 (at' l 1)) := fun w2 f => by
  obtain ⟨ad', e', _, hcl⟩ := (hr.nb f).get (by rw[nums_length]; omega)
  cases e'
  have q0 := hcl.numN (j := 0) (by omega)
  have q1 := hcl.numN (j := 1) (by omega)
  exact ⟨q0, q1⟩
 obtain ⟨z, hz⟩ : ∃ z : Nat, 40 * at' l 0 + at' l 1 = (z : Int) := ⟨(40 * at' l 0 + at' l 1).toNat, by omega⟩
 rw[hz,Int.toNat_natCast] at hK
 simp(disch:=omega)only[Zu,Zv,Zx,Zz,EZ,↓EP,↓reduceIte,Za,Zb,Zc,Zd,Ze,Zf,Zg,Zj,Zk,Zl,Zm,Zn,Zp,Zq,reduceCtorEq,W_join,h20,r4,r18,r19,c0,c1,hz]
 intro m1
 refine seven_vw (by omega) _ fun v2 w2 g2 => ?_
 have f2 := (Fr.drewN w' (1 + m1) nob).nb g2.fr
 obtain ⟨d0, d1⟩ := cellf w2 f2
 have ezz : sevenR z ++ (l.drop 2).flatMap (fun v => sevenR v.toNat) = sevenR z ++ sevens (l.drop 2) := rfl
 rw[ezz] at hK
 have e2 : (2 : Int).toNat = 2 := rfl
 simp(disch:=omega)only[Zu,Zv,Zx,Zz,EZ,↓EP,↓reduceIte,Za,Zb,Zc,Zd,Ze,Zf,Zg,Zj,Zk,Zl,Zm,Zn,Zp,Zq,reduceCtorEq,W_join,h20,r4,r18,r19,d0,d1,hz,e2]
 intro m2
 have hR2 : Rd w' (subA (some ad) c 2 1) (nums .u64 (l.drop 2)) := hr.subA c 2 hc
 generalize subA (some ad) c 2 1 = A2 at hR2 ⊢
 have hd2 : (l.drop 2).length = l.length - 2 := by simp
 have hs2 : ∀ i : Nat, i < (l.drop 2).length → 0 ≤ at' (l.drop 2) (i : Int) ∧ at' (l.drop 2) (i : Int) ≤ 2147483647 := fun i hi => by
  rw[at_drop]; exact hsm (2 + i) (by omega)
 generalize hq : l.drop 2 = q at hR2 hd2 hs2 hK
 have G2 : Gw .u8 w' (w2.drewN m2) v2 (sevenR z) := (g2.step (Fr.drewN w2 m2 nob)).from (Fr.drewN w' (1 + m1) nob)
 generalize w2.drewN m2 = w3 at G2 ⊢
 have eqn : ((l.length - 2 : Nat) : Int) = (q.length : Int) := by omega
 have hsl := seven_len z
 refine loop_inv (fun t ρ w4 => ∃ (j : Nat) (B : Value), ρ 39 = .int .i64 j ∧ ρ 8 = B ∧ j ≤ q.length ∧ t = q.length - j ∧ Gw .u8 w' w4 B (sevenR z ++ sevens (q.take j)) ∧ (sevens (q.take j)).length ≤ 11 * j) q.length ⟨0, v2, by simp(disch:=omega)only[Zu,Zv,Zx,Zz,EZ,↓EP,↓reduceIte,Za,Zb,Zc,Zd,Ze,Zf,Zg,Zj,Zk,Zl,Zm,Zn,Zp,Zq,reduceCtorEq], by simp(disch:=omega)only[Zu,Zv,Zx,Zz,EZ,↓EP,↓reduceIte,Za,Zb,Zc,Zd,Ze,Zf,Zg,Zj,Zk,Zl,Zm,Zn,Zp,Zq,reduceCtorEq], by omega, by omega, by simpa [sevens] using G2, by simp[sevens]⟩ ?_
 rintro t ρ w4 hf ⟨j, B, h39, h8, hj, rfl, G, hlen⟩ N hN
 have r37 : ρ 37 = .slice A2 (l.length - 2) (c - 2) := by rw[hf 37 rfl]; simp(disch:=omega)only[Zu,Zv,Zx,Zz,EZ,↓EP,↓reduceIte,Za,Zb,Zc,Zd,Ze,Zf,Zg,Zj,Zk,Zl,Zm,Zn,Zp,Zq,reduceCtorEq,r4,e2]
 have r38 : ρ 38 = .int .i64 q.length := by rw[hf 38 rfl]; simp(disch:=omega)only[Zu,Zv,Zx,Zz,EZ,↓EP,↓reduceIte,Za,Zb,Zc,Zd,Ze,Zf,Zg,Zj,Zk,Zl,Zm,Zn,Zp,Zq,reduceCtorEq,r4,e2,eqn]
 clear hf
 by_cases hjl : (j : Int) < (q.length : Int)
 ·obtain ⟨a2, rfl, cellq⟩ := pos_cellsK (hR2.nb G.fr) (by omega)
  have cj := cellq j (by omega)
  have bj := hs2 j (by omega)
  obtain ⟨y, hy⟩ : ∃ y : Nat, at' q (j : Int) = (y : Int) := ⟨(at' q (j : Int)).toNat, by omega⟩
  rw[hy] at cj
  have hst : sevens (q.take (j + 1)) = sevens (q.take j) ++ sevenR y := by
   rw[take_snoc (by omega),sevens_snoc,hy,Int.toNat_natCast]
  have hsy := seven_len y
  simp(disch:=omega)only[Zu,Zv,Zx,Zz,EZ,↓EP,↓reduceIte,Za,Zb,Zc,Zd,Ze,Zf,Zg,Zj,Zk,Zl,Zm,Zn,Zp,Zq,reduceCtorEq,W_join,h39,h8,r37,r38,cj]
  refine seven_vw (by omega) _ fun v5 w5 g5 => ?_
  obtain ⟨A5, c5, rfl, hc5, hr5⟩ := readn g5.sl rfl
  have G5 := G.step g5.fr
  simp(disch:=omega)only[Zu,Zv,Zx,Zz,EZ,↓EP,↓reduceIte,Za,Zb,Zc,Zd,Ze,Zf,Zg,Zj,Zk,Zl,Zm,Zn,Zp,Zq,reduceCtorEq,h39,h8]
  refine app_num G5.sl rfl hr5 (by rw[List.length_append]; omega) (by omega) fun v6 w6 a6 => ?_
  have G6 := G5.apd a6
  rw[List.append_assoc,← hst] at G6
  simp(disch:=omega)only[Zu,Zv,Zx,Zz,EZ,↓EP,↓reduceIte,Za,Zb,Zc,Zd,Ze,Zf,Zg,Zj,Zk,Zl,Zm,Zn,Zp,Zq,reduceCtorEq,h39]
  exact hN (q.length - (j + 1)) _ _ (by omega) ⟨j + 1, v6, by simp(disch:=omega)only[Zu,Zv,Zx,Zz,EZ,↓EP,↓reduceIte,Za,Zb,Zc,Zd,Ze,Zf,Zg,Zj,Zk,Zl,Zm,Zn,Zp,Zq,reduceCtorEq,h39,Int.natCast_add], by simp(disch:=omega)only[Zu,Zv,Zx,Zz,EZ,↓EP,↓reduceIte,Za,Zb,Zc,Zd,Ze,Zf,Zg,Zj,Zk,Zl,Zm,Zn,Zp,Zq,reduceCtorEq], by omega, rfl, G6, by rw[hst,List.length_append]; omega⟩
 ·have hje : j = q.length := by omega
  subst hje
  rw[List.take_of_length_le (Nat.le_refl _)] at G
  simp(disch:=omega)only[Zu,Zv,Zx,Zz,EZ,↓EP,↓reduceIte,Za,Zb,Zc,Zd,Ze,Zf,Zg,Zj,Zk,Zl,Zm,Zn,Zp,Zq,reduceCtorEq,W_join,h39,h8,r37,r38]
  exact hK _ w4 (G.from g1.fr)
end Go.Proofs.YtcgplgpdcfocpaaGreatDoor.Der
end
section
namespace Go.Proofs.YtcgplgpdcfocpaaGreatDoor.Der
open Go Go.RowKit Go.Proofs Go.Proofs.YtcgplgpdcfocpaaGreatDoor.Eng Go.Proofs.YtcgplgpdcfocpaaGreatDoor.Code
attribute [local irreducible] callK S.W opsW scrW scrT
def foldv (l : List Int) : Int := l.foldl (fun v c => satA (10 * v + (c - 48))) 0
theorem foldv_snoc (l : List Int) (c : Int) : foldv (l ++ [c]) = satA (10 * foldv l + (c - 48)) := by simp[foldv]
def seg (d : List Int) (f i : Nat) : List Int := (d.drop f).take (i - f)
theorem seg_snoc {d : List Int} {f i : Nat} (h : f ≤ i) (hi : i < d.length) : seg d f (i + 1) = seg d f i ++ [at' d (i : Int)] := by
 unfold seg
 rw[show i + 1 - f = (i - f) + 1 by omega, take_snoc (by simp; omega), at_drop, show f + (i - f) = i by omega]
theorem seg_self (d : List Int) (f : Nat) : seg d f f = [] := by simp[seg]
structure At (d l : List Int) (f i : Nat) (T : Option (List Int)) : Prop where
 dig : ∀ x ∈ seg d f i, 48 ≤ x ∧ x ≤ 57
 bad : f + 1 < i → at' d (f : Int) = 48 → T = none
 good : ¬ (f + 1 < i ∧ at' d (f : Int) = 48) → arcsGo ((d ++ [46]).drop i) l (foldv (seg d f i)) (min (i - f) 20) = T
theorem drop46 {d : List Int} {i : Nat} (h : i ≤ d.length) : (d ++ [46]).drop i = at' (d ++ [46]) (i : Int) :: (d ++ [46]).drop (i + 1) := drop_at (by simp; omega)
theorem at46 {d : List Int} {i : Nat} (h : i < d.length) : at' (d ++ [46]) (i : Int) = at' d (i : Int) := by
 rw[atN,atN,List.getD_eq_getElem?_getD,List.getD_eq_getElem?_getD,List.getElem?_append_left h]
theorem At.first {d l : List Int} {f : Nat} {T : Option (List Int)} (h : arcsGo ((d ++ [46]).drop f) l 0 0 = T) : At d l f f T :=
 ⟨by rw[seg_self]; simp, fun h1 => by omega, fun _ => by rw[seg_self,Nat.sub_self]; exact h⟩
theorem seg_one {d : List Int} {f : Nat} (h : f < d.length) : seg d f (f + 1) = [at' d (f : Int)] := by
 rw[seg_snoc (Nat.le_refl f) h,seg_self]; rfl
theorem At.zero {d l : List Int} {f : Nat} {T : Option (List Int)} (h : At d l f (f + 1) T) (hf : f < d.length) : (foldv (seg d f (f + 1)) = 0) ↔ at' d (f : Int) = 48 := by
 have hd := h.dig (at' d (f : Int)) (by rw[seg_one hf]; simp)
 rw[seg_one hf]
 simp only[foldv,List.foldl_cons,List.foldl_nil,satA]
 split <;> constructor <;> intro <;> omega
theorem At.digit {d l : List Int} {f i : Nat} {T : Option (List Int)} (h : At d l f i T) (hfi : f ≤ i) (hi : i < d.length) (h0 : 48 ≤ at' d (i : Int)) (h9 : at' d (i : Int) ≤ 57) : At d l f (i + 1) T := by
 have key : ¬ (f + 1 < i ∧ at' d (f : Int) = 48) → (if i = f + 1 ∧ at' d (f : Int) = 48 then none else arcsGo ((d ++ [46]).drop (i + 1)) l (foldv (seg d f (i + 1))) (min (i + 1 - f) 20)) = T := by
  intro hc
  have := h.good hc
  rw[drop46 (by omega),at46 hi,arcsGo,if_neg (by omega)] at this
  by_cases h1 : i = f + 1
  ·subst h1
   by_cases hz : at' d (f : Int) = 48
   ·rw[if_pos (.inr (.inr ⟨by omega,(h.zero (by omega)).2 hz⟩))] at this
    rw[if_pos ⟨rfl,hz⟩]; exact this
   ·rw [if_neg (fun hx => by
     rcases hx with hx | hx | hx
     ·omega
     ·omega
     ·exact hz ((h.zero (by omega)).1 hx.2))] at this
    rw[if_neg (fun hx => hz hx.2), seg_snoc hfi hi, foldv_snoc, ← this]
    congr 1; omega
  ·rw[if_neg (by omega)] at this
   rw[if_neg (fun hx => h1 hx.1), seg_snoc hfi hi, foldv_snoc, ← this]
   congr 1; omega
 refine ⟨?_, fun h1 h2 => ?_, fun hc => ?_⟩
 ·rw[seg_snoc hfi hi]
  intro x hx
  rw[List.mem_append] at hx
  rcases hx with hx | hx
  ·exact h.dig x hx
  ·simp at hx; omega
 ·by_cases h3 : f + 1 < i
  ·exact h.bad h3 h2
  ·have := key (fun hx => h3 hx.1)
   rw[if_pos ⟨by omega,h2⟩] at this
   exact this.symm
 ·have := key (fun hx => hc ⟨by omega, hx.2⟩)
  rwa [if_neg (fun hx => hc ⟨by omega, hx.2⟩)] at this
theorem At.next {d l : List Int} {f i : Nat} {T : Option (List Int)} (h : At d l f i T) (hi : i ≤ d.length) (h46 : at' (d ++ [46]) (i : Int) = 46) (hf : f < i) (hb : ¬ (at' d (f : Int) = 48 ∧ f + 1 < i)) : arcsGo ((d ++ [46]).drop (i + 1)) (l ++ [foldv (seg d f i)]) 0 0 = T := by
 have := h.good (fun hx => hb ⟨hx.2, hx.1⟩)
 rw[drop46 hi, h46, arcsGo, if_pos ⟨rfl, by omega⟩] at this
 exact this
end Go.Proofs.YtcgplgpdcfocpaaGreatDoor.Der
end
section
namespace Go.Proofs.YtcgplgpdcfocpaaGreatDoor.Der
open Go Go.RowKit Go.Proofs Go.Proofs.YtcgplgpdcfocpaaGreatDoor.Eng Go.Proofs.YtcgplgpdcfocpaaGreatDoor.Code
attribute [local irreducible] callK S.W opsW scrW scrT
theorem at_app {l pad : List Int} {i : Nat} (h : i < l.length) : at' (l ++ pad) (i : Int) = at' l (i : Int) := by
 rw[atN,atN,List.getD_eq_getElem?_getD,List.getD_eq_getElem?_getD,List.getElem?_append_left h]
end Go.Proofs.YtcgplgpdcfocpaaGreatDoor.Der
end
section
namespace Go.Proofs.YtcgplgpdcfocpaaGreatDoor.Der
open Go Go.RowKit Go.Proofs Go.Proofs.YtcgplgpdcfocpaaGreatDoor.Eng Go.Proofs.YtcgplgpdcfocpaaGreatDoor.Code
attribute [local irreducible] callK S.W opsW scrW scrT
open Go.Proofs.YtcgplgpdcfocpaaGreatDoor.Spec
def oidU (alg : Int) : List UInt8 :=
 if alg = 1 then [49, 46, 51, 46, 49, 52, 46, 51, 46, 50, 46, 50, 54]
 else if alg = 2 then [50, 46, 49, 54, 46, 56, 52, 48, 46, 49, 46, 49, 48, 49, 46, 51, 46, 52, 46, 50, 46, 49]
 else if alg = 3 then [50, 46, 49, 54, 46, 56, 52, 48, 46, 49, 46, 49, 48, 49, 46, 51, 46, 52, 46, 50, 46, 50]
 else [50, 46, 49, 54, 46, 56, 52, 48, 46, 49, 46, 49, 48, 49, 46, 51, 46, 52, 46, 50, 46, 51]
def oidP (alg : Int) : List Int := (putOidR (ints (oidU alg))).1
def infoR (alg : Int) (sum : List Int) : List Int :=
 (putR 0 16 true [(putR 0 16 true [(putR 0 6 false [oidP alg]).1, (putR 0 5 false []).1]).1, (putR 0 4 false [sum]).1]).1
def padR (alg : Int) (sum : List Int) (n : Int) : List Int × Int :=
 if sizeI alg = 0 ∨ (sum.length : Int) ≠ sizeI alg ∨ 2048 < n then ([], 1)
 else if n < (infoR alg sum).length + 11 then ([], 2)
 else ([0, 1] ++ List.replicate (n.toNat - (infoR alg sum).length - 3) 255 ++ [0] ++ infoR alg sum, 0)
theorem putR_len (cls tag : Int) (cons : Bool) (ls : List (List Int)) : (putR cls tag cons ls).1.length ≤ 17 + (ls.map List.length).sum := by
 unfold putR
 split
 ·simp
 ·split
  ·simp
  ·rw[headR_eq]
   simp only[List.length_append,List.length_flatten]
   have h1 := headA_len (firstR cls cons) tag
   have h2 := lenB_len (ls.map List.length).sum
   omega
theorem oid_len (alg : Int) : (oidP alg).length ≤ 30 := by
 have h1 : (putOidR (ints (oidU 1))).1.length ≤ 30 := by decide +kernel
 have h2 : (putOidR (ints (oidU 2))).1.length ≤ 30 := by decide +kernel
 have h3 : (putOidR (ints (oidU 3))).1.length ≤ 30 := by decide +kernel
 have h4 : (putOidR (ints (oidU 4))).1.length ≤ 30 := by decide +kernel
 unfold oidP
 by_cases e1 : alg = 1
 ·subst e1; exact h1
 by_cases e2 : alg = 2
 ·subst e2; exact h2
 by_cases e3 : alg = 3
 ·subst e3; exact h3
 have : oidU alg = oidU 4 := by unfold oidU; rw[if_neg e1,if_neg e2,if_neg e3]; rfl
 rw[this]; exact h4
theorem info_len {alg : Int} {sum : List Int} (h : sum.length ≤ 64) : (infoR alg sum).length ≤ 200 := by
 unfold infoR
 have a := putR_len 0 16 true [(putR 0 16 true [(putR 0 6 false [oidP alg]).1, (putR 0 5 false []).1]).1, (putR 0 4 false [sum]).1]
 have b := putR_len 0 16 true [(putR 0 6 false [oidP alg]).1, (putR 0 5 false []).1]
 have c := putR_len 0 6 false [oidP alg]
 have d := putR_len 0 5 false []
 have e := putR_len 0 4 false [sum]
 have f := oid_len alg
 simp only[List.map_cons,List.map_nil,List.sum_cons,List.sum_nil] at a b c d e
 omega
theorem oidU_len (alg : Int) : (oidU alg).length ≤ 22 := by
 unfold oidU
 repeat' split
 all_goals decide
theorem LV.emp (w : World) : LV w (.slice none 0 0) [] := ⟨⟨none, 0, [], rfl, Nat.le_refl _, Rd.nil _ _, rfl, fun i v l h => by simp at h⟩⟩
theorem LV.one {w w' : World} {A : Option Addr} {c : Nat} {p : List Int} (n : New w w' [.slice A p.length c]) (hp : Vw .u8 w (.slice A p.length c) p) : LV w' (.slice (some ⟨w.heap.size, 0, none⟩) 1 1) [p] := by
 refine ⟨⟨_, _, _, rfl, Nat.le_refl _, n.rdv, rfl, fun i v l h1 h2 => ?_⟩⟩
 match i, h1, h2 with
 | 0, h1, h2 => simp at h1 h2; subst h1 h2; exact hp.nb (n.fr nob)
 | i + 1, h1, h2 => simp at h1
theorem LV.two {w w' : World} {A B : Option Addr} {c d : Nat} {p q : List Int} (n : New w w' [.slice A p.length c, .slice B q.length d]) (hp : Vw .u8 w (.slice A p.length c) p) (hq : Vw .u8 w (.slice B q.length d) q) : LV w' (.slice (some ⟨w.heap.size, 0, none⟩) 2 2) [p, q] := by
 refine ⟨⟨_, _, _, rfl, Nat.le_refl _, n.rdv, rfl, fun i v l h1 h2 => ?_⟩⟩
 match i, h1, h2 with
 | 0, h1, h2 => simp at h1 h2; subst h1 h2; exact hp.nb (n.fr nob)
 | 1, h1, h2 => simp at h1 h2; subst h1 h2; exact hq.nb (n.fr nob)
 | i + 2, h1, h2 => simp at h1
theorem oid_k {alg : Int} {w : World} {K : Value → World → Prop} (hK : K (.string (S (oidU alg))) w) : callK Tryz.prog 76 [.int .i64 alg] w K := by
 refine call_of Tryz.func76 Code.h76 (by simp[Code.c76]) ?_
 unfold oidU at hK
 by_cases e1 : alg = 1
 ·simp(disch:=omega)only[Zu,Zv,Zx,Zz,EZ,↓EP,↓reduceIte,Za,Zb,Zc,Zd,Ze,Zf,Zg,Zj,Zk,Zl,Zm,Zn,Zp,Zq,reduceCtorEq,Code.c76,e1]
  rw[if_pos e1] at hK; exact hK
 by_cases e2 : alg = 2
 ·simp(disch:=omega)only[Zu,Zv,Zx,Zz,EZ,↓EP,↓reduceIte,Za,Zb,Zc,Zd,Ze,Zf,Zg,Zj,Zk,Zl,Zm,Zn,Zp,Zq,reduceCtorEq,Code.c76,e1,e2]
  rw[if_neg e1,if_pos e2] at hK; exact hK
 by_cases e3 : alg = 3
 ·simp(disch:=omega)only[Zu,Zv,Zx,Zz,EZ,↓EP,↓reduceIte,Za,Zb,Zc,Zd,Ze,Zf,Zg,Zj,Zk,Zl,Zm,Zn,Zp,Zq,reduceCtorEq,Code.c76,e1,e2,e3]
  rw[if_neg e1,if_neg e2,if_pos e3] at hK; exact hK
 simp(disch:=omega)only[Zu,Zv,Zx,Zz,EZ,↓EP,↓reduceIte,Za,Zb,Zc,Zd,Ze,Zf,Zg,Zj,Zk,Zl,Zm,Zn,Zp,Zq,reduceCtorEq,Code.c76,e1,e2,e3]
 rw[if_neg e1,if_neg e2,if_neg e3] at hK; exact hK
end Go.Proofs.YtcgplgpdcfocpaaGreatDoor.Der
end
section
namespace Go.Proofs.YtcgplgpdcfocpaaGreatDoor.Der
open Go Go.RowKit Go.Proofs Go.Proofs.YtcgplgpdcfocpaaGreatDoor.Eng Go.Proofs.YtcgplgpdcfocpaaGreatDoor.Code
attribute [local irreducible] callK S.W opsW scrW scrT
open Go.Proofs.YtcgplgpdcfocpaaGreatDoor.Spec
attribute [local irreducible] putR putOidR
theorem len63 {p : List Int} (h : p.length ≤ 1000) : ∀ l ∈ [p], l.length ≤ 9223372036854775807 := fun l hl => by
 rw[List.mem_singleton] at hl; subst hl; omega
theorem len63b {p q : List Int} (h : p.length ≤ 1000) (h' : q.length ≤ 1000) : ∀ l ∈ [p, q], l.length ≤ 9223372036854775807 := fun l hl => by
 simp only[List.mem_cons,List.not_mem_nil,or_false] at hl
 rcases hl with rfl | rfl <;> omega
set_option maxHeartbeats 4000000 in
theorem info_k {alg : Int} {sum : List Int} {v : Value} {w : World} (hv : Vw .u8 w v sum) (hs : sum.length ≤ 64) {K : Value → World → Prop} (hK : ∀ v' w', Gw .u8 w w' v' (infoR alg sum) → K v' w') : callK Tryz.prog 44 [.int .i64 alg, v] w K := by
 refine call_of Tryz.func44 Code.h44 (by simp[Code.c44]) ?_
 have hv0 := hv
 obtain ⟨A, c, rfl, hc, hr⟩ := hv0
 have lo : (putOidR (ints (oidU alg))).1.length ≤ 30 := oid_len alg
 have l6 := putR_len 0 6 false [(putOidR (ints (oidU alg))).1]
 have l5 := putR_len 0 5 false []
 have la := putR_len 0 16 true [(putR 0 6 false [(putOidR (ints (oidU alg))).1]).1, (putR 0 5 false []).1]
 have l4 := putR_len 0 4 false [sum]
 simp only[List.map_cons,List.map_nil,List.sum_cons,List.sum_nil] at la l4 l5 l6
 have b2 : (2 : Int) ≤ 3 := by decide
 simp(disch:=omega)only[Zu,Zv,Zx,Zz,EZ,↓EP,↓reduceIte,Za,Zb,Zc,Zd,Ze,Zf,Zg,Zj,Zk,Zl,Zm,Zn,Zp,Zq,reduceCtorEq,Code.c44]
 refine oid_k ?_
 simp(disch:=omega)only[Zu,Zv,Zx,Zz,EZ,↓EP,↓reduceIte,Za,Zb,Zc,Zd,Ze,Zf,Zg,Zj,Zk,Zl,Zm,Zn,Zp,Zq,reduceCtorEq]
 refine putoid_vw (by have := oidU_len alg; omega) _ fun v1 w1 g1 => ?_
 obtain ⟨A1, c1, rfl, hc1, hr1, _⟩ := g1.sl.read
 simp(disch:=omega)only[Zu,Zv,Zx,Zz,EZ,↓EP,↓reduceIte,Za,Zb,Zc,Zd,Ze,Zf,Zg,Zj,Zk,Zl,Zm,Zn,Zp,Zq,reduceCtorEq,pr2]
 refine bslS1 fun w2 n2 => ?_
 simp(disch:=omega)only[Zu,Zv,Zx,Zz,EZ,↓EP,↓reduceIte,Za,Zb,Zc,Zd,Ze,Zf,Zg,Zj,Zk,Zl,Zm,Zn,Zp,Zq,reduceCtorEq]
 refine put_vw (LV.one n2 g1.vw) (by decide) (by decide) (by simp) (len63 (by omega)) _ fun v3 w3 g3 => ?_
 obtain ⟨A3, c3, rfl, hc3, hr3, _⟩ := g3.sl.read
 simp(disch:=omega)only[Zu,Zv,Zx,Zz,EZ,↓EP,↓reduceIte,Za,Zb,Zc,Zd,Ze,Zf,Zg,Zj,Zk,Zl,Zm,Zn,Zp,Zq,reduceCtorEq,pr2]
 refine put_vw (LV.emp w3) (by decide) (by decide) (by decide) (fun l hl => by simp at hl) _ fun v4 w4 g4 => ?_
 obtain ⟨A4, c4, rfl, hc4, hr4, _⟩ := g4.sl.read
 simp(disch:=omega)only[Zu,Zv,Zx,Zz,EZ,↓EP,↓reduceIte,Za,Zb,Zc,Zd,Ze,Zf,Zg,Zj,Zk,Zl,Zm,Zn,Zp,Zq,reduceCtorEq,pr2]
 refine bslS2 fun w5 n5 => ?_
 simp(disch:=omega)only[Zu,Zv,Zx,Zz,EZ,↓EP,↓reduceIte,Za,Zb,Zc,Zd,Ze,Zf,Zg,Zj,Zk,Zl,Zm,Zn,Zp,Zq,reduceCtorEq]
 refine put_vw (LV.two n5 (g3.vw.nb g4.fr) g4.vw) (by decide) (by decide) (by simp) (len63b (by omega) (by omega)) _ fun v6 w6 g6 => ?_
 obtain ⟨A6, c6, rfl, hc6, hr6, _⟩ := g6.sl.read
 have f2 := n2.fr nob
 have f5 := n5.fr nob
 have fa : Fr w w6 nob := ((((g1.fr.nb f2).nb g3.fr).nb g4.fr).nb f5).nb g6.fr
 have hv6 : Vw .u8 w6 (.slice A sum.length c) sum := hv.nb fa
 simp(disch:=omega)only[Zu,Zv,Zx,Zz,EZ,↓EP,↓reduceIte,Za,Zb,Zc,Zd,Ze,Zf,Zg,Zj,Zk,Zl,Zm,Zn,Zp,Zq,reduceCtorEq,pr2]
 refine bslS1 fun w7 n7 => ?_
 have f7 := n7.fr nob
 simp(disch:=omega)only[Zu,Zv,Zx,Zz,EZ,↓EP,↓reduceIte,Za,Zb,Zc,Zd,Ze,Zf,Zg,Zj,Zk,Zl,Zm,Zn,Zp,Zq,reduceCtorEq]
 refine put_vw (LV.one n7 hv6) (by decide) (by decide) (by simp) (len63 (by omega)) _ fun v8 w8 g8 => ?_
 obtain ⟨A8, c8, rfl, hc8, hr8, _⟩ := g8.sl.read
 simp(disch:=omega)only[Zu,Zv,Zx,Zz,EZ,↓EP,↓reduceIte,Za,Zb,Zc,Zd,Ze,Zf,Zg,Zj,Zk,Zl,Zm,Zn,Zp,Zq,reduceCtorEq,pr2]
 refine bslS2 fun w9 n9 => ?_
 have f9 := n9.fr nob
 simp(disch:=omega)only[Zu,Zv,Zx,Zz,EZ,↓EP,↓reduceIte,Za,Zb,Zc,Zd,Ze,Zf,Zg,Zj,Zk,Zl,Zm,Zn,Zp,Zq,reduceCtorEq]
 refine put_vw (LV.two n9 ((g6.vw.nb f7).nb g8.fr) g8.vw) (by decide) (by decide) (by simp) (len63b (by omega) (by omega)) _ fun v10 w10 g10 => ?_
 obtain ⟨A10, c10, rfl, hc10, hr10, _⟩ := g10.sl.read
 have fb : Fr w w9 nob := ((fa.nb f7).nb g8.fr).nb f9
 simp(disch:=omega)only[Zu,Zv,Zx,Zz,EZ,↓EP,↓reduceIte,Za,Zb,Zc,Zd,Ze,Zf,Zg,Zj,Zk,Zl,Zm,Zn,Zp,Zq,reduceCtorEq,pr2]
 refine hK _ w10 ⟨g10.sl, fun b e => ?_, fb.nb g10.fr⟩
 have := g10.up b e
 have := fb.size
 omega
end Go.Proofs.YtcgplgpdcfocpaaGreatDoor.Der
end
