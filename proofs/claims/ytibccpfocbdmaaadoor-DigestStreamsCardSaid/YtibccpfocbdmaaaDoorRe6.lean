/- The document's digests: SHA-512. -/
import Derived.Test.YtibccpfocbdmaaaDoorRe5
set_option linter.unusedVariables false
set_option linter.unusedSimpArgs false
namespace Go.Proofs.YtibccpfocbdmaaaDoor.Spec
open Go Go.RowKit Go.Proofs Go.Proofs.YtibccpfocbdmaaaDoor.Eng Go.Proofs.YtibccpfocbdmaaaDoor.Code
set_option maxRecDepth 100000
attribute [local irreducible] callK S.W opsW scrW one

theorem roots64_fill : fillL [(0, 1), (1, 1), (2, 1), (3, 1), (4, 1), (5, 1), (6, 1), (7, 1), (8, 1), (9, 1), (10, 1), (11, 1), (12, 1), (13, 1), (14, 1), (15, 1), (16, 1), (17, 1), (18, 1), (19, 1), (20, 1), (21, 1), (22, 1), (23, 1), (24, 1), (25, 1), (26, 1), (27, 1), (28, 1), (29, 1), (30, 1), (31, 1), (32, 1), (33, 1), (34, 1), (35, 1), (36, 1), (37, 1), (38, 1), (39, 1), (40, 1), (41, 1), (42, 1), (43, 1), (44, 1), (45, 1), (46, 1), (47, 1), (48, 1), (49, 1), (50, 1), (51, 1), (52, 1), (53, 1), (54, 1), (55, 1), (56, 1), (57, 1), (58, 1), (59, 1), (60, 1), (61, 1), (62, 1), (63, 1), (64, 1), (65, 1), (66, 1), (67, 1), (68, 1), (69, 1), (70, 1), (71, 1), (72, 1), (73, 1), (74, 1), (75, 1), (76, 1), (77, 1), (78, 1), (79, 1)] (Array.replicate 80 (Value.int .u64 0)) [(0, .int .u64 4794697086780616226), (1, .int .u64 8158064640168781261), (2, .int .u64 13096744586834688815), (3, .int .u64 16840607885511220156), (4, .int .u64 4131703408338449720), (5, .int .u64 6480981068601479193), (6, .int .u64 10538285296894168987), (7, .int .u64 12329834152419229976), (8, .int .u64 15566598209576043074), (9, .int .u64 1334009975649890238), (10, .int .u64 2608012711638119052), (11, .int .u64 6128411473006802146), (12, .int .u64 8268148722764581231), (13, .int .u64 9286055187155687089), (14, .int .u64 11230858885718282805), (15, .int .u64 13951009754708518548), (16, .int .u64 16472876342353939154), (17, .int .u64 17275323862435702243), (18, .int .u64 1135362057144423861), (19, .int .u64 2597628984639134821), (20, .int .u64 3308224258029322869), (21, .int .u64 5365058923640841347), (22, .int .u64 6679025012923562964), (23, .int .u64 8573033837759648693), (24, .int .u64 10970295158949994411), (25, .int .u64 12119686244451234320), (26, .int .u64 12683024718118986047), (27, .int .u64 13788192230050041572), (28, .int .u64 14330467153632333762), (29, .int .u64 15395433587784984357), (30, .int .u64 489312712824947311), (31, .int .u64 1452737877330783856), (32, .int .u64 2861767655752347644), (33, .int .u64 3322285676063803686), (34, .int .u64 5560940570517711597), (35, .int .u64 5996557281743188959), (36, .int .u64 7280758554555802590), (37, .int .u64 8532644243296465576), (38, .int .u64 9350256976987008742), (39, .int .u64 10552545826968843579), (40, .int .u64 11727347734174303076), (41, .int .u64 12113106623233404929), (42, .int .u64 14000437183269869457), (43, .int .u64 14369950271660146224), (44, .int .u64 15101387698204529176), (45, .int .u64 15463397548674623760), (46, .int .u64 17586052441742319658), (47, .int .u64 1182934255886127544), (48, .int .u64 1847814050463011016), (49, .int .u64 2177327727835720531), (50, .int .u64 2830643537854262169), (51, .int .u64 3796741975233480872), (52, .int .u64 4115178125766777443), (53, .int .u64 5681478168544905931), (54, .int .u64 6601373596472566643), (55, .int .u64 7507060721942968483), (56, .int .u64 8399075790359081724), (57, .int .u64 8693463985226723168), (58, .int .u64 9568029438360202098), (59, .int .u64 10144078919501101548), (60, .int .u64 10430055236837252648), (61, .int .u64 11840083180663258601), (62, .int .u64 13761210420658862357), (63, .int .u64 14299343276471374635), (64, .int .u64 14566680578165727644), (65, .int .u64 15097957966210449927), (66, .int .u64 16922976911328602910), (67, .int .u64 17689382322260857208), (68, .int .u64 500013540394364858), (69, .int .u64 748580250866718886), (70, .int .u64 1242879168328830382), (71, .int .u64 1977374033974150939), (72, .int .u64 2944078676154940804), (73, .int .u64 3659926193048069267), (74, .int .u64 4368137639120453308), (75, .int .u64 4836135668995329356), (76, .int .u64 5532061633213252278), (77, .int .u64 6448918945643986474), (78, .int .u64 6902733635092675308), (79, .int .u64 7801388544844847127)] = some (nums .u64 k512).toArray := by kernel_rfl
theorem roots64_spec {w : World} (K : Value → World → Prop) (hK : ∀ w', Fr w w' nob → K (.agg (nums .u64 k512).toArray) w') : callK Tryd.prog 39 [] w K := by
  refine call_of Tryd.func39 Code.h39 (by simp [Code.c39]) ?_
  simp (disch := omega) only [EO, ↓EP, EQ, EM, ↓reduceIte, Int.reduceAdd, Int.reduceEq, Int.reduceLE, Int.reduceLT, Int.reduceMul, Int.reduceNeg, Int.reducePow, Int.reduceSub, Int.reduceToNat, Nat.reduceAdd, Nat.reduceEqDiff, Nat.reduceLT, Nat.reduceLeDiff, Nat.reduceMul, reduceCtorEq, Code.c39]
  refine al_k (nums .u64 (zs 80)) rfl fun w1 n1 => ?_
  simp (disch := omega) only [EO, ↓EP, EQ, EM, ↓reduceIte, Int.reduceAdd, Int.reduceEq, Int.reduceLE, Int.reduceLT, Int.reduceMul, Int.reduceNeg, Int.reducePow, Int.reduceSub, Int.reduceToNat, Nat.reduceAdd, Nat.reduceEqDiff, Nat.reduceLT, Nat.reduceLeDiff, Nat.reduceMul, reduceCtorEq]
  refine ⟨_, roots64_fill, ?_⟩
  simp (disch := omega) only [EO, ↓EP, EQ, EM, ↓reduceIte, Int.reduceAdd, Int.reduceEq, Int.reduceLE, Int.reduceLT, Int.reduceMul, Int.reduceNeg, Int.reducePow, Int.reduceSub, Int.reduceToNat, Nat.reduceAdd, Nat.reduceEqDiff, Nat.reduceLT, Nat.reduceLeDiff, Nat.reduceMul, reduceCtorEq]
  have hl : (nums .u64 k512).length = 80 := by rw [nums_length]; exact k512_len
  refine st_whole n1.blk hl rfl (nums_one _ _) fun w2 p2 => ?_
  simp (disch := omega) only [EO, ↓EP, EQ, EM, ↓reduceIte, Int.reduceAdd, Int.reduceEq, Int.reduceLE, Int.reduceLT, Int.reduceMul, Int.reduceNeg, Int.reducePow, Int.reduceSub, Int.reduceToNat, Nat.reduceAdd, Nat.reduceEqDiff, Nat.reduceLT, Nat.reduceLeDiff, Nat.reduceMul, reduceCtorEq]
  refine p2.blk.ldAgg hl (hK _ ?_)
  exact fr_of (p2.below (Nat.le_refl _) (n1.below (Nat.le_refl _) (Below.refl _ _))) rfl
theorem wide_all (H S : List Int) (hH : H.length = 8) (hS : S.length = 8) : rounds (wideAdd H) 8 S = [s64 (at' H 0) (at' S 0), s64 (at' H 1) (at' S 1), s64 (at' H 2) (at' S 2), s64 (at' H 3) (at' S 3), s64 (at' H 4) (at' S 4), s64 (at' H 5) (at' S 5), s64 (at' H 6) (at' S 6), s64 (at' H 7) (at' S 7)] := by
  obtain ⟨a, b, c, d, e, f, g, i, rfl⟩ := len8 hH
  obtain ⟨a', b', c', d', e', f', g', i', rfl⟩ := len8 hS
  unfold s64
  show [IntKind.u64.wrap (a' + a), IntKind.u64.wrap (b' + b), IntKind.u64.wrap (c' + c), IntKind.u64.wrap (d' + d), IntKind.u64.wrap (e' + e), IntKind.u64.wrap (f' + f), IntKind.u64.wrap (g' + g), IntKind.u64.wrap (i' + i)] = [IntKind.u64.wrap (a + a'), IntKind.u64.wrap (b + b'), IntKind.u64.wrap (c + c'), IntKind.u64.wrap (d + d'), IntKind.u64.wrap (e + e'), IntKind.u64.wrap (f + f'), IntKind.u64.wrap (g + g'), IntKind.u64.wrap (i + i')]
  simp only [Int.add_comm]
def runW (s M : List Int) (j : Nat) : List Int := rounds (fun j s => wide s (part 128 M j)) j s
theorem runW_succ (s M : List Int) (j : Nat) : runW s M (j + 1) = wide (runW s M j) (part 128 M j) := rfl
theorem runW_len (s M : List Int) (hs : s.length = 8) : ∀ j, (runW s M j).length = 8
  | 0 => hs
  | j + 1 => by rw [runW_succ]; exact wide_len _ _ (runW_len s M hs j)
theorem not_u64 (n : Int) : bits .xor .u64 (if IntKind.u64.signed = true then -1 else IntKind.u64.max) n = bits .xor .u64 18446744073709551615 n := rfl
theorem rowN_set0 (f : Nat → Int) {n k : Nat} (h : k < n) : (rowN f n k).set k 0 = rowN f n k := by
  rw [rowN, List.set_append_right _ _ (by simp)]
  simp only [List.length_map, List.length_range, Nat.sub_self]
  rw [show n - k = (n - (k + 1)) + 1 by omega, List.replicate_succ, List.set_cons_zero]
/-- What holds before a round. -/
def wideJ (w : World) (kb sb wb : Nat) (H p : List Int) (m : Nat) (ρ : Env) (w' : World) : Prop :=
  ∃ k : Nat, ρ 20 = .int .i64 k ∧ k ≤ 80 ∧ m = 80 - k ∧ ρ 12 = .int .u64 (at' (rounds wideStep k (wideInit H p)).s 0) ∧ ρ 13 = .int .u64 (at' (rounds wideStep k (wideInit H p)).s 1) ∧ ρ 14 = .int .u64 (at' (rounds wideStep k (wideInit H p)).s 2) ∧ ρ 15 = .int .u64 (at' (rounds wideStep k (wideInit H p)).s 3) ∧ ρ 16 = .int .u64 (at' (rounds wideStep k (wideInit H p)).s 4) ∧ ρ 17 = .int .u64 (at' (rounds wideStep k (wideInit H p)).s 5) ∧ ρ 18 = .int .u64 (at' (rounds wideStep k (wideInit H p)).s 6) ∧ ρ 19 = .int .u64 (at' (rounds wideStep k (wideInit H p)).s 7) ∧
    Blk w' kb (nums .u64 k512) ∧ Blk w' sb (nums .u64 H) ∧ Blk w' wb (nums .u64 (rowN (wideWd p) 80 80)) ∧ Below w.heap.size w w'
theorem wideInit_00 (h p : List Int) : (rounds wideStep 0 (wideInit h p)).s = h := rfl
theorem wideS_at (x y : Int) (s : List Int) : at' (wideS x y s) 0 = s64 x y ∧ at' (wideS x y s) 1 = at' s 0 ∧ at' (wideS x y s) 2 = at' s 1 ∧ at' (wideS x y s) 3 = at' s 2 ∧ at' (wideS x y s) 4 = s64 (at' s 3) x ∧ at' (wideS x y s) 5 = at' s 4 ∧ at' (wideS x y s) 6 = at' s 5 ∧ at' (wideS x y s) 7 = at' s 6 := ⟨rfl, rfl, rfl, rfl, rfl, rfl, rfl, rfl⟩
set_option maxHeartbeats 4000000 in
theorem sha512_vw {w : World} {v : Value} {M s : List Int} (hv : Vw .u8 w v M) (hs : s.length = 8) (hmod : M.length % 128 = 0) (hm : M.length ≤ 16777600) (hb : byteL M) (K : Value → World → Prop)
    (hK : ∀ v' w', Gw .u8 w w' v' ((List.range 8).flatMap fun (i : Nat) => v8 (at' (runW s M (M.length / 128)) (i : Int))) → K v' w') : callK Tryd.prog 32 [v, .agg (nums .u64 s).toArray] w K := by
  obtain ⟨A, c, rfl, hc, hr⟩ := hv
  refine call_of Tryd.func32 Code.h32 (by simp [Code.c32]) ?_
  simp (disch := omega) only [EO, ↓EP, EQ, EM, ↓reduceIte, Int.reduceAdd, Int.reduceEq, Int.reduceLE, Int.reduceLT, Int.reduceMul, Int.reduceNeg, Int.reducePow, Int.reduceSub, Int.reduceToNat, Nat.reduceAdd, Nat.reduceEqDiff, Nat.reduceLT, Nat.reduceLeDiff, Nat.reduceMul, reduceCtorEq, Code.c32]
  refine al_k (nums .u64 s) rfl fun w1 n1 => ?_
  simp (disch := omega) only [EO, ↓EP, EQ, EM, ↓reduceIte, Int.reduceAdd, Int.reduceEq, Int.reduceLE, Int.reduceLT, Int.reduceMul, Int.reduceNeg, Int.reducePow, Int.reduceSub, Int.reduceToNat, Nat.reduceAdd, Nat.reduceEqDiff, Nat.reduceLT, Nat.reduceLeDiff, Nat.reduceMul, reduceCtorEq]
  refine roots64_spec _ fun w2 f2 => ?_
  simp (disch := omega) only [EO, ↓EP, EQ, EM, ↓reduceIte, Int.reduceAdd, Int.reduceEq, Int.reduceLE, Int.reduceLT, Int.reduceMul, Int.reduceNeg, Int.reducePow, Int.reduceSub, Int.reduceToNat, Nat.reduceAdd, Nat.reduceEqDiff, Nat.reduceLT, Nat.reduceLeDiff, Nat.reduceMul, reduceCtorEq]
  refine al_k (nums .u64 (zs 80)) rfl fun w3 n3 => ?_
  simp (disch := omega) only [EO, ↓EP, EQ, EM, ↓reduceIte, Int.reduceAdd, Int.reduceEq, Int.reduceLE, Int.reduceLT, Int.reduceMul, Int.reduceNeg, Int.reducePow, Int.reduceSub, Int.reduceToNat, Nat.reduceAdd, Nat.reduceEqDiff, Nat.reduceLT, Nat.reduceLeDiff, Nat.reduceMul, reduceCtorEq]
  refine st_whole n3.blk (by rw [nums_length]; exact k512_len) rfl (nums_one _ _) fun w4 p4 => ?_
  simp (disch := omega) only [EO, ↓EP, EQ, EM, ↓reduceIte, Int.reduceAdd, Int.reduceEq, Int.reduceLE, Int.reduceLT, Int.reduceMul, Int.reduceNeg, Int.reducePow, Int.reduceSub, Int.reduceToNat, Nat.reduceAdd, Nat.reduceEqDiff, Nat.reduceLT, Nat.reduceLeDiff, Nat.reduceMul, reduceCtorEq]
  have z1 := n1.size
  have z2 := f2.size
  have z3 := n3.size
  have z4 := p4.size
  have b2 : Below w.heap.size w w2 := (((n1.fr nob).nb f2).below (Nat.le_refl _) fun _ h => h.elim)
  have b4 : Below w.heap.size w w4 := p4.below (by omega) (n3.below (by omega) b2)
  have hsb4 := p4.keep (by omega) (n3.keep (n1.blk.nb f2))
  have hkb4 := p4.blk
  have hk0 : w.heap.size ≤ w2.heap.size := by omega
  have hs0 : w.heap.size ≤ w.heap.size := Nat.le_refl _
  have hks : w2.heap.size ≠ w.heap.size := by omega
  obtain ⟨sb, esb⟩ : ∃ sb, sb = w.heap.size := ⟨_, rfl⟩
  obtain ⟨kb, ekb⟩ : ∃ kb, kb = w2.heap.size := ⟨_, rfl⟩
  simp only [← ekb, ← esb] at hkb4 hsb4 hk0 hs0 hks b4 ⊢
  refine loop_inv (fun t ρ w' => ∃ j : Nat, ρ 6 = .int .i64 (128 * (j : Int)) ∧ 128 * j ≤ M.length ∧ t = M.length - 128 * j ∧ Blk w' kb (nums .u64 k512) ∧ Blk w' sb (nums .u64 (runW s M j)) ∧ Below sb w w') M.length ⟨0, by simp (disch := omega) only [EO, ↓EP, EQ, EM, ↓reduceIte, Int.reduceAdd, Int.reduceEq, Int.reduceLE, Int.reduceLT, Int.reduceMul, Int.reduceNeg, Int.reducePow, Int.reduceSub, Int.reduceToNat, Nat.reduceAdd, Nat.reduceEqDiff, Nat.reduceLT, Nat.reduceLeDiff, Nat.reduceMul, reduceCtorEq], by omega, by omega, hkb4, hsb4, b4⟩ ?_
  clear b4 n1 f2 n3 p4 hkb4 hsb4 z1 z2 z3 z4 b2 w1
  rintro t ρ w3 hf ⟨j, h4, hj, rfl, hKb, hSb, b3⟩ N hN
  have r0 : ρ 0 = .slice A M.length c := by rw [hf 0 rfl]; simp (disch := omega) only [EO, ↓EP, EQ, EM, ↓reduceIte, Int.reduceAdd, Int.reduceEq, Int.reduceLE, Int.reduceLT, Int.reduceMul, Int.reduceNeg, Int.reducePow, Int.reduceSub, Int.reduceToNat, Nat.reduceAdd, Nat.reduceEqDiff, Nat.reduceLT, Nat.reduceLeDiff, Nat.reduceMul, reduceCtorEq]
  have rS : ρ 3 = .pointer (some ⟨sb, 0, none⟩) := by rw [hf 3 rfl]; simp (disch := omega) only [EO, ↓EP, EQ, EM, ↓reduceIte, Int.reduceAdd, Int.reduceEq, Int.reduceLE, Int.reduceLT, Int.reduceMul, Int.reduceNeg, Int.reducePow, Int.reduceSub, Int.reduceToNat, Nat.reduceAdd, Nat.reduceEqDiff, Nat.reduceLT, Nat.reduceLeDiff, Nat.reduceMul, reduceCtorEq, ← esb, ← ekb]
  have rK : ρ 5 = .pointer (some ⟨kb, 0, none⟩) := by rw [hf 5 rfl]; simp (disch := omega) only [EO, ↓EP, EQ, EM, ↓reduceIte, Int.reduceAdd, Int.reduceEq, Int.reduceLE, Int.reduceLT, Int.reduceMul, Int.reduceNeg, Int.reducePow, Int.reduceSub, Int.reduceToNat, Nat.reduceAdd, Nat.reduceEqDiff, Nat.reduceLT, Nat.reduceLeDiff, Nat.reduceMul, reduceCtorEq, ← esb, ← ekb]
  clear hf
  have ltk := hKb.lt
  have lts := hSb.lt
  by_cases hjl : 128 * (j : Int) < (M.length : Int)
  · have hM0 : 0 < M.length := by omega
    simp (disch := omega) only [EO, ↓EP, EQ, EM, ↓reduceIte, Int.reduceAdd, Int.reduceEq, Int.reduceLE, Int.reduceLT, Int.reduceMul, Int.reduceNeg, Int.reducePow, Int.reduceSub, Int.reduceToNat, Nat.reduceAdd, Nat.reduceEqDiff, Nat.reduceLT, Nat.reduceLeDiff, Nat.reduceMul, reduceCtorEq, h4, r0, rS, rK]
    refine al_k (nums .u64 (zs 80)) rfl fun w4 n4 => ?_
    have b4 := n4.below (by omega) b3
    have hK4 := n4.keep hKb
    have hS4 := n4.keep hSb
    generalize hpp : part 128 M j = p
    have hpb : byteL p := by rw [← hpp]; exact byteL_part hb j
    simp (disch := omega) only [EO, ↓EP, EQ, EM, ↓reduceIte, Int.reduceAdd, Int.reduceEq, Int.reduceLE, Int.reduceLT, Int.reduceMul, Int.reduceNeg, Int.reducePow, Int.reduceSub, Int.reduceToNat, Nat.reduceAdd, Nat.reduceEqDiff, Nat.reduceLT, Nat.reduceLeDiff, Nat.reduceMul, reduceCtorEq, h4, r0, rS, rK]
    refine loop_inv (fun t ρ' w' => ∃ k : Nat, ρ' 8 = .int .i64 k ∧ k ≤ 80 ∧ t = 80 - k ∧ Blk w' kb (nums .u64 k512) ∧ Blk w' sb (nums .u64 (runW s M j)) ∧ Blk w' w3.heap.size (nums .u64 (rowN (wideWd p) 80 k)) ∧ Below sb w w') 80 ⟨0, by simp (disch := omega) only [EO, ↓EP, EQ, EM, ↓reduceIte, Int.reduceAdd, Int.reduceEq, Int.reduceLE, Int.reduceLT, Int.reduceMul, Int.reduceNeg, Int.reducePow, Int.reduceSub, Int.reduceToNat, Nat.reduceAdd, Nat.reduceEqDiff, Nat.reduceLT, Nat.reduceLeDiff, Nat.reduceMul, reduceCtorEq], by omega, by omega, hK4, hS4, n4.blk, b4⟩ ?_
    clear n4 hK4 hS4 b4
    rintro t ρ5 w5 hf ⟨k, h6, hk, rfl, hK5, hS5, hW5, b5⟩ N5 hN5
    have q0 : ρ5 0 = .slice A M.length c := by rw [hf 0 rfl]; simp (disch := omega) only [EO, ↓EP, EQ, EM, ↓reduceIte, Int.reduceAdd, Int.reduceEq, Int.reduceLE, Int.reduceLT, Int.reduceMul, Int.reduceNeg, Int.reducePow, Int.reduceSub, Int.reduceToNat, Nat.reduceAdd, Nat.reduceEqDiff, Nat.reduceLT, Nat.reduceLeDiff, Nat.reduceMul, reduceCtorEq, r0]
    have qS : ρ5 3 = .pointer (some ⟨sb, 0, none⟩) := by rw [hf 3 rfl]; simp (disch := omega) only [EO, ↓EP, EQ, EM, ↓reduceIte, Int.reduceAdd, Int.reduceEq, Int.reduceLE, Int.reduceLT, Int.reduceMul, Int.reduceNeg, Int.reducePow, Int.reduceSub, Int.reduceToNat, Nat.reduceAdd, Nat.reduceEqDiff, Nat.reduceLT, Nat.reduceLeDiff, Nat.reduceMul, reduceCtorEq, rS]
    have qK : ρ5 5 = .pointer (some ⟨kb, 0, none⟩) := by rw [hf 5 rfl]; simp (disch := omega) only [EO, ↓EP, EQ, EM, ↓reduceIte, Int.reduceAdd, Int.reduceEq, Int.reduceLE, Int.reduceLT, Int.reduceMul, Int.reduceNeg, Int.reducePow, Int.reduceSub, Int.reduceToNat, Nat.reduceAdd, Nat.reduceEqDiff, Nat.reduceLT, Nat.reduceLeDiff, Nat.reduceMul, reduceCtorEq, rK]
    have qA : ρ5 6 = .int .i64 (128 * (j : Int)) := by rw [hf 6 rfl]; simp (disch := omega) only [EO, ↓EP, EQ, EM, ↓reduceIte, Int.reduceAdd, Int.reduceEq, Int.reduceLE, Int.reduceLT, Int.reduceMul, Int.reduceNeg, Int.reducePow, Int.reduceSub, Int.reduceToNat, Nat.reduceAdd, Nat.reduceEqDiff, Nat.reduceLT, Nat.reduceLeDiff, Nat.reduceMul, reduceCtorEq, h4]
    have qW : ρ5 7 = .pointer (some ⟨w3.heap.size, 0, none⟩) := by rw [hf 7 rfl]; simp (disch := omega) only [EO, ↓EP, EQ, EM, ↓reduceIte, Int.reduceAdd, Int.reduceEq, Int.reduceLE, Int.reduceLT, Int.reduceMul, Int.reduceNeg, Int.reducePow, Int.reduceSub, Int.reduceToNat, Nat.reduceAdd, Nat.reduceEqDiff, Nat.reduceLT, Nat.reduceLeDiff, Nat.reduceMul, reduceCtorEq]
    clear hf
    have hp5 : Rd w5 A (nums .u8 M) := hr.below (esb ▸ b5)
    have hl5 := rowN_len (wideWd p) hk
    by_cases hkR : (k : Int) < 80
    · have st : ∀ (x : Int) (m : Nat) (ρ6 : Env), x = wideWd p k → ρ6 8 = .int .i64 ((k + 1 : Nat) : Int) → (∀ w', Put (w5.drewN m) w' w3.heap.size (nums .u64 ((rowN (wideWd p) 80 k).set k x)) → endK N5 ρ6 w') := by
        intro x m ρ6 hx h6' w' pt
        rw [hx, rowN_set _ (by omega)] at pt
        exact hN5 (80 - (k + 1)) _ _ (by omega) ⟨k + 1, h6', by omega, rfl, pt.keep (by omega) (hK5.drewN m), pt.keep (by omega) (hS5.drewN m), pt.blk, pt.below (by omega) (below_drewN' b5 m)⟩
      have st0 : ∀ (ρ6 : Env) (w' : World), ρ6 8 = .int .i64 ((k + 1 : Nat) : Int) → Blk w' kb (nums .u64 k512) → Blk w' sb (nums .u64 (runW s M j)) → Blk w' w3.heap.size (nums .u64 (rowN (wideWd p) 80 (k + 1))) → Below sb w w' → endK N5 ρ6 w' := fun ρ6 w' a1 a2 a3 a4 a5 => hN5 (80 - (k + 1)) _ _ (by omega) ⟨k + 1, a1, by omega, rfl, a2, a3, a4, a5⟩
      by_cases hk16 : (k : Int) < 16
      · clear hN5
        simp (disch := omega) only [EO, ↓EP, EQ, EM, ↓reduceIte, Int.reduceAdd, Int.reduceEq, Int.reduceLE, Int.reduceLT, Int.reduceMul, Int.reduceNeg, Int.reducePow, Int.reduceSub, Int.reduceToNat, Nat.reduceAdd, Nat.reduceEqDiff, Nat.reduceLT, Nat.reduceLeDiff, Nat.reduceMul, reduceCtorEq, W_join, h6, q0, qS, qA, qW]
        refine loop_inv (fun t ρ' w' => ∃ i : Nat, ρ' 9 = .int .i64 i ∧ i ≤ 8 ∧ t = 8 - i ∧ Blk w' kb (nums .u64 k512) ∧ Blk w' sb (nums .u64 (runW s M j)) ∧ Blk w' w3.heap.size (nums .u64 ((rowN (wideWd p) 80 k).set k (wpart p k i))) ∧ Below sb w w') 8 ⟨0, by simp (disch := omega) only [EO, ↓EP, EQ, EM, ↓reduceIte, Int.reduceAdd, Int.reduceEq, Int.reduceLE, Int.reduceLT, Int.reduceMul, Int.reduceNeg, Int.reducePow, Int.reduceSub, Int.reduceToNat, Nat.reduceAdd, Nat.reduceEqDiff, Nat.reduceLT, Nat.reduceLeDiff, Nat.reduceMul, reduceCtorEq], by omega, by omega, hK5, hS5, by rw [wpart, rowN_set0 _ (by omega)]; exact hW5, b5⟩ ?_
        clear hK5 hS5 hW5 b5
        rintro t ρ6 w6 hf ⟨i, h9, hi, rfl, hK6, hS6, hW6, b6⟩ N6 hN6
        have u0 : ρ6 0 = .slice A M.length c := by rw [hf 0 rfl]; simp (disch := omega) only [EO, ↓EP, EQ, EM, ↓reduceIte, Int.reduceAdd, Int.reduceEq, Int.reduceLE, Int.reduceLT, Int.reduceMul, Int.reduceNeg, Int.reducePow, Int.reduceSub, Int.reduceToNat, Nat.reduceAdd, Nat.reduceEqDiff, Nat.reduceLT, Nat.reduceLeDiff, Nat.reduceMul, reduceCtorEq, q0]
        have u6 : ρ6 6 = .int .i64 (128 * (j : Int)) := by rw [hf 6 rfl]; simp (disch := omega) only [EO, ↓EP, EQ, EM, ↓reduceIte, Int.reduceAdd, Int.reduceEq, Int.reduceLE, Int.reduceLT, Int.reduceMul, Int.reduceNeg, Int.reducePow, Int.reduceSub, Int.reduceToNat, Nat.reduceAdd, Nat.reduceEqDiff, Nat.reduceLT, Nat.reduceLeDiff, Nat.reduceMul, reduceCtorEq, qA]
        have u7 : ρ6 7 = .pointer (some ⟨w3.heap.size, 0, none⟩) := by rw [hf 7 rfl]; simp (disch := omega) only [EO, ↓EP, EQ, EM, ↓reduceIte, Int.reduceAdd, Int.reduceEq, Int.reduceLE, Int.reduceLT, Int.reduceMul, Int.reduceNeg, Int.reducePow, Int.reduceSub, Int.reduceToNat, Nat.reduceAdd, Nat.reduceEqDiff, Nat.reduceLT, Nat.reduceLeDiff, Nat.reduceMul, reduceCtorEq, qW]
        have u8 : ρ6 8 = .int .i64 k := by rw [hf 8 rfl]; simp (disch := omega) only [EO, ↓EP, EQ, EM, ↓reduceIte, Int.reduceAdd, Int.reduceEq, Int.reduceLE, Int.reduceLT, Int.reduceMul, Int.reduceNeg, Int.reducePow, Int.reduceSub, Int.reduceToNat, Nat.reduceAdd, Nat.reduceEqDiff, Nat.reduceLT, Nat.reduceLeDiff, Nat.reduceMul, reduceCtorEq, h6]
        clear hf
        have hl6 : ((rowN (wideWd p) 80 k).set k (wpart p k i)).length = 80 := by rw [List.length_set, hl5]
        by_cases hi8 : (i : Int) < 8
        · obtain ⟨ad, rfl, _, hcl⟩ := (hr.below (esb ▸ b6)).get (by rw [nums_length]; exact hM0)
          have cb : w6.cell? (ad.add (128 * j + 8 * k + i)) = some (.int .u8 (at' p ((8 * k + i : Nat) : Int))) := by
            rw [hcl.numN (j := 128 * j + 8 * k + i) (by omega), ← hpp, part_at (by omega), show j * 128 + (8 * k + i) = 128 * j + 8 * k + i by omega]
          have eb : (128 * (j : Int) + 8 * (k : Int) + (i : Int)).toNat = 128 * j + 8 * k + i := by omega
          have cw : w6.cell? ⟨w3.heap.size, k, none⟩ = some (.int .u64 (wpart p k i)) := by
            rw [hW6.numN (j := k) (by omega), at_setN _ _ _ _ (by omega), if_pos rfl]
          simp (disch := omega) only [EO, ↓EP, EQ, EM, ↓reduceIte, Int.reduceAdd, Int.reduceEq, Int.reduceLE, Int.reduceLT, Int.reduceMul, Int.reduceNeg, Int.reducePow, Int.reduceSub, Int.reduceToNat, Nat.reduceAdd, Nat.reduceEqDiff, Nat.reduceLT, Nat.reduceLeDiff, Nat.reduceMul, reduceCtorEq, u0, u6, u7, u8, h9, eb, cb, cw]
          intro m
          refine st_num (hW6.drewN m) (by omega) fun w7 p7 => ?_
          simp (disch := omega) only [EO, ↓EP, EQ, EM, ↓reduceIte, Int.reduceAdd, Int.reduceEq, Int.reduceLE, Int.reduceLT, Int.reduceMul, Int.reduceNeg, Int.reducePow, Int.reduceSub, Int.reduceToNat, Nat.reduceAdd, Nat.reduceEqDiff, Nat.reduceLT, Nat.reduceLeDiff, Nat.reduceMul, reduceCtorEq, h9]
          rw [List.set_set] at p7
          exact hN6 (8 - (i + 1)) _ _ (by omega) ⟨i + 1, by simp (disch := omega) only [EO, ↓EP, EQ, EM, ↓reduceIte, Int.reduceAdd, Int.reduceEq, Int.reduceLE, Int.reduceLT, Int.reduceMul, Int.reduceNeg, Int.reducePow, Int.reduceSub, Int.reduceToNat, Nat.reduceAdd, Nat.reduceEqDiff, Nat.reduceLT, Nat.reduceLeDiff, Nat.reduceMul, reduceCtorEq, h9, Int.natCast_add], by omega, rfl, p7.keep (by omega) (hK6.drewN m), p7.keep (by omega) (hS6.drewN m), p7.blk, p7.below (by omega) (below_drewN' b6 m)⟩
        · have hi8' : i = 8 := by omega
          subst hi8'
          rw [← wideWd_lo hpb (by omega), rowN_set _ (by omega)] at hW6
          simp (disch := omega) only [EO, ↓EP, EQ, EM, ↓reduceIte, Int.reduceAdd, Int.reduceEq, Int.reduceLE, Int.reduceLT, Int.reduceMul, Int.reduceNeg, Int.reducePow, Int.reduceSub, Int.reduceToNat, Nat.reduceAdd, Nat.reduceEqDiff, Nat.reduceLT, Nat.reduceLeDiff, Nat.reduceMul, reduceCtorEq, h9, u8]
          exact st0 _ w6 (by simp (disch := omega) only [EO, ↓EP, EQ, EM, ↓reduceIte, Int.reduceAdd, Int.reduceEq, Int.reduceLE, Int.reduceLT, Int.reduceMul, Int.reduceNeg, Int.reducePow, Int.reduceSub, Int.reduceToNat, Nat.reduceAdd, Nat.reduceEqDiff, Nat.reduceLT, Nat.reduceLeDiff, Nat.reduceMul, reduceCtorEq, u8, Int.natCast_add]) hK6 hS6 hW6 b6
      · have e2 : ((k : Int) - 2).toNat = k - 2 := by omega
        have e7 : ((k : Int) - 7).toNat = k - 7 := by omega
        have e15 : ((k : Int) - 15).toNat = k - 15 := by omega
        have e16 : ((k : Int) - 16).toNat = k - 16 := by omega
        have g : ∀ i, i < k → w5.cell? ⟨w3.heap.size, i, none⟩ = some (.int .u64 (wideWd p i)) := fun i hi => by rw [hW5.numN (j := i) (by omega), rowN_at _ hi]
        have g2 := g (k - 2) (by omega)
        have g7 := g (k - 7) (by omega)
        have g15 := g (k - 15) (by omega)
        have g16 := g (k - 16) (by omega)
        simp (disch := omega) only [EO, ↓EP, EQ, EM, ↓reduceIte, Int.reduceAdd, Int.reduceEq, Int.reduceLE, Int.reduceLT, Int.reduceMul, Int.reduceNeg, Int.reducePow, Int.reduceSub, Int.reduceToNat, Nat.reduceAdd, Nat.reduceEqDiff, Nat.reduceLT, Nat.reduceLeDiff, Nat.reduceMul, reduceCtorEq, W_join, h6, q0, qS, qA, qW, e2, e15, g2, g15]
        intro m0
        refine turn_q _ 19 (by omega) (by omega) _ _ ?_
        simp (disch := omega) only [EO, ↓EP, EQ, EM, ↓reduceIte, Int.reduceAdd, Int.reduceEq, Int.reduceLE, Int.reduceLT, Int.reduceMul, Int.reduceNeg, Int.reducePow, Int.reduceSub, Int.reduceToNat, Nat.reduceAdd, Nat.reduceEqDiff, Nat.reduceLT, Nat.reduceLeDiff, Nat.reduceMul, reduceCtorEq, h6, qW, e7, e16, g7, g16]
        refine turn_q _ 61 (by omega) (by omega) _ _ ?_
        simp (disch := omega) only [EO, ↓EP, EQ, EM, ↓reduceIte, Int.reduceAdd, Int.reduceEq, Int.reduceLE, Int.reduceLT, Int.reduceMul, Int.reduceNeg, Int.reducePow, Int.reduceSub, Int.reduceToNat, Nat.reduceAdd, Nat.reduceEqDiff, Nat.reduceLT, Nat.reduceLeDiff, Nat.reduceMul, reduceCtorEq, h6, qW, e7, e16, g7, g16]
        refine turn_q _ 1 (by omega) (by omega) _ _ ?_
        simp (disch := omega) only [EO, ↓EP, EQ, EM, ↓reduceIte, Int.reduceAdd, Int.reduceEq, Int.reduceLE, Int.reduceLT, Int.reduceMul, Int.reduceNeg, Int.reducePow, Int.reduceSub, Int.reduceToNat, Nat.reduceAdd, Nat.reduceEqDiff, Nat.reduceLT, Nat.reduceLeDiff, Nat.reduceMul, reduceCtorEq, h6, qW, e7, e16, g7, g16]
        refine turn_q _ 8 (by omega) (by omega) _ _ ?_
        simp (disch := omega) only [EO, ↓EP, EQ, EM, ↓reduceIte, Int.reduceAdd, Int.reduceEq, Int.reduceLE, Int.reduceLT, Int.reduceMul, Int.reduceNeg, Int.reducePow, Int.reduceSub, Int.reduceToNat, Nat.reduceAdd, Nat.reduceEqDiff, Nat.reduceLT, Nat.reduceLeDiff, Nat.reduceMul, reduceCtorEq, h6, qW, e7, e16, g7, g16]
        intro m
        refine st_num (hW5.drewN _) (by omega) fun w6 p6 => ?_
        simp (disch := omega) only [EO, ↓EP, EQ, EM, ↓reduceIte, Int.reduceAdd, Int.reduceEq, Int.reduceLE, Int.reduceLT, Int.reduceMul, Int.reduceNeg, Int.reducePow, Int.reduceSub, Int.reduceToNat, Nat.reduceAdd, Nat.reduceEqDiff, Nat.reduceLT, Nat.reduceLeDiff, Nat.reduceMul, reduceCtorEq, h6]
        refine st _ _ _ ?_ (by simp (disch := omega) only [EO, ↓EP, EQ, EM, ↓reduceIte, Int.reduceAdd, Int.reduceEq, Int.reduceLE, Int.reduceLT, Int.reduceMul, Int.reduceNeg, Int.reducePow, Int.reduceSub, Int.reduceToNat, Nat.reduceAdd, Nat.reduceEqDiff, Nat.reduceLT, Nat.reduceLeDiff, Nat.reduceMul, reduceCtorEq, h6, Int.natCast_add]) w6 p6
        rw [wideWd_hi (t := k) (by omega)]
        rfl
    · have hkR' : k = 80 := by omega
      subst hkR'
      clear hN5
      have hH8 : (runW s M j).length = 8 := runW_len s M hs j
      have g : ∀ i : Nat, i < 8 → w5.cell? ⟨sb, i, none⟩ = some (.int .u64 (at' (runW s M j) (i : Int))) := fun i hi => hS5.numN (j := i) (by omega)
      have a0 := g 0 (by omega)
      have a1 := g 1 (by omega)
      have a2 := g 2 (by omega)
      have a3 := g 3 (by omega)
      have a4 := g 4 (by omega)
      have a5 := g 5 (by omega)
      have a6 := g 6 (by omega)
      have a7 := g 7 (by omega)
      clear g
      simp (disch := omega) only [EO, ↓EP, EQ, EM, ↓reduceIte, Int.reduceAdd, Int.reduceEq, Int.reduceLE, Int.reduceLT, Int.reduceMul, Int.reduceNeg, Int.reducePow, Int.reduceSub, Int.reduceToNat, Nat.reduceAdd, Nat.reduceEqDiff, Nat.reduceLT, Nat.reduceLeDiff, Nat.reduceMul, reduceCtorEq, h6, q0, qS, qA, qW, a0, a1, a2, a3, a4, a5, a6, a7]
      intro m
      refine loop_inv (wideJ w kb sb w3.heap.size (runW s M j) p) 80 ⟨0, by simp (disch := omega) only [EO, ↓EP, EQ, EM, ↓reduceIte, Int.reduceAdd, Int.reduceEq, Int.reduceLE, Int.reduceLT, Int.reduceMul, Int.reduceNeg, Int.reducePow, Int.reduceSub, Int.reduceToNat, Nat.reduceAdd, Nat.reduceEqDiff, Nat.reduceLT, Nat.reduceLeDiff, Nat.reduceMul, reduceCtorEq], by omega, by omega, ?_⟩ ?_
      · simp only [wideInit_00]
        simp (disch := omega) only [EO, ↓EP, EQ, EM, ↓reduceIte, Int.reduceAdd, Int.reduceEq, Int.reduceLE, Int.reduceLT, Int.reduceMul, Int.reduceNeg, Int.reducePow, Int.reduceSub, Int.reduceToNat, Nat.reduceAdd, Nat.reduceEqDiff, Nat.reduceLT, Nat.reduceLeDiff, Nat.reduceMul, reduceCtorEq]
        exact ⟨hK5.drewN m, hS5.drewN m, hW5.drewN m, esb ▸ below_drewN' b5 m⟩
      clear a0 a1 a2 a3 a4 a5 a6 a7 hl5 hp5
      rintro t ρ7 w7 hf ⟨k, h13, hk, rfl, c0, c1, c2, c3, c4, c5, c6, c7, hK7, hS7, hW7, b7⟩ N7 hN7
      have y0 : ρ7 0 = .slice A M.length c := by rw [hf 0 rfl]; simp (disch := omega) only [EO, ↓EP, EQ, EM, ↓reduceIte, Int.reduceAdd, Int.reduceEq, Int.reduceLE, Int.reduceLT, Int.reduceMul, Int.reduceNeg, Int.reducePow, Int.reduceSub, Int.reduceToNat, Nat.reduceAdd, Nat.reduceEqDiff, Nat.reduceLT, Nat.reduceLeDiff, Nat.reduceMul, reduceCtorEq, q0]
      have yS : ρ7 3 = .pointer (some ⟨sb, 0, none⟩) := by rw [hf 3 rfl]; simp (disch := omega) only [EO, ↓EP, EQ, EM, ↓reduceIte, Int.reduceAdd, Int.reduceEq, Int.reduceLE, Int.reduceLT, Int.reduceMul, Int.reduceNeg, Int.reducePow, Int.reduceSub, Int.reduceToNat, Nat.reduceAdd, Nat.reduceEqDiff, Nat.reduceLT, Nat.reduceLeDiff, Nat.reduceMul, reduceCtorEq, qS]
      have yK : ρ7 5 = .pointer (some ⟨kb, 0, none⟩) := by rw [hf 5 rfl]; simp (disch := omega) only [EO, ↓EP, EQ, EM, ↓reduceIte, Int.reduceAdd, Int.reduceEq, Int.reduceLE, Int.reduceLT, Int.reduceMul, Int.reduceNeg, Int.reducePow, Int.reduceSub, Int.reduceToNat, Nat.reduceAdd, Nat.reduceEqDiff, Nat.reduceLT, Nat.reduceLeDiff, Nat.reduceMul, reduceCtorEq, qK]
      have yA : ρ7 6 = .int .i64 (128 * (j : Int)) := by rw [hf 6 rfl]; simp (disch := omega) only [EO, ↓EP, EQ, EM, ↓reduceIte, Int.reduceAdd, Int.reduceEq, Int.reduceLE, Int.reduceLT, Int.reduceMul, Int.reduceNeg, Int.reducePow, Int.reduceSub, Int.reduceToNat, Nat.reduceAdd, Nat.reduceEqDiff, Nat.reduceLT, Nat.reduceLeDiff, Nat.reduceMul, reduceCtorEq, qA]
      have yW : ρ7 7 = .pointer (some ⟨w3.heap.size, 0, none⟩) := by rw [hf 7 rfl]; simp (disch := omega) only [EO, ↓EP, EQ, EM, ↓reduceIte, Int.reduceAdd, Int.reduceEq, Int.reduceLE, Int.reduceLT, Int.reduceMul, Int.reduceNeg, Int.reducePow, Int.reduceSub, Int.reduceToNat, Nat.reduceAdd, Nat.reduceEqDiff, Nat.reduceLT, Nat.reduceLeDiff, Nat.reduceMul, reduceCtorEq, qW]
      clear hf q0 qS qK qA qW
      have hx := wideWd_step (runW s M j) p k
      have hsl := wide_slen (wideInit (runW s M j) p) hH8 k
      generalize hst : rounds wideStep k (wideInit (runW s M j) p) = st at c0 c1 c2 c3 c4 c5 c6 c7 hx hsl
      by_cases hkR : (k : Int) < 80
      · have gk : w7.cell? ⟨w3.heap.size, k, none⟩ = some (.int .u64 (wideWd p k)) := by rw [hW7.numN (j := k) (by rw [rowN_len _ (Nat.le_refl _)]; omega), rowN_at _ (by omega)]
        have gt : w7.cell? ⟨kb, k, none⟩ = some (.int .u64 (at' k512 (k : Int))) := hK7.numN (j := k) (by rw [k512_len]; omega)
        have fin : ∀ (w8 : World) (ρ8 : Env) (x y : Int), wideX k (wideW k st.w) st.s = x → wideY st.s = y → ρ8 20 = .int .i64 ((k + 1 : Nat) : Int) → ρ8 12 = .int .u64 (s64 x y) → ρ8 13 = .int .u64 (at' st.s 0) → ρ8 14 = .int .u64 (at' st.s 1) → ρ8 15 = .int .u64 (at' st.s 2) → ρ8 16 = .int .u64 (s64 (at' st.s 3) x) → ρ8 17 = .int .u64 (at' st.s 4) → ρ8 18 = .int .u64 (at' st.s 5) → ρ8 19 = .int .u64 (at' st.s 6) →
            Blk w8 kb (nums .u64 k512) → Blk w8 sb (nums .u64 (runW s M j)) → Blk w8 w3.heap.size (nums .u64 (rowN (wideWd p) 80 80)) → Below w.heap.size w w8 → endK N7 ρ8 w8 := by
          intro w8 ρ8 x y hx' hy' g1 d0 d1 d2 d3 d4 d5 d6 d7 g7 g8 g9 g10
          refine hN7 (80 - (k + 1)) _ _ (by omega) ⟨k + 1, g1, by omega, rfl, ?_⟩
          rw [rounds, hst, wideStep, hx', hy']
          exact ⟨d0, d1, d2, d3, d4, d5, d6, d7, g7, g8, g9, g10⟩
        clear hN7
        simp (disch := omega) only [EO, ↓EP, EQ, EM, ↓reduceIte, Int.reduceAdd, Int.reduceEq, Int.reduceLE, Int.reduceLT, Int.reduceMul, Int.reduceNeg, Int.reducePow, Int.reduceSub, Int.reduceToNat, Nat.reduceAdd, Nat.reduceEqDiff, Nat.reduceLT, Nat.reduceLeDiff, Nat.reduceMul, reduceCtorEq, W_join, h13, yS, yK, yW, c0, c1, c2, c3, c4, c5, c6, c7, gk, gt]
        refine turn_q _ 14 (by omega) (by omega) _ _ ?_
        simp (disch := omega) only [EO, ↓EP, EQ, EM, ↓reduceIte, Int.reduceAdd, Int.reduceEq, Int.reduceLE, Int.reduceLT, Int.reduceMul, Int.reduceNeg, Int.reducePow, Int.reduceSub, Int.reduceToNat, Nat.reduceAdd, Nat.reduceEqDiff, Nat.reduceLT, Nat.reduceLeDiff, Nat.reduceMul, reduceCtorEq, h13, yS, yK, yW, c0, c1, c2, c3, c4, c5, c6, c7, gk, gt]
        refine turn_q _ 18 (by omega) (by omega) _ _ ?_
        simp (disch := omega) only [EO, ↓EP, EQ, EM, ↓reduceIte, Int.reduceAdd, Int.reduceEq, Int.reduceLE, Int.reduceLT, Int.reduceMul, Int.reduceNeg, Int.reducePow, Int.reduceSub, Int.reduceToNat, Nat.reduceAdd, Nat.reduceEqDiff, Nat.reduceLT, Nat.reduceLeDiff, Nat.reduceMul, reduceCtorEq, h13, yS, yK, yW, c0, c1, c2, c3, c4, c5, c6, c7, gk, gt]
        refine turn_q _ 41 (by omega) (by omega) _ _ ?_
        simp (disch := omega) only [EO, ↓EP, EQ, EM, ↓reduceIte, Int.reduceAdd, Int.reduceEq, Int.reduceLE, Int.reduceLT, Int.reduceMul, Int.reduceNeg, Int.reducePow, Int.reduceSub, Int.reduceToNat, Nat.reduceAdd, Nat.reduceEqDiff, Nat.reduceLT, Nat.reduceLeDiff, Nat.reduceMul, reduceCtorEq, h13, yS, yK, yW, c0, c1, c2, c3, c4, c5, c6, c7, gk, gt]
        intro m1
        refine turn_d _ 28 (by omega) (by omega) _ _ fun m2 => ?_
        simp (disch := omega) only [EO, ↓EP, EQ, EM, ↓reduceIte, Int.reduceAdd, Int.reduceEq, Int.reduceLE, Int.reduceLT, Int.reduceMul, Int.reduceNeg, Int.reducePow, Int.reduceSub, Int.reduceToNat, Nat.reduceAdd, Nat.reduceEqDiff, Nat.reduceLT, Nat.reduceLeDiff, Nat.reduceMul, reduceCtorEq, h13, c0, c1, c2, c3, c4, c5, c6, c7]
        refine turn_d _ 34 (by omega) (by omega) _ _ fun m3 => ?_
        simp (disch := omega) only [EO, ↓EP, EQ, EM, ↓reduceIte, Int.reduceAdd, Int.reduceEq, Int.reduceLE, Int.reduceLT, Int.reduceMul, Int.reduceNeg, Int.reducePow, Int.reduceSub, Int.reduceToNat, Nat.reduceAdd, Nat.reduceEqDiff, Nat.reduceLT, Nat.reduceLeDiff, Nat.reduceMul, reduceCtorEq, h13, c0, c1, c2, c3, c4, c5, c6, c7]
        refine turn_d _ 39 (by omega) (by omega) _ _ fun m4 => ?_
        simp (disch := omega) only [EO, ↓EP, EQ, EM, ↓reduceIte, Int.reduceAdd, Int.reduceEq, Int.reduceLE, Int.reduceLT, Int.reduceMul, Int.reduceNeg, Int.reducePow, Int.reduceSub, Int.reduceToNat, Nat.reduceAdd, Nat.reduceEqDiff, Nat.reduceLT, Nat.reduceLeDiff, Nat.reduceMul, reduceCtorEq, h13, c0, c1, c2, c3, c4, c5, c6, c7]
        refine fin _ _ _ _ ?_ ?_ (by simp (disch := omega) only [EO, ↓EP, EQ, EM, ↓reduceIte, Int.reduceAdd, Int.reduceEq, Int.reduceLE, Int.reduceLT, Int.reduceMul, Int.reduceNeg, Int.reducePow, Int.reduceSub, Int.reduceToNat, Nat.reduceAdd, Nat.reduceEqDiff, Nat.reduceLT, Nat.reduceLeDiff, Nat.reduceMul, reduceCtorEq, h13, Int.natCast_add]) (by simp (disch := omega) only [EO, ↓EP, EQ, EM, ↓reduceIte, Int.reduceAdd, Int.reduceEq, Int.reduceLE, Int.reduceLT, Int.reduceMul, Int.reduceNeg, Int.reducePow, Int.reduceSub, Int.reduceToNat, Nat.reduceAdd, Nat.reduceEqDiff, Nat.reduceLT, Nat.reduceLeDiff, Nat.reduceMul, reduceCtorEq]; rfl) (by simp (disch := omega) only [EO, ↓EP, EQ, EM, ↓reduceIte, Int.reduceAdd, Int.reduceEq, Int.reduceLE, Int.reduceLT, Int.reduceMul, Int.reduceNeg, Int.reducePow, Int.reduceSub, Int.reduceToNat, Nat.reduceAdd, Nat.reduceEqDiff, Nat.reduceLT, Nat.reduceLeDiff, Nat.reduceMul, reduceCtorEq, c0]) (by simp (disch := omega) only [EO, ↓EP, EQ, EM, ↓reduceIte, Int.reduceAdd, Int.reduceEq, Int.reduceLE, Int.reduceLT, Int.reduceMul, Int.reduceNeg, Int.reducePow, Int.reduceSub, Int.reduceToNat, Nat.reduceAdd, Nat.reduceEqDiff, Nat.reduceLT, Nat.reduceLeDiff, Nat.reduceMul, reduceCtorEq, c1]) (by simp (disch := omega) only [EO, ↓EP, EQ, EM, ↓reduceIte, Int.reduceAdd, Int.reduceEq, Int.reduceLE, Int.reduceLT, Int.reduceMul, Int.reduceNeg, Int.reducePow, Int.reduceSub, Int.reduceToNat, Nat.reduceAdd, Nat.reduceEqDiff, Nat.reduceLT, Nat.reduceLeDiff, Nat.reduceMul, reduceCtorEq, c2]) (by simp (disch := omega) only [EO, ↓EP, EQ, EM, ↓reduceIte, Int.reduceAdd, Int.reduceEq, Int.reduceLE, Int.reduceLT, Int.reduceMul, Int.reduceNeg, Int.reducePow, Int.reduceSub, Int.reduceToNat, Nat.reduceAdd, Nat.reduceEqDiff, Nat.reduceLT, Nat.reduceLeDiff, Nat.reduceMul, reduceCtorEq, c3]; rfl) (by simp (disch := omega) only [EO, ↓EP, EQ, EM, ↓reduceIte, Int.reduceAdd, Int.reduceEq, Int.reduceLE, Int.reduceLT, Int.reduceMul, Int.reduceNeg, Int.reducePow, Int.reduceSub, Int.reduceToNat, Nat.reduceAdd, Nat.reduceEqDiff, Nat.reduceLT, Nat.reduceLeDiff, Nat.reduceMul, reduceCtorEq, c4]) (by simp (disch := omega) only [EO, ↓EP, EQ, EM, ↓reduceIte, Int.reduceAdd, Int.reduceEq, Int.reduceLE, Int.reduceLT, Int.reduceMul, Int.reduceNeg, Int.reducePow, Int.reduceSub, Int.reduceToNat, Nat.reduceAdd, Nat.reduceEqDiff, Nat.reduceLT, Nat.reduceLeDiff, Nat.reduceMul, reduceCtorEq, c5]) (by simp (disch := omega) only [EO, ↓EP, EQ, EM, ↓reduceIte, Int.reduceAdd, Int.reduceEq, Int.reduceLE, Int.reduceLT, Int.reduceMul, Int.reduceNeg, Int.reducePow, Int.reduceSub, Int.reduceToNat, Nat.reduceAdd, Nat.reduceEqDiff, Nat.reduceLT, Nat.reduceLeDiff, Nat.reduceMul, reduceCtorEq, c6]) (hK7.drewN _) (hS7.drewN _) (hW7.drewN _) (below_drewN' b7 _)
        · rw [wideX, hx, not_u64, chx64]
          rfl
        · rw [wideY, majx64]
          rfl
      · have hkR' : k = 80 := by omega
        subst hkR'
        clear hN7
        have g : ∀ i : Nat, i < 8 → w7.cell? ⟨sb, i, none⟩ = some (.int .u64 (at' (runW s M j) (i : Int))) := fun i hi => hS7.numN (j := i) (by omega)
        have a0 := g 0 (by omega)
        have a1 := g 1 (by omega)
        have a2 := g 2 (by omega)
        have a3 := g 3 (by omega)
        have a4 := g 4 (by omega)
        have a5 := g 5 (by omega)
        have a6 := g 6 (by omega)
        have a7 := g 7 (by omega)
        clear g
        simp (disch := omega) only [EO, ↓EP, EQ, EM, ↓reduceIte, Int.reduceAdd, Int.reduceEq, Int.reduceLE, Int.reduceLT, Int.reduceMul, Int.reduceNeg, Int.reducePow, Int.reduceSub, Int.reduceToNat, Nat.reduceAdd, Nat.reduceEqDiff, Nat.reduceLT, Nat.reduceLeDiff, Nat.reduceMul, reduceCtorEq, h13, y0, yS, yA, yW, c0, c1, c2, c3, c4, c5, c6, c7, a0, a1, a2, a3, a4, a5, a6, a7]
        refine ⟨_, fill8 _ _ _ _ _ _ _ _ _, ?_⟩
        simp (disch := omega) only [EO, ↓EP, EQ, EM, ↓reduceIte, Int.reduceAdd, Int.reduceEq, Int.reduceLE, Int.reduceLT, Int.reduceMul, Int.reduceNeg, Int.reducePow, Int.reduceSub, Int.reduceToNat, Nat.reduceAdd, Nat.reduceEqDiff, Nat.reduceLT, Nat.reduceLeDiff, Nat.reduceMul, reduceCtorEq, y0, yS, yA]
        refine st_whole hS7 (by rw [nums_length]; rfl) (by rw [nums_length, hH8]) (nums_one _ _) fun w8 p8 => ?_
        simp (disch := omega) only [EO, ↓EP, EQ, EM, ↓reduceIte, Int.reduceAdd, Int.reduceEq, Int.reduceLE, Int.reduceLT, Int.reduceMul, Int.reduceNeg, Int.reducePow, Int.reduceSub, Int.reduceToNat, Nat.reduceAdd, Nat.reduceEqDiff, Nat.reduceLT, Nat.reduceLeDiff, Nat.reduceMul, reduceCtorEq, yA]
        refine hN (M.length - 128 * (j + 1)) _ _ (by omega) ⟨j + 1, by simp (disch := omega) only [EO, ↓EP, EQ, EM, ↓reduceIte, Int.reduceAdd, Int.reduceEq, Int.reduceLE, Int.reduceLT, Int.reduceMul, Int.reduceNeg, Int.reducePow, Int.reduceSub, Int.reduceToNat, Nat.reduceAdd, Nat.reduceEqDiff, Nat.reduceLT, Nat.reduceLeDiff, Nat.reduceMul, reduceCtorEq, yA]; congr 1, by omega, rfl, p8.keep (by omega) hK7, ?_, ?_⟩
        · have e := runW_succ s M j
          rw [hpp] at e
          rw [e, wide, wide_all _ _ hH8 (by rw [hst]; exact hsl), hst]
          exact p8.blk
        · exact esb ▸ p8.below (by omega) b7
  · have hje : M.length / 128 = j := by omega
    simp (disch := omega) only [EO, ↓EP, EQ, EM, ↓reduceIte, Int.reduceAdd, Int.reduceEq, Int.reduceLE, Int.reduceLT, Int.reduceMul, Int.reduceNeg, Int.reducePow, Int.reduceSub, Int.reduceToNat, Nat.reduceAdd, Nat.reduceEqDiff, Nat.reduceLT, Nat.reduceLeDiff, Nat.reduceMul, reduceCtorEq, h4, r0, rS]
    clear hN
    rw [hje] at hK
    have hH8 : (runW s M j).length = 8 := runW_len s M hs j
    have f3 : Fr w w3 nob := fr_of b3 esb
    refine loop_inv (fun t ρ w' => ∃ (i : Nat) (O : Value), ρ 24 = .int .i64 i ∧ ρ 23 = O ∧ i ≤ 8 ∧ t = 8 - i ∧ Gw .u8 w3 w' O ((List.range i).flatMap fun (i : Nat) => v8 (at' (runW s M j) (i : Int)))) 8 ⟨0, .slice none 0 0, by simp (disch := omega) only [EO, ↓EP, EQ, EM, ↓reduceIte, Int.reduceAdd, Int.reduceEq, Int.reduceLE, Int.reduceLT, Int.reduceMul, Int.reduceNeg, Int.reducePow, Int.reduceSub, Int.reduceToNat, Nat.reduceAdd, Nat.reduceEqDiff, Nat.reduceLT, Nat.reduceLeDiff, Nat.reduceMul, reduceCtorEq], by simp (disch := omega) only [EO, ↓EP, EQ, EM, ↓reduceIte, Int.reduceAdd, Int.reduceEq, Int.reduceLE, Int.reduceLT, Int.reduceMul, Int.reduceNeg, Int.reducePow, Int.reduceSub, Int.reduceToNat, Nat.reduceAdd, Nat.reduceEqDiff, Nat.reduceLT, Nat.reduceLeDiff, Nat.reduceMul, reduceCtorEq], by omega, by omega, Gw.nil _ _⟩ ?_
    rintro t ρ8 w8 hf ⟨i, O, h18, h17, hi, rfl, G⟩ N hN
    have q3 : ρ8 3 = .pointer (some ⟨sb, 0, none⟩) := by rw [hf 3 rfl]; simp (disch := omega) only [EO, ↓EP, EQ, EM, ↓reduceIte, Int.reduceAdd, Int.reduceEq, Int.reduceLE, Int.reduceLT, Int.reduceMul, Int.reduceNeg, Int.reducePow, Int.reduceSub, Int.reduceToNat, Nat.reduceAdd, Nat.reduceEqDiff, Nat.reduceLT, Nat.reduceLeDiff, Nat.reduceMul, reduceCtorEq, rS]
    clear hf
    have hgl := flat_len (f := fun (i : Nat) => v8 (at' (runW s M j) (i : Int))) (n := 8) (fun _ => by simp [v8]) i
    by_cases hi5 : (i : Int) < 8
    · simp (disch := omega) only [EO, ↓EP, EQ, EM, ↓reduceIte, Int.reduceAdd, Int.reduceEq, Int.reduceLE, Int.reduceLT, Int.reduceMul, Int.reduceNeg, Int.reducePow, Int.reduceSub, Int.reduceToNat, Nat.reduceAdd, Nat.reduceEqDiff, Nat.reduceLT, Nat.reduceLeDiff, Nat.reduceMul, reduceCtorEq, h18, h17, q3]
      refine loop_inv (fun t ρ w' => ∃ (k : Nat) (O : Value), ρ 25 = .int .i64 (56 - 8 * (k : Int)) ∧ ρ 23 = O ∧ k ≤ 8 ∧ t = 8 - k ∧ Gw .u8 w3 w' O (((List.range i).flatMap fun (i : Nat) => v8 (at' (runW s M j) (i : Int))) ++ (List.range k).map fun k => IntKind.u8.wrap ((at' (runW s M j) (i : Int)).fdiv (2 ^ (56 - 8 * k))))) 8 ⟨0, O, by simp (disch := omega) only [EO, ↓EP, EQ, EM, ↓reduceIte, Int.reduceAdd, Int.reduceEq, Int.reduceLE, Int.reduceLT, Int.reduceMul, Int.reduceNeg, Int.reducePow, Int.reduceSub, Int.reduceToNat, Nat.reduceAdd, Nat.reduceEqDiff, Nat.reduceLT, Nat.reduceLeDiff, Nat.reduceMul, reduceCtorEq], by simp (disch := omega) only [EO, ↓EP, EQ, EM, ↓reduceIte, Int.reduceAdd, Int.reduceEq, Int.reduceLE, Int.reduceLT, Int.reduceMul, Int.reduceNeg, Int.reducePow, Int.reduceSub, Int.reduceToNat, Nat.reduceAdd, Nat.reduceEqDiff, Nat.reduceLT, Nat.reduceLeDiff, Nat.reduceMul, reduceCtorEq, h17], by omega, by omega, by simpa using G⟩ ?_
      clear G
      rintro t ρ9 w9 hf ⟨k, O', h25, h23, hk, rfl, G⟩ N' hN'
      have u3 : ρ9 3 = .pointer (some ⟨sb, 0, none⟩) := by rw [hf 3 rfl]; simp (disch := omega) only [EO, ↓EP, EQ, EM, ↓reduceIte, Int.reduceAdd, Int.reduceEq, Int.reduceLE, Int.reduceLT, Int.reduceMul, Int.reduceNeg, Int.reducePow, Int.reduceSub, Int.reduceToNat, Nat.reduceAdd, Nat.reduceEqDiff, Nat.reduceLT, Nat.reduceLeDiff, Nat.reduceMul, reduceCtorEq, q3]
      have u24 : ρ9 24 = .int .i64 i := by rw [hf 24 rfl]; simp (disch := omega) only [EO, ↓EP, EQ, EM, ↓reduceIte, Int.reduceAdd, Int.reduceEq, Int.reduceLE, Int.reduceLT, Int.reduceMul, Int.reduceNeg, Int.reducePow, Int.reduceSub, Int.reduceToNat, Nat.reduceAdd, Nat.reduceEqDiff, Nat.reduceLT, Nat.reduceLeDiff, Nat.reduceMul, reduceCtorEq, h18]
      clear hf
      by_cases hk8 : (0 : Int) ≤ 56 - 8 * (k : Int)
      · have hcw : w9.cell? ⟨sb, i, none⟩ = some (.int .u64 (at' (runW s M j) (i : Int))) := (hSb.nb G.fr).numN (j := i) (by omega)
        have e2 : min (56 - 8 * (k : Int)).toNat 64 = 56 - 8 * k := by omega
        simp (disch := omega) only [EO, ↓EP, EQ, EM, ↓reduceIte, Int.reduceAdd, Int.reduceEq, Int.reduceLE, Int.reduceLT, Int.reduceMul, Int.reduceNeg, Int.reducePow, Int.reduceSub, Int.reduceToNat, Nat.reduceAdd, Nat.reduceEqDiff, Nat.reduceLT, Nat.reduceLeDiff, Nat.reduceMul, reduceCtorEq, h25, h23, u3, u24, hcw, e2]
        refine bsl1 fun w10 n10 => ?_
        have G1 := G.new n10
        simp (disch := omega) only [EO, ↓EP, EQ, EM, ↓reduceIte, Int.reduceAdd, Int.reduceEq, Int.reduceLE, Int.reduceLT, Int.reduceMul, Int.reduceNeg, Int.reducePow, Int.reduceSub, Int.reduceToNat, Nat.reduceAdd, Nat.reduceEqDiff, Nat.reduceLT, Nat.reduceLeDiff, Nat.reduceMul, reduceCtorEq, h23]
        refine app_num G1.sl rfl n10.rdl (by rw [List.length_append, hgl]; simp only [List.length_cons, List.length_nil, List.length_map, List.length_range]; omega) (by omega) fun v11 w11 a11 => ?_
        have G2 := G1.apd a11
        simp (disch := omega) only [EO, ↓EP, EQ, EM, ↓reduceIte, Int.reduceAdd, Int.reduceEq, Int.reduceLE, Int.reduceLT, Int.reduceMul, Int.reduceNeg, Int.reducePow, Int.reduceSub, Int.reduceToNat, Nat.reduceAdd, Nat.reduceEqDiff, Nat.reduceLT, Nat.reduceLeDiff, Nat.reduceMul, reduceCtorEq, h25]
        refine hN' (8 - (k + 1)) _ _ (by omega) ⟨k + 1, v11, by simp (disch := omega) only [EO, ↓EP, EQ, EM, ↓reduceIte, Int.reduceAdd, Int.reduceEq, Int.reduceLE, Int.reduceLT, Int.reduceMul, Int.reduceNeg, Int.reducePow, Int.reduceSub, Int.reduceToNat, Nat.reduceAdd, Nat.reduceEqDiff, Nat.reduceLT, Nat.reduceLeDiff, Nat.reduceMul, reduceCtorEq, h25]; congr 1; omega, by simp (disch := omega) only [EO, ↓EP, EQ, EM, ↓reduceIte, Int.reduceAdd, Int.reduceEq, Int.reduceLE, Int.reduceLT, Int.reduceMul, Int.reduceNeg, Int.reducePow, Int.reduceSub, Int.reduceToNat, Nat.reduceAdd, Nat.reduceEqDiff, Nat.reduceLT, Nat.reduceLeDiff, Nat.reduceMul, reduceCtorEq], by omega, rfl, ?_⟩
        rw [map_succ, ← List.append_assoc]
        exact G2
      · have hke : k = 8 := by omega
        subst hke
        simp (disch := omega) only [EO, ↓EP, EQ, EM, ↓reduceIte, Int.reduceAdd, Int.reduceEq, Int.reduceLE, Int.reduceLT, Int.reduceMul, Int.reduceNeg, Int.reducePow, Int.reduceSub, Int.reduceToNat, Nat.reduceAdd, Nat.reduceEqDiff, Nat.reduceLT, Nat.reduceLeDiff, Nat.reduceMul, reduceCtorEq, h25, h23, u24]
        refine hN (8 - (i + 1)) _ _ (by omega) ⟨i + 1, O', by simp (disch := omega) only [EO, ↓EP, EQ, EM, ↓reduceIte, Int.reduceAdd, Int.reduceEq, Int.reduceLE, Int.reduceLT, Int.reduceMul, Int.reduceNeg, Int.reducePow, Int.reduceSub, Int.reduceToNat, Nat.reduceAdd, Nat.reduceEqDiff, Nat.reduceLT, Nat.reduceLeDiff, Nat.reduceMul, reduceCtorEq, u24, Int.natCast_add], by simp (disch := omega) only [EO, ↓EP, EQ, EM, ↓reduceIte, Int.reduceAdd, Int.reduceEq, Int.reduceLE, Int.reduceLT, Int.reduceMul, Int.reduceNeg, Int.reducePow, Int.reduceSub, Int.reduceToNat, Nat.reduceAdd, Nat.reduceEqDiff, Nat.reduceLT, Nat.reduceLeDiff, Nat.reduceMul, reduceCtorEq, h23], by omega, rfl, ?_⟩
        rw [flat_succ]
        exact G
    · have hie : i = 8 := by omega
      subst hie
      simp (disch := omega) only [EO, ↓EP, EQ, EM, ↓reduceIte, Int.reduceAdd, Int.reduceEq, Int.reduceLE, Int.reduceLT, Int.reduceMul, Int.reduceNeg, Int.reducePow, Int.reduceSub, Int.reduceToNat, Nat.reduceAdd, Nat.reduceEqDiff, Nat.reduceLT, Nat.reduceLeDiff, Nat.reduceMul, reduceCtorEq, h18, h17]
      exact hK O w8 (G.from f3)
end Go.Proofs.YtibccpfocbdmaaaDoor.Spec
