/- The document's digests: SHA-256. -/
import Derived.Test.YtibccpfocbdmaaaDoorRe4
set_option linter.unusedVariables false
set_option linter.unusedSimpArgs false
namespace Go.Proofs.YtibccpfocbdmaaaDoor.Spec
open Go Go.RowKit Go.Proofs Go.Proofs.YtibccpfocbdmaaaDoor.Eng Go.Proofs.YtibccpfocbdmaaaDoor.Code
set_option maxRecDepth 100000
attribute [local irreducible] callK S.W opsW scrW one

theorem roots32_fill : fillL [(0, 1), (1, 1), (2, 1), (3, 1), (4, 1), (5, 1), (6, 1), (7, 1), (8, 1), (9, 1), (10, 1), (11, 1), (12, 1), (13, 1), (14, 1), (15, 1), (16, 1), (17, 1), (18, 1), (19, 1), (20, 1), (21, 1), (22, 1), (23, 1), (24, 1), (25, 1), (26, 1), (27, 1), (28, 1), (29, 1), (30, 1), (31, 1), (32, 1), (33, 1), (34, 1), (35, 1), (36, 1), (37, 1), (38, 1), (39, 1), (40, 1), (41, 1), (42, 1), (43, 1), (44, 1), (45, 1), (46, 1), (47, 1), (48, 1), (49, 1), (50, 1), (51, 1), (52, 1), (53, 1), (54, 1), (55, 1), (56, 1), (57, 1), (58, 1), (59, 1), (60, 1), (61, 1), (62, 1), (63, 1)] (Array.replicate 64 (Value.int .u32 0)) [(0, .int .u32 1116352408), (1, .int .u32 1899447441), (2, .int .u32 3049323471), (3, .int .u32 3921009573), (4, .int .u32 961987163), (5, .int .u32 1508970993), (6, .int .u32 2453635748), (7, .int .u32 2870763221), (8, .int .u32 3624381080), (9, .int .u32 310598401), (10, .int .u32 607225278), (11, .int .u32 1426881987), (12, .int .u32 1925078388), (13, .int .u32 2162078206), (14, .int .u32 2614888103), (15, .int .u32 3248222580), (16, .int .u32 3835390401), (17, .int .u32 4022224774), (18, .int .u32 264347078), (19, .int .u32 604807628), (20, .int .u32 770255983), (21, .int .u32 1249150122), (22, .int .u32 1555081692), (23, .int .u32 1996064986), (24, .int .u32 2554220882), (25, .int .u32 2821834349), (26, .int .u32 2952996808), (27, .int .u32 3210313671), (28, .int .u32 3336571891), (29, .int .u32 3584528711), (30, .int .u32 113926993), (31, .int .u32 338241895), (32, .int .u32 666307205), (33, .int .u32 773529912), (34, .int .u32 1294757372), (35, .int .u32 1396182291), (36, .int .u32 1695183700), (37, .int .u32 1986661051), (38, .int .u32 2177026350), (39, .int .u32 2456956037), (40, .int .u32 2730485921), (41, .int .u32 2820302411), (42, .int .u32 3259730800), (43, .int .u32 3345764771), (44, .int .u32 3516065817), (45, .int .u32 3600352804), (46, .int .u32 4094571909), (47, .int .u32 275423344), (48, .int .u32 430227734), (49, .int .u32 506948616), (50, .int .u32 659060556), (51, .int .u32 883997877), (52, .int .u32 958139571), (53, .int .u32 1322822218), (54, .int .u32 1537002063), (55, .int .u32 1747873779), (56, .int .u32 1955562222), (57, .int .u32 2024104815), (58, .int .u32 2227730452), (59, .int .u32 2361852424), (60, .int .u32 2428436474), (61, .int .u32 2756734187), (62, .int .u32 3204031479), (63, .int .u32 3329325298)] = some (nums .u32 k256).toArray := by kernel_rfl
theorem roots32_spec {w : World} (K : Value → World → Prop) (hK : ∀ w', Fr w w' nob → K (.agg (nums .u32 k256).toArray) w') : callK Tryd.prog 37 [] w K := by
  refine call_of Tryd.func37 Code.h37 (by simp [Code.c37]) ?_
  simp (disch := omega) only [EO, ↓EP, EQ, EM, ↓reduceIte, Int.reduceAdd, Int.reduceEq, Int.reduceLE, Int.reduceLT, Int.reduceMul, Int.reduceNeg, Int.reducePow, Int.reduceSub, Int.reduceToNat, Nat.reduceAdd, Nat.reduceEqDiff, Nat.reduceLT, Nat.reduceLeDiff, Nat.reduceMul, reduceCtorEq, Code.c37]
  refine al_k (nums .u32 (zs 64)) rfl fun w1 n1 => ?_
  simp (disch := omega) only [EO, ↓EP, EQ, EM, ↓reduceIte, Int.reduceAdd, Int.reduceEq, Int.reduceLE, Int.reduceLT, Int.reduceMul, Int.reduceNeg, Int.reducePow, Int.reduceSub, Int.reduceToNat, Nat.reduceAdd, Nat.reduceEqDiff, Nat.reduceLT, Nat.reduceLeDiff, Nat.reduceMul, reduceCtorEq]
  refine ⟨_, roots32_fill, ?_⟩
  simp (disch := omega) only [EO, ↓EP, EQ, EM, ↓reduceIte, Int.reduceAdd, Int.reduceEq, Int.reduceLE, Int.reduceLT, Int.reduceMul, Int.reduceNeg, Int.reducePow, Int.reduceSub, Int.reduceToNat, Nat.reduceAdd, Nat.reduceEqDiff, Nat.reduceLT, Nat.reduceLeDiff, Nat.reduceMul, reduceCtorEq]
  have hl : (nums .u32 k256).length = 64 := by rw [nums_length]; exact k256_len
  refine st_whole n1.blk hl rfl (nums_one _ _) fun w2 p2 => ?_
  simp (disch := omega) only [EO, ↓EP, EQ, EM, ↓reduceIte, Int.reduceAdd, Int.reduceEq, Int.reduceLE, Int.reduceLT, Int.reduceMul, Int.reduceNeg, Int.reducePow, Int.reduceSub, Int.reduceToNat, Nat.reduceAdd, Nat.reduceEqDiff, Nat.reduceLT, Nat.reduceLeDiff, Nat.reduceMul, reduceCtorEq]
  refine p2.blk.ldAgg hl (hK _ ?_)
  exact fr_of (p2.below (Nat.le_refl _) (n1.below (Nat.le_refl _) (Below.refl _ _))) rfl
theorem two_all (H S : List Int) (hH : H.length = 8) (hS : S.length = 8) : rounds (twoAdd H) 8 S = [s32 (at' H 0) (at' S 0), s32 (at' H 1) (at' S 1), s32 (at' H 2) (at' S 2), s32 (at' H 3) (at' S 3), s32 (at' H 4) (at' S 4), s32 (at' H 5) (at' S 5), s32 (at' H 6) (at' S 6), s32 (at' H 7) (at' S 7)] := by
  obtain ⟨a, b, c, d, e, f, g, i, rfl⟩ := len8 hH
  obtain ⟨a', b', c', d', e', f', g', i', rfl⟩ := len8 hS
  unfold s32
  show [IntKind.u32.wrap (a' + a), IntKind.u32.wrap (b' + b), IntKind.u32.wrap (c' + c), IntKind.u32.wrap (d' + d), IntKind.u32.wrap (e' + e), IntKind.u32.wrap (f' + f), IntKind.u32.wrap (g' + g), IntKind.u32.wrap (i' + i)] = [IntKind.u32.wrap (a + a'), IntKind.u32.wrap (b + b'), IntKind.u32.wrap (c + c'), IntKind.u32.wrap (d + d'), IntKind.u32.wrap (e + e'), IntKind.u32.wrap (f + f'), IntKind.u32.wrap (g + g'), IntKind.u32.wrap (i + i')]
  simp only [Int.add_comm]
theorem run2_succ (M : List Int) (j : Nat) : (runN 2 M (j + 1)).1 = two (runN 2 M j).1 (part 64 M j) := by
  rw [runN_succ, mix, if_neg (by decide), if_pos rfl]; rfl
theorem run2_len (M : List Int) : ∀ j, (runN 2 M j).1.length = 8
  | 0 => rfl
  | j + 1 => by rw [run2_succ]; exact two_len _ _ (run2_len M j)
/-- What holds before a round. -/
def twoJ (w : World) (kb sb wb : Nat) (H p : List Int) (m : Nat) (ρ : Env) (w' : World) : Prop :=
  ∃ k : Nat, ρ 19 = .int .i64 k ∧ k ≤ 64 ∧ m = 64 - k ∧ ρ 11 = .int .u32 (at' (rounds twoStep k (twoInit H p)).s 0) ∧ ρ 12 = .int .u32 (at' (rounds twoStep k (twoInit H p)).s 1) ∧ ρ 13 = .int .u32 (at' (rounds twoStep k (twoInit H p)).s 2) ∧ ρ 14 = .int .u32 (at' (rounds twoStep k (twoInit H p)).s 3) ∧ ρ 15 = .int .u32 (at' (rounds twoStep k (twoInit H p)).s 4) ∧ ρ 16 = .int .u32 (at' (rounds twoStep k (twoInit H p)).s 5) ∧ ρ 17 = .int .u32 (at' (rounds twoStep k (twoInit H p)).s 6) ∧ ρ 18 = .int .u32 (at' (rounds twoStep k (twoInit H p)).s 7) ∧
    Blk w' kb (nums .u32 k256) ∧ Blk w' sb (nums .u32 H) ∧ Blk w' wb (nums .u32 (rowN (twoWd p) 64 64)) ∧ Below w.heap.size w w'
theorem twoInit_00 (h p : List Int) : (rounds twoStep 0 (twoInit h p)).s = h := rfl
theorem twoS_at (x y : Int) (s : List Int) : at' (twoS x y s) 0 = s32 x y ∧ at' (twoS x y s) 1 = at' s 0 ∧ at' (twoS x y s) 2 = at' s 1 ∧ at' (twoS x y s) 3 = at' s 2 ∧ at' (twoS x y s) 4 = s32 (at' s 3) x ∧ at' (twoS x y s) 5 = at' s 4 ∧ at' (twoS x y s) 6 = at' s 5 ∧ at' (twoS x y s) 7 = at' s 6 := ⟨rfl, rfl, rfl, rfl, rfl, rfl, rfl, rfl⟩
set_option maxHeartbeats 4000000 in
theorem sha256_vw {w0 : World} {v : Value} {M : List Int} (hv : Vw .u8 w0 v M) (hmod : M.length % 64 = 0) (hm : M.length ≤ 16777600) (hb : byteL M) (K : Value → World → Prop)
    (hK : ∀ v' w', Gw .u8 w0 w' v' ((List.range 8).flatMap fun (i : Nat) => w4 (at' (runN 2 M (M.length / 64)).1 (i : Int))) → K v' w') : callK Tryd.prog 31 [v] w0 K := by
  obtain ⟨A, c, rfl, hc, hr0⟩ := hv
  refine call_of Tryd.func31 Code.h31 (by simp [Code.c31]) ?_
  simp (disch := omega) only [EO, ↓EP, EQ, EM, ↓reduceIte, Int.reduceAdd, Int.reduceEq, Int.reduceLE, Int.reduceLT, Int.reduceMul, Int.reduceNeg, Int.reducePow, Int.reduceSub, Int.reduceToNat, Nat.reduceAdd, Nat.reduceEqDiff, Nat.reduceLT, Nat.reduceLeDiff, Nat.reduceMul, reduceCtorEq, Code.c31]
  refine roots32_spec _ fun w fw => ?_
  have hr := hr0.nb fw
  clear hr0
  simp (disch := omega) only [EO, ↓EP, EQ, EM, ↓reduceIte, Int.reduceAdd, Int.reduceEq, Int.reduceLE, Int.reduceLT, Int.reduceMul, Int.reduceNeg, Int.reducePow, Int.reduceSub, Int.reduceToNat, Nat.reduceAdd, Nat.reduceEqDiff, Nat.reduceLT, Nat.reduceLeDiff, Nat.reduceMul, reduceCtorEq]
  refine al_k (nums .u32 (zs 64)) rfl fun w1 n1 => ?_
  simp (disch := omega) only [EO, ↓EP, EQ, EM, ↓reduceIte, Int.reduceAdd, Int.reduceEq, Int.reduceLE, Int.reduceLT, Int.reduceMul, Int.reduceNeg, Int.reducePow, Int.reduceSub, Int.reduceToNat, Nat.reduceAdd, Nat.reduceEqDiff, Nat.reduceLT, Nat.reduceLeDiff, Nat.reduceMul, reduceCtorEq]
  refine st_whole n1.blk (by rw [nums_length]; exact k256_len) rfl (nums_one _ _) fun w2 p2 => ?_
  simp (disch := omega) only [EO, ↓EP, EQ, EM, ↓reduceIte, Int.reduceAdd, Int.reduceEq, Int.reduceLE, Int.reduceLT, Int.reduceMul, Int.reduceNeg, Int.reducePow, Int.reduceSub, Int.reduceToNat, Nat.reduceAdd, Nat.reduceEqDiff, Nat.reduceLT, Nat.reduceLeDiff, Nat.reduceMul, reduceCtorEq]
  refine ⟨_, fill8 _ _ _ _ _ _ _ _ _, ?_⟩
  simp (disch := omega) only [EO, ↓EP, EQ, EM, ↓reduceIte, Int.reduceAdd, Int.reduceEq, Int.reduceLE, Int.reduceLT, Int.reduceMul, Int.reduceNeg, Int.reducePow, Int.reduceSub, Int.reduceToNat, Nat.reduceAdd, Nat.reduceEqDiff, Nat.reduceLT, Nat.reduceLeDiff, Nat.reduceMul, reduceCtorEq]
  refine al_k (nums .u32 (zs 8)) rfl fun w3 n3 => ?_
  simp (disch := omega) only [EO, ↓EP, EQ, EM, ↓reduceIte, Int.reduceAdd, Int.reduceEq, Int.reduceLE, Int.reduceLT, Int.reduceMul, Int.reduceNeg, Int.reducePow, Int.reduceSub, Int.reduceToNat, Nat.reduceAdd, Nat.reduceEqDiff, Nat.reduceLT, Nat.reduceLeDiff, Nat.reduceMul, reduceCtorEq]
  refine st_whole n3.blk rfl rfl (nums_one _ _) fun w4 p4 => ?_
  simp (disch := omega) only [EO, ↓EP, EQ, EM, ↓reduceIte, Int.reduceAdd, Int.reduceEq, Int.reduceLE, Int.reduceLT, Int.reduceMul, Int.reduceNeg, Int.reducePow, Int.reduceSub, Int.reduceToNat, Nat.reduceAdd, Nat.reduceEqDiff, Nat.reduceLT, Nat.reduceLeDiff, Nat.reduceMul, reduceCtorEq]
  have z1 := n1.size
  have z2 := p2.size
  have z3 := n3.size
  have z4 := p4.size
  have b4 : Below w.heap.size w w4 := p4.below (by omega) (n3.below (by omega) (p2.below (Nat.le_refl _) (n1.below (Nat.le_refl _) (Below.refl _ _))))
  have hkb4 := p4.keep (by omega) (n3.keep p2.blk)
  have hsb4 := p4.blk
  have hk0 : w.heap.size ≤ w.heap.size := Nat.le_refl _
  have hs0 : w.heap.size ≤ w2.heap.size := by omega
  have hks : w.heap.size ≠ w2.heap.size := by omega
  obtain ⟨kb, ekb⟩ : ∃ kb, kb = w.heap.size := ⟨_, rfl⟩
  obtain ⟨sb, esb⟩ : ∃ sb, sb = w2.heap.size := ⟨_, rfl⟩
  simp only [← ekb, ← esb] at hkb4 hsb4 hk0 hs0 hks b4 ⊢
  refine loop_inv (fun t ρ w' => ∃ j : Nat, ρ 5 = .int .i64 (64 * (j : Int)) ∧ 64 * j ≤ M.length ∧ t = M.length - 64 * j ∧ Blk w' kb (nums .u32 k256) ∧ Blk w' sb (nums .u32 (runN 2 M j).1) ∧ Below kb w w') M.length ⟨0, by simp (disch := omega) only [EO, ↓EP, EQ, EM, ↓reduceIte, Int.reduceAdd, Int.reduceEq, Int.reduceLE, Int.reduceLT, Int.reduceMul, Int.reduceNeg, Int.reducePow, Int.reduceSub, Int.reduceToNat, Nat.reduceAdd, Nat.reduceEqDiff, Nat.reduceLT, Nat.reduceLeDiff, Nat.reduceMul, reduceCtorEq], by omega, by omega, hkb4, hsb4, b4⟩ ?_
  clear b4 n1 p2 n3 p4 hkb4 hsb4 z1 z2 z3 z4 w1
  rintro t ρ w3 hf ⟨j, h4, hj, rfl, hKb, hSb, b3⟩ N hN
  have r0 : ρ 0 = .slice A M.length c := by rw [hf 0 rfl]; simp (disch := omega) only [EO, ↓EP, EQ, EM, ↓reduceIte, Int.reduceAdd, Int.reduceEq, Int.reduceLE, Int.reduceLT, Int.reduceMul, Int.reduceNeg, Int.reducePow, Int.reduceSub, Int.reduceToNat, Nat.reduceAdd, Nat.reduceEqDiff, Nat.reduceLT, Nat.reduceLeDiff, Nat.reduceMul, reduceCtorEq]
  have rS : ρ 4 = .pointer (some ⟨sb, 0, none⟩) := by rw [hf 4 rfl]; simp (disch := omega) only [EO, ↓EP, EQ, EM, ↓reduceIte, Int.reduceAdd, Int.reduceEq, Int.reduceLE, Int.reduceLT, Int.reduceMul, Int.reduceNeg, Int.reducePow, Int.reduceSub, Int.reduceToNat, Nat.reduceAdd, Nat.reduceEqDiff, Nat.reduceLT, Nat.reduceLeDiff, Nat.reduceMul, reduceCtorEq, ← esb, ← ekb]
  have rK : ρ 3 = .pointer (some ⟨kb, 0, none⟩) := by rw [hf 3 rfl]; simp (disch := omega) only [EO, ↓EP, EQ, EM, ↓reduceIte, Int.reduceAdd, Int.reduceEq, Int.reduceLE, Int.reduceLT, Int.reduceMul, Int.reduceNeg, Int.reducePow, Int.reduceSub, Int.reduceToNat, Nat.reduceAdd, Nat.reduceEqDiff, Nat.reduceLT, Nat.reduceLeDiff, Nat.reduceMul, reduceCtorEq, ← esb, ← ekb]
  clear hf
  have ltk := hKb.lt
  have lts := hSb.lt
  by_cases hjl : 64 * (j : Int) < (M.length : Int)
  · have hM0 : 0 < M.length := by omega
    simp (disch := omega) only [EO, ↓EP, EQ, EM, ↓reduceIte, Int.reduceAdd, Int.reduceEq, Int.reduceLE, Int.reduceLT, Int.reduceMul, Int.reduceNeg, Int.reducePow, Int.reduceSub, Int.reduceToNat, Nat.reduceAdd, Nat.reduceEqDiff, Nat.reduceLT, Nat.reduceLeDiff, Nat.reduceMul, reduceCtorEq, h4, r0, rS, rK]
    refine al_k (nums .u32 (zs 64)) rfl fun w4 n4 => ?_
    have b4 := n4.below (by omega) b3
    have hK4 := n4.keep hKb
    have hS4 := n4.keep hSb
    generalize hpp : part 64 M j = p
    have hpb : byteL p := by rw [← hpp]; exact byteL_part hb j
    simp (disch := omega) only [EO, ↓EP, EQ, EM, ↓reduceIte, Int.reduceAdd, Int.reduceEq, Int.reduceLE, Int.reduceLT, Int.reduceMul, Int.reduceNeg, Int.reducePow, Int.reduceSub, Int.reduceToNat, Nat.reduceAdd, Nat.reduceEqDiff, Nat.reduceLT, Nat.reduceLeDiff, Nat.reduceMul, reduceCtorEq, h4, r0, rS, rK]
    refine loop_inv (fun t ρ' w' => ∃ k : Nat, ρ' 7 = .int .i64 k ∧ k ≤ 64 ∧ t = 64 - k ∧ Blk w' kb (nums .u32 k256) ∧ Blk w' sb (nums .u32 (runN 2 M j).1) ∧ Blk w' w3.heap.size (nums .u32 (rowN (twoWd p) 64 k)) ∧ Below kb w w') 64 ⟨0, by simp (disch := omega) only [EO, ↓EP, EQ, EM, ↓reduceIte, Int.reduceAdd, Int.reduceEq, Int.reduceLE, Int.reduceLT, Int.reduceMul, Int.reduceNeg, Int.reducePow, Int.reduceSub, Int.reduceToNat, Nat.reduceAdd, Nat.reduceEqDiff, Nat.reduceLT, Nat.reduceLeDiff, Nat.reduceMul, reduceCtorEq], by omega, by omega, hK4, hS4, n4.blk, b4⟩ ?_
    clear n4 hK4 hS4 b4
    rintro t ρ5 w5 hf ⟨k, h6, hk, rfl, hK5, hS5, hW5, b5⟩ N5 hN5
    have q0 : ρ5 0 = .slice A M.length c := by rw [hf 0 rfl]; simp (disch := omega) only [EO, ↓EP, EQ, EM, ↓reduceIte, Int.reduceAdd, Int.reduceEq, Int.reduceLE, Int.reduceLT, Int.reduceMul, Int.reduceNeg, Int.reducePow, Int.reduceSub, Int.reduceToNat, Nat.reduceAdd, Nat.reduceEqDiff, Nat.reduceLT, Nat.reduceLeDiff, Nat.reduceMul, reduceCtorEq, r0]
    have qS : ρ5 4 = .pointer (some ⟨sb, 0, none⟩) := by rw [hf 4 rfl]; simp (disch := omega) only [EO, ↓EP, EQ, EM, ↓reduceIte, Int.reduceAdd, Int.reduceEq, Int.reduceLE, Int.reduceLT, Int.reduceMul, Int.reduceNeg, Int.reducePow, Int.reduceSub, Int.reduceToNat, Nat.reduceAdd, Nat.reduceEqDiff, Nat.reduceLT, Nat.reduceLeDiff, Nat.reduceMul, reduceCtorEq, rS]
    have qK : ρ5 3 = .pointer (some ⟨kb, 0, none⟩) := by rw [hf 3 rfl]; simp (disch := omega) only [EO, ↓EP, EQ, EM, ↓reduceIte, Int.reduceAdd, Int.reduceEq, Int.reduceLE, Int.reduceLT, Int.reduceMul, Int.reduceNeg, Int.reducePow, Int.reduceSub, Int.reduceToNat, Nat.reduceAdd, Nat.reduceEqDiff, Nat.reduceLT, Nat.reduceLeDiff, Nat.reduceMul, reduceCtorEq, rK]
    have qA : ρ5 5 = .int .i64 (64 * (j : Int)) := by rw [hf 5 rfl]; simp (disch := omega) only [EO, ↓EP, EQ, EM, ↓reduceIte, Int.reduceAdd, Int.reduceEq, Int.reduceLE, Int.reduceLT, Int.reduceMul, Int.reduceNeg, Int.reducePow, Int.reduceSub, Int.reduceToNat, Nat.reduceAdd, Nat.reduceEqDiff, Nat.reduceLT, Nat.reduceLeDiff, Nat.reduceMul, reduceCtorEq, h4]
    have qW : ρ5 6 = .pointer (some ⟨w3.heap.size, 0, none⟩) := by rw [hf 6 rfl]; simp (disch := omega) only [EO, ↓EP, EQ, EM, ↓reduceIte, Int.reduceAdd, Int.reduceEq, Int.reduceLE, Int.reduceLT, Int.reduceMul, Int.reduceNeg, Int.reducePow, Int.reduceSub, Int.reduceToNat, Nat.reduceAdd, Nat.reduceEqDiff, Nat.reduceLT, Nat.reduceLeDiff, Nat.reduceMul, reduceCtorEq]
    clear hf
    have hp5 : Rd w5 A (nums .u8 M) := hr.below (ekb ▸ b5)
    have hl5 := rowN_len (twoWd p) hk
    by_cases hkR : (k : Int) < 64
    · have st : ∀ (x : Int) (m : Nat) (ρ6 : Env), x = twoWd p k → ρ6 7 = .int .i64 ((k + 1 : Nat) : Int) → (∀ w', Put (w5.drewN m) w' w3.heap.size (nums .u32 ((rowN (twoWd p) 64 k).set k x)) → endK N5 ρ6 w') := by
        intro x m ρ6 hx h6' w' pt
        rw [hx, rowN_set _ (by omega)] at pt
        exact hN5 (64 - (k + 1)) _ _ (by omega) ⟨k + 1, h6', by omega, rfl, pt.keep (by omega) (hK5.drewN m), pt.keep (by omega) (hS5.drewN m), pt.blk, pt.below (by omega) (below_drewN' b5 m)⟩
      by_cases hk16 : (k : Int) < 16
      · obtain ⟨ad, e, c0, c1, c2, c3⟩ := four_at hp5 hc (lo := 64 * j + 4 * k) (by omega)
        have elo : (64 * (j : Int) + 4 * (k : Int)).toNat = 64 * j + 4 * k := by omega
        simp (disch := omega) only [EO, ↓EP, EQ, EM, ↓reduceIte, Int.reduceAdd, Int.reduceEq, Int.reduceLE, Int.reduceLT, Int.reduceMul, Int.reduceNeg, Int.reducePow, Int.reduceSub, Int.reduceToNat, Nat.reduceAdd, Nat.reduceEqDiff, Nat.reduceLT, Nat.reduceLeDiff, Nat.reduceMul, reduceCtorEq, W_join, h6, q0, qS, qA, qW, elo, e, c0, c1, c2, c3]
        intro m
        refine st_num (hW5.drewN m) (by omega) fun w6 p6 => ?_
        simp (disch := omega) only [EO, ↓EP, EQ, EM, ↓reduceIte, Int.reduceAdd, Int.reduceEq, Int.reduceLE, Int.reduceLT, Int.reduceMul, Int.reduceNeg, Int.reducePow, Int.reduceSub, Int.reduceToNat, Nat.reduceAdd, Nat.reduceEqDiff, Nat.reduceLT, Nat.reduceLeDiff, Nat.reduceMul, reduceCtorEq, h6]
        refine st _ m _ ?_ (by simp (disch := omega) only [EO, ↓EP, EQ, EM, ↓reduceIte, Int.reduceAdd, Int.reduceEq, Int.reduceLE, Int.reduceLT, Int.reduceMul, Int.reduceNeg, Int.reducePow, Int.reduceSub, Int.reduceToNat, Nat.reduceAdd, Nat.reduceEqDiff, Nat.reduceLT, Nat.reduceLeDiff, Nat.reduceMul, reduceCtorEq, h6, Int.natCast_add]) w6 p6
        rw [twoWd_lo (by omega), ← hpp]
        exact oneWd_read hb (by omega)
      · have e2 : ((k : Int) - 2).toNat = k - 2 := by omega
        have e7 : ((k : Int) - 7).toNat = k - 7 := by omega
        have e15 : ((k : Int) - 15).toNat = k - 15 := by omega
        have e16 : ((k : Int) - 16).toNat = k - 16 := by omega
        have g : ∀ i, i < k → w5.cell? ⟨w3.heap.size, i, none⟩ = some (.int .u32 (twoWd p i)) := fun i hi => by rw [hW5.numN (j := i) (by omega), rowN_at _ hi]
        have g2 := g (k - 2) (by omega)
        have g7 := g (k - 7) (by omega)
        have g15 := g (k - 15) (by omega)
        have g16 := g (k - 16) (by omega)
        simp (disch := omega) only [EO, ↓EP, EQ, EM, ↓reduceIte, Int.reduceAdd, Int.reduceEq, Int.reduceLE, Int.reduceLT, Int.reduceMul, Int.reduceNeg, Int.reducePow, Int.reduceSub, Int.reduceToNat, Nat.reduceAdd, Nat.reduceEqDiff, Nat.reduceLT, Nat.reduceLeDiff, Nat.reduceMul, reduceCtorEq, W_join, h6, q0, qS, qA, qW, e2, e15, g2, g15]
        intro m0
        refine right_q _ 17 (by omega) (by omega) _ _ ?_
        simp (disch := omega) only [EO, ↓EP, EQ, EM, ↓reduceIte, Int.reduceAdd, Int.reduceEq, Int.reduceLE, Int.reduceLT, Int.reduceMul, Int.reduceNeg, Int.reducePow, Int.reduceSub, Int.reduceToNat, Nat.reduceAdd, Nat.reduceEqDiff, Nat.reduceLT, Nat.reduceLeDiff, Nat.reduceMul, reduceCtorEq, h6, qW, e7, e16, g7, g16]
        refine right_q _ 19 (by omega) (by omega) _ _ ?_
        simp (disch := omega) only [EO, ↓EP, EQ, EM, ↓reduceIte, Int.reduceAdd, Int.reduceEq, Int.reduceLE, Int.reduceLT, Int.reduceMul, Int.reduceNeg, Int.reducePow, Int.reduceSub, Int.reduceToNat, Nat.reduceAdd, Nat.reduceEqDiff, Nat.reduceLT, Nat.reduceLeDiff, Nat.reduceMul, reduceCtorEq, h6, qW, e7, e16, g7, g16]
        refine right_q _ 7 (by omega) (by omega) _ _ ?_
        simp (disch := omega) only [EO, ↓EP, EQ, EM, ↓reduceIte, Int.reduceAdd, Int.reduceEq, Int.reduceLE, Int.reduceLT, Int.reduceMul, Int.reduceNeg, Int.reducePow, Int.reduceSub, Int.reduceToNat, Nat.reduceAdd, Nat.reduceEqDiff, Nat.reduceLT, Nat.reduceLeDiff, Nat.reduceMul, reduceCtorEq, h6, qW, e7, e16, g7, g16]
        refine right_q _ 18 (by omega) (by omega) _ _ ?_
        simp (disch := omega) only [EO, ↓EP, EQ, EM, ↓reduceIte, Int.reduceAdd, Int.reduceEq, Int.reduceLE, Int.reduceLT, Int.reduceMul, Int.reduceNeg, Int.reducePow, Int.reduceSub, Int.reduceToNat, Nat.reduceAdd, Nat.reduceEqDiff, Nat.reduceLT, Nat.reduceLeDiff, Nat.reduceMul, reduceCtorEq, h6, qW, e7, e16, g7, g16]
        intro m
        refine st_num (hW5.drewN _) (by omega) fun w6 p6 => ?_
        simp (disch := omega) only [EO, ↓EP, EQ, EM, ↓reduceIte, Int.reduceAdd, Int.reduceEq, Int.reduceLE, Int.reduceLT, Int.reduceMul, Int.reduceNeg, Int.reducePow, Int.reduceSub, Int.reduceToNat, Nat.reduceAdd, Nat.reduceEqDiff, Nat.reduceLT, Nat.reduceLeDiff, Nat.reduceMul, reduceCtorEq, h6]
        refine st _ _ _ ?_ (by simp (disch := omega) only [EO, ↓EP, EQ, EM, ↓reduceIte, Int.reduceAdd, Int.reduceEq, Int.reduceLE, Int.reduceLT, Int.reduceMul, Int.reduceNeg, Int.reducePow, Int.reduceSub, Int.reduceToNat, Nat.reduceAdd, Nat.reduceEqDiff, Nat.reduceLT, Nat.reduceLeDiff, Nat.reduceMul, reduceCtorEq, h6, Int.natCast_add]) w6 p6
        rw [twoWd_hi (t := k) (by omega)]
        rfl
    · have hkR' : k = 64 := by omega
      subst hkR'
      clear hN5
      have hH8 : (runN 2 M j).1.length = 8 := run2_len M j
      have g : ∀ i : Nat, i < 8 → w5.cell? ⟨sb, i, none⟩ = some (.int .u32 (at' (runN 2 M j).1 (i : Int))) := fun i hi => hS5.numN (j := i) (by omega)
      have a0 := g 0 (by omega)
      have a1 := g 1 (by omega)
      have a2 := g 2 (by omega)
      have a3 := g 3 (by omega)
      have a4 := g 4 (by omega)
      have a5 := g 5 (by omega)
      have a6 := g 6 (by omega)
      have a7 := g 7 (by omega)
      clear g
      simp (disch := omega) only [EO, ↓EP, EQ, EM, ↓reduceIte, Int.reduceAdd, Int.reduceEq, Int.reduceLE, Int.reduceLT, Int.reduceMul, Int.reduceNeg, Int.reducePow, Int.reduceSub, Int.reduceToNat, Nat.reduceAdd, Nat.reduceEqDiff, Nat.reduceLT, Nat.reduceLeDiff, Nat.reduceMul, reduceCtorEq, h6, q0, qS, qA, qW, a0, a1, a2, a3, a4, a5, a6, a7]
      intro m
      refine loop_inv (twoJ w kb sb w3.heap.size (runN 2 M j).1 p) 64 ⟨0, by simp (disch := omega) only [EO, ↓EP, EQ, EM, ↓reduceIte, Int.reduceAdd, Int.reduceEq, Int.reduceLE, Int.reduceLT, Int.reduceMul, Int.reduceNeg, Int.reducePow, Int.reduceSub, Int.reduceToNat, Nat.reduceAdd, Nat.reduceEqDiff, Nat.reduceLT, Nat.reduceLeDiff, Nat.reduceMul, reduceCtorEq], by omega, by omega, ?_⟩ ?_
      · simp only [twoInit_00]
        simp (disch := omega) only [EO, ↓EP, EQ, EM, ↓reduceIte, Int.reduceAdd, Int.reduceEq, Int.reduceLE, Int.reduceLT, Int.reduceMul, Int.reduceNeg, Int.reducePow, Int.reduceSub, Int.reduceToNat, Nat.reduceAdd, Nat.reduceEqDiff, Nat.reduceLT, Nat.reduceLeDiff, Nat.reduceMul, reduceCtorEq]
        exact ⟨hK5.drewN m, hS5.drewN m, hW5.drewN m, ekb ▸ below_drewN' b5 m⟩
      clear a0 a1 a2 a3 a4 a5 a6 a7 hl5 hp5
      rintro t ρ7 w7 hf ⟨k, h13, hk, rfl, c0, c1, c2, c3, c4, c5, c6, c7, hK7, hS7, hW7, b7⟩ N7 hN7
      have y0 : ρ7 0 = .slice A M.length c := by rw [hf 0 rfl]; simp (disch := omega) only [EO, ↓EP, EQ, EM, ↓reduceIte, Int.reduceAdd, Int.reduceEq, Int.reduceLE, Int.reduceLT, Int.reduceMul, Int.reduceNeg, Int.reducePow, Int.reduceSub, Int.reduceToNat, Nat.reduceAdd, Nat.reduceEqDiff, Nat.reduceLT, Nat.reduceLeDiff, Nat.reduceMul, reduceCtorEq, q0]
      have yS : ρ7 4 = .pointer (some ⟨sb, 0, none⟩) := by rw [hf 4 rfl]; simp (disch := omega) only [EO, ↓EP, EQ, EM, ↓reduceIte, Int.reduceAdd, Int.reduceEq, Int.reduceLE, Int.reduceLT, Int.reduceMul, Int.reduceNeg, Int.reducePow, Int.reduceSub, Int.reduceToNat, Nat.reduceAdd, Nat.reduceEqDiff, Nat.reduceLT, Nat.reduceLeDiff, Nat.reduceMul, reduceCtorEq, qS]
      have yK : ρ7 3 = .pointer (some ⟨kb, 0, none⟩) := by rw [hf 3 rfl]; simp (disch := omega) only [EO, ↓EP, EQ, EM, ↓reduceIte, Int.reduceAdd, Int.reduceEq, Int.reduceLE, Int.reduceLT, Int.reduceMul, Int.reduceNeg, Int.reducePow, Int.reduceSub, Int.reduceToNat, Nat.reduceAdd, Nat.reduceEqDiff, Nat.reduceLT, Nat.reduceLeDiff, Nat.reduceMul, reduceCtorEq, qK]
      have yA : ρ7 5 = .int .i64 (64 * (j : Int)) := by rw [hf 5 rfl]; simp (disch := omega) only [EO, ↓EP, EQ, EM, ↓reduceIte, Int.reduceAdd, Int.reduceEq, Int.reduceLE, Int.reduceLT, Int.reduceMul, Int.reduceNeg, Int.reducePow, Int.reduceSub, Int.reduceToNat, Nat.reduceAdd, Nat.reduceEqDiff, Nat.reduceLT, Nat.reduceLeDiff, Nat.reduceMul, reduceCtorEq, qA]
      have yW : ρ7 6 = .pointer (some ⟨w3.heap.size, 0, none⟩) := by rw [hf 6 rfl]; simp (disch := omega) only [EO, ↓EP, EQ, EM, ↓reduceIte, Int.reduceAdd, Int.reduceEq, Int.reduceLE, Int.reduceLT, Int.reduceMul, Int.reduceNeg, Int.reducePow, Int.reduceSub, Int.reduceToNat, Nat.reduceAdd, Nat.reduceEqDiff, Nat.reduceLT, Nat.reduceLeDiff, Nat.reduceMul, reduceCtorEq, qW]
      clear hf q0 qS qK qA qW
      have hx := twoWd_step (runN 2 M j).1 p k
      have hsl := two_slen (twoInit (runN 2 M j).1 p) hH8 k
      generalize hst : rounds twoStep k (twoInit (runN 2 M j).1 p) = st at c0 c1 c2 c3 c4 c5 c6 c7 hx hsl
      by_cases hkR : (k : Int) < 64
      · have gk : w7.cell? ⟨w3.heap.size, k, none⟩ = some (.int .u32 (twoWd p k)) := by rw [hW7.numN (j := k) (by rw [rowN_len _ (Nat.le_refl _)]; omega), rowN_at _ (by omega)]
        have gt : w7.cell? ⟨kb, k, none⟩ = some (.int .u32 (at' k256 (k : Int))) := hK7.numN (j := k) (by rw [k256_len]; omega)
        have fin : ∀ (w8 : World) (ρ8 : Env) (x y : Int), twoX k (twoW k st.w) st.s = x → twoY st.s = y → ρ8 19 = .int .i64 ((k + 1 : Nat) : Int) → ρ8 11 = .int .u32 (s32 x y) → ρ8 12 = .int .u32 (at' st.s 0) → ρ8 13 = .int .u32 (at' st.s 1) → ρ8 14 = .int .u32 (at' st.s 2) → ρ8 15 = .int .u32 (s32 (at' st.s 3) x) → ρ8 16 = .int .u32 (at' st.s 4) → ρ8 17 = .int .u32 (at' st.s 5) → ρ8 18 = .int .u32 (at' st.s 6) →
            Blk w8 kb (nums .u32 k256) → Blk w8 sb (nums .u32 (runN 2 M j).1) → Blk w8 w3.heap.size (nums .u32 (rowN (twoWd p) 64 64)) → Below w.heap.size w w8 → endK N7 ρ8 w8 := by
          intro w8 ρ8 x y hx' hy' g1 d0 d1 d2 d3 d4 d5 d6 d7 g7 g8 g9 g10
          refine hN7 (64 - (k + 1)) _ _ (by omega) ⟨k + 1, g1, by omega, rfl, ?_⟩
          rw [rounds, hst, twoStep, hx', hy']
          exact ⟨d0, d1, d2, d3, d4, d5, d6, d7, g7, g8, g9, g10⟩
        clear hN7
        simp (disch := omega) only [EO, ↓EP, EQ, EM, ↓reduceIte, Int.reduceAdd, Int.reduceEq, Int.reduceLE, Int.reduceLT, Int.reduceMul, Int.reduceNeg, Int.reducePow, Int.reduceSub, Int.reduceToNat, Nat.reduceAdd, Nat.reduceEqDiff, Nat.reduceLT, Nat.reduceLeDiff, Nat.reduceMul, reduceCtorEq, W_join, h13, yS, yK, yW, c0, c1, c2, c3, c4, c5, c6, c7, gk, gt]
        refine right_q _ 6 (by omega) (by omega) _ _ ?_
        simp (disch := omega) only [EO, ↓EP, EQ, EM, ↓reduceIte, Int.reduceAdd, Int.reduceEq, Int.reduceLE, Int.reduceLT, Int.reduceMul, Int.reduceNeg, Int.reducePow, Int.reduceSub, Int.reduceToNat, Nat.reduceAdd, Nat.reduceEqDiff, Nat.reduceLT, Nat.reduceLeDiff, Nat.reduceMul, reduceCtorEq, h13, yS, yK, yW, c0, c1, c2, c3, c4, c5, c6, c7, gk, gt]
        refine right_q _ 11 (by omega) (by omega) _ _ ?_
        simp (disch := omega) only [EO, ↓EP, EQ, EM, ↓reduceIte, Int.reduceAdd, Int.reduceEq, Int.reduceLE, Int.reduceLT, Int.reduceMul, Int.reduceNeg, Int.reducePow, Int.reduceSub, Int.reduceToNat, Nat.reduceAdd, Nat.reduceEqDiff, Nat.reduceLT, Nat.reduceLeDiff, Nat.reduceMul, reduceCtorEq, h13, yS, yK, yW, c0, c1, c2, c3, c4, c5, c6, c7, gk, gt]
        refine right_q _ 25 (by omega) (by omega) _ _ ?_
        simp (disch := omega) only [EO, ↓EP, EQ, EM, ↓reduceIte, Int.reduceAdd, Int.reduceEq, Int.reduceLE, Int.reduceLT, Int.reduceMul, Int.reduceNeg, Int.reducePow, Int.reduceSub, Int.reduceToNat, Nat.reduceAdd, Nat.reduceEqDiff, Nat.reduceLT, Nat.reduceLeDiff, Nat.reduceMul, reduceCtorEq, h13, yS, yK, yW, c0, c1, c2, c3, c4, c5, c6, c7, gk, gt]
        intro m1
        refine right_d _ 2 (by omega) (by omega) _ _ fun m2 => ?_
        simp (disch := omega) only [EO, ↓EP, EQ, EM, ↓reduceIte, Int.reduceAdd, Int.reduceEq, Int.reduceLE, Int.reduceLT, Int.reduceMul, Int.reduceNeg, Int.reducePow, Int.reduceSub, Int.reduceToNat, Nat.reduceAdd, Nat.reduceEqDiff, Nat.reduceLT, Nat.reduceLeDiff, Nat.reduceMul, reduceCtorEq, h13, c0, c1, c2, c3, c4, c5, c6, c7]
        refine right_d _ 13 (by omega) (by omega) _ _ fun m3 => ?_
        simp (disch := omega) only [EO, ↓EP, EQ, EM, ↓reduceIte, Int.reduceAdd, Int.reduceEq, Int.reduceLE, Int.reduceLT, Int.reduceMul, Int.reduceNeg, Int.reducePow, Int.reduceSub, Int.reduceToNat, Nat.reduceAdd, Nat.reduceEqDiff, Nat.reduceLT, Nat.reduceLeDiff, Nat.reduceMul, reduceCtorEq, h13, c0, c1, c2, c3, c4, c5, c6, c7]
        refine right_d _ 22 (by omega) (by omega) _ _ fun m4 => ?_
        simp (disch := omega) only [EO, ↓EP, EQ, EM, ↓reduceIte, Int.reduceAdd, Int.reduceEq, Int.reduceLE, Int.reduceLT, Int.reduceMul, Int.reduceNeg, Int.reducePow, Int.reduceSub, Int.reduceToNat, Nat.reduceAdd, Nat.reduceEqDiff, Nat.reduceLT, Nat.reduceLeDiff, Nat.reduceMul, reduceCtorEq, h13, c0, c1, c2, c3, c4, c5, c6, c7]
        refine fin _ _ _ _ ?_ ?_ (by simp (disch := omega) only [EO, ↓EP, EQ, EM, ↓reduceIte, Int.reduceAdd, Int.reduceEq, Int.reduceLE, Int.reduceLT, Int.reduceMul, Int.reduceNeg, Int.reducePow, Int.reduceSub, Int.reduceToNat, Nat.reduceAdd, Nat.reduceEqDiff, Nat.reduceLT, Nat.reduceLeDiff, Nat.reduceMul, reduceCtorEq, h13, Int.natCast_add]) (by simp (disch := omega) only [EO, ↓EP, EQ, EM, ↓reduceIte, Int.reduceAdd, Int.reduceEq, Int.reduceLE, Int.reduceLT, Int.reduceMul, Int.reduceNeg, Int.reducePow, Int.reduceSub, Int.reduceToNat, Nat.reduceAdd, Nat.reduceEqDiff, Nat.reduceLT, Nat.reduceLeDiff, Nat.reduceMul, reduceCtorEq]; rfl) (by simp (disch := omega) only [EO, ↓EP, EQ, EM, ↓reduceIte, Int.reduceAdd, Int.reduceEq, Int.reduceLE, Int.reduceLT, Int.reduceMul, Int.reduceNeg, Int.reducePow, Int.reduceSub, Int.reduceToNat, Nat.reduceAdd, Nat.reduceEqDiff, Nat.reduceLT, Nat.reduceLeDiff, Nat.reduceMul, reduceCtorEq, c0]) (by simp (disch := omega) only [EO, ↓EP, EQ, EM, ↓reduceIte, Int.reduceAdd, Int.reduceEq, Int.reduceLE, Int.reduceLT, Int.reduceMul, Int.reduceNeg, Int.reducePow, Int.reduceSub, Int.reduceToNat, Nat.reduceAdd, Nat.reduceEqDiff, Nat.reduceLT, Nat.reduceLeDiff, Nat.reduceMul, reduceCtorEq, c1]) (by simp (disch := omega) only [EO, ↓EP, EQ, EM, ↓reduceIte, Int.reduceAdd, Int.reduceEq, Int.reduceLE, Int.reduceLT, Int.reduceMul, Int.reduceNeg, Int.reducePow, Int.reduceSub, Int.reduceToNat, Nat.reduceAdd, Nat.reduceEqDiff, Nat.reduceLT, Nat.reduceLeDiff, Nat.reduceMul, reduceCtorEq, c2]) (by simp (disch := omega) only [EO, ↓EP, EQ, EM, ↓reduceIte, Int.reduceAdd, Int.reduceEq, Int.reduceLE, Int.reduceLT, Int.reduceMul, Int.reduceNeg, Int.reducePow, Int.reduceSub, Int.reduceToNat, Nat.reduceAdd, Nat.reduceEqDiff, Nat.reduceLT, Nat.reduceLeDiff, Nat.reduceMul, reduceCtorEq, c3]; rfl) (by simp (disch := omega) only [EO, ↓EP, EQ, EM, ↓reduceIte, Int.reduceAdd, Int.reduceEq, Int.reduceLE, Int.reduceLT, Int.reduceMul, Int.reduceNeg, Int.reducePow, Int.reduceSub, Int.reduceToNat, Nat.reduceAdd, Nat.reduceEqDiff, Nat.reduceLT, Nat.reduceLeDiff, Nat.reduceMul, reduceCtorEq, c4]) (by simp (disch := omega) only [EO, ↓EP, EQ, EM, ↓reduceIte, Int.reduceAdd, Int.reduceEq, Int.reduceLE, Int.reduceLT, Int.reduceMul, Int.reduceNeg, Int.reducePow, Int.reduceSub, Int.reduceToNat, Nat.reduceAdd, Nat.reduceEqDiff, Nat.reduceLT, Nat.reduceLeDiff, Nat.reduceMul, reduceCtorEq, c5]) (by simp (disch := omega) only [EO, ↓EP, EQ, EM, ↓reduceIte, Int.reduceAdd, Int.reduceEq, Int.reduceLE, Int.reduceLT, Int.reduceMul, Int.reduceNeg, Int.reducePow, Int.reduceSub, Int.reduceToNat, Nat.reduceAdd, Nat.reduceEqDiff, Nat.reduceLT, Nat.reduceLeDiff, Nat.reduceMul, reduceCtorEq, c6]) (hK7.drewN _) (hS7.drewN _) (hW7.drewN _) (below_drewN' b7 _)
        · rw [twoX, hx, not_u32, chx32]
          rfl
        · rw [twoY, majx32]
          rfl
      · have hkR' : k = 64 := by omega
        subst hkR'
        clear hN7
        have g : ∀ i : Nat, i < 8 → w7.cell? ⟨sb, i, none⟩ = some (.int .u32 (at' (runN 2 M j).1 (i : Int))) := fun i hi => hS7.numN (j := i) (by omega)
        have a0 := g 0 (by omega)
        have a1 := g 1 (by omega)
        have a2 := g 2 (by omega)
        have a3 := g 3 (by omega)
        have a4 := g 4 (by omega)
        have a5 := g 5 (by omega)
        have a6 := g 6 (by omega)
        have a7 := g 7 (by omega)
        clear g
        simp (disch := omega) only [EO, ↓EP, EQ, EM, ↓reduceIte, Int.reduceAdd, Int.reduceEq, Int.reduceLE, Int.reduceLT, Int.reduceMul, Int.reduceNeg, Int.reducePow, Int.reduceSub, Int.reduceToNat, Nat.reduceAdd, Nat.reduceEqDiff, Nat.reduceLT, Nat.reduceLeDiff, Nat.reduceMul, reduceCtorEq, h13, y0, yS, yA, yW, c0, c1, c2, c3, c4, c5, c6, c7, a0, a1, a2, a3, a4, a5, a6, a7]
        refine ⟨_, fill8 _ _ _ _ _ _ _ _ _, ?_⟩
        simp (disch := omega) only [EO, ↓EP, EQ, EM, ↓reduceIte, Int.reduceAdd, Int.reduceEq, Int.reduceLE, Int.reduceLT, Int.reduceMul, Int.reduceNeg, Int.reducePow, Int.reduceSub, Int.reduceToNat, Nat.reduceAdd, Nat.reduceEqDiff, Nat.reduceLT, Nat.reduceLeDiff, Nat.reduceMul, reduceCtorEq, y0, yS, yA]
        refine st_whole hS7 (by rw [nums_length]; rfl) (by rw [nums_length, hH8]) (nums_one _ _) fun w8 p8 => ?_
        simp (disch := omega) only [EO, ↓EP, EQ, EM, ↓reduceIte, Int.reduceAdd, Int.reduceEq, Int.reduceLE, Int.reduceLT, Int.reduceMul, Int.reduceNeg, Int.reducePow, Int.reduceSub, Int.reduceToNat, Nat.reduceAdd, Nat.reduceEqDiff, Nat.reduceLT, Nat.reduceLeDiff, Nat.reduceMul, reduceCtorEq, yA]
        refine hN (M.length - 64 * (j + 1)) _ _ (by omega) ⟨j + 1, by simp (disch := omega) only [EO, ↓EP, EQ, EM, ↓reduceIte, Int.reduceAdd, Int.reduceEq, Int.reduceLE, Int.reduceLT, Int.reduceMul, Int.reduceNeg, Int.reducePow, Int.reduceSub, Int.reduceToNat, Nat.reduceAdd, Nat.reduceEqDiff, Nat.reduceLT, Nat.reduceLeDiff, Nat.reduceMul, reduceCtorEq, yA]; congr 1, by omega, rfl, p8.keep (by omega) hK7, ?_, ?_⟩
        · have e := run2_succ M j
          rw [hpp] at e
          rw [e, two, two_all _ _ hH8 (by rw [hst]; exact hsl), hst]
          exact p8.blk
        · exact ekb ▸ p8.below (by omega) b7
  · have hje : M.length / 64 = j := by omega
    simp (disch := omega) only [EO, ↓EP, EQ, EM, ↓reduceIte, Int.reduceAdd, Int.reduceEq, Int.reduceLE, Int.reduceLT, Int.reduceMul, Int.reduceNeg, Int.reducePow, Int.reduceSub, Int.reduceToNat, Nat.reduceAdd, Nat.reduceEqDiff, Nat.reduceLT, Nat.reduceLeDiff, Nat.reduceMul, reduceCtorEq, h4, r0, rS]
    clear hN
    rw [hje] at hK
    have hH8 : (runN 2 M j).1.length = 8 := run2_len M j
    have f3 : Fr w w3 nob := fr_of b3 ekb
    refine loop_inv (fun t ρ w' => ∃ (i : Nat) (O : Value), ρ 23 = .int .i64 i ∧ ρ 22 = O ∧ i ≤ 8 ∧ t = 8 - i ∧ Gw .u8 w3 w' O ((List.range i).flatMap fun (i : Nat) => Spec.w4 (at' (runN 2 M j).1 (i : Int)))) 8 ⟨0, .slice none 0 0, by simp (disch := omega) only [EO, ↓EP, EQ, EM, ↓reduceIte, Int.reduceAdd, Int.reduceEq, Int.reduceLE, Int.reduceLT, Int.reduceMul, Int.reduceNeg, Int.reducePow, Int.reduceSub, Int.reduceToNat, Nat.reduceAdd, Nat.reduceEqDiff, Nat.reduceLT, Nat.reduceLeDiff, Nat.reduceMul, reduceCtorEq], by simp (disch := omega) only [EO, ↓EP, EQ, EM, ↓reduceIte, Int.reduceAdd, Int.reduceEq, Int.reduceLE, Int.reduceLT, Int.reduceMul, Int.reduceNeg, Int.reducePow, Int.reduceSub, Int.reduceToNat, Nat.reduceAdd, Nat.reduceEqDiff, Nat.reduceLT, Nat.reduceLeDiff, Nat.reduceMul, reduceCtorEq], by omega, by omega, Gw.nil _ _⟩ ?_
    rintro t ρ8 w8 hf ⟨i, O, h18, h17, hi, rfl, G⟩ N hN
    have q3 : ρ8 4 = .pointer (some ⟨sb, 0, none⟩) := by rw [hf 4 rfl]; simp (disch := omega) only [EO, ↓EP, EQ, EM, ↓reduceIte, Int.reduceAdd, Int.reduceEq, Int.reduceLE, Int.reduceLT, Int.reduceMul, Int.reduceNeg, Int.reducePow, Int.reduceSub, Int.reduceToNat, Nat.reduceAdd, Nat.reduceEqDiff, Nat.reduceLT, Nat.reduceLeDiff, Nat.reduceMul, reduceCtorEq, rS]
    clear hf
    by_cases hi5 : (i : Int) < 8
    · have hcw : w8.cell? ⟨sb, i, none⟩ = some (.int .u32 (at' (runN 2 M j).1 (i : Int))) := (hSb.nb G.fr).numN (j := i) (by omega)
      have hgl := flat_len (f := fun (i : Nat) => Spec.w4 (at' (runN 2 M j).1 (i : Int))) (n := 4) (fun _ => rfl) i
      simp (disch := omega) only [EO, ↓EP, EQ, EM, ↓reduceIte, Int.reduceAdd, Int.reduceEq, Int.reduceLE, Int.reduceLT, Int.reduceMul, Int.reduceNeg, Int.reducePow, Int.reduceSub, Int.reduceToNat, Nat.reduceAdd, Nat.reduceEqDiff, Nat.reduceLT, Nat.reduceLeDiff, Nat.reduceMul, reduceCtorEq, h18, h17, q3, hcw]
      intro m1
      have G1 := G.drewN (1 + m1)
      refine bsl4 fun w9 n9 => ?_
      have G2 := G1.new n9
      simp (disch := omega) only [EO, ↓EP, EQ, EM, ↓reduceIte, Int.reduceAdd, Int.reduceEq, Int.reduceLE, Int.reduceLT, Int.reduceMul, Int.reduceNeg, Int.reducePow, Int.reduceSub, Int.reduceToNat, Nat.reduceAdd, Nat.reduceEqDiff, Nat.reduceLT, Nat.reduceLeDiff, Nat.reduceMul, reduceCtorEq, h17]
      intro m2
      refine app_num (G2.drewN m2).sl rfl (n9.rdl.drewN m2) (by rw [hgl]; simp only [List.length_cons, List.length_nil]; omega) (by omega) fun v10 w10 a10 => ?_
      have G3 := (G2.drewN m2).apd a10
      simp (disch := omega) only [EO, ↓EP, EQ, EM, ↓reduceIte, Int.reduceAdd, Int.reduceEq, Int.reduceLE, Int.reduceLT, Int.reduceMul, Int.reduceNeg, Int.reducePow, Int.reduceSub, Int.reduceToNat, Nat.reduceAdd, Nat.reduceEqDiff, Nat.reduceLT, Nat.reduceLeDiff, Nat.reduceMul, reduceCtorEq, h18]
      intro m3
      refine hN (8 - (i + 1)) _ _ (by omega) ⟨i + 1, v10, by simp (disch := omega) only [EO, ↓EP, EQ, EM, ↓reduceIte, Int.reduceAdd, Int.reduceEq, Int.reduceLE, Int.reduceLT, Int.reduceMul, Int.reduceNeg, Int.reducePow, Int.reduceSub, Int.reduceToNat, Nat.reduceAdd, Nat.reduceEqDiff, Nat.reduceLT, Nat.reduceLeDiff, Nat.reduceMul, reduceCtorEq, h18, Int.natCast_add], by simp (disch := omega) only [EO, ↓EP, EQ, EM, ↓reduceIte, Int.reduceAdd, Int.reduceEq, Int.reduceLE, Int.reduceLT, Int.reduceMul, Int.reduceNeg, Int.reducePow, Int.reduceSub, Int.reduceToNat, Nat.reduceAdd, Nat.reduceEqDiff, Nat.reduceLT, Nat.reduceLeDiff, Nat.reduceMul, reduceCtorEq], by omega, rfl, ?_⟩
      rw [flat_succ]
      exact G3.drewN m3
    · have hie : i = 8 := by omega
      subst hie
      simp (disch := omega) only [EO, ↓EP, EQ, EM, ↓reduceIte, Int.reduceAdd, Int.reduceEq, Int.reduceLE, Int.reduceLT, Int.reduceMul, Int.reduceNeg, Int.reducePow, Int.reduceSub, Int.reduceToNat, Nat.reduceAdd, Nat.reduceEqDiff, Nat.reduceLT, Nat.reduceLeDiff, Nat.reduceMul, reduceCtorEq, h18, h17]
      exact hK O w8 (G.from (fw.nb f3))
end Go.Proofs.YtibccpfocbdmaaaDoor.Spec
