/- The digests: those that are known. -/
import Derived.Test.YtibccpfocbdmaaaDoorCodeL
import Derived.Test.YtibccpfocbdmaaaDoorDigL
set_option linter.unusedVariables false
set_option linter.unusedSimpArgs false
namespace Go.Proofs.YtibccpfocbdmaaaDoor.Spec
open Go Go.RowKit Go.Proofs Go.Proofs.YtibccpfocbdmaaaDoor.Eng Go.Proofs.YtibccpfocbdmaaaDoor.Code
set_option maxRecDepth 100000
attribute [local irreducible] one
def long : List Int := [97, 98, 99, 100, 98, 99, 100, 101, 99, 100, 101, 102, 100, 101, 102, 103, 101, 102, 103, 104, 102, 103, 104, 105, 103, 104, 105, 106, 104, 105, 106, 107, 105, 106, 107, 108, 106, 107, 108, 109, 107, 108, 109, 110, 108, 109, 110, 111, 109, 110, 111, 112, 110, 111, 112, 113]
theorem bslL {e : Nat} {w : World} {K : Value → World → Prop} (hK : ∀ w', New w w' (nums .u8 long) → K (.slice (some ⟨w.heap.size, 0, none⟩) 56 56) w') : bslT e 1 56 #[.int .u8 0] [(0, .int .u8 97), (1, .int .u8 98), (2, .int .u8 99), (3, .int .u8 100), (4, .int .u8 98), (5, .int .u8 99), (6, .int .u8 100), (7, .int .u8 101), (8, .int .u8 99), (9, .int .u8 100), (10, .int .u8 101), (11, .int .u8 102), (12, .int .u8 100), (13, .int .u8 101), (14, .int .u8 102), (15, .int .u8 103), (16, .int .u8 101), (17, .int .u8 102), (18, .int .u8 103), (19, .int .u8 104), (20, .int .u8 102), (21, .int .u8 103), (22, .int .u8 104), (23, .int .u8 105), (24, .int .u8 103), (25, .int .u8 104), (26, .int .u8 105), (27, .int .u8 106), (28, .int .u8 104), (29, .int .u8 105), (30, .int .u8 106), (31, .int .u8 107), (32, .int .u8 105), (33, .int .u8 106), (34, .int .u8 107), (35, .int .u8 108), (36, .int .u8 106), (37, .int .u8 107), (38, .int .u8 108), (39, .int .u8 109), (40, .int .u8 107), (41, .int .u8 108), (42, .int .u8 109), (43, .int .u8 110), (44, .int .u8 108), (45, .int .u8 109), (46, .int .u8 110), (47, .int .u8 111), (48, .int .u8 109), (49, .int .u8 110), (50, .int .u8 111), (51, .int .u8 112), (52, .int .u8 110), (53, .int .u8 111), (54, .int .u8 112), (55, .int .u8 113)] w K .mk :=
  ⟨(nums .u8 long).toArray, by kernel_rfl, hK _ (new_of rfl (by simp))⟩
theorem s1 : ((strOfNums ((dig 2 []).take 8)).toList == (⟨#[227, 176, 196, 66, 152, 252, 28, 20]⟩ : ByteArray).toList) = true := by decide +kernel
theorem s2 : ((strOfNums ((dig 3 [97, 98, 99]).take 8)).toList == (⟨#[203, 0, 117, 63, 69, 163, 94, 139]⟩ : ByteArray).toList) = true := by decide +kernel
theorem s3 : ((strOfNums ((dig 4 [97, 98, 99]).take 8)).toList == (⟨#[221, 175, 53, 161, 147, 97, 122, 186]⟩ : ByteArray).toList) = true := by decide +kernel
theorem s4 : ((strOfNums ((dig 2 long).take 8)).toList == (⟨#[36, 141, 106, 97, 210, 6, 56, 184]⟩ : ByteArray).toList) = true := by decide +kernel
theorem dig_len {alg : Int} (a1 : 1 ≤ alg) (a4 : alg ≤ 4) (m : List Int) : (dig alg m).length = (sizeI alg).toNat := by
  have := out_len a1 a4 (last alg m)
  rw [dig, List.length_take]; omega
theorem take8 {alg : Int} (a1 : 1 ≤ alg) (a4 : alg ≤ 4) (m : List Int) : ((dig alg m).take 8).length = 8 := by
  have c : alg = 1 ∨ alg = 2 ∨ alg = 3 ∨ alg = 4 := by omega
  rw [List.length_take, dig_len a1 a4]
  rcases c with rfl | rfl | rfl | rfl <;> decide
attribute [irreducible] long
attribute [local irreducible] dig

set_option maxHeartbeats 2000000 in
theorem known_spec {w : World} (hT : Tb w) (K : Value → World → Prop) (hK : ∀ w', Fr w w' nob → K (.bool true) w') : callK Tryd.prog 5 [] w K := by
  refine call_of Tryd.func5 Code.h5 (by simp [Code.c5]) ?_
  simp only [Code.c5, ↓EP, EQ, EM, ↓reduceIte, Int.reduceAdd, Int.reduceEq, Int.reduceLE, Int.reduceLT, Int.reduceMul, Int.reduceNeg, Int.reducePow, Int.reduceSub, Int.reduceToNat, Nat.reduceAdd, Nat.reduceEqDiff, Nat.reduceLT, Nat.reduceLeDiff, Nat.reduceMul, reduceCtorEq]
  refine dsum_spec 2 (LL.none w) hT (by simp [total]) (by simp) _ (fun _ _ B1 c1 w1 hc1 hsl1 _ f1 => ?_) (fun h => by omega)
  rw [List.flatten_nil] at hsl1
  have T1 := hT.fr f1 (fun x => x) (fun x => x)
  rw [size2] at hc1
  simp only [↓EP, EQ, EM, ↓reduceIte, Int.reduceAdd, Int.reduceEq, Int.reduceLE, Int.reduceLT, Int.reduceMul, Int.reduceNeg, Int.reducePow, Int.reduceSub, Int.reduceToNat, Nat.reduceAdd, Nat.reduceEqDiff, Nat.reduceLT, Nat.reduceLeDiff, Nat.reduceMul, reduceCtorEq, size2] at hc1 ⊢
  refine bsl3 fun u2 n2 => ?_
  simp only [↓EP, EQ, EM, ↓reduceIte, Int.reduceAdd, Int.reduceEq, Int.reduceLE, Int.reduceLT, Int.reduceMul, Int.reduceNeg, Int.reducePow, Int.reduceSub, Int.reduceToNat, Nat.reduceAdd, Nat.reduceEqDiff, Nat.reduceLT, Nat.reduceLeDiff, Nat.reduceMul, reduceCtorEq, ↓i_cvidT]
  refine cvid_k n2.rdl fun v2 g2 r2 => ?_
  have p2 : Fr w1 v2 nob := (n2.fr nob).trans g2 fun x hx e => by omega
  simp only [↓EP, EQ, EM, ↓reduceIte, Int.reduceAdd, Int.reduceEq, Int.reduceLE, Int.reduceLT, Int.reduceMul, Int.reduceNeg, Int.reducePow, Int.reduceSub, Int.reduceToNat, Nat.reduceAdd, Nat.reduceEqDiff, Nat.reduceLT, Nat.reduceLeDiff, Nat.reduceMul, reduceCtorEq]
  refine bslS1 fun x2 m2 => ?_
  have q2 : Fr w1 x2 nob := p2.trans (m2.fr nob) fun _ _ e => e
  simp only [↓EP, EQ, EM, ↓reduceIte, Int.reduceAdd, Int.reduceEq, Int.reduceLE, Int.reduceLT, Int.reduceMul, Int.reduceNeg, Int.reducePow, Int.reduceSub, Int.reduceToNat, Nat.reduceAdd, Nat.reduceEqDiff, Nat.reduceLT, Nat.reduceLeDiff, Nat.reduceMul, reduceCtorEq]
  refine lit_sum 3 (by decide) (by decide) (T1.fr q2 (fun x => x) (fun x => x)) rfl (by decide) (m2.rd r2) m2.rdv _ fun B2 c2 w2 hc2 hr2 f2 => ?_
  have e2 : Fr w1 w2 nob := q2.trans f2 fun _ _ e => e
  have T2 := T1.fr e2 (fun x => x) (fun x => x)
  rw [size3] at hc2
  simp only [↓EP, EQ, EM, ↓reduceIte, Int.reduceAdd, Int.reduceEq, Int.reduceLE, Int.reduceLT, Int.reduceMul, Int.reduceNeg, Int.reducePow, Int.reduceSub, Int.reduceToNat, Nat.reduceAdd, Nat.reduceEqDiff, Nat.reduceLT, Nat.reduceLeDiff, Nat.reduceMul, reduceCtorEq, size3] at hc2 ⊢
  refine bsl3 fun u3 n3 => ?_
  simp only [↓EP, EQ, EM, ↓reduceIte, Int.reduceAdd, Int.reduceEq, Int.reduceLE, Int.reduceLT, Int.reduceMul, Int.reduceNeg, Int.reducePow, Int.reduceSub, Int.reduceToNat, Nat.reduceAdd, Nat.reduceEqDiff, Nat.reduceLT, Nat.reduceLeDiff, Nat.reduceMul, reduceCtorEq, ↓i_cvidT]
  refine cvid_k n3.rdl fun v3 g3 r3 => ?_
  have p3 : Fr w2 v3 nob := (n3.fr nob).trans g3 fun x hx e => by omega
  simp only [↓EP, EQ, EM, ↓reduceIte, Int.reduceAdd, Int.reduceEq, Int.reduceLE, Int.reduceLT, Int.reduceMul, Int.reduceNeg, Int.reducePow, Int.reduceSub, Int.reduceToNat, Nat.reduceAdd, Nat.reduceEqDiff, Nat.reduceLT, Nat.reduceLeDiff, Nat.reduceMul, reduceCtorEq]
  refine bslS1 fun x3 m3 => ?_
  have q3 : Fr w2 x3 nob := p3.trans (m3.fr nob) fun _ _ e => e
  simp only [↓EP, EQ, EM, ↓reduceIte, Int.reduceAdd, Int.reduceEq, Int.reduceLE, Int.reduceLT, Int.reduceMul, Int.reduceNeg, Int.reducePow, Int.reduceSub, Int.reduceToNat, Nat.reduceAdd, Nat.reduceEqDiff, Nat.reduceLT, Nat.reduceLeDiff, Nat.reduceMul, reduceCtorEq]
  refine lit_sum 4 (by decide) (by decide) (T2.fr q3 (fun x => x) (fun x => x)) rfl (by decide) (m3.rd r3) m3.rdv _ fun B3 c3 w3 hc3 hr3 f3 => ?_
  have e3 : Fr w2 w3 nob := q3.trans f3 fun _ _ e => e
  have T3 := T2.fr e3 (fun x => x) (fun x => x)
  rw [size4] at hc3
  simp only [↓EP, EQ, EM, ↓reduceIte, Int.reduceAdd, Int.reduceEq, Int.reduceLE, Int.reduceLT, Int.reduceMul, Int.reduceNeg, Int.reducePow, Int.reduceSub, Int.reduceToNat, Nat.reduceAdd, Nat.reduceEqDiff, Nat.reduceLT, Nat.reduceLeDiff, Nat.reduceMul, reduceCtorEq, size4] at hc3 ⊢
  refine bslL fun u4 n4 => ?_
  simp only [↓EP, EQ, EM, ↓reduceIte, Int.reduceAdd, Int.reduceEq, Int.reduceLE, Int.reduceLT, Int.reduceMul, Int.reduceNeg, Int.reducePow, Int.reduceSub, Int.reduceToNat, Nat.reduceAdd, Nat.reduceEqDiff, Nat.reduceLT, Nat.reduceLeDiff, Nat.reduceMul, reduceCtorEq, ↓i_cvidT]
  refine cvid_k n4.rdl fun v4 g4 r4 => ?_
  have p4 : Fr w3 v4 nob := (n4.fr nob).trans g4 fun x hx e => by omega
  simp only [↓EP, EQ, EM, ↓reduceIte, Int.reduceAdd, Int.reduceEq, Int.reduceLE, Int.reduceLT, Int.reduceMul, Int.reduceNeg, Int.reducePow, Int.reduceSub, Int.reduceToNat, Nat.reduceAdd, Nat.reduceEqDiff, Nat.reduceLT, Nat.reduceLeDiff, Nat.reduceMul, reduceCtorEq]
  refine bslS1 fun x4 m4 => ?_
  have q4 : Fr w3 x4 nob := p4.trans (m4.fr nob) fun _ _ e => e
  simp only [↓EP, EQ, EM, ↓reduceIte, Int.reduceAdd, Int.reduceEq, Int.reduceLE, Int.reduceLT, Int.reduceMul, Int.reduceNeg, Int.reducePow, Int.reduceSub, Int.reduceToNat, Nat.reduceAdd, Nat.reduceEqDiff, Nat.reduceLT, Nat.reduceLeDiff, Nat.reduceMul, reduceCtorEq]
  refine lit_sum 2 (by decide) (by decide) (T3.fr q4 (fun x => x) (fun x => x)) (by unfold long; rfl) (by unfold long; decide) (m4.rd r4) m4.rdv _ fun B4 c4 w4 hc4 hr4 f4 => ?_
  have e4 : Fr w3 w4 nob := q4.trans f4 fun _ _ e => e
  have T4 := T3.fr e4 (fun x => x) (fun x => x)
  rw [size2] at hc4
  simp only [↓EP, EQ, EM, ↓reduceIte, Int.reduceAdd, Int.reduceEq, Int.reduceLE, Int.reduceLT, Int.reduceMul, Int.reduceNeg, Int.reducePow, Int.reduceSub, Int.reduceToNat, Nat.reduceAdd, Nat.reduceEqDiff, Nat.reduceLT, Nat.reduceLeDiff, Nat.reduceMul, reduceCtorEq, size2] at hc4 ⊢
  have R1 := hsl1.rdOf.fr ((e2.trans e3 fun _ _ e => e).trans e4 fun _ _ e => e) (.inr fun _ _ x => x)
  have R2 := hr2.fr (e3.trans e4 fun _ _ e => e) (.inr fun _ _ x => x)
  have R3 := hr3.fr e4 (.inr fun _ _ x => x)
  simp (disch := omega) only [EO, ↓EP, EQ, EM, ↓reduceIte, Int.reduceAdd, Int.reduceEq, Int.reduceLE, Int.reduceLT, Int.reduceMul, Int.reduceNeg, Int.reducePow, Int.reduceSub, Int.reduceToNat, Nat.reduceAdd, Nat.reduceEqDiff, Nat.reduceLT, Nat.reduceLeDiff, Nat.reduceMul, reduceCtorEq, size2, size3, size4, ↓i_cvbsJ]
  refine cvbs_k (R1.take 8) (take8 (by decide) (by decide) _) ?_
  try simp only [↓EP, EQ, EM, ↓reduceIte, Int.reduceAdd, Int.reduceEq, Int.reduceLE, Int.reduceLT, Int.reduceMul, Int.reduceNeg, Int.reducePow, Int.reduceSub, Int.reduceToNat, Nat.reduceAdd, Nat.reduceEqDiff, Nat.reduceLT, Nat.reduceLeDiff, Nat.reduceMul, reduceCtorEq]
  refine eql_k s1 ?_
  simp (disch := omega) only [EO, ↓EP, EQ, EM, ↓reduceIte, Int.reduceAdd, Int.reduceEq, Int.reduceLE, Int.reduceLT, Int.reduceMul, Int.reduceNeg, Int.reducePow, Int.reduceSub, Int.reduceToNat, Nat.reduceAdd, Nat.reduceEqDiff, Nat.reduceLT, Nat.reduceLeDiff, Nat.reduceMul, reduceCtorEq, size2, size3, size4, ↓i_cvbsJ]
  refine cvbs_k (R2.take 8) (take8 (by decide) (by decide) _) ?_
  try simp only [↓EP, EQ, EM, ↓reduceIte, Int.reduceAdd, Int.reduceEq, Int.reduceLE, Int.reduceLT, Int.reduceMul, Int.reduceNeg, Int.reducePow, Int.reduceSub, Int.reduceToNat, Nat.reduceAdd, Nat.reduceEqDiff, Nat.reduceLT, Nat.reduceLeDiff, Nat.reduceMul, reduceCtorEq]
  refine eql_k s2 ?_
  simp (disch := omega) only [EO, ↓EP, EQ, EM, ↓reduceIte, Int.reduceAdd, Int.reduceEq, Int.reduceLE, Int.reduceLT, Int.reduceMul, Int.reduceNeg, Int.reducePow, Int.reduceSub, Int.reduceToNat, Nat.reduceAdd, Nat.reduceEqDiff, Nat.reduceLT, Nat.reduceLeDiff, Nat.reduceMul, reduceCtorEq, size2, size3, size4, ↓i_cvbsJ]
  refine cvbs_k (R3.take 8) (take8 (by decide) (by decide) _) ?_
  try simp only [↓EP, EQ, EM, ↓reduceIte, Int.reduceAdd, Int.reduceEq, Int.reduceLE, Int.reduceLT, Int.reduceMul, Int.reduceNeg, Int.reducePow, Int.reduceSub, Int.reduceToNat, Nat.reduceAdd, Nat.reduceEqDiff, Nat.reduceLT, Nat.reduceLeDiff, Nat.reduceMul, reduceCtorEq]
  refine eql_k s3 ?_
  simp (disch := omega) only [EO, ↓EP, EQ, EM, ↓reduceIte, Int.reduceAdd, Int.reduceEq, Int.reduceLE, Int.reduceLT, Int.reduceMul, Int.reduceNeg, Int.reducePow, Int.reduceSub, Int.reduceToNat, Nat.reduceAdd, Nat.reduceEqDiff, Nat.reduceLT, Nat.reduceLeDiff, Nat.reduceMul, reduceCtorEq, size2, size3, size4, ↓i_cvbsJ]
  refine cvbs_k (hr4.take 8) (take8 (by decide) (by decide) _) ?_
  try simp only [↓EP, EQ, EM, ↓reduceIte, Int.reduceAdd, Int.reduceEq, Int.reduceLE, Int.reduceLT, Int.reduceMul, Int.reduceNeg, Int.reducePow, Int.reduceSub, Int.reduceToNat, Nat.reduceAdd, Nat.reduceEqDiff, Nat.reduceLT, Nat.reduceLeDiff, Nat.reduceMul, reduceCtorEq]
  refine eql_k s4 ?_
  simp (disch := omega) only [EO, ↓EP, EQ, EM, ↓reduceIte, Int.reduceAdd, Int.reduceEq, Int.reduceLE, Int.reduceLT, Int.reduceMul, Int.reduceNeg, Int.reducePow, Int.reduceSub, Int.reduceToNat, Nat.reduceAdd, Nat.reduceEqDiff, Nat.reduceLT, Nat.reduceLeDiff, Nat.reduceMul, reduceCtorEq, size2, size3, size4, ↓i_cvbsJ]
  refine live_spec T4 _ fun w5 f5 => ?_
  simp only [↓EP, EQ, EM, ↓reduceIte, Int.reduceAdd, Int.reduceEq, Int.reduceLE, Int.reduceLT, Int.reduceMul, Int.reduceNeg, Int.reducePow, Int.reduceSub, Int.reduceToNat, Nat.reduceAdd, Nat.reduceEqDiff, Nat.reduceLT, Nat.reduceLeDiff, Nat.reduceMul, reduceCtorEq]
  exact hK w5 ((((f1.trans e2 fun _ _ e => e).trans e3 fun _ _ e => e).trans e4 fun _ _ e => e).trans f5 fun _ _ e => e)
end Go.Proofs.YtibccpfocbdmaaaDoor.Spec
