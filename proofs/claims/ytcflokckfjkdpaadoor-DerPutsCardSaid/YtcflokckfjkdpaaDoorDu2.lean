/- The page's examples, walked. -/
import Derived.Test.YtcflokckfjkdpaaDoorDu1
import Derived.Test.YtcflokckfjkdpaaDoorCodeL
set_option linter.unusedVariables false
set_option linter.unusedSimpArgs false
namespace Go.Proofs.YtcflokckfjkdpaaDoor.Der
open Go Go.RowKit Go.Proofs Go.Proofs.YtcflokckfjkdpaaDoor.Eng Go.Proofs.YtcflokckfjkdpaaDoor.Code
set_option maxRecDepth 100000
attribute [local irreducible] callK S.W opsW scrW scrT

theorem num_vw {w : World} {e : Int} (K : Value → World → Prop) (hK : K (.int .i64 e) w) : callK Tryd.prog 19 [.int .i64 e] w K := by
  refine call_of Tryd.func19 Code.h19 (by simp [Code.c19]) ?_
  simp (disch := omega) only [wu64, wu32, wu8, fdiv_nn, EO, ↓EP, EQ, EM, ↓reduceIte, Int.reduceAdd, Int.reduceEq, Int.reduceLE, Int.reduceLT, Int.reduceMul, Int.reduceNeg, Int.reducePow, Int.reduceSub, Int.reduceToNat, Nat.reduceAdd, Nat.reduceEqDiff, Nat.reduceLT, Nat.reduceLeDiff, Nat.reduceMul, reduceCtorEq, Code.c19]
  exact hK
theorem bsl7 {k : IntKind} {e : Nat} {a b c d x y z : Int} {w : World} {K : Value → World → Prop} (hK : ∀ w', New w w' (nums k [a, b, c, d, x, y, z]) → K (.slice (some ⟨w.heap.size, 0, none⟩) 7 7) w') : bslT e 1 7 #[.int k 0] [(0, .int k a), (1, .int k b), (2, .int k c), (3, .int k d), (4, .int k x), (5, .int k y), (6, .int k z)] w K .mk :=
  ⟨#[.int k a, .int k b, .int k c, .int k d, .int k x, .int k y, .int k z], by kernel_rfl, hK _ (new_of rfl rfl)⟩
theorem s7 : splitR [2, 1, 5, 48, 2, 5, 0] = ([⟨0, 2, false, [5], [2, 1, 5]⟩, ⟨0, 16, true, [5, 0], [48, 2, 5, 0]⟩], 0, 7) := by decide +kernel
theorem x_int : intR [255, 127] = (-129, 0) := by decide +kernel
theorem x_oid : oidR [42, 134, 72] = ([49, 46, 50, 46, 56, 52, 48], 0) := by decide +kernel
theorem x_put : putOidR (ints [50, 46, 57, 57, 57]) = ([136, 55], 0) := by decide +kernel
theorem x_flags : flagsR [5, 160] = (5, 0) := by decide +kernel
theorem x_uint : uintR [128] = ([], 40) := by decide +kernel
theorem e_50 : ((strOfNums [5, 0]).toList == (⟨#[5, 0]⟩ : ByteArray).toList) = true := by decide +kernel
theorem e_put : ((strOfNums [136, 55]).toList == (⟨#[136, 55]⟩ : ByteArray).toList) = true := by decide +kernel
theorem e_oid : ((S [49, 46, 50, 46, 56, 52, 48]).toList == (⟨#[49, 46, 50, 46, 56, 52, 48]⟩ : ByteArray).toList) = true := by decide +kernel
theorem lit_vw {w w' : World} {l : List Int} {n : Nat} (hn : l.length = n) (h : New w w' (nums .u8 l)) : Vw .u8 w' (.slice (some ⟨w.heap.size, 0, none⟩) n n) l := Vw.of hn (Nat.le_refl _) h.rdv
theorem addr_add (p : Addr) (i j : Nat) : (p.add i).add j = p.add (i + j) := by
  by_cases hi : i = 0
  · subst hi; simp [Addr.add]
  · by_cases hj : j = 0
    · subst hj; simp [Addr.add]
    · simp [Addr.add, hi, hj, Nat.add_assoc]
theorem l_int {w w' : World} (n : New w w' (nums .u8 [255, 127])) (K : Value → World → Prop) (hK : K (pr2 (.int .i64 (-129)) 0) w') : callK Tryd.prog 33 [.slice (some ⟨w.heap.size, 0, none⟩) 2 2] w' K := by
  refine int_vw (lit_vw (n := 2) rfl n) (ByteL.of (by decide)) (by simp) K ?_
  rw [x_int]; exact hK
theorem l_oid {w w' : World} (n : New w w' (nums .u8 [42, 134, 72])) (hT : TbP w') (K : Value → World → Prop) (hK : ∀ w2, Fr w' w2 nob → K (prs ([49, 46, 50, 46, 56, 52, 48], 0)) w2) : callK Tryd.prog 21 [.slice (some ⟨w.heap.size, 0, none⟩) 3 3] w' K := by
  refine oid_vw (lit_vw (n := 3) rfl n) (ByteL.of (by decide)) hT (by simp) K ?_
  rw [x_oid]; exact hK
theorem l_put {w : World} (K : Value → World → Prop) (hK : ∀ A c w', Gw .u8 w w' (.slice A 2 c) [136, 55] → K (pr2 (.slice A 2 c) 0) w') : callK Tryd.prog 23 [.string ⟨#[50, 46, 57, 57, 57]⟩] w K := by
  refine putoid_vw (u := [50, 46, 57, 57, 57]) (by simp) K ?_
  rw [x_put]
  intro v w' g
  obtain ⟨A, c, rfl, _, _⟩ := readn g.sl rfl
  exact hK _ _ _ g
theorem l_flags {w w' : World} (n : New w w' (nums .u8 [5, 160])) (K : Value → World → Prop) (hK : ∀ w2, Fr w' w2 nob → K (pr2 (.int .u32 5) 0) w2) : callK Tryd.prog 16 [.slice (some ⟨w.heap.size, 0, none⟩) 2 2] w' K := by
  refine flags_vw (lit_vw (n := 2) rfl n) (ByteL.of (by decide)) (by simp) K ?_
  rw [x_flags]; exact hK
theorem l_uint {w w' : World} (n : New w w' (nums .u8 [128])) (K : Value → World → Prop) (hK : ∀ v w2, Fr w' w2 nob → K (pr2 v 40) w2) : callK Tryd.prog 35 [.slice (some ⟨w.heap.size, 0, none⟩) 1 1] w' K := by
  refine uint_vw (lit_vw (n := 1) rfl n) (ByteL.of (by decide)) (by simp) K ?_
  rw [x_uint]
  exact fun v w2 g => hK v w2 g.fr
theorem l_split {w w' : World} (n : New w w' (nums .u8 [2, 1, 5, 48, 2, 5, 0])) (K : Value → World → Prop) (hK : ∀ ad c dA dc w2, Fr w' w2 nob → 2 ≤ c → Rd w2 dA (nums .u8 [5, 0]) → w2.cell? (ad.add 1) = some (.int .i64 2) → w2.cell? (ad.add 8) = some (.slice dA 2 dc) → w2.cell? (ad.add 7) = some (.bool true) →
    K (tup3 (.slice (some ad) 2 c) 0 7) w2) : callK Tryd.prog 25 [.slice (some ⟨w.heap.size, 0, none⟩) 7 7] w' K := by
  refine split_vw (lit_vw (n := 7) rfl n) (ByteL.of (by decide)) (by simp) K ?_
  rw [s7]
  intro X vs w2 T
  have hvl := T.vlen
  obtain ⟨A, c, rfl, hc, hr⟩ := T.g.sl.read
  match vs, hvl with
  | [d1, r1, d2, r2], _ =>
  have hdata := T.r.each 2 d2 [5, 0] rfl rfl
  obtain ⟨dA, dc, rfl, hdc, hdr⟩ := readn hdata rfl
  obtain ⟨ad, rfl, ct⟩ := hr.at (i := 1) (v := .int .i64 2) rfl
  obtain ⟨ad', e', cd⟩ := hr.at (i := 8) (v := .slice dA 2 dc) rfl
  cases e'
  obtain ⟨ad', e', cc⟩ := hr.at (i := 7) (v := .bool true) rfl
  cases e'
  exact hK _ _ _ _ _ T.g.fr hc hdr ct cd cc
set_option maxHeartbeats 2000000 in
theorem live_vw {w : World} (hT : TbP w) (K : Value → World → Prop) (hK : ∀ w', Fr w w' nob → K (.bool true) w') : callK Tryd.prog 12 [] w K := by
  refine call_of Tryd.func12 Code.h12 (by simp [Code.c12]) ?_
  simp (disch := omega) only [wu64, wu32, wu8, fdiv_nn, EO, ↓EP, EQ, EM, ↓reduceIte, Int.reduceAdd, Int.reduceEq, Int.reduceLE, Int.reduceLT, Int.reduceMul, Int.reduceNeg, Int.reducePow, Int.reduceSub, Int.reduceToNat, Nat.reduceAdd, Nat.reduceEqDiff, Nat.reduceLT, Nat.reduceLeDiff, Nat.reduceMul, reduceCtorEq, Code.c12]
  refine bsl7 fun w1 n1 => ?_
  simp (disch := omega) only [wu64, wu32, wu8, fdiv_nn, EO, ↓EP, EQ, EM, ↓reduceIte, Int.reduceAdd, Int.reduceEq, Int.reduceLE, Int.reduceLT, Int.reduceMul, Int.reduceNeg, Int.reducePow, Int.reduceSub, Int.reduceToNat, Nat.reduceAdd, Nat.reduceEqDiff, Nat.reduceLT, Nat.reduceLeDiff, Nat.reduceMul, reduceCtorEq]
  refine l_split n1 _ fun ad c dA dc w2 fs hc hdr ct cd cc => ?_
  simp only [tup3]
  have f2 := (n1.fr nob).nb fs
  simp (disch := omega) only [wu64, wu32, wu8, fdiv_nn, EO, ↓EP, EQ, EM, ↓reduceIte, Int.reduceAdd, Int.reduceEq, Int.reduceLE, Int.reduceLT, Int.reduceMul, Int.reduceNeg, Int.reducePow, Int.reduceSub, Int.reduceToNat, Nat.reduceAdd, Nat.reduceEqDiff, Nat.reduceLT, Nat.reduceLeDiff, Nat.reduceMul, reduceCtorEq]
  refine num_vw _ ?_
  simp (disch := omega) only [wu64, wu32, wu8, fdiv_nn, EO, ↓EP, EQ, EM, ↓reduceIte, Int.reduceAdd, Int.reduceEq, Int.reduceLE, Int.reduceLT, Int.reduceMul, Int.reduceNeg, Int.reducePow, Int.reduceSub, Int.reduceToNat, Nat.reduceAdd, Nat.reduceEqDiff, Nat.reduceLT, Nat.reduceLeDiff, Nat.reduceMul, reduceCtorEq, ct, cd, cc, Bool.not_true, addr_add, i_cvbsJ]
  refine cvbs_k hdr rfl ?_
  simp (disch := omega) only [wu64, wu32, wu8, fdiv_nn, EO, ↓EP, EQ, EM, ↓reduceIte, Int.reduceAdd, Int.reduceEq, Int.reduceLE, Int.reduceLT, Int.reduceMul, Int.reduceNeg, Int.reducePow, Int.reduceSub, Int.reduceToNat, Nat.reduceAdd, Nat.reduceEqDiff, Nat.reduceLT, Nat.reduceLeDiff, Nat.reduceMul, reduceCtorEq, ct, cd, cc, Bool.not_true, addr_add, b_sneq, e_50]
  refine bsl2 fun w3 n3 => ?_
  simp (disch := omega) only [wu64, wu32, wu8, fdiv_nn, EO, ↓EP, EQ, EM, ↓reduceIte, Int.reduceAdd, Int.reduceEq, Int.reduceLE, Int.reduceLT, Int.reduceMul, Int.reduceNeg, Int.reducePow, Int.reduceSub, Int.reduceToNat, Nat.reduceAdd, Nat.reduceEqDiff, Nat.reduceLT, Nat.reduceLeDiff, Nat.reduceMul, reduceCtorEq]
  refine l_int n3 _ ?_
  simp only [pr2]
  simp (disch := omega) only [wu64, wu32, wu8, fdiv_nn, EO, ↓EP, EQ, EM, ↓reduceIte, Int.reduceAdd, Int.reduceEq, Int.reduceLE, Int.reduceLT, Int.reduceMul, Int.reduceNeg, Int.reducePow, Int.reduceSub, Int.reduceToNat, Nat.reduceAdd, Nat.reduceEqDiff, Nat.reduceLT, Nat.reduceLeDiff, Nat.reduceMul, reduceCtorEq]
  refine bsl3 fun w4 n4 => ?_
  have f4 := (f2.nb (n3.fr nob)).nb (n4.fr nob)
  simp (disch := omega) only [wu64, wu32, wu8, fdiv_nn, EO, ↓EP, EQ, EM, ↓reduceIte, Int.reduceAdd, Int.reduceEq, Int.reduceLE, Int.reduceLT, Int.reduceMul, Int.reduceNeg, Int.reducePow, Int.reduceSub, Int.reduceToNat, Nat.reduceAdd, Nat.reduceEqDiff, Nat.reduceLT, Nat.reduceLeDiff, Nat.reduceMul, reduceCtorEq]
  refine l_oid n4 (hT.nb f4) _ fun w5 f5 => ?_
  simp only [prs]
  simp (disch := omega) only [wu64, wu32, wu8, fdiv_nn, EO, ↓EP, EQ, EM, ↓reduceIte, Int.reduceAdd, Int.reduceEq, Int.reduceLE, Int.reduceLT, Int.reduceMul, Int.reduceNeg, Int.reducePow, Int.reduceSub, Int.reduceToNat, Nat.reduceAdd, Nat.reduceEqDiff, Nat.reduceLT, Nat.reduceLeDiff, Nat.reduceMul, reduceCtorEq]
  refine l_put _ fun A6 c6 w6 g6 => ?_
  have hr6 := g6.sl.rdOf
  simp only [pr2]
  simp (disch := omega) only [wu64, wu32, wu8, fdiv_nn, EO, ↓EP, EQ, EM, ↓reduceIte, Int.reduceAdd, Int.reduceEq, Int.reduceLE, Int.reduceLT, Int.reduceMul, Int.reduceNeg, Int.reducePow, Int.reduceSub, Int.reduceToNat, Nat.reduceAdd, Nat.reduceEqDiff, Nat.reduceLT, Nat.reduceLeDiff, Nat.reduceMul, reduceCtorEq]
  refine bsl2 fun w7 n7 => ?_
  simp (disch := omega) only [wu64, wu32, wu8, fdiv_nn, EO, ↓EP, EQ, EM, ↓reduceIte, Int.reduceAdd, Int.reduceEq, Int.reduceLE, Int.reduceLT, Int.reduceMul, Int.reduceNeg, Int.reducePow, Int.reduceSub, Int.reduceToNat, Nat.reduceAdd, Nat.reduceEqDiff, Nat.reduceLT, Nat.reduceLeDiff, Nat.reduceMul, reduceCtorEq]
  refine l_flags n7 _ fun w8 f8 => ?_
  simp only [pr2]
  simp (disch := omega) only [wu64, wu32, wu8, fdiv_nn, EO, ↓EP, EQ, EM, ↓reduceIte, Int.reduceAdd, Int.reduceEq, Int.reduceLE, Int.reduceLT, Int.reduceMul, Int.reduceNeg, Int.reducePow, Int.reduceSub, Int.reduceToNat, Nat.reduceAdd, Nat.reduceEqDiff, Nat.reduceLT, Nat.reduceLeDiff, Nat.reduceMul, reduceCtorEq]
  refine bsl1 fun w9 n9 => ?_
  simp (disch := omega) only [wu64, wu32, wu8, fdiv_nn, EO, ↓EP, EQ, EM, ↓reduceIte, Int.reduceAdd, Int.reduceEq, Int.reduceLE, Int.reduceLT, Int.reduceMul, Int.reduceNeg, Int.reducePow, Int.reduceSub, Int.reduceToNat, Nat.reduceAdd, Nat.reduceEqDiff, Nat.reduceLT, Nat.reduceLeDiff, Nat.reduceMul, reduceCtorEq]
  refine l_uint n9 _ fun v10 w10 f9 => ?_
  simp only [pr2]
  have f10 := (((((f4.nb f5).nb g6.fr).nb (n7.fr nob)).nb f8).nb (n9.fr nob)).nb f9
  have hr10 := hr6.nb (((n7.fr nob).nb f8).nb (n9.fr nob) |>.nb f9)
  simp (disch := omega) only [wu64, wu32, wu8, fdiv_nn, EO, ↓EP, EQ, EM, ↓reduceIte, Int.reduceAdd, Int.reduceEq, Int.reduceLE, Int.reduceLT, Int.reduceMul, Int.reduceNeg, Int.reducePow, Int.reduceSub, Int.reduceToNat, Nat.reduceAdd, Nat.reduceEqDiff, Nat.reduceLT, Nat.reduceLeDiff, Nat.reduceMul, reduceCtorEq]
  refine num_vw _ ?_
  simp (disch := omega) only [wu64, wu32, wu8, fdiv_nn, EO, ↓EP, EQ, EM, ↓reduceIte, Int.reduceAdd, Int.reduceEq, Int.reduceLE, Int.reduceLT, Int.reduceMul, Int.reduceNeg, Int.reducePow, Int.reduceSub, Int.reduceToNat, Nat.reduceAdd, Nat.reduceEqDiff, Nat.reduceLT, Nat.reduceLeDiff, Nat.reduceMul, reduceCtorEq]
  refine num_vw _ ?_
  simp (disch := omega) only [wu64, wu32, wu8, fdiv_nn, EO, ↓EP, EQ, EM, ↓reduceIte, Int.reduceAdd, Int.reduceEq, Int.reduceLE, Int.reduceLT, Int.reduceMul, Int.reduceNeg, Int.reducePow, Int.reduceSub, Int.reduceToNat, Nat.reduceAdd, Nat.reduceEqDiff, Nat.reduceLT, Nat.reduceLeDiff, Nat.reduceMul, reduceCtorEq]
  refine num_vw _ ?_
  simp (disch := omega) only [wu64, wu32, wu8, fdiv_nn, EO, ↓EP, EQ, EM, ↓reduceIte, Int.reduceAdd, Int.reduceEq, Int.reduceLE, Int.reduceLT, Int.reduceMul, Int.reduceNeg, Int.reducePow, Int.reduceSub, Int.reduceToNat, Nat.reduceAdd, Nat.reduceEqDiff, Nat.reduceLT, Nat.reduceLeDiff, Nat.reduceMul, reduceCtorEq]
  refine num_vw _ ?_
  simp (disch := omega) only [wu64, wu32, wu8, fdiv_nn, EO, ↓EP, EQ, EM, ↓reduceIte, Int.reduceAdd, Int.reduceEq, Int.reduceLE, Int.reduceLT, Int.reduceMul, Int.reduceNeg, Int.reducePow, Int.reduceSub, Int.reduceToNat, Nat.reduceAdd, Nat.reduceEqDiff, Nat.reduceLT, Nat.reduceLeDiff, Nat.reduceMul, reduceCtorEq, b_seql, e_oid, i_cvbsJ]
  refine cvbs_k hr10 rfl ?_
  simp (disch := omega) only [wu64, wu32, wu8, fdiv_nn, EO, ↓EP, EQ, EM, ↓reduceIte, Int.reduceAdd, Int.reduceEq, Int.reduceLE, Int.reduceLT, Int.reduceMul, Int.reduceNeg, Int.reducePow, Int.reduceSub, Int.reduceToNat, Nat.reduceAdd, Nat.reduceEqDiff, Nat.reduceLT, Nat.reduceLeDiff, Nat.reduceMul, reduceCtorEq, b_seql, e_put]
  refine num_vw _ ?_
  simp (disch := omega) only [wu64, wu32, wu8, fdiv_nn, EO, ↓EP, EQ, EM, ↓reduceIte, Int.reduceAdd, Int.reduceEq, Int.reduceLE, Int.reduceLT, Int.reduceMul, Int.reduceNeg, Int.reducePow, Int.reduceSub, Int.reduceToNat, Nat.reduceAdd, Nat.reduceEqDiff, Nat.reduceLT, Nat.reduceLeDiff, Nat.reduceMul, reduceCtorEq]
  exact hK w10 f10
end Go.Proofs.YtcflokckfjkdpaaDoor.Der
