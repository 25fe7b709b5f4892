/- The digests: the page's example. -/
import Derived.Test.YtibccpfocbdmaaaDoorCodeL
import Derived.Test.YtibccpfocbdmaaaDoorDig9
import Derived.Test.YtibccpfocbdmaaaDoorDigK
import Derived.Test.YtibccpfocbdmaaaDoorEngJ
set_option linter.unusedVariables false
set_option linter.unusedSimpArgs false
namespace Go.Proofs.YtibccpfocbdmaaaDoor.Spec
open Go Go.RowKit Go.Proofs Go.Proofs.YtibccpfocbdmaaaDoor.Eng Go.Proofs.YtibccpfocbdmaaaDoor.Code
set_option maxRecDepth 100000
attribute [local irreducible] one

theorem num_spec (e : Int) (w : World) (K : Value → World → Prop) (hK : K (.int .i64 e) w) : callK Tryd.prog 16 [.int .i64 e] w K := by
  refine call_of Tryd.func16 Code.h16 (by simp [Code.c16]) ?_
  simp only [Code.c16, ↓EP, EQ, EM, ↓reduceIte, Int.reduceAdd, Int.reduceEq, Int.reduceLE, Int.reduceLT, Int.reduceMul, Int.reduceNeg, Int.reducePow, Int.reduceSub, Int.reduceToNat, Nat.reduceAdd, Nat.reduceEqDiff, Nat.reduceLT, Nat.reduceLeDiff, Nat.reduceMul, reduceCtorEq]
  exact hK
/-- One list. -/
theorem LL.one {w : World} {A B : Option Addr} {n c : Nat} {p : List Int} (h : Rd w A [.slice B n c]) (hn : p.length = n) (hc : n ≤ c) (hb : Rd w B (nums .u8 p)) : LL w A [p] [.slice B n c] := by
  refine ⟨h, rfl, fun i q v h1 h2 => ?_⟩
  cases i with
  | zero => simp at h1 h2; subst h1; subst h2; subst hn; exact ⟨B, c, rfl, hc, hb⟩
  | succ i => simp at h1
theorem LL.none (w : World) : LL w none [] [] := ⟨.inl rfl, rfl, fun i q v h1 h2 => by simp at h1⟩
theorem flat1 (p : List Int) : [p].flatten = p := by simp
theorem tot1 (p : List Int) : total [p] = p.length := by simp [total]
theorem size1 : sizeI 1 = 20 := rfl
theorem size2 : sizeI 2 = 32 := rfl
theorem size3 : sizeI 3 = 48 := rfl
theorem size4 : sizeI 4 = 64 := rfl

/-- The digest of a literal. -/
theorem lit_sum {w : World} (alg : Int) (ha : 1 ≤ alg) (ha' : alg ≤ 4) (hT : Tb w) {p : List Int} {b n : Nat} (hn : p.length = n) (hs : p.length ≤ 1000) (hB : Rd w (some ⟨b, 0, none⟩) (nums .u8 p)) {A : Option Addr} (hA : Rd w A [.slice (some ⟨b, 0, none⟩) n n]) {c : Nat} (K : Value → World → Prop)
    (hK : ∀ B c w', (sizeI alg).toNat ≤ c → Rd w' B (nums .u8 (dig alg p)) → Fr w w' nob → K (.tuple #[.slice B (sizeI alg).toNat c, .int .i64 0]) w') : callK Tryd.prog 12 [.int .i64 alg, .slice A 1 c] w K := by
  refine dsum_spec alg (l := [p]) (LL.one hA hn (Nat.le_refl _) hB) hT (by rw [tot1]; omega) (by simp) K (fun _ _ B c w' hc hsl _ f => ?_) (fun h => by omega)
  rw [flat1] at hsl
  exact hK B c w' hc hsl.rdOf f
theorem str_abc : ((strOfNums (dig 1 [97, 98, 99])).toList == (⟨#[169, 153, 62, 54, 71, 6, 129, 106, 186, 62, 37, 113, 120, 80, 194, 108, 156, 208, 216, 157]⟩ : ByteArray).toList) = true := by
  rw [dig_abc]; decide +kernel

theorem live_spec {w : World} (hT : Tb w) (K : Value → World → Prop) (hK : ∀ w', Fr w w' nob → K (.bool true) w') : callK Tryd.prog 10 [] w K := by
  refine call_of Tryd.func10 Code.h10 (by simp [Code.c10]) ?_
  simp only [Code.c10, ↓EP, EQ, EM, ↓reduceIte, Int.reduceAdd, Int.reduceEq, Int.reduceLE, Int.reduceLT, Int.reduceMul, Int.reduceNeg, Int.reducePow, Int.reduceSub, Int.reduceToNat, Nat.reduceAdd, Nat.reduceEqDiff, Nat.reduceLT, Nat.reduceLeDiff, Nat.reduceMul, reduceCtorEq]
  refine bsl3 fun w1 n1 => ?_
  simp only [↓EP, EQ, EM, ↓reduceIte, Int.reduceAdd, Int.reduceEq, Int.reduceLE, Int.reduceLT, Int.reduceMul, Int.reduceNeg, Int.reducePow, Int.reduceSub, Int.reduceToNat, Nat.reduceAdd, Nat.reduceEqDiff, Nat.reduceLT, Nat.reduceLeDiff, Nat.reduceMul, reduceCtorEq, ↓i_cvidT, ↓i_cvbsJ]
  refine cvid_k n1.rdl fun w2 f2 r2 => ?_
  have f02 : Fr w w2 nob := (n1.fr nob).trans f2 fun x hx e => by omega
  simp only [↓EP, EQ, EM, ↓reduceIte, Int.reduceAdd, Int.reduceEq, Int.reduceLE, Int.reduceLT, Int.reduceMul, Int.reduceNeg, Int.reducePow, Int.reduceSub, Int.reduceToNat, Nat.reduceAdd, Nat.reduceEqDiff, Nat.reduceLT, Nat.reduceLeDiff, Nat.reduceMul, reduceCtorEq]
  refine bslS1 fun w3 n3 => ?_
  have f03 : Fr w w3 nob := f02.trans (n3.fr nob) fun _ _ e => e
  simp only [↓EP, EQ, EM, ↓reduceIte, Int.reduceAdd, Int.reduceEq, Int.reduceLE, Int.reduceLT, Int.reduceMul, Int.reduceNeg, Int.reducePow, Int.reduceSub, Int.reduceToNat, Nat.reduceAdd, Nat.reduceEqDiff, Nat.reduceLT, Nat.reduceLeDiff, Nat.reduceMul, reduceCtorEq]
  refine lit_sum 1 (by decide) (by decide) (hT.fr f03 (fun x => x) (fun x => x)) rfl (by decide) (n3.rd r2) n3.rdv _ fun B c w4 hc hr f4 => ?_
  have f04 : Fr w w4 nob := f03.trans f4 fun _ _ e => e
  simp only [↓EP, EQ, EM, ↓reduceIte, Int.reduceAdd, Int.reduceEq, Int.reduceLE, Int.reduceLT, Int.reduceMul, Int.reduceNeg, Int.reducePow, Int.reduceSub, Int.reduceToNat, Nat.reduceAdd, Nat.reduceEqDiff, Nat.reduceLT, Nat.reduceLeDiff, Nat.reduceMul, reduceCtorEq]
  refine num_spec 0 _ _ ?_
  simp only [↓EP, EQ, EM, ↓reduceIte, Int.reduceAdd, Int.reduceEq, Int.reduceLE, Int.reduceLT, Int.reduceMul, Int.reduceNeg, Int.reducePow, Int.reduceSub, Int.reduceToNat, Nat.reduceAdd, Nat.reduceEqDiff, Nat.reduceLT, Nat.reduceLeDiff, Nat.reduceMul, reduceCtorEq, size1, ↓i_cvbsJ]
  refine cvbs_k hr (by rw [dig_abc]; rfl) ?_
  try simp only [↓EP, EQ, EM, ↓reduceIte, Int.reduceAdd, Int.reduceEq, Int.reduceLE, Int.reduceLT, Int.reduceMul, Int.reduceNeg, Int.reducePow, Int.reduceSub, Int.reduceToNat, Nat.reduceAdd, Nat.reduceEqDiff, Nat.reduceLT, Nat.reduceLeDiff, Nat.reduceMul, reduceCtorEq]
  refine eql_k str_abc ?_
  simp only [↓EP, EQ, EM, ↓reduceIte, Int.reduceAdd, Int.reduceEq, Int.reduceLE, Int.reduceLT, Int.reduceMul, Int.reduceNeg, Int.reducePow, Int.reduceSub, Int.reduceToNat, Nat.reduceAdd, Nat.reduceEqDiff, Nat.reduceLT, Nat.reduceLeDiff, Nat.reduceMul, reduceCtorEq]
  refine size_spec 1 _ _ ?_
  simp only [↓EP, EQ, EM, ↓reduceIte, Int.reduceAdd, Int.reduceEq, Int.reduceLE, Int.reduceLT, Int.reduceMul, Int.reduceNeg, Int.reducePow, Int.reduceSub, Int.reduceToNat, Nat.reduceAdd, Nat.reduceEqDiff, Nat.reduceLT, Nat.reduceLeDiff, Nat.reduceMul, reduceCtorEq, size1]
  exact hK _ f04
end Go.Proofs.YtibccpfocbdmaaaDoor.Spec
