/- Numbers by limbs: the first functions, walked: sums of limbs, binary digits, the cut. -/
import Derived.Test.YtbgfebhhejlakaaCode0
import Derived.Test.YtbgfebhhejlakaaCode1
import Derived.Test.YtbgfebhhejlakaaNm2
set_option linter.unusedVariables false
set_option linter.unusedSimpArgs false
namespace Go.Proofs.Ytbgfebhhejlakaa.Spec
open Go Go.RowKit Go.Proofs Go.Proofs.Ytbgfebhhejlakaa.Eng Go.Proofs.Ytbgfebhhejlakaa.Code Go.Proofs.Ytbgfebhhejlakaa.Big
set_option maxRecDepth 100000
attribute [local irreducible] callK S.W opsW scrW

theorem add32_spec (x y c : Int) (hx : 0 ≤ x ∧ x < 4294967296) (hy : 0 ≤ y ∧ y < 4294967296) (hc : 0 ≤ c ∧ c < 4294967296) (w : World) (K : Value → World → Prop)
    (hK : K (.tuple #[.int .u32 ((x + y + c) % 4294967296), .int .u32 ((x + y + c) / 4294967296)]) w) : callK Try.prog 67 [.int .u32 x, .int .u32 y, .int .u32 c] w K := by
  refine call_of Try.func67 Code.h67 (by simp [Code.c67]) ?_
  simp (disch := omega) only [wu64, wu32, wu8, fdiv_nn, EO, ↓EP, EQ, EM, ↓reduceIte, Int.reduceAdd, Int.reduceEq, Int.reduceLE, Int.reduceLT, Int.reduceMul, Int.reduceNeg, Int.reducePow, Int.reduceSub, Int.reduceToNat, Nat.reduceAdd, Nat.reduceEqDiff, Nat.reduceLT, Nat.reduceLeDiff, Nat.reduceMul, reduceCtorEq, Code.c67, wu32_mod]
  exact hK
theorem len32_spec (x : Int) (hx : 0 ≤ x ∧ x < 4294967296) (w : World) (K : Value → World → Prop)
    (hK : K (.int .i64 (bl x : Int)) w) : callK Try.prog 57 [.int .u32 x] w K := by
  refine call_of Try.func57 Code.h57 (by simp [Code.c57]) ?_
  have low : ∀ (y n : Int), 0 ≤ y → y < 256 → 0 ≤ n → n < 100 → (bl x : Int) = n + bl y → ∃ h : y.toNat < lenTab.size, K (.int .i64 (IntKind.i64.wrap (n + IntKind.i64.wrap ((lenTab[y.toNat]'h).toNat : Int)))) w := by
    intro y n h0 h1 h2 h3 e
    have hb : bl y ≤ 8 := (bl_le h0).2 (by omega)
    obtain ⟨h, e2⟩ := lenTab_all ⟨y.toNat, by omega⟩
    simp only at e2
    refine ⟨h, ?_⟩
    rw [e2, show ((y.toNat : Nat) : Int) = y by omega, w64 (n := (bl y : Int)) (by omega) (by omega), w64 (by omega) (by omega), ← e]
    exact hK
  have f256 : ∀ y : Int, 256 ≤ y → (bl y : Int) = 8 + bl (y / 256) := fun y h => by have := bl_div (v := y) (k := 8) (by omega); simp at this; omega
  have f65536 : 65536 ≤ x → (bl x : Int) = 16 + bl (x / 65536) := fun h => by have := bl_div (v := x) (k := 16) (by omega); simp at this; omega
  by_cases h1 : 65536 ≤ x
  · have := f65536 h1
    by_cases h2 : 256 ≤ x / 65536
    · have := f256 _ h2
      simp (disch := omega) only [wu64, wu32, wu8, fdiv_nn, EO, ↓EP, EQ, EM, ↓reduceIte, Int.reduceAdd, Int.reduceEq, Int.reduceLE, Int.reduceLT, Int.reduceMul, Int.reduceNeg, Int.reducePow, Int.reduceSub, Int.reduceToNat, Nat.reduceAdd, Nat.reduceEqDiff, Nat.reduceLT, Nat.reduceLeDiff, Nat.reduceMul, reduceCtorEq, Code.c57, W_join]
      exact low _ _ (by omega) (by omega) (by omega) (by omega) (by omega)
    · simp (disch := omega) only [wu64, wu32, wu8, fdiv_nn, EO, ↓EP, EQ, EM, ↓reduceIte, Int.reduceAdd, Int.reduceEq, Int.reduceLE, Int.reduceLT, Int.reduceMul, Int.reduceNeg, Int.reducePow, Int.reduceSub, Int.reduceToNat, Nat.reduceAdd, Nat.reduceEqDiff, Nat.reduceLT, Nat.reduceLeDiff, Nat.reduceMul, reduceCtorEq, Code.c57, W_join]
      exact low _ _ (by omega) (by omega) (by omega) (by omega) (by omega)
  · by_cases h2 : 256 ≤ x
    · have := f256 _ h2
      simp (disch := omega) only [wu64, wu32, wu8, fdiv_nn, EO, ↓EP, EQ, EM, ↓reduceIte, Int.reduceAdd, Int.reduceEq, Int.reduceLE, Int.reduceLT, Int.reduceMul, Int.reduceNeg, Int.reducePow, Int.reduceSub, Int.reduceToNat, Nat.reduceAdd, Nat.reduceEqDiff, Nat.reduceLT, Nat.reduceLeDiff, Nat.reduceMul, reduceCtorEq, Code.c57, W_join]
      exact low _ _ (by omega) (by omega) (by omega) (by omega) (by omega)
    · simp (disch := omega) only [wu64, wu32, wu8, fdiv_nn, EO, ↓EP, EQ, EM, ↓reduceIte, Int.reduceAdd, Int.reduceEq, Int.reduceLE, Int.reduceLT, Int.reduceMul, Int.reduceNeg, Int.reducePow, Int.reduceSub, Int.reduceToNat, Nat.reduceAdd, Nat.reduceEqDiff, Nat.reduceLT, Nat.reduceLeDiff, Nat.reduceMul, reduceCtorEq, Code.c57, W_join]
      exact low _ _ (by omega) (by omega) (by omega) (by omega) (by omega)

theorem cut_spec {w : World} {A : Option Addr} {n c : Nat} {l : List Int} (hn : l.length = n) (hl : Rd w A (nums .u32 l)) (hL : Lim l) (hc : n ≤ c) (h63 : n ≤ 4611686018427387904) (K : Value → World → Prop)
    (hK : ∀ m, m ≤ n → l.take m = limbs (val l) → m = (limbs (val l)).length → K (.slice A m c) w) : callK Try.prog 55 [.slice A n c] w K := by
  refine call_of Try.func55 Code.h55 (by simp [Code.c55]) ?_
  subst hn
  simp (disch := omega) only [EO, ↓EP, EQ, EM, ↓reduceIte, Int.reduceAdd, Int.reduceEq, Int.reduceLE, Int.reduceLT, Int.reduceMul, Int.reduceNeg, Int.reducePow, Int.reduceSub, Int.reduceToNat, Nat.reduceAdd, Nat.reduceEqDiff, Nat.reduceLT, Nat.reduceLeDiff, Nat.reduceMul, reduceCtorEq, Code.c55]
  refine loop_inv (fun t ρ w' => w' = w ∧ ρ 3 = .int .i64 t ∧ t ≤ l.length ∧ ∀ j : Nat, t ≤ j → j < l.length → at' l j = 0) l.length ⟨rfl, by simp (disch := omega) only [EO, ↓EP, EQ, EM, ↓reduceIte, Int.reduceAdd, Int.reduceEq, Int.reduceLE, Int.reduceLT, Int.reduceMul, Int.reduceNeg, Int.reducePow, Int.reduceSub, Int.reduceToNat, Nat.reduceAdd, Nat.reduceEqDiff, Nat.reduceLT, Nat.reduceLeDiff, Nat.reduceMul, reduceCtorEq], Nat.le_refl _, fun j h1 h2 => by omega⟩ ?_
  rintro t ρ w' hf ⟨rfl, h3, ht, hz⟩ N hN
  have r0 : ρ 0 = .slice A l.length c := by rw [hf 0 rfl]; simp only [↓EP, EQ, EM, ↓reduceIte, Int.reduceAdd, Int.reduceEq, Int.reduceLE, Int.reduceLT, Int.reduceMul, Int.reduceNeg, Int.reducePow, Int.reduceSub, Int.reduceToNat, Nat.reduceAdd, Nat.reduceEqDiff, Nat.reduceLT, Nat.reduceLeDiff, Nat.reduceMul, reduceCtorEq]
  clear hf
  have fin : (t = 0 ∨ at' l ((t - 1 : Nat) : Int) ≠ 0) → K (.slice A t c) w' := fun h => by
    have e := cut_can hL ht hz h
    exact hK t ht e (by rw [← e, List.length_take]; omega)
  cases t with
  | zero =>
    simp (disch := omega) only [EO, ↓EP, EQ, EM, ↓reduceIte, Int.reduceAdd, Int.reduceEq, Int.reduceLE, Int.reduceLT, Int.reduceMul, Int.reduceNeg, Int.reducePow, Int.reduceSub, Int.reduceToNat, Nat.reduceAdd, Nat.reduceEqDiff, Nat.reduceLT, Nat.reduceLeDiff, Nat.reduceMul, reduceCtorEq, h3, r0, Int.natCast_zero]
    exact fin (.inl rfl)
  | succ k =>
    obtain ⟨p, rfl, _, hp⟩ := hl.get (by rw [nums_length]; omega)
    have cp := hp.numN (j := k) (by omega)
    have e1 : ((k + 1 : Nat) : Int) - 1 = k := by omega
    by_cases he : at' l k = 0
    · simp (disch := omega) only [EO, ↓EP, EQ, EM, ↓reduceIte, Int.reduceAdd, Int.reduceEq, Int.reduceLE, Int.reduceLT, Int.reduceMul, Int.reduceNeg, Int.reducePow, Int.reduceSub, Int.reduceToNat, Nat.reduceAdd, Nat.reduceEqDiff, Nat.reduceLT, Nat.reduceLeDiff, Nat.reduceMul, reduceCtorEq, h3, r0, e1, cp, he]
      exact hN k _ _ (by omega) ⟨rfl, by simp (disch := omega) only [EO, ↓EP, EQ, EM, ↓reduceIte, Int.reduceAdd, Int.reduceEq, Int.reduceLE, Int.reduceLT, Int.reduceMul, Int.reduceNeg, Int.reducePow, Int.reduceSub, Int.reduceToNat, Nat.reduceAdd, Nat.reduceEqDiff, Nat.reduceLT, Nat.reduceLeDiff, Nat.reduceMul, reduceCtorEq], by omega, fun j h1 h2 => by
        by_cases hj : j = k
        · subst hj; exact he
        · exact hz j (by omega) h2⟩
    · have hf : (at' l k = 0) = False := eq_false he
      simp (disch := omega) only [EO, ↓EP, EQ, EM, ↓reduceIte, Int.reduceAdd, Int.reduceEq, Int.reduceLE, Int.reduceLT, Int.reduceMul, Int.reduceNeg, Int.reducePow, Int.reduceSub, Int.reduceToNat, Nat.reduceAdd, Nat.reduceEqDiff, Nat.reduceLT, Nat.reduceLeDiff, Nat.reduceMul, reduceCtorEq, h3, r0, e1, cp, hf]
      exact fin (.inr (by rw [show k + 1 - 1 = k by omega]; exact he))
theorem trim_spec {w : World} {A : Option Addr} {n c : Nat} {l : List Int} (hn : l.length = n) (hl : Rd w A (nums .u32 l)) (hL : Lim l) (hc : n ≤ c) (h47 : n ≤ 35184372088832) (K : Value → World → Prop)
    (hK : ∀ v w', Gw .u32 w w' v (limbs (val l)) → K v w') : callK Try.prog 22 [.slice A n c] w K := by
  refine call_of Try.func22 Code.h22 (by simp [Code.c22]) ?_
  simp (disch := omega) only [EO, ↓EP, EQ, EM, ↓reduceIte, Int.reduceAdd, Int.reduceEq, Int.reduceLE, Int.reduceLT, Int.reduceMul, Int.reduceNeg, Int.reducePow, Int.reduceSub, Int.reduceToNat, Nat.reduceAdd, Nat.reduceEqDiff, Nat.reduceLT, Nat.reduceLeDiff, Nat.reduceMul, reduceCtorEq, Code.c22]
  refine cut_spec hn hl hL hc (by omega) _ fun m hm he hlen => ?_
  simp (disch := omega) only [EO, ↓EP, EQ, EM, ↓reduceIte, Int.reduceAdd, Int.reduceEq, Int.reduceLE, Int.reduceLT, Int.reduceMul, Int.reduceNeg, Int.reducePow, Int.reduceSub, Int.reduceToNat, Nat.reduceAdd, Nat.reduceEqDiff, Nat.reduceLT, Nat.reduceLeDiff, Nat.reduceMul, reduceCtorEq]
  have hr := hl.take m
  rw [he] at hr
  refine app_num (Sl.nil _ _) hlen.symm hr (by rw [List.length_nil]; omega) (by omega) fun v w' a => ?_
  have g := (Gw.nil .u32 w).apd a
  rw [List.nil_append] at g
  simp (disch := omega) only [EO, ↓EP, EQ, EM, ↓reduceIte, Int.reduceAdd, Int.reduceEq, Int.reduceLE, Int.reduceLT, Int.reduceMul, Int.reduceNeg, Int.reducePow, Int.reduceSub, Int.reduceToNat, Nat.reduceAdd, Nat.reduceEqDiff, Nat.reduceLT, Nat.reduceLeDiff, Nat.reduceMul, reduceCtorEq]
  exact hK v w' g
end Go.Proofs.Ytbgfebhhejlakaa.Spec
