/- The document's numbers, walked: quotients, inverses as they are answered. -/
import Derived.Test.YtbgfebhhejlakaaRn5
set_option linter.unusedVariables false
set_option linter.unusedSimpArgs false
namespace Go.Proofs.Ytbgfebhhejlakaa.Spec
open Go Go.RowKit Go.Proofs Go.Proofs.Ytbgfebhhejlakaa.Eng Go.Proofs.Ytbgfebhhejlakaa.Code Go.Proofs.Ytbgfebhhejlakaa.Big
set_option maxRecDepth 100000
attribute [local irreducible] callK S.W opsW scrW

theorem rlong_no {a b : Int} {c : Bool} {p : Prop} [Decidable p] (h : c = true ↔ p) (hp : ¬ p) : c = false := by
  cases c with
  | false => rfl
  | true => exact absurd (h.1 rfl) hp
theorem val_pw {l : List Int} (hL : Lim l) {n : Nat} (h : l.length ≤ n) : val l < pw n := by
  have := (val_bd hL).2
  have := pw_le h
  omega
theorem digs_vl {l : List Int} (hL : Lim l) {n : Nat} (h : l.length ≤ n) : (Dg.digs (val l)).length ≤ 2 * n := digs_len_of (val_bd hL).1 (val_pw hL h)
theorem dlen_mono {a b : Int} (h0 : 0 ≤ a) (h : a ≤ b) : (Dg.digs a).length ≤ (Dg.digs b).length := by
  have := (Dg.digs_len (v := b) (by omega) (k := (Dg.digs b).length)).1 (Nat.le_refl _)
  exact (Dg.digs_len h0).2 (by omega)
set_option maxHeartbeats 1000000 in
theorem rdivmod_vw {w : World} {va vb : Value} {l r : List Int} (ha : Vw .u32 w va l) (hb : Vw .u32 w vb r) (hL : Lim l) (hR : Lim r) (K : Value → World → Prop)
    (hK : ∀ u v w', Gw .u32 w w' u (divR l r).1 → Gw .u32 w w' v (divR l r).2.1 → K (.tuple #[u, v, .int .i64 (divR l r).2.2]) w') : callK Try.prog 33 [va, vb] w K := by
  have b1 := (val_bd hL).1
  have b2 := (val_bd hR).1
  refine call_of Try.func33 Code.h33 (by simp [Code.c33]) ?_
  simp (disch := omega) only [EO, ↓EP, EQ, EM, ↓reduceIte, Int.reduceAdd, Int.reduceEq, Int.reduceLE, Int.reduceLT, Int.reduceMul, Int.reduceNeg, Int.reducePow, Int.reduceSub, Int.reduceToNat, Nat.reduceAdd, Nat.reduceEqDiff, Nat.reduceLT, Nat.reduceLeDiff, Nat.reduceMul, reduceCtorEq, Code.c33]
  refine rlong_vw ha hb 512 (by omega) _ fun b hb' => ?_
  by_cases h512 : 512 < l.length ∨ 512 < r.length
  · have e : divR l r = ([], [], 3) := by unfold divR; rw [if_pos h512]
    rw [e] at hK
    have hbt : b = true := hb'.2 (by omega)
    simp (disch := omega) only [EO, ↓EP, EQ, EM, ↓reduceIte, Int.reduceAdd, Int.reduceEq, Int.reduceLE, Int.reduceLT, Int.reduceMul, Int.reduceNeg, Int.reducePow, Int.reduceSub, Int.reduceToNat, Nat.reduceAdd, Nat.reduceEqDiff, Nat.reduceLT, Nat.reduceLeDiff, Nat.reduceMul, reduceCtorEq, hbt]
    exact hK _ _ w (Gw.nil _ _) (Gw.nil _ _)
  have hbf : b = false := by
    cases b with
    | false => rfl
    | true => exfalso; have := hb'.1 rfl; omega
  simp (disch := omega) only [EO, ↓EP, EQ, EM, ↓reduceIte, Int.reduceAdd, Int.reduceEq, Int.reduceLE, Int.reduceLT, Int.reduceMul, Int.reduceNeg, Int.reducePow, Int.reduceSub, Int.reduceToNat, Nat.reduceAdd, Nat.reduceEqDiff, Nat.reduceLT, Nat.reduceLeDiff, Nat.reduceMul, reduceCtorEq, hbf]
  refine digits_vw hb hR (by omega) _ fun v1 w1 g1 => ?_
  have k1 := digs_vl hL (n := 512) (by omega)
  have k2 := digs_vl hR (n := 512) (by omega)
  have qs := Gw.slice g1
  obtain ⟨A1, c1, e1⟩ := qs
  by_cases h0 : val r = 0
  · have e : divR l r = ([], [], 11) := by unfold divR; rw [if_neg h512, if_pos h0]
    rw [e] at hK
    have hz := (digs_zero_iff b2).2 h0
    simp (disch := omega) only [EO, ↓EP, EQ, EM, ↓reduceIte, Int.reduceAdd, Int.reduceEq, Int.reduceLE, Int.reduceLT, Int.reduceMul, Int.reduceNeg, Int.reducePow, Int.reduceSub, Int.reduceToNat, Nat.reduceAdd, Nat.reduceEqDiff, Nat.reduceLT, Nat.reduceLeDiff, Nat.reduceMul, reduceCtorEq, e1, hz, Int.natCast_zero]
    exact hK _ _ w1 ((Gw.nil _ _).from g1.fr) ((Gw.nil _ _).from g1.fr)
  have e : divR l r = (limbs (val l / val r), limbs (val l % val r), 0) := by unfold divR; rw [if_neg h512, if_neg h0]
  rw [e] at hK
  have hne : ((((Dg.digs (val r)).length : Nat) : Int) = 0) = False := eq_false fun h => h0 ((digs_zero_iff b2).1 (by omega))
  simp (disch := omega) only [EO, ↓EP, EQ, EM, ↓reduceIte, Int.reduceAdd, Int.reduceEq, Int.reduceLE, Int.reduceLT, Int.reduceMul, Int.reduceNeg, Int.reducePow, Int.reduceSub, Int.reduceToNat, Nat.reduceAdd, Nat.reduceEqDiff, Nat.reduceLT, Nat.reduceLeDiff, Nat.reduceMul, reduceCtorEq, e1, hne]
  refine digits_vw (ha.nb g1.fr) hL (by omega) _ fun v2 w2 g2 => ?_
  simp (disch := omega) only [EO, ↓EP, EQ, EM, ↓reduceIte, Int.reduceAdd, Int.reduceEq, Int.reduceLE, Int.reduceLT, Int.reduceMul, Int.reduceNeg, Int.reducePow, Int.reduceSub, Int.reduceToNat, Nat.reduceAdd, Nat.reduceEqDiff, Nat.reduceLT, Nat.reduceLeDiff, Nat.reduceMul, reduceCtorEq]
  refine ddivmod_vw g2.vw (g1.vw.nb g2.fr) (Dg.digs_lim _) (by omega) (by omega) (by omega) _ fun u3 v3 w3 g3 h3 => ?_
  rw [Dg.digs_val b1] at g3 h3
  have hq := Int.ediv_nonneg b1 b2
  have hr := mod_bd (a := val l) (m := val r) (by omega)
  have k3 := dlen_mono hq (Int.ediv_le_self (val r) b1)
  have k4 := dlen_mono hr.1 (show val l % val r ≤ val r by omega)
  simp (disch := omega) only [EO, ↓EP, EQ, EM, ↓reduceIte, Int.reduceAdd, Int.reduceEq, Int.reduceLE, Int.reduceLT, Int.reduceMul, Int.reduceNeg, Int.reducePow, Int.reduceSub, Int.reduceToNat, Nat.reduceAdd, Nat.reduceEqDiff, Nat.reduceLT, Nat.reduceLeDiff, Nat.reduceMul, reduceCtorEq]
  refine limbs_vw g3.vw (Dg.digs_lim _) (by omega) _ fun v4 w4 g4 => ?_
  rw [Dg.digs_val hq] at g4
  simp (disch := omega) only [EO, ↓EP, EQ, EM, ↓reduceIte, Int.reduceAdd, Int.reduceEq, Int.reduceLE, Int.reduceLT, Int.reduceMul, Int.reduceNeg, Int.reducePow, Int.reduceSub, Int.reduceToNat, Nat.reduceAdd, Nat.reduceEqDiff, Nat.reduceLT, Nat.reduceLeDiff, Nat.reduceMul, reduceCtorEq]
  refine limbs_vw (h3.nb g4.fr) (Dg.digs_lim _) (by omega) _ fun v5 w5 g5 => ?_
  rw [Dg.digs_val hr.1] at g5
  have f3 := (g1.fr.nb g2.fr).nb g3.fr
  simp (disch := omega) only [EO, ↓EP, EQ, EM, ↓reduceIte, Int.reduceAdd, Int.reduceEq, Int.reduceLE, Int.reduceLT, Int.reduceMul, Int.reduceNeg, Int.reducePow, Int.reduceSub, Int.reduceToNat, Nat.reduceAdd, Nat.reduceEqDiff, Nat.reduceLT, Nat.reduceLeDiff, Nat.reduceMul, reduceCtorEq]
  exact hK v4 v5 w5 ((g4.from f3).step g5.fr) (g5.from (f3.nb g4.fr))
end Go.Proofs.Ytbgfebhhejlakaa.Spec
