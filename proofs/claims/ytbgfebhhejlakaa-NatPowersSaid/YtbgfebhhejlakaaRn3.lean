/- The document's numbers, walked: products as they are answered, lists that are lent. -/
import Derived.Test.YtbgfebhhejlakaaRn2
import Derived.Test.YtbgfebhhejlakaaRefN
set_option linter.unusedVariables false
set_option linter.unusedSimpArgs false
namespace Go.Proofs.Ytbgfebhhejlakaa.Spec
open Go Go.RowKit Go.Proofs Go.Proofs.Ytbgfebhhejlakaa.Eng Go.Proofs.Ytbgfebhhejlakaa.Code Go.Proofs.Ytbgfebhhejlakaa.Big
set_option maxRecDepth 100000
attribute [local irreducible] callK S.W opsW scrW

theorem rlong_spec {w : World} {A B : Option Addr} {n c m d : Nat} {most : Int} (hm : -9223372036854775808 ≤ most ∧ most ≤ 9223372036854775807) (K : Value → World → Prop)
    (hK : K (.bool (decide (most < (n : Int)) || decide (most < (m : Int)))) w) : callK Try.prog 50 [.int .i64 most, .slice A n c, .slice B m d] w K := by
  refine call_of Try.func50 Code.h50 (by simp [Code.c50]) ?_
  by_cases h1 : most < (n : Int)
  · rw [decide_eq_true h1, Bool.true_or] at hK
    simp (disch := omega) only [EO, ↓EP, EQ, EM, ↓reduceIte, Int.reduceAdd, Int.reduceEq, Int.reduceLE, Int.reduceLT, Int.reduceMul, Int.reduceNeg, Int.reducePow, Int.reduceSub, Int.reduceToNat, Nat.reduceAdd, Nat.reduceEqDiff, Nat.reduceLT, Nat.reduceLeDiff, Nat.reduceMul, reduceCtorEq, Code.c50]
    exact hK
  · by_cases h2 : most < (m : Int)
    · rw [decide_eq_true h2, Bool.or_true] at hK
      simp (disch := omega) only [EO, ↓EP, EQ, EM, ↓reduceIte, Int.reduceAdd, Int.reduceEq, Int.reduceLE, Int.reduceLT, Int.reduceMul, Int.reduceNeg, Int.reducePow, Int.reduceSub, Int.reduceToNat, Nat.reduceAdd, Nat.reduceEqDiff, Nat.reduceLT, Nat.reduceLeDiff, Nat.reduceMul, reduceCtorEq, Code.c50]
      exact hK
    · rw [decide_eq_false h1, decide_eq_false h2] at hK
      simp (disch := omega) only [EO, ↓EP, EQ, EM, ↓reduceIte, Int.reduceAdd, Int.reduceEq, Int.reduceLE, Int.reduceLT, Int.reduceMul, Int.reduceNeg, Int.reducePow, Int.reduceSub, Int.reduceToNat, Nat.reduceAdd, Nat.reduceEqDiff, Nat.reduceLT, Nat.reduceLeDiff, Nat.reduceMul, reduceCtorEq, Code.c50]
      exact hK
theorem rlong_vw {w : World} {va vb : Value} {k : IntKind} {l r : List Int} (ha : Vw k w va l) (hb : Vw k w vb r) (most : Int) (hm : -9223372036854775808 ≤ most ∧ most ≤ 9223372036854775807) (K : Value → World → Prop)
    (hK : ∀ b : Bool, (b = true ↔ most < (l.length : Int) ∨ most < (r.length : Int)) → K (.bool b) w) : callK Try.prog 50 [.int .i64 most, va, vb] w K := by
  obtain ⟨A, c, rfl, hc, hl⟩ := ha
  obtain ⟨B, d, rfl, hd, hr⟩ := hb
  exact rlong_spec hm K (hK _ (by simp))
theorem Gw.slice {k : IntKind} {w w' : World} {v : Value} {l : List Int} (g : Gw k w w' v l) : ∃ B d, v = .slice B l.length d := by
  obtain ⟨B, d, e, _⟩ := g.vw
  exact ⟨B, d, e⟩
theorem rmul_vw {w : World} {va vb : Value} {l r : List Int} (ha : Vw .u32 w va l) (hb : Vw .u32 w vb r) (hL : Lim l) (hR : Lim r) (K : Value → World → Prop)
    (hK : ∀ v w', Gw .u32 w w' v (mulR l r).1 → K (.tuple #[v, .int .i64 (mulR l r).2]) w') : callK Try.prog 31 [va, vb] w K := by
  have b1 := (val_bd hL).1
  have b2 := (val_bd hR).1
  refine call_of Try.func31 Code.h31 (by simp [Code.c31]) ?_
  simp (disch := omega) only [EO, ↓EP, EQ, EM, ↓reduceIte, Int.reduceAdd, Int.reduceEq, Int.reduceLE, Int.reduceLT, Int.reduceMul, Int.reduceNeg, Int.reducePow, Int.reduceSub, Int.reduceToNat, Nat.reduceAdd, Nat.reduceEqDiff, Nat.reduceLT, Nat.reduceLeDiff, Nat.reduceMul, reduceCtorEq, Code.c31]
  refine rlong_vw ha hb 512 (by omega) _ fun b hb' => ?_
  by_cases h512 : 512 < l.length ∨ 512 < r.length
  · have e : mulR l r = ([], 3) := by unfold mulR; rw [if_pos h512]
    rw [e] at hK
    have hbt : b = true := hb'.2 (by omega)
    simp (disch := omega) only [EO, ↓EP, EQ, EM, ↓reduceIte, Int.reduceAdd, Int.reduceEq, Int.reduceLE, Int.reduceLT, Int.reduceMul, Int.reduceNeg, Int.reducePow, Int.reduceSub, Int.reduceToNat, Nat.reduceAdd, Nat.reduceEqDiff, Nat.reduceLT, Nat.reduceLeDiff, Nat.reduceMul, reduceCtorEq, hbt]
    exact hK _ w (Gw.nil _ _)
  have hbf : b = false := by
    cases b with
    | false => rfl
    | true => exfalso; have := hb'.1 rfl; omega
  simp (disch := omega) only [EO, ↓EP, EQ, EM, ↓reduceIte, Int.reduceAdd, Int.reduceEq, Int.reduceLE, Int.reduceLT, Int.reduceMul, Int.reduceNeg, Int.reducePow, Int.reduceSub, Int.reduceToNat, Nat.reduceAdd, Nat.reduceEqDiff, Nat.reduceLT, Nat.reduceLeDiff, Nat.reduceMul, reduceCtorEq, hbf]
  refine digits_vw ha hL (by omega) _ fun v1 w1 g1 => ?_
  simp (disch := omega) only [EO, ↓EP, EQ, EM, ↓reduceIte, Int.reduceAdd, Int.reduceEq, Int.reduceLE, Int.reduceLT, Int.reduceMul, Int.reduceNeg, Int.reducePow, Int.reduceSub, Int.reduceToNat, Nat.reduceAdd, Nat.reduceEqDiff, Nat.reduceLT, Nat.reduceLeDiff, Nat.reduceMul, reduceCtorEq]
  refine digits_vw (hb.nb g1.fr) hR (by omega) _ fun v2 w2 g2 => ?_
  have k1 := digs_len_of b1 (n := 512) (by have := (val_bd hL).2; have := pw_le (show l.length ≤ 512 by omega); omega)
  have k2 := digs_len_of b2 (n := 512) (by have := (val_bd hR).2; have := pw_le (show r.length ≤ 512 by omega); omega)
  simp (disch := omega) only [EO, ↓EP, EQ, EM, ↓reduceIte, Int.reduceAdd, Int.reduceEq, Int.reduceLE, Int.reduceLT, Int.reduceMul, Int.reduceNeg, Int.reducePow, Int.reduceSub, Int.reduceToNat, Nat.reduceAdd, Nat.reduceEqDiff, Nat.reduceLT, Nat.reduceLeDiff, Nat.reduceMul, reduceCtorEq]
  refine dmul_vw (g1.vw.nb g2.fr) g2.vw (Dg.digs_lim _) (Dg.digs_lim _) (by omega) (by omega) _ fun v3 w3 g3 => ?_
  rw [Dg.digs_val b1, Dg.digs_val b2] at g3
  have b3 := Int.mul_nonneg b1 b2
  have k3 := digs_len_of b3 (n := 1024) (by
    have h1 := len_mul b1 b2 (n := 512) (m := 512) (by have := len_val hL; omega) (by have := len_val hR; omega)
    exact (limbs_len b3).1 h1)
  simp (disch := omega) only [EO, ↓EP, EQ, EM, ↓reduceIte, Int.reduceAdd, Int.reduceEq, Int.reduceLE, Int.reduceLT, Int.reduceMul, Int.reduceNeg, Int.reducePow, Int.reduceSub, Int.reduceToNat, Nat.reduceAdd, Nat.reduceEqDiff, Nat.reduceLT, Nat.reduceLeDiff, Nat.reduceMul, reduceCtorEq]
  refine limbs_vw g3.vw (Dg.digs_lim _) (by omega) _ fun v4 w4 g4 => ?_
  rw [Dg.digs_val b3] at g4
  have g := g4.from ((g1.fr.nb g2.fr).nb g3.fr)
  have qs := Gw.slice g
  obtain ⟨A2, c2, e2⟩ := qs
  rw [e2] at g
  by_cases hbig : 512 < (limbs (val l * val r)).length
  · have e : mulR l r = ([], 3) := by unfold mulR; rw [if_neg h512, if_pos hbig]
    rw [e] at hK
    simp (disch := omega) only [EO, ↓EP, EQ, EM, ↓reduceIte, Int.reduceAdd, Int.reduceEq, Int.reduceLE, Int.reduceLT, Int.reduceMul, Int.reduceNeg, Int.reducePow, Int.reduceSub, Int.reduceToNat, Nat.reduceAdd, Nat.reduceEqDiff, Nat.reduceLT, Nat.reduceLeDiff, Nat.reduceMul, reduceCtorEq, e2]
    exact hK _ w4 ((Gw.nil _ _).from g.fr)
  · have e : mulR l r = (limbs (val l * val r), 0) := by unfold mulR; rw [if_neg h512, if_neg hbig]
    rw [e] at hK
    simp (disch := omega) only [EO, ↓EP, EQ, EM, ↓reduceIte, Int.reduceAdd, Int.reduceEq, Int.reduceLE, Int.reduceLT, Int.reduceMul, Int.reduceNeg, Int.reducePow, Int.reduceSub, Int.reduceToNat, Nat.reduceAdd, Nat.reduceEqDiff, Nat.reduceLT, Nat.reduceLeDiff, Nat.reduceMul, reduceCtorEq, e2]
    exact hK _ w4 g
/-! ### Lists that are lent -/
theorem Lnt.vw {k : IntKind} {w0 w : World} {v : Value} {l : List Int} {x y : Int} (h : Lnt k w0 w v l x y) : Vw k w v l := by
  obtain ⟨b, c, rfl, hc, _, hr⟩ := h.read
  exact ⟨_, c, rfl, by omega, hr⟩
theorem Lnt.nb {k : IntKind} {w0 w w' : World} {v : Value} {l : List Int} {x y : Int} (h : Lnt k w0 w v l x y) (f : Fr w w' nob) : Lnt k w0 w' v l x y := h.fr f fun _ _ e => e
theorem lent_vw {w : World} {va : Value} {l : List Int} (ha : Vw .u32 w va l) (h : l.length ≤ 35184372088824) (K : Value → World → Prop)
    (hK : ∀ v w', Lnt .u32 w w' v l 57005 48879 → Fr w w' nob → K v w') : callK Try.prog 15 [va] w K := by
  obtain ⟨A, c, rfl, hc, hr⟩ := ha
  exact lentN_spec rfl hr h K hK
theorem kept_vw {w0 w : World} {v vb : Value} {l : List Int} (hv : Lnt .u32 w0 w v l 57005 48879) (hb : Vw .u32 w vb l) (h : l.length ≤ 35184372088824) (K : Value → World → Prop)
    (hK : ∀ w', Fr w w' nob → K (.bool true) w') : callK Try.prog 28 [v, vb] w K := by
  obtain ⟨A, c, rfl, hc, hr⟩ := hb
  exact keptN_spec hv rfl hr h K hK
theorem lentb_vw {w : World} {va : Value} {l : List Int} (ha : Vw .u8 w va l) (h : l.length ≤ 140737488355320) (K : Value → World → Prop)
    (hK : ∀ v w', Lnt .u8 w w' v l 90 165 → Fr w w' nob → K v w') : callK Try.prog 42 [va] w K := by
  obtain ⟨A, c, rfl, hc, hr⟩ := ha
  exact lent_spec rfl hr h K hK
theorem keptb_vw {w0 w : World} {v vb : Value} {l : List Int} (hv : Lnt .u8 w0 w v l 90 165) (hb : Vw .u8 w vb l) (h : l.length ≤ 140737488355320) (K : Value → World → Prop)
    (hK : ∀ w', Fr w w' nob → K (.bool true) w') : callK Try.prog 47 [v, vb] w K := by
  obtain ⟨A, c, rfl, hc, hr⟩ := hb
  exact kept_spec hv rfl hr h K hK
end Go.Proofs.Ytbgfebhhejlakaa.Spec
