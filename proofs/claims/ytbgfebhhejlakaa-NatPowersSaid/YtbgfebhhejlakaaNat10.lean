/- Numbers by limbs: views of lists; sums, differences, products, quotients, as they are answered. -/
import Derived.Test.YtbgfebhhejlakaaNat9
import Derived.Test.YtbgfebhhejlakaaNm6
import Derived.Test.YtbgfebhhejlakaaEngM
set_option linter.unusedVariables false
set_option linter.unusedSimpArgs false
namespace Go.Proofs.Ytbgfebhhejlakaa.Spec
open Go Go.RowKit Go.Proofs Go.Proofs.Ytbgfebhhejlakaa.Eng Go.Proofs.Ytbgfebhhejlakaa.Code Go.Proofs.Ytbgfebhhejlakaa.Big
set_option maxRecDepth 100000
attribute [local irreducible] callK S.W opsW scrW

/-- A value that stands for a number. -/
def Nv (w : World) (v : Value) (x : Int) : Prop := 0 ≤ x ∧ Vw .u32 w v (limbs x)
theorem Nv.nb {w w' : World} {v : Value} {x : Int} (h : Nv w v x) (f : Fr w w' nob) : Nv w' v x := ⟨h.1, h.2.nb f⟩
theorem _root_.Go.Proofs.Ytbgfebhhejlakaa.Eng.Gw.nv {w w' : World} {v : Value} {x : Int} (h : Gw .u32 w w' v (limbs x)) (h0 : 0 ≤ x) : Nv w' v x := ⟨h0, h.vw⟩
theorem Nv.nil (w : World) : Nv w (.slice none 0 0) 0 := ⟨Int.le_refl _, by rw [limbs_zero]; exact Vw.nil _ _⟩
theorem Nv.one {w w' : World} (h : New w w' (nums .u32 [1])) : Nv w' (.slice (some ⟨w.heap.size, 0, none⟩) 1 1) 1 := ⟨by decide, by rw [limbs_one]; exact h.vw rfl⟩
theorem cut_vw {w : World} {va : Value} {l : List Int} (ha : Vw .u32 w va l) (hL : Lim l) (h63 : l.length ≤ 4611686018427387904) (K : Value → World → Prop)
    (hK : ∀ v, Nv w v (val l) → K v w) : callK Try.prog 55 [va] w K := by
  obtain ⟨A, c, rfl, hc, hr⟩ := ha
  refine cut_spec rfl hr hL hc h63 _ fun m hm he hlen => hK _ ⟨(val_bd hL).1, ?_⟩
  have := hr.take m
  rw [he] at this
  exact Vw.of hlen.symm (by omega) this
theorem trim_vw {w : World} {va : Value} {l : List Int} (ha : Vw .u32 w va l) (hL : Lim l) (h47 : l.length ≤ 35184372088832) (K : Value → World → Prop)
    (hK : ∀ v w', Gw .u32 w w' v (limbs (val l)) → K v w') : callK Try.prog 22 [va] w K := by
  obtain ⟨A, c, rfl, hc, hr⟩ := ha
  exact trim_spec rfl hr hL hc h47 K hK
theorem bits_vw {w : World} {va : Value} {l : List Int} (ha : Vw .u32 w va l) (hL : Lim l) (h : l.length ≤ 1099511627776) (K : Value → World → Prop)
    (hK : K (.int .i64 (bl (val l) : Int)) w) : callK Try.prog 24 [va] w K := by
  obtain ⟨A, c, rfl, hc, hr⟩ := ha
  exact bits_spec rfl hr hL hc h K hK
theorem cmp_vw {w : World} {va vb : Value} {l r : List Int} (ha : Vw .u32 w va l) (hb : Vw .u32 w vb r) (hL : Lim l) (hR : Lim r) (h1 : l.length ≤ 1099511627776) (h2 : r.length ≤ 1099511627776) (K : Value → World → Prop)
    (hK : ∀ w', Fr w w' nob → K (.int .i64 (cmpI (val l) (val r))) w') : callK Try.prog 26 [va, vb] w K := by
  obtain ⟨A, c, rfl, hc, hr⟩ := ha
  obtain ⟨B, d, rfl, hd, hs⟩ := hb
  exact cmp_spec rfl rfl hr hs hL hR hc hd h1 h2 K hK
theorem sum_vw {w : World} {va vb : Value} {l r : List Int} (ha : Vw .u32 w va l) (hb : Vw .u32 w vb r) (hL : Lim l) (hR : Lim r) (h1 : l.length ≤ 1099511627776) (h2 : r.length ≤ 1099511627776) (K : Value → World → Prop)
    (hK : ∀ v w', Gw .u32 w w' v (limbs (val l + val r)) → K v w') : callK Try.prog 49 [va, vb] w K := by
  obtain ⟨A, c, rfl, hc, hr⟩ := ha
  obtain ⟨B, d, rfl, hd, hs⟩ := hb
  exact sum_spec rfl rfl hr hs hL hR h1 h2 K hK
theorem less_vw {w : World} {va vb : Value} {l r : List Int} (ha : Vw .u32 w va l) (hb : Vw .u32 w vb r) (hL : Lim l) (hR : Lim r) (h1 : l.length ≤ 1099511627776) (hle : r.length ≤ l.length) (hge : val r ≤ val l) (K : Value → World → Prop)
    (hK : ∀ v w', Gw .u32 w w' v (limbs (val l - val r)) → K v w') : callK Try.prog 54 [va, vb] w K := by
  obtain ⟨A, c, rfl, hc, hr⟩ := ha
  obtain ⟨B, d, rfl, hd, hs⟩ := hb
  exact less_spec rfl rfl hr hs hL hR h1 hle hge K hK
theorem product_vw {w : World} {va vb : Value} {l r : List Int} (ha : Vw .u32 w va l) (hb : Vw .u32 w vb r) (hL : Lim l) (hR : Lim r) (h1 : l.length ≤ 1099511627776) (h2 : r.length ≤ 1099511627776) (K : Value → World → Prop)
    (hK : ∀ v w', Gw .u32 w w' v (limbs (val l * val r)) → K v w') : callK Try.prog 59 [va, vb] w K := by
  obtain ⟨A, c, rfl, hc, hr⟩ := ha
  obtain ⟨B, d, rfl, hd, hs⟩ := hb
  exact product_spec rfl rfl hr hs hL hR h1 h2 K hK
theorem parts_vw {w : World} {va vb : Value} {l r : List Int} (ha : Vw .u32 w va l) (hb : Vw .u32 w vb r) (hL : Lim l) (hR : Lim r) (h1 : l.length ≤ 549755813888) (h2 : r.length ≤ 549755813888) (hpos : 0 < val r) (K : Value → World → Prop)
    (hK : ∀ u v w', Gw .u32 w w' u (limbs (val l / val r)) → Gw .u32 w w' v (limbs (val l % val r)) → (∀ b, blkOf u = some b → blkOf v ≠ some b) → K (.tuple #[u, v]) w') : callK Try.prog 61 [va, vb] w K := by
  obtain ⟨A, c, rfl, hc, hr⟩ := ha
  obtain ⟨B, d, rfl, hd, hs⟩ := hb
  exact parts_spec rfl rfl hr hs hL hR hc hd h1 h2 hpos K hK
theorem times_nv {w : World} {va vb vm : Value} {a b m : Int} {n : Nat} (ha : Nv w va a) (hb : Nv w vb b) (hm : Nv w vm m) (hpos : 0 < m) (h1 : (limbs a).length ≤ n) (h2 : (limbs b).length ≤ n) (h3 : (limbs m).length ≤ n) (hn : n ≤ 1000000) (K : Value → World → Prop)
    (hK : ∀ v w', Gw .u32 w w' v (limbs (a * b % m)) → K v w') : callK Try.prog 63 [va, vb, vm] w K := by
  refine call_of Try.func63 Code.h63 (by simp [Code.c63]) ?_
  simp (disch := omega) only [EO, ↓EP, EQ, EM, ↓reduceIte, Int.reduceAdd, Int.reduceEq, Int.reduceLE, Int.reduceLT, Int.reduceMul, Int.reduceNeg, Int.reducePow, Int.reduceSub, Int.reduceToNat, Nat.reduceAdd, Nat.reduceEqDiff, Nat.reduceLT, Nat.reduceLeDiff, Nat.reduceMul, reduceCtorEq, Code.c63]
  refine product_vw ha.2 hb.2 (limbs_lim a) (limbs_lim b) (by omega) (by omega) _ fun v1 w1 g1 => ?_
  rw [limbs_val ha.1, limbs_val hb.1] at g1
  have h0 := Int.mul_nonneg ha.1 hb.1
  have hl := len_mul ha.1 hb.1 h1 h2
  simp (disch := omega) only [EO, ↓EP, EQ, EM, ↓reduceIte, Int.reduceAdd, Int.reduceEq, Int.reduceLE, Int.reduceLT, Int.reduceMul, Int.reduceNeg, Int.reducePow, Int.reduceSub, Int.reduceToNat, Nat.reduceAdd, Nat.reduceEqDiff, Nat.reduceLT, Nat.reduceLeDiff, Nat.reduceMul, reduceCtorEq]
  refine parts_vw g1.vw (hm.nb g1.fr).2 (limbs_lim _) (limbs_lim m) (by omega) (by omega) (by rw [limbs_val hm.1]; exact hpos) _ fun u2 v2 w2 _ g2 _ => ?_
  rw [limbs_val h0, limbs_val hm.1] at g2
  simp (disch := omega) only [EO, ↓EP, EQ, EM, ↓reduceIte, Int.reduceAdd, Int.reduceEq, Int.reduceLE, Int.reduceLT, Int.reduceMul, Int.reduceNeg, Int.reducePow, Int.reduceSub, Int.reduceToNat, Nat.reduceAdd, Nat.reduceEqDiff, Nat.reduceLT, Nat.reduceLeDiff, Nat.reduceMul, reduceCtorEq]
  exact hK v2 w2 (g2.from g1.fr)

/-! ### The page's functions -/
theorem add_vw {w : World} {va vb : Value} {l r : List Int} (ha : Vw .u32 w va l) (hb : Vw .u32 w vb r) (hL : Lim l) (hR : Lim r) (K : Value → World → Prop)
    (hK : ∀ v w', Gw .u32 w w' v (addR l r).1 → K (.tuple #[v, .int .i64 (addR l r).2]) w') : callK Try.prog 16 [va, vb] w K := by
  obtain ⟨A, c, rfl, hc, hr⟩ := ha
  obtain ⟨B, d, rfl, hd, hs⟩ := hb
  refine call_of Try.func16 Code.h16 (by simp [Code.c16]) ?_
  simp (disch := omega) only [EO, ↓EP, EQ, EM, ↓reduceIte, Int.reduceAdd, Int.reduceEq, Int.reduceLE, Int.reduceLT, Int.reduceMul, Int.reduceNeg, Int.reducePow, Int.reduceSub, Int.reduceToNat, Nat.reduceAdd, Nat.reduceEqDiff, Nat.reduceLT, Nat.reduceLeDiff, Nat.reduceMul, reduceCtorEq, Code.c16]
  refine bslS2 fun w1 n1 => ?_
  have f1 := n1.fr nob
  simp (disch := omega) only [EO, ↓EP, EQ, EM, ↓reduceIte, Int.reduceAdd, Int.reduceEq, Int.reduceLE, Int.reduceLT, Int.reduceMul, Int.reduceNeg, Int.reducePow, Int.reduceSub, Int.reduceToNat, Nat.reduceAdd, Nat.reduceEqDiff, Nat.reduceLT, Nat.reduceLeDiff, Nat.reduceMul, reduceCtorEq]
  refine long2 n1.rdv (by omega) _ ?_
  by_cases h512 : 512 < l.length ∨ 512 < r.length
  · have e : addR l r = ([], 3) := by unfold addR; rw [if_pos h512]
    rw [e] at hK
    have hb : (decide ((512 : Int) < (l.length : Int)) || decide ((512 : Int) < (r.length : Int))) = true := by simp; omega
    simp (disch := omega) only [EO, ↓EP, EQ, EM, ↓reduceIte, Int.reduceAdd, Int.reduceEq, Int.reduceLE, Int.reduceLT, Int.reduceMul, Int.reduceNeg, Int.reducePow, Int.reduceSub, Int.reduceToNat, Nat.reduceAdd, Nat.reduceEqDiff, Nat.reduceLT, Nat.reduceLeDiff, Nat.reduceMul, reduceCtorEq, hb]
    exact hK _ w1 ((Gw.nil _ _).from f1)
  have hb : (decide ((512 : Int) < (l.length : Int)) || decide ((512 : Int) < (r.length : Int))) = false := by simp; omega
  simp (disch := omega) only [EO, ↓EP, EQ, EM, ↓reduceIte, Int.reduceAdd, Int.reduceEq, Int.reduceLE, Int.reduceLT, Int.reduceMul, Int.reduceNeg, Int.reducePow, Int.reduceSub, Int.reduceToNat, Nat.reduceAdd, Nat.reduceEqDiff, Nat.reduceLT, Nat.reduceLeDiff, Nat.reduceMul, reduceCtorEq, hb]
  refine sum_vw ⟨A, c, rfl, hc, hr.nb f1⟩ ⟨B, d, rfl, hd, hs.nb f1⟩ hL hR (by omega) (by omega) _ fun v w2 g2 => ?_
  have g2' := g2.from f1
  obtain ⟨A2, c2, rfl, hc2, _⟩ := g2.vw
  by_cases hbig : 512 < (limbs (val l + val r)).length
  · have e : addR l r = ([], 3) := by unfold addR; rw [if_neg h512, if_pos hbig]
    rw [e] at hK
    simp (disch := omega) only [EO, ↓EP, EQ, EM, ↓reduceIte, Int.reduceAdd, Int.reduceEq, Int.reduceLE, Int.reduceLT, Int.reduceMul, Int.reduceNeg, Int.reducePow, Int.reduceSub, Int.reduceToNat, Nat.reduceAdd, Nat.reduceEqDiff, Nat.reduceLT, Nat.reduceLeDiff, Nat.reduceMul, reduceCtorEq]
    exact hK _ w2 ((Gw.nil _ _).from g2'.fr)
  · have e : addR l r = (limbs (val l + val r), 0) := by unfold addR; rw [if_neg h512, if_neg hbig]
    rw [e] at hK
    simp (disch := omega) only [EO, ↓EP, EQ, EM, ↓reduceIte, Int.reduceAdd, Int.reduceEq, Int.reduceLE, Int.reduceLT, Int.reduceMul, Int.reduceNeg, Int.reducePow, Int.reduceSub, Int.reduceToNat, Nat.reduceAdd, Nat.reduceEqDiff, Nat.reduceLT, Nat.reduceLeDiff, Nat.reduceMul, reduceCtorEq]
    exact hK _ w2 g2'
theorem sub_vw {w : World} {va vb : Value} {l r : List Int} (ha : Vw .u32 w va l) (hb : Vw .u32 w vb r) (hL : Lim l) (hR : Lim r) (K : Value → World → Prop)
    (hK : ∀ v w', Gw .u32 w w' v (subR l r).1 → K (.tuple #[v, .int .i64 (subR l r).2]) w') : callK Try.prog 18 [va, vb] w K := by
  obtain ⟨A, c, rfl, hc, hr⟩ := ha
  obtain ⟨B, d, rfl, hd, hs⟩ := hb
  have b1 := (val_bd hL).1
  have b2 := (val_bd hR).1
  refine call_of Try.func18 Code.h18 (by simp [Code.c18]) ?_
  simp (disch := omega) only [EO, ↓EP, EQ, EM, ↓reduceIte, Int.reduceAdd, Int.reduceEq, Int.reduceLE, Int.reduceLT, Int.reduceMul, Int.reduceNeg, Int.reducePow, Int.reduceSub, Int.reduceToNat, Nat.reduceAdd, Nat.reduceEqDiff, Nat.reduceLT, Nat.reduceLeDiff, Nat.reduceMul, reduceCtorEq, Code.c18]
  refine bslS2 fun w1 n1 => ?_
  have f1 := n1.fr nob
  simp (disch := omega) only [EO, ↓EP, EQ, EM, ↓reduceIte, Int.reduceAdd, Int.reduceEq, Int.reduceLE, Int.reduceLT, Int.reduceMul, Int.reduceNeg, Int.reducePow, Int.reduceSub, Int.reduceToNat, Nat.reduceAdd, Nat.reduceEqDiff, Nat.reduceLT, Nat.reduceLeDiff, Nat.reduceMul, reduceCtorEq]
  refine long2 n1.rdv (by omega) _ ?_
  by_cases h512 : 512 < l.length ∨ 512 < r.length
  · have e : subR l r = ([], 3) := by unfold subR; rw [if_pos h512]
    rw [e] at hK
    have hb : (decide ((512 : Int) < (l.length : Int)) || decide ((512 : Int) < (r.length : Int))) = true := by simp; omega
    simp (disch := omega) only [EO, ↓EP, EQ, EM, ↓reduceIte, Int.reduceAdd, Int.reduceEq, Int.reduceLE, Int.reduceLT, Int.reduceMul, Int.reduceNeg, Int.reducePow, Int.reduceSub, Int.reduceToNat, Nat.reduceAdd, Nat.reduceEqDiff, Nat.reduceLT, Nat.reduceLeDiff, Nat.reduceMul, reduceCtorEq, hb]
    exact hK _ w1 ((Gw.nil _ _).from f1)
  have hb : (decide ((512 : Int) < (l.length : Int)) || decide ((512 : Int) < (r.length : Int))) = false := by simp; omega
  have ha1 : Vw .u32 w1 (.slice A l.length c) l := ⟨A, c, rfl, hc, hr.nb f1⟩
  have hb1 : Vw .u32 w1 (.slice B r.length d) r := ⟨B, d, rfl, hd, hs.nb f1⟩
  simp (disch := omega) only [EO, ↓EP, EQ, EM, ↓reduceIte, Int.reduceAdd, Int.reduceEq, Int.reduceLE, Int.reduceLT, Int.reduceMul, Int.reduceNeg, Int.reducePow, Int.reduceSub, Int.reduceToNat, Nat.reduceAdd, Nat.reduceEqDiff, Nat.reduceLT, Nat.reduceLeDiff, Nat.reduceMul, reduceCtorEq, hb]
  refine cmp_vw ha1 hb1 hL hR (by omega) (by omega) _ fun w2 f2 => ?_
  by_cases hlt : val l < val r
  · have e : subR l r = ([], 10) := by unfold subR; rw [if_neg h512, if_pos hlt]
    rw [e] at hK
    rw [cmp_lt hlt]
    simp (disch := omega) only [EO, ↓EP, EQ, EM, ↓reduceIte, Int.reduceAdd, Int.reduceEq, Int.reduceLE, Int.reduceLT, Int.reduceMul, Int.reduceNeg, Int.reducePow, Int.reduceSub, Int.reduceToNat, Nat.reduceAdd, Nat.reduceEqDiff, Nat.reduceLT, Nat.reduceLeDiff, Nat.reduceMul, reduceCtorEq]
    exact hK _ w2 ((Gw.nil _ _).from (f1.nb f2))
  have e : subR l r = (limbs (val l - val r), 0) := by unfold subR; rw [if_neg h512, if_neg hlt]
  rw [e] at hK
  have hc0 : 0 ≤ cmpI (val l) (val r) := by unfold cmpI; rw [if_neg hlt]; split <;> omega
  generalize cmpI (val l) (val r) = cm at *
  simp (disch := omega) only [EO, ↓EP, EQ, EM, ↓reduceIte, Int.reduceAdd, Int.reduceEq, Int.reduceLE, Int.reduceLT, Int.reduceMul, Int.reduceNeg, Int.reducePow, Int.reduceSub, Int.reduceToNat, Nat.reduceAdd, Nat.reduceEqDiff, Nat.reduceLT, Nat.reduceLeDiff, Nat.reduceMul, reduceCtorEq]
  refine cut_vw (ha1.nb f2) hL (by omega) _ fun v3 h3 => ?_
  simp (disch := omega) only [EO, ↓EP, EQ, EM, ↓reduceIte, Int.reduceAdd, Int.reduceEq, Int.reduceLE, Int.reduceLT, Int.reduceMul, Int.reduceNeg, Int.reducePow, Int.reduceSub, Int.reduceToNat, Nat.reduceAdd, Nat.reduceEqDiff, Nat.reduceLT, Nat.reduceLeDiff, Nat.reduceMul, reduceCtorEq]
  refine cut_vw (hb1.nb f2) hR (by omega) _ fun v4 h4 => ?_
  have k1 := len_val hL
  have k2 := len_mono b2 (show val r ≤ val l by omega)
  simp (disch := omega) only [EO, ↓EP, EQ, EM, ↓reduceIte, Int.reduceAdd, Int.reduceEq, Int.reduceLE, Int.reduceLT, Int.reduceMul, Int.reduceNeg, Int.reducePow, Int.reduceSub, Int.reduceToNat, Nat.reduceAdd, Nat.reduceEqDiff, Nat.reduceLT, Nat.reduceLeDiff, Nat.reduceMul, reduceCtorEq]
  refine less_vw h3.2 h4.2 (limbs_lim _) (limbs_lim _) (by omega) k2 (by rw [limbs_val b1, limbs_val b2]; omega) _ fun v5 w5 g5 => ?_
  rw [limbs_val b1, limbs_val b2] at g5
  simp (disch := omega) only [EO, ↓EP, EQ, EM, ↓reduceIte, Int.reduceAdd, Int.reduceEq, Int.reduceLE, Int.reduceLT, Int.reduceMul, Int.reduceNeg, Int.reducePow, Int.reduceSub, Int.reduceToNat, Nat.reduceAdd, Nat.reduceEqDiff, Nat.reduceLT, Nat.reduceLeDiff, Nat.reduceMul, reduceCtorEq]
  exact hK _ w5 (g5.from (f1.nb f2))
theorem mul_vw {w : World} {va vb : Value} {l r : List Int} (ha : Vw .u32 w va l) (hb : Vw .u32 w vb r) (hL : Lim l) (hR : Lim r) (K : Value → World → Prop)
    (hK : ∀ v w', Gw .u32 w w' v (mulR l r).1 → K (.tuple #[v, .int .i64 (mulR l r).2]) w') : callK Try.prog 30 [va, vb] w K := by
  obtain ⟨A, c, rfl, hc, hr⟩ := ha
  obtain ⟨B, d, rfl, hd, hs⟩ := hb
  have b1 := (val_bd hL).1
  have b2 := (val_bd hR).1
  refine call_of Try.func30 Code.h30 (by simp [Code.c30]) ?_
  simp (disch := omega) only [EO, ↓EP, EQ, EM, ↓reduceIte, Int.reduceAdd, Int.reduceEq, Int.reduceLE, Int.reduceLT, Int.reduceMul, Int.reduceNeg, Int.reducePow, Int.reduceSub, Int.reduceToNat, Nat.reduceAdd, Nat.reduceEqDiff, Nat.reduceLT, Nat.reduceLeDiff, Nat.reduceMul, reduceCtorEq, Code.c30]
  refine bslS2 fun w1 n1 => ?_
  have f1 := n1.fr nob
  simp (disch := omega) only [EO, ↓EP, EQ, EM, ↓reduceIte, Int.reduceAdd, Int.reduceEq, Int.reduceLE, Int.reduceLT, Int.reduceMul, Int.reduceNeg, Int.reducePow, Int.reduceSub, Int.reduceToNat, Nat.reduceAdd, Nat.reduceEqDiff, Nat.reduceLT, Nat.reduceLeDiff, Nat.reduceMul, reduceCtorEq]
  refine long2 n1.rdv (by omega) _ ?_
  by_cases h512 : 512 < l.length ∨ 512 < r.length
  · have e : mulR l r = ([], 3) := by unfold mulR; rw [if_pos h512]
    rw [e] at hK
    have hb : (decide ((512 : Int) < (l.length : Int)) || decide ((512 : Int) < (r.length : Int))) = true := by simp; omega
    simp (disch := omega) only [EO, ↓EP, EQ, EM, ↓reduceIte, Int.reduceAdd, Int.reduceEq, Int.reduceLE, Int.reduceLT, Int.reduceMul, Int.reduceNeg, Int.reducePow, Int.reduceSub, Int.reduceToNat, Nat.reduceAdd, Nat.reduceEqDiff, Nat.reduceLT, Nat.reduceLeDiff, Nat.reduceMul, reduceCtorEq, hb]
    exact hK _ w1 ((Gw.nil _ _).from f1)
  have hb : (decide ((512 : Int) < (l.length : Int)) || decide ((512 : Int) < (r.length : Int))) = false := by simp; omega
  have ha1 : Vw .u32 w1 (.slice A l.length c) l := ⟨A, c, rfl, hc, hr.nb f1⟩
  have hb1 : Vw .u32 w1 (.slice B r.length d) r := ⟨B, d, rfl, hd, hs.nb f1⟩
  simp (disch := omega) only [EO, ↓EP, EQ, EM, ↓reduceIte, Int.reduceAdd, Int.reduceEq, Int.reduceLE, Int.reduceLT, Int.reduceMul, Int.reduceNeg, Int.reducePow, Int.reduceSub, Int.reduceToNat, Nat.reduceAdd, Nat.reduceEqDiff, Nat.reduceLT, Nat.reduceLeDiff, Nat.reduceMul, reduceCtorEq, hb]
  refine cut_vw ha1 hL (by omega) _ fun v3 h3 => ?_
  simp (disch := omega) only [EO, ↓EP, EQ, EM, ↓reduceIte, Int.reduceAdd, Int.reduceEq, Int.reduceLE, Int.reduceLT, Int.reduceMul, Int.reduceNeg, Int.reducePow, Int.reduceSub, Int.reduceToNat, Nat.reduceAdd, Nat.reduceEqDiff, Nat.reduceLT, Nat.reduceLeDiff, Nat.reduceMul, reduceCtorEq]
  refine cut_vw hb1 hR (by omega) _ fun v4 h4 => ?_
  have k1 := len_val hL
  have k2 := len_val hR
  simp (disch := omega) only [EO, ↓EP, EQ, EM, ↓reduceIte, Int.reduceAdd, Int.reduceEq, Int.reduceLE, Int.reduceLT, Int.reduceMul, Int.reduceNeg, Int.reducePow, Int.reduceSub, Int.reduceToNat, Nat.reduceAdd, Nat.reduceEqDiff, Nat.reduceLT, Nat.reduceLeDiff, Nat.reduceMul, reduceCtorEq]
  refine product_vw h3.2 h4.2 (limbs_lim _) (limbs_lim _) (by omega) (by omega) _ fun v5 w5 g5 => ?_
  rw [limbs_val b1, limbs_val b2] at g5
  have g2' := g5.from f1
  obtain ⟨A2, c2, rfl, hc2, _⟩ := g5.vw
  by_cases hbig : 512 < (limbs (val l * val r)).length
  · have e : mulR l r = ([], 3) := by unfold mulR; rw [if_neg h512, if_pos hbig]
    rw [e] at hK
    simp (disch := omega) only [EO, ↓EP, EQ, EM, ↓reduceIte, Int.reduceAdd, Int.reduceEq, Int.reduceLE, Int.reduceLT, Int.reduceMul, Int.reduceNeg, Int.reducePow, Int.reduceSub, Int.reduceToNat, Nat.reduceAdd, Nat.reduceEqDiff, Nat.reduceLT, Nat.reduceLeDiff, Nat.reduceMul, reduceCtorEq]
    exact hK _ w5 ((Gw.nil _ _).from g2'.fr)
  · have e : mulR l r = (limbs (val l * val r), 0) := by unfold mulR; rw [if_neg h512, if_neg hbig]
    rw [e] at hK
    simp (disch := omega) only [EO, ↓EP, EQ, EM, ↓reduceIte, Int.reduceAdd, Int.reduceEq, Int.reduceLE, Int.reduceLT, Int.reduceMul, Int.reduceNeg, Int.reducePow, Int.reduceSub, Int.reduceToNat, Nat.reduceAdd, Nat.reduceEqDiff, Nat.reduceLT, Nat.reduceLeDiff, Nat.reduceMul, reduceCtorEq]
    exact hK _ w5 g2'
theorem divmod_vw {w : World} {va vb : Value} {l r : List Int} (ha : Vw .u32 w va l) (hb : Vw .u32 w vb r) (hL : Lim l) (hR : Lim r) (K : Value → World → Prop)
    (hK : ∀ u v w', Gw .u32 w w' u (divR l r).1 → Gw .u32 w w' v (divR l r).2.1 → (∀ b, blkOf u = some b → blkOf v ≠ some b) → K (.tuple #[u, v, .int .i64 (divR l r).2.2]) w') : callK Try.prog 32 [va, vb] w K := by
  obtain ⟨A, c, rfl, hc, hr⟩ := ha
  obtain ⟨B, d, rfl, hd, hs⟩ := hb
  have b1 := (val_bd hL).1
  have b2 := (val_bd hR).1
  refine call_of Try.func32 Code.h32 (by simp [Code.c32]) ?_
  simp (disch := omega) only [EO, ↓EP, EQ, EM, ↓reduceIte, Int.reduceAdd, Int.reduceEq, Int.reduceLE, Int.reduceLT, Int.reduceMul, Int.reduceNeg, Int.reducePow, Int.reduceSub, Int.reduceToNat, Nat.reduceAdd, Nat.reduceEqDiff, Nat.reduceLT, Nat.reduceLeDiff, Nat.reduceMul, reduceCtorEq, Code.c32]
  refine bslS2 fun w1 n1 => ?_
  have f1 := n1.fr nob
  simp (disch := omega) only [EO, ↓EP, EQ, EM, ↓reduceIte, Int.reduceAdd, Int.reduceEq, Int.reduceLE, Int.reduceLT, Int.reduceMul, Int.reduceNeg, Int.reducePow, Int.reduceSub, Int.reduceToNat, Nat.reduceAdd, Nat.reduceEqDiff, Nat.reduceLT, Nat.reduceLeDiff, Nat.reduceMul, reduceCtorEq]
  refine long2 n1.rdv (by omega) _ ?_
  by_cases h512 : 512 < l.length ∨ 512 < r.length
  · have e : divR l r = ([], [], 3) := by unfold divR; rw [if_pos h512]
    rw [e] at hK
    have hb : (decide ((512 : Int) < (l.length : Int)) || decide ((512 : Int) < (r.length : Int))) = true := by simp; omega
    simp (disch := omega) only [EO, ↓EP, EQ, EM, ↓reduceIte, Int.reduceAdd, Int.reduceEq, Int.reduceLE, Int.reduceLT, Int.reduceMul, Int.reduceNeg, Int.reducePow, Int.reduceSub, Int.reduceToNat, Nat.reduceAdd, Nat.reduceEqDiff, Nat.reduceLT, Nat.reduceLeDiff, Nat.reduceMul, reduceCtorEq, hb]
    exact hK _ _ w1 ((Gw.nil _ _).from f1) ((Gw.nil _ _).from f1) (fun b e => by cases e)
  have hb : (decide ((512 : Int) < (l.length : Int)) || decide ((512 : Int) < (r.length : Int))) = false := by simp; omega
  have ha1 : Vw .u32 w1 (.slice A l.length c) l := ⟨A, c, rfl, hc, hr.nb f1⟩
  have hb1 : Vw .u32 w1 (.slice B r.length d) r := ⟨B, d, rfl, hd, hs.nb f1⟩
  simp (disch := omega) only [EO, ↓EP, EQ, EM, ↓reduceIte, Int.reduceAdd, Int.reduceEq, Int.reduceLE, Int.reduceLT, Int.reduceMul, Int.reduceNeg, Int.reducePow, Int.reduceSub, Int.reduceToNat, Nat.reduceAdd, Nat.reduceEqDiff, Nat.reduceLT, Nat.reduceLeDiff, Nat.reduceMul, reduceCtorEq, hb]
  refine bits_vw hb1 hR (by omega) _ ?_
  by_cases h0 : val r = 0
  · have e : divR l r = ([], [], 11) := by unfold divR; rw [if_neg h512, if_pos h0]
    rw [e] at hK
    simp (disch := omega) only [EO, ↓EP, EQ, EM, ↓reduceIte, Int.reduceAdd, Int.reduceEq, Int.reduceLE, Int.reduceLT, Int.reduceMul, Int.reduceNeg, Int.reducePow, Int.reduceSub, Int.reduceToNat, Nat.reduceAdd, Nat.reduceEqDiff, Nat.reduceLT, Nat.reduceLeDiff, Nat.reduceMul, reduceCtorEq, h0, bl_zero, Int.natCast_zero]
    exact hK _ _ w1 ((Gw.nil _ _).from f1) ((Gw.nil _ _).from f1) (fun b e => by cases e)
  have e : divR l r = (limbs (val l / val r), limbs (val l % val r), 0) := by unfold divR; rw [if_neg h512, if_neg h0]
  rw [e] at hK
  obtain ⟨k, hk, _, _⟩ := bl_pos (v := val r) (by omega)
  have hf : (((bl (val r) : Nat) : Int) = 0) = False := eq_false (by omega)
  simp (disch := omega) only [EO, ↓EP, EQ, EM, ↓reduceIte, Int.reduceAdd, Int.reduceEq, Int.reduceLE, Int.reduceLT, Int.reduceMul, Int.reduceNeg, Int.reducePow, Int.reduceSub, Int.reduceToNat, Nat.reduceAdd, Nat.reduceEqDiff, Nat.reduceLT, Nat.reduceLeDiff, Nat.reduceMul, reduceCtorEq, hf]
  refine parts_vw ha1 hb1 hL hR (by omega) (by omega) (by omega) _ fun u2 v2 w2 g1 g2 hne => ?_
  simp (disch := omega) only [EO, ↓EP, EQ, EM, ↓reduceIte, Int.reduceAdd, Int.reduceEq, Int.reduceLE, Int.reduceLT, Int.reduceMul, Int.reduceNeg, Int.reducePow, Int.reduceSub, Int.reduceToNat, Nat.reduceAdd, Nat.reduceEqDiff, Nat.reduceLT, Nat.reduceLeDiff, Nat.reduceMul, reduceCtorEq]
  exact hK u2 v2 w2 (g1.from f1) (g2.from f1) hne
theorem val_two (a b : Int) : val [a, b] = a + 4294967296 * b := by rw [val_cons, val_one]
theorem small_spec {w : World} (n : Int) (h0 : 0 ≤ n) (h1 : n < 18446744073709551616) (K : Value → World → Prop)
    (hK : ∀ v w', Gw .u32 w w' v (limbs n) → K v w') : callK Try.prog 45 [.int .u64 n] w K := by
  refine call_of Try.func45 Code.h45 (by simp [Code.c45]) ?_
  simp (disch := omega) only [wu64, wu32, wu8, fdiv_nn, EO, ↓EP, EQ, EM, ↓reduceIte, Int.reduceAdd, Int.reduceEq, Int.reduceLE, Int.reduceLT, Int.reduceMul, Int.reduceNeg, Int.reducePow, Int.reduceSub, Int.reduceToNat, Nat.reduceAdd, Nat.reduceEqDiff, Nat.reduceLT, Nat.reduceLeDiff, Nat.reduceMul, reduceCtorEq, Code.c45, wu32_mod]
  refine bsl2 fun w1 n1 => ?_
  simp (disch := omega) only [EO, ↓EP, EQ, EM, ↓reduceIte, Int.reduceAdd, Int.reduceEq, Int.reduceLE, Int.reduceLT, Int.reduceMul, Int.reduceNeg, Int.reducePow, Int.reduceSub, Int.reduceToNat, Nat.reduceAdd, Nat.reduceEqDiff, Nat.reduceLT, Nat.reduceLeDiff, Nat.reduceMul, reduceCtorEq]
  refine trim_vw (n1.vw rfl) (Lim.mk (by omega) (by omega) (Lim.mk (by omega) (by omega) Lim.nil)) (by simp) _ fun v w2 g2 => ?_
  have e : val [n % 4294967296, n / 4294967296] = n := by rw [val_two]; omega
  rw [e] at g2
  simp (disch := omega) only [EO, ↓EP, EQ, EM, ↓reduceIte, Int.reduceAdd, Int.reduceEq, Int.reduceLE, Int.reduceLT, Int.reduceMul, Int.reduceNeg, Int.reducePow, Int.reduceSub, Int.reduceToNat, Nat.reduceAdd, Nat.reduceEqDiff, Nat.reduceLT, Nat.reduceLeDiff, Nat.reduceMul, reduceCtorEq]
  exact hK v w2 (g2.from (n1.fr nob))
end Go.Proofs.Ytbgfebhhejlakaa.Spec
