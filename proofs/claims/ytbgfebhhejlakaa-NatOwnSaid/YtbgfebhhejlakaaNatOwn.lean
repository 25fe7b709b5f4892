/- NatOwn: whatever the two lists, the law answers true. -/
import Derived.Test.YtbgfebhhejlakaaNatR
set_option linter.unusedVariables false
set_option linter.unusedSimpArgs false
namespace Go.Proofs.Ytbgfebhhejlakaa.Spec
open Go Go.RowKit Go.Proofs Go.Proofs.Ytbgfebhhejlakaa.Eng Go.Proofs.Ytbgfebhhejlakaa.Code Go.Proofs.Ytbgfebhhejlakaa.Big
set_option maxRecDepth 100000
attribute [local irreducible] callK S.W opsW scrW
theorem bslS6 {e : Nat} {A1 A2 A3 A4 A5 A6 : Option Addr} {n1 c1 n2 c2 n3 c3 n4 c4 n5 c5 n6 c6 : Nat} {w : World} {K : Value → World → Prop} (hK : ∀ w', New w w' [.slice A1 n1 c1, .slice A2 n2 c2, .slice A3 n3 c3, .slice A4 n4 c4, .slice A5 n5 c5, .slice A6 n6 c6] → K (.slice (some ⟨w.heap.size, 0, none⟩) 6 6) w') :
    bslT e 1 6 #[.slice none 0 0] [(0, .slice A1 n1 c1), (1, .slice A2 n2 c2), (2, .slice A3 n3 c3), (3, .slice A4 n4 c4), (4, .slice A5 n5 c5), (5, .slice A6 n6 c6)] w K .mk :=
  ⟨#[.slice A1 n1 c1, .slice A2 n2 c2, .slice A3 n3 c3, .slice A4 n4 c4, .slice A5 n5 c5, .slice A6 n6 c6], by kernel_rfl, hK _ (new_of rfl rfl)⟩
theorem gw_slice {k : IntKind} {w w' : World} {v : Value} {l : List Int} (g : Gw k w w' v l) : ∃ B d, v = .slice B l.length d := by
  obtain ⟨B, d, e, _⟩ := g.vw
  exact ⟨B, d, e⟩
theorem lnt_vw {k : IntKind} {w0 w : World} {v : Value} {l : List Int} {x y : Int} (h : Lnt k w0 w v l x y) : Vw k w v l := by
  obtain ⟨b, c, rfl, hc, _, hr⟩ := h.read
  exact ⟨_, c, rfl, by omega, hr⟩
theorem lnt_lt {k : IntKind} {w0 w : World} {v : Value} {l : List Int} {x y : Int} (h : Lnt k w0 w v l x y) {b : Nat} (e : blkOf v = some b) : b < w.heap.size := by
  obtain ⟨b', pad, rfl, hB, _⟩ := h.ex
  cases e; exact hB.lt
theorem lent_vw {w : World} {va : Value} {l : List Int} (ha : Vw .u32 w va l) (h : l.length ≤ 35184372088824) (K : Value → World → Prop)
    (hK : ∀ v w', Lnt .u32 w w' v l 57005 48879 → Fr w w' nob → K v w') : callK Try.prog 15 [va] w K := by
  obtain ⟨A, c, rfl, hc, hr⟩ := ha
  exact lentN_spec rfl hr h K hK
theorem kept_vw {w0 w : World} {v vb : Value} {l : List Int} (hv : Lnt .u32 w0 w v l 57005 48879) (hb : Vw .u32 w vb l) (h : l.length ≤ 35184372088824) (K : Value → World → Prop)
    (hK : ∀ w', Fr w w' nob → K (.bool true) w') : callK Try.prog 28 [v, vb] w K := by
  obtain ⟨A, c, rfl, hc, hr⟩ := hb
  exact keptN_spec hv rfl hr h K hK
theorem lnt_nb {k : IntKind} {w0 w w' : World} {v : Value} {l : List Int} {x y : Int} (h : Lnt k w0 w v l x y) (f : Fr w w' nob) : Lnt k w0 w' v l x y := h.fr f fun _ _ e => e
theorem vw_fr {k : IntKind} {w w' : World} {v : Value} {l : List Int} {P : Nat → Prop} (h : Vw k w v l) (f : Fr w w' P) (hp : ∀ b, b < w.heap.size → ¬ P b) : Vw k w' v l := by
  obtain ⟨A, c, e, hc, hr⟩ := h
  refine ⟨A, c, e, hc, ?_⟩
  rcases hr with hn | ⟨p, hA, hlt, hcl⟩
  · exact .inl hn
  · exact Rd.fr (.inr ⟨p, hA, hlt, hcl⟩) f (.inr fun q hq => by rw [hA] at hq; cases hq; exact hp _ hlt)
theorem xor_bd {x : Int} (h : 0 ≤ x ∧ x < 4294967296) : 0 ≤ bits .xor .u32 x 1 ∧ bits .xor .u32 x 1 < 4294967296 := by
  rw [u32_xor _ _ (by omega) (by omega) (by omega) (by omega)]
  have := xor_lt (a := x.toNat) (b := (1 : Int).toNat) (by omega) (by decide)
  omega
/-- The lists from the i-th on. -/
structure Six (w : World) (vs : List Value) (i : Nat) : Prop where
  each : ∀ (j : Nat) (v : Value), i ≤ j → vs[j]? = some v → ∃ l, Sl .u32 w v l ∧ Lim l ∧ l.length ≤ 600
structure SixS (vs : List Value) (base lb : Nat) : Prop where
  len : vs.length = 6
  sep : ∀ (j k : Nat) (v v' : Value) (b : Nat), j ≠ k → vs[j]? = some v → vs[k]? = some v' → blkOf v = some b → blkOf v' ≠ some b
  bd : ∀ (j : Nat) (v : Value) (b : Nat), vs[j]? = some v → blkOf v = some b → base ≤ b ∧ b < lb
theorem get6 {a b c d e f v : Value} {j : Nat} (h : [a, b, c, d, e, f][j]? = some v) : (j = 0 ∧ a = v) ∨ (j = 1 ∧ b = v) ∨ (j = 2 ∧ c = v) ∨ (j = 3 ∧ d = v) ∨ (j = 4 ∧ e = v) ∨ (j = 5 ∧ f = v) := by
  match j, h with
  | 0, h => exact .inl ⟨rfl, Option.some.inj h⟩
  | 1, h => exact .inr (.inl ⟨rfl, Option.some.inj h⟩)
  | 2, h => exact .inr (.inr (.inl ⟨rfl, Option.some.inj h⟩))
  | 3, h => exact .inr (.inr (.inr (.inl ⟨rfl, Option.some.inj h⟩)))
  | 4, h => exact .inr (.inr (.inr (.inr (.inl ⟨rfl, Option.some.inj h⟩))))
  | 5, h => exact .inr (.inr (.inr (.inr (.inr ⟨rfl, Option.some.inj h⟩))))
  | n + 6, h => simp at h
set_option maxHeartbeats 4000000 in
theorem own_law {w0 : World} {va vb : Value} {a b : List Int} (ha : Vw .u32 w0 va a) (hb : Vw .u32 w0 vb b) (hA : Lim a) (hB : Lim b) (K : Value → World → Prop)
    (hK : ∀ w', Fr w0 w' nob → K (.bool true) w') : callK Try.prog 12 [va, vb] w0 K := by
  obtain ⟨A1, c1, e1, hc1, hr1⟩ := id ha
  obtain ⟨A2, c2, e2, hc2, hr2⟩ := id hb
  have b1 := (val_bd hA).1
  have b2 := (val_bd hB).1
  refine call_of Try.func12 Code.h12 (by simp [Code.c12]) ?_
  by_cases h1 : (100 : Int) < (a.length : Int)
  · simp (disch := omega) only [w64, tmod_nn, tdiv_nn, eq_t, eq_f, lt_t, lt_f, le_t, le_f, nlt_t, nlt_f, nle_t, nle_f, ↓EP, EQ, ↓reduceIte, Option.isSome_some, List.getElem?_cons_zero, List.getElem?_cons_succ, List.length_cons, List.length_nil, List.map_cons, List.map_nil, List.take_succ_cons, List.take_zero, List.drop_succ_cons, List.drop_zero, Option.map_none, Option.map_some, Option.getD_none, Option.getD_some, decide_true, decide_false, decide_eq_true_eq, true_and, and_true, Bool.not_eq_true', decide_eq_false_iff_not, if_true, if_false, not_false_eq_true, not_true_eq_false, Bool.false_eq_true, ne_eq, Nat.min_eq_left, Option.some.injEq, exists_eq_left', forall_eq', Int.reduceAdd, Int.reduceEq, Int.reduceLE, Int.reduceLT, Int.reduceMul, Int.reduceNeg, Int.reducePow, Int.reduceSub, Int.reduceToNat, Nat.reduceAdd, Nat.reduceEqDiff, Nat.reduceLT, Nat.reduceLeDiff, Nat.reduceMul, reduceCtorEq, Code.c12, e1]
    refine live_spec _ _ fun w1 f1 => ?_
    simp (disch := omega) only [w64, tmod_nn, tdiv_nn, eq_t, eq_f, lt_t, lt_f, le_t, le_f, nlt_t, nlt_f, nle_t, nle_f, ↓EP, EQ, ↓reduceIte, Option.isSome_some, List.getElem?_cons_zero, List.getElem?_cons_succ, List.length_cons, List.length_nil, List.map_cons, List.map_nil, List.take_succ_cons, List.take_zero, List.drop_succ_cons, List.drop_zero, Option.map_none, Option.map_some, Option.getD_none, Option.getD_some, decide_true, decide_false, decide_eq_true_eq, true_and, and_true, Bool.not_eq_true', decide_eq_false_iff_not, if_true, if_false, not_false_eq_true, not_true_eq_false, Bool.false_eq_true, ne_eq, Nat.min_eq_left, Option.some.injEq, exists_eq_left', forall_eq', Int.reduceAdd, Int.reduceEq, Int.reduceLE, Int.reduceLT, Int.reduceMul, Int.reduceNeg, Int.reducePow, Int.reduceSub, Int.reduceToNat, Nat.reduceAdd, Nat.reduceEqDiff, Nat.reduceLT, Nat.reduceLeDiff, Nat.reduceMul, reduceCtorEq]
    exact hK w1 f1
  by_cases h2 : (100 : Int) < (b.length : Int)
  · simp (disch := omega) only [w64, tmod_nn, tdiv_nn, eq_t, eq_f, lt_t, lt_f, le_t, le_f, nlt_t, nlt_f, nle_t, nle_f, ↓EP, EQ, ↓reduceIte, Option.isSome_some, List.getElem?_cons_zero, List.getElem?_cons_succ, List.length_cons, List.length_nil, List.map_cons, List.map_nil, List.take_succ_cons, List.take_zero, List.drop_succ_cons, List.drop_zero, Option.map_none, Option.map_some, Option.getD_none, Option.getD_some, decide_true, decide_false, decide_eq_true_eq, true_and, and_true, Bool.not_eq_true', decide_eq_false_iff_not, if_true, if_false, not_false_eq_true, not_true_eq_false, Bool.false_eq_true, ne_eq, Nat.min_eq_left, Option.some.injEq, exists_eq_left', forall_eq', Int.reduceAdd, Int.reduceEq, Int.reduceLE, Int.reduceLT, Int.reduceMul, Int.reduceNeg, Int.reducePow, Int.reduceSub, Int.reduceToNat, Nat.reduceAdd, Nat.reduceEqDiff, Nat.reduceLT, Nat.reduceLeDiff, Nat.reduceMul, reduceCtorEq, Code.c12, e1, e2]
    refine live_spec _ _ fun w1 f1 => ?_
    simp (disch := omega) only [w64, tmod_nn, tdiv_nn, eq_t, eq_f, lt_t, lt_f, le_t, le_f, nlt_t, nlt_f, nle_t, nle_f, ↓EP, EQ, ↓reduceIte, Option.isSome_some, List.getElem?_cons_zero, List.getElem?_cons_succ, List.length_cons, List.length_nil, List.map_cons, List.map_nil, List.take_succ_cons, List.take_zero, List.drop_succ_cons, List.drop_zero, Option.map_none, Option.map_some, Option.getD_none, Option.getD_some, decide_true, decide_false, decide_eq_true_eq, true_and, and_true, Bool.not_eq_true', decide_eq_false_iff_not, if_true, if_false, not_false_eq_true, not_true_eq_false, Bool.false_eq_true, ne_eq, Nat.min_eq_left, Option.some.injEq, exists_eq_left', forall_eq', Int.reduceAdd, Int.reduceEq, Int.reduceLE, Int.reduceLT, Int.reduceMul, Int.reduceNeg, Int.reducePow, Int.reduceSub, Int.reduceToNat, Nat.reduceAdd, Nat.reduceEqDiff, Nat.reduceLT, Nat.reduceLeDiff, Nat.reduceMul, reduceCtorEq]
    exact hK w1 f1
  simp (disch := omega) only [w64, tmod_nn, tdiv_nn, eq_t, eq_f, lt_t, lt_f, le_t, le_f, nlt_t, nlt_f, nle_t, nle_f, ↓EP, EQ, ↓reduceIte, Option.isSome_some, List.getElem?_cons_zero, List.getElem?_cons_succ, List.length_cons, List.length_nil, List.map_cons, List.map_nil, List.take_succ_cons, List.take_zero, List.drop_succ_cons, List.drop_zero, Option.map_none, Option.map_some, Option.getD_none, Option.getD_some, decide_true, decide_false, decide_eq_true_eq, true_and, and_true, Bool.not_eq_true', decide_eq_false_iff_not, if_true, if_false, not_false_eq_true, not_true_eq_false, Bool.false_eq_true, ne_eq, Nat.min_eq_left, Option.some.injEq, exists_eq_left', forall_eq', Int.reduceAdd, Int.reduceEq, Int.reduceLE, Int.reduceLT, Int.reduceMul, Int.reduceNeg, Int.reducePow, Int.reduceSub, Int.reduceToNat, Nat.reduceAdd, Nat.reduceEqDiff, Nat.reduceLT, Nat.reduceLeDiff, Nat.reduceMul, reduceCtorEq, Code.c12, e1, e2]
  rw [← e1, ← e2]
  refine lent_vw ha (by omega) _ fun vc w1 L1 f1 => ?_
  simp (disch := omega) only [w64, tmod_nn, tdiv_nn, eq_t, eq_f, lt_t, lt_f, le_t, le_f, nlt_t, nlt_f, nle_t, nle_f, ↓EP, EQ, ↓reduceIte, Option.isSome_some, List.getElem?_cons_zero, List.getElem?_cons_succ, List.length_cons, List.length_nil, List.map_cons, List.map_nil, List.take_succ_cons, List.take_zero, List.drop_succ_cons, List.drop_zero, Option.map_none, Option.map_some, Option.getD_none, Option.getD_some, decide_true, decide_false, decide_eq_true_eq, true_and, and_true, Bool.not_eq_true', decide_eq_false_iff_not, if_true, if_false, not_false_eq_true, not_true_eq_false, Bool.false_eq_true, ne_eq, Nat.min_eq_left, Option.some.injEq, exists_eq_left', forall_eq', Int.reduceAdd, Int.reduceEq, Int.reduceLE, Int.reduceLT, Int.reduceMul, Int.reduceNeg, Int.reducePow, Int.reduceSub, Int.reduceToNat, Nat.reduceAdd, Nat.reduceEqDiff, Nat.reduceLT, Nat.reduceLeDiff, Nat.reduceMul, reduceCtorEq]
  refine lent_vw (hb.nb f1) (by omega) _ fun vd w2 L2 f2 => ?_
  have L1 := lnt_nb L1 f2
  have hc := lnt_vw L1
  have hd := lnt_vw L2
  simp (disch := omega) only [w64, tmod_nn, tdiv_nn, eq_t, eq_f, lt_t, lt_f, le_t, le_f, nlt_t, nlt_f, nle_t, nle_f, ↓EP, EQ, ↓reduceIte, Option.isSome_some, List.getElem?_cons_zero, List.getElem?_cons_succ, List.length_cons, List.length_nil, List.map_cons, List.map_nil, List.take_succ_cons, List.take_zero, List.drop_succ_cons, List.drop_zero, Option.map_none, Option.map_some, Option.getD_none, Option.getD_some, decide_true, decide_false, decide_eq_true_eq, true_and, and_true, Bool.not_eq_true', decide_eq_false_iff_not, if_true, if_false, not_false_eq_true, not_true_eq_false, Bool.false_eq_true, ne_eq, Nat.min_eq_left, Option.some.injEq, exists_eq_left', forall_eq', Int.reduceAdd, Int.reduceEq, Int.reduceLE, Int.reduceLT, Int.reduceMul, Int.reduceNeg, Int.reducePow, Int.reduceSub, Int.reduceToNat, Nat.reduceAdd, Nat.reduceEqDiff, Nat.reduceLT, Nat.reduceLeDiff, Nat.reduceMul, reduceCtorEq]
  refine trim_vw hc hA (by omega) _ fun v3 w3 g3 => ?_
  have f3 := g3.fr
  simp (disch := omega) only [w64, tmod_nn, tdiv_nn, eq_t, eq_f, lt_t, lt_f, le_t, le_f, nlt_t, nlt_f, nle_t, nle_f, ↓EP, EQ, ↓reduceIte, Option.isSome_some, List.getElem?_cons_zero, List.getElem?_cons_succ, List.length_cons, List.length_nil, List.map_cons, List.map_nil, List.take_succ_cons, List.take_zero, List.drop_succ_cons, List.drop_zero, Option.map_none, Option.map_some, Option.getD_none, Option.getD_some, decide_true, decide_false, decide_eq_true_eq, true_and, and_true, Bool.not_eq_true', decide_eq_false_iff_not, if_true, if_false, not_false_eq_true, not_true_eq_false, Bool.false_eq_true, ne_eq, Nat.min_eq_left, Option.some.injEq, exists_eq_left', forall_eq', Int.reduceAdd, Int.reduceEq, Int.reduceLE, Int.reduceLT, Int.reduceMul, Int.reduceNeg, Int.reducePow, Int.reduceSub, Int.reduceToNat, Nat.reduceAdd, Nat.reduceEqDiff, Nat.reduceLT, Nat.reduceLeDiff, Nat.reduceMul, reduceCtorEq]
  refine add_ok (n := 100) (hc.nb f3) (hd.nb f3) hA hB rfl rfl (by omega) (by omega) (by omega) _ fun v4 w4 g4 m4 k4 => ?_
  have f4 := g4.fr
  simp (disch := omega) only [w64, tmod_nn, tdiv_nn, eq_t, eq_f, lt_t, lt_f, le_t, le_f, nlt_t, nlt_f, nle_t, nle_f, ↓EP, EQ, ↓reduceIte, Option.isSome_some, List.getElem?_cons_zero, List.getElem?_cons_succ, List.length_cons, List.length_nil, List.map_cons, List.map_nil, List.take_succ_cons, List.take_zero, List.drop_succ_cons, List.drop_zero, Option.map_none, Option.map_some, Option.getD_none, Option.getD_some, decide_true, decide_false, decide_eq_true_eq, true_and, and_true, Bool.not_eq_true', decide_eq_false_iff_not, if_true, if_false, not_false_eq_true, not_true_eq_false, Bool.false_eq_true, ne_eq, Nat.min_eq_left, Option.some.injEq, exists_eq_left', forall_eq', Int.reduceAdd, Int.reduceEq, Int.reduceLE, Int.reduceLT, Int.reduceMul, Int.reduceNeg, Int.reducePow, Int.reduceSub, Int.reduceToNat, Nat.reduceAdd, Nat.reduceEqDiff, Nat.reduceLT, Nat.reduceLeDiff, Nat.reduceMul, reduceCtorEq]
  refine sub_ok (y := 0) (n := 100) (hc.nb (f3.nb f4)) (Vw.nil _ _) hA Lim.nil rfl val_nil (by omega) (by simp) (by omega) b1 _ fun v5 w5 g5 m5 k5 => ?_
  have f5 := g5.fr
  simp (disch := omega) only [w64, tmod_nn, tdiv_nn, eq_t, eq_f, lt_t, lt_f, le_t, le_f, nlt_t, nlt_f, nle_t, nle_f, ↓EP, EQ, ↓reduceIte, Option.isSome_some, List.getElem?_cons_zero, List.getElem?_cons_succ, List.length_cons, List.length_nil, List.map_cons, List.map_nil, List.take_succ_cons, List.take_zero, List.drop_succ_cons, List.drop_zero, Option.map_none, Option.map_some, Option.getD_none, Option.getD_some, decide_true, decide_false, decide_eq_true_eq, true_and, and_true, Bool.not_eq_true', decide_eq_false_iff_not, if_true, if_false, not_false_eq_true, not_true_eq_false, Bool.false_eq_true, ne_eq, Nat.min_eq_left, Option.some.injEq, exists_eq_left', forall_eq', Int.reduceAdd, Int.reduceEq, Int.reduceLE, Int.reduceLT, Int.reduceMul, Int.reduceNeg, Int.reducePow, Int.reduceSub, Int.reduceToNat, Nat.reduceAdd, Nat.reduceEqDiff, Nat.reduceLT, Nat.reduceLeDiff, Nat.reduceMul, reduceCtorEq]
  refine bsl1 fun w6 n6 => ?_
  have f6 := n6.fr nob
  simp (disch := omega) only [w64, tmod_nn, tdiv_nn, eq_t, eq_f, lt_t, lt_f, le_t, le_f, nlt_t, nlt_f, nle_t, nle_f, ↓EP, EQ, ↓reduceIte, Option.isSome_some, List.getElem?_cons_zero, List.getElem?_cons_succ, List.length_cons, List.length_nil, List.map_cons, List.map_nil, List.take_succ_cons, List.take_zero, List.drop_succ_cons, List.drop_zero, Option.map_none, Option.map_some, Option.getD_none, Option.getD_some, decide_true, decide_false, decide_eq_true_eq, true_and, and_true, Bool.not_eq_true', decide_eq_false_iff_not, if_true, if_false, not_false_eq_true, not_true_eq_false, Bool.false_eq_true, ne_eq, Nat.min_eq_left, Option.some.injEq, exists_eq_left', forall_eq', Int.reduceAdd, Int.reduceEq, Int.reduceLE, Int.reduceLT, Int.reduceMul, Int.reduceNeg, Int.reducePow, Int.reduceSub, Int.reduceToNat, Nat.reduceAdd, Nat.reduceEqDiff, Nat.reduceLT, Nat.reduceLeDiff, Nat.reduceMul, reduceCtorEq]
  refine mul_ok (y := 1) (n := 100) (k := 1) (hc.nb (((f3.nb f4).nb f5).nb f6)) (n6.vw rfl) hA (lim_k (by decide)) rfl (by decide) (by omega) (by simp) (by omega) _ fun v7 w7 g7 m7 k7 => ?_
  have f7 := g7.fr
  simp (disch := omega) only [w64, tmod_nn, tdiv_nn, eq_t, eq_f, lt_t, lt_f, le_t, le_f, nlt_t, nlt_f, nle_t, nle_f, ↓EP, EQ, ↓reduceIte, Option.isSome_some, List.getElem?_cons_zero, List.getElem?_cons_succ, List.length_cons, List.length_nil, List.map_cons, List.map_nil, List.take_succ_cons, List.take_zero, List.drop_succ_cons, List.drop_zero, Option.map_none, Option.map_some, Option.getD_none, Option.getD_some, decide_true, decide_false, decide_eq_true_eq, true_and, and_true, Bool.not_eq_true', decide_eq_false_iff_not, if_true, if_false, not_false_eq_true, not_true_eq_false, Bool.false_eq_true, ne_eq, Nat.min_eq_left, Option.some.injEq, exists_eq_left', forall_eq', Int.reduceAdd, Int.reduceEq, Int.reduceLE, Int.reduceLT, Int.reduceMul, Int.reduceNeg, Int.reducePow, Int.reduceSub, Int.reduceToNat, Nat.reduceAdd, Nat.reduceEqDiff, Nat.reduceLT, Nat.reduceLeDiff, Nat.reduceMul, reduceCtorEq]
  refine bsl3 fun w8 n8 => ?_
  have f8 := n8.fr nob
  simp (disch := omega) only [w64, tmod_nn, tdiv_nn, eq_t, eq_f, lt_t, lt_f, le_t, le_f, nlt_t, nlt_f, nle_t, nle_f, ↓EP, EQ, ↓reduceIte, Option.isSome_some, List.getElem?_cons_zero, List.getElem?_cons_succ, List.length_cons, List.length_nil, List.map_cons, List.map_nil, List.take_succ_cons, List.take_zero, List.drop_succ_cons, List.drop_zero, Option.map_none, Option.map_some, Option.getD_none, Option.getD_some, decide_true, decide_false, decide_eq_true_eq, true_and, and_true, Bool.not_eq_true', decide_eq_false_iff_not, if_true, if_false, not_false_eq_true, not_true_eq_false, Bool.false_eq_true, ne_eq, Nat.min_eq_left, Option.some.injEq, exists_eq_left', forall_eq', Int.reduceAdd, Int.reduceEq, Int.reduceLE, Int.reduceLT, Int.reduceMul, Int.reduceNeg, Int.reducePow, Int.reduceSub, Int.reduceToNat, Nat.reduceAdd, Nat.reduceEqDiff, Nat.reduceLT, Nat.reduceLeDiff, Nat.reduceMul, reduceCtorEq]
  refine div_ok (y := 18446744073709551616) (n := 100) (k := 3) (hc.nb (((((f3.nb f4).nb f5).nb f6).nb f7).nb f8)) (n8.vw rfl) hA (lim_k (by decide)) rfl (by decide) (by omega) (by simp) (by omega) (by omega) (by decide) _ fun u9 v9 w9 g9 g9' m9 m9' k9 k9' hne => ?_
  have f9 := g9.fr
  have qg3 := gw_slice g3
  obtain ⟨B3, d3, s3⟩ := qg3
  have qg4 := gw_slice g4
  obtain ⟨B4, d4, s4⟩ := qg4
  have qg5 := gw_slice g5
  obtain ⟨B5, d5, s5⟩ := qg5
  have qg7 := gw_slice g7
  obtain ⟨B7, d7, s7⟩ := qg7
  have qg9 := gw_slice g9
  obtain ⟨B9, d9, s9⟩ := qg9
  have qg9' := gw_slice g9'
  obtain ⟨B9', d9', s9'⟩ := qg9'
  simp (disch := omega) only [w64, tmod_nn, tdiv_nn, eq_t, eq_f, lt_t, lt_f, le_t, le_f, nlt_t, nlt_f, nle_t, nle_f, ↓EP, EQ, ↓reduceIte, Option.isSome_some, List.getElem?_cons_zero, List.getElem?_cons_succ, List.length_cons, List.length_nil, List.map_cons, List.map_nil, List.take_succ_cons, List.take_zero, List.drop_succ_cons, List.drop_zero, Option.map_none, Option.map_some, Option.getD_none, Option.getD_some, decide_true, decide_false, decide_eq_true_eq, true_and, and_true, Bool.not_eq_true', decide_eq_false_iff_not, if_true, if_false, not_false_eq_true, not_true_eq_false, Bool.false_eq_true, ne_eq, Nat.min_eq_left, Option.some.injEq, exists_eq_left', forall_eq', Int.reduceAdd, Int.reduceEq, Int.reduceLE, Int.reduceLT, Int.reduceMul, Int.reduceNeg, Int.reducePow, Int.reduceSub, Int.reduceToNat, Nat.reduceAdd, Nat.reduceEqDiff, Nat.reduceLT, Nat.reduceLeDiff, Nat.reduceMul, reduceCtorEq, s3, s4, s5, s7, s9, s9']
  refine bslS6 fun w10 n10 => ?_
  rw [← s3, ← s4, ← s5, ← s7, ← s9, ← s9'] at n10
  have f10 := n10.fr nob
  have qvs : ∃ vs, vs = [v3, v4, v5, v7, u9, v9] := ⟨_, rfl⟩
  obtain ⟨vs, hvs⟩ := qvs
  rw [← hvs] at n10
  have z3 := g3.fr.size
  have z4 := g4.fr.size
  have z5 := g5.fr.size
  have z6 := f6.size
  have z7 := g7.fr.size
  have z8 := f8.size
  have z9 := g9.fr.size
  have t3 := fun b e => g3.sl.lt (b := b) e
  have t4 := fun b e => g4.sl.lt (b := b) e
  have t5 := fun b e => g5.sl.lt (b := b) e
  have t7 := fun b e => g7.sl.lt (b := b) e
  have t9 := fun b e => g9.sl.lt (b := b) e
  have t9' := fun b e => g9'.sl.lt (b := b) e
  have hS : SixS vs w2.heap.size w9.heap.size := by
    subst hvs
    refine ⟨rfl, fun j k v v' b hjk hj hk hv hv' => ?_, fun j v b hj hv => ?_⟩
    · rcases get6 hj with ⟨rfl, rfl⟩ | ⟨rfl, rfl⟩ | ⟨rfl, rfl⟩ | ⟨rfl, rfl⟩ | ⟨rfl, rfl⟩ | ⟨rfl, rfl⟩ <;>
      rcases get6 hk with ⟨rfl, rfl⟩ | ⟨rfl, rfl⟩ | ⟨rfl, rfl⟩ | ⟨rfl, rfl⟩ | ⟨rfl, rfl⟩ | ⟨rfl, rfl⟩ <;>
      first
      | exact absurd rfl hjk
      | exact hne b hv hv'
      | exact hne b hv' hv
      | (first | have x1 := t3 b hv | have x1 := t4 b hv | have x1 := t5 b hv | have x1 := t7 b hv | have x1 := t9 b hv | have x1 := t9' b hv) <;>
        (first | have y1 := t3 b hv' | have y1 := t4 b hv' | have y1 := t5 b hv' | have y1 := t7 b hv' | have y1 := t9 b hv' | have y1 := t9' b hv') <;>
        (first | have x2 := g3.up b hv | have x2 := g4.up b hv | have x2 := g5.up b hv | have x2 := g7.up b hv | have x2 := g9.up b hv | have x2 := g9'.up b hv) <;>
        (first | have y2 := g3.up b hv' | have y2 := g4.up b hv' | have y2 := g5.up b hv' | have y2 := g7.up b hv' | have y2 := g9.up b hv' | have y2 := g9'.up b hv') <;> omega
    · rcases get6 hj with ⟨rfl, rfl⟩ | ⟨rfl, rfl⟩ | ⟨rfl, rfl⟩ | ⟨rfl, rfl⟩ | ⟨rfl, rfl⟩ | ⟨rfl, rfl⟩ <;>
        (first | have x1 := t3 b hv | have x1 := t4 b hv | have x1 := t5 b hv | have x1 := t7 b hv | have x1 := t9 b hv | have x1 := t9' b hv) <;>
        (first | have x2 := g3.up b hv | have x2 := g4.up b hv | have x2 := g5.up b hv | have x2 := g7.up b hv | have x2 := g9.up b hv | have x2 := g9'.up b hv) <;> omega
  have hX : Six w10 vs 0 := by
    subst hvs
    refine ⟨fun j v _ hj => ?_⟩
    rcases get6 hj with ⟨rfl, rfl⟩ | ⟨rfl, rfl⟩ | ⟨rfl, rfl⟩ | ⟨rfl, rfl⟩ | ⟨rfl, rfl⟩ | ⟨rfl, rfl⟩
    · exact ⟨_, g3.sl.nb ((((((f4.nb f5).nb f6).nb f7).nb f8).nb f9).nb f10), limbs_lim _, by have := len_val hA; omega⟩
    · exact ⟨_, g4.sl.nb (((((f5.nb f6).nb f7).nb f8).nb f9).nb f10), limbs_lim _, by omega⟩
    · exact ⟨_, g5.sl.nb ((((f6.nb f7).nb f8).nb f9).nb f10), limbs_lim _, by omega⟩
    · exact ⟨_, g7.sl.nb ((f8.nb f9).nb f10), limbs_lim _, by omega⟩
    · exact ⟨_, g9.sl.nb f10, limbs_lim _, by omega⟩
    · exact ⟨_, g9'.sl.nb f10, limbs_lim _, by omega⟩
  have hL10 := n10.blk
  have fA : Fr w2 w10 nob := (((((((f3.nb f4).nb f5).nb f6).nb f7).nb f8).nb f9).nb f10)
  have z0 := (f1.nb f2).size
  have hab : Fr w0 w2 nob := f1.nb f2
  clear t3 t4 t5 t7 t9 t9' g3 g4 g5 g7 g9 g9' m4 m5 m7 m9 m9' s3 s4 s5 s7 s9 s9' k4 k5 k7 k9 k9' hne n6 n8 n10 f3 f4 f5 f6 f7 f8 f9 f10 hvs z3 z4 z5 z6 z7 z8
  have P := fun b => w2.heap.size ≤ b
  simp (disch := omega) only [w64, tmod_nn, tdiv_nn, eq_t, eq_f, lt_t, lt_f, le_t, le_f, nlt_t, nlt_f, nle_t, nle_f, ↓EP, EQ, ↓reduceIte, Option.isSome_some, List.getElem?_cons_zero, List.getElem?_cons_succ, List.length_cons, List.length_nil, List.map_cons, List.map_nil, List.take_succ_cons, List.take_zero, List.drop_succ_cons, List.drop_zero, Option.map_none, Option.map_some, Option.getD_none, Option.getD_some, decide_true, decide_false, decide_eq_true_eq, true_and, and_true, Bool.not_eq_true', decide_eq_false_iff_not, if_true, if_false, not_false_eq_true, not_true_eq_false, Bool.false_eq_true, ne_eq, Nat.min_eq_left, Option.some.injEq, exists_eq_left', forall_eq', Int.reduceAdd, Int.reduceEq, Int.reduceLE, Int.reduceLT, Int.reduceMul, Int.reduceNeg, Int.reducePow, Int.reduceSub, Int.reduceToNat, Nat.reduceAdd, Nat.reduceEqDiff, Nat.reduceLT, Nat.reduceLeDiff, Nat.reduceMul, reduceCtorEq]
  refine loop_inv (fun t ρ w' => ∃ i : Nat, ρ 18 = .int .i64 i ∧ i ≤ 6 ∧ t = 6 - i ∧ Six w' vs i ∧ Blk w' w9.heap.size vs ∧ Fr w2 w' (fun b => w2.heap.size ≤ b)) 6
    ⟨0, by simp (disch := omega) only [w64, tmod_nn, tdiv_nn, eq_t, eq_f, lt_t, lt_f, le_t, le_f, nlt_t, nlt_f, nle_t, nle_f, ↓EP, EQ, ↓reduceIte, Option.isSome_some, List.getElem?_cons_zero, List.getElem?_cons_succ, List.length_cons, List.length_nil, List.map_cons, List.map_nil, List.take_succ_cons, List.take_zero, List.drop_succ_cons, List.drop_zero, Option.map_none, Option.map_some, Option.getD_none, Option.getD_some, decide_true, decide_false, decide_eq_true_eq, true_and, and_true, Bool.not_eq_true', decide_eq_false_iff_not, if_true, if_false, not_false_eq_true, not_true_eq_false, Bool.false_eq_true, ne_eq, Nat.min_eq_left, Option.some.injEq, exists_eq_left', forall_eq', Int.reduceAdd, Int.reduceEq, Int.reduceLE, Int.reduceLT, Int.reduceMul, Int.reduceNeg, Int.reducePow, Int.reduceSub, Int.reduceToNat, Nat.reduceAdd, Nat.reduceEqDiff, Nat.reduceLT, Nat.reduceLeDiff, Nat.reduceMul, reduceCtorEq], by omega, rfl, hX, hL10, fA.any _⟩ ?_
  rintro t ρ w11 hf ⟨i, h18, hi, rfl, hX, hL, f11⟩ N hN
  have q0 : ρ 0 = va := by rw [hf 0 rfl]; simp (disch := omega) only [w64, tmod_nn, tdiv_nn, eq_t, eq_f, lt_t, lt_f, le_t, le_f, nlt_t, nlt_f, nle_t, nle_f, ↓EP, EQ, ↓reduceIte, Option.isSome_some, List.getElem?_cons_zero, List.getElem?_cons_succ, List.length_cons, List.length_nil, List.map_cons, List.map_nil, List.take_succ_cons, List.take_zero, List.drop_succ_cons, List.drop_zero, Option.map_none, Option.map_some, Option.getD_none, Option.getD_some, decide_true, decide_false, decide_eq_true_eq, true_and, and_true, Bool.not_eq_true', decide_eq_false_iff_not, if_true, if_false, not_false_eq_true, not_true_eq_false, Bool.false_eq_true, ne_eq, Nat.min_eq_left, Option.some.injEq, exists_eq_left', forall_eq', Int.reduceAdd, Int.reduceEq, Int.reduceLE, Int.reduceLT, Int.reduceMul, Int.reduceNeg, Int.reducePow, Int.reduceSub, Int.reduceToNat, Nat.reduceAdd, Nat.reduceEqDiff, Nat.reduceLT, Nat.reduceLeDiff, Nat.reduceMul, reduceCtorEq]
  have q1 : ρ 1 = vb := by rw [hf 1 rfl]; simp (disch := omega) only [w64, tmod_nn, tdiv_nn, eq_t, eq_f, lt_t, lt_f, le_t, le_f, nlt_t, nlt_f, nle_t, nle_f, ↓EP, EQ, ↓reduceIte, Option.isSome_some, List.getElem?_cons_zero, List.getElem?_cons_succ, List.length_cons, List.length_nil, List.map_cons, List.map_nil, List.take_succ_cons, List.take_zero, List.drop_succ_cons, List.drop_zero, Option.map_none, Option.map_some, Option.getD_none, Option.getD_some, decide_true, decide_false, decide_eq_true_eq, true_and, and_true, Bool.not_eq_true', decide_eq_false_iff_not, if_true, if_false, not_false_eq_true, not_true_eq_false, Bool.false_eq_true, ne_eq, Nat.min_eq_left, Option.some.injEq, exists_eq_left', forall_eq', Int.reduceAdd, Int.reduceEq, Int.reduceLE, Int.reduceLT, Int.reduceMul, Int.reduceNeg, Int.reducePow, Int.reduceSub, Int.reduceToNat, Nat.reduceAdd, Nat.reduceEqDiff, Nat.reduceLT, Nat.reduceLeDiff, Nat.reduceMul, reduceCtorEq]
  have q5 : ρ 5 = vc := by rw [hf 5 rfl]; simp (disch := omega) only [w64, tmod_nn, tdiv_nn, eq_t, eq_f, lt_t, lt_f, le_t, le_f, nlt_t, nlt_f, nle_t, nle_f, ↓EP, EQ, ↓reduceIte, Option.isSome_some, List.getElem?_cons_zero, List.getElem?_cons_succ, List.length_cons, List.length_nil, List.map_cons, List.map_nil, List.take_succ_cons, List.take_zero, List.drop_succ_cons, List.drop_zero, Option.map_none, Option.map_some, Option.getD_none, Option.getD_some, decide_true, decide_false, decide_eq_true_eq, true_and, and_true, Bool.not_eq_true', decide_eq_false_iff_not, if_true, if_false, not_false_eq_true, not_true_eq_false, Bool.false_eq_true, ne_eq, Nat.min_eq_left, Option.some.injEq, exists_eq_left', forall_eq', Int.reduceAdd, Int.reduceEq, Int.reduceLE, Int.reduceLT, Int.reduceMul, Int.reduceNeg, Int.reducePow, Int.reduceSub, Int.reduceToNat, Nat.reduceAdd, Nat.reduceEqDiff, Nat.reduceLT, Nat.reduceLeDiff, Nat.reduceMul, reduceCtorEq]
  have q6 : ρ 6 = vd := by rw [hf 6 rfl]; simp (disch := omega) only [w64, tmod_nn, tdiv_nn, eq_t, eq_f, lt_t, lt_f, le_t, le_f, nlt_t, nlt_f, nle_t, nle_f, ↓EP, EQ, ↓reduceIte, Option.isSome_some, List.getElem?_cons_zero, List.getElem?_cons_succ, List.length_cons, List.length_nil, List.map_cons, List.map_nil, List.take_succ_cons, List.take_zero, List.drop_succ_cons, List.drop_zero, Option.map_none, Option.map_some, Option.getD_none, Option.getD_some, decide_true, decide_false, decide_eq_true_eq, true_and, and_true, Bool.not_eq_true', decide_eq_false_iff_not, if_true, if_false, not_false_eq_true, not_true_eq_false, Bool.false_eq_true, ne_eq, Nat.min_eq_left, Option.some.injEq, exists_eq_left', forall_eq', Int.reduceAdd, Int.reduceEq, Int.reduceLE, Int.reduceLT, Int.reduceMul, Int.reduceNeg, Int.reducePow, Int.reduceSub, Int.reduceToNat, Nat.reduceAdd, Nat.reduceEqDiff, Nat.reduceLT, Nat.reduceLeDiff, Nat.reduceMul, reduceCtorEq]
  have q17 : ρ 17 = .slice (some ⟨w9.heap.size, 0, none⟩) 6 6 := by rw [hf 17 rfl]; simp (disch := omega) only [w64, tmod_nn, tdiv_nn, eq_t, eq_f, lt_t, lt_f, le_t, le_f, nlt_t, nlt_f, nle_t, nle_f, ↓EP, EQ, ↓reduceIte, Option.isSome_some, List.getElem?_cons_zero, List.getElem?_cons_succ, List.length_cons, List.length_nil, List.map_cons, List.map_nil, List.take_succ_cons, List.take_zero, List.drop_succ_cons, List.drop_zero, Option.map_none, Option.map_some, Option.getD_none, Option.getD_some, decide_true, decide_false, decide_eq_true_eq, true_and, and_true, Bool.not_eq_true', decide_eq_false_iff_not, if_true, if_false, not_false_eq_true, not_true_eq_false, Bool.false_eq_true, ne_eq, Nat.min_eq_left, Option.some.injEq, exists_eq_left', forall_eq', Int.reduceAdd, Int.reduceEq, Int.reduceLE, Int.reduceLT, Int.reduceMul, Int.reduceNeg, Int.reducePow, Int.reduceSub, Int.reduceToNat, Nat.reduceAdd, Nat.reduceEqDiff, Nat.reduceLT, Nat.reduceLeDiff, Nat.reduceMul, reduceCtorEq]
  clear hf
  by_cases hi6 : (i : Int) < 6
  · have qv : ∃ v, vs[i]? = some v := ⟨vs[i]'(by rw [hS.len]; omega), List.getElem?_eq_getElem _⟩
    obtain ⟨v, hv⟩ := qv
    have qx := hX.each i v (Nat.le_refl _) hv
    obtain ⟨l, hl, hlL, hll⟩ := qx
    have qr := hl.vw
    obtain ⟨A, c, ev, hcv, hrv⟩ := qr
    have cv := hL.cell? i
    rw [hv, ev] at cv
    simp (disch := omega) only [w64, tmod_nn, tdiv_nn, eq_t, eq_f, lt_t, lt_f, le_t, le_f, nlt_t, nlt_f, nle_t, nle_f, ↓EP, EQ, ↓reduceIte, Option.isSome_some, List.getElem?_cons_zero, List.getElem?_cons_succ, List.length_cons, List.length_nil, List.map_cons, List.map_nil, List.take_succ_cons, List.take_zero, List.drop_succ_cons, List.drop_zero, Option.map_none, Option.map_some, Option.getD_none, Option.getD_some, decide_true, decide_false, decide_eq_true_eq, true_and, and_true, Bool.not_eq_true', decide_eq_false_iff_not, if_true, if_false, not_false_eq_true, not_true_eq_false, Bool.false_eq_true, ne_eq, Nat.min_eq_left, Option.some.injEq, exists_eq_left', forall_eq', Int.reduceAdd, Int.reduceEq, Int.reduceLE, Int.reduceLT, Int.reduceMul, Int.reduceNeg, Int.reducePow, Int.reduceSub, Int.reduceToNat, Nat.reduceAdd, Nat.reduceEqDiff, Nat.reduceLT, Nat.reduceLeDiff, Nat.reduceMul, reduceCtorEq, h18, q17]
    refine loop_inv (fun t ρ2 w' => ∃ (k : Nat) (l' : List Int), ρ2 19 = .int .i64 k ∧ k ≤ l.length ∧ t = l.length - k ∧ l'.length = l.length ∧ Lim l' ∧ Sl .u32 w' v l' ∧ Fr w11 w' (fun b => blkOf v = some b)) l.length
      ⟨0, l, by simp (disch := omega) only [w64, tmod_nn, tdiv_nn, eq_t, eq_f, lt_t, lt_f, le_t, le_f, nlt_t, nlt_f, nle_t, nle_f, ↓EP, EQ, ↓reduceIte, Option.isSome_some, List.getElem?_cons_zero, List.getElem?_cons_succ, List.length_cons, List.length_nil, List.map_cons, List.map_nil, List.take_succ_cons, List.take_zero, List.drop_succ_cons, List.drop_zero, Option.map_none, Option.map_some, Option.getD_none, Option.getD_some, decide_true, decide_false, decide_eq_true_eq, true_and, and_true, Bool.not_eq_true', decide_eq_false_iff_not, if_true, if_false, not_false_eq_true, not_true_eq_false, Bool.false_eq_true, ne_eq, Nat.min_eq_left, Option.some.injEq, exists_eq_left', forall_eq', Int.reduceAdd, Int.reduceEq, Int.reduceLE, Int.reduceLT, Int.reduceMul, Int.reduceNeg, Int.reducePow, Int.reduceSub, Int.reduceToNat, Nat.reduceAdd, Nat.reduceEqDiff, Nat.reduceLT, Nat.reduceLeDiff, Nat.reduceMul, reduceCtorEq], by omega, rfl, rfl, hlL, hl, Fr.refl _ _⟩ ?_
    rintro t ρ2 w12 hf ⟨k, l', h19, hk, rfl, hl'l, hl'L, hl', f12⟩ N2 hN2
    have p17 : ρ2 17 = .slice (some ⟨w9.heap.size, 0, none⟩) 6 6 := by rw [hf 17 rfl]; simp (disch := omega) only [w64, tmod_nn, tdiv_nn, eq_t, eq_f, lt_t, lt_f, le_t, le_f, nlt_t, nlt_f, nle_t, nle_f, ↓EP, EQ, ↓reduceIte, Option.isSome_some, List.getElem?_cons_zero, List.getElem?_cons_succ, List.length_cons, List.length_nil, List.map_cons, List.map_nil, List.take_succ_cons, List.take_zero, List.drop_succ_cons, List.drop_zero, Option.map_none, Option.map_some, Option.getD_none, Option.getD_some, decide_true, decide_false, decide_eq_true_eq, true_and, and_true, Bool.not_eq_true', decide_eq_false_iff_not, if_true, if_false, not_false_eq_true, not_true_eq_false, Bool.false_eq_true, ne_eq, Nat.min_eq_left, Option.some.injEq, exists_eq_left', forall_eq', Int.reduceAdd, Int.reduceEq, Int.reduceLE, Int.reduceLT, Int.reduceMul, Int.reduceNeg, Int.reducePow, Int.reduceSub, Int.reduceToNat, Nat.reduceAdd, Nat.reduceEqDiff, Nat.reduceLT, Nat.reduceLeDiff, Nat.reduceMul, reduceCtorEq, q17]
    have p18 : ρ2 18 = .int .i64 i := by rw [hf 18 rfl]; simp (disch := omega) only [w64, tmod_nn, tdiv_nn, eq_t, eq_f, lt_t, lt_f, le_t, le_f, nlt_t, nlt_f, nle_t, nle_f, ↓EP, EQ, ↓reduceIte, Option.isSome_some, List.getElem?_cons_zero, List.getElem?_cons_succ, List.length_cons, List.length_nil, List.map_cons, List.map_nil, List.take_succ_cons, List.take_zero, List.drop_succ_cons, List.drop_zero, Option.map_none, Option.map_some, Option.getD_none, Option.getD_some, decide_true, decide_false, decide_eq_true_eq, true_and, and_true, Bool.not_eq_true', decide_eq_false_iff_not, if_true, if_false, not_false_eq_true, not_true_eq_false, Bool.false_eq_true, ne_eq, Nat.min_eq_left, Option.some.injEq, exists_eq_left', forall_eq', Int.reduceAdd, Int.reduceEq, Int.reduceLE, Int.reduceLT, Int.reduceMul, Int.reduceNeg, Int.reducePow, Int.reduceSub, Int.reduceToNat, Nat.reduceAdd, Nat.reduceEqDiff, Nat.reduceLT, Nat.reduceLeDiff, Nat.reduceMul, reduceCtorEq, h18]
    clear hf
    have hL12 : Blk w12 w9.heap.size vs := hL.fr f12 fun e => by have := (hS.bd i v _ hv e).2; omega
    have cv12 := hL12.cell? i
    rw [hv, ev] at cv12
    by_cases hkl : (k : Int) < (l.length : Int)
    · rcases hl' with ⟨e0, _⟩ | ⟨bb, pad, ev2, hB⟩
      · rw [e0] at hl'l; simp at hl'l; omega
      · rw [ev, hl'l] at ev2
        cases ev2
        have ck := hB.numN (j := k) (by simp; omega)
        have ek : at' (l' ++ pad) k = at' l' k := at_app (by omega)
        rw [ek] at ck
        have bx := xor_bd (hl'L.at k)
        simp (disch := omega) only [w64, tmod_nn, tdiv_nn, eq_t, eq_f, lt_t, lt_f, le_t, le_f, nlt_t, nlt_f, nle_t, nle_f, ↓EP, EQ, ↓reduceIte, Option.isSome_some, List.getElem?_cons_zero, List.getElem?_cons_succ, List.length_cons, List.length_nil, List.map_cons, List.map_nil, List.take_succ_cons, List.take_zero, List.drop_succ_cons, List.drop_zero, Option.map_none, Option.map_some, Option.getD_none, Option.getD_some, decide_true, decide_false, decide_eq_true_eq, true_and, and_true, Bool.not_eq_true', decide_eq_false_iff_not, if_true, if_false, not_false_eq_true, not_true_eq_false, Bool.false_eq_true, ne_eq, Nat.min_eq_left, Option.some.injEq, exists_eq_left', forall_eq', Int.reduceAdd, Int.reduceEq, Int.reduceLE, Int.reduceLT, Int.reduceMul, Int.reduceNeg, Int.reducePow, Int.reduceSub, Int.reduceToNat, Nat.reduceAdd, Nat.reduceEqDiff, Nat.reduceLT, Nat.reduceLeDiff, Nat.reduceMul, reduceCtorEq, h19, p17, p18, cv12, ck]
        intro m1
        refine st_num (hB.nb (Fr.drewN w12 _ nob)) (by simp; omega) fun w13 p13 => ?_
        simp (disch := omega) only [w64, tmod_nn, tdiv_nn, eq_t, eq_f, lt_t, lt_f, le_t, le_f, nlt_t, nlt_f, nle_t, nle_f, ↓EP, EQ, ↓reduceIte, Option.isSome_some, List.getElem?_cons_zero, List.getElem?_cons_succ, List.length_cons, List.length_nil, List.map_cons, List.map_nil, List.take_succ_cons, List.take_zero, List.drop_succ_cons, List.drop_zero, Option.map_none, Option.map_some, Option.getD_none, Option.getD_some, decide_true, decide_false, decide_eq_true_eq, true_and, and_true, Bool.not_eq_true', decide_eq_false_iff_not, if_true, if_false, not_false_eq_true, not_true_eq_false, Bool.false_eq_true, ne_eq, Nat.min_eq_left, Option.some.injEq, exists_eq_left', forall_eq', Int.reduceAdd, Int.reduceEq, Int.reduceLE, Int.reduceLT, Int.reduceMul, Int.reduceNeg, Int.reducePow, Int.reduceSub, Int.reduceToNat, Nat.reduceAdd, Nat.reduceEqDiff, Nat.reduceLT, Nat.reduceLeDiff, Nat.reduceMul, reduceCtorEq, h19]
        refine hN2 (l.length - (k + 1)) _ _ (by omega) ⟨k + 1, l'.set k (bits .xor .u32 (at' l' k) 1), by simp (disch := omega) only [w64, tmod_nn, tdiv_nn, eq_t, eq_f, lt_t, lt_f, le_t, le_f, nlt_t, nlt_f, nle_t, nle_f, ↓EP, EQ, ↓reduceIte, Option.isSome_some, List.getElem?_cons_zero, List.getElem?_cons_succ, List.length_cons, List.length_nil, List.map_cons, List.map_nil, List.take_succ_cons, List.take_zero, List.drop_succ_cons, List.drop_zero, Option.map_none, Option.map_some, Option.getD_none, Option.getD_some, decide_true, decide_false, decide_eq_true_eq, true_and, and_true, Bool.not_eq_true', decide_eq_false_iff_not, if_true, if_false, not_false_eq_true, not_true_eq_false, Bool.false_eq_true, ne_eq, Nat.min_eq_left, Option.some.injEq, exists_eq_left', forall_eq', Int.reduceAdd, Int.reduceEq, Int.reduceLE, Int.reduceLT, Int.reduceMul, Int.reduceNeg, Int.reducePow, Int.reduceSub, Int.reduceToNat, Nat.reduceAdd, Nat.reduceEqDiff, Nat.reduceLT, Nat.reduceLeDiff, Nat.reduceMul, reduceCtorEq, h19, Int.natCast_add], by omega, rfl, by rw [List.length_set]; exact hl'l, hl'L.set _ bx.1 bx.2, .inr ⟨bb, pad, by rw [ev, List.length_set]; simp [hl'l], ?_⟩, ?_⟩
        · have := p13.blk
          rwa [List.set_append_left _ _ (by omega)] at this
        · refine (f12.trans (Fr.drewN w12 _ nob) fun _ _ e => e.elim).trans p13.fr fun x _ e => ?_
          rw [ev, e]; rfl
    · have hk : k = l.length := by omega
      clear hN2
      simp (disch := omega) only [w64, tmod_nn, tdiv_nn, eq_t, eq_f, lt_t, lt_f, le_t, le_f, nlt_t, nlt_f, nle_t, nle_f, ↓EP, EQ, ↓reduceIte, Option.isSome_some, List.getElem?_cons_zero, List.getElem?_cons_succ, List.length_cons, List.length_nil, List.map_cons, List.map_nil, List.take_succ_cons, List.take_zero, List.drop_succ_cons, List.drop_zero, Option.map_none, Option.map_some, Option.getD_none, Option.getD_some, decide_true, decide_false, decide_eq_true_eq, true_and, and_true, Bool.not_eq_true', decide_eq_false_iff_not, if_true, if_false, not_false_eq_true, not_true_eq_false, Bool.false_eq_true, ne_eq, Nat.min_eq_left, Option.some.injEq, exists_eq_left', forall_eq', Int.reduceAdd, Int.reduceEq, Int.reduceLE, Int.reduceLT, Int.reduceMul, Int.reduceNeg, Int.reducePow, Int.reduceSub, Int.reduceToNat, Nat.reduceAdd, Nat.reduceEqDiff, Nat.reduceLT, Nat.reduceLeDiff, Nat.reduceMul, reduceCtorEq, h19, p17, p18, cv12]
      refine bsl3 fun w13 n13 => ?_
      have hL13 := hL12.nb (n13.fr nob)
      have cv13 := hL13.cell? i
      rw [hv, ev] at cv13
      have hl13 := hl'.nb (n13.fr nob)
      rw [ev] at hl13
      simp (disch := omega) only [w64, tmod_nn, tdiv_nn, eq_t, eq_f, lt_t, lt_f, le_t, le_f, nlt_t, nlt_f, nle_t, nle_f, ↓EP, EQ, ↓reduceIte, Option.isSome_some, List.getElem?_cons_zero, List.getElem?_cons_succ, List.length_cons, List.length_nil, List.map_cons, List.map_nil, List.take_succ_cons, List.take_zero, List.drop_succ_cons, List.drop_zero, Option.map_none, Option.map_some, Option.getD_none, Option.getD_some, decide_true, decide_false, decide_eq_true_eq, true_and, and_true, Bool.not_eq_true', decide_eq_false_iff_not, if_true, if_false, not_false_eq_true, not_true_eq_false, Bool.false_eq_true, ne_eq, Nat.min_eq_left, Option.some.injEq, exists_eq_left', forall_eq', Int.reduceAdd, Int.reduceEq, Int.reduceLE, Int.reduceLT, Int.reduceMul, Int.reduceNeg, Int.reducePow, Int.reduceSub, Int.reduceToNat, Nat.reduceAdd, Nat.reduceEqDiff, Nat.reduceLT, Nat.reduceLeDiff, Nat.reduceMul, reduceCtorEq, h19, p17, p18, cv13]
      refine app_num hl13 rfl n13.rdl (by simp; omega) (by omega) fun v14 w14 a14 => ?_
      rcases a14.sl with ⟨e0, _⟩ | ⟨b14, pad14, ev14, hB14⟩
      · simp at e0
      · simp (disch := omega) only [w64, tmod_nn, tdiv_nn, eq_t, eq_f, lt_t, lt_f, le_t, le_f, nlt_t, nlt_f, nle_t, nle_f, ↓EP, EQ, ↓reduceIte, Option.isSome_some, List.getElem?_cons_zero, List.getElem?_cons_succ, List.length_cons, List.length_nil, List.map_cons, List.map_nil, List.take_succ_cons, List.take_zero, List.drop_succ_cons, List.drop_zero, Option.map_none, Option.map_some, Option.getD_none, Option.getD_some, decide_true, decide_false, decide_eq_true_eq, true_and, and_true, Bool.not_eq_true', decide_eq_false_iff_not, if_true, if_false, not_false_eq_true, not_true_eq_false, Bool.false_eq_true, ne_eq, Nat.min_eq_left, Option.some.injEq, exists_eq_left', forall_eq', Int.reduceAdd, Int.reduceEq, Int.reduceLE, Int.reduceLT, Int.reduceMul, Int.reduceNeg, Int.reducePow, Int.reduceSub, Int.reduceToNat, Nat.reduceAdd, Nat.reduceEqDiff, Nat.reduceLT, Nat.reduceLeDiff, Nat.reduceMul, reduceCtorEq, ev14]
        refine ⟨by simp; omega, ?_⟩
        refine st_num (j := 0) hB14 (by simp; omega) fun w15 p15 => ?_
        have f15 : Fr w11 w15 (fun b => blkOf v = some b) := by
          refine ((f12.trans (n13.fr nob) fun _ _ e => e.elim).trans a14.fr fun x _ e => by rw [ev]; exact e).trans p15.fr fun x hx e => ?_
          rcases a14.where_ with h | h
          · rw [ev14] at h
            rw [ev, e]; exact h.symm
          · have := h b14 (by rw [ev14]; rfl)
            have z13 := (f12.trans (n13.fr nob) fun _ _ e => e.elim).size
            omega
        simp (disch := omega) only [w64, tmod_nn, tdiv_nn, eq_t, eq_f, lt_t, lt_f, le_t, le_f, nlt_t, nlt_f, nle_t, nle_f, ↓EP, EQ, ↓reduceIte, Option.isSome_some, List.getElem?_cons_zero, List.getElem?_cons_succ, List.length_cons, List.length_nil, List.map_cons, List.map_nil, List.take_succ_cons, List.take_zero, List.drop_succ_cons, List.drop_zero, Option.map_none, Option.map_some, Option.getD_none, Option.getD_some, decide_true, decide_false, decide_eq_true_eq, true_and, and_true, Bool.not_eq_true', decide_eq_false_iff_not, if_true, if_false, not_false_eq_true, not_true_eq_false, Bool.false_eq_true, ne_eq, Nat.min_eq_left, Option.some.injEq, exists_eq_left', forall_eq', Int.reduceAdd, Int.reduceEq, Int.reduceLE, Int.reduceLT, Int.reduceMul, Int.reduceNeg, Int.reducePow, Int.reduceSub, Int.reduceToNat, Nat.reduceAdd, Nat.reduceEqDiff, Nat.reduceLT, Nat.reduceLeDiff, Nat.reduceMul, reduceCtorEq, p18]
        refine hN (6 - (i + 1)) _ _ (by omega) ⟨i + 1, by simp (disch := omega) only [w64, tmod_nn, tdiv_nn, eq_t, eq_f, lt_t, lt_f, le_t, le_f, nlt_t, nlt_f, nle_t, nle_f, ↓EP, EQ, ↓reduceIte, Option.isSome_some, List.getElem?_cons_zero, List.getElem?_cons_succ, List.length_cons, List.length_nil, List.map_cons, List.map_nil, List.take_succ_cons, List.take_zero, List.drop_succ_cons, List.drop_zero, Option.map_none, Option.map_some, Option.getD_none, Option.getD_some, decide_true, decide_false, decide_eq_true_eq, true_and, and_true, Bool.not_eq_true', decide_eq_false_iff_not, if_true, if_false, not_false_eq_true, not_true_eq_false, Bool.false_eq_true, ne_eq, Nat.min_eq_left, Option.some.injEq, exists_eq_left', forall_eq', Int.reduceAdd, Int.reduceEq, Int.reduceLE, Int.reduceLT, Int.reduceMul, Int.reduceNeg, Int.reducePow, Int.reduceSub, Int.reduceToNat, Nat.reduceAdd, Nat.reduceEqDiff, Nat.reduceLT, Nat.reduceLeDiff, Nat.reduceMul, reduceCtorEq, p18, Int.natCast_add], by omega, rfl, ⟨fun j v' hj hv' => ?_⟩, hL.fr f15 fun e => by have := (hS.bd i v _ hv e).2; omega, f11.trans f15 fun x _ e => (hS.bd i v _ hv e).1⟩
        obtain ⟨l2, hl2, hl2L, hl2l⟩ := hX.each j v' (by omega) hv'
        exact ⟨l2, hl2.fr f15 fun b hb e => hS.sep i j v v' b (by omega) hv hv' e hb, hl2L, hl2l⟩
  · have hi6 : i = 6 := by omega
    simp (disch := omega) only [w64, tmod_nn, tdiv_nn, eq_t, eq_f, lt_t, lt_f, le_t, le_f, nlt_t, nlt_f, nle_t, nle_f, ↓EP, EQ, ↓reduceIte, Option.isSome_some, List.getElem?_cons_zero, List.getElem?_cons_succ, List.length_cons, List.length_nil, List.map_cons, List.map_nil, List.take_succ_cons, List.take_zero, List.drop_succ_cons, List.drop_zero, Option.map_none, Option.map_some, Option.getD_none, Option.getD_some, decide_true, decide_false, decide_eq_true_eq, true_and, and_true, Bool.not_eq_true', decide_eq_false_iff_not, if_true, if_false, not_false_eq_true, not_true_eq_false, Bool.false_eq_true, ne_eq, Nat.min_eq_left, Option.some.injEq, exists_eq_left', forall_eq', Int.reduceAdd, Int.reduceEq, Int.reduceLE, Int.reduceLT, Int.reduceMul, Int.reduceNeg, Int.reducePow, Int.reduceSub, Int.reduceToNat, Nat.reduceAdd, Nat.reduceEqDiff, Nat.reduceLT, Nat.reduceLeDiff, Nat.reduceMul, reduceCtorEq, h18, q17, q5, q0]
    have L1' : Lnt .u32 w0 w11 vc a 57005 48879 := L1.fr f11 fun b e h => by have := lnt_lt L1 e; omega
    have L2' := L2.fr f11 fun b e h => by have := lnt_lt L2 e; omega
    have ha' := vw_fr (ha.nb hab) f11 fun b hb h => by omega
    have hb' := vw_fr (hb.nb hab) f11 fun b hb h => by omega
    refine kept_vw L1' ha' (by omega) _ fun w12 f12 => ?_
    simp (disch := omega) only [w64, tmod_nn, tdiv_nn, eq_t, eq_f, lt_t, lt_f, le_t, le_f, nlt_t, nlt_f, nle_t, nle_f, ↓EP, EQ, ↓reduceIte, Option.isSome_some, List.getElem?_cons_zero, List.getElem?_cons_succ, List.length_cons, List.length_nil, List.map_cons, List.map_nil, List.take_succ_cons, List.take_zero, List.drop_succ_cons, List.drop_zero, Option.map_none, Option.map_some, Option.getD_none, Option.getD_some, decide_true, decide_false, decide_eq_true_eq, true_and, and_true, Bool.not_eq_true', decide_eq_false_iff_not, if_true, if_false, not_false_eq_true, not_true_eq_false, Bool.false_eq_true, ne_eq, Nat.min_eq_left, Option.some.injEq, exists_eq_left', forall_eq', Int.reduceAdd, Int.reduceEq, Int.reduceLE, Int.reduceLT, Int.reduceMul, Int.reduceNeg, Int.reducePow, Int.reduceSub, Int.reduceToNat, Nat.reduceAdd, Nat.reduceEqDiff, Nat.reduceLT, Nat.reduceLeDiff, Nat.reduceMul, reduceCtorEq, q6, q1]
    refine kept_vw (lnt_nb L2' f12) (hb'.nb f12) (by omega) _ fun w13 f13 => ?_
    simp (disch := omega) only [w64, tmod_nn, tdiv_nn, eq_t, eq_f, lt_t, lt_f, le_t, le_f, nlt_t, nlt_f, nle_t, nle_f, ↓EP, EQ, ↓reduceIte, Option.isSome_some, List.getElem?_cons_zero, List.getElem?_cons_succ, List.length_cons, List.length_nil, List.map_cons, List.map_nil, List.take_succ_cons, List.take_zero, List.drop_succ_cons, List.drop_zero, Option.map_none, Option.map_some, Option.getD_none, Option.getD_some, decide_true, decide_false, decide_eq_true_eq, true_and, and_true, Bool.not_eq_true', decide_eq_false_iff_not, if_true, if_false, not_false_eq_true, not_true_eq_false, Bool.false_eq_true, ne_eq, Nat.min_eq_left, Option.some.injEq, exists_eq_left', forall_eq', Int.reduceAdd, Int.reduceEq, Int.reduceLE, Int.reduceLT, Int.reduceMul, Int.reduceNeg, Int.reducePow, Int.reduceSub, Int.reduceToNat, Nat.reduceAdd, Nat.reduceEqDiff, Nat.reduceLT, Nat.reduceLeDiff, Nat.reduceMul, reduceCtorEq]
    refine live_spec _ _ fun w14 f14 => ?_
    simp (disch := omega) only [w64, tmod_nn, tdiv_nn, eq_t, eq_f, lt_t, lt_f, le_t, le_f, nlt_t, nlt_f, nle_t, nle_f, ↓EP, EQ, ↓reduceIte, Option.isSome_some, List.getElem?_cons_zero, List.getElem?_cons_succ, List.length_cons, List.length_nil, List.map_cons, List.map_nil, List.take_succ_cons, List.take_zero, List.drop_succ_cons, List.drop_zero, Option.map_none, Option.map_some, Option.getD_none, Option.getD_some, decide_true, decide_false, decide_eq_true_eq, true_and, and_true, Bool.not_eq_true', decide_eq_false_iff_not, if_true, if_false, not_false_eq_true, not_true_eq_false, Bool.false_eq_true, ne_eq, Nat.min_eq_left, Option.some.injEq, exists_eq_left', forall_eq', Int.reduceAdd, Int.reduceEq, Int.reduceLE, Int.reduceLT, Int.reduceMul, Int.reduceNeg, Int.reducePow, Int.reduceSub, Int.reduceToNat, Nat.reduceAdd, Nat.reduceEqDiff, Nat.reduceLT, Nat.reduceLeDiff, Nat.reduceMul, reduceCtorEq]
    exact hK w14 (((hab.trans f11 fun x hx e => by omega).nb f12).nb (f13.nb f14))
end Go.Proofs.Ytbgfebhhejlakaa.Spec
namespace Go.Proofs.Ytbgfebhhejlakaa
open Go Go.ChangeShapes Go.WideShapes Go.ChangeAt Go.WideMaps Go.WideElems Go.RowKit Go.Proofs.Ytbgfebhhejlakaa.Eng Go.Proofs.Ytbgfebhhejlakaa.Spec
set_option maxRecDepth 100000
theorem natOwn_walk {H : Type} {enc : TypeId × Value → H} (W : World) (base : Nat) (args : Array Value) (ds : List (DataW H)) (p : List MemPlace) (hA0 : DataW.TrodAll enc Try.prog W 0 (fun _ => true) true Try.f12.params.toList args.toList ds p)
    (hval : ∀ (j : Nat) t v, Try.f12.params[j]? = some t → args[j]? = some v → Value.okWide Try.prog W .any base t v) (hz : (DataW.weightsEach Try.prog Try.f12.params.toList ds).all (· ≤ reachBytes) = true) (hL : True) :
    callK Try.prog 12 args.toList W fun v w' => v = .bool true ∧ Fr W w' nob := by
  have hA : DataW.TrodAll enc Try.prog W 0 (fun _ => true) true Try.f12.params.toList args.toList ds p := hA0
  rw [Try.params12] at hA hval
  obtain ⟨v0, v1, d0, d1, p0, p1, rfl, rfl, rfl, h0, h1⟩ := trodAll_two hA
  obtain ⟨A0, c0, l0, m0, rfl, hc0, h630, hd0, hl0, hw0⟩ := Row.open_sl Try.underlying22 Try.underlying42 cells_u32 (hval 0 22 v0 rfl rfl) h0
  obtain ⟨A1, c1, l1, m1, rfl, hc1, h631, hd1, hl1, hw1⟩ := Row.open_sl Try.underlying22 Try.underlying42 cells_u32 (hval 1 22 v1 rfl rfl) h1
  exact Spec.own_law (vw_of hc0 hl0) (vw_of hc1 hl1) (lim_of hw0) (lim_of hw1) _ fun w' f => ⟨rfl, f⟩
theorem natOwn_lifted (os : Os) (started : os.Started) (H : Type) (enc : TypeId × Value → H) :
    ReturnsInHanded {} Try.checked os 12 .any (fun w args => Rows.natOwnSpec.pre enc Try.prog Try.f12 [] false w args ∧ sizedMet enc Try.prog Try.f12 (OpenSpec.ofChange Rows.natOwnSpec) false w args)
      (Rows.natOwnSpec.post enc Try.prog Try.f12 false true false false) := by
  have h := Row.lifted_of (enc := enc) (s := Rows.natOwnSpec) (C := Try.checked) (X := fun _ _ => True) (fun _ _ _ _ h => h) own started (by kernel_rfl) Try.func12
    (ChangeSpec.witness_shaped (enc := enc) (C := Try.checked) (os := os) (X := fun _ _ => True) false (World.holding Try.prog os ⟨#[], #[.slice none 0 0, .slice none 0 0], []⟩) #[.slice none 0 0, .slice none 0 0] 8 rfl (World.shaped_of_B (by kernel_rfl) (by kernel_rfl)) (by kernel_rfl) (by kernel_rfl) (by kernel_rfl) trivial)
    laidOut (tb := 4) (by kernel_rfl) Try.underlying4 rfl (of_decide_eq_true (by kernel_rfl)) (fun ds h => by rw [show Try.f12.params.size = 2 by kernel_rfl] at h; obtain ⟨a, b, rfl⟩ := Row.len2 h; exact ⟨rfl, rfl, rfl⟩)
    (fun W base args ds p hA hval hz hL => natOwn_walk (enc := enc) W base args ds p hA hval hz hL)
  simp only [and_true] at h
  exact h
theorem natOwn_holds : Rows.NatOwnSaid :=
  OpenClaim.holds_of_wide 12 Try.f12 rfl rfl rfl rfl rfl rfl rfl ⟨rfl, rfl, rfl, rfl, rfl⟩ rfl rfl rfl rfl rfl (by kernel_rfl) Try.func12 (by kernel_rfl)
    (of_decide_eq_true (by kernel_rfl)) (by unfold Func.isWrapper; first | (rw [if_pos (by decide +kernel)]; kernel_rfl) | (rw [if_neg (by decide +kernel)]; exact ⟨rfl, rfl⟩))
    (fun os started H enc _ => natOwn_lifted os started H enc)
end Go.Proofs.Ytbgfebhhejlakaa
