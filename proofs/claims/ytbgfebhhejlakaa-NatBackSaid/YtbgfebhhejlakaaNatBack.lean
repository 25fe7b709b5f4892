/- NatBack: whatever the bytes, the law answers true. -/
import Derived.Test.YtbgfebhhejlakaaNatR
set_option linter.unusedVariables false
set_option linter.unusedSimpArgs false
namespace Go.Proofs.Ytbgfebhhejlakaa.Spec
open Go Go.RowKit Go.Proofs Go.Proofs.Ytbgfebhhejlakaa.Eng Go.Proofs.Ytbgfebhhejlakaa.Code Go.Proofs.Ytbgfebhhejlakaa.Big
set_option maxRecDepth 100000
attribute [local irreducible] callK S.W opsW scrW
theorem p8_mono {a b : Nat} (h : a ≤ b) : (256 : Int) ^ a ≤ 256 ^ b := by rw [p8_p2, p8_p2]; exact p2_mono (by omega)
theorem Vw.lo {k : IntKind} {w : World} {A : Option Addr} {c : Nat} {l : List Int} (hc : l.length ≤ c) (h : Rd w A (nums k l)) (o : Nat) (ho : o ≤ l.length) {n : Nat} (hn : l.length = n) : Vw k w (.slice (subA A c o 1) (n - o) (c - o)) (l.drop o) :=
  Vw.of (by simp; omega) (by omega) (h.subA c o hc)
set_option maxHeartbeats 2000000 in
theorem back_law {w0 : World} {va : Value} {l : List Int} {more : Int} (ha : Vw .u8 w0 va l) (hL : Byt l) (hmore : 0 ≤ more ∧ more < 256) (h63 : l.length ≤ 9223372036854775807) (K : Value → World → Prop)
    (hK : ∀ w', Fr w0 w' nob → K (.bool true) w') : callK Try.prog 13 [va, .int .u8 more] w0 K := by
  obtain ⟨A1, c1, e1, hc1, hr1⟩ := id ha
  refine call_of Try.func13 Code.h13 (by simp [Code.c13]) ?_
  simp (disch := omega) only [w64, tmod_nn, tdiv_nn, eq_t, eq_f, lt_t, lt_f, le_t, le_f, nlt_t, nlt_f, nle_t, nle_f, ↓EP, EQ, ↓reduceIte, Option.isSome_some, List.getElem?_cons_zero, List.getElem?_cons_succ, List.length_cons, List.length_nil, List.map_cons, List.map_nil, List.take_succ_cons, List.take_zero, List.drop_succ_cons, List.drop_zero, Option.map_none, Option.map_some, Option.getD_none, Option.getD_some, decide_true, decide_false, decide_eq_true_eq, true_and, and_true, Bool.not_eq_true', decide_eq_false_iff_not, if_true, if_false, not_false_eq_true, not_true_eq_false, Bool.false_eq_true, ne_eq, Nat.min_eq_left, Option.some.injEq, exists_eq_left', forall_eq', Int.reduceAdd, Int.reduceEq, Int.reduceLE, Int.reduceLT, Int.reduceMul, Int.reduceNeg, Int.reducePow, Int.reduceSub, Int.reduceToNat, Nat.reduceAdd, Nat.reduceEqDiff, Nat.reduceLT, Nat.reduceLeDiff, Nat.reduceMul, reduceCtorEq, Code.c13]
  refine frombytes_vw ha hL _ fun v1 w1 g1 => ?_
  have f1 := g1.fr
  by_cases hbig : 2048 < l.length
  · have e : fbR l = ([], 3) := by unfold fbR; rw [if_pos hbig]
    rw [e] at g1 ⊢
    simp (disch := omega) only [w64, tmod_nn, tdiv_nn, eq_t, eq_f, lt_t, lt_f, le_t, le_f, nlt_t, nlt_f, nle_t, nle_f, ↓EP, EQ, ↓reduceIte, Option.isSome_some, List.getElem?_cons_zero, List.getElem?_cons_succ, List.length_cons, List.length_nil, List.map_cons, List.map_nil, List.take_succ_cons, List.take_zero, List.drop_succ_cons, List.drop_zero, Option.map_none, Option.map_some, Option.getD_none, Option.getD_some, decide_true, decide_false, decide_eq_true_eq, true_and, and_true, Bool.not_eq_true', decide_eq_false_iff_not, if_true, if_false, not_false_eq_true, not_true_eq_false, Bool.false_eq_true, ne_eq, Nat.min_eq_left, Option.some.injEq, exists_eq_left', forall_eq', Int.reduceAdd, Int.reduceEq, Int.reduceLE, Int.reduceLT, Int.reduceMul, Int.reduceNeg, Int.reducePow, Int.reduceSub, Int.reduceToNat, Nat.reduceAdd, Nat.reduceEqDiff, Nat.reduceLT, Nat.reduceLeDiff, Nat.reduceMul, reduceCtorEq]
    refine num_spec 3 _ _ ?_
    simp (disch := omega) only [w64, tmod_nn, tdiv_nn, eq_t, eq_f, lt_t, lt_f, le_t, le_f, nlt_t, nlt_f, nle_t, nle_f, ↓EP, EQ, ↓reduceIte, Option.isSome_some, List.getElem?_cons_zero, List.getElem?_cons_succ, List.length_cons, List.length_nil, List.map_cons, List.map_nil, List.take_succ_cons, List.take_zero, List.drop_succ_cons, List.drop_zero, Option.map_none, Option.map_some, Option.getD_none, Option.getD_some, decide_true, decide_false, decide_eq_true_eq, true_and, and_true, Bool.not_eq_true', decide_eq_false_iff_not, if_true, if_false, not_false_eq_true, not_true_eq_false, Bool.false_eq_true, ne_eq, Nat.min_eq_left, Option.some.injEq, exists_eq_left', forall_eq', Int.reduceAdd, Int.reduceEq, Int.reduceLE, Int.reduceLT, Int.reduceMul, Int.reduceNeg, Int.reducePow, Int.reduceSub, Int.reduceToNat, Nat.reduceAdd, Nat.reduceEqDiff, Nat.reduceLT, Nat.reduceLeDiff, Nat.reduceMul, reduceCtorEq, e1]
    refine live_spec _ _ fun w2 f2 => ?_
    simp (disch := omega) only [w64, tmod_nn, tdiv_nn, eq_t, eq_f, lt_t, lt_f, le_t, le_f, nlt_t, nlt_f, nle_t, nle_f, ↓EP, EQ, ↓reduceIte, Option.isSome_some, List.getElem?_cons_zero, List.getElem?_cons_succ, List.length_cons, List.length_nil, List.map_cons, List.map_nil, List.take_succ_cons, List.take_zero, List.drop_succ_cons, List.drop_zero, Option.map_none, Option.map_some, Option.getD_none, Option.getD_some, decide_true, decide_false, decide_eq_true_eq, true_and, and_true, Bool.not_eq_true', decide_eq_false_iff_not, if_true, if_false, not_false_eq_true, not_true_eq_false, Bool.false_eq_true, ne_eq, Nat.min_eq_left, Option.some.injEq, exists_eq_left', forall_eq', Int.reduceAdd, Int.reduceEq, Int.reduceLE, Int.reduceLT, Int.reduceMul, Int.reduceNeg, Int.reducePow, Int.reduceSub, Int.reduceToNat, Nat.reduceAdd, Nat.reduceEqDiff, Nat.reduceLT, Nat.reduceLeDiff, Nat.reduceMul, reduceCtorEq]
    exact hK w2 (f1.nb f2)
  have e : fbR l = (limbs (bv l), 0) := by unfold fbR; rw [if_neg hbig]
  rw [e] at g1 ⊢
  simp (disch := omega) only [w64, tmod_nn, tdiv_nn, eq_t, eq_f, lt_t, lt_f, le_t, le_f, nlt_t, nlt_f, nle_t, nle_f, ↓EP, EQ, ↓reduceIte, Option.isSome_some, List.getElem?_cons_zero, List.getElem?_cons_succ, List.length_cons, List.length_nil, List.map_cons, List.map_nil, List.take_succ_cons, List.take_zero, List.drop_succ_cons, List.drop_zero, Option.map_none, Option.map_some, Option.getD_none, Option.getD_some, decide_true, decide_false, decide_eq_true_eq, true_and, and_true, Bool.not_eq_true', decide_eq_false_iff_not, if_true, if_false, not_false_eq_true, not_true_eq_false, Bool.false_eq_true, ne_eq, Nat.min_eq_left, Option.some.injEq, exists_eq_left', forall_eq', Int.reduceAdd, Int.reduceEq, Int.reduceLE, Int.reduceLT, Int.reduceMul, Int.reduceNeg, Int.reducePow, Int.reduceSub, Int.reduceToNat, Nat.reduceAdd, Nat.reduceEqDiff, Nat.reduceLT, Nat.reduceLeDiff, Nat.reduceMul, reduceCtorEq]
  refine num_spec 0 _ _ ?_
  obtain ⟨q, rfl⟩ : ∃ q : Nat, more = q := ⟨more.toNat, by omega⟩
  have hq : q < 256 := by omega
  have bb := bv_bd hL
  have esum : (l.length : Int) + (q : Int) = ((q + l.length : Nat) : Int) := by omega
  by_cases hn : (2048 : Int) < ((q + l.length : Nat) : Int)
  · simp (disch := omega) only [w64, tmod_nn, tdiv_nn, eq_t, eq_f, lt_t, lt_f, le_t, le_f, nlt_t, nlt_f, nle_t, nle_f, ↓EP, EQ, ↓reduceIte, Option.isSome_some, List.getElem?_cons_zero, List.getElem?_cons_succ, List.length_cons, List.length_nil, List.map_cons, List.map_nil, List.take_succ_cons, List.take_zero, List.drop_succ_cons, List.drop_zero, Option.map_none, Option.map_some, Option.getD_none, Option.getD_some, decide_true, decide_false, decide_eq_true_eq, true_and, and_true, Bool.not_eq_true', decide_eq_false_iff_not, if_true, if_false, not_false_eq_true, not_true_eq_false, Bool.false_eq_true, ne_eq, Nat.min_eq_left, Option.some.injEq, exists_eq_left', forall_eq', Int.reduceAdd, Int.reduceEq, Int.reduceLE, Int.reduceLT, Int.reduceMul, Int.reduceNeg, Int.reducePow, Int.reduceSub, Int.reduceToNat, Nat.reduceAdd, Nat.reduceEqDiff, Nat.reduceLT, Nat.reduceLeDiff, Nat.reduceMul, reduceCtorEq, e1, esum]
    refine live_spec _ _ fun w2 f2 => ?_
    simp (disch := omega) only [w64, tmod_nn, tdiv_nn, eq_t, eq_f, lt_t, lt_f, le_t, le_f, nlt_t, nlt_f, nle_t, nle_f, ↓EP, EQ, ↓reduceIte, Option.isSome_some, List.getElem?_cons_zero, List.getElem?_cons_succ, List.length_cons, List.length_nil, List.map_cons, List.map_nil, List.take_succ_cons, List.take_zero, List.drop_succ_cons, List.drop_zero, Option.map_none, Option.map_some, Option.getD_none, Option.getD_some, decide_true, decide_false, decide_eq_true_eq, true_and, and_true, Bool.not_eq_true', decide_eq_false_iff_not, if_true, if_false, not_false_eq_true, not_true_eq_false, Bool.false_eq_true, ne_eq, Nat.min_eq_left, Option.some.injEq, exists_eq_left', forall_eq', Int.reduceAdd, Int.reduceEq, Int.reduceLE, Int.reduceLT, Int.reduceMul, Int.reduceNeg, Int.reducePow, Int.reduceSub, Int.reduceToNat, Nat.reduceAdd, Nat.reduceEqDiff, Nat.reduceLT, Nat.reduceLeDiff, Nat.reduceMul, reduceCtorEq]
    exact hK w2 (f1.nb f2)
  simp (disch := omega) only [w64, tmod_nn, tdiv_nn, eq_t, eq_f, lt_t, lt_f, le_t, le_f, nlt_t, nlt_f, nle_t, nle_f, ↓EP, EQ, ↓reduceIte, Option.isSome_some, List.getElem?_cons_zero, List.getElem?_cons_succ, List.length_cons, List.length_nil, List.map_cons, List.map_nil, List.take_succ_cons, List.take_zero, List.drop_succ_cons, List.drop_zero, Option.map_none, Option.map_some, Option.getD_none, Option.getD_some, decide_true, decide_false, decide_eq_true_eq, true_and, and_true, Bool.not_eq_true', decide_eq_false_iff_not, if_true, if_false, not_false_eq_true, not_true_eq_false, Bool.false_eq_true, ne_eq, Nat.min_eq_left, Option.some.injEq, exists_eq_left', forall_eq', Int.reduceAdd, Int.reduceEq, Int.reduceLE, Int.reduceLT, Int.reduceMul, Int.reduceNeg, Int.reducePow, Int.reduceSub, Int.reduceToNat, Nat.reduceAdd, Nat.reduceEqDiff, Nat.reduceLT, Nat.reduceLeDiff, Nat.reduceMul, reduceCtorEq, e1, esum]
  have k1 : (limbs (bv l)).length ≤ 512 := (limbs_len bb.1).2 (by
    rw [p8_pw]
    have := p8_mono (show l.length ≤ 4 * 512 by omega)
    omega)
  have hvl : bv l < 256 ^ (q + l.length) := by
    have := p8_mono (show l.length ≤ q + l.length by omega)
    omega
  have hbl := (bl_bytes bb.1 (q + l.length)).2 hvl
  have m1 := g1.nv bb.1
  refine bytes_vw _ m1.2 (limbs_lim _) (by omega) _ fun v2 w2 g2 => ?_
  have f2 := g2.fr
  have e2 : tbR (limbs (bv l)) ((q + l.length : Nat) : Int) = (bvs (q + l.length) (bv l), 0) := by
    unfold tbR
    rw [if_neg (by omega), if_neg (by omega), limbs_val bb.1, if_neg (by omega), Int.toNat_natCast]
  rw [e2] at g2 ⊢
  have hlen2 := bvs_len (q + l.length) (bv l)
  simp (disch := omega) only [w64, tmod_nn, tdiv_nn, eq_t, eq_f, lt_t, lt_f, le_t, le_f, nlt_t, nlt_f, nle_t, nle_f, ↓EP, EQ, ↓reduceIte, Option.isSome_some, List.getElem?_cons_zero, List.getElem?_cons_succ, List.length_cons, List.length_nil, List.map_cons, List.map_nil, List.take_succ_cons, List.take_zero, List.drop_succ_cons, List.drop_zero, Option.map_none, Option.map_some, Option.getD_none, Option.getD_some, decide_true, decide_false, decide_eq_true_eq, true_and, and_true, Bool.not_eq_true', decide_eq_false_iff_not, if_true, if_false, not_false_eq_true, not_true_eq_false, Bool.false_eq_true, ne_eq, Nat.min_eq_left, Option.some.injEq, exists_eq_left', forall_eq', Int.reduceAdd, Int.reduceEq, Int.reduceLE, Int.reduceLT, Int.reduceMul, Int.reduceNeg, Int.reducePow, Int.reduceSub, Int.reduceToNat, Nat.reduceAdd, Nat.reduceEqDiff, Nat.reduceLT, Nat.reduceLeDiff, Nat.reduceMul, reduceCtorEq]
  refine frombytes_vw g2.vw (bvs_byt _ _) _ fun v3 w3 g3 => ?_
  have f3 := g3.fr
  have e3 : fbR (bvs (q + l.length) (bv l)) = (limbs (bv l), 0) := by unfold fbR; rw [hlen2, if_neg (by omega), bv_bvs bb.1 hvl]
  rw [e3] at g3 ⊢
  simp (disch := omega) only [w64, tmod_nn, tdiv_nn, eq_t, eq_f, lt_t, lt_f, le_t, le_f, nlt_t, nlt_f, nle_t, nle_f, ↓EP, EQ, ↓reduceIte, Option.isSome_some, List.getElem?_cons_zero, List.getElem?_cons_succ, List.length_cons, List.length_nil, List.map_cons, List.map_nil, List.take_succ_cons, List.take_zero, List.drop_succ_cons, List.drop_zero, Option.map_none, Option.map_some, Option.getD_none, Option.getD_some, decide_true, decide_false, decide_eq_true_eq, true_and, and_true, Bool.not_eq_true', decide_eq_false_iff_not, if_true, if_false, not_false_eq_true, not_true_eq_false, Bool.false_eq_true, ne_eq, Nat.min_eq_left, Option.some.injEq, exists_eq_left', forall_eq', Int.reduceAdd, Int.reduceEq, Int.reduceLE, Int.reduceLT, Int.reduceMul, Int.reduceNeg, Int.reducePow, Int.reduceSub, Int.reduceToNat, Nat.reduceAdd, Nat.reduceEqDiff, Nat.reduceLT, Nat.reduceLeDiff, Nat.reduceMul, reduceCtorEq]
  refine num_spec 0 _ _ ?_
  simp (disch := omega) only [w64, tmod_nn, tdiv_nn, eq_t, eq_f, lt_t, lt_f, le_t, le_f, nlt_t, nlt_f, nle_t, nle_f, ↓EP, EQ, ↓reduceIte, Option.isSome_some, List.getElem?_cons_zero, List.getElem?_cons_succ, List.length_cons, List.length_nil, List.map_cons, List.map_nil, List.take_succ_cons, List.take_zero, List.drop_succ_cons, List.drop_zero, Option.map_none, Option.map_some, Option.getD_none, Option.getD_some, decide_true, decide_false, decide_eq_true_eq, true_and, and_true, Bool.not_eq_true', decide_eq_false_iff_not, if_true, if_false, not_false_eq_true, not_true_eq_false, Bool.false_eq_true, ne_eq, Nat.min_eq_left, Option.some.injEq, exists_eq_left', forall_eq', Int.reduceAdd, Int.reduceEq, Int.reduceLE, Int.reduceLT, Int.reduceMul, Int.reduceNeg, Int.reducePow, Int.reduceSub, Int.reduceToNat, Nat.reduceAdd, Nat.reduceEqDiff, Nat.reduceLT, Nat.reduceLeDiff, Nat.reduceMul, reduceCtorEq]
  refine num_spec 0 _ _ ?_
  obtain ⟨A2, c2, e2', hc2, hr2⟩ := g2.vw
  rw [hlen2] at e2'
  have hdrop : (bvs (q + l.length) (bv l)).drop q = l := by
    rw [bvs_zeros bb.1 bb.2, List.drop_left' (by simp), bvs_bv hL]
  simp (disch := omega) only [w64, tmod_nn, tdiv_nn, eq_t, eq_f, lt_t, lt_f, le_t, le_f, nlt_t, nlt_f, nle_t, nle_f, ↓EP, EQ, ↓reduceIte, Option.isSome_some, List.getElem?_cons_zero, List.getElem?_cons_succ, List.length_cons, List.length_nil, List.map_cons, List.map_nil, List.take_succ_cons, List.take_zero, List.drop_succ_cons, List.drop_zero, Option.map_none, Option.map_some, Option.getD_none, Option.getD_some, decide_true, decide_false, decide_eq_true_eq, true_and, and_true, Bool.not_eq_true', decide_eq_false_iff_not, if_true, if_false, not_false_eq_true, not_true_eq_false, Bool.false_eq_true, ne_eq, Nat.min_eq_left, Option.some.injEq, exists_eq_left', forall_eq', Int.reduceAdd, Int.reduceEq, Int.reduceLE, Int.reduceLT, Int.reduceMul, Int.reduceNeg, Int.reducePow, Int.reduceSub, Int.reduceToNat, Nat.reduceAdd, Nat.reduceEqDiff, Nat.reduceLT, Nat.reduceLeDiff, Nat.reduceMul, reduceCtorEq, e2']
  refine same_yes (m1.nb (f2.nb f3)).2 g3.vw rfl (Nat.le_trans k1 (by decide)) _ fun w4 f4 => ?_
  have hs := Vw.lo hc2 (hr2.nb (f3.nb f4)) q (by rw [hlen2]; omega) hlen2
  rw [hdrop] at hs
  have hc2' : q + l.length ≤ c2 := by rw [hlen2] at hc2; exact hc2
  simp (disch := omega) only [w64, tmod_nn, tdiv_nn, eq_t, eq_f, lt_t, lt_f, le_t, le_f, nlt_t, nlt_f, nle_t, nle_f, ↓EP, EQ, ↓reduceIte, Option.isSome_some, List.getElem?_cons_zero, List.getElem?_cons_succ, List.length_cons, List.length_nil, List.map_cons, List.map_nil, List.take_succ_cons, List.take_zero, List.drop_succ_cons, List.drop_zero, Option.map_none, Option.map_some, Option.getD_none, Option.getD_some, decide_true, decide_false, decide_eq_true_eq, true_and, and_true, Bool.not_eq_true', decide_eq_false_iff_not, if_true, if_false, not_false_eq_true, not_true_eq_false, Bool.false_eq_true, ne_eq, Nat.min_eq_left, Option.some.injEq, exists_eq_left', forall_eq', Int.reduceAdd, Int.reduceEq, Int.reduceLE, Int.reduceLT, Int.reduceMul, Int.reduceNeg, Int.reducePow, Int.reduceSub, Int.reduceToNat, Nat.reduceAdd, Nat.reduceEqDiff, Nat.reduceLT, Nat.reduceLeDiff, Nat.reduceMul, reduceCtorEq, e2', hc2']
  refine sameb_yes hs (ha.nb (((f1.nb f2).nb f3).nb f4)) rfl (by omega) _ fun w5 f5 => ?_
  simp (disch := omega) only [w64, tmod_nn, tdiv_nn, eq_t, eq_f, lt_t, lt_f, le_t, le_f, nlt_t, nlt_f, nle_t, nle_f, ↓EP, EQ, ↓reduceIte, Option.isSome_some, List.getElem?_cons_zero, List.getElem?_cons_succ, List.length_cons, List.length_nil, List.map_cons, List.map_nil, List.take_succ_cons, List.take_zero, List.drop_succ_cons, List.drop_zero, Option.map_none, Option.map_some, Option.getD_none, Option.getD_some, decide_true, decide_false, decide_eq_true_eq, true_and, and_true, Bool.not_eq_true', decide_eq_false_iff_not, if_true, if_false, not_false_eq_true, not_true_eq_false, Bool.false_eq_true, ne_eq, Nat.min_eq_left, Option.some.injEq, exists_eq_left', forall_eq', Int.reduceAdd, Int.reduceEq, Int.reduceLE, Int.reduceLT, Int.reduceMul, Int.reduceNeg, Int.reducePow, Int.reduceSub, Int.reduceToNat, Nat.reduceAdd, Nat.reduceEqDiff, Nat.reduceLT, Nat.reduceLeDiff, Nat.reduceMul, reduceCtorEq]
  refine live_spec _ _ fun w6 f6 => ?_
  simp (disch := omega) only [w64, tmod_nn, tdiv_nn, eq_t, eq_f, lt_t, lt_f, le_t, le_f, nlt_t, nlt_f, nle_t, nle_f, ↓EP, EQ, ↓reduceIte, Option.isSome_some, List.getElem?_cons_zero, List.getElem?_cons_succ, List.length_cons, List.length_nil, List.map_cons, List.map_nil, List.take_succ_cons, List.take_zero, List.drop_succ_cons, List.drop_zero, Option.map_none, Option.map_some, Option.getD_none, Option.getD_some, decide_true, decide_false, decide_eq_true_eq, true_and, and_true, Bool.not_eq_true', decide_eq_false_iff_not, if_true, if_false, not_false_eq_true, not_true_eq_false, Bool.false_eq_true, ne_eq, Nat.min_eq_left, Option.some.injEq, exists_eq_left', forall_eq', Int.reduceAdd, Int.reduceEq, Int.reduceLE, Int.reduceLT, Int.reduceMul, Int.reduceNeg, Int.reducePow, Int.reduceSub, Int.reduceToNat, Nat.reduceAdd, Nat.reduceEqDiff, Nat.reduceLT, Nat.reduceLeDiff, Nat.reduceMul, reduceCtorEq]
  exact hK w6 (((((f1.nb f2).nb f3).nb f4).nb f5).nb f6)
end Go.Proofs.Ytbgfebhhejlakaa.Spec
namespace Go.Proofs.Ytbgfebhhejlakaa
open Go Go.ChangeShapes Go.WideShapes Go.ChangeAt Go.WideMaps Go.WideElems Go.RowKit Go.Proofs.Ytbgfebhhejlakaa.Eng Go.Proofs.Ytbgfebhhejlakaa.Spec
set_option maxRecDepth 100000
theorem natBack_walk {H : Type} {enc : TypeId × Value → H} (W : World) (base : Nat) (args : Array Value) (ds : List (DataW H)) (p : List MemPlace) (hA0 : DataW.TrodAll enc Try.prog W 0 (fun _ => true) true Try.f13.params.toList args.toList ds p)
    (hval : ∀ (j : Nat) t v, Try.f13.params[j]? = some t → args[j]? = some v → Value.okWide Try.prog W .any base t v) (hz : (DataW.weightsEach Try.prog Try.f13.params.toList ds).all (· ≤ reachBytes) = true) (hL : True) :
    callK Try.prog 13 args.toList W fun v w' => v = .bool true ∧ Fr W w' nob := by
  have hA : DataW.TrodAll enc Try.prog W 0 (fun _ => true) true Try.f13.params.toList args.toList ds p := hA0
  rw [Try.params13] at hA hval
  obtain ⟨v0, v1, d0, d1, p0, p1, rfl, rfl, rfl, h0, h1⟩ := trodAll_two hA
  obtain ⟨A0, c0, l0, m0, rfl, hc0, h630, hd0, hl0, hw0⟩ := Row.open_sl Try.underlying44 Try.underlying5 cells_u8 (hval 0 44 v0 rfl rfl) h0
  obtain ⟨n1, rfl, -, -, wf1⟩ := open_int Try.underlying5 (hval 1 5 v1 rfl rfl) h1
  exact Spec.back_law (vw_of hc0 hl0) (byt_of hw0) (Row.wf_u8 wf1) (by unfold maxLen at h630; omega) _ fun w' f => ⟨rfl, f⟩
theorem natBack_lifted (os : Os) (started : os.Started) (H : Type) (enc : TypeId × Value → H) :
    ReturnsInHanded {} Try.checked os 13 .any (fun w args => Rows.natBackSpec.pre enc Try.prog Try.f13 [] false w args ∧ sizedMet enc Try.prog Try.f13 (OpenSpec.ofChange Rows.natBackSpec) false w args)
      (Rows.natBackSpec.post enc Try.prog Try.f13 false true false false) := by
  have h := Row.lifted_of (enc := enc) (s := Rows.natBackSpec) (C := Try.checked) (X := fun _ _ => True) (fun _ _ _ _ h => h) own started (by kernel_rfl) Try.func13
    (ChangeSpec.witness_shaped (enc := enc) (C := Try.checked) (os := os) (X := fun _ _ => True) false (World.holding Try.prog os ⟨#[], #[.slice none 0 0, .int .u8 0], []⟩) #[.slice none 0 0, .int .u8 0] 8 rfl (World.shaped_of_B (by kernel_rfl) (by kernel_rfl)) (by kernel_rfl) (by kernel_rfl) (by kernel_rfl) trivial)
    laidOut (tb := 4) (by kernel_rfl) Try.underlying4 rfl (of_decide_eq_true (by kernel_rfl)) (fun ds h => by rw [show Try.f13.params.size = 2 by kernel_rfl] at h; obtain ⟨a, b, rfl⟩ := Row.len2 h; exact ⟨rfl, rfl, rfl⟩)
    (fun W base args ds p hA hval hz hL => natBack_walk (enc := enc) W base args ds p hA hval hz hL)
  simp only [and_true] at h
  exact h
theorem natBack_holds : Rows.NatBackSaid :=
  OpenClaim.holds_of_wide 13 Try.f13 rfl rfl rfl rfl rfl rfl rfl ⟨rfl, rfl, rfl, rfl, rfl⟩ rfl rfl rfl rfl rfl (by kernel_rfl) Try.func13 (by kernel_rfl)
    (of_decide_eq_true (by kernel_rfl)) (by unfold Func.isWrapper; first | (rw [if_pos (by decide +kernel)]; kernel_rfl) | (rw [if_neg (by decide +kernel)]; exact ⟨rfl, rfl⟩))
    (fun os started H enc _ => natBack_lifted os started H enc)
end Go.Proofs.Ytbgfebhhejlakaa
