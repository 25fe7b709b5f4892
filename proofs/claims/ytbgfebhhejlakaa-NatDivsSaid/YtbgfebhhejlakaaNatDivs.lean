/- NatDivs: whatever the two lists, the law answers true. -/
import Derived.Test.YtbgfebhhejlakaaNatS
import Derived.Test.YtbgfebhhejlakaaRn6
set_option linter.unusedVariables false
set_option linter.unusedSimpArgs false
namespace Go.Proofs.Ytbgfebhhejlakaa.Spec
open Go Go.RowKit Go.Proofs Go.Proofs.Ytbgfebhhejlakaa.Eng Go.Proofs.Ytbgfebhhejlakaa.Code Go.Proofs.Ytbgfebhhejlakaa.Big
set_option maxRecDepth 100000
attribute [local irreducible] callK S.W opsW scrW
set_option maxHeartbeats 2000000 in
theorem divs_law {w0 : World} {va vb : Value} {a b : List Int} (ha : Vw .u32 w0 va a) (hb : Vw .u32 w0 vb b) (hA : Lim a) (hB : Lim b) (za : a.length ≤ 35184372088824) (zb : b.length ≤ 35184372088824) (K : Value → World → Prop)
    (hK : ∀ w', Fr w0 w' nob → K (.bool true) w') : callK Try.prog 5 [va, vb] w0 K := by
  have b1 := (val_bd hA).1
  have b2 := (val_bd hB).1
  have hlen : (divR a b).1.length ≤ 512 ∧ (divR a b).2.1.length ≤ 512 := by
    unfold divR; split
    · simp
    · split
      · simp
      · have k1 := len_val hA
        have k2 := len_val hB
        have hr := mod_bd (a := val a) (m := val b) (by omega)
        have k3 := len_mono (Int.ediv_nonneg b1 b2) (Int.ediv_le_self (val b) b1)
        have k4 := len_mono hr.1 (show val a % val b ≤ val b by omega)
        exact ⟨by show (limbs (val a / val b)).length ≤ 512; omega, by show (limbs (val a % val b)).length ≤ 512; omega⟩
  refine call_of Try.func5 Code.h5 (by simp [Code.c5]) ?_
  simp (disch := omega) only [w64, tmod_nn, tdiv_nn, eq_t, eq_f, lt_t, lt_f, le_t, le_f, nlt_t, nlt_f, nle_t, nle_f, ↓EP, EQ, ↓reduceIte, Option.isSome_some, List.getElem?_cons_zero, List.getElem?_cons_succ, List.length_cons, List.length_nil, List.map_cons, List.map_nil, List.take_succ_cons, List.take_zero, List.drop_succ_cons, List.drop_zero, Option.map_none, Option.map_some, Option.getD_none, Option.getD_some, decide_true, decide_false, decide_eq_true_eq, true_and, and_true, Bool.not_eq_true', decide_eq_false_iff_not, if_true, if_false, not_false_eq_true, not_true_eq_false, Bool.false_eq_true, ne_eq, Nat.min_eq_left, Option.some.injEq, exists_eq_left', forall_eq', Int.reduceAdd, Int.reduceEq, Int.reduceLE, Int.reduceLT, Int.reduceMul, Int.reduceNeg, Int.reducePow, Int.reduceSub, Int.reduceToNat, Nat.reduceAdd, Nat.reduceEqDiff, Nat.reduceLT, Nat.reduceLeDiff, Nat.reduceMul, reduceCtorEq, Code.c5]
  refine lent_vw ha za _ fun vc w1 L1 f1 => ?_
  simp (disch := omega) only [w64, tmod_nn, tdiv_nn, eq_t, eq_f, lt_t, lt_f, le_t, le_f, nlt_t, nlt_f, nle_t, nle_f, ↓EP, EQ, ↓reduceIte, Option.isSome_some, List.getElem?_cons_zero, List.getElem?_cons_succ, List.length_cons, List.length_nil, List.map_cons, List.map_nil, List.take_succ_cons, List.take_zero, List.drop_succ_cons, List.drop_zero, Option.map_none, Option.map_some, Option.getD_none, Option.getD_some, decide_true, decide_false, decide_eq_true_eq, true_and, and_true, Bool.not_eq_true', decide_eq_false_iff_not, if_true, if_false, not_false_eq_true, not_true_eq_false, Bool.false_eq_true, ne_eq, Nat.min_eq_left, Option.some.injEq, exists_eq_left', forall_eq', Int.reduceAdd, Int.reduceEq, Int.reduceLE, Int.reduceLT, Int.reduceMul, Int.reduceNeg, Int.reducePow, Int.reduceSub, Int.reduceToNat, Nat.reduceAdd, Nat.reduceEqDiff, Nat.reduceLT, Nat.reduceLeDiff, Nat.reduceMul, reduceCtorEq]
  refine lent_vw (hb.nb f1) zb _ fun vd w2 L2 f2 => ?_
  have L1 := L1.nb f2
  simp (disch := omega) only [w64, tmod_nn, tdiv_nn, eq_t, eq_f, lt_t, lt_f, le_t, le_f, nlt_t, nlt_f, nle_t, nle_f, ↓EP, EQ, ↓reduceIte, Option.isSome_some, List.getElem?_cons_zero, List.getElem?_cons_succ, List.length_cons, List.length_nil, List.map_cons, List.map_nil, List.take_succ_cons, List.take_zero, List.drop_succ_cons, List.drop_zero, Option.map_none, Option.map_some, Option.getD_none, Option.getD_some, decide_true, decide_false, decide_eq_true_eq, true_and, and_true, Bool.not_eq_true', decide_eq_false_iff_not, if_true, if_false, not_false_eq_true, not_true_eq_false, Bool.false_eq_true, ne_eq, Nat.min_eq_left, Option.some.injEq, exists_eq_left', forall_eq', Int.reduceAdd, Int.reduceEq, Int.reduceLE, Int.reduceLT, Int.reduceMul, Int.reduceNeg, Int.reducePow, Int.reduceSub, Int.reduceToNat, Nat.reduceAdd, Nat.reduceEqDiff, Nat.reduceLT, Nat.reduceLeDiff, Nat.reduceMul, reduceCtorEq]
  refine divmod_vw L1.vw L2.vw hA hB _ fun u3 v3 w3 g3 g3' _ => ?_
  have f3 := g3.fr
  simp (disch := omega) only [w64, tmod_nn, tdiv_nn, eq_t, eq_f, lt_t, lt_f, le_t, le_f, nlt_t, nlt_f, nle_t, nle_f, ↓EP, EQ, ↓reduceIte, Option.isSome_some, List.getElem?_cons_zero, List.getElem?_cons_succ, List.length_cons, List.length_nil, List.map_cons, List.map_nil, List.take_succ_cons, List.take_zero, List.drop_succ_cons, List.drop_zero, Option.map_none, Option.map_some, Option.getD_none, Option.getD_some, decide_true, decide_false, decide_eq_true_eq, true_and, and_true, Bool.not_eq_true', decide_eq_false_iff_not, if_true, if_false, not_false_eq_true, not_true_eq_false, Bool.false_eq_true, ne_eq, Nat.min_eq_left, Option.some.injEq, exists_eq_left', forall_eq', Int.reduceAdd, Int.reduceEq, Int.reduceLE, Int.reduceLT, Int.reduceMul, Int.reduceNeg, Int.reducePow, Int.reduceSub, Int.reduceToNat, Nat.reduceAdd, Nat.reduceEqDiff, Nat.reduceLT, Nat.reduceLeDiff, Nat.reduceMul, reduceCtorEq]
  refine rdivmod_vw (ha.nb ((f1.nb f2).nb f3)) (hb.nb ((f1.nb f2).nb f3)) hA hB _ fun u4 v4 w4 g4 g4' => ?_
  have f4 := g4.fr
  simp (disch := omega) only [w64, tmod_nn, tdiv_nn, eq_t, eq_f, lt_t, lt_f, le_t, le_f, nlt_t, nlt_f, nle_t, nle_f, ↓EP, EQ, ↓reduceIte, Option.isSome_some, List.getElem?_cons_zero, List.getElem?_cons_succ, List.length_cons, List.length_nil, List.map_cons, List.map_nil, List.take_succ_cons, List.take_zero, List.drop_succ_cons, List.drop_zero, Option.map_none, Option.map_some, Option.getD_none, Option.getD_some, decide_true, decide_false, decide_eq_true_eq, true_and, and_true, Bool.not_eq_true', decide_eq_false_iff_not, if_true, if_false, not_false_eq_true, not_true_eq_false, Bool.false_eq_true, ne_eq, Nat.min_eq_left, Option.some.injEq, exists_eq_left', forall_eq', Int.reduceAdd, Int.reduceEq, Int.reduceLE, Int.reduceLT, Int.reduceMul, Int.reduceNeg, Int.reducePow, Int.reduceSub, Int.reduceToNat, Nat.reduceAdd, Nat.reduceEqDiff, Nat.reduceLT, Nat.reduceLeDiff, Nat.reduceMul, reduceCtorEq]
  refine same_yes (g3.vw.nb f4) g4.vw rfl (by omega) _ fun w5 f5 => ?_
  simp (disch := omega) only [w64, tmod_nn, tdiv_nn, eq_t, eq_f, lt_t, lt_f, le_t, le_f, nlt_t, nlt_f, nle_t, nle_f, ↓EP, EQ, ↓reduceIte, Option.isSome_some, List.getElem?_cons_zero, List.getElem?_cons_succ, List.length_cons, List.length_nil, List.map_cons, List.map_nil, List.take_succ_cons, List.take_zero, List.drop_succ_cons, List.drop_zero, Option.map_none, Option.map_some, Option.getD_none, Option.getD_some, decide_true, decide_false, decide_eq_true_eq, true_and, and_true, Bool.not_eq_true', decide_eq_false_iff_not, if_true, if_false, not_false_eq_true, not_true_eq_false, Bool.false_eq_true, ne_eq, Nat.min_eq_left, Option.some.injEq, exists_eq_left', forall_eq', Int.reduceAdd, Int.reduceEq, Int.reduceLE, Int.reduceLT, Int.reduceMul, Int.reduceNeg, Int.reducePow, Int.reduceSub, Int.reduceToNat, Nat.reduceAdd, Nat.reduceEqDiff, Nat.reduceLT, Nat.reduceLeDiff, Nat.reduceMul, reduceCtorEq]
  refine same_yes (g3'.vw.nb (f4.nb f5)) (g4'.vw.nb f5) rfl (by omega) _ fun w6 f6 => ?_
  simp (disch := omega) only [w64, tmod_nn, tdiv_nn, eq_t, eq_f, lt_t, lt_f, le_t, le_f, nlt_t, nlt_f, nle_t, nle_f, ↓EP, EQ, ↓reduceIte, Option.isSome_some, List.getElem?_cons_zero, List.getElem?_cons_succ, List.length_cons, List.length_nil, List.map_cons, List.map_nil, List.take_succ_cons, List.take_zero, List.drop_succ_cons, List.drop_zero, Option.map_none, Option.map_some, Option.getD_none, Option.getD_some, decide_true, decide_false, decide_eq_true_eq, true_and, and_true, Bool.not_eq_true', decide_eq_false_iff_not, if_true, if_false, not_false_eq_true, not_true_eq_false, Bool.false_eq_true, ne_eq, Nat.min_eq_left, Option.some.injEq, exists_eq_left', forall_eq', Int.reduceAdd, Int.reduceEq, Int.reduceLE, Int.reduceLT, Int.reduceMul, Int.reduceNeg, Int.reducePow, Int.reduceSub, Int.reduceToNat, Nat.reduceAdd, Nat.reduceEqDiff, Nat.reduceLT, Nat.reduceLeDiff, Nat.reduceMul, reduceCtorEq]
  refine num_spec _ _ _ ?_
  simp (disch := omega) only [w64, tmod_nn, tdiv_nn, eq_t, eq_f, lt_t, lt_f, le_t, le_f, nlt_t, nlt_f, nle_t, nle_f, ↓EP, EQ, ↓reduceIte, Option.isSome_some, List.getElem?_cons_zero, List.getElem?_cons_succ, List.length_cons, List.length_nil, List.map_cons, List.map_nil, List.take_succ_cons, List.take_zero, List.drop_succ_cons, List.drop_zero, Option.map_none, Option.map_some, Option.getD_none, Option.getD_some, decide_true, decide_false, decide_eq_true_eq, true_and, and_true, Bool.not_eq_true', decide_eq_false_iff_not, if_true, if_false, not_false_eq_true, not_true_eq_false, Bool.false_eq_true, ne_eq, Nat.min_eq_left, Option.some.injEq, exists_eq_left', forall_eq', Int.reduceAdd, Int.reduceEq, Int.reduceLE, Int.reduceLT, Int.reduceMul, Int.reduceNeg, Int.reducePow, Int.reduceSub, Int.reduceToNat, Nat.reduceAdd, Nat.reduceEqDiff, Nat.reduceLT, Nat.reduceLeDiff, Nat.reduceMul, reduceCtorEq]
  refine kept_vw (L1.nb (((f3.nb f4).nb f5).nb f6)) (ha.nb (((((f1.nb f2).nb f3).nb f4).nb f5).nb f6)) za _ fun w7 f7 => ?_
  simp (disch := omega) only [w64, tmod_nn, tdiv_nn, eq_t, eq_f, lt_t, lt_f, le_t, le_f, nlt_t, nlt_f, nle_t, nle_f, ↓EP, EQ, ↓reduceIte, Option.isSome_some, List.getElem?_cons_zero, List.getElem?_cons_succ, List.length_cons, List.length_nil, List.map_cons, List.map_nil, List.take_succ_cons, List.take_zero, List.drop_succ_cons, List.drop_zero, Option.map_none, Option.map_some, Option.getD_none, Option.getD_some, decide_true, decide_false, decide_eq_true_eq, true_and, and_true, Bool.not_eq_true', decide_eq_false_iff_not, if_true, if_false, not_false_eq_true, not_true_eq_false, Bool.false_eq_true, ne_eq, Nat.min_eq_left, Option.some.injEq, exists_eq_left', forall_eq', Int.reduceAdd, Int.reduceEq, Int.reduceLE, Int.reduceLT, Int.reduceMul, Int.reduceNeg, Int.reducePow, Int.reduceSub, Int.reduceToNat, Nat.reduceAdd, Nat.reduceEqDiff, Nat.reduceLT, Nat.reduceLeDiff, Nat.reduceMul, reduceCtorEq]
  refine kept_vw (L2.nb ((((f3.nb f4).nb f5).nb f6).nb f7)) (hb.nb ((((((f1.nb f2).nb f3).nb f4).nb f5).nb f6).nb f7)) zb _ fun w8 f8 => ?_
  simp (disch := omega) only [w64, tmod_nn, tdiv_nn, eq_t, eq_f, lt_t, lt_f, le_t, le_f, nlt_t, nlt_f, nle_t, nle_f, ↓EP, EQ, ↓reduceIte, Option.isSome_some, List.getElem?_cons_zero, List.getElem?_cons_succ, List.length_cons, List.length_nil, List.map_cons, List.map_nil, List.take_succ_cons, List.take_zero, List.drop_succ_cons, List.drop_zero, Option.map_none, Option.map_some, Option.getD_none, Option.getD_some, decide_true, decide_false, decide_eq_true_eq, true_and, and_true, Bool.not_eq_true', decide_eq_false_iff_not, if_true, if_false, not_false_eq_true, not_true_eq_false, Bool.false_eq_true, ne_eq, Nat.min_eq_left, Option.some.injEq, exists_eq_left', forall_eq', Int.reduceAdd, Int.reduceEq, Int.reduceLE, Int.reduceLT, Int.reduceMul, Int.reduceNeg, Int.reducePow, Int.reduceSub, Int.reduceToNat, Nat.reduceAdd, Nat.reduceEqDiff, Nat.reduceLT, Nat.reduceLeDiff, Nat.reduceMul, reduceCtorEq]
  refine live_spec _ _ fun w9 f9 => ?_
  simp (disch := omega) only [w64, tmod_nn, tdiv_nn, eq_t, eq_f, lt_t, lt_f, le_t, le_f, nlt_t, nlt_f, nle_t, nle_f, ↓EP, EQ, ↓reduceIte, Option.isSome_some, List.getElem?_cons_zero, List.getElem?_cons_succ, List.length_cons, List.length_nil, List.map_cons, List.map_nil, List.take_succ_cons, List.take_zero, List.drop_succ_cons, List.drop_zero, Option.map_none, Option.map_some, Option.getD_none, Option.getD_some, decide_true, decide_false, decide_eq_true_eq, true_and, and_true, Bool.not_eq_true', decide_eq_false_iff_not, if_true, if_false, not_false_eq_true, not_true_eq_false, Bool.false_eq_true, ne_eq, Nat.min_eq_left, Option.some.injEq, exists_eq_left', forall_eq', Int.reduceAdd, Int.reduceEq, Int.reduceLE, Int.reduceLT, Int.reduceMul, Int.reduceNeg, Int.reducePow, Int.reduceSub, Int.reduceToNat, Nat.reduceAdd, Nat.reduceEqDiff, Nat.reduceLT, Nat.reduceLeDiff, Nat.reduceMul, reduceCtorEq]
  exact hK w9 ((((((((f1.nb f2).nb f3).nb f4).nb f5).nb f6).nb f7).nb f8).nb f9)
end Go.Proofs.Ytbgfebhhejlakaa.Spec
namespace Go.Proofs.Ytbgfebhhejlakaa
open Go Go.ChangeShapes Go.WideShapes Go.ChangeAt Go.WideMaps Go.WideElems Go.RowKit Go.Proofs.Ytbgfebhhejlakaa.Eng Go.Proofs.Ytbgfebhhejlakaa.Spec
set_option maxRecDepth 100000
theorem natDivs_walk {H : Type} {enc : TypeId × Value → H} (W : World) (base : Nat) (args : Array Value) (ds : List (DataW H)) (p : List MemPlace) (hA0 : DataW.TrodAll enc Try.prog W 0 (fun _ => true) true Try.f5.params.toList args.toList ds p)
    (hval : ∀ (j : Nat) t v, Try.f5.params[j]? = some t → args[j]? = some v → Value.okWide Try.prog W .any base t v) (hz : (DataW.weightsEach Try.prog Try.f5.params.toList ds).all (· ≤ reachBytes) = true) (hL : True) :
    callK Try.prog 5 args.toList W fun v w' => v = .bool true ∧ Fr W w' nob := by
  have hA : DataW.TrodAll enc Try.prog W 0 (fun _ => true) true Try.f5.params.toList args.toList ds p := hA0
  rw [Try.params5] at hA hval
  obtain ⟨v0, v1, d0, d1, p0, p1, rfl, rfl, rfl, h0, h1⟩ := trodAll_two hA
  obtain ⟨A0, c0, l0, m0, rfl, hc0, h630, hd0, hl0, hw0⟩ := Row.open_sl Try.underlying22 Try.underlying42 cells_u32 (hval 0 22 v0 rfl rfl) h0
  have sz0 : l0.length * 4 ≤ 140737488351232 := sized_of (j := 0) hd0 rfl rfl Try.underlying22 (by kernel_rfl) hz
  obtain ⟨A1, c1, l1, m1, rfl, hc1, h631, hd1, hl1, hw1⟩ := Row.open_sl Try.underlying22 Try.underlying42 cells_u32 (hval 1 22 v1 rfl rfl) h1
  have sz1 : l1.length * 4 ≤ 140737488351232 := sized_of (j := 1) hd1 rfl rfl Try.underlying22 (by kernel_rfl) hz
  exact Spec.divs_law (vw_of hc0 hl0) (vw_of hc1 hl1) (lim_of hw0) (lim_of hw1) (by omega) (by omega) _ fun w' f => ⟨rfl, f⟩
theorem natDivs_lifted (os : Os) (started : os.Started) (H : Type) (enc : TypeId × Value → H) :
    ReturnsInHanded {} Try.checked os 5 .any (fun w args => Rows.natDivsSpec.pre enc Try.prog Try.f5 [] false w args ∧ sizedMet enc Try.prog Try.f5 (OpenSpec.ofChange Rows.natDivsSpec) false w args)
      (Rows.natDivsSpec.post enc Try.prog Try.f5 false true false false) := by
  have h := Row.lifted_of (enc := enc) (s := Rows.natDivsSpec) (C := Try.checked) (X := fun _ _ => True) (fun _ _ _ _ h => h) own started (by kernel_rfl) Try.func5
    (ChangeSpec.witness_shaped (enc := enc) (C := Try.checked) (os := os) (X := fun _ _ => True) false (World.holding Try.prog os ⟨#[], #[.slice none 0 0, .slice none 0 0], []⟩) #[.slice none 0 0, .slice none 0 0] 8 rfl (World.shaped_of_B (by kernel_rfl) (by kernel_rfl)) (by kernel_rfl) (by kernel_rfl) (by kernel_rfl) trivial)
    laidOut (tb := 4) (by kernel_rfl) Try.underlying4 rfl (of_decide_eq_true (by kernel_rfl)) (fun ds h => by rw [show Try.f5.params.size = 2 by kernel_rfl] at h; obtain ⟨a, b, rfl⟩ := Row.len2 h; exact ⟨rfl, rfl, rfl⟩)
    (fun W base args ds p hA hval hz hL => natDivs_walk (enc := enc) W base args ds p hA hval hz hL)
  simp only [and_true] at h
  exact h
theorem natDivs_holds : Rows.NatDivsSaid :=
  OpenClaim.holds_of_wide 5 Try.f5 rfl rfl rfl rfl rfl rfl rfl ⟨rfl, rfl, rfl, rfl, rfl⟩ rfl rfl rfl rfl rfl (by kernel_rfl) Try.func5 (by kernel_rfl)
    (of_decide_eq_true (by kernel_rfl)) (by unfold Func.isWrapper; first | (rw [if_pos (by decide +kernel)]; kernel_rfl) | (rw [if_neg (by decide +kernel)]; exact ⟨rfl, rfl⟩))
    (fun os started H enc _ => natDivs_lifted os started H enc)
end Go.Proofs.Ytbgfebhhejlakaa
