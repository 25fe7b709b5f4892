/- Numbers by limbs: products, walked. -/
import Derived.Test.YtbgfebhhejlakaaNat2
set_option linter.unusedVariables false
set_option linter.unusedSimpArgs false
namespace Go.Proofs.Ytbgfebhhejlakaa.Spec
open Go Go.RowKit Go.Proofs Go.Proofs.Ytbgfebhhejlakaa.Eng Go.Proofs.Ytbgfebhhejlakaa.Code Go.Proofs.Ytbgfebhhejlakaa.Big
set_option maxRecDepth 100000
attribute [local irreducible] callK S.W opsW scrW

theorem mul_bd {a b : Int} (ha : 0 ≤ a ∧ a < 4294967296) (hb : 0 ≤ b ∧ b < 4294967296) : 0 ≤ a * b ∧ a * b ≤ 18446744065119617025 := by
  refine ⟨Int.mul_nonneg ha.1 hb.1, ?_⟩
  have := Int.mul_le_mul (show a ≤ 4294967295 by omega) (show b ≤ 4294967295 by omega) hb.1 (by omega)
  omega
theorem val_step {o : List Int} {k : Nat} {x y : Int} (h : k < o.length) : val ((o.set k x).take (k + 1)) + y * pw (k + 1) = val (o.take k) + (x + 4294967296 * y) * pw k := by
  rw [val_take_set h, pw_succ]; grind
set_option maxHeartbeats 1000000 in
theorem product_spec {w : World} {A B : Option Addr} {n m c d : Nat} {l r : List Int} (hn : l.length = n) (hm : r.length = m) (hl : Rd w A (nums .u32 l)) (hr : Rd w B (nums .u32 r)) (hL : Lim l) (hR : Lim r) (hn' : n ≤ 1099511627776) (hm' : m ≤ 1099511627776) (K : Value → World → Prop)
    (hK : ∀ v w', Gw .u32 w w' v (limbs (val l * val r)) → K v w') : callK Try.prog 59 [.slice A n c, .slice B m d] w K := by
  refine call_of Try.func59 Code.h59 (by simp [Code.c59]) ?_
  subst hn
  subst hm
  simp (disch := omega) only [EO, ↓EP, EQ, EM, ↓reduceIte, Int.reduceAdd, Int.reduceEq, Int.reduceLE, Int.reduceLT, Int.reduceMul, Int.reduceNeg, Int.reducePow, Int.reduceSub, Int.reduceToNat, Nat.reduceAdd, Nat.reduceEqDiff, Nat.reduceLT, Nat.reduceLeDiff, Nat.reduceMul, reduceCtorEq, Code.c59]
  have eN : ((l.length : Int) + (r.length : Int)).toNat = l.length + r.length := by omega
  refine al_k (nums .u32 (List.replicate (l.length + r.length) 0)) (by rw [madeCells_list, nums_replicate, eN]) fun w1 n1 => ?_
  simp (disch := omega) only [EO, ↓EP, EQ, EM, ↓reduceIte, Int.reduceAdd, Int.reduceEq, Int.reduceLE, Int.reduceLT, Int.reduceMul, Int.reduceNeg, Int.reducePow, Int.reduceSub, Int.reduceToNat, Nat.reduceAdd, Nat.reduceEqDiff, Nat.reduceLT, Nat.reduceLeDiff, Nat.reduceMul, reduceCtorEq]
  refine loop_inv (fun t ρ w2 => ∃ (i : Nat) (o : List Int), ρ 18 = .int .i64 i ∧ i ≤ l.length ∧ t = l.length - i ∧ Blk w2 w.heap.size (nums .u32 o) ∧ o.length = l.length + r.length ∧ Lim o ∧ val (o.take (i + r.length)) = val (l.take i) * val r ∧ Fr w w2 nob) _
    ⟨0, _, by simp (disch := omega) only [EO, ↓EP, EQ, EM, ↓reduceIte, Int.reduceAdd, Int.reduceEq, Int.reduceLE, Int.reduceLT, Int.reduceMul, Int.reduceNeg, Int.reducePow, Int.reduceSub, Int.reduceToNat, Nat.reduceAdd, Nat.reduceEqDiff, Nat.reduceLT, Nat.reduceLeDiff, Nat.reduceMul, reduceCtorEq], by omega, rfl, n1.blk, by simp, Lim.zeros _, by simp [val_nil, val_zeros, List.take_replicate], n1.fr nob⟩ ?_
  rintro t ρ w2 hf ⟨i, o0, h18, hi, rfl, hB0, ho0, hO0, hv0, f2⟩ N hN
  have q0 : ρ 0 = .slice A l.length c := by rw [hf 0 rfl]; simp (disch := omega) only [EO, ↓EP, EQ, EM, ↓reduceIte, Int.reduceAdd, Int.reduceEq, Int.reduceLE, Int.reduceLT, Int.reduceMul, Int.reduceNeg, Int.reducePow, Int.reduceSub, Int.reduceToNat, Nat.reduceAdd, Nat.reduceEqDiff, Nat.reduceLT, Nat.reduceLeDiff, Nat.reduceMul, reduceCtorEq]
  have q1 : ρ 1 = .slice B r.length d := by rw [hf 1 rfl]; simp (disch := omega) only [EO, ↓EP, EQ, EM, ↓reduceIte, Int.reduceAdd, Int.reduceEq, Int.reduceLE, Int.reduceLT, Int.reduceMul, Int.reduceNeg, Int.reducePow, Int.reduceSub, Int.reduceToNat, Nat.reduceAdd, Nat.reduceEqDiff, Nat.reduceLT, Nat.reduceLeDiff, Nat.reduceMul, reduceCtorEq]
  have q5 : ρ 5 = .slice (some ⟨w.heap.size, 0, none⟩) (l.length + r.length) (l.length + r.length) := by rw [hf 5 rfl]; simp (disch := omega) only [EO, ↓EP, EQ, EM, ↓reduceIte, Int.reduceAdd, Int.reduceEq, Int.reduceLE, Int.reduceLT, Int.reduceMul, Int.reduceNeg, Int.reducePow, Int.reduceSub, Int.reduceToNat, Nat.reduceAdd, Nat.reduceEqDiff, Nat.reduceLT, Nat.reduceLeDiff, Nat.reduceMul, reduceCtorEq, eN]
  have q17 : ρ 17 = .int .i64 l.length := by rw [hf 17 rfl]; simp (disch := omega) only [EO, ↓EP, EQ, EM, ↓reduceIte, Int.reduceAdd, Int.reduceEq, Int.reduceLE, Int.reduceLT, Int.reduceMul, Int.reduceNeg, Int.reducePow, Int.reduceSub, Int.reduceToNat, Nat.reduceAdd, Nat.reduceEqDiff, Nat.reduceLT, Nat.reduceLeDiff, Nat.reduceMul, reduceCtorEq]
  clear hf
  by_cases hil : (i : Int) < (l.length : Int)
  · have bx := hL.at i
    simp (disch := omega) only [EO, ↓EP, EQ, EM, ↓reduceIte, Int.reduceAdd, Int.reduceEq, Int.reduceLE, Int.reduceLT, Int.reduceMul, Int.reduceNeg, Int.reducePow, Int.reduceSub, Int.reduceToNat, Nat.reduceAdd, Nat.reduceEqDiff, Nat.reduceLT, Nat.reduceLeDiff, Nat.reduceMul, reduceCtorEq, h18, q0, q1, q5, q17]
    refine loop_inv (fun t ρ2 w3 => ∃ (k : Nat) (o : List Int) (cr : Int), ρ2 23 = .int .i64 k ∧ k ≤ r.length ∧ t = r.length - k ∧ ρ2 7 = .int .u64 cr ∧ 0 ≤ cr ∧ cr < 4294967296 ∧ Blk w3 w.heap.size (nums .u32 o) ∧ o.length = l.length + r.length ∧ Lim o ∧ val (o.take (i + k)) + cr * pw (i + k) = val (o0.take (i + k)) + at' l i * val (r.take k) * pw i ∧ (∀ j : Nat, i + k ≤ j → at' o j = at' o0 j) ∧ Fr w w3 nob) _
      ⟨0, o0, 0, by simp (disch := omega) only [EO, ↓EP, EQ, EM, ↓reduceIte, Int.reduceAdd, Int.reduceEq, Int.reduceLE, Int.reduceLT, Int.reduceMul, Int.reduceNeg, Int.reducePow, Int.reduceSub, Int.reduceToNat, Nat.reduceAdd, Nat.reduceEqDiff, Nat.reduceLT, Nat.reduceLeDiff, Nat.reduceMul, reduceCtorEq], by omega, rfl, by simp (disch := omega) only [EO, ↓EP, EQ, EM, ↓reduceIte, Int.reduceAdd, Int.reduceEq, Int.reduceLE, Int.reduceLT, Int.reduceMul, Int.reduceNeg, Int.reducePow, Int.reduceSub, Int.reduceToNat, Nat.reduceAdd, Nat.reduceEqDiff, Nat.reduceLT, Nat.reduceLeDiff, Nat.reduceMul, reduceCtorEq], by omega, by omega, hB0, ho0, hO0, by simp [val_nil], fun _ _ => rfl, f2⟩ ?_
    rintro t ρ2 w3 hf ⟨k, o, cr, h23, hk, rfl, h7, hc0, hc1, hB, ho, hO, hv, hsame, f3⟩ N2 hN2
    have p0 : ρ2 0 = .slice A l.length c := by rw [hf 0 rfl]; simp (disch := omega) only [EO, ↓EP, EQ, EM, ↓reduceIte, Int.reduceAdd, Int.reduceEq, Int.reduceLE, Int.reduceLT, Int.reduceMul, Int.reduceNeg, Int.reducePow, Int.reduceSub, Int.reduceToNat, Nat.reduceAdd, Nat.reduceEqDiff, Nat.reduceLT, Nat.reduceLeDiff, Nat.reduceMul, reduceCtorEq, q0]
    have p1 : ρ2 1 = .slice B r.length d := by rw [hf 1 rfl]; simp (disch := omega) only [EO, ↓EP, EQ, EM, ↓reduceIte, Int.reduceAdd, Int.reduceEq, Int.reduceLE, Int.reduceLT, Int.reduceMul, Int.reduceNeg, Int.reducePow, Int.reduceSub, Int.reduceToNat, Nat.reduceAdd, Nat.reduceEqDiff, Nat.reduceLT, Nat.reduceLeDiff, Nat.reduceMul, reduceCtorEq, q1]
    have p5 : ρ2 5 = .slice (some ⟨w.heap.size, 0, none⟩) (l.length + r.length) (l.length + r.length) := by rw [hf 5 rfl]; simp (disch := omega) only [EO, ↓EP, EQ, EM, ↓reduceIte, Int.reduceAdd, Int.reduceEq, Int.reduceLE, Int.reduceLT, Int.reduceMul, Int.reduceNeg, Int.reducePow, Int.reduceSub, Int.reduceToNat, Nat.reduceAdd, Nat.reduceEqDiff, Nat.reduceLT, Nat.reduceLeDiff, Nat.reduceMul, reduceCtorEq, q5]
    have p6 : ρ2 6 = .int .i64 i := by rw [hf 6 rfl]; simp (disch := omega) only [EO, ↓EP, EQ, EM, ↓reduceIte, Int.reduceAdd, Int.reduceEq, Int.reduceLE, Int.reduceLT, Int.reduceMul, Int.reduceNeg, Int.reducePow, Int.reduceSub, Int.reduceToNat, Nat.reduceAdd, Nat.reduceEqDiff, Nat.reduceLT, Nat.reduceLeDiff, Nat.reduceMul, reduceCtorEq, h18]
    have p18 : ρ2 18 = .int .i64 i := by rw [hf 18 rfl]; simp (disch := omega) only [EO, ↓EP, EQ, EM, ↓reduceIte, Int.reduceAdd, Int.reduceEq, Int.reduceLE, Int.reduceLT, Int.reduceMul, Int.reduceNeg, Int.reducePow, Int.reduceSub, Int.reduceToNat, Nat.reduceAdd, Nat.reduceEqDiff, Nat.reduceLT, Nat.reduceLeDiff, Nat.reduceMul, reduceCtorEq, h18]
    have p22 : ρ2 22 = .int .i64 r.length := by rw [hf 22 rfl]; simp (disch := omega) only [EO, ↓EP, EQ, EM, ↓reduceIte, Int.reduceAdd, Int.reduceEq, Int.reduceLE, Int.reduceLT, Int.reduceMul, Int.reduceNeg, Int.reducePow, Int.reduceSub, Int.reduceToNat, Nat.reduceAdd, Nat.reduceEqDiff, Nat.reduceLT, Nat.reduceLeDiff, Nat.reduceMul, reduceCtorEq, q1]
    clear hf
    by_cases hkr : (k : Int) < (r.length : Int)
    · obtain ⟨p, rfl, _, hp⟩ := (hl.nb f3).get (by rw [nums_length]; omega)
      have cp := hp.numN (j := i) (by omega)
      obtain ⟨q, rfl, _, hq⟩ := (hr.nb f3).get (by rw [nums_length]; omega)
      have cq := hq.numN (j := k) (by omega)
      have co := hB.numN (j := i + k) (by omega)
      have by' := hR.at k
      have bo := hO.at (i + k : Nat)
      have hm := mul_bd bx by'
      have eik : ((i : Int) + (k : Int)).toNat = i + k := by omega
      have e1 := val_take_succ' r k
      have e2 := val_take_succ' o0 (i + k)
      have e3 := hsame (i + k) (Nat.le_refl _)
      rw [← e3] at e2
      simp (disch := omega) only [wu64, wu32, wu8, fdiv_nn, EO, ↓EP, EQ, EM, ↓reduceIte, Int.reduceAdd, Int.reduceEq, Int.reduceLE, Int.reduceLT, Int.reduceMul, Int.reduceNeg, Int.reducePow, Int.reduceSub, Int.reduceToNat, Nat.reduceAdd, Nat.reduceEqDiff, Nat.reduceLT, Nat.reduceLeDiff, Nat.reduceMul, reduceCtorEq, h23, h7, p0, p1, p5, p6, p22, cp, cq, co, eik]
      intro m1
      simp (disch := omega) only [wu64, wu32, wu8, fdiv_nn, EO, ↓EP, EQ, EM, ↓reduceIte, Int.reduceAdd, Int.reduceEq, Int.reduceLE, Int.reduceLT, Int.reduceMul, Int.reduceNeg, Int.reducePow, Int.reduceSub, Int.reduceToNat, Nat.reduceAdd, Nat.reduceEqDiff, Nat.reduceLT, Nat.reduceLeDiff, Nat.reduceMul, reduceCtorEq, h23, p5, p6, eik, wu32_mod]
      generalize hT : at' l i * at' r k + at' o (i + k : Nat) + cr = T at *
      refine st_num (hB.drewN m1) (by omega) fun w4 p4 => ?_
      have e4 := val_step (o := o) (k := i + k) (x := T % 4294967296) (y := T / 4294967296) (by omega)
      simp (disch := omega) only [wu64, wu32, wu8, fdiv_nn, EO, ↓EP, EQ, EM, ↓reduceIte, Int.reduceAdd, Int.reduceEq, Int.reduceLE, Int.reduceLT, Int.reduceMul, Int.reduceNeg, Int.reducePow, Int.reduceSub, Int.reduceToNat, Nat.reduceAdd, Nat.reduceEqDiff, Nat.reduceLT, Nat.reduceLeDiff, Nat.reduceMul, reduceCtorEq, h23]
      refine hN2 (r.length - (k + 1)) _ _ (by omega) ⟨k + 1, _, T / 4294967296, by simp (disch := omega) only [EO, ↓EP, EQ, EM, ↓reduceIte, Int.reduceAdd, Int.reduceEq, Int.reduceLE, Int.reduceLT, Int.reduceMul, Int.reduceNeg, Int.reducePow, Int.reduceSub, Int.reduceToNat, Nat.reduceAdd, Nat.reduceEqDiff, Nat.reduceLT, Nat.reduceLeDiff, Nat.reduceMul, reduceCtorEq, h23, Int.natCast_add], by omega, rfl, by simp (disch := omega) only [EO, ↓EP, EQ, EM, ↓reduceIte, Int.reduceAdd, Int.reduceEq, Int.reduceLE, Int.reduceLT, Int.reduceMul, Int.reduceNeg, Int.reducePow, Int.reduceSub, Int.reduceToNat, Nat.reduceAdd, Nat.reduceEqDiff, Nat.reduceLT, Nat.reduceLeDiff, Nat.reduceMul, reduceCtorEq], by omega, by omega, p4.blk, by rw [List.length_set]; exact ho, hO.set _ (by omega) (by omega), ?_, ?_, (f3.nb (Fr.drewN w3 m1 nob)).own p4.fr fun x e => by omega⟩
      · rw [show i + (k + 1) = i + k + 1 by omega, e4, e1, e2, pw_add] 
        rw [pw_add] at hv
        have := Int.mul_ediv_add_emod T 4294967296
        grind
      · intro j hj
        rw [at_setO (by omega)]
        exact hsame j (by omega)
    · have hk : k = r.length := by omega
      subst hk
      have e1 := val_take_succ' l i
      have eik : ((i : Int) + (r.length : Int)).toNat = i + r.length := by omega
      simp (disch := omega) only [wu64, wu32, wu8, fdiv_nn, EO, ↓EP, EQ, EM, ↓reduceIte, Int.reduceAdd, Int.reduceEq, Int.reduceLE, Int.reduceLT, Int.reduceMul, Int.reduceNeg, Int.reducePow, Int.reduceSub, Int.reduceToNat, Nat.reduceAdd, Nat.reduceEqDiff, Nat.reduceLT, Nat.reduceLeDiff, Nat.reduceMul, reduceCtorEq, h23, h7, p1, p5, p6, p18, p22, eik]
      refine st_num hB (by omega) fun w4 p4 => ?_
      simp (disch := omega) only [wu64, wu32, wu8, fdiv_nn, EO, ↓EP, EQ, EM, ↓reduceIte, Int.reduceAdd, Int.reduceEq, Int.reduceLE, Int.reduceLT, Int.reduceMul, Int.reduceNeg, Int.reducePow, Int.reduceSub, Int.reduceToNat, Nat.reduceAdd, Nat.reduceEqDiff, Nat.reduceLT, Nat.reduceLeDiff, Nat.reduceMul, reduceCtorEq, p18]
      refine hN (l.length - (i + 1)) _ _ (by omega) ⟨i + 1, _, by simp (disch := omega) only [EO, ↓EP, EQ, EM, ↓reduceIte, Int.reduceAdd, Int.reduceEq, Int.reduceLE, Int.reduceLT, Int.reduceMul, Int.reduceNeg, Int.reducePow, Int.reduceSub, Int.reduceToNat, Nat.reduceAdd, Nat.reduceEqDiff, Nat.reduceLT, Nat.reduceLeDiff, Nat.reduceMul, reduceCtorEq, p18, Int.natCast_add], by omega, rfl, p4.blk, by rw [List.length_set]; exact ho, hO.set _ (by omega) (by omega), ?_, f3.own p4.fr fun x e => by omega⟩
      rw [show i + 1 + r.length = i + r.length + 1 by omega, val_take_set (by omega), hv, hv0, e1, List.take_length]
      grind
  · have hi : i = l.length := by omega
    subst hi
    simp (disch := omega) only [EO, ↓EP, EQ, EM, ↓reduceIte, Int.reduceAdd, Int.reduceEq, Int.reduceLE, Int.reduceLT, Int.reduceMul, Int.reduceNeg, Int.reducePow, Int.reduceSub, Int.reduceToNat, Nat.reduceAdd, Nat.reduceEqDiff, Nat.reduceLT, Nat.reduceLeDiff, Nat.reduceMul, reduceCtorEq, h18, q5, q17]
    rw [← ho0, List.take_length, List.take_length] at hv0
    refine cut_spec ho0 (blk_rd hB0) hO0 (Nat.le_refl _) (by omega) _ fun m hm he _ => ?_
    rw [hv0] at he
    simp (disch := omega) only [EO, ↓EP, EQ, EM, ↓reduceIte, Int.reduceAdd, Int.reduceEq, Int.reduceLE, Int.reduceLT, Int.reduceMul, Int.reduceNeg, Int.reducePow, Int.reduceSub, Int.reduceToNat, Nat.reduceAdd, Nat.reduceEqDiff, Nat.reduceLT, Nat.reduceLeDiff, Nat.reduceMul, reduceCtorEq]
    exact hK _ _ (own_cut hB0 (Nat.le_refl _) f2 ho0 hm he)
end Go.Proofs.Ytbgfebhhejlakaa.Spec
