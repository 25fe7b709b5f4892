/- The document's numbers, walked: products. -/
import Derived.Test.YtbgfebhhejlakaaRn1
set_option linter.unusedVariables false
set_option linter.unusedSimpArgs false
namespace Go.Proofs.Ytbgfebhhejlakaa.Spec
open Go Go.RowKit Go.Proofs Go.Proofs.Ytbgfebhhejlakaa.Eng Go.Proofs.Ytbgfebhhejlakaa.Code Go.Proofs.Ytbgfebhhejlakaa.Big
set_option maxRecDepth 100000
attribute [local irreducible] callK S.W opsW scrW

theorem dmul_bd {a b : Int} (ha : 0 ≤ a ∧ a < 65536) (hb : 0 ≤ b ∧ b < 65536) : 0 ≤ a * b ∧ a * b ≤ 4294836225 := by
  refine ⟨Int.mul_nonneg ha.1 hb.1, ?_⟩
  have := Int.mul_le_mul (show a ≤ 65535 by omega) (show b ≤ 65535 by omega) hb.1 (by omega)
  omega
theorem dval_step {o : List Int} {k : Nat} {x y : Int} (h : k < o.length) : Dg.val ((o.set k x).take (k + 1)) + y * Dg.pw (k + 1) = Dg.val (o.take k) + (x + 65536 * y) * Dg.pw k := by
  rw [Dg.val_take_set h, Dg.pw_succ]; grind
set_option maxHeartbeats 1000000 in
theorem dmul_vw {w : World} {va vb : Value} {l r : List Int} (ha : Vw .u64 w va l) (hb : Vw .u64 w vb r) (hL : Dg.Lim l) (hR : Dg.Lim r) (hn' : l.length ≤ 16777216) (hm' : r.length ≤ 16777216) (K : Value → World → Prop)
    (hK : ∀ v w', Gw .u64 w w' v (Dg.digs (Dg.val l * Dg.val r)) → K v w') : callK Try.prog 60 [va, vb] w K := by
  obtain ⟨A, c, rfl, hc, hl⟩ := ha
  obtain ⟨B, d, rfl, hd, hr⟩ := hb
  refine call_of Try.func60 Code.h60 (by simp [Code.c60]) ?_
  simp (disch := omega) only [EO, ↓EP, EQ, EM, ↓reduceIte, Int.reduceAdd, Int.reduceEq, Int.reduceLE, Int.reduceLT, Int.reduceMul, Int.reduceNeg, Int.reducePow, Int.reduceSub, Int.reduceToNat, Nat.reduceAdd, Nat.reduceEqDiff, Nat.reduceLT, Nat.reduceLeDiff, Nat.reduceMul, reduceCtorEq, Code.c60]
  have eN : ((l.length : Int) + (r.length : Int)).toNat = l.length + r.length := by omega
  refine al_k (nums .u64 (List.replicate (l.length + r.length) 0)) (by rw [madeCells_list, nums_replicate, eN]) fun w1 n1 => ?_
  simp (disch := omega) only [EO, ↓EP, EQ, EM, ↓reduceIte, Int.reduceAdd, Int.reduceEq, Int.reduceLE, Int.reduceLT, Int.reduceMul, Int.reduceNeg, Int.reducePow, Int.reduceSub, Int.reduceToNat, Nat.reduceAdd, Nat.reduceEqDiff, Nat.reduceLT, Nat.reduceLeDiff, Nat.reduceMul, reduceCtorEq, eN]
  refine loop_inv (fun t ρ w2 => ∃ (i : Nat) (o : List Int), ρ 6 = .int .i64 i ∧ i ≤ l.length ∧ t = l.length - i ∧ Blk w2 w.heap.size (nums .u64 o) ∧ o.length = l.length + r.length ∧ Dg.Lim o ∧ Dg.val (o.take (i + r.length)) = Dg.val (l.take i) * Dg.val r ∧ Fr w w2 nob) _
    ⟨0, List.replicate (l.length + r.length) 0, by simp (disch := omega) only [EO, ↓EP, EQ, EM, ↓reduceIte, Int.reduceAdd, Int.reduceEq, Int.reduceLE, Int.reduceLT, Int.reduceMul, Int.reduceNeg, Int.reducePow, Int.reduceSub, Int.reduceToNat, Nat.reduceAdd, Nat.reduceEqDiff, Nat.reduceLT, Nat.reduceLeDiff, Nat.reduceMul, reduceCtorEq], by omega, rfl, n1.blk, by simp, Dg.Lim.zeros _, by simp [Dg.val_nil, Dg.val_zeros, List.take_replicate], n1.fr nob⟩ ?_
  rintro t ρ w2 hf ⟨i, o0, h6, hi, rfl, hB0, ho0, hO0, hv0, f2⟩ N hN
  have q0 : ρ 0 = .slice A l.length c := by rw [hf 0 rfl]; simp (disch := omega) only [EO, ↓EP, EQ, EM, ↓reduceIte, Int.reduceAdd, Int.reduceEq, Int.reduceLE, Int.reduceLT, Int.reduceMul, Int.reduceNeg, Int.reducePow, Int.reduceSub, Int.reduceToNat, Nat.reduceAdd, Nat.reduceEqDiff, Nat.reduceLT, Nat.reduceLeDiff, Nat.reduceMul, reduceCtorEq]
  have q1 : ρ 1 = .slice B r.length d := by rw [hf 1 rfl]; simp (disch := omega) only [EO, ↓EP, EQ, EM, ↓reduceIte, Int.reduceAdd, Int.reduceEq, Int.reduceLE, Int.reduceLT, Int.reduceMul, Int.reduceNeg, Int.reducePow, Int.reduceSub, Int.reduceToNat, Nat.reduceAdd, Nat.reduceEqDiff, Nat.reduceLT, Nat.reduceLeDiff, Nat.reduceMul, reduceCtorEq]
  have q5 : ρ 5 = .slice (some ⟨w.heap.size, 0, none⟩) (l.length + r.length) (l.length + r.length) := by rw [hf 5 rfl]; simp (disch := omega) only [EO, ↓EP, EQ, EM, ↓reduceIte, Int.reduceAdd, Int.reduceEq, Int.reduceLE, Int.reduceLT, Int.reduceMul, Int.reduceNeg, Int.reducePow, Int.reduceSub, Int.reduceToNat, Nat.reduceAdd, Nat.reduceEqDiff, Nat.reduceLT, Nat.reduceLeDiff, Nat.reduceMul, reduceCtorEq, eN]
  clear hf
  by_cases hil : (i : Int) < (l.length : Int)
  · have bx := hL.at i
    simp (disch := omega) only [EO, ↓EP, EQ, EM, ↓reduceIte, Int.reduceAdd, Int.reduceEq, Int.reduceLE, Int.reduceLT, Int.reduceMul, Int.reduceNeg, Int.reducePow, Int.reduceSub, Int.reduceToNat, Nat.reduceAdd, Nat.reduceEqDiff, Nat.reduceLT, Nat.reduceLeDiff, Nat.reduceMul, reduceCtorEq, h6, q0, q1, q5]
    refine loop_inv (fun t ρ2 w3 => ∃ (k : Nat) (o : List Int) (cr : Int), ρ2 8 = .int .i64 k ∧ k ≤ r.length ∧ t = r.length - k ∧ ρ2 7 = .int .u64 cr ∧ 0 ≤ cr ∧ cr < 65536 ∧ Blk w3 w.heap.size (nums .u64 o) ∧ o.length = l.length + r.length ∧ Dg.Lim o ∧ Dg.val (o.take (i + k)) + cr * Dg.pw (i + k) = Dg.val (o0.take (i + k)) + at' l i * Dg.val (r.take k) * Dg.pw i ∧ (∀ j : Nat, i + k ≤ j → at' o j = at' o0 j) ∧ Fr w w3 nob) _
      ⟨0, o0, 0, by simp (disch := omega) only [EO, ↓EP, EQ, EM, ↓reduceIte, Int.reduceAdd, Int.reduceEq, Int.reduceLE, Int.reduceLT, Int.reduceMul, Int.reduceNeg, Int.reducePow, Int.reduceSub, Int.reduceToNat, Nat.reduceAdd, Nat.reduceEqDiff, Nat.reduceLT, Nat.reduceLeDiff, Nat.reduceMul, reduceCtorEq], by omega, rfl, by simp (disch := omega) only [EO, ↓EP, EQ, EM, ↓reduceIte, Int.reduceAdd, Int.reduceEq, Int.reduceLE, Int.reduceLT, Int.reduceMul, Int.reduceNeg, Int.reducePow, Int.reduceSub, Int.reduceToNat, Nat.reduceAdd, Nat.reduceEqDiff, Nat.reduceLT, Nat.reduceLeDiff, Nat.reduceMul, reduceCtorEq], by omega, by omega, hB0, ho0, hO0, by simp [Dg.val_nil], fun _ _ => rfl, f2⟩ ?_
    rintro t ρ2 w3 hf ⟨k, o, cr, h8, hk, rfl, h7, hc0, hc1, hB, ho, hO, hv, hsame, f3⟩ N2 hN2
    have p0 : ρ2 0 = .slice A l.length c := by rw [hf 0 rfl]; simp (disch := omega) only [EO, ↓EP, EQ, EM, ↓reduceIte, Int.reduceAdd, Int.reduceEq, Int.reduceLE, Int.reduceLT, Int.reduceMul, Int.reduceNeg, Int.reducePow, Int.reduceSub, Int.reduceToNat, Nat.reduceAdd, Nat.reduceEqDiff, Nat.reduceLT, Nat.reduceLeDiff, Nat.reduceMul, reduceCtorEq, q0]
    have p1 : ρ2 1 = .slice B r.length d := by rw [hf 1 rfl]; simp (disch := omega) only [EO, ↓EP, EQ, EM, ↓reduceIte, Int.reduceAdd, Int.reduceEq, Int.reduceLE, Int.reduceLT, Int.reduceMul, Int.reduceNeg, Int.reducePow, Int.reduceSub, Int.reduceToNat, Nat.reduceAdd, Nat.reduceEqDiff, Nat.reduceLT, Nat.reduceLeDiff, Nat.reduceMul, reduceCtorEq, q1]
    have p5 : ρ2 5 = .slice (some ⟨w.heap.size, 0, none⟩) (l.length + r.length) (l.length + r.length) := by rw [hf 5 rfl]; simp (disch := omega) only [EO, ↓EP, EQ, EM, ↓reduceIte, Int.reduceAdd, Int.reduceEq, Int.reduceLE, Int.reduceLT, Int.reduceMul, Int.reduceNeg, Int.reducePow, Int.reduceSub, Int.reduceToNat, Nat.reduceAdd, Nat.reduceEqDiff, Nat.reduceLT, Nat.reduceLeDiff, Nat.reduceMul, reduceCtorEq, q5]
    have p6 : ρ2 6 = .int .i64 i := by rw [hf 6 rfl]; simp (disch := omega) only [EO, ↓EP, EQ, EM, ↓reduceIte, Int.reduceAdd, Int.reduceEq, Int.reduceLE, Int.reduceLT, Int.reduceMul, Int.reduceNeg, Int.reducePow, Int.reduceSub, Int.reduceToNat, Nat.reduceAdd, Nat.reduceEqDiff, Nat.reduceLT, Nat.reduceLeDiff, Nat.reduceMul, reduceCtorEq, h6]
    clear hf
    by_cases hkr : (k : Int) < (r.length : Int)
    · obtain ⟨p, rfl, _, hp⟩ := (hl.nb f3).get (by rw [nums_length]; omega)
      have cp := hp.numN (j := i) (by omega)
      obtain ⟨q, rfl, _, hq⟩ := (hr.nb f3).get (by rw [nums_length]; omega)
      have cq := hq.numN (j := k) (by omega)
      have co := hB.numN (j := i + k) (by omega)
      have by' := hR.at k
      have bo := hO.at (i + k : Nat)
      have hm := dmul_bd bx by'
      have eik : ((i : Int) + (k : Int)).toNat = i + k := by omega
      have e1 := Dg.val_take_succ' r k
      have e2 := Dg.val_take_succ' o0 (i + k)
      have e3 := hsame (i + k) (Nat.le_refl _)
      rw [← e3] at e2
      have qT : ∃ T, T = at' o (i + k : Nat) + at' l i * at' r k + cr := ⟨_, rfl⟩
      obtain ⟨T, hT⟩ := qT
      have hT0 : 0 ≤ T ∧ T < 4294967296 := by omega
      simp (disch := omega) only [wu64, wu32, wu8, fdiv_nn, EO, ↓EP, EQ, EM, ↓reduceIte, Int.reduceAdd, Int.reduceEq, Int.reduceLE, Int.reduceLT, Int.reduceMul, Int.reduceNeg, Int.reducePow, Int.reduceSub, Int.reduceToNat, Nat.reduceAdd, Nat.reduceEqDiff, Nat.reduceLT, Nat.reduceLeDiff, Nat.reduceMul, reduceCtorEq, h8, h7, p0, p1, p5, p6, cp, cq, co, eik, ← hT]
      intro m1
      refine st_num (hB.drewN m1) (by omega) fun w4 p4 => ?_
      have e4 := dval_step (o := o) (k := i + k) (x := T % 65536) (y := T / 65536) (by omega)
      simp (disch := omega) only [wu64, wu32, wu8, fdiv_nn, EO, ↓EP, EQ, EM, ↓reduceIte, Int.reduceAdd, Int.reduceEq, Int.reduceLE, Int.reduceLT, Int.reduceMul, Int.reduceNeg, Int.reducePow, Int.reduceSub, Int.reduceToNat, Nat.reduceAdd, Nat.reduceEqDiff, Nat.reduceLT, Nat.reduceLeDiff, Nat.reduceMul, reduceCtorEq, h8]
      refine hN2 (r.length - (k + 1)) _ _ (by omega) ⟨k + 1, _, T / 65536, by simp (disch := omega) only [EO, ↓EP, EQ, EM, ↓reduceIte, Int.reduceAdd, Int.reduceEq, Int.reduceLE, Int.reduceLT, Int.reduceMul, Int.reduceNeg, Int.reducePow, Int.reduceSub, Int.reduceToNat, Nat.reduceAdd, Nat.reduceEqDiff, Nat.reduceLT, Nat.reduceLeDiff, Nat.reduceMul, reduceCtorEq, h8, Int.natCast_add], by omega, rfl, by simp (disch := omega) only [EO, ↓EP, EQ, EM, ↓reduceIte, Int.reduceAdd, Int.reduceEq, Int.reduceLE, Int.reduceLT, Int.reduceMul, Int.reduceNeg, Int.reducePow, Int.reduceSub, Int.reduceToNat, Nat.reduceAdd, Nat.reduceEqDiff, Nat.reduceLT, Nat.reduceLeDiff, Nat.reduceMul, reduceCtorEq, hT], by omega, by omega, p4.blk, by rw [List.length_set]; exact ho, hO.set _ (by omega) (by omega), ?_, ?_, (f3.nb (Fr.drewN w3 m1 nob)).own p4.fr fun x e => by omega⟩
      · rw [show i + (k + 1) = i + k + 1 by omega, e4, e1, e2, Dg.pw_add] 
        rw [Dg.pw_add] at hv
        have := Int.mul_ediv_add_emod T 65536
        grind
      · intro j hj
        rw [at_setO (by omega)]
        exact hsame j (by omega)
    · have hk : k = r.length := by omega
      subst hk
      have e1 := Dg.val_take_succ' l i
      have eik : ((i : Int) + (r.length : Int)).toNat = i + r.length := by omega
      simp (disch := omega) only [wu64, wu32, wu8, fdiv_nn, EO, ↓EP, EQ, EM, ↓reduceIte, Int.reduceAdd, Int.reduceEq, Int.reduceLE, Int.reduceLT, Int.reduceMul, Int.reduceNeg, Int.reducePow, Int.reduceSub, Int.reduceToNat, Nat.reduceAdd, Nat.reduceEqDiff, Nat.reduceLT, Nat.reduceLeDiff, Nat.reduceMul, reduceCtorEq, h8, h7, p1, p5, p6, eik]
      refine st_num hB (by omega) fun w4 p4 => ?_
      simp (disch := omega) only [wu64, wu32, wu8, fdiv_nn, EO, ↓EP, EQ, EM, ↓reduceIte, Int.reduceAdd, Int.reduceEq, Int.reduceLE, Int.reduceLT, Int.reduceMul, Int.reduceNeg, Int.reducePow, Int.reduceSub, Int.reduceToNat, Nat.reduceAdd, Nat.reduceEqDiff, Nat.reduceLT, Nat.reduceLeDiff, Nat.reduceMul, reduceCtorEq, p6]
      refine hN (l.length - (i + 1)) _ _ (by omega) ⟨i + 1, _, by simp (disch := omega) only [EO, ↓EP, EQ, EM, ↓reduceIte, Int.reduceAdd, Int.reduceEq, Int.reduceLE, Int.reduceLT, Int.reduceMul, Int.reduceNeg, Int.reducePow, Int.reduceSub, Int.reduceToNat, Nat.reduceAdd, Nat.reduceEqDiff, Nat.reduceLT, Nat.reduceLeDiff, Nat.reduceMul, reduceCtorEq, p6, Int.natCast_add], by omega, rfl, p4.blk, by rw [List.length_set]; exact ho, hO.set _ (by omega) (by omega), ?_, f3.own p4.fr fun x e => by omega⟩
      rw [show i + 1 + r.length = i + r.length + 1 by omega, Dg.val_take_set (by omega), hv, hv0, e1, List.take_length]
      grind
  · have hi : i = l.length := by omega
    subst hi
    simp (disch := omega) only [EO, ↓EP, EQ, EM, ↓reduceIte, Int.reduceAdd, Int.reduceEq, Int.reduceLE, Int.reduceLT, Int.reduceMul, Int.reduceNeg, Int.reducePow, Int.reduceSub, Int.reduceToNat, Nat.reduceAdd, Nat.reduceEqDiff, Nat.reduceLT, Nat.reduceLeDiff, Nat.reduceMul, reduceCtorEq, h6, q0, q5]
    rw [← ho0, List.take_length, List.take_length] at hv0
    have g : Gw .u64 w w2 (.slice (some ⟨w.heap.size, 0, none⟩) (l.length + r.length) (l.length + r.length)) o0 := own_cut hB0 (Nat.le_refl _) f2 ho0 (Nat.le_refl _) (by rw [← ho0, List.take_length])
    refine plain_gw g hO0 (by omega) _ fun v g5 => ?_
    rw [hv0] at g5
    simp (disch := omega) only [EO, ↓EP, EQ, EM, ↓reduceIte, Int.reduceAdd, Int.reduceEq, Int.reduceLE, Int.reduceLT, Int.reduceMul, Int.reduceNeg, Int.reducePow, Int.reduceSub, Int.reduceToNat, Nat.reduceAdd, Nat.reduceEqDiff, Nat.reduceLT, Nat.reduceLeDiff, Nat.reduceMul, reduceCtorEq]
    exact hK v w2 g5
end Go.Proofs.Ytbgfebhhejlakaa.Spec
