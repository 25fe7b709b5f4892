/- Numbers by limbs: sums and differences, walked. -/
import Derived.Test.YtbgfebhhejlakaaNat1
import Derived.Test.YtbgfebhhejlakaaBit
set_option linter.unusedVariables false
set_option linter.unusedSimpArgs false
namespace Go.Proofs.Ytbgfebhhejlakaa.Spec
open Go Go.RowKit Go.Proofs Go.Proofs.Ytbgfebhhejlakaa.Eng Go.Proofs.Ytbgfebhhejlakaa.Code Go.Proofs.Ytbgfebhhejlakaa.Big
set_option maxRecDepth 100000
attribute [local irreducible] callK S.W opsW scrW

/-- A block of the call's own, cut. -/
theorem own_cut {k : IntKind} {w0 w : World} {b m n : Nat} {l l' : List Int} (hB : Blk w b (nums k l)) (hb : w0.heap.size ≤ b) (f : Fr w0 w nob) (hn : l.length = n) (hm : m ≤ n) (he : l.take m = l') : Gw k w0 w (.slice (some ⟨b, 0, none⟩) m n) l' := by
  refine ⟨.inr ⟨b, l.drop m, ?_, ?_⟩, fun x e => by cases e; exact hb, f⟩
  · rw [← he, List.length_take, List.length_drop, Nat.min_eq_left (by omega)]
    congr 1; omega
  · rw [← he, List.take_append_drop]; exact hB
theorem blk_rd {k : IntKind} {w : World} {b : Nat} {l : List Int} (hB : Blk w b (nums k l)) : Rd w (some ⟨b, 0, none⟩) (nums k l) := hB.rd 0 (n := l.length) (by rw [List.drop_zero, nums_take]; simp)

theorem sum_spec {w : World} {A B : Option Addr} {n m c d : Nat} {l r : List Int} (hn : l.length = n) (hm : r.length = m) (hl : Rd w A (nums .u32 l)) (hr : Rd w B (nums .u32 r)) (hL : Lim l) (hR : Lim r) (hn' : n ≤ 1099511627776) (hm' : m ≤ 1099511627776) (K : Value → World → Prop)
    (hK : ∀ v w', Gw .u32 w w' v (limbs (val l + val r)) → K v w') : callK Try.prog 49 [.slice A n c, .slice B m d] w K := by
  refine call_of Try.func49 Code.h49 (by simp [Code.c49]) ?_
  subst hn
  subst hm
  simp (disch := omega) only [EO, ↓EP, EQ, EM, ↓reduceIte, Int.reduceAdd, Int.reduceEq, Int.reduceLE, Int.reduceLT, Int.reduceMul, Int.reduceNeg, Int.reducePow, Int.reduceSub, Int.reduceToNat, Nat.reduceAdd, Nat.reduceEqDiff, Nat.reduceLT, Nat.reduceLeDiff, Nat.reduceMul, reduceCtorEq, Code.c49, W_joinT]
  refine join_cut (fun ρ' w' => w' = w ∧ ∃ (A : Option Addr) (c : Nat) (l' : List Int) (B : Option Addr) (d : Nat) (r' : List Int), ρ' 0 = .slice A l'.length c ∧ ρ' 1 = .slice B r'.length d ∧ r'.length ≤ l'.length ∧ l'.length ≤ 1099511627776 ∧ Rd w A (nums .u32 l') ∧ Rd w B (nums .u32 r') ∧ Lim l' ∧ Lim r' ∧ val l' + val r' = val l + val r) ?_ ?_
  · intro N hN
    by_cases h : (l.length : Int) < (r.length : Int)
    · simp (disch := omega) only [EO, ↓EP, EQ, EM, ↓reduceIte, Int.reduceAdd, Int.reduceEq, Int.reduceLE, Int.reduceLT, Int.reduceMul, Int.reduceNeg, Int.reducePow, Int.reduceSub, Int.reduceToNat, Nat.reduceAdd, Nat.reduceEqDiff, Nat.reduceLT, Nat.reduceLeDiff, Nat.reduceMul, reduceCtorEq]
      exact hN _ _ ⟨rfl, B, d, r, A, c, l, by simp (disch := omega) only [EO, ↓EP, EQ, EM, ↓reduceIte, Int.reduceAdd, Int.reduceEq, Int.reduceLE, Int.reduceLT, Int.reduceMul, Int.reduceNeg, Int.reducePow, Int.reduceSub, Int.reduceToNat, Nat.reduceAdd, Nat.reduceEqDiff, Nat.reduceLT, Nat.reduceLeDiff, Nat.reduceMul, reduceCtorEq], by simp (disch := omega) only [EO, ↓EP, EQ, EM, ↓reduceIte, Int.reduceAdd, Int.reduceEq, Int.reduceLE, Int.reduceLT, Int.reduceMul, Int.reduceNeg, Int.reducePow, Int.reduceSub, Int.reduceToNat, Nat.reduceAdd, Nat.reduceEqDiff, Nat.reduceLT, Nat.reduceLeDiff, Nat.reduceMul, reduceCtorEq], by omega, by omega, hr, hl, hR, hL, by omega⟩
    · simp (disch := omega) only [EO, ↓EP, EQ, EM, ↓reduceIte, Int.reduceAdd, Int.reduceEq, Int.reduceLE, Int.reduceLT, Int.reduceMul, Int.reduceNeg, Int.reducePow, Int.reduceSub, Int.reduceToNat, Nat.reduceAdd, Nat.reduceEqDiff, Nat.reduceLT, Nat.reduceLeDiff, Nat.reduceMul, reduceCtorEq]
      exact hN _ _ ⟨rfl, A, c, l, B, d, r, by simp (disch := omega) only [EO, ↓EP, EQ, EM, ↓reduceIte, Int.reduceAdd, Int.reduceEq, Int.reduceLE, Int.reduceLT, Int.reduceMul, Int.reduceNeg, Int.reducePow, Int.reduceSub, Int.reduceToNat, Nat.reduceAdd, Nat.reduceEqDiff, Nat.reduceLT, Nat.reduceLeDiff, Nat.reduceMul, reduceCtorEq], by simp (disch := omega) only [EO, ↓EP, EQ, EM, ↓reduceIte, Int.reduceAdd, Int.reduceEq, Int.reduceLE, Int.reduceLT, Int.reduceMul, Int.reduceNeg, Int.reducePow, Int.reduceSub, Int.reduceToNat, Nat.reduceAdd, Nat.reduceEqDiff, Nat.reduceLT, Nat.reduceLeDiff, Nat.reduceMul, reduceCtorEq], by omega, by omega, hl, hr, hL, hR, rfl⟩
  · rintro ρ' w' - ⟨rfl, A, c, l', B, d, r', h0, h1, hle, h40, hl, hr, hL, hR, hv⟩
    rw [← hv] at hK
    clear hv hn' hm'
    simp (disch := omega) only [EO, ↓EP, EQ, EM, ↓reduceIte, Int.reduceAdd, Int.reduceEq, Int.reduceLE, Int.reduceLT, Int.reduceMul, Int.reduceNeg, Int.reducePow, Int.reduceSub, Int.reduceToNat, Nat.reduceAdd, Nat.reduceEqDiff, Nat.reduceLT, Nat.reduceLeDiff, Nat.reduceMul, reduceCtorEq, h0]
    refine al_k (nums .u32 (List.replicate (l'.length + 1) 0)) (by rw [madeCells_list, nums_replicate, show ((l'.length : Int) + 1).toNat = l'.length + 1 by omega]) fun w1 n1 => ?_
    simp (disch := omega) only [EO, ↓EP, EQ, EM, ↓reduceIte, Int.reduceAdd, Int.reduceEq, Int.reduceLE, Int.reduceLT, Int.reduceMul, Int.reduceNeg, Int.reducePow, Int.reduceSub, Int.reduceToNat, Nat.reduceAdd, Nat.reduceEqDiff, Nat.reduceLT, Nat.reduceLeDiff, Nat.reduceMul, reduceCtorEq, h0]
    refine loop_inv (fun t ρ w2 => ∃ (k : Nat) (o : List Int) (cr : Int), ρ 22 = .int .i64 k ∧ k ≤ l'.length ∧ t = l'.length - k ∧ ρ 6 = .int .u32 cr ∧ 0 ≤ cr ∧ cr ≤ 1 ∧ Blk w2 w'.heap.size (nums .u32 o) ∧ o.length = l'.length + 1 ∧ Lim o ∧ val (o.take k) + cr * pw k = val (l'.take k) + val (r'.take k) ∧ Fr w' w2 nob) _
      ⟨0, _, 0, by simp (disch := omega) only [EO, ↓EP, EQ, EM, ↓reduceIte, Int.reduceAdd, Int.reduceEq, Int.reduceLE, Int.reduceLT, Int.reduceMul, Int.reduceNeg, Int.reducePow, Int.reduceSub, Int.reduceToNat, Nat.reduceAdd, Nat.reduceEqDiff, Nat.reduceLT, Nat.reduceLeDiff, Nat.reduceMul, reduceCtorEq], by omega, rfl, by simp (disch := omega) only [EO, ↓EP, EQ, EM, ↓reduceIte, Int.reduceAdd, Int.reduceEq, Int.reduceLE, Int.reduceLT, Int.reduceMul, Int.reduceNeg, Int.reducePow, Int.reduceSub, Int.reduceToNat, Nat.reduceAdd, Nat.reduceEqDiff, Nat.reduceLT, Nat.reduceLeDiff, Nat.reduceMul, reduceCtorEq], by omega, by omega, n1.blk, by simp, Lim.zeros _, by simp [val_nil], n1.fr nob⟩ ?_
    rintro t ρ w2 hf ⟨k, o, cr, h22, hk, rfl, h6, hc0, hc1, hB, ho, hO, hv, f2⟩ N hN
    have q0 : ρ 0 = .slice A l'.length c := by rw [hf 0 rfl]; simp (disch := omega) only [EO, ↓EP, EQ, EM, ↓reduceIte, Int.reduceAdd, Int.reduceEq, Int.reduceLE, Int.reduceLT, Int.reduceMul, Int.reduceNeg, Int.reducePow, Int.reduceSub, Int.reduceToNat, Nat.reduceAdd, Nat.reduceEqDiff, Nat.reduceLT, Nat.reduceLeDiff, Nat.reduceMul, reduceCtorEq, h0]
    have q1 : ρ 1 = .slice B r'.length d := by rw [hf 1 rfl]; simp (disch := omega) only [EO, ↓EP, EQ, EM, ↓reduceIte, Int.reduceAdd, Int.reduceEq, Int.reduceLE, Int.reduceLT, Int.reduceMul, Int.reduceNeg, Int.reducePow, Int.reduceSub, Int.reduceToNat, Nat.reduceAdd, Nat.reduceEqDiff, Nat.reduceLT, Nat.reduceLeDiff, Nat.reduceMul, reduceCtorEq, h1]
    have q5 : ρ 5 = .slice (some ⟨w'.heap.size, 0, none⟩) (l'.length + 1) (l'.length + 1) := by
      rw [hf 5 rfl]; simp (disch := omega) only [EO, ↓EP, EQ, EM, ↓reduceIte, Int.reduceAdd, Int.reduceEq, Int.reduceLE, Int.reduceLT, Int.reduceMul, Int.reduceNeg, Int.reducePow, Int.reduceSub, Int.reduceToNat, Nat.reduceAdd, Nat.reduceEqDiff, Nat.reduceLT, Nat.reduceLeDiff, Nat.reduceMul, reduceCtorEq]; rw [show ((l'.length : Int) + 1).toNat = l'.length + 1 by omega]
    have q21 : ρ 21 = .int .i64 l'.length := by rw [hf 21 rfl]; simp (disch := omega) only [EO, ↓EP, EQ, EM, ↓reduceIte, Int.reduceAdd, Int.reduceEq, Int.reduceLE, Int.reduceLT, Int.reduceMul, Int.reduceNeg, Int.reducePow, Int.reduceSub, Int.reduceToNat, Nat.reduceAdd, Nat.reduceEqDiff, Nat.reduceLT, Nat.reduceLeDiff, Nat.reduceMul, reduceCtorEq, h0]
    clear hf
    by_cases hkl : (k : Int) < (l'.length : Int)
    · obtain ⟨p, rfl, _, hp⟩ := (hl.nb f2).get (by rw [nums_length]; omega)
      have cp := hp.numN (j := k) (by omega)
      have bx := hL.at k
      have by' := hR.at k
      have e1 := val_take_succ' l' k
      have e2 := val_take_succ' r' k
      have fin : ∀ y, at' r' k = y → callK Try.prog 67 [.int .u32 (at' l' k), .int .u32 y, .int .u32 cr] w2 (fun v w3 => v = .tuple #[.int .u32 ((at' l' k + y + cr) % 4294967296), .int .u32 ((at' l' k + y + cr) / 4294967296)] ∧ w3 = w2) := fun y e => add32_spec _ _ _ bx (by rw [← e]; exact by') (by omega) _ _ ⟨rfl, rfl⟩
      have last : ∀ w3, Put w2 w3 w'.heap.size (nums .u32 (o.set k ((at' l' k + at' r' k + cr) % 4294967296))) → Blk w3 w'.heap.size (nums .u32 (o.set k ((at' l' k + at' r' k + cr) % 4294967296))) ∧ (o.set k ((at' l' k + at' r' k + cr) % 4294967296)).length = l'.length + 1 ∧ Lim (o.set k ((at' l' k + at' r' k + cr) % 4294967296)) ∧ val ((o.set k ((at' l' k + at' r' k + cr) % 4294967296)).take (k + 1)) + (at' l' k + at' r' k + cr) / 4294967296 * pw (k + 1) = val (l'.take (k + 1)) + val (r'.take (k + 1)) ∧ Fr w' w3 nob := fun w3 p3 => by
        refine ⟨p3.blk, by rw [List.length_set]; exact ho, hO.set _ (by omega) (by omega), ?_, f2.own p3.fr fun x e => by omega⟩
        rw [val_take_set (by omega), e1, e2, pw_succ]
        have := Int.mul_ediv_add_emod (at' l' k + at' r' k + cr) 4294967296
        grind
      by_cases hkr : (k : Int) < (r'.length : Int)
      · obtain ⟨q, rfl, _, hq⟩ := (hr.nb f2).get (by rw [nums_length]; omega)
        have cq := hq.numN (j := k) (by omega)
        simp (disch := omega) only [EO, ↓EP, EQ, EM, ↓reduceIte, Int.reduceAdd, Int.reduceEq, Int.reduceLE, Int.reduceLT, Int.reduceMul, Int.reduceNeg, Int.reducePow, Int.reduceSub, Int.reduceToNat, Nat.reduceAdd, Nat.reduceEqDiff, Nat.reduceLT, Nat.reduceLeDiff, Nat.reduceMul, reduceCtorEq, h22, h6, q0, q1, q5, q21, W_join, cp, cq]
        refine callK_mono (fin _ rfl) ?_
        rintro v w3 ⟨rfl, rfl⟩
        simp (disch := omega) only [EO, ↓EP, EQ, EM, ↓reduceIte, Int.reduceAdd, Int.reduceEq, Int.reduceLE, Int.reduceLT, Int.reduceMul, Int.reduceNeg, Int.reducePow, Int.reduceSub, Int.reduceToNat, Nat.reduceAdd, Nat.reduceEqDiff, Nat.reduceLT, Nat.reduceLeDiff, Nat.reduceMul, reduceCtorEq, h22, q5]
        refine st_num hB (by omega) fun w4 p4 => ?_
        obtain ⟨g1, g2, g3, g4, g5⟩ := last w4 p4
        simp (disch := omega) only [EO, ↓EP, EQ, EM, ↓reduceIte, Int.reduceAdd, Int.reduceEq, Int.reduceLE, Int.reduceLT, Int.reduceMul, Int.reduceNeg, Int.reducePow, Int.reduceSub, Int.reduceToNat, Nat.reduceAdd, Nat.reduceEqDiff, Nat.reduceLT, Nat.reduceLeDiff, Nat.reduceMul, reduceCtorEq, h22]
        exact hN (l'.length - (k + 1)) _ _ (by omega) ⟨k + 1, _, _, by simp (disch := omega) only [EO, ↓EP, EQ, EM, ↓reduceIte, Int.reduceAdd, Int.reduceEq, Int.reduceLE, Int.reduceLT, Int.reduceMul, Int.reduceNeg, Int.reducePow, Int.reduceSub, Int.reduceToNat, Nat.reduceAdd, Nat.reduceEqDiff, Nat.reduceLT, Nat.reduceLeDiff, Nat.reduceMul, reduceCtorEq, h22, Int.natCast_add], by omega, rfl, by simp (disch := omega) only [EO, ↓EP, EQ, EM, ↓reduceIte, Int.reduceAdd, Int.reduceEq, Int.reduceLE, Int.reduceLT, Int.reduceMul, Int.reduceNeg, Int.reducePow, Int.reduceSub, Int.reduceToNat, Nat.reduceAdd, Nat.reduceEqDiff, Nat.reduceLT, Nat.reduceLeDiff, Nat.reduceMul, reduceCtorEq], by omega, by omega, g1, g2, g3, g4, g5⟩
      · have hz : at' r' k = 0 := at_ge (by omega)
        simp (disch := omega) only [EO, ↓EP, EQ, EM, ↓reduceIte, Int.reduceAdd, Int.reduceEq, Int.reduceLE, Int.reduceLT, Int.reduceMul, Int.reduceNeg, Int.reducePow, Int.reduceSub, Int.reduceToNat, Nat.reduceAdd, Nat.reduceEqDiff, Nat.reduceLT, Nat.reduceLeDiff, Nat.reduceMul, reduceCtorEq, h22, h6, q0, q1, q5, q21, W_join, cp]
        refine callK_mono (fin 0 hz) ?_
        rintro v w3 ⟨rfl, rfl⟩
        rw [← hz]
        simp (disch := omega) only [EO, ↓EP, EQ, EM, ↓reduceIte, Int.reduceAdd, Int.reduceEq, Int.reduceLE, Int.reduceLT, Int.reduceMul, Int.reduceNeg, Int.reducePow, Int.reduceSub, Int.reduceToNat, Nat.reduceAdd, Nat.reduceEqDiff, Nat.reduceLT, Nat.reduceLeDiff, Nat.reduceMul, reduceCtorEq, h22, q5]
        refine st_num hB (by omega) fun w4 p4 => ?_
        obtain ⟨g1, g2, g3, g4, g5⟩ := last w4 p4
        simp (disch := omega) only [EO, ↓EP, EQ, EM, ↓reduceIte, Int.reduceAdd, Int.reduceEq, Int.reduceLE, Int.reduceLT, Int.reduceMul, Int.reduceNeg, Int.reducePow, Int.reduceSub, Int.reduceToNat, Nat.reduceAdd, Nat.reduceEqDiff, Nat.reduceLT, Nat.reduceLeDiff, Nat.reduceMul, reduceCtorEq, h22]
        exact hN (l'.length - (k + 1)) _ _ (by omega) ⟨k + 1, _, _, by simp (disch := omega) only [EO, ↓EP, EQ, EM, ↓reduceIte, Int.reduceAdd, Int.reduceEq, Int.reduceLE, Int.reduceLT, Int.reduceMul, Int.reduceNeg, Int.reducePow, Int.reduceSub, Int.reduceToNat, Nat.reduceAdd, Nat.reduceEqDiff, Nat.reduceLT, Nat.reduceLeDiff, Nat.reduceMul, reduceCtorEq, h22, Int.natCast_add], by omega, rfl, by simp (disch := omega) only [EO, ↓EP, EQ, EM, ↓reduceIte, Int.reduceAdd, Int.reduceEq, Int.reduceLE, Int.reduceLT, Int.reduceMul, Int.reduceNeg, Int.reducePow, Int.reduceSub, Int.reduceToNat, Nat.reduceAdd, Nat.reduceEqDiff, Nat.reduceLT, Nat.reduceLeDiff, Nat.reduceMul, reduceCtorEq], by omega, by omega, g1, g2, g3, g4, g5⟩
    · have hk : k = l'.length := by omega
      subst hk
      simp (disch := omega) only [EO, ↓EP, EQ, EM, ↓reduceIte, Int.reduceAdd, Int.reduceEq, Int.reduceLE, Int.reduceLT, Int.reduceMul, Int.reduceNeg, Int.reducePow, Int.reduceSub, Int.reduceToNat, Nat.reduceAdd, Nat.reduceEqDiff, Nat.reduceLT, Nat.reduceLeDiff, Nat.reduceMul, reduceCtorEq, h22, h6, q0, q5, q21]
      refine st_num hB (by omega) fun w4 p4 => ?_
      simp (disch := omega) only [EO, ↓EP, EQ, EM, ↓reduceIte, Int.reduceAdd, Int.reduceEq, Int.reduceLE, Int.reduceLT, Int.reduceMul, Int.reduceNeg, Int.reducePow, Int.reduceSub, Int.reduceToNat, Nat.reduceAdd, Nat.reduceEqDiff, Nat.reduceLT, Nat.reduceLeDiff, Nat.reduceMul, reduceCtorEq, q5]
      have hv2 : val (o.set l'.length cr) = val l' + val r' := by
        rw [← val_take_all (l := o.set l'.length cr) (n := l'.length + 1) (by rw [List.length_set]; omega), val_take_set (by omega), hv, List.take_length, val_take_all hle]
      refine cut_spec (by rw [List.length_set]; exact ho) (blk_rd p4.blk) (hO.set _ (by omega) (by omega)) (Nat.le_refl _) (by omega) _ fun m hm he _ => ?_
      rw [hv2] at he
      simp (disch := omega) only [EO, ↓EP, EQ, EM, ↓reduceIte, Int.reduceAdd, Int.reduceEq, Int.reduceLE, Int.reduceLT, Int.reduceMul, Int.reduceNeg, Int.reducePow, Int.reduceSub, Int.reduceToNat, Nat.reduceAdd, Nat.reduceEqDiff, Nat.reduceLT, Nat.reduceLeDiff, Nat.reduceMul, reduceCtorEq]
      exact hK _ _ (own_cut p4.blk (Nat.le_refl _) (f2.own p4.fr fun x e => by omega) (by rw [List.length_set]; exact ho) hm he)
end Go.Proofs.Ytbgfebhhejlakaa.Spec
