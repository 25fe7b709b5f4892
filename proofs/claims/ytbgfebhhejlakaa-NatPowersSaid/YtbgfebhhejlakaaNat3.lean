/- Numbers by limbs: differences, walked. -/
import Derived.Test.YtbgfebhhejlakaaNat2
set_option linter.unusedVariables false
set_option linter.unusedSimpArgs false
namespace Go.Proofs.Ytbgfebhhejlakaa.Spec
open Go Go.RowKit Go.Proofs Go.Proofs.Ytbgfebhhejlakaa.Eng Go.Proofs.Ytbgfebhhejlakaa.Code Go.Proofs.Ytbgfebhhejlakaa.Big
set_option maxRecDepth 100000
attribute [local irreducible] callK S.W opsW scrW

theorem sub32_spec (x y b : Int) (hx : 0 ≤ x ∧ x < 4294967296) (hy : 0 ≤ y ∧ y < 4294967296) (hb : 0 ≤ b ∧ b ≤ 1) (w : World) (K : Value → World → Prop)
    (hK : K (.tuple #[.int .u32 ((x - y - b) % 4294967296), .int .u32 (if x < y + b then 1 else 0)]) w) : callK Try.prog 69 [.int .u32 x, .int .u32 y, .int .u32 b] w K := by
  refine call_of Try.func69 Code.h69 (by simp [Code.c69]) ?_
  have h1 : 0 ≤ bits .xor .u32 x y ∧ bits .xor .u32 x y < 4294967296 := by
    have := xor_lt (a := x.toNat) (b := y.toNat) (by omega) (by omega)
    rw [u32_xor x y (by omega) (by omega) (by omega) (by omega)]; omega
  have e : ((x - y) % 4294967296 - b) % 4294967296 = (x - y - b) % 4294967296 := by omega
  have hbo := borrow32 hx hy hb
  simp (disch := omega) only [EO, ↓EP, EQ, EM, ↓reduceIte, Int.reduceAdd, Int.reduceEq, Int.reduceLE, Int.reduceLT, Int.reduceMul, Int.reduceNeg, Int.reducePow, Int.reduceSub, Int.reduceToNat, Nat.reduceAdd, Nat.reduceEqDiff, Nat.reduceLT, Nat.reduceLeDiff, Nat.reduceMul, reduceCtorEq, Code.c69, wu32_mod, not32, fdiv_nn, Nat.min_eq_left, e, hbo]
  exact hK
theorem less_spec {w : World} {A B : Option Addr} {n m c d : Nat} {l r : List Int} (hn : l.length = n) (hm : r.length = m) (hl : Rd w A (nums .u32 l)) (hr : Rd w B (nums .u32 r)) (hL : Lim l) (hR : Lim r) (hn' : n ≤ 1099511627776) (hle : r.length ≤ l.length) (hge : val r ≤ val l) (K : Value → World → Prop)
    (hK : ∀ v w', Gw .u32 w w' v (limbs (val l - val r)) → K v w') : callK Try.prog 54 [.slice A n c, .slice B m d] w K := by
  refine call_of Try.func54 Code.h54 (by simp [Code.c54]) ?_
  subst hn
  subst hm
  simp (disch := omega) only [EO, ↓EP, EQ, EM, ↓reduceIte, Int.reduceAdd, Int.reduceEq, Int.reduceLE, Int.reduceLT, Int.reduceMul, Int.reduceNeg, Int.reducePow, Int.reduceSub, Int.reduceToNat, Nat.reduceAdd, Nat.reduceEqDiff, Nat.reduceLT, Nat.reduceLeDiff, Nat.reduceMul, reduceCtorEq, Code.c54]
  refine al_k (nums .u32 (List.replicate l.length 0)) (by rw [madeCells_list, nums_replicate]) fun w1 n1 => ?_
  simp (disch := omega) only [EO, ↓EP, EQ, EM, ↓reduceIte, Int.reduceAdd, Int.reduceEq, Int.reduceLE, Int.reduceLT, Int.reduceMul, Int.reduceNeg, Int.reducePow, Int.reduceSub, Int.reduceToNat, Nat.reduceAdd, Nat.reduceEqDiff, Nat.reduceLT, Nat.reduceLeDiff, Nat.reduceMul, reduceCtorEq]
  refine loop_inv (fun t ρ w2 => ∃ (k : Nat) (o : List Int) (br : Int), ρ 14 = .int .i64 k ∧ k ≤ l.length ∧ t = l.length - k ∧ ρ 6 = .int .u32 br ∧ 0 ≤ br ∧ br ≤ 1 ∧ Blk w2 w.heap.size (nums .u32 o) ∧ o.length = l.length ∧ Lim o ∧ val (o.take k) - br * pw k = val (l.take k) - val (r.take k) ∧ Fr w w2 nob) _
    ⟨0, _, 0, by simp (disch := omega) only [EO, ↓EP, EQ, EM, ↓reduceIte, Int.reduceAdd, Int.reduceEq, Int.reduceLE, Int.reduceLT, Int.reduceMul, Int.reduceNeg, Int.reducePow, Int.reduceSub, Int.reduceToNat, Nat.reduceAdd, Nat.reduceEqDiff, Nat.reduceLT, Nat.reduceLeDiff, Nat.reduceMul, reduceCtorEq], by omega, rfl, by simp (disch := omega) only [EO, ↓EP, EQ, EM, ↓reduceIte, Int.reduceAdd, Int.reduceEq, Int.reduceLE, Int.reduceLT, Int.reduceMul, Int.reduceNeg, Int.reducePow, Int.reduceSub, Int.reduceToNat, Nat.reduceAdd, Nat.reduceEqDiff, Nat.reduceLT, Nat.reduceLeDiff, Nat.reduceMul, reduceCtorEq], by omega, by omega, n1.blk, by simp, Lim.zeros _, by simp [val_nil], n1.fr nob⟩ ?_
  rintro t ρ w2 hf ⟨k, o, br, h14, hk, rfl, h6, hc0, hc1, hB, ho, hO, hv, f2⟩ N hN
  have q0 : ρ 0 = .slice A l.length c := by rw [hf 0 rfl]; simp (disch := omega) only [EO, ↓EP, EQ, EM, ↓reduceIte, Int.reduceAdd, Int.reduceEq, Int.reduceLE, Int.reduceLT, Int.reduceMul, Int.reduceNeg, Int.reducePow, Int.reduceSub, Int.reduceToNat, Nat.reduceAdd, Nat.reduceEqDiff, Nat.reduceLT, Nat.reduceLeDiff, Nat.reduceMul, reduceCtorEq]
  have q1 : ρ 1 = .slice B r.length d := by rw [hf 1 rfl]; simp (disch := omega) only [EO, ↓EP, EQ, EM, ↓reduceIte, Int.reduceAdd, Int.reduceEq, Int.reduceLE, Int.reduceLT, Int.reduceMul, Int.reduceNeg, Int.reducePow, Int.reduceSub, Int.reduceToNat, Nat.reduceAdd, Nat.reduceEqDiff, Nat.reduceLT, Nat.reduceLeDiff, Nat.reduceMul, reduceCtorEq]
  have q5 : ρ 5 = .slice (some ⟨w.heap.size, 0, none⟩) l.length l.length := by rw [hf 5 rfl]; simp (disch := omega) only [EO, ↓EP, EQ, EM, ↓reduceIte, Int.reduceAdd, Int.reduceEq, Int.reduceLE, Int.reduceLT, Int.reduceMul, Int.reduceNeg, Int.reducePow, Int.reduceSub, Int.reduceToNat, Nat.reduceAdd, Nat.reduceEqDiff, Nat.reduceLT, Nat.reduceLeDiff, Nat.reduceMul, reduceCtorEq]
  have q13 : ρ 13 = .int .i64 l.length := by rw [hf 13 rfl]; simp (disch := omega) only [EO, ↓EP, EQ, EM, ↓reduceIte, Int.reduceAdd, Int.reduceEq, Int.reduceLE, Int.reduceLT, Int.reduceMul, Int.reduceNeg, Int.reducePow, Int.reduceSub, Int.reduceToNat, Nat.reduceAdd, Nat.reduceEqDiff, Nat.reduceLT, Nat.reduceLeDiff, Nat.reduceMul, reduceCtorEq]
  clear hf
  by_cases hkl : (k : Int) < (l.length : Int)
  · obtain ⟨p, rfl, _, hp⟩ := (hl.nb f2).get (by rw [nums_length]; omega)
    have cp := hp.numN (j := k) (by omega)
    have bx := hL.at k
    have by' := hR.at k
    have e1 := val_take_succ' l k
    have e2 := val_take_succ' r k
    have fin : ∀ y, at' r k = y → callK Try.prog 69 [.int .u32 (at' l k), .int .u32 y, .int .u32 br] w2 (fun v w3 => v = .tuple #[.int .u32 ((at' l k - y - br) % 4294967296), .int .u32 (if at' l k < y + br then 1 else 0)] ∧ w3 = w2) := fun y e => sub32_spec _ _ _ bx (by rw [← e]; exact by') ⟨hc0, hc1⟩ _ _ ⟨rfl, rfl⟩
    obtain ⟨x, b', hx, hb', x0, x1, b0, b1, hxe⟩ : ∃ x b' : Int, (at' l k - at' r k - br) % 4294967296 = x ∧ (if at' l k < at' r k + br then 1 else 0) = b' ∧ 0 ≤ x ∧ x < 4294967296 ∧ 0 ≤ b' ∧ b' ≤ 1 ∧ x - b' * 4294967296 = at' l k - at' r k - br := by
      refine ⟨_, _, rfl, rfl, by omega, by omega, ?_, ?_, ?_⟩ <;> split <;> omega
    have last : ∀ w3, Put w2 w3 w.heap.size (nums .u32 (o.set k x)) → Blk w3 w.heap.size (nums .u32 (o.set k x)) ∧ (o.set k x).length = l.length ∧ Lim (o.set k x) ∧ val ((o.set k x).take (k + 1)) - b' * pw (k + 1) = val (l.take (k + 1)) - val (r.take (k + 1)) ∧ Fr w w3 nob := fun w3 p3 => by
      refine ⟨p3.blk, by rw [List.length_set]; exact ho, hO.set _ x0 x1, ?_, f2.own p3.fr fun x e => by omega⟩
      rw [val_take_set (by omega), e1, e2, pw_succ]
      grind
    by_cases hkr : (k : Int) < (r.length : Int)
    · obtain ⟨q, rfl, _, hq⟩ := (hr.nb f2).get (by rw [nums_length]; omega)
      have cq := hq.numN (j := k) (by omega)
      simp (disch := omega) only [EO, ↓EP, EQ, EM, ↓reduceIte, Int.reduceAdd, Int.reduceEq, Int.reduceLE, Int.reduceLT, Int.reduceMul, Int.reduceNeg, Int.reducePow, Int.reduceSub, Int.reduceToNat, Nat.reduceAdd, Nat.reduceEqDiff, Nat.reduceLT, Nat.reduceLeDiff, Nat.reduceMul, reduceCtorEq, h14, h6, q0, q1, q5, q13, W_join, cp, cq]
      refine callK_mono (fin _ rfl) ?_
      rintro v w3 ⟨rfl, rfl⟩
      rw [hx, hb']
      simp (disch := omega) only [EO, ↓EP, EQ, EM, ↓reduceIte, Int.reduceAdd, Int.reduceEq, Int.reduceLE, Int.reduceLT, Int.reduceMul, Int.reduceNeg, Int.reducePow, Int.reduceSub, Int.reduceToNat, Nat.reduceAdd, Nat.reduceEqDiff, Nat.reduceLT, Nat.reduceLeDiff, Nat.reduceMul, reduceCtorEq, h14, q5]
      refine st_num hB (by omega) fun w4 p4 => ?_
      obtain ⟨g1, g2, g3, g4, g5⟩ := last w4 p4
      simp (disch := omega) only [EO, ↓EP, EQ, EM, ↓reduceIte, Int.reduceAdd, Int.reduceEq, Int.reduceLE, Int.reduceLT, Int.reduceMul, Int.reduceNeg, Int.reducePow, Int.reduceSub, Int.reduceToNat, Nat.reduceAdd, Nat.reduceEqDiff, Nat.reduceLT, Nat.reduceLeDiff, Nat.reduceMul, reduceCtorEq, h14]
      exact hN (l.length - (k + 1)) _ _ (by omega) ⟨k + 1, _, _, by simp (disch := omega) only [EO, ↓EP, EQ, EM, ↓reduceIte, Int.reduceAdd, Int.reduceEq, Int.reduceLE, Int.reduceLT, Int.reduceMul, Int.reduceNeg, Int.reducePow, Int.reduceSub, Int.reduceToNat, Nat.reduceAdd, Nat.reduceEqDiff, Nat.reduceLT, Nat.reduceLeDiff, Nat.reduceMul, reduceCtorEq, h14, Int.natCast_add], by omega, rfl, by simp (disch := omega) only [EO, ↓EP, EQ, EM, ↓reduceIte, Int.reduceAdd, Int.reduceEq, Int.reduceLE, Int.reduceLT, Int.reduceMul, Int.reduceNeg, Int.reducePow, Int.reduceSub, Int.reduceToNat, Nat.reduceAdd, Nat.reduceEqDiff, Nat.reduceLT, Nat.reduceLeDiff, Nat.reduceMul, reduceCtorEq], b0, b1, g1, g2, g3, g4, g5⟩
    · have hz : at' r k = 0 := at_ge (by omega)
      simp (disch := omega) only [EO, ↓EP, EQ, EM, ↓reduceIte, Int.reduceAdd, Int.reduceEq, Int.reduceLE, Int.reduceLT, Int.reduceMul, Int.reduceNeg, Int.reducePow, Int.reduceSub, Int.reduceToNat, Nat.reduceAdd, Nat.reduceEqDiff, Nat.reduceLT, Nat.reduceLeDiff, Nat.reduceMul, reduceCtorEq, h14, h6, q0, q1, q5, q13, W_join, cp]
      refine callK_mono (fin 0 hz) ?_
      rintro v w3 ⟨rfl, rfl⟩
      rw [hz] at hx hb'
      rw [hx, hb']
      simp (disch := omega) only [EO, ↓EP, EQ, EM, ↓reduceIte, Int.reduceAdd, Int.reduceEq, Int.reduceLE, Int.reduceLT, Int.reduceMul, Int.reduceNeg, Int.reducePow, Int.reduceSub, Int.reduceToNat, Nat.reduceAdd, Nat.reduceEqDiff, Nat.reduceLT, Nat.reduceLeDiff, Nat.reduceMul, reduceCtorEq, h14, q5]
      refine st_num hB (by omega) fun w4 p4 => ?_
      obtain ⟨g1, g2, g3, g4, g5⟩ := last w4 p4
      simp (disch := omega) only [EO, ↓EP, EQ, EM, ↓reduceIte, Int.reduceAdd, Int.reduceEq, Int.reduceLE, Int.reduceLT, Int.reduceMul, Int.reduceNeg, Int.reducePow, Int.reduceSub, Int.reduceToNat, Nat.reduceAdd, Nat.reduceEqDiff, Nat.reduceLT, Nat.reduceLeDiff, Nat.reduceMul, reduceCtorEq, h14]
      exact hN (l.length - (k + 1)) _ _ (by omega) ⟨k + 1, _, _, by simp (disch := omega) only [EO, ↓EP, EQ, EM, ↓reduceIte, Int.reduceAdd, Int.reduceEq, Int.reduceLE, Int.reduceLT, Int.reduceMul, Int.reduceNeg, Int.reducePow, Int.reduceSub, Int.reduceToNat, Nat.reduceAdd, Nat.reduceEqDiff, Nat.reduceLT, Nat.reduceLeDiff, Nat.reduceMul, reduceCtorEq, h14, Int.natCast_add], by omega, rfl, by simp (disch := omega) only [EO, ↓EP, EQ, EM, ↓reduceIte, Int.reduceAdd, Int.reduceEq, Int.reduceLE, Int.reduceLT, Int.reduceMul, Int.reduceNeg, Int.reducePow, Int.reduceSub, Int.reduceToNat, Nat.reduceAdd, Nat.reduceEqDiff, Nat.reduceLT, Nat.reduceLeDiff, Nat.reduceMul, reduceCtorEq], b0, b1, g1, g2, g3, g4, g5⟩
  · have hk : k = l.length := by omega
    subst hk
    simp (disch := omega) only [EO, ↓EP, EQ, EM, ↓reduceIte, Int.reduceAdd, Int.reduceEq, Int.reduceLE, Int.reduceLT, Int.reduceMul, Int.reduceNeg, Int.reducePow, Int.reduceSub, Int.reduceToNat, Nat.reduceAdd, Nat.reduceEqDiff, Nat.reduceLT, Nat.reduceLeDiff, Nat.reduceMul, reduceCtorEq, h14, q5, q13]
    rw [List.take_length, val_take_all hle, ← ho, List.take_length] at hv
    have hbd := val_bd hO
    have h0 : br = 0 := by
      rcases (show br = 0 ∨ br = 1 by omega) with h | h
      · exact h
      · subst h; omega
    subst h0
    have hv2 : val o = val l - val r := by omega
    refine cut_spec ho (blk_rd hB) hO (Nat.le_refl _) (by omega) _ fun m hm he _ => ?_
    rw [hv2] at he
    simp (disch := omega) only [EO, ↓EP, EQ, EM, ↓reduceIte, Int.reduceAdd, Int.reduceEq, Int.reduceLE, Int.reduceLT, Int.reduceMul, Int.reduceNeg, Int.reducePow, Int.reduceSub, Int.reduceToNat, Nat.reduceAdd, Nat.reduceEqDiff, Nat.reduceLT, Nat.reduceLeDiff, Nat.reduceMul, reduceCtorEq]
    exact hK _ _ (own_cut hB (Nat.le_refl _) f2 ho hm he)
end Go.Proofs.Ytbgfebhhejlakaa.Spec
