/- The document's numbers, walked: digits, limbs, products. -/
import Derived.Test.YtbgfebhhejlakaaNat10
import Derived.Test.YtbgfebhhejlakaaNd2
set_option linter.unusedVariables false
set_option linter.unusedSimpArgs false
namespace Go.Proofs.Ytbgfebhhejlakaa.Spec
open Go Go.RowKit Go.Proofs Go.Proofs.Ytbgfebhhejlakaa.Eng Go.Proofs.Ytbgfebhhejlakaa.Code Go.Proofs.Ytbgfebhhejlakaa.Big
set_option maxRecDepth 100000
attribute [local irreducible] callK S.W opsW scrW

theorem plain_spec {w : World} {A : Option Addr} {n c : Nat} {l : List Int} (hn : l.length = n) (hl : Rd w A (nums .u64 l)) (hL : Dg.Lim l) (hc : n ≤ c) (h63 : n ≤ 4611686018427387904) (K : Value → World → Prop)
    (hK : ∀ m, m ≤ n → l.take m = Dg.digs (Dg.val l) → m = (Dg.digs (Dg.val l)).length → K (.slice A m c) w) : callK Try.prog 68 [.slice A n c] w K := by
  refine call_of Try.func68 Code.h68 (by simp [Code.c68]) ?_
  subst hn
  simp (disch := omega) only [EO, ↓EP, EQ, EM, ↓reduceIte, Int.reduceAdd, Int.reduceEq, Int.reduceLE, Int.reduceLT, Int.reduceMul, Int.reduceNeg, Int.reducePow, Int.reduceSub, Int.reduceToNat, Nat.reduceAdd, Nat.reduceEqDiff, Nat.reduceLT, Nat.reduceLeDiff, Nat.reduceMul, reduceCtorEq, Code.c68]
  refine loop_inv (fun t ρ w' => w' = w ∧ ρ 3 = .int .i64 t ∧ t ≤ l.length ∧ ∀ j : Nat, t ≤ j → j < l.length → at' l j = 0) l.length ⟨rfl, by simp (disch := omega) only [EO, ↓EP, EQ, EM, ↓reduceIte, Int.reduceAdd, Int.reduceEq, Int.reduceLE, Int.reduceLT, Int.reduceMul, Int.reduceNeg, Int.reducePow, Int.reduceSub, Int.reduceToNat, Nat.reduceAdd, Nat.reduceEqDiff, Nat.reduceLT, Nat.reduceLeDiff, Nat.reduceMul, reduceCtorEq], Nat.le_refl _, fun j h1 h2 => by omega⟩ ?_
  rintro t ρ w' hf ⟨rfl, h3, ht, hz⟩ N hN
  have r0 : ρ 0 = .slice A l.length c := by rw [hf 0 rfl]; simp only [↓EP, EQ, EM, ↓reduceIte, Int.reduceAdd, Int.reduceEq, Int.reduceLE, Int.reduceLT, Int.reduceMul, Int.reduceNeg, Int.reducePow, Int.reduceSub, Int.reduceToNat, Nat.reduceAdd, Nat.reduceEqDiff, Nat.reduceLT, Nat.reduceLeDiff, Nat.reduceMul, reduceCtorEq]
  clear hf
  have fin : (t = 0 ∨ at' l ((t - 1 : Nat) : Int) ≠ 0) → K (.slice A t c) w' := fun h => by
    have e := Dg.cut_can hL ht hz h
    exact hK t ht e (by rw [← e, List.length_take]; omega)
  cases t with
  | zero =>
    simp (disch := omega) only [EO, ↓EP, EQ, EM, ↓reduceIte, Int.reduceAdd, Int.reduceEq, Int.reduceLE, Int.reduceLT, Int.reduceMul, Int.reduceNeg, Int.reducePow, Int.reduceSub, Int.reduceToNat, Nat.reduceAdd, Nat.reduceEqDiff, Nat.reduceLT, Nat.reduceLeDiff, Nat.reduceMul, reduceCtorEq, h3, r0, Int.natCast_zero]
    exact fin (.inl rfl)
  | succ k =>
    obtain ⟨p, rfl, _, hp⟩ := hl.get (by rw [nums_length]; omega)
    have cp := hp.numN (j := k) (by omega)
    have e1 : ((k + 1 : Nat) : Int) - 1 = k := by omega
    by_cases he : at' l k = 0
    · simp (disch := omega) only [EO, ↓EP, EQ, EM, ↓reduceIte, Int.reduceAdd, Int.reduceEq, Int.reduceLE, Int.reduceLT, Int.reduceMul, Int.reduceNeg, Int.reducePow, Int.reduceSub, Int.reduceToNat, Nat.reduceAdd, Nat.reduceEqDiff, Nat.reduceLT, Nat.reduceLeDiff, Nat.reduceMul, reduceCtorEq, h3, r0, e1, cp, he]
      exact hN k _ _ (by omega) ⟨rfl, by simp (disch := omega) only [EO, ↓EP, EQ, EM, ↓reduceIte, Int.reduceAdd, Int.reduceEq, Int.reduceLE, Int.reduceLT, Int.reduceMul, Int.reduceNeg, Int.reducePow, Int.reduceSub, Int.reduceToNat, Nat.reduceAdd, Nat.reduceEqDiff, Nat.reduceLT, Nat.reduceLeDiff, Nat.reduceMul, reduceCtorEq], by omega, fun j h1 h2 => by
        by_cases hj : j = k
        · subst hj; exact he
        · exact hz j (by omega) h2⟩
    · have hf : (at' l k = 0) = False := eq_false he
      simp (disch := omega) only [EO, ↓EP, EQ, EM, ↓reduceIte, Int.reduceAdd, Int.reduceEq, Int.reduceLE, Int.reduceLT, Int.reduceMul, Int.reduceNeg, Int.reducePow, Int.reduceSub, Int.reduceToNat, Nat.reduceAdd, Nat.reduceEqDiff, Nat.reduceLT, Nat.reduceLeDiff, Nat.reduceMul, reduceCtorEq, h3, r0, e1, cp, hf]
      exact fin (.inr (by rw [show k + 1 - 1 = k by omega]; exact he))
theorem plain_gw {w0 w : World} {v : Value} {l : List Int} (g : Gw .u64 w0 w v l) (hL : Dg.Lim l) (h63 : l.length ≤ 4611686018427387904) (K : Value → World → Prop)
    (hK : ∀ v', Gw .u64 w0 w v' (Dg.digs (Dg.val l)) → K v' w) : callK Try.prog 68 [v] w K := by
  have gs := g.sl
  rcases gs with ⟨rfl, rfl⟩ | ⟨b, pad, rfl, hB⟩
  · refine plain_spec rfl (.inl rfl) hL (Nat.le_refl _) (by simp) _ fun m hm he _ => ?_
    obtain rfl : m = 0 := by simpa using hm
    refine hK _ ?_
    rw [← he]
    exact (Gw.nil .u64 w).from g.fr
  · refine plain_spec rfl g.sl.rdOf hL (by omega) h63 _ fun m hm he _ => hK _ ?_
    refine own_cut hB (g.up b rfl) g.fr (by simp) (by omega) ?_
    rw [List.take_append_of_le_length hm, he]
theorem plain_vw {w : World} {va : Value} {l : List Int} (ha : Vw .u64 w va l) (hL : Dg.Lim l) (h63 : l.length ≤ 4611686018427387904) (K : Value → World → Prop)
    (hK : ∀ v, Vw .u64 w v (Dg.digs (Dg.val l)) → K v w) : callK Try.prog 68 [va] w K := by
  obtain ⟨A, c, rfl, hc, hr⟩ := ha
  refine plain_spec rfl hr hL hc h63 _ fun m hm he hlen => hK _ ?_
  have := hr.take m
  rw [he] at this
  exact Vw.of hlen.symm (by omega) this
theorem and65535 {x : Int} (h0 : 0 ≤ x) (h1 : x < 4294967296) : bits .and .u32 x 65535 = x % 65536 := by
  rw [u32_and _ _ (by omega) (by omega) (by omega) (by omega)]
  have := Nat.and_two_pow_sub_one_eq_mod x.toNat 16
  rw [show (65535 : Int).toNat = 2 ^ 16 - 1 by rfl, this]
  omega
set_option maxHeartbeats 1000000 in
theorem digits_vw {w : World} {va : Value} {l : List Int} (ha : Vw .u32 w va l) (hL : Lim l) (h47 : l.length ≤ 4194304) (K : Value → World → Prop)
    (hK : ∀ v w', Gw .u64 w w' v (Dg.digs (val l)) → K v w') : callK Try.prog 53 [va] w K := by
  obtain ⟨A, c, rfl, hc, hr⟩ := ha
  refine call_of Try.func53 Code.h53 (by simp [Code.c53]) ?_
  simp (disch := omega) only [EO, ↓EP, EQ, EM, ↓reduceIte, Int.reduceAdd, Int.reduceEq, Int.reduceLE, Int.reduceLT, Int.reduceMul, Int.reduceNeg, Int.reducePow, Int.reduceSub, Int.reduceToNat, Nat.reduceAdd, Nat.reduceEqDiff, Nat.reduceLT, Nat.reduceLeDiff, Nat.reduceMul, reduceCtorEq, Code.c53]
  refine loop_inv (fun t ρ w' => ∃ (k : Nat) (v : Value), ρ 4 = .int .i64 k ∧ k ≤ l.length ∧ t = l.length - k ∧ ρ 3 = v ∧ Gw .u64 w w' v (sp (l.take k))) _ ⟨0, _, by simp (disch := omega) only [EO, ↓EP, EQ, EM, ↓reduceIte, Int.reduceAdd, Int.reduceEq, Int.reduceLE, Int.reduceLT, Int.reduceMul, Int.reduceNeg, Int.reducePow, Int.reduceSub, Int.reduceToNat, Nat.reduceAdd, Nat.reduceEqDiff, Nat.reduceLT, Nat.reduceLeDiff, Nat.reduceMul, reduceCtorEq], by omega, rfl, by simp (disch := omega) only [EO, ↓EP, EQ, EM, ↓reduceIte, Int.reduceAdd, Int.reduceEq, Int.reduceLE, Int.reduceLT, Int.reduceMul, Int.reduceNeg, Int.reducePow, Int.reduceSub, Int.reduceToNat, Nat.reduceAdd, Nat.reduceEqDiff, Nat.reduceLT, Nat.reduceLeDiff, Nat.reduceMul, reduceCtorEq], Gw.nil _ _⟩ ?_
  rintro t ρ w' hf ⟨k, v, h4, hk, rfl, h3, g⟩ N hN
  have q0 : ρ 0 = .slice A l.length c := by rw [hf 0 rfl]; simp (disch := omega) only [EO, ↓EP, EQ, EM, ↓reduceIte, Int.reduceAdd, Int.reduceEq, Int.reduceLE, Int.reduceLT, Int.reduceMul, Int.reduceNeg, Int.reducePow, Int.reduceSub, Int.reduceToNat, Nat.reduceAdd, Nat.reduceEqDiff, Nat.reduceLT, Nat.reduceLeDiff, Nat.reduceMul, reduceCtorEq]
  clear hf
  have hsl : (sp (l.take k)).length = 2 * k := by rw [sp_len, List.length_take]; omega
  by_cases hkl : (k : Int) < (l.length : Int)
  · obtain ⟨p, rfl, _, hp⟩ := (hr.nb g.fr).get (by rw [nums_length]; omega)
    have cp := hp.numN (j := k) (by omega)
    have bx := hL.at k
    have e1 := and65535 bx.1 bx.2
    simp (disch := omega) only [wu64, wu32, wu8, fdiv_nn, EO, ↓EP, EQ, EM, ↓reduceIte, Int.reduceAdd, Int.reduceEq, Int.reduceLE, Int.reduceLT, Int.reduceMul, Int.reduceNeg, Int.reducePow, Int.reduceSub, Int.reduceToNat, Nat.reduceAdd, Nat.reduceEqDiff, Nat.reduceLT, Nat.reduceLeDiff, Nat.reduceMul, reduceCtorEq, h4, h3, q0, cp, e1]
    intro m1
    refine bsl2 fun w2 n2 => ?_
    have f2 : Fr w' w2 nob := (Fr.drewN w' _ nob).nb (n2.fr nob)
    simp (disch := omega) only [wu64, wu32, wu8, fdiv_nn, EO, ↓EP, EQ, EM, ↓reduceIte, Int.reduceAdd, Int.reduceEq, Int.reduceLE, Int.reduceLT, Int.reduceMul, Int.reduceNeg, Int.reducePow, Int.reduceSub, Int.reduceToNat, Nat.reduceAdd, Nat.reduceEqDiff, Nat.reduceLT, Nat.reduceLeDiff, Nat.reduceMul, reduceCtorEq, h3]
    intro m2
    have f3 : Fr w2 (w2.drewN m2) nob := Fr.drewN w2 m2 nob
    refine app_num ((g.sl.nb f2).nb f3) rfl (n2.rdl.nb f3) (by rw [hsl]; simp; omega) (by omega) fun v4 w4 a4 => ?_
    have g4 := ((g.step f2).step f3).apd a4
    rw [← sp_snoc l (by omega)] at g4
    simp (disch := omega) only [wu64, wu32, wu8, fdiv_nn, EO, ↓EP, EQ, EM, ↓reduceIte, Int.reduceAdd, Int.reduceEq, Int.reduceLE, Int.reduceLT, Int.reduceMul, Int.reduceNeg, Int.reducePow, Int.reduceSub, Int.reduceToNat, Nat.reduceAdd, Nat.reduceEqDiff, Nat.reduceLT, Nat.reduceLeDiff, Nat.reduceMul, reduceCtorEq, h4]
    intro m3
    exact hN (l.length - (k + 1)) _ _ (by omega) ⟨k + 1, v4, by simp (disch := omega) only [EO, ↓EP, EQ, EM, ↓reduceIte, Int.reduceAdd, Int.reduceEq, Int.reduceLE, Int.reduceLT, Int.reduceMul, Int.reduceNeg, Int.reducePow, Int.reduceSub, Int.reduceToNat, Nat.reduceAdd, Nat.reduceEqDiff, Nat.reduceLT, Nat.reduceLeDiff, Nat.reduceMul, reduceCtorEq, h4, Int.natCast_add], by omega, rfl, by simp (disch := omega) only [EO, ↓EP, EQ, EM, ↓reduceIte, Int.reduceAdd, Int.reduceEq, Int.reduceLE, Int.reduceLT, Int.reduceMul, Int.reduceNeg, Int.reducePow, Int.reduceSub, Int.reduceToNat, Nat.reduceAdd, Nat.reduceEqDiff, Nat.reduceLT, Nat.reduceLeDiff, Nat.reduceMul, reduceCtorEq], g4.step (Fr.drewN w4 m3 nob)⟩
  · have hk : k = l.length := by omega
    subst hk
    rw [List.take_length] at g
    simp (disch := omega) only [EO, ↓EP, EQ, EM, ↓reduceIte, Int.reduceAdd, Int.reduceEq, Int.reduceLE, Int.reduceLT, Int.reduceMul, Int.reduceNeg, Int.reducePow, Int.reduceSub, Int.reduceToNat, Nat.reduceAdd, Nat.reduceEqDiff, Nat.reduceLT, Nat.reduceLeDiff, Nat.reduceMul, reduceCtorEq, h4, h3, q0]
    refine plain_gw g (sp_lim hL) (by rw [sp_len]; omega) _ fun v5 g5 => ?_
    rw [sp_val] at g5
    simp (disch := omega) only [EO, ↓EP, EQ, EM, ↓reduceIte, Int.reduceAdd, Int.reduceEq, Int.reduceLE, Int.reduceLT, Int.reduceMul, Int.reduceNeg, Int.reducePow, Int.reduceSub, Int.reduceToNat, Nat.reduceAdd, Nat.reduceEqDiff, Nat.reduceLT, Nat.reduceLeDiff, Nat.reduceMul, reduceCtorEq]
    exact hK v5 w' g5
set_option maxHeartbeats 1000000 in
theorem limbs_vw {w : World} {va : Value} {l : List Int} (ha : Vw .u64 w va l) (hL : Dg.Lim l) (h47 : l.length ≤ 16777216) (K : Value → World → Prop)
    (hK : ∀ v w', Gw .u32 w w' v (limbs (Dg.val l)) → K v w') : callK Try.prog 51 [va] w K := by
  refine call_of Try.func51 Code.h51 (by simp [Code.c51]) ?_
  simp (disch := omega) only [EO, ↓EP, EQ, EM, ↓reduceIte, Int.reduceAdd, Int.reduceEq, Int.reduceLE, Int.reduceLT, Int.reduceMul, Int.reduceNeg, Int.reducePow, Int.reduceSub, Int.reduceToNat, Nat.reduceAdd, Nat.reduceEqDiff, Nat.reduceLT, Nat.reduceLeDiff, Nat.reduceMul, reduceCtorEq, Code.c51]
  have hv0 := (Dg.val_bd hL).1
  refine plain_vw ha hL (by omega) _ fun vd hd => ?_
  have hDl : (Dg.digs (Dg.val l)).length ≤ l.length := (Dg.digs_len hv0).2 (Dg.val_bd hL).2
  have hDL := Dg.digs_lim (Dg.val l)
  have hm := mrg_digs hv0
  generalize Dg.digs (Dg.val l) = d at hd hDl hDL hm
  rw [← hm] at hK
  obtain ⟨A, c, rfl, hc, hr⟩ := hd
  simp (disch := omega) only [EO, ↓EP, EQ, EM, ↓reduceIte, Int.reduceAdd, Int.reduceEq, Int.reduceLE, Int.reduceLT, Int.reduceMul, Int.reduceNeg, Int.reducePow, Int.reduceSub, Int.reduceToNat, Nat.reduceAdd, Nat.reduceEqDiff, Nat.reduceLT, Nat.reduceLeDiff, Nat.reduceMul, reduceCtorEq]
  refine loop_inv (fun t ρ w' => ∃ (k : Nat) (v : Value) (o : List Int), ρ 4 = .int .i64 ((2 * k : Nat) : Int) ∧ 2 * k ≤ d.length + 1 ∧ t = d.length + 1 - 2 * k ∧ ρ 3 = v ∧ Gw .u32 w w' v o ∧ o.length = k ∧ o ++ mrg (d.drop (2 * k)) = mrg d) _ ⟨0, _, [], by simp (disch := omega) only [EO, ↓EP, EQ, EM, ↓reduceIte, Int.reduceAdd, Int.reduceEq, Int.reduceLE, Int.reduceLT, Int.reduceMul, Int.reduceNeg, Int.reducePow, Int.reduceSub, Int.reduceToNat, Nat.reduceAdd, Nat.reduceEqDiff, Nat.reduceLT, Nat.reduceLeDiff, Nat.reduceMul, reduceCtorEq, Nat.mul_zero, Int.natCast_zero], by omega, rfl, by simp (disch := omega) only [EO, ↓EP, EQ, EM, ↓reduceIte, Int.reduceAdd, Int.reduceEq, Int.reduceLE, Int.reduceLT, Int.reduceMul, Int.reduceNeg, Int.reducePow, Int.reduceSub, Int.reduceToNat, Nat.reduceAdd, Nat.reduceEqDiff, Nat.reduceLT, Nat.reduceLeDiff, Nat.reduceMul, reduceCtorEq], Gw.nil _ _, rfl, rfl⟩ ?_
  rintro t ρ w' hf ⟨k, v, o, h4, hk, rfl, h3, g, ho, hmk⟩ N hN
  have q0 : ρ 0 = .slice A d.length c := by rw [hf 0 rfl]; simp (disch := omega) only [EO, ↓EP, EQ, EM, ↓reduceIte, Int.reduceAdd, Int.reduceEq, Int.reduceLE, Int.reduceLT, Int.reduceMul, Int.reduceNeg, Int.reducePow, Int.reduceSub, Int.reduceToNat, Nat.reduceAdd, Nat.reduceEqDiff, Nat.reduceLT, Nat.reduceLeDiff, Nat.reduceMul, reduceCtorEq]
  clear hf
  by_cases hkl : ((2 * k : Nat) : Int) < (d.length : Int)
  · obtain ⟨p, rfl, _, hp⟩ := (hr.nb g.fr).get (by rw [nums_length]; omega)
    have cp := hp.numN (j := 2 * k) (by omega)
    have bx := hDL.at (2 * k : Nat)
    have e2 : ((2 * k : Nat) : Int) + 2 = ((2 * (k + 1) : Nat) : Int) := by omega
    by_cases hlast : ((2 * k : Nat) : Int) + 1 < (d.length : Int)
    · have cp1 := hp.numN (j := 2 * k + 1) (by omega)
      have by1 := hDL.at (2 * k + 1 : Nat)
      have e1 : (((2 * k : Nat) : Int) + 1).toNat = 2 * k + 1 := by omega
      have ed : d.drop (2 * k) = at' d (2 * k : Nat) :: at' d (2 * k + 1 : Nat) :: d.drop (2 * (k + 1)) := by
        rw [List.drop_eq_getElem_cons (by omega), List.drop_eq_getElem_cons (by omega), at_get (by omega), at_get (by omega)]
        rfl
      simp (disch := omega) only [wu64, wu32, wu8, fdiv_nn, EO, ↓EP, EQ, EM, ↓reduceIte, Int.reduceAdd, Int.reduceEq, Int.reduceLE, Int.reduceLT, Int.reduceMul, Int.reduceNeg, Int.reducePow, Int.reduceSub, Int.reduceToNat, Nat.reduceAdd, Nat.reduceEqDiff, Nat.reduceLT, Nat.reduceLeDiff, Nat.reduceMul, reduceCtorEq, W_join, h4, h3, q0, cp, cp1, e1]
      refine bsl1 fun w2 n2 => ?_
      simp (disch := omega) only [wu64, wu32, wu8, fdiv_nn, EO, ↓EP, EQ, EM, ↓reduceIte, Int.reduceAdd, Int.reduceEq, Int.reduceLE, Int.reduceLT, Int.reduceMul, Int.reduceNeg, Int.reducePow, Int.reduceSub, Int.reduceToNat, Nat.reduceAdd, Nat.reduceEqDiff, Nat.reduceLT, Nat.reduceLeDiff, Nat.reduceMul, reduceCtorEq, h3]
      refine app_num (g.sl.nb (n2.fr nob)) rfl n2.rdl (by simp; omega) (by omega) fun v4 w4 a4 => ?_
      have g4 := (g.step (n2.fr nob)).apd a4
      simp (disch := omega) only [wu64, wu32, wu8, fdiv_nn, EO, ↓EP, EQ, EM, ↓reduceIte, Int.reduceAdd, Int.reduceEq, Int.reduceLE, Int.reduceLT, Int.reduceMul, Int.reduceNeg, Int.reducePow, Int.reduceSub, Int.reduceToNat, Nat.reduceAdd, Nat.reduceEqDiff, Nat.reduceLT, Nat.reduceLeDiff, Nat.reduceMul, reduceCtorEq, h4, e2]
      refine hN (d.length + 1 - 2 * (k + 1)) _ _ (by omega) ⟨k + 1, v4, _, by simp (disch := omega) only [EO, ↓EP, EQ, EM, ↓reduceIte, Int.reduceAdd, Int.reduceEq, Int.reduceLE, Int.reduceLT, Int.reduceMul, Int.reduceNeg, Int.reducePow, Int.reduceSub, Int.reduceToNat, Nat.reduceAdd, Nat.reduceEqDiff, Nat.reduceLT, Nat.reduceLeDiff, Nat.reduceMul, reduceCtorEq, h4, e2], by omega, rfl, by simp (disch := omega) only [EO, ↓EP, EQ, EM, ↓reduceIte, Int.reduceAdd, Int.reduceEq, Int.reduceLE, Int.reduceLT, Int.reduceMul, Int.reduceNeg, Int.reducePow, Int.reduceSub, Int.reduceToNat, Nat.reduceAdd, Nat.reduceEqDiff, Nat.reduceLT, Nat.reduceLeDiff, Nat.reduceMul, reduceCtorEq], g4, by simp [ho], ?_⟩
      rw [← hmk, ed, mrg, List.append_assoc, List.singleton_append]
      congr 2
      omega
    · have ed : d.drop (2 * k) = [at' d (2 * k : Nat)] := by
        rw [List.drop_eq_getElem_cons (by omega), at_get (by omega), List.drop_of_length_le (by omega)]
      have ed2 : d.drop (2 * (k + 1)) = [] := List.drop_of_length_le (by omega)
      simp (disch := omega) only [wu64, wu32, wu8, fdiv_nn, EO, ↓EP, EQ, EM, ↓reduceIte, Int.reduceAdd, Int.reduceEq, Int.reduceLE, Int.reduceLT, Int.reduceMul, Int.reduceNeg, Int.reducePow, Int.reduceSub, Int.reduceToNat, Nat.reduceAdd, Nat.reduceEqDiff, Nat.reduceLT, Nat.reduceLeDiff, Nat.reduceMul, reduceCtorEq, W_join, h4, h3, q0, cp]
      refine bsl1 fun w2 n2 => ?_
      simp (disch := omega) only [wu64, wu32, wu8, fdiv_nn, EO, ↓EP, EQ, EM, ↓reduceIte, Int.reduceAdd, Int.reduceEq, Int.reduceLE, Int.reduceLT, Int.reduceMul, Int.reduceNeg, Int.reducePow, Int.reduceSub, Int.reduceToNat, Nat.reduceAdd, Nat.reduceEqDiff, Nat.reduceLT, Nat.reduceLeDiff, Nat.reduceMul, reduceCtorEq, h3]
      refine app_num (g.sl.nb (n2.fr nob)) rfl n2.rdl (by simp; omega) (by omega) fun v4 w4 a4 => ?_
      have g4 := (g.step (n2.fr nob)).apd a4
      simp (disch := omega) only [wu64, wu32, wu8, fdiv_nn, EO, ↓EP, EQ, EM, ↓reduceIte, Int.reduceAdd, Int.reduceEq, Int.reduceLE, Int.reduceLT, Int.reduceMul, Int.reduceNeg, Int.reducePow, Int.reduceSub, Int.reduceToNat, Nat.reduceAdd, Nat.reduceEqDiff, Nat.reduceLT, Nat.reduceLeDiff, Nat.reduceMul, reduceCtorEq, h4, e2]
      refine hN (d.length + 1 - 2 * (k + 1)) _ _ (by omega) ⟨k + 1, v4, _, by simp (disch := omega) only [EO, ↓EP, EQ, EM, ↓reduceIte, Int.reduceAdd, Int.reduceEq, Int.reduceLE, Int.reduceLT, Int.reduceMul, Int.reduceNeg, Int.reducePow, Int.reduceSub, Int.reduceToNat, Nat.reduceAdd, Nat.reduceEqDiff, Nat.reduceLT, Nat.reduceLeDiff, Nat.reduceMul, reduceCtorEq, h4, e2], by omega, rfl, by simp (disch := omega) only [EO, ↓EP, EQ, EM, ↓reduceIte, Int.reduceAdd, Int.reduceEq, Int.reduceLE, Int.reduceLT, Int.reduceMul, Int.reduceNeg, Int.reducePow, Int.reduceSub, Int.reduceToNat, Nat.reduceAdd, Nat.reduceEqDiff, Nat.reduceLT, Nat.reduceLeDiff, Nat.reduceMul, reduceCtorEq], g4, by simp [ho], ?_⟩
      rw [← hmk, ed, ed2]; simp [mrg]
  · have e0 : d.drop (2 * k) = [] := List.drop_of_length_le (by omega)
    rw [e0, mrg, List.append_nil] at hmk
    rw [hmk] at g
    simp (disch := omega) only [EO, ↓EP, EQ, EM, ↓reduceIte, Int.reduceAdd, Int.reduceEq, Int.reduceLE, Int.reduceLT, Int.reduceMul, Int.reduceNeg, Int.reducePow, Int.reduceSub, Int.reduceToNat, Nat.reduceAdd, Nat.reduceEqDiff, Nat.reduceLT, Nat.reduceLeDiff, Nat.reduceMul, reduceCtorEq, h4, h3, q0]
    exact hK v w' g
end Go.Proofs.Ytbgfebhhejlakaa.Spec
