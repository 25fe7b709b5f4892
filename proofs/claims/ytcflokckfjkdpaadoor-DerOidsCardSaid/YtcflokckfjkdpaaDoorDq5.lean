/- The document's object identifiers: a text as bytes, walked. -/
import Derived.Test.YtcflokckfjkdpaaDoorDq4
import Derived.Test.YtcflokckfjkdpaaDoorDu1
set_option linter.unusedVariables false
set_option linter.unusedSimpArgs false
namespace Go.Proofs.YtcflokckfjkdpaaDoor.Der
open Go Go.RowKit Go.Proofs Go.Proofs.YtcflokckfjkdpaaDoor.Eng Go.Proofs.YtcflokckfjkdpaaDoor.Code
set_option maxRecDepth 100000
attribute [local irreducible] callK S.W opsW scrW scrT

theorem at_app {l pad : List Int} {i : Nat} (h : i < l.length) : at' (l ++ pad) (i : Int) = at' l (i : Int) := by
  rw [atN, atN, List.getD_eq_getElem?_getD, List.getD_eq_getElem?_getD, List.getElem?_append_left h]
set_option maxHeartbeats 4000000 in
theorem rputoid_vw {w : World} {u : List UInt8} (hm : u.length ≤ 1073741824) (K : Value → World → Prop)
    (hK : ∀ v' w', Gw .u8 w w' v' (putOidR (ints u)).1 → K (pr2 v' (putOidR (ints u)).2) w') : callK Tryd.prog 24 [.string (S u)] w K := by
  refine call_of Tryd.func24 Code.h24 (by simp [Code.c24]) ?_
  simp (disch := omega) only [wu64, wu32, wu8, fdiv_nn, EO, ↓EP, EQ, EM, ↓reduceIte, Int.reduceAdd, Int.reduceEq, Int.reduceLE, Int.reduceLT, Int.reduceMul, Int.reduceNeg, Int.reducePow, Int.reduceSub, Int.reduceToNat, Nat.reduceAdd, Nat.reduceEqDiff, Nat.reduceLT, Nat.reduceLeDiff, Nat.reduceMul, reduceCtorEq, Code.c24]
  refine rarcs_vw hm _ fun v1 w1 f1 hg => ?_
  simp only [prb]
  unfold putOidR at hK
  cases hl : arcsR (ints u) with
  | none =>
    rw [hl] at hK
    simp only [Option.isSome_none] at hK ⊢
    simp (disch := omega) only [wu64, wu32, wu8, fdiv_nn, EO, ↓EP, EQ, EM, ↓reduceIte, Int.reduceAdd, Int.reduceEq, Int.reduceLE, Int.reduceLT, Int.reduceMul, Int.reduceNeg, Int.reducePow, Int.reduceSub, Int.reduceToNat, Nat.reduceAdd, Nat.reduceEqDiff, Nat.reduceLT, Nat.reduceLeDiff, Nat.reduceMul, reduceCtorEq, Bool.not_false]
    exact hK _ w1 ((Gw.nil .u8 w).step f1)
  | some l =>
  have g1 := hg l hl
  clear hg
  rw [hl] at hK
  simp only [Option.isSome_some] at hK ⊢
  obtain ⟨hbd, hll, h2, h02⟩ := arcs_bd hl
  rw [ints_len] at hll
  obtain ⟨A, c, rfl, hc, hr⟩ := readn g1.sl rfl
  obtain ⟨ad, rfl, cell⟩ := pos_cellsK hr (by omega)
  simp (disch := omega) only [wu64, wu32, wu8, fdiv_nn, EO, ↓EP, EQ, EM, ↓reduceIte, Int.reduceAdd, Int.reduceEq, Int.reduceLE, Int.reduceLT, Int.reduceMul, Int.reduceNeg, Int.reducePow, Int.reduceSub, Int.reduceToNat, Nat.reduceAdd, Nat.reduceEqDiff, Nat.reduceLT, Nat.reduceLeDiff, Nat.reduceMul, reduceCtorEq, Bool.not_true]
  refine loop_inv (fun t ρ w' => w' = w1 ∧ ∃ i : Nat, ρ 6 = .int .i64 i ∧ i ≤ l.length ∧ t = l.length - i ∧ (l.drop i).any (fun v => decide (2147483647 < v)) = l.any (fun v => decide (2147483647 < v))) l.length ⟨rfl, 0, by simp (disch := omega) only [wu64, wu32, wu8, fdiv_nn, EO, ↓EP, EQ, EM, ↓reduceIte, Int.reduceAdd, Int.reduceEq, Int.reduceLE, Int.reduceLT, Int.reduceMul, Int.reduceNeg, Int.reducePow, Int.reduceSub, Int.reduceToNat, Nat.reduceAdd, Nat.reduceEqDiff, Nat.reduceLT, Nat.reduceLeDiff, Nat.reduceMul, reduceCtorEq], by omega, by omega, by simp⟩ ?_
  rintro t ρ w' hf ⟨rfl, i, h6, hi, rfl, hany⟩ N hN
  have r4 : ρ 4 = .slice (some ad) l.length c := by rw [hf 4 rfl]; simp (disch := omega) only [wu64, wu32, wu8, fdiv_nn, EO, ↓EP, EQ, EM, ↓reduceIte, Int.reduceAdd, Int.reduceEq, Int.reduceLE, Int.reduceLT, Int.reduceMul, Int.reduceNeg, Int.reducePow, Int.reduceSub, Int.reduceToNat, Nat.reduceAdd, Nat.reduceEqDiff, Nat.reduceLT, Nat.reduceLeDiff, Nat.reduceMul, reduceCtorEq]
  clear hf
  by_cases hil : (i : Int) < (l.length : Int)
  · have ci := cell i (by omega)
    rw [drop_at (show i < l.length by omega), List.any_cons] at hany
    by_cases hb : 2147483647 < at' l (i : Int)
    · rw [decide_eq_true hb, Bool.true_or] at hany
      rw [if_pos hany.symm] at hK
      simp (disch := omega) only [wu64, wu32, wu8, fdiv_nn, EO, ↓EP, EQ, EM, ↓reduceIte, Int.reduceAdd, Int.reduceEq, Int.reduceLE, Int.reduceLT, Int.reduceMul, Int.reduceNeg, Int.reducePow, Int.reduceSub, Int.reduceToNat, Nat.reduceAdd, Nat.reduceEqDiff, Nat.reduceLT, Nat.reduceLeDiff, Nat.reduceMul, reduceCtorEq, W_join, h6, r4, ci]
      exact hK _ w' ((Gw.nil .u8 w).step f1)
    · rw [decide_eq_false hb, Bool.false_or] at hany
      simp (disch := omega) only [wu64, wu32, wu8, fdiv_nn, EO, ↓EP, EQ, EM, ↓reduceIte, Int.reduceAdd, Int.reduceEq, Int.reduceLE, Int.reduceLT, Int.reduceMul, Int.reduceNeg, Int.reducePow, Int.reduceSub, Int.reduceToNat, Nat.reduceAdd, Nat.reduceEqDiff, Nat.reduceLT, Nat.reduceLeDiff, Nat.reduceMul, reduceCtorEq, W_join, h6, r4, ci]
      exact hN (l.length - (i + 1)) _ _ (by omega) ⟨rfl, i + 1, by simp (disch := omega) only [wu64, wu32, wu8, fdiv_nn, EO, ↓EP, EQ, EM, ↓reduceIte, Int.reduceAdd, Int.reduceEq, Int.reduceLE, Int.reduceLT, Int.reduceMul, Int.reduceNeg, Int.reducePow, Int.reduceSub, Int.reduceToNat, Nat.reduceAdd, Nat.reduceEqDiff, Nat.reduceLT, Nat.reduceLeDiff, Nat.reduceMul, reduceCtorEq, h6, Int.natCast_add], by omega, rfl, hany⟩
  have hie : i = l.length := by omega
  subst hie
  rw [List.drop_length, List.any_nil] at hany
  rw [if_neg (by rw [← hany]; simp)] at hK
  have hsm : ∀ i : Nat, i < l.length → 0 ≤ at' l (i : Int) ∧ at' l (i : Int) ≤ 2147483647 := fun i hi => by
    have h1 := hbd _ (at_mem hi)
    refine ⟨h1.1, ?_⟩
    apply Int.le_of_not_gt
    intro hgt
    have : l.any (fun v => decide (2147483647 < v)) = true := List.any_eq_true.2 ⟨_, at_mem hi, decide_eq_true hgt⟩
    rw [this] at hany
    simp at hany
  clear hany hN
  have b0 := hsm 0 (by omega)
  have b1 := hsm 1 (by omega)
  rw [show ((0 : Nat) : Int) = 0 by rfl] at b0
  rw [show ((1 : Nat) : Int) = 1 by rfl] at b1
  rcases g1.sl with ⟨hnil, _⟩ | ⟨b, pad, e, hB⟩
  · subst hnil; simp at h2
  cases e
  have c0 := hB.numN (j := 0) (by simp; omega)
  have c1 := hB.numN (j := 1) (by simp; omega)
  rw [at_app (by omega), show ((0 : Nat) : Int) = 0 by rfl] at c0
  rw [at_app (by omega), show ((1 : Nat) : Int) = 1 by rfl] at c1
  obtain ⟨z, hz⟩ : ∃ z : Nat, at' l 1 + 40 * at' l 0 = (z : Int) := ⟨(at' l 1 + 40 * at' l 0).toNat, by omega⟩
  rw [show (40 * at' l 0 + at' l 1).toNat = z by omega] at hK
  simp (disch := omega) only [wu64, wu32, wu8, fdiv_nn, EO, ↓EP, EQ, EM, ↓reduceIte, Int.reduceAdd, Int.reduceEq, Int.reduceLE, Int.reduceLT, Int.reduceMul, Int.reduceNeg, Int.reducePow, Int.reduceSub, Int.reduceToNat, Nat.reduceAdd, Nat.reduceEqDiff, Nat.reduceLT, Nat.reduceLeDiff, Nat.reduceMul, reduceCtorEq, W_join, h6, r4, c0, c1, hz, Addr.add_lit, Nat.zero_add]
  intro m1
  have hb1 := g1.up b rfl
  refine st_num (hB.fr (Fr.drewN w' m1 nob) (fun x => x)) (by simp; omega) fun w2 p2 => ?_
  have eset : (l ++ pad).set 1 (z : Int) = l.set 1 (z : Int) ++ pad := by rw [List.set_append_left _ _ (by omega)]
  rw [eset] at p2
  have f2b : Fr w' w2 (fun x => x = b) := (Fr.drewN w' m1 _).trans p2.fr (fun x _ h => h)
  have f2 : Fr w w2 nob := f1.trans f2b (fun x hx e => by
    have : x = b := e
    omega)
  have hq2 : l.set 1 (z : Int) = at' l 0 :: (z : Int) :: l.drop 2 := by
    match l, h2 with
    | a :: b :: r, _ => rfl
  have hql : (l.set 1 (z : Int)).length = l.length := by simp
  have hr2 : Rd w2 (some ⟨b, 0, none⟩) (nums .i64 (l.set 1 (z : Int))) := p2.blk.rd 0 (n := l.length) (by rw [List.drop_zero, nums_take, ← hql, List.take_left])
  have hqs : ∀ i : Nat, 1 ≤ i → i < l.length → 0 ≤ at' (l.set 1 (z : Int)) (i : Int) ∧ at' (l.set 1 (z : Int)) (i : Int) ≤ 2147483727 := fun i h1 hi => by
    by_cases h : i = 1
    · subst h
      rw [hq2, atN]
      simp
      omega
    · have := hsm i hi
      rw [atN, List.getD_eq_getElem?_getD] at this ⊢
      rw [List.getElem?_set_ne (fun e => h e.symm)]
      omega
  have hfin : sevenR z ++ (l.drop 2).flatMap (fun v => sevenR v.toNat) = sevens ((l.set 1 (z : Int)).drop 1) := by
    rw [hq2]; simp [sevens]
  rw [hfin] at hK
  generalize l.set 1 (z : Int) = q at hr2 hqs hql hK
  simp (disch := omega) only [wu64, wu32, wu8, fdiv_nn, EO, ↓EP, EQ, EM, ↓reduceIte, Int.reduceAdd, Int.reduceEq, Int.reduceLE, Int.reduceLT, Int.reduceMul, Int.reduceNeg, Int.reducePow, Int.reduceSub, Int.reduceToNat, Nat.reduceAdd, Nat.reduceEqDiff, Nat.reduceLT, Nat.reduceLeDiff, Nat.reduceMul, reduceCtorEq]
  refine loop_inv (fun t ρ3 w4 => ∃ (i : Nat) (B : Value), ρ3 8 = .int .i64 i ∧ ρ3 7 = B ∧ 1 ≤ i ∧ i ≤ l.length ∧ t = l.length - i ∧ Gw .u8 w2 w4 B (sevens ((q.drop 1).take (i - 1))) ∧ (sevens ((q.drop 1).take (i - 1))).length ≤ 11 * i) (l.length - 1) ⟨1, _, by simp (disch := omega) only [wu64, wu32, wu8, fdiv_nn, EO, ↓EP, EQ, EM, ↓reduceIte, Int.reduceAdd, Int.reduceEq, Int.reduceLE, Int.reduceLT, Int.reduceMul, Int.reduceNeg, Int.reducePow, Int.reduceSub, Int.reduceToNat, Nat.reduceAdd, Nat.reduceEqDiff, Nat.reduceLT, Nat.reduceLeDiff, Nat.reduceMul, reduceCtorEq, Int.natCast_one], by simp (disch := omega) only [wu64, wu32, wu8, fdiv_nn, EO, ↓EP, EQ, EM, ↓reduceIte, Int.reduceAdd, Int.reduceEq, Int.reduceLE, Int.reduceLT, Int.reduceMul, Int.reduceNeg, Int.reducePow, Int.reduceSub, Int.reduceToNat, Nat.reduceAdd, Nat.reduceEqDiff, Nat.reduceLT, Nat.reduceLeDiff, Nat.reduceMul, reduceCtorEq], by omega, by omega, by omega, Gw.nil .u8 w2, by simp [sevens]⟩ ?_
  rintro t ρ3 w4 hf ⟨i, B, k8, k7, hi1, hil2, rfl, G, hlen⟩ N hN
  have q4 : ρ3 4 = .slice (some ⟨b, 0, none⟩) l.length (l.length + pad.length) := by rw [hf 4 rfl]; simp (disch := omega) only [wu64, wu32, wu8, fdiv_nn, EO, ↓EP, EQ, EM, ↓reduceIte, Int.reduceAdd, Int.reduceEq, Int.reduceLE, Int.reduceLT, Int.reduceMul, Int.reduceNeg, Int.reducePow, Int.reduceSub, Int.reduceToNat, Nat.reduceAdd, Nat.reduceEqDiff, Nat.reduceLT, Nat.reduceLeDiff, Nat.reduceMul, reduceCtorEq, r4]
  clear hf
  by_cases hlt : (i : Int) < (l.length : Int)
  · have cellq : ∀ w5, Fr w2 w5 nob → w5.cell? ⟨b, i, none⟩ = some (.int .i64 (at' q (i : Int))) := fun w5 f => by
      obtain ⟨ad', e', _, hcl⟩ := (hr2.nb f).get (by rw [nums_length]; omega)
      cases e'
      have := hcl.numN (j := i) (by omega)
      rwa [Addr.add_lit, Nat.zero_add] at this
    have bq := hqs i hi1 (by omega)
    obtain ⟨y, hy⟩ : ∃ y : Nat, at' q (i : Int) = (y : Int) := ⟨(at' q (i : Int)).toNat, by omega⟩
    have hst : sevens ((q.drop 1).take (i + 1 - 1)) = sevens ((q.drop 1).take (i - 1)) ++ sevenR y := by
      rw [show i + 1 - 1 = (i - 1) + 1 by omega, take_snoc (by simp; omega), sevens_snoc, at_drop, show 1 + (i - 1) = i by omega, hy, Int.toNat_natCast]
    rw [hy] at cellq
    have ci := cellq w4 G.fr
    have em : (y : Int) % 128 = ((y % 128 : Nat) : Int) := by omega
    simp (disch := omega) only [wu64, wu32, wu8, fdiv_nn, EO, ↓EP, EQ, EM, ↓reduceIte, Int.reduceAdd, Int.reduceEq, Int.reduceLE, Int.reduceLT, Int.reduceMul, Int.reduceNeg, Int.reducePow, Int.reduceSub, Int.reduceToNat, Nat.reduceAdd, Nat.reduceEqDiff, Nat.reduceLT, Nat.reduceLeDiff, Nat.reduceMul, reduceCtorEq, k8, k7, q4, ci, em, Addr.add_lit, Nat.zero_add]
    refine bsl1 fun w5 n5 => ?_
    have ci5 := cellq w5 (G.fr.nb (n5.fr nob))
    have g5 : Gw .u8 w4 w5 (.slice (some ⟨w4.heap.size, 0, none⟩) 1 1) [((y % 128 : Nat) : Int)] := ⟨n5.sl, fun b e => by cases e; exact Nat.le_refl _, n5.fr nob⟩
    simp (disch := omega) only [wu64, wu32, wu8, fdiv_nn, EO, ↓EP, EQ, EM, ↓reduceIte, Int.reduceAdd, Int.reduceEq, Int.reduceLE, Int.reduceLT, Int.reduceMul, Int.reduceNeg, Int.reducePow, Int.reduceSub, Int.reduceToNat, Nat.reduceAdd, Nat.reduceEqDiff, Nat.reduceLT, Nat.reduceLeDiff, Nat.reduceMul, reduceCtorEq, k8, k7, q4, ci5, Addr.add_lit, Nat.zero_add]
    refine loop_inv (fun t ρ6 w6 => ∃ (x f : Nat) (C : Value) (lst : List Int), ρ6 10 = .int .i64 x ∧ ρ6 9 = C ∧ Gw .u8 w4 w6 C lst ∧ t = x ∧ x < 128 ^ f ∧ f ≤ 10 ∧ lst.length + f ≤ 11 ∧ x < 9223372036854775808 ∧ sevenHi f x ++ lst = sevenR y) (y / 128) ⟨y / 128, 10, _, _, by simp (disch := omega) only [wu64, wu32, wu8, fdiv_nn, EO, ↓EP, EQ, EM, ↓reduceIte, Int.reduceAdd, Int.reduceEq, Int.reduceLE, Int.reduceLT, Int.reduceMul, Int.reduceNeg, Int.reducePow, Int.reduceSub, Int.reduceToNat, Nat.reduceAdd, Nat.reduceEqDiff, Nat.reduceLT, Nat.reduceLeDiff, Nat.reduceMul, reduceCtorEq, Int.natCast_ediv], by simp (disch := omega) only [wu64, wu32, wu8, fdiv_nn, EO, ↓EP, EQ, EM, ↓reduceIte, Int.reduceAdd, Int.reduceEq, Int.reduceLE, Int.reduceLT, Int.reduceMul, Int.reduceNeg, Int.reducePow, Int.reduceSub, Int.reduceToNat, Nat.reduceAdd, Nat.reduceEqDiff, Nat.reduceLT, Nat.reduceLeDiff, Nat.reduceMul, reduceCtorEq], g5, rfl, by omega, by omega, by simp, by omega, by simp [sevenR]⟩ ?_
    rintro t ρ6 w6 hf6 ⟨x, f, C, lst, k10, k9, gC, ht, hx, hf10, hl11, hx63, hsv⟩ N6 hN6
    have s4 : ρ6 4 = .slice (some ⟨b, 0, none⟩) l.length (l.length + pad.length) := by rw [hf6 4 rfl]; simp (disch := omega) only [wu64, wu32, wu8, fdiv_nn, EO, ↓EP, EQ, EM, ↓reduceIte, Int.reduceAdd, Int.reduceEq, Int.reduceLE, Int.reduceLT, Int.reduceMul, Int.reduceNeg, Int.reducePow, Int.reduceSub, Int.reduceToNat, Nat.reduceAdd, Nat.reduceEqDiff, Nat.reduceLT, Nat.reduceLeDiff, Nat.reduceMul, reduceCtorEq, q4]
    have s7 : ρ6 7 = B := by rw [hf6 7 rfl]; simp (disch := omega) only [wu64, wu32, wu8, fdiv_nn, EO, ↓EP, EQ, EM, ↓reduceIte, Int.reduceAdd, Int.reduceEq, Int.reduceLE, Int.reduceLT, Int.reduceMul, Int.reduceNeg, Int.reducePow, Int.reduceSub, Int.reduceToNat, Nat.reduceAdd, Nat.reduceEqDiff, Nat.reduceLT, Nat.reduceLeDiff, Nat.reduceMul, reduceCtorEq, k7]
    have s8 : ρ6 8 = .int .i64 i := by rw [hf6 8 rfl]; simp (disch := omega) only [wu64, wu32, wu8, fdiv_nn, EO, ↓EP, EQ, EM, ↓reduceIte, Int.reduceAdd, Int.reduceEq, Int.reduceLE, Int.reduceLT, Int.reduceMul, Int.reduceNeg, Int.reducePow, Int.reduceSub, Int.reduceToNat, Nat.reduceAdd, Nat.reduceEqDiff, Nat.reduceLT, Nat.reduceLeDiff, Nat.reduceMul, reduceCtorEq, k8]
    clear hf6
    obtain ⟨CA, cc, rfl, hcc, hCr⟩ := readn gC.sl rfl
    by_cases hx0 : x = 0
    · rw [hx0] at k10 hsv
      rw [sevenHi_z, List.nil_append] at hsv
      subst hsv
      clear hN6
      have hs11 := seven_len y
      simp (disch := omega) only [wu64, wu32, wu8, fdiv_nn, EO, ↓EP, EQ, EM, ↓reduceIte, Int.reduceAdd, Int.reduceEq, Int.reduceLE, Int.reduceLT, Int.reduceMul, Int.reduceNeg, Int.reducePow, Int.reduceSub, Int.reduceToNat, Nat.reduceAdd, Nat.reduceEqDiff, Nat.reduceLT, Nat.reduceLeDiff, Nat.reduceMul, reduceCtorEq, k10, k9, s7, s8, Int.natCast_zero]
      refine app_num (G.step gC.fr).sl rfl hCr (by omega) (by omega) fun v7 w7 a7 => ?_
      have g7 := (G.step gC.fr).apd a7
      rw [← hst] at g7
      simp (disch := omega) only [wu64, wu32, wu8, fdiv_nn, EO, ↓EP, EQ, EM, ↓reduceIte, Int.reduceAdd, Int.reduceEq, Int.reduceLE, Int.reduceLT, Int.reduceMul, Int.reduceNeg, Int.reducePow, Int.reduceSub, Int.reduceToNat, Nat.reduceAdd, Nat.reduceEqDiff, Nat.reduceLT, Nat.reduceLeDiff, Nat.reduceMul, reduceCtorEq, k10, k9, s7, s8]
      exact hN (l.length - (i + 1)) _ _ (by omega) ⟨i + 1, v7, by simp (disch := omega) only [wu64, wu32, wu8, fdiv_nn, EO, ↓EP, EQ, EM, ↓reduceIte, Int.reduceAdd, Int.reduceEq, Int.reduceLE, Int.reduceLT, Int.reduceMul, Int.reduceNeg, Int.reducePow, Int.reduceSub, Int.reduceToNat, Nat.reduceAdd, Nat.reduceEqDiff, Nat.reduceLT, Nat.reduceLeDiff, Nat.reduceMul, reduceCtorEq, s8, Int.natCast_add], by simp (disch := omega) only [wu64, wu32, wu8, fdiv_nn, EO, ↓EP, EQ, EM, ↓reduceIte, Int.reduceAdd, Int.reduceEq, Int.reduceLE, Int.reduceLT, Int.reduceMul, Int.reduceNeg, Int.reducePow, Int.reduceSub, Int.reduceToNat, Nat.reduceAdd, Nat.reduceEqDiff, Nat.reduceLT, Nat.reduceLeDiff, Nat.reduceMul, reduceCtorEq], by omega, by omega, rfl, g7, by rw [hst, List.length_append]; omega⟩
    · obtain ⟨f, rfl⟩ : ∃ g, f = g + 1 := by
        cases f with
        | zero => simp at hx; omega
        | succ f => exact ⟨f, rfl⟩
      rw [Nat.pow_succ] at hx
      rw [sevenHi, if_neg hx0] at hsv
      have em2 : (x : Int) % 128 + 128 = ((x % 128 + 128 : Nat) : Int) := by omega
      simp (disch := omega) only [wu64, wu32, wu8, fdiv_nn, EO, ↓EP, EQ, EM, ↓reduceIte, Int.reduceAdd, Int.reduceEq, Int.reduceLE, Int.reduceLT, Int.reduceMul, Int.reduceNeg, Int.reducePow, Int.reduceSub, Int.reduceToNat, Nat.reduceAdd, Nat.reduceEqDiff, Nat.reduceLT, Nat.reduceLeDiff, Nat.reduceMul, reduceCtorEq, k10, k9, em2]
      refine bsl1 fun w7 n7 => ?_
      simp (disch := omega) only [wu64, wu32, wu8, fdiv_nn, EO, ↓EP, EQ, EM, ↓reduceIte, Int.reduceAdd, Int.reduceEq, Int.reduceLE, Int.reduceLT, Int.reduceMul, Int.reduceNeg, Int.reducePow, Int.reduceSub, Int.reduceToNat, Nat.reduceAdd, Nat.reduceEqDiff, Nat.reduceLT, Nat.reduceLeDiff, Nat.reduceMul, reduceCtorEq, k10, k9]
      refine app_num n7.sl rfl (hCr.nb (n7.fr nob)) (by simp; omega) (by omega) fun v8 w8 a8 => ?_
      have g8 : Gw .u8 w6 w8 v8 (((x % 128 + 128 : Nat) : Int) :: lst) :=
        (⟨n7.sl, fun b e => by cases e; exact Nat.le_refl _, n7.fr nob⟩ : Gw .u8 w6 w7 (.slice (some ⟨w6.heap.size, 0, none⟩) 1 1) [((x % 128 + 128 : Nat) : Int)]).apd a8
      simp (disch := omega) only [wu64, wu32, wu8, fdiv_nn, EO, ↓EP, EQ, EM, ↓reduceIte, Int.reduceAdd, Int.reduceEq, Int.reduceLE, Int.reduceLT, Int.reduceMul, Int.reduceNeg, Int.reducePow, Int.reduceSub, Int.reduceToNat, Nat.reduceAdd, Nat.reduceEqDiff, Nat.reduceLT, Nat.reduceLeDiff, Nat.reduceMul, reduceCtorEq, k10]
      exact hN6 (x / 128) _ _ (by omega) ⟨x / 128, f, v8, _, by simp (disch := omega) only [wu64, wu32, wu8, fdiv_nn, EO, ↓EP, EQ, EM, ↓reduceIte, Int.reduceAdd, Int.reduceEq, Int.reduceLE, Int.reduceLT, Int.reduceMul, Int.reduceNeg, Int.reducePow, Int.reduceSub, Int.reduceToNat, Nat.reduceAdd, Nat.reduceEqDiff, Nat.reduceLT, Nat.reduceLeDiff, Nat.reduceMul, reduceCtorEq, k10, Int.natCast_ediv], by simp (disch := omega) only [wu64, wu32, wu8, fdiv_nn, EO, ↓EP, EQ, EM, ↓reduceIte, Int.reduceAdd, Int.reduceEq, Int.reduceLE, Int.reduceLT, Int.reduceMul, Int.reduceNeg, Int.reducePow, Int.reduceSub, Int.reduceToNat, Nat.reduceAdd, Nat.reduceEqDiff, Nat.reduceLT, Nat.reduceLeDiff, Nat.reduceMul, reduceCtorEq], g8.from gC.fr, rfl, by omega, by omega, by simp at hl11 ⊢; omega, by omega, by rw [← hsv]; simp⟩
  · have hie : i = l.length := by omega
    subst hie
    rw [List.take_of_length_le (by simp; omega)] at G
    simp (disch := omega) only [wu64, wu32, wu8, fdiv_nn, EO, ↓EP, EQ, EM, ↓reduceIte, Int.reduceAdd, Int.reduceEq, Int.reduceLE, Int.reduceLT, Int.reduceMul, Int.reduceNeg, Int.reducePow, Int.reduceSub, Int.reduceToNat, Nat.reduceAdd, Nat.reduceEqDiff, Nat.reduceLT, Nat.reduceLeDiff, Nat.reduceMul, reduceCtorEq, k8, k7, q4]
    exact hK _ w4 (G.from f2)
end Go.Proofs.YtcflokckfjkdpaaDoor.Der
