/- Object identifiers: a text as bytes, walked. -/
import Derived.Test.YtcflokckfjkdpaaDoorDt9
set_option linter.unusedVariables false
set_option linter.unusedSimpArgs false
namespace Go.Proofs.YtcflokckfjkdpaaDoor.Der
open Go Go.RowKit Go.Proofs Go.Proofs.YtcflokckfjkdpaaDoor.Eng Go.Proofs.YtcflokckfjkdpaaDoor.Code
set_option maxRecDepth 100000
attribute [local irreducible] callK S.W opsW scrW scrT

theorem arcsGo_bd : ∀ (s l : List Int) (v : Int) (n : Nat) (r : List Int), arcsGo s l v n = some r → 0 ≤ v → v ≤ 1099511627776 → (∀ x ∈ l, 0 ≤ x ∧ x ≤ 1099511627776) →
    (∀ x ∈ r, 0 ≤ x ∧ x ≤ 1099511627776) ∧ r.length ≤ l.length + s.length
  | [], l, v, n, r, h, h1, h2, h3 => by
    simp only [arcsGo, Option.some.injEq] at h
    subst h
    exact ⟨h3, by simp⟩
  | c :: s, l, v, n, r, h, h1, h2, h3 => by
    rw [arcsGo] at h
    split at h
    · have := arcsGo_bd s _ _ _ r h (by omega) (by omega) (fun x hx => by
        rw [List.mem_append] at hx
        rcases hx with hx | hx
        · exact h3 x hx
        · simp at hx; omega)
      refine ⟨this.1, ?_⟩
      have h4 := this.2
      simp at h4 ⊢; omega
    · split at h
      · simp at h
      · rename_i h5
        have sb := satA_bd (v := 10 * v + (c - 48)) (by omega)
        have := arcsGo_bd s _ _ _ r h sb.1 sb.2 h3
        refine ⟨this.1, ?_⟩
        have h4 := this.2
        simp at h4 ⊢; omega
theorem arcs_bd {s l : List Int} (h : arcsR s = some l) : (∀ x ∈ l, 0 ≤ x ∧ x ≤ 1099511627776) ∧ l.length ≤ s.length + 1 ∧ 2 ≤ l.length ∧ at' l 0 ≤ 2 := by
  unfold arcsR at h
  cases hh : arcsGo (s ++ [46]) [] 0 0 with
  | none => rw [hh] at h; simp at h
  | some r =>
    rw [hh] at h
    simp only at h
    split at h
    · simp at h
    · rename_i h1
      simp only [Option.some.injEq] at h
      subst h
      have := arcsGo_bd _ _ _ _ _ hh (by omega) (by omega) (by simp)
      refine ⟨this.1, ?_, ?_, ?_⟩
      · have h2 := this.2
        simp at h2; omega
      · apply Nat.le_of_not_lt; exact fun h => h1 (.inl h)
      · apply Int.le_of_not_gt; exact fun h => h1 (.inr (.inl h))
theorem at_mem {l : List Int} {i : Nat} (h : i < l.length) : at' l (i : Int) ∈ l := by
  rw [atN, List.getD_eq_getElem?_getD, List.getElem?_eq_getElem h]
  exact List.getElem_mem h
def sevens (l : List Int) : List Int := l.flatMap fun v => sevenR v.toNat
theorem sevens_snoc (l : List Int) (x : Int) : sevens (l ++ [x]) = sevens l ++ sevenR x.toNat := by simp [sevens]
set_option maxHeartbeats 2000000 in
theorem putoid_vw {w : World} {u : List UInt8} (hm : u.length ≤ 1073741824) (K : Value → World → Prop)
    (hK : ∀ v' w', Gw .u8 w w' v' (putOidR (ints u)).1 → K (pr2 v' (putOidR (ints u)).2) w') : callK Tryd.prog 23 [.string (S u)] w K := by
  refine call_of Tryd.func23 Code.h23 (by simp [Code.c23]) ?_
  simp (disch := omega) only [wu64, wu32, wu8, fdiv_nn, EO, ↓EP, EQ, EM, ↓reduceIte, Int.reduceAdd, Int.reduceEq, Int.reduceLE, Int.reduceLT, Int.reduceMul, Int.reduceNeg, Int.reducePow, Int.reduceSub, Int.reduceToNat, Nat.reduceAdd, Nat.reduceEqDiff, Nat.reduceLT, Nat.reduceLeDiff, Nat.reduceMul, reduceCtorEq, Code.c23]
  refine arcs_vw hm _ fun v1 w1 g1 => ?_
  simp only [prb]
  unfold putOidR at hK
  cases hl : arcsR (ints u) with
  | none =>
    rw [hl] at hK g1
    simp only [Option.isSome_none] at hK ⊢
    simp (disch := omega) only [wu64, wu32, wu8, fdiv_nn, EO, ↓EP, EQ, EM, ↓reduceIte, Int.reduceAdd, Int.reduceEq, Int.reduceLE, Int.reduceLT, Int.reduceMul, Int.reduceNeg, Int.reducePow, Int.reduceSub, Int.reduceToNat, Nat.reduceAdd, Nat.reduceEqDiff, Nat.reduceLT, Nat.reduceLeDiff, Nat.reduceMul, reduceCtorEq, Bool.not_false]
    exact hK _ w1 ((Gw.nil .u8 w).step g1.fr)
  | some l =>
  rw [hl] at hK g1
  simp only [Option.isSome_some, Option.getD_some] at hK g1 ⊢
  obtain ⟨hbd, hll, h2, h02⟩ := arcs_bd hl
  rw [ints_len] at hll
  obtain ⟨A, c, rfl, hc, hr⟩ := readn g1.sl rfl
  obtain ⟨ad, rfl, cell⟩ := pos_cellsK hr (by omega)
  simp (disch := omega) only [wu64, wu32, wu8, fdiv_nn, EO, ↓EP, EQ, EM, ↓reduceIte, Int.reduceAdd, Int.reduceEq, Int.reduceLE, Int.reduceLT, Int.reduceMul, Int.reduceNeg, Int.reducePow, Int.reduceSub, Int.reduceToNat, Nat.reduceAdd, Nat.reduceEqDiff, Nat.reduceLT, Nat.reduceLeDiff, Nat.reduceMul, reduceCtorEq, Bool.not_true]
  refine loop_inv (fun t ρ w' => w' = w1 ∧ ∃ i : Nat, ρ 20 = .int .i64 i ∧ i ≤ l.length ∧ t = l.length - i ∧ (l.drop i).any (fun v => decide (2147483647 < v)) = l.any (fun v => decide (2147483647 < v))) l.length ⟨rfl, 0, by simp (disch := omega) only [wu64, wu32, wu8, fdiv_nn, EO, ↓EP, EQ, EM, ↓reduceIte, Int.reduceAdd, Int.reduceEq, Int.reduceLE, Int.reduceLT, Int.reduceMul, Int.reduceNeg, Int.reducePow, Int.reduceSub, Int.reduceToNat, Nat.reduceAdd, Nat.reduceEqDiff, Nat.reduceLT, Nat.reduceLeDiff, Nat.reduceMul, reduceCtorEq], by omega, by omega, by simp⟩ ?_
  rintro t ρ w' hf ⟨rfl, i, h20, hi, rfl, hany⟩ N hN
  have r4 : ρ 4 = .slice (some ad) l.length c := by rw [hf 4 rfl]; simp (disch := omega) only [wu64, wu32, wu8, fdiv_nn, EO, ↓EP, EQ, EM, ↓reduceIte, Int.reduceAdd, Int.reduceEq, Int.reduceLE, Int.reduceLT, Int.reduceMul, Int.reduceNeg, Int.reducePow, Int.reduceSub, Int.reduceToNat, Nat.reduceAdd, Nat.reduceEqDiff, Nat.reduceLT, Nat.reduceLeDiff, Nat.reduceMul, reduceCtorEq]
  have r18 : ρ 18 = .slice (some ad) l.length c := by rw [hf 18 rfl]; simp (disch := omega) only [wu64, wu32, wu8, fdiv_nn, EO, ↓EP, EQ, EM, ↓reduceIte, Int.reduceAdd, Int.reduceEq, Int.reduceLE, Int.reduceLT, Int.reduceMul, Int.reduceNeg, Int.reducePow, Int.reduceSub, Int.reduceToNat, Nat.reduceAdd, Nat.reduceEqDiff, Nat.reduceLT, Nat.reduceLeDiff, Nat.reduceMul, reduceCtorEq]
  have r19 : ρ 19 = .int .i64 l.length := by rw [hf 19 rfl]; simp (disch := omega) only [wu64, wu32, wu8, fdiv_nn, EO, ↓EP, EQ, EM, ↓reduceIte, Int.reduceAdd, Int.reduceEq, Int.reduceLE, Int.reduceLT, Int.reduceMul, Int.reduceNeg, Int.reducePow, Int.reduceSub, Int.reduceToNat, Nat.reduceAdd, Nat.reduceEqDiff, Nat.reduceLT, Nat.reduceLeDiff, Nat.reduceMul, reduceCtorEq]
  clear hf
  by_cases hil : (i : Int) < (l.length : Int)
  · have ci := cell i (by omega)
    rw [drop_at (show i < l.length by omega), List.any_cons] at hany
    by_cases hb : 2147483647 < at' l (i : Int)
    · rw [decide_eq_true hb, Bool.true_or] at hany
      rw [if_pos hany.symm] at hK
      simp (disch := omega) only [wu64, wu32, wu8, fdiv_nn, EO, ↓EP, EQ, EM, ↓reduceIte, Int.reduceAdd, Int.reduceEq, Int.reduceLE, Int.reduceLT, Int.reduceMul, Int.reduceNeg, Int.reducePow, Int.reduceSub, Int.reduceToNat, Nat.reduceAdd, Nat.reduceEqDiff, Nat.reduceLT, Nat.reduceLeDiff, Nat.reduceMul, reduceCtorEq, W_join, h20, r18, r19, ci]
      exact hK _ w' ((Gw.nil .u8 w).step g1.fr)
    · rw [decide_eq_false hb, Bool.false_or] at hany
      simp (disch := omega) only [wu64, wu32, wu8, fdiv_nn, EO, ↓EP, EQ, EM, ↓reduceIte, Int.reduceAdd, Int.reduceEq, Int.reduceLE, Int.reduceLT, Int.reduceMul, Int.reduceNeg, Int.reducePow, Int.reduceSub, Int.reduceToNat, Nat.reduceAdd, Nat.reduceEqDiff, Nat.reduceLT, Nat.reduceLeDiff, Nat.reduceMul, reduceCtorEq, W_join, h20, r18, r19, ci]
      exact hN (l.length - (i + 1)) _ _ (by omega) ⟨rfl, i + 1, by simp (disch := omega) only [wu64, wu32, wu8, fdiv_nn, EO, ↓EP, EQ, EM, ↓reduceIte, Int.reduceAdd, Int.reduceEq, Int.reduceLE, Int.reduceLT, Int.reduceMul, Int.reduceNeg, Int.reducePow, Int.reduceSub, Int.reduceToNat, Nat.reduceAdd, Nat.reduceEqDiff, Nat.reduceLT, Nat.reduceLeDiff, Nat.reduceMul, reduceCtorEq, h20, Int.natCast_add], by omega, rfl, hany⟩
  have hie : i = l.length := by omega
  subst hie
  rw [List.drop_length, List.any_nil] at hany
  rw [if_neg (by rw [← hany]; simp)] at hK
  have hsm : ∀ i : Nat, i < l.length → 0 ≤ at' l (i : Int) ∧ at' l (i : Int) ≤ 2147483647 := fun i hi => by
    have h1 := hbd _ (at_mem hi)
    refine ⟨h1.1, ?_⟩
    apply Int.le_of_not_gt
    intro hgt
    have : l.any (fun v => decide (2147483647 < v)) = true := List.any_eq_true.2 ⟨_, at_mem hi, decide_eq_true hgt⟩
    rw [this] at hany
    simp at hany
  clear hany hN
  have c0 := cell 0 (by omega)
  have c1 := cell 1 (by omega)
  have b0 := hsm 0 (by omega)
  have b1 := hsm 1 (by omega)
  rw [show ((0 : Nat) : Int) = 0 by rfl] at c0 b0
  rw [show ((1 : Nat) : Int) = 1 by rfl] at c1 b1
  have cellf : ∀ w2, Fr w' w2 nob → w2.cell? (ad.add 0) = some (.int .u64 (at' l 0)) ∧ w2.cell? (ad.add 1) = some (.int .u64 (at' l 1)) := fun w2 f => by
    obtain ⟨ad', e', _, hcl⟩ := (hr.nb f).get (by rw [nums_length]; omega)
    cases e'
    have q0 := hcl.numN (j := 0) (by omega)
    have q1 := hcl.numN (j := 1) (by omega)
    exact ⟨q0, q1⟩
  obtain ⟨z, hz⟩ : ∃ z : Nat, 40 * at' l 0 + at' l 1 = (z : Int) := ⟨(40 * at' l 0 + at' l 1).toNat, by omega⟩
  rw [hz, Int.toNat_natCast] at hK
  simp (disch := omega) only [wu64, wu32, wu8, fdiv_nn, EO, ↓EP, EQ, EM, ↓reduceIte, Int.reduceAdd, Int.reduceEq, Int.reduceLE, Int.reduceLT, Int.reduceMul, Int.reduceNeg, Int.reducePow, Int.reduceSub, Int.reduceToNat, Nat.reduceAdd, Nat.reduceEqDiff, Nat.reduceLT, Nat.reduceLeDiff, Nat.reduceMul, reduceCtorEq, W_join, h20, r4, r18, r19, c0, c1, hz]
  intro m1
  refine seven_vw (by omega) _ fun v2 w2 g2 => ?_
  have f2 := (Fr.drewN w' (1 + m1) nob).nb g2.fr
  obtain ⟨d0, d1⟩ := cellf w2 f2
  have ezz : sevenR z ++ (l.drop 2).flatMap (fun v => sevenR v.toNat) = sevenR z ++ sevens (l.drop 2) := rfl
  rw [ezz] at hK
  have e2 : (2 : Int).toNat = 2 := rfl
  simp (disch := omega) only [wu64, wu32, wu8, fdiv_nn, EO, ↓EP, EQ, EM, ↓reduceIte, Int.reduceAdd, Int.reduceEq, Int.reduceLE, Int.reduceLT, Int.reduceMul, Int.reduceNeg, Int.reducePow, Int.reduceSub, Int.reduceToNat, Nat.reduceAdd, Nat.reduceEqDiff, Nat.reduceLT, Nat.reduceLeDiff, Nat.reduceMul, reduceCtorEq, W_join, h20, r4, r18, r19, d0, d1, hz, e2]
  intro m2
  have hR2 : Rd w' (subA (some ad) c 2 1) (nums .u64 (l.drop 2)) := hr.subA c 2 hc
  generalize subA (some ad) c 2 1 = A2 at hR2 ⊢
  have hd2 : (l.drop 2).length = l.length - 2 := by simp
  have hs2 : ∀ i : Nat, i < (l.drop 2).length → 0 ≤ at' (l.drop 2) (i : Int) ∧ at' (l.drop 2) (i : Int) ≤ 2147483647 := fun i hi => by
    rw [at_drop]; exact hsm (2 + i) (by omega)
  generalize hq : l.drop 2 = q at hR2 hd2 hs2 hK
  have G2 : Gw .u8 w' (w2.drewN m2) v2 (sevenR z) := (g2.step (Fr.drewN w2 m2 nob)).from (Fr.drewN w' (1 + m1) nob)
  generalize w2.drewN m2 = w3 at G2 ⊢
  have eqn : ((l.length - 2 : Nat) : Int) = (q.length : Int) := by omega
  have hsl := seven_len z
  refine loop_inv (fun t ρ w4 => ∃ (j : Nat) (B : Value), ρ 39 = .int .i64 j ∧ ρ 8 = B ∧ j ≤ q.length ∧ t = q.length - j ∧ Gw .u8 w' w4 B (sevenR z ++ sevens (q.take j)) ∧ (sevens (q.take j)).length ≤ 11 * j) q.length ⟨0, v2, by simp (disch := omega) only [wu64, wu32, wu8, fdiv_nn, EO, ↓EP, EQ, EM, ↓reduceIte, Int.reduceAdd, Int.reduceEq, Int.reduceLE, Int.reduceLT, Int.reduceMul, Int.reduceNeg, Int.reducePow, Int.reduceSub, Int.reduceToNat, Nat.reduceAdd, Nat.reduceEqDiff, Nat.reduceLT, Nat.reduceLeDiff, Nat.reduceMul, reduceCtorEq], by simp (disch := omega) only [wu64, wu32, wu8, fdiv_nn, EO, ↓EP, EQ, EM, ↓reduceIte, Int.reduceAdd, Int.reduceEq, Int.reduceLE, Int.reduceLT, Int.reduceMul, Int.reduceNeg, Int.reducePow, Int.reduceSub, Int.reduceToNat, Nat.reduceAdd, Nat.reduceEqDiff, Nat.reduceLT, Nat.reduceLeDiff, Nat.reduceMul, reduceCtorEq], by omega, by omega, by simpa [sevens] using G2, by simp [sevens]⟩ ?_
  rintro t ρ w4 hf ⟨j, B, h39, h8, hj, rfl, G, hlen⟩ N hN
  have r37 : ρ 37 = .slice A2 (l.length - 2) (c - 2) := by rw [hf 37 rfl]; simp (disch := omega) only [wu64, wu32, wu8, fdiv_nn, EO, ↓EP, EQ, EM, ↓reduceIte, Int.reduceAdd, Int.reduceEq, Int.reduceLE, Int.reduceLT, Int.reduceMul, Int.reduceNeg, Int.reducePow, Int.reduceSub, Int.reduceToNat, Nat.reduceAdd, Nat.reduceEqDiff, Nat.reduceLT, Nat.reduceLeDiff, Nat.reduceMul, reduceCtorEq, r4, e2]
  have r38 : ρ 38 = .int .i64 q.length := by rw [hf 38 rfl]; simp (disch := omega) only [wu64, wu32, wu8, fdiv_nn, EO, ↓EP, EQ, EM, ↓reduceIte, Int.reduceAdd, Int.reduceEq, Int.reduceLE, Int.reduceLT, Int.reduceMul, Int.reduceNeg, Int.reducePow, Int.reduceSub, Int.reduceToNat, Nat.reduceAdd, Nat.reduceEqDiff, Nat.reduceLT, Nat.reduceLeDiff, Nat.reduceMul, reduceCtorEq, r4, e2, eqn]
  clear hf
  by_cases hjl : (j : Int) < (q.length : Int)
  · obtain ⟨a2, rfl, cellq⟩ := pos_cellsK (hR2.nb G.fr) (by omega)
    have cj := cellq j (by omega)
    have bj := hs2 j (by omega)
    obtain ⟨y, hy⟩ : ∃ y : Nat, at' q (j : Int) = (y : Int) := ⟨(at' q (j : Int)).toNat, by omega⟩
    rw [hy] at cj
    have hst : sevens (q.take (j + 1)) = sevens (q.take j) ++ sevenR y := by
      rw [take_snoc (by omega), sevens_snoc, hy, Int.toNat_natCast]
    have hsy := seven_len y
    simp (disch := omega) only [wu64, wu32, wu8, fdiv_nn, EO, ↓EP, EQ, EM, ↓reduceIte, Int.reduceAdd, Int.reduceEq, Int.reduceLE, Int.reduceLT, Int.reduceMul, Int.reduceNeg, Int.reducePow, Int.reduceSub, Int.reduceToNat, Nat.reduceAdd, Nat.reduceEqDiff, Nat.reduceLT, Nat.reduceLeDiff, Nat.reduceMul, reduceCtorEq, W_join, h39, h8, r37, r38, cj]
    refine seven_vw (by omega) _ fun v5 w5 g5 => ?_
    obtain ⟨A5, c5, rfl, hc5, hr5⟩ := readn g5.sl rfl
    have G5 := G.step g5.fr
    simp (disch := omega) only [wu64, wu32, wu8, fdiv_nn, EO, ↓EP, EQ, EM, ↓reduceIte, Int.reduceAdd, Int.reduceEq, Int.reduceLE, Int.reduceLT, Int.reduceMul, Int.reduceNeg, Int.reducePow, Int.reduceSub, Int.reduceToNat, Nat.reduceAdd, Nat.reduceEqDiff, Nat.reduceLT, Nat.reduceLeDiff, Nat.reduceMul, reduceCtorEq, h39, h8]
    refine app_num G5.sl rfl hr5 (by rw [List.length_append]; omega) (by omega) fun v6 w6 a6 => ?_
    have G6 := G5.apd a6
    rw [List.append_assoc, ← hst] at G6
    simp (disch := omega) only [wu64, wu32, wu8, fdiv_nn, EO, ↓EP, EQ, EM, ↓reduceIte, Int.reduceAdd, Int.reduceEq, Int.reduceLE, Int.reduceLT, Int.reduceMul, Int.reduceNeg, Int.reducePow, Int.reduceSub, Int.reduceToNat, Nat.reduceAdd, Nat.reduceEqDiff, Nat.reduceLT, Nat.reduceLeDiff, Nat.reduceMul, reduceCtorEq, h39]
    exact hN (q.length - (j + 1)) _ _ (by omega) ⟨j + 1, v6, by simp (disch := omega) only [wu64, wu32, wu8, fdiv_nn, EO, ↓EP, EQ, EM, ↓reduceIte, Int.reduceAdd, Int.reduceEq, Int.reduceLE, Int.reduceLT, Int.reduceMul, Int.reduceNeg, Int.reducePow, Int.reduceSub, Int.reduceToNat, Nat.reduceAdd, Nat.reduceEqDiff, Nat.reduceLT, Nat.reduceLeDiff, Nat.reduceMul, reduceCtorEq, h39, Int.natCast_add], by simp (disch := omega) only [wu64, wu32, wu8, fdiv_nn, EO, ↓EP, EQ, EM, ↓reduceIte, Int.reduceAdd, Int.reduceEq, Int.reduceLE, Int.reduceLT, Int.reduceMul, Int.reduceNeg, Int.reducePow, Int.reduceSub, Int.reduceToNat, Nat.reduceAdd, Nat.reduceEqDiff, Nat.reduceLT, Nat.reduceLeDiff, Nat.reduceMul, reduceCtorEq], by omega, rfl, G6, by rw [hst, List.length_append]; omega⟩
  · have hje : j = q.length := by omega
    subst hje
    rw [List.take_of_length_le (Nat.le_refl _)] at G
    simp (disch := omega) only [wu64, wu32, wu8, fdiv_nn, EO, ↓EP, EQ, EM, ↓reduceIte, Int.reduceAdd, Int.reduceEq, Int.reduceLE, Int.reduceLT, Int.reduceMul, Int.reduceNeg, Int.reducePow, Int.reduceSub, Int.reduceToNat, Nat.reduceAdd, Nat.reduceEqDiff, Nat.reduceLT, Nat.reduceLeDiff, Nat.reduceMul, reduceCtorEq, W_join, h39, h8, r37, r38]
    exact hK _ w4 (G.from g1.fr)
end Go.Proofs.YtcflokckfjkdpaaDoor.Der
