/- DerBack: the row and the tied card: elements that are put, one behind the other, are split as they were; no condition. -/
import Derived.Test.YtcflokckfjkdpaaDoorCards
import Derived.Test.YtcflokckfjkdpaaDoorTie
import Derived.SevenTiedAt
import Derived.Test.YtcflokckfjkdpaaDoorDerBackr0
set_option linter.unusedVariables false
set_option linter.unusedSimpArgs false
section
set_option linter.unusedVariables false
set_option linter.unusedSimpArgs false
namespace Go.Proofs.YtcflokckfjkdpaaDoor.Der
open Go Go.RowKit Go.Proofs Go.Proofs.YtcflokckfjkdpaaDoor.Eng Go.Proofs.YtcflokckfjkdpaaDoor.Code
set_option maxRecDepth 100000
attribute [local irreducible] callK S.W opsW scrW scrT
theorem arcsGo_bd : ∀ (s l : List Int) (v : Int) (n : Nat) (r : List Int), arcsGo s l v n = some r → 0 ≤ v → v ≤ 1099511627776 → (∀ x ∈ l, 0 ≤ x ∧ x ≤ 1099511627776) →
    (∀ x ∈ r, 0 ≤ x ∧ x ≤ 1099511627776) ∧ r.length ≤ l.length + s.length
  | [], l, v, n, r, h, h1, h2, h3 => by
    simp only [arcsGo, Option.some.injEq] at h
    subst h
    exact ⟨h3, by simp⟩
  | c :: s, l, v, n, r, h, h1, h2, h3 => by
    rw [arcsGo] at h
    split at h
    · have := arcsGo_bd s _ _ _ r h (by omega) (by omega) (fun x hx => by
        rw [List.mem_append] at hx
        rcases hx with hx | hx
        · exact h3 x hx
        · simp at hx; omega)
      refine ⟨this.1, ?_⟩
      have h4 := this.2
      simp at h4 ⊢; omega
    · split at h
      · simp at h
      · rename_i h5
        have sb := satA_bd (v := 10 * v + (c - 48)) (by omega)
        have := arcsGo_bd s _ _ _ r h sb.1 sb.2 h3
        refine ⟨this.1, ?_⟩
        have h4 := this.2
        simp at h4 ⊢; omega
theorem arcs_bd {s l : List Int} (h : arcsR s = some l) : (∀ x ∈ l, 0 ≤ x ∧ x ≤ 1099511627776) ∧ l.length ≤ s.length + 1 ∧ 2 ≤ l.length ∧ at' l 0 ≤ 2 := by
  unfold arcsR at h
  cases hh : arcsGo (s ++ [46]) [] 0 0 with
  | none => rw [hh] at h; simp at h
  | some r =>
    rw [hh] at h
    simp only at h
    split at h
    · simp at h
    · rename_i h1
      simp only [Option.some.injEq] at h
      subst h
      have := arcsGo_bd _ _ _ _ _ hh (by omega) (by omega) (by simp)
      refine ⟨this.1, ?_, ?_, ?_⟩
      · have h2 := this.2
        simp at h2; omega
      · apply Nat.le_of_not_lt; exact fun h => h1 (.inl h)
      · apply Int.le_of_not_gt; exact fun h => h1 (.inr (.inl h))
theorem at_mem {l : List Int} {i : Nat} (h : i < l.length) : at' l (i : Int) ∈ l := by
  rw [atN, List.getD_eq_getElem?_getD, List.getElem?_eq_getElem h]
  exact List.getElem_mem h
def sevens (l : List Int) : List Int := l.flatMap fun v => sevenR v.toNat
theorem sevens_snoc (l : List Int) (x : Int) : sevens (l ++ [x]) = sevens l ++ sevenR x.toNat := by simp [sevens]
set_option maxHeartbeats 2000000 in
theorem putoid_vw {w : World} {u : List UInt8} (hm : u.length ≤ 1073741824) (K : Value → World → Prop)
    (hK : ∀ v' w', Gw .u8 w w' v' (putOidR (ints u)).1 → K (pr2 v' (putOidR (ints u)).2) w') : callK Tryd.prog 23 [.string (S u)] w K := by
  refine call_of Tryd.func23 Code.h23 (by simp [Code.c23]) ?_
  simp (disch := omega) only [wu64, wu32, wu8, fdiv_nn, EO, ↓EP, EQ, EM, ↓reduceIte, Int.reduceAdd, Int.reduceEq, Int.reduceLE, Int.reduceLT, Int.reduceMul, Int.reduceNeg, Int.reducePow, Int.reduceSub, Int.reduceToNat, Nat.reduceAdd, Nat.reduceEqDiff, Nat.reduceLT, Nat.reduceLeDiff, Nat.reduceMul, reduceCtorEq, Code.c23]
  refine arcs_vw hm _ fun v1 w1 g1 => ?_
  simp only [prb]
  unfold putOidR at hK
  cases hl : arcsR (ints u) with
  | none =>
    rw [hl] at hK g1
    simp only [Option.isSome_none] at hK ⊢
    simp (disch := omega) only [wu64, wu32, wu8, fdiv_nn, EO, ↓EP, EQ, EM, ↓reduceIte, Int.reduceAdd, Int.reduceEq, Int.reduceLE, Int.reduceLT, Int.reduceMul, Int.reduceNeg, Int.reducePow, Int.reduceSub, Int.reduceToNat, Nat.reduceAdd, Nat.reduceEqDiff, Nat.reduceLT, Nat.reduceLeDiff, Nat.reduceMul, reduceCtorEq, Bool.not_false]
    exact hK _ w1 ((Gw.nil .u8 w).step g1.fr)
  | some l =>
  rw [hl] at hK g1
  simp only [Option.isSome_some, Option.getD_some] at hK g1 ⊢
  obtain ⟨hbd, hll, h2, h02⟩ := arcs_bd hl
  rw [ints_len] at hll
  obtain ⟨A, c, rfl, hc, hr⟩ := readn g1.sl rfl
  obtain ⟨ad, rfl, cell⟩ := pos_cellsK hr (by omega)
  simp (disch := omega) only [wu64, wu32, wu8, fdiv_nn, EO, ↓EP, EQ, EM, ↓reduceIte, Int.reduceAdd, Int.reduceEq, Int.reduceLE, Int.reduceLT, Int.reduceMul, Int.reduceNeg, Int.reducePow, Int.reduceSub, Int.reduceToNat, Nat.reduceAdd, Nat.reduceEqDiff, Nat.reduceLT, Nat.reduceLeDiff, Nat.reduceMul, reduceCtorEq, Bool.not_true]
  refine loop_inv (fun t ρ w' => w' = w1 ∧ ∃ i : Nat, ρ 20 = .int .i64 i ∧ i ≤ l.length ∧ t = l.length - i ∧ (l.drop i).any (fun v => decide (2147483647 < v)) = l.any (fun v => decide (2147483647 < v))) l.length ⟨rfl, 0, by simp (disch := omega) only [wu64, wu32, wu8, fdiv_nn, EO, ↓EP, EQ, EM, ↓reduceIte, Int.reduceAdd, Int.reduceEq, Int.reduceLE, Int.reduceLT, Int.reduceMul, Int.reduceNeg, Int.reducePow, Int.reduceSub, Int.reduceToNat, Nat.reduceAdd, Nat.reduceEqDiff, Nat.reduceLT, Nat.reduceLeDiff, Nat.reduceMul, reduceCtorEq], by omega, by omega, by simp⟩ ?_
  rintro t ρ w' hf ⟨rfl, i, h20, hi, rfl, hany⟩ N hN
  have r4 : ρ 4 = .slice (some ad) l.length c := by rw [hf 4 rfl]; simp (disch := omega) only [wu64, wu32, wu8, fdiv_nn, EO, ↓EP, EQ, EM, ↓reduceIte, Int.reduceAdd, Int.reduceEq, Int.reduceLE, Int.reduceLT, Int.reduceMul, Int.reduceNeg, Int.reducePow, Int.reduceSub, Int.reduceToNat, Nat.reduceAdd, Nat.reduceEqDiff, Nat.reduceLT, Nat.reduceLeDiff, Nat.reduceMul, reduceCtorEq]
  have r18 : ρ 18 = .slice (some ad) l.length c := by rw [hf 18 rfl]; simp (disch := omega) only [wu64, wu32, wu8, fdiv_nn, EO, ↓EP, EQ, EM, ↓reduceIte, Int.reduceAdd, Int.reduceEq, Int.reduceLE, Int.reduceLT, Int.reduceMul, Int.reduceNeg, Int.reducePow, Int.reduceSub, Int.reduceToNat, Nat.reduceAdd, Nat.reduceEqDiff, Nat.reduceLT, Nat.reduceLeDiff, Nat.reduceMul, reduceCtorEq]
  have r19 : ρ 19 = .int .i64 l.length := by rw [hf 19 rfl]; simp (disch := omega) only [wu64, wu32, wu8, fdiv_nn, EO, ↓EP, EQ, EM, ↓reduceIte, Int.reduceAdd, Int.reduceEq, Int.reduceLE, Int.reduceLT, Int.reduceMul, Int.reduceNeg, Int.reducePow, Int.reduceSub, Int.reduceToNat, Nat.reduceAdd, Nat.reduceEqDiff, Nat.reduceLT, Nat.reduceLeDiff, Nat.reduceMul, reduceCtorEq]
  clear hf
  by_cases hil : (i : Int) < (l.length : Int)
  · have ci := cell i (by omega)
    rw [drop_at (show i < l.length by omega), List.any_cons] at hany
    by_cases hb : 2147483647 < at' l (i : Int)
    · rw [decide_eq_true hb, Bool.true_or] at hany
      rw [if_pos hany.symm] at hK
      simp (disch := omega) only [wu64, wu32, wu8, fdiv_nn, EO, ↓EP, EQ, EM, ↓reduceIte, Int.reduceAdd, Int.reduceEq, Int.reduceLE, Int.reduceLT, Int.reduceMul, Int.reduceNeg, Int.reducePow, Int.reduceSub, Int.reduceToNat, Nat.reduceAdd, Nat.reduceEqDiff, Nat.reduceLT, Nat.reduceLeDiff, Nat.reduceMul, reduceCtorEq, W_join, h20, r18, r19, ci]
      exact hK _ w' ((Gw.nil .u8 w).step g1.fr)
    · rw [decide_eq_false hb, Bool.false_or] at hany
      simp (disch := omega) only [wu64, wu32, wu8, fdiv_nn, EO, ↓EP, EQ, EM, ↓reduceIte, Int.reduceAdd, Int.reduceEq, Int.reduceLE, Int.reduceLT, Int.reduceMul, Int.reduceNeg, Int.reducePow, Int.reduceSub, Int.reduceToNat, Nat.reduceAdd, Nat.reduceEqDiff, Nat.reduceLT, Nat.reduceLeDiff, Nat.reduceMul, reduceCtorEq, W_join, h20, r18, r19, ci]
      exact hN (l.length - (i + 1)) _ _ (by omega) ⟨rfl, i + 1, by simp (disch := omega) only [wu64, wu32, wu8, fdiv_nn, EO, ↓EP, EQ, EM, ↓reduceIte, Int.reduceAdd, Int.reduceEq, Int.reduceLE, Int.reduceLT, Int.reduceMul, Int.reduceNeg, Int.reducePow, Int.reduceSub, Int.reduceToNat, Nat.reduceAdd, Nat.reduceEqDiff, Nat.reduceLT, Nat.reduceLeDiff, Nat.reduceMul, reduceCtorEq, h20, Int.natCast_add], by omega, rfl, hany⟩
  have hie : i = l.length := by omega
  subst hie
  rw [List.drop_length, List.any_nil] at hany
  rw [if_neg (by rw [← hany]; simp)] at hK
  have hsm : ∀ i : Nat, i < l.length → 0 ≤ at' l (i : Int) ∧ at' l (i : Int) ≤ 2147483647 := fun i hi => by
    have h1 := hbd _ (at_mem hi)
    refine ⟨h1.1, ?_⟩
    apply Int.le_of_not_gt
    intro hgt
    have : l.any (fun v => decide (2147483647 < v)) = true := List.any_eq_true.2 ⟨_, at_mem hi, decide_eq_true hgt⟩
    rw [this] at hany
    simp at hany
  clear hany hN
  have c0 := cell 0 (by omega)
  have c1 := cell 1 (by omega)
  have b0 := hsm 0 (by omega)
  have b1 := hsm 1 (by omega)
  rw [show ((0 : Nat) : Int) = 0 by rfl] at c0 b0
  rw [show ((1 : Nat) : Int) = 1 by rfl] at c1 b1
  have cellf : ∀ w2, Fr w' w2 nob → w2.cell? (ad.add 0) = some (.int .u64 (at' l 0)) ∧ w2.cell? (ad.add 1) = some (.int .u64 (at' l 1)) := fun w2 f => by
    obtain ⟨ad', e', _, hcl⟩ := (hr.nb f).get (by rw [nums_length]; omega)
    cases e'
    have q0 := hcl.numN (j := 0) (by omega)
    have q1 := hcl.numN (j := 1) (by omega)
    exact ⟨q0, q1⟩
  obtain ⟨z, hz⟩ : ∃ z : Nat, 40 * at' l 0 + at' l 1 = (z : Int) := ⟨(40 * at' l 0 + at' l 1).toNat, by omega⟩
  rw [hz, Int.toNat_natCast] at hK
  simp (disch := omega) only [wu64, wu32, wu8, fdiv_nn, EO, ↓EP, EQ, EM, ↓reduceIte, Int.reduceAdd, Int.reduceEq, Int.reduceLE, Int.reduceLT, Int.reduceMul, Int.reduceNeg, Int.reducePow, Int.reduceSub, Int.reduceToNat, Nat.reduceAdd, Nat.reduceEqDiff, Nat.reduceLT, Nat.reduceLeDiff, Nat.reduceMul, reduceCtorEq, W_join, h20, r4, r18, r19, c0, c1, hz]
  intro m1
  refine seven_vw (by omega) _ fun v2 w2 g2 => ?_
  have f2 := (Fr.drewN w' (1 + m1) nob).nb g2.fr
  obtain ⟨d0, d1⟩ := cellf w2 f2
  have ezz : sevenR z ++ (l.drop 2).flatMap (fun v => sevenR v.toNat) = sevenR z ++ sevens (l.drop 2) := rfl
  rw [ezz] at hK
  have e2 : (2 : Int).toNat = 2 := rfl
  simp (disch := omega) only [wu64, wu32, wu8, fdiv_nn, EO, ↓EP, EQ, EM, ↓reduceIte, Int.reduceAdd, Int.reduceEq, Int.reduceLE, Int.reduceLT, Int.reduceMul, Int.reduceNeg, Int.reducePow, Int.reduceSub, Int.reduceToNat, Nat.reduceAdd, Nat.reduceEqDiff, Nat.reduceLT, Nat.reduceLeDiff, Nat.reduceMul, reduceCtorEq, W_join, h20, r4, r18, r19, d0, d1, hz, e2]
  intro m2
  have hR2 : Rd w' (subA (some ad) c 2 1) (nums .u64 (l.drop 2)) := hr.subA c 2 hc
  generalize subA (some ad) c 2 1 = A2 at hR2 ⊢
  have hd2 : (l.drop 2).length = l.length - 2 := by simp
  have hs2 : ∀ i : Nat, i < (l.drop 2).length → 0 ≤ at' (l.drop 2) (i : Int) ∧ at' (l.drop 2) (i : Int) ≤ 2147483647 := fun i hi => by
    rw [at_drop]; exact hsm (2 + i) (by omega)
  generalize hq : l.drop 2 = q at hR2 hd2 hs2 hK
  have G2 : Gw .u8 w' (w2.drewN m2) v2 (sevenR z) := (g2.step (Fr.drewN w2 m2 nob)).from (Fr.drewN w' (1 + m1) nob)
  generalize w2.drewN m2 = w3 at G2 ⊢
  have eqn : ((l.length - 2 : Nat) : Int) = (q.length : Int) := by omega
  have hsl := seven_len z
  refine loop_inv (fun t ρ w4 => ∃ (j : Nat) (B : Value), ρ 39 = .int .i64 j ∧ ρ 8 = B ∧ j ≤ q.length ∧ t = q.length - j ∧ Gw .u8 w' w4 B (sevenR z ++ sevens (q.take j)) ∧ (sevens (q.take j)).length ≤ 11 * j) q.length ⟨0, v2, by simp (disch := omega) only [wu64, wu32, wu8, fdiv_nn, EO, ↓EP, EQ, EM, ↓reduceIte, Int.reduceAdd, Int.reduceEq, Int.reduceLE, Int.reduceLT, Int.reduceMul, Int.reduceNeg, Int.reducePow, Int.reduceSub, Int.reduceToNat, Nat.reduceAdd, Nat.reduceEqDiff, Nat.reduceLT, Nat.reduceLeDiff, Nat.reduceMul, reduceCtorEq], by simp (disch := omega) only [wu64, wu32, wu8, fdiv_nn, EO, ↓EP, EQ, EM, ↓reduceIte, Int.reduceAdd, Int.reduceEq, Int.reduceLE, Int.reduceLT, Int.reduceMul, Int.reduceNeg, Int.reducePow, Int.reduceSub, Int.reduceToNat, Nat.reduceAdd, Nat.reduceEqDiff, Nat.reduceLT, Nat.reduceLeDiff, Nat.reduceMul, reduceCtorEq], by omega, by omega, by simpa [sevens] using G2, by simp [sevens]⟩ ?_
  rintro t ρ w4 hf ⟨j, B, h39, h8, hj, rfl, G, hlen⟩ N hN
  have r37 : ρ 37 = .slice A2 (l.length - 2) (c - 2) := by rw [hf 37 rfl]; simp (disch := omega) only [wu64, wu32, wu8, fdiv_nn, EO, ↓EP, EQ, EM, ↓reduceIte, Int.reduceAdd, Int.reduceEq, Int.reduceLE, Int.reduceLT, Int.reduceMul, Int.reduceNeg, Int.reducePow, Int.reduceSub, Int.reduceToNat, Nat.reduceAdd, Nat.reduceEqDiff, Nat.reduceLT, Nat.reduceLeDiff, Nat.reduceMul, reduceCtorEq, r4, e2]
  have r38 : ρ 38 = .int .i64 q.length := by rw [hf 38 rfl]; simp (disch := omega) only [wu64, wu32, wu8, fdiv_nn, EO, ↓EP, EQ, EM, ↓reduceIte, Int.reduceAdd, Int.reduceEq, Int.reduceLE, Int.reduceLT, Int.reduceMul, Int.reduceNeg, Int.reducePow, Int.reduceSub, Int.reduceToNat, Nat.reduceAdd, Nat.reduceEqDiff, Nat.reduceLT, Nat.reduceLeDiff, Nat.reduceMul, reduceCtorEq, r4, e2, eqn]
  clear hf
  by_cases hjl : (j : Int) < (q.length : Int)
  · obtain ⟨a2, rfl, cellq⟩ := pos_cellsK (hR2.nb G.fr) (by omega)
    have cj := cellq j (by omega)
    have bj := hs2 j (by omega)
    obtain ⟨y, hy⟩ : ∃ y : Nat, at' q (j : Int) = (y : Int) := ⟨(at' q (j : Int)).toNat, by omega⟩
    rw [hy] at cj
    have hst : sevens (q.take (j + 1)) = sevens (q.take j) ++ sevenR y := by
      rw [take_snoc (by omega), sevens_snoc, hy, Int.toNat_natCast]
    have hsy := seven_len y
    simp (disch := omega) only [wu64, wu32, wu8, fdiv_nn, EO, ↓EP, EQ, EM, ↓reduceIte, Int.reduceAdd, Int.reduceEq, Int.reduceLE, Int.reduceLT, Int.reduceMul, Int.reduceNeg, Int.reducePow, Int.reduceSub, Int.reduceToNat, Nat.reduceAdd, Nat.reduceEqDiff, Nat.reduceLT, Nat.reduceLeDiff, Nat.reduceMul, reduceCtorEq, W_join, h39, h8, r37, r38, cj]
    refine seven_vw (by omega) _ fun v5 w5 g5 => ?_
    obtain ⟨A5, c5, rfl, hc5, hr5⟩ := readn g5.sl rfl
    have G5 := G.step g5.fr
    simp (disch := omega) only [wu64, wu32, wu8, fdiv_nn, EO, ↓EP, EQ, EM, ↓reduceIte, Int.reduceAdd, Int.reduceEq, Int.reduceLE, Int.reduceLT, Int.reduceMul, Int.reduceNeg, Int.reducePow, Int.reduceSub, Int.reduceToNat, Nat.reduceAdd, Nat.reduceEqDiff, Nat.reduceLT, Nat.reduceLeDiff, Nat.reduceMul, reduceCtorEq, h39, h8]
    refine app_num G5.sl rfl hr5 (by rw [List.length_append]; omega) (by omega) fun v6 w6 a6 => ?_
    have G6 := G5.apd a6
    rw [List.append_assoc, ← hst] at G6
    simp (disch := omega) only [wu64, wu32, wu8, fdiv_nn, EO, ↓EP, EQ, EM, ↓reduceIte, Int.reduceAdd, Int.reduceEq, Int.reduceLE, Int.reduceLT, Int.reduceMul, Int.reduceNeg, Int.reducePow, Int.reduceSub, Int.reduceToNat, Nat.reduceAdd, Nat.reduceEqDiff, Nat.reduceLT, Nat.reduceLeDiff, Nat.reduceMul, reduceCtorEq, h39]
    exact hN (q.length - (j + 1)) _ _ (by omega) ⟨j + 1, v6, by simp (disch := omega) only [wu64, wu32, wu8, fdiv_nn, EO, ↓EP, EQ, EM, ↓reduceIte, Int.reduceAdd, Int.reduceEq, Int.reduceLE, Int.reduceLT, Int.reduceMul, Int.reduceNeg, Int.reducePow, Int.reduceSub, Int.reduceToNat, Nat.reduceAdd, Nat.reduceEqDiff, Nat.reduceLT, Nat.reduceLeDiff, Nat.reduceMul, reduceCtorEq, h39, Int.natCast_add], by simp (disch := omega) only [wu64, wu32, wu8, fdiv_nn, EO, ↓EP, EQ, EM, ↓reduceIte, Int.reduceAdd, Int.reduceEq, Int.reduceLE, Int.reduceLT, Int.reduceMul, Int.reduceNeg, Int.reducePow, Int.reduceSub, Int.reduceToNat, Nat.reduceAdd, Nat.reduceEqDiff, Nat.reduceLT, Nat.reduceLeDiff, Nat.reduceMul, reduceCtorEq], by omega, rfl, G6, by rw [hst, List.length_append]; omega⟩
  · have hje : j = q.length := by omega
    subst hje
    rw [List.take_of_length_le (Nat.le_refl _)] at G
    simp (disch := omega) only [wu64, wu32, wu8, fdiv_nn, EO, ↓EP, EQ, EM, ↓reduceIte, Int.reduceAdd, Int.reduceEq, Int.reduceLE, Int.reduceLT, Int.reduceMul, Int.reduceNeg, Int.reducePow, Int.reduceSub, Int.reduceToNat, Nat.reduceAdd, Nat.reduceEqDiff, Nat.reduceLT, Nat.reduceLeDiff, Nat.reduceMul, reduceCtorEq, W_join, h39, h8, r37, r38]
    exact hK _ w4 (G.from g1.fr)
end Go.Proofs.YtcflokckfjkdpaaDoor.Der
end
section
set_option linter.unusedVariables false
set_option linter.unusedSimpArgs false
namespace Go.Proofs.YtcflokckfjkdpaaDoor.Der
open Go Go.RowKit Go.Proofs Go.Proofs.YtcflokckfjkdpaaDoor.Eng Go.Proofs.YtcflokckfjkdpaaDoor.Code
set_option maxRecDepth 100000
attribute [local irreducible] callK S.W opsW scrW scrT
theorem num_vw {w : World} {e : Int} (K : Value → World → Prop) (hK : K (.int .i64 e) w) : callK Tryd.prog 19 [.int .i64 e] w K := by
  refine call_of Tryd.func19 Code.h19 (by simp [Code.c19]) ?_
  simp (disch := omega) only [wu64, wu32, wu8, fdiv_nn, EO, ↓EP, EQ, EM, ↓reduceIte, Int.reduceAdd, Int.reduceEq, Int.reduceLE, Int.reduceLT, Int.reduceMul, Int.reduceNeg, Int.reducePow, Int.reduceSub, Int.reduceToNat, Nat.reduceAdd, Nat.reduceEqDiff, Nat.reduceLT, Nat.reduceLeDiff, Nat.reduceMul, reduceCtorEq, Code.c19]
  exact hK
theorem bsl7 {k : IntKind} {e : Nat} {a b c d x y z : Int} {w : World} {K : Value → World → Prop} (hK : ∀ w', New w w' (nums k [a, b, c, d, x, y, z]) → K (.slice (some ⟨w.heap.size, 0, none⟩) 7 7) w') : bslT e 1 7 #[.int k 0] [(0, .int k a), (1, .int k b), (2, .int k c), (3, .int k d), (4, .int k x), (5, .int k y), (6, .int k z)] w K .mk :=
  ⟨#[.int k a, .int k b, .int k c, .int k d, .int k x, .int k y, .int k z], by kernel_rfl, hK _ (new_of rfl rfl)⟩
theorem s7 : splitR [2, 1, 5, 48, 2, 5, 0] = ([⟨0, 2, false, [5], [2, 1, 5]⟩, ⟨0, 16, true, [5, 0], [48, 2, 5, 0]⟩], 0, 7) := by decide +kernel
theorem x_int : intR [255, 127] = (-129, 0) := by decide +kernel
theorem x_oid : oidR [42, 134, 72] = ([49, 46, 50, 46, 56, 52, 48], 0) := by decide +kernel
theorem x_put : putOidR (ints [50, 46, 57, 57, 57]) = ([136, 55], 0) := by decide +kernel
theorem x_flags : flagsR [5, 160] = (5, 0) := by decide +kernel
theorem x_uint : uintR [128] = ([], 40) := by decide +kernel
theorem e_50 : ((strOfNums [5, 0]).toList == (⟨#[5, 0]⟩ : ByteArray).toList) = true := by decide +kernel
theorem e_put : ((strOfNums [136, 55]).toList == (⟨#[136, 55]⟩ : ByteArray).toList) = true := by decide +kernel
theorem e_oid : ((S [49, 46, 50, 46, 56, 52, 48]).toList == (⟨#[49, 46, 50, 46, 56, 52, 48]⟩ : ByteArray).toList) = true := by decide +kernel
theorem lit_vw {w w' : World} {l : List Int} {n : Nat} (hn : l.length = n) (h : New w w' (nums .u8 l)) : Vw .u8 w' (.slice (some ⟨w.heap.size, 0, none⟩) n n) l := Vw.of hn (Nat.le_refl _) h.rdv
theorem addr_add (p : Addr) (i j : Nat) : (p.add i).add j = p.add (i + j) := by
  by_cases hi : i = 0
  · subst hi; simp [Addr.add]
  · by_cases hj : j = 0
    · subst hj; simp [Addr.add]
    · simp [Addr.add, hi, hj, Nat.add_assoc]
theorem l_int {w w' : World} (n : New w w' (nums .u8 [255, 127])) (K : Value → World → Prop) (hK : K (pr2 (.int .i64 (-129)) 0) w') : callK Tryd.prog 33 [.slice (some ⟨w.heap.size, 0, none⟩) 2 2] w' K := by
  refine int_vw (lit_vw (n := 2) rfl n) (ByteL.of (by decide)) (by simp) K ?_
  rw [x_int]; exact hK
theorem l_oid {w w' : World} (n : New w w' (nums .u8 [42, 134, 72])) (hT : TbP w') (K : Value → World → Prop) (hK : ∀ w2, Fr w' w2 nob → K (prs ([49, 46, 50, 46, 56, 52, 48], 0)) w2) : callK Tryd.prog 21 [.slice (some ⟨w.heap.size, 0, none⟩) 3 3] w' K := by
  refine oid_vw (lit_vw (n := 3) rfl n) (ByteL.of (by decide)) hT (by simp) K ?_
  rw [x_oid]; exact hK
theorem l_put {w : World} (K : Value → World → Prop) (hK : ∀ A c w', Gw .u8 w w' (.slice A 2 c) [136, 55] → K (pr2 (.slice A 2 c) 0) w') : callK Tryd.prog 23 [.string ⟨#[50, 46, 57, 57, 57]⟩] w K := by
  refine putoid_vw (u := [50, 46, 57, 57, 57]) (by simp) K ?_
  rw [x_put]
  intro v w' g
  obtain ⟨A, c, rfl, _, _⟩ := readn g.sl rfl
  exact hK _ _ _ g
theorem l_flags {w w' : World} (n : New w w' (nums .u8 [5, 160])) (K : Value → World → Prop) (hK : ∀ w2, Fr w' w2 nob → K (pr2 (.int .u32 5) 0) w2) : callK Tryd.prog 16 [.slice (some ⟨w.heap.size, 0, none⟩) 2 2] w' K := by
  refine flags_vw (lit_vw (n := 2) rfl n) (ByteL.of (by decide)) (by simp) K ?_
  rw [x_flags]; exact hK
theorem l_uint {w w' : World} (n : New w w' (nums .u8 [128])) (K : Value → World → Prop) (hK : ∀ v w2, Fr w' w2 nob → K (pr2 v 40) w2) : callK Tryd.prog 35 [.slice (some ⟨w.heap.size, 0, none⟩) 1 1] w' K := by
  refine uint_vw (lit_vw (n := 1) rfl n) (ByteL.of (by decide)) (by simp) K ?_
  rw [x_uint]
  exact fun v w2 g => hK v w2 g.fr
theorem l_split {w w' : World} (n : New w w' (nums .u8 [2, 1, 5, 48, 2, 5, 0])) (K : Value → World → Prop) (hK : ∀ ad c dA dc w2, Fr w' w2 nob → 2 ≤ c → Rd w2 dA (nums .u8 [5, 0]) → w2.cell? (ad.add 1) = some (.int .i64 2) → w2.cell? (ad.add 8) = some (.slice dA 2 dc) → w2.cell? (ad.add 7) = some (.bool true) →
    K (tup3 (.slice (some ad) 2 c) 0 7) w2) : callK Tryd.prog 25 [.slice (some ⟨w.heap.size, 0, none⟩) 7 7] w' K := by
  refine split_vw (lit_vw (n := 7) rfl n) (ByteL.of (by decide)) (by simp) K ?_
  rw [s7]
  intro X vs w2 T
  have hvl := T.vlen
  obtain ⟨A, c, rfl, hc, hr⟩ := T.g.sl.read
  match vs, hvl with
  | [d1, r1, d2, r2], _ =>
  have hdata := T.r.each 2 d2 [5, 0] rfl rfl
  obtain ⟨dA, dc, rfl, hdc, hdr⟩ := readn hdata rfl
  obtain ⟨ad, rfl, ct⟩ := hr.at (i := 1) (v := .int .i64 2) rfl
  obtain ⟨ad', e', cd⟩ := hr.at (i := 8) (v := .slice dA 2 dc) rfl
  cases e'
  obtain ⟨ad', e', cc⟩ := hr.at (i := 7) (v := .bool true) rfl
  cases e'
  exact hK _ _ _ _ _ T.g.fr hc hdr ct cd cc
set_option maxHeartbeats 2000000 in
theorem live_vw {w : World} (hT : TbP w) (K : Value → World → Prop) (hK : ∀ w', Fr w w' nob → K (.bool true) w') : callK Tryd.prog 12 [] w K := by
  refine call_of Tryd.func12 Code.h12 (by simp [Code.c12]) ?_
  simp (disch := omega) only [wu64, wu32, wu8, fdiv_nn, EO, ↓EP, EQ, EM, ↓reduceIte, Int.reduceAdd, Int.reduceEq, Int.reduceLE, Int.reduceLT, Int.reduceMul, Int.reduceNeg, Int.reducePow, Int.reduceSub, Int.reduceToNat, Nat.reduceAdd, Nat.reduceEqDiff, Nat.reduceLT, Nat.reduceLeDiff, Nat.reduceMul, reduceCtorEq, Code.c12]
  refine bsl7 fun w1 n1 => ?_
  simp (disch := omega) only [wu64, wu32, wu8, fdiv_nn, EO, ↓EP, EQ, EM, ↓reduceIte, Int.reduceAdd, Int.reduceEq, Int.reduceLE, Int.reduceLT, Int.reduceMul, Int.reduceNeg, Int.reducePow, Int.reduceSub, Int.reduceToNat, Nat.reduceAdd, Nat.reduceEqDiff, Nat.reduceLT, Nat.reduceLeDiff, Nat.reduceMul, reduceCtorEq]
  refine l_split n1 _ fun ad c dA dc w2 fs hc hdr ct cd cc => ?_
  simp only [tup3]
  have f2 := (n1.fr nob).nb fs
  simp (disch := omega) only [wu64, wu32, wu8, fdiv_nn, EO, ↓EP, EQ, EM, ↓reduceIte, Int.reduceAdd, Int.reduceEq, Int.reduceLE, Int.reduceLT, Int.reduceMul, Int.reduceNeg, Int.reducePow, Int.reduceSub, Int.reduceToNat, Nat.reduceAdd, Nat.reduceEqDiff, Nat.reduceLT, Nat.reduceLeDiff, Nat.reduceMul, reduceCtorEq]
  refine num_vw _ ?_
  simp (disch := omega) only [wu64, wu32, wu8, fdiv_nn, EO, ↓EP, EQ, EM, ↓reduceIte, Int.reduceAdd, Int.reduceEq, Int.reduceLE, Int.reduceLT, Int.reduceMul, Int.reduceNeg, Int.reducePow, Int.reduceSub, Int.reduceToNat, Nat.reduceAdd, Nat.reduceEqDiff, Nat.reduceLT, Nat.reduceLeDiff, Nat.reduceMul, reduceCtorEq, ct, cd, cc, Bool.not_true, addr_add, i_cvbsJ]
  refine cvbs_k hdr rfl ?_
  simp (disch := omega) only [wu64, wu32, wu8, fdiv_nn, EO, ↓EP, EQ, EM, ↓reduceIte, Int.reduceAdd, Int.reduceEq, Int.reduceLE, Int.reduceLT, Int.reduceMul, Int.reduceNeg, Int.reducePow, Int.reduceSub, Int.reduceToNat, Nat.reduceAdd, Nat.reduceEqDiff, Nat.reduceLT, Nat.reduceLeDiff, Nat.reduceMul, reduceCtorEq, ct, cd, cc, Bool.not_true, addr_add, b_sneq, e_50]
  refine bsl2 fun w3 n3 => ?_
  simp (disch := omega) only [wu64, wu32, wu8, fdiv_nn, EO, ↓EP, EQ, EM, ↓reduceIte, Int.reduceAdd, Int.reduceEq, Int.reduceLE, Int.reduceLT, Int.reduceMul, Int.reduceNeg, Int.reducePow, Int.reduceSub, Int.reduceToNat, Nat.reduceAdd, Nat.reduceEqDiff, Nat.reduceLT, Nat.reduceLeDiff, Nat.reduceMul, reduceCtorEq]
  refine l_int n3 _ ?_
  simp only [pr2]
  simp (disch := omega) only [wu64, wu32, wu8, fdiv_nn, EO, ↓EP, EQ, EM, ↓reduceIte, Int.reduceAdd, Int.reduceEq, Int.reduceLE, Int.reduceLT, Int.reduceMul, Int.reduceNeg, Int.reducePow, Int.reduceSub, Int.reduceToNat, Nat.reduceAdd, Nat.reduceEqDiff, Nat.reduceLT, Nat.reduceLeDiff, Nat.reduceMul, reduceCtorEq]
  refine bsl3 fun w4 n4 => ?_
  have f4 := (f2.nb (n3.fr nob)).nb (n4.fr nob)
  simp (disch := omega) only [wu64, wu32, wu8, fdiv_nn, EO, ↓EP, EQ, EM, ↓reduceIte, Int.reduceAdd, Int.reduceEq, Int.reduceLE, Int.reduceLT, Int.reduceMul, Int.reduceNeg, Int.reducePow, Int.reduceSub, Int.reduceToNat, Nat.reduceAdd, Nat.reduceEqDiff, Nat.reduceLT, Nat.reduceLeDiff, Nat.reduceMul, reduceCtorEq]
  refine l_oid n4 (hT.nb f4) _ fun w5 f5 => ?_
  simp only [prs]
  simp (disch := omega) only [wu64, wu32, wu8, fdiv_nn, EO, ↓EP, EQ, EM, ↓reduceIte, Int.reduceAdd, Int.reduceEq, Int.reduceLE, Int.reduceLT, Int.reduceMul, Int.reduceNeg, Int.reducePow, Int.reduceSub, Int.reduceToNat, Nat.reduceAdd, Nat.reduceEqDiff, Nat.reduceLT, Nat.reduceLeDiff, Nat.reduceMul, reduceCtorEq]
  refine l_put _ fun A6 c6 w6 g6 => ?_
  have hr6 := g6.sl.rdOf
  simp only [pr2]
  simp (disch := omega) only [wu64, wu32, wu8, fdiv_nn, EO, ↓EP, EQ, EM, ↓reduceIte, Int.reduceAdd, Int.reduceEq, Int.reduceLE, Int.reduceLT, Int.reduceMul, Int.reduceNeg, Int.reducePow, Int.reduceSub, Int.reduceToNat, Nat.reduceAdd, Nat.reduceEqDiff, Nat.reduceLT, Nat.reduceLeDiff, Nat.reduceMul, reduceCtorEq]
  refine bsl2 fun w7 n7 => ?_
  simp (disch := omega) only [wu64, wu32, wu8, fdiv_nn, EO, ↓EP, EQ, EM, ↓reduceIte, Int.reduceAdd, Int.reduceEq, Int.reduceLE, Int.reduceLT, Int.reduceMul, Int.reduceNeg, Int.reducePow, Int.reduceSub, Int.reduceToNat, Nat.reduceAdd, Nat.reduceEqDiff, Nat.reduceLT, Nat.reduceLeDiff, Nat.reduceMul, reduceCtorEq]
  refine l_flags n7 _ fun w8 f8 => ?_
  simp only [pr2]
  simp (disch := omega) only [wu64, wu32, wu8, fdiv_nn, EO, ↓EP, EQ, EM, ↓reduceIte, Int.reduceAdd, Int.reduceEq, Int.reduceLE, Int.reduceLT, Int.reduceMul, Int.reduceNeg, Int.reducePow, Int.reduceSub, Int.reduceToNat, Nat.reduceAdd, Nat.reduceEqDiff, Nat.reduceLT, Nat.reduceLeDiff, Nat.reduceMul, reduceCtorEq]
  refine bsl1 fun w9 n9 => ?_
  simp (disch := omega) only [wu64, wu32, wu8, fdiv_nn, EO, ↓EP, EQ, EM, ↓reduceIte, Int.reduceAdd, Int.reduceEq, Int.reduceLE, Int.reduceLT, Int.reduceMul, Int.reduceNeg, Int.reducePow, Int.reduceSub, Int.reduceToNat, Nat.reduceAdd, Nat.reduceEqDiff, Nat.reduceLT, Nat.reduceLeDiff, Nat.reduceMul, reduceCtorEq]
  refine l_uint n9 _ fun v10 w10 f9 => ?_
  simp only [pr2]
  have f10 := (((((f4.nb f5).nb g6.fr).nb (n7.fr nob)).nb f8).nb (n9.fr nob)).nb f9
  have hr10 := hr6.nb (((n7.fr nob).nb f8).nb (n9.fr nob) |>.nb f9)
  simp (disch := omega) only [wu64, wu32, wu8, fdiv_nn, EO, ↓EP, EQ, EM, ↓reduceIte, Int.reduceAdd, Int.reduceEq, Int.reduceLE, Int.reduceLT, Int.reduceMul, Int.reduceNeg, Int.reducePow, Int.reduceSub, Int.reduceToNat, Nat.reduceAdd, Nat.reduceEqDiff, Nat.reduceLT, Nat.reduceLeDiff, Nat.reduceMul, reduceCtorEq]
  refine num_vw _ ?_
  simp (disch := omega) only [wu64, wu32, wu8, fdiv_nn, EO, ↓EP, EQ, EM, ↓reduceIte, Int.reduceAdd, Int.reduceEq, Int.reduceLE, Int.reduceLT, Int.reduceMul, Int.reduceNeg, Int.reducePow, Int.reduceSub, Int.reduceToNat, Nat.reduceAdd, Nat.reduceEqDiff, Nat.reduceLT, Nat.reduceLeDiff, Nat.reduceMul, reduceCtorEq]
  refine num_vw _ ?_
  simp (disch := omega) only [wu64, wu32, wu8, fdiv_nn, EO, ↓EP, EQ, EM, ↓reduceIte, Int.reduceAdd, Int.reduceEq, Int.reduceLE, Int.reduceLT, Int.reduceMul, Int.reduceNeg, Int.reducePow, Int.reduceSub, Int.reduceToNat, Nat.reduceAdd, Nat.reduceEqDiff, Nat.reduceLT, Nat.reduceLeDiff, Nat.reduceMul, reduceCtorEq]
  refine num_vw _ ?_
  simp (disch := omega) only [wu64, wu32, wu8, fdiv_nn, EO, ↓EP, EQ, EM, ↓reduceIte, Int.reduceAdd, Int.reduceEq, Int.reduceLE, Int.reduceLT, Int.reduceMul, Int.reduceNeg, Int.reducePow, Int.reduceSub, Int.reduceToNat, Nat.reduceAdd, Nat.reduceEqDiff, Nat.reduceLT, Nat.reduceLeDiff, Nat.reduceMul, reduceCtorEq]
  refine num_vw _ ?_
  simp (disch := omega) only [wu64, wu32, wu8, fdiv_nn, EO, ↓EP, EQ, EM, ↓reduceIte, Int.reduceAdd, Int.reduceEq, Int.reduceLE, Int.reduceLT, Int.reduceMul, Int.reduceNeg, Int.reducePow, Int.reduceSub, Int.reduceToNat, Nat.reduceAdd, Nat.reduceEqDiff, Nat.reduceLT, Nat.reduceLeDiff, Nat.reduceMul, reduceCtorEq, b_seql, e_oid, i_cvbsJ]
  refine cvbs_k hr10 rfl ?_
  simp (disch := omega) only [wu64, wu32, wu8, fdiv_nn, EO, ↓EP, EQ, EM, ↓reduceIte, Int.reduceAdd, Int.reduceEq, Int.reduceLE, Int.reduceLT, Int.reduceMul, Int.reduceNeg, Int.reducePow, Int.reduceSub, Int.reduceToNat, Nat.reduceAdd, Nat.reduceEqDiff, Nat.reduceLT, Nat.reduceLeDiff, Nat.reduceMul, reduceCtorEq, b_seql, e_put]
  refine num_vw _ ?_
  simp (disch := omega) only [wu64, wu32, wu8, fdiv_nn, EO, ↓EP, EQ, EM, ↓reduceIte, Int.reduceAdd, Int.reduceEq, Int.reduceLE, Int.reduceLT, Int.reduceMul, Int.reduceNeg, Int.reducePow, Int.reduceSub, Int.reduceToNat, Nat.reduceAdd, Nat.reduceEqDiff, Nat.reduceLT, Nat.reduceLeDiff, Nat.reduceMul, reduceCtorEq]
  exact hK w10 f10
end Go.Proofs.YtcflokckfjkdpaaDoor.Der
end
section
set_option linter.unusedVariables false
set_option linter.unusedSimpArgs false
namespace Go.Proofs.YtcflokckfjkdpaaDoor.Der
open Go Go.RowKit Go.Proofs Go.Proofs.YtcflokckfjkdpaaDoor.Eng Go.Proofs.YtcflokckfjkdpaaDoor.Code
set_option maxRecDepth 100000
attribute [local irreducible] callK S.W opsW scrW scrT
structure LV (w : World) (X : Value) (ls : List (List Int)) : Prop where
  ex : ∃ A c vs, X = .slice A ls.length c ∧ ls.length ≤ c ∧ Rd w A vs ∧ vs.length = ls.length ∧ ∀ (i : Nat) v l, vs[i]? = some v → ls[i]? = some l → Vw .u8 w v l
theorem LV.nb {w w' : World} {X : Value} {ls : List (List Int)} (h : LV w X ls) (f : Fr w w' nob) : LV w' X ls := by
  obtain ⟨A, c, vs, e, hc, hr, hv, he⟩ := h.ex
  refine ⟨A, c, vs, e, hc, hr.nb f, hv, fun i v l h1 h2 => ?_⟩
  obtain ⟨B, d, e2, hd, hB⟩ := he i v l h1 h2
  exact ⟨B, d, e2, hd, hB.nb f⟩
theorem LV.at {w : World} {A : Option Addr} {n c : Nat} {ls : List (List Int)} (h : LV w (.slice A n c) ls) {i : Nat} (hi : i < ls.length) : ∃ ad dA dc, A = some ad ∧ n = ls.length ∧ w.cell? (ad.add i) = some (.slice dA ls[i].length dc) ∧ ls[i].length ≤ dc ∧ Rd w dA (nums .u8 ls[i]) := by
  obtain ⟨A', c', vs, e, hc, hr, hv, he⟩ := h.ex
  cases e
  have hiv : i < vs.length := by omega
  obtain ⟨ad, ea, hcell⟩ := hr.at (List.getElem?_eq_getElem hiv)
  obtain ⟨dA, dc, e2, hdc, hdr⟩ := he i vs[i] ls[i] (List.getElem?_eq_getElem hiv) (List.getElem?_eq_getElem hi)
  rw [e2] at hcell
  exact ⟨ad, dA, dc, ea, rfl, hcell, hdc, hdr⟩
def tot (ls : List (List Int)) (j : Nat) : Nat := ((ls.take j).map List.length).sum
theorem take_one {α : Type} {ls : List α} {j : Nat} (h : j < ls.length) : ls.take (j + 1) = ls.take j ++ [ls[j]] := by
  rw [List.take_add_one, List.getElem?_eq_getElem h]; rfl
theorem sum_app (a b : List Nat) : (a ++ b).sum = a.sum + b.sum := by
  induction a with
  | nil => simp
  | cons x r ih => simp only [List.cons_append, List.sum_cons, ih]; omega
theorem tot_succ {ls : List (List Int)} {j : Nat} (h : j < ls.length) : tot ls (j + 1) = tot ls j + ls[j].length := by
  unfold tot
  rw [take_one h, List.map_append, sum_app]
  simp only [List.map_cons, List.map_nil, List.sum_cons, List.sum_nil, Nat.add_zero]
theorem tot_all (ls : List (List Int)) : tot ls ls.length = (ls.map List.length).sum := by simp [tot]
theorem tot_le (ls : List (List Int)) (j : Nat) : tot ls j ≤ (ls.map List.length).sum := by
  have : (ls.map List.length).sum = tot ls j + ((ls.drop j).map List.length).sum := by
    unfold tot
    rw [← sum_app, ← List.map_append, List.take_append_drop]
  omega
theorem flat_succ {ls : List (List Int)} {j : Nat} (h : j < ls.length) : (ls.take (j + 1)).flatten = (ls.take j).flatten ++ ls[j] := by
  rw [take_one h, List.flatten_append]; simp only [List.flatten_cons, List.flatten_nil, List.append_nil]
theorem flat_len (ls : List (List Int)) (j : Nat) : (ls.take j).flatten.length = tot ls j := by
  unfold tot; simp [List.length_flatten]
theorem or_hi : ∀ a : Nat, a < 8 → ∀ t : Nat, t < 32 → bits .or .u8 ((a * 32 : Nat) : Int) (t : Int) = ((a * 32 + t : Nat) : Int) := by decide +kernel
theorem first_or {a t : Int} (h0 : 0 ≤ a) (h1 : a < 256) (h2 : a % 32 = 0) (h3 : 0 ≤ t) (h4 : t < 32) : bits .or .u8 a t = a + t := by
  obtain ⟨a, rfl⟩ := Int.eq_ofNat_of_zero_le h0
  obtain ⟨t, rfl⟩ := Int.eq_ofNat_of_zero_le h3
  have := or_hi (a / 32) (by omega) t (by omega)
  rw [show a / 32 * 32 = a by omega] at this
  rw [this]; omega
theorem or_32n : ∀ a : Nat, a < 4 → bits .or .u8 ((a * 64 : Nat) : Int) 32 = ((a * 64 + 32 : Nat) : Int) := by decide +kernel
theorem cls_or {a : Int} (h0 : 0 ≤ a) (h1 : a ≤ 3) : bits .or .u8 (a * 64) 32 = a * 64 + 32 := by
  obtain ⟨a, rfl⟩ := Int.eq_ofNat_of_zero_le h0
  have := or_32n a (by omega)
  rw [show ((a : Int) * 64) = ((a * 64 : Nat) : Int) by omega, this]; omega
def firstR (cls : Int) (cons : Bool) : Int := cls * 64 + (if cons then 32 else 0)
theorem firstR_bd {cls : Int} {cons : Bool} (h0 : 0 ≤ cls) (h1 : cls ≤ 3) : 0 ≤ firstR cls cons ∧ firstR cls cons < 256 ∧ firstR cls cons % 32 = 0 := by
  unfold firstR
  cases cons <;> simp <;> omega
def headA (first tag : Int) : List Int := if tag < 31 then [first + tag] else (first + 31) :: sevenR tag.toNat
theorem headR_eq (cls tag : Int) (cons : Bool) (n : Nat) : headR cls tag cons n = headA (firstR cls cons) tag ++ lenBytes n := rfl
theorem headA_len (first tag : Int) : (headA first tag).length ≤ 12 := by
  unfold headA
  split
  · simp
  · have := seven_len tag.toNat
    simp; omega
theorem be_len : ∀ f n, (bytesBE f n).length ≤ f
  | 0, n => by simp [bytesBE]
  | f + 1, n => by
    rw [bytesBE]
    split
    · simp
    · have := be_len f (n / 256)
      simp; omega
theorem lenB_len (n : Nat) : (lenBytes n).length ≤ 5 := by
  unfold lenBytes
  split
  · simp
  · have := be_len 4 n
    simp; omega
theorem new_cap {w w' : World} {c : Nat} (n : New w w' (nums .u8 (List.replicate c 0))) : Gw .u8 w w' (.slice (some ⟨w.heap.size, 0, none⟩) 0 c) [] :=
  ⟨.inr ⟨w.heap.size, List.replicate c 0, by simp, by simpa using n.blk⟩, fun b e => by cases e; exact Nat.le_refl _, n.fr nob⟩
theorem strip_be {n : Nat} (h : n < 4294967296) : stripZ [((n / 16777216 % 256 : Nat) : Int), ((n / 65536 % 256 : Nat) : Int), ((n / 256 % 256 : Nat) : Int), ((n % 256 : Nat) : Int)] = bytesBE 4 n := by
  simp only [bytesBE, stripZ]
  by_cases h0 : n = 0
  · subst h0; rfl
  by_cases h1 : n / 256 = 0
  · have e1 : n / 16777216 % 256 = 0 := by omega
    have e2 : n / 65536 % 256 = 0 := by omega
    have e3 : n / 256 % 256 = 0 := by omega
    have e4 : n % 256 ≠ 0 := by omega
    simp [e1, e2, e3, e4, h0, h1]
    omega
  by_cases h2 : n / 256 / 256 = 0
  · have e1 : n / 16777216 % 256 = 0 := by omega
    have e2 : n / 65536 % 256 = 0 := by omega
    have e3 : n / 256 % 256 ≠ 0 := by omega
    rw [if_pos (by omega), if_pos (by omega), if_neg (by omega), if_neg h0, if_neg h1, if_pos h2]
    simp
  by_cases h3 : n / 256 / 256 / 256 = 0
  · have e1 : n / 16777216 % 256 = 0 := by omega
    have e2 : n / 65536 % 256 ≠ 0 := by omega
    rw [if_pos (by omega), if_neg (by omega), if_neg h0, if_neg h1, if_neg h2, if_pos h3]
    simp [Nat.div_div_eq_div_mul]
  · rw [if_neg (by omega), if_neg h0, if_neg h1, if_neg h2, if_neg h3]
    simp [Nat.div_div_eq_div_mul]
theorem trimb_all {w : World} {A : Option Addr} {c : Nat} {l : List Int} (hc : l.length ≤ c) (hr : Rd w A (nums .u8 l)) (h63 : l.length ≤ 9223372036854775807) (K : Value → World → Prop)
    (hK : ∀ A' c', (stripZ l).length ≤ c' → (∀ w2, Rd w2 A (nums .u8 l) → Rd w2 A' (nums .u8 (stripZ l))) → K (.slice A' (stripZ l).length c') w) : callK Tryd.prog 68 [.slice A l.length c, .int .u8 0] w K := by
  refine call_of Tryd.func68 Code.h68 (by simp [Code.c68]) ?_
  simp (disch := omega) only [wu64, wu32, wu8, fdiv_nn, EO, ↓EP, EQ, EM, ↓reduceIte, Int.reduceAdd, Int.reduceEq, Int.reduceLE, Int.reduceLT, Int.reduceMul, Int.reduceNeg, Int.reducePow, Int.reduceSub, Int.reduceToNat, Nat.reduceAdd, Nat.reduceEqDiff, Nat.reduceLT, Nat.reduceLeDiff, Nat.reduceMul, reduceCtorEq, Code.c68]
  refine loop_inv (fun t ρ w' => w' = w ∧ ∃ (A' : Option Addr) (c' : Nat) (l' : List Int), ρ 0 = .slice A' l'.length c' ∧ ρ 1 = .int .u8 0 ∧ l'.length ≤ c' ∧ l'.length ≤ l.length ∧ t = l'.length ∧ (∀ w2, Rd w2 A (nums .u8 l) → Rd w2 A' (nums .u8 l')) ∧ stripZ l' = stripZ l) _ ⟨rfl, A, c, l, by simp (disch := omega) only [wu64, wu32, wu8, fdiv_nn, EO, ↓EP, EQ, EM, ↓reduceIte, Int.reduceAdd, Int.reduceEq, Int.reduceLE, Int.reduceLT, Int.reduceMul, Int.reduceNeg, Int.reducePow, Int.reduceSub, Int.reduceToNat, Nat.reduceAdd, Nat.reduceEqDiff, Nat.reduceLT, Nat.reduceLeDiff, Nat.reduceMul, reduceCtorEq], by simp (disch := omega) only [wu64, wu32, wu8, fdiv_nn, EO, ↓EP, EQ, EM, ↓reduceIte, Int.reduceAdd, Int.reduceEq, Int.reduceLE, Int.reduceLT, Int.reduceMul, Int.reduceNeg, Int.reducePow, Int.reduceSub, Int.reduceToNat, Nat.reduceAdd, Nat.reduceEqDiff, Nat.reduceLT, Nat.reduceLeDiff, Nat.reduceMul, reduceCtorEq], hc, Nat.le_refl _, rfl, fun _ h => h, rfl⟩ ?_
  rintro t ρ w' hf ⟨rfl, A', c', l', h0, h1, hc', hll, rfl, hall, hs⟩ N hN
  have hr' := hall w' hr
  clear hf
  by_cases hl : l'.length = 0
  · have : l' = [] := List.length_eq_zero_iff.1 hl
    subst this
    simp (disch := omega) only [wu64, wu32, wu8, fdiv_nn, EO, ↓EP, EQ, EM, ↓reduceIte, Int.reduceAdd, Int.reduceEq, Int.reduceLE, Int.reduceLT, Int.reduceMul, Int.reduceNeg, Int.reducePow, Int.reduceSub, Int.reduceToNat, Nat.reduceAdd, Nat.reduceEqDiff, Nat.reduceLT, Nat.reduceLeDiff, Nat.reduceMul, reduceCtorEq, h0, h1, List.length_nil, Int.natCast_zero]
    rw [← hs] at hK
    exact hK none 0 (Nat.le_refl _) fun _ _ => .inl rfl
  · obtain ⟨ad, rfl, cell⟩ := pos_cells hr' (by omega)
    have c0 := cell 0 (by omega)
    rw [show ((0 : Nat) : Int) = 0 by rfl] at c0
    have hd := drop_at (show 0 < l'.length by omega)
    rw [List.drop_zero, show ((0 : Nat) : Int) = 0 by rfl] at hd
    by_cases hz : at' l' 0 = 0
    · simp (disch := omega) only [wu64, wu32, wu8, fdiv_nn, EO, ↓EP, EQ, EM, ↓reduceIte, Int.reduceAdd, Int.reduceEq, Int.reduceLE, Int.reduceLT, Int.reduceMul, Int.reduceNeg, Int.reducePow, Int.reduceSub, Int.reduceToNat, Nat.reduceAdd, Nat.reduceEqDiff, Nat.reduceLT, Nat.reduceLeDiff, Nat.reduceMul, reduceCtorEq, h0, h1, c0, hz]
      refine hN (l'.length - 1) _ _ (by omega) ⟨rfl, subA (some ad) c' 1 1, c' - 1, l'.drop 1, by simp (disch := omega) only [wu64, wu32, wu8, fdiv_nn, EO, ↓EP, EQ, EM, ↓reduceIte, Int.reduceAdd, Int.reduceEq, Int.reduceLE, Int.reduceLT, Int.reduceMul, Int.reduceNeg, Int.reducePow, Int.reduceSub, Int.reduceToNat, Nat.reduceAdd, Nat.reduceEqDiff, Nat.reduceLT, Nat.reduceLeDiff, Nat.reduceMul, reduceCtorEq, h0, List.length_drop], by simp (disch := omega) only [wu64, wu32, wu8, fdiv_nn, EO, ↓EP, EQ, EM, ↓reduceIte, Int.reduceAdd, Int.reduceEq, Int.reduceLE, Int.reduceLT, Int.reduceMul, Int.reduceNeg, Int.reducePow, Int.reduceSub, Int.reduceToNat, Nat.reduceAdd, Nat.reduceEqDiff, Nat.reduceLT, Nat.reduceLeDiff, Nat.reduceMul, reduceCtorEq, h1], by simp; omega, by simp; omega, by simp, fun w2 h2 => (hall w2 h2).subA c' 1 hc', ?_⟩
      rw [← hs, hd, stripZ, if_pos hz]; rfl
    · have hzf : (at' l' 0 = 0) = False := eq_false hz
      simp (disch := omega) only [wu64, wu32, wu8, fdiv_nn, EO, ↓EP, EQ, EM, ↓reduceIte, Int.reduceAdd, Int.reduceEq, Int.reduceLE, Int.reduceLT, Int.reduceMul, Int.reduceNeg, Int.reducePow, Int.reduceSub, Int.reduceToNat, Nat.reduceAdd, Nat.reduceEqDiff, Nat.reduceLT, Nat.reduceLeDiff, Nat.reduceMul, reduceCtorEq, h0, h1, c0, hzf]
      rw [← hs, hd, stripZ, if_neg hz, ← hd] at hK
      exact hK _ _ hc' hall
theorem trim_n {w : World} {A : Option Addr} {c : Nat} {l q : List Int} (hc : l.length ≤ c) (hr : Rd w A (nums .u8 l)) (h0 : 0 < l.length) (h63 : l.length ≤ 9223372036854775807) (hq : stripZ l = q) (K : Value → World → Prop)
    (hK : ∀ A' c', q.length ≤ c' → (∀ w2, Rd w2 A (nums .u8 l) → Rd w2 A' (nums .u8 q)) → K (.slice A' q.length c') w) : callK Tryd.prog 56 [.slice A l.length c, .string ⟨#[0]⟩] w K := by
  subst hq
  refine call_of Tryd.func56 Code.h56 (by simp [Code.c56]) ?_
  simp (disch := omega) only [wu64, wu32, wu8, fdiv_nn, EO, ↓EP, EQ, EM, ↓reduceIte, Int.reduceAdd, Int.reduceEq, Int.reduceLE, Int.reduceLT, Int.reduceMul, Int.reduceNeg, Int.reducePow, Int.reduceSub, Int.reduceToNat, Nat.reduceAdd, Nat.reduceEqDiff, Nat.reduceLT, Nat.reduceLeDiff, Nat.reduceMul, reduceCtorEq, Code.c56, eq_z0, sz_z, Int.natCast_one, ix_z]
  refine trimb_all hc hr h63 _ fun A' c' hc' hall => ?_
  simp (disch := omega) only [wu64, wu32, wu8, fdiv_nn, EO, ↓EP, EQ, EM, ↓reduceIte, Int.reduceAdd, Int.reduceEq, Int.reduceLE, Int.reduceLT, Int.reduceMul, Int.reduceNeg, Int.reducePow, Int.reduceSub, Int.reduceToNat, Nat.reduceAdd, Nat.reduceEqDiff, Nat.reduceLT, Nat.reduceLeDiff, Nat.reduceMul, reduceCtorEq]
  exact hK A' c' hc' hall
end Go.Proofs.YtcflokckfjkdpaaDoor.Der
end
section
set_option linter.unusedVariables false
set_option linter.unusedSimpArgs false
namespace Go.Proofs.YtcflokckfjkdpaaDoor.Der
open Go Go.RowKit Go.Proofs Go.Proofs.YtcflokckfjkdpaaDoor.Eng Go.Proofs.YtcflokckfjkdpaaDoor.Code
set_option maxRecDepth 100000
attribute [local irreducible] callK S.W opsW scrW scrT
set_option maxHeartbeats 4000000 in
theorem put_vw {w : World} {cls tag : Int} {cons : Bool} {X : Value} {ls : List (List Int)} (hX : LV w X ls) (hcl : -9223372036854775808 ≤ cls ∧ cls ≤ 9223372036854775807) (htg : -9223372036854775808 ≤ tag ∧ tag ≤ 9223372036854775807) (h63 : ls.length ≤ 9223372036854775807)
    (hl63 : ∀ l ∈ ls, l.length ≤ 9223372036854775807) (K : Value → World → Prop)
    (hK : ∀ v' w', Gw .u8 w w' v' (putR cls tag cons ls).1 → K (pr2 v' (putR cls tag cons ls).2) w') : callK Tryd.prog 31 [.int .i64 cls, .int .i64 tag, .bool cons, X] w K := by
  have hX0 := hX.ex
  obtain ⟨A, c, vs, rfl, hc, _⟩ := hX0
  refine call_of Tryd.func31 Code.h31 (by simp [Code.c31]) ?_
  unfold putR at hK
  by_cases hbad : cls < 0 ∨ 3 < cls ∨ tag < 0 ∨ 268435455 < tag ∨ (cls = 0 ∧ tag = 0)
  · rw [if_pos hbad] at hK
    have fin := hK _ w (Gw.nil .u8 w)
    by_cases b1 : cls < 0
    · simp (disch := omega) only [wu64, wu32, wu8, fdiv_nn, EO, ↓EP, EQ, EM, ↓reduceIte, Int.reduceAdd, Int.reduceEq, Int.reduceLE, Int.reduceLT, Int.reduceMul, Int.reduceNeg, Int.reducePow, Int.reduceSub, Int.reduceToNat, Nat.reduceAdd, Nat.reduceEqDiff, Nat.reduceLT, Nat.reduceLeDiff, Nat.reduceMul, reduceCtorEq, Code.c31]
      exact fin
    by_cases b2 : 3 < cls
    · simp (disch := omega) only [wu64, wu32, wu8, fdiv_nn, EO, ↓EP, EQ, EM, ↓reduceIte, Int.reduceAdd, Int.reduceEq, Int.reduceLE, Int.reduceLT, Int.reduceMul, Int.reduceNeg, Int.reducePow, Int.reduceSub, Int.reduceToNat, Nat.reduceAdd, Nat.reduceEqDiff, Nat.reduceLT, Nat.reduceLeDiff, Nat.reduceMul, reduceCtorEq, Code.c31]
      exact fin
    by_cases b3 : tag < 0
    · simp (disch := omega) only [wu64, wu32, wu8, fdiv_nn, EO, ↓EP, EQ, EM, ↓reduceIte, Int.reduceAdd, Int.reduceEq, Int.reduceLE, Int.reduceLT, Int.reduceMul, Int.reduceNeg, Int.reducePow, Int.reduceSub, Int.reduceToNat, Nat.reduceAdd, Nat.reduceEqDiff, Nat.reduceLT, Nat.reduceLeDiff, Nat.reduceMul, reduceCtorEq, Code.c31]
      exact fin
    by_cases b4 : 268435455 < tag
    · simp (disch := omega) only [wu64, wu32, wu8, fdiv_nn, EO, ↓EP, EQ, EM, ↓reduceIte, Int.reduceAdd, Int.reduceEq, Int.reduceLE, Int.reduceLT, Int.reduceMul, Int.reduceNeg, Int.reducePow, Int.reduceSub, Int.reduceToNat, Nat.reduceAdd, Nat.reduceEqDiff, Nat.reduceLT, Nat.reduceLeDiff, Nat.reduceMul, reduceCtorEq, Code.c31]
      exact fin
    have b5 : cls = 0 ∧ tag = 0 := by omega
    rw [b5.1, b5.2]
    simp (disch := omega) only [wu64, wu32, wu8, fdiv_nn, EO, ↓EP, EQ, EM, ↓reduceIte, Int.reduceAdd, Int.reduceEq, Int.reduceLE, Int.reduceLT, Int.reduceMul, Int.reduceNeg, Int.reducePow, Int.reduceSub, Int.reduceToNat, Nat.reduceAdd, Nat.reduceEqDiff, Nat.reduceLT, Nat.reduceLeDiff, Nat.reduceMul, reduceCtorEq, Code.c31]
    exact fin
  rw [if_neg hbad] at hK
  have hne : (cls + tag = 0) = False := eq_false (by omega)
  have hc0 : 0 ≤ cls ∧ cls ≤ 3 ∧ 0 ≤ tag ∧ tag ≤ 268435455 := by omega
  simp (disch := omega) only [wu64, wu32, wu8, fdiv_nn, EO, ↓EP, EQ, EM, ↓reduceIte, Int.reduceAdd, Int.reduceEq, Int.reduceLE, Int.reduceLT, Int.reduceMul, Int.reduceNeg, Int.reducePow, Int.reduceSub, Int.reduceToNat, Nat.reduceAdd, Nat.reduceEqDiff, Nat.reduceLT, Nat.reduceLeDiff, Nat.reduceMul, reduceCtorEq, Code.c31, hne]
  refine loop_inv (fun t ρ w' => w' = w ∧ ∃ j : Nat, ρ 40 = .int .i64 j ∧ ρ 10 = .int .i64 (tot ls j : Int) ∧ j ≤ ls.length ∧ t = ls.length - j ∧ tot ls j ≤ 16777216) ls.length ⟨rfl, 0, by simp (disch := omega) only [wu64, wu32, wu8, fdiv_nn, EO, ↓EP, EQ, EM, ↓reduceIte, Int.reduceAdd, Int.reduceEq, Int.reduceLE, Int.reduceLT, Int.reduceMul, Int.reduceNeg, Int.reducePow, Int.reduceSub, Int.reduceToNat, Nat.reduceAdd, Nat.reduceEqDiff, Nat.reduceLT, Nat.reduceLeDiff, Nat.reduceMul, reduceCtorEq], by simp (disch := omega) only [wu64, wu32, wu8, fdiv_nn, EO, ↓EP, EQ, EM, ↓reduceIte, Int.reduceAdd, Int.reduceEq, Int.reduceLE, Int.reduceLT, Int.reduceMul, Int.reduceNeg, Int.reducePow, Int.reduceSub, Int.reduceToNat, Nat.reduceAdd, Nat.reduceEqDiff, Nat.reduceLT, Nat.reduceLeDiff, Nat.reduceMul, reduceCtorEq]; rfl, by omega, by omega, by simp [tot]⟩ ?_
  rintro t ρ w' hf ⟨rfl, j, h40, h10, hj, rfl, htj⟩ N hN
  have r0 : ρ 0 = .int .i64 cls := by rw [hf 0 rfl]; simp (disch := omega) only [wu64, wu32, wu8, fdiv_nn, EO, ↓EP, EQ, EM, ↓reduceIte, Int.reduceAdd, Int.reduceEq, Int.reduceLE, Int.reduceLT, Int.reduceMul, Int.reduceNeg, Int.reducePow, Int.reduceSub, Int.reduceToNat, Nat.reduceAdd, Nat.reduceEqDiff, Nat.reduceLT, Nat.reduceLeDiff, Nat.reduceMul, reduceCtorEq]
  have r1 : ρ 1 = .int .i64 tag := by rw [hf 1 rfl]; simp (disch := omega) only [wu64, wu32, wu8, fdiv_nn, EO, ↓EP, EQ, EM, ↓reduceIte, Int.reduceAdd, Int.reduceEq, Int.reduceLE, Int.reduceLT, Int.reduceMul, Int.reduceNeg, Int.reducePow, Int.reduceSub, Int.reduceToNat, Nat.reduceAdd, Nat.reduceEqDiff, Nat.reduceLT, Nat.reduceLeDiff, Nat.reduceMul, reduceCtorEq]
  have r2 : ρ 2 = .bool cons := by rw [hf 2 rfl]; simp (disch := omega) only [wu64, wu32, wu8, fdiv_nn, EO, ↓EP, EQ, EM, ↓reduceIte, Int.reduceAdd, Int.reduceEq, Int.reduceLE, Int.reduceLT, Int.reduceMul, Int.reduceNeg, Int.reducePow, Int.reduceSub, Int.reduceToNat, Nat.reduceAdd, Nat.reduceEqDiff, Nat.reduceLT, Nat.reduceLeDiff, Nat.reduceMul, reduceCtorEq]
  have r3 : ρ 3 = .slice A ls.length c := by rw [hf 3 rfl]; simp (disch := omega) only [wu64, wu32, wu8, fdiv_nn, EO, ↓EP, EQ, EM, ↓reduceIte, Int.reduceAdd, Int.reduceEq, Int.reduceLE, Int.reduceLT, Int.reduceMul, Int.reduceNeg, Int.reducePow, Int.reduceSub, Int.reduceToNat, Nat.reduceAdd, Nat.reduceEqDiff, Nat.reduceLT, Nat.reduceLeDiff, Nat.reduceMul, reduceCtorEq]
  have r38 : ρ 38 = .slice A ls.length c := by rw [hf 38 rfl]; simp (disch := omega) only [wu64, wu32, wu8, fdiv_nn, EO, ↓EP, EQ, EM, ↓reduceIte, Int.reduceAdd, Int.reduceEq, Int.reduceLE, Int.reduceLT, Int.reduceMul, Int.reduceNeg, Int.reducePow, Int.reduceSub, Int.reduceToNat, Nat.reduceAdd, Nat.reduceEqDiff, Nat.reduceLT, Nat.reduceLeDiff, Nat.reduceMul, reduceCtorEq]
  have r39 : ρ 39 = .int .i64 ls.length := by rw [hf 39 rfl]; simp (disch := omega) only [wu64, wu32, wu8, fdiv_nn, EO, ↓EP, EQ, EM, ↓reduceIte, Int.reduceAdd, Int.reduceEq, Int.reduceLE, Int.reduceLT, Int.reduceMul, Int.reduceNeg, Int.reducePow, Int.reduceSub, Int.reduceToNat, Nat.reduceAdd, Nat.reduceEqDiff, Nat.reduceLT, Nat.reduceLeDiff, Nat.reduceMul, reduceCtorEq]
  clear hf
  by_cases hjl : (j : Int) < (ls.length : Int)
  · obtain ⟨ad, dA, dc, rfl, _, cj, hdc, _⟩ := hX.at (i := j) (by omega)
    have hlj := hl63 ls[j] (List.getElem_mem (by omega))
    have hts := tot_succ (ls := ls) (j := j) (by omega)
    by_cases hbig : 16777216 - (tot ls j : Int) < (ls[j].length : Int)
    · have htl := tot_le ls (j + 1)
      rw [if_pos (by omega)] at hK
      simp (disch := omega) only [wu64, wu32, wu8, fdiv_nn, EO, ↓EP, EQ, EM, ↓reduceIte, Int.reduceAdd, Int.reduceEq, Int.reduceLE, Int.reduceLT, Int.reduceMul, Int.reduceNeg, Int.reducePow, Int.reduceSub, Int.reduceToNat, Nat.reduceAdd, Nat.reduceEqDiff, Nat.reduceLT, Nat.reduceLeDiff, Nat.reduceMul, reduceCtorEq, W_join, h40, h10, r38, r39, cj]
      exact hK _ w' (Gw.nil .u8 w')
    · simp (disch := omega) only [wu64, wu32, wu8, fdiv_nn, EO, ↓EP, EQ, EM, ↓reduceIte, Int.reduceAdd, Int.reduceEq, Int.reduceLE, Int.reduceLT, Int.reduceMul, Int.reduceNeg, Int.reducePow, Int.reduceSub, Int.reduceToNat, Nat.reduceAdd, Nat.reduceEqDiff, Nat.reduceLT, Nat.reduceLeDiff, Nat.reduceMul, reduceCtorEq, W_join, h40, h10, r38, r39, cj]
      exact hN (ls.length - (j + 1)) _ _ (by omega) ⟨rfl, j + 1, by simp (disch := omega) only [wu64, wu32, wu8, fdiv_nn, EO, ↓EP, EQ, EM, ↓reduceIte, Int.reduceAdd, Int.reduceEq, Int.reduceLE, Int.reduceLT, Int.reduceMul, Int.reduceNeg, Int.reducePow, Int.reduceSub, Int.reduceToNat, Nat.reduceAdd, Nat.reduceEqDiff, Nat.reduceLT, Nat.reduceLeDiff, Nat.reduceMul, reduceCtorEq, h40, Int.natCast_add], by simp (disch := omega) only [wu64, wu32, wu8, fdiv_nn, EO, ↓EP, EQ, EM, ↓reduceIte, Int.reduceAdd, Int.reduceEq, Int.reduceLE, Int.reduceLT, Int.reduceMul, Int.reduceNeg, Int.reducePow, Int.reduceSub, Int.reduceToNat, Nat.reduceAdd, Nat.reduceEqDiff, Nat.reduceLT, Nat.reduceLeDiff, Nat.reduceMul, reduceCtorEq, h10, hts, Int.natCast_add], by omega, rfl, by omega⟩
  have hje : j = ls.length := by omega
  subst hje
  have hta := tot_all ls
  rw [hta] at h10 htj
  generalize hn : (ls.map List.length).sum = n at hK h10 htj hta
  rw [if_neg (by omega)] at hK
  clear hN
  have e6 : IntKind.u8.wrap (cls * 2 ^ 6) = cls * 64 := by
    rw [show (2 : Int) ^ 6 = 64 by decide]; exact wu8 (by omega) (by omega)
  have e6' : IntKind.i64.wrap (cls * 2 ^ 6) = cls * 2 ^ 6 := by
    rw [show (2 : Int) ^ 6 = 64 by decide]; exact w64 (by omega) (by omega)
  simp (disch := omega) only [wu64, wu32, wu8, fdiv_nn, EO, ↓EP, EQ, EM, ↓reduceIte, Int.reduceAdd, Int.reduceEq, Int.reduceLE, Int.reduceLT, Int.reduceMul, Int.reduceNeg, Int.reducePow, Int.reduceSub, Int.reduceToNat, Nat.reduceAdd, Nat.reduceEqDiff, Nat.reduceLT, Nat.reduceLeDiff, Nat.reduceMul, reduceCtorEq, W_joinT, h40, h10, r0, r38, r39, e6, e6']
  refine join_cut (fun ρ' w2 => w2 = w' ∧ ρ' 13 = .int .u8 (firstR cls cons)) ?_ ?_
  · intro N1 hN1
    cases cons
    · simp (disch := omega) only [wu64, wu32, wu8, fdiv_nn, EO, ↓EP, EQ, EM, ↓reduceIte, Int.reduceAdd, Int.reduceEq, Int.reduceLE, Int.reduceLT, Int.reduceMul, Int.reduceNeg, Int.reducePow, Int.reduceSub, Int.reduceToNat, Nat.reduceAdd, Nat.reduceEqDiff, Nat.reduceLT, Nat.reduceLeDiff, Nat.reduceMul, reduceCtorEq, r2]
      exact hN1 _ _ ⟨rfl, by simp (disch := omega) only [wu64, wu32, wu8, fdiv_nn, EO, ↓EP, EQ, EM, ↓reduceIte, Int.reduceAdd, Int.reduceEq, Int.reduceLE, Int.reduceLT, Int.reduceMul, Int.reduceNeg, Int.reducePow, Int.reduceSub, Int.reduceToNat, Nat.reduceAdd, Nat.reduceEqDiff, Nat.reduceLT, Nat.reduceLeDiff, Nat.reduceMul, reduceCtorEq, e6, e6']; unfold firstR; simp⟩
    · have eo := cls_or hc0.1 hc0.2.1
      simp (disch := omega) only [wu64, wu32, wu8, fdiv_nn, EO, ↓EP, EQ, EM, ↓reduceIte, Int.reduceAdd, Int.reduceEq, Int.reduceLE, Int.reduceLT, Int.reduceMul, Int.reduceNeg, Int.reducePow, Int.reduceSub, Int.reduceToNat, Nat.reduceAdd, Nat.reduceEqDiff, Nat.reduceLT, Nat.reduceLeDiff, Nat.reduceMul, reduceCtorEq, r2, e6, e6', eo]
      exact hN1 _ _ ⟨rfl, by simp (disch := omega) only [wu64, wu32, wu8, fdiv_nn, EO, ↓EP, EQ, EM, ↓reduceIte, Int.reduceAdd, Int.reduceEq, Int.reduceLE, Int.reduceLT, Int.reduceMul, Int.reduceNeg, Int.reducePow, Int.reduceSub, Int.reduceToNat, Nat.reduceAdd, Nat.reduceEqDiff, Nat.reduceLT, Nat.reduceLeDiff, Nat.reduceMul, reduceCtorEq, e6, e6', eo]; unfold firstR; simp⟩
  rintro ρ1 w1 hf1 ⟨rfl, g13⟩
  have q1 : ρ1 1 = .int .i64 tag := by rw [hf1 1 rfl]; simp (disch := omega) only [wu64, wu32, wu8, fdiv_nn, EO, ↓EP, EQ, EM, ↓reduceIte, Int.reduceAdd, Int.reduceEq, Int.reduceLE, Int.reduceLT, Int.reduceMul, Int.reduceNeg, Int.reducePow, Int.reduceSub, Int.reduceToNat, Nat.reduceAdd, Nat.reduceEqDiff, Nat.reduceLT, Nat.reduceLeDiff, Nat.reduceMul, reduceCtorEq, r1]
  have q3 : ρ1 3 = .slice A ls.length c := by rw [hf1 3 rfl]; simp (disch := omega) only [wu64, wu32, wu8, fdiv_nn, EO, ↓EP, EQ, EM, ↓reduceIte, Int.reduceAdd, Int.reduceEq, Int.reduceLE, Int.reduceLT, Int.reduceMul, Int.reduceNeg, Int.reducePow, Int.reduceSub, Int.reduceToNat, Nat.reduceAdd, Nat.reduceEqDiff, Nat.reduceLT, Nat.reduceLeDiff, Nat.reduceMul, reduceCtorEq, r3]
  have q10 : ρ1 10 = .int .i64 n := by rw [hf1 10 rfl]; simp (disch := omega) only [wu64, wu32, wu8, fdiv_nn, EO, ↓EP, EQ, EM, ↓reduceIte, Int.reduceAdd, Int.reduceEq, Int.reduceLE, Int.reduceLT, Int.reduceMul, Int.reduceNeg, Int.reducePow, Int.reduceSub, Int.reduceToNat, Nat.reduceAdd, Nat.reduceEqDiff, Nat.reduceLT, Nat.reduceLeDiff, Nat.reduceMul, reduceCtorEq, h10]
  clear hf1
  have hF := firstR_bd (cons := cons) hc0.1 hc0.2.1
  rw [headR_eq] at hK
  generalize firstR cls cons = F at g13 hF hK
  have en : ((n : Int) + 10).toNat = n + 10 := by omega
  simp (disch := omega) only [wu64, wu32, wu8, fdiv_nn, EO, ↓EP, EQ, EM, ↓reduceIte, Int.reduceAdd, Int.reduceEq, Int.reduceLE, Int.reduceLT, Int.reduceMul, Int.reduceNeg, Int.reducePow, Int.reduceSub, Int.reduceToNat, Nat.reduceAdd, Nat.reduceEqDiff, Nat.reduceLT, Nat.reduceLeDiff, Nat.reduceMul, reduceCtorEq, W_joinT, g13, q1, q3, q10, en]
  refine al_k (nums .u8 (List.replicate (n + 10) 0)) (by rw [madeCells_list, nums_replicate]) fun w2 n2 => ?_
  have g2 := new_cap n2
  simp (disch := omega) only [wu64, wu32, wu8, fdiv_nn, EO, ↓EP, EQ, EM, ↓reduceIte, Int.reduceAdd, Int.reduceEq, Int.reduceLE, Int.reduceLT, Int.reduceMul, Int.reduceNeg, Int.reducePow, Int.reduceSub, Int.reduceToNat, Nat.reduceAdd, Nat.reduceEqDiff, Nat.reduceLT, Nat.reduceLeDiff, Nat.reduceMul, reduceCtorEq, W_joinT, g13, q1, q3, q10, en]
  refine join_cut (fun ρ' w3 => ∃ B, ρ' 14 = B ∧ Gw .u8 w1 w3 B (headA F tag)) ?_ ?_
  · intro N1 hN1
    by_cases h31 : tag < 31
    · have eo := first_or hF.1 hF.2.1 hF.2.2 hc0.2.2.1 (show tag < 32 by omega)
      have eh : headA F tag = [F + tag] := if_pos h31
      simp (disch := omega) only [wu64, wu32, wu8, fdiv_nn, EO, ↓EP, EQ, EM, ↓reduceIte, Int.reduceAdd, Int.reduceEq, Int.reduceLE, Int.reduceLT, Int.reduceMul, Int.reduceNeg, Int.reducePow, Int.reduceSub, Int.reduceToNat, Nat.reduceAdd, Nat.reduceEqDiff, Nat.reduceLT, Nat.reduceLeDiff, Nat.reduceMul, reduceCtorEq, g13, q1, eo]
      refine bsl1 fun w3 n3 => ?_
      simp (disch := omega) only [wu64, wu32, wu8, fdiv_nn, EO, ↓EP, EQ, EM, ↓reduceIte, Int.reduceAdd, Int.reduceEq, Int.reduceLE, Int.reduceLT, Int.reduceMul, Int.reduceNeg, Int.reducePow, Int.reduceSub, Int.reduceToNat, Nat.reduceAdd, Nat.reduceEqDiff, Nat.reduceLT, Nat.reduceLeDiff, Nat.reduceMul, reduceCtorEq, g13, q1, eo]
      refine app_num (g2.new n3).sl rfl n3.rdv (by simp) (by omega) fun v4 w4 a4 => ?_
      have g4 := (g2.new n3).apd a4
      rw [List.nil_append, ← eh] at g4
      simp (disch := omega) only [wu64, wu32, wu8, fdiv_nn, EO, ↓EP, EQ, EM, ↓reduceIte, Int.reduceAdd, Int.reduceEq, Int.reduceLE, Int.reduceLT, Int.reduceMul, Int.reduceNeg, Int.reducePow, Int.reduceSub, Int.reduceToNat, Nat.reduceAdd, Nat.reduceEqDiff, Nat.reduceLT, Nat.reduceLeDiff, Nat.reduceMul, reduceCtorEq]
      exact hN1 _ _ ⟨v4, by simp (disch := omega) only [wu64, wu32, wu8, fdiv_nn, EO, ↓EP, EQ, EM, ↓reduceIte, Int.reduceAdd, Int.reduceEq, Int.reduceLE, Int.reduceLT, Int.reduceMul, Int.reduceNeg, Int.reducePow, Int.reduceSub, Int.reduceToNat, Nat.reduceAdd, Nat.reduceEqDiff, Nat.reduceLT, Nat.reduceLeDiff, Nat.reduceMul, reduceCtorEq], g4⟩
    · have eo := first_or hF.1 hF.2.1 hF.2.2 (show (0 : Int) ≤ 31 by omega) (by omega)
      have eh : headA F tag = [F + 31] ++ sevenR tag.toNat := if_neg h31
      have hs := seven_len tag.toNat
      have et : tag = ((tag.toNat : Nat) : Int) := by omega
      simp (disch := omega) only [wu64, wu32, wu8, fdiv_nn, EO, ↓EP, EQ, EM, ↓reduceIte, Int.reduceAdd, Int.reduceEq, Int.reduceLE, Int.reduceLT, Int.reduceMul, Int.reduceNeg, Int.reducePow, Int.reduceSub, Int.reduceToNat, Nat.reduceAdd, Nat.reduceEqDiff, Nat.reduceLT, Nat.reduceLeDiff, Nat.reduceMul, reduceCtorEq, g13, q1, eo]
      refine bsl1 fun w3 n3 => ?_
      simp (disch := omega) only [wu64, wu32, wu8, fdiv_nn, EO, ↓EP, EQ, EM, ↓reduceIte, Int.reduceAdd, Int.reduceEq, Int.reduceLE, Int.reduceLT, Int.reduceMul, Int.reduceNeg, Int.reducePow, Int.reduceSub, Int.reduceToNat, Nat.reduceAdd, Nat.reduceEqDiff, Nat.reduceLT, Nat.reduceLeDiff, Nat.reduceMul, reduceCtorEq, g13, q1, eo]
      refine app_num (g2.new n3).sl rfl n3.rdv (by simp) (by omega) fun v4 w4 a4 => ?_
      have g4 := (g2.new n3).apd a4
      rw [List.nil_append] at g4
      rw [et] at q1
      generalize tag.toNat = tn at *
      simp (disch := omega) only [wu64, wu32, wu8, fdiv_nn, EO, ↓EP, EQ, EM, ↓reduceIte, Int.reduceAdd, Int.reduceEq, Int.reduceLE, Int.reduceLT, Int.reduceMul, Int.reduceNeg, Int.reducePow, Int.reduceSub, Int.reduceToNat, Nat.reduceAdd, Nat.reduceEqDiff, Nat.reduceLT, Nat.reduceLeDiff, Nat.reduceMul, reduceCtorEq, q1]
      refine seven_vw (by omega) _ fun v5 w5 g5 => ?_
      obtain ⟨A5, c5, rfl, hc5, hr5⟩ := readn g5.sl rfl
      simp (disch := omega) only [wu64, wu32, wu8, fdiv_nn, EO, ↓EP, EQ, EM, ↓reduceIte, Int.reduceAdd, Int.reduceEq, Int.reduceLE, Int.reduceLT, Int.reduceMul, Int.reduceNeg, Int.reducePow, Int.reduceSub, Int.reduceToNat, Nat.reduceAdd, Nat.reduceEqDiff, Nat.reduceLT, Nat.reduceLeDiff, Nat.reduceMul, reduceCtorEq]
      refine app_num (g4.step g5.fr).sl rfl hr5 (by simp; omega) (by omega) fun v6 w6 a6 => ?_
      have g6 := (g4.step g5.fr).apd a6
      rw [← eh] at g6
      simp (disch := omega) only [wu64, wu32, wu8, fdiv_nn, EO, ↓EP, EQ, EM, ↓reduceIte, Int.reduceAdd, Int.reduceEq, Int.reduceLE, Int.reduceLT, Int.reduceMul, Int.reduceNeg, Int.reducePow, Int.reduceSub, Int.reduceToNat, Nat.reduceAdd, Nat.reduceEqDiff, Nat.reduceLT, Nat.reduceLeDiff, Nat.reduceMul, reduceCtorEq]
      exact hN1 _ _ ⟨v6, by simp (disch := omega) only [wu64, wu32, wu8, fdiv_nn, EO, ↓EP, EQ, EM, ↓reduceIte, Int.reduceAdd, Int.reduceEq, Int.reduceLE, Int.reduceLT, Int.reduceMul, Int.reduceNeg, Int.reducePow, Int.reduceSub, Int.reduceToNat, Nat.reduceAdd, Nat.reduceEqDiff, Nat.reduceLT, Nat.reduceLeDiff, Nat.reduceMul, reduceCtorEq], g6⟩
  rintro ρ2 w3 hf2 ⟨B, k14, g3⟩
  have q3' : ρ2 3 = .slice A ls.length c := by rw [hf2 3 rfl]; simp (disch := omega) only [wu64, wu32, wu8, fdiv_nn, EO, ↓EP, EQ, EM, ↓reduceIte, Int.reduceAdd, Int.reduceEq, Int.reduceLE, Int.reduceLT, Int.reduceMul, Int.reduceNeg, Int.reducePow, Int.reduceSub, Int.reduceToNat, Nat.reduceAdd, Nat.reduceEqDiff, Nat.reduceLT, Nat.reduceLeDiff, Nat.reduceMul, reduceCtorEq, q3]
  have q10' : ρ2 10 = .int .i64 n := by rw [hf2 10 rfl]; simp (disch := omega) only [wu64, wu32, wu8, fdiv_nn, EO, ↓EP, EQ, EM, ↓reduceIte, Int.reduceAdd, Int.reduceEq, Int.reduceLE, Int.reduceLT, Int.reduceMul, Int.reduceNeg, Int.reducePow, Int.reduceSub, Int.reduceToNat, Nat.reduceAdd, Nat.reduceEqDiff, Nat.reduceLT, Nat.reduceLeDiff, Nat.reduceMul, reduceCtorEq, q10]
  clear hf2
  have hal := headA_len F tag
  generalize headA F tag = H at g3 hal hK
  simp (disch := omega) only [wu64, wu32, wu8, fdiv_nn, EO, ↓EP, EQ, EM, ↓reduceIte, Int.reduceAdd, Int.reduceEq, Int.reduceLE, Int.reduceLT, Int.reduceMul, Int.reduceNeg, Int.reducePow, Int.reduceSub, Int.reduceToNat, Nat.reduceAdd, Nat.reduceEqDiff, Nat.reduceLT, Nat.reduceLeDiff, Nat.reduceMul, reduceCtorEq, W_joinT, k14, q3', q10']
  refine join_cut (fun ρ' w4 => ∃ B, ρ' 14 = B ∧ Gw .u8 w1 w4 B (H ++ lenBytes n)) ?_ ?_
  · intro N1 hN1
    by_cases h128 : (n : Int) < 128
    · have eh : lenBytes n = [(n : Int)] := if_pos (by omega)
      simp (disch := omega) only [wu64, wu32, wu8, fdiv_nn, EO, ↓EP, EQ, EM, ↓reduceIte, Int.reduceAdd, Int.reduceEq, Int.reduceLE, Int.reduceLT, Int.reduceMul, Int.reduceNeg, Int.reducePow, Int.reduceSub, Int.reduceToNat, Nat.reduceAdd, Nat.reduceEqDiff, Nat.reduceLT, Nat.reduceLeDiff, Nat.reduceMul, reduceCtorEq, k14, q10']
      refine bsl1 fun w4 n4 => ?_
      simp (disch := omega) only [wu64, wu32, wu8, fdiv_nn, EO, ↓EP, EQ, EM, ↓reduceIte, Int.reduceAdd, Int.reduceEq, Int.reduceLE, Int.reduceLT, Int.reduceMul, Int.reduceNeg, Int.reducePow, Int.reduceSub, Int.reduceToNat, Nat.reduceAdd, Nat.reduceEqDiff, Nat.reduceLT, Nat.reduceLeDiff, Nat.reduceMul, reduceCtorEq, k14, q10']
      refine app_num (g3.new n4).sl rfl n4.rdv (by simp; omega) (by omega) fun v5 w5 a5 => ?_
      have g5 := (g3.new n4).apd a5
      rw [← eh] at g5
      simp (disch := omega) only [wu64, wu32, wu8, fdiv_nn, EO, ↓EP, EQ, EM, ↓reduceIte, Int.reduceAdd, Int.reduceEq, Int.reduceLE, Int.reduceLT, Int.reduceMul, Int.reduceNeg, Int.reducePow, Int.reduceSub, Int.reduceToNat, Nat.reduceAdd, Nat.reduceEqDiff, Nat.reduceLT, Nat.reduceLeDiff, Nat.reduceMul, reduceCtorEq]
      exact hN1 _ _ ⟨v5, by simp (disch := omega) only [wu64, wu32, wu8, fdiv_nn, EO, ↓EP, EQ, EM, ↓reduceIte, Int.reduceAdd, Int.reduceEq, Int.reduceLE, Int.reduceLT, Int.reduceMul, Int.reduceNeg, Int.reducePow, Int.reduceSub, Int.reduceToNat, Nat.reduceAdd, Nat.reduceEqDiff, Nat.reduceLT, Nat.reduceLeDiff, Nat.reduceMul, reduceCtorEq], g5⟩
    · have eh : lenBytes n = [128 + ((bytesBE 4 n).length : Int)] ++ bytesBE 4 n := if_neg (by omega)
      have hbl := be_len 4 n
      have hst := strip_be (n := n) (by omega)
      have e24 : (n : Int) / 16777216 = ((n / 16777216 % 256 : Nat) : Int) := by omega
      have e16 : IntKind.u8.wrap ((n : Int) / 65536) = ((n / 65536 % 256 : Nat) : Int) := by rw [wu8_mod]; omega
      have e8 : IntKind.u8.wrap ((n : Int) / 256) = ((n / 256 % 256 : Nat) : Int) := by rw [wu8_mod]; omega
      have e0 : IntKind.u8.wrap (n : Int) = ((n % 256 : Nat) : Int) := by rw [wu8_mod]; omega
      simp (disch := omega) only [wu64, wu32, wu8, fdiv_nn, EO, ↓EP, EQ, EM, ↓reduceIte, Int.reduceAdd, Int.reduceEq, Int.reduceLE, Int.reduceLT, Int.reduceMul, Int.reduceNeg, Int.reducePow, Int.reduceSub, Int.reduceToNat, Nat.reduceAdd, Nat.reduceEqDiff, Nat.reduceLT, Nat.reduceLeDiff, Nat.reduceMul, reduceCtorEq, k14, q10', e24, e16, e8, e0]
      refine bsl4 fun w4 n4 => ?_
      simp (disch := omega) only [wu64, wu32, wu8, fdiv_nn, EO, ↓EP, EQ, EM, ↓reduceIte, Int.reduceAdd, Int.reduceEq, Int.reduceLE, Int.reduceLT, Int.reduceMul, Int.reduceNeg, Int.reducePow, Int.reduceSub, Int.reduceToNat, Nat.reduceAdd, Nat.reduceEqDiff, Nat.reduceLT, Nat.reduceLeDiff, Nat.reduceMul, reduceCtorEq, k14, q10']
      refine trim_n (l := [((n / 16777216 % 256 : Nat) : Int), ((n / 65536 % 256 : Nat) : Int), ((n / 256 % 256 : Nat) : Int), ((n % 256 : Nat) : Int)]) (Nat.le_refl _) n4.rdv (by simp) (by simp) hst _ fun A5 c5 hc5 hr5 => ?_
      generalize bytesBE 4 n = S5 at *
      have eo := d8_128or (a := (S5.length : Int)) ⟨by omega, by omega⟩
      have eo2 : (S5.length : Int) % 128 + 128 = 128 + (S5.length : Int) := by omega
      rw [eo2] at eo
      simp (disch := omega) only [wu64, wu32, wu8, fdiv_nn, EO, ↓EP, EQ, EM, ↓reduceIte, Int.reduceAdd, Int.reduceEq, Int.reduceLE, Int.reduceLT, Int.reduceMul, Int.reduceNeg, Int.reducePow, Int.reduceSub, Int.reduceToNat, Nat.reduceAdd, Nat.reduceEqDiff, Nat.reduceLT, Nat.reduceLeDiff, Nat.reduceMul, reduceCtorEq, k14, q10', eo]
      refine bsl1 fun w5 n5 => ?_
      simp (disch := omega) only [wu64, wu32, wu8, fdiv_nn, EO, ↓EP, EQ, EM, ↓reduceIte, Int.reduceAdd, Int.reduceEq, Int.reduceLE, Int.reduceLT, Int.reduceMul, Int.reduceNeg, Int.reducePow, Int.reduceSub, Int.reduceToNat, Nat.reduceAdd, Nat.reduceEqDiff, Nat.reduceLT, Nat.reduceLeDiff, Nat.reduceMul, reduceCtorEq, k14, q10', eo]
      refine app_num ((g3.new n4).new n5).sl rfl n5.rdv (by simp; omega) (by omega) fun v6 w6 a6 => ?_
      have g6 := ((g3.new n4).new n5).apd a6
      simp (disch := omega) only [wu64, wu32, wu8, fdiv_nn, EO, ↓EP, EQ, EM, ↓reduceIte, Int.reduceAdd, Int.reduceEq, Int.reduceLE, Int.reduceLT, Int.reduceMul, Int.reduceNeg, Int.reducePow, Int.reduceSub, Int.reduceToNat, Nat.reduceAdd, Nat.reduceEqDiff, Nat.reduceLT, Nat.reduceLeDiff, Nat.reduceMul, reduceCtorEq, k14]
      refine app_num g6.sl rfl (hr5 w6 (((n4.rdv).nb (n5.fr nob)).fr a6.fr (.inr fun p hp hb => by
        have h1 : p.block < w3.heap.size := g3.sl.lt hb
        have h2 : w3.heap.size = p.block := congrArg Addr.block (Option.some.inj hp)
        omega))) (by simp; omega) (by omega) fun v7 w7 a7 => ?_
      have g7 := g6.apd a7
      rw [List.append_assoc, ← eh] at g7
      simp (disch := omega) only [wu64, wu32, wu8, fdiv_nn, EO, ↓EP, EQ, EM, ↓reduceIte, Int.reduceAdd, Int.reduceEq, Int.reduceLE, Int.reduceLT, Int.reduceMul, Int.reduceNeg, Int.reducePow, Int.reduceSub, Int.reduceToNat, Nat.reduceAdd, Nat.reduceEqDiff, Nat.reduceLT, Nat.reduceLeDiff, Nat.reduceMul, reduceCtorEq]
      exact hN1 _ _ ⟨v7, by simp (disch := omega) only [wu64, wu32, wu8, fdiv_nn, EO, ↓EP, EQ, EM, ↓reduceIte, Int.reduceAdd, Int.reduceEq, Int.reduceLE, Int.reduceLT, Int.reduceMul, Int.reduceNeg, Int.reducePow, Int.reduceSub, Int.reduceToNat, Nat.reduceAdd, Nat.reduceEqDiff, Nat.reduceLT, Nat.reduceLeDiff, Nat.reduceMul, reduceCtorEq], g7⟩
  rintro ρ3 w4 hf3 ⟨B4, s14, g4⟩
  have s3 : ρ3 3 = .slice A ls.length c := by rw [hf3 3 rfl]; simp (disch := omega) only [wu64, wu32, wu8, fdiv_nn, EO, ↓EP, EQ, EM, ↓reduceIte, Int.reduceAdd, Int.reduceEq, Int.reduceLE, Int.reduceLT, Int.reduceMul, Int.reduceNeg, Int.reducePow, Int.reduceSub, Int.reduceToNat, Nat.reduceAdd, Nat.reduceEqDiff, Nat.reduceLT, Nat.reduceLeDiff, Nat.reduceMul, reduceCtorEq, q3']
  clear hf3
  have hll := lenB_len n
  generalize lenBytes n = L5 at *
  simp (disch := omega) only [wu64, wu32, wu8, fdiv_nn, EO, ↓EP, EQ, EM, ↓reduceIte, Int.reduceAdd, Int.reduceEq, Int.reduceLE, Int.reduceLT, Int.reduceMul, Int.reduceNeg, Int.reducePow, Int.reduceSub, Int.reduceToNat, Nat.reduceAdd, Nat.reduceEqDiff, Nat.reduceLT, Nat.reduceLeDiff, Nat.reduceMul, reduceCtorEq, s14, s3]
  refine loop_inv (fun t ρ5 w5 => ∃ (j : Nat) (C : Value), ρ5 113 = .int .i64 j ∧ ρ5 14 = C ∧ j ≤ ls.length ∧ t = ls.length - j ∧ Gw .u8 w1 w5 C (H ++ L5 ++ (ls.take j).flatten)) ls.length ⟨0, B4, by simp (disch := omega) only [wu64, wu32, wu8, fdiv_nn, EO, ↓EP, EQ, EM, ↓reduceIte, Int.reduceAdd, Int.reduceEq, Int.reduceLE, Int.reduceLT, Int.reduceMul, Int.reduceNeg, Int.reducePow, Int.reduceSub, Int.reduceToNat, Nat.reduceAdd, Nat.reduceEqDiff, Nat.reduceLT, Nat.reduceLeDiff, Nat.reduceMul, reduceCtorEq], by simp (disch := omega) only [wu64, wu32, wu8, fdiv_nn, EO, ↓EP, EQ, EM, ↓reduceIte, Int.reduceAdd, Int.reduceEq, Int.reduceLE, Int.reduceLT, Int.reduceMul, Int.reduceNeg, Int.reducePow, Int.reduceSub, Int.reduceToNat, Nat.reduceAdd, Nat.reduceEqDiff, Nat.reduceLT, Nat.reduceLeDiff, Nat.reduceMul, reduceCtorEq, s14], by omega, by omega, by simpa using g4⟩ ?_
  rintro t ρ5 w5 hf5 ⟨j, C, k113, k14', hj2, rfl, G⟩ N5 hN5
  have s111 : ρ5 111 = .slice A ls.length c := by rw [hf5 111 rfl]; simp (disch := omega) only [wu64, wu32, wu8, fdiv_nn, EO, ↓EP, EQ, EM, ↓reduceIte, Int.reduceAdd, Int.reduceEq, Int.reduceLE, Int.reduceLT, Int.reduceMul, Int.reduceNeg, Int.reducePow, Int.reduceSub, Int.reduceToNat, Nat.reduceAdd, Nat.reduceEqDiff, Nat.reduceLT, Nat.reduceLeDiff, Nat.reduceMul, reduceCtorEq, s3]
  have s112 : ρ5 112 = .int .i64 ls.length := by rw [hf5 112 rfl]; simp (disch := omega) only [wu64, wu32, wu8, fdiv_nn, EO, ↓EP, EQ, EM, ↓reduceIte, Int.reduceAdd, Int.reduceEq, Int.reduceLE, Int.reduceLT, Int.reduceMul, Int.reduceNeg, Int.reducePow, Int.reduceSub, Int.reduceToNat, Nat.reduceAdd, Nat.reduceEqDiff, Nat.reduceLT, Nat.reduceLeDiff, Nat.reduceMul, reduceCtorEq, s3]
  clear hf5
  by_cases hjl2 : (j : Int) < (ls.length : Int)
  · obtain ⟨ad, dA, dc, rfl, _, cj, hdc, hdr⟩ := (hX.nb G.fr).at (i := j) (by omega)
    have hts := tot_succ (ls := ls) (j := j) (by omega)
    have htl := tot_le ls (j + 1)
    have hfl := flat_len ls j
    simp (disch := omega) only [wu64, wu32, wu8, fdiv_nn, EO, ↓EP, EQ, EM, ↓reduceIte, Int.reduceAdd, Int.reduceEq, Int.reduceLE, Int.reduceLT, Int.reduceMul, Int.reduceNeg, Int.reducePow, Int.reduceSub, Int.reduceToNat, Nat.reduceAdd, Nat.reduceEqDiff, Nat.reduceLT, Nat.reduceLeDiff, Nat.reduceMul, reduceCtorEq, k113, k14', s111, s112, cj]
    refine app_num G.sl rfl hdr (by simp only [List.length_append]; omega) (by omega) fun v6 w6 a6 => ?_
    have g6 := G.apd a6
    rw [List.append_assoc, ← flat_succ (by omega)] at g6
    simp (disch := omega) only [wu64, wu32, wu8, fdiv_nn, EO, ↓EP, EQ, EM, ↓reduceIte, Int.reduceAdd, Int.reduceEq, Int.reduceLE, Int.reduceLT, Int.reduceMul, Int.reduceNeg, Int.reducePow, Int.reduceSub, Int.reduceToNat, Nat.reduceAdd, Nat.reduceEqDiff, Nat.reduceLT, Nat.reduceLeDiff, Nat.reduceMul, reduceCtorEq, k113]
    exact hN5 (ls.length - (j + 1)) _ _ (by omega) ⟨j + 1, v6, by simp (disch := omega) only [wu64, wu32, wu8, fdiv_nn, EO, ↓EP, EQ, EM, ↓reduceIte, Int.reduceAdd, Int.reduceEq, Int.reduceLE, Int.reduceLT, Int.reduceMul, Int.reduceNeg, Int.reducePow, Int.reduceSub, Int.reduceToNat, Nat.reduceAdd, Nat.reduceEqDiff, Nat.reduceLT, Nat.reduceLeDiff, Nat.reduceMul, reduceCtorEq, k113, Int.natCast_add], by simp (disch := omega) only [wu64, wu32, wu8, fdiv_nn, EO, ↓EP, EQ, EM, ↓reduceIte, Int.reduceAdd, Int.reduceEq, Int.reduceLE, Int.reduceLT, Int.reduceMul, Int.reduceNeg, Int.reducePow, Int.reduceSub, Int.reduceToNat, Nat.reduceAdd, Nat.reduceEqDiff, Nat.reduceLT, Nat.reduceLeDiff, Nat.reduceMul, reduceCtorEq], by omega, rfl, g6⟩
  · have hje : j = ls.length := by omega
    subst hje
    rw [List.take_of_length_le (Nat.le_refl _)] at G
    simp (disch := omega) only [wu64, wu32, wu8, fdiv_nn, EO, ↓EP, EQ, EM, ↓reduceIte, Int.reduceAdd, Int.reduceEq, Int.reduceLE, Int.reduceLT, Int.reduceMul, Int.reduceNeg, Int.reducePow, Int.reduceSub, Int.reduceToNat, Nat.reduceAdd, Nat.reduceEqDiff, Nat.reduceLT, Nat.reduceLeDiff, Nat.reduceMul, reduceCtorEq, k113, k14', s112]
    exact hK _ w5 G
end Go.Proofs.YtcflokckfjkdpaaDoor.Der
end
section
set_option linter.unusedVariables false
set_option linter.unusedSimpArgs false
namespace Go.Proofs.YtcflokckfjkdpaaDoor.Der
open Go Go.RowKit Go.Proofs Go.Proofs.YtcflokckfjkdpaaDoor.Eng Go.Proofs.YtcflokckfjkdpaaDoor.Code
set_option maxRecDepth 100000
attribute [local irreducible] callK S.W opsW scrW scrT
end Go.Proofs.YtcflokckfjkdpaaDoor.Der
end
section
set_option linter.unusedVariables false
set_option linter.unusedSimpArgs false
namespace Go.Proofs.YtcflokckfjkdpaaDoor.Der
open Go Go.RowKit Go.Proofs Go.Proofs.YtcflokckfjkdpaaDoor.Eng Go.Proofs.YtcflokckfjkdpaaDoor.Code
set_option maxRecDepth 100000
attribute [local irreducible] callK S.W opsW scrW scrT
structure Two (W w : World) (D : Value) (ld : List Int) (R : Value) (lr : List Int) : Prop where
  gd : Gw .u8 W w D ld
  gr : Gw .u8 W w R lr
  ap : ∀ b, blkOf D = some b → blkOf R ≠ some b
theorem Two.step {W w w' : World} {D R : Value} {ld lr : List Int} (t : Two W w D ld R lr) (f : Fr w w' nob) : Two W w' D ld R lr := ⟨t.gd.step f, t.gr.step f, t.ap⟩
end Go.Proofs.YtcflokckfjkdpaaDoor.Der
end
section
set_option linter.unusedVariables false
set_option linter.unusedSimpArgs false
namespace Go.Proofs.YtcflokckfjkdpaaDoor.Der
open Go Go.RowKit Go.Proofs Go.Proofs.YtcflokckfjkdpaaDoor.Eng Go.Proofs.YtcflokckfjkdpaaDoor.Code
set_option maxRecDepth 100000
attribute [local irreducible] callK S.W opsW scrW scrT
end Go.Proofs.YtcflokckfjkdpaaDoor.Der
end
section
set_option linter.unusedVariables false
set_option linter.unusedSimpArgs false
namespace Go.Proofs.YtcflokckfjkdpaaDoor.Spec
open Go Go.RowKit Go.Proofs Go.Proofs.YtcflokckfjkdpaaDoor.Eng Go.Proofs.YtcflokckfjkdpaaDoor.Code
set_option maxRecDepth 100000
theorem take_at {l r : List Int} {k : Nat} (h : l.take k = r.take k) (h1 : k < l.length) (h2 : k < r.length) (e : at' l k = at' r k) : l.take (k + 1) = r.take (k + 1) := by
  rw [List.take_add_one, List.take_add_one, h, List.getElem?_eq_getElem h1, List.getElem?_eq_getElem h2]
  simp [at', h1, h2] at e
  rw [e]
theorem same_spec {w : World} {A B : Option Addr} {n m c d : Nat} {l r : List Int} (hn : l.length = n) (hm : r.length = m) (hl : Rd w A (nums .u8 l)) (hr : Rd w B (nums .u8 r)) (h63 : n ≤ 4611686018427387904) (K : Value → World → Prop)
    (hK : ∀ w', Fr w w' nob → K (.bool (decide (l = r))) w') : callK Tryd.prog 18 [.slice A n c, .slice B m d] w K := by
  refine call_of Tryd.func18 Code.h18 (by simp [Code.c18]) ?_
  subst hn
  subst hm
  by_cases hlen : (l.length : Int) = (r.length : Int)
  · simp (disch := omega) only [EO, ↓EP, EQ, EM, ↓reduceIte, Int.reduceAdd, Int.reduceEq, Int.reduceLE, Int.reduceLT, Int.reduceMul, Int.reduceNeg, Int.reducePow, Int.reduceSub, Int.reduceToNat, Nat.reduceAdd, Nat.reduceEqDiff, Nat.reduceLT, Nat.reduceLeDiff, Nat.reduceMul, reduceCtorEq, Code.c18, hlen]
    refine loop_inv (fun t ρ w' => ∃ k : Nat, ρ 5 = .int .i64 k ∧ k ≤ r.length ∧ t = r.length - k ∧ l.take k = r.take k ∧ ∃ j, w' = w.drewN j) _ ⟨0, by simp (disch := omega) only [EO, ↓EP, EQ, EM, ↓reduceIte, Int.reduceAdd, Int.reduceEq, Int.reduceLE, Int.reduceLT, Int.reduceMul, Int.reduceNeg, Int.reducePow, Int.reduceSub, Int.reduceToNat, Nat.reduceAdd, Nat.reduceEqDiff, Nat.reduceLT, Nat.reduceLeDiff, Nat.reduceMul, reduceCtorEq], by omega, rfl, by simp, 0, rfl⟩ ?_
    rintro t ρ w' hf ⟨k, h5, hk, rfl, ht, j, rfl⟩ N hN
    have r0 : ρ 0 = .slice A l.length c := by rw [hf 0 rfl]; simp only [↓EP, EQ, EM, ↓reduceIte, Int.reduceAdd, Int.reduceEq, Int.reduceLE, Int.reduceLT, Int.reduceMul, Int.reduceNeg, Int.reducePow, Int.reduceSub, Int.reduceToNat, Nat.reduceAdd, Nat.reduceEqDiff, Nat.reduceLT, Nat.reduceLeDiff, Nat.reduceMul, reduceCtorEq]
    have r1 : ρ 1 = .slice B r.length d := by rw [hf 1 rfl]; simp only [↓EP, EQ, EM, ↓reduceIte, Int.reduceAdd, Int.reduceEq, Int.reduceLE, Int.reduceLT, Int.reduceMul, Int.reduceNeg, Int.reducePow, Int.reduceSub, Int.reduceToNat, Nat.reduceAdd, Nat.reduceEqDiff, Nat.reduceLT, Nat.reduceLeDiff, Nat.reduceMul, reduceCtorEq]
    clear hf
    by_cases hkl : (k : Int) < (r.length : Int)
    · obtain ⟨p, rfl, _, hp⟩ := hl.get (by rw [nums_length]; omega)
      obtain ⟨q, rfl, _, hq⟩ := hr.get (by rw [nums_length]; omega)
      have cp := hp.numN (j := k) (by omega)
      have cq := hq.numN (j := k) (by omega)
      by_cases he : at' l k = at' r k
      · simp (disch := omega) only [EO, ↓EP, EQ, EM, ↓reduceIte, Int.reduceAdd, Int.reduceEq, Int.reduceLE, Int.reduceLT, Int.reduceMul, Int.reduceNeg, Int.reducePow, Int.reduceSub, Int.reduceToNat, Nat.reduceAdd, Nat.reduceEqDiff, Nat.reduceLT, Nat.reduceLeDiff, Nat.reduceMul, reduceCtorEq, h5, r0, r1, hlen, cp, cq, he]
        intro m
        exact hN (r.length - (k + 1)) _ _ (by omega) ⟨k + 1, by simp (disch := omega) only [EO, ↓EP, EQ, EM, ↓reduceIte, Int.reduceAdd, Int.reduceEq, Int.reduceLE, Int.reduceLT, Int.reduceMul, Int.reduceNeg, Int.reducePow, Int.reduceSub, Int.reduceToNat, Nat.reduceAdd, Nat.reduceEqDiff, Nat.reduceLT, Nat.reduceLeDiff, Nat.reduceMul, reduceCtorEq, h5, Int.natCast_add], by omega, rfl, take_at ht (by omega) (by omega) he, _, rfl⟩
      · have hf : (at' l k = at' r k) = False := eq_false he
        simp (disch := omega) only [EO, ↓EP, EQ, EM, ↓reduceIte, Int.reduceAdd, Int.reduceEq, Int.reduceLE, Int.reduceLT, Int.reduceMul, Int.reduceNeg, Int.reducePow, Int.reduceSub, Int.reduceToNat, Nat.reduceAdd, Nat.reduceEqDiff, Nat.reduceLT, Nat.reduceLeDiff, Nat.reduceMul, reduceCtorEq, h5, r0, r1, hlen, cp, cq, hf]
        intro m
        have hne : decide (l = r) = false := decide_eq_false fun e => he (by rw [e])
        have := hK (w.drewN (j + m)) (Fr.drewN w _ _)
        rwa [hne] at this
    · simp (disch := omega) only [EO, ↓EP, EQ, EM, ↓reduceIte, Int.reduceAdd, Int.reduceEq, Int.reduceLE, Int.reduceLT, Int.reduceMul, Int.reduceNeg, Int.reducePow, Int.reduceSub, Int.reduceToNat, Nat.reduceAdd, Nat.reduceEqDiff, Nat.reduceLT, Nat.reduceLeDiff, Nat.reduceMul, reduceCtorEq, h5, r0, hlen]
      have hall : l = r := by
        have hkr : k = r.length := by omega
        subst hkr
        rwa [List.take_of_length_le (by omega), List.take_of_length_le (Nat.le_refl _)] at ht
      have := hK (w.drewN j) (Fr.drewN w _ _)
      rwa [decide_eq_true hall] at this
  · have hne : decide (l = r) = false := decide_eq_false fun e => hlen (by rw [e])
    have hf : ((l.length : Int) = (r.length : Int)) = False := eq_false hlen
    simp (disch := omega) only [EO, ↓EP, EQ, EM, ↓reduceIte, Int.reduceAdd, Int.reduceEq, Int.reduceLE, Int.reduceLT, Int.reduceMul, Int.reduceNeg, Int.reducePow, Int.reduceSub, Int.reduceToNat, Nat.reduceAdd, Nat.reduceEqDiff, Nat.reduceLT, Nat.reduceLeDiff, Nat.reduceMul, reduceCtorEq, Code.c18, hf]
    have := hK w (Fr.refl _ _)
    rwa [hne] at this
theorem same_t {w : World} {A B : Option Addr} {n m c d : Nat} {l : List Int} (hn : l.length = n) (hm : l.length = m) (hl : Rd w A (nums .u8 l)) (hr : Rd w B (nums .u8 l)) (h63 : n ≤ 4611686018427387904) (K : Value → World → Prop)
    (hK : ∀ w', Fr w w' nob → K (.bool true) w') : callK Tryd.prog 18 [.slice A n c, .slice B m d] w K :=
  same_spec hn hm hl hr h63 K fun w' f => by
    have := hK w' f
    have e : decide (l = l) = true := decide_eq_true rfl
    rwa [e]
end Go.Proofs.YtcflokckfjkdpaaDoor.Spec
end
section
set_option linter.unusedVariables false
set_option linter.unusedSimpArgs false
namespace Go.Proofs.YtcflokckfjkdpaaDoor.Spec
open Go Go.RowKit Go.Proofs Go.Proofs.YtcflokckfjkdpaaDoor.Eng Go.Proofs.YtcflokckfjkdpaaDoor.Code
set_option maxRecDepth 100000
structure Lnt (k : IntKind) (w0 w : World) (v : Value) (l : List Int) (x y : Int) : Prop where
  ex : ∃ b pad, v = .slice (some ⟨b, 0, none⟩) l.length (l.length + (2 + pad.length)) ∧ Blk w b (nums k (l ++ [x, y] ++ pad)) ∧ w0.heap.size ≤ b
theorem Lnt.fr {k : IntKind} {w0 w w' : World} {v : Value} {l : List Int} {x y : Int} (h : Lnt k w0 w v l x y) {P : Nat → Prop} (f : Fr w w' P) (hp : ∀ b, blkOf v = some b → ¬ P b) : Lnt k w0 w' v l x y := by
  obtain ⟨b, pad, rfl, hB, hb⟩ := h.ex
  exact ⟨b, pad, rfl, hB.fr f (hp b rfl), hb⟩
theorem Lnt.read {k : IntKind} {w0 w : World} {v : Value} {l : List Int} {x y : Int} (h : Lnt k w0 w v l x y) : ∃ b c, v = .slice (some ⟨b, 0, none⟩) l.length c ∧ l.length + 2 ≤ c ∧ w0.heap.size ≤ b ∧ Rd w (some ⟨b, 0, none⟩) (nums k l) := by
  obtain ⟨b, pad, rfl, hB, hb⟩ := h.ex
  exact ⟨b, _, rfl, by omega, hb, hB.rd 0 (n := l.length) (by rw [List.drop_zero, nums_take]; simp)⟩
end Go.Proofs.YtcflokckfjkdpaaDoor.Spec
end
section
set_option linter.unusedVariables false
set_option linter.unusedSimpArgs false
namespace Go.Proofs.YtcflokckfjkdpaaDoor.Spec
open Go Go.RowKit Go.Proofs Go.Proofs.YtcflokckfjkdpaaDoor.Eng Go.Proofs.YtcflokckfjkdpaaDoor.Code
set_option maxRecDepth 100000
theorem Lnt.nb {k : IntKind} {w0 w w' : World} {v : Value} {l : List Int} {x y : Int} (h : Lnt k w0 w v l x y) (f : Fr w w' nob) : Lnt k w0 w' v l x y := h.fr f fun _ _ x => x
theorem Lnt.from {k : IntKind} {w0 w1 w : World} {v : Value} {l : List Int} {x y : Int} (h : Lnt k w1 w v l x y) (f : w0.heap.size ≤ w1.heap.size) : Lnt k w0 w v l x y := by
  obtain ⟨b, pad, rfl, hB, hb⟩ := h.ex
  exact ⟨b, pad, rfl, hB, by omega⟩
structure Lnts (w0 w : World) (X : Value) (l : List (List Int)) (vs : List Value) : Prop where
  g : Gg 1 w0 w X vs.length vs
  len : vs.length = l.length
  each : ∀ (i : Nat) (p : List Int) (v : Value), l[i]? = some p → vs[i]? = some v → Lnt .u8 w0 w v p 90 165
  sep : ∀ (i : Nat) (v : Value) (b : Nat), vs[i]? = some v → blkOf v = some b → blkOf X ≠ some b ∧ b < w.heap.size
theorem Lnts.nil (w : World) : Lnts w w (.slice none 0 0) [] [] :=
  ⟨Gg.nil 1 w, rfl, fun i p v h => by simp at h, fun i v b h => by simp at h⟩
theorem Lnts.nb {w0 w w' : World} {X : Value} {l : List (List Int)} {vs : List Value} (h : Lnts w0 w X l vs) (f : Fr w w' nob) : Lnts w0 w' X l vs :=
  ⟨h.g.step f, h.len, fun i p v h1 h2 => (h.each i p v h1 h2).fr f fun _ _ x => x, fun i v b h1 h2 => ⟨(h.sep i v b h1 h2).1, Nat.lt_of_lt_of_le (h.sep i v b h1 h2).2 f.size⟩⟩
theorem Lnts.add {w0 w w' : World} {X X' v : Value} {l : List (List Int)} {p : List Int} {vs : List Value} (h : Lnts w0 w X l vs) (hv : Lnt .u8 w0 w v p 90 165) (hs : ∀ b, blkOf v = some b → blkOf X ≠ some b) (a : Ag 1 w X (vs.length + 1) (vs ++ [v]) X' w') : Lnts w0 w' X' (l ++ [p]) (vs ++ [v]) := by
  have hvl : ∀ b, blkOf v = some b → b < w.heap.size := fun b e => by
    obtain ⟨b', pad, rfl, hB, _⟩ := hv.ex
    cases e; exact hB.lt
  have hX : ∀ b, b < w.heap.size → blkOf X ≠ some b → blkOf X' ≠ some b := fun b hb hn e => by
    rcases a.where_ with h | h
    · exact hn (h ▸ e)
    · have := h b e; omega
  refine ⟨?_, by simp [h.len], fun i q u h1 h2 => ?_, fun i u b h1 h2 => ?_⟩
  · rw [List.length_append]; exact h.g.apd a
  · by_cases hi : i < l.length
    · rw [List.getElem?_append_left hi] at h1
      rw [List.getElem?_append_left (by rw [h.len]; exact hi)] at h2
      exact (h.each i q u h1 h2).fr a.fr fun b e => (h.sep i u b h2 e).1
    · have hi' : i = l.length := by
        have := (List.getElem?_eq_some_iff.1 h1).1
        simp at this; omega
      subst hi'
      rw [List.getElem?_append_right (Nat.le_refl _)] at h1
      rw [List.getElem?_append_right (by rw [h.len]; exact Nat.le_refl _), h.len] at h2
      simp at h1 h2
      subst h1; subst h2
      exact hv.fr a.fr fun b e => hs b e
  · have hsz := a.fr.size
    by_cases hi : i < vs.length
    · rw [List.getElem?_append_left hi] at h1
      have := h.sep i u b h1 h2
      exact ⟨hX b this.2 this.1, by omega⟩
    · rw [List.getElem?_append_right (by omega)] at h1
      have h1' : u = v := by
        have := List.mem_of_getElem? h1
        simpa using this
      subst h1'
      have := hvl b h2
      exact ⟨hX b this (hs b h2), by omega⟩
end Go.Proofs.YtcflokckfjkdpaaDoor.Spec
end
section
set_option linter.unusedVariables false
set_option linter.unusedSimpArgs false
namespace Go.Proofs.YtcflokckfjkdpaaDoor.Der
open Go Go.RowKit Go.Proofs Go.Proofs.YtcflokckfjkdpaaDoor.Eng Go.Proofs.YtcflokckfjkdpaaDoor.Code
set_option maxRecDepth 100000
attribute [local irreducible] callK S.W opsW scrW scrT
end Go.Proofs.YtcflokckfjkdpaaDoor.Der
end
section
set_option linter.unusedVariables false
set_option linter.unusedSimpArgs false
namespace Go.Proofs.YtcflokckfjkdpaaDoor.Der
open Go Go.RowKit Go.Proofs.YtcflokckfjkdpaaDoor.Eng
theorem at_drop0 (b : List Int) (p : Nat) : at' (b.drop p) 0 = at' b (p : Int) := by
  simp [at', List.getD_eq_getElem?_getD]
theorem sevenHi_go : ∀ (f v : Nat), v < 128 ^ f → 0 < v → v ≤ 268435455 → ∀ (rest : List Int) (i : Nat), tagGo (sevenHi f v ++ rest) true 0 i = tagGo rest false (v : Int) (i + (sevenHi f v).length)
  | 0, v, h, h0, _, _, _ => by simp at h; omega
  | f + 1, v, h, h0, hm, rest, i => by
    rw [sevenHi, if_neg (by omega)]
    by_cases hz : v / 128 = 0
    · rw [hz, sevenHi_z, List.nil_append, List.singleton_append, tagGo, if_neg (by omega), if_neg (by omega)]
      simp only [List.length_cons, List.length_nil]
      congr 1; omega
    · rw [List.append_assoc, sevenHi_go f (v / 128) (by rw [Nat.pow_succ] at h; omega) (by omega) (by omega), List.singleton_append, tagGo, if_neg (by simp; omega), if_neg (by omega)]
      simp only [List.length_append, List.length_cons, List.length_nil]
      congr 1 <;> omega
theorem seven_go {v : Nat} (h : 31 ≤ v) (hm : v ≤ 268435455) (rest : List Int) (i : Nat) : tagGo (sevenR v ++ rest) true 0 i = ((v : Int), i + (sevenR v).length, 0, 0) := by
  unfold sevenR
  by_cases hz : v / 128 = 0
  · rw [hz, sevenHi_z, List.nil_append, List.singleton_append, tagGo, if_neg (by omega), if_pos (by omega)]
    simp only [List.length_cons, List.length_nil, Prod.mk.injEq, and_true, true_and]
    omega
  · rw [List.append_assoc, sevenHi_go 10 (v / 128) (by omega) (by omega) (by omega), List.singleton_append, tagGo, if_neg (by simp; omega), if_pos (by omega)]
    simp only [List.length_append, List.length_cons, List.length_nil, Prod.mk.injEq, and_true, true_and]
    omega
theorem tag_put {b rest : List Int} {p : Nat} {cls tag : Int} {cons : Bool} (h : b.drop p = headA (firstR cls cons) tag ++ rest) (h0 : 0 ≤ cls ∧ cls ≤ 3) (h1 : 0 ≤ tag ∧ tag ≤ 268435455) (hz : ¬ (cls = 0 ∧ tag = 0)) :
    tagR b p = (tag, p + (headA (firstR cls cons) tag).length, 0, 0) ∧ at' b (p : Int) / 64 = cls ∧ decide (at' b (p : Int) / 32 % 2 = 1) = cons := by
  have hF : firstR cls cons = cls * 64 + (if cons then 32 else 0) := rfl
  have hd : b.drop (p + 1) = (b.drop p).drop 1 := by simp
  by_cases h31 : tag < 31
  · have eh : headA (firstR cls cons) tag = [firstR cls cons + tag] := if_pos h31
    have ea : at' b (p : Int) = firstR cls cons + tag := by rw [← at_drop0, h, eh]; rfl
    rw [eh, ea, tagR, ea, if_neg (by cases cons <;> simp [hF] <;> omega), if_neg (by cases cons <;> simp [hF] <;> omega)]
    refine ⟨?_, by cases cons <;> simp [hF] <;> omega, by cases cons <;> simp [hF] <;> omega⟩
    simp only [List.length_cons, List.length_nil, Prod.mk.injEq, and_true, true_and]
    cases cons <;> simp [hF] <;> omega
  · have eh : headA (firstR cls cons) tag = (firstR cls cons + 31) :: sevenR tag.toNat := if_neg h31
    have ea : at' b (p : Int) = firstR cls cons + 31 := by rw [← at_drop0, h, eh]; rfl
    rw [eh, ea, tagR, ea, if_pos (by cases cons <;> simp [hF] <;> omega), hd, h, eh, List.cons_append, List.drop_succ_cons, List.drop_zero, seven_go (by omega) (by omega)]
    refine ⟨?_, by cases cons <;> simp [hF] <;> omega, by cases cons <;> simp [hF] <;> omega⟩
    simp only [List.length_cons, Prod.mk.injEq, and_true, true_and]
    omega
theorem be_z (f : Nat) : bytesBE f 0 = [] := by cases f <;> rfl
theorem be_val : ∀ (f n : Nat), n < 256 ^ f → n ≤ 16777217 → lenFold (bytesBE f n) = n
  | 0, n, h, _ => by simp at h; subst h; rfl
  | f + 1, n, h, hm => by
    rw [bytesBE]
    split
    · rename_i hz; subst hz; rfl
    · rw [fold_snoc, be_val f (n / 256) (by rw [Nat.pow_succ] at h; omega) (by omega), sat, if_neg (by omega)]
      omega
theorem be_head : ∀ (f n : Nat), n < 256 ^ f → n ≠ 0 → at' (bytesBE f n) 0 ≠ 0 ∧ 0 < (bytesBE f n).length
  | 0, n, h, h0 => by simp at h; omega
  | f + 1, n, h, h0 => by
    rw [bytesBE, if_neg h0]
    by_cases hz : n / 256 = 0
    · rw [hz, be_z, List.nil_append]
      refine ⟨?_, by simp⟩
      show ((n % 256 : Nat) : Int) ≠ 0
      omega
    · obtain ⟨h1, h2⟩ := be_head f (n / 256) (by rw [Nat.pow_succ] at h; omega) hz
      refine ⟨?_, by simp⟩
      cases hb : bytesBE f (n / 256) with
      | nil => rw [hb] at h2; simp at h2
      | cons x r => rw [hb] at h1; exact h1
theorem len_put {b rest : List Int} {i n : Nat} (h : b.drop i = lenBytes n ++ rest) (hn : n ≤ rest.length) (hm : n ≤ 16777216) : lenR b i = ((n : Int), i + (lenBytes n).length, 0, 0) := by
  have hl := congrArg List.length h
  have ha := at_drop0 b i
  have ha1 := at_drop0 b (i + 1)
  rw [show b.drop (i + 1) = (b.drop i).drop 1 by simp, h] at ha1
  rw [h] at ha
  have hd : b.drop (i + 1) = (b.drop i).drop 1 := by simp
  rw [h] at hd
  rw [List.length_drop, List.length_append] at hl
  by_cases h128 : n < 128
  · have eh : lenBytes n = [(n : Int)] := if_pos h128
    have ea : at' b (i : Int) = n := by rw [← ha, eh]; rfl
    rw [eh] at hl ⊢
    simp only [List.length_cons, List.length_nil] at hl ⊢
    rw [lenR, if_neg (by omega), ea, if_pos (by omega), if_neg (by omega)]
  · have eh : lenBytes n = (128 + ((bytesBE 4 n).length : Int)) :: bytesBE 4 n := if_neg h128
    have ea : at' b (i : Int) = 128 + ((bytesBE 4 n).length : Int) := by rw [← ha, eh]; rfl
    have e1 := be_len 4 n
    obtain ⟨e2, e3⟩ := be_head 4 n (by omega) (by omega)
    have e4 := be_val 4 n (by omega) (by omega)
    rw [eh, List.cons_append, List.drop_succ_cons, List.drop_zero] at hd
    have ek : (128 + ((bytesBE 4 n).length : Int) - 128).toNat = (bytesBE 4 n).length := by omega
    have et : (b.drop (i + 1)).take (bytesBE 4 n).length = bytesBE 4 n := by rw [hd, List.take_left']; rfl
    have en : ¬ at' b ((i : Int) + 1) = 0 := by
      rw [show ((i : Int) + 1) = ((i + 1 : Nat) : Int) by omega, ← at_drop0, hd]
      cases hb : bytesBE 4 n with
      | nil => rw [hb] at e3; simp at e3
      | cons x r => rw [hb] at e2; exact e2
    rw [eh] at hl ⊢
    simp only [List.length_cons] at hl ⊢
    rw [lenR, if_neg (by omega), ea, if_neg (by omega), if_neg (by omega), ek, if_neg (by omega), et, e4, if_neg (by rintro (h | h) <;> first | omega | exact en h), if_neg (by omega)]
    simp only [Prod.mk.injEq, and_true, true_and]
    omega
structure Good (t : Tlv) : Prop where
  raw : t.raw = headR t.cls t.tag t.cons t.data.length ++ t.data
  cls : 0 ≤ t.cls ∧ t.cls ≤ 3
  tag : 0 ≤ t.tag ∧ t.tag ≤ 268435455
  ok : ¬ (t.cls = 0 ∧ t.tag = 0)
  len : t.data.length ≤ 16777216
def raws (ts : List Tlv) : List Int := (ts.map Tlv.raw).flatten
theorem raws_cons (t : Tlv) (ts : List Tlv) : raws (t :: ts) = t.raw ++ raws ts := rfl
theorem raws_app (a c : List Tlv) : raws (a ++ c) = raws a ++ raws c := by simp [raws]
theorem headA_pos (F tag : Int) : 0 < (headA F tag).length := by unfold headA; split <;> simp
theorem split_go {b : List Int} : ∀ (ts : List Tlv) (f p : Nat) (acc : List Tlv), (∀ t ∈ ts, Good t) → b.drop p = raws ts → ts.length < f → acc.length + ts.length ≤ 65536 → splitGo b f p acc = (acc ++ ts, 0, b.length)
  | [], f + 1, p, acc, _, h, _, _ => by
    have hl := congrArg List.length h
    simp [raws] at hl
    rw [splitGo, if_pos (by omega), List.append_nil]
  | t :: ts, f + 1, p, acc, hg, h, hf, ha => by
    have g := hg t (by simp)
    have h' := h
    rw [raws_cons, g.raw, headR_eq, List.append_assoc, List.append_assoc] at h
    have hl := congrArg List.length h
    have hp := headA_pos (firstR t.cls t.cons) t.tag
    simp only [List.length_drop, List.length_append] at hl
    obtain ⟨e1, e2, e3⟩ := tag_put h g.cls g.tag g.ok
    have h2 : b.drop (p + (headA (firstR t.cls t.cons) t.tag).length) = lenBytes t.data.length ++ (t.data ++ raws ts) := by
      rw [← List.drop_drop, h, List.drop_left]
    have e4 := len_put h2 (by simp) g.len
    have h3 : b.drop (p + (headA (firstR t.cls t.cons) t.tag).length + (lenBytes t.data.length).length) = t.data ++ raws ts := by
      rw [← List.drop_drop, h2, List.drop_left]
    simp only [List.length_cons] at ha hf
    rw [splitGo, if_neg (by omega), if_neg (by omega), e1]
    simp only [ne_eq, not_true_eq_false, if_false]
    rw [e4]
    simp only [ne_eq, not_true_eq_false, if_false, Int.toNat_natCast]
    rw [h3, List.take_left, e2, e3]
    have er : (b.drop p).take (p + (headA (firstR t.cls t.cons) t.tag).length + (lenBytes t.data.length).length + t.data.length - p) = t.raw := by
      rw [h', raws_cons, List.take_left']
      rw [g.raw, headR_eq]; simp only [List.length_append]; omega
    rw [er, split_go ts f _ _ (fun u hu => hg u (by simp [hu])) (by rw [← List.drop_drop, h3, List.drop_left]) (by omega) (by simp; omega)]
    simp
theorem good_len {t : Tlv} (g : Good t) : 1 ≤ t.raw.length := by
  rw [g.raw, headR_eq]
  have := headA_pos (firstR t.cls t.cons) t.tag
  simp only [List.length_append]; omega
theorem raws_len : ∀ (ts : List Tlv), (∀ t ∈ ts, Good t) → ts.length ≤ (raws ts).length
  | [], _ => by simp
  | t :: ts, h => by
    have := raws_len ts fun u hu => h u (by simp [hu])
    have := good_len (h t (by simp))
    rw [raws_cons]; simp; omega
theorem split_raws {ts : List Tlv} (h : ∀ t ∈ ts, Good t) (hn : ts.length ≤ 65536) (hm : (raws ts).length ≤ 16777216) : splitR (raws ts) = (ts, 0, (raws ts).length) := by
  have := raws_len ts h
  rw [splitR, if_neg (by omega), split_go (b := raws ts) ts _ 0 [] h rfl (by omega) (by simpa using hn), List.nil_append]
end Go.Proofs.YtcflokckfjkdpaaDoor.Der
end
section
set_option linter.unusedVariables false
set_option linter.unusedSimpArgs false
namespace Go.Proofs.YtcflokckfjkdpaaDoor.Der
open Go Go.RowKit Go.Proofs Go.Proofs.YtcflokckfjkdpaaDoor.Eng Go.Proofs.YtcflokckfjkdpaaDoor.Code
set_option maxRecDepth 100000
attribute [local irreducible] callK S.W opsW scrW scrT
theorem addr_add' (p : Addr) (i j : Nat) : (p.add i).add j = p.add (i + j) := by
  by_cases hi : i = 0
  · subst hi; simp [Addr.add]
  · by_cases hj : j = 0
    · subst hj; simp [Addr.add]
    · simp [Addr.add, hi, hj, Nat.add_assoc]
structure TR (w : World) (X : Value) (ts : List Tlv) : Prop where
  ex : ∃ A c vs, X = .slice A ts.length c ∧ ts.length ≤ c ∧ Rd w A (cellsT ts vs) ∧ vs.length = 2 * ts.length ∧ ∀ (i : Nat) v l, vs[i]? = some v → (tflat ts)[i]? = some l → Vw .u8 w v l
theorem Tls.tr {w0 w : World} {X : Value} {ts : List Tlv} {vs : List Value} (h : Tls w0 w X ts vs) : TR w X ts := by
  obtain ⟨A, c, rfl, hc, hr⟩ := h.g.sl.read
  exact ⟨A, c, vs, rfl, hc, hr, h.vlen, fun i v l h1 h2 => (h.r.each i v l h1 h2).vw⟩
theorem Vw.nb' {k : IntKind} {w w' : World} {v : Value} {l : List Int} (h : Vw k w v l) (f : Fr w w' nob) : Vw k w' v l := by
  obtain ⟨A, c, e, hc, hr⟩ := h
  exact ⟨A, c, e, hc, hr.nb f⟩
theorem TR.nb {w w' : World} {X : Value} {ts : List Tlv} (h : TR w X ts) (f : Fr w w' nob) : TR w' X ts := by
  obtain ⟨A, c, vs, e, hc, hr, hv, he⟩ := h.ex
  exact ⟨A, c, vs, e, hc, hr.nb f, hv, fun i v l h1 h2 => Vw.nb' (he i v l h1 h2) f⟩
theorem tflat_cons (t : Tlv) (ts : List Tlv) : tflat (t :: ts) = t.data :: t.raw :: tflat ts := rfl
theorem cellsT_at : ∀ (ts : List Tlv) (vs : List Value) (i : Nat), vs.length = 2 * ts.length → (h : i < ts.length) → ∃ d r, vs[2 * i]? = some d ∧ vs[2 * i + 1]? = some r ∧ (cellsT ts vs).drop (i * 5) = tcells ts[i] d r ++ cellsT (ts.drop (i + 1)) (vs.drop (2 * (i + 1))) ∧ (tflat ts)[2 * i]? = some ts[i].data ∧ (tflat ts)[2 * i + 1]? = some ts[i].raw
  | [], vs, i, hv, h => by simp at h
  | t :: ts, [], i, hv, h => by simp at hv
  | t :: ts, [d], i, hv, h => by simp at hv; omega
  | t :: ts, d :: r :: vs, 0, hv, h => ⟨d, r, rfl, rfl, rfl, rfl, rfl⟩
  | t :: ts, d :: r :: vs, i + 1, hv, h => by
    obtain ⟨d', r', h1, h2, h3, h4, h5⟩ := cellsT_at ts vs i (by simp at hv; omega) (by simpa using h)
    refine ⟨d', r', by simpa [Nat.mul_add] using h1, by simpa [Nat.mul_add] using h2, ?_, by simpa [tflat_cons, Nat.mul_add] using h4, by simpa [tflat_cons, Nat.mul_add] using h5⟩
    rw [cellsT, show (i + 1) * 5 = (tcells t d r).length + i * 5 by simp [tcells]; omega, ← List.drop_drop, List.drop_left, h3]
    rfl
theorem TR.at {w : World} {A : Option Addr} {n c : Nat} {ts : List Tlv} (h : TR w (.slice A n c) ts) {i : Nat} (hi : i < ts.length) : ∃ ad dA dc rA rc, A = some ad ∧ n = ts.length ∧ ts[i].data.length ≤ dc ∧ ts[i].raw.length ≤ rc ∧ Rd w dA (nums .u8 ts[i].data) ∧ Rd w rA (nums .u8 ts[i].raw) ∧
    cellsAt w (ad.add (i * 5)) (tcells ts[i] (.slice dA ts[i].data.length dc) (.slice rA ts[i].raw.length rc)) := by
  obtain ⟨A', c', vs, e, hc, hr, hv, he⟩ := h.ex
  cases e
  obtain ⟨d, r, h1, h2, h3, h4, h5⟩ := cellsT_at ts vs i hv hi
  obtain ⟨dA, dc, rfl, hdc, hdr⟩ := he _ _ _ h1 h4
  obtain ⟨rA, rc, rfl, hrc, hrr⟩ := he _ _ _ h2 h5
  have hl := cellsT_len ts vs hv
  obtain ⟨ad, ea, _, hcl⟩ := hr.get (by omega)
  refine ⟨ad, dA, dc, rA, rc, ea, rfl, hdc, hrc, hdr, hrr, fun j v hj => ?_⟩
  have hj5 : j < 5 := by
    have := (List.getElem?_eq_some_iff.1 hj).1
    simpa [tcells] using this
  rw [addr_add']
  refine hcl _ _ ?_
  have := congrArg (fun q => q[j]?) h3
  simp only [List.getElem?_drop] at this
  rw [this, List.getElem?_append_left (by simpa [tcells] using hj5)]
  exact hj
theorem rest_of {w : World} {A : Option Addr} {c : Nat} {ts : List Tlv} {vs : List Value} (hc : ts.length ≤ c) (hr : Rd w A (cellsT ts vs)) (hv : vs.length = 2 * ts.length) (lo : Nat) (hlo : lo ≤ ts.length)
    (he : ∀ (i : Nat) v l, 2 * lo ≤ i → vs[i]? = some v → (tflat ts)[i]? = some l → Vw .u8 w v l) : TR w (.slice (subA A c lo 5) (ts.length - lo) (c - lo)) (ts.drop lo) := by
  have hl := cellsT_len ts vs hv
  have hvd : (vs.drop (2 * lo)).length = 2 * (ts.drop lo).length := by simp; omega
  have hcd : (cellsT ts vs).drop (lo * 5) = cellsT (ts.drop lo) (vs.drop (2 * lo)) := by
    by_cases hlt : lo < ts.length
    · cases lo with
      | zero => rfl
      | succ q =>
        obtain ⟨d, r, _, _, h3, _, _⟩ := cellsT_at ts vs q hv (by omega)
        rw [show (q + 1) * 5 = q * 5 + (tcells ts[q] d r).length by simp [tcells]; omega, ← List.drop_drop, h3, List.drop_left]
    · have e1 : ts.drop lo = [] := List.drop_eq_nil_of_le (by omega)
      have e2 : vs.drop (2 * lo) = [] := List.drop_eq_nil_of_le (by omega)
      rw [e1, e2, List.drop_eq_nil_of_le (by omega)]; rfl
  have htf : ∀ (ts : List Tlv) (lo : Nat), lo ≤ ts.length → tflat (ts.drop lo) = (tflat ts).drop (2 * lo) := by
    intro ts lo
    induction lo generalizing ts with
    | zero => intro _; rfl
    | succ q ih =>
      intro hq
      cases ts with
      | nil => simp [tflat]
      | cons t ts =>
        rw [List.drop_succ_cons, tflat_cons, show 2 * (q + 1) = 2 * q + 1 + 1 by omega, List.drop_succ_cons, List.drop_succ_cons]
        exact ih ts (by simpa using hq)
  refine ⟨subA A c lo 5, c - lo, vs.drop (2 * lo), by rw [List.length_drop], by rw [List.length_drop]; omega, ?_, hvd, fun i v l h1 h2 => ?_⟩
  · rw [← hcd]
    by_cases hlt : lo < ts.length
    · obtain ⟨ad, ea, hs, hcl⟩ := hr.get (by omega)
      subst ea
      right
      refine ⟨ad.add (lo * 5), ?_, by rw [add_block]; exact hs, fun j v hj => ?_⟩
      · unfold subA; rw [if_neg (by omega)]; rfl
      · rw [addr_add']
        rw [List.getElem?_drop] at hj
        exact hcl _ _ hj
    · left
      exact List.drop_eq_nil_of_le (by omega)
  · rw [htf ts lo hlo, List.getElem?_drop] at h2
    rw [List.getElem?_drop] at h1
    exact he _ _ _ (by omega) h1 h2
theorem TR.rest {w : World} {A : Option Addr} {n c : Nat} {ts : List Tlv} (h : TR w (.slice A n c) ts) (lo : Nat) (hlo : lo ≤ ts.length) : TR w (.slice (subA A c lo 5) (ts.length - lo) (c - lo)) (ts.drop lo) := by
  obtain ⟨A', c', vs, e, hc, hr, hv, he⟩ := h.ex
  cases e
  exact rest_of hc hr hv lo hlo fun i v l _ => he i v l
theorem cellsAt.nb {w w' : World} {p : Addr} {cs : List Value} (h : cellsAt w p cs) (f : Fr w w' nob) : cellsAt w' p cs := fun j v hj => by
  have h1 := h j v hj
  have hlt : (p.add j).block < w.heap.size := by
    unfold World.cell? at h1
    cases hh : w.heap[(p.add j).block]? with
    | none => rw [hh] at h1; simp at h1
    | some o => exact (Array.getElem?_eq_some_iff.1 hh).1
  rw [← h1]
  exact cell_heap (f.block _ hlt (fun e => e))
theorem frNew {w1 w w' : World} {b : Nat} (f : Fr w w' (fun x => x = b)) (h : w1.heap.size ≤ b) (k : Fr w1 w nob) : Fr w1 w' nob := k.trans f fun x hx e => by
  have : x = b := e
  omega
set_option maxHeartbeats 4000000 in
theorem rsame_yes {w : World} {X Y : Value} {ts : List Tlv} (hx : TR w X ts) (hy : TR w Y ts) (hb : ∀ t ∈ ts, t.data.length ≤ 4611686018427387904 ∧ t.raw.length ≤ 4611686018427387904) (h63 : ts.length ≤ 4611686018427387904) (K : Value → World → Prop)
    (hK : ∀ w', Fr w w' nob → K (.bool true) w') : callK Tryd.prog 27 [X, Y] w K := by
  have hx0 := hx.ex
  obtain ⟨A, c, vs, rfl, hc, _⟩ := hx0
  have hy0 := hy.ex
  obtain ⟨B, d, us, rfl, hd, _⟩ := hy0
  refine call_of Tryd.func27 Code.h27 (by simp [Code.c27]) ?_
  simp (disch := omega) only [wu64, wu32, wu8, fdiv_nn, EO, ↓EP, EQ, EM, ↓reduceIte, Int.reduceAdd, Int.reduceEq, Int.reduceLE, Int.reduceLT, Int.reduceMul, Int.reduceNeg, Int.reducePow, Int.reduceSub, Int.reduceToNat, Nat.reduceAdd, Nat.reduceEqDiff, Nat.reduceLT, Nat.reduceLeDiff, Nat.reduceMul, reduceCtorEq, Code.c27]
  refine loop_inv (fun t ρ w' => Fr w w' nob ∧ ∃ i : Nat, ρ 5 = .int .i64 i ∧ i ≤ ts.length ∧ t = ts.length - i) ts.length ⟨Fr.refl _ _, 0, by simp (disch := omega) only [wu64, wu32, wu8, fdiv_nn, EO, ↓EP, EQ, EM, ↓reduceIte, Int.reduceAdd, Int.reduceEq, Int.reduceLE, Int.reduceLT, Int.reduceMul, Int.reduceNeg, Int.reducePow, Int.reduceSub, Int.reduceToNat, Nat.reduceAdd, Nat.reduceEqDiff, Nat.reduceLT, Nat.reduceLeDiff, Nat.reduceMul, reduceCtorEq], by omega, by omega⟩ ?_
  rintro t ρ w1 hf ⟨fr, i, h5, hi, rfl⟩ N hN
  have r0 : ρ 0 = .slice A ts.length c := by rw [hf 0 rfl]; simp (disch := omega) only [wu64, wu32, wu8, fdiv_nn, EO, ↓EP, EQ, EM, ↓reduceIte, Int.reduceAdd, Int.reduceEq, Int.reduceLE, Int.reduceLT, Int.reduceMul, Int.reduceNeg, Int.reducePow, Int.reduceSub, Int.reduceToNat, Nat.reduceAdd, Nat.reduceEqDiff, Nat.reduceLT, Nat.reduceLeDiff, Nat.reduceMul, reduceCtorEq]
  have r1 : ρ 1 = .slice B ts.length d := by rw [hf 1 rfl]; simp (disch := omega) only [wu64, wu32, wu8, fdiv_nn, EO, ↓EP, EQ, EM, ↓reduceIte, Int.reduceAdd, Int.reduceEq, Int.reduceLE, Int.reduceLT, Int.reduceMul, Int.reduceNeg, Int.reducePow, Int.reduceSub, Int.reduceToNat, Nat.reduceAdd, Nat.reduceEqDiff, Nat.reduceLT, Nat.reduceLeDiff, Nat.reduceMul, reduceCtorEq]
  clear hf
  by_cases hil : (i : Int) < (ts.length : Int)
  · obtain ⟨ad, dA, dc, rA, rc, rfl, _, hdc, hrc, hdA, hrA, hcx⟩ := (hx.nb fr).at (i := i) (by omega)
    obtain ⟨bd, eA, ec, sA, sc, rfl, _, hec, hsc, heA, hsA, hcy⟩ := (hy.nb fr).at (i := i) (by omega)
    have hbi := hb ts[i] (List.getElem_mem (by omega))
    generalize ts[i] = x at *
    have alls : ∀ w', Fr w1 w' nob → allC [(TyK.agg 5, bd.add (i * 5), Value.agg (tcells x (Value.slice eA x.data.length ec) (Value.slice sA x.raw.length sc)).toArray), (TyK.agg 5, ad.add (i * 5), Value.agg (tcells x (Value.slice dA x.data.length dc) (Value.slice rA x.raw.length rc)).toArray)] w' := fun w' f =>
      ⟨⟨_, rfl, cellsAt.nb hcy f, rfl⟩, ⟨_, rfl, cellsAt.nb hcx f, rfl⟩, trivial⟩
    simp (disch := omega) only [wu64, wu32, wu8, fdiv_nn, EO, ↓EP, EQ, EM, ↓reduceIte, Int.reduceAdd, Int.reduceEq, Int.reduceLE, Int.reduceLT, Int.reduceMul, Int.reduceNeg, Int.reducePow, Int.reduceSub, Int.reduceToNat, Nat.reduceAdd, Nat.reduceEqDiff, Nat.reduceLT, Nat.reduceLeDiff, Nat.reduceMul, reduceCtorEq, W_joinT, h5, r0, r1]
    refine join_cut (fun ρ' w' => ∃ b6 b7 : Nat, ρ' 6 = .pointer (some ⟨b6, 0, none⟩) ∧ ρ' 7 = .pointer (some ⟨b7, 0, none⟩) ∧ Fr w1 w' nob ∧ Blk w' b6 (tcells x (Value.slice dA x.data.length dc) (Value.slice rA x.raw.length rc)) ∧ Blk w' b7 (tcells x (Value.slice eA x.data.length ec) (Value.slice sA x.raw.length sc))) ?_ ?_
    · intro N2 hN2
      simp (disch := omega) only [wu64, wu32, wu8, fdiv_nn, EO, ↓EP, EQ, EM, ↓reduceIte, Int.reduceAdd, Int.reduceEq, Int.reduceLE, Int.reduceLT, Int.reduceMul, Int.reduceNeg, Int.reducePow, Int.reduceSub, Int.reduceToNat, Nat.reduceAdd, Nat.reduceEqDiff, Nat.reduceLT, Nat.reduceLeDiff, Nat.reduceMul, reduceCtorEq, h5, r0, r1]
      refine ⟨tcells x _ _, rfl, hcx, ?_⟩
      simp (disch := omega) only [wu64, wu32, wu8, fdiv_nn, EO, ↓EP, EQ, EM, ↓reduceIte, Int.reduceAdd, Int.reduceEq, Int.reduceLE, Int.reduceLT, Int.reduceMul, Int.reduceNeg, Int.reducePow, Int.reduceSub, Int.reduceToNat, Nat.reduceAdd, Nat.reduceEqDiff, Nat.reduceLT, Nat.reduceLeDiff, Nat.reduceMul, reduceCtorEq, h5, r0, r1]
      refine ⟨tcells x _ _, rfl, hcy, ?_⟩
      simp (disch := omega) only [wu64, wu32, wu8, fdiv_nn, EO, ↓EP, EQ, EM, ↓reduceIte, Int.reduceAdd, Int.reduceEq, Int.reduceLE, Int.reduceLT, Int.reduceMul, Int.reduceNeg, Int.reducePow, Int.reduceSub, Int.reduceToNat, Nat.reduceAdd, Nat.reduceEqDiff, Nat.reduceLT, Nat.reduceLeDiff, Nat.reduceMul, reduceCtorEq, h5, r0, r1]
      refine ⟨fun m1 => ?_, fun m1 => ?_⟩
      · refine al_k _ rfl fun w2 n2 => ?_
        refine ⟨alls w2 ((Fr.drewN w1 _ nob).nb (n2.fr nob)), ?_⟩
        simp (disch := omega) only [wu64, wu32, wu8, fdiv_nn, EO, ↓EP, EQ, EM, ↓reduceIte, Int.reduceAdd, Int.reduceEq, Int.reduceLE, Int.reduceLT, Int.reduceMul, Int.reduceNeg, Int.reducePow, Int.reduceSub, Int.reduceToNat, Nat.reduceAdd, Nat.reduceEqDiff, Nat.reduceLT, Nat.reduceLeDiff, Nat.reduceMul, reduceCtorEq, h5, r0, r1]
        intro m2
        refine al_k _ rfl fun w3 n3 => ?_
        have f3 := ((Fr.drewN w1 _ nob).nb (n2.fr nob)).nb ((Fr.drewN w2 m2 nob).nb (n3.fr nob))
        refine ⟨alls w3 f3, ?_⟩
        have B2 := n2.blk.fr ((Fr.drewN w2 m2 nob).nb (n3.fr nob)) (fun e => e)
        have B3 := n3.blk
        have z12 := (n2.fr nob).size
        have zs : w2.heap.size < w3.heap.size := B3.lt
        have z2 := n2.blk.lt
        have z1 : w1.heap.size < w2.heap.size := z2
        simp (disch := omega) only [wu64, wu32, wu8, fdiv_nn, EO, ↓EP, EQ, EM, ↓reduceIte, Int.reduceAdd, Int.reduceEq, Int.reduceLE, Int.reduceLT, Int.reduceMul, Int.reduceNeg, Int.reducePow, Int.reduceSub, Int.reduceToNat, Nat.reduceAdd, Nat.reduceEqDiff, Nat.reduceLT, Nat.reduceLeDiff, Nat.reduceMul, reduceCtorEq, h5, r0, r1]
        intro m3
        refine st_whole (B2.fr (Fr.drewN w3 m3 nob) (fun e => e)) rfl rfl (tcells_one _ _ _ _ _ _ _) fun w4 p4 => ?_
        have f4 := frNew (p4.fr) (show w1.heap.size ≤ w1.heap.size by omega) (f3.nb (Fr.drewN w3 m3 nob))
        refine ⟨alls w4 f4, ?_⟩
        have C7 := (B3.fr (Fr.drewN w3 m3 nob) (fun e => e)).fr p4.fr (fun e => by have e2 : w2.heap.size = w1.heap.size := e; omega)
        simp (disch := omega) only [wu64, wu32, wu8, fdiv_nn, EO, ↓EP, EQ, EM, ↓reduceIte, Int.reduceAdd, Int.reduceEq, Int.reduceLE, Int.reduceLT, Int.reduceMul, Int.reduceNeg, Int.reducePow, Int.reduceSub, Int.reduceToNat, Nat.reduceAdd, Nat.reduceEqDiff, Nat.reduceLT, Nat.reduceLeDiff, Nat.reduceMul, reduceCtorEq, h5, r0, r1]
        intro m4
        refine st_whole (C7.fr (Fr.drewN w4 m4 nob) (fun e => e)) rfl rfl (tcells_one _ _ _ _ _ _ _) fun w5 p5 => ?_
        have f5 := frNew (p5.fr) (show w1.heap.size ≤ w2.heap.size by omega) (f4.nb (Fr.drewN w4 m4 nob))
        have C6 := (p4.blk.fr (Fr.drewN w4 m4 nob) (fun e => e)).fr p5.fr (fun e => by have e2 : w1.heap.size = w2.heap.size := e; omega)
        refine ⟨alls w5 f5, ?_⟩
        simp (disch := omega) only [wu64, wu32, wu8, fdiv_nn, EO, ↓EP, EQ, EM, ↓reduceIte, Int.reduceAdd, Int.reduceEq, Int.reduceLE, Int.reduceLT, Int.reduceMul, Int.reduceNeg, Int.reducePow, Int.reduceSub, Int.reduceToNat, Nat.reduceAdd, Nat.reduceEqDiff, Nat.reduceLT, Nat.reduceLeDiff, Nat.reduceMul, reduceCtorEq, h5, r0, r1]
        intro m5
        have fd := Fr.drewN w5 m5 nob
        exact hN2 _ _ ⟨w1.heap.size, w2.heap.size, by simp (disch := omega) only [wu64, wu32, wu8, fdiv_nn, EO, ↓EP, EQ, EM, ↓reduceIte, Int.reduceAdd, Int.reduceEq, Int.reduceLE, Int.reduceLT, Int.reduceMul, Int.reduceNeg, Int.reducePow, Int.reduceSub, Int.reduceToNat, Nat.reduceAdd, Nat.reduceEqDiff, Nat.reduceLT, Nat.reduceLeDiff, Nat.reduceMul, reduceCtorEq], by simp (disch := omega) only [wu64, wu32, wu8, fdiv_nn, EO, ↓EP, EQ, EM, ↓reduceIte, Int.reduceAdd, Int.reduceEq, Int.reduceLE, Int.reduceLT, Int.reduceMul, Int.reduceNeg, Int.reducePow, Int.reduceSub, Int.reduceToNat, Nat.reduceAdd, Nat.reduceEqDiff, Nat.reduceLT, Nat.reduceLeDiff, Nat.reduceMul, reduceCtorEq], f5.nb fd, C6.fr fd (fun e => e), p5.blk.fr fd (fun e => e)⟩
      · refine al_k _ rfl fun w2 n2 => ?_
        refine ⟨alls w2 ((Fr.drewN w1 _ nob).nb (n2.fr nob)), ?_⟩
        simp (disch := omega) only [wu64, wu32, wu8, fdiv_nn, EO, ↓EP, EQ, EM, ↓reduceIte, Int.reduceAdd, Int.reduceEq, Int.reduceLE, Int.reduceLT, Int.reduceMul, Int.reduceNeg, Int.reducePow, Int.reduceSub, Int.reduceToNat, Nat.reduceAdd, Nat.reduceEqDiff, Nat.reduceLT, Nat.reduceLeDiff, Nat.reduceMul, reduceCtorEq, h5, r0, r1]
        intro m2
        refine al_k _ rfl fun w3 n3 => ?_
        have f3 := ((Fr.drewN w1 _ nob).nb (n2.fr nob)).nb ((Fr.drewN w2 m2 nob).nb (n3.fr nob))
        refine ⟨alls w3 f3, ?_⟩
        have B2 := n2.blk.fr ((Fr.drewN w2 m2 nob).nb (n3.fr nob)) (fun e => e)
        have B3 := n3.blk
        have z12 := (n2.fr nob).size
        have zs : w2.heap.size < w3.heap.size := B3.lt
        have z2 := n2.blk.lt
        have z1 : w1.heap.size < w2.heap.size := z2
        simp (disch := omega) only [wu64, wu32, wu8, fdiv_nn, EO, ↓EP, EQ, EM, ↓reduceIte, Int.reduceAdd, Int.reduceEq, Int.reduceLE, Int.reduceLT, Int.reduceMul, Int.reduceNeg, Int.reducePow, Int.reduceSub, Int.reduceToNat, Nat.reduceAdd, Nat.reduceEqDiff, Nat.reduceLT, Nat.reduceLeDiff, Nat.reduceMul, reduceCtorEq, h5, r0, r1]
        intro m3
        refine st_whole (B3.fr (Fr.drewN w3 m3 nob) (fun e => e)) rfl rfl (tcells_one _ _ _ _ _ _ _) fun w4 p4 => ?_
        have f4 := frNew (p4.fr) (show w1.heap.size ≤ w2.heap.size by omega) (f3.nb (Fr.drewN w3 m3 nob))
        refine ⟨alls w4 f4, ?_⟩
        have C7 := (B2.fr (Fr.drewN w3 m3 nob) (fun e => e)).fr p4.fr (fun e => by have e2 : w1.heap.size = w2.heap.size := e; omega)
        simp (disch := omega) only [wu64, wu32, wu8, fdiv_nn, EO, ↓EP, EQ, EM, ↓reduceIte, Int.reduceAdd, Int.reduceEq, Int.reduceLE, Int.reduceLT, Int.reduceMul, Int.reduceNeg, Int.reducePow, Int.reduceSub, Int.reduceToNat, Nat.reduceAdd, Nat.reduceEqDiff, Nat.reduceLT, Nat.reduceLeDiff, Nat.reduceMul, reduceCtorEq, h5, r0, r1]
        intro m4
        refine st_whole (C7.fr (Fr.drewN w4 m4 nob) (fun e => e)) rfl rfl (tcells_one _ _ _ _ _ _ _) fun w5 p5 => ?_
        have f5 := frNew (p5.fr) (show w1.heap.size ≤ w1.heap.size by omega) (f4.nb (Fr.drewN w4 m4 nob))
        have C6 := (p4.blk.fr (Fr.drewN w4 m4 nob) (fun e => e)).fr p5.fr (fun e => by have e2 : w2.heap.size = w1.heap.size := e; omega)
        refine ⟨alls w5 f5, ?_⟩
        simp (disch := omega) only [wu64, wu32, wu8, fdiv_nn, EO, ↓EP, EQ, EM, ↓reduceIte, Int.reduceAdd, Int.reduceEq, Int.reduceLE, Int.reduceLT, Int.reduceMul, Int.reduceNeg, Int.reducePow, Int.reduceSub, Int.reduceToNat, Nat.reduceAdd, Nat.reduceEqDiff, Nat.reduceLT, Nat.reduceLeDiff, Nat.reduceMul, reduceCtorEq, h5, r0, r1]
        intro m5
        have fd := Fr.drewN w5 m5 nob
        exact hN2 _ _ ⟨w2.heap.size, w1.heap.size, by simp (disch := omega) only [wu64, wu32, wu8, fdiv_nn, EO, ↓EP, EQ, EM, ↓reduceIte, Int.reduceAdd, Int.reduceEq, Int.reduceLE, Int.reduceLT, Int.reduceMul, Int.reduceNeg, Int.reducePow, Int.reduceSub, Int.reduceToNat, Nat.reduceAdd, Nat.reduceEqDiff, Nat.reduceLT, Nat.reduceLeDiff, Nat.reduceMul, reduceCtorEq], by simp (disch := omega) only [wu64, wu32, wu8, fdiv_nn, EO, ↓EP, EQ, EM, ↓reduceIte, Int.reduceAdd, Int.reduceEq, Int.reduceLE, Int.reduceLT, Int.reduceMul, Int.reduceNeg, Int.reducePow, Int.reduceSub, Int.reduceToNat, Nat.reduceAdd, Nat.reduceEqDiff, Nat.reduceLT, Nat.reduceLeDiff, Nat.reduceMul, reduceCtorEq], f5.nb fd, C6.fr fd (fun e => e), p5.blk.fr fd (fun e => e)⟩
    rintro ρ2 w2 hf2 ⟨b6, b7, k6, k7, f2, B6, B7⟩
    have k5 : ρ2 5 = .int .i64 i := by rw [hf2 5 rfl]; simp (disch := omega) only [wu64, wu32, wu8, fdiv_nn, EO, ↓EP, EQ, EM, ↓reduceIte, Int.reduceAdd, Int.reduceEq, Int.reduceLE, Int.reduceLT, Int.reduceMul, Int.reduceNeg, Int.reducePow, Int.reduceSub, Int.reduceToNat, Nat.reduceAdd, Nat.reduceEqDiff, Nat.reduceLT, Nat.reduceLeDiff, Nat.reduceMul, reduceCtorEq, h5]
    clear hf2
    have x0 := B6.has 0 _ rfl
    have x1 := B6.has 1 _ rfl
    have x2 := B6.has 2 _ rfl
    have x3 := B6.has 3 _ rfl
    have y0 := B7.has 0 _ rfl
    have y1 := B7.has 1 _ rfl
    have y2 := B7.has 2 _ rfl
    have y3 := B7.has 3 _ rfl
    simp (disch := omega) only [wu64, wu32, wu8, fdiv_nn, EO, ↓EP, EQ, EM, ↓reduceIte, Int.reduceAdd, Int.reduceEq, Int.reduceLE, Int.reduceLT, Int.reduceMul, Int.reduceNeg, Int.reducePow, Int.reduceSub, Int.reduceToNat, Nat.reduceAdd, Nat.reduceEqDiff, Nat.reduceLT, Nat.reduceLeDiff, Nat.reduceMul, reduceCtorEq, W_join, k5, k6, k7, Addr.add_lit, Nat.zero_add, x0, x1, x2, x3, y0, y1, y2, y3, beq_self_eq_true, Bool.xor_self]
    refine Spec.same_t rfl rfl (hdA.nb f2) (heA.nb f2) hbi.1 _ fun w3 f3 => ?_
    have x4 := (B6.fr f3 (fun e => e)).has 4 _ rfl
    have y4 := (B7.fr f3 (fun e => e)).has 4 _ rfl
    simp (disch := omega) only [wu64, wu32, wu8, fdiv_nn, EO, ↓EP, EQ, EM, ↓reduceIte, Int.reduceAdd, Int.reduceEq, Int.reduceLE, Int.reduceLT, Int.reduceMul, Int.reduceNeg, Int.reducePow, Int.reduceSub, Int.reduceToNat, Nat.reduceAdd, Nat.reduceEqDiff, Nat.reduceLT, Nat.reduceLeDiff, Nat.reduceMul, reduceCtorEq, W_join, k5, k6, k7, Addr.add_lit, Nat.zero_add, x4, y4, Bool.not_true, beq_self_eq_true, Bool.xor_self]
    refine Spec.same_t rfl rfl (hrA.nb (f2.nb f3)) (hsA.nb (f2.nb f3)) hbi.2 _ fun w4 f4 => ?_
    simp (disch := omega) only [wu64, wu32, wu8, fdiv_nn, EO, ↓EP, EQ, EM, ↓reduceIte, Int.reduceAdd, Int.reduceEq, Int.reduceLE, Int.reduceLT, Int.reduceMul, Int.reduceNeg, Int.reducePow, Int.reduceSub, Int.reduceToNat, Nat.reduceAdd, Nat.reduceEqDiff, Nat.reduceLT, Nat.reduceLeDiff, Nat.reduceMul, reduceCtorEq, W_join, k5, k6, k7, Bool.not_true, beq_self_eq_true, Bool.xor_self]
    exact hN (ts.length - (i + 1)) _ _ (by omega) ⟨((fr.nb f2).nb f3).nb f4, i + 1, by simp (disch := omega) only [wu64, wu32, wu8, fdiv_nn, EO, ↓EP, EQ, EM, ↓reduceIte, Int.reduceAdd, Int.reduceEq, Int.reduceLE, Int.reduceLT, Int.reduceMul, Int.reduceNeg, Int.reducePow, Int.reduceSub, Int.reduceToNat, Nat.reduceAdd, Nat.reduceEqDiff, Nat.reduceLT, Nat.reduceLeDiff, Nat.reduceMul, reduceCtorEq, k5, Int.natCast_add], by omega, rfl⟩
  · have hie : i = ts.length := by omega
    subst hie
    simp (disch := omega) only [wu64, wu32, wu8, fdiv_nn, EO, ↓EP, EQ, EM, ↓reduceIte, Int.reduceAdd, Int.reduceEq, Int.reduceLE, Int.reduceLT, Int.reduceMul, Int.reduceNeg, Int.reducePow, Int.reduceSub, Int.reduceToNat, Nat.reduceAdd, Nat.reduceEqDiff, Nat.reduceLT, Nat.reduceLeDiff, Nat.reduceMul, reduceCtorEq, h5, r0, r1]
    exact hK w1 fr
end Go.Proofs.YtcflokckfjkdpaaDoor.Der
end
section
set_option linter.unusedVariables false
set_option linter.unusedSimpArgs false
namespace Go.Proofs.YtcflokckfjkdpaaDoor.Der
open Go Go.RowKit Go.Proofs Go.Proofs.YtcflokckfjkdpaaDoor.Eng Go.Proofs.YtcflokckfjkdpaaDoor.Code
set_option maxRecDepth 100000
attribute [local irreducible] callK S.W opsW scrW scrT
end Go.Proofs.YtcflokckfjkdpaaDoor.Der
end
section
set_option linter.unusedVariables false
set_option linter.unusedSimpArgs false
namespace Go.Proofs.YtcflokckfjkdpaaDoor.Der
open Go Go.RowKit Go.Proofs Go.Proofs.YtcflokckfjkdpaaDoor.Eng Go.Proofs.YtcflokckfjkdpaaDoor.Code
set_option maxRecDepth 100000
attribute [local irreducible] callK S.W opsW scrW scrT
theorem ro_move {k : IntKind} {w w' : World} {A : Option Addr} {l : List Int} {P P0 P' : Nat → Prop} (h : RO k w A l P) (f : Fr w w' P0) (hp : ∀ b, b < w.heap.size → P0 b → P b) (hq : ∀ b, b < w.heap.size → P' b → P b) : RO k w' A l P' := by
  rcases h with h | ⟨p, e, hlt, hn, hc⟩
  · exact .inl h
  · exact .inr ⟨p, e, Nat.lt_of_lt_of_le hlt f.size, fun h => hn (hq _ hlt h), cellsAt.fr hc f hlt fun h => hn (hp _ hlt h)⟩
def PB (X B : Value) : Nat → Prop := fun b => blkOf X = some b ∨ blkOf B = some b
structure Mrow (w0 w : World) (X B : Value) (ts : List Tlv) (vs : List Value) : Prop where
  g : Gg 5 w0 w X ts.length (cellsT ts vs)
  len : vs.length = 2 * ts.length
  each : ∀ (i : Nat) (v : Value) (l : List Int), vs[i]? = some v → (tflat ts)[i]? = some l → ∃ A c, v = .slice A l.length c ∧ l.length ≤ c ∧ RO .u8 w A l (PB X B)
  b : Gw .u8 w0 w B (raws ts)
  ap : ∀ b, blkOf X = some b → blkOf B ≠ some b
theorem Mrow.nil (w : World) : Mrow w w (.slice none 0 0) (.slice none 0 0) [] [] :=
  ⟨Gg.nil 5 w, rfl, fun i v l h => by simp at h, Gw.nil .u8 w, fun b h => by cases h⟩
theorem Mrow.nb {w0 w w' : World} {X B : Value} {ts : List Tlv} {vs : List Value} (h : Mrow w0 w X B ts vs) (f : Fr w w' nob) : Mrow w0 w' X B ts vs :=
  ⟨h.g.step f, h.len, fun i v l h1 h2 => by
    obtain ⟨A, c, e, hc, hr⟩ := h.each i v l h1 h2
    exact ⟨A, c, e, hc, ro_move hr f (fun _ _ h => h.elim) fun _ _ h => h⟩, h.b.step f, h.ap⟩
theorem Mrow.tr {w0 w : World} {X B : Value} {ts : List Tlv} {vs : List Value} (h : Mrow w0 w X B ts vs) : TR w X ts := by
  obtain ⟨A, c, rfl, hc, hr⟩ := h.g.sl.read
  refine ⟨A, c, vs, rfl, hc, hr, h.len, fun i v l h1 h2 => ?_⟩
  obtain ⟨B, d, e, hd, hB⟩ := h.each i v l h1 h2
  exact ⟨B, d, e, hd, hB.rd⟩
theorem Mrow.add {w0 w w1 w2 w3 w4 : World} {X B X' B' : Value} {ts : List Tlv} {vs : List Value} {t : Tlv} {dA rA : Option Addr} {dc rc : Nat} (h : Mrow w0 w X B ts vs) (f1 : Fr w w1 nob)
    (hd : RO .u8 w1 dA t.data (PB X B)) (hdc : t.data.length ≤ dc) (hr : RO .u8 w1 rA t.raw (PB X B)) (hrc : t.raw.length ≤ rc)
    (a : Apd .u8 w1 B (raws ts ++ t.raw) B' w2) (f2 : Fr w2 w3 nob) (a2 : Ag 5 w3 X (ts.length + 1) (cellsT ts vs ++ tcells t (.slice dA t.data.length dc) (.slice rA t.raw.length rc)) X' w4) :
    Mrow w0 w4 X' B' (ts ++ [t]) (vs ++ [.slice dA t.data.length dc, .slice rA t.raw.length rc]) := by
  have h1 := h.nb f1
  have hXlt : ∀ b, blkOf X = some b → b < w1.heap.size := fun b e => Gg.lt h1.g b e
  have hBlt : ∀ b, blkOf B' = some b → b < w2.heap.size := fun b e => a.sl.lt e
  have s12 := a.fr.size
  have s23 := f2.size
  have mv1 : ∀ {A : Option Addr} {l : List Int}, RO .u8 w1 A l (PB X B) → RO .u8 w4 A l (PB X' B') := fun {A l} r => by
    have r2 : RO .u8 w2 A l (PB X B') := ro_move r a.fr (fun b _ e => .inr e) fun b hb e => by
      rcases e with e | e
      · exact .inl e
      · rcases a.where_ with h | h
        · exact .inr (h ▸ e)
        · have := h b e; omega
    have r3 : RO .u8 w3 A l (PB X B') := ro_move r2 f2 (fun _ _ h => h.elim) fun _ _ h => h
    exact ro_move r3 a2.fr (fun b _ e => .inl e) fun b hb e => by
      rcases e with e | e
      · rcases a2.where_ with h | h
        · exact .inl (h ▸ e)
        · have := h b e; omega
      · exact .inr e
  have gB2 : Gw .u8 w0 w2 B' (raws (ts ++ [t])) := by
    have := h1.b.apd a
    rw [raws_app]
    simpa [raws] using this
  have gX2 : Gg 5 w0 w2 X ts.length (cellsT ts vs) := by
    refine ⟨h1.g.sl.fr a.fr fun b e h => h1.ap b e h, h1.g.up, ?_⟩
    exact h1.g.fr.own a.fr fun x e => h1.b.up x e
  have gX3 := gX2.step f2
  have hap : ∀ b, blkOf X' = some b → blkOf B' ≠ some b := fun b e e2 => by
    have l2 := hBlt b e2
    rcases a2.where_ with h | h
    · rw [h] at e
      have l1 := hXlt b e
      rcases a.where_ with h3 | h3
      · rw [h3] at e2; exact h1.ap b e e2
      · have := h3 b e2; omega
    · have := h b e; omega
  refine ⟨?_, by simp [h.len]; omega, ?_, ?_, hap⟩
  · rw [cellsT_add _ _ _ _ _ h.len]
    have := gX3.apd a2
    simpa using this
  · intro i v l e1 e2
    rw [tflat_add] at e2
    by_cases hi : i < vs.length
    · rw [List.getElem?_append_left hi] at e1
      rw [List.getElem?_append_left (by rw [tflat_len, ← h.len]; exact hi)] at e2
      obtain ⟨A, c, e, hc, r⟩ := h1.each i v l e1 e2
      exact ⟨A, c, e, hc, mv1 r⟩
    · rw [List.getElem?_append_right (by omega)] at e1
      rw [List.getElem?_append_right (by rw [tflat_len, ← h.len]; omega), tflat_len, ← h.len] at e2
      match hk : i - vs.length, e1, e2 with
      | 0, e1, e2 =>
        simp at e1 e2
        subst e1 e2
        exact ⟨dA, dc, rfl, hdc, mv1 hd⟩
      | 1, e1, e2 =>
        simp at e1 e2
        subst e1 e2
        exact ⟨rA, rc, rfl, hrc, mv1 hr⟩
      | k + 2, e1, e2 => simp at e1
  · have := (gB2.step f2)
    refine this.other a2.fr (fun b e h => ?_) fun b hb h => ?_
    · have l2 := hBlt b e
      rcases a.where_ with h3 | h3
      · rw [h3] at e; exact h1.ap b h e
      · have := h3 b e
        have := hXlt b h
        omega
    · have := h1.g.up b h; omega
theorem TR.ro {w : World} {A : Option Addr} {n c : Nat} {ts : List Tlv} (h : TR w (.slice A n c) ts) {i : Nat} (hi : i < ts.length) : ∃ ad dA dc rA rc, A = some ad ∧ n = ts.length ∧ ts[i].data.length ≤ dc ∧ Rd w dA (nums .u8 ts[i].data) ∧
    cellsAt w (ad.add (i * 5)) (tcells ts[i] (.slice dA ts[i].data.length dc) (.slice rA ts[i].raw.length rc)) := by
  obtain ⟨ad, dA, dc, rA, rc, h1, h2, h3, h4, h5, h6, h7⟩ := h.at hi
  exact ⟨ad, dA, dc, rA, rc, h1, h2, h3, h5, h7⟩
theorem rd_ro {k : IntKind} {w : World} {A : Option Addr} {l : List Int} {P : Nat → Prop} (h : Rd w A (nums k l)) (hp : ∀ b, b < w.heap.size → ¬ P b) : RO k w A l P := by
  rcases h with h | ⟨p, e, hlt, hc⟩
  · exact .inl (nums_isNil h)
  · exact .inr ⟨p, e, hlt, hp _ hlt, hc⟩
theorem gw_ro {k : IntKind} {w0 w : World} {A : Option Addr} {n c : Nat} {l : List Int} {P : Nat → Prop} (g : Gw k w0 w (.slice A n c) l) (hp : ∀ b, w0.heap.size ≤ b → ¬ P b) : RO k w A l P := by
  rcases g.sl.rdOf with h | ⟨p, e, hlt, hc⟩
  · exact .inl (nums_isNil h)
  · exact .inr ⟨p, e, hlt, hp _ (g.up p.block (by rw [e]; rfl)), hc⟩
theorem one_lv {w w' : World} {A : Option Addr} {c : Nat} {l : List Int} (n : New w w' [.slice A l.length c]) (hc : l.length ≤ c) (hr : Rd w' A (nums .u8 l)) : LV w' (.slice (some ⟨w.heap.size, 0, none⟩) 1 1) [l] := by
  refine ⟨_, 1, [.slice A l.length c], rfl, by simp, n.rdv, rfl, fun i v l' h1 h2 => ?_⟩
  match i, h1, h2 with
  | 0, h1, h2 =>
    simp at h1 h2
    subst h1 h2
    exact Vw.of rfl hc hr
  | i + 1, h1, h2 => simp at h1
theorem putR_one (cls tag : Int) (cons : Bool) (d : List Int) (h : d.length ≤ 1000) : putR cls tag cons [d] = ([], 1) ∨ (putR cls tag cons [d] = (headR cls tag cons d.length ++ d, 0) ∧ 0 ≤ cls ∧ cls ≤ 3 ∧ 0 ≤ tag ∧ tag ≤ 268435455 ∧ ¬ (cls = 0 ∧ tag = 0)) := by
  unfold putR
  have e : ([d].map List.length).sum = d.length := by simp
  rw [e]
  split
  · exact .inl rfl
  · rw [if_neg (by omega)]
    exact .inr ⟨by simp, by omega, by omega, by omega, by omega, by omega⟩
theorem be_bytes : ∀ f n, ∀ x ∈ bytesBE f n, 0 ≤ x ∧ x < 256
  | 0, n, x, h => by simp [bytesBE] at h
  | f + 1, n, x, h => by
    rw [bytesBE] at h
    split at h
    · simp at h
    · rw [List.mem_append] at h
      rcases h with h | h
      · exact be_bytes f _ x h
      · simp only [List.mem_singleton] at h; omega
structure Okt (t : Tlv) : Prop where
  cls : -9223372036854775808 ≤ t.cls ∧ t.cls ≤ 9223372036854775807
  tag : -9223372036854775808 ≤ t.tag ∧ t.tag ≤ 9223372036854775807
  dat : ∀ x ∈ t.data, 0 ≤ x ∧ x < 256
  len : t.data.length ≤ 9223372036854775807
theorem good_bytes {t : Tlv} (g : Good t) (hd : ∀ x ∈ t.data, 0 ≤ x ∧ x < 256) : ∀ x ∈ t.raw, 0 ≤ x ∧ x < 256 := by
  intro x hx
  rw [g.raw, headR_eq, List.mem_append, List.mem_append] at hx
  have hc := g.cls
  have ht := g.tag
  rcases hx with (hx | hx) | hx
  · unfold headA firstR at hx
    split at hx
    · simp only [List.mem_singleton] at hx
      subst hx
      cases t.cons <;> simp <;> omega
    · rw [List.mem_cons] at hx
      rcases hx with hx | hx
      · subst hx
        cases t.cons <;> simp <;> omega
      · exact seven_byte _ x hx
  · unfold lenBytes at hx
    have h4 := be_len 4 t.data.length
    split at hx
    · simp only [List.mem_singleton] at hx; omega
    · rw [List.mem_cons] at hx
      rcases hx with hx | hx
      · omega
      · exact be_bytes 4 _ x hx
  · exact hd x hx
theorem raws_bd : ∀ (ts : List Tlv), (∀ t ∈ ts, t.raw.length ≤ 1017) → (raws ts).length ≤ 1017 * ts.length
  | [], _ => by simp [raws]
  | t :: ts, h => by
    have := raws_bd ts fun u hu => h u (by simp [hu])
    have := h t (by simp)
    rw [raws_cons]; simp; omega
set_option maxHeartbeats 4000000 in
theorem derback_vw {w : World} (hT : TbP w) {X : Value} {ts : List Tlv} (hX : TR w X ts) (hk : ∀ t ∈ ts, Okt t) (h63 : ts.length ≤ 9223372036854775807) (K : Value → World → Prop)
    (hK : ∀ w', Fr w w' nob → K (.bool true) w') : callK Tryd.prog 8 [X] w K := by
  have hX0 := hX.ex
  obtain ⟨A, c, _, rfl, hc, _⟩ := hX0
  refine call_of Tryd.func8 Code.h8 (by simp [Code.c8]) ?_
  by_cases hm : (60 : Int) < (ts.length : Int)
  · simp (disch := omega) only [wu64, wu32, wu8, fdiv_nn, EO, ↓EP, EQ, EM, ↓reduceIte, Int.reduceAdd, Int.reduceEq, Int.reduceLE, Int.reduceLT, Int.reduceMul, Int.reduceNeg, Int.reducePow, Int.reduceSub, Int.reduceToNat, Nat.reduceAdd, Nat.reduceEqDiff, Nat.reduceLT, Nat.reduceLeDiff, Nat.reduceMul, reduceCtorEq, Code.c8]
    refine live_vw hT _ fun w1 f1 => ?_
    simp (disch := omega) only [wu64, wu32, wu8, fdiv_nn, EO, ↓EP, EQ, EM, ↓reduceIte, Int.reduceAdd, Int.reduceEq, Int.reduceLE, Int.reduceLT, Int.reduceMul, Int.reduceNeg, Int.reducePow, Int.reduceSub, Int.reduceToNat, Nat.reduceAdd, Nat.reduceEqDiff, Nat.reduceLT, Nat.reduceLeDiff, Nat.reduceMul, reduceCtorEq]
    exact hK w1 f1
  simp (disch := omega) only [wu64, wu32, wu8, fdiv_nn, EO, ↓EP, EQ, EM, ↓reduceIte, Int.reduceAdd, Int.reduceEq, Int.reduceLE, Int.reduceLT, Int.reduceMul, Int.reduceNeg, Int.reducePow, Int.reduceSub, Int.reduceToNat, Nat.reduceAdd, Nat.reduceEqDiff, Nat.reduceLT, Nat.reduceLeDiff, Nat.reduceMul, reduceCtorEq, Code.c8]
  refine loop_inv (fun t ρ w' => ∃ (i : Nat) (Y B : Value) (Ms : List Tlv) (vs : List Value), ρ 5 = .int .i64 i ∧ ρ 3 = B ∧ ρ 4 = Y ∧ Mrow w w' Y B Ms vs ∧ i ≤ ts.length ∧ t = ts.length - i ∧ Ms.length ≤ i ∧ (∀ t ∈ Ms, Good t ∧ t.raw.length ≤ 1017 ∧ (∀ x ∈ t.data, 0 ≤ x ∧ x < 256) ∧ t.data.length ≤ 1000)) ts.length ⟨0, .slice none 0 0, .slice none 0 0, [], [], by simp (disch := omega) only [wu64, wu32, wu8, fdiv_nn, EO, ↓EP, EQ, EM, ↓reduceIte, Int.reduceAdd, Int.reduceEq, Int.reduceLE, Int.reduceLT, Int.reduceMul, Int.reduceNeg, Int.reducePow, Int.reduceSub, Int.reduceToNat, Nat.reduceAdd, Nat.reduceEqDiff, Nat.reduceLT, Nat.reduceLeDiff, Nat.reduceMul, reduceCtorEq], by simp (disch := omega) only [wu64, wu32, wu8, fdiv_nn, EO, ↓EP, EQ, EM, ↓reduceIte, Int.reduceAdd, Int.reduceEq, Int.reduceLE, Int.reduceLT, Int.reduceMul, Int.reduceNeg, Int.reducePow, Int.reduceSub, Int.reduceToNat, Nat.reduceAdd, Nat.reduceEqDiff, Nat.reduceLT, Nat.reduceLeDiff, Nat.reduceMul, reduceCtorEq], by simp (disch := omega) only [wu64, wu32, wu8, fdiv_nn, EO, ↓EP, EQ, EM, ↓reduceIte, Int.reduceAdd, Int.reduceEq, Int.reduceLE, Int.reduceLT, Int.reduceMul, Int.reduceNeg, Int.reducePow, Int.reduceSub, Int.reduceToNat, Nat.reduceAdd, Nat.reduceEqDiff, Nat.reduceLT, Nat.reduceLeDiff, Nat.reduceMul, reduceCtorEq], Mrow.nil w, by omega, by omega, by simp, by simp⟩ ?_
  rintro t ρ w1 hf ⟨i, Y, B, Ms, vs, k5, k3, k4, M, hi, rfl, hMs, hgood⟩ N hN
  have r0 : ρ 0 = .slice A ts.length c := by rw [hf 0 rfl]; simp (disch := omega) only [wu64, wu32, wu8, fdiv_nn, EO, ↓EP, EQ, EM, ↓reduceIte, Int.reduceAdd, Int.reduceEq, Int.reduceLE, Int.reduceLT, Int.reduceMul, Int.reduceNeg, Int.reducePow, Int.reduceSub, Int.reduceToNat, Nat.reduceAdd, Nat.reduceEqDiff, Nat.reduceLT, Nat.reduceLeDiff, Nat.reduceMul, reduceCtorEq]
  clear hf
  have hrl := raws_bd Ms fun t ht => (hgood t ht).2.1
  by_cases hil : (i : Int) < (ts.length : Int)
  · obtain ⟨ad, dA, dc, rA, rc, rfl, _, hdc, hdr, hcx⟩ := hX.ro (i := i) (by omega)
    have hok := hk ts[i] (List.getElem_mem (by omega))
    generalize ts[i] = x at *
    have hc0 : ∀ {w'}, Fr w w' nob → w'.cell? (ad.add (i * 5)) = some (.int .i64 x.cls) := fun f => by
      have := cellsAt.nb hcx f 0 (.int .i64 x.cls) rfl
      rwa [addr_add', Nat.add_zero] at this
    have hc1 : ∀ {w'}, Fr w w' nob → w'.cell? (ad.add (i * 5 + 1)) = some (.int .i64 x.tag) := fun f => by
      have := cellsAt.nb hcx f 1 (.int .i64 x.tag) rfl
      rwa [addr_add'] at this
    have hc2 : ∀ {w'}, Fr w w' nob → w'.cell? (ad.add (i * 5 + 2)) = some (.bool x.cons) := fun f => by
      have := cellsAt.nb hcx f 2 (.bool x.cons) rfl
      rwa [addr_add'] at this
    have hc3 : ∀ {w'}, Fr w w' nob → w'.cell? (ad.add (i * 5 + 3)) = some (.slice dA x.data.length dc) := fun f => by
      have := cellsAt.nb hcx f 3 (.slice dA x.data.length dc) rfl
      rwa [addr_add'] at this
    have alls : ∀ w', Fr w w' nob → allC [(TyK.bool, ad.add (i * 5 + 2), Value.bool x.cons), (TyK.int IntKind.i64, ad.add (i * 5 + 1), Value.int IntKind.i64 x.tag), (TyK.int IntKind.i64, ad.add (i * 5), Value.int IntKind.i64 x.cls)] w' := fun w' f =>
      ⟨⟨_, hc2 f, rfl⟩, ⟨_, hc1 f, rfl⟩, ⟨_, hc0 f, rfl⟩, trivial⟩
    have F1 := M.b.fr
    have p0 := hc0 F1
    have p1 := hc1 F1
    have p2 := hc2 F1
    have p3 := hc3 F1
    by_cases hbig : (1000 : Int) < (x.data.length : Int)
    · simp (disch := omega) only [wu64, wu32, wu8, fdiv_nn, EO, ↓EP, EQ, EM, ↓reduceIte, Int.reduceAdd, Int.reduceEq, Int.reduceLE, Int.reduceLT, Int.reduceMul, Int.reduceNeg, Int.reducePow, Int.reduceSub, Int.reduceToNat, Nat.reduceAdd, Nat.reduceEqDiff, Nat.reduceLT, Nat.reduceLeDiff, Nat.reduceMul, reduceCtorEq, W_join, k5, r0, addr_add', p3]
      refine live_vw (hT.nb F1) _ fun w2 f2 => ?_
      simp (disch := omega) only [wu64, wu32, wu8, fdiv_nn, EO, ↓EP, EQ, EM, ↓reduceIte, Int.reduceAdd, Int.reduceEq, Int.reduceLE, Int.reduceLT, Int.reduceMul, Int.reduceNeg, Int.reducePow, Int.reduceSub, Int.reduceToNat, Nat.reduceAdd, Nat.reduceEqDiff, Nat.reduceLT, Nat.reduceLeDiff, Nat.reduceMul, reduceCtorEq]
      exact hK w2 (F1.nb f2)
    simp (disch := omega) only [wu64, wu32, wu8, fdiv_nn, EO, ↓EP, EQ, EM, ↓reduceIte, Int.reduceAdd, Int.reduceEq, Int.reduceLE, Int.reduceLT, Int.reduceMul, Int.reduceNeg, Int.reducePow, Int.reduceSub, Int.reduceToNat, Nat.reduceAdd, Nat.reduceEqDiff, Nat.reduceLT, Nat.reduceLeDiff, Nat.reduceMul, reduceCtorEq, W_join, k5, r0, addr_add', p0, p1, p2, p3]
    intro m1
    refine bslS1 fun w2 n2 => ?_
    have g12 : Fr w1 w2 nob := (Fr.drewN w1 _ nob).nb (n2.fr nob)
    have F2 := F1.nb g12
    refine ⟨alls w2 F2, ?_⟩
    simp (disch := omega) only [wu64, wu32, wu8, fdiv_nn, EO, ↓EP, EQ, EM, ↓reduceIte, Int.reduceAdd, Int.reduceEq, Int.reduceLE, Int.reduceLT, Int.reduceMul, Int.reduceNeg, Int.reducePow, Int.reduceSub, Int.reduceToNat, Nat.reduceAdd, Nat.reduceEqDiff, Nat.reduceLT, Nat.reduceLeDiff, Nat.reduceMul, reduceCtorEq]
    intro m2
    have L2 := (one_lv n2 hdc (hdr.nb F2)).nb (Fr.drewN w2 m2 nob)
    have gd2 : Fr w1 (w2.drewN m2) nob := g12.nb (Fr.drewN w2 m2 nob)
    have hpo := putR_one x.cls x.tag x.cons x.data (by omega)
    refine put_vw L2 hok.cls hok.tag (by simp) (fun l hl => by simp only [List.mem_singleton] at hl; subst hl; exact hok.len) _ fun v3 w3 g3 => ?_
    have g13 : Fr w1 w3 nob := gd2.nb g3.fr
    have F3 := F1.nb g13
    refine ⟨alls w3 F3, ?_⟩
    simp only [pr2]
    simp (disch := omega) only [wu64, wu32, wu8, fdiv_nn, EO, ↓EP, EQ, EM, ↓reduceIte, Int.reduceAdd, Int.reduceEq, Int.reduceLE, Int.reduceLT, Int.reduceMul, Int.reduceNeg, Int.reducePow, Int.reduceSub, Int.reduceToNat, Nat.reduceAdd, Nat.reduceEqDiff, Nat.reduceLT, Nat.reduceLeDiff, Nat.reduceMul, reduceCtorEq]
    intro m3
    have fd3 := Fr.drewN w3 m3 nob
    refine num_vw _ ?_
    rcases hpo with he | ⟨he, hv0, hv1, hv2, hv3, hv4⟩
    · rw [he] at g3 ⊢
      obtain ⟨A3, c3, rfl, hc3', hr3⟩ := readn g3.sl (n := 0) rfl
      simp (disch := omega) only [wu64, wu32, wu8, fdiv_nn, EO, ↓EP, EQ, EM, ↓reduceIte, Int.reduceAdd, Int.reduceEq, Int.reduceLE, Int.reduceLT, Int.reduceMul, Int.reduceNeg, Int.reducePow, Int.reduceSub, Int.reduceToNat, Nat.reduceAdd, Nat.reduceEqDiff, Nat.reduceLT, Nat.reduceLeDiff, Nat.reduceMul, reduceCtorEq, k5]
      refine num_vw _ ?_
      simp (disch := omega) only [wu64, wu32, wu8, fdiv_nn, EO, ↓EP, EQ, EM, ↓reduceIte, Int.reduceAdd, Int.reduceEq, Int.reduceLE, Int.reduceLT, Int.reduceMul, Int.reduceNeg, Int.reducePow, Int.reduceSub, Int.reduceToNat, Nat.reduceAdd, Nat.reduceEqDiff, Nat.reduceLT, Nat.reduceLeDiff, Nat.reduceMul, reduceCtorEq, k5]
      exact hN (ts.length - (i + 1)) _ _ (by omega) ⟨i + 1, Y, B, Ms, vs, by simp (disch := omega) only [wu64, wu32, wu8, fdiv_nn, EO, ↓EP, EQ, EM, ↓reduceIte, Int.reduceAdd, Int.reduceEq, Int.reduceLE, Int.reduceLT, Int.reduceMul, Int.reduceNeg, Int.reducePow, Int.reduceSub, Int.reduceToNat, Nat.reduceAdd, Nat.reduceEqDiff, Nat.reduceLT, Nat.reduceLeDiff, Nat.reduceMul, reduceCtorEq, k5, Int.natCast_add], by simp (disch := omega) only [wu64, wu32, wu8, fdiv_nn, EO, ↓EP, EQ, EM, ↓reduceIte, Int.reduceAdd, Int.reduceEq, Int.reduceLE, Int.reduceLT, Int.reduceMul, Int.reduceNeg, Int.reducePow, Int.reduceSub, Int.reduceToNat, Nat.reduceAdd, Nat.reduceEqDiff, Nat.reduceLT, Nat.reduceLeDiff, Nat.reduceMul, reduceCtorEq, k3], by simp (disch := omega) only [wu64, wu32, wu8, fdiv_nn, EO, ↓EP, EQ, EM, ↓reduceIte, Int.reduceAdd, Int.reduceEq, Int.reduceLE, Int.reduceLT, Int.reduceMul, Int.reduceNeg, Int.reducePow, Int.reduceSub, Int.reduceToNat, Nat.reduceAdd, Nat.reduceEqDiff, Nat.reduceLT, Nat.reduceLeDiff, Nat.reduceMul, reduceCtorEq, k4], M.nb (g13.nb fd3), by omega, rfl, by omega, hgood⟩
    · rw [he] at g3 ⊢
      have hhl : (headR x.cls x.tag x.cons x.data.length ++ x.data).length ≤ 1017 := by
        have h1 := headA_len (firstR x.cls x.cons) x.tag
        have h2 := lenB_len x.data.length
        rw [headR_eq]
        simp only [List.length_append]
        omega
      obtain ⟨raw, hraw⟩ : ∃ raw, headR x.cls x.tag x.cons x.data.length ++ x.data = raw := ⟨_, rfl⟩
      simp only [hraw] at g3 hhl ⊢
      have hgt : Good ⟨x.cls, x.tag, x.cons, x.data, raw⟩ := ⟨hraw.symm, ⟨hv0, hv1⟩, ⟨hv2, hv3⟩, hv4, by show x.data.length ≤ _; omega⟩
      obtain ⟨A3, c3, rfl, hc3', hr3⟩ := readn g3.sl (n := raw.length) rfl
      have M3 := M.nb (g13.nb fd3)
      simp (disch := omega) only [wu64, wu32, wu8, fdiv_nn, EO, ↓EP, EQ, EM, ↓reduceIte, Int.reduceAdd, Int.reduceEq, Int.reduceLE, Int.reduceLT, Int.reduceMul, Int.reduceNeg, Int.reducePow, Int.reduceSub, Int.reduceToNat, Nat.reduceAdd, Nat.reduceEqDiff, Nat.reduceLT, Nat.reduceLeDiff, Nat.reduceMul, reduceCtorEq, k3]
      refine app_num M3.b.sl rfl (hr3.nb fd3) (by omega) (by omega) fun B4 w4 a4 => ?_
      have F4 : Fr w w4 nob := (M3.b.apd a4).fr
      have z0 := hc0 F4
      have z1 := hc1 F4
      have z2 := hc2 F4
      have z3 := hc3 F4
      simp (disch := omega) only [wu64, wu32, wu8, fdiv_nn, EO, ↓EP, EQ, EM, ↓reduceIte, Int.reduceAdd, Int.reduceEq, Int.reduceLE, Int.reduceLT, Int.reduceMul, Int.reduceNeg, Int.reducePow, Int.reduceSub, Int.reduceToNat, Nat.reduceAdd, Nat.reduceEqDiff, Nat.reduceLT, Nat.reduceLeDiff, Nat.reduceMul, reduceCtorEq, k4, k5, r0, addr_add', z0, z1, z2, z3]
      refine ⟨_, fillTlv _ _ _ _ _ _ _ _ _, ?_⟩
      simp (disch := omega) only [wu64, wu32, wu8, fdiv_nn, EO, ↓EP, EQ, EM, ↓reduceIte, Int.reduceAdd, Int.reduceEq, Int.reduceLE, Int.reduceLT, Int.reduceMul, Int.reduceNeg, Int.reducePow, Int.reduceSub, Int.reduceToNat, Nat.reduceAdd, Nat.reduceEqDiff, Nat.reduceLT, Nat.reduceLeDiff, Nat.reduceMul, reduceCtorEq]
      intro m4
      refine bslTlv rfl rfl fun w5 n5 => ?_
      have g45 : Fr w4 w5 nob := (Fr.drewN w4 _ nob).nb (n5.fr nob)
      simp (disch := omega) only [wu64, wu32, wu8, fdiv_nn, EO, ↓EP, EQ, EM, ↓reduceIte, Int.reduceAdd, Int.reduceEq, Int.reduceLE, Int.reduceLT, Int.reduceMul, Int.reduceNeg, Int.reducePow, Int.reduceSub, Int.reduceToNat, Nat.reduceAdd, Nat.reduceEqDiff, Nat.reduceLT, Nat.reduceLeDiff, Nat.reduceMul, reduceCtorEq, k4]
      intro m5
      have fd5 := Fr.drewN w5 m5 nob
      have M0 := M3
      have gX : Gg 5 w w4 Y Ms.length (cellsT Ms vs) := ⟨M3.g.sl.fr a4.fr fun b e h => M3.ap b e h, M3.g.up, F4⟩
      have gX5 := (gX.step g45).step fd5
      refine app_g gX5.sl rfl rfl (tcells_one _ _ _ _ _ _ _) (n5.rdv.nb fd5) (by omega) (by omega) (by omega) fun Y6 w6 a6 => ?_
      have hro : RO .u8 (w3.drewN m3) dA x.data (PB Y B) := ro_move (rd_ro hdr (P := PB Y B) fun b hb h => by
        rcases h with h | h
        · have := M.g.up b h; omega
        · have := M.b.up b h; omega) (F3.nb fd3) (fun _ _ h => h.elim) fun _ _ h => h
      have hro2 : RO .u8 (w3.drewN m3) A3 raw (PB Y B) := ro_move (gw_ro g3 (P := PB Y B) fun b hb h => by
        have s12 := gd2.size
        rcases h with h | h
        · have := Gg.lt M.g b h; omega
        · have := M.b.sl.lt h; omega) fd3 (fun _ _ h => h.elim) fun _ _ h => h
      have M6 := Mrow.add (t := ⟨x.cls, x.tag, x.cons, x.data, raw⟩) M (g13.nb fd3) hro hdc hro2 hc3' a4 (g45.nb fd5) a6
      simp (disch := omega) only [wu64, wu32, wu8, fdiv_nn, EO, ↓EP, EQ, EM, ↓reduceIte, Int.reduceAdd, Int.reduceEq, Int.reduceLE, Int.reduceLT, Int.reduceMul, Int.reduceNeg, Int.reducePow, Int.reduceSub, Int.reduceToNat, Nat.reduceAdd, Nat.reduceEqDiff, Nat.reduceLT, Nat.reduceLeDiff, Nat.reduceMul, reduceCtorEq, k5]
      intro m6
      refine hN (ts.length - (i + 1)) _ _ (by omega) ⟨i + 1, Y6, B4, _, _, by simp (disch := omega) only [wu64, wu32, wu8, fdiv_nn, EO, ↓EP, EQ, EM, ↓reduceIte, Int.reduceAdd, Int.reduceEq, Int.reduceLE, Int.reduceLT, Int.reduceMul, Int.reduceNeg, Int.reducePow, Int.reduceSub, Int.reduceToNat, Nat.reduceAdd, Nat.reduceEqDiff, Nat.reduceLT, Nat.reduceLeDiff, Nat.reduceMul, reduceCtorEq, k5, Int.natCast_add], by simp (disch := omega) only [wu64, wu32, wu8, fdiv_nn, EO, ↓EP, EQ, EM, ↓reduceIte, Int.reduceAdd, Int.reduceEq, Int.reduceLE, Int.reduceLT, Int.reduceMul, Int.reduceNeg, Int.reducePow, Int.reduceSub, Int.reduceToNat, Nat.reduceAdd, Nat.reduceEqDiff, Nat.reduceLT, Nat.reduceLeDiff, Nat.reduceMul, reduceCtorEq], by simp (disch := omega) only [wu64, wu32, wu8, fdiv_nn, EO, ↓EP, EQ, EM, ↓reduceIte, Int.reduceAdd, Int.reduceEq, Int.reduceLE, Int.reduceLT, Int.reduceMul, Int.reduceNeg, Int.reducePow, Int.reduceSub, Int.reduceToNat, Nat.reduceAdd, Nat.reduceEqDiff, Nat.reduceLT, Nat.reduceLeDiff, Nat.reduceMul, reduceCtorEq], M6.nb (Fr.drewN w6 m6 nob), by omega, rfl, by simp; omega, fun t ht => ?_⟩
      rw [List.mem_append] at ht
      rcases ht with ht | ht
      · exact hgood t ht
      · simp only [List.mem_singleton] at ht
        subst ht
        exact ⟨hgt, hhl, hok.dat, by show x.data.length ≤ 1000; omega⟩
  · have hie : i = ts.length := by omega
    subst hie
    clear hN
    have hr2 : (raws Ms).length ≤ 16777216 := by omega
    have hs := split_raws (fun t ht => (hgood t ht).1) (show Ms.length ≤ 65536 by omega) hr2
    have hbb : ∀ x ∈ raws Ms, 0 ≤ x ∧ x < 256 := fun x hx => by
      unfold raws at hx
      rw [List.mem_flatten] at hx
      obtain ⟨l, hl, hx⟩ := hx
      obtain ⟨t, ht, rfl⟩ := List.mem_map.1 hl
      exact good_bytes (hgood t ht).1 (hgood t ht).2.2.1 x hx
    have F1 := M.b.fr
    obtain ⟨BA, bc, rfl, hbc, hBr⟩ := readn M.b.sl rfl
    simp (disch := omega) only [wu64, wu32, wu8, fdiv_nn, EO, ↓EP, EQ, EM, ↓reduceIte, Int.reduceAdd, Int.reduceEq, Int.reduceLE, Int.reduceLT, Int.reduceMul, Int.reduceNeg, Int.reducePow, Int.reduceSub, Int.reduceToNat, Nat.reduceAdd, Nat.reduceEqDiff, Nat.reduceLT, Nat.reduceLeDiff, Nat.reduceMul, reduceCtorEq, k5, k3, k4, r0]
    refine split_vw M.b.vw (ByteL.of hbb) (by omega) _ fun X2 us w2 T2 => ?_
    rw [hs] at T2 ⊢
    simp only [tup3]
    have F2 := F1.nb T2.g.fr
    simp (disch := omega) only [wu64, wu32, wu8, fdiv_nn, EO, ↓EP, EQ, EM, ↓reduceIte, Int.reduceAdd, Int.reduceEq, Int.reduceLE, Int.reduceLT, Int.reduceMul, Int.reduceNeg, Int.reducePow, Int.reduceSub, Int.reduceToNat, Nat.reduceAdd, Nat.reduceEqDiff, Nat.reduceLT, Nat.reduceLeDiff, Nat.reduceMul, reduceCtorEq, k3, k4]
    refine num_vw _ ?_
    simp (disch := omega) only [wu64, wu32, wu8, fdiv_nn, EO, ↓EP, EQ, EM, ↓reduceIte, Int.reduceAdd, Int.reduceEq, Int.reduceLE, Int.reduceLT, Int.reduceMul, Int.reduceNeg, Int.reducePow, Int.reduceSub, Int.reduceToNat, Nat.reduceAdd, Nat.reduceEqDiff, Nat.reduceLT, Nat.reduceLeDiff, Nat.reduceMul, reduceCtorEq, k3, k4]
    refine rsame_yes T2.tr (M.tr.nb T2.g.fr) (fun t ht => ?_) (by show Ms.length ≤ _; omega) _ fun w3 f3 => ?_
    · have h1 := (hgood t ht).2.1
      have h2 := (hgood t ht).2.2.2
      omega
    simp (disch := omega) only [wu64, wu32, wu8, fdiv_nn, EO, ↓EP, EQ, EM, ↓reduceIte, Int.reduceAdd, Int.reduceEq, Int.reduceLE, Int.reduceLT, Int.reduceMul, Int.reduceNeg, Int.reducePow, Int.reduceSub, Int.reduceToNat, Nat.reduceAdd, Nat.reduceEqDiff, Nat.reduceLT, Nat.reduceLeDiff, Nat.reduceMul, reduceCtorEq]
    refine live_vw (hT.nb (F2.nb f3)) _ fun w4 f4 => ?_
    simp (disch := omega) only [wu64, wu32, wu8, fdiv_nn, EO, ↓EP, EQ, EM, ↓reduceIte, Int.reduceAdd, Int.reduceEq, Int.reduceLE, Int.reduceLT, Int.reduceMul, Int.reduceNeg, Int.reducePow, Int.reduceSub, Int.reduceToNat, Nat.reduceAdd, Nat.reduceEqDiff, Nat.reduceLT, Nat.reduceLeDiff, Nat.reduceMul, reduceCtorEq]
    exact hK w4 ((F2.nb f3).nb f4)
end Go.Proofs.YtcflokckfjkdpaaDoor.Der
end
section
namespace Go.Proofs.YtcflokckfjkdpaaDoor
open Go
set_option maxRecDepth 100000
theorem stand_of {P : Program} {fn : Func} (h : (fn.params.toList.all fun t => !P.wantsStandIn t) = true) : ∀ (j : Nat) t, fn.params[j]? = some t → P.wantsStandIn t = false := by
  intro j t hj
  have := List.all_eq_true.1 h t (by rw [Array.mem_toList_iff]; exact Array.mem_of_getElem? hj)
  simpa using this
open Go Go.ChangeShapes Go.WideShapes Go.ChangeAt Go.WideMaps Go.WideElems Go.RowKit Go.Proofs.YtcflokckfjkdpaaDoor.Eng Go.Proofs.YtcflokckfjkdpaaDoor.Der
theorem cells_l8 : Tryd.prog.cellsOf 22 = 1 := by kernel_rfl
theorem cells_i : Tryd.prog.cellsOf 3 = 1 := by kernel_rfl
theorem cells_b : Tryd.prog.cellsOf 4 = 1 := by kernel_rfl
theorem cells_tlv : Tryd.prog.cellsOf 53 = 5 := by kernel_rfl
theorem open_tlvs {H : Type} {enc : TypeId × Value → H} {W : World} {base : Nat} {v : Value} {d : DataW H} {p : List MemPlace} (hval : Value.okWide Tryd.prog W .any base 47 v) (h : DataW.Trod enc Tryd.prog W 0 (fun _ => true) true 47 v d p) :
    ∃ ts : List Tlv, TR W v ts ∧ (∀ t ∈ ts, Okt t) ∧ ts.length ≤ maxLen := by
  obtain ⟨A, n, c, rfl, hc, hm, hz⟩ := Row.open_recs Tryd.underlying47 cells_tlv hval h
  rcases hz with rfl | ⟨a, rfl, hz⟩
  · exact ⟨[], ⟨A, c, [], rfl, Nat.zero_le _, .inl rfl, rfl, fun i v l h => by simp at h⟩, by simp, Nat.zero_le _⟩
  have each : ∀ i, i < n → ∃ q : Tlv × Value × Value, (∀ j v, (tcells q.1 q.2.1 q.2.2)[j]? = some v → W.cell? (a.add (i * 5 + j)) = some v) ∧ (∃ B c, q.2.1 = .slice B q.1.data.length c ∧ q.1.data.length ≤ c ∧ Rd W B (nums .u8 q.1.data)) ∧ (∃ B c, q.2.2 = .slice B q.1.raw.length c ∧ q.1.raw.length ≤ c ∧ Rd W B (nums .u8 q.1.raw)) ∧ Okt q.1 := by
    intro i hi
    obtain ⟨cs, fuel, y, hl, hcell, hy⟩ := hz i hi
    obtain ⟨v0, v1, v2, v3, v4, n', y0, y1, y2, y3, y4, rfl, g0, g1, g2, g3, g4⟩ := Row.open_rec5 Tryd.underlying53 hl rfl rfl rfl rfl rfl cells_i cells_i cells_b cells_l8 cells_l8 hy
    obtain ⟨a0, rfl, w0⟩ := Row.cell_int Tryd.underlying3 g0
    obtain ⟨a1, rfl, w1⟩ := Row.cell_int Tryd.underlying3 g1
    obtain ⟨a2, rfl⟩ := Row.cell_bool Tryd.underlying4 g2
    obtain ⟨B3, c3, l3, rfl, hc3, hr3, hw3, hm3⟩ := Row.cell_slv Tryd.underlying22 Tryd.underlying5 cells_u8 g3
    obtain ⟨B4, c4, l4, rfl, hc4, hr4, hw4, hm4⟩ := Row.cell_slv Tryd.underlying22 Tryd.underlying5 cells_u8 g4
    exact ⟨(⟨a0, a1, a2, l3, l4⟩, .slice B3 l3.length c3, .slice B4 l4.length c4), hcell, ⟨B3, c3, rfl, hc3, hr3⟩, ⟨B4, c4, rfl, hc4, hr4⟩, ⟨Row.wf_i64 w0, Row.wf_i64 w1, fun x hx => Row.wf_u8 (hw3 x hx), by unfold maxLen at hm3; exact hm3⟩⟩
  obtain ⟨f, hf⟩ : ∃ f : Nat → Tlv × Value × Value, ∀ i, i < n → (∀ j v, (tcells (f i).1 (f i).2.1 (f i).2.2)[j]? = some v → W.cell? (a.add (i * 5 + j)) = some v) ∧ (∃ B c, (f i).2.1 = .slice B (f i).1.data.length c ∧ (f i).1.data.length ≤ c ∧ Rd W B (nums .u8 (f i).1.data)) ∧ (∃ B c, (f i).2.2 = .slice B (f i).1.raw.length c ∧ (f i).1.raw.length ≤ c ∧ Rd W B (nums .u8 (f i).1.raw)) ∧ Okt (f i).1 :=
    ⟨fun i => if h : i < n then Classical.choose (each i h) else (noTlv, .bool true, .bool true), fun i hi => by simp only [dif_pos hi]; exact Classical.choose_spec (each i hi)⟩
  have key : ∀ m, m ≤ n → ∃ vs : List Value, vs.length = 2 * m ∧ (∀ j v, (cellsT ((List.range m).map fun i => (f i).1) vs)[j]? = some v → W.cell? (a.add j) = some v) ∧ (∀ (i : Nat) v l, vs[i]? = some v → (tflat ((List.range m).map fun i => (f i).1))[i]? = some l → Vw .u8 W v l) := by
    intro m
    induction m with
    | zero => exact fun _ => ⟨[], rfl, fun j v h => by simp [cellsT] at h, fun i v l h => by simp at h⟩
    | succ m ih =>
      intro hm
      obtain ⟨vs, e1, e2, e3⟩ := ih (by omega)
      obtain ⟨p1, p2, p3, _⟩ := hf m (by omega)
      have hl : vs.length = 2 * ((List.range m).map fun i => (f i).1).length := by simpa using e1
      have hcl := cellsT_len _ _ hl
      have hfl := tflat_len ((List.range m).map fun i => (f i).1)
      simp only [List.length_map, List.length_range] at hcl hfl
      refine ⟨vs ++ [(f m).2.1, (f m).2.2], by simp [e1]; omega, fun j v h => ?_, fun i v l h1 h2 => ?_⟩
      · rw [List.range_succ, List.map_append, List.map_singleton, cellsT_add _ _ _ _ _ hl] at h
        by_cases hj : j < m * 5
        · rw [List.getElem?_append_left (by omega)] at h
          exact e2 j v h
        · rw [List.getElem?_append_right (by omega), hcl] at h
          have := p1 _ _ h
          rwa [show m * 5 + (j - m * 5) = j by omega] at this
      · rw [List.range_succ, List.map_append, List.map_singleton, tflat_add] at h2
        by_cases hi : i < 2 * m
        · rw [List.getElem?_append_left (by omega)] at h1 h2
          exact e3 i v l h1 h2
        · rw [List.getElem?_append_right (by omega), e1] at h1
          rw [List.getElem?_append_right (by omega), hfl] at h2
          match hk : i - 2 * m, h1, h2 with
          | 0, h1, h2 =>
            simp at h1 h2
            subst h1 h2
            exact p2
          | 1, h1, h2 =>
            simp at h1 h2
            subst h1 h2
            exact p3
          | k + 2, h1, h2 => simp at h1
  obtain ⟨vs, e1, e2, e3⟩ := key n (Nat.le_refl _)
  refine ⟨(List.range n).map fun i => (f i).1, ⟨some a, c, vs, by simp, by simpa using hc, Row.rd_of_cells fun i hi => ?_, by simpa using e1, e3⟩, fun t ht => ?_, by simpa using hm⟩
  · rw [e2 i _ (List.getElem?_eq_getElem hi), List.getElem?_eq_getElem hi]
  · obtain ⟨i, hi, rfl⟩ := List.mem_map.1 ht
    exact (hf i (List.mem_range.1 hi)).2.2.2
theorem derBack_walk {H : Type} {enc : TypeId × Value → H} (W : World) (base : Nat) (args : Array Value) (ds : List (DataW H)) (p : List MemPlace) (hA0 : DataW.TrodAll enc Tryd.prog W 0 (fun _ => true) true Tryd.f8.params.toList args.toList ds p)
    (hval : ∀ (j : Nat) t v, Tryd.f8.params[j]? = some t → args[j]? = some v → Value.okWide Tryd.prog W .any base t v) (hz : (DataW.weightsEach Tryd.prog Tryd.f8.params.toList ds).all (· ≤ reachBytes) = true) (hL : laidMetH Tryd.prog laid2 W) :
    callK Tryd.prog 8 args.toList W fun v w' => v = .bool true ∧ Fr W w' nob := by
  have hA : DataW.TrodAll enc Tryd.prog W 0 (fun _ => true) true Tryd.f8.params.toList args.toList ds p := hA0
  rw [Tryd.params8] at hA hval
  obtain ⟨v0, d0, rfl, rfl, h0⟩ := trodAll_one hA
  obtain ⟨ts, hX, hk, hm⟩ := open_tlvs (hval 0 47 v0 rfl rfl) h0
  exact derback_vw (of_laid hL) hX hk (by unfold maxLen at hm; exact hm) _ fun w' f => ⟨rfl, f⟩
theorem derBack_lifted (os : Os) (started : os.Started) (H : Type) (enc : TypeId × Value → H) :
    ReturnsInHanded {} Tryd.checked os 8 .any (fun w args => (Rows.derBackSpec.pre enc Tryd.prog Tryd.f8 [] false w args ∧ laidMetH Tryd.prog laid2 w) ∧ sizedMet enc Tryd.prog Tryd.f8 (OpenSpec.ofChange Rows.derBackSpec) false w args)
      (Rows.derBackSpec.post enc Tryd.prog Tryd.f8 false true false false) :=
  Row.lifted_of (C := Tryd.checked) (X := fun w _ => laidMetH Tryd.prog laid2 w) (fun _ _ _ hh h => h.of_heap hh) own started (by kernel_rfl) Tryd.func8
    (ChangeSpec.witness_shaped (enc := enc) (C := Tryd.checked) (os := os) (X := fun w _ => laidMetH Tryd.prog laid2 w) false (World.laidAll Tryd.prog os laid2) #[.slice none 0 0] 8 (World.laidAll_os _ _ _) (lay_shaped os) (by kernel_rfl) (by kernel_rfl) (by kernel_rfl) (door_met os _))
    laidOut (tb := 4) (by kernel_rfl) Tryd.underlying4 rfl (of_decide_eq_true (by kernel_rfl)) (fun ds h => by rw [show Tryd.f8.params.size = 1 by kernel_rfl] at h; obtain ⟨a, rfl⟩ := Row.len1 h; exact ⟨rfl, rfl, rfl⟩)
    (fun W base args ds p hA hval hz hL => derBack_walk (enc := enc) W base args ds p hA hval hz hL)
theorem derBack_holds : Rows.DerBackSaid :=
  OpenClaim.holds_of_wide 8 Tryd.f8 rfl rfl rfl rfl rfl rfl rfl ⟨rfl, rfl, rfl, rfl, rfl⟩ rfl rfl rfl rfl rfl (by kernel_rfl) Tryd.func8 (by kernel_rfl)
    (of_decide_eq_true (by kernel_rfl)) (by unfold Func.isWrapper; first | (rw [if_pos (by decide +kernel)]; kernel_rfl) | (rw [if_neg (by decide +kernel)]; exact ⟨rfl, rfl⟩))
    (fun os started H enc _ => derBack_lifted os started H enc)
theorem derBack_card : Rows.DerBackCardSaid :=
  Claim7.holds_tied_plain_at .later [] [.data, .data, .data, .data, .pinned] true (true, "b0f98ca86498d09aa392f72418b7d9cd37849646039c304add223e9f0f14904e") true
    derBack_holds (fun _ h => by cases h) (by kernel_rfl) (fun _ h => by cases h) derBack_row_tie rfl ⟨rfl, rfl⟩ (by kernel_rfl) rfl
    (fun f fn hf hfn => by
      obtain rfl : f = 8 := Option.some.inj ((show Tryd.prog.funcNamed "chirograph/chirographlaw04.DerBack" = some 8 by kernel_rfl).symm.trans hf) |>.symm
      obtain rfl : fn = Tryd.f8 := (Option.some.inj (Tryd.func8.symm.trans hfn)).symm
      exact ⟨by kernel_rfl, stand_of (by kernel_rfl)⟩)
    (by kernel_rfl)
end Go.Proofs.YtcflokckfjkdpaaDoor
end
