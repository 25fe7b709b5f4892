/- RsaRaws: the row and the tied card: whatever the key and the signature, the program's Raw answers as the document's, and both stay; no condition. -/
import Derived.Test.YtcgplgpdcfocpaaDoorCards
import Derived.Test.YtcgplgpdcfocpaaDoorTie
import Derived.SevenTiedAt
import Derived.Test.YtcgplgpdcfocpaaDoorRsaRawsr3
set_option linter.unusedVariables false
set_option linter.unusedSimpArgs false
open Int renaming reduceAdd → Za, reduceEq → Zb, reduceLE → Zc, reduceLT → Zd, reduceMul → Ze, reduceNeg → Zf, reducePow → Zg, reduceSub → Zj, reduceToNat → Zk
open Nat renaming reduceAdd → Zl, reduceEqDiff → Zm, reduceLT → Zn, reduceLeDiff → Zp, reduceMul → Zq
section
set_option linter.unusedVariables false
set_option linter.unusedSimpArgs false
namespace Go.Proofs.YtcgplgpdcfocpaaDoor.Der
open Go Go.RowKit Go.Proofs Go.Proofs.YtcgplgpdcfocpaaDoor.Eng Go.Proofs.YtcgplgpdcfocpaaDoor.Code
set_option maxRecDepth 100000
attribute [local irreducible] callK S.W opsW scrW scrT
theorem arcsGo_bd : ∀ (s l : List Int) (v : Int) (n : Nat) (r : List Int), arcsGo s l v n = some r → 0 ≤ v → v ≤ 1099511627776 → (∀ x ∈ l, 0 ≤ x ∧ x ≤ 1099511627776) →
    (∀ x ∈ r, 0 ≤ x ∧ x ≤ 1099511627776) ∧ r.length ≤ l.length + s.length
  | [], l, v, n, r, h, h1, h2, h3 => by
    simp only [arcsGo, Option.some.injEq] at h
    subst h
    exact ⟨h3, by simp⟩
  | c :: s, l, v, n, r, h, h1, h2, h3 => by
    rw [arcsGo] at h
    split at h
    · have := arcsGo_bd s _ _ _ r h (by omega) (by omega) (fun x hx => by
        rw [List.mem_append] at hx
        rcases hx with hx | hx
        · exact h3 x hx
        · simp at hx; omega)
      refine ⟨this.1, ?_⟩
      have h4 := this.2
      simp at h4 ⊢; omega
    · split at h
      · simp at h
      · rename_i h5
        have sb := satA_bd (v := 10 * v + (c - 48)) (by omega)
        have := arcsGo_bd s _ _ _ r h sb.1 sb.2 h3
        refine ⟨this.1, ?_⟩
        have h4 := this.2
        simp at h4 ⊢; omega
theorem arcs_bd {s l : List Int} (h : arcsR s = some l) : (∀ x ∈ l, 0 ≤ x ∧ x ≤ 1099511627776) ∧ l.length ≤ s.length + 1 ∧ 2 ≤ l.length ∧ at' l 0 ≤ 2 := by
  unfold arcsR at h
  cases hh : arcsGo (s ++ [46]) [] 0 0 with
  | none => rw [hh] at h; simp at h
  | some r =>
    rw [hh] at h
    simp only at h
    split at h
    · simp at h
    · rename_i h1
      simp only [Option.some.injEq] at h
      subst h
      have := arcsGo_bd _ _ _ _ _ hh (by omega) (by omega) (by simp)
      refine ⟨this.1, ?_, ?_, ?_⟩
      · have h2 := this.2
        simp at h2; omega
      · apply Nat.le_of_not_lt; exact fun h => h1 (.inl h)
      · apply Int.le_of_not_gt; exact fun h => h1 (.inr (.inl h))
theorem at_mem {l : List Int} {i : Nat} (h : i < l.length) : at' l (i : Int) ∈ l := by
  rw [atN, List.getD_eq_getElem?_getD, List.getElem?_eq_getElem h]
  exact List.getElem_mem h
def sevens (l : List Int) : List Int := l.flatMap fun v => sevenR v.toNat
theorem sevens_snoc (l : List Int) (x : Int) : sevens (l ++ [x]) = sevens l ++ sevenR x.toNat := by simp [sevens]
set_option maxHeartbeats 2000000 in
theorem putoid_vw {w : World} {u : List UInt8} (hm : u.length ≤ 1073741824) (K : Value → World → Prop)
    (hK : ∀ v' w', Gw .u8 w w' v' (putOidR (ints u)).1 → K (pr2 v' (putOidR (ints u)).2) w') : callK Tryd.prog 56 [.string (S u)] w K := by
  refine call_of Tryd.func56 Code.h56 (by simp [Code.c56]) ?_
  simp (disch := omega) only [wu64, wu32, wu8, fdiv_nn, EO, ↓EP, EQ, EM, ↓reduceIte, Za, Zb, Zc, Zd, Ze, Zf, Zg, Zj, Zk, Zl, Zm, Zn, Zp, Zq, reduceCtorEq, Code.c56]
  refine arcs_vw hm _ fun v1 w1 g1 => ?_
  simp only [prb]
  unfold putOidR at hK
  cases hl : arcsR (ints u) with
  | none =>
    rw [hl] at hK g1
    simp only [Option.isSome_none] at hK ⊢
    simp (disch := omega) only [wu64, wu32, wu8, fdiv_nn, EO, ↓EP, EQ, EM, ↓reduceIte, Za, Zb, Zc, Zd, Ze, Zf, Zg, Zj, Zk, Zl, Zm, Zn, Zp, Zq, reduceCtorEq, Bool.not_false]
    exact hK _ w1 ((Gw.nil .u8 w).step g1.fr)
  | some l =>
  rw [hl] at hK g1
  simp only [Option.isSome_some, Option.getD_some] at hK g1 ⊢
  obtain ⟨hbd, hll, h2, h02⟩ := arcs_bd hl
  rw [ints_len] at hll
  obtain ⟨A, c, rfl, hc, hr⟩ := readn g1.sl rfl
  obtain ⟨ad, rfl, cell⟩ := pos_cellsK hr (by omega)
  simp (disch := omega) only [wu64, wu32, wu8, fdiv_nn, EO, ↓EP, EQ, EM, ↓reduceIte, Za, Zb, Zc, Zd, Ze, Zf, Zg, Zj, Zk, Zl, Zm, Zn, Zp, Zq, reduceCtorEq, Bool.not_true]
  refine loop_inv (fun t ρ w' => w' = w1 ∧ ∃ i : Nat, ρ 20 = .int .i64 i ∧ i ≤ l.length ∧ t = l.length - i ∧ (l.drop i).any (fun v => decide (2147483647 < v)) = l.any (fun v => decide (2147483647 < v))) l.length ⟨rfl, 0, by simp (disch := omega) only [wu64, wu32, wu8, fdiv_nn, EO, ↓EP, EQ, EM, ↓reduceIte, Za, Zb, Zc, Zd, Ze, Zf, Zg, Zj, Zk, Zl, Zm, Zn, Zp, Zq, reduceCtorEq], by omega, by omega, by simp⟩ ?_
  rintro t ρ w' hf ⟨rfl, i, h20, hi, rfl, hany⟩ N hN
  have r4 : ρ 4 = .slice (some ad) l.length c := by rw [hf 4 rfl]; simp (disch := omega) only [wu64, wu32, wu8, fdiv_nn, EO, ↓EP, EQ, EM, ↓reduceIte, Za, Zb, Zc, Zd, Ze, Zf, Zg, Zj, Zk, Zl, Zm, Zn, Zp, Zq, reduceCtorEq]
  have r18 : ρ 18 = .slice (some ad) l.length c := by rw [hf 18 rfl]; simp (disch := omega) only [wu64, wu32, wu8, fdiv_nn, EO, ↓EP, EQ, EM, ↓reduceIte, Za, Zb, Zc, Zd, Ze, Zf, Zg, Zj, Zk, Zl, Zm, Zn, Zp, Zq, reduceCtorEq]
  have r19 : ρ 19 = .int .i64 l.length := by rw [hf 19 rfl]; simp (disch := omega) only [wu64, wu32, wu8, fdiv_nn, EO, ↓EP, EQ, EM, ↓reduceIte, Za, Zb, Zc, Zd, Ze, Zf, Zg, Zj, Zk, Zl, Zm, Zn, Zp, Zq, reduceCtorEq]
  clear hf
  by_cases hil : (i : Int) < (l.length : Int)
  · have ci := cell i (by omega)
    rw [drop_at (show i < l.length by omega), List.any_cons] at hany
    by_cases hb : 2147483647 < at' l (i : Int)
    · rw [decide_eq_true hb, Bool.true_or] at hany
      rw [if_pos hany.symm] at hK
      simp (disch := omega) only [wu64, wu32, wu8, fdiv_nn, EO, ↓EP, EQ, EM, ↓reduceIte, Za, Zb, Zc, Zd, Ze, Zf, Zg, Zj, Zk, Zl, Zm, Zn, Zp, Zq, reduceCtorEq, W_join, h20, r18, r19, ci]
      exact hK _ w' ((Gw.nil .u8 w).step g1.fr)
    · rw [decide_eq_false hb, Bool.false_or] at hany
      simp (disch := omega) only [wu64, wu32, wu8, fdiv_nn, EO, ↓EP, EQ, EM, ↓reduceIte, Za, Zb, Zc, Zd, Ze, Zf, Zg, Zj, Zk, Zl, Zm, Zn, Zp, Zq, reduceCtorEq, W_join, h20, r18, r19, ci]
      exact hN (l.length - (i + 1)) _ _ (by omega) ⟨rfl, i + 1, by simp (disch := omega) only [wu64, wu32, wu8, fdiv_nn, EO, ↓EP, EQ, EM, ↓reduceIte, Za, Zb, Zc, Zd, Ze, Zf, Zg, Zj, Zk, Zl, Zm, Zn, Zp, Zq, reduceCtorEq, h20, Int.natCast_add], by omega, rfl, hany⟩
  have hie : i = l.length := by omega
  subst hie
  rw [List.drop_length, List.any_nil] at hany
  rw [if_neg (by rw [← hany]; simp)] at hK
  have hsm : ∀ i : Nat, i < l.length → 0 ≤ at' l (i : Int) ∧ at' l (i : Int) ≤ 2147483647 := fun i hi => by
    have h1 := hbd _ (at_mem hi)
    refine ⟨h1.1, ?_⟩
    apply Int.le_of_not_gt
    intro hgt
    have : l.any (fun v => decide (2147483647 < v)) = true := List.any_eq_true.2 ⟨_, at_mem hi, decide_eq_true hgt⟩
    rw [this] at hany
    simp at hany
  clear hany hN
  have c0 := cell 0 (by omega)
  have c1 := cell 1 (by omega)
  have b0 := hsm 0 (by omega)
  have b1 := hsm 1 (by omega)
  rw [show ((0 : Nat) : Int) = 0 by rfl] at c0 b0
  rw [show ((1 : Nat) : Int) = 1 by rfl] at c1 b1
  have cellf : ∀ w2, Fr w' w2 nob → w2.cell? (ad.add 0) = some (.int .u64 (at' l 0)) ∧ w2.cell? (ad.add 1) = some (.int .u64 (at' l 1)) := fun w2 f => by
    obtain ⟨ad', e', _, hcl⟩ := (hr.nb f).get (by rw [nums_length]; omega)
    cases e'
    have q0 := hcl.numN (j := 0) (by omega)
    have q1 := hcl.numN (j := 1) (by omega)
    exact ⟨q0, q1⟩
  obtain ⟨z, hz⟩ : ∃ z : Nat, 40 * at' l 0 + at' l 1 = (z : Int) := ⟨(40 * at' l 0 + at' l 1).toNat, by omega⟩
  rw [hz, Int.toNat_natCast] at hK
  simp (disch := omega) only [wu64, wu32, wu8, fdiv_nn, EO, ↓EP, EQ, EM, ↓reduceIte, Za, Zb, Zc, Zd, Ze, Zf, Zg, Zj, Zk, Zl, Zm, Zn, Zp, Zq, reduceCtorEq, W_join, h20, r4, r18, r19, c0, c1, hz]
  intro m1
  refine seven_vw (by omega) _ fun v2 w2 g2 => ?_
  have f2 := (Fr.drewN w' (1 + m1) nob).nb g2.fr
  obtain ⟨d0, d1⟩ := cellf w2 f2
  have ezz : sevenR z ++ (l.drop 2).flatMap (fun v => sevenR v.toNat) = sevenR z ++ sevens (l.drop 2) := rfl
  rw [ezz] at hK
  have e2 : (2 : Int).toNat = 2 := rfl
  simp (disch := omega) only [wu64, wu32, wu8, fdiv_nn, EO, ↓EP, EQ, EM, ↓reduceIte, Za, Zb, Zc, Zd, Ze, Zf, Zg, Zj, Zk, Zl, Zm, Zn, Zp, Zq, reduceCtorEq, W_join, h20, r4, r18, r19, d0, d1, hz, e2]
  intro m2
  have hR2 : Rd w' (subA (some ad) c 2 1) (nums .u64 (l.drop 2)) := hr.subA c 2 hc
  generalize subA (some ad) c 2 1 = A2 at hR2 ⊢
  have hd2 : (l.drop 2).length = l.length - 2 := by simp
  have hs2 : ∀ i : Nat, i < (l.drop 2).length → 0 ≤ at' (l.drop 2) (i : Int) ∧ at' (l.drop 2) (i : Int) ≤ 2147483647 := fun i hi => by
    rw [at_drop]; exact hsm (2 + i) (by omega)
  generalize hq : l.drop 2 = q at hR2 hd2 hs2 hK
  have G2 : Gw .u8 w' (w2.drewN m2) v2 (sevenR z) := (g2.step (Fr.drewN w2 m2 nob)).from (Fr.drewN w' (1 + m1) nob)
  generalize w2.drewN m2 = w3 at G2 ⊢
  have eqn : ((l.length - 2 : Nat) : Int) = (q.length : Int) := by omega
  have hsl := seven_len z
  refine loop_inv (fun t ρ w4 => ∃ (j : Nat) (B : Value), ρ 39 = .int .i64 j ∧ ρ 8 = B ∧ j ≤ q.length ∧ t = q.length - j ∧ Gw .u8 w' w4 B (sevenR z ++ sevens (q.take j)) ∧ (sevens (q.take j)).length ≤ 11 * j) q.length ⟨0, v2, by simp (disch := omega) only [wu64, wu32, wu8, fdiv_nn, EO, ↓EP, EQ, EM, ↓reduceIte, Za, Zb, Zc, Zd, Ze, Zf, Zg, Zj, Zk, Zl, Zm, Zn, Zp, Zq, reduceCtorEq], by simp (disch := omega) only [wu64, wu32, wu8, fdiv_nn, EO, ↓EP, EQ, EM, ↓reduceIte, Za, Zb, Zc, Zd, Ze, Zf, Zg, Zj, Zk, Zl, Zm, Zn, Zp, Zq, reduceCtorEq], by omega, by omega, by simpa [sevens] using G2, by simp [sevens]⟩ ?_
  rintro t ρ w4 hf ⟨j, B, h39, h8, hj, rfl, G, hlen⟩ N hN
  have r37 : ρ 37 = .slice A2 (l.length - 2) (c - 2) := by rw [hf 37 rfl]; simp (disch := omega) only [wu64, wu32, wu8, fdiv_nn, EO, ↓EP, EQ, EM, ↓reduceIte, Za, Zb, Zc, Zd, Ze, Zf, Zg, Zj, Zk, Zl, Zm, Zn, Zp, Zq, reduceCtorEq, r4, e2]
  have r38 : ρ 38 = .int .i64 q.length := by rw [hf 38 rfl]; simp (disch := omega) only [wu64, wu32, wu8, fdiv_nn, EO, ↓EP, EQ, EM, ↓reduceIte, Za, Zb, Zc, Zd, Ze, Zf, Zg, Zj, Zk, Zl, Zm, Zn, Zp, Zq, reduceCtorEq, r4, e2, eqn]
  clear hf
  by_cases hjl : (j : Int) < (q.length : Int)
  · obtain ⟨a2, rfl, cellq⟩ := pos_cellsK (hR2.nb G.fr) (by omega)
    have cj := cellq j (by omega)
    have bj := hs2 j (by omega)
    obtain ⟨y, hy⟩ : ∃ y : Nat, at' q (j : Int) = (y : Int) := ⟨(at' q (j : Int)).toNat, by omega⟩
    rw [hy] at cj
    have hst : sevens (q.take (j + 1)) = sevens (q.take j) ++ sevenR y := by
      rw [take_snoc (by omega), sevens_snoc, hy, Int.toNat_natCast]
    have hsy := seven_len y
    simp (disch := omega) only [wu64, wu32, wu8, fdiv_nn, EO, ↓EP, EQ, EM, ↓reduceIte, Za, Zb, Zc, Zd, Ze, Zf, Zg, Zj, Zk, Zl, Zm, Zn, Zp, Zq, reduceCtorEq, W_join, h39, h8, r37, r38, cj]
    refine seven_vw (by omega) _ fun v5 w5 g5 => ?_
    obtain ⟨A5, c5, rfl, hc5, hr5⟩ := readn g5.sl rfl
    have G5 := G.step g5.fr
    simp (disch := omega) only [wu64, wu32, wu8, fdiv_nn, EO, ↓EP, EQ, EM, ↓reduceIte, Za, Zb, Zc, Zd, Ze, Zf, Zg, Zj, Zk, Zl, Zm, Zn, Zp, Zq, reduceCtorEq, h39, h8]
    refine app_num G5.sl rfl hr5 (by rw [List.length_append]; omega) (by omega) fun v6 w6 a6 => ?_
    have G6 := G5.apd a6
    rw [List.append_assoc, ← hst] at G6
    simp (disch := omega) only [wu64, wu32, wu8, fdiv_nn, EO, ↓EP, EQ, EM, ↓reduceIte, Za, Zb, Zc, Zd, Ze, Zf, Zg, Zj, Zk, Zl, Zm, Zn, Zp, Zq, reduceCtorEq, h39]
    exact hN (q.length - (j + 1)) _ _ (by omega) ⟨j + 1, v6, by simp (disch := omega) only [wu64, wu32, wu8, fdiv_nn, EO, ↓EP, EQ, EM, ↓reduceIte, Za, Zb, Zc, Zd, Ze, Zf, Zg, Zj, Zk, Zl, Zm, Zn, Zp, Zq, reduceCtorEq, h39, Int.natCast_add], by simp (disch := omega) only [wu64, wu32, wu8, fdiv_nn, EO, ↓EP, EQ, EM, ↓reduceIte, Za, Zb, Zc, Zd, Ze, Zf, Zg, Zj, Zk, Zl, Zm, Zn, Zp, Zq, reduceCtorEq], by omega, rfl, G6, by rw [hst, List.length_append]; omega⟩
  · have hje : j = q.length := by omega
    subst hje
    rw [List.take_of_length_le (Nat.le_refl _)] at G
    simp (disch := omega) only [wu64, wu32, wu8, fdiv_nn, EO, ↓EP, EQ, EM, ↓reduceIte, Za, Zb, Zc, Zd, Ze, Zf, Zg, Zj, Zk, Zl, Zm, Zn, Zp, Zq, reduceCtorEq, W_join, h39, h8, r37, r38]
    exact hK _ w4 (G.from g1.fr)
end Go.Proofs.YtcgplgpdcfocpaaDoor.Der
end
section
set_option linter.unusedVariables false
set_option linter.unusedSimpArgs false
namespace Go.Proofs.YtcgplgpdcfocpaaDoor.Der
open Go Go.RowKit Go.Proofs Go.Proofs.YtcgplgpdcfocpaaDoor.Eng Go.Proofs.YtcgplgpdcfocpaaDoor.Code
set_option maxRecDepth 100000
attribute [local irreducible] callK S.W opsW scrW scrT
def foldv (l : List Int) : Int := l.foldl (fun v c => satA (10 * v + (c - 48))) 0
theorem foldv_snoc (l : List Int) (c : Int) : foldv (l ++ [c]) = satA (10 * foldv l + (c - 48)) := by simp [foldv]
def seg (d : List Int) (f i : Nat) : List Int := (d.drop f).take (i - f)
theorem seg_snoc {d : List Int} {f i : Nat} (h : f ≤ i) (hi : i < d.length) : seg d f (i + 1) = seg d f i ++ [at' d (i : Int)] := by
  unfold seg
  rw [show i + 1 - f = (i - f) + 1 by omega, take_snoc (by simp; omega), at_drop, show f + (i - f) = i by omega]
theorem seg_self (d : List Int) (f : Nat) : seg d f f = [] := by simp [seg]
structure At (d l : List Int) (f i : Nat) (T : Option (List Int)) : Prop where
  dig : ∀ x ∈ seg d f i, 48 ≤ x ∧ x ≤ 57
  bad : f + 1 < i → at' d (f : Int) = 48 → T = none
  good : ¬ (f + 1 < i ∧ at' d (f : Int) = 48) → arcsGo ((d ++ [46]).drop i) l (foldv (seg d f i)) (min (i - f) 20) = T
theorem drop46 {d : List Int} {i : Nat} (h : i ≤ d.length) : (d ++ [46]).drop i = at' (d ++ [46]) (i : Int) :: (d ++ [46]).drop (i + 1) := drop_at (by simp; omega)
theorem at46 {d : List Int} {i : Nat} (h : i < d.length) : at' (d ++ [46]) (i : Int) = at' d (i : Int) := by
  rw [atN, atN, List.getD_eq_getElem?_getD, List.getD_eq_getElem?_getD, List.getElem?_append_left h]
theorem At.first {d l : List Int} {f : Nat} {T : Option (List Int)} (h : arcsGo ((d ++ [46]).drop f) l 0 0 = T) : At d l f f T :=
  ⟨by rw [seg_self]; simp, fun h1 => by omega, fun _ => by rw [seg_self, Nat.sub_self]; exact h⟩
theorem seg_one {d : List Int} {f : Nat} (h : f < d.length) : seg d f (f + 1) = [at' d (f : Int)] := by
  rw [seg_snoc (Nat.le_refl f) h, seg_self]; rfl
theorem At.zero {d l : List Int} {f : Nat} {T : Option (List Int)} (h : At d l f (f + 1) T) (hf : f < d.length) : (foldv (seg d f (f + 1)) = 0) ↔ at' d (f : Int) = 48 := by
  have hd := h.dig (at' d (f : Int)) (by rw [seg_one hf]; simp)
  rw [seg_one hf]
  simp only [foldv, List.foldl_cons, List.foldl_nil, satA]
  split <;> constructor <;> intro <;> omega
theorem At.digit {d l : List Int} {f i : Nat} {T : Option (List Int)} (h : At d l f i T) (hfi : f ≤ i) (hi : i < d.length) (h0 : 48 ≤ at' d (i : Int)) (h9 : at' d (i : Int) ≤ 57) : At d l f (i + 1) T := by
  have key : ¬ (f + 1 < i ∧ at' d (f : Int) = 48) → (if i = f + 1 ∧ at' d (f : Int) = 48 then none else arcsGo ((d ++ [46]).drop (i + 1)) l (foldv (seg d f (i + 1))) (min (i + 1 - f) 20)) = T := by
    intro hc
    have := h.good hc
    rw [drop46 (by omega), at46 hi, arcsGo, if_neg (by omega)] at this
    by_cases h1 : i = f + 1
    · subst h1
      by_cases hz : at' d (f : Int) = 48
      · rw [if_pos (.inr (.inr ⟨by omega, (h.zero (by omega)).2 hz⟩))] at this
        rw [if_pos ⟨rfl, hz⟩]; exact this
      · rw [if_neg (fun hx => by
          rcases hx with hx | hx | hx
          · omega
          · omega
          · exact hz ((h.zero (by omega)).1 hx.2))] at this
        rw [if_neg (fun hx => hz hx.2), seg_snoc hfi hi, foldv_snoc, ← this]
        congr 1; omega
    · rw [if_neg (by omega)] at this
      rw [if_neg (fun hx => h1 hx.1), seg_snoc hfi hi, foldv_snoc, ← this]
      congr 1; omega
  refine ⟨?_, fun h1 h2 => ?_, fun hc => ?_⟩
  · rw [seg_snoc hfi hi]
    intro x hx
    rw [List.mem_append] at hx
    rcases hx with hx | hx
    · exact h.dig x hx
    · simp at hx; omega
  · by_cases h3 : f + 1 < i
    · exact h.bad h3 h2
    · have := key (fun hx => h3 hx.1)
      rw [if_pos ⟨by omega, h2⟩] at this
      exact this.symm
  · have := key (fun hx => hc ⟨by omega, hx.2⟩)
    rwa [if_neg (fun hx => hc ⟨by omega, hx.2⟩)] at this
theorem At.next {d l : List Int} {f i : Nat} {T : Option (List Int)} (h : At d l f i T) (hi : i ≤ d.length) (h46 : at' (d ++ [46]) (i : Int) = 46) (hf : f < i) (hb : ¬ (at' d (f : Int) = 48 ∧ f + 1 < i)) : arcsGo ((d ++ [46]).drop (i + 1)) (l ++ [foldv (seg d f i)]) 0 0 = T := by
  have := h.good (fun hx => hb ⟨hx.2, hx.1⟩)
  rw [drop46 hi, h46, arcsGo, if_pos ⟨rfl, by omega⟩] at this
  exact this
end Go.Proofs.YtcgplgpdcfocpaaDoor.Der
end
section
set_option linter.unusedVariables false
set_option linter.unusedSimpArgs false
namespace Go.Proofs.YtcgplgpdcfocpaaDoor.Der
open Go Go.RowKit Go.Proofs Go.Proofs.YtcgplgpdcfocpaaDoor.Eng Go.Proofs.YtcgplgpdcfocpaaDoor.Code
set_option maxRecDepth 100000
attribute [local irreducible] callK S.W opsW scrW scrT
end Go.Proofs.YtcgplgpdcfocpaaDoor.Der
end
section
set_option linter.unusedVariables false
set_option linter.unusedSimpArgs false
namespace Go.Proofs.YtcgplgpdcfocpaaDoor.Der
open Go Go.RowKit Go.Proofs Go.Proofs.YtcgplgpdcfocpaaDoor.Eng Go.Proofs.YtcgplgpdcfocpaaDoor.Code
set_option maxRecDepth 100000
attribute [local irreducible] callK S.W opsW scrW scrT
open Go.Proofs.YtcgplgpdcfocpaaDoor.Spec
def oidU (alg : Int) : List UInt8 :=
  if alg = 1 then [49, 46, 51, 46, 49, 52, 46, 51, 46, 50, 46, 50, 54]
  else if alg = 2 then [50, 46, 49, 54, 46, 56, 52, 48, 46, 49, 46, 49, 48, 49, 46, 51, 46, 52, 46, 50, 46, 49]
  else if alg = 3 then [50, 46, 49, 54, 46, 56, 52, 48, 46, 49, 46, 49, 48, 49, 46, 51, 46, 52, 46, 50, 46, 50]
  else [50, 46, 49, 54, 46, 56, 52, 48, 46, 49, 46, 49, 48, 49, 46, 51, 46, 52, 46, 50, 46, 51]
def oidP (alg : Int) : List Int := (putOidR (ints (oidU alg))).1
def infoR (alg : Int) (sum : List Int) : List Int :=
  (putR 0 16 true [(putR 0 16 true [(putR 0 6 false [oidP alg]).1, (putR 0 5 false []).1]).1, (putR 0 4 false [sum]).1]).1
def padR (alg : Int) (sum : List Int) (n : Int) : List Int × Int :=
  if sizeI alg = 0 ∨ (sum.length : Int) ≠ sizeI alg ∨ 2048 < n then ([], 1)
  else if n < (infoR alg sum).length + 11 then ([], 2)
  else ([0, 1] ++ List.replicate (n.toNat - (infoR alg sum).length - 3) 255 ++ [0] ++ infoR alg sum, 0)
theorem putR_len (cls tag : Int) (cons : Bool) (ls : List (List Int)) : (putR cls tag cons ls).1.length ≤ 17 + (ls.map List.length).sum := by
  unfold putR
  split
  · simp
  · split
    · simp
    · rw [headR_eq]
      simp only [List.length_append, List.length_flatten]
      have h1 := headA_len (firstR cls cons) tag
      have h2 := lenB_len (ls.map List.length).sum
      omega
theorem oid_len (alg : Int) : (oidP alg).length ≤ 30 := by
  have h1 : (putOidR (ints (oidU 1))).1.length ≤ 30 := by decide +kernel
  have h2 : (putOidR (ints (oidU 2))).1.length ≤ 30 := by decide +kernel
  have h3 : (putOidR (ints (oidU 3))).1.length ≤ 30 := by decide +kernel
  have h4 : (putOidR (ints (oidU 4))).1.length ≤ 30 := by decide +kernel
  unfold oidP
  by_cases e1 : alg = 1
  · subst e1; exact h1
  by_cases e2 : alg = 2
  · subst e2; exact h2
  by_cases e3 : alg = 3
  · subst e3; exact h3
  have : oidU alg = oidU 4 := by unfold oidU; rw [if_neg e1, if_neg e2, if_neg e3]; rfl
  rw [this]; exact h4
theorem info_len {alg : Int} {sum : List Int} (h : sum.length ≤ 64) : (infoR alg sum).length ≤ 200 := by
  unfold infoR
  have a := putR_len 0 16 true [(putR 0 16 true [(putR 0 6 false [oidP alg]).1, (putR 0 5 false []).1]).1, (putR 0 4 false [sum]).1]
  have b := putR_len 0 16 true [(putR 0 6 false [oidP alg]).1, (putR 0 5 false []).1]
  have c := putR_len 0 6 false [oidP alg]
  have d := putR_len 0 5 false []
  have e := putR_len 0 4 false [sum]
  have f := oid_len alg
  simp only [List.map_cons, List.map_nil, List.sum_cons, List.sum_nil] at a b c d e
  omega
theorem oidU_len (alg : Int) : (oidU alg).length ≤ 22 := by
  unfold oidU
  repeat' split
  all_goals decide
theorem LV.emp (w : World) : LV w (.slice none 0 0) [] := ⟨⟨none, 0, [], rfl, Nat.le_refl _, Rd.nil _ _, rfl, fun i v l h => by simp at h⟩⟩
theorem LV.one {w w' : World} {A : Option Addr} {c : Nat} {p : List Int} (n : New w w' [.slice A p.length c]) (hp : Vw .u8 w (.slice A p.length c) p) : LV w' (.slice (some ⟨w.heap.size, 0, none⟩) 1 1) [p] := by
  refine ⟨⟨_, _, _, rfl, Nat.le_refl _, n.rdv, rfl, fun i v l h1 h2 => ?_⟩⟩
  match i, h1, h2 with
  | 0, h1, h2 => simp at h1 h2; subst h1 h2; exact hp.nb (n.fr nob)
  | i + 1, h1, h2 => simp at h1
theorem LV.two {w w' : World} {A B : Option Addr} {c d : Nat} {p q : List Int} (n : New w w' [.slice A p.length c, .slice B q.length d]) (hp : Vw .u8 w (.slice A p.length c) p) (hq : Vw .u8 w (.slice B q.length d) q) : LV w' (.slice (some ⟨w.heap.size, 0, none⟩) 2 2) [p, q] := by
  refine ⟨⟨_, _, _, rfl, Nat.le_refl _, n.rdv, rfl, fun i v l h1 h2 => ?_⟩⟩
  match i, h1, h2 with
  | 0, h1, h2 => simp at h1 h2; subst h1 h2; exact hp.nb (n.fr nob)
  | 1, h1, h2 => simp at h1 h2; subst h1 h2; exact hq.nb (n.fr nob)
  | i + 2, h1, h2 => simp at h1
theorem oid_k {alg : Int} {w : World} {K : Value → World → Prop} (hK : K (.string (S (oidU alg))) w) : callK Tryd.prog 57 [.int .i64 alg] w K := by
  refine call_of Tryd.func57 Code.h57 (by simp [Code.c57]) ?_
  unfold oidU at hK
  by_cases e1 : alg = 1
  · simp (disch := omega) only [wu64, wu32, wu8, fdiv_nn, EO, ↓EP, EQ, EM, ↓reduceIte, Za, Zb, Zc, Zd, Ze, Zf, Zg, Zj, Zk, Zl, Zm, Zn, Zp, Zq, reduceCtorEq, Code.c57, e1]
    rw [if_pos e1] at hK; exact hK
  by_cases e2 : alg = 2
  · simp (disch := omega) only [wu64, wu32, wu8, fdiv_nn, EO, ↓EP, EQ, EM, ↓reduceIte, Za, Zb, Zc, Zd, Ze, Zf, Zg, Zj, Zk, Zl, Zm, Zn, Zp, Zq, reduceCtorEq, Code.c57, e1, e2]
    rw [if_neg e1, if_pos e2] at hK; exact hK
  by_cases e3 : alg = 3
  · simp (disch := omega) only [wu64, wu32, wu8, fdiv_nn, EO, ↓EP, EQ, EM, ↓reduceIte, Za, Zb, Zc, Zd, Ze, Zf, Zg, Zj, Zk, Zl, Zm, Zn, Zp, Zq, reduceCtorEq, Code.c57, e1, e2, e3]
    rw [if_neg e1, if_neg e2, if_pos e3] at hK; exact hK
  simp (disch := omega) only [wu64, wu32, wu8, fdiv_nn, EO, ↓EP, EQ, EM, ↓reduceIte, Za, Zb, Zc, Zd, Ze, Zf, Zg, Zj, Zk, Zl, Zm, Zn, Zp, Zq, reduceCtorEq, Code.c57, e1, e2, e3]
  rw [if_neg e1, if_neg e2, if_neg e3] at hK; exact hK
end Go.Proofs.YtcgplgpdcfocpaaDoor.Der
end
section
set_option linter.unusedVariables false
set_option linter.unusedSimpArgs false
namespace Go.Proofs.YtcgplgpdcfocpaaDoor.Der
open Go Go.RowKit Go.Proofs Go.Proofs.YtcgplgpdcfocpaaDoor.Eng Go.Proofs.YtcgplgpdcfocpaaDoor.Code
set_option maxRecDepth 100000
attribute [local irreducible] callK S.W opsW scrW scrT
open Go.Proofs.YtcgplgpdcfocpaaDoor.Spec
attribute [local irreducible] putR putOidR
theorem len63 {p : List Int} (h : p.length ≤ 1000) : ∀ l ∈ [p], l.length ≤ 9223372036854775807 := fun l hl => by
  rw [List.mem_singleton] at hl; subst hl; omega
theorem len63b {p q : List Int} (h : p.length ≤ 1000) (h' : q.length ≤ 1000) : ∀ l ∈ [p, q], l.length ≤ 9223372036854775807 := fun l hl => by
  simp only [List.mem_cons, List.not_mem_nil, or_false] at hl
  rcases hl with rfl | rfl <;> omega
set_option maxHeartbeats 4000000 in
theorem info_k {alg : Int} {sum : List Int} {v : Value} {w : World} (hv : Vw .u8 w v sum) (hs : sum.length ≤ 64) {K : Value → World → Prop} (hK : ∀ v' w', Gw .u8 w w' v' (infoR alg sum) → K v' w') : callK Tryd.prog 32 [.int .i64 alg, v] w K := by
  refine call_of Tryd.func32 Code.h32 (by simp [Code.c32]) ?_
  have hv0 := hv
  obtain ⟨A, c, rfl, hc, hr⟩ := hv0
  have lo : (putOidR (ints (oidU alg))).1.length ≤ 30 := oid_len alg
  have l6 := putR_len 0 6 false [(putOidR (ints (oidU alg))).1]
  have l5 := putR_len 0 5 false []
  have la := putR_len 0 16 true [(putR 0 6 false [(putOidR (ints (oidU alg))).1]).1, (putR 0 5 false []).1]
  have l4 := putR_len 0 4 false [sum]
  simp only [List.map_cons, List.map_nil, List.sum_cons, List.sum_nil] at la l4 l5 l6
  have b2 : (2 : Int) ≤ 3 := by decide
  simp (disch := omega) only [wu64, wu32, wu8, fdiv_nn, EO, ↓EP, EQ, EM, ↓reduceIte, Za, Zb, Zc, Zd, Ze, Zf, Zg, Zj, Zk, Zl, Zm, Zn, Zp, Zq, reduceCtorEq, Code.c32]
  refine oid_k ?_
  simp (disch := omega) only [wu64, wu32, wu8, fdiv_nn, EO, ↓EP, EQ, EM, ↓reduceIte, Za, Zb, Zc, Zd, Ze, Zf, Zg, Zj, Zk, Zl, Zm, Zn, Zp, Zq, reduceCtorEq]
  refine putoid_vw (by have := oidU_len alg; omega) _ fun v1 w1 g1 => ?_
  obtain ⟨A1, c1, rfl, hc1, hr1, _⟩ := g1.sl.read
  simp (disch := omega) only [wu64, wu32, wu8, fdiv_nn, EO, ↓EP, EQ, EM, ↓reduceIte, Za, Zb, Zc, Zd, Ze, Zf, Zg, Zj, Zk, Zl, Zm, Zn, Zp, Zq, reduceCtorEq, pr2]
  refine bslS1 fun w2 n2 => ?_
  simp (disch := omega) only [wu64, wu32, wu8, fdiv_nn, EO, ↓EP, EQ, EM, ↓reduceIte, Za, Zb, Zc, Zd, Ze, Zf, Zg, Zj, Zk, Zl, Zm, Zn, Zp, Zq, reduceCtorEq]
  refine put_vw (LV.one n2 g1.vw) (by decide) (by decide) (by simp) (len63 (by omega)) _ fun v3 w3 g3 => ?_
  obtain ⟨A3, c3, rfl, hc3, hr3, _⟩ := g3.sl.read
  simp (disch := omega) only [wu64, wu32, wu8, fdiv_nn, EO, ↓EP, EQ, EM, ↓reduceIte, Za, Zb, Zc, Zd, Ze, Zf, Zg, Zj, Zk, Zl, Zm, Zn, Zp, Zq, reduceCtorEq, pr2]
  refine put_vw (LV.emp w3) (by decide) (by decide) (by decide) (fun l hl => by simp at hl) _ fun v4 w4 g4 => ?_
  obtain ⟨A4, c4, rfl, hc4, hr4, _⟩ := g4.sl.read
  simp (disch := omega) only [wu64, wu32, wu8, fdiv_nn, EO, ↓EP, EQ, EM, ↓reduceIte, Za, Zb, Zc, Zd, Ze, Zf, Zg, Zj, Zk, Zl, Zm, Zn, Zp, Zq, reduceCtorEq, pr2]
  refine bslS2 fun w5 n5 => ?_
  simp (disch := omega) only [wu64, wu32, wu8, fdiv_nn, EO, ↓EP, EQ, EM, ↓reduceIte, Za, Zb, Zc, Zd, Ze, Zf, Zg, Zj, Zk, Zl, Zm, Zn, Zp, Zq, reduceCtorEq]
  refine put_vw (LV.two n5 (g3.vw.nb g4.fr) g4.vw) (by decide) (by decide) (by simp) (len63b (by omega) (by omega)) _ fun v6 w6 g6 => ?_
  obtain ⟨A6, c6, rfl, hc6, hr6, _⟩ := g6.sl.read
  have f2 := n2.fr nob
  have f5 := n5.fr nob
  have fa : Fr w w6 nob := ((((g1.fr.nb f2).nb g3.fr).nb g4.fr).nb f5).nb g6.fr
  have hv6 : Vw .u8 w6 (.slice A sum.length c) sum := hv.nb fa
  simp (disch := omega) only [wu64, wu32, wu8, fdiv_nn, EO, ↓EP, EQ, EM, ↓reduceIte, Za, Zb, Zc, Zd, Ze, Zf, Zg, Zj, Zk, Zl, Zm, Zn, Zp, Zq, reduceCtorEq, pr2]
  refine bslS1 fun w7 n7 => ?_
  have f7 := n7.fr nob
  simp (disch := omega) only [wu64, wu32, wu8, fdiv_nn, EO, ↓EP, EQ, EM, ↓reduceIte, Za, Zb, Zc, Zd, Ze, Zf, Zg, Zj, Zk, Zl, Zm, Zn, Zp, Zq, reduceCtorEq]
  refine put_vw (LV.one n7 hv6) (by decide) (by decide) (by simp) (len63 (by omega)) _ fun v8 w8 g8 => ?_
  obtain ⟨A8, c8, rfl, hc8, hr8, _⟩ := g8.sl.read
  simp (disch := omega) only [wu64, wu32, wu8, fdiv_nn, EO, ↓EP, EQ, EM, ↓reduceIte, Za, Zb, Zc, Zd, Ze, Zf, Zg, Zj, Zk, Zl, Zm, Zn, Zp, Zq, reduceCtorEq, pr2]
  refine bslS2 fun w9 n9 => ?_
  have f9 := n9.fr nob
  simp (disch := omega) only [wu64, wu32, wu8, fdiv_nn, EO, ↓EP, EQ, EM, ↓reduceIte, Za, Zb, Zc, Zd, Ze, Zf, Zg, Zj, Zk, Zl, Zm, Zn, Zp, Zq, reduceCtorEq]
  refine put_vw (LV.two n9 ((g6.vw.nb f7).nb g8.fr) g8.vw) (by decide) (by decide) (by simp) (len63b (by omega) (by omega)) _ fun v10 w10 g10 => ?_
  obtain ⟨A10, c10, rfl, hc10, hr10, _⟩ := g10.sl.read
  have fb : Fr w w9 nob := ((fa.nb f7).nb g8.fr).nb f9
  simp (disch := omega) only [wu64, wu32, wu8, fdiv_nn, EO, ↓EP, EQ, EM, ↓reduceIte, Za, Zb, Zc, Zd, Ze, Zf, Zg, Zj, Zk, Zl, Zm, Zn, Zp, Zq, reduceCtorEq, pr2]
  refine hK _ w10 ⟨g10.sl, fun b e => ?_, fb.nb g10.fr⟩
  have := g10.up b e
  have := fb.size
  omega
end Go.Proofs.YtcgplgpdcfocpaaDoor.Der
end
section
set_option linter.unusedVariables false
set_option linter.unusedSimpArgs false
namespace Go.Proofs.YtcgplgpdcfocpaaDoor.Der
open Go Go.RowKit Go.Proofs Go.Proofs.YtcgplgpdcfocpaaDoor.Eng Go.Proofs.YtcgplgpdcfocpaaDoor.Code
set_option maxRecDepth 100000
attribute [local irreducible] callK S.W opsW scrW scrT
open Go.Proofs.YtcgplgpdcfocpaaDoor.Spec
attribute [local irreducible] putR putOidR infoR
theorem known_k {alg : Int} {sum : List Int} {A : Option Addr} {c : Nat} {w : World} (hs : sum.length ≤ 9223372036854775807) {K : Value → World → Prop} (hK : K (.bool (decide (0 < sizeI alg) && decide ((sum.length : Int) = sizeI alg))) w) : callK Tryd.prog 31 [.int .i64 alg, .slice A sum.length c] w K := by
  refine call_of Tryd.func31 Code.h31 (by simp [Code.c31]) ?_
  simp (disch := omega) only [wu64, wu32, wu8, fdiv_nn, EO, ↓EP, EQ, EM, ↓reduceIte, Za, Zb, Zc, Zd, Ze, Zf, Zg, Zj, Zk, Zl, Zm, Zn, Zp, Zq, reduceCtorEq, Code.c31]
  refine size_spec alg _ _ ?_
  by_cases c0 : 0 < sizeI alg
  · simp (disch := omega) only [wu64, wu32, wu8, fdiv_nn, EO, ↓EP, EQ, EM, ↓reduceIte, Za, Zb, Zc, Zd, Ze, Zf, Zg, Zj, Zk, Zl, Zm, Zn, Zp, Zq, reduceCtorEq, c0]
    refine size_spec alg _ _ ?_
    by_cases c1 : (sum.length : Int) = sizeI alg
    · rw [decide_eq_true c0, decide_eq_true c1] at hK
      simp (disch := omega) only [wu64, wu32, wu8, fdiv_nn, EO, ↓EP, EQ, EM, ↓reduceIte, Za, Zb, Zc, Zd, Ze, Zf, Zg, Zj, Zk, Zl, Zm, Zn, Zp, Zq, reduceCtorEq, c0, c1]
      exact hK
    · rw [decide_eq_true c0, decide_eq_false c1] at hK
      simp (disch := omega) only [wu64, wu32, wu8, fdiv_nn, EO, ↓EP, EQ, EM, ↓reduceIte, Za, Zb, Zc, Zd, Ze, Zf, Zg, Zj, Zk, Zl, Zm, Zn, Zp, Zq, reduceCtorEq, c0, c1]
      exact hK
  · rw [decide_eq_false c0, Bool.false_and] at hK
    simp (disch := omega) only [wu64, wu32, wu8, fdiv_nn, EO, ↓EP, EQ, EM, ↓reduceIte, Za, Zb, Zc, Zd, Ze, Zf, Zg, Zj, Zk, Zl, Zm, Zn, Zp, Zq, reduceCtorEq, c0]
    exact hK
theorem sizeI_nn (alg : Int) : 0 ≤ sizeI alg ∧ sizeI alg ≤ 64 := by
  unfold sizeI
  repeat' split
  all_goals omega
set_option maxHeartbeats 4000000 in
theorem pad_k {alg n : Int} {sum : List Int} {v : Value} {w : World} (hn : -9223372036854775808 ≤ n ∧ n ≤ 9223372036854775807) (hv : Vw .u8 w v sum) (hs : sum.length ≤ 9223372036854775807) {K : Value → World → Prop}
    (hK : ∀ v' w', Gw .u8 w w' v' (padR alg sum n).1 → K (pr2 v' (padR alg sum n).2) w') : callK Tryd.prog 18 [.int .i64 alg, v, .int .i64 n] w K := by
  refine call_of Tryd.func18 Code.h18 (by simp [Code.c18]) ?_
  have hv0 := hv
  obtain ⟨A, c, rfl, hc, hr⟩ := hv0
  have hz := sizeI_nn alg
  have bad1 : (sizeI alg = 0 ∨ (sum.length : Int) ≠ sizeI alg ∨ 2048 < n) → K (pr2 (.slice none 0 0) 1) w := fun h => by
    have e : padR alg sum n = ([], 1) := if_pos h
    rw [e] at hK
    exact hK _ _ (Gw.nil _ _)
  simp (disch := omega) only [wu64, wu32, wu8, fdiv_nn, EO, ↓EP, EQ, EM, ↓reduceIte, Za, Zb, Zc, Zd, Ze, Zf, Zg, Zj, Zk, Zl, Zm, Zn, Zp, Zq, reduceCtorEq, Code.c18]
  refine known_k hs ?_
  by_cases c0 : 0 < sizeI alg ∧ (sum.length : Int) = sizeI alg
  rotate_left
  · have : (decide (0 < sizeI alg) && decide ((sum.length : Int) = sizeI alg)) = false := by
      by_cases h : 0 < sizeI alg
      · have : ¬ (sum.length : Int) = sizeI alg := fun e => c0 ⟨h, e⟩
        simp [this]
      · simp [h]
    rw [this]
    simp (disch := omega) only [wu64, wu32, wu8, fdiv_nn, EO, ↓EP, EQ, EM, ↓reduceIte, Za, Zb, Zc, Zd, Ze, Zf, Zg, Zj, Zk, Zl, Zm, Zn, Zp, Zq, reduceCtorEq, Bool.not_false]
    exact bad1 (by omega)
  obtain ⟨c1, c2⟩ := c0
  rw [decide_eq_true c1, decide_eq_true c2, Bool.true_and]
  by_cases c3 : 2048 < n
  · simp (disch := omega) only [wu64, wu32, wu8, fdiv_nn, EO, ↓EP, EQ, EM, ↓reduceIte, Za, Zb, Zc, Zd, Ze, Zf, Zg, Zj, Zk, Zl, Zm, Zn, Zp, Zq, reduceCtorEq, Bool.not_true, c3]
    exact bad1 (.inr (.inr c3))
  have hR : padR alg sum n = if n < (infoR alg sum).length + 11 then ([], 2) else ([0, 1] ++ List.replicate (n.toNat - (infoR alg sum).length - 3) 255 ++ [0] ++ infoR alg sum, 0) := if_neg (by omega)
  have hil := info_len (alg := alg) (sum := sum) (by omega)
  simp (disch := omega) only [wu64, wu32, wu8, fdiv_nn, EO, ↓EP, EQ, EM, ↓reduceIte, Za, Zb, Zc, Zd, Ze, Zf, Zg, Zj, Zk, Zl, Zm, Zn, Zp, Zq, reduceCtorEq, Bool.not_true, c3]
  refine info_k hv (by omega) fun v1 w1 g1 => ?_
  obtain ⟨A1, d1, rfl, hd1, hr1, _⟩ := g1.sl.read
  by_cases c4 : n < (infoR alg sum).length + 11
  · rw [if_pos c4] at hR
    rw [hR] at hK
    simp (disch := omega) only [wu64, wu32, wu8, fdiv_nn, EO, ↓EP, EQ, EM, ↓reduceIte, Za, Zb, Zc, Zd, Ze, Zf, Zg, Zj, Zk, Zl, Zm, Zn, Zp, Zq, reduceCtorEq, c4]
    exact hK _ _ ⟨Sl.nil _ _, (fun b e => by cases e), g1.fr⟩
  rw [if_neg c4] at hR
  rw [hR] at hK
  obtain ⟨q, hq⟩ : ∃ q : Nat, n = (infoR alg sum).length + 3 + q := ⟨(n - (infoR alg sum).length - 3).toNat, by omega⟩
  have hq1 : n.toNat - (infoR alg sum).length - 3 = q := by omega
  rw [hq1] at hK
  simp (disch := omega) only [wu64, wu32, wu8, fdiv_nn, EO, ↓EP, EQ, EM, ↓reduceIte, Za, Zb, Zc, Zd, Ze, Zf, Zg, Zj, Zk, Zl, Zm, Zn, Zp, Zq, reduceCtorEq, c4]
  refine bsl2 fun w2 n2 => ?_
  have G2 : Gw .u8 w1 w2 (.slice (some ⟨w1.heap.size, 0, none⟩) 2 2) [0, 1] := ⟨n2.sl, fun b e => by cases e; exact Nat.le_refl _, n2.fr nob⟩
  simp (disch := omega) only [wu64, wu32, wu8, fdiv_nn, EO, ↓EP, EQ, EM, ↓reduceIte, Za, Zb, Zc, Zd, Ze, Zf, Zg, Zj, Zk, Zl, Zm, Zn, Zp, Zq, reduceCtorEq]
  refine bsl1 fun w3 n3 => ?_
  have f3 := n3.fr nob
  have e1 : n - ((infoR alg sum).length : Int) - 3 = (q : Int) := by omega
  simp (disch := omega) only [wu64, wu32, wu8, fdiv_nn, EO, ↓EP, EQ, EM, ↓reduceIte, Za, Zb, Zc, Zd, Ze, Zf, Zg, Zj, Zk, Zl, Zm, Zn, Zp, Zq, reduceCtorEq, e1]
  refine repeat_k n3.rdl (by omega) (by omega) fun A4 d4 w4 hd4 hr4 f4 => ?_
  simp (disch := omega) only [wu64, wu32, wu8, fdiv_nn, EO, ↓EP, EQ, EM, ↓reduceIte, Za, Zb, Zc, Zd, Ze, Zf, Zg, Zj, Zk, Zl, Zm, Zn, Zp, Zq, reduceCtorEq]
  refine app_num ((G2.step f3).step f4).sl (by simp) hr4 (by simp; omega) (by decide) fun v5 w5 a5 => ?_
  have G5 := ((G2.step f3).step f4).apd a5
  obtain ⟨A5, d5, rfl, _, _, _⟩ := G5.sl.read
  simp (disch := omega) only [wu64, wu32, wu8, fdiv_nn, EO, ↓EP, EQ, EM, ↓reduceIte, Za, Zb, Zc, Zd, Ze, Zf, Zg, Zj, Zk, Zl, Zm, Zn, Zp, Zq, reduceCtorEq]
  refine bsl1 fun w6 n6 => ?_
  have f6 := n6.fr nob
  simp (disch := omega) only [wu64, wu32, wu8, fdiv_nn, EO, ↓EP, EQ, EM, ↓reduceIte, Za, Zb, Zc, Zd, Ze, Zf, Zg, Zj, Zk, Zl, Zm, Zn, Zp, Zq, reduceCtorEq]
  refine app_num (G5.step f6).sl rfl n6.rdl (by simp; omega) (by decide) fun v7 w7 a7 => ?_
  have G7 := (G5.step f6).apd a7
  obtain ⟨A7, d7, rfl, _, _, _⟩ := G7.sl.read
  have hr8 : Rd w7 A1 (nums .u8 (infoR alg sum)) := hr1.nb G7.fr
  simp (disch := omega) only [wu64, wu32, wu8, fdiv_nn, EO, ↓EP, EQ, EM, ↓reduceIte, Za, Zb, Zc, Zd, Ze, Zf, Zg, Zj, Zk, Zl, Zm, Zn, Zp, Zq, reduceCtorEq]
  refine app_num G7.sl rfl hr8 (by simp; omega) (by decide) fun v8 w8 a8 => ?_
  have G8 := G7.apd a8
  simp (disch := omega) only [wu64, wu32, wu8, fdiv_nn, EO, ↓EP, EQ, EM, ↓reduceIte, Za, Zb, Zc, Zd, Ze, Zf, Zg, Zj, Zk, Zl, Zm, Zn, Zp, Zq, reduceCtorEq]
  refine hK _ w8 ⟨G8.sl, fun b e => ?_, g1.fr.nb G8.fr⟩
  have := G8.up b e
  have := g1.fr.size
  omega
end Go.Proofs.YtcgplgpdcfocpaaDoor.Der
end
section
set_option linter.unusedVariables false
set_option linter.unusedSimpArgs false
namespace Go.Proofs.YtcgplgpdcfocpaaDoor.Der
open Go Go.RowKit Go.Proofs Go.Proofs.YtcgplgpdcfocpaaDoor.Eng Go.Proofs.YtcgplgpdcfocpaaDoor.Code
set_option maxRecDepth 100000
attribute [local irreducible] callK S.W opsW scrW scrT
open Go.Proofs.YtcgplgpdcfocpaaDoor.Spec
attribute [local irreducible] putR putOidR infoR
end Go.Proofs.YtcgplgpdcfocpaaDoor.Der
end
section
set_option linter.unusedVariables false
set_option linter.unusedSimpArgs false
namespace Go.Proofs.YtcgplgpdcfocpaaDoor.Spec
open Go Go.RowKit Go.Proofs Go.Proofs.YtcgplgpdcfocpaaDoor.Eng Go.Proofs.YtcgplgpdcfocpaaDoor.Code Go.Proofs.YtcgplgpdcfocpaaDoor.Big
set_option maxRecDepth 100000
attribute [local irreducible] callK S.W opsW scrW
theorem fr_drewN' (w : World) (n : Nat) : Fr w (w.drewN n) nob := ⟨below_drewN' (Below.refl _ _) n, fun b hb _ => rfl⟩
theorem odd_and {a b : Int} (ha : 0 ≤ a ∧ a < 4294967296) (hb : 0 ≤ b ∧ b < 4294967296) : bits .and .u32 (bits .and .u32 a b) 1 = a % 2 * (b % 2) := by
  have e1 := u32_and a b (by omega) (by omega) (by omega) (by omega)
  rw [e1]
  have hlt : a.toNat &&& b.toNat < 4294967296 := Nat.lt_of_le_of_lt Nat.and_le_left (by omega)
  rw [u32_and _ _ (by omega) (by omega) (by omega) (by omega)]
  rw [show (1 : Int).toNat = 1 from rfl, Int.toNat_natCast, Nat.and_one_is_mod]
  have h2 := Nat.and_mod_two_pow (a := a.toNat) (b := b.toNat) (n := 1)
  rw [show 2 ^ 1 = 2 from rfl] at h2
  rw [h2]
  have ca : a.toNat % 2 = 0 ∨ a.toNat % 2 = 1 := by omega
  have cb : b.toNat % 2 = 0 ∨ b.toNat % 2 = 1 := by omega
  have ea : a % 2 = ((a.toNat % 2 : Nat) : Int) := by omega
  have eb : b % 2 = ((b.toNat % 2 : Nat) : Int) := by omega
  rw [ea, eb]
  rcases ca with h | h <;> rcases cb with h' | h' <;> rw [h, h'] <;> decide
theorem lim_at0 {l : List Int} (h : Lim l) (h0 : 0 < l.length) : 0 ≤ at' l 0 ∧ at' l 0 < 4294967296 := by
  cases l with
  | nil => simp at h0
  | cons a l => exact h a (by simp)
def checkR (N E : List Int) : Int := if 256 < N.length ∨ 256 < E.length ∨ bl (val N) < 512 ∨ bl (val E) < 2 ∨ 64 < bl (val E) ∨ at' N 0 % 2 = 0 ∨ at' E 0 % 2 = 0 then 80 else 0
theorem pos_cellsN {k : IntKind} {w : World} {A : Option Addr} {l : List Int} (hr : Rd w A (nums k l)) (h0 : 0 < l.length) : ∃ ad, A = some ad ∧ ∀ i : Nat, i < l.length → w.cell? (ad.add i) = some (.int k (at' l (i : Int))) := by
  obtain ⟨ad, e, _, hcl⟩ := hr.get (by rw [nums_length]; omega)
  exact ⟨ad, e, fun i hi => hcl.numN hi⟩
theorem bl_pos {l : List Int} (h : 0 < bl (val l)) : 0 < l.length := by
  cases l with
  | nil => exact absurd h (by decide)
  | cons a l => simp
set_option maxHeartbeats 4000000 in
theorem check_k {w : World} {vN vE : Value} {N E : List Int} (hN : Vw .u32 w vN N) (hE : Vw .u32 w vE E) (lN : Lim N) (lE : Lim E) (nN : N.length ≤ 4194304) (nE : E.length ≤ 4194304) {K : Value → World → Prop}
    (hK : ∀ w', Fr w w' nob → K (.int .i64 (checkR N E)) w') : callK Tryd.prog 9 [.agg #[vN, vE]] w K := by
  refine call_of Tryd.func9 Code.h9 (by simp [Code.c9]) ?_
  obtain ⟨A, c, rfl, hc, hr⟩ := hN
  obtain ⟨B, d, rfl, hd, hs⟩ := hE
  simp (disch := omega) only [wu64, wu32, wu8, fdiv_nn, EO, ↓EP, EQ, EM, ↓reduceIte, Za, Zb, Zc, Zd, Ze, Zf, Zg, Zj, Zk, Zl, Zm, Zn, Zp, Zq, reduceCtorEq, Code.c9]
  refine al_k [.slice A N.length c, .slice B E.length d] rfl fun w1 n1 => ?_
  have f1 := n1.fr nob
  have c0 : w1.cell? ⟨w.heap.size, 0, none⟩ = some (.slice A N.length c) := n1.blk.has 0 _ rfl
  have c1 : w1.cell? ⟨w.heap.size, 1, none⟩ = some (.slice B E.length d) := n1.blk.has 1 _ rfl
  simp (disch := omega) only [wu64, wu32, wu8, fdiv_nn, EO, ↓EP, EQ, EM, ↓reduceIte, Za, Zb, Zc, Zd, Ze, Zf, Zg, Zj, Zk, Zl, Zm, Zn, Zp, Zq, reduceCtorEq, c0, c1]
  intro m
  have g1 := fr_drewN' w1 (1 + m)
  refine bits_vw ⟨A, c, rfl, hc, (hr.nb f1).nb g1⟩ lN (by omega) _ ?_
  simp (disch := omega) only [wu64, wu32, wu8, fdiv_nn, EO, ↓EP, EQ, EM, ↓reduceIte, Za, Zb, Zc, Zd, Ze, Zf, Zg, Zj, Zk, Zl, Zm, Zn, Zp, Zq, reduceCtorEq, c0, c1]
  intro m2
  have g2 := fr_drewN' w1 (1 + m + m2)
  refine bits_vw ⟨B, d, rfl, hd, (hs.nb f1).nb g2⟩ lE (by omega) _ ?_
  have bad : ∀ w', Fr w1 w' nob → (256 < N.length ∨ 256 < E.length ∨ bl (val N) < 512 ∨ bl (val E) < 2 ∨ 64 < bl (val E) ∨ at' N 0 % 2 = 0 ∨ at' E 0 % 2 = 0) → K (.int .i64 80) w' := fun w' f h => by
    have e : checkR N E = 80 := if_pos h
    rw [e] at hK
    exact hK w' (f1.nb f)
  simp (disch := omega) only [wu64, wu32, wu8, fdiv_nn, EO, ↓EP, EQ, EM, ↓reduceIte, Za, Zb, Zc, Zd, Ze, Zf, Zg, Zj, Zk, Zl, Zm, Zn, Zp, Zq, reduceCtorEq, W_join, c0, c1]
  intro m3
  have g3 := fr_drewN' w1 (1 + m + m2 + m3)
  by_cases h1 : (256 : Int) < (N.length : Int)
  · simp (disch := omega) only [wu64, wu32, wu8, fdiv_nn, EO, ↓EP, EQ, EM, ↓reduceIte, Za, Zb, Zc, Zd, Ze, Zf, Zg, Zj, Zk, Zl, Zm, Zn, Zp, Zq, reduceCtorEq, W_join, c0, c1, h1]
    exact bad _ g3 (.inl (by omega))
  by_cases h2 : (256 : Int) < (E.length : Int)
  · simp (disch := omega) only [wu64, wu32, wu8, fdiv_nn, EO, ↓EP, EQ, EM, ↓reduceIte, Za, Zb, Zc, Zd, Ze, Zf, Zg, Zj, Zk, Zl, Zm, Zn, Zp, Zq, reduceCtorEq, W_join, c0, c1, h1, h2]
    exact bad _ g3 (.inr (.inl (by omega)))
  by_cases h3 : (bl (val N) : Int) < 512
  · simp (disch := omega) only [wu64, wu32, wu8, fdiv_nn, EO, ↓EP, EQ, EM, ↓reduceIte, Za, Zb, Zc, Zd, Ze, Zf, Zg, Zj, Zk, Zl, Zm, Zn, Zp, Zq, reduceCtorEq, W_join, c0, c1, h1, h2, h3]
    exact bad _ g3 (.inr (.inr (.inl (by omega))))
  by_cases h4 : (bl (val E) : Int) < 2
  · simp (disch := omega) only [wu64, wu32, wu8, fdiv_nn, EO, ↓EP, EQ, EM, ↓reduceIte, Za, Zb, Zc, Zd, Ze, Zf, Zg, Zj, Zk, Zl, Zm, Zn, Zp, Zq, reduceCtorEq, W_join, c0, c1, h1, h2, h3, h4]
    exact bad _ g3 (.inr (.inr (.inr (.inl (by omega)))))
  by_cases h5 : (64 : Int) < (bl (val E) : Int)
  · simp (disch := omega) only [wu64, wu32, wu8, fdiv_nn, EO, ↓EP, EQ, EM, ↓reduceIte, Za, Zb, Zc, Zd, Ze, Zf, Zg, Zj, Zk, Zl, Zm, Zn, Zp, Zq, reduceCtorEq, W_join, c0, c1, h1, h2, h3, h4, h5]
    exact bad _ g3 (.inr (.inr (.inr (.inr (.inl (by omega))))))
  have pN : 0 < N.length := bl_pos (by omega)
  have pE : 0 < E.length := bl_pos (by omega)
  obtain ⟨pa, rfl, hcN⟩ := pos_cellsN (hr.nb f1) pN
  obtain ⟨pb, rfl, hcE⟩ := pos_cellsN (hs.nb f1) pE
  have z0 := hcN 0 pN
  have z1 := hcE 0 pE
  have y0 := lim_at0 lN pN
  have y1 := lim_at0 lE pE
  simp (disch := omega) only [wu64, wu32, wu8, fdiv_nn, EO, ↓EP, EQ, EM, ↓reduceIte, Za, Zb, Zc, Zd, Ze, Zf, Zg, Zj, Zk, Zl, Zm, Zn, Zp, Zq, reduceCtorEq, W_join, c0, c1, h1, h2, h3, h4, h5, z0, z1]
  intro m4
  have g4 := fr_drewN' w1 (1 + m + m2 + m3 + m4)
  rw [odd_and y0 y1]
  by_cases h6 : at' N 0 % 2 = 0
  · rw [h6, Int.zero_mul, if_pos rfl]
    exact bad _ g4 (.inr (.inr (.inr (.inr (.inr (.inl h6))))))
  by_cases h7 : at' E 0 % 2 = 0
  · rw [h7, Int.mul_zero, if_pos rfl]
    exact bad _ g4 (.inr (.inr (.inr (.inr (.inr (.inr h7))))))
  rw [if_neg (by rw [show at' N 0 % 2 = 1 by omega, show at' E 0 % 2 = 1 by omega]; decide)]
  have e : checkR N E = 0 := if_neg (by omega)
  rw [e] at hK
  exact hK _ (f1.nb g4)
set_option maxHeartbeats 4000000 in
theorem rcheck_k {w : World} {vN vE : Value} {N E : List Int} (hN : Vw .u32 w vN N) (hE : Vw .u32 w vE E) (lN : Lim N) (lE : Lim E) (nN : N.length ≤ 4194304) (nE : E.length ≤ 4194304) {K : Value → World → Prop}
    (hK : ∀ w', Fr w w' nob → K (.int .i64 (checkR N E)) w') : callK Tryd.prog 10 [.agg #[vN, vE]] w K := by
  refine call_of Tryd.func10 Code.h10 (by simp [Code.c10]) ?_
  obtain ⟨A, c, rfl, hc, hr⟩ := hN
  obtain ⟨B, d, rfl, hd, hs⟩ := hE
  simp (disch := omega) only [wu64, wu32, wu8, fdiv_nn, EO, ↓EP, EQ, EM, ↓reduceIte, Za, Zb, Zc, Zd, Ze, Zf, Zg, Zj, Zk, Zl, Zm, Zn, Zp, Zq, reduceCtorEq, Code.c10]
  refine al_k [.slice A N.length c, .slice B E.length d] rfl fun w1 n1 => ?_
  have f1 := n1.fr nob
  have k0 : ∀ w', Fr w1 w' nob → w'.cell? ⟨w.heap.size, 0, none⟩ = some (.slice A N.length c) := fun w' f => (n1.blk.nb f).has 0 _ rfl
  have k1 : ∀ w', Fr w1 w' nob → w'.cell? ⟨w.heap.size, 1, none⟩ = some (.slice B E.length d) := fun w' f => (n1.blk.nb f).has 1 _ rfl
  have c0 := k0 w1 (Fr.refl _ _)
  have c1 := k1 w1 (Fr.refl _ _)
  have bad : ∀ w', Fr w1 w' nob → (256 < N.length ∨ 256 < E.length ∨ bl (val N) < 512 ∨ bl (val E) < 2 ∨ 64 < bl (val E) ∨ at' N 0 % 2 = 0 ∨ at' E 0 % 2 = 0) → K (.int .i64 80) w' := fun w' f h => by
    have e : checkR N E = 80 := if_pos h
    rw [e] at hK
    exact hK w' (f1.nb f)
  by_cases h1 : (256 : Int) < (N.length : Int)
  · simp (disch := omega) only [wu64, wu32, wu8, fdiv_nn, EO, ↓EP, EQ, EM, ↓reduceIte, Za, Zb, Zc, Zd, Ze, Zf, Zg, Zj, Zk, Zl, Zm, Zn, Zp, Zq, reduceCtorEq, c0, c1, h1]
    exact bad _ (Fr.refl _ _) (.inl (by omega))
  by_cases h2 : (256 : Int) < (E.length : Int)
  · simp (disch := omega) only [wu64, wu32, wu8, fdiv_nn, EO, ↓EP, EQ, EM, ↓reduceIte, Za, Zb, Zc, Zd, Ze, Zf, Zg, Zj, Zk, Zl, Zm, Zn, Zp, Zq, reduceCtorEq, c0, c1, h1, h2]
    exact bad _ (Fr.refl _ _) (.inr (.inl (by omega)))
  simp (disch := omega) only [wu64, wu32, wu8, fdiv_nn, EO, ↓EP, EQ, EM, ↓reduceIte, Za, Zb, Zc, Zd, Ze, Zf, Zg, Zj, Zk, Zl, Zm, Zn, Zp, Zq, reduceCtorEq, c0, c1, h1, h2]
  refine rbits_vw ⟨A, c, rfl, hc, hr.nb f1⟩ lN nN _ fun w2 f2 => ?_
  have c0 := k0 w2 f2
  have c1 := k1 w2 f2
  by_cases h3 : (bl (val N) : Int) < 512
  · simp (disch := omega) only [wu64, wu32, wu8, fdiv_nn, EO, ↓EP, EQ, EM, ↓reduceIte, Za, Zb, Zc, Zd, Ze, Zf, Zg, Zj, Zk, Zl, Zm, Zn, Zp, Zq, reduceCtorEq, c0, c1, h3]
    exact bad _ f2 (.inr (.inr (.inl (by omega))))
  simp (disch := omega) only [wu64, wu32, wu8, fdiv_nn, EO, ↓EP, EQ, EM, ↓reduceIte, Za, Zb, Zc, Zd, Ze, Zf, Zg, Zj, Zk, Zl, Zm, Zn, Zp, Zq, reduceCtorEq, c0, c1, h3]
  refine rbits_vw ⟨B, d, rfl, hd, (hs.nb f1).nb f2⟩ lE nE _ fun w3 f3 => ?_
  have f23 := f2.nb f3
  have c0 := k0 w3 f23
  have c1 := k1 w3 f23
  by_cases h4 : (bl (val E) : Int) < 2
  · simp (disch := omega) only [wu64, wu32, wu8, fdiv_nn, EO, ↓EP, EQ, EM, ↓reduceIte, Za, Zb, Zc, Zd, Ze, Zf, Zg, Zj, Zk, Zl, Zm, Zn, Zp, Zq, reduceCtorEq, c0, c1, h4]
    exact bad _ f23 (.inr (.inr (.inr (.inl (by omega)))))
  simp (disch := omega) only [wu64, wu32, wu8, fdiv_nn, EO, ↓EP, EQ, EM, ↓reduceIte, Za, Zb, Zc, Zd, Ze, Zf, Zg, Zj, Zk, Zl, Zm, Zn, Zp, Zq, reduceCtorEq, c0, c1, h4]
  refine rbits_vw ⟨B, d, rfl, hd, (hs.nb f1).nb f23⟩ lE nE _ fun w4 f4 => ?_
  have f24 := f23.nb f4
  have c0 := k0 w4 f24
  have c1 := k1 w4 f24
  by_cases h5 : (64 : Int) < (bl (val E) : Int)
  · simp (disch := omega) only [wu64, wu32, wu8, fdiv_nn, EO, ↓EP, EQ, EM, ↓reduceIte, Za, Zb, Zc, Zd, Ze, Zf, Zg, Zj, Zk, Zl, Zm, Zn, Zp, Zq, reduceCtorEq, c0, c1, h5]
    exact bad _ f24 (.inr (.inr (.inr (.inr (.inl (by omega))))))
  have pN : 0 < N.length := bl_pos (by omega)
  have pE : 0 < E.length := bl_pos (by omega)
  obtain ⟨pa, rfl, hcN⟩ := pos_cellsN (((hr.nb f1).nb f24)) pN
  obtain ⟨pb, rfl, hcE⟩ := pos_cellsN (((hs.nb f1).nb f24)) pE
  have z0 := hcN 0 pN
  have z1 := hcE 0 pE
  have y0 := lim_at0 lN pN
  have y1 := lim_at0 lE pE
  have t0 : (at' N 0).tmod 2 = at' N 0 % 2 := Int.tmod_eq_emod_of_nonneg y0.1
  have t1 : (at' E 0).tmod 2 = at' E 0 % 2 := Int.tmod_eq_emod_of_nonneg y1.1
  by_cases h6 : at' N 0 % 2 = 0
  · simp (disch := omega) only [wu64, wu32, wu8, fdiv_nn, EO, ↓EP, EQ, EM, ↓reduceIte, Za, Zb, Zc, Zd, Ze, Zf, Zg, Zj, Zk, Zl, Zm, Zn, Zp, Zq, reduceCtorEq, c0, c1, h5, z0, z1, t0, t1, h6]
    exact bad _ f24 (.inr (.inr (.inr (.inr (.inr (.inl h6))))))
  by_cases h7 : at' E 0 % 2 = 0
  · simp (disch := omega) only [wu64, wu32, wu8, fdiv_nn, EO, ↓EP, EQ, EM, ↓reduceIte, Za, Zb, Zc, Zd, Ze, Zf, Zg, Zj, Zk, Zl, Zm, Zn, Zp, Zq, reduceCtorEq, c0, c1, h5, z0, z1, t0, t1, h6, h7]
    exact bad _ f24 (.inr (.inr (.inr (.inr (.inr (.inr h7))))))
  simp (disch := omega) only [wu64, wu32, wu8, fdiv_nn, EO, ↓EP, EQ, EM, ↓reduceIte, Za, Zb, Zc, Zd, Ze, Zf, Zg, Zj, Zk, Zl, Zm, Zn, Zp, Zq, reduceCtorEq, c0, c1, h5, z0, z1, t0, t1, h6, h7]
  have e : checkR N E = 0 := if_neg (by omega)
  rw [e] at hK
  exact hK _ (f1.nb f24)
end Go.Proofs.YtcgplgpdcfocpaaDoor.Spec
end
section
namespace Go.Proofs.YtcgplgpdcfocpaaDoor.Der
open Go Go.Proofs.YtcgplgpdcfocpaaDoor.Spec Go.Proofs.YtcgplgpdcfocpaaDoor.Big
def kN0 : List Int := [1295419795, 3173228247, 2137395180, 1548933856, 3106420408, 3948765562, 1049120400, 779370009, 4082781268, 1057109357, 1184194943, 1393408190, 1811714008, 4142931574, 3115507167, 2773311948]
def kD0 : List Int := [4047561943, 3660979146, 4003215933, 1116455983, 1700758801, 463339884, 276911730, 3273242993, 4259602957, 2323668540, 3060677354, 1663890463, 3165263865, 2837972243, 519251194, 462218658]
theorem dig_foo : dig 1 [102, 111, 111, 0, 0, 0, 0] = [26, 201, 7, 92, 212, 39, 188, 144, 180, 138, 153, 102, 130, 140, 171, 74, 4, 194, 63, 223] := by decide +kernel
theorem info_zero : infoR 1 (List.replicate 20 0) = [48, 33, 48, 9, 6, 5, 43, 14, 3, 2, 26, 5, 0, 4, 20] ++ List.replicate 20 0 := by decide +kernel
theorem check_small : checkR [15] [3] = 80 := by decide +kernel
theorem check_key0 : checkR kN0 [3] = 0 := by decide +kernel
theorem bits_key0 : bl (val kN0) = 512 := by decide +kernel
theorem lim_key0 : Lim kN0 := by
  have h : kN0.all (fun x => decide (0 ≤ x ∧ x < 4294967296)) = true := by decide +kernel
  intro x hx
  simpa using List.all_eq_true.1 h x hx
end Go.Proofs.YtcgplgpdcfocpaaDoor.Der
end
section
set_option linter.unusedVariables false
set_option linter.unusedSimpArgs false
namespace Go.Proofs.YtcgplgpdcfocpaaDoor.Der
open Go Go.RowKit Go.Proofs Go.Proofs.YtcgplgpdcfocpaaDoor.Eng Go.Proofs.YtcgplgpdcfocpaaDoor.Code
set_option maxRecDepth 100000
attribute [local irreducible] callK S.W opsW scrW scrT
open Go.Proofs.YtcgplgpdcfocpaaDoor.Spec Go.Proofs.YtcgplgpdcfocpaaDoor.Big
attribute [local irreducible] putR putOidR infoR dig checkR kN0 kD0
theorem bl_lim {N : List Int} (h : Lim N) : bl (val N) ≤ 32 * N.length := by
  have hb := val_bd h
  rw [bl_le hb.1]
  have h2 := hb.2
  unfold pw at h2
  rw [Int.pow_mul, show (2 : Int) ^ 32 = 4294967296 from rfl]
  exact h2
def sizeK (N E : List Int) : Int := if checkR N E ≠ 0 then 0 else ((bl (val N) + 7) / 8 : Nat)
set_option maxHeartbeats 4000000 in
theorem sizek_k {w : World} {vN vE : Value} {N E : List Int} (hN : Vw .u32 w vN N) (hE : Vw .u32 w vE E) (lN : Lim N) (lE : Lim E) (nN : N.length ≤ 4194304) (nE : E.length ≤ 4194304) {K : Value → World → Prop}
    (hK : ∀ w', Fr w w' nob → K (.int .i64 (sizeK N E)) w') : callK Tryd.prog 11 [.agg #[vN, vE]] w K := by
  refine call_of Tryd.func11 Code.h11 (by simp [Code.c11]) ?_
  have hN0 := hN
  have hE0 := hE
  obtain ⟨A, c, rfl, hc, hr⟩ := hN0
  obtain ⟨B, d, rfl, hd, hs⟩ := hE0
  simp (disch := omega) only [wu64, wu32, wu8, fdiv_nn, EO, ↓EP, EQ, EM, ↓reduceIte, Za, Zb, Zc, Zd, Ze, Zf, Zg, Zj, Zk, Zl, Zm, Zn, Zp, Zq, reduceCtorEq, Code.c11]
  refine al_k [.slice A N.length c, .slice B E.length d] rfl fun w1 n1 => ?_
  have f1 := n1.fr nob
  simp (disch := omega) only [wu64, wu32, wu8, fdiv_nn, EO, ↓EP, EQ, EM, ↓reduceIte, Za, Zb, Zc, Zd, Ze, Zf, Zg, Zj, Zk, Zl, Zm, Zn, Zp, Zq, reduceCtorEq]
  refine n1.blk.ldAgg rfl ?_
  simp (disch := omega) only [wu64, wu32, wu8, fdiv_nn, EO, ↓EP, EQ, EM, ↓reduceIte, Za, Zb, Zc, Zd, Ze, Zf, Zg, Zj, Zk, Zl, Zm, Zn, Zp, Zq, reduceCtorEq]
  refine check_k (hN.nb f1) (hE.nb f1) lN lE nN nE fun w2 f2 => ?_
  have f12 := f1.nb f2
  have c0 : w2.cell? ⟨w.heap.size, 0, none⟩ = some (.slice A N.length c) := (n1.blk.nb f2).has 0 _ rfl
  by_cases h : checkR N E = 0
  · have e : sizeK N E = ((bl (val N) + 7) / 8 : Nat) := if_neg (by simpa using h)
    rw [e] at hK
    have hbl : bl (val N) ≤ 134217728 := by have := bl_lim lN; omega
    simp (disch := omega) only [wu64, wu32, wu8, fdiv_nn, EO, ↓EP, EQ, EM, ↓reduceIte, Za, Zb, Zc, Zd, Ze, Zf, Zg, Zj, Zk, Zl, Zm, Zn, Zp, Zq, reduceCtorEq, h, c0]
    refine bits_vw (hN.nb f12) lN (by omega) _ ?_
    simp (disch := omega) only [wu64, wu32, wu8, fdiv_nn, EO, ↓EP, EQ, EM, ↓reduceIte, Za, Zb, Zc, Zd, Ze, Zf, Zg, Zj, Zk, Zl, Zm, Zn, Zp, Zq, reduceCtorEq]
    exact hK _ f12
  · have e : sizeK N E = 0 := if_pos h
    rw [e] at hK
    simp (disch := omega) only [wu64, wu32, wu8, fdiv_nn, EO, ↓EP, EQ, EM, ↓reduceIte, Za, Zb, Zc, Zd, Ze, Zf, Zg, Zj, Zk, Zl, Zm, Zn, Zp, Zq, reduceCtorEq, h]
    exact hK _ f12
set_option maxHeartbeats 4000000 in
theorem rsizek_k {w : World} {vN vE : Value} {N E : List Int} (hN : Vw .u32 w vN N) (hE : Vw .u32 w vE E) (lN : Lim N) (lE : Lim E) (nN : N.length ≤ 4194304) (nE : E.length ≤ 4194304) {K : Value → World → Prop}
    (hK : ∀ w', Fr w w' nob → K (.int .i64 (sizeK N E)) w') : callK Tryd.prog 12 [.agg #[vN, vE]] w K := by
  refine call_of Tryd.func12 Code.h12 (by simp [Code.c12]) ?_
  have hN0 := hN
  have hE0 := hE
  obtain ⟨A, c, rfl, hc, hr⟩ := hN0
  obtain ⟨B, d, rfl, hd, hs⟩ := hE0
  simp (disch := omega) only [wu64, wu32, wu8, fdiv_nn, EO, ↓EP, EQ, EM, ↓reduceIte, Za, Zb, Zc, Zd, Ze, Zf, Zg, Zj, Zk, Zl, Zm, Zn, Zp, Zq, reduceCtorEq, Code.c12]
  refine al_k [.slice A N.length c, .slice B E.length d] rfl fun w1 n1 => ?_
  have f1 := n1.fr nob
  simp (disch := omega) only [wu64, wu32, wu8, fdiv_nn, EO, ↓EP, EQ, EM, ↓reduceIte, Za, Zb, Zc, Zd, Ze, Zf, Zg, Zj, Zk, Zl, Zm, Zn, Zp, Zq, reduceCtorEq]
  refine n1.blk.ldAgg rfl ?_
  simp (disch := omega) only [wu64, wu32, wu8, fdiv_nn, EO, ↓EP, EQ, EM, ↓reduceIte, Za, Zb, Zc, Zd, Ze, Zf, Zg, Zj, Zk, Zl, Zm, Zn, Zp, Zq, reduceCtorEq]
  refine rcheck_k (hN.nb f1) (hE.nb f1) lN lE nN nE fun w2 f2 => ?_
  have f12 := f1.nb f2
  have c0 : w2.cell? ⟨w.heap.size, 0, none⟩ = some (.slice A N.length c) := (n1.blk.nb f2).has 0 _ rfl
  by_cases h : checkR N E = 0
  · have e : sizeK N E = ((bl (val N) + 7) / 8 : Nat) := if_neg (by simpa using h)
    rw [e] at hK
    have hbl : bl (val N) ≤ 134217728 := by have := bl_lim lN; omega
    simp (disch := omega) only [wu64, wu32, wu8, fdiv_nn, EO, ↓EP, EQ, EM, ↓reduceIte, Za, Zb, Zc, Zd, Ze, Zf, Zg, Zj, Zk, Zl, Zm, Zn, Zp, Zq, reduceCtorEq, h, c0]
    refine rbits_vw (hN.nb f12) lN nN _ fun w3 f3 => ?_
    simp (disch := omega) only [wu64, wu32, wu8, fdiv_nn, EO, ↓EP, EQ, EM, ↓reduceIte, Za, Zb, Zc, Zd, Ze, Zf, Zg, Zj, Zk, Zl, Zm, Zn, Zp, Zq, reduceCtorEq]
    exact hK _ (f12.nb f3)
  · have e : sizeK N E = 0 := if_pos h
    rw [e] at hK
    simp (disch := omega) only [wu64, wu32, wu8, fdiv_nn, EO, ↓EP, EQ, EM, ↓reduceIte, Za, Zb, Zc, Zd, Ze, Zf, Zg, Zj, Zk, Zl, Zm, Zn, Zp, Zq, reduceCtorEq, h]
    exact hK _ f12
theorem bslV {e n : Nat} {k : IntKind} {w : World} {parts : List (Nat × Value)} {l : List Int} {K : Value → World → Prop} (h : fillS 1 ((Array.range (n * 1)).map (#[Value.int k 0][· % #[Value.int k 0].size]!)) parts = some (nums k l).toArray)
    (hK : ∀ w', New w w' (nums k l) → K (.slice (some ⟨w.heap.size, 0, none⟩) n n) w') : bslT e 1 n #[.int k 0] parts w K .mk := ⟨_, h, hK _ (new_of rfl (by simp))⟩
theorem fillK2 (A B : Option Addr) (a b c d : Nat) : fillL [(0, 1), (1, 1)] #[(.slice none 0 0), (.slice none 0 0)] [(0, .slice A a b), (1, .slice B c d)] = some [Value.slice A a b, .slice B c d].toArray := by kernel_rfl
theorem len_kN0 : kN0.length = 16 := by unfold kN0; rfl
theorem known0_k {w : World} {K : Value → World → Prop}
    (hK : ∀ A B v w', Rd w' A (nums .u32 kN0) → Rd w' B (nums .u32 [3]) → Fr w w' nob → K (.tuple #[.agg #[.slice A 16 16, .slice B 1 1], v]) w') : callK Tryd.prog 24 [.int .i64 0] w K := by
  refine call_of Tryd.func24 Code.h24 (by simp [Code.c24]) ?_
  simp (disch := omega) only [wu64, wu32, wu8, fdiv_nn, EO, ↓EP, EQ, EM, ↓reduceIte, Za, Zb, Zc, Zd, Ze, Zf, Zg, Zj, Zk, Zl, Zm, Zn, Zp, Zq, reduceCtorEq, Code.c24]
  refine al_k [.slice none 0 0, .slice none 0 0] rfl fun w1 n1 => ?_
  simp (disch := omega) only [wu64, wu32, wu8, fdiv_nn, EO, ↓EP, EQ, EM, ↓reduceIte, Za, Zb, Zc, Zd, Ze, Zf, Zg, Zj, Zk, Zl, Zm, Zn, Zp, Zq, reduceCtorEq]
  refine bslV (l := kN0) (by unfold kN0; kernel_rfl) fun w2 n2 => ?_
  simp (disch := omega) only [wu64, wu32, wu8, fdiv_nn, EO, ↓EP, EQ, EM, ↓reduceIte, Za, Zb, Zc, Zd, Ze, Zf, Zg, Zj, Zk, Zl, Zm, Zn, Zp, Zq, reduceCtorEq]
  refine bslV (l := [3]) (by kernel_rfl) fun w3 n3 => ?_
  simp (disch := omega) only [wu64, wu32, wu8, fdiv_nn, EO, ↓EP, EQ, EM, ↓reduceIte, Za, Zb, Zc, Zd, Ze, Zf, Zg, Zj, Zk, Zl, Zm, Zn, Zp, Zq, reduceCtorEq]
  refine ⟨_, fillK2 _ _ _ _ _ _, ?_⟩
  simp (disch := omega) only [wu64, wu32, wu8, fdiv_nn, EO, ↓EP, EQ, EM, ↓reduceIte, Za, Zb, Zc, Zd, Ze, Zf, Zg, Zj, Zk, Zl, Zm, Zn, Zp, Zq, reduceCtorEq]
  refine bslV (l := kD0) (by unfold kD0; kernel_rfl) fun w4 n4 => ?_
  simp (disch := omega) only [wu64, wu32, wu8, fdiv_nn, EO, ↓EP, EQ, EM, ↓reduceIte, Za, Zb, Zc, Zd, Ze, Zf, Zg, Zj, Zk, Zl, Zm, Zn, Zp, Zq, reduceCtorEq]
  have hB := (((n1.blk.nb (n2.fr nob)).nb (n3.fr nob)).nb (n4.fr nob))
  refine st_whole (cs := [.slice (some ⟨w1.heap.size, 0, none⟩) 16 16, .slice (some ⟨w2.heap.size, 0, none⟩) 1 1]) hB rfl rfl (by simp; exact ⟨rfl, rfl⟩) fun w5 p5 => ?_
  simp (disch := omega) only [wu64, wu32, wu8, fdiv_nn, EO, ↓EP, EQ, EM, ↓reduceIte, Za, Zb, Zc, Zd, Ze, Zf, Zg, Zj, Zk, Zl, Zm, Zn, Zp, Zq, reduceCtorEq]
  refine p5.blk.ldAgg rfl ?_
  have hz1 := n1.size
  have hz2 := n2.size
  have hz3 := n3.size
  have hz4 := n4.size
  have f2 : Fr w w4 nob := (((n1.fr nob).nb (n2.fr nob)).nb (n3.fr nob)).nb (n4.fr nob)
  refine hK _ _ _ w5 ?_ ?_ (f2.trans p5.fr fun x hx e => by omega)
  · have h := (n2.rdv.nb (n3.fr nob)).nb (n4.fr nob)
    exact h.fr p5.fr (.inr fun p e x => by cases e; simp only at x; omega)
  · have h := n3.rdv.nb (n4.fr nob)
    exact h.fr p5.fr (.inr fun p e x => by cases e; simp only at x; omega)
end Go.Proofs.YtcgplgpdcfocpaaDoor.Der
end
section
set_option linter.unusedVariables false
set_option linter.unusedSimpArgs false
namespace Go.Proofs.YtcgplgpdcfocpaaDoor.Der
open Go Go.RowKit Go.Proofs Go.Proofs.YtcgplgpdcfocpaaDoor.Eng Go.Proofs.YtcgplgpdcfocpaaDoor.Code
set_option maxRecDepth 100000
attribute [local irreducible] callK S.W opsW scrW scrT
open Go.Proofs.YtcgplgpdcfocpaaDoor.Spec Go.Proofs.YtcgplgpdcfocpaaDoor.Big
attribute [local irreducible] putR putOidR infoR dig checkR kN0 kD0
theorem num8_k {e : Int} {w : World} {K : Value → World → Prop} (hK : K (.int .i64 e) w) : callK Tryd.prog 8 [.int .i64 e] w K := by
  refine call_of Tryd.func8 Code.h8 (by simp [Code.c8]) ?_
  simp (disch := omega) only [wu64, wu32, wu8, fdiv_nn, EO, ↓EP, EQ, EM, ↓reduceIte, Za, Zb, Zc, Zd, Ze, Zf, Zg, Zj, Zk, Zl, Zm, Zn, Zp, Zq, reduceCtorEq, Code.c8]
  exact hK
theorem mask_foo : maskR 1 [102, 111, 111] 3 = ([26, 201, 7], 0) := by
  have h : maskR 1 [102, 111, 111] 3 = ((maskL 1 [102, 111, 111] 3).take 3, 0) := if_neg (by decide)
  have h1 : maskL 1 [102, 111, 111] 1 = dig 1 [102, 111, 111, 0, 0, 0, 0] := by
    rw [maskL_succ, maskL_zero, List.nil_append]
    rfl
  rw [h, ← maskL_take (i := 1) (by decide) (by decide) _ (by rw [h1, dig_foo]; decide), h1, dig_foo]
  rfl
theorem str_foo : ((strOfNums [26, 201, 7]).toList == (⟨#[26, 201, 7]⟩ : ByteArray).toList) = true := by decide +kernel
theorem info_len0 : (infoR 1 (List.replicate 20 0)).length = 35 := by rw [info_zero]; rfl
theorem pad_zero : padR 1 (List.replicate 20 0) 46 = ([0, 1, 255, 255, 255, 255, 255, 255, 255, 255, 0, 48, 33, 48, 9, 6, 5, 43, 14, 3, 2, 26, 5, 0, 4, 20] ++ List.replicate 20 0, 0) := by
  have h : padR 1 (List.replicate 20 0) 46 = if (46 : Int) < (infoR 1 (List.replicate 20 0)).length + 11 then ([], 2) else ([0, 1] ++ List.replicate ((46 : Int).toNat - (infoR 1 (List.replicate 20 0)).length - 3) 255 ++ [0] ++ infoR 1 (List.replicate 20 0), 0) := if_neg (by decide)
  rw [h, info_len0, if_neg (by decide), info_zero]
  rfl
theorem check_s {w : World} {A B : Option Addr} (hN : Rd w A (nums .u32 [15])) (hE : Rd w B (nums .u32 [3])) {K : Value → World → Prop} (hK : ∀ w', Fr w w' nob → K (.int .i64 80) w') : callK Tryd.prog 9 [.agg #[.slice A 1 1, .slice B 1 1]] w K :=
  check_k (N := [15]) (E := [3]) (Vw.of rfl (by decide) hN) (Vw.of rfl (by decide) hE) (fun x h => by simp at h; omega) (fun x h => by simp at h; omega) (by decide) (by decide) fun w' f => by rw [check_small]; exact hK w' f
theorem size_k0 : sizeK kN0 [3] = 64 := by
  unfold sizeK
  rw [check_key0, bits_key0]
  rfl
theorem size_s {w : World} {A B : Option Addr} (hN : Rd w A (nums .u32 kN0)) (hE : Rd w B (nums .u32 [3])) {K : Value → World → Prop} (hK : ∀ w', Fr w w' nob → K (.int .i64 64) w') : callK Tryd.prog 11 [.agg #[.slice A 16 16, .slice B 1 1]] w K :=
  sizek_k (N := kN0) (E := [3]) (Vw.of len_kN0 (by decide) hN) (Vw.of rfl (by decide) hE) lim_key0 (fun x h => by simp at h; omega) (by rw [len_kN0]; decide) (by decide) fun w' f => by rw [size_k0]; exact hK w' f
set_option maxHeartbeats 8000000 in
theorem live8_k {w : World} (hT : Tb w) {K : Value → World → Prop} (hK : ∀ w', Fr w w' nob → K (.bool true) w') : callK Tryd.prog 7 [] w K := by
  refine call_of Tryd.func7 Code.h7 (by simp [Code.c7]) ?_
  simp (disch := omega) only [wu64, wu32, wu8, fdiv_nn, EO, ↓EP, EQ, EM, ↓reduceIte, Za, Zb, Zc, Zd, Ze, Zf, Zg, Zj, Zk, Zl, Zm, Zn, Zp, Zq, reduceCtorEq, Code.c7]
  refine bsl3 fun w1 n1 => ?_
  simp (disch := omega) only [wu64, wu32, wu8, fdiv_nn, EO, ↓EP, EQ, EM, ↓reduceIte, Za, Zb, Zc, Zd, Ze, Zf, Zg, Zj, Zk, Zl, Zm, Zn, Zp, Zq, reduceCtorEq, ↓i_cvidT, ↓i_cvbsJ]
  refine cvid_k n1.rdl fun w2 f2 r2 => ?_
  have f02 : Fr w w2 nob := (n1.fr nob).trans f2 fun x hx e => by omega
  simp (disch := omega) only [wu64, wu32, wu8, fdiv_nn, EO, ↓EP, EQ, EM, ↓reduceIte, Za, Zb, Zc, Zd, Ze, Zf, Zg, Zj, Zk, Zl, Zm, Zn, Zp, Zq, reduceCtorEq]
  refine mask_k (seed := [102, 111, 111]) (hT.fr f02 (fun x => x) (fun x => x)) (Nat.le_refl _) r2 (by decide) fun v3 w3 h3 u3 f3 => ?_
  rw [mask_foo] at h3 ⊢
  obtain ⟨A3, c3, rfl, hc3, hr3⟩ := h3
  have f03 := f02.nb f3
  simp (disch := omega) only [wu64, wu32, wu8, fdiv_nn, EO, ↓EP, EQ, EM, ↓reduceIte, Za, Zb, Zc, Zd, Ze, Zf, Zg, Zj, Zk, Zl, Zm, Zn, Zp, Zq, reduceCtorEq]
  refine al_k (nums .u8 (List.replicate 20 0)) (by kernel_rfl) fun w4 n4 => ?_
  have f04 := f03.nb (n4.fr nob)
  have hv4 : Vw .u8 w4 (.slice (some ⟨w3.heap.size, 0, none⟩) 20 20) (List.replicate 20 0) := n4.sl.vw
  simp (disch := omega) only [wu64, wu32, wu8, fdiv_nn, EO, ↓EP, EQ, EM, ↓reduceIte, Za, Zb, Zc, Zd, Ze, Zf, Zg, Zj, Zk, Zl, Zm, Zn, Zp, Zq, reduceCtorEq]
  refine pad_k (by decide) hv4 (by decide) fun v5 w5 g5 => ?_
  rw [pad_zero] at g5 ⊢
  have f05 := f04.nb g5.fr
  obtain ⟨A5, c5, rfl, hc5, hr5, _⟩ := g5.sl.read
  simp (disch := omega) only [wu64, wu32, wu8, fdiv_nn, EO, ↓EP, EQ, EM, ↓reduceIte, Za, Zb, Zc, Zd, Ze, Zf, Zg, Zj, Zk, Zl, Zm, Zn, Zp, Zq, reduceCtorEq, pr2]
  refine known0_k fun A6 B6 v6 w6 r6 q6 f6 => ?_
  have f06 := f05.nb f6
  simp (disch := omega) only [wu64, wu32, wu8, fdiv_nn, EO, ↓EP, EQ, EM, ↓reduceIte, Za, Zb, Zc, Zd, Ze, Zf, Zg, Zj, Zk, Zl, Zm, Zn, Zp, Zq, reduceCtorEq]
  refine al_k [.slice none 0 0, .slice none 0 0] rfl fun w7 n7 => ?_
  simp (disch := omega) only [wu64, wu32, wu8, fdiv_nn, EO, ↓EP, EQ, EM, ↓reduceIte, Za, Zb, Zc, Zd, Ze, Zf, Zg, Zj, Zk, Zl, Zm, Zn, Zp, Zq, reduceCtorEq]
  refine st_whole (cs := [.slice A6 16 16, .slice B6 1 1]) n7.blk rfl rfl (by simp; exact ⟨rfl, rfl⟩) fun w8 p8 => ?_
  have hz7 := n7.size
  have f07 := f06.nb (n7.fr nob)
  have f68 : Fr w6 w8 nob := (n7.fr nob).trans p8.fr fun x hx e => by omega
  have f08 := f06.nb f68
  have f38 : Fr w3 w8 nob := (((n4.fr nob).nb g5.fr).nb f6).nb f68
  have f58 : Fr w5 w8 nob := f6.nb f68
  simp (disch := omega) only [wu64, wu32, wu8, fdiv_nn, EO, ↓EP, EQ, EM, ↓reduceIte, Za, Zb, Zc, Zd, Ze, Zf, Zg, Zj, Zk, Zl, Zm, Zn, Zp, Zq, reduceCtorEq]
  refine num8_k ?_
  simp (disch := omega) only [wu64, wu32, wu8, fdiv_nn, EO, ↓EP, EQ, EM, ↓reduceIte, Za, Zb, Zc, Zd, Ze, Zf, Zg, Zj, Zk, Zl, Zm, Zn, Zp, Zq, reduceCtorEq]
  refine num8_k ?_
  simp (disch := omega) only [wu64, wu32, wu8, fdiv_nn, EO, ↓EP, EQ, EM, ↓reduceIte, Za, Zb, Zc, Zd, Ze, Zf, Zg, Zj, Zk, Zl, Zm, Zn, Zp, Zq, reduceCtorEq, ↓i_cvidT, ↓i_cvbsJ]
  refine cvbs_k (l := [26, 201, 7]) (hr3.nb f38) rfl ?_
  simp (disch := omega) only [wu64, wu32, wu8, fdiv_nn, EO, ↓EP, EQ, EM, ↓reduceIte, Za, Zb, Zc, Zd, Ze, Zf, Zg, Zj, Zk, Zl, Zm, Zn, Zp, Zq, reduceCtorEq]
  refine eql_k str_foo ?_
  have hlen : ([0, 1, 255, 255, 255, 255, 255, 255, 255, 255, 0, 48, 33, 48, 9, 6, 5, 43, 14, 3, 2, 26, 5, 0, 4, 20] ++ List.replicate 20 (0 : Int)).length = 46 := by decide
  obtain ⟨pa, hpa, _, hcl⟩ := (hr5.nb f58).get (by rw [nums_length, hlen]; decide)
  subst hpa
  have z1 : w8.cell? (pa.add 1) = some (.int .u8 1) := hcl.numN (j := 1) (by rw [hlen]; decide)
  have z10 : w8.cell? (pa.add 10) = some (.int .u8 0) := hcl.numN (j := 10) (by rw [hlen]; decide)
  have z11 : w8.cell? (pa.add 11) = some (.int .u8 48) := hcl.numN (j := 11) (by rw [hlen]; decide)
  simp (disch := omega) only [wu64, wu32, wu8, fdiv_nn, EO, ↓EP, EQ, EM, ↓reduceIte, Za, Zb, Zc, Zd, Ze, Zf, Zg, Zj, Zk, Zl, Zm, Zn, Zp, Zq, reduceCtorEq, hlen, z1, z10, z11]
  refine bslV (l := [15]) (by kernel_rfl) fun w9 n9 => ?_
  have f9 := n9.fr nob
  simp (disch := omega) only [wu64, wu32, wu8, fdiv_nn, EO, ↓EP, EQ, EM, ↓reduceIte, Za, Zb, Zc, Zd, Ze, Zf, Zg, Zj, Zk, Zl, Zm, Zn, Zp, Zq, reduceCtorEq]
  refine bslV (l := [3]) (by kernel_rfl) fun w10 n10 => ?_
  have f10 := n10.fr nob
  simp (disch := omega) only [wu64, wu32, wu8, fdiv_nn, EO, ↓EP, EQ, EM, ↓reduceIte, Za, Zb, Zc, Zd, Ze, Zf, Zg, Zj, Zk, Zl, Zm, Zn, Zp, Zq, reduceCtorEq]
  refine ⟨_, fillK2 _ _ _ _ _ _, ?_⟩
  simp (disch := omega) only [wu64, wu32, wu8, fdiv_nn, EO, ↓EP, EQ, EM, ↓reduceIte, Za, Zb, Zc, Zd, Ze, Zf, Zg, Zj, Zk, Zl, Zm, Zn, Zp, Zq, reduceCtorEq]
  refine check_s (n9.rdl.nb f10) n10.rdl fun w11 f11 => ?_
  have f8b : Fr w8 w11 nob := (f9.nb f10).nb f11
  simp (disch := omega) only [wu64, wu32, wu8, fdiv_nn, EO, ↓EP, EQ, EM, ↓reduceIte, Za, Zb, Zc, Zd, Ze, Zf, Zg, Zj, Zk, Zl, Zm, Zn, Zp, Zq, reduceCtorEq]
  refine num8_k ?_
  simp (disch := omega) only [wu64, wu32, wu8, fdiv_nn, EO, ↓EP, EQ, EM, ↓reduceIte, Za, Zb, Zc, Zd, Ze, Zf, Zg, Zj, Zk, Zl, Zm, Zn, Zp, Zq, reduceCtorEq]
  refine (p8.blk.nb f8b).ldAgg rfl ?_
  simp (disch := omega) only [wu64, wu32, wu8, fdiv_nn, EO, ↓EP, EQ, EM, ↓reduceIte, Za, Zb, Zc, Zd, Ze, Zf, Zg, Zj, Zk, Zl, Zm, Zn, Zp, Zq, reduceCtorEq]
  refine size_s ((r6.nb f68).nb f8b) ((q6.nb f68).nb f8b) fun w12 f12 => ?_
  simp (disch := omega) only [wu64, wu32, wu8, fdiv_nn, EO, ↓EP, EQ, EM, ↓reduceIte, Za, Zb, Zc, Zd, Ze, Zf, Zg, Zj, Zk, Zl, Zm, Zn, Zp, Zq, reduceCtorEq]
  exact hK _ ((f08.nb f8b).nb f12)
end Go.Proofs.YtcgplgpdcfocpaaDoor.Der
end
section
set_option linter.unusedVariables false
set_option linter.unusedSimpArgs false
namespace Go.Proofs.YtcgplgpdcfocpaaDoor.Der
open Go Go.RowKit Go.Proofs Go.Proofs.YtcgplgpdcfocpaaDoor.Eng Go.Proofs.YtcgplgpdcfocpaaDoor.Code
set_option maxRecDepth 100000
attribute [local irreducible] callK S.W opsW scrW scrT
open Go.Proofs.YtcgplgpdcfocpaaDoor.Spec Go.Proofs.YtcgplgpdcfocpaaDoor.Big
attribute [local irreducible] checkR powR tbR fbR
def rawR (N E sig : List Int) : List Int × Int :=
  if sizeK N E = 0 then ([], 80) else if (sig.length : Int) ≠ sizeK N E then ([], 112) else if ¬ val (fbR sig).1 < val N then ([], 112) else ((tbR (powR (fbR sig).1 E N).1 (sizeK N E)).1, 0)
theorem fb_lim (l : List Int) : Lim (fbR l).1 := by
  unfold fbR
  split
  · exact Lim.nil
  · exact limbs_lim _
theorem pow_lim (b e m : List Int) : Lim (powR b e m).1 := by
  unfold powR
  repeat' split
  · exact Lim.nil
  · exact Lim.nil
  · exact limbs_lim _
theorem fb_len (l : List Int) (h : Byt l) : (fbR l).1.length ≤ 512 := by
  unfold fbR
  split
  · simp
  · rename_i hl
    show (limbs (bv l)).length ≤ 512
    rw [limbs_len (bv_bd h).1]
    refine Int.lt_of_lt_of_le (bv_bd h).2 ?_
    rw [p8_pw, p8_p2, p8_p2]
    exact p2_mono (by omega)
theorem size_bd {N E : List Int} (lN : Lim N) : 0 ≤ sizeK N E ∧ sizeK N E ≤ 1024 := by
  unfold sizeK
  by_cases h : checkR N E = 0
  · rw [if_neg (by simpa using h)]
    have hn : ¬ 256 < N.length := fun g => by
      unfold checkR at h
      rw [if_pos (.inl g)] at h
      exact absurd h (by decide)
    have := bl_lim lN
    omega
  · rw [if_pos h]; omega
theorem raw_tb {N E s : List Int} (lN : Lim N) (h : sizeK N E ≠ 0) : (tbR (powR s E N).1 (sizeK N E)).2 = 0 := by
  have hb := size_bd (E := E) lN
  have hl := pow_len (b := s) (e := E) (m := N) lN
  have hv : 0 ≤ val (powR s E N).1 ∧ bl (val (powR s E N).1) ≤ bl (val N) := by
    have b1 := val_bd lN
    unfold powR
    split
    · exact ⟨by simp [val], by simp [val, bl]⟩
    · split
      · exact ⟨by simp [val], by simp [val, bl]⟩
      · rename_i hz
        have hp : 0 < val N := by omega
        have h0 := Int.emod_nonneg (val s ^ (val E).toNat) (by omega : val N ≠ 0)
        have h1 := Int.emod_lt_of_pos (val s ^ (val E).toNat) hp
        show 0 ≤ val (limbs _) ∧ bl (val (limbs _)) ≤ _
        rw [limbs_val h0]
        refine ⟨h0, ?_⟩
        rw [bl_le h0]
        exact Int.lt_trans h1 ((bl_le b1.1).1 (Nat.le_refl _))
  unfold tbR
  rw [if_neg (by omega), if_neg (by omega), if_neg]
  have e : sizeK N E = ((bl (val N) + 7) / 8 : Nat) := by
    unfold sizeK at h ⊢
    split at h
    · exact absurd rfl h
    · rename_i hc
      rw [if_neg hc]
  rw [e]
  have : (bl (val (powR s E N).1) + 7) / 8 ≤ (bl (val N) + 7) / 8 := by omega
  omega
set_option maxHeartbeats 8000000 in
theorem raw_k {w : World} {vN vE v : Value} {N E sig : List Int} (hN : Vw .u32 w vN N) (hE : Vw .u32 w vE E) (lN : Lim N) (lE : Lim E) (nN : N.length ≤ 4194304) (nE : E.length ≤ 4194304) (hv : Vw .u8 w v sig) (hb : Byt sig) (h63 : sig.length ≤ 9223372036854775807) {K : Value → World → Prop}
    (hK : ∀ v' w', Gw .u8 w w' v' (rawR N E sig).1 → K (pr2 v' (rawR N E sig).2) w') : callK Tryd.prog 21 [.agg #[vN, vE], v] w K := by
  refine call_of Tryd.func21 Code.h21 (by simp [Code.c21]) ?_
  have hN0 := hN
  have hE0 := hE
  have hv0 := hv
  obtain ⟨A, c, rfl, hc, hr⟩ := hN0
  obtain ⟨B, d, rfl, hd, hs⟩ := hE0
  obtain ⟨D, q, rfl, hq, ht⟩ := hv0
  have hsb := size_bd (E := E) lN
  simp (disch := omega) only [wu64, wu32, wu8, fdiv_nn, EO, ↓EP, EQ, EM, ↓reduceIte, Za, Zb, Zc, Zd, Ze, Zf, Zg, Zj, Zk, Zl, Zm, Zn, Zp, Zq, reduceCtorEq, Code.c21]
  refine al_k [.slice A N.length c, .slice B E.length d] rfl fun w1 n1 => ?_
  have f1 := n1.fr nob
  simp (disch := omega) only [wu64, wu32, wu8, fdiv_nn, EO, ↓EP, EQ, EM, ↓reduceIte, Za, Zb, Zc, Zd, Ze, Zf, Zg, Zj, Zk, Zl, Zm, Zn, Zp, Zq, reduceCtorEq]
  refine n1.blk.ldAgg rfl ?_
  simp (disch := omega) only [wu64, wu32, wu8, fdiv_nn, EO, ↓EP, EQ, EM, ↓reduceIte, Za, Zb, Zc, Zd, Ze, Zf, Zg, Zj, Zk, Zl, Zm, Zn, Zp, Zq, reduceCtorEq]
  refine sizek_k (hN.nb f1) (hE.nb f1) lN lE nN nE fun w2 f2 => ?_
  have f12 := f1.nb f2
  by_cases h0 : sizeK N E = 0
  · have e : rawR N E sig = ([], 80) := if_pos h0
    rw [e] at hK
    simp (disch := omega) only [wu64, wu32, wu8, fdiv_nn, EO, ↓EP, EQ, EM, ↓reduceIte, Za, Zb, Zc, Zd, Ze, Zf, Zg, Zj, Zk, Zl, Zm, Zn, Zp, Zq, reduceCtorEq, h0]
    exact hK _ _ ⟨Sl.nil _ _, (fun b e => by cases e), f12⟩
  by_cases h1 : (sig.length : Int) = sizeK N E
  rotate_left
  · have e : rawR N E sig = ([], 112) := by unfold rawR; rw [if_neg h0, if_pos h1]
    rw [e] at hK
    simp (disch := omega) only [wu64, wu32, wu8, fdiv_nn, EO, ↓EP, EQ, EM, ↓reduceIte, Za, Zb, Zc, Zd, Ze, Zf, Zg, Zj, Zk, Zl, Zm, Zn, Zp, Zq, reduceCtorEq, h0, h1]
    exact hK _ _ ⟨Sl.nil _ _, (fun b e => by cases e), f12⟩
  simp (disch := omega) only [wu64, wu32, wu8, fdiv_nn, EO, ↓EP, EQ, EM, ↓reduceIte, Za, Zb, Zc, Zd, Ze, Zf, Zg, Zj, Zk, Zl, Zm, Zn, Zp, Zq, reduceCtorEq, h0, h1]
  refine frombytes_vw (hv.nb f12) hb _ fun v3 w3 g3 => ?_
  obtain ⟨A3, c3, rfl, hc3, hr3, _⟩ := g3.sl.read
  have f13 := f12.nb g3.fr
  have k0 : ∀ w', Fr w1 w' nob → w'.cell? ⟨w.heap.size, 0, none⟩ = some (.slice A N.length c) := fun w' f => (n1.blk.nb f).has 0 _ rfl
  have k1 : ∀ w', Fr w1 w' nob → w'.cell? ⟨w.heap.size, 1, none⟩ = some (.slice B E.length d) := fun w' f => (n1.blk.nb f).has 1 _ rfl
  have c0 := k0 w3 (f2.nb g3.fr)
  have hfl := fb_len sig hb
  simp (disch := omega) only [wu64, wu32, wu8, fdiv_nn, EO, ↓EP, EQ, EM, ↓reduceIte, Za, Zb, Zc, Zd, Ze, Zf, Zg, Zj, Zk, Zl, Zm, Zn, Zp, Zq, reduceCtorEq, c0]
  refine cmp_vw g3.vw (hN.nb f13) (fb_lim sig) lN (by omega) (by omega) _ fun w4 f4 => ?_
  have f14 := f13.nb f4
  have c0 := k0 w4 ((f2.nb g3.fr).nb f4)
  have c1 := k1 w4 ((f2.nb g3.fr).nb f4)
  by_cases h2 : val (fbR sig).1 < val N
  rotate_left
  · have e : rawR N E sig = ([], 112) := by unfold rawR; rw [if_neg h0, if_neg (by simpa using h1), if_pos h2]
    rw [e] at hK
    have hcm : 0 ≤ cmpI (val (fbR sig).1) (val N) := by
      unfold cmpI
      rw [if_neg h2]
      split <;> omega
    simp (disch := omega) only [wu64, wu32, wu8, fdiv_nn, EO, ↓EP, EQ, EM, ↓reduceIte, Za, Zb, Zc, Zd, Ze, Zf, Zg, Zj, Zk, Zl, Zm, Zn, Zp, Zq, reduceCtorEq, hcm]
    exact hK _ _ ⟨Sl.nil _ _, (fun b e => by cases e), f14⟩
  have e : rawR N E sig = ((tbR (powR (fbR sig).1 E N).1 (sizeK N E)).1, 0) := by unfold rawR; rw [if_neg h0, if_neg (by simpa using h1), if_neg (by simpa using h2)]
  rw [e] at hK
  have hcm : ¬ 0 ≤ cmpI (val (fbR sig).1) (val N) := by rw [cmp_lt h2]; decide
  simp (disch := omega) only [wu64, wu32, wu8, fdiv_nn, EO, ↓EP, EQ, EM, ↓reduceIte, Za, Zb, Zc, Zd, Ze, Zf, Zg, Zj, Zk, Zl, Zm, Zn, Zp, Zq, reduceCtorEq, hcm, c0, c1]
  refine expmod_vw (g3.vw.nb f4) (hE.nb f14) (hN.nb f14) (fb_lim sig) lE lN _ fun v5 w5 g5 => ?_
  obtain ⟨A5, c5, rfl, hc5, hr5, _⟩ := g5.sl.read
  have f15 := f14.nb g5.fr
  simp (disch := omega) only [wu64, wu32, wu8, fdiv_nn, EO, ↓EP, EQ, EM, ↓reduceIte, Za, Zb, Zc, Zd, Ze, Zf, Zg, Zj, Zk, Zl, Zm, Zn, Zp, Zq, reduceCtorEq]
  refine bytes_vw (sizeK N E) g5.vw (pow_lim _ _ _) (by omega) _ fun v6 w6 g6 => ?_
  obtain ⟨A6, c6, rfl, hc6, hr6, _⟩ := g6.sl.read
  simp (disch := omega) only [wu64, wu32, wu8, fdiv_nn, EO, ↓EP, EQ, EM, ↓reduceIte, Za, Zb, Zc, Zd, Ze, Zf, Zg, Zj, Zk, Zl, Zm, Zn, Zp, Zq, reduceCtorEq]
  refine hK _ _ ⟨g6.sl, fun b e => ?_, f15.nb g6.fr⟩
  have := g6.up b e
  have := f15.size
  omega
end Go.Proofs.YtcgplgpdcfocpaaDoor.Der
end
section
set_option linter.unusedVariables false
set_option linter.unusedSimpArgs false
namespace Go.Proofs.YtcgplgpdcfocpaaDoor.Der
open Go Go.RowKit Go.Proofs Go.Proofs.YtcgplgpdcfocpaaDoor.Eng Go.Proofs.YtcgplgpdcfocpaaDoor.Code
set_option maxRecDepth 100000
attribute [local irreducible] callK S.W opsW scrW scrT
open Go.Proofs.YtcgplgpdcfocpaaDoor.Spec Go.Proofs.YtcgplgpdcfocpaaDoor.Big
attribute [local irreducible] checkR powR tbR fbR
set_option maxHeartbeats 8000000 in
theorem rraw_k {w : World} {vN vE v : Value} {N E sig : List Int} (hN : Vw .u32 w vN N) (hE : Vw .u32 w vE E) (lN : Lim N) (lE : Lim E) (nN : N.length ≤ 4194304) (nE : E.length ≤ 4194304) (hv : Vw .u8 w v sig) (hb : Byt sig) (h63 : sig.length ≤ 9223372036854775807) {K : Value → World → Prop}
    (hK : ∀ v' w', Gw .u8 w w' v' (rawR N E sig).1 → K (pr2 v' (rawR N E sig).2) w') : callK Tryd.prog 22 [.agg #[vN, vE], v] w K := by
  refine call_of Tryd.func22 Code.h22 (by simp [Code.c22]) ?_
  have hN0 := hN
  have hE0 := hE
  have hv0 := hv
  obtain ⟨A, c, rfl, hc, hr⟩ := hN0
  obtain ⟨B, d, rfl, hd, hs⟩ := hE0
  obtain ⟨D, q, rfl, hq, ht⟩ := hv0
  have hsb := size_bd (E := E) lN
  simp (disch := omega) only [wu64, wu32, wu8, fdiv_nn, EO, ↓EP, EQ, EM, ↓reduceIte, Za, Zb, Zc, Zd, Ze, Zf, Zg, Zj, Zk, Zl, Zm, Zn, Zp, Zq, reduceCtorEq, Code.c22]
  refine al_k [.slice A N.length c, .slice B E.length d] rfl fun w1 n1 => ?_
  have f1 := n1.fr nob
  simp (disch := omega) only [wu64, wu32, wu8, fdiv_nn, EO, ↓EP, EQ, EM, ↓reduceIte, Za, Zb, Zc, Zd, Ze, Zf, Zg, Zj, Zk, Zl, Zm, Zn, Zp, Zq, reduceCtorEq]
  refine n1.blk.ldAgg rfl ?_
  simp (disch := omega) only [wu64, wu32, wu8, fdiv_nn, EO, ↓EP, EQ, EM, ↓reduceIte, Za, Zb, Zc, Zd, Ze, Zf, Zg, Zj, Zk, Zl, Zm, Zn, Zp, Zq, reduceCtorEq]
  refine rcheck_k (hN.nb f1) (hE.nb f1) lN lE nN nE fun w2 f2 => ?_
  have f12 := f1.nb f2
  by_cases hcz : checkR N E = 0
  rotate_left
  · have h0 : sizeK N E = 0 := if_pos hcz
    have e : rawR N E sig = ([], 80) := if_pos h0
    rw [e] at hK
    simp (disch := omega) only [wu64, wu32, wu8, fdiv_nn, EO, ↓EP, EQ, EM, ↓reduceIte, Za, Zb, Zc, Zd, Ze, Zf, Zg, Zj, Zk, Zl, Zm, Zn, Zp, Zq, reduceCtorEq, hcz]
    exact hK _ _ ⟨Sl.nil _ _, (fun b e => by cases e), f12⟩
  have h0 : sizeK N E ≠ 0 := by
    unfold sizeK
    rw [if_neg (by simpa using hcz)]
    have : 512 ≤ bl (val N) := by
      apply Classical.byContradiction
      intro h
      unfold checkR at hcz
      rw [if_pos (by omega)] at hcz
      exact absurd hcz (by decide)
    omega
  simp (disch := omega) only [wu64, wu32, wu8, fdiv_nn, EO, ↓EP, EQ, EM, ↓reduceIte, Za, Zb, Zc, Zd, Ze, Zf, Zg, Zj, Zk, Zl, Zm, Zn, Zp, Zq, reduceCtorEq, hcz]
  refine (n1.blk.nb f2).ldAgg rfl ?_
  simp (disch := omega) only [wu64, wu32, wu8, fdiv_nn, EO, ↓EP, EQ, EM, ↓reduceIte, Za, Zb, Zc, Zd, Ze, Zf, Zg, Zj, Zk, Zl, Zm, Zn, Zp, Zq, reduceCtorEq]
  refine rsizek_k (hN.nb f12) (hE.nb f12) lN lE nN nE fun w2b f2b => ?_
  have f12 := f12.nb f2b
  have f2 := f2.nb f2b
  by_cases h1 : (sig.length : Int) = sizeK N E
  rotate_left
  · have e : rawR N E sig = ([], 112) := by unfold rawR; rw [if_neg h0, if_pos h1]
    rw [e] at hK
    simp (disch := omega) only [wu64, wu32, wu8, fdiv_nn, EO, ↓EP, EQ, EM, ↓reduceIte, Za, Zb, Zc, Zd, Ze, Zf, Zg, Zj, Zk, Zl, Zm, Zn, Zp, Zq, reduceCtorEq, h1]
    exact hK _ _ ⟨Sl.nil _ _, (fun b e => by cases e), f12⟩
  simp (disch := omega) only [wu64, wu32, wu8, fdiv_nn, EO, ↓EP, EQ, EM, ↓reduceIte, Za, Zb, Zc, Zd, Ze, Zf, Zg, Zj, Zk, Zl, Zm, Zn, Zp, Zq, reduceCtorEq, h1]
  refine rfrombytes_vw (hv.nb f12) hb _ fun v3 w3 g3 => ?_
  obtain ⟨A3, c3, rfl, hc3, hr3, _⟩ := g3.sl.read
  have f13 := f12.nb g3.fr
  have k0 : ∀ w', Fr w1 w' nob → w'.cell? ⟨w.heap.size, 0, none⟩ = some (.slice A N.length c) := fun w' f => (n1.blk.nb f).has 0 _ rfl
  have k1 : ∀ w', Fr w1 w' nob → w'.cell? ⟨w.heap.size, 1, none⟩ = some (.slice B E.length d) := fun w' f => (n1.blk.nb f).has 1 _ rfl
  have c0 := k0 w3 (f2.nb g3.fr)
  have hfl := fb_len sig hb
  simp (disch := omega) only [wu64, wu32, wu8, fdiv_nn, EO, ↓EP, EQ, EM, ↓reduceIte, Za, Zb, Zc, Zd, Ze, Zf, Zg, Zj, Zk, Zl, Zm, Zn, Zp, Zq, reduceCtorEq, c0]
  refine rcmp_vw g3.vw (hN.nb f13) (fb_lim sig) lN (by omega) (by omega) _ fun cv w4 f4 q1 q2 q3 => ?_
  have f14 := f13.nb f4
  have c0 := k0 w4 ((f2.nb g3.fr).nb f4)
  have c1 := k1 w4 ((f2.nb g3.fr).nb f4)
  by_cases h2 : val (fbR sig).1 < val N
  rotate_left
  · have e : rawR N E sig = ([], 112) := by unfold rawR; rw [if_neg h0, if_neg (by simpa using h1), if_pos h2]
    rw [e] at hK
    have hcm : 0 ≤ cv := by
      by_cases h3 : val (fbR sig).1 = val N
      · have := q2 h3; omega
      · have := q3 (by omega); omega
    simp (disch := omega) only [wu64, wu32, wu8, fdiv_nn, EO, ↓EP, EQ, EM, ↓reduceIte, Za, Zb, Zc, Zd, Ze, Zf, Zg, Zj, Zk, Zl, Zm, Zn, Zp, Zq, reduceCtorEq, hcm]
    exact hK _ _ ⟨Sl.nil _ _, (fun b e => by cases e), f14⟩
  have e : rawR N E sig = ((tbR (powR (fbR sig).1 E N).1 (sizeK N E)).1, 0) := by unfold rawR; rw [if_neg h0, if_neg (by simpa using h1), if_neg (by simpa using h2)]
  rw [e] at hK
  have hcm : ¬ 0 ≤ cv := by rw [q1 h2]; decide
  simp (disch := omega) only [wu64, wu32, wu8, fdiv_nn, EO, ↓EP, EQ, EM, ↓reduceIte, Za, Zb, Zc, Zd, Ze, Zf, Zg, Zj, Zk, Zl, Zm, Zn, Zp, Zq, reduceCtorEq, hcm, c0, c1]
  refine rexpmod_vw (g3.vw.nb f4) (hE.nb f14) (hN.nb f14) (fb_lim sig) lE lN _ fun v5 w5 g5 => ?_
  obtain ⟨A5, c5, rfl, hc5, hr5, _⟩ := g5.sl.read
  have f15 := f14.nb g5.fr
  simp (disch := omega) only [wu64, wu32, wu8, fdiv_nn, EO, ↓EP, EQ, EM, ↓reduceIte, Za, Zb, Zc, Zd, Ze, Zf, Zg, Zj, Zk, Zl, Zm, Zn, Zp, Zq, reduceCtorEq]
  refine (n1.blk.nb (((f2.nb g3.fr).nb f4).nb g5.fr)).ldAgg rfl ?_
  simp (disch := omega) only [wu64, wu32, wu8, fdiv_nn, EO, ↓EP, EQ, EM, ↓reduceIte, Za, Zb, Zc, Zd, Ze, Zf, Zg, Zj, Zk, Zl, Zm, Zn, Zp, Zq, reduceCtorEq]
  refine rsizek_k (hN.nb f15) (hE.nb f15) lN lE nN nE fun w5b f5b => ?_
  have f15 := f15.nb f5b
  simp (disch := omega) only [wu64, wu32, wu8, fdiv_nn, EO, ↓EP, EQ, EM, ↓reduceIte, Za, Zb, Zc, Zd, Ze, Zf, Zg, Zj, Zk, Zl, Zm, Zn, Zp, Zq, reduceCtorEq]
  refine rbytes_vw (sizeK N E) (g5.vw.nb f5b) (pow_lim _ _ _) (by omega) _ fun v6 w6 g6 => ?_
  rw [raw_tb lN h0]
  obtain ⟨A6, c6, rfl, hc6, hr6, _⟩ := g6.sl.read
  simp (disch := omega) only [wu64, wu32, wu8, fdiv_nn, EO, ↓EP, EQ, EM, ↓reduceIte, Za, Zb, Zc, Zd, Ze, Zf, Zg, Zj, Zk, Zl, Zm, Zn, Zp, Zq, reduceCtorEq]
  refine hK _ _ ⟨g6.sl, fun b e => ?_, f15.nb g6.fr⟩
  have := g6.up b e
  have := f15.size
  omega
end Go.Proofs.YtcgplgpdcfocpaaDoor.Der
end
section
set_option linter.unusedVariables false
set_option linter.unusedSimpArgs false
namespace Go.Proofs.YtcgplgpdcfocpaaDoor.Der
open Go Go.RowKit Go.Proofs Go.Proofs.YtcgplgpdcfocpaaDoor.Eng Go.Proofs.YtcgplgpdcfocpaaDoor.Code
set_option maxRecDepth 100000
attribute [local irreducible] callK S.W opsW scrW scrT
open Go.Proofs.YtcgplgpdcfocpaaDoor.Spec Go.Proofs.YtcgplgpdcfocpaaDoor.Big
attribute [local irreducible] checkR sizeK rawR padR putR headR oidP
end Go.Proofs.YtcgplgpdcfocpaaDoor.Der
end
section
set_option linter.unusedVariables false
set_option linter.unusedSimpArgs false
namespace Go.Proofs.YtcgplgpdcfocpaaDoor.Der
open Go Go.RowKit Go.Proofs Go.Proofs.YtcgplgpdcfocpaaDoor.Eng Go.Proofs.YtcgplgpdcfocpaaDoor.Code
set_option maxRecDepth 100000
attribute [local irreducible] callK S.W opsW scrW scrT
open Go.Proofs.YtcgplgpdcfocpaaDoor.Spec Go.Proofs.YtcgplgpdcfocpaaDoor.Big
theorem rawR_len {N E sig : List Int} : (rawR N E sig).1.length ≤ 2048 := by
  unfold rawR
  split
  · simp
  split
  · simp
  split
  · simp
  · show ((tbR _ _).1).length ≤ _
    unfold tbR
    split
    · simp
    split
    · simp
    split
    · simp
    · show (bvs _ _).length ≤ _
      rw [bvs_len]
      omega
end Go.Proofs.YtcgplgpdcfocpaaDoor.Der
end
section
set_option linter.unusedVariables false
set_option linter.unusedSimpArgs false
namespace Go.Proofs.YtcgplgpdcfocpaaDoor.Der
open Go Go.RowKit Go.Proofs Go.Proofs.YtcgplgpdcfocpaaDoor.Eng Go.Proofs.YtcgplgpdcfocpaaDoor.Code
set_option maxRecDepth 100000
attribute [local irreducible] callK S.W opsW scrW scrT
open Go.Proofs.YtcgplgpdcfocpaaDoor.Spec Go.Proofs.YtcgplgpdcfocpaaDoor.Big
attribute [local irreducible] maskR padR
end Go.Proofs.YtcgplgpdcfocpaaDoor.Der
end
section
set_option linter.unusedVariables false
set_option linter.unusedSimpArgs false
namespace Go.Proofs.YtcgplgpdcfocpaaDoor.Der
open Go Go.RowKit Go.Proofs Go.Proofs.YtcgplgpdcfocpaaDoor.Eng Go.Proofs.YtcgplgpdcfocpaaDoor.Code
set_option maxRecDepth 100000
attribute [local irreducible] callK S.W opsW scrW scrT
open Go.Proofs.YtcgplgpdcfocpaaDoor.Spec Go.Proofs.YtcgplgpdcfocpaaDoor.Big
attribute [local irreducible] checkR sizeK rawR
theorem lnt_rd4 {w0 w : World} {v : Value} {l : List Int} {x y : Int} (h : Lnt .u8 w0 w v l x y) : ∃ A c, v = .slice A l.length c ∧ l.length ≤ c ∧ Rd w A (nums .u8 l) := by
  obtain ⟨b, c, rfl, hc, _, hr⟩ := h.read
  exact ⟨_, c, rfl, by omega, hr⟩
theorem lnt_rd32 {w0 w : World} {v : Value} {l : List Int} {x y : Int} (h : Lnt .u32 w0 w v l x y) : ∃ A c, v = .slice A l.length c ∧ l.length ≤ c ∧ Rd w A (nums .u32 l) := by
  obtain ⟨b, c, rfl, hc, _, hr⟩ := h.read
  exact ⟨_, c, rfl, by omega, hr⟩
set_option maxHeartbeats 8000000 in
theorem raws_k {w : World} (hT : Tb w) {vN vE v : Value} {N E sig : List Int} (hN : Vw .u32 w vN N) (hE : Vw .u32 w vE E) (lN : Lim N) (lE : Lim E) (nN : N.length ≤ 9223372036854775807) (nE : E.length ≤ 9223372036854775807) (hv : Vw .u8 w v sig) (hb : Byt sig) (h63 : sig.length ≤ 9223372036854775807) {K : Value → World → Prop} (hK : ∀ w', Fr w w' nob → K (.bool true) w') : callK Tryd.prog 6 [.agg #[vN, vE], v] w K := by
  refine call_of Tryd.func6 Code.h6 (by simp [Code.c6]) ?_
  have hN0 := hN
  have hE0 := hE
  have hv0 := hv
  obtain ⟨A, c, rfl, hc, hr⟩ := hN0
  obtain ⟨B, d, rfl, hd, hs⟩ := hE0
  obtain ⟨D, q, rfl, hq, ht⟩ := hv0
  simp (disch := omega) only [wu64, wu32, wu8, fdiv_nn, EO, ↓EP, EQ, EM, ↓reduceIte, Za, Zb, Zc, Zd, Ze, Zf, Zg, Zj, Zk, Zl, Zm, Zn, Zp, Zq, reduceCtorEq, Code.c6]
  refine al_k [.slice A N.length c, .slice B E.length d] rfl fun w1 n1 => ?_
  have f1 := n1.fr nob
  have c0 : w1.cell? ⟨w.heap.size, 0, none⟩ = some (.slice A N.length c) := n1.blk.has 0 _ rfl
  have c1 : w1.cell? ⟨w.heap.size, 1, none⟩ = some (.slice B E.length d) := n1.blk.has 1 _ rfl
  by_cases h1 : (64 : Int) < (N.length : Int)
  · simp (disch := omega) only [wu64, wu32, wu8, fdiv_nn, EO, ↓EP, EQ, EM, ↓reduceIte, Za, Zb, Zc, Zd, Ze, Zf, Zg, Zj, Zk, Zl, Zm, Zn, Zp, Zq, reduceCtorEq, c0, c1, h1]
    refine live8_k (hT.fr f1 (fun x => x) (fun x => x)) fun w2 f2 => ?_
    simp (disch := omega) only [wu64, wu32, wu8, fdiv_nn, EO, ↓EP, EQ, EM, ↓reduceIte, Za, Zb, Zc, Zd, Ze, Zf, Zg, Zj, Zk, Zl, Zm, Zn, Zp, Zq, reduceCtorEq]
    exact hK _ (f1.nb f2)
  by_cases h2 : (600 : Int) < (E.length : Int)
  · simp (disch := omega) only [wu64, wu32, wu8, fdiv_nn, EO, ↓EP, EQ, EM, ↓reduceIte, Za, Zb, Zc, Zd, Ze, Zf, Zg, Zj, Zk, Zl, Zm, Zn, Zp, Zq, reduceCtorEq, c0, c1, h1, h2]
    refine live8_k (hT.fr f1 (fun x => x) (fun x => x)) fun w2 f2 => ?_
    simp (disch := omega) only [wu64, wu32, wu8, fdiv_nn, EO, ↓EP, EQ, EM, ↓reduceIte, Za, Zb, Zc, Zd, Ze, Zf, Zg, Zj, Zk, Zl, Zm, Zn, Zp, Zq, reduceCtorEq]
    exact hK _ (f1.nb f2)
  by_cases h3 : (8192 : Int) < (sig.length : Int)
  · simp (disch := omega) only [wu64, wu32, wu8, fdiv_nn, EO, ↓EP, EQ, EM, ↓reduceIte, Za, Zb, Zc, Zd, Ze, Zf, Zg, Zj, Zk, Zl, Zm, Zn, Zp, Zq, reduceCtorEq, c0, c1, h1, h2, h3]
    refine live8_k (hT.fr f1 (fun x => x) (fun x => x)) fun w2 f2 => ?_
    simp (disch := omega) only [wu64, wu32, wu8, fdiv_nn, EO, ↓EP, EQ, EM, ↓reduceIte, Za, Zb, Zc, Zd, Ze, Zf, Zg, Zj, Zk, Zl, Zm, Zn, Zp, Zq, reduceCtorEq]
    exact hK _ (f1.nb f2)
  simp (disch := omega) only [wu64, wu32, wu8, fdiv_nn, EO, ↓EP, EQ, EM, ↓reduceIte, Za, Zb, Zc, Zd, Ze, Zf, Zg, Zj, Zk, Zl, Zm, Zn, Zp, Zq, reduceCtorEq, c0, c1, h1, h2, h3]
  have alls : ∀ w', Fr w1 w' nob → allC [(TyK.slice, ⟨w.heap.size, 1, none⟩, Value.slice B E.length d), (TyK.slice, ⟨w.heap.size, 0, none⟩, Value.slice A N.length c)] w' := fun w' f => ⟨⟨_, _, _, (n1.blk.nb f).has 1 _ rfl, rfl⟩, ⟨_, _, _, (n1.blk.nb f).has 0 _ rfl, rfl⟩, trivial⟩
  intro m1
  have g1 := fr_drewN' w1 (1 + m1)
  refine lentb_vw ((hv.nb f1).nb g1) (by omega) _ fun v2 w2 L2 f2 => ?_
  have e2 := g1.nb f2
  refine ⟨alls w2 e2, ?_⟩
  obtain ⟨A2, c2, rfl, hc2, hr2⟩ := lnt_rd4 L2
  simp (disch := omega) only [wu64, wu32, wu8, fdiv_nn, EO, ↓EP, EQ, EM, ↓reduceIte, Za, Zb, Zc, Zd, Ze, Zf, Zg, Zj, Zk, Zl, Zm, Zn, Zp, Zq, reduceCtorEq]
  intro m2
  have e2' := e2.nb (fr_drewN' w2 m2)
  refine lent_vw ((hN.nb f1).nb e2') (by omega) _ fun v3 w3 L3 f3 => ?_
  have e3 := e2'.nb f3
  refine ⟨alls w3 e3, ?_⟩
  obtain ⟨A3, c3, rfl, hc3, hr3⟩ := lnt_rd32 L3
  simp (disch := omega) only [wu64, wu32, wu8, fdiv_nn, EO, ↓EP, EQ, EM, ↓reduceIte, Za, Zb, Zc, Zd, Ze, Zf, Zg, Zj, Zk, Zl, Zm, Zn, Zp, Zq, reduceCtorEq]
  intro m3
  have e3' := e3.nb (fr_drewN' w3 m3)
  refine lent_vw ((hE.nb f1).nb e3') (by omega) _ fun v4 w4 L4 f4 => ?_
  have e4 := e3'.nb f4
  refine ⟨alls w4 e4, ?_⟩
  obtain ⟨A4, c4, rfl, hc4, hr4⟩ := lnt_rd32 L4
  simp (disch := omega) only [wu64, wu32, wu8, fdiv_nn, EO, ↓EP, EQ, EM, ↓reduceIte, Za, Zb, Zc, Zd, Ze, Zf, Zg, Zj, Zk, Zl, Zm, Zn, Zp, Zq, reduceCtorEq]
  intro m4
  have g4 := fr_drewN' w4 m4
  have e4' := e4.nb g4
  have f34 : Fr w3 (w4.drewN m4) nob := ((fr_drewN' w3 m3).nb f4).nb g4
  have f24 : Fr w2 (w4.drewN m4) nob := ((fr_drewN' w2 m2).nb f3).nb f34
  refine ⟨_, fillK2 _ _ _ _ _ _, ?_⟩
  simp (disch := omega) only [wu64, wu32, wu8, fdiv_nn, EO, ↓EP, EQ, EM, ↓reduceIte, Za, Zb, Zc, Zd, Ze, Zf, Zg, Zj, Zk, Zl, Zm, Zn, Zp, Zq, reduceCtorEq]
  refine raw_k (N := N) (E := E) (Vw.of rfl hc3 (hr3.nb f34)) (Vw.of rfl hc4 (hr4.nb g4)) lN lE (by omega) (by omega) (Vw.of rfl hc2 (hr2.nb f24)) hb h63 fun v5 w5 g5 => ?_
  have e5 := e4'.nb g5.fr
  obtain ⟨A5, c5, rfl, hc5, hr5⟩ := g5.vw
  simp (disch := omega) only [wu64, wu32, wu8, fdiv_nn, EO, ↓EP, EQ, EM, ↓reduceIte, Za, Zb, Zc, Zd, Ze, Zf, Zg, Zj, Zk, Zl, Zm, Zn, Zp, Zq, reduceCtorEq, pr2]
  refine (n1.blk.nb e5).ldAgg rfl ?_
  simp (disch := omega) only [wu64, wu32, wu8, fdiv_nn, EO, ↓EP, EQ, EM, ↓reduceIte, Za, Zb, Zc, Zd, Ze, Zf, Zg, Zj, Zk, Zl, Zm, Zn, Zp, Zq, reduceCtorEq]
  refine rraw_k ((hN.nb f1).nb e5) ((hE.nb f1).nb e5) lN lE (by omega) (by omega) ((hv.nb f1).nb e5) hb h63 fun v6 w6 g6 => ?_
  have e6 := e5.nb g6.fr
  obtain ⟨A6, c6, rfl, hc6, hr6⟩ := g6.vw
  have hrl := rawR_len (N := N) (E := E) (sig := sig)
  simp (disch := omega) only [wu64, wu32, wu8, fdiv_nn, EO, ↓EP, EQ, EM, ↓reduceIte, Za, Zb, Zc, Zd, Ze, Zf, Zg, Zj, Zk, Zl, Zm, Zn, Zp, Zq, reduceCtorEq, pr2]
  refine sameb_yes ⟨A5, c5, rfl, hc5, hr5.nb g6.fr⟩ ⟨A6, c6, rfl, hc6, hr6⟩ rfl (by omega) _ fun w7 f7 => ?_
  have e7 := e6.nb f7
  have f47 : Fr (w4.drewN m4) w7 nob := (g5.fr.nb g6.fr).nb f7
  simp (disch := omega) only [wu64, wu32, wu8, fdiv_nn, EO, ↓EP, EQ, EM, ↓reduceIte, Za, Zb, Zc, Zd, Ze, Zf, Zg, Zj, Zk, Zl, Zm, Zn, Zp, Zq, reduceCtorEq]
  refine num8_k ?_
  simp (disch := omega) only [wu64, wu32, wu8, fdiv_nn, EO, ↓EP, EQ, EM, ↓reduceIte, Za, Zb, Zc, Zd, Ze, Zf, Zg, Zj, Zk, Zl, Zm, Zn, Zp, Zq, reduceCtorEq]
  refine keptb_vw (L2.fr (f24.nb f47) fun _ _ x => x) ((hv.nb f1).nb e7) (by omega) _ fun w8 f8 => ?_
  have e8 := e7.nb f8
  have c0 : w8.cell? ⟨w.heap.size, 0, none⟩ = some (.slice A N.length c) := (n1.blk.nb e8).has 0 _ rfl
  simp (disch := omega) only [wu64, wu32, wu8, fdiv_nn, EO, ↓EP, EQ, EM, ↓reduceIte, Za, Zb, Zc, Zd, Ze, Zf, Zg, Zj, Zk, Zl, Zm, Zn, Zp, Zq, reduceCtorEq, c0]
  refine kept_vw (L3.fr ((f34.nb f47).nb f8) fun _ _ x => x) ((hN.nb f1).nb e8) (by omega) _ fun w9 f9 => ?_
  have e9 := e8.nb f9
  have c1 : w9.cell? ⟨w.heap.size, 1, none⟩ = some (.slice B E.length d) := (n1.blk.nb e9).has 1 _ rfl
  simp (disch := omega) only [wu64, wu32, wu8, fdiv_nn, EO, ↓EP, EQ, EM, ↓reduceIte, Za, Zb, Zc, Zd, Ze, Zf, Zg, Zj, Zk, Zl, Zm, Zn, Zp, Zq, reduceCtorEq, c1]
  refine kept_vw (L4.fr (((g4.nb f47).nb f8).nb f9) fun _ _ x => x) ((hE.nb f1).nb e9) (by omega) _ fun w10 f10 => ?_
  have e10 := e9.nb f10
  simp (disch := omega) only [wu64, wu32, wu8, fdiv_nn, EO, ↓EP, EQ, EM, ↓reduceIte, Za, Zb, Zc, Zd, Ze, Zf, Zg, Zj, Zk, Zl, Zm, Zn, Zp, Zq, reduceCtorEq]
  refine live8_k (hT.fr (f1.nb e10) (fun x => x) (fun x => x)) fun w11 f11 => ?_
  simp (disch := omega) only [wu64, wu32, wu8, fdiv_nn, EO, ↓EP, EQ, EM, ↓reduceIte, Za, Zb, Zc, Zd, Ze, Zf, Zg, Zj, Zk, Zl, Zm, Zn, Zp, Zq, reduceCtorEq]
  exact hK _ (f1.nb (e10.nb f11))
end Go.Proofs.YtcgplgpdcfocpaaDoor.Der
end
section
namespace Go.Proofs.YtcgplgpdcfocpaaDoor
open Go
set_option maxRecDepth 100000
theorem stand_of {P : Program} {fn : Func} (h : (fn.params.toList.all fun t => !P.wantsStandIn t) = true) : ∀ (j : Nat) t, fn.params[j]? = some t → P.wantsStandIn t = false := by
  intro j t hj
  have := List.all_eq_true.1 h t (by rw [Array.mem_toList_iff]; exact Array.mem_of_getElem? hj)
  simpa using this
open Go Go.ChangeShapes Go.WideShapes Go.ChangeAt Go.WideMaps Go.WideElems Go.RowKit Go.Proofs.YtcgplgpdcfocpaaDoor.Eng Go.Proofs.YtcgplgpdcfocpaaDoor.Der
theorem rsaRaws_walk {H : Type} {enc : TypeId × Value → H} (W : World) (base : Nat) (args : Array Value) (ds : List (DataW H)) (p : List MemPlace) (hA0 : DataW.TrodAll enc Tryd.prog W 0 (fun _ => true) true Tryd.f6.params.toList args.toList ds p)
    (hval : ∀ (j : Nat) t v, Tryd.f6.params[j]? = some t → args[j]? = some v → Value.okWide Tryd.prog W .any base t v) (hz : (DataW.weightsEach Tryd.prog Tryd.f6.params.toList ds).all (· ≤ reachBytes) = true) (hL : laidMetH Tryd.prog laid2 W) :
    callK Tryd.prog 6 args.toList W fun v w' => v = .bool true ∧ Fr W w' nob := by
  have hA : DataW.TrodAll enc Tryd.prog W 0 (fun _ => true) true Tryd.f6.params.toList args.toList ds p := hA0
  rw [Tryd.params6] at hA hval
  obtain ⟨v0, v1, d0, d1, p0, p1, rfl, rfl, rfl, h0, h1⟩ := trodAll_two hA
  obtain ⟨vN, vE, n, y0, y1, rfl, g0, g1⟩ := open_rec2q Tryd.underlying24 (by kernel_rfl) rfl rfl (by kernel_rfl) (by kernel_rfl) (hval 0 24 v0 rfl rfl) h0
  obtain ⟨A, c, N, rfl, hc, hr, wN, mN⟩ := Row.cell_slv Tryd.underlying22 Tryd.underlying46 cells_u32 g0
  obtain ⟨B, d, E, rfl, hd, hs, wE, mE⟩ := Row.cell_slv Tryd.underlying22 Tryd.underlying46 cells_u32 g1
  obtain ⟨Ab, cb, lb, mb, rfl, hcb, h63b, -, hlb, hwb⟩ := Row.open_sl Tryd.underlying31 Tryd.underlying5 cells_u8 (hval 1 31 v1 rfl rfl) h1
  exact raws_k (of_laid hL) ⟨A, c, rfl, hc, hr⟩ ⟨B, d, rfl, hd, hs⟩ (fun x h => Row.wf_u32 (wN x h)) (fun x h => Row.wf_u32 (wE x h)) (by unfold maxLen at mN; omega) (by unfold maxLen at mE; omega) ⟨Ab, cb, rfl, hcb, hlb⟩ (byte_of hwb) (by unfold maxLen at h63b; omega) fun w' f => ⟨rfl, f⟩
theorem rsaRaws_lifted (os : Os) (started : os.Started) (H : Type) (enc : TypeId × Value → H) :
    ReturnsInHanded {} Tryd.checked os 6 .any (fun w args => (Rows.rsaRawsSpec.pre enc Tryd.prog Tryd.f6 [] false w args ∧ laidMetH Tryd.prog laid2 w) ∧ sizedMet enc Tryd.prog Tryd.f6 (OpenSpec.ofChange Rows.rsaRawsSpec) false w args)
      (Rows.rsaRawsSpec.post enc Tryd.prog Tryd.f6 false true false false) :=
  Row.lifted_of (C := Tryd.checked) (X := fun w _ => laidMetH Tryd.prog laid2 w) (fun _ _ _ hh h => h.of_heap hh) own started (by kernel_rfl) Tryd.func6
    (ChangeSpec.witness_shaped (enc := enc) (C := Tryd.checked) (os := os) (X := fun w _ => laidMetH Tryd.prog laid2 w) false (World.laidAll Tryd.prog os laid2) #[.agg #[.slice none 0 0, .slice none 0 0], .slice none 0 0] 8 (World.laidAll_os _ _ _) (lay_shaped os) (by kernel_rfl) (by kernel_rfl) (by kernel_rfl) (door_met os _))
    laidOut (tb := 4) (by kernel_rfl) Tryd.underlying4 rfl (of_decide_eq_true (by kernel_rfl)) (fun ds h => by rw [show Tryd.f6.params.size = 2 by kernel_rfl] at h; obtain ⟨a, b, rfl⟩ := Row.len2 h; exact ⟨rfl, rfl, rfl⟩)
    (fun W base args ds p hA hval hz hL => rsaRaws_walk (enc := enc) W base args ds p hA hval hz hL)
theorem rsaRaws_holds : Rows.RsaRawsSaid :=
  OpenClaim.holds_of_wide 6 Tryd.f6 rfl rfl rfl rfl rfl rfl rfl ⟨rfl, rfl, rfl, rfl, rfl⟩ rfl rfl rfl rfl rfl (by kernel_rfl) Tryd.func6 (by kernel_rfl)
    (of_decide_eq_true (by kernel_rfl)) (by unfold Func.isWrapper; first | (rw [if_pos (by decide +kernel)]; kernel_rfl) | (rw [if_neg (by decide +kernel)]; exact ⟨rfl, rfl⟩))
    (fun os started H enc _ => rsaRaws_lifted os started H enc)
theorem rsaRaws_card : Rows.RsaRawsCardSaid :=
  Claim7.holds_tied_plain_at .later [] [.data, .data, .data, .pinned] true (true, "4b9797bfd06e9fa53421857f70d4a36c777c49a37cacd77b9ca3a459656b2d16") false
    rsaRaws_holds (fun _ h => by cases h) (by kernel_rfl) (fun _ h => by cases h) rsaRaws_row_tie rfl ⟨rfl, rfl⟩ (by kernel_rfl) rfl
    (fun f fn hf hfn => by
      obtain rfl : f = 6 := Option.some.inj ((show Tryd.prog.funcNamed "chirograph/chirographlaw08.RsaRaws" = some 6 by kernel_rfl).symm.trans hf) |>.symm
      obtain rfl : fn = Tryd.f6 := (Option.some.inj (Tryd.func6.symm.trans hfn)).symm
      exact ⟨by kernel_rfl, stand_of (by kernel_rfl)⟩)
    (by kernel_rfl)
end Go.Proofs.YtcgplgpdcfocpaaDoor
end
