/- The document's numbers, walked: digits, order, sums, differences. -/
import Derived.Test.YtbgfebhhejlakaaRn3
set_option linter.unusedVariables false
set_option linter.unusedSimpArgs false
namespace Go.Proofs.Ytbgfebhhejlakaa.Spec
open Go Go.RowKit Go.Proofs Go.Proofs.Ytbgfebhhejlakaa.Eng Go.Proofs.Ytbgfebhhejlakaa.Code Go.Proofs.Ytbgfebhhejlakaa.Big
set_option maxRecDepth 100000
attribute [local irreducible] callK S.W opsW scrW

/-! ### Digits, by their places -/
theorem dtake_same {a b : List Int} {k : Nat} : ∀ {n : Nat}, k ≤ n → (∀ j : Nat, k ≤ j → j < n → at' a j = at' b j) → Dg.val (a.take n) - Dg.val (b.take n) = Dg.val (a.take k) - Dg.val (b.take k)
  | 0, h, _ => by obtain rfl : k = 0 := by omega
                  rfl
  | n + 1, h, hs => by
    by_cases hk : k = n + 1
    · subst hk; rfl
    · have ih := dtake_same (n := n) (a := a) (b := b) (k := k) (by omega) fun j h1 h2 => hs j h1 (by omega)
      rw [Dg.val_take_succ', Dg.val_take_succ', hs n (by omega) (by omega)]
      omega
theorem dval_same {a b : List Int} (h : ∀ j : Nat, at' a j = at' b j) : Dg.val a = Dg.val b := by
  have := dtake_same (a := a) (b := b) (k := 0) (n := max a.length b.length) (Nat.zero_le _) fun j _ _ => h j
  rw [Dg.val_take_all (by omega), Dg.val_take_all (by omega)] at this
  simp [Dg.val_nil] at this
  omega
theorem dval_lt {a b : List Int} (ha : Dg.Lim a) (hb : Dg.Lim b) {k : Nat} (h : ∀ j : Nat, k < j → at' a j = at' b j) (hlt : at' a k < at' b k) : Dg.val a < Dg.val b := by
  have := dtake_same (a := a) (b := b) (k := k + 1) (n := max (max a.length b.length) (k + 1)) (by omega) fun j h1 _ => h j (by omega)
  rw [Dg.val_take_all (by omega), Dg.val_take_all (by omega), Dg.val_take_succ', Dg.val_take_succ'] at this
  have h1 := (Dg.val_bd (ha.take k)).2
  have h2 := (Dg.val_bd (hb.take k)).1
  have hle := Dg.pw_le (show (a.take k).length ≤ k by simp; omega)
  have h3 := mul_r (show at' a k + 1 ≤ at' b k by omega) (show 0 ≤ Dg.pw k by have := Dg.pw_pos k; omega)
  rw [Int.add_mul, Int.one_mul] at h3
  omega

theorem digit_nat {w : World} {va : Value} {l : List Int} (ha : Vw .u64 w va l) (h : l.length ≤ 4611686018427387904) (i : Nat) (hi : i ≤ 4611686018427387904) (K : Value → World → Prop)
    (hK : K (.int .u64 (at' l i)) w) : callK Try.prog 66 [va, .int .i64 i] w K := by
  obtain ⟨A, c, rfl, hc, hr⟩ := ha
  refine call_of Try.func66 Code.h66 (by simp [Code.c66]) ?_
  by_cases h1 : (i : Int) < (l.length : Int)
  · obtain ⟨p, rfl, _, hp⟩ := hr.get (by rw [nums_length]; omega)
    have cp := hp.numN (j := i) (by omega)
    simp (disch := omega) only [EO, ↓EP, EQ, EM, ↓reduceIte, Int.reduceAdd, Int.reduceEq, Int.reduceLE, Int.reduceLT, Int.reduceMul, Int.reduceNeg, Int.reducePow, Int.reduceSub, Int.reduceToNat, Nat.reduceAdd, Nat.reduceEqDiff, Nat.reduceLT, Nat.reduceLeDiff, Nat.reduceMul, reduceCtorEq, Code.c66, cp]
    exact hK
  · rw [at_ge (by omega)] at hK
    simp (disch := omega) only [EO, ↓EP, EQ, EM, ↓reduceIte, Int.reduceAdd, Int.reduceEq, Int.reduceLE, Int.reduceLT, Int.reduceMul, Int.reduceNeg, Int.reducePow, Int.reduceSub, Int.reduceToNat, Nat.reduceAdd, Nat.reduceEqDiff, Nat.reduceLT, Nat.reduceLeDiff, Nat.reduceMul, reduceCtorEq, Code.c66]
    exact hK
theorem digit_neg {w : World} {va : Value} {l : List Int} (ha : Vw .u64 w va l) (i : Int) (hi : i < 0) (K : Value → World → Prop)
    (hK : K (.int .u64 0) w) : callK Try.prog 66 [va, .int .i64 i] w K := by
  obtain ⟨A, c, rfl, hc, hr⟩ := ha
  refine call_of Try.func66 Code.h66 (by simp [Code.c66]) ?_
  simp (disch := omega) only [EO, ↓EP, EQ, EM, ↓reduceIte, Int.reduceAdd, Int.reduceEq, Int.reduceLE, Int.reduceLT, Int.reduceMul, Int.reduceNeg, Int.reducePow, Int.reduceSub, Int.reduceToNat, Nat.reduceAdd, Nat.reduceEqDiff, Nat.reduceLT, Nat.reduceLeDiff, Nat.reduceMul, reduceCtorEq, Code.c66]
  exact hK
theorem digit_q {w : World} {va : Value} {l : List Int} (ha : Vw .u64 w va l) (h : l.length ≤ 4611686018427387904) (i : Nat) (hi : i ≤ 4611686018427387904) (K : Value → Prop)
    (hK : K (.int .u64 (at' l i))) : qcallK Try.prog 66 [va, .int .i64 i] w K :=
  ⟨_, fun n => digit_nat (ha.nb (Fr.drewN w n nob)) h i hi _ ⟨rfl, n, rfl⟩, hK⟩
theorem digit_qneg {w : World} {va : Value} {l : List Int} (ha : Vw .u64 w va l) (i : Int) (hi : i < 0) (K : Value → Prop)
    (hK : K (.int .u64 0)) : qcallK Try.prog 66 [va, .int .i64 i] w K :=
  ⟨_, fun n => digit_neg (ha.nb (Fr.drewN w n nob)) i hi _ ⟨rfl, n, rfl⟩, hK⟩
set_option maxHeartbeats 1000000 in
theorem order_vw {w : World} {va vb : Value} {l r : List Int} (ha : Vw .u64 w va l) (hb : Vw .u64 w vb r) (hL : Dg.Lim l) (hR : Dg.Lim r) (h1 : l.length ≤ 1073741824) (h2 : r.length ≤ 1073741824) (K : Value → World → Prop)
    (hK : ∀ c, (Dg.val l < Dg.val r → c = -1) → (Dg.val l = Dg.val r → c = 0) → (Dg.val r < Dg.val l → c = 1) → K (.int .i64 c) w) : callK Try.prog 58 [va, vb] w K := by
  obtain ⟨A, c, ea, hc, hl⟩ := id ha
  obtain ⟨B, d, eb, hd, hr⟩ := id hb
  refine call_of Try.func58 Code.h58 (by simp [Code.c58]) ?_
  have qM : ∃ M : Nat, M = max l.length r.length := ⟨_, rfl⟩
  obtain ⟨M, hM⟩ := qM
  by_cases hlen : (l.length : Int) < (r.length : Int)
  all_goals
    have eM : (M : Int) = if (l.length : Int) < (r.length : Int) then (r.length : Int) else (l.length : Int) := by
      split <;> omega
    first | rw [if_pos hlen] at eM | rw [if_neg hlen] at eM
    simp (disch := omega) only [EO, ↓EP, EQ, EM, ↓reduceIte, Int.reduceAdd, Int.reduceEq, Int.reduceLE, Int.reduceLT, Int.reduceMul, Int.reduceNeg, Int.reducePow, Int.reduceSub, Int.reduceToNat, Nat.reduceAdd, Nat.reduceEqDiff, Nat.reduceLT, Nat.reduceLeDiff, Nat.reduceMul, reduceCtorEq, W_join, Code.c58, ea, eb]
    rw [← ea, ← eb]
    refine loop_inv (fun t ρ w' => w' = w ∧ ρ 6 = .int .i64 ((t : Int) - 1) ∧ t ≤ M ∧ ∀ j : Nat, t ≤ j → at' l j = at' r j) M ⟨rfl, by simp (disch := omega) only [EO, ↓EP, EQ, EM, ↓reduceIte, Int.reduceAdd, Int.reduceEq, Int.reduceLE, Int.reduceLT, Int.reduceMul, Int.reduceNeg, Int.reducePow, Int.reduceSub, Int.reduceToNat, Nat.reduceAdd, Nat.reduceEqDiff, Nat.reduceLT, Nat.reduceLeDiff, Nat.reduceMul, reduceCtorEq, eM], Nat.le_refl _, fun j hj => by rw [at_ge (by omega), at_ge (by omega)]⟩ ?_
    rintro t ρ w' hf ⟨rfl, h6, ht, hs⟩ N hN
    have q0 : ρ 0 = va := by rw [hf 0 rfl]; simp (disch := omega) only [EO, ↓EP, EQ, EM, ↓reduceIte, Int.reduceAdd, Int.reduceEq, Int.reduceLE, Int.reduceLT, Int.reduceMul, Int.reduceNeg, Int.reducePow, Int.reduceSub, Int.reduceToNat, Nat.reduceAdd, Nat.reduceEqDiff, Nat.reduceLT, Nat.reduceLeDiff, Nat.reduceMul, reduceCtorEq]
    have q1 : ρ 1 = vb := by rw [hf 1 rfl]; simp (disch := omega) only [EO, ↓EP, EQ, EM, ↓reduceIte, Int.reduceAdd, Int.reduceEq, Int.reduceLE, Int.reduceLT, Int.reduceMul, Int.reduceNeg, Int.reducePow, Int.reduceSub, Int.reduceToNat, Nat.reduceAdd, Nat.reduceEqDiff, Nat.reduceLT, Nat.reduceLeDiff, Nat.reduceMul, reduceCtorEq]
    clear hf
    cases t with
    | zero =>
      simp (disch := omega) only [EO, ↓EP, EQ, EM, ↓reduceIte, Int.reduceAdd, Int.reduceEq, Int.reduceLE, Int.reduceLT, Int.reduceMul, Int.reduceNeg, Int.reducePow, Int.reduceSub, Int.reduceToNat, Nat.reduceAdd, Nat.reduceEqDiff, Nat.reduceLT, Nat.reduceLeDiff, Nat.reduceMul, reduceCtorEq, h6, Int.natCast_zero]
      have e := dval_same (a := l) (b := r) fun j => hs j (Nat.zero_le _)
      exact hK 0 (fun h => by omega) (fun _ => rfl) (fun h => by omega)
    | succ k =>
      have e1 : ((k + 1 : Nat) : Int) - 1 = (k : Int) := by omega
      rw [e1] at h6
      simp (disch := omega) only [EO, ↓EP, EQ, EM, ↓reduceIte, Int.reduceAdd, Int.reduceEq, Int.reduceLE, Int.reduceLT, Int.reduceMul, Int.reduceNeg, Int.reducePow, Int.reduceSub, Int.reduceToNat, Nat.reduceAdd, Nat.reduceEqDiff, Nat.reduceLT, Nat.reduceLeDiff, Nat.reduceMul, reduceCtorEq, h6, q0, q1]
      refine digit_nat ha (by omega) k (by omega) _ ?_
      simp (disch := omega) only [EO, ↓EP, EQ, EM, ↓reduceIte, Int.reduceAdd, Int.reduceEq, Int.reduceLE, Int.reduceLT, Int.reduceMul, Int.reduceNeg, Int.reducePow, Int.reduceSub, Int.reduceToNat, Nat.reduceAdd, Nat.reduceEqDiff, Nat.reduceLT, Nat.reduceLeDiff, Nat.reduceMul, reduceCtorEq, h6, q0, q1]
      refine digit_nat hb (by omega) k (by omega) _ ?_
      by_cases g1 : at' l k < at' r k
      · have := dval_lt hL hR (k := k) (fun j hj => hs j (by omega)) g1
        simp (disch := omega) only [EO, ↓EP, EQ, EM, ↓reduceIte, Int.reduceAdd, Int.reduceEq, Int.reduceLE, Int.reduceLT, Int.reduceMul, Int.reduceNeg, Int.reducePow, Int.reduceSub, Int.reduceToNat, Nat.reduceAdd, Nat.reduceEqDiff, Nat.reduceLT, Nat.reduceLeDiff, Nat.reduceMul, reduceCtorEq]
        exact hK (-1) (fun _ => rfl) (fun h => by omega) (fun h => by omega)
      by_cases g2 : at' r k < at' l k
      · have := dval_lt hR hL (k := k) (fun j hj => (hs j (by omega)).symm) g2
        simp (disch := omega) only [EO, ↓EP, EQ, EM, ↓reduceIte, Int.reduceAdd, Int.reduceEq, Int.reduceLE, Int.reduceLT, Int.reduceMul, Int.reduceNeg, Int.reducePow, Int.reduceSub, Int.reduceToNat, Nat.reduceAdd, Nat.reduceEqDiff, Nat.reduceLT, Nat.reduceLeDiff, Nat.reduceMul, reduceCtorEq]
        exact hK 1 (fun h => by omega) (fun h => by omega) (fun _ => rfl)
      simp (disch := omega) only [EO, ↓EP, EQ, EM, ↓reduceIte, Int.reduceAdd, Int.reduceEq, Int.reduceLE, Int.reduceLT, Int.reduceMul, Int.reduceNeg, Int.reducePow, Int.reduceSub, Int.reduceToNat, Nat.reduceAdd, Nat.reduceEqDiff, Nat.reduceLT, Nat.reduceLeDiff, Nat.reduceMul, reduceCtorEq, h6]
      exact hN k _ _ (by omega) ⟨rfl, by simp (disch := omega) only [EO, ↓EP, EQ, EM, ↓reduceIte, Int.reduceAdd, Int.reduceEq, Int.reduceLE, Int.reduceLT, Int.reduceMul, Int.reduceNeg, Int.reducePow, Int.reduceSub, Int.reduceToNat, Nat.reduceAdd, Nat.reduceEqDiff, Nat.reduceLT, Nat.reduceLeDiff, Nat.reduceMul, reduceCtorEq, h6], by omega, fun j hj => by
        by_cases hjk : j = k
        · subst hjk; omega
        · exact hs j (by omega)⟩
theorem dval_snoc (o : List Int) (x : Int) : Dg.val (o ++ [x]) = Dg.val o + x * Dg.pw o.length := by
  rw [Dg.val_app, Dg.val_one]; grind
set_option maxHeartbeats 1000000 in
theorem dsub_vw {w : World} {va vb : Value} {l r : List Int} (ha : Vw .u64 w va l) (hb : Vw .u64 w vb r) (hL : Dg.Lim l) (hR : Dg.Lim r) (h1 : l.length ≤ 1073741824) (h2 : r.length ≤ 1073741824) (hle : Dg.val r ≤ Dg.val l) (K : Value → World → Prop)
    (hK : ∀ v w', Gw .u64 w w' v (Dg.digs (Dg.val l - Dg.val r)) → K v w') : callK Try.prog 56 [va, vb] w K := by
  obtain ⟨A, c, ea, hc, hl⟩ := id ha
  refine call_of Try.func56 Code.h56 (by simp [Code.c56]) ?_
  simp (disch := omega) only [EO, ↓EP, EQ, EM, ↓reduceIte, Int.reduceAdd, Int.reduceEq, Int.reduceLE, Int.reduceLT, Int.reduceMul, Int.reduceNeg, Int.reducePow, Int.reduceSub, Int.reduceToNat, Nat.reduceAdd, Nat.reduceEqDiff, Nat.reduceLT, Nat.reduceLeDiff, Nat.reduceMul, reduceCtorEq, Code.c56]
  refine loop_inv (fun t ρ w' => ∃ (k : Nat) (v : Value) (o : List Int) (br : Int), ρ 7 = .int .i64 k ∧ k ≤ l.length ∧ t = l.length - k ∧ ρ 5 = v ∧ ρ 6 = .int .u64 br ∧ 0 ≤ br ∧ br ≤ 1 ∧ Gw .u64 w w' v o ∧ o.length = k ∧ Dg.Lim o ∧ Dg.val o - br * Dg.pw k = Dg.val (l.take k) - Dg.val (r.take k)) _
    ⟨0, _, [], 0, by simp (disch := omega) only [EO, ↓EP, EQ, EM, ↓reduceIte, Int.reduceAdd, Int.reduceEq, Int.reduceLE, Int.reduceLT, Int.reduceMul, Int.reduceNeg, Int.reducePow, Int.reduceSub, Int.reduceToNat, Nat.reduceAdd, Nat.reduceEqDiff, Nat.reduceLT, Nat.reduceLeDiff, Nat.reduceMul, reduceCtorEq], by omega, rfl, by simp (disch := omega) only [EO, ↓EP, EQ, EM, ↓reduceIte, Int.reduceAdd, Int.reduceEq, Int.reduceLE, Int.reduceLT, Int.reduceMul, Int.reduceNeg, Int.reducePow, Int.reduceSub, Int.reduceToNat, Nat.reduceAdd, Nat.reduceEqDiff, Nat.reduceLT, Nat.reduceLeDiff, Nat.reduceMul, reduceCtorEq], by simp (disch := omega) only [EO, ↓EP, EQ, EM, ↓reduceIte, Int.reduceAdd, Int.reduceEq, Int.reduceLE, Int.reduceLT, Int.reduceMul, Int.reduceNeg, Int.reducePow, Int.reduceSub, Int.reduceToNat, Nat.reduceAdd, Nat.reduceEqDiff, Nat.reduceLT, Nat.reduceLeDiff, Nat.reduceMul, reduceCtorEq], by omega, by omega, Gw.nil _ _, rfl, Dg.Lim.nil, by simp [Dg.val_nil]⟩ ?_
  rintro t ρ w' hf ⟨k, v, o, br, h7, hk, rfl, h5, h6, hb0, hb1, g, ho, hO, hv⟩ N hN
  have q0 : ρ 0 = va := by rw [hf 0 rfl]; simp (disch := omega) only [EO, ↓EP, EQ, EM, ↓reduceIte, Int.reduceAdd, Int.reduceEq, Int.reduceLE, Int.reduceLT, Int.reduceMul, Int.reduceNeg, Int.reducePow, Int.reduceSub, Int.reduceToNat, Nat.reduceAdd, Nat.reduceEqDiff, Nat.reduceLT, Nat.reduceLeDiff, Nat.reduceMul, reduceCtorEq]
  have q1 : ρ 1 = vb := by rw [hf 1 rfl]; simp (disch := omega) only [EO, ↓EP, EQ, EM, ↓reduceIte, Int.reduceAdd, Int.reduceEq, Int.reduceLE, Int.reduceLT, Int.reduceMul, Int.reduceNeg, Int.reducePow, Int.reduceSub, Int.reduceToNat, Nat.reduceAdd, Nat.reduceEqDiff, Nat.reduceLT, Nat.reduceLeDiff, Nat.reduceMul, reduceCtorEq]
  clear hf
  by_cases hkl : (k : Int) < (l.length : Int)
  · obtain ⟨p, rfl, _, hp⟩ := (hl.nb g.fr).get (by rw [nums_length]; omega)
    have cp := hp.numN (j := k) (by omega)
    have bx := hL.at k
    have by' := hR.at k
    simp (disch := omega) only [EO, ↓EP, EQ, EM, ↓reduceIte, Int.reduceAdd, Int.reduceEq, Int.reduceLE, Int.reduceLT, Int.reduceMul, Int.reduceNeg, Int.reducePow, Int.reduceSub, Int.reduceToNat, Nat.reduceAdd, Nat.reduceEqDiff, Nat.reduceLT, Nat.reduceLeDiff, Nat.reduceMul, reduceCtorEq, h7, h5, h6, q0, q1, ea, cp]
    refine digit_q (hb.nb g.fr) (by omega) k (by omega) _ ?_
    have qT : ∃ T, T = 65536 + at' l k - at' r k - br := ⟨_, rfl⟩
    obtain ⟨T, hT⟩ := qT
    simp (disch := omega) only [wu64, wu32, wu8, fdiv_nn, EO, ↓EP, EQ, EM, ↓reduceIte, Int.reduceAdd, Int.reduceEq, Int.reduceLE, Int.reduceLT, Int.reduceMul, Int.reduceNeg, Int.reducePow, Int.reduceSub, Int.reduceToNat, Nat.reduceAdd, Nat.reduceEqDiff, Nat.reduceLT, Nat.reduceLeDiff, Nat.reduceMul, reduceCtorEq, h6, ← hT]
    intro m1
    have f1 : Fr w' (w'.drewN m1) nob := Fr.drewN w' m1 nob
    refine bsl1 fun w2 n2 => ?_
    have f2 := n2.fr nob
    simp (disch := omega) only [wu64, wu32, wu8, fdiv_nn, EO, ↓EP, EQ, EM, ↓reduceIte, Int.reduceAdd, Int.reduceEq, Int.reduceLE, Int.reduceLT, Int.reduceMul, Int.reduceNeg, Int.reducePow, Int.reduceSub, Int.reduceToNat, Nat.reduceAdd, Nat.reduceEqDiff, Nat.reduceLT, Nat.reduceLeDiff, Nat.reduceMul, reduceCtorEq, h5]
    refine app_num ((g.sl.nb f1).nb f2) rfl n2.rdl (by rw [ho]; simp; omega) (by omega) fun v4 w4 a4 => ?_
    have g4 := ((g.step f1).step f2).apd a4
    simp (disch := omega) only [wu64, wu32, wu8, fdiv_nn, EO, ↓EP, EQ, EM, ↓reduceIte, Int.reduceAdd, Int.reduceEq, Int.reduceLE, Int.reduceLT, Int.reduceMul, Int.reduceNeg, Int.reducePow, Int.reduceSub, Int.reduceToNat, Nat.reduceAdd, Nat.reduceEqDiff, Nat.reduceLT, Nat.reduceLeDiff, Nat.reduceMul, reduceCtorEq, h7, ← hT]
    refine hN (l.length - (k + 1)) _ _ (by omega) ⟨k + 1, v4, _, 1 - T / 65536, by simp (disch := omega) only [EO, ↓EP, EQ, EM, ↓reduceIte, Int.reduceAdd, Int.reduceEq, Int.reduceLE, Int.reduceLT, Int.reduceMul, Int.reduceNeg, Int.reducePow, Int.reduceSub, Int.reduceToNat, Nat.reduceAdd, Nat.reduceEqDiff, Nat.reduceLT, Nat.reduceLeDiff, Nat.reduceMul, reduceCtorEq, h7, Int.natCast_add], by omega, rfl, by simp (disch := omega) only [EO, ↓EP, EQ, EM, ↓reduceIte, Int.reduceAdd, Int.reduceEq, Int.reduceLE, Int.reduceLT, Int.reduceMul, Int.reduceNeg, Int.reducePow, Int.reduceSub, Int.reduceToNat, Nat.reduceAdd, Nat.reduceEqDiff, Nat.reduceLT, Nat.reduceLeDiff, Nat.reduceMul, reduceCtorEq], by simp (disch := omega) only [wu64, wu32, wu8, fdiv_nn, EO, ↓EP, EQ, EM, ↓reduceIte, Int.reduceAdd, Int.reduceEq, Int.reduceLE, Int.reduceLT, Int.reduceMul, Int.reduceNeg, Int.reducePow, Int.reduceSub, Int.reduceToNat, Nat.reduceAdd, Nat.reduceEqDiff, Nat.reduceLT, Nat.reduceLeDiff, Nat.reduceMul, reduceCtorEq, ← hT], by omega, by omega, g4, by simp [ho], hO.app (Dg.Lim.mk (by omega) (by omega) Dg.Lim.nil), ?_⟩
    rw [dval_snoc, ho, Dg.val_take_succ', Dg.val_take_succ', Dg.pw_succ]
    have := Int.mul_ediv_add_emod T 65536
    grind
  · have hk : k = l.length := by omega
    subst hk
    rw [List.take_length] at hv
    have hb4 := Dg.val_bd hO
    rw [ho] at hb4
    have hl4 := Dg.val_bd hL
    have hr4 : Dg.val (r.take l.length) ≤ Dg.val r := by
      by_cases hh : l.length ≤ r.length
      · have h5 := Dg.val_split r hh
        have h6 := (Dg.val_bd (hR.drop l.length)).1
        have := Int.mul_nonneg (show 0 ≤ Dg.pw l.length by have := Dg.pw_pos l.length; omega) h6
        omega
      · rw [Dg.val_take_all (by omega)]; exact Int.le_refl _
    have hr5 : Dg.val (r.take l.length) = Dg.val r := by
      by_cases hh : l.length ≤ r.length
      · have h5 := Dg.val_split r hh
        have h6 := (Dg.val_bd (hR.drop l.length)).1
        have h7 := (Dg.val_bd (hR.take l.length)).1
        by_cases h0 : Dg.val (r.drop l.length) = 0
        · rw [h0] at h5; omega
        · have := mul_r (show 1 ≤ Dg.val (r.drop l.length) by omega) (show 0 ≤ Dg.pw l.length by have := Dg.pw_pos l.length; omega)
          have e3 : Dg.val (r.drop l.length) * Dg.pw l.length = Dg.pw l.length * Dg.val (r.drop l.length) := Int.mul_comm _ _
          omega
      · rw [Dg.val_take_all (by omega)]
    have hbr : br = 0 := by
      rcases (show br = 0 ∨ br = 1 by omega) with h | h
      · exact h
      · rw [h] at hv; omega
    have hvo : Dg.val o = Dg.val l - Dg.val r := by rw [hbr] at hv; omega
    simp (disch := omega) only [EO, ↓EP, EQ, EM, ↓reduceIte, Int.reduceAdd, Int.reduceEq, Int.reduceLE, Int.reduceLT, Int.reduceMul, Int.reduceNeg, Int.reducePow, Int.reduceSub, Int.reduceToNat, Nat.reduceAdd, Nat.reduceEqDiff, Nat.reduceLT, Nat.reduceLeDiff, Nat.reduceMul, reduceCtorEq, h7, h5, q0, ea]
    refine plain_gw g hO (by omega) _ fun v5 g5 => ?_
    rw [hvo] at g5
    simp (disch := omega) only [EO, ↓EP, EQ, EM, ↓reduceIte, Int.reduceAdd, Int.reduceEq, Int.reduceLE, Int.reduceLT, Int.reduceMul, Int.reduceNeg, Int.reducePow, Int.reduceSub, Int.reduceToNat, Nat.reduceAdd, Nat.reduceEqDiff, Nat.reduceLT, Nat.reduceLeDiff, Nat.reduceMul, reduceCtorEq]
    exact hK v5 w' g5
set_option maxHeartbeats 1000000 in
theorem dadd_vw {w : World} {va vb : Value} {l r : List Int} (ha : Vw .u64 w va l) (hb : Vw .u64 w vb r) (hL : Dg.Lim l) (hR : Dg.Lim r) (h1 : l.length ≤ 1073741824) (h2 : r.length ≤ 1073741824) (K : Value → World → Prop)
    (hK : ∀ v w', Gw .u64 w w' v (Dg.digs (Dg.val l + Dg.val r)) → K v w') : callK Try.prog 52 [va, vb] w K := by
  obtain ⟨A, c, ea, hc, hl⟩ := id ha
  obtain ⟨B, d, eb, hd, hr⟩ := id hb
  have qM : ∃ M : Nat, M = max l.length r.length := ⟨_, rfl⟩
  obtain ⟨M, hM⟩ := qM
  refine call_of Try.func52 Code.h52 (by simp [Code.c52]) ?_
  simp (disch := omega) only [EO, ↓EP, EQ, EM, ↓reduceIte, Int.reduceAdd, Int.reduceEq, Int.reduceLE, Int.reduceLT, Int.reduceMul, Int.reduceNeg, Int.reducePow, Int.reduceSub, Int.reduceToNat, Nat.reduceAdd, Nat.reduceEqDiff, Nat.reduceLT, Nat.reduceLeDiff, Nat.reduceMul, reduceCtorEq, Code.c52]
  refine loop_inv (fun t ρ w' => ∃ (k : Nat) (v : Value) (o : List Int) (cr : Int), ρ 7 = .int .i64 k ∧ k ≤ M + 1 ∧ t = M + 1 - k ∧ ρ 5 = v ∧ ρ 6 = .int .u64 cr ∧ 0 ≤ cr ∧ cr ≤ 1 ∧ (k = M + 1 → cr = 0) ∧ Gw .u64 w w' v o ∧ o.length = k ∧ Dg.Lim o ∧ Dg.val o + cr * Dg.pw k = Dg.val (l.take k) + Dg.val (r.take k)) (M + 1)
    ⟨0, _, [], 0, by simp (disch := omega) only [EO, ↓EP, EQ, EM, ↓reduceIte, Int.reduceAdd, Int.reduceEq, Int.reduceLE, Int.reduceLT, Int.reduceMul, Int.reduceNeg, Int.reducePow, Int.reduceSub, Int.reduceToNat, Nat.reduceAdd, Nat.reduceEqDiff, Nat.reduceLT, Nat.reduceLeDiff, Nat.reduceMul, reduceCtorEq], by omega, rfl, by simp (disch := omega) only [EO, ↓EP, EQ, EM, ↓reduceIte, Int.reduceAdd, Int.reduceEq, Int.reduceLE, Int.reduceLT, Int.reduceMul, Int.reduceNeg, Int.reducePow, Int.reduceSub, Int.reduceToNat, Nat.reduceAdd, Nat.reduceEqDiff, Nat.reduceLT, Nat.reduceLeDiff, Nat.reduceMul, reduceCtorEq], by simp (disch := omega) only [EO, ↓EP, EQ, EM, ↓reduceIte, Int.reduceAdd, Int.reduceEq, Int.reduceLE, Int.reduceLT, Int.reduceMul, Int.reduceNeg, Int.reducePow, Int.reduceSub, Int.reduceToNat, Nat.reduceAdd, Nat.reduceEqDiff, Nat.reduceLT, Nat.reduceLeDiff, Nat.reduceMul, reduceCtorEq], by omega, by omega, fun _ => rfl, Gw.nil _ _, rfl, Dg.Lim.nil, by simp [Dg.val_nil]⟩ ?_
  rintro t ρ w' hf ⟨k, v, o, cr, h7, hk, rfl, h5, h6, hb0, hb1, hlast, g, ho, hO, hv⟩ N hN
  have q0 : ρ 0 = va := by rw [hf 0 rfl]; simp (disch := omega) only [EO, ↓EP, EQ, EM, ↓reduceIte, Int.reduceAdd, Int.reduceEq, Int.reduceLE, Int.reduceLT, Int.reduceMul, Int.reduceNeg, Int.reducePow, Int.reduceSub, Int.reduceToNat, Nat.reduceAdd, Nat.reduceEqDiff, Nat.reduceLT, Nat.reduceLeDiff, Nat.reduceMul, reduceCtorEq]
  have q1 : ρ 1 = vb := by rw [hf 1 rfl]; simp (disch := omega) only [EO, ↓EP, EQ, EM, ↓reduceIte, Int.reduceAdd, Int.reduceEq, Int.reduceLE, Int.reduceLT, Int.reduceMul, Int.reduceNeg, Int.reducePow, Int.reduceSub, Int.reduceToNat, Nat.reduceAdd, Nat.reduceEqDiff, Nat.reduceLT, Nat.reduceLeDiff, Nat.reduceMul, reduceCtorEq]
  clear hf
  have bx := hL.at k
  have by' := hR.at k
  have round : (k < l.length ∨ k < r.length ∨ 0 < cr) → k ≤ M ∧ (k + 1 = M + 1 → (at' l k + at' r k + cr) / 65536 = 0) := by
    intro h
    refine ⟨by omega, fun e => ?_⟩
    rw [at_ge (show l.length ≤ k by omega), at_ge (show r.length ≤ k by omega)]
    omega
  by_cases c1 : (k : Int) < (l.length : Int)
  · obtain ⟨r1, r2⟩ := round (.inl (by omega))
    simp (disch := omega) only [EO, ↓EP, EQ, EM, ↓reduceIte, Int.reduceAdd, Int.reduceEq, Int.reduceLE, Int.reduceLT, Int.reduceMul, Int.reduceNeg, Int.reducePow, Int.reduceSub, Int.reduceToNat, Nat.reduceAdd, Nat.reduceEqDiff, Nat.reduceLT, Nat.reduceLeDiff, Nat.reduceMul, reduceCtorEq, h7, h5, h6, q0, q1, ea, eb]
    try rw [← ea]
    try rw [← eb]
    refine digit_nat (ha.nb g.fr) (by omega) k (by omega) _ ?_
    simp (disch := omega) only [EO, ↓EP, EQ, EM, ↓reduceIte, Int.reduceAdd, Int.reduceEq, Int.reduceLE, Int.reduceLT, Int.reduceMul, Int.reduceNeg, Int.reducePow, Int.reduceSub, Int.reduceToNat, Nat.reduceAdd, Nat.reduceEqDiff, Nat.reduceLT, Nat.reduceLeDiff, Nat.reduceMul, reduceCtorEq, h7, h6, q1]
    refine digit_nat (hb.nb g.fr) (by omega) k (by omega) _ ?_
    have qT : ∃ T, T = at' l k + at' r k + cr := ⟨_, rfl⟩
    obtain ⟨T, hT⟩ := qT
    simp (disch := omega) only [wu64, wu32, wu8, fdiv_nn, EO, ↓EP, EQ, EM, ↓reduceIte, Int.reduceAdd, Int.reduceEq, Int.reduceLE, Int.reduceLT, Int.reduceMul, Int.reduceNeg, Int.reducePow, Int.reduceSub, Int.reduceToNat, Nat.reduceAdd, Nat.reduceEqDiff, Nat.reduceLT, Nat.reduceLeDiff, Nat.reduceMul, reduceCtorEq, h5, h6, ← hT]
    refine bsl1 fun w2 n2 => ?_
    have f2 := n2.fr nob
    simp (disch := omega) only [wu64, wu32, wu8, fdiv_nn, EO, ↓EP, EQ, EM, ↓reduceIte, Int.reduceAdd, Int.reduceEq, Int.reduceLE, Int.reduceLT, Int.reduceMul, Int.reduceNeg, Int.reducePow, Int.reduceSub, Int.reduceToNat, Nat.reduceAdd, Nat.reduceEqDiff, Nat.reduceLT, Nat.reduceLeDiff, Nat.reduceMul, reduceCtorEq, h5]
    refine app_num (g.sl.nb f2) rfl n2.rdl (by rw [ho]; simp; omega) (by omega) fun v4 w4 a4 => ?_
    have g4 := (g.step f2).apd a4
    simp (disch := omega) only [wu64, wu32, wu8, fdiv_nn, EO, ↓EP, EQ, EM, ↓reduceIte, Int.reduceAdd, Int.reduceEq, Int.reduceLE, Int.reduceLT, Int.reduceMul, Int.reduceNeg, Int.reducePow, Int.reduceSub, Int.reduceToNat, Nat.reduceAdd, Nat.reduceEqDiff, Nat.reduceLT, Nat.reduceLeDiff, Nat.reduceMul, reduceCtorEq, h7, ← hT]
    refine hN (M + 1 - (k + 1)) _ _ (by omega) ⟨k + 1, v4, _, T / 65536, by simp (disch := omega) only [EO, ↓EP, EQ, EM, ↓reduceIte, Int.reduceAdd, Int.reduceEq, Int.reduceLE, Int.reduceLT, Int.reduceMul, Int.reduceNeg, Int.reducePow, Int.reduceSub, Int.reduceToNat, Nat.reduceAdd, Nat.reduceEqDiff, Nat.reduceLT, Nat.reduceLeDiff, Nat.reduceMul, reduceCtorEq, h7, Int.natCast_add], by omega, rfl, by simp (disch := omega) only [EO, ↓EP, EQ, EM, ↓reduceIte, Int.reduceAdd, Int.reduceEq, Int.reduceLE, Int.reduceLT, Int.reduceMul, Int.reduceNeg, Int.reducePow, Int.reduceSub, Int.reduceToNat, Nat.reduceAdd, Nat.reduceEqDiff, Nat.reduceLT, Nat.reduceLeDiff, Nat.reduceMul, reduceCtorEq], by simp (disch := omega) only [wu64, wu32, wu8, fdiv_nn, EO, ↓EP, EQ, EM, ↓reduceIte, Int.reduceAdd, Int.reduceEq, Int.reduceLE, Int.reduceLT, Int.reduceMul, Int.reduceNeg, Int.reducePow, Int.reduceSub, Int.reduceToNat, Nat.reduceAdd, Nat.reduceEqDiff, Nat.reduceLT, Nat.reduceLeDiff, Nat.reduceMul, reduceCtorEq, ← hT], by omega, by omega, fun e => by rw [hT]; exact r2 e, g4, by simp [ho], hO.app (Dg.Lim.mk (by omega) (by omega) Dg.Lim.nil), ?_⟩
    rw [dval_snoc, ho, Dg.val_take_succ', Dg.val_take_succ', Dg.pw_succ]
    have := Int.mul_ediv_add_emod T 65536
    grind
  by_cases c2 : (k : Int) < (r.length : Int)
  · obtain ⟨r1, r2⟩ := round (.inr (.inl (by omega)))
    simp (disch := omega) only [EO, ↓EP, EQ, EM, ↓reduceIte, Int.reduceAdd, Int.reduceEq, Int.reduceLE, Int.reduceLT, Int.reduceMul, Int.reduceNeg, Int.reducePow, Int.reduceSub, Int.reduceToNat, Nat.reduceAdd, Nat.reduceEqDiff, Nat.reduceLT, Nat.reduceLeDiff, Nat.reduceMul, reduceCtorEq, h7, h5, h6, q0, q1, ea, eb]
    try rw [← ea]
    try rw [← eb]
    refine digit_nat (ha.nb g.fr) (by omega) k (by omega) _ ?_
    simp (disch := omega) only [EO, ↓EP, EQ, EM, ↓reduceIte, Int.reduceAdd, Int.reduceEq, Int.reduceLE, Int.reduceLT, Int.reduceMul, Int.reduceNeg, Int.reducePow, Int.reduceSub, Int.reduceToNat, Nat.reduceAdd, Nat.reduceEqDiff, Nat.reduceLT, Nat.reduceLeDiff, Nat.reduceMul, reduceCtorEq, h7, h6, q1]
    refine digit_nat (hb.nb g.fr) (by omega) k (by omega) _ ?_
    have qT : ∃ T, T = at' l k + at' r k + cr := ⟨_, rfl⟩
    obtain ⟨T, hT⟩ := qT
    simp (disch := omega) only [wu64, wu32, wu8, fdiv_nn, EO, ↓EP, EQ, EM, ↓reduceIte, Int.reduceAdd, Int.reduceEq, Int.reduceLE, Int.reduceLT, Int.reduceMul, Int.reduceNeg, Int.reducePow, Int.reduceSub, Int.reduceToNat, Nat.reduceAdd, Nat.reduceEqDiff, Nat.reduceLT, Nat.reduceLeDiff, Nat.reduceMul, reduceCtorEq, h5, h6, ← hT]
    refine bsl1 fun w2 n2 => ?_
    have f2 := n2.fr nob
    simp (disch := omega) only [wu64, wu32, wu8, fdiv_nn, EO, ↓EP, EQ, EM, ↓reduceIte, Int.reduceAdd, Int.reduceEq, Int.reduceLE, Int.reduceLT, Int.reduceMul, Int.reduceNeg, Int.reducePow, Int.reduceSub, Int.reduceToNat, Nat.reduceAdd, Nat.reduceEqDiff, Nat.reduceLT, Nat.reduceLeDiff, Nat.reduceMul, reduceCtorEq, h5]
    refine app_num (g.sl.nb f2) rfl n2.rdl (by rw [ho]; simp; omega) (by omega) fun v4 w4 a4 => ?_
    have g4 := (g.step f2).apd a4
    simp (disch := omega) only [wu64, wu32, wu8, fdiv_nn, EO, ↓EP, EQ, EM, ↓reduceIte, Int.reduceAdd, Int.reduceEq, Int.reduceLE, Int.reduceLT, Int.reduceMul, Int.reduceNeg, Int.reducePow, Int.reduceSub, Int.reduceToNat, Nat.reduceAdd, Nat.reduceEqDiff, Nat.reduceLT, Nat.reduceLeDiff, Nat.reduceMul, reduceCtorEq, h7, ← hT]
    refine hN (M + 1 - (k + 1)) _ _ (by omega) ⟨k + 1, v4, _, T / 65536, by simp (disch := omega) only [EO, ↓EP, EQ, EM, ↓reduceIte, Int.reduceAdd, Int.reduceEq, Int.reduceLE, Int.reduceLT, Int.reduceMul, Int.reduceNeg, Int.reducePow, Int.reduceSub, Int.reduceToNat, Nat.reduceAdd, Nat.reduceEqDiff, Nat.reduceLT, Nat.reduceLeDiff, Nat.reduceMul, reduceCtorEq, h7, Int.natCast_add], by omega, rfl, by simp (disch := omega) only [EO, ↓EP, EQ, EM, ↓reduceIte, Int.reduceAdd, Int.reduceEq, Int.reduceLE, Int.reduceLT, Int.reduceMul, Int.reduceNeg, Int.reducePow, Int.reduceSub, Int.reduceToNat, Nat.reduceAdd, Nat.reduceEqDiff, Nat.reduceLT, Nat.reduceLeDiff, Nat.reduceMul, reduceCtorEq], by simp (disch := omega) only [wu64, wu32, wu8, fdiv_nn, EO, ↓EP, EQ, EM, ↓reduceIte, Int.reduceAdd, Int.reduceEq, Int.reduceLE, Int.reduceLT, Int.reduceMul, Int.reduceNeg, Int.reducePow, Int.reduceSub, Int.reduceToNat, Nat.reduceAdd, Nat.reduceEqDiff, Nat.reduceLT, Nat.reduceLeDiff, Nat.reduceMul, reduceCtorEq, ← hT], by omega, by omega, fun e => by rw [hT]; exact r2 e, g4, by simp [ho], hO.app (Dg.Lim.mk (by omega) (by omega) Dg.Lim.nil), ?_⟩
    rw [dval_snoc, ho, Dg.val_take_succ', Dg.val_take_succ', Dg.pw_succ]
    have := Int.mul_ediv_add_emod T 65536
    grind
  by_cases c3 : 0 < cr
  · obtain ⟨r1, r2⟩ := round (.inr (.inr c3))
    simp (disch := omega) only [EO, ↓EP, EQ, EM, ↓reduceIte, Int.reduceAdd, Int.reduceEq, Int.reduceLE, Int.reduceLT, Int.reduceMul, Int.reduceNeg, Int.reducePow, Int.reduceSub, Int.reduceToNat, Nat.reduceAdd, Nat.reduceEqDiff, Nat.reduceLT, Nat.reduceLeDiff, Nat.reduceMul, reduceCtorEq, h7, h5, h6, q0, q1, ea, eb]
    try rw [← ea]
    try rw [← eb]
    refine digit_nat (ha.nb g.fr) (by omega) k (by omega) _ ?_
    simp (disch := omega) only [EO, ↓EP, EQ, EM, ↓reduceIte, Int.reduceAdd, Int.reduceEq, Int.reduceLE, Int.reduceLT, Int.reduceMul, Int.reduceNeg, Int.reducePow, Int.reduceSub, Int.reduceToNat, Nat.reduceAdd, Nat.reduceEqDiff, Nat.reduceLT, Nat.reduceLeDiff, Nat.reduceMul, reduceCtorEq, h7, h6, q1]
    refine digit_nat (hb.nb g.fr) (by omega) k (by omega) _ ?_
    have qT : ∃ T, T = at' l k + at' r k + cr := ⟨_, rfl⟩
    obtain ⟨T, hT⟩ := qT
    simp (disch := omega) only [wu64, wu32, wu8, fdiv_nn, EO, ↓EP, EQ, EM, ↓reduceIte, Int.reduceAdd, Int.reduceEq, Int.reduceLE, Int.reduceLT, Int.reduceMul, Int.reduceNeg, Int.reducePow, Int.reduceSub, Int.reduceToNat, Nat.reduceAdd, Nat.reduceEqDiff, Nat.reduceLT, Nat.reduceLeDiff, Nat.reduceMul, reduceCtorEq, h5, h6, ← hT]
    refine bsl1 fun w2 n2 => ?_
    have f2 := n2.fr nob
    simp (disch := omega) only [wu64, wu32, wu8, fdiv_nn, EO, ↓EP, EQ, EM, ↓reduceIte, Int.reduceAdd, Int.reduceEq, Int.reduceLE, Int.reduceLT, Int.reduceMul, Int.reduceNeg, Int.reducePow, Int.reduceSub, Int.reduceToNat, Nat.reduceAdd, Nat.reduceEqDiff, Nat.reduceLT, Nat.reduceLeDiff, Nat.reduceMul, reduceCtorEq, h5]
    refine app_num (g.sl.nb f2) rfl n2.rdl (by rw [ho]; simp; omega) (by omega) fun v4 w4 a4 => ?_
    have g4 := (g.step f2).apd a4
    simp (disch := omega) only [wu64, wu32, wu8, fdiv_nn, EO, ↓EP, EQ, EM, ↓reduceIte, Int.reduceAdd, Int.reduceEq, Int.reduceLE, Int.reduceLT, Int.reduceMul, Int.reduceNeg, Int.reducePow, Int.reduceSub, Int.reduceToNat, Nat.reduceAdd, Nat.reduceEqDiff, Nat.reduceLT, Nat.reduceLeDiff, Nat.reduceMul, reduceCtorEq, h7, ← hT]
    refine hN (M + 1 - (k + 1)) _ _ (by omega) ⟨k + 1, v4, _, T / 65536, by simp (disch := omega) only [EO, ↓EP, EQ, EM, ↓reduceIte, Int.reduceAdd, Int.reduceEq, Int.reduceLE, Int.reduceLT, Int.reduceMul, Int.reduceNeg, Int.reducePow, Int.reduceSub, Int.reduceToNat, Nat.reduceAdd, Nat.reduceEqDiff, Nat.reduceLT, Nat.reduceLeDiff, Nat.reduceMul, reduceCtorEq, h7, Int.natCast_add], by omega, rfl, by simp (disch := omega) only [EO, ↓EP, EQ, EM, ↓reduceIte, Int.reduceAdd, Int.reduceEq, Int.reduceLE, Int.reduceLT, Int.reduceMul, Int.reduceNeg, Int.reducePow, Int.reduceSub, Int.reduceToNat, Nat.reduceAdd, Nat.reduceEqDiff, Nat.reduceLT, Nat.reduceLeDiff, Nat.reduceMul, reduceCtorEq], by simp (disch := omega) only [wu64, wu32, wu8, fdiv_nn, EO, ↓EP, EQ, EM, ↓reduceIte, Int.reduceAdd, Int.reduceEq, Int.reduceLE, Int.reduceLT, Int.reduceMul, Int.reduceNeg, Int.reducePow, Int.reduceSub, Int.reduceToNat, Nat.reduceAdd, Nat.reduceEqDiff, Nat.reduceLT, Nat.reduceLeDiff, Nat.reduceMul, reduceCtorEq, ← hT], by omega, by omega, fun e => by rw [hT]; exact r2 e, g4, by simp [ho], hO.app (Dg.Lim.mk (by omega) (by omega) Dg.Lim.nil), ?_⟩
    rw [dval_snoc, ho, Dg.val_take_succ', Dg.val_take_succ', Dg.pw_succ]
    have := Int.mul_ediv_add_emod T 65536
    grind
  · have hcr : cr = 0 := by omega
    rw [hcr, Int.zero_mul, Int.add_zero, Dg.val_take_all (by omega), Dg.val_take_all (by omega)] at hv
    simp (disch := omega) only [EO, ↓EP, EQ, EM, ↓reduceIte, Int.reduceAdd, Int.reduceEq, Int.reduceLE, Int.reduceLT, Int.reduceMul, Int.reduceNeg, Int.reducePow, Int.reduceSub, Int.reduceToNat, Nat.reduceAdd, Nat.reduceEqDiff, Nat.reduceLT, Nat.reduceLeDiff, Nat.reduceMul, reduceCtorEq, h7, h5, h6, q0, q1, ea, eb]
    refine plain_gw g hO (by omega) _ fun v5 g5 => ?_
    rw [hv] at g5
    simp (disch := omega) only [EO, ↓EP, EQ, EM, ↓reduceIte, Int.reduceAdd, Int.reduceEq, Int.reduceLE, Int.reduceLT, Int.reduceMul, Int.reduceNeg, Int.reducePow, Int.reduceSub, Int.reduceToNat, Nat.reduceAdd, Nat.reduceEqDiff, Nat.reduceLT, Nat.reduceLeDiff, Nat.reduceMul, reduceCtorEq]
    exact hK v5 w' g5
end Go.Proofs.Ytbgfebhhejlakaa.Spec
