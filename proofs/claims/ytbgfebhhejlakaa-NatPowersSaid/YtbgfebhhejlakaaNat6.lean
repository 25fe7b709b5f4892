/- Numbers by limbs: binary digits, order, lengths, walked. -/
import Derived.Test.YtbgfebhhejlakaaNat2
set_option linter.unusedVariables false
set_option linter.unusedSimpArgs false
namespace Go.Proofs.Ytbgfebhhejlakaa.Spec
open Go Go.RowKit Go.Proofs Go.Proofs.Ytbgfebhhejlakaa.Eng Go.Proofs.Ytbgfebhhejlakaa.Code Go.Proofs.Ytbgfebhhejlakaa.Big
set_option maxRecDepth 100000
attribute [local irreducible] callK S.W opsW scrW

theorem lz32_spec (x : Int) (hx : 0 ≤ x ∧ x < 4294967296) (w : World) (K : Value → World → Prop) (hK : K (.int .i64 (32 - (bl x : Int))) w) : callK Try.prog 71 [.int .u32 x] w K := by
  refine call_of Try.func71 Code.h71 (by simp [Code.c71]) ?_
  have hb : bl x ≤ 32 := (bl_le hx.1).2 (by omega)
  simp (disch := omega) only [EO, ↓EP, EQ, EM, ↓reduceIte, Int.reduceAdd, Int.reduceEq, Int.reduceLE, Int.reduceLT, Int.reduceMul, Int.reduceNeg, Int.reducePow, Int.reduceSub, Int.reduceToNat, Nat.reduceAdd, Nat.reduceEqDiff, Nat.reduceLT, Nat.reduceLeDiff, Nat.reduceMul, reduceCtorEq, Code.c71]
  refine len32_spec x hx _ _ ?_
  simp (disch := omega) only [EO, ↓EP, EQ, EM, ↓reduceIte, Int.reduceAdd, Int.reduceEq, Int.reduceLE, Int.reduceLT, Int.reduceMul, Int.reduceNeg, Int.reducePow, Int.reduceSub, Int.reduceToNat, Nat.reduceAdd, Nat.reduceEqDiff, Nat.reduceLT, Nat.reduceLeDiff, Nat.reduceMul, reduceCtorEq]
  exact hK
theorem can_top {v : Int} (hv : 0 ≤ v) {k : Nat} (hk : (limbs v).length = k + 1) : at' (limbs v) k ≠ 0 ∧ bl v = 32 * k + bl (at' (limbs v) k) := by
  have hc := limbs_can v
  have h0 : at' (limbs v) k ≠ 0 := by
    rcases hc.2 with e | e
    · rw [e] at hk; simp at hk
    · rw [hk] at e; exact e
  refine ⟨h0, ?_⟩
  have := bl_val hc.1 hk h0
  rwa [limbs_val hv] at this
theorem bits_spec {w : World} {A : Option Addr} {n c : Nat} {l : List Int} (hn : l.length = n) (hl : Rd w A (nums .u32 l)) (hL : Lim l) (hc : n ≤ c) (hn' : n ≤ 1099511627776) (K : Value → World → Prop)
    (hK : K (.int .i64 (bl (val l) : Int)) w) : callK Try.prog 24 [.slice A n c] w K := by
  refine call_of Try.func24 Code.h24 (by simp [Code.c24]) ?_
  simp (disch := omega) only [EO, ↓EP, EQ, EM, ↓reduceIte, Int.reduceAdd, Int.reduceEq, Int.reduceLE, Int.reduceLT, Int.reduceMul, Int.reduceNeg, Int.reducePow, Int.reduceSub, Int.reduceToNat, Nat.reduceAdd, Nat.reduceEqDiff, Nat.reduceLT, Nat.reduceLeDiff, Nat.reduceMul, reduceCtorEq, Code.c24]
  have hv := (val_bd hL).1
  refine cut_spec hn hl hL hc (by omega) _ fun m hm he hlen => ?_
  cases m with
  | zero =>
    simp (disch := omega) only [EO, ↓EP, EQ, EM, ↓reduceIte, Int.reduceAdd, Int.reduceEq, Int.reduceLE, Int.reduceLT, Int.reduceMul, Int.reduceNeg, Int.reducePow, Int.reduceSub, Int.reduceToNat, Nat.reduceAdd, Nat.reduceEqDiff, Nat.reduceLT, Nat.reduceLeDiff, Nat.reduceMul, reduceCtorEq, Int.natCast_zero]
    have e : val l = 0 := limbs_nil hv (List.length_eq_zero_iff.1 hlen.symm)
    rw [e, bl_zero] at hK
    exact hK
  | succ k =>
    obtain ⟨h0, hb⟩ := can_top hv hlen.symm
    have hr := hl.take (k + 1)
    rw [he] at hr
    obtain ⟨p, rfl, _, hp⟩ := hr.get (by rw [nums_length]; omega)
    have cp := hp.numN (j := k) (by omega)
    have e1 : ((k + 1 : Nat) : Int) - 1 = k := by omega
    have bt := (limbs_lim (val l)).at k
    have hb32 : bl (at' (limbs (val l)) k) ≤ 32 := (bl_le bt.1).2 (by omega)
    simp (disch := omega) only [EO, ↓EP, EQ, EM, ↓reduceIte, Int.reduceAdd, Int.reduceEq, Int.reduceLE, Int.reduceLT, Int.reduceMul, Int.reduceNeg, Int.reducePow, Int.reduceSub, Int.reduceToNat, Nat.reduceAdd, Nat.reduceEqDiff, Nat.reduceLT, Nat.reduceLeDiff, Nat.reduceMul, reduceCtorEq, e1, cp]
    refine len32_spec _ bt _ _ ?_
    have e2 : (32 : Int) * k + bl (at' (limbs (val l)) k) = (bl (val l) : Int) := by rw [hb]; push_cast; rfl
    simp (disch := omega) only [EO, ↓EP, EQ, EM, ↓reduceIte, Int.reduceAdd, Int.reduceEq, Int.reduceLE, Int.reduceLT, Int.reduceMul, Int.reduceNeg, Int.reducePow, Int.reduceSub, Int.reduceToNat, Nat.reduceAdd, Nat.reduceEqDiff, Nat.reduceLT, Nat.reduceLeDiff, Nat.reduceMul, reduceCtorEq, e2]
    exact hK
set_option maxHeartbeats 1000000 in
theorem cmp_spec {w : World} {A B : Option Addr} {n m c d : Nat} {l r : List Int} (hn : l.length = n) (hm : r.length = m) (hl : Rd w A (nums .u32 l)) (hr : Rd w B (nums .u32 r)) (hL : Lim l) (hR : Lim r) (hc : n ≤ c) (hd : m ≤ d) (hn' : n ≤ 1099511627776) (hm' : m ≤ 1099511627776) (K : Value → World → Prop)
    (hK : ∀ w', Fr w w' nob → K (.int .i64 (cmpI (val l) (val r))) w') : callK Try.prog 26 [.slice A n c, .slice B m d] w K := by
  refine call_of Try.func26 Code.h26 (by simp [Code.c26]) ?_
  simp (disch := omega) only [EO, ↓EP, EQ, EM, ↓reduceIte, Int.reduceAdd, Int.reduceEq, Int.reduceLE, Int.reduceLT, Int.reduceMul, Int.reduceNeg, Int.reducePow, Int.reduceSub, Int.reduceToNat, Nat.reduceAdd, Nat.reduceEqDiff, Nat.reduceLT, Nat.reduceLeDiff, Nat.reduceMul, reduceCtorEq, Code.c26]
  have hvl := (val_bd hL).1
  have hvr := (val_bd hR).1
  have LL := limbs_lim (val l)
  have LR := limbs_lim (val r)
  refine cut_spec hn hl hL hc (by omega) _ fun x hx he hlen => ?_
  simp (disch := omega) only [EO, ↓EP, EQ, EM, ↓reduceIte, Int.reduceAdd, Int.reduceEq, Int.reduceLE, Int.reduceLT, Int.reduceMul, Int.reduceNeg, Int.reducePow, Int.reduceSub, Int.reduceToNat, Nat.reduceAdd, Nat.reduceEqDiff, Nat.reduceLT, Nat.reduceLeDiff, Nat.reduceMul, reduceCtorEq]
  refine cut_spec hm hr hR hd (by omega) _ fun y hy he2 hlen2 => ?_
  have rl := hl.take x
  have rr := hr.take y
  rw [he] at rl
  rw [he2] at rr
  have vl := limbs_val hvl
  have vr := limbs_val hvr
  have lt1 : x < y → val l < val r := fun h => by
    have := (limbs_can (val l)).lt_of_len (limbs_can (val r)) (by omega)
    omega
  have lt2 : y < x → val r < val l := fun h => by
    have := (limbs_can (val r)).lt_of_len (limbs_can (val l)) (by omega)
    omega
  by_cases h1 : (x : Int) < (y : Int)
  · simp (disch := omega) only [EO, ↓EP, EQ, EM, ↓reduceIte, Int.reduceAdd, Int.reduceEq, Int.reduceLE, Int.reduceLT, Int.reduceMul, Int.reduceNeg, Int.reducePow, Int.reduceSub, Int.reduceToNat, Nat.reduceAdd, Nat.reduceEqDiff, Nat.reduceLT, Nat.reduceLeDiff, Nat.reduceMul, reduceCtorEq]
    have := hK w (Fr.refl _ _)
    rwa [cmp_lt (lt1 (by omega))] at this
  by_cases h2 : (y : Int) < (x : Int)
  · simp (disch := omega) only [EO, ↓EP, EQ, EM, ↓reduceIte, Int.reduceAdd, Int.reduceEq, Int.reduceLE, Int.reduceLT, Int.reduceMul, Int.reduceNeg, Int.reducePow, Int.reduceSub, Int.reduceToNat, Nat.reduceAdd, Nat.reduceEqDiff, Nat.reduceLT, Nat.reduceLeDiff, Nat.reduceMul, reduceCtorEq]
    have := hK w (Fr.refl _ _)
    rwa [cmp_gt (lt2 (by omega))] at this
  have hxy : x = y := by omega
  subst hxy
  simp (disch := omega) only [EO, ↓EP, EQ, EM, ↓reduceIte, Int.reduceAdd, Int.reduceEq, Int.reduceLE, Int.reduceLT, Int.reduceMul, Int.reduceNeg, Int.reducePow, Int.reduceSub, Int.reduceToNat, Nat.reduceAdd, Nat.reduceEqDiff, Nat.reduceLT, Nat.reduceLeDiff, Nat.reduceMul, reduceCtorEq]
  generalize limbs (val l) = a at *
  generalize limbs (val r) = b at *
  refine loop_inv (fun t ρ w' => ∃ j, w' = w.drewN j ∧ ρ 25 = .int .i64 ((x : Int) - t) ∧ t ≤ x ∧ a.drop t = b.drop t) x ⟨0, rfl, by simp (disch := omega) only [EO, ↓EP, EQ, EM, ↓reduceIte, Int.reduceAdd, Int.reduceEq, Int.reduceLE, Int.reduceLT, Int.reduceMul, Int.reduceNeg, Int.reducePow, Int.reduceSub, Int.reduceToNat, Nat.reduceAdd, Nat.reduceEqDiff, Nat.reduceLT, Nat.reduceLeDiff, Nat.reduceMul, reduceCtorEq]; rw [Int.sub_self], Nat.le_refl _, by rw [List.drop_of_length_le (by omega), List.drop_of_length_le (by omega)]⟩ ?_
  rintro t ρ w' hf ⟨j, rfl, h25, ht, hd⟩ N hN
  have q0 : ρ 0 = .slice A x c := by rw [hf 0 rfl]; simp (disch := omega) only [EO, ↓EP, EQ, EM, ↓reduceIte, Int.reduceAdd, Int.reduceEq, Int.reduceLE, Int.reduceLT, Int.reduceMul, Int.reduceNeg, Int.reducePow, Int.reduceSub, Int.reduceToNat, Nat.reduceAdd, Nat.reduceEqDiff, Nat.reduceLT, Nat.reduceLeDiff, Nat.reduceMul, reduceCtorEq]
  have q1 : ρ 1 = .slice B x d := by rw [hf 1 rfl]; simp (disch := omega) only [EO, ↓EP, EQ, EM, ↓reduceIte, Int.reduceAdd, Int.reduceEq, Int.reduceLE, Int.reduceLT, Int.reduceMul, Int.reduceNeg, Int.reducePow, Int.reduceSub, Int.reduceToNat, Nat.reduceAdd, Nat.reduceEqDiff, Nat.reduceLT, Nat.reduceLeDiff, Nat.reduceMul, reduceCtorEq]
  have q24 : ρ 24 = .int .i64 x := by rw [hf 24 rfl]; simp (disch := omega) only [EO, ↓EP, EQ, EM, ↓reduceIte, Int.reduceAdd, Int.reduceEq, Int.reduceLE, Int.reduceLT, Int.reduceMul, Int.reduceNeg, Int.reducePow, Int.reduceSub, Int.reduceToNat, Nat.reduceAdd, Nat.reduceEqDiff, Nat.reduceLT, Nat.reduceLeDiff, Nat.reduceMul, reduceCtorEq]
  clear hf
  cases t with
  | zero =>
    rw [List.drop_zero, List.drop_zero] at hd
    simp (disch := omega) only [EO, ↓EP, EQ, EM, ↓reduceIte, Int.reduceAdd, Int.reduceEq, Int.reduceLE, Int.reduceLT, Int.reduceMul, Int.reduceNeg, Int.reducePow, Int.reduceSub, Int.reduceToNat, Nat.reduceAdd, Nat.reduceEqDiff, Nat.reduceLT, Nat.reduceLeDiff, Nat.reduceMul, reduceCtorEq, h25, q24, Int.natCast_zero, Int.sub_zero]
    have := hK (w.drewN j) (Fr.drewN w _ _)
    rwa [cmp_eq (by rw [← vl, ← vr, hd])] at this
  | succ k =>
    obtain ⟨p, rfl, _, hp⟩ := rl.get (by rw [nums_length]; omega)
    obtain ⟨q, rfl, _, hq⟩ := rr.get (by rw [nums_length]; omega)
    have cp := hp.numN (j := k) (by omega)
    have cq := hq.numN (j := k) (by omega)
    have e1 : (x : Int) - 1 - ((x : Int) - ((k + 1 : Nat) : Int)) = k := by omega
    by_cases g1 : at' a k < at' b k
    · simp (disch := omega) only [EO, ↓EP, EQ, EM, ↓reduceIte, Int.reduceAdd, Int.reduceEq, Int.reduceLE, Int.reduceLT, Int.reduceMul, Int.reduceNeg, Int.reducePow, Int.reduceSub, Int.reduceToNat, Nat.reduceAdd, Nat.reduceEqDiff, Nat.reduceLT, Nat.reduceLeDiff, Nat.reduceMul, reduceCtorEq, h25, q0, q1, q24, e1, cp, cq]
      intro m1
      have := hK (w.drewN (j + m1)) (Fr.drewN w _ _)
      rwa [cmp_lt (by rw [← vl, ← vr]; exact lt_top LL LR (by omega) (by omega) hd g1)] at this
    by_cases g2 : at' b k < at' a k
    · simp (disch := omega) only [EO, ↓EP, EQ, EM, ↓reduceIte, Int.reduceAdd, Int.reduceEq, Int.reduceLE, Int.reduceLT, Int.reduceMul, Int.reduceNeg, Int.reducePow, Int.reduceSub, Int.reduceToNat, Nat.reduceAdd, Nat.reduceEqDiff, Nat.reduceLT, Nat.reduceLeDiff, Nat.reduceMul, reduceCtorEq, h25, q0, q1, q24, e1, cp, cq]
      intro m1 m2
      have := hK (w.drewN (j + (m1 + m2))) (Fr.drewN w _ _)
      rw [cmp_gt (by rw [← vl, ← vr]; exact lt_top LR LL (by omega) (by omega) hd.symm g2)] at this
      first | exact this | (rw [Nat.add_assoc]; exact this)
    · simp (disch := omega) only [EO, ↓EP, EQ, EM, ↓reduceIte, Int.reduceAdd, Int.reduceEq, Int.reduceLE, Int.reduceLT, Int.reduceMul, Int.reduceNeg, Int.reducePow, Int.reduceSub, Int.reduceToNat, Nat.reduceAdd, Nat.reduceEqDiff, Nat.reduceLT, Nat.reduceLeDiff, Nat.reduceMul, reduceCtorEq, h25, q0, q1, q24, e1, cp, cq]
      intro m1 m2
      have hds := drop_same (by omega) (by omega) hd (show at' a k = at' b k by omega)
      exact hN k _ _ (by omega) ⟨_, rfl, by simp (disch := omega) only [EO, ↓EP, EQ, EM, ↓reduceIte, Int.reduceAdd, Int.reduceEq, Int.reduceLE, Int.reduceLT, Int.reduceMul, Int.reduceNeg, Int.reducePow, Int.reduceSub, Int.reduceToNat, Nat.reduceAdd, Nat.reduceEqDiff, Nat.reduceLT, Nat.reduceLeDiff, Nat.reduceMul, reduceCtorEq, h25]; congr 1; omega, by omega, hds⟩

/-- Lists whose lengths alone are looked at. -/
structure Lens (w : World) (A : Option Addr) (hs : List Value) (ns : List Nat) : Prop where
  rd : Rd w A hs
  len : hs.length = ns.length
  each : ∀ (i n : Nat), ns[i]? = some n → ∃ B c, hs[i]? = some (Value.slice B n c)
theorem long_spec {w : World} {A : Option Addr} {c : Nat} {hs : List Value} {ns : List Nat} {most : Int} (h : Lens w A hs ns) (hm : -9223372036854775808 ≤ most ∧ most ≤ 9223372036854775807) (h63 : ns.length ≤ 4611686018427387904) (K : Value → World → Prop)
    (hK : K (.bool (ns.any fun n => decide (most < (n : Int)))) w) : callK Try.prog 48 [.int .i64 most, .slice A ns.length c] w K := by
  refine call_of Try.func48 Code.h48 (by simp [Code.c48]) ?_
  simp (disch := omega) only [EO, ↓EP, EQ, EM, ↓reduceIte, Int.reduceAdd, Int.reduceEq, Int.reduceLE, Int.reduceLT, Int.reduceMul, Int.reduceNeg, Int.reducePow, Int.reduceSub, Int.reduceToNat, Nat.reduceAdd, Nat.reduceEqDiff, Nat.reduceLT, Nat.reduceLeDiff, Nat.reduceMul, reduceCtorEq, Code.c48]
  refine loop_inv (fun t ρ w' => w' = w ∧ ∃ k : Nat, ρ 9 = .int .i64 k ∧ k ≤ ns.length ∧ t = ns.length - k ∧ ∀ i n, i < k → ns[i]? = some n → ¬ most < (n : Int)) _ ⟨rfl, 0, by simp (disch := omega) only [EO, ↓EP, EQ, EM, ↓reduceIte, Int.reduceAdd, Int.reduceEq, Int.reduceLE, Int.reduceLT, Int.reduceMul, Int.reduceNeg, Int.reducePow, Int.reduceSub, Int.reduceToNat, Nat.reduceAdd, Nat.reduceEqDiff, Nat.reduceLT, Nat.reduceLeDiff, Nat.reduceMul, reduceCtorEq], by omega, rfl, fun i n h => by omega⟩ ?_
  rintro t ρ w' hf ⟨rfl, k, h9, hk, rfl, hall⟩ N hN
  have q0 : ρ 0 = .int .i64 most := by rw [hf 0 rfl]; simp (disch := omega) only [EO, ↓EP, EQ, EM, ↓reduceIte, Int.reduceAdd, Int.reduceEq, Int.reduceLE, Int.reduceLT, Int.reduceMul, Int.reduceNeg, Int.reducePow, Int.reduceSub, Int.reduceToNat, Nat.reduceAdd, Nat.reduceEqDiff, Nat.reduceLT, Nat.reduceLeDiff, Nat.reduceMul, reduceCtorEq]
  have q7 : ρ 7 = .slice A ns.length c := by rw [hf 7 rfl]; simp (disch := omega) only [EO, ↓EP, EQ, EM, ↓reduceIte, Int.reduceAdd, Int.reduceEq, Int.reduceLE, Int.reduceLT, Int.reduceMul, Int.reduceNeg, Int.reducePow, Int.reduceSub, Int.reduceToNat, Nat.reduceAdd, Nat.reduceEqDiff, Nat.reduceLT, Nat.reduceLeDiff, Nat.reduceMul, reduceCtorEq]
  have q8 : ρ 8 = .int .i64 ns.length := by rw [hf 8 rfl]; simp (disch := omega) only [EO, ↓EP, EQ, EM, ↓reduceIte, Int.reduceAdd, Int.reduceEq, Int.reduceLE, Int.reduceLT, Int.reduceMul, Int.reduceNeg, Int.reducePow, Int.reduceSub, Int.reduceToNat, Nat.reduceAdd, Nat.reduceEqDiff, Nat.reduceLT, Nat.reduceLeDiff, Nat.reduceMul, reduceCtorEq]
  clear hf
  by_cases hkl : (k : Int) < (ns.length : Int)
  · obtain ⟨p, rfl, _, hp⟩ := h.rd.get (by rw [h.len]; omega)
    have hn : ns[k]? = some ns[k] := List.getElem?_eq_getElem (by omega)
    obtain ⟨B, d, hv⟩ := h.each k _ hn
    have cp := hp k _ hv
    by_cases hlt : most < (ns[k] : Int)
    · simp (disch := omega) only [EO, ↓EP, EQ, EM, ↓reduceIte, Int.reduceAdd, Int.reduceEq, Int.reduceLE, Int.reduceLT, Int.reduceMul, Int.reduceNeg, Int.reducePow, Int.reduceSub, Int.reduceToNat, Nat.reduceAdd, Nat.reduceEqDiff, Nat.reduceLT, Nat.reduceLeDiff, Nat.reduceMul, reduceCtorEq, h9, q0, q7, q8, cp]
      have e : (ns.any fun n => decide (most < (n : Int))) = true := List.any_eq_true.2 ⟨ns[k], List.getElem_mem _, by simpa using hlt⟩
      rwa [e] at hK
    · simp (disch := omega) only [EO, ↓EP, EQ, EM, ↓reduceIte, Int.reduceAdd, Int.reduceEq, Int.reduceLE, Int.reduceLT, Int.reduceMul, Int.reduceNeg, Int.reducePow, Int.reduceSub, Int.reduceToNat, Nat.reduceAdd, Nat.reduceEqDiff, Nat.reduceLT, Nat.reduceLeDiff, Nat.reduceMul, reduceCtorEq, h9, q0, q7, q8, cp]
      refine hN (ns.length - (k + 1)) _ _ (by omega) ⟨rfl, k + 1, by simp (disch := omega) only [EO, ↓EP, EQ, EM, ↓reduceIte, Int.reduceAdd, Int.reduceEq, Int.reduceLE, Int.reduceLT, Int.reduceMul, Int.reduceNeg, Int.reducePow, Int.reduceSub, Int.reduceToNat, Nat.reduceAdd, Nat.reduceEqDiff, Nat.reduceLT, Nat.reduceLeDiff, Nat.reduceMul, reduceCtorEq, h9, Int.natCast_add], by omega, rfl, fun i n hi hin => ?_⟩
      by_cases hik : i = k
      · subst hik
        rw [hn] at hin
        cases hin
        exact hlt
      · exact hall i n (by omega) hin
  · simp (disch := omega) only [EO, ↓EP, EQ, EM, ↓reduceIte, Int.reduceAdd, Int.reduceEq, Int.reduceLE, Int.reduceLT, Int.reduceMul, Int.reduceNeg, Int.reducePow, Int.reduceSub, Int.reduceToNat, Nat.reduceAdd, Nat.reduceEqDiff, Nat.reduceLT, Nat.reduceLeDiff, Nat.reduceMul, reduceCtorEq, h9, q0, q7, q8]
    have e : (ns.any fun n => decide (most < (n : Int))) = false := by
      rw [List.any_eq_false]
      intro n hn
      obtain ⟨i, hi, rfl⟩ := List.mem_iff_getElem.1 hn
      simpa using hall i _ (by omega) (List.getElem?_eq_getElem hi)
    rwa [e] at hK
theorem long1 {w : World} {A B : Option Addr} {n d c : Nat} {most : Int} (h : Rd w A [.slice B n d]) (hm : -9223372036854775808 ≤ most ∧ most ≤ 9223372036854775807) (K : Value → World → Prop)
    (hK : K (.bool (decide (most < (n : Int)))) w) : callK Try.prog 48 [.int .i64 most, .slice A 1 c] w K := by
  refine long_spec (ns := [n]) ⟨h, rfl, fun i x hx => ?_⟩ hm (by simp) K (by simpa using hK)
  match i, hx with
  | 0, hx => simp at hx; subst hx; exact ⟨B, d, rfl⟩
  | i + 1, hx => simp at hx
theorem long2 {w : World} {A B C : Option Addr} {n m d e c : Nat} {most : Int} (h : Rd w A [.slice B n d, .slice C m e]) (hm : -9223372036854775808 ≤ most ∧ most ≤ 9223372036854775807) (K : Value → World → Prop)
    (hK : K (.bool (decide (most < (n : Int)) || decide (most < (m : Int)))) w) : callK Try.prog 48 [.int .i64 most, .slice A 2 c] w K := by
  refine long_spec (ns := [n, m]) ⟨h, rfl, fun i x hx => ?_⟩ hm (by simp) K (by simpa using hK)
  match i, hx with
  | 0, hx => simp at hx; subst hx; exact ⟨B, d, rfl⟩
  | 1, hx => simp at hx; subst hx; exact ⟨C, e, rfl⟩
  | i + 2, hx => simp at hx
end Go.Proofs.Ytbgfebhhejlakaa.Spec
