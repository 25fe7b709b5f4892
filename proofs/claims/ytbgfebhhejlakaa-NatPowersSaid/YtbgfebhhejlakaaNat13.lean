/- Numbers by limbs: inverses, walked. -/
import Derived.Test.YtbgfebhhejlakaaNat10
set_option linter.unusedVariables false
set_option linter.unusedSimpArgs false
namespace Go.Proofs.Ytbgfebhhejlakaa.Spec
open Go Go.RowKit Go.Proofs Go.Proofs.Ytbgfebhhejlakaa.Eng Go.Proofs.Ytbgfebhhejlakaa.Code Go.Proofs.Ytbgfebhhejlakaa.Big
set_option maxRecDepth 100000
attribute [local irreducible] callK S.W opsW scrW

/-- What is kept from round to round. -/
structure Eu (A M : Int) (w0 w : World) (vr vs vx vy : Value) (R S X Y : Int) : Prop where
  r : Nv w vr R
  s : Nv w vs S
  x : Nv w vx X
  y : Nv w vy Y
  rM : R ≤ M
  sM : S ≤ M
  xM : X ≤ M
  yM : Y ≤ M
  s0 : 0 < S
  dx : M ∣ A * X - R
  dy : M ∣ A * Y - S
  g : Int.gcd S R = Int.gcd A M
  fr : Fr w0 w nob
theorem gcd_mod {S R : Int} (hS : 0 ≤ S) (hR : 0 < R) : Int.gcd R (S % R) = Int.gcd S R := by
  obtain ⟨s, rfl⟩ := Int.eq_ofNat_of_zero_le hS
  obtain ⟨r, rfl⟩ := Int.eq_ofNat_of_zero_le (show 0 ≤ R by omega)
  rw [show (s : Int) % (r : Int) = ((s % r : Nat) : Int) by rfl, Int.gcd_natCast_natCast, Int.gcd_natCast_natCast, Nat.gcd_comm r, ← Nat.gcd_rec, Nat.gcd_comm]
theorem no_inv {A M S y : Int} (hg : Int.gcd S 0 = Int.gcd A M) (hS : 0 < S) (h1 : S ≠ 1) : ¬ isInv A M y := by
  rintro ⟨_, _, u, hu⟩
  have d1 : (Int.gcd A M : Int) ∣ A := Int.gcd_dvd_left ..
  have d2 : (Int.gcd A M : Int) ∣ M := Int.gcd_dvd_right ..
  obtain ⟨p, hp⟩ := d1
  obtain ⟨q, hq⟩ := d2
  rw [← hg, Int.gcd_zero] at hp hq
  have e : ((S.natAbs : Nat) : Int) = S := by omega
  rw [e] at hp hq
  have : S * (p * y - q * u) = 1 := by
    have : A * y - M * u = 1 := by omega
    rw [hp, hq] at this
    grind
  have hd : S ∣ 1 := ⟨_, this.symm⟩
  have := Int.le_of_dvd (by decide) hd
  omega
set_option maxHeartbeats 2000000 in
theorem inverse_vw {w : World} {va vm : Value} {a m : List Int} (ha : Vw .u32 w va a) (hm : Vw .u32 w vm m) (hA : Lim a) (hM : Lim m) (K : Value → World → Prop)
    (hK : ∀ v w', Gw .u32 w w' v (invR a m).1 → K (.tuple #[v, .int .i64 (invR a m).2]) w') : callK Try.prog 37 [va, vm] w K := by
  obtain ⟨A1, c1, rfl, hc1, hr1⟩ := ha
  obtain ⟨A3, c3, rfl, hc3, hr3⟩ := hm
  have b1 := (val_bd hA).1
  have b3 := (val_bd hM).1
  refine call_of Try.func37 Code.h37 (by simp [Code.c37]) ?_
  simp (disch := omega) only [EO, ↓EP, EQ, EM, ↓reduceIte, Int.reduceAdd, Int.reduceEq, Int.reduceLE, Int.reduceLT, Int.reduceMul, Int.reduceNeg, Int.reducePow, Int.reduceSub, Int.reduceToNat, Nat.reduceAdd, Nat.reduceEqDiff, Nat.reduceLT, Nat.reduceLeDiff, Nat.reduceMul, reduceCtorEq, Code.c37]
  refine bslS2 fun w2 n2 => ?_
  have f2 := n2.fr nob
  simp (disch := omega) only [EO, ↓EP, EQ, EM, ↓reduceIte, Int.reduceAdd, Int.reduceEq, Int.reduceLE, Int.reduceLT, Int.reduceMul, Int.reduceNeg, Int.reducePow, Int.reduceSub, Int.reduceToNat, Nat.reduceAdd, Nat.reduceEqDiff, Nat.reduceLT, Nat.reduceLeDiff, Nat.reduceMul, reduceCtorEq]
  refine long2 n2.rdv (by omega) _ ?_
  by_cases h512 : 512 < a.length ∨ 512 < m.length
  · have e' : invR a m = ([], 3) := by unfold invR; rw [if_pos (by omega)]
    rw [e'] at hK
    have hbb : (decide ((512 : Int) < (a.length : Int)) || decide ((512 : Int) < (m.length : Int))) = true := by simp; omega
    simp (disch := omega) only [EO, ↓EP, EQ, EM, ↓reduceIte, Int.reduceAdd, Int.reduceEq, Int.reduceLE, Int.reduceLT, Int.reduceMul, Int.reduceNeg, Int.reducePow, Int.reduceSub, Int.reduceToNat, Nat.reduceAdd, Nat.reduceEqDiff, Nat.reduceLT, Nat.reduceLeDiff, Nat.reduceMul, reduceCtorEq, hbb]
    exact hK _ w2 ((Gw.nil _ _).from f2)
  have hbb : (decide ((512 : Int) < (a.length : Int)) || decide ((512 : Int) < (m.length : Int))) = false := by simp; omega
  have vm2 : Vw .u32 w2 (.slice A3 m.length c3) m := ⟨A3, c3, rfl, hc3, hr3.nb f2⟩
  have va2 : Vw .u32 w2 (.slice A1 a.length c1) a := ⟨A1, c1, rfl, hc1, hr1.nb f2⟩
  simp (disch := omega) only [EO, ↓EP, EQ, EM, ↓reduceIte, Int.reduceAdd, Int.reduceEq, Int.reduceLE, Int.reduceLT, Int.reduceMul, Int.reduceNeg, Int.reducePow, Int.reduceSub, Int.reduceToNat, Nat.reduceAdd, Nat.reduceEqDiff, Nat.reduceLT, Nat.reduceLeDiff, Nat.reduceMul, reduceCtorEq, hbb]
  refine bits_vw vm2 hM (by omega) _ ?_
  by_cases h0 : val m = 0
  · have e' : invR a m = ([], 11) := by unfold invR; rw [if_neg (by omega), if_pos h0]
    rw [e'] at hK
    simp (disch := omega) only [EO, ↓EP, EQ, EM, ↓reduceIte, Int.reduceAdd, Int.reduceEq, Int.reduceLE, Int.reduceLT, Int.reduceMul, Int.reduceNeg, Int.reducePow, Int.reduceSub, Int.reduceToNat, Nat.reduceAdd, Nat.reduceEqDiff, Nat.reduceLT, Nat.reduceLeDiff, Nat.reduceMul, reduceCtorEq, h0, bl_zero, Int.natCast_zero]
    exact hK _ w2 ((Gw.nil _ _).from f2)
  have hsome := fun y => invR_some (a := a) (m := m) (y := y) h512 h0
  have hnone := invR_none (a := a) (m := m) h512 h0
  have hM0 : 0 < val m := by omega
  obtain ⟨k0, hk0, _, _⟩ := bl_pos hM0
  have hf : (((bl (val m) : Nat) : Int) = 0) = False := eq_false (by omega)
  have lm := len_val hM
  simp (disch := omega) only [EO, ↓EP, EQ, EM, ↓reduceIte, Int.reduceAdd, Int.reduceEq, Int.reduceLE, Int.reduceLT, Int.reduceMul, Int.reduceNeg, Int.reducePow, Int.reduceSub, Int.reduceToNat, Nat.reduceAdd, Nat.reduceEqDiff, Nat.reduceLT, Nat.reduceLeDiff, Nat.reduceMul, reduceCtorEq, hf]
  refine cut_vw vm2 hM (by omega) _ fun vm3 hm3 => ?_
  simp (disch := omega) only [EO, ↓EP, EQ, EM, ↓reduceIte, Int.reduceAdd, Int.reduceEq, Int.reduceLE, Int.reduceLT, Int.reduceMul, Int.reduceNeg, Int.reducePow, Int.reduceSub, Int.reduceToNat, Nat.reduceAdd, Nat.reduceEqDiff, Nat.reduceLT, Nat.reduceLeDiff, Nat.reduceMul, reduceCtorEq]
  refine parts_vw va2 hm3.2 hA (limbs_lim _) (by omega) (by omega) (by rw [limbs_val b3]; exact hM0) _ fun u4 v4 w4 _ g4 _ => ?_
  rw [limbs_val b3] at g4
  have f4 := f2.nb g4.fr
  have hm4 := hm3.nb g4.fr
  simp (disch := omega) only [EO, ↓EP, EQ, EM, ↓reduceIte, Int.reduceAdd, Int.reduceEq, Int.reduceLE, Int.reduceLT, Int.reduceMul, Int.reduceNeg, Int.reducePow, Int.reduceSub, Int.reduceToNat, Nat.reduceAdd, Nat.reduceEqDiff, Nat.reduceLT, Nat.reduceLeDiff, Nat.reduceMul, reduceCtorEq]
  refine trim_vw hm4.2 (limbs_lim _) (by omega) _ fun v5 w5 g5 => ?_
  rw [limbs_val b3] at g5
  have f5 := f4.nb g5.fr
  have hm5 := hm4.nb g5.fr
  simp (disch := omega) only [EO, ↓EP, EQ, EM, ↓reduceIte, Int.reduceAdd, Int.reduceEq, Int.reduceLE, Int.reduceLT, Int.reduceMul, Int.reduceNeg, Int.reducePow, Int.reduceSub, Int.reduceToNat, Nat.reduceAdd, Nat.reduceEqDiff, Nat.reduceLT, Nat.reduceLeDiff, Nat.reduceMul, reduceCtorEq]
  refine bsl1 fun w6 n6 => ?_
  have f6 := f5.nb (n6.fr nob)
  have hm6 := hm5.nb (n6.fr nob)
  have hr6 := ((g4.nv (mod_bd hM0).1).nb g5.fr).nb (n6.fr nob)
  have hs6 := (g5.nv b3).nb (n6.fr nob)
  have hx6 := Nv.one n6
  have hy6 := Nv.nil w6
  obtain ⟨M, hMv⟩ : ∃ M, M = val m := ⟨_, rfl⟩
  obtain ⟨A, hAv⟩ : ∃ A, A = val a := ⟨_, rfl⟩
  rw [← hMv] at hm6 hr6 hs6 hM0 hsome hnone
  rw [← hAv] at hr6 hsome hnone b1
  have hlm : (limbs M).length ≤ 512 := by rw [hMv]; omega
  have hbd := mod_bd (a := A) hM0
  have E6 : Eu A M w w6 v4 v5 (.slice (some ⟨w5.heap.size, 0, none⟩) 1 1) (.slice none 0 0) (A % M) M 1 0 :=
    ⟨hr6, hs6, hx6, hy6, by omega, Int.le_refl _, by omega, by omega, hM0, ⟨A / M, by have := Int.mul_ediv_add_emod A M; grind⟩, ⟨-1, by grind⟩, by rw [gcd_mod b1 hM0], f6⟩
  clear hm3 hm4 hm5 vm2 va2 g4 g5 n2 n6 hr1 hr3 f2 f4 f5 lm hr6 hs6 hx6 hy6 hf
  simp (disch := omega) only [EO, ↓EP, EQ, EM, ↓reduceIte, Int.reduceAdd, Int.reduceEq, Int.reduceLE, Int.reduceLT, Int.reduceMul, Int.reduceNeg, Int.reducePow, Int.reduceSub, Int.reduceToNat, Nat.reduceAdd, Nat.reduceEqDiff, Nat.reduceLT, Nat.reduceLeDiff, Nat.reduceMul, reduceCtorEq]
  refine loop_inv (fun t ρ w' => ∃ vr vs vx vy R S X Y, ρ 7 = vr ∧ ρ 8 = vs ∧ ρ 9 = vx ∧ ρ 10 = vy ∧ t = R.toNat ∧ Fr w6 w' nob ∧ Eu A M w w' vr vs vx vy R S X Y) _
    ⟨_, _, _, _, _, _, _, _, by simp (disch := omega) only [EO, ↓EP, EQ, EM, ↓reduceIte, Int.reduceAdd, Int.reduceEq, Int.reduceLE, Int.reduceLT, Int.reduceMul, Int.reduceNeg, Int.reducePow, Int.reduceSub, Int.reduceToNat, Nat.reduceAdd, Nat.reduceEqDiff, Nat.reduceLT, Nat.reduceLeDiff, Nat.reduceMul, reduceCtorEq], by simp (disch := omega) only [EO, ↓EP, EQ, EM, ↓reduceIte, Int.reduceAdd, Int.reduceEq, Int.reduceLE, Int.reduceLT, Int.reduceMul, Int.reduceNeg, Int.reducePow, Int.reduceSub, Int.reduceToNat, Nat.reduceAdd, Nat.reduceEqDiff, Nat.reduceLT, Nat.reduceLeDiff, Nat.reduceMul, reduceCtorEq], by simp (disch := omega) only [EO, ↓EP, EQ, EM, ↓reduceIte, Int.reduceAdd, Int.reduceEq, Int.reduceLE, Int.reduceLT, Int.reduceMul, Int.reduceNeg, Int.reducePow, Int.reduceSub, Int.reduceToNat, Nat.reduceAdd, Nat.reduceEqDiff, Nat.reduceLT, Nat.reduceLeDiff, Nat.reduceMul, reduceCtorEq], by simp (disch := omega) only [EO, ↓EP, EQ, EM, ↓reduceIte, Int.reduceAdd, Int.reduceEq, Int.reduceLE, Int.reduceLT, Int.reduceMul, Int.reduceNeg, Int.reducePow, Int.reduceSub, Int.reduceToNat, Nat.reduceAdd, Nat.reduceEqDiff, Nat.reduceLT, Nat.reduceLeDiff, Nat.reduceMul, reduceCtorEq], rfl, Fr.refl _ _, E6⟩ ?_
  rintro t ρ w7 hf ⟨vr, vs, vx, vy, R, S, X, Y, h7, h8, h9, h10, rfl, f7, E⟩ N hN
  have q1 : ρ 1 = vm3 := by rw [hf 1 rfl]; simp (disch := omega) only [EO, ↓EP, EQ, EM, ↓reduceIte, Int.reduceAdd, Int.reduceEq, Int.reduceLE, Int.reduceLT, Int.reduceMul, Int.reduceNeg, Int.reducePow, Int.reduceSub, Int.reduceToNat, Nat.reduceAdd, Nat.reduceEqDiff, Nat.reduceLT, Nat.reduceLeDiff, Nat.reduceMul, reduceCtorEq]
  clear hf
  have hmw := hm6.nb f7
  have lR := len_mono E.r.1 E.rM
  have lS := len_mono E.s.1 E.sM
  have lX := len_mono E.x.1 E.xM
  have lY := len_mono E.y.1 E.yM
  simp (disch := omega) only [EO, ↓EP, EQ, EM, ↓reduceIte, Int.reduceAdd, Int.reduceEq, Int.reduceLE, Int.reduceLT, Int.reduceMul, Int.reduceNeg, Int.reducePow, Int.reduceSub, Int.reduceToNat, Nat.reduceAdd, Nat.reduceEqDiff, Nat.reduceLT, Nat.reduceLeDiff, Nat.reduceMul, reduceCtorEq, h7, h8, h9, h10, q1]
  refine bits_vw E.r.2 (limbs_lim _) (by omega) _ ?_
  rw [limbs_val E.r.1]
  by_cases hR0 : R = 0
  · have Eg := E.g
    rw [hR0] at Eg
    simp (disch := omega) only [EO, ↓EP, EQ, EM, ↓reduceIte, Int.reduceAdd, Int.reduceEq, Int.reduceLE, Int.reduceLT, Int.reduceMul, Int.reduceNeg, Int.reducePow, Int.reduceSub, Int.reduceToNat, Nat.reduceAdd, Nat.reduceEqDiff, Nat.reduceLT, Nat.reduceLeDiff, Nat.reduceMul, reduceCtorEq, hR0, bl_zero, Int.natCast_zero, h7, h8, h9, h10, q1]
    refine bsl1 fun w8 n8 => ?_
    have f8 := E.fr.nb (n8.fr nob)
    simp (disch := omega) only [EO, ↓EP, EQ, EM, ↓reduceIte, Int.reduceAdd, Int.reduceEq, Int.reduceLE, Int.reduceLT, Int.reduceMul, Int.reduceNeg, Int.reducePow, Int.reduceSub, Int.reduceToNat, Nat.reduceAdd, Nat.reduceEqDiff, Nat.reduceLT, Nat.reduceLeDiff, Nat.reduceMul, reduceCtorEq, h7, h8, h9, h10, q1]
    refine cmp_vw (E.s.nb (n8.fr nob)).2 (Nv.one n8).2 (limbs_lim _) (limbs_lim _) (by omega) (by rw [limbs_one]; simp) _ fun w9 f9 => ?_
    rw [limbs_val E.s.1, limbs_val (by decide)]
    by_cases hS1 : S = 1
    · rw [cmp_eq hS1]
      simp (disch := omega) only [EO, ↓EP, EQ, EM, ↓reduceIte, Int.reduceAdd, Int.reduceEq, Int.reduceLE, Int.reduceLT, Int.reduceMul, Int.reduceNeg, Int.reducePow, Int.reduceSub, Int.reduceToNat, Nat.reduceAdd, Nat.reduceEqDiff, Nat.reduceLT, Nat.reduceLeDiff, Nat.reduceMul, reduceCtorEq, h7, h8, h9, h10, q1]
      refine parts_vw ((E.y.nb (n8.fr nob)).nb f9).2 ((hmw.nb (n8.fr nob)).nb f9).2 (limbs_lim _) (limbs_lim _) (by omega) (by omega) (by rw [limbs_val (by omega)]; exact hM0) _ fun u10 v10 w10 _ g10 _ => ?_
      rw [limbs_val E.y.1, limbs_val (by omega)] at g10
      have hy10 := g10.nv (mod_bd hM0).1
      simp (disch := omega) only [EO, ↓EP, EQ, EM, ↓reduceIte, Int.reduceAdd, Int.reduceEq, Int.reduceLE, Int.reduceLT, Int.reduceMul, Int.reduceNeg, Int.reducePow, Int.reduceSub, Int.reduceToNat, Nat.reduceAdd, Nat.reduceEqDiff, Nat.reduceLT, Nat.reduceLeDiff, Nat.reduceMul, reduceCtorEq, h7, h8, h9, h10, q1]
      have hlY := len_mono (mod_bd (a := Y) hM0).1 (show Y % M ≤ M by have := (mod_bd (a := Y) hM0).2; omega)
      refine trim_vw hy10.2 (limbs_lim _) (by omega) _ fun v11 w11 g11 => ?_
      rw [limbs_val hy10.1] at g11
      have hinv : isInv A M (Y % M) := by
        refine ⟨(mod_bd hM0).1, (mod_bd hM0).2, ?_⟩
        obtain ⟨u, hu⟩ := E.dy
        rw [hS1] at hu
        have e1 := Int.mul_ediv_add_emod Y M
        exact ⟨u - A * (Y / M), by grind⟩
      rw [hsome _ hinv] at hK
      simp (disch := omega) only [EO, ↓EP, EQ, EM, ↓reduceIte, Int.reduceAdd, Int.reduceEq, Int.reduceLE, Int.reduceLT, Int.reduceMul, Int.reduceNeg, Int.reducePow, Int.reduceSub, Int.reduceToNat, Nat.reduceAdd, Nat.reduceEqDiff, Nat.reduceLT, Nat.reduceLeDiff, Nat.reduceMul, reduceCtorEq, h7, h8, h9, h10, q1]
      exact hK v11 w11 (g11.from ((f8.nb f9).nb g10.fr))
    · have hne : cmpI S 1 ≠ 0 := by unfold cmpI; split <;> (try split) <;> omega
      have hf : (cmpI S 1 = 0) = False := eq_false hne
      rw [hnone fun y => no_inv Eg E.s0 hS1] at hK
      simp (disch := omega) only [EO, ↓EP, EQ, EM, ↓reduceIte, Int.reduceAdd, Int.reduceEq, Int.reduceLE, Int.reduceLT, Int.reduceMul, Int.reduceNeg, Int.reducePow, Int.reduceSub, Int.reduceToNat, Nat.reduceAdd, Nat.reduceEqDiff, Nat.reduceLT, Nat.reduceLeDiff, Nat.reduceMul, reduceCtorEq, hf]
      exact hK _ w9 ((Gw.nil _ _).from (f8.nb f9))
  have hRp : 0 < R := by have := E.r.1; omega
  obtain ⟨k1, hk1, _, _⟩ := bl_pos hRp
  simp (disch := omega) only [EO, ↓EP, EQ, EM, ↓reduceIte, Int.reduceAdd, Int.reduceEq, Int.reduceLE, Int.reduceLT, Int.reduceMul, Int.reduceNeg, Int.reducePow, Int.reduceSub, Int.reduceToNat, Nat.reduceAdd, Nat.reduceEqDiff, Nat.reduceLT, Nat.reduceLeDiff, Nat.reduceMul, reduceCtorEq, h7, h8, h9, h10, q1]
  refine parts_vw E.s.2 E.r.2 (limbs_lim _) (limbs_lim _) (by omega) (by omega) (by rw [limbs_val E.r.1]; exact hRp) _ fun vq v8 w8 gq g8 _ => ?_
  rw [limbs_val E.s.1, limbs_val E.r.1] at gq g8
  have hQ0 := Int.ediv_nonneg E.s.1 E.r.1
  have hQS := Int.ediv_le_self R E.s.1
  have lQ := len_mono hQ0 hQS
  have hq8 := gq.nv hQ0
  have hrest := g8.nv (mod_bd hRp).1
  simp (disch := omega) only [EO, ↓EP, EQ, EM, ↓reduceIte, Int.reduceAdd, Int.reduceEq, Int.reduceLE, Int.reduceLT, Int.reduceMul, Int.reduceNeg, Int.reducePow, Int.reduceSub, Int.reduceToNat, Nat.reduceAdd, Nat.reduceEqDiff, Nat.reduceLT, Nat.reduceLeDiff, Nat.reduceMul, reduceCtorEq, h7, h8, h9, h10, q1]
  refine times_nv hq8 (E.x.nb g8.fr) (hmw.nb g8.fr) hM0 (n := 512) (by omega) (by omega) hlm (by omega) _ fun vt w9 g9 => ?_
  have hT := mod_bd (a := S / R * X) hM0
  have ht := g9.nv hT.1
  obtain ⟨T, hTv⟩ : ∃ T, T = S / R * X % M := ⟨_, rfl⟩
  have hst := euclid_step E.dx E.dy
  rw [← hTv] at hT ht hst
  have lT := len_mono hT.1 (show T ≤ M by omega)
  have f79 := g8.fr.nb g9.fr
  have hgcd := (gcd_mod E.s.1 hRp).trans E.g
  have hrm := mod_bd (a := S) hRp
  simp (disch := omega) only [EO, ↓EP, EQ, EM, ↓reduceIte, Int.reduceAdd, Int.reduceEq, Int.reduceLE, Int.reduceLT, Int.reduceMul, Int.reduceNeg, Int.reducePow, Int.reduceSub, Int.reduceToNat, Nat.reduceAdd, Nat.reduceEqDiff, Nat.reduceLT, Nat.reduceLeDiff, Nat.reduceMul, reduceCtorEq, W_join, h7, h8, h9, h10, q1]
  refine cmp_vw (E.y.nb f79).2 ht.2 (limbs_lim _) (limbs_lim _) (by omega) (by omega) _ fun w10 f10 => ?_
  rw [limbs_val E.y.1, limbs_val hT.1]
  have f70 := f79.nb f10
  have rM := E.rM
  have yM := E.yM
  by_cases hlt : Y < T
  · rw [cmp_lt hlt]
    simp (disch := omega) only [EO, ↓EP, EQ, EM, ↓reduceIte, Int.reduceAdd, Int.reduceEq, Int.reduceLE, Int.reduceLT, Int.reduceMul, Int.reduceNeg, Int.reducePow, Int.reduceSub, Int.reduceToNat, Nat.reduceAdd, Nat.reduceEqDiff, Nat.reduceLT, Nat.reduceLeDiff, Nat.reduceMul, reduceCtorEq, W_join, h7, h8, h9, h10, q1]
    refine sum_vw (E.y.nb f70).2 (hmw.nb f70).2 (limbs_lim _) (limbs_lim _) (by omega) (by omega) _ fun v11 w11 g11 => ?_
    rw [limbs_val E.y.1, limbs_val (show 0 ≤ M by omega)] at g11
    have hy11 := g11.nv (show 0 ≤ Y + M by have := E.y.1; omega)
    have lYM := len_mono hT.1 (show T ≤ Y + M by have := E.y.1; omega)
    have lYM2 := len_add E.y.1 (show 0 ≤ M by omega) (n := 512) (m := 512) (by omega) hlm
    simp (disch := omega) only [EO, ↓EP, EQ, EM, ↓reduceIte, Int.reduceAdd, Int.reduceEq, Int.reduceLE, Int.reduceLT, Int.reduceMul, Int.reduceNeg, Int.reducePow, Int.reduceSub, Int.reduceToNat, Nat.reduceAdd, Nat.reduceEqDiff, Nat.reduceLT, Nat.reduceLeDiff, Nat.reduceMul, reduceCtorEq, h7, h8, h9, h10, q1]
    refine less_vw hy11.2 ((ht.nb f10).nb g11.fr).2 (limbs_lim _) (limbs_lim _) (by omega) lYM (by rw [limbs_val hT.1, limbs_val hy11.1]; have := E.y.1; omega) _ fun v12 w12 g12 => ?_
    rw [limbs_val hT.1, limbs_val hy11.1] at g12
    have f72 := (f70.nb g11.fr).nb g12.fr
    simp (disch := omega) only [EO, ↓EP, EQ, EM, ↓reduceIte, Int.reduceAdd, Int.reduceEq, Int.reduceLE, Int.reduceLT, Int.reduceMul, Int.reduceNeg, Int.reducePow, Int.reduceSub, Int.reduceToNat, Nat.reduceAdd, Nat.reduceEqDiff, Nat.reduceLT, Nat.reduceLeDiff, Nat.reduceMul, reduceCtorEq, h7, h8, h9, h10, q1]
    refine hN (S % R).toNat _ _ (by omega) ⟨v8, vr, v12, vx, S % R, R, Y + M - T, X, by simp (disch := omega) only [EO, ↓EP, EQ, EM, ↓reduceIte, Int.reduceAdd, Int.reduceEq, Int.reduceLE, Int.reduceLT, Int.reduceMul, Int.reduceNeg, Int.reducePow, Int.reduceSub, Int.reduceToNat, Nat.reduceAdd, Nat.reduceEqDiff, Nat.reduceLT, Nat.reduceLeDiff, Nat.reduceMul, reduceCtorEq, h7, h8, h9, h10, q1], by simp (disch := omega) only [EO, ↓EP, EQ, EM, ↓reduceIte, Int.reduceAdd, Int.reduceEq, Int.reduceLE, Int.reduceLT, Int.reduceMul, Int.reduceNeg, Int.reducePow, Int.reduceSub, Int.reduceToNat, Nat.reduceAdd, Nat.reduceEqDiff, Nat.reduceLT, Nat.reduceLeDiff, Nat.reduceMul, reduceCtorEq, h7, h8, h9, h10, q1], by simp (disch := omega) only [EO, ↓EP, EQ, EM, ↓reduceIte, Int.reduceAdd, Int.reduceEq, Int.reduceLE, Int.reduceLT, Int.reduceMul, Int.reduceNeg, Int.reducePow, Int.reduceSub, Int.reduceToNat, Nat.reduceAdd, Nat.reduceEqDiff, Nat.reduceLT, Nat.reduceLeDiff, Nat.reduceMul, reduceCtorEq, h7, h8, h9, h10, q1], by simp (disch := omega) only [EO, ↓EP, EQ, EM, ↓reduceIte, Int.reduceAdd, Int.reduceEq, Int.reduceLE, Int.reduceLT, Int.reduceMul, Int.reduceNeg, Int.reducePow, Int.reduceSub, Int.reduceToNat, Nat.reduceAdd, Nat.reduceEqDiff, Nat.reduceLT, Nat.reduceLeDiff, Nat.reduceMul, reduceCtorEq, h7, h8, h9, h10, q1], rfl, f7.nb f72, ?_⟩
    refine ⟨hrest.nb (((g9.fr.nb f10).nb g11.fr).nb g12.fr), E.r.nb f72, g12.nv (by have := E.y.1; omega), E.x.nb f72, by omega, E.rM, by omega, E.xM, hRp, ?_, E.dx, hgcd, E.fr.nb f72⟩
    obtain ⟨u, hu⟩ := hst
    exact ⟨u + A, by grind⟩
  · have hc0 : 0 ≤ cmpI Y T := by unfold cmpI; rw [if_neg hlt]; split <;> omega
    generalize cmpI Y T = cm at *
    simp (disch := omega) only [EO, ↓EP, EQ, EM, ↓reduceIte, Int.reduceAdd, Int.reduceEq, Int.reduceLE, Int.reduceLT, Int.reduceMul, Int.reduceNeg, Int.reducePow, Int.reduceSub, Int.reduceToNat, Nat.reduceAdd, Nat.reduceEqDiff, Nat.reduceLT, Nat.reduceLeDiff, Nat.reduceMul, reduceCtorEq, W_join, h7, h8, h9, h10, q1]
    refine less_vw (E.y.nb f70).2 (ht.nb f10).2 (limbs_lim _) (limbs_lim _) (by omega) (len_mono hT.1 (by omega)) (by rw [limbs_val hT.1, limbs_val E.y.1]; omega) _ fun v12 w12 g12 => ?_
    rw [limbs_val hT.1, limbs_val E.y.1] at g12
    have f72 := f70.nb g12.fr
    simp (disch := omega) only [EO, ↓EP, EQ, EM, ↓reduceIte, Int.reduceAdd, Int.reduceEq, Int.reduceLE, Int.reduceLT, Int.reduceMul, Int.reduceNeg, Int.reducePow, Int.reduceSub, Int.reduceToNat, Nat.reduceAdd, Nat.reduceEqDiff, Nat.reduceLT, Nat.reduceLeDiff, Nat.reduceMul, reduceCtorEq, h7, h8, h9, h10, q1]
    refine hN (S % R).toNat _ _ (by omega) ⟨v8, vr, v12, vx, S % R, R, Y - T, X, by simp (disch := omega) only [EO, ↓EP, EQ, EM, ↓reduceIte, Int.reduceAdd, Int.reduceEq, Int.reduceLE, Int.reduceLT, Int.reduceMul, Int.reduceNeg, Int.reducePow, Int.reduceSub, Int.reduceToNat, Nat.reduceAdd, Nat.reduceEqDiff, Nat.reduceLT, Nat.reduceLeDiff, Nat.reduceMul, reduceCtorEq, h7, h8, h9, h10, q1], by simp (disch := omega) only [EO, ↓EP, EQ, EM, ↓reduceIte, Int.reduceAdd, Int.reduceEq, Int.reduceLE, Int.reduceLT, Int.reduceMul, Int.reduceNeg, Int.reducePow, Int.reduceSub, Int.reduceToNat, Nat.reduceAdd, Nat.reduceEqDiff, Nat.reduceLT, Nat.reduceLeDiff, Nat.reduceMul, reduceCtorEq, h7, h8, h9, h10, q1], by simp (disch := omega) only [EO, ↓EP, EQ, EM, ↓reduceIte, Int.reduceAdd, Int.reduceEq, Int.reduceLE, Int.reduceLT, Int.reduceMul, Int.reduceNeg, Int.reducePow, Int.reduceSub, Int.reduceToNat, Nat.reduceAdd, Nat.reduceEqDiff, Nat.reduceLT, Nat.reduceLeDiff, Nat.reduceMul, reduceCtorEq, h7, h8, h9, h10, q1], by simp (disch := omega) only [EO, ↓EP, EQ, EM, ↓reduceIte, Int.reduceAdd, Int.reduceEq, Int.reduceLE, Int.reduceLT, Int.reduceMul, Int.reduceNeg, Int.reducePow, Int.reduceSub, Int.reduceToNat, Nat.reduceAdd, Nat.reduceEqDiff, Nat.reduceLT, Nat.reduceLeDiff, Nat.reduceMul, reduceCtorEq, h7, h8, h9, h10, q1], rfl, f7.nb f72, ?_⟩
    exact ⟨hrest.nb ((g9.fr.nb f10).nb g12.fr), E.r.nb f72, g12.nv (by omega), E.x.nb f72, by omega, E.rM, by omega, E.xM, hRp, hst, E.dx, hgcd, E.fr.nb f72⟩
end Go.Proofs.Ytbgfebhhejlakaa.Spec
