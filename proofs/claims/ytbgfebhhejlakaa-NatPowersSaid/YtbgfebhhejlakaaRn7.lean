/- The document's numbers, walked: inverses. -/
import Derived.Test.YtbgfebhhejlakaaRn6
import Derived.Test.YtbgfebhhejlakaaNat13
set_option linter.unusedVariables false
set_option linter.unusedSimpArgs false
namespace Go.Proofs.Ytbgfebhhejlakaa.Spec
open Go Go.RowKit Go.Proofs Go.Proofs.Ytbgfebhhejlakaa.Eng Go.Proofs.Ytbgfebhhejlakaa.Code Go.Proofs.Ytbgfebhhejlakaa.Big
set_option maxRecDepth 100000
attribute [local irreducible] callK S.W opsW scrW

/-- A value that stands for a number, by digits. -/
def Dv (w : World) (v : Value) (x : Int) : Prop := 0 ≤ x ∧ Vw .u64 w v (Dg.digs x)
theorem Dv.nb {w w' : World} {v : Value} {x : Int} (h : Dv w v x) (f : Fr w w' nob) : Dv w' v x := ⟨h.1, h.2.nb f⟩
theorem ddigs_one : Dg.digs 1 = [1] := by
  have h : Dg.Can [1] := ⟨fun x h => by simp at h; omega, .inr (by decide)⟩
  exact (h.eq (by decide)).symm
theorem Dv.one {w w' : World} (h : New w w' (nums .u64 [1])) : Dv w' (.slice (some ⟨w.heap.size, 0, none⟩) 1 1) 1 := ⟨by decide, by rw [ddigs_one]; exact h.vw rfl⟩
theorem Dv.nil (w : World) : Dv w (.slice none 0 0) 0 := ⟨Int.le_refl _, by rw [Dg.digs_zero]; exact Vw.nil _ _⟩
theorem Dv.slice {w : World} {v : Value} {x : Int} (h : Dv w v x) : ∃ B d, v = .slice B (Dg.digs x).length d := by
  obtain ⟨_, B, d, e, _⟩ := h
  exact ⟨B, d, e⟩
theorem ddm {w : World} {va vb : Value} {x y : Int} (ha : Dv w va x) (hb : Dv w vb y) (h1 : (Dg.digs x).length ≤ 16777000) (h2 : (Dg.digs y).length ≤ 16777000) (hy : 0 < y) (K : Value → World → Prop)
    (hK : ∀ u v w', Fr w w' nob → Dv w' u (x / y) → Dv w' v (x % y) → K (.tuple #[u, v]) w') : callK Try.prog 62 [va, vb] w K := by
  refine ddivmod_vw ha.2 hb.2 (Dg.digs_lim _) (by omega) h2 hy K fun u v w' g h => ?_
  rw [Dg.digs_val ha.1] at g h
  exact hK u v w' g.fr ⟨Int.ediv_nonneg ha.1 (by omega), g.vw⟩ ⟨(mod_bd hy).1, h⟩
/-- What is kept from round to round. -/
structure EuD (A M : Int) (w0 w : World) (vr vs vx vy : Value) (R S X Y : Int) : Prop where
  r : Dv w vr R
  s : Dv w vs S
  x : Dv w vx X
  y : Dv w vy Y
  rM : R ≤ M
  sM : S ≤ M
  xM : X ≤ M
  yM : Y ≤ M
  s0 : 0 < S
  dx : M ∣ A * X - R
  dy : M ∣ A * Y - S
  g : Int.gcd S R = Int.gcd A M
  fr : Fr w0 w nob
set_option maxHeartbeats 2000000 in
theorem rinverse_vw {w : World} {va vm : Value} {a m : List Int} (ha : Vw .u32 w va a) (hm : Vw .u32 w vm m) (hA : Lim a) (hM : Lim m) (K : Value → World → Prop)
    (hK : ∀ v w', Gw .u32 w w' v (invR a m).1 → K (.tuple #[v, .int .i64 (invR a m).2]) w') : callK Try.prog 38 [va, vm] w K := by
  have b1 := (val_bd hA).1
  have b3 := (val_bd hM).1
  refine call_of Try.func38 Code.h38 (by simp [Code.c38]) ?_
  simp (disch := omega) only [EO, ↓EP, EQ, EM, ↓reduceIte, Int.reduceAdd, Int.reduceEq, Int.reduceLE, Int.reduceLT, Int.reduceMul, Int.reduceNeg, Int.reducePow, Int.reduceSub, Int.reduceToNat, Nat.reduceAdd, Nat.reduceEqDiff, Nat.reduceLT, Nat.reduceLeDiff, Nat.reduceMul, reduceCtorEq, Code.c38]
  refine rlong_vw ha hm 512 (by omega) _ fun b hb' => ?_
  by_cases h512 : 512 < a.length ∨ 512 < m.length
  · have e' : invR a m = ([], 3) := by unfold invR; rw [if_pos (by omega)]
    rw [e'] at hK
    have hbt : b = true := hb'.2 (by omega)
    simp (disch := omega) only [EO, ↓EP, EQ, EM, ↓reduceIte, Int.reduceAdd, Int.reduceEq, Int.reduceLE, Int.reduceLT, Int.reduceMul, Int.reduceNeg, Int.reducePow, Int.reduceSub, Int.reduceToNat, Nat.reduceAdd, Nat.reduceEqDiff, Nat.reduceLT, Nat.reduceLeDiff, Nat.reduceMul, reduceCtorEq, hbt]
    exact hK _ w (Gw.nil _ _)
  have hbf : b = false := by
    cases b with
    | false => rfl
    | true => exfalso; have := hb'.1 rfl; omega
  simp (disch := omega) only [EO, ↓EP, EQ, EM, ↓reduceIte, Int.reduceAdd, Int.reduceEq, Int.reduceLE, Int.reduceLT, Int.reduceMul, Int.reduceNeg, Int.reducePow, Int.reduceSub, Int.reduceToNat, Nat.reduceAdd, Nat.reduceEqDiff, Nat.reduceLT, Nat.reduceLeDiff, Nat.reduceMul, reduceCtorEq, hbf]
  have k1 := digs_vl hA (n := 512) (by omega)
  have k2 := digs_vl hM (n := 512) (by omega)
  refine digits_vw hm hM (by omega) _ fun vd w1 g1 => ?_
  have qs := Gw.slice g1
  obtain ⟨A1, c1, e1⟩ := qs
  by_cases h0 : val m = 0
  · have e' : invR a m = ([], 11) := by unfold invR; rw [if_neg (by omega), if_pos h0]
    rw [e'] at hK
    have hz := (digs_zero_iff b3).2 h0
    simp (disch := omega) only [EO, ↓EP, EQ, EM, ↓reduceIte, Int.reduceAdd, Int.reduceEq, Int.reduceLE, Int.reduceLT, Int.reduceMul, Int.reduceNeg, Int.reducePow, Int.reduceSub, Int.reduceToNat, Nat.reduceAdd, Nat.reduceEqDiff, Nat.reduceLT, Nat.reduceLeDiff, Nat.reduceMul, reduceCtorEq, e1, hz, Int.natCast_zero]
    exact hK _ w1 ((Gw.nil _ _).from g1.fr)
  have hsome := fun y => invR_some (a := a) (m := m) (y := y) h512 h0
  have hnone := invR_none (a := a) (m := m) h512 h0
  have hM0 : 0 < val m := by omega
  have hne : ((((Dg.digs (val m)).length : Nat) : Int) = 0) = False := eq_false fun h => h0 ((digs_zero_iff b3).1 (by omega))
  simp (disch := omega) only [EO, ↓EP, EQ, EM, ↓reduceIte, Int.reduceAdd, Int.reduceEq, Int.reduceLE, Int.reduceLT, Int.reduceMul, Int.reduceNeg, Int.reducePow, Int.reduceSub, Int.reduceToNat, Nat.reduceAdd, Nat.reduceEqDiff, Nat.reduceLT, Nat.reduceLeDiff, Nat.reduceMul, reduceCtorEq, e1, hne]
  try rw [← e1]
  refine digits_vw (ha.nb g1.fr) hA (by omega) _ fun v2 w2 g2 => ?_
  have hd2 : Dv w2 vd (val m) := ⟨b3, g1.vw.nb g2.fr⟩
  simp (disch := omega) only [EO, ↓EP, EQ, EM, ↓reduceIte, Int.reduceAdd, Int.reduceEq, Int.reduceLE, Int.reduceLT, Int.reduceMul, Int.reduceNeg, Int.reducePow, Int.reduceSub, Int.reduceToNat, Nat.reduceAdd, Nat.reduceEqDiff, Nat.reduceLT, Nat.reduceLeDiff, Nat.reduceMul, reduceCtorEq]
  refine ddm ⟨b1, g2.vw⟩ hd2 (by omega) (by omega) hM0 _ fun u4 v4 w4 f4 _ h4 => ?_
  have fd := (g1.fr.nb g2.fr).nb f4
  have hd4 := hd2.nb f4
  simp (disch := omega) only [EO, ↓EP, EQ, EM, ↓reduceIte, Int.reduceAdd, Int.reduceEq, Int.reduceLE, Int.reduceLT, Int.reduceMul, Int.reduceNeg, Int.reducePow, Int.reduceSub, Int.reduceToNat, Nat.reduceAdd, Nat.reduceEqDiff, Nat.reduceLT, Nat.reduceLeDiff, Nat.reduceMul, reduceCtorEq]
  refine bsl1 fun w6 n6 => ?_
  have f6 := fd.nb (n6.fr nob)
  have hd6 := hd4.nb (n6.fr nob)
  have hr6 := h4.nb (n6.fr nob)
  have hx6 := Dv.one n6
  have hy6 := Dv.nil w6
  have qM : ∃ M, M = val m := ⟨_, rfl⟩
  obtain ⟨M, hMv⟩ := qM
  have qA : ∃ A, A = val a := ⟨_, rfl⟩
  obtain ⟨A, hAv⟩ := qA
  rw [← hMv] at hd6 hr6 hM0 hsome hnone k2
  rw [← hAv] at hr6 hsome hnone b1
  have hbd := mod_bd (a := A) hM0
  have E6 : EuD A M w w6 v4 vd (.slice (some ⟨w4.heap.size, 0, none⟩) 1 1) (.slice none 0 0) (A % M) M 1 0 :=
    ⟨hr6, hd6, hx6, hy6, by omega, Int.le_refl _, by omega, by omega, hM0, ⟨A / M, by have := Int.mul_ediv_add_emod A M; grind⟩, ⟨-1, by grind⟩, by rw [gcd_mod b1 hM0], f6⟩
  clear g1 g2 n6 fd hd2 hd4 h4 hr6 hx6 hy6 f4
  simp (disch := omega) only [EO, ↓EP, EQ, EM, ↓reduceIte, Int.reduceAdd, Int.reduceEq, Int.reduceLE, Int.reduceLT, Int.reduceMul, Int.reduceNeg, Int.reducePow, Int.reduceSub, Int.reduceToNat, Nat.reduceAdd, Nat.reduceEqDiff, Nat.reduceLT, Nat.reduceLeDiff, Nat.reduceMul, reduceCtorEq]
  refine loop_inv (fun t ρ w' => ∃ vr vs vx vy R S X Y, ρ 8 = vr ∧ ρ 9 = vs ∧ ρ 10 = vx ∧ ρ 11 = vy ∧ t = R.toNat ∧ Fr w6 w' nob ∧ EuD A M w w' vr vs vx vy R S X Y) _
    ⟨_, _, _, _, _, _, _, _, by simp (disch := omega) only [EO, ↓EP, EQ, EM, ↓reduceIte, Int.reduceAdd, Int.reduceEq, Int.reduceLE, Int.reduceLT, Int.reduceMul, Int.reduceNeg, Int.reducePow, Int.reduceSub, Int.reduceToNat, Nat.reduceAdd, Nat.reduceEqDiff, Nat.reduceLT, Nat.reduceLeDiff, Nat.reduceMul, reduceCtorEq], by simp (disch := omega) only [EO, ↓EP, EQ, EM, ↓reduceIte, Int.reduceAdd, Int.reduceEq, Int.reduceLE, Int.reduceLT, Int.reduceMul, Int.reduceNeg, Int.reducePow, Int.reduceSub, Int.reduceToNat, Nat.reduceAdd, Nat.reduceEqDiff, Nat.reduceLT, Nat.reduceLeDiff, Nat.reduceMul, reduceCtorEq], by simp (disch := omega) only [EO, ↓EP, EQ, EM, ↓reduceIte, Int.reduceAdd, Int.reduceEq, Int.reduceLE, Int.reduceLT, Int.reduceMul, Int.reduceNeg, Int.reducePow, Int.reduceSub, Int.reduceToNat, Nat.reduceAdd, Nat.reduceEqDiff, Nat.reduceLT, Nat.reduceLeDiff, Nat.reduceMul, reduceCtorEq], by simp (disch := omega) only [EO, ↓EP, EQ, EM, ↓reduceIte, Int.reduceAdd, Int.reduceEq, Int.reduceLE, Int.reduceLT, Int.reduceMul, Int.reduceNeg, Int.reducePow, Int.reduceSub, Int.reduceToNat, Nat.reduceAdd, Nat.reduceEqDiff, Nat.reduceLT, Nat.reduceLeDiff, Nat.reduceMul, reduceCtorEq], rfl, Fr.refl _ _, E6⟩ ?_
  rintro t ρ w7 hf ⟨vr, vs, vx, vy, R, S, X, Y, h8, h9, h10, h11, rfl, f7, E⟩ N hN
  have q6 : ρ 6 = vd := by rw [hf 6 rfl]; simp (disch := omega) only [EO, ↓EP, EQ, EM, ↓reduceIte, Int.reduceAdd, Int.reduceEq, Int.reduceLE, Int.reduceLT, Int.reduceMul, Int.reduceNeg, Int.reducePow, Int.reduceSub, Int.reduceToNat, Nat.reduceAdd, Nat.reduceEqDiff, Nat.reduceLT, Nat.reduceLeDiff, Nat.reduceMul, reduceCtorEq]
  clear hf
  have hdw := hd6.nb f7
  have lM : (Dg.digs M).length ≤ 1024 := by omega
  have lR := dlen_mono E.r.1 E.rM
  have lS := dlen_mono E.s.1 E.sM
  have lX := dlen_mono E.x.1 E.xM
  have lY := dlen_mono E.y.1 E.yM
  have qsr := E.r.slice
  obtain ⟨Ar, cr, er⟩ := qsr
  by_cases hR0 : R = 0
  · have Eg := E.g
    rw [hR0] at Eg
    have hz : (Dg.digs R).length = 0 := (digs_zero_iff E.r.1).2 hR0
    simp (disch := omega) only [EO, ↓EP, EQ, EM, ↓reduceIte, Int.reduceAdd, Int.reduceEq, Int.reduceLE, Int.reduceLT, Int.reduceMul, Int.reduceNeg, Int.reducePow, Int.reduceSub, Int.reduceToNat, Nat.reduceAdd, Nat.reduceEqDiff, Nat.reduceLT, Nat.reduceLeDiff, Nat.reduceMul, reduceCtorEq, h8, h9, h10, h11, q6, er, hz, Int.natCast_zero]
    refine bsl1 fun w8 n8 => ?_
    have f8 := E.fr.nb (n8.fr nob)
    simp (disch := omega) only [EO, ↓EP, EQ, EM, ↓reduceIte, Int.reduceAdd, Int.reduceEq, Int.reduceLE, Int.reduceLT, Int.reduceMul, Int.reduceNeg, Int.reducePow, Int.reduceSub, Int.reduceToNat, Nat.reduceAdd, Nat.reduceEqDiff, Nat.reduceLT, Nat.reduceLeDiff, Nat.reduceMul, reduceCtorEq, h8, h9, h10, h11, q6]
    refine order_vw (E.s.nb (n8.fr nob)).2 (Dv.one n8).2 (Dg.digs_lim _) (Dg.digs_lim _) (by omega) (by rw [ddigs_one]; simp) _ fun c c1 c2 c3 => ?_
    rw [Dg.digs_val E.s.1, Dg.digs_val (by decide)] at c1 c2 c3
    by_cases hS1 : S = 1
    · have hc0 := c2 hS1
      simp (disch := omega) only [EO, ↓EP, EQ, EM, ↓reduceIte, Int.reduceAdd, Int.reduceEq, Int.reduceLE, Int.reduceLT, Int.reduceMul, Int.reduceNeg, Int.reducePow, Int.reduceSub, Int.reduceToNat, Nat.reduceAdd, Nat.reduceEqDiff, Nat.reduceLT, Nat.reduceLeDiff, Nat.reduceMul, reduceCtorEq, hc0, h8, h9, h10, h11, q6]
      refine ddm (E.y.nb (n8.fr nob)) (hdw.nb (n8.fr nob)) (by omega) (by omega) hM0 _ fun u10 v10 w10 f10 _ hy10 => ?_
      simp (disch := omega) only [EO, ↓EP, EQ, EM, ↓reduceIte, Int.reduceAdd, Int.reduceEq, Int.reduceLE, Int.reduceLT, Int.reduceMul, Int.reduceNeg, Int.reducePow, Int.reduceSub, Int.reduceToNat, Nat.reduceAdd, Nat.reduceEqDiff, Nat.reduceLT, Nat.reduceLeDiff, Nat.reduceMul, reduceCtorEq, h8, h9, h10, h11, q6]
      have hlY := dlen_mono (mod_bd (a := Y) hM0).1 (show Y % M ≤ M by have := (mod_bd (a := Y) hM0).2; omega)
      refine limbs_vw hy10.2 (Dg.digs_lim _) (by omega) _ fun v11 w11 g11 => ?_
      rw [Dg.digs_val hy10.1] at g11
      have hinv : isInv A M (Y % M) := by
        refine ⟨(mod_bd hM0).1, (mod_bd hM0).2, ?_⟩
        obtain ⟨u, hu⟩ := E.dy
        rw [hS1] at hu
        have e1 := Int.mul_ediv_add_emod Y M
        exact ⟨u - A * (Y / M), by grind⟩
      rw [hsome _ hinv] at hK
      simp (disch := omega) only [EO, ↓EP, EQ, EM, ↓reduceIte, Int.reduceAdd, Int.reduceEq, Int.reduceLE, Int.reduceLT, Int.reduceMul, Int.reduceNeg, Int.reducePow, Int.reduceSub, Int.reduceToNat, Nat.reduceAdd, Nat.reduceEqDiff, Nat.reduceLT, Nat.reduceLeDiff, Nat.reduceMul, reduceCtorEq]
      exact hK v11 w11 (g11.from (f8.nb f10))
    · have hs0 := E.s0
      have hne1 : (c = 0) = False := eq_false (by have := c3 (by omega); omega)
      rw [hnone fun y => no_inv Eg E.s0 hS1] at hK
      simp (disch := omega) only [EO, ↓EP, EQ, EM, ↓reduceIte, Int.reduceAdd, Int.reduceEq, Int.reduceLE, Int.reduceLT, Int.reduceMul, Int.reduceNeg, Int.reducePow, Int.reduceSub, Int.reduceToNat, Nat.reduceAdd, Nat.reduceEqDiff, Nat.reduceLT, Nat.reduceLeDiff, Nat.reduceMul, reduceCtorEq, hne1]
      exact hK _ w8 ((Gw.nil _ _).from f8)
  have hRp : 0 < R := by have := E.r.1; omega
  have hz : 0 < (Dg.digs R).length := by
    rcases Nat.eq_zero_or_pos (Dg.digs R).length with h | h
    · exact absurd ((digs_zero_iff E.r.1).1 h) hR0
    · exact h
  simp (disch := omega) only [EO, ↓EP, EQ, EM, ↓reduceIte, Int.reduceAdd, Int.reduceEq, Int.reduceLE, Int.reduceLT, Int.reduceMul, Int.reduceNeg, Int.reducePow, Int.reduceSub, Int.reduceToNat, Nat.reduceAdd, Nat.reduceEqDiff, Nat.reduceLT, Nat.reduceLeDiff, Nat.reduceMul, reduceCtorEq, h8, h9, h10, h11, q6, er]
  try rw [← er]
  refine ddm E.s E.r (by omega) (by omega) hRp _ fun vq v8 w8 f8 hq8 hrest => ?_
  have hQS := Int.ediv_le_self R E.s.1
  have lQ := dlen_mono hq8.1 hQS
  simp (disch := omega) only [EO, ↓EP, EQ, EM, ↓reduceIte, Int.reduceAdd, Int.reduceEq, Int.reduceLE, Int.reduceLT, Int.reduceMul, Int.reduceNeg, Int.reducePow, Int.reduceSub, Int.reduceToNat, Nat.reduceAdd, Nat.reduceEqDiff, Nat.reduceLT, Nat.reduceLeDiff, Nat.reduceMul, reduceCtorEq, h8, h9, h10, h11, q6]
  refine dmul_vw hq8.2 (E.x.nb f8).2 (Dg.digs_lim _) (Dg.digs_lim _) (by omega) (by omega) _ fun vp w9 g9 => ?_
  rw [Dg.digs_val hq8.1, Dg.digs_val E.x.1] at g9
  have hQX := Int.mul_nonneg hq8.1 E.x.1
  have lQX : (Dg.digs (S / R * X)).length ≤ 2048 + 2048 := by
    have hx := E.xM
    have hs := E.sM
    refine (Dg.digs_len hQX).2 ?_
    rw [Dg.pw_add]
    have hm1 : M < Dg.pw 2048 := (Dg.digs_len (show 0 ≤ M by omega)).1 (by omega)
    have hx0 := E.x.1
    have hp := Dg.pw_pos 2048
    calc S / R * X ≤ S / R * Dg.pw 2048 := Int.mul_le_mul_of_nonneg_left (by omega) hq8.1
      _ < Dg.pw 2048 * Dg.pw 2048 := Int.mul_lt_mul_of_pos_right (by omega) hp
  simp (disch := omega) only [EO, ↓EP, EQ, EM, ↓reduceIte, Int.reduceAdd, Int.reduceEq, Int.reduceLE, Int.reduceLT, Int.reduceMul, Int.reduceNeg, Int.reducePow, Int.reduceSub, Int.reduceToNat, Nat.reduceAdd, Nat.reduceEqDiff, Nat.reduceLT, Nat.reduceLeDiff, Nat.reduceMul, reduceCtorEq, h8, h9, h10, h11, q6]
  refine ddm ⟨hQX, g9.vw⟩ ((hdw.nb f8).nb g9.fr) (by omega) (by omega) hM0 _ fun _ vt w10 f10 _ ht => ?_
  have hT := mod_bd (a := S / R * X) hM0
  have qT : ∃ T, T = S / R * X % M := ⟨_, rfl⟩
  obtain ⟨T, hTv⟩ := qT
  have hst := euclid_step E.dx E.dy
  rw [← hTv] at hT ht hst
  have lT := dlen_mono hT.1 (show T ≤ M by omega)
  have f70 := (f8.nb g9.fr).nb f10
  have hgcd := (gcd_mod E.s.1 hRp).trans E.g
  have hrm := mod_bd (a := S) hRp
  have rM := E.rM
  have yM := E.yM
  have y0 := E.y.1
  have hdM := hdw.nb f70
  simp (disch := omega) only [EO, ↓EP, EQ, EM, ↓reduceIte, Int.reduceAdd, Int.reduceEq, Int.reduceLE, Int.reduceLT, Int.reduceMul, Int.reduceNeg, Int.reducePow, Int.reduceSub, Int.reduceToNat, Nat.reduceAdd, Nat.reduceEqDiff, Nat.reduceLT, Nat.reduceLeDiff, Nat.reduceMul, reduceCtorEq, h8, h9, h10, h11, q6]
  refine dsub_vw hdM.2 ht.2 (Dg.digs_lim _) (Dg.digs_lim _) (by omega) (by omega) (by rw [Dg.digs_val hT.1, Dg.digs_val hdM.1]; omega) _ fun v11 w11 g11 => ?_
  rw [Dg.digs_val hT.1, Dg.digs_val hdM.1] at g11
  have lMT := dlen_mono (show 0 ≤ M - T by omega) (show M - T ≤ M by omega)
  simp (disch := omega) only [EO, ↓EP, EQ, EM, ↓reduceIte, Int.reduceAdd, Int.reduceEq, Int.reduceLE, Int.reduceLT, Int.reduceMul, Int.reduceNeg, Int.reducePow, Int.reduceSub, Int.reduceToNat, Nat.reduceAdd, Nat.reduceEqDiff, Nat.reduceLT, Nat.reduceLeDiff, Nat.reduceMul, reduceCtorEq, h8, h9, h10, h11, q6]
  refine dadd_vw (E.y.nb (f70.nb g11.fr)).2 g11.vw (Dg.digs_lim _) (Dg.digs_lim _) (by omega) (by omega) _ fun v12 w12 g12 => ?_
  rw [Dg.digs_val y0, Dg.digs_val (by omega)] at g12
  have f72 := (f70.nb g11.fr).nb g12.fr
  have lU : (Dg.digs (Y + (M - T))).length ≤ 2049 := by
    refine (Dg.digs_len (by omega)).2 ?_
    have hm1 : M < Dg.pw 2048 := (Dg.digs_len (show 0 ≤ M by omega)).1 (by omega)
    rw [Dg.pw_succ]
    omega
  simp (disch := omega) only [EO, ↓EP, EQ, EM, ↓reduceIte, Int.reduceAdd, Int.reduceEq, Int.reduceLE, Int.reduceLT, Int.reduceMul, Int.reduceNeg, Int.reducePow, Int.reduceSub, Int.reduceToNat, Nat.reduceAdd, Nat.reduceEqDiff, Nat.reduceLT, Nat.reduceLeDiff, Nat.reduceMul, reduceCtorEq, h8, h9, h10, h11, q6]
  refine ddm ⟨by omega, g12.vw⟩ (hdw.nb f72) (by omega) (by omega) hM0 _ fun _ vu w13 f13 _ hu => ?_
  have hU := mod_bd (a := Y + (M - T)) hM0
  have f73 := f72.nb f13
  simp (disch := omega) only [EO, ↓EP, EQ, EM, ↓reduceIte, Int.reduceAdd, Int.reduceEq, Int.reduceLE, Int.reduceLT, Int.reduceMul, Int.reduceNeg, Int.reducePow, Int.reduceSub, Int.reduceToNat, Nat.reduceAdd, Nat.reduceEqDiff, Nat.reduceLT, Nat.reduceLeDiff, Nat.reduceMul, reduceCtorEq, h8, h9, h10, h11, q6]
  refine hN (S % R).toNat _ _ (by omega) ⟨v8, vr, vu, vx, S % R, R, (Y + (M - T)) % M, X, by simp (disch := omega) only [EO, ↓EP, EQ, EM, ↓reduceIte, Int.reduceAdd, Int.reduceEq, Int.reduceLE, Int.reduceLT, Int.reduceMul, Int.reduceNeg, Int.reducePow, Int.reduceSub, Int.reduceToNat, Nat.reduceAdd, Nat.reduceEqDiff, Nat.reduceLT, Nat.reduceLeDiff, Nat.reduceMul, reduceCtorEq], by simp (disch := omega) only [EO, ↓EP, EQ, EM, ↓reduceIte, Int.reduceAdd, Int.reduceEq, Int.reduceLE, Int.reduceLT, Int.reduceMul, Int.reduceNeg, Int.reducePow, Int.reduceSub, Int.reduceToNat, Nat.reduceAdd, Nat.reduceEqDiff, Nat.reduceLT, Nat.reduceLeDiff, Nat.reduceMul, reduceCtorEq], by simp (disch := omega) only [EO, ↓EP, EQ, EM, ↓reduceIte, Int.reduceAdd, Int.reduceEq, Int.reduceLE, Int.reduceLT, Int.reduceMul, Int.reduceNeg, Int.reducePow, Int.reduceSub, Int.reduceToNat, Nat.reduceAdd, Nat.reduceEqDiff, Nat.reduceLT, Nat.reduceLeDiff, Nat.reduceMul, reduceCtorEq], by simp (disch := omega) only [EO, ↓EP, EQ, EM, ↓reduceIte, Int.reduceAdd, Int.reduceEq, Int.reduceLE, Int.reduceLT, Int.reduceMul, Int.reduceNeg, Int.reducePow, Int.reduceSub, Int.reduceToNat, Nat.reduceAdd, Nat.reduceEqDiff, Nat.reduceLT, Nat.reduceLeDiff, Nat.reduceMul, reduceCtorEq], rfl, f7.nb f73, ?_⟩
  refine ⟨hrest.nb ((((g9.fr.nb f10).nb g11.fr).nb g12.fr).nb f13), E.r.nb f73, hu, E.x.nb f73, by omega, E.rM, by omega, E.xM, hRp, ?_, E.dx, hgcd, E.fr.nb f73⟩
  obtain ⟨u, hu'⟩ := hst
  have e2 := Int.mul_ediv_add_emod (Y + (M - T)) M
  exact ⟨u + A - A * ((Y + (M - T)) / M), by grind⟩
end Go.Proofs.Ytbgfebhhejlakaa.Spec
