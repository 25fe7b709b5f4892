/- Numbers by limbs: powers modulo a number, walked. -/
import Derived.Test.YtbgfebhhejlakaaNat11
set_option linter.unusedVariables false
set_option linter.unusedSimpArgs false
namespace Go.Proofs.Ytbgfebhhejlakaa.Spec
open Go Go.RowKit Go.Proofs Go.Proofs.Ytbgfebhhejlakaa.Eng Go.Proofs.Ytbgfebhhejlakaa.Code Go.Proofs.Ytbgfebhhejlakaa.Big
set_option maxRecDepth 100000
attribute [local irreducible] callK S.W opsW scrW

/-- A value that stands for a number, and lies in none of some blocks. -/
def Nr (w : World) (v : Value) (x : Int) (P : Nat → Prop) : Prop := 0 ≤ x ∧ ∃ A c, v = .slice A (limbs x).length c ∧ (limbs x).length ≤ c ∧ RO .u32 w A (limbs x) P
theorem Nr.nv {w : World} {v : Value} {x : Int} {P : Nat → Prop} (h : Nr w v x P) : Nv w v x := by
  obtain ⟨h0, A, c, e, hc, hr⟩ := h
  exact ⟨h0, A, c, e, hc, hr.rd⟩
theorem Nr.fr {w w' : World} {v : Value} {x : Int} {P : Nat → Prop} (h : Nr w v x P) (f : Fr w w' P) : Nr w' v x P := by
  obtain ⟨h0, A, c, e, hc, hr⟩ := h
  exact ⟨h0, A, c, e, hc, hr.fr f⟩
theorem Nv.nr {w : World} {v : Value} {x : Int} {P : Nat → Prop} (h : Nv w v x) (hp : ∀ b, b < w.heap.size → ¬ P b) : Nr w v x P := by
  obtain ⟨h0, A, c, e, hc, hr⟩ := h
  refine ⟨h0, A, c, e, hc, ?_⟩
  rcases hr with hn | ⟨p, hA, hlt, hcl⟩
  · exact .inl (nums_isNil hn)
  · exact .inr ⟨p, hA, hlt, hp _ hlt, hcl⟩
theorem gw_nr {w0 w : World} {v : Value} {x : Int} {P : Nat → Prop} (g : Gw .u32 w0 w v (limbs x)) (h0 : 0 ≤ x) (hp : ∀ b, w0.heap.size ≤ b → ¬ P b) : Nr w v x P := by
  refine ⟨h0, ?_⟩
  obtain ⟨A, c, e, hc, hr, hb⟩ := g.sl.read
  refine ⟨A, c, e, hc, ?_⟩
  rcases hr with hn | ⟨p, hA, hlt, hcl⟩
  · exact .inl (nums_isNil hn)
  · exact .inr ⟨p, hA, hlt, hp _ (g.up _ (hb p hA)), hcl⟩
/-- The row of small powers. -/
structure Rw (w : World) (rb : Nat) (rv : List Value) (B M : Int) (k : Nat) : Prop where
  blk : Blk w rb rv
  len : rv.length = 16
  each : ∀ i, i ≤ k → ∃ v, rv[i]? = some v ∧ Nr w v (B ^ i % M) (fun b => b = rb)
theorem Rw.nb {w w' : World} {rb : Nat} {rv : List Value} {B M : Int} {k : Nat} (h : Rw w rb rv B M k) (f : Fr w w' nob) : Rw w' rb rv B M k :=
  ⟨h.blk.nb f, h.len, fun i hi => by obtain ⟨v, e, hv⟩ := h.each i hi; exact ⟨v, e, hv.fr (f.any _)⟩⟩
theorem and15 {x : Int} (h0 : 0 ≤ x) (h1 : x < 4294967296) : bits .and .u32 x 15 = x % 16 := by
  rw [u32_and _ _ (by omega) (by omega) (by omega) (by omega)]
  have := Nat.and_two_pow_sub_one_eq_mod x.toNat 4
  rw [show (15 : Int).toNat = 2 ^ 4 - 1 by rfl, this]
  omega
theorem nib_of {e : List Int} (hL : Lim e) (i : Nat) : at' e (i / 8 : Nat) / 2 ^ (4 * (i % 8)) % 16 = (((val e).toNat / 16 ^ i % 16 : Nat) : Int) := by
  rw [limb_bits hL]
  have h0 := (val_bd hL).1
  obtain ⟨E, hE⟩ := Int.eq_ofNat_of_zero_le h0
  rw [hE, Int.toNat_natCast]
  push_cast
  rfl
theorem len_mod {a m : Int} (hm : 0 < m) : (limbs (a % m)).length ≤ (limbs m).length := len_mono (mod_bd hm).1 (by have := (mod_bd (a := a) hm).2; omega)
theorem pmb {B M : Int} (hB : 0 ≤ B) (hM : 0 < M) (n : Nat) : 0 ≤ B ^ n % M := (mod_bd hM).1
set_option maxHeartbeats 2000000 in
theorem expmod_vw {w : World} {vb ve vm : Value} {b e m : List Int} (hb : Vw .u32 w vb b) (he : Vw .u32 w ve e) (hm : Vw .u32 w vm m) (hB : Lim b) (hE : Lim e) (hM : Lim m) (K : Value → World → Prop)
    (hK : ∀ v w', Gw .u32 w w' v (powR b e m).1 → K (.tuple #[v, .int .i64 (powR b e m).2]) w') : callK Try.prog 35 [vb, ve, vm] w K := by
  obtain ⟨A1, c1, rfl, hc1, hr1⟩ := hb
  obtain ⟨A2, c2, rfl, hc2, hr2⟩ := he
  obtain ⟨A3, c3, rfl, hc3, hr3⟩ := hm
  have b1 := (val_bd hB).1
  have b2 := (val_bd hE).1
  have b3 := (val_bd hM).1
  refine call_of Try.func35 Code.h35 (by simp [Code.c35]) ?_
  simp (disch := omega) only [EO, ↓EP, EQ, EM, ↓reduceIte, Int.reduceAdd, Int.reduceEq, Int.reduceLE, Int.reduceLT, Int.reduceMul, Int.reduceNeg, Int.reducePow, Int.reduceSub, Int.reduceToNat, Nat.reduceAdd, Nat.reduceEqDiff, Nat.reduceLT, Nat.reduceLeDiff, Nat.reduceMul, reduceCtorEq, W_join, Code.c35]
  refine bslS1 fun w1 n1 => ?_
  have f1 := n1.fr nob
  simp (disch := omega) only [EO, ↓EP, EQ, EM, ↓reduceIte, Int.reduceAdd, Int.reduceEq, Int.reduceLE, Int.reduceLT, Int.reduceMul, Int.reduceNeg, Int.reducePow, Int.reduceSub, Int.reduceToNat, Nat.reduceAdd, Nat.reduceEqDiff, Nat.reduceLT, Nat.reduceLeDiff, Nat.reduceMul, reduceCtorEq]
  refine long1 n1.rdv (by omega) _ ?_
  by_cases h512 : (512 : Int) < (b.length : Int)
  · have e : powR b e m = ([], 3) := by unfold powR; rw [if_pos (by omega)]
    rw [e] at hK
    simp (disch := omega) only [EO, ↓EP, EQ, EM, ↓reduceIte, Int.reduceAdd, Int.reduceEq, Int.reduceLE, Int.reduceLT, Int.reduceMul, Int.reduceNeg, Int.reducePow, Int.reduceSub, Int.reduceToNat, Nat.reduceAdd, Nat.reduceEqDiff, Nat.reduceLT, Nat.reduceLeDiff, Nat.reduceMul, reduceCtorEq]
    exact hK _ w1 ((Gw.nil _ _).from f1)
  simp (disch := omega) only [EO, ↓EP, EQ, EM, ↓reduceIte, Int.reduceAdd, Int.reduceEq, Int.reduceLE, Int.reduceLT, Int.reduceMul, Int.reduceNeg, Int.reducePow, Int.reduceSub, Int.reduceToNat, Nat.reduceAdd, Nat.reduceEqDiff, Nat.reduceLT, Nat.reduceLeDiff, Nat.reduceMul, reduceCtorEq]
  refine bslS2 fun w2 n2 => ?_
  have f2 := f1.nb (n2.fr nob)
  simp (disch := omega) only [EO, ↓EP, EQ, EM, ↓reduceIte, Int.reduceAdd, Int.reduceEq, Int.reduceLE, Int.reduceLT, Int.reduceMul, Int.reduceNeg, Int.reducePow, Int.reduceSub, Int.reduceToNat, Nat.reduceAdd, Nat.reduceEqDiff, Nat.reduceLT, Nat.reduceLeDiff, Nat.reduceMul, reduceCtorEq]
  refine long2 n2.rdv (by omega) _ ?_
  by_cases h256 : 256 < e.length ∨ 256 < m.length
  · have e' : powR b e m = ([], 3) := by unfold powR; rw [if_pos (by omega)]
    rw [e'] at hK
    have hbb : (decide ((256 : Int) < (e.length : Int)) || decide ((256 : Int) < (m.length : Int))) = true := by simp; omega
    simp (disch := omega) only [EO, ↓EP, EQ, EM, ↓reduceIte, Int.reduceAdd, Int.reduceEq, Int.reduceLE, Int.reduceLT, Int.reduceMul, Int.reduceNeg, Int.reducePow, Int.reduceSub, Int.reduceToNat, Nat.reduceAdd, Nat.reduceEqDiff, Nat.reduceLT, Nat.reduceLeDiff, Nat.reduceMul, reduceCtorEq, hbb]
    exact hK _ w2 ((Gw.nil _ _).from f2)
  have hbb : (decide ((256 : Int) < (e.length : Int)) || decide ((256 : Int) < (m.length : Int))) = false := by simp; omega
  have vm2 : Vw .u32 w2 (.slice A3 m.length c3) m := ⟨A3, c3, rfl, hc3, hr3.nb f2⟩
  have vb2 : Vw .u32 w2 (.slice A1 b.length c1) b := ⟨A1, c1, rfl, hc1, hr1.nb f2⟩
  simp (disch := omega) only [EO, ↓EP, EQ, EM, ↓reduceIte, Int.reduceAdd, Int.reduceEq, Int.reduceLE, Int.reduceLT, Int.reduceMul, Int.reduceNeg, Int.reducePow, Int.reduceSub, Int.reduceToNat, Nat.reduceAdd, Nat.reduceEqDiff, Nat.reduceLT, Nat.reduceLeDiff, Nat.reduceMul, reduceCtorEq, hbb]
  refine bits_vw vm2 hM (by omega) _ ?_
  by_cases h0 : val m = 0
  · have e' : powR b e m = ([], 11) := by unfold powR; rw [if_neg (by omega), if_pos h0]
    rw [e'] at hK
    simp (disch := omega) only [EO, ↓EP, EQ, EM, ↓reduceIte, Int.reduceAdd, Int.reduceEq, Int.reduceLE, Int.reduceLT, Int.reduceMul, Int.reduceNeg, Int.reducePow, Int.reduceSub, Int.reduceToNat, Nat.reduceAdd, Nat.reduceEqDiff, Nat.reduceLT, Nat.reduceLeDiff, Nat.reduceMul, reduceCtorEq, h0, bl_zero, Int.natCast_zero]
    exact hK _ w2 ((Gw.nil _ _).from f2)
  have e' : powR b e m = (limbs (val b ^ (val e).toNat % val m), 0) := by unfold powR; rw [if_neg (by omega), if_neg h0]
  rw [e'] at hK
  clear e'
  have hM0 : 0 < val m := by omega
  obtain ⟨k0, hk0, _, _⟩ := bl_pos hM0
  have hf : (((bl (val m) : Nat) : Int) = 0) = False := eq_false (by omega)
  simp (disch := omega) only [EO, ↓EP, EQ, EM, ↓reduceIte, Int.reduceAdd, Int.reduceEq, Int.reduceLE, Int.reduceLT, Int.reduceMul, Int.reduceNeg, Int.reducePow, Int.reduceSub, Int.reduceToNat, Nat.reduceAdd, Nat.reduceEqDiff, Nat.reduceLT, Nat.reduceLeDiff, Nat.reduceMul, reduceCtorEq, hf]
  refine cut_vw vm2 hM (by omega) _ fun vm3 hm3 => ?_
  have lm := len_val hM
  simp (disch := omega) only [EO, ↓EP, EQ, EM, ↓reduceIte, Int.reduceAdd, Int.reduceEq, Int.reduceLE, Int.reduceLT, Int.reduceMul, Int.reduceNeg, Int.reducePow, Int.reduceSub, Int.reduceToNat, Nat.reduceAdd, Nat.reduceEqDiff, Nat.reduceLT, Nat.reduceLeDiff, Nat.reduceMul, reduceCtorEq]
  refine bsl1 fun w3 n3 => ?_
  have f3 := f2.nb (n3.fr nob)
  have hm4 := hm3.nb (n3.fr nob)
  simp (disch := omega) only [EO, ↓EP, EQ, EM, ↓reduceIte, Int.reduceAdd, Int.reduceEq, Int.reduceLE, Int.reduceLT, Int.reduceMul, Int.reduceNeg, Int.reducePow, Int.reduceSub, Int.reduceToNat, Nat.reduceAdd, Nat.reduceEqDiff, Nat.reduceLT, Nat.reduceLeDiff, Nat.reduceMul, reduceCtorEq]
  refine parts_vw (n3.vw rfl) hm4.2 (Lim.mk (by omega) (by omega) Lim.nil) (limbs_lim _) (by simp) (by omega) (by rw [limbs_val b3]; exact hM0) _ fun u4 v4 w4 _ g4 _ => ?_
  rw [limbs_val b3, val_one] at g4
  have f4 := f3.nb g4.fr
  simp (disch := omega) only [EO, ↓EP, EQ, EM, ↓reduceIte, Int.reduceAdd, Int.reduceEq, Int.reduceLE, Int.reduceLT, Int.reduceMul, Int.reduceNeg, Int.reducePow, Int.reduceSub, Int.reduceToNat, Nat.reduceAdd, Nat.reduceEqDiff, Nat.reduceLT, Nat.reduceLeDiff, Nat.reduceMul, reduceCtorEq]
  refine parts_vw (vb2.nb ((n3.fr nob).nb g4.fr)) (hm4.nb g4.fr).2 hB (limbs_lim _) (by omega) (by omega) (by rw [limbs_val b3]; exact hM0) _ fun u5 v5 w5 _ g5 _ => ?_
  rw [limbs_val b3] at g5
  have f5 := f4.nb g5.fr
  have hbase := g5.nv (mod_bd hM0).1
  have hone := (g4.nv (mod_bd hM0).1).nb g5.fr
  have hm5 := (hm4.nb g4.fr).nb g5.fr
  rw [pm_one (val b)] at hone
  have hexp : Vw .u32 w5 (.slice A2 e.length c2) e := ⟨A2, c2, rfl, hc2, hr2.nb f5⟩
  obtain ⟨M, hMv⟩ : ∃ M, M = val m := ⟨_, rfl⟩
  obtain ⟨B, hBv⟩ : ∃ B, B = val b := ⟨_, rfl⟩
  rw [← hMv] at hm5 hone hbase hM0 hK
  rw [← hBv] at hone hbase hK
  have hlm : (limbs M).length ≤ 256 := by rw [hMv]; omega
  have lmod : ∀ a : Int, (limbs (a % M)).length ≤ 256 := fun a => Nat.le_trans (len_mod hM0) hlm
  clear hm3 hm4 vm2 vb2 g4 g5 n1 n2 n3 hr1 hr3 f1 f2 f3 f4 lm
  simp (disch := omega) only [EO, ↓EP, EQ, EM, ↓reduceIte, Int.reduceAdd, Int.reduceEq, Int.reduceLE, Int.reduceLT, Int.reduceMul, Int.reduceNeg, Int.reducePow, Int.reduceSub, Int.reduceToNat, Nat.reduceAdd, Nat.reduceEqDiff, Nat.reduceLT, Nat.reduceLeDiff, Nat.reduceMul, reduceCtorEq]
  refine al_k (List.replicate 16 (.slice none 0 0)) (by simp) fun w6 n6 => ?_
  have fn := n6.fr nob
  have hlt : ∀ x, x < w5.heap.size → ¬ (x = w5.heap.size) := fun x h e => by omega
  have hm6 : Nr w6 vm3 M (fun x => x = w5.heap.size) := (hm5.nr hlt).fr (fn.any _)
  have hbase6 : Nr w6 v5 (B % M) (fun x => x = w5.heap.size) := (hbase.nr hlt).fr (fn.any _)
  have hone6 : Nr w6 v4 (B ^ 0 % M) (fun x => x = w5.heap.size) := (hone.nr hlt).fr (fn.any _)
  have hexp6 : RO .u32 w6 A2 e (fun x => x = w5.heap.size) := by
    rcases hr2.nb f5 with hn | ⟨p, hA, hl, hc⟩
    · exact .inl (nums_isNil hn)
    · exact (RO.fr (.inr ⟨p, hA, hl, by omega, hc⟩) (fn.any _))
  have hB6 := n6.blk
  have lt6 := hB6.lt
  have f6 := f5.nb fn
  have sz5 := f5.size
  obtain ⟨rb, hrb⟩ : ∃ rb, rb = w5.heap.size := ⟨_, rfl⟩
  simp (disch := omega) only [EO, ↓EP, EQ, EM, ↓reduceIte, Int.reduceAdd, Int.reduceEq, Int.reduceLE, Int.reduceLT, Int.reduceMul, Int.reduceNeg, Int.reducePow, Int.reduceSub, Int.reduceToNat, Nat.reduceAdd, Nat.reduceEqDiff, Nat.reduceLT, Nat.reduceLeDiff, Nat.reduceMul, reduceCtorEq, ← hrb]
  rw [← hrb] at hm6 hbase6 hone6 hexp6 hB6 lt6 sz5
  obtain ⟨A4, c4, e4, hc4, _⟩ := hone6.nv.2
  refine st_one hB6 (by simp) (by rw [e4]; rfl) fun w7 p7 => ?_
  have f67 := p7.fr
  have hR7 : Rw w7 rb ((List.replicate 16 (Value.slice none 0 0)).set 0 v4) B M 0 := ⟨p7.blk, by simp, fun i hi => ⟨v4, by
    have : i = 0 := by omega
    subst this
    simp, by
    have : i = 0 := by omega
    subst this
    exact hone6.fr f67⟩⟩
  have hm7 := hm6.fr f67
  have hbase7 := hbase6.fr f67
  have hone7 := hone6.fr f67
  have hexp7 := hexp6.fr f67
  have f7 := f6.own p7.fr fun b e => by omega
  clear hm6 hbase6 hone6 hexp6 hB6 f67 hm5 hbase hone hexp n6 fn p7
  simp (disch := omega) only [EO, ↓EP, EQ, EM, ↓reduceIte, Int.reduceAdd, Int.reduceEq, Int.reduceLE, Int.reduceLT, Int.reduceMul, Int.reduceNeg, Int.reducePow, Int.reduceSub, Int.reduceToNat, Nat.reduceAdd, Nat.reduceEqDiff, Nat.reduceLT, Nat.reduceLeDiff, Nat.reduceMul, reduceCtorEq]
  refine loop_inv (fun t ρ w' => ∃ (k : Nat) (rv : List Value), ρ 45 = .int .i64 k ∧ k ≤ 15 ∧ t = 15 - k ∧ Rw w' rb rv B M k ∧ Fr w w' nob ∧ Fr w7 w' (fun x => x = rb)) 15
    ⟨0, _, by simp (disch := omega) only [EO, ↓EP, EQ, EM, ↓reduceIte, Int.reduceAdd, Int.reduceEq, Int.reduceLE, Int.reduceLT, Int.reduceMul, Int.reduceNeg, Int.reducePow, Int.reduceSub, Int.reduceToNat, Nat.reduceAdd, Nat.reduceEqDiff, Nat.reduceLT, Nat.reduceLeDiff, Nat.reduceMul, reduceCtorEq], by omega, rfl, hR7, f7, Fr.refl _ _⟩ ?_
  rintro t ρ w8 hf ⟨k, rv, h45, hk, rfl, hR, f8, f78⟩ N hN
  have q1 : ρ 1 = .slice A2 e.length c2 := by rw [hf 1 rfl]; simp (disch := omega) only [EO, ↓EP, EQ, EM, ↓reduceIte, Int.reduceAdd, Int.reduceEq, Int.reduceLE, Int.reduceLT, Int.reduceMul, Int.reduceNeg, Int.reducePow, Int.reduceSub, Int.reduceToNat, Nat.reduceAdd, Nat.reduceEqDiff, Nat.reduceLT, Nat.reduceLeDiff, Nat.reduceMul, reduceCtorEq]
  have q2 : ρ 2 = vm3 := by rw [hf 2 rfl]; simp (disch := omega) only [EO, ↓EP, EQ, EM, ↓reduceIte, Int.reduceAdd, Int.reduceEq, Int.reduceLE, Int.reduceLT, Int.reduceMul, Int.reduceNeg, Int.reducePow, Int.reduceSub, Int.reduceToNat, Nat.reduceAdd, Nat.reduceEqDiff, Nat.reduceLT, Nat.reduceLeDiff, Nat.reduceMul, reduceCtorEq]
  have q9 : ρ 9 = v4 := by rw [hf 9 rfl]; simp (disch := omega) only [EO, ↓EP, EQ, EM, ↓reduceIte, Int.reduceAdd, Int.reduceEq, Int.reduceLE, Int.reduceLT, Int.reduceMul, Int.reduceNeg, Int.reducePow, Int.reduceSub, Int.reduceToNat, Nat.reduceAdd, Nat.reduceEqDiff, Nat.reduceLT, Nat.reduceLeDiff, Nat.reduceMul, reduceCtorEq]
  have q11 : ρ 11 = v5 := by rw [hf 11 rfl]; simp (disch := omega) only [EO, ↓EP, EQ, EM, ↓reduceIte, Int.reduceAdd, Int.reduceEq, Int.reduceLE, Int.reduceLT, Int.reduceMul, Int.reduceNeg, Int.reducePow, Int.reduceSub, Int.reduceToNat, Nat.reduceAdd, Nat.reduceEqDiff, Nat.reduceLT, Nat.reduceLeDiff, Nat.reduceMul, reduceCtorEq]
  have q12 : ρ 12 = .pointer (some ⟨rb, 0, none⟩) := by rw [hf 12 rfl]; simp (disch := omega) only [EO, ↓EP, EQ, EM, ↓reduceIte, Int.reduceAdd, Int.reduceEq, Int.reduceLE, Int.reduceLT, Int.reduceMul, Int.reduceNeg, Int.reducePow, Int.reduceSub, Int.reduceToNat, Nat.reduceAdd, Nat.reduceEqDiff, Nat.reduceLT, Nat.reduceLeDiff, Nat.reduceMul, reduceCtorEq, ← hrb]
  clear hf
  have ltr := hR.blk.lt
  have szr := f8.size
  by_cases hk15 : (k : Int) < 15
  · obtain ⟨v, ev, hv⟩ := hR.each k (Nat.le_refl _)
    obtain ⟨A5, c5, e5, hc5, _⟩ := hv.nv.2
    have cv : w8.cell? ⟨rb, k, none⟩ = some (.slice A5 (limbs (B ^ k % M)).length c5) := by rw [hR.blk.cell?, ev, e5]
    simp (disch := omega) only [EO, ↓EP, EQ, EM, ↓reduceIte, Int.reduceAdd, Int.reduceEq, Int.reduceLE, Int.reduceLT, Int.reduceMul, Int.reduceNeg, Int.reducePow, Int.reduceSub, Int.reduceToNat, Nat.reduceAdd, Nat.reduceEqDiff, Nat.reduceLT, Nat.reduceLeDiff, Nat.reduceMul, reduceCtorEq, h45, q2, q11, q12, cv]
    rw [← e5]
    refine times_nv hv.nv (hbase7.fr f78).nv (hm7.fr f78).nv hM0 (n := 256) (lmod _) (lmod _) hlm (by omega) _ fun v9 w9 g9 => ?_
    rw [pm_succ] at g9
    obtain ⟨A6, c6, e6, _, _⟩ := g9.vw
    have hR9 := hR.nb g9.fr
    simp (disch := omega) only [EO, ↓EP, EQ, EM, ↓reduceIte, Int.reduceAdd, Int.reduceEq, Int.reduceLE, Int.reduceLT, Int.reduceMul, Int.reduceNeg, Int.reducePow, Int.reduceSub, Int.reduceToNat, Nat.reduceAdd, Nat.reduceEqDiff, Nat.reduceLT, Nat.reduceLeDiff, Nat.reduceMul, reduceCtorEq, h45, q12, show ((k : Int) + 1).toNat = k + 1 by omega]
    refine st_one hR9.blk (by rw [hR.len]; omega) (by rw [e6]; rfl) fun w10 p10 => ?_
    have n9 : Nr w9 v9 (B ^ (k + 1) % M) (fun x => x = rb) := gw_nr g9 (mod_bd hM0).1 fun b hb e => by omega
    simp (disch := omega) only [EO, ↓EP, EQ, EM, ↓reduceIte, Int.reduceAdd, Int.reduceEq, Int.reduceLE, Int.reduceLT, Int.reduceMul, Int.reduceNeg, Int.reducePow, Int.reduceSub, Int.reduceToNat, Nat.reduceAdd, Nat.reduceEqDiff, Nat.reduceLT, Nat.reduceLeDiff, Nat.reduceMul, reduceCtorEq, h45]
    refine hN (15 - (k + 1)) _ _ (by omega) ⟨k + 1, _, by simp (disch := omega) only [EO, ↓EP, EQ, EM, ↓reduceIte, Int.reduceAdd, Int.reduceEq, Int.reduceLE, Int.reduceLT, Int.reduceMul, Int.reduceNeg, Int.reducePow, Int.reduceSub, Int.reduceToNat, Nat.reduceAdd, Nat.reduceEqDiff, Nat.reduceLT, Nat.reduceLeDiff, Nat.reduceMul, reduceCtorEq, h45, Int.natCast_add], by omega, rfl, ⟨p10.blk, by rw [List.length_set]; exact hR.len, fun i hi => ?_⟩, (f8.nb g9.fr).own p10.fr fun b e => by omega, (f78.trans (g9.fr.any _) fun _ _ e => e).trans p10.fr fun _ _ e => e⟩
    by_cases hik : i = k + 1
    · subst hik
      exact ⟨v9, by rw [List.getElem?_set_self (by rw [hR.len]; omega)], n9.fr p10.fr⟩
    · obtain ⟨v', e', hv'⟩ := hR9.each i (by omega)
      exact ⟨v', by rw [List.getElem?_set_ne (by omega)]; exact e', hv'.fr p10.fr⟩
  have hk15 : k = 15 := by omega
  subst hk15
  clear hN
  have hexp8 := hexp7.fr f78
  have hm8 := hm7.fr f78
  have hone8 := (hone7.fr f78).nv
  clear hexp7 hm7 hone7 hbase7 hR7 f78 hk15
  have hv8 : Vw .u32 w8 (.slice A2 e.length c2) e := ⟨A2, c2, rfl, hc2, hexp8.rd⟩
  simp (disch := omega) only [EO, ↓EP, EQ, EM, ↓reduceIte, Int.reduceAdd, Int.reduceEq, Int.reduceLE, Int.reduceLT, Int.reduceMul, Int.reduceNeg, Int.reducePow, Int.reduceSub, Int.reduceToNat, Nat.reduceAdd, Nat.reduceEqDiff, Nat.reduceLT, Nat.reduceLeDiff, Nat.reduceMul, reduceCtorEq, h45, q1, q9]
  refine bits_vw hv8 hE (by omega) _ ?_
  have hbl : bl (val e) ≤ 32 * e.length := (bl_le b2).2 (by rw [← pw_p2]; exact (val_bd hE).2)
  obtain ⟨E, hEv⟩ : ∃ E, E = (val e).toNat := ⟨_, rfl⟩
  rw [← hEv] at hK
  have e3 : (((bl (val e) : Nat) : Int) + 3) / 4 * 4 = ((4 * ((bl (val e) + 3) / 4) : Nat) : Int) := by omega
  have hE0 : E / 16 ^ ((bl (val e) + 3) / 4) = 0 := by
    apply Nat.div_eq_of_lt
    have h1 := (bl_le b2 (k := 4 * ((bl (val e) + 3) / 4))).1 (by omega)
    rw [← pow16] at h1
    have h2 : ((16 ^ ((bl (val e) + 3) / 4) : Nat) : Int) = (16 : Int) ^ ((bl (val e) + 3) / 4) := by push_cast; rfl
    omega
  have ht0 : 4 * ((bl (val e) + 3) / 4) < bl (val e) + 4 := by omega
  generalize (bl (val e) + 3) / 4 = t0 at *
  simp (disch := omega) only [EO, ↓EP, EQ, EM, ↓reduceIte, Int.reduceAdd, Int.reduceEq, Int.reduceLE, Int.reduceLT, Int.reduceMul, Int.reduceNeg, Int.reducePow, Int.reduceSub, Int.reduceToNat, Nat.reduceAdd, Nat.reduceEqDiff, Nat.reduceLT, Nat.reduceLeDiff, Nat.reduceMul, reduceCtorEq, e3]
  refine loop_inv (fun t ρ2 w' => ∃ vo, ρ2 15 = .int .i64 ((4 * t : Nat) : Int) ∧ t ≤ t0 ∧ ρ2 14 = vo ∧ Nv w' vo (B ^ (E / 16 ^ t) % M) ∧ Fr w8 w' nob) t0
    ⟨v4, by simp (disch := omega) only [EO, ↓EP, EQ, EM, ↓reduceIte, Int.reduceAdd, Int.reduceEq, Int.reduceLE, Int.reduceLT, Int.reduceMul, Int.reduceNeg, Int.reducePow, Int.reduceSub, Int.reduceToNat, Nat.reduceAdd, Nat.reduceEqDiff, Nat.reduceLT, Nat.reduceLeDiff, Nat.reduceMul, reduceCtorEq, e3], Nat.le_refl _, by simp (disch := omega) only [EO, ↓EP, EQ, EM, ↓reduceIte, Int.reduceAdd, Int.reduceEq, Int.reduceLE, Int.reduceLT, Int.reduceMul, Int.reduceNeg, Int.reducePow, Int.reduceSub, Int.reduceToNat, Nat.reduceAdd, Nat.reduceEqDiff, Nat.reduceLT, Nat.reduceLeDiff, Nat.reduceMul, reduceCtorEq, q9], by rw [hE0]; exact hone8, Fr.refl _ _⟩ ?_
  rintro t ρ2 w9 hf ⟨vo, h15, ht, h14, hvo, f9⟩ N hN
  have p1 : ρ2 1 = .slice A2 e.length c2 := by rw [hf 1 rfl]; simp (disch := omega) only [EO, ↓EP, EQ, EM, ↓reduceIte, Int.reduceAdd, Int.reduceEq, Int.reduceLE, Int.reduceLT, Int.reduceMul, Int.reduceNeg, Int.reducePow, Int.reduceSub, Int.reduceToNat, Nat.reduceAdd, Nat.reduceEqDiff, Nat.reduceLT, Nat.reduceLeDiff, Nat.reduceMul, reduceCtorEq, q1]
  have p2 : ρ2 2 = vm3 := by rw [hf 2 rfl]; simp (disch := omega) only [EO, ↓EP, EQ, EM, ↓reduceIte, Int.reduceAdd, Int.reduceEq, Int.reduceLE, Int.reduceLT, Int.reduceMul, Int.reduceNeg, Int.reducePow, Int.reduceSub, Int.reduceToNat, Nat.reduceAdd, Nat.reduceEqDiff, Nat.reduceLT, Nat.reduceLeDiff, Nat.reduceMul, reduceCtorEq, q2]
  have p12 : ρ2 12 = .pointer (some ⟨rb, 0, none⟩) := by rw [hf 12 rfl]; simp (disch := omega) only [EO, ↓EP, EQ, EM, ↓reduceIte, Int.reduceAdd, Int.reduceEq, Int.reduceLE, Int.reduceLT, Int.reduceMul, Int.reduceNeg, Int.reducePow, Int.reduceSub, Int.reduceToNat, Nat.reduceAdd, Nat.reduceEqDiff, Nat.reduceLT, Nat.reduceLeDiff, Nat.reduceMul, reduceCtorEq, q12]
  clear hf
  cases t with
  | zero =>
    rw [Nat.pow_zero, Nat.div_one] at hvo
    simp (disch := omega) only [EO, ↓EP, EQ, EM, ↓reduceIte, Int.reduceAdd, Int.reduceEq, Int.reduceLE, Int.reduceLT, Int.reduceMul, Int.reduceNeg, Int.reducePow, Int.reduceSub, Int.reduceToNat, Nat.reduceAdd, Nat.reduceEqDiff, Nat.reduceLT, Nat.reduceLeDiff, Nat.reduceMul, reduceCtorEq, h15, h14, Int.natCast_zero, Nat.mul_zero]
    refine trim_vw hvo.2 (limbs_lim _) (by have := lmod (B ^ E); omega) _ fun v10 w10 g10 => ?_
    rw [limbs_val hvo.1] at g10
    simp (disch := omega) only [EO, ↓EP, EQ, EM, ↓reduceIte, Int.reduceAdd, Int.reduceEq, Int.reduceLE, Int.reduceLT, Int.reduceMul, Int.reduceNeg, Int.reducePow, Int.reduceSub, Int.reduceToNat, Nat.reduceAdd, Nat.reduceEqDiff, Nat.reduceLT, Nat.reduceLeDiff, Nat.reduceMul, reduceCtorEq]
    exact hK v10 w10 (g10.from (f8.nb f9))
  | succ i =>
    simp (disch := omega) only [EO, ↓EP, EQ, EM, ↓reduceIte, Int.reduceAdd, Int.reduceEq, Int.reduceLE, Int.reduceLT, Int.reduceMul, Int.reduceNeg, Int.reducePow, Int.reduceSub, Int.reduceToNat, Nat.reduceAdd, Nat.reduceEqDiff, Nat.reduceLT, Nat.reduceLeDiff, Nat.reduceMul, reduceCtorEq, h15]
    refine loop_inv (fun s ρ3 w' => ∃ (j : Nat) (vo : Value), ρ3 68 = .int .i64 j ∧ j ≤ 4 ∧ s = 4 - j ∧ ρ3 14 = vo ∧ Nv w' vo (B ^ (E / 16 ^ (i + 1) * 2 ^ j) % M) ∧ Fr w8 w' nob) 4
      ⟨0, vo, by simp (disch := omega) only [EO, ↓EP, EQ, EM, ↓reduceIte, Int.reduceAdd, Int.reduceEq, Int.reduceLE, Int.reduceLT, Int.reduceMul, Int.reduceNeg, Int.reducePow, Int.reduceSub, Int.reduceToNat, Nat.reduceAdd, Nat.reduceEqDiff, Nat.reduceLT, Nat.reduceLeDiff, Nat.reduceMul, reduceCtorEq], by omega, rfl, by simp (disch := omega) only [EO, ↓EP, EQ, EM, ↓reduceIte, Int.reduceAdd, Int.reduceEq, Int.reduceLE, Int.reduceLT, Int.reduceMul, Int.reduceNeg, Int.reducePow, Int.reduceSub, Int.reduceToNat, Nat.reduceAdd, Nat.reduceEqDiff, Nat.reduceLT, Nat.reduceLeDiff, Nat.reduceMul, reduceCtorEq, h14], by rw [Nat.pow_zero, Nat.mul_one]; exact hvo, f9⟩ ?_
    rintro s ρ3 w10 hf ⟨j, vo2, h68, hj, rfl, h14', hvo2, f10⟩ N2 hN2
    have r1 : ρ3 1 = .slice A2 e.length c2 := by rw [hf 1 rfl]; simp (disch := omega) only [EO, ↓EP, EQ, EM, ↓reduceIte, Int.reduceAdd, Int.reduceEq, Int.reduceLE, Int.reduceLT, Int.reduceMul, Int.reduceNeg, Int.reducePow, Int.reduceSub, Int.reduceToNat, Nat.reduceAdd, Nat.reduceEqDiff, Nat.reduceLT, Nat.reduceLeDiff, Nat.reduceMul, reduceCtorEq, p1]
    have r2 : ρ3 2 = vm3 := by rw [hf 2 rfl]; simp (disch := omega) only [EO, ↓EP, EQ, EM, ↓reduceIte, Int.reduceAdd, Int.reduceEq, Int.reduceLE, Int.reduceLT, Int.reduceMul, Int.reduceNeg, Int.reducePow, Int.reduceSub, Int.reduceToNat, Nat.reduceAdd, Nat.reduceEqDiff, Nat.reduceLT, Nat.reduceLeDiff, Nat.reduceMul, reduceCtorEq, p2]
    have r12 : ρ3 12 = .pointer (some ⟨rb, 0, none⟩) := by rw [hf 12 rfl]; simp (disch := omega) only [EO, ↓EP, EQ, EM, ↓reduceIte, Int.reduceAdd, Int.reduceEq, Int.reduceLE, Int.reduceLT, Int.reduceMul, Int.reduceNeg, Int.reducePow, Int.reduceSub, Int.reduceToNat, Nat.reduceAdd, Nat.reduceEqDiff, Nat.reduceLT, Nat.reduceLeDiff, Nat.reduceMul, reduceCtorEq, p12]
    have r15 : ρ3 15 = .int .i64 ((4 * (i + 1) : Nat) : Int) := by rw [hf 15 rfl]; simp (disch := omega) only [EO, ↓EP, EQ, EM, ↓reduceIte, Int.reduceAdd, Int.reduceEq, Int.reduceLE, Int.reduceLT, Int.reduceMul, Int.reduceNeg, Int.reducePow, Int.reduceSub, Int.reduceToNat, Nat.reduceAdd, Nat.reduceEqDiff, Nat.reduceLT, Nat.reduceLeDiff, Nat.reduceMul, reduceCtorEq, h15]
    clear hf
    have hm10 := (hm8.fr (f10.any _)).nv
    by_cases hj4 : (j : Int) < 4
    · simp (disch := omega) only [EO, ↓EP, EQ, EM, ↓reduceIte, Int.reduceAdd, Int.reduceEq, Int.reduceLE, Int.reduceLT, Int.reduceMul, Int.reduceNeg, Int.reducePow, Int.reduceSub, Int.reduceToNat, Nat.reduceAdd, Nat.reduceEqDiff, Nat.reduceLT, Nat.reduceLeDiff, Nat.reduceMul, reduceCtorEq, h68, h14', r2]
      refine times_nv hvo2 hvo2 hm10 hM0 (n := 256) (lmod _) (lmod _) hlm (by omega) _ fun v11 w11 g11 => ?_
      rw [pm_mul] at g11
      simp (disch := omega) only [EO, ↓EP, EQ, EM, ↓reduceIte, Int.reduceAdd, Int.reduceEq, Int.reduceLE, Int.reduceLT, Int.reduceMul, Int.reduceNeg, Int.reducePow, Int.reduceSub, Int.reduceToNat, Nat.reduceAdd, Nat.reduceEqDiff, Nat.reduceLT, Nat.reduceLeDiff, Nat.reduceMul, reduceCtorEq, h68]
      refine hN2 (4 - (j + 1)) _ _ (by omega) ⟨j + 1, v11, by simp (disch := omega) only [EO, ↓EP, EQ, EM, ↓reduceIte, Int.reduceAdd, Int.reduceEq, Int.reduceLE, Int.reduceLT, Int.reduceMul, Int.reduceNeg, Int.reducePow, Int.reduceSub, Int.reduceToNat, Nat.reduceAdd, Nat.reduceEqDiff, Nat.reduceLT, Nat.reduceLeDiff, Nat.reduceMul, reduceCtorEq, h68, Int.natCast_add], by omega, rfl, by simp (disch := omega) only [EO, ↓EP, EQ, EM, ↓reduceIte, Int.reduceAdd, Int.reduceEq, Int.reduceLE, Int.reduceLT, Int.reduceMul, Int.reduceNeg, Int.reducePow, Int.reduceSub, Int.reduceToNat, Nat.reduceAdd, Nat.reduceEqDiff, Nat.reduceLT, Nat.reduceLeDiff, Nat.reduceMul, reduceCtorEq], ?_, f10.nb g11.fr⟩
      have ex : ∀ a : Nat, a * 2 ^ (j + 1) = a * 2 ^ j + a * 2 ^ j := fun a => by rw [Nat.pow_succ, ← Nat.mul_assoc, Nat.mul_two]
      rw [ex]
      exact g11.nv (mod_bd hM0).1
    · have hj4 : j = 4 := by omega
      subst hj4
      have hi8 : i / 8 < e.length := by omega
      obtain ⟨p, rfl, _, hp⟩ := (hexp8.rd.nb f10).get (by rw [nums_length]; omega)
      have cp := hp.numN (j := i / 8) hi8
      have bx := hE.at (i / 8 : Nat)
      have ei : (((4 * (i + 1) : Nat) : Int) - 4) / 32 = ((i / 8 : Nat) : Int) := by omega
      have er : min ((((4 * (i + 1) : Nat) : Int) - 4) % 32).toNat 32 = 4 * (i % 8) := by omega
      have hp2 : (0 : Int) < 2 ^ (4 * (i % 8)) := p2_pos _
      have hsh0 := Int.ediv_nonneg bx.1 (show (0 : Int) ≤ 2 ^ (4 * (i % 8)) by omega)
      have hsh1 : at' e (i / 8 : Nat) / 2 ^ (4 * (i % 8)) < 4294967296 := by
        have := Int.ediv_le_self (2 ^ (4 * (i % 8))) bx.1
        omega
      have hn := nib_of hE i
      rw [← hEv] at hn
      have hand := and15 hsh0 hsh1
      rw [hn] at hand
      obtain ⟨x, hx⟩ : ∃ x : Nat, x = E / 16 ^ i % 16 := ⟨_, rfl⟩
      rw [← hx] at hand
      obtain ⟨v, ev, hv⟩ := (hR.nb f10).each x (by omega)
      obtain ⟨A5, c5, e5, hc5, _⟩ := hv.nv.2
      have cv : w10.cell? ⟨rb, x, none⟩ = some (.slice A5 (limbs (B ^ x % M)).length c5) := by rw [(hR.nb f10).blk.cell?, ev, e5]
      have hx16 : x < 16 := by omega
      simp (disch := omega) only [wu64, wu32, wu8, fdiv_nn, EO, ↓EP, EQ, EM, ↓reduceIte, Int.reduceAdd, Int.reduceEq, Int.reduceLE, Int.reduceLT, Int.reduceMul, Int.reduceNeg, Int.reducePow, Int.reduceSub, Int.reduceToNat, Nat.reduceAdd, Nat.reduceEqDiff, Nat.reduceLT, Nat.reduceLeDiff, Nat.reduceMul, reduceCtorEq, h68, h14', r1, r2, r12, r15, ei, er, cp, hand, cv]
      rw [← e5]
      refine times_nv hvo2 hv.nv hm10 hM0 (n := 256) (lmod _) (lmod _) hlm (by omega) _ fun v11 w11 g11 => ?_
      rw [pm_mul] at g11
      have hexpo : E / 16 ^ (i + 1) * 2 ^ 4 + x = E / 16 ^ i := by
        rw [Nat.pow_succ, ← Nat.div_div_eq_div_mul, hx]
        omega
      rw [hexpo] at g11
      have e5 : ((4 * (i + 1) : Nat) : Int) - 4 = ((4 * i : Nat) : Int) := by omega
      simp (disch := omega) only [EO, ↓EP, EQ, EM, ↓reduceIte, Int.reduceAdd, Int.reduceEq, Int.reduceLE, Int.reduceLT, Int.reduceMul, Int.reduceNeg, Int.reducePow, Int.reduceSub, Int.reduceToNat, Nat.reduceAdd, Nat.reduceEqDiff, Nat.reduceLT, Nat.reduceLeDiff, Nat.reduceMul, reduceCtorEq, r15, e5]
      exact hN i _ _ (by omega) ⟨v11, by simp (disch := omega) only [EO, ↓EP, EQ, EM, ↓reduceIte, Int.reduceAdd, Int.reduceEq, Int.reduceLE, Int.reduceLT, Int.reduceMul, Int.reduceNeg, Int.reducePow, Int.reduceSub, Int.reduceToNat, Nat.reduceAdd, Nat.reduceEqDiff, Nat.reduceLT, Nat.reduceLeDiff, Nat.reduceMul, reduceCtorEq, r15, e5], by omega, by simp (disch := omega) only [EO, ↓EP, EQ, EM, ↓reduceIte, Int.reduceAdd, Int.reduceEq, Int.reduceLE, Int.reduceLT, Int.reduceMul, Int.reduceNeg, Int.reducePow, Int.reduceSub, Int.reduceToNat, Nat.reduceAdd, Nat.reduceEqDiff, Nat.reduceLT, Nat.reduceLeDiff, Nat.reduceMul, reduceCtorEq], g11.nv (mod_bd hM0).1, f10.nb g11.fr⟩
end Go.Proofs.Ytbgfebhhejlakaa.Spec
