/- Numbers by limbs: bytes, walked. -/
import Derived.Test.YtbgfebhhejlakaaNat10
set_option linter.unusedVariables false
set_option linter.unusedSimpArgs false
namespace Go.Proofs.Ytbgfebhhejlakaa.Spec
open Go Go.RowKit Go.Proofs Go.Proofs.Ytbgfebhhejlakaa.Eng Go.Proofs.Ytbgfebhhejlakaa.Code Go.Proofs.Ytbgfebhhejlakaa.Big
set_option maxRecDepth 100000
attribute [local irreducible] callK S.W opsW scrW

set_option maxHeartbeats 1000000 in
theorem frombytes_vw {w : World} {va : Value} {l : List Int} (ha : Vw .u8 w va l) (hL : Byt l) (K : Value → World → Prop)
    (hK : ∀ v w', Gw .u32 w w' v (fbR l).1 → K (.tuple #[v, .int .i64 (fbR l).2]) w') : callK Try.prog 39 [va] w K := by
  obtain ⟨A, c, rfl, hc, hr⟩ := ha
  refine call_of Try.func39 Code.h39 (by simp [Code.c39]) ?_
  by_cases hbig : 2048 < l.length
  · have e : fbR l = ([], 3) := by unfold fbR; rw [if_pos hbig]
    rw [e] at hK
    simp (disch := omega) only [EO, ↓EP, EQ, EM, ↓reduceIte, Int.reduceAdd, Int.reduceEq, Int.reduceLE, Int.reduceLT, Int.reduceMul, Int.reduceNeg, Int.reducePow, Int.reduceSub, Int.reduceToNat, Nat.reduceAdd, Nat.reduceEqDiff, Nat.reduceLT, Nat.reduceLeDiff, Nat.reduceMul, reduceCtorEq, Code.c39]
    exact hK _ w (Gw.nil _ _)
  have e : fbR l = (limbs (bv l), 0) := by unfold fbR; rw [if_neg hbig]
  rw [e] at hK
  obtain ⟨N, hN⟩ : ∃ N : Nat, N = (l.length + 3) / 4 := ⟨_, rfl⟩
  have eN : (((l.length : Int) + 3) / 4).toNat = N := by omega
  simp (disch := omega) only [EO, ↓EP, EQ, EM, ↓reduceIte, Int.reduceAdd, Int.reduceEq, Int.reduceLE, Int.reduceLT, Int.reduceMul, Int.reduceNeg, Int.reducePow, Int.reduceSub, Int.reduceToNat, Nat.reduceAdd, Nat.reduceEqDiff, Nat.reduceLT, Nat.reduceLeDiff, Nat.reduceMul, reduceCtorEq, Code.c39]
  refine al_k (nums .u32 (List.replicate N 0)) (by rw [madeCells_list, nums_replicate, eN]) fun w1 n1 => ?_
  simp (disch := omega) only [EO, ↓EP, EQ, EM, ↓reduceIte, Int.reduceAdd, Int.reduceEq, Int.reduceLE, Int.reduceLT, Int.reduceMul, Int.reduceNeg, Int.reducePow, Int.reduceSub, Int.reduceToNat, Nat.reduceAdd, Nat.reduceEqDiff, Nat.reduceLT, Nat.reduceLeDiff, Nat.reduceMul, reduceCtorEq, eN]
  refine loop_inv (fun t ρ w2 => ∃ (k : Nat) (o : List Int), ρ 16 = .int .i64 k ∧ k ≤ l.length ∧ t = l.length - k ∧ Blk w2 w.heap.size (nums .u32 o) ∧ o.length = N ∧ Lim o ∧ val o = leb (l.reverse.take k) ∧ Fr w w2 nob) _
    ⟨0, _, by simp (disch := omega) only [EO, ↓EP, EQ, EM, ↓reduceIte, Int.reduceAdd, Int.reduceEq, Int.reduceLE, Int.reduceLT, Int.reduceMul, Int.reduceNeg, Int.reducePow, Int.reduceSub, Int.reduceToNat, Nat.reduceAdd, Nat.reduceEqDiff, Nat.reduceLT, Nat.reduceLeDiff, Nat.reduceMul, reduceCtorEq], by omega, rfl, n1.blk, by simp, Lim.zeros _, by rw [val_zeros]; rfl, n1.fr nob⟩ ?_
  rintro t ρ w2 hf ⟨k, o, h16, hk, rfl, hB, ho, hO, hv, f2⟩ M hM
  have q0 : ρ 0 = .slice A l.length c := by rw [hf 0 rfl]; simp (disch := omega) only [EO, ↓EP, EQ, EM, ↓reduceIte, Int.reduceAdd, Int.reduceEq, Int.reduceLE, Int.reduceLT, Int.reduceMul, Int.reduceNeg, Int.reducePow, Int.reduceSub, Int.reduceToNat, Nat.reduceAdd, Nat.reduceEqDiff, Nat.reduceLT, Nat.reduceLeDiff, Nat.reduceMul, reduceCtorEq]
  have q4 : ρ 4 = .slice (some ⟨w.heap.size, 0, none⟩) N N := by rw [hf 4 rfl]; simp (disch := omega) only [EO, ↓EP, EQ, EM, ↓reduceIte, Int.reduceAdd, Int.reduceEq, Int.reduceLE, Int.reduceLT, Int.reduceMul, Int.reduceNeg, Int.reducePow, Int.reduceSub, Int.reduceToNat, Nat.reduceAdd, Nat.reduceEqDiff, Nat.reduceLT, Nat.reduceLeDiff, Nat.reduceMul, reduceCtorEq, eN]
  have q15 : ρ 15 = .int .i64 l.length := by rw [hf 15 rfl]; simp (disch := omega) only [EO, ↓EP, EQ, EM, ↓reduceIte, Int.reduceAdd, Int.reduceEq, Int.reduceLE, Int.reduceLT, Int.reduceMul, Int.reduceNeg, Int.reducePow, Int.reduceSub, Int.reduceToNat, Nat.reduceAdd, Nat.reduceEqDiff, Nat.reduceLT, Nat.reduceLeDiff, Nat.reduceMul, reduceCtorEq]
  clear hf
  by_cases hkl : (k : Int) < (l.length : Int)
  · obtain ⟨p, rfl, _, hp⟩ := (hr.nb f2).get (by rw [nums_length]; omega)
    have cp := hp.numN (j := l.length - 1 - k) (by omega)
    have co := hB.numN (j := k / 4) (by omega)
    have bx := hL.at (l.length - 1 - k : Nat)
    have bo := hO.at (k / 4 : Nat)
    have ei : ((k : Int) / 4).toNat = k / 4 := by omega
    have ej : ((l.length : Int) - 1 - (k : Int)).toNat = l.length - 1 - k := by omega
    obtain ⟨s, hs⟩ : ∃ s : Nat, s = 8 * (k % 4) := ⟨_, rfl⟩
    have em : min (8 * ((k : Int) % 4)).toNat 32 = s := by omega
    have hp2 : (0 : Int) < 2 ^ s := p2_pos s
    have h24 : (2 : Int) ^ s ≤ 2 ^ 24 := p2_mono (by omega)
    have e24 : (2 : Int) ^ 24 = 16777216 := rfl
    have hx0 := Int.mul_nonneg bx.1 (show (0 : Int) ≤ 2 ^ s by omega)
    have hx1 : at' l (l.length - 1 - k : Nat) * 2 ^ s + 2 ^ s ≤ 4294967296 := by
      have := Int.mul_le_mul (show at' l (l.length - 1 - k : Nat) + 1 ≤ 256 by omega) (show (2 : Int) ^ s ≤ 16777216 by omega) (by omega) (by omega)
      grind
    have hk256 : (256 : Int) ^ k = pw (k / 4) * 2 ^ s := by
      rw [p8_pw, show (2 : Int) ^ s = 256 ^ (k % 4) by rw [p8_p2, hs], ← p8_add]; congr 1; omega
    have hlow : at' o (k / 4 : Nat) < 2 ^ s := by
      have hb := leb_bd (hL.rev.take k)
      rw [← hv, List.length_take, List.length_reverse, Nat.min_eq_left hk, hk256] at hb
      have h1 := val_split o (k := k / 4) (by omega)
      have h2 := (val_bd (hO.take (k / 4))).1
      have h3 : val (o.drop (k / 4)) * pw (k / 4) < 2 ^ s * pw (k / 4) := by
        have e1 : val (o.drop (k / 4)) * pw (k / 4) = pw (k / 4) * val (o.drop (k / 4)) := Int.mul_comm _ _
        have e2 : 2 ^ s * pw (k / 4) = pw (k / 4) * 2 ^ s := Int.mul_comm _ _
        omega
      have h4 := lt_of_mul h3 (by have := pw_pos (k / 4); omega)
      have h5 := val_drop_at o (k := k / 4) (by omega)
      have h6 := (val_bd (hO.drop (k / 4 + 1))).1
      omega
    have eor := or32_add bo.1 hlow bx.1 (by omega)
    simp (disch := omega) only [wu64, wu32, wu8, fdiv_nn, EO, ↓EP, EQ, EM, ↓reduceIte, Int.reduceAdd, Int.reduceEq, Int.reduceLE, Int.reduceLT, Int.reduceMul, Int.reduceNeg, Int.reducePow, Int.reduceSub, Int.reduceToNat, Nat.reduceAdd, Nat.reduceEqDiff, Nat.reduceLT, Nat.reduceLeDiff, Nat.reduceMul, reduceCtorEq, h16, q0, q4, q15, cp, co, ei, ej, em, eor]
    intro m1
    refine st_num (hB.nb (Fr.drewN w2 _ nob)) (by omega) fun w4 p4 => ?_
    simp (disch := omega) only [wu64, wu32, wu8, fdiv_nn, EO, ↓EP, EQ, EM, ↓reduceIte, Int.reduceAdd, Int.reduceEq, Int.reduceLE, Int.reduceLT, Int.reduceMul, Int.reduceNeg, Int.reducePow, Int.reduceSub, Int.reduceToNat, Nat.reduceAdd, Nat.reduceEqDiff, Nat.reduceLT, Nat.reduceLeDiff, Nat.reduceMul, reduceCtorEq, h16]
    refine hM (l.length - (k + 1)) _ _ (by omega) ⟨k + 1, _, by simp (disch := omega) only [EO, ↓EP, EQ, EM, ↓reduceIte, Int.reduceAdd, Int.reduceEq, Int.reduceLE, Int.reduceLT, Int.reduceMul, Int.reduceNeg, Int.reducePow, Int.reduceSub, Int.reduceToNat, Nat.reduceAdd, Nat.reduceEqDiff, Nat.reduceLT, Nat.reduceLeDiff, Nat.reduceMul, reduceCtorEq, h16, Int.natCast_add], by omega, rfl, p4.blk, by simpa using ho, hO.set _ (by omega) (by omega), ?_, (f2.nb (Fr.drewN w2 _ nob)).own p4.fr fun x e => by omega⟩
    rw [val_set (by omega), leb_take_succ (by simpa using hkl), at_rev (by omega), hv, hk256]
    grind
  · have hk : k = l.length := by omega
    subst hk
    simp (disch := omega) only [EO, ↓EP, EQ, EM, ↓reduceIte, Int.reduceAdd, Int.reduceEq, Int.reduceLE, Int.reduceLT, Int.reduceMul, Int.reduceNeg, Int.reducePow, Int.reduceSub, Int.reduceToNat, Nat.reduceAdd, Nat.reduceEqDiff, Nat.reduceLT, Nat.reduceLeDiff, Nat.reduceMul, reduceCtorEq, h16, q4, q15]
    rw [List.take_of_length_le (by simp)] at hv
    refine cut_spec ho (blk_rd hB) hO (Nat.le_refl _) (by omega) _ fun m hm he _ => ?_
    rw [hv] at he
    simp (disch := omega) only [EO, ↓EP, EQ, EM, ↓reduceIte, Int.reduceAdd, Int.reduceEq, Int.reduceLE, Int.reduceLT, Int.reduceMul, Int.reduceNeg, Int.reducePow, Int.reduceSub, Int.reduceToNat, Nat.reduceAdd, Nat.reduceEqDiff, Nat.reduceLT, Nat.reduceLeDiff, Nat.reduceMul, reduceCtorEq]
    exact hK _ _ (own_cut hB (Nat.le_refl _) f2 ho hm he)
set_option maxHeartbeats 1000000 in
theorem bytes_vw {w : World} {va : Value} {l : List Int} (n : Int) (ha : Vw .u32 w va l) (hL : Lim l) (hn : -9223372036854775808 ≤ n ∧ n ≤ 9223372036854775807) (K : Value → World → Prop)
    (hK : ∀ v w', Gw .u8 w w' v (tbR l n).1 → K (.tuple #[v, .int .i64 (tbR l n).2]) w') : callK Try.prog 40 [va, .int .i64 n] w K := by
  obtain ⟨A, c, rfl, hc, hr⟩ := ha
  refine call_of Try.func40 Code.h40 (by simp [Code.c40]) ?_
  simp (disch := omega) only [EO, ↓EP, EQ, EM, ↓reduceIte, Int.reduceAdd, Int.reduceEq, Int.reduceLE, Int.reduceLT, Int.reduceMul, Int.reduceNeg, Int.reducePow, Int.reduceSub, Int.reduceToNat, Nat.reduceAdd, Nat.reduceEqDiff, Nat.reduceLT, Nat.reduceLeDiff, Nat.reduceMul, reduceCtorEq, Code.c40]
  refine bslS1 fun w1 n1 => ?_
  have f1 := n1.fr nob
  simp (disch := omega) only [EO, ↓EP, EQ, EM, ↓reduceIte, Int.reduceAdd, Int.reduceEq, Int.reduceLE, Int.reduceLT, Int.reduceMul, Int.reduceNeg, Int.reducePow, Int.reduceSub, Int.reduceToNat, Nat.reduceAdd, Nat.reduceEqDiff, Nat.reduceLT, Nat.reduceLeDiff, Nat.reduceMul, reduceCtorEq]
  refine long1 n1.rdv (by omega) _ ?_
  by_cases h512 : (512 : Int) < (l.length : Int)
  · have e : tbR l n = ([], 3) := by unfold tbR; rw [if_pos (by omega)]
    rw [e] at hK
    simp (disch := omega) only [EO, ↓EP, EQ, EM, ↓reduceIte, Int.reduceAdd, Int.reduceEq, Int.reduceLE, Int.reduceLT, Int.reduceMul, Int.reduceNeg, Int.reducePow, Int.reduceSub, Int.reduceToNat, Nat.reduceAdd, Nat.reduceEqDiff, Nat.reduceLT, Nat.reduceLeDiff, Nat.reduceMul, reduceCtorEq]
    exact hK _ w1 ((Gw.nil _ _).from f1)
  simp (disch := omega) only [EO, ↓EP, EQ, EM, ↓reduceIte, Int.reduceAdd, Int.reduceEq, Int.reduceLE, Int.reduceLT, Int.reduceMul, Int.reduceNeg, Int.reducePow, Int.reduceSub, Int.reduceToNat, Nat.reduceAdd, Nat.reduceEqDiff, Nat.reduceLT, Nat.reduceLeDiff, Nat.reduceMul, reduceCtorEq]
  by_cases hneg : n < 0
  · have e : tbR l n = ([], 1) := by unfold tbR; rw [if_neg (by omega), if_pos (by omega)]
    rw [e] at hK
    simp (disch := omega) only [EO, ↓EP, EQ, EM, ↓reduceIte, Int.reduceAdd, Int.reduceEq, Int.reduceLE, Int.reduceLT, Int.reduceMul, Int.reduceNeg, Int.reducePow, Int.reduceSub, Int.reduceToNat, Nat.reduceAdd, Nat.reduceEqDiff, Nat.reduceLT, Nat.reduceLeDiff, Nat.reduceMul, reduceCtorEq]
    exact hK _ w1 ((Gw.nil _ _).from f1)
  by_cases hbig : 2048 < n
  · have e : tbR l n = ([], 1) := by unfold tbR; rw [if_neg (by omega), if_pos (by omega)]
    rw [e] at hK
    simp (disch := omega) only [EO, ↓EP, EQ, EM, ↓reduceIte, Int.reduceAdd, Int.reduceEq, Int.reduceLE, Int.reduceLT, Int.reduceMul, Int.reduceNeg, Int.reducePow, Int.reduceSub, Int.reduceToNat, Nat.reduceAdd, Nat.reduceEqDiff, Nat.reduceLT, Nat.reduceLeDiff, Nat.reduceMul, reduceCtorEq]
    exact hK _ w1 ((Gw.nil _ _).from f1)
  simp (disch := omega) only [EO, ↓EP, EQ, EM, ↓reduceIte, Int.reduceAdd, Int.reduceEq, Int.reduceLE, Int.reduceLT, Int.reduceMul, Int.reduceNeg, Int.reducePow, Int.reduceSub, Int.reduceToNat, Nat.reduceAdd, Nat.reduceEqDiff, Nat.reduceLT, Nat.reduceLeDiff, Nat.reduceMul, reduceCtorEq]
  refine bits_vw ⟨A, c, rfl, hc, hr.nb f1⟩ hL (by omega) _ ?_
  have hbl : bl (val l) ≤ 32 * 512 := (bl_le (val_bd hL).1).2 (by
    have := (val_bd hL).2
    have := pw_le (show l.length ≤ 512 by omega)
    rw [← pw_p2]; omega)
  by_cases hsm : n < ((bl (val l) : Int) + 7) / 8
  · have e : tbR l n = ([], 3) := by unfold tbR; rw [if_neg (by omega), if_neg (by omega), if_pos (by omega)]
    rw [e] at hK
    simp (disch := omega) only [EO, ↓EP, EQ, EM, ↓reduceIte, Int.reduceAdd, Int.reduceEq, Int.reduceLE, Int.reduceLT, Int.reduceMul, Int.reduceNeg, Int.reducePow, Int.reduceSub, Int.reduceToNat, Nat.reduceAdd, Nat.reduceEqDiff, Nat.reduceLT, Nat.reduceLeDiff, Nat.reduceMul, reduceCtorEq]
    exact hK _ w1 ((Gw.nil _ _).from f1)
  have e : tbR l n = (bvs n.toNat (val l), 0) := by unfold tbR; rw [if_neg (by omega), if_neg (by omega), if_neg (by omega)]
  rw [e] at hK
  obtain ⟨N, rfl⟩ : ∃ N : Nat, n = N := ⟨n.toNat, by omega⟩
  rw [Int.toNat_natCast] at hK
  clear e
  simp (disch := omega) only [EO, ↓EP, EQ, EM, ↓reduceIte, Int.reduceAdd, Int.reduceEq, Int.reduceLE, Int.reduceLT, Int.reduceMul, Int.reduceNeg, Int.reducePow, Int.reduceSub, Int.reduceToNat, Nat.reduceAdd, Nat.reduceEqDiff, Nat.reduceLT, Nat.reduceLeDiff, Nat.reduceMul, reduceCtorEq]
  refine al_k (nums .u8 (List.replicate N 0)) (by rw [madeCells_list, nums_replicate]) fun w2 n2 => ?_
  have sz1 := f1.size
  have f2 := f1.nb (n2.fr nob)
  simp (disch := omega) only [EO, ↓EP, EQ, EM, ↓reduceIte, Int.reduceAdd, Int.reduceEq, Int.reduceLE, Int.reduceLT, Int.reduceMul, Int.reduceNeg, Int.reducePow, Int.reduceSub, Int.reduceToNat, Nat.reduceAdd, Nat.reduceEqDiff, Nat.reduceLT, Nat.reduceLeDiff, Nat.reduceMul, reduceCtorEq]
  refine loop_inv (fun t ρ w3 => ∃ (k : Nat) (o : List Int), ρ 29 = .int .i64 k ∧ k ≤ N ∧ t = N - k ∧ Blk w3 w1.heap.size (nums .u8 o) ∧ o.length = N ∧ (∀ i, i < k → at' o (N - 1 - i : Nat) = val l / 256 ^ i % 256) ∧ (∀ j : Nat, j < N - k → at' o j = 0) ∧ Fr w w3 nob) _
    ⟨0, _, by simp (disch := omega) only [EO, ↓EP, EQ, EM, ↓reduceIte, Int.reduceAdd, Int.reduceEq, Int.reduceLE, Int.reduceLT, Int.reduceMul, Int.reduceNeg, Int.reducePow, Int.reduceSub, Int.reduceToNat, Nat.reduceAdd, Nat.reduceEqDiff, Nat.reduceLT, Nat.reduceLeDiff, Nat.reduceMul, reduceCtorEq], by omega, rfl, n2.blk, by simp, fun i h => by omega, fun j _ => at_zeros _ _, f2⟩ ?_
  rintro t ρ w3 hf ⟨k, o, h29, hk, rfl, hB, ho, hset, hzero, f3⟩ M hM
  have q0 : ρ 0 = .slice A l.length c := by rw [hf 0 rfl]; simp (disch := omega) only [EO, ↓EP, EQ, EM, ↓reduceIte, Int.reduceAdd, Int.reduceEq, Int.reduceLE, Int.reduceLT, Int.reduceMul, Int.reduceNeg, Int.reducePow, Int.reduceSub, Int.reduceToNat, Nat.reduceAdd, Nat.reduceEqDiff, Nat.reduceLT, Nat.reduceLeDiff, Nat.reduceMul, reduceCtorEq]
  have q1 : ρ 1 = .int .i64 N := by rw [hf 1 rfl]; simp (disch := omega) only [EO, ↓EP, EQ, EM, ↓reduceIte, Int.reduceAdd, Int.reduceEq, Int.reduceLE, Int.reduceLT, Int.reduceMul, Int.reduceNeg, Int.reducePow, Int.reduceSub, Int.reduceToNat, Nat.reduceAdd, Nat.reduceEqDiff, Nat.reduceLT, Nat.reduceLeDiff, Nat.reduceMul, reduceCtorEq]
  have q6 : ρ 6 = .slice (some ⟨w1.heap.size, 0, none⟩) N N := by rw [hf 6 rfl]; simp (disch := omega) only [EO, ↓EP, EQ, EM, ↓reduceIte, Int.reduceAdd, Int.reduceEq, Int.reduceLE, Int.reduceLT, Int.reduceMul, Int.reduceNeg, Int.reducePow, Int.reduceSub, Int.reduceToNat, Nat.reduceAdd, Nat.reduceEqDiff, Nat.reduceLT, Nat.reduceLeDiff, Nat.reduceMul, reduceCtorEq]
  have q28 : ρ 28 = .int .i64 N := by rw [hf 28 rfl]; simp (disch := omega) only [EO, ↓EP, EQ, EM, ↓reduceIte, Int.reduceAdd, Int.reduceEq, Int.reduceLE, Int.reduceLT, Int.reduceMul, Int.reduceNeg, Int.reducePow, Int.reduceSub, Int.reduceToNat, Nat.reduceAdd, Nat.reduceEqDiff, Nat.reduceLT, Nat.reduceLeDiff, Nat.reduceMul, reduceCtorEq]
  clear hf
  by_cases hkl : (k : Int) < (N : Int)
  · have hlb := limb_byte hL k
    by_cases hin : (k : Int) / 4 < (l.length : Int)
    · obtain ⟨p, rfl, _, hp⟩ := (hr.nb f3).get (by rw [nums_length]; omega)
      have cp := hp.numN (j := k / 4) (by omega)
      have bx := hL.at (k / 4 : Nat)
      have ei : ((k : Int) / 4).toNat = k / 4 := by omega
      have ej : ((N : Int) - 1 - (k : Int)).toNat = N - 1 - k := by omega
      have em : min (8 * ((k : Int) % 4)).toNat 32 = 8 * (k % 4) := by omega
      have hp2 : (0 : Int) < 2 ^ (8 * (k % 4)) := p2_pos _
      simp (disch := omega) only [wu64, wu32, wu8, fdiv_nn, EO, ↓EP, EQ, EM, ↓reduceIte, Int.reduceAdd, Int.reduceEq, Int.reduceLE, Int.reduceLT, Int.reduceMul, Int.reduceNeg, Int.reducePow, Int.reduceSub, Int.reduceToNat, Nat.reduceAdd, Nat.reduceEqDiff, Nat.reduceLT, Nat.reduceLeDiff, Nat.reduceMul, reduceCtorEq, W_join, h29, q0, q1, q6, q28, cp, ei, ej, em, wu8_mod, hlb]
      refine st_num hB (by omega) fun w4 p4 => ?_
      simp (disch := omega) only [wu64, wu32, wu8, fdiv_nn, EO, ↓EP, EQ, EM, ↓reduceIte, Int.reduceAdd, Int.reduceEq, Int.reduceLE, Int.reduceLT, Int.reduceMul, Int.reduceNeg, Int.reducePow, Int.reduceSub, Int.reduceToNat, Nat.reduceAdd, Nat.reduceEqDiff, Nat.reduceLT, Nat.reduceLeDiff, Nat.reduceMul, reduceCtorEq, h29]
      refine hM (N - (k + 1)) _ _ (by omega) ⟨k + 1, _, by simp (disch := omega) only [EO, ↓EP, EQ, EM, ↓reduceIte, Int.reduceAdd, Int.reduceEq, Int.reduceLE, Int.reduceLT, Int.reduceMul, Int.reduceNeg, Int.reducePow, Int.reduceSub, Int.reduceToNat, Nat.reduceAdd, Nat.reduceEqDiff, Nat.reduceLT, Nat.reduceLeDiff, Nat.reduceMul, reduceCtorEq, h29, Int.natCast_add], by omega, rfl, p4.blk, by simpa using ho, fun i hi => ?_, fun j hj => ?_, f3.own p4.fr fun x e => by omega⟩
      · by_cases hik : i = k
        · subst hik; rw [at_setN (by omega)]
        · rw [at_setO (by omega)]; exact hset i (by omega)
      · rw [at_setO (by omega)]; exact hzero j (by omega)
    · simp (disch := omega) only [wu64, wu32, wu8, fdiv_nn, EO, ↓EP, EQ, EM, ↓reduceIte, Int.reduceAdd, Int.reduceEq, Int.reduceLE, Int.reduceLT, Int.reduceMul, Int.reduceNeg, Int.reducePow, Int.reduceSub, Int.reduceToNat, Nat.reduceAdd, Nat.reduceEqDiff, Nat.reduceLT, Nat.reduceLeDiff, Nat.reduceMul, reduceCtorEq, W_join, h29, q0, q1, q6, q28]
      refine hM (N - (k + 1)) _ _ (by omega) ⟨k + 1, _, by simp (disch := omega) only [EO, ↓EP, EQ, EM, ↓reduceIte, Int.reduceAdd, Int.reduceEq, Int.reduceLE, Int.reduceLT, Int.reduceMul, Int.reduceNeg, Int.reducePow, Int.reduceSub, Int.reduceToNat, Nat.reduceAdd, Nat.reduceEqDiff, Nat.reduceLT, Nat.reduceLeDiff, Nat.reduceMul, reduceCtorEq, h29, Int.natCast_add], by omega, rfl, hB, ho, fun i hi => ?_, fun j hj => hzero j (by omega), f3⟩
      by_cases hik : i = k
      · subst hik
        rw [hzero _ (by omega), ← hlb, at_ge (by omega)]; simp
      · exact hset i (by omega)
  · have hk : k = N := by omega
    subst hk
    simp (disch := omega) only [EO, ↓EP, EQ, EM, ↓reduceIte, Int.reduceAdd, Int.reduceEq, Int.reduceLE, Int.reduceLT, Int.reduceMul, Int.reduceNeg, Int.reducePow, Int.reduceSub, Int.reduceToNat, Nat.reduceAdd, Nat.reduceEqDiff, Nat.reduceLT, Nat.reduceLeDiff, Nat.reduceMul, reduceCtorEq, h29, q6, q28]
    have eo := bvs_of ho (fun i hi => hset i hi)
    subst eo
    exact hK _ _ ⟨.inr ⟨w1.heap.size, [], by simp [ho], by simpa using hB⟩, fun b e => by cases e; omega, f3⟩
end Go.Proofs.Ytbgfebhhejlakaa.Spec
