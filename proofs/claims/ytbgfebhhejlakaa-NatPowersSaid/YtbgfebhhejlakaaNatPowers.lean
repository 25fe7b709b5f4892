/- NatPowers: whatever the three lists, the law answers true; before it the document's powers, walked. -/
import Derived.Test.YtbgfebhhejlakaaNatS
import Derived.Test.YtbgfebhhejlakaaNat12
import Derived.Test.YtbgfebhhejlakaaRn5
import Derived.Test.YtbgfebhhejlakaaRn8
import Derived.Test.YtbgfebhhejlakaaRn7
set_option linter.unusedVariables false
set_option linter.unusedSimpArgs false
namespace Go.Proofs.Ytbgfebhhejlakaa.Spec
open Go Go.RowKit Go.Proofs Go.Proofs.Ytbgfebhhejlakaa.Eng Go.Proofs.Ytbgfebhhejlakaa.Code Go.Proofs.Ytbgfebhhejlakaa.Big
set_option maxRecDepth 100000
attribute [local irreducible] callK S.W opsW scrW

theorem val_zero_from {o : List Int} {k : Nat} (h : ∀ j : Nat, k ≤ j → at' o j = 0) : val o = val (o.take k) := by
  by_cases hk : k ≤ o.length
  · have e := val_split o hk
    have hz : val (o.drop k) = 0 := by
      have : o.drop k = List.replicate (o.length - k) 0 := by
        apply List.ext_getElem
        · simp
        · intro i h1 h2
          simp only [List.length_drop] at h1
          rw [List.getElem_drop, List.getElem_replicate, ← at_get (by omega)]
          exact h (k + i) (by omega)
      rw [this, val_zeros]
    rw [hz] at e; omega
  · rw [List.take_of_length_le (by omega)]
set_option maxHeartbeats 1000000 in
theorem wide_vw {w : World} {va : Value} {l : List Int} (n : Nat) (hn : n ≤ 16777216) (ha : Vw .u32 w va l) (hL : Lim l) (hl : l.length ≤ 16777216) (K : Value → World → Prop)
    (hK : ∀ o v w', Gw .u64 w w' v o → o.length = n → Lim o → val o = val (l.take n) → K v w') : callK Try.prog 64 [va, .int .i64 n] w K := by
  obtain ⟨A, c, ea, hc, hr⟩ := id ha
  refine call_of Try.func64 Code.h64 (by simp [Code.c64]) ?_
  simp (disch := omega) only [EO, ↓EP, EQ, EM, ↓reduceIte, Int.reduceAdd, Int.reduceEq, Int.reduceLE, Int.reduceLT, Int.reduceMul, Int.reduceNeg, Int.reducePow, Int.reduceSub, Int.reduceToNat, Nat.reduceAdd, Nat.reduceEqDiff, Nat.reduceLT, Nat.reduceLeDiff, Nat.reduceMul, reduceCtorEq, Code.c64]
  refine al_k (nums .u64 (List.replicate n 0)) (by rw [madeCells_list, nums_replicate]) fun w1 n1 => ?_
  simp (disch := omega) only [EO, ↓EP, EQ, EM, ↓reduceIte, Int.reduceAdd, Int.reduceEq, Int.reduceLE, Int.reduceLT, Int.reduceMul, Int.reduceNeg, Int.reducePow, Int.reduceSub, Int.reduceToNat, Nat.reduceAdd, Nat.reduceEqDiff, Nat.reduceLT, Nat.reduceLeDiff, Nat.reduceMul, reduceCtorEq]
  refine loop_inv (fun t ρ w' => ∃ (k : Nat) (o : List Int), ρ 6 = .int .i64 k ∧ k ≤ n ∧ k ≤ l.length ∧ t = n - k ∧ Blk w' w.heap.size (nums .u64 o) ∧ o.length = n ∧ Lim o ∧ val (o.take k) = val (l.take k) ∧ (∀ j : Nat, k ≤ j → at' o j = 0) ∧ Fr w w' nob) _
    ⟨0, List.replicate n 0, by simp (disch := omega) only [EO, ↓EP, EQ, EM, ↓reduceIte, Int.reduceAdd, Int.reduceEq, Int.reduceLE, Int.reduceLT, Int.reduceMul, Int.reduceNeg, Int.reducePow, Int.reduceSub, Int.reduceToNat, Nat.reduceAdd, Nat.reduceEqDiff, Nat.reduceLT, Nat.reduceLeDiff, Nat.reduceMul, reduceCtorEq], by omega, by omega, rfl, n1.blk, by simp, Lim.zeros _, rfl, fun j _ => at_zeros _ _, n1.fr nob⟩ ?_
  rintro t ρ w' hf ⟨k, o, h6, hk, hkl, rfl, hB, ho, hO, hv, hz, f1⟩ N hN
  have q0 : ρ 0 = va := by rw [hf 0 rfl]; simp (disch := omega) only [EO, ↓EP, EQ, EM, ↓reduceIte, Int.reduceAdd, Int.reduceEq, Int.reduceLE, Int.reduceLT, Int.reduceMul, Int.reduceNeg, Int.reducePow, Int.reduceSub, Int.reduceToNat, Nat.reduceAdd, Nat.reduceEqDiff, Nat.reduceLT, Nat.reduceLeDiff, Nat.reduceMul, reduceCtorEq]
  have q1 : ρ 1 = .int .i64 n := by rw [hf 1 rfl]; simp (disch := omega) only [EO, ↓EP, EQ, EM, ↓reduceIte, Int.reduceAdd, Int.reduceEq, Int.reduceLE, Int.reduceLT, Int.reduceMul, Int.reduceNeg, Int.reducePow, Int.reduceSub, Int.reduceToNat, Nat.reduceAdd, Nat.reduceEqDiff, Nat.reduceLT, Nat.reduceLeDiff, Nat.reduceMul, reduceCtorEq]
  have q5 : ρ 5 = .slice (some ⟨w.heap.size, 0, none⟩) n n := by rw [hf 5 rfl]; simp (disch := omega) only [EO, ↓EP, EQ, EM, ↓reduceIte, Int.reduceAdd, Int.reduceEq, Int.reduceLE, Int.reduceLT, Int.reduceMul, Int.reduceNeg, Int.reducePow, Int.reduceSub, Int.reduceToNat, Nat.reduceAdd, Nat.reduceEqDiff, Nat.reduceLT, Nat.reduceLeDiff, Nat.reduceMul, reduceCtorEq]
  clear hf
  have fin : (k = n ∨ k = l.length) → K (.slice (some ⟨w.heap.size, 0, none⟩) n n) w' := fun h => by
    refine hK o _ w' (own_cut hB (Nat.le_refl _) f1 ho (Nat.le_refl _) (by rw [← ho, List.take_length])) ho hO ?_
    rw [val_zero_from hz, hv]
    rcases h with h | h
    · rw [h]
    · rw [h, List.take_length, List.take_of_length_le (by omega)]
  by_cases c1 : (k : Int) < (n : Int)
  · by_cases c2 : (k : Int) < (l.length : Int)
    · obtain ⟨p, rfl, _, hp⟩ := (hr.nb f1).get (by rw [nums_length]; omega)
      have cp := hp.numN (j := k) (by omega)
      have bx := hL.at k
      simp (disch := omega) only [wu64, wu32, wu8, fdiv_nn, EO, ↓EP, EQ, EM, ↓reduceIte, Int.reduceAdd, Int.reduceEq, Int.reduceLE, Int.reduceLT, Int.reduceMul, Int.reduceNeg, Int.reducePow, Int.reduceSub, Int.reduceToNat, Nat.reduceAdd, Nat.reduceEqDiff, Nat.reduceLT, Nat.reduceLeDiff, Nat.reduceMul, reduceCtorEq, h6, q0, q1, q5, ea, cp]
      refine st_num hB (by omega) fun w2 p2 => ?_
      simp (disch := omega) only [wu64, wu32, wu8, fdiv_nn, EO, ↓EP, EQ, EM, ↓reduceIte, Int.reduceAdd, Int.reduceEq, Int.reduceLE, Int.reduceLT, Int.reduceMul, Int.reduceNeg, Int.reducePow, Int.reduceSub, Int.reduceToNat, Nat.reduceAdd, Nat.reduceEqDiff, Nat.reduceLT, Nat.reduceLeDiff, Nat.reduceMul, reduceCtorEq, h6]
      refine hN (n - (k + 1)) _ _ (by omega) ⟨k + 1, _, by simp (disch := omega) only [EO, ↓EP, EQ, EM, ↓reduceIte, Int.reduceAdd, Int.reduceEq, Int.reduceLE, Int.reduceLT, Int.reduceMul, Int.reduceNeg, Int.reducePow, Int.reduceSub, Int.reduceToNat, Nat.reduceAdd, Nat.reduceEqDiff, Nat.reduceLT, Nat.reduceLeDiff, Nat.reduceMul, reduceCtorEq, h6, Int.natCast_add], by omega, by omega, rfl, p2.blk, by simpa using ho, hO.set _ (by omega) (by omega), ?_, fun j hj => ?_, f1.own p2.fr fun x e => by omega⟩
      · rw [val_take_set (by omega), val_take_succ', hv]
      · rw [at_setO (by omega)]; exact hz j (by omega)
    · simp (disch := omega) only [wu64, wu32, wu8, fdiv_nn, EO, ↓EP, EQ, EM, ↓reduceIte, Int.reduceAdd, Int.reduceEq, Int.reduceLE, Int.reduceLT, Int.reduceMul, Int.reduceNeg, Int.reducePow, Int.reduceSub, Int.reduceToNat, Nat.reduceAdd, Nat.reduceEqDiff, Nat.reduceLT, Nat.reduceLeDiff, Nat.reduceMul, reduceCtorEq, h6, q0, q1, q5, ea]
      exact fin (.inr (by omega))
  · simp (disch := omega) only [wu64, wu32, wu8, fdiv_nn, EO, ↓EP, EQ, EM, ↓reduceIte, Int.reduceAdd, Int.reduceEq, Int.reduceLE, Int.reduceLT, Int.reduceMul, Int.reduceNeg, Int.reducePow, Int.reduceSub, Int.reduceToNat, Nat.reduceAdd, Nat.reduceEqDiff, Nat.reduceLT, Nat.reduceLeDiff, Nat.reduceMul, reduceCtorEq, h6, q0, q1, q5, ea]
    exact fin (.inl (by omega))
theorem andB {x : Int} (h0 : 0 ≤ x) (h1 : x < 18446744073709551616) : bits .and .u64 x 4294967295 = x % 4294967296 := by
  rw [u64_and _ _ (by omega) (by omega) (by omega) (by omega)]
  have := Nat.and_two_pow_sub_one_eq_mod x.toNat 32
  rw [show (4294967295 : Int).toNat = 2 ^ 32 - 1 by rfl, this]
  omega
theorem mulB {a b : Int} (ha : 0 ≤ a ∧ a < 4294967296) (hb : 0 ≤ b ∧ b < 4294967296) : 0 ≤ a * b ∧ a * b ≤ 18446744065119617025 := mul_bd ha hb
set_option maxHeartbeats 2000000 in
theorem take_spec {w : World} {rb c : Nat} {r p : List Int} {vp : Value} {q : Int} {n : Nat} (hB : Blk w rb (nums .u64 r)) (hr : r.length = n + 1) (hp : p.length = n) (hR : Lim r) (hP : Lim p) (hn : n ≤ 16777216) (hv : Vr .u64 w vp p (fun b => b = rb)) (hq : 0 ≤ q ∧ q < 4294967296) (hle : q * val p ≤ val r) (K : Value → World → Prop)
    (hK : ∀ o w', Blk w' rb (nums .u64 o) → o.length = n + 1 → Lim o → val o = val r - q * val p → Fr w w' (fun b => b = rb) → K (.tuple #[]) w') : callK Try.prog 75 [.slice (some ⟨rb, 0, none⟩) (n + 1) c, vp, .int .u64 q] w K := by
  refine call_of Try.func75 Code.h75 (by simp [Code.c75]) ?_
  have qv := hv
  obtain ⟨A, d, ep, hd, hro⟩ := qv
  rw [hp] at ep
  simp (disch := omega) only [EO, ↓EP, EQ, EM, ↓reduceIte, Int.reduceAdd, Int.reduceEq, Int.reduceLE, Int.reduceLT, Int.reduceMul, Int.reduceNeg, Int.reducePow, Int.reduceSub, Int.reduceToNat, Nat.reduceAdd, Nat.reduceEqDiff, Nat.reduceLT, Nat.reduceLeDiff, Nat.reduceMul, reduceCtorEq, Code.c75]
  refine loop_inv (fun t ρ w' => ∃ (k : Nat) (z : List Int) (br : Int), ρ 7 = .int .i64 k ∧ k ≤ n ∧ t = n - k ∧ ρ 6 = .int .u64 br ∧ 0 ≤ br ∧ br ≤ 4294967296 ∧ Blk w' rb (nums .u64 z) ∧ z.length = n + 1 ∧ Lim z ∧ val (z.take k) - br * pw k = val (r.take k) - q * val (p.take k) ∧ (∀ j : Nat, k ≤ j → at' z j = at' r j) ∧ Fr w w' (fun b => b = rb)) n
    ⟨0, r, 0, by simp (disch := omega) only [EO, ↓EP, EQ, EM, ↓reduceIte, Int.reduceAdd, Int.reduceEq, Int.reduceLE, Int.reduceLT, Int.reduceMul, Int.reduceNeg, Int.reducePow, Int.reduceSub, Int.reduceToNat, Nat.reduceAdd, Nat.reduceEqDiff, Nat.reduceLT, Nat.reduceLeDiff, Nat.reduceMul, reduceCtorEq], by omega, rfl, by simp (disch := omega) only [EO, ↓EP, EQ, EM, ↓reduceIte, Int.reduceAdd, Int.reduceEq, Int.reduceLE, Int.reduceLT, Int.reduceMul, Int.reduceNeg, Int.reducePow, Int.reduceSub, Int.reduceToNat, Nat.reduceAdd, Nat.reduceEqDiff, Nat.reduceLT, Nat.reduceLeDiff, Nat.reduceMul, reduceCtorEq], by omega, by omega, hB, hr, hR, by simp [val_nil], fun _ _ => rfl, Fr.refl _ _⟩ ?_
  rintro t ρ w' hf ⟨k, z, br, h7, hk, rfl, h6, hb0, hb1, hBz, hz, hZ, hval, hsame, f1⟩ N hN
  have q0 : ρ 0 = .slice (some ⟨rb, 0, none⟩) (n + 1) c := by rw [hf 0 rfl]; simp (disch := omega) only [EO, ↓EP, EQ, EM, ↓reduceIte, Int.reduceAdd, Int.reduceEq, Int.reduceLE, Int.reduceLT, Int.reduceMul, Int.reduceNeg, Int.reducePow, Int.reduceSub, Int.reduceToNat, Nat.reduceAdd, Nat.reduceEqDiff, Nat.reduceLT, Nat.reduceLeDiff, Nat.reduceMul, reduceCtorEq]
  have q1 : ρ 1 = vp := by rw [hf 1 rfl]; simp (disch := omega) only [EO, ↓EP, EQ, EM, ↓reduceIte, Int.reduceAdd, Int.reduceEq, Int.reduceLE, Int.reduceLT, Int.reduceMul, Int.reduceNeg, Int.reducePow, Int.reduceSub, Int.reduceToNat, Nat.reduceAdd, Nat.reduceEqDiff, Nat.reduceLT, Nat.reduceLeDiff, Nat.reduceMul, reduceCtorEq]
  have q2 : ρ 2 = .int .u64 q := by rw [hf 2 rfl]; simp (disch := omega) only [EO, ↓EP, EQ, EM, ↓reduceIte, Int.reduceAdd, Int.reduceEq, Int.reduceLE, Int.reduceLT, Int.reduceMul, Int.reduceNeg, Int.reducePow, Int.reduceSub, Int.reduceToNat, Nat.reduceAdd, Nat.reduceEqDiff, Nat.reduceLT, Nat.reduceLeDiff, Nat.reduceMul, reduceCtorEq]
  clear hf
  have bz := hZ.at k
  have hs := hsame k (Nat.le_refl _)
  have ck := hBz.numN (j := k) (by omega)
  by_cases hkn : (k : Int) < (n : Int)
  · have qc := (hro.fr f1).rd.get (by rw [nums_length]; omega)
    obtain ⟨pa, eA, _, hpa⟩ := qc
    have cp := hpa.numN (j := k) (by omega)
    have bp := hP.at k
    have hm := mulB hq bp
    rw [eA] at ep
    have qx : ∃ x, x = q * at' p k + br := ⟨_, rfl⟩
    obtain ⟨x, hx⟩ := qx
    have hx0 : 0 ≤ x ∧ x < 18446744073709551616 := by omega
    have ha := andB hx0.1 hx0.2
    have hxd := Int.mul_ediv_add_emod x 4294967296
    have hxm : x / 4294967296 ≤ 4294967295 := by omega
    have t1 := val_take_succ' r k
    have t2 := val_take_succ' p k
    by_cases hlt : at' z k < x % 4294967296
    · simp (disch := omega) only [wu64, wu32, wu8, fdiv_nn, EO, ↓EP, EQ, EM, ↓reduceIte, Int.reduceAdd, Int.reduceEq, Int.reduceLE, Int.reduceLT, Int.reduceMul, Int.reduceNeg, Int.reducePow, Int.reduceSub, Int.reduceToNat, Nat.reduceAdd, Nat.reduceEqDiff, Nat.reduceLT, Nat.reduceLeDiff, Nat.reduceMul, reduceCtorEq, W_join, h7, h6, q0, q1, q2, ep, cp, ← hx, ha, ck]
      refine st_num hBz (by omega) fun w2 p2 => ?_
      have ck2 := p2.blk.numN (j := k) (by rw [List.length_set]; omega)
      rw [at_setN (by omega)] at ck2
      simp (disch := omega) only [wu64, wu32, wu8, fdiv_nn, EO, ↓EP, EQ, EM, ↓reduceIte, Int.reduceAdd, Int.reduceEq, Int.reduceLE, Int.reduceLT, Int.reduceMul, Int.reduceNeg, Int.reducePow, Int.reduceSub, Int.reduceToNat, Nat.reduceAdd, Nat.reduceEqDiff, Nat.reduceLT, Nat.reduceLeDiff, Nat.reduceMul, reduceCtorEq, h7, q0, ck2]
      refine st_num p2.blk (by rw [List.length_set]; omega) fun w3 p3 => ?_
      simp (disch := omega) only [wu64, wu32, wu8, fdiv_nn, EO, ↓EP, EQ, EM, ↓reduceIte, Int.reduceAdd, Int.reduceEq, Int.reduceLE, Int.reduceLT, Int.reduceMul, Int.reduceNeg, Int.reducePow, Int.reduceSub, Int.reduceToNat, Nat.reduceAdd, Nat.reduceEqDiff, Nat.reduceLT, Nat.reduceLeDiff, Nat.reduceMul, reduceCtorEq, h7]
      refine hN (n - (k + 1)) _ _ (by omega) ⟨k + 1, z.set k (at' z k + 4294967296 - x % 4294967296), x / 4294967296 + 1, by simp (disch := omega) only [EO, ↓EP, EQ, EM, ↓reduceIte, Int.reduceAdd, Int.reduceEq, Int.reduceLE, Int.reduceLT, Int.reduceMul, Int.reduceNeg, Int.reducePow, Int.reduceSub, Int.reduceToNat, Nat.reduceAdd, Nat.reduceEqDiff, Nat.reduceLT, Nat.reduceLeDiff, Nat.reduceMul, reduceCtorEq, h7, Int.natCast_add], by omega, rfl, by simp (disch := omega) only [wu64, wu32, wu8, fdiv_nn, EO, ↓EP, EQ, EM, ↓reduceIte, Int.reduceAdd, Int.reduceEq, Int.reduceLE, Int.reduceLT, Int.reduceMul, Int.reduceNeg, Int.reducePow, Int.reduceSub, Int.reduceToNat, Nat.reduceAdd, Nat.reduceEqDiff, Nat.reduceLT, Nat.reduceLeDiff, Nat.reduceMul, reduceCtorEq], by omega, by omega, ?_, by simpa using hz, hZ.set _ (by omega) (by omega), ?_, fun j hj => ?_, (f1.trans p2.fr fun _ _ e => e).trans p3.fr fun _ _ e => e⟩
      · have := p3.blk
        rwa [List.set_set] at this
      · rw [val_take_set (by omega), t1, t2, pw_succ, ← hs]
        grind
      · rw [at_setO (by omega)]; exact hsame j (by omega)
    · simp (disch := omega) only [wu64, wu32, wu8, fdiv_nn, EO, ↓EP, EQ, EM, ↓reduceIte, Int.reduceAdd, Int.reduceEq, Int.reduceLE, Int.reduceLT, Int.reduceMul, Int.reduceNeg, Int.reducePow, Int.reduceSub, Int.reduceToNat, Nat.reduceAdd, Nat.reduceEqDiff, Nat.reduceLT, Nat.reduceLeDiff, Nat.reduceMul, reduceCtorEq, W_join, h7, h6, q0, q1, q2, ep, cp, ← hx, ha, ck]
      refine st_num hBz (by omega) fun w2 p2 => ?_
      simp (disch := omega) only [wu64, wu32, wu8, fdiv_nn, EO, ↓EP, EQ, EM, ↓reduceIte, Int.reduceAdd, Int.reduceEq, Int.reduceLE, Int.reduceLT, Int.reduceMul, Int.reduceNeg, Int.reducePow, Int.reduceSub, Int.reduceToNat, Nat.reduceAdd, Nat.reduceEqDiff, Nat.reduceLT, Nat.reduceLeDiff, Nat.reduceMul, reduceCtorEq, h7]
      refine hN (n - (k + 1)) _ _ (by omega) ⟨k + 1, z.set k (at' z k - x % 4294967296), x / 4294967296, by simp (disch := omega) only [EO, ↓EP, EQ, EM, ↓reduceIte, Int.reduceAdd, Int.reduceEq, Int.reduceLE, Int.reduceLT, Int.reduceMul, Int.reduceNeg, Int.reducePow, Int.reduceSub, Int.reduceToNat, Nat.reduceAdd, Nat.reduceEqDiff, Nat.reduceLT, Nat.reduceLeDiff, Nat.reduceMul, reduceCtorEq, h7, Int.natCast_add], by omega, rfl, by simp (disch := omega) only [wu64, wu32, wu8, fdiv_nn, EO, ↓EP, EQ, EM, ↓reduceIte, Int.reduceAdd, Int.reduceEq, Int.reduceLE, Int.reduceLT, Int.reduceMul, Int.reduceNeg, Int.reducePow, Int.reduceSub, Int.reduceToNat, Nat.reduceAdd, Nat.reduceEqDiff, Nat.reduceLT, Nat.reduceLeDiff, Nat.reduceMul, reduceCtorEq], by omega, by omega, p2.blk, by simpa using hz, hZ.set _ (by omega) (by omega), ?_, fun j hj => ?_, f1.trans p2.fr fun _ _ e => e⟩
      · rw [val_take_set (by omega), t1, t2, pw_succ, ← hs]
        grind
      · rw [at_setO (by omega)]; exact hsame j (by omega)
  · have hk : k = n := by omega
    subst hk
    have t1 := val_take_succ' r k
    have t2 := val_take_succ' z k
    rw [val_take_all (by omega)] at t1 t2
    rw [val_take_all (l := p) (by omega)] at hval
    have bt := val_bd (hZ.take k)
    have htk : (z.take k).length ≤ k := by simp; omega
    have hpk := pw_le htk
    have hpp := pw_pos k
    have hge : br ≤ at' z k := by
      by_cases h : br ≤ at' z k
      · exact h
      · exfalso
        rw [← hs] at t1
        have := mul_r (show at' z k + 1 ≤ br by omega) (show 0 ≤ pw k by omega)
        rw [Int.add_mul, Int.one_mul] at this
        omega
    simp (disch := omega) only [wu64, wu32, wu8, fdiv_nn, EO, ↓EP, EQ, EM, ↓reduceIte, Int.reduceAdd, Int.reduceEq, Int.reduceLE, Int.reduceLT, Int.reduceMul, Int.reduceNeg, Int.reducePow, Int.reduceSub, Int.reduceToNat, Nat.reduceAdd, Nat.reduceEqDiff, Nat.reduceLT, Nat.reduceLeDiff, Nat.reduceMul, reduceCtorEq, h7, h6, q0, q1, ep, ck]
    refine st_num hBz (by omega) fun w2 p2 => ?_
    simp (disch := omega) only [wu64, wu32, wu8, fdiv_nn, EO, ↓EP, EQ, EM, ↓reduceIte, Int.reduceAdd, Int.reduceEq, Int.reduceLE, Int.reduceLT, Int.reduceMul, Int.reduceNeg, Int.reducePow, Int.reduceSub, Int.reduceToNat, Nat.reduceAdd, Nat.reduceEqDiff, Nat.reduceLT, Nat.reduceLeDiff, Nat.reduceMul, reduceCtorEq]
    refine hK _ w2 p2.blk (by simpa using hz) (hZ.set _ (by omega) (by omega)) ?_ (f1.trans p2.fr fun _ _ e => e)
    have t3 := val_take_set (l := z) (k := k) (x := at' z k - br) (by omega)
    rw [val_take_all (by simp; omega)] at t3
    rw [t3, t1, ← hs]
    grind


theorem btake_same {a b : List Int} {k : Nat} : ∀ {n : Nat}, k ≤ n → (∀ j : Nat, k ≤ j → j < n → at' a j = at' b j) → val (a.take n) - val (b.take n) = val (a.take k) - val (b.take k)
  | 0, h, _ => by obtain rfl : k = 0 := by omega
                  rfl
  | n + 1, h, hs => by
    by_cases hk : k = n + 1
    · subst hk; rfl
    · have ih := btake_same (n := n) (a := a) (b := b) (k := k) (by omega) fun j h1 h2 => hs j h1 (by omega)
      rw [val_take_succ', val_take_succ', hs n (by omega) (by omega)]
      omega
theorem bval_same {a b : List Int} (h : ∀ j : Nat, at' a j = at' b j) : val a = val b := by
  have := btake_same (a := a) (b := b) (k := 0) (n := max a.length b.length) (Nat.zero_le _) fun j _ _ => h j
  rw [val_take_all (by omega), val_take_all (by omega)] at this
  simp [val_nil] at this
  omega
theorem bval_lt {a b : List Int} (ha : Lim a) (hb : Lim b) {k : Nat} (h : ∀ j : Nat, k < j → at' a j = at' b j) (hlt : at' a k < at' b k) : val a < val b := by
  have := btake_same (a := a) (b := b) (k := k + 1) (n := max (max a.length b.length) (k + 1)) (by omega) fun j h1 _ => h j (by omega)
  rw [val_take_all (by omega), val_take_all (by omega), val_take_succ', val_take_succ'] at this
  have h1 := (val_bd (ha.take k)).2
  have h2 := (val_bd (hb.take k)).1
  have hle := pw_le (show (a.take k).length ≤ k by simp; omega)
  have h3 := mul_r (show at' a k + 1 ≤ at' b k by omega) (show 0 ≤ pw k by have := pw_pos k; omega)
  rw [Int.add_mul, Int.one_mul] at h3
  omega
set_option maxHeartbeats 1000000 in
theorem reach_spec {w : World} {vr vp : Value} {r p : List Int} {n : Nat} (hv : Vw .u64 w vr r) (hq : Vw .u64 w vp p) (hr : r.length = n + 1) (hp : p.length = n) (hR : Lim r) (hP : Lim p) (hn : n ≤ 16777216) (K : Value → World → Prop)
    (hK : ∀ w', Fr w w' nob → K (.bool (decide (val p ≤ val r))) w') : callK Try.prog 76 [vr, vp] w K := by
  obtain ⟨A, c, rfl, hc, hl⟩ := hv
  obtain ⟨B, d, rfl, hd, hl2⟩ := hq
  rw [hr, hp]
  have qc := hl.get (by rw [nums_length]; omega)
  obtain ⟨pa, eA, _, hpa⟩ := qc
  subst eA
  have ct := hpa.numN (j := n) (by omega)
  have bt := hR.at (n : Nat)
  refine call_of Try.func76 Code.h76 (by simp [Code.c76]) ?_
  by_cases htop : 0 < at' r (n : Nat)
  · have hlt := bval_lt hP hR (k := n) (fun j hj => by rw [at_ge (by omega), at_ge (by omega)]) (by rw [at_ge (l := p) (by omega)]; exact htop)
    simp (disch := omega) only [wu64, wu32, wu8, fdiv_nn, EO, ↓EP, EQ, EM, ↓reduceIte, Int.reduceAdd, Int.reduceEq, Int.reduceLE, Int.reduceLT, Int.reduceMul, Int.reduceNeg, Int.reducePow, Int.reduceSub, Int.reduceToNat, Nat.reduceAdd, Nat.reduceEqDiff, Nat.reduceLT, Nat.reduceLeDiff, Nat.reduceMul, reduceCtorEq, Code.c76, ct]
    have := hK w (Fr.refl _ _)
    rwa [decide_eq_true (by omega)] at this
  simp (disch := omega) only [wu64, wu32, wu8, fdiv_nn, EO, ↓EP, EQ, EM, ↓reduceIte, Int.reduceAdd, Int.reduceEq, Int.reduceLE, Int.reduceLT, Int.reduceMul, Int.reduceNeg, Int.reducePow, Int.reduceSub, Int.reduceToNat, Nat.reduceAdd, Nat.reduceEqDiff, Nat.reduceLT, Nat.reduceLeDiff, Nat.reduceMul, reduceCtorEq, Code.c76, ct]
  refine loop_inv (fun t ρ w' => ∃ j, w' = w.drewN j ∧ ρ 5 = .int .i64 ((t : Int) - 1) ∧ t ≤ n ∧ ∀ i : Nat, t ≤ i → at' r i = at' p i) n
    ⟨0, rfl, by simp (disch := omega) only [EO, ↓EP, EQ, EM, ↓reduceIte, Int.reduceAdd, Int.reduceEq, Int.reduceLE, Int.reduceLT, Int.reduceMul, Int.reduceNeg, Int.reducePow, Int.reduceSub, Int.reduceToNat, Nat.reduceAdd, Nat.reduceEqDiff, Nat.reduceLT, Nat.reduceLeDiff, Nat.reduceMul, reduceCtorEq], Nat.le_refl _, fun i hi => ?_⟩ ?_
  · by_cases h : i = n
    · subst h; rw [at_ge (l := p) (by omega)]; omega
    · rw [at_ge (by omega), at_ge (by omega)]
  rintro t ρ w' hf ⟨j, rfl, h5, ht, hs⟩ N hN
  have q0 : ρ 0 = .slice (some pa) (n + 1) c := by rw [hf 0 rfl]; simp (disch := omega) only [EO, ↓EP, EQ, EM, ↓reduceIte, Int.reduceAdd, Int.reduceEq, Int.reduceLE, Int.reduceLT, Int.reduceMul, Int.reduceNeg, Int.reducePow, Int.reduceSub, Int.reduceToNat, Nat.reduceAdd, Nat.reduceEqDiff, Nat.reduceLT, Nat.reduceLeDiff, Nat.reduceMul, reduceCtorEq]
  have q1 : ρ 1 = .slice B n d := by rw [hf 1 rfl]; simp (disch := omega) only [EO, ↓EP, EQ, EM, ↓reduceIte, Int.reduceAdd, Int.reduceEq, Int.reduceLE, Int.reduceLT, Int.reduceMul, Int.reduceNeg, Int.reducePow, Int.reduceSub, Int.reduceToNat, Nat.reduceAdd, Nat.reduceEqDiff, Nat.reduceLT, Nat.reduceLeDiff, Nat.reduceMul, reduceCtorEq]
  clear hf
  cases t with
  | zero =>
    have e := bval_same (a := r) (b := p) fun j => hs j (Nat.zero_le _)
    simp (disch := omega) only [EO, ↓EP, EQ, EM, ↓reduceIte, Int.reduceAdd, Int.reduceEq, Int.reduceLE, Int.reduceLT, Int.reduceMul, Int.reduceNeg, Int.reducePow, Int.reduceSub, Int.reduceToNat, Nat.reduceAdd, Nat.reduceEqDiff, Nat.reduceLT, Nat.reduceLeDiff, Nat.reduceMul, reduceCtorEq, h5, Int.natCast_zero]
    have := hK (w.drewN j) (Fr.drewN w _ _)
    rwa [decide_eq_true (by omega)] at this
  | succ k =>
    have e1 : ((k + 1 : Nat) : Int) - 1 = (k : Int) := by omega
    rw [e1] at h5
    have qd := hl2.get (by rw [nums_length]; omega)
    obtain ⟨pb, eB, _, hpb⟩ := qd
    rw [eB] at q1
    have ck := hpa.numN (j := k) (by omega)
    have cp := hpb.numN (j := k) (by omega)
    by_cases he : at' r k = at' p k
    · simp (disch := omega) only [EO, ↓EP, EQ, EM, ↓reduceIte, Int.reduceAdd, Int.reduceEq, Int.reduceLE, Int.reduceLT, Int.reduceMul, Int.reduceNeg, Int.reducePow, Int.reduceSub, Int.reduceToNat, Nat.reduceAdd, Nat.reduceEqDiff, Nat.reduceLT, Nat.reduceLeDiff, Nat.reduceMul, reduceCtorEq, h5, q0, q1, ck, cp, he]
      intro m1
      exact hN k _ _ (by omega) ⟨_, rfl, by simp (disch := omega) only [EO, ↓EP, EQ, EM, ↓reduceIte, Int.reduceAdd, Int.reduceEq, Int.reduceLE, Int.reduceLT, Int.reduceMul, Int.reduceNeg, Int.reducePow, Int.reduceSub, Int.reduceToNat, Nat.reduceAdd, Nat.reduceEqDiff, Nat.reduceLT, Nat.reduceLeDiff, Nat.reduceMul, reduceCtorEq, h5], by omega, fun i hi => by
        by_cases hik : i = k
        · subst hik; exact he
        · exact hs i (by omega)⟩
    · have hf1 : (at' r k = at' p k) = False := eq_false he
      simp (disch := omega) only [EO, ↓EP, EQ, EM, ↓reduceIte, Int.reduceAdd, Int.reduceEq, Int.reduceLE, Int.reduceLT, Int.reduceMul, Int.reduceNeg, Int.reducePow, Int.reduceSub, Int.reduceToNat, Nat.reduceAdd, Nat.reduceEqDiff, Nat.reduceLT, Nat.reduceLeDiff, Nat.reduceMul, reduceCtorEq, h5, q0, q1, ck, cp, hf1]
      intro m1 m2
      have := hK (w.drewN (j + (m1 + m2))) (Fr.drewN w _ _)
      have hd : decide (val p ≤ val r) = decide (at' p k < at' r k) := by
        by_cases g : at' p k < at' r k
        · have := bval_lt hP hR (k := k) (fun i hi => (hs i (by omega)).symm) g
          rw [decide_eq_true g, decide_eq_true (by omega)]
        · have := bval_lt hR hP (k := k) (fun i hi => hs i (by omega)) (by omega)
          rw [decide_eq_false g, decide_eq_false (by omega)]
      rw [hd] at this
      first | exact this | (rw [Nat.add_assoc]; exact this)
theorem bval_step {o : List Int} {k : Nat} {x y : Int} (h : k < o.length) : val ((o.set k x).take (k + 1)) + y * pw (k + 1) = val (o.take k) + (x + 4294967296 * y) * pw k := by
  rw [val_take_set h, pw_succ]; grind
/-- A rest, a limb more. -/
theorem shift_val {z z' : List Int} {n : Nat} {x : Int} (hz : z.length = n + 1) (hz' : z'.length = n + 1) (h0 : at' z' 0 = x) (hs : ∀ j : Nat, j < n → at' z' (j + 1 : Nat) = at' z j) (htop : at' z n = 0) : val z' = x + 4294967296 * val z := by
  have e : z' = x :: z.take n := by
    apply List.ext_getElem
    · simp; omega
    · intro i h1 h2
      cases i with
      | zero =>
        have := at_get (l := z') (k := 0) (by omega)
        rw [List.getElem_cons_zero, ← this]; exact h0
      | succ i =>
        have e1 := at_get (l := z') (k := i + 1) h1
        have e2 := at_get (l := z) (k := i) (by omega)
        rw [List.getElem_cons_succ, List.getElem_take, ← e1, ← e2]
        exact hs i (by omega)
  rw [e, val_cons]
  have := val_take_succ' z n
  rw [htop, val_take_all (by omega)] at this
  rw [this]; omega
theorem top_q {T P H R n : Int} : True := trivial


theorem top_zero {z : List Int} {n : Nat} (hz : z.length = n + 1) (hZ : Lim z) (h : val z < pw n) : at' z n = 0 := by
  have e := val_take_succ' z n
  rw [val_take_all (by omega)] at e
  have b1 := (val_bd (hZ.take n)).1
  have b2 := hZ.at n
  by_cases h0 : at' z n = 0
  · exact h0
  · exfalso
    have := mul_r (show 1 ≤ at' z n by omega) (show 0 ≤ pw n by have := pw_pos n; omega)
    omega
theorem quot_le {R P T D W lo : Int} {q : Int} (hW : 0 < W) (hD : 0 < D) (hq : q = T / D) (hT : 0 ≤ T) (hP : P < D * W) (hP0 : 0 < P) (hR : R = T * W + lo) (hlo : 0 ≤ lo) (hRP : R < 4294967296 * P) : 0 ≤ q ∧ q < 4294967296 ∧ q * P ≤ R := by
  have q0 : 0 ≤ q := by rw [hq]; exact Int.ediv_nonneg hT (by omega)
  have h1 : q * D ≤ T := by
    have := Int.mul_ediv_add_emod T D
    have := Int.emod_nonneg T (show D ≠ 0 by omega)
    rw [hq, Int.mul_comm]; omega
  have h2 : q * P ≤ q * (D * W) := Int.mul_le_mul_of_nonneg_left (by omega) q0
  have h3 := mul_r h1 (show 0 ≤ W by omega)
  have e : q * (D * W) = q * D * W := by rw [Int.mul_assoc]
  have h4 : q * P ≤ R := by omega
  refine ⟨q0, ?_, h4⟩
  exact lt_of_mul (show q * P < 4294967296 * P by omega) (by omega)
theorem mod_step {x V P v : Int} (h : v = V % P) : (x + 4294967296 * v) % P = (x + 4294967296 * V) % P := by
  rw [h, Int.add_emod, Int.mul_emod, Int.emod_emod, ← Int.mul_emod, ← Int.add_emod]
set_option maxHeartbeats 4000000 in
theorem rproduct_vw {w : World} {va vb vp : Value} {l r p : List Int} {n : Nat} (ha : Vw .u64 w va l) (hb : Vw .u64 w vb r) (hp : Vw .u64 w vp p) (la : l.length = n) (lb : r.length = n) (lp : p.length = n) (hL : Lim l) (hR : Lim r) (hP : Lim p) (hn1 : 1 ≤ n) (hn : n ≤ 1000000) (htop : 2147483648 ≤ at' p (n - 1 : Nat)) (K : Value → World → Prop)
    (hK : ∀ o v w', Gw .u64 w w' v o → o.length = n → Lim o → val o = val l * val r % val p → K v w') : callK Try.prog 65 [va, vb, vp] w K := by
  obtain ⟨A, c, ea, hc, hl⟩ := id ha
  obtain ⟨B, d, eb, hd, hr⟩ := id hb
  obtain ⟨C, e, ep, he, hpr⟩ := id hp
  rw [la] at ea
  rw [lb] at eb
  rw [lp] at ep
  refine call_of Try.func65 Code.h65 (by simp [Code.c65]) ?_
  have eN : (2 * (n : Int)).toNat = 2 * n := by omega
  simp (disch := omega) only [EO, ↓EP, EQ, EM, ↓reduceIte, Int.reduceAdd, Int.reduceEq, Int.reduceLE, Int.reduceLT, Int.reduceMul, Int.reduceNeg, Int.reducePow, Int.reduceSub, Int.reduceToNat, Nat.reduceAdd, Nat.reduceEqDiff, Nat.reduceLT, Nat.reduceLeDiff, Nat.reduceMul, reduceCtorEq, Code.c65, ep]
  refine al_k (nums .u64 (List.replicate (2 * n) 0)) (by rw [madeCells_list, nums_replicate, eN]) fun w1 n1 => ?_
  simp (disch := omega) only [EO, ↓EP, EQ, EM, ↓reduceIte, Int.reduceAdd, Int.reduceEq, Int.reduceLE, Int.reduceLT, Int.reduceMul, Int.reduceNeg, Int.reducePow, Int.reduceSub, Int.reduceToNat, Nat.reduceAdd, Nat.reduceEqDiff, Nat.reduceLT, Nat.reduceLeDiff, Nat.reduceMul, reduceCtorEq, eN]
  refine loop_inv (fun t ρ w2 => ∃ (i : Nat) (o : List Int), ρ 9 = .int .i64 i ∧ i ≤ n ∧ t = n - i ∧ Blk w2 w.heap.size (nums .u64 o) ∧ o.length = 2 * n ∧ Lim o ∧ val (o.take (i + n)) = val (l.take i) * val r ∧ Fr w w2 nob) n
    ⟨0, List.replicate (2 * n) 0, by simp (disch := omega) only [EO, ↓EP, EQ, EM, ↓reduceIte, Int.reduceAdd, Int.reduceEq, Int.reduceLE, Int.reduceLT, Int.reduceMul, Int.reduceNeg, Int.reducePow, Int.reduceSub, Int.reduceToNat, Nat.reduceAdd, Nat.reduceEqDiff, Nat.reduceLT, Nat.reduceLeDiff, Nat.reduceMul, reduceCtorEq], by omega, rfl, n1.blk, by simp, Lim.zeros _, by simp [val_nil, val_zeros, List.take_replicate], n1.fr nob⟩ ?_
  rintro t ρ w2 hf ⟨i, o0, h9, hi, rfl, hB0, ho0, hO0, hv0, f2⟩ N hN
  have q0 : ρ 0 = va := by rw [hf 0 rfl]; simp (disch := omega) only [EO, ↓EP, EQ, EM, ↓reduceIte, Int.reduceAdd, Int.reduceEq, Int.reduceLE, Int.reduceLT, Int.reduceMul, Int.reduceNeg, Int.reducePow, Int.reduceSub, Int.reduceToNat, Nat.reduceAdd, Nat.reduceEqDiff, Nat.reduceLT, Nat.reduceLeDiff, Nat.reduceMul, reduceCtorEq]
  have q1 : ρ 1 = vb := by rw [hf 1 rfl]; simp (disch := omega) only [EO, ↓EP, EQ, EM, ↓reduceIte, Int.reduceAdd, Int.reduceEq, Int.reduceLE, Int.reduceLT, Int.reduceMul, Int.reduceNeg, Int.reducePow, Int.reduceSub, Int.reduceToNat, Nat.reduceAdd, Nat.reduceEqDiff, Nat.reduceLT, Nat.reduceLeDiff, Nat.reduceMul, reduceCtorEq]
  have q2 : ρ 2 = .slice C n e := by rw [hf 2 rfl]; simp (disch := omega) only [EO, ↓EP, EQ, EM, ↓reduceIte, Int.reduceAdd, Int.reduceEq, Int.reduceLE, Int.reduceLT, Int.reduceMul, Int.reduceNeg, Int.reducePow, Int.reduceSub, Int.reduceToNat, Nat.reduceAdd, Nat.reduceEqDiff, Nat.reduceLT, Nat.reduceLeDiff, Nat.reduceMul, reduceCtorEq, ep]
  have q7 : ρ 7 = .int .i64 n := by rw [hf 7 rfl]; simp (disch := omega) only [EO, ↓EP, EQ, EM, ↓reduceIte, Int.reduceAdd, Int.reduceEq, Int.reduceLE, Int.reduceLT, Int.reduceMul, Int.reduceNeg, Int.reducePow, Int.reduceSub, Int.reduceToNat, Nat.reduceAdd, Nat.reduceEqDiff, Nat.reduceLT, Nat.reduceLeDiff, Nat.reduceMul, reduceCtorEq, ep]
  have q8 : ρ 8 = .slice (some ⟨w.heap.size, 0, none⟩) (2 * n) (2 * n) := by rw [hf 8 rfl]; simp (disch := omega) only [EO, ↓EP, EQ, EM, ↓reduceIte, Int.reduceAdd, Int.reduceEq, Int.reduceLE, Int.reduceLT, Int.reduceMul, Int.reduceNeg, Int.reducePow, Int.reduceSub, Int.reduceToNat, Nat.reduceAdd, Nat.reduceEqDiff, Nat.reduceLT, Nat.reduceLeDiff, Nat.reduceMul, reduceCtorEq, eN]
  clear hf
  by_cases hil : (i : Int) < (n : Int)
  · have bx := hL.at i
    simp (disch := omega) only [EO, ↓EP, EQ, EM, ↓reduceIte, Int.reduceAdd, Int.reduceEq, Int.reduceLE, Int.reduceLT, Int.reduceMul, Int.reduceNeg, Int.reducePow, Int.reduceSub, Int.reduceToNat, Nat.reduceAdd, Nat.reduceEqDiff, Nat.reduceLT, Nat.reduceLeDiff, Nat.reduceMul, reduceCtorEq, h9, q7]
    refine loop_inv (fun t ρ2 w3 => ∃ (k : Nat) (o : List Int) (cr : Int), ρ2 11 = .int .i64 k ∧ k ≤ n ∧ t = n - k ∧ ρ2 10 = .int .u64 cr ∧ 0 ≤ cr ∧ cr < 4294967296 ∧ Blk w3 w.heap.size (nums .u64 o) ∧ o.length = 2 * n ∧ Lim o ∧ val (o.take (i + k)) + cr * pw (i + k) = val (o0.take (i + k)) + at' l i * val (r.take k) * pw i ∧ (∀ j : Nat, i + k ≤ j → at' o j = at' o0 j) ∧ Fr w w3 nob) n
      ⟨0, o0, 0, by simp (disch := omega) only [EO, ↓EP, EQ, EM, ↓reduceIte, Int.reduceAdd, Int.reduceEq, Int.reduceLE, Int.reduceLT, Int.reduceMul, Int.reduceNeg, Int.reducePow, Int.reduceSub, Int.reduceToNat, Nat.reduceAdd, Nat.reduceEqDiff, Nat.reduceLT, Nat.reduceLeDiff, Nat.reduceMul, reduceCtorEq], by omega, rfl, by simp (disch := omega) only [EO, ↓EP, EQ, EM, ↓reduceIte, Int.reduceAdd, Int.reduceEq, Int.reduceLE, Int.reduceLT, Int.reduceMul, Int.reduceNeg, Int.reducePow, Int.reduceSub, Int.reduceToNat, Nat.reduceAdd, Nat.reduceEqDiff, Nat.reduceLT, Nat.reduceLeDiff, Nat.reduceMul, reduceCtorEq], by omega, by omega, hB0, ho0, hO0, by simp [val_nil], fun _ _ => rfl, f2⟩ ?_
    rintro t ρ2 w3 hf ⟨k, o, cr, h11, hk, rfl, h10, hc0, hc1, hB, ho, hO, hv, hsame, f3⟩ N2 hN2
    have p0 : ρ2 0 = va := by rw [hf 0 rfl]; simp (disch := omega) only [EO, ↓EP, EQ, EM, ↓reduceIte, Int.reduceAdd, Int.reduceEq, Int.reduceLE, Int.reduceLT, Int.reduceMul, Int.reduceNeg, Int.reducePow, Int.reduceSub, Int.reduceToNat, Nat.reduceAdd, Nat.reduceEqDiff, Nat.reduceLT, Nat.reduceLeDiff, Nat.reduceMul, reduceCtorEq, q0]
    have p1 : ρ2 1 = vb := by rw [hf 1 rfl]; simp (disch := omega) only [EO, ↓EP, EQ, EM, ↓reduceIte, Int.reduceAdd, Int.reduceEq, Int.reduceLE, Int.reduceLT, Int.reduceMul, Int.reduceNeg, Int.reducePow, Int.reduceSub, Int.reduceToNat, Nat.reduceAdd, Nat.reduceEqDiff, Nat.reduceLT, Nat.reduceLeDiff, Nat.reduceMul, reduceCtorEq, q1]
    have p7 : ρ2 7 = .int .i64 n := by rw [hf 7 rfl]; simp (disch := omega) only [EO, ↓EP, EQ, EM, ↓reduceIte, Int.reduceAdd, Int.reduceEq, Int.reduceLE, Int.reduceLT, Int.reduceMul, Int.reduceNeg, Int.reducePow, Int.reduceSub, Int.reduceToNat, Nat.reduceAdd, Nat.reduceEqDiff, Nat.reduceLT, Nat.reduceLeDiff, Nat.reduceMul, reduceCtorEq, q7]
    have p8 : ρ2 8 = .slice (some ⟨w.heap.size, 0, none⟩) (2 * n) (2 * n) := by rw [hf 8 rfl]; simp (disch := omega) only [EO, ↓EP, EQ, EM, ↓reduceIte, Int.reduceAdd, Int.reduceEq, Int.reduceLE, Int.reduceLT, Int.reduceMul, Int.reduceNeg, Int.reducePow, Int.reduceSub, Int.reduceToNat, Nat.reduceAdd, Nat.reduceEqDiff, Nat.reduceLT, Nat.reduceLeDiff, Nat.reduceMul, reduceCtorEq, q8]
    have p9 : ρ2 9 = .int .i64 i := by rw [hf 9 rfl]; simp (disch := omega) only [EO, ↓EP, EQ, EM, ↓reduceIte, Int.reduceAdd, Int.reduceEq, Int.reduceLE, Int.reduceLT, Int.reduceMul, Int.reduceNeg, Int.reducePow, Int.reduceSub, Int.reduceToNat, Nat.reduceAdd, Nat.reduceEqDiff, Nat.reduceLT, Nat.reduceLeDiff, Nat.reduceMul, reduceCtorEq, h9]
    clear hf
    by_cases hkr : (k : Int) < (n : Int)
    · have qa := (hl.nb f3).get (by rw [nums_length]; omega)
      obtain ⟨pa, eA, _, hpa⟩ := qa
      have cp := hpa.numN (j := i) (by omega)
      have qb := (hr.nb f3).get (by rw [nums_length]; omega)
      obtain ⟨pb, eB, _, hpb⟩ := qb
      have cq := hpb.numN (j := k) (by omega)
      rw [eA] at ea
      rw [eB] at eb
      have co := hB.numN (j := i + k) (by omega)
      have by' := hR.at k
      have bo := hO.at (i + k : Nat)
      have hm := mul_bd bx by'
      have eik : ((i : Int) + (k : Int)).toNat = i + k := by omega
      have e1 := val_take_succ' r k
      have e2 := val_take_succ' o0 (i + k)
      have e3 := hsame (i + k) (Nat.le_refl _)
      rw [← e3] at e2
      have qT : ∃ T, T = at' l i * at' r k + at' o (i + k : Nat) + cr := ⟨_, rfl⟩
      obtain ⟨T, hT⟩ := qT
      have hT0 : 0 ≤ T ∧ T < 18446744073709551616 := by omega
      have hand := andB hT0.1 hT0.2
      simp (disch := omega) only [wu64, wu32, wu8, fdiv_nn, EO, ↓EP, EQ, EM, ↓reduceIte, Int.reduceAdd, Int.reduceEq, Int.reduceLE, Int.reduceLT, Int.reduceMul, Int.reduceNeg, Int.reducePow, Int.reduceSub, Int.reduceToNat, Nat.reduceAdd, Nat.reduceEqDiff, Nat.reduceLT, Nat.reduceLeDiff, Nat.reduceMul, reduceCtorEq, h11, h10, p0, p1, p7, p8, p9, ea, eb, cp, cq, co, eik, ← hT]
      intro m1
      simp (disch := omega) only [wu64, wu32, wu8, fdiv_nn, EO, ↓EP, EQ, EM, ↓reduceIte, Int.reduceAdd, Int.reduceEq, Int.reduceLE, Int.reduceLT, Int.reduceMul, Int.reduceNeg, Int.reducePow, Int.reduceSub, Int.reduceToNat, Nat.reduceAdd, Nat.reduceEqDiff, Nat.reduceLT, Nat.reduceLeDiff, Nat.reduceMul, reduceCtorEq, h11, p8, p9, eik, hand]
      refine st_num (hB.drewN m1) (by omega) fun w4 p4 => ?_
      have e4 := bval_step (o := o) (k := i + k) (x := T % 4294967296) (y := T / 4294967296) (by omega)
      simp (disch := omega) only [wu64, wu32, wu8, fdiv_nn, EO, ↓EP, EQ, EM, ↓reduceIte, Int.reduceAdd, Int.reduceEq, Int.reduceLE, Int.reduceLT, Int.reduceMul, Int.reduceNeg, Int.reducePow, Int.reduceSub, Int.reduceToNat, Nat.reduceAdd, Nat.reduceEqDiff, Nat.reduceLT, Nat.reduceLeDiff, Nat.reduceMul, reduceCtorEq, h11]
      refine hN2 (n - (k + 1)) _ _ (by omega) ⟨k + 1, _, T / 4294967296, by simp (disch := omega) only [EO, ↓EP, EQ, EM, ↓reduceIte, Int.reduceAdd, Int.reduceEq, Int.reduceLE, Int.reduceLT, Int.reduceMul, Int.reduceNeg, Int.reducePow, Int.reduceSub, Int.reduceToNat, Nat.reduceAdd, Nat.reduceEqDiff, Nat.reduceLT, Nat.reduceLeDiff, Nat.reduceMul, reduceCtorEq, h11, Int.natCast_add], by omega, rfl, by simp (disch := omega) only [EO, ↓EP, EQ, EM, ↓reduceIte, Int.reduceAdd, Int.reduceEq, Int.reduceLE, Int.reduceLT, Int.reduceMul, Int.reduceNeg, Int.reducePow, Int.reduceSub, Int.reduceToNat, Nat.reduceAdd, Nat.reduceEqDiff, Nat.reduceLT, Nat.reduceLeDiff, Nat.reduceMul, reduceCtorEq, hT], by omega, by omega, p4.blk, by rw [List.length_set]; exact ho, hO.set _ (by omega) (by omega), ?_, ?_, (f3.nb (Fr.drewN w3 m1 nob)).own p4.fr fun x e => by omega⟩
      · rw [show i + (k + 1) = i + k + 1 by omega, e4, e1, e2, pw_add] 
        rw [pw_add] at hv
        have := Int.mul_ediv_add_emod T 4294967296
        grind
      · intro j hj
        rw [at_setO (by omega)]
        exact hsame j (by omega)
    · have hk : k = n := by omega
      have e1 := val_take_succ' l i
      have eik : ((i : Int) + (n : Int)).toNat = i + n := by omega
      simp (disch := omega) only [wu64, wu32, wu8, fdiv_nn, EO, ↓EP, EQ, EM, ↓reduceIte, Int.reduceAdd, Int.reduceEq, Int.reduceLE, Int.reduceLT, Int.reduceMul, Int.reduceNeg, Int.reducePow, Int.reduceSub, Int.reduceToNat, Nat.reduceAdd, Nat.reduceEqDiff, Nat.reduceLT, Nat.reduceLeDiff, Nat.reduceMul, reduceCtorEq, h11, h10, p7, p8, p9, eik]
      refine st_num hB (by omega) fun w4 p4 => ?_
      simp (disch := omega) only [wu64, wu32, wu8, fdiv_nn, EO, ↓EP, EQ, EM, ↓reduceIte, Int.reduceAdd, Int.reduceEq, Int.reduceLE, Int.reduceLT, Int.reduceMul, Int.reduceNeg, Int.reducePow, Int.reduceSub, Int.reduceToNat, Nat.reduceAdd, Nat.reduceEqDiff, Nat.reduceLT, Nat.reduceLeDiff, Nat.reduceMul, reduceCtorEq, p9]
      refine hN (n - (i + 1)) _ _ (by omega) ⟨i + 1, _, by simp (disch := omega) only [EO, ↓EP, EQ, EM, ↓reduceIte, Int.reduceAdd, Int.reduceEq, Int.reduceLE, Int.reduceLT, Int.reduceMul, Int.reduceNeg, Int.reducePow, Int.reduceSub, Int.reduceToNat, Nat.reduceAdd, Nat.reduceEqDiff, Nat.reduceLT, Nat.reduceLeDiff, Nat.reduceMul, reduceCtorEq, p9, Int.natCast_add], by omega, rfl, p4.blk, by rw [List.length_set]; exact ho, hO.set _ (by omega) (by omega), ?_, f3.own p4.fr fun x e => by omega⟩
      rw [hk] at hv
      rw [show i + 1 + n = i + n + 1 by omega, val_take_set (by omega), hv, hv0, e1, val_take_all (l := r) (by omega)]
      grind
  have hi : i = n := by omega
  have hvt : val o0 = val l * val r := by
    rw [hi, val_take_all (by omega), val_take_all (by omega)] at hv0
    exact hv0
  clear hN hv0
  have eN1 : ((n : Int) + 1).toNat = n + 1 := by omega
  have ltt := hB0.lt
  have szt := f2.size
  simp (disch := omega) only [EO, ↓EP, EQ, EM, ↓reduceIte, Int.reduceAdd, Int.reduceEq, Int.reduceLE, Int.reduceLT, Int.reduceMul, Int.reduceNeg, Int.reducePow, Int.reduceSub, Int.reduceToNat, Nat.reduceAdd, Nat.reduceEqDiff, Nat.reduceLT, Nat.reduceLeDiff, Nat.reduceMul, reduceCtorEq, h9, q7]
  refine al_k (nums .u64 (List.replicate (n + 1) 0)) (by first | rw [madeCells_list, nums_replicate, eN1] | rw [madeCells_list, nums_replicate]) fun w3 n3 => ?_
  have f3 := f2.nb (n3.fr nob)
  have hT3 := hB0.nb (n3.fr nob)
  have hR3 := n3.blk
  have vp0 : Vr .u64 w vp p (fun b => b = w2.heap.size) := vw_vr hp fun b hb e => by omega
  have hP0 : 0 < val p := by
    have e := val_take_succ' p (n - 1)
    rw [val_take_all (by omega)] at e
    have b1 := (val_bd (hP.take (n - 1))).1
    have := mul_r (show 1 ≤ at' p (n - 1 : Nat) by omega) (show 0 ≤ pw (n - 1) by have := pw_pos (n - 1); omega)
    have := pw_pos (n - 1)
    omega
  have hPn : val p < pw n := by have := (val_bd hP).2; rwa [lp] at this
  have bt := hP.at (n - 1 : Nat)
  simp (disch := omega) only [EO, ↓EP, EQ, EM, ↓reduceIte, Int.reduceAdd, Int.reduceEq, Int.reduceLE, Int.reduceLT, Int.reduceMul, Int.reduceNeg, Int.reducePow, Int.reduceSub, Int.reduceToNat, Nat.reduceAdd, Nat.reduceEqDiff, Nat.reduceLT, Nat.reduceLeDiff, Nat.reduceMul, reduceCtorEq, q7, eN1]
  refine loop_inv (fun t ρ w' => ∃ z : List Int, ρ 14 = .int .i64 ((t : Int) - 1) ∧ t ≤ 2 * n ∧ Blk w' w2.heap.size (nums .u64 z) ∧ z.length = n + 1 ∧ Lim z ∧ val z = val (o0.drop t) % val p ∧ Blk w' w.heap.size (nums .u64 o0) ∧ Fr w w' nob) (2 * n)
    ⟨List.replicate (n + 1) 0, by (simp (disch := omega) only [EO, ↓EP, EQ, EM, ↓reduceIte, Int.reduceAdd, Int.reduceEq, Int.reduceLE, Int.reduceLT, Int.reduceMul, Int.reduceNeg, Int.reducePow, Int.reduceSub, Int.reduceToNat, Nat.reduceAdd, Nat.reduceEqDiff, Nat.reduceLT, Nat.reduceLeDiff, Nat.reduceMul, reduceCtorEq, q7]) <;> (try congr 1) <;> (try omega), Nat.le_refl _, hR3, by simp, Lim.zeros _, by rw [val_zeros, List.drop_of_length_le (by omega), val_nil, Int.zero_emod], hT3, f3⟩ ?_
  rintro t ρ3 w4 hf ⟨z, h14, ht, hBz, hz, hZ, hvz, hT4, f4⟩ N hN
  have p2 : ρ3 2 = vp := by rw [hf 2 rfl]; simp (disch := omega) only [EO, ↓EP, EQ, EM, ↓reduceIte, Int.reduceAdd, Int.reduceEq, Int.reduceLE, Int.reduceLT, Int.reduceMul, Int.reduceNeg, Int.reducePow, Int.reduceSub, Int.reduceToNat, Nat.reduceAdd, Nat.reduceEqDiff, Nat.reduceLT, Nat.reduceLeDiff, Nat.reduceMul, reduceCtorEq, q2, ep]
  have p7 : ρ3 7 = .int .i64 n := by rw [hf 7 rfl]; simp (disch := omega) only [EO, ↓EP, EQ, EM, ↓reduceIte, Int.reduceAdd, Int.reduceEq, Int.reduceLE, Int.reduceLT, Int.reduceMul, Int.reduceNeg, Int.reducePow, Int.reduceSub, Int.reduceToNat, Nat.reduceAdd, Nat.reduceEqDiff, Nat.reduceLT, Nat.reduceLeDiff, Nat.reduceMul, reduceCtorEq, q7]
  have p8 : ρ3 8 = .slice (some ⟨w.heap.size, 0, none⟩) (2 * n) (2 * n) := by rw [hf 8 rfl]; simp (disch := omega) only [EO, ↓EP, EQ, EM, ↓reduceIte, Int.reduceAdd, Int.reduceEq, Int.reduceLE, Int.reduceLT, Int.reduceMul, Int.reduceNeg, Int.reducePow, Int.reduceSub, Int.reduceToNat, Nat.reduceAdd, Nat.reduceEqDiff, Nat.reduceLT, Nat.reduceLeDiff, Nat.reduceMul, reduceCtorEq, q8]
  have p13 : ρ3 13 = .slice (some ⟨w2.heap.size, 0, none⟩) (n + 1) (n + 1) := by rw [hf 13 rfl]; simp (disch := omega) only [EO, ↓EP, EQ, EM, ↓reduceIte, Int.reduceAdd, Int.reduceEq, Int.reduceLE, Int.reduceLT, Int.reduceMul, Int.reduceNeg, Int.reducePow, Int.reduceSub, Int.reduceToNat, Nat.reduceAdd, Nat.reduceEqDiff, Nat.reduceLT, Nat.reduceLeDiff, Nat.reduceMul, reduceCtorEq, eN1]
  clear hf
  have hzlt : val z < val p := by rw [hvz]; exact Int.emod_lt_of_pos _ hP0
  have hz0 : 0 ≤ val z := (val_bd hZ).1
  have hztop := top_zero hz hZ (by omega)
  cases t with
  | zero =>
    simp (disch := omega) only [EO, ↓EP, EQ, EM, ↓reduceIte, Int.reduceAdd, Int.reduceEq, Int.reduceLE, Int.reduceLT, Int.reduceMul, Int.reduceNeg, Int.reducePow, Int.reduceSub, Int.reduceToNat, Nat.reduceAdd, Nat.reduceEqDiff, Nat.reduceLT, Nat.reduceLeDiff, Nat.reduceMul, reduceCtorEq, h14, p7, p13, Int.natCast_zero]
    rw [List.drop_zero, hvt] at hvz
    have g := own_cut (m := n) hBz (show w.heap.size ≤ w2.heap.size from szt) f4 hz (by omega) rfl
    refine hK (z.take n) _ w4 g (by simp; omega) (hZ.take n) ?_
    have e1 := val_take_succ' z n
    rw [hztop, val_take_all (by omega)] at e1
    rw [← hvz]; omega
  | succ i =>
    have h14' : ρ3 14 = .int .i64 i := by rw [h14]; congr 1; omega
    simp (disch := omega) only [EO, ↓EP, EQ, EM, ↓reduceIte, Int.reduceAdd, Int.reduceEq, Int.reduceLE, Int.reduceLT, Int.reduceMul, Int.reduceNeg, Int.reducePow, Int.reduceSub, Int.reduceToNat, Nat.reduceAdd, Nat.reduceEqDiff, Nat.reduceLT, Nat.reduceLeDiff, Nat.reduceMul, reduceCtorEq, h14', p7]
    refine loop_inv (fun s ρ w' => ∃ z' : List Int, ρ 15 = .int .i64 (s : Nat) ∧ s ≤ n ∧ Blk w' w2.heap.size (nums .u64 z') ∧ z'.length = n + 1 ∧ Lim z' ∧ (∀ j : Nat, j ≤ n → at' z' j = if s < j then at' z (j - 1 : Nat) else at' z j) ∧ Blk w' w.heap.size (nums .u64 o0) ∧ Fr w w' nob) n
      ⟨z, by simp (disch := omega) only [EO, ↓EP, EQ, EM, ↓reduceIte, Int.reduceAdd, Int.reduceEq, Int.reduceLE, Int.reduceLT, Int.reduceMul, Int.reduceNeg, Int.reducePow, Int.reduceSub, Int.reduceToNat, Nat.reduceAdd, Nat.reduceEqDiff, Nat.reduceLT, Nat.reduceLeDiff, Nat.reduceMul, reduceCtorEq, p7], Nat.le_refl _, hBz, hz, hZ, fun j hj => by rw [if_neg (by omega)], hT4, f4⟩ ?_
    rintro s ρ4 w5 hf ⟨z', h15, hs, hB5, hz5, hZ5, hrel, hT5, f5⟩ N2 hN2
    have r2 : ρ4 2 = vp := by rw [hf 2 rfl]; simp (disch := omega) only [EO, ↓EP, EQ, EM, ↓reduceIte, Int.reduceAdd, Int.reduceEq, Int.reduceLE, Int.reduceLT, Int.reduceMul, Int.reduceNeg, Int.reducePow, Int.reduceSub, Int.reduceToNat, Nat.reduceAdd, Nat.reduceEqDiff, Nat.reduceLT, Nat.reduceLeDiff, Nat.reduceMul, reduceCtorEq, p2]
    have r7 : ρ4 7 = .int .i64 n := by rw [hf 7 rfl]; simp (disch := omega) only [EO, ↓EP, EQ, EM, ↓reduceIte, Int.reduceAdd, Int.reduceEq, Int.reduceLE, Int.reduceLT, Int.reduceMul, Int.reduceNeg, Int.reducePow, Int.reduceSub, Int.reduceToNat, Nat.reduceAdd, Nat.reduceEqDiff, Nat.reduceLT, Nat.reduceLeDiff, Nat.reduceMul, reduceCtorEq, p7]
    have r8 : ρ4 8 = .slice (some ⟨w.heap.size, 0, none⟩) (2 * n) (2 * n) := by rw [hf 8 rfl]; simp (disch := omega) only [EO, ↓EP, EQ, EM, ↓reduceIte, Int.reduceAdd, Int.reduceEq, Int.reduceLE, Int.reduceLT, Int.reduceMul, Int.reduceNeg, Int.reducePow, Int.reduceSub, Int.reduceToNat, Nat.reduceAdd, Nat.reduceEqDiff, Nat.reduceLT, Nat.reduceLeDiff, Nat.reduceMul, reduceCtorEq, p8]
    have r13 : ρ4 13 = .slice (some ⟨w2.heap.size, 0, none⟩) (n + 1) (n + 1) := by rw [hf 13 rfl]; simp (disch := omega) only [EO, ↓EP, EQ, EM, ↓reduceIte, Int.reduceAdd, Int.reduceEq, Int.reduceLE, Int.reduceLT, Int.reduceMul, Int.reduceNeg, Int.reducePow, Int.reduceSub, Int.reduceToNat, Nat.reduceAdd, Nat.reduceEqDiff, Nat.reduceLT, Nat.reduceLeDiff, Nat.reduceMul, reduceCtorEq, p13]
    have r14 : ρ4 14 = .int .i64 i := by rw [hf 14 rfl]; simp (disch := omega) only [EO, ↓EP, EQ, EM, ↓reduceIte, Int.reduceAdd, Int.reduceEq, Int.reduceLE, Int.reduceLT, Int.reduceMul, Int.reduceNeg, Int.reducePow, Int.reduceSub, Int.reduceToNat, Nat.reduceAdd, Nat.reduceEqDiff, Nat.reduceLT, Nat.reduceLeDiff, Nat.reduceMul, reduceCtorEq, h14']
    clear hf
    cases s with
    | succ s =>
      have c1 := hB5.numN (j := s) (by omega)
      have b1 := hZ5.at (s : Nat)
      have es : ((s + 1 : Nat) : Int) - 1 = (s : Int) := by omega
      simp (disch := omega) only [wu64, wu32, wu8, fdiv_nn, EO, ↓EP, EQ, EM, ↓reduceIte, Int.reduceAdd, Int.reduceEq, Int.reduceLE, Int.reduceLT, Int.reduceMul, Int.reduceNeg, Int.reducePow, Int.reduceSub, Int.reduceToNat, Nat.reduceAdd, Nat.reduceEqDiff, Nat.reduceLT, Nat.reduceLeDiff, Nat.reduceMul, reduceCtorEq, h15, r13, es, c1]
      refine st_num hB5 (by omega) fun w6 p6 => ?_
      simp (disch := omega) only [wu64, wu32, wu8, fdiv_nn, EO, ↓EP, EQ, EM, ↓reduceIte, Int.reduceAdd, Int.reduceEq, Int.reduceLE, Int.reduceLT, Int.reduceMul, Int.reduceNeg, Int.reducePow, Int.reduceSub, Int.reduceToNat, Nat.reduceAdd, Nat.reduceEqDiff, Nat.reduceLT, Nat.reduceLeDiff, Nat.reduceMul, reduceCtorEq, h15, es]
      refine hN2 s _ _ (by omega) ⟨_, by simp (disch := omega) only [EO, ↓EP, EQ, EM, ↓reduceIte, Int.reduceAdd, Int.reduceEq, Int.reduceLE, Int.reduceLT, Int.reduceMul, Int.reduceNeg, Int.reducePow, Int.reduceSub, Int.reduceToNat, Nat.reduceAdd, Nat.reduceEqDiff, Nat.reduceLT, Nat.reduceLeDiff, Nat.reduceMul, reduceCtorEq, h15, es], by omega, p6.blk, by simpa using hz5, hZ5.set _ b1.1 b1.2, fun j hj => ?_, p6.keep (by omega) hT5, f5.own p6.fr fun x e => by omega⟩
      by_cases hj1 : j = s + 1
      · subst hj1
        rw [at_setN (by omega), hrel s (by omega), if_neg (by omega), if_pos (by omega), show s + 1 - 1 = s by omega]
      · rw [at_setO (by omega), hrel j hj]
        by_cases h : s + 1 < j
        · rw [if_pos h, if_pos (by omega)]
        · rw [if_neg h, if_neg (by omega)]
    | zero =>
      have ct := hT5.numN (j := i) (by omega)
      have bti := hO0.at (i : Nat)
      simp (disch := omega) only [wu64, wu32, wu8, fdiv_nn, EO, ↓EP, EQ, EM, ↓reduceIte, Int.reduceAdd, Int.reduceEq, Int.reduceLE, Int.reduceLT, Int.reduceMul, Int.reduceNeg, Int.reducePow, Int.reduceSub, Int.reduceToNat, Nat.reduceAdd, Nat.reduceEqDiff, Nat.reduceLT, Nat.reduceLeDiff, Nat.reduceMul, reduceCtorEq, h15, r2, r7, r8, r13, r14, Int.natCast_zero, ct]
      refine st_num (j := 0) hB5 (by omega) fun w6 p6 => ?_
      have hZ6 := hZ5.set 0 bti.1 bti.2
      have hz6 : (z'.set 0 (at' o0 i)).length = n + 1 := by rw [List.length_set]; exact hz5
      have hval6 : val (z'.set 0 (at' o0 i)) = at' o0 i + 4294967296 * val z := by
        refine shift_val hz hz6 ?_ (fun j hj => ?_) hztop
        · have := at_setN (l := z') (k := 0) (by omega) (at' o0 i); exact this
        · rw [at_setO (by omega), hrel (j + 1) (by omega), if_pos (by omega), show j + 1 - 1 = j by omega]
      have f6 := f5.own p6.fr fun x e => by omega
      have hT6 := p6.keep (by omega) hT5
      have hB6 := p6.blk
      generalize z'.set 0 (at' o0 i) = z1 at hZ6 hz6 hval6 hB6
      have vp6 := vp0.fr (f6.any _)
      have qv := vp6
      obtain ⟨C', e', ep', he', hro⟩ := qv
      rw [lp] at ep' he'
      have qc := hro.rd.get (by rw [nums_length]; omega)
      obtain ⟨pc, eC, _, hpc⟩ := qc
      rw [eC] at ep'
      have cpt := hpc.numN (j := n - 1) (by omega)
      have cz1 := hB6.numN (j := n) (by omega)
      have cz0 := hB6.numN (j := n - 1) (by omega)
      have bz1 := hZ6.at (n : Nat)
      have bz0 := hZ6.at (n - 1 : Nat)
      have en1 : (n : Int) - 1 = ((n - 1 : Nat) : Int) := by omega
      have eo := or_shl (a := at' z1 (n : Nat)) (b := at' z1 (n - 1 : Nat)) bz1.1 bz1.2 bz0.1 bz0.2
      have qT : ∃ T, T = at' z1 (n : Nat) * 4294967296 + at' z1 (n - 1 : Nat) := ⟨_, rfl⟩
      obtain ⟨T, hT⟩ := qT
      rw [← hT] at eo
      have hT0 : 0 ≤ T ∧ T < 18446744073709551616 := by omega
      have qq : ∃ q, q = T / (at' p (n - 1 : Nat) + 1) := ⟨_, rfl⟩
      obtain ⟨q, hq⟩ := qq
      have hsplit : val z1 = T * pw (n - 1) + val (z1.take (n - 1)) := by
        have e1 := val_take_succ' z1 n
        have e2 := val_take_succ' z1 (n - 1)
        rw [show n - 1 + 1 = n by omega] at e2
        rw [val_take_all (by omega), e2, show pw n = pw (n - 1) * 4294967296 by rw [← pw_succ, show n - 1 + 1 = n by omega]] at e1
        rw [e1, hT]; grind
      have hlow := (val_bd (hZ6.take (n - 1))).1
      have hPD : val p < (at' p (n - 1 : Nat) + 1) * pw (n - 1) := by
        have e1 := val_take_succ' p (n - 1)
        rw [show n - 1 + 1 = n by omega, val_take_all (by omega)] at e1
        have h2 := (val_bd (hP.take (n - 1))).2
        have h3 := pw_le (show (p.take (n - 1)).length ≤ n - 1 by simp; omega)
        rw [Int.add_mul, Int.one_mul]; omega
      obtain ⟨hq0, hq1, hq2⟩ := quot_le (pw_pos (n - 1)) (show 0 < at' p (n - 1 : Nat) + 1 by omega) hq hT0.1 hPD hP0 hsplit hlow (by omega)
      have hqT : q ≤ T := by rw [hq]; exact Int.ediv_le_self _ hT0.1
      rw [ep'] at r2
      simp (disch := omega) only [wu64, wu32, wu8, fdiv_nn, EO, ↓EP, EQ, EM, ↓reduceIte, Int.reduceAdd, Int.reduceEq, Int.reduceLE, Int.reduceLT, Int.reduceMul, Int.reduceNeg, Int.reducePow, Int.reduceSub, Int.reduceToNat, Nat.reduceAdd, Nat.reduceEqDiff, Nat.reduceLT, Nat.reduceLeDiff, Nat.reduceMul, reduceCtorEq, r2, r7, r13, r14, en1, cz1, cz0, cpt, eo, ← hq]
      intro m1
      rw [← ep']
      refine take_spec (hB6.drewN _) hz6 lp hZ6 hP (by omega) (vp6.fr (Fr.drewN w6 _ _)) ⟨hq0, hq1⟩ hq2 _ fun z2 w7 hB7 hz7 hZ7 hv7 f7 => ?_
      have f67 := (f6.nb (Fr.drewN w6 _ nob)).own f7 fun x e => by omega
      have hT7 := (hT6.nb (Fr.drewN w6 _ nob)).fr f7 (by omega)
      have hm7 : val z2 % val p = (at' o0 i + 4294967296 * val z) % val p := by
        rw [hv7, hval6]
        have : at' o0 i + 4294967296 * val z - q * val p = (at' o0 i + 4294967296 * val z) + (-q) * val p := by grind
        rw [this, Int.add_mul_emod_self_right]
      simp (disch := omega) only [wu64, wu32, wu8, fdiv_nn, EO, ↓EP, EQ, EM, ↓reduceIte, Int.reduceAdd, Int.reduceEq, Int.reduceLE, Int.reduceLT, Int.reduceMul, Int.reduceNeg, Int.reducePow, Int.reduceSub, Int.reduceToNat, Nat.reduceAdd, Nat.reduceEqDiff, Nat.reduceLT, Nat.reduceLeDiff, Nat.reduceMul, reduceCtorEq, r7, r13, r14]
      intro m2
      refine loop_inv (fun t ρ w' => ∃ z3 : List Int, t = (val z3).toNat ∧ Blk w' w2.heap.size (nums .u64 z3) ∧ z3.length = n + 1 ∧ Lim z3 ∧ val z3 % val p = (at' o0 i + 4294967296 * val z) % val p ∧ Blk w' w.heap.size (nums .u64 o0) ∧ Fr w w' nob) _
        ⟨z2, rfl, hB7.nb (Fr.drewN w7 _ nob), hz7, hZ7, hm7, hT7.nb (Fr.drewN w7 _ nob), f67.nb (Fr.drewN w7 _ nob)⟩ ?_
      rintro t ρ5 w8 hf ⟨z3, rfl, hB8, hz8, hZ8, hm8, hT8, f8⟩ N3 hN3
      have s2 : ρ5 2 = vp := by rw [hf 2 rfl]; simp (disch := omega) only [EO, ↓EP, EQ, EM, ↓reduceIte, Int.reduceAdd, Int.reduceEq, Int.reduceLE, Int.reduceLT, Int.reduceMul, Int.reduceNeg, Int.reducePow, Int.reduceSub, Int.reduceToNat, Nat.reduceAdd, Nat.reduceEqDiff, Nat.reduceLT, Nat.reduceLeDiff, Nat.reduceMul, reduceCtorEq, r2, ep']
      have s13 : ρ5 13 = .slice (some ⟨w2.heap.size, 0, none⟩) (n + 1) (n + 1) := by rw [hf 13 rfl]; simp (disch := omega) only [EO, ↓EP, EQ, EM, ↓reduceIte, Int.reduceAdd, Int.reduceEq, Int.reduceLE, Int.reduceLT, Int.reduceMul, Int.reduceNeg, Int.reducePow, Int.reduceSub, Int.reduceToNat, Nat.reduceAdd, Nat.reduceEqDiff, Nat.reduceLT, Nat.reduceLeDiff, Nat.reduceMul, reduceCtorEq, r13]
      have s14 : ρ5 14 = .int .i64 i := by rw [hf 14 rfl]; simp (disch := omega) only [EO, ↓EP, EQ, EM, ↓reduceIte, Int.reduceAdd, Int.reduceEq, Int.reduceLE, Int.reduceLT, Int.reduceMul, Int.reduceNeg, Int.reducePow, Int.reduceSub, Int.reduceToNat, Nat.reduceAdd, Nat.reduceEqDiff, Nat.reduceLT, Nat.reduceLeDiff, Nat.reduceMul, reduceCtorEq, r14]
      clear hf
      have vp8 := vp0.fr (f8.any _)
      have hr8 : Vw .u64 w8 (.slice (some ⟨w2.heap.size, 0, none⟩) (n + 1) (n + 1)) z3 := Vw.of hz8 (Nat.le_refl _) (blk_rd hB8)
      simp (disch := omega) only [EO, ↓EP, EQ, EM, ↓reduceIte, Int.reduceAdd, Int.reduceEq, Int.reduceLE, Int.reduceLT, Int.reduceMul, Int.reduceNeg, Int.reducePow, Int.reduceSub, Int.reduceToNat, Nat.reduceAdd, Nat.reduceEqDiff, Nat.reduceLT, Nat.reduceLeDiff, Nat.reduceMul, reduceCtorEq, s2, s13]
      refine reach_spec hr8 vp8.vw hz8 lp hZ8 hP (by omega) _ fun w9 f9 => ?_
      by_cases hge : val p ≤ val z3
      · have hd : decide (val p ≤ val z3) = true := decide_eq_true hge
        simp (disch := omega) only [EO, ↓EP, EQ, EM, ↓reduceIte, Int.reduceAdd, Int.reduceEq, Int.reduceLE, Int.reduceLT, Int.reduceMul, Int.reduceNeg, Int.reducePow, Int.reduceSub, Int.reduceToNat, Nat.reduceAdd, Nat.reduceEqDiff, Nat.reduceLT, Nat.reduceLeDiff, Nat.reduceMul, reduceCtorEq, hd, s2, s13]
        refine take_spec (hB8.nb f9) hz8 lp hZ8 hP (by omega) (vp8.fr (f9.any _)) ⟨by omega, by omega⟩ (by omega) _ fun z4 w10 hB10 hz10 hZ10 hv10 f10 => ?_
        have hb10 := (val_bd hZ10).1
        simp (disch := omega) only [EO, ↓EP, EQ, EM, ↓reduceIte, Int.reduceAdd, Int.reduceEq, Int.reduceLE, Int.reduceLT, Int.reduceMul, Int.reduceNeg, Int.reducePow, Int.reduceSub, Int.reduceToNat, Nat.reduceAdd, Nat.reduceEqDiff, Nat.reduceLT, Nat.reduceLeDiff, Nat.reduceMul, reduceCtorEq]
        refine hN3 (val z4).toNat _ _ (by omega) ⟨z4, rfl, hB10, hz10, hZ10, ?_, (hT8.nb f9).fr f10 (by omega), (f8.nb f9).own f10 fun x e => by omega⟩
        rw [← hm8, show val z3 = val z4 + 1 * val p by omega, Int.add_mul_emod_self_right]
      · have hd : decide (val p ≤ val z3) = false := decide_eq_false hge
        have hb8 := (val_bd hZ8).1
        simp (disch := omega) only [EO, ↓EP, EQ, EM, ↓reduceIte, Int.reduceAdd, Int.reduceEq, Int.reduceLE, Int.reduceLT, Int.reduceMul, Int.reduceNeg, Int.reducePow, Int.reduceSub, Int.reduceToNat, Nat.reduceAdd, Nat.reduceEqDiff, Nat.reduceLT, Nat.reduceLeDiff, Nat.reduceMul, reduceCtorEq, hd, s14]
        refine hN i _ _ (by omega) ⟨z3, by simp (disch := omega) only [EO, ↓EP, EQ, EM, ↓reduceIte, Int.reduceAdd, Int.reduceEq, Int.reduceLE, Int.reduceLT, Int.reduceMul, Int.reduceNeg, Int.reducePow, Int.reduceSub, Int.reduceToNat, Nat.reduceAdd, Nat.reduceEqDiff, Nat.reduceLT, Nat.reduceLeDiff, Nat.reduceMul, reduceCtorEq, s14], by omega, hB8.nb f9, hz8, hZ8, ?_, hT8.nb f9, f8.nb f9⟩
        rw [Int.emod_eq_of_lt hb8 (by omega)] at hm8
        rw [hm8, mod_step hvz, val_drop_at o0 (k := i) (by omega)]


theorem limb_bitsG {l : List Int} (hL : Lim l) (i r s : Nat) (hr : r + s ≤ 32) : at' l (i : Nat) / 2 ^ r % 2 ^ s = val l / 2 ^ (32 * i + r) % 2 ^ s := by
  have e1 : val l = val (l.take i) + pw i * val (l.drop i) := by
    by_cases h : i ≤ l.length
    · exact val_split l h
    · rw [List.take_of_length_le (by omega), List.drop_of_length_le (by omega), val_nil]; omega
  have b1 := val_bd (hL.take i)
  have e2 : val (l.drop i) = at' l (i : Nat) + 4294967296 * val (l.drop (i + 1)) := by
    by_cases h : i < l.length
    · rw [List.drop_eq_getElem_cons h, val_cons, at_get h]
    · rw [at_ge (by omega), List.drop_of_length_le (by omega), List.drop_of_length_le (by omega)]; rfl
  have bt : val (l.take i) < pw i := by
    have := pw_le (show (l.take i).length ≤ i by simp; omega)
    omega
  have hpw := pw_pos i
  have hd : val l / pw i = val (l.drop i) := by
    rw [e1, Int.add_mul_ediv_left _ _ (by omega), Int.ediv_eq_zero_of_lt b1.1 bt, Int.zero_add]
  have hp : (0 : Int) < 2 ^ r := p2_pos r
  have e3 : (2 : Int) ^ (32 * i + r) = pw i * 2 ^ r := by rw [pw_p2, Int.pow_add]
  rw [e3, ← Int.ediv_ediv_of_nonneg (by omega), hd, e2]
  have e4 : (4294967296 : Int) = 2 ^ r * (2 ^ s * 2 ^ (32 - r - s)) := by
    rw [← Int.pow_add, ← Int.pow_add, show r + (s + (32 - r - s)) = 32 by omega]; rfl
  rw [e4, Int.mul_assoc, Int.add_mul_ediv_left _ _ (by omega), Int.mul_assoc, Int.add_mul_emod_self_left]
theorem and1_32 {x : Int} (h0 : 0 ≤ x) (h1 : x < 4294967296) : bits .and .u32 x 1 = x % 2 := by
  rw [u32_and _ _ (by omega) (by omega) (by omega) (by omega)]
  have := Nat.and_two_pow_sub_one_eq_mod x.toNat 1
  rw [show (1 : Int).toNat = 2 ^ 1 - 1 by rfl, this]
  omega
theorem top_big {o : List Int} {n : Nat} {X : Int} (hn : 1 ≤ n) (ho : o.length = n) (hO : Lim o) (hv : val o = X) (hX : 2147483648 * pw (n - 1) ≤ X) : 2147483648 ≤ at' o (n - 1 : Nat) := by
  have e := val_take_succ' o (n - 1)
  rw [show n - 1 + 1 = n by omega, val_take_all (by omega), hv] at e
  have h2 := (val_bd (hO.take (n - 1))).2
  have h3 := pw_le (show (o.take (n - 1)).length ≤ n - 1 by simp; omega)
  have hp := pw_pos (n - 1)
  have : 2147483648 * pw (n - 1) < (at' o (n - 1 : Nat) + 1) * pw (n - 1) := by rw [Int.add_mul, Int.one_mul]; omega
  have := lt_of_mul this (by omega)
  omega
theorem top_small {o : List Int} {n : Nat} {X : Int} (hn : 1 ≤ n) (ho : o.length = n) (hO : Lim o) (hv : val o = X) (ht : at' o (n - 1 : Nat) < 2147483648) : 2 * X < pw n := by
  have e := val_take_succ' o (n - 1)
  rw [show n - 1 + 1 = n by omega, val_take_all (by omega), hv] at e
  have h2 := (val_bd (hO.take (n - 1))).2
  have h3 := pw_le (show (o.take (n - 1)).length ≤ n - 1 by simp; omega)
  have hp := pw_pos (n - 1)
  have h4 := mul_r (show at' o (n - 1 : Nat) + 1 ≤ 2147483648 by omega) (show 0 ≤ pw (n - 1) by omega)
  rw [Int.add_mul, Int.one_mul] at h4
  have e5 : pw n = pw (n - 1) * 4294967296 := by rw [← pw_succ, show n - 1 + 1 = n by omega]
  omega
theorem nat_bit {E : Nat} (k : Nat) : E / 2 ^ k = 2 * (E / 2 ^ (k + 1)) + E / 2 ^ k % 2 := by
  rw [Nat.pow_succ, ← Nat.div_div_eq_div_mul]; omega
theorem mod_mod_mul (x M c : Int) : x % (M * c) % M = x % M := by
  have := Int.mul_ediv_add_emod x (M * c)
  have e : x = x % (M * c) + M * (c * (x / (M * c))) := by rw [← Int.mul_assoc]; omega
  conv => rhs; rw [e]
  rw [Int.add_mul_emod_self_left]
theorem top_pos {o : List Int} {n : Nat} (hn : 1 ≤ n) (ho : o.length = n) (hO : Lim o) (ht : 2147483648 ≤ at' o (n - 1 : Nat)) : 2147483648 * pw (n - 1) ≤ val o ∧ 2 ≤ val o := by
  have e := val_take_succ' o (n - 1)
  rw [show n - 1 + 1 = n by omega, val_take_all (by omega)] at e
  have h2 := (val_bd (hO.take (n - 1))).1
  have hp := pw_pos (n - 1)
  have h3 := mul_r ht (show 0 ≤ pw (n - 1) by omega)
  omega
/-- A power, by limbs in words of 64 bits. -/
structure Wo (w0 w : World) (v : Value) (n : Nat) (x : Int) : Prop where
  ex : ∃ o, Vw .u64 w v o ∧ o.length = n ∧ Lim o ∧ val o = x
theorem Wo.nb {w0 w w' : World} {v : Value} {n : Nat} {x : Int} (h : Wo w0 w v n x) (f : Fr w w' nob) : Wo w0 w' v n x := by
  obtain ⟨o, h1, h2, h3, h4⟩ := h.ex
  exact ⟨o, h1.nb f, h2, h3, h4⟩
theorem wprod {w0 w : World} {va vb vp : Value} {p : List Int} {n : Nat} {x y : Int} (ha : Wo w0 w va n x) (hb : Wo w0 w vb n y) (hp : Vw .u64 w vp p) (lp : p.length = n) (hP : Lim p) (hn1 : 1 ≤ n) (hn : n ≤ 1000000) (htop : 2147483648 ≤ at' p (n - 1 : Nat)) (K : Value → World → Prop)
    (hK : ∀ v w', Fr w w' nob → Wo w0 w' v n (x * y % val p) → K v w') : callK Try.prog 65 [va, vb, vp] w K := by
  obtain ⟨o, h1, h2, h3, h4⟩ := ha.ex
  obtain ⟨o', k1, k2, k3, k4⟩ := hb.ex
  refine rproduct_vw h1 k1 hp h2 k2 lp h3 k3 hP hn1 hn htop K fun o2 v w' g g2 g3 g4 => hK v w' g.fr ⟨o2, g.vw, g2, g3, ?_⟩
  rw [g4, h4, k4]
set_option maxHeartbeats 4000000 in
theorem rexpmod_vw {w : World} {vb ve vm : Value} {b e m : List Int} (hb : Vw .u32 w vb b) (he : Vw .u32 w ve e) (hm : Vw .u32 w vm m) (hB : Lim b) (hE : Lim e) (hM : Lim m) (K : Value → World → Prop)
    (hK : ∀ v w', Gw .u32 w w' v (powR b e m).1 → K (.tuple #[v, .int .i64 (powR b e m).2]) w') : callK Try.prog 36 [vb, ve, vm] w K := by
  obtain ⟨A1, c1, e1, hc1, hr1⟩ := id hb
  obtain ⟨A2, c2, e2, hc2, hr2⟩ := id he
  have b1 := (val_bd hB).1
  have b2 := (val_bd hE).1
  have b3 := (val_bd hM).1
  refine call_of Try.func36 Code.h36 (by simp [Code.c36]) ?_
  by_cases h512 : (512 : Int) < (b.length : Int)
  · have e' : powR b e m = ([], 3) := by unfold powR; rw [if_pos (by omega)]
    rw [e'] at hK
    simp (disch := omega) only [EO, ↓EP, EQ, EM, ↓reduceIte, Int.reduceAdd, Int.reduceEq, Int.reduceLE, Int.reduceLT, Int.reduceMul, Int.reduceNeg, Int.reducePow, Int.reduceSub, Int.reduceToNat, Nat.reduceAdd, Nat.reduceEqDiff, Nat.reduceLT, Nat.reduceLeDiff, Nat.reduceMul, reduceCtorEq, Code.c36, e1]
    exact hK _ w (Gw.nil _ _)
  simp (disch := omega) only [EO, ↓EP, EQ, EM, ↓reduceIte, Int.reduceAdd, Int.reduceEq, Int.reduceLE, Int.reduceLT, Int.reduceMul, Int.reduceNeg, Int.reducePow, Int.reduceSub, Int.reduceToNat, Nat.reduceAdd, Nat.reduceEqDiff, Nat.reduceLT, Nat.reduceLeDiff, Nat.reduceMul, reduceCtorEq, Code.c36, e1]
  try rw [← e1]
  refine rlong_vw he hm 256 (by omega) _ fun bb hb' => ?_
  by_cases h256 : 256 < e.length ∨ 256 < m.length
  · have e' : powR b e m = ([], 3) := by unfold powR; rw [if_pos (by omega)]
    rw [e'] at hK
    have hbt : bb = true := hb'.2 (by omega)
    simp (disch := omega) only [EO, ↓EP, EQ, EM, ↓reduceIte, Int.reduceAdd, Int.reduceEq, Int.reduceLE, Int.reduceLT, Int.reduceMul, Int.reduceNeg, Int.reducePow, Int.reduceSub, Int.reduceToNat, Nat.reduceAdd, Nat.reduceEqDiff, Nat.reduceLT, Nat.reduceLeDiff, Nat.reduceMul, reduceCtorEq, hbt]
    exact hK _ w (Gw.nil _ _)
  have hbf : bb = false := by
    cases bb with
    | false => rfl
    | true => exfalso; have := hb'.1 rfl; omega
  simp (disch := omega) only [EO, ↓EP, EQ, EM, ↓reduceIte, Int.reduceAdd, Int.reduceEq, Int.reduceLE, Int.reduceLT, Int.reduceMul, Int.reduceNeg, Int.reducePow, Int.reduceSub, Int.reduceToNat, Nat.reduceAdd, Nat.reduceEqDiff, Nat.reduceLT, Nat.reduceLeDiff, Nat.reduceMul, reduceCtorEq, hbf]
  refine digits_vw hm hM (by omega) _ fun vd w1 g1 => ?_
  have km := digs_vl hM (n := 256) (by omega)
  have qs := Gw.slice g1
  obtain ⟨A3, c3, e3⟩ := qs
  by_cases h0 : val m = 0
  · have e' : powR b e m = ([], 11) := by unfold powR; rw [if_neg (by omega), if_pos h0]
    rw [e'] at hK
    have hz := (digs_zero_iff b3).2 h0
    simp (disch := omega) only [EO, ↓EP, EQ, EM, ↓reduceIte, Int.reduceAdd, Int.reduceEq, Int.reduceLE, Int.reduceLT, Int.reduceMul, Int.reduceNeg, Int.reducePow, Int.reduceSub, Int.reduceToNat, Nat.reduceAdd, Nat.reduceEqDiff, Nat.reduceLT, Nat.reduceLeDiff, Nat.reduceMul, reduceCtorEq, e3, hz, Int.natCast_zero]
    exact hK _ w1 ((Gw.nil _ _).from g1.fr)
  have e' : powR b e m = (limbs (val b ^ (val e).toNat % val m), 0) := by unfold powR; rw [if_neg (by omega), if_neg h0]
  rw [e'] at hK
  clear e'
  have hM0 : 0 < val m := by omega
  have hne : ((((Dg.digs (val m)).length : Nat) : Int) = 0) = False := eq_false fun h => h0 ((digs_zero_iff b3).1 (by omega))
  simp (disch := omega) only [EO, ↓EP, EQ, EM, ↓reduceIte, Int.reduceAdd, Int.reduceEq, Int.reduceLE, Int.reduceLT, Int.reduceMul, Int.reduceNeg, Int.reducePow, Int.reduceSub, Int.reduceToNat, Nat.reduceAdd, Nat.reduceEqDiff, Nat.reduceLT, Nat.reduceLeDiff, Nat.reduceMul, reduceCtorEq, e3, hne]
  try rw [← e3]
  refine limbs_vw g1.vw (Dg.digs_lim _) (by omega) _ fun v2 w2 g2 => ?_
  rw [Dg.digs_val b3] at g2
  simp (disch := omega) only [EO, ↓EP, EQ, EM, ↓reduceIte, Int.reduceAdd, Int.reduceEq, Int.reduceLE, Int.reduceLT, Int.reduceMul, Int.reduceNeg, Int.reducePow, Int.reduceSub, Int.reduceToNat, Nat.reduceAdd, Nat.reduceEqDiff, Nat.reduceLT, Nat.reduceLeDiff, Nat.reduceMul, reduceCtorEq]
  refine bsl1 fun w3 n3 => ?_
  have hd3 : Dv w3 vd (val m) := ⟨b3, (g1.vw.nb g2.fr).nb (n3.fr nob)⟩
  have f3 := (g1.fr.nb g2.fr).nb (n3.fr nob)
  have hm3 := (g2.nv b3).nb (n3.fr nob)
  have ht3 := Dv.one n3
  have qL : ∃ L, L = (limbs (val m)).length := ⟨_, rfl⟩
  obtain ⟨L, hL⟩ := qL
  have hL1 : 1 ≤ L := by
    rcases Nat.eq_zero_or_pos L with h | h
    · exact absurd (limbs_nil b3 (List.length_eq_zero_iff.1 (by omega))) h0
    · exact h
  have hL2 : L ≤ 256 := by rw [hL]; have := len_val hM; omega
  have hMlo : pw (L - 1) ≤ val m := by
    have := (limbs_can (val m)).pos (fun h => by rw [h] at hL; simp at hL; omega)
    rwa [limbs_val b3, ← hL] at this
  have hMhi : val m < pw L := (limbs_len b3).1 (by omega)
  have hpL : pw L ≤ 2 ^ 8192 := by rw [pw_p2]; exact p2_mono (by omega)
  have qM : ∃ M, M = val m := ⟨_, rfl⟩
  obtain ⟨M, hMv⟩ := qM
  rw [← hMv] at hd3 hm3 hM0 hMlo hMhi hK km
  clear g1 g2 n3 hm hc1 hr1
  simp (disch := omega) only [EO, ↓EP, EQ, EM, ↓reduceIte, Int.reduceAdd, Int.reduceEq, Int.reduceLE, Int.reduceLT, Int.reduceMul, Int.reduceNeg, Int.reducePow, Int.reduceSub, Int.reduceToNat, Nat.reduceAdd, Nat.reduceEqDiff, Nat.reduceLT, Nat.reduceLeDiff, Nat.reduceMul, reduceCtorEq]
  refine loop_inv (fun t ρ w' => ∃ (s : Nat) (vm vt : Value), ρ 2 = vm ∧ ρ 9 = vt ∧ t = 8192 - s ∧ Nv w' vm (M * 2 ^ s) ∧ Dv w' vt (2 ^ s) ∧ M * 2 ^ s < pw L ∧ Fr w w' nob ∧ Fr w3 w' nob) _
    ⟨0, v2, .slice (some ⟨w2.heap.size, 0, none⟩) 1 1, by simp (disch := omega) only [EO, ↓EP, EQ, EM, ↓reduceIte, Int.reduceAdd, Int.reduceEq, Int.reduceLE, Int.reduceLT, Int.reduceMul, Int.reduceNeg, Int.reducePow, Int.reduceSub, Int.reduceToNat, Nat.reduceAdd, Nat.reduceEqDiff, Nat.reduceLT, Nat.reduceLeDiff, Nat.reduceMul, reduceCtorEq], by simp (disch := omega) only [EO, ↓EP, EQ, EM, ↓reduceIte, Int.reduceAdd, Int.reduceEq, Int.reduceLE, Int.reduceLT, Int.reduceMul, Int.reduceNeg, Int.reducePow, Int.reduceSub, Int.reduceToNat, Nat.reduceAdd, Nat.reduceEqDiff, Nat.reduceLT, Nat.reduceLeDiff, Nat.reduceMul, reduceCtorEq], rfl, by simpa using hm3, by simpa using ht3, by simpa using hMhi, f3, Fr.refl _ _⟩ ?_
  rintro t ρ w4 hf ⟨s, vm4, vt4, h2, h9, rfl, hm4, ht4, hlt4, f4, f34⟩ N hN
  have q0 : ρ 0 = vb := by rw [hf 0 rfl]; simp (disch := omega) only [EO, ↓EP, EQ, EM, ↓reduceIte, Int.reduceAdd, Int.reduceEq, Int.reduceLE, Int.reduceLT, Int.reduceMul, Int.reduceNeg, Int.reducePow, Int.reduceSub, Int.reduceToNat, Nat.reduceAdd, Nat.reduceEqDiff, Nat.reduceLT, Nat.reduceLeDiff, Nat.reduceMul, reduceCtorEq]
  have q1 : ρ 1 = ve := by rw [hf 1 rfl]; simp (disch := omega) only [EO, ↓EP, EQ, EM, ↓reduceIte, Int.reduceAdd, Int.reduceEq, Int.reduceLE, Int.reduceLT, Int.reduceMul, Int.reduceNeg, Int.reducePow, Int.reduceSub, Int.reduceToNat, Nat.reduceAdd, Nat.reduceEqDiff, Nat.reduceLT, Nat.reduceLeDiff, Nat.reduceMul, reduceCtorEq]
  have q8 : ρ 8 = vd := by rw [hf 8 rfl]; simp (disch := omega) only [EO, ↓EP, EQ, EM, ↓reduceIte, Int.reduceAdd, Int.reduceEq, Int.reduceLE, Int.reduceLT, Int.reduceMul, Int.reduceNeg, Int.reducePow, Int.reduceSub, Int.reduceToNat, Nat.reduceAdd, Nat.reduceEqDiff, Nat.reduceLT, Nat.reduceLeDiff, Nat.reduceMul, reduceCtorEq]
  clear hf
  have hp2 : (0 : Int) < 2 ^ s := p2_pos s
  have hX0 := hm4.1
  have hXM : M ≤ M * 2 ^ s := by
    have := Int.mul_le_mul_of_nonneg_left (show (1 : Int) ≤ 2 ^ s by omega) (show 0 ≤ M by omega)
    omega
  have hs : s < 8192 := by
    refine p2_lt (Int.lt_of_le_of_lt ?_ (Int.lt_of_lt_of_le hlt4 hpL))
    have := mul_r (show 1 ≤ M by omega) (show (0 : Int) ≤ 2 ^ s by omega)
    omega
  have hXL : (limbs (M * 2 ^ s)).length = L := by
    have h1 := (limbs_len hX0).2 hlt4
    have h2 := len_mono (show 0 ≤ M by omega) hXM
    rw [← hMv] at hL
    omega
  have XL := limbs_lim (M * 2 ^ s)
  have hXv := limbs_val hX0
  have qv := hm4.2
  obtain ⟨A5, c5, e5, hc5, hr5⟩ := qv
  rw [hXL] at e5 hc5
  have qc := hr5.get (by rw [nums_length]; omega)
  obtain ⟨p5, eA5, _, hp5⟩ := qc
  rw [eA5] at e5
  have ct := hp5.numN (j := L - 1) (by omega)
  have bt := XL.at (L - 1 : Nat)
  have eL1 : (L : Int) - 1 = ((L - 1 : Nat) : Int) := by omega
  have kX := digs_len_of hX0 (n := 256) (by have := pw_le hL2; omega)
  by_cases htop : at' (limbs (M * 2 ^ s)) (L - 1 : Nat) < 2147483648
  · have h2X := top_small hL1 hXL XL hXv htop
    simp (disch := omega) only [wu64, wu32, wu8, fdiv_nn, EO, ↓EP, EQ, EM, ↓reduceIte, Int.reduceAdd, Int.reduceEq, Int.reduceLE, Int.reduceLT, Int.reduceMul, Int.reduceNeg, Int.reducePow, Int.reduceSub, Int.reduceToNat, Nat.reduceAdd, Nat.reduceEqDiff, Nat.reduceLT, Nat.reduceLeDiff, Nat.reduceMul, reduceCtorEq, h2, h9, e5, eL1, ct]
    try rw [← e5]
    refine digits_vw hm4.2 XL (by omega) _ fun v5 w5 g5 => ?_
    rw [hXv] at g5
    simp (disch := omega) only [EO, ↓EP, EQ, EM, ↓reduceIte, Int.reduceAdd, Int.reduceEq, Int.reduceLE, Int.reduceLT, Int.reduceMul, Int.reduceNeg, Int.reducePow, Int.reduceSub, Int.reduceToNat, Nat.reduceAdd, Nat.reduceEqDiff, Nat.reduceLT, Nat.reduceLeDiff, Nat.reduceMul, reduceCtorEq, h2, h9, e5]
    try rw [← e5]
    refine digits_vw (hm4.2.nb g5.fr) XL (by omega) _ fun v6 w6 g6 => ?_
    rw [hXv] at g6
    simp (disch := omega) only [EO, ↓EP, EQ, EM, ↓reduceIte, Int.reduceAdd, Int.reduceEq, Int.reduceLE, Int.reduceLT, Int.reduceMul, Int.reduceNeg, Int.reducePow, Int.reduceSub, Int.reduceToNat, Nat.reduceAdd, Nat.reduceEqDiff, Nat.reduceLT, Nat.reduceLeDiff, Nat.reduceMul, reduceCtorEq, h2, h9]
    refine dadd_vw (g5.vw.nb g6.fr) g6.vw (Dg.digs_lim _) (Dg.digs_lim _) (by omega) (by omega) _ fun v7 w7 g7 => ?_
    rw [Dg.digs_val hX0] at g7
    have k7 := digs_len_of (show 0 ≤ M * 2 ^ s + M * 2 ^ s by omega) (n := 256) (by have := pw_le hL2; omega)
    simp (disch := omega) only [EO, ↓EP, EQ, EM, ↓reduceIte, Int.reduceAdd, Int.reduceEq, Int.reduceLE, Int.reduceLT, Int.reduceMul, Int.reduceNeg, Int.reducePow, Int.reduceSub, Int.reduceToNat, Nat.reduceAdd, Nat.reduceEqDiff, Nat.reduceLT, Nat.reduceLeDiff, Nat.reduceMul, reduceCtorEq, h2, h9]
    refine limbs_vw g7.vw (Dg.digs_lim _) (by omega) _ fun v8 w8 g8 => ?_
    rw [Dg.digs_val (by omega)] at g8
    have f8 := ((g5.fr.nb g6.fr).nb g7.fr).nb g8.fr
    have kt := (Dg.digs_len ht4.1 (k := 1024)).2 (by rw [dpw_p2]; have := p2_mono (show s + 1 ≤ 16 * 1024 by omega); rw [Int.pow_succ] at this; omega)
    simp (disch := omega) only [EO, ↓EP, EQ, EM, ↓reduceIte, Int.reduceAdd, Int.reduceEq, Int.reduceLE, Int.reduceLT, Int.reduceMul, Int.reduceNeg, Int.reducePow, Int.reduceSub, Int.reduceToNat, Nat.reduceAdd, Nat.reduceEqDiff, Nat.reduceLT, Nat.reduceLeDiff, Nat.reduceMul, reduceCtorEq, h2, h9]
    refine dadd_vw (ht4.2.nb f8) (ht4.2.nb f8) (Dg.digs_lim _) (Dg.digs_lim _) (by omega) (by omega) _ fun v9 w9 g9 => ?_
    rw [Dg.digs_val ht4.1] at g9
    have ex : M * 2 ^ s + M * 2 ^ s = M * 2 ^ (s + 1) := by rw [Int.pow_succ]; grind
    have et : (2 : Int) ^ s + 2 ^ s = 2 ^ (s + 1) := by rw [Int.pow_succ]; omega
    rw [ex] at g8
    rw [et] at g9
    have hx1 : 0 ≤ M * 2 ^ (s + 1) := by rw [← ex]; omega
    simp (disch := omega) only [EO, ↓EP, EQ, EM, ↓reduceIte, Int.reduceAdd, Int.reduceEq, Int.reduceLE, Int.reduceLT, Int.reduceMul, Int.reduceNeg, Int.reducePow, Int.reduceSub, Int.reduceToNat, Nat.reduceAdd, Nat.reduceEqDiff, Nat.reduceLT, Nat.reduceLeDiff, Nat.reduceMul, reduceCtorEq]
    exact hN (8192 - (s + 1)) _ _ (by omega) ⟨s + 1, v8, v9, by simp (disch := omega) only [EO, ↓EP, EQ, EM, ↓reduceIte, Int.reduceAdd, Int.reduceEq, Int.reduceLE, Int.reduceLT, Int.reduceMul, Int.reduceNeg, Int.reducePow, Int.reduceSub, Int.reduceToNat, Nat.reduceAdd, Nat.reduceEqDiff, Nat.reduceLT, Nat.reduceLeDiff, Nat.reduceMul, reduceCtorEq], by simp (disch := omega) only [EO, ↓EP, EQ, EM, ↓reduceIte, Int.reduceAdd, Int.reduceEq, Int.reduceLE, Int.reduceLT, Int.reduceMul, Int.reduceNeg, Int.reducePow, Int.reduceSub, Int.reduceToNat, Nat.reduceAdd, Nat.reduceEqDiff, Nat.reduceLT, Nat.reduceLeDiff, Nat.reduceMul, reduceCtorEq], rfl, (g8.nv hx1).nb g9.fr, ⟨by have := p2_pos (s + 1); omega, g9.vw⟩, by rw [← ex]; omega, (f4.nb f8).nb g9.fr, (f34.nb f8).nb g9.fr⟩
  have tb : 2147483648 ≤ at' (limbs (M * 2 ^ s)) (L - 1 : Nat) := by omega
  simp (disch := omega) only [wu64, wu32, wu8, fdiv_nn, EO, ↓EP, EQ, EM, ↓reduceIte, Int.reduceAdd, Int.reduceEq, Int.reduceLE, Int.reduceLT, Int.reduceMul, Int.reduceNeg, Int.reducePow, Int.reduceSub, Int.reduceToNat, Nat.reduceAdd, Nat.reduceEqDiff, Nat.reduceLT, Nat.reduceLeDiff, Nat.reduceMul, reduceCtorEq, h2, h9, e5, eL1, ct]
  try rw [← e5]
  refine wide_vw L (by omega) hm4.2 XL (by omega) _ fun o5 v5 w5 g5 l5 O5 V5 => ?_
  rw [List.take_of_length_le (by omega), hXv] at V5
  simp (disch := omega) only [EO, ↓EP, EQ, EM, ↓reduceIte, Int.reduceAdd, Int.reduceEq, Int.reduceLE, Int.reduceLT, Int.reduceMul, Int.reduceNeg, Int.reducePow, Int.reduceSub, Int.reduceToNat, Nat.reduceAdd, Nat.reduceEqDiff, Nat.reduceLT, Nat.reduceLeDiff, Nat.reduceMul, reduceCtorEq, h2, h9, q0, q1, q8]
  refine digits_vw ((hb.nb f4).nb g5.fr) hB (by omega) _ fun v6 w6 g6 => ?_
  have k6 := digs_vl hB (n := 512) (by omega)
  have d6 := g6.vw
  simp (disch := omega) only [EO, ↓EP, EQ, EM, ↓reduceIte, Int.reduceAdd, Int.reduceEq, Int.reduceLE, Int.reduceLT, Int.reduceMul, Int.reduceNeg, Int.reducePow, Int.reduceSub, Int.reduceToNat, Nat.reduceAdd, Nat.reduceEqDiff, Nat.reduceLT, Nat.reduceLeDiff, Nat.reduceMul, reduceCtorEq, h2, h9, q0, q1, q8]
  have hd6 : Dv w6 vd M := ⟨hd3.1, ((hd3.2.nb f34).nb g5.fr).nb g6.fr⟩
  have ht6 : Dv w6 vt4 (2 ^ s) := ⟨ht4.1, (ht4.2.nb g5.fr).nb g6.fr⟩
  have kt := (Dg.digs_len ht4.1 (k := 1024)).2 (by rw [dpw_p2]; have := p2_mono (show s + 1 ≤ 16 * 1024 by omega); rw [Int.pow_succ] at this; omega)
  refine dmul_vw hd6.2 ht6.2 (Dg.digs_lim _) (Dg.digs_lim _) (by omega) (by omega) _ fun v7 w7 g7 => ?_
  rw [Dg.digs_val hd3.1, Dg.digs_val ht4.1] at g7
  simp (disch := omega) only [EO, ↓EP, EQ, EM, ↓reduceIte, Int.reduceAdd, Int.reduceEq, Int.reduceLE, Int.reduceLT, Int.reduceMul, Int.reduceNeg, Int.reducePow, Int.reduceSub, Int.reduceToNat, Nat.reduceAdd, Nat.reduceEqDiff, Nat.reduceLT, Nat.reduceLeDiff, Nat.reduceMul, reduceCtorEq]
  have qP : ∃ P, P = M * 2 ^ s := ⟨_, rfl⟩
  obtain ⟨P, hPv⟩ := qP
  rw [← hPv] at g7 V5 kX hX0 hXM hlt4
  have hP0 : 0 < P := by omega
  refine ddm ⟨b1, g6.vw.nb g7.fr⟩ ⟨hX0, g7.vw⟩ (by omega) (by omega) hP0 _ fun u8 v8 w8 f8 hu8 hv8 => ?_
  simp (disch := omega) only [EO, ↓EP, EQ, EM, ↓reduceIte, Int.reduceAdd, Int.reduceEq, Int.reduceLE, Int.reduceLT, Int.reduceMul, Int.reduceNeg, Int.reducePow, Int.reduceSub, Int.reduceToNat, Nat.reduceAdd, Nat.reduceEqDiff, Nat.reduceLT, Nat.reduceLeDiff, Nat.reduceMul, reduceCtorEq]
  have k8 := dlen_mono hv8.1 (show val b % P ≤ P by have := (mod_bd (a := val b) hP0).2; omega)
  refine limbs_vw hv8.2 (Dg.digs_lim _) (by omega) _ fun v9 w9 g9 => ?_
  rw [Dg.digs_val hv8.1] at g9
  have qv5 : Vw .u64 w5 v5 o5 := g5.vw
  have qv5' := qv5
  obtain ⟨A6, c6, e6, hc6, hr6⟩ := qv5'
  rw [l5] at e6
  simp (disch := omega) only [EO, ↓EP, EQ, EM, ↓reduceIte, Int.reduceAdd, Int.reduceEq, Int.reduceLE, Int.reduceLT, Int.reduceMul, Int.reduceNeg, Int.reducePow, Int.reduceSub, Int.reduceToNat, Nat.reduceAdd, Nat.reduceEqDiff, Nat.reduceLT, Nat.reduceLeDiff, Nat.reduceMul, reduceCtorEq, e6]
  refine wide_vw L (by omega) g9.vw (limbs_lim _) (by have := (limbs_len hv8.1).2 (Int.lt_trans (mod_bd (a := val b) hP0).2 hlt4); omega) _ fun o10 v10 w10 g10 l10 O10 V10 => ?_
  rw [List.take_of_length_le ((limbs_len hv8.1).2 (Int.lt_trans (mod_bd (a := val b) hP0).2 hlt4)), limbs_val hv8.1] at V10
  simp (disch := omega) only [EO, ↓EP, EQ, EM, ↓reduceIte, Int.reduceAdd, Int.reduceEq, Int.reduceLE, Int.reduceLT, Int.reduceMul, Int.reduceNeg, Int.reducePow, Int.reduceSub, Int.reduceToNat, Nat.reduceAdd, Nat.reduceEqDiff, Nat.reduceLT, Nat.reduceLeDiff, Nat.reduceMul, reduceCtorEq, e6]
  refine bsl1 fun w11 n11 => ?_
  simp (disch := omega) only [EO, ↓EP, EQ, EM, ↓reduceIte, Int.reduceAdd, Int.reduceEq, Int.reduceLE, Int.reduceLT, Int.reduceMul, Int.reduceNeg, Int.reducePow, Int.reduceSub, Int.reduceToNat, Nat.reduceAdd, Nat.reduceEqDiff, Nat.reduceLT, Nat.reduceLeDiff, Nat.reduceMul, reduceCtorEq, e6]
  have tp := top_pos hL1 hXL XL tb
  rw [hXv, ← hPv] at tp
  have t5 := top_big hL1 l5 O5 V5 tp.1
  refine wide_vw L (by omega) (n11.vw rfl) (Lim.mk (by omega) (by omega) Lim.nil) (by simp) _ fun o12 v12 w12 g12 l12 O12 V12 => ?_
  have V12' : val o12 = 1 := by
    rw [V12, List.take_of_length_le (by simpa using hL1)]
    simp [val_cons, val_nil]
  simp (disch := omega) only [EO, ↓EP, EQ, EM, ↓reduceIte, Int.reduceAdd, Int.reduceEq, Int.reduceLE, Int.reduceLT, Int.reduceMul, Int.reduceNeg, Int.reducePow, Int.reduceSub, Int.reduceToNat, Nat.reduceAdd, Nat.reduceEqDiff, Nat.reduceLT, Nat.reduceLeDiff, Nat.reduceMul, reduceCtorEq, e6, q1, q8]
  have f12 := ((((f4.nb g5.fr).nb g6.fr).nb g7.fr).nb f8).nb ((g9.fr.nb g10.fr).nb ((n11.fr nob).nb g12.fr))
  have f612 := ((g6.fr.nb g7.fr).nb f8).nb ((g9.fr.nb g10.fr).nb ((n11.fr nob).nb g12.fr))
  refine rbits_vw (he.nb f12) hE (by omega) _ fun w13 f13 => ?_
  have qE : ∃ E, E = (val e).toNat := ⟨_, rfl⟩
  obtain ⟨E, hEv⟩ := qE
  have hbl : bl (val e) ≤ 32 * e.length := (bl_le b2).2 (by rw [← pw_p2]; exact (val_bd hE).2)
  have hE0 : E / 2 ^ bl (val e) = 0 := by
    apply Nat.div_eq_of_lt
    have h1 := (bl_le b2 (k := bl (val e))).1 (by omega)
    have h2 : ((2 ^ bl (val e) : Nat) : Int) = (2 : Int) ^ bl (val e) := by push_cast; rfl
    omega
  rw [← hEv] at hK
  have qt : ∃ t0, t0 = bl (val e) := ⟨_, rfl⟩
  obtain ⟨t0, ht0⟩ := qt
  rw [← ht0] at hE0 hbl
  have qB : ∃ B, B = val b % P := ⟨_, rfl⟩
  obtain ⟨B, hBv⟩ := qB
  rw [← hBv] at V10
  have hp13 : Vw .u64 w13 v5 o5 := (g5.vw.nb f612).nb f13
  have hb13 : Wo w w13 v10 L B := ⟨o10, (((g10.vw.nb (n11.fr nob)).nb g12.fr)).nb f13, l10, O10, V10⟩
  have ho13 : Wo w w13 v12 L (B ^ (E / 2 ^ t0) % P) := ⟨o12, g12.vw.nb f13, l12, O12, by rw [hE0, Int.pow_zero, V12', Int.emod_eq_of_lt (by omega) (by omega)]⟩
  have he13 : Vw .u32 w13 ve e := (he.nb f12).nb f13
  have hd13 : Dv w13 vd M := ⟨hd3.1, (hd6.2.nb ((g7.fr.nb f8).nb ((g9.fr.nb g10.fr).nb ((n11.fr nob).nb g12.fr)))).nb f13⟩
  have ff := f12.nb f13
  try rw [← e6]
  simp (disch := omega) only [EO, ↓EP, EQ, EM, ↓reduceIte, Int.reduceAdd, Int.reduceEq, Int.reduceLE, Int.reduceLT, Int.reduceMul, Int.reduceNeg, Int.reducePow, Int.reduceSub, Int.reduceToNat, Nat.reduceAdd, Nat.reduceEqDiff, Nat.reduceLT, Nat.reduceLeDiff, Nat.reduceMul, reduceCtorEq, ← ht0, q1, q8]
  refine loop_inv (fun t ρ2 w' => ∃ vo, ρ2 15 = .int .i64 ((t : Int) - 1) ∧ t ≤ t0 ∧ ρ2 14 = vo ∧ Wo w w' vo L (B ^ (E / 2 ^ t) % P) ∧ Fr w13 w' nob) t0
    ⟨v12, by simp (disch := omega) only [EO, ↓EP, EQ, EM, ↓reduceIte, Int.reduceAdd, Int.reduceEq, Int.reduceLE, Int.reduceLT, Int.reduceMul, Int.reduceNeg, Int.reducePow, Int.reduceSub, Int.reduceToNat, Nat.reduceAdd, Nat.reduceEqDiff, Nat.reduceLT, Nat.reduceLeDiff, Nat.reduceMul, reduceCtorEq, ← ht0], Nat.le_refl _, by simp (disch := omega) only [EO, ↓EP, EQ, EM, ↓reduceIte, Int.reduceAdd, Int.reduceEq, Int.reduceLE, Int.reduceLT, Int.reduceMul, Int.reduceNeg, Int.reducePow, Int.reduceSub, Int.reduceToNat, Nat.reduceAdd, Nat.reduceEqDiff, Nat.reduceLT, Nat.reduceLeDiff, Nat.reduceMul, reduceCtorEq], ho13, Fr.refl _ _⟩ ?_
  rintro t ρ2 w14 hf ⟨vo, h15, ht, h14, hvo, f14⟩ N2 hN2
  have r1 : ρ2 1 = ve := by rw [hf 1 rfl]; simp (disch := omega) only [EO, ↓EP, EQ, EM, ↓reduceIte, Int.reduceAdd, Int.reduceEq, Int.reduceLE, Int.reduceLT, Int.reduceMul, Int.reduceNeg, Int.reducePow, Int.reduceSub, Int.reduceToNat, Nat.reduceAdd, Nat.reduceEqDiff, Nat.reduceLT, Nat.reduceLeDiff, Nat.reduceMul, reduceCtorEq, q1]
  have r8 : ρ2 8 = vd := by rw [hf 8 rfl]; simp (disch := omega) only [EO, ↓EP, EQ, EM, ↓reduceIte, Int.reduceAdd, Int.reduceEq, Int.reduceLE, Int.reduceLT, Int.reduceMul, Int.reduceNeg, Int.reducePow, Int.reduceSub, Int.reduceToNat, Nat.reduceAdd, Nat.reduceEqDiff, Nat.reduceLT, Nat.reduceLeDiff, Nat.reduceMul, reduceCtorEq, q8]
  have r10 : ρ2 10 = v5 := by rw [hf 10 rfl]; simp (disch := omega) only [EO, ↓EP, EQ, EM, ↓reduceIte, Int.reduceAdd, Int.reduceEq, Int.reduceLE, Int.reduceLT, Int.reduceMul, Int.reduceNeg, Int.reducePow, Int.reduceSub, Int.reduceToNat, Nat.reduceAdd, Nat.reduceEqDiff, Nat.reduceLT, Nat.reduceLeDiff, Nat.reduceMul, reduceCtorEq, e6]
  have r13 : ρ2 13 = v10 := by rw [hf 13 rfl]; simp (disch := omega) only [EO, ↓EP, EQ, EM, ↓reduceIte, Int.reduceAdd, Int.reduceEq, Int.reduceLE, Int.reduceLT, Int.reduceMul, Int.reduceNeg, Int.reducePow, Int.reduceSub, Int.reduceToNat, Nat.reduceAdd, Nat.reduceEqDiff, Nat.reduceLT, Nat.reduceLeDiff, Nat.reduceMul, reduceCtorEq]
  clear hf
  cases t with
  | zero =>
    rw [Nat.pow_zero, Nat.div_one] at hvo
    have h15' : ρ2 15 = .int .i64 (-1) := by rw [h15]; rfl
    obtain ⟨z, hz1, hz2, hz3, hz4⟩ := hvo.ex
    simp (disch := omega) only [EO, ↓EP, EQ, EM, ↓reduceIte, Int.reduceAdd, Int.reduceEq, Int.reduceLE, Int.reduceLT, Int.reduceMul, Int.reduceNeg, Int.reducePow, Int.reduceSub, Int.reduceToNat, Nat.reduceAdd, Nat.reduceEqDiff, Nat.reduceLT, Nat.reduceLeDiff, Nat.reduceMul, reduceCtorEq, h15', h14, r1, r8, r10, r13]
    refine loop_inv (fun t ρ3 w' => ∃ (k : Nat) (v : Value), ρ3 17 = .int .i64 k ∧ k ≤ L ∧ t = L - k ∧ ρ3 16 = v ∧ Gw .u32 w14 w' v (z.take k)) L
      ⟨0, _, by simp (disch := omega) only [EO, ↓EP, EQ, EM, ↓reduceIte, Int.reduceAdd, Int.reduceEq, Int.reduceLE, Int.reduceLT, Int.reduceMul, Int.reduceNeg, Int.reducePow, Int.reduceSub, Int.reduceToNat, Nat.reduceAdd, Nat.reduceEqDiff, Nat.reduceLT, Nat.reduceLeDiff, Nat.reduceMul, reduceCtorEq], by omega, rfl, by simp (disch := omega) only [EO, ↓EP, EQ, EM, ↓reduceIte, Int.reduceAdd, Int.reduceEq, Int.reduceLE, Int.reduceLT, Int.reduceMul, Int.reduceNeg, Int.reducePow, Int.reduceSub, Int.reduceToNat, Nat.reduceAdd, Nat.reduceEqDiff, Nat.reduceLT, Nat.reduceLeDiff, Nat.reduceMul, reduceCtorEq], Gw.nil _ _⟩ ?_
    rintro t ρ3 w15 hf ⟨k, v, h17, hk, rfl, h16, g15⟩ N3 hN3
    have s14 : ρ3 14 = vo := by rw [hf 14 rfl]; simp (disch := omega) only [EO, ↓EP, EQ, EM, ↓reduceIte, Int.reduceAdd, Int.reduceEq, Int.reduceLE, Int.reduceLT, Int.reduceMul, Int.reduceNeg, Int.reducePow, Int.reduceSub, Int.reduceToNat, Nat.reduceAdd, Nat.reduceEqDiff, Nat.reduceLT, Nat.reduceLeDiff, Nat.reduceMul, reduceCtorEq, h14]
    have s8 : ρ3 8 = vd := by rw [hf 8 rfl]; simp (disch := omega) only [EO, ↓EP, EQ, EM, ↓reduceIte, Int.reduceAdd, Int.reduceEq, Int.reduceLE, Int.reduceLT, Int.reduceMul, Int.reduceNeg, Int.reducePow, Int.reduceSub, Int.reduceToNat, Nat.reduceAdd, Nat.reduceEqDiff, Nat.reduceLT, Nat.reduceLeDiff, Nat.reduceMul, reduceCtorEq, r8]
    clear hf
    have qz := hz1.nb g15.fr
    obtain ⟨A7, c7, e7, hc7, hr7⟩ := qz
    rw [hz2] at e7
    by_cases hkL : (k : Int) < (L : Int)
    · have qg := hr7.get (by rw [nums_length]; omega)
      obtain ⟨p7, eA7, _, hp7⟩ := qg
      rw [eA7] at e7
      have cp := hp7.numN (j := k) (by omega)
      have bz := hz3.at k
      simp (disch := omega) only [wu64, wu32, wu8, fdiv_nn, EO, ↓EP, EQ, EM, ↓reduceIte, Int.reduceAdd, Int.reduceEq, Int.reduceLE, Int.reduceLT, Int.reduceMul, Int.reduceNeg, Int.reducePow, Int.reduceSub, Int.reduceToNat, Nat.reduceAdd, Nat.reduceEqDiff, Nat.reduceLT, Nat.reduceLeDiff, Nat.reduceMul, reduceCtorEq, h17, h16, s14, s8, e7, cp]
      refine bsl1 fun w16 n16 => ?_
      simp (disch := omega) only [wu64, wu32, wu8, fdiv_nn, EO, ↓EP, EQ, EM, ↓reduceIte, Int.reduceAdd, Int.reduceEq, Int.reduceLE, Int.reduceLT, Int.reduceMul, Int.reduceNeg, Int.reducePow, Int.reduceSub, Int.reduceToNat, Nat.reduceAdd, Nat.reduceEqDiff, Nat.reduceLT, Nat.reduceLeDiff, Nat.reduceMul, reduceCtorEq, h17, h16, s14, s8, e7]
      refine app_num (g15.sl.nb (n16.fr nob)) rfl n16.rdl (by simp; omega) (by omega) fun v17 w17 a17 => ?_
      have g17 := (g15.step (n16.fr nob)).apd a17
      have et : z.take k ++ [at' z k] = z.take (k + 1) := by
        rw [List.take_add_one, List.getElem?_eq_getElem (by omega), at_get (by omega)]; rfl
      rw [et] at g17
      simp (disch := omega) only [wu64, wu32, wu8, fdiv_nn, EO, ↓EP, EQ, EM, ↓reduceIte, Int.reduceAdd, Int.reduceEq, Int.reduceLE, Int.reduceLT, Int.reduceMul, Int.reduceNeg, Int.reducePow, Int.reduceSub, Int.reduceToNat, Nat.reduceAdd, Nat.reduceEqDiff, Nat.reduceLT, Nat.reduceLeDiff, Nat.reduceMul, reduceCtorEq, h17]
      exact hN3 (L - (k + 1)) _ _ (by omega) ⟨k + 1, v17, by simp (disch := omega) only [EO, ↓EP, EQ, EM, ↓reduceIte, Int.reduceAdd, Int.reduceEq, Int.reduceLE, Int.reduceLT, Int.reduceMul, Int.reduceNeg, Int.reducePow, Int.reduceSub, Int.reduceToNat, Nat.reduceAdd, Nat.reduceEqDiff, Nat.reduceLT, Nat.reduceLeDiff, Nat.reduceMul, reduceCtorEq, h17, Int.natCast_add], by omega, rfl, by simp (disch := omega) only [EO, ↓EP, EQ, EM, ↓reduceIte, Int.reduceAdd, Int.reduceEq, Int.reduceLE, Int.reduceLT, Int.reduceMul, Int.reduceNeg, Int.reducePow, Int.reduceSub, Int.reduceToNat, Nat.reduceAdd, Nat.reduceEqDiff, Nat.reduceLT, Nat.reduceLeDiff, Nat.reduceMul, reduceCtorEq], g17⟩
    · have hk : k = L := by omega
      subst hk
      rw [List.take_of_length_le (by omega)] at g15
      simp (disch := omega) only [EO, ↓EP, EQ, EM, ↓reduceIte, Int.reduceAdd, Int.reduceEq, Int.reduceLE, Int.reduceLT, Int.reduceMul, Int.reduceNeg, Int.reducePow, Int.reduceSub, Int.reduceToNat, Nat.reduceAdd, Nat.reduceEqDiff, Nat.reduceLT, Nat.reduceLeDiff, Nat.reduceMul, reduceCtorEq, h17, h16, s14, s8, e7]
      refine digits_vw g15.vw hz3 (by omega) _ fun v16 w16 g16 => ?_
      rw [hz4] at g16
      simp (disch := omega) only [EO, ↓EP, EQ, EM, ↓reduceIte, Int.reduceAdd, Int.reduceEq, Int.reduceLE, Int.reduceLT, Int.reduceMul, Int.reduceNeg, Int.reducePow, Int.reduceSub, Int.reduceToNat, Nat.reduceAdd, Nat.reduceEqDiff, Nat.reduceLT, Nat.reduceLeDiff, Nat.reduceMul, reduceCtorEq, h17, h16, s14, s8, e7]
      have k16 := digs_len_of (mod_bd (a := B ^ E) hP0).1 (n := 256) (by have := pw_le hL2; have := (mod_bd (a := B ^ E) hP0).2; omega)
      refine ddm ⟨(mod_bd hP0).1, g16.vw⟩ ⟨hd13.1, ((hd13.2.nb f14).nb g15.fr).nb g16.fr⟩ (by omega) (by omega) hM0 _ fun u17 v17 w17 f17 _ hv17 => ?_
      simp (disch := omega) only [EO, ↓EP, EQ, EM, ↓reduceIte, Int.reduceAdd, Int.reduceEq, Int.reduceLE, Int.reduceLT, Int.reduceMul, Int.reduceNeg, Int.reducePow, Int.reduceSub, Int.reduceToNat, Nat.reduceAdd, Nat.reduceEqDiff, Nat.reduceLT, Nat.reduceLeDiff, Nat.reduceMul, reduceCtorEq]
      have er : B ^ E % P % M = val b ^ E % M := by
        rw [hBv, pm_base, hPv, mod_mod_mul]
      rw [er] at hv17
      have k17 := dlen_mono hv17.1 (show val b ^ E % M ≤ M by have := (mod_bd (a := val b ^ E) hM0).2; omega)
      refine limbs_vw hv17.2 (Dg.digs_lim _) (by omega) _ fun v18 w18 g18 => ?_
      rw [Dg.digs_val hv17.1] at g18
      simp (disch := omega) only [EO, ↓EP, EQ, EM, ↓reduceIte, Int.reduceAdd, Int.reduceEq, Int.reduceLE, Int.reduceLT, Int.reduceMul, Int.reduceNeg, Int.reducePow, Int.reduceSub, Int.reduceToNat, Nat.reduceAdd, Nat.reduceEqDiff, Nat.reduceLT, Nat.reduceLeDiff, Nat.reduceMul, reduceCtorEq]
      exact hK v18 w18 (g18.from ((((ff.nb f14).nb g15.fr).nb g16.fr).nb f17))
  | succ i =>
    have h15' : ρ2 15 = .int .i64 i := by rw [h15]; congr 1; omega
    simp (disch := omega) only [EO, ↓EP, EQ, EM, ↓reduceIte, Int.reduceAdd, Int.reduceEq, Int.reduceLE, Int.reduceLT, Int.reduceMul, Int.reduceNeg, Int.reducePow, Int.reduceSub, Int.reduceToNat, Nat.reduceAdd, Nat.reduceEqDiff, Nat.reduceLT, Nat.reduceLeDiff, Nat.reduceMul, reduceCtorEq, W_join, h15', h14, r1, r8, r10, r13]
    refine wprod hvo hvo (hp13.nb f14) l5 O5 hL1 (by omega) t5 _ fun v15 w15 f15 hv15 => ?_
    rw [V5, pm_mul] at hv15
    have qe := (he13.nb f14).nb f15
    obtain ⟨A7, c7, e7, hc7, hr7⟩ := qe
    have hi32 : i / 32 < e.length := by omega
    have qg := hr7.get (by rw [nums_length]; omega)
    obtain ⟨p7, eA7, _, hp7⟩ := qg
    rw [eA7] at e7
    have cp := hp7.numN (j := i / 32) hi32
    have bx := hE.at (i / 32 : Nat)
    have ei : (i : Int) / 32 = ((i / 32 : Nat) : Int) := by omega
    have er : min ((i : Int) % 32).toNat 32 = i % 32 := by omega
    have hp3 : (0 : Int) < 2 ^ (i % 32) := p2_pos _
    have hsh0 := Int.ediv_nonneg bx.1 (show (0 : Int) ≤ 2 ^ (i % 32) by omega)
    have hsh1 : at' e (i / 32 : Nat) / 2 ^ (i % 32) < 4294967296 := by
      have := Int.ediv_le_self (2 ^ (i % 32)) bx.1
      omega
    have hn := limb_bitsG hE (i / 32) (i % 32) 1 (by omega)
    rw [show 32 * (i / 32) + i % 32 = i by omega, show (2 : Int) ^ 1 = 2 by rfl] at hn
    have hand := and1_32 hsh0 hsh1
    rw [hn] at hand
    have hbitE : val e / 2 ^ i % 2 = ((E / 2 ^ i % 2 : Nat) : Int) := by
      have : val e = (E : Int) := by omega
      rw [this]; push_cast; rfl
    rw [hbitE] at hand
    have nb := nat_bit (E := E) i
    have hexp : E / 2 ^ (i + 1) + E / 2 ^ (i + 1) = 2 * (E / 2 ^ (i + 1)) := by omega
    rw [hexp] at hv15
    have qx : ∃ x : Nat, x = E / 2 ^ i % 2 := ⟨_, rfl⟩
    obtain ⟨x, hx⟩ := qx
    rw [← hx] at hand nb
    by_cases hx1 : x = 1
    · rw [hx1] at nb
      rw [hx1, show ((1 : Nat) : Int) = 1 from rfl] at hand
      simp (disch := omega) only [wu64, wu32, wu8, fdiv_nn, EO, ↓EP, EQ, EM, ↓reduceIte, Int.reduceAdd, Int.reduceEq, Int.reduceLE, Int.reduceLT, Int.reduceMul, Int.reduceNeg, Int.reducePow, Int.reduceSub, Int.reduceToNat, Nat.reduceAdd, Nat.reduceEqDiff, Nat.reduceLT, Nat.reduceLeDiff, Nat.reduceMul, reduceCtorEq, W_join, h15', h14, r1, r8, r10, r13, e7, ei, er, cp, hand]
      refine wprod hv15 ((hb13.nb f14).nb f15) ((hp13.nb f14).nb f15) l5 O5 hL1 (by omega) t5 _ fun v16 w16 f16 hv16 => ?_
      have e2 : B ^ (2 * (E / 2 ^ (i + 1))) % P * B % val o5 = B ^ (E / 2 ^ i) % P := by
        have hBP : B % P = B := by rw [hBv, Int.emod_emod]
        have := pm_succ B P (2 * (E / 2 ^ (i + 1)))
        rw [hBP] at this
        rw [V5, this, show 2 * (E / 2 ^ (i + 1)) + 1 = E / 2 ^ i by omega]
      rw [e2] at hv16
      simp (disch := omega) only [EO, ↓EP, EQ, EM, ↓reduceIte, Int.reduceAdd, Int.reduceEq, Int.reduceLE, Int.reduceLT, Int.reduceMul, Int.reduceNeg, Int.reducePow, Int.reduceSub, Int.reduceToNat, Nat.reduceAdd, Nat.reduceEqDiff, Nat.reduceLT, Nat.reduceLeDiff, Nat.reduceMul, reduceCtorEq, h15']
      exact hN2 i _ _ (by omega) ⟨v16, by simp (disch := omega) only [EO, ↓EP, EQ, EM, ↓reduceIte, Int.reduceAdd, Int.reduceEq, Int.reduceLE, Int.reduceLT, Int.reduceMul, Int.reduceNeg, Int.reducePow, Int.reduceSub, Int.reduceToNat, Nat.reduceAdd, Nat.reduceEqDiff, Nat.reduceLT, Nat.reduceLeDiff, Nat.reduceMul, reduceCtorEq, h15'], by omega, by simp (disch := omega) only [EO, ↓EP, EQ, EM, ↓reduceIte, Int.reduceAdd, Int.reduceEq, Int.reduceLE, Int.reduceLT, Int.reduceMul, Int.reduceNeg, Int.reducePow, Int.reduceSub, Int.reduceToNat, Nat.reduceAdd, Nat.reduceEqDiff, Nat.reduceLT, Nat.reduceLeDiff, Nat.reduceMul, reduceCtorEq], hv16, (f14.nb f15).nb f16⟩
    · have hx0 : x = 0 := by omega
      rw [hx0] at nb
      rw [hx0, show ((0 : Nat) : Int) = 0 from rfl] at hand
      rw [show 2 * (E / 2 ^ (i + 1)) = E / 2 ^ i by omega] at hv15
      simp (disch := omega) only [wu64, wu32, wu8, fdiv_nn, EO, ↓EP, EQ, EM, ↓reduceIte, Int.reduceAdd, Int.reduceEq, Int.reduceLE, Int.reduceLT, Int.reduceMul, Int.reduceNeg, Int.reducePow, Int.reduceSub, Int.reduceToNat, Nat.reduceAdd, Nat.reduceEqDiff, Nat.reduceLT, Nat.reduceLeDiff, Nat.reduceMul, reduceCtorEq, W_join, h15', h14, r1, r8, r10, r13, e7, ei, er, cp, hand]
      exact hN2 i _ _ (by omega) ⟨v15, by simp (disch := omega) only [EO, ↓EP, EQ, EM, ↓reduceIte, Int.reduceAdd, Int.reduceEq, Int.reduceLE, Int.reduceLT, Int.reduceMul, Int.reduceNeg, Int.reducePow, Int.reduceSub, Int.reduceToNat, Nat.reduceAdd, Nat.reduceEqDiff, Nat.reduceLT, Nat.reduceLeDiff, Nat.reduceMul, reduceCtorEq, h15'], by omega, by simp (disch := omega) only [EO, ↓EP, EQ, EM, ↓reduceIte, Int.reduceAdd, Int.reduceEq, Int.reduceLE, Int.reduceLT, Int.reduceMul, Int.reduceNeg, Int.reducePow, Int.reduceSub, Int.reduceToNat, Nat.reduceAdd, Nat.reduceEqDiff, Nat.reduceLT, Nat.reduceLeDiff, Nat.reduceMul, reduceCtorEq], hv15, f14.nb f15⟩
set_option maxHeartbeats 2000000 in
theorem dear_vw {w : World} {ve vm : Value} {e m : List Int} (he : Vw .u32 w ve e) (hm : Vw .u32 w vm m) (K : Value → World → Prop)
    (hK : ∀ c : Bool, K (.bool c) w) : callK Try.prog 34 [ve, vm] w K := by
  obtain ⟨A1, c1, e1, hc1, hr1⟩ := id he
  obtain ⟨A2, c2, e2, hc2, hr2⟩ := id hm
  refine call_of Try.func34 Code.h34 (by simp [Code.c34]) ?_
  by_cases h1 : (e.length : Int) ≤ 256
  · by_cases h2 : (m.length : Int) ≤ 256
    · have m1 : (e.length : Int) * (m.length : Int) ≤ 256 * 256 := Int.mul_le_mul h1 h2 (by omega) (by omega)
      have m0 : 0 ≤ (e.length : Int) * (m.length : Int) := Int.mul_nonneg (by omega) (by omega)
      have qm : ∃ z, z = (e.length : Int) * (m.length : Int) := ⟨_, rfl⟩
      obtain ⟨z, hz⟩ := qm
      rw [← hz] at m1 m0
      have m2 : z * (m.length : Int) ≤ 256 * 256 * 256 := Int.mul_le_mul m1 h2 (by omega) (by omega)
      have m3 : 0 ≤ z * (m.length : Int) := Int.mul_nonneg m0 (by omega)
      simp (disch := omega) only [EO, ↓EP, EQ, EM, ↓reduceIte, Int.reduceAdd, Int.reduceEq, Int.reduceLE, Int.reduceLT, Int.reduceMul, Int.reduceNeg, Int.reducePow, Int.reduceSub, Int.reduceToNat, Nat.reduceAdd, Nat.reduceEqDiff, Nat.reduceLT, Nat.reduceLeDiff, Nat.reduceMul, reduceCtorEq, W_join, Code.c34, e1, e2, ← hz]
      exact hK _
    · simp (disch := omega) only [EO, ↓EP, EQ, EM, ↓reduceIte, Int.reduceAdd, Int.reduceEq, Int.reduceLE, Int.reduceLT, Int.reduceMul, Int.reduceNeg, Int.reducePow, Int.reduceSub, Int.reduceToNat, Nat.reduceAdd, Nat.reduceEqDiff, Nat.reduceLT, Nat.reduceLeDiff, Nat.reduceMul, reduceCtorEq, W_join, Code.c34, e1, e2]
      exact hK _
  · simp (disch := omega) only [EO, ↓EP, EQ, EM, ↓reduceIte, Int.reduceAdd, Int.reduceEq, Int.reduceLE, Int.reduceLT, Int.reduceMul, Int.reduceNeg, Int.reducePow, Int.reduceSub, Int.reduceToNat, Nat.reduceAdd, Nat.reduceEqDiff, Nat.reduceLT, Nat.reduceLeDiff, Nat.reduceMul, reduceCtorEq, W_join, Code.c34, e1, e2]
    exact hK _
theorem pow_len {b e m : List Int} (hM : Lim m) : (powR b e m).1.length ≤ 512 := by
  unfold powR; split
  · simp
  · split
    · simp
    · rename_i h1 h2
      show (limbs (val b ^ (val e).toNat % val m)).length ≤ 512
      have b3 := (val_bd hM).1
      have hp : 0 < val m := by omega
      have := len_mono (mod_bd (a := val b ^ (val e).toNat) hp).1 (show val b ^ (val e).toNat % val m ≤ val m by have := (mod_bd (a := val b ^ (val e).toNat) hp).2; omega)
      have := len_val hM
      omega
set_option maxHeartbeats 2000000 in
theorem powers_law {w0 : World} {va vb vc : Value} {a b c : List Int} (ha : Vw .u32 w0 va a) (hb : Vw .u32 w0 vb b) (hc : Vw .u32 w0 vc c) (hA : Lim a) (hB : Lim b) (hC : Lim c) (za : a.length ≤ 35184372088824) (zb : b.length ≤ 35184372088824) (zc : c.length ≤ 35184372088824) (K : Value → World → Prop)
    (hK : ∀ w', Fr w0 w' nob → K (.bool true) w') : callK Try.prog 6 [va, vb, vc] w0 K := by
  refine call_of Try.func6 Code.h6 (by simp [Code.c6]) ?_
  simp (disch := omega) only [EO, ↓EP, EQ, EM, ↓reduceIte, Int.reduceAdd, Int.reduceEq, Int.reduceLE, Int.reduceLT, Int.reduceMul, Int.reduceNeg, Int.reducePow, Int.reduceSub, Int.reduceToNat, Nat.reduceAdd, Nat.reduceEqDiff, Nat.reduceLT, Nat.reduceLeDiff, Nat.reduceMul, reduceCtorEq, Code.c6]
  refine dear_vw hb hc _ fun bb => ?_
  cases bb with
  | true =>
    simp (disch := omega) only [EO, ↓EP, EQ, EM, ↓reduceIte, Int.reduceAdd, Int.reduceEq, Int.reduceLE, Int.reduceLT, Int.reduceMul, Int.reduceNeg, Int.reducePow, Int.reduceSub, Int.reduceToNat, Nat.reduceAdd, Nat.reduceEqDiff, Nat.reduceLT, Nat.reduceLeDiff, Nat.reduceMul, reduceCtorEq]
    refine live_spec _ _ fun w1 f1 => ?_
    simp (disch := omega) only [EO, ↓EP, EQ, EM, ↓reduceIte, Int.reduceAdd, Int.reduceEq, Int.reduceLE, Int.reduceLT, Int.reduceMul, Int.reduceNeg, Int.reducePow, Int.reduceSub, Int.reduceToNat, Nat.reduceAdd, Nat.reduceEqDiff, Nat.reduceLT, Nat.reduceLeDiff, Nat.reduceMul, reduceCtorEq]
    exact hK w1 f1
  | false =>
    simp (disch := omega) only [EO, ↓EP, EQ, EM, ↓reduceIte, Int.reduceAdd, Int.reduceEq, Int.reduceLE, Int.reduceLT, Int.reduceMul, Int.reduceNeg, Int.reducePow, Int.reduceSub, Int.reduceToNat, Nat.reduceAdd, Nat.reduceEqDiff, Nat.reduceLT, Nat.reduceLeDiff, Nat.reduceMul, reduceCtorEq]
    refine lent_vw ha za _ fun vd w1 L1 f1 => ?_
    simp (disch := omega) only [EO, ↓EP, EQ, EM, ↓reduceIte, Int.reduceAdd, Int.reduceEq, Int.reduceLE, Int.reduceLT, Int.reduceMul, Int.reduceNeg, Int.reducePow, Int.reduceSub, Int.reduceToNat, Nat.reduceAdd, Nat.reduceEqDiff, Nat.reduceLT, Nat.reduceLeDiff, Nat.reduceMul, reduceCtorEq]
    refine lent_vw (hb.nb f1) zb _ fun vf w2 L2 f2 => ?_
    have L1 := L1.nb f2
    simp (disch := omega) only [EO, ↓EP, EQ, EM, ↓reduceIte, Int.reduceAdd, Int.reduceEq, Int.reduceLE, Int.reduceLT, Int.reduceMul, Int.reduceNeg, Int.reducePow, Int.reduceSub, Int.reduceToNat, Nat.reduceAdd, Nat.reduceEqDiff, Nat.reduceLT, Nat.reduceLeDiff, Nat.reduceMul, reduceCtorEq]
    refine lent_vw (hc.nb (f1.nb f2)) zc _ fun vg w3 L3 f3 => ?_
    have L1 := L1.nb f3
    have L2 := L2.nb f3
    simp (disch := omega) only [EO, ↓EP, EQ, EM, ↓reduceIte, Int.reduceAdd, Int.reduceEq, Int.reduceLE, Int.reduceLT, Int.reduceMul, Int.reduceNeg, Int.reducePow, Int.reduceSub, Int.reduceToNat, Nat.reduceAdd, Nat.reduceEqDiff, Nat.reduceLT, Nat.reduceLeDiff, Nat.reduceMul, reduceCtorEq]
    refine expmod_vw L1.vw L2.vw L3.vw hA hB hC _ fun v4 w4 g4 => ?_
    have f4 := g4.fr
    simp (disch := omega) only [EO, ↓EP, EQ, EM, ↓reduceIte, Int.reduceAdd, Int.reduceEq, Int.reduceLE, Int.reduceLT, Int.reduceMul, Int.reduceNeg, Int.reducePow, Int.reduceSub, Int.reduceToNat, Nat.reduceAdd, Nat.reduceEqDiff, Nat.reduceLT, Nat.reduceLeDiff, Nat.reduceMul, reduceCtorEq]
    refine rexpmod_vw (ha.nb (((f1.nb f2).nb f3).nb f4)) (hb.nb (((f1.nb f2).nb f3).nb f4)) (hc.nb (((f1.nb f2).nb f3).nb f4)) hA hB hC _ fun v5 w5 g5 => ?_
    have f5 := g5.fr
    have hlen := pow_len (b := a) (e := b) hC
    simp (disch := omega) only [EO, ↓EP, EQ, EM, ↓reduceIte, Int.reduceAdd, Int.reduceEq, Int.reduceLE, Int.reduceLT, Int.reduceMul, Int.reduceNeg, Int.reducePow, Int.reduceSub, Int.reduceToNat, Nat.reduceAdd, Nat.reduceEqDiff, Nat.reduceLT, Nat.reduceLeDiff, Nat.reduceMul, reduceCtorEq]
    refine same_yes (g4.vw.nb f5) g5.vw rfl (by omega) _ fun w6 f6 => ?_
    simp (disch := omega) only [EO, ↓EP, EQ, EM, ↓reduceIte, Int.reduceAdd, Int.reduceEq, Int.reduceLE, Int.reduceLT, Int.reduceMul, Int.reduceNeg, Int.reducePow, Int.reduceSub, Int.reduceToNat, Nat.reduceAdd, Nat.reduceEqDiff, Nat.reduceLT, Nat.reduceLeDiff, Nat.reduceMul, reduceCtorEq]
    refine num_spec _ _ _ ?_
    simp (disch := omega) only [EO, ↓EP, EQ, EM, ↓reduceIte, Int.reduceAdd, Int.reduceEq, Int.reduceLE, Int.reduceLT, Int.reduceMul, Int.reduceNeg, Int.reducePow, Int.reduceSub, Int.reduceToNat, Nat.reduceAdd, Nat.reduceEqDiff, Nat.reduceLT, Nat.reduceLeDiff, Nat.reduceMul, reduceCtorEq]
    refine kept_vw (L1.nb ((f4.nb f5).nb f6)) (ha.nb (((((f1.nb f2).nb f3).nb f4).nb f5).nb f6)) za _ fun w7 f7 => ?_
    simp (disch := omega) only [EO, ↓EP, EQ, EM, ↓reduceIte, Int.reduceAdd, Int.reduceEq, Int.reduceLE, Int.reduceLT, Int.reduceMul, Int.reduceNeg, Int.reducePow, Int.reduceSub, Int.reduceToNat, Nat.reduceAdd, Nat.reduceEqDiff, Nat.reduceLT, Nat.reduceLeDiff, Nat.reduceMul, reduceCtorEq]
    refine kept_vw (L2.nb (((f4.nb f5).nb f6).nb f7)) (hb.nb ((((((f1.nb f2).nb f3).nb f4).nb f5).nb f6).nb f7)) zb _ fun w8 f8 => ?_
    simp (disch := omega) only [EO, ↓EP, EQ, EM, ↓reduceIte, Int.reduceAdd, Int.reduceEq, Int.reduceLE, Int.reduceLT, Int.reduceMul, Int.reduceNeg, Int.reducePow, Int.reduceSub, Int.reduceToNat, Nat.reduceAdd, Nat.reduceEqDiff, Nat.reduceLT, Nat.reduceLeDiff, Nat.reduceMul, reduceCtorEq]
    refine kept_vw (L3.nb ((((f4.nb f5).nb f6).nb f7).nb f8)) (hc.nb (((((((f1.nb f2).nb f3).nb f4).nb f5).nb f6).nb f7).nb f8)) zc _ fun w9 f9 => ?_
    simp (disch := omega) only [EO, ↓EP, EQ, EM, ↓reduceIte, Int.reduceAdd, Int.reduceEq, Int.reduceLE, Int.reduceLT, Int.reduceMul, Int.reduceNeg, Int.reducePow, Int.reduceSub, Int.reduceToNat, Nat.reduceAdd, Nat.reduceEqDiff, Nat.reduceLT, Nat.reduceLeDiff, Nat.reduceMul, reduceCtorEq]
    refine live_spec _ _ fun w10 f10 => ?_
    simp (disch := omega) only [EO, ↓EP, EQ, EM, ↓reduceIte, Int.reduceAdd, Int.reduceEq, Int.reduceLE, Int.reduceLT, Int.reduceMul, Int.reduceNeg, Int.reducePow, Int.reduceSub, Int.reduceToNat, Nat.reduceAdd, Nat.reduceEqDiff, Nat.reduceLT, Nat.reduceLeDiff, Nat.reduceMul, reduceCtorEq]
    exact hK w10 (((((((((f1.nb f2).nb f3).nb f4).nb f5).nb f6).nb f7).nb f8).nb f9).nb f10)
end Go.Proofs.Ytbgfebhhejlakaa.Spec
namespace Go.Proofs.Ytbgfebhhejlakaa
open Go Go.ChangeShapes Go.WideShapes Go.ChangeAt Go.WideMaps Go.WideElems Go.RowKit Go.Proofs.Ytbgfebhhejlakaa.Eng Go.Proofs.Ytbgfebhhejlakaa.Spec
set_option maxRecDepth 100000
theorem natPowers_walk {H : Type} {enc : TypeId × Value → H} (W : World) (base : Nat) (args : Array Value) (ds : List (DataW H)) (p : List MemPlace) (hA0 : DataW.TrodAll enc Try.prog W 0 (fun _ => true) true Try.f6.params.toList args.toList ds p)
    (hval : ∀ (j : Nat) t v, Try.f6.params[j]? = some t → args[j]? = some v → Value.okWide Try.prog W .any base t v) (hz : (DataW.weightsEach Try.prog Try.f6.params.toList ds).all (· ≤ reachBytes) = true) (hL : True) :
    callK Try.prog 6 args.toList W fun v w' => v = .bool true ∧ Fr W w' nob := by
  have hA : DataW.TrodAll enc Try.prog W 0 (fun _ => true) true Try.f6.params.toList args.toList ds p := hA0
  rw [Try.params6] at hA hval
  obtain ⟨v0, v1, v2, d0, d1, d2, p0, p1, p2, rfl, rfl, rfl, h0, h1, h2⟩ := trodAll_three hA
  obtain ⟨A0, c0, l0, m0, rfl, hc0, h630, hd0, hl0, hw0⟩ := Row.open_sl Try.underlying22 Try.underlying42 cells_u32 (hval 0 22 v0 rfl rfl) h0
  have sz0 : l0.length * 4 ≤ 140737488351232 := sized_of (j := 0) hd0 rfl rfl Try.underlying22 (by kernel_rfl) hz
  obtain ⟨A1, c1, l1, m1, rfl, hc1, h631, hd1, hl1, hw1⟩ := Row.open_sl Try.underlying22 Try.underlying42 cells_u32 (hval 1 22 v1 rfl rfl) h1
  have sz1 : l1.length * 4 ≤ 140737488351232 := sized_of (j := 1) hd1 rfl rfl Try.underlying22 (by kernel_rfl) hz
  obtain ⟨A2, c2, l2, m2, rfl, hc2, h632, hd2, hl2, hw2⟩ := Row.open_sl Try.underlying22 Try.underlying42 cells_u32 (hval 2 22 v2 rfl rfl) h2
  have sz2 : l2.length * 4 ≤ 140737488351232 := sized_of (j := 2) hd2 rfl rfl Try.underlying22 (by kernel_rfl) hz
  exact Spec.powers_law (vw_of hc0 hl0) (vw_of hc1 hl1) (vw_of hc2 hl2) (lim_of hw0) (lim_of hw1) (lim_of hw2) (by omega) (by omega) (by omega) _ fun w' f => ⟨rfl, f⟩
theorem natPowers_lifted (os : Os) (started : os.Started) (H : Type) (enc : TypeId × Value → H) :
    ReturnsInHanded {} Try.checked os 6 .any (fun w args => Rows.natPowersSpec.pre enc Try.prog Try.f6 [] false w args ∧ sizedMet enc Try.prog Try.f6 (OpenSpec.ofChange Rows.natPowersSpec) false w args)
      (Rows.natPowersSpec.post enc Try.prog Try.f6 false true false false) := by
  have h := Row.lifted_of (enc := enc) (s := Rows.natPowersSpec) (C := Try.checked) (X := fun _ _ => True) (fun _ _ _ _ h => h) own started (by kernel_rfl) Try.func6
    (ChangeSpec.witness_shaped (enc := enc) (C := Try.checked) (os := os) (X := fun _ _ => True) false (World.holding Try.prog os ⟨#[], #[.slice none 0 0, .slice none 0 0, .slice none 0 0], []⟩) #[.slice none 0 0, .slice none 0 0, .slice none 0 0] 8 rfl (World.shaped_of_B (by kernel_rfl) (by kernel_rfl)) (by kernel_rfl) (by kernel_rfl) (by kernel_rfl) trivial)
    laidOut (tb := 4) (by kernel_rfl) Try.underlying4 rfl (of_decide_eq_true (by kernel_rfl)) (fun ds h => by rw [show Try.f6.params.size = 3 by kernel_rfl] at h; obtain ⟨a, b, c, rfl⟩ := Row.len3 h; exact ⟨rfl, rfl, rfl⟩)
    (fun W base args ds p hA hval hz hL => natPowers_walk (enc := enc) W base args ds p hA hval hz hL)
  simp only [and_true] at h
  exact h
theorem natPowers_holds : Rows.NatPowersSaid :=
  OpenClaim.holds_of_wide 6 Try.f6 rfl rfl rfl rfl rfl rfl rfl ⟨rfl, rfl, rfl, rfl, rfl⟩ rfl rfl rfl rfl rfl (by kernel_rfl) Try.func6 (by kernel_rfl)
    (of_decide_eq_true (by kernel_rfl)) (by unfold Func.isWrapper; first | (rw [if_pos (by decide +kernel)]; kernel_rfl) | (rw [if_neg (by decide +kernel)]; exact ⟨rfl, rfl⟩))
    (fun os started H enc _ => natPowers_lifted os started H enc)
end Go.Proofs.Ytbgfebhhejlakaa
