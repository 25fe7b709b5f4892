/- Numbers by limbs: what a guess takes off, walked. -/
import Derived.Test.YtbgfebhhejlakaaNat7
set_option linter.unusedVariables false
set_option linter.unusedSimpArgs false
namespace Go.Proofs.Ytbgfebhhejlakaa.Spec
open Go Go.RowKit Go.Proofs Go.Proofs.Ytbgfebhhejlakaa.Eng Go.Proofs.Ytbgfebhhejlakaa.Code Go.Proofs.Ytbgfebhhejlakaa.Big
set_option maxRecDepth 100000
attribute [local irreducible] callK S.W opsW scrW

/-! ### A window of a block -/
theorem win_set {pre win post : List Int} {o i : Nat} {x : Int} (ho : pre.length = o) (hi : i < win.length) : (pre ++ win ++ post).set (o + i) x = pre ++ win.set i x ++ post := by
  rw [List.append_assoc, List.set_append_right _ _ (by omega), show o + i - pre.length = i by omega, List.set_append_left _ _ hi, List.append_assoc]
theorem win_cell {w : World} {b o i : Nat} {pre win post : List Int} (hB : Blk w b (nums .u32 (pre ++ win ++ post))) (ho : pre.length = o) (hi : i < win.length) : w.cell? ⟨b, o + i, none⟩ = some (.int .u32 (at' win i)) := by
  have := hB.numN (j := o + i) (by simp only [List.length_append]; omega)
  rw [this, at_nat, at_nat, List.append_assoc, List.getD_eq_getElem?_getD, List.getElem?_append_right (by omega), List.getElem?_append_left (by omega), show o + i - pre.length = i by omega, ← List.getD_eq_getElem?_getD]
theorem st_win {w : World} {b o i : Nat} {pre win post : List Int} {x : Int} {K : World → Prop} (hB : Blk w b (nums .u32 (pre ++ win ++ post))) (ho : pre.length = o) (hi : i < win.length) (hK : ∀ w', Blk w' b (nums .u32 (pre ++ win.set i x ++ post)) → Fr w w' (fun y => y = b) → K w') : stK 1 ⟨b, o + i, none⟩ (.int .u32 x) w K :=
  st_num hB (by simp only [List.length_append]; omega) fun w' p => hK w' (by have := p.blk; rwa [win_set ho hi] at this) p.fr
theorem ro_at {w : World} {A : Option Addr} {l : List Int} {P : Nat → Prop} {k : Nat} (h : RO .u32 w A l P) (hk : k < l.length) : ∃ p, A = some p ∧ w.cell? (p.add k) = some (.int .u32 (at' l k)) := by
  obtain ⟨p, e, _, hp⟩ := h.rd.get (by rw [nums_length]; omega)
  exact ⟨p, e, hp.numN hk⟩
theorem tp_step {win : List Int} {i : Nat} {x q v cr br u cr' br' : Int} {Wv Vv : Int} (hi : i < win.length) (h : val (win.take i) - (cr + br) * pw i = Wv - q * Vv) (hx : x - br' * 4294967296 = u - (q * v + cr) % 4294967296 - br) (hc : cr' = (q * v + cr) / 4294967296) :
    val ((win.set i x).take (i + 1)) - (cr' + br') * pw (i + 1) = (Wv + u * pw i) - q * (Vv + v * pw i) := by
  rw [val_take_set hi, pw_succ]
  have := Int.mul_ediv_add_emod (q * v + cr) 4294967296
  subst hc
  grind
set_option maxHeartbeats 2000000 in
theorem takes_spec {w : World} {ub o cu m d : Nat} {pre win post v : List Int} {B : Option Addr} {q : Int} (hB : Blk w ub (nums .u32 (pre ++ win ++ post))) (ho : pre.length = o) (hw : win.length = m + 1) (hm : v.length = m) (hr : RO .u32 w B v (fun b => b = ub)) (hW : Lim win) (hV : Lim v) (h40 : m ≤ 1099511627776) (hq : 0 ≤ q ∧ q < 4294967296) (hlo : (q - 1) * val v ≤ val win) (K : Value → World → Prop)
    (hK : ∀ win' w', Blk w' ub (nums .u32 (pre ++ win' ++ post)) → win'.length = m + 1 → Lim win' → Fr w w' (fun b => b = ub) → val win' = val win - q * val v → K (.bool true) w')
    (hK' : ∀ win' w', Blk w' ub (nums .u32 (pre ++ win' ++ post)) → win'.length = m + 1 → Lim win' → Fr w w' (fun b => b = ub) → val win' = val win - (q - 1) * val v → val win' < val v → K (.bool false) w') :
    callK Try.prog 74 [.slice (some ⟨ub, o, none⟩) (m + 1) cu, .slice B m d, .int .u32 q] w K := by
  refine call_of Try.func74 Code.h74 (by simp [Code.c74]) ?_
  simp (disch := omega) only [EO, ↓EP, EQ, EM, ↓reduceIte, Int.reduceAdd, Int.reduceEq, Int.reduceLE, Int.reduceLT, Int.reduceMul, Int.reduceNeg, Int.reducePow, Int.reduceSub, Int.reduceToNat, Nat.reduceAdd, Nat.reduceEqDiff, Nat.reduceLT, Nat.reduceLeDiff, Nat.reduceMul, reduceCtorEq, Code.c74]
  refine loop_inv (fun t ρ w2 => ∃ (i : Nat) (x : List Int) (cr br : Int), ρ 15 = .int .i64 i ∧ i ≤ m ∧ t = m - i ∧ ρ 7 = .int .u64 cr ∧ ρ 8 = .int .u32 br ∧ 0 ≤ cr ∧ cr < 4294967296 ∧ 0 ≤ br ∧ br ≤ 1 ∧ Blk w2 ub (nums .u32 (pre ++ x ++ post)) ∧ x.length = m + 1 ∧ Lim x ∧ val (x.take i) - (cr + br) * pw i = val (win.take i) - q * val (v.take i) ∧ (∀ j : Nat, i ≤ j → at' x j = at' win j) ∧ Fr w w2 (fun b => b = ub)) _
    ⟨0, win, 0, 0, by simp (disch := omega) only [EO, ↓EP, EQ, EM, ↓reduceIte, Int.reduceAdd, Int.reduceEq, Int.reduceLE, Int.reduceLT, Int.reduceMul, Int.reduceNeg, Int.reducePow, Int.reduceSub, Int.reduceToNat, Nat.reduceAdd, Nat.reduceEqDiff, Nat.reduceLT, Nat.reduceLeDiff, Nat.reduceMul, reduceCtorEq], by omega, rfl, by simp (disch := omega) only [EO, ↓EP, EQ, EM, ↓reduceIte, Int.reduceAdd, Int.reduceEq, Int.reduceLE, Int.reduceLT, Int.reduceMul, Int.reduceNeg, Int.reducePow, Int.reduceSub, Int.reduceToNat, Nat.reduceAdd, Nat.reduceEqDiff, Nat.reduceLT, Nat.reduceLeDiff, Nat.reduceMul, reduceCtorEq], by simp (disch := omega) only [EO, ↓EP, EQ, EM, ↓reduceIte, Int.reduceAdd, Int.reduceEq, Int.reduceLE, Int.reduceLT, Int.reduceMul, Int.reduceNeg, Int.reducePow, Int.reduceSub, Int.reduceToNat, Nat.reduceAdd, Nat.reduceEqDiff, Nat.reduceLT, Nat.reduceLeDiff, Nat.reduceMul, reduceCtorEq], by omega, by omega, by omega, by omega, hB, hw, hW, by simp [val_nil], fun _ _ => rfl, Fr.refl _ _⟩ ?_
  rintro t ρ w2 hf ⟨i, x, cr, br, h15, hi, rfl, h7, h8, hc0, hc1, hb0, hb1, hB2, hx, hX, hv, hsame, f2⟩ N hN
  have q0 : ρ 0 = .slice (some ⟨ub, o, none⟩) (m + 1) cu := by rw [hf 0 rfl]; simp (disch := omega) only [EO, ↓EP, EQ, EM, ↓reduceIte, Int.reduceAdd, Int.reduceEq, Int.reduceLE, Int.reduceLT, Int.reduceMul, Int.reduceNeg, Int.reducePow, Int.reduceSub, Int.reduceToNat, Nat.reduceAdd, Nat.reduceEqDiff, Nat.reduceLT, Nat.reduceLeDiff, Nat.reduceMul, reduceCtorEq]
  have q1 : ρ 1 = .slice B m d := by rw [hf 1 rfl]; simp (disch := omega) only [EO, ↓EP, EQ, EM, ↓reduceIte, Int.reduceAdd, Int.reduceEq, Int.reduceLE, Int.reduceLT, Int.reduceMul, Int.reduceNeg, Int.reducePow, Int.reduceSub, Int.reduceToNat, Nat.reduceAdd, Nat.reduceEqDiff, Nat.reduceLT, Nat.reduceLeDiff, Nat.reduceMul, reduceCtorEq]
  have q2 : ρ 2 = .int .u32 q := by rw [hf 2 rfl]; simp (disch := omega) only [EO, ↓EP, EQ, EM, ↓reduceIte, Int.reduceAdd, Int.reduceEq, Int.reduceLE, Int.reduceLT, Int.reduceMul, Int.reduceNeg, Int.reducePow, Int.reduceSub, Int.reduceToNat, Nat.reduceAdd, Nat.reduceEqDiff, Nat.reduceLT, Nat.reduceLeDiff, Nat.reduceMul, reduceCtorEq]
  have q14 : ρ 14 = .int .i64 m := by rw [hf 14 rfl]; simp (disch := omega) only [EO, ↓EP, EQ, EM, ↓reduceIte, Int.reduceAdd, Int.reduceEq, Int.reduceLE, Int.reduceLT, Int.reduceMul, Int.reduceNeg, Int.reducePow, Int.reduceSub, Int.reduceToNat, Nat.reduceAdd, Nat.reduceEqDiff, Nat.reduceLT, Nat.reduceLeDiff, Nat.reduceMul, reduceCtorEq]
  clear hf
  have sub : ∀ (a b c : Int) (w : World), 0 ≤ a ∧ a < 4294967296 → 0 ≤ b ∧ b < 4294967296 → 0 ≤ c ∧ c ≤ 1 → ∃ x b' : Int, 0 ≤ x ∧ x < 4294967296 ∧ 0 ≤ b' ∧ b' ≤ 1 ∧ x - b' * 4294967296 = a - b - c ∧ ∀ K : Value → World → Prop, K (.tuple #[.int .u32 x, .int .u32 b']) w → callK Try.prog 69 [.int .u32 a, .int .u32 b, .int .u32 c] w K := by
    intro a b c w ha hb hc
    refine ⟨(a - b - c) % 4294967296, if a < b + c then 1 else 0, by omega, by omega, ?_, ?_, ?_, fun K h => sub32_spec a b c ha hb hc w K h⟩ <;> split <;> omega
  by_cases him : (i : Int) < (m : Int)
  · obtain ⟨p, rfl, cp⟩ := ro_at (hr.fr f2) (k := i) (by omega)
    have co := win_cell hB2 ho (i := i) (by omega)
    have bv := hV.at i
    have bo := hX.at i
    have hmb := mul_bd hq bv
    have hu := hsame i (Nat.le_refl _)
    obtain ⟨y, b', y0, y1, b0, b1, hy, hsub⟩ := sub (at' x i) ((q * at' v i + cr) % 4294967296) br w2 bo (by omega) ⟨hb0, hb1⟩
    simp (disch := omega) only [wu64, wu32, wu8, fdiv_nn, EO, ↓EP, EQ, EM, ↓reduceIte, Int.reduceAdd, Int.reduceEq, Int.reduceLE, Int.reduceLT, Int.reduceMul, Int.reduceNeg, Int.reducePow, Int.reduceSub, Int.reduceToNat, Nat.reduceAdd, Nat.reduceEqDiff, Nat.reduceLT, Nat.reduceLeDiff, Nat.reduceMul, reduceCtorEq, h15, h7, h8, q0, q1, q2, q14, cp, co, wu32_mod]
    refine hsub _ ?_
    simp (disch := omega) only [wu64, wu32, wu8, fdiv_nn, EO, ↓EP, EQ, EM, ↓reduceIte, Int.reduceAdd, Int.reduceEq, Int.reduceLE, Int.reduceLT, Int.reduceMul, Int.reduceNeg, Int.reducePow, Int.reduceSub, Int.reduceToNat, Nat.reduceAdd, Nat.reduceEqDiff, Nat.reduceLT, Nat.reduceLeDiff, Nat.reduceMul, reduceCtorEq, h15, q0]
    refine st_win hB2 ho (by omega) fun w4 B4 f4 => ?_
    simp (disch := omega) only [wu64, wu32, wu8, fdiv_nn, EO, ↓EP, EQ, EM, ↓reduceIte, Int.reduceAdd, Int.reduceEq, Int.reduceLE, Int.reduceLT, Int.reduceMul, Int.reduceNeg, Int.reducePow, Int.reduceSub, Int.reduceToNat, Nat.reduceAdd, Nat.reduceEqDiff, Nat.reduceLT, Nat.reduceLeDiff, Nat.reduceMul, reduceCtorEq, h15]
    refine hN (m - (i + 1)) _ _ (by omega) ⟨i + 1, _, (q * at' v i + cr) / 4294967296, b', by simp (disch := omega) only [EO, ↓EP, EQ, EM, ↓reduceIte, Int.reduceAdd, Int.reduceEq, Int.reduceLE, Int.reduceLT, Int.reduceMul, Int.reduceNeg, Int.reducePow, Int.reduceSub, Int.reduceToNat, Nat.reduceAdd, Nat.reduceEqDiff, Nat.reduceLT, Nat.reduceLeDiff, Nat.reduceMul, reduceCtorEq, h15, Int.natCast_add], by omega, rfl, by simp (disch := omega) only [EO, ↓EP, EQ, EM, ↓reduceIte, Int.reduceAdd, Int.reduceEq, Int.reduceLE, Int.reduceLT, Int.reduceMul, Int.reduceNeg, Int.reducePow, Int.reduceSub, Int.reduceToNat, Nat.reduceAdd, Nat.reduceEqDiff, Nat.reduceLT, Nat.reduceLeDiff, Nat.reduceMul, reduceCtorEq], by simp (disch := omega) only [EO, ↓EP, EQ, EM, ↓reduceIte, Int.reduceAdd, Int.reduceEq, Int.reduceLE, Int.reduceLT, Int.reduceMul, Int.reduceNeg, Int.reducePow, Int.reduceSub, Int.reduceToNat, Nat.reduceAdd, Nat.reduceEqDiff, Nat.reduceLT, Nat.reduceLeDiff, Nat.reduceMul, reduceCtorEq], by omega, by omega, b0, b1, B4, by rw [List.length_set]; exact hx, hX.set _ y0 y1, ?_, ?_, f2.trans f4 fun _ _ e => e⟩
    · rw [val_take_succ' win i, val_take_succ' v i, ← hu]
      exact tp_step (by omega) hv hy rfl
    · intro j hj
      rw [at_setO (by omega)]
      exact hsame j (by omega)
  · have him : i = m := by omega
    subst him
    have co := win_cell hB2 ho (i := i) (by omega)
    have bo := hX.at i
    have hu := hsame i (Nat.le_refl _)
    obtain ⟨y, b', y0, y1, b0, b1, hy, hsub⟩ := sub (at' x i) cr br w2 bo ⟨hc0, hc1⟩ ⟨hb0, hb1⟩
    have hv1 : val (x.set i y) - b' * pw (i + 1) = val win - q * val v := by
      rw [← val_take_all (l := x.set i y) (n := i + 1) (by rw [List.length_set]; omega), val_take_set (by omega), ← val_take_all (l := win) (n := i + 1) (by omega), val_take_succ' win i, ← val_take_all (l := v) (n := i) (by omega), pw_succ, ← hu]
      grind
    simp (disch := omega) only [wu64, wu32, wu8, fdiv_nn, EO, ↓EP, EQ, EM, ↓reduceIte, Int.reduceAdd, Int.reduceEq, Int.reduceLE, Int.reduceLT, Int.reduceMul, Int.reduceNeg, Int.reducePow, Int.reduceSub, Int.reduceToNat, Nat.reduceAdd, Nat.reduceEqDiff, Nat.reduceLT, Nat.reduceLeDiff, Nat.reduceMul, reduceCtorEq, h15, h7, h8, q0, q1, q14, co, wu32_mod]
    refine hsub _ ?_
    simp (disch := omega) only [wu64, wu32, wu8, fdiv_nn, EO, ↓EP, EQ, EM, ↓reduceIte, Int.reduceAdd, Int.reduceEq, Int.reduceLE, Int.reduceLT, Int.reduceMul, Int.reduceNeg, Int.reducePow, Int.reduceSub, Int.reduceToNat, Nat.reduceAdd, Nat.reduceEqDiff, Nat.reduceLT, Nat.reduceLeDiff, Nat.reduceMul, reduceCtorEq, q0]
    refine st_win hB2 ho (by omega) fun w4 B4 f4 => ?_
    have f4 := f2.trans f4 fun _ _ e => e
    have X4 : Lim (x.set i y) := hX.set _ y0 y1
    have l4 : (x.set i y).length = i + 1 := by rw [List.length_set]; exact hx
    generalize x.set i y = x4 at *
    clear hB2 hX hv hsame f2 sub hsub hN co bo hu
    rcases (show b' = 0 ∨ b' = 1 by omega) with hb' | hb'
    · subst hb'
      simp (disch := omega) only [wu64, wu32, wu8, fdiv_nn, EO, ↓EP, EQ, EM, ↓reduceIte, Int.reduceAdd, Int.reduceEq, Int.reduceLE, Int.reduceLT, Int.reduceMul, Int.reduceNeg, Int.reducePow, Int.reduceSub, Int.reduceToNat, Nat.reduceAdd, Nat.reduceEqDiff, Nat.reduceLT, Nat.reduceLeDiff, Nat.reduceMul, reduceCtorEq]
      exact hK x4 w4 B4 l4 X4 f4 (by omega)
    · subst hb'
      simp (disch := omega) only [wu64, wu32, wu8, fdiv_nn, EO, ↓EP, EQ, EM, ↓reduceIte, Int.reduceAdd, Int.reduceEq, Int.reduceLE, Int.reduceLT, Int.reduceMul, Int.reduceNeg, Int.reducePow, Int.reduceSub, Int.reduceToNat, Nat.reduceAdd, Nat.reduceEqDiff, Nat.reduceLT, Nat.reduceLeDiff, Nat.reduceMul, reduceCtorEq, q1]
      refine loop_inv (fun t ρ2 w5 => ∃ (k : Nat) (z : List Int) (cc : Int), ρ2 65 = .int .i64 k ∧ k ≤ i ∧ t = i - k ∧ ρ2 11 = .int .u32 cc ∧ 0 ≤ cc ∧ cc ≤ 1 ∧ Blk w5 ub (nums .u32 (pre ++ z ++ post)) ∧ z.length = i + 1 ∧ Lim z ∧ val (z.take k) + cc * pw k = val (x4.take k) + val (v.take k) ∧ (∀ j : Nat, k ≤ j → at' z j = at' x4 j) ∧ Fr w w5 (fun b => b = ub)) _
        ⟨0, x4, 0, by simp (disch := omega) only [EO, ↓EP, EQ, EM, ↓reduceIte, Int.reduceAdd, Int.reduceEq, Int.reduceLE, Int.reduceLT, Int.reduceMul, Int.reduceNeg, Int.reducePow, Int.reduceSub, Int.reduceToNat, Nat.reduceAdd, Nat.reduceEqDiff, Nat.reduceLT, Nat.reduceLeDiff, Nat.reduceMul, reduceCtorEq], by omega, rfl, by simp (disch := omega) only [EO, ↓EP, EQ, EM, ↓reduceIte, Int.reduceAdd, Int.reduceEq, Int.reduceLE, Int.reduceLT, Int.reduceMul, Int.reduceNeg, Int.reducePow, Int.reduceSub, Int.reduceToNat, Nat.reduceAdd, Nat.reduceEqDiff, Nat.reduceLT, Nat.reduceLeDiff, Nat.reduceMul, reduceCtorEq], by omega, by omega, B4, l4, X4, by simp [val_nil], fun _ _ => rfl, f4⟩ ?_
      rintro t ρ2 w5 hf ⟨k, z, cc, h65, hk, rfl, h11, hd0, hd1, hB5, hz, hZ, hvz, hsz, f5⟩ N2 hN2
      have p0 : ρ2 0 = .slice (some ⟨ub, o, none⟩) (i + 1) cu := by rw [hf 0 rfl]; simp (disch := omega) only [EO, ↓EP, EQ, EM, ↓reduceIte, Int.reduceAdd, Int.reduceEq, Int.reduceLE, Int.reduceLT, Int.reduceMul, Int.reduceNeg, Int.reducePow, Int.reduceSub, Int.reduceToNat, Nat.reduceAdd, Nat.reduceEqDiff, Nat.reduceLT, Nat.reduceLeDiff, Nat.reduceMul, reduceCtorEq, q0]
      have p1 : ρ2 1 = .slice B i d := by rw [hf 1 rfl]; simp (disch := omega) only [EO, ↓EP, EQ, EM, ↓reduceIte, Int.reduceAdd, Int.reduceEq, Int.reduceLE, Int.reduceLT, Int.reduceMul, Int.reduceNeg, Int.reducePow, Int.reduceSub, Int.reduceToNat, Nat.reduceAdd, Nat.reduceEqDiff, Nat.reduceLT, Nat.reduceLeDiff, Nat.reduceMul, reduceCtorEq, q1]
      have p64 : ρ2 64 = .int .i64 i := by rw [hf 64 rfl]; simp (disch := omega) only [EO, ↓EP, EQ, EM, ↓reduceIte, Int.reduceAdd, Int.reduceEq, Int.reduceLE, Int.reduceLT, Int.reduceMul, Int.reduceNeg, Int.reducePow, Int.reduceSub, Int.reduceToNat, Nat.reduceAdd, Nat.reduceEqDiff, Nat.reduceLT, Nat.reduceLeDiff, Nat.reduceMul, reduceCtorEq, q1]
      clear hf
      by_cases hki : (k : Int) < (i : Int)
      · obtain ⟨p, rfl, cp⟩ := ro_at (hr.fr f5) (k := k) (by omega)
        have co := win_cell hB5 ho (i := k) (by omega)
        have bv := hV.at k
        have bo := hZ.at k
        have hu := hsz k (Nat.le_refl _)
        simp (disch := omega) only [wu64, wu32, wu8, fdiv_nn, EO, ↓EP, EQ, EM, ↓reduceIte, Int.reduceAdd, Int.reduceEq, Int.reduceLE, Int.reduceLT, Int.reduceMul, Int.reduceNeg, Int.reducePow, Int.reduceSub, Int.reduceToNat, Nat.reduceAdd, Nat.reduceEqDiff, Nat.reduceLT, Nat.reduceLeDiff, Nat.reduceMul, reduceCtorEq, h65, h11, p0, p1, p64, cp, co]
        intro m1
        refine add32_spec _ _ _ bo bv (by omega) _ _ ?_
        simp (disch := omega) only [wu64, wu32, wu8, fdiv_nn, EO, ↓EP, EQ, EM, ↓reduceIte, Int.reduceAdd, Int.reduceEq, Int.reduceLE, Int.reduceLT, Int.reduceMul, Int.reduceNeg, Int.reducePow, Int.reduceSub, Int.reduceToNat, Nat.reduceAdd, Nat.reduceEqDiff, Nat.reduceLT, Nat.reduceLeDiff, Nat.reduceMul, reduceCtorEq, h65, p0]
        intro m2
        refine st_win (hB5.nb (Fr.drewN w5 _ nob)) ho (by omega) fun w6 B6 f6 => ?_
        simp (disch := omega) only [wu64, wu32, wu8, fdiv_nn, EO, ↓EP, EQ, EM, ↓reduceIte, Int.reduceAdd, Int.reduceEq, Int.reduceLE, Int.reduceLT, Int.reduceMul, Int.reduceNeg, Int.reducePow, Int.reduceSub, Int.reduceToNat, Nat.reduceAdd, Nat.reduceEqDiff, Nat.reduceLT, Nat.reduceLeDiff, Nat.reduceMul, reduceCtorEq, h65]
        intro m3
        refine hN2 (i - (k + 1)) _ _ (by omega) ⟨k + 1, _, (at' z k + at' v k + cc) / 4294967296, by simp (disch := omega) only [EO, ↓EP, EQ, EM, ↓reduceIte, Int.reduceAdd, Int.reduceEq, Int.reduceLE, Int.reduceLT, Int.reduceMul, Int.reduceNeg, Int.reducePow, Int.reduceSub, Int.reduceToNat, Nat.reduceAdd, Nat.reduceEqDiff, Nat.reduceLT, Nat.reduceLeDiff, Nat.reduceMul, reduceCtorEq, h65, Int.natCast_add], by omega, rfl, by simp (disch := omega) only [EO, ↓EP, EQ, EM, ↓reduceIte, Int.reduceAdd, Int.reduceEq, Int.reduceLE, Int.reduceLT, Int.reduceMul, Int.reduceNeg, Int.reducePow, Int.reduceSub, Int.reduceToNat, Nat.reduceAdd, Nat.reduceEqDiff, Nat.reduceLT, Nat.reduceLeDiff, Nat.reduceMul, reduceCtorEq], by omega, by omega, B6.nb (Fr.drewN w6 m3 nob), by rw [List.length_set]; exact hz, hZ.set _ (by omega) (by omega), ?_, ?_, ((f5.trans (Fr.drewN w5 _ nob) fun _ _ e => e.elim).trans f6 fun _ _ e => e).trans (Fr.drewN w6 m3 nob) fun _ _ e => e.elim⟩
        · rw [val_take_succ' x4 k, val_take_succ' v k, val_take_set (by omega), pw_succ, ← hu]
          have := Int.mul_ediv_add_emod (at' z k + at' v k + cc) 4294967296
          grind
        · intro j hj
          rw [at_setO (by omega)]
          exact hsz j (by omega)
      · have hki : k = i := by omega
        subst hki
        have co := win_cell hB5 ho (i := k) (by omega)
        have bo := hZ.at k
        have hu := hsz k (Nat.le_refl _)
        simp (disch := omega) only [wu64, wu32, wu8, fdiv_nn, EO, ↓EP, EQ, EM, ↓reduceIte, Int.reduceAdd, Int.reduceEq, Int.reduceLE, Int.reduceLT, Int.reduceMul, Int.reduceNeg, Int.reducePow, Int.reduceSub, Int.reduceToNat, Nat.reduceAdd, Nat.reduceEqDiff, Nat.reduceLT, Nat.reduceLeDiff, Nat.reduceMul, reduceCtorEq, h65, h11, p0, p1, p64, co, wu32_mod]
        refine st_win hB5 ho (by omega) fun w6 B6 f6 => ?_
        simp (disch := omega) only [wu64, wu32, wu8, fdiv_nn, EO, ↓EP, EQ, EM, ↓reduceIte, Int.reduceAdd, Int.reduceEq, Int.reduceLE, Int.reduceLT, Int.reduceMul, Int.reduceNeg, Int.reducePow, Int.reduceSub, Int.reduceToNat, Nat.reduceAdd, Nat.reduceEqDiff, Nat.reduceLT, Nat.reduceLeDiff, Nat.reduceMul, reduceCtorEq]
        have Z6 : Lim (z.set k ((at' z k + cc) % 4294967296)) := hZ.set _ (by omega) (by omega)
        have l6 : (z.set k ((at' z k + cc) % 4294967296)).length = k + 1 := by rw [List.length_set]; exact hz
        have hb6 := val_bd Z6
        have hb4 := val_bd X4
        rw [l6] at hb6
        rw [l4] at hb4
        have hv6 : val (z.set k ((at' z k + cc) % 4294967296)) + (at' z k + cc) / 4294967296 * pw (k + 1) = val x4 + val v := by
          rw [← val_take_all (l := z.set k ((at' z k + cc) % 4294967296)) (n := k + 1) (by omega), val_take_set (by omega), ← val_take_all (l := x4) (n := k + 1) (by omega), val_take_succ' x4 k, ← val_take_all (l := v) (n := k) (by omega), pw_succ, ← hu]
          have := Int.mul_ediv_add_emod (at' z k + cc) 4294967296
          grind
        have hqv : (q - 1) * val v = q * val v - val v := by grind
        rw [hqv] at hlo
        have he1 : (at' z k + cc) / 4294967296 = 1 := by
          rcases (show (at' z k + cc) / 4294967296 = 0 ∨ (at' z k + cc) / 4294967296 = 1 by omega) with h | h
          · exfalso; rw [h] at hv6; omega
          · exact h
        rw [he1] at hv6
        exact hK' _ w6 B6 l6 Z6 (f5.trans f6 fun _ _ e => e) (by rw [hqv]; omega) (by omega)
end Go.Proofs.Ytbgfebhhejlakaa.Spec
