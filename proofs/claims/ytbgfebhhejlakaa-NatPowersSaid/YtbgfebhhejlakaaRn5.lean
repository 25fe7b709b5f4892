/- The document's numbers, walked: quotients and rests. -/
import Derived.Test.YtbgfebhhejlakaaRn4
set_option linter.unusedVariables false
set_option linter.unusedSimpArgs false
namespace Go.Proofs.Ytbgfebhhejlakaa.Spec
open Go Go.RowKit Go.Proofs Go.Proofs.Ytbgfebhhejlakaa.Eng Go.Proofs.Ytbgfebhhejlakaa.Code Go.Proofs.Ytbgfebhhejlakaa.Big
set_option maxRecDepth 100000
attribute [local irreducible] callK S.W opsW scrW

/-- A value that is read as a list, and lies in none of some blocks. -/
def Vr (k : IntKind) (w : World) (v : Value) (l : List Int) (P : Nat → Prop) : Prop := ∃ A c, v = .slice A l.length c ∧ l.length ≤ c ∧ RO k w A l P
theorem Vr.vw {k : IntKind} {w : World} {v : Value} {l : List Int} {P : Nat → Prop} (h : Vr k w v l P) : Vw k w v l := by
  obtain ⟨A, c, e, hc, hr⟩ := h
  exact ⟨A, c, e, hc, hr.rd⟩
theorem Vr.fr {k : IntKind} {w w' : World} {v : Value} {l : List Int} {P : Nat → Prop} (h : Vr k w v l P) (f : Fr w w' P) : Vr k w' v l P := by
  obtain ⟨A, c, e, hc, hr⟩ := h
  exact ⟨A, c, e, hc, hr.fr f⟩
theorem gw_vr {k : IntKind} {w0 w : World} {v : Value} {l : List Int} {P : Nat → Prop} (g : Gw k w0 w v l) (hp : ∀ b, w0.heap.size ≤ b → ¬ P b) : Vr k w v l P := by
  obtain ⟨A, c, e, hc, hr, hb⟩ := g.sl.read
  refine ⟨A, c, e, hc, ?_⟩
  rcases hr with hn | ⟨p, hA, hlt, hcl⟩
  · exact .inl (nums_isNil hn)
  · exact .inr ⟨p, hA, hlt, hp _ (g.up _ (hb p hA)), hcl⟩
theorem vw_vr {k : IntKind} {w : World} {v : Value} {l : List Int} {P : Nat → Prop} (h : Vw k w v l) (hp : ∀ b, b < w.heap.size → ¬ P b) : Vr k w v l P := by
  obtain ⟨A, c, e, hc, hr⟩ := h
  refine ⟨A, c, e, hc, ?_⟩
  rcases hr with hn | ⟨p, hA, hlt, hcl⟩
  · exact .inl (nums_isNil hn)
  · exact .inr ⟨p, hA, hlt, hp _ hlt, hcl⟩
theorem dval_drop_at (l : List Int) {k : Nat} (h : k < l.length) : Dg.val (l.drop k) = at' l k + 65536 * Dg.val (l.drop (k + 1)) := by
  rw [List.drop_eq_getElem_cons h, Dg.val_cons, at_get h]
theorem ddrop_set {l : List Int} {k : Nat} {x : Int} (h : k < l.length) : Dg.val ((l.set k x).drop k) = x + 65536 * Dg.val (l.drop (k + 1)) := by
  rw [dval_drop_at _ (by rw [List.length_set]; exact h), at_setN h, List.drop_set_of_lt (by omega)]
theorem dtop2 (l : List Int) {j : Nat} (h : l.length ≤ j + 2) (hL : Dg.Lim l) : ∃ low : Int, 0 ≤ low ∧ low < Dg.pw j ∧ Dg.val l = (at' l (j + 1 : Nat) * 65536 + at' l j) * Dg.pw j + low := by
  refine ⟨Dg.val (l.take j), (Dg.val_bd (hL.take j)).1, ?_, ?_⟩
  · have := (Dg.val_bd (hL.take j)).2
    have := Dg.pw_le (show (l.take j).length ≤ j by simp; omega)
    omega
  · rw [← Dg.val_take_all (l := l) (n := j + 2) (by omega), Dg.val_take_succ' l (j + 1), Dg.val_take_succ' l j, Dg.pw_succ]
    grind
theorem dtop3 (l : List Int) {j : Nat} (h : l.length ≤ j + 3) (hL : Dg.Lim l) : ∃ low : Int, 0 ≤ low ∧ low < Dg.pw j ∧ Dg.val l = ((at' l (j + 2 : Nat) * 65536 + at' l (j + 1 : Nat)) * 65536 + at' l j) * Dg.pw j + low := by
  refine ⟨Dg.val (l.take j), (Dg.val_bd (hL.take j)).1, ?_, ?_⟩
  · have := (Dg.val_bd (hL.take j)).2
    have := Dg.pw_le (show (l.take j).length ≤ j by simp; omega)
    omega
  · rw [← Dg.val_take_all (l := l) (n := j + 3) (by omega), Dg.val_take_succ' l (j + 2), Dg.val_take_succ' l (j + 1), Dg.val_take_succ' l j, show Dg.pw (j + 2) = Dg.pw j * 65536 * 65536 by rw [Dg.pw_succ, Dg.pw_succ], Dg.pw_succ]
    grind
/-- What a guess by the highest digits is worth. -/
theorem dguess {W T H tl hl V R Q : Int} (hW : 0 < W) (htl : 0 ≤ tl) (hhl : hl < W) (hV : V = T * W + tl) (hR : R = H * W + hl) (hQ : Q * V ≤ R) (hQ0 : 0 ≤ Q) : Q * T ≤ H := by
  have h1 : Q * T * W ≤ Q * V := by
    rw [hV]
    have := Int.mul_nonneg hQ0 htl
    grind
  have h2 : Q * T * W < (H + 1) * W := by grind
  have := lt_of_mul h2 (by omega)
  omega
theorem quot_facts {R V : Int} (hV : 0 < V) (hR : 0 ≤ R) (hlt : R < 65536 * V) : 0 ≤ R / V ∧ R / V ≤ 65535 ∧ R / V * V ≤ R ∧ R < (R / V + 1) * V := by
  have h1 := Int.mul_ediv_add_emod R V
  have h2 := Int.emod_nonneg R (show V ≠ 0 by omega)
  have h3 := Int.emod_lt_of_pos R hV
  have h4 : R / V < 65536 := Int.ediv_lt_of_lt_mul hV hlt
  have e : R / V * V = V * (R / V) := Int.mul_comm _ _
  refine ⟨Int.ediv_nonneg hR (by omega), by omega, by omega, ?_⟩
  rw [Int.add_mul, Int.one_mul]; omega
def dgt (l : List Int) (i : Int) : Int := if i < 0 then 0 else at' l i
theorem digit_any {w : World} {va : Value} {l : List Int} (ha : Vw .u64 w va l) (h : l.length ≤ 4611686018427387904) (i : Int) (hi : -4611686018427387904 ≤ i ∧ i ≤ 4611686018427387904) (K : Value → World → Prop)
    (hK : K (.int .u64 (dgt l i)) w) : callK Try.prog 66 [va, .int .i64 i] w K := by
  unfold dgt at hK
  by_cases h0 : i < 0
  · rw [if_pos h0] at hK
    exact digit_neg ha i h0 K hK
  · rw [if_neg h0] at hK
    obtain ⟨n, rfl⟩ : ∃ n : Nat, i = n := ⟨i.toNat, by omega⟩
    exact digit_nat ha h n (by omega) K hK
theorem digit_qany {w : World} {va : Value} {l : List Int} (ha : Vw .u64 w va l) (h : l.length ≤ 4611686018427387904) (i : Int) (hi : -4611686018427387904 ≤ i ∧ i ≤ 4611686018427387904) (K : Value → Prop)
    (hK : K (.int .u64 (dgt l i))) : qcallK Try.prog 66 [va, .int .i64 i] w K :=
  ⟨_, fun n => digit_any (ha.nb (Fr.drewN w n nob)) h i hi _ ⟨rfl, n, rfl⟩, hK⟩
theorem dgt_lim {l : List Int} (h : Dg.Lim l) (i : Int) : 0 ≤ dgt l i ∧ dgt l i < 65536 := by
  unfold dgt; split
  · omega
  · exact h.at i
theorem dgt_nat (l : List Int) (i : Nat) : dgt l i = at' l i := by unfold dgt; rw [if_neg (by omega)]
/-- The highest digits of a divisor, and of what is divided. -/
theorem dguess_of {V R : Int} {n : Nat} (hV : 0 < V) (hn : n = (Dg.digs V).length) (hR0 : 0 ≤ R) (hR : R < 65536 * V) {H : Int}
    (hH : H = if 2 ≤ n then (dgt (Dg.digs R) n * 65536 + dgt (Dg.digs R) ((n : Int) - 1)) * 65536 + dgt (Dg.digs R) ((n : Int) - 2) else (dgt (Dg.digs R) 1 * 65536 + dgt (Dg.digs R) 0) * 65536) :
    R / V * (at' (Dg.digs V) ((n - 1 : Nat) : Int) * 65536 + dgt (Dg.digs V) ((n : Int) - 2)) ≤ H := by
  have hvV := Dg.digs_val (show 0 ≤ V by omega)
  have hvR := Dg.digs_val hR0
  have VL := Dg.digs_lim V
  have RL := Dg.digs_lim R
  obtain ⟨q0, q1, q2, q3⟩ := quot_facts hV hR0 hR
  have hVlt : V < Dg.pw n := by have := (Dg.val_bd VL).2; rw [hvV, ← hn] at this; exact this
  have hRlen : (Dg.digs R).length ≤ n + 1 := (Dg.digs_len hR0).2 (by rw [Dg.pw_succ]; omega)
  have hn0 : 0 < n := by
    by_cases h : n = 0
    · exfalso
      rw [h, Dg.pw_zero] at hVlt; omega
    · omega
  by_cases h2 : 2 ≤ n
  · rw [if_pos h2] at hH
    obtain ⟨j, rfl⟩ : ∃ j, n = j + 2 := ⟨n - 2, by omega⟩
    obtain ⟨tl, t0, t1, t2⟩ := dtop2 (Dg.digs V) (j := j) (by omega) VL
    obtain ⟨rl, r0, r1, r2⟩ := dtop3 (Dg.digs R) (j := j) (by omega) RL
    rw [show ((j + 2 : Nat) : Int) - 2 = (j : Nat) by omega, dgt_nat] 
    rw [show ((j + 2 : Nat) : Int) - 1 = (j + 1 : Nat) by omega, show ((j + 2 : Nat) : Int) - 2 = (j : Nat) by omega, dgt_nat, dgt_nat, dgt_nat] at hH
    rw [show j + 2 - 1 = j + 1 by omega]
    subst hH
    exact dguess (Dg.pw_pos j) t0 r1 (hvV.symm.trans t2) (hvR.symm.trans r2) q2 q0
  · rw [if_neg h2] at hH
    obtain rfl : n = 1 := by omega
    have e2 : dgt (Dg.digs V) (((1 : Nat) : Int) - 2) = 0 := by unfold dgt; rw [if_pos (by omega)]
    have e3 : dgt (Dg.digs R) 1 = at' (Dg.digs R) (1 : Nat) := dgt_nat _ 1
    have e4 : dgt (Dg.digs R) 0 = at' (Dg.digs R) (0 : Nat) := dgt_nat _ 0
    have f1 : Dg.val (Dg.digs V) = at' (Dg.digs V) (0 : Nat) := by
      rw [← Dg.val_take_all (l := Dg.digs V) (n := 1) (by omega), Dg.val_take_succ' _ 0, Dg.pw_zero]; simp [Dg.val_nil]
    have f2 : Dg.val (Dg.digs R) = at' (Dg.digs R) (0 : Nat) + at' (Dg.digs R) (1 : Nat) * 65536 := by
      rw [← Dg.val_take_all (l := Dg.digs R) (n := 2) (by omega), Dg.val_take_succ' _ 1, Dg.val_take_succ' _ 0, Dg.pw_zero, Dg.pw_succ, Dg.pw_zero]; simp [Dg.val_nil]
    rw [e2, Int.add_zero, hH, e3, e4]
    rw [hvV] at f1
    rw [hvR] at f2
    have e5 : at' (Dg.digs V) ((1 - 1 : Nat) : Int) = V := f1.symm
    rw [e5]
    have : R / V * (V * 65536) = (R / V * V) * 65536 := by grind
    omega
/-- What is kept from digit to digit. -/
structure DD (w0 w : World) (qb : Nat) (l : List Int) (V : Int) (t : Nat) (v : Value) (qs : List Int) (R : Int) : Prop where
  r0 : 0 ≤ R
  r1 : R < V
  rv : Vr .u64 w v (Dg.digs R) (fun b => b = qb)
  bq : Blk w qb (nums .u64 qs)
  ql : qs.length = l.length
  qL : Dg.Lim qs
  qz : ∀ j : Nat, j < t → at' qs j = 0
  eq : Dg.val (l.drop t) = Dg.val (qs.drop t) * V + R
  fr : Fr w0 w nob
set_option maxHeartbeats 4000000 in
theorem ddivmod_vw {w : World} {va vb : Value} {l : List Int} {V : Int} (ha : Vw .u64 w va l) (hb : Vw .u64 w vb (Dg.digs V)) (hL : Dg.Lim l) (h1 : l.length ≤ 16777216) (h2 : (Dg.digs V).length ≤ 16777000) (hV : 0 < V) (K : Value → World → Prop)
    (hK : ∀ u v w', Gw .u64 w w' u (Dg.digs (Dg.val l / V)) → Vw .u64 w' v (Dg.digs (Dg.val l % V)) → K (.tuple #[u, v]) w') : callK Try.prog 62 [va, vb] w K := by
  have qn : ∃ n, n = (Dg.digs V).length := ⟨_, rfl⟩
  obtain ⟨n, hn⟩ := qn
  obtain ⟨A, c, ea, hc, hl⟩ := id ha
  obtain ⟨B, d, eb, hd, hr⟩ := id hb
  have hvV := Dg.digs_val (show 0 ≤ V by omega)
  have VL := Dg.digs_lim V
  have hn0 : Dg.digs V ≠ [] := fun e => by rw [e, Dg.val_nil] at hvV; omega
  have hn1 : 0 < (Dg.digs V).length := List.length_pos_iff.2 hn0
  have htop0 : at' (Dg.digs V) (((Dg.digs V).length - 1 : Nat) : Int) ≠ 0 := by
    rcases (Dg.digs_can V).2 with e | e
    · exact absurd e hn0
    · exact e
  have hVlt : V < Dg.pw (Dg.digs V).length := by have := (Dg.val_bd VL).2; omega
  rw [← hn] at eb hd h2 hn1 htop0 hVlt
  have bt1 := VL.at (n - 1 : Nat)
  have bt2 := dgt_lim VL ((n : Int) - 2)
  have en1 : (n : Int) - 1 = ((n - 1 : Nat) : Int) := by omega
  have qT : ∃ T, T = at' (Dg.digs V) ((n - 1 : Nat) : Int) * 65536 + dgt (Dg.digs V) ((n : Int) - 2) := ⟨_, rfl⟩
  obtain ⟨T, hT⟩ := qT
  have hT0 : 0 < T ∧ T < 4294967296 := by omega
  refine call_of Try.func62 Code.h62 (by simp [Code.c62]) ?_
  simp (disch := omega) only [EO, ↓EP, EQ, EM, ↓reduceIte, Int.reduceAdd, Int.reduceEq, Int.reduceLE, Int.reduceLT, Int.reduceMul, Int.reduceNeg, Int.reducePow, Int.reduceSub, Int.reduceToNat, Nat.reduceAdd, Nat.reduceEqDiff, Nat.reduceLT, Nat.reduceLeDiff, Nat.reduceMul, reduceCtorEq, Code.c62, ea]
  rw [← ea]
  refine al_k (nums .u64 (List.replicate l.length 0)) (by rw [madeCells_list, nums_replicate]) fun w1 n1 => ?_
  have f1 := n1.fr nob
  have hB1 := n1.blk
  have lt1 := hB1.lt
  have vb1 : Vr .u64 w1 vb (Dg.digs V) (fun b => b = w.heap.size) := (vw_vr hb fun b hb e => by omega).fr (f1.any _)
  have va1 : Vr .u64 w1 va l (fun b => b = w.heap.size) := (vw_vr ha fun b hb e => by omega).fr (f1.any _)
  have qp := (hr.nb f1).get (by rw [nums_length]; omega)
  obtain ⟨p0, eB, hlt0, hp0⟩ := qp
  have cb1 := hp0.numN (j := n - 1) (by omega)
  rw [eB] at eb
  simp (disch := omega) only [EO, ↓EP, EQ, EM, ↓reduceIte, Int.reduceAdd, Int.reduceEq, Int.reduceLE, Int.reduceLT, Int.reduceMul, Int.reduceNeg, Int.reducePow, Int.reduceSub, Int.reduceToNat, Nat.reduceAdd, Nat.reduceEqDiff, Nat.reduceLT, Nat.reduceLeDiff, Nat.reduceMul, reduceCtorEq, eb, en1, cb1]
  rw [← eb]
  refine digit_qany vb1.vw (by omega) _ (by omega) _ ?_
  simp (disch := omega) only [wu64, wu32, wu8, fdiv_nn, EO, ↓EP, EQ, EM, ↓reduceIte, Int.reduceAdd, Int.reduceEq, Int.reduceLE, Int.reduceLT, Int.reduceMul, Int.reduceNeg, Int.reducePow, Int.reduceSub, Int.reduceToNat, Nat.reduceAdd, Nat.reduceEqDiff, Nat.reduceLT, Nat.reduceLeDiff, Nat.reduceMul, reduceCtorEq, ← hT]
  intro m1
  have f2 : Fr w (w1.drewN m1) nob := f1.nb (Fr.drewN w1 m1 nob)
  have D0 : DD w (w1.drewN m1) w.heap.size l V l.length (.slice none 0 0) (List.replicate l.length 0) 0 :=
    ⟨Int.le_refl _, hV, by rw [Dg.digs_zero]; exact ⟨none, 0, rfl, Nat.le_refl _, .inl rfl⟩, hB1.nb (Fr.drewN w1 m1 nob), by simp, Dg.Lim.zeros _, fun j _ => at_zeros _ _, by simp [Dg.val_nil], f2⟩
  have lt2 : w.heap.size < (w1.drewN m1).heap.size := by simpa using lt1
  have va2 := va1.fr (Fr.drewN w1 m1 _)
  have vb2 := vb1.fr (Fr.drewN w1 m1 _)
  generalize w1.drewN m1 = w2 at D0 lt2 va2 vb2 f2 ⊢
  simp (disch := omega) only [EO, ↓EP, EQ, EM, ↓reduceIte, Int.reduceAdd, Int.reduceEq, Int.reduceLE, Int.reduceLT, Int.reduceMul, Int.reduceNeg, Int.reducePow, Int.reduceSub, Int.reduceToNat, Nat.reduceAdd, Nat.reduceEqDiff, Nat.reduceLT, Nat.reduceLeDiff, Nat.reduceMul, reduceCtorEq, ea]
  refine loop_inv (fun t ρ w' => ∃ v qs R, ρ 10 = .int .i64 ((t : Int) - 1) ∧ t ≤ l.length ∧ ρ 9 = v ∧ DD w w' w.heap.size l V t v qs R ∧ Fr w2 w' (fun b => b = w.heap.size)) l.length
    ⟨_, _, _, by simp (disch := omega) only [EO, ↓EP, EQ, EM, ↓reduceIte, Int.reduceAdd, Int.reduceEq, Int.reduceLE, Int.reduceLT, Int.reduceMul, Int.reduceNeg, Int.reducePow, Int.reduceSub, Int.reduceToNat, Nat.reduceAdd, Nat.reduceEqDiff, Nat.reduceLT, Nat.reduceLeDiff, Nat.reduceMul, reduceCtorEq], Nat.le_refl _, by simp (disch := omega) only [EO, ↓EP, EQ, EM, ↓reduceIte, Int.reduceAdd, Int.reduceEq, Int.reduceLE, Int.reduceLT, Int.reduceMul, Int.reduceNeg, Int.reducePow, Int.reduceSub, Int.reduceToNat, Nat.reduceAdd, Nat.reduceEqDiff, Nat.reduceLT, Nat.reduceLeDiff, Nat.reduceMul, reduceCtorEq], D0, Fr.refl _ _⟩ ?_
  rintro t ρ w3 hf ⟨v, qs, R, h10, htl, h9, D, f3⟩ N hN
  have q0 : ρ 0 = va := by rw [hf 0 rfl]; simp (disch := omega) only [EO, ↓EP, EQ, EM, ↓reduceIte, Int.reduceAdd, Int.reduceEq, Int.reduceLE, Int.reduceLT, Int.reduceMul, Int.reduceNeg, Int.reducePow, Int.reduceSub, Int.reduceToNat, Nat.reduceAdd, Nat.reduceEqDiff, Nat.reduceLT, Nat.reduceLeDiff, Nat.reduceMul, reduceCtorEq]
  have q1 : ρ 1 = vb := by rw [hf 1 rfl]; simp (disch := omega) only [EO, ↓EP, EQ, EM, ↓reduceIte, Int.reduceAdd, Int.reduceEq, Int.reduceLE, Int.reduceLT, Int.reduceMul, Int.reduceNeg, Int.reducePow, Int.reduceSub, Int.reduceToNat, Nat.reduceAdd, Nat.reduceEqDiff, Nat.reduceLT, Nat.reduceLeDiff, Nat.reduceMul, reduceCtorEq]
  have q6 : ρ 6 = .slice (some ⟨w.heap.size, 0, none⟩) l.length l.length := by rw [hf 6 rfl]; simp (disch := omega) only [EO, ↓EP, EQ, EM, ↓reduceIte, Int.reduceAdd, Int.reduceEq, Int.reduceLE, Int.reduceLT, Int.reduceMul, Int.reduceNeg, Int.reducePow, Int.reduceSub, Int.reduceToNat, Nat.reduceAdd, Nat.reduceEqDiff, Nat.reduceLT, Nat.reduceLeDiff, Nat.reduceMul, reduceCtorEq]
  have q7 : ρ 7 = .int .i64 n := by rw [hf 7 rfl]; simp (disch := omega) only [EO, ↓EP, EQ, EM, ↓reduceIte, Int.reduceAdd, Int.reduceEq, Int.reduceLE, Int.reduceLT, Int.reduceMul, Int.reduceNeg, Int.reducePow, Int.reduceSub, Int.reduceToNat, Nat.reduceAdd, Nat.reduceEqDiff, Nat.reduceLT, Nat.reduceLeDiff, Nat.reduceMul, reduceCtorEq, eb]
  have q8 : ρ 8 = .int .u64 T := by rw [hf 8 rfl]; simp (disch := omega) only [wu64, wu32, wu8, fdiv_nn, EO, ↓EP, EQ, EM, ↓reduceIte, Int.reduceAdd, Int.reduceEq, Int.reduceLE, Int.reduceLT, Int.reduceMul, Int.reduceNeg, Int.reducePow, Int.reduceSub, Int.reduceToNat, Nat.reduceAdd, Nat.reduceEqDiff, Nat.reduceLT, Nat.reduceLeDiff, Nat.reduceMul, reduceCtorEq, ← hT]
  clear hf
  have va3 := va2.fr f3
  have vb3 := vb2.fr f3
  have lt3 := f3.size
  cases t with
  | zero =>
    simp (disch := omega) only [EO, ↓EP, EQ, EM, ↓reduceIte, Int.reduceAdd, Int.reduceEq, Int.reduceLE, Int.reduceLT, Int.reduceMul, Int.reduceNeg, Int.reducePow, Int.reduceSub, Int.reduceToNat, Nat.reduceAdd, Nat.reduceEqDiff, Nat.reduceLT, Nat.reduceLeDiff, Nat.reduceMul, reduceCtorEq, h10, h9, q6, Int.natCast_zero]
    have he := D.eq
    rw [List.drop_zero, List.drop_zero] at he
    obtain ⟨d1, d2⟩ := div_of he D.r0 D.r1
    have gq : Gw .u64 w w3 (.slice (some ⟨w.heap.size, 0, none⟩) l.length l.length) qs := own_cut D.bq (Nat.le_refl _) D.fr D.ql (Nat.le_refl _) (by rw [← D.ql, List.take_length])
    refine plain_gw gq D.qL (by have := D.ql; omega) _ fun v5 g5 => ?_
    rw [← d1] at g5
    simp (disch := omega) only [EO, ↓EP, EQ, EM, ↓reduceIte, Int.reduceAdd, Int.reduceEq, Int.reduceLE, Int.reduceLT, Int.reduceMul, Int.reduceNeg, Int.reducePow, Int.reduceSub, Int.reduceToNat, Nat.reduceAdd, Nat.reduceEqDiff, Nat.reduceLT, Nat.reduceLeDiff, Nat.reduceMul, reduceCtorEq, h9]
    exact hK _ _ w3 g5 (by rw [d2]; exact D.rv.vw)
  | succ k =>
    have h10' : ρ 10 = .int .i64 k := by rw [h10]; congr 1; omega
    have qa := va3
    obtain ⟨A', c', ea', hca', hRO⟩ := qa
    rw [ea] at ea'
    cases ea'
    have qc := hRO.rd.get (by rw [nums_length]; omega)
    obtain ⟨pa, eA, hltA, hpa⟩ := qc
    have cp := hpa.numN (j := k) (by omega)
    have bx := hL.at k
    have qr := D.rv
    obtain ⟨Ar, cr, er, hcr, hrr⟩ := qr
    have hRlen : (Dg.digs R).length ≤ n := by rw [hn]; exact (Dg.digs_len D.r0).2 (by have := D.r1; rw [← hn]; omega)
    rw [eA] at ea
    simp (disch := omega) only [EO, ↓EP, EQ, EM, ↓reduceIte, Int.reduceAdd, Int.reduceEq, Int.reduceLE, Int.reduceLT, Int.reduceMul, Int.reduceNeg, Int.reducePow, Int.reduceSub, Int.reduceToNat, Nat.reduceAdd, Nat.reduceEqDiff, Nat.reduceLT, Nat.reduceLeDiff, Nat.reduceMul, reduceCtorEq, W_joinT, h10']
    refine join_cut (fun ρ' w' => ∃ v qs R, ρ' 10 = .int .i64 k ∧ ρ' 9 = v ∧ DD w w' w.heap.size l V k v qs R ∧ Fr w2 w' (fun b => b = w.heap.size)) ?_ ?_
    rotate_left
    · rintro ρ' w' hf ⟨v', qs', R', g10, g9, D', f'⟩
      simp (disch := omega) only [EO, ↓EP, EQ, EM, ↓reduceIte, Int.reduceAdd, Int.reduceEq, Int.reduceLE, Int.reduceLT, Int.reduceMul, Int.reduceNeg, Int.reducePow, Int.reduceSub, Int.reduceToNat, Nat.reduceAdd, Nat.reduceEqDiff, Nat.reduceLT, Nat.reduceLeDiff, Nat.reduceMul, reduceCtorEq, g10]
      exact hN k _ _ (by omega) ⟨v', qs', R', by simp (disch := omega) only [EO, ↓EP, EQ, EM, ↓reduceIte, Int.reduceAdd, Int.reduceEq, Int.reduceLE, Int.reduceLT, Int.reduceMul, Int.reduceNeg, Int.reducePow, Int.reduceSub, Int.reduceToNat, Nat.reduceAdd, Nat.reduceEqDiff, Nat.reduceLT, Nat.reduceLeDiff, Nat.reduceMul, reduceCtorEq], by omega, by simp (disch := omega) only [EO, ↓EP, EQ, EM, ↓reduceIte, Int.reduceAdd, Int.reduceEq, Int.reduceLE, Int.reduceLT, Int.reduceMul, Int.reduceNeg, Int.reducePow, Int.reduceSub, Int.reduceToNat, Nat.reduceAdd, Nat.reduceEqDiff, Nat.reduceLT, Nat.reduceLeDiff, Nat.reduceMul, reduceCtorEq, g9], D', f'⟩
    intro N1 hN1
    simp (disch := omega) only [EO, ↓EP, EQ, EM, ↓reduceIte, Int.reduceAdd, Int.reduceEq, Int.reduceLE, Int.reduceLT, Int.reduceMul, Int.reduceNeg, Int.reducePow, Int.reduceSub, Int.reduceToNat, Nat.reduceAdd, Nat.reduceEqDiff, Nat.reduceLT, Nat.reduceLeDiff, Nat.reduceMul, reduceCtorEq, W_joinT, h10', h9, q0, ea, cp]
    refine bsl1 fun w4 n4 => ?_
    have f4 := n4.fr nob
    have g4 : Gw .u64 w3 w4 (.slice (some ⟨w3.heap.size, 0, none⟩) 1 1) [at' l k] := ⟨n4.sl, fun b e => by cases e; exact Nat.le_refl _, f4⟩
    simp (disch := omega) only [EO, ↓EP, EQ, EM, ↓reduceIte, Int.reduceAdd, Int.reduceEq, Int.reduceLE, Int.reduceLT, Int.reduceMul, Int.reduceNeg, Int.reducePow, Int.reduceSub, Int.reduceToNat, Nat.reduceAdd, Nat.reduceEqDiff, Nat.reduceLT, Nat.reduceLeDiff, Nat.reduceMul, reduceCtorEq, h9, er]
    refine app_num g4.sl rfl (hrr.rd.nb f4) (by simp; omega) (by omega) fun v5 w5 a5 => ?_
    have g5 := g4.apd a5
    simp (disch := omega) only [EO, ↓EP, EQ, EM, ↓reduceIte, Int.reduceAdd, Int.reduceEq, Int.reduceLE, Int.reduceLT, Int.reduceMul, Int.reduceNeg, Int.reducePow, Int.reduceSub, Int.reduceToNat, Nat.reduceAdd, Nat.reduceEqDiff, Nat.reduceLT, Nat.reduceLeDiff, Nat.reduceMul, reduceCtorEq]
    refine plain_gw g5 (Dg.Lim.mk bx.1 bx.2 (Dg.digs_lim R)) (by simp; omega) _ fun v6 g6 => ?_
    have hval : Dg.val ([at' l k] ++ Dg.digs R) = at' l k + 65536 * R := by rw [List.singleton_append, Dg.val_cons, Dg.digs_val D.r0]
    rw [hval] at g6
    have qR : ∃ R', R' = at' l k + 65536 * R := ⟨_, rfl⟩
    obtain ⟨R', hR'⟩ := qR
    rw [← hR'] at g6
    have hr0 := D.r0
    have hr1 := D.r1
    have hR0 : 0 ≤ R' := by omega
    have hRV : R' < 65536 * V := by omega
    have hRlen' : (Dg.digs R').length ≤ n + 1 := (Dg.digs_len hR0).2 (by rw [Dg.pw_succ]; omega)
    have f35 := g6.fr
    have va5 := va3.fr (f35.any _)
    have vb5 := vb3.fr (f35.any _)
    have D5 : DD w w5 w.heap.size l V (k + 1) v qs R := ⟨D.r0, D.r1, D.rv.fr (f35.any _), D.bq.nb f35, D.ql, D.qL, D.qz, D.eq, D.fr.nb f35⟩
    have rv6 : Vr .u64 w5 v6 (Dg.digs R') (fun b => b = w.heap.size) := gw_vr g6 fun b hb e => by omega
    have f25 : Fr w2 w5 (fun b => b = w.heap.size) := f3.trans (f35.any _) fun _ _ e => e
    have hqk := D.qz k (by omega)
    have hdk := dval_drop_at l (k := k) (by omega)
    have hdq := dval_drop_at qs (k := k) (by have := D.ql; omega)
    have heq := D.eq
    have hql := D.ql
    have vLen : (Dg.digs V).length = n := hn.symm
    simp (disch := omega) only [EO, ↓EP, EQ, EM, ↓reduceIte, Int.reduceAdd, Int.reduceEq, Int.reduceLE, Int.reduceLT, Int.reduceMul, Int.reduceNeg, Int.reducePow, Int.reduceSub, Int.reduceToNat, Nat.reduceAdd, Nat.reduceEqDiff, Nat.reduceLT, Nat.reduceLeDiff, Nat.reduceMul, reduceCtorEq, q1]
    refine order_vw rv6.vw vb5.vw (Dg.digs_lim _) VL (by omega) (by omega) _ fun cm c1 c2 c3 => ?_
    rw [Dg.digs_val hR0, hvV] at c1 c2 c3
    by_cases hlt : R' < V
    · have hcm : cm < 0 := by have := c1 hlt; omega
      simp (disch := omega) only [EO, ↓EP, EQ, EM, ↓reduceIte, Int.reduceAdd, Int.reduceEq, Int.reduceLE, Int.reduceLT, Int.reduceMul, Int.reduceNeg, Int.reducePow, Int.reduceSub, Int.reduceToNat, Nat.reduceAdd, Nat.reduceEqDiff, Nat.reduceLT, Nat.reduceLeDiff, Nat.reduceMul, reduceCtorEq, W_joinT]
      refine hN1 _ _ ⟨v6, qs, R', by simp (disch := omega) only [EO, ↓EP, EQ, EM, ↓reduceIte, Int.reduceAdd, Int.reduceEq, Int.reduceLE, Int.reduceLT, Int.reduceMul, Int.reduceNeg, Int.reducePow, Int.reduceSub, Int.reduceToNat, Nat.reduceAdd, Nat.reduceEqDiff, Nat.reduceLT, Nat.reduceLeDiff, Nat.reduceMul, reduceCtorEq, h10'], by simp (disch := omega) only [EO, ↓EP, EQ, EM, ↓reduceIte, Int.reduceAdd, Int.reduceEq, Int.reduceLE, Int.reduceLT, Int.reduceMul, Int.reduceNeg, Int.reducePow, Int.reduceSub, Int.reduceToNat, Nat.reduceAdd, Nat.reduceEqDiff, Nat.reduceLT, Nat.reduceLeDiff, Nat.reduceMul, reduceCtorEq], ⟨hR0, hlt, rv6, D5.bq, D.ql, D.qL, fun j hj => D.qz j (by omega), ?_, D5.fr⟩, f25⟩
      rw [hdk, hdq, heq, hqk]
      grind
    have hcm : 0 ≤ cm := by
      rcases (show R' = V ∨ V < R' by omega) with h | h
      · have := c2 h; omega
      · have := c3 h; omega
    have qF := quot_facts hV hR0 hRV
    obtain ⟨qf0, qf1, qf2, qf3⟩ := qF
    have qH : ∃ H, H = if 2 ≤ n then (dgt (Dg.digs R') n * 65536 + dgt (Dg.digs R') ((n : Int) - 1)) * 65536 + dgt (Dg.digs R') ((n : Int) - 2) else (dgt (Dg.digs R') 1 * 65536 + dgt (Dg.digs R') 0) * 65536 := ⟨_, rfl⟩
    obtain ⟨H, hH⟩ := qH
    have hguess := dguess_of hV hn hR0 hRV hH
    rw [← hT] at hguess
    have RL := Dg.digs_lim R'
    have d1 := dgt_lim RL n
    have d2 := dgt_lim RL ((n : Int) - 1)
    have d3 := dgt_lim RL ((n : Int) - 2)
    have d4 := dgt_lim RL 1
    have d5 := dgt_lim RL 0
    have hH0 : 0 ≤ H ∧ H < 281474976710656 := by rw [hH]; split <;> omega
    have s0 : (0 : Int) ≤ H / T := Int.ediv_nonneg hH0.1 (by omega)
    have s1 : R' / V ≤ H / T := by
      rw [Int.le_ediv_iff_mul_le hT0.1]; exact hguess
    have s2 : H / T ≤ H := Int.ediv_le_self _ hH0.1
    simp (disch := omega) only [EO, ↓EP, EQ, EM, ↓reduceIte, Int.reduceAdd, Int.reduceEq, Int.reduceLE, Int.reduceLT, Int.reduceMul, Int.reduceNeg, Int.reducePow, Int.reduceSub, Int.reduceToNat, Nat.reduceAdd, Nat.reduceEqDiff, Nat.reduceLT, Nat.reduceLeDiff, Nat.reduceMul, reduceCtorEq, W_joinT]
    refine join_cut (fun ρ' w' => w' = w5 ∧ ρ' 11 = .int .u64 H) ?_ ?_
    · intro N2 hN2
      by_cases h2n : (2 : Int) ≤ (n : Int)
      · rw [if_pos (by omega)] at hH
        simp (disch := omega) only [EO, ↓EP, EQ, EM, ↓reduceIte, Int.reduceAdd, Int.reduceEq, Int.reduceLE, Int.reduceLT, Int.reduceMul, Int.reduceNeg, Int.reducePow, Int.reduceSub, Int.reduceToNat, Nat.reduceAdd, Nat.reduceEqDiff, Nat.reduceLT, Nat.reduceLeDiff, Nat.reduceMul, reduceCtorEq, q7]
        refine digit_any rv6.vw (by omega) _ (by omega) _ ?_
        simp (disch := omega) only [wu64, wu32, wu8, fdiv_nn, EO, ↓EP, EQ, EM, ↓reduceIte, Int.reduceAdd, Int.reduceEq, Int.reduceLE, Int.reduceLT, Int.reduceMul, Int.reduceNeg, Int.reducePow, Int.reduceSub, Int.reduceToNat, Nat.reduceAdd, Nat.reduceEqDiff, Nat.reduceLT, Nat.reduceLeDiff, Nat.reduceMul, reduceCtorEq, q7]
        refine digit_any rv6.vw (by omega) _ (by omega) _ ?_
        simp (disch := omega) only [wu64, wu32, wu8, fdiv_nn, EO, ↓EP, EQ, EM, ↓reduceIte, Int.reduceAdd, Int.reduceEq, Int.reduceLE, Int.reduceLT, Int.reduceMul, Int.reduceNeg, Int.reducePow, Int.reduceSub, Int.reduceToNat, Nat.reduceAdd, Nat.reduceEqDiff, Nat.reduceLT, Nat.reduceLeDiff, Nat.reduceMul, reduceCtorEq, q7]
        refine digit_any rv6.vw (by omega) _ (by omega) _ ?_
        simp (disch := omega) only [wu64, wu32, wu8, fdiv_nn, EO, ↓EP, EQ, EM, ↓reduceIte, Int.reduceAdd, Int.reduceEq, Int.reduceLE, Int.reduceLT, Int.reduceMul, Int.reduceNeg, Int.reducePow, Int.reduceSub, Int.reduceToNat, Nat.reduceAdd, Nat.reduceEqDiff, Nat.reduceLT, Nat.reduceLeDiff, Nat.reduceMul, reduceCtorEq, q7, ← hH]
        exact hN2 _ _ ⟨rfl, by simp (disch := omega) only [wu64, wu32, wu8, fdiv_nn, EO, ↓EP, EQ, EM, ↓reduceIte, Int.reduceAdd, Int.reduceEq, Int.reduceLE, Int.reduceLT, Int.reduceMul, Int.reduceNeg, Int.reducePow, Int.reduceSub, Int.reduceToNat, Nat.reduceAdd, Nat.reduceEqDiff, Nat.reduceLT, Nat.reduceLeDiff, Nat.reduceMul, reduceCtorEq]⟩
      · rw [if_neg (by omega)] at hH
        simp (disch := omega) only [EO, ↓EP, EQ, EM, ↓reduceIte, Int.reduceAdd, Int.reduceEq, Int.reduceLE, Int.reduceLT, Int.reduceMul, Int.reduceNeg, Int.reducePow, Int.reduceSub, Int.reduceToNat, Nat.reduceAdd, Nat.reduceEqDiff, Nat.reduceLT, Nat.reduceLeDiff, Nat.reduceMul, reduceCtorEq, q7]
        refine digit_any rv6.vw (by omega) 1 (by omega) _ ?_
        simp (disch := omega) only [wu64, wu32, wu8, fdiv_nn, EO, ↓EP, EQ, EM, ↓reduceIte, Int.reduceAdd, Int.reduceEq, Int.reduceLE, Int.reduceLT, Int.reduceMul, Int.reduceNeg, Int.reducePow, Int.reduceSub, Int.reduceToNat, Nat.reduceAdd, Nat.reduceEqDiff, Nat.reduceLT, Nat.reduceLeDiff, Nat.reduceMul, reduceCtorEq, q7]
        refine digit_any rv6.vw (by omega) 0 (by omega) _ ?_
        simp (disch := omega) only [wu64, wu32, wu8, fdiv_nn, EO, ↓EP, EQ, EM, ↓reduceIte, Int.reduceAdd, Int.reduceEq, Int.reduceLE, Int.reduceLT, Int.reduceMul, Int.reduceNeg, Int.reducePow, Int.reduceSub, Int.reduceToNat, Nat.reduceAdd, Nat.reduceEqDiff, Nat.reduceLT, Nat.reduceLeDiff, Nat.reduceMul, reduceCtorEq, q7, ← hH]
        exact hN2 _ _ ⟨rfl, by simp (disch := omega) only [wu64, wu32, wu8, fdiv_nn, EO, ↓EP, EQ, EM, ↓reduceIte, Int.reduceAdd, Int.reduceEq, Int.reduceLE, Int.reduceLT, Int.reduceMul, Int.reduceNeg, Int.reducePow, Int.reduceSub, Int.reduceToNat, Nat.reduceAdd, Nat.reduceEqDiff, Nat.reduceLT, Nat.reduceLeDiff, Nat.reduceMul, reduceCtorEq]⟩
    rintro ρ1 w' hf1 ⟨rfl, g11⟩
    have g9 : ρ1 9 = v6 := by rw [hf1 9 rfl]; simp (disch := omega) only [EO, ↓EP, EQ, EM, ↓reduceIte, Int.reduceAdd, Int.reduceEq, Int.reduceLE, Int.reduceLT, Int.reduceMul, Int.reduceNeg, Int.reducePow, Int.reduceSub, Int.reduceToNat, Nat.reduceAdd, Nat.reduceEqDiff, Nat.reduceLT, Nat.reduceLeDiff, Nat.reduceMul, reduceCtorEq]
    have g10 : ρ1 10 = .int .i64 k := by rw [hf1 10 rfl]; simp (disch := omega) only [EO, ↓EP, EQ, EM, ↓reduceIte, Int.reduceAdd, Int.reduceEq, Int.reduceLE, Int.reduceLT, Int.reduceMul, Int.reduceNeg, Int.reducePow, Int.reduceSub, Int.reduceToNat, Nat.reduceAdd, Nat.reduceEqDiff, Nat.reduceLT, Nat.reduceLeDiff, Nat.reduceMul, reduceCtorEq, h10']
    have g1 : ρ1 1 = vb := by rw [hf1 1 rfl]; simp (disch := omega) only [EO, ↓EP, EQ, EM, ↓reduceIte, Int.reduceAdd, Int.reduceEq, Int.reduceLE, Int.reduceLT, Int.reduceMul, Int.reduceNeg, Int.reducePow, Int.reduceSub, Int.reduceToNat, Nat.reduceAdd, Nat.reduceEqDiff, Nat.reduceLT, Nat.reduceLeDiff, Nat.reduceMul, reduceCtorEq, q1]
    have g6' : ρ1 6 = .slice (some ⟨w.heap.size, 0, none⟩) l.length l.length := by rw [hf1 6 rfl]; simp (disch := omega) only [EO, ↓EP, EQ, EM, ↓reduceIte, Int.reduceAdd, Int.reduceEq, Int.reduceLE, Int.reduceLT, Int.reduceMul, Int.reduceNeg, Int.reducePow, Int.reduceSub, Int.reduceToNat, Nat.reduceAdd, Nat.reduceEqDiff, Nat.reduceLT, Nat.reduceLeDiff, Nat.reduceMul, reduceCtorEq, q6]
    have g8 : ρ1 8 = .int .u64 T := by rw [hf1 8 rfl]; simp (disch := omega) only [EO, ↓EP, EQ, EM, ↓reduceIte, Int.reduceAdd, Int.reduceEq, Int.reduceLE, Int.reduceLT, Int.reduceMul, Int.reduceNeg, Int.reducePow, Int.reduceSub, Int.reduceToNat, Nat.reduceAdd, Nat.reduceEqDiff, Nat.reduceLT, Nat.reduceLeDiff, Nat.reduceMul, reduceCtorEq, q8]
    clear hf1
    simp (disch := omega) only [wu64, wu32, wu8, fdiv_nn, EO, ↓EP, EQ, EM, ↓reduceIte, Int.reduceAdd, Int.reduceEq, Int.reduceLE, Int.reduceLT, Int.reduceMul, Int.reduceNeg, Int.reducePow, Int.reduceSub, Int.reduceToNat, Nat.reduceAdd, Nat.reduceEqDiff, Nat.reduceLT, Nat.reduceLeDiff, Nat.reduceMul, reduceCtorEq, W_joinT, g11, g8]
    refine join_cut (fun ρ' w'' => w'' = w' ∧ ∃ g, ρ' 12 = .int .u64 g ∧ R' / V ≤ g ∧ g ≤ 65535) ?_ ?_
    · intro N2 hN2
      by_cases hbig : 65535 < H / T
      · simp (disch := omega) only [wu64, wu32, wu8, fdiv_nn, EO, ↓EP, EQ, EM, ↓reduceIte, Int.reduceAdd, Int.reduceEq, Int.reduceLE, Int.reduceLT, Int.reduceMul, Int.reduceNeg, Int.reducePow, Int.reduceSub, Int.reduceToNat, Nat.reduceAdd, Nat.reduceEqDiff, Nat.reduceLT, Nat.reduceLeDiff, Nat.reduceMul, reduceCtorEq]
        exact hN2 _ _ ⟨rfl, 65535, by simp (disch := omega) only [wu64, wu32, wu8, fdiv_nn, EO, ↓EP, EQ, EM, ↓reduceIte, Int.reduceAdd, Int.reduceEq, Int.reduceLE, Int.reduceLT, Int.reduceMul, Int.reduceNeg, Int.reducePow, Int.reduceSub, Int.reduceToNat, Nat.reduceAdd, Nat.reduceEqDiff, Nat.reduceLT, Nat.reduceLeDiff, Nat.reduceMul, reduceCtorEq], by omega, by omega⟩
      · simp (disch := omega) only [wu64, wu32, wu8, fdiv_nn, EO, ↓EP, EQ, EM, ↓reduceIte, Int.reduceAdd, Int.reduceEq, Int.reduceLE, Int.reduceLT, Int.reduceMul, Int.reduceNeg, Int.reducePow, Int.reduceSub, Int.reduceToNat, Nat.reduceAdd, Nat.reduceEqDiff, Nat.reduceLT, Nat.reduceLeDiff, Nat.reduceMul, reduceCtorEq]
        exact hN2 _ _ ⟨rfl, H / T, by simp (disch := omega) only [wu64, wu32, wu8, fdiv_nn, EO, ↓EP, EQ, EM, ↓reduceIte, Int.reduceAdd, Int.reduceEq, Int.reduceLE, Int.reduceLT, Int.reduceMul, Int.reduceNeg, Int.reducePow, Int.reduceSub, Int.reduceToNat, Nat.reduceAdd, Nat.reduceEqDiff, Nat.reduceLT, Nat.reduceLeDiff, Nat.reduceMul, reduceCtorEq], by omega, by omega⟩
    rintro ρ2 w'' hf2 ⟨rfl, g, g12, hg0, hg1⟩
    have p9 : ρ2 9 = v6 := by rw [hf2 9 rfl]; simp (disch := omega) only [EO, ↓EP, EQ, EM, ↓reduceIte, Int.reduceAdd, Int.reduceEq, Int.reduceLE, Int.reduceLT, Int.reduceMul, Int.reduceNeg, Int.reducePow, Int.reduceSub, Int.reduceToNat, Nat.reduceAdd, Nat.reduceEqDiff, Nat.reduceLT, Nat.reduceLeDiff, Nat.reduceMul, reduceCtorEq, g9]
    have p10 : ρ2 10 = .int .i64 k := by rw [hf2 10 rfl]; simp (disch := omega) only [EO, ↓EP, EQ, EM, ↓reduceIte, Int.reduceAdd, Int.reduceEq, Int.reduceLE, Int.reduceLT, Int.reduceMul, Int.reduceNeg, Int.reducePow, Int.reduceSub, Int.reduceToNat, Nat.reduceAdd, Nat.reduceEqDiff, Nat.reduceLT, Nat.reduceLeDiff, Nat.reduceMul, reduceCtorEq, g10]
    have p1 : ρ2 1 = vb := by rw [hf2 1 rfl]; simp (disch := omega) only [EO, ↓EP, EQ, EM, ↓reduceIte, Int.reduceAdd, Int.reduceEq, Int.reduceLE, Int.reduceLT, Int.reduceMul, Int.reduceNeg, Int.reducePow, Int.reduceSub, Int.reduceToNat, Nat.reduceAdd, Nat.reduceEqDiff, Nat.reduceLT, Nat.reduceLeDiff, Nat.reduceMul, reduceCtorEq, g1]
    have p6 : ρ2 6 = .slice (some ⟨w.heap.size, 0, none⟩) l.length l.length := by rw [hf2 6 rfl]; simp (disch := omega) only [EO, ↓EP, EQ, EM, ↓reduceIte, Int.reduceAdd, Int.reduceEq, Int.reduceLE, Int.reduceLT, Int.reduceMul, Int.reduceNeg, Int.reducePow, Int.reduceSub, Int.reduceToNat, Nat.reduceAdd, Nat.reduceEqDiff, Nat.reduceLT, Nat.reduceLeDiff, Nat.reduceMul, reduceCtorEq, g6']
    clear hf2
    simp (disch := omega) only [EO, ↓EP, EQ, EM, ↓reduceIte, Int.reduceAdd, Int.reduceEq, Int.reduceLE, Int.reduceLT, Int.reduceMul, Int.reduceNeg, Int.reducePow, Int.reduceSub, Int.reduceToNat, Nat.reduceAdd, Nat.reduceEqDiff, Nat.reduceLT, Nat.reduceLeDiff, Nat.reduceMul, reduceCtorEq, g12, p1]
    refine bsl1 fun w6 n6 => ?_
    have f6 := n6.fr nob
    simp (disch := omega) only [EO, ↓EP, EQ, EM, ↓reduceIte, Int.reduceAdd, Int.reduceEq, Int.reduceLE, Int.reduceLT, Int.reduceMul, Int.reduceNeg, Int.reducePow, Int.reduceSub, Int.reduceToNat, Nat.reduceAdd, Nat.reduceEqDiff, Nat.reduceLT, Nat.reduceLeDiff, Nat.reduceMul, reduceCtorEq, p1]
    refine dmul_vw (vb5.vw.nb f6) (n6.vw rfl) VL (Dg.Lim.mk (by omega) (by omega) Dg.Lim.nil) (by omega) (by simp) _ fun v7 w7 g7 => ?_
    rw [hvV, Dg.val_one, Int.mul_comm V g] at g7
    have f67 := f6.nb g7.fr
    simp (disch := omega) only [EO, ↓EP, EQ, EM, ↓reduceIte, Int.reduceAdd, Int.reduceEq, Int.reduceLE, Int.reduceLT, Int.reduceMul, Int.reduceNeg, Int.reducePow, Int.reduceSub, Int.reduceToNat, Nat.reduceAdd, Nat.reduceEqDiff, Nat.reduceLT, Nat.reduceLeDiff, Nat.reduceMul, reduceCtorEq]
    refine loop_inv (fun t ρ3 w8 => ∃ vp g, ρ3 12 = .int .u64 g ∧ ρ3 13 = vp ∧ t = g.toNat ∧ R' / V ≤ g ∧ g ≤ 65535 ∧ Vw .u64 w8 vp (Dg.digs (g * V)) ∧ Fr w'' w8 nob) _
      ⟨v7, g, by simp (disch := omega) only [EO, ↓EP, EQ, EM, ↓reduceIte, Int.reduceAdd, Int.reduceEq, Int.reduceLE, Int.reduceLT, Int.reduceMul, Int.reduceNeg, Int.reducePow, Int.reduceSub, Int.reduceToNat, Nat.reduceAdd, Nat.reduceEqDiff, Nat.reduceLT, Nat.reduceLeDiff, Nat.reduceMul, reduceCtorEq, g12], by simp (disch := omega) only [EO, ↓EP, EQ, EM, ↓reduceIte, Int.reduceAdd, Int.reduceEq, Int.reduceLE, Int.reduceLT, Int.reduceMul, Int.reduceNeg, Int.reducePow, Int.reduceSub, Int.reduceToNat, Nat.reduceAdd, Nat.reduceEqDiff, Nat.reduceLT, Nat.reduceLeDiff, Nat.reduceMul, reduceCtorEq], rfl, hg0, hg1, g7.vw, f67⟩ ?_
    rintro t ρ3 w8 hf ⟨vp, g', r12, r13, rfl, hg0', hg1', hvp, f8⟩ N3 hN3
    have r9 : ρ3 9 = v6 := by rw [hf 9 rfl]; simp (disch := omega) only [EO, ↓EP, EQ, EM, ↓reduceIte, Int.reduceAdd, Int.reduceEq, Int.reduceLE, Int.reduceLT, Int.reduceMul, Int.reduceNeg, Int.reducePow, Int.reduceSub, Int.reduceToNat, Nat.reduceAdd, Nat.reduceEqDiff, Nat.reduceLT, Nat.reduceLeDiff, Nat.reduceMul, reduceCtorEq, p9]
    have r10 : ρ3 10 = .int .i64 k := by rw [hf 10 rfl]; simp (disch := omega) only [EO, ↓EP, EQ, EM, ↓reduceIte, Int.reduceAdd, Int.reduceEq, Int.reduceLE, Int.reduceLT, Int.reduceMul, Int.reduceNeg, Int.reducePow, Int.reduceSub, Int.reduceToNat, Nat.reduceAdd, Nat.reduceEqDiff, Nat.reduceLT, Nat.reduceLeDiff, Nat.reduceMul, reduceCtorEq, p10]
    have r1 : ρ3 1 = vb := by rw [hf 1 rfl]; simp (disch := omega) only [EO, ↓EP, EQ, EM, ↓reduceIte, Int.reduceAdd, Int.reduceEq, Int.reduceLE, Int.reduceLT, Int.reduceMul, Int.reduceNeg, Int.reducePow, Int.reduceSub, Int.reduceToNat, Nat.reduceAdd, Nat.reduceEqDiff, Nat.reduceLT, Nat.reduceLeDiff, Nat.reduceMul, reduceCtorEq, p1]
    have r6 : ρ3 6 = .slice (some ⟨w.heap.size, 0, none⟩) l.length l.length := by rw [hf 6 rfl]; simp (disch := omega) only [EO, ↓EP, EQ, EM, ↓reduceIte, Int.reduceAdd, Int.reduceEq, Int.reduceLE, Int.reduceLT, Int.reduceMul, Int.reduceNeg, Int.reducePow, Int.reduceSub, Int.reduceToNat, Nat.reduceAdd, Nat.reduceEqDiff, Nat.reduceLT, Nat.reduceLeDiff, Nat.reduceMul, reduceCtorEq, p6]
    clear hf
    have hgV0 : 0 ≤ g' * V := Int.mul_nonneg (by omega) (by omega)
    have hgV1 : g' * V < 65536 * V := by have := Int.mul_lt_mul_of_pos_right (show g' < 65536 by omega) hV; exact this
    have hplen : (Dg.digs (g' * V)).length ≤ n + 1 := (Dg.digs_len hgV0).2 (by rw [Dg.pw_succ]; omega)
    have rv8 := rv6.vw.nb f8
    simp (disch := omega) only [EO, ↓EP, EQ, EM, ↓reduceIte, Int.reduceAdd, Int.reduceEq, Int.reduceLE, Int.reduceLT, Int.reduceMul, Int.reduceNeg, Int.reducePow, Int.reduceSub, Int.reduceToNat, Nat.reduceAdd, Nat.reduceEqDiff, Nat.reduceLT, Nat.reduceLeDiff, Nat.reduceMul, reduceCtorEq, r12, r13, r9]
    refine order_vw hvp rv8 (Dg.digs_lim _) RL (by omega) (by omega) _ fun cp c4 c5 c6 => ?_
    rw [Dg.digs_val hgV0, Dg.digs_val hR0] at c4 c5 c6
    by_cases hgt : R' < g' * V
    · have hcp : 0 < cp := by have := c6 hgt; omega
      have hgQ : R' / V < g' := by
        by_cases h : R' / V < g'
        · exact h
        · have : g' = R' / V := by omega
          rw [this] at hgt; omega
      have hVle : V ≤ g' * V := by
        have := mul_r (show 1 ≤ g' by omega) (show 0 ≤ V by omega)
        omega
      simp (disch := omega) only [wu64, wu32, wu8, fdiv_nn, EO, ↓EP, EQ, EM, ↓reduceIte, Int.reduceAdd, Int.reduceEq, Int.reduceLE, Int.reduceLT, Int.reduceMul, Int.reduceNeg, Int.reducePow, Int.reduceSub, Int.reduceToNat, Nat.reduceAdd, Nat.reduceEqDiff, Nat.reduceLT, Nat.reduceLeDiff, Nat.reduceMul, reduceCtorEq, r12, r13, r1]
      refine dsub_vw hvp (vb5.vw.nb f8) (Dg.digs_lim _) VL (by omega) (by omega) (by rw [Dg.digs_val hgV0, hvV]; exact hVle) _ fun v9 w9 g9' => ?_
      rw [Dg.digs_val hgV0, hvV] at g9'
      have e9 : g' * V - V = (g' - 1) * V := by rw [Int.sub_mul, Int.one_mul]
      rw [e9] at g9'
      simp (disch := omega) only [EO, ↓EP, EQ, EM, ↓reduceIte, Int.reduceAdd, Int.reduceEq, Int.reduceLE, Int.reduceLT, Int.reduceMul, Int.reduceNeg, Int.reducePow, Int.reduceSub, Int.reduceToNat, Nat.reduceAdd, Nat.reduceEqDiff, Nat.reduceLT, Nat.reduceLeDiff, Nat.reduceMul, reduceCtorEq, r12]
      exact hN3 (g' - 1).toNat _ _ (by omega) ⟨v9, g' - 1, by simp (disch := omega) only [wu64, wu32, wu8, fdiv_nn, EO, ↓EP, EQ, EM, ↓reduceIte, Int.reduceAdd, Int.reduceEq, Int.reduceLE, Int.reduceLT, Int.reduceMul, Int.reduceNeg, Int.reducePow, Int.reduceSub, Int.reduceToNat, Nat.reduceAdd, Nat.reduceEqDiff, Nat.reduceLT, Nat.reduceLeDiff, Nat.reduceMul, reduceCtorEq, r12], by simp (disch := omega) only [EO, ↓EP, EQ, EM, ↓reduceIte, Int.reduceAdd, Int.reduceEq, Int.reduceLE, Int.reduceLT, Int.reduceMul, Int.reduceNeg, Int.reducePow, Int.reduceSub, Int.reduceToNat, Nat.reduceAdd, Nat.reduceEqDiff, Nat.reduceLT, Nat.reduceLeDiff, Nat.reduceMul, reduceCtorEq], rfl, by omega, by omega, g9'.vw, f8.nb g9'.fr⟩
    have hcp : cp ≤ 0 := by
      rcases (show g' * V = R' ∨ g' * V < R' by omega) with h | h
      · have := c5 h; omega
      · have := c4 h; omega
    have hgQ : g' = R' / V := by
      by_cases h : R' / V < g'
      · exfalso
        have := mul_r (show R' / V + 1 ≤ g' by omega) (show 0 ≤ V by omega)
        omega
      · omega
    simp (disch := omega) only [EO, ↓EP, EQ, EM, ↓reduceIte, Int.reduceAdd, Int.reduceEq, Int.reduceLE, Int.reduceLT, Int.reduceMul, Int.reduceNeg, Int.reducePow, Int.reduceSub, Int.reduceToNat, Nat.reduceAdd, Nat.reduceEqDiff, Nat.reduceLT, Nat.reduceLeDiff, Nat.reduceMul, reduceCtorEq, r12, r13, r9]
    refine dsub_vw rv8 hvp RL (Dg.digs_lim _) (by omega) (by omega) (by rw [Dg.digs_val hgV0, Dg.digs_val hR0]; omega) _ fun v9 w9 g9' => ?_
    rw [Dg.digs_val hgV0, Dg.digs_val hR0] at g9'
    have f9 := f8.nb g9'.fr
    have hB9 := D5.bq.nb f9
    simp (disch := omega) only [EO, ↓EP, EQ, EM, ↓reduceIte, Int.reduceAdd, Int.reduceEq, Int.reduceLE, Int.reduceLT, Int.reduceMul, Int.reduceNeg, Int.reducePow, Int.reduceSub, Int.reduceToNat, Nat.reduceAdd, Nat.reduceEqDiff, Nat.reduceLT, Nat.reduceLeDiff, Nat.reduceMul, reduceCtorEq, r12, r10, r6]
    refine st_num hB9 (by omega) fun w10 p10' => ?_
    have hlt9 : ∀ b, w8.heap.size ≤ b → ¬ (b = w.heap.size) := fun b hb e => by have := f8.size; have := f35.size; omega
    simp (disch := omega) only [EO, ↓EP, EQ, EM, ↓reduceIte, Int.reduceAdd, Int.reduceEq, Int.reduceLE, Int.reduceLT, Int.reduceMul, Int.reduceNeg, Int.reducePow, Int.reduceSub, Int.reduceToNat, Nat.reduceAdd, Nat.reduceEqDiff, Nat.reduceLT, Nat.reduceLeDiff, Nat.reduceMul, reduceCtorEq]
    refine hN1 _ _ ⟨v9, qs.set k g', R' - g' * V, by simp (disch := omega) only [EO, ↓EP, EQ, EM, ↓reduceIte, Int.reduceAdd, Int.reduceEq, Int.reduceLE, Int.reduceLT, Int.reduceMul, Int.reduceNeg, Int.reducePow, Int.reduceSub, Int.reduceToNat, Nat.reduceAdd, Nat.reduceEqDiff, Nat.reduceLT, Nat.reduceLeDiff, Nat.reduceMul, reduceCtorEq, r10], by simp (disch := omega) only [EO, ↓EP, EQ, EM, ↓reduceIte, Int.reduceAdd, Int.reduceEq, Int.reduceLE, Int.reduceLT, Int.reduceMul, Int.reduceNeg, Int.reducePow, Int.reduceSub, Int.reduceToNat, Nat.reduceAdd, Nat.reduceEqDiff, Nat.reduceLT, Nat.reduceLeDiff, Nat.reduceMul, reduceCtorEq], ⟨by omega, ?_, (gw_vr g9' hlt9).fr p10'.fr, p10'.blk, by rw [List.length_set]; exact hql, D.qL.set _ (by omega) (by omega), fun j hj => ?_, ?_, (D5.fr.nb f9).own p10'.fr fun b e => by omega⟩, (f25.trans (f9.any _) fun _ _ e => e).trans p10'.fr fun _ _ e => e⟩
    · have : (g' + 1) * V = g' * V + V := by rw [Int.add_mul, Int.one_mul]
      rw [← hgQ] at qf3
      omega
    · rw [at_setO (by omega)]; exact D.qz j (by omega)
    · rw [hdk, ddrop_set (by omega), heq, hR']
      grind
end Go.Proofs.Ytbgfebhhejlakaa.Spec
