/- Numbers by limbs: quotients and rests, walked. -/
import Derived.Test.YtbgfebhhejlakaaNat6
import Derived.Test.YtbgfebhhejlakaaNat8
import Derived.Test.YtbgfebhhejlakaaNm4
set_option linter.unusedVariables false
set_option linter.unusedSimpArgs false
namespace Go.Proofs.Ytbgfebhhejlakaa.Spec
open Go Go.RowKit Go.Proofs Go.Proofs.Ytbgfebhhejlakaa.Eng Go.Proofs.Ytbgfebhhejlakaa.Code Go.Proofs.Ytbgfebhhejlakaa.Big
set_option maxRecDepth 100000
attribute [local irreducible] callK S.W opsW scrW

theorem subA_lit {b c k : Nat} (h : c ≠ k) : subA (some ⟨b, 0, none⟩) c k 1 = some ⟨b, k, none⟩ := by
  unfold subA
  rw [if_neg h]
  simp [Addr.add_lit]
theorem three (us : List Int) (k n : Nat) : us = us.take k ++ (us.drop k).take n ++ us.drop (k + n) := by
  rw [← List.take_add, List.take_append_drop]
theorem blk_ro {w : World} {b : Nat} {l : List Int} {y : Nat} (hB : Blk w b (nums .u32 l)) {P : Nat → Prop} (hp : ¬ P b) : RO .u32 w (some ⟨b, 0, none⟩) (l.take y) P :=
  .inr ⟨_, rfl, hB.lt, hp, by rw [← nums_take]; exact hB.cellsAt0.take y⟩
theorem val_win {us : List Int} {k y x : Nat} (hx : us.length = x + 1) (hk : k + y ≤ x) (hU : Lim us) {V : Int} (hV : V < pw y) (hdr : val (us.drop (k + 1)) < V) :
    val (us.drop (k + (y + 1))) = 0 ∧ val ((us.drop k).take (y + 1)) = val (us.drop k) ∧ val (us.drop k) < 4294967296 * V ∧ val us = val (us.take k) + pw k * val (us.drop k) := by
  have e1 := val_drop_at us (k := k) (by omega)
  have b1 := hU.at k
  have e2 := val_split (us.drop k) (k := y + 1) (by simp; omega)
  rw [List.drop_drop] at e2
  have b2 := val_bd (hU.drop (k + (y + 1)))
  have b3 := val_bd ((hU.drop k).take (y + 1))
  have hlt : val (us.drop k) < 4294967296 * V := by omega
  have h0 : val (us.drop (k + (y + 1))) = 0 := by
    by_cases h : val (us.drop (k + (y + 1))) = 0
    · exact h
    · exfalso
      have := mul_r (show 1 ≤ val (us.drop (k + (y + 1))) by omega) (show (0 : Int) ≤ pw (y + 1) by have := pw_pos (y + 1); omega)
      have e3 : val (us.drop (k + (y + 1))) * pw (y + 1) = pw (y + 1) * val (us.drop (k + (y + 1))) := Int.mul_comm _ _
      rw [e3, pw_succ] at this
      rw [pw_succ] at e2
      omega
  refine ⟨h0, ?_, hlt, val_split us (by omega)⟩
  rw [h0] at e2
  omega
theorem div_step {us win' qs : List Int} {k yy x : Nat} {V N dg : Int} (hus : us.length = x + 1) (hk : k + yy ≤ x) (hw : win'.length = yy + 1) (hpost : val (us.drop (k + (yy + 1))) = 0) (hwin : val ((us.drop k).take (yy + 1)) = val (us.drop k)) (hsplit : val us = val (us.take k) + pw k * val (us.drop k))
    (hv : val us + val (qs.drop (k + 1)) * pw (k + 1) * V = N) (hval : val win' = val ((us.drop k).take (yy + 1)) - dg * V) (hq : k < qs.length) :
    (us.take k ++ win' ++ us.drop (k + (yy + 1))).length = x + 1 ∧ val (us.take k ++ win' ++ us.drop (k + (yy + 1))) + val ((qs.set k dg).drop k) * pw k * V = N ∧ val ((us.take k ++ win' ++ us.drop (k + (yy + 1))).drop k) = val win' := by
  have hk' : (us.take k).length = k := by simp; omega
  refine ⟨by simp; omega, ?_, ?_⟩
  · rw [drop_set hq, List.append_assoc, val_app, val_app, hk', hpost, hval, hwin, ← hv, hsplit, pw_succ]
    grind
  · rw [List.append_assoc, List.drop_append_of_le_length (by omega), List.drop_of_length_le (by omega), List.nil_append, val_app, hpost]
    omega
/-- What is kept from limb to limb. -/
structure PD (w0 w : World) (ub vb qb : Nat) (us vs qs : List Int) : Prop where
  bu : Blk w ub (nums .u32 us)
  bv : Blk w vb (nums .u32 vs)
  bq : Blk w qb (nums .u32 qs)
  fr : Fr w0 w nob
theorem PD.nb {w0 w w' : World} {ub vb qb : Nat} {us vs qs : List Int} (h : PD w0 w ub vb qb us vs qs) (f : Fr w w' nob) : PD w0 w' ub vb qb us vs qs :=
  ⟨h.bu.nb f, h.bv.nb f, h.bq.nb f, h.fr.nb f⟩
set_option maxHeartbeats 4000000 in
theorem parts_spec {w : World} {A B : Option Addr} {n m c d : Nat} {l r : List Int} (hn : l.length = n) (hm : r.length = m) (hl : Rd w A (nums .u32 l)) (hr : Rd w B (nums .u32 r)) (hL : Lim l) (hR : Lim r) (hc : n ≤ c) (hd : m ≤ d) (hn' : n ≤ 549755813888) (hm' : m ≤ 549755813888) (hpos : 0 < val r) (K : Value → World → Prop)
    (hK : ∀ u v w', Gw .u32 w w' u (limbs (val l / val r)) → Gw .u32 w w' v (limbs (val l % val r)) → (∀ b, blkOf u = some b → blkOf v ≠ some b) → K (.tuple #[u, v]) w') : callK Try.prog 61 [.slice A n c, .slice B m d] w K := by
  refine call_of Try.func61 Code.h61 (by simp [Code.c61]) ?_
  have hvl := (val_bd hL).1
  simp (disch := omega) only [EO, ↓EP, EQ, EM, ↓reduceIte, Int.reduceAdd, Int.reduceEq, Int.reduceLE, Int.reduceLT, Int.reduceMul, Int.reduceNeg, Int.reducePow, Int.reduceSub, Int.reduceToNat, Nat.reduceAdd, Nat.reduceEqDiff, Nat.reduceLT, Nat.reduceLeDiff, Nat.reduceMul, reduceCtorEq, Code.c61]
  refine cut_spec hn hl hL hc (by omega) _ fun x hx he hlen => ?_
  simp (disch := omega) only [EO, ↓EP, EQ, EM, ↓reduceIte, Int.reduceAdd, Int.reduceEq, Int.reduceLE, Int.reduceLT, Int.reduceMul, Int.reduceNeg, Int.reducePow, Int.reduceSub, Int.reduceToNat, Nat.reduceAdd, Nat.reduceEqDiff, Nat.reduceLT, Nat.reduceLeDiff, Nat.reduceMul, reduceCtorEq]
  refine cut_spec hm hr hR hd (by omega) _ fun y hy he2 hlen2 => ?_
  have rl := hl.take x
  have rr := hr.take y
  rw [he] at rl
  rw [he2] at rr
  have vl := limbs_val hvl
  have vr := limbs_val (v := val r) (by omega)
  have LL := limbs_lim (val l)
  have LR := limbs_lim (val r)
  simp (disch := omega) only [EO, ↓EP, EQ, EM, ↓reduceIte, Int.reduceAdd, Int.reduceEq, Int.reduceLE, Int.reduceLT, Int.reduceMul, Int.reduceNeg, Int.reducePow, Int.reduceSub, Int.reduceToNat, Nat.reduceAdd, Nat.reduceEqDiff, Nat.reduceLT, Nat.reduceLeDiff, Nat.reduceMul, reduceCtorEq]
  refine cmp_spec hlen.symm hlen2.symm rl rr LL LR (by omega) (by omega) (by omega) (by omega) _ fun w1 f1 => ?_
  rw [vl, vr]
  have rl := rl.nb f1
  have rr := rr.nb f1
  by_cases hlt : val l < val r
  · rw [cmp_lt hlt]
    simp (disch := omega) only [EO, ↓EP, EQ, EM, ↓reduceIte, Int.reduceAdd, Int.reduceEq, Int.reduceLE, Int.reduceLT, Int.reduceMul, Int.reduceNeg, Int.reducePow, Int.reduceSub, Int.reduceToNat, Nat.reduceAdd, Nat.reduceEqDiff, Nat.reduceLT, Nat.reduceLeDiff, Nat.reduceMul, reduceCtorEq]
    refine trim_spec hlen.symm rl LL (by omega) (by omega) _ fun v w2 g2 => ?_
    rw [vl] at g2
    simp (disch := omega) only [EO, ↓EP, EQ, EM, ↓reduceIte, Int.reduceAdd, Int.reduceEq, Int.reduceLE, Int.reduceLT, Int.reduceMul, Int.reduceNeg, Int.reducePow, Int.reduceSub, Int.reduceToNat, Nat.reduceAdd, Nat.reduceEqDiff, Nat.reduceLT, Nat.reduceLeDiff, Nat.reduceMul, reduceCtorEq]
    obtain ⟨d1, d2⟩ := div_of (a := val l) (q := 0) (b := val r) (r := val l) (by omega) hvl hlt
    refine hK _ _ _ ?_ (by rw [d2]; exact ⟨g2.sl, fun b e => Nat.le_trans f1.size (g2.up b e), f1.nb g2.fr⟩) (fun b e => by cases e)
    rw [d1, limbs_zero]
    exact ⟨Sl.nil _ _, fun b e => (by cases e), f1.nb g2.fr⟩
  have hcmp : 0 ≤ cmpI (val l) (val r) := by unfold cmpI; rw [if_neg hlt]; split <;> omega
  generalize cmpI (val l) (val r) = cm at *
  have hy0 : y ≠ 0 := by
    rintro rfl
    rw [List.length_eq_zero_iff.1 hlen2.symm] at vr
    rw [val_nil] at vr
    omega
  have hyx : y ≤ x := by
    by_cases h : y ≤ x
    · exact h
    · have := (limbs_can (val l)).lt_of_len (limbs_can (val r)) (by omega)
      omega
  obtain ⟨p, rfl, _, hp⟩ := rr.get (by rw [nums_length]; omega)
  by_cases hy1 : y = 1
  · subst hy1
    have cp := hp.numN (j := 0) (by omega)
    have cp' : w1.cell? p = some (.int .u32 (at' (limbs (val r)) 0)) := by rw [add_zero'] at cp; exact cp
    have et : at' (limbs (val r)) 0 = val r := by
      obtain ⟨a, ha⟩ := List.length_eq_one_iff.1 hlen2.symm
      have := vr
      rw [ha, val_one] at this
      rw [ha, ← this]; rfl
    have bt := LR.at 0
    simp (disch := omega) only [EO, ↓EP, EQ, EM, ↓reduceIte, Int.reduceAdd, Int.reduceEq, Int.reduceLE, Int.reduceLT, Int.reduceMul, Int.reduceNeg, Int.reducePow, Int.reduceSub, Int.reduceToNat, Nat.reduceAdd, Nat.reduceEqDiff, Nat.reduceLT, Nat.reduceLeDiff, Nat.reduceMul, reduceCtorEq, cp', et, add_zero']
    refine short_spec hlen.symm rl LL (by omega) ⟨hpos, by rw [← et]; exact bt.2⟩ _ fun u v w2 g1 g2 hne => ?_
    rw [vl] at g1 g2
    simp (disch := omega) only [EO, ↓EP, EQ, EM, ↓reduceIte, Int.reduceAdd, Int.reduceEq, Int.reduceLE, Int.reduceLT, Int.reduceMul, Int.reduceNeg, Int.reducePow, Int.reduceSub, Int.reduceToNat, Nat.reduceAdd, Nat.reduceEqDiff, Nat.reduceLT, Nat.reduceLeDiff, Nat.reduceMul, reduceCtorEq]
    exact hK u v w2 ⟨g1.sl, fun b e => Nat.le_trans f1.size (g1.up b e), f1.nb g1.fr⟩ ⟨g2.sl, fun b e => Nat.le_trans f1.size (g2.up b e), f1.nb g2.fr⟩ hne
  obtain ⟨j, hj⟩ : ∃ j, y = j + 2 := ⟨y - 2, by omega⟩
  have cp := hp.numN (j := j + 1) (by omega)
  have e1 : (y : Int) - 1 = ((j + 1 : Nat) : Int) := by omega
  have bt := LR.at (j + 1 : Nat)
  have hb32 : bl (at' (limbs (val r)) (j + 1 : Nat)) ≤ 32 := (bl_le bt.1).2 (by omega)
  have hy1' : (y : Int) = 1 → False := fun h => by omega
  simp (disch := omega) only [EO, ↓EP, EQ, EM, ↓reduceIte, Int.reduceAdd, Int.reduceEq, Int.reduceLE, Int.reduceLT, Int.reduceMul, Int.reduceNeg, Int.reducePow, Int.reduceSub, Int.reduceToNat, Nat.reduceAdd, Nat.reduceEqDiff, Nat.reduceLT, Nat.reduceLeDiff, Nat.reduceMul, reduceCtorEq, e1, cp]
  refine lz32_spec _ bt _ _ ?_
  obtain ⟨htop0, _⟩ := can_top (v := val r) (k := j + 1) (by omega) (by omega)
  obtain ⟨kb, hkb, _, _⟩ := bl_pos (v := at' (limbs (val r)) (j + 1 : Nat)) (by omega)
  obtain ⟨s, hs⟩ : ∃ s : Nat, bl (at' (limbs (val r)) (j + 1 : Nat)) + s = 32 := ⟨32 - bl (at' (limbs (val r)) (j + 1 : Nat)), by omega⟩
  have hs32 : s < 32 := by omega
  have es : (32 : Int) - (bl (at' (limbs (val r)) (j + 1 : Nat)) : Int) = s := by omega
  obtain ⟨nl, nt, nlow⟩ := norm hpos (y := j + 1) (by omega) hs
  have hp2 : (0 : Int) < 2 ^ s := p2_pos s
  rw [es]
  simp (disch := omega) only [EO, ↓EP, EQ, EM, ↓reduceIte, Int.reduceAdd, Int.reduceEq, Int.reduceLE, Int.reduceLT, Int.reduceMul, Int.reduceNeg, Int.reducePow, Int.reduceSub, Int.reduceToNat, Nat.reduceAdd, Nat.reduceEqDiff, Nat.reduceLT, Nat.reduceLeDiff, Nat.reduceMul, reduceCtorEq]
  refine shifted_spec hlen.symm rl LL (by omega) hs32 _ fun o w2 B2 ho hO hvo f2 => ?_
  rw [vl] at hvo
  simp (disch := omega) only [EO, ↓EP, EQ, EM, ↓reduceIte, Int.reduceAdd, Int.reduceEq, Int.reduceLE, Int.reduceLT, Int.reduceMul, Int.reduceNeg, Int.reducePow, Int.reduceSub, Int.reduceToNat, Nat.reduceAdd, Nat.reduceEqDiff, Nat.reduceLT, Nat.reduceLeDiff, Nat.reduceMul, reduceCtorEq]
  refine shifted_spec hlen2.symm (rr.nb f2) LR (by omega) hs32 _ fun o2 w3 B3 ho2 hO2 hvo2 f3 => ?_
  rw [vr] at hvo2
  have sz0 := B2.lt
  have B2 := B2.nb f3
  have sz1 := f1.size
  have sz2 := B2.lt
  have sz3 := B3.lt
  have f13 := (f1.nb f2).nb f3
  have hV0 : 0 < val r * 2 ^ s := Int.mul_pos hpos hp2
  have hVlt : val r * 2 ^ s < pw y := by
    have := (limbs_len (v := val r * 2 ^ s) (by omega) (k := y)).1 (by omega)
    exact this
  have VL := limbs_lim (val r * 2 ^ s)
  have nl' : 2147483648 ≤ at' (limbs (val r * 2 ^ s)) (j + 1 : Nat) := nt
  have hvV := limbs_val (v := val r * 2 ^ s) (by omega)
  generalize hV : val r * 2 ^ s = V at *
  generalize hub : w1.heap.size = ub at *
  generalize hvb : w2.heap.size = vb at *
  simp (disch := omega) only [EO, ↓EP, EQ, EM, ↓reduceIte, Int.reduceAdd, Int.reduceEq, Int.reduceLE, Int.reduceLT, Int.reduceMul, Int.reduceNeg, Int.reducePow, Int.reduceSub, Int.reduceToNat, Nat.reduceAdd, Nat.reduceEqDiff, Nat.reduceLT, Nat.reduceLeDiff, Nat.reduceMul, reduceCtorEq]
  refine cut_spec ho2 (blk_rd B3) hO2 (Nat.le_refl _) (by omega) _ fun yy hyy hcut hlcut => ?_
  rw [hvo2] at hcut hlcut
  obtain rfl : yy = y := by omega
  clear he he2 hl hr hp cp rl rr bt hb32 hlt hcmp
  obtain ⟨z, hz⟩ : ∃ z : Nat, x + 1 - yy = z ∧ z + yy = x + 1 := ⟨_, rfl, by omega⟩
  have eq1 : ((x + 1 : Nat) : Int) - (yy : Int) = (z : Int) := by omega
  simp (disch := omega) only [EO, ↓EP, EQ, EM, ↓reduceIte, Int.reduceAdd, Int.reduceEq, Int.reduceLE, Int.reduceLT, Int.reduceMul, Int.reduceNeg, Int.reducePow, Int.reduceSub, Int.reduceToNat, Nat.reduceAdd, Nat.reduceEqDiff, Nat.reduceLT, Nat.reduceLeDiff, Nat.reduceMul, reduceCtorEq, eq1]
  refine al_k (nums .u32 (List.replicate z 0)) (by rw [madeCells_list, nums_replicate]) fun w4 n4 => ?_
  have P4 : PD w w4 ub vb w3.heap.size o o2 (List.replicate z 0) := ⟨B2.nb (n4.fr nob), B3.nb (n4.fr nob), n4.blk, f13.nb (n4.fr nob)⟩
  have htop : val (o.drop z) < V := top_start (L := val l) ho hO (j := j) (by omega) hvo ((limbs_len hvl).1 (by omega)) hs32 nlow
  have hVlen : (limbs V).length = j + 2 := by omega
  simp (disch := omega) only [EO, ↓EP, EQ, EM, ↓reduceIte, Int.reduceAdd, Int.reduceEq, Int.reduceLE, Int.reduceLT, Int.reduceMul, Int.reduceNeg, Int.reducePow, Int.reduceSub, Int.reduceToNat, Nat.reduceAdd, Nat.reduceEqDiff, Nat.reduceLT, Nat.reduceLeDiff, Nat.reduceMul, reduceCtorEq, eq1]
  refine loop_inv (fun t ρ w5 => ∃ us qs : List Int, ρ 10 = .int .i64 ((t : Int) - 1) ∧ t ≤ z ∧ PD w w5 ub vb w3.heap.size us o2 qs ∧ us.length = x + 1 ∧ Lim us ∧ qs.length = z ∧ Lim qs ∧ val us + val (qs.drop t) * pw t * V = val l * 2 ^ s ∧ val (us.drop t) < V) z
    ⟨o, List.replicate z 0, by simp (disch := omega) only [EO, ↓EP, EQ, EM, ↓reduceIte, Int.reduceAdd, Int.reduceEq, Int.reduceLE, Int.reduceLT, Int.reduceMul, Int.reduceNeg, Int.reducePow, Int.reduceSub, Int.reduceToNat, Nat.reduceAdd, Nat.reduceEqDiff, Nat.reduceLT, Nat.reduceLeDiff, Nat.reduceMul, reduceCtorEq, eq1], by omega, P4, ho, hO, by simp, Lim.zeros _, by simp [val_nil, hvo], htop⟩ ?_
  rintro t ρ w5 hf ⟨us, qs, h10, htz, P5, hus, hU, hqs, hQ, hv, hdr⟩ N hN
  have q4 : ρ 4 = .slice (some ⟨w3.heap.size, 0, none⟩) z z := by rw [hf 4 rfl]; simp (disch := omega) only [EO, ↓EP, EQ, EM, ↓reduceIte, Int.reduceAdd, Int.reduceEq, Int.reduceLE, Int.reduceLT, Int.reduceMul, Int.reduceNeg, Int.reducePow, Int.reduceSub, Int.reduceToNat, Nat.reduceAdd, Nat.reduceEqDiff, Nat.reduceLT, Nat.reduceLeDiff, Nat.reduceMul, reduceCtorEq, eq1]
  have q6 : ρ 6 = .int .i64 s := by rw [hf 6 rfl]; simp (disch := omega) only [EO, ↓EP, EQ, EM, ↓reduceIte, Int.reduceAdd, Int.reduceEq, Int.reduceLE, Int.reduceLT, Int.reduceMul, Int.reduceNeg, Int.reducePow, Int.reduceSub, Int.reduceToNat, Nat.reduceAdd, Nat.reduceEqDiff, Nat.reduceLT, Nat.reduceLeDiff, Nat.reduceMul, reduceCtorEq]
  have q7 : ρ 7 = .slice (some ⟨ub, 0, none⟩) (x + 1) (x + 1) := by rw [hf 7 rfl]; simp (disch := omega) only [EO, ↓EP, EQ, EM, ↓reduceIte, Int.reduceAdd, Int.reduceEq, Int.reduceLE, Int.reduceLT, Int.reduceMul, Int.reduceNeg, Int.reducePow, Int.reduceSub, Int.reduceToNat, Nat.reduceAdd, Nat.reduceEqDiff, Nat.reduceLT, Nat.reduceLeDiff, Nat.reduceMul, reduceCtorEq]
  have q8 : ρ 8 = .slice (some ⟨vb, 0, none⟩) yy (yy + 1) := by rw [hf 8 rfl]; simp (disch := omega) only [EO, ↓EP, EQ, EM, ↓reduceIte, Int.reduceAdd, Int.reduceEq, Int.reduceLE, Int.reduceLT, Int.reduceMul, Int.reduceNeg, Int.reducePow, Int.reduceSub, Int.reduceToNat, Nat.reduceAdd, Nat.reduceEqDiff, Nat.reduceLT, Nat.reduceLeDiff, Nat.reduceMul, reduceCtorEq]
  have q9 : ρ 9 = .int .i64 yy := by rw [hf 9 rfl]; simp (disch := omega) only [EO, ↓EP, EQ, EM, ↓reduceIte, Int.reduceAdd, Int.reduceEq, Int.reduceLE, Int.reduceLT, Int.reduceMul, Int.reduceNeg, Int.reducePow, Int.reduceSub, Int.reduceToNat, Nat.reduceAdd, Nat.reduceEqDiff, Nat.reduceLT, Nat.reduceLeDiff, Nat.reduceMul, reduceCtorEq]
  clear hf
  cases t with
  | succ k =>
    have h10' : ρ 10 = .int .i64 k := by rw [h10]; congr 1; omega
    obtain ⟨hpost, hwin, hWV, hsplit⟩ := val_win (V := V) hus (show k + yy ≤ x by omega) hU hVlt hdr
    have hwl : ((us.drop k).take (yy + 1)).length = j + 3 := by simp; omega
    have hWL : Lim ((us.drop k).take (yy + 1)) := (hU.drop k).take _
    obtain ⟨hg1, hg2⟩ := guess_known (j := j) hwl hWL hVlen VL nl' (by rw [hwin, hvV]; exact hWV)
    have cv1 := P5.bv.numN (j := j + 1) (by omega)
    have cv0 := P5.bv.numN (j := j) (by omega)
    have ev1 : at' o2 (j + 1 : Nat) = at' (limbs V) (j + 1 : Nat) := by rw [← hcut, at_take (by omega)]
    have ev0 : at' o2 (j : Nat) = at' (limbs V) (j : Nat) := by rw [← hcut, at_take (by omega)]
    rw [ev1] at cv1
    rw [ev0] at cv0
    have ey1 : (yy : Int) - 1 = ((j + 1 : Nat) : Int) := by omega
    have ey2 : (yy : Int) - 2 = ((j : Nat) : Int) := by omega
    have ek : ((k : Int) + (yy : Int) + 1).toNat = (k + j) + 3 := by omega
    have ek2 : (k + j) + 3 - k = yy + 1 := by omega
    have eus : us.take ((k + j) + 3) = us.take k ++ (us.drop k).take (yy + 1) := by rw [← List.take_add]; congr 1; omega
    have eat : ∀ i : Nat, i < yy + 1 → at' (us.take ((k + j) + 3)) (k + i : Nat) = at' ((us.drop k).take (yy + 1)) i := fun i hi => by
      rw [at_take (by omega), at_take (by omega), at_drop]
    have b1 := VL.at (j + 1 : Nat)
    have b0 := VL.at (j : Nat)
    have ru : Rd w5 (some ⟨ub, 0, none⟩) (nums .u32 (us.take ((k + j) + 3))) := (blk_rd P5.bu).take _
    simp (disch := omega) only [wu64, wu32, wu8, fdiv_nn, EO, ↓EP, EQ, EM, ↓reduceIte, Int.reduceAdd, Int.reduceEq, Int.reduceLE, Int.reduceLT, Int.reduceMul, Int.reduceNeg, Int.reducePow, Int.reduceSub, Int.reduceToNat, Nat.reduceAdd, Nat.reduceEqDiff, Nat.reduceLT, Nat.reduceLeDiff, Nat.reduceMul, reduceCtorEq, h10', q7, q8, q9, ey1, ey2, cv1, cv0, ek]
    intro m1
    refine guess_spec (m := k + j) (u := us.take ((k + j) + 3)) (by simp; omega) (ru.nb (Fr.drewN w5 _ nob)) (hU.take _) (by omega) ⟨nl', b1.2⟩ b0 ?_ _ fun q n1 q0 q1' hle hall => ?_
    · have := eat (j + 2) (by omega)
      rw [show k + (j + 2) = k + j + 2 by omega] at this
      rw [this]; exact hg1
    have e2 := eat (j + 2) (by omega)
    have e1 := eat (j + 1) (by omega)
    have e0 := eat j (by omega)
    rw [show k + (j + 2) = k + j + 2 by omega] at e2
    rw [show k + (j + 1) = k + j + 1 by omega] at e1
    rw [e2, e1, e0] at hle hall
    obtain ⟨hlo, hhi⟩ := hg2 q q0 q1' hle hall
    simp (disch := omega) only [wu64, wu32, wu8, fdiv_nn, EO, ↓EP, EQ, EM, ↓reduceIte, Int.reduceAdd, Int.reduceEq, Int.reduceLE, Int.reduceLT, Int.reduceMul, Int.reduceNeg, Int.reducePow, Int.reduceSub, Int.reduceToNat, Nat.reduceAdd, Nat.reduceEqDiff, Nat.reduceLT, Nat.reduceLeDiff, Nat.reduceMul, reduceCtorEq, h10', q7, q8, q9, ek]
    intro m2
    have hlo' : (q - 1) * val (limbs V) ≤ val ((us.drop k).take (yy + 1)) := hlo
    rw [hvV] at hhi
    simp (disch := omega) only [wu64, wu32, wu8, fdiv_nn, EO, ↓EP, EQ, EM, ↓reduceIte, Int.reduceAdd, Int.reduceEq, Int.reduceLE, Int.reduceLT, Int.reduceMul, Int.reduceNeg, Int.reducePow, Int.reduceSub, Int.reduceToNat, Nat.reduceAdd, Nat.reduceEqDiff, Nat.reduceLT, Nat.reduceLeDiff, Nat.reduceMul, reduceCtorEq, W_join, h10', q7, q8, q9, ek, ek2, subA_lit (show x + 1 ≠ k by omega)]
    have P6 := P5.nb (Fr.drewN w5 (1 + m1 + n1 + m2) nob)
    have ro : RO .u32 w5 (some ⟨vb, 0, none⟩) (limbs V) (fun b => b = ub) := by rw [← hcut]; exact blk_ro P5.bv (by omega)
    refine takes_spec (pre := us.take k) (win := (us.drop k).take (yy + 1)) (post := us.drop (k + (yy + 1))) (o := k) (m := yy) (by rw [← three us k (yy + 1)]; exact P6.bu) (by simp; omega) (by omega) (by omega) (ro.fr (Fr.drewN w5 _ _)) hWL VL (by omega) ⟨q0, q1'⟩ hlo' _ (fun win' w7 B7 hl7 L7 f7 hv7 => ?_) (fun win' w7 B7 hl7 L7 f7 hv7 hlt7 => ?_)
    · rw [hvV] at hv7
      have P7 : PD w w7 ub vb w3.heap.size (us.take k ++ win' ++ us.drop (k + (yy + 1))) o2 qs := ⟨B7, P6.bv.fr f7 (by omega), P6.bq.fr f7 (by omega), P6.fr.own f7 fun b e => by omega⟩
      obtain ⟨d1, d2, d3⟩ := div_step (dg := q) hus (show k + yy ≤ x by omega) hl7 hpost hwin hsplit hv hv7 (by omega)
      simp (disch := omega) only [wu64, wu32, wu8, fdiv_nn, EO, ↓EP, EQ, EM, ↓reduceIte, Int.reduceAdd, Int.reduceEq, Int.reduceLE, Int.reduceLT, Int.reduceMul, Int.reduceNeg, Int.reducePow, Int.reduceSub, Int.reduceToNat, Nat.reduceAdd, Nat.reduceEqDiff, Nat.reduceLT, Nat.reduceLeDiff, Nat.reduceMul, reduceCtorEq, q4, h10']
      refine st_num P7.bq (by omega) fun w8 p8 => ?_
      simp (disch := omega) only [wu64, wu32, wu8, fdiv_nn, EO, ↓EP, EQ, EM, ↓reduceIte, Int.reduceAdd, Int.reduceEq, Int.reduceLE, Int.reduceLT, Int.reduceMul, Int.reduceNeg, Int.reducePow, Int.reduceSub, Int.reduceToNat, Nat.reduceAdd, Nat.reduceEqDiff, Nat.reduceLT, Nat.reduceLeDiff, Nat.reduceMul, reduceCtorEq, h10']
      refine hN k _ _ (by omega) ⟨_, _, by simp (disch := omega) only [wu64, wu32, wu8, fdiv_nn, EO, ↓EP, EQ, EM, ↓reduceIte, Int.reduceAdd, Int.reduceEq, Int.reduceLE, Int.reduceLT, Int.reduceMul, Int.reduceNeg, Int.reducePow, Int.reduceSub, Int.reduceToNat, Nat.reduceAdd, Nat.reduceEqDiff, Nat.reduceLT, Nat.reduceLeDiff, Nat.reduceMul, reduceCtorEq], by omega, ⟨p8.keep (by omega) P7.bu, p8.keep (by omega) P7.bv, p8.blk, P7.fr.own p8.fr fun b e => by omega⟩, d1, ((hU.take _).app L7).app (hU.drop _), by simpa using hqs, hQ.set _ q0 q1', d2, ?_⟩
      rw [d3, hv7]
      have : (q + 1) * V = q * V + V := by grind
      omega
    · rw [hvV] at hv7 hlt7
      have P7 : PD w w7 ub vb w3.heap.size (us.take k ++ win' ++ us.drop (k + (yy + 1))) o2 qs := ⟨B7, P6.bv.fr f7 (by omega), P6.bq.fr f7 (by omega), P6.fr.own f7 fun b e => by omega⟩
      obtain ⟨d1, d2, d3⟩ := div_step (dg := q - 1) hus (show k + yy ≤ x by omega) hl7 hpost hwin hsplit hv hv7 (by omega)
      have hq1 : 1 ≤ q := by
        by_cases h : 1 ≤ q
        · exact h
        · exfalso
          have hq0 : q = 0 := by omega
          subst hq0
          have := (val_bd hWL).1
          omega
      simp (disch := omega) only [wu64, wu32, wu8, fdiv_nn, EO, ↓EP, EQ, EM, ↓reduceIte, Int.reduceAdd, Int.reduceEq, Int.reduceLE, Int.reduceLT, Int.reduceMul, Int.reduceNeg, Int.reducePow, Int.reduceSub, Int.reduceToNat, Nat.reduceAdd, Nat.reduceEqDiff, Nat.reduceLT, Nat.reduceLeDiff, Nat.reduceMul, reduceCtorEq, q4, h10']
      refine st_num P7.bq (by omega) fun w8 p8 => ?_
      simp (disch := omega) only [wu64, wu32, wu8, fdiv_nn, EO, ↓EP, EQ, EM, ↓reduceIte, Int.reduceAdd, Int.reduceEq, Int.reduceLE, Int.reduceLT, Int.reduceMul, Int.reduceNeg, Int.reducePow, Int.reduceSub, Int.reduceToNat, Nat.reduceAdd, Nat.reduceEqDiff, Nat.reduceLT, Nat.reduceLeDiff, Nat.reduceMul, reduceCtorEq, h10']
      refine hN k _ _ (by omega) ⟨_, _, by simp (disch := omega) only [wu64, wu32, wu8, fdiv_nn, EO, ↓EP, EQ, EM, ↓reduceIte, Int.reduceAdd, Int.reduceEq, Int.reduceLE, Int.reduceLT, Int.reduceMul, Int.reduceNeg, Int.reducePow, Int.reduceSub, Int.reduceToNat, Nat.reduceAdd, Nat.reduceEqDiff, Nat.reduceLT, Nat.reduceLeDiff, Nat.reduceMul, reduceCtorEq], by omega, ⟨p8.keep (by omega) P7.bu, p8.keep (by omega) P7.bv, p8.blk, P7.fr.own p8.fr fun b e => by omega⟩, d1, ((hU.take _).app L7).app (hU.drop _), by simpa using hqs, hQ.set _ (by omega) (by omega), d2, ?_⟩
      rw [d3]
      exact hlt7
  | zero =>
    rw [List.drop_zero, pw_zero, Int.mul_one] at hv
    rw [List.drop_zero] at hdr
    rw [← hV] at hv hdr
    obtain ⟨hq, hu⟩ := div_end hv (val_bd hU).1 hdr
    have hr0 := Int.emod_nonneg (val l) (show val r ≠ 0 by omega)
    rw [hV] at hdr
    have hlow := low_zero hu hs32
    simp (disch := omega) only [EO, ↓EP, EQ, EM, ↓reduceIte, Int.reduceAdd, Int.reduceEq, Int.reduceLE, Int.reduceLT, Int.reduceMul, Int.reduceNeg, Int.reducePow, Int.reduceSub, Int.reduceToNat, Nat.reduceAdd, Nat.reduceEqDiff, Nat.reduceLT, Nat.reduceLeDiff, Nat.reduceMul, reduceCtorEq, h10, q9, Int.natCast_zero]
    refine al_k (nums .u32 (List.replicate yy 0)) (by rw [madeCells_list, nums_replicate]) fun w6 n6 => ?_
    have P6 := P5.nb (n6.fr nob)
    have bR := n6.blk
    have szr := P5.bq.lt
    simp (disch := omega) only [EO, ↓EP, EQ, EM, ↓reduceIte, Int.reduceAdd, Int.reduceEq, Int.reduceLE, Int.reduceLT, Int.reduceMul, Int.reduceNeg, Int.reducePow, Int.reduceSub, Int.reduceToNat, Nat.reduceAdd, Nat.reduceEqDiff, Nat.reduceLT, Nat.reduceLeDiff, Nat.reduceMul, reduceCtorEq, q9]
    refine loop_inv (fun t ρ2 w7 => ∃ (i : Nat) (rs : List Int), ρ2 102 = .int .i64 i ∧ i ≤ yy ∧ t = yy - i ∧ PD w w7 ub vb w3.heap.size us o2 qs ∧ Blk w7 w5.heap.size (nums .u32 rs) ∧ rs.length = yy ∧ Lim rs ∧ val (rs.take i) * 2 ^ s = val (us.take i) + (at' us i % 2 ^ s) * pw i) _
      ⟨0, List.replicate yy 0, by simp (disch := omega) only [EO, ↓EP, EQ, EM, ↓reduceIte, Int.reduceAdd, Int.reduceEq, Int.reduceLE, Int.reduceLT, Int.reduceMul, Int.reduceNeg, Int.reducePow, Int.reduceSub, Int.reduceToNat, Nat.reduceAdd, Nat.reduceEqDiff, Nat.reduceLT, Nat.reduceLeDiff, Nat.reduceMul, reduceCtorEq], by omega, rfl, P6, bR, by simp, Lim.zeros _, by simp [val_nil, hlow]⟩ ?_
    rintro t ρ2 w7 hf ⟨i, rs, h102, hi, rfl, P7, B7, hrs, hRs, hvr⟩ N2 hN2
    have p4 : ρ2 4 = .slice (some ⟨w3.heap.size, 0, none⟩) z z := by rw [hf 4 rfl]; simp (disch := omega) only [EO, ↓EP, EQ, EM, ↓reduceIte, Int.reduceAdd, Int.reduceEq, Int.reduceLE, Int.reduceLT, Int.reduceMul, Int.reduceNeg, Int.reducePow, Int.reduceSub, Int.reduceToNat, Nat.reduceAdd, Nat.reduceEqDiff, Nat.reduceLT, Nat.reduceLeDiff, Nat.reduceMul, reduceCtorEq, q4]
    have p5 : ρ2 5 = .slice (some ⟨w5.heap.size, 0, none⟩) yy yy := by rw [hf 5 rfl]; simp (disch := omega) only [EO, ↓EP, EQ, EM, ↓reduceIte, Int.reduceAdd, Int.reduceEq, Int.reduceLE, Int.reduceLT, Int.reduceMul, Int.reduceNeg, Int.reducePow, Int.reduceSub, Int.reduceToNat, Nat.reduceAdd, Nat.reduceEqDiff, Nat.reduceLT, Nat.reduceLeDiff, Nat.reduceMul, reduceCtorEq]
    have p6 : ρ2 6 = .int .i64 s := by rw [hf 6 rfl]; simp (disch := omega) only [EO, ↓EP, EQ, EM, ↓reduceIte, Int.reduceAdd, Int.reduceEq, Int.reduceLE, Int.reduceLT, Int.reduceMul, Int.reduceNeg, Int.reducePow, Int.reduceSub, Int.reduceToNat, Nat.reduceAdd, Nat.reduceEqDiff, Nat.reduceLT, Nat.reduceLeDiff, Nat.reduceMul, reduceCtorEq, q6]
    have p7 : ρ2 7 = .slice (some ⟨ub, 0, none⟩) (x + 1) (x + 1) := by rw [hf 7 rfl]; simp (disch := omega) only [EO, ↓EP, EQ, EM, ↓reduceIte, Int.reduceAdd, Int.reduceEq, Int.reduceLE, Int.reduceLT, Int.reduceMul, Int.reduceNeg, Int.reducePow, Int.reduceSub, Int.reduceToNat, Nat.reduceAdd, Nat.reduceEqDiff, Nat.reduceLT, Nat.reduceLeDiff, Nat.reduceMul, reduceCtorEq, q7]
    have p101 : ρ2 101 = .int .i64 yy := by rw [hf 101 rfl]; simp (disch := omega) only [EO, ↓EP, EQ, EM, ↓reduceIte, Int.reduceAdd, Int.reduceEq, Int.reduceLE, Int.reduceLT, Int.reduceMul, Int.reduceNeg, Int.reducePow, Int.reduceSub, Int.reduceToNat, Nat.reduceAdd, Nat.reduceEqDiff, Nat.reduceLT, Nat.reduceLeDiff, Nat.reduceMul, reduceCtorEq, q9]
    clear hf
    by_cases hiy : (i : Int) < (yy : Int)
    · have c1 := P7.bu.numN (j := i + 1) (by omega)
      have c0 := P7.bu.numN (j := i) (by omega)
      have b1 := hU.at (i + 1 : Nat)
      have b0 := hU.at (i : Nat)
      have eo := or_shl (a := at' us (i + 1 : Nat)) (b := at' us i) b1.1 b1.2 b0.1 b0.2
      obtain ⟨y1, ey, y0, y2, hy⟩ := shr_limb b0 b1 hs32
      have em : min s 64 = s := by omega
      have hpos : (0 : Int) ≤ at' us (i + 1 : Nat) * 4294967296 + at' us i := by omega
      simp (disch := omega) only [wu64, wu32, wu8, fdiv_nn, EO, ↓EP, EQ, EM, ↓reduceIte, Int.reduceAdd, Int.reduceEq, Int.reduceLE, Int.reduceLT, Int.reduceMul, Int.reduceNeg, Int.reducePow, Int.reduceSub, Int.reduceToNat, Nat.reduceAdd, Nat.reduceEqDiff, Nat.reduceLT, Nat.reduceLeDiff, Nat.reduceMul, reduceCtorEq, h102, p5, p6, p7, p101, c1, c0, eo, em, show ((i : Int) + 1).toNat = i + 1 by omega, wu32_mod, ey]
      intro m3
      refine st_num (B7.nb (Fr.drewN w7 _ nob)) (by omega) fun w8 p8 => ?_
      have P8 := P7.nb (Fr.drewN w7 m3 nob)
      simp (disch := omega) only [wu64, wu32, wu8, fdiv_nn, EO, ↓EP, EQ, EM, ↓reduceIte, Int.reduceAdd, Int.reduceEq, Int.reduceLE, Int.reduceLT, Int.reduceMul, Int.reduceNeg, Int.reducePow, Int.reduceSub, Int.reduceToNat, Nat.reduceAdd, Nat.reduceEqDiff, Nat.reduceLT, Nat.reduceLeDiff, Nat.reduceMul, reduceCtorEq, h102]
      refine hN2 (yy - (i + 1)) _ _ (by omega) ⟨i + 1, _, by simp (disch := omega) only [EO, ↓EP, EQ, EM, ↓reduceIte, Int.reduceAdd, Int.reduceEq, Int.reduceLE, Int.reduceLT, Int.reduceMul, Int.reduceNeg, Int.reducePow, Int.reduceSub, Int.reduceToNat, Nat.reduceAdd, Nat.reduceEqDiff, Nat.reduceLT, Nat.reduceLeDiff, Nat.reduceMul, reduceCtorEq, h102, Int.natCast_add], by omega, rfl, ⟨p8.keep (by omega) P8.bu, p8.keep (by omega) P8.bv, p8.keep (by omega) P8.bq, P8.fr.own p8.fr fun b e => by omega⟩, p8.blk, by simpa using hrs, hRs.set _ y0 y2, rest_step (by omega) hvr hy⟩
    · have hiy : i = yy := by omega
      subst hiy
      have hrest := rest_end (r := val l % val r) (by omega) hU hrs hvr hu (by omega)
      simp (disch := omega) only [EO, ↓EP, EQ, EM, ↓reduceIte, Int.reduceAdd, Int.reduceEq, Int.reduceLE, Int.reduceLT, Int.reduceMul, Int.reduceNeg, Int.reducePow, Int.reduceSub, Int.reduceToNat, Nat.reduceAdd, Nat.reduceEqDiff, Nat.reduceLT, Nat.reduceLeDiff, Nat.reduceMul, reduceCtorEq, h102, p4, p5, p101]
      refine cut_spec hqs (blk_rd P7.bq) hQ (Nat.le_refl _) (by omega) _ fun m8 hm8 he8 _ => ?_
      simp (disch := omega) only [EO, ↓EP, EQ, EM, ↓reduceIte, Int.reduceAdd, Int.reduceEq, Int.reduceLE, Int.reduceLT, Int.reduceMul, Int.reduceNeg, Int.reducePow, Int.reduceSub, Int.reduceToNat, Nat.reduceAdd, Nat.reduceEqDiff, Nat.reduceLT, Nat.reduceLeDiff, Nat.reduceMul, reduceCtorEq, p5]
      refine cut_spec hrs (blk_rd B7) hRs (Nat.le_refl _) (by omega) _ fun m9 hm9 he9 _ => ?_
      simp (disch := omega) only [EO, ↓EP, EQ, EM, ↓reduceIte, Int.reduceAdd, Int.reduceEq, Int.reduceLE, Int.reduceLT, Int.reduceMul, Int.reduceNeg, Int.reducePow, Int.reduceSub, Int.reduceToNat, Nat.reduceAdd, Nat.reduceEqDiff, Nat.reduceLT, Nat.reduceLeDiff, Nat.reduceMul, reduceCtorEq]
      refine hK _ _ _ (own_cut P7.bq (by omega) P7.fr hqs hm8 (by rw [he8, hq])) (own_cut B7 (by omega) P7.fr hrs hm9 (by rw [he9, hrest])) fun b e1 e2 => ?_
      have h1 : w3.heap.size = b := Option.some.inj e1
      have h2 : w5.heap.size = b := Option.some.inj e2
      omega
end Go.Proofs.Ytbgfebhhejlakaa.Spec
