/- Lists of bytes that are lent, all of them. -/
import Derived.Test.YtibccpfocbdmaaaDoorRe8
import Derived.Test.YtibccpfocbdmaaaDoorRefL
set_option linter.unusedVariables false
set_option linter.unusedSimpArgs false
namespace Go.Proofs.YtibccpfocbdmaaaDoor.Spec
open Go Go.RowKit Go.Proofs Go.Proofs.YtibccpfocbdmaaaDoor.Eng Go.Proofs.YtibccpfocbdmaaaDoor.Code
set_option maxRecDepth 100000
attribute [local irreducible] callK S.W opsW scrW one
attribute [local irreducible] dig

theorem dlen' {alg : Int} (a1 : 1 ≤ alg) (a4 : alg ≤ 4) (m : List Int) : (dig alg m).length = (sizeI alg).toNat := by
  have := out_len a1 a4 (last alg m)
  unfold dig
  rw [List.length_take]; omega
theorem Lnt.nb {k : IntKind} {w0 w w' : World} {v : Value} {l : List Int} {x y : Int} (h : Lnt k w0 w v l x y) (f : Fr w w' nob) : Lnt k w0 w' v l x y := h.fr f fun _ _ x => x
theorem Lnt.from {k : IntKind} {w0 w1 w : World} {v : Value} {l : List Int} {x y : Int} (h : Lnt k w1 w v l x y) (f : w0.heap.size ≤ w1.heap.size) : Lnt k w0 w v l x y := by
  obtain ⟨b, pad, rfl, hB, hb⟩ := h.ex
  exact ⟨b, pad, rfl, hB, by omega⟩
/-- Lists that are lent, each in a block of its own, apart from the block of the row of them. -/
structure Lnts (w0 w : World) (X : Value) (l : List (List Int)) (vs : List Value) : Prop where
  g : Gg 1 w0 w X vs.length vs
  len : vs.length = l.length
  each : ∀ (i : Nat) (p : List Int) (v : Value), l[i]? = some p → vs[i]? = some v → Lnt .u8 w0 w v p 90 165
  sep : ∀ (i : Nat) (v : Value) (b : Nat), vs[i]? = some v → blkOf v = some b → blkOf X ≠ some b ∧ b < w.heap.size
theorem Lnts.nil (w : World) : Lnts w w (.slice none 0 0) [] [] :=
  ⟨Gg.nil 1 w, rfl, fun i p v h => by simp at h, fun i v b h => by simp at h⟩
theorem Lnts.nb {w0 w w' : World} {X : Value} {l : List (List Int)} {vs : List Value} (h : Lnts w0 w X l vs) (f : Fr w w' nob) : Lnts w0 w' X l vs :=
  ⟨h.g.step f, h.len, fun i p v h1 h2 => (h.each i p v h1 h2).fr f fun _ _ x => x, fun i v b h1 h2 => ⟨(h.sep i v b h1 h2).1, Nat.lt_of_lt_of_le (h.sep i v b h1 h2).2 f.size⟩⟩
theorem Lnts.ll {w0 w : World} {A : Option Addr} {n c : Nat} {l : List (List Int)} {vs : List Value} (h : Lnts w0 w (.slice A n c) l vs) : n = l.length ∧ LL w A l vs := by
  obtain ⟨A', c', e, hc, hr⟩ := h.g.sl.read
  cases e
  refine ⟨h.len, hr, h.len, fun i p v h1 h2 => ?_⟩
  obtain ⟨b, c, rfl, hc, _, hr⟩ := (h.each i p v h1 h2).read
  exact ⟨_, c, rfl, by omega, hr⟩
/-- One more. -/
theorem Lnts.add {w0 w w' : World} {X X' v : Value} {l : List (List Int)} {p : List Int} {vs : List Value} (h : Lnts w0 w X l vs) (hv : Lnt .u8 w0 w v p 90 165) (hs : ∀ b, blkOf v = some b → blkOf X ≠ some b) (a : Ag 1 w X (vs.length + 1) (vs ++ [v]) X' w') : Lnts w0 w' X' (l ++ [p]) (vs ++ [v]) := by
  have hvl : ∀ b, blkOf v = some b → b < w.heap.size := fun b e => by
    obtain ⟨b', pad, rfl, hB, _⟩ := hv.ex
    cases e; exact hB.lt
  have hX : ∀ b, b < w.heap.size → blkOf X ≠ some b → blkOf X' ≠ some b := fun b hb hn e => by
    rcases a.where_ with h | h
    · exact hn (h ▸ e)
    · have := h b e; omega
  refine ⟨?_, by simp [h.len], fun i q u h1 h2 => ?_, fun i u b h1 h2 => ?_⟩
  · rw [List.length_append]; exact h.g.apd a
  · by_cases hi : i < l.length
    · rw [List.getElem?_append_left hi] at h1
      rw [List.getElem?_append_left (by rw [h.len]; exact hi)] at h2
      exact (h.each i q u h1 h2).fr a.fr fun b e => (h.sep i u b h2 e).1
    · have hi' : i = l.length := by
        have := (List.getElem?_eq_some_iff.1 h1).1
        simp at this; omega
      subst hi'
      rw [List.getElem?_append_right (Nat.le_refl _)] at h1
      rw [List.getElem?_append_right (by rw [h.len]; exact Nat.le_refl _), h.len] at h2
      simp at h1 h2
      subst h1; subst h2
      exact hv.fr a.fr fun b e => hs b e
  · have hsz := a.fr.size
    by_cases hi : i < vs.length
    · rw [List.getElem?_append_left hi] at h1
      have := h.sep i u b h1 h2
      exact ⟨hX b this.2 this.1, by omega⟩
    · rw [List.getElem?_append_right (by omega)] at h1
      have h1' : u = v := by
        have := List.mem_of_getElem? h1
        simpa using this
      subst h1'
      have := hvl b h2
      exact ⟨hX b this (hs b h2), by omega⟩

set_option maxHeartbeats 2000000 in
theorem sums_spec {w : World} (hT : Tb w) (alg : Int) {A : Option Addr} {n c : Nat} {l : List (List Int)} {hs : List Value} (hl : LL w A l hs) (hn : l.length = n) (h63 : n ≤ 9223372036854775807) (hb : ∀ p ∈ l, ∀ x ∈ p, 0 ≤ x ∧ x < 256) (K : Value → World → Prop)
    (hK : ∀ w', Fr w w' nob → K (.bool true) w') : callK Tryd.prog 3 [.int .i64 alg, .slice A n c] w K := by
  refine call_of Tryd.func3 Code.h3 (by simp [Code.c3]) ?_
  simp (disch := omega) only [EO, ↓EP, EQ, EM, ↓reduceIte, Int.reduceAdd, Int.reduceEq, Int.reduceLE, Int.reduceLT, Int.reduceMul, Int.reduceNeg, Int.reducePow, Int.reduceSub, Int.reduceToNat, Nat.reduceAdd, Nat.reduceEqDiff, Nat.reduceLT, Nat.reduceLeDiff, Nat.reduceMul, reduceCtorEq, Code.c3]
  refine much_spec hl hn h63 65536 (by omega) _ (fun ht h1000 => ?_) ?_
  rotate_left
  · simp (disch := omega) only [EO, ↓EP, EQ, EM, ↓reduceIte, Int.reduceAdd, Int.reduceEq, Int.reduceLE, Int.reduceLT, Int.reduceMul, Int.reduceNeg, Int.reducePow, Int.reduceSub, Int.reduceToNat, Nat.reduceAdd, Nat.reduceEqDiff, Nat.reduceLT, Nat.reduceLeDiff, Nat.reduceMul, reduceCtorEq]
    refine live_spec hT _ fun w1 f1 => ?_
    simp (disch := omega) only [EO, ↓EP, EQ, EM, ↓reduceIte, Int.reduceAdd, Int.reduceEq, Int.reduceLE, Int.reduceLT, Int.reduceMul, Int.reduceNeg, Int.reducePow, Int.reduceSub, Int.reduceToNat, Nat.reduceAdd, Nat.reduceEqDiff, Nat.reduceLT, Nat.reduceLeDiff, Nat.reduceMul, reduceCtorEq]
    exact hK w1 f1
  subst hn
  simp (disch := omega) only [EO, ↓EP, EQ, EM, ↓reduceIte, Int.reduceAdd, Int.reduceEq, Int.reduceLE, Int.reduceLT, Int.reduceMul, Int.reduceNeg, Int.reducePow, Int.reduceSub, Int.reduceToNat, Nat.reduceAdd, Nat.reduceEqDiff, Nat.reduceLT, Nat.reduceLeDiff, Nat.reduceMul, reduceCtorEq]
  refine loop_inv (fun t ρ w' => ∃ (k : Nat) (X : Value) (vs : List Value), ρ 6 = .int .i64 k ∧ ρ 5 = X ∧ k ≤ l.length ∧ t = l.length - k ∧ Lnts w w' X (l.take k) vs) l.length ⟨0, .slice none 0 0, [], by simp (disch := omega) only [EO, ↓EP, EQ, EM, ↓reduceIte, Int.reduceAdd, Int.reduceEq, Int.reduceLE, Int.reduceLT, Int.reduceMul, Int.reduceNeg, Int.reducePow, Int.reduceSub, Int.reduceToNat, Nat.reduceAdd, Nat.reduceEqDiff, Nat.reduceLT, Nat.reduceLeDiff, Nat.reduceMul, reduceCtorEq], by simp (disch := omega) only [EO, ↓EP, EQ, EM, ↓reduceIte, Int.reduceAdd, Int.reduceEq, Int.reduceLE, Int.reduceLT, Int.reduceMul, Int.reduceNeg, Int.reducePow, Int.reduceSub, Int.reduceToNat, Nat.reduceAdd, Nat.reduceEqDiff, Nat.reduceLT, Nat.reduceLeDiff, Nat.reduceMul, reduceCtorEq], by omega, rfl, Lnts.nil w⟩ ?_
  rintro t ρ w1 hf ⟨k, X, vs, h6, h5, hk, rfl, L⟩ N hN
  have r0 : ρ 0 = .int .i64 alg := by rw [hf 0 rfl]; simp (disch := omega) only [EO, ↓EP, EQ, EM, ↓reduceIte, Int.reduceAdd, Int.reduceEq, Int.reduceLE, Int.reduceLT, Int.reduceMul, Int.reduceNeg, Int.reducePow, Int.reduceSub, Int.reduceToNat, Nat.reduceAdd, Nat.reduceEqDiff, Nat.reduceLT, Nat.reduceLeDiff, Nat.reduceMul, reduceCtorEq]
  have r1 : ρ 1 = .slice A l.length c := by rw [hf 1 rfl]; simp (disch := omega) only [EO, ↓EP, EQ, EM, ↓reduceIte, Int.reduceAdd, Int.reduceEq, Int.reduceLE, Int.reduceLT, Int.reduceMul, Int.reduceNeg, Int.reducePow, Int.reduceSub, Int.reduceToNat, Nat.reduceAdd, Nat.reduceEqDiff, Nat.reduceLT, Nat.reduceLeDiff, Nat.reduceMul, reduceCtorEq]
  clear hf
  have hlen : vs.length = k := by rw [L.len]; simp; omega
  by_cases hkl : (k : Int) < (l.length : Int)
  · obtain ⟨ad, p, B, c', rfl, hp, hcell, hpc, hpr⟩ := (hl.fr L.g.fr).at (k := k) (by omega)
    have hpt : p.length ≤ 65536 := by
      have := total_succ hp
      have := total_take l (k + 1)
      omega
    simp (disch := omega) only [EO, ↓EP, EQ, EM, ↓reduceIte, Int.reduceAdd, Int.reduceEq, Int.reduceLE, Int.reduceLT, Int.reduceMul, Int.reduceNeg, Int.reducePow, Int.reduceSub, Int.reduceToNat, Nat.reduceAdd, Nat.reduceEqDiff, Nat.reduceLT, Nat.reduceLeDiff, Nat.reduceMul, reduceCtorEq, h5, h6, r0, r1, hcell]
    refine lent_spec rfl hpr (by omega) _ fun v w2 hv f2 => ?_
    have L2 := L.nb f2
    have hv' := hv.from L.g.fr.size
    obtain ⟨b, pad, rfl, hB, hbb⟩ := hv.ex
    simp (disch := omega) only [EO, ↓EP, EQ, EM, ↓reduceIte, Int.reduceAdd, Int.reduceEq, Int.reduceLE, Int.reduceLT, Int.reduceMul, Int.reduceNeg, Int.reducePow, Int.reduceSub, Int.reduceToNat, Nat.reduceAdd, Nat.reduceEqDiff, Nat.reduceLT, Nat.reduceLeDiff, Nat.reduceMul, reduceCtorEq, h5]
    refine bslS1 fun w3 n3 => ?_
    have L3 := L2.nb (n3.fr nob)
    have hv3 := hv'.fr (n3.fr nob) fun _ _ x => x
    simp (disch := omega) only [EO, ↓EP, EQ, EM, ↓reduceIte, Int.reduceAdd, Int.reduceEq, Int.reduceLE, Int.reduceLT, Int.reduceMul, Int.reduceNeg, Int.reducePow, Int.reduceSub, Int.reduceToNat, Nat.reduceAdd, Nat.reduceEqDiff, Nat.reduceLT, Nat.reduceLeDiff, Nat.reduceMul, reduceCtorEq, h5]
    refine app_g L3.g.sl rfl rfl (by simp [Value.oneCell']) n3.rdv (by omega) (by omega) (by omega) fun X' w4 a4 => ?_
    have L4 := L3.add (p := p) hv3 (fun b' e => by
      cases e
      intro e
      have := L.g.sl.lt e
      have e' : (⟨b, 0, none⟩ : Addr).block = b := rfl
      omega) a4
    simp (disch := omega) only [EO, ↓EP, EQ, EM, ↓reduceIte, Int.reduceAdd, Int.reduceEq, Int.reduceLE, Int.reduceLT, Int.reduceMul, Int.reduceNeg, Int.reducePow, Int.reduceSub, Int.reduceToNat, Nat.reduceAdd, Nat.reduceEqDiff, Nat.reduceLT, Nat.reduceLeDiff, Nat.reduceMul, reduceCtorEq, h6]
    refine hN (l.length - (k + 1)) _ _ (by omega) ⟨k + 1, X', vs ++ [.slice (some ⟨b, 0, none⟩) p.length (p.length + (2 + pad.length))], by simp (disch := omega) only [EO, ↓EP, EQ, EM, ↓reduceIte, Int.reduceAdd, Int.reduceEq, Int.reduceLE, Int.reduceLT, Int.reduceMul, Int.reduceNeg, Int.reducePow, Int.reduceSub, Int.reduceToNat, Nat.reduceAdd, Nat.reduceEqDiff, Nat.reduceLT, Nat.reduceLeDiff, Nat.reduceMul, reduceCtorEq, h6, Int.natCast_add], by simp (disch := omega) only [EO, ↓EP, EQ, EM, ↓reduceIte, Int.reduceAdd, Int.reduceEq, Int.reduceLE, Int.reduceLT, Int.reduceMul, Int.reduceNeg, Int.reducePow, Int.reduceSub, Int.reduceToNat, Nat.reduceAdd, Nat.reduceEqDiff, Nat.reduceLT, Nat.reduceLeDiff, Nat.reduceMul, reduceCtorEq], by omega, rfl, ?_⟩
    rw [List.take_add_one, hp]
    exact L4
  have hkl' : k = l.length := by omega
  subst hkl'
  rw [List.take_length] at L
  obtain ⟨XA, xc, rfl, hxc, _⟩ := L.g.sl.read
  obtain ⟨e1, LL1⟩ := L.ll
  rw [hlen] at h5
  simp (disch := omega) only [EO, ↓EP, EQ, EM, ↓reduceIte, Int.reduceAdd, Int.reduceEq, Int.reduceLE, Int.reduceLT, Int.reduceMul, Int.reduceNeg, Int.reducePow, Int.reduceSub, Int.reduceToNat, Nat.reduceAdd, Nat.reduceEqDiff, Nat.reduceLT, Nat.reduceLeDiff, Nat.reduceMul, reduceCtorEq, h5, h6, r0, r1]
  clear hN
  have T1 := hT.nb L.g.fr
  have hl1 := hl.fr L.g.fr
  refine dsum_spec alg LL1 T1 (by omega) (by omega) _ (fun a1 a4 B2 c2 w2 hc2 s2 u2 f2 => ?_) (fun ha w2 f2 => ?_)
  · obtain ⟨z1, z2⟩ := size_valid' a1 a4
    have dl := dlen' a1 a4 l.flatten
    generalize hD : dig alg l.flatten = D at s2 dl
    have s2 := s2
    obtain ⟨S, hS⟩ : ∃ S : Nat, sizeI alg = S := ⟨(sizeI alg).toNat, by omega⟩
    simp only [hS, Int.toNat_natCast] at s2 hc2 u2 dl ⊢
    simp (disch := omega) only [EO, ↓EP, EQ, EM, ↓reduceIte, Int.reduceAdd, Int.reduceEq, Int.reduceLE, Int.reduceLT, Int.reduceMul, Int.reduceNeg, Int.reducePow, Int.reduceSub, Int.reduceToNat, Nat.reduceAdd, Nat.reduceEqDiff, Nat.reduceLT, Nat.reduceLeDiff, Nat.reduceMul, reduceCtorEq, r0, r1]
    refine rsum_spec alg (hl1.fr f2) rfl (by omega) (by omega) hb _ (fun _ _ v3 w3 g3 => ?_) (fun ha => by omega)
    rw [hD] at g3
    obtain ⟨A3, c3, rfl, hc3, hR3⟩ := readn g3.sl dl
    have s3 := s2.nb g3.fr
    have L3 := (L.nb f2).nb g3.fr
    have T3 := (T1.nb f2).nb g3.fr
    have f03 := (L.g.fr.nb f2).nb g3.fr
    simp (disch := omega) only [EO, ↓EP, EQ, EM, ↓reduceIte, Int.reduceAdd, Int.reduceEq, Int.reduceLE, Int.reduceLT, Int.reduceMul, Int.reduceNeg, Int.reducePow, Int.reduceSub, Int.reduceToNat, Nat.reduceAdd, Nat.reduceEqDiff, Nat.reduceLT, Nat.reduceLeDiff, Nat.reduceMul, reduceCtorEq, r1]
    refine loop_inv (fun t ρ w' => ∃ k : Nat, ρ 11 = .int .i64 k ∧ k ≤ l.length ∧ t = l.length - k ∧ Fr w3 w' nob) l.length ⟨0, by simp (disch := omega) only [EO, ↓EP, EQ, EM, ↓reduceIte, Int.reduceAdd, Int.reduceEq, Int.reduceLE, Int.reduceLT, Int.reduceMul, Int.reduceNeg, Int.reducePow, Int.reduceSub, Int.reduceToNat, Nat.reduceAdd, Nat.reduceEqDiff, Nat.reduceLT, Nat.reduceLeDiff, Nat.reduceMul, reduceCtorEq], by omega, rfl, Fr.refl _ _⟩ ?_
    rintro t ρ4 w4 hf ⟨k, h11, hk, rfl, f4⟩ N hN
    have q0 : ρ4 0 = .int .i64 alg := by rw [hf 0 rfl]; simp (disch := omega) only [EO, ↓EP, EQ, EM, ↓reduceIte, Int.reduceAdd, Int.reduceEq, Int.reduceLE, Int.reduceLT, Int.reduceMul, Int.reduceNeg, Int.reducePow, Int.reduceSub, Int.reduceToNat, Nat.reduceAdd, Nat.reduceEqDiff, Nat.reduceLT, Nat.reduceLeDiff, Nat.reduceMul, reduceCtorEq, r0]
    have q1 : ρ4 1 = .slice A l.length c := by rw [hf 1 rfl]; simp (disch := omega) only [EO, ↓EP, EQ, EM, ↓reduceIte, Int.reduceAdd, Int.reduceEq, Int.reduceLE, Int.reduceLT, Int.reduceMul, Int.reduceNeg, Int.reducePow, Int.reduceSub, Int.reduceToNat, Nat.reduceAdd, Nat.reduceEqDiff, Nat.reduceLT, Nat.reduceLeDiff, Nat.reduceMul, reduceCtorEq, r1]
    have q5 : ρ4 5 = .slice XA l.length xc := by rw [hf 5 rfl]; simp (disch := omega) only [EO, ↓EP, EQ, EM, ↓reduceIte, Int.reduceAdd, Int.reduceEq, Int.reduceLE, Int.reduceLT, Int.reduceMul, Int.reduceNeg, Int.reducePow, Int.reduceSub, Int.reduceToNat, Nat.reduceAdd, Nat.reduceEqDiff, Nat.reduceLT, Nat.reduceLeDiff, Nat.reduceMul, reduceCtorEq, h5]
    have q7 : ρ4 7 = .slice B2 S c2 := by rw [hf 7 rfl]; simp (disch := omega) only [EO, ↓EP, EQ, EM, ↓reduceIte, Int.reduceAdd, Int.reduceEq, Int.reduceLE, Int.reduceLT, Int.reduceMul, Int.reduceNeg, Int.reducePow, Int.reduceSub, Int.reduceToNat, Nat.reduceAdd, Nat.reduceEqDiff, Nat.reduceLT, Nat.reduceLeDiff, Nat.reduceMul, reduceCtorEq]
    have q8 : ρ4 8 = .int .i64 0 := by rw [hf 8 rfl]; simp (disch := omega) only [EO, ↓EP, EQ, EM, ↓reduceIte, Int.reduceAdd, Int.reduceEq, Int.reduceLE, Int.reduceLT, Int.reduceMul, Int.reduceNeg, Int.reducePow, Int.reduceSub, Int.reduceToNat, Nat.reduceAdd, Nat.reduceEqDiff, Nat.reduceLT, Nat.reduceLeDiff, Nat.reduceMul, reduceCtorEq]
    have q9 : ρ4 9 = .slice A3 S c3 := by rw [hf 9 rfl]; simp (disch := omega) only [EO, ↓EP, EQ, EM, ↓reduceIte, Int.reduceAdd, Int.reduceEq, Int.reduceLE, Int.reduceLT, Int.reduceMul, Int.reduceNeg, Int.reducePow, Int.reduceSub, Int.reduceToNat, Nat.reduceAdd, Nat.reduceEqDiff, Nat.reduceLT, Nat.reduceLeDiff, Nat.reduceMul, reduceCtorEq]
    have q10 : ρ4 10 = .int .i64 0 := by rw [hf 10 rfl]; simp (disch := omega) only [EO, ↓EP, EQ, EM, ↓reduceIte, Int.reduceAdd, Int.reduceEq, Int.reduceLE, Int.reduceLT, Int.reduceMul, Int.reduceNeg, Int.reducePow, Int.reduceSub, Int.reduceToNat, Nat.reduceAdd, Nat.reduceEqDiff, Nat.reduceLT, Nat.reduceLeDiff, Nat.reduceMul, reduceCtorEq]
    clear hf
    by_cases hkl : (k : Int) < (l.length : Int)
    · obtain ⟨ad, p, B, c', rfl, hp, hcell, hpc, hpr⟩ := (hl.fr (f03.nb f4)).at (k := k) (by omega)
      have hpt : p.length ≤ 65536 := by
        have := total_succ hp
        have := total_take l (k + 1)
        omega
      have L4 := L3.nb f4
      have hk' : k < vs.length := by omega
      have hvk : vs[k]? = some vs[k] := List.getElem?_eq_getElem hk'
      generalize vs[k] = u at hvk
      have hu := L4.each k p u hp hvk
      obtain ⟨xa, exa, hcx⟩ := (L4.ll.2.rd).at hvk
      subst exa
      obtain ⟨b, pad, rfl, hB, hbb⟩ := hu.ex
      simp (disch := omega) only [EO, ↓EP, EQ, EM, ↓reduceIte, Int.reduceAdd, Int.reduceEq, Int.reduceLE, Int.reduceLT, Int.reduceMul, Int.reduceNeg, Int.reducePow, Int.reduceSub, Int.reduceToNat, Nat.reduceAdd, Nat.reduceEqDiff, Nat.reduceLT, Nat.reduceLeDiff, Nat.reduceMul, reduceCtorEq, h11, q1, q5, hcell, hcx]
      intro m1
      refine kept_spec (hu.nb (Fr.drewN w4 _ nob)) rfl (hpr.nb (Fr.drewN w4 _ nob)) (by omega) _ fun w5 f5 => ?_
      simp (disch := omega) only [EO, ↓EP, EQ, EM, ↓reduceIte, Int.reduceAdd, Int.reduceEq, Int.reduceLE, Int.reduceLT, Int.reduceMul, Int.reduceNeg, Int.reducePow, Int.reduceSub, Int.reduceToNat, Nat.reduceAdd, Nat.reduceEqDiff, Nat.reduceLT, Nat.reduceLeDiff, Nat.reduceMul, reduceCtorEq]
      intro m2
      simp (disch := omega) only [EO, ↓EP, EQ, EM, ↓reduceIte, Int.reduceAdd, Int.reduceEq, Int.reduceLE, Int.reduceLT, Int.reduceMul, Int.reduceNeg, Int.reducePow, Int.reduceSub, Int.reduceToNat, Nat.reduceAdd, Nat.reduceEqDiff, Nat.reduceLT, Nat.reduceLeDiff, Nat.reduceMul, reduceCtorEq, h11]
      refine hN (l.length - (k + 1)) _ _ (by omega) ⟨k + 1, by simp (disch := omega) only [EO, ↓EP, EQ, EM, ↓reduceIte, Int.reduceAdd, Int.reduceEq, Int.reduceLE, Int.reduceLT, Int.reduceMul, Int.reduceNeg, Int.reducePow, Int.reduceSub, Int.reduceToNat, Nat.reduceAdd, Nat.reduceEqDiff, Nat.reduceLT, Nat.reduceLeDiff, Nat.reduceMul, reduceCtorEq, h11, Int.natCast_add], by omega, rfl, ?_⟩
      exact f4.nb (((Fr.drewN w4 (1 + m1) nob).nb f5).nb (Fr.drewN w5 m2 nob))
    · have hkl' : k = l.length := by omega
      subst hkl'
      clear hN
      have f04 := f03.nb f4
      simp (disch := omega) only [EO, ↓EP, EQ, EM, ↓reduceIte, Int.reduceAdd, Int.reduceEq, Int.reduceLE, Int.reduceLT, Int.reduceMul, Int.reduceNeg, Int.reducePow, Int.reduceSub, Int.reduceToNat, Nat.reduceAdd, Nat.reduceEqDiff, Nat.reduceLT, Nat.reduceLeDiff, Nat.reduceMul, reduceCtorEq, h11, q0, q1, q5, q7, q8, q9, q10]
      refine same_t dl dl (s3.nb f4).rdOf (g3.sl.nb f4).rdOf (by omega) _ fun w5 f5 => ?_
      simp (disch := omega) only [EO, ↓EP, EQ, EM, ↓reduceIte, Int.reduceAdd, Int.reduceEq, Int.reduceLE, Int.reduceLT, Int.reduceMul, Int.reduceNeg, Int.reducePow, Int.reduceSub, Int.reduceToNat, Nat.reduceAdd, Nat.reduceEqDiff, Nat.reduceLT, Nat.reduceLeDiff, Nat.reduceMul, reduceCtorEq, q0, q8, q10]
      refine num_spec 0 _ _ ?_
      simp (disch := omega) only [EO, ↓EP, EQ, EM, ↓reduceIte, Int.reduceAdd, Int.reduceEq, Int.reduceLE, Int.reduceLT, Int.reduceMul, Int.reduceNeg, Int.reducePow, Int.reduceSub, Int.reduceToNat, Nat.reduceAdd, Nat.reduceEqDiff, Nat.reduceLT, Nat.reduceLeDiff, Nat.reduceMul, reduceCtorEq, q0, q10]
      refine size_spec alg _ _ ?_
      simp (disch := omega) only [EO, ↓EP, EQ, EM, ↓reduceIte, Int.reduceAdd, Int.reduceEq, Int.reduceLE, Int.reduceLT, Int.reduceMul, Int.reduceNeg, Int.reducePow, Int.reduceSub, Int.reduceToNat, Nat.reduceAdd, Nat.reduceEqDiff, Nat.reduceLT, Nat.reduceLeDiff, Nat.reduceMul, reduceCtorEq, q0]
      refine rsize_spec alg _ _ ?_
      simp (disch := omega) only [EO, ↓EP, EQ, EM, ↓reduceIte, Int.reduceAdd, Int.reduceEq, Int.reduceLE, Int.reduceLT, Int.reduceMul, Int.reduceNeg, Int.reducePow, Int.reduceSub, Int.reduceToNat, Nat.reduceAdd, Nat.reduceEqDiff, Nat.reduceLT, Nat.reduceLeDiff, Nat.reduceMul, reduceCtorEq, q0]
      refine blocksz_spec alg _ _ ?_
      simp (disch := omega) only [EO, ↓EP, EQ, EM, ↓reduceIte, Int.reduceAdd, Int.reduceEq, Int.reduceLE, Int.reduceLT, Int.reduceMul, Int.reduceNeg, Int.reducePow, Int.reduceSub, Int.reduceToNat, Nat.reduceAdd, Nat.reduceEqDiff, Nat.reduceLT, Nat.reduceLeDiff, Nat.reduceMul, reduceCtorEq, q0]
      refine rblock_spec alg _ _ ?_
      simp (disch := omega) only [EO, ↓EP, EQ, EM, ↓reduceIte, Int.reduceAdd, Int.reduceEq, Int.reduceLE, Int.reduceLT, Int.reduceMul, Int.reduceNeg, Int.reducePow, Int.reduceSub, Int.reduceToNat, Nat.reduceAdd, Nat.reduceEqDiff, Nat.reduceLT, Nat.reduceLeDiff, Nat.reduceMul, reduceCtorEq]
      refine live_spec (hT.nb (f04.nb f5)) _ fun w6 f6 => ?_
      simp (disch := omega) only [EO, ↓EP, EQ, EM, ↓reduceIte, Int.reduceAdd, Int.reduceEq, Int.reduceLE, Int.reduceLT, Int.reduceMul, Int.reduceNeg, Int.reducePow, Int.reduceSub, Int.reduceToNat, Nat.reduceAdd, Nat.reduceEqDiff, Nat.reduceLT, Nat.reduceLeDiff, Nat.reduceMul, reduceCtorEq]
      exact hK w6 ((f04.nb f5).nb f6)
  · have hS := size_no' ha
    simp (disch := omega) only [EO, ↓EP, EQ, EM, ↓reduceIte, Int.reduceAdd, Int.reduceEq, Int.reduceLE, Int.reduceLT, Int.reduceMul, Int.reduceNeg, Int.reducePow, Int.reduceSub, Int.reduceToNat, Nat.reduceAdd, Nat.reduceEqDiff, Nat.reduceLT, Nat.reduceLeDiff, Nat.reduceMul, reduceCtorEq, r0, r1]
    refine rsum_spec alg (hl1.fr f2) rfl (by omega) (by omega) hb _ (fun a1 a4 => by omega) (fun _ => ?_)
    have L3 := L.nb f2
    have f03 := L.g.fr.nb f2
    simp (disch := omega) only [EO, ↓EP, EQ, EM, ↓reduceIte, Int.reduceAdd, Int.reduceEq, Int.reduceLE, Int.reduceLT, Int.reduceMul, Int.reduceNeg, Int.reducePow, Int.reduceSub, Int.reduceToNat, Nat.reduceAdd, Nat.reduceEqDiff, Nat.reduceLT, Nat.reduceLeDiff, Nat.reduceMul, reduceCtorEq, r1]
    refine loop_inv (fun t ρ w' => ∃ k : Nat, ρ 11 = .int .i64 k ∧ k ≤ l.length ∧ t = l.length - k ∧ Fr w2 w' nob) l.length ⟨0, by simp (disch := omega) only [EO, ↓EP, EQ, EM, ↓reduceIte, Int.reduceAdd, Int.reduceEq, Int.reduceLE, Int.reduceLT, Int.reduceMul, Int.reduceNeg, Int.reducePow, Int.reduceSub, Int.reduceToNat, Nat.reduceAdd, Nat.reduceEqDiff, Nat.reduceLT, Nat.reduceLeDiff, Nat.reduceMul, reduceCtorEq], by omega, rfl, Fr.refl _ _⟩ ?_
    rintro t ρ4 w4 hf ⟨k, h11, hk, rfl, f4⟩ N hN
    have q0 : ρ4 0 = .int .i64 alg := by rw [hf 0 rfl]; simp (disch := omega) only [EO, ↓EP, EQ, EM, ↓reduceIte, Int.reduceAdd, Int.reduceEq, Int.reduceLE, Int.reduceLT, Int.reduceMul, Int.reduceNeg, Int.reducePow, Int.reduceSub, Int.reduceToNat, Nat.reduceAdd, Nat.reduceEqDiff, Nat.reduceLT, Nat.reduceLeDiff, Nat.reduceMul, reduceCtorEq, r0]
    have q1 : ρ4 1 = .slice A l.length c := by rw [hf 1 rfl]; simp (disch := omega) only [EO, ↓EP, EQ, EM, ↓reduceIte, Int.reduceAdd, Int.reduceEq, Int.reduceLE, Int.reduceLT, Int.reduceMul, Int.reduceNeg, Int.reducePow, Int.reduceSub, Int.reduceToNat, Nat.reduceAdd, Nat.reduceEqDiff, Nat.reduceLT, Nat.reduceLeDiff, Nat.reduceMul, reduceCtorEq, r1]
    have q5 : ρ4 5 = .slice XA l.length xc := by rw [hf 5 rfl]; simp (disch := omega) only [EO, ↓EP, EQ, EM, ↓reduceIte, Int.reduceAdd, Int.reduceEq, Int.reduceLE, Int.reduceLT, Int.reduceMul, Int.reduceNeg, Int.reducePow, Int.reduceSub, Int.reduceToNat, Nat.reduceAdd, Nat.reduceEqDiff, Nat.reduceLT, Nat.reduceLeDiff, Nat.reduceMul, reduceCtorEq, h5]
    have q7 : ρ4 7 = .slice none 0 0 := by rw [hf 7 rfl]; simp (disch := omega) only [EO, ↓EP, EQ, EM, ↓reduceIte, Int.reduceAdd, Int.reduceEq, Int.reduceLE, Int.reduceLT, Int.reduceMul, Int.reduceNeg, Int.reducePow, Int.reduceSub, Int.reduceToNat, Nat.reduceAdd, Nat.reduceEqDiff, Nat.reduceLT, Nat.reduceLeDiff, Nat.reduceMul, reduceCtorEq]
    have q8 : ρ4 8 = .int .i64 1 := by rw [hf 8 rfl]; simp (disch := omega) only [EO, ↓EP, EQ, EM, ↓reduceIte, Int.reduceAdd, Int.reduceEq, Int.reduceLE, Int.reduceLT, Int.reduceMul, Int.reduceNeg, Int.reducePow, Int.reduceSub, Int.reduceToNat, Nat.reduceAdd, Nat.reduceEqDiff, Nat.reduceLT, Nat.reduceLeDiff, Nat.reduceMul, reduceCtorEq]
    have q9 : ρ4 9 = .slice none 0 0 := by rw [hf 9 rfl]; simp (disch := omega) only [EO, ↓EP, EQ, EM, ↓reduceIte, Int.reduceAdd, Int.reduceEq, Int.reduceLE, Int.reduceLT, Int.reduceMul, Int.reduceNeg, Int.reducePow, Int.reduceSub, Int.reduceToNat, Nat.reduceAdd, Nat.reduceEqDiff, Nat.reduceLT, Nat.reduceLeDiff, Nat.reduceMul, reduceCtorEq]
    have q10 : ρ4 10 = .int .i64 1 := by rw [hf 10 rfl]; simp (disch := omega) only [EO, ↓EP, EQ, EM, ↓reduceIte, Int.reduceAdd, Int.reduceEq, Int.reduceLE, Int.reduceLT, Int.reduceMul, Int.reduceNeg, Int.reducePow, Int.reduceSub, Int.reduceToNat, Nat.reduceAdd, Nat.reduceEqDiff, Nat.reduceLT, Nat.reduceLeDiff, Nat.reduceMul, reduceCtorEq]
    clear hf
    by_cases hkl : (k : Int) < (l.length : Int)
    · obtain ⟨ad, p, B, c', rfl, hp, hcell, hpc, hpr⟩ := (hl.fr (f03.nb f4)).at (k := k) (by omega)
      have hpt : p.length ≤ 65536 := by
        have := total_succ hp
        have := total_take l (k + 1)
        omega
      have L4 := L3.nb f4
      have hk' : k < vs.length := by omega
      have hvk : vs[k]? = some vs[k] := List.getElem?_eq_getElem hk'
      generalize vs[k] = u at hvk
      have hu := L4.each k p u hp hvk
      obtain ⟨xa, exa, hcx⟩ := (L4.ll.2.rd).at hvk
      subst exa
      obtain ⟨b, pad, rfl, hB, hbb⟩ := hu.ex
      simp (disch := omega) only [EO, ↓EP, EQ, EM, ↓reduceIte, Int.reduceAdd, Int.reduceEq, Int.reduceLE, Int.reduceLT, Int.reduceMul, Int.reduceNeg, Int.reducePow, Int.reduceSub, Int.reduceToNat, Nat.reduceAdd, Nat.reduceEqDiff, Nat.reduceLT, Nat.reduceLeDiff, Nat.reduceMul, reduceCtorEq, h11, q1, q5, hcell, hcx]
      intro m1
      refine kept_spec (hu.nb (Fr.drewN w4 _ nob)) rfl (hpr.nb (Fr.drewN w4 _ nob)) (by omega) _ fun w5 f5 => ?_
      simp (disch := omega) only [EO, ↓EP, EQ, EM, ↓reduceIte, Int.reduceAdd, Int.reduceEq, Int.reduceLE, Int.reduceLT, Int.reduceMul, Int.reduceNeg, Int.reducePow, Int.reduceSub, Int.reduceToNat, Nat.reduceAdd, Nat.reduceEqDiff, Nat.reduceLT, Nat.reduceLeDiff, Nat.reduceMul, reduceCtorEq]
      intro m2
      simp (disch := omega) only [EO, ↓EP, EQ, EM, ↓reduceIte, Int.reduceAdd, Int.reduceEq, Int.reduceLE, Int.reduceLT, Int.reduceMul, Int.reduceNeg, Int.reducePow, Int.reduceSub, Int.reduceToNat, Nat.reduceAdd, Nat.reduceEqDiff, Nat.reduceLT, Nat.reduceLeDiff, Nat.reduceMul, reduceCtorEq, h11]
      refine hN (l.length - (k + 1)) _ _ (by omega) ⟨k + 1, by simp (disch := omega) only [EO, ↓EP, EQ, EM, ↓reduceIte, Int.reduceAdd, Int.reduceEq, Int.reduceLE, Int.reduceLT, Int.reduceMul, Int.reduceNeg, Int.reducePow, Int.reduceSub, Int.reduceToNat, Nat.reduceAdd, Nat.reduceEqDiff, Nat.reduceLT, Nat.reduceLeDiff, Nat.reduceMul, reduceCtorEq, h11, Int.natCast_add], by omega, rfl, ?_⟩
      exact f4.nb (((Fr.drewN w4 (1 + m1) nob).nb f5).nb (Fr.drewN w5 m2 nob))
    · have hkl' : k = l.length := by omega
      subst hkl'
      clear hN
      have f04 := f03.nb f4
      simp (disch := omega) only [EO, ↓EP, EQ, EM, ↓reduceIte, Int.reduceAdd, Int.reduceEq, Int.reduceLE, Int.reduceLT, Int.reduceMul, Int.reduceNeg, Int.reducePow, Int.reduceSub, Int.reduceToNat, Nat.reduceAdd, Nat.reduceEqDiff, Nat.reduceLT, Nat.reduceLeDiff, Nat.reduceMul, reduceCtorEq, h11, q0, q1, q5, q7, q8, q9, q10]
      refine same_t (l := []) rfl rfl (.inl rfl) (.inl rfl) (Nat.zero_le _) _ fun w5 f5 => ?_
      simp (disch := omega) only [EO, ↓EP, EQ, EM, ↓reduceIte, Int.reduceAdd, Int.reduceEq, Int.reduceLE, Int.reduceLT, Int.reduceMul, Int.reduceNeg, Int.reducePow, Int.reduceSub, Int.reduceToNat, Nat.reduceAdd, Nat.reduceEqDiff, Nat.reduceLT, Nat.reduceLeDiff, Nat.reduceMul, reduceCtorEq, q0, q8, q10]
      refine num_spec 1 _ _ ?_
      simp (disch := omega) only [EO, ↓EP, EQ, EM, ↓reduceIte, Int.reduceAdd, Int.reduceEq, Int.reduceLE, Int.reduceLT, Int.reduceMul, Int.reduceNeg, Int.reducePow, Int.reduceSub, Int.reduceToNat, Nat.reduceAdd, Nat.reduceEqDiff, Nat.reduceLT, Nat.reduceLeDiff, Nat.reduceMul, reduceCtorEq, q0, q10]
      refine size_spec alg _ _ ?_
      simp (disch := omega) only [EO, ↓EP, EQ, EM, ↓reduceIte, Int.reduceAdd, Int.reduceEq, Int.reduceLE, Int.reduceLT, Int.reduceMul, Int.reduceNeg, Int.reducePow, Int.reduceSub, Int.reduceToNat, Nat.reduceAdd, Nat.reduceEqDiff, Nat.reduceLT, Nat.reduceLeDiff, Nat.reduceMul, reduceCtorEq, q0]
      refine rsize_spec alg _ _ ?_
      simp (disch := omega) only [EO, ↓EP, EQ, EM, ↓reduceIte, Int.reduceAdd, Int.reduceEq, Int.reduceLE, Int.reduceLT, Int.reduceMul, Int.reduceNeg, Int.reducePow, Int.reduceSub, Int.reduceToNat, Nat.reduceAdd, Nat.reduceEqDiff, Nat.reduceLT, Nat.reduceLeDiff, Nat.reduceMul, reduceCtorEq, q0]
      refine blocksz_spec alg _ _ ?_
      simp (disch := omega) only [EO, ↓EP, EQ, EM, ↓reduceIte, Int.reduceAdd, Int.reduceEq, Int.reduceLE, Int.reduceLT, Int.reduceMul, Int.reduceNeg, Int.reducePow, Int.reduceSub, Int.reduceToNat, Nat.reduceAdd, Nat.reduceEqDiff, Nat.reduceLT, Nat.reduceLeDiff, Nat.reduceMul, reduceCtorEq, q0]
      refine rblock_spec alg _ _ ?_
      simp (disch := omega) only [EO, ↓EP, EQ, EM, ↓reduceIte, Int.reduceAdd, Int.reduceEq, Int.reduceLE, Int.reduceLT, Int.reduceMul, Int.reduceNeg, Int.reducePow, Int.reduceSub, Int.reduceToNat, Nat.reduceAdd, Nat.reduceEqDiff, Nat.reduceLT, Nat.reduceLeDiff, Nat.reduceMul, reduceCtorEq]
      refine live_spec (hT.nb (f04.nb f5)) _ fun w6 f6 => ?_
      simp (disch := omega) only [EO, ↓EP, EQ, EM, ↓reduceIte, Int.reduceAdd, Int.reduceEq, Int.reduceLE, Int.reduceLT, Int.reduceMul, Int.reduceNeg, Int.reducePow, Int.reduceSub, Int.reduceToNat, Nat.reduceAdd, Nat.reduceEqDiff, Nat.reduceLT, Nat.reduceLeDiff, Nat.reduceMul, reduceCtorEq]
      exact hK w6 ((f04.nb f5).nb f6)
end Go.Proofs.YtibccpfocbdmaaaDoor.Spec
