/- The digests: the digest of lists of bytes. -/
import Derived.Test.YtibccpfocbdmaaaDoorDig8
set_option linter.unusedVariables false
set_option linter.unusedSimpArgs false
namespace Go.Proofs.YtibccpfocbdmaaaDoor.Spec
open Go Go.RowKit Go.Proofs Go.Proofs.YtibccpfocbdmaaaDoor.Eng Go.Proofs.YtibccpfocbdmaaaDoor.Code
set_option maxRecDepth 100000
attribute [local irreducible] one

/-- A list of lists that is read. -/
structure LL (w : World) (A : Option Addr) (l : List (List Int)) (hs : List Value) : Prop where
  rd : Rd w A hs
  len : hs.length = l.length
  each : ∀ (i : Nat) (p : List Int) (v : Value), l[i]? = some p → hs[i]? = some v → ∃ (B : Option Addr) (c : Nat), v = .slice B p.length c ∧ p.length ≤ c ∧ Rd w B (nums .u8 p)
theorem LL.fr {w w' : World} {A : Option Addr} {l : List (List Int)} {hs : List Value} (h : LL w A l hs) (f : Fr w w' nob) : LL w' A l hs :=
  ⟨h.rd.fr f (.inr fun _ _ x => x), h.len, fun i p v h1 h2 => by
    obtain ⟨B, c, e, hc, hr⟩ := h.each i p v h1 h2
    exact ⟨B, c, e, hc, hr.fr f (.inr fun _ _ x => x)⟩⟩
theorem rd_ro {k : IntKind} {w : World} {A : Option Addr} {l : List Int} (h : Rd w A (nums k l)) {P : Nat → Prop} (hp : ∀ b, P b → w.heap.size ≤ b) : RO k w A l P := by
  rcases h with h | ⟨p, e, h1, h2⟩
  · exact .inl (nums_isNil h)
  · exact .inr ⟨p, e, h1, fun x => by have := hp _ x; omega, h2⟩
def total (l : List (List Int)) : Nat := (l.map List.length).sum
theorem total_take (l : List (List Int)) (k : Nat) : total (l.take k) ≤ total l := by
  induction l generalizing k with
  | nil => simp [total]
  | cons a r ih =>
    cases k with
    | zero => simp [total]
    | succ k => have := ih k; simp only [total, List.take_succ_cons, List.map_cons, List.sum_cons] at *; omega
theorem total_succ {l : List (List Int)} {k : Nat} {p : List Int} (h : l[k]? = some p) : total (l.take (k + 1)) = total (l.take k) + p.length := by
  rw [List.take_add_one, h]
  simp [total]
theorem flat_take {l : List (List Int)} {k : Nat} {p : List Int} (h : l[k]? = some p) : (l.take (k + 1)).flatten = (l.take k).flatten ++ p := by
  rw [List.take_add_one, h]
  simp
theorem flat_total (l : List (List Int)) : l.flatten.length = total l := by simp [total, List.length_flatten]

set_option maxHeartbeats 2000000 in
theorem dsum_spec {w : World} (alg : Int) {A : Option Addr} {c : Nat} {l : List (List Int)} {hs : List Value} (hl : LL w A l hs) (hT : Tb w) (hmx : total l ≤ 16777216) (hn : l.length ≤ 4611686018427387904) (K : Value → World → Prop)
    (hK : 1 ≤ alg → alg ≤ 4 → ∀ B c w', (sizeI alg).toNat ≤ c → Sl .u8 w' (.slice B (sizeI alg).toNat c) (dig alg l.flatten) → (∀ b, blkOf (.slice B (sizeI alg).toNat c) = some b → w.heap.size ≤ b) → Fr w w' nob → K (.tuple #[.slice B (sizeI alg).toNat c, .int .i64 0]) w')
    (hK' : (alg < 1 ∨ 4 < alg) → ∀ w', Fr w w' nob → K (.tuple #[.slice none 0 0, .int .i64 1]) w') : callK Tryd.prog 12 [.int .i64 alg, .slice A l.length c] w K := by
  refine call_of Tryd.func12 Code.h12 (by simp [Code.c12]) ?_
  simp only [Code.c12, ↓EP, EQ, EM, ↓reduceIte, Int.reduceAdd, Int.reduceEq, Int.reduceLE, Int.reduceLT, Int.reduceMul, Int.reduceNeg, Int.reducePow, Int.reduceSub, Int.reduceToNat, Nat.reduceAdd, Nat.reduceEqDiff, Nat.reduceLT, Nat.reduceLeDiff, Nat.reduceMul, reduceCtorEq]
  refine size_spec alg _ _ ?_
  by_cases ha : alg < 1 ∨ 4 < alg
  · have h0 : sizeI alg = 0 := by unfold sizeI; rw [if_neg (by omega), if_neg (by omega), if_neg (by omega), if_neg (by omega)]
    simp only [↓EP, EQ, EM, ↓reduceIte, Int.reduceAdd, Int.reduceEq, Int.reduceLE, Int.reduceLT, Int.reduceMul, Int.reduceNeg, Int.reducePow, Int.reduceSub, Int.reduceToNat, Nat.reduceAdd, Nat.reduceEqDiff, Nat.reduceLT, Nat.reduceLeDiff, Nat.reduceMul, reduceCtorEq, h0]
    exact hK' ha w (Fr.refl _ _)
  have ha1 : 1 ≤ alg := by omega
  have ha4 : alg ≤ 4 := by omega
  have hsz : 0 < sizeI alg := by
    have c : alg = 1 ∨ alg = 2 ∨ alg = 3 ∨ alg = 4 := by omega
    rcases c with rfl | rfl | rfl | rfl <;> decide
  simp (disch := omega) only [EO, ↓EP, EQ, EM, ↓reduceIte, Int.reduceAdd, Int.reduceEq, Int.reduceLE, Int.reduceLT, Int.reduceMul, Int.reduceNeg, Int.reducePow, Int.reduceSub, Int.reduceToNat, Nat.reduceAdd, Nat.reduceEqDiff, Nat.reduceLT, Nat.reduceLeDiff, Nat.reduceMul, reduceCtorEq]
  have getE : ∀ (w' : World) (k : Nat), Fr w w' nob → k < l.length → ∃ ad p B c', A = some ad ∧ l[k]? = some p ∧ w'.cell? (ad.add k) = some (.slice B p.length c') ∧ p.length ≤ c' ∧ Rd w B (nums .u8 p) := by
    intro w' k f hk
    obtain ⟨ad, e, _, hc⟩ := (hl.fr f).rd.get (by rw [hl.len]; omega)
    have hk' : k < hs.length := by rw [hl.len]; exact hk
    obtain ⟨B, c', e1, h1, h2⟩ := hl.each k _ _ (List.getElem?_eq_getElem hk) (List.getElem?_eq_getElem hk')
    refine ⟨ad, _, B, c', e, List.getElem?_eq_getElem hk, ?_, h1, h2⟩
    rw [← e1]; exact hc k _ (List.getElem?_eq_getElem hk')
  refine loop_inv (fun t ρ w' => w' = w ∧ ∃ k : Nat, ρ 18 = .int .i64 k ∧ k ≤ l.length ∧ t = l.length - k ∧ ρ 6 = .int .i64 (total (l.take k))) _ ⟨rfl, 0, by simp only [↓EP, EQ, EM, ↓reduceIte, Int.reduceAdd, Int.reduceEq, Int.reduceLE, Int.reduceLT, Int.reduceMul, Int.reduceNeg, Int.reducePow, Int.reduceSub, Int.reduceToNat, Nat.reduceAdd, Nat.reduceEqDiff, Nat.reduceLT, Nat.reduceLeDiff, Nat.reduceMul, reduceCtorEq], Nat.zero_le _, rfl, by simp only [↓EP, EQ, EM, ↓reduceIte, Int.reduceAdd, Int.reduceEq, Int.reduceLE, Int.reduceLT, Int.reduceMul, Int.reduceNeg, Int.reducePow, Int.reduceSub, Int.reduceToNat, Nat.reduceAdd, Nat.reduceEqDiff, Nat.reduceLT, Nat.reduceLeDiff, Nat.reduceMul, reduceCtorEq]; rfl⟩ ?_
  rintro t ρ w' hf ⟨rfl, k, h18, hk, rfl, h6⟩ N hN
  have r0 : ρ 0 = .int .i64 alg := by rw [hf 0 rfl]; simp only [↓EP, EQ, EM, ↓reduceIte, Int.reduceAdd, Int.reduceEq, Int.reduceLE, Int.reduceLT, Int.reduceMul, Int.reduceNeg, Int.reducePow, Int.reduceSub, Int.reduceToNat, Nat.reduceAdd, Nat.reduceEqDiff, Nat.reduceLT, Nat.reduceLeDiff, Nat.reduceMul, reduceCtorEq]
  have r1 : ρ 1 = .slice A l.length c := by rw [hf 1 rfl]; simp only [↓EP, EQ, EM, ↓reduceIte, Int.reduceAdd, Int.reduceEq, Int.reduceLE, Int.reduceLT, Int.reduceMul, Int.reduceNeg, Int.reducePow, Int.reduceSub, Int.reduceToNat, Nat.reduceAdd, Nat.reduceEqDiff, Nat.reduceLT, Nat.reduceLeDiff, Nat.reduceMul, reduceCtorEq]
  have r16 : ρ 16 = .slice A l.length c := by rw [hf 16 rfl]; simp only [↓EP, EQ, EM, ↓reduceIte, Int.reduceAdd, Int.reduceEq, Int.reduceLE, Int.reduceLT, Int.reduceMul, Int.reduceNeg, Int.reducePow, Int.reduceSub, Int.reduceToNat, Nat.reduceAdd, Nat.reduceEqDiff, Nat.reduceLT, Nat.reduceLeDiff, Nat.reduceMul, reduceCtorEq]
  have r17 : ρ 17 = .int .i64 l.length := by rw [hf 17 rfl]; simp only [↓EP, EQ, EM, ↓reduceIte, Int.reduceAdd, Int.reduceEq, Int.reduceLE, Int.reduceLT, Int.reduceMul, Int.reduceNeg, Int.reducePow, Int.reduceSub, Int.reduceToNat, Nat.reduceAdd, Nat.reduceEqDiff, Nat.reduceLT, Nat.reduceLeDiff, Nat.reduceMul, reduceCtorEq]
  clear hf
  by_cases hkl : (k : Int) < (l.length : Int)
  · obtain ⟨ad, p, B, c', rfl, hp, hcell, hpc, hpr⟩ := getE w' k (Fr.refl _ _) (by omega)
    have ht := total_succ hp
    have ht2 := total_take l (k + 1)
    simp (disch := omega) only [EO, ↓EP, EQ, EM, ↓reduceIte, Int.reduceAdd, Int.reduceEq, Int.reduceLE, Int.reduceLT, Int.reduceMul, Int.reduceNeg, Int.reducePow, Int.reduceSub, Int.reduceToNat, Nat.reduceAdd, Nat.reduceEqDiff, Nat.reduceLT, Nat.reduceLeDiff, Nat.reduceMul, reduceCtorEq, h18, r16, r17, h6, hcell]
    refine hN (l.length - (k + 1)) _ _ (by omega) ⟨rfl, k + 1, by simp (disch := omega) only [EO, ↓EP, EQ, EM, ↓reduceIte, Int.reduceAdd, Int.reduceEq, Int.reduceLE, Int.reduceLT, Int.reduceMul, Int.reduceNeg, Int.reducePow, Int.reduceSub, Int.reduceToNat, Nat.reduceAdd, Nat.reduceEqDiff, Nat.reduceLT, Nat.reduceLeDiff, Nat.reduceMul, reduceCtorEq, h18, Int.natCast_add], by omega, rfl, ?_⟩
    simp (disch := omega) only [EO, ↓EP, EQ, EM, ↓reduceIte, Int.reduceAdd, Int.reduceEq, Int.reduceLE, Int.reduceLT, Int.reduceMul, Int.reduceNeg, Int.reducePow, Int.reduceSub, Int.reduceToNat, Nat.reduceAdd, Nat.reduceEqDiff, Nat.reduceLT, Nat.reduceLeDiff, Nat.reduceMul, reduceCtorEq, h6, ht, Int.natCast_add]
  simp (disch := omega) only [EO, ↓EP, EQ, EM, ↓reduceIte, Int.reduceAdd, Int.reduceEq, Int.reduceLE, Int.reduceLT, Int.reduceMul, Int.reduceNeg, Int.reducePow, Int.reduceSub, Int.reduceToNat, Nat.reduceAdd, Nat.reduceEqDiff, Nat.reduceLT, Nat.reduceLeDiff, Nat.reduceMul, reduceCtorEq, h18, r17, r0, r1]
  clear hN h18 h6 r16 r17
  have lt := hT.lt
  refine new_spec alg lt _ (fun _ _ w1 s1 H1 f1 => ?_) (fun h _ _ => absurd h ha)
  simp (disch := omega) only [EO, ↓EP, EQ, EM, ↓reduceIte, Int.reduceAdd, Int.reduceEq, Int.reduceLE, Int.reduceLT, Int.reduceMul, Int.reduceNeg, Int.reducePow, Int.reduceSub, Int.reduceToNat, Nat.reduceAdd, Nat.reduceEqDiff, Nat.reduceLT, Nat.reduceLeDiff, Nat.reduceMul, reduceCtorEq, r1]
  refine loop_inv (fun t ρ2 w2 => ∃ (k : Nat) (rv : Value), ρ2 39 = .int .i64 k ∧ k ≤ l.length ∧ t = l.length - k ∧ Hsh w2 w'.heap.size rv alg (l.take k).flatten ∧ (∀ b, blkOf rv = some b → w'.heap.size < b) ∧ Fr w' w2 nob) _ ⟨0, .slice none 0 0, by simp only [↓EP, EQ, EM, ↓reduceIte, Int.reduceAdd, Int.reduceEq, Int.reduceLE, Int.reduceLT, Int.reduceMul, Int.reduceNeg, Int.reducePow, Int.reduceSub, Int.reduceToNat, Nat.reduceAdd, Nat.reduceEqDiff, Nat.reduceLT, Nat.reduceLeDiff, Nat.reduceMul, reduceCtorEq], Nat.zero_le _, rfl, H1, fun b e => (by cases e), f1⟩ ?_
  rintro t ρ2 w2 hf ⟨k2, rv, h39, hk2, rfl, H2, hrv, f2⟩ N2 hN2
  have q9 : ρ2 9 = .pointer (some ⟨w'.heap.size, 0, none⟩) := by rw [hf 9 rfl]; simp only [↓EP, EQ, EM, ↓reduceIte, Int.reduceAdd, Int.reduceEq, Int.reduceLE, Int.reduceLT, Int.reduceMul, Int.reduceNeg, Int.reducePow, Int.reduceSub, Int.reduceToNat, Nat.reduceAdd, Nat.reduceEqDiff, Nat.reduceLT, Nat.reduceLeDiff, Nat.reduceMul, reduceCtorEq]
  have q37 : ρ2 37 = .slice A l.length c := by rw [hf 37 rfl]; simp only [↓EP, EQ, EM, ↓reduceIte, Int.reduceAdd, Int.reduceEq, Int.reduceLE, Int.reduceLT, Int.reduceMul, Int.reduceNeg, Int.reducePow, Int.reduceSub, Int.reduceToNat, Nat.reduceAdd, Nat.reduceEqDiff, Nat.reduceLT, Nat.reduceLeDiff, Nat.reduceMul, reduceCtorEq, r1]
  have q38 : ρ2 38 = .int .i64 l.length := by rw [hf 38 rfl]; simp only [↓EP, EQ, EM, ↓reduceIte, Int.reduceAdd, Int.reduceEq, Int.reduceLE, Int.reduceLT, Int.reduceMul, Int.reduceNeg, Int.reducePow, Int.reduceSub, Int.reduceToNat, Nat.reduceAdd, Nat.reduceEqDiff, Nat.reduceLT, Nat.reduceLeDiff, Nat.reduceMul, reduceCtorEq, r1]
  clear hf
  have hl2 := hl.fr f2
  have T2 := hT.fr f2 (fun x => x) (fun x => x)
  by_cases hkl : (k2 : Int) < (l.length : Int)
  · obtain ⟨ad, p, B, c', rfl, hp, hcell, hpc, hpr⟩ := getE w2 k2 f2 (by omega)
    have ht := total_succ hp
    have ht2 := total_take l (k2 + 1)
    have htf := flat_total (l.take k2)
    simp (disch := omega) only [EO, ↓EP, EQ, EM, ↓reduceIte, Int.reduceAdd, Int.reduceEq, Int.reduceLE, Int.reduceLT, Int.reduceMul, Int.reduceNeg, Int.reducePow, Int.reduceSub, Int.reduceToNat, Nat.reduceAdd, Nat.reduceEqDiff, Nat.reduceLT, Nat.reduceLeDiff, Nat.reduceMul, reduceCtorEq, h39, q9, q37, q38, hcell]
    have hro : RO .u8 w2 B p (hP w'.heap.size rv) := (rd_ro hpr (P := hP w'.heap.size rv) fun b e => by
      rcases e with e | e
      · omega
      · have := hrv b e; omega).fr (f2.mono fun _ _ e => e.elim)
    refine write_spec H2 T2 hro hpc (by omega) _ fun rv' w3 H3 T3 hrv3 f3 => ?_
    simp (disch := omega) only [EO, ↓EP, EQ, EM, ↓reduceIte, Int.reduceAdd, Int.reduceEq, Int.reduceLE, Int.reduceLT, Int.reduceMul, Int.reduceNeg, Int.reducePow, Int.reduceSub, Int.reduceToNat, Nat.reduceAdd, Nat.reduceEqDiff, Nat.reduceLT, Nat.reduceLeDiff, Nat.reduceMul, reduceCtorEq, h39]
    refine hN2 (l.length - (k2 + 1)) _ _ (by omega) ⟨k2 + 1, rv', by simp (disch := omega) only [EO, ↓EP, EQ, EM, ↓reduceIte, Int.reduceAdd, Int.reduceEq, Int.reduceLE, Int.reduceLT, Int.reduceMul, Int.reduceNeg, Int.reducePow, Int.reduceSub, Int.reduceToNat, Nat.reduceAdd, Nat.reduceEqDiff, Nat.reduceLT, Nat.reduceLeDiff, Nat.reduceMul, reduceCtorEq, h39, Int.natCast_add], by omega, rfl, ?_, ?_, ?_⟩
    · rw [flat_take hp]; exact H3
    · intro b e
      rcases hrv3 b e with h | h
      · exact hrv b h
      · have := H2.hc.blk.lt; omega
    · refine f2.trans f3 fun b hb e => ?_
      rcases e with e | e
      · omega
      · have := hrv b e; omega
  have hke : k2 = l.length := by omega
  subst hke
  rw [List.take_length] at H2
  have htf := flat_total l
  simp (disch := omega) only [EO, ↓EP, EQ, EM, ↓reduceIte, Int.reduceAdd, Int.reduceEq, Int.reduceLE, Int.reduceLT, Int.reduceMul, Int.reduceNeg, Int.reducePow, Int.reduceSub, Int.reduceToNat, Nat.reduceAdd, Nat.reduceEqDiff, Nat.reduceLT, Nat.reduceLeDiff, Nat.reduceMul, reduceCtorEq, h39, q9, q38]
  refine sum_spec H2 T2 (by omega) _ fun D cc w4 hcc hsl hup f4 => ?_
  simp (disch := omega) only [EO, ↓EP, EQ, EM, ↓reduceIte, Int.reduceAdd, Int.reduceEq, Int.reduceLE, Int.reduceLT, Int.reduceMul, Int.reduceNeg, Int.reducePow, Int.reduceSub, Int.reduceToNat, Nat.reduceAdd, Nat.reduceEqDiff, Nat.reduceLT, Nat.reduceLeDiff, Nat.reduceMul, reduceCtorEq]
  exact hK ha1 ha4 D cc w4 hcc hsl (fun b e => Nat.le_trans f2.size (hup b e)) (f2.trans f4 fun _ _ e => e)
end Go.Proofs.YtibccpfocbdmaaaDoor.Spec
