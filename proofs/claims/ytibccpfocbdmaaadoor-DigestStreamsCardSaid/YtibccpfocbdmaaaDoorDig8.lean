/- The digests: the digest of what was taken in. -/
import Derived.Test.YtibccpfocbdmaaaDoorDig7
set_option linter.unusedVariables false
set_option linter.unusedSimpArgs false
namespace Go.Proofs.YtibccpfocbdmaaaDoor.Spec
open Go Go.RowKit Go.Proofs Go.Proofs.YtibccpfocbdmaaaDoor.Eng Go.Proofs.YtibccpfocbdmaaaDoor.Code
set_option maxRecDepth 100000
attribute [local irreducible] one

def zeros1 (bs L : Nat) : Nat := if L + 9 ≤ bs then bs - 9 - L else 2 * bs - 9 - L
def zeros2 (bs L : Nat) : Nat := if bs = 128 ∧ 112 ≤ L ∧ L + 9 ≤ 128 then 128 else 0
def lenB (n : Nat) (i : Nat) : Int := IntKind.u8.wrap ((IntKind.u64.wrap (8 * (n : Int))).fdiv (2 ^ (56 - 8 * i)))
def tailF (alg : Int) (m : List Int) : List Int :=
  rest alg m ++ [128] ++ List.replicate (zeros1 (blockI alg) (rest alg m).length) 0 ++ List.replicate (zeros2 (blockI alg) (rest alg m).length) 0 ++ (List.range 8).map (lenB m.length)
def last (alg : Int) (m : List Int) : List Int × List Int :=
  rounds (fun j s => mix alg s (part (blockI alg) (tailF alg m) j)) ((tailF alg m).length / blockI alg) (run alg m)
def w4 (x : Int) : List Int := [IntKind.u8.wrap (x.fdiv 16777216), IntKind.u8.wrap (x.fdiv 65536), IntKind.u8.wrap (x.fdiv 256), IntKind.u8.wrap x]
def v8 (x : Int) : List Int := (List.range 8).map fun k => IntKind.u8.wrap (x.fdiv (2 ^ (56 - 8 * k)))
def outF (alg : Int) (s : List Int × List Int) : List Int :=
  if blockI alg = 64 then (List.range 8).flatMap fun (i : Nat) => w4 (at' s.1 (i : Int)) else (List.range 8).flatMap fun (i : Nat) => v8 (at' s.2 (i : Int))
def dig (alg : Int) (m : List Int) : List Int := (outF alg (last alg m)).take (sizeI alg).toNat

theorem tail_len {alg : Int} (a1 : 1 ≤ alg) (a4 : alg ≤ 4) (m : List Int) : (tailF alg m).length % blockI alg = 0 ∧ (tailF alg m).length ≤ 400 := by
  have hb := blockI_or a1 a4
  have hl := rest_len a1 a4 m
  have hd := div_facts a1 a4 m
  simp only [tailF, List.length_append, List.length_replicate, List.length_map, List.length_range, List.length_cons, List.length_nil]
  generalize (rest alg m).length = L at *
  generalize m.length / blockI alg * blockI alg = Q at *
  generalize blockI alg = bs at *
  unfold zeros1 zeros2
  rcases hb with rfl | rfl <;> split <;> split <;> omega

theorem zero_no {bs L z : Nat} (hb : bs = 64 ∨ bs = 128) (hL : L < bs) (hz : z < zeros1 bs L) : (((L + 1 + z : Nat) : Int) % (bs : Int) = (bs : Int) - 8) = False := by
  apply eq_false
  unfold zeros1 at hz
  rcases hb with rfl | rfl <;> split at hz <;> omega
theorem zero_yes {bs L : Nat} (hb : bs = 64 ∨ bs = 128) (hL : L < bs) : (((L + 1 + zeros1 bs L : Nat) : Int) % (bs : Int) = (bs : Int) - 8) = True := by
  apply eq_true
  unfold zeros1
  rcases hb with rfl | rfl <;> split <;> omega
theorem step_le {bs N j : Nat} (h : bs = 64 ∨ bs = 128) (hN : N % bs = 0) (hj : j * bs < N) : j * bs + bs ≤ N := by rcases h with rfl | rfl <;> omega
theorem step_end {bs N j : Nat} (h : bs = 64 ∨ bs = 128) (hj : j * bs = N) : N / bs = j := by rcases h with rfl | rfl <;> omega
theorem block_spec' {w : World} {hb : Nat} {alg : Int} {ws vs : List Int} {rv : Value} {n : Int} (h : HC w hb alg ws vs rv n) (ha : 1 ≤ alg) (ha' : alg ≤ 4) (hT : Tb w) {A : Option Addr} {c k : Nat} (hk : k = blockI alg) {p : List Int} (hr : Rd w A (nums .u8 p)) (hp : p.length = blockI alg) (K : Value → World → Prop)
    (hK : ∀ w', HC w' hb alg (mix alg (ws, vs) p).1 (mix alg (ws, vs) p).2 rv n → Fr w w' (fun b => b = hb) → K (.tuple #[]) w') : callK Tryd.prog 28 [.pointer (some ⟨hb, 0, none⟩), .slice A k c] w K := by
  subst hk; exact block_spec h ha ha' hT hr hp K hK
theorem hc_one {alg : Int} {ws vs : List Int} {rv : Value} {n : Int} (hr : rv.oneCell' = true) : ∀ u ∈ hc alg ws vs rv n, u.oneCell' = true := by
  intro u hu
  simp only [hc, List.mem_cons, List.mem_append, List.not_mem_nil, or_false] at hu
  rcases hu with rfl | hu | hu | rfl | rfl
  · rfl
  · exact nums_one _ _ u hu
  · exact nums_one _ _ u hu
  · exact hr
  · rfl
theorem readn {k : IntKind} {w : World} {v : Value} {l : List Int} (h : Sl k w v l) {n : Nat} (hn : l.length = n) : ∃ A c, v = .slice A n c ∧ n ≤ c ∧ Rd w A (nums k l) := by
  subst hn; obtain ⟨A, c, e, h1, h2, _⟩ := h.read; exact ⟨A, c, e, h1, h2⟩
theorem flat_len {f : Nat → List Int} {n : Nat} (h : ∀ i, (f i).length = n) : ∀ k, ((List.range k).flatMap f).length = k * n
  | 0 => by simp
  | k + 1 => by rw [List.range_succ, List.flatMap_append, List.length_append, flat_len h k]; simp [h]; rw [Nat.add_mul]; omega
theorem flat_succ (f : Nat → List Int) (k : Nat) : (List.range (k + 1)).flatMap f = (List.range k).flatMap f ++ f k := by
  rw [List.range_succ, List.flatMap_append]; simp
theorem map_succ (f : Nat → Int) (k : Nat) : (List.range (k + 1)).map f = (List.range k).map f ++ [f k] := by
  rw [List.range_succ, List.map_append]; simp
theorem out_len {alg : Int} (a1 : 1 ≤ alg) (a4 : alg ≤ 4) (s : List Int × List Int) : (sizeI alg).toNat ≤ (outF alg s).length ∧ (outF alg s).length ≤ 64 := by
  have h1 : ∀ i : Nat, (w4 (at' s.1 (i : Int))).length = 4 := fun i => rfl
  have h2 : ∀ i : Nat, (v8 (at' s.2 (i : Int))).length = 8 := fun i => by simp [v8]
  have c : alg = 1 ∨ alg = 2 ∨ alg = 3 ∨ alg = 4 := by omega
  rcases c with rfl | rfl | rfl | rfl
  · rw [outF, if_pos (by decide), flat_len h1]; decide
  · rw [outF, if_pos (by decide), flat_len h1]; decide
  · rw [outF, if_neg (by decide), flat_len h2]; decide
  · rw [outF, if_neg (by decide), flat_len h2]; decide

set_option maxHeartbeats 4000000 in
theorem sum_spec {w : World} {hb : Nat} {rv : Value} {alg : Int} {m : List Int} (h : Hsh w hb rv alg m) (hT : Tb w) (hmx : m.length ≤ 16777216) (K : Value → World → Prop)
    (hK : ∀ A c w', (sizeI alg).toNat ≤ c → Sl .u8 w' (.slice A (sizeI alg).toNat c) (dig alg m) → (∀ b, blkOf (.slice A (sizeI alg).toNat c) = some b → w.heap.size ≤ b) → Fr w w' nob → K (.slice A (sizeI alg).toNat c) w') : callK Tryd.prog 23 [.pointer (some ⟨hb, 0, none⟩)] w K := by
  refine call_of Tryd.func23 Code.h23 (by simp [Code.c23]) ?_
  have ha1 := h.a1
  have ha4 := h.a4
  have hi := h.hi
  have hbs := blockI_or ha1 ha4
  have hlt := h.hc.blk.lt
  have hal := h.hc.alg
  have hre := h.hc.rest
  have hn := h.hc.n
  obtain ⟨hd1, hd2⟩ := div_facts ha1 ha4 m
  have hrl := rest_len ha1 ha4 m
  have hsz : 0 < sizeI alg ∧ sizeI alg ≤ 64 := by
    have c : alg = 1 ∨ alg = 2 ∨ alg = 3 ∨ alg = 4 := by omega
    rcases c with rfl | rfl | rfl | rfl <;> decide
  simp (disch := omega) only [Code.c23, EO, ↓EP, EQ, EM, ↓reduceIte, Int.reduceAdd, Int.reduceEq, Int.reduceLE, Int.reduceLT, Int.reduceMul, Int.reduceNeg, Int.reducePow, Int.reduceSub, Int.reduceToNat, Nat.reduceAdd, Nat.reduceEqDiff, Nat.reduceLT, Nat.reduceLeDiff, Nat.reduceMul, reduceCtorEq, hal]
  refine size_spec alg _ _ ?_
  simp (disch := omega) only [EO, ↓EP, EQ, EM, ↓reduceIte, Int.reduceAdd, Int.reduceEq, Int.reduceLE, Int.reduceLT, Int.reduceMul, Int.reduceNeg, Int.reducePow, Int.reduceSub, Int.reduceToNat, Nat.reduceAdd, Nat.reduceEqDiff, Nat.reduceLT, Nat.reduceLeDiff, Nat.reduceMul, reduceCtorEq, hal]
  refine h.hc.blk.ldAgg (hc_len h.hc.lw h.hc.lv) ?_
  simp (disch := omega) only [EO, ↓EP, EQ, EM, ↓reduceIte, Int.reduceAdd, Int.reduceEq, Int.reduceLE, Int.reduceLT, Int.reduceMul, Int.reduceNeg, Int.reducePow, Int.reduceSub, Int.reduceToNat, Nat.reduceAdd, Nat.reduceEqDiff, Nat.reduceLT, Nat.reduceLeDiff, Nat.reduceMul, reduceCtorEq, hal]
  refine al_k (hc 0 (zs 8) (zs 8) (.slice none 0 0) 0) (by kernel_rfl) fun w1 n1 => ?_
  simp (disch := omega) only [EO, ↓EP, EQ, EM, ↓reduceIte, Int.reduceAdd, Int.reduceEq, Int.reduceLE, Int.reduceLT, Int.reduceMul, Int.reduceNeg, Int.reducePow, Int.reduceSub, Int.reduceToNat, Nat.reduceAdd, Nat.reduceEqDiff, Nat.reduceLT, Nat.reduceLeDiff, Nat.reduceMul, reduceCtorEq, hal]
  obtain ⟨RA, rc, rfl, hrc, hRd, hRb⟩ := h.sl.read
  refine st_whole n1.blk (hc_len h.hc.lw h.hc.lv) rfl (hc_one rfl) fun w2 p2 => ?_
  have s1 := n1.size
  have s2 := p2.size
  have f2 : Fr w w2 nob := (n1.fr nob).trans p2.fr fun b hb e => by omega
  have C2 : HC w2 w.heap.size alg (run alg m).1 (run alg m).2 (.slice RA (rest alg m).length rc) m.length := ⟨p2.blk, h.hc.lw, h.hc.lv⟩
  have H2 := h.hc.fr f2 (fun x => x)
  have T2 := hT.fr f2 (fun x => x) (fun x => x)
  have hal2 := H2.alg
  have hre2 := H2.rest
  have R2 := hRd.fr f2 (.inr fun _ _ x => x)
  simp (disch := omega) only [EO, ↓EP, EQ, EM, ↓reduceIte, Int.reduceAdd, Int.reduceEq, Int.reduceLE, Int.reduceLT, Int.reduceMul, Int.reduceNeg, Int.reducePow, Int.reduceSub, Int.reduceToNat, Nat.reduceAdd, Nat.reduceEqDiff, Nat.reduceLT, Nat.reduceLeDiff, Nat.reduceMul, reduceCtorEq, hal2]
  refine blocksz_spec alg _ _ ?_
  simp (disch := omega) only [EO, ↓EP, EQ, EM, ↓reduceIte, Int.reduceAdd, Int.reduceEq, Int.reduceLE, Int.reduceLT, Int.reduceMul, Int.reduceNeg, Int.reducePow, Int.reduceSub, Int.reduceToNat, Nat.reduceAdd, Nat.reduceEqDiff, Nat.reduceLT, Nat.reduceLeDiff, Nat.reduceMul, reduceCtorEq, hre2]
  refine app_num (Sl.nil _ _) rfl R2 (by rw [List.length_nil]; omega) (by omega) fun v3 w3 a3 => ?_
  have G3 := (Gw.nil .u8 w2).apd a3
  rw [List.nil_append] at G3
  simp (disch := omega) only [EO, ↓EP, EQ, EM, ↓reduceIte, Int.reduceAdd, Int.reduceEq, Int.reduceLE, Int.reduceLT, Int.reduceMul, Int.reduceNeg, Int.reducePow, Int.reduceSub, Int.reduceToNat, Nat.reduceAdd, Nat.reduceEqDiff, Nat.reduceLT, Nat.reduceLeDiff, Nat.reduceMul, reduceCtorEq]
  refine bsl1 fun w4 n4 => ?_
  have G4 := G3.new n4
  simp (disch := omega) only [EO, ↓EP, EQ, EM, ↓reduceIte, Int.reduceAdd, Int.reduceEq, Int.reduceLE, Int.reduceLT, Int.reduceMul, Int.reduceNeg, Int.reducePow, Int.reduceSub, Int.reduceToNat, Nat.reduceAdd, Nat.reduceEqDiff, Nat.reduceLT, Nat.reduceLeDiff, Nat.reduceMul, reduceCtorEq]
  refine app_num G4.sl rfl n4.rdl (by rw [List.length_cons, List.length_nil]; omega) (by omega) fun v5 w5 a5 => ?_
  have G5 := G4.apd a5
  simp (disch := omega) only [EO, ↓EP, EQ, EM, ↓reduceIte, Int.reduceAdd, Int.reduceEq, Int.reduceLE, Int.reduceLT, Int.reduceMul, Int.reduceNeg, Int.reducePow, Int.reduceSub, Int.reduceToNat, Nat.reduceAdd, Nat.reduceEqDiff, Nat.reduceLT, Nat.reduceLeDiff, Nat.reduceMul, reduceCtorEq]
  generalize hL : (rest alg m).length = L at *
  have hLb : L < blockI alg := by omega
  clear a3 a5 G3 G4 n4 R2
  refine loop_inv (fun t ρ w' => ∃ (z : Nat) (T : Value), ρ 5 = T ∧ z ≤ zeros1 (blockI alg) L ∧ t = zeros1 (blockI alg) L - z ∧ Gw .u8 w2 w' T (rest alg m ++ [128] ++ List.replicate z 0)) _ ⟨0, v5, by simp only [↓EP, EQ, EM, ↓reduceIte, Int.reduceAdd, Int.reduceEq, Int.reduceLE, Int.reduceLT, Int.reduceMul, Int.reduceNeg, Int.reducePow, Int.reduceSub, Int.reduceToNat, Nat.reduceAdd, Nat.reduceEqDiff, Nat.reduceLT, Nat.reduceLeDiff, Nat.reduceMul, reduceCtorEq], Nat.zero_le _, rfl, by simpa using G5⟩ ?_
  rintro t ρ w6 hf ⟨z, T, h5, hz, rfl, G6⟩ N hN
  have r0 : ρ 0 = .pointer (some ⟨hb, 0, none⟩) := by rw [hf 0 rfl]; simp only [↓EP, EQ, EM, ↓reduceIte, Int.reduceAdd, Int.reduceEq, Int.reduceLE, Int.reduceLT, Int.reduceMul, Int.reduceNeg, Int.reducePow, Int.reduceSub, Int.reduceToNat, Nat.reduceAdd, Nat.reduceEqDiff, Nat.reduceLT, Nat.reduceLeDiff, Nat.reduceMul, reduceCtorEq]
  have r3 : ρ 3 = .pointer (some ⟨w.heap.size, 0, none⟩) := by rw [hf 3 rfl]; simp only [↓EP, EQ, EM, ↓reduceIte, Int.reduceAdd, Int.reduceEq, Int.reduceLE, Int.reduceLT, Int.reduceMul, Int.reduceNeg, Int.reducePow, Int.reduceSub, Int.reduceToNat, Nat.reduceAdd, Nat.reduceEqDiff, Nat.reduceLT, Nat.reduceLeDiff, Nat.reduceMul, reduceCtorEq]
  have r4 : ρ 4 = .int .i64 (blockI alg) := by rw [hf 4 rfl]; simp only [↓EP, EQ, EM, ↓reduceIte, Int.reduceAdd, Int.reduceEq, Int.reduceLE, Int.reduceLT, Int.reduceMul, Int.reduceNeg, Int.reducePow, Int.reduceSub, Int.reduceToNat, Nat.reduceAdd, Nat.reduceEqDiff, Nat.reduceLT, Nat.reduceLeDiff, Nat.reduceMul, reduceCtorEq]
  clear hf G5
  have hz1 : zeros1 (blockI alg) L ≤ 128 := by unfold zeros1; split <;> omega
  obtain ⟨TA, tc, rfl, htc, hTd⟩ := readn G6.sl (n := L + 1 + z) (by simp [hL]; omega)
  by_cases hzz : z < zeros1 (blockI alg) L
  · have hcond := zero_no hbs hLb hzz
    simp (disch := omega) only [EO, ↓EP, EQ, EM, ↓reduceIte, Int.reduceAdd, Int.reduceEq, Int.reduceLE, Int.reduceLT, Int.reduceMul, Int.reduceNeg, Int.reducePow, Int.reduceSub, Int.reduceToNat, Nat.reduceAdd, Nat.reduceEqDiff, Nat.reduceLT, Nat.reduceLeDiff, Nat.reduceMul, reduceCtorEq, h5, r4, hcond]
    refine bsl1 fun w7 n7 => ?_
    have G7 := G6.new n7
    simp (disch := omega) only [EO, ↓EP, EQ, EM, ↓reduceIte, Int.reduceAdd, Int.reduceEq, Int.reduceLE, Int.reduceLT, Int.reduceMul, Int.reduceNeg, Int.reducePow, Int.reduceSub, Int.reduceToNat, Nat.reduceAdd, Nat.reduceEqDiff, Nat.reduceLT, Nat.reduceLeDiff, Nat.reduceMul, reduceCtorEq, h5, r4]
    refine app_num G7.sl rfl n7.rdl (by simp only [List.length_append, List.length_replicate, List.length_cons, List.length_nil]; omega) (by omega) fun v8 w8 a8 => ?_
    have G8 := G7.apd a8
    simp (disch := omega) only [EO, ↓EP, EQ, EM, ↓reduceIte, Int.reduceAdd, Int.reduceEq, Int.reduceLE, Int.reduceLT, Int.reduceMul, Int.reduceNeg, Int.reducePow, Int.reduceSub, Int.reduceToNat, Nat.reduceAdd, Nat.reduceEqDiff, Nat.reduceLT, Nat.reduceLeDiff, Nat.reduceMul, reduceCtorEq, h5, r4]
    refine hN _ _ _ (by omega) ⟨z + 1, v8, by simp only [↓EP, EQ, EM, ↓reduceIte, Int.reduceAdd, Int.reduceEq, Int.reduceLE, Int.reduceLT, Int.reduceMul, Int.reduceNeg, Int.reducePow, Int.reduceSub, Int.reduceToNat, Nat.reduceAdd, Nat.reduceEqDiff, Nat.reduceLT, Nat.reduceLeDiff, Nat.reduceMul, reduceCtorEq], by omega, rfl, ?_⟩
    rw [List.replicate_succ', ← List.append_assoc]; exact G8
  have hze : z = zeros1 (blockI alg) L := by omega
  subst hze
  have hcond := zero_yes hbs hLb
  simp (disch := omega) only [EO, ↓EP, EQ, EM, ↓reduceIte, Int.reduceAdd, Int.reduceEq, Int.reduceLE, Int.reduceLT, Int.reduceMul, Int.reduceNeg, Int.reducePow, Int.reduceSub, Int.reduceToNat, Nat.reduceAdd, Nat.reduceEqDiff, Nat.reduceLT, Nat.reduceLeDiff, Nat.reduceMul, reduceCtorEq, h5, r4, hcond, W_joinT]
  clear hN hcond
  have hre6 := (H2.fr G6.fr (fun x => x)).rest
  refine join_cut (fun ρ' w' => ∃ T : Value, ρ' 5 = T ∧ Gw .u8 w2 w' T (rest alg m ++ [128] ++ List.replicate (zeros1 (blockI alg) L) 0 ++ List.replicate (zeros2 (blockI alg) L) 0)) ?_ ?_
  · intro N hN
    have stay : zeros2 (blockI alg) L = 0 → ∀ ρ', ρ' 5 = .slice TA (L + 1 + zeros1 (blockI alg) L) tc → endK N ρ' w6 := by
      intro hz2 ρ' h5'
      refine hN _ _ ⟨_, h5', ?_⟩
      rw [hz2, List.replicate_zero, List.append_nil]; exact G6
    rcases hbs with e | e
    · have e' : (blockI alg : Int) = 64 := by omega
      simp (disch := omega) only [EO, ↓EP, EQ, EM, ↓reduceIte, Int.reduceAdd, Int.reduceEq, Int.reduceLE, Int.reduceLT, Int.reduceMul, Int.reduceNeg, Int.reducePow, Int.reduceSub, Int.reduceToNat, Nat.reduceAdd, Nat.reduceEqDiff, Nat.reduceLT, Nat.reduceLeDiff, Nat.reduceMul, reduceCtorEq, h5, r4, e']
      exact stay (by rw [zeros2, if_neg (by omega)]) _ (by simp only [↓EP, EQ, EM, ↓reduceIte, Int.reduceAdd, Int.reduceEq, Int.reduceLE, Int.reduceLT, Int.reduceMul, Int.reduceNeg, Int.reducePow, Int.reduceSub, Int.reduceToNat, Nat.reduceAdd, Nat.reduceEqDiff, Nat.reduceLT, Nat.reduceLeDiff, Nat.reduceMul, reduceCtorEq, h5])
    · have e' : (blockI alg : Int) = 128 := by omega
      have c : (L : Int) < 112 ∨ ((112 ≤ (L : Int)) ∧ (L : Int) < 120) ∨ 120 ≤ (L : Int) := by omega
      rcases c with c | c | c
      · simp (disch := omega) only [EO, ↓EP, EQ, EM, ↓reduceIte, Int.reduceAdd, Int.reduceEq, Int.reduceLE, Int.reduceLT, Int.reduceMul, Int.reduceNeg, Int.reducePow, Int.reduceSub, Int.reduceToNat, Nat.reduceAdd, Nat.reduceEqDiff, Nat.reduceLT, Nat.reduceLeDiff, Nat.reduceMul, reduceCtorEq, h5, r4, r0, e', hre6]
        exact stay (by rw [zeros2, if_neg (by omega)]) _ (by simp only [↓EP, EQ, EM, ↓reduceIte, Int.reduceAdd, Int.reduceEq, Int.reduceLE, Int.reduceLT, Int.reduceMul, Int.reduceNeg, Int.reducePow, Int.reduceSub, Int.reduceToNat, Nat.reduceAdd, Nat.reduceEqDiff, Nat.reduceLT, Nat.reduceLeDiff, Nat.reduceMul, reduceCtorEq, h5])
      · have hz3 : zeros1 (blockI alg) L = 119 - L := by rw [zeros1, if_pos (by omega)]; omega
        simp (disch := omega) only [EO, ↓EP, EQ, EM, ↓reduceIte, Int.reduceAdd, Int.reduceEq, Int.reduceLE, Int.reduceLT, Int.reduceMul, Int.reduceNeg, Int.reducePow, Int.reduceSub, Int.reduceToNat, Nat.reduceAdd, Nat.reduceEqDiff, Nat.reduceLT, Nat.reduceLeDiff, Nat.reduceMul, reduceCtorEq, h5, r4, r0, e', hre6]
        refine appz_num G6.sl (by omega) (by simp only [List.length_append, List.length_replicate, List.length_cons, List.length_nil]; omega) (by omega) fun v7 w7 a7 => ?_
        have G7 := G6.apd a7
        simp (disch := omega) only [EO, ↓EP, EQ, EM, ↓reduceIte, Int.reduceAdd, Int.reduceEq, Int.reduceLE, Int.reduceLT, Int.reduceMul, Int.reduceNeg, Int.reducePow, Int.reduceSub, Int.reduceToNat, Nat.reduceAdd, Nat.reduceEqDiff, Nat.reduceLT, Nat.reduceLeDiff, Nat.reduceMul, reduceCtorEq]
        refine hN _ _ ⟨v7, by simp only [↓EP, EQ, EM, ↓reduceIte, Int.reduceAdd, Int.reduceEq, Int.reduceLE, Int.reduceLT, Int.reduceMul, Int.reduceNeg, Int.reducePow, Int.reduceSub, Int.reduceToNat, Nat.reduceAdd, Nat.reduceEqDiff, Nat.reduceLT, Nat.reduceLeDiff, Nat.reduceMul, reduceCtorEq], ?_⟩
        rw [show zeros2 (blockI alg) L = 128 by rw [zeros2, if_pos (by omega)]]; exact G7
      · have hz3 : zeros1 (blockI alg) L = 247 - L := by rw [zeros1, if_neg (by omega)]; omega
        simp (disch := omega) only [EO, ↓EP, EQ, EM, ↓reduceIte, Int.reduceAdd, Int.reduceEq, Int.reduceLE, Int.reduceLT, Int.reduceMul, Int.reduceNeg, Int.reducePow, Int.reduceSub, Int.reduceToNat, Nat.reduceAdd, Nat.reduceEqDiff, Nat.reduceLT, Nat.reduceLeDiff, Nat.reduceMul, reduceCtorEq, h5, r4, r0, e', hre6]
        exact stay (by rw [zeros2, if_neg (by omega)]) _ (by simp only [↓EP, EQ, EM, ↓reduceIte, Int.reduceAdd, Int.reduceEq, Int.reduceLE, Int.reduceLT, Int.reduceMul, Int.reduceNeg, Int.reducePow, Int.reduceSub, Int.reduceToNat, Nat.reduceAdd, Nat.reduceEqDiff, Nat.reduceLT, Nat.reduceLeDiff, Nat.reduceMul, reduceCtorEq, h5])
  rintro ρ7 w7 hf ⟨T7, h57, G7⟩
  have r0' : ρ7 0 = .pointer (some ⟨hb, 0, none⟩) := by rw [hf 0 rfl]; simp only [↓EP, EQ, EM, ↓reduceIte, Int.reduceAdd, Int.reduceEq, Int.reduceLE, Int.reduceLT, Int.reduceMul, Int.reduceNeg, Int.reducePow, Int.reduceSub, Int.reduceToNat, Nat.reduceAdd, Nat.reduceEqDiff, Nat.reduceLT, Nat.reduceLeDiff, Nat.reduceMul, reduceCtorEq, r0]
  have r3' : ρ7 3 = .pointer (some ⟨w.heap.size, 0, none⟩) := by rw [hf 3 rfl]; simp only [↓EP, EQ, EM, ↓reduceIte, Int.reduceAdd, Int.reduceEq, Int.reduceLE, Int.reduceLT, Int.reduceMul, Int.reduceNeg, Int.reducePow, Int.reduceSub, Int.reduceToNat, Nat.reduceAdd, Nat.reduceEqDiff, Nat.reduceLT, Nat.reduceLeDiff, Nat.reduceMul, reduceCtorEq, r3]
  have r4' : ρ7 4 = .int .i64 (blockI alg) := by rw [hf 4 rfl]; simp only [↓EP, EQ, EM, ↓reduceIte, Int.reduceAdd, Int.reduceEq, Int.reduceLE, Int.reduceLT, Int.reduceMul, Int.reduceNeg, Int.reducePow, Int.reduceSub, Int.reduceToNat, Nat.reduceAdd, Nat.reduceEqDiff, Nat.reduceLT, Nat.reduceLeDiff, Nat.reduceMul, reduceCtorEq, r4]
  clear hf h5 r0 r3 r4 G6 hTd hre6
  have hz1 : zeros1 (blockI alg) L + zeros2 (blockI alg) L ≤ 260 := by
    unfold zeros2; split <;> omega
  simp only [↓EP, EQ, EM, ↓reduceIte, Int.reduceAdd, Int.reduceEq, Int.reduceLE, Int.reduceLT, Int.reduceMul, Int.reduceNeg, Int.reducePow, Int.reduceSub, Int.reduceToNat, Nat.reduceAdd, Nat.reduceEqDiff, Nat.reduceLT, Nat.reduceLeDiff, Nat.reduceMul, reduceCtorEq]
  refine loop_inv (fun t ρ w' => ∃ (k : Nat) (T : Value), ρ 63 = .int .i64 k ∧ ρ 5 = T ∧ k ≤ 8 ∧ t = 8 - k ∧ Gw .u8 w2 w' T (rest alg m ++ [128] ++ List.replicate (zeros1 (blockI alg) L) 0 ++ List.replicate (zeros2 (blockI alg) L) 0 ++ (List.range k).map (lenB m.length))) 8 ⟨0, T7, by simp only [↓EP, EQ, EM, ↓reduceIte, Int.reduceAdd, Int.reduceEq, Int.reduceLE, Int.reduceLT, Int.reduceMul, Int.reduceNeg, Int.reducePow, Int.reduceSub, Int.reduceToNat, Nat.reduceAdd, Nat.reduceEqDiff, Nat.reduceLT, Nat.reduceLeDiff, Nat.reduceMul, reduceCtorEq], by simp only [↓EP, EQ, EM, ↓reduceIte, Int.reduceAdd, Int.reduceEq, Int.reduceLE, Int.reduceLT, Int.reduceMul, Int.reduceNeg, Int.reducePow, Int.reduceSub, Int.reduceToNat, Nat.reduceAdd, Nat.reduceEqDiff, Nat.reduceLT, Nat.reduceLeDiff, Nat.reduceMul, reduceCtorEq, h57], Nat.zero_le _, rfl, by simpa using G7⟩ ?_
  rintro t ρ8 w8 hf ⟨k, T8, h63, h58, hk, rfl, G8⟩ N hN
  have r0 : ρ8 0 = .pointer (some ⟨hb, 0, none⟩) := by rw [hf 0 rfl]; simp only [↓EP, EQ, EM, ↓reduceIte, Int.reduceAdd, Int.reduceEq, Int.reduceLE, Int.reduceLT, Int.reduceMul, Int.reduceNeg, Int.reducePow, Int.reduceSub, Int.reduceToNat, Nat.reduceAdd, Nat.reduceEqDiff, Nat.reduceLT, Nat.reduceLeDiff, Nat.reduceMul, reduceCtorEq, r0']
  have r3 : ρ8 3 = .pointer (some ⟨w.heap.size, 0, none⟩) := by rw [hf 3 rfl]; simp only [↓EP, EQ, EM, ↓reduceIte, Int.reduceAdd, Int.reduceEq, Int.reduceLE, Int.reduceLT, Int.reduceMul, Int.reduceNeg, Int.reducePow, Int.reduceSub, Int.reduceToNat, Nat.reduceAdd, Nat.reduceEqDiff, Nat.reduceLT, Nat.reduceLeDiff, Nat.reduceMul, reduceCtorEq, r3']
  have r4 : ρ8 4 = .int .i64 (blockI alg) := by rw [hf 4 rfl]; simp only [↓EP, EQ, EM, ↓reduceIte, Int.reduceAdd, Int.reduceEq, Int.reduceLE, Int.reduceLT, Int.reduceMul, Int.reduceNeg, Int.reducePow, Int.reduceSub, Int.reduceToNat, Nat.reduceAdd, Nat.reduceEqDiff, Nat.reduceLT, Nat.reduceLeDiff, Nat.reduceMul, reduceCtorEq, r4']
  clear hf h57 r0' r3' r4' G7
  have H8 := H2.fr G8.fr (fun x => x)
  have hn8 := H8.n
  by_cases hk8 : (k : Int) < 8
  · have e2 : min (56 - 8 * (k : Int)).toNat 64 = 56 - 8 * k := by omega
    simp (disch := omega) only [EO, ↓EP, EQ, EM, ↓reduceIte, Int.reduceAdd, Int.reduceEq, Int.reduceLE, Int.reduceLT, Int.reduceMul, Int.reduceNeg, Int.reducePow, Int.reduceSub, Int.reduceToNat, Nat.reduceAdd, Nat.reduceEqDiff, Nat.reduceLT, Nat.reduceLeDiff, Nat.reduceMul, reduceCtorEq, h63, h58, r0, hn8, e2]
    refine bsl1 fun w9 n9 => ?_
    have G9 := G8.new n9
    simp (disch := omega) only [EO, ↓EP, EQ, EM, ↓reduceIte, Int.reduceAdd, Int.reduceEq, Int.reduceLE, Int.reduceLT, Int.reduceMul, Int.reduceNeg, Int.reducePow, Int.reduceSub, Int.reduceToNat, Nat.reduceAdd, Nat.reduceEqDiff, Nat.reduceLT, Nat.reduceLeDiff, Nat.reduceMul, reduceCtorEq, h63, h58, r0, hn8, e2]
    refine app_num G9.sl rfl n9.rdl (by simp only [List.length_append, List.length_replicate, List.length_cons, List.length_nil, List.length_map, List.length_range]; omega) (by omega) fun v10 w10 a10 => ?_
    have G10 := G9.apd a10
    simp (disch := omega) only [EO, ↓EP, EQ, EM, ↓reduceIte, Int.reduceAdd, Int.reduceEq, Int.reduceLE, Int.reduceLT, Int.reduceMul, Int.reduceNeg, Int.reducePow, Int.reduceSub, Int.reduceToNat, Nat.reduceAdd, Nat.reduceEqDiff, Nat.reduceLT, Nat.reduceLeDiff, Nat.reduceMul, reduceCtorEq, h63, h58, r0, hn8, e2]
    refine hN (8 - (k + 1)) _ _ (by omega) ⟨k + 1, v10, by simp (disch := omega) only [EO, ↓EP, EQ, EM, ↓reduceIte, Int.reduceAdd, Int.reduceEq, Int.reduceLE, Int.reduceLT, Int.reduceMul, Int.reduceNeg, Int.reducePow, Int.reduceSub, Int.reduceToNat, Nat.reduceAdd, Nat.reduceEqDiff, Nat.reduceLT, Nat.reduceLeDiff, Nat.reduceMul, reduceCtorEq, h63, Int.natCast_add], by simp only [↓EP, EQ, EM, ↓reduceIte, Int.reduceAdd, Int.reduceEq, Int.reduceLE, Int.reduceLT, Int.reduceMul, Int.reduceNeg, Int.reducePow, Int.reduceSub, Int.reduceToNat, Nat.reduceAdd, Nat.reduceEqDiff, Nat.reduceLT, Nat.reduceLeDiff, Nat.reduceMul, reduceCtorEq], by omega, rfl, ?_⟩
    rw [map_succ, ← List.append_assoc]; exact G10
  have hke : k = 8 := by omega
  subst hke
  simp (disch := omega) only [EO, ↓EP, EQ, EM, ↓reduceIte, Int.reduceAdd, Int.reduceEq, Int.reduceLE, Int.reduceLT, Int.reduceMul, Int.reduceNeg, Int.reducePow, Int.reduceSub, Int.reduceToNat, Nat.reduceAdd, Nat.reduceEqDiff, Nat.reduceLT, Nat.reduceLeDiff, Nat.reduceMul, reduceCtorEq, h63, h58, r0]
  clear hN
  rw [← hL] at G8
  have G8 : Gw .u8 w2 w8 T8 (tailF alg m) := G8
  obtain ⟨ht1, ht2⟩ := tail_len ha1 ha4 m
  generalize hTl : (tailF alg m).length = N8 at *
  have C8 := C2.fr G8.fr (fun x => x)
  obtain ⟨TA8, tc8, rfl, htc8, hTd8⟩ := readn G8.sl hTl
  refine loop_inv (fun t ρ w' => ∃ (j : Nat), ρ 7 = .int .i64 ((j * blockI alg : Nat) : Int) ∧ j * blockI alg ≤ N8 ∧ t = N8 - j * blockI alg ∧ HC w' w.heap.size alg (rounds (fun j s => mix alg s (part (blockI alg) (tailF alg m) j)) j (run alg m)).1 (rounds (fun j s => mix alg s (part (blockI alg) (tailF alg m) j)) j (run alg m)).2 (.slice RA L rc) m.length ∧ Fr w8 w' (fun b => b = w.heap.size)) N8 ⟨0, by simp only [↓EP, EQ, EM, ↓reduceIte, Int.reduceAdd, Int.reduceEq, Int.reduceLE, Int.reduceLT, Int.reduceMul, Int.reduceNeg, Int.reducePow, Int.reduceSub, Int.reduceToNat, Nat.reduceAdd, Nat.reduceEqDiff, Nat.reduceLT, Nat.reduceLeDiff, Nat.reduceMul, reduceCtorEq, Nat.zero_mul], by omega, by omega, C8, Fr.refl _ _⟩ ?_
  rintro t ρ9 w9 hf ⟨j, h7, hj, rfl, C9, f9⟩ N hN
  have r0' : ρ9 0 = .pointer (some ⟨hb, 0, none⟩) := by rw [hf 0 rfl]; simp only [↓EP, EQ, EM, ↓reduceIte, Int.reduceAdd, Int.reduceEq, Int.reduceLE, Int.reduceLT, Int.reduceMul, Int.reduceNeg, Int.reducePow, Int.reduceSub, Int.reduceToNat, Nat.reduceAdd, Nat.reduceEqDiff, Nat.reduceLT, Nat.reduceLeDiff, Nat.reduceMul, reduceCtorEq, r0]
  have r3' : ρ9 3 = .pointer (some ⟨w.heap.size, 0, none⟩) := by rw [hf 3 rfl]; simp only [↓EP, EQ, EM, ↓reduceIte, Int.reduceAdd, Int.reduceEq, Int.reduceLE, Int.reduceLT, Int.reduceMul, Int.reduceNeg, Int.reducePow, Int.reduceSub, Int.reduceToNat, Nat.reduceAdd, Nat.reduceEqDiff, Nat.reduceLT, Nat.reduceLeDiff, Nat.reduceMul, reduceCtorEq, r3]
  have r4' : ρ9 4 = .int .i64 (blockI alg) := by rw [hf 4 rfl]; simp only [↓EP, EQ, EM, ↓reduceIte, Int.reduceAdd, Int.reduceEq, Int.reduceLE, Int.reduceLT, Int.reduceMul, Int.reduceNeg, Int.reducePow, Int.reduceSub, Int.reduceToNat, Nat.reduceAdd, Nat.reduceEqDiff, Nat.reduceLT, Nat.reduceLeDiff, Nat.reduceMul, reduceCtorEq, r4]
  have r5' : ρ9 5 = .slice TA8 N8 tc8 := by rw [hf 5 rfl]; simp only [↓EP, EQ, EM, ↓reduceIte, Int.reduceAdd, Int.reduceEq, Int.reduceLE, Int.reduceLT, Int.reduceMul, Int.reduceNeg, Int.reducePow, Int.reduceSub, Int.reduceToNat, Nat.reduceAdd, Nat.reduceEqDiff, Nat.reduceLT, Nat.reduceLeDiff, Nat.reduceMul, reduceCtorEq, h58]
  clear hf
  by_cases hjN : ((j * blockI alg : Nat) : Int) < (N8 : Int)
  · have hjl : j * blockI alg + blockI alg ≤ N8 := step_le hbs ht1 (by omega)
    have hjs : (j + 1) * blockI alg = j * blockI alg + blockI alg := by rw [Nat.add_mul, Nat.one_mul]
    simp (disch := omega) only [EO, ↓EP, EQ, EM, ↓reduceIte, Int.reduceAdd, Int.reduceEq, Int.reduceLE, Int.reduceLT, Int.reduceMul, Int.reduceNeg, Int.reducePow, Int.reduceSub, Int.reduceToNat, Nat.reduceAdd, Nat.reduceEqDiff, Nat.reduceLT, Nat.reduceLeDiff, Nat.reduceMul, reduceCtorEq, h7, r3', r4', r5']
    have hoff : offA TA8 (fun b => b = w.heap.size) := fun p e h' => by
      have := G8.up p.block (by rw [e]; rfl)
      omega
    have hTd9 := (hTd8.fr f9 (.inr hoff)).subA tc8 (j * blockI alg) (by omega)
    refine block_spec' C9 ha1 ha4 ((T2.fr G8.fr (fun x => x) (fun x => x)).fr f9 (by omega) (by omega)) (by omega) (p := part (blockI alg) (tailF alg m) j) (hTd9.take (blockI alg)) (by rw [part, List.length_take, List.length_drop, hTl]; omega) _ fun w10 C10 f10 => ?_
    simp (disch := omega) only [EO, ↓EP, EQ, EM, ↓reduceIte, Int.reduceAdd, Int.reduceEq, Int.reduceLE, Int.reduceLT, Int.reduceMul, Int.reduceNeg, Int.reducePow, Int.reduceSub, Int.reduceToNat, Nat.reduceAdd, Nat.reduceEqDiff, Nat.reduceLT, Nat.reduceLeDiff, Nat.reduceMul, reduceCtorEq, h7, r3', r4', r5']
    refine hN (N8 - (j + 1) * blockI alg) _ _ (by omega) ⟨j + 1, ?_, by omega, rfl, C10, f9.trans f10 fun _ _ e => e⟩
    simp (disch := omega) only [EO, ↓EP, EQ, EM, ↓reduceIte, Int.reduceAdd, Int.reduceEq, Int.reduceLE, Int.reduceLT, Int.reduceMul, Int.reduceNeg, Int.reducePow, Int.reduceSub, Int.reduceToNat, Nat.reduceAdd, Nat.reduceEqDiff, Nat.reduceLT, Nat.reduceLeDiff, Nat.reduceMul, reduceCtorEq, h7, r4']
    rw [hjs, Int.natCast_add]
  have hje : N8 / blockI alg = j := step_end hbs (by omega)
  have hlast : last alg m = rounds (fun j s => mix alg s (part (blockI alg) (tailF alg m) j)) j (run alg m) := by rw [last, hTl, hje]
  rw [← hlast] at C9
  have H9 := H8.fr f9 (by omega)
  have f09 : Fr w w9 nob := (f2.trans G8.fr fun _ _ e => e).trans f9 fun b hb e => by omega
  simp (disch := omega) only [EO, ↓EP, EQ, EM, ↓reduceIte, Int.reduceAdd, Int.reduceEq, Int.reduceLE, Int.reduceLT, Int.reduceMul, Int.reduceNeg, Int.reducePow, Int.reduceSub, Int.reduceToNat, Nat.reduceAdd, Nat.reduceEqDiff, Nat.reduceLT, Nat.reduceLeDiff, Nat.reduceMul, reduceCtorEq, h7, r0', r3', r4', r5']
  clear hN h7 h63 h58 r0 r3 r4 r5' hTd8 G8 f9 C8 H8 hn8 C2 H2 hal2 hre2
  have hal9 := H9.alg
  have hol := out_len ha1 ha4 (last alg m)
  have fin : ∀ (A : Option Addr) (c : Nat) (w12 : World), Gw .u8 w9 w12 (.slice A (outF alg (last alg m)).length c) (outF alg (last alg m)) → (outF alg (last alg m)).length ≤ c → K (.slice A (sizeI alg).toNat c) w12 := by
    intro A c w12 G hc
    refine hK A c w12 (by omega) (G.sl.cut hol.1 (by omega)) (fun b hb => Nat.le_trans f09.size (G.up b (by cases A with | none => cases hb | some p => exact hb))) (f09.trans G.fr fun _ _ e => e)
  rcases hbs with e | e
  · have e' : (blockI alg : Int) = 64 := by omega
    refine loop_inv (fun t ρ w' => ∃ (i : Nat) (O : Value), ρ 95 = .int .i64 i ∧ ρ 8 = O ∧ i ≤ 8 ∧ t = 8 - i ∧ Gw .u8 w9 w' O ((List.range i).flatMap fun (i : Nat) => Spec.w4 (at' (last alg m).1 (i : Int)))) 8 ⟨0, .slice none 0 0, by simp only [↓EP, EQ, EM, ↓reduceIte, Int.reduceAdd, Int.reduceEq, Int.reduceLE, Int.reduceLT, Int.reduceMul, Int.reduceNeg, Int.reducePow, Int.reduceSub, Int.reduceToNat, Nat.reduceAdd, Nat.reduceEqDiff, Nat.reduceLT, Nat.reduceLeDiff, Nat.reduceMul, reduceCtorEq], by simp only [↓EP, EQ, EM, ↓reduceIte, Int.reduceAdd, Int.reduceEq, Int.reduceLE, Int.reduceLT, Int.reduceMul, Int.reduceNeg, Int.reducePow, Int.reduceSub, Int.reduceToNat, Nat.reduceAdd, Nat.reduceEqDiff, Nat.reduceLT, Nat.reduceLeDiff, Nat.reduceMul, reduceCtorEq], Nat.zero_le _, rfl, Gw.nil _ _⟩ ?_
    rintro t ρ10 w10 hf ⟨i, O, h95, h8, hi8, rfl, G10⟩ N hN
    have r0 : ρ10 0 = .pointer (some ⟨hb, 0, none⟩) := by rw [hf 0 rfl]; simp only [↓EP, EQ, EM, ↓reduceIte, Int.reduceAdd, Int.reduceEq, Int.reduceLE, Int.reduceLT, Int.reduceMul, Int.reduceNeg, Int.reducePow, Int.reduceSub, Int.reduceToNat, Nat.reduceAdd, Nat.reduceEqDiff, Nat.reduceLT, Nat.reduceLeDiff, Nat.reduceMul, reduceCtorEq, r0']
    have r3 : ρ10 3 = .pointer (some ⟨w.heap.size, 0, none⟩) := by rw [hf 3 rfl]; simp only [↓EP, EQ, EM, ↓reduceIte, Int.reduceAdd, Int.reduceEq, Int.reduceLE, Int.reduceLT, Int.reduceMul, Int.reduceNeg, Int.reducePow, Int.reduceSub, Int.reduceToNat, Nat.reduceAdd, Nat.reduceEqDiff, Nat.reduceLT, Nat.reduceLeDiff, Nat.reduceMul, reduceCtorEq, r3']
    have r4 : ρ10 4 = .int .i64 (blockI alg) := by rw [hf 4 rfl]; simp only [↓EP, EQ, EM, ↓reduceIte, Int.reduceAdd, Int.reduceEq, Int.reduceLE, Int.reduceLT, Int.reduceMul, Int.reduceNeg, Int.reducePow, Int.reduceSub, Int.reduceToNat, Nat.reduceAdd, Nat.reduceEqDiff, Nat.reduceLT, Nat.reduceLeDiff, Nat.reduceMul, reduceCtorEq, r4']
    have hgl := flat_len (f := fun (i : Nat) => Spec.w4 (at' (last alg m).1 (i : Int))) (n := 4) (fun _ => rfl) i
    clear hf
    by_cases hi9 : (i : Int) < 8
    · have C10 := C9.fr G10.fr (fun x => x)
      have hcw := C10.w_ i (by omega)
      simp (disch := omega) only [EO, ↓EP, EQ, EM, ↓reduceIte, Int.reduceAdd, Int.reduceEq, Int.reduceLE, Int.reduceLT, Int.reduceMul, Int.reduceNeg, Int.reducePow, Int.reduceSub, Int.reduceToNat, Nat.reduceAdd, Nat.reduceEqDiff, Nat.reduceLT, Nat.reduceLeDiff, Nat.reduceMul, reduceCtorEq, W_join, h95, h8, r0, r3, r4, e', hcw]
      intro m1
      have G11 := G10.drewN (1 + m1)
      refine bsl4 fun w11 n11 => ?_
      have G12 := G11.new n11
      simp (disch := omega) only [EO, ↓EP, EQ, EM, ↓reduceIte, Int.reduceAdd, Int.reduceEq, Int.reduceLE, Int.reduceLT, Int.reduceMul, Int.reduceNeg, Int.reducePow, Int.reduceSub, Int.reduceToNat, Nat.reduceAdd, Nat.reduceEqDiff, Nat.reduceLT, Nat.reduceLeDiff, Nat.reduceMul, reduceCtorEq, h8]
      intro m2
      refine app_num (G12.drewN m2).sl rfl (n11.rdl.drewN m2) (by rw [hgl]; simp only [List.length_cons, List.length_nil]; omega) (by omega) fun v13 w13 a13 => ?_
      have G13 := (G12.drewN m2).apd a13
      simp (disch := omega) only [EO, ↓EP, EQ, EM, ↓reduceIte, Int.reduceAdd, Int.reduceEq, Int.reduceLE, Int.reduceLT, Int.reduceMul, Int.reduceNeg, Int.reducePow, Int.reduceSub, Int.reduceToNat, Nat.reduceAdd, Nat.reduceEqDiff, Nat.reduceLT, Nat.reduceLeDiff, Nat.reduceMul, reduceCtorEq, h95]
      intro m3
      refine hN (8 - (i + 1)) _ _ (by omega) ⟨i + 1, v13, by simp (disch := omega) only [EO, ↓EP, EQ, EM, ↓reduceIte, Int.reduceAdd, Int.reduceEq, Int.reduceLE, Int.reduceLT, Int.reduceMul, Int.reduceNeg, Int.reducePow, Int.reduceSub, Int.reduceToNat, Nat.reduceAdd, Nat.reduceEqDiff, Nat.reduceLT, Nat.reduceLeDiff, Nat.reduceMul, reduceCtorEq, h95, Int.natCast_add], by simp only [↓EP, EQ, EM, ↓reduceIte, Int.reduceAdd, Int.reduceEq, Int.reduceLE, Int.reduceLT, Int.reduceMul, Int.reduceNeg, Int.reducePow, Int.reduceSub, Int.reduceToNat, Nat.reduceAdd, Nat.reduceEqDiff, Nat.reduceLT, Nat.reduceLeDiff, Nat.reduceMul, reduceCtorEq], by omega, rfl, ?_⟩
      rw [flat_succ]; exact G13.drewN m3
    · have hie : i = 8 := by omega
      subst hie
      have hout : outF alg (last alg m) = (List.range 8).flatMap fun (i : Nat) => Spec.w4 (at' (last alg m).1 (i : Int)) := by rw [outF, if_pos e]
      rw [← hout] at G10
      obtain ⟨OA, oc, rfl, hoc, hOd⟩ := readn G10.sl rfl
      have hal10 := (H9.fr G10.fr (fun x => x)).alg
      simp (disch := omega) only [EO, ↓EP, EQ, EM, ↓reduceIte, Int.reduceAdd, Int.reduceEq, Int.reduceLE, Int.reduceLT, Int.reduceMul, Int.reduceNeg, Int.reducePow, Int.reduceSub, Int.reduceToNat, Nat.reduceAdd, Nat.reduceEqDiff, Nat.reduceLT, Nat.reduceLeDiff, Nat.reduceMul, reduceCtorEq, h95, h8, r0, hal10]
      refine size_spec alg _ _ ?_
      simp (disch := omega) only [EO, ↓EP, EQ, EM, ↓reduceIte, Int.reduceAdd, Int.reduceEq, Int.reduceLE, Int.reduceLT, Int.reduceMul, Int.reduceNeg, Int.reducePow, Int.reduceSub, Int.reduceToNat, Nat.reduceAdd, Nat.reduceEqDiff, Nat.reduceLT, Nat.reduceLeDiff, Nat.reduceMul, reduceCtorEq, h95, h8, r0, hal10]
      exact fin OA oc w10 G10 hoc
  · have e' : (blockI alg : Int) = 128 := by omega
    refine loop_inv (fun t ρ w' => ∃ (i : Nat) (O : Value), ρ 95 = .int .i64 i ∧ ρ 8 = O ∧ i ≤ 8 ∧ t = 8 - i ∧ Gw .u8 w9 w' O ((List.range i).flatMap fun (i : Nat) => v8 (at' (last alg m).2 (i : Int)))) 8 ⟨0, .slice none 0 0, by simp only [↓EP, EQ, EM, ↓reduceIte, Int.reduceAdd, Int.reduceEq, Int.reduceLE, Int.reduceLT, Int.reduceMul, Int.reduceNeg, Int.reducePow, Int.reduceSub, Int.reduceToNat, Nat.reduceAdd, Nat.reduceEqDiff, Nat.reduceLT, Nat.reduceLeDiff, Nat.reduceMul, reduceCtorEq], by simp only [↓EP, EQ, EM, ↓reduceIte, Int.reduceAdd, Int.reduceEq, Int.reduceLE, Int.reduceLT, Int.reduceMul, Int.reduceNeg, Int.reducePow, Int.reduceSub, Int.reduceToNat, Nat.reduceAdd, Nat.reduceEqDiff, Nat.reduceLT, Nat.reduceLeDiff, Nat.reduceMul, reduceCtorEq], Nat.zero_le _, rfl, Gw.nil _ _⟩ ?_
    rintro t ρ10 w10 hf ⟨i, O, h95, h8, hi8, rfl, G10⟩ N hN
    have r0 : ρ10 0 = .pointer (some ⟨hb, 0, none⟩) := by rw [hf 0 rfl]; simp only [↓EP, EQ, EM, ↓reduceIte, Int.reduceAdd, Int.reduceEq, Int.reduceLE, Int.reduceLT, Int.reduceMul, Int.reduceNeg, Int.reducePow, Int.reduceSub, Int.reduceToNat, Nat.reduceAdd, Nat.reduceEqDiff, Nat.reduceLT, Nat.reduceLeDiff, Nat.reduceMul, reduceCtorEq, r0']
    have r3 : ρ10 3 = .pointer (some ⟨w.heap.size, 0, none⟩) := by rw [hf 3 rfl]; simp only [↓EP, EQ, EM, ↓reduceIte, Int.reduceAdd, Int.reduceEq, Int.reduceLE, Int.reduceLT, Int.reduceMul, Int.reduceNeg, Int.reducePow, Int.reduceSub, Int.reduceToNat, Nat.reduceAdd, Nat.reduceEqDiff, Nat.reduceLT, Nat.reduceLeDiff, Nat.reduceMul, reduceCtorEq, r3']
    have r4 : ρ10 4 = .int .i64 (blockI alg) := by rw [hf 4 rfl]; simp only [↓EP, EQ, EM, ↓reduceIte, Int.reduceAdd, Int.reduceEq, Int.reduceLE, Int.reduceLT, Int.reduceMul, Int.reduceNeg, Int.reducePow, Int.reduceSub, Int.reduceToNat, Nat.reduceAdd, Nat.reduceEqDiff, Nat.reduceLT, Nat.reduceLeDiff, Nat.reduceMul, reduceCtorEq, r4']
    have hgl := flat_len (f := fun (i : Nat) => v8 (at' (last alg m).2 (i : Int))) (n := 8) (fun _ => by simp [v8]) i
    clear hf
    by_cases hi9 : (i : Int) < 8
    · simp (disch := omega) only [EO, ↓EP, EQ, EM, ↓reduceIte, Int.reduceAdd, Int.reduceEq, Int.reduceLE, Int.reduceLT, Int.reduceMul, Int.reduceNeg, Int.reducePow, Int.reduceSub, Int.reduceToNat, Nat.reduceAdd, Nat.reduceEqDiff, Nat.reduceLT, Nat.reduceLeDiff, Nat.reduceMul, reduceCtorEq, W_join, h95, h8, r0, r3, r4, e']
      refine loop_inv (fun t ρ w' => ∃ (k : Nat) (O : Value), ρ 126 = .int .i64 k ∧ ρ 8 = O ∧ k ≤ 8 ∧ t = 8 - k ∧ Gw .u8 w9 w' O (((List.range i).flatMap fun (i : Nat) => v8 (at' (last alg m).2 (i : Int))) ++ (List.range k).map fun k => IntKind.u8.wrap ((at' (last alg m).2 (i : Int)).fdiv (2 ^ (56 - 8 * k))))) 8 ⟨0, O, by simp only [↓EP, EQ, EM, ↓reduceIte, Int.reduceAdd, Int.reduceEq, Int.reduceLE, Int.reduceLT, Int.reduceMul, Int.reduceNeg, Int.reducePow, Int.reduceSub, Int.reduceToNat, Nat.reduceAdd, Nat.reduceEqDiff, Nat.reduceLT, Nat.reduceLeDiff, Nat.reduceMul, reduceCtorEq], by simp only [↓EP, EQ, EM, ↓reduceIte, Int.reduceAdd, Int.reduceEq, Int.reduceLE, Int.reduceLT, Int.reduceMul, Int.reduceNeg, Int.reducePow, Int.reduceSub, Int.reduceToNat, Nat.reduceAdd, Nat.reduceEqDiff, Nat.reduceLT, Nat.reduceLeDiff, Nat.reduceMul, reduceCtorEq, h8], Nat.zero_le _, rfl, by simpa using G10⟩ ?_
      rintro t ρ11 w11 hf ⟨k, O', h126, h8', hk8, rfl, G11⟩ N' hN'
      have q3 : ρ11 3 = .pointer (some ⟨w.heap.size, 0, none⟩) := by rw [hf 3 rfl]; simp only [↓EP, EQ, EM, ↓reduceIte, Int.reduceAdd, Int.reduceEq, Int.reduceLE, Int.reduceLT, Int.reduceMul, Int.reduceNeg, Int.reducePow, Int.reduceSub, Int.reduceToNat, Nat.reduceAdd, Nat.reduceEqDiff, Nat.reduceLT, Nat.reduceLeDiff, Nat.reduceMul, reduceCtorEq, r3]
      have q9 : ρ11 9 = .int .i64 i := by rw [hf 9 rfl]; simp only [↓EP, EQ, EM, ↓reduceIte, Int.reduceAdd, Int.reduceEq, Int.reduceLE, Int.reduceLT, Int.reduceMul, Int.reduceNeg, Int.reducePow, Int.reduceSub, Int.reduceToNat, Nat.reduceAdd, Nat.reduceEqDiff, Nat.reduceLT, Nat.reduceLeDiff, Nat.reduceMul, reduceCtorEq, h95]
      have q95 : ρ11 95 = .int .i64 i := by rw [hf 95 rfl]; simp only [↓EP, EQ, EM, ↓reduceIte, Int.reduceAdd, Int.reduceEq, Int.reduceLE, Int.reduceLT, Int.reduceMul, Int.reduceNeg, Int.reducePow, Int.reduceSub, Int.reduceToNat, Nat.reduceAdd, Nat.reduceEqDiff, Nat.reduceLT, Nat.reduceLeDiff, Nat.reduceMul, reduceCtorEq, h95]
      clear hf
      by_cases hk9 : (k : Int) < 8
      · have e2 : min (56 - 8 * (k : Int)).toNat 64 = 56 - 8 * k := by omega
        have hcv := (C9.fr G11.fr (fun x => x)).v_ i (by omega)
        simp (disch := omega) only [EO, ↓EP, EQ, EM, ↓reduceIte, Int.reduceAdd, Int.reduceEq, Int.reduceLE, Int.reduceLT, Int.reduceMul, Int.reduceNeg, Int.reducePow, Int.reduceSub, Int.reduceToNat, Nat.reduceAdd, Nat.reduceEqDiff, Nat.reduceLT, Nat.reduceLeDiff, Nat.reduceMul, reduceCtorEq, h126, h8', q3, q9, hcv, e2]
        refine bsl1 fun w12 n12 => ?_
        have G12 := G11.new n12
        simp (disch := omega) only [EO, ↓EP, EQ, EM, ↓reduceIte, Int.reduceAdd, Int.reduceEq, Int.reduceLE, Int.reduceLT, Int.reduceMul, Int.reduceNeg, Int.reducePow, Int.reduceSub, Int.reduceToNat, Nat.reduceAdd, Nat.reduceEqDiff, Nat.reduceLT, Nat.reduceLeDiff, Nat.reduceMul, reduceCtorEq, h126, h8', q3, q9, hcv, e2]
        refine app_num G12.sl rfl n12.rdl (by rw [List.length_append, hgl]; simp only [List.length_cons, List.length_nil, List.length_map, List.length_range]; omega) (by omega) fun v13 w13 a13 => ?_
        have G13 := G12.apd a13
        simp (disch := omega) only [EO, ↓EP, EQ, EM, ↓reduceIte, Int.reduceAdd, Int.reduceEq, Int.reduceLE, Int.reduceLT, Int.reduceMul, Int.reduceNeg, Int.reducePow, Int.reduceSub, Int.reduceToNat, Nat.reduceAdd, Nat.reduceEqDiff, Nat.reduceLT, Nat.reduceLeDiff, Nat.reduceMul, reduceCtorEq, h126]
        refine hN' (8 - (k + 1)) _ _ (by omega) ⟨k + 1, v13, by simp (disch := omega) only [EO, ↓EP, EQ, EM, ↓reduceIte, Int.reduceAdd, Int.reduceEq, Int.reduceLE, Int.reduceLT, Int.reduceMul, Int.reduceNeg, Int.reducePow, Int.reduceSub, Int.reduceToNat, Nat.reduceAdd, Nat.reduceEqDiff, Nat.reduceLT, Nat.reduceLeDiff, Nat.reduceMul, reduceCtorEq, h126, Int.natCast_add], by simp only [↓EP, EQ, EM, ↓reduceIte, Int.reduceAdd, Int.reduceEq, Int.reduceLE, Int.reduceLT, Int.reduceMul, Int.reduceNeg, Int.reducePow, Int.reduceSub, Int.reduceToNat, Nat.reduceAdd, Nat.reduceEqDiff, Nat.reduceLT, Nat.reduceLeDiff, Nat.reduceMul, reduceCtorEq], by omega, rfl, ?_⟩
        rw [map_succ, ← List.append_assoc]; exact G13
      · have hke : k = 8 := by omega
        subst hke
        simp (disch := omega) only [EO, ↓EP, EQ, EM, ↓reduceIte, Int.reduceAdd, Int.reduceEq, Int.reduceLE, Int.reduceLT, Int.reduceMul, Int.reduceNeg, Int.reducePow, Int.reduceSub, Int.reduceToNat, Nat.reduceAdd, Nat.reduceEqDiff, Nat.reduceLT, Nat.reduceLeDiff, Nat.reduceMul, reduceCtorEq, h126, q95]
        refine hN (8 - (i + 1)) _ _ (by omega) ⟨i + 1, O', by simp (disch := omega) only [EO, ↓EP, EQ, EM, ↓reduceIte, Int.reduceAdd, Int.reduceEq, Int.reduceLE, Int.reduceLT, Int.reduceMul, Int.reduceNeg, Int.reducePow, Int.reduceSub, Int.reduceToNat, Nat.reduceAdd, Nat.reduceEqDiff, Nat.reduceLT, Nat.reduceLeDiff, Nat.reduceMul, reduceCtorEq, q95, Int.natCast_add], by simp only [↓EP, EQ, EM, ↓reduceIte, Int.reduceAdd, Int.reduceEq, Int.reduceLE, Int.reduceLT, Int.reduceMul, Int.reduceNeg, Int.reducePow, Int.reduceSub, Int.reduceToNat, Nat.reduceAdd, Nat.reduceEqDiff, Nat.reduceLT, Nat.reduceLeDiff, Nat.reduceMul, reduceCtorEq, h8'], by omega, rfl, ?_⟩
        rw [flat_succ]; exact G11
    · have hie : i = 8 := by omega
      subst hie
      have hout : outF alg (last alg m) = (List.range 8).flatMap fun (i : Nat) => v8 (at' (last alg m).2 (i : Int)) := by rw [outF, if_neg (by omega)]
      rw [← hout] at G10
      obtain ⟨OA, oc, rfl, hoc, hOd⟩ := readn G10.sl rfl
      have hal10 := (H9.fr G10.fr (fun x => x)).alg
      simp (disch := omega) only [EO, ↓EP, EQ, EM, ↓reduceIte, Int.reduceAdd, Int.reduceEq, Int.reduceLE, Int.reduceLT, Int.reduceMul, Int.reduceNeg, Int.reducePow, Int.reduceSub, Int.reduceToNat, Nat.reduceAdd, Nat.reduceEqDiff, Nat.reduceLT, Nat.reduceLeDiff, Nat.reduceMul, reduceCtorEq, h95, h8, r0, hal10]
      refine size_spec alg _ _ ?_
      simp (disch := omega) only [EO, ↓EP, EQ, EM, ↓reduceIte, Int.reduceAdd, Int.reduceEq, Int.reduceLE, Int.reduceLT, Int.reduceMul, Int.reduceNeg, Int.reducePow, Int.reduceSub, Int.reduceToNat, Nat.reduceAdd, Nat.reduceEqDiff, Nat.reduceLT, Nat.reduceLeDiff, Nat.reduceMul, reduceCtorEq, h95, h8, r0, hal10]
      exact fin OA oc w10 G10 hoc
end Go.Proofs.YtibccpfocbdmaaaDoor.Spec
