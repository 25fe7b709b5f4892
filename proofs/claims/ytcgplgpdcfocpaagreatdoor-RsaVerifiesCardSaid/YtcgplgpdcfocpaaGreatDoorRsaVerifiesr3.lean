/- RsaVerifies: what is used, in one text. -/
import Derived.Test.YtcgplgpdcfocpaaGreatDoorRows
import Derived.Lib.LaidTab
import Derived.Lay
import Derived.Carry
import Derived.Lib.MakeNoZero
import Derived.Laws.Externs
import Derived.Shelf.Strconv.Itoa3
import Derived.Lib.ItoaNum
import Derived.Laws.Strings
import Derived.Test.YtcgplgpdcfocpaaGreatDoorRsaVerifiesr2
set_option linter.unusedVariables false
set_option linter.unusedSimpArgs false
open Int renaming reduceAdd → Za, reduceEq → Zb, reduceLE → Zc, reduceLT → Zd, reduceMul → Ze, reduceNeg → Zf, reducePow → Zg, reduceSub → Zj, reduceToNat → Zk
open Nat renaming reduceAdd → Zl, reduceEqDiff → Zm, reduceLT → Zn, reduceLeDiff → Zp, reduceMul → Zq
section
set_option linter.unusedVariables false
set_option linter.unusedSimpArgs false
namespace Go.Proofs.YtcgplgpdcfocpaaGreatDoor.Spec
open Go Go.RowKit Go.Proofs Go.Proofs.YtcgplgpdcfocpaaGreatDoor.Eng Go.Proofs.YtcgplgpdcfocpaaGreatDoor.Code
set_option maxRecDepth 100000
attribute [local irreducible] one
def zeros1 (bs L : Nat) : Nat := if L + 9 ≤ bs then bs - 9 - L else 2 * bs - 9 - L
def zeros2 (bs L : Nat) : Nat := if bs = 128 ∧ 112 ≤ L ∧ L + 9 ≤ 128 then 128 else 0
def lenB (n : Nat) (i : Nat) : Int := IntKind.u8.wrap ((IntKind.u64.wrap (8 * (n : Int))).fdiv (2 ^ (56 - 8 * i)))
def tailF (alg : Int) (m : List Int) : List Int :=
  rest alg m ++ [128] ++ List.replicate (zeros1 (blockI alg) (rest alg m).length) 0 ++ List.replicate (zeros2 (blockI alg) (rest alg m).length) 0 ++ (List.range 8).map (lenB m.length)
def last (alg : Int) (m : List Int) : List Int × List Int :=
  rounds (fun j s => mix alg s (part (blockI alg) (tailF alg m) j)) ((tailF alg m).length / blockI alg) (run alg m)
def w4 (x : Int) : List Int := [IntKind.u8.wrap (x.fdiv 16777216), IntKind.u8.wrap (x.fdiv 65536), IntKind.u8.wrap (x.fdiv 256), IntKind.u8.wrap x]
def v8 (x : Int) : List Int := (List.range 8).map fun k => IntKind.u8.wrap (x.fdiv (2 ^ (56 - 8 * k)))
def outF (alg : Int) (s : List Int × List Int) : List Int :=
  if blockI alg = 64 then (List.range 8).flatMap fun (i : Nat) => w4 (at' s.1 (i : Int)) else (List.range 8).flatMap fun (i : Nat) => v8 (at' s.2 (i : Int))
def dig (alg : Int) (m : List Int) : List Int := (outF alg (last alg m)).take (sizeI alg).toNat
theorem tail_len {alg : Int} (a1 : 1 ≤ alg) (a4 : alg ≤ 4) (m : List Int) : (tailF alg m).length % blockI alg = 0 ∧ (tailF alg m).length ≤ 400 := by
  have hb := blockI_or a1 a4
  have hl := rest_len a1 a4 m
  have hd := div_facts a1 a4 m
  simp only [tailF, List.length_append, List.length_replicate, List.length_map, List.length_range, List.length_cons, List.length_nil]
  generalize (rest alg m).length = L at *
  generalize m.length / blockI alg * blockI alg = Q at *
  generalize blockI alg = bs at *
  unfold zeros1 zeros2
  rcases hb with rfl | rfl <;> split <;> split <;> omega
theorem zero_no {bs L z : Nat} (hb : bs = 64 ∨ bs = 128) (hL : L < bs) (hz : z < zeros1 bs L) : (((L + 1 + z : Nat) : Int) % (bs : Int) = (bs : Int) - 8) = False := by
  apply eq_false
  unfold zeros1 at hz
  rcases hb with rfl | rfl <;> split at hz <;> omega
theorem zero_yes {bs L : Nat} (hb : bs = 64 ∨ bs = 128) (hL : L < bs) : (((L + 1 + zeros1 bs L : Nat) : Int) % (bs : Int) = (bs : Int) - 8) = True := by
  apply eq_true
  unfold zeros1
  rcases hb with rfl | rfl <;> split <;> omega
theorem step_le {bs N j : Nat} (h : bs = 64 ∨ bs = 128) (hN : N % bs = 0) (hj : j * bs < N) : j * bs + bs ≤ N := by rcases h with rfl | rfl <;> omega
theorem step_end {bs N j : Nat} (h : bs = 64 ∨ bs = 128) (hj : j * bs = N) : N / bs = j := by rcases h with rfl | rfl <;> omega
theorem block_spec' {w : World} {hb : Nat} {alg : Int} {ws vs : List Int} {rv : Value} {n : Int} (h : HC w hb alg ws vs rv n) (ha : 1 ≤ alg) (ha' : alg ≤ 4) (hT : Tb w) {A : Option Addr} {c k : Nat} (hk : k = blockI alg) {p : List Int} (hr : Rd w A (nums .u8 p)) (hp : p.length = blockI alg) (K : Value → World → Prop)
    (hK : ∀ w', HC w' hb alg (mix alg (ws, vs) p).1 (mix alg (ws, vs) p).2 rv n → Fr w w' (fun b => b = hb) → K (.tuple #[]) w') : callK Tryz.prog 99 [.pointer (some ⟨hb, 0, none⟩), .slice A k c] w K := by
  subst hk; exact block_spec h ha ha' hT hr hp K hK
theorem hc_one {alg : Int} {ws vs : List Int} {rv : Value} {n : Int} (hr : rv.oneCell' = true) : ∀ u ∈ hc alg ws vs rv n, u.oneCell' = true := by
  intro u hu
  simp only [hc, List.mem_cons, List.mem_append, List.not_mem_nil, or_false] at hu
  rcases hu with rfl | hu | hu | rfl | rfl
  · rfl
  · exact nums_one _ _ u hu
  · exact nums_one _ _ u hu
  · exact hr
  · rfl
theorem readn {k : IntKind} {w : World} {v : Value} {l : List Int} (h : Sl k w v l) {n : Nat} (hn : l.length = n) : ∃ A c, v = .slice A n c ∧ n ≤ c ∧ Rd w A (nums k l) := by
  subst hn; obtain ⟨A, c, e, h1, h2, _⟩ := h.read; exact ⟨A, c, e, h1, h2⟩
theorem flat_len {f : Nat → List Int} {n : Nat} (h : ∀ i, (f i).length = n) : ∀ k, ((List.range k).flatMap f).length = k * n
  | 0 => by simp
  | k + 1 => by rw [List.range_succ, List.flatMap_append, List.length_append, flat_len h k]; simp [h]; rw [Nat.add_mul]; omega
theorem flat_succ (f : Nat → List Int) (k : Nat) : (List.range (k + 1)).flatMap f = (List.range k).flatMap f ++ f k := by
  rw [List.range_succ, List.flatMap_append]; simp
theorem map_succ (f : Nat → Int) (k : Nat) : (List.range (k + 1)).map f = (List.range k).map f ++ [f k] := by
  rw [List.range_succ, List.map_append]; simp
theorem out_len {alg : Int} (a1 : 1 ≤ alg) (a4 : alg ≤ 4) (s : List Int × List Int) : (sizeI alg).toNat ≤ (outF alg s).length ∧ (outF alg s).length ≤ 64 := by
  have h1 : ∀ i : Nat, (w4 (at' s.1 (i : Int))).length = 4 := fun i => rfl
  have h2 : ∀ i : Nat, (v8 (at' s.2 (i : Int))).length = 8 := fun i => by simp [v8]
  have c : alg = 1 ∨ alg = 2 ∨ alg = 3 ∨ alg = 4 := by omega
  rcases c with rfl | rfl | rfl | rfl
  · rw [outF, if_pos (by decide), flat_len h1]; decide
  · rw [outF, if_pos (by decide), flat_len h1]; decide
  · rw [outF, if_neg (by decide), flat_len h2]; decide
  · rw [outF, if_neg (by decide), flat_len h2]; decide
set_option maxHeartbeats 4000000 in
theorem sum_spec {w : World} {hb : Nat} {rv : Value} {alg : Int} {m : List Int} (h : Hsh w hb rv alg m) (hT : Tb w) (hmx : m.length ≤ 16777216) (K : Value → World → Prop)
    (hK : ∀ A c w', (sizeI alg).toNat ≤ c → Sl .u8 w' (.slice A (sizeI alg).toNat c) (dig alg m) → (∀ b, blkOf (.slice A (sizeI alg).toNat c) = some b → w.heap.size ≤ b) → Fr w w' nob → K (.slice A (sizeI alg).toNat c) w') : callK Tryz.prog 72 [.pointer (some ⟨hb, 0, none⟩)] w K := by
  refine call_of Tryz.func72 Code.h72 (by simp [Code.c72]) ?_
  have ha1 := h.a1
  have ha4 := h.a4
  have hi := h.hi
  have hbs := blockI_or ha1 ha4
  have hlt := h.hc.blk.lt
  have hal := h.hc.alg
  have hre := h.hc.rest
  have hn := h.hc.n
  obtain ⟨hd1, hd2⟩ := div_facts ha1 ha4 m
  have hrl := rest_len ha1 ha4 m
  have hsz : 0 < sizeI alg ∧ sizeI alg ≤ 64 := by
    have c : alg = 1 ∨ alg = 2 ∨ alg = 3 ∨ alg = 4 := by omega
    rcases c with rfl | rfl | rfl | rfl <;> decide
  simp (disch := omega) only [Code.c72, EO, ↓EP, EQ, EM, ↓reduceIte, Za, Zb, Zc, Zd, Ze, Zf, Zg, Zj, Zk, Zl, Zm, Zn, Zp, Zq, reduceCtorEq, hal]
  refine size_spec alg _ _ ?_
  simp (disch := omega) only [EO, ↓EP, EQ, EM, ↓reduceIte, Za, Zb, Zc, Zd, Ze, Zf, Zg, Zj, Zk, Zl, Zm, Zn, Zp, Zq, reduceCtorEq, hal]
  refine h.hc.blk.ldAgg (hc_len h.hc.lw h.hc.lv) ?_
  simp (disch := omega) only [EO, ↓EP, EQ, EM, ↓reduceIte, Za, Zb, Zc, Zd, Ze, Zf, Zg, Zj, Zk, Zl, Zm, Zn, Zp, Zq, reduceCtorEq, hal]
  refine al_k (hc 0 (zs 8) (zs 8) (.slice none 0 0) 0) (by kernel_rfl) fun w1 n1 => ?_
  simp (disch := omega) only [EO, ↓EP, EQ, EM, ↓reduceIte, Za, Zb, Zc, Zd, Ze, Zf, Zg, Zj, Zk, Zl, Zm, Zn, Zp, Zq, reduceCtorEq, hal]
  obtain ⟨RA, rc, rfl, hrc, hRd, hRb⟩ := h.sl.read
  refine st_whole n1.blk (hc_len h.hc.lw h.hc.lv) rfl (hc_one rfl) fun w2 p2 => ?_
  have s1 := n1.size
  have s2 := p2.size
  have f2 : Fr w w2 nob := (n1.fr nob).trans p2.fr fun b hb e => by omega
  have C2 : HC w2 w.heap.size alg (run alg m).1 (run alg m).2 (.slice RA (rest alg m).length rc) m.length := ⟨p2.blk, h.hc.lw, h.hc.lv⟩
  have H2 := h.hc.fr f2 (fun x => x)
  have T2 := hT.fr f2 (fun x => x) (fun x => x)
  have hal2 := H2.alg
  have hre2 := H2.rest
  have R2 := hRd.fr f2 (.inr fun _ _ x => x)
  simp (disch := omega) only [EO, ↓EP, EQ, EM, ↓reduceIte, Za, Zb, Zc, Zd, Ze, Zf, Zg, Zj, Zk, Zl, Zm, Zn, Zp, Zq, reduceCtorEq, hal2]
  refine blocksz_spec alg _ _ ?_
  simp (disch := omega) only [EO, ↓EP, EQ, EM, ↓reduceIte, Za, Zb, Zc, Zd, Ze, Zf, Zg, Zj, Zk, Zl, Zm, Zn, Zp, Zq, reduceCtorEq, hre2]
  refine app_num (Sl.nil _ _) rfl R2 (by rw [List.length_nil]; omega) (by omega) fun v3 w3 a3 => ?_
  have G3 := (Gw.nil .u8 w2).apd a3
  rw [List.nil_append] at G3
  simp (disch := omega) only [EO, ↓EP, EQ, EM, ↓reduceIte, Za, Zb, Zc, Zd, Ze, Zf, Zg, Zj, Zk, Zl, Zm, Zn, Zp, Zq, reduceCtorEq]
  refine bsl1 fun w4 n4 => ?_
  have G4 := G3.new n4
  simp (disch := omega) only [EO, ↓EP, EQ, EM, ↓reduceIte, Za, Zb, Zc, Zd, Ze, Zf, Zg, Zj, Zk, Zl, Zm, Zn, Zp, Zq, reduceCtorEq]
  refine app_num G4.sl rfl n4.rdl (by rw [List.length_cons, List.length_nil]; omega) (by omega) fun v5 w5 a5 => ?_
  have G5 := G4.apd a5
  simp (disch := omega) only [EO, ↓EP, EQ, EM, ↓reduceIte, Za, Zb, Zc, Zd, Ze, Zf, Zg, Zj, Zk, Zl, Zm, Zn, Zp, Zq, reduceCtorEq]
  generalize hL : (rest alg m).length = L at *
  have hLb : L < blockI alg := by omega
  clear a3 a5 G3 G4 n4 R2
  refine loop_inv (fun t ρ w' => ∃ (z : Nat) (T : Value), ρ 5 = T ∧ z ≤ zeros1 (blockI alg) L ∧ t = zeros1 (blockI alg) L - z ∧ Gw .u8 w2 w' T (rest alg m ++ [128] ++ List.replicate z 0)) _ ⟨0, v5, by simp only [↓EP, EQ, EM, ↓reduceIte, Za, Zb, Zc, Zd, Ze, Zf, Zg, Zj, Zk, Zl, Zm, Zn, Zp, Zq, reduceCtorEq], Nat.zero_le _, rfl, by simpa using G5⟩ ?_
  rintro t ρ w6 hf ⟨z, T, h5, hz, rfl, G6⟩ N hN
  have r0 : ρ 0 = .pointer (some ⟨hb, 0, none⟩) := by rw [hf 0 rfl]; simp only [↓EP, EQ, EM, ↓reduceIte, Za, Zb, Zc, Zd, Ze, Zf, Zg, Zj, Zk, Zl, Zm, Zn, Zp, Zq, reduceCtorEq]
  have r3 : ρ 3 = .pointer (some ⟨w.heap.size, 0, none⟩) := by rw [hf 3 rfl]; simp only [↓EP, EQ, EM, ↓reduceIte, Za, Zb, Zc, Zd, Ze, Zf, Zg, Zj, Zk, Zl, Zm, Zn, Zp, Zq, reduceCtorEq]
  have r4 : ρ 4 = .int .i64 (blockI alg) := by rw [hf 4 rfl]; simp only [↓EP, EQ, EM, ↓reduceIte, Za, Zb, Zc, Zd, Ze, Zf, Zg, Zj, Zk, Zl, Zm, Zn, Zp, Zq, reduceCtorEq]
  clear hf G5
  have hz1 : zeros1 (blockI alg) L ≤ 128 := by unfold zeros1; split <;> omega
  obtain ⟨TA, tc, rfl, htc, hTd⟩ := readn G6.sl (n := L + 1 + z) (by simp [hL]; omega)
  by_cases hzz : z < zeros1 (blockI alg) L
  · have hcond := zero_no hbs hLb hzz
    simp (disch := omega) only [EO, ↓EP, EQ, EM, ↓reduceIte, Za, Zb, Zc, Zd, Ze, Zf, Zg, Zj, Zk, Zl, Zm, Zn, Zp, Zq, reduceCtorEq, h5, r4, hcond]
    refine bsl1 fun w7 n7 => ?_
    have G7 := G6.new n7
    simp (disch := omega) only [EO, ↓EP, EQ, EM, ↓reduceIte, Za, Zb, Zc, Zd, Ze, Zf, Zg, Zj, Zk, Zl, Zm, Zn, Zp, Zq, reduceCtorEq, h5, r4]
    refine app_num G7.sl rfl n7.rdl (by simp only [List.length_append, List.length_replicate, List.length_cons, List.length_nil]; omega) (by omega) fun v8 w8 a8 => ?_
    have G8 := G7.apd a8
    simp (disch := omega) only [EO, ↓EP, EQ, EM, ↓reduceIte, Za, Zb, Zc, Zd, Ze, Zf, Zg, Zj, Zk, Zl, Zm, Zn, Zp, Zq, reduceCtorEq, h5, r4]
    refine hN _ _ _ (by omega) ⟨z + 1, v8, by simp only [↓EP, EQ, EM, ↓reduceIte, Za, Zb, Zc, Zd, Ze, Zf, Zg, Zj, Zk, Zl, Zm, Zn, Zp, Zq, reduceCtorEq], by omega, rfl, ?_⟩
    rw [List.replicate_succ', ← List.append_assoc]; exact G8
  have hze : z = zeros1 (blockI alg) L := by omega
  subst hze
  have hcond := zero_yes hbs hLb
  simp (disch := omega) only [EO, ↓EP, EQ, EM, ↓reduceIte, Za, Zb, Zc, Zd, Ze, Zf, Zg, Zj, Zk, Zl, Zm, Zn, Zp, Zq, reduceCtorEq, h5, r4, hcond, W_joinT]
  clear hN hcond
  have hre6 := (H2.fr G6.fr (fun x => x)).rest
  refine join_cut (fun ρ' w' => ∃ T : Value, ρ' 5 = T ∧ Gw .u8 w2 w' T (rest alg m ++ [128] ++ List.replicate (zeros1 (blockI alg) L) 0 ++ List.replicate (zeros2 (blockI alg) L) 0)) ?_ ?_
  · intro N hN
    have stay : zeros2 (blockI alg) L = 0 → ∀ ρ', ρ' 5 = .slice TA (L + 1 + zeros1 (blockI alg) L) tc → endK N ρ' w6 := by
      intro hz2 ρ' h5'
      refine hN _ _ ⟨_, h5', ?_⟩
      rw [hz2, List.replicate_zero, List.append_nil]; exact G6
    rcases hbs with e | e
    · have e' : (blockI alg : Int) = 64 := by omega
      simp (disch := omega) only [EO, ↓EP, EQ, EM, ↓reduceIte, Za, Zb, Zc, Zd, Ze, Zf, Zg, Zj, Zk, Zl, Zm, Zn, Zp, Zq, reduceCtorEq, h5, r4, e']
      exact stay (by rw [zeros2, if_neg (by omega)]) _ (by simp only [↓EP, EQ, EM, ↓reduceIte, Za, Zb, Zc, Zd, Ze, Zf, Zg, Zj, Zk, Zl, Zm, Zn, Zp, Zq, reduceCtorEq, h5])
    · have e' : (blockI alg : Int) = 128 := by omega
      have c : (L : Int) < 112 ∨ ((112 ≤ (L : Int)) ∧ (L : Int) < 120) ∨ 120 ≤ (L : Int) := by omega
      rcases c with c | c | c
      · simp (disch := omega) only [EO, ↓EP, EQ, EM, ↓reduceIte, Za, Zb, Zc, Zd, Ze, Zf, Zg, Zj, Zk, Zl, Zm, Zn, Zp, Zq, reduceCtorEq, h5, r4, r0, e', hre6]
        exact stay (by rw [zeros2, if_neg (by omega)]) _ (by simp only [↓EP, EQ, EM, ↓reduceIte, Za, Zb, Zc, Zd, Ze, Zf, Zg, Zj, Zk, Zl, Zm, Zn, Zp, Zq, reduceCtorEq, h5])
      · have hz3 : zeros1 (blockI alg) L = 119 - L := by rw [zeros1, if_pos (by omega)]; omega
        simp (disch := omega) only [EO, ↓EP, EQ, EM, ↓reduceIte, Za, Zb, Zc, Zd, Ze, Zf, Zg, Zj, Zk, Zl, Zm, Zn, Zp, Zq, reduceCtorEq, h5, r4, r0, e', hre6]
        refine appz_num G6.sl (by omega) (by simp only [List.length_append, List.length_replicate, List.length_cons, List.length_nil]; omega) (by omega) fun v7 w7 a7 => ?_
        have G7 := G6.apd a7
        simp (disch := omega) only [EO, ↓EP, EQ, EM, ↓reduceIte, Za, Zb, Zc, Zd, Ze, Zf, Zg, Zj, Zk, Zl, Zm, Zn, Zp, Zq, reduceCtorEq]
        refine hN _ _ ⟨v7, by simp only [↓EP, EQ, EM, ↓reduceIte, Za, Zb, Zc, Zd, Ze, Zf, Zg, Zj, Zk, Zl, Zm, Zn, Zp, Zq, reduceCtorEq], ?_⟩
        rw [show zeros2 (blockI alg) L = 128 by rw [zeros2, if_pos (by omega)]]; exact G7
      · have hz3 : zeros1 (blockI alg) L = 247 - L := by rw [zeros1, if_neg (by omega)]; omega
        simp (disch := omega) only [EO, ↓EP, EQ, EM, ↓reduceIte, Za, Zb, Zc, Zd, Ze, Zf, Zg, Zj, Zk, Zl, Zm, Zn, Zp, Zq, reduceCtorEq, h5, r4, r0, e', hre6]
        exact stay (by rw [zeros2, if_neg (by omega)]) _ (by simp only [↓EP, EQ, EM, ↓reduceIte, Za, Zb, Zc, Zd, Ze, Zf, Zg, Zj, Zk, Zl, Zm, Zn, Zp, Zq, reduceCtorEq, h5])
  rintro ρ7 w7 hf ⟨T7, h57, G7⟩
  have r0' : ρ7 0 = .pointer (some ⟨hb, 0, none⟩) := by rw [hf 0 rfl]; simp only [↓EP, EQ, EM, ↓reduceIte, Za, Zb, Zc, Zd, Ze, Zf, Zg, Zj, Zk, Zl, Zm, Zn, Zp, Zq, reduceCtorEq, r0]
  have r3' : ρ7 3 = .pointer (some ⟨w.heap.size, 0, none⟩) := by rw [hf 3 rfl]; simp only [↓EP, EQ, EM, ↓reduceIte, Za, Zb, Zc, Zd, Ze, Zf, Zg, Zj, Zk, Zl, Zm, Zn, Zp, Zq, reduceCtorEq, r3]
  have r4' : ρ7 4 = .int .i64 (blockI alg) := by rw [hf 4 rfl]; simp only [↓EP, EQ, EM, ↓reduceIte, Za, Zb, Zc, Zd, Ze, Zf, Zg, Zj, Zk, Zl, Zm, Zn, Zp, Zq, reduceCtorEq, r4]
  clear hf h5 r0 r3 r4 G6 hTd hre6
  have hz1 : zeros1 (blockI alg) L + zeros2 (blockI alg) L ≤ 260 := by
    unfold zeros2; split <;> omega
  simp only [↓EP, EQ, EM, ↓reduceIte, Za, Zb, Zc, Zd, Ze, Zf, Zg, Zj, Zk, Zl, Zm, Zn, Zp, Zq, reduceCtorEq]
  refine loop_inv (fun t ρ w' => ∃ (k : Nat) (T : Value), ρ 63 = .int .i64 k ∧ ρ 5 = T ∧ k ≤ 8 ∧ t = 8 - k ∧ Gw .u8 w2 w' T (rest alg m ++ [128] ++ List.replicate (zeros1 (blockI alg) L) 0 ++ List.replicate (zeros2 (blockI alg) L) 0 ++ (List.range k).map (lenB m.length))) 8 ⟨0, T7, by simp only [↓EP, EQ, EM, ↓reduceIte, Za, Zb, Zc, Zd, Ze, Zf, Zg, Zj, Zk, Zl, Zm, Zn, Zp, Zq, reduceCtorEq], by simp only [↓EP, EQ, EM, ↓reduceIte, Za, Zb, Zc, Zd, Ze, Zf, Zg, Zj, Zk, Zl, Zm, Zn, Zp, Zq, reduceCtorEq, h57], Nat.zero_le _, rfl, by simpa using G7⟩ ?_
  rintro t ρ8 w8 hf ⟨k, T8, h63, h58, hk, rfl, G8⟩ N hN
  have r0 : ρ8 0 = .pointer (some ⟨hb, 0, none⟩) := by rw [hf 0 rfl]; simp only [↓EP, EQ, EM, ↓reduceIte, Za, Zb, Zc, Zd, Ze, Zf, Zg, Zj, Zk, Zl, Zm, Zn, Zp, Zq, reduceCtorEq, r0']
  have r3 : ρ8 3 = .pointer (some ⟨w.heap.size, 0, none⟩) := by rw [hf 3 rfl]; simp only [↓EP, EQ, EM, ↓reduceIte, Za, Zb, Zc, Zd, Ze, Zf, Zg, Zj, Zk, Zl, Zm, Zn, Zp, Zq, reduceCtorEq, r3']
  have r4 : ρ8 4 = .int .i64 (blockI alg) := by rw [hf 4 rfl]; simp only [↓EP, EQ, EM, ↓reduceIte, Za, Zb, Zc, Zd, Ze, Zf, Zg, Zj, Zk, Zl, Zm, Zn, Zp, Zq, reduceCtorEq, r4']
  clear hf h57 r0' r3' r4' G7
  have H8 := H2.fr G8.fr (fun x => x)
  have hn8 := H8.n
  by_cases hk8 : (k : Int) < 8
  · have e2 : min (56 - 8 * (k : Int)).toNat 64 = 56 - 8 * k := by omega
    simp (disch := omega) only [EO, ↓EP, EQ, EM, ↓reduceIte, Za, Zb, Zc, Zd, Ze, Zf, Zg, Zj, Zk, Zl, Zm, Zn, Zp, Zq, reduceCtorEq, h63, h58, r0, hn8, e2]
    refine bsl1 fun w9 n9 => ?_
    have G9 := G8.new n9
    simp (disch := omega) only [EO, ↓EP, EQ, EM, ↓reduceIte, Za, Zb, Zc, Zd, Ze, Zf, Zg, Zj, Zk, Zl, Zm, Zn, Zp, Zq, reduceCtorEq, h63, h58, r0, hn8, e2]
    refine app_num G9.sl rfl n9.rdl (by simp only [List.length_append, List.length_replicate, List.length_cons, List.length_nil, List.length_map, List.length_range]; omega) (by omega) fun v10 w10 a10 => ?_
    have G10 := G9.apd a10
    simp (disch := omega) only [EO, ↓EP, EQ, EM, ↓reduceIte, Za, Zb, Zc, Zd, Ze, Zf, Zg, Zj, Zk, Zl, Zm, Zn, Zp, Zq, reduceCtorEq, h63, h58, r0, hn8, e2]
    refine hN (8 - (k + 1)) _ _ (by omega) ⟨k + 1, v10, by simp (disch := omega) only [EO, ↓EP, EQ, EM, ↓reduceIte, Za, Zb, Zc, Zd, Ze, Zf, Zg, Zj, Zk, Zl, Zm, Zn, Zp, Zq, reduceCtorEq, h63, Int.natCast_add], by simp only [↓EP, EQ, EM, ↓reduceIte, Za, Zb, Zc, Zd, Ze, Zf, Zg, Zj, Zk, Zl, Zm, Zn, Zp, Zq, reduceCtorEq], by omega, rfl, ?_⟩
    rw [map_succ, ← List.append_assoc]; exact G10
  have hke : k = 8 := by omega
  subst hke
  simp (disch := omega) only [EO, ↓EP, EQ, EM, ↓reduceIte, Za, Zb, Zc, Zd, Ze, Zf, Zg, Zj, Zk, Zl, Zm, Zn, Zp, Zq, reduceCtorEq, h63, h58, r0]
  clear hN
  rw [← hL] at G8
  have G8 : Gw .u8 w2 w8 T8 (tailF alg m) := G8
  obtain ⟨ht1, ht2⟩ := tail_len ha1 ha4 m
  generalize hTl : (tailF alg m).length = N8 at *
  have C8 := C2.fr G8.fr (fun x => x)
  obtain ⟨TA8, tc8, rfl, htc8, hTd8⟩ := readn G8.sl hTl
  refine loop_inv (fun t ρ w' => ∃ (j : Nat), ρ 7 = .int .i64 ((j * blockI alg : Nat) : Int) ∧ j * blockI alg ≤ N8 ∧ t = N8 - j * blockI alg ∧ HC w' w.heap.size alg (rounds (fun j s => mix alg s (part (blockI alg) (tailF alg m) j)) j (run alg m)).1 (rounds (fun j s => mix alg s (part (blockI alg) (tailF alg m) j)) j (run alg m)).2 (.slice RA L rc) m.length ∧ Fr w8 w' (fun b => b = w.heap.size)) N8 ⟨0, by simp only [↓EP, EQ, EM, ↓reduceIte, Za, Zb, Zc, Zd, Ze, Zf, Zg, Zj, Zk, Zl, Zm, Zn, Zp, Zq, reduceCtorEq, Nat.zero_mul], by omega, by omega, C8, Fr.refl _ _⟩ ?_
  rintro t ρ9 w9 hf ⟨j, h7, hj, rfl, C9, f9⟩ N hN
  have r0' : ρ9 0 = .pointer (some ⟨hb, 0, none⟩) := by rw [hf 0 rfl]; simp only [↓EP, EQ, EM, ↓reduceIte, Za, Zb, Zc, Zd, Ze, Zf, Zg, Zj, Zk, Zl, Zm, Zn, Zp, Zq, reduceCtorEq, r0]
  have r3' : ρ9 3 = .pointer (some ⟨w.heap.size, 0, none⟩) := by rw [hf 3 rfl]; simp only [↓EP, EQ, EM, ↓reduceIte, Za, Zb, Zc, Zd, Ze, Zf, Zg, Zj, Zk, Zl, Zm, Zn, Zp, Zq, reduceCtorEq, r3]
  have r4' : ρ9 4 = .int .i64 (blockI alg) := by rw [hf 4 rfl]; simp only [↓EP, EQ, EM, ↓reduceIte, Za, Zb, Zc, Zd, Ze, Zf, Zg, Zj, Zk, Zl, Zm, Zn, Zp, Zq, reduceCtorEq, r4]
  have r5' : ρ9 5 = .slice TA8 N8 tc8 := by rw [hf 5 rfl]; simp only [↓EP, EQ, EM, ↓reduceIte, Za, Zb, Zc, Zd, Ze, Zf, Zg, Zj, Zk, Zl, Zm, Zn, Zp, Zq, reduceCtorEq, h58]
  clear hf
  by_cases hjN : ((j * blockI alg : Nat) : Int) < (N8 : Int)
  · have hjl : j * blockI alg + blockI alg ≤ N8 := step_le hbs ht1 (by omega)
    have hjs : (j + 1) * blockI alg = j * blockI alg + blockI alg := by rw [Nat.add_mul, Nat.one_mul]
    simp (disch := omega) only [EO, ↓EP, EQ, EM, ↓reduceIte, Za, Zb, Zc, Zd, Ze, Zf, Zg, Zj, Zk, Zl, Zm, Zn, Zp, Zq, reduceCtorEq, h7, r3', r4', r5']
    have hoff : offA TA8 (fun b => b = w.heap.size) := fun p e h' => by
      have := G8.up p.block (by rw [e]; rfl)
      omega
    have hTd9 := (hTd8.fr f9 (.inr hoff)).subA tc8 (j * blockI alg) (by omega)
    refine block_spec' C9 ha1 ha4 ((T2.fr G8.fr (fun x => x) (fun x => x)).fr f9 (by omega) (by omega)) (by omega) (p := part (blockI alg) (tailF alg m) j) (hTd9.take (blockI alg)) (by rw [part, List.length_take, List.length_drop, hTl]; omega) _ fun w10 C10 f10 => ?_
    simp (disch := omega) only [EO, ↓EP, EQ, EM, ↓reduceIte, Za, Zb, Zc, Zd, Ze, Zf, Zg, Zj, Zk, Zl, Zm, Zn, Zp, Zq, reduceCtorEq, h7, r3', r4', r5']
    refine hN (N8 - (j + 1) * blockI alg) _ _ (by omega) ⟨j + 1, ?_, by omega, rfl, C10, f9.trans f10 fun _ _ e => e⟩
    simp (disch := omega) only [EO, ↓EP, EQ, EM, ↓reduceIte, Za, Zb, Zc, Zd, Ze, Zf, Zg, Zj, Zk, Zl, Zm, Zn, Zp, Zq, reduceCtorEq, h7, r4']
    rw [hjs, Int.natCast_add]
  have hje : N8 / blockI alg = j := step_end hbs (by omega)
  have hlast : last alg m = rounds (fun j s => mix alg s (part (blockI alg) (tailF alg m) j)) j (run alg m) := by rw [last, hTl, hje]
  rw [← hlast] at C9
  have H9 := H8.fr f9 (by omega)
  have f09 : Fr w w9 nob := (f2.trans G8.fr fun _ _ e => e).trans f9 fun b hb e => by omega
  simp (disch := omega) only [EO, ↓EP, EQ, EM, ↓reduceIte, Za, Zb, Zc, Zd, Ze, Zf, Zg, Zj, Zk, Zl, Zm, Zn, Zp, Zq, reduceCtorEq, h7, r0', r3', r4', r5']
  clear hN h7 h63 h58 r0 r3 r4 r5' hTd8 G8 f9 C8 H8 hn8 C2 H2 hal2 hre2
  have hal9 := H9.alg
  have hol := out_len ha1 ha4 (last alg m)
  have fin : ∀ (A : Option Addr) (c : Nat) (w12 : World), Gw .u8 w9 w12 (.slice A (outF alg (last alg m)).length c) (outF alg (last alg m)) → (outF alg (last alg m)).length ≤ c → K (.slice A (sizeI alg).toNat c) w12 := by
    intro A c w12 G hc
    refine hK A c w12 (by omega) (G.sl.cut hol.1 (by omega)) (fun b hb => Nat.le_trans f09.size (G.up b (by cases A with | none => cases hb | some p => exact hb))) (f09.trans G.fr fun _ _ e => e)
  rcases hbs with e | e
  · have e' : (blockI alg : Int) = 64 := by omega
    refine loop_inv (fun t ρ w' => ∃ (i : Nat) (O : Value), ρ 95 = .int .i64 i ∧ ρ 8 = O ∧ i ≤ 8 ∧ t = 8 - i ∧ Gw .u8 w9 w' O ((List.range i).flatMap fun (i : Nat) => Spec.w4 (at' (last alg m).1 (i : Int)))) 8 ⟨0, .slice none 0 0, by simp only [↓EP, EQ, EM, ↓reduceIte, Za, Zb, Zc, Zd, Ze, Zf, Zg, Zj, Zk, Zl, Zm, Zn, Zp, Zq, reduceCtorEq], by simp only [↓EP, EQ, EM, ↓reduceIte, Za, Zb, Zc, Zd, Ze, Zf, Zg, Zj, Zk, Zl, Zm, Zn, Zp, Zq, reduceCtorEq], Nat.zero_le _, rfl, Gw.nil _ _⟩ ?_
    rintro t ρ10 w10 hf ⟨i, O, h95, h8, hi8, rfl, G10⟩ N hN
    have r0 : ρ10 0 = .pointer (some ⟨hb, 0, none⟩) := by rw [hf 0 rfl]; simp only [↓EP, EQ, EM, ↓reduceIte, Za, Zb, Zc, Zd, Ze, Zf, Zg, Zj, Zk, Zl, Zm, Zn, Zp, Zq, reduceCtorEq, r0']
    have r3 : ρ10 3 = .pointer (some ⟨w.heap.size, 0, none⟩) := by rw [hf 3 rfl]; simp only [↓EP, EQ, EM, ↓reduceIte, Za, Zb, Zc, Zd, Ze, Zf, Zg, Zj, Zk, Zl, Zm, Zn, Zp, Zq, reduceCtorEq, r3']
    have r4 : ρ10 4 = .int .i64 (blockI alg) := by rw [hf 4 rfl]; simp only [↓EP, EQ, EM, ↓reduceIte, Za, Zb, Zc, Zd, Ze, Zf, Zg, Zj, Zk, Zl, Zm, Zn, Zp, Zq, reduceCtorEq, r4']
    have hgl := flat_len (f := fun (i : Nat) => Spec.w4 (at' (last alg m).1 (i : Int))) (n := 4) (fun _ => rfl) i
    clear hf
    by_cases hi9 : (i : Int) < 8
    · have C10 := C9.fr G10.fr (fun x => x)
      have hcw := C10.w_ i (by omega)
      simp (disch := omega) only [EO, ↓EP, EQ, EM, ↓reduceIte, Za, Zb, Zc, Zd, Ze, Zf, Zg, Zj, Zk, Zl, Zm, Zn, Zp, Zq, reduceCtorEq, W_join, h95, h8, r0, r3, r4, e', hcw]
      intro m1
      have G11 := G10.drewN (1 + m1)
      refine bsl4 fun w11 n11 => ?_
      have G12 := G11.new n11
      simp (disch := omega) only [EO, ↓EP, EQ, EM, ↓reduceIte, Za, Zb, Zc, Zd, Ze, Zf, Zg, Zj, Zk, Zl, Zm, Zn, Zp, Zq, reduceCtorEq, h8]
      intro m2
      refine app_num (G12.drewN m2).sl rfl (n11.rdl.drewN m2) (by rw [hgl]; simp only [List.length_cons, List.length_nil]; omega) (by omega) fun v13 w13 a13 => ?_
      have G13 := (G12.drewN m2).apd a13
      simp (disch := omega) only [EO, ↓EP, EQ, EM, ↓reduceIte, Za, Zb, Zc, Zd, Ze, Zf, Zg, Zj, Zk, Zl, Zm, Zn, Zp, Zq, reduceCtorEq, h95]
      intro m3
      refine hN (8 - (i + 1)) _ _ (by omega) ⟨i + 1, v13, by simp (disch := omega) only [EO, ↓EP, EQ, EM, ↓reduceIte, Za, Zb, Zc, Zd, Ze, Zf, Zg, Zj, Zk, Zl, Zm, Zn, Zp, Zq, reduceCtorEq, h95, Int.natCast_add], by simp only [↓EP, EQ, EM, ↓reduceIte, Za, Zb, Zc, Zd, Ze, Zf, Zg, Zj, Zk, Zl, Zm, Zn, Zp, Zq, reduceCtorEq], by omega, rfl, ?_⟩
      rw [flat_succ]; exact G13.drewN m3
    · have hie : i = 8 := by omega
      subst hie
      have hout : outF alg (last alg m) = (List.range 8).flatMap fun (i : Nat) => Spec.w4 (at' (last alg m).1 (i : Int)) := by rw [outF, if_pos e]
      rw [← hout] at G10
      obtain ⟨OA, oc, rfl, hoc, hOd⟩ := readn G10.sl rfl
      have hal10 := (H9.fr G10.fr (fun x => x)).alg
      simp (disch := omega) only [EO, ↓EP, EQ, EM, ↓reduceIte, Za, Zb, Zc, Zd, Ze, Zf, Zg, Zj, Zk, Zl, Zm, Zn, Zp, Zq, reduceCtorEq, h95, h8, r0, hal10]
      refine size_spec alg _ _ ?_
      simp (disch := omega) only [EO, ↓EP, EQ, EM, ↓reduceIte, Za, Zb, Zc, Zd, Ze, Zf, Zg, Zj, Zk, Zl, Zm, Zn, Zp, Zq, reduceCtorEq, h95, h8, r0, hal10]
      exact fin OA oc w10 G10 hoc
  · have e' : (blockI alg : Int) = 128 := by omega
    refine loop_inv (fun t ρ w' => ∃ (i : Nat) (O : Value), ρ 95 = .int .i64 i ∧ ρ 8 = O ∧ i ≤ 8 ∧ t = 8 - i ∧ Gw .u8 w9 w' O ((List.range i).flatMap fun (i : Nat) => v8 (at' (last alg m).2 (i : Int)))) 8 ⟨0, .slice none 0 0, by simp only [↓EP, EQ, EM, ↓reduceIte, Za, Zb, Zc, Zd, Ze, Zf, Zg, Zj, Zk, Zl, Zm, Zn, Zp, Zq, reduceCtorEq], by simp only [↓EP, EQ, EM, ↓reduceIte, Za, Zb, Zc, Zd, Ze, Zf, Zg, Zj, Zk, Zl, Zm, Zn, Zp, Zq, reduceCtorEq], Nat.zero_le _, rfl, Gw.nil _ _⟩ ?_
    rintro t ρ10 w10 hf ⟨i, O, h95, h8, hi8, rfl, G10⟩ N hN
    have r0 : ρ10 0 = .pointer (some ⟨hb, 0, none⟩) := by rw [hf 0 rfl]; simp only [↓EP, EQ, EM, ↓reduceIte, Za, Zb, Zc, Zd, Ze, Zf, Zg, Zj, Zk, Zl, Zm, Zn, Zp, Zq, reduceCtorEq, r0']
    have r3 : ρ10 3 = .pointer (some ⟨w.heap.size, 0, none⟩) := by rw [hf 3 rfl]; simp only [↓EP, EQ, EM, ↓reduceIte, Za, Zb, Zc, Zd, Ze, Zf, Zg, Zj, Zk, Zl, Zm, Zn, Zp, Zq, reduceCtorEq, r3']
    have r4 : ρ10 4 = .int .i64 (blockI alg) := by rw [hf 4 rfl]; simp only [↓EP, EQ, EM, ↓reduceIte, Za, Zb, Zc, Zd, Ze, Zf, Zg, Zj, Zk, Zl, Zm, Zn, Zp, Zq, reduceCtorEq, r4']
    have hgl := flat_len (f := fun (i : Nat) => v8 (at' (last alg m).2 (i : Int))) (n := 8) (fun _ => by simp [v8]) i
    clear hf
    by_cases hi9 : (i : Int) < 8
    · simp (disch := omega) only [EO, ↓EP, EQ, EM, ↓reduceIte, Za, Zb, Zc, Zd, Ze, Zf, Zg, Zj, Zk, Zl, Zm, Zn, Zp, Zq, reduceCtorEq, W_join, h95, h8, r0, r3, r4, e']
      refine loop_inv (fun t ρ w' => ∃ (k : Nat) (O : Value), ρ 126 = .int .i64 k ∧ ρ 8 = O ∧ k ≤ 8 ∧ t = 8 - k ∧ Gw .u8 w9 w' O (((List.range i).flatMap fun (i : Nat) => v8 (at' (last alg m).2 (i : Int))) ++ (List.range k).map fun k => IntKind.u8.wrap ((at' (last alg m).2 (i : Int)).fdiv (2 ^ (56 - 8 * k))))) 8 ⟨0, O, by simp only [↓EP, EQ, EM, ↓reduceIte, Za, Zb, Zc, Zd, Ze, Zf, Zg, Zj, Zk, Zl, Zm, Zn, Zp, Zq, reduceCtorEq], by simp only [↓EP, EQ, EM, ↓reduceIte, Za, Zb, Zc, Zd, Ze, Zf, Zg, Zj, Zk, Zl, Zm, Zn, Zp, Zq, reduceCtorEq, h8], Nat.zero_le _, rfl, by simpa using G10⟩ ?_
      rintro t ρ11 w11 hf ⟨k, O', h126, h8', hk8, rfl, G11⟩ N' hN'
      have q3 : ρ11 3 = .pointer (some ⟨w.heap.size, 0, none⟩) := by rw [hf 3 rfl]; simp only [↓EP, EQ, EM, ↓reduceIte, Za, Zb, Zc, Zd, Ze, Zf, Zg, Zj, Zk, Zl, Zm, Zn, Zp, Zq, reduceCtorEq, r3]
      have q9 : ρ11 9 = .int .i64 i := by rw [hf 9 rfl]; simp only [↓EP, EQ, EM, ↓reduceIte, Za, Zb, Zc, Zd, Ze, Zf, Zg, Zj, Zk, Zl, Zm, Zn, Zp, Zq, reduceCtorEq, h95]
      have q95 : ρ11 95 = .int .i64 i := by rw [hf 95 rfl]; simp only [↓EP, EQ, EM, ↓reduceIte, Za, Zb, Zc, Zd, Ze, Zf, Zg, Zj, Zk, Zl, Zm, Zn, Zp, Zq, reduceCtorEq, h95]
      clear hf
      by_cases hk9 : (k : Int) < 8
      · have e2 : min (56 - 8 * (k : Int)).toNat 64 = 56 - 8 * k := by omega
        have hcv := (C9.fr G11.fr (fun x => x)).v_ i (by omega)
        simp (disch := omega) only [EO, ↓EP, EQ, EM, ↓reduceIte, Za, Zb, Zc, Zd, Ze, Zf, Zg, Zj, Zk, Zl, Zm, Zn, Zp, Zq, reduceCtorEq, h126, h8', q3, q9, hcv, e2]
        refine bsl1 fun w12 n12 => ?_
        have G12 := G11.new n12
        simp (disch := omega) only [EO, ↓EP, EQ, EM, ↓reduceIte, Za, Zb, Zc, Zd, Ze, Zf, Zg, Zj, Zk, Zl, Zm, Zn, Zp, Zq, reduceCtorEq, h126, h8', q3, q9, hcv, e2]
        refine app_num G12.sl rfl n12.rdl (by rw [List.length_append, hgl]; simp only [List.length_cons, List.length_nil, List.length_map, List.length_range]; omega) (by omega) fun v13 w13 a13 => ?_
        have G13 := G12.apd a13
        simp (disch := omega) only [EO, ↓EP, EQ, EM, ↓reduceIte, Za, Zb, Zc, Zd, Ze, Zf, Zg, Zj, Zk, Zl, Zm, Zn, Zp, Zq, reduceCtorEq, h126]
        refine hN' (8 - (k + 1)) _ _ (by omega) ⟨k + 1, v13, by simp (disch := omega) only [EO, ↓EP, EQ, EM, ↓reduceIte, Za, Zb, Zc, Zd, Ze, Zf, Zg, Zj, Zk, Zl, Zm, Zn, Zp, Zq, reduceCtorEq, h126, Int.natCast_add], by simp only [↓EP, EQ, EM, ↓reduceIte, Za, Zb, Zc, Zd, Ze, Zf, Zg, Zj, Zk, Zl, Zm, Zn, Zp, Zq, reduceCtorEq], by omega, rfl, ?_⟩
        rw [map_succ, ← List.append_assoc]; exact G13
      · have hke : k = 8 := by omega
        subst hke
        simp (disch := omega) only [EO, ↓EP, EQ, EM, ↓reduceIte, Za, Zb, Zc, Zd, Ze, Zf, Zg, Zj, Zk, Zl, Zm, Zn, Zp, Zq, reduceCtorEq, h126, q95]
        refine hN (8 - (i + 1)) _ _ (by omega) ⟨i + 1, O', by simp (disch := omega) only [EO, ↓EP, EQ, EM, ↓reduceIte, Za, Zb, Zc, Zd, Ze, Zf, Zg, Zj, Zk, Zl, Zm, Zn, Zp, Zq, reduceCtorEq, q95, Int.natCast_add], by simp only [↓EP, EQ, EM, ↓reduceIte, Za, Zb, Zc, Zd, Ze, Zf, Zg, Zj, Zk, Zl, Zm, Zn, Zp, Zq, reduceCtorEq, h8'], by omega, rfl, ?_⟩
        rw [flat_succ]; exact G11
    · have hie : i = 8 := by omega
      subst hie
      have hout : outF alg (last alg m) = (List.range 8).flatMap fun (i : Nat) => v8 (at' (last alg m).2 (i : Int)) := by rw [outF, if_neg (by omega)]
      rw [← hout] at G10
      obtain ⟨OA, oc, rfl, hoc, hOd⟩ := readn G10.sl rfl
      have hal10 := (H9.fr G10.fr (fun x => x)).alg
      simp (disch := omega) only [EO, ↓EP, EQ, EM, ↓reduceIte, Za, Zb, Zc, Zd, Ze, Zf, Zg, Zj, Zk, Zl, Zm, Zn, Zp, Zq, reduceCtorEq, h95, h8, r0, hal10]
      refine size_spec alg _ _ ?_
      simp (disch := omega) only [EO, ↓EP, EQ, EM, ↓reduceIte, Za, Zb, Zc, Zd, Ze, Zf, Zg, Zj, Zk, Zl, Zm, Zn, Zp, Zq, reduceCtorEq, h95, h8, r0, hal10]
      exact fin OA oc w10 G10 hoc
end Go.Proofs.YtcgplgpdcfocpaaGreatDoor.Spec
end
section
set_option linter.unusedVariables false
set_option linter.unusedSimpArgs false
namespace Go.Proofs.YtcgplgpdcfocpaaGreatDoor.Spec
open Go Go.RowKit Go.Proofs Go.Proofs.YtcgplgpdcfocpaaGreatDoor.Eng Go.Proofs.YtcgplgpdcfocpaaGreatDoor.Code
set_option maxRecDepth 100000
attribute [local irreducible] one
structure LL (w : World) (A : Option Addr) (l : List (List Int)) (hs : List Value) : Prop where
  rd : Rd w A hs
  len : hs.length = l.length
  each : ∀ (i : Nat) (p : List Int) (v : Value), l[i]? = some p → hs[i]? = some v → ∃ (B : Option Addr) (c : Nat), v = .slice B p.length c ∧ p.length ≤ c ∧ Rd w B (nums .u8 p)
theorem LL.fr {w w' : World} {A : Option Addr} {l : List (List Int)} {hs : List Value} (h : LL w A l hs) (f : Fr w w' nob) : LL w' A l hs :=
  ⟨h.rd.fr f (.inr fun _ _ x => x), h.len, fun i p v h1 h2 => by
    obtain ⟨B, c, e, hc, hr⟩ := h.each i p v h1 h2
    exact ⟨B, c, e, hc, hr.fr f (.inr fun _ _ x => x)⟩⟩
theorem rd_ro {k : IntKind} {w : World} {A : Option Addr} {l : List Int} (h : Rd w A (nums k l)) {P : Nat → Prop} (hp : ∀ b, P b → w.heap.size ≤ b) : RO k w A l P := by
  rcases h with h | ⟨p, e, h1, h2⟩
  · exact .inl (nums_isNil h)
  · exact .inr ⟨p, e, h1, fun x => by have := hp _ x; omega, h2⟩
def total (l : List (List Int)) : Nat := (l.map List.length).sum
theorem total_take (l : List (List Int)) (k : Nat) : total (l.take k) ≤ total l := by
  induction l generalizing k with
  | nil => simp [total]
  | cons a r ih =>
    cases k with
    | zero => simp [total]
    | succ k => have := ih k; simp only [total, List.take_succ_cons, List.map_cons, List.sum_cons] at *; omega
theorem total_succ {l : List (List Int)} {k : Nat} {p : List Int} (h : l[k]? = some p) : total (l.take (k + 1)) = total (l.take k) + p.length := by
  rw [List.take_add_one, h]
  simp [total]
theorem flat_take {l : List (List Int)} {k : Nat} {p : List Int} (h : l[k]? = some p) : (l.take (k + 1)).flatten = (l.take k).flatten ++ p := by
  rw [List.take_add_one, h]
  simp
theorem flat_total (l : List (List Int)) : l.flatten.length = total l := by simp [total, List.length_flatten]
set_option maxHeartbeats 2000000 in
theorem dsum_spec {w : World} (alg : Int) {A : Option Addr} {c : Nat} {l : List (List Int)} {hs : List Value} (hl : LL w A l hs) (hT : Tb w) (hmx : total l ≤ 16777216) (hn : l.length ≤ 4611686018427387904) (K : Value → World → Prop)
    (hK : 1 ≤ alg → alg ≤ 4 → ∀ B c w', (sizeI alg).toNat ≤ c → Sl .u8 w' (.slice B (sizeI alg).toNat c) (dig alg l.flatten) → (∀ b, blkOf (.slice B (sizeI alg).toNat c) = some b → w.heap.size ≤ b) → Fr w w' nob → K (.tuple #[.slice B (sizeI alg).toNat c, .int .i64 0]) w')
    (hK' : (alg < 1 ∨ 4 < alg) → ∀ w', Fr w w' nob → K (.tuple #[.slice none 0 0, .int .i64 1]) w') : callK Tryz.prog 40 [.int .i64 alg, .slice A l.length c] w K := by
  refine call_of Tryz.func40 Code.h40 (by simp [Code.c40]) ?_
  simp only [Code.c40, ↓EP, EQ, EM, ↓reduceIte, Za, Zb, Zc, Zd, Ze, Zf, Zg, Zj, Zk, Zl, Zm, Zn, Zp, Zq, reduceCtorEq]
  refine size_spec alg _ _ ?_
  by_cases ha : alg < 1 ∨ 4 < alg
  · have h0 : sizeI alg = 0 := by unfold sizeI; rw [if_neg (by omega), if_neg (by omega), if_neg (by omega), if_neg (by omega)]
    simp only [↓EP, EQ, EM, ↓reduceIte, Za, Zb, Zc, Zd, Ze, Zf, Zg, Zj, Zk, Zl, Zm, Zn, Zp, Zq, reduceCtorEq, h0]
    exact hK' ha w (Fr.refl _ _)
  have ha1 : 1 ≤ alg := by omega
  have ha4 : alg ≤ 4 := by omega
  have hsz : 0 < sizeI alg := by
    have c : alg = 1 ∨ alg = 2 ∨ alg = 3 ∨ alg = 4 := by omega
    rcases c with rfl | rfl | rfl | rfl <;> decide
  simp (disch := omega) only [EO, ↓EP, EQ, EM, ↓reduceIte, Za, Zb, Zc, Zd, Ze, Zf, Zg, Zj, Zk, Zl, Zm, Zn, Zp, Zq, reduceCtorEq]
  have getE : ∀ (w' : World) (k : Nat), Fr w w' nob → k < l.length → ∃ ad p B c', A = some ad ∧ l[k]? = some p ∧ w'.cell? (ad.add k) = some (.slice B p.length c') ∧ p.length ≤ c' ∧ Rd w B (nums .u8 p) := by
    intro w' k f hk
    obtain ⟨ad, e, _, hc⟩ := (hl.fr f).rd.get (by rw [hl.len]; omega)
    have hk' : k < hs.length := by rw [hl.len]; exact hk
    obtain ⟨B, c', e1, h1, h2⟩ := hl.each k _ _ (List.getElem?_eq_getElem hk) (List.getElem?_eq_getElem hk')
    refine ⟨ad, _, B, c', e, List.getElem?_eq_getElem hk, ?_, h1, h2⟩
    rw [← e1]; exact hc k _ (List.getElem?_eq_getElem hk')
  refine loop_inv (fun t ρ w' => w' = w ∧ ∃ k : Nat, ρ 18 = .int .i64 k ∧ k ≤ l.length ∧ t = l.length - k ∧ ρ 6 = .int .i64 (total (l.take k))) _ ⟨rfl, 0, by simp only [↓EP, EQ, EM, ↓reduceIte, Za, Zb, Zc, Zd, Ze, Zf, Zg, Zj, Zk, Zl, Zm, Zn, Zp, Zq, reduceCtorEq], Nat.zero_le _, rfl, by simp only [↓EP, EQ, EM, ↓reduceIte, Za, Zb, Zc, Zd, Ze, Zf, Zg, Zj, Zk, Zl, Zm, Zn, Zp, Zq, reduceCtorEq]; rfl⟩ ?_
  rintro t ρ w' hf ⟨rfl, k, h18, hk, rfl, h6⟩ N hN
  have r0 : ρ 0 = .int .i64 alg := by rw [hf 0 rfl]; simp only [↓EP, EQ, EM, ↓reduceIte, Za, Zb, Zc, Zd, Ze, Zf, Zg, Zj, Zk, Zl, Zm, Zn, Zp, Zq, reduceCtorEq]
  have r1 : ρ 1 = .slice A l.length c := by rw [hf 1 rfl]; simp only [↓EP, EQ, EM, ↓reduceIte, Za, Zb, Zc, Zd, Ze, Zf, Zg, Zj, Zk, Zl, Zm, Zn, Zp, Zq, reduceCtorEq]
  have r16 : ρ 16 = .slice A l.length c := by rw [hf 16 rfl]; simp only [↓EP, EQ, EM, ↓reduceIte, Za, Zb, Zc, Zd, Ze, Zf, Zg, Zj, Zk, Zl, Zm, Zn, Zp, Zq, reduceCtorEq]
  have r17 : ρ 17 = .int .i64 l.length := by rw [hf 17 rfl]; simp only [↓EP, EQ, EM, ↓reduceIte, Za, Zb, Zc, Zd, Ze, Zf, Zg, Zj, Zk, Zl, Zm, Zn, Zp, Zq, reduceCtorEq]
  clear hf
  by_cases hkl : (k : Int) < (l.length : Int)
  · obtain ⟨ad, p, B, c', rfl, hp, hcell, hpc, hpr⟩ := getE w' k (Fr.refl _ _) (by omega)
    have ht := total_succ hp
    have ht2 := total_take l (k + 1)
    simp (disch := omega) only [EO, ↓EP, EQ, EM, ↓reduceIte, Za, Zb, Zc, Zd, Ze, Zf, Zg, Zj, Zk, Zl, Zm, Zn, Zp, Zq, reduceCtorEq, h18, r16, r17, h6, hcell]
    refine hN (l.length - (k + 1)) _ _ (by omega) ⟨rfl, k + 1, by simp (disch := omega) only [EO, ↓EP, EQ, EM, ↓reduceIte, Za, Zb, Zc, Zd, Ze, Zf, Zg, Zj, Zk, Zl, Zm, Zn, Zp, Zq, reduceCtorEq, h18, Int.natCast_add], by omega, rfl, ?_⟩
    simp (disch := omega) only [EO, ↓EP, EQ, EM, ↓reduceIte, Za, Zb, Zc, Zd, Ze, Zf, Zg, Zj, Zk, Zl, Zm, Zn, Zp, Zq, reduceCtorEq, h6, ht, Int.natCast_add]
  simp (disch := omega) only [EO, ↓EP, EQ, EM, ↓reduceIte, Za, Zb, Zc, Zd, Ze, Zf, Zg, Zj, Zk, Zl, Zm, Zn, Zp, Zq, reduceCtorEq, h18, r17, r0, r1]
  clear hN h18 h6 r16 r17
  have lt := hT.lt
  refine new_spec alg lt _ (fun _ _ w1 s1 H1 f1 => ?_) (fun h _ _ => absurd h ha)
  simp (disch := omega) only [EO, ↓EP, EQ, EM, ↓reduceIte, Za, Zb, Zc, Zd, Ze, Zf, Zg, Zj, Zk, Zl, Zm, Zn, Zp, Zq, reduceCtorEq, r1]
  refine loop_inv (fun t ρ2 w2 => ∃ (k : Nat) (rv : Value), ρ2 39 = .int .i64 k ∧ k ≤ l.length ∧ t = l.length - k ∧ Hsh w2 w'.heap.size rv alg (l.take k).flatten ∧ (∀ b, blkOf rv = some b → w'.heap.size < b) ∧ Fr w' w2 nob) _ ⟨0, .slice none 0 0, by simp only [↓EP, EQ, EM, ↓reduceIte, Za, Zb, Zc, Zd, Ze, Zf, Zg, Zj, Zk, Zl, Zm, Zn, Zp, Zq, reduceCtorEq], Nat.zero_le _, rfl, H1, fun b e => (by cases e), f1⟩ ?_
  rintro t ρ2 w2 hf ⟨k2, rv, h39, hk2, rfl, H2, hrv, f2⟩ N2 hN2
  have q9 : ρ2 9 = .pointer (some ⟨w'.heap.size, 0, none⟩) := by rw [hf 9 rfl]; simp only [↓EP, EQ, EM, ↓reduceIte, Za, Zb, Zc, Zd, Ze, Zf, Zg, Zj, Zk, Zl, Zm, Zn, Zp, Zq, reduceCtorEq]
  have q37 : ρ2 37 = .slice A l.length c := by rw [hf 37 rfl]; simp only [↓EP, EQ, EM, ↓reduceIte, Za, Zb, Zc, Zd, Ze, Zf, Zg, Zj, Zk, Zl, Zm, Zn, Zp, Zq, reduceCtorEq, r1]
  have q38 : ρ2 38 = .int .i64 l.length := by rw [hf 38 rfl]; simp only [↓EP, EQ, EM, ↓reduceIte, Za, Zb, Zc, Zd, Ze, Zf, Zg, Zj, Zk, Zl, Zm, Zn, Zp, Zq, reduceCtorEq, r1]
  clear hf
  have hl2 := hl.fr f2
  have T2 := hT.fr f2 (fun x => x) (fun x => x)
  by_cases hkl : (k2 : Int) < (l.length : Int)
  · obtain ⟨ad, p, B, c', rfl, hp, hcell, hpc, hpr⟩ := getE w2 k2 f2 (by omega)
    have ht := total_succ hp
    have ht2 := total_take l (k2 + 1)
    have htf := flat_total (l.take k2)
    simp (disch := omega) only [EO, ↓EP, EQ, EM, ↓reduceIte, Za, Zb, Zc, Zd, Ze, Zf, Zg, Zj, Zk, Zl, Zm, Zn, Zp, Zq, reduceCtorEq, h39, q9, q37, q38, hcell]
    have hro : RO .u8 w2 B p (hP w'.heap.size rv) := (rd_ro hpr (P := hP w'.heap.size rv) fun b e => by
      rcases e with e | e
      · omega
      · have := hrv b e; omega).fr (f2.mono fun _ _ e => e.elim)
    refine write_spec H2 T2 hro hpc (by omega) _ fun rv' w3 H3 T3 hrv3 f3 => ?_
    simp (disch := omega) only [EO, ↓EP, EQ, EM, ↓reduceIte, Za, Zb, Zc, Zd, Ze, Zf, Zg, Zj, Zk, Zl, Zm, Zn, Zp, Zq, reduceCtorEq, h39]
    refine hN2 (l.length - (k2 + 1)) _ _ (by omega) ⟨k2 + 1, rv', by simp (disch := omega) only [EO, ↓EP, EQ, EM, ↓reduceIte, Za, Zb, Zc, Zd, Ze, Zf, Zg, Zj, Zk, Zl, Zm, Zn, Zp, Zq, reduceCtorEq, h39, Int.natCast_add], by omega, rfl, ?_, ?_, ?_⟩
    · rw [flat_take hp]; exact H3
    · intro b e
      rcases hrv3 b e with h | h
      · exact hrv b h
      · have := H2.hc.blk.lt; omega
    · refine f2.trans f3 fun b hb e => ?_
      rcases e with e | e
      · omega
      · have := hrv b e; omega
  have hke : k2 = l.length := by omega
  subst hke
  rw [List.take_length] at H2
  have htf := flat_total l
  simp (disch := omega) only [EO, ↓EP, EQ, EM, ↓reduceIte, Za, Zb, Zc, Zd, Ze, Zf, Zg, Zj, Zk, Zl, Zm, Zn, Zp, Zq, reduceCtorEq, h39, q9, q38]
  refine sum_spec H2 T2 (by omega) _ fun D cc w4 hcc hsl hup f4 => ?_
  simp (disch := omega) only [EO, ↓EP, EQ, EM, ↓reduceIte, Za, Zb, Zc, Zd, Ze, Zf, Zg, Zj, Zk, Zl, Zm, Zn, Zp, Zq, reduceCtorEq]
  exact hK ha1 ha4 D cc w4 hcc hsl (fun b e => Nat.le_trans f2.size (hup b e)) (f2.trans f4 fun _ _ e => e)
end Go.Proofs.YtcgplgpdcfocpaaGreatDoor.Spec
end
section
namespace Go.Proofs.YtcgplgpdcfocpaaGreatDoor
open Go Go.ChangeShapes Go.WideShapes Go.ChangeAt Go.WideMaps Go.WideElems Go.RowKit Go.Proofs.YtcgplgpdcfocpaaGreatDoor.Eng Go.Proofs.YtcgplgpdcfocpaaGreatDoor.Spec
set_option maxRecDepth 100000
def laid2 : List (String × DataW Unit) := [("chirograph/digest.k256", Rows.laid_chirograph_digest_k256), ("chirograph/digest.k512", Rows.laid_chirograph_digest_k512), ("unicode/utf8.acceptRanges", Rows.laid_unicode_utf8_acceptRanges), ("unicode/utf8.first", Rows.laid_unicode_utf8_first)]
theorem lay_shaped (os : Os) : (World.laidAll Tryz.prog os laid2).Shaped Tryz.prog := World.shaped_of_ZipB (by kernel_rfl) (by kernel_rfl)
theorem door_met (os : Os) (args : Array Value) : laidMetH Tryz.prog laid2 ((World.laidAll Tryz.prog os laid2).forCall (fun _ _ => 0) ⟨#[], args, []⟩).memory := by
  rw [MakeChecks.laidMetH_plain _ _ _ (by kernel_rfl)]
  exact laidMet_laidAll _ (by kernel_rfl) (by kernel_rfl)
theorem g0 : Tryz.prog.globalNamed "chirograph/digest.k256" = some 3 := by kernel_rfl
theorem g1 : Tryz.prog.globalNamed "chirograph/digest.k512" = some 4 := by kernel_rfl
theorem t0 : (Tryz.prog.globals[3]?).map (·.type) = some 85 := by kernel_rfl
theorem t1 : (Tryz.prog.globals[4]?).map (·.type) = some 88 := by kernel_rfl
theorem d0 : (Rows.laid_chirograph_digest_k256 : DataW Unit) = .agg (k256.map fun z => .lit (.int .u32 z)) := by kernel_rfl
theorem d1 : (Rows.laid_chirograph_digest_k512 : DataW Unit) = .agg (k512.map fun z => .lit (.int .u64 z)) := by kernel_rfl
theorem tab_cells {H : Type} {enc : TypeId × Value → H} {P : Program} {w : World} {k : IntKind} {t e n base fuel : Nat} {spare : Nat → Bool} {held : Bool} {cs : List Value} {l : List Int} {ps : List MemPlace} (ht : P.underlying t = some (.array n e)) (he : P.underlying e = some (.int k)) (hc : P.cellsOf e = 1)
    (h : DataW.trod enc P w base spare held fuel t cs = some (.agg (l.map fun z => .lit (.int k z)), ps)) {j : Nat} {v : Value} (hv : (nums k l)[j]? = some v) : cs[j]? = some v := by
  obtain ⟨xs, m, rfl, hx, hlen, hn, hel⟩ := DataW.trod_array ht h
  simp only [Prod.mk.injEq, DataW.agg.injEq] at hx
  have hll : l.length = n := by have := congrArg List.length hx.1; simpa [hn] using this
  have hj : j < l.length := by
    have := (List.getElem?_eq_some_iff.1 hv).1
    simpa [nums_length] using this
  have hjx : j < xs.length := by omega
  have h1 := hel j (by omega)
  rw [List.getElem?_eq_getElem hjx, hc, Nat.mul_one] at h1
  obtain ⟨z, e1, e2, _⟩ := DataW.trod_int he h1
  have h3 : l[j] = z := by
    have := congrArg (fun q => q[j]?) hx.1
    simp only [List.getElem?_map, List.getElem?_eq_getElem hjx, List.getElem?_eq_getElem hj, Option.map_some, e2, Option.some.injEq, DataW.lit.injEq, Lit.int.injEq, true_and] at this
    exact this
  have h4 : cs[j]? = some (.int k z) := by
    have := congrArg (fun q => q[0]?) e1
    simpa using this
  rw [h4, ← hv, nums_get hj]
  simp [List.getD_eq_getElem?_getD, hj, h3]
theorem of_laid {W : World} (h : laidMetH Tryz.prog laid2 W) : Tb W := by
  rw [MakeChecks.laidMetH_plain _ _ _ (by kernel_rfl)] at h
  obtain ⟨ps, ⟨y0, ty0, cs0, f0, p0, q0, hg0, ht0, hv0, hd0, ⟨y1, ty1, cs1, f1, p1, q1, hg1, ht1, hv1, hd1, _, _⟩, _⟩, _, _⟩ := h
  obtain rfl := Option.some.inj (g0.symm.trans hg0)
  obtain rfl := Option.some.inj (g1.symm.trans hg1)
  obtain rfl := Option.some.inj (t0.symm.trans ht0)
  obtain rfl := Option.some.inj (t1.symm.trans ht1)
  rw [d0] at hd0
  rw [d1] at hd1
  refine ⟨fun j v hj => ?_, fun j v hj => ?_, ?_, ?_⟩
  · rw [Addr.add_lit, Nat.zero_add, World.var?_cell hg0 hv0 j, ← Array.getElem?_toList]
    exact tab_cells Tryz.underlying85 Tryz.underlying50 (by kernel_rfl) hd0 hj
  · rw [Addr.add_lit, Nat.zero_add, World.var?_cell hg1 hv1 j, ← Array.getElem?_toList]
    exact tab_cells Tryz.underlying88 Tryz.underlying60 (by kernel_rfl) hd1 hj
  · simp only [World.var?, hg1, Option.bind_some] at hv1
    cases hh : W.heap[4]? with
    | none => rw [hh] at hv1; simp at hv1
    | some o => exact (Array.getElem?_eq_some_iff.1 hh).1
  · simp only [World.var?, hg0, Option.bind_some] at hv0
    cases hh : W.heap[3]? with
    | none => rw [hh] at hv0; simp at hv0
    | some o => exact (Array.getElem?_eq_some_iff.1 hh).1
theorem byte_of {l : List Int} (h : ∀ n ∈ l, (Lit.int .u8 n).wf = true) : ∀ x ∈ l, 0 ≤ x ∧ x < 256 := fun n hn => Row.wf_u8 (h n hn)
end Go.Proofs.YtcgplgpdcfocpaaGreatDoor
end
section
set_option linter.unusedVariables false
namespace Go.Proofs.YtcgplgpdcfocpaaGreatDoor.Row
open Go Go.ChangeShapes Go.WideShapes Go.ChangeAt Go.WideMaps Go.WideElems Go.RowKit Go.Proofs.YtcgplgpdcfocpaaGreatDoor.Eng
set_option maxRecDepth 100000
section
variable {H : Type} {enc : TypeId × Value → H} {P : Program}
theorem rd_of_cells {W : World} {a : Addr} {vs : List Value} (h : ∀ i, i < vs.length → W.cell? (a.add i) = vs[i]?) : Rd W (some a) vs := by
  by_cases h0 : vs = []
  · exact .inl h0
  · right
    have hp : 0 < vs.length := List.length_pos_iff.2 h0
    refine ⟨a, rfl, ?_, fun j v hj => ?_⟩
    · have h00 := h 0 hp
      rw [add_zero'] at h00
      rw [List.getElem?_eq_getElem hp] at h00
      unfold World.cell? at h00
      cases hh : W.heap[a.block]? with
      | none => rw [hh] at h00; simp at h00
      | some o => exact (Array.getElem?_eq_some_iff.1 hh).1
    · rw [h j (List.getElem?_eq_some_iff.1 hj).1, hj]
theorem cell_sl {W : World} {e e1 : TypeId} {k : IntKind} {fuel : Nat} {cs : List Value} {y : DataW H × List MemPlace} (he : P.underlying e = some (.slice e1)) (he1 : P.underlying e1 = some (.int k)) (hc1 : P.cellsOf e1 = 1)
    (h : DataW.trod enc P W 0 (fun _ => true) true fuel e cs = some y) : ∃ (B : Option Addr) (c' : Nat) (p : List Int), cs = [.slice B p.length c'] ∧ p.length ≤ c' ∧ Rd W B (nums k p) ∧ (∀ n ∈ p, (Lit.int k n).wf = true) ∧ p.length ≤ maxLen := by
  rcases open_ints he he1 hc1 h with ⟨rfl, rfl⟩ | ⟨a, len, cap, zs, rfl, _, hl, hm, hz, hx, hcell, hwz⟩
  · exact ⟨none, 0, [], rfl, Nat.le_refl _, .inl rfl, (fun n hn => by cases hn), Nat.zero_le _⟩
  · simp only [if_true] at hz
    have hlen : (zs.take len).length = len := by simp; omega
    refine ⟨some a, cap, zs.take len, by rw [hlen], by omega, rd_of_cells fun i hi => ?_, fun n hn => hwz n (List.mem_of_mem_take hn), by omega⟩
    rw [nums_length, hlen] at hi
    rw [hcell i (by omega), nums_get (by omega)]
    congr 2
    rw [List.getD_eq_getElem?_getD, List.getD_eq_getElem?_getD, List.getElem?_take, if_pos hi]
end
end Go.Proofs.YtcgplgpdcfocpaaGreatDoor.Row
end
section
set_option linter.unusedVariables false
namespace Go.Proofs.YtcgplgpdcfocpaaGreatDoor.Row
open Go Go.ChangeShapes Go.WideShapes Go.ChangeAt Go.WideMaps Go.WideElems Go.RowKit Go.Proofs.YtcgplgpdcfocpaaGreatDoor.Eng
set_option maxRecDepth 100000
section
variable {H : Type} {enc : TypeId × Value → H} {P : Program}
theorem cell_slv {W : World} {t e1 : TypeId} {k : IntKind} {fuel : Nat} {v : Value} {y : DataW H × List MemPlace} (ht : P.underlying t = some (.slice e1)) (he1 : P.underlying e1 = some (.int k)) (hc1 : P.cellsOf e1 = 1) (h : DataW.trod enc P W 0 (fun _ => true) true fuel t [v] = some y) :
    ∃ (B : Option Addr) (c' : Nat) (p : List Int), v = .slice B p.length c' ∧ p.length ≤ c' ∧ Rd W B (nums k p) ∧ (∀ n ∈ p, (Lit.int k n).wf = true) ∧ p.length ≤ maxLen := by
  obtain ⟨B, c', p, h1, h2⟩ := cell_sl ht he1 hc1 h
  cases h1
  exact ⟨B, c', p, rfl, h2⟩
end
end Go.Proofs.YtcgplgpdcfocpaaGreatDoor.Row
end
section
namespace Go.Proofs.YtcgplgpdcfocpaaGreatDoor
open Go Go.ChangeShapes Go.WideShapes Go.ChangeAt Go.WideMaps Go.WideElems Go.RowKit Go.Proofs.YtcgplgpdcfocpaaGreatDoor.Eng
set_option maxRecDepth 100000
theorem open_rec2q {H : Type} {enc : TypeId × Value → H} {P : Program} {W : World} {base : Nat} {t : TypeId} {f0 f1 : Field} {v : Value} {d : DataW H} {p : List MemPlace} (ht : P.underlying t = some (.struct #[f0, f1])) (hc : P.cellsOf t = 2)
    (o0 : f0.offset = 0) (o1 : f1.offset = 1) (c0 : P.cellsOf f0.type = 1) (c1 : P.cellsOf f1.type = 1) (hval : Value.okWide P W .any base t v) (h : DataW.Trod enc P W 0 (fun _ => true) true t v d p) :
    ∃ (v0 v1 : Value) (n : Nat) (y0 y1 : DataW H × List MemPlace), v = .agg #[v0, v1] ∧ DataW.trod enc P W 0 (fun _ => true) true n f0.type [v0] = some y0 ∧ DataW.trod enc P W 0 (fun _ => true) true n f1.type [v1] = some y1 := by
  obtain ⟨cs, rfl, hs⟩ := okWide_struct ht hval
  obtain ⟨fuel, hf⟩ := h
  obtain ⟨xs, n, _, hx, hcl, hlen, hf⟩ := DataW.trod_struct ht hf
  obtain ⟨cl⟩ := cs
  rw [hc] at hs
  match cl, hs, xs, hlen with
  | [v0, v1], _, [y0, y1], _ =>
    have g0 := hf 0 f0 rfl
    have g1 := hf 1 f1 rfl
    rw [o0, c0] at g0
    rw [o1, c1] at g1
    exact ⟨v0, v1, n, y0, y1, rfl, g0, g1⟩
end Go.Proofs.YtcgplgpdcfocpaaGreatDoor
end
section
set_option linter.unusedVariables false
set_option linter.unusedSimpArgs false
namespace Go.Proofs.YtcgplgpdcfocpaaGreatDoor.Spec
open Go Go.RowKit Go.Proofs Go.Proofs.YtcgplgpdcfocpaaGreatDoor.Eng Go.Proofs.YtcgplgpdcfocpaaGreatDoor.Code
set_option maxRecDepth 100000
attribute [local irreducible] callK S.W opsW scrW dig
def be4 (i : Nat) : List Int := [((i / 16777216 % 256 : Nat) : Int), ((i / 65536 % 256 : Nat) : Int), ((i / 256 % 256 : Nat) : Int), ((i % 256 : Nat) : Int)]
def blkM (alg : Int) (seed : List Int) (i : Nat) : List Int := dig alg (seed ++ be4 i)
theorem mk_size {alg : Int} (a1 : 1 ≤ alg) (a4 : alg ≤ 4) : 20 ≤ sizeI alg ∧ sizeI alg ≤ 64 := by
  have c : alg = 1 ∨ alg = 2 ∨ alg = 3 ∨ alg = 4 := by omega
  rcases c with rfl | rfl | rfl | rfl <;> decide
theorem dig_len {alg : Int} (a1 : 1 ≤ alg) (a4 : alg ≤ 4) (m : List Int) : (dig alg m).length = (sizeI alg).toNat := by
  have := out_len a1 a4 (last alg m)
  unfold dig
  rw [List.length_take]; omega
theorem two_ll {w w' : World} {A B : Option Addr} {c d : Nat} {p q : List Int} (n : New w w' [.slice A p.length c, .slice B q.length d]) (hc : p.length ≤ c) (hd : q.length ≤ d) (hp : Rd w' A (nums .u8 p)) (hq : Rd w' B (nums .u8 q)) : LL w' (some ⟨w.heap.size, 0, none⟩) [p, q] [.slice A p.length c, .slice B q.length d] := by
  refine ⟨n.rdv, rfl, fun i u v h1 h2 => ?_⟩
  match i, h1, h2 with
  | 0, h1, h2 => simp at h1 h2; subst h1 h2; exact ⟨A, c, rfl, hc, hp⟩
  | 1, h1, h2 => simp at h1 h2; subst h1 h2; exact ⟨B, d, rfl, hd, hq⟩
  | i + 2, h1, h2 => simp at h1
theorem r3_form : ∃ (id : Nat) (o1 o2 o3 o4 : Oper) (R0 R1 R2 : Code), Tryz.f74.body = some (.seq R0 (.block 0 (.loop (.seq (.block 1 (.seq R2 (.seq (.region id #[o1, o2, o3, o4] false) (.cond (.tmp 31) .ret .skip)))) R1)))) ∧
    strS Tryz.prog 32 [] R0 = some (.ops [⟨some 4, none, .mv (.const (.int .i64 0))⟩]) ∧ o1.op = .move (.tmp 0) ∧ o1.guard = none ∧ o1.dst = some 28 ∧ o2.op = .move (.tmp 5) ∧ o2.guard = none ∧ o2.dst = some 29 ∧
    o3.op = .call { callee := .value (.tmp 28), args := #[.tmp 29], argTypes := #[25] } ∧ o3.guard = none ∧ o3.dst = some 30 ∧ o4.op = .unOp .not 4 (.tmp 30) ∧ o4.guard = none ∧ o4.dst = some 31 := by
  exact ⟨_, _, _, _, _, _, _, _, rfl, by kernel_rfl, rfl, rfl, rfl, rfl, rfl, rfl, rfl, rfl, rfl, rfl, rfl, rfl⟩
theorem strF_code {P : Program} {dn : List (Nat × Sc)} {fn : Func} {F : Fun} {c : Go.Code} (h : strF P dn fn = some F) (hb : fn.body = some c) : strS P F.n dn c = some F.code ∧ F.n = fn.ntmps := by
  unfold strF at h
  rw [hb] at h
  simp only at h
  split at h
  · rename_i s r hs hr
    cases h
    exact ⟨hs, rfl⟩
  · cases h
theorem env_args (args : List Value) (k : Nat) : envOf ⟨args.toArray ++ Array.replicate k undef, []⟩ = env0 args := by
  funext t
  simp only [envOf, env0, Array.getD_eq_getD_getElem?, List.getD_eq_getElem?_getD]
  rcases Nat.lt_or_ge t args.length with ht | ht
  · simp [Array.getElem?_append, ht]
  · simp only [Array.getElem?_append, List.size_toArray]
    rw [if_neg (by omega), List.getElem?_eq_none ht]
    simp only [Array.getElem?_replicate]
    split <;> simp
theorem run_move {P : Program} {o : Oper} {x : Operand} (h : o.op = .move x) (e : Operand → Value) (w : World) (K : Value → World → Prop) (hK : K (e x) w) : runK P o e w K := by
  obtain ⟨d, op, ty, pos, af, gd⟩ := o
  subst h
  exact hK
theorem run_not {P : Program} {o : Oper} {t : TypeId} {x : Operand} {b : Bool} (h : o.op = .unOp .not t x) (e : Operand → Value) (he : e x = .bool b) (w : World) (K : Value → World → Prop) (hK : K (.bool !b) w) : runK P o e w K := by
  obtain ⟨d, op, ty, pos, af, gd⟩ := o
  subst h
  have : (execOp e ⟨d, .unOp .not t x, ty, pos, af, gd⟩).run P w = .ok (.value (.bool !b)) w := by
    simp [execOp, he, go_sem, Op.unary]
  unfold runK
  rw [this]
  exact hK
theorem run_yld {P : Program} {o : Oper} {x y : Operand} {ts : Array TypeId} {l : Nat} {r : Next} (h : o.op = .call { callee := .value x, args := #[y], argTypes := ts }) (e : Operand → Value) (hx : e x = .func (.yield l) #[] #[]) (w : World) (hy : (Instr.yield l #[e y]).run P w = .ok r w) : (execOp e o).run P w = .ok r w := by
  obtain ⟨d, op, ty, pos, af, gd⟩ := o
  subst h
  simp [execOp, hx, go_sem, resolve, invoke, hy]
def YldAt (m : Nat) (P : Program) (l : Nat) (x : Value) (W : World) (R : Ending → World → Prop) : Prop := ∃ fn tmps assign body, (Instr.yield l #[x]).run P W = .ok (.round l fn tmps assign body) W ∧ RoundIn Fence.wide m P l fn tmps assign body W R
def idxOf (v : Value) : Nat := match v with | .int _ n => n.toNat | _ => 0
set_option maxHeartbeats 4000000 in
theorem blk_iter {alg : Int} {seed : List Int} (a1 : 1 ≤ alg) (a4 : alg ≤ 4) (hseed : seed.length ≤ 16777000) {N l ba bs m : Nat} (hN : N ≤ 2147483648) {I : Nat → World → Prop} {Ix : World → Prop} {W0 : World}
    (hbd : ∀ i W, I i W → i < N)
    (hrd : ∀ i W, I i W → W.cell? ⟨ba, 0, none⟩ = some (.int .i64 alg) ∧ (∃ A c, W.cell? ⟨bs, 0, none⟩ = some (.slice A seed.length c) ∧ seed.length ≤ c ∧ Rd W A (nums .u8 seed)) ∧ Tb W)
    (hround : ∀ i W A c W', I i W → Gw .u8 W W' (.slice A (sizeI alg).toNat c) (blkM alg seed i) → YldAt m Tryz.prog l (.slice A (sizeI alg).toNat c) W' fun e W'' => (e = .returned (.bool true) ∧ I (i + 1) W'') ∨ (e = .returned (.bool false) ∧ Ix W''))
    (h0 : I 0 W0) : CallsIn Fence.wide (m + 1) Tryz.prog 74 #[.func (.yield l) #[] #[], .pointer (some ⟨ba, 0, none⟩), .pointer (some ⟨bs, 0, none⟩)] W0 fun e W => (∃ v, e = .returned v) ∧ Ix W := by
  obtain ⟨id, o1, o2, o3, o4, R0, R1, R2, hb, hs0, h1, g1, d1, h2, g2, d2, h3, g3, d3, h4, g4, d4⟩ := r3_form
  obtain ⟨hs, hn⟩ := strF_code Code.h74 hb
  simp only [Code.c74] at hs hn
  obtain ⟨_, _, e, hsa, hs⟩ := inv_seq hs
  cases e
  obtain ⟨_, e, hs⟩ := inv_block hs
  cases e
  obtain ⟨_, e, hs⟩ := inv_loop hs
  cases e
  obtain ⟨_, _, e, hs, hs1⟩ := inv_seq hs
  cases e
  obtain ⟨_, e, hs⟩ := inv_block hs
  cases e
  obtain ⟨_, _, e, hs2, hs⟩ := inv_seq hs
  cases e
  clear hs hs0
  refine callsIn_of_wp Tryz.func74 hb trivial ?_ rfl
  rw [← hn]
  refine wpIn_seq ?_
  refine eng_wide hsa (dfs := []) (by simp) rfl (K := fun e ρ w' => e = .normal ∧ w' = W0 ∧ ρ 0 = .func (.yield l) #[] #[] ∧ ρ 1 = .pointer (some ⟨ba, 0, none⟩) ∧ ρ 2 = .pointer (some ⟨bs, 0, none⟩) ∧ ρ 4 = .int .i64 0) ?_ ?_
  · rw [show envOf { tmps := #[.func (.yield l) #[] #[], .pointer (some ⟨ba, 0, none⟩), .pointer (some ⟨bs, 0, none⟩)] ++ Array.replicate (32 - #[Value.func (.yield l) #[] #[], Value.pointer (some ⟨ba, 0, none⟩), Value.pointer (some ⟨bs, 0, none⟩)].size) undef, defers := [] } = env0 [.func (.yield l) #[] #[], .pointer (some ⟨ba, 0, none⟩), .pointer (some ⟨bs, 0, none⟩)] from env_args _ _]
    simp (disch := omega) only [wu64, wu32, wu8, fdiv_nn, EO, ↓EP, EQ, EM, ↓reduceIte, Za, Zb, Zc, Zd, Ze, Zf, Zg, Zj, Zk, Zl, Zm, Zn, Zp, Zq, reduceCtorEq]
  rintro e a w ⟨hsz, hdf, rfl, rfl, e0, e1, e2, e4⟩
  show (Go.Code.block 0 _).wpIn _ _ _ _ _ _
  refine wpIn_block ?_
  refine wpIn_loop (fun a w => a.tmps.size = 32 ∧ a.defers = [] ∧ ∃ i : Nat, I i w ∧ envOf a 0 = .func (.yield l) #[] #[] ∧ envOf a 1 = .pointer (some ⟨ba, 0, none⟩) ∧ envOf a 2 = .pointer (some ⟨bs, 0, none⟩) ∧ envOf a 4 = .int .i64 i) (fun a _ => N - idxOf (envOf a 4)) ⟨hsz, hdf, 0, h0, e0, e1, e2, e4⟩ ?_
  clear hsz hdf e0 e1 e2 e4 h0
  rintro a W ⟨hsz, hdf, i, hI, e0, e1, e2, e4⟩
  have hiN := hbd i W hI
  obtain ⟨c1, ⟨A, c, c2, hc, hr⟩, hT⟩ := hrd i W hI
  have hzz := mk_size a1 a4
  refine wpIn_seq ?_
  refine wpIn_block ?_
  refine wpIn_seq ?_
  refine eng_wide hs2 (dfs := []) hsz hdf (K := fun e ρ w' => e = .normal ∧ ∃ A c, Gw .u8 W w' (.slice A (sizeI alg).toNat c) (blkM alg seed i) ∧ ρ 0 = .func (.yield l) #[] #[] ∧ ρ 1 = .pointer (some ⟨ba, 0, none⟩) ∧ ρ 2 = .pointer (some ⟨bs, 0, none⟩) ∧ ρ 4 = .int .i64 i ∧ ρ 5 = .slice A (sizeI alg).toNat c) ?_ ?_
  · have e24 : (2 : Int) ^ 24 = 16777216 := rfl
    have e16 : (2 : Int) ^ 16 = 65536 := rfl
    have e8 : (2 : Int) ^ 8 = 256 := rfl
    have w24 : IntKind.u8.wrap ((i : Int) / 16777216) = ((i / 16777216 % 256 : Nat) : Int) := by rw [wu8_mod]; omega
    have w16 : IntKind.u8.wrap ((i : Int) / 65536) = ((i / 65536 % 256 : Nat) : Int) := by rw [wu8_mod]; omega
    have w8 : IntKind.u8.wrap ((i : Int) / 256) = ((i / 256 % 256 : Nat) : Int) := by rw [wu8_mod]; omega
    have w0 : IntKind.u8.wrap (i : Int) = ((i % 256 : Nat) : Int) := by rw [wu8_mod]; omega
    simp (disch := omega) only [wu64, wu32, wu8, fdiv_nn, EO, ↓EP, EQ, EM, ↓reduceIte, Za, Zb, Zc, Zd, Ze, Zf, Zg, Zj, Zk, Zl, Zm, Zn, Zp, Zq, reduceCtorEq, e0, e1, e2, e4, c1, c2, e24, e16, e8, w24, w16, w8, w0]
    refine bsl4 fun w2 n2 => ?_
    have f2 := n2.fr nob
    simp (disch := omega) only [wu64, wu32, wu8, fdiv_nn, EO, ↓EP, EQ, EM, ↓reduceIte, Za, Zb, Zc, Zd, Ze, Zf, Zg, Zj, Zk, Zl, Zm, Zn, Zp, Zq, reduceCtorEq]
    refine bslS2 fun w3 n3 => ?_
    have f3 := n3.fr nob
    simp (disch := omega) only [wu64, wu32, wu8, fdiv_nn, EO, ↓EP, EQ, EM, ↓reduceIte, Za, Zb, Zc, Zd, Ze, Zf, Zg, Zj, Zk, Zl, Zm, Zn, Zp, Zq, reduceCtorEq]
    have L := two_ll (p := seed) (q := be4 i) n3 hc (Nat.le_refl 4) ((hr.nb f2).nb f3) (n2.rdv.nb f3)
    have hfl : [seed, be4 i].flatten = seed ++ be4 i := by simp
    refine dsum_spec alg (l := [seed, be4 i]) L ((hT.fr f2 (fun x => x) (fun x => x)).fr f3 (fun x => x) (fun x => x)) (by simp [total, be4]; omega) (by simp) _ (fun _ _ B d w4 hd s4 u4 f4 => ?_) (fun h => by omega)
    rw [hfl] at s4
    simp (disch := omega) only [wu64, wu32, wu8, fdiv_nn, EO, ↓EP, EQ, EM, ↓reduceIte, Za, Zb, Zc, Zd, Ze, Zf, Zg, Zj, Zk, Zl, Zm, Zn, Zp, Zq, reduceCtorEq]
    refine ⟨B, d, ⟨s4, fun b e => ?_, (f2.nb f3).nb f4⟩, e0, e1, e2, e4, rfl⟩
    have := u4 b e
    have := (f2.nb f3).size
    omega
  rintro e a' w' ⟨hsz', hdf', rfl, A', c', g, k0, k1, k2, k4, k5⟩
  show (Go.Code.seq _ _).wpIn _ _ _ _ _ _
  refine wpIn_seq ?_
  refine wpIn_region_list ?_
  show wpListIn _ _ _ _ _ [o1, o2, o3, o4] a' w'
  refine wpListIn_plain g1 fun K1 hK1 => ?_
  refine oper_wpIn (ro := none) (by rw [h1]; exact fun _ h => by cases h) (K := fun v w'' => v = .func (.yield l) #[] #[] ∧ w' = w'') (run_move h1 _ _ _ ⟨by rw [eval_env]; exact k0, rfl⟩) ?_
  rintro v w'' ⟨rfl, rfl⟩
  refine hK1 _ _ ?_
  rw [d1]
  have hz1 : (a'.put (some 28) (.func (.yield l) #[] #[])).tmps.size = 32 := by rw [put_size]; exact hsz'
  have v1 := env_put (a := a') (d := 28) (by omega) (.func (.yield l) #[] #[])
  have f1 : (a'.put (some 28) (.func (.yield l) #[] #[])).defers = [] := by rw [put_defers]; exact hdf'
  generalize a'.put (some 28) (.func (.yield l) #[] #[]) = b1 at hz1 v1 f1
  have q5 : envOf b1 5 = .slice A' (sizeI alg).toNat c' := by rw [v1]; exact k5
  refine wpListIn_plain g2 fun K2 hK2 => ?_
  refine oper_wpIn (ro := none) (by rw [h2]; exact fun _ h => by cases h) (K := fun v w'' => v = .slice A' (sizeI alg).toNat c' ∧ w' = w'') (run_move h2 _ _ _ ⟨by rw [eval_env]; exact q5, rfl⟩) ?_
  rintro v w'' ⟨rfl, rfl⟩
  refine hK2 _ _ ?_
  rw [d2]
  have hz2 : (b1.put (some 29) (.slice A' (sizeI alg).toNat c')).tmps.size = 32 := by rw [put_size]; exact hz1
  have v2 := env_put (a := b1) (d := 29) (by omega) (.slice A' (sizeI alg).toNat c')
  have f2 : (b1.put (some 29) (.slice A' (sizeI alg).toNat c')).defers = [] := by rw [put_defers]; exact f1
  generalize b1.put (some 29) (.slice A' (sizeI alg).toNat c') = b2 at hz2 v2 f2
  have q28 : envOf b2 28 = .func (.yield l) #[] #[] := by rw [v2, v1]; rfl
  have q29 : envOf b2 29 = .slice A' (sizeI alg).toNat c' := by rw [v2]; rfl
  have q0 : envOf b2 0 = .func (.yield l) #[] #[] := by rw [v2, v1]; exact k0
  have q1 : envOf b2 1 = .pointer (some ⟨ba, 0, none⟩) := by rw [v2, v1]; exact k1
  have q2 : envOf b2 2 = .pointer (some ⟨bs, 0, none⟩) := by rw [v2, v1]; exact k2
  have q4 : envOf b2 4 = .int .i64 i := by rw [v2, v1]; exact k4
  obtain ⟨fn, tmps, asg, body, hy, hR⟩ := hround i W A' c' w' hI g
  refine wpListIn_plain g3 fun K3 hK3 => ?_
  refine ⟨fun f _ => trivial, ?_⟩
  rw [show o3.semAt Fence.wide.round b2.eval = execOp b2.eval o3 from rfl, run_yld h3 b2.eval (by rw [eval_env]; exact q28) w' (by rw [eval_env]; show (Instr.yield l #[envOf b2 29]).run _ _ = _; rw [q29]; exact hy)]
  rw [Oper.uponIn_round]
  refine ⟨(fun h => by cases h), ?_⟩
  refine hR.mono ?_
  rintro e W'' hW
  have hv : ∃ bb : Bool, e = .returned (.bool bb) ∧ ((bb = true ∧ I (i + 1) W'') ∨ (bb = false ∧ Ix W'')) := by
    rcases hW with ⟨rfl, h⟩ | ⟨rfl, h⟩
    · exact ⟨true, rfl, .inl ⟨rfl, h⟩⟩
    · exact ⟨false, rfl, .inr ⟨rfl, h⟩⟩
  obtain ⟨bb, rfl, hbb⟩ := hv
  refine hK3 _ _ ?_
  rw [d3]
  have hz3 : (b2.put (some 30) (.bool bb)).tmps.size = 32 := by rw [put_size]; exact hz2
  have v3 := env_put (a := b2) (d := 30) (by omega) (.bool bb)
  have f3 : (b2.put (some 30) (.bool bb)).defers = [] := by rw [put_defers]; exact f2
  generalize b2.put (some 30) (.bool bb) = b3 at hz3 v3 f3
  have r30 : envOf b3 30 = .bool bb := by rw [v3]; rfl
  refine wpListIn_plain g4 fun K4 hK4 => ?_
  refine oper_wpIn (ro := none) (by rw [h4]; exact fun _ h => by cases h) (K := fun v w'' => v = .bool !bb ∧ W'' = w'') (run_not h4 _ (by rw [eval_env]; exact r30) _ _ ⟨rfl, rfl⟩) ?_
  rintro v w'' ⟨rfl, rfl⟩
  refine hK4 _ _ ?_
  rw [d4]
  have hz4 : (b3.put (some 31) (.bool !bb)).tmps.size = 32 := by rw [put_size]; exact hz3
  have v4 := env_put (a := b3) (d := 31) (by omega) (.bool !bb)
  have f4 : (b3.put (some 31) (.bool !bb)).defers = [] := by rw [put_defers]; exact f3
  generalize b3.put (some 31) (.bool !bb) = b4 at hz4 v4 f4
  have s31 : envOf b4 31 = .bool !bb := by rw [v4]; rfl
  have s0 : envOf b4 0 = .func (.yield l) #[] #[] := by rw [v4, v3]; exact q0
  have s1 : envOf b4 1 = .pointer (some ⟨ba, 0, none⟩) := by rw [v4, v3]; exact q1
  have s2 : envOf b4 2 = .pointer (some ⟨bs, 0, none⟩) := by rw [v4, v3]; exact q2
  have s4 : envOf b4 4 = .int .i64 i := by rw [v4, v3]; exact q4
  show (Go.Code.cond (.tmp 31) .ret .skip).wpIn _ _ _ _ _ _
  refine wpIn_cond (t := !bb) (by rw [eval_env]; exact s31) ?_
  rcases hbb with ⟨rfl, hI2⟩ | ⟨rfl, hx⟩
  · show Go.Code.skip.wpIn _ _ _ _ _ _
    refine wpIn_skip ?_
    show R1.wpIn _ _ _ _ _ _
    refine eng_wide hs1 (dfs := []) hz4 f4 (K := fun e ρ w' => e = .normal ∧ w' = W'' ∧ ρ 0 = .func (.yield l) #[] #[] ∧ ρ 1 = .pointer (some ⟨ba, 0, none⟩) ∧ ρ 2 = .pointer (some ⟨bs, 0, none⟩) ∧ ρ 4 = .int .i64 ((i + 1 : Nat) : Int)) ?_ ?_
    · have hi1 := hbd _ _ hI2
      simp (disch := omega) only [wu64, wu32, wu8, fdiv_nn, EO, ↓EP, EQ, EM, ↓reduceIte, Za, Zb, Zc, Zd, Ze, Zf, Zg, Zj, Zk, Zl, Zm, Zn, Zp, Zq, reduceCtorEq, s4]
      exact ⟨s0, s1, s2, by rw [Int.natCast_add]; rfl⟩
    rintro e a5 w5 ⟨z5, d5, rfl, rfl, t0, t1, t2, t4⟩
    refine ⟨⟨z5, d5, i + 1, hI2, t0, t1, t2, t4⟩, ?_⟩
    show N - idxOf (envOf a5 4) < N - idxOf (envOf a 4)
    rw [t4, e4]
    show N - ((i + 1 : Nat) : Int).toNat < N - (i : Int).toNat
    omega
  · show Go.Code.ret.wpIn _ _ _ _ _ _
    refine wpIn_ret ?_
    show bodyPost Tryz.prog Tryz.f74 (fun e W => (∃ v, e = Ending.returned v) ∧ Ix W) .ret b4 W''
    obtain ⟨v, hv, _⟩ := results_run (P := Tryz.prog) (fn := Tryz.f74) (a := b4) (w := W'') (l := []) (by rfl) (K := fun _ => True) trivial
    exact ⟨f4, v, hv, ⟨v, rfl⟩, hx⟩
end Go.Proofs.YtcgplgpdcfocpaaGreatDoor.Spec
end
section
set_option linter.unusedVariables false
set_option linter.unusedSimpArgs false
namespace Go.Proofs.YtcgplgpdcfocpaaGreatDoor.Spec
open Go Go.RowKit Go.Proofs Go.Proofs.YtcgplgpdcfocpaaGreatDoor.Eng Go.Proofs.YtcgplgpdcfocpaaGreatDoor.Code
set_option maxRecDepth 100000
attribute [local irreducible] callK S.W opsW scrW dig
def maskL (alg : Int) (seed : List Int) (k : Nat) : List Int := (List.range k).flatMap (blkM alg seed)
def maskR (alg : Int) (seed : List Int) (n : Int) : List Int × Int := if sizeI alg = 0 ∨ n < 0 ∨ 2048 < n then ([], 1) else ((maskL alg seed n.toNat).take n.toNat, 0)
theorem maskL_zero (alg : Int) (seed : List Int) : maskL alg seed 0 = [] := rfl
theorem maskL_succ (alg : Int) (seed : List Int) (k : Nat) : maskL alg seed (k + 1) = maskL alg seed k ++ blkM alg seed k := by
  unfold maskL
  rw [List.range_succ, List.flatMap_append]
  simp
theorem maskL_len {alg : Int} (a1 : 1 ≤ alg) (a4 : alg ≤ 4) (seed : List Int) (k : Nat) : (maskL alg seed k).length = k * (sizeI alg).toNat := by
  induction k with
  | zero => rw [maskL_zero]; simp
  | succ k ih => rw [maskL_succ, List.length_append, ih, Nat.succ_mul]; congr 1; exact dig_len a1 a4 _
theorem maskL_pre (alg : Int) (seed : List Int) (i k : Nat) : ∃ r, maskL alg seed (i + k) = maskL alg seed i ++ r := by
  induction k with
  | zero => exact ⟨[], by simp⟩
  | succ k ih =>
    obtain ⟨r, e⟩ := ih
    exact ⟨r ++ blkM alg seed (i + k), by rw [show i + (k + 1) = (i + k) + 1 by omega, maskL_succ, e, List.append_assoc]⟩
theorem maskL_take {alg : Int} (a1 : 1 ≤ alg) (a4 : alg ≤ 4) (seed : List Int) {i n : Nat} (h : n ≤ (maskL alg seed i).length) : (maskL alg seed i).take n = (maskL alg seed n).take n := by
  have hz := mk_size a1 a4
  have hn : n ≤ (maskL alg seed n).length := by
    rw [maskL_len a1 a4]
    exact Nat.le_mul_of_pos_right _ (by omega)
  rcases Nat.le_total i n with hi | hi
  · obtain ⟨r, e⟩ := maskL_pre alg seed i (n - i)
    rw [show i + (n - i) = n by omega] at e
    rw [e, List.take_append_of_le_length h]
  · obtain ⟨r, e⟩ := maskL_pre alg seed n (i - n)
    rw [show n + (i - n) = i by omega] at e
    rw [e, List.take_append_of_le_length hn]
theorem blocks_form : ∃ (id : Nat) (o1 o2 : Oper) (R0 : Code), Tryz.f43.body = some (.seq R0 (.seq (.region id #[o1, o2] false) .ret)) ∧
    strS Tryz.prog 6 [] R0 = some (.ops [⟨some 2, none, .box 3 (.tmp 0)⟩, ⟨some 3, none, .box 25 (.tmp 1)⟩, ⟨some 4, none, .mv (.const .nilFunc)⟩]) ∧
    o1.op = .makeFunc (.func 74) #[] #[.tmp 2, .tmp 3] ∧ o1.guard = none ∧ o1.dst = some 5 ∧ o2.op = .assign (.tmp 5) ∧ o2.guard = none ∧ o2.dst = some 4 := by
  exact ⟨_, _, _, _, rfl, by kernel_rfl, rfl, rfl, rfl, rfl, rfl, rfl⟩
theorem run_mkf {P : Program} {o : Oper} {fn : Fn} {x y : Operand} (h : o.op = .makeFunc fn #[] #[x, y]) (e : Operand → Value) (w : World) (K : Value → World → Prop) (hK : K (.func fn #[] #[e x, e y]) w) : runK P o e w K := by
  obtain ⟨d, op, ty, pos, af, gd⟩ := o
  subst h
  have : (execOp e ⟨d, .makeFunc fn #[] #[x, y], ty, pos, af, gd⟩).run P w = .ok (.value (.func fn #[] #[e x, e y])) w := by
    simp [execOp, go_sem, Instr.makeFunc]
  unfold runK
  rw [this]
  exact hK
theorem run_asg {P : Program} {o : Oper} {x : Operand} (h : o.op = .assign x) (e : Operand → Value) (w : World) (K : Value → World → Prop) (hK : K (e x) w) : runK P o e w K := by
  obtain ⟨d, op, ty, pos, af, gd⟩ := o
  subst h
  exact hK
theorem blocks_k {alg : Int} {A : Option Addr} {n c : Nat} {w : World} {K : Value → World → Prop}
    (hK : ∀ w1 w', New w w1 [.int .i64 alg] → New w1 w' [.slice A n c] → K (.func (.func 74) #[] #[.pointer (some ⟨w.heap.size, 0, none⟩), .pointer (some ⟨w.heap.size + 1, 0, none⟩)]) w') : callK Tryz.prog 43 [.int .i64 alg, .slice A n c] w K := by
  obtain ⟨id, o1, o2, R0, hb, hs0, h1, g1, d1, h2, g2, d2⟩ := blocks_form
  refine call_marks (m := 0) Tryz.func43 hb ?_
  refine wpIn_seq ?_
  refine eng_wide hs0 (dfs := []) (by simp) rfl (K := fun e ρ w' => e = .normal ∧ (∃ w1, New w w1 [.int .i64 alg] ∧ New w1 w' [.slice A n c]) ∧ ρ 2 = .pointer (some ⟨w.heap.size, 0, none⟩) ∧ ρ 3 = .pointer (some ⟨w.heap.size + 1, 0, none⟩)) ?_ ?_
  · rw [env_args]
    simp (disch := omega) only [wu64, wu32, wu8, fdiv_nn, EO, ↓EP, EQ, EM, ↓reduceIte, Za, Zb, Zc, Zd, Ze, Zf, Zg, Zj, Zk, Zl, Zm, Zn, Zp, Zq, reduceCtorEq]
    refine al_k [.int .i64 alg] rfl fun w1 n1 => ?_
    simp (disch := omega) only [wu64, wu32, wu8, fdiv_nn, EO, ↓EP, EQ, EM, ↓reduceIte, Za, Zb, Zc, Zd, Ze, Zf, Zg, Zj, Zk, Zl, Zm, Zn, Zp, Zq, reduceCtorEq]
    refine al_k [.slice A n c] rfl fun w2 n2 => ?_
    simp (disch := omega) only [wu64, wu32, wu8, fdiv_nn, EO, ↓EP, EQ, EM, ↓reduceIte, Za, Zb, Zc, Zd, Ze, Zf, Zg, Zj, Zk, Zl, Zm, Zn, Zp, Zq, reduceCtorEq]
    exact ⟨⟨w1, n1, n2⟩, by rw [n1.size]⟩
  rintro e a w' ⟨hsz, hdf, rfl, ⟨w1, n1, n2⟩, e2, e3⟩
  show (Go.Code.seq _ _).wpIn _ _ _ _ _ _
  refine wpIn_seq ?_
  refine wpIn_region_list ?_
  show wpListIn _ _ _ _ _ [o1, o2] a w'
  refine wpListIn_plain g1 fun K1 hK1 => ?_
  refine oper_wpIn (ro := none) (by rw [h1]; exact fun _ h => by cases h) (K := fun v w'' => v = .func (.func 74) #[] #[.pointer (some ⟨w.heap.size, 0, none⟩), .pointer (some ⟨w.heap.size + 1, 0, none⟩)] ∧ w' = w'') (run_mkf h1 _ _ _ ⟨by rw [eval_env]; show Value.func _ _ #[envOf a 2, envOf a 3] = _; rw [e2, e3], rfl⟩) ?_
  rintro v w'' ⟨rfl, rfl⟩
  refine hK1 _ _ ?_
  rw [d1]
  generalize hF : Value.func (.func 74) #[] #[.pointer (some ⟨w.heap.size, 0, none⟩), .pointer (some ⟨w.heap.size + 1, 0, none⟩)] = F
  rw [hF] at hK
  have hz1 : (a.put (some 5) F).tmps.size = 6 := by rw [put_size]; exact hsz
  have v1 := env_put (a := a) (d := 5) (by omega) F
  have f1 : (a.put (some 5) F).defers = [] := by rw [put_defers]; exact hdf
  generalize a.put (some 5) F = b1 at hz1 v1 f1
  refine wpListIn_plain g2 fun K2 hK2 => ?_
  refine oper_wpIn (ro := none) (by rw [h2]; exact fun _ h => by cases h) (K := fun v w'' => v = F ∧ w' = w'') (run_asg h2 _ _ _ ⟨by rw [eval_env]; show envOf b1 5 = F; rw [v1]; rfl, rfl⟩) ?_
  rintro v w'' ⟨rfl, rfl⟩
  refine hK2 _ _ ?_
  rw [d2]
  have hz2 : (b1.put (some 4) v).tmps.size = 6 := by rw [put_size]; exact hz1
  have v2 := env_put (a := b1) (d := 4) (by omega) v
  have f2 : (b1.put (some 4) v).defers = [] := by rw [put_defers]; exact f1
  generalize b1.put (some 4) v = b2 at hz2 v2 f2
  show Go.Code.ret.wpIn _ _ _ _ _ _
  refine wpIn_ret ?_
  show LeavesInM _ _ _ _ _ _ b2.defers _ _
  rw [f2]
  obtain ⟨u, hu, e⟩ := results_run (P := Tryz.prog) (fn := Tryz.f43) (a := b2) (w := w') (l := [.inl 4]) (by rfl) (K := fun u => u = v) (by show packV [envOf b2 4] = v; rw [v2]; rfl)
  exact ⟨u, hu, u, rfl, by rw [e]; exact hK w1 w' n1 n2⟩
end Go.Proofs.YtcgplgpdcfocpaaGreatDoor.Spec
end
section
set_option linter.unusedVariables false
set_option linter.unusedSimpArgs false
namespace Go.Proofs.YtcgplgpdcfocpaaGreatDoor.Spec
open Go Go.RowKit Go.Proofs Go.Proofs.YtcgplgpdcfocpaaGreatDoor.Eng Go.Proofs.YtcgplgpdcfocpaaGreatDoor.Code
set_option maxRecDepth 100000
theorem at_setN (l : List Int) (i j : Nat) (x : Int) (hi : i < l.length) : at' (l.set i x) (j : Int) = if i = j then x else at' l (j : Int) := by
  have := at_set l (i : Int) (j : Int) x (by omega) (by omega) (by omega)
  rw [Int.toNat_natCast] at this
  rw [this]
  split <;> split <;> first | rfl | omega
end Go.Proofs.YtcgplgpdcfocpaaGreatDoor.Spec
end
section
set_option linter.unusedVariables false
set_option linter.unusedSimpArgs false
namespace Go.Proofs.YtcgplgpdcfocpaaGreatDoor.Spec
open Go Go.RowKit Go.Proofs Go.Proofs.YtcgplgpdcfocpaaGreatDoor.Eng Go.Proofs.YtcgplgpdcfocpaaGreatDoor.Code
set_option maxRecDepth 100000
attribute [local irreducible] callK S.W opsW scrW one
def gB (r n j : Nat) : Int := if (r : Int) - 1 - j < 8 then lenB n (j - (r - 8)) else 0
end Go.Proofs.YtcgplgpdcfocpaaGreatDoor.Spec
end
section
set_option linter.unusedVariables false
set_option linter.unusedSimpArgs false
namespace Go.Proofs.YtcgplgpdcfocpaaGreatDoor.Spec
open Go Go.RowKit Go.Proofs Go.Proofs.YtcgplgpdcfocpaaGreatDoor.Eng Go.Proofs.YtcgplgpdcfocpaaGreatDoor.Code
set_option maxRecDepth 100000
attribute [local irreducible] callK S.W opsW scrW one
end Go.Proofs.YtcgplgpdcfocpaaGreatDoor.Spec
end
section
set_option linter.unusedVariables false
set_option linter.unusedSimpArgs false
namespace Go.Proofs.YtcgplgpdcfocpaaGreatDoor.Spec
open Go Go.RowKit Go.Proofs Go.Proofs.YtcgplgpdcfocpaaGreatDoor.Eng Go.Proofs.YtcgplgpdcfocpaaGreatDoor.Code
set_option maxRecDepth 100000
attribute [local irreducible] callK S.W opsW scrW one
end Go.Proofs.YtcgplgpdcfocpaaGreatDoor.Spec
end
section
set_option linter.unusedVariables false
set_option linter.unusedSimpArgs false
namespace Go.Proofs.YtcgplgpdcfocpaaGreatDoor.Spec
open Go Go.RowKit Go.Proofs Go.Proofs.YtcgplgpdcfocpaaGreatDoor.Eng Go.Proofs.YtcgplgpdcfocpaaGreatDoor.Code
set_option maxRecDepth 100000
attribute [local irreducible] callK S.W opsW scrW one
end Go.Proofs.YtcgplgpdcfocpaaGreatDoor.Spec
end
section
set_option linter.unusedVariables false
set_option linter.unusedSimpArgs false
namespace Go.Proofs.YtcgplgpdcfocpaaGreatDoor.Spec
open Go Go.RowKit Go.Proofs Go.Proofs.YtcgplgpdcfocpaaGreatDoor.Eng Go.Proofs.YtcgplgpdcfocpaaGreatDoor.Code
set_option maxRecDepth 100000
attribute [local irreducible] callK S.W opsW scrW one
end Go.Proofs.YtcgplgpdcfocpaaGreatDoor.Spec
end
section
set_option linter.unusedVariables false
set_option linter.unusedSimpArgs false
namespace Go.Proofs.YtcgplgpdcfocpaaGreatDoor.Spec
open Go Go.RowKit Go.Proofs Go.Proofs.YtcgplgpdcfocpaaGreatDoor.Eng Go.Proofs.YtcgplgpdcfocpaaGreatDoor.Code
set_option maxRecDepth 100000
attribute [local irreducible] callK S.W opsW scrW dig
theorem fill4m (a0 a1 a2 a3 : Int) : fillL [(0, 1), (1, 1), (2, 1), (3, 1)] (Array.replicate 4 (Value.int .i64 0)) [(0, .int .i64 a0), (1, .int .i64 a1), (2, .int .i64 a2), (3, .int .i64 a3)] = some (nums .i64 [a0, a1, a2, a3]).toArray := by kernel_rfl
theorem rsize_k (alg : Int) (w : World) (K : Value → World → Prop) (hK : K (.int .i64 (sizeI alg)) w) : callK Tryz.prog 14 [.int .i64 alg] w K := by
  refine call_of Tryz.func14 Code.h14 (by simp [Code.c14]) ?_
  unfold sizeI at hK
  have c : alg = 1 ∨ alg = 2 ∨ alg = 3 ∨ alg = 4 ∨ alg < 1 ∨ 4 < alg := by omega
  rcases c with rfl | rfl | rfl | rfl | c | c
  · simp (disch := omega) only [EO, ↓EP, EQ, EM, ↓reduceIte, Za, Zb, Zc, Zd, Ze, Zf, Zg, Zj, Zk, Zl, Zm, Zn, Zp, Zq, reduceCtorEq, Code.c14]
    refine ⟨_, fill4m _ _ _ _, ?_⟩
    simp (disch := omega) only [EO, ↓EP, EQ, EM, ↓reduceIte, Za, Zb, Zc, Zd, Ze, Zf, Zg, Zj, Zk, Zl, Zm, Zn, Zp, Zq, reduceCtorEq]
    refine ⟨_, rfl, ?_⟩
    simp (disch := omega) only [EO, ↓EP, EQ, EM, ↓reduceIte, Za, Zb, Zc, Zd, Ze, Zf, Zg, Zj, Zk, Zl, Zm, Zn, Zp, Zq, reduceCtorEq]
    exact hK
  · simp (disch := omega) only [EO, ↓EP, EQ, EM, ↓reduceIte, Za, Zb, Zc, Zd, Ze, Zf, Zg, Zj, Zk, Zl, Zm, Zn, Zp, Zq, reduceCtorEq, Code.c14]
    refine ⟨_, fill4m _ _ _ _, ?_⟩
    simp (disch := omega) only [EO, ↓EP, EQ, EM, ↓reduceIte, Za, Zb, Zc, Zd, Ze, Zf, Zg, Zj, Zk, Zl, Zm, Zn, Zp, Zq, reduceCtorEq]
    refine ⟨_, rfl, ?_⟩
    simp (disch := omega) only [EO, ↓EP, EQ, EM, ↓reduceIte, Za, Zb, Zc, Zd, Ze, Zf, Zg, Zj, Zk, Zl, Zm, Zn, Zp, Zq, reduceCtorEq]
    exact hK
  · simp (disch := omega) only [EO, ↓EP, EQ, EM, ↓reduceIte, Za, Zb, Zc, Zd, Ze, Zf, Zg, Zj, Zk, Zl, Zm, Zn, Zp, Zq, reduceCtorEq, Code.c14]
    refine ⟨_, fill4m _ _ _ _, ?_⟩
    simp (disch := omega) only [EO, ↓EP, EQ, EM, ↓reduceIte, Za, Zb, Zc, Zd, Ze, Zf, Zg, Zj, Zk, Zl, Zm, Zn, Zp, Zq, reduceCtorEq]
    refine ⟨_, rfl, ?_⟩
    simp (disch := omega) only [EO, ↓EP, EQ, EM, ↓reduceIte, Za, Zb, Zc, Zd, Ze, Zf, Zg, Zj, Zk, Zl, Zm, Zn, Zp, Zq, reduceCtorEq]
    exact hK
  · simp (disch := omega) only [EO, ↓EP, EQ, EM, ↓reduceIte, Za, Zb, Zc, Zd, Ze, Zf, Zg, Zj, Zk, Zl, Zm, Zn, Zp, Zq, reduceCtorEq, Code.c14]
    refine ⟨_, fill4m _ _ _ _, ?_⟩
    simp (disch := omega) only [EO, ↓EP, EQ, EM, ↓reduceIte, Za, Zb, Zc, Zd, Ze, Zf, Zg, Zj, Zk, Zl, Zm, Zn, Zp, Zq, reduceCtorEq]
    refine ⟨_, rfl, ?_⟩
    simp (disch := omega) only [EO, ↓EP, EQ, EM, ↓reduceIte, Za, Zb, Zc, Zd, Ze, Zf, Zg, Zj, Zk, Zl, Zm, Zn, Zp, Zq, reduceCtorEq]
    exact hK
  · simp (disch := omega) only [EO, ↓EP, EQ, EM, ↓reduceIte, Za, Zb, Zc, Zd, Ze, Zf, Zg, Zj, Zk, Zl, Zm, Zn, Zp, Zq, reduceCtorEq, Code.c14]
    rwa [if_neg (by omega), if_neg (by omega), if_neg (by omega), if_neg (by omega)] at hK
  · simp (disch := omega) only [EO, ↓EP, EQ, EM, ↓reduceIte, Za, Zb, Zc, Zd, Ze, Zf, Zg, Zj, Zk, Zl, Zm, Zn, Zp, Zq, reduceCtorEq, Code.c14]
    rwa [if_neg (by omega), if_neg (by omega), if_neg (by omega), if_neg (by omega)] at hK
end Go.Proofs.YtcgplgpdcfocpaaGreatDoor.Spec
end
section
set_option linter.unusedVariables false
set_option linter.unusedSimpArgs false
namespace Go.Proofs.YtcgplgpdcfocpaaGreatDoor.Spec
open Go Go.RowKit Go.Proofs Go.Proofs.YtcgplgpdcfocpaaGreatDoor.Eng Go.Proofs.YtcgplgpdcfocpaaGreatDoor.Code
set_option maxRecDepth 100000
attribute [local irreducible] callK S.W opsW scrW dig
def mkAsg : S := .ops [⟨some 9, none, .mv (.tmp 24)⟩]
def mkBody : S := .block 1
    (.seq (.seq (.ops [⟨some 25, none, .ld .slice (.tmp 8)⟩,
      ⟨some 26, none, .len (.tmp 25)⟩,
      ⟨some 27, none, .ld (.int .i64) (.tmp 5)⟩,
      ⟨some 28, none, .bin .geq (.tmp 26) (.tmp 27)⟩])
    (.cond (.tmp 28)
      (.exit 0)
      .skip))
    (.ops [⟨some 29, none, .ld .slice (.tmp 8)⟩,
      ⟨some 30, none, .mv (.tmp 9)⟩,
      ⟨some 31, none, .app 5 1 1 #[(.int .u8 0)] (.tmp 29) (.tmp 30)⟩,
      ⟨none, none, .st 1 (.tmp 8) (.tmp 31)⟩]))
theorem mask_form : ∃ (A0 A1 A2 A3 A4 As Bd : Code), Tryz.f22.body = some (.seq A0 (.seq A1 (.seq A2 (.seq (.seq A3 (.block 0 (.rangeFunc (.tmp 23) #[24] As Bd))) A4)))) ∧
    strS Tryz.prog 36 [] A0 = some (.ops [⟨some 5, none, .box 3 (.tmp 2)⟩, ⟨some 6, none, .mv (.const (.slice none 0 0))⟩, ⟨some 7, none, .mv (.const (.int .i64 0))⟩]) ∧
    strS Tryz.prog 36 [] A1 = some (.seq (.ops [⟨some 10, none, .mv (.tmp 0)⟩,
  ⟨some 11, none, .call 37 [(.tmp 10)]⟩,
  ⟨some 12, none, .bin .eql (.tmp 11) (.const (.int .i64 0))⟩,
  ⟨some 13, none, .mv (.tmp 12)⟩,
  ⟨some 14, some (13, false), .ld (.int .i64) (.tmp 5)⟩,
  ⟨some 15, some (13, false), .bin .lss (.tmp 14) (.const (.int .i64 0))⟩,
  ⟨some 16, none, .pick (.tmp 13) (.const (.bool true)) (.tmp 15)⟩,
  ⟨some 17, none, .mv (.tmp 16)⟩,
  ⟨some 18, some (17, false), .ld (.int .i64) (.tmp 5)⟩,
  ⟨some 19, some (17, false), .bin .gtr (.tmp 18) (.const (.int .i64 2048))⟩,
  ⟨some 20, none, .pick (.tmp 17) (.const (.bool true)) (.tmp 19)⟩])
(.cond (.tmp 20)
  (.seq (.ops [⟨some 6, none, .mv (.const (.slice none 0 0))⟩,
    ⟨some 7, none, .mv (.const (.int .i64 1))⟩])
  .ret)
  .skip)) ∧
    strS Tryz.prog 36 [] A2 = some (.ops [⟨some 8, none, .alloc 25 (.slice none 0 0)⟩]) ∧
    strS Tryz.prog 36 [] A3 = some (.ops [⟨some 21, none, .mv (.tmp 0)⟩, ⟨some 22, none, .mv (.tmp 1)⟩, ⟨some 23, none, .call 43 [(.tmp 21), (.tmp 22)]⟩]) ∧
    strS Tryz.prog 36 [] As = some mkAsg ∧ strS Tryz.prog 36 [] Bd = some mkBody ∧
    strS Tryz.prog 36 [] A4 = some (.seq (.ops [⟨some 32, none, .ld .slice (.tmp 8)⟩,
  ⟨some 33, none, .ld (.int .i64) (.tmp 5)⟩,
  ⟨some 34, none, .ld (.int .i64) (.tmp 5)⟩,
  ⟨some 35, none, .slc 1 (.tmp 32) none (some (.tmp 33)) (some (.tmp 34))⟩,
  ⟨some 6, none, .mv (.tmp 35)⟩,
  ⟨some 7, none, .mv (.const (.int .i64 0))⟩])
.ret) ∧ plainC As = true ∧ plainC Bd = true := by
  exact ⟨_, _, _, _, _, _, _, rfl, by kernel_rfl, by kernel_rfl, by kernel_rfl, by kernel_rfl, by kernel_rfl, by kernel_rfl, by kernel_rfl, by kernel_rfl, by kernel_rfl⟩
theorem fr_put (w : World) (ib : Nat) (o : Obj) : Fr w (w.putObj ib o) (fun b => b = ib) :=
  ⟨⟨rfl, rfl, rfl, by simp [World.putObj], fun k hk => by omega⟩, fun b _ hb => by
    show (w.heap.setIfInBounds ib o)[b]? = w.heap[b]?
    rw [Array.getElem?_setIfInBounds_ne (fun e => hb e.symm)]⟩
theorem put_at {w : World} {ib : Nat} {o o' : Obj} (h : w.heap[ib]? = some o') : (w.putObj ib o).heap[ib]? = some o := by
  show (w.heap.setIfInBounds ib o)[ib]? = some o
  rw [Array.getElem?_setIfInBounds_self_of_lt (Array.getElem?_eq_some_iff.1 h).1]
theorem ob_fr (w : World) (o : Obj) : Fr w (w.alloc o) nob := by
  have hh : (w.alloc o).heap = w.heap.push o := rfl
  refine ⟨⟨rfl, rfl, rfl, ?_, fun k hk => by omega⟩, fun b hb _ => ?_⟩
  · rw [hh, Array.size_push]; omega
  · rw [hh, Array.getElem?_push_lt hb, Array.getElem?_eq_getElem hb]
theorem ob_size (w : World) (o : Obj) : (w.alloc o).heap.size = w.heap.size + 1 := by
  show (w.heap.push o).size = _
  rw [Array.size_push]
theorem ob_at (w : World) (o : Obj) : (w.alloc o).heap[w.heap.size]? = some o := by
  show (w.heap.push o)[w.heap.size]? = some o
  rw [Array.getElem?_push_size]
structure MCore (w0 : World) (alg n : Int) (sv : Value) (W : World) : Prop where
  nb : Blk W w0.heap.size [.int .i64 n]
  ab : Blk W (w0.heap.size + 2) [.int .i64 alg]
  sb : Blk W (w0.heap.size + 3) [sv]
  de : W.heap[w0.heap.size + 4]? = some (.deferred (some []))
  fr : Fr w0 W nob
theorem MCore.step {w0 W W' : World} {alg n : Int} {sv : Value} {P : Nat → Prop} (h : MCore w0 alg n sv W) (f : Fr W W' P) (hP : ∀ x, P x → x = w0.heap.size + 1 ∨ w0.heap.size + 5 ≤ x) : MCore w0 alg n sv W' := by
  have hl := (Array.getElem?_eq_some_iff.1 h.de).1
  refine ⟨h.nb.fr f fun e => ?_, h.ab.fr f fun e => ?_, h.sb.fr f fun e => ?_, ?_, h.fr.trans f fun x hx e => ?_⟩
  · have := hP _ e; omega
  · have := hP _ e; omega
  · have := hP _ e; omega
  · rw [f.block _ hl fun e => by have := hP _ e; omega]; exact h.de
  · have := hP _ e; omega
structure MI (w0 : World) (alg n : Int) (seed : List Int) (sv : Value) (rec : Loop) (i : Nat) (W : World) : Prop where
  co : MCore w0 alg n sv W
  re : W.heap[w0.heap.size + 5]? = some (.loop rec)
  out : ∃ v, Blk W (w0.heap.size + 1) [v] ∧ Sl .u8 W v (maskL alg seed i) ∧ ∀ b, blkOf v = some b → w0.heap.size + 6 ≤ b
  bd : ∀ j, i = j + 1 → ((maskL alg seed j).length : Int) < n
structure MX (w0 : World) (alg n : Int) (seed : List Int) (sv : Value) (rec : Loop) (W : World) : Prop where
  co : MCore w0 alg n sv W
  re : W.heap[w0.heap.size + 5]? = some (.loop { rec with state := .done, pending := some (.exit 0) })
  out : ∃ i v, Blk W (w0.heap.size + 1) [v] ∧ Sl .u8 W v (maskL alg seed i) ∧ (∀ b, blkOf v = some b → w0.heap.size + 6 ≤ b) ∧ n ≤ (maskL alg seed i).length
set_option maxHeartbeats 4000000 in
theorem mask_round {w0 : World} {alg n : Int} {seed : List Int} {sv : Value} {fn : FuncId} {T : Array Value} {As Bd : Code} {m i : Nat} (a1 : 1 ≤ alg) (a4 : alg ≤ 4) (hn : n ≤ 2048)
    (hpa : plainC As = true) (hpb : plainC Bd = true) (hsa : strS Tryz.prog 36 [] As = some mkAsg) (hsb : strS Tryz.prog 36 [] Bd = some mkBody)
    (hT : T.size = 36) (t5 : T.getD 5 undef = .pointer (some ⟨w0.heap.size, 0, none⟩)) (t8 : T.getD 8 undef = .pointer (some ⟨w0.heap.size + 1, 0, none⟩))
    {rec : Loop} (hrec : rec = ⟨.ready, none, fn, T, #[24], As, Bd, w0.heap.size + 4⟩)
    {W W' : World} {A : Option Addr} {c : Nat} (h : MI w0 alg n seed sv rec i W) (g : Gw .u8 W W' (.slice A (sizeI alg).toNat c) (blkM alg seed i)) :
    YldAt m Tryz.prog (w0.heap.size + 5) (.slice A (sizeI alg).toNat c) W' fun e W'' => (e = .returned (.bool true) ∧ MI w0 alg n seed sv rec (i + 1) W'') ∨ (e = .returned (.bool false) ∧ MX w0 alg n seed sv rec W'') := by
  have hlt := (Array.getElem?_eq_some_iff.1 h.re).1
  have re1 : W'.heap[w0.heap.size + 5]? = some (.loop rec) := by rw [g.fr.block _ hlt fun e => e.elim]; exact h.re
  have co1 := h.co.step g.fr fun x e => e.elim
  obtain ⟨v, hbv, hsv, huv⟩ := h.out
  have hbv := hbv.fr g.fr fun e => e.elim
  have hsv := hsv.fr g.fr fun _ _ e => e.elim
  have hzz := mk_size a1 a4
  have hgl := g.sl
  have hup := g.up
  obtain ⟨x, hx⟩ : ∃ x, x = Value.slice A (sizeI alg).toNat c := ⟨_, rfl⟩
  rw [← hx] at hgl hup ⊢
  refine ⟨fn, T.setIfInBounds 24 x, As, Bd, ?_, ?_⟩
  · rw [run_yield (args := #[x]) re1 (by rw [hrec]; rfl)]
    simp [hrec]
  refine round_eng (n := 36) hpa hpb hsa hsb (by simpa using hT) ?_
  obtain ⟨ρ, hρ⟩ : ∃ ρ : Env, ρ = fun t => (T.setIfInBounds 24 x).getD t undef := ⟨_, rfl⟩
  have e5 : ρ 5 = .pointer (some ⟨w0.heap.size, 0, none⟩) := by rw [hρ, ← t5]; simp [Array.getD_eq_getD_getElem?, Array.getElem?_setIfInBounds_ne]
  have e8 : ρ 8 = .pointer (some ⟨w0.heap.size + 1, 0, none⟩) := by rw [hρ, ← t8]; simp [Array.getD_eq_getD_getElem?, Array.getElem?_setIfInBounds_ne]
  have e24 : ρ 24 = x := by rw [hρ]; simp [Array.getD_eq_getD_getElem?, hT]
  rw [← hρ]
  have fb := fr_put W' (w0.heap.size + 5) (.loop { rec with state := .busy })
  have re2 := put_at (o := .loop { rec with state := .busy }) re1
  have co2 := co1.step fb fun x e => by omega
  have hbv2 := hbv.fr fb (by omega)
  have hsv2 := hsv.fr fb fun b e => by have := huv b e; omega
  have hgl2 := hgl.fr fb fun b e => by have := hup b e; omega
  obtain ⟨KK, hKK⟩ : ∃ KK : Exit → Env → World → Prop, KK = fun e ρ w₁ => e = .normal ∧ ∃ r, w₁.heap[w0.heap.size + 5]? = some (.loop r) ∧ r.state = .ready ∧ mkBody.W Tryz.prog (rndK (w0.heap.size + 5) fun e W'' => (e = .returned (.bool true) ∧ MI w0 alg n seed sv rec (i + 1) W'') ∨ (e = .returned (.bool false) ∧ MX w0 alg n seed sv rec W'')) ρ (w₁.putObj (w0.heap.size + 5) (.loop { r with state := .busy })) := ⟨_, rfl⟩
  rw [← hKK]
  suffices hs : ∀ ρ' : Env, ρ' 5 = ρ 5 → ρ' 8 = ρ 8 → ρ' 9 = x → KK .normal ρ' W' by
    simp (disch := omega) only [wu64, wu32, wu8, fdiv_nn, EO, ↓EP, EQ, EM, ↓reduceIte, Za, Zb, Zc, Zd, Ze, Zf, Zg, Zj, Zk, Zl, Zm, Zn, Zp, Zq, reduceCtorEq, mkAsg, e24]
    refine hs _ ?_ ?_ ?_
    · simp (disch := omega) only [wu64, wu32, wu8, fdiv_nn, EO, ↓EP, EQ, EM, ↓reduceIte, Za, Zb, Zc, Zd, Ze, Zf, Zg, Zj, Zk, Zl, Zm, Zn, Zp, Zq, reduceCtorEq]
    · simp (disch := omega) only [wu64, wu32, wu8, fdiv_nn, EO, ↓EP, EQ, EM, ↓reduceIte, Za, Zb, Zc, Zd, Ze, Zf, Zg, Zj, Zk, Zl, Zm, Zn, Zp, Zq, reduceCtorEq]
    · simp (disch := omega) only [wu64, wu32, wu8, fdiv_nn, EO, ↓EP, EQ, EM, ↓reduceIte, Za, Zb, Zc, Zd, Ze, Zf, Zg, Zj, Zk, Zl, Zm, Zn, Zp, Zq, reduceCtorEq]
  intro ρ' q5 q8 q9
  rw [hKK]
  refine ⟨rfl, rec, re1, by rw [hrec], ?_⟩
  rw [e5] at q5
  rw [e8] at q8
  generalize hW2 : W'.putObj (w0.heap.size + 5) (.loop { rec with state := .busy }) = W2 at *
  have k5 : W2.cell? ⟨w0.heap.size, 0, none⟩ = some (.int .i64 n) := co2.nb.has 0 _ rfl
  have k8 : W2.cell? ⟨w0.heap.size + 1, 0, none⟩ = some v := hbv2.has 0 _ rfl
  obtain ⟨B, d, rfl, hd, hrB, _⟩ := hsv2.read
  obtain ⟨A', c', hx', _, hr', _⟩ := hgl2.read
  by_cases hq : n ≤ ((maskL alg seed i).length : Int)
  · simp (disch := omega) only [wu64, wu32, wu8, fdiv_nn, EO, ↓EP, EQ, EM, ↓reduceIte, Za, Zb, Zc, Zd, Ze, Zf, Zg, Zj, Zk, Zl, Zm, Zn, Zp, Zq, reduceCtorEq, mkBody, q5, q8, q9, k5, k8, hq]
    have er : ({ { rec with state := .busy } with state := .done, pending := some (.exit 0) } : Loop) = { rec with state := .done, pending := some (.exit 0) } := rfl
    have f3 := fr_put W2 (w0.heap.size + 5) (.loop { rec with state := .done, pending := some (.exit 0) })
    refine ⟨_, re2, .inr ⟨rfl, ?_⟩⟩
    exact ⟨co2.step f3 fun b e => by omega, put_at re2, i, _, hbv2.fr f3 (by omega), hsv2.fr f3 fun b e => (by have := huv b e; omega), huv, hq⟩
  · simp (disch := omega) only [wu64, wu32, wu8, fdiv_nn, EO, ↓EP, EQ, EM, ↓reduceIte, Za, Zb, Zc, Zd, Ze, Zf, Zg, Zj, Zk, Zl, Zm, Zn, Zp, Zq, reduceCtorEq, mkBody, q5, q8, q9, k5, k8, hq]
    subst hx'
    have hl : ((maskL alg seed i).length : Int) < n := by omega
    have hln := dig_len a1 a4 (seed ++ be4 i)
    have hln : (blkM alg seed i).length = (sizeI alg).toNat := hln
    refine app_num hsv2 rfl hr' (by omega) (by decide) fun v' w3 ap => ?_
    have hbv3 := hbv2.fr ap.fr fun e => by have := huv _ e; omega
    have re3 := ap.fr.block _ (Array.getElem?_eq_some_iff.1 re2).1 fun e => by have := huv _ e; omega
    rw [re2] at re3
    have co3 := co2.step ap.fr fun b e => by have := huv _ e; omega
    have hz3 := ap.fr.size
    have hW2s : w0.heap.size + 5 < W2.heap.size := (Array.getElem?_eq_some_iff.1 re2).1
    have huv3 : ∀ b, blkOf v' = some b → w0.heap.size + 6 ≤ b := fun b e => by
      rcases ap.where_ with h | h
      · exact huv b (h ▸ e)
      · have := h b e; omega
    have hv1 : v'.oneCell' = true := by
      obtain ⟨_, _, e, _⟩ := ap.sl.read
      rw [e]; rfl
    simp (disch := omega) only [wu64, wu32, wu8, fdiv_nn, EO, ↓EP, EQ, EM, ↓reduceIte, Za, Zb, Zc, Zd, Ze, Zf, Zg, Zj, Zk, Zl, Zm, Zn, Zp, Zq, reduceCtorEq, q8]
    refine st_one hbv3 (by simp) hv1 fun w4 p4 => ?_
    simp (disch := omega) only [wu64, wu32, wu8, fdiv_nn, EO, ↓EP, EQ, EM, ↓reduceIte, Za, Zb, Zc, Zd, Ze, Zf, Zg, Zj, Zk, Zl, Zm, Zn, Zp, Zq, reduceCtorEq]
    have re4 : w4.heap[w0.heap.size + 5]? = _ := p4.fr.block _ (Array.getElem?_eq_some_iff.1 re3).1 (by omega)
    rw [re3] at re4
    have co4 := co3.step p4.fr fun b e => by omega
    have f5 := fr_put w4 (w0.heap.size + 5) (.loop rec)
    have er : ({ { rec with state := .busy } with state := .ready, pending := none } : Loop) = rec := by rw [hrec]
    refine ⟨_, re4, .inl ⟨rfl, ?_⟩⟩
    rw [er]
    refine ⟨co4.step f5 fun b e => by omega, put_at re4, ⟨v', ?_, ?_, huv3⟩, fun j e => ?_⟩
    · exact p4.blk.fr f5 (by omega)
    · rw [maskL_succ]
      exact (ap.sl.fr p4.fr fun b e => by have := huv3 b e; omega).fr f5 fun b e => by have := huv3 b e; omega
    · obtain rfl : j = i := by omega
      exact hl
end Go.Proofs.YtcgplgpdcfocpaaGreatDoor.Spec
end
section
set_option linter.unusedVariables false
set_option linter.unusedSimpArgs false
namespace Go.Proofs.YtcgplgpdcfocpaaGreatDoor.Spec
open Go Go.RowKit Go.Proofs Go.Proofs.YtcgplgpdcfocpaaGreatDoor.Eng Go.Proofs.YtcgplgpdcfocpaaGreatDoor.Code
set_option maxRecDepth 100000
attribute [local irreducible] callK S.W opsW scrW dig
theorem sizeI_zero {alg : Int} : sizeI alg = 0 ↔ (alg < 1 ∨ 4 < alg) := by
  constructor
  · intro h
    by_cases a1 : 1 ≤ alg
    · by_cases a4 : alg ≤ 4
      · have := mk_size a1 a4; omega
      · omega
    · omega
  · intro h
    unfold sizeI
    repeat' split
    all_goals omega
set_option maxHeartbeats 4000000 in
theorem mask_k {alg n : Int} {seed : List Int} {A : Option Addr} {c : Nat} {w : World} (hT : Tb w) (hc : seed.length ≤ c) (hr : Rd w A (nums .u8 seed)) (hseed : seed.length ≤ 16777000) {K : Value → World → Prop}
    (hK : ∀ v w', Vw .u8 w' v (maskR alg seed n).1 → (∀ b, blkOf v = some b → w.heap.size ≤ b) → Fr w w' nob → K (.tuple #[v, .int .i64 (maskR alg seed n).2]) w') : callK Tryz.prog 22 [.int .i64 alg, .slice A seed.length c, .int .i64 n] w K := by
  obtain ⟨A0, A1, A2, A3, A4, As, Bd, hb, h0, h1, h2, h3, hsa, hsb, h4, hpa, hpb⟩ := mask_form
  refine call_marks (m := 2) Tryz.func22 hb ?_
  refine wpIn_seq ?_
  refine eng_wide h0 (dfs := []) (by simp) rfl (K := fun e ρ w' => e = .normal ∧ New w w' [.int .i64 n] ∧ ρ 0 = .int .i64 alg ∧ ρ 1 = .slice A seed.length c ∧ ρ 5 = .pointer (some ⟨w.heap.size, 0, none⟩)) ?_ ?_
  · rw [env_args]
    simp (disch := omega) only [wu64, wu32, wu8, fdiv_nn, EO, ↓EP, EQ, EM, ↓reduceIte, Za, Zb, Zc, Zd, Ze, Zf, Zg, Zj, Zk, Zl, Zm, Zn, Zp, Zq, reduceCtorEq]
    refine al_k [.int .i64 n] rfl fun w1 n1 => ?_
    simp (disch := omega) only [wu64, wu32, wu8, fdiv_nn, EO, ↓EP, EQ, EM, ↓reduceIte, Za, Zb, Zc, Zd, Ze, Zf, Zg, Zj, Zk, Zl, Zm, Zn, Zp, Zq, reduceCtorEq]
    exact n1
  rintro e a w1 ⟨hsz, hdf, rfl, n1, e0, e1, e5⟩
  show (Go.Code.seq _ _).wpIn _ _ _ _ _ _
  have f1 := n1.fr nob
  have k5 : w1.cell? ⟨w.heap.size, 0, none⟩ = some (.int .i64 n) := n1.blk.has 0 _ rfl
  refine wpIn_seq ?_
  refine eng_wide h1 (dfs := []) hsz hdf (K := fun e ρ w' => w' = w1 ∧ ((e = .normal ∧ ¬ (sizeI alg = 0 ∨ n < 0 ∨ 2048 < n) ∧ ρ 0 = .int .i64 alg ∧ ρ 1 = .slice A seed.length c ∧ ρ 5 = .pointer (some ⟨w.heap.size, 0, none⟩)) ∨ (e = .ret ∧ (sizeI alg = 0 ∨ n < 0 ∨ 2048 < n) ∧ ρ 6 = .slice none 0 0 ∧ ρ 7 = .int .i64 1))) ?_ ?_
  · simp (disch := omega) only [wu64, wu32, wu8, fdiv_nn, EO, ↓EP, EQ, EM, ↓reduceIte, Za, Zb, Zc, Zd, Ze, Zf, Zg, Zj, Zk, Zl, Zm, Zn, Zp, Zq, reduceCtorEq, e0, e1, e5, k5]
    refine size_spec alg _ _ ?_
    by_cases c0 : sizeI alg = 0
    · simp (disch := omega) only [wu64, wu32, wu8, fdiv_nn, EO, ↓EP, EQ, EM, ↓reduceIte, Za, Zb, Zc, Zd, Ze, Zf, Zg, Zj, Zk, Zl, Zm, Zn, Zp, Zq, reduceCtorEq, e0, e1, e5, k5, c0]
      simp
    · by_cases c1 : n < 0
      · simp (disch := omega) only [wu64, wu32, wu8, fdiv_nn, EO, ↓EP, EQ, EM, ↓reduceIte, Za, Zb, Zc, Zd, Ze, Zf, Zg, Zj, Zk, Zl, Zm, Zn, Zp, Zq, reduceCtorEq, e0, e1, e5, k5, c0, c1]
        simp
      · by_cases c2 : 2048 < n
        · simp (disch := omega) only [wu64, wu32, wu8, fdiv_nn, EO, ↓EP, EQ, EM, ↓reduceIte, Za, Zb, Zc, Zd, Ze, Zf, Zg, Zj, Zk, Zl, Zm, Zn, Zp, Zq, reduceCtorEq, e0, e1, e5, k5, c0, c1, c2]
          simp
        · simp (disch := omega) only [wu64, wu32, wu8, fdiv_nn, EO, ↓EP, EQ, EM, ↓reduceIte, Za, Zb, Zc, Zd, Ze, Zf, Zg, Zj, Zk, Zl, Zm, Zn, Zp, Zq, reduceCtorEq, e0, e1, e5, k5, c0, c1, c2]
          simp
  rintro e a w' ⟨hsz, hdf, rfl, ⟨rfl, hbad, e0, e1, e5⟩ | ⟨rfl, hbad, e6, e7⟩⟩
  rotate_left
  · show LeavesInM _ _ _ _ _ _ a.defers _ _
    rw [hdf]
    have hR : maskR alg seed n = ([], 1) := if_pos hbad
    obtain ⟨u, hu, e⟩ := results_run (P := Tryz.prog) (fn := Tryz.f22) (a := a) (w := w') (l := [.inl 6, .inl 7]) (by rfl) (K := fun u => u = .tuple #[.slice none 0 0, .int .i64 1]) (by show packV [envOf a 6, envOf a 7] = _; rw [e6, e7]; rfl)
    refine ⟨u, hu, u, rfl, ?_⟩
    rw [e]
    have := hK (.slice none 0 0) w' (by rw [hR]; exact Vw.nil _ _) (fun b e => by cases e) f1
    rw [hR] at this
    exact this
  obtain ⟨g0, gn, gx⟩ : sizeI alg ≠ 0 ∧ 0 ≤ n ∧ n ≤ 2048 := by omega
  have ha : ¬ (alg < 1 ∨ 4 < alg) := fun h => g0 (sizeI_zero.2 h)
  have a1 : 1 ≤ alg := by omega
  have a4 : alg ≤ 4 := by omega
  have hzz := mk_size a1 a4
  have hR : maskR alg seed n = ((maskL alg seed n.toNat).take n.toNat, 0) := if_neg hbad
  rw [hR] at hK
  show (Go.Code.seq _ _).wpIn _ _ _ _ _ _
  refine wpIn_seq ?_
  refine eng_wide h2 (dfs := []) hsz hdf (K := fun e ρ w'' => e = .normal ∧ New w' w'' [.slice none 0 0] ∧ ρ 0 = .int .i64 alg ∧ ρ 1 = .slice A seed.length c ∧ ρ 5 = .pointer (some ⟨w.heap.size, 0, none⟩) ∧ ρ 8 = .pointer (some ⟨w'.heap.size, 0, none⟩)) ?_ ?_
  · simp (disch := omega) only [wu64, wu32, wu8, fdiv_nn, EO, ↓EP, EQ, EM, ↓reduceIte, Za, Zb, Zc, Zd, Ze, Zf, Zg, Zj, Zk, Zl, Zm, Zn, Zp, Zq, reduceCtorEq, e0, e1, e5]
    refine al_k [.slice none 0 0] rfl fun w2 n2 => ?_
    simp (disch := omega) only [wu64, wu32, wu8, fdiv_nn, EO, ↓EP, EQ, EM, ↓reduceIte, Za, Zb, Zc, Zd, Ze, Zf, Zg, Zj, Zk, Zl, Zm, Zn, Zp, Zq, reduceCtorEq, e0, e1, e5]
    exact n2
  clear hsz hdf e0 e1 e5
  rintro e a2 w2 ⟨hsz, hdf, rfl, n2, e0, e1, e5, e8⟩
  rw [n1.size] at e8
  show (Go.Code.seq _ _).wpIn _ _ _ _ _ _
  refine wpIn_seq ?_
  refine wpIn_seq ?_
  refine eng_wide h3 (dfs := []) hsz hdf (K := fun e ρ w4 => e = .normal ∧ (∃ w3, New w2 w3 [.int .i64 alg] ∧ New w3 w4 [.slice A seed.length c]) ∧ ρ 23 = .func (.func 74) #[] #[.pointer (some ⟨w2.heap.size, 0, none⟩), .pointer (some ⟨w2.heap.size + 1, 0, none⟩)] ∧ ρ 5 = .pointer (some ⟨w.heap.size, 0, none⟩) ∧ ρ 8 = .pointer (some ⟨w.heap.size + 1, 0, none⟩)) ?_ ?_
  · simp (disch := omega) only [wu64, wu32, wu8, fdiv_nn, EO, ↓EP, EQ, EM, ↓reduceIte, Za, Zb, Zc, Zd, Ze, Zf, Zg, Zj, Zk, Zl, Zm, Zn, Zp, Zq, reduceCtorEq, e0, e1, e5, e8]
    refine blocks_k fun w3 w4 n3 n4 => ?_
    simp (disch := omega) only [wu64, wu32, wu8, fdiv_nn, EO, ↓EP, EQ, EM, ↓reduceIte, Za, Zb, Zc, Zd, Ze, Zf, Zg, Zj, Zk, Zl, Zm, Zn, Zp, Zq, reduceCtorEq, e0, e1, e5, e8]
    exact ⟨w3, n3, n4⟩
  clear hsz hdf e0 e1 e5 e8
  rintro e a3 w4 ⟨hsz, hdf, rfl, ⟨w3, n3, n4⟩, e23, e5, e8⟩
  have s1 := n1.size
  have s2 := n2.size
  have s3 := n3.size
  have s4 := n4.size
  rw [show w2.heap.size = w.heap.size + 2 by omega] at e23
  show (Go.Code.block 0 _).wpIn _ _ _ _ _ _
  refine wpIn_block ?_
  refine range_eng (by rw [eval_env]; exact e23) (fun args w => call_run Tryz.func74 (by kernel_rfl) (by kernel_rfl) args w) fun fn => ?_
  obtain ⟨rec, hrec⟩ : ∃ rec, rec = recOf w4 fn a3.tmps #[24] As Bd := ⟨_, rfl⟩
  rw [← hrec]
  have hs4 : w4.heap.size = w.heap.size + 4 := by omega
  obtain ⟨W, hW⟩ : ∃ W, W = (w4.alloc (.deferred (some []))).alloc (.loop rec) := ⟨_, rfl⟩
  have f4 : Fr w4 (w4.alloc (.deferred (some []))) nob := ob_fr _ _
  have f5 : Fr (w4.alloc (.deferred (some []))) W nob := by rw [hW]; exact ob_fr _ _
  have r5 : W.heap[w.heap.size + 5]? = some (.loop rec) := by
    have := ob_at (w4.alloc (.deferred (some []))) (.loop rec)
    rw [ob_size, hs4, ← hW] at this
    exact this
  have r4 : W.heap[w.heap.size + 4]? = some (.deferred (some [])) := by
    have h := ob_at w4 (.deferred (some []))
    rw [← f5.block _ (by rw [ob_size]; omega) (fun e => e), hs4] at h
    exact h
  have fw : Fr w4 W nob := f4.nb f5
  have ff : Fr w W nob := (((f1.nb (n2.fr nob)).nb (n3.fr nob)).nb (n4.fr nob)).nb fw
  have bo : Blk W (w.heap.size + 1) [.slice none 0 0] := by
    have := n2.blk
    rw [s1] at this
    exact ((this.nb (n3.fr nob)).nb (n4.fr nob)).nb fw
  have bn : Blk W w.heap.size [.int .i64 n] := (((n1.blk.nb (n2.fr nob)).nb (n3.fr nob)).nb (n4.fr nob)).nb fw
  have ba : Blk W (w.heap.size + 2) [.int .i64 alg] := by
    have := n3.blk
    rw [show w2.heap.size = w.heap.size + 2 by omega] at this
    exact (this.nb (n4.fr nob)).nb fw
  have bs : Blk W (w.heap.size + 3) [.slice A seed.length c] := by
    have := n4.blk
    rw [show w3.heap.size = w.heap.size + 3 by omega] at this
    exact this.nb fw
  have hI0 : MI w alg n seed (.slice A seed.length c) rec 0 W := ⟨⟨bn, ba, bs, r4, ff⟩, r5, ⟨_, bo, Sl.nil _ _, fun b e => by cases e⟩, fun j e => by omega⟩
  rw [← hW, hs4]
  have hrec' : rec = ⟨.ready, none, fn, a3.tmps, #[24], As, Bd, w.heap.size + 4⟩ := by rw [hrec, ← hs4]; rfl
  have hit := blk_iter (m := 0) (N := 2050) (l := w.heap.size + 5) (ba := w.heap.size + 2) (bs := w.heap.size + 3) (I := fun i W => MI w alg n seed (.slice A seed.length c) rec i W) (Ix := fun W => MX w alg n seed (.slice A seed.length c) rec W) a1 a4 hseed (by decide)
    (fun i W h => by
      rcases i with _ | j
      · omega
      · have := h.bd j rfl
        rw [maskL_len a1 a4] at this
        have : j ≤ j * (sizeI alg).toNat := Nat.le_mul_of_pos_right _ (by omega)
        omega)
    (fun i W h => ⟨h.co.ab.has 0 _ rfl, ⟨A, c, h.co.sb.has 0 _ rfl, hc, hr.nb h.co.fr⟩, hT.fr h.co.fr (fun x => x) (fun x => x)⟩)
    (fun i W A' c' W' h g => mask_round a1 a4 gx hpa hpb hsa hsb hsz e5 e8 hrec' h g) hI0
  refine hit.mono ?_
  rintro e W6 ⟨hv, hx⟩
  refine ⟨hv, _, hx.re, (fun h => by cases h), ?_⟩
  show (Go.Code.exit 0).wpIn _ _ _ _ _ _
  refine wpIn_exit ?_
  show A4.wpIn _ _ _ _ _ _
  have f7 := fr_put W6 (w.heap.size + 5) (.loop { { rec with state := .done, pending := some (.exit 0) } with state := .exhausted })
  generalize W6.putObj (w.heap.size + 5) _ = W7 at f7
  obtain ⟨i, v, hbv, hsv, huv, hlen⟩ := hx.out
  have co7 := hx.co.step f7 fun b e => by omega
  have hbv7 := hbv.fr f7 (by omega)
  have hsv7 := hsv.fr f7 fun b e => by have := huv b e; omega
  obtain ⟨B, d, rfl, hd, hrB, _⟩ := hsv7.read
  have k5 : W7.cell? ⟨w.heap.size, 0, none⟩ = some (.int .i64 n) := co7.nb.has 0 _ rfl
  have k8 : W7.cell? ⟨w.heap.size + 1, 0, none⟩ = some _ := hbv7.has 0 _ rfl
  refine eng_wide h4 (dfs := [{ target := .collected (w.heap.size + 4), args := #[] }]) (by exact hsz) (by show _ :: a3.defers = _; rw [hdf]) (K := fun e ρ w'' => e = .ret ∧ w'' = W7 ∧ ∃ A' c', ρ 6 = .slice A' n.toNat c' ∧ ρ 7 = .int .i64 0 ∧ n.toNat ≤ c' ∧ Rd W7 A' (nums .u8 ((maskL alg seed n.toNat).take n.toNat)) ∧ ∀ b, blkOf (.slice A' n.toNat c') = some b → w.heap.size + 6 ≤ b) ?_ ?_
  · have eo : envOf { tmps := a3.tmps, defers := { target := Target.collected (w.heap.size + 4), args := #[] } :: a3.defers } = envOf a3 := rfl
    rw [eo]
    simp (disch := omega) only [wu64, wu32, wu8, fdiv_nn, EO, ↓EP, EQ, EM, ↓reduceIte, Za, Zb, Zc, Zd, Ze, Zf, Zg, Zj, Zk, Zl, Zm, Zn, Zp, Zq, reduceCtorEq, e5, e8, k5, k8]
    rw [i_slc_hm]
    have hnd : n ≤ (d : Int) := by omega
    simp (disch := omega) only [wu64, wu32, wu8, fdiv_nn, EO, ↓EP, EQ, EM, ↓reduceIte, Za, Zb, Zc, Zd, Ze, Zf, Zg, Zj, Zk, Zl, Zm, Zn, Zp, Zq, reduceCtorEq]
    refine ⟨B, n.toNat, rfl, Nat.le_refl _, ?_, fun b e => huv b ?_⟩
    · rw [← maskL_take a1 a4 seed (by omega : n.toNat ≤ (maskL alg seed i).length)]
      exact hrB.take _
    · cases B with
      | none => cases e
      | some p => exact e
  rintro e a W8 ⟨_, hdf, rfl, rfl, A', c', e6, e7, hc', hr', huv'⟩
  show LeavesInM _ _ _ _ _ _ a.defers _ _
  rw [hdf]
  refine ⟨by simp, .inl ⟨_, _, rfl, run_takeDeferred co7.de, ?_⟩⟩
  have f9 := fr_put W8 (w.heap.size + 4) (.deferred none)
  generalize W8.putObj (w.heap.size + 4) (.deferred none) = W9 at f9
  obtain ⟨u, hu, e⟩ := results_run (P := Tryz.prog) (fn := Tryz.f22) (a := a) (w := W9) (l := [.inl 6, .inl 7]) (by rfl) (K := fun u => u = .tuple #[.slice A' n.toNat c', .int .i64 0]) (by show packV [envOf a 6, envOf a 7] = _; rw [e6, e7]; rfl)
  refine ⟨u, hu, u, rfl, ?_⟩
  rw [e]
  have hln : ((maskL alg seed n.toNat).take n.toNat).length = n.toNat := by
    rw [List.length_take, maskL_len a1 a4]
    have : n.toNat ≤ n.toNat * (sizeI alg).toNat := Nat.le_mul_of_pos_right _ (by omega)
    omega
  refine hK _ W9 (Vw.of hln hc' (hr'.fr f9 (.inr fun p e x => ?_))) (fun b e => by have := huv' b e; omega) (co7.fr.trans f9 fun x hx e => by omega)
  subst e
  have := huv' _ rfl
  omega
end Go.Proofs.YtcgplgpdcfocpaaGreatDoor.Spec
end
section
set_option linter.unusedVariables false
set_option linter.unusedSimpArgs false
namespace Go.Proofs.YtcgplgpdcfocpaaGreatDoor.Spec
open Go Go.RowKit Go.Proofs Go.Proofs.YtcgplgpdcfocpaaGreatDoor.Eng Go.Proofs.YtcgplgpdcfocpaaGreatDoor.Code
set_option maxRecDepth 100000
attribute [local irreducible] callK S.W opsW scrW
def dgs : Nat → Nat → List Int
  | 0, _ => []
  | n + 1, t => ((t % 256 : Nat) : Int) :: dgs n (t / 256)
theorem dgs_len (n t : Nat) : (dgs n t).length = n := by
  induction n generalizing t with
  | zero => rfl
  | succ n ih => simp [dgs, ih]
theorem digits_dgs : ∀ (n t : Nat) (acc : Array Value), (Extern.BytealgMakeNoZero.digits n t acc).toList = acc.toList ++ nums .u8 (dgs n t)
  | 0, _, acc => by simp [Extern.BytealgMakeNoZero.digits, dgs, nums]
  | n + 1, t, acc => by
    rw [Extern.BytealgMakeNoZero.digits, digits_dgs n]
    simp [dgs, nums]
theorem run_mnz {P : Program} (w : World) (ps : Array TypeId) (t e : TypeId) (ht : P.underlying t = some (.slice e)) (n : Nat) (hn : n ≤ 281474976710656) :
    ∃ (l : List Int) (cs : Array Value), (Extern.BytealgMakeNoZero.makeNoZero ps #[t] #[.int .i64 n]).run P w = .ok (.slice (some ⟨w.heap.size, 0, none⟩) n l.length) (w.drew.drew.alloc (.cells cs e)) ∧ n ≤ l.length ∧ cs.toList = nums .u8 l := by
  have hdef : Extern.BytealgMakeNoZero.makeNoZero ps #[t] #[.int .i64 n] =
      (do
        let .slice elem ← underlying t | stuck "bytealg.MakeNoZero: slice type expected"
        if (n : Int) < 0 || (n : Int) > 2 ^ 48 then runtimePanic (.error "makeslice: len out of range")
        let cap ← choose (.appendCap (n : Int).toNat 0 elem)
        askRoom cap
        let bytes ← choose (.extern "internal/bytealg.MakeNoZero.bytes" 0)
        let a ← newRow elem (Extern.BytealgMakeNoZero.digits cap bytes #[])
        pure (.slice (some a) (n : Int).toNat cap)) := rfl
  refine ⟨dgs (grownCap w n 0 e) ((Question.extern "internal/bytealg.MakeNoZero.bytes" 0).cut (w.tape (w.drawn + 1) (.extern "internal/bytealg.MakeNoZero.bytes" 0))), Extern.BytealgMakeNoZero.digits (grownCap w n 0 e) ((Question.extern "internal/bytealg.MakeNoZero.bytes" 0).cut (w.tape (w.drawn + 1) (.extern "internal/bytealg.MakeNoZero.bytes" 0))) #[], ?_, ?_, ?_⟩
  · rw [hdef, dgs_len]
    have h1 : ¬ (n : Int) < 0 := by omega
    have h2 : ¬ (281474976710656 : Int) < (n : Int) := by omega
    simp [run_underlying ht, h1, h2, Question.forced, newRow, grownCap]
  · rw [dgs_len]
    simpa using grownCap_ge w n 0 e
  · rw [digits_dgs]; simp
theorem mnz_k {w : World} {n : Nat} {ρ : Env} {y : Operand} {ats : Array TypeId} {K : Value → World → Prop} (hn : n ≤ 281474976710656) (hy : ev ρ y = .int .i64 n)
    (hK : ∀ (l : List Int) w', n ≤ l.length → New w w' (nums .u8 l) → K (.slice (some ⟨w.heap.size, 0, none⟩) n l.length) w') : rawT Tryz.prog (.call { callee := .value (.func 79), args := #[y], argTypes := ats }) ρ w K .mk := by
  intro o ho
  obtain ⟨d, op, ty, pos, af, gd⟩ := o
  subst ho
  obtain ⟨l, cs, hr, hl, hcs⟩ := run_mnz (P := Tryz.prog) w Tryz.f79.params 25 5 Tryz.underlying25 n hn
  have he := run_callFunc_extern (P := Tryz.prog) (e := Extern.BytealgMakeNoZero.makeNoZero Tryz.f79.params #[25]) Tryz.func79 (by kernel_rfl) (by kernel_rfl) (by kernel_rfl) (by kernel_rfl) #[.int .i64 n] w
  rw [hr] at he
  have hrun : (execOp (ev ρ) ⟨d, .call { callee := .value (.func 79), args := #[y], argTypes := ats }, ty, pos, af, gd⟩).run Tryz.prog w = .ok (.value (.slice (some ⟨w.heap.size, 0, none⟩) n l.length)) (w.drew.drew.alloc (.cells cs 5)) := by
    simp only [Result.andThen_ok] at he
    simp [execOp, resolve, Deferred.ofValue, invoke, hy, he]
    simp [ev, he]
  unfold runK
  rw [hrun]
  refine hK l _ hl ?_
  have hb : Below w.heap.size w (w.drew.drew.alloc (.cells cs 5)) := (below_drewN' (Below.refl _ _) 2).alloc (Nat.le_refl _) _
  exact ⟨by simp only [size_alloc]; rfl, Blk.new' hcs _, fun h => (h.drewN 2).alloc _, fun hB h => (below_drewN' h 2).alloc hB _, fun h => h.below hb⟩
theorem and_mask : ∀ a : Nat, a < 2049 → bits .and .u64 (a : Int) 4294967295 = (a : Int) := by decide +kernel
theorem mul64_one {n : Nat} {w : World} {K : Value → World → Prop} (hn : n ≤ 2048) (hK : K (.tuple #[.int .u64 0, .int .u64 n]) w) : callK Tryz.prog 104 [.int .u64 1, .int .u64 n] w K := by
  refine call_of Tryz.func104 Code.h104 (by simp [Code.c104]) ?_
  have q1 : (1 : Int) / 4294967296 = 0 := by decide
  have q2 : (n : Int) / 4294967296 = 0 := by omega
  have q3 := and_mask n (by omega)
  have q4 : bits .and .u64 1 4294967295 = 1 := and_mask 1 (by omega)
  have q5 : bits .and .u64 0 4294967295 = 0 := and_mask 0 (by omega)
  simp (disch := omega) only [wu64, wu32, wu8, fdiv_nn, EO, ↓EP, EQ, EM, ↓reduceIte, Za, Zb, Zc, Zd, Ze, Zf, Zg, Zj, Zk, Zl, Zm, Zn, Zp, Zq, reduceCtorEq, Code.c104, q1, q2, q3, q4, q5, Int.zero_mul, Int.mul_zero, Int.one_mul, Int.mul_one, Int.zero_add, Int.add_zero, Int.zero_ediv]
  exact hK
theorem mul_one_k {n : Nat} {w : World} {K : Value → World → Prop} (hn : n ≤ 2048) (hK : K (.tuple #[.int .u64 0, .int .u64 n]) w) : callK Tryz.prog 78 [.int .u64 1, .int .u64 n] w K := by
  refine call_of Tryz.func78 Code.h78 (by simp [Code.c78]) ?_
  simp (disch := omega) only [wu64, wu32, wu8, fdiv_nn, EO, ↓EP, EQ, EM, ↓reduceIte, Za, Zb, Zc, Zd, Ze, Zf, Zg, Zj, Zk, Zl, Zm, Zn, Zp, Zq, reduceCtorEq, Code.c78]
  refine mul64_one hn ?_
  simp (disch := omega) only [wu64, wu32, wu8, fdiv_nn, EO, ↓EP, EQ, EM, ↓reduceIte, Za, Zb, Zc, Zd, Ze, Zf, Zg, Zj, Zk, Zl, Zm, Zn, Zp, Zq, reduceCtorEq]
  exact hK
theorem cpy_num {k : IntKind} {w : World} {b o n c m d : Nat} {B : Option Addr} {L l : List Int} {K : Value → World → Prop} (hb : Blk w b (nums k L)) (hy : Rd w B (nums k l)) (hl : l.length = Nat.min m n) (h0 : 0 < l.length) (ho : o + l.length ≤ L.length)
    (hK : ∀ w', Put w w' b (nums k (L.take o ++ l ++ L.drop (o + l.length))) → K (.int .i64 l.length) w') : cpyT 1 (.slice (some ⟨b, o, none⟩) n c) (.slice B m d) w K .mk := by
  refine ⟨nums k l, by rw [nums_length, Nat.mul_one, hl], fun _ => ?_, fun h => by omega⟩
  obtain ⟨p, hp, hcl⟩ := hy.cells (by rw [nums_length]; exact h0)
  refine ⟨p, b, o, hp, hcl, rfl, ?_, ?_, ?_, ?_⟩
  · intro v hv
    unfold nums at hv
    rw [List.mem_map] at hv
    obtain ⟨_, _, rfl⟩ := hv
    rfl
  · intro j hj
    rw [nums_length] at hj
    exact hb.isSome (by rw [nums_length]; omega)
  · intro j hj
    exact hb.frozen _
  · rw [← hl]
    refine hK _ ?_
    have := put_cells hb o (nums k l) (by rw [nums_length, nums_length]; exact ho)
    have e : (nums k L).take o ++ nums k l ++ (nums k L).drop (o + (nums k l).length) = nums k (L.take o ++ l ++ L.drop (o + l.length)) := by
      rw [nums_length]; simp [nums]
    rw [e] at this
    exact this
theorem fr_drewN (w : World) (n : Nat) : Fr w (w.drewN n) nob := ⟨below_drewN' (Below.refl _ _) n, fun b hb _ => rfl⟩
set_option maxHeartbeats 4000000 in
theorem repeat_k {w : World} {B : Option Addr} {c n : Nat} {x : Int} (hb : Rd w B (nums .u8 [x])) (h1 : 1 ≤ n) (h2 : n ≤ 2048) {K : Value → World → Prop}
    (hK : ∀ A c w', n ≤ c → Rd w' A (nums .u8 (List.replicate n x)) → Fr w w' nob → K (.slice A n c) w') : callK Tryz.prog 45 [.slice B 1 c, .int .i64 n] w K := by
  refine call_of Tryz.func45 Code.h45 (by simp [Code.c45]) ?_
  simp (disch := omega) only [wu64, wu32, wu8, fdiv_nn, EO, ↓EP, EQ, EM, ↓reduceIte, Za, Zb, Zc, Zd, Ze, Zf, Zg, Zj, Zk, Zl, Zm, Zn, Zp, Zq, reduceCtorEq, Code.c45, W_join]
  refine mul_one_k h2 ?_
  simp (disch := omega) only [wu64, wu32, wu8, fdiv_nn, EO, ↓EP, EQ, EM, ↓reduceIte, Za, Zb, Zc, Zd, Ze, Zf, Zg, Zj, Zk, Zl, Zm, Zn, Zp, Zq, reduceCtorEq, W_join]
  refine mnz_k (n := n) (by omega) (by simp (disch := omega) only [wu64, wu32, wu8, fdiv_nn, EO, ↓EP, EQ, EM, ↓reduceIte, Za, Zb, Zc, Zd, Ze, Zf, Zg, Zj, Zk, Zl, Zm, Zn, Zp, Zq, reduceCtorEq]) fun L w1 hl n1 => ?_
  have f1 := n1.fr nob
  have hcl : (n : Int) ≤ (L.length : Int) := by omega
  simp (disch := omega) only [wu64, wu32, wu8, fdiv_nn, EO, ↓EP, EQ, EM, ↓reduceIte, Za, Zb, Zc, Zd, Ze, Zf, Zg, Zj, Zk, Zl, Zm, Zn, Zp, Zq, reduceCtorEq, i_slc_hm]
  have hL0 : (0 : Int) ≤ L.length := by omega
  refine cpy_num (l := [x]) n1.blk (hb.nb f1) (Nat.min_eq_left h1).symm (by simp) (by simp; omega) fun w2 p2 => ?_
  simp (disch := omega) only [wu64, wu32, wu8, fdiv_nn, EO, ↓EP, EQ, EM, ↓reduceIte, Za, Zb, Zc, Zd, Ze, Zf, Zg, Zj, Zk, Zl, Zm, Zn, Zp, Zq, reduceCtorEq]
  have hb2 : Blk w2 w.heap.size (nums .u8 (List.replicate 1 x ++ L.drop 1)) := by simpa using p2.blk
  have f2 : Fr w w2 nob := f1.trans p2.fr fun y hy e => by omega
  refine loop_inv (fun t ρ w' => ∃ j : Nat, 1 ≤ j ∧ j ≤ n ∧ ρ 10 = .int .i64 j ∧ Blk w' w.heap.size (nums .u8 (List.replicate j x ++ L.drop j)) ∧ Fr w w' nob ∧ t = n - j) _ ⟨1, Nat.le_refl _, h1, by simp (disch := omega) only [wu64, wu32, wu8, fdiv_nn, EO, ↓EP, EQ, EM, ↓reduceIte, Za, Zb, Zc, Zd, Ze, Zf, Zg, Zj, Zk, Zl, Zm, Zn, Zp, Zq, reduceCtorEq], hb2, f2, rfl⟩ ?_
  rintro t ρ w3 hf ⟨j, hj1, hjn, h10, hb3, f3, rfl⟩ N hN
  have r7 : ρ 7 = .int .i64 n := by rw [hf 7 rfl]; simp (disch := omega) only [wu64, wu32, wu8, fdiv_nn, EO, ↓EP, EQ, EM, ↓reduceIte, Za, Zb, Zc, Zd, Ze, Zf, Zg, Zj, Zk, Zl, Zm, Zn, Zp, Zq, reduceCtorEq]
  have r8 : ρ 8 = .int .i64 n := by rw [hf 8 rfl]; simp (disch := omega) only [wu64, wu32, wu8, fdiv_nn, EO, ↓EP, EQ, EM, ↓reduceIte, Za, Zb, Zc, Zd, Ze, Zf, Zg, Zj, Zk, Zl, Zm, Zn, Zp, Zq, reduceCtorEq]
  have r9 : ρ 9 = .slice (some ⟨w.heap.size, 0, none⟩) n n := by rw [hf 9 rfl]; simp (disch := omega) only [wu64, wu32, wu8, fdiv_nn, EO, ↓EP, EQ, EM, ↓reduceIte, Za, Zb, Zc, Zd, Ze, Zf, Zg, Zj, Zk, Zl, Zm, Zn, Zp, Zq, reduceCtorEq]
  clear hf
  by_cases hc : (j : Int) < (n : Int)
  · have hs : subA (some ⟨w.heap.size, 0, none⟩) n j 1 = some ⟨w.heap.size, j, none⟩ := by
      unfold subA
      rw [if_neg (by omega)]
      simp [Addr.add]
      omega
    obtain ⟨q, hq⟩ : ∃ q, q = Nat.min j (n - j) := ⟨_, rfl⟩
    have hq0 : 0 < q := by rw [hq]; exact Nat.lt_min.2 ⟨by omega, by omega⟩
    have hq1 : q ≤ j := by rw [hq]; exact Nat.min_le_left _ _
    have hq2 : q ≤ n - j := by rw [hq]; exact Nat.min_le_right _ _
    simp (disch := omega) only [wu64, wu32, wu8, fdiv_nn, EO, ↓EP, EQ, EM, ↓reduceIte, Za, Zb, Zc, Zd, Ze, Zf, Zg, Zj, Zk, Zl, Zm, Zn, Zp, Zq, reduceCtorEq, h10, r7, r8, r9, hc, hs]
    intro m
    have fd := fr_drewN w3 (1 + m)
    have hrd : Rd (w3.drewN (1 + m)) (some ⟨w.heap.size, 0, none⟩) (nums .u8 (List.replicate q x)) := by
      refine (hb3.rd 0 (n := q) ?_).nb fd
      rw [List.drop_zero, nums_take, List.take_append_of_le_length (by simp; omega), List.take_replicate, Nat.min_eq_left hq1]
    refine cpy_num (l := List.replicate q x) (hb3.nb fd) hrd (by rw [List.length_replicate, hq]) (by simpa using hq0) (by simp; omega) fun w4 p4 => ?_
    have hb4 : Blk w4 w.heap.size (nums .u8 (List.replicate (j + q) x ++ L.drop (j + q))) := by
      have h := p4.blk
      have e : (List.replicate j x ++ L.drop j).take j ++ List.replicate q x ++ (List.replicate j x ++ L.drop j).drop (j + (List.replicate q x).length) = List.replicate (j + q) x ++ L.drop (j + q) := by
        rw [List.take_left' (by simp), List.length_replicate, List.drop_append, List.drop_eq_nil_of_le (by simp), List.length_replicate, List.nil_append, List.drop_drop, ← List.replicate_append_replicate]
        congr 2
        omega
      rw [e] at h
      exact h
    have f4 : Fr w w4 nob := (f3.nb fd).trans p4.fr fun y hy e => by omega
    rw [List.length_replicate]
    have hjq : (j : Int) + (q : Int) ≤ 2048 := by omega
    simp (disch := omega) only [wu64, wu32, wu8, fdiv_nn, EO, ↓EP, EQ, EM, ↓reduceIte, Za, Zb, Zc, Zd, Ze, Zf, Zg, Zj, Zk, Zl, Zm, Zn, Zp, Zq, reduceCtorEq, h10]
    intro m2
    have fe := fr_drewN w4 m2
    refine hN (n - (j + q)) _ _ (by omega) ⟨j + q, by omega, by omega, by simp (disch := omega) only [wu64, wu32, wu8, fdiv_nn, EO, ↓EP, EQ, EM, ↓reduceIte, Za, Zb, Zc, Zd, Ze, Zf, Zg, Zj, Zk, Zl, Zm, Zn, Zp, Zq, reduceCtorEq, Int.natCast_add], hb4.nb fe, f4.nb fe, rfl⟩
  · obtain rfl : j = n := by omega
    simp (disch := omega) only [wu64, wu32, wu8, fdiv_nn, EO, ↓EP, EQ, EM, ↓reduceIte, Za, Zb, Zc, Zd, Ze, Zf, Zg, Zj, Zk, Zl, Zm, Zn, Zp, Zq, reduceCtorEq, h10, r7, r8, r9, hc]
    refine hK _ _ _ (Nat.le_refl _) (hb3.rd 0 (n := j) ?_) f3
    rw [List.drop_zero, nums_take, List.take_left' (by simp)]
end Go.Proofs.YtcgplgpdcfocpaaGreatDoor.Spec
end
section
set_option linter.unusedVariables false
namespace Go.Proofs.YtcgplgpdcfocpaaGreatDoor.Eng
open Go Go.RowKit
theorem or_128 : ∀ a : Nat, a < 256 → bits .or .u8 (a : Int) 128 = (a : Int) % 128 + 128 := by decide +kernel
theorem or_128' : ∀ a : Nat, a < 256 → bits .or .u8 128 (a : Int) = (a : Int) % 128 + 128 := by decide +kernel
theorem d8_or128 {a : Int} (h : 0 ≤ a ∧ a < 256) : bits .or .u8 a 128 = a % 128 + 128 := by
  obtain ⟨a, rfl⟩ := Int.eq_ofNat_of_zero_le h.1; exact or_128 a (by omega)
theorem d8_128or {a : Int} (h : 0 ≤ a ∧ a < 256) : bits .or .u8 128 a = a % 128 + 128 := by
  obtain ⟨a, rfl⟩ := Int.eq_ofNat_of_zero_le h.1; exact or_128' a (by omega)
def ByteL (p : List Int) : Prop := ∀ i : Nat, 0 ≤ at' p (i : Int) ∧ at' p (i : Int) < 256
theorem atN (l : List Int) (i : Nat) : at' l (i : Int) = l.getD i 0 := by unfold at'; rw [Int.toNat_natCast]
theorem ByteL.of {l : List Int} (h : ∀ x ∈ l, 0 ≤ x ∧ x < 256) : ByteL l := by
  intro i
  rw [atN, List.getD_eq_getElem?_getD]
  cases e : l[i]? with
  | none => simp
  | some x => exact h x (List.mem_of_getElem? e)
theorem drop_at {l : List Int} {i : Nat} (h : i < l.length) : l.drop i = at' l (i : Int) :: l.drop (i + 1) := by
  rw [atN, List.drop_eq_getElem_cons h, List.getD_eq_getElem?_getD, List.getElem?_eq_getElem h]; rfl
theorem at_drop (l : List Int) (o i : Nat) : at' (l.drop o) (i : Int) = at' l ((o + i : Nat) : Int) := by
  rw [atN, atN, List.getD_eq_getElem?_getD, List.getElem?_drop, ← List.getD_eq_getElem?_getD]
theorem at_take {l : List Int} {n i : Nat} (h : i < n) : at' (l.take n) (i : Int) = at' l (i : Int) := by
  rw [atN, atN, List.getD_eq_getElem?_getD, List.getElem?_take, if_pos h, ← List.getD_eq_getElem?_getD]
theorem Vw.cell {w : World} {A : Option Addr} {n c : Nat} {l : List Int} {k : IntKind} (h : Vw k w (.slice A n c) l) (h0 : 0 < l.length) : ∃ ad, A = some ad ∧ n = l.length ∧ ∀ i : Nat, i < l.length → w.cell? (ad.add i) = some (.int k (at' l (i : Int))) := by
  obtain ⟨A', c', e, hc, hr⟩ := h
  cases e
  obtain ⟨ad, e, _, hcl⟩ := hr.get (by rw [nums_length]; exact h0)
  exact ⟨ad, e, rfl, fun i hi => hcl.numN hi⟩
end Go.Proofs.YtcgplgpdcfocpaaGreatDoor.Eng
end
section
set_option linter.unusedVariables false
set_option linter.unusedSimpArgs false
namespace Go.Proofs.YtcgplgpdcfocpaaGreatDoor.Der
open Go Go.RowKit Go.Proofs.YtcgplgpdcfocpaaGreatDoor.Eng
structure Tlv where
  cls : Int
  tag : Int
  cons : Bool
  data : List Int
  raw : List Int
deriving DecidableEq
def sevenHi : Nat → Nat → List Int
  | 0, _ => []
  | f + 1, v => if v = 0 then [] else sevenHi f (v / 128) ++ [((v % 128 + 128 : Nat) : Int)]
def sevenR (v : Nat) : List Int := sevenHi 10 (v / 128) ++ [((v % 128 : Nat) : Int)]
def bytesBE : Nat → Nat → List Int
  | 0, _ => []
  | f + 1, v => if v = 0 then [] else bytesBE f (v / 256) ++ [((v % 256 : Nat) : Int)]
def lenBytes (n : Nat) : List Int := if n < 128 then [(n : Int)] else (128 + ((bytesBE 4 n).length : Int)) :: bytesBE 4 n
def headR (cls tag : Int) (cons : Bool) (n : Nat) : List Int :=
  (if tag < 31 then [cls * 64 + (if cons then 32 else 0) + tag] else (cls * 64 + (if cons then 32 else 0) + 31) :: sevenR tag.toNat) ++ lenBytes n
def putR (cls tag : Int) (cons : Bool) (data : List (List Int)) : List Int × Int :=
  if cls < 0 ∨ 3 < cls ∨ tag < 0 ∨ 268435455 < tag ∨ (cls = 0 ∧ tag = 0) then ([], 1)
  else if 16777216 < (data.map List.length).sum then ([], 3)
  else (headR cls tag cons (data.map List.length).sum ++ data.flatten, 0)
end Go.Proofs.YtcgplgpdcfocpaaGreatDoor.Der
end
section
set_option linter.unusedVariables false
set_option linter.unusedSimpArgs false
namespace Go.Proofs.YtcgplgpdcfocpaaGreatDoor.Der
open Go Go.RowKit Go.Proofs.YtcgplgpdcfocpaaGreatDoor.Eng
def S (l : List UInt8) : ByteArray := ⟨l.toArray⟩
theorem S_size (l : List UInt8) : (S l).size = l.length := by simp [S, ByteArray.size]
theorem S_append (a b : List UInt8) : S a ++ S b = S (a ++ b) := by
  apply ByteArray.ext
  simp [S]
theorem S_toList (l : List UInt8) : (S l).toList = l := by
  rw [ByteArray.toList_eq]; simp [S]
theorem S_dot : S [46] = ⟨#[46]⟩ := rfl
def digsF : Nat → Nat → List UInt8
  | 0, _ => []
  | f + 1, u => if u < 10 then [UInt8.ofNat (48 + u)] else digsF f (u / 10) ++ [UInt8.ofNat (48 + u % 10)]
def digs (u : Nat) : List UInt8 := digsF 20 u
theorem digsF_len : ∀ (f u : Nat), (digsF f u).length ≤ f
  | 0, u => by simp [digsF]
  | f + 1, u => by
    rw [digsF]
    split
    · simp
    · have := digsF_len f (u / 10)
      simp; omega
theorem digs_len (u : Nat) : (digs u).length ≤ 20 := digsF_len 20 u
def satA (v : Int) : Int := if 1099511627776 < v then 1099511627776 else v
def arcsGo : List Int → List Int → Int → Nat → Option (List Int)
  | [], l, _, _ => some l
  | c :: r, l, v, n => if c = 46 ∧ 0 < n then arcsGo r (l ++ [v]) 0 0 else if c < 48 ∨ 57 < c ∨ (n = 1 ∧ v = 0) then none else arcsGo r l (satA (10 * v + (c - 48))) (min (n + 1) 20)
def arcsR (s : List Int) : Option (List Int) :=
  match arcsGo (s ++ [46]) [] 0 0 with
  | none => none
  | some l => if l.length < 2 ∨ 2 < at' l 0 ∨ (at' l 0 < 2 ∧ 40 ≤ at' l 1) then none else some l
def putOidR (s : List Int) : List Int × Int :=
  match arcsR s with
  | none => ([], 6)
  | some l => if l.any (fun v => decide (2147483647 < v)) then ([], 3) else (sevenR (40 * at' l 0 + at' l 1).toNat ++ (l.drop 2).flatMap (fun v => sevenR v.toNat), 0)
end Go.Proofs.YtcgplgpdcfocpaaGreatDoor.Der
end
section
set_option linter.unusedVariables false
set_option linter.unusedSimpArgs false
namespace Go.Proofs.YtcgplgpdcfocpaaGreatDoor.Der
open Go Go.RowKit Go.Proofs Go.Proofs.YtcgplgpdcfocpaaGreatDoor.Eng Go.Proofs.YtcgplgpdcfocpaaGreatDoor.Code
set_option maxRecDepth 100000
attribute [local irreducible] callK S.W opsW scrW scrT
theorem take_snoc {l : List Int} {j : Nat} (h : j < l.length) : l.take (j + 1) = l.take j ++ [at' l (j : Int)] := by
  rw [List.take_add_one, List.getElem?_eq_getElem h, atN, List.getD_eq_getElem?_getD, List.getElem?_eq_getElem h]; rfl
end Go.Proofs.YtcgplgpdcfocpaaGreatDoor.Der
end
section
set_option linter.unusedVariables false
set_option linter.unusedSimpArgs false
namespace Go.Proofs.YtcgplgpdcfocpaaGreatDoor.Der
open Go Go.RowKit Go.Proofs Go.Proofs.YtcgplgpdcfocpaaGreatDoor.Eng Go.Proofs.YtcgplgpdcfocpaaGreatDoor.Code
set_option maxRecDepth 100000
attribute [local irreducible] callK S.W opsW scrW scrT
theorem readn {k : IntKind} {w : World} {v : Value} {l : List Int} (h : Sl k w v l) {n : Nat} (hn : l.length = n) : ∃ A c, v = .slice A n c ∧ n ≤ c ∧ Rd w A (nums k l) := by
  subst hn; obtain ⟨A, c, e, h1, h2, _⟩ := h.read; exact ⟨A, c, e, h1, h2⟩
structure Rws (w0 w : World) (X : Value) (vs : List Value) (ls : List (List Int)) : Prop where
  len : vs.length = ls.length
  each : ∀ (i : Nat) (v : Value) (l : List Int), vs[i]? = some v → ls[i]? = some l → Sl .u8 w v l
  up : ∀ (i : Nat) (v : Value) (b : Nat), vs[i]? = some v → blkOf v = some b → w0.heap.size ≤ b ∧ b < w.heap.size ∧ blkOf X ≠ some b
  apart : ∀ (i j : Nat) (u v : Value) (b : Nat), i ≠ j → vs[i]? = some u → vs[j]? = some v → blkOf u = some b → blkOf v ≠ some b
theorem Rws.nil (w0 w : World) (X : Value) : Rws w0 w X [] [] := ⟨rfl, fun i v l h => by simp at h, fun i v b h => by simp at h, fun i j u v b _ h => by simp at h⟩
theorem Rws.nb {w0 w w' : World} {X : Value} {vs : List Value} {ls : List (List Int)} (h : Rws w0 w X vs ls) (f : Fr w w' nob) : Rws w0 w' X vs ls :=
  ⟨h.len, fun i v l h1 h2 => Sl.nb (h.each i v l h1 h2) f, fun i v b h1 h2 => ⟨(h.up i v b h1 h2).1, Nat.lt_of_lt_of_le (h.up i v b h1 h2).2.1 f.size, (h.up i v b h1 h2).2.2⟩, h.apart⟩
theorem Rws.add {w0 w w' : World} {X v : Value} {vs : List Value} {ls : List (List Int)} {l : List Int} (h : Rws w0 w X vs ls) (hX : ∀ b, blkOf X = some b → b < w.heap.size) (f0 : Fr w0 w nob) (g : Gw .u8 w w' v l) : Rws w0 w' X (vs ++ [v]) (ls ++ [l]) := by
  have h' := h.nb g.fr
  have old : ∀ (i : Nat) (u : Value) (b : Nat), vs[i]? = some u → blkOf u = some b → b < w.heap.size := fun i u b h1 h2 => (h.up i u b h1 h2).2.1
  have spl : ∀ {i : Nat} {u : Value}, (vs ++ [v])[i]? = some u → (i < vs.length ∧ vs[i]? = some u) ∨ (i = vs.length ∧ u = v) := by
    intro i u hi
    by_cases hlt : i < vs.length
    · rw [List.getElem?_append_left hlt] at hi; exact .inl ⟨hlt, hi⟩
    · have hi' := (List.getElem?_eq_some_iff.1 hi).1
      simp at hi'
      have e : i = vs.length := by omega
      subst e
      simp at hi
      exact .inr ⟨rfl, hi.symm⟩
  refine ⟨by simp [h.len], fun i u l' h1 h2 => ?_, fun i u b h1 h2 => ?_, fun i j u u' b hne h1 h2 hb => ?_⟩
  · rcases spl h1 with ⟨hlt, h1⟩ | ⟨rfl, rfl⟩
    · rw [List.getElem?_append_left (by rw [← h.len]; exact hlt)] at h2
      exact h'.each i u l' h1 h2
    · rw [h.len] at h2
      simp at h2
      subst h2
      exact g.sl
  · rcases spl h1 with ⟨hlt, h1⟩ | ⟨rfl, rfl⟩
    · exact h'.up i u b h1 h2
    · have := g.up b h2
      have z := f0.size
      exact ⟨by omega, g.sl.lt h2, fun e => by have := hX b e; omega⟩
  · rcases spl h1 with ⟨hlt, k1⟩ | ⟨k1, e1⟩
    · rcases spl h2 with ⟨hlt2, k2⟩ | ⟨k2, e2⟩
      · exact h.apart i j u u' b hne k1 k2 hb
      · intro e
        rw [e2] at e
        have := g.up b e
        have := old i u b k1 hb
        omega
    · rw [e1] at hb
      rcases spl h2 with ⟨hlt2, k2⟩ | ⟨k2, e2⟩
      · intro e
        have := g.up b hb
        have := old j u' b k2 e
        omega
      · exact absurd (k1.trans k2.symm) hne
theorem Rws.row {w0 w w' : World} {X X' : Value} {n : Nat} {cs : List Value} {vs : List Value} {ls : List (List Int)} (h : Rws w0 w X vs ls) {sz : Nat} (a : Ag sz w X n cs X' w') : Rws w0 w' X' vs ls := by
  refine ⟨h.len, fun i v l h1 h2 => (h.each i v l h1 h2).fr a.fr fun b e => (h.up i v b h1 e).2.2, fun i v b h1 h2 => ?_, h.apart⟩
  obtain ⟨u1, u2, u3⟩ := h.up i v b h1 h2
  refine ⟨u1, Nat.lt_of_lt_of_le u2 a.fr.size, fun e => ?_⟩
  rcases a.where_ with hw | hw
  · exact u3 (hw ▸ e)
  · have := hw b e; omega
def tcells (t : Tlv) (d r : Value) : List Value := [.int .i64 t.cls, .int .i64 t.tag, .bool t.cons, d, r]
def tflat (ts : List Tlv) : List (List Int) := ts.flatMap fun t => [t.data, t.raw]
def cellsT : List Tlv → List Value → List Value
  | t :: ts, d :: r :: vs => tcells t d r ++ cellsT ts vs
  | _, _ => []
theorem tflat_len (ts : List Tlv) : (tflat ts).length = 2 * ts.length := by
  induction ts with
  | nil => rfl
  | cons t ts ih => simp only [tflat, List.flatMap_cons, List.length_append, List.length_cons, List.length_nil] at *; omega
theorem tflat_add (ts : List Tlv) (t : Tlv) : tflat (ts ++ [t]) = tflat ts ++ [t.data, t.raw] := by simp [tflat]
theorem cellsT_add : ∀ (ts : List Tlv) (vs : List Value) (t : Tlv) (d r : Value), vs.length = 2 * ts.length → cellsT (ts ++ [t]) (vs ++ [d, r]) = cellsT ts vs ++ tcells t d r
  | [], vs, t, d, r, h => by
    have : vs = [] := List.length_eq_zero_iff.1 (by simpa using h)
    subst this; simp [cellsT]
  | t :: ts, d :: r :: vs, t', d', r', h => by
    simp only [cellsT, List.cons_append]
    rw [cellsT_add ts vs t' d' r' (by simp at h; omega), List.append_assoc]
  | t :: ts, [], _, _, _, h => by simp at h
  | t :: ts, [d], _, _, _, h => by simp at h; omega
structure Tls (w0 w : World) (X : Value) (ts : List Tlv) (vs : List Value) : Prop where
  g : Gg 5 w0 w X ts.length (cellsT ts vs)
  r : Rws w0 w X vs (tflat ts)
theorem Tls.nil (w : World) : Tls w w (.slice none 0 0) [] [] := ⟨Gg.nil 5 w, Rws.nil w w _⟩
theorem Tls.nb {w0 w w' : World} {X : Value} {ts : List Tlv} {vs : List Value} (h : Tls w0 w X ts vs) (f : Fr w w' nob) : Tls w0 w' X ts vs := ⟨h.g.step f, h.r.nb f⟩
theorem Tls.vlen {w0 w : World} {X : Value} {ts : List Tlv} {vs : List Value} (h : Tls w0 w X ts vs) : vs.length = 2 * ts.length := by rw [h.r.len, tflat_len]
end Go.Proofs.YtcgplgpdcfocpaaGreatDoor.Der
end
section
set_option linter.unusedVariables false
set_option linter.unusedSimpArgs false
namespace Go.Proofs.YtcgplgpdcfocpaaGreatDoor.Der
open Go Go.RowKit Go.Proofs Go.Proofs.YtcgplgpdcfocpaaGreatDoor.Eng Go.Proofs.YtcgplgpdcfocpaaGreatDoor.Code
set_option maxRecDepth 100000
attribute [local irreducible] callK S.W opsW scrW scrT
theorem Gg.lt {sz : Nat} {w0 w : World} {v : Value} {n : Nat} {cs : List Value} (g : Gg sz w0 w v n cs) : ∀ b, blkOf v = some b → b < w.heap.size := fun b e => g.sl.lt e
theorem Tls.add {w0 w w1 w2 w3 w4 : World} {X X' : Value} {ts : List Tlv} {vs : List Value} {t : Tlv} {d r : Value} (h : Tls w0 w X ts vs) (gd : Gw .u8 w w1 d t.data) (gr : Gw .u8 w1 w2 r t.raw) (f : Fr w2 w3 nob) (a : Ag 5 w3 X (ts.length + 1) (cellsT ts vs ++ tcells t d r) X' w4) : Tls w0 w4 X' (ts ++ [t]) (vs ++ [d, r]) := by
  have hX : ∀ b, blkOf X = some b → b < w.heap.size := fun b e => h.g.sl.lt e
  have r1 := h.r.add hX h.g.fr gd
  have r2 := r1.add (fun b e => Nat.lt_of_lt_of_le (hX b e) gd.fr.size) (h.g.fr.nb gd.fr) gr
  have r3 := (r2.nb f).row a
  refine ⟨?_, ?_⟩
  · rw [List.length_append, cellsT_add ts vs t d r h.vlen]
    exact (((h.g.step gd.fr).step gr.fr).step f).apd a
  · rw [tflat_add]
    simpa using r3
end Go.Proofs.YtcgplgpdcfocpaaGreatDoor.Der
end
section
set_option linter.unusedVariables false
set_option linter.unusedSimpArgs false
namespace Go.Proofs.YtcgplgpdcfocpaaGreatDoor.Der
open Go Go.RowKit Go.Proofs Go.Proofs.YtcgplgpdcfocpaaGreatDoor.Eng Go.Proofs.YtcgplgpdcfocpaaGreatDoor.Code
set_option maxRecDepth 100000
attribute [local irreducible] callK S.W opsW scrW scrT
theorem pos_cells {w : World} {A : Option Addr} {l : List Int} (hr : Rd w A (nums .u8 l)) (h0 : 0 < l.length) : ∃ ad, A = some ad ∧ ∀ i : Nat, i < l.length → w.cell? (ad.add i) = some (.int .u8 (at' l (i : Int))) := by
  obtain ⟨ad, e, _, hcl⟩ := hr.get (by rw [nums_length]; omega)
  exact ⟨ad, e, fun i hi => hcl.numN hi⟩
def pr2 (a : Value) (e : Int) : Value := .tuple #[a, .int .i64 e]
end Go.Proofs.YtcgplgpdcfocpaaGreatDoor.Der
end
section
set_option linter.unusedVariables false
set_option linter.unusedSimpArgs false
namespace Go.Proofs.YtcgplgpdcfocpaaGreatDoor.Der
open Go Go.RowKit Go.Proofs Go.Proofs.YtcgplgpdcfocpaaGreatDoor.Eng Go.Proofs.YtcgplgpdcfocpaaGreatDoor.Code
set_option maxRecDepth 100000
attribute [local irreducible] callK S.W opsW scrW scrT
def stripZ : List Int → List Int
  | [] => []
  | x :: r => if x = 0 then stripZ r else x :: r
theorem trimb_vw {w : World} {v : Value} {l : List Int} (hv : Vw .u8 w v l) (h63 : l.length ≤ 9223372036854775807) (K : Value → World → Prop)
    (hK : ∀ v', Vw .u8 w v' (stripZ l) → K v' w) : callK Tryz.prog 66 [v, .int .u8 0] w K := by
  obtain ⟨A, c, rfl, hc, hr⟩ := hv
  refine call_of Tryz.func66 Code.h66 (by simp [Code.c66]) ?_
  simp (disch := omega) only [wu64, wu32, wu8, fdiv_nn, EO, ↓EP, EQ, EM, ↓reduceIte, Za, Zb, Zc, Zd, Ze, Zf, Zg, Zj, Zk, Zl, Zm, Zn, Zp, Zq, reduceCtorEq, Code.c66]
  refine loop_inv (fun t ρ w' => w' = w ∧ ∃ (A' : Option Addr) (c' : Nat) (l' : List Int), ρ 0 = .slice A' l'.length c' ∧ ρ 1 = .int .u8 0 ∧ l'.length ≤ c' ∧ l'.length ≤ l.length ∧ t = l'.length ∧ Rd w A' (nums .u8 l') ∧ stripZ l' = stripZ l) _ ⟨rfl, A, c, l, by simp (disch := omega) only [wu64, wu32, wu8, fdiv_nn, EO, ↓EP, EQ, EM, ↓reduceIte, Za, Zb, Zc, Zd, Ze, Zf, Zg, Zj, Zk, Zl, Zm, Zn, Zp, Zq, reduceCtorEq], by simp (disch := omega) only [wu64, wu32, wu8, fdiv_nn, EO, ↓EP, EQ, EM, ↓reduceIte, Za, Zb, Zc, Zd, Ze, Zf, Zg, Zj, Zk, Zl, Zm, Zn, Zp, Zq, reduceCtorEq], hc, Nat.le_refl _, rfl, hr, rfl⟩ ?_
  rintro t ρ w' hf ⟨rfl, A', c', l', h0, h1, hc', hll, rfl, hr', hs⟩ N hN
  clear hf
  by_cases hl : l'.length = 0
  · have : l' = [] := List.length_eq_zero_iff.1 hl
    subst this
    simp (disch := omega) only [wu64, wu32, wu8, fdiv_nn, EO, ↓EP, EQ, EM, ↓reduceIte, Za, Zb, Zc, Zd, Ze, Zf, Zg, Zj, Zk, Zl, Zm, Zn, Zp, Zq, reduceCtorEq, h0, h1, List.length_nil, Int.natCast_zero]
    rw [← hs] at hK
    exact hK _ (Vw.nil _ _)
  · obtain ⟨ad, rfl, cell⟩ := pos_cells hr' (by omega)
    have c0 := cell 0 (by omega)
    rw [show ((0 : Nat) : Int) = 0 by rfl] at c0
    have hd := drop_at (show 0 < l'.length by omega)
    rw [List.drop_zero, show ((0 : Nat) : Int) = 0 by rfl] at hd
    by_cases hz : at' l' 0 = 0
    · simp (disch := omega) only [wu64, wu32, wu8, fdiv_nn, EO, ↓EP, EQ, EM, ↓reduceIte, Za, Zb, Zc, Zd, Ze, Zf, Zg, Zj, Zk, Zl, Zm, Zn, Zp, Zq, reduceCtorEq, h0, h1, c0, hz]
      refine hN (l'.length - 1) _ _ (by omega) ⟨rfl, subA (some ad) c' 1 1, c' - 1, l'.drop 1, by simp (disch := omega) only [wu64, wu32, wu8, fdiv_nn, EO, ↓EP, EQ, EM, ↓reduceIte, Za, Zb, Zc, Zd, Ze, Zf, Zg, Zj, Zk, Zl, Zm, Zn, Zp, Zq, reduceCtorEq, h0, List.length_drop], by simp (disch := omega) only [wu64, wu32, wu8, fdiv_nn, EO, ↓EP, EQ, EM, ↓reduceIte, Za, Zb, Zc, Zd, Ze, Zf, Zg, Zj, Zk, Zl, Zm, Zn, Zp, Zq, reduceCtorEq, h1], by simp; omega, by simp; omega, by simp, hr'.subA c' 1 hc', ?_⟩
      rw [← hs, hd, stripZ, if_pos hz]; rfl
    · have hzf : (at' l' 0 = 0) = False := eq_false hz
      simp (disch := omega) only [wu64, wu32, wu8, fdiv_nn, EO, ↓EP, EQ, EM, ↓reduceIte, Za, Zb, Zc, Zd, Ze, Zf, Zg, Zj, Zk, Zl, Zm, Zn, Zp, Zq, reduceCtorEq, h0, h1, c0, hzf]
      rw [← hs, hd, stripZ, if_neg hz, ← hd] at hK
      exact hK _ (Vw.of rfl hc' hr')
theorem eq_z0 (K : Value → Prop) : binK .eql (.string ⟨#[0]⟩) (.string ⟨#[]⟩) K = K (.bool false) := by
  have : ((⟨#[0]⟩ : ByteArray).toList == (⟨#[]⟩ : ByteArray).toList) = false := by decide +kernel
  rw [b_seql, this]
theorem ix_z (K : Value → Prop) : ixsK ⟨#[0]⟩ 0 K = K (.int .u8 0) := propext ⟨fun h => h.2.2, fun h => ⟨by decide, by decide, h⟩⟩
theorem sz_z : (⟨#[0]⟩ : ByteArray).size = 1 := rfl
theorem trim_vw {w : World} {v : Value} {l : List Int} (hv : Vw .u8 w v l) (h63 : l.length ≤ 9223372036854775807) (K : Value → World → Prop)
    (hK : ∀ v', Vw .u8 w v' (stripZ l) → K v' w) : callK Tryz.prog 39 [v, .string ⟨#[0]⟩] w K := by
  have hv0 := hv
  obtain ⟨A, c, rfl, hc, hr⟩ := hv
  refine call_of Tryz.func39 Code.h39 (by simp [Code.c39]) ?_
  by_cases hl : l.length = 0
  · have : l = [] := List.length_eq_zero_iff.1 hl
    subst this
    simp (disch := omega) only [wu64, wu32, wu8, fdiv_nn, EO, ↓EP, EQ, EM, ↓reduceIte, Za, Zb, Zc, Zd, Ze, Zf, Zg, Zj, Zk, Zl, Zm, Zn, Zp, Zq, reduceCtorEq, Code.c39, List.length_nil, Int.natCast_zero]
    exact hK _ (Vw.nil _ _)
  · simp (disch := omega) only [wu64, wu32, wu8, fdiv_nn, EO, ↓EP, EQ, EM, ↓reduceIte, Za, Zb, Zc, Zd, Ze, Zf, Zg, Zj, Zk, Zl, Zm, Zn, Zp, Zq, reduceCtorEq, Code.c39, eq_z0, sz_z, Int.natCast_one, ix_z]
    refine trimb_vw hv0 h63 _ fun v' h' => ?_
    simp (disch := omega) only [wu64, wu32, wu8, fdiv_nn, EO, ↓EP, EQ, EM, ↓reduceIte, Za, Zb, Zc, Zd, Ze, Zf, Zg, Zj, Zk, Zl, Zm, Zn, Zp, Zq, reduceCtorEq]
    exact hK v' h'
end Go.Proofs.YtcgplgpdcfocpaaGreatDoor.Der
end
section
set_option linter.unusedVariables false
set_option linter.unusedSimpArgs false
namespace Go.Proofs.YtcgplgpdcfocpaaGreatDoor.Der
open Go Go.RowKit Go.Proofs Go.Proofs.YtcgplgpdcfocpaaGreatDoor.Eng Go.Proofs.YtcgplgpdcfocpaaGreatDoor.Code
set_option maxRecDepth 100000
attribute [local irreducible] callK S.W opsW scrW scrT
open Go.Sort
end Go.Proofs.YtcgplgpdcfocpaaGreatDoor.Der
end
section
set_option linter.unusedVariables false
set_option linter.unusedSimpArgs false
namespace Go.Proofs.YtcgplgpdcfocpaaGreatDoor.Der
open Go Go.RowKit Go.Proofs Go.Proofs.YtcgplgpdcfocpaaGreatDoor.Eng Go.Proofs.YtcgplgpdcfocpaaGreatDoor.Code
set_option maxRecDepth 100000
attribute [local irreducible] callK S.W opsW scrW scrT
theorem satA_bd {v : Int} (h : 0 ≤ v) : 0 ≤ satA v ∧ satA v ≤ 1099511627776 := by unfold satA; split <;> omega
end Go.Proofs.YtcgplgpdcfocpaaGreatDoor.Der
end
section
set_option linter.unusedVariables false
set_option linter.unusedSimpArgs false
namespace Go.Proofs.YtcgplgpdcfocpaaGreatDoor.Der
open Go Go.RowKit Go.Proofs Go.Proofs.YtcgplgpdcfocpaaGreatDoor.Eng Go.Proofs.YtcgplgpdcfocpaaGreatDoor.Code
set_option maxRecDepth 100000
attribute [local irreducible] callK S.W opsW scrW scrT
theorem u64_and127 {a : Int} (h : 0 ≤ a) (h' : a < 18446744073709551616) : bits .and .u64 a 127 = a % 128 := by
  obtain ⟨a, rfl⟩ := Int.eq_ofNat_of_zero_le h
  have ea : (BitVec.ofInt 64 (a : Int)).toNat = a := by simp; omega
  have eb : (BitVec.ofInt 64 (127 : Int)).toNat = 127 := by decide
  show IntKind.u64.wrap ((BitVec.ofInt 64 (a : Int) &&& BitVec.ofInt 64 (127 : Int)).toNat : Int) = _
  rw [BitVec.toNat_and, ea, eb, show (127 : Nat) = 2 ^ 7 - 1 by rfl, Nat.and_two_pow_sub_one_eq_mod]
  rw [wu64 (by omega) (by omega)]
  omega
theorem sevenHi_z : ∀ f, sevenHi f 0 = []
  | 0 => rfl
  | f + 1 => by rw [sevenHi, if_pos rfl]
theorem sevenHi_len : ∀ f v, (sevenHi f v).length ≤ f
  | 0, v => by simp [sevenHi]
  | f + 1, v => by
    rw [sevenHi]
    split
    · simp
    · have := sevenHi_len f (v / 128)
      simp; omega
theorem seven_len (v : Nat) : (sevenR v).length ≤ 11 := by
  have := sevenHi_len 10 (v / 128)
  simp [sevenR]; omega
theorem seven_vw {w : World} {v : Nat} (hv : v < 9223372036854775808) (K : Value → World → Prop)
    (hK : ∀ v' w', Gw .u8 w w' v' (sevenR v) → K v' w') : callK Tryz.prog 102 [.int .u64 v] w K := by
  refine call_of Tryz.func102 Code.h102 (by simp [Code.c102]) ?_
  have e0 := u64_and127 (a := (v : Int)) (by omega) (by omega)
  have e1 : IntKind.u8.wrap ((v : Int) % 128) = (v : Int) % 128 := wu8 (by omega) (by omega)
  simp (disch := omega) only [wu64, wu32, wu8, fdiv_nn, EO, ↓EP, EQ, EM, ↓reduceIte, Za, Zb, Zc, Zd, Ze, Zf, Zg, Zj, Zk, Zl, Zm, Zn, Zp, Zq, reduceCtorEq, Code.c102, e0, e1]
  refine bsl1 fun w1 n1 => ?_
  have g1 : Gw .u8 w w1 (.slice (some ⟨w.heap.size, 0, none⟩) 1 1) [(v : Int) % 128] := ⟨n1.sl, fun b e => by cases e; exact Nat.le_refl _, n1.fr nob⟩
  simp (disch := omega) only [wu64, wu32, wu8, fdiv_nn, EO, ↓EP, EQ, EM, ↓reduceIte, Za, Zb, Zc, Zd, Ze, Zf, Zg, Zj, Zk, Zl, Zm, Zn, Zp, Zq, reduceCtorEq]
  refine loop_inv (fun t ρ w' => ∃ (x f : Nat) (B : Value) (l : List Int), ρ 0 = .int .u64 x ∧ ρ 3 = B ∧ Gw .u8 w w' B l ∧ t = x ∧ x < 128 ^ f ∧ f ≤ 10 ∧ l.length + f ≤ 11 ∧ x < 9223372036854775808 ∧ sevenHi f x ++ l = sevenR v) _ ⟨v / 128, 10, _, _, by simp (disch := omega) only [wu64, wu32, wu8, fdiv_nn, EO, ↓EP, EQ, EM, ↓reduceIte, Za, Zb, Zc, Zd, Ze, Zf, Zg, Zj, Zk, Zl, Zm, Zn, Zp, Zq, reduceCtorEq, Int.natCast_ediv], by simp (disch := omega) only [wu64, wu32, wu8, fdiv_nn, EO, ↓EP, EQ, EM, ↓reduceIte, Za, Zb, Zc, Zd, Ze, Zf, Zg, Zj, Zk, Zl, Zm, Zn, Zp, Zq, reduceCtorEq], g1, rfl, by omega, by omega, by simp, by omega, by simp [sevenR]⟩ ?_
  rintro t ρ w2 hf ⟨x, f, B, l, h0, h3, g, ht, hx, hf10, hl, hx63, hs⟩ N hN
  clear hf
  obtain ⟨BA, bc, rfl, hbc, hBr⟩ := readn g.sl rfl
  by_cases hx0 : x = 0
  · rw [hx0] at h0 hs
    rw [sevenHi_z, List.nil_append] at hs
    subst hs
    simp (disch := omega) only [wu64, wu32, wu8, fdiv_nn, EO, ↓EP, EQ, EM, ↓reduceIte, Za, Zb, Zc, Zd, Ze, Zf, Zg, Zj, Zk, Zl, Zm, Zn, Zp, Zq, reduceCtorEq, h0, h3, Int.natCast_zero]
    exact hK _ w2 g
  · obtain ⟨f, rfl⟩ : ∃ g, f = g + 1 := by
      cases f with
      | zero => simp at hx; omega
      | succ f => exact ⟨f, rfl⟩
    have ewb : IntKind.u8.wrap (x : Int) = ((x % 256 : Nat) : Int) := by rw [wu8_mod]; omega
    have eor : bits .or .u8 ((x % 256 : Nat) : Int) 128 = ((x % 128 + 128 : Nat) : Int) := by
      rw [d8_or128 ⟨by omega, by omega⟩]; omega
    rw [Nat.pow_succ] at hx
    rw [sevenHi, if_neg hx0] at hs
    simp (disch := omega) only [wu64, wu32, wu8, fdiv_nn, EO, ↓EP, EQ, EM, ↓reduceIte, Za, Zb, Zc, Zd, Ze, Zf, Zg, Zj, Zk, Zl, Zm, Zn, Zp, Zq, reduceCtorEq, h0, h3, ewb, eor]
    refine bsl1 fun w3 n3 => ?_
    simp (disch := omega) only [wu64, wu32, wu8, fdiv_nn, EO, ↓EP, EQ, EM, ↓reduceIte, Za, Zb, Zc, Zd, Ze, Zf, Zg, Zj, Zk, Zl, Zm, Zn, Zp, Zq, reduceCtorEq, h3]
    refine app_num n3.sl rfl (hBr.nb (n3.fr nob)) (by simp; omega) (by omega) fun v4 w4 a4 => ?_
    have g4 : Gw .u8 w w4 v4 (((x % 128 + 128 : Nat) : Int) :: l) := by
      have := (⟨n3.sl, fun b e => by cases e; exact Nat.le_refl _, n3.fr nob⟩ : Gw .u8 w2 w3 (.slice (some ⟨w2.heap.size, 0, none⟩) 1 1) [((x % 128 + 128 : Nat) : Int)]).apd a4
      exact this.from g.fr
    simp (disch := omega) only [wu64, wu32, wu8, fdiv_nn, EO, ↓EP, EQ, EM, ↓reduceIte, Za, Zb, Zc, Zd, Ze, Zf, Zg, Zj, Zk, Zl, Zm, Zn, Zp, Zq, reduceCtorEq, h0]
    exact hN (x / 128) _ _ (by omega) ⟨x / 128, f, v4, _, by simp (disch := omega) only [wu64, wu32, wu8, fdiv_nn, EO, ↓EP, EQ, EM, ↓reduceIte, Za, Zb, Zc, Zd, Ze, Zf, Zg, Zj, Zk, Zl, Zm, Zn, Zp, Zq, reduceCtorEq, h0, Int.natCast_ediv], by simp (disch := omega) only [wu64, wu32, wu8, fdiv_nn, EO, ↓EP, EQ, EM, ↓reduceIte, Za, Zb, Zc, Zd, Ze, Zf, Zg, Zj, Zk, Zl, Zm, Zn, Zp, Zq, reduceCtorEq], g4, rfl, by omega, by omega, by simp at hl ⊢; omega, by omega, by rw [← hs]; simp⟩
end Go.Proofs.YtcgplgpdcfocpaaGreatDoor.Der
end
section
set_option linter.unusedVariables false
set_option linter.unusedSimpArgs false
namespace Go.Proofs.YtcgplgpdcfocpaaGreatDoor.Der
open Go Go.RowKit Go.Proofs Go.Proofs.YtcgplgpdcfocpaaGreatDoor.Eng Go.Proofs.YtcgplgpdcfocpaaGreatDoor.Code
set_option maxRecDepth 100000
attribute [local irreducible] callK S.W opsW scrW scrT
structure LV (w : World) (X : Value) (ls : List (List Int)) : Prop where
  ex : ∃ A c vs, X = .slice A ls.length c ∧ ls.length ≤ c ∧ Rd w A vs ∧ vs.length = ls.length ∧ ∀ (i : Nat) v l, vs[i]? = some v → ls[i]? = some l → Vw .u8 w v l
theorem LV.nb {w w' : World} {X : Value} {ls : List (List Int)} (h : LV w X ls) (f : Fr w w' nob) : LV w' X ls := by
  obtain ⟨A, c, vs, e, hc, hr, hv, he⟩ := h.ex
  refine ⟨A, c, vs, e, hc, hr.nb f, hv, fun i v l h1 h2 => ?_⟩
  obtain ⟨B, d, e2, hd, hB⟩ := he i v l h1 h2
  exact ⟨B, d, e2, hd, hB.nb f⟩
theorem LV.at {w : World} {A : Option Addr} {n c : Nat} {ls : List (List Int)} (h : LV w (.slice A n c) ls) {i : Nat} (hi : i < ls.length) : ∃ ad dA dc, A = some ad ∧ n = ls.length ∧ w.cell? (ad.add i) = some (.slice dA ls[i].length dc) ∧ ls[i].length ≤ dc ∧ Rd w dA (nums .u8 ls[i]) := by
  obtain ⟨A', c', vs, e, hc, hr, hv, he⟩ := h.ex
  cases e
  have hiv : i < vs.length := by omega
  obtain ⟨ad, ea, hcell⟩ := hr.at (List.getElem?_eq_getElem hiv)
  obtain ⟨dA, dc, e2, hdc, hdr⟩ := he i vs[i] ls[i] (List.getElem?_eq_getElem hiv) (List.getElem?_eq_getElem hi)
  rw [e2] at hcell
  exact ⟨ad, dA, dc, ea, rfl, hcell, hdc, hdr⟩
def tot (ls : List (List Int)) (j : Nat) : Nat := ((ls.take j).map List.length).sum
theorem take_one {α : Type} {ls : List α} {j : Nat} (h : j < ls.length) : ls.take (j + 1) = ls.take j ++ [ls[j]] := by
  rw [List.take_add_one, List.getElem?_eq_getElem h]; rfl
theorem sum_app (a b : List Nat) : (a ++ b).sum = a.sum + b.sum := by
  induction a with
  | nil => simp
  | cons x r ih => simp only [List.cons_append, List.sum_cons, ih]; omega
theorem tot_succ {ls : List (List Int)} {j : Nat} (h : j < ls.length) : tot ls (j + 1) = tot ls j + ls[j].length := by
  unfold tot
  rw [take_one h, List.map_append, sum_app]
  simp only [List.map_cons, List.map_nil, List.sum_cons, List.sum_nil, Nat.add_zero]
theorem tot_all (ls : List (List Int)) : tot ls ls.length = (ls.map List.length).sum := by simp [tot]
theorem tot_le (ls : List (List Int)) (j : Nat) : tot ls j ≤ (ls.map List.length).sum := by
  have : (ls.map List.length).sum = tot ls j + ((ls.drop j).map List.length).sum := by
    unfold tot
    rw [← sum_app, ← List.map_append, List.take_append_drop]
  omega
theorem flat_succ {ls : List (List Int)} {j : Nat} (h : j < ls.length) : (ls.take (j + 1)).flatten = (ls.take j).flatten ++ ls[j] := by
  rw [take_one h, List.flatten_append]; simp only [List.flatten_cons, List.flatten_nil, List.append_nil]
theorem flat_len (ls : List (List Int)) (j : Nat) : (ls.take j).flatten.length = tot ls j := by
  unfold tot; simp [List.length_flatten]
theorem or_hi : ∀ a : Nat, a < 8 → ∀ t : Nat, t < 32 → bits .or .u8 ((a * 32 : Nat) : Int) (t : Int) = ((a * 32 + t : Nat) : Int) := by decide +kernel
theorem first_or {a t : Int} (h0 : 0 ≤ a) (h1 : a < 256) (h2 : a % 32 = 0) (h3 : 0 ≤ t) (h4 : t < 32) : bits .or .u8 a t = a + t := by
  obtain ⟨a, rfl⟩ := Int.eq_ofNat_of_zero_le h0
  obtain ⟨t, rfl⟩ := Int.eq_ofNat_of_zero_le h3
  have := or_hi (a / 32) (by omega) t (by omega)
  rw [show a / 32 * 32 = a by omega] at this
  rw [this]; omega
theorem or_32n : ∀ a : Nat, a < 4 → bits .or .u8 ((a * 64 : Nat) : Int) 32 = ((a * 64 + 32 : Nat) : Int) := by decide +kernel
theorem cls_or {a : Int} (h0 : 0 ≤ a) (h1 : a ≤ 3) : bits .or .u8 (a * 64) 32 = a * 64 + 32 := by
  obtain ⟨a, rfl⟩ := Int.eq_ofNat_of_zero_le h0
  have := or_32n a (by omega)
  rw [show ((a : Int) * 64) = ((a * 64 : Nat) : Int) by omega, this]; omega
def firstR (cls : Int) (cons : Bool) : Int := cls * 64 + (if cons then 32 else 0)
theorem firstR_bd {cls : Int} {cons : Bool} (h0 : 0 ≤ cls) (h1 : cls ≤ 3) : 0 ≤ firstR cls cons ∧ firstR cls cons < 256 ∧ firstR cls cons % 32 = 0 := by
  unfold firstR
  cases cons <;> simp <;> omega
def headA (first tag : Int) : List Int := if tag < 31 then [first + tag] else (first + 31) :: sevenR tag.toNat
theorem headR_eq (cls tag : Int) (cons : Bool) (n : Nat) : headR cls tag cons n = headA (firstR cls cons) tag ++ lenBytes n := rfl
theorem headA_len (first tag : Int) : (headA first tag).length ≤ 12 := by
  unfold headA
  split
  · simp
  · have := seven_len tag.toNat
    simp; omega
theorem be_len : ∀ f n, (bytesBE f n).length ≤ f
  | 0, n => by simp [bytesBE]
  | f + 1, n => by
    rw [bytesBE]
    split
    · simp
    · have := be_len f (n / 256)
      simp; omega
theorem lenB_len (n : Nat) : (lenBytes n).length ≤ 5 := by
  unfold lenBytes
  split
  · simp
  · have := be_len 4 n
    simp; omega
theorem new_cap {w w' : World} {c : Nat} (n : New w w' (nums .u8 (List.replicate c 0))) : Gw .u8 w w' (.slice (some ⟨w.heap.size, 0, none⟩) 0 c) [] :=
  ⟨.inr ⟨w.heap.size, List.replicate c 0, by simp, by simpa using n.blk⟩, fun b e => by cases e; exact Nat.le_refl _, n.fr nob⟩
theorem strip_be {n : Nat} (h : n < 4294967296) : stripZ [((n / 16777216 % 256 : Nat) : Int), ((n / 65536 % 256 : Nat) : Int), ((n / 256 % 256 : Nat) : Int), ((n % 256 : Nat) : Int)] = bytesBE 4 n := by
  simp only [bytesBE, stripZ]
  by_cases h0 : n = 0
  · subst h0; rfl
  by_cases h1 : n / 256 = 0
  · have e1 : n / 16777216 % 256 = 0 := by omega
    have e2 : n / 65536 % 256 = 0 := by omega
    have e3 : n / 256 % 256 = 0 := by omega
    have e4 : n % 256 ≠ 0 := by omega
    simp [e1, e2, e3, e4, h0, h1]
    omega
  by_cases h2 : n / 256 / 256 = 0
  · have e1 : n / 16777216 % 256 = 0 := by omega
    have e2 : n / 65536 % 256 = 0 := by omega
    have e3 : n / 256 % 256 ≠ 0 := by omega
    rw [if_pos (by omega), if_pos (by omega), if_neg (by omega), if_neg h0, if_neg h1, if_pos h2]
    simp
  by_cases h3 : n / 256 / 256 / 256 = 0
  · have e1 : n / 16777216 % 256 = 0 := by omega
    have e2 : n / 65536 % 256 ≠ 0 := by omega
    rw [if_pos (by omega), if_neg (by omega), if_neg h0, if_neg h1, if_neg h2, if_pos h3]
    simp [Nat.div_div_eq_div_mul]
  · rw [if_neg (by omega), if_neg h0, if_neg h1, if_neg h2, if_neg h3]
    simp [Nat.div_div_eq_div_mul]
theorem trimb_all {w : World} {A : Option Addr} {c : Nat} {l : List Int} (hc : l.length ≤ c) (hr : Rd w A (nums .u8 l)) (h63 : l.length ≤ 9223372036854775807) (K : Value → World → Prop)
    (hK : ∀ A' c', (stripZ l).length ≤ c' → (∀ w2, Rd w2 A (nums .u8 l) → Rd w2 A' (nums .u8 (stripZ l))) → K (.slice A' (stripZ l).length c') w) : callK Tryz.prog 66 [.slice A l.length c, .int .u8 0] w K := by
  refine call_of Tryz.func66 Code.h66 (by simp [Code.c66]) ?_
  simp (disch := omega) only [wu64, wu32, wu8, fdiv_nn, EO, ↓EP, EQ, EM, ↓reduceIte, Za, Zb, Zc, Zd, Ze, Zf, Zg, Zj, Zk, Zl, Zm, Zn, Zp, Zq, reduceCtorEq, Code.c66]
  refine loop_inv (fun t ρ w' => w' = w ∧ ∃ (A' : Option Addr) (c' : Nat) (l' : List Int), ρ 0 = .slice A' l'.length c' ∧ ρ 1 = .int .u8 0 ∧ l'.length ≤ c' ∧ l'.length ≤ l.length ∧ t = l'.length ∧ (∀ w2, Rd w2 A (nums .u8 l) → Rd w2 A' (nums .u8 l')) ∧ stripZ l' = stripZ l) _ ⟨rfl, A, c, l, by simp (disch := omega) only [wu64, wu32, wu8, fdiv_nn, EO, ↓EP, EQ, EM, ↓reduceIte, Za, Zb, Zc, Zd, Ze, Zf, Zg, Zj, Zk, Zl, Zm, Zn, Zp, Zq, reduceCtorEq], by simp (disch := omega) only [wu64, wu32, wu8, fdiv_nn, EO, ↓EP, EQ, EM, ↓reduceIte, Za, Zb, Zc, Zd, Ze, Zf, Zg, Zj, Zk, Zl, Zm, Zn, Zp, Zq, reduceCtorEq], hc, Nat.le_refl _, rfl, fun _ h => h, rfl⟩ ?_
  rintro t ρ w' hf ⟨rfl, A', c', l', h0, h1, hc', hll, rfl, hall, hs⟩ N hN
  have hr' := hall w' hr
  clear hf
  by_cases hl : l'.length = 0
  · have : l' = [] := List.length_eq_zero_iff.1 hl
    subst this
    simp (disch := omega) only [wu64, wu32, wu8, fdiv_nn, EO, ↓EP, EQ, EM, ↓reduceIte, Za, Zb, Zc, Zd, Ze, Zf, Zg, Zj, Zk, Zl, Zm, Zn, Zp, Zq, reduceCtorEq, h0, h1, List.length_nil, Int.natCast_zero]
    rw [← hs] at hK
    exact hK none 0 (Nat.le_refl _) fun _ _ => .inl rfl
  · obtain ⟨ad, rfl, cell⟩ := pos_cells hr' (by omega)
    have c0 := cell 0 (by omega)
    rw [show ((0 : Nat) : Int) = 0 by rfl] at c0
    have hd := drop_at (show 0 < l'.length by omega)
    rw [List.drop_zero, show ((0 : Nat) : Int) = 0 by rfl] at hd
    by_cases hz : at' l' 0 = 0
    · simp (disch := omega) only [wu64, wu32, wu8, fdiv_nn, EO, ↓EP, EQ, EM, ↓reduceIte, Za, Zb, Zc, Zd, Ze, Zf, Zg, Zj, Zk, Zl, Zm, Zn, Zp, Zq, reduceCtorEq, h0, h1, c0, hz]
      refine hN (l'.length - 1) _ _ (by omega) ⟨rfl, subA (some ad) c' 1 1, c' - 1, l'.drop 1, by simp (disch := omega) only [wu64, wu32, wu8, fdiv_nn, EO, ↓EP, EQ, EM, ↓reduceIte, Za, Zb, Zc, Zd, Ze, Zf, Zg, Zj, Zk, Zl, Zm, Zn, Zp, Zq, reduceCtorEq, h0, List.length_drop], by simp (disch := omega) only [wu64, wu32, wu8, fdiv_nn, EO, ↓EP, EQ, EM, ↓reduceIte, Za, Zb, Zc, Zd, Ze, Zf, Zg, Zj, Zk, Zl, Zm, Zn, Zp, Zq, reduceCtorEq, h1], by simp; omega, by simp; omega, by simp, fun w2 h2 => (hall w2 h2).subA c' 1 hc', ?_⟩
      rw [← hs, hd, stripZ, if_pos hz]; rfl
    · have hzf : (at' l' 0 = 0) = False := eq_false hz
      simp (disch := omega) only [wu64, wu32, wu8, fdiv_nn, EO, ↓EP, EQ, EM, ↓reduceIte, Za, Zb, Zc, Zd, Ze, Zf, Zg, Zj, Zk, Zl, Zm, Zn, Zp, Zq, reduceCtorEq, h0, h1, c0, hzf]
      rw [← hs, hd, stripZ, if_neg hz, ← hd] at hK
      exact hK _ _ hc' hall
theorem trim_n {w : World} {A : Option Addr} {c : Nat} {l q : List Int} (hc : l.length ≤ c) (hr : Rd w A (nums .u8 l)) (h0 : 0 < l.length) (h63 : l.length ≤ 9223372036854775807) (hq : stripZ l = q) (K : Value → World → Prop)
    (hK : ∀ A' c', q.length ≤ c' → (∀ w2, Rd w2 A (nums .u8 l) → Rd w2 A' (nums .u8 q)) → K (.slice A' q.length c') w) : callK Tryz.prog 39 [.slice A l.length c, .string ⟨#[0]⟩] w K := by
  subst hq
  refine call_of Tryz.func39 Code.h39 (by simp [Code.c39]) ?_
  simp (disch := omega) only [wu64, wu32, wu8, fdiv_nn, EO, ↓EP, EQ, EM, ↓reduceIte, Za, Zb, Zc, Zd, Ze, Zf, Zg, Zj, Zk, Zl, Zm, Zn, Zp, Zq, reduceCtorEq, Code.c39, eq_z0, sz_z, Int.natCast_one, ix_z]
  refine trimb_all hc hr h63 _ fun A' c' hc' hall => ?_
  simp (disch := omega) only [wu64, wu32, wu8, fdiv_nn, EO, ↓EP, EQ, EM, ↓reduceIte, Za, Zb, Zc, Zd, Ze, Zf, Zg, Zj, Zk, Zl, Zm, Zn, Zp, Zq, reduceCtorEq]
  exact hK A' c' hc' hall
end Go.Proofs.YtcgplgpdcfocpaaGreatDoor.Der
end
section
set_option linter.unusedVariables false
set_option linter.unusedSimpArgs false
namespace Go.Proofs.YtcgplgpdcfocpaaGreatDoor.Der
open Go Go.RowKit Go.Proofs Go.Proofs.YtcgplgpdcfocpaaGreatDoor.Eng Go.Proofs.YtcgplgpdcfocpaaGreatDoor.Code
set_option maxRecDepth 100000
attribute [local irreducible] callK S.W opsW scrW scrT
set_option maxHeartbeats 4000000 in
theorem put_vw {w : World} {cls tag : Int} {cons : Bool} {X : Value} {ls : List (List Int)} (hX : LV w X ls) (hcl : -9223372036854775808 ≤ cls ∧ cls ≤ 9223372036854775807) (htg : -9223372036854775808 ≤ tag ∧ tag ≤ 9223372036854775807) (h63 : ls.length ≤ 9223372036854775807)
    (hl63 : ∀ l ∈ ls, l.length ≤ 9223372036854775807) (K : Value → World → Prop)
    (hK : ∀ v' w', Gw .u8 w w' v' (putR cls tag cons ls).1 → K (pr2 v' (putR cls tag cons ls).2) w') : callK Tryz.prog 77 [.int .i64 cls, .int .i64 tag, .bool cons, X] w K := by
  have hX0 := hX.ex
  obtain ⟨A, c, vs, rfl, hc, _⟩ := hX0
  refine call_of Tryz.func77 Code.h77 (by simp [Code.c77]) ?_
  unfold putR at hK
  by_cases hbad : cls < 0 ∨ 3 < cls ∨ tag < 0 ∨ 268435455 < tag ∨ (cls = 0 ∧ tag = 0)
  · rw [if_pos hbad] at hK
    have fin := hK _ w (Gw.nil .u8 w)
    by_cases b1 : cls < 0
    · simp (disch := omega) only [wu64, wu32, wu8, fdiv_nn, EO, ↓EP, EQ, EM, ↓reduceIte, Za, Zb, Zc, Zd, Ze, Zf, Zg, Zj, Zk, Zl, Zm, Zn, Zp, Zq, reduceCtorEq, Code.c77]
      exact fin
    by_cases b2 : 3 < cls
    · simp (disch := omega) only [wu64, wu32, wu8, fdiv_nn, EO, ↓EP, EQ, EM, ↓reduceIte, Za, Zb, Zc, Zd, Ze, Zf, Zg, Zj, Zk, Zl, Zm, Zn, Zp, Zq, reduceCtorEq, Code.c77]
      exact fin
    by_cases b3 : tag < 0
    · simp (disch := omega) only [wu64, wu32, wu8, fdiv_nn, EO, ↓EP, EQ, EM, ↓reduceIte, Za, Zb, Zc, Zd, Ze, Zf, Zg, Zj, Zk, Zl, Zm, Zn, Zp, Zq, reduceCtorEq, Code.c77]
      exact fin
    by_cases b4 : 268435455 < tag
    · simp (disch := omega) only [wu64, wu32, wu8, fdiv_nn, EO, ↓EP, EQ, EM, ↓reduceIte, Za, Zb, Zc, Zd, Ze, Zf, Zg, Zj, Zk, Zl, Zm, Zn, Zp, Zq, reduceCtorEq, Code.c77]
      exact fin
    have b5 : cls = 0 ∧ tag = 0 := by omega
    rw [b5.1, b5.2]
    simp (disch := omega) only [wu64, wu32, wu8, fdiv_nn, EO, ↓EP, EQ, EM, ↓reduceIte, Za, Zb, Zc, Zd, Ze, Zf, Zg, Zj, Zk, Zl, Zm, Zn, Zp, Zq, reduceCtorEq, Code.c77]
    exact fin
  rw [if_neg hbad] at hK
  have hne : (cls + tag = 0) = False := eq_false (by omega)
  have hc0 : 0 ≤ cls ∧ cls ≤ 3 ∧ 0 ≤ tag ∧ tag ≤ 268435455 := by omega
  simp (disch := omega) only [wu64, wu32, wu8, fdiv_nn, EO, ↓EP, EQ, EM, ↓reduceIte, Za, Zb, Zc, Zd, Ze, Zf, Zg, Zj, Zk, Zl, Zm, Zn, Zp, Zq, reduceCtorEq, Code.c77, hne]
  refine loop_inv (fun t ρ w' => w' = w ∧ ∃ j : Nat, ρ 40 = .int .i64 j ∧ ρ 10 = .int .i64 (tot ls j : Int) ∧ j ≤ ls.length ∧ t = ls.length - j ∧ tot ls j ≤ 16777216) ls.length ⟨rfl, 0, by simp (disch := omega) only [wu64, wu32, wu8, fdiv_nn, EO, ↓EP, EQ, EM, ↓reduceIte, Za, Zb, Zc, Zd, Ze, Zf, Zg, Zj, Zk, Zl, Zm, Zn, Zp, Zq, reduceCtorEq], by simp (disch := omega) only [wu64, wu32, wu8, fdiv_nn, EO, ↓EP, EQ, EM, ↓reduceIte, Za, Zb, Zc, Zd, Ze, Zf, Zg, Zj, Zk, Zl, Zm, Zn, Zp, Zq, reduceCtorEq]; rfl, by omega, by omega, by simp [tot]⟩ ?_
  rintro t ρ w' hf ⟨rfl, j, h40, h10, hj, rfl, htj⟩ N hN
  have r0 : ρ 0 = .int .i64 cls := by rw [hf 0 rfl]; simp (disch := omega) only [wu64, wu32, wu8, fdiv_nn, EO, ↓EP, EQ, EM, ↓reduceIte, Za, Zb, Zc, Zd, Ze, Zf, Zg, Zj, Zk, Zl, Zm, Zn, Zp, Zq, reduceCtorEq]
  have r1 : ρ 1 = .int .i64 tag := by rw [hf 1 rfl]; simp (disch := omega) only [wu64, wu32, wu8, fdiv_nn, EO, ↓EP, EQ, EM, ↓reduceIte, Za, Zb, Zc, Zd, Ze, Zf, Zg, Zj, Zk, Zl, Zm, Zn, Zp, Zq, reduceCtorEq]
  have r2 : ρ 2 = .bool cons := by rw [hf 2 rfl]; simp (disch := omega) only [wu64, wu32, wu8, fdiv_nn, EO, ↓EP, EQ, EM, ↓reduceIte, Za, Zb, Zc, Zd, Ze, Zf, Zg, Zj, Zk, Zl, Zm, Zn, Zp, Zq, reduceCtorEq]
  have r3 : ρ 3 = .slice A ls.length c := by rw [hf 3 rfl]; simp (disch := omega) only [wu64, wu32, wu8, fdiv_nn, EO, ↓EP, EQ, EM, ↓reduceIte, Za, Zb, Zc, Zd, Ze, Zf, Zg, Zj, Zk, Zl, Zm, Zn, Zp, Zq, reduceCtorEq]
  have r38 : ρ 38 = .slice A ls.length c := by rw [hf 38 rfl]; simp (disch := omega) only [wu64, wu32, wu8, fdiv_nn, EO, ↓EP, EQ, EM, ↓reduceIte, Za, Zb, Zc, Zd, Ze, Zf, Zg, Zj, Zk, Zl, Zm, Zn, Zp, Zq, reduceCtorEq]
  have r39 : ρ 39 = .int .i64 ls.length := by rw [hf 39 rfl]; simp (disch := omega) only [wu64, wu32, wu8, fdiv_nn, EO, ↓EP, EQ, EM, ↓reduceIte, Za, Zb, Zc, Zd, Ze, Zf, Zg, Zj, Zk, Zl, Zm, Zn, Zp, Zq, reduceCtorEq]
  clear hf
  by_cases hjl : (j : Int) < (ls.length : Int)
  · obtain ⟨ad, dA, dc, rfl, _, cj, hdc, _⟩ := hX.at (i := j) (by omega)
    have hlj := hl63 ls[j] (List.getElem_mem (by omega))
    have hts := tot_succ (ls := ls) (j := j) (by omega)
    by_cases hbig : 16777216 - (tot ls j : Int) < (ls[j].length : Int)
    · have htl := tot_le ls (j + 1)
      rw [if_pos (by omega)] at hK
      simp (disch := omega) only [wu64, wu32, wu8, fdiv_nn, EO, ↓EP, EQ, EM, ↓reduceIte, Za, Zb, Zc, Zd, Ze, Zf, Zg, Zj, Zk, Zl, Zm, Zn, Zp, Zq, reduceCtorEq, W_join, h40, h10, r38, r39, cj]
      exact hK _ w' (Gw.nil .u8 w')
    · simp (disch := omega) only [wu64, wu32, wu8, fdiv_nn, EO, ↓EP, EQ, EM, ↓reduceIte, Za, Zb, Zc, Zd, Ze, Zf, Zg, Zj, Zk, Zl, Zm, Zn, Zp, Zq, reduceCtorEq, W_join, h40, h10, r38, r39, cj]
      exact hN (ls.length - (j + 1)) _ _ (by omega) ⟨rfl, j + 1, by simp (disch := omega) only [wu64, wu32, wu8, fdiv_nn, EO, ↓EP, EQ, EM, ↓reduceIte, Za, Zb, Zc, Zd, Ze, Zf, Zg, Zj, Zk, Zl, Zm, Zn, Zp, Zq, reduceCtorEq, h40, Int.natCast_add], by simp (disch := omega) only [wu64, wu32, wu8, fdiv_nn, EO, ↓EP, EQ, EM, ↓reduceIte, Za, Zb, Zc, Zd, Ze, Zf, Zg, Zj, Zk, Zl, Zm, Zn, Zp, Zq, reduceCtorEq, h10, hts, Int.natCast_add], by omega, rfl, by omega⟩
  have hje : j = ls.length := by omega
  subst hje
  have hta := tot_all ls
  rw [hta] at h10 htj
  generalize hn : (ls.map List.length).sum = n at hK h10 htj hta
  rw [if_neg (by omega)] at hK
  clear hN
  have e6 : IntKind.u8.wrap (cls * 2 ^ 6) = cls * 64 := by
    rw [show (2 : Int) ^ 6 = 64 by decide]; exact wu8 (by omega) (by omega)
  have e6' : IntKind.i64.wrap (cls * 2 ^ 6) = cls * 2 ^ 6 := by
    rw [show (2 : Int) ^ 6 = 64 by decide]; exact w64 (by omega) (by omega)
  simp (disch := omega) only [wu64, wu32, wu8, fdiv_nn, EO, ↓EP, EQ, EM, ↓reduceIte, Za, Zb, Zc, Zd, Ze, Zf, Zg, Zj, Zk, Zl, Zm, Zn, Zp, Zq, reduceCtorEq, W_joinT, h40, h10, r0, r38, r39, e6, e6']
  refine join_cut (fun ρ' w2 => w2 = w' ∧ ρ' 13 = .int .u8 (firstR cls cons)) ?_ ?_
  · intro N1 hN1
    cases cons
    · simp (disch := omega) only [wu64, wu32, wu8, fdiv_nn, EO, ↓EP, EQ, EM, ↓reduceIte, Za, Zb, Zc, Zd, Ze, Zf, Zg, Zj, Zk, Zl, Zm, Zn, Zp, Zq, reduceCtorEq, r2]
      exact hN1 _ _ ⟨rfl, by simp (disch := omega) only [wu64, wu32, wu8, fdiv_nn, EO, ↓EP, EQ, EM, ↓reduceIte, Za, Zb, Zc, Zd, Ze, Zf, Zg, Zj, Zk, Zl, Zm, Zn, Zp, Zq, reduceCtorEq, e6, e6']; unfold firstR; simp⟩
    · have eo := cls_or hc0.1 hc0.2.1
      simp (disch := omega) only [wu64, wu32, wu8, fdiv_nn, EO, ↓EP, EQ, EM, ↓reduceIte, Za, Zb, Zc, Zd, Ze, Zf, Zg, Zj, Zk, Zl, Zm, Zn, Zp, Zq, reduceCtorEq, r2, e6, e6', eo]
      exact hN1 _ _ ⟨rfl, by simp (disch := omega) only [wu64, wu32, wu8, fdiv_nn, EO, ↓EP, EQ, EM, ↓reduceIte, Za, Zb, Zc, Zd, Ze, Zf, Zg, Zj, Zk, Zl, Zm, Zn, Zp, Zq, reduceCtorEq, e6, e6', eo]; unfold firstR; simp⟩
  rintro ρ1 w1 hf1 ⟨rfl, g13⟩
  have q1 : ρ1 1 = .int .i64 tag := by rw [hf1 1 rfl]; simp (disch := omega) only [wu64, wu32, wu8, fdiv_nn, EO, ↓EP, EQ, EM, ↓reduceIte, Za, Zb, Zc, Zd, Ze, Zf, Zg, Zj, Zk, Zl, Zm, Zn, Zp, Zq, reduceCtorEq, r1]
  have q3 : ρ1 3 = .slice A ls.length c := by rw [hf1 3 rfl]; simp (disch := omega) only [wu64, wu32, wu8, fdiv_nn, EO, ↓EP, EQ, EM, ↓reduceIte, Za, Zb, Zc, Zd, Ze, Zf, Zg, Zj, Zk, Zl, Zm, Zn, Zp, Zq, reduceCtorEq, r3]
  have q10 : ρ1 10 = .int .i64 n := by rw [hf1 10 rfl]; simp (disch := omega) only [wu64, wu32, wu8, fdiv_nn, EO, ↓EP, EQ, EM, ↓reduceIte, Za, Zb, Zc, Zd, Ze, Zf, Zg, Zj, Zk, Zl, Zm, Zn, Zp, Zq, reduceCtorEq, h10]
  clear hf1
  have hF := firstR_bd (cons := cons) hc0.1 hc0.2.1
  rw [headR_eq] at hK
  generalize firstR cls cons = F at g13 hF hK
  have en : ((n : Int) + 10).toNat = n + 10 := by omega
  simp (disch := omega) only [wu64, wu32, wu8, fdiv_nn, EO, ↓EP, EQ, EM, ↓reduceIte, Za, Zb, Zc, Zd, Ze, Zf, Zg, Zj, Zk, Zl, Zm, Zn, Zp, Zq, reduceCtorEq, W_joinT, g13, q1, q3, q10, en]
  refine al_k (nums .u8 (List.replicate (n + 10) 0)) (by rw [madeCells_list, nums_replicate]) fun w2 n2 => ?_
  have g2 := new_cap n2
  simp (disch := omega) only [wu64, wu32, wu8, fdiv_nn, EO, ↓EP, EQ, EM, ↓reduceIte, Za, Zb, Zc, Zd, Ze, Zf, Zg, Zj, Zk, Zl, Zm, Zn, Zp, Zq, reduceCtorEq, W_joinT, g13, q1, q3, q10, en]
  refine join_cut (fun ρ' w3 => ∃ B, ρ' 14 = B ∧ Gw .u8 w1 w3 B (headA F tag)) ?_ ?_
  · intro N1 hN1
    by_cases h31 : tag < 31
    · have eo := first_or hF.1 hF.2.1 hF.2.2 hc0.2.2.1 (show tag < 32 by omega)
      have eh : headA F tag = [F + tag] := if_pos h31
      simp (disch := omega) only [wu64, wu32, wu8, fdiv_nn, EO, ↓EP, EQ, EM, ↓reduceIte, Za, Zb, Zc, Zd, Ze, Zf, Zg, Zj, Zk, Zl, Zm, Zn, Zp, Zq, reduceCtorEq, g13, q1, eo]
      refine bsl1 fun w3 n3 => ?_
      simp (disch := omega) only [wu64, wu32, wu8, fdiv_nn, EO, ↓EP, EQ, EM, ↓reduceIte, Za, Zb, Zc, Zd, Ze, Zf, Zg, Zj, Zk, Zl, Zm, Zn, Zp, Zq, reduceCtorEq, g13, q1, eo]
      refine app_num (g2.new n3).sl rfl n3.rdv (by simp) (by omega) fun v4 w4 a4 => ?_
      have g4 := (g2.new n3).apd a4
      rw [List.nil_append, ← eh] at g4
      simp (disch := omega) only [wu64, wu32, wu8, fdiv_nn, EO, ↓EP, EQ, EM, ↓reduceIte, Za, Zb, Zc, Zd, Ze, Zf, Zg, Zj, Zk, Zl, Zm, Zn, Zp, Zq, reduceCtorEq]
      exact hN1 _ _ ⟨v4, by simp (disch := omega) only [wu64, wu32, wu8, fdiv_nn, EO, ↓EP, EQ, EM, ↓reduceIte, Za, Zb, Zc, Zd, Ze, Zf, Zg, Zj, Zk, Zl, Zm, Zn, Zp, Zq, reduceCtorEq], g4⟩
    · have eo := first_or hF.1 hF.2.1 hF.2.2 (show (0 : Int) ≤ 31 by omega) (by omega)
      have eh : headA F tag = [F + 31] ++ sevenR tag.toNat := if_neg h31
      have hs := seven_len tag.toNat
      have et : tag = ((tag.toNat : Nat) : Int) := by omega
      simp (disch := omega) only [wu64, wu32, wu8, fdiv_nn, EO, ↓EP, EQ, EM, ↓reduceIte, Za, Zb, Zc, Zd, Ze, Zf, Zg, Zj, Zk, Zl, Zm, Zn, Zp, Zq, reduceCtorEq, g13, q1, eo]
      refine bsl1 fun w3 n3 => ?_
      simp (disch := omega) only [wu64, wu32, wu8, fdiv_nn, EO, ↓EP, EQ, EM, ↓reduceIte, Za, Zb, Zc, Zd, Ze, Zf, Zg, Zj, Zk, Zl, Zm, Zn, Zp, Zq, reduceCtorEq, g13, q1, eo]
      refine app_num (g2.new n3).sl rfl n3.rdv (by simp) (by omega) fun v4 w4 a4 => ?_
      have g4 := (g2.new n3).apd a4
      rw [List.nil_append] at g4
      rw [et] at q1
      generalize tag.toNat = tn at *
      simp (disch := omega) only [wu64, wu32, wu8, fdiv_nn, EO, ↓EP, EQ, EM, ↓reduceIte, Za, Zb, Zc, Zd, Ze, Zf, Zg, Zj, Zk, Zl, Zm, Zn, Zp, Zq, reduceCtorEq, q1]
      refine seven_vw (by omega) _ fun v5 w5 g5 => ?_
      obtain ⟨A5, c5, rfl, hc5, hr5⟩ := readn g5.sl rfl
      simp (disch := omega) only [wu64, wu32, wu8, fdiv_nn, EO, ↓EP, EQ, EM, ↓reduceIte, Za, Zb, Zc, Zd, Ze, Zf, Zg, Zj, Zk, Zl, Zm, Zn, Zp, Zq, reduceCtorEq]
      refine app_num (g4.step g5.fr).sl rfl hr5 (by simp; omega) (by omega) fun v6 w6 a6 => ?_
      have g6 := (g4.step g5.fr).apd a6
      rw [← eh] at g6
      simp (disch := omega) only [wu64, wu32, wu8, fdiv_nn, EO, ↓EP, EQ, EM, ↓reduceIte, Za, Zb, Zc, Zd, Ze, Zf, Zg, Zj, Zk, Zl, Zm, Zn, Zp, Zq, reduceCtorEq]
      exact hN1 _ _ ⟨v6, by simp (disch := omega) only [wu64, wu32, wu8, fdiv_nn, EO, ↓EP, EQ, EM, ↓reduceIte, Za, Zb, Zc, Zd, Ze, Zf, Zg, Zj, Zk, Zl, Zm, Zn, Zp, Zq, reduceCtorEq], g6⟩
  rintro ρ2 w3 hf2 ⟨B, k14, g3⟩
  have q3' : ρ2 3 = .slice A ls.length c := by rw [hf2 3 rfl]; simp (disch := omega) only [wu64, wu32, wu8, fdiv_nn, EO, ↓EP, EQ, EM, ↓reduceIte, Za, Zb, Zc, Zd, Ze, Zf, Zg, Zj, Zk, Zl, Zm, Zn, Zp, Zq, reduceCtorEq, q3]
  have q10' : ρ2 10 = .int .i64 n := by rw [hf2 10 rfl]; simp (disch := omega) only [wu64, wu32, wu8, fdiv_nn, EO, ↓EP, EQ, EM, ↓reduceIte, Za, Zb, Zc, Zd, Ze, Zf, Zg, Zj, Zk, Zl, Zm, Zn, Zp, Zq, reduceCtorEq, q10]
  clear hf2
  have hal := headA_len F tag
  generalize headA F tag = H at g3 hal hK
  simp (disch := omega) only [wu64, wu32, wu8, fdiv_nn, EO, ↓EP, EQ, EM, ↓reduceIte, Za, Zb, Zc, Zd, Ze, Zf, Zg, Zj, Zk, Zl, Zm, Zn, Zp, Zq, reduceCtorEq, W_joinT, k14, q3', q10']
  refine join_cut (fun ρ' w4 => ∃ B, ρ' 14 = B ∧ Gw .u8 w1 w4 B (H ++ lenBytes n)) ?_ ?_
  · intro N1 hN1
    by_cases h128 : (n : Int) < 128
    · have eh : lenBytes n = [(n : Int)] := if_pos (by omega)
      simp (disch := omega) only [wu64, wu32, wu8, fdiv_nn, EO, ↓EP, EQ, EM, ↓reduceIte, Za, Zb, Zc, Zd, Ze, Zf, Zg, Zj, Zk, Zl, Zm, Zn, Zp, Zq, reduceCtorEq, k14, q10']
      refine bsl1 fun w4 n4 => ?_
      simp (disch := omega) only [wu64, wu32, wu8, fdiv_nn, EO, ↓EP, EQ, EM, ↓reduceIte, Za, Zb, Zc, Zd, Ze, Zf, Zg, Zj, Zk, Zl, Zm, Zn, Zp, Zq, reduceCtorEq, k14, q10']
      refine app_num (g3.new n4).sl rfl n4.rdv (by simp; omega) (by omega) fun v5 w5 a5 => ?_
      have g5 := (g3.new n4).apd a5
      rw [← eh] at g5
      simp (disch := omega) only [wu64, wu32, wu8, fdiv_nn, EO, ↓EP, EQ, EM, ↓reduceIte, Za, Zb, Zc, Zd, Ze, Zf, Zg, Zj, Zk, Zl, Zm, Zn, Zp, Zq, reduceCtorEq]
      exact hN1 _ _ ⟨v5, by simp (disch := omega) only [wu64, wu32, wu8, fdiv_nn, EO, ↓EP, EQ, EM, ↓reduceIte, Za, Zb, Zc, Zd, Ze, Zf, Zg, Zj, Zk, Zl, Zm, Zn, Zp, Zq, reduceCtorEq], g5⟩
    · have eh : lenBytes n = [128 + ((bytesBE 4 n).length : Int)] ++ bytesBE 4 n := if_neg (by omega)
      have hbl := be_len 4 n
      have hst := strip_be (n := n) (by omega)
      have e24 : (n : Int) / 16777216 = ((n / 16777216 % 256 : Nat) : Int) := by omega
      have e16 : IntKind.u8.wrap ((n : Int) / 65536) = ((n / 65536 % 256 : Nat) : Int) := by rw [wu8_mod]; omega
      have e8 : IntKind.u8.wrap ((n : Int) / 256) = ((n / 256 % 256 : Nat) : Int) := by rw [wu8_mod]; omega
      have e0 : IntKind.u8.wrap (n : Int) = ((n % 256 : Nat) : Int) := by rw [wu8_mod]; omega
      simp (disch := omega) only [wu64, wu32, wu8, fdiv_nn, EO, ↓EP, EQ, EM, ↓reduceIte, Za, Zb, Zc, Zd, Ze, Zf, Zg, Zj, Zk, Zl, Zm, Zn, Zp, Zq, reduceCtorEq, k14, q10', e24, e16, e8, e0]
      refine bsl4 fun w4 n4 => ?_
      simp (disch := omega) only [wu64, wu32, wu8, fdiv_nn, EO, ↓EP, EQ, EM, ↓reduceIte, Za, Zb, Zc, Zd, Ze, Zf, Zg, Zj, Zk, Zl, Zm, Zn, Zp, Zq, reduceCtorEq, k14, q10']
      refine trim_n (l := [((n / 16777216 % 256 : Nat) : Int), ((n / 65536 % 256 : Nat) : Int), ((n / 256 % 256 : Nat) : Int), ((n % 256 : Nat) : Int)]) (Nat.le_refl _) n4.rdv (by simp) (by simp) hst _ fun A5 c5 hc5 hr5 => ?_
      generalize bytesBE 4 n = S5 at *
      have eo := d8_128or (a := (S5.length : Int)) ⟨by omega, by omega⟩
      have eo2 : (S5.length : Int) % 128 + 128 = 128 + (S5.length : Int) := by omega
      rw [eo2] at eo
      simp (disch := omega) only [wu64, wu32, wu8, fdiv_nn, EO, ↓EP, EQ, EM, ↓reduceIte, Za, Zb, Zc, Zd, Ze, Zf, Zg, Zj, Zk, Zl, Zm, Zn, Zp, Zq, reduceCtorEq, k14, q10', eo]
      refine bsl1 fun w5 n5 => ?_
      simp (disch := omega) only [wu64, wu32, wu8, fdiv_nn, EO, ↓EP, EQ, EM, ↓reduceIte, Za, Zb, Zc, Zd, Ze, Zf, Zg, Zj, Zk, Zl, Zm, Zn, Zp, Zq, reduceCtorEq, k14, q10', eo]
      refine app_num ((g3.new n4).new n5).sl rfl n5.rdv (by simp; omega) (by omega) fun v6 w6 a6 => ?_
      have g6 := ((g3.new n4).new n5).apd a6
      simp (disch := omega) only [wu64, wu32, wu8, fdiv_nn, EO, ↓EP, EQ, EM, ↓reduceIte, Za, Zb, Zc, Zd, Ze, Zf, Zg, Zj, Zk, Zl, Zm, Zn, Zp, Zq, reduceCtorEq, k14]
      refine app_num g6.sl rfl (hr5 w6 (((n4.rdv).nb (n5.fr nob)).fr a6.fr (.inr fun p hp hb => by
        have h1 : p.block < w3.heap.size := g3.sl.lt hb
        have h2 : w3.heap.size = p.block := congrArg Addr.block (Option.some.inj hp)
        omega))) (by simp; omega) (by omega) fun v7 w7 a7 => ?_
      have g7 := g6.apd a7
      rw [List.append_assoc, ← eh] at g7
      simp (disch := omega) only [wu64, wu32, wu8, fdiv_nn, EO, ↓EP, EQ, EM, ↓reduceIte, Za, Zb, Zc, Zd, Ze, Zf, Zg, Zj, Zk, Zl, Zm, Zn, Zp, Zq, reduceCtorEq]
      exact hN1 _ _ ⟨v7, by simp (disch := omega) only [wu64, wu32, wu8, fdiv_nn, EO, ↓EP, EQ, EM, ↓reduceIte, Za, Zb, Zc, Zd, Ze, Zf, Zg, Zj, Zk, Zl, Zm, Zn, Zp, Zq, reduceCtorEq], g7⟩
  rintro ρ3 w4 hf3 ⟨B4, s14, g4⟩
  have s3 : ρ3 3 = .slice A ls.length c := by rw [hf3 3 rfl]; simp (disch := omega) only [wu64, wu32, wu8, fdiv_nn, EO, ↓EP, EQ, EM, ↓reduceIte, Za, Zb, Zc, Zd, Ze, Zf, Zg, Zj, Zk, Zl, Zm, Zn, Zp, Zq, reduceCtorEq, q3']
  clear hf3
  have hll := lenB_len n
  generalize lenBytes n = L5 at *
  simp (disch := omega) only [wu64, wu32, wu8, fdiv_nn, EO, ↓EP, EQ, EM, ↓reduceIte, Za, Zb, Zc, Zd, Ze, Zf, Zg, Zj, Zk, Zl, Zm, Zn, Zp, Zq, reduceCtorEq, s14, s3]
  refine loop_inv (fun t ρ5 w5 => ∃ (j : Nat) (C : Value), ρ5 113 = .int .i64 j ∧ ρ5 14 = C ∧ j ≤ ls.length ∧ t = ls.length - j ∧ Gw .u8 w1 w5 C (H ++ L5 ++ (ls.take j).flatten)) ls.length ⟨0, B4, by simp (disch := omega) only [wu64, wu32, wu8, fdiv_nn, EO, ↓EP, EQ, EM, ↓reduceIte, Za, Zb, Zc, Zd, Ze, Zf, Zg, Zj, Zk, Zl, Zm, Zn, Zp, Zq, reduceCtorEq], by simp (disch := omega) only [wu64, wu32, wu8, fdiv_nn, EO, ↓EP, EQ, EM, ↓reduceIte, Za, Zb, Zc, Zd, Ze, Zf, Zg, Zj, Zk, Zl, Zm, Zn, Zp, Zq, reduceCtorEq, s14], by omega, by omega, by simpa using g4⟩ ?_
  rintro t ρ5 w5 hf5 ⟨j, C, k113, k14', hj2, rfl, G⟩ N5 hN5
  have s111 : ρ5 111 = .slice A ls.length c := by rw [hf5 111 rfl]; simp (disch := omega) only [wu64, wu32, wu8, fdiv_nn, EO, ↓EP, EQ, EM, ↓reduceIte, Za, Zb, Zc, Zd, Ze, Zf, Zg, Zj, Zk, Zl, Zm, Zn, Zp, Zq, reduceCtorEq, s3]
  have s112 : ρ5 112 = .int .i64 ls.length := by rw [hf5 112 rfl]; simp (disch := omega) only [wu64, wu32, wu8, fdiv_nn, EO, ↓EP, EQ, EM, ↓reduceIte, Za, Zb, Zc, Zd, Ze, Zf, Zg, Zj, Zk, Zl, Zm, Zn, Zp, Zq, reduceCtorEq, s3]
  clear hf5
  by_cases hjl2 : (j : Int) < (ls.length : Int)
  · obtain ⟨ad, dA, dc, rfl, _, cj, hdc, hdr⟩ := (hX.nb G.fr).at (i := j) (by omega)
    have hts := tot_succ (ls := ls) (j := j) (by omega)
    have htl := tot_le ls (j + 1)
    have hfl := flat_len ls j
    simp (disch := omega) only [wu64, wu32, wu8, fdiv_nn, EO, ↓EP, EQ, EM, ↓reduceIte, Za, Zb, Zc, Zd, Ze, Zf, Zg, Zj, Zk, Zl, Zm, Zn, Zp, Zq, reduceCtorEq, k113, k14', s111, s112, cj]
    refine app_num G.sl rfl hdr (by simp only [List.length_append]; omega) (by omega) fun v6 w6 a6 => ?_
    have g6 := G.apd a6
    rw [List.append_assoc, ← flat_succ (by omega)] at g6
    simp (disch := omega) only [wu64, wu32, wu8, fdiv_nn, EO, ↓EP, EQ, EM, ↓reduceIte, Za, Zb, Zc, Zd, Ze, Zf, Zg, Zj, Zk, Zl, Zm, Zn, Zp, Zq, reduceCtorEq, k113]
    exact hN5 (ls.length - (j + 1)) _ _ (by omega) ⟨j + 1, v6, by simp (disch := omega) only [wu64, wu32, wu8, fdiv_nn, EO, ↓EP, EQ, EM, ↓reduceIte, Za, Zb, Zc, Zd, Ze, Zf, Zg, Zj, Zk, Zl, Zm, Zn, Zp, Zq, reduceCtorEq, k113, Int.natCast_add], by simp (disch := omega) only [wu64, wu32, wu8, fdiv_nn, EO, ↓EP, EQ, EM, ↓reduceIte, Za, Zb, Zc, Zd, Ze, Zf, Zg, Zj, Zk, Zl, Zm, Zn, Zp, Zq, reduceCtorEq], by omega, rfl, g6⟩
  · have hje : j = ls.length := by omega
    subst hje
    rw [List.take_of_length_le (Nat.le_refl _)] at G
    simp (disch := omega) only [wu64, wu32, wu8, fdiv_nn, EO, ↓EP, EQ, EM, ↓reduceIte, Za, Zb, Zc, Zd, Ze, Zf, Zg, Zj, Zk, Zl, Zm, Zn, Zp, Zq, reduceCtorEq, k113, k14', s112]
    exact hK _ w5 G
end Go.Proofs.YtcgplgpdcfocpaaGreatDoor.Der
end
section
set_option linter.unusedVariables false
set_option linter.unusedSimpArgs false
namespace Go.Proofs.YtcgplgpdcfocpaaGreatDoor.Der
open Go Go.RowKit Go.Proofs Go.Proofs.YtcgplgpdcfocpaaGreatDoor.Eng Go.Proofs.YtcgplgpdcfocpaaGreatDoor.Code
set_option maxRecDepth 100000
attribute [local irreducible] callK S.W opsW scrW scrT
end Go.Proofs.YtcgplgpdcfocpaaGreatDoor.Der
end
section
set_option linter.unusedVariables false
set_option linter.unusedSimpArgs false
namespace Go.Proofs.YtcgplgpdcfocpaaGreatDoor.Der
open Go Go.RowKit Go.Proofs Go.Proofs.YtcgplgpdcfocpaaGreatDoor.Eng Go.Proofs.YtcgplgpdcfocpaaGreatDoor.Code
set_option maxRecDepth 100000
attribute [local irreducible] callK S.W opsW scrW scrT
structure Two (W w : World) (D : Value) (ld : List Int) (R : Value) (lr : List Int) : Prop where
  gd : Gw .u8 W w D ld
  gr : Gw .u8 W w R lr
  ap : ∀ b, blkOf D = some b → blkOf R ≠ some b
theorem Two.step {W w w' : World} {D R : Value} {ld lr : List Int} (t : Two W w D ld R lr) (f : Fr w w' nob) : Two W w' D ld R lr := ⟨t.gd.step f, t.gr.step f, t.ap⟩
end Go.Proofs.YtcgplgpdcfocpaaGreatDoor.Der
end
