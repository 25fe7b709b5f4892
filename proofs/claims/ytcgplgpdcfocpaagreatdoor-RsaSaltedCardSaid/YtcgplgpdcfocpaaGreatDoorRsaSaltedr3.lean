/- RsaSalted: what is used, in one text. -/
import Derived.Test.YtcgplgpdcfocpaaGreatDoorRows
import Derived.Lib.LaidTab
import Derived.Lay
import Derived.Carry
import Derived.Test.YtcgplgpdcfocpaaGreatDoorRsaSaltedr2
set_option linter.unusedVariables false
set_option linter.unusedSimpArgs false
set_option maxRecDepth 100000
open Int renaming reduceAdd → Za, reduceEq → Zb, reduceLE → Zc, reduceLT → Zd, reduceMul → Ze, reduceNeg → Zf, reducePow → Zg, reduceSub → Zj, reduceToNat → Zk
open Nat renaming reduceAdd → Zl, reduceEqDiff → Zm, reduceLT → Zn, reduceLeDiff → Zp, reduceMul → Zq
section
namespace Go.Proofs.YtcgplgpdcfocpaaGreatDoor.Spec
open Go Go.RowKit Go.Proofs Go.Proofs.YtcgplgpdcfocpaaGreatDoor.Eng Go.Proofs.YtcgplgpdcfocpaaGreatDoor.Code
attribute [local irreducible] one
def zeros1 (bs L : Nat) : Nat := if L + 9 ≤ bs then bs - 9 - L else 2 * bs - 9 - L
def zeros2 (bs L : Nat) : Nat := if bs = 128 ∧ 112 ≤ L ∧ L + 9 ≤ 128 then 128 else 0
def lenB (n : Nat) (i : Nat) : Int := IntKind.u8.wrap ((IntKind.u64.wrap (8 * (n : Int))).fdiv (2 ^ (56 - 8 * i)))
def tailF (alg : Int) (m : List Int) : List Int :=
 rest alg m ++ [128] ++ List.replicate (zeros1 (blockI alg) (rest alg m).length) 0 ++ List.replicate (zeros2 (blockI alg) (rest alg m).length) 0 ++ (List.range 8).map (lenB m.length)
def last (alg : Int) (m : List Int) : List Int × List Int :=
 rounds (fun j s => mix alg s (part (blockI alg) (tailF alg m) j)) ((tailF alg m).length / blockI alg) (run alg m)
def w4 (x : Int) : List Int := [IntKind.u8.wrap (x.fdiv 16777216), IntKind.u8.wrap (x.fdiv 65536), IntKind.u8.wrap (x.fdiv 256), IntKind.u8.wrap x]
def v8 (x : Int) : List Int := (List.range 8).map fun k => IntKind.u8.wrap (x.fdiv (2 ^ (56 - 8 * k)))
def outF (alg : Int) (s : List Int × List Int) : List Int :=
 if blockI alg = 64 then (List.range 8).flatMap fun (i : Nat) => w4 (at' s.1 (i : Int)) else (List.range 8).flatMap fun (i : Nat) => v8 (at' s.2 (i : Int))
def dig (alg : Int) (m : List Int) : List Int := (outF alg (last alg m)).take (sizeI alg).toNat
theorem tail_len {alg : Int} (a1 : 1 ≤ alg) (a4 : alg ≤ 4) (m : List Int) : (tailF alg m).length % blockI alg = 0 ∧ (tailF alg m).length ≤ 400 := by
 have hb := blockI_or a1 a4
 have hl := rest_len a1 a4 m
 have hd := div_facts a1 a4 m
 simp only[tailF,List.length_append,List.length_replicate,List.length_map,List.length_range,List.length_cons,List.length_nil]
 generalize (rest alg m).length = L at *
 generalize m.length / blockI alg * blockI alg = Q at *
 generalize blockI alg = bs at *
 unfold zeros1 zeros2
 rcases hb with rfl | rfl <;> split <;> split <;> omega
theorem zero_no {bs L z : Nat} (hb : bs = 64 ∨ bs = 128) (hL : L < bs) (hz : z < zeros1 bs L) : (((L + 1 + z : Nat) : Int) % (bs : Int) = (bs : Int) - 8) = False := by
 apply eq_false
 unfold zeros1 at hz
 rcases hb with rfl | rfl <;> split at hz <;> omega
theorem zero_yes {bs L : Nat} (hb : bs = 64 ∨ bs = 128) (hL : L < bs) : (((L + 1 + zeros1 bs L : Nat) : Int) % (bs : Int) = (bs : Int) - 8) = True := by
 apply eq_true
 unfold zeros1
 rcases hb with rfl | rfl <;> split <;> omega
theorem step_le {bs N j : Nat} (h : bs = 64 ∨ bs = 128) (hN : N % bs = 0) (hj : j * bs < N) : j * bs + bs ≤ N := by rcases h with rfl | rfl <;> omega
theorem step_end {bs N j : Nat} (h : bs = 64 ∨ bs = 128) (hj : j * bs = N) : N / bs = j := by rcases h with rfl | rfl <;> omega
theorem block_spec' {w : World} {hb : Nat} {alg : Int} {ws vs : List Int} {rv : Value} {n : Int} (h : HC w hb alg ws vs rv n) (ha : 1 ≤ alg) (ha' : alg ≤ 4) (hT : Tb w) {A : Option Addr} {c k : Nat} (hk : k = blockI alg) {p : List Int} (hr : Rd w A (nums .u8 p)) (hp : p.length = blockI alg) (K : Value → World → Prop)
  (hK : ∀ w', HC w' hb alg (mix alg (ws, vs) p).1 (mix alg (ws, vs) p).2 rv n → Fr w w' (fun b => b = hb) → K (.tuple #[]) w') : callK Tryz.prog 99 [.pointer (some ⟨hb, 0, none⟩), .slice A k c] w K := by
 subst hk; exact block_spec h ha ha' hT hr hp K hK
theorem hc_one {alg : Int} {ws vs : List Int} {rv : Value} {n : Int} (hr : rv.oneCell' = true) : ∀ u ∈ hc alg ws vs rv n, u.oneCell' = true := by
 intro u hu
 simp only[hc,List.mem_cons,List.mem_append,List.not_mem_nil,or_false] at hu
 rcases hu with rfl | hu | hu | rfl | rfl
 ·rfl
 ·exact nums_one _ _ u hu
 ·exact nums_one _ _ u hu
 ·exact hr
 ·rfl
theorem readn {k : IntKind} {w : World} {v : Value} {l : List Int} (h : Sl k w v l) {n : Nat} (hn : l.length = n) : ∃ A c, v = .slice A n c ∧ n ≤ c ∧ Rd w A (nums k l) := by
 subst hn; obtain ⟨A, c, e, h1, h2, _⟩ := h.read; exact ⟨A, c, e, h1, h2⟩
theorem flat_len {f : Nat → List Int} {n : Nat} (h : ∀ i, (f i).length = n) : ∀ k, ((List.range k).flatMap f).length = k * n
 | 0 => by simp
 | k + 1 => by rw[List.range_succ,List.flatMap_append,List.length_append,flat_len h k]; simp[h]; rw[Nat.add_mul]; omega
theorem flat_succ (f : Nat → List Int) (k : Nat) : (List.range (k + 1)).flatMap f = (List.range k).flatMap f ++ f k := by
 rw[List.range_succ,List.flatMap_append]; simp
theorem map_succ (f : Nat → Int) (k : Nat) : (List.range (k + 1)).map f = (List.range k).map f ++ [f k] := by
 rw[List.range_succ,List.map_append]; simp
theorem out_len {alg : Int} (a1 : 1 ≤ alg) (a4 : alg ≤ 4) (s : List Int × List Int) : (sizeI alg).toNat ≤ (outF alg s).length ∧ (outF alg s).length ≤ 64 := by
 have h1 : ∀ i : Nat, (w4 (at' s.1 (i : Int))).length = 4 := fun i => rfl
 have h2 : ∀ i : Nat, (v8 (at' s.2 (i : Int))).length = 8 := fun i => by simp[v8]
 have c : alg = 1 ∨ alg = 2 ∨ alg = 3 ∨ alg = 4 := by omega
 rcases c with rfl | rfl | rfl | rfl
 ·rw[outF,if_pos (by decide),flat_len h1]; decide
 ·rw[outF,if_pos (by decide),flat_len h1]; decide
 ·rw[outF,if_neg (by decide),flat_len h2]; decide
 ·rw[outF,if_neg (by decide),flat_len h2]; decide
set_option maxHeartbeats 4000000 in
theorem sum_spec {w : World} {hb : Nat} {rv : Value} {alg : Int} {m : List Int} (h : Hsh w hb rv alg m) (hT : Tb w) (hmx : m.length ≤ 16777216) (K : Value → World → Prop)
  (hK : ∀ A c w', (sizeI alg).toNat ≤ c → Sl .u8 w' (.slice A (sizeI alg).toNat c) (dig alg m) → (∀ b, blkOf (.slice A (sizeI alg).toNat c) = some b → w.heap.size ≤ b) → Fr w w' nob → K (.slice A (sizeI alg).toNat c) w') : callK Tryz.prog 72 [.pointer (some ⟨hb, 0, none⟩)] w K := by
 refine call_of Tryz.func72 Code.h72 (by simp[Code.c72]) ?_
 have ha1 := h.a1
 have ha4 := h.a4
 have hi := h.hi
 have hbs := blockI_or ha1 ha4
 have hlt := h.hc.blk.lt
 have hal := h.hc.alg
 have hre := h.hc.rest
 have hn := h.hc.n
 obtain ⟨hd1, hd2⟩ := div_facts ha1 ha4 m
 have hrl := rest_len ha1 ha4 m
 have hsz : 0 < sizeI alg ∧ sizeI alg ≤ 64 := by
  have c : alg = 1 ∨ alg = 2 ∨ alg = 3 ∨ alg = 4 := by omega
  rcases c with rfl | rfl | rfl | rfl <;> decide
 simp(disch:=omega)only[Code.c72,EZ,↓EP,↓reduceIte,Za,Zb,Zc,Zd,Ze,Zf,Zg,Zj,Zk,Zl,Zm,Zn,Zp,Zq,reduceCtorEq,hal]
 refine size_spec alg _ _ ?_
 simp(disch:=omega)only[EZ,↓EP,↓reduceIte,Za,Zb,Zc,Zd,Ze,Zf,Zg,Zj,Zk,Zl,Zm,Zn,Zp,Zq,reduceCtorEq,hal]
 refine h.hc.blk.ldAgg (hc_len h.hc.lw h.hc.lv) ?_
 simp(disch:=omega)only[EZ,↓EP,↓reduceIte,Za,Zb,Zc,Zd,Ze,Zf,Zg,Zj,Zk,Zl,Zm,Zn,Zp,Zq,reduceCtorEq,hal]
 refine al_k (hc 0 (zs 8) (zs 8) (.slice none 0 0) 0) (by kernel_rfl) fun w1 n1 => ?_
 simp(disch:=omega)only[EZ,↓EP,↓reduceIte,Za,Zb,Zc,Zd,Ze,Zf,Zg,Zj,Zk,Zl,Zm,Zn,Zp,Zq,reduceCtorEq,hal]
 obtain ⟨RA, rc, rfl, hrc, hRd, hRb⟩ := h.sl.read
 refine st_whole n1.blk (hc_len h.hc.lw h.hc.lv) rfl (hc_one rfl) fun w2 p2 => ?_
 have s1 := n1.size
 have s2 := p2.size
 have f2 : Fr w w2 nob := (n1.fr nob).trans p2.fr fun b hb e => by omega
 have C2 : HC w2 w.heap.size alg (run alg m).1 (run alg m).2 (.slice RA (rest alg m).length rc) m.length := ⟨p2.blk, h.hc.lw, h.hc.lv⟩
 have H2 := h.hc.fr f2 (fun x => x)
 have T2 := hT.fr f2 (fun x => x) (fun x => x)
 have hal2 := H2.alg
 have hre2 := H2.rest
 have R2 := hRd.fr f2 (.inr fun _ _ x => x)
 simp(disch:=omega)only[EZ,↓EP,↓reduceIte,Za,Zb,Zc,Zd,Ze,Zf,Zg,Zj,Zk,Zl,Zm,Zn,Zp,Zq,reduceCtorEq,hal2]
 refine blocksz_spec alg _ _ ?_
 simp(disch:=omega)only[EZ,↓EP,↓reduceIte,Za,Zb,Zc,Zd,Ze,Zf,Zg,Zj,Zk,Zl,Zm,Zn,Zp,Zq,reduceCtorEq,hre2]
 refine app_num (Sl.nil _ _) rfl R2 (by rw[List.length_nil]; omega) (by omega) fun v3 w3 a3 => ?_
 have G3 := (Gw.nil .u8 w2).apd a3
 rw[List.nil_append] at G3
 simp(disch:=omega)only[EZ,↓EP,↓reduceIte,Za,Zb,Zc,Zd,Ze,Zf,Zg,Zj,Zk,Zl,Zm,Zn,Zp,Zq,reduceCtorEq]
 refine bsl1 fun w4 n4 => ?_
 have G4 := G3.new n4
 simp(disch:=omega)only[EZ,↓EP,↓reduceIte,Za,Zb,Zc,Zd,Ze,Zf,Zg,Zj,Zk,Zl,Zm,Zn,Zp,Zq,reduceCtorEq]
 refine app_num G4.sl rfl n4.rdl (by rw[List.length_cons,List.length_nil]; omega) (by omega) fun v5 w5 a5 => ?_
 have G5 := G4.apd a5
 simp(disch:=omega)only[EZ,↓EP,↓reduceIte,Za,Zb,Zc,Zd,Ze,Zf,Zg,Zj,Zk,Zl,Zm,Zn,Zp,Zq,reduceCtorEq]
 generalize hL : (rest alg m).length = L at *
 have hLb : L < blockI alg := by omega
 clear a3 a5 G3 G4 n4 R2
 refine loop_inv (fun t ρ w' => ∃ (z : Nat) (T : Value), ρ 5 = T ∧ z ≤ zeros1 (blockI alg) L ∧ t = zeros1 (blockI alg) L - z ∧ Gw .u8 w2 w' T (rest alg m ++ [128] ++ List.replicate z 0)) _ ⟨0, v5, by simp only[↓EP,EQ,EM,↓reduceIte,Za,Zb,Zc,Zd,Ze,Zf,Zg,Zj,Zk,Zl,Zm,Zn,Zp,Zq,reduceCtorEq], Nat.zero_le _, rfl, by simpa using G5⟩ ?_
 rintro t ρ w6 hf ⟨z, T, h5, hz, rfl, G6⟩ N hN
 have r0 : ρ 0 = .pointer (some ⟨hb, 0, none⟩) := by rw[hf 0 rfl]; simp only[↓EP,EQ,EM,↓reduceIte,Za,Zb,Zc,Zd,Ze,Zf,Zg,Zj,Zk,Zl,Zm,Zn,Zp,Zq,reduceCtorEq]
 have r3 : ρ 3 = .pointer (some ⟨w.heap.size, 0, none⟩) := by rw[hf 3 rfl]; simp only[↓EP,EQ,EM,↓reduceIte,Za,Zb,Zc,Zd,Ze,Zf,Zg,Zj,Zk,Zl,Zm,Zn,Zp,Zq,reduceCtorEq]
 have r4 : ρ 4 = .int .i64 (blockI alg) := by rw[hf 4 rfl]; simp only[↓EP,EQ,EM,↓reduceIte,Za,Zb,Zc,Zd,Ze,Zf,Zg,Zj,Zk,Zl,Zm,Zn,Zp,Zq,reduceCtorEq]
 clear hf G5
 have hz1 : zeros1 (blockI alg) L ≤ 128 := by unfold zeros1; split <;> omega
 obtain ⟨TA, tc, rfl, htc, hTd⟩ := readn G6.sl (n := L + 1 + z) (by simp[hL]; omega)
 by_cases hzz : z < zeros1 (blockI alg) L
 ·have hcond := zero_no hbs hLb hzz
  simp(disch:=omega)only[EZ,↓EP,↓reduceIte,Za,Zb,Zc,Zd,Ze,Zf,Zg,Zj,Zk,Zl,Zm,Zn,Zp,Zq,reduceCtorEq,h5,r4,hcond]
  refine bsl1 fun w7 n7 => ?_
  have G7 := G6.new n7
  simp(disch:=omega)only[EZ,↓EP,↓reduceIte,Za,Zb,Zc,Zd,Ze,Zf,Zg,Zj,Zk,Zl,Zm,Zn,Zp,Zq,reduceCtorEq,h5,r4]
  refine app_num G7.sl rfl n7.rdl (by simp only[List.length_append,List.length_replicate,List.length_cons,List.length_nil]; omega) (by omega) fun v8 w8 a8 => ?_
  have G8 := G7.apd a8
  simp(disch:=omega)only[EZ,↓EP,↓reduceIte,Za,Zb,Zc,Zd,Ze,Zf,Zg,Zj,Zk,Zl,Zm,Zn,Zp,Zq,reduceCtorEq,h5,r4]
  refine hN _ _ _ (by omega) ⟨z + 1, v8, by simp only[↓EP,EQ,EM,↓reduceIte,Za,Zb,Zc,Zd,Ze,Zf,Zg,Zj,Zk,Zl,Zm,Zn,Zp,Zq,reduceCtorEq], by omega, rfl, ?_⟩
  rw[List.replicate_succ',← List.append_assoc]; exact G8
 have hze : z = zeros1 (blockI alg) L := by omega
 subst hze
 have hcond := zero_yes hbs hLb
 simp(disch:=omega)only[EZ,↓EP,↓reduceIte,Za,Zb,Zc,Zd,Ze,Zf,Zg,Zj,Zk,Zl,Zm,Zn,Zp,Zq,reduceCtorEq,h5,r4,hcond,W_joinT]
 clear hN hcond
 have hre6 := (H2.fr G6.fr (fun x => x)).rest
 refine join_cut (fun ρ' w' => ∃ T : Value, ρ' 5 = T ∧ Gw .u8 w2 w' T (rest alg m ++ [128] ++ List.replicate (zeros1 (blockI alg) L) 0 ++ List.replicate (zeros2 (blockI alg) L) 0)) ?_ ?_
 ·intro N hN
  have stay : zeros2 (blockI alg) L = 0 → ∀ ρ', ρ' 5 = .slice TA (L + 1 + zeros1 (blockI alg) L) tc → endK N ρ' w6 := by
   intro hz2 ρ' h5'
   refine hN _ _ ⟨_, h5', ?_⟩
   rw[hz2,List.replicate_zero,List.append_nil]; exact G6
  rcases hbs with e | e
  ·have e' : (blockI alg : Int) = 64 := by omega
   simp(disch:=omega)only[EZ,↓EP,↓reduceIte,Za,Zb,Zc,Zd,Ze,Zf,Zg,Zj,Zk,Zl,Zm,Zn,Zp,Zq,reduceCtorEq,h5,r4,e']
   exact stay (by rw[zeros2,if_neg (by omega)]) _ (by simp only[↓EP,EQ,EM,↓reduceIte,Za,Zb,Zc,Zd,Ze,Zf,Zg,Zj,Zk,Zl,Zm,Zn,Zp,Zq,reduceCtorEq,h5])
  ·have e' : (blockI alg : Int) = 128 := by omega
   have c : (L : Int) < 112 ∨ ((112 ≤ (L : Int)) ∧ (L : Int) < 120) ∨ 120 ≤ (L : Int) := by omega
   rcases c with c | c | c
   ·simp(disch:=omega)only[EZ,↓EP,↓reduceIte,Za,Zb,Zc,Zd,Ze,Zf,Zg,Zj,Zk,Zl,Zm,Zn,Zp,Zq,reduceCtorEq,h5,r4,r0,e',hre6]
    exact stay (by rw[zeros2,if_neg (by omega)]) _ (by simp only[↓EP,EQ,EM,↓reduceIte,Za,Zb,Zc,Zd,Ze,Zf,Zg,Zj,Zk,Zl,Zm,Zn,Zp,Zq,reduceCtorEq,h5])
   ·have hz3 : zeros1 (blockI alg) L = 119 - L := by rw[zeros1,if_pos (by omega)]; omega
    simp(disch:=omega)only[EZ,↓EP,↓reduceIte,Za,Zb,Zc,Zd,Ze,Zf,Zg,Zj,Zk,Zl,Zm,Zn,Zp,Zq,reduceCtorEq,h5,r4,r0,e',hre6]
    refine appz_num G6.sl (by omega) (by simp only[List.length_append,List.length_replicate,List.length_cons,List.length_nil]; omega) (by omega) fun v7 w7 a7 => ?_
    have G7 := G6.apd a7
    simp(disch:=omega)only[EZ,↓EP,↓reduceIte,Za,Zb,Zc,Zd,Ze,Zf,Zg,Zj,Zk,Zl,Zm,Zn,Zp,Zq,reduceCtorEq]
    refine hN _ _ ⟨v7, by simp only[↓EP,EQ,EM,↓reduceIte,Za,Zb,Zc,Zd,Ze,Zf,Zg,Zj,Zk,Zl,Zm,Zn,Zp,Zq,reduceCtorEq], ?_⟩
    rw[show zeros2 (blockI alg) L = 128 by rw [zeros2, if_pos (by omega)]]; exact G7
   ·have hz3 : zeros1 (blockI alg) L = 247 - L := by rw[zeros1,if_neg (by omega)]; omega
    simp(disch:=omega)only[EZ,↓EP,↓reduceIte,Za,Zb,Zc,Zd,Ze,Zf,Zg,Zj,Zk,Zl,Zm,Zn,Zp,Zq,reduceCtorEq,h5,r4,r0,e',hre6]
    exact stay (by rw[zeros2,if_neg (by omega)]) _ (by simp only[↓EP,EQ,EM,↓reduceIte,Za,Zb,Zc,Zd,Ze,Zf,Zg,Zj,Zk,Zl,Zm,Zn,Zp,Zq,reduceCtorEq,h5])
 rintro ρ7 w7 hf ⟨T7, h57, G7⟩
 have r0' : ρ7 0 = .pointer (some ⟨hb, 0, none⟩) := by rw[hf 0 rfl]; simp only[↓EP,EQ,EM,↓reduceIte,Za,Zb,Zc,Zd,Ze,Zf,Zg,Zj,Zk,Zl,Zm,Zn,Zp,Zq,reduceCtorEq,r0]
 have r3' : ρ7 3 = .pointer (some ⟨w.heap.size, 0, none⟩) := by rw[hf 3 rfl]; simp only[↓EP,EQ,EM,↓reduceIte,Za,Zb,Zc,Zd,Ze,Zf,Zg,Zj,Zk,Zl,Zm,Zn,Zp,Zq,reduceCtorEq,r3]
 have r4' : ρ7 4 = .int .i64 (blockI alg) := by rw[hf 4 rfl]; simp only[↓EP,EQ,EM,↓reduceIte,Za,Zb,Zc,Zd,Ze,Zf,Zg,Zj,Zk,Zl,Zm,Zn,Zp,Zq,reduceCtorEq,r4]
 clear hf h5 r0 r3 r4 G6 hTd hre6
 have hz1 : zeros1 (blockI alg) L + zeros2 (blockI alg) L ≤ 260 := by
  unfold zeros2; split <;> omega
 simp only[↓EP,EQ,EM,↓reduceIte,Za,Zb,Zc,Zd,Ze,Zf,Zg,Zj,Zk,Zl,Zm,Zn,Zp,Zq,reduceCtorEq]
 refine loop_inv (fun t ρ w' => ∃ (k : Nat) (T : Value), ρ 63 = .int .i64 k ∧ ρ 5 = T ∧ k ≤ 8 ∧ t = 8 - k ∧ Gw .u8 w2 w' T (rest alg m ++ [128] ++ List.replicate (zeros1 (blockI alg) L) 0 ++ List.replicate (zeros2 (blockI alg) L) 0 ++ (List.range k).map (lenB m.length))) 8 ⟨0, T7, by simp only[↓EP,EQ,EM,↓reduceIte,Za,Zb,Zc,Zd,Ze,Zf,Zg,Zj,Zk,Zl,Zm,Zn,Zp,Zq,reduceCtorEq], by simp only[↓EP,EQ,EM,↓reduceIte,Za,Zb,Zc,Zd,Ze,Zf,Zg,Zj,Zk,Zl,Zm,Zn,Zp,Zq,reduceCtorEq,h57], Nat.zero_le _, rfl, by simpa using G7⟩ ?_
 rintro t ρ8 w8 hf ⟨k, T8, h63, h58, hk, rfl, G8⟩ N hN
 have r0 : ρ8 0 = .pointer (some ⟨hb, 0, none⟩) := by rw[hf 0 rfl]; simp only[↓EP,EQ,EM,↓reduceIte,Za,Zb,Zc,Zd,Ze,Zf,Zg,Zj,Zk,Zl,Zm,Zn,Zp,Zq,reduceCtorEq,r0']
 have r3 : ρ8 3 = .pointer (some ⟨w.heap.size, 0, none⟩) := by rw[hf 3 rfl]; simp only[↓EP,EQ,EM,↓reduceIte,Za,Zb,Zc,Zd,Ze,Zf,Zg,Zj,Zk,Zl,Zm,Zn,Zp,Zq,reduceCtorEq,r3']
 have r4 : ρ8 4 = .int .i64 (blockI alg) := by rw[hf 4 rfl]; simp only[↓EP,EQ,EM,↓reduceIte,Za,Zb,Zc,Zd,Ze,Zf,Zg,Zj,Zk,Zl,Zm,Zn,Zp,Zq,reduceCtorEq,r4']
 clear hf h57 r0' r3' r4' G7
 have H8 := H2.fr G8.fr (fun x => x)
 have hn8 := H8.n
 by_cases hk8 : (k : Int) < 8
 ·have e2 : min (56 - 8 * (k : Int)).toNat 64 = 56 - 8 * k := by omega
  simp(disch:=omega)only[EZ,↓EP,↓reduceIte,Za,Zb,Zc,Zd,Ze,Zf,Zg,Zj,Zk,Zl,Zm,Zn,Zp,Zq,reduceCtorEq,h63,h58,r0,hn8,e2]
  refine bsl1 fun w9 n9 => ?_
  have G9 := G8.new n9
  simp(disch:=omega)only[EZ,↓EP,↓reduceIte,Za,Zb,Zc,Zd,Ze,Zf,Zg,Zj,Zk,Zl,Zm,Zn,Zp,Zq,reduceCtorEq,h63,h58,r0,hn8,e2]
  refine app_num G9.sl rfl n9.rdl (by simp only[List.length_append,List.length_replicate,List.length_cons,List.length_nil,List.length_map,List.length_range]; omega) (by omega) fun v10 w10 a10 => ?_
  have G10 := G9.apd a10
  simp(disch:=omega)only[EZ,↓EP,↓reduceIte,Za,Zb,Zc,Zd,Ze,Zf,Zg,Zj,Zk,Zl,Zm,Zn,Zp,Zq,reduceCtorEq,h63,h58,r0,hn8,e2]
  refine hN (8 - (k + 1)) _ _ (by omega) ⟨k + 1, v10, by simp(disch:=omega)only[EZ,↓EP,↓reduceIte,Za,Zb,Zc,Zd,Ze,Zf,Zg,Zj,Zk,Zl,Zm,Zn,Zp,Zq,reduceCtorEq,h63,Int.natCast_add], by simp only[↓EP,EQ,EM,↓reduceIte,Za,Zb,Zc,Zd,Ze,Zf,Zg,Zj,Zk,Zl,Zm,Zn,Zp,Zq,reduceCtorEq], by omega, rfl, ?_⟩
  rw[map_succ,← List.append_assoc]; exact G10
 have hke : k = 8 := by omega
 subst hke
 simp(disch:=omega)only[EZ,↓EP,↓reduceIte,Za,Zb,Zc,Zd,Ze,Zf,Zg,Zj,Zk,Zl,Zm,Zn,Zp,Zq,reduceCtorEq,h63,h58,r0]
 clear hN
 rw[← hL] at G8
 have G8 : Gw .u8 w2 w8 T8 (tailF alg m) := G8
 obtain ⟨ht1, ht2⟩ := tail_len ha1 ha4 m
 generalize hTl : (tailF alg m).length = N8 at *
 have C8 := C2.fr G8.fr (fun x => x)
 obtain ⟨TA8, tc8, rfl, htc8, hTd8⟩ := readn G8.sl hTl
 refine loop_inv (fun t ρ w' => ∃ (j : Nat), ρ 7 = .int .i64 ((j * blockI alg : Nat) : Int) ∧ j * blockI alg ≤ N8 ∧ t = N8 - j * blockI alg ∧ HC w' w.heap.size alg (rounds (fun j s => mix alg s (part (blockI alg) (tailF alg m) j)) j (run alg m)).1 (rounds (fun j s => mix alg s (part (blockI alg) (tailF alg m) j)) j (run alg m)).2 (.slice RA L rc) m.length ∧ Fr w8 w' (fun b => b = w.heap.size)) N8 ⟨0, by simp only[↓EP,EQ,EM,↓reduceIte,Za,Zb,Zc,Zd,Ze,Zf,Zg,Zj,Zk,Zl,Zm,Zn,Zp,Zq,reduceCtorEq,Nat.zero_mul], by omega, by omega, C8, Fr.refl _ _⟩ ?_
 rintro t ρ9 w9 hf ⟨j, h7, hj, rfl, C9, f9⟩ N hN
 have r0' : ρ9 0 = .pointer (some ⟨hb, 0, none⟩) := by rw[hf 0 rfl]; simp only[↓EP,EQ,EM,↓reduceIte,Za,Zb,Zc,Zd,Ze,Zf,Zg,Zj,Zk,Zl,Zm,Zn,Zp,Zq,reduceCtorEq,r0]
 have r3' : ρ9 3 = .pointer (some ⟨w.heap.size, 0, none⟩) := by rw[hf 3 rfl]; simp only[↓EP,EQ,EM,↓reduceIte,Za,Zb,Zc,Zd,Ze,Zf,Zg,Zj,Zk,Zl,Zm,Zn,Zp,Zq,reduceCtorEq,r3]
 have r4' : ρ9 4 = .int .i64 (blockI alg) := by rw[hf 4 rfl]; simp only[↓EP,EQ,EM,↓reduceIte,Za,Zb,Zc,Zd,Ze,Zf,Zg,Zj,Zk,Zl,Zm,Zn,Zp,Zq,reduceCtorEq,r4]
 have r5' : ρ9 5 = .slice TA8 N8 tc8 := by rw[hf 5 rfl]; simp only[↓EP,EQ,EM,↓reduceIte,Za,Zb,Zc,Zd,Ze,Zf,Zg,Zj,Zk,Zl,Zm,Zn,Zp,Zq,reduceCtorEq,h58]
 clear hf
 by_cases hjN : ((j * blockI alg : Nat) : Int) < (N8 : Int)
 ·have hjl : j * blockI alg + blockI alg ≤ N8 := step_le hbs ht1 (by omega)
  have hjs : (j + 1) * blockI alg = j * blockI alg + blockI alg := by rw[Nat.add_mul,Nat.one_mul]
  simp(disch:=omega)only[EZ,↓EP,↓reduceIte,Za,Zb,Zc,Zd,Ze,Zf,Zg,Zj,Zk,Zl,Zm,Zn,Zp,Zq,reduceCtorEq,h7,r3',r4',r5']
  have hoff : offA TA8 (fun b => b = w.heap.size) := fun p e h' => by
   have := G8.up p.block (by rw[e]; rfl)
   omega
  have hTd9 := (hTd8.fr f9 (.inr hoff)).subA tc8 (j * blockI alg) (by omega)
  refine block_spec' C9 ha1 ha4 ((T2.fr G8.fr (fun x => x) (fun x => x)).fr f9 (by omega) (by omega)) (by omega) (p := part (blockI alg) (tailF alg m) j) (hTd9.take (blockI alg)) (by rw[part,List.length_take,List.length_drop,hTl]; omega) _ fun w10 C10 f10 => ?_
  simp(disch:=omega)only[EZ,↓EP,↓reduceIte,Za,Zb,Zc,Zd,Ze,Zf,Zg,Zj,Zk,Zl,Zm,Zn,Zp,Zq,reduceCtorEq,h7,r3',r4',r5']
  refine hN (N8 - (j + 1) * blockI alg) _ _ (by omega) ⟨j + 1, ?_, by omega, rfl, C10, f9.trans f10 fun _ _ e => e⟩
  simp(disch:=omega)only[EZ,↓EP,↓reduceIte,Za,Zb,Zc,Zd,Ze,Zf,Zg,Zj,Zk,Zl,Zm,Zn,Zp,Zq,reduceCtorEq,h7,r4']
  rw[hjs,Int.natCast_add]
 have hje : N8 / blockI alg = j := step_end hbs (by omega)
 have hlast : last alg m = rounds (fun j s => mix alg s (part (blockI alg) (tailF alg m) j)) j (run alg m) := by rw[last,hTl,hje]
 rw[← hlast] at C9
 have H9 := H8.fr f9 (by omega)
 have f09 : Fr w w9 nob := (f2.trans G8.fr fun _ _ e => e).trans f9 fun b hb e => by omega
 simp(disch:=omega)only[EZ,↓EP,↓reduceIte,Za,Zb,Zc,Zd,Ze,Zf,Zg,Zj,Zk,Zl,Zm,Zn,Zp,Zq,reduceCtorEq,h7,r0',r3',r4',r5']
 clear hN h7 h63 h58 r0 r3 r4 r5' hTd8 G8 f9 C8 H8 hn8 C2 H2 hal2 hre2
 have hal9 := H9.alg
 have hol := out_len ha1 ha4 (last alg m)
 have fin : ∀ (A : Option Addr) (c : Nat) (w12 : World), Gw .u8 w9 w12 (.slice A (outF alg (last alg m)).length c) (outF alg (last alg m)) → (outF alg (last alg m)).length ≤ c → K (.slice A (sizeI alg).toNat c) w12 := by
  intro A c w12 G hc
  refine hK A c w12 (by omega) (G.sl.cut hol.1 (by omega)) (fun b hb => Nat.le_trans f09.size (G.up b (by cases A with | none => cases hb | some p => exact hb))) (f09.trans G.fr fun _ _ e => e)
 rcases hbs with e | e
 ·have e' : (blockI alg : Int) = 64 := by omega
  refine loop_inv (fun t ρ w' => ∃ (i : Nat) (O : Value), ρ 95 = .int .i64 i ∧ ρ 8 = O ∧ i ≤ 8 ∧ t = 8 - i ∧ Gw .u8 w9 w' O ((List.range i).flatMap fun (i : Nat) => Spec.w4 (at' (last alg m).1 (i : Int)))) 8 ⟨0, .slice none 0 0, by simp only[↓EP,EQ,EM,↓reduceIte,Za,Zb,Zc,Zd,Ze,Zf,Zg,Zj,Zk,Zl,Zm,Zn,Zp,Zq,reduceCtorEq], by simp only[↓EP,EQ,EM,↓reduceIte,Za,Zb,Zc,Zd,Ze,Zf,Zg,Zj,Zk,Zl,Zm,Zn,Zp,Zq,reduceCtorEq], Nat.zero_le _, rfl, Gw.nil _ _⟩ ?_
  rintro t ρ10 w10 hf ⟨i, O, h95, h8, hi8, rfl, G10⟩ N hN
  have r0 : ρ10 0 = .pointer (some ⟨hb, 0, none⟩) := by rw[hf 0 rfl]; simp only[↓EP,EQ,EM,↓reduceIte,Za,Zb,Zc,Zd,Ze,Zf,Zg,Zj,Zk,Zl,Zm,Zn,Zp,Zq,reduceCtorEq,r0']
  have r3 : ρ10 3 = .pointer (some ⟨w.heap.size, 0, none⟩) := by rw[hf 3 rfl]; simp only[↓EP,EQ,EM,↓reduceIte,Za,Zb,Zc,Zd,Ze,Zf,Zg,Zj,Zk,Zl,Zm,Zn,Zp,Zq,reduceCtorEq,r3']
  have r4 : ρ10 4 = .int .i64 (blockI alg) := by rw[hf 4 rfl]; simp only[↓EP,EQ,EM,↓reduceIte,Za,Zb,Zc,Zd,Ze,Zf,Zg,Zj,Zk,Zl,Zm,Zn,Zp,Zq,reduceCtorEq,r4']
  have hgl := flat_len (f := fun (i : Nat) => Spec.w4 (at' (last alg m).1 (i : Int))) (n := 4) (fun _ => rfl) i
  clear hf
  by_cases hi9 : (i : Int) < 8
  ·have C10 := C9.fr G10.fr (fun x => x)
   have hcw := C10.w_ i (by omega)
   simp(disch:=omega)only[EZ,↓EP,↓reduceIte,Za,Zb,Zc,Zd,Ze,Zf,Zg,Zj,Zk,Zl,Zm,Zn,Zp,Zq,reduceCtorEq,W_join,h95,h8,r0,r3,r4,e',hcw]
   intro m1
   have G11 := G10.drewN (1 + m1)
   refine bsl4 fun w11 n11 => ?_
   have G12 := G11.new n11
   simp(disch:=omega)only[EZ,↓EP,↓reduceIte,Za,Zb,Zc,Zd,Ze,Zf,Zg,Zj,Zk,Zl,Zm,Zn,Zp,Zq,reduceCtorEq,h8]
   intro m2
   refine app_num (G12.drewN m2).sl rfl (n11.rdl.drewN m2) (by rw[hgl]; simp only[List.length_cons,List.length_nil]; omega) (by omega) fun v13 w13 a13 => ?_
   have G13 := (G12.drewN m2).apd a13
   simp(disch:=omega)only[EZ,↓EP,↓reduceIte,Za,Zb,Zc,Zd,Ze,Zf,Zg,Zj,Zk,Zl,Zm,Zn,Zp,Zq,reduceCtorEq,h95]
   intro m3
   refine hN (8 - (i + 1)) _ _ (by omega) ⟨i + 1, v13, by simp(disch:=omega)only[EZ,↓EP,↓reduceIte,Za,Zb,Zc,Zd,Ze,Zf,Zg,Zj,Zk,Zl,Zm,Zn,Zp,Zq,reduceCtorEq,h95,Int.natCast_add], by simp only[↓EP,EQ,EM,↓reduceIte,Za,Zb,Zc,Zd,Ze,Zf,Zg,Zj,Zk,Zl,Zm,Zn,Zp,Zq,reduceCtorEq], by omega, rfl, ?_⟩
   rw[flat_succ]; exact G13.drewN m3
  ·have hie : i = 8 := by omega
   subst hie
   have hout : outF alg (last alg m) = (List.range 8).flatMap fun (i : Nat) => Spec.w4 (at' (last alg m).1 (i : Int)) := by rw[outF,if_pos e]
   rw[← hout] at G10
   obtain ⟨OA, oc, rfl, hoc, hOd⟩ := readn G10.sl rfl
   have hal10 := (H9.fr G10.fr (fun x => x)).alg
   simp(disch:=omega)only[EZ,↓EP,↓reduceIte,Za,Zb,Zc,Zd,Ze,Zf,Zg,Zj,Zk,Zl,Zm,Zn,Zp,Zq,reduceCtorEq,h95,h8,r0,hal10]
   refine size_spec alg _ _ ?_
   simp(disch:=omega)only[EZ,↓EP,↓reduceIte,Za,Zb,Zc,Zd,Ze,Zf,Zg,Zj,Zk,Zl,Zm,Zn,Zp,Zq,reduceCtorEq,h95,h8,r0,hal10]
   exact fin OA oc w10 G10 hoc
 ·have e' : (blockI alg : Int) = 128 := by omega
  refine loop_inv (fun t ρ w' => ∃ (i : Nat) (O : Value), ρ 95 = .int .i64 i ∧ ρ 8 = O ∧ i ≤ 8 ∧ t = 8 - i ∧ Gw .u8 w9 w' O ((List.range i).flatMap fun (i : Nat) => v8 (at' (last alg m).2 (i : Int)))) 8 ⟨0, .slice none 0 0, by simp only[↓EP,EQ,EM,↓reduceIte,Za,Zb,Zc,Zd,Ze,Zf,Zg,Zj,Zk,Zl,Zm,Zn,Zp,Zq,reduceCtorEq], by simp only[↓EP,EQ,EM,↓reduceIte,Za,Zb,Zc,Zd,Ze,Zf,Zg,Zj,Zk,Zl,Zm,Zn,Zp,Zq,reduceCtorEq], Nat.zero_le _, rfl, Gw.nil _ _⟩ ?_
  rintro t ρ10 w10 hf ⟨i, O, h95, h8, hi8, rfl, G10⟩ N hN
  have r0 : ρ10 0 = .pointer (some ⟨hb, 0, none⟩) := by rw[hf 0 rfl]; simp only[↓EP,EQ,EM,↓reduceIte,Za,Zb,Zc,Zd,Ze,Zf,Zg,Zj,Zk,Zl,Zm,Zn,Zp,Zq,reduceCtorEq,r0']
  have r3 : ρ10 3 = .pointer (some ⟨w.heap.size, 0, none⟩) := by rw[hf 3 rfl]; simp only[↓EP,EQ,EM,↓reduceIte,Za,Zb,Zc,Zd,Ze,Zf,Zg,Zj,Zk,Zl,Zm,Zn,Zp,Zq,reduceCtorEq,r3']
  have r4 : ρ10 4 = .int .i64 (blockI alg) := by rw[hf 4 rfl]; simp only[↓EP,EQ,EM,↓reduceIte,Za,Zb,Zc,Zd,Ze,Zf,Zg,Zj,Zk,Zl,Zm,Zn,Zp,Zq,reduceCtorEq,r4']
  have hgl := flat_len (f := fun (i : Nat) => v8 (at' (last alg m).2 (i : Int))) (n := 8) (fun _ => by simp[v8]) i
  clear hf
  by_cases hi9 : (i : Int) < 8
  ·simp(disch:=omega)only[EZ,↓EP,↓reduceIte,Za,Zb,Zc,Zd,Ze,Zf,Zg,Zj,Zk,Zl,Zm,Zn,Zp,Zq,reduceCtorEq,W_join,h95,h8,r0,r3,r4,e']
   refine loop_inv (fun t ρ w' => ∃ (k : Nat) (O : Value), ρ 126 = .int .i64 k ∧ ρ 8 = O ∧ k ≤ 8 ∧ t = 8 - k ∧ Gw .u8 w9 w' O (((List.range i).flatMap fun (i : Nat) => v8 (at' (last alg m).2 (i : Int))) ++ (List.range k).map fun k => IntKind.u8.wrap ((at' (last alg m).2 (i : Int)).fdiv (2 ^ (56 - 8 * k))))) 8 ⟨0, O, by simp only[↓EP,EQ,EM,↓reduceIte,Za,Zb,Zc,Zd,Ze,Zf,Zg,Zj,Zk,Zl,Zm,Zn,Zp,Zq,reduceCtorEq], by simp only[↓EP,EQ,EM,↓reduceIte,Za,Zb,Zc,Zd,Ze,Zf,Zg,Zj,Zk,Zl,Zm,Zn,Zp,Zq,reduceCtorEq,h8], Nat.zero_le _, rfl, by simpa using G10⟩ ?_
   rintro t ρ11 w11 hf ⟨k, O', h126, h8', hk8, rfl, G11⟩ N' hN'
   have q3 : ρ11 3 = .pointer (some ⟨w.heap.size, 0, none⟩) := by rw[hf 3 rfl]; simp only[↓EP,EQ,EM,↓reduceIte,Za,Zb,Zc,Zd,Ze,Zf,Zg,Zj,Zk,Zl,Zm,Zn,Zp,Zq,reduceCtorEq,r3]
   have q9 : ρ11 9 = .int .i64 i := by rw[hf 9 rfl]; simp only[↓EP,EQ,EM,↓reduceIte,Za,Zb,Zc,Zd,Ze,Zf,Zg,Zj,Zk,Zl,Zm,Zn,Zp,Zq,reduceCtorEq,h95]
   have q95 : ρ11 95 = .int .i64 i := by rw[hf 95 rfl]; simp only[↓EP,EQ,EM,↓reduceIte,Za,Zb,Zc,Zd,Ze,Zf,Zg,Zj,Zk,Zl,Zm,Zn,Zp,Zq,reduceCtorEq,h95]
   clear hf
   by_cases hk9 : (k : Int) < 8
   ·have e2 : min (56 - 8 * (k : Int)).toNat 64 = 56 - 8 * k := by omega
    have hcv := (C9.fr G11.fr (fun x => x)).v_ i (by omega)
    simp(disch:=omega)only[EZ,↓EP,↓reduceIte,Za,Zb,Zc,Zd,Ze,Zf,Zg,Zj,Zk,Zl,Zm,Zn,Zp,Zq,reduceCtorEq,h126,h8',q3,q9,hcv,e2]
    refine bsl1 fun w12 n12 => ?_
    have G12 := G11.new n12
    simp(disch:=omega)only[EZ,↓EP,↓reduceIte,Za,Zb,Zc,Zd,Ze,Zf,Zg,Zj,Zk,Zl,Zm,Zn,Zp,Zq,reduceCtorEq,h126,h8',q3,q9,hcv,e2]
    refine app_num G12.sl rfl n12.rdl (by rw[List.length_append,hgl]; simp only[List.length_cons,List.length_nil,List.length_map,List.length_range]; omega) (by omega) fun v13 w13 a13 => ?_
    have G13 := G12.apd a13
    simp(disch:=omega)only[EZ,↓EP,↓reduceIte,Za,Zb,Zc,Zd,Ze,Zf,Zg,Zj,Zk,Zl,Zm,Zn,Zp,Zq,reduceCtorEq,h126]
    refine hN' (8 - (k + 1)) _ _ (by omega) ⟨k + 1, v13, by simp(disch:=omega)only[EZ,↓EP,↓reduceIte,Za,Zb,Zc,Zd,Ze,Zf,Zg,Zj,Zk,Zl,Zm,Zn,Zp,Zq,reduceCtorEq,h126,Int.natCast_add], by simp only[↓EP,EQ,EM,↓reduceIte,Za,Zb,Zc,Zd,Ze,Zf,Zg,Zj,Zk,Zl,Zm,Zn,Zp,Zq,reduceCtorEq], by omega, rfl, ?_⟩
    rw[map_succ,← List.append_assoc]; exact G13
   ·have hke : k = 8 := by omega
    subst hke
    simp(disch:=omega)only[EZ,↓EP,↓reduceIte,Za,Zb,Zc,Zd,Ze,Zf,Zg,Zj,Zk,Zl,Zm,Zn,Zp,Zq,reduceCtorEq,h126,q95]
    refine hN (8 - (i + 1)) _ _ (by omega) ⟨i + 1, O', by simp(disch:=omega)only[EZ,↓EP,↓reduceIte,Za,Zb,Zc,Zd,Ze,Zf,Zg,Zj,Zk,Zl,Zm,Zn,Zp,Zq,reduceCtorEq,q95,Int.natCast_add], by simp only[↓EP,EQ,EM,↓reduceIte,Za,Zb,Zc,Zd,Ze,Zf,Zg,Zj,Zk,Zl,Zm,Zn,Zp,Zq,reduceCtorEq,h8'], by omega, rfl, ?_⟩
    rw[flat_succ]; exact G11
  ·have hie : i = 8 := by omega
   subst hie
   have hout : outF alg (last alg m) = (List.range 8).flatMap fun (i : Nat) => v8 (at' (last alg m).2 (i : Int)) := by rw[outF,if_neg (by omega)]
   rw[← hout] at G10
   obtain ⟨OA, oc, rfl, hoc, hOd⟩ := readn G10.sl rfl
   have hal10 := (H9.fr G10.fr (fun x => x)).alg
   simp(disch:=omega)only[EZ,↓EP,↓reduceIte,Za,Zb,Zc,Zd,Ze,Zf,Zg,Zj,Zk,Zl,Zm,Zn,Zp,Zq,reduceCtorEq,h95,h8,r0,hal10]
   refine size_spec alg _ _ ?_
   simp(disch:=omega)only[EZ,↓EP,↓reduceIte,Za,Zb,Zc,Zd,Ze,Zf,Zg,Zj,Zk,Zl,Zm,Zn,Zp,Zq,reduceCtorEq,h95,h8,r0,hal10]
   exact fin OA oc w10 G10 hoc
end Go.Proofs.YtcgplgpdcfocpaaGreatDoor.Spec
end
section
namespace Go.Proofs.YtcgplgpdcfocpaaGreatDoor.Spec
open Go Go.RowKit Go.Proofs Go.Proofs.YtcgplgpdcfocpaaGreatDoor.Eng Go.Proofs.YtcgplgpdcfocpaaGreatDoor.Code
attribute [local irreducible] one
structure LL (w : World) (A : Option Addr) (l : List (List Int)) (hs : List Value) : Prop where
 rd : Rd w A hs
 len : hs.length = l.length
 each : ∀ (i : Nat) (p : List Int) (v : Value), l[i]? = some p → hs[i]? = some v → ∃ (B : Option Addr) (c : Nat), v = .slice B p.length c ∧ p.length ≤ c ∧ Rd w B (nums .u8 p)
theorem LL.fr {w w' : World} {A : Option Addr} {l : List (List Int)} {hs : List Value} (h : LL w A l hs) (f : Fr w w' nob) : LL w' A l hs :=
 ⟨h.rd.fr f (.inr fun _ _ x => x), h.len, fun i p v h1 h2 => by
  obtain ⟨B, c, e, hc, hr⟩ := h.each i p v h1 h2
  exact ⟨B, c, e, hc, hr.fr f (.inr fun _ _ x => x)⟩⟩
theorem rd_ro {k : IntKind} {w : World} {A : Option Addr} {l : List Int} (h : Rd w A (nums k l)) {P : Nat → Prop} (hp : ∀ b, P b → w.heap.size ≤ b) : RO k w A l P := by
 rcases h with h | ⟨p, e, h1, h2⟩
 ·exact .inl (nums_isNil h)
 ·exact .inr ⟨p, e, h1, fun x => by have := hp _ x; omega, h2⟩
def total (l : List (List Int)) : Nat := (l.map List.length).sum
theorem total_take (l : List (List Int)) (k : Nat) : total (l.take k) ≤ total l := by
 induction l generalizing k with
 | nil => simp[total]
 | cons a r ih =>
  cases k with
  | zero => simp[total]
  | succ k => have := ih k; simp only[total,List.take_succ_cons,List.map_cons,List.sum_cons] at *; omega
theorem total_succ {l : List (List Int)} {k : Nat} {p : List Int} (h : l[k]? = some p) : total (l.take (k + 1)) = total (l.take k) + p.length := by
 rw[List.take_add_one,h]
 simp[total]
theorem flat_take {l : List (List Int)} {k : Nat} {p : List Int} (h : l[k]? = some p) : (l.take (k + 1)).flatten = (l.take k).flatten ++ p := by
 rw[List.take_add_one,h]
 simp
theorem flat_total (l : List (List Int)) : l.flatten.length = total l := by simp[total,List.length_flatten]
set_option maxHeartbeats 2000000 in
theorem dsum_spec {w : World} (alg : Int) {A : Option Addr} {c : Nat} {l : List (List Int)} {hs : List Value} (hl : LL w A l hs) (hT : Tb w) (hmx : total l ≤ 16777216) (hn : l.length ≤ 4611686018427387904) (K : Value → World → Prop)
  (hK : 1 ≤ alg → alg ≤ 4 → ∀ B c w', (sizeI alg).toNat ≤ c → Sl .u8 w' (.slice B (sizeI alg).toNat c) (dig alg l.flatten) → (∀ b, blkOf (.slice B (sizeI alg).toNat c) = some b → w.heap.size ≤ b) → Fr w w' nob → K (.tuple #[.slice B (sizeI alg).toNat c, .int .i64 0]) w')
  (hK' : (alg < 1 ∨ 4 < alg) → ∀ w', Fr w w' nob → K (.tuple #[.slice none 0 0, .int .i64 1]) w') : callK Tryz.prog 40 [.int .i64 alg, .slice A l.length c] w K := by
 refine call_of Tryz.func40 Code.h40 (by simp[Code.c40]) ?_
 simp only[Code.c40,↓EP,EQ,EM,↓reduceIte,Za,Zb,Zc,Zd,Ze,Zf,Zg,Zj,Zk,Zl,Zm,Zn,Zp,Zq,reduceCtorEq]
 refine size_spec alg _ _ ?_
 by_cases ha : alg < 1 ∨ 4 < alg
 ·have h0 : sizeI alg = 0 := by unfold sizeI; rw[if_neg (by omega),if_neg (by omega),if_neg (by omega),if_neg (by omega)]
  simp only[↓EP,EQ,EM,↓reduceIte,Za,Zb,Zc,Zd,Ze,Zf,Zg,Zj,Zk,Zl,Zm,Zn,Zp,Zq,reduceCtorEq,h0]
  exact hK' ha w (Fr.refl _ _)
 have ha1 : 1 ≤ alg := by omega
 have ha4 : alg ≤ 4 := by omega
 have hsz : 0 < sizeI alg := by
  have c : alg = 1 ∨ alg = 2 ∨ alg = 3 ∨ alg = 4 := by omega
  rcases c with rfl | rfl | rfl | rfl <;> decide
 simp(disch:=omega)only[EZ,↓EP,↓reduceIte,Za,Zb,Zc,Zd,Ze,Zf,Zg,Zj,Zk,Zl,Zm,Zn,Zp,Zq,reduceCtorEq]
 have getE : ∀ (w' : World) (k : Nat), Fr w w' nob → k < l.length → ∃ ad p B c', A = some ad ∧ l[k]? = some p ∧ w'.cell? (ad.add k) = some (.slice B p.length c') ∧ p.length ≤ c' ∧ Rd w B (nums .u8 p) := by
  intro w' k f hk
  obtain ⟨ad, e, _, hc⟩ := (hl.fr f).rd.get (by rw[hl.len]; omega)
  have hk' : k < hs.length := by rw[hl.len]; exact hk
  obtain ⟨B, c', e1, h1, h2⟩ := hl.each k _ _ (List.getElem?_eq_getElem hk) (List.getElem?_eq_getElem hk')
  refine ⟨ad, _, B, c', e, List.getElem?_eq_getElem hk, ?_, h1, h2⟩
  rw[← e1]; exact hc k _ (List.getElem?_eq_getElem hk')
 refine loop_inv (fun t ρ w' => w' = w ∧ ∃ k : Nat, ρ 18 = .int .i64 k ∧ k ≤ l.length ∧ t = l.length - k ∧ ρ 6 = .int .i64 (total (l.take k))) _ ⟨rfl, 0, by simp only[↓EP,EQ,EM,↓reduceIte,Za,Zb,Zc,Zd,Ze,Zf,Zg,Zj,Zk,Zl,Zm,Zn,Zp,Zq,reduceCtorEq], Nat.zero_le _, rfl, by simp only[↓EP,EQ,EM,↓reduceIte,Za,Zb,Zc,Zd,Ze,Zf,Zg,Zj,Zk,Zl,Zm,Zn,Zp,Zq,reduceCtorEq]; rfl⟩ ?_
 rintro t ρ w' hf ⟨rfl, k, h18, hk, rfl, h6⟩ N hN
 have r0 : ρ 0 = .int .i64 alg := by rw[hf 0 rfl]; simp only[↓EP,EQ,EM,↓reduceIte,Za,Zb,Zc,Zd,Ze,Zf,Zg,Zj,Zk,Zl,Zm,Zn,Zp,Zq,reduceCtorEq]
 have r1 : ρ 1 = .slice A l.length c := by rw[hf 1 rfl]; simp only[↓EP,EQ,EM,↓reduceIte,Za,Zb,Zc,Zd,Ze,Zf,Zg,Zj,Zk,Zl,Zm,Zn,Zp,Zq,reduceCtorEq]
 have r16 : ρ 16 = .slice A l.length c := by rw[hf 16 rfl]; simp only[↓EP,EQ,EM,↓reduceIte,Za,Zb,Zc,Zd,Ze,Zf,Zg,Zj,Zk,Zl,Zm,Zn,Zp,Zq,reduceCtorEq]
 have r17 : ρ 17 = .int .i64 l.length := by rw[hf 17 rfl]; simp only[↓EP,EQ,EM,↓reduceIte,Za,Zb,Zc,Zd,Ze,Zf,Zg,Zj,Zk,Zl,Zm,Zn,Zp,Zq,reduceCtorEq]
 clear hf
 by_cases hkl : (k : Int) < (l.length : Int)
 ·obtain ⟨ad, p, B, c', rfl, hp, hcell, hpc, hpr⟩ := getE w' k (Fr.refl _ _) (by omega)
  have ht := total_succ hp
  have ht2 := total_take l (k + 1)
  simp(disch:=omega)only[EZ,↓EP,↓reduceIte,Za,Zb,Zc,Zd,Ze,Zf,Zg,Zj,Zk,Zl,Zm,Zn,Zp,Zq,reduceCtorEq,h18,r16,r17,h6,hcell]
  refine hN (l.length - (k + 1)) _ _ (by omega) ⟨rfl, k + 1, by simp(disch:=omega)only[EZ,↓EP,↓reduceIte,Za,Zb,Zc,Zd,Ze,Zf,Zg,Zj,Zk,Zl,Zm,Zn,Zp,Zq,reduceCtorEq,h18,Int.natCast_add], by omega, rfl, ?_⟩
  simp(disch:=omega)only[EZ,↓EP,↓reduceIte,Za,Zb,Zc,Zd,Ze,Zf,Zg,Zj,Zk,Zl,Zm,Zn,Zp,Zq,reduceCtorEq,h6,ht,Int.natCast_add]
 simp(disch:=omega)only[EZ,↓EP,↓reduceIte,Za,Zb,Zc,Zd,Ze,Zf,Zg,Zj,Zk,Zl,Zm,Zn,Zp,Zq,reduceCtorEq,h18,r17,r0,r1]
 clear hN h18 h6 r16 r17
 have lt := hT.lt
 refine new_spec alg lt _ (fun _ _ w1 s1 H1 f1 => ?_) (fun h _ _ => absurd h ha)
 simp(disch:=omega)only[EZ,↓EP,↓reduceIte,Za,Zb,Zc,Zd,Ze,Zf,Zg,Zj,Zk,Zl,Zm,Zn,Zp,Zq,reduceCtorEq,r1]
 refine loop_inv (fun t ρ2 w2 => ∃ (k : Nat) (rv : Value), ρ2 39 = .int .i64 k ∧ k ≤ l.length ∧ t = l.length - k ∧ Hsh w2 w'.heap.size rv alg (l.take k).flatten ∧ (∀ b, blkOf rv = some b → w'.heap.size < b) ∧ Fr w' w2 nob) _ ⟨0, .slice none 0 0, by simp only[↓EP,EQ,EM,↓reduceIte,Za,Zb,Zc,Zd,Ze,Zf,Zg,Zj,Zk,Zl,Zm,Zn,Zp,Zq,reduceCtorEq], Nat.zero_le _, rfl, H1, fun b e => (by cases e), f1⟩ ?_
 rintro t ρ2 w2 hf ⟨k2, rv, h39, hk2, rfl, H2, hrv, f2⟩ N2 hN2
 have q9 : ρ2 9 = .pointer (some ⟨w'.heap.size, 0, none⟩) := by rw[hf 9 rfl]; simp only[↓EP,EQ,EM,↓reduceIte,Za,Zb,Zc,Zd,Ze,Zf,Zg,Zj,Zk,Zl,Zm,Zn,Zp,Zq,reduceCtorEq]
 have q37 : ρ2 37 = .slice A l.length c := by rw[hf 37 rfl]; simp only[↓EP,EQ,EM,↓reduceIte,Za,Zb,Zc,Zd,Ze,Zf,Zg,Zj,Zk,Zl,Zm,Zn,Zp,Zq,reduceCtorEq,r1]
 have q38 : ρ2 38 = .int .i64 l.length := by rw[hf 38 rfl]; simp only[↓EP,EQ,EM,↓reduceIte,Za,Zb,Zc,Zd,Ze,Zf,Zg,Zj,Zk,Zl,Zm,Zn,Zp,Zq,reduceCtorEq,r1]
 clear hf
 have hl2 := hl.fr f2
 have T2 := hT.fr f2 (fun x => x) (fun x => x)
 by_cases hkl : (k2 : Int) < (l.length : Int)
 ·obtain ⟨ad, p, B, c', rfl, hp, hcell, hpc, hpr⟩ := getE w2 k2 f2 (by omega)
  have ht := total_succ hp
  have ht2 := total_take l (k2 + 1)
  have htf := flat_total (l.take k2)
  simp(disch:=omega)only[EZ,↓EP,↓reduceIte,Za,Zb,Zc,Zd,Ze,Zf,Zg,Zj,Zk,Zl,Zm,Zn,Zp,Zq,reduceCtorEq,h39,q9,q37,q38,hcell]
  have hro : RO .u8 w2 B p (hP w'.heap.size rv) := (rd_ro hpr (P := hP w'.heap.size rv) fun b e => by
   rcases e with e | e
   ·omega
   ·have := hrv b e; omega).fr (f2.mono fun _ _ e => e.elim)
  refine write_spec H2 T2 hro hpc (by omega) _ fun rv' w3 H3 T3 hrv3 f3 => ?_
  simp(disch:=omega)only[EZ,↓EP,↓reduceIte,Za,Zb,Zc,Zd,Ze,Zf,Zg,Zj,Zk,Zl,Zm,Zn,Zp,Zq,reduceCtorEq,h39]
  refine hN2 (l.length - (k2 + 1)) _ _ (by omega) ⟨k2 + 1, rv', by simp(disch:=omega)only[EZ,↓EP,↓reduceIte,Za,Zb,Zc,Zd,Ze,Zf,Zg,Zj,Zk,Zl,Zm,Zn,Zp,Zq,reduceCtorEq,h39,Int.natCast_add], by omega, rfl, ?_, ?_, ?_⟩
  ·rw[flat_take hp]; exact H3
  ·intro b e
   rcases hrv3 b e with h | h
   ·exact hrv b h
   ·have := H2.hc.blk.lt; omega
  ·refine f2.trans f3 fun b hb e => ?_
   rcases e with e | e
   ·omega
   ·have := hrv b e; omega
 have hke : k2 = l.length := by omega
 subst hke
 rw[List.take_length] at H2
 have htf := flat_total l
 simp(disch:=omega)only[EZ,↓EP,↓reduceIte,Za,Zb,Zc,Zd,Ze,Zf,Zg,Zj,Zk,Zl,Zm,Zn,Zp,Zq,reduceCtorEq,h39,q9,q38]
 refine sum_spec H2 T2 (by omega) _ fun D cc w4 hcc hsl hup f4 => ?_
 simp(disch:=omega)only[EZ,↓EP,↓reduceIte,Za,Zb,Zc,Zd,Ze,Zf,Zg,Zj,Zk,Zl,Zm,Zn,Zp,Zq,reduceCtorEq]
 exact hK ha1 ha4 D cc w4 hcc hsl (fun b e => Nat.le_trans f2.size (hup b e)) (f2.trans f4 fun _ _ e => e)
end Go.Proofs.YtcgplgpdcfocpaaGreatDoor.Spec
end
section
namespace Go.Proofs.YtcgplgpdcfocpaaGreatDoor
open Go Go.ChangeShapes Go.WideShapes Go.ChangeAt Go.WideMaps Go.WideElems Go.RowKit Go.Proofs.YtcgplgpdcfocpaaGreatDoor.Eng Go.Proofs.YtcgplgpdcfocpaaGreatDoor.Spec
def laid2 : List (String × DataW Unit) := [("chirograph/digest.k256", Rows.laid_chirograph_digest_k256), ("chirograph/digest.k512", Rows.laid_chirograph_digest_k512), ("unicode/utf8.acceptRanges", Rows.laid_unicode_utf8_acceptRanges), ("unicode/utf8.first", Rows.laid_unicode_utf8_first)]
theorem lay_shaped (os : Os) : (World.laidAll Tryz.prog os laid2).Shaped Tryz.prog := World.shaped_of_ZipB (by kernel_rfl) (by kernel_rfl)
theorem door_met (os : Os) (args : Array Value) : laidMetH Tryz.prog laid2 ((World.laidAll Tryz.prog os laid2).forCall (fun _ _ => 0) ⟨#[], args, []⟩).memory := by
 rw[MakeChecks.laidMetH_plain _ _ _ (by kernel_rfl)]
 exact laidMet_laidAll _ (by kernel_rfl) (by kernel_rfl)
theorem g0 : Tryz.prog.globalNamed "chirograph/digest.k256" = some 3 := by kernel_rfl
theorem g1 : Tryz.prog.globalNamed "chirograph/digest.k512" = some 4 := by kernel_rfl
theorem t0 : (Tryz.prog.globals[3]?).map (·.type) = some 85 := by kernel_rfl
theorem t1 : (Tryz.prog.globals[4]?).map (·.type) = some 88 := by kernel_rfl
theorem d0 : (Rows.laid_chirograph_digest_k256 : DataW Unit) = .agg (k256.map fun z => .lit (.int .u32 z)) := by kernel_rfl
theorem d1 : (Rows.laid_chirograph_digest_k512 : DataW Unit) = .agg (k512.map fun z => .lit (.int .u64 z)) := by kernel_rfl
theorem tab_cells {H : Type} {enc : TypeId × Value → H} {P : Program} {w : World} {k : IntKind} {t e n base fuel : Nat} {spare : Nat → Bool} {held : Bool} {cs : List Value} {l : List Int} {ps : List MemPlace} (ht : P.underlying t = some (.array n e)) (he : P.underlying e = some (.int k)) (hc : P.cellsOf e = 1)
  (h : DataW.trod enc P w base spare held fuel t cs = some (.agg (l.map fun z => .lit (.int k z)), ps)) {j : Nat} {v : Value} (hv : (nums k l)[j]? = some v) : cs[j]? = some v := by
 obtain ⟨xs, m, rfl, hx, hlen, hn, hel⟩ := DataW.trod_array ht h
 simp only[Prod.mk.injEq,DataW.agg.injEq] at hx
 have hll : l.length = n := by have := congrArg List.length hx.1; simpa [hn] using this
 have hj : j < l.length := by
  have := (List.getElem?_eq_some_iff.1 hv).1
  simpa [nums_length] using this
 have hjx : j < xs.length := by omega
 have h1 := hel j (by omega)
 rw[List.getElem?_eq_getElem hjx,hc,Nat.mul_one] at h1
 obtain ⟨z, e1, e2, _⟩ := DataW.trod_int he h1
 have h3 : l[j] = z := by
  have := congrArg (fun q => q[j]?) hx.1
  simp only[List.getElem?_map,List.getElem?_eq_getElem hjx,List.getElem?_eq_getElem hj,Option.map_some,e2,Option.some.injEq,DataW.lit.injEq,Lit.int.injEq,true_and] at this
  exact this
 have h4 : cs[j]? = some (.int k z) := by
  have := congrArg (fun q => q[0]?) e1
  simpa using this
 rw[h4,← hv,nums_get hj]
 simp[List.getD_eq_getElem?_getD,hj,h3]
theorem of_laid {W : World} (h : laidMetH Tryz.prog laid2 W) : Tb W := by
 rw[MakeChecks.laidMetH_plain _ _ _ (by kernel_rfl)] at h
 obtain ⟨ps, ⟨y0, ty0, cs0, f0, p0, q0, hg0, ht0, hv0, hd0, ⟨y1, ty1, cs1, f1, p1, q1, hg1, ht1, hv1, hd1, _, _⟩, _⟩, _, _⟩ := h
 obtain rfl := Option.some.inj (g0.symm.trans hg0)
 obtain rfl := Option.some.inj (g1.symm.trans hg1)
 obtain rfl := Option.some.inj (t0.symm.trans ht0)
 obtain rfl := Option.some.inj (t1.symm.trans ht1)
 rw[d0] at hd0
 rw[d1] at hd1
 refine ⟨fun j v hj => ?_, fun j v hj => ?_, ?_, ?_⟩
 ·rw[Addr.add_lit,Nat.zero_add,World.var?_cell hg0 hv0 j,← Array.getElem?_toList]
  exact tab_cells Tryz.underlying85 Tryz.underlying50 (by kernel_rfl) hd0 hj
 ·rw[Addr.add_lit,Nat.zero_add,World.var?_cell hg1 hv1 j,← Array.getElem?_toList]
  exact tab_cells Tryz.underlying88 Tryz.underlying60 (by kernel_rfl) hd1 hj
 ·simp only[World.var?,hg1,Option.bind_some] at hv1
  cases hh : W.heap[4]? with
  | none => rw[hh] at hv1; simp at hv1
  | some o => exact (Array.getElem?_eq_some_iff.1 hh).1
 ·simp only[World.var?,hg0,Option.bind_some] at hv0
  cases hh : W.heap[3]? with
  | none => rw[hh] at hv0; simp at hv0
  | some o => exact (Array.getElem?_eq_some_iff.1 hh).1
theorem byte_of {l : List Int} (h : ∀ n ∈ l, (Lit.int .u8 n).wf = true) : ∀ x ∈ l, 0 ≤ x ∧ x < 256 := fun n hn => Row.wf_u8 (h n hn)
end Go.Proofs.YtcgplgpdcfocpaaGreatDoor
end
section
namespace Go.Proofs.YtcgplgpdcfocpaaGreatDoor.Spec
open Go Go.RowKit Go.Proofs Go.Proofs.YtcgplgpdcfocpaaGreatDoor.Eng Go.Proofs.YtcgplgpdcfocpaaGreatDoor.Code
attribute [local irreducible] callK S.W opsW scrW dig
def be4 (i : Nat) : List Int := [((i / 16777216 % 256 : Nat) : Int), ((i / 65536 % 256 : Nat) : Int), ((i / 256 % 256 : Nat) : Int), ((i % 256 : Nat) : Int)]
def blkM (alg : Int) (seed : List Int) (i : Nat) : List Int := dig alg (seed ++ be4 i)
theorem mk_size {alg : Int} (a1 : 1 ≤ alg) (a4 : alg ≤ 4) : 20 ≤ sizeI alg ∧ sizeI alg ≤ 64 := by
 have c : alg = 1 ∨ alg = 2 ∨ alg = 3 ∨ alg = 4 := by omega
 rcases c with rfl | rfl | rfl | rfl <;> decide
theorem dig_len {alg : Int} (a1 : 1 ≤ alg) (a4 : alg ≤ 4) (m : List Int) : (dig alg m).length = (sizeI alg).toNat := by
 have := out_len a1 a4 (last alg m)
 unfold dig
 rw[List.length_take]; omega
theorem two_ll {w w' : World} {A B : Option Addr} {c d : Nat} {p q : List Int} (n : New w w' [.slice A p.length c, .slice B q.length d]) (hc : p.length ≤ c) (hd : q.length ≤ d) (hp : Rd w' A (nums .u8 p)) (hq : Rd w' B (nums .u8 q)) : LL w' (some ⟨w.heap.size, 0, none⟩) [p, q] [.slice A p.length c, .slice B q.length d] := by
 refine ⟨n.rdv, rfl, fun i u v h1 h2 => ?_⟩
 match i, h1, h2 with
 | 0, h1, h2 => simp at h1 h2; subst h1 h2; exact ⟨A, c, rfl, hc, hp⟩
 | 1, h1, h2 => simp at h1 h2; subst h1 h2; exact ⟨B, d, rfl, hd, hq⟩
 | i + 2, h1, h2 => simp at h1
theorem r3_form : ∃ (id : Nat) (o1 o2 o3 o4 : Oper) (R0 R1 R2 : Code), Tryz.f74.body = some (.seq R0 (.block 0 (.loop (.seq (.block 1 (.seq R2 (.seq (.region id #[o1, o2, o3, o4] false) (.cond (.tmp 31) .ret .skip)))) R1)))) ∧
  strS Tryz.prog 32 [] R0 = some (.ops [⟨some 4, none, .mv (.const (.int .i64 0))⟩]) ∧ o1.op = .move (.tmp 0) ∧ o1.guard = none ∧ o1.dst = some 28 ∧ o2.op = .move (.tmp 5) ∧ o2.guard = none ∧ o2.dst = some 29 ∧
  o3.op = .call { callee := .value (.tmp 28), args := #[.tmp 29], argTypes := #[25] } ∧ o3.guard = none ∧ o3.dst = some 30 ∧ o4.op = .unOp .not 4 (.tmp 30) ∧ o4.guard = none ∧ o4.dst = some 31 := by
 exact ⟨_, _, _, _, _, _, _, _, rfl, by kernel_rfl, rfl, rfl, rfl, rfl, rfl, rfl, rfl, rfl, rfl, rfl, rfl, rfl⟩
theorem strF_code {P : Program} {dn : List (Nat × Sc)} {fn : Func} {F : Fun} {c : Go.Code} (h : strF P dn fn = some F) (hb : fn.body = some c) : strS P F.n dn c = some F.code ∧ F.n = fn.ntmps := by
 unfold strF at h
 rw[hb] at h
 simp only at h
 split at h
 ·rename_i s r hs hr
  cases h
  exact ⟨hs, rfl⟩
 ·cases h
theorem env_args (args : List Value) (k : Nat) : envOf ⟨args.toArray ++ Array.replicate k undef, []⟩ = env0 args := by
 funext t
 simp only[envOf,env0,Array.getD_eq_getD_getElem?,List.getD_eq_getElem?_getD]
 rcases Nat.lt_or_ge t args.length with ht | ht
 ·simp[Array.getElem?_append,ht]
 ·simp only[Array.getElem?_append,List.size_toArray]
  rw[if_neg (by omega),List.getElem?_eq_none ht]
  simp only[Array.getElem?_replicate]
  split <;> simp
theorem run_move {P : Program} {o : Oper} {x : Operand} (h : o.op = .move x) (e : Operand → Value) (w : World) (K : Value → World → Prop) (hK : K (e x) w) : runK P o e w K := by
 obtain ⟨d, op, ty, pos, af, gd⟩ := o
 subst h
 exact hK
theorem run_not {P : Program} {o : Oper} {t : TypeId} {x : Operand} {b : Bool} (h : o.op = .unOp .not t x) (e : Operand → Value) (he : e x = .bool b) (w : World) (K : Value → World → Prop) (hK : K (.bool !b) w) : runK P o e w K := by
 obtain ⟨d, op, ty, pos, af, gd⟩ := o
 subst h
 have : (execOp e ⟨d, .unOp .not t x, ty, pos, af, gd⟩).run P w = .ok (.value (.bool !b)) w := by
  simp[execOp,he,go_sem,Op.unary]
 unfold runK
 rw[this]
 exact hK
theorem run_yld {P : Program} {o : Oper} {x y : Operand} {ts : Array TypeId} {l : Nat} {r : Next} (h : o.op = .call { callee := .value x, args := #[y], argTypes := ts }) (e : Operand → Value) (hx : e x = .func (.yield l) #[] #[]) (w : World) (hy : (Instr.yield l #[e y]).run P w = .ok r w) : (execOp e o).run P w = .ok r w := by
 obtain ⟨d, op, ty, pos, af, gd⟩ := o
 subst h
 simp[execOp,hx,go_sem,resolve,invoke,hy]
def YldAt (m : Nat) (P : Program) (l : Nat) (x : Value) (W : World) (R : Ending → World → Prop) : Prop := ∃ fn tmps assign body, (Instr.yield l #[x]).run P W = .ok (.round l fn tmps assign body) W ∧ RoundIn Fence.wide m P l fn tmps assign body W R
def idxOf (v : Value) : Nat := match v with | .int _ n => n.toNat | _ => 0
set_option maxHeartbeats 4000000 in
theorem blk_iter {alg : Int} {seed : List Int} (a1 : 1 ≤ alg) (a4 : alg ≤ 4) (hseed : seed.length ≤ 16777000) {N l ba bs m : Nat} (hN : N ≤ 2147483648) {I : Nat → World → Prop} {Ix : World → Prop} {W0 : World}
  (hbd : ∀ i W, I i W → i < N)
  (hrd : ∀ i W, I i W → W.cell? ⟨ba, 0, none⟩ = some (.int .i64 alg) ∧ (∃ A c, W.cell? ⟨bs, 0, none⟩ = some (.slice A seed.length c) ∧ seed.length ≤ c ∧ Rd W A (nums .u8 seed)) ∧ Tb W)
  (hround : ∀ i W A c W', I i W → Gw .u8 W W' (.slice A (sizeI alg).toNat c) (blkM alg seed i) → YldAt m Tryz.prog l (.slice A (sizeI alg).toNat c) W' fun e W'' => (e = .returned (.bool true) ∧ I (i + 1) W'') ∨ (e = .returned (.bool false) ∧ Ix W''))
  (h0 : I 0 W0) : CallsIn Fence.wide (m + 1) Tryz.prog 74 #[.func (.yield l) #[] #[], .pointer (some ⟨ba, 0, none⟩), .pointer (some ⟨bs, 0, none⟩)] W0 fun e W => (∃ v, e = .returned v) ∧ Ix W := by
 obtain ⟨id, o1, o2, o3, o4, R0, R1, R2, hb, hs0, h1, g1, d1, h2, g2, d2, h3, g3, d3, h4, g4, d4⟩ := r3_form
 obtain ⟨hs, hn⟩ := strF_code Code.h74 hb
 simp only[Code.c74] at hs hn
 obtain ⟨_, _, e, hsa, hs⟩ := inv_seq hs
 cases e
 obtain ⟨_, e, hs⟩ := inv_block hs
 cases e
 obtain ⟨_, e, hs⟩ := inv_loop hs
 cases e
 obtain ⟨_, _, e, hs, hs1⟩ := inv_seq hs
 cases e
 obtain ⟨_, e, hs⟩ := inv_block hs
 cases e
 obtain ⟨_, _, e, hs2, hs⟩ := inv_seq hs
 cases e
 clear hs hs0
 refine callsIn_of_wp Tryz.func74 hb trivial ?_ rfl
 rw[← hn]
 refine wpIn_seq ?_
 refine eng_wide hsa (dfs := []) (by simp) rfl (K := fun e ρ w' => e = .normal ∧ w' = W0 ∧ ρ 0 = .func (.yield l) #[] #[] ∧ ρ 1 = .pointer (some ⟨ba, 0, none⟩) ∧ ρ 2 = .pointer (some ⟨bs, 0, none⟩) ∧ ρ 4 = .int .i64 0) ?_ ?_
 ·rw[show envOf { tmps := #[.func (.yield l) #[] #[],.pointer (some ⟨ba,0,none⟩),.pointer (some ⟨bs,0,none⟩)] ++ Array.replicate (32 - #[Value.func (.yield l) #[] #[],Value.pointer (some ⟨ba,0,none⟩),Value.pointer (some ⟨bs,0,none⟩)].size) undef,defers := [] } = env0 [.func (.yield l) #[] #[],.pointer (some ⟨ba,0,none⟩),.pointer (some ⟨bs,0,none⟩)] from env_args _ _]
  simp(disch:=omega)only[Zu,Zv,Zx,Zz,EZ,↓EP,↓reduceIte,Za,Zb,Zc,Zd,Ze,Zf,Zg,Zj,Zk,Zl,Zm,Zn,Zp,Zq,reduceCtorEq]
 rintro e a w ⟨hsz, hdf, rfl, rfl, e0, e1, e2, e4⟩
 show (Go.Code.block 0 _).wpIn _ _ _ _ _ _
 refine wpIn_block ?_
 refine wpIn_loop (fun a w => a.tmps.size = 32 ∧ a.defers = [] ∧ ∃ i : Nat, I i w ∧ envOf a 0 = .func (.yield l) #[] #[] ∧ envOf a 1 = .pointer (some ⟨ba, 0, none⟩) ∧ envOf a 2 = .pointer (some ⟨bs, 0, none⟩) ∧ envOf a 4 = .int .i64 i) (fun a _ => N - idxOf (envOf a 4)) ⟨hsz, hdf, 0, h0, e0, e1, e2, e4⟩ ?_
 clear hsz hdf e0 e1 e2 e4 h0
 rintro a W ⟨hsz, hdf, i, hI, e0, e1, e2, e4⟩
 have hiN := hbd i W hI
 obtain ⟨c1, ⟨A, c, c2, hc, hr⟩, hT⟩ := hrd i W hI
 have hzz := mk_size a1 a4
 refine wpIn_seq ?_
 refine wpIn_block ?_
 refine wpIn_seq ?_
 refine eng_wide hs2 (dfs := []) hsz hdf (K := fun e ρ w' => e = .normal ∧ ∃ A c, Gw .u8 W w' (.slice A (sizeI alg).toNat c) (blkM alg seed i) ∧ ρ 0 = .func (.yield l) #[] #[] ∧ ρ 1 = .pointer (some ⟨ba, 0, none⟩) ∧ ρ 2 = .pointer (some ⟨bs, 0, none⟩) ∧ ρ 4 = .int .i64 i ∧ ρ 5 = .slice A (sizeI alg).toNat c) ?_ ?_
 ·have e24 : (2 : Int) ^ 24 = 16777216 := rfl
  have e16 : (2 : Int) ^ 16 = 65536 := rfl
  have e8 : (2 : Int) ^ 8 = 256 := rfl
  have w24 : IntKind.u8.wrap ((i : Int) / 16777216) = ((i / 16777216 % 256 : Nat) : Int) := by rw[wu8_mod]; omega
  have w16 : IntKind.u8.wrap ((i : Int) / 65536) = ((i / 65536 % 256 : Nat) : Int) := by rw[wu8_mod]; omega
  have w8 : IntKind.u8.wrap ((i : Int) / 256) = ((i / 256 % 256 : Nat) : Int) := by rw[wu8_mod]; omega
  have w0 : IntKind.u8.wrap (i : Int) = ((i % 256 : Nat) : Int) := by rw[wu8_mod]; omega
  simp(disch:=omega)only[Zu,Zv,Zx,Zz,EZ,↓EP,↓reduceIte,Za,Zb,Zc,Zd,Ze,Zf,Zg,Zj,Zk,Zl,Zm,Zn,Zp,Zq,reduceCtorEq,e0,e1,e2,e4,c1,c2,e24,e16,e8,w24,w16,w8,w0]
  refine bsl4 fun w2 n2 => ?_
  have f2 := n2.fr nob
  simp(disch:=omega)only[Zu,Zv,Zx,Zz,EZ,↓EP,↓reduceIte,Za,Zb,Zc,Zd,Ze,Zf,Zg,Zj,Zk,Zl,Zm,Zn,Zp,Zq,reduceCtorEq]
  refine bslS2 fun w3 n3 => ?_
  have f3 := n3.fr nob
  simp(disch:=omega)only[Zu,Zv,Zx,Zz,EZ,↓EP,↓reduceIte,Za,Zb,Zc,Zd,Ze,Zf,Zg,Zj,Zk,Zl,Zm,Zn,Zp,Zq,reduceCtorEq]
  have L := two_ll (p := seed) (q := be4 i) n3 hc (Nat.le_refl 4) ((hr.nb f2).nb f3) (n2.rdv.nb f3)
  have hfl : [seed, be4 i].flatten = seed ++ be4 i := by simp
  refine dsum_spec alg (l := [seed, be4 i]) L ((hT.fr f2 (fun x => x) (fun x => x)).fr f3 (fun x => x) (fun x => x)) (by simp[total,be4]; omega) (by simp) _ (fun _ _ B d w4 hd s4 u4 f4 => ?_) (fun h => by omega)
  rw[hfl] at s4
  simp(disch:=omega)only[Zu,Zv,Zx,Zz,EZ,↓EP,↓reduceIte,Za,Zb,Zc,Zd,Ze,Zf,Zg,Zj,Zk,Zl,Zm,Zn,Zp,Zq,reduceCtorEq]
  refine ⟨B, d, ⟨s4, fun b e => ?_, (f2.nb f3).nb f4⟩, e0, e1, e2, e4, rfl⟩
  have := u4 b e
  have := (f2.nb f3).size
  omega
 rintro e a' w' ⟨hsz', hdf', rfl, A', c', g, k0, k1, k2, k4, k5⟩
 show (Go.Code.seq _ _).wpIn _ _ _ _ _ _
 refine wpIn_seq ?_
 refine wpIn_region_list ?_
 show wpListIn _ _ _ _ _ [o1, o2, o3, o4] a' w'
 refine wpListIn_plain g1 fun K1 hK1 => ?_
 refine oper_wpIn (ro := none) (by rw[h1]; exact fun _ h => by cases h) (K := fun v w'' => v = .func (.yield l) #[] #[] ∧ w' = w'') (run_move h1 _ _ _ ⟨by rw[eval_env]; exact k0, rfl⟩) ?_
 rintro v w'' ⟨rfl, rfl⟩
 refine hK1 _ _ ?_
 rw[d1]
 have hz1 : (a'.put (some 28) (.func (.yield l) #[] #[])).tmps.size = 32 := by rw[put_size]; exact hsz'
 have v1 := env_put (a := a') (d := 28) (by omega) (.func (.yield l) #[] #[])
 have f1 : (a'.put (some 28) (.func (.yield l) #[] #[])).defers = [] := by rw[put_defers]; exact hdf'
 generalize a'.put (some 28) (.func (.yield l) #[] #[]) = b1 at hz1 v1 f1
 have q5 : envOf b1 5 = .slice A' (sizeI alg).toNat c' := by rw[v1]; exact k5
 refine wpListIn_plain g2 fun K2 hK2 => ?_
 refine oper_wpIn (ro := none) (by rw[h2]; exact fun _ h => by cases h) (K := fun v w'' => v = .slice A' (sizeI alg).toNat c' ∧ w' = w'') (run_move h2 _ _ _ ⟨by rw[eval_env]; exact q5, rfl⟩) ?_
 rintro v w'' ⟨rfl, rfl⟩
 refine hK2 _ _ ?_
 rw[d2]
 have hz2 : (b1.put (some 29) (.slice A' (sizeI alg).toNat c')).tmps.size = 32 := by rw[put_size]; exact hz1
 have v2 := env_put (a := b1) (d := 29) (by omega) (.slice A' (sizeI alg).toNat c')
 have f2 : (b1.put (some 29) (.slice A' (sizeI alg).toNat c')).defers = [] := by rw[put_defers]; exact f1
 generalize b1.put (some 29) (.slice A' (sizeI alg).toNat c') = b2 at hz2 v2 f2
 have q28 : envOf b2 28 = .func (.yield l) #[] #[] := by rw[v2,v1]; rfl
 have q29 : envOf b2 29 = .slice A' (sizeI alg).toNat c' := by rw[v2]; rfl
 have q0 : envOf b2 0 = .func (.yield l) #[] #[] := by rw[v2,v1]; exact k0
 have q1 : envOf b2 1 = .pointer (some ⟨ba, 0, none⟩) := by rw[v2,v1]; exact k1
 have q2 : envOf b2 2 = .pointer (some ⟨bs, 0, none⟩) := by rw[v2,v1]; exact k2
 have q4 : envOf b2 4 = .int .i64 i := by rw[v2,v1]; exact k4
 obtain ⟨fn, tmps, asg, body, hy, hR⟩ := hround i W A' c' w' hI g
 refine wpListIn_plain g3 fun K3 hK3 => ?_
 refine ⟨fun f _ => trivial, ?_⟩
 rw[show o3.semAt Fence.wide.round b2.eval = execOp b2.eval o3 from rfl,run_yld h3 b2.eval (by rw [eval_env]; exact q28) w' (by rw [eval_env]; show (Instr.yield l #[envOf b2 29]).run _ _ = _; rw [q29]; exact hy)]
 rw[Oper.uponIn_round]
 refine ⟨(fun h => by cases h), ?_⟩
 refine hR.mono ?_
 rintro e W'' hW
 have hv : ∃ bb : Bool, e = .returned (.bool bb) ∧ ((bb = true ∧ I (i + 1) W'') ∨ (bb = false ∧ Ix W'')) := by
  rcases hW with ⟨rfl, h⟩ | ⟨rfl, h⟩
  ·exact ⟨true, rfl, .inl ⟨rfl, h⟩⟩
  ·exact ⟨false, rfl, .inr ⟨rfl, h⟩⟩
 obtain ⟨bb, rfl, hbb⟩ := hv
 refine hK3 _ _ ?_
 rw[d3]
 have hz3 : (b2.put (some 30) (.bool bb)).tmps.size = 32 := by rw[put_size]; exact hz2
 have v3 := env_put (a := b2) (d := 30) (by omega) (.bool bb)
 have f3 : (b2.put (some 30) (.bool bb)).defers = [] := by rw[put_defers]; exact f2
 generalize b2.put (some 30) (.bool bb) = b3 at hz3 v3 f3
 have r30 : envOf b3 30 = .bool bb := by rw[v3]; rfl
 refine wpListIn_plain g4 fun K4 hK4 => ?_
 refine oper_wpIn (ro := none) (by rw[h4]; exact fun _ h => by cases h) (K := fun v w'' => v = .bool !bb ∧ W'' = w'') (run_not h4 _ (by rw[eval_env]; exact r30) _ _ ⟨rfl, rfl⟩) ?_
 rintro v w'' ⟨rfl, rfl⟩
 refine hK4 _ _ ?_
 rw[d4]
 have hz4 : (b3.put (some 31) (.bool !bb)).tmps.size = 32 := by rw[put_size]; exact hz3
 have v4 := env_put (a := b3) (d := 31) (by omega) (.bool !bb)
 have f4 : (b3.put (some 31) (.bool !bb)).defers = [] := by rw[put_defers]; exact f3
 generalize b3.put (some 31) (.bool !bb) = b4 at hz4 v4 f4
 have s31 : envOf b4 31 = .bool !bb := by rw[v4]; rfl
 have s0 : envOf b4 0 = .func (.yield l) #[] #[] := by rw[v4,v3]; exact q0
 have s1 : envOf b4 1 = .pointer (some ⟨ba, 0, none⟩) := by rw[v4,v3]; exact q1
 have s2 : envOf b4 2 = .pointer (some ⟨bs, 0, none⟩) := by rw[v4,v3]; exact q2
 have s4 : envOf b4 4 = .int .i64 i := by rw[v4,v3]; exact q4
 show (Go.Code.cond (.tmp 31) .ret .skip).wpIn _ _ _ _ _ _
 refine wpIn_cond (t := !bb) (by rw[eval_env]; exact s31) ?_
 rcases hbb with ⟨rfl, hI2⟩ | ⟨rfl, hx⟩
 ·show Go.Code.skip.wpIn _ _ _ _ _ _
  refine wpIn_skip ?_
  show R1.wpIn _ _ _ _ _ _
  refine eng_wide hs1 (dfs := []) hz4 f4 (K := fun e ρ w' => e = .normal ∧ w' = W'' ∧ ρ 0 = .func (.yield l) #[] #[] ∧ ρ 1 = .pointer (some ⟨ba, 0, none⟩) ∧ ρ 2 = .pointer (some ⟨bs, 0, none⟩) ∧ ρ 4 = .int .i64 ((i + 1 : Nat) : Int)) ?_ ?_
  ·have hi1 := hbd _ _ hI2
   simp(disch:=omega)only[Zu,Zv,Zx,Zz,EZ,↓EP,↓reduceIte,Za,Zb,Zc,Zd,Ze,Zf,Zg,Zj,Zk,Zl,Zm,Zn,Zp,Zq,reduceCtorEq,s4]
   exact ⟨s0, s1, s2, by rw[Int.natCast_add]; rfl⟩
  rintro e a5 w5 ⟨z5, d5, rfl, rfl, t0, t1, t2, t4⟩
  refine ⟨⟨z5, d5, i + 1, hI2, t0, t1, t2, t4⟩, ?_⟩
  show N - idxOf (envOf a5 4) < N - idxOf (envOf a 4)
  rw[t4,e4]
  show N - ((i + 1 : Nat) : Int).toNat < N - (i : Int).toNat
  omega
 ·show Go.Code.ret.wpIn _ _ _ _ _ _
  refine wpIn_ret ?_
  show bodyPost Tryz.prog Tryz.f74 (fun e W => (∃ v, e = Ending.returned v) ∧ Ix W) .ret b4 W''
  obtain ⟨v, hv, _⟩ := results_run (P := Tryz.prog) (fn := Tryz.f74) (a := b4) (w := W'') (l := []) (by rfl) (K := fun _ => True) trivial
  exact ⟨f4, v, hv, ⟨v, rfl⟩, hx⟩
end Go.Proofs.YtcgplgpdcfocpaaGreatDoor.Spec
end
section
namespace Go.Proofs.YtcgplgpdcfocpaaGreatDoor.Spec
open Go Go.RowKit Go.Proofs Go.Proofs.YtcgplgpdcfocpaaGreatDoor.Eng Go.Proofs.YtcgplgpdcfocpaaGreatDoor.Code
attribute [local irreducible] callK S.W opsW scrW dig
def maskL (alg : Int) (seed : List Int) (k : Nat) : List Int := (List.range k).flatMap (blkM alg seed)
def maskR (alg : Int) (seed : List Int) (n : Int) : List Int × Int := if sizeI alg = 0 ∨ n < 0 ∨ 2048 < n then ([], 1) else ((maskL alg seed n.toNat).take n.toNat, 0)
theorem maskL_zero (alg : Int) (seed : List Int) : maskL alg seed 0 = [] := rfl
theorem maskL_succ (alg : Int) (seed : List Int) (k : Nat) : maskL alg seed (k + 1) = maskL alg seed k ++ blkM alg seed k := by
 unfold maskL
 rw[List.range_succ,List.flatMap_append]
 simp
theorem maskL_len {alg : Int} (a1 : 1 ≤ alg) (a4 : alg ≤ 4) (seed : List Int) (k : Nat) : (maskL alg seed k).length = k * (sizeI alg).toNat := by
 induction k with
 | zero => rw[maskL_zero]; simp
 | succ k ih => rw[maskL_succ,List.length_append,ih,Nat.succ_mul]; congr 1; exact dig_len a1 a4 _
theorem maskL_pre (alg : Int) (seed : List Int) (i k : Nat) : ∃ r, maskL alg seed (i + k) = maskL alg seed i ++ r := by
 induction k with
 | zero => exact ⟨[], by simp⟩
 | succ k ih =>
  obtain ⟨r, e⟩ := ih
  exact ⟨r ++ blkM alg seed (i + k), by rw[show i + (k + 1) = (i + k) + 1 by omega, maskL_succ, e, List.append_assoc]⟩
theorem maskL_take {alg : Int} (a1 : 1 ≤ alg) (a4 : alg ≤ 4) (seed : List Int) {i n : Nat} (h : n ≤ (maskL alg seed i).length) : (maskL alg seed i).take n = (maskL alg seed n).take n := by
 have hz := mk_size a1 a4
 have hn : n ≤ (maskL alg seed n).length := by
  rw[maskL_len a1 a4]
  exact Nat.le_mul_of_pos_right _ (by omega)
 rcases Nat.le_total i n with hi | hi
 ·obtain ⟨r, e⟩ := maskL_pre alg seed i (n - i)
  rw[show i + (n - i) = n by omega] at e
  rw[e,List.take_append_of_le_length h]
 ·obtain ⟨r, e⟩ := maskL_pre alg seed n (i - n)
  rw[show n + (i - n) = i by omega] at e
  rw[e,List.take_append_of_le_length hn]
theorem blocks_form : ∃ (id : Nat) (o1 o2 : Oper) (R0 : Code), Tryz.f43.body = some (.seq R0 (.seq (.region id #[o1, o2] false) .ret)) ∧
  strS Tryz.prog 6 [] R0 = some (.ops [⟨some 2, none, .box 3 (.tmp 0)⟩, ⟨some 3, none, .box 25 (.tmp 1)⟩, ⟨some 4, none, .mv (.const .nilFunc)⟩]) ∧
  o1.op = .makeFunc (.func 74) #[] #[.tmp 2, .tmp 3] ∧ o1.guard = none ∧ o1.dst = some 5 ∧ o2.op = .assign (.tmp 5) ∧ o2.guard = none ∧ o2.dst = some 4 := by
 exact ⟨_, _, _, _, rfl, by kernel_rfl, rfl, rfl, rfl, rfl, rfl, rfl⟩
theorem run_mkf {P : Program} {o : Oper} {fn : Fn} {x y : Operand} (h : o.op = .makeFunc fn #[] #[x, y]) (e : Operand → Value) (w : World) (K : Value → World → Prop) (hK : K (.func fn #[] #[e x, e y]) w) : runK P o e w K := by
 obtain ⟨d, op, ty, pos, af, gd⟩ := o
 subst h
 have : (execOp e ⟨d, .makeFunc fn #[] #[x, y], ty, pos, af, gd⟩).run P w = .ok (.value (.func fn #[] #[e x, e y])) w := by
  simp[execOp,go_sem,Instr.makeFunc]
 unfold runK
 rw[this]
 exact hK
theorem run_asg {P : Program} {o : Oper} {x : Operand} (h : o.op = .assign x) (e : Operand → Value) (w : World) (K : Value → World → Prop) (hK : K (e x) w) : runK P o e w K := by
 obtain ⟨d, op, ty, pos, af, gd⟩ := o
 subst h
 exact hK
theorem blocks_k {alg : Int} {A : Option Addr} {n c : Nat} {w : World} {K : Value → World → Prop}
  (hK : ∀ w1 w', New w w1 [.int .i64 alg] → New w1 w' [.slice A n c] → K (.func (.func 74) #[] #[.pointer (some ⟨w.heap.size, 0, none⟩), .pointer (some ⟨w.heap.size + 1, 0, none⟩)]) w') : callK Tryz.prog 43 [.int .i64 alg, .slice A n c] w K := by
 obtain ⟨id, o1, o2, R0, hb, hs0, h1, g1, d1, h2, g2, d2⟩ := blocks_form
 refine call_marks (m := 0) Tryz.func43 hb ?_
 refine wpIn_seq ?_
 refine eng_wide hs0 (dfs := []) (by simp) rfl (K := fun e ρ w' => e = .normal ∧ (∃ w1, New w w1 [.int .i64 alg] ∧ New w1 w' [.slice A n c]) ∧ ρ 2 = .pointer (some ⟨w.heap.size, 0, none⟩) ∧ ρ 3 = .pointer (some ⟨w.heap.size + 1, 0, none⟩)) ?_ ?_
 ·rw[env_args]
  simp(disch:=omega)only[Zu,Zv,Zx,Zz,EZ,↓EP,↓reduceIte,Za,Zb,Zc,Zd,Ze,Zf,Zg,Zj,Zk,Zl,Zm,Zn,Zp,Zq,reduceCtorEq]
  refine al_k [.int .i64 alg] rfl fun w1 n1 => ?_
  simp(disch:=omega)only[Zu,Zv,Zx,Zz,EZ,↓EP,↓reduceIte,Za,Zb,Zc,Zd,Ze,Zf,Zg,Zj,Zk,Zl,Zm,Zn,Zp,Zq,reduceCtorEq]
  refine al_k [.slice A n c] rfl fun w2 n2 => ?_
  simp(disch:=omega)only[Zu,Zv,Zx,Zz,EZ,↓EP,↓reduceIte,Za,Zb,Zc,Zd,Ze,Zf,Zg,Zj,Zk,Zl,Zm,Zn,Zp,Zq,reduceCtorEq]
  exact ⟨⟨w1, n1, n2⟩, by rw[n1.size]⟩
 rintro e a w' ⟨hsz, hdf, rfl, ⟨w1, n1, n2⟩, e2, e3⟩
 show (Go.Code.seq _ _).wpIn _ _ _ _ _ _
 refine wpIn_seq ?_
 refine wpIn_region_list ?_
 show wpListIn _ _ _ _ _ [o1, o2] a w'
 refine wpListIn_plain g1 fun K1 hK1 => ?_
 refine oper_wpIn (ro := none) (by rw[h1]; exact fun _ h => by cases h) (K := fun v w'' => v = .func (.func 74) #[] #[.pointer (some ⟨w.heap.size, 0, none⟩), .pointer (some ⟨w.heap.size + 1, 0, none⟩)] ∧ w' = w'') (run_mkf h1 _ _ _ ⟨by rw[eval_env]; show Value.func _ _ #[envOf a 2, envOf a 3] = _; rw[e2,e3], rfl⟩) ?_
 rintro v w'' ⟨rfl, rfl⟩
 refine hK1 _ _ ?_
 rw[d1]
 generalize hF : Value.func (.func 74) #[] #[.pointer (some ⟨w.heap.size, 0, none⟩), .pointer (some ⟨w.heap.size + 1, 0, none⟩)] = F
 rw[hF] at hK
 have hz1 : (a.put (some 5) F).tmps.size = 6 := by rw[put_size]; exact hsz
 have v1 := env_put (a := a) (d := 5) (by omega) F
 have f1 : (a.put (some 5) F).defers = [] := by rw[put_defers]; exact hdf
 generalize a.put (some 5) F = b1 at hz1 v1 f1
 refine wpListIn_plain g2 fun K2 hK2 => ?_
 refine oper_wpIn (ro := none) (by rw[h2]; exact fun _ h => by cases h) (K := fun v w'' => v = F ∧ w' = w'') (run_asg h2 _ _ _ ⟨by rw[eval_env]; show envOf b1 5 = F; rw[v1]; rfl, rfl⟩) ?_
 rintro v w'' ⟨rfl, rfl⟩
 refine hK2 _ _ ?_
 rw[d2]
 have hz2 : (b1.put (some 4) v).tmps.size = 6 := by rw[put_size]; exact hz1
 have v2 := env_put (a := b1) (d := 4) (by omega) v
 have f2 : (b1.put (some 4) v).defers = [] := by rw[put_defers]; exact f1
 generalize b1.put (some 4) v = b2 at hz2 v2 f2
 show Go.Code.ret.wpIn _ _ _ _ _ _
 refine wpIn_ret ?_
 show LeavesInM _ _ _ _ _ _ b2.defers _ _
 rw[f2]
 obtain ⟨u, hu, e⟩ := results_run (P := Tryz.prog) (fn := Tryz.f43) (a := b2) (w := w') (l := [.inl 4]) (by rfl) (K := fun u => u = v) (by show packV [envOf b2 4] = v; rw[v2]; rfl)
 exact ⟨u, hu, u, rfl, by rw[e]; exact hK w1 w' n1 n2⟩
end Go.Proofs.YtcgplgpdcfocpaaGreatDoor.Spec
end
section
namespace Go.Proofs.YtcgplgpdcfocpaaGreatDoor.Spec
open Go Go.RowKit Go.Proofs Go.Proofs.YtcgplgpdcfocpaaGreatDoor.Eng Go.Proofs.YtcgplgpdcfocpaaGreatDoor.Code
def B32 (a : Int) : BitVec 32 := BitVec.ofInt 32 a
def B64 (a : Int) : BitVec 64 := BitVec.ofInt 64 a
theorem wrapN32 (x : BitVec 32) : IntKind.u32.wrap ((x.toNat : Nat) : Int) = ((x.toNat : Nat) : Int) := Zv (by omega) (by have := x.isLt; omega)
theorem wrapN64 (x : BitVec 64) : IntKind.u64.wrap ((x.toNat : Nat) : Int) = ((x.toNat : Nat) : Int) := Zu (by omega) (by have := x.isLt; omega)
theorem B32_nat (x : BitVec 32) : B32 ((x.toNat : Nat) : Int) = x := by unfold B32; simp
theorem B64_nat (x : BitVec 64) : B64 ((x.toNat : Nat) : Int) = x := by unfold B64; simp
theorem and32_b (a b : Int) : bits .and .u32 a b = (((B32 a &&& B32 b).toNat : Nat) : Int) := wrapN32 _
theorem or32_b (a b : Int) : bits .or .u32 a b = (((B32 a ||| B32 b).toNat : Nat) : Int) := wrapN32 _
theorem xor32_b (a b : Int) : bits .xor .u32 a b = (((B32 a ^^^ B32 b).toNat : Nat) : Int) := wrapN32 _
theorem and64_b (a b : Int) : bits .and .u64 a b = (((B64 a &&& B64 b).toNat : Nat) : Int) := wrapN64 _
theorem or64_b (a b : Int) : bits .or .u64 a b = (((B64 a ||| B64 b).toNat : Nat) : Int) := wrapN64 _
theorem xor64_b (a b : Int) : bits .xor .u64 a b = (((B64 a ^^^ B64 b).toNat : Nat) : Int) := wrapN64 _
theorem not32_b (x : BitVec 32) : B32 4294967295 ^^^ x = ~~~ x := by
 have : B32 4294967295 = BitVec.allOnes 32 := by decide +kernel
 rw[this,BitVec.allOnes_xor]
theorem not64_b (x : BitVec 64) : B64 18446744073709551615 ^^^ x = ~~~ x := by
 have : B64 18446744073709551615 = BitVec.allOnes 64 := by decide +kernel
 rw[this,BitVec.allOnes_xor]
theorem o32_comm (a b : Int) : bits .or .u32 a b = bits .or .u32 b a := by rw[or32_b,or32_b,BitVec.or_comm]
theorem o64_comm (a b : Int) : bits .or .u64 a b = bits .or .u64 b a := by rw[or64_b,or64_b,BitVec.or_comm]
section
variable {n : Nat} (x y z : BitVec n)
theorem bv_ch : (x &&& y) ||| (~~~ x &&& z) = z ^^^ (x &&& (y ^^^ z)) := by
 apply BitVec.eq_of_getLsbD_eq; intro i hi
 simp only[BitVec.getLsbD_or,BitVec.getLsbD_and,BitVec.getLsbD_xor,BitVec.getLsbD_not,hi,decide_true,Bool.true_and]
 cases x.getLsbD i <;> cases y.getLsbD i <;> cases z.getLsbD i <;> rfl
theorem bv_chx : (x &&& y) ^^^ (~~~ x &&& z) = z ^^^ (x &&& (y ^^^ z)) := by
 apply BitVec.eq_of_getLsbD_eq; intro i hi
 simp only[BitVec.getLsbD_or,BitVec.getLsbD_and,BitVec.getLsbD_xor,BitVec.getLsbD_not,hi,decide_true,Bool.true_and]
 cases x.getLsbD i <;> cases y.getLsbD i <;> cases z.getLsbD i <;> rfl
theorem bv_maj : (x &&& y) ||| (x &&& z) ||| (y &&& z) = (x &&& y) ||| (z &&& (x ||| y)) := by
 apply BitVec.eq_of_getLsbD_eq; intro i hi
 simp only[BitVec.getLsbD_or,BitVec.getLsbD_and,BitVec.getLsbD_xor]
 cases x.getLsbD i <;> cases y.getLsbD i <;> cases z.getLsbD i <;> rfl
theorem bv_majx : (x &&& y) ^^^ (x &&& z) ^^^ (y &&& z) = (x &&& y) ||| (z &&& (x ||| y)) := by
 apply BitVec.eq_of_getLsbD_eq; intro i hi
 simp only[BitVec.getLsbD_or,BitVec.getLsbD_and,BitVec.getLsbD_xor]
 cases x.getLsbD i <;> cases y.getLsbD i <;> cases z.getLsbD i <;> rfl
end
theorem ch32 (b c d : Int) : bits .or .u32 (bits .and .u32 b c) (bits .and .u32 (bits .xor .u32 4294967295 b) d) = x32 d (a32 b (x32 c d)) := by
 unfold x32 a32
 simp only[and32_b,or32_b,xor32_b,B32_nat,not32_b,bv_ch]
theorem chx32 (b c d : Int) : bits .xor .u32 (bits .and .u32 b c) (bits .and .u32 (bits .xor .u32 4294967295 b) d) = x32 d (a32 b (x32 c d)) := by
 unfold x32 a32
 simp only[and32_b,or32_b,xor32_b,B32_nat,not32_b,bv_chx]
theorem maj32 (b c d : Int) : bits .or .u32 (bits .or .u32 (bits .and .u32 b c) (bits .and .u32 b d)) (bits .and .u32 c d) = o32 (a32 b c) (a32 d (o32 b c)) := by
 unfold o32 a32
 simp only[and32_b,or32_b,xor32_b,B32_nat,bv_maj]
theorem majx32 (b c d : Int) : bits .xor .u32 (bits .xor .u32 (bits .and .u32 b c) (bits .and .u32 b d)) (bits .and .u32 c d) = o32 (a32 b c) (a32 d (o32 b c)) := by
 unfold o32 a32
 simp only[and32_b,or32_b,xor32_b,B32_nat,bv_majx]
theorem chx64 (b c d : Int) : bits .xor .u64 (bits .and .u64 b c) (bits .and .u64 (bits .xor .u64 18446744073709551615 b) d) = x64 d (a64 b (x64 c d)) := by
 unfold x64 a64
 simp only[and64_b,or64_b,xor64_b,B64_nat,not64_b,bv_chx]
theorem majx64 (b c d : Int) : bits .xor .u64 (bits .xor .u64 (bits .and .u64 b c) (bits .and .u64 b d)) (bits .and .u64 c d) = o64 (a64 b c) (a64 d (o64 b c)) := by
 unfold o64 a64
 simp only[and64_b,or64_b,xor64_b,B64_nat,bv_majx]
theorem word_sum {a b c d : Int} (ha : 0 ≤ a ∧ a < 256) (hb : 0 ≤ b ∧ b < 256) (hc : 0 ≤ c ∧ c < 256) (hd : 0 ≤ d ∧ d < 256) :
  IntKind.u32.wrap (IntKind.u32.wrap (IntKind.u32.wrap (IntKind.u32.wrap (IntKind.u32.wrap a * 16777216) + IntKind.u32.wrap (IntKind.u32.wrap b * 65536)) + IntKind.u32.wrap (IntKind.u32.wrap c * 256)) + IntKind.u32.wrap d) =
   bits .or .u32 (bits .or .u32 (bits .or .u32 (IntKind.u32.wrap (IntKind.u32.wrap a * 16777216)) (IntKind.u32.wrap (IntKind.u32.wrap b * 65536))) (IntKind.u32.wrap (IntKind.u32.wrap c * 256))) (IntKind.u32.wrap d) := by
 have e : ∀ x : Int, 0 ≤ x → x < 4294967296 → IntKind.u32.wrap x = x := fun x h h' => Zv h h'
 rw[e a (by omega) (by omega),e b (by omega) (by omega),e c (by omega) (by omega),e d (by omega) (by omega)]
 rw[e (a * 16777216) (by omega) (by omega),e (b * 65536) (by omega) (by omega),e (c * 256) (by omega) (by omega)]
 rw[e (a * 16777216 + b * 65536) (by omega) (by omega),e (a * 16777216 + b * 65536 + c * 256) (by omega) (by omega),e (a * 16777216 + b * 65536 + c * 256 + d) (by omega) (by omega)]
 have h1 : bits .or .u32 (a * 16777216) (b * 65536) = a * 16777216 + b * 65536 := by
  rw[o32_comm, show a * 16777216 = a * 2 ^ 24 by rfl, or32_add (by omega) (by omega) (by omega) (by omega)]
 have h2 : bits .or .u32 (a * 16777216 + b * 65536) (c * 256) = a * 16777216 + b * 65536 + c * 256 := by
  rw[o32_comm, show a * 16777216 + b * 65536 = (a * 256 + b) * 2 ^ 16 by omega, or32_add (by omega) (by omega) (by omega) (by omega)]
 have h3 : bits .or .u32 (a * 16777216 + b * 65536 + c * 256) d = a * 16777216 + b * 65536 + c * 256 + d := by
  rw[o32_comm, show a * 16777216 + b * 65536 + c * 256 = (a * 65536 + b * 256 + c) * 2 ^ 8 by omega, or32_add (by omega) (by omega) (by omega) (by omega)]
 rw[h1,h2,h3]
theorem byte_in {x b : Int} (hb : 0 ≤ b ∧ b < 256) : o64 (IntKind.u64.wrap (x * 256)) (IntKind.u64.wrap b) = IntKind.u64.wrap (IntKind.u64.wrap (x * 256) + IntKind.u64.wrap b) := by
 unfold o64
 rw[Zu (n := b) (by omega) (by omega),wu64_mod]
 have h1 : x * 256 % 18446744073709551616 = (x % 72057594037927936) * 256 := by omega
 rw[h1]
 have hx : 0 ≤ x % 72057594037927936 ∧ x % 72057594037927936 < 72057594037927936 := by omega
 generalize x % 72057594037927936 = y at hx
 rw[u64_or _ _ (by omega) (by omega) (by omega) (by omega),Zu (by omega) (by omega)]
 have e : (y * 256).toNat = y.toNat * 2 ^ 8 := by omega
 rw[e,nat_or_add _ _ _ (by omega)]
 omega
theorem quiet_draw {P : Program} {f : FuncId} {args : List Value} {w : World} {K : Value → Prop} (v : Value) (h : ∀ w' (K' : Value → World → Prop), (∀ m, K' v (w'.drewN m)) → callK P f args w' K') (hK : K v) : qcallK P f args w K :=
 ⟨v, fun n => h _ _ fun m => ⟨rfl, n + m, by rw[World.drewN_drewN]⟩, hK⟩
theorem left_d (x : Int) (n : Nat) (h0 : 0 < n) (h1 : n < 32) (w : World) (K : Value → World → Prop) (hK : ∀ m, K (.int .u32 (rl32 x n)) (w.drewN m)) : callK Tryz.prog 59 [.int .u32 x, .int .i64 n] w K := by
 refine call_of Tryz.func59 Code.h59 (by simp[Code.c59]) ?_
 simp(disch:=omega)only[EZ,↓EP,↓reduceIte,Za,Zb,Zc,Zd,Ze,Zf,Zg,Zj,Zk,Zl,Zm,Zn,Zp,Zq,reduceCtorEq,Code.c59]
 have e1 : min ((n : Int)).toNat 32 = n := by omega
 have e2 : min (32 - (n : Int)).toNat 32 = (32 - (n : Int)).toNat := by omega
 exact hK
theorem left_q (x n : Int) (h0 : 0 < n) (h1 : n < 32) (w : World) (K : Value → Prop) (hK : K (.int .u32 (rl32 x n))) : qcallK Tryz.prog 59 [.int .u32 x, .int .i64 n] w K := by
 obtain ⟨n, rfl⟩ : ∃ k : Nat, n = k := ⟨n.toNat, by omega⟩
 exact quiet_draw _ (fun w' K' h => left_d x n (by omega) (by omega) w' K' h) hK
theorem right_d (x : Int) (n : Nat) (h0 : 0 < n) (h1 : n < 32) (w : World) (K : Value → World → Prop) (hK : ∀ m, K (.int .u32 (rl32 x (32 - (n : Int)))) (w.drewN m)) : callK Tryz.prog 61 [.int .u32 x, .int .i64 n] w K := by
 refine call_of Tryz.func61 Code.h61 (by simp[Code.c61]) ?_
 simp(disch:=omega)only[EZ,↓EP,↓reduceIte,Za,Zb,Zc,Zd,Ze,Zf,Zg,Zj,Zk,Zl,Zm,Zn,Zp,Zq,reduceCtorEq,Code.c61]
 intro m
 have := hK m
 unfold rl32 at this
 rw[o32_comm, show (32 - (32 - (n : Int))).toNat = n by omega] at this
 exact this
theorem right_q (x n : Int) (h0 : 0 < n) (h1 : n < 32) (w : World) (K : Value → Prop) (hK : K (.int .u32 (rl32 x (32 - n)))) : qcallK Tryz.prog 61 [.int .u32 x, .int .i64 n] w K := by
 obtain ⟨n, rfl⟩ : ∃ k : Nat, n = k := ⟨n.toNat, by omega⟩
 exact quiet_draw _ (fun w' K' h => right_d x n (by omega) (by omega) w' K' h) hK
theorem turn_d (x : Int) (n : Nat) (h0 : 0 < n) (h1 : n < 64) (w : World) (K : Value → World → Prop) (hK : ∀ m, K (.int .u64 (rl64 x (64 - (n : Int)))) (w.drewN m)) : callK Tryz.prog 63 [.int .u64 x, .int .i64 n] w K := by
 refine call_of Tryz.func63 Code.h63 (by simp[Code.c63]) ?_
 simp(disch:=omega)only[EZ,↓EP,↓reduceIte,Za,Zb,Zc,Zd,Ze,Zf,Zg,Zj,Zk,Zl,Zm,Zn,Zp,Zq,reduceCtorEq,Code.c63]
 intro m
 have := hK m
 unfold rl64 at this
 rw[o64_comm, show (64 - (64 - (n : Int))).toNat = n by omega] at this
 exact this
theorem turn_q (x n : Int) (h0 : 0 < n) (h1 : n < 64) (w : World) (K : Value → Prop) (hK : K (.int .u64 (rl64 x (64 - n)))) : qcallK Tryz.prog 63 [.int .u64 x, .int .i64 n] w K := by
 obtain ⟨n, rfl⟩ : ∃ k : Nat, n = k := ⟨n.toNat, by omega⟩
 exact quiet_draw _ (fun w' K' h => turn_d x n (by omega) (by omega) w' K' h) hK
end Go.Proofs.YtcgplgpdcfocpaaGreatDoor.Spec
end
section
namespace Go.Proofs.YtcgplgpdcfocpaaGreatDoor.Spec
open Go Go.RowKit Go.Proofs Go.Proofs.YtcgplgpdcfocpaaGreatDoor.Eng Go.Proofs.YtcgplgpdcfocpaaGreatDoor.Code
theorem at_nat' (l : List Int) (i : Nat) : at' l (i : Int) = l.getD i 0 := by unfold at'; rw[Int.toNat_natCast]
theorem at_setN (l : List Int) (i j : Nat) (x : Int) (hi : i < l.length) : at' (l.set i x) (j : Int) = if i = j then x else at' l (j : Int) := by
 have := at_set l (i : Int) (j : Int) x (by omega) (by omega) (by omega)
 rw[Int.toNat_natCast] at this
 rw[this]
 split <;> split <;> first | rfl | omega
structure Ring (f : Nat → List Int → List Int) : Prop where
 len : ∀ t l, (f t l).length = l.length
 off : ∀ t l (j : Nat), l.length = 16 → j < 16 → j ≠ t % 16 → at' (f t l) (j : Int) = at' l (j : Int)
def wrd (f : Nat → List Int → List Int) (l : List Int) (t : Nat) : Int := at' (rounds f (t + 1) l) ((t % 16 : Nat) : Int)
theorem ring_len {f : Nat → List Int → List Int} (h : Ring f) {l : List Int} (hl : l.length = 16) : ∀ t, (rounds f t l).length = 16
 | 0 => hl
 | t + 1 => by rw[rounds,h.len,ring_len h hl t]
theorem ring_at {f : Nat → List Int → List Int} (h : Ring f) {l : List Int} (hl : l.length = 16) : ∀ (t i : Nat), i < t → t ≤ i + 16 → at' (rounds f t l) ((i % 16 : Nat) : Int) = wrd f l i
 | 0, i, h1, _ => by omega
 | t + 1, i, h1, h2 => by
  by_cases e : i = t
  ·subst e; rfl
  ·rw[rounds,h.off t _ _ (ring_len h hl t) (by omega) (by omega)]
   exact ring_at h hl t i (by omega) (by omega)
theorem ring_first {f : Nat → List Int → List Int} (h : Ring f) {l : List Int} (hl : l.length = 16) : ∀ (t i : Nat), t ≤ i → i < 16 → at' (rounds f t l) (i : Int) = at' l (i : Int)
 | 0, i, _, _ => rfl
 | t + 1, i, h1, h2 => by
  rw[rounds,h.off t _ _ (ring_len h hl t) (by omega) (by omega)]
  exact ring_first h hl t i (by omega) h2
def rowN (f : Nat → Int) (n k : Nat) : List Int := (List.range k).map f ++ List.replicate (n - k) 0
theorem rowN_len (f : Nat → Int) {n k : Nat} (h : k ≤ n) : (rowN f n k).length = n := by simp[rowN]; omega
theorem rowN_at (f : Nat → Int) {n k j : Nat} (h : j < k) : at' (rowN f n k) (j : Int) = f j := by
 rw[at_nat',rowN,List.getD_eq_getElem?_getD,List.getElem?_append_left (by simpa using h)]
 simp[h]
theorem rowN_set (f : Nat → Int) {n k : Nat} (h : k < n) : (rowN f n k).set k (f k) = rowN f n (k + 1) := by
 rw[rowN,rowN,List.set_append_right _ _ (by simp),List.range_succ,List.map_append]
 simp only[List.length_map,List.length_range,Nat.sub_self]
 rw[show n - k = (n - (k + 1)) + 1 by omega, List.replicate_succ, List.set_cons_zero]
 simp
theorem oneW_ring : Ring oneW := by
 refine ⟨oneW_len, fun t l j hl hj hne => ?_⟩
 unfold oneW
 split
 ·rfl
 ·rw[show ((t : Int) % 16).toNat = t % 16 by omega, at_setN _ _ _ _ (by omega), if_neg (by omega)]
theorem oneS_w (s : St) : ∀ t, (rounds oneStep t s).w = rounds oneW t s.w
 | 0 => rfl
 | t + 1 => by rw[rounds,rounds,← oneS_w s t]; rfl
theorem wordsK_at (p : List Int) : ∀ (k : Nat), k ≤ 16 → ∀ i : Nat, i < k → at' (rounds (fun i l => l.set i (wordAt p i)) k (zs 16)) (i : Int) = wordAt p i
 | 0, _, i, h => by omega
 | k + 1, hk, i, h => by
  rw[rounds, at_setN _ _ _ _ (by rw [rounds_len _ (fun n l => by simp)]; simp [zs]; omega)]
  split
  ·rename_i e; rw[e]
  ·exact wordsK_at p k (by omega) i (by omega)
theorem words_at (p : List Int) {i : Nat} (h : i < 16) : at' (words p) (i : Int) = wordAt p i := by
 unfold words; exact wordsK_at p 16 (by omega) i h
def oneWd (p : List Int) (t : Nat) : Int := wrd oneW (words p) t
theorem oneWd_lo {p : List Int} {t : Nat} (h : t < 16) : oneWd p t = wordAt p t := by
 unfold oneWd wrd
 rw[rounds, show t % 16 = t by omega]
 have e : ∀ l, oneW t l = l := fun l => by unfold oneW; rw[if_pos (by omega)]
 rw[e,ring_first oneW_ring (words_len p) t t (by omega) h,words_at p h]
theorem oneWd_hi {p : List Int} {t : Nat} (h : 16 ≤ t) : oneWd p t = rl32 (x32 (x32 (x32 (oneWd p (t - 3)) (oneWd p (t - 8))) (oneWd p (t - 14))) (oneWd p (t - 16))) 1 := by
 have hl := ring_len oneW_ring (words_len p) t
 have g : ∀ d, 0 < d → d ≤ 16 → at' (rounds oneW t (words p)) (((t - d) % 16 : Nat) : Int) = oneWd p (t - d) := fun d h1 h2 => ring_at oneW_ring (words_len p) t (t - d) (by omega) (by omega)
 have g3 := g 3 (by omega) (by omega)
 have g8 := g 8 (by omega) (by omega)
 have g14 := g 14 (by omega) (by omega)
 have g16 := g 16 (by omega) (by omega)
 conv => lhs; unfold oneWd wrd
 rw[rounds, oneW, if_neg (by omega), show ((t : Int) % 16).toNat = t % 16 by omega, at_setN _ _ _ _ (by omega), if_pos rfl]
 rw[show ((t : Int) % 16 + 13) % 16 = ((t - 3) % 16 : Nat) by omega, show ((t : Int) % 16 + 8) % 16 = ((t - 8) % 16 : Nat) by omega, show ((t : Int) % 16 + 2) % 16 = ((t - 14) % 16 : Nat) by omega, show ((t : Int) % 16) = ((t - 16) % 16 : Nat) by omega, g3, g8, g14, g16]
theorem oneWd_step (h p : List Int) (t : Nat) : at' (oneW t (rounds oneStep t (oneInit h p)).w) ((t : Int) % 16) = oneWd p t := by
 rw[oneS_w]
 unfold oneWd wrd
 rw[rounds, show ((t % 16 : Nat) : Int) = (t : Int) % 16 by omega]; rfl
theorem twoW_ring : Ring twoW := by
 refine ⟨twoW_len, fun t l j hl hj hne => ?_⟩
 unfold twoW
 split
 ·rfl
 ·rw[show ((t : Int) % 16).toNat = t % 16 by omega, at_setN _ _ _ _ (by omega), if_neg (by omega)]
theorem twoS_w (s : S32) : ∀ t, (rounds twoStep t s).w = rounds twoW t s.w
 | 0 => rfl
 | t + 1 => by rw[rounds,rounds,← twoS_w s t]; rfl
def twoWd (p : List Int) (t : Nat) : Int := wrd twoW (words p) t
theorem twoWd_lo {p : List Int} {t : Nat} (h : t < 16) : twoWd p t = wordAt p t := by
 unfold twoWd wrd
 rw[rounds, show t % 16 = t by omega]
 have e : ∀ l, twoW t l = l := fun l => by unfold twoW; rw[if_pos (by omega)]
 rw[e,ring_first twoW_ring (words_len p) t t (by omega) h,words_at p h]
theorem s32_turn (a b c d : Int) : s32 a (s32 (s32 b c) d) = s32 (s32 (s32 b c) d) a := by
 unfold s32; rw[Int.add_comm]
theorem twoWd_hi {p : List Int} {t : Nat} (h : 16 ≤ t) : twoWd p t = s32 (s32 (s32 (tn32 (twoWd p (t - 2)) 17 19 10 true) (twoWd p (t - 7))) (tn32 (twoWd p (t - 15)) 7 18 3 true)) (twoWd p (t - 16)) := by
 have hl := ring_len twoW_ring (words_len p) t
 have g : ∀ d, 0 < d → d ≤ 16 → at' (rounds twoW t (words p)) (((t - d) % 16 : Nat) : Int) = twoWd p (t - d) := fun d h1 h2 => ring_at twoW_ring (words_len p) t (t - d) (by omega) (by omega)
 have g2 := g 2 (by omega) (by omega)
 have g7 := g 7 (by omega) (by omega)
 have g15 := g 15 (by omega) (by omega)
 have g16 := g 16 (by omega) (by omega)
 conv => lhs; unfold twoWd wrd
 rw[rounds, twoW, if_neg (by omega), show ((t : Int) % 16).toNat = t % 16 by omega, at_setN _ _ _ _ (by omega), if_pos rfl]
 rw[show ((t : Int) % 16 + 14) % 16 = ((t - 2) % 16 : Nat) by omega, show ((t : Int) % 16 + 9) % 16 = ((t - 7) % 16 : Nat) by omega, show ((t : Int) % 16 + 1) % 16 = ((t - 15) % 16 : Nat) by omega, show ((t : Int) % 16) = ((t - 16) % 16 : Nat) by omega, g2, g7, g15, g16, s32_turn]
theorem twoWd_step (h p : List Int) (t : Nat) : at' (twoW t (rounds twoStep t (twoInit h p)).w) ((t : Int) % 16) = twoWd p t := by
 rw[twoS_w]
 unfold twoWd wrd
 rw[rounds, show ((t % 16 : Nat) : Int) = (t : Int) % 16 by omega]; rfl
theorem wideW_ring : Ring wideW := by
 refine ⟨wideW_len, fun t l j hl hj hne => ?_⟩
 unfold wideW
 split
 ·rfl
 ·rw[show ((t : Int) % 16).toNat = t % 16 by omega, at_setN _ _ _ _ (by omega), if_neg (by omega)]
theorem wideS_w (s : S64) : ∀ t, (rounds wideStep t s).w = rounds wideW t s.w
 | 0 => rfl
 | t + 1 => by rw[rounds,rounds,← wideS_w s t]; rfl
def wideWd (p : List Int) (t : Nat) : Int := wrd wideW (wwords p) t
def wpart (p : List Int) (t : Nat) : Nat → Int
 | 0 => 0
 | i + 1 => IntKind.u64.wrap (IntKind.u64.wrap (wpart p t i * 256) + IntKind.u64.wrap (at' p ((8 * t + i : Nat) : Int)))
def byteL (p : List Int) : Prop := ∀ i : Nat, 0 ≤ at' p (i : Int) ∧ at' p (i : Int) < 256
theorem wwords_at {p : List Int} (hb : byteL p) : ∀ (k : Nat), k ≤ 128 → ∀ i : Nat, i < 16 → at' (rounds (wwStep p) k (zs 16)) (i : Int) = wpart p i (min (k - 8 * i) 8)
 | 0, _, i, h => by
  rw[show min (0 - 8 * i) 8 = 0 by omega, rounds, at_nat']
  simp[zs,wpart,h,List.getD_eq_getElem?_getD,-List.reduceReplicate]
 | k + 1, hk, i, h => by
  have ih := wwords_at hb k (by omega)
  rw[rounds, wwStep, show ((k : Int) / 8).toNat = k / 8 by omega, at_setN _ _ _ _ (by rw [wwr_len]; omega)]
  split
  ·rename_i e
   subst e
   rw[show (k : Int) / 8 = (k / 8 : Nat) by omega, ih (k / 8) (by omega), byte_in (hb k), show min (k + 1 - 8 * (k / 8)) 8 = (k % 8) + 1 by omega, show min (k - 8 * (k / 8)) 8 = k % 8 by omega, wpart, show 8 * (k / 8) + k % 8 = k by omega]
  ·rw[ih i h]
   congr 1; omega
theorem wideWd_lo {p : List Int} (hb : byteL p) {t : Nat} (h : t < 16) : wideWd p t = wpart p t 8 := by
 unfold wideWd wrd
 rw[rounds, show t % 16 = t by omega]
 have e : ∀ l, wideW t l = l := fun l => by unfold wideW; rw[if_pos (by omega)]
 rw[e,ring_first wideW_ring (wwords_len p) t t (by omega) h]
 unfold wwords
 rw[wwords_at hb 128 (by omega) t h, show min (128 - 8 * t) 8 = 8 by omega]
theorem s64_turn (a b c d : Int) : s64 a (s64 (s64 b c) d) = s64 (s64 (s64 b c) d) a := by
 unfold s64; rw[Int.add_comm]
theorem wideWd_hi {p : List Int} {t : Nat} (h : 16 ≤ t) : wideWd p t = s64 (s64 (s64 (tn64 (wideWd p (t - 2)) 19 61 6 true) (wideWd p (t - 7))) (tn64 (wideWd p (t - 15)) 1 8 7 true)) (wideWd p (t - 16)) := by
 have hl := ring_len wideW_ring (wwords_len p) t
 have g : ∀ d, 0 < d → d ≤ 16 → at' (rounds wideW t (wwords p)) (((t - d) % 16 : Nat) : Int) = wideWd p (t - d) := fun d h1 h2 => ring_at wideW_ring (wwords_len p) t (t - d) (by omega) (by omega)
 have g2 := g 2 (by omega) (by omega)
 have g7 := g 7 (by omega) (by omega)
 have g15 := g 15 (by omega) (by omega)
 have g16 := g 16 (by omega) (by omega)
 conv => lhs; unfold wideWd wrd
 rw[rounds, wideW, if_neg (by omega), show ((t : Int) % 16).toNat = t % 16 by omega, at_setN _ _ _ _ (by omega), if_pos rfl]
 rw[show ((t : Int) % 16 + 14) % 16 = ((t - 2) % 16 : Nat) by omega, show ((t : Int) % 16 + 9) % 16 = ((t - 7) % 16 : Nat) by omega, show ((t : Int) % 16 + 1) % 16 = ((t - 15) % 16 : Nat) by omega, show ((t : Int) % 16) = ((t - 16) % 16 : Nat) by omega, g2, g7, g15, g16, s64_turn]
theorem wideWd_step (h p : List Int) (t : Nat) : at' (wideW t (rounds wideStep t (wideInit h p)).w) ((t : Int) % 16) = wideWd p t := by
 rw[wideS_w]
 unfold wideWd wrd
 rw[rounds, show ((t % 16 : Nat) : Int) = (t : Int) % 16 by omega]; rfl
end Go.Proofs.YtcgplgpdcfocpaaGreatDoor.Spec
end
section
namespace Go.Proofs.YtcgplgpdcfocpaaGreatDoor.Spec
open Go Go.RowKit Go.Proofs Go.Proofs.YtcgplgpdcfocpaaGreatDoor.Eng Go.Proofs.YtcgplgpdcfocpaaGreatDoor.Code
attribute [local irreducible] callK S.W opsW scrW one
def zT (bs n : Nat) : Nat := zeros1 bs (n % bs) + zeros2 bs (n % bs)
def zA (bs n : Nat) : Nat := zT bs n - (bs / 8 - 8)
def fillF (bs : Nat) (m : List Int) : List Int := m ++ [128] ++ List.replicate (zT bs m.length) 0 ++ (List.range 8).map (lenB m.length)
def gB (r n j : Nat) : Int := if (r : Int) - 1 - j < 8 then lenB n (j - (r - 8)) else 0
theorem gB_all {r : Nat} (h : r = 8 ∨ r = 16) (n : Nat) : (List.range r).map (gB r n) = List.replicate (r - 8) 0 ++ (List.range 8).map (lenB n) := by
 rcases h with rfl | rfl <;> rfl
theorem zA_no {bs n z : Nat} (h : bs = 64 ∨ bs = 128) (hz : z < zA bs n) : (((n + 1 + z : Nat) : Int) + (bs / 8 : Nat)) % (bs : Int) ≠ 0 := by
 unfold zA zT zeros1 zeros2 at hz
 rcases h with rfl | rfl <;> split at hz <;> split at hz <;> omega
theorem zA_yes {bs n : Nat} (h : bs = 64 ∨ bs = 128) : (((n + 1 + zA bs n : Nat) : Int) + (bs / 8 : Nat)) % (bs : Int) = 0 := by
 unfold zA zT zeros1 zeros2
 rcases h with rfl | rfl <;> split <;> split <;> omega
theorem zA_le {bs n : Nat} (h : bs = 64 ∨ bs = 128) : zA bs n ≤ 260 ∧ zA bs n + (bs / 8 - 8) = zT bs n := by
 unfold zA zT zeros1 zeros2
 rcases h with rfl | rfl <;> split <;> split <;> omega
theorem fill_len {bs : Nat} (h : bs = 64 ∨ bs = 128) (m : List Int) : (fillF bs m).length % bs = 0 ∧ (fillF bs m).length ≤ m.length + 300 ∧ 0 < (fillF bs m).length := by
 simp only[fillF,List.length_append,List.length_replicate,List.length_map,List.length_range,List.length_cons,List.length_nil]
 unfold zT zeros1 zeros2
 rcases h with rfl | rfl <;> split <;> split <;> omega
set_option maxHeartbeats 1000000 in
theorem filled_vw {w : World} {v : Value} {m : List Int} {bs : Nat} (hv : Vw .u8 w v m) (hb : bs = 64 ∨ bs = 128) (hm : m.length ≤ 16777216) (K : Value → World → Prop)
  (hK : ∀ v' w', Gw .u8 w w' v' (fillF bs m) → K v' w') : callK Tryz.prog 32 [v, .int .i64 bs] w K := by
 obtain ⟨A, c, rfl, hc, hr⟩ := hv
 refine call_of Tryz.func32 Code.h32 (by simp[Code.c32]) ?_
 simp(disch:=omega)only[EZ,↓EP,↓reduceIte,Za,Zb,Zc,Zd,Ze,Zf,Zg,Zj,Zk,Zl,Zm,Zn,Zp,Zq,reduceCtorEq,Code.c32]
 have er : (bs : Int) / 8 = ((bs / 8 : Nat) : Int) := by omega
 have hr8 : bs / 8 = 8 ∨ bs / 8 = 16 := by omega
 obtain ⟨hz1, hz2⟩ := zA_le (n := m.length) hb
 refine al_k (nums .u8 []) rfl fun w1 n1 => ?_
 have g1 : Gw .u8 w w1 (.slice (some ⟨w.heap.size, 0, none⟩) 0 0) [] := ⟨n1.sl, fun b e => by cases e; exact Nat.le_refl _, n1.fr nob⟩
 simp(disch:=omega)only[EZ,↓EP,↓reduceIte,Za,Zb,Zc,Zd,Ze,Zf,Zg,Zj,Zk,Zl,Zm,Zn,Zp,Zq,reduceCtorEq]
 refine app_num g1.sl rfl (hr.nb (n1.fr nob)) (by rw[List.length_nil]; omega) (by omega) fun v2 w2 a2 => ?_
 have g2 := g1.apd a2
 rw[List.nil_append] at g2
 simp(disch:=omega)only[EZ,↓EP,↓reduceIte,Za,Zb,Zc,Zd,Ze,Zf,Zg,Zj,Zk,Zl,Zm,Zn,Zp,Zq,reduceCtorEq]
 refine bsl1 fun w3 n3 => ?_
 have g3 := g2.new n3
 simp(disch:=omega)only[EZ,↓EP,↓reduceIte,Za,Zb,Zc,Zd,Ze,Zf,Zg,Zj,Zk,Zl,Zm,Zn,Zp,Zq,reduceCtorEq]
 refine app_num g3.sl rfl n3.rdl (by simp; omega) (by omega) fun v4 w4 a4 => ?_
 have g4 := g3.apd a4
 simp(disch:=omega)only[EZ,↓EP,↓reduceIte,Za,Zb,Zc,Zd,Ze,Zf,Zg,Zj,Zk,Zl,Zm,Zn,Zp,Zq,reduceCtorEq]
 generalize hR : bs / 8 = R at *
 refine loop_inv (fun t ρ w' => ∃ (z : Nat) (T : Value), ρ 6 = T ∧ z ≤ zA bs m.length ∧ t = zA bs m.length - z ∧ Gw .u8 w w' T (m ++ [128] ++ List.replicate z 0)) (zA bs m.length) ⟨0, v4, by simp(disch:=omega)only[EZ,↓EP,↓reduceIte,Za,Zb,Zc,Zd,Ze,Zf,Zg,Zj,Zk,Zl,Zm,Zn,Zp,Zq,reduceCtorEq], Nat.zero_le _, rfl, by simpa using g4⟩ ?_
 clear g1 g2 g3 g4 a2 a4 n1 n3
 rintro t ρ w5 hf ⟨z, T, h6, hz, rfl, G⟩ N hN
 have r0 : ρ 0 = .slice A m.length c := by rw[hf 0 rfl]; simp(disch:=omega)only[EZ,↓EP,↓reduceIte,Za,Zb,Zc,Zd,Ze,Zf,Zg,Zj,Zk,Zl,Zm,Zn,Zp,Zq,reduceCtorEq]
 have r1 : ρ 1 = .int .i64 bs := by rw[hf 1 rfl]; simp(disch:=omega)only[EZ,↓EP,↓reduceIte,Za,Zb,Zc,Zd,Ze,Zf,Zg,Zj,Zk,Zl,Zm,Zn,Zp,Zq,reduceCtorEq]
 have r5 : ρ 5 = .int .i64 R := by rw[hf 5 rfl]; simp(disch:=omega)only[EZ,↓EP,↓reduceIte,Za,Zb,Zc,Zd,Ze,Zf,Zg,Zj,Zk,Zl,Zm,Zn,Zp,Zq,reduceCtorEq,er]
 clear hf
 obtain ⟨TA, tc, rfl, htc, hTd⟩ := readn G.sl (n := m.length + 1 + z) (by simp; omega)
 by_cases hzz : z < zA bs m.length
 ·have hcond := eq_false (zA_no hb hzz)
  rw[hR] at hcond
  simp(disch:=omega)only[EZ,↓EP,↓reduceIte,Za,Zb,Zc,Zd,Ze,Zf,Zg,Zj,Zk,Zl,Zm,Zn,Zp,Zq,reduceCtorEq,h6,r1,r5,hcond]
  refine bsl1 fun w7 n7 => ?_
  have G7 := G.new n7
  simp(disch:=omega)only[EZ,↓EP,↓reduceIte,Za,Zb,Zc,Zd,Ze,Zf,Zg,Zj,Zk,Zl,Zm,Zn,Zp,Zq,reduceCtorEq,h6]
  refine app_num G7.sl rfl n7.rdl (by simp; omega) (by omega) fun v8 w8 a8 => ?_
  have G8 := G7.apd a8
  simp(disch:=omega)only[EZ,↓EP,↓reduceIte,Za,Zb,Zc,Zd,Ze,Zf,Zg,Zj,Zk,Zl,Zm,Zn,Zp,Zq,reduceCtorEq]
  refine hN (zA bs m.length - (z + 1)) _ _ (by omega) ⟨z + 1, v8, by simp(disch:=omega)only[EZ,↓EP,↓reduceIte,Za,Zb,Zc,Zd,Ze,Zf,Zg,Zj,Zk,Zl,Zm,Zn,Zp,Zq,reduceCtorEq], by omega, rfl, ?_⟩
  rw[List.replicate_succ',← List.append_assoc]; exact G8
 have hze : z = zA bs m.length := by omega
 subst hze
 have hcond := zA_yes (n := m.length) hb
 rw[hR] at hcond
 simp(disch:=omega)only[EZ,↓EP,↓reduceIte,Za,Zb,Zc,Zd,Ze,Zf,Zg,Zj,Zk,Zl,Zm,Zn,Zp,Zq,reduceCtorEq,h6,r1,r5,hcond]
 clear hN hcond
 refine loop_inv (fun t ρ w' => ∃ (j : Nat) (T : Value), ρ 7 = .int .i64 ((R : Int) - 1 - j) ∧ ρ 6 = T ∧ j ≤ R ∧ t = R - j ∧ Gw .u8 w w' T (m ++ [128] ++ List.replicate (zA bs m.length) 0 ++ (List.range j).map (gB R m.length))) R ⟨0, .slice TA (m.length + 1 + zA bs m.length) tc, by simp(disch:=omega)only[EZ,↓EP,↓reduceIte,Za,Zb,Zc,Zd,Ze,Zf,Zg,Zj,Zk,Zl,Zm,Zn,Zp,Zq,reduceCtorEq]; rw[Int.sub_zero], by simp(disch:=omega)only[EZ,↓EP,↓reduceIte,Za,Zb,Zc,Zd,Ze,Zf,Zg,Zj,Zk,Zl,Zm,Zn,Zp,Zq,reduceCtorEq,h6], Nat.zero_le _, rfl, by simpa using G⟩ ?_
 clear G hTd
 rintro t ρ8 w8 hf ⟨j, T, h7, h6', hj, rfl, G⟩ N hN
 have q0 : ρ8 0 = .slice A m.length c := by rw[hf 0 rfl]; simp(disch:=omega)only[EZ,↓EP,↓reduceIte,Za,Zb,Zc,Zd,Ze,Zf,Zg,Zj,Zk,Zl,Zm,Zn,Zp,Zq,reduceCtorEq,r0]
 clear hf
 by_cases hjr : (0 : Int) ≤ (R : Int) - 1 - j
 ·have fin : ∀ ρ9 : Env, ρ9 6 = T → ρ9 7 = .int .i64 ((R : Int) - 1 - j) → ρ9 8 = .int .u8 (gB R m.length j) → True := fun _ _ _ _ => trivial
  by_cases h8 : (R : Int) - 1 - j < 8
  ·have e2 : min (8 * ((R : Int) - 1 - j)).toNat 64 = 56 - 8 * (j - (R - 8)) := by omega
   have eg : gB R m.length j = IntKind.u8.wrap ((IntKind.u64.wrap (8 * (m.length : Int))).fdiv (2 ^ (56 - 8 * (j - (R - 8))))) := by rw[gB,if_pos h8]; rfl
   simp(disch:=omega)only[EZ,↓EP,↓reduceIte,Za,Zb,Zc,Zd,Ze,Zf,Zg,Zj,Zk,Zl,Zm,Zn,Zp,Zq,reduceCtorEq,W_join,h7,h6',q0,e2]
   refine bsl1 fun w9 n9 => ?_
   have G9 := G.new n9
   simp(disch:=omega)only[EZ,↓EP,↓reduceIte,Za,Zb,Zc,Zd,Ze,Zf,Zg,Zj,Zk,Zl,Zm,Zn,Zp,Zq,reduceCtorEq,h7,h6',q0,e2]
   refine app_num G9.sl rfl n9.rdl (by simp; omega) (by omega) fun v10 w10 a10 => ?_
   have G10 := G9.apd a10
   simp(disch:=omega)only[EZ,↓EP,↓reduceIte,Za,Zb,Zc,Zd,Ze,Zf,Zg,Zj,Zk,Zl,Zm,Zn,Zp,Zq,reduceCtorEq,h7]
   refine hN (R - (j + 1)) _ _ (by omega) ⟨j + 1, v10, by simp(disch:=omega)only[EZ,↓EP,↓reduceIte,Za,Zb,Zc,Zd,Ze,Zf,Zg,Zj,Zk,Zl,Zm,Zn,Zp,Zq,reduceCtorEq,h7]; congr 1; omega, by simp(disch:=omega)only[EZ,↓EP,↓reduceIte,Za,Zb,Zc,Zd,Ze,Zf,Zg,Zj,Zk,Zl,Zm,Zn,Zp,Zq,reduceCtorEq], by omega, rfl, ?_⟩
   rw[map_succ,← List.append_assoc,eg]; exact G10
  ·have eg : gB R m.length j = 0 := by rw[gB,if_neg h8]
   simp(disch:=omega)only[EZ,↓EP,↓reduceIte,Za,Zb,Zc,Zd,Ze,Zf,Zg,Zj,Zk,Zl,Zm,Zn,Zp,Zq,reduceCtorEq,W_join,h7,h6',q0]
   refine bsl1 fun w9 n9 => ?_
   have G9 := G.new n9
   simp(disch:=omega)only[EZ,↓EP,↓reduceIte,Za,Zb,Zc,Zd,Ze,Zf,Zg,Zj,Zk,Zl,Zm,Zn,Zp,Zq,reduceCtorEq,h7,h6',q0]
   refine app_num G9.sl rfl n9.rdl (by simp; omega) (by omega) fun v10 w10 a10 => ?_
   have G10 := G9.apd a10
   simp(disch:=omega)only[EZ,↓EP,↓reduceIte,Za,Zb,Zc,Zd,Ze,Zf,Zg,Zj,Zk,Zl,Zm,Zn,Zp,Zq,reduceCtorEq,h7]
   refine hN (R - (j + 1)) _ _ (by omega) ⟨j + 1, v10, by simp(disch:=omega)only[EZ,↓EP,↓reduceIte,Za,Zb,Zc,Zd,Ze,Zf,Zg,Zj,Zk,Zl,Zm,Zn,Zp,Zq,reduceCtorEq,h7]; congr 1; omega, by simp(disch:=omega)only[EZ,↓EP,↓reduceIte,Za,Zb,Zc,Zd,Ze,Zf,Zg,Zj,Zk,Zl,Zm,Zn,Zp,Zq,reduceCtorEq], by omega, rfl, ?_⟩
   rw[map_succ,← List.append_assoc,eg]; exact G10
 have hje : j = R := by omega
 subst hje
 simp(disch:=omega)only[EZ,↓EP,↓reduceIte,Za,Zb,Zc,Zd,Ze,Zf,Zg,Zj,Zk,Zl,Zm,Zn,Zp,Zq,reduceCtorEq,h7,h6']
 refine hK T w8 ?_
 rw[gB_all hr8,← List.append_assoc,List.append_assoc (m ++ [128]),List.replicate_append_replicate,hz2] at G
 exact G
end Go.Proofs.YtcgplgpdcfocpaaGreatDoor.Spec
end
section
namespace Go.Proofs.YtcgplgpdcfocpaaGreatDoor.Spec
open Go Go.RowKit Go.Proofs Go.Proofs.YtcgplgpdcfocpaaGreatDoor.Eng Go.Proofs.YtcgplgpdcfocpaaGreatDoor.Code
attribute [local irreducible] callK S.W opsW scrW one
theorem fill55 (a0 a1 a2 a3 a4 : Int) : fillL [(0, 1), (1, 1), (2, 1), (3, 1), (4, 1)] (Array.replicate 5 (Value.int .u32 0)) [(0, .int .u32 a0), (1, .int .u32 a1), (2, .int .u32 a2), (3, .int .u32 a3), (4, .int .u32 a4)] = some (nums .u32 [a0, a1, a2, a3, a4]).toArray := by kernel_rfl
theorem byteL_part {bs : Nat} {M : List Int} (h : byteL M) (j : Nat) : byteL (part bs M j) := by
 intro i
 rw[at_nat',part,List.getD_eq_getElem?_getD,List.getElem?_take]
 split
 ·rw[List.getElem?_drop,← List.getD_eq_getElem?_getD,← at_nat']; exact h _
 ·simp
theorem part_at {bs : Nat} {M : List Int} {j i : Nat} (h : i < bs) : at' (part bs M j) (i : Int) = at' M ((j * bs + i : Nat) : Int) := by
 rw[at_nat',at_nat',part,List.getD_eq_getElem?_getD,List.getElem?_take,if_pos h,List.getElem?_drop,← List.getD_eq_getElem?_getD]
theorem take_at' {l : List Int} {n i : Nat} (h : i < n) : at' (l.take n) (i : Int) = at' l (i : Int) := by
 rw[at_nat',at_nat',List.getD_eq_getElem?_getD,List.getElem?_take,if_pos h,← List.getD_eq_getElem?_getD]
theorem four_at {w : World} {A : Option Addr} {M : List Int} {c lo : Nat} (h : Rd w A (nums .u8 M)) (hc : M.length ≤ c) (hl : lo + 4 ≤ M.length) :
  ∃ ad, subA A c lo 1 = some ad ∧ w.cell? (ad.add 0) = some (.int .u8 (at' M (lo : Int))) ∧ w.cell? (ad.add 1) = some (.int .u8 (at' M ((lo + 1 : Nat) : Int))) ∧ w.cell? (ad.add 2) = some (.int .u8 (at' M ((lo + 2 : Nat) : Int))) ∧ w.cell? (ad.add 3) = some (.int .u8 (at' M ((lo + 3 : Nat) : Int))) := by
 have h1 := h.subA c lo hc
 obtain ⟨ad, e, _, hcl⟩ := h1.get (by simp[nums_length]; omega)
 have g : ∀ i : Nat, i < 4 → w.cell? (ad.add i) = some (.int .u8 (at' M ((lo + i : Nat) : Int))) := fun i hi => by
  rw[hcl.numN (j := i) (by simp; omega)]
  congr 2
  rw[at_nat',at_nat',List.getD_eq_getElem?_getD,List.getElem?_drop,← List.getD_eq_getElem?_getD]
 exact ⟨ad, e, g 0 (by omega), g 1 (by omega), g 2 (by omega), g 3 (by omega)⟩
theorem oneWd_read {M : List Int} {j k : Nat} (hb : byteL M) (hk : k < 16) :
  IntKind.u32.wrap (IntKind.u32.wrap (IntKind.u32.wrap (IntKind.u32.wrap (IntKind.u32.wrap (at' M ((64 * j + 4 * k : Nat) : Int)) * 16777216) + IntKind.u32.wrap (IntKind.u32.wrap (at' M ((64 * j + 4 * k + 1 : Nat) : Int)) * 65536)) + IntKind.u32.wrap (IntKind.u32.wrap (at' M ((64 * j + 4 * k + 2 : Nat) : Int)) * 256)) + IntKind.u32.wrap (at' M ((64 * j + 4 * k + 3 : Nat) : Int))) = wordAt (part 64 M j) k := by
 rw[word_sum (hb _) (hb _) (hb _) (hb _),wordAt]
 rw[show (4 * (k : Int)) = ((4 * k : Nat) : Int) by omega, show ((4 * k : Nat) : Int) + 1 = ((4 * k + 1 : Nat) : Int) by omega, show ((4 * k : Nat) : Int) + 2 = ((4 * k + 2 : Nat) : Int) by omega, show ((4 * k : Nat) : Int) + 3 = ((4 * k + 3 : Nat) : Int) by omega]
 rw[part_at (by omega),part_at (by omega),part_at (by omega),part_at (by omega)]
 rw[show j * 64 + 4 * k = 64 * j + 4 * k by omega, show j * 64 + (4 * k + 1) = 64 * j + 4 * k + 1 by omega, show j * 64 + (4 * k + 2) = 64 * j + 4 * k + 2 by omega, show j * 64 + (4 * k + 3) = 64 * j + 4 * k + 3 by omega]
theorem run1_succ (M : List Int) (j : Nat) : (runN 1 M (j + 1)).1 = one (runN 1 M j).1 (part 64 M j) := by
 rw[runN_succ,mix,if_pos rfl]; rfl
theorem run1_len (M : List Int) : ∀ j, (runN 1 M j).1.length = 8
 | 0 => rfl
 | j + 1 => by rw[run1_succ]; exact one_len _ _
def oneJ (w : World) (hb b5 : Nat) (H p : List Int) (m : Nat) (ρ : Env) (w' : World) : Prop :=
 ∃ k : Nat, ρ 13 = .int .i64 k ∧ k ≤ 80 ∧ m = 80 - k ∧ ρ 8 = .int .u32 (rounds oneStep k (oneInit H p)).a ∧ ρ 9 = .int .u32 (rounds oneStep k (oneInit H p)).b ∧ ρ 10 = .int .u32 (rounds oneStep k (oneInit H p)).c ∧ ρ 11 = .int .u32 (rounds oneStep k (oneInit H p)).d ∧ ρ 12 = .int .u32 (rounds oneStep k (oneInit H p)).e ∧
  Blk w' hb (nums .u32 (H.take 5)) ∧ Blk w' b5 (nums .u32 (rowN (oneWd p) 80 80)) ∧ Below w.heap.size w w'
theorem not_u32 (n : Int) : bits .xor .u32 (if IntKind.u32.signed = true then -1 else IntKind.u32.max) n = bits .xor .u32 4294967295 n := rfl
set_option maxHeartbeats 4000000 in
theorem sha1_vw {w : World} {v : Value} {M : List Int} (hv : Vw .u8 w v M) (h64 : M.length % 64 = 0) (hm : M.length ≤ 16777600) (hb : byteL M) (K : Value → World → Prop)
  (hK : ∀ v' w', Gw .u8 w w' v' ((List.range 5).flatMap fun (i : Nat) => w4 (at' (runN 1 M (M.length / 64)).1 (i : Int))) → K v' w') : callK Tryz.prog 31 [v] w K := by
 obtain ⟨A, c, rfl, hc, hr⟩ := hv
 refine call_of Tryz.func31 Code.h31 (by simp[Code.c31]) ?_
 simp(disch:=omega)only[EZ,↓EP,↓reduceIte,Za,Zb,Zc,Zd,Ze,Zf,Zg,Zj,Zk,Zl,Zm,Zn,Zp,Zq,reduceCtorEq,Code.c31]
 refine ⟨_, fill55 _ _ _ _ _, ?_⟩
 simp(disch:=omega)only[EZ,↓EP,↓reduceIte,Za,Zb,Zc,Zd,Ze,Zf,Zg,Zj,Zk,Zl,Zm,Zn,Zp,Zq,reduceCtorEq]
 refine al_k (nums .u32 (zs 5)) rfl fun w1 n1 => ?_
 simp(disch:=omega)only[EZ,↓EP,↓reduceIte,Za,Zb,Zc,Zd,Ze,Zf,Zg,Zj,Zk,Zl,Zm,Zn,Zp,Zq,reduceCtorEq]
 refine st_whole n1.blk rfl rfl (nums_one _ _) fun w2 p2 => ?_
 simp(disch:=omega)only[EZ,↓EP,↓reduceIte,Za,Zb,Zc,Zd,Ze,Zf,Zg,Zj,Zk,Zl,Zm,Zn,Zp,Zq,reduceCtorEq]
 have s1 := n1.size
 have s2 := p2.size
 have b2 : Below w.heap.size w w2 := p2.below (Nat.le_refl _) (n1.below (Nat.le_refl _) (Below.refl _ _))
 refine loop_inv (fun t ρ w' => ∃ j : Nat, ρ 4 = .int .i64 (64 * (j : Int)) ∧ 64 * j ≤ M.length ∧ t = M.length - 64 * j ∧ Blk w' w.heap.size (nums .u32 ((runN 1 M j).1.take 5)) ∧ Below w.heap.size w w') M.length ⟨0, by simp(disch:=omega)only[EZ,↓EP,↓reduceIte,Za,Zb,Zc,Zd,Ze,Zf,Zg,Zj,Zk,Zl,Zm,Zn,Zp,Zq,reduceCtorEq], by omega, by omega, p2.blk, b2⟩ ?_
 clear b2 n1 p2 s1 s2 w1
 rintro t ρ w3 hf ⟨j, h4, hj, rfl, hH, b3⟩ N hN
 have r0 : ρ 0 = .slice A M.length c := by rw[hf 0 rfl]; simp(disch:=omega)only[EZ,↓EP,↓reduceIte,Za,Zb,Zc,Zd,Ze,Zf,Zg,Zj,Zk,Zl,Zm,Zn,Zp,Zq,reduceCtorEq]
 have r3 : ρ 3 = .pointer (some ⟨w.heap.size, 0, none⟩) := by rw[hf 3 rfl]; simp(disch:=omega)only[EZ,↓EP,↓reduceIte,Za,Zb,Zc,Zd,Ze,Zf,Zg,Zj,Zk,Zl,Zm,Zn,Zp,Zq,reduceCtorEq]
 clear hf
 have lt3 := hH.lt
 by_cases hjl : 64 * (j : Int) < (M.length : Int)
 ·have hM0 : 0 < M.length := by omega
  simp(disch:=omega)only[EZ,↓EP,↓reduceIte,Za,Zb,Zc,Zd,Ze,Zf,Zg,Zj,Zk,Zl,Zm,Zn,Zp,Zq,reduceCtorEq,h4,r0,r3]
  refine al_k (nums .u32 (zs 80)) rfl fun w4 n4 => ?_
  have b4 := n4.below (by have := b3.size; omega) b3
  have hH4 := n4.keep hH
  have hp : Rd w4 A (nums .u8 M) := hr.below b4
  generalize hpp : part 64 M j = p
  have hpb : byteL p := by rw[← hpp]; exact byteL_part hb j
  simp(disch:=omega)only[EZ,↓EP,↓reduceIte,Za,Zb,Zc,Zd,Ze,Zf,Zg,Zj,Zk,Zl,Zm,Zn,Zp,Zq,reduceCtorEq,h4,r0,r3]
  refine loop_inv (fun t ρ' w' => ∃ k : Nat, ρ' 6 = .int .i64 k ∧ k ≤ 80 ∧ t = 80 - k ∧ Blk w' w.heap.size (nums .u32 ((runN 1 M j).1.take 5)) ∧ Blk w' w3.heap.size (nums .u32 (rowN (oneWd p) 80 k)) ∧ Below w.heap.size w w') 80 ⟨0, by simp(disch:=omega)only[EZ,↓EP,↓reduceIte,Za,Zb,Zc,Zd,Ze,Zf,Zg,Zj,Zk,Zl,Zm,Zn,Zp,Zq,reduceCtorEq], by omega, by omega, hH4, n4.blk, b4⟩ ?_
  rintro t ρ5 w5 hf ⟨k, h6, hk, rfl, hH5, hW5, b5⟩ N5 hN5
  have q0 : ρ5 0 = .slice A M.length c := by rw[hf 0 rfl]; simp(disch:=omega)only[EZ,↓EP,↓reduceIte,Za,Zb,Zc,Zd,Ze,Zf,Zg,Zj,Zk,Zl,Zm,Zn,Zp,Zq,reduceCtorEq,r0]
  have q3 : ρ5 3 = .pointer (some ⟨w.heap.size, 0, none⟩) := by rw[hf 3 rfl]; simp(disch:=omega)only[EZ,↓EP,↓reduceIte,Za,Zb,Zc,Zd,Ze,Zf,Zg,Zj,Zk,Zl,Zm,Zn,Zp,Zq,reduceCtorEq,r3]
  have q4 : ρ5 4 = .int .i64 (64 * (j : Int)) := by rw[hf 4 rfl]; simp(disch:=omega)only[EZ,↓EP,↓reduceIte,Za,Zb,Zc,Zd,Ze,Zf,Zg,Zj,Zk,Zl,Zm,Zn,Zp,Zq,reduceCtorEq,h4]
  have q5 : ρ5 5 = .pointer (some ⟨w3.heap.size, 0, none⟩) := by rw[hf 5 rfl]; simp(disch:=omega)only[EZ,↓EP,↓reduceIte,Za,Zb,Zc,Zd,Ze,Zf,Zg,Zj,Zk,Zl,Zm,Zn,Zp,Zq,reduceCtorEq]
  clear hf
  have hp5 : Rd w5 A (nums .u8 M) := hr.below b5
  have hl5 := rowN_len (oneWd p) hk
  by_cases hk80 : (k : Int) < 80
  ·have st : ∀ (x : Int) (m : Nat) (ρ6 : Env), x = oneWd p k → ρ6 6 = .int .i64 ((k + 1 : Nat) : Int) → (∀ w', Put (w5.drewN m) w' w3.heap.size (nums .u32 ((rowN (oneWd p) 80 k).set k x)) → endK N5 ρ6 w') := by
    intro x m ρ6 hx h6' w' pt
    rw[hx,rowN_set _ (by omega)] at pt
    exact hN5 (80 - (k + 1)) _ _ (by omega) ⟨k + 1, h6', by omega, rfl, pt.keep (by omega) (hH5.drewN m), pt.blk, pt.below (by have := b3.size; omega) (below_drewN' b5 m)⟩
   by_cases hk16 : (k : Int) < 16
   ·obtain ⟨ad, e, c0, c1, c2, c3⟩ := four_at hp5 hc (lo := 64 * j + 4 * k) (by omega)
    have elo : (64 * (j : Int) + 4 * (k : Int)).toNat = 64 * j + 4 * k := by omega
    simp(disch:=omega)only[EZ,↓EP,↓reduceIte,Za,Zb,Zc,Zd,Ze,Zf,Zg,Zj,Zk,Zl,Zm,Zn,Zp,Zq,reduceCtorEq,W_join,h6,q0,q3,q4,q5,elo,e,c0,c1,c2,c3]
    intro m
    refine st_num (hW5.drewN m) (by omega) fun w6 p6 => ?_
    simp(disch:=omega)only[EZ,↓EP,↓reduceIte,Za,Zb,Zc,Zd,Ze,Zf,Zg,Zj,Zk,Zl,Zm,Zn,Zp,Zq,reduceCtorEq,h6]
    refine st _ m _ ?_ (by simp(disch:=omega)only[EZ,↓EP,↓reduceIte,Za,Zb,Zc,Zd,Ze,Zf,Zg,Zj,Zk,Zl,Zm,Zn,Zp,Zq,reduceCtorEq,h6,Int.natCast_add]) w6 p6
    rw[oneWd_lo (by omega),← hpp]
    exact oneWd_read hb (by omega)
   ·have e3 : ((k : Int) - 3).toNat = k - 3 := by omega
    have e8 : ((k : Int) - 8).toNat = k - 8 := by omega
    have e14 : ((k : Int) - 14).toNat = k - 14 := by omega
    have e16 : ((k : Int) - 16).toNat = k - 16 := by omega
    have g : ∀ i, i < k → w5.cell? ⟨w3.heap.size, i, none⟩ = some (.int .u32 (oneWd p i)) := fun i hi => by rw[hW5.numN (j := i) (by omega),rowN_at _ hi]
    have g3 := g (k - 3) (by omega)
    have g8 := g (k - 8) (by omega)
    have g14 := g (k - 14) (by omega)
    have g16 := g (k - 16) (by omega)
    simp(disch:=omega)only[EZ,↓EP,↓reduceIte,Za,Zb,Zc,Zd,Ze,Zf,Zg,Zj,Zk,Zl,Zm,Zn,Zp,Zq,reduceCtorEq,W_join,h6,q0,q3,q4,q5,e3,e8,e14,e16,g3,g8,g14,g16]
    refine left_q _ 1 (by omega) (by omega) _ _ ?_
    simp(disch:=omega)only[EZ,↓EP,↓reduceIte,Za,Zb,Zc,Zd,Ze,Zf,Zg,Zj,Zk,Zl,Zm,Zn,Zp,Zq,reduceCtorEq,h6,q5]
    intro m
    refine st_num (hW5.drewN m) (by omega) fun w6 p6 => ?_
    simp(disch:=omega)only[EZ,↓EP,↓reduceIte,Za,Zb,Zc,Zd,Ze,Zf,Zg,Zj,Zk,Zl,Zm,Zn,Zp,Zq,reduceCtorEq,h6]
    refine st _ m _ ?_ (by simp(disch:=omega)only[EZ,↓EP,↓reduceIte,Za,Zb,Zc,Zd,Ze,Zf,Zg,Zj,Zk,Zl,Zm,Zn,Zp,Zq,reduceCtorEq,h6,Int.natCast_add]) w6 p6
    rw[oneWd_hi (t := k) (by omega)]; rfl
  ·have hk80 : k = 80 := by omega
   subst hk80
   clear hN5
   have hH8 : ((runN 1 M j).1.take 5).length = 5 := by rw[List.length_take,run1_len]; rfl
   have hc5 := fun (i : Nat) (g : i < 5) => hH5.numN (by omega : i < ((runN 1 M j).1.take 5).length)
   have a0 := take_at' (l := (runN 1 M j).1) (n := 5) (i := 0) (by omega)
   have a1 := take_at' (l := (runN 1 M j).1) (n := 5) (i := 1) (by omega)
   have a2 := take_at' (l := (runN 1 M j).1) (n := 5) (i := 2) (by omega)
   have a3 := take_at' (l := (runN 1 M j).1) (n := 5) (i := 3) (by omega)
   have a4 := take_at' (l := (runN 1 M j).1) (n := 5) (i := 4) (by omega)
   have h0 := hc5 0 (by omega)
   have h1 := hc5 1 (by omega)
   have h2 := hc5 2 (by omega)
   have h3 := hc5 3 (by omega)
   have h5 := hc5 4 (by omega)
   rw[a0] at h0
   rw[a1] at h1
   rw[a2] at h2
   rw[a3] at h3
   rw[a4] at h5
   clear hc5 a0 a1 a2 a3 a4
   simp(disch:=omega)only[EZ,↓EP,↓reduceIte,Za,Zb,Zc,Zd,Ze,Zf,Zg,Zj,Zk,Zl,Zm,Zn,Zp,Zq,reduceCtorEq,h6,q0,q3,q4,q5,h0,h1,h2,h3,h5]
   intro m
   refine loop_inv (oneJ w w.heap.size w3.heap.size (runN 1 M j).1 p) 80 ⟨0, by simp(disch:=omega)only[EZ,↓EP,↓reduceIte,Za,Zb,Zc,Zd,Ze,Zf,Zg,Zj,Zk,Zl,Zm,Zn,Zp,Zq,reduceCtorEq], by omega, by omega, ?_⟩ ?_
   ·simp only[oneInit_0]
    simp(disch:=omega)only[EZ,↓EP,↓reduceIte,Za,Zb,Zc,Zd,Ze,Zf,Zg,Zj,Zk,Zl,Zm,Zn,Zp,Zq,reduceCtorEq]
    exact ⟨hH5.drewN m, hW5.drewN m, below_drewN' b5 m⟩
   clear h0 h1 h2 h3 h5 hl5 b4 hH4 hp n4
   rintro t ρ7 w7 hf ⟨k, h13, hk, rfl, h8, h9, h10, h11, h12, hH7, hW7, b7⟩ N7 hN7
   have y0 : ρ7 0 = .slice A M.length c := by rw[hf 0 rfl]; simp(disch:=omega)only[EZ,↓EP,↓reduceIte,Za,Zb,Zc,Zd,Ze,Zf,Zg,Zj,Zk,Zl,Zm,Zn,Zp,Zq,reduceCtorEq,q0]
   have y3 : ρ7 3 = .pointer (some ⟨w.heap.size, 0, none⟩) := by rw[hf 3 rfl]; simp(disch:=omega)only[EZ,↓EP,↓reduceIte,Za,Zb,Zc,Zd,Ze,Zf,Zg,Zj,Zk,Zl,Zm,Zn,Zp,Zq,reduceCtorEq,q3]
   have y4 : ρ7 4 = .int .i64 (64 * (j : Int)) := by rw[hf 4 rfl]; simp(disch:=omega)only[EZ,↓EP,↓reduceIte,Za,Zb,Zc,Zd,Ze,Zf,Zg,Zj,Zk,Zl,Zm,Zn,Zp,Zq,reduceCtorEq,q4]
   have y5 : ρ7 5 = .pointer (some ⟨w3.heap.size, 0, none⟩) := by rw[hf 5 rfl]; simp(disch:=omega)only[EZ,↓EP,↓reduceIte,Za,Zb,Zc,Zd,Ze,Zf,Zg,Zj,Zk,Zl,Zm,Zn,Zp,Zq,reduceCtorEq,q5]
   clear hf q0 q3 q4 q5
   have hx := oneWd_step (runN 1 M j).1 p k
   generalize hst : rounds oneStep k (oneInit (runN 1 M j).1 p) = st at h8 h9 h10 h11 h12 hx
   by_cases hk80 : (k : Int) < 80
   ·have gk : w7.cell? ⟨w3.heap.size, k, none⟩ = some (.int .u32 (oneWd p k)) := by rw[hW7.numN (j := k) (by rw [rowN_len _ (Nat.le_refl _)]; omega),rowN_at _ (by omega)]
    have fin : ∀ (w8 : World) (ρ8 : Env), ρ8 13 = .int .i64 ((k + 1 : Nat) : Int) → ρ8 8 = .int .u32 (s32 (s32 (s32 (s32 (rl32 st.a 5) (oneF k st.b st.c st.d)) st.e) (oneK k)) (oneWd p k)) → ρ8 9 = .int .u32 st.a → ρ8 10 = .int .u32 (rl32 st.b 30) → ρ8 11 = .int .u32 st.c → ρ8 12 = .int .u32 st.d →
      Blk w8 w.heap.size (nums .u32 ((runN 1 M j).1.take 5)) → Blk w8 w3.heap.size (nums .u32 (rowN (oneWd p) 80 80)) → Below w.heap.size w w8 → endK N7 ρ8 w8 := by
     intro w8 ρ8 g1 g2 g3 g4 g5 g6 g7 g8 g9
     refine hN7 (80 - (k + 1)) _ _ (by omega) ⟨k + 1, g1, by omega, rfl, ?_⟩
     rw[rounds,hst,oneStep,hx]
     exact ⟨g2, g3, g4, g5, g6, g7, g8, g9⟩
    clear hN7
    have c : (k : Int) < 20 ∨ (20 ≤ (k : Int) ∧ (k : Int) < 40) ∨ (40 ≤ (k : Int) ∧ (k : Int) < 60) ∨ 60 ≤ (k : Int) := by omega
    rcases c with c | c | c | c
    ·have hF : oneF k st.b st.c st.d = x32 st.d (a32 st.b (x32 st.c st.d)) := by rw[oneF,if_pos (by omega)]
     have hKK : oneK k = 1518500249 := by rw[oneK,if_pos (by omega)]
     rw[hF,hKK] at fin
     simp(disch:=omega)only[EZ,↓EP,↓reduceIte,Za,Zb,Zc,Zd,Ze,Zf,Zg,Zj,Zk,Zl,Zm,Zn,Zp,Zq,reduceCtorEq,W_join,h13,y3,y5,h8,h9,h10,h11,h12,gk]
     refine left_q _ 5 (by omega) (by omega) _ _ ?_
     simp(disch:=omega)only[EZ,↓EP,↓reduceIte,Za,Zb,Zc,Zd,Ze,Zf,Zg,Zj,Zk,Zl,Zm,Zn,Zp,Zq,reduceCtorEq,h13,y5,h8,h9,h10,h11,h12,gk]
     intro m1
     refine left_d _ 30 (by omega) (by omega) _ _ fun m2 => ?_
     simp(disch:=omega)only[EZ,↓EP,↓reduceIte,Za,Zb,Zc,Zd,Ze,Zf,Zg,Zj,Zk,Zl,Zm,Zn,Zp,Zq,reduceCtorEq,h13,h8,h9,h10,h11,h12]
     refine fin _ _ ?_ ?_ ?_ ?_ ?_ ?_ (hH7.drewN _) (hW7.drewN _) (below_drewN' b7 _)
     all_goals (simp(disch:=omega)only[EZ,↓EP,↓reduceIte,Za,Zb,Zc,Zd,Ze,Zf,Zg,Zj,Zk,Zl,Zm,Zn,Zp,Zq,reduceCtorEq,h13,h8,h9,h10,h11,h12,s32,Int.natCast_add,not_u32,ch32])
    ·have hF : oneF k st.b st.c st.d = x32 (x32 st.b st.c) st.d := by rw[oneF,if_neg (by omega),if_pos (by omega)]
     have hKK : oneK k = 1859775393 := by rw[oneK,if_neg (by omega),if_pos (by omega)]
     rw[hF,hKK] at fin
     simp(disch:=omega)only[EZ,↓EP,↓reduceIte,Za,Zb,Zc,Zd,Ze,Zf,Zg,Zj,Zk,Zl,Zm,Zn,Zp,Zq,reduceCtorEq,W_join,h13,y3,y5,h8,h9,h10,h11,h12,gk]
     refine left_q _ 5 (by omega) (by omega) _ _ ?_
     simp(disch:=omega)only[EZ,↓EP,↓reduceIte,Za,Zb,Zc,Zd,Ze,Zf,Zg,Zj,Zk,Zl,Zm,Zn,Zp,Zq,reduceCtorEq,h13,y5,h8,h9,h10,h11,h12,gk]
     intro m1
     refine left_d _ 30 (by omega) (by omega) _ _ fun m2 => ?_
     simp(disch:=omega)only[EZ,↓EP,↓reduceIte,Za,Zb,Zc,Zd,Ze,Zf,Zg,Zj,Zk,Zl,Zm,Zn,Zp,Zq,reduceCtorEq,h13,h8,h9,h10,h11,h12]
     refine fin _ _ ?_ ?_ ?_ ?_ ?_ ?_ (hH7.drewN _) (hW7.drewN _) (below_drewN' b7 _)
     all_goals (simp(disch:=omega)only[EZ,↓EP,↓reduceIte,Za,Zb,Zc,Zd,Ze,Zf,Zg,Zj,Zk,Zl,Zm,Zn,Zp,Zq,reduceCtorEq,h13,h8,h9,h10,h11,h12,s32,Int.natCast_add,x32])
    ·have hF : oneF k st.b st.c st.d = o32 (a32 st.b st.c) (a32 st.d (o32 st.b st.c)) := by rw[oneF,if_neg (by omega),if_neg (by omega),if_pos (by omega)]
     have hKK : oneK k = 2400959708 := by rw[oneK,if_neg (by omega),if_neg (by omega),if_pos (by omega)]
     rw[hF,hKK] at fin
     simp(disch:=omega)only[EZ,↓EP,↓reduceIte,Za,Zb,Zc,Zd,Ze,Zf,Zg,Zj,Zk,Zl,Zm,Zn,Zp,Zq,reduceCtorEq,W_join,h13,y3,y5,h8,h9,h10,h11,h12,gk]
     refine left_q _ 5 (by omega) (by omega) _ _ ?_
     simp(disch:=omega)only[EZ,↓EP,↓reduceIte,Za,Zb,Zc,Zd,Ze,Zf,Zg,Zj,Zk,Zl,Zm,Zn,Zp,Zq,reduceCtorEq,h13,y5,h8,h9,h10,h11,h12,gk]
     intro m1
     refine left_d _ 30 (by omega) (by omega) _ _ fun m2 => ?_
     simp(disch:=omega)only[EZ,↓EP,↓reduceIte,Za,Zb,Zc,Zd,Ze,Zf,Zg,Zj,Zk,Zl,Zm,Zn,Zp,Zq,reduceCtorEq,h13,h8,h9,h10,h11,h12]
     refine fin _ _ ?_ ?_ ?_ ?_ ?_ ?_ (hH7.drewN _) (hW7.drewN _) (below_drewN' b7 _)
     all_goals (simp(disch:=omega)only[EZ,↓EP,↓reduceIte,Za,Zb,Zc,Zd,Ze,Zf,Zg,Zj,Zk,Zl,Zm,Zn,Zp,Zq,reduceCtorEq,h13,h8,h9,h10,h11,h12,s32,Int.natCast_add,maj32])
    ·have hF : oneF k st.b st.c st.d = x32 (x32 st.b st.c) st.d := by rw[oneF,if_neg (by omega),if_neg (by omega),if_neg (by omega)]
     have hKK : oneK k = 3395469782 := by rw[oneK,if_neg (by omega),if_neg (by omega),if_neg (by omega)]
     rw[hF,hKK] at fin
     simp(disch:=omega)only[EZ,↓EP,↓reduceIte,Za,Zb,Zc,Zd,Ze,Zf,Zg,Zj,Zk,Zl,Zm,Zn,Zp,Zq,reduceCtorEq,W_join,h13,y3,y5,h8,h9,h10,h11,h12,gk]
     refine left_q _ 5 (by omega) (by omega) _ _ ?_
     simp(disch:=omega)only[EZ,↓EP,↓reduceIte,Za,Zb,Zc,Zd,Ze,Zf,Zg,Zj,Zk,Zl,Zm,Zn,Zp,Zq,reduceCtorEq,h13,y5,h8,h9,h10,h11,h12,gk]
     intro m1
     refine left_d _ 30 (by omega) (by omega) _ _ fun m2 => ?_
     simp(disch:=omega)only[EZ,↓EP,↓reduceIte,Za,Zb,Zc,Zd,Ze,Zf,Zg,Zj,Zk,Zl,Zm,Zn,Zp,Zq,reduceCtorEq,h13,h8,h9,h10,h11,h12]
     refine fin _ _ ?_ ?_ ?_ ?_ ?_ ?_ (hH7.drewN _) (hW7.drewN _) (below_drewN' b7 _)
     all_goals (simp(disch:=omega)only[EZ,↓EP,↓reduceIte,Za,Zb,Zc,Zd,Ze,Zf,Zg,Zj,Zk,Zl,Zm,Zn,Zp,Zq,reduceCtorEq,h13,h8,h9,h10,h11,h12,s32,Int.natCast_add,x32])
   ·have hk80' : k = 80 := by omega
    subst hk80'
    clear hN7
    have g : ∀ i : Nat, i < 5 → w7.cell? ⟨w.heap.size, i, none⟩ = some (.int .u32 (at' (runN 1 M j).1 (i : Int))) := fun i hi => by rw[hH7.numN (j := i) (by rw [hH8]; exact hi),take_at' hi]
    have h0 := g 0 (by omega)
    have h1 := g 1 (by omega)
    have h2 := g 2 (by omega)
    have h3 := g 3 (by omega)
    have h5 := g 4 (by omega)
    simp(disch:=omega)only[EZ,↓EP,↓reduceIte,Za,Zb,Zc,Zd,Ze,Zf,Zg,Zj,Zk,Zl,Zm,Zn,Zp,Zq,reduceCtorEq,h13,y0,y3,y4,y5,h8,h9,h10,h11,h12,h0,h1,h2,h3,h5]
    refine ⟨_, fill55 _ _ _ _ _, ?_⟩
    simp(disch:=omega)only[EZ,↓EP,↓reduceIte,Za,Zb,Zc,Zd,Ze,Zf,Zg,Zj,Zk,Zl,Zm,Zn,Zp,Zq,reduceCtorEq,y0,y3,y4]
    refine st_whole hH7 (by rw[nums_length]; rfl) (by rw[nums_length,hH8]) (nums_one _ _) fun w8 p8 => ?_
    simp(disch:=omega)only[EZ,↓EP,↓reduceIte,Za,Zb,Zc,Zd,Ze,Zf,Zg,Zj,Zk,Zl,Zm,Zn,Zp,Zq,reduceCtorEq,y4]
    refine hN (M.length - 64 * (j + 1)) _ _ (by omega) ⟨j + 1, by simp(disch:=omega)only[EZ,↓EP,↓reduceIte,Za,Zb,Zc,Zd,Ze,Zf,Zg,Zj,Zk,Zl,Zm,Zn,Zp,Zq,reduceCtorEq,y4]; congr 1, by omega, rfl, ?_, p8.below (Nat.le_refl _) b7⟩
    have e := run1_succ M j
    rw[hpp] at e
    rw[e,one,hst]
    exact p8.blk
 ·have hje : M.length / 64 = j := by omega
  simp(disch:=omega)only[EZ,↓EP,↓reduceIte,Za,Zb,Zc,Zd,Ze,Zf,Zg,Zj,Zk,Zl,Zm,Zn,Zp,Zq,reduceCtorEq,h4,r0,r3]
  clear hN
  rw[hje] at hK
  have hH8 : ((runN 1 M j).1.take 5).length = 5 := by rw[List.length_take,run1_len]; rfl
  have f3 : Fr w w3 nob := fr_of b3 rfl
  refine loop_inv (fun t ρ w' => ∃ (i : Nat) (O : Value), ρ 18 = .int .i64 i ∧ ρ 17 = O ∧ i ≤ 5 ∧ t = 5 - i ∧ Gw .u8 w3 w' O ((List.range i).flatMap fun (i : Nat) => w4 (at' (runN 1 M j).1 (i : Int)))) 5 ⟨0, .slice none 0 0, by simp(disch:=omega)only[EZ,↓EP,↓reduceIte,Za,Zb,Zc,Zd,Ze,Zf,Zg,Zj,Zk,Zl,Zm,Zn,Zp,Zq,reduceCtorEq], by simp(disch:=omega)only[EZ,↓EP,↓reduceIte,Za,Zb,Zc,Zd,Ze,Zf,Zg,Zj,Zk,Zl,Zm,Zn,Zp,Zq,reduceCtorEq], by omega, by omega, Gw.nil _ _⟩ ?_
  rintro t ρ8 w8 hf ⟨i, O, h18, h17, hi, rfl, G⟩ N hN
  have q3 : ρ8 3 = .pointer (some ⟨w.heap.size, 0, none⟩) := by rw[hf 3 rfl]; simp(disch:=omega)only[EZ,↓EP,↓reduceIte,Za,Zb,Zc,Zd,Ze,Zf,Zg,Zj,Zk,Zl,Zm,Zn,Zp,Zq,reduceCtorEq,r3]
  clear hf
  by_cases hi5 : (i : Int) < 5
  ·have hcw : w8.cell? ⟨w.heap.size, i, none⟩ = some (.int .u32 (at' (runN 1 M j).1 (i : Int))) := by rw[(hH.nb G.fr).numN (j := i) (by omega),take_at' (by omega)]
   have hgl := flat_len (f := fun (i : Nat) => w4 (at' (runN 1 M j).1 (i : Int))) (n := 4) (fun _ => rfl) i
   simp(disch:=omega)only[EZ,↓EP,↓reduceIte,Za,Zb,Zc,Zd,Ze,Zf,Zg,Zj,Zk,Zl,Zm,Zn,Zp,Zq,reduceCtorEq,h18,h17,q3,hcw]
   intro m1
   have G1 := G.drewN (1 + m1)
   refine bsl4 fun w9 n9 => ?_
   have G2 := G1.new n9
   simp(disch:=omega)only[EZ,↓EP,↓reduceIte,Za,Zb,Zc,Zd,Ze,Zf,Zg,Zj,Zk,Zl,Zm,Zn,Zp,Zq,reduceCtorEq,h17]
   intro m2
   refine app_num (G2.drewN m2).sl rfl (n9.rdl.drewN m2) (by rw[hgl]; simp only[List.length_cons,List.length_nil]; omega) (by omega) fun v10 w10 a10 => ?_
   have G3 := (G2.drewN m2).apd a10
   simp(disch:=omega)only[EZ,↓EP,↓reduceIte,Za,Zb,Zc,Zd,Ze,Zf,Zg,Zj,Zk,Zl,Zm,Zn,Zp,Zq,reduceCtorEq,h18]
   intro m3
   refine hN (5 - (i + 1)) _ _ (by omega) ⟨i + 1, v10, by simp(disch:=omega)only[EZ,↓EP,↓reduceIte,Za,Zb,Zc,Zd,Ze,Zf,Zg,Zj,Zk,Zl,Zm,Zn,Zp,Zq,reduceCtorEq,h18,Int.natCast_add], by simp(disch:=omega)only[EZ,↓EP,↓reduceIte,Za,Zb,Zc,Zd,Ze,Zf,Zg,Zj,Zk,Zl,Zm,Zn,Zp,Zq,reduceCtorEq], by omega, rfl, ?_⟩
   rw[flat_succ]
   exact G3.drewN m3
  ·have hie : i = 5 := by omega
   subst hie
   simp(disch:=omega)only[EZ,↓EP,↓reduceIte,Za,Zb,Zc,Zd,Ze,Zf,Zg,Zj,Zk,Zl,Zm,Zn,Zp,Zq,reduceCtorEq,h18,h17]
   exact hK O w8 (G.from f3)
end Go.Proofs.YtcgplgpdcfocpaaGreatDoor.Spec
end
section
namespace Go.Proofs.YtcgplgpdcfocpaaGreatDoor.Spec
open Go Go.RowKit Go.Proofs Go.Proofs.YtcgplgpdcfocpaaGreatDoor.Eng Go.Proofs.YtcgplgpdcfocpaaGreatDoor.Code
attribute [local irreducible] callK S.W opsW scrW one
theorem roots32_fill : fillL [(0, 1), (1, 1), (2, 1), (3, 1), (4, 1), (5, 1), (6, 1), (7, 1), (8, 1), (9, 1), (10, 1), (11, 1), (12, 1), (13, 1), (14, 1), (15, 1), (16, 1), (17, 1), (18, 1), (19, 1), (20, 1), (21, 1), (22, 1), (23, 1), (24, 1), (25, 1), (26, 1), (27, 1), (28, 1), (29, 1), (30, 1), (31, 1), (32, 1), (33, 1), (34, 1), (35, 1), (36, 1), (37, 1), (38, 1), (39, 1), (40, 1), (41, 1), (42, 1), (43, 1), (44, 1), (45, 1), (46, 1), (47, 1), (48, 1), (49, 1), (50, 1), (51, 1), (52, 1), (53, 1), (54, 1), (55, 1), (56, 1), (57, 1), (58, 1), (59, 1), (60, 1), (61, 1), (62, 1), (63, 1)] (Array.replicate 64 (Value.int .u32 0)) [(0, .int .u32 1116352408), (1, .int .u32 1899447441), (2, .int .u32 3049323471), (3, .int .u32 3921009573), (4, .int .u32 961987163), (5, .int .u32 1508970993), (6, .int .u32 2453635748), (7, .int .u32 2870763221), (8, .int .u32 3624381080), (9, .int .u32 310598401), (10, .int .u32 607225278), (11, .int .u32 1426881987), (12, .int .u32 1925078388), (13, .int .u32 2162078206), (14, .int .u32 2614888103), (15, .int .u32 3248222580), (16, .int .u32 3835390401), (17, .int .u32 4022224774), (18, .int .u32 264347078), (19, .int .u32 604807628), (20, .int .u32 770255983), (21, .int .u32 1249150122), (22, .int .u32 1555081692), (23, .int .u32 1996064986), (24, .int .u32 2554220882), (25, .int .u32 2821834349), (26, .int .u32 2952996808), (27, .int .u32 3210313671), (28, .int .u32 3336571891), (29, .int .u32 3584528711), (30, .int .u32 113926993), (31, .int .u32 338241895), (32, .int .u32 666307205), (33, .int .u32 773529912), (34, .int .u32 1294757372), (35, .int .u32 1396182291), (36, .int .u32 1695183700), (37, .int .u32 1986661051), (38, .int .u32 2177026350), (39, .int .u32 2456956037), (40, .int .u32 2730485921), (41, .int .u32 2820302411), (42, .int .u32 3259730800), (43, .int .u32 3345764771), (44, .int .u32 3516065817), (45, .int .u32 3600352804), (46, .int .u32 4094571909), (47, .int .u32 275423344), (48, .int .u32 430227734), (49, .int .u32 506948616), (50, .int .u32 659060556), (51, .int .u32 883997877), (52, .int .u32 958139571), (53, .int .u32 1322822218), (54, .int .u32 1537002063), (55, .int .u32 1747873779), (56, .int .u32 1955562222), (57, .int .u32 2024104815), (58, .int .u32 2227730452), (59, .int .u32 2361852424), (60, .int .u32 2428436474), (61, .int .u32 2756734187), (62, .int .u32 3204031479), (63, .int .u32 3329325298)] = some (nums .u32 k256).toArray := by kernel_rfl
theorem roots32_spec {w : World} (K : Value → World → Prop) (hK : ∀ w', Fr w w' nob → K (.agg (nums .u32 k256).toArray) w') : callK Tryz.prog 60 [] w K := by
 refine call_of Tryz.func60 Code.h60 (by simp[Code.c60]) ?_
 simp(disch:=omega)only[EZ,↓EP,↓reduceIte,Za,Zb,Zc,Zd,Ze,Zf,Zg,Zj,Zk,Zl,Zm,Zn,Zp,Zq,reduceCtorEq,Code.c60]
 refine al_k (nums .u32 (zs 64)) rfl fun w1 n1 => ?_
 simp(disch:=omega)only[EZ,↓EP,↓reduceIte,Za,Zb,Zc,Zd,Ze,Zf,Zg,Zj,Zk,Zl,Zm,Zn,Zp,Zq,reduceCtorEq]
 refine ⟨_, roots32_fill, ?_⟩
 simp(disch:=omega)only[EZ,↓EP,↓reduceIte,Za,Zb,Zc,Zd,Ze,Zf,Zg,Zj,Zk,Zl,Zm,Zn,Zp,Zq,reduceCtorEq]
 have hl : (nums .u32 k256).length = 64 := by rw[nums_length]; exact k256_len
 refine st_whole n1.blk hl rfl (nums_one _ _) fun w2 p2 => ?_
 simp(disch:=omega)only[EZ,↓EP,↓reduceIte,Za,Zb,Zc,Zd,Ze,Zf,Zg,Zj,Zk,Zl,Zm,Zn,Zp,Zq,reduceCtorEq]
 refine p2.blk.ldAgg hl (hK _ ?_)
 exact fr_of (p2.below (Nat.le_refl _) (n1.below (Nat.le_refl _) (Below.refl _ _))) rfl
theorem two_all (H S : List Int) (hH : H.length = 8) (hS : S.length = 8) : rounds (twoAdd H) 8 S = [s32 (at' H 0) (at' S 0), s32 (at' H 1) (at' S 1), s32 (at' H 2) (at' S 2), s32 (at' H 3) (at' S 3), s32 (at' H 4) (at' S 4), s32 (at' H 5) (at' S 5), s32 (at' H 6) (at' S 6), s32 (at' H 7) (at' S 7)] := by
 obtain ⟨a, b, c, d, e, f, g, i, rfl⟩ := len8 hH
 obtain ⟨a', b', c', d', e', f', g', i', rfl⟩ := len8 hS
 unfold s32
 show [IntKind.u32.wrap (a' + a), IntKind.u32.wrap (b' + b), IntKind.u32.wrap (c' + c), IntKind.u32.wrap (d' + d), IntKind.u32.wrap (e' + e), IntKind.u32.wrap (f' + f), IntKind.u32.wrap (g' + g), IntKind.u32.wrap (i' + i)] = [IntKind.u32.wrap (a + a'), IntKind.u32.wrap (b + b'), IntKind.u32.wrap (c + c'), IntKind.u32.wrap (d + d'), IntKind.u32.wrap (e + e'), IntKind.u32.wrap (f + f'), IntKind.u32.wrap (g + g'), IntKind.u32.wrap (i + i')]
 simp only[Int.add_comm]
theorem run2_succ (M : List Int) (j : Nat) : (runN 2 M (j + 1)).1 = two (runN 2 M j).1 (part 64 M j) := by
 rw[runN_succ,mix,if_neg (by decide),if_pos rfl]; rfl
theorem run2_len (M : List Int) : ∀ j, (runN 2 M j).1.length = 8
 | 0 => rfl
 | j + 1 => by rw[run2_succ]; exact two_len _ _ (run2_len M j)
def twoJ (w : World) (kb sb wb : Nat) (H p : List Int) (m : Nat) (ρ : Env) (w' : World) : Prop :=
 ∃ k : Nat, ρ 19 = .int .i64 k ∧ k ≤ 64 ∧ m = 64 - k ∧ ρ 11 = .int .u32 (at' (rounds twoStep k (twoInit H p)).s 0) ∧ ρ 12 = .int .u32 (at' (rounds twoStep k (twoInit H p)).s 1) ∧ ρ 13 = .int .u32 (at' (rounds twoStep k (twoInit H p)).s 2) ∧ ρ 14 = .int .u32 (at' (rounds twoStep k (twoInit H p)).s 3) ∧ ρ 15 = .int .u32 (at' (rounds twoStep k (twoInit H p)).s 4) ∧ ρ 16 = .int .u32 (at' (rounds twoStep k (twoInit H p)).s 5) ∧ ρ 17 = .int .u32 (at' (rounds twoStep k (twoInit H p)).s 6) ∧ ρ 18 = .int .u32 (at' (rounds twoStep k (twoInit H p)).s 7) ∧
  Blk w' kb (nums .u32 k256) ∧ Blk w' sb (nums .u32 H) ∧ Blk w' wb (nums .u32 (rowN (twoWd p) 64 64)) ∧ Below w.heap.size w w'
theorem twoInit_00 (h p : List Int) : (rounds twoStep 0 (twoInit h p)).s = h := rfl
set_option maxHeartbeats 4000000 in
theorem sha256_vw {w0 : World} {v : Value} {M : List Int} (hv : Vw .u8 w0 v M) (hmod : M.length % 64 = 0) (hm : M.length ≤ 16777600) (hb : byteL M) (K : Value → World → Prop)
  (hK : ∀ v' w', Gw .u8 w0 w' v' ((List.range 8).flatMap fun (i : Nat) => w4 (at' (runN 2 M (M.length / 64)).1 (i : Int))) → K v' w') : callK Tryz.prog 33 [v] w0 K := by
 obtain ⟨A, c, rfl, hc, hr0⟩ := hv
 refine call_of Tryz.func33 Code.h33 (by simp[Code.c33]) ?_
 simp(disch:=omega)only[EZ,↓EP,↓reduceIte,Za,Zb,Zc,Zd,Ze,Zf,Zg,Zj,Zk,Zl,Zm,Zn,Zp,Zq,reduceCtorEq,Code.c33]
 refine roots32_spec _ fun w fw => ?_
 have hr := hr0.nb fw
 clear hr0
 simp(disch:=omega)only[EZ,↓EP,↓reduceIte,Za,Zb,Zc,Zd,Ze,Zf,Zg,Zj,Zk,Zl,Zm,Zn,Zp,Zq,reduceCtorEq]
 refine al_k (nums .u32 (zs 64)) rfl fun w1 n1 => ?_
 simp(disch:=omega)only[EZ,↓EP,↓reduceIte,Za,Zb,Zc,Zd,Ze,Zf,Zg,Zj,Zk,Zl,Zm,Zn,Zp,Zq,reduceCtorEq]
 refine st_whole n1.blk (by rw[nums_length]; exact k256_len) rfl (nums_one _ _) fun w2 p2 => ?_
 simp(disch:=omega)only[EZ,↓EP,↓reduceIte,Za,Zb,Zc,Zd,Ze,Zf,Zg,Zj,Zk,Zl,Zm,Zn,Zp,Zq,reduceCtorEq]
 refine ⟨_, fill8 _ _ _ _ _ _ _ _ _, ?_⟩
 simp(disch:=omega)only[EZ,↓EP,↓reduceIte,Za,Zb,Zc,Zd,Ze,Zf,Zg,Zj,Zk,Zl,Zm,Zn,Zp,Zq,reduceCtorEq]
 refine al_k (nums .u32 (zs 8)) rfl fun w3 n3 => ?_
 simp(disch:=omega)only[EZ,↓EP,↓reduceIte,Za,Zb,Zc,Zd,Ze,Zf,Zg,Zj,Zk,Zl,Zm,Zn,Zp,Zq,reduceCtorEq]
 refine st_whole n3.blk rfl rfl (nums_one _ _) fun w4 p4 => ?_
 simp(disch:=omega)only[EZ,↓EP,↓reduceIte,Za,Zb,Zc,Zd,Ze,Zf,Zg,Zj,Zk,Zl,Zm,Zn,Zp,Zq,reduceCtorEq]
 have z1 := n1.size
 have z2 := p2.size
 have z3 := n3.size
 have z4 := p4.size
 have b4 : Below w.heap.size w w4 := p4.below (by omega) (n3.below (by omega) (p2.below (Nat.le_refl _) (n1.below (Nat.le_refl _) (Below.refl _ _))))
 have hkb4 := p4.keep (by omega) (n3.keep p2.blk)
 have hsb4 := p4.blk
 have hk0 : w.heap.size ≤ w.heap.size := Nat.le_refl _
 have hs0 : w.heap.size ≤ w2.heap.size := by omega
 have hks : w.heap.size ≠ w2.heap.size := by omega
 obtain ⟨kb, ekb⟩ : ∃ kb, kb = w.heap.size := ⟨_, rfl⟩
 obtain ⟨sb, esb⟩ : ∃ sb, sb = w2.heap.size := ⟨_, rfl⟩
 simp only[← ekb,← esb] at hkb4 hsb4 hk0 hs0 hks b4 ⊢
 refine loop_inv (fun t ρ w' => ∃ j : Nat, ρ 5 = .int .i64 (64 * (j : Int)) ∧ 64 * j ≤ M.length ∧ t = M.length - 64 * j ∧ Blk w' kb (nums .u32 k256) ∧ Blk w' sb (nums .u32 (runN 2 M j).1) ∧ Below kb w w') M.length ⟨0, by simp(disch:=omega)only[EZ,↓EP,↓reduceIte,Za,Zb,Zc,Zd,Ze,Zf,Zg,Zj,Zk,Zl,Zm,Zn,Zp,Zq,reduceCtorEq], by omega, by omega, hkb4, hsb4, b4⟩ ?_
 clear b4 n1 p2 n3 p4 hkb4 hsb4 z1 z2 z3 z4 w1
 rintro t ρ w3 hf ⟨j, h4, hj, rfl, hKb, hSb, b3⟩ N hN
 have r0 : ρ 0 = .slice A M.length c := by rw[hf 0 rfl]; simp(disch:=omega)only[EZ,↓EP,↓reduceIte,Za,Zb,Zc,Zd,Ze,Zf,Zg,Zj,Zk,Zl,Zm,Zn,Zp,Zq,reduceCtorEq]
 have rS : ρ 4 = .pointer (some ⟨sb, 0, none⟩) := by rw[hf 4 rfl]; simp(disch:=omega)only[EZ,↓EP,↓reduceIte,Za,Zb,Zc,Zd,Ze,Zf,Zg,Zj,Zk,Zl,Zm,Zn,Zp,Zq,reduceCtorEq,← esb,← ekb]
 have rK : ρ 3 = .pointer (some ⟨kb, 0, none⟩) := by rw[hf 3 rfl]; simp(disch:=omega)only[EZ,↓EP,↓reduceIte,Za,Zb,Zc,Zd,Ze,Zf,Zg,Zj,Zk,Zl,Zm,Zn,Zp,Zq,reduceCtorEq,← esb,← ekb]
 clear hf
 have ltk := hKb.lt
 have lts := hSb.lt
 by_cases hjl : 64 * (j : Int) < (M.length : Int)
 ·have hM0 : 0 < M.length := by omega
  simp(disch:=omega)only[EZ,↓EP,↓reduceIte,Za,Zb,Zc,Zd,Ze,Zf,Zg,Zj,Zk,Zl,Zm,Zn,Zp,Zq,reduceCtorEq,h4,r0,rS,rK]
  refine al_k (nums .u32 (zs 64)) rfl fun w4 n4 => ?_
  have b4 := n4.below (by omega) b3
  have hK4 := n4.keep hKb
  have hS4 := n4.keep hSb
  generalize hpp : part 64 M j = p
  have hpb : byteL p := by rw[← hpp]; exact byteL_part hb j
  simp(disch:=omega)only[EZ,↓EP,↓reduceIte,Za,Zb,Zc,Zd,Ze,Zf,Zg,Zj,Zk,Zl,Zm,Zn,Zp,Zq,reduceCtorEq,h4,r0,rS,rK]
  refine loop_inv (fun t ρ' w' => ∃ k : Nat, ρ' 7 = .int .i64 k ∧ k ≤ 64 ∧ t = 64 - k ∧ Blk w' kb (nums .u32 k256) ∧ Blk w' sb (nums .u32 (runN 2 M j).1) ∧ Blk w' w3.heap.size (nums .u32 (rowN (twoWd p) 64 k)) ∧ Below kb w w') 64 ⟨0, by simp(disch:=omega)only[EZ,↓EP,↓reduceIte,Za,Zb,Zc,Zd,Ze,Zf,Zg,Zj,Zk,Zl,Zm,Zn,Zp,Zq,reduceCtorEq], by omega, by omega, hK4, hS4, n4.blk, b4⟩ ?_
  clear n4 hK4 hS4 b4
  rintro t ρ5 w5 hf ⟨k, h6, hk, rfl, hK5, hS5, hW5, b5⟩ N5 hN5
  have q0 : ρ5 0 = .slice A M.length c := by rw[hf 0 rfl]; simp(disch:=omega)only[EZ,↓EP,↓reduceIte,Za,Zb,Zc,Zd,Ze,Zf,Zg,Zj,Zk,Zl,Zm,Zn,Zp,Zq,reduceCtorEq,r0]
  have qS : ρ5 4 = .pointer (some ⟨sb, 0, none⟩) := by rw[hf 4 rfl]; simp(disch:=omega)only[EZ,↓EP,↓reduceIte,Za,Zb,Zc,Zd,Ze,Zf,Zg,Zj,Zk,Zl,Zm,Zn,Zp,Zq,reduceCtorEq,rS]
  have qK : ρ5 3 = .pointer (some ⟨kb, 0, none⟩) := by rw[hf 3 rfl]; simp(disch:=omega)only[EZ,↓EP,↓reduceIte,Za,Zb,Zc,Zd,Ze,Zf,Zg,Zj,Zk,Zl,Zm,Zn,Zp,Zq,reduceCtorEq,rK]
  have qA : ρ5 5 = .int .i64 (64 * (j : Int)) := by rw[hf 5 rfl]; simp(disch:=omega)only[EZ,↓EP,↓reduceIte,Za,Zb,Zc,Zd,Ze,Zf,Zg,Zj,Zk,Zl,Zm,Zn,Zp,Zq,reduceCtorEq,h4]
  have qW : ρ5 6 = .pointer (some ⟨w3.heap.size, 0, none⟩) := by rw[hf 6 rfl]; simp(disch:=omega)only[EZ,↓EP,↓reduceIte,Za,Zb,Zc,Zd,Ze,Zf,Zg,Zj,Zk,Zl,Zm,Zn,Zp,Zq,reduceCtorEq]
  clear hf
  have hp5 : Rd w5 A (nums .u8 M) := hr.below (ekb ▸ b5)
  have hl5 := rowN_len (twoWd p) hk
  by_cases hkR : (k : Int) < 64
  ·have st : ∀ (x : Int) (m : Nat) (ρ6 : Env), x = twoWd p k → ρ6 7 = .int .i64 ((k + 1 : Nat) : Int) → (∀ w', Put (w5.drewN m) w' w3.heap.size (nums .u32 ((rowN (twoWd p) 64 k).set k x)) → endK N5 ρ6 w') := by
    intro x m ρ6 hx h6' w' pt
    rw[hx,rowN_set _ (by omega)] at pt
    exact hN5 (64 - (k + 1)) _ _ (by omega) ⟨k + 1, h6', by omega, rfl, pt.keep (by omega) (hK5.drewN m), pt.keep (by omega) (hS5.drewN m), pt.blk, pt.below (by omega) (below_drewN' b5 m)⟩
   by_cases hk16 : (k : Int) < 16
   ·obtain ⟨ad, e, c0, c1, c2, c3⟩ := four_at hp5 hc (lo := 64 * j + 4 * k) (by omega)
    have elo : (64 * (j : Int) + 4 * (k : Int)).toNat = 64 * j + 4 * k := by omega
    simp(disch:=omega)only[EZ,↓EP,↓reduceIte,Za,Zb,Zc,Zd,Ze,Zf,Zg,Zj,Zk,Zl,Zm,Zn,Zp,Zq,reduceCtorEq,W_join,h6,q0,qS,qA,qW,elo,e,c0,c1,c2,c3]
    intro m
    refine st_num (hW5.drewN m) (by omega) fun w6 p6 => ?_
    simp(disch:=omega)only[EZ,↓EP,↓reduceIte,Za,Zb,Zc,Zd,Ze,Zf,Zg,Zj,Zk,Zl,Zm,Zn,Zp,Zq,reduceCtorEq,h6]
    refine st _ m _ ?_ (by simp(disch:=omega)only[EZ,↓EP,↓reduceIte,Za,Zb,Zc,Zd,Ze,Zf,Zg,Zj,Zk,Zl,Zm,Zn,Zp,Zq,reduceCtorEq,h6,Int.natCast_add]) w6 p6
    rw[twoWd_lo (by omega),← hpp]
    exact oneWd_read hb (by omega)
   ·have e2 : ((k : Int) - 2).toNat = k - 2 := by omega
    have e7 : ((k : Int) - 7).toNat = k - 7 := by omega
    have e15 : ((k : Int) - 15).toNat = k - 15 := by omega
    have e16 : ((k : Int) - 16).toNat = k - 16 := by omega
    have g : ∀ i, i < k → w5.cell? ⟨w3.heap.size, i, none⟩ = some (.int .u32 (twoWd p i)) := fun i hi => by rw[hW5.numN (j := i) (by omega),rowN_at _ hi]
    have g2 := g (k - 2) (by omega)
    have g7 := g (k - 7) (by omega)
    have g15 := g (k - 15) (by omega)
    have g16 := g (k - 16) (by omega)
    simp(disch:=omega)only[EZ,↓EP,↓reduceIte,Za,Zb,Zc,Zd,Ze,Zf,Zg,Zj,Zk,Zl,Zm,Zn,Zp,Zq,reduceCtorEq,W_join,h6,q0,qS,qA,qW,e2,e15,g2,g15]
    intro m0
    refine right_q _ 17 (by omega) (by omega) _ _ ?_
    simp(disch:=omega)only[EZ,↓EP,↓reduceIte,Za,Zb,Zc,Zd,Ze,Zf,Zg,Zj,Zk,Zl,Zm,Zn,Zp,Zq,reduceCtorEq,h6,qW,e7,e16,g7,g16]
    refine right_q _ 19 (by omega) (by omega) _ _ ?_
    simp(disch:=omega)only[EZ,↓EP,↓reduceIte,Za,Zb,Zc,Zd,Ze,Zf,Zg,Zj,Zk,Zl,Zm,Zn,Zp,Zq,reduceCtorEq,h6,qW,e7,e16,g7,g16]
    refine right_q _ 7 (by omega) (by omega) _ _ ?_
    simp(disch:=omega)only[EZ,↓EP,↓reduceIte,Za,Zb,Zc,Zd,Ze,Zf,Zg,Zj,Zk,Zl,Zm,Zn,Zp,Zq,reduceCtorEq,h6,qW,e7,e16,g7,g16]
    refine right_q _ 18 (by omega) (by omega) _ _ ?_
    simp(disch:=omega)only[EZ,↓EP,↓reduceIte,Za,Zb,Zc,Zd,Ze,Zf,Zg,Zj,Zk,Zl,Zm,Zn,Zp,Zq,reduceCtorEq,h6,qW,e7,e16,g7,g16]
    intro m
    refine st_num (hW5.drewN _) (by omega) fun w6 p6 => ?_
    simp(disch:=omega)only[EZ,↓EP,↓reduceIte,Za,Zb,Zc,Zd,Ze,Zf,Zg,Zj,Zk,Zl,Zm,Zn,Zp,Zq,reduceCtorEq,h6]
    refine st _ _ _ ?_ (by simp(disch:=omega)only[EZ,↓EP,↓reduceIte,Za,Zb,Zc,Zd,Ze,Zf,Zg,Zj,Zk,Zl,Zm,Zn,Zp,Zq,reduceCtorEq,h6,Int.natCast_add]) w6 p6
    rw[twoWd_hi (t := k) (by omega)]
    rfl
  ·have hkR' : k = 64 := by omega
   subst hkR'
   clear hN5
   have hH8 : (runN 2 M j).1.length = 8 := run2_len M j
   have g : ∀ i : Nat, i < 8 → w5.cell? ⟨sb, i, none⟩ = some (.int .u32 (at' (runN 2 M j).1 (i : Int))) := fun i hi => hS5.numN (j := i) (by omega)
   have a0 := g 0 (by omega)
   have a1 := g 1 (by omega)
   have a2 := g 2 (by omega)
   have a3 := g 3 (by omega)
   have a4 := g 4 (by omega)
   have a5 := g 5 (by omega)
   have a6 := g 6 (by omega)
   have a7 := g 7 (by omega)
   clear g
   simp(disch:=omega)only[EZ,↓EP,↓reduceIte,Za,Zb,Zc,Zd,Ze,Zf,Zg,Zj,Zk,Zl,Zm,Zn,Zp,Zq,reduceCtorEq,h6,q0,qS,qA,qW,a0,a1,a2,a3,a4,a5,a6,a7]
   intro m
   refine loop_inv (twoJ w kb sb w3.heap.size (runN 2 M j).1 p) 64 ⟨0, by simp(disch:=omega)only[EZ,↓EP,↓reduceIte,Za,Zb,Zc,Zd,Ze,Zf,Zg,Zj,Zk,Zl,Zm,Zn,Zp,Zq,reduceCtorEq], by omega, by omega, ?_⟩ ?_
   ·simp only[twoInit_00]
    simp(disch:=omega)only[EZ,↓EP,↓reduceIte,Za,Zb,Zc,Zd,Ze,Zf,Zg,Zj,Zk,Zl,Zm,Zn,Zp,Zq,reduceCtorEq]
    exact ⟨hK5.drewN m, hS5.drewN m, hW5.drewN m, ekb ▸ below_drewN' b5 m⟩
   clear a0 a1 a2 a3 a4 a5 a6 a7 hl5 hp5
   rintro t ρ7 w7 hf ⟨k, h13, hk, rfl, c0, c1, c2, c3, c4, c5, c6, c7, hK7, hS7, hW7, b7⟩ N7 hN7
   have y0 : ρ7 0 = .slice A M.length c := by rw[hf 0 rfl]; simp(disch:=omega)only[EZ,↓EP,↓reduceIte,Za,Zb,Zc,Zd,Ze,Zf,Zg,Zj,Zk,Zl,Zm,Zn,Zp,Zq,reduceCtorEq,q0]
   have yS : ρ7 4 = .pointer (some ⟨sb, 0, none⟩) := by rw[hf 4 rfl]; simp(disch:=omega)only[EZ,↓EP,↓reduceIte,Za,Zb,Zc,Zd,Ze,Zf,Zg,Zj,Zk,Zl,Zm,Zn,Zp,Zq,reduceCtorEq,qS]
   have yK : ρ7 3 = .pointer (some ⟨kb, 0, none⟩) := by rw[hf 3 rfl]; simp(disch:=omega)only[EZ,↓EP,↓reduceIte,Za,Zb,Zc,Zd,Ze,Zf,Zg,Zj,Zk,Zl,Zm,Zn,Zp,Zq,reduceCtorEq,qK]
   have yA : ρ7 5 = .int .i64 (64 * (j : Int)) := by rw[hf 5 rfl]; simp(disch:=omega)only[EZ,↓EP,↓reduceIte,Za,Zb,Zc,Zd,Ze,Zf,Zg,Zj,Zk,Zl,Zm,Zn,Zp,Zq,reduceCtorEq,qA]
   have yW : ρ7 6 = .pointer (some ⟨w3.heap.size, 0, none⟩) := by rw[hf 6 rfl]; simp(disch:=omega)only[EZ,↓EP,↓reduceIte,Za,Zb,Zc,Zd,Ze,Zf,Zg,Zj,Zk,Zl,Zm,Zn,Zp,Zq,reduceCtorEq,qW]
   clear hf q0 qS qK qA qW
   have hx := twoWd_step (runN 2 M j).1 p k
   have hsl := two_slen (twoInit (runN 2 M j).1 p) hH8 k
   generalize hst : rounds twoStep k (twoInit (runN 2 M j).1 p) = st at c0 c1 c2 c3 c4 c5 c6 c7 hx hsl
   by_cases hkR : (k : Int) < 64
   ·have gk : w7.cell? ⟨w3.heap.size, k, none⟩ = some (.int .u32 (twoWd p k)) := by rw[hW7.numN (j := k) (by rw [rowN_len _ (Nat.le_refl _)]; omega),rowN_at _ (by omega)]
    have gt : w7.cell? ⟨kb, k, none⟩ = some (.int .u32 (at' k256 (k : Int))) := hK7.numN (j := k) (by rw[k256_len]; omega)
    have fin : ∀ (w8 : World) (ρ8 : Env) (x y : Int), twoX k (twoW k st.w) st.s = x → twoY st.s = y → ρ8 19 = .int .i64 ((k + 1 : Nat) : Int) → ρ8 11 = .int .u32 (s32 x y) → ρ8 12 = .int .u32 (at' st.s 0) → ρ8 13 = .int .u32 (at' st.s 1) → ρ8 14 = .int .u32 (at' st.s 2) → ρ8 15 = .int .u32 (s32 (at' st.s 3) x) → ρ8 16 = .int .u32 (at' st.s 4) → ρ8 17 = .int .u32 (at' st.s 5) → ρ8 18 = .int .u32 (at' st.s 6) →
      Blk w8 kb (nums .u32 k256) → Blk w8 sb (nums .u32 (runN 2 M j).1) → Blk w8 w3.heap.size (nums .u32 (rowN (twoWd p) 64 64)) → Below w.heap.size w w8 → endK N7 ρ8 w8 := by
     intro w8 ρ8 x y hx' hy' g1 d0 d1 d2 d3 d4 d5 d6 d7 g7 g8 g9 g10
     refine hN7 (64 - (k + 1)) _ _ (by omega) ⟨k + 1, g1, by omega, rfl, ?_⟩
     rw[rounds,hst,twoStep,hx',hy']
     exact ⟨d0, d1, d2, d3, d4, d5, d6, d7, g7, g8, g9, g10⟩
    clear hN7
    simp(disch:=omega)only[EZ,↓EP,↓reduceIte,Za,Zb,Zc,Zd,Ze,Zf,Zg,Zj,Zk,Zl,Zm,Zn,Zp,Zq,reduceCtorEq,W_join,h13,yS,yK,yW,c0,c1,c2,c3,c4,c5,c6,c7,gk,gt]
    refine right_q _ 6 (by omega) (by omega) _ _ ?_
    simp(disch:=omega)only[EZ,↓EP,↓reduceIte,Za,Zb,Zc,Zd,Ze,Zf,Zg,Zj,Zk,Zl,Zm,Zn,Zp,Zq,reduceCtorEq,h13,yS,yK,yW,c0,c1,c2,c3,c4,c5,c6,c7,gk,gt]
    refine right_q _ 11 (by omega) (by omega) _ _ ?_
    simp(disch:=omega)only[EZ,↓EP,↓reduceIte,Za,Zb,Zc,Zd,Ze,Zf,Zg,Zj,Zk,Zl,Zm,Zn,Zp,Zq,reduceCtorEq,h13,yS,yK,yW,c0,c1,c2,c3,c4,c5,c6,c7,gk,gt]
    refine right_q _ 25 (by omega) (by omega) _ _ ?_
    simp(disch:=omega)only[EZ,↓EP,↓reduceIte,Za,Zb,Zc,Zd,Ze,Zf,Zg,Zj,Zk,Zl,Zm,Zn,Zp,Zq,reduceCtorEq,h13,yS,yK,yW,c0,c1,c2,c3,c4,c5,c6,c7,gk,gt]
    intro m1
    refine right_d _ 2 (by omega) (by omega) _ _ fun m2 => ?_
    simp(disch:=omega)only[EZ,↓EP,↓reduceIte,Za,Zb,Zc,Zd,Ze,Zf,Zg,Zj,Zk,Zl,Zm,Zn,Zp,Zq,reduceCtorEq,h13,c0,c1,c2,c3,c4,c5,c6,c7]
    refine right_d _ 13 (by omega) (by omega) _ _ fun m3 => ?_
    simp(disch:=omega)only[EZ,↓EP,↓reduceIte,Za,Zb,Zc,Zd,Ze,Zf,Zg,Zj,Zk,Zl,Zm,Zn,Zp,Zq,reduceCtorEq,h13,c0,c1,c2,c3,c4,c5,c6,c7]
    refine right_d _ 22 (by omega) (by omega) _ _ fun m4 => ?_
    simp(disch:=omega)only[EZ,↓EP,↓reduceIte,Za,Zb,Zc,Zd,Ze,Zf,Zg,Zj,Zk,Zl,Zm,Zn,Zp,Zq,reduceCtorEq,h13,c0,c1,c2,c3,c4,c5,c6,c7]
    refine fin _ _ _ _ ?_ ?_ (by simp(disch:=omega)only[EZ,↓EP,↓reduceIte,Za,Zb,Zc,Zd,Ze,Zf,Zg,Zj,Zk,Zl,Zm,Zn,Zp,Zq,reduceCtorEq,h13,Int.natCast_add]) (by simp(disch:=omega)only[EZ,↓EP,↓reduceIte,Za,Zb,Zc,Zd,Ze,Zf,Zg,Zj,Zk,Zl,Zm,Zn,Zp,Zq,reduceCtorEq]; rfl) (by simp(disch:=omega)only[EZ,↓EP,↓reduceIte,Za,Zb,Zc,Zd,Ze,Zf,Zg,Zj,Zk,Zl,Zm,Zn,Zp,Zq,reduceCtorEq,c0]) (by simp(disch:=omega)only[EZ,↓EP,↓reduceIte,Za,Zb,Zc,Zd,Ze,Zf,Zg,Zj,Zk,Zl,Zm,Zn,Zp,Zq,reduceCtorEq,c1]) (by simp(disch:=omega)only[EZ,↓EP,↓reduceIte,Za,Zb,Zc,Zd,Ze,Zf,Zg,Zj,Zk,Zl,Zm,Zn,Zp,Zq,reduceCtorEq,c2]) (by simp(disch:=omega)only[EZ,↓EP,↓reduceIte,Za,Zb,Zc,Zd,Ze,Zf,Zg,Zj,Zk,Zl,Zm,Zn,Zp,Zq,reduceCtorEq,c3]; rfl) (by simp(disch:=omega)only[EZ,↓EP,↓reduceIte,Za,Zb,Zc,Zd,Ze,Zf,Zg,Zj,Zk,Zl,Zm,Zn,Zp,Zq,reduceCtorEq,c4]) (by simp(disch:=omega)only[EZ,↓EP,↓reduceIte,Za,Zb,Zc,Zd,Ze,Zf,Zg,Zj,Zk,Zl,Zm,Zn,Zp,Zq,reduceCtorEq,c5]) (by simp(disch:=omega)only[EZ,↓EP,↓reduceIte,Za,Zb,Zc,Zd,Ze,Zf,Zg,Zj,Zk,Zl,Zm,Zn,Zp,Zq,reduceCtorEq,c6]) (hK7.drewN _) (hS7.drewN _) (hW7.drewN _) (below_drewN' b7 _)
    ·rw[twoX,hx,not_u32,chx32]
     rfl
    ·rw[twoY,majx32]
     rfl
   ·have hkR' : k = 64 := by omega
    subst hkR'
    clear hN7
    have g : ∀ i : Nat, i < 8 → w7.cell? ⟨sb, i, none⟩ = some (.int .u32 (at' (runN 2 M j).1 (i : Int))) := fun i hi => hS7.numN (j := i) (by omega)
    have a0 := g 0 (by omega)
    have a1 := g 1 (by omega)
    have a2 := g 2 (by omega)
    have a3 := g 3 (by omega)
    have a4 := g 4 (by omega)
    have a5 := g 5 (by omega)
    have a6 := g 6 (by omega)
    have a7 := g 7 (by omega)
    clear g
    simp(disch:=omega)only[EZ,↓EP,↓reduceIte,Za,Zb,Zc,Zd,Ze,Zf,Zg,Zj,Zk,Zl,Zm,Zn,Zp,Zq,reduceCtorEq,h13,y0,yS,yA,yW,c0,c1,c2,c3,c4,c5,c6,c7,a0,a1,a2,a3,a4,a5,a6,a7]
    refine ⟨_, fill8 _ _ _ _ _ _ _ _ _, ?_⟩
    simp(disch:=omega)only[EZ,↓EP,↓reduceIte,Za,Zb,Zc,Zd,Ze,Zf,Zg,Zj,Zk,Zl,Zm,Zn,Zp,Zq,reduceCtorEq,y0,yS,yA]
    refine st_whole hS7 (by rw[nums_length]; rfl) (by rw[nums_length,hH8]) (nums_one _ _) fun w8 p8 => ?_
    simp(disch:=omega)only[EZ,↓EP,↓reduceIte,Za,Zb,Zc,Zd,Ze,Zf,Zg,Zj,Zk,Zl,Zm,Zn,Zp,Zq,reduceCtorEq,yA]
    refine hN (M.length - 64 * (j + 1)) _ _ (by omega) ⟨j + 1, by simp(disch:=omega)only[EZ,↓EP,↓reduceIte,Za,Zb,Zc,Zd,Ze,Zf,Zg,Zj,Zk,Zl,Zm,Zn,Zp,Zq,reduceCtorEq,yA]; congr 1, by omega, rfl, p8.keep (by omega) hK7, ?_, ?_⟩
    ·have e := run2_succ M j
     rw[hpp] at e
     rw[e,two,two_all _ _ hH8 (by rw [hst]; exact hsl),hst]
     exact p8.blk
    ·exact ekb ▸ p8.below (by omega) b7
 ·have hje : M.length / 64 = j := by omega
  simp(disch:=omega)only[EZ,↓EP,↓reduceIte,Za,Zb,Zc,Zd,Ze,Zf,Zg,Zj,Zk,Zl,Zm,Zn,Zp,Zq,reduceCtorEq,h4,r0,rS]
  clear hN
  rw[hje] at hK
  have hH8 : (runN 2 M j).1.length = 8 := run2_len M j
  have f3 : Fr w w3 nob := fr_of b3 ekb
  refine loop_inv (fun t ρ w' => ∃ (i : Nat) (O : Value), ρ 23 = .int .i64 i ∧ ρ 22 = O ∧ i ≤ 8 ∧ t = 8 - i ∧ Gw .u8 w3 w' O ((List.range i).flatMap fun (i : Nat) => Spec.w4 (at' (runN 2 M j).1 (i : Int)))) 8 ⟨0, .slice none 0 0, by simp(disch:=omega)only[EZ,↓EP,↓reduceIte,Za,Zb,Zc,Zd,Ze,Zf,Zg,Zj,Zk,Zl,Zm,Zn,Zp,Zq,reduceCtorEq], by simp(disch:=omega)only[EZ,↓EP,↓reduceIte,Za,Zb,Zc,Zd,Ze,Zf,Zg,Zj,Zk,Zl,Zm,Zn,Zp,Zq,reduceCtorEq], by omega, by omega, Gw.nil _ _⟩ ?_
  rintro t ρ8 w8 hf ⟨i, O, h18, h17, hi, rfl, G⟩ N hN
  have q3 : ρ8 4 = .pointer (some ⟨sb, 0, none⟩) := by rw[hf 4 rfl]; simp(disch:=omega)only[EZ,↓EP,↓reduceIte,Za,Zb,Zc,Zd,Ze,Zf,Zg,Zj,Zk,Zl,Zm,Zn,Zp,Zq,reduceCtorEq,rS]
  clear hf
  by_cases hi5 : (i : Int) < 8
  ·have hcw : w8.cell? ⟨sb, i, none⟩ = some (.int .u32 (at' (runN 2 M j).1 (i : Int))) := (hSb.nb G.fr).numN (j := i) (by omega)
   have hgl := flat_len (f := fun (i : Nat) => Spec.w4 (at' (runN 2 M j).1 (i : Int))) (n := 4) (fun _ => rfl) i
   simp(disch:=omega)only[EZ,↓EP,↓reduceIte,Za,Zb,Zc,Zd,Ze,Zf,Zg,Zj,Zk,Zl,Zm,Zn,Zp,Zq,reduceCtorEq,h18,h17,q3,hcw]
   intro m1
   have G1 := G.drewN (1 + m1)
   refine bsl4 fun w9 n9 => ?_
   have G2 := G1.new n9
   simp(disch:=omega)only[EZ,↓EP,↓reduceIte,Za,Zb,Zc,Zd,Ze,Zf,Zg,Zj,Zk,Zl,Zm,Zn,Zp,Zq,reduceCtorEq,h17]
   intro m2
   refine app_num (G2.drewN m2).sl rfl (n9.rdl.drewN m2) (by rw[hgl]; simp only[List.length_cons,List.length_nil]; omega) (by omega) fun v10 w10 a10 => ?_
   have G3 := (G2.drewN m2).apd a10
   simp(disch:=omega)only[EZ,↓EP,↓reduceIte,Za,Zb,Zc,Zd,Ze,Zf,Zg,Zj,Zk,Zl,Zm,Zn,Zp,Zq,reduceCtorEq,h18]
   intro m3
   refine hN (8 - (i + 1)) _ _ (by omega) ⟨i + 1, v10, by simp(disch:=omega)only[EZ,↓EP,↓reduceIte,Za,Zb,Zc,Zd,Ze,Zf,Zg,Zj,Zk,Zl,Zm,Zn,Zp,Zq,reduceCtorEq,h18,Int.natCast_add], by simp(disch:=omega)only[EZ,↓EP,↓reduceIte,Za,Zb,Zc,Zd,Ze,Zf,Zg,Zj,Zk,Zl,Zm,Zn,Zp,Zq,reduceCtorEq], by omega, rfl, ?_⟩
   rw[flat_succ]
   exact G3.drewN m3
  ·have hie : i = 8 := by omega
   subst hie
   simp(disch:=omega)only[EZ,↓EP,↓reduceIte,Za,Zb,Zc,Zd,Ze,Zf,Zg,Zj,Zk,Zl,Zm,Zn,Zp,Zq,reduceCtorEq,h18,h17]
   exact hK O w8 (G.from (fw.nb f3))
end Go.Proofs.YtcgplgpdcfocpaaGreatDoor.Spec
end
