/- RsaSalted: what is used, in one text. -/
import Derived.Test.YtcgplgpdcfocpaaGreatDoorRsaSaltedr4
set_option linter.unusedVariables false
set_option linter.unusedSimpArgs false
set_option maxRecDepth 100000
open Int renaming reduceAdd → Za, reduceEq → Zb, reduceLE → Zc, reduceLT → Zd, reduceMul → Ze, reduceNeg → Zf, reducePow → Zg, reduceSub → Zj, reduceToNat → Zk
open Nat renaming reduceAdd → Zl, reduceEqDiff → Zm, reduceLT → Zn, reduceLeDiff → Zp, reduceMul → Zq
section
namespace Go.Proofs.YtcgplgpdcfocpaaGreatDoor.Der
open Go Go.RowKit Go.Proofs Go.Proofs.YtcgplgpdcfocpaaGreatDoor.Eng Go.Proofs.YtcgplgpdcfocpaaGreatDoor.Code
attribute [local irreducible] callK S.W opsW scrW scrT
open Go.Proofs.YtcgplgpdcfocpaaGreatDoor.Spec
attribute [local irreducible] putR putOidR infoR
theorem known_k {alg : Int} {sum : List Int} {A : Option Addr} {c : Nat} {w : World} (hs : sum.length ≤ 9223372036854775807) {K : Value → World → Prop} (hK : K (.bool (decide (0 < sizeI alg) && decide ((sum.length : Int) = sizeI alg))) w) : callK Tryz.prog 26 [.int .i64 alg, .slice A sum.length c] w K := by
 refine call_of Tryz.func26 Code.h26 (by simp[Code.c26]) ?_
 simp(disch:=omega)only[Zu,Zv,Zx,Zz,EZ,↓EP,↓reduceIte,Za,Zb,Zc,Zd,Ze,Zf,Zg,Zj,Zk,Zl,Zm,Zn,Zp,Zq,reduceCtorEq,Code.c26]
 refine size_spec alg _ _ ?_
 by_cases c0 : 0 < sizeI alg
 ·simp(disch:=omega)only[Zu,Zv,Zx,Zz,EZ,↓EP,↓reduceIte,Za,Zb,Zc,Zd,Ze,Zf,Zg,Zj,Zk,Zl,Zm,Zn,Zp,Zq,reduceCtorEq,c0]
  refine size_spec alg _ _ ?_
  by_cases c1 : (sum.length : Int) = sizeI alg
  ·rw[decide_eq_true c0,decide_eq_true c1] at hK
   simp(disch:=omega)only[Zu,Zv,Zx,Zz,EZ,↓EP,↓reduceIte,Za,Zb,Zc,Zd,Ze,Zf,Zg,Zj,Zk,Zl,Zm,Zn,Zp,Zq,reduceCtorEq,c0,c1]
   exact hK
  ·rw[decide_eq_true c0,decide_eq_false c1] at hK
   simp(disch:=omega)only[Zu,Zv,Zx,Zz,EZ,↓EP,↓reduceIte,Za,Zb,Zc,Zd,Ze,Zf,Zg,Zj,Zk,Zl,Zm,Zn,Zp,Zq,reduceCtorEq,c0,c1]
   exact hK
 ·rw[decide_eq_false c0,Bool.false_and] at hK
  simp(disch:=omega)only[Zu,Zv,Zx,Zz,EZ,↓EP,↓reduceIte,Za,Zb,Zc,Zd,Ze,Zf,Zg,Zj,Zk,Zl,Zm,Zn,Zp,Zq,reduceCtorEq,c0]
  exact hK
theorem sizeI_nn (alg : Int) : 0 ≤ sizeI alg ∧ sizeI alg ≤ 64 := by
 unfold sizeI
 repeat' split
 all_goals omega
set_option maxHeartbeats 4000000 in
theorem pad_k {alg n : Int} {sum : List Int} {v : Value} {w : World} (hn : -9223372036854775808 ≤ n ∧ n ≤ 9223372036854775807) (hv : Vw .u8 w v sum) (hs : sum.length ≤ 9223372036854775807) {K : Value → World → Prop}
  (hK : ∀ v' w', Gw .u8 w w' v' (padR alg sum n).1 → K (pr2 v' (padR alg sum n).2) w') : callK Tryz.prog 23 [.int .i64 alg, v, .int .i64 n] w K := by
 refine call_of Tryz.func23 Code.h23 (by simp[Code.c23]) ?_
 have hv0 := hv
 obtain ⟨A, c, rfl, hc, hr⟩ := hv0
 have hz := sizeI_nn alg
 have bad1 : (sizeI alg = 0 ∨ (sum.length : Int) ≠ sizeI alg ∨ 2048 < n) → K (pr2 (.slice none 0 0) 1) w := fun h => by
  have e : padR alg sum n = ([], 1) := if_pos h
  rw[e] at hK
  exact hK _ _ (Gw.nil _ _)
 simp(disch:=omega)only[Zu,Zv,Zx,Zz,EZ,↓EP,↓reduceIte,Za,Zb,Zc,Zd,Ze,Zf,Zg,Zj,Zk,Zl,Zm,Zn,Zp,Zq,reduceCtorEq,Code.c23]
 refine known_k hs ?_
 by_cases c0 : 0 < sizeI alg ∧ (sum.length : Int) = sizeI alg
 rotate_left
 ·have : (decide (0 < sizeI alg) && decide ((sum.length : Int) = sizeI alg)) = false := by
   by_cases h : 0 < sizeI alg
   ·have : ¬ (sum.length : Int) = sizeI alg := fun e => c0 ⟨h, e⟩
    simp[this]
   ·simp[h]
  rw[this]
  simp(disch:=omega)only[Zu,Zv,Zx,Zz,EZ,↓EP,↓reduceIte,Za,Zb,Zc,Zd,Ze,Zf,Zg,Zj,Zk,Zl,Zm,Zn,Zp,Zq,reduceCtorEq,Bool.not_false]
  exact bad1 (by omega)
 obtain ⟨c1, c2⟩ := c0
 rw[decide_eq_true c1,decide_eq_true c2,Bool.true_and]
 by_cases c3 : 2048 < n
 ·simp(disch:=omega)only[Zu,Zv,Zx,Zz,EZ,↓EP,↓reduceIte,Za,Zb,Zc,Zd,Ze,Zf,Zg,Zj,Zk,Zl,Zm,Zn,Zp,Zq,reduceCtorEq,Bool.not_true,c3]
  exact bad1 (.inr (.inr c3))
 have hR : padR alg sum n = if n < (infoR alg sum).length + 11 then ([], 2) else ([0, 1] ++ List.replicate (n.toNat - (infoR alg sum).length - 3) 255 ++ [0] ++ infoR alg sum, 0) := if_neg (by omega)
 have hil := info_len (alg := alg) (sum := sum) (by omega)
 simp(disch:=omega)only[Zu,Zv,Zx,Zz,EZ,↓EP,↓reduceIte,Za,Zb,Zc,Zd,Ze,Zf,Zg,Zj,Zk,Zl,Zm,Zn,Zp,Zq,reduceCtorEq,Bool.not_true,c3]
 refine info_k hv (by omega) fun v1 w1 g1 => ?_
 obtain ⟨A1, d1, rfl, hd1, hr1, _⟩ := g1.sl.read
 by_cases c4 : n < (infoR alg sum).length + 11
 ·rw[if_pos c4] at hR
  rw[hR] at hK
  simp(disch:=omega)only[Zu,Zv,Zx,Zz,EZ,↓EP,↓reduceIte,Za,Zb,Zc,Zd,Ze,Zf,Zg,Zj,Zk,Zl,Zm,Zn,Zp,Zq,reduceCtorEq,c4]
  exact hK _ _ ⟨Sl.nil _ _, (fun b e => by cases e), g1.fr⟩
 rw[if_neg c4] at hR
 rw[hR] at hK
 obtain ⟨q, hq⟩ : ∃ q : Nat, n = (infoR alg sum).length + 3 + q := ⟨(n - (infoR alg sum).length - 3).toNat, by omega⟩
 have hq1 : n.toNat - (infoR alg sum).length - 3 = q := by omega
 rw[hq1] at hK
 simp(disch:=omega)only[Zu,Zv,Zx,Zz,EZ,↓EP,↓reduceIte,Za,Zb,Zc,Zd,Ze,Zf,Zg,Zj,Zk,Zl,Zm,Zn,Zp,Zq,reduceCtorEq,c4]
 refine bsl2 fun w2 n2 => ?_
 have G2 : Gw .u8 w1 w2 (.slice (some ⟨w1.heap.size, 0, none⟩) 2 2) [0, 1] := ⟨n2.sl, fun b e => by cases e; exact Nat.le_refl _, n2.fr nob⟩
 simp(disch:=omega)only[Zu,Zv,Zx,Zz,EZ,↓EP,↓reduceIte,Za,Zb,Zc,Zd,Ze,Zf,Zg,Zj,Zk,Zl,Zm,Zn,Zp,Zq,reduceCtorEq]
 refine bsl1 fun w3 n3 => ?_
 have f3 := n3.fr nob
 have e1 : n - ((infoR alg sum).length : Int) - 3 = (q : Int) := by omega
 simp(disch:=omega)only[Zu,Zv,Zx,Zz,EZ,↓EP,↓reduceIte,Za,Zb,Zc,Zd,Ze,Zf,Zg,Zj,Zk,Zl,Zm,Zn,Zp,Zq,reduceCtorEq,e1]
 refine repeat_k n3.rdl (by omega) (by omega) fun A4 d4 w4 hd4 hr4 f4 => ?_
 simp(disch:=omega)only[Zu,Zv,Zx,Zz,EZ,↓EP,↓reduceIte,Za,Zb,Zc,Zd,Ze,Zf,Zg,Zj,Zk,Zl,Zm,Zn,Zp,Zq,reduceCtorEq]
 refine app_num ((G2.step f3).step f4).sl (by simp) hr4 (by simp; omega) (by decide) fun v5 w5 a5 => ?_
 have G5 := ((G2.step f3).step f4).apd a5
 obtain ⟨A5, d5, rfl, _, _, _⟩ := G5.sl.read
 simp(disch:=omega)only[Zu,Zv,Zx,Zz,EZ,↓EP,↓reduceIte,Za,Zb,Zc,Zd,Ze,Zf,Zg,Zj,Zk,Zl,Zm,Zn,Zp,Zq,reduceCtorEq]
 refine bsl1 fun w6 n6 => ?_
 have f6 := n6.fr nob
 simp(disch:=omega)only[Zu,Zv,Zx,Zz,EZ,↓EP,↓reduceIte,Za,Zb,Zc,Zd,Ze,Zf,Zg,Zj,Zk,Zl,Zm,Zn,Zp,Zq,reduceCtorEq]
 refine app_num (G5.step f6).sl rfl n6.rdl (by simp; omega) (by decide) fun v7 w7 a7 => ?_
 have G7 := (G5.step f6).apd a7
 obtain ⟨A7, d7, rfl, _, _, _⟩ := G7.sl.read
 have hr8 : Rd w7 A1 (nums .u8 (infoR alg sum)) := hr1.nb G7.fr
 simp(disch:=omega)only[Zu,Zv,Zx,Zz,EZ,↓EP,↓reduceIte,Za,Zb,Zc,Zd,Ze,Zf,Zg,Zj,Zk,Zl,Zm,Zn,Zp,Zq,reduceCtorEq]
 refine app_num G7.sl rfl hr8 (by simp; omega) (by decide) fun v8 w8 a8 => ?_
 have G8 := G7.apd a8
 simp(disch:=omega)only[Zu,Zv,Zx,Zz,EZ,↓EP,↓reduceIte,Za,Zb,Zc,Zd,Ze,Zf,Zg,Zj,Zk,Zl,Zm,Zn,Zp,Zq,reduceCtorEq]
 refine hK _ w8 ⟨G8.sl, fun b e => ?_, g1.fr.nb G8.fr⟩
 have := G8.up b e
 have := g1.fr.size
 omega
end Go.Proofs.YtcgplgpdcfocpaaGreatDoor.Der
end
section
namespace Go.Proofs.YtcgplgpdcfocpaaGreatDoor.Der
open Go Go.RowKit Go.Proofs Go.Proofs.YtcgplgpdcfocpaaGreatDoor.Eng Go.Proofs.YtcgplgpdcfocpaaGreatDoor.Code
attribute [local irreducible] callK S.W opsW scrW scrT
open Go.Proofs.YtcgplgpdcfocpaaGreatDoor.Spec
attribute [local irreducible] putR putOidR infoR
end Go.Proofs.YtcgplgpdcfocpaaGreatDoor.Der
end
section
namespace Go.Proofs.YtcgplgpdcfocpaaGreatDoor.Spec
open Go Go.RowKit Go.Proofs Go.Proofs.YtcgplgpdcfocpaaGreatDoor.Eng Go.Proofs.YtcgplgpdcfocpaaGreatDoor.Code Go.Proofs.YtcgplgpdcfocpaaGreatDoor.Big
attribute [local irreducible] callK S.W opsW scrW
theorem fr_drewN' (w : World) (n : Nat) : Fr w (w.drewN n) nob := ⟨below_drewN' (Below.refl _ _) n, fun b hb _ => rfl⟩
theorem odd_and {a b : Int} (ha : 0 ≤ a ∧ a < 4294967296) (hb : 0 ≤ b ∧ b < 4294967296) : bits .and .u32 (bits .and .u32 a b) 1 = a % 2 * (b % 2) := by
 have e1 := u32_and a b (by omega) (by omega) (by omega) (by omega)
 rw[e1]
 have hlt : a.toNat &&& b.toNat < 4294967296 := Nat.lt_of_le_of_lt Nat.and_le_left (by omega)
 rw[u32_and _ _ (by omega) (by omega) (by omega) (by omega)]
 rw[show (1 : Int).toNat = 1 from rfl,Int.toNat_natCast,Nat.and_one_is_mod]
 have h2 := Nat.and_mod_two_pow (a := a.toNat) (b := b.toNat) (n := 1)
 rw[show 2 ^ 1 = 2 from rfl] at h2
 rw[h2]
 have ca : a.toNat % 2 = 0 ∨ a.toNat % 2 = 1 := by omega
 have cb : b.toNat % 2 = 0 ∨ b.toNat % 2 = 1 := by omega
 have ea : a % 2 = ((a.toNat % 2 : Nat) : Int) := by omega
 have eb : b % 2 = ((b.toNat % 2 : Nat) : Int) := by omega
 rw[ea,eb]
 rcases ca with h | h <;> rcases cb with h' | h' <;> rw[h,h'] <;> decide
theorem lim_at0 {l : List Int} (h : Lim l) (h0 : 0 < l.length) : 0 ≤ at' l 0 ∧ at' l 0 < 4294967296 := by
 cases l with
 | nil => simp at h0
 | cons a l => exact h a (by simp)
def checkR (N E : List Int) : Int := if 256 < N.length ∨ 256 < E.length ∨ bl (val N) < 512 ∨ bl (val E) < 2 ∨ 64 < bl (val E) ∨ at' N 0 % 2 = 0 ∨ at' E 0 % 2 = 0 then 80 else 0
theorem pos_cellsN {k : IntKind} {w : World} {A : Option Addr} {l : List Int} (hr : Rd w A (nums k l)) (h0 : 0 < l.length) : ∃ ad, A = some ad ∧ ∀ i : Nat, i < l.length → w.cell? (ad.add i) = some (.int k (at' l (i : Int))) := by
 obtain ⟨ad, e, _, hcl⟩ := hr.get (by rw[nums_length]; omega)
 exact ⟨ad, e, fun i hi => hcl.numN hi⟩
theorem bl_pos {l : List Int} (h : 0 < bl (val l)) : 0 < l.length := by
 cases l with
 | nil => exact absurd h (by decide)
 | cons a l => simp
set_option maxHeartbeats 4000000 in
theorem check_k {w : World} {vN vE : Value} {N E : List Int} (hN : Vw .u32 w vN N) (hE : Vw .u32 w vE E) (lN : Lim N) (lE : Lim E) (nN : N.length ≤ 4194304) (nE : E.length ≤ 4194304) {K : Value → World → Prop}
  (hK : ∀ w', Fr w w' nob → K (.int .i64 (checkR N E)) w') : callK Tryz.prog 24 [.agg #[vN, vE]] w K := by
 refine call_of Tryz.func24 Code.h24 (by simp[Code.c24]) ?_
 obtain ⟨A, c, rfl, hc, hr⟩ := hN
 obtain ⟨B, d, rfl, hd, hs⟩ := hE
 simp(disch:=omega)only[Zu,Zv,Zx,Zz,EZ,↓EP,↓reduceIte,Za,Zb,Zc,Zd,Ze,Zf,Zg,Zj,Zk,Zl,Zm,Zn,Zp,Zq,reduceCtorEq,Code.c24]
 refine al_k [.slice A N.length c, .slice B E.length d] rfl fun w1 n1 => ?_
 have f1 := n1.fr nob
 have c0 : w1.cell? ⟨w.heap.size, 0, none⟩ = some (.slice A N.length c) := n1.blk.has 0 _ rfl
 have c1 : w1.cell? ⟨w.heap.size, 1, none⟩ = some (.slice B E.length d) := n1.blk.has 1 _ rfl
 simp(disch:=omega)only[Zu,Zv,Zx,Zz,EZ,↓EP,↓reduceIte,Za,Zb,Zc,Zd,Ze,Zf,Zg,Zj,Zk,Zl,Zm,Zn,Zp,Zq,reduceCtorEq,c0,c1]
 intro m
 have g1 := fr_drewN' w1 (1 + m)
 refine bits_vw ⟨A, c, rfl, hc, (hr.nb f1).nb g1⟩ lN (by omega) _ ?_
 simp(disch:=omega)only[Zu,Zv,Zx,Zz,EZ,↓EP,↓reduceIte,Za,Zb,Zc,Zd,Ze,Zf,Zg,Zj,Zk,Zl,Zm,Zn,Zp,Zq,reduceCtorEq,c0,c1]
 intro m2
 have g2 := fr_drewN' w1 (1 + m + m2)
 refine bits_vw ⟨B, d, rfl, hd, (hs.nb f1).nb g2⟩ lE (by omega) _ ?_
 have bad : ∀ w', Fr w1 w' nob → (256 < N.length ∨ 256 < E.length ∨ bl (val N) < 512 ∨ bl (val E) < 2 ∨ 64 < bl (val E) ∨ at' N 0 % 2 = 0 ∨ at' E 0 % 2 = 0) → K (.int .i64 80) w' := fun w' f h => by
  have e : checkR N E = 80 := if_pos h
  rw[e] at hK
  exact hK w' (f1.nb f)
 simp(disch:=omega)only[Zu,Zv,Zx,Zz,EZ,↓EP,↓reduceIte,Za,Zb,Zc,Zd,Ze,Zf,Zg,Zj,Zk,Zl,Zm,Zn,Zp,Zq,reduceCtorEq,W_join,c0,c1]
 intro m3
 have g3 := fr_drewN' w1 (1 + m + m2 + m3)
 by_cases h1 : (256 : Int) < (N.length : Int)
 ·simp(disch:=omega)only[Zu,Zv,Zx,Zz,EZ,↓EP,↓reduceIte,Za,Zb,Zc,Zd,Ze,Zf,Zg,Zj,Zk,Zl,Zm,Zn,Zp,Zq,reduceCtorEq,W_join,c0,c1,h1]
  exact bad _ g3 (.inl (by omega))
 by_cases h2 : (256 : Int) < (E.length : Int)
 ·simp(disch:=omega)only[Zu,Zv,Zx,Zz,EZ,↓EP,↓reduceIte,Za,Zb,Zc,Zd,Ze,Zf,Zg,Zj,Zk,Zl,Zm,Zn,Zp,Zq,reduceCtorEq,W_join,c0,c1,h1,h2]
  exact bad _ g3 (.inr (.inl (by omega)))
 by_cases h3 : (bl (val N) : Int) < 512
 ·simp(disch:=omega)only[Zu,Zv,Zx,Zz,EZ,↓EP,↓reduceIte,Za,Zb,Zc,Zd,Ze,Zf,Zg,Zj,Zk,Zl,Zm,Zn,Zp,Zq,reduceCtorEq,W_join,c0,c1,h1,h2,h3]
  exact bad _ g3 (.inr (.inr (.inl (by omega))))
 by_cases h4 : (bl (val E) : Int) < 2
 ·simp(disch:=omega)only[Zu,Zv,Zx,Zz,EZ,↓EP,↓reduceIte,Za,Zb,Zc,Zd,Ze,Zf,Zg,Zj,Zk,Zl,Zm,Zn,Zp,Zq,reduceCtorEq,W_join,c0,c1,h1,h2,h3,h4]
  exact bad _ g3 (.inr (.inr (.inr (.inl (by omega)))))
 by_cases h5 : (64 : Int) < (bl (val E) : Int)
 ·simp(disch:=omega)only[Zu,Zv,Zx,Zz,EZ,↓EP,↓reduceIte,Za,Zb,Zc,Zd,Ze,Zf,Zg,Zj,Zk,Zl,Zm,Zn,Zp,Zq,reduceCtorEq,W_join,c0,c1,h1,h2,h3,h4,h5]
  exact bad _ g3 (.inr (.inr (.inr (.inr (.inl (by omega))))))
 have pN : 0 < N.length := bl_pos (by omega)
 have pE : 0 < E.length := bl_pos (by omega)
 obtain ⟨pa, rfl, hcN⟩ := pos_cellsN (hr.nb f1) pN
 obtain ⟨pb, rfl, hcE⟩ := pos_cellsN (hs.nb f1) pE
 have z0 := hcN 0 pN
 have z1 := hcE 0 pE
 have y0 := lim_at0 lN pN
 have y1 := lim_at0 lE pE
 simp(disch:=omega)only[Zu,Zv,Zx,Zz,EZ,↓EP,↓reduceIte,Za,Zb,Zc,Zd,Ze,Zf,Zg,Zj,Zk,Zl,Zm,Zn,Zp,Zq,reduceCtorEq,W_join,c0,c1,h1,h2,h3,h4,h5,z0,z1]
 intro m4
 have g4 := fr_drewN' w1 (1 + m + m2 + m3 + m4)
 rw[odd_and y0 y1]
 by_cases h6 : at' N 0 % 2 = 0
 ·rw[h6,Int.zero_mul,if_pos rfl]
  exact bad _ g4 (.inr (.inr (.inr (.inr (.inr (.inl h6))))))
 by_cases h7 : at' E 0 % 2 = 0
 ·rw[h7,Int.mul_zero,if_pos rfl]
  exact bad _ g4 (.inr (.inr (.inr (.inr (.inr (.inr h7))))))
 rw[if_neg (by rw [show at' N 0 % 2 = 1 by omega, show at' E 0 % 2 = 1 by omega]; decide)]
 have e : checkR N E = 0 := if_neg (by omega)
 rw[e] at hK
 exact hK _ (f1.nb g4)
set_option maxHeartbeats 4000000 in
theorem rcheck_k {w : World} {vN vE : Value} {N E : List Int} (hN : Vw .u32 w vN N) (hE : Vw .u32 w vE E) (lN : Lim N) (lE : Lim E) (nN : N.length ≤ 4194304) (nE : E.length ≤ 4194304) {K : Value → World → Prop}
  (hK : ∀ w', Fr w w' nob → K (.int .i64 (checkR N E)) w') : callK Tryz.prog 50 [.agg #[vN, vE]] w K := by
 refine call_of Tryz.func50 Code.h50 (by simp[Code.c50]) ?_
 obtain ⟨A, c, rfl, hc, hr⟩ := hN
 obtain ⟨B, d, rfl, hd, hs⟩ := hE
 simp(disch:=omega)only[Zu,Zv,Zx,Zz,EZ,↓EP,↓reduceIte,Za,Zb,Zc,Zd,Ze,Zf,Zg,Zj,Zk,Zl,Zm,Zn,Zp,Zq,reduceCtorEq,Code.c50]
 refine al_k [.slice A N.length c, .slice B E.length d] rfl fun w1 n1 => ?_
 have f1 := n1.fr nob
 have k0 : ∀ w', Fr w1 w' nob → w'.cell? ⟨w.heap.size, 0, none⟩ = some (.slice A N.length c) := fun w' f => (n1.blk.nb f).has 0 _ rfl
 have k1 : ∀ w', Fr w1 w' nob → w'.cell? ⟨w.heap.size, 1, none⟩ = some (.slice B E.length d) := fun w' f => (n1.blk.nb f).has 1 _ rfl
 have c0 := k0 w1 (Fr.refl _ _)
 have c1 := k1 w1 (Fr.refl _ _)
 have bad : ∀ w', Fr w1 w' nob → (256 < N.length ∨ 256 < E.length ∨ bl (val N) < 512 ∨ bl (val E) < 2 ∨ 64 < bl (val E) ∨ at' N 0 % 2 = 0 ∨ at' E 0 % 2 = 0) → K (.int .i64 80) w' := fun w' f h => by
  have e : checkR N E = 80 := if_pos h
  rw[e] at hK
  exact hK w' (f1.nb f)
 by_cases h1 : (256 : Int) < (N.length : Int)
 ·simp(disch:=omega)only[Zu,Zv,Zx,Zz,EZ,↓EP,↓reduceIte,Za,Zb,Zc,Zd,Ze,Zf,Zg,Zj,Zk,Zl,Zm,Zn,Zp,Zq,reduceCtorEq,c0,c1,h1]
  exact bad _ (Fr.refl _ _) (.inl (by omega))
 by_cases h2 : (256 : Int) < (E.length : Int)
 ·simp(disch:=omega)only[Zu,Zv,Zx,Zz,EZ,↓EP,↓reduceIte,Za,Zb,Zc,Zd,Ze,Zf,Zg,Zj,Zk,Zl,Zm,Zn,Zp,Zq,reduceCtorEq,c0,c1,h1,h2]
  exact bad _ (Fr.refl _ _) (.inr (.inl (by omega)))
 simp(disch:=omega)only[Zu,Zv,Zx,Zz,EZ,↓EP,↓reduceIte,Za,Zb,Zc,Zd,Ze,Zf,Zg,Zj,Zk,Zl,Zm,Zn,Zp,Zq,reduceCtorEq,c0,c1,h1,h2]
 refine rbits_vw ⟨A, c, rfl, hc, hr.nb f1⟩ lN nN _ fun w2 f2 => ?_
 have c0 := k0 w2 f2
 have c1 := k1 w2 f2
 by_cases h3 : (bl (val N) : Int) < 512
 ·simp(disch:=omega)only[Zu,Zv,Zx,Zz,EZ,↓EP,↓reduceIte,Za,Zb,Zc,Zd,Ze,Zf,Zg,Zj,Zk,Zl,Zm,Zn,Zp,Zq,reduceCtorEq,c0,c1,h3]
  exact bad _ f2 (.inr (.inr (.inl (by omega))))
 simp(disch:=omega)only[Zu,Zv,Zx,Zz,EZ,↓EP,↓reduceIte,Za,Zb,Zc,Zd,Ze,Zf,Zg,Zj,Zk,Zl,Zm,Zn,Zp,Zq,reduceCtorEq,c0,c1,h3]
 refine rbits_vw ⟨B, d, rfl, hd, (hs.nb f1).nb f2⟩ lE nE _ fun w3 f3 => ?_
 have f23 := f2.nb f3
 have c0 := k0 w3 f23
 have c1 := k1 w3 f23
 by_cases h4 : (bl (val E) : Int) < 2
 ·simp(disch:=omega)only[Zu,Zv,Zx,Zz,EZ,↓EP,↓reduceIte,Za,Zb,Zc,Zd,Ze,Zf,Zg,Zj,Zk,Zl,Zm,Zn,Zp,Zq,reduceCtorEq,c0,c1,h4]
  exact bad _ f23 (.inr (.inr (.inr (.inl (by omega)))))
 simp(disch:=omega)only[Zu,Zv,Zx,Zz,EZ,↓EP,↓reduceIte,Za,Zb,Zc,Zd,Ze,Zf,Zg,Zj,Zk,Zl,Zm,Zn,Zp,Zq,reduceCtorEq,c0,c1,h4]
 refine rbits_vw ⟨B, d, rfl, hd, (hs.nb f1).nb f23⟩ lE nE _ fun w4 f4 => ?_
 have f24 := f23.nb f4
 have c0 := k0 w4 f24
 have c1 := k1 w4 f24
 by_cases h5 : (64 : Int) < (bl (val E) : Int)
 ·simp(disch:=omega)only[Zu,Zv,Zx,Zz,EZ,↓EP,↓reduceIte,Za,Zb,Zc,Zd,Ze,Zf,Zg,Zj,Zk,Zl,Zm,Zn,Zp,Zq,reduceCtorEq,c0,c1,h5]
  exact bad _ f24 (.inr (.inr (.inr (.inr (.inl (by omega))))))
 have pN : 0 < N.length := bl_pos (by omega)
 have pE : 0 < E.length := bl_pos (by omega)
 obtain ⟨pa, rfl, hcN⟩ := pos_cellsN (((hr.nb f1).nb f24)) pN
 obtain ⟨pb, rfl, hcE⟩ := pos_cellsN (((hs.nb f1).nb f24)) pE
 have z0 := hcN 0 pN
 have z1 := hcE 0 pE
 have y0 := lim_at0 lN pN
 have y1 := lim_at0 lE pE
 have t0 : (at' N 0).tmod 2 = at' N 0 % 2 := Int.tmod_eq_emod_of_nonneg y0.1
 have t1 : (at' E 0).tmod 2 = at' E 0 % 2 := Int.tmod_eq_emod_of_nonneg y1.1
 by_cases h6 : at' N 0 % 2 = 0
 ·simp(disch:=omega)only[Zu,Zv,Zx,Zz,EZ,↓EP,↓reduceIte,Za,Zb,Zc,Zd,Ze,Zf,Zg,Zj,Zk,Zl,Zm,Zn,Zp,Zq,reduceCtorEq,c0,c1,h5,z0,z1,t0,t1,h6]
  exact bad _ f24 (.inr (.inr (.inr (.inr (.inr (.inl h6))))))
 by_cases h7 : at' E 0 % 2 = 0
 ·simp(disch:=omega)only[Zu,Zv,Zx,Zz,EZ,↓EP,↓reduceIte,Za,Zb,Zc,Zd,Ze,Zf,Zg,Zj,Zk,Zl,Zm,Zn,Zp,Zq,reduceCtorEq,c0,c1,h5,z0,z1,t0,t1,h6,h7]
  exact bad _ f24 (.inr (.inr (.inr (.inr (.inr (.inr h7))))))
 simp(disch:=omega)only[Zu,Zv,Zx,Zz,EZ,↓EP,↓reduceIte,Za,Zb,Zc,Zd,Ze,Zf,Zg,Zj,Zk,Zl,Zm,Zn,Zp,Zq,reduceCtorEq,c0,c1,h5,z0,z1,t0,t1,h6,h7]
 have e : checkR N E = 0 := if_neg (by omega)
 rw[e] at hK
 exact hK _ (f1.nb f24)
end Go.Proofs.YtcgplgpdcfocpaaGreatDoor.Spec
end
section
namespace Go.Proofs.YtcgplgpdcfocpaaGreatDoor.Der
open Go Go.Proofs.YtcgplgpdcfocpaaGreatDoor.Spec Go.Proofs.YtcgplgpdcfocpaaGreatDoor.Big
def kN0 : List Int := [1295419795, 3173228247, 2137395180, 1548933856, 3106420408, 3948765562, 1049120400, 779370009, 4082781268, 1057109357, 1184194943, 1393408190, 1811714008, 4142931574, 3115507167, 2773311948]
def kD0 : List Int := [4047561943, 3660979146, 4003215933, 1116455983, 1700758801, 463339884, 276911730, 3273242993, 4259602957, 2323668540, 3060677354, 1663890463, 3165263865, 2837972243, 519251194, 462218658]
theorem dig_foo : dig 1 [102, 111, 111, 0, 0, 0, 0] = [26, 201, 7, 92, 212, 39, 188, 144, 180, 138, 153, 102, 130, 140, 171, 74, 4, 194, 63, 223] := by decide +kernel
theorem info_zero : infoR 1 (List.replicate 20 0) = [48, 33, 48, 9, 6, 5, 43, 14, 3, 2, 26, 5, 0, 4, 20] ++ List.replicate 20 0 := by decide +kernel
theorem check_small : checkR [15] [3] = 80 := by decide +kernel
theorem check_key0 : checkR kN0 [3] = 0 := by decide +kernel
theorem bits_key0 : bl (val kN0) = 512 := by decide +kernel
theorem lim_key0 : Lim kN0 := by
 have h : kN0.all (fun x => decide (0 ≤ x ∧ x < 4294967296)) = true := by decide +kernel
 intro x hx
 simpa using List.all_eq_true.1 h x hx
end Go.Proofs.YtcgplgpdcfocpaaGreatDoor.Der
end
section
namespace Go.Proofs.YtcgplgpdcfocpaaGreatDoor.Der
open Go Go.RowKit Go.Proofs Go.Proofs.YtcgplgpdcfocpaaGreatDoor.Eng Go.Proofs.YtcgplgpdcfocpaaGreatDoor.Code
attribute [local irreducible] callK S.W opsW scrW scrT
open Go.Proofs.YtcgplgpdcfocpaaGreatDoor.Spec Go.Proofs.YtcgplgpdcfocpaaGreatDoor.Big
attribute [local irreducible] putR putOidR infoR dig checkR kN0 kD0
theorem bl_lim {N : List Int} (h : Lim N) : bl (val N) ≤ 32 * N.length := by
 have hb := val_bd h
 rw[bl_le hb.1]
 have h2 := hb.2
 unfold pw at h2
 rw[Int.pow_mul,show (2 : Int) ^ 32 = 4294967296 from rfl]
 exact h2
def sizeK (N E : List Int) : Int := if checkR N E ≠ 0 then 0 else ((bl (val N) + 7) / 8 : Nat)
set_option maxHeartbeats 4000000 in
theorem sizek_k {w : World} {vN vE : Value} {N E : List Int} (hN : Vw .u32 w vN N) (hE : Vw .u32 w vE E) (lN : Lim N) (lE : Lim E) (nN : N.length ≤ 4194304) (nE : E.length ≤ 4194304) {K : Value → World → Prop}
  (hK : ∀ w', Fr w w' nob → K (.int .i64 (sizeK N E)) w') : callK Tryz.prog 25 [.agg #[vN, vE]] w K := by
 refine call_of Tryz.func25 Code.h25 (by simp[Code.c25]) ?_
 have hN0 := hN
 have hE0 := hE
 obtain ⟨A, c, rfl, hc, hr⟩ := hN0
 obtain ⟨B, d, rfl, hd, hs⟩ := hE0
 simp(disch:=omega)only[Zu,Zv,Zx,Zz,EZ,↓EP,↓reduceIte,Za,Zb,Zc,Zd,Ze,Zf,Zg,Zj,Zk,Zl,Zm,Zn,Zp,Zq,reduceCtorEq,Code.c25]
 refine al_k [.slice A N.length c, .slice B E.length d] rfl fun w1 n1 => ?_
 have f1 := n1.fr nob
 simp(disch:=omega)only[Zu,Zv,Zx,Zz,EZ,↓EP,↓reduceIte,Za,Zb,Zc,Zd,Ze,Zf,Zg,Zj,Zk,Zl,Zm,Zn,Zp,Zq,reduceCtorEq]
 refine n1.blk.ldAgg rfl ?_
 simp(disch:=omega)only[Zu,Zv,Zx,Zz,EZ,↓EP,↓reduceIte,Za,Zb,Zc,Zd,Ze,Zf,Zg,Zj,Zk,Zl,Zm,Zn,Zp,Zq,reduceCtorEq]
 refine check_k (hN.nb f1) (hE.nb f1) lN lE nN nE fun w2 f2 => ?_
 have f12 := f1.nb f2
 have c0 : w2.cell? ⟨w.heap.size, 0, none⟩ = some (.slice A N.length c) := (n1.blk.nb f2).has 0 _ rfl
 by_cases h : checkR N E = 0
 ·have e : sizeK N E = ((bl (val N) + 7) / 8 : Nat) := if_neg (by simpa using h)
  rw[e] at hK
  have hbl : bl (val N) ≤ 134217728 := by have := bl_lim lN; omega
  simp(disch:=omega)only[Zu,Zv,Zx,Zz,EZ,↓EP,↓reduceIte,Za,Zb,Zc,Zd,Ze,Zf,Zg,Zj,Zk,Zl,Zm,Zn,Zp,Zq,reduceCtorEq,h,c0]
  refine bits_vw (hN.nb f12) lN (by omega) _ ?_
  simp(disch:=omega)only[Zu,Zv,Zx,Zz,EZ,↓EP,↓reduceIte,Za,Zb,Zc,Zd,Ze,Zf,Zg,Zj,Zk,Zl,Zm,Zn,Zp,Zq,reduceCtorEq]
  exact hK _ f12
 ·have e : sizeK N E = 0 := if_pos h
  rw[e] at hK
  simp(disch:=omega)only[Zu,Zv,Zx,Zz,EZ,↓EP,↓reduceIte,Za,Zb,Zc,Zd,Ze,Zf,Zg,Zj,Zk,Zl,Zm,Zn,Zp,Zq,reduceCtorEq,h]
  exact hK _ f12
set_option maxHeartbeats 4000000 in
theorem rsizek_k {w : World} {vN vE : Value} {N E : List Int} (hN : Vw .u32 w vN N) (hE : Vw .u32 w vE E) (lN : Lim N) (lE : Lim E) (nN : N.length ≤ 4194304) (nE : E.length ≤ 4194304) {K : Value → World → Prop}
  (hK : ∀ w', Fr w w' nob → K (.int .i64 (sizeK N E)) w') : callK Tryz.prog 35 [.agg #[vN, vE]] w K := by
 refine call_of Tryz.func35 Code.h35 (by simp[Code.c35]) ?_
 have hN0 := hN
 have hE0 := hE
 obtain ⟨A, c, rfl, hc, hr⟩ := hN0
 obtain ⟨B, d, rfl, hd, hs⟩ := hE0
 simp(disch:=omega)only[Zu,Zv,Zx,Zz,EZ,↓EP,↓reduceIte,Za,Zb,Zc,Zd,Ze,Zf,Zg,Zj,Zk,Zl,Zm,Zn,Zp,Zq,reduceCtorEq,Code.c35]
 refine al_k [.slice A N.length c, .slice B E.length d] rfl fun w1 n1 => ?_
 have f1 := n1.fr nob
 simp(disch:=omega)only[Zu,Zv,Zx,Zz,EZ,↓EP,↓reduceIte,Za,Zb,Zc,Zd,Ze,Zf,Zg,Zj,Zk,Zl,Zm,Zn,Zp,Zq,reduceCtorEq]
 refine n1.blk.ldAgg rfl ?_
 simp(disch:=omega)only[Zu,Zv,Zx,Zz,EZ,↓EP,↓reduceIte,Za,Zb,Zc,Zd,Ze,Zf,Zg,Zj,Zk,Zl,Zm,Zn,Zp,Zq,reduceCtorEq]
 refine rcheck_k (hN.nb f1) (hE.nb f1) lN lE nN nE fun w2 f2 => ?_
 have f12 := f1.nb f2
 have c0 : w2.cell? ⟨w.heap.size, 0, none⟩ = some (.slice A N.length c) := (n1.blk.nb f2).has 0 _ rfl
 by_cases h : checkR N E = 0
 ·have e : sizeK N E = ((bl (val N) + 7) / 8 : Nat) := if_neg (by simpa using h)
  rw[e] at hK
  have hbl : bl (val N) ≤ 134217728 := by have := bl_lim lN; omega
  simp(disch:=omega)only[Zu,Zv,Zx,Zz,EZ,↓EP,↓reduceIte,Za,Zb,Zc,Zd,Ze,Zf,Zg,Zj,Zk,Zl,Zm,Zn,Zp,Zq,reduceCtorEq,h,c0]
  refine rbits_vw (hN.nb f12) lN nN _ fun w3 f3 => ?_
  simp(disch:=omega)only[Zu,Zv,Zx,Zz,EZ,↓EP,↓reduceIte,Za,Zb,Zc,Zd,Ze,Zf,Zg,Zj,Zk,Zl,Zm,Zn,Zp,Zq,reduceCtorEq]
  exact hK _ (f12.nb f3)
 ·have e : sizeK N E = 0 := if_pos h
  rw[e] at hK
  simp(disch:=omega)only[Zu,Zv,Zx,Zz,EZ,↓EP,↓reduceIte,Za,Zb,Zc,Zd,Ze,Zf,Zg,Zj,Zk,Zl,Zm,Zn,Zp,Zq,reduceCtorEq,h]
  exact hK _ f12
theorem bslV {e n : Nat} {k : IntKind} {w : World} {parts : List (Nat × Value)} {l : List Int} {K : Value → World → Prop} (h : fillS 1 ((Array.range (n * 1)).map (#[Value.int k 0][· % #[Value.int k 0].size]!)) parts = some (nums k l).toArray)
  (hK : ∀ w', New w w' (nums k l) → K (.slice (some ⟨w.heap.size, 0, none⟩) n n) w') : bslT e 1 n #[.int k 0] parts w K .mk := ⟨_, h, hK _ (new_of rfl (by simp))⟩
theorem fillK2 (A B : Option Addr) (a b c d : Nat) : fillL [(0, 1), (1, 1)] #[(.slice none 0 0), (.slice none 0 0)] [(0, .slice A a b), (1, .slice B c d)] = some [Value.slice A a b, .slice B c d].toArray := by kernel_rfl
theorem len_kN0 : kN0.length = 16 := by unfold kN0; rfl
theorem known0_k {w : World} {K : Value → World → Prop}
  (hK : ∀ A B v w', Rd w' A (nums .u32 kN0) → Rd w' B (nums .u32 [3]) → Fr w w' nob → K (.tuple #[.agg #[.slice A 16 16, .slice B 1 1], v]) w') : callK Tryz.prog 15 [.int .i64 0] w K := by
 refine call_of Tryz.func15 Code.h15 (by simp[Code.c15]) ?_
 simp(disch:=omega)only[Zu,Zv,Zx,Zz,EZ,↓EP,↓reduceIte,Za,Zb,Zc,Zd,Ze,Zf,Zg,Zj,Zk,Zl,Zm,Zn,Zp,Zq,reduceCtorEq,Code.c15]
 refine al_k [.slice none 0 0, .slice none 0 0] rfl fun w1 n1 => ?_
 simp(disch:=omega)only[Zu,Zv,Zx,Zz,EZ,↓EP,↓reduceIte,Za,Zb,Zc,Zd,Ze,Zf,Zg,Zj,Zk,Zl,Zm,Zn,Zp,Zq,reduceCtorEq]
 refine bslV (l := kN0) (by unfold kN0; kernel_rfl) fun w2 n2 => ?_
 simp(disch:=omega)only[Zu,Zv,Zx,Zz,EZ,↓EP,↓reduceIte,Za,Zb,Zc,Zd,Ze,Zf,Zg,Zj,Zk,Zl,Zm,Zn,Zp,Zq,reduceCtorEq]
 refine bslV (l := [3]) (by kernel_rfl) fun w3 n3 => ?_
 simp(disch:=omega)only[Zu,Zv,Zx,Zz,EZ,↓EP,↓reduceIte,Za,Zb,Zc,Zd,Ze,Zf,Zg,Zj,Zk,Zl,Zm,Zn,Zp,Zq,reduceCtorEq]
 refine ⟨_, fillK2 _ _ _ _ _ _, ?_⟩
 simp(disch:=omega)only[Zu,Zv,Zx,Zz,EZ,↓EP,↓reduceIte,Za,Zb,Zc,Zd,Ze,Zf,Zg,Zj,Zk,Zl,Zm,Zn,Zp,Zq,reduceCtorEq]
 refine bslV (l := kD0) (by unfold kD0; kernel_rfl) fun w4 n4 => ?_
 simp(disch:=omega)only[Zu,Zv,Zx,Zz,EZ,↓EP,↓reduceIte,Za,Zb,Zc,Zd,Ze,Zf,Zg,Zj,Zk,Zl,Zm,Zn,Zp,Zq,reduceCtorEq]
 have hB := (((n1.blk.nb (n2.fr nob)).nb (n3.fr nob)).nb (n4.fr nob))
 refine st_whole (cs := [.slice (some ⟨w1.heap.size, 0, none⟩) 16 16, .slice (some ⟨w2.heap.size, 0, none⟩) 1 1]) hB rfl rfl (by simp; exact ⟨rfl, rfl⟩) fun w5 p5 => ?_
 simp(disch:=omega)only[Zu,Zv,Zx,Zz,EZ,↓EP,↓reduceIte,Za,Zb,Zc,Zd,Ze,Zf,Zg,Zj,Zk,Zl,Zm,Zn,Zp,Zq,reduceCtorEq]
 refine p5.blk.ldAgg rfl ?_
 have hz1 := n1.size
 have hz2 := n2.size
 have hz3 := n3.size
 have hz4 := n4.size
 have f2 : Fr w w4 nob := (((n1.fr nob).nb (n2.fr nob)).nb (n3.fr nob)).nb (n4.fr nob)
 refine hK _ _ _ w5 ?_ ?_ (f2.trans p5.fr fun x hx e => by omega)
 ·have h := (n2.rdv.nb (n3.fr nob)).nb (n4.fr nob)
  exact h.fr p5.fr (.inr fun p e x => by cases e; simp only at x; omega)
 ·have h := n3.rdv.nb (n4.fr nob)
  exact h.fr p5.fr (.inr fun p e x => by cases e; simp only at x; omega)
end Go.Proofs.YtcgplgpdcfocpaaGreatDoor.Der
end
section
namespace Go.Proofs.YtcgplgpdcfocpaaGreatDoor.Der
open Go Go.RowKit Go.Proofs Go.Proofs.YtcgplgpdcfocpaaGreatDoor.Eng Go.Proofs.YtcgplgpdcfocpaaGreatDoor.Code
attribute [local irreducible] callK S.W opsW scrW scrT
open Go.Proofs.YtcgplgpdcfocpaaGreatDoor.Spec Go.Proofs.YtcgplgpdcfocpaaGreatDoor.Big
attribute [local irreducible] putR putOidR infoR dig checkR kN0 kD0
theorem num8_k {e : Int} {w : World} {K : Value → World → Prop} (hK : K (.int .i64 e) w) : callK Tryz.prog 10 [.int .i64 e] w K := by
 refine call_of Tryz.func10 Code.h10 (by simp[Code.c10]) ?_
 simp(disch:=omega)only[Zu,Zv,Zx,Zz,EZ,↓EP,↓reduceIte,Za,Zb,Zc,Zd,Ze,Zf,Zg,Zj,Zk,Zl,Zm,Zn,Zp,Zq,reduceCtorEq,Code.c10]
 exact hK
theorem mask_foo : maskR 1 [102, 111, 111] 3 = ([26, 201, 7], 0) := by
 have h : maskR 1 [102, 111, 111] 3 = ((maskL 1 [102, 111, 111] 3).take 3, 0) := if_neg (by decide)
 have h1 : maskL 1 [102, 111, 111] 1 = dig 1 [102, 111, 111, 0, 0, 0, 0] := by
  rw[maskL_succ,maskL_zero,List.nil_append]
  rfl
 rw[h,← maskL_take (i := 1) (by decide) (by decide) _ (by rw [h1,dig_foo]; decide),h1,dig_foo]
 rfl
theorem str_foo : ((strOfNums [26, 201, 7]).toList == (⟨#[26, 201, 7]⟩ : ByteArray).toList) = true := by decide +kernel
theorem info_len0 : (infoR 1 (List.replicate 20 0)).length = 35 := by rw[info_zero]; rfl
theorem pad_zero : padR 1 (List.replicate 20 0) 46 = ([0, 1, 255, 255, 255, 255, 255, 255, 255, 255, 0, 48, 33, 48, 9, 6, 5, 43, 14, 3, 2, 26, 5, 0, 4, 20] ++ List.replicate 20 0, 0) := by
 have h : padR 1 (List.replicate 20 0) 46 = if (46 : Int) < (infoR 1 (List.replicate 20 0)).length + 11 then ([], 2) else ([0, 1] ++ List.replicate ((46 : Int).toNat - (infoR 1 (List.replicate 20 0)).length - 3) 255 ++ [0] ++ infoR 1 (List.replicate 20 0), 0) := if_neg (by decide)
 rw[h,info_len0,if_neg (by decide),info_zero]
 rfl
theorem check_s {w : World} {A B : Option Addr} (hN : Rd w A (nums .u32 [15])) (hE : Rd w B (nums .u32 [3])) {K : Value → World → Prop} (hK : ∀ w', Fr w w' nob → K (.int .i64 80) w') : callK Tryz.prog 24 [.agg #[.slice A 1 1, .slice B 1 1]] w K :=
 check_k (N := [15]) (E := [3]) (Vw.of rfl (by decide) hN) (Vw.of rfl (by decide) hE) (fun x h => by simp at h; omega) (fun x h => by simp at h; omega) (by decide) (by decide) fun w' f => by rw[check_small]; exact hK w' f
theorem size_k0 : sizeK kN0 [3] = 64 := by
 unfold sizeK
 rw[check_key0,bits_key0]
 rfl
theorem size_s {w : World} {A B : Option Addr} (hN : Rd w A (nums .u32 kN0)) (hE : Rd w B (nums .u32 [3])) {K : Value → World → Prop} (hK : ∀ w', Fr w w' nob → K (.int .i64 64) w') : callK Tryz.prog 25 [.agg #[.slice A 16 16, .slice B 1 1]] w K :=
 sizek_k (N := kN0) (E := [3]) (Vw.of len_kN0 (by decide) hN) (Vw.of rfl (by decide) hE) lim_key0 (fun x h => by simp at h; omega) (by rw[len_kN0]; decide) (by decide) fun w' f => by rw[size_k0]; exact hK w' f
set_option maxHeartbeats 8000000 in
theorem live8_k {w : World} (hT : Tb w) {K : Value → World → Prop} (hK : ∀ w', Fr w w' nob → K (.bool true) w') : callK Tryz.prog 8 [] w K := by
 refine call_of Tryz.func8 Code.h8 (by simp[Code.c8]) ?_
 simp(disch:=omega)only[Zu,Zv,Zx,Zz,EZ,↓EP,↓reduceIte,Za,Zb,Zc,Zd,Ze,Zf,Zg,Zj,Zk,Zl,Zm,Zn,Zp,Zq,reduceCtorEq,Code.c8]
 refine bsl3 fun w1 n1 => ?_
 simp(disch:=omega)only[Zu,Zv,Zx,Zz,EZ,↓EP,↓reduceIte,Za,Zb,Zc,Zd,Ze,Zf,Zg,Zj,Zk,Zl,Zm,Zn,Zp,Zq,reduceCtorEq,↓i_cvidT,↓i_cvbsJ]
 refine cvid_k n1.rdl fun w2 f2 r2 => ?_
 have f02 : Fr w w2 nob := (n1.fr nob).trans f2 fun x hx e => by omega
 simp(disch:=omega)only[Zu,Zv,Zx,Zz,EZ,↓EP,↓reduceIte,Za,Zb,Zc,Zd,Ze,Zf,Zg,Zj,Zk,Zl,Zm,Zn,Zp,Zq,reduceCtorEq]
 refine mask_k (seed := [102, 111, 111]) (hT.fr f02 (fun x => x) (fun x => x)) (Nat.le_refl _) r2 (by decide) fun v3 w3 h3 u3 f3 => ?_
 rw[mask_foo] at h3 ⊢
 obtain ⟨A3, c3, rfl, hc3, hr3⟩ := h3
 have f03 := f02.nb f3
 simp(disch:=omega)only[Zu,Zv,Zx,Zz,EZ,↓EP,↓reduceIte,Za,Zb,Zc,Zd,Ze,Zf,Zg,Zj,Zk,Zl,Zm,Zn,Zp,Zq,reduceCtorEq]
 refine al_k (nums .u8 (List.replicate 20 0)) (by kernel_rfl) fun w4 n4 => ?_
 have f04 := f03.nb (n4.fr nob)
 have hv4 : Vw .u8 w4 (.slice (some ⟨w3.heap.size, 0, none⟩) 20 20) (List.replicate 20 0) := n4.sl.vw
 simp(disch:=omega)only[Zu,Zv,Zx,Zz,EZ,↓EP,↓reduceIte,Za,Zb,Zc,Zd,Ze,Zf,Zg,Zj,Zk,Zl,Zm,Zn,Zp,Zq,reduceCtorEq]
 refine pad_k (by decide) hv4 (by decide) fun v5 w5 g5 => ?_
 rw[pad_zero] at g5 ⊢
 have f05 := f04.nb g5.fr
 obtain ⟨A5, c5, rfl, hc5, hr5, _⟩ := g5.sl.read
 simp(disch:=omega)only[Zu,Zv,Zx,Zz,EZ,↓EP,↓reduceIte,Za,Zb,Zc,Zd,Ze,Zf,Zg,Zj,Zk,Zl,Zm,Zn,Zp,Zq,reduceCtorEq,pr2]
 refine known0_k fun A6 B6 v6 w6 r6 q6 f6 => ?_
 have f06 := f05.nb f6
 simp(disch:=omega)only[Zu,Zv,Zx,Zz,EZ,↓EP,↓reduceIte,Za,Zb,Zc,Zd,Ze,Zf,Zg,Zj,Zk,Zl,Zm,Zn,Zp,Zq,reduceCtorEq]
 refine al_k [.slice none 0 0, .slice none 0 0] rfl fun w7 n7 => ?_
 simp(disch:=omega)only[Zu,Zv,Zx,Zz,EZ,↓EP,↓reduceIte,Za,Zb,Zc,Zd,Ze,Zf,Zg,Zj,Zk,Zl,Zm,Zn,Zp,Zq,reduceCtorEq]
 refine st_whole (cs := [.slice A6 16 16, .slice B6 1 1]) n7.blk rfl rfl (by simp; exact ⟨rfl, rfl⟩) fun w8 p8 => ?_
 have hz7 := n7.size
 have f07 := f06.nb (n7.fr nob)
 have f68 : Fr w6 w8 nob := (n7.fr nob).trans p8.fr fun x hx e => by omega
 have f08 := f06.nb f68
 have f38 : Fr w3 w8 nob := (((n4.fr nob).nb g5.fr).nb f6).nb f68
 have f58 : Fr w5 w8 nob := f6.nb f68
 simp(disch:=omega)only[Zu,Zv,Zx,Zz,EZ,↓EP,↓reduceIte,Za,Zb,Zc,Zd,Ze,Zf,Zg,Zj,Zk,Zl,Zm,Zn,Zp,Zq,reduceCtorEq]
 refine num8_k ?_
 simp(disch:=omega)only[Zu,Zv,Zx,Zz,EZ,↓EP,↓reduceIte,Za,Zb,Zc,Zd,Ze,Zf,Zg,Zj,Zk,Zl,Zm,Zn,Zp,Zq,reduceCtorEq]
 refine num8_k ?_
 simp(disch:=omega)only[Zu,Zv,Zx,Zz,EZ,↓EP,↓reduceIte,Za,Zb,Zc,Zd,Ze,Zf,Zg,Zj,Zk,Zl,Zm,Zn,Zp,Zq,reduceCtorEq,↓i_cvidT,↓i_cvbsJ]
 refine cvbs_k (l := [26, 201, 7]) (hr3.nb f38) rfl ?_
 simp(disch:=omega)only[Zu,Zv,Zx,Zz,EZ,↓EP,↓reduceIte,Za,Zb,Zc,Zd,Ze,Zf,Zg,Zj,Zk,Zl,Zm,Zn,Zp,Zq,reduceCtorEq]
 refine eql_k str_foo ?_
 have hlen : ([0, 1, 255, 255, 255, 255, 255, 255, 255, 255, 0, 48, 33, 48, 9, 6, 5, 43, 14, 3, 2, 26, 5, 0, 4, 20] ++ List.replicate 20 (0 : Int)).length = 46 := by decide
 obtain ⟨pa, hpa, _, hcl⟩ := (hr5.nb f58).get (by rw[nums_length,hlen]; decide)
 subst hpa
 have z1 : w8.cell? (pa.add 1) = some (.int .u8 1) := hcl.numN (j := 1) (by rw[hlen]; decide)
 have z10 : w8.cell? (pa.add 10) = some (.int .u8 0) := hcl.numN (j := 10) (by rw[hlen]; decide)
 have z11 : w8.cell? (pa.add 11) = some (.int .u8 48) := hcl.numN (j := 11) (by rw[hlen]; decide)
 simp(disch:=omega)only[Zu,Zv,Zx,Zz,EZ,↓EP,↓reduceIte,Za,Zb,Zc,Zd,Ze,Zf,Zg,Zj,Zk,Zl,Zm,Zn,Zp,Zq,reduceCtorEq,hlen,z1,z10,z11]
 refine bslV (l := [15]) (by kernel_rfl) fun w9 n9 => ?_
 have f9 := n9.fr nob
 simp(disch:=omega)only[Zu,Zv,Zx,Zz,EZ,↓EP,↓reduceIte,Za,Zb,Zc,Zd,Ze,Zf,Zg,Zj,Zk,Zl,Zm,Zn,Zp,Zq,reduceCtorEq]
 refine bslV (l := [3]) (by kernel_rfl) fun w10 n10 => ?_
 have f10 := n10.fr nob
 simp(disch:=omega)only[Zu,Zv,Zx,Zz,EZ,↓EP,↓reduceIte,Za,Zb,Zc,Zd,Ze,Zf,Zg,Zj,Zk,Zl,Zm,Zn,Zp,Zq,reduceCtorEq]
 refine ⟨_, fillK2 _ _ _ _ _ _, ?_⟩
 simp(disch:=omega)only[Zu,Zv,Zx,Zz,EZ,↓EP,↓reduceIte,Za,Zb,Zc,Zd,Ze,Zf,Zg,Zj,Zk,Zl,Zm,Zn,Zp,Zq,reduceCtorEq]
 refine check_s (n9.rdl.nb f10) n10.rdl fun w11 f11 => ?_
 have f8b : Fr w8 w11 nob := (f9.nb f10).nb f11
 simp(disch:=omega)only[Zu,Zv,Zx,Zz,EZ,↓EP,↓reduceIte,Za,Zb,Zc,Zd,Ze,Zf,Zg,Zj,Zk,Zl,Zm,Zn,Zp,Zq,reduceCtorEq]
 refine num8_k ?_
 simp(disch:=omega)only[Zu,Zv,Zx,Zz,EZ,↓EP,↓reduceIte,Za,Zb,Zc,Zd,Ze,Zf,Zg,Zj,Zk,Zl,Zm,Zn,Zp,Zq,reduceCtorEq]
 refine (p8.blk.nb f8b).ldAgg rfl ?_
 simp(disch:=omega)only[Zu,Zv,Zx,Zz,EZ,↓EP,↓reduceIte,Za,Zb,Zc,Zd,Ze,Zf,Zg,Zj,Zk,Zl,Zm,Zn,Zp,Zq,reduceCtorEq]
 refine size_s ((r6.nb f68).nb f8b) ((q6.nb f68).nb f8b) fun w12 f12 => ?_
 simp(disch:=omega)only[Zu,Zv,Zx,Zz,EZ,↓EP,↓reduceIte,Za,Zb,Zc,Zd,Ze,Zf,Zg,Zj,Zk,Zl,Zm,Zn,Zp,Zq,reduceCtorEq]
 exact hK _ ((f08.nb f8b).nb f12)
end Go.Proofs.YtcgplgpdcfocpaaGreatDoor.Der
end
section
namespace Go.Proofs.YtcgplgpdcfocpaaGreatDoor.Der
open Go Go.RowKit Go.Proofs Go.Proofs.YtcgplgpdcfocpaaGreatDoor.Eng Go.Proofs.YtcgplgpdcfocpaaGreatDoor.Code
attribute [local irreducible] callK S.W opsW scrW scrT
open Go.Proofs.YtcgplgpdcfocpaaGreatDoor.Spec Go.Proofs.YtcgplgpdcfocpaaGreatDoor.Big
attribute [local irreducible] checkR powR tbR fbR
def rawR (N E sig : List Int) : List Int × Int :=
 if sizeK N E = 0 then ([], 80) else if (sig.length : Int) ≠ sizeK N E then ([], 112) else if ¬ val (fbR sig).1 < val N then ([], 112) else ((tbR (powR (fbR sig).1 E N).1 (sizeK N E)).1, 0)
theorem fb_lim (l : List Int) : Lim (fbR l).1 := by
 unfold fbR
 split
 ·exact Lim.nil
 ·exact limbs_lim _
theorem pow_lim (b e m : List Int) : Lim (powR b e m).1 := by
 unfold powR
 repeat' split
 ·exact Lim.nil
 ·exact Lim.nil
 ·exact limbs_lim _
theorem fb_len (l : List Int) (h : Byt l) : (fbR l).1.length ≤ 512 := by
 unfold fbR
 split
 ·simp
 ·rename_i hl
  show (limbs (bv l)).length ≤ 512
  rw[limbs_len (bv_bd h).1]
  refine Int.lt_of_lt_of_le (bv_bd h).2 ?_
  rw[p8_pw,p8_p2,p8_p2]
  exact p2_mono (by omega)
theorem size_bd {N E : List Int} (lN : Lim N) : 0 ≤ sizeK N E ∧ sizeK N E ≤ 1024 := by
 unfold sizeK
 by_cases h : checkR N E = 0
 ·rw[if_neg (by simpa using h)]
  have hn : ¬ 256 < N.length := fun g => by
   unfold checkR at h
   rw[if_pos (.inl g)] at h
   exact absurd h (by decide)
  have := bl_lim lN
  omega
 ·rw[if_pos h]; omega
theorem raw_tb {N E s : List Int} (lN : Lim N) (h : sizeK N E ≠ 0) : (tbR (powR s E N).1 (sizeK N E)).2 = 0 := by
 have hb := size_bd (E := E) lN
 have hl := pow_len (b := s) (e := E) (m := N) lN
 have hv : 0 ≤ val (powR s E N).1 ∧ bl (val (powR s E N).1) ≤ bl (val N) := by
  have b1 := val_bd lN
  unfold powR
  split
  ·exact ⟨by simp[val], by simp[val,bl]⟩
  ·split
   ·exact ⟨by simp[val], by simp[val,bl]⟩
   ·rename_i hz
    have hp : 0 < val N := by omega
    have h0 := Int.emod_nonneg (val s ^ (val E).toNat) (by omega : val N ≠ 0)
    have h1 := Int.emod_lt_of_pos (val s ^ (val E).toNat) hp
    show 0 ≤ val (limbs _) ∧ bl (val (limbs _)) ≤ _
    rw[limbs_val h0]
    refine ⟨h0, ?_⟩
    rw[bl_le h0]
    exact Int.lt_trans h1 ((bl_le b1.1).1 (Nat.le_refl _))
 unfold tbR
 rw[if_neg (by omega),if_neg (by omega),if_neg]
 have e : sizeK N E = ((bl (val N) + 7) / 8 : Nat) := by
  unfold sizeK at h ⊢
  split at h
  ·exact absurd rfl h
  ·rename_i hc
   rw[if_neg hc]
 rw[e]
 have : (bl (val (powR s E N).1) + 7) / 8 ≤ (bl (val N) + 7) / 8 := by omega
 omega
set_option maxHeartbeats 8000000 in
theorem raw_k {w : World} {vN vE v : Value} {N E sig : List Int} (hN : Vw .u32 w vN N) (hE : Vw .u32 w vE E) (lN : Lim N) (lE : Lim E) (nN : N.length ≤ 4194304) (nE : E.length ≤ 4194304) (hv : Vw .u8 w v sig) (hb : Byt sig) (h63 : sig.length ≤ 9223372036854775807) {K : Value → World → Prop}
  (hK : ∀ v' w', Gw .u8 w w' v' (rawR N E sig).1 → K (pr2 v' (rawR N E sig).2) w') : callK Tryz.prog 27 [.agg #[vN, vE], v] w K := by
 refine call_of Tryz.func27 Code.h27 (by simp[Code.c27]) ?_
 have hN0 := hN
 have hE0 := hE
 have hv0 := hv
 obtain ⟨A, c, rfl, hc, hr⟩ := hN0
 obtain ⟨B, d, rfl, hd, hs⟩ := hE0
 obtain ⟨D, q, rfl, hq, ht⟩ := hv0
 have hsb := size_bd (E := E) lN
 simp(disch:=omega)only[Zu,Zv,Zx,Zz,EZ,↓EP,↓reduceIte,Za,Zb,Zc,Zd,Ze,Zf,Zg,Zj,Zk,Zl,Zm,Zn,Zp,Zq,reduceCtorEq,Code.c27]
 refine al_k [.slice A N.length c, .slice B E.length d] rfl fun w1 n1 => ?_
 have f1 := n1.fr nob
 simp(disch:=omega)only[Zu,Zv,Zx,Zz,EZ,↓EP,↓reduceIte,Za,Zb,Zc,Zd,Ze,Zf,Zg,Zj,Zk,Zl,Zm,Zn,Zp,Zq,reduceCtorEq]
 refine n1.blk.ldAgg rfl ?_
 simp(disch:=omega)only[Zu,Zv,Zx,Zz,EZ,↓EP,↓reduceIte,Za,Zb,Zc,Zd,Ze,Zf,Zg,Zj,Zk,Zl,Zm,Zn,Zp,Zq,reduceCtorEq]
 refine sizek_k (hN.nb f1) (hE.nb f1) lN lE nN nE fun w2 f2 => ?_
 have f12 := f1.nb f2
 by_cases h0 : sizeK N E = 0
 ·have e : rawR N E sig = ([], 80) := if_pos h0
  rw[e] at hK
  simp(disch:=omega)only[Zu,Zv,Zx,Zz,EZ,↓EP,↓reduceIte,Za,Zb,Zc,Zd,Ze,Zf,Zg,Zj,Zk,Zl,Zm,Zn,Zp,Zq,reduceCtorEq,h0]
  exact hK _ _ ⟨Sl.nil _ _, (fun b e => by cases e), f12⟩
 by_cases h1 : (sig.length : Int) = sizeK N E
 rotate_left
 ·have e : rawR N E sig = ([], 112) := by unfold rawR; rw[if_neg h0,if_pos h1]
  rw[e] at hK
  simp(disch:=omega)only[Zu,Zv,Zx,Zz,EZ,↓EP,↓reduceIte,Za,Zb,Zc,Zd,Ze,Zf,Zg,Zj,Zk,Zl,Zm,Zn,Zp,Zq,reduceCtorEq,h0,h1]
  exact hK _ _ ⟨Sl.nil _ _, (fun b e => by cases e), f12⟩
 simp(disch:=omega)only[Zu,Zv,Zx,Zz,EZ,↓EP,↓reduceIte,Za,Zb,Zc,Zd,Ze,Zf,Zg,Zj,Zk,Zl,Zm,Zn,Zp,Zq,reduceCtorEq,h0,h1]
 refine frombytes_vw (hv.nb f12) hb _ fun v3 w3 g3 => ?_
 obtain ⟨A3, c3, rfl, hc3, hr3, _⟩ := g3.sl.read
 have f13 := f12.nb g3.fr
 have k0 : ∀ w', Fr w1 w' nob → w'.cell? ⟨w.heap.size, 0, none⟩ = some (.slice A N.length c) := fun w' f => (n1.blk.nb f).has 0 _ rfl
 have k1 : ∀ w', Fr w1 w' nob → w'.cell? ⟨w.heap.size, 1, none⟩ = some (.slice B E.length d) := fun w' f => (n1.blk.nb f).has 1 _ rfl
 have c0 := k0 w3 (f2.nb g3.fr)
 have hfl := fb_len sig hb
 simp(disch:=omega)only[Zu,Zv,Zx,Zz,EZ,↓EP,↓reduceIte,Za,Zb,Zc,Zd,Ze,Zf,Zg,Zj,Zk,Zl,Zm,Zn,Zp,Zq,reduceCtorEq,c0]
 refine cmp_vw g3.vw (hN.nb f13) (fb_lim sig) lN (by omega) (by omega) _ fun w4 f4 => ?_
 have f14 := f13.nb f4
 have c0 := k0 w4 ((f2.nb g3.fr).nb f4)
 have c1 := k1 w4 ((f2.nb g3.fr).nb f4)
 by_cases h2 : val (fbR sig).1 < val N
 rotate_left
 ·have e : rawR N E sig = ([], 112) := by unfold rawR; rw[if_neg h0,if_neg (by simpa using h1),if_pos h2]
  rw[e] at hK
  have hcm : 0 ≤ cmpI (val (fbR sig).1) (val N) := by
   unfold cmpI
   rw[if_neg h2]
   split <;> omega
  simp(disch:=omega)only[Zu,Zv,Zx,Zz,EZ,↓EP,↓reduceIte,Za,Zb,Zc,Zd,Ze,Zf,Zg,Zj,Zk,Zl,Zm,Zn,Zp,Zq,reduceCtorEq,hcm]
  exact hK _ _ ⟨Sl.nil _ _, (fun b e => by cases e), f14⟩
 have e : rawR N E sig = ((tbR (powR (fbR sig).1 E N).1 (sizeK N E)).1, 0) := by unfold rawR; rw[if_neg h0,if_neg (by simpa using h1),if_neg (by simpa using h2)]
 rw[e] at hK
 have hcm : ¬ 0 ≤ cmpI (val (fbR sig).1) (val N) := by rw[cmp_lt h2]; decide
 simp(disch:=omega)only[Zu,Zv,Zx,Zz,EZ,↓EP,↓reduceIte,Za,Zb,Zc,Zd,Ze,Zf,Zg,Zj,Zk,Zl,Zm,Zn,Zp,Zq,reduceCtorEq,hcm,c0,c1]
 refine expmod_vw (g3.vw.nb f4) (hE.nb f14) (hN.nb f14) (fb_lim sig) lE lN _ fun v5 w5 g5 => ?_
 obtain ⟨A5, c5, rfl, hc5, hr5, _⟩ := g5.sl.read
 have f15 := f14.nb g5.fr
 simp(disch:=omega)only[Zu,Zv,Zx,Zz,EZ,↓EP,↓reduceIte,Za,Zb,Zc,Zd,Ze,Zf,Zg,Zj,Zk,Zl,Zm,Zn,Zp,Zq,reduceCtorEq]
 refine bytes_vw (sizeK N E) g5.vw (pow_lim _ _ _) (by omega) _ fun v6 w6 g6 => ?_
 obtain ⟨A6, c6, rfl, hc6, hr6, _⟩ := g6.sl.read
 simp(disch:=omega)only[Zu,Zv,Zx,Zz,EZ,↓EP,↓reduceIte,Za,Zb,Zc,Zd,Ze,Zf,Zg,Zj,Zk,Zl,Zm,Zn,Zp,Zq,reduceCtorEq]
 refine hK _ _ ⟨g6.sl, fun b e => ?_, f15.nb g6.fr⟩
 have := g6.up b e
 have := f15.size
 omega
end Go.Proofs.YtcgplgpdcfocpaaGreatDoor.Der
end
section
namespace Go.Proofs.YtcgplgpdcfocpaaGreatDoor.Pr
def IsP (p : Nat) : Prop := 2 ≤ p ∧ ∀ d, d ∣ p → d = 1 ∨ d = p
theorem IsP.euc {p a b : Nat} (h : IsP p) (d : p ∣ a * b) : p ∣ a ∨ p ∣ b := by
 rcases h.2 _ (Nat.gcd_dvd_left p a) with g | g
 ·right
  exact Nat.Coprime.dvd_of_dvd_mul_left g d
 ·left
  rw[← g]
  exact Nat.gcd_dvd_right p a
theorem ex_prime : ∀ n : Nat, 2 ≤ n → ∃ p, IsP p ∧ p ∣ n := fun n => by
 induction n using Nat.strongRecOn with
 | ind n ih =>
  intro h
  by_cases g : ∀ d, d ∣ n → d = 1 ∨ d = n
  ·exact ⟨n, ⟨h, g⟩, Nat.dvd_refl n⟩
  ·obtain ⟨d, g⟩ := Classical.not_forall.1 g
   have g1 : d ∣ n := Classical.byContradiction fun x => g fun y => absurd y x
   have g2 : d ≠ 1 := fun x => g fun _ => .inl x
   have g3 : d ≠ n := fun x => g fun _ => .inr x
   have g4 : d ≤ n := Nat.le_of_dvd (by omega) g1
   have g5 : d ≠ 0 := fun x => by
    rw[x] at g1
    have := Nat.eq_zero_of_zero_dvd g1
    omega
   obtain ⟨p, hp, hd⟩ := ih d (by omega) (by omega)
   exact ⟨p, hp, Nat.dvd_trans hd g1⟩
def C : Nat → Nat → Nat
 | _, 0 => 1
 | 0, _+1 => 0
 | n+1, k+1 => C n k + C n (k+1)
theorem C_gt : ∀ n k : Nat, n < k → C n k = 0
 | 0, k+1, _ => rfl
 | n+1, k+1, h => by
  show C n k + C n (k+1) = 0
  rw[C_gt n k (by omega),C_gt n (k+1) (by omega)]
theorem C_nn : ∀ n : Nat, C n n = 1
 | 0 => rfl
 | n+1 => by
  show C n n + C n (n+1) = 1
  rw[C_nn n,C_gt n (n+1) (by omega)]
theorem C_mul : ∀ n k : Nat, (k+1) * C (n+1) (k+1) = (n+1) * C n k
 | 0, 0 => rfl
 | 0, k+1 => by
  show (k+1+1) * (C 0 (k+1) + C 0 (k+2)) = 1 * C 0 (k+1)
  rw[C_gt 0 (k+1) (by omega),C_gt 0 (k+2) (by omega)]
  rfl
 | n+1, 0 => by
  have h := C_mul n 0
  show (0+1) * (C (n+1) 0 + C (n+1) 1) = (n+1+1) * C (n+1) 0
  have e : C (n+1) 0 = 1 := rfl
  have e' : C n 0 = 1 := by cases n <;> rfl
  rw[e'] at h
  rw[e]
  have h' : (0 + 1) * C (n+1) 1 = (n+1) * 1 := h
  omega
 | n+1, k+1 => by
  have h1 := C_mul n k
  have h2 := C_mul n (k+1)
  have e : C (n+1) (k+1) = C n k + C n (k+1) := rfl
  show (k+1+1) * (C (n+1) (k+1) + C (n+1) (k+2)) = (n+1+1) * C (n+1) (k+1)
  rw[Nat.mul_add,h2,Nat.add_mul (n+1) 1,e,Nat.add_mul (k+1) 1,← e,h1,e,Nat.mul_add (n+1)]
  omega
def sm (f : Nat → Nat) : Nat → Nat
 | 0 => 0
 | m+1 => sm f m + f m
theorem sm_head (f : Nat → Nat) : ∀ m, sm f (m+1) = f 0 + sm (fun k => f (k+1)) m
 | 0 => by simp[sm]
 | m+1 => by
  show sm f (m+1) + f (m+1) = f 0 + (sm (fun k => f (k+1)) m + f (m+1))
  rw[sm_head f m]
  omega
theorem sm_add (f g : Nat → Nat) : ∀ m, sm (fun k => f k + g k) m = sm f m + sm g m
 | 0 => rfl
 | m+1 => by
  show sm (fun k => f k + g k) m + (f m + g m) = sm f m + f m + (sm g m + g m)
  rw[sm_add f g m]
  omega
theorem sm_mul (c : Nat) (f : Nat → Nat) : ∀ m, sm (fun k => c * f k) m = c * sm f m
 | 0 => rfl
 | m+1 => by
  show sm (fun k => c * f k) m + c * f m = c * (sm f m + f m)
  rw[sm_mul c f m,Nat.mul_add]
theorem sm_dvd (p : Nat) (f : Nat → Nat) : ∀ m, (∀ k, k < m → p ∣ f k) → p ∣ sm f m
 | 0, _ => Nat.dvd_zero p
 | m+1, h => Nat.dvd_add (sm_dvd p f m fun k hk => h k (by omega)) (h m (by omega))
theorem sm_cong (f g : Nat → Nat) : ∀ m, (∀ k, k < m → f k = g k) → sm f m = sm g m
 | 0, _ => rfl
 | m+1, h => by
  show sm f m + f m = sm g m + g m
  rw[sm_cong f g m fun k hk => h k (by omega), h m (by omega)]
theorem C_0 (n : Nat) : C n 0 = 1 := by cases n <;> rfl
theorem binom (x : Nat) : ∀ n m, n < m → sm (fun k => C n k * x ^ k) m = (x + 1) ^ n
 | 0, m+1, _ => by
  rw[sm_head, sm_cong _ (fun _ => 0)]
  ·have : ∀ m, sm (fun _ => 0) m = 0 := fun m => by
    induction m with
    | zero => rfl
    | succ m ih => show sm (fun _ => 0) m + 0 = 0; rw[ih]
   rw[this]
   rfl
  ·intro k _
   show C 0 (k+1) * _ = 0
   rw[C_gt 0 (k+1) (by omega),Nat.zero_mul]
 | n+1, m+1, h => by
  have h1 := binom x n m (by omega)
  have h2 := binom x n (m+1) (by omega)
  rw[sm_head] at h2 ⊢
  have e : sm (fun k => C (n+1) (k+1) * x ^ (k+1)) m = x * sm (fun k => C n k * x ^ k) m + sm (fun k => C n (k+1) * x ^ (k+1)) m := by
   rw[← sm_mul,← sm_add]
   refine sm_cong _ _ m fun k _ => ?_
   show (C n k + C n (k+1)) * x ^ (k+1) = x * (C n k * x ^ k) + _
   rw[Nat.add_mul,Nat.pow_succ,Nat.mul_left_comm x,Nat.mul_comm x]
  rw[e,h1,C_0]
  rw[C_0] at h2
  rw[Nat.pow_succ,Nat.mul_add]
  rw[← h2] at *
  have : x * (1 * x ^ 0 + sm (fun k => C n (k + 1) * x ^ (k + 1)) m) = (1 * x ^ 0 + sm (fun k => C n (k + 1) * x ^ (k + 1)) m) * x := Nat.mul_comm _ _
  omega
theorem C_dvd {p k : Nat} (h : IsP p) (h0 : 0 < k) (h1 : k < p) : p ∣ C p k := by
 obtain ⟨n, rfl⟩ : ∃ n, p = n + 1 := ⟨p - 1, by omega⟩
 obtain ⟨j, rfl⟩ : ∃ j, k = j + 1 := ⟨k - 1, by omega⟩
 have := C_mul n j
 rcases h.euc (⟨_, this⟩) with g | g
 ·have := Nat.le_of_dvd (by omega) g
  omega
 ·exact g
theorem frob {p : Nat} (h : IsP p) (x : Nat) : (x + 1) ^ p % p = (x ^ p + 1) % p := by
 have hb := binom x p (p+1) (by omega)
 obtain ⟨n, e⟩ : ∃ n, p = n + 1 := ⟨p - 1, by have := h.1; omega⟩
 have e2 : sm (fun k => C p k * x ^ k) (p+1) = sm (fun k => C p k * x ^ k) p + C p p * x ^ p := rfl
 have e3 : sm (fun k => C p k * x ^ k) p = C p 0 * x ^ 0 + sm (fun k => C p (k+1) * x ^ (k+1)) n := by
  rw[← sm_head (fun k => C p k * x ^ k) n, ← e]
 have hd : p ∣ sm (fun k => C p (k+1) * x ^ (k+1)) n := sm_dvd _ _ _ fun k hk => Nat.dvd_trans (C_dvd h (by omega) (by omega)) (Nat.dvd_mul_right _ _)
 obtain ⟨q, hq⟩ := hd
 rw[← hb,e2,e3,hq,C_0,C_nn]
 rw[Nat.pow_zero, Nat.one_mul, Nat.one_mul, show 1 + p * q + x ^ p = x ^ p + 1 + p * q by omega, Nat.add_mul_mod_self_left]
theorem fermat {p : Nat} (h : IsP p) : ∀ a, a ^ p % p = a % p
 | 0 => by
  have := h.1
  rw[Nat.zero_pow (by omega)]
 | a+1 => by
  rw[frob h,Nat.add_mod,fermat h a,← Nat.add_mod]
theorem dvd_mod {n a b : Nat} (h : a % n = b % n) (hb : b ≤ a) : n ∣ a - b := by
 have h1 := Nat.div_add_mod a n
 have h2 := Nat.div_add_mod b n
 refine ⟨a / n - b / n, ?_⟩
 rw[Nat.mul_sub]
 omega
theorem fermat1 {p a : Nat} (h : IsP p) (ha : ¬ p ∣ a) : a ^ (p - 1) % p = 1 := by
 have f := fermat h a
 have h2 := h.1
 have ha0 : 0 < a := Nat.pos_of_ne_zero fun x => ha (by rw[x]; exact Nat.dvd_zero p)
 have h1 : 1 ≤ a ^ (p - 1) := Nat.pow_pos ha0
 have e : a ^ p = a ^ (p - 1) * a := by rw[← Nat.pow_succ]; congr 1; omega
 have hd : p ∣ a ^ p - a := dvd_mod f (by rw[e]; exact Nat.le_mul_of_pos_left a h1)
 rw[e, show a ^ (p-1) * a - a = (a ^ (p-1) - 1) * a by rw [Nat.sub_mul, Nat.one_mul]] at hd
 rcases h.euc hd with g | g
 ·obtain ⟨q, g⟩ := g
  rw[show a ^ (p-1) = 1 + p * q by omega, Nat.add_mul_mod_self_left]
  exact Nat.mod_eq_of_lt (by omega)
 ·exact absurd g ha
theorem pow_one_mod {r b u : Nat} (hr : 2 ≤ r) (k : Nat) (h : b ^ u % r = 1) : b ^ (u * k) % r = 1 := by
 rw[Nat.pow_mul,Nat.pow_mod,h,Nat.one_pow]
 exact Nat.mod_eq_of_lt (by omega)
theorem pow_gcd {r b : Nat} (hr : 2 ≤ r) : ∀ u v, b ^ u % r = 1 → b ^ v % r = 1 → b ^ (Nat.gcd u v) % r = 1 := fun u v => by
 induction u, v using Nat.gcd.induction with
 | H0 n => intro _ h; rwa [Nat.gcd_zero_left]
 | H1 m n hm ih =>
  intro h1 h2
  rw[Nat.gcd_rec]
  refine ih ?_ h1
  have e : b ^ n = b ^ (m * (n / m)) * b ^ (n % m) := by rw[← Nat.pow_add,Nat.div_add_mod]
  rw[e,Nat.mul_mod,pow_one_mod hr _ h1,Nat.one_mul,Nat.mod_mod] at h2
  exact h2
theorem pock {n a q m r : Nat} (hq : IsP q) (hm : n - 1 = q * m) (hn : 2 ≤ n) (h1 : a ^ (n - 1) % n = 1) (h2 : Nat.gcd (a ^ m % n + (n - 1)) n = 1) (hr : IsP r) (hd : r ∣ n) : q ∣ r - 1 := by
 apply Classical.byContradiction
 intro hc
 have r2 := hr.1
 have c : Nat.gcd q (r - 1) = 1 := by
  rcases hq.2 _ (Nat.gcd_dvd_left q (r - 1)) with g | g
  ·exact g
  ·exact absurd (g ▸ Nat.gcd_dvd_right q (r - 1)) hc
 have k1 : a ^ (n - 1) % r = 1 := by
  rw[← Nat.mod_mod_of_dvd _ hd,h1]
  exact Nat.mod_eq_of_lt (by omega)
 have ha : ¬ r ∣ a ^ m := fun x => by
  have x' : r ∣ a ^ (n - 1) := by
   rw[hm,Nat.mul_comm,Nat.pow_mul]
   have := hq.1
   exact Nat.dvd_trans x ⟨(a ^ m) ^ (q - 1), by rw[← Nat.pow_succ']; congr 1; omega⟩
  have := Nat.mod_eq_zero_of_dvd x'
  omega
 have k2 := fermat1 hr ha
 have k3 : (a ^ m) ^ q % r = 1 := by rw[← Nat.pow_mul,Nat.mul_comm,← hm,k1]
 have k4 := pow_gcd r2 q (r - 1) k3 k2
 rw[c,Nat.pow_one] at k4
 have k5 : r ∣ a ^ m % n + (n - 1) := by
  have e : (a ^ m % n + (n - 1)) % r = 0 := by
   rw[Nat.add_mod,Nat.mod_mod_of_dvd _ hd,k4]
   obtain ⟨t, rfl⟩ := hd
   have ht : 1 ≤ t := Nat.pos_of_ne_zero fun x => by rw[x] at hn; omega
   have z : (1 + (r * t - 1)) % r = 0 := by
    rw[show 1 + (r * t - 1) = r * t by omega]
    exact Nat.mul_mod_right r t
   rw[Nat.add_mod, Nat.mod_eq_of_lt (show 1 < r by omega)] at z
   exact z
  exact Nat.dvd_of_mod_eq_zero e
 have := Nat.dvd_gcd k5 hd
 rw[h2] at this
 have := Nat.le_of_dvd (by omega) this
 omega
def prod : List Nat → Nat
 | [] => 1
 | q :: l => q * prod l
def pm (n : Nat) : Nat → Nat → Nat → Nat → Nat
 | 0, _, _, acc => acc
 | f+1, b, e, acc => pm n f (b * b % n) (e / 2) (if e % 2 = 0 then acc else acc * b % n)
theorem pm_ok (n : Nat) : ∀ f b e acc, e < 2 ^ f → pm n f b e acc % n = acc * b ^ e % n
 | 0, b, e, acc, h => by
  have : e = 0 := by simpa using h
  rw[this]
  simp[pm]
 | f+1, b, e, acc, h => by
  unfold pm
  rw[pm_ok n f _ _ _ (by rw [Nat.pow_succ] at h; omega)]
  have e1 : (b * b % n) ^ (e / 2) % n = b ^ (2 * (e / 2)) % n := by
   rw[← Nat.pow_mod,Nat.pow_mul,Nat.pow_two]
  by_cases h0 : e % 2 = 0
  ·rw[if_pos h0, Nat.mul_mod, e1, ← Nat.mul_mod, show 2 * (e / 2) = e by omega]
  ·rw[if_neg h0, Nat.mul_mod, Nat.mod_mod, ← Nat.mul_mod, Nat.mul_mod, e1, ← Nat.mul_mod, Nat.mul_assoc, ← Nat.pow_succ', show (2 * (e / 2)).succ = e by omega]
theorem IsP.cop {p q : Nat} (hp : IsP p) (hq : IsP q) (h : p ≠ q) : Nat.Coprime p q := by
 rcases hp.2 _ (Nat.gcd_dvd_left p q) with g | g
 ·exact g
 ·rcases hq.2 _ (Nat.gcd_dvd_right p q) with g' | g'
  ·exact g'
  ·exact absurd (g.symm.trans g') h
theorem prod_cop {q : Nat} (hq : IsP q) : ∀ l : List Nat, (∀ x, x ∈ l → IsP x) → q ∉ l → Nat.Coprime q (prod l)
 | [], _, _ => Nat.coprime_one_right q
 | x :: l, h, hn => Nat.Coprime.mul_right (hq.cop (h x (by simp)) fun e => hn (by simp[e])) (prod_cop hq l (fun y hy => h y (by simp[hy])) fun g => hn (by simp[g]))
theorem prod_dvd {x : Nat} : ∀ l : List Nat, (∀ y, y ∈ l → IsP y) → l.Nodup → (∀ y, y ∈ l → y ∣ x) → prod l ∣ x
 | [], _, _, _ => Nat.one_dvd x
 | q :: l, h, hn, hd => by
  rw[List.nodup_cons] at hn
  exact Nat.Coprime.mul_dvd_of_dvd_of_dvd (prod_cop (h q (by simp)) l (fun y hy => h y (by simp[hy])) hn.1) (hd q (by simp)) (prod_dvd l (fun y hy => h y (by simp[hy])) hn.2 fun y hy => hd y (by simp[hy]))
theorem pocks {n a : Nat} {l : List Nat} (hn : 2 ≤ n) (hl : ∀ q, q ∈ l → IsP q) (nd : l.Nodup) (hb : n < prod l * prod l) (h1 : a ^ (n - 1) % n = 1) (h2 : ∀ q, q ∈ l → n - 1 = q * ((n - 1) / q) ∧ Nat.gcd (a ^ ((n - 1) / q) % n + (n - 1)) n = 1) : IsP n := by
 have key : ∀ s t, s * t = n → s ≤ t → s = 1 := fun s t e hst => by
  apply Classical.byContradiction
  intro hs
  have s0 : s ≠ 0 := fun x => by rw[x,Nat.zero_mul] at e; omega
  obtain ⟨r, hr, hd⟩ := ex_prime s (by omega)
  have hrn : r ∣ n := Nat.dvd_trans hd ⟨t, e.symm⟩
  have hp : prod l ∣ r - 1 := prod_dvd l hl nd fun q hq => pock (hl q hq) (h2 q hq).1 hn h1 (h2 q hq).2 hr hrn
  have r2 := hr.1
  have b1 := Nat.le_of_dvd (by omega) hp
  have b2 := Nat.le_of_dvd (by omega) hd
  have b3 : prod l * prod l ≤ s * t := Nat.mul_le_mul (by omega) (by omega)
  omega
 refine ⟨hn, fun d hd => ?_⟩
 obtain ⟨t, ht⟩ := hd
 rcases Nat.le_total d t with g | g
 ·exact .inl (key d t ht.symm g)
 ·right
  have := key t d (by rw[Nat.mul_comm]; exact ht.symm) g
  rw[ht,this,Nat.mul_one]
def tst (n a : Nat) (l : List Nat) : Bool :=
 Nat.beq (pm n (Nat.log2 n + 1) a (n - 1) 1) 1 && Nat.blt n (prod l * prod l) && l.all fun q => Nat.beq ((n - 1) % q) 0 && Nat.beq (Nat.gcd (pm n (Nat.log2 n + 1) a ((n - 1) / q) 1 % n + (n - 1)) n) 1
theorem pm_pow {n a e : Nat} (h : e ≤ n) : pm n (Nat.log2 n + 1) a e 1 % n = a ^ e % n := by
 rw[pm_ok n _ _ _ _ (Nat.lt_of_le_of_lt h Nat.lt_log2_self),Nat.one_mul]
theorem tst_ok {n a : Nat} {l : List Nat} (hn : 2 ≤ n) (hl : ∀ q, q ∈ l → IsP q) (nd : l.Nodup) (h : tst n a l = true) : IsP n := by
 unfold tst at h
 simp only[Bool.and_eq_true,List.all_eq_true] at h
 obtain ⟨⟨h1, h2⟩, h3⟩ := h
 have h1 := Nat.eq_of_beq_eq_true h1
 refine pocks (a := a) hn hl nd (by simpa [Nat.blt_eq] using h2) ?_ fun q hq => ?_
 ·rw[← pm_pow (by omega),h1]
  exact Nat.mod_eq_of_lt (by omega)
 ·obtain ⟨g1, g2⟩ := h3 q hq
  have g1 := Nat.eq_of_beq_eq_true g1
  have g2 := Nat.eq_of_beq_eq_true g2
  refine ⟨?_, ?_⟩
  ·have := Nat.div_add_mod (n - 1) q
   omega
  ·have e := pm_pow (a := a) (show (n - 1) / q ≤ n from Nat.le_trans (Nat.div_le_self _ _) (by omega))
   rw[← e,g2]
theorem sml_ok {n k : Nat} (hn : 2 ≤ n) (hk : n < k * k) (h : ((List.range k).all fun d => Nat.blt d 2 || !(Nat.beq (n % d) 0)) = true) : IsP n := by
 have key : ∀ s t, s * t = n → s ≤ t → s = 1 := fun s t e hst => by
  have hs : s < k := Classical.byContradiction fun g => by
   have := Nat.mul_le_mul (show k ≤ s by omega) (show k ≤ t by omega)
   omega
  have s0 : s ≠ 0 := fun x => by rw[x,Nat.zero_mul] at e; omega
  have g := List.all_eq_true.1 h s (List.mem_range.2 hs)
  rw[Bool.or_eq_true] at g
  rcases g with g | g
  ·have : s < 2 := by simpa [Nat.blt_eq] using g
   omega
  ·rw[← e,Nat.mul_mod_right] at g
   simp at g
 refine ⟨hn, fun d hd => ?_⟩
 obtain ⟨t, ht⟩ := hd
 rcases Nat.le_total d t with g | g
 ·exact .inl (key d t ht.symm g)
 ·right
  have := key t d (by rw[Nat.mul_comm]; exact ht.symm) g
  rw[ht,this,Nat.mul_one]
theorem und {p k m x : Nat} (hp : IsP p) (hx : x = 1 + (p - 1) * k) : m ^ x % p = m % p := by
 have h2 := hp.1
 rw[hx,Nat.pow_add,Nat.pow_one]
 by_cases h : p ∣ m
 ·obtain ⟨t, rfl⟩ := h
  rw[Nat.mul_assoc,Nat.mul_mod_right,Nat.mul_mod_right]
 ·rw[Nat.mul_mod,pow_one_mod h2 k (fermat1 hp h),Nat.mul_one,Nat.mod_mod]
theorem crt {p q a b : Nat} (hp : IsP p) (hq : IsP q) (h : p ≠ q) (h1 : a % p = b % p) (h2 : a % q = b % q) : a % (p * q) = b % (p * q) := by
 have key : ∀ a b, b ≤ a → a % p = b % p → a % q = b % q → a % (p * q) = b % (p * q) := fun a b hb h1 h2 => by
  obtain ⟨t, ht⟩ := Nat.Coprime.mul_dvd_of_dvd_of_dvd (hp.cop hq h) (dvd_mod h1 hb) (dvd_mod h2 hb)
  rw[show a = b + p * q * t by omega, Nat.add_mul_mod_self_left]
 rcases Nat.le_total b a with g | g
 ·exact key a b g h1 h2
 ·exact (key b a g h1.symm h2.symm).symm
theorem undo {p q m e d j k : Nat} (hp : IsP p) (hq : IsP q) (h : p ≠ q) (h1 : d * e = 1 + (p - 1) * j) (h2 : d * e = 1 + (q - 1) * k) : (m ^ d) ^ e % (p * q) = m % (p * q) := by
 rw[← Nat.pow_mul]
 exact crt hp hq h (und hp h1) (und hq h2)
end Go.Proofs.YtcgplgpdcfocpaaGreatDoor.Pr
end
section
namespace Go.Proofs.YtcgplgpdcfocpaaGreatDoor.Der
open Go Go.RowKit Go.Proofs Go.Proofs.YtcgplgpdcfocpaaGreatDoor.Eng Go.Proofs.YtcgplgpdcfocpaaGreatDoor.Code
attribute [local irreducible] callK S.W opsW scrW scrT
open Go.Proofs.YtcgplgpdcfocpaaGreatDoor.Spec Go.Proofs.YtcgplgpdcfocpaaGreatDoor.Big
attribute [local irreducible] checkR
theorem emp (a m : Int) (n : Nat) : (a % m) ^ n % m = a ^ n % m := by
 induction n with
 | zero => rw[Int.pow_zero,Int.pow_zero]
 | succ n ih => rw[Int.pow_succ,Int.pow_succ,Int.mul_emod,ih,Int.emod_emod,← Int.mul_emod]
structure Key (N E D : List Int) (k : Nat) : Prop where
 lN : Lim N
 lD : Lim D
 nN : N.length ≤ 64
 nE : E.length ≤ 64
 nD : D.length ≤ 64
 chk : checkR N E = 0
 bits : bl (val N) = 8 * k
 small : 0 < k ∧ k ≤ 1024
 un : ∀ x : Int, 0 ≤ x → x < val N → (x ^ (val D).toNat) ^ (val E).toNat % val N = x
theorem Key.size {N E D : List Int} {k : Nat} (K : Key N E D k) : sizeK N E = k := by
 unfold sizeK
 rw[if_neg (by rw [K.chk]; decide),K.bits]
 omega
theorem Key.top {N E D : List Int} {k : Nat} (K : Key N E D k) : val N < 256 ^ k ∧ 256 ^ (k - 1) < val N := by
 have b0 := (val_bd K.lN).1
 have h1 := (bl_le b0 (k := 8 * k)).1 (by rw[K.bits]; exact Nat.le_refl _)
 have hk := K.small
 have h2 : ¬ val N < 2 ^ (8 * (k - 1) + 1) := fun h => by
  have := (bl_le b0).2 h
  rw[K.bits] at this
  omega
 refine ⟨by rw[p8_p2]; exact h1, ?_⟩
 rw[p8_p2]
 rw[Int.pow_succ] at h2
 have : (0 : Int) < 2 ^ (8 * (k - 1)) := Int.pow_pos (by decide)
 omega
theorem Key.pos {N E D : List Int} {k : Nat} (K : Key N E D k) : 0 < val N := Int.lt_trans (Int.pow_pos (by decide)) K.top.2
theorem byt_lim {P : List Int} {k : Nat} (hP : Byt P) (hl : P.length = k) (hk : k ≤ 1024) : (limbs (bv P)).length ≤ 256 := by
 rw[limbs_len (bv_bd hP).1]
 refine Int.lt_of_lt_of_le (bv_bd hP).2 ?_
 rw[p8_pw,p8_p2,p8_p2]
 exact p2_mono (by omega)
def sigP (N D : List Int) (k : Nat) (P : List Int) : List Int := bvs k (bv P ^ (val D).toNat % val N)
theorem sgn_bd {N E D : List Int} {k : Nat} (K : Key N E D k) (P : List Int) : 0 ≤ bv P ^ (val D).toNat % val N ∧ bv P ^ (val D).toNat % val N < val N := ⟨Int.emod_nonneg _ (by have := K.pos; omega), Int.emod_lt_of_pos _ K.pos⟩
theorem pow_of {b E N : List Int} (h1 : b.length ≤ 512) (h2 : E.length ≤ 256) (h3 : N.length ≤ 256) (h : 0 < val N) : powR b E N = (limbs (val b ^ (val E).toNat % val N), 0) := by
 unfold powR
 rw[if_neg (by omega),if_neg (by omega)]
theorem tb_of {N : List Int} {E D : List Int} {k : Nat} (K : Key N E D k) {v : Int} (h0 : 0 ≤ v) (h1 : v < val N) : tbR (limbs v) k = (bvs k v, 0) := by
 have hl : (limbs v).length ≤ 256 := by
  have := len_mono h0 (Int.le_of_lt h1)
  have := len_val K.lN
  have := K.nN
  omega
 have hk := K.small
 unfold tbR
 rw[limbs_val h0,if_neg (by omega),if_neg (by omega),if_neg]
 ·rfl
 ·have : bl v ≤ bl (val N) := (bl_le h0).2 (Int.lt_trans h1 ((bl_le (by omega)).1 (Nat.le_refl _)))
  have := K.bits
  omega
theorem fb_of {P : List Int} {k : Nat} (hl : P.length = k) (hk : k ≤ 1024) : fbR P = (limbs (bv P), 0) := by
 unfold fbR
 rw[if_neg (by omega)]
theorem Key.sign {N E D : List Int} {k : Nat} (K : Key N E D k) {P : List Int} (hP : Byt P) (hl : P.length = k) : (tbR (powR (fbR P).1 D N).1 k) = (sigP N D k P, 0) := by
 have hk := K.small
 have := byt_lim hP hl hk.2
 have := K.nN
 have := K.nD
 rw[fb_of hl hk.2,pow_of (by show (limbs _).length ≤ _; omega) (by omega) (by omega) K.pos]
 show tbR (limbs _) k = _
 rw[limbs_val (bv_bd hP).1,tb_of K (sgn_bd K P).1 (sgn_bd K P).2]
 rfl
theorem Key.raw {N E D : List Int} {k : Nat} (K : Key N E D k) {s : List Int} (hs : Byt s) (hl : s.length = k) : rawR N E s = if bv s < val N then (bvs k (bv s ^ (val E).toNat % val N), 0) else ([], 112) := by
 have hk := K.small
 have h1 := byt_lim hs hl hk.2
 have := K.nN
 have := K.nE
 unfold rawR
 rw[K.size,if_neg (by omega),if_neg (by rw [hl]; simp),fb_of hl hk.2]
 show (if ¬ val (limbs _) < _ then _ else _) = _
 rw[limbs_val (bv_bd hs).1]
 by_cases h : bv s < val N
 ·rw[if_neg (by simpa using h),if_pos h,pow_of (by show (limbs _).length ≤ _; omega) (by omega) (by omega) K.pos]
  show ((tbR (limbs _) k).1, 0) = _
  rw[limbs_val (bv_bd hs).1,tb_of K (Int.emod_nonneg _ (by have := K.pos; omega)) (Int.emod_lt_of_pos _ K.pos)]
 ·rw[if_pos h,if_neg h]
theorem sgn_len (N D : List Int) (k : Nat) (P : List Int) : (sigP N D k P).length = k := bvs_len _ _
theorem sgn_byt (N D : List Int) (k : Nat) (P : List Int) : Byt (sigP N D k P) := bvs_byt _ _
theorem sgn_bv {N E D : List Int} {k : Nat} (K : Key N E D k) (P : List Int) : bv (sigP N D k P) = bv P ^ (val D).toNat % val N := bv_bvs (sgn_bd K P).1 (Int.lt_trans (sgn_bd K P).2 K.top.1)
theorem Key.says {N E D : List Int} {k : Nat} (K : Key N E D k) {P : List Int} (hP : Byt P) (hl : P.length = k) (hb : bv P < val N) : rawR N E (sigP N D k P) = (P, 0) := by
 rw[K.raw (sgn_byt _ _ _ _) (sgn_len _ _ _ _),sgn_bv K,if_pos (sgn_bd K P).2]
 have e : (bv P ^ (val D).toNat % val N) ^ (val E).toNat % val N = bv P := by
  rw[emp,K.un _ (bv_bd hP).1 hb]
 rw[e,← hl,bvs_bv hP]
theorem Key.only {N E D : List Int} {k : Nat} (K : Key N E D k) {P s : List Int} (hP : Byt P) (hs : Byt s) (hl : s.length = k) (h : rawR N E s = (P, 0)) : s = sigP N D k P := by
 rw[K.raw hs hl] at h
 by_cases hb : bv s < val N
 ·rw[if_pos hb] at h
  have e : P = bvs k (bv s ^ (val E).toNat % val N) := (congrArg Prod.fst h).symm
  have hz := Int.emod_nonneg (bv s ^ (val E).toNat) (show val N ≠ 0 by have := K.pos; omega)
  have ht := Int.emod_lt_of_pos (bv s ^ (val E).toNat) K.pos
  have e2 : bv P = bv s ^ (val E).toNat % val N := by
   rw[e]
   exact bv_bvs hz (Int.lt_trans ht K.top.1)
  have e3 : bv P ^ (val D).toNat % val N = bv s := by
   rw[e2,emp,← Int.pow_mul,Nat.mul_comm,Int.pow_mul]
   exact K.un _ (bv_bd hs).1 hb
  unfold sigP
  rw[e3,← hl,bvs_bv hs]
 ·rw[if_neg hb] at h
  have := congrArg Prod.snd h
  exact absurd this (by show ¬ (112 : Int) = 0; decide)
open Go.Proofs.YtcgplgpdcfocpaaGreatDoor.Pr in
theorem un_of {N E D : List Int} {p q j l : Nat} (hp : IsP p) (hq : IsP q) (hne : p ≠ q) (hN : val N = ((p * q : Nat) : Int)) (h1 : (val D).toNat * (val E).toNat = 1 + (p - 1) * j) (h2 : (val D).toNat * (val E).toNat = 1 + (q - 1) * l) (x : Int) (h0 : 0 ≤ x) (hx : x < val N) : (x ^ (val D).toNat) ^ (val E).toNat % val N = x := by
 obtain ⟨n, rfl⟩ := Int.eq_ofNat_of_zero_le h0
 have u := undo (m := n) hp hq hne h1 h2
 rw[hN] at hx ⊢
 have hn : n < p * q := by exact_mod_cast hx
 rw[Nat.mod_eq_of_lt hn] at u
 exact_mod_cast congrArg (fun t : Nat => (t : Int)) u
end Go.Proofs.YtcgplgpdcfocpaaGreatDoor.Der
end
section
namespace Go.Proofs.YtcgplgpdcfocpaaGreatDoor.Der
open Go Go.RowKit Go.Proofs Go.Proofs.YtcgplgpdcfocpaaGreatDoor.Eng Go.Proofs.YtcgplgpdcfocpaaGreatDoor.Code
attribute [local irreducible] callK S.W opsW scrW scrT
open Go.Proofs.YtcgplgpdcfocpaaGreatDoor.Spec Go.Proofs.YtcgplgpdcfocpaaGreatDoor.Big
attribute [local irreducible] checkR powR tbR fbR
end Go.Proofs.YtcgplgpdcfocpaaGreatDoor.Der
end
section
namespace Go.Proofs.YtcgplgpdcfocpaaGreatDoor.Der
open Go Go.RowKit Go.Proofs Go.Proofs.YtcgplgpdcfocpaaGreatDoor.Eng Go.Proofs.YtcgplgpdcfocpaaGreatDoor.Code
attribute [local irreducible] callK S.W opsW scrW scrT
open Go.Proofs.YtcgplgpdcfocpaaGreatDoor.Spec Go.Proofs.YtcgplgpdcfocpaaGreatDoor.Big
attribute [local irreducible] checkR sizeK rawR padR putR headR oidP
theorem bytes_back : ∀ {l : List Int}, Byt l → ((l.map fun n => UInt8.ofNat n.toNat).map fun u => (u.toNat : Int)) = l
 | [], _ => rfl
 | x :: r, h => by
  have hx := h.cons
  rw[List.map_cons,List.map_cons,bytes_back hx.2]
  congr 1
  have : (UInt8.ofNat x.toNat).toNat = x.toNat := by
   rw[UInt8.toNat_ofNat']
   exact Nat.mod_eq_of_lt (by omega)
  omega
theorem str_eq {a b : List Int} (ha : Byt a) (hb : Byt b) : ((strOfNums a).toList == (strOfNums b).toList) = decide (a = b) := by
 have e : ∀ l : List Int, (strOfNums l).toList = l.map fun n => UInt8.ofNat n.toNat := fun l => S_toList _
 rw[e,e]
 by_cases h : a = b
 ·rw[h,decide_eq_true rfl,beq_self_eq_true]
 ·rw[decide_eq_false h,beq_eq_false_iff_ne]
  intro g
  apply h
  rw[← bytes_back ha,g,bytes_back hb]
theorem equal_k {w : World} {va vb : Value} {l r : List Int} (ha : Vw .u8 w va l) (hb : Vw .u8 w vb r) (bl : Byt l) (br : Byt r) {K : Value → World → Prop} (hK : K (.bool (decide (l = r))) w) : callK Tryz.prog 28 [va, vb] w K := by
 refine call_of Tryz.func28 Code.h28 (by simp[Code.c28]) ?_
 obtain ⟨A, c, rfl, hc, hr⟩ := ha
 obtain ⟨B, d, rfl, hd, hs⟩ := hb
 simp(disch:=omega)only[Zu,Zv,Zx,Zz,EZ,↓EP,↓reduceIte,Za,Zb,Zc,Zd,Ze,Zf,Zg,Zj,Zk,Zl,Zm,Zn,Zp,Zq,reduceCtorEq,Code.c28,↓i_cvbsJ]
 refine cvbs_k hr rfl ?_
 simp(disch:=omega)only[Zu,Zv,Zx,Zz,EZ,↓EP,↓reduceIte,Za,Zb,Zc,Zd,Ze,Zf,Zg,Zj,Zk,Zl,Zm,Zn,Zp,Zq,reduceCtorEq,↓i_cvbsJ]
 refine cvbs_k hs rfl ?_
 simp(disch:=omega)only[Zu,Zv,Zx,Zz,EZ,↓EP,↓reduceIte,Za,Zb,Zc,Zd,Ze,Zf,Zg,Zj,Zk,Zl,Zm,Zn,Zp,Zq,reduceCtorEq,b_seql,str_eq bl br]
 exact hK
end Go.Proofs.YtcgplgpdcfocpaaGreatDoor.Der
end
section
namespace Go.Proofs.YtcgplgpdcfocpaaGreatDoor.Der
open Go Go.RowKit Go.Proofs Go.Proofs.YtcgplgpdcfocpaaGreatDoor.Eng Go.Proofs.YtcgplgpdcfocpaaGreatDoor.Code
attribute [local irreducible] callK S.W opsW scrW scrT
open Go.Proofs.YtcgplgpdcfocpaaGreatDoor.Spec Go.Proofs.YtcgplgpdcfocpaaGreatDoor.Big
theorem alg_or {alg : Int} (h : sizeI alg ≠ 0) : (alg = 1 ∧ sizeI alg = 20) ∨ (alg = 2 ∧ sizeI alg = 32) ∨ (alg = 3 ∧ sizeI alg = 48) ∨ (alg = 4 ∧ sizeI alg = 64) := by
 unfold sizeI at h ⊢
 grind
theorem raw_byt {N E sig : List Int} : Byt (rawR N E sig).1 := by
 unfold rawR
 split
 ·exact Byt.nil
 split
 ·exact Byt.nil
 split
 ·exact Byt.nil
 ·show Byt (tbR _ _).1
  unfold tbR
  split
  ·exact Byt.nil
  split
  ·exact Byt.nil
  split
  ·exact Byt.nil
  ·exact bvs_byt _ _
theorem rawR_len {N E sig : List Int} : (rawR N E sig).1.length ≤ 2048 := by
 unfold rawR
 split
 ·simp
 split
 ·simp
 split
 ·simp
 ·show ((tbR _ _).1).length ≤ _
  unfold tbR
  split
  ·simp
  split
  ·simp
  split
  ·simp
  ·show (bvs _ _).length ≤ _
   rw[bvs_len]
   omega
end Go.Proofs.YtcgplgpdcfocpaaGreatDoor.Der
end
section
namespace Go.Proofs.YtcgplgpdcfocpaaGreatDoor.Der
open Go Go.RowKit Go.Proofs Go.Proofs.YtcgplgpdcfocpaaGreatDoor.Eng Go.Proofs.YtcgplgpdcfocpaaGreatDoor.Code
attribute [local irreducible] callK S.W opsW scrW scrT
open Go.Proofs.YtcgplgpdcfocpaaGreatDoor.Spec Go.Proofs.YtcgplgpdcfocpaaGreatDoor.Big
attribute [local irreducible] checkR sizeK rawR padR
end Go.Proofs.YtcgplgpdcfocpaaGreatDoor.Der
end
section
namespace Go.Proofs.YtcgplgpdcfocpaaGreatDoor.Der
open Go Go.RowKit Go.Proofs Go.Proofs.YtcgplgpdcfocpaaGreatDoor.Eng Go.Proofs.YtcgplgpdcfocpaaGreatDoor.Code
attribute [local irreducible] callK S.W opsW scrW scrT
open Go.Proofs.YtcgplgpdcfocpaaGreatDoor.Spec Go.Proofs.YtcgplgpdcfocpaaGreatDoor.Big
attribute [local irreducible] checkR sizeK rawR infoR
end Go.Proofs.YtcgplgpdcfocpaaGreatDoor.Der
end
section
namespace Go.Proofs.YtcgplgpdcfocpaaGreatDoor.Der
open Go Go.RowKit Go.Proofs Go.Proofs.YtcgplgpdcfocpaaGreatDoor.Eng Go.Proofs.YtcgplgpdcfocpaaGreatDoor.Code
attribute [local irreducible] callK S.W opsW scrW scrT
open Go.Proofs.YtcgplgpdcfocpaaGreatDoor.Spec Go.Proofs.YtcgplgpdcfocpaaGreatDoor.Big
theorem wrap8 (x : Int) : 0 ≤ IntKind.u8.wrap x ∧ IntKind.u8.wrap x < 256 := by
 show 0 ≤ x % 256 ∧ x % 256 < 256
 omega
theorem dig_byt (alg : Int) (m : List Int) : Byt (dig alg m) := by
 unfold dig
 refine Byt.take ?_ _
 unfold outF
 intro x hx
 split at hx
 ·obtain ⟨i, _, h⟩ := List.mem_flatMap.1 hx
  unfold Spec.w4 at h
  simp only[List.mem_cons,List.not_mem_nil,or_false] at h
  rcases h with rfl | rfl | rfl | rfl <;> exact wrap8 _
 ·obtain ⟨i, _, h⟩ := List.mem_flatMap.1 hx
  unfold v8 at h
  obtain ⟨k, _, rfl⟩ := List.mem_map.1 h
  exact wrap8 _
theorem xor_byt {x y : Int} (hx : 0 ≤ x ∧ x < 256) (hy : 0 ≤ y ∧ y < 256) : 0 ≤ bits .xor .u8 x y ∧ bits .xor .u8 x y < 256 := wrap8 _
def allB (p : Nat → Nat → Bool) : Bool := (List.range 256).all fun x => (List.range 8).all fun o => p x o
theorem all_b {p : Nat → Nat → Bool} (h : allB p = true) {x o : Nat} (hx : x < 256) (ho : o < 8) : p x o = true := by
 have := List.all_eq_true.1 h x (List.mem_range.2 hx)
 exact List.all_eq_true.1 this o (List.mem_range.2 ho)
theorem free_1 : allB (fun x o => decide ((bits .andNot .u8 (x : Int) ((255 : Int).fdiv (2 ^ o)) = 0) ↔ ((x : Int) < 2 ^ (8 - o)))) = true := by decide +kernel
theorem free_2 : allB (fun x o => decide ((IntKind.u8.wrap ((x : Int) * 2 ^ o)).fdiv (2 ^ o) = bits .and .u8 (x : Int) ((255 : Int).fdiv (2 ^ o)))) = true := by decide +kernel
theorem free_not {x : Int} {o : Nat} (hx : 0 ≤ x ∧ x < 256) (ho : o < 8) : (bits .andNot .u8 x ((255 : Int).fdiv (2 ^ o)) = 0) ↔ x < 2 ^ (8 - o) := by
 have := of_decide_eq_true (all_b free_1 (x := x.toNat) (by omega) ho)
 rwa [Int.toNat_of_nonneg hx.1] at this
theorem free_cut {x : Int} {o : Nat} (hx : 0 ≤ x ∧ x < 256) (ho : o < 8) : (IntKind.u8.wrap (x * 2 ^ o)).fdiv (2 ^ o) = bits .and .u8 x ((255 : Int).fdiv (2 ^ o)) := by
 have := of_decide_eq_true (all_b free_2 (x := x.toNat) (by omega) ho)
 rwa [Int.toNat_of_nonneg hx.1] at this
def dbB (o : Nat) (em veil : List Int) (j : Nat) : Int :=
 if j = 0 then bits .and .u8 (bits .xor .u8 (at' em 0) (at' veil 0)) ((255 : Int).fdiv (2 ^ o)) else bits .xor .u8 (at' em (j : Nat)) (at' veil (j : Nat))
def dbR (o dl : Nat) (em veil : List Int) : List Int := (List.range dl).map (dbB o em veil)
theorem dbR_len (o dl : Nat) (em veil : List Int) : (dbR o dl em veil).length = dl := by simp[dbR]
theorem dbR_byt (o dl : Nat) (em veil : List Int) : Byt (dbR o dl em veil) := fun x hx => by
 obtain ⟨j, _, rfl⟩ := List.mem_map.1 hx
 unfold dbB
 split
 ·exact wrap8 _
 ·exact wrap8 _
theorem at_dbR {o dl : Nat} {em veil : List Int} {j : Nat} (h : j < dl) : at' (dbR o dl em veil) (j : Nat) = dbB o em veil j := by
 rw[at_get (by rw [dbR_len]; exact h)]
 simp[dbR]
def pssF (m n : Nat) (alg mask : Int) (salt : Nat) (sum em : List Int) : Int :=
 if (n : Int) - sum.length - 2 < salt ∨ at' em ((n - 1 : Nat) : Int) ≠ 188 then 112
 else if ¬ at' em 0 < 2 ^ (8 - (8 * n - m)) then 112
 else if (dbR (8 * n - m) (n - sum.length - 1) em (maskR mask ((em.drop (n - sum.length - 1)).take sum.length) ((n - sum.length - 1 : Nat) : Int)).1).take (n - sum.length - 1 - salt) ≠ List.replicate (n - sum.length - 2 - salt) 0 ++ [1] then 112
 else if dig alg (List.replicate 8 0 ++ sum ++ (dbR (8 * n - m) (n - sum.length - 1) em (maskR mask ((em.drop (n - sum.length - 1)).take sum.length) ((n - sum.length - 1 : Nat) : Int)).1).drop (n - sum.length - 1 - salt)) ≠ (em.drop (n - sum.length - 1)).take sum.length then 112 else 0
def pssE (m n : Nat) (alg mask : Int) (salt : Nat) (sum em : List Int) : Int :=
 if n < em.length ∧ at' em 0 ≠ 0 then 112 else pssF m n alg mask salt sum (if n < em.length then em.drop 1 else em)
def pssR (N E : List Int) (alg mask salt : Int) (sum sig : List Int) : Int :=
 if sizeI alg = 0 ∨ (sum.length : Int) ≠ sizeI alg ∨ sizeI mask = 0 ∨ salt < 0 then 1
 else if (rawR N E sig).2 ≠ 0 then (rawR N E sig).2
 else pssE (bl (val N) - 1) ((bl (val N) - 1 + 7) / 8) alg mask salt.toNat sum (rawR N E sig).1
theorem raw_sz {N E sig : List Int} (lN : Lim N) (h : (rawR N E sig).2 = 0) : 512 ≤ bl (val N) ∧ bl (val N) ≤ 8192 ∧ (rawR N E sig).1.length = (bl (val N) + 7) / 8 := by
 unfold rawR at h ⊢
 split at h
 ·exact absurd h (by decide)
 ·rename_i h0
  rw[if_neg h0]
  split at h
  ·exact absurd h (by decide)
  ·rename_i h1
   rw[if_neg h1]
   split at h
   ·exact absurd h (by decide)
   ·rename_i h2
    rw[if_neg h2]
    have hc : checkR N E = 0 := by
     apply Classical.byContradiction
     intro g
     exact h0 (by unfold sizeK; rw[if_pos g])
    have hs : sizeK N E = ((bl (val N) + 7) / 8 : Nat) := by unfold sizeK; rw[if_neg (by simpa using hc)]
    have hb := bl_lim lN
    have hn : N.length ≤ 256 := Classical.byContradiction fun g => by
     unfold checkR at hc
     rw[if_pos (.inl (by omega))] at hc
     exact absurd hc (by decide)
    have h5 : 512 ≤ bl (val N) := Classical.byContradiction fun g => by
     unfold checkR at hc
     rw[if_pos (by omega)] at hc
     exact absurd hc (by decide)
    refine ⟨h5, by omega, ?_⟩
    have ht := raw_tb (s := (fbR sig).1) (E := E) lN h0
    show ((tbR (powR (fbR sig).1 E N).1 (sizeK N E)).1).length = _
    unfold tbR at ht ⊢
    split at ht
    ·exact absurd ht (by decide)
    ·rename_i g1
     rw[if_neg g1]
     split at ht
     ·exact absurd ht (by decide)
     ·rename_i g2
      rw[if_neg g2]
      split at ht
      ·exact absurd ht (by decide)
      ·rename_i g3
       rw[if_neg g3]
       show (bvs _ _).length = _
       rw[bvs_len,hs]
       omega
end Go.Proofs.YtcgplgpdcfocpaaGreatDoor.Der
end
section
namespace Go.Proofs.YtcgplgpdcfocpaaGreatDoor.Der
open Go Go.RowKit Go.Proofs Go.Proofs.YtcgplgpdcfocpaaGreatDoor.Eng Go.Proofs.YtcgplgpdcfocpaaGreatDoor.Code
attribute [local irreducible] callK S.W opsW scrW scrT
open Go.Proofs.YtcgplgpdcfocpaaGreatDoor.Spec Go.Proofs.YtcgplgpdcfocpaaGreatDoor.Big
theorem vw_lo {k : IntKind} {w : World} {A : Option Addr} {c : Nat} {l : List Int} (hc : l.length ≤ c) (h : Rd w A (nums k l)) (o : Nat) (ho : o ≤ l.length) {n : Nat} (hn : l.length = n) : Vw k w (.slice (subA A c o 1) (n - o) (c - o)) (l.drop o) :=
 Vw.of (by simp; omega) (by omega) (h.subA c o hc)
set_option maxHeartbeats 2000000 in
def trimR : List Int → List Int
 | [] => []
 | x :: r => if x = 0 then trimR r else x :: r
theorem trimb_k {w : World} {v : Value} {l : List Int} (hv : Vw .u8 w v l) (hl : l.length ≤ 1000000) {K : Value → World → Prop}
  (hK : ∀ v', Vw .u8 w v' (trimR l) → K v' w) : callK Tryz.prog 66 [v, .int .u8 0] w K := by
 refine call_of Tryz.func66 Code.h66 (by simp[Code.c66]) ?_
 simp(disch:=omega)only[Zu,Zv,Zx,Zz,EZ,↓EP,↓reduceIte,Za,Zb,Zc,Zd,Ze,Zf,Zg,Zj,Zk,Zl,Zm,Zn,Zp,Zq,reduceCtorEq,Code.c66]
 refine loop_inv (fun t ρ w' => w' = w ∧ ∃ l' v', Vw .u8 w v' l' ∧ ρ 0 = v' ∧ ρ 1 = .int .u8 0 ∧ l'.length = t ∧ trimR l' = trimR l) _ ⟨rfl, l, v, hv, by simp(disch:=omega)only[Zu,Zv,Zx,Zz,EZ,↓EP,↓reduceIte,Za,Zb,Zc,Zd,Ze,Zf,Zg,Zj,Zk,Zl,Zm,Zn,Zp,Zq,reduceCtorEq], by simp(disch:=omega)only[Zu,Zv,Zx,Zz,EZ,↓EP,↓reduceIte,Za,Zb,Zc,Zd,Ze,Zf,Zg,Zj,Zk,Zl,Zm,Zn,Zp,Zq,reduceCtorEq], rfl, rfl⟩ ?_
 rintro t ρ w' hf ⟨rfl, l', v', hv', h0, h1, rfl, he⟩ N hN
 obtain ⟨A, c, rfl, hc, hr⟩ := id hv'
 clear hf
 match l', hv', hr, hc, h0, he, hN with
 | [], hv', hr, hc, h0, he, hN =>
  simp(disch:=omega)only[Zu,Zv,Zx,Zz,EZ,↓EP,↓reduceIte,Za,Zb,Zc,Zd,Ze,Zf,Zg,Zj,Zk,Zl,Zm,Zn,Zp,Zq,reduceCtorEq,h0,h1,List.length_nil]
  refine hK _ ?_
  rw[← he]
  exact Vw.nil _ _
 | x :: r, hv', hr, hc, h0, he, hN =>
  obtain ⟨ad, rfl, _, hcl⟩ := hr.get (by rw[nums_length]; simp)
  have c0 : w'.cell? (ad.add 0) = some (.int .u8 x) := hcl.numN (j := 0) (by simp)
  have hp : (0 : Int) < ((x :: r).length : Int) := by simp
  by_cases hx : x = 0
  ·subst hx
   simp(disch:=omega)only[Zu,Zv,Zx,Zz,EZ,↓EP,↓reduceIte,Za,Zb,Zc,Zd,Ze,Zf,Zg,Zj,Zk,Zl,Zm,Zn,Zp,Zq,reduceCtorEq,h0,h1,hp,c0]
   refine hN r.length _ _ (by simp) ⟨rfl, r, .slice (subA (some ad) c 1 1) (r.length + 1 - 1) (c - 1), ?_, by simp(disch:=omega)only[Zu,Zv,Zx,Zz,EZ,↓EP,↓reduceIte,Za,Zb,Zc,Zd,Ze,Zf,Zg,Zj,Zk,Zl,Zm,Zn,Zp,Zq,reduceCtorEq], by simp(disch:=omega)only[Zu,Zv,Zx,Zz,EZ,↓EP,↓reduceIte,Za,Zb,Zc,Zd,Ze,Zf,Zg,Zj,Zk,Zl,Zm,Zn,Zp,Zq,reduceCtorEq,h1], rfl, by rw[← he]; simp[trimR]⟩
   exact vw_lo hc hr 1 (by simp) (by simp)
  ·simp(disch:=omega)only[Zu,Zv,Zx,Zz,EZ,↓EP,↓reduceIte,Za,Zb,Zc,Zd,Ze,Zf,Zg,Zj,Zk,Zl,Zm,Zn,Zp,Zq,reduceCtorEq,h0,h1,hp,c0,hx]
   refine hK _ ?_
   rw[← he]
   unfold trimR
   rw[if_neg hx]
   exact hv'
theorem ixs0 {K : Value → Prop} (h : K (.int .u8 0)) : ixsK ⟨#[0]⟩ 0 K := ⟨by decide, by decide, h⟩
theorem trim_k {w : World} {v : Value} {l : List Int} (hv : Vw .u8 w v l) (hl : l.length ≤ 1000000) {K : Value → World → Prop}
  (hK : ∀ v', Vw .u8 w v' (trimR l) → K v' w) : callK Tryz.prog 39 [v, .string ⟨#[0]⟩] w K := by
 refine call_of Tryz.func39 Code.h39 (by simp[Code.c39]) ?_
 obtain ⟨A, c, rfl, hc, hr⟩ := id hv
 by_cases h0 : (l.length : Int) = 0
 ·obtain rfl : l = [] := List.length_eq_zero_iff.1 (by omega)
  simp(disch:=omega)only[Zu,Zv,Zx,Zz,EZ,↓EP,↓reduceIte,Za,Zb,Zc,Zd,Ze,Zf,Zg,Zj,Zk,Zl,Zm,Zn,Zp,Zq,reduceCtorEq,Code.c39,h0]
  exact hK _ (Vw.nil _ _)
 have e1 : ((⟨#[0]⟩ : ByteArray).toList == (⟨#[]⟩ : ByteArray).toList) = false := by decide +kernel
 have e2 : (⟨#[0]⟩ : ByteArray).size = 1 := rfl
 simp(disch:=omega)only[Zu,Zv,Zx,Zz,EZ,↓EP,↓reduceIte,Za,Zb,Zc,Zd,Ze,Zf,Zg,Zj,Zk,Zl,Zm,Zn,Zp,Zq,reduceCtorEq,Code.c39,h0,b_seql,e1,e2]
 refine ixs0 ?_
 simp(disch:=omega)only[Zu,Zv,Zx,Zz,EZ,↓EP,↓reduceIte,Za,Zb,Zc,Zd,Ze,Zf,Zg,Zj,Zk,Zl,Zm,Zn,Zp,Zq,reduceCtorEq]
 refine ixs0 ?_
 refine trimb_k hv hl fun v' h' => ?_
 obtain ⟨B, d, rfl, _, _⟩ := id h'
 simp(disch:=omega)only[Zu,Zv,Zx,Zz,EZ,↓EP,↓reduceIte,Za,Zb,Zc,Zd,Ze,Zf,Zg,Zj,Zk,Zl,Zm,Zn,Zp,Zq,reduceCtorEq]
 exact hK _ h'
theorem trim_one : ∀ l : List Int, trimR l = [1] ↔ l = List.replicate (l.length - 1) 0 ++ [1]
 | [] => by simp[trimR]
 | x :: r => by
  unfold trimR
  by_cases h : x = 0
  ·rw[if_pos h,trim_one r]
   subst h
   cases r with
   | nil => simp
   | cons y s =>
    simp only[List.length_cons,Nat.add_sub_cancel]
    rw[List.replicate_succ,List.cons_append]
    simp
  ·rw[if_neg h]
   cases r with
   | nil => simp
   | cons y s =>
    simp only[List.length_cons,Nat.add_sub_cancel]
    rw[List.replicate_succ,List.cons_append]
    simp[h]
end Go.Proofs.YtcgplgpdcfocpaaGreatDoor.Der
end
section
namespace Go.Proofs.YtcgplgpdcfocpaaGreatDoor.Der
open Go Go.RowKit Go.Proofs Go.Proofs.YtcgplgpdcfocpaaGreatDoor.Eng Go.Proofs.YtcgplgpdcfocpaaGreatDoor.Code
attribute [local irreducible] callK S.W opsW scrW scrT
open Go.Proofs.YtcgplgpdcfocpaaGreatDoor.Spec Go.Proofs.YtcgplgpdcfocpaaGreatDoor.Big
attribute [local irreducible] checkR sizeK rawR dig dbR pssF
theorem one_of {l : List Int} (h1 : l.length = 1) (h2 : at' l 0 = 1) : l = [1] := by
 match l, h1, h2 with
 | [x], _, h2 =>
  have : x = 1 := h2
  rw[this]
theorem pick_k {p : Prop} [Decidable p] {K : Value → World → Prop} {w : World} (h : K (.int .i64 (if ¬ p then 112 else 0)) w) : if ¬ p then K (.int .i64 112) w else K (.int .i64 0) w := by
 by_cases g : p
 ·rw[if_neg (fun x => x g)] at h ⊢
  exact h
 ·rw[if_pos g] at h ⊢
  exact h
theorem alg_14 {alg : Int} (h : sizeI alg ≠ 0) : 1 ≤ alg ∧ alg ≤ 4 := by
 rcases alg_or h with ⟨rfl, _⟩ | ⟨rfl, _⟩ | ⟨rfl, _⟩ | ⟨rfl, _⟩ <;> decide
theorem maskR_l2 {mask : Int} (h : sizeI mask ≠ 0) (seed : List Int) {n : Nat} (hn : n ≤ 2048) : (maskR mask seed n).1.length = n ∧ Byt (maskR mask seed n).1 := by
 have hz := sizeI_nn mask
 have ha : 1 ≤ mask ∧ mask ≤ 4 := by
  rcases alg_or h with ⟨rfl, _⟩ | ⟨rfl, _⟩ | ⟨rfl, _⟩ | ⟨rfl, _⟩ <;> decide
 unfold maskR
 rw[if_neg (by omega)]
 show ((maskL mask seed (n : Int).toNat).take (n : Int).toNat).length = n ∧ Byt ((maskL mask seed (n : Int).toNat).take (n : Int).toNat)
 rw[Int.toNat_natCast]
 constructor
 ·rw[List.length_take,maskL_len ha.1 ha.2]
  have h1 := mk_size ha.1 ha.2
  have : n * 1 ≤ n * (sizeI mask).toNat := Nat.mul_le_mul_left n (by omega)
  omega
 ·refine Byt.take ?_ _
  unfold maskL
  intro x hx
  obtain ⟨i, _, hi⟩ := List.mem_flatMap.1 hx
  exact dig_byt _ _ x hi
theorem mask_n {alg n : Int} {seed : List Int} {h : Nat} {A : Option Addr} {c : Nat} {w : World} (hT : Tb w) (hl : seed.length = h) (hc : h ≤ c) (hr : Rd w A (nums .u8 seed)) (hseed : h ≤ 16777000) {K : Value → World → Prop}
  (hK : ∀ v w', Vw .u8 w' v (maskR alg seed n).1 → (∀ b, blkOf v = some b → w.heap.size ≤ b) → Fr w w' nob → K (.tuple #[v, .int .i64 (maskR alg seed n).2]) w') : callK Tryz.prog 22 [.int .i64 alg, .slice A h c, .int .i64 n] w K := by
 subst hl
 exact mask_k hT hc hr hseed hK
theorem blk_sub {w : World} {b : Nat} {L l : List Int} (h : Blk w b (nums .u8 L)) (o n : Nat) (e : (L.drop o).take n = l) : Rd w (some ⟨b, o, none⟩) (nums .u8 l) := h.rd o (n := n) (by rw[nums_drop,nums_take,e])
theorem sub_list {em pad : List Int} {a h : Nat} (hh : a + h ≤ em.length) : ((em ++ pad).drop a).take h = (em.drop a).take h := by
 rw[List.drop_append_of_le_length (by omega),List.take_append_of_le_length (by rw [List.length_drop]; omega)]
theorem ll3 {w : World} {A B C D : Option Addr} {n c m d o e : Nat} {p q s : List Int} (h : Rd w A [.slice B n c, .slice C m d, .slice D o e]) (hn : p.length = n) (hc : n ≤ c) (hb : Rd w B (nums .u8 p)) (hm : q.length = m) (hd : m ≤ d) (hq : Rd w C (nums .u8 q)) (ho : s.length = o) (he : o ≤ e) (hs : Rd w D (nums .u8 s)) : LL w A [p, q, s] [.slice B n c, .slice C m d, .slice D o e] := by
 refine ⟨h, rfl, fun i r v h1 h2 => ?_⟩
 match i, h1, h2 with
 | 0, h1, h2 => simp at h1 h2; subst h1; subst h2; subst hn; exact ⟨B, c, rfl, hc, hb⟩
 | 1, h1, h2 => simp at h1 h2; subst h1; subst h2; subst hm; exact ⟨C, d, rfl, hd, hq⟩
 | 2, h1, h2 => simp at h1 h2; subst h1; subst h2; subst ho; exact ⟨D, e, rfl, he, hs⟩
 | (i + 3), h1, h2 => simp at h1
def Xd (L0 veil L : List Int) (o i : Nat) : Prop := L.length = L0.length ∧ ∀ j : Nat, at' L j = if o ≤ j ∧ j < o + i then bits .xor .u8 (at' L0 j) (at' veil ((j - o : Nat) : Int)) else at' L0 j
theorem Xd.zero (L0 veil : List Int) (o : Nat) : Xd L0 veil L0 o 0 := ⟨rfl, fun j => by rw[if_neg (by omega)]⟩
theorem Xd.step {L0 veil L : List Int} {o i : Nat} (h : Xd L0 veil L o i) (hi : o + i < L0.length) : Xd L0 veil (L.set (o + i) (bits .xor .u8 (at' L ((o + i : Nat) : Int)) (at' veil (i : Int)))) o (i + 1) := by
 refine ⟨by rw[List.length_set]; exact h.1, fun j => ?_⟩
 by_cases e : o + i = j
 ·subst e
  rw[Big.at_setN (by rw [h.1]; exact hi), if_pos (by omega), h.2, if_neg (by omega), show o + i - o = i by omega]
 ·rw[Big.at_setO e,h.2]
  by_cases c : o ≤ j ∧ j < o + i
  ·rw[if_pos c,if_pos (by omega)]
  ·rw[if_neg c,if_neg (by omega)]
theorem Xd.done {em pad veil L : List Int} {o dl ov : Nat} (h : Xd (em ++ pad) veil L o dl) (h0 : 0 < dl) (hl : o + dl ≤ em.length) : ((L.set o (bits .and .u8 (at' L (o : Int)) ((255 : Int).fdiv (2 ^ ov)))).drop o).take dl = dbR ov dl (em.drop o) veil := by
 have hL : L.length = em.length + pad.length := by rw[h.1,List.length_append]
 apply List.ext_getElem
 ·rw[List.length_take,List.length_drop,List.length_set,dbR_len]
  omega
 ·intro j h1 h2
  rw[dbR_len] at h2
  rw[← Big.at_get h1,← Big.at_get (by rw [dbR_len]; exact h2),Big.at_take h2,Big.at_drop,at_dbR h2]
  unfold dbB
  by_cases hj : j = 0
  ·subst hj
   have hx := h.2 o
   rw[if_pos (by omega),Nat.sub_self,Big.at_app (by omega)] at hx
   rw[Nat.add_zero,Big.at_setN (by omega),if_pos rfl,hx]
   have := Big.at_drop em 0 o
   rw[Nat.add_zero] at this
   rw[show (0 : Int) = ((0 : Nat) : Int) from rfl,this]
  ·rw[if_neg hj, Big.at_setO (by omega), h.2, if_pos (by omega), Big.at_app (by omega), show o + j - o = j by omega, Big.at_drop]
theorem Xd.rest {em pad veil L : List Int} {o dl h : Nat} {x : Int} (g : Xd (em ++ pad) veil L o dl) (h0 : 0 < dl) (hl : o + dl + h ≤ em.length) : ((L.set o x).drop (o + dl)).take h = ((em.drop o).drop dl).take h := by
 have hL : L.length = em.length + pad.length := by rw[g.1,List.length_append]
 apply List.ext_getElem
 ·simp only[List.length_take,List.length_drop,List.length_set]
  omega
 ·intro j h1 h2
  have hj : j < h := by
   simp only[List.length_take,List.length_drop] at h2
   omega
  rw[← Big.at_get h1,← Big.at_get h2,Big.at_take hj,Big.at_take hj,Big.at_drop,Big.at_drop,Big.at_drop,Big.at_setO (by omega),g.2,if_neg (by omega),Big.at_app (by omega),Nat.add_assoc]
theorem sub_at {b o c k : Nat} (h : c ≠ k) : subA (some ⟨b, o, none⟩) c k 1 = some ⟨b, o + k, none⟩ := by
 unfold subA
 rw[if_neg h]
 show some (Addr.add _ _) = _
 rw[Nat.mul_one,Addr.add_lit]
theorem sub_blk {b c : Nat} (h : 1 ≤ c) (hc : c ≠ 1) : subA (some ⟨b, 0, none⟩) c 1 1 = some ⟨b, 1, none⟩ := by
 unfold subA
 rw[if_neg hc]
 rfl
end Go.Proofs.YtcgplgpdcfocpaaGreatDoor.Der
end
section
namespace Go.Proofs.YtcgplgpdcfocpaaGreatDoor.Der
open Go Go.RowKit Go.Proofs Go.Proofs.YtcgplgpdcfocpaaGreatDoor.Eng Go.Proofs.YtcgplgpdcfocpaaGreatDoor.Code
attribute [local irreducible] callK S.W opsW scrW scrT
open Go.Proofs.YtcgplgpdcfocpaaGreatDoor.Spec Go.Proofs.YtcgplgpdcfocpaaGreatDoor.Big
attribute [local irreducible] checkR sizeK rawR maskR dig dbR pssF dbB
theorem head_is {DB : List Int} {k : Nat} (hk : k < DB.length) : DB.take (k + 1) = List.replicate k 0 ++ [1] ↔ (∀ j : Nat, j < k → at' DB j = 0) ∧ at' DB k = 1 := by
 constructor
 ·intro h
  refine ⟨fun j hj => ?_, ?_⟩
  ·have := congrArg (fun l => at' l (j : Int)) h
   have this : at' (DB.take (k + 1)) (j : Int) = at' (List.replicate k 0 ++ [1]) (j : Int) := this
   have hz : at' (List.replicate k (0 : Int)) (j : Int) = 0 := by
    rw[Big.at_get (by simpa using hj)]
    simp
   rw[Big.at_take (by omega),Big.at_app (by simpa using hj),hz] at this
   exact this
  ·have e : (List.replicate k (0 : Int) ++ [1])[k]? = some 1 := by
    rw[List.getElem?_append_right (by simp)]
    simp
   rw[← h,List.getElem?_take,if_pos (by omega),List.getElem?_eq_getElem hk] at e
   rw[Big.at_get hk]
   exact Option.some.inj e
 ·rintro ⟨h1, h2⟩
  apply List.ext_getElem
  ·simp only[List.length_take,List.length_append,List.length_replicate,List.length_cons,List.length_nil]
   omega
  ·intro j g1 g2
   have hj : j < k + 1 := by
    simp only[List.length_take] at g1
    omega
   rw[← Big.at_get g1,Big.at_take hj]
   by_cases e : j < k
   ·rw[h1 j e,List.getElem_append_left (by simpa using e)]
    simp
   ·obtain rfl : j = k := by omega
    rw[h2,List.getElem_append_right (by simp)]
    simp
end Go.Proofs.YtcgplgpdcfocpaaGreatDoor.Der
end
section
namespace Go.Proofs.YtcgplgpdcfocpaaGreatDoor.Der
open Go Go.RowKit Go.Proofs Go.Proofs.YtcgplgpdcfocpaaGreatDoor.Eng Go.Proofs.YtcgplgpdcfocpaaGreatDoor.Code
attribute [local irreducible] callK S.W opsW scrW scrT
open Go.Proofs.YtcgplgpdcfocpaaGreatDoor.Spec Go.Proofs.YtcgplgpdcfocpaaGreatDoor.Big
attribute [local irreducible] checkR sizeK rawR dig maskR
theorem bx (a b : BitVec 8) : bits .xor .u8 (a.toNat : Int) (b.toNat : Int) = ((a ^^^ b).toNat : Int) := by
 have h := (a ^^^ b).isLt
 show (((BitVec.ofInt 8 (a.toNat : Int)) ^^^ (BitVec.ofInt 8 (b.toNat : Int))).toNat : Int) % 256 = _
 rw[BitVec.ofInt_natCast,BitVec.ofInt_natCast,BitVec.ofNat_toNat,BitVec.ofNat_toNat,BitVec.setWidth_eq,BitVec.setWidth_eq]
 omega
theorem byte_bv {x : Int} (h : 0 ≤ x ∧ x < 256) : ∃ a : BitVec 8, x = (a.toNat : Int) := ⟨BitVec.ofNat 8 x.toNat, by
 rw[BitVec.toNat_ofNat]
 omega⟩
theorem xor_twice {x y : Int} (hx : 0 ≤ x ∧ x < 256) (hy : 0 ≤ y ∧ y < 256) : bits .xor .u8 (bits .xor .u8 x y) y = x := by
 obtain ⟨a, rfl⟩ := byte_bv hx
 obtain ⟨b, rfl⟩ := byte_bv hy
 rw[bx,bx,BitVec.xor_assoc,BitVec.xor_self,BitVec.xor_zero]
theorem cut_1 : ((List.range 2).all fun x => (List.range 256).all fun y => decide (bits .and .u8 (bits .xor .u8 (bits .and .u8 (bits .xor .u8 (x : Int) (y : Int)) ((255 : Int).fdiv (2 ^ 1))) (y : Int)) ((255 : Int).fdiv (2 ^ 1)) = (x : Int))) = true := by decide +kernel
theorem cut_twice {x y : Int} (hx : 0 ≤ x ∧ x < 2) (hy : 0 ≤ y ∧ y < 256) : bits .and .u8 (bits .xor .u8 (bits .and .u8 (bits .xor .u8 x y) ((255 : Int).fdiv (2 ^ 1))) y) ((255 : Int).fdiv (2 ^ 1)) = x := by
 have := of_decide_eq_true (List.all_eq_true.1 (List.all_eq_true.1 cut_1 x.toNat (List.mem_range.2 (by omega))) y.toNat (List.mem_range.2 (by omega)))
 rwa [Int.toNat_of_nonneg hx.1, Int.toNat_of_nonneg hy.1] at this
theorem low_1 : allB (fun x o => decide (bits .and .u8 (x : Int) ((255 : Int).fdiv (2 ^ 1)) < 128)) = true := by decide +kernel
theorem low_cut {x : Int} (hx : 0 ≤ x ∧ x < 256) : bits .and .u8 x ((255 : Int).fdiv (2 ^ 1)) < 128 := by
 have := of_decide_eq_true (all_b low_1 (x := x.toNat) (o := 0) (by omega) (by omega))
 rwa [Int.toNat_of_nonneg hx.1] at this
def db0 (z : Nat) (salt : List Int) : List Int := List.replicate z 0 ++ [1] ++ salt
theorem db0_len (z : Nat) (salt : List Int) : (db0 z salt).length = z + 1 + salt.length := by simp[db0]; omega
theorem db0_z {z j : Nat} {salt : List Int} (h : j < z) : at' (db0 z salt) (j : Int) = 0 := by
 unfold db0
 rw[Big.at_app (by simp; omega),Big.at_app (by simpa using h),Big.at_get (by simpa using h)]
 simp
theorem db0_1 {z : Nat} {salt : List Int} : at' (db0 z salt) (z : Int) = 1 := by
 unfold db0
 rw[Big.at_app (by simp),Big.at_nat,List.getD_eq_getElem?_getD,List.getElem?_append_right (by simp)]
 simp
theorem db0_byt {z : Nat} {salt : List Int} (h : Byt salt) : Byt (db0 z salt) := fun x hx => by
 simp only[db0,List.mem_append,List.mem_replicate,List.mem_cons,List.not_mem_nil,or_false] at hx
 rcases hx with (⟨_, rfl⟩ | rfl) | hx
 ·decide
 ·decide
 ·exact h x hx
theorem db0_first {z : Nat} {salt : List Int} : 0 ≤ at' (db0 z salt) 0 ∧ at' (db0 z salt) 0 < 2 := by
 rcases Nat.eq_zero_or_pos z with h | h
 ·subst h
  have : at' (db0 0 salt) ((0 : Nat) : Int) = 1 := db0_1
  rw[show ((0 : Nat) : Int) = 0 from rfl] at this
  omega
 ·have : at' (db0 z salt) ((0 : Nat) : Int) = 0 := db0_z h
  rw[show ((0 : Nat) : Int) = 0 from rfl] at this
  omega
theorem at_byt {l : List Int} (h : Byt l) (j : Nat) : 0 ≤ at' l (j : Int) ∧ at' l (j : Int) < 256 := by
 rw[Big.at_nat,List.getD_eq_getElem?_getD]
 cases e : l[j]? with
 | none => simp
 | some x => exact h x (List.mem_of_getElem? e)
theorem veil_twice {z : Nat} {salt veil rest : List Int} (hs : Byt salt) (hv : Byt veil) : dbR 1 (z + 1 + salt.length) (dbR 1 (z + 1 + salt.length) (db0 z salt) veil ++ rest) veil = db0 z salt := by
 apply List.ext_getElem
 ·rw[dbR_len,db0_len]
 ·intro j h1 h2
  rw[dbR_len] at h1
  rw[← Big.at_get h2,← Big.at_get (by rw [dbR_len]; exact h1),at_dbR h1]
  have e : ∀ j : Nat, j < z + 1 + salt.length → at' (dbR 1 (z + 1 + salt.length) (db0 z salt) veil ++ rest) (j : Int) = dbB 1 (db0 z salt) veil j := fun j h => by
   rw[Big.at_app (by rw [dbR_len]; exact h),at_dbR h]
  unfold dbB
  by_cases hj : j = 0
  ·subst hj
   have e0 := e 0 h1
   rw[show ((0 : Nat) : Int) = 0 from rfl] at e0
   rw[if_pos rfl,e0]
   unfold dbB
   rw[if_pos rfl]
   exact cut_twice db0_first (at_byt hv 0)
  ·rw[if_neg hj,e j h1]
   unfold dbB
   rw[if_neg hj]
   exact xor_twice (at_byt (db0_byt hs) j) (at_byt hv j)
def saltM (k : Nat) (alg mask : Int) (salt sum : List Int) : List Int :=
 dbR 1 (k - sum.length - 1) (db0 (k - sum.length - 2 - salt.length) salt) (maskR mask (dig alg (List.replicate 8 0 ++ sum ++ salt)) ((k - sum.length - 1 : Nat) : Int)).1 ++ (dig alg (List.replicate 8 0 ++ sum ++ salt) ++ [188])
theorem salt_len {k : Nat} {alg mask : Int} {salt sum : List Int} (ha : sizeI alg ≠ 0) (hs : (sum.length : Int) = sizeI alg) (hk : sum.length + salt.length + 2 ≤ k) : (saltM k alg mask salt sum).length = k := by
 obtain ⟨a1, a4⟩ := alg_14 ha
 have := dig_len a1 a4 (List.replicate 8 0 ++ sum ++ salt)
 unfold saltM
 simp only[List.length_append,dbR_len,List.length_cons,List.length_nil]
 omega
theorem salt_byt (k : Nat) (alg mask : Int) (salt sum : List Int) : Byt (saltM k alg mask salt sum) := fun x hx => by
 simp only[saltM,List.mem_append,List.mem_cons,List.not_mem_nil,or_false] at hx
 rcases hx with hx | hx | rfl
 ·exact dbR_byt _ _ _ _ x hx
 ·exact dig_byt _ _ x hx
 ·decide
theorem Key.top7 {N E D : List Int} {k : Nat} (K : Key N E D k) : 128 * 256 ^ (k - 1) ≤ val N := by
 have b0 := (val_bd K.lN).1
 have hk := K.small
 have h2 : ¬ val N < 2 ^ (8 * (k - 1) + 7) := fun h => by
  have := (bl_le b0).2 h
  rw[K.bits] at this
  omega
 rw[p8_p2]
 rw[Int.pow_add] at h2
 have : (2 : Int) ^ 7 = 128 := rfl
 rw[this] at h2
 omega
theorem bv_first {x : Int} {l : List Int} (h : Byt l) (h0 : 0 ≤ x) (hx : x < 128) : bv (x :: l) < 128 * 256 ^ l.length := by
 have h1 := (bv_bd h).2
 have e : bv (x :: l) = x * 256 ^ l.length + bv l := by
  show leb (x :: l).reverse = _
  rw[List.reverse_cons,leb_app,List.length_reverse]
  show bv l + 256 ^ l.length * (x + 256 * 0) = _
  rw[Int.mul_zero,Int.add_zero,Int.mul_comm,Int.add_comm]
 have h2 : x * 256 ^ l.length ≤ 127 * 256 ^ l.length := Int.mul_le_mul_of_nonneg_right (by omega) (Int.le_of_lt (Int.pow_pos (by decide)))
 omega
theorem db0_drop (z : Nat) (salt : List Int) : (db0 z salt).drop (z + 1) = salt := by
 unfold db0
 exact List.drop_left' (by simp)
set_option maxHeartbeats 1000000 in
theorem pssF_salt {k : Nat} {alg mask : Int} {salt sum : List Int} (ha : sizeI alg ≠ 0) (hm : sizeI mask ≠ 0) (hs : (sum.length : Int) = sizeI alg) (hb : Byt salt) (hk : sum.length + salt.length + 2 ≤ k) (hk2 : k ≤ 1024) (o : Nat) : pssF (8 * k - 1) k alg mask o sum (saltM k alg mask salt sum) = if o = salt.length then 0 else 112 := by
 obtain ⟨a1, a4⟩ := alg_14 ha
 have tl := dig_len a1 a4 (List.replicate 8 0 ++ sum ++ salt)
 have tb := dig_byt alg (List.replicate 8 0 ++ sum ++ salt)
 have hzq : ∃ z, z = k - sum.length - 2 - salt.length := ⟨_, rfl⟩
 obtain ⟨z, hz⟩ := hzq
 have e1 : k - sum.length - 1 = z + 1 + salt.length := by omega
 unfold saltM pssF
 rw[e1, ← hz, show 8 * k - (8 * k - 1) = 1 by omega]
 have hml := maskR_l2 hm (dig alg (List.replicate 8 0 ++ sum ++ salt)) (n := z + 1 + salt.length) (by omega)
 generalize htop : dig alg (List.replicate 8 0 ++ sum ++ salt) = top at *
 generalize hveil : (maskR mask top ((z + 1 + salt.length : Nat) : Int)).1 = veil at *
 have hl : top.length = sum.length := by omega
 have hD := veil_twice (z := z) (rest := top ++ [188]) hb hml.2
 have hlen : (dbR 1 (z + 1 + salt.length) (db0 z salt) veil).length = z + 1 + salt.length := dbR_len _ _ _ _
 have c2 : at' (dbR 1 (z + 1 + salt.length) (db0 z salt) veil ++ (top ++ [188])) ((k - 1 : Nat) : Int) = 188 := by
  rw[Big.at_nat, List.getD_eq_getElem?_getD, ← List.append_assoc, List.getElem?_append_right (by rw [List.length_append, hlen]; omega), List.length_append, hlen, show k - 1 - (z + 1 + salt.length + top.length) = 0 by omega]
  rfl
 have c3 : at' (dbR 1 (z + 1 + salt.length) (db0 z salt) veil ++ (top ++ [188])) 0 < 2 ^ (8 - 1) := by
  have e := Big.at_app (a := dbR 1 (z + 1 + salt.length) (db0 z salt) veil) (b := top ++ [188]) (k := 0) (by omega)
  rw[at_dbR (by omega)] at e
  rw[show (0 : Int) = ((0 : Nat) : Int) from rfl,e]
  unfold dbB
  rw[if_pos rfl]
  exact low_cut (xor_byt (by have := db0_first (z := z) (salt := salt); omega) (at_byt hml.2 0))
 have c4 : ((dbR 1 (z + 1 + salt.length) (db0 z salt) veil ++ (top ++ [188])).drop (z + 1 + salt.length)).take sum.length = top := by
  rw[List.drop_left' hlen,List.take_left' hl]
 rw[c4,hveil,hD]
 by_cases ho : z + salt.length < o
 ·rw[if_pos (.inl (by omega)),if_neg (by omega)]
 ·have tq : ∃ t, t = z + salt.length - o := ⟨_, rfl⟩
  obtain ⟨t, ht⟩ := tq
  rw[if_neg (fun g => g.elim (fun x => by omega) (fun x => x c2)), if_neg (fun g => g c3), show z + 1 + salt.length - o = t + 1 by omega, show k - sum.length - 2 - o = t by omega]
  have hd := db0_len z salt
  have his := head_is (DB := db0 z salt) (k := t) (by omega)
  by_cases e : o = salt.length
  ·have : t = z := by omega
   subst this
   rw[if_neg (fun g => g (his.2 ⟨fun j hj => db0_z hj, db0_1⟩)), db0_drop, if_pos e, if_neg (fun g => g htop)]
  ·rw[if_neg e,if_pos]
   intro g
   have g := his.1 g
   rcases Nat.lt_or_ge t z with h | h
   ·have := db0_z (salt := salt) h
    omega
   ·have h1 := g.1 z (by omega)
    have := db0_1 (z := z) (salt := salt)
    omega
theorem salt_bv {N E D : List Int} {k : Nat} (K : Key N E D k) {alg mask : Int} {salt sum : List Int} (ha : sizeI alg ≠ 0) (hm : sizeI mask ≠ 0) (hs : (sum.length : Int) = sizeI alg) (hk : sum.length + salt.length + 2 ≤ k) : bv (saltM k alg mask salt sum) < val N := by
 have hl := salt_len (mask := mask) ha hs hk
 have hb := salt_byt k alg mask salt sum
 have h0 : at' (saltM k alg mask salt sum) 0 < 128 := by
  have hk1 := K.small
  have e1 : k - sum.length - 1 = (k - sum.length - 2 - salt.length) + 1 + salt.length := by omega
  have hml := maskR_l2 hm (dig alg (List.replicate 8 0 ++ sum ++ salt)) (n := k - sum.length - 1) (by omega)
  unfold saltM
  have e := Big.at_app (a := dbR 1 (k - sum.length - 1) (db0 (k - sum.length - 2 - salt.length) salt) (maskR mask (dig alg (List.replicate 8 0 ++ sum ++ salt)) ((k - sum.length - 1 : Nat) : Int)).1) (b := dig alg (List.replicate 8 0 ++ sum ++ salt) ++ [188]) (k := 0) (by rw[dbR_len]; omega)
  rw[at_dbR (by omega)] at e
  refine Int.lt_of_le_of_lt (Int.le_of_eq e) ?_
  unfold dbB
  rw[if_pos rfl]
  exact low_cut (xor_byt (by have := db0_first (z := k - sum.length - 2 - salt.length) (salt := salt); omega) (at_byt hml.2 0))
 match hM : saltM k alg mask salt sum, hl, hb, h0 with
 | [], hl, _, _ => exact absurd hl (by simp; omega)
 | x :: l, hl, hb, h0 =>
  have hx := hb x (by simp)
  have h1 := bv_first (x := x) (l := l) (fun y hy => hb y (by simp[hy])) hx.1 h0
  have hl' : l.length = k - 1 := by rw[List.length_cons] at hl; omega
  rw[hl'] at h1
  exact Int.lt_of_lt_of_le h1 K.top7
theorem pss_salted {N E D : List Int} {k : Nat} (K : Key N E D k) {alg mask other : Int} {salt sum : List Int} (ha : sizeI alg ≠ 0) (hm : sizeI mask ≠ 0) (hs : (sum.length : Int) = sizeI alg) (hb : Byt salt) (hk : sum.length + salt.length + 2 ≤ k) (ho : 0 ≤ other) : pssR N E alg mask other sum (sigP N D k (saltM k alg mask salt sum)) = if other = (salt.length : Int) then 0 else 112 := by
 have hr := K.says (salt_byt k alg mask salt sum) (salt_len ha hs hk) (salt_bv K ha hm hs hk)
 have hl := salt_len (mask := mask) ha hs hk
 have hk1 := K.small
 unfold pssR
 rw[if_neg (by omega), hr, if_neg (by simp), K.bits, show (8 * k - 1 + 7) / 8 = k by omega]
 show pssE (8 * k - 1) k alg mask other.toNat sum (saltM k alg mask salt sum) = _
 unfold pssE
 rw[if_neg (by omega),if_neg (by omega),pssF_salt ha hm hs hb hk hk1.2]
 by_cases e : other = (salt.length : Int)
 ·rw[if_pos e,if_pos (by omega)]
 ·rw[if_neg e,if_neg (by omega)]
end Go.Proofs.YtcgplgpdcfocpaaGreatDoor.Der
end
section
namespace Go.Proofs.YtcgplgpdcfocpaaGreatDoor.Der
open Go Go.RowKit Go.Proofs Go.Proofs.YtcgplgpdcfocpaaGreatDoor.Eng Go.Proofs.YtcgplgpdcfocpaaGreatDoor.Code
attribute [local irreducible] callK S.W opsW scrW scrT
def kN1 : List Int := [447526239, 1829156313, 1879515421, 4107444635, 3585720734, 1991253479, 2516768444, 3373017810, 1205978055, 1538251098, 196053331, 1922245038, 2255523067, 1735923309, 2944431911, 868394361, 4017789066, 1470251928, 1835714117, 3624612288, 4242376361, 1111742522, 1457454055, 3904486991]
def kD1 : List Int := [3621519977, 3268799092, 3739516396, 206456287, 3610635974, 623975115, 3290812447, 1284005469, 2839468200, 1102384690, 247832016, 3318194052, 792414134, 1014899858, 3018861402, 3270484745, 3809549036, 2137766059, 3239253027, 2310304235, 3354661807, 2841138446, 2129838785, 419123029]
def kN2 : List Int := [2647757785, 1389125602, 1571717152, 2974836829, 3776471463, 3789918380, 265465329, 2705477333, 2528306116, 1305786319, 3012271374, 1555166574, 3737811301, 2107156747, 423797723, 3496193931, 2229497578, 3545628057, 795677410, 3294071916, 3692226254, 2201277676, 1168892286, 3890423924, 3768719188, 1348662635, 838196833, 466793529, 1006143140, 3002503770, 4121073702, 3778180073]
def kD2 : List Int := [221114889, 4052409353, 3618135462, 3638896212, 41876785, 2981551223, 2886658486, 1775630866, 3447871993, 1687748997, 3209162719, 3268866316, 2051154063, 2544485275, 3760155216, 3752499951, 2496820468, 83771141, 3160279440, 1312331270, 3585048767, 3787517679, 1319449402, 1117739304, 4056262221, 2567164873, 3762953771, 2291027615, 2230826018, 4177935750, 4171126346, 831105070]
end Go.Proofs.YtcgplgpdcfocpaaGreatDoor.Der
end
section
namespace Go.Proofs.YtcgplgpdcfocpaaGreatDoor.Der
open Go Go.RowKit Go.Proofs Go.Proofs.YtcgplgpdcfocpaaGreatDoor.Eng Go.Proofs.YtcgplgpdcfocpaaGreatDoor.Code
attribute [local irreducible] callK S.W opsW scrW scrT
open Go.Proofs.YtcgplgpdcfocpaaGreatDoor.Spec Go.Proofs.YtcgplgpdcfocpaaGreatDoor.Big
theorem knownD0 {w : World} {K : Value → World → Prop}
  (hK : ∀ A B C w', Rd w' A (nums .u32 kN0) → Rd w' B (nums .u32 [3]) → Rd w' C (nums .u32 kD0) → Fr w w' nob → K (.tuple #[.agg #[.slice A 16 16, .slice B 1 1], .slice C 16 16]) w') : callK Tryz.prog 15 [.int .i64 0] w K := by
 refine call_of Tryz.func15 Code.h15 (by simp[Code.c15]) ?_
 simp(disch:=omega)only[Zu,Zv,Zx,Zz,EZ,↓EP,↓reduceIte,Za,Zb,Zc,Zd,Ze,Zf,Zg,Zj,Zk,Zl,Zm,Zn,Zp,Zq,reduceCtorEq,Code.c15]
 refine al_k [.slice none 0 0, .slice none 0 0] rfl fun w1 n1 => ?_
 simp(disch:=omega)only[Zu,Zv,Zx,Zz,EZ,↓EP,↓reduceIte,Za,Zb,Zc,Zd,Ze,Zf,Zg,Zj,Zk,Zl,Zm,Zn,Zp,Zq,reduceCtorEq]
 refine bslV (l := kN0) (by unfold kN0; kernel_rfl) fun w2 n2 => ?_
 simp(disch:=omega)only[Zu,Zv,Zx,Zz,EZ,↓EP,↓reduceIte,Za,Zb,Zc,Zd,Ze,Zf,Zg,Zj,Zk,Zl,Zm,Zn,Zp,Zq,reduceCtorEq]
 refine bslV (l := [3]) (by kernel_rfl) fun w3 n3 => ?_
 simp(disch:=omega)only[Zu,Zv,Zx,Zz,EZ,↓EP,↓reduceIte,Za,Zb,Zc,Zd,Ze,Zf,Zg,Zj,Zk,Zl,Zm,Zn,Zp,Zq,reduceCtorEq]
 refine ⟨_, fillK2 _ _ _ _ _ _, ?_⟩
 simp(disch:=omega)only[Zu,Zv,Zx,Zz,EZ,↓EP,↓reduceIte,Za,Zb,Zc,Zd,Ze,Zf,Zg,Zj,Zk,Zl,Zm,Zn,Zp,Zq,reduceCtorEq]
 refine bslV (l := kD0) (by unfold kD0; kernel_rfl) fun w4 n4 => ?_
 simp(disch:=omega)only[Zu,Zv,Zx,Zz,EZ,↓EP,↓reduceIte,Za,Zb,Zc,Zd,Ze,Zf,Zg,Zj,Zk,Zl,Zm,Zn,Zp,Zq,reduceCtorEq]
 have hB := (((n1.blk.nb (n2.fr nob)).nb (n3.fr nob)).nb (n4.fr nob))
 refine st_whole (cs := [.slice (some ⟨w1.heap.size, 0, none⟩) 16 16, .slice (some ⟨w2.heap.size, 0, none⟩) 1 1]) hB rfl rfl (by simp; exact ⟨rfl, rfl⟩) fun w5 p5 => ?_
 simp(disch:=omega)only[Zu,Zv,Zx,Zz,EZ,↓EP,↓reduceIte,Za,Zb,Zc,Zd,Ze,Zf,Zg,Zj,Zk,Zl,Zm,Zn,Zp,Zq,reduceCtorEq]
 refine p5.blk.ldAgg rfl ?_
 have hz1 := n1.size
 have hz2 := n2.size
 have hz3 := n3.size
 have hz4 := n4.size
 have f2 : Fr w w4 nob := (((n1.fr nob).nb (n2.fr nob)).nb (n3.fr nob)).nb (n4.fr nob)
 refine hK _ _ _ w5 ?_ ?_ ?_ (f2.trans p5.fr fun x hx e => by omega)
 ·have h := (n2.rdv.nb (n3.fr nob)).nb (n4.fr nob)
  exact h.fr p5.fr (.inr fun p e x => by cases e; simp only at x; omega)
 ·have h := n3.rdv.nb (n4.fr nob)
  exact h.fr p5.fr (.inr fun p e x => by cases e; simp only at x; omega)
 ·have h := n4.rdv
  exact h.fr p5.fr (.inr fun p e x => by cases e; simp only at x; omega)
theorem knownD1 {w : World} {K : Value → World → Prop}
  (hK : ∀ A B C w', Rd w' A (nums .u32 kN1) → Rd w' B (nums .u32 [65537]) → Rd w' C (nums .u32 kD1) → Fr w w' nob → K (.tuple #[.agg #[.slice A 24 24, .slice B 1 1], .slice C 24 24]) w') : callK Tryz.prog 15 [.int .i64 1] w K := by
 refine call_of Tryz.func15 Code.h15 (by simp[Code.c15]) ?_
 simp(disch:=omega)only[Zu,Zv,Zx,Zz,EZ,↓EP,↓reduceIte,Za,Zb,Zc,Zd,Ze,Zf,Zg,Zj,Zk,Zl,Zm,Zn,Zp,Zq,reduceCtorEq,Code.c15]
 refine al_k [.slice none 0 0, .slice none 0 0] rfl fun w1 n1 => ?_
 simp(disch:=omega)only[Zu,Zv,Zx,Zz,EZ,↓EP,↓reduceIte,Za,Zb,Zc,Zd,Ze,Zf,Zg,Zj,Zk,Zl,Zm,Zn,Zp,Zq,reduceCtorEq]
 refine bslV (l := kN1) (by unfold kN1; kernel_rfl) fun w2 n2 => ?_
 simp(disch:=omega)only[Zu,Zv,Zx,Zz,EZ,↓EP,↓reduceIte,Za,Zb,Zc,Zd,Ze,Zf,Zg,Zj,Zk,Zl,Zm,Zn,Zp,Zq,reduceCtorEq]
 refine bslV (l := [65537]) (by kernel_rfl) fun w3 n3 => ?_
 simp(disch:=omega)only[Zu,Zv,Zx,Zz,EZ,↓EP,↓reduceIte,Za,Zb,Zc,Zd,Ze,Zf,Zg,Zj,Zk,Zl,Zm,Zn,Zp,Zq,reduceCtorEq]
 refine ⟨_, fillK2 _ _ _ _ _ _, ?_⟩
 simp(disch:=omega)only[Zu,Zv,Zx,Zz,EZ,↓EP,↓reduceIte,Za,Zb,Zc,Zd,Ze,Zf,Zg,Zj,Zk,Zl,Zm,Zn,Zp,Zq,reduceCtorEq]
 refine bslV (l := kD1) (by unfold kD1; kernel_rfl) fun w4 n4 => ?_
 simp(disch:=omega)only[Zu,Zv,Zx,Zz,EZ,↓EP,↓reduceIte,Za,Zb,Zc,Zd,Ze,Zf,Zg,Zj,Zk,Zl,Zm,Zn,Zp,Zq,reduceCtorEq]
 have hB := (((n1.blk.nb (n2.fr nob)).nb (n3.fr nob)).nb (n4.fr nob))
 refine st_whole (cs := [.slice (some ⟨w1.heap.size, 0, none⟩) 24 24, .slice (some ⟨w2.heap.size, 0, none⟩) 1 1]) hB rfl rfl (by simp; exact ⟨rfl, rfl⟩) fun w5 p5 => ?_
 simp(disch:=omega)only[Zu,Zv,Zx,Zz,EZ,↓EP,↓reduceIte,Za,Zb,Zc,Zd,Ze,Zf,Zg,Zj,Zk,Zl,Zm,Zn,Zp,Zq,reduceCtorEq]
 refine p5.blk.ldAgg rfl ?_
 have hz1 := n1.size
 have hz2 := n2.size
 have hz3 := n3.size
 have hz4 := n4.size
 have f2 : Fr w w4 nob := (((n1.fr nob).nb (n2.fr nob)).nb (n3.fr nob)).nb (n4.fr nob)
 refine hK _ _ _ w5 ?_ ?_ ?_ (f2.trans p5.fr fun x hx e => by omega)
 ·have h := (n2.rdv.nb (n3.fr nob)).nb (n4.fr nob)
  exact h.fr p5.fr (.inr fun p e x => by cases e; simp only at x; omega)
 ·have h := n3.rdv.nb (n4.fr nob)
  exact h.fr p5.fr (.inr fun p e x => by cases e; simp only at x; omega)
 ·have h := n4.rdv
  exact h.fr p5.fr (.inr fun p e x => by cases e; simp only at x; omega)
theorem knownD2 {w : World} {K : Value → World → Prop}
  (hK : ∀ A B C w', Rd w' A (nums .u32 kN2) → Rd w' B (nums .u32 [65537]) → Rd w' C (nums .u32 kD2) → Fr w w' nob → K (.tuple #[.agg #[.slice A 32 32, .slice B 1 1], .slice C 32 32]) w') : callK Tryz.prog 15 [.int .i64 2] w K := by
 refine call_of Tryz.func15 Code.h15 (by simp[Code.c15]) ?_
 simp(disch:=omega)only[Zu,Zv,Zx,Zz,EZ,↓EP,↓reduceIte,Za,Zb,Zc,Zd,Ze,Zf,Zg,Zj,Zk,Zl,Zm,Zn,Zp,Zq,reduceCtorEq,Code.c15]
 refine al_k [.slice none 0 0, .slice none 0 0] rfl fun w1 n1 => ?_
 simp(disch:=omega)only[Zu,Zv,Zx,Zz,EZ,↓EP,↓reduceIte,Za,Zb,Zc,Zd,Ze,Zf,Zg,Zj,Zk,Zl,Zm,Zn,Zp,Zq,reduceCtorEq]
 refine bslV (l := kN2) (by unfold kN2; kernel_rfl) fun w2 n2 => ?_
 simp(disch:=omega)only[Zu,Zv,Zx,Zz,EZ,↓EP,↓reduceIte,Za,Zb,Zc,Zd,Ze,Zf,Zg,Zj,Zk,Zl,Zm,Zn,Zp,Zq,reduceCtorEq]
 refine bslV (l := [65537]) (by kernel_rfl) fun w3 n3 => ?_
 simp(disch:=omega)only[Zu,Zv,Zx,Zz,EZ,↓EP,↓reduceIte,Za,Zb,Zc,Zd,Ze,Zf,Zg,Zj,Zk,Zl,Zm,Zn,Zp,Zq,reduceCtorEq]
 refine ⟨_, fillK2 _ _ _ _ _ _, ?_⟩
 simp(disch:=omega)only[Zu,Zv,Zx,Zz,EZ,↓EP,↓reduceIte,Za,Zb,Zc,Zd,Ze,Zf,Zg,Zj,Zk,Zl,Zm,Zn,Zp,Zq,reduceCtorEq]
 refine bslV (l := kD2) (by unfold kD2; kernel_rfl) fun w4 n4 => ?_
 simp(disch:=omega)only[Zu,Zv,Zx,Zz,EZ,↓EP,↓reduceIte,Za,Zb,Zc,Zd,Ze,Zf,Zg,Zj,Zk,Zl,Zm,Zn,Zp,Zq,reduceCtorEq]
 have hB := (((n1.blk.nb (n2.fr nob)).nb (n3.fr nob)).nb (n4.fr nob))
 refine st_whole (cs := [.slice (some ⟨w1.heap.size, 0, none⟩) 32 32, .slice (some ⟨w2.heap.size, 0, none⟩) 1 1]) hB rfl rfl (by simp; exact ⟨rfl, rfl⟩) fun w5 p5 => ?_
 simp(disch:=omega)only[Zu,Zv,Zx,Zz,EZ,↓EP,↓reduceIte,Za,Zb,Zc,Zd,Ze,Zf,Zg,Zj,Zk,Zl,Zm,Zn,Zp,Zq,reduceCtorEq]
 refine p5.blk.ldAgg rfl ?_
 have hz1 := n1.size
 have hz2 := n2.size
 have hz3 := n3.size
 have hz4 := n4.size
 have f2 : Fr w w4 nob := (((n1.fr nob).nb (n2.fr nob)).nb (n3.fr nob)).nb (n4.fr nob)
 refine hK _ _ _ w5 ?_ ?_ ?_ (f2.trans p5.fr fun x hx e => by omega)
 ·have h := (n2.rdv.nb (n3.fr nob)).nb (n4.fr nob)
  exact h.fr p5.fr (.inr fun p e x => by cases e; simp only at x; omega)
 ·have h := n3.rdv.nb (n4.fr nob)
  exact h.fr p5.fr (.inr fun p e x => by cases e; simp only at x; omega)
 ·have h := n4.rdv
  exact h.fr p5.fr (.inr fun p e x => by cases e; simp only at x; omega)
end Go.Proofs.YtcgplgpdcfocpaaGreatDoor.Der
end
section
namespace Go.Proofs.YtcgplgpdcfocpaaGreatDoor.Der
open Go Go.RowKit Go.Proofs Go.Proofs.YtcgplgpdcfocpaaGreatDoor.Eng Go.Proofs.YtcgplgpdcfocpaaGreatDoor.Code
attribute [local irreducible] callK S.W opsW scrW scrT
open Go.Proofs.YtcgplgpdcfocpaaGreatDoor.Spec Go.Proofs.YtcgplgpdcfocpaaGreatDoor.Big
attribute [local irreducible] checkR sizeK powR tbR fbR padR
set_option maxHeartbeats 8000000 in
theorem power_k {w : World} {vN vE vD v : Value} {N E D P : List Int} (hN : Vw .u32 w vN N) (hE : Vw .u32 w vE E) (hD : Vw .u32 w vD D) (lN : Lim N) (lE : Lim E) (lD : Lim D) (nN : N.length ≤ 4194304) (nE : E.length ≤ 4194304) (hv : Vw .u8 w v P) (hb : Byt P) {K : Value → World → Prop}
  (hK : ∀ v' w', Gw .u8 w w' v' (tbR (powR (fbR P).1 D N).1 (sizeK N E)).1 → K v' w') : callK Tryz.prog 36 [.agg #[vN, vE], vD, v] w K := by
 refine call_of Tryz.func36 Code.h36 (by simp[Code.c36]) ?_
 have hN0 := hN
 have hE0 := hE
 have hD0 := hD
 have hv0 := hv
 obtain ⟨A, c, rfl, hc, hr⟩ := hN0
 obtain ⟨B, d, rfl, hd, hs⟩ := hE0
 obtain ⟨C, e, rfl, he, ht⟩ := hD0
 obtain ⟨F, q, rfl, hq, hu⟩ := hv0
 have hsb := size_bd (E := E) lN
 simp(disch:=omega)only[Zu,Zv,Zx,Zz,EZ,↓EP,↓reduceIte,Za,Zb,Zc,Zd,Ze,Zf,Zg,Zj,Zk,Zl,Zm,Zn,Zp,Zq,reduceCtorEq,Code.c36]
 refine al_k [.slice A N.length c, .slice B E.length d] rfl fun w1 n1 => ?_
 have f1 := n1.fr nob
 simp(disch:=omega)only[Zu,Zv,Zx,Zz,EZ,↓EP,↓reduceIte,Za,Zb,Zc,Zd,Ze,Zf,Zg,Zj,Zk,Zl,Zm,Zn,Zp,Zq,reduceCtorEq]
 refine rfrombytes_vw (hv.nb f1) hb _ fun v2 w2 g2 => ?_
 obtain ⟨A2, c2, rfl, hc2, hr2, _⟩ := g2.sl.read
 have f12 := f1.nb g2.fr
 have c0 : w2.cell? ⟨w.heap.size, 0, none⟩ = some (.slice A N.length c) := (n1.blk.nb g2.fr).has 0 _ rfl
 simp(disch:=omega)only[Zu,Zv,Zx,Zz,EZ,↓EP,↓reduceIte,Za,Zb,Zc,Zd,Ze,Zf,Zg,Zj,Zk,Zl,Zm,Zn,Zp,Zq,reduceCtorEq,c0]
 refine rexpmod_vw g2.vw (hD.nb f12) (hN.nb f12) (fb_lim P) lD lN _ fun v3 w3 g3 => ?_
 obtain ⟨A3, c3, rfl, hc3, hr3, _⟩ := g3.sl.read
 have f13 := f12.nb g3.fr
 simp(disch:=omega)only[Zu,Zv,Zx,Zz,EZ,↓EP,↓reduceIte,Za,Zb,Zc,Zd,Ze,Zf,Zg,Zj,Zk,Zl,Zm,Zn,Zp,Zq,reduceCtorEq]
 refine (n1.blk.nb (g2.fr.nb g3.fr)).ldAgg rfl ?_
 simp(disch:=omega)only[Zu,Zv,Zx,Zz,EZ,↓EP,↓reduceIte,Za,Zb,Zc,Zd,Ze,Zf,Zg,Zj,Zk,Zl,Zm,Zn,Zp,Zq,reduceCtorEq]
 refine rsizek_k (hN.nb f13) (hE.nb f13) lN lE nN nE fun w4 f4 => ?_
 have f14 := f13.nb f4
 simp(disch:=omega)only[Zu,Zv,Zx,Zz,EZ,↓EP,↓reduceIte,Za,Zb,Zc,Zd,Ze,Zf,Zg,Zj,Zk,Zl,Zm,Zn,Zp,Zq,reduceCtorEq]
 refine rbytes_vw (sizeK N E) (g3.vw.nb f4) (pow_lim _ _ _) (by omega) _ fun v5 w5 g5 => ?_
 obtain ⟨A5, c5, rfl, hc5, hr5, _⟩ := g5.sl.read
 simp(disch:=omega)only[Zu,Zv,Zx,Zz,EZ,↓EP,↓reduceIte,Za,Zb,Zc,Zd,Ze,Zf,Zg,Zj,Zk,Zl,Zm,Zn,Zp,Zq,reduceCtorEq]
 refine hK _ _ ⟨g5.sl, fun b e => ?_, f14.nb g5.fr⟩
 have := g5.up b e
 have := f14.size
 omega
end Go.Proofs.YtcgplgpdcfocpaaGreatDoor.Der
end
section
namespace Go.Proofs.YtcgplgpdcfocpaaGreatDoor.Der
open Go Go.RowKit Go.Proofs Go.Proofs.YtcgplgpdcfocpaaGreatDoor.Eng Go.Proofs.YtcgplgpdcfocpaaGreatDoor.Code
attribute [local irreducible] callK S.W opsW scrW scrT
open Go.Proofs.YtcgplgpdcfocpaaGreatDoor.Spec Go.Proofs.YtcgplgpdcfocpaaGreatDoor.Big
attribute [local irreducible] checkR sizeK powR tbR fbR padR
structure KnOf (i : Int) (N E D : List Int) (n k : Nat) : Prop where
 key : Key N E D k
 lN : N.length = n
 lE : E.length = 1
 lD : D.length = n
 limE : Lim E
 run : ∀ {w : World} {K : Value → World → Prop}, (∀ A B C w', Rd w' A (nums .u32 N) → Rd w' B (nums .u32 E) → Rd w' C (nums .u32 D) → Fr w w' nob → K (.tuple #[.agg #[.slice A n n, .slice B 1 1], .slice C n n]) w') → callK Tryz.prog 15 [.int .i64 i] w K
end Go.Proofs.YtcgplgpdcfocpaaGreatDoor.Der
end
section
namespace Go.Proofs.YtcgplgpdcfocpaaGreatDoor.Spec
open Go Go.RowKit Go.Proofs Go.Proofs.YtcgplgpdcfocpaaGreatDoor.Eng Go.Proofs.YtcgplgpdcfocpaaGreatDoor.Code
attribute [local irreducible] callK S.W opsW scrW dig
set_option maxHeartbeats 4000000 in
theorem rmask_up {alg n : Int} {seed : List Int} {A : Option Addr} {c : Nat} {w : World} (hc : seed.length ≤ c) (hr : Rd w A (nums .u8 seed)) (hseed : seed.length ≤ 16777000) (hbt : ∀ x ∈ seed, 0 ≤ x ∧ x < 256) {K : Value → World → Prop}
  (hK : ∀ v w', Vw .u8 w' v (maskR alg seed n).1 → (∀ b, blkOf v = some b → w.heap.size ≤ b) → Fr w w' nob → K (.tuple #[v, .int .i64 (maskR alg seed n).2]) w') : callK Tryz.prog 42 [.int .i64 alg, .slice A seed.length c, .int .i64 n] w K := by
 refine call_of Tryz.func42 Code.h42 (by simp[Code.c42]) ?_
 simp(disch:=omega)only[Zu,Zv,Zx,Zz,EZ,↓EP,↓reduceIte,Za,Zb,Zc,Zd,Ze,Zf,Zg,Zj,Zk,Zl,Zm,Zn,Zp,Zq,reduceCtorEq,Code.c42]
 refine rsize_k alg _ _ ?_
 have bad : (sizeI alg = 0 ∨ n < 0 ∨ 2048 < n) → K (.tuple #[.slice none 0 0, .int .i64 1]) w := fun h => by
  have hR : maskR alg seed n = ([], 1) := if_pos h
  rw[hR] at hK
  exact hK _ _ (Vw.nil _ _) (fun b e => by cases e) (Fr.refl _ _)
 by_cases c0 : sizeI alg = 0
 ·simp(disch:=omega)only[Zu,Zv,Zx,Zz,EZ,↓EP,↓reduceIte,Za,Zb,Zc,Zd,Ze,Zf,Zg,Zj,Zk,Zl,Zm,Zn,Zp,Zq,reduceCtorEq,c0]
  exact bad (.inl c0)
 by_cases c1 : n < 0
 ·simp(disch:=omega)only[Zu,Zv,Zx,Zz,EZ,↓EP,↓reduceIte,Za,Zb,Zc,Zd,Ze,Zf,Zg,Zj,Zk,Zl,Zm,Zn,Zp,Zq,reduceCtorEq,c0,c1]
  exact bad (.inr (.inl c1))
 by_cases c2 : 2048 < n
 ·simp(disch:=omega)only[Zu,Zv,Zx,Zz,EZ,↓EP,↓reduceIte,Za,Zb,Zc,Zd,Ze,Zf,Zg,Zj,Zk,Zl,Zm,Zn,Zp,Zq,reduceCtorEq,c0,c1,c2]
  exact bad (.inr (.inr c2))
 have hR : maskR alg seed n = ((maskL alg seed n.toNat).take n.toNat, 0) := if_neg (by omega)
 rw[hR] at hK
 have ha : ¬ (alg < 1 ∨ 4 < alg) := fun h => by
  unfold sizeI at c0
  rw[if_neg (by omega),if_neg (by omega),if_neg (by omega),if_neg (by omega)] at c0
  exact c0 rfl
 have a1 : 1 ≤ alg := by omega
 have a4 : alg ≤ 4 := by omega
 have hzz := mk_size a1 a4
 simp(disch:=omega)only[Zu,Zv,Zx,Zz,EZ,↓EP,↓reduceIte,Za,Zb,Zc,Zd,Ze,Zf,Zg,Zj,Zk,Zl,Zm,Zn,Zp,Zq,reduceCtorEq,c0,c1,c2]
 refine loop_inv (fun t ρ w' => ∃ (i : Nat) (v : Value), ρ 9 = .int .i64 i ∧ ρ 8 = v ∧ Gw .u8 w w' v (maskL alg seed i) ∧ t = 2050 - i ∧ ∀ j, i = j + 1 → ((maskL alg seed j).length : Int) < n) _ ⟨0, .slice none 0 0, by simp(disch:=omega)only[Zu,Zv,Zx,Zz,EZ,↓EP,↓reduceIte,Za,Zb,Zc,Zd,Ze,Zf,Zg,Zj,Zk,Zl,Zm,Zn,Zp,Zq,reduceCtorEq], by simp(disch:=omega)only[Zu,Zv,Zx,Zz,EZ,↓EP,↓reduceIte,Za,Zb,Zc,Zd,Ze,Zf,Zg,Zj,Zk,Zl,Zm,Zn,Zp,Zq,reduceCtorEq], Gw.nil .u8 w, rfl, fun j e => by omega⟩ ?_
 rintro t ρ w1 hf ⟨i, v, h9, h8, G, rfl, hbd⟩ N hN
 have r0 : ρ 0 = .int .i64 alg := by rw[hf 0 rfl]; simp(disch:=omega)only[Zu,Zv,Zx,Zz,EZ,↓EP,↓reduceIte,Za,Zb,Zc,Zd,Ze,Zf,Zg,Zj,Zk,Zl,Zm,Zn,Zp,Zq,reduceCtorEq]
 have r1 : ρ 1 = .slice A seed.length c := by rw[hf 1 rfl]; simp(disch:=omega)only[Zu,Zv,Zx,Zz,EZ,↓EP,↓reduceIte,Za,Zb,Zc,Zd,Ze,Zf,Zg,Zj,Zk,Zl,Zm,Zn,Zp,Zq,reduceCtorEq]
 have r2 : ρ 2 = .int .i64 n := by rw[hf 2 rfl]; simp(disch:=omega)only[Zu,Zv,Zx,Zz,EZ,↓EP,↓reduceIte,Za,Zb,Zc,Zd,Ze,Zf,Zg,Zj,Zk,Zl,Zm,Zn,Zp,Zq,reduceCtorEq]
 clear hf
 obtain ⟨B, d, rfl, hd, hrB, _⟩ := G.sl.read
 have hiN : i < 2049 := by
  rcases i with _ | j
  ·omega
  ·have := hbd j rfl
   rw[maskL_len a1 a4] at this
   have : j ≤ j * (sizeI alg).toNat := Nat.le_mul_of_pos_right _ (by omega)
   omega
 by_cases hl : ((maskL alg seed i).length : Int) < n
 ·have e24 : (2 : Int) ^ 24 = 16777216 := rfl
  have e16 : (2 : Int) ^ 16 = 65536 := rfl
  have e8 : (2 : Int) ^ 8 = 256 := rfl
  have w24 : IntKind.u8.wrap ((i : Int) / 16777216) = ((i / 16777216 % 256 : Nat) : Int) := by rw[wu8_mod]; omega
  have w16 : IntKind.u8.wrap ((i : Int) / 65536) = ((i / 65536 % 256 : Nat) : Int) := by rw[wu8_mod]; omega
  have w8 : IntKind.u8.wrap ((i : Int) / 256) = ((i / 256 % 256 : Nat) : Int) := by rw[wu8_mod]; omega
  have w0 : IntKind.u8.wrap (i : Int) = ((i % 256 : Nat) : Int) := by rw[wu8_mod]; omega
  simp(disch:=omega)only[Zu,Zv,Zx,Zz,EZ,↓EP,↓reduceIte,Za,Zb,Zc,Zd,Ze,Zf,Zg,Zj,Zk,Zl,Zm,Zn,Zp,Zq,reduceCtorEq,r0,r1,r2,h9,h8,hl,e24,e16,e8,w24,w16,w8,w0]
  refine al_k [] rfl fun w2 n2 => ?_
  have f2 := n2.fr nob
  have S2 : Gw .u8 w1 w2 (.slice (some ⟨w1.heap.size, 0, none⟩) 0 0) [] := ⟨n2.sl (k := .u8) (l := []), fun b e => by cases e; exact Nat.le_refl _, f2⟩
  simp(disch:=omega)only[Zu,Zv,Zx,Zz,EZ,↓EP,↓reduceIte,Za,Zb,Zc,Zd,Ze,Zf,Zg,Zj,Zk,Zl,Zm,Zn,Zp,Zq,reduceCtorEq,r1]
  refine app_num S2.sl rfl ((hr.nb G.fr).nb f2) (by simp; omega) (by decide) fun v3 w3 a3 => ?_
  have G3 := S2.apd a3
  obtain ⟨B3, d3, rfl, _, _, _⟩ := G3.sl.read
  simp(disch:=omega)only[Zu,Zv,Zx,Zz,EZ,↓EP,↓reduceIte,Za,Zb,Zc,Zd,Ze,Zf,Zg,Zj,Zk,Zl,Zm,Zn,Zp,Zq,reduceCtorEq,r0,r1,r2,h9,h8,e24,e16,e8,w24,w16,w8,w0]
  refine bsl4 fun w4 n4 => ?_
  have f4 := n4.fr nob
  have n4 : New w3 w4 (nums .u8 (be4 i)) := n4
  simp(disch:=omega)only[Zu,Zv,Zx,Zz,EZ,↓EP,↓reduceIte,Za,Zb,Zc,Zd,Ze,Zf,Zg,Zj,Zk,Zl,Zm,Zn,Zp,Zq,reduceCtorEq]
  refine app_num (l' := be4 i) (G3.step f4).sl rfl n4.rdl (by simp[be4]; omega) (by decide) fun v5 w5 a5 => ?_
  have G5 := (G3.step f4).apd a5
  rw[List.nil_append] at G5
  obtain ⟨B5, d5, rfl, _, _, _⟩ := G5.sl.read
  simp(disch:=omega)only[Zu,Zv,Zx,Zz,EZ,↓EP,↓reduceIte,Za,Zb,Zc,Zd,Ze,Zf,Zg,Zj,Zk,Zl,Zm,Zn,Zp,Zq,reduceCtorEq,r0,r1,r2,h9,h8]
  have hby : ∀ x ∈ seed ++ be4 i, 0 ≤ x ∧ x < 256 := fun x hx => by
   rcases List.mem_append.1 hx with h | h
   ·exact hbt x h
   ·simp only[be4,List.mem_cons,List.not_mem_nil,or_false] at h
    omega
  refine rdigest_vw a1 a4 G5.vw (by simp[be4]; omega) hby _ fun v6 w6 G6 => ?_
  have f6 : Fr w1 w6 nob := G5.fr.nb G6.fr
  obtain ⟨B6, d6, rfl, _, hr6, _⟩ := G6.sl.read
  have hlen6 := dig_len a1 a4 (seed ++ be4 i)
  simp(disch:=omega)only[Zu,Zv,Zx,Zz,EZ,↓EP,↓reduceIte,Za,Zb,Zc,Zd,Ze,Zf,Zg,Zj,Zk,Zl,Zm,Zn,Zp,Zq,reduceCtorEq,h8]
  refine app_num (G.step f6).sl rfl hr6 (by omega) (by decide) fun v7 w7 a7 => ?_
  have G7 := (G.step f6).apd a7
  have G8 : Gw .u8 w w7 v7 (maskL alg seed (i + 1)) := by rw[maskL_succ]; exact G7
  simp(disch:=omega)only[Zu,Zv,Zx,Zz,EZ,↓EP,↓reduceIte,Za,Zb,Zc,Zd,Ze,Zf,Zg,Zj,Zk,Zl,Zm,Zn,Zp,Zq,reduceCtorEq,h9]
  refine hN (2050 - (i + 1)) _ _ (by omega) ⟨i + 1, v7, by simp(disch:=omega)only[Zu,Zv,Zx,Zz,EZ,↓EP,↓reduceIte,Za,Zb,Zc,Zd,Ze,Zf,Zg,Zj,Zk,Zl,Zm,Zn,Zp,Zq,reduceCtorEq,h9,Int.natCast_add], by simp(disch:=omega)only[Zu,Zv,Zx,Zz,EZ,↓EP,↓reduceIte,Za,Zb,Zc,Zd,Ze,Zf,Zg,Zj,Zk,Zl,Zm,Zn,Zp,Zq,reduceCtorEq], G8, rfl, fun j e => ?_⟩
  obtain rfl : j = i := by omega
  exact hl
 ·simp(disch:=omega)only[Zu,Zv,Zx,Zz,EZ,↓EP,↓reduceIte,Za,Zb,Zc,Zd,Ze,Zf,Zg,Zj,Zk,Zl,Zm,Zn,Zp,Zq,reduceCtorEq,r0,r1,r2,h9,h8,hl]
  have hln : ((maskL alg seed n.toNat).take n.toNat).length = n.toNat := by
   rw[List.length_take,maskL_len a1 a4]
   have : n.toNat ≤ n.toNat * (sizeI alg).toNat := Nat.le_mul_of_pos_right _ (by omega)
   omega
  refine hK _ _ (Vw.of hln (by omega) ?_) (fun b e => ?_) G.fr
  rotate_left
  ·cases B with
   | none => cases e
   | some p => exact G.up b e
  rw[← maskL_take a1 a4 seed (by omega : n.toNat ≤ (maskL alg seed i).length)]
  exact hrB.take _
end Go.Proofs.YtcgplgpdcfocpaaGreatDoor.Spec
end
section
namespace Go.Proofs.YtcgplgpdcfocpaaGreatDoor.Der
open Go Go.RowKit Go.Proofs Go.Proofs.YtcgplgpdcfocpaaGreatDoor.Eng Go.Proofs.YtcgplgpdcfocpaaGreatDoor.Code
attribute [local irreducible] callK S.W opsW scrW scrT
open Go.Proofs.YtcgplgpdcfocpaaGreatDoor.Spec Go.Proofs.YtcgplgpdcfocpaaGreatDoor.Big
attribute [local irreducible] checkR sizeK powR tbR fbR padR dig maskR dbR sigP saltM db0
theorem dig_no {alg : Int} (h : sizeI alg = 0) (m : List Int) : dig alg m = [] := by
 unfold dig
 rw[h]
 rfl
theorem rdigest_all {w : World} {v : Value} {m : List Int} {alg : Int} (hv : Vw .u8 w v m) (hm : m.length ≤ 16777216) (hb : ∀ x ∈ m, 0 ≤ x ∧ x < 256) (K : Value → World → Prop)
  (hK : ∀ v' w', Gw .u8 w w' v' (dig alg m) → K v' w') : callK Tryz.prog 16 [.int .i64 alg, v] w K := by
 by_cases h : sizeI alg = 0
 ·rw[dig_no h] at hK
  have g := sizeI_zero.1 h
  have g1 : ¬ alg = 1 := by omega
  have g2 : ¬ alg = 2 := by omega
  have g3 : ¬ alg = 3 := by omega
  have g4 : ¬ alg = 4 := by omega
  refine call_of Tryz.func16 Code.h16 (by simp[Code.c16]) ?_
  simp(disch:=omega)only[Zu,Zv,Zx,Zz,EZ,↓EP,↓reduceIte,Za,Zb,Zc,Zd,Ze,Zf,Zg,Zj,Zk,Zl,Zm,Zn,Zp,Zq,reduceCtorEq,W_join,Code.c16,g1,g2,g3,g4]
  exact hK _ _ (Gw.nil _ _)
 ·have g := alg_14 h
  exact rdigest_vw g.1 g.2 hv hm hb K hK
theorem rmask_nu {alg n : Int} {seed : List Int} {h : Nat} {A : Option Addr} {c : Nat} {w : World} (hl : seed.length = h) (hc : h ≤ c) (hr : Rd w A (nums .u8 seed)) (hseed : h ≤ 16777000) (hbt : Byt seed) {K : Value → World → Prop}
  (hK : ∀ v w', Vw .u8 w' v (maskR alg seed n).1 → (∀ b, blkOf v = some b → w.heap.size ≤ b) → Fr w w' nob → K (.tuple #[v, .int .i64 (maskR alg seed n).2]) w') : callK Tryz.prog 42 [.int .i64 alg, .slice A h c, .int .i64 n] w K := by
 subst hl
 exact rmask_up hc hr hseed hbt hK
def signpR (N D : List Int) (k : Nat) (alg mask : Int) (salt sum : List Int) : List Int := if sizeI mask = 0 ∨ sizeI alg = 0 ∨ (sum.length : Int) ≠ sizeI alg ∨ k < sum.length + salt.length + 2 then [] else sigP N D k (saltM k alg mask salt sum)
set_option maxHeartbeats 16000000 in
theorem signp_k {w : World} {v v2 : Value} {i alg mask : Int} {N E D salt sum : List Int} {n k : Nat} (kn : KnOf i N E D n k) (hv : Vw .u8 w v salt) (hb : Byt salt) (hl : salt.length ≤ 200) (hv2 : Vw .u8 w v2 sum) (hb2 : Byt sum) (hl2 : sum.length ≤ 64) {K : Value → World → Prop}
  (hK : ∀ v' w', Gw .u8 w w' v' (signpR N D k alg mask salt sum) → K v' w') : callK Tryz.prog 21 [.int .i64 i, .int .i64 alg, .int .i64 mask, v, v2] w K := by
 refine call_of Tryz.func21 Code.h21 (by simp[Code.c21]) ?_
 have hv0 := hv
 have hv20 := hv2
 obtain ⟨F, q, rfl, hq, hu⟩ := hv0
 obtain ⟨F2, q2, rfl, hq2, hu2⟩ := hv20
 have Ky := kn.key
 have nN : N.length ≤ 4194304 := Nat.le_trans Ky.nN (by decide)
 have nE : E.length ≤ 4194304 := Nat.le_trans Ky.nE (by decide)
 have hk := Ky.small
 have hz := sizeI_nn alg
 have hzm := sizeI_nn mask
 simp(disch:=omega)only[Zu,Zv,Zx,Zz,EZ,↓EP,↓reduceIte,Za,Zb,Zc,Zd,Ze,Zf,Zg,Zj,Zk,Zl,Zm,Zn,Zp,Zq,reduceCtorEq,Code.c21]
 refine kn.run fun A B C w1 hA hB hC f1 => ?_
 simp(disch:=omega)only[Zu,Zv,Zx,Zz,EZ,↓EP,↓reduceIte,Za,Zb,Zc,Zd,Ze,Zf,Zg,Zj,Zk,Zl,Zm,Zn,Zp,Zq,reduceCtorEq]
 refine al_k [.slice none 0 0, .slice none 0 0] rfl fun w2 n2 => ?_
 simp(disch:=omega)only[Zu,Zv,Zx,Zz,EZ,↓EP,↓reduceIte,Za,Zb,Zc,Zd,Ze,Zf,Zg,Zj,Zk,Zl,Zm,Zn,Zp,Zq,reduceCtorEq]
 refine st_whole (cs := [.slice A n n, .slice B 1 1]) n2.blk rfl rfl (by simp; exact ⟨rfl, rfl⟩) fun w3 p3 => ?_
 have hz2 := n2.size
 have f13 : Fr w1 w3 nob := (n2.fr nob).trans p3.fr fun x hx e => by omega
 have f03 := f1.nb f13
 have hN : Vw .u32 w3 (.slice A n n) N := Vw.of kn.lN (Nat.le_refl n) (hA.nb f13)
 have hE : Vw .u32 w3 (.slice B 1 1) E := Vw.of kn.lE (Nat.le_refl 1) (hB.nb f13)
 have hD : Vw .u32 w3 (.slice C n n) D := Vw.of kn.lD (Nat.le_refl n) (hC.nb f13)
 have k0 : w3.cell? ⟨w1.heap.size, 0, none⟩ = some (.slice A n n) := p3.blk.has 0 _ rfl
 have hdiv : ((↑(8 * k) : Int) - 1 + 7).tdiv 8 = (k : Int) := by
  rw[Int.tdiv_eq_ediv_of_nonneg (by omega)]
  omega
 simp(disch:=omega)only[Zu,Zv,Zx,Zz,EZ,↓EP,↓reduceIte,Za,Zb,Zc,Zd,Ze,Zf,Zg,Zj,Zk,Zl,Zm,Zn,Zp,Zq,reduceCtorEq,k0]
 refine rbits_vw hN Ky.lN (by omega) _ fun w4 f4 => ?_
 have f04 := f03.nb f4
 have no : (sizeI mask = 0 ∨ sizeI alg = 0 ∨ (sum.length : Int) ≠ sizeI alg ∨ k < sum.length + salt.length + 2) → K (.slice none 0 0) w4 := fun h => by
  have e : signpR N D k alg mask salt sum = [] := if_pos h
  rw[e] at hK
  exact hK _ _ ⟨Sl.nil _ _, (fun b e => by cases e), f04⟩
 simp(disch:=omega)only[Zu,Zv,Zx,Zz,EZ,↓EP,↓reduceIte,Za,Zb,Zc,Zd,Ze,Zf,Zg,Zj,Zk,Zl,Zm,Zn,Zp,Zq,reduceCtorEq,Ky.bits,hdiv]
 refine rsize_k alg _ _ ?_
 simp(disch:=omega)only[Zu,Zv,Zx,Zz,EZ,↓EP,↓reduceIte,Za,Zb,Zc,Zd,Ze,Zf,Zg,Zj,Zk,Zl,Zm,Zn,Zp,Zq,reduceCtorEq,Ky.bits,hdiv]
 refine rsize_k mask _ _ ?_
 by_cases c1 : sizeI mask = 0
 ·simp(disch:=omega)only[Zu,Zv,Zx,Zz,EZ,↓EP,↓reduceIte,Za,Zb,Zc,Zd,Ze,Zf,Zg,Zj,Zk,Zl,Zm,Zn,Zp,Zq,reduceCtorEq,Ky.bits,hdiv,c1]
  exact no (.inl c1)
 by_cases c2 : sizeI alg = 0
 ·simp(disch:=omega)only[Zu,Zv,Zx,Zz,EZ,↓EP,↓reduceIte,Za,Zb,Zc,Zd,Ze,Zf,Zg,Zj,Zk,Zl,Zm,Zn,Zp,Zq,reduceCtorEq,Ky.bits,hdiv,c1,c2]
  exact no (.inr (.inl c2))
 by_cases c3 : (sum.length : Int) = sizeI alg
 rotate_left
 ·simp(disch:=omega)only[Zu,Zv,Zx,Zz,EZ,↓EP,↓reduceIte,Za,Zb,Zc,Zd,Ze,Zf,Zg,Zj,Zk,Zl,Zm,Zn,Zp,Zq,reduceCtorEq,Ky.bits,hdiv,c1,c2,c3]
  exact no (.inr (.inr (.inl c3)))
 by_cases c4 : (k : Int) < (sum.length : Int) + (salt.length : Int) + 2
 ·simp(disch:=omega)only[Zu,Zv,Zx,Zz,EZ,↓EP,↓reduceIte,Za,Zb,Zc,Zd,Ze,Zf,Zg,Zj,Zk,Zl,Zm,Zn,Zp,Zq,reduceCtorEq,Ky.bits,hdiv,c1,c2,← c3,c4]
  exact no (.inr (.inr (.inr (by omega))))
 have e : signpR N D k alg mask salt sum = sigP N D k (saltM k alg mask salt sum) := if_neg (by omega)
 rw[e] at hK
 clear no e
 simp(disch:=omega)only[Zu,Zv,Zx,Zz,EZ,↓EP,↓reduceIte,Za,Zb,Zc,Zd,Ze,Zf,Zg,Zj,Zk,Zl,Zm,Zn,Zp,Zq,reduceCtorEq,Ky.bits,hdiv,c1,c2,← c3,c4]
 have zq : ∃ z : Nat, z = k - sum.length - 2 - salt.length ∧ k = sum.length + 2 + salt.length + z := ⟨_, rfl, by omega⟩
 obtain ⟨z, hzd, hkz⟩ := zq
 have dq : ∃ dl : Nat, dl = z + 1 + salt.length := ⟨_, rfl⟩
 obtain ⟨dl, hdd⟩ := dq
 have eM : saltM k alg mask salt sum = dbR 1 dl (db0 z salt) (maskR mask (dig alg (List.replicate 8 0 ++ sum ++ salt)) (dl : Int)).1 ++ (dig alg (List.replicate 8 0 ++ sum ++ salt) ++ [188]) := by
  unfold saltM
  rw[← hzd, show k - sum.length - 1 = dl by omega]
 have hsb : Byt (saltM k alg mask salt sum) := salt_byt _ _ _ _ _
 have hsl : (saltM k alg mask salt sum).length = k := salt_len c2 c3 (by omega)
 have a14 := alg_14 c2
 have tl := dig_len a14.1 a14.2 (List.replicate 8 0 ++ sum ++ salt)
 have tb := dig_byt alg (List.replicate 8 0 ++ sum ++ salt)
 have hml := maskR_l2 c1 (dig alg (List.replicate 8 0 ++ sum ++ salt)) (n := dl) (by omega)
 refine al_k (nums .u8 (List.replicate 8 0)) (by kernel_rfl) fun w5 n5 => ?_
 have G5 : Gw .u8 w4 w5 (.slice (some ⟨w4.heap.size, 0, none⟩) 8 8) (List.replicate 8 0) := ⟨n5.sl, fun b e => by cases e; exact Nat.le_refl _, n5.fr nob⟩
 simp(disch:=omega)only[Zu,Zv,Zx,Zz,EZ,↓EP,↓reduceIte,Za,Zb,Zc,Zd,Ze,Zf,Zg,Zj,Zk,Zl,Zm,Zn,Zp,Zq,reduceCtorEq]
 refine app_num G5.sl (l' := sum) rfl (hu2.nb (f04.nb G5.fr)) (by simp; omega) (by decide) fun v6 w6 a6 => ?_
 have G6 := G5.apd a6
 have q6 := G6.sl.read
 obtain ⟨A6, c6, e6, hc6, hr6, _⟩ := q6
 have l6 : (List.replicate 8 (0 : Int) ++ sum).length = 8 + sum.length := by rw[List.length_append,List.length_replicate]
 rw[l6] at e6
 rw[e6] at G6 ⊢
 simp(disch:=omega)only[Zu,Zv,Zx,Zz,EZ,↓EP,↓reduceIte,Za,Zb,Zc,Zd,Ze,Zf,Zg,Zj,Zk,Zl,Zm,Zn,Zp,Zq,reduceCtorEq]
 refine app_num G6.sl (l' := salt) rfl (hu.nb (f04.nb G6.fr)) (by simp; omega) (by decide) fun v7 w7 a7 => ?_
 have G7 := G6.apd a7
 simp(disch:=omega)only[Zu,Zv,Zx,Zz,EZ,↓EP,↓reduceIte,Za,Zb,Zc,Zd,Ze,Zf,Zg,Zj,Zk,Zl,Zm,Zn,Zp,Zq,reduceCtorEq]
 refine rdigest_vw a14.1 a14.2 G7.vw (by simp; omega) (((Byt.zeros 8).app hb2).app hb) _ fun v8 w8 g8 => ?_
 have topq : ∃ top, dig alg (List.replicate 8 0 ++ sum ++ salt) = top := ⟨_, rfl⟩
 obtain ⟨top, htop⟩ := topq
 rw[htop] at eM tl tb hml g8
 have hl8 : top.length = sum.length := by omega
 have q8 := g8.sl.read
 obtain ⟨A8, c8, e8, hc8, hr8, _⟩ := q8
 rw[hl8] at e8 hc8
 rw[e8] at g8
 have f08 := f04.nb (G7.fr.nb g8.fr)
 have iz : (k : Int) - (sum.length : Int) - 2 - (salt.length : Int) = (z : Int) := by omega
 have hdiv2 : ((↑(8 * k) : Int) - 1 + 7) / 8 = (k : Int) := by omega
 simp(disch:=omega)only[Zu,Zv,Zx,Zz,EZ,↓EP,↓reduceIte,Za,Zb,Zc,Zd,Ze,Zf,Zg,Zj,Zk,Zl,Zm,Zn,Zp,Zq,reduceCtorEq,e8,hdiv2,← c3,iz,Int.toNat_natCast]
 refine al_k (nums .u8 (List.replicate z 0)) (by rw[madeCells_list,nums_replicate]) fun w9 n9 => ?_
 have G9 : Gw .u8 w8 w9 (.slice (some ⟨w8.heap.size, 0, none⟩) z z) (List.replicate z 0) := by
  have h := n9.sl
  rw[List.length_replicate] at h
  exact ⟨h, fun b e => by cases e; exact Nat.le_refl _, n9.fr nob⟩
 simp(disch:=omega)only[Zu,Zv,Zx,Zz,EZ,↓EP,↓reduceIte,Za,Zb,Zc,Zd,Ze,Zf,Zg,Zj,Zk,Zl,Zm,Zn,Zp,Zq,reduceCtorEq,hdiv2,← c3,iz,Int.toNat_natCast]
 refine bsl1 fun w10 n10 => ?_
 simp(disch:=omega)only[Zu,Zv,Zx,Zz,EZ,↓EP,↓reduceIte,Za,Zb,Zc,Zd,Ze,Zf,Zg,Zj,Zk,Zl,Zm,Zn,Zp,Zq,reduceCtorEq,hdiv2,← c3,iz,Int.toNat_natCast]
 refine app_num (G9.step (n10.fr nob)).sl (l' := [1]) rfl n10.rdl (by simp; omega) (by decide) fun v11 w11 a11 => ?_
 have G11 := (G9.step (n10.fr nob)).apd a11
 have q11 := G11.sl.read
 obtain ⟨A11, c11, e11, hc11, hr11, _⟩ := q11
 have l11 : (List.replicate z (0 : Int) ++ [1]).length = z + 1 := by rw[List.length_append,List.length_replicate]; rfl
 rw[l11] at e11
 rw[e11] at G11 ⊢
 simp(disch:=omega)only[Zu,Zv,Zx,Zz,EZ,↓EP,↓reduceIte,Za,Zb,Zc,Zd,Ze,Zf,Zg,Zj,Zk,Zl,Zm,Zn,Zp,Zq,reduceCtorEq]
 refine app_num G11.sl (l' := salt) rfl (hu.nb (f08.nb G11.fr)) (by simp; omega) (by decide) fun v12 w12 a12 => ?_
 have G12 : Gw .u8 w8 w12 v12 (db0 z salt) := by
  unfold db0
  exact G11.apd a12
 have hdl := db0_len z salt
 rw[← hdd] at hdl
 have qs := G12.sl
 rcases qs with ⟨e0, _⟩ | ⟨b, pad, ev, hB⟩
 ·rw[e0,List.length_nil] at hdl
  exact absurd hdl (by omega)
 rw[hdl] at ev
 rw[ev] at G12 ⊢
 have hup := G12.up b rfl
 simp(disch:=omega)only[Zu,Zv,Zx,Zz,EZ,↓EP,↓reduceIte,Za,Zb,Zc,Zd,Ze,Zf,Zg,Zj,Zk,Zl,Zm,Zn,Zp,Zq,reduceCtorEq,e8]
 refine rmask_nu (seed := top) hl8 hc8 (hr8.nb G12.fr) (by omega) tb fun v13 w13 h13 u13 f13 => ?_
 have veq : ∃ veil, (maskR mask top (dl : Int)).1 = veil := ⟨_, rfl⟩
 obtain ⟨veil, hvl⟩ := veq
 rw[hvl] at eM hml h13
 have h13q := h13
 obtain ⟨A13, c13, e13, hc13, hr13⟩ := h13q
 rw[hml.1] at hc13 e13
 have vg := hr13.get (by rw[nums_length,hml.1]; omega)
 obtain ⟨ad13, ea13, hlt13, _⟩ := vg
 rw[ea13] at e13
 simp(disch:=omega)only[Zu,Zv,Zx,Zz,EZ,↓EP,↓reduceIte,Za,Zb,Zc,Zd,Ze,Zf,Zg,Zj,Zk,Zl,Zm,Zn,Zp,Zq,reduceCtorEq,e13]
 have hvb : ad13.block ≠ b := fun e => by
  have := u13 ad13.block (by rw[e13]; rfl)
  have := hB.lt
  omega
 have hX0 : (db0 z salt ++ pad).length = dl + pad.length := by rw[List.length_append,hdl]
 refine loop_inv (fun t ρ w9 => ∃ (i : Nat) (L : List Int), ρ 20 = .int .i64 i ∧ i ≤ dl ∧ t = dl - i ∧ Xd (db0 z salt ++ pad) veil L 0 i ∧ Blk w9 b (nums .u8 L) ∧ Fr w13 w9 (fun x => x = b)) dl
  ⟨0, _, by simp(disch:=omega)only[Zu,Zv,Zx,Zz,EZ,↓EP,↓reduceIte,Za,Zb,Zc,Zd,Ze,Zf,Zg,Zj,Zk,Zl,Zm,Zn,Zp,Zq,reduceCtorEq], by omega, rfl, Xd.zero _ _ _, hB.nb f13, Fr.refl _ _⟩ ?_
 rintro t ρ w14 hf ⟨j, L, h20, hj, rfl, hX, hB14, f14⟩ M hM
 have q17 : ρ 17 = .slice (some ⟨b, 0, none⟩) dl (dl + pad.length) := by rw[hf 17 rfl]; simp(disch:=omega)only[Zu,Zv,Zx,Zz,EZ,↓EP,↓reduceIte,Za,Zb,Zc,Zd,Ze,Zf,Zg,Zj,Zk,Zl,Zm,Zn,Zp,Zq,reduceCtorEq]
 have q18 : ρ 18 = .slice (some ad13) dl c13 := by rw[hf 18 rfl]; simp(disch:=omega)only[Zu,Zv,Zx,Zz,EZ,↓EP,↓reduceIte,Za,Zb,Zc,Zd,Ze,Zf,Zg,Zj,Zk,Zl,Zm,Zn,Zp,Zq,reduceCtorEq,e13]
 have q14 : ρ 14 = .int .i64 (k : Int) := by rw[hf 14 rfl]; simp(disch:=omega)only[Zu,Zv,Zx,Zz,EZ,↓EP,↓reduceIte,Za,Zb,Zc,Zd,Ze,Zf,Zg,Zj,Zk,Zl,Zm,Zn,Zp,Zq,reduceCtorEq,hdiv,hdiv2]
 have q13 : ρ 13 = .int .i64 ((8 * k : Nat) - 1 : Int) := by rw[hf 13 rfl]; simp(disch:=omega)only[Zu,Zv,Zx,Zz,EZ,↓EP,↓reduceIte,Za,Zb,Zc,Zd,Ze,Zf,Zg,Zj,Zk,Zl,Zm,Zn,Zp,Zq,reduceCtorEq]
 have q11 : ρ 11 = .pointer (some ⟨w1.heap.size, 0, none⟩) := by rw[hf 11 rfl]; simp(disch:=omega)only[Zu,Zv,Zx,Zz,EZ,↓EP,↓reduceIte,Za,Zb,Zc,Zd,Ze,Zf,Zg,Zj,Zk,Zl,Zm,Zn,Zp,Zq,reduceCtorEq]
 have q12 : ρ 12 = .slice C n n := by rw[hf 12 rfl]; simp(disch:=omega)only[Zu,Zv,Zx,Zz,EZ,↓EP,↓reduceIte,Za,Zb,Zc,Zd,Ze,Zf,Zg,Zj,Zk,Zl,Zm,Zn,Zp,Zq,reduceCtorEq]
 have q16 : ρ 16 = .slice A8 sum.length c8 := by rw[hf 16 rfl]; simp(disch:=omega)only[Zu,Zv,Zx,Zz,EZ,↓EP,↓reduceIte,Za,Zb,Zc,Zd,Ze,Zf,Zg,Zj,Zk,Zl,Zm,Zn,Zp,Zq,reduceCtorEq,e8]
 clear hf
 have hr14 : Rd w14 (some ad13) (nums .u8 veil) := by
  have h := hr13
  rw[ea13] at h
  exact h.fr f14 (.inr fun p e x => by cases e; exact hvb x)
 by_cases hil : (j : Int) < (dl : Int)
 ·have cv : w14.cell? (ad13.add j) = some (.int .u8 (at' veil (j : Int))) := by
   have vg := hr14.get (by rw[nums_length,hml.1]; omega)
   obtain ⟨ad5, ea5, _, hcl5⟩ := vg
   cases ea5
   exact hcl5.numN (by rw[hml.1]; omega)
  have cL : w14.cell? ⟨b, j, none⟩ = some (.int .u8 (at' L (j : Int))) := hB14.numN (by rw[hX.1,hX0]; omega)
  simp(disch:=omega)only[Zu,Zv,Zx,Zz,EZ,↓EP,↓reduceIte,Za,Zb,Zc,Zd,Ze,Zf,Zg,Zj,Zk,Zl,Zm,Zn,Zp,Zq,reduceCtorEq,h20,q17,q18,hil,cL,cv]
  intro m2
  refine st_num (hB14.nb (fr_drewN' w14 m2)) (by rw[hX.1,hX0]; omega) fun w15 p15 => ?_
  have hst := hX.step (by rw[hX0]; omega)
  rw[Nat.zero_add] at hst
  simp(disch:=omega)only[Zu,Zv,Zx,Zz,EZ,↓EP,↓reduceIte,Za,Zb,Zc,Zd,Ze,Zf,Zg,Zj,Zk,Zl,Zm,Zn,Zp,Zq,reduceCtorEq,h20]
  refine hM (dl - (j + 1)) _ _ (by omega) ⟨j + 1, _, by simp(disch:=omega)only[Zu,Zv,Zx,Zz,EZ,↓EP,↓reduceIte,Za,Zb,Zc,Zd,Ze,Zf,Zg,Zj,Zk,Zl,Zm,Zn,Zp,Zq,reduceCtorEq,h20,Int.natCast_add], by omega, rfl, hst, p15.blk, ?_⟩
  exact (f14.trans (fr_drewN' w14 m2) fun _ _ e => e.elim).trans p15.fr fun x _ e => e
 have hid : j = dl := by omega
 rw[hid] at h20 hX
 clear hM hil hj
 have cL : w14.cell? ⟨b, 0, none⟩ = some (.int .u8 (at' L 0)) := hB14.numN (j := 0) (by rw[hX.1,hX0]; omega)
 have i1 : (8 : Int) * (k : Int) - (((8 * k : Nat) : Int) - 1) = 1 := by omega
 have x0 := hX.2 0
 rw[if_pos (by omega)] at x0
 have bx0 : 0 ≤ at' L 0 ∧ at' L 0 < 256 := by
  have h : at' L 0 = _ := x0
  rw[h]
  exact wrap8 _
 have hcut : IntKind.u8.wrap (at' L 0 * 2) / 2 = bits .and .u8 (at' L 0) ((255 : Int).fdiv (2 ^ 1)) := by
  have h := free_cut bx0 (o := 1) (by omega)
  rw[Int.fdiv_eq_ediv_of_nonneg _ (by decide)] at h
  exact h
 have hdb := hX.done (ov := 1) (by omega) (by omega)
 have hdb : (L.set 0 (bits .and .u8 (at' L 0) ((255 : Int).fdiv (2 ^ 1)))).take dl = dbR 1 dl (db0 z salt) veil := hdb
 have LLq : ∃ L', L.set 0 (bits .and .u8 (at' L 0) ((255 : Int).fdiv (2 ^ 1))) = L' := ⟨_, rfl⟩
 obtain ⟨L', hL'⟩ := LLq
 have DBq : ∃ DB, dbR 1 dl (db0 z salt) veil = DB := ⟨_, rfl⟩
 obtain ⟨DB, hDB⟩ := DBq
 have hDl : DB.length = dl := by rw[← hDB,dbR_len]
 rw[hDB] at eM hdb
 rw[hL'] at hdb
 have hLl : L'.length = dl + pad.length := by rw[← hL',List.length_set,hX.1,hX0]
 have hsp : L' = DB ++ L'.drop dl := by rw[← hdb,List.take_append_drop]
 have hpl : (L'.drop dl).length = pad.length := by rw[List.length_drop]; omega
 simp(disch:=omega)only[Zu,Zv,Zx,Zz,EZ,↓EP,↓reduceIte,Za,Zb,Zc,Zd,Ze,Zf,Zg,Zj,Zk,Zl,Zm,Zn,Zp,Zq,reduceCtorEq,h20,q17,q14,q13,i1,cL]
 refine st_num hB14 (by rw[hX.1,hX0]; omega) fun w15 p15 => ?_
 rw[hcut,hL',hsp] at p15
 have f15 : Fr w13 w15 (fun x => x = b) := f14.trans p15.fr fun x _ e => e
 have fB : Fr w8 w15 nob := (G12.fr.nb f13).trans f15 fun x hx e => by
  have e : x = b := e
  omega
 have f015 := f08.nb fB
 have S15 : Sl .u8 w15 (.slice (some ⟨b, 0, none⟩) dl (dl + pad.length)) DB := .inr ⟨b, L'.drop dl, by rw[hDl,hpl], p15.blk⟩
 have hB3 := p3.blk.nb ((f4.nb (G7.fr.nb g8.fr)).nb fB)
 simp(disch:=omega)only[Zu,Zv,Zx,Zz,EZ,↓EP,↓reduceIte,Za,Zb,Zc,Zd,Ze,Zf,Zg,Zj,Zk,Zl,Zm,Zn,Zp,Zq,reduceCtorEq,W_join,q11,q12,q16,q17]
 have F16 := fr_drewN' w15 1
 have hB8 := p3.blk.nb (f4.nb (G7.fr.nb g8.fr))
 have alls : ∀ w', Fr w8 w' nob → allC [(TyK.agg 2, ⟨w1.heap.size, 0, none⟩, Value.agg #[Value.slice A n n, Value.slice B 1 1])] w' := fun w' f => ⟨⟨_, rfl, (hB8.nb f).cellsAt0, rfl⟩, trivial⟩
 have G15 : Gw .u8 w8 w15 (.slice (some ⟨b, 0, none⟩) dl (dl + pad.length)) DB := ⟨S15, fun b' e => by cases e; exact hup, fB⟩
 have eM2 : DB ++ top ++ [188] = saltM k alg mask salt sum := by rw[eM,List.append_assoc]
 have fin : ∀ (w' : World) (v' : Value), Gw .u8 w8 w' v' (DB ++ top ++ [188]) → ∀ K', (∀ v'' w'', Gw .u8 w w'' v'' (sigP N D k (saltM k alg mask salt sum)) → Fr w' w'' nob → K' v'' w'') → callK Tryz.prog 36 [.agg #[.slice A n n, .slice B 1 1], .slice C n n, v'] w' K' := fun w' v' G K' h' => by
  rw[eM2] at G
  have f3 := (f4.nb (G7.fr.nb g8.fr)).nb G.fr
  refine power_k (hN.nb f3) (hE.nb f3) (hD.nb f3) Ky.lN kn.limE Ky.lD nN nE G.vw hsb fun v'' w'' g => ?_
  rw[Ky.size,Ky.sign hsb hsl] at g
  exact h' _ _ ⟨g.sl, fun b e => by
   have := g.up b e
   have := (f08.nb G.fr).size
   omega, (f08.nb G.fr).nb g.fr⟩ g.fr
 refine (hB3.nb F16).ldAgg rfl ?_
 simp(disch:=omega)only[Zu,Zv,Zx,Zz,EZ,↓EP,↓reduceIte,Za,Zb,Zc,Zd,Ze,Zf,Zg,Zj,Zk,Zl,Zm,Zn,Zp,Zq,reduceCtorEq,q11,q12,q16,q17]
 refine ⟨fun m1 => ?_, fun m1 => ?_⟩
 ·have G16 := G15.drewN (1 + m1)
  refine app_num G16.sl (l' := top) hl8 (hr8.nb G16.fr) (by rw[hDl]; omega) (by decide) fun v17 w17 a17 => ?_
  have G17 := G16.apd a17
  refine ⟨alls _ G17.fr, ?_⟩
  simp(disch:=omega)only[Zu,Zv,Zx,Zz,EZ,↓EP,↓reduceIte,Za,Zb,Zc,Zd,Ze,Zf,Zg,Zj,Zk,Zl,Zm,Zn,Zp,Zq,reduceCtorEq,q11,q12,q16,q17]
  intro m2
  refine bsl1 fun w18 n18 => ?_
  have G18 := (G17.drewN m2).step (n18.fr nob)
  refine ⟨alls _ G18.fr, ?_⟩
  simp(disch:=omega)only[Zu,Zv,Zx,Zz,EZ,↓EP,↓reduceIte,Za,Zb,Zc,Zd,Ze,Zf,Zg,Zj,Zk,Zl,Zm,Zn,Zp,Zq,reduceCtorEq,q11,q12,q16,q17]
  intro m3
  have G19 := G18.drewN m3
  refine app_num G19.sl (l' := [188]) rfl (n18.rdl.nb (fr_drewN' w18 m3)) (by simp only[List.length_append,List.length_cons,List.length_nil,hDl]; omega) (by decide) fun v20 w20 a20 => ?_
  have G20 := G19.apd a20
  refine ⟨alls _ G20.fr, ?_⟩
  simp(disch:=omega)only[Zu,Zv,Zx,Zz,EZ,↓EP,↓reduceIte,Za,Zb,Zc,Zd,Ze,Zf,Zg,Zj,Zk,Zl,Zm,Zn,Zp,Zq,reduceCtorEq,q11,q12,q16,q17]
  intro m4
  refine fin _ _ (G20.drewN m4) _ fun v21 w21 g21 F21 => ?_
  refine ⟨alls _ ((G20.drewN m4).fr.nb F21), ?_⟩
  simp(disch:=omega)only[Zu,Zv,Zx,Zz,EZ,↓EP,↓reduceIte,Za,Zb,Zc,Zd,Ze,Zf,Zg,Zj,Zk,Zl,Zm,Zn,Zp,Zq,reduceCtorEq,q11,q12,q16,q17]
  intro m5
  exact hK _ _ (g21.drewN m5)
 ·refine bsl1 fun w17 n17 => ?_
  have G17 := (G15.drewN (1 + m1)).step (n17.fr nob)
  refine ⟨alls _ G17.fr, ?_⟩
  simp(disch:=omega)only[Zu,Zv,Zx,Zz,EZ,↓EP,↓reduceIte,Za,Zb,Zc,Zd,Ze,Zf,Zg,Zj,Zk,Zl,Zm,Zn,Zp,Zq,reduceCtorEq,q11,q12,q16,q17]
  intro m2
  have G18 := G17.drewN m2
  refine app_num G18.sl (l' := top) hl8 (hr8.nb G18.fr) (by rw[hDl]; omega) (by decide) fun v19 w19 a19 => ?_
  have G19 := G18.apd a19
  refine ⟨alls _ G19.fr, ?_⟩
  simp(disch:=omega)only[Zu,Zv,Zx,Zz,EZ,↓EP,↓reduceIte,Za,Zb,Zc,Zd,Ze,Zf,Zg,Zj,Zk,Zl,Zm,Zn,Zp,Zq,reduceCtorEq,q11,q12,q16,q17]
  intro m3
  have G20 := G19.drewN m3
  have hone : Rd (w19.drewN m3) (some ⟨(w15.drewN (1 + m1)).heap.size, 0, none⟩) (nums .u8 [188]) := ((n17.rdl.nb (fr_drewN' w17 m2)).fr a19.fr (.inr fun p e x => by
   cases e
   have h1 := p15.blk.lt
   have x : b = (w15.drewN (1 + m1)).heap.size := Option.some.inj x
   rw[size_drewN] at x
   omega)).nb (fr_drewN' w19 m3)
  refine app_num G20.sl (l' := [188]) rfl hone (by simp only[List.length_append,List.length_cons,List.length_nil,hDl]; omega) (by decide) fun v20 w20 a20 => ?_
  have G21 := G20.apd a20
  refine ⟨alls _ G21.fr, ?_⟩
  simp(disch:=omega)only[Zu,Zv,Zx,Zz,EZ,↓EP,↓reduceIte,Za,Zb,Zc,Zd,Ze,Zf,Zg,Zj,Zk,Zl,Zm,Zn,Zp,Zq,reduceCtorEq,q11,q12,q16,q17]
  intro m4
  refine fin _ _ (G21.drewN m4) _ fun v21 w21 g21 F21 => ?_
  refine ⟨alls _ ((G21.drewN m4).fr.nb F21), ?_⟩
  simp(disch:=omega)only[Zu,Zv,Zx,Zz,EZ,↓EP,↓reduceIte,Za,Zb,Zc,Zd,Ze,Zf,Zg,Zj,Zk,Zl,Zm,Zn,Zp,Zq,reduceCtorEq,q11,q12,q16,q17]
  intro m5
  exact hK _ _ (g21.drewN m5)
end Go.Proofs.YtcgplgpdcfocpaaGreatDoor.Der
end
section
namespace Go.Proofs.YtcgplgpdcfocpaaGreatDoor.Pr
structure Q4 where
 a : Nat
 b : Nat
 c : Nat
 d : Nat
namespace Q4
theorem ex {u v : Q4} (h1 : u.a = v.a) (h2 : u.b = v.b) (h3 : u.c = v.c) (h4 : u.d = v.d) : u = v := by
 cases u; cases v; simp only at h1 h2 h3 h4; rw[h1,h2,h3,h4]
def mul (u v : Q4) : Q4 := ⟨u.a * v.a + 2 * (u.b * v.d + u.c * v.c + u.d * v.b), u.a * v.b + u.b * v.a + 2 * (u.c * v.d + u.d * v.c), u.a * v.c + u.b * v.b + u.c * v.a + 2 * (u.d * v.d), u.a * v.d + u.b * v.c + u.c * v.b + u.d * v.a⟩
def add (u v : Q4) : Q4 := ⟨u.a + v.a, u.b + v.b, u.c + v.c, u.d + v.d⟩
def sc (n : Nat) (u : Q4) : Q4 := ⟨n * u.a, n * u.b, n * u.c, n * u.d⟩
def na (n : Nat) : Q4 := ⟨n, 0, 0, 0⟩
theorem mul_comm (u v : Q4) : mul u v = mul v u := by
 refine ex ?_ ?_ ?_ ?_ <;> simp only[mul,Nat.mul_comm,Nat.add_comm,Nat.add_left_comm,Nat.add_assoc]
theorem mul_assoc (u v w : Q4) : mul (mul u v) w = mul u (mul v w) := by
 refine ex ?_ ?_ ?_ ?_ <;> simp only[mul] <;> grind
theorem mul_add (u v w : Q4) : mul u (add v w) = add (mul u v) (mul u w) := by
 refine ex ?_ ?_ ?_ ?_ <;> simp only[mul,add,Nat.mul_add,Nat.add_mul,Nat.mul_assoc,Nat.mul_comm,Nat.mul_left_comm,Nat.add_comm,Nat.add_left_comm,Nat.add_assoc]
theorem mul_one (u : Q4) : mul u (na 1) = u := by
 refine ex ?_ ?_ ?_ ?_ <;> simp[mul,na]
theorem one_mul (u : Q4) : mul (na 1) u = u := by rw[mul_comm,mul_one]
theorem add_assoc (u v w : Q4) : add (add u v) w = add u (add v w) := by
 refine ex ?_ ?_ ?_ ?_ <;> simp only[add,Nat.add_assoc]
theorem add_comm (u v : Q4) : add u v = add v u := by
 refine ex ?_ ?_ ?_ ?_ <;> simp only[add,Nat.add_comm]
theorem add_zero (u : Q4) : add u (na 0) = u := rfl
theorem zero_add (u : Q4) : add (na 0) u = u := by rw[add_comm]; rfl
theorem mul_sc (n : Nat) (u v : Q4) : mul u (sc n v) = sc n (mul u v) := by
 refine ex ?_ ?_ ?_ ?_ <;> simp only[mul,sc,Nat.mul_add,Nat.mul_left_comm]
theorem sc_add (m n : Nat) (u : Q4) : sc (m + n) u = add (sc m u) (sc n u) := by
 refine ex ?_ ?_ ?_ ?_ <;> simp only[add,sc,Nat.add_mul]
theorem sc_one (u : Q4) : sc 1 u = u := by
 refine ex ?_ ?_ ?_ ?_ <;> simp only[sc,Nat.one_mul]
theorem sc_zero (u : Q4) : sc 0 u = na 0 := by
 refine ex ?_ ?_ ?_ ?_ <;> simp only[sc,na,Nat.zero_mul]
theorem mul_zero (u : Q4) : mul u (na 0) = na 0 := by
 refine ex ?_ ?_ ?_ ?_ <;> simp[mul,na]
def Eq (r : Nat) (u v : Q4) : Prop := u.a % r = v.a % r ∧ u.b % r = v.b % r ∧ u.c % r = v.c % r ∧ u.d % r = v.d % r
theorem Eq.rfl {r : Nat} {u : Q4} : Eq r u u := ⟨.refl _, .refl _, .refl _, .refl _⟩
theorem Eq.of {r : Nat} {u v : Q4} (h : u = v) : Eq r u v := h ▸ Eq.rfl
theorem Eq.symm {r : Nat} {u v : Q4} (h : Eq r u v) : Eq r v u := ⟨h.1.symm, h.2.1.symm, h.2.2.1.symm, h.2.2.2.symm⟩
theorem Eq.trans {r : Nat} {u v w : Q4} (h : Eq r u v) (k : Eq r v w) : Eq r u w := ⟨h.1.trans k.1, h.2.1.trans k.2.1, h.2.2.1.trans k.2.2.1, h.2.2.2.trans k.2.2.2⟩
theorem ma {r x y x' y' : Nat} (h : x % r = x' % r) (k : y % r = y' % r) : (x + y) % r = (x' + y') % r := by rw[Nat.add_mod,h,k,← Nat.add_mod]
theorem mm {r x y x' y' : Nat} (h : x % r = x' % r) (k : y % r = y' % r) : (x * y) % r = (x' * y') % r := by rw[Nat.mul_mod,h,k,← Nat.mul_mod]
theorem Eq.mul {r : Nat} {u v u' v' : Q4} (h : Eq r u u') (k : Eq r v v') : Eq r (mul u v) (mul u' v') := by
 obtain ⟨h1, h2, h3, h4⟩ := h
 obtain ⟨k1, k2, k3, k4⟩ := k
 exact ⟨ma (mm h1 k1) (mm (.refl _) (ma (ma (mm h2 k4) (mm h3 k3)) (mm h4 k2))), ma (ma (mm h1 k2) (mm h2 k1)) (mm (.refl _) (ma (mm h3 k4) (mm h4 k3))), ma (ma (ma (mm h1 k3) (mm h2 k2)) (mm h3 k1)) (mm (.refl _) (mm h4 k4)), ma (ma (ma (mm h1 k4) (mm h2 k3)) (mm h3 k2)) (mm h4 k1)⟩
theorem Eq.add {r : Nat} {u v u' v' : Q4} (h : Eq r u u') (k : Eq r v v') : Eq r (add u v) (add u' v') := ⟨ma h.1 k.1, ma h.2.1 k.2.1, ma h.2.2.1 k.2.2.1, ma h.2.2.2 k.2.2.2⟩
theorem Eq.dvd {r q : Nat} {u v : Q4} (h : Eq q u v) (d : r ∣ q) : Eq r u v := by
 have z : ∀ {x y : Nat}, x % q = y % q → x % r = y % r := fun e => by rw[← Nat.mod_mod_of_dvd _ d,e,Nat.mod_mod_of_dvd _ d]
 exact ⟨z h.1, z h.2.1, z h.2.2.1, z h.2.2.2⟩
def pw (u : Q4) : Nat → Q4
 | 0 => na 1
 | n+1 => mul (pw u n) u
theorem pw_one (u : Q4) : pw u 1 = u := one_mul u
theorem pw_add (u : Q4) (m : Nat) : ∀ n, pw u (m + n) = mul (pw u m) (pw u n)
 | 0 => (mul_one _).symm
 | n+1 => by
  show mul (pw u (m + n)) u = mul (pw u m) (mul (pw u n) u)
  rw[pw_add u m n,mul_assoc]
theorem pw_mul (u : Q4) (m : Nat) : ∀ n, pw u (m * n) = pw (pw u m) n
 | 0 => rfl
 | n+1 => by
  rw[Nat.mul_succ,pw_add,pw_mul u m n]
  rfl
theorem mul_pw (u v : Q4) : ∀ n, pw (mul u v) n = mul (pw u n) (pw v n)
 | 0 => rfl
 | n+1 => by
  show mul (pw (mul u v) n) (mul u v) = mul (mul (pw u n) u) (mul (pw v n) v)
  rw[mul_pw u v n,mul_assoc,mul_assoc,← mul_assoc (pw v n),mul_comm (pw v n) u,mul_assoc]
theorem Eq.pw {r : Nat} {u v : Q4} (h : Eq r u v) : ∀ n, Eq r (pw u n) (pw v n)
 | 0 => Eq.rfl
 | n+1 => (Eq.pw h n).mul h
theorem pw_na1 : ∀ n, pw (na 1) n = na 1
 | 0 => rfl
 | n+1 => by
  show mul (pw (na 1) n) (na 1) = na 1
  rw[pw_na1 n]
  rfl
theorem na_mul (m n : Nat) : mul (na m) (na n) = na (m * n) := by
 refine ex ?_ ?_ ?_ ?_ <;> simp[mul,na]
theorem pw_na (m : Nat) : ∀ n, pw (na m) n = na (m ^ n)
 | 0 => rfl
 | n+1 => by
  show mul (pw (na m) n) (na m) = _
  rw[pw_na m n,na_mul,Nat.pow_succ]
def sq (f : Nat → Q4) : Nat → Q4
 | 0 => na 0
 | m+1 => add (sq f m) (f m)
theorem sq_head (f : Nat → Q4) : ∀ m, sq f (m+1) = add (f 0) (sq (fun k => f (k+1)) m)
 | 0 => by
  show add (na 0) (f 0) = add (f 0) (na 0)
  rw[add_comm]
 | m+1 => by
  show add (sq f (m+1)) (f (m+1)) = add (f 0) (add (sq (fun k => f (k+1)) m) (f (m+1)))
  rw[sq_head f m,add_assoc]
theorem sq_add (f g : Nat → Q4) : ∀ m, sq (fun k => add (f k) (g k)) m = add (sq f m) (sq g m)
 | 0 => rfl
 | m+1 => by
  show add (sq (fun k => add (f k) (g k)) m) (add (f m) (g m)) = add (add (sq f m) (f m)) (add (sq g m) (g m))
  rw[sq_add f g m,add_assoc,add_assoc,← add_assoc (sq g m),add_comm (sq g m) (f m),add_assoc]
theorem sq_mul (u : Q4) (f : Nat → Q4) : ∀ m, sq (fun k => mul u (f k)) m = mul u (sq f m)
 | 0 => (mul_zero u).symm
 | m+1 => by
  show add (sq (fun k => mul u (f k)) m) (mul u (f m)) = mul u (add (sq f m) (f m))
  rw[sq_mul u f m,mul_add]
theorem sq_cong (f g : Nat → Q4) : ∀ m, (∀ k, k < m → f k = g k) → sq f m = sq g m
 | 0, _ => rfl
 | m+1, h => by
  show add (sq f m) (f m) = add (sq g m) (g m)
  rw[sq_cong f g m fun k hk => h k (by omega), h m (by omega)]
theorem sq_zero {r : Nat} (f : Nat → Q4) : ∀ m, (∀ k, k < m → Eq r (f k) (na 0)) → Eq r (sq f m) (na 0)
 | 0, _ => Eq.rfl
 | m+1, h => (sq_zero f m fun k hk => h k (by omega)).add (h m (by omega))
theorem binom (u : Q4) : ∀ n m, n < m → sq (fun k => sc (C n k) (pw u k)) m = pw (add u (na 1)) n
 | 0, m+1, _ => by
  rw[sq_head, sq_cong _ (fun _ => na 0)]
  ·have : ∀ m, sq (fun _ => na 0) m = na 0 := fun m => by
    induction m with
    | zero => rfl
    | succ m ih => show add (sq (fun _ => na 0) m) (na 0) = na 0; rw[ih]; rfl
   rw[this]
   rfl
  ·intro k _
   show sc (C 0 (k+1)) _ = na 0
   rw[C_gt 0 (k+1) (by omega),sc_zero]
 | n+1, m+1, h => by
  have h1 := binom u n m (by omega)
  have h2 := binom u n (m+1) (by omega)
  rw[sq_head] at h2 ⊢
  have e : sq (fun k => sc (C (n+1) (k+1)) (pw u (k+1))) m = add (mul u (sq (fun k => sc (C n k) (pw u k)) m)) (sq (fun k => sc (C n (k+1)) (pw u (k+1))) m) := by
   rw[← sq_mul,← sq_add]
   refine sq_cong _ _ m fun k _ => ?_
   show sc (C n k + C n (k+1)) (pw u (k+1)) = add (mul u (sc (C n k) (pw u k))) _
   rw[sc_add,mul_sc]
   congr 2
   show mul (pw u k) u = _
   rw[mul_comm]
  rw[e,h1,C_0]
  rw[C_0] at h2
  show _ = mul (pw (add u (na 1)) n) (add u (na 1))
  rw[mul_add,mul_one,mul_comm,← add_assoc,add_comm (sc 1 _),add_assoc,h2]
theorem frob {r : Nat} (h : IsP r) (u : Q4) : Eq r (pw (add u (na 1)) r) (add (pw u r) (na 1)) := by
 have hb := binom u r (r+1) (by omega)
 obtain ⟨n, e⟩ : ∃ n, r = n + 1 := ⟨r - 1, by have := h.1; omega⟩
 have e2 : sq (fun k => sc (C r k) (pw u k)) (r+1) = add (sq (fun k => sc (C r k) (pw u k)) r) (sc (C r r) (pw u r)) := rfl
 have e3 : sq (fun k => sc (C r k) (pw u k)) r = add (sc (C r 0) (pw u 0)) (sq (fun k => sc (C r (k+1)) (pw u (k+1))) n) := by
  rw[← sq_head (fun k => sc (C r k) (pw u k)) n, ← e]
 have hd : Eq r (sq (fun k => sc (C r (k+1)) (pw u (k+1))) n) (na 0) := sq_zero _ n fun k hk => by
  obtain ⟨t, ht⟩ := C_dvd h (k := k + 1) (by omega) (by omega)
  rw[ht]
  have z : ∀ x, r * t * x % r = 0 % r := fun x => by rw[Nat.mul_assoc,Nat.mul_mod_right,Nat.zero_mod]
  exact ⟨z _, z _, z _, z _⟩
 rw[← hb,e2,e3,C_0,C_nn,sc_one,sc_one]
 refine (((Eq.rfl (u := pw u 0)).add hd).add (Eq.rfl (u := pw u r))).trans (Eq.of ?_)
 show add (add (na 1) (na 0)) (pw u r) = _
 rw[add_zero,add_comm]
theorem frobn {r : Nat} (h : IsP r) (u : Q4) : ∀ n, Eq r (pw (add u (na n)) r) (add (pw u r) (na n))
 | 0 => Eq.rfl
 | n+1 => by
  have e : ∀ v, add v (na (n+1)) = add (add v (na n)) (na 1) := fun v => by
   rw[add_assoc]
   rfl
  rw[e u,e (pw u r)]
  exact (frob h _).trans ((frobn h u n).add Eq.rfl)
def X : Q4 := ⟨0, 1, 0, 0⟩
def sg (w : Nat) (u : Q4) : Q4 := ⟨u.a, w * u.b, w * w * u.c, w * w * w * u.d⟩
theorem pwX (t : Nat) : pw X (4 * t + 1) = ⟨0, 2 ^ t, 0, 0⟩ := by
 rw[pw_add,pw_mul,pw_one,show pw X 4 = na 2 from rfl,pw_na]
 refine ex ?_ ?_ ?_ ?_ <;> simp[mul,na,X]
theorem split (u : Q4) : add (mul X (add (mul X (add (mul X (add (na 0) (na u.d))) (na u.c))) (na u.b))) (na u.a) = u := by
 refine ex ?_ ?_ ?_ ?_ <;> simp[mul,na,X,add]
theorem joinw (w : Nat) (u : Q4) : add (mul ⟨0, w, 0, 0⟩ (add (mul ⟨0, w, 0, 0⟩ (add (mul ⟨0, w, 0, 0⟩ (add (na 0) (na u.d))) (na u.c))) (na u.b))) (na u.a) = sg w u := by
 refine ex ?_ ?_ ?_ ?_ <;> simp[mul,na,add,sg,Nat.mul_assoc]
theorem frobs {r t : Nat} (h : IsP r) (ht : r = 4 * t + 1) (u : Q4) : Eq r (pw u r) (sg (2 ^ t) u) := by
 have z : Eq r (pw (na 0) r) (na 0) := by
  have := h.1
  rw[pw_na,Nat.zero_pow (by omega)]
  exact Eq.rfl
 have k : ∀ v v' n, Eq r (pw v r) v' → Eq r (pw (add (mul X v) (na n)) r) (add (mul ⟨0, 2 ^ t, 0, 0⟩ v') (na n)) := fun v v' n e => by
  refine (frobn h _ n).trans ((Eq.add ?_ Eq.rfl))
  rw[mul_pw,ht,pwX,← ht]
  exact Eq.rfl.mul e
 have k0 : ∀ v v' n, Eq r (pw v r) v' → Eq r (pw (add v (na n)) r) (add v' (na n)) := fun v v' n e => (frobn h v n).trans (e.add Eq.rfl)
 rw[← joinw]
 have s := k _ _ u.a (k _ _ u.b (k _ _ u.c (k0 _ _ u.d z)))
 rw[split] at s
 exact s
theorem sg_mul {q w : Nat} (hw : w ^ 4 % q = 1 % q) (u v : Q4) : Eq q (mul (sg w u) (sg w v)) (sg w (mul u v)) := by
 have k : ∀ x y, x = w ^ 4 * y → x % q = y % q := fun x y e => by
  rw[e,Nat.mul_mod,hw,← Nat.mul_mod,Nat.one_mul]
 have p4 : w ^ 4 = w * (w * (w * w)) := by simp[Nat.pow_succ,Nat.mul_assoc]
 refine ⟨?_, ?_, ?_, ?_⟩
 ·simp only[mul,sg]
  refine ma (.refl _) (k _ _ ?_)
  rw[p4]
  simp only[Nat.mul_add,Nat.add_mul,Nat.mul_assoc,Nat.mul_comm,Nat.mul_left_comm]
 ·simp only[mul,sg,Nat.mul_add w]
  refine ma (congrArg (· % q) ?_) (k _ _ ?_)
  ·simp only[Nat.mul_assoc,Nat.mul_comm,Nat.mul_left_comm]
  ·rw[p4]
   simp only[Nat.mul_add,Nat.add_mul,Nat.mul_assoc,Nat.mul_comm,Nat.mul_left_comm]
 ·simp only[mul,sg,Nat.mul_add (w * w)]
  refine ma (congrArg (· % q) ?_) (k _ _ ?_)
  ·simp only[Nat.mul_assoc,Nat.mul_comm,Nat.mul_left_comm]
  ·rw[p4]
   simp only[Nat.mul_add,Nat.add_mul,Nat.mul_assoc,Nat.mul_comm,Nat.mul_left_comm]
 ·refine congrArg (· % q) ?_
  simp only[mul,sg,Nat.mul_add,Nat.mul_assoc,Nat.mul_comm,Nat.mul_left_comm]
end Q4
theorem two {n u v : Nat} (h : IsP (n + 1)) (d : n + 1 ∣ u * u + n * (v * v)) : u % (n + 1) = v % (n + 1) ∨ n + 1 ∣ u + v := by
 have e : (u + v) * (u + n * v) = (u * u + n * (v * v)) + (n + 1) * (u * v) := by grind
 rcases h.euc (a := u + v) (b := u + n * v) (by rw[e]; exact Nat.dvd_add d (Nat.dvd_mul_right _ _)) with g | g
 ·exact .inr g
 ·left
  have k := Nat.mod_eq_zero_of_dvd g
  have k2 : (u + n * v + v) % (n + 1) = v % (n + 1) := Q4.ma (k.trans (Nat.zero_mod _).symm) rfl |>.trans (by rw[Nat.zero_add])
  rw[show u + n * v + v = u + (n + 1) * v by grind, Nat.add_mul_mod_self_left] at k2
  exact k2
theorem cancel {r x y z : Nat} (h : (x + z) % r = (y + z) % r) : x % r = y % r := by
 rcases Nat.eq_zero_or_pos r with h0 | h0
 ·subst h0
  rw[Nat.mod_zero,Nat.mod_zero] at h ⊢
  omega
 ·have k : (x + z + (r - 1) * z) % r = (y + z + (r - 1) * z) % r := Q4.ma h rfl
  have e : ∀ x, x + z + (r - 1) * z = x + r * z := fun x => by
   have : r * z = (r - 1) * z + z := by rw[← Nat.succ_mul]; congr 1; omega
   omega
  rwa [e, e, Nat.add_mul_mod_self_left, Nat.add_mul_mod_self_left] at k
theorem roots {r i w : Nat} (h : IsP r) (hi : r ∣ i * i + 1) (hw : w ^ 4 % r = 1 % r) : ∃ j, j < 4 ∧ w % r = i ^ j % r := by
 obtain ⟨n, rfl⟩ : ∃ n, r = n + 1 := ⟨r - 1, by have := h.1; omega⟩
 have z : ∀ x, (n + 1 ∣ x) → x % (n + 1) = 0 := fun x g => Nat.mod_eq_zero_of_dvd g
 have d : ∀ x, x % (n + 1) = 1 % (n + 1) → n + 1 ∣ x + n * (1 * 1) := fun x g => Nat.dvd_of_mod_eq_zero (by
  have := Q4.ma g (.refl (n * (1 * 1) % (n + 1)))
  rw[this]
  simp[Nat.add_comm])
 rcases two h (u := w * w) (v := 1) (d _ (by rw[← hw]; congr 1; simp[Nat.pow_succ,Nat.mul_assoc])) with g | g
 ·rcases two h (u := w) (v := 1) (d _ g) with g | g
  ·exact ⟨0, by omega, g⟩
  ·refine ⟨2, by omega, cancel (z := 1) ?_⟩
   rw[z _ g,z _ (by rw [Nat.pow_two]; exact hi)]
 ·have g2 : n + 1 ∣ w * w + n * (i * i) := by
   have e : (w * w + n * (i * i)) + (i * i + 1) = (w * w + 1) + (n + 1) * (i * i) := by grind
   exact (Nat.dvd_add_left hi).1 (e ▸ Nat.dvd_add g (Nat.dvd_mul_right _ _))
  rcases two h (u := w) (v := i) g2 with g | g
  ·exact ⟨1, by omega, by rw[Nat.pow_one]; exact g⟩
  ·refine ⟨3, by omega, cancel (z := i) ?_⟩
   rw[z _ g, z _ (by rw [show i ^ 3 + i = (i * i + 1) * i by grind]; exact Nat.dvd_trans hi (Nat.dvd_mul_right _ _))]
namespace Q4
theorem sg_one (u : Q4) : sg 1 u = u := by
 refine ex ?_ ?_ ?_ ?_ <;> simp[sg]
theorem sg_sg (w v : Nat) (u : Q4) : sg w (sg v u) = sg (w * v) u := by
 refine ex ?_ ?_ ?_ ?_ <;> simp only[sg,Nat.mul_assoc,Nat.mul_left_comm]
theorem Eq.sg {r w w' : Nat} {u u' : Q4} (hw : w % r = w' % r) (h : Eq r u u') : Eq r (sg w u) (sg w' u') :=
 ⟨h.1, mm hw h.2.1, mm (mm hw hw) h.2.2.1, mm (mm (mm hw hw) hw) h.2.2.2⟩
theorem sg_pw {q w : Nat} (hw : w ^ 4 % q = 1 % q) (u : Q4) : ∀ n, Eq q (pw (sg w u) n) (sg w (pw u n))
 | 0 => Eq.of (by refine ex ?_ ?_ ?_ ?_ <;> simp[pw,sg,na])
 | n+1 => ((sg_pw hw u n).mul Eq.rfl).trans (sg_mul hw _ _)
theorem pw_qj {q i : Nat} {u : Q4} (hi : i ^ 4 % q = 1 % q) (h : Eq q (pw u q) (sg i u)) : ∀ j, Eq q (pw u (q ^ j)) (sg (i ^ j) u)
 | 0 => Eq.of (by rw[Nat.pow_zero,Nat.pow_zero,pw_one,sg_one])
 | j+1 => by
  rw[Nat.pow_succ,pw_mul]
  refine ((pw_qj hi h j).pw q).trans ?_
  refine (sg_pw ?_ u q).trans ?_
  ·rw[← Nat.pow_mul,Nat.mul_comm,Nat.pow_mul,Nat.pow_mod,hi,← Nat.pow_mod,Nat.one_pow]
  ·refine (Eq.sg rfl h).trans (Eq.of ?_)
   rw[sg_sg,Nat.pow_succ]
theorem pw_k {r S : Nat} {u : Q4} (h : Eq r (pw u S) (na 1)) (k : Nat) : Eq r (pw u (S * k)) (na 1) := by
 rw[pw_mul]
 have := Eq.pw h k
 rwa [pw_na1] at this
theorem can {r S m n : Nat} {u : Q4} (hS : 1 ≤ S) (h : Eq r (pw u S) (na 1)) (e : Eq r (pw u m) (pw u n)) (hmn : m ≤ n) : Eq r (pw u (n - m)) (na 1) := by
 have k1 := pw_k h m
 have a : S * m = m + (S - 1) * m := by
  rw[Nat.add_comm,← Nat.succ_mul]; congr 1; omega
 have b : n + (S - 1) * m = (n - m) + S * m := by omega
 have c : Eq r (mul (pw u n) (pw u ((S - 1) * m))) (mul (pw u m) (pw u ((S - 1) * m))) := e.symm.mul Eq.rfl
 rw[← pw_add,← pw_add,← a,b,pw_add] at c
 have d : Eq r (mul (pw u (n - m)) (pw u (S * m))) (mul (pw u (n - m)) (na 1)) := Eq.rfl.mul k1
 rw[mul_one] at d
 exact d.symm.trans (c.trans k1)
theorem pw_gcd {r : Nat} {u : Q4} : ∀ m n, Eq r (pw u m) (na 1) → Eq r (pw u n) (na 1) → Eq r (pw u (Nat.gcd m n)) (na 1) := fun m n => by
 induction m, n using Nat.gcd.induction with
 | H0 n => intro _ h; rwa [Nat.gcd_zero_left]
 | H1 m n hm ih =>
  intro h1 h2
  rw[Nat.gcd_rec]
  refine ih ?_ h1
  have e : pw u n = mul (pw u (m * (n / m))) (pw u (n % m)) := by rw[← pw_add,Nat.div_add_mod]
  rw[e] at h2
  have k := (pw_k h1 (n / m)).mul (Eq.rfl (u := pw u (n % m)))
  rw[one_mul] at k
  exact k.symm.trans h2
end Q4
theorem prod_mem {p : Nat} (hp : IsP p) : ∀ l : List Nat, (∀ x, x ∈ l → IsP x) → p ∣ prod l → p ∈ l
 | [], _, h => by
  have := Nat.le_of_dvd (by decide) h
  have := hp.1
  simp only[prod] at *
  omega
 | x :: l, hl, h => by
  rcases hp.euc h with g | g
  ·rcases (hl x (by simp)).2 p g with k | k
   ·have := hp.1
    omega
   ·simp[k]
  ·exact List.mem_cons_of_mem _ (prod_mem hp l (fun y hy => hl y (by simp[hy])) g)
theorem ord {r D : Nat} {u : Q4} {l : List Nat} (hl : ∀ f, f ∈ l → IsP f) (hS : Q4.Eq r (Q4.pw u (prod l)) (Q4.na 1)) (hn : ∀ f, f ∈ l → ¬ Q4.Eq r (Q4.pw u (prod l / f)) (Q4.na 1)) (hp : 0 < prod l) (hD : Q4.Eq r (Q4.pw u D) (Q4.na 1)) : prod l ∣ D := by
 have g := Q4.pw_gcd _ _ hD hS
 obtain ⟨h, e⟩ := Nat.gcd_dvd_right D (prod l)
 rcases Nat.lt_or_ge 1 h with k | k
 ·obtain ⟨p, h1, h2⟩ := ex_prime h k
  obtain ⟨t, rfl⟩ := h2
  have hm := prod_mem h1 l hl ⟨Nat.gcd D (prod l) * t, by rw[Nat.mul_left_comm]; exact e⟩
  refine absurd ?_ (hn p hm)
  have e2 : prod l / p = Nat.gcd D (prod l) * t := by
   have := h1.1
   refine Nat.div_eq_of_eq_mul_right (by omega) ?_
   rw[Nat.mul_left_comm]
   exact e
  rw[e2]
  exact Q4.pw_k g t
 ·have : h = 1 := by
   rcases Nat.eq_zero_or_pos h with z | z
   ·rw[z,Nat.mul_zero] at e
    omega
   ·omega
  rw[this,Nat.mul_one] at e
  rw[e]
  exact Nat.gcd_dvd_left _ _
theorem resid {q i r : Nat} {u : Q4} {l : List Nat} (hr : IsP r) (hd : r ∣ q) (hq : q % 2 = 1) (h0 : 0 < q) (hi : q ∣ i * i + 1) (hF : Q4.Eq q (Q4.pw u q) (Q4.sg i u)) (hl : ∀ f, f ∈ l → IsP f) (hS : Q4.Eq q (Q4.pw u (prod l)) (Q4.na 1)) (hn : ∀ f, f ∈ l → ¬ Q4.Eq r (Q4.pw u (prod l / f)) (Q4.na 1)) (hp : 0 < prod l) : ∃ j, j < 4 ∧ r % prod l = q ^ j % prod l := by
 have r2 := hr.1
 have hir : r ∣ i * i + 1 := Nat.dvd_trans hd hi
 have rodd : r % 2 = 1 := by
  obtain ⟨t, rfl⟩ := hd
  rw[Nat.mul_mod] at hq
  rcases Nat.mod_two_eq_zero_or_one r with x | x
  ·rw[x] at hq
   simp at hq
  ·exact x
 have i2 : i ^ 2 % r = (r - 1) % r := by
  refine cancel (z := 1) ?_
  rw[Nat.pow_two, Nat.mod_eq_zero_of_dvd hir, show r - 1 + 1 = r by omega, Nat.mod_self]
 have nd : ¬ r ∣ i := fun g => by
  have := (Nat.dvd_add_right (Nat.dvd_trans g (Nat.dvd_mul_right i i))).1 hir
  have := Nat.le_of_dvd (by omega) this
  omega
 have i4 : ∀ q, q ∣ i * i + 1 → i ^ 4 % q = 1 % q := fun q hi => by
  have e : i ^ 4 + (i * i + 1) = (i * i + 1) * (i * i) + 1 := by grind
  have := Nat.mod_eq_zero_of_dvd hi
  refine cancel (z := i * i + 1) ?_
  rw[e]
  refine (Q4.ma (x' := 0) ((Nat.mod_eq_zero_of_dvd (Nat.dvd_trans hi (Nat.dvd_mul_right _ _))).trans (Nat.zero_mod q).symm) rfl).trans ?_
  rw[Nat.zero_add,Nat.add_mod 1,this,Nat.add_zero,Nat.mod_mod]
 have four : 4 ∣ r - 1 := by
  have g := Pr.pow_gcd r2 4 (r - 1) (by rw[i4 r hir]; exact Nat.mod_eq_of_lt (by omega)) (fermat1 hr nd)
  have d4 := Nat.gcd_dvd_left 4 (r - 1)
  have d2 : 2 ∣ Nat.gcd 4 (r - 1) := Nat.dvd_gcd (by decide) (Nat.dvd_of_mod_eq_zero (by omega))
  have le := Nat.le_of_dvd (by omega) d4
  obtain ⟨m, hm⟩ := d2
  obtain ⟨m', hm'⟩ := d4
  have c : Nat.gcd 4 (r - 1) = 2 ∨ Nat.gcd 4 (r - 1) = 4 := by
   have : m = 0 ∨ m = 1 ∨ m = 2 := by omega
   rcases this with rfl | rfl | rfl
   ·rw[hm] at hm'
    omega
   ·left; omega
   ·right; omega
  rcases c with c | c
  ·rw[c,i2,Nat.mod_eq_of_lt (by omega)] at g
   omega
  ·rw[← c]
   exact Nat.gcd_dvd_right _ _
 obtain ⟨t, ht⟩ := four
 have w4 : (2 ^ t) ^ 4 % r = 1 % r := by
  rw[← Nat.pow_mul, Nat.mul_comm, ← ht, fermat1 hr fun g => by have := Nat.le_of_dvd (by omega) g; omega]
  exact (Nat.mod_eq_of_lt (by omega)).symm
 obtain ⟨j, hj, ej⟩ := roots hr hir w4
 refine ⟨j, hj, ?_⟩
 have f1 := (Q4.frobs hr (show r = 4 * t + 1 by omega) u).trans (Q4.Eq.sg ej Q4.Eq.rfl)
 have f2 := (Q4.pw_qj (i4 q hi) hF j).dvd hd
 have f3 := f1.trans f2.symm
 have sr := hS.dvd hd
 have fin : ∀ m n, m ≤ n → Q4.Eq r (Q4.pw u m) (Q4.pw u n) → n % prod l = m % prod l := fun m n hmn e => by
  obtain ⟨k, hk⟩ := ord hl sr hn hp (Q4.can hp sr e hmn)
  rw[show n = m + prod l * k by omega, Nat.add_mul_mod_self_left]
 rcases Nat.le_total r (q ^ j) with g | g
 ·exact (fin _ _ g f3).symm
 ·exact fin _ _ g f3.symm
def md (n : Nat) (u : Q4) : Q4 := ⟨u.a % n, u.b % n, u.c % n, u.d % n⟩
theorem md_eq (n : Nat) (u : Q4) : Q4.Eq n (md n u) u := ⟨Nat.mod_mod _ _, Nat.mod_mod _ _, Nat.mod_mod _ _, Nat.mod_mod _ _⟩
def qm (n : Nat) : Nat → Nat → Q4 → Q4 → Q4
 | 0, _, _, acc => acc
 | f+1, e, u, acc => qm n f (e / 2) (md n (u.mul u)) (if e % 2 = 0 then acc else md n (acc.mul u))
theorem qm_ok (n : Nat) : ∀ f e u acc, e < 2 ^ f → Q4.Eq n (qm n f e u acc) (acc.mul (u.pw e))
 | 0, e, u, acc, h => by
  have : e = 0 := by simpa using h
  rw[this]
  exact Q4.Eq.of (Q4.mul_one acc).symm
 | f+1, e, u, acc, h => by
  unfold qm
  refine (qm_ok n f _ _ _ (by rw[Nat.pow_succ] at h; omega)).trans ?_
  have e1 : Q4.Eq n ((md n (u.mul u)).pw (e / 2)) (u.pw (2 * (e / 2))) := by
   rw[Q4.pw_mul, show u.pw 2 = u.mul u by show Q4.mul (Q4.mul (Q4.na 1) u) u = _; rw [Q4.one_mul]]
   exact (md_eq n _).pw _
  by_cases h0 : e % 2 = 0
  ·rw[if_pos h0]
   refine (Q4.Eq.rfl.mul e1).trans (Q4.Eq.of ?_)
   rw[show 2 * (e / 2) = e by omega]
  ·rw[if_neg h0]
   refine ((md_eq n _).mul e1).trans (Q4.Eq.of ?_)
   rw[Q4.mul_assoc]
   congr 1
   rw[show e = 1 + 2 * (e / 2) by omega, Q4.pw_add, Q4.pw_one, show 2 * ((1 + 2 * (e / 2)) / 2) = 2 * (e / 2) by omega]
def qp (n : Nat) (u : Q4) (e : Nat) : Q4 := qm n (Nat.log2 e + 1) e u (Q4.na 1)
theorem qp_ok (n : Nat) (u : Q4) (e : Nat) : Q4.Eq n (qp n u e) (u.pw e) := by
 have := qm_ok n (Nat.log2 e + 1) e u (Q4.na 1) Nat.lt_log2_self
 rwa [Q4.one_mul] at this
def same (n : Nat) (u v : Q4) : Bool := Nat.beq (u.a % n) (v.a % n) && (Nat.beq (u.b % n) (v.b % n) && (Nat.beq (u.c % n) (v.c % n) && Nat.beq (u.d % n) (v.d % n)))
theorem same_ok {n : Nat} {u v : Q4} (h : same n u v = true) : Q4.Eq n u v := by
 unfold same at h
 simp only[Bool.and_eq_true] at h
 exact ⟨Nat.eq_of_beq_eq_true h.1, Nat.eq_of_beq_eq_true h.2.1, Nat.eq_of_beq_eq_true h.2.2.1, Nat.eq_of_beq_eq_true h.2.2.2⟩
def apart (n : Nat) (w : Q4) : Bool := Nat.beq (Nat.gcd (w.a + (n - 1)) n) 1 || Nat.beq (Nat.gcd w.d n) 1
theorem apart_ok {n r : Nat} {u w : Q4} (hr : IsP r) (hd : r ∣ n) (h0 : 0 < n) (h : apart n w = true) (e : Q4.Eq n w u) : ¬ Q4.Eq r u (Q4.na 1) := fun x => by
 have y := (e.dvd hd).trans x
 have r2 := hr.1
 have no : ∀ z, r ∣ z → Nat.gcd z n = 1 → False := fun z g k => by
  have := Nat.dvd_gcd g hd
  rw[k] at this
  have := Nat.le_of_dvd (by omega) this
  omega
 unfold apart at h
 rw[Bool.or_eq_true] at h
 rcases h with h | h
 ·refine no _ ?_ (Nat.eq_of_beq_eq_true h)
  have k := Q4.ma y.1 (.refl ((n - 1) % r))
  refine Nat.dvd_of_mod_eq_zero (k.trans ?_)
  show (1 + (n - 1)) % r = 0
  rw[show 1 + (n - 1) = n by omega]
  exact Nat.mod_eq_zero_of_dvd hd
 ·refine no _ ?_ (Nat.eq_of_beq_eq_true h)
  refine Nat.dvd_of_mod_eq_zero (y.2.2.2.trans ?_)
  exact Nat.zero_mod r
def quad (q i : Nat) (u : Q4) (l : List Nat) (K : Nat) : Bool :=
 Nat.beq (q % 2) 1 && (Nat.beq ((i * i + 1) % q) 0 && (same q (qp q u q) (u.sg i) && (same q (qp q u (prod l)) (Q4.na 1) && ((l.all fun f => apart q (qp q u (prod l / f))) && (Nat.blt 0 (prod l) && (Nat.blt q (prod l * K * (prod l * K)) && ((List.range 4).all fun j => (List.range K).all fun k => Nat.blt (q ^ j % prod l + prod l * k) 2 || !(Nat.beq (q % (q ^ j % prod l + prod l * k)) 0))))))))
theorem quad_ok {q i K : Nat} {u : Q4} {l : List Nat} (hl : ∀ f, f ∈ l → IsP f) (h : quad q i u l K = true) (h2 : 2 ≤ q) : IsP q := by
 unfold quad at h
 simp only[Bool.and_eq_true] at h
 obtain ⟨h1, h3, h4, h5, h6, h7, h8, h9⟩ := h
 have h1 := Nat.eq_of_beq_eq_true h1
 have h3 := Nat.dvd_of_mod_eq_zero (Nat.eq_of_beq_eq_true h3)
 have h4 := (qp_ok q u q).symm.trans (same_ok h4)
 have h5 := (qp_ok q u (prod l)).symm.trans (same_ok h5)
 have h7 : 0 < prod l := by simpa [Nat.blt_eq] using h7
 have h8 : q < prod l * K * (prod l * K) := by simpa [Nat.blt_eq] using h8
 have key : ∀ s t, s * t = q → s ≤ t → s = 1 := fun s t e hst => by
  apply Classical.byContradiction
  intro hs
  have s0 : s ≠ 0 := fun x => by rw[x,Nat.zero_mul] at e; omega
  obtain ⟨r, hr, hd⟩ := ex_prime s (by omega)
  have hrq : r ∣ q := Nat.dvd_trans hd ⟨t, e.symm⟩
  have b2 := Nat.le_of_dvd (by omega) hd
  obtain ⟨j, hj, ej⟩ := resid hr hrq h1 (by omega) h3 h4 hl h5 (fun f hf => apart_ok hr hrq (by omega) (List.all_eq_true.1 h6 f hf) (qp_ok q u _)) h7
  have hk : r / prod l < K := Classical.byContradiction fun g => by
   have g1 : prod l * K ≤ r := Nat.le_trans (Nat.mul_le_mul (Nat.le_refl _) (show K ≤ r / prod l by omega)) (Nat.mul_div_le r (prod l))
   have := Nat.mul_le_mul (Nat.le_trans g1 b2) (Nat.le_trans (Nat.le_trans g1 b2) hst)
   omega
  have k := List.all_eq_true.1 (List.all_eq_true.1 h9 j (List.mem_range.2 hj)) (r / prod l) (List.mem_range.2 hk)
  rw[← ej,Nat.mod_add_div,Bool.or_eq_true] at k
  have r2 := hr.1
  rcases k with k | k
  ·have : r < 2 := by simpa [Nat.blt_eq] using k
   omega
  ·rw[Nat.mod_eq_zero_of_dvd hrq] at k
   simp at k
 refine ⟨h2, fun d hd => ?_⟩
 obtain ⟨t, ht⟩ := hd
 rcases Nat.le_total d t with g | g
 ·exact .inl (key d t ht.symm g)
 ·right
  have := key t d (by rw[Nat.mul_comm]; exact ht.symm) g
  rw[ht,this,Nat.mul_one]
def chain : List Nat → List (Nat × Nat × List Nat) → Bool
 | _, [] => true
 | ps, (p, a, l) :: r => Nat.ble 2 p && ((if l.isEmpty then Nat.blt p (a * a) && (List.range a).all fun d => Nat.blt d 2 || !(Nat.beq (p % d) 0) else decide l.Nodup && (l.all (fun x => ps.contains x) && tst p a l)) && chain (p :: ps) r)
theorem chain_ok : ∀ (r : List (Nat × Nat × List Nat)) (ps : List Nat), (∀ x, x ∈ ps → IsP x) → chain ps r = true → ∀ x, x ∈ r.map Prod.fst → IsP x
 | [], _, _, _, x, hx => absurd hx (by simp)
 | (p, a, l) :: r, ps, hps, h, x, hx => by
  unfold chain at h
  simp only[Bool.and_eq_true] at h
  obtain ⟨h1, h2, h3⟩ := h
  have h1 : 2 ≤ p := by simpa using h1
  have hp : IsP p := by
   by_cases hl : l.isEmpty = true
   ·rw[if_pos hl,Bool.and_eq_true] at h2
    exact sml_ok h1 (by simpa [Nat.blt_eq] using h2.1) h2.2
   ·rw[if_neg hl,Bool.and_eq_true,Bool.and_eq_true] at h2
    exact tst_ok h1 (fun q hq => hps q (List.contains_iff_mem.1 (List.all_eq_true.1 h2.2.1 q hq))) (of_decide_eq_true h2.1) h2.2.2
  rw[List.map_cons,List.mem_cons] at hx
  rcases hx with rfl | hx
  ·exact hp
  ·exact chain_ok r (p :: ps) (fun y hy => by
    rw[List.mem_cons] at hy
    rcases hy with rfl | hy
    ·exact hp
    ·exact hps y hy) h3 x hx
end Go.Proofs.YtcgplgpdcfocpaaGreatDoor.Pr
end
section
namespace Go.Proofs.YtcgplgpdcfocpaaGreatDoor.Pr
def tbl : List (Nat × Nat × List Nat) := [(659, 26, []), (11, 4, []), (507431, 2, [659, 11]), (233, 16, []), (181, 14, []), (84347, 2, [233, 181]), (67577622930942643, 2, [507431, 84347]), (772006764363088753633, 2, [67577622930942643]), (3088027057452355014533, 2, [772006764363088753633]), (431, 21, []), (41, 7, []), (706841, 2, [431, 41]), (275078484607, 2, [706841]),
 (275858589192859458949747898833566714445005506488883, 2, [3088027057452355014533, 275078484607]), (88900632503243351461199153429459154332975524503983981294509376062221862617071, 2, [275858589192859458949747898833566714445005506488883]), (3181, 57, []), (57259, 2, [3181]), (687109, 2, [57259]), (17341, 132, []), (2023551142011271, 2, [687109, 17341]), (263867021815985715859, 2, [2023551142011271]),
 (15377, 125, []), (553573, 2, [15377]), (5535731, 2, [553573]), (44285849, 2, [5535731]), (8719, 94, []), (15584911148150023, 2, [44285849, 8719]), (1090943780370501611, 2, [15584911148150023]), (937, 31, []), (556579, 2, [937]), (62336849, 2, [556579]), (413524204558697, 2, [62336849]),
 (97384937673999542200773646991410189597600124392557061578446940566750935936157, 2, [263867021815985715859, 1090943780370501611, 413524204558697]), (31, 6, []), (7, 3, []), (5, 3, []), (54251, 2, [31, 7, 5]), (17903, 134, []), (2738940941461, 2, [54251, 17903]), (28669, 170, []), (3463, 59, []), (1397475794773, 2, [28669, 3463]), (1117, 34, []), (617, 25, []), (5513513, 2, [1117, 617]),
 (3914594231, 2, [5513513]), (78291884621, 2, [3914594231]), (3841441854965874571239043641370033532554483490056333, 2, [2738940941461, 1397475794773, 78291884621]), (38260760875460110729540874668045533984242655560961076681, 2, [3841441854965874571239043641370033532554483490056333]),
 (210324557838458567982009485073297077916620720240161302133382616003649180119610153435363, 2, [38260760875460110729540874668045533984242655560961076681]), (14161152479263415382228698629985092256126073093770060472640651535525699297453351630802990791, 2, [210324557838458567982009485073297077916620720240161302133382616003649180119610153435363]),
 (25813412062728437006801677438628665792695393984839657681883171023555783371925160737353134704768725053418588237297, 2, [14161152479263415382228698629985092256126073093770060472640651535525699297453351630802990791]),
 (11893067265757354036213055555798390198132612185751396483225919590495746575497479966854070680528710877764282224625948595602460640209804849277353684779574133, 2, [25813412062728437006801677438628665792695393984839657681883171023555783371925160737353134704768725053418588237297]), (167, 13, []), (13, 4, []), (91183, 2, [167, 13]), (7477007, 2, [91183]), (230471263769, 2, [7477007]), (113, 11, []),
 (53, 8, []), (2898677, 2, [113, 53]), (2295716713688343177575393, 2, [230471263769, 2898677]), (15397458153259878506479382739602907271, 2, [2295716713688343177575393]), (5188143545595090779916024275221577905901385149602899619405624014977699291, 2, [15397458153259878506479382739602907271]),
 (20816492801178981009403935404110466172865261421665524069121582985853409300383331754810949795969101, 2, [5188143545595090779916024275221577905901385149602899619405624014977699291]), (124898956807073886056423612424662797037191568529993144414729497915120455802299990528865698775814607, 2, [20816492801178981009403935404110466172865261421665524069121582985853409300383331754810949795969101]),
 (69871180818302734490186822900812004845541451332599928400407124720045268073271192314933728922697413285889256725409, 2, [124898956807073886056423612424662797037191568529993144414729497915120455802299990528865698775814607]),
 (37590695280246871155720510720636858606901300816938761479419033099384354223419901465434346160411208347808420118270043, 2, [69871180818302734490186822900812004845541451332599928400407124720045268073271192314933728922697413285889256725409]), (4349, 66, []), (193, 14, []), (11280958081, 2, [4349, 193]), (2617983087444254029, 2, [11280958081]), (211067032475930648326039, 2, [2617983087444254029]),
 (37574997389495077737594766937, 2, [211067032475930648326039]), (477728516810040418355779866837019, 2, [37574997389495077737594766937]), (10501148057474892039730634859181083192396565937001643, 2, [477728516810040418355779866837019]), (117274805595089410743144768508938873782525327254779587926974445499, 2, [10501148057474892039730634859181083192396565937001643]),
 (3246081669688030290124926817445753652912241004677122455313602888806629622085051, 2, [117274805595089410743144768508938873782525327254779587926974445499]), (19476490018128181740749560904674521917473446028062734731881617332839777732510307, 2, [3246081669688030290124926817445753652912241004677122455313602888806629622085051]),
 (33514317913355748683613923947840297765209158520386608605605183579640819174612207469977351325032187056802286300716208102258177312471, 2, [19476490018128181740749560904674521917473446028062734731881617332839777732510307]),
 (13296718565256490367556322151028556354268719568020930811009247818981481613092301499190362027943750457012969329154695214800473725660155537062353417534985813, 2, [33514317913355748683613923947840297765209158520386608605605183579640819174612207469977351325032187056802286300716208102258177312471]), (2, 2, []), (3, 2, []), (17, 5, []), (37, 7, []), (59, 8, []), (7817, 89, []), (29129, 171, []),
 (443, 22, []), (64679, 2, [443]), (4603, 68, []), (101267, 2, [4603]), (8708963, 2, [101267]), (24821, 158, []), (1297, 37, []), (2464683600721, 2, [24821, 1297]), (647, 26, []), (94463, 2, [647]), (986193721, 2, [94463]), (2787389767359053, 2, [986193721])]
theorem primeT : ∀ x, x ∈ tbl.map Prod.fst → IsP x := chain_ok tbl [] (fun _ h => absurd h (by simp)) (by decide +kernel)
theorem pq : IsP 37545719423795139873181279407594000031692604780923203611841409340400808242225753344440127316320202691459820298141261 := quad_ok (i := 7365272363269640046234721789291915419457581739822954216269778222512134661738417403896793194925264669388488068781702) (u := ⟨29180605940674277836053846562190972083435500004880111144879747430284807269156601223810806697958176475910367789861531, 27808543642605295541252095703302361135770205618087052627893158610129968138064634767340793342016979350704318113623053, 17700883881078852948999744283587598396854264599268008576981089592949900202619072492701079273769840936298942303606622, 16384610691587155651595030000087032475861228035750192663255279058165432528934462368749523730579471555406603218612030⟩) (l := [2, 2, 2, 2, 3, 5, 7, 17, 37, 59, 7817, 29129, 64679, 8708963, 2464683600721, 2787389767359053]) (K := 112) (fun q hq => primeT q (List.contains_iff_mem.1 (List.all_eq_true.1 (show ([2, 2, 2, 2, 3, 5, 7, 17, 37, 59, 7817, 29129, 64679, 8708963, 2464683600721, 2787389767359053].all fun f => (tbl.map Prod.fst).contains f) = true by decide +kernel) q hq))) (by decide +kernel) (by decide)
end Go.Proofs.YtcgplgpdcfocpaaGreatDoor.Pr
end
section
namespace Go.Proofs.YtcgplgpdcfocpaaGreatDoor.Der
open Go Go.RowKit Go.Proofs Go.Proofs.YtcgplgpdcfocpaaGreatDoor.Eng Go.Proofs.YtcgplgpdcfocpaaGreatDoor.Code
attribute [local irreducible] callK S.W opsW scrW scrT
open Go.Proofs.YtcgplgpdcfocpaaGreatDoor.Spec Go.Proofs.YtcgplgpdcfocpaaGreatDoor.Big Go.Proofs.YtcgplgpdcfocpaaGreatDoor.Pr
theorem limB_0 : (kN0 ++ kD0 ++ [3]).all (fun x => decide (0 ≤ x ∧ x < 4294967296)) = true := by decide +kernel
theorem lim_0 : ∀ x ∈ kN0 ++ kD0 ++ [3], 0 ≤ x ∧ x < 4294967296 := fun x hx => of_decide_eq_true (List.all_eq_true.1 limB_0 x hx)
theorem key0 : Key kN0 [3] kD0 64 where
 lN := fun x hx => lim_0 x (by simp only[List.mem_append]; exact .inl (.inl hx))
 lD := fun x hx => lim_0 x (by simp only[List.mem_append]; exact .inl (.inr hx))
 nN := by decide +kernel
 nE := by decide
 nD := by decide +kernel
 chk := by decide +kernel
 bits := by decide +kernel
 small := by decide
 un := un_of (p := 88900632503243351461199153429459154332975524503983981294509376062221862617071) (q := 97384937673999542200773646991410189597600124392557061578446940566750935936157) (j := 48692468836999771100386823495705094798800062196278530789223470283375467968078) (l := 44450316251621675730599576714729577166487762251991990647254688031110931308535) (primeT _ (by decide +kernel)) (primeT _ (by decide +kernel)) (by decide) (by decide +kernel) (by decide +kernel) (by decide +kernel)
theorem limB_1 : (kN1 ++ kD1 ++ [65537]).all (fun x => decide (0 ≤ x ∧ x < 4294967296)) = true := by decide +kernel
theorem lim_1 : ∀ x ∈ kN1 ++ kD1 ++ [65537], 0 ≤ x ∧ x < 4294967296 := fun x hx => of_decide_eq_true (List.all_eq_true.1 limB_1 x hx)
theorem key1 : Key kN1 [65537] kD1 96 where
 lN := fun x hx => lim_1 x (by simp only[List.mem_append]; exact .inl (.inl hx))
 lD := fun x hx => lim_1 x (by simp only[List.mem_append]; exact .inl (.inr hx))
 nN := by decide +kernel
 nE := by decide
 nD := by decide +kernel
 chk := by decide +kernel
 bits := by decide +kernel
 small := by decide
 un := un_of (p := 37590695280246871155720510720636858606901300816938761479419033099384354223419901465434346160411208347808420118270043) (q := 37545719423795139873181279407594000031692604780923203611841409340400808242225753344440127316320202691459820298141261) (j := 264134136146398809007830300632423790222957474633794737409304314709719685984058174778136295670312625934419835797423764100) (l := 264450541296536738580493792919680300299550651247164187007712897854168931961759006809330625238492850726832235532029745470) (primeT _ (by decide +kernel)) pq (by decide) (by decide +kernel) (by decide +kernel) (by decide +kernel)
theorem limB_2 : (kN2 ++ kD2 ++ [65537]).all (fun x => decide (0 ≤ x ∧ x < 4294967296)) = true := by decide +kernel
theorem lim_2 : ∀ x ∈ kN2 ++ kD2 ++ [65537], 0 ≤ x ∧ x < 4294967296 := fun x hx => of_decide_eq_true (List.all_eq_true.1 limB_2 x hx)
theorem key2 : Key kN2 [65537] kD2 128 where
 lN := fun x hx => lim_2 x (by simp only[List.mem_append]; exact .inl (.inl hx))
 lD := fun x hx => lim_2 x (by simp only[List.mem_append]; exact .inl (.inr hx))
 nN := by decide +kernel
 nE := by decide
 nD := by decide +kernel
 chk := by decide +kernel
 bits := by decide +kernel
 small := by decide
 un := un_of (p := 11893067265757354036213055555798390198132612185751396483225919590495746575497479966854070680528710877764282224625948595602460640209804849277353684779574133) (q := 13296718565256490367556322151028556354268719568020930811009247818981481613092301499190362027943750457012969329154695214800473725660155537062353417534985813) (j := 191692143196020193383875718290303182681314995652373749036914821182346529675145164563077854175851078463527472333758663564171029465979632300059418043893122958698) (l := 171456404236790894463065515420167492291378803575885007400426469776381930505659419942151709965842160369288774691319987928502873819584651609606969396624730473978) (primeT _ (by decide +kernel)) (primeT _ (by decide +kernel)) (by decide) (by decide +kernel) (by decide +kernel) (by decide +kernel)
end Go.Proofs.YtcgplgpdcfocpaaGreatDoor.Der
end
section
namespace Go.Proofs.YtcgplgpdcfocpaaGreatDoor.Der
open Go Go.RowKit Go.Proofs Go.Proofs.YtcgplgpdcfocpaaGreatDoor.Eng Go.Proofs.YtcgplgpdcfocpaaGreatDoor.Code
attribute [local irreducible] callK S.W opsW scrW scrT
open Go.Proofs.YtcgplgpdcfocpaaGreatDoor.Spec Go.Proofs.YtcgplgpdcfocpaaGreatDoor.Big
theorem lim_one {x : Int} (h : 0 ≤ x ∧ x < 4294967296) : Lim [x] := fun y hy => by
 simp only[List.mem_cons,List.not_mem_nil,or_false] at hy
 rw[hy]
 exact h
theorem kn0 : KnOf 0 kN0 [3] kD0 16 64 := ⟨key0, by decide +kernel, rfl, by decide +kernel, lim_one (by decide), fun hK => knownD0 hK⟩
theorem kn1 : KnOf 1 kN1 [65537] kD1 24 96 := ⟨key1, by decide +kernel, rfl, by decide +kernel, lim_one (by decide), fun hK => knownD1 hK⟩
theorem kn2 : KnOf 2 kN2 [65537] kD2 32 128 := ⟨key2, by decide +kernel, rfl, by decide +kernel, lim_one (by decide), fun hK => knownD2 hK⟩
theorem kn_all {i : Int} (h : 0 ≤ i ∧ i < 3) : ∃ N E D n k, KnOf i N E D n k := by
 have c : i = 0 ∨ i = 1 ∨ i = 2 := by omega
 rcases c with rfl | rfl | rfl
 ·exact ⟨_, _, _, _, _, kn0⟩
 ·exact ⟨_, _, _, _, _, kn1⟩
 ·exact ⟨_, _, _, _, _, kn2⟩
end Go.Proofs.YtcgplgpdcfocpaaGreatDoor.Der
end
