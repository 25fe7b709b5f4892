/- RsaSalted: the row and the tied card: what a known key has signed in the second way is verified with as many bytes of salt as it has, and with no other number of them, whatever the text, the algorithms and the salt; no condition. -/
import Derived.Test.YtcgplgpdcfocpaaGreatDoorCards
import Derived.Test.YtcgplgpdcfocpaaGreatDoorTie
import Derived.SevenTiedAt
import Derived.Test.YtcgplgpdcfocpaaGreatDoorRsaSaltedr5
set_option linter.unusedVariables false
set_option linter.unusedSimpArgs false
set_option maxRecDepth 100000
open Int renaming reduceAdd → Za, reduceEq → Zb, reduceLE → Zc, reduceLT → Zd, reduceMul → Ze, reduceNeg → Zf, reducePow → Zg, reduceSub → Zj, reduceToNat → Zk
open Nat renaming reduceAdd → Zl, reduceEqDiff → Zm, reduceLT → Zn, reduceLeDiff → Zp, reduceMul → Zq
section
namespace Go.Proofs.YtcgplgpdcfocpaaGreatDoor.Der
open Go Go.RowKit Go.Proofs Go.Proofs.YtcgplgpdcfocpaaGreatDoor.Eng Go.Proofs.YtcgplgpdcfocpaaGreatDoor.Code
attribute [local irreducible] callK S.W opsW scrW scrT
open Go.Proofs.YtcgplgpdcfocpaaGreatDoor.Spec Go.Proofs.YtcgplgpdcfocpaaGreatDoor.Big
attribute [local irreducible] checkR sizeK rawR dig dbR pssF
attribute [local irreducible] maskR
set_option maxHeartbeats 16000000 in
theorem vpss_k {w : World} (hT : Tb w) {vN vE v v2 : Value} {N E sig sum : List Int} {alg mask salt : Int} (hN : Vw .u32 w vN N) (hE : Vw .u32 w vE E) (lN : Lim N) (lE : Lim E) (nN : N.length ≤ 4194304) (nE : E.length ≤ 4194304) (hsl : -9223372036854775808 ≤ salt ∧ salt ≤ 9223372036854775807) (hv : Vw .u8 w v sum) (hb : Byt sum) (h63 : sum.length ≤ 9223372036854775807) (hv2 : Vw .u8 w v2 sig) (hb2 : Byt sig) (h64 : sig.length ≤ 9223372036854775807) {K : Value → World → Prop}
  (hK : ∀ w', Fr w w' nob → K (.int .i64 (pssR N E alg mask salt sum sig)) w') : callK Tryz.prog 19 [.agg #[vN, vE], .int .i64 alg, .int .i64 mask, .int .i64 salt, v, v2] w K := by
 refine call_of Tryz.func19 Code.h19 (by simp[Code.c19]) ?_
 have hN0 := hN
 have hE0 := hE
 have hv0 := hv
 have hv20 := hv2
 obtain ⟨A, c, rfl, hc, hr⟩ := hN0
 obtain ⟨B, d, rfl, hd, hs⟩ := hE0
 obtain ⟨D, q, rfl, hq, ht⟩ := hv0
 obtain ⟨D2, q2, rfl, hq2, ht2⟩ := hv20
 have hz := sizeI_nn alg
 have hzm := sizeI_nn mask
 have hrl := rawR_len (N := N) (E := E) (sig := sig)
 have hrb := raw_byt (N := N) (E := E) (sig := sig)
 simp(disch:=omega)only[Zu,Zv,Zx,Zz,EZ,↓EP,↓reduceIte,Za,Zb,Zc,Zd,Ze,Zf,Zg,Zj,Zk,Zl,Zm,Zn,Zp,Zq,reduceCtorEq,Code.c19]
 refine al_k [.slice A N.length c, .slice B E.length d] rfl fun w1 n1 => ?_
 have f1 := n1.fr nob
 simp(disch:=omega)only[Zu,Zv,Zx,Zz,EZ,↓EP,↓reduceIte,Za,Zb,Zc,Zd,Ze,Zf,Zg,Zj,Zk,Zl,Zm,Zn,Zp,Zq,reduceCtorEq]
 have bad1 : (sizeI alg = 0 ∨ (sum.length : Int) ≠ sizeI alg ∨ sizeI mask = 0 ∨ salt < 0) → K (.int .i64 1) w1 := fun h => by
  have e : pssR N E alg mask salt sum sig = 1 := if_pos h
  rw[e] at hK
  exact hK _ f1
 refine known_k h63 ?_
 by_cases c0 : 0 < sizeI alg ∧ (sum.length : Int) = sizeI alg
 rotate_left
 ·have : (decide (0 < sizeI alg) && decide ((sum.length : Int) = sizeI alg)) = false := by
   by_cases h : 0 < sizeI alg
   ·have : ¬ (sum.length : Int) = sizeI alg := fun e => c0 ⟨h, e⟩
    simp[this]
   ·simp[h]
  rw[this]
  simp(disch:=omega)only[Zu,Zv,Zx,Zz,EZ,↓EP,↓reduceIte,Za,Zb,Zc,Zd,Ze,Zf,Zg,Zj,Zk,Zl,Zm,Zn,Zp,Zq,reduceCtorEq,Bool.not_false]
  exact bad1 (by omega)
 obtain ⟨c1, c2⟩ := c0
 rw[decide_eq_true c1,decide_eq_true c2,Bool.true_and]
 simp(disch:=omega)only[Zu,Zv,Zx,Zz,EZ,↓EP,↓reduceIte,Za,Zb,Zc,Zd,Ze,Zf,Zg,Zj,Zk,Zl,Zm,Zn,Zp,Zq,reduceCtorEq,Bool.not_true]
 refine size_spec mask _ _ ?_
 by_cases c3 : sizeI mask = 0
 ·simp(disch:=omega)only[Zu,Zv,Zx,Zz,EZ,↓EP,↓reduceIte,Za,Zb,Zc,Zd,Ze,Zf,Zg,Zj,Zk,Zl,Zm,Zn,Zp,Zq,reduceCtorEq,Bool.not_true,c3]
  exact bad1 (by omega)
 by_cases c4 : salt < 0
 ·simp(disch:=omega)only[Zu,Zv,Zx,Zz,EZ,↓EP,↓reduceIte,Za,Zb,Zc,Zd,Ze,Zf,Zg,Zj,Zk,Zl,Zm,Zn,Zp,Zq,reduceCtorEq,Bool.not_true,c3,c4]
  exact bad1 (by omega)
 simp(disch:=omega)only[Zu,Zv,Zx,Zz,EZ,↓EP,↓reduceIte,Za,Zb,Zc,Zd,Ze,Zf,Zg,Zj,Zk,Zl,Zm,Zn,Zp,Zq,reduceCtorEq,Bool.not_true,c3,c4]
 refine n1.blk.ldAgg rfl ?_
 simp(disch:=omega)only[Zu,Zv,Zx,Zz,EZ,↓EP,↓reduceIte,Za,Zb,Zc,Zd,Ze,Zf,Zg,Zj,Zk,Zl,Zm,Zn,Zp,Zq,reduceCtorEq]
 refine raw_k (hN.nb f1) (hE.nb f1) lN lE nN nE (hv2.nb f1) hb2 h64 fun v3 w3 g3 => ?_
 have f13 := f1.nb g3.fr
 obtain ⟨A3, c3', e3, hc3, hr3, _⟩ := g3.sl.read
 by_cases h0 : (rawR N E sig).2 = 0
 rotate_left
 ·have e : pssR N E alg mask salt sum sig = (rawR N E sig).2 := by unfold pssR; rw[if_neg (by omega),if_pos h0]
  rw[e] at hK
  subst e3
  simp(disch:=omega)only[Zu,Zv,Zx,Zz,EZ,↓EP,↓reduceIte,Za,Zb,Zc,Zd,Ze,Zf,Zg,Zj,Zk,Zl,Zm,Zn,Zp,Zq,reduceCtorEq,pr2,h0]
  exact hK _ f13
 obtain ⟨hbl, hbu, hlen⟩ := raw_sz lN h0
 have hR : pssR N E alg mask salt sum sig = pssE (bl (val N) - 1) ((bl (val N) - 1 + 7) / 8) alg mask salt.toNat sum (rawR N E sig).1 := by
  unfold pssR
  rw[if_neg (by omega),if_neg (by omega)]
 rw[hR] at hK
 clear hR bad1
 have hk0 : ∀ w', Fr w3 w' nob → w'.cell? ⟨w.heap.size, 0, none⟩ = some (.slice A N.length c) := fun w' f => ((n1.blk.nb g3.fr).nb f).has 0 _ rfl
 have k0 := hk0 w3 (Fr.refl _ _)
 rcases g3.sl with ⟨e0, _⟩ | ⟨b, pad, ev, hB⟩
 ·rw[e0] at hlen
  simp at hlen
  omega
 subst ev
 have hup := g3.up b rfl
 have f03 := f1.nb g3.fr
 generalize hem : (rawR N E sig).1 = em at *
 generalize hBL : bl (val N) = BL at *
 obtain ⟨m, hm⟩ : ∃ m : Nat, BL = m + 1 := ⟨BL - 1, by omega⟩
 subst hm
 obtain ⟨n, hn⟩ : ∃ n : Nat, n = (m + 7) / 8 := ⟨_, rfl⟩
 have hmn : m + 1 - 1 = m := by omega
 rw[hmn,← hn] at hK
 simp(disch:=omega)only[Zu,Zv,Zx,Zz,EZ,↓EP,↓reduceIte,Za,Zb,Zc,Zd,Ze,Zf,Zg,Zj,Zk,Zl,Zm,Zn,Zp,Zq,reduceCtorEq,pr2,h0,k0]
 refine bits_vw (hN.nb f13) lN (by omega) _ ?_
 rw[hBL]
 simp(disch:=omega)only[Zu,Zv,Zx,Zz,EZ,↓EP,↓reduceIte,Za,Zb,Zc,Zd,Ze,Zf,Zg,Zj,Zk,Zl,Zm,Zn,Zp,Zq,reduceCtorEq,W_joinT]
 have hdiv : ((↑(m + 1) : Int) - 1 + 7).tdiv 8 = (n : Int) := by
  rw[Int.tdiv_eq_ediv_of_nonneg (by omega)]
  omega
 refine join_cut (fun ρ' w' => w' = w3 ∧ ∃ o : Nat, ρ' 13 = .slice (some ⟨b, o, none⟩) n (em.length + pad.length - o) ∧ em.length = o + n ∧ pssE m n alg mask salt.toNat sum em = pssF m n alg mask salt.toNat sum (em.drop o)) ?_ ?_
 ·intro M hM
  have ce0 : w3.cell? ⟨b, 0, none⟩ = some (.int .u8 (at' em 0)) := by
   have := hB.numN (j := 0) (by simp; omega)
   rw[Big.at_app (a := em) (b := pad) (k := 0) (by omega)] at this
   exact this
  by_cases hbig : (n : Int) < (em.length : Int)
  ·by_cases hz0 : at' em 0 = 0
   ·simp(disch:=omega)only[Zu,Zv,Zx,Zz,EZ,↓EP,↓reduceIte,Za,Zb,Zc,Zd,Ze,Zf,Zg,Zj,Zk,Zl,Zm,Zn,Zp,Zq,reduceCtorEq,hdiv,hbig,ce0,hz0]
    refine hM _ _ ⟨rfl, 1, ?_, by omega, ?_⟩
    ·simp(disch:=omega)only[Zu,Zv,Zx,Zz,EZ,↓EP,↓reduceIte,Za,Zb,Zc,Zd,Ze,Zf,Zg,Zj,Zk,Zl,Zm,Zn,Zp,Zq,reduceCtorEq]
     rw[sub_blk (by omega) (by omega), show em.length - 1 = n by omega]
    ·unfold pssE
     rw[if_neg (fun g => g.2 hz0), if_pos (by omega)]
   ·have e : pssE m n alg mask salt.toNat sum em = 112 := by
     unfold pssE
     rw[if_pos ⟨by omega,hz0⟩]
    rw[e] at hK
    simp(disch:=omega)only[Zu,Zv,Zx,Zz,EZ,↓EP,↓reduceIte,Za,Zb,Zc,Zd,Ze,Zf,Zg,Zj,Zk,Zl,Zm,Zn,Zp,Zq,reduceCtorEq,hdiv,hbig,ce0,hz0]
    exact hK _ f13
  ·simp(disch:=omega)only[Zu,Zv,Zx,Zz,EZ,↓EP,↓reduceIte,Za,Zb,Zc,Zd,Ze,Zf,Zg,Zj,Zk,Zl,Zm,Zn,Zp,Zq,reduceCtorEq,hdiv,hbig]
   refine hM _ _ ⟨rfl, 0, ?_, by omega, ?_⟩
   ·simp(disch:=omega)only[Zu,Zv,Zx,Zz,EZ,↓EP,↓reduceIte,Za,Zb,Zc,Zd,Ze,Zf,Zg,Zj,Zk,Zl,Zm,Zn,Zp,Zq,reduceCtorEq]
    rw[show em.length = n by omega, Nat.sub_zero]
   ·unfold pssE
    rw[if_neg (fun g => by omega), if_neg (by omega), List.drop_zero]
 rintro ρ' w' hf ⟨rfl, o, r13, hon, hpe⟩
 rw[hpe] at hK
 clear hpe
 have r3 : ρ' 3 = .int .i64 salt := by rw[hf 3 rfl]; simp(disch:=omega)only[Zu,Zv,Zx,Zz,EZ,↓EP,↓reduceIte,Za,Zb,Zc,Zd,Ze,Zf,Zg,Zj,Zk,Zl,Zm,Zn,Zp,Zq,reduceCtorEq]
 have r1 : ρ' 1 = .int .i64 alg := by rw[hf 1 rfl]; simp(disch:=omega)only[Zu,Zv,Zx,Zz,EZ,↓EP,↓reduceIte,Za,Zb,Zc,Zd,Ze,Zf,Zg,Zj,Zk,Zl,Zm,Zn,Zp,Zq,reduceCtorEq]
 have r2 : ρ' 2 = .int .i64 mask := by rw[hf 2 rfl]; simp(disch:=omega)only[Zu,Zv,Zx,Zz,EZ,↓EP,↓reduceIte,Za,Zb,Zc,Zd,Ze,Zf,Zg,Zj,Zk,Zl,Zm,Zn,Zp,Zq,reduceCtorEq]
 have r4 : ρ' 4 = .slice D sum.length q := by rw[hf 4 rfl]; simp(disch:=omega)only[Zu,Zv,Zx,Zz,EZ,↓EP,↓reduceIte,Za,Zb,Zc,Zd,Ze,Zf,Zg,Zj,Zk,Zl,Zm,Zn,Zp,Zq,reduceCtorEq]
 have r15 : ρ' 15 = .int .i64 (m : Int) := by
  rw[hf 15 rfl]
  simp(disch:=omega)only[Zu,Zv,Zx,Zz,EZ,↓EP,↓reduceIte,Za,Zb,Zc,Zd,Ze,Zf,Zg,Zj,Zk,Zl,Zm,Zn,Zp,Zq,reduceCtorEq]
  congr 1
  omega
 clear hf
 have sq : ∃ s : Nat, salt = (s : Int) ∧ salt.toNat = s := ⟨salt.toNat, by omega, rfl⟩
 obtain ⟨s, es, hs0⟩ := sq
 rw[hs0] at hK
 rw[es] at r3
 have hcap : n ≤ em.length + pad.length - o := by omega
 have cpq : ∃ cp : Nat, cp = em.length + pad.length - o := ⟨_, rfl⟩
 obtain ⟨cp, hcp⟩ := cpq
 rw[← hcp] at r13 hcap
 have hh : sum.length ≤ 64 := by omega
 have cl : w'.cell? ⟨b, o + (n - 1), none⟩ = some (.int .u8 (at' (em.drop o) ((n - 1 : Nat) : Int))) := by
  have := hB.numN (j := o + (n - 1)) (by simp; omega)
  rw[Big.at_app (a := em) (b := pad) (k := o + (n - 1)) (by omega)] at this
  rw[this,Big.at_drop]
 have i1 : ((n : Int) - 1).toNat = n - 1 := by omega
 by_cases h4 : (n : Int) - sum.length - 2 < s
 ·have e : pssF m n alg mask s sum (em.drop o) = 112 := by unfold pssF; rw[if_pos (.inl h4)]
  rw[e] at hK
  simp(disch:=omega)only[Zu,Zv,Zx,Zz,EZ,↓EP,↓reduceIte,Za,Zb,Zc,Zd,Ze,Zf,Zg,Zj,Zk,Zl,Zm,Zn,Zp,Zq,reduceCtorEq,r13,r3,r4,h4]
  exact hK _ f13
 by_cases h5 : at' (em.drop o) ((n - 1 : Nat) : Int) = 188
 rotate_left
 ·have e : pssF m n alg mask s sum (em.drop o) = 112 := by unfold pssF; rw[if_pos (.inr h5)]
  rw[e] at hK
  simp(disch:=omega)only[Zu,Zv,Zx,Zz,EZ,↓EP,↓reduceIte,Za,Zb,Zc,Zd,Ze,Zf,Zg,Zj,Zk,Zl,Zm,Zn,Zp,Zq,reduceCtorEq,r13,r3,r4,h4,i1,Addr.add_lit,cl,h5]
  exact hK _ f13
 simp(disch:=omega)only[Zu,Zv,Zx,Zz,EZ,↓EP,↓reduceIte,Za,Zb,Zc,Zd,Ze,Zf,Zg,Zj,Zk,Zl,Zm,Zn,Zp,Zq,reduceCtorEq,r13,r3,r4,h4,i1,Addr.add_lit,cl,h5]
 intro m1
 have ovq : ∃ ov : Nat, ov = 8 * n - m := ⟨_, rfl⟩
 obtain ⟨ov, hov⟩ := ovq
 have hov8 : ov < 8 := by omega
 have hot : (8 * (n : Int) - (m : Int)).toNat = ov := by omega
 have cf : w'.cell? ⟨b, o, none⟩ = some (.int .u8 (at' (em.drop o) 0)) := by
  have := hB.numN (j := o) (by simp; omega)
  rw[Big.at_app (a := em) (b := pad) (k := o) (by omega)] at this
  rw[this,show (0 : Int) = ((0 : Nat) : Int) from rfl,Big.at_drop,Nat.add_zero]
 have bx := (hrb.drop o).at 0
 by_cases h6 : at' (em.drop o) 0 < 2 ^ (8 - ov)
 rotate_left
 ·have e : pssF m n alg mask s sum (em.drop o) = 112 := by
   unfold pssF
   rw[if_neg (fun g => g.elim h4 (fun x => x h5)), if_pos (by rw [← hov]; exact h6)]
  rw[e] at hK
  have h7 : ¬ bits .andNot .u8 (at' (em.drop o) 0) ((255 : Int).fdiv (2 ^ ov)) = 0 := fun g => h6 ((free_not bx hov8).1 g)
  simp(disch:=omega)only[Zu,Zv,Zx,Zz,EZ,↓EP,↓reduceIte,Za,Zb,Zc,Zd,Ze,Zf,Zg,Zj,Zk,Zl,Zm,Zn,Zp,Zq,reduceCtorEq,r15,hot,cf,h7]
  exact hK _ (f13.nb (fr_drewN' w' m1))
 have h7 : bits .andNot .u8 (at' (em.drop o) 0) ((255 : Int).fdiv (2 ^ ov)) = 0 := (free_not bx hov8).2 h6
 have dlq : ∃ dl : Nat, n - sum.length - 1 = dl ∧ n = sum.length + 1 + dl := ⟨n - sum.length - 1, rfl, by omega⟩
 obtain ⟨dl, hdl, hnd⟩ := dlq
 have hsd : s + 1 ≤ dl := by omega
 have hdl2 : dl ≤ 2048 := by omega
 have hpF : pssF m n alg mask s sum (em.drop o) = if (dbR ov dl (em.drop o) (maskR mask (((em.drop o).drop dl).take sum.length) (dl : Int)).1).take (dl - s) ≠ List.replicate (dl - s - 1) 0 ++ [1] then 112
   else if dig alg (List.replicate 8 0 ++ sum ++ (dbR ov dl (em.drop o) (maskR mask (((em.drop o).drop dl).take sum.length) (dl : Int)).1).drop (dl - s)) ≠ ((em.drop o).drop dl).take sum.length then 112 else 0 := by
  unfold pssF
  rw[if_neg (fun g => g.elim h4 (fun x => x h5)), if_neg (fun x => x (by rw [← hov]; exact h6)), ← hov, hdl, show n - sum.length - 2 - s = dl - s - 1 by omega]
 rw[hpF] at hK
 clear hpF h4 h5 cl
 have i2 : (n : Int) - (sum.length : Int) - 1 = (dl : Int) := by omega
 have i3 : n - 1 - dl = sum.length := by omega
 have i4 : subA (some ⟨b, o, none⟩) cp dl 1 = some ⟨b, o + dl, none⟩ := sub_at (by omega)
 simp(disch:=omega)only[Zu,Zv,Zx,Zz,EZ,↓EP,↓reduceIte,Za,Zb,Zc,Zd,Ze,Zf,Zg,Zj,Zk,Zl,Zm,Zn,Zp,Zq,reduceCtorEq,r15,hot,cf,h7,r2,i1,i2,i3,i4,Int.toNat_natCast]
 have F1 := fr_drewN' w' m1
 have fw1 := f13.nb F1
 have hT1 : Tb (w'.drewN m1) := hT.fr fw1 (fun x => x) (fun x => x)
 have htl : (((em.drop o).drop dl).take sum.length).length = sum.length := by
  simp only[List.length_take,List.length_drop]
  omega
 have hRt : Rd (w'.drewN m1) (some ⟨b, o + dl, none⟩) (nums .u8 (((em.drop o).drop dl).take sum.length)) := blk_sub (hB.nb F1) (o + dl) sum.length (by rw[sub_list (by omega),List.drop_drop])
 have hml := maskR_l2 c3 (((em.drop o).drop dl).take sum.length) hdl2
 have htb : Byt (((em.drop o).drop dl).take sum.length) := ((hrb.drop o).drop dl).take _
 have hwb : w.heap.size ≤ b := by have := f1.size; omega
 have topq : ∃ top, ((em.drop o).drop dl).take sum.length = top := ⟨_, rfl⟩
 obtain ⟨top, htop⟩ := topq
 rw[htop] at hK htl hRt hml htb
 have veq : ∃ veil, (maskR mask top (dl : Int)).1 = veil := ⟨_, rfl⟩
 obtain ⟨veil, hvl⟩ := veq
 rw[hvl] at hK hml
 refine mask_n (seed := top) hT1 htl (by omega) hRt (by omega) fun v4 w4 h4 u4 f4 => ?_
 rw[hvl] at h4
 have h4q := h4
 obtain ⟨A4, c4, rfl, hc4, hr4⟩ := h4q
 rw[hml.1] at hc4
 have fw4 := fw1.nb f4
 have hB4 := (hB.nb F1).nb f4
 simp(disch:=omega)only[Zu,Zv,Zx,Zz,EZ,↓EP,↓reduceIte,Za,Zb,Zc,Zd,Ze,Zf,Zg,Zj,Zk,Zl,Zm,Zn,Zp,Zq,reduceCtorEq,hml.1]
 have vg := hr4.get (by rw[nums_length,hml.1]; omega)
 obtain ⟨ad4, ea4, hlt4, _⟩ := vg
 subst ea4
 have hvb : ad4.block ≠ b := fun e => by
  have := u4 ad4.block rfl
  have := (hB.nb F1).lt
  omega
 refine loop_inv (fun t ρ w9 => ∃ (i : Nat) (L : List Int), ρ 122 = .int .i64 i ∧ i ≤ dl ∧ t = dl - i ∧ Xd (em ++ pad) veil L o i ∧ Blk w9 b (nums .u8 L) ∧ Fr w4 w9 (fun x => x = b)) dl
  ⟨0, _, by simp(disch:=omega)only[Zu,Zv,Zx,Zz,EZ,↓EP,↓reduceIte,Za,Zb,Zc,Zd,Ze,Zf,Zg,Zj,Zk,Zl,Zm,Zn,Zp,Zq,reduceCtorEq], by omega, rfl, Xd.zero _ _ _, hB4, Fr.refl _ _⟩ ?_
 rintro t ρ w9 hf ⟨i, L, h122, hi, rfl, hX, hB9, f9⟩ M hM
 have q19 : ρ 19 = .slice (some ⟨b, o, none⟩) dl cp := by rw[hf 19 rfl]; simp(disch:=omega)only[Zu,Zv,Zx,Zz,EZ,↓EP,↓reduceIte,Za,Zb,Zc,Zd,Ze,Zf,Zg,Zj,Zk,Zl,Zm,Zn,Zp,Zq,reduceCtorEq,r13,r4,r15,hot,i1,i2,i3,i4,Int.toNat_natCast]
 have q121 : ρ 121 = .int .i64 dl := by rw[hf 121 rfl]; simp(disch:=omega)only[Zu,Zv,Zx,Zz,EZ,↓EP,↓reduceIte,Za,Zb,Zc,Zd,Ze,Zf,Zg,Zj,Zk,Zl,Zm,Zn,Zp,Zq,reduceCtorEq,r13,r4,r15,hot,i1,i2,i3,i4,Int.toNat_natCast]
 have q22 : ρ 22 = .slice (some ad4) dl c4 := by rw[hf 22 rfl]; simp(disch:=omega)only[Zu,Zv,Zx,Zz,EZ,↓EP,↓reduceIte,Za,Zb,Zc,Zd,Ze,Zf,Zg,Zj,Zk,Zl,Zm,Zn,Zp,Zq,reduceCtorEq]
 have q20 : ρ 20 = .slice (some ⟨b, o + dl, none⟩) sum.length (cp - dl) := by rw[hf 20 rfl]; simp(disch:=omega)only[Zu,Zv,Zx,Zz,EZ,↓EP,↓reduceIte,Za,Zb,Zc,Zd,Ze,Zf,Zg,Zj,Zk,Zl,Zm,Zn,Zp,Zq,reduceCtorEq,r13,r4,r15,hot,i1,i2,i3,i4,Int.toNat_natCast]
 have q21 : ρ 21 = .int .u8 ((255 : Int).fdiv (2 ^ ov)) := by rw[hf 21 rfl]; simp(disch:=omega)only[Zu,Zv,Zx,Zz,EZ,↓EP,↓reduceIte,Za,Zb,Zc,Zd,Ze,Zf,Zg,Zj,Zk,Zl,Zm,Zn,Zp,Zq,reduceCtorEq,r13,r4,r15,hot,i1,i2,i3,i4,Int.toNat_natCast]
 have q3 : ρ 3 = .int .i64 s := by rw[hf 3 rfl]; simp(disch:=omega)only[Zu,Zv,Zx,Zz,EZ,↓EP,↓reduceIte,Za,Zb,Zc,Zd,Ze,Zf,Zg,Zj,Zk,Zl,Zm,Zn,Zp,Zq,reduceCtorEq,r3]
 have q1 : ρ 1 = .int .i64 alg := by rw[hf 1 rfl]; simp(disch:=omega)only[Zu,Zv,Zx,Zz,EZ,↓EP,↓reduceIte,Za,Zb,Zc,Zd,Ze,Zf,Zg,Zj,Zk,Zl,Zm,Zn,Zp,Zq,reduceCtorEq,r1]
 have q4 : ρ 4 = .slice D sum.length q := by rw[hf 4 rfl]; simp(disch:=omega)only[Zu,Zv,Zx,Zz,EZ,↓EP,↓reduceIte,Za,Zb,Zc,Zd,Ze,Zf,Zg,Zj,Zk,Zl,Zm,Zn,Zp,Zq,reduceCtorEq,r4]
 clear hf
 have hr9 : Rd w9 (some ad4) (nums .u8 veil) := hr4.fr f9 (.inr fun p e x => by cases e; exact hvb x)
 by_cases hil : (i : Int) < (dl : Int)
 ·have cv : w9.cell? (ad4.add i) = some (.int .u8 (at' veil (i : Int))) := by
   have vg := hr9.get (by rw[nums_length,hml.1]; omega)
   obtain ⟨ad5, ea5, _, hcl5⟩ := vg
   cases ea5
   exact hcl5.numN (by rw[hml.1]; omega)
  have cL : w9.cell? ⟨b, o + i, none⟩ = some (.int .u8 (at' L ((o + i : Nat) : Int))) := hB9.numN (by rw[hX.1]; simp; omega)
  simp(disch:=omega)only[Zu,Zv,Zx,Zz,EZ,↓EP,↓reduceIte,Za,Zb,Zc,Zd,Ze,Zf,Zg,Zj,Zk,Zl,Zm,Zn,Zp,Zq,reduceCtorEq,h122,q121,q19,q22,hil,Addr.add_lit,cL,cv]
  intro m2
  refine st_num (hB9.nb (fr_drewN' w9 m2)) (by rw[hX.1]; simp; omega) fun w10 p10 => ?_
  simp(disch:=omega)only[Zu,Zv,Zx,Zz,EZ,↓EP,↓reduceIte,Za,Zb,Zc,Zd,Ze,Zf,Zg,Zj,Zk,Zl,Zm,Zn,Zp,Zq,reduceCtorEq,h122]
  refine hM (dl - (i + 1)) _ _ (by omega) ⟨i + 1, _, by simp(disch:=omega)only[Zu,Zv,Zx,Zz,EZ,↓EP,↓reduceIte,Za,Zb,Zc,Zd,Ze,Zf,Zg,Zj,Zk,Zl,Zm,Zn,Zp,Zq,reduceCtorEq,h122,Int.natCast_add], by omega, rfl, hX.step (by simp; omega), p10.blk, ?_⟩
  exact (f9.trans (fr_drewN' w9 m2) fun _ _ e => e.elim).trans p10.fr fun x _ e => e
 have hid : i = dl := by omega
 rw[hid] at h122 hX
 clear hM hil hi
 have cL : w9.cell? ⟨b, o, none⟩ = some (.int .u8 (at' L (o : Int))) := hB9.numN (by rw[hX.1]; simp; omega)
 simp(disch:=omega)only[Zu,Zv,Zx,Zz,EZ,↓EP,↓reduceIte,Za,Zb,Zc,Zd,Ze,Zf,Zg,Zj,Zk,Zl,Zm,Zn,Zp,Zq,reduceCtorEq,h122,q121,q19,q21,cL]
 refine st_num hB9 (by rw[hX.1]; simp; omega) fun w10 p10 => ?_
 have f10 : Fr w4 w10 (fun x => x = b) := f9.trans p10.fr fun x _ e => e
 have fw10 : Fr w w10 nob := fw4.trans f10 fun x hx e => by
  have e : x = b := e
  omega
 have hB10 := p10.blk
 have hdb := hX.done (ov := ov) (by omega) (by omega)
 have hrs := hX.rest (x := bits .and .u8 (at' L (o : Int)) ((255 : Int).fdiv (2 ^ ov))) (h := sum.length) (by omega) (by omega)
 rw[htop] at hrs
 have i5 : (dl : Int) - (s : Int) = ((dl - s : Nat) : Int) := by omega
 have i6 : dl - (dl - s) = s := by omega
 have i7 : subA (some ⟨b, o, none⟩) cp (dl - s) 1 = some ⟨b, o + (dl - s), none⟩ := sub_at (by omega)
 have i8 : ((dl - s : Nat) : Int).toNat = dl - s := Int.toNat_natCast _
 simp(disch:=omega)only[Zu,Zv,Zx,Zz,EZ,↓EP,↓reduceIte,Za,Zb,Zc,Zd,Ze,Zf,Zg,Zj,Zk,Zl,Zm,Zn,Zp,Zq,reduceCtorEq,h122,q121,q19,q21,q3,i5,i6,i7,i8]
 intro m3
 have F3 := fr_drewN' w10 m3
 have fw3 := fw10.nb F3
 have hB11 := hB10.nb F3
 have DBq : ∃ DB, dbR ov dl (em.drop o) veil = DB := ⟨_, rfl⟩
 obtain ⟨DB, hDB⟩ := DBq
 have hDl : DB.length = dl := by rw[← hDB,dbR_len]
 rw[hDB] at hK hdb
 have hHd : Rd (w10.drewN m3) (some ⟨b, o, none⟩) (nums .u8 (DB.take (dl - s))) := blk_sub hB11 o (dl - s) (by rw[← hdb,List.take_take,Nat.min_eq_left (by omega)])
 have hSl : Rd (w10.drewN m3) (some ⟨b, o + (dl - s), none⟩) (nums .u8 (DB.drop (dl - s))) := blk_sub hB11 (o + (dl - s)) s (by rw[← hdb,List.drop_take,List.drop_drop,i6])
 have hHl : (DB.take (dl - s)).length = dl - s := by rw[List.length_take,hDl]; omega
 refine trim_k (Vw.of hHl (by omega) hHd) (by omega) fun v5 h5 => ?_
 have h5q := h5
 obtain ⟨A5, c5, rfl, hc5, hr5⟩ := h5q
 have hone := trim_one (DB.take (dl - s))
 rw[hHl] at hone
 have bad : DB.take (dl - s) ≠ List.replicate (dl - s - 1) 0 ++ [1] → K (.int .i64 112) (w10.drewN m3) := fun g => by
  rw[if_pos g] at hK
  exact hK _ fw3
 by_cases e1 : ((trimR (DB.take (dl - s))).length : Int) = 1
 rotate_left
 ·simp(disch:=omega)only[Zu,Zv,Zx,Zz,EZ,↓EP,↓reduceIte,Za,Zb,Zc,Zd,Ze,Zf,Zg,Zj,Zk,Zl,Zm,Zn,Zp,Zq,reduceCtorEq,e1]
  exact bad fun g => e1 (by rw[hone.2 g]; rfl)
 have vg := hr5.get (by rw[nums_length]; omega)
 obtain ⟨ad5, ea5, _, hcl5⟩ := vg
 subst ea5
 have c50 : (w10.drewN m3).cell? (ad5.add 0) = some (.int .u8 (at' (trimR (DB.take (dl - s))) 0)) := hcl5.numN (j := 0) (by omega)
 by_cases e2 : at' (trimR (DB.take (dl - s))) 0 = 1
 rotate_left
 ·simp(disch:=omega)only[Zu,Zv,Zx,Zz,EZ,↓EP,↓reduceIte,Za,Zb,Zc,Zd,Ze,Zf,Zg,Zj,Zk,Zl,Zm,Zn,Zp,Zq,reduceCtorEq,e1,c50,e2]
  exact bad fun g => e2 (by rw[hone.2 g]; rfl)
 have e3q : trimR (DB.take (dl - s)) = [1] := one_of (by omega) e2
 rw[if_neg (fun g => g (hone.1 e3q))] at hK
 clear bad
 simp(disch:=omega)only[Zu,Zv,Zx,Zz,EZ,↓EP,↓reduceIte,Za,Zb,Zc,Zd,Ze,Zf,Zg,Zj,Zk,Zl,Zm,Zn,Zp,Zq,reduceCtorEq,e1,c50,e2]
 refine al_k (nums .u8 (List.replicate 8 0)) (by kernel_rfl) fun w12 n12 => ?_
 have F12 := n12.fr nob
 simp(disch:=omega)only[Zu,Zv,Zx,Zz,EZ,↓EP,↓reduceIte,Za,Zb,Zc,Zd,Ze,Zf,Zg,Zj,Zk,Zl,Zm,Zn,Zp,Zq,reduceCtorEq,q1,q4,q19,q121,q3,i5,i6,i7,i8]
 refine bslS3 fun w13 n13 => ?_
 have F13 := F12.nb (n13.fr nob)
 have fw13 := fw3.nb F13
 have hT13 : Tb w13 := hT.fr fw13 (fun x => x) (fun x => x)
 have L13 : LL w13 (some ⟨w12.heap.size, 0, none⟩) [List.replicate 8 0, sum, DB.drop (dl - s)] [.slice (some ⟨(w10.drewN m3).heap.size, 0, none⟩) 8 8, .slice D sum.length q, .slice (some ⟨b, o + (dl - s), none⟩) s (cp - (dl - s))] :=
  ll3 (n13.blk.rd 0 (n := 3) rfl) (by simp) (by omega) (n12.rdl.nb (n13.fr nob)) rfl hq (ht.nb fw13) (by rw[List.length_drop,hDl]; exact i6) (by omega) (hSl.nb F13)
 simp(disch:=omega)only[Zu,Zv,Zx,Zz,EZ,↓EP,↓reduceIte,Za,Zb,Zc,Zd,Ze,Zf,Zg,Zj,Zk,Zl,Zm,Zn,Zp,Zq,reduceCtorEq,q1]
 have ha14 := alg_14 (alg := alg) (by omega)
 refine dsum_spec alg (l := [List.replicate 8 0, sum, DB.drop (dl - s)]) L13 hT13 (by simp[total]; omega) (by simp) _ (fun _ _ B6 c6 w6 hc6 s6 u6 f6 => ?_) (fun h => absurd h (by omega))
 simp(disch:=omega)only[Zu,Zv,Zx,Zz,EZ,↓EP,↓reduceIte,Za,Zb,Zc,Zd,Ze,Zf,Zg,Zj,Zk,Zl,Zm,Zn,Zp,Zq,reduceCtorEq,q20]
 have fw6 := fw13.nb f6
 have hfl : [List.replicate 8 0, sum, DB.drop (dl - s)].flatten = List.replicate 8 0 ++ sum ++ DB.drop (dl - s) := by simp
 rw[hfl] at s6
 have hRt2 : Rd w6 (some ⟨b, o + dl, none⟩) (nums .u8 top) := (blk_sub hB11 (o + dl) sum.length hrs).nb (F13.nb f6)
 have V1 := s6.vw
 have V2 : Vw .u8 w6 (.slice (some ⟨b, o + dl, none⟩) sum.length (cp - dl)) top := Vw.of htl (by omega) hRt2
 have hbd := dig_byt alg (List.replicate 8 0 ++ sum ++ DB.drop (dl - s))
 refine equal_k V1 V2 hbd htb ?_
 simp(disch:=omega)only[Zu,Zv,Zx,Zz,EZ,↓EP,↓reduceIte,Za,Zb,Zc,Zd,Ze,Zf,Zg,Zj,Zk,Zl,Zm,Zn,Zp,Zq,reduceCtorEq]
 exact pick_k (hK _ fw6)
end Go.Proofs.YtcgplgpdcfocpaaGreatDoor.Der
end
section
namespace Go.Proofs.YtcgplgpdcfocpaaGreatDoor.Der
open Go Go.RowKit Go.Proofs Go.Proofs.YtcgplgpdcfocpaaGreatDoor.Eng Go.Proofs.YtcgplgpdcfocpaaGreatDoor.Code
attribute [local irreducible] callK S.W opsW scrW scrT
open Go.Proofs.YtcgplgpdcfocpaaGreatDoor.Spec Go.Proofs.YtcgplgpdcfocpaaGreatDoor.Big
attribute [local irreducible] checkR sizeK rawR padR
end Go.Proofs.YtcgplgpdcfocpaaGreatDoor.Der
end
section
namespace Go.Proofs.YtcgplgpdcfocpaaGreatDoor.Der
open Go Go.RowKit Go.Proofs Go.Proofs.YtcgplgpdcfocpaaGreatDoor.Eng Go.Proofs.YtcgplgpdcfocpaaGreatDoor.Code
attribute [local irreducible] callK S.W opsW scrW scrT
open Go.Proofs.YtcgplgpdcfocpaaGreatDoor.Spec Go.Proofs.YtcgplgpdcfocpaaGreatDoor.Big
attribute [local irreducible] checkR sizeK rawR padR dig sigP
theorem dig_l {alg : Int} (h : sizeI alg ≠ 0) (m : List Int) : ((dig alg m).length : Int) = sizeI alg ∧ (dig alg m).length ≤ 64 := by
 obtain ⟨a1, a4⟩ := alg_14 h
 have := mk_size a1 a4
 have := dig_len a1 a4 m
 omega
end Go.Proofs.YtcgplgpdcfocpaaGreatDoor.Der
end
section
namespace Go.Proofs.YtcgplgpdcfocpaaGreatDoor.Der
open Go Go.RowKit Go.Proofs Go.Proofs.YtcgplgpdcfocpaaGreatDoor.Eng Go.Proofs.YtcgplgpdcfocpaaGreatDoor.Code
attribute [local irreducible] callK S.W opsW scrW scrT
open Go.Proofs.YtcgplgpdcfocpaaGreatDoor.Spec Go.Proofs.YtcgplgpdcfocpaaGreatDoor.Big
attribute [local irreducible] checkR sizeK rawR padR dig signpR sigP saltM pssR
theorem signp_no {i alg mask : Int} {N E D salt a : List Int} {n k : Nat} (kn : KnOf i N E D n k) (h : signpR N D k alg mask salt a ≠ []) : (sizeI mask ≠ 0 ∧ sizeI alg ≠ 0 ∧ (a.length : Int) = sizeI alg ∧ a.length + salt.length + 2 ≤ k) ∧ signpR N D k alg mask salt a = sigP N D k (saltM k alg mask salt a) := by
 unfold signpR at h ⊢
 by_cases e : sizeI mask = 0 ∨ sizeI alg = 0 ∨ (a.length : Int) ≠ sizeI alg ∨ k < a.length + salt.length + 2
 ·rw[if_pos e] at h
  exact absurd rfl h
 ·rw[if_neg e]
  exact ⟨by omega, rfl⟩
theorem signp_byt (N D : List Int) (k : Nat) (alg mask : Int) (salt a : List Int) : Byt (signpR N D k alg mask salt a) ∧ (signpR N D k alg mask salt a).length ≤ k := by
 unfold signpR
 by_cases e : sizeI mask = 0 ∨ sizeI alg = 0 ∨ (a.length : Int) ≠ sizeI alg ∨ k < a.length + salt.length + 2
 ·rw[if_pos e]
  exact ⟨fun x hx => absurd hx (by simp), Nat.zero_le _⟩
 ·rw[if_neg e]
  exact ⟨sgn_byt _ _ _ _, Nat.le_of_eq (sgn_len _ _ _ _)⟩
theorem salted_eq {i alg mask other : Int} {N E D salt a : List Int} {n k : Nat} (kn : KnOf i N E D n k) (hb : Byt salt) (h : signpR N D k alg mask salt a ≠ []) (ho : 0 ≤ other) : pssR N E alg mask other a (signpR N D k alg mask salt a) = if other = (salt.length : Int) then 0 else 112 := by
 obtain ⟨⟨h1, h2, h3, h4⟩, e⟩ := signp_no kn h
 rw[e]
 exact pss_salted kn.key h2 h1 h3 hb h4 ho
theorem dig_64 (alg : Int) (m : List Int) : (dig alg m).length ≤ 64 := by
 by_cases h : sizeI alg = 0
 ·rw[dig_no h]
  exact Nat.zero_le _
 ·exact (dig_l h m).2
set_option maxHeartbeats 8000000 in
theorem salted_k {w : World} (hT : Tb w) {v v2 : Value} {i alg mask other : Int} {salt text : List Int} (hi : 0 ≤ i ∧ i < 256) (hv : Vw .u8 w v salt) (hb : Byt salt) (hv2 : Vw .u8 w v2 text) (hb2 : Byt text) (hot : -9223372036854775808 ≤ other ∧ other ≤ 9223372036854775807) {K : Value → World → Prop} (hK : ∀ w', Fr w w' nob → K (.bool true) w') : callK Tryz.prog 7 [.int .u8 i, .int .i64 alg, .int .i64 mask, v, v2, .int .i64 other] w K := by
 refine call_of Tryz.func7 Code.h7 (by simp[Code.c7]) ?_
 have qk := kn_all (i := i % 3) (by omega)
 obtain ⟨N, E, D, n, k, kn⟩ := qk
 have hv0 := hv
 have hv20 := hv2
 obtain ⟨A, c, rfl, hc, hr⟩ := hv0
 obtain ⟨B, d, rfl, hd, hs⟩ := hv20
 have Ky := kn.key
 have nN : N.length ≤ 4194304 := Nat.le_trans Ky.nN (by decide)
 have nE : E.length ≤ 4194304 := Nat.le_trans Ky.nE (by decide)
 simp(disch:=omega)only[Zu,Zv,Zx,Zz,EZ,↓EP,↓reduceIte,Za,Zb,Zc,Zd,Ze,Zf,Zg,Zj,Zk,Zl,Zm,Zn,Zp,Zq,reduceCtorEq,Code.c7]
 by_cases h1 : (8192 : Int) < (text.length : Int)
 ·simp(disch:=omega)only[Zu,Zv,Zx,Zz,EZ,↓EP,↓reduceIte,Za,Zb,Zc,Zd,Ze,Zf,Zg,Zj,Zk,Zl,Zm,Zn,Zp,Zq,reduceCtorEq,h1]
  refine live8_k hT fun w2 f2 => ?_
  simp(disch:=omega)only[Zu,Zv,Zx,Zz,EZ,↓EP,↓reduceIte,Za,Zb,Zc,Zd,Ze,Zf,Zg,Zj,Zk,Zl,Zm,Zn,Zp,Zq,reduceCtorEq]
  exact hK _ f2
 by_cases h2 : (200 : Int) < (salt.length : Int)
 ·simp(disch:=omega)only[Zu,Zv,Zx,Zz,EZ,↓EP,↓reduceIte,Za,Zb,Zc,Zd,Ze,Zf,Zg,Zj,Zk,Zl,Zm,Zn,Zp,Zq,reduceCtorEq,h1,h2]
  refine live8_k hT fun w2 f2 => ?_
  simp(disch:=omega)only[Zu,Zv,Zx,Zz,EZ,↓EP,↓reduceIte,Za,Zb,Zc,Zd,Ze,Zf,Zg,Zj,Zk,Zl,Zm,Zn,Zp,Zq,reduceCtorEq]
  exact hK _ f2
 by_cases h3 : other < 0
 ·simp(disch:=omega)only[Zu,Zv,Zx,Zz,EZ,↓EP,↓reduceIte,Za,Zb,Zc,Zd,Ze,Zf,Zg,Zj,Zk,Zl,Zm,Zn,Zp,Zq,reduceCtorEq,h1,h2,h3]
  refine live8_k hT fun w2 f2 => ?_
  simp(disch:=omega)only[Zu,Zv,Zx,Zz,EZ,↓EP,↓reduceIte,Za,Zb,Zc,Zd,Ze,Zf,Zg,Zj,Zk,Zl,Zm,Zn,Zp,Zq,reduceCtorEq]
  exact hK _ f2
 have d1 := dig_64 alg text
 have sb := signp_byt N D k alg mask salt (dig alg text)
 have hk := Ky.small
 simp(disch:=omega)only[Zu,Zv,Zx,Zz,EZ,↓EP,↓reduceIte,Za,Zb,Zc,Zd,Ze,Zf,Zg,Zj,Zk,Zl,Zm,Zn,Zp,Zq,reduceCtorEq,h1,h2,h3]
 refine kn.run fun A1 B1 C1 w1 hA hB hC f1 => ?_
 simp(disch:=omega)only[Zu,Zv,Zx,Zz,EZ,↓EP,↓reduceIte,Za,Zb,Zc,Zd,Ze,Zf,Zg,Zj,Zk,Zl,Zm,Zn,Zp,Zq,reduceCtorEq]
 refine al_k [.slice none 0 0, .slice none 0 0] rfl fun w2 n2 => ?_
 simp(disch:=omega)only[Zu,Zv,Zx,Zz,EZ,↓EP,↓reduceIte,Za,Zb,Zc,Zd,Ze,Zf,Zg,Zj,Zk,Zl,Zm,Zn,Zp,Zq,reduceCtorEq]
 refine st_whole (cs := [.slice A1 n n, .slice B1 1 1]) n2.blk rfl rfl (by simp; exact ⟨rfl, rfl⟩) fun w3 p3 => ?_
 have hz2 := n2.size
 have f13 : Fr w1 w3 nob := (n2.fr nob).trans p3.fr fun x hx e => by omega
 have f03 := f1.nb f13
 have hN : Vw .u32 w3 (.slice A1 n n) N := Vw.of kn.lN (Nat.le_refl n) (hA.nb f13)
 have hE : Vw .u32 w3 (.slice B1 1 1) E := Vw.of kn.lE (Nat.le_refl 1) (hB.nb f13)
 simp(disch:=omega)only[Zu,Zv,Zx,Zz,EZ,↓EP,↓reduceIte,Za,Zb,Zc,Zd,Ze,Zf,Zg,Zj,Zk,Zl,Zm,Zn,Zp,Zq,reduceCtorEq]
 refine rdigest_all (hv2.nb f03) (by omega) hb2 _ fun v4 w4 g4 => ?_
 obtain ⟨A4, c4, rfl, hc4, hr4, _⟩ := g4.sl.read
 simp(disch:=omega)only[Zu,Zv,Zx,Zz,EZ,↓EP,↓reduceIte,Za,Zb,Zc,Zd,Ze,Zf,Zg,Zj,Zk,Zl,Zm,Zn,Zp,Zq,reduceCtorEq]
 refine signp_k kn (hv.nb (f03.nb g4.fr)) hb (by omega) g4.vw (dig_byt _ _) (by omega) fun v6 w6 g6 => ?_
 obtain ⟨A6, c6, rfl, hc6, hr6, _⟩ := g6.sl.read
 have f36 := g4.fr.nb g6.fr
 have f06 := f03.nb f36
 by_cases h4 : signpR N D k alg mask salt (dig alg text) = []
 ·simp(disch:=omega)only[Zu,Zv,Zx,Zz,EZ,↓EP,↓reduceIte,Za,Zb,Zc,Zd,Ze,Zf,Zg,Zj,Zk,Zl,Zm,Zn,Zp,Zq,reduceCtorEq,h4,List.length_nil]
  refine live8_k (hT.fr f06 (fun x => x) (fun x => x)) fun w7 f7 => ?_
  simp(disch:=omega)only[Zu,Zv,Zx,Zz,EZ,↓EP,↓reduceIte,Za,Zb,Zc,Zd,Ze,Zf,Zg,Zj,Zk,Zl,Zm,Zn,Zp,Zq,reduceCtorEq]
  exact hK _ (f06.nb f7)
 have h5 : ¬ ((signpR N D k alg mask salt (dig alg text)).length : Int) = 0 := fun x => h4 (List.length_eq_zero_iff.1 (by omega))
 have e1 : pssR N E alg mask (salt.length : Int) (dig alg text) (signpR N D k alg mask salt (dig alg text)) = 0 := by
  rw[salted_eq kn hb h4 (by omega),if_pos rfl]
 have e2 : decide (pssR N E alg mask other (dig alg text) (signpR N D k alg mask salt (dig alg text)) = 0) = decide (other = (salt.length : Int)) := by
  rw[salted_eq kn hb h4 (by omega)]
  by_cases hab : other = (salt.length : Int)
  ·rw[if_pos hab,decide_eq_true hab]
   rfl
  ·rw[if_neg hab]
   exact (decide_eq_false (by decide)).trans (decide_eq_false hab).symm
 have e3 := decide_eq_true e2
 simp(disch:=omega)only[Zu,Zv,Zx,Zz,EZ,↓EP,↓reduceIte,Za,Zb,Zc,Zd,Ze,Zf,Zg,Zj,Zk,Zl,Zm,Zn,Zp,Zq,reduceCtorEq,h5]
 refine (p3.blk.nb f36).ldAgg rfl ?_
 simp(disch:=omega)only[Zu,Zv,Zx,Zz,EZ,↓EP,↓reduceIte,Za,Zb,Zc,Zd,Ze,Zf,Zg,Zj,Zk,Zl,Zm,Zn,Zp,Zq,reduceCtorEq]
 refine vpss_k (hT.fr f06 (fun x => x) (fun x => x)) (hN.nb f36) (hE.nb f36) Ky.lN kn.limE nN nE (by omega) (g4.vw.nb g6.fr) (dig_byt _ _) (by omega) g6.vw sb.1 (by omega) fun w7 f7 => ?_
 simp(disch:=omega)only[Zu,Zv,Zx,Zz,EZ,↓EP,↓reduceIte,Za,Zb,Zc,Zd,Ze,Zf,Zg,Zj,Zk,Zl,Zm,Zn,Zp,Zq,reduceCtorEq]
 refine num8_k ?_
 simp(disch:=omega)only[Zu,Zv,Zx,Zz,EZ,↓EP,↓reduceIte,Za,Zb,Zc,Zd,Ze,Zf,Zg,Zj,Zk,Zl,Zm,Zn,Zp,Zq,reduceCtorEq,e1]
 have f37 := f36.nb f7
 refine (p3.blk.nb f37).ldAgg rfl ?_
 simp(disch:=omega)only[Zu,Zv,Zx,Zz,EZ,↓EP,↓reduceIte,Za,Zb,Zc,Zd,Ze,Zf,Zg,Zj,Zk,Zl,Zm,Zn,Zp,Zq,reduceCtorEq]
 refine vpss_k (hT.fr (f06.nb f7) (fun x => x) (fun x => x)) (hN.nb f37) (hE.nb f37) Ky.lN kn.limE nN nE hot (g4.vw.nb (g6.fr.nb f7)) (dig_byt _ _) (by omega) (g6.vw.nb f7) sb.1 (by omega) fun w8 f8 => ?_
 simp(disch:=omega)only[Zu,Zv,Zx,Zz,EZ,↓EP,↓reduceIte,Za,Zb,Zc,Zd,Ze,Zf,Zg,Zj,Zk,Zl,Zm,Zn,Zp,Zq,reduceCtorEq]
 refine num8_k ?_
 simp(disch:=omega)only[Zu,Zv,Zx,Zz,EZ,↓EP,↓reduceIte,Za,Zb,Zc,Zd,Ze,Zf,Zg,Zj,Zk,Zl,Zm,Zn,Zp,Zq,reduceCtorEq,e3]
 have f08 := f03.nb (f37.nb f8)
 refine live8_k (hT.fr f08 (fun x => x) (fun x => x)) fun w10 f10 => ?_
 simp(disch:=omega)only[Zu,Zv,Zx,Zz,EZ,↓EP,↓reduceIte,Za,Zb,Zc,Zd,Ze,Zf,Zg,Zj,Zk,Zl,Zm,Zn,Zp,Zq,reduceCtorEq,if_pos e2]
 exact hK _ (f08.nb f10)
end Go.Proofs.YtcgplgpdcfocpaaGreatDoor.Der
end
section
namespace Go.Proofs.YtcgplgpdcfocpaaGreatDoor
open Go
theorem stand_of {P : Program} {fn : Func} (h : (fn.params.toList.all fun t => !P.wantsStandIn t) = true) : ∀ (j : Nat) t, fn.params[j]? = some t → P.wantsStandIn t = false := by
 intro j t hj
 have := List.all_eq_true.1 h t (by rw[Array.mem_toList_iff]; exact Array.mem_of_getElem? hj)
 simpa using this
open Go Go.ChangeShapes Go.WideShapes Go.ChangeAt Go.WideMaps Go.WideElems Go.RowKit Go.Proofs.YtcgplgpdcfocpaaGreatDoor.Eng Go.Proofs.YtcgplgpdcfocpaaGreatDoor.Der
theorem trodAll_six {H : Type} {enc : TypeId × Value → H} {P : Program} {w : World} {base : Nat} {spare : Nat → Bool} {held : Bool} {t0 t1 t2 t3 t4 t5 : TypeId} {args : Array Value} {ds : List (DataW H)} {ps : List MemPlace} (h : DataW.TrodAll enc P w base spare held [t0, t1, t2, t3, t4, t5] args.toList ds ps) :
  ∃ v0 v1 v2 v3 v4 v5 d0 d1 d2 d3 d4 d5 p0 p1 p2 p3 p4 p5, args = #[v0, v1, v2, v3, v4, v5] ∧ ds = [d0, d1, d2, d3, d4, d5] ∧ ps = p0 ++ (p1 ++ (p2 ++ (p3 ++ (p4 ++ p5)))) ∧ DataW.Trod enc P w base spare held t0 v0 d0 p0 ∧ DataW.Trod enc P w base spare held t1 v1 d1 p1 ∧ DataW.Trod enc P w base spare held t2 v2 d2 p2 ∧ DataW.Trod enc P w base spare held t3 v3 d3 p3 ∧ DataW.Trod enc P w base spare held t4 v4 d4 p4 ∧ DataW.Trod enc P w base spare held t5 v5 d5 p5 := by
 obtain ⟨v0, vs0, d0, ds0, p0, q0, hargs, rfl, rfl, h0, r0⟩ := trodAll_cons h
 obtain ⟨v1, vs1, d1, ds1, p1, q1, rfl, rfl, rfl, h1, r1⟩ := trodAll_cons r0
 obtain ⟨v2, vs2, d2, ds2, p2, q2, rfl, rfl, rfl, h2, r2⟩ := trodAll_cons r1
 obtain ⟨v3, vs3, d3, ds3, p3, q3, rfl, rfl, rfl, h3, r3⟩ := trodAll_cons r2
 obtain ⟨v4, vs4, d4, ds4, p4, q4, rfl, rfl, rfl, h4, r4⟩ := trodAll_cons r3
 obtain ⟨v5, vs5, d5, ds5, p5, q5, rfl, rfl, rfl, h5, r5⟩ := trodAll_cons r4
 obtain ⟨rfl, rfl, rfl⟩ := trodAll_nil r5
 exact ⟨v0, v1, v2, v3, v4, v5, d0, d1, d2, d3, d4, d5, p0, p1, p2, p3, p4, p5, by cases args; simp_all, rfl, by simp, h0, h1, h2, h3, h4, h5⟩
theorem rsaSalted_walk {H : Type} {enc : TypeId × Value → H} (W : World) (base : Nat) (args : Array Value) (ds : List (DataW H)) (p : List MemPlace) (hA0 : DataW.TrodAll enc Tryz.prog W 0 (fun _ => true) true Tryz.f7.params.toList args.toList ds p)
  (hval : ∀ (j : Nat) t v, Tryz.f7.params[j]? = some t → args[j]? = some v → Value.okWide Tryz.prog W .any base t v) (hz : (DataW.weightsEach Tryz.prog Tryz.f7.params.toList ds).all (· ≤ reachBytes) = true) (hL : laidMetH Tryz.prog laid2 W) :
  callK Tryz.prog 7 args.toList W fun v w' => v = .bool true ∧ Fr W w' nob := by
 have hA : DataW.TrodAll enc Tryz.prog W 0 (fun _ => true) true Tryz.f7.params.toList args.toList ds p := hA0
 rw[Tryz.params7] at hA hval
 obtain ⟨v0, v1, v2, v3, v4, v5, d0, d1, d2, d3, d4, d5, p0, p1, p2, p3, p4, p5, rfl, rfl, rfl, h0, h1, h2, h3, h4, h5⟩ := trodAll_six hA
 obtain ⟨n0, rfl, -, -, w0⟩ := open_int Tryz.underlying5 (hval 0 5 v0 rfl rfl) h0
 obtain ⟨n1, rfl, -, -, w1⟩ := open_int Tryz.underlying3 (hval 1 3 v1 rfl rfl) h1
 obtain ⟨n2, rfl, -, -, w2⟩ := open_int Tryz.underlying3 (hval 2 3 v2 rfl rfl) h2
 obtain ⟨Ab, cb, lb, mb, rfl, hcb, h63b, -, hlb, hwb⟩ := Row.open_sl Tryz.underlying25 Tryz.underlying5 cells_u8 (hval 3 25 v3 rfl rfl) h3
 obtain ⟨Ac, cc, lc, mc, rfl, hcc, h63c, -, hlc, hwc⟩ := Row.open_sl Tryz.underlying25 Tryz.underlying5 cells_u8 (hval 4 25 v4 rfl rfl) h4
 obtain ⟨n5, rfl, -, -, w5⟩ := open_int Tryz.underlying3 (hval 5 3 v5 rfl rfl) h5
 exact salted_k (of_laid hL) (Row.wf_u8 w0) ⟨Ab, cb, rfl, hcb, hlb⟩ (byte_of hwb) ⟨Ac, cc, rfl, hcc, hlc⟩ (byte_of hwc) (Row.wf_i64 w5) fun w' f => ⟨rfl, f⟩
theorem rsaSalted_lifted (os : Os) (started : os.Started) (H : Type) (enc : TypeId × Value → H) :
  ReturnsInHanded {} Tryz.checked os 7 .any (fun w args => (Rows.rsaSaltedSpec.pre enc Tryz.prog Tryz.f7 [] false w args ∧ laidMetH Tryz.prog laid2 w) ∧ sizedMet enc Tryz.prog Tryz.f7 (OpenSpec.ofChange Rows.rsaSaltedSpec) false w args)
   (Rows.rsaSaltedSpec.post enc Tryz.prog Tryz.f7 false true false false) :=
 Row.lifted_of (C := Tryz.checked) (X := fun w _ => laidMetH Tryz.prog laid2 w) (fun _ _ _ hh h => h.of_heap hh) own started (by kernel_rfl) Tryz.func7
  (ChangeSpec.witness_shaped (enc := enc) (C := Tryz.checked) (os := os) (X := fun w _ => laidMetH Tryz.prog laid2 w) false (World.laidAll Tryz.prog os laid2) #[.int .u8 0, .int .i64 0, .int .i64 0, .slice none 0 0, .slice none 0 0, .int .i64 0] 8 (World.laidAll_os _ _ _) (lay_shaped os) (by kernel_rfl) (by kernel_rfl) (by kernel_rfl) (door_met os _))
  laidOut (tb := 4) (by kernel_rfl) Tryz.underlying4 rfl (of_decide_eq_true (by kernel_rfl)) (fun ds h => by rw[show Tryz.f7.params.size = 6 by kernel_rfl] at h; obtain ⟨a, b, c, d, e, f, rfl⟩ := Row.len6 h; exact ⟨rfl, rfl, rfl⟩)
  (fun W base args ds p hA hval hz hL => rsaSalted_walk (enc := enc) W base args ds p hA hval hz hL)
theorem rsaSalted_holds : Rows.RsaSaltedSaid :=
 OpenClaim.holds_of_wide 7 Tryz.f7 rfl rfl rfl rfl rfl rfl rfl ⟨rfl, rfl, rfl, rfl, rfl⟩ rfl rfl rfl rfl rfl (by kernel_rfl) Tryz.func7 (by kernel_rfl)
  (of_decide_eq_true (by kernel_rfl)) (by unfold Func.isWrapper; first | (rw[if_pos (by decide +kernel)]; kernel_rfl) | (rw[if_neg (by decide +kernel)]; exact ⟨rfl, rfl⟩))
  (fun os started H enc _ => rsaSalted_lifted os started H enc)
theorem rsaSalted_card : Rows.RsaSaltedCardSaid :=
 Claim7.holds_tied_plain_at .later [] [.data, .data, .data, .pinned] true (true, "ed0f270b3f953eab1ddec2cd987d6191db15485d6d846c111d670dab35a1f37a") false
  rsaSalted_holds (fun _ h => by cases h) (by kernel_rfl) (fun _ h => by cases h) rsaSalted_row_tie rfl ⟨rfl, rfl⟩ (by kernel_rfl) rfl
  (fun f fn hf hfn => by
   obtain rfl : f = 7 := Option.some.inj ((show Tryz.prog.funcNamed "chirograph/chirographlaw08.RsaSalted" = some 7 by kernel_rfl).symm.trans hf) |>.symm
   obtain rfl : fn = Tryz.f7 := (Option.some.inj (Tryz.func7.symm.trans hfn)).symm
   exact ⟨by kernel_rfl, stand_of (by kernel_rfl)⟩)
  (by kernel_rfl)
end Go.Proofs.YtcgplgpdcfocpaaGreatDoor
end
