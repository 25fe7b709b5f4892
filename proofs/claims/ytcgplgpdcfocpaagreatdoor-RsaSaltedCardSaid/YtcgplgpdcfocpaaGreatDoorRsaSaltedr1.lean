/- RsaSalted: what is used, in one text. -/
import Derived.Test.YtcgplgpdcfocpaaGreatDoorRows
import Derived.ProofKit
import Derived.LaidMore
import Derived.OpenShut
import Derived.Carry
import Derived.ChangeMaps5
import Derived.ChangeCalls
import Derived.Stop.Joined
import Derived.SizedLaws
import Derived.Test.YtcgplgpdcfocpaaGreatDoorRsaSaltedr0
set_option linter.unusedVariables false
set_option linter.unusedSimpArgs false
set_option maxRecDepth 100000
open Int renaming reduceAdd → Za, reduceEq → Zb, reduceLE → Zc, reduceLT → Zd, reduceMul → Ze, reduceNeg → Zf, reducePow → Zg, reduceSub → Zj, reduceToNat → Zk
open Nat renaming reduceAdd → Zl, reduceEqDiff → Zm, reduceLT → Zn, reduceLeDiff → Zp, reduceMul → Zq
section
namespace Go.Proofs.YtcgplgpdcfocpaaGreatDoor.Spec
open Go Go.RowKit Go.Proofs Go.Proofs.YtcgplgpdcfocpaaGreatDoor.Eng Go.Proofs.YtcgplgpdcfocpaaGreatDoor.Code Go.Proofs.YtcgplgpdcfocpaaGreatDoor.Big
attribute [local irreducible] callK S.W opsW scrW
theorem dtake_same {a b : List Int} {k : Nat} : ∀ {n : Nat}, k ≤ n → (∀ j : Nat, k ≤ j → j < n → at' a j = at' b j) → Dg.val (a.take n) - Dg.val (b.take n) = Dg.val (a.take k) - Dg.val (b.take k)
 | 0, h, _ => by obtain rfl : k = 0 := by omega
                 rfl
 | n + 1, h, hs => by
  by_cases hk : k = n + 1
  ·subst hk; rfl
  ·have ih := dtake_same (n := n) (a := a) (b := b) (k := k) (by omega) fun j h1 h2 => hs j h1 (by omega)
   rw[Dg.val_take_succ',Dg.val_take_succ',hs n (by omega) (by omega)]
   omega
theorem dval_same {a b : List Int} (h : ∀ j : Nat, at' a j = at' b j) : Dg.val a = Dg.val b := by
 have := dtake_same (a := a) (b := b) (k := 0) (n := max a.length b.length) (Nat.zero_le _) fun j _ _ => h j
 rw[Dg.val_take_all (by omega),Dg.val_take_all (by omega)] at this
 simp[Dg.val_nil] at this
 omega
theorem dval_lt {a b : List Int} (ha : Dg.Lim a) (hb : Dg.Lim b) {k : Nat} (h : ∀ j : Nat, k < j → at' a j = at' b j) (hlt : at' a k < at' b k) : Dg.val a < Dg.val b := by
 have := dtake_same (a := a) (b := b) (k := k + 1) (n := max (max a.length b.length) (k + 1)) (by omega) fun j h1 _ => h j (by omega)
 rw[Dg.val_take_all (by omega),Dg.val_take_all (by omega),Dg.val_take_succ',Dg.val_take_succ'] at this
 have h1 := (Dg.val_bd (ha.take k)).2
 have h2 := (Dg.val_bd (hb.take k)).1
 have hle := Dg.pw_le (show (a.take k).length ≤ k by simp; omega)
 have h3 := mul_r (show at' a k + 1 ≤ at' b k by omega) (show 0 ≤ Dg.pw k by have := Dg.pw_pos k; omega)
 rw[Int.add_mul,Int.one_mul] at h3
 omega
theorem digit_nat {w : World} {va : Value} {l : List Int} (ha : Vw .u64 w va l) (h : l.length ≤ 4611686018427387904) (i : Nat) (hi : i ≤ 4611686018427387904) (K : Value → World → Prop)
  (hK : K (.int .u64 (at' l i)) w) : callK Tryz.prog 92 [va, .int .i64 i] w K := by
 obtain ⟨A, c, rfl, hc, hr⟩ := ha
 refine call_of Tryz.func92 Code.h92 (by simp[Code.c92]) ?_
 by_cases h1 : (i : Int) < (l.length : Int)
 ·obtain ⟨p, rfl, _, hp⟩ := hr.get (by rw[nums_length]; omega)
  have cp := hp.numN (j := i) (by omega)
  simp(disch:=omega)only[EZ,↓EP,↓reduceIte,Za,Zb,Zc,Zd,Ze,Zf,Zg,Zj,Zk,Zl,Zm,Zn,Zp,Zq,reduceCtorEq,Code.c92,cp]
  exact hK
 ·rw[at_ge (by omega)] at hK
  simp(disch:=omega)only[EZ,↓EP,↓reduceIte,Za,Zb,Zc,Zd,Ze,Zf,Zg,Zj,Zk,Zl,Zm,Zn,Zp,Zq,reduceCtorEq,Code.c92]
  exact hK
theorem digit_neg {w : World} {va : Value} {l : List Int} (ha : Vw .u64 w va l) (i : Int) (hi : i < 0) (K : Value → World → Prop)
  (hK : K (.int .u64 0) w) : callK Tryz.prog 92 [va, .int .i64 i] w K := by
 obtain ⟨A, c, rfl, hc, hr⟩ := ha
 refine call_of Tryz.func92 Code.h92 (by simp[Code.c92]) ?_
 simp(disch:=omega)only[EZ,↓EP,↓reduceIte,Za,Zb,Zc,Zd,Ze,Zf,Zg,Zj,Zk,Zl,Zm,Zn,Zp,Zq,reduceCtorEq,Code.c92]
 exact hK
theorem digit_q {w : World} {va : Value} {l : List Int} (ha : Vw .u64 w va l) (h : l.length ≤ 4611686018427387904) (i : Nat) (hi : i ≤ 4611686018427387904) (K : Value → Prop)
  (hK : K (.int .u64 (at' l i))) : qcallK Tryz.prog 92 [va, .int .i64 i] w K :=
 ⟨_, fun n => digit_nat (ha.nb (Fr.drewN w n nob)) h i hi _ ⟨rfl, n, rfl⟩, hK⟩
set_option maxHeartbeats 1000000 in
theorem order_vw {w : World} {va vb : Value} {l r : List Int} (ha : Vw .u64 w va l) (hb : Vw .u64 w vb r) (hL : Dg.Lim l) (hR : Dg.Lim r) (h1 : l.length ≤ 1073741824) (h2 : r.length ≤ 1073741824) (K : Value → World → Prop)
  (hK : ∀ c, (Dg.val l < Dg.val r → c = -1) → (Dg.val l = Dg.val r → c = 0) → (Dg.val r < Dg.val l → c = 1) → K (.int .i64 c) w) : callK Tryz.prog 85 [va, vb] w K := by
 obtain ⟨A, c, ea, hc, hl⟩ := id ha
 obtain ⟨B, d, eb, hd, hr⟩ := id hb
 refine call_of Tryz.func85 Code.h85 (by simp[Code.c85]) ?_
 have qM : ∃ M : Nat, M = max l.length r.length := ⟨_, rfl⟩
 obtain ⟨M, hM⟩ := qM
 by_cases hlen : (l.length : Int) < (r.length : Int)
 all_goals
  have eM : (M : Int) = if (l.length : Int) < (r.length : Int) then (r.length : Int) else (l.length : Int) := by
   split <;> omega
  first | rw[if_pos hlen] at eM | rw[if_neg hlen] at eM
  simp(disch:=omega)only[EZ,↓EP,↓reduceIte,Za,Zb,Zc,Zd,Ze,Zf,Zg,Zj,Zk,Zl,Zm,Zn,Zp,Zq,reduceCtorEq,W_join,Code.c85,ea,eb]
  rw[← ea,← eb]
  refine loop_inv (fun t ρ w' => w' = w ∧ ρ 6 = .int .i64 ((t : Int) - 1) ∧ t ≤ M ∧ ∀ j : Nat, t ≤ j → at' l j = at' r j) M ⟨rfl, by simp(disch:=omega)only[EZ,↓EP,↓reduceIte,Za,Zb,Zc,Zd,Ze,Zf,Zg,Zj,Zk,Zl,Zm,Zn,Zp,Zq,reduceCtorEq,eM], Nat.le_refl _, fun j hj => by rw[at_ge (by omega),at_ge (by omega)]⟩ ?_
  rintro t ρ w' hf ⟨rfl, h6, ht, hs⟩ N hN
  have q0 : ρ 0 = va := by rw[hf 0 rfl]; simp(disch:=omega)only[EZ,↓EP,↓reduceIte,Za,Zb,Zc,Zd,Ze,Zf,Zg,Zj,Zk,Zl,Zm,Zn,Zp,Zq,reduceCtorEq]
  have q1 : ρ 1 = vb := by rw[hf 1 rfl]; simp(disch:=omega)only[EZ,↓EP,↓reduceIte,Za,Zb,Zc,Zd,Ze,Zf,Zg,Zj,Zk,Zl,Zm,Zn,Zp,Zq,reduceCtorEq]
  clear hf
  cases t with
  | zero =>
   simp(disch:=omega)only[EZ,↓EP,↓reduceIte,Za,Zb,Zc,Zd,Ze,Zf,Zg,Zj,Zk,Zl,Zm,Zn,Zp,Zq,reduceCtorEq,h6,Int.natCast_zero]
   have e := dval_same (a := l) (b := r) fun j => hs j (Nat.zero_le _)
   exact hK 0 (fun h => by omega) (fun _ => rfl) (fun h => by omega)
  | succ k =>
   have e1 : ((k + 1 : Nat) : Int) - 1 = (k : Int) := by omega
   rw[e1] at h6
   simp(disch:=omega)only[EZ,↓EP,↓reduceIte,Za,Zb,Zc,Zd,Ze,Zf,Zg,Zj,Zk,Zl,Zm,Zn,Zp,Zq,reduceCtorEq,h6,q0,q1]
   refine digit_nat ha (by omega) k (by omega) _ ?_
   simp(disch:=omega)only[EZ,↓EP,↓reduceIte,Za,Zb,Zc,Zd,Ze,Zf,Zg,Zj,Zk,Zl,Zm,Zn,Zp,Zq,reduceCtorEq,h6,q0,q1]
   refine digit_nat hb (by omega) k (by omega) _ ?_
   by_cases g1 : at' l k < at' r k
   ·have := dval_lt hL hR (k := k) (fun j hj => hs j (by omega)) g1
    simp(disch:=omega)only[EZ,↓EP,↓reduceIte,Za,Zb,Zc,Zd,Ze,Zf,Zg,Zj,Zk,Zl,Zm,Zn,Zp,Zq,reduceCtorEq]
    exact hK (-1) (fun _ => rfl) (fun h => by omega) (fun h => by omega)
   by_cases g2 : at' r k < at' l k
   ·have := dval_lt hR hL (k := k) (fun j hj => (hs j (by omega)).symm) g2
    simp(disch:=omega)only[EZ,↓EP,↓reduceIte,Za,Zb,Zc,Zd,Ze,Zf,Zg,Zj,Zk,Zl,Zm,Zn,Zp,Zq,reduceCtorEq]
    exact hK 1 (fun h => by omega) (fun h => by omega) (fun _ => rfl)
   simp(disch:=omega)only[EZ,↓EP,↓reduceIte,Za,Zb,Zc,Zd,Ze,Zf,Zg,Zj,Zk,Zl,Zm,Zn,Zp,Zq,reduceCtorEq,h6]
   exact hN k _ _ (by omega) ⟨rfl, by simp(disch:=omega)only[EZ,↓EP,↓reduceIte,Za,Zb,Zc,Zd,Ze,Zf,Zg,Zj,Zk,Zl,Zm,Zn,Zp,Zq,reduceCtorEq,h6], by omega, fun j hj => by
    by_cases hjk : j = k
    ·subst hjk; omega
    ·exact hs j (by omega)⟩
theorem dval_snoc (o : List Int) (x : Int) : Dg.val (o ++ [x]) = Dg.val o + x * Dg.pw o.length := by
 rw[Dg.val_app,Dg.val_one]; grind
set_option maxHeartbeats 1000000 in
theorem dsub_vw {w : World} {va vb : Value} {l r : List Int} (ha : Vw .u64 w va l) (hb : Vw .u64 w vb r) (hL : Dg.Lim l) (hR : Dg.Lim r) (h1 : l.length ≤ 1073741824) (h2 : r.length ≤ 1073741824) (hle : Dg.val r ≤ Dg.val l) (K : Value → World → Prop)
  (hK : ∀ v w', Gw .u64 w w' v (Dg.digs (Dg.val l - Dg.val r)) → K v w') : callK Tryz.prog 111 [va, vb] w K := by
 obtain ⟨A, c, ea, hc, hl⟩ := id ha
 refine call_of Tryz.func111 Code.h111 (by simp[Code.c111]) ?_
 simp(disch:=omega)only[EZ,↓EP,↓reduceIte,Za,Zb,Zc,Zd,Ze,Zf,Zg,Zj,Zk,Zl,Zm,Zn,Zp,Zq,reduceCtorEq,Code.c111]
 refine loop_inv (fun t ρ w' => ∃ (k : Nat) (v : Value) (o : List Int) (br : Int), ρ 7 = .int .i64 k ∧ k ≤ l.length ∧ t = l.length - k ∧ ρ 5 = v ∧ ρ 6 = .int .u64 br ∧ 0 ≤ br ∧ br ≤ 1 ∧ Gw .u64 w w' v o ∧ o.length = k ∧ Dg.Lim o ∧ Dg.val o - br * Dg.pw k = Dg.val (l.take k) - Dg.val (r.take k)) _
  ⟨0, _, [], 0, by simp(disch:=omega)only[EZ,↓EP,↓reduceIte,Za,Zb,Zc,Zd,Ze,Zf,Zg,Zj,Zk,Zl,Zm,Zn,Zp,Zq,reduceCtorEq], by omega, rfl, by simp(disch:=omega)only[EZ,↓EP,↓reduceIte,Za,Zb,Zc,Zd,Ze,Zf,Zg,Zj,Zk,Zl,Zm,Zn,Zp,Zq,reduceCtorEq], by simp(disch:=omega)only[EZ,↓EP,↓reduceIte,Za,Zb,Zc,Zd,Ze,Zf,Zg,Zj,Zk,Zl,Zm,Zn,Zp,Zq,reduceCtorEq], by omega, by omega, Gw.nil _ _, rfl, Dg.Lim.nil, by simp[Dg.val_nil]⟩ ?_
 rintro t ρ w' hf ⟨k, v, o, br, h7, hk, rfl, h5, h6, hb0, hb1, g, ho, hO, hv⟩ N hN
 have q0 : ρ 0 = va := by rw[hf 0 rfl]; simp(disch:=omega)only[EZ,↓EP,↓reduceIte,Za,Zb,Zc,Zd,Ze,Zf,Zg,Zj,Zk,Zl,Zm,Zn,Zp,Zq,reduceCtorEq]
 have q1 : ρ 1 = vb := by rw[hf 1 rfl]; simp(disch:=omega)only[EZ,↓EP,↓reduceIte,Za,Zb,Zc,Zd,Ze,Zf,Zg,Zj,Zk,Zl,Zm,Zn,Zp,Zq,reduceCtorEq]
 clear hf
 by_cases hkl : (k : Int) < (l.length : Int)
 ·obtain ⟨p, rfl, _, hp⟩ := (hl.nb g.fr).get (by rw[nums_length]; omega)
  have cp := hp.numN (j := k) (by omega)
  have bx := hL.at k
  have by' := hR.at k
  simp(disch:=omega)only[EZ,↓EP,↓reduceIte,Za,Zb,Zc,Zd,Ze,Zf,Zg,Zj,Zk,Zl,Zm,Zn,Zp,Zq,reduceCtorEq,h7,h5,h6,q0,q1,ea,cp]
  refine digit_q (hb.nb g.fr) (by omega) k (by omega) _ ?_
  have qT : ∃ T, T = 65536 + at' l k - at' r k - br := ⟨_, rfl⟩
  obtain ⟨T, hT⟩ := qT
  simp(disch:=omega)only[Zu,Zv,Zx,Zz,EZ,↓EP,↓reduceIte,Za,Zb,Zc,Zd,Ze,Zf,Zg,Zj,Zk,Zl,Zm,Zn,Zp,Zq,reduceCtorEq,h6,← hT]
  intro m1
  have f1 : Fr w' (w'.drewN m1) nob := Fr.drewN w' m1 nob
  refine bsl1 fun w2 n2 => ?_
  have f2 := n2.fr nob
  simp(disch:=omega)only[Zu,Zv,Zx,Zz,EZ,↓EP,↓reduceIte,Za,Zb,Zc,Zd,Ze,Zf,Zg,Zj,Zk,Zl,Zm,Zn,Zp,Zq,reduceCtorEq,h5]
  refine app_num ((g.sl.nb f1).nb f2) rfl n2.rdl (by rw[ho]; simp; omega) (by omega) fun v4 w4 a4 => ?_
  have g4 := ((g.step f1).step f2).apd a4
  simp(disch:=omega)only[Zu,Zv,Zx,Zz,EZ,↓EP,↓reduceIte,Za,Zb,Zc,Zd,Ze,Zf,Zg,Zj,Zk,Zl,Zm,Zn,Zp,Zq,reduceCtorEq,h7,← hT]
  refine hN (l.length - (k + 1)) _ _ (by omega) ⟨k + 1, v4, _, 1 - T / 65536, by simp(disch:=omega)only[EZ,↓EP,↓reduceIte,Za,Zb,Zc,Zd,Ze,Zf,Zg,Zj,Zk,Zl,Zm,Zn,Zp,Zq,reduceCtorEq,h7,Int.natCast_add], by omega, rfl, by simp(disch:=omega)only[EZ,↓EP,↓reduceIte,Za,Zb,Zc,Zd,Ze,Zf,Zg,Zj,Zk,Zl,Zm,Zn,Zp,Zq,reduceCtorEq], by simp(disch:=omega)only[Zu,Zv,Zx,Zz,EZ,↓EP,↓reduceIte,Za,Zb,Zc,Zd,Ze,Zf,Zg,Zj,Zk,Zl,Zm,Zn,Zp,Zq,reduceCtorEq,← hT], by omega, by omega, g4, by simp[ho], hO.app (Dg.Lim.mk (by omega) (by omega) Dg.Lim.nil), ?_⟩
  rw[dval_snoc,ho,Dg.val_take_succ',Dg.val_take_succ',Dg.pw_succ]
  have := Int.mul_ediv_add_emod T 65536
  grind
 ·have hk : k = l.length := by omega
  subst hk
  rw[List.take_length] at hv
  have hb4 := Dg.val_bd hO
  rw[ho] at hb4
  have hl4 := Dg.val_bd hL
  have hr4 : Dg.val (r.take l.length) ≤ Dg.val r := by
   by_cases hh : l.length ≤ r.length
   ·have h5 := Dg.val_split r hh
    have h6 := (Dg.val_bd (hR.drop l.length)).1
    have := Int.mul_nonneg (show 0 ≤ Dg.pw l.length by have := Dg.pw_pos l.length; omega) h6
    omega
   ·rw[Dg.val_take_all (by omega)]; exact Int.le_refl _
  have hr5 : Dg.val (r.take l.length) = Dg.val r := by
   by_cases hh : l.length ≤ r.length
   ·have h5 := Dg.val_split r hh
    have h6 := (Dg.val_bd (hR.drop l.length)).1
    have h7 := (Dg.val_bd (hR.take l.length)).1
    by_cases h0 : Dg.val (r.drop l.length) = 0
    ·rw[h0] at h5; omega
    ·have := mul_r (show 1 ≤ Dg.val (r.drop l.length) by omega) (show 0 ≤ Dg.pw l.length by have := Dg.pw_pos l.length; omega)
     have e3 : Dg.val (r.drop l.length) * Dg.pw l.length = Dg.pw l.length * Dg.val (r.drop l.length) := Int.mul_comm _ _
     omega
   ·rw[Dg.val_take_all (by omega)]
  have hbr : br = 0 := by
   rcases (show br = 0 ∨ br = 1 by omega) with h | h
   ·exact h
   ·rw[h] at hv; omega
  have hvo : Dg.val o = Dg.val l - Dg.val r := by rw[hbr] at hv; omega
  simp(disch:=omega)only[EZ,↓EP,↓reduceIte,Za,Zb,Zc,Zd,Ze,Zf,Zg,Zj,Zk,Zl,Zm,Zn,Zp,Zq,reduceCtorEq,h7,h5,q0,ea]
  refine plain_gw g hO (by omega) _ fun v5 g5 => ?_
  rw[hvo] at g5
  simp(disch:=omega)only[EZ,↓EP,↓reduceIte,Za,Zb,Zc,Zd,Ze,Zf,Zg,Zj,Zk,Zl,Zm,Zn,Zp,Zq,reduceCtorEq]
  exact hK v5 w' g5
set_option maxHeartbeats 1000000 in
theorem dadd_vw {w : World} {va vb : Value} {l r : List Int} (ha : Vw .u64 w va l) (hb : Vw .u64 w vb r) (hL : Dg.Lim l) (hR : Dg.Lim r) (h1 : l.length ≤ 1073741824) (h2 : r.length ≤ 1073741824) (K : Value → World → Prop)
  (hK : ∀ v w', Gw .u64 w w' v (Dg.digs (Dg.val l + Dg.val r)) → K v w') : callK Tryz.prog 87 [va, vb] w K := by
 obtain ⟨A, c, ea, hc, hl⟩ := id ha
 obtain ⟨B, d, eb, hd, hr⟩ := id hb
 have qM : ∃ M : Nat, M = max l.length r.length := ⟨_, rfl⟩
 obtain ⟨M, hM⟩ := qM
 refine call_of Tryz.func87 Code.h87 (by simp[Code.c87]) ?_
 simp(disch:=omega)only[EZ,↓EP,↓reduceIte,Za,Zb,Zc,Zd,Ze,Zf,Zg,Zj,Zk,Zl,Zm,Zn,Zp,Zq,reduceCtorEq,Code.c87]
 refine loop_inv (fun t ρ w' => ∃ (k : Nat) (v : Value) (o : List Int) (cr : Int), ρ 7 = .int .i64 k ∧ k ≤ M + 1 ∧ t = M + 1 - k ∧ ρ 5 = v ∧ ρ 6 = .int .u64 cr ∧ 0 ≤ cr ∧ cr ≤ 1 ∧ (k = M + 1 → cr = 0) ∧ Gw .u64 w w' v o ∧ o.length = k ∧ Dg.Lim o ∧ Dg.val o + cr * Dg.pw k = Dg.val (l.take k) + Dg.val (r.take k)) (M + 1)
  ⟨0, _, [], 0, by simp(disch:=omega)only[EZ,↓EP,↓reduceIte,Za,Zb,Zc,Zd,Ze,Zf,Zg,Zj,Zk,Zl,Zm,Zn,Zp,Zq,reduceCtorEq], by omega, rfl, by simp(disch:=omega)only[EZ,↓EP,↓reduceIte,Za,Zb,Zc,Zd,Ze,Zf,Zg,Zj,Zk,Zl,Zm,Zn,Zp,Zq,reduceCtorEq], by simp(disch:=omega)only[EZ,↓EP,↓reduceIte,Za,Zb,Zc,Zd,Ze,Zf,Zg,Zj,Zk,Zl,Zm,Zn,Zp,Zq,reduceCtorEq], by omega, by omega, fun _ => rfl, Gw.nil _ _, rfl, Dg.Lim.nil, by simp[Dg.val_nil]⟩ ?_
 rintro t ρ w' hf ⟨k, v, o, cr, h7, hk, rfl, h5, h6, hb0, hb1, hlast, g, ho, hO, hv⟩ N hN
 have q0 : ρ 0 = va := by rw[hf 0 rfl]; simp(disch:=omega)only[EZ,↓EP,↓reduceIte,Za,Zb,Zc,Zd,Ze,Zf,Zg,Zj,Zk,Zl,Zm,Zn,Zp,Zq,reduceCtorEq]
 have q1 : ρ 1 = vb := by rw[hf 1 rfl]; simp(disch:=omega)only[EZ,↓EP,↓reduceIte,Za,Zb,Zc,Zd,Ze,Zf,Zg,Zj,Zk,Zl,Zm,Zn,Zp,Zq,reduceCtorEq]
 clear hf
 have bx := hL.at k
 have by' := hR.at k
 have round : (k < l.length ∨ k < r.length ∨ 0 < cr) → k ≤ M ∧ (k + 1 = M + 1 → (at' l k + at' r k + cr) / 65536 = 0) := by
  intro h
  refine ⟨by omega, fun e => ?_⟩
  rw[at_ge (show l.length ≤ k by omega), at_ge (show r.length ≤ k by omega)]
  omega
 by_cases c1 : (k : Int) < (l.length : Int)
 ·obtain ⟨r1, r2⟩ := round (.inl (by omega))
  simp(disch:=omega)only[EZ,↓EP,↓reduceIte,Za,Zb,Zc,Zd,Ze,Zf,Zg,Zj,Zk,Zl,Zm,Zn,Zp,Zq,reduceCtorEq,h7,h5,h6,q0,q1,ea,eb]
  try rw[← ea]
  try rw[← eb]
  refine digit_nat (ha.nb g.fr) (by omega) k (by omega) _ ?_
  simp(disch:=omega)only[EZ,↓EP,↓reduceIte,Za,Zb,Zc,Zd,Ze,Zf,Zg,Zj,Zk,Zl,Zm,Zn,Zp,Zq,reduceCtorEq,h7,h6,q1]
  refine digit_nat (hb.nb g.fr) (by omega) k (by omega) _ ?_
  have qT : ∃ T, T = at' l k + at' r k + cr := ⟨_, rfl⟩
  obtain ⟨T, hT⟩ := qT
  simp(disch:=omega)only[Zu,Zv,Zx,Zz,EZ,↓EP,↓reduceIte,Za,Zb,Zc,Zd,Ze,Zf,Zg,Zj,Zk,Zl,Zm,Zn,Zp,Zq,reduceCtorEq,h5,h6,← hT]
  refine bsl1 fun w2 n2 => ?_
  have f2 := n2.fr nob
  simp(disch:=omega)only[Zu,Zv,Zx,Zz,EZ,↓EP,↓reduceIte,Za,Zb,Zc,Zd,Ze,Zf,Zg,Zj,Zk,Zl,Zm,Zn,Zp,Zq,reduceCtorEq,h5]
  refine app_num (g.sl.nb f2) rfl n2.rdl (by rw[ho]; simp; omega) (by omega) fun v4 w4 a4 => ?_
  have g4 := (g.step f2).apd a4
  simp(disch:=omega)only[Zu,Zv,Zx,Zz,EZ,↓EP,↓reduceIte,Za,Zb,Zc,Zd,Ze,Zf,Zg,Zj,Zk,Zl,Zm,Zn,Zp,Zq,reduceCtorEq,h7,← hT]
  refine hN (M + 1 - (k + 1)) _ _ (by omega) ⟨k + 1, v4, _, T / 65536, by simp(disch:=omega)only[EZ,↓EP,↓reduceIte,Za,Zb,Zc,Zd,Ze,Zf,Zg,Zj,Zk,Zl,Zm,Zn,Zp,Zq,reduceCtorEq,h7,Int.natCast_add], by omega, rfl, by simp(disch:=omega)only[EZ,↓EP,↓reduceIte,Za,Zb,Zc,Zd,Ze,Zf,Zg,Zj,Zk,Zl,Zm,Zn,Zp,Zq,reduceCtorEq], by simp(disch:=omega)only[Zu,Zv,Zx,Zz,EZ,↓EP,↓reduceIte,Za,Zb,Zc,Zd,Ze,Zf,Zg,Zj,Zk,Zl,Zm,Zn,Zp,Zq,reduceCtorEq,← hT], by omega, by omega, fun e => by rw[hT]; exact r2 e, g4, by simp[ho], hO.app (Dg.Lim.mk (by omega) (by omega) Dg.Lim.nil), ?_⟩
  rw[dval_snoc,ho,Dg.val_take_succ',Dg.val_take_succ',Dg.pw_succ]
  have := Int.mul_ediv_add_emod T 65536
  grind
 by_cases c2 : (k : Int) < (r.length : Int)
 ·obtain ⟨r1, r2⟩ := round (.inr (.inl (by omega)))
  simp(disch:=omega)only[EZ,↓EP,↓reduceIte,Za,Zb,Zc,Zd,Ze,Zf,Zg,Zj,Zk,Zl,Zm,Zn,Zp,Zq,reduceCtorEq,h7,h5,h6,q0,q1,ea,eb]
  try rw[← ea]
  try rw[← eb]
  refine digit_nat (ha.nb g.fr) (by omega) k (by omega) _ ?_
  simp(disch:=omega)only[EZ,↓EP,↓reduceIte,Za,Zb,Zc,Zd,Ze,Zf,Zg,Zj,Zk,Zl,Zm,Zn,Zp,Zq,reduceCtorEq,h7,h6,q1]
  refine digit_nat (hb.nb g.fr) (by omega) k (by omega) _ ?_
  have qT : ∃ T, T = at' l k + at' r k + cr := ⟨_, rfl⟩
  obtain ⟨T, hT⟩ := qT
  simp(disch:=omega)only[Zu,Zv,Zx,Zz,EZ,↓EP,↓reduceIte,Za,Zb,Zc,Zd,Ze,Zf,Zg,Zj,Zk,Zl,Zm,Zn,Zp,Zq,reduceCtorEq,h5,h6,← hT]
  refine bsl1 fun w2 n2 => ?_
  have f2 := n2.fr nob
  simp(disch:=omega)only[Zu,Zv,Zx,Zz,EZ,↓EP,↓reduceIte,Za,Zb,Zc,Zd,Ze,Zf,Zg,Zj,Zk,Zl,Zm,Zn,Zp,Zq,reduceCtorEq,h5]
  refine app_num (g.sl.nb f2) rfl n2.rdl (by rw[ho]; simp; omega) (by omega) fun v4 w4 a4 => ?_
  have g4 := (g.step f2).apd a4
  simp(disch:=omega)only[Zu,Zv,Zx,Zz,EZ,↓EP,↓reduceIte,Za,Zb,Zc,Zd,Ze,Zf,Zg,Zj,Zk,Zl,Zm,Zn,Zp,Zq,reduceCtorEq,h7,← hT]
  refine hN (M + 1 - (k + 1)) _ _ (by omega) ⟨k + 1, v4, _, T / 65536, by simp(disch:=omega)only[EZ,↓EP,↓reduceIte,Za,Zb,Zc,Zd,Ze,Zf,Zg,Zj,Zk,Zl,Zm,Zn,Zp,Zq,reduceCtorEq,h7,Int.natCast_add], by omega, rfl, by simp(disch:=omega)only[EZ,↓EP,↓reduceIte,Za,Zb,Zc,Zd,Ze,Zf,Zg,Zj,Zk,Zl,Zm,Zn,Zp,Zq,reduceCtorEq], by simp(disch:=omega)only[Zu,Zv,Zx,Zz,EZ,↓EP,↓reduceIte,Za,Zb,Zc,Zd,Ze,Zf,Zg,Zj,Zk,Zl,Zm,Zn,Zp,Zq,reduceCtorEq,← hT], by omega, by omega, fun e => by rw[hT]; exact r2 e, g4, by simp[ho], hO.app (Dg.Lim.mk (by omega) (by omega) Dg.Lim.nil), ?_⟩
  rw[dval_snoc,ho,Dg.val_take_succ',Dg.val_take_succ',Dg.pw_succ]
  have := Int.mul_ediv_add_emod T 65536
  grind
 by_cases c3 : 0 < cr
 ·obtain ⟨r1, r2⟩ := round (.inr (.inr c3))
  simp(disch:=omega)only[EZ,↓EP,↓reduceIte,Za,Zb,Zc,Zd,Ze,Zf,Zg,Zj,Zk,Zl,Zm,Zn,Zp,Zq,reduceCtorEq,h7,h5,h6,q0,q1,ea,eb]
  try rw[← ea]
  try rw[← eb]
  refine digit_nat (ha.nb g.fr) (by omega) k (by omega) _ ?_
  simp(disch:=omega)only[EZ,↓EP,↓reduceIte,Za,Zb,Zc,Zd,Ze,Zf,Zg,Zj,Zk,Zl,Zm,Zn,Zp,Zq,reduceCtorEq,h7,h6,q1]
  refine digit_nat (hb.nb g.fr) (by omega) k (by omega) _ ?_
  have qT : ∃ T, T = at' l k + at' r k + cr := ⟨_, rfl⟩
  obtain ⟨T, hT⟩ := qT
  simp(disch:=omega)only[Zu,Zv,Zx,Zz,EZ,↓EP,↓reduceIte,Za,Zb,Zc,Zd,Ze,Zf,Zg,Zj,Zk,Zl,Zm,Zn,Zp,Zq,reduceCtorEq,h5,h6,← hT]
  refine bsl1 fun w2 n2 => ?_
  have f2 := n2.fr nob
  simp(disch:=omega)only[Zu,Zv,Zx,Zz,EZ,↓EP,↓reduceIte,Za,Zb,Zc,Zd,Ze,Zf,Zg,Zj,Zk,Zl,Zm,Zn,Zp,Zq,reduceCtorEq,h5]
  refine app_num (g.sl.nb f2) rfl n2.rdl (by rw[ho]; simp; omega) (by omega) fun v4 w4 a4 => ?_
  have g4 := (g.step f2).apd a4
  simp(disch:=omega)only[Zu,Zv,Zx,Zz,EZ,↓EP,↓reduceIte,Za,Zb,Zc,Zd,Ze,Zf,Zg,Zj,Zk,Zl,Zm,Zn,Zp,Zq,reduceCtorEq,h7,← hT]
  refine hN (M + 1 - (k + 1)) _ _ (by omega) ⟨k + 1, v4, _, T / 65536, by simp(disch:=omega)only[EZ,↓EP,↓reduceIte,Za,Zb,Zc,Zd,Ze,Zf,Zg,Zj,Zk,Zl,Zm,Zn,Zp,Zq,reduceCtorEq,h7,Int.natCast_add], by omega, rfl, by simp(disch:=omega)only[EZ,↓EP,↓reduceIte,Za,Zb,Zc,Zd,Ze,Zf,Zg,Zj,Zk,Zl,Zm,Zn,Zp,Zq,reduceCtorEq], by simp(disch:=omega)only[Zu,Zv,Zx,Zz,EZ,↓EP,↓reduceIte,Za,Zb,Zc,Zd,Ze,Zf,Zg,Zj,Zk,Zl,Zm,Zn,Zp,Zq,reduceCtorEq,← hT], by omega, by omega, fun e => by rw[hT]; exact r2 e, g4, by simp[ho], hO.app (Dg.Lim.mk (by omega) (by omega) Dg.Lim.nil), ?_⟩
  rw[dval_snoc,ho,Dg.val_take_succ',Dg.val_take_succ',Dg.pw_succ]
  have := Int.mul_ediv_add_emod T 65536
  grind
 ·have hcr : cr = 0 := by omega
  rw[hcr,Int.zero_mul,Int.add_zero,Dg.val_take_all (by omega),Dg.val_take_all (by omega)] at hv
  simp(disch:=omega)only[EZ,↓EP,↓reduceIte,Za,Zb,Zc,Zd,Ze,Zf,Zg,Zj,Zk,Zl,Zm,Zn,Zp,Zq,reduceCtorEq,h7,h5,h6,q0,q1,ea,eb]
  refine plain_gw g hO (by omega) _ fun v5 g5 => ?_
  rw[hv] at g5
  simp(disch:=omega)only[EZ,↓EP,↓reduceIte,Za,Zb,Zc,Zd,Ze,Zf,Zg,Zj,Zk,Zl,Zm,Zn,Zp,Zq,reduceCtorEq]
  exact hK v5 w' g5
end Go.Proofs.YtcgplgpdcfocpaaGreatDoor.Spec
end
section
namespace Go.Proofs.YtcgplgpdcfocpaaGreatDoor.Big
open Go Go.Proofs.YtcgplgpdcfocpaaGreatDoor.Eng
theorem dpw_p2 (k : Nat) : Dg.pw k = 2 ^ (16 * k) := by
 induction k with
 | zero => rw[Dg.pw_zero]; rfl
 | succ k ih => rw[Dg.pw_succ, ih, show 16 * (k + 1) = 16 * k + 16 by omega, Int.pow_add]; rfl
theorem digit_bits {l : List Int} (hL : Dg.Lim l) (i r s : Nat) (hr : r + s ≤ 16) : at' l (i : Nat) / 2 ^ r % 2 ^ s = Dg.val l / 2 ^ (16 * i + r) % 2 ^ s := by
 have e1 : Dg.val l = Dg.val (l.take i) + Dg.pw i * Dg.val (l.drop i) := by
  by_cases h : i ≤ l.length
  ·exact Dg.val_split l h
  ·rw[List.take_of_length_le (by omega),List.drop_of_length_le (by omega),Dg.val_nil]; omega
 have b1 := Dg.val_bd (hL.take i)
 have e2 : Dg.val (l.drop i) = at' l (i : Nat) + 65536 * Dg.val (l.drop (i + 1)) := by
  by_cases h : i < l.length
  ·rw[List.drop_eq_getElem_cons h,Dg.val_cons,at_get h]
  ·rw[at_ge (by omega),List.drop_of_length_le (by omega),List.drop_of_length_le (by omega)]; rfl
 have bt : Dg.val (l.take i) < Dg.pw i := by
  have := Dg.pw_le (show (l.take i).length ≤ i by simp; omega)
  omega
 have hpw := Dg.pw_pos i
 have hd : Dg.val l / Dg.pw i = Dg.val (l.drop i) := by
  rw[e1,Int.add_mul_ediv_left _ _ (by omega),Int.ediv_eq_zero_of_lt b1.1 bt,Int.zero_add]
 have hp : (0 : Int) < 2 ^ r := p2_pos r
 have e3 : (2 : Int) ^ (16 * i + r) = Dg.pw i * 2 ^ r := by rw[dpw_p2,Int.pow_add]
 rw[e3,← Int.ediv_ediv_of_nonneg (by omega),hd,e2]
 have e4 : (65536 : Int) = 2 ^ r * (2 ^ s * 2 ^ (16 - r - s)) := by
  rw[← Int.pow_add, ← Int.pow_add, show r + (s + (16 - r - s)) = 16 by omega]; rfl
 rw[e4,Int.mul_assoc,Int.add_mul_ediv_left _ _ (by omega),Int.mul_assoc,Int.add_mul_emod_self_left]
def m8 : List Int → List Int
 | [] => []
 | [x] => [x]
 | x :: y :: r => (x + 256 * y) :: m8 r
theorem m8_val : ∀ (l : List Int), Dg.val (m8 l) = leb l
 | [] => rfl
 | [x] => by rw[m8,Dg.val_one,leb,leb]; omega
 | x :: y :: r => by rw[m8,Dg.val_cons,leb,leb,m8_val r]; omega
theorem m8_lim : ∀ {l : List Int}, Byt l → Dg.Lim (m8 l)
 | [], _ => Dg.Lim.nil
 | [x], h => by have := (h.cons).1; exact Dg.Lim.mk (by omega) (by omega) Dg.Lim.nil
 | x :: y :: r, h => by
  obtain ⟨hx, hr⟩ := h.cons
  obtain ⟨hy, hr⟩ := hr.cons
  exact Dg.Lim.mk (by omega) (by omega) (m8_lim hr)
theorem m8_len : ∀ (l : List Int), (m8 l).length = (l.length + 1) / 2
 | [] => by simp[m8]
 | [x] => by simp[m8]
 | x :: y :: r => by rw[m8,List.length_cons,m8_len r,List.length_cons,List.length_cons]; omega
end Go.Proofs.YtcgplgpdcfocpaaGreatDoor.Big
end
section
namespace Go.Proofs.YtcgplgpdcfocpaaGreatDoor.Spec
open Go Go.RowKit Go.Proofs Go.Proofs.YtcgplgpdcfocpaaGreatDoor.Eng Go.Proofs.YtcgplgpdcfocpaaGreatDoor.Code Go.Proofs.YtcgplgpdcfocpaaGreatDoor.Big
attribute [local irreducible] callK S.W opsW scrW
theorem and1 {x : Int} (h0 : 0 ≤ x) (h1 : x < 18446744073709551616) : bits .and .u64 x 1 = x % 2 := by
 rw[u64_and _ _ (by omega) (by omega) (by omega) (by omega)]
 have := Nat.and_two_pow_sub_one_eq_mod x.toNat 1
 rw[show (1 : Int).toNat = 2 ^ 1 - 1 by rfl, this]
 omega
set_option maxHeartbeats 1000000 in
theorem rbits_vw {w : World} {va : Value} {l : List Int} (ha : Vw .u32 w va l) (hL : Lim l) (h47 : l.length ≤ 4194304) (K : Value → World → Prop)
  (hK : ∀ w', Fr w w' nob → K (.int .i64 (bl (val l) : Int)) w') : callK Tryz.prog 41 [va] w K := by
 have b1 := (val_bd hL).1
 refine call_of Tryz.func41 Code.h41 (by simp[Code.c41]) ?_
 simp(disch:=omega)only[EZ,↓EP,↓reduceIte,Za,Zb,Zc,Zd,Ze,Zf,Zg,Zj,Zk,Zl,Zm,Zn,Zp,Zq,reduceCtorEq,Code.c41]
 refine digits_vw ha hL h47 _ fun v1 w1 g1 => ?_
 have k1 := digs_len_of b1 (n := l.length) (val_bd hL).2
 have DL := Dg.digs_lim (val l)
 have hdv := Dg.digs_val b1
 have hlt0 : val l < 2 ^ (16 * (Dg.digs (val l)).length) := by
  have := (Dg.val_bd DL).2
  rw[hdv,dpw_p2] at this
  exact this
 have qv := g1.vw
 have f1 := g1.fr
 generalize Dg.digs (val l) = d at qv k1 DL hdv hlt0
 clear g1
 obtain ⟨A, c, rfl, hc, hr⟩ := qv
 have e16 : (16 : Int) * (d.length : Int) = ((16 * d.length : Nat) : Int) := by omega
 simp(disch:=omega)only[EZ,↓EP,↓reduceIte,Za,Zb,Zc,Zd,Ze,Zf,Zg,Zj,Zk,Zl,Zm,Zn,Zp,Zq,reduceCtorEq,e16]
 refine loop_inv (fun t ρ w' => w' = w1 ∧ ρ 4 = .int .i64 ((t : Nat) : Int) ∧ t ≤ 16 * d.length ∧ val l < 2 ^ t) (16 * d.length) ⟨rfl, by simp(disch:=omega)only[EZ,↓EP,↓reduceIte,Za,Zb,Zc,Zd,Ze,Zf,Zg,Zj,Zk,Zl,Zm,Zn,Zp,Zq,reduceCtorEq,e16], Nat.le_refl _, hlt0⟩ ?_
 rintro t ρ w' hf ⟨rfl, h4, ht, hlt⟩ N hN
 have q3 : ρ 3 = .slice A d.length c := by rw[hf 3 rfl]; simp(disch:=omega)only[EZ,↓EP,↓reduceIte,Za,Zb,Zc,Zd,Ze,Zf,Zg,Zj,Zk,Zl,Zm,Zn,Zp,Zq,reduceCtorEq]
 clear hf
 cases t with
 | zero =>
  have e0 : val l = 0 := by rw[Int.pow_zero] at hlt; omega
  simp(disch:=omega)only[EZ,↓EP,↓reduceIte,Za,Zb,Zc,Zd,Ze,Zf,Zg,Zj,Zk,Zl,Zm,Zn,Zp,Zq,reduceCtorEq,h4,q3,Int.natCast_zero]
  have := hK w' f1
  rw[e0,bl_zero] at this
  exact this
 | succ k =>
  obtain ⟨p, rfl, _, hp⟩ := hr.get (by rw[nums_length]; omega)
  have cp := hp.numN (j := k / 16) (by omega)
  have bx := DL.at (k / 16 : Nat)
  have e1 : ((k + 1 : Nat) : Int) - 1 = (k : Int) := by omega
  have ei : ((k : Int) / 16).toNat = k / 16 := by omega
  have em : min ((k : Int) % 16).toNat 64 = k % 16 := by omega
  have hp2 : (0 : Int) < 2 ^ (k % 16) := p2_pos _
  have hpk : (0 : Int) < 2 ^ k := p2_pos _
  have hs0 := Int.ediv_nonneg bx.1 (show (0 : Int) ≤ 2 ^ (k % 16) by omega)
  have hs1 := Int.ediv_le_self (2 ^ (k % 16)) bx.1
  have ha1 := and1 hs0 (by omega)
  have hb := digit_bits DL (k / 16) (k % 16) 1 (by omega)
  have h21 : (2 : Int) ^ 1 = 2 := rfl
  rw[show 16 * (k / 16) + k % 16 = k by omega, hdv, h21] at hb
  have hq0 := Int.ediv_nonneg b1 (show (0 : Int) ≤ 2 ^ k by omega)
  have hq1 : val l / 2 ^ k < 2 := Int.ediv_lt_of_lt_mul hpk (by rw[Int.pow_succ] at hlt; omega)
  have hdm := Int.mul_ediv_add_emod (val l) (2 ^ k)
  have hm0 := Int.emod_nonneg (val l) (show (2 : Int) ^ k ≠ 0 by omega)
  have hm1 := Int.emod_lt_of_pos (val l) hpk
  rw[hb] at ha1
  by_cases h0 : val l / 2 ^ k % 2 = 0
  ·have hz : val l / 2 ^ k = 0 := by omega
   rw[hz,Int.mul_zero] at hdm
   simp(disch:=omega)only[Zu,Zv,Zx,Zz,EZ,↓EP,↓reduceIte,Za,Zb,Zc,Zd,Ze,Zf,Zg,Zj,Zk,Zl,Zm,Zn,Zp,Zq,reduceCtorEq,h4,q3,e1,ei,em,cp,ha1,h0]
   exact hN k _ _ (by omega) ⟨rfl, by simp(disch:=omega)only[EZ,↓EP,↓reduceIte,Za,Zb,Zc,Zd,Ze,Zf,Zg,Zj,Zk,Zl,Zm,Zn,Zp,Zq,reduceCtorEq,h4,e1], by omega, by omega⟩
  ·have hz : val l / 2 ^ k = 1 := by omega
   rw[hz,Int.mul_one] at hdm
   have hf0 : (val l / 2 ^ k % 2 = 0) = False := eq_false h0
   simp(disch:=omega)only[Zu,Zv,Zx,Zz,EZ,↓EP,↓reduceIte,Za,Zb,Zc,Zd,Ze,Zf,Zg,Zj,Zk,Zl,Zm,Zn,Zp,Zq,reduceCtorEq,h4,q3,e1,ei,em,cp,ha1,hf0]
   have := hK w' f1
   rw[bl_of (k := k) (by omega) hlt] at this
   exact this
set_option maxHeartbeats 1000000 in
theorem rfrombytes_vw {w : World} {va : Value} {l : List Int} (ha : Vw .u8 w va l) (hL : Byt l) (K : Value → World → Prop)
  (hK : ∀ v w', Gw .u32 w w' v (fbR l).1 → K (.tuple #[v, .int .i64 (fbR l).2]) w') : callK Tryz.prog 51 [va] w K := by
 obtain ⟨A, c, rfl, hc, hr⟩ := ha
 refine call_of Tryz.func51 Code.h51 (by simp[Code.c51]) ?_
 by_cases hbig : 2048 < l.length
 ·have e : fbR l = ([], 3) := by unfold fbR; rw[if_pos hbig]
  rw[e] at hK
  simp(disch:=omega)only[EZ,↓EP,↓reduceIte,Za,Zb,Zc,Zd,Ze,Zf,Zg,Zj,Zk,Zl,Zm,Zn,Zp,Zq,reduceCtorEq,Code.c51]
  exact hK _ w (Gw.nil _ _)
 have e : fbR l = (limbs (bv l), 0) := by unfold fbR; rw[if_neg hbig]
 rw[e] at hK
 have hrl : l.reverse.length = l.length := List.length_reverse
 simp(disch:=omega)only[EZ,↓EP,↓reduceIte,Za,Zb,Zc,Zd,Ze,Zf,Zg,Zj,Zk,Zl,Zm,Zn,Zp,Zq,reduceCtorEq,Code.c51]
 refine loop_inv (fun t ρ w' => ∃ (k : Nat) (v : Value) (o : List Int), ρ 5 = .int .i64 ((l.length : Int) - 1 - 2 * k) ∧ 2 * k ≤ l.length + 1 ∧ t = l.length + 1 - 2 * k ∧ ρ 4 = v ∧ Gw .u64 w w' v o ∧ o.length = k ∧ o ++ m8 (l.reverse.drop (2 * k)) = m8 l.reverse) _
  ⟨0, _, [], by simp(disch:=omega)only[EZ,↓EP,↓reduceIte,Za,Zb,Zc,Zd,Ze,Zf,Zg,Zj,Zk,Zl,Zm,Zn,Zp,Zq,reduceCtorEq,Int.natCast_zero,Int.mul_zero,Int.sub_zero], by omega, rfl, by simp(disch:=omega)only[EZ,↓EP,↓reduceIte,Za,Zb,Zc,Zd,Ze,Zf,Zg,Zj,Zk,Zl,Zm,Zn,Zp,Zq,reduceCtorEq], Gw.nil _ _, rfl, rfl⟩ ?_
 rintro t ρ w' hf ⟨k, v, o, h5, hk, rfl, h4, g, ho, hmk⟩ N hN
 have q0 : ρ 0 = .slice A l.length c := by rw[hf 0 rfl]; simp(disch:=omega)only[EZ,↓EP,↓reduceIte,Za,Zb,Zc,Zd,Ze,Zf,Zg,Zj,Zk,Zl,Zm,Zn,Zp,Zq,reduceCtorEq]
 clear hf
 by_cases hkl : 0 ≤ (l.length : Int) - 1 - 2 * (k : Int)
 ·obtain ⟨p, rfl, _, hp⟩ := (hr.nb g.fr).get (by rw[nums_length]; omega)
  have cp := hp.numN (j := l.length - 1 - 2 * k) (by omega)
  have bx := hL.at (l.length - 1 - 2 * k : Nat)
  have ei : ((l.length : Int) - 1 - 2 * (k : Int)).toNat = l.length - 1 - 2 * k := by omega
  have e2 : (l.length : Int) - 1 - 2 * (k : Int) - 2 = (l.length : Int) - 1 - 2 * ((k + 1 : Nat) : Int) := by omega
  have r0 := at_rev (l := l) (i := 2 * k) (by omega)
  by_cases hlast : 0 < (l.length : Int) - 1 - 2 * (k : Int)
  ·have cp1 := hp.numN (j := l.length - 1 - (2 * k + 1)) (by omega)
   have by1 := hL.at (l.length - 1 - (2 * k + 1) : Nat)
   have e1 : ((l.length : Int) - 1 - 2 * (k : Int) - 1).toNat = l.length - 1 - (2 * k + 1) := by omega
   have r1 := at_rev (l := l) (i := 2 * k + 1) (by omega)
   have ed : l.reverse.drop (2 * k) = at' l (l.length - 1 - 2 * k : Nat) :: at' l (l.length - 1 - (2 * k + 1) : Nat) :: l.reverse.drop (2 * (k + 1)) := by
    rw[List.drop_eq_getElem_cons (by omega),List.drop_eq_getElem_cons (by omega),← at_get (by omega),← at_get (by omega),r0,r1]
    rfl
   simp(disch:=omega)only[Zu,Zv,Zx,Zz,EZ,↓EP,↓reduceIte,Za,Zb,Zc,Zd,Ze,Zf,Zg,Zj,Zk,Zl,Zm,Zn,Zp,Zq,reduceCtorEq,W_join,h5,h4,q0,cp,cp1,ei,e1]
   refine bsl1 fun w2 n2 => ?_
   simp(disch:=omega)only[Zu,Zv,Zx,Zz,EZ,↓EP,↓reduceIte,Za,Zb,Zc,Zd,Ze,Zf,Zg,Zj,Zk,Zl,Zm,Zn,Zp,Zq,reduceCtorEq,h4]
   refine app_num (g.sl.nb (n2.fr nob)) rfl n2.rdl (by simp; omega) (by omega) fun v4 w4 a4 => ?_
   have g4 := (g.step (n2.fr nob)).apd a4
   simp(disch:=omega)only[Zu,Zv,Zx,Zz,EZ,↓EP,↓reduceIte,Za,Zb,Zc,Zd,Ze,Zf,Zg,Zj,Zk,Zl,Zm,Zn,Zp,Zq,reduceCtorEq,h5,e2]
   refine hN (l.length + 1 - 2 * (k + 1)) _ _ (by omega) ⟨k + 1, v4, _, by simp(disch:=omega)only[Zu,Zv,Zx,Zz,EZ,↓EP,↓reduceIte,Za,Zb,Zc,Zd,Ze,Zf,Zg,Zj,Zk,Zl,Zm,Zn,Zp,Zq,reduceCtorEq,h5,e2], by omega, rfl, by simp(disch:=omega)only[EZ,↓EP,↓reduceIte,Za,Zb,Zc,Zd,Ze,Zf,Zg,Zj,Zk,Zl,Zm,Zn,Zp,Zq,reduceCtorEq], g4, by simp[ho], ?_⟩
   rw[← hmk,ed,m8,List.append_assoc,List.singleton_append]
   congr 2
   omega
  ·have ed : l.reverse.drop (2 * k) = [at' l (l.length - 1 - 2 * k : Nat)] := by
    rw[List.drop_eq_getElem_cons (by omega),← at_get (by omega),List.drop_of_length_le (by omega),r0]
   have ed2 : l.reverse.drop (2 * (k + 1)) = [] := List.drop_of_length_le (by omega)
   simp(disch:=omega)only[Zu,Zv,Zx,Zz,EZ,↓EP,↓reduceIte,Za,Zb,Zc,Zd,Ze,Zf,Zg,Zj,Zk,Zl,Zm,Zn,Zp,Zq,reduceCtorEq,W_join,h5,h4,q0,cp,ei]
   refine bsl1 fun w2 n2 => ?_
   simp(disch:=omega)only[Zu,Zv,Zx,Zz,EZ,↓EP,↓reduceIte,Za,Zb,Zc,Zd,Ze,Zf,Zg,Zj,Zk,Zl,Zm,Zn,Zp,Zq,reduceCtorEq,h4]
   refine app_num (g.sl.nb (n2.fr nob)) rfl n2.rdl (by simp; omega) (by omega) fun v4 w4 a4 => ?_
   have g4 := (g.step (n2.fr nob)).apd a4
   simp(disch:=omega)only[Zu,Zv,Zx,Zz,EZ,↓EP,↓reduceIte,Za,Zb,Zc,Zd,Ze,Zf,Zg,Zj,Zk,Zl,Zm,Zn,Zp,Zq,reduceCtorEq,h5,e2]
   refine hN (l.length + 1 - 2 * (k + 1)) _ _ (by omega) ⟨k + 1, v4, _, by simp(disch:=omega)only[Zu,Zv,Zx,Zz,EZ,↓EP,↓reduceIte,Za,Zb,Zc,Zd,Ze,Zf,Zg,Zj,Zk,Zl,Zm,Zn,Zp,Zq,reduceCtorEq,h5,e2], by omega, rfl, by simp(disch:=omega)only[EZ,↓EP,↓reduceIte,Za,Zb,Zc,Zd,Ze,Zf,Zg,Zj,Zk,Zl,Zm,Zn,Zp,Zq,reduceCtorEq], g4, by simp[ho], ?_⟩
   rw[← hmk,ed,ed2]; simp[m8]
 ·have e0 : l.reverse.drop (2 * k) = [] := List.drop_of_length_le (by omega)
  rw[e0,m8,List.append_nil] at hmk
  have hlen := m8_len l.reverse
  simp(disch:=omega)only[EZ,↓EP,↓reduceIte,Za,Zb,Zc,Zd,Ze,Zf,Zg,Zj,Zk,Zl,Zm,Zn,Zp,Zq,reduceCtorEq,h5,h4,q0]
  refine limbs_vw g.vw (by rw[hmk]; exact m8_lim hL.rev) (by omega) _ fun v5 w5 g5 => ?_
  rw[hmk,m8_val] at g5
  simp(disch:=omega)only[EZ,↓EP,↓reduceIte,Za,Zb,Zc,Zd,Ze,Zf,Zg,Zj,Zk,Zl,Zm,Zn,Zp,Zq,reduceCtorEq]
  exact hK v5 w5 (g5.from g.fr)
set_option maxHeartbeats 1000000 in
theorem rbytes_vw {w : World} {va : Value} {l : List Int} (n : Int) (ha : Vw .u32 w va l) (hL : Lim l) (hn : -9223372036854775808 ≤ n ∧ n ≤ 9223372036854775807) (K : Value → World → Prop)
  (hK : ∀ v w', Gw .u8 w w' v (tbR l n).1 → K (.tuple #[v, .int .i64 (tbR l n).2]) w') : callK Tryz.prog 54 [va, .int .i64 n] w K := by
 have b1 := (val_bd hL).1
 obtain ⟨A, c, ea, hc, hr⟩ := id ha
 refine call_of Tryz.func54 Code.h54 (by simp[Code.c54]) ?_
 by_cases h512 : (512 : Int) < (l.length : Int)
 ·have e : tbR l n = ([], 3) := by unfold tbR; rw[if_pos (by omega)]
  rw[e] at hK
  simp(disch:=omega)only[EZ,↓EP,↓reduceIte,Za,Zb,Zc,Zd,Ze,Zf,Zg,Zj,Zk,Zl,Zm,Zn,Zp,Zq,reduceCtorEq,Code.c54,ea]
  exact hK _ w (Gw.nil _ _)
 by_cases hneg : n < 0
 ·have e : tbR l n = ([], 1) := by unfold tbR; rw[if_neg (by omega),if_pos (by omega)]
  rw[e] at hK
  simp(disch:=omega)only[EZ,↓EP,↓reduceIte,Za,Zb,Zc,Zd,Ze,Zf,Zg,Zj,Zk,Zl,Zm,Zn,Zp,Zq,reduceCtorEq,Code.c54,ea]
  exact hK _ w (Gw.nil _ _)
 by_cases hbig : 2048 < n
 ·have e : tbR l n = ([], 1) := by unfold tbR; rw[if_neg (by omega),if_pos (by omega)]
  rw[e] at hK
  simp(disch:=omega)only[EZ,↓EP,↓reduceIte,Za,Zb,Zc,Zd,Ze,Zf,Zg,Zj,Zk,Zl,Zm,Zn,Zp,Zq,reduceCtorEq,Code.c54,ea]
  exact hK _ w (Gw.nil _ _)
 simp(disch:=omega)only[EZ,↓EP,↓reduceIte,Za,Zb,Zc,Zd,Ze,Zf,Zg,Zj,Zk,Zl,Zm,Zn,Zp,Zq,reduceCtorEq,Code.c54,ea]
 try rw[← ea]
 refine digits_vw ha hL (by omega) _ fun v1 w1 g1 => ?_
 simp(disch:=omega)only[EZ,↓EP,↓reduceIte,Za,Zb,Zc,Zd,Ze,Zf,Zg,Zj,Zk,Zl,Zm,Zn,Zp,Zq,reduceCtorEq]
 refine rbits_vw (ha.nb g1.fr) hL (by omega) _ fun w2 f2 => ?_
 have f02 := g1.fr.nb f2
 have hbl : bl (val l) ≤ 32 * 512 := (bl_le b1).2 (by
  have := (val_bd hL).2
  have := pw_le (show l.length ≤ 512 by omega)
  rw[← pw_p2]; omega)
 by_cases hsm : 8 * n < (bl (val l) : Int)
 ·have e : tbR l n = ([], 3) := by unfold tbR; rw[if_neg (by omega),if_neg (by omega),if_pos (by omega)]
  rw[e] at hK
  simp(disch:=omega)only[EZ,↓EP,↓reduceIte,Za,Zb,Zc,Zd,Ze,Zf,Zg,Zj,Zk,Zl,Zm,Zn,Zp,Zq,reduceCtorEq]
  exact hK _ w2 ((Gw.nil _ _).from f02)
 have e : tbR l n = (bvs n.toNat (val l), 0) := by unfold tbR; rw[if_neg (by omega),if_neg (by omega),if_neg (by omega)]
 rw[e] at hK
 have qN : ∃ N : Nat, n = N := ⟨n.toNat, by omega⟩
 obtain ⟨N, rfl⟩ := qN
 rw[Int.toNat_natCast] at hK
 clear e
 have hv2 := g1.vw.nb f2
 have DL := Dg.digs_lim (val l)
 have hdv := Dg.digs_val b1
 have k1 := digs_len_of b1 (n := l.length) (val_bd hL).2
 simp(disch:=omega)only[EZ,↓EP,↓reduceIte,Za,Zb,Zc,Zd,Ze,Zf,Zg,Zj,Zk,Zl,Zm,Zn,Zp,Zq,reduceCtorEq]
 refine al_k (nums .u8 (List.replicate N 0)) (by rw[madeCells_list,nums_replicate]) fun w3 n3 => ?_
 have sz1 := f02.size
 have f3 := f02.nb (n3.fr nob)
 have hv3 := hv2.nb (n3.fr nob)
 simp(disch:=omega)only[EZ,↓EP,↓reduceIte,Za,Zb,Zc,Zd,Ze,Zf,Zg,Zj,Zk,Zl,Zm,Zn,Zp,Zq,reduceCtorEq]
 refine loop_inv (fun t ρ w' => ∃ (k : Nat) (o : List Int), ρ 8 = .int .i64 k ∧ k ≤ N ∧ t = N - k ∧ Blk w' w2.heap.size (nums .u8 o) ∧ o.length = N ∧ (∀ i, i < k → at' o (N - 1 - i : Nat) = val l / 256 ^ i % 256) ∧ Fr w w' nob ∧ Fr w3 w' (fun b => b = w2.heap.size)) _
  ⟨0, _, by simp(disch:=omega)only[EZ,↓EP,↓reduceIte,Za,Zb,Zc,Zd,Ze,Zf,Zg,Zj,Zk,Zl,Zm,Zn,Zp,Zq,reduceCtorEq], by omega, rfl, n3.blk, by simp, fun i h => by omega, f3, Fr.refl _ _⟩ ?_
 rintro t ρ w4 hf ⟨k, o, h8, hk, rfl, hB, ho, hset, f4, f34⟩ M hM
 have q1 : ρ 1 = .int .i64 N := by rw[hf 1 rfl]; simp(disch:=omega)only[EZ,↓EP,↓reduceIte,Za,Zb,Zc,Zd,Ze,Zf,Zg,Zj,Zk,Zl,Zm,Zn,Zp,Zq,reduceCtorEq]
 have q6 : ρ 6 = v1 := by rw[hf 6 rfl]; simp(disch:=omega)only[EZ,↓EP,↓reduceIte,Za,Zb,Zc,Zd,Ze,Zf,Zg,Zj,Zk,Zl,Zm,Zn,Zp,Zq,reduceCtorEq]
 have q7 : ρ 7 = .slice (some ⟨w2.heap.size, 0, none⟩) N N := by rw[hf 7 rfl]; simp(disch:=omega)only[EZ,↓EP,↓reduceIte,Za,Zb,Zc,Zd,Ze,Zf,Zg,Zj,Zk,Zl,Zm,Zn,Zp,Zq,reduceCtorEq]
 clear hf
 by_cases hkl : (k : Int) < (N : Int)
 ·have hv4 : Vw .u64 w4 v1 (Dg.digs (val l)) := by
   obtain ⟨A', c', e', hc', hr'⟩ := hv2
   refine ⟨A', c', e', hc', ?_⟩
   rcases hr' with hn' | ⟨p, hA', hlt', hcl'⟩
   ·exact .inl hn'
   ·exact Rd.fr ((Rd.nb (.inr ⟨p, hA', hlt', hcl'⟩) (n3.fr nob))) f34 (.inr fun q hq => by rw[hA'] at hq; cases hq; omega)
  have ei : (k : Int) / 2 = ((k / 2 : Nat) : Int) := by omega
  have ej : ((N : Int) - 1 - (k : Int)).toNat = N - 1 - k := by omega
  have em : min (8 * ((k : Int) % 2)).toNat 64 = 8 * (k % 2) := by omega
  have hp2 : (0 : Int) < 2 ^ (8 * (k % 2)) := p2_pos _
  have bx := DL.at (k / 2 : Nat)
  have hb := digit_bits DL (k / 2) (8 * (k % 2)) 8 (by omega)
  rw[hdv, show 16 * (k / 2) + 8 * (k % 2) = 8 * k by omega, ← p8_p2 k] at hb
  have hb' : at' (Dg.digs (val l)) (k / 2 : Nat) / 2 ^ (8 * (k % 2)) % 256 = val l / 256 ^ k % 256 := hb
  simp(disch:=omega)only[Zu,Zv,Zx,Zz,EZ,↓EP,↓reduceIte,Za,Zb,Zc,Zd,Ze,Zf,Zg,Zj,Zk,Zl,Zm,Zn,Zp,Zq,reduceCtorEq,h8,q1,q6,q7,ei]
  refine digit_nat hv4 (by omega) (k / 2) (by omega) _ ?_
  simp(disch:=omega)only[Zu,Zv,Zx,Zz,EZ,↓EP,↓reduceIte,Za,Zb,Zc,Zd,Ze,Zf,Zg,Zj,Zk,Zl,Zm,Zn,Zp,Zq,reduceCtorEq,h8,q1,q7,ej,em,wu8_mod,hb']
  refine st_num hB (by omega) fun w5 p5 => ?_
  simp(disch:=omega)only[Zu,Zv,Zx,Zz,EZ,↓EP,↓reduceIte,Za,Zb,Zc,Zd,Ze,Zf,Zg,Zj,Zk,Zl,Zm,Zn,Zp,Zq,reduceCtorEq,h8]
  refine hM (N - (k + 1)) _ _ (by omega) ⟨k + 1, _, by simp(disch:=omega)only[EZ,↓EP,↓reduceIte,Za,Zb,Zc,Zd,Ze,Zf,Zg,Zj,Zk,Zl,Zm,Zn,Zp,Zq,reduceCtorEq,h8,Int.natCast_add], by omega, rfl, p5.blk, by simpa using ho, fun i hi => ?_, f4.own p5.fr fun x e => by omega, f34.trans p5.fr fun _ _ e => e⟩
  by_cases hik : i = k
  ·subst hik; rw[at_setN (by omega)]
  ·rw[at_setO (by omega)]; exact hset i (by omega)
 ·have hk : k = N := by omega
  subst hk
  simp(disch:=omega)only[EZ,↓EP,↓reduceIte,Za,Zb,Zc,Zd,Ze,Zf,Zg,Zj,Zk,Zl,Zm,Zn,Zp,Zq,reduceCtorEq,h8,q1,q7]
  have eo := bvs_of ho (fun i hi => hset i hi)
  subst eo
  exact hK _ _ ⟨.inr ⟨w2.heap.size, [], by simp[ho], by simpa using hB⟩, fun b e => by cases e; omega, f4⟩
end Go.Proofs.YtcgplgpdcfocpaaGreatDoor.Spec
end
section
namespace Go.Proofs.YtcgplgpdcfocpaaGreatDoor.Spec
open Go Go.RowKit Go.Proofs Go.Proofs.YtcgplgpdcfocpaaGreatDoor.Eng Go.Proofs.YtcgplgpdcfocpaaGreatDoor.Code Go.Proofs.YtcgplgpdcfocpaaGreatDoor.Big
attribute [local irreducible] callK S.W opsW scrW
end Go.Proofs.YtcgplgpdcfocpaaGreatDoor.Spec
end
section
namespace Go.Proofs.YtcgplgpdcfocpaaGreatDoor.Spec
open Go Go.RowKit Go.Proofs Go.Proofs.YtcgplgpdcfocpaaGreatDoor.Eng Go.Proofs.YtcgplgpdcfocpaaGreatDoor.Code Go.Proofs.YtcgplgpdcfocpaaGreatDoor.Big
attribute [local irreducible] callK S.W opsW scrW
set_option maxHeartbeats 1000000 in
theorem frombytes_vw {w : World} {va : Value} {l : List Int} (ha : Vw .u8 w va l) (hL : Byt l) (K : Value → World → Prop)
  (hK : ∀ v w', Gw .u32 w w' v (fbR l).1 → K (.tuple #[v, .int .i64 (fbR l).2]) w') : callK Tryz.prog 46 [va] w K := by
 obtain ⟨A, c, rfl, hc, hr⟩ := ha
 refine call_of Tryz.func46 Code.h46 (by simp[Code.c46]) ?_
 by_cases hbig : 2048 < l.length
 ·have e : fbR l = ([], 3) := by unfold fbR; rw[if_pos hbig]
  rw[e] at hK
  simp(disch:=omega)only[EZ,↓EP,↓reduceIte,Za,Zb,Zc,Zd,Ze,Zf,Zg,Zj,Zk,Zl,Zm,Zn,Zp,Zq,reduceCtorEq,Code.c46]
  exact hK _ w (Gw.nil _ _)
 have e : fbR l = (limbs (bv l), 0) := by unfold fbR; rw[if_neg hbig]
 rw[e] at hK
 obtain ⟨N, hN⟩ : ∃ N : Nat, N = (l.length + 3) / 4 := ⟨_, rfl⟩
 have eN : (((l.length : Int) + 3) / 4).toNat = N := by omega
 simp(disch:=omega)only[EZ,↓EP,↓reduceIte,Za,Zb,Zc,Zd,Ze,Zf,Zg,Zj,Zk,Zl,Zm,Zn,Zp,Zq,reduceCtorEq,Code.c46]
 refine al_k (nums .u32 (List.replicate N 0)) (by rw[madeCells_list,nums_replicate,eN]) fun w1 n1 => ?_
 simp(disch:=omega)only[EZ,↓EP,↓reduceIte,Za,Zb,Zc,Zd,Ze,Zf,Zg,Zj,Zk,Zl,Zm,Zn,Zp,Zq,reduceCtorEq,eN]
 refine loop_inv (fun t ρ w2 => ∃ (k : Nat) (o : List Int), ρ 16 = .int .i64 k ∧ k ≤ l.length ∧ t = l.length - k ∧ Blk w2 w.heap.size (nums .u32 o) ∧ o.length = N ∧ Lim o ∧ val o = leb (l.reverse.take k) ∧ Fr w w2 nob) _
  ⟨0, _, by simp(disch:=omega)only[EZ,↓EP,↓reduceIte,Za,Zb,Zc,Zd,Ze,Zf,Zg,Zj,Zk,Zl,Zm,Zn,Zp,Zq,reduceCtorEq], by omega, rfl, n1.blk, by simp, Lim.zeros _, by rw[val_zeros]; rfl, n1.fr nob⟩ ?_
 rintro t ρ w2 hf ⟨k, o, h16, hk, rfl, hB, ho, hO, hv, f2⟩ M hM
 have q0 : ρ 0 = .slice A l.length c := by rw[hf 0 rfl]; simp(disch:=omega)only[EZ,↓EP,↓reduceIte,Za,Zb,Zc,Zd,Ze,Zf,Zg,Zj,Zk,Zl,Zm,Zn,Zp,Zq,reduceCtorEq]
 have q4 : ρ 4 = .slice (some ⟨w.heap.size, 0, none⟩) N N := by rw[hf 4 rfl]; simp(disch:=omega)only[EZ,↓EP,↓reduceIte,Za,Zb,Zc,Zd,Ze,Zf,Zg,Zj,Zk,Zl,Zm,Zn,Zp,Zq,reduceCtorEq,eN]
 have q15 : ρ 15 = .int .i64 l.length := by rw[hf 15 rfl]; simp(disch:=omega)only[EZ,↓EP,↓reduceIte,Za,Zb,Zc,Zd,Ze,Zf,Zg,Zj,Zk,Zl,Zm,Zn,Zp,Zq,reduceCtorEq]
 clear hf
 by_cases hkl : (k : Int) < (l.length : Int)
 ·obtain ⟨p, rfl, _, hp⟩ := (hr.nb f2).get (by rw[nums_length]; omega)
  have cp := hp.numN (j := l.length - 1 - k) (by omega)
  have co := hB.numN (j := k / 4) (by omega)
  have bx := hL.at (l.length - 1 - k : Nat)
  have bo := hO.at (k / 4 : Nat)
  have ei : ((k : Int) / 4).toNat = k / 4 := by omega
  have ej : ((l.length : Int) - 1 - (k : Int)).toNat = l.length - 1 - k := by omega
  obtain ⟨s, hs⟩ : ∃ s : Nat, s = 8 * (k % 4) := ⟨_, rfl⟩
  have em : min (8 * ((k : Int) % 4)).toNat 32 = s := by omega
  have hp2 : (0 : Int) < 2 ^ s := p2_pos s
  have h24 : (2 : Int) ^ s ≤ 2 ^ 24 := p2_mono (by omega)
  have e24 : (2 : Int) ^ 24 = 16777216 := rfl
  have hx0 := Int.mul_nonneg bx.1 (show (0 : Int) ≤ 2 ^ s by omega)
  have hx1 : at' l (l.length - 1 - k : Nat) * 2 ^ s + 2 ^ s ≤ 4294967296 := by
   have := Int.mul_le_mul (show at' l (l.length - 1 - k : Nat) + 1 ≤ 256 by omega) (show (2 : Int) ^ s ≤ 16777216 by omega) (by omega) (by omega)
   grind
  have hk256 : (256 : Int) ^ k = pw (k / 4) * 2 ^ s := by
   rw[p8_pw, show (2 : Int) ^ s = 256 ^ (k % 4) by rw [p8_p2, hs], ← p8_add]; congr 1; omega
  have hlow : at' o (k / 4 : Nat) < 2 ^ s := by
   have hb := leb_bd (hL.rev.take k)
   rw[← hv,List.length_take,List.length_reverse,Nat.min_eq_left hk,hk256] at hb
   have h1 := val_split o (k := k / 4) (by omega)
   have h2 := (val_bd (hO.take (k / 4))).1
   have h3 : val (o.drop (k / 4)) * pw (k / 4) < 2 ^ s * pw (k / 4) := by
    have e1 : val (o.drop (k / 4)) * pw (k / 4) = pw (k / 4) * val (o.drop (k / 4)) := Int.mul_comm _ _
    have e2 : 2 ^ s * pw (k / 4) = pw (k / 4) * 2 ^ s := Int.mul_comm _ _
    omega
   have h4 := lt_of_mul h3 (by have := pw_pos (k / 4); omega)
   have h5 := val_drop_at o (k := k / 4) (by omega)
   have h6 := (val_bd (hO.drop (k / 4 + 1))).1
   omega
  have eor := or32_add bo.1 hlow bx.1 (by omega)
  simp(disch:=omega)only[Zu,Zv,Zx,Zz,EZ,↓EP,↓reduceIte,Za,Zb,Zc,Zd,Ze,Zf,Zg,Zj,Zk,Zl,Zm,Zn,Zp,Zq,reduceCtorEq,h16,q0,q4,q15,cp,co,ei,ej,em,eor]
  intro m1
  refine st_num (hB.nb (Fr.drewN w2 _ nob)) (by omega) fun w4 p4 => ?_
  simp(disch:=omega)only[Zu,Zv,Zx,Zz,EZ,↓EP,↓reduceIte,Za,Zb,Zc,Zd,Ze,Zf,Zg,Zj,Zk,Zl,Zm,Zn,Zp,Zq,reduceCtorEq,h16]
  refine hM (l.length - (k + 1)) _ _ (by omega) ⟨k + 1, _, by simp(disch:=omega)only[EZ,↓EP,↓reduceIte,Za,Zb,Zc,Zd,Ze,Zf,Zg,Zj,Zk,Zl,Zm,Zn,Zp,Zq,reduceCtorEq,h16,Int.natCast_add], by omega, rfl, p4.blk, by simpa using ho, hO.set _ (by omega) (by omega), ?_, (f2.nb (Fr.drewN w2 _ nob)).own p4.fr fun x e => by omega⟩
  rw[val_set (by omega),leb_take_succ (by simpa using hkl),at_rev (by omega),hv,hk256]
  grind
 ·have hk : k = l.length := by omega
  subst hk
  simp(disch:=omega)only[EZ,↓EP,↓reduceIte,Za,Zb,Zc,Zd,Ze,Zf,Zg,Zj,Zk,Zl,Zm,Zn,Zp,Zq,reduceCtorEq,h16,q4,q15]
  rw[List.take_of_length_le (by simp)] at hv
  refine cut_spec ho (blk_rd hB) hO (Nat.le_refl _) (by omega) _ fun m hm he _ => ?_
  rw[hv] at he
  simp(disch:=omega)only[EZ,↓EP,↓reduceIte,Za,Zb,Zc,Zd,Ze,Zf,Zg,Zj,Zk,Zl,Zm,Zn,Zp,Zq,reduceCtorEq]
  exact hK _ _ (own_cut hB (Nat.le_refl _) f2 ho hm he)
set_option maxHeartbeats 1000000 in
theorem bytes_vw {w : World} {va : Value} {l : List Int} (n : Int) (ha : Vw .u32 w va l) (hL : Lim l) (hn : -9223372036854775808 ≤ n ∧ n ≤ 9223372036854775807) (K : Value → World → Prop)
  (hK : ∀ v w', Gw .u8 w w' v (tbR l n).1 → K (.tuple #[v, .int .i64 (tbR l n).2]) w') : callK Tryz.prog 49 [va, .int .i64 n] w K := by
 obtain ⟨A, c, rfl, hc, hr⟩ := ha
 refine call_of Tryz.func49 Code.h49 (by simp[Code.c49]) ?_
 simp(disch:=omega)only[EZ,↓EP,↓reduceIte,Za,Zb,Zc,Zd,Ze,Zf,Zg,Zj,Zk,Zl,Zm,Zn,Zp,Zq,reduceCtorEq,Code.c49]
 refine bslS1 fun w1 n1 => ?_
 have f1 := n1.fr nob
 simp(disch:=omega)only[EZ,↓EP,↓reduceIte,Za,Zb,Zc,Zd,Ze,Zf,Zg,Zj,Zk,Zl,Zm,Zn,Zp,Zq,reduceCtorEq]
 refine long1 n1.rdv (by omega) _ ?_
 by_cases h512 : (512 : Int) < (l.length : Int)
 ·have e : tbR l n = ([], 3) := by unfold tbR; rw[if_pos (by omega)]
  rw[e] at hK
  simp(disch:=omega)only[EZ,↓EP,↓reduceIte,Za,Zb,Zc,Zd,Ze,Zf,Zg,Zj,Zk,Zl,Zm,Zn,Zp,Zq,reduceCtorEq]
  exact hK _ w1 ((Gw.nil _ _).from f1)
 simp(disch:=omega)only[EZ,↓EP,↓reduceIte,Za,Zb,Zc,Zd,Ze,Zf,Zg,Zj,Zk,Zl,Zm,Zn,Zp,Zq,reduceCtorEq]
 by_cases hneg : n < 0
 ·have e : tbR l n = ([], 1) := by unfold tbR; rw[if_neg (by omega),if_pos (by omega)]
  rw[e] at hK
  simp(disch:=omega)only[EZ,↓EP,↓reduceIte,Za,Zb,Zc,Zd,Ze,Zf,Zg,Zj,Zk,Zl,Zm,Zn,Zp,Zq,reduceCtorEq]
  exact hK _ w1 ((Gw.nil _ _).from f1)
 by_cases hbig : 2048 < n
 ·have e : tbR l n = ([], 1) := by unfold tbR; rw[if_neg (by omega),if_pos (by omega)]
  rw[e] at hK
  simp(disch:=omega)only[EZ,↓EP,↓reduceIte,Za,Zb,Zc,Zd,Ze,Zf,Zg,Zj,Zk,Zl,Zm,Zn,Zp,Zq,reduceCtorEq]
  exact hK _ w1 ((Gw.nil _ _).from f1)
 simp(disch:=omega)only[EZ,↓EP,↓reduceIte,Za,Zb,Zc,Zd,Ze,Zf,Zg,Zj,Zk,Zl,Zm,Zn,Zp,Zq,reduceCtorEq]
 refine bits_vw ⟨A, c, rfl, hc, hr.nb f1⟩ hL (by omega) _ ?_
 have hbl : bl (val l) ≤ 32 * 512 := (bl_le (val_bd hL).1).2 (by
  have := (val_bd hL).2
  have := pw_le (show l.length ≤ 512 by omega)
  rw[← pw_p2]; omega)
 by_cases hsm : n < ((bl (val l) : Int) + 7) / 8
 ·have e : tbR l n = ([], 3) := by unfold tbR; rw[if_neg (by omega),if_neg (by omega),if_pos (by omega)]
  rw[e] at hK
  simp(disch:=omega)only[EZ,↓EP,↓reduceIte,Za,Zb,Zc,Zd,Ze,Zf,Zg,Zj,Zk,Zl,Zm,Zn,Zp,Zq,reduceCtorEq]
  exact hK _ w1 ((Gw.nil _ _).from f1)
 have e : tbR l n = (bvs n.toNat (val l), 0) := by unfold tbR; rw[if_neg (by omega),if_neg (by omega),if_neg (by omega)]
 rw[e] at hK
 obtain ⟨N, rfl⟩ : ∃ N : Nat, n = N := ⟨n.toNat, by omega⟩
 rw[Int.toNat_natCast] at hK
 clear e
 simp(disch:=omega)only[EZ,↓EP,↓reduceIte,Za,Zb,Zc,Zd,Ze,Zf,Zg,Zj,Zk,Zl,Zm,Zn,Zp,Zq,reduceCtorEq]
 refine al_k (nums .u8 (List.replicate N 0)) (by rw[madeCells_list,nums_replicate]) fun w2 n2 => ?_
 have sz1 := f1.size
 have f2 := f1.nb (n2.fr nob)
 simp(disch:=omega)only[EZ,↓EP,↓reduceIte,Za,Zb,Zc,Zd,Ze,Zf,Zg,Zj,Zk,Zl,Zm,Zn,Zp,Zq,reduceCtorEq]
 refine loop_inv (fun t ρ w3 => ∃ (k : Nat) (o : List Int), ρ 29 = .int .i64 k ∧ k ≤ N ∧ t = N - k ∧ Blk w3 w1.heap.size (nums .u8 o) ∧ o.length = N ∧ (∀ i, i < k → at' o (N - 1 - i : Nat) = val l / 256 ^ i % 256) ∧ (∀ j : Nat, j < N - k → at' o j = 0) ∧ Fr w w3 nob) _
  ⟨0, _, by simp(disch:=omega)only[EZ,↓EP,↓reduceIte,Za,Zb,Zc,Zd,Ze,Zf,Zg,Zj,Zk,Zl,Zm,Zn,Zp,Zq,reduceCtorEq], by omega, rfl, n2.blk, by simp, fun i h => by omega, fun j _ => at_zeros _ _, f2⟩ ?_
 rintro t ρ w3 hf ⟨k, o, h29, hk, rfl, hB, ho, hset, hzero, f3⟩ M hM
 have q0 : ρ 0 = .slice A l.length c := by rw[hf 0 rfl]; simp(disch:=omega)only[EZ,↓EP,↓reduceIte,Za,Zb,Zc,Zd,Ze,Zf,Zg,Zj,Zk,Zl,Zm,Zn,Zp,Zq,reduceCtorEq]
 have q1 : ρ 1 = .int .i64 N := by rw[hf 1 rfl]; simp(disch:=omega)only[EZ,↓EP,↓reduceIte,Za,Zb,Zc,Zd,Ze,Zf,Zg,Zj,Zk,Zl,Zm,Zn,Zp,Zq,reduceCtorEq]
 have q6 : ρ 6 = .slice (some ⟨w1.heap.size, 0, none⟩) N N := by rw[hf 6 rfl]; simp(disch:=omega)only[EZ,↓EP,↓reduceIte,Za,Zb,Zc,Zd,Ze,Zf,Zg,Zj,Zk,Zl,Zm,Zn,Zp,Zq,reduceCtorEq]
 have q28 : ρ 28 = .int .i64 N := by rw[hf 28 rfl]; simp(disch:=omega)only[EZ,↓EP,↓reduceIte,Za,Zb,Zc,Zd,Ze,Zf,Zg,Zj,Zk,Zl,Zm,Zn,Zp,Zq,reduceCtorEq]
 clear hf
 by_cases hkl : (k : Int) < (N : Int)
 ·have hlb := limb_byte hL k
  by_cases hin : (k : Int) / 4 < (l.length : Int)
  ·obtain ⟨p, rfl, _, hp⟩ := (hr.nb f3).get (by rw[nums_length]; omega)
   have cp := hp.numN (j := k / 4) (by omega)
   have bx := hL.at (k / 4 : Nat)
   have ei : ((k : Int) / 4).toNat = k / 4 := by omega
   have ej : ((N : Int) - 1 - (k : Int)).toNat = N - 1 - k := by omega
   have em : min (8 * ((k : Int) % 4)).toNat 32 = 8 * (k % 4) := by omega
   have hp2 : (0 : Int) < 2 ^ (8 * (k % 4)) := p2_pos _
   simp(disch:=omega)only[Zu,Zv,Zx,Zz,EZ,↓EP,↓reduceIte,Za,Zb,Zc,Zd,Ze,Zf,Zg,Zj,Zk,Zl,Zm,Zn,Zp,Zq,reduceCtorEq,W_join,h29,q0,q1,q6,q28,cp,ei,ej,em,wu8_mod,hlb]
   refine st_num hB (by omega) fun w4 p4 => ?_
   simp(disch:=omega)only[Zu,Zv,Zx,Zz,EZ,↓EP,↓reduceIte,Za,Zb,Zc,Zd,Ze,Zf,Zg,Zj,Zk,Zl,Zm,Zn,Zp,Zq,reduceCtorEq,h29]
   refine hM (N - (k + 1)) _ _ (by omega) ⟨k + 1, _, by simp(disch:=omega)only[EZ,↓EP,↓reduceIte,Za,Zb,Zc,Zd,Ze,Zf,Zg,Zj,Zk,Zl,Zm,Zn,Zp,Zq,reduceCtorEq,h29,Int.natCast_add], by omega, rfl, p4.blk, by simpa using ho, fun i hi => ?_, fun j hj => ?_, f3.own p4.fr fun x e => by omega⟩
   ·by_cases hik : i = k
    ·subst hik; rw[at_setN (by omega)]
    ·rw[at_setO (by omega)]; exact hset i (by omega)
   ·rw[at_setO (by omega)]; exact hzero j (by omega)
  ·simp(disch:=omega)only[Zu,Zv,Zx,Zz,EZ,↓EP,↓reduceIte,Za,Zb,Zc,Zd,Ze,Zf,Zg,Zj,Zk,Zl,Zm,Zn,Zp,Zq,reduceCtorEq,W_join,h29,q0,q1,q6,q28]
   refine hM (N - (k + 1)) _ _ (by omega) ⟨k + 1, _, by simp(disch:=omega)only[EZ,↓EP,↓reduceIte,Za,Zb,Zc,Zd,Ze,Zf,Zg,Zj,Zk,Zl,Zm,Zn,Zp,Zq,reduceCtorEq,h29,Int.natCast_add], by omega, rfl, hB, ho, fun i hi => ?_, fun j hj => hzero j (by omega), f3⟩
   by_cases hik : i = k
   ·subst hik
    rw[hzero _ (by omega),← hlb,at_ge (by omega)]; simp
   ·exact hset i (by omega)
 ·have hk : k = N := by omega
  subst hk
  simp(disch:=omega)only[EZ,↓EP,↓reduceIte,Za,Zb,Zc,Zd,Ze,Zf,Zg,Zj,Zk,Zl,Zm,Zn,Zp,Zq,reduceCtorEq,h29,q6,q28]
  have eo := bvs_of ho (fun i hi => hset i hi)
  subst eo
  exact hK _ _ ⟨.inr ⟨w1.heap.size, [], by simp[ho], by simpa using hB⟩, fun b e => by cases e; omega, f3⟩
end Go.Proofs.YtcgplgpdcfocpaaGreatDoor.Spec
end
section
namespace Go.Proofs.YtcgplgpdcfocpaaGreatDoor.Spec
open Go Go.RowKit Go.Proofs Go.Proofs.YtcgplgpdcfocpaaGreatDoor.Eng Go.Proofs.YtcgplgpdcfocpaaGreatDoor.Code Go.Proofs.YtcgplgpdcfocpaaGreatDoor.Big
attribute [local irreducible] callK S.W opsW scrW
def Nr (w : World) (v : Value) (x : Int) (P : Nat → Prop) : Prop := 0 ≤ x ∧ ∃ A c, v = .slice A (limbs x).length c ∧ (limbs x).length ≤ c ∧ RO .u32 w A (limbs x) P
theorem Nr.nv {w : World} {v : Value} {x : Int} {P : Nat → Prop} (h : Nr w v x P) : Nv w v x := by
 obtain ⟨h0, A, c, e, hc, hr⟩ := h
 exact ⟨h0, A, c, e, hc, hr.rd⟩
theorem Nr.fr {w w' : World} {v : Value} {x : Int} {P : Nat → Prop} (h : Nr w v x P) (f : Fr w w' P) : Nr w' v x P := by
 obtain ⟨h0, A, c, e, hc, hr⟩ := h
 exact ⟨h0, A, c, e, hc, hr.fr f⟩
theorem Nv.nr {w : World} {v : Value} {x : Int} {P : Nat → Prop} (h : Nv w v x) (hp : ∀ b, b < w.heap.size → ¬ P b) : Nr w v x P := by
 obtain ⟨h0, A, c, e, hc, hr⟩ := h
 refine ⟨h0, A, c, e, hc, ?_⟩
 rcases hr with hn | ⟨p, hA, hlt, hcl⟩
 ·exact .inl (nums_isNil hn)
 ·exact .inr ⟨p, hA, hlt, hp _ hlt, hcl⟩
theorem gw_nr {w0 w : World} {v : Value} {x : Int} {P : Nat → Prop} (g : Gw .u32 w0 w v (limbs x)) (h0 : 0 ≤ x) (hp : ∀ b, w0.heap.size ≤ b → ¬ P b) : Nr w v x P := by
 refine ⟨h0, ?_⟩
 obtain ⟨A, c, e, hc, hr, hb⟩ := g.sl.read
 refine ⟨A, c, e, hc, ?_⟩
 rcases hr with hn | ⟨p, hA, hlt, hcl⟩
 ·exact .inl (nums_isNil hn)
 ·exact .inr ⟨p, hA, hlt, hp _ (g.up _ (hb p hA)), hcl⟩
structure Rw (w : World) (rb : Nat) (rv : List Value) (B M : Int) (k : Nat) : Prop where
 blk : Blk w rb rv
 len : rv.length = 16
 each : ∀ i, i ≤ k → ∃ v, rv[i]? = some v ∧ Nr w v (B ^ i % M) (fun b => b = rb)
theorem Rw.nb {w w' : World} {rb : Nat} {rv : List Value} {B M : Int} {k : Nat} (h : Rw w rb rv B M k) (f : Fr w w' nob) : Rw w' rb rv B M k :=
 ⟨h.blk.nb f, h.len, fun i hi => by obtain ⟨v, e, hv⟩ := h.each i hi; exact ⟨v, e, hv.fr (f.any _)⟩⟩
theorem and15 {x : Int} (h0 : 0 ≤ x) (h1 : x < 4294967296) : bits .and .u32 x 15 = x % 16 := by
 rw[u32_and _ _ (by omega) (by omega) (by omega) (by omega)]
 have := Nat.and_two_pow_sub_one_eq_mod x.toNat 4
 rw[show (15 : Int).toNat = 2 ^ 4 - 1 by rfl, this]
 omega
theorem nib_of {e : List Int} (hL : Lim e) (i : Nat) : at' e (i / 8 : Nat) / 2 ^ (4 * (i % 8)) % 16 = (((val e).toNat / 16 ^ i % 16 : Nat) : Int) := by
 rw[limb_bits hL]
 have h0 := (val_bd hL).1
 obtain ⟨E, hE⟩ := Int.eq_ofNat_of_zero_le h0
 rw[hE,Int.toNat_natCast]
 push_cast
 rfl
theorem len_mod {a m : Int} (hm : 0 < m) : (limbs (a % m)).length ≤ (limbs m).length := len_mono (mod_bd hm).1 (by have := (mod_bd (a := a) hm).2; omega)
set_option maxHeartbeats 2000000 in
theorem expmod_vw {w : World} {vb ve vm : Value} {b e m : List Int} (hb : Vw .u32 w vb b) (he : Vw .u32 w ve e) (hm : Vw .u32 w vm m) (hB : Lim b) (hE : Lim e) (hM : Lim m) (K : Value → World → Prop)
  (hK : ∀ v w', Gw .u32 w w' v (powR b e m).1 → K (.tuple #[v, .int .i64 (powR b e m).2]) w') : callK Tryz.prog 48 [vb, ve, vm] w K := by
 obtain ⟨A1, c1, rfl, hc1, hr1⟩ := hb
 obtain ⟨A2, c2, rfl, hc2, hr2⟩ := he
 obtain ⟨A3, c3, rfl, hc3, hr3⟩ := hm
 have b1 := (val_bd hB).1
 have b2 := (val_bd hE).1
 have b3 := (val_bd hM).1
 refine call_of Tryz.func48 Code.h48 (by simp[Code.c48]) ?_
 simp(disch:=omega)only[EZ,↓EP,↓reduceIte,Za,Zb,Zc,Zd,Ze,Zf,Zg,Zj,Zk,Zl,Zm,Zn,Zp,Zq,reduceCtorEq,W_join,Code.c48]
 refine bslS1 fun w1 n1 => ?_
 have f1 := n1.fr nob
 simp(disch:=omega)only[EZ,↓EP,↓reduceIte,Za,Zb,Zc,Zd,Ze,Zf,Zg,Zj,Zk,Zl,Zm,Zn,Zp,Zq,reduceCtorEq]
 refine long1 n1.rdv (by omega) _ ?_
 by_cases h512 : (512 : Int) < (b.length : Int)
 ·have e : powR b e m = ([], 3) := by unfold powR; rw[if_pos (by omega)]
  rw[e] at hK
  simp(disch:=omega)only[EZ,↓EP,↓reduceIte,Za,Zb,Zc,Zd,Ze,Zf,Zg,Zj,Zk,Zl,Zm,Zn,Zp,Zq,reduceCtorEq]
  exact hK _ w1 ((Gw.nil _ _).from f1)
 simp(disch:=omega)only[EZ,↓EP,↓reduceIte,Za,Zb,Zc,Zd,Ze,Zf,Zg,Zj,Zk,Zl,Zm,Zn,Zp,Zq,reduceCtorEq]
 refine bslS2 fun w2 n2 => ?_
 have f2 := f1.nb (n2.fr nob)
 simp(disch:=omega)only[EZ,↓EP,↓reduceIte,Za,Zb,Zc,Zd,Ze,Zf,Zg,Zj,Zk,Zl,Zm,Zn,Zp,Zq,reduceCtorEq]
 refine long2 n2.rdv (by omega) _ ?_
 by_cases h256 : 256 < e.length ∨ 256 < m.length
 ·have e' : powR b e m = ([], 3) := by unfold powR; rw[if_pos (by omega)]
  rw[e'] at hK
  have hbb : (decide ((256 : Int) < (e.length : Int)) || decide ((256 : Int) < (m.length : Int))) = true := by simp; omega
  simp(disch:=omega)only[EZ,↓EP,↓reduceIte,Za,Zb,Zc,Zd,Ze,Zf,Zg,Zj,Zk,Zl,Zm,Zn,Zp,Zq,reduceCtorEq,hbb]
  exact hK _ w2 ((Gw.nil _ _).from f2)
 have hbb : (decide ((256 : Int) < (e.length : Int)) || decide ((256 : Int) < (m.length : Int))) = false := by simp; omega
 have vm2 : Vw .u32 w2 (.slice A3 m.length c3) m := ⟨A3, c3, rfl, hc3, hr3.nb f2⟩
 have vb2 : Vw .u32 w2 (.slice A1 b.length c1) b := ⟨A1, c1, rfl, hc1, hr1.nb f2⟩
 simp(disch:=omega)only[EZ,↓EP,↓reduceIte,Za,Zb,Zc,Zd,Ze,Zf,Zg,Zj,Zk,Zl,Zm,Zn,Zp,Zq,reduceCtorEq,hbb]
 refine bits_vw vm2 hM (by omega) _ ?_
 by_cases h0 : val m = 0
 ·have e' : powR b e m = ([], 11) := by unfold powR; rw[if_neg (by omega),if_pos h0]
  rw[e'] at hK
  simp(disch:=omega)only[EZ,↓EP,↓reduceIte,Za,Zb,Zc,Zd,Ze,Zf,Zg,Zj,Zk,Zl,Zm,Zn,Zp,Zq,reduceCtorEq,h0,bl_zero,Int.natCast_zero]
  exact hK _ w2 ((Gw.nil _ _).from f2)
 have e' : powR b e m = (limbs (val b ^ (val e).toNat % val m), 0) := by unfold powR; rw[if_neg (by omega),if_neg h0]
 rw[e'] at hK
 clear e'
 have hM0 : 0 < val m := by omega
 obtain ⟨k0, hk0, _, _⟩ := bl_pos hM0
 have hf : (((bl (val m) : Nat) : Int) = 0) = False := eq_false (by omega)
 simp(disch:=omega)only[EZ,↓EP,↓reduceIte,Za,Zb,Zc,Zd,Ze,Zf,Zg,Zj,Zk,Zl,Zm,Zn,Zp,Zq,reduceCtorEq,hf]
 refine cut_vw vm2 hM (by omega) _ fun vm3 hm3 => ?_
 have lm := len_val hM
 simp(disch:=omega)only[EZ,↓EP,↓reduceIte,Za,Zb,Zc,Zd,Ze,Zf,Zg,Zj,Zk,Zl,Zm,Zn,Zp,Zq,reduceCtorEq]
 refine bsl1 fun w3 n3 => ?_
 have f3 := f2.nb (n3.fr nob)
 have hm4 := hm3.nb (n3.fr nob)
 simp(disch:=omega)only[EZ,↓EP,↓reduceIte,Za,Zb,Zc,Zd,Ze,Zf,Zg,Zj,Zk,Zl,Zm,Zn,Zp,Zq,reduceCtorEq]
 refine parts_vw (n3.vw rfl) hm4.2 (Lim.mk (by omega) (by omega) Lim.nil) (limbs_lim _) (by simp) (by omega) (by rw[limbs_val b3]; exact hM0) _ fun u4 v4 w4 _ g4 _ => ?_
 rw[limbs_val b3,val_one] at g4
 have f4 := f3.nb g4.fr
 simp(disch:=omega)only[EZ,↓EP,↓reduceIte,Za,Zb,Zc,Zd,Ze,Zf,Zg,Zj,Zk,Zl,Zm,Zn,Zp,Zq,reduceCtorEq]
 refine parts_vw (vb2.nb ((n3.fr nob).nb g4.fr)) (hm4.nb g4.fr).2 hB (limbs_lim _) (by omega) (by omega) (by rw[limbs_val b3]; exact hM0) _ fun u5 v5 w5 _ g5 _ => ?_
 rw[limbs_val b3] at g5
 have f5 := f4.nb g5.fr
 have hbase := g5.nv (mod_bd hM0).1
 have hone := (g4.nv (mod_bd hM0).1).nb g5.fr
 have hm5 := (hm4.nb g4.fr).nb g5.fr
 rw[pm_one (val b)] at hone
 have hexp : Vw .u32 w5 (.slice A2 e.length c2) e := ⟨A2, c2, rfl, hc2, hr2.nb f5⟩
 obtain ⟨M, hMv⟩ : ∃ M, M = val m := ⟨_, rfl⟩
 obtain ⟨B, hBv⟩ : ∃ B, B = val b := ⟨_, rfl⟩
 rw[← hMv] at hm5 hone hbase hM0 hK
 rw[← hBv] at hone hbase hK
 have hlm : (limbs M).length ≤ 256 := by rw[hMv]; omega
 have lmod : ∀ a : Int, (limbs (a % M)).length ≤ 256 := fun a => Nat.le_trans (len_mod hM0) hlm
 clear hm3 hm4 vm2 vb2 g4 g5 n1 n2 n3 hr1 hr3 f1 f2 f3 f4 lm
 simp(disch:=omega)only[EZ,↓EP,↓reduceIte,Za,Zb,Zc,Zd,Ze,Zf,Zg,Zj,Zk,Zl,Zm,Zn,Zp,Zq,reduceCtorEq]
 refine al_k (List.replicate 16 (.slice none 0 0)) (by simp) fun w6 n6 => ?_
 have fn := n6.fr nob
 have hlt : ∀ x, x < w5.heap.size → ¬ (x = w5.heap.size) := fun x h e => by omega
 have hm6 : Nr w6 vm3 M (fun x => x = w5.heap.size) := (hm5.nr hlt).fr (fn.any _)
 have hbase6 : Nr w6 v5 (B % M) (fun x => x = w5.heap.size) := (hbase.nr hlt).fr (fn.any _)
 have hone6 : Nr w6 v4 (B ^ 0 % M) (fun x => x = w5.heap.size) := (hone.nr hlt).fr (fn.any _)
 have hexp6 : RO .u32 w6 A2 e (fun x => x = w5.heap.size) := by
  rcases hr2.nb f5 with hn | ⟨p, hA, hl, hc⟩
  ·exact .inl (nums_isNil hn)
  ·exact (RO.fr (.inr ⟨p, hA, hl, by omega, hc⟩) (fn.any _))
 have hB6 := n6.blk
 have lt6 := hB6.lt
 have f6 := f5.nb fn
 have sz5 := f5.size
 obtain ⟨rb, hrb⟩ : ∃ rb, rb = w5.heap.size := ⟨_, rfl⟩
 simp(disch:=omega)only[EZ,↓EP,↓reduceIte,Za,Zb,Zc,Zd,Ze,Zf,Zg,Zj,Zk,Zl,Zm,Zn,Zp,Zq,reduceCtorEq,← hrb]
 rw[← hrb] at hm6 hbase6 hone6 hexp6 hB6 lt6 sz5
 obtain ⟨A4, c4, e4, hc4, _⟩ := hone6.nv.2
 refine st_one hB6 (by simp) (by rw[e4]; rfl) fun w7 p7 => ?_
 have f67 := p7.fr
 have hR7 : Rw w7 rb ((List.replicate 16 (Value.slice none 0 0)).set 0 v4) B M 0 := ⟨p7.blk, by simp, fun i hi => ⟨v4, by
  have : i = 0 := by omega
  subst this
  simp, by
  have : i = 0 := by omega
  subst this
  exact hone6.fr f67⟩⟩
 have hm7 := hm6.fr f67
 have hbase7 := hbase6.fr f67
 have hone7 := hone6.fr f67
 have hexp7 := hexp6.fr f67
 have f7 := f6.own p7.fr fun b e => by omega
 clear hm6 hbase6 hone6 hexp6 hB6 f67 hm5 hbase hone hexp n6 fn p7
 simp(disch:=omega)only[EZ,↓EP,↓reduceIte,Za,Zb,Zc,Zd,Ze,Zf,Zg,Zj,Zk,Zl,Zm,Zn,Zp,Zq,reduceCtorEq]
 refine loop_inv (fun t ρ w' => ∃ (k : Nat) (rv : List Value), ρ 45 = .int .i64 k ∧ k ≤ 15 ∧ t = 15 - k ∧ Rw w' rb rv B M k ∧ Fr w w' nob ∧ Fr w7 w' (fun x => x = rb)) 15
  ⟨0, _, by simp(disch:=omega)only[EZ,↓EP,↓reduceIte,Za,Zb,Zc,Zd,Ze,Zf,Zg,Zj,Zk,Zl,Zm,Zn,Zp,Zq,reduceCtorEq], by omega, rfl, hR7, f7, Fr.refl _ _⟩ ?_
 rintro t ρ w8 hf ⟨k, rv, h45, hk, rfl, hR, f8, f78⟩ N hN
 have q1 : ρ 1 = .slice A2 e.length c2 := by rw[hf 1 rfl]; simp(disch:=omega)only[EZ,↓EP,↓reduceIte,Za,Zb,Zc,Zd,Ze,Zf,Zg,Zj,Zk,Zl,Zm,Zn,Zp,Zq,reduceCtorEq]
 have q2 : ρ 2 = vm3 := by rw[hf 2 rfl]; simp(disch:=omega)only[EZ,↓EP,↓reduceIte,Za,Zb,Zc,Zd,Ze,Zf,Zg,Zj,Zk,Zl,Zm,Zn,Zp,Zq,reduceCtorEq]
 have q9 : ρ 9 = v4 := by rw[hf 9 rfl]; simp(disch:=omega)only[EZ,↓EP,↓reduceIte,Za,Zb,Zc,Zd,Ze,Zf,Zg,Zj,Zk,Zl,Zm,Zn,Zp,Zq,reduceCtorEq]
 have q11 : ρ 11 = v5 := by rw[hf 11 rfl]; simp(disch:=omega)only[EZ,↓EP,↓reduceIte,Za,Zb,Zc,Zd,Ze,Zf,Zg,Zj,Zk,Zl,Zm,Zn,Zp,Zq,reduceCtorEq]
 have q12 : ρ 12 = .pointer (some ⟨rb, 0, none⟩) := by rw[hf 12 rfl]; simp(disch:=omega)only[EZ,↓EP,↓reduceIte,Za,Zb,Zc,Zd,Ze,Zf,Zg,Zj,Zk,Zl,Zm,Zn,Zp,Zq,reduceCtorEq,← hrb]
 clear hf
 have ltr := hR.blk.lt
 have szr := f8.size
 by_cases hk15 : (k : Int) < 15
 ·obtain ⟨v, ev, hv⟩ := hR.each k (Nat.le_refl _)
  obtain ⟨A5, c5, e5, hc5, _⟩ := hv.nv.2
  have cv : w8.cell? ⟨rb, k, none⟩ = some (.slice A5 (limbs (B ^ k % M)).length c5) := by rw[hR.blk.cell?,ev,e5]
  simp(disch:=omega)only[EZ,↓EP,↓reduceIte,Za,Zb,Zc,Zd,Ze,Zf,Zg,Zj,Zk,Zl,Zm,Zn,Zp,Zq,reduceCtorEq,h45,q2,q11,q12,cv]
  rw[← e5]
  refine times_nv hv.nv (hbase7.fr f78).nv (hm7.fr f78).nv hM0 (n := 256) (lmod _) (lmod _) hlm (by omega) _ fun v9 w9 g9 => ?_
  rw[pm_succ] at g9
  obtain ⟨A6, c6, e6, _, _⟩ := g9.vw
  have hR9 := hR.nb g9.fr
  simp(disch:=omega)only[EO, ↓EP, EQ, EM, ↓reduceIte, Za, Zb, Zc, Zd, Ze, Zf, Zg, Zj, Zk, Zl, Zm, Zn, Zp, Zq, reduceCtorEq, h45, q12, show ((k : Int) + 1).toNat = k + 1 by omega]
  refine st_one hR9.blk (by rw[hR.len]; omega) (by rw[e6]; rfl) fun w10 p10 => ?_
  have n9 : Nr w9 v9 (B ^ (k + 1) % M) (fun x => x = rb) := gw_nr g9 (mod_bd hM0).1 fun b hb e => by omega
  simp(disch:=omega)only[EZ,↓EP,↓reduceIte,Za,Zb,Zc,Zd,Ze,Zf,Zg,Zj,Zk,Zl,Zm,Zn,Zp,Zq,reduceCtorEq,h45]
  refine hN (15 - (k + 1)) _ _ (by omega) ⟨k + 1, _, by simp(disch:=omega)only[EZ,↓EP,↓reduceIte,Za,Zb,Zc,Zd,Ze,Zf,Zg,Zj,Zk,Zl,Zm,Zn,Zp,Zq,reduceCtorEq,h45,Int.natCast_add], by omega, rfl, ⟨p10.blk, by rw[List.length_set]; exact hR.len, fun i hi => ?_⟩, (f8.nb g9.fr).own p10.fr fun b e => by omega, (f78.trans (g9.fr.any _) fun _ _ e => e).trans p10.fr fun _ _ e => e⟩
  by_cases hik : i = k + 1
  ·subst hik
   exact ⟨v9, by rw[List.getElem?_set_self (by rw [hR.len]; omega)], n9.fr p10.fr⟩
  ·obtain ⟨v', e', hv'⟩ := hR9.each i (by omega)
   exact ⟨v', by rw[List.getElem?_set_ne (by omega)]; exact e', hv'.fr p10.fr⟩
 have hk15 : k = 15 := by omega
 subst hk15
 clear hN
 have hexp8 := hexp7.fr f78
 have hm8 := hm7.fr f78
 have hone8 := (hone7.fr f78).nv
 clear hexp7 hm7 hone7 hbase7 hR7 f78 hk15
 have hv8 : Vw .u32 w8 (.slice A2 e.length c2) e := ⟨A2, c2, rfl, hc2, hexp8.rd⟩
 simp(disch:=omega)only[EZ,↓EP,↓reduceIte,Za,Zb,Zc,Zd,Ze,Zf,Zg,Zj,Zk,Zl,Zm,Zn,Zp,Zq,reduceCtorEq,h45,q1,q9]
 refine bits_vw hv8 hE (by omega) _ ?_
 have hbl : bl (val e) ≤ 32 * e.length := (bl_le b2).2 (by rw[← pw_p2]; exact (val_bd hE).2)
 obtain ⟨E, hEv⟩ : ∃ E, E = (val e).toNat := ⟨_, rfl⟩
 rw[← hEv] at hK
 have e3 : (((bl (val e) : Nat) : Int) + 3) / 4 * 4 = ((4 * ((bl (val e) + 3) / 4) : Nat) : Int) := by omega
 have hE0 : E / 16 ^ ((bl (val e) + 3) / 4) = 0 := by
  apply Nat.div_eq_of_lt
  have h1 := (bl_le b2 (k := 4 * ((bl (val e) + 3) / 4))).1 (by omega)
  rw[← pow16] at h1
  have h2 : ((16 ^ ((bl (val e) + 3) / 4) : Nat) : Int) = (16 : Int) ^ ((bl (val e) + 3) / 4) := by push_cast; rfl
  omega
 have ht0 : 4 * ((bl (val e) + 3) / 4) < bl (val e) + 4 := by omega
 generalize (bl (val e) + 3) / 4 = t0 at *
 simp(disch:=omega)only[EZ,↓EP,↓reduceIte,Za,Zb,Zc,Zd,Ze,Zf,Zg,Zj,Zk,Zl,Zm,Zn,Zp,Zq,reduceCtorEq,e3]
 refine loop_inv (fun t ρ2 w' => ∃ vo, ρ2 15 = .int .i64 ((4 * t : Nat) : Int) ∧ t ≤ t0 ∧ ρ2 14 = vo ∧ Nv w' vo (B ^ (E / 16 ^ t) % M) ∧ Fr w8 w' nob) t0
  ⟨v4, by simp(disch:=omega)only[EZ,↓EP,↓reduceIte,Za,Zb,Zc,Zd,Ze,Zf,Zg,Zj,Zk,Zl,Zm,Zn,Zp,Zq,reduceCtorEq,e3], Nat.le_refl _, by simp(disch:=omega)only[EZ,↓EP,↓reduceIte,Za,Zb,Zc,Zd,Ze,Zf,Zg,Zj,Zk,Zl,Zm,Zn,Zp,Zq,reduceCtorEq,q9], by rw[hE0]; exact hone8, Fr.refl _ _⟩ ?_
 rintro t ρ2 w9 hf ⟨vo, h15, ht, h14, hvo, f9⟩ N hN
 have p1 : ρ2 1 = .slice A2 e.length c2 := by rw[hf 1 rfl]; simp(disch:=omega)only[EZ,↓EP,↓reduceIte,Za,Zb,Zc,Zd,Ze,Zf,Zg,Zj,Zk,Zl,Zm,Zn,Zp,Zq,reduceCtorEq,q1]
 have p2 : ρ2 2 = vm3 := by rw[hf 2 rfl]; simp(disch:=omega)only[EZ,↓EP,↓reduceIte,Za,Zb,Zc,Zd,Ze,Zf,Zg,Zj,Zk,Zl,Zm,Zn,Zp,Zq,reduceCtorEq,q2]
 have p12 : ρ2 12 = .pointer (some ⟨rb, 0, none⟩) := by rw[hf 12 rfl]; simp(disch:=omega)only[EZ,↓EP,↓reduceIte,Za,Zb,Zc,Zd,Ze,Zf,Zg,Zj,Zk,Zl,Zm,Zn,Zp,Zq,reduceCtorEq,q12]
 clear hf
 cases t with
 | zero =>
  rw[Nat.pow_zero,Nat.div_one] at hvo
  simp(disch:=omega)only[EZ,↓EP,↓reduceIte,Za,Zb,Zc,Zd,Ze,Zf,Zg,Zj,Zk,Zl,Zm,Zn,Zp,Zq,reduceCtorEq,h15,h14,Int.natCast_zero,Nat.mul_zero]
  refine trim_vw hvo.2 (limbs_lim _) (by have := lmod (B ^ E); omega) _ fun v10 w10 g10 => ?_
  rw[limbs_val hvo.1] at g10
  simp(disch:=omega)only[EZ,↓EP,↓reduceIte,Za,Zb,Zc,Zd,Ze,Zf,Zg,Zj,Zk,Zl,Zm,Zn,Zp,Zq,reduceCtorEq]
  exact hK v10 w10 (g10.from (f8.nb f9))
 | succ i =>
  simp(disch:=omega)only[EZ,↓EP,↓reduceIte,Za,Zb,Zc,Zd,Ze,Zf,Zg,Zj,Zk,Zl,Zm,Zn,Zp,Zq,reduceCtorEq,h15]
  refine loop_inv (fun s ρ3 w' => ∃ (j : Nat) (vo : Value), ρ3 68 = .int .i64 j ∧ j ≤ 4 ∧ s = 4 - j ∧ ρ3 14 = vo ∧ Nv w' vo (B ^ (E / 16 ^ (i + 1) * 2 ^ j) % M) ∧ Fr w8 w' nob) 4
   ⟨0, vo, by simp(disch:=omega)only[EZ,↓EP,↓reduceIte,Za,Zb,Zc,Zd,Ze,Zf,Zg,Zj,Zk,Zl,Zm,Zn,Zp,Zq,reduceCtorEq], by omega, rfl, by simp(disch:=omega)only[EZ,↓EP,↓reduceIte,Za,Zb,Zc,Zd,Ze,Zf,Zg,Zj,Zk,Zl,Zm,Zn,Zp,Zq,reduceCtorEq,h14], by rw[Nat.pow_zero,Nat.mul_one]; exact hvo, f9⟩ ?_
  rintro s ρ3 w10 hf ⟨j, vo2, h68, hj, rfl, h14', hvo2, f10⟩ N2 hN2
  have r1 : ρ3 1 = .slice A2 e.length c2 := by rw[hf 1 rfl]; simp(disch:=omega)only[EZ,↓EP,↓reduceIte,Za,Zb,Zc,Zd,Ze,Zf,Zg,Zj,Zk,Zl,Zm,Zn,Zp,Zq,reduceCtorEq,p1]
  have r2 : ρ3 2 = vm3 := by rw[hf 2 rfl]; simp(disch:=omega)only[EZ,↓EP,↓reduceIte,Za,Zb,Zc,Zd,Ze,Zf,Zg,Zj,Zk,Zl,Zm,Zn,Zp,Zq,reduceCtorEq,p2]
  have r12 : ρ3 12 = .pointer (some ⟨rb, 0, none⟩) := by rw[hf 12 rfl]; simp(disch:=omega)only[EZ,↓EP,↓reduceIte,Za,Zb,Zc,Zd,Ze,Zf,Zg,Zj,Zk,Zl,Zm,Zn,Zp,Zq,reduceCtorEq,p12]
  have r15 : ρ3 15 = .int .i64 ((4 * (i + 1) : Nat) : Int) := by rw[hf 15 rfl]; simp(disch:=omega)only[EZ,↓EP,↓reduceIte,Za,Zb,Zc,Zd,Ze,Zf,Zg,Zj,Zk,Zl,Zm,Zn,Zp,Zq,reduceCtorEq,h15]
  clear hf
  have hm10 := (hm8.fr (f10.any _)).nv
  by_cases hj4 : (j : Int) < 4
  ·simp(disch:=omega)only[EZ,↓EP,↓reduceIte,Za,Zb,Zc,Zd,Ze,Zf,Zg,Zj,Zk,Zl,Zm,Zn,Zp,Zq,reduceCtorEq,h68,h14',r2]
   refine times_nv hvo2 hvo2 hm10 hM0 (n := 256) (lmod _) (lmod _) hlm (by omega) _ fun v11 w11 g11 => ?_
   rw[pm_mul] at g11
   simp(disch:=omega)only[EZ,↓EP,↓reduceIte,Za,Zb,Zc,Zd,Ze,Zf,Zg,Zj,Zk,Zl,Zm,Zn,Zp,Zq,reduceCtorEq,h68]
   refine hN2 (4 - (j + 1)) _ _ (by omega) ⟨j + 1, v11, by simp(disch:=omega)only[EZ,↓EP,↓reduceIte,Za,Zb,Zc,Zd,Ze,Zf,Zg,Zj,Zk,Zl,Zm,Zn,Zp,Zq,reduceCtorEq,h68,Int.natCast_add], by omega, rfl, by simp(disch:=omega)only[EZ,↓EP,↓reduceIte,Za,Zb,Zc,Zd,Ze,Zf,Zg,Zj,Zk,Zl,Zm,Zn,Zp,Zq,reduceCtorEq], ?_, f10.nb g11.fr⟩
   have ex : ∀ a : Nat, a * 2 ^ (j + 1) = a * 2 ^ j + a * 2 ^ j := fun a => by rw[Nat.pow_succ,← Nat.mul_assoc,Nat.mul_two]
   rw[ex]
   exact g11.nv (mod_bd hM0).1
  ·have hj4 : j = 4 := by omega
   subst hj4
   have hi8 : i / 8 < e.length := by omega
   obtain ⟨p, rfl, _, hp⟩ := (hexp8.rd.nb f10).get (by rw[nums_length]; omega)
   have cp := hp.numN (j := i / 8) hi8
   have bx := hE.at (i / 8 : Nat)
   have ei : (((4 * (i + 1) : Nat) : Int) - 4) / 32 = ((i / 8 : Nat) : Int) := by omega
   have er : min ((((4 * (i + 1) : Nat) : Int) - 4) % 32).toNat 32 = 4 * (i % 8) := by omega
   have hp2 : (0 : Int) < 2 ^ (4 * (i % 8)) := p2_pos _
   have hsh0 := Int.ediv_nonneg bx.1 (show (0 : Int) ≤ 2 ^ (4 * (i % 8)) by omega)
   have hsh1 : at' e (i / 8 : Nat) / 2 ^ (4 * (i % 8)) < 4294967296 := by
    have := Int.ediv_le_self (2 ^ (4 * (i % 8))) bx.1
    omega
   have hn := nib_of hE i
   rw[← hEv] at hn
   have hand := and15 hsh0 hsh1
   rw[hn] at hand
   obtain ⟨x, hx⟩ : ∃ x : Nat, x = E / 16 ^ i % 16 := ⟨_, rfl⟩
   rw[← hx] at hand
   obtain ⟨v, ev, hv⟩ := (hR.nb f10).each x (by omega)
   obtain ⟨A5, c5, e5, hc5, _⟩ := hv.nv.2
   have cv : w10.cell? ⟨rb, x, none⟩ = some (.slice A5 (limbs (B ^ x % M)).length c5) := by rw[(hR.nb f10).blk.cell?,ev,e5]
   have hx16 : x < 16 := by omega
   simp(disch:=omega)only[Zu,Zv,Zx,Zz,EZ,↓EP,↓reduceIte,Za,Zb,Zc,Zd,Ze,Zf,Zg,Zj,Zk,Zl,Zm,Zn,Zp,Zq,reduceCtorEq,h68,h14',r1,r2,r12,r15,ei,er,cp,hand,cv]
   rw[← e5]
   refine times_nv hvo2 hv.nv hm10 hM0 (n := 256) (lmod _) (lmod _) hlm (by omega) _ fun v11 w11 g11 => ?_
   rw[pm_mul] at g11
   have hexpo : E / 16 ^ (i + 1) * 2 ^ 4 + x = E / 16 ^ i := by
    rw[Nat.pow_succ,← Nat.div_div_eq_div_mul,hx]
    omega
   rw[hexpo] at g11
   have e5 : ((4 * (i + 1) : Nat) : Int) - 4 = ((4 * i : Nat) : Int) := by omega
   simp(disch:=omega)only[EZ,↓EP,↓reduceIte,Za,Zb,Zc,Zd,Ze,Zf,Zg,Zj,Zk,Zl,Zm,Zn,Zp,Zq,reduceCtorEq,r15,e5]
   exact hN i _ _ (by omega) ⟨v11, by simp(disch:=omega)only[EZ,↓EP,↓reduceIte,Za,Zb,Zc,Zd,Ze,Zf,Zg,Zj,Zk,Zl,Zm,Zn,Zp,Zq,reduceCtorEq,r15,e5], by omega, by simp(disch:=omega)only[EZ,↓EP,↓reduceIte,Za,Zb,Zc,Zd,Ze,Zf,Zg,Zj,Zk,Zl,Zm,Zn,Zp,Zq,reduceCtorEq], g11.nv (mod_bd hM0).1, f10.nb g11.fr⟩
end Go.Proofs.YtcgplgpdcfocpaaGreatDoor.Spec
end
section
namespace Go.Proofs.YtcgplgpdcfocpaaGreatDoor.Spec
open Go Go.RowKit Go.Proofs Go.Proofs.YtcgplgpdcfocpaaGreatDoor.Eng Go.Proofs.YtcgplgpdcfocpaaGreatDoor.Code Go.Proofs.YtcgplgpdcfocpaaGreatDoor.Big
attribute [local irreducible] callK S.W opsW scrW
end Go.Proofs.YtcgplgpdcfocpaaGreatDoor.Spec
end
section
namespace Go.Proofs.YtcgplgpdcfocpaaGreatDoor.Spec
open Go Go.RowKit Go.Proofs Go.Proofs.YtcgplgpdcfocpaaGreatDoor.Eng Go.Proofs.YtcgplgpdcfocpaaGreatDoor.Code Go.Proofs.YtcgplgpdcfocpaaGreatDoor.Big
attribute [local irreducible] callK S.W opsW scrW
section
variable {w : World} {va vb vc : Value} {l r m : List Int} {x y z : Int} {n : Nat}
end
end Go.Proofs.YtcgplgpdcfocpaaGreatDoor.Spec
end
section
namespace Go.Proofs.YtcgplgpdcfocpaaGreatDoor.Row
open Go Go.ChangeShapes Go.WideShapes Go.ChangeAt Go.WideMaps Go.WideElems Go.RowKit Go.Proofs.YtcgplgpdcfocpaaGreatDoor.Eng
section
variable {H : Type} {enc : TypeId × Value → H} {P : Program}
theorem fr_below {W W' : World} (f : Fr W W' nob) : Below W.heap.size W W' := f.below (Nat.le_refl _) fun _ h => h.elim
theorem trodAll_stays (hl : laidOutB P = true) {W W' : World} (hb : Below W.heap.size W W') : ∀ (ts : List TypeId) (vs : List Value) (ds : List (DataW H)) (ps : List MemPlace), (∀ t ∈ ts, P.readableRec t = true ∧ t < P.types.size) →
  DataW.TrodAll enc P W 0 (fun _ => true) true ts vs ds ps → (∀ x ∈ ps, x.block < W.heap.size) → DataW.TrodAll enc P W' 0 (fun b => decide (b < W.heap.size)) true ts vs ds ps
 | [], vs, ds, ps, _, h, _ => by
  obtain ⟨rfl, rfl, rfl⟩ := trodAll_nil h
  exact h
 | t :: ts, vs, ds, ps, hr, h, hlt => by
  obtain ⟨v, vs', d, ds', p, q, rfl, rfl, rfl, hd, hrest⟩ := trodAll_cons h
  exact trodAll_cons_mk (Below.trod hl (hr t (by simp)).1 (hr t (by simp)).2 hd hb fun x hx => hlt x (by simp[hx]))
   (trodAll_stays hl hb ts vs' ds' q (fun u hu => hr u (by simp[hu])) hrest fun x hx => hlt x (by simp[hx]))
theorem lifted_of {C : Checked} {os : Os} {f : FuncId} {fn : Func} {s : ChangeSpec} {X : World → Array Value → Prop} {tb : TypeId} (hX : ∀ (w w' : World) (args : Array Value), w.heap = w'.heap → X w args → X w' args)
  (own : ownKnob C.prog.godebug = none) (started : os.Started) (noInit : C.prog.inits.idxOf? f = none) (hfn : C.prog.funcs[f]? = some fn)
  (witness : ∃ (w : World) (tape : Tape) (i : Input), w.os = os ∧ (w.forCall tape i).Shaped C.prog ∧ i.vars = [] ∧ Input.okWide C.prog (w.forCall tape i) .any w.heap.size f i ∧
   ((s.pre enc C.prog fn [] false (w.forCall tape i).memory i.args ∧ X (w.forCall tape i).memory i.args) ∧ sizedMet enc C.prog fn (OpenSpec.ofChange s) false (w.forCall tape i).memory i.args) ∧ ({} : Assume).holds C.prog (lone (Frame.enter C.prog f i.args .normal) [] (w.forCall tape i)))
  (hl : laidOutB C.prog = true) (hres : fn.resultTypes = #[tb]) (htb : C.prog.underlying tb = some .bool) (hvars : s.vars = []) (hread : ∀ t ∈ fn.params.toList, C.prog.readableRec t = true ∧ t < C.prog.types.size)
  (hspec : ∀ ds : List (DataW H), ds.length = fn.params.size → (s.fn H ds).results = [.lit (.bool true)] ∧ (s.fn H ds).args = ds ∧ (s.fn H ds).vars = [])
  (walk : ∀ (W : World) (base : Nat) (args : Array Value) (ds : List (DataW H)) (p : List MemPlace), DataW.TrodAll enc C.prog W 0 (fun _ => true) true fn.params.toList args.toList ds p →
   (∀ (j : Nat) t v, fn.params[j]? = some t → args[j]? = some v → Value.okWide C.prog W .any base t v) → (DataW.weightsEach C.prog fn.params.toList ds).all (· ≤ reachBytes) = true → X W args →
   callK C.prog f args.toList W fun v w' => v = .bool true ∧ Fr W w' nob) :
  ReturnsInHanded {} C os f .any (fun w args => (s.pre enc C.prog fn [] false w args ∧ X w args) ∧ sizedMet enc C.prog fn (OpenSpec.ofChange s) false w args) (s.post enc C.prog fn false true false false) := by
 refine returnsInHanded_of_change_and (C := C) (X := X) hX own started noInit hfn witness ?_
 intro W base args ds gs before hval hW _ hz hL _
 have hW' := hW
 obtain ⟨p, q, hA, hV, rfl, hfz, hnd⟩ := hW
 rw[hvars] at hV
 obtain ⟨rfl, rfl⟩ := trodVars_none hV
 have hvt : s.plain.varTypes C.prog = [] := by
  have : s.plain.vars = [] := by show s.vars = []; exact hvars
  simp[DataSpec.varTypes,this]
 rw[hvt,List.append_nil,List.append_nil] at hz
 have hlen : ds.length = fn.params.size := by have := (trodAll_length hA).2; simpa using this
 obtain ⟨h1, h2, h3⟩ := hspec ds hlen
 have hlt : ∀ x ∈ p, x.block < W.heap.size := fun x hx => hW'.lt x (by simp[hx])
 have hc := walk W base args ds p hA hval hz hL
 unfold callK at hc
 rw[Array.toArray_toList] at hc
 refine hc.mono fun e W' he => ?_
 obtain ⟨v, rfl, rfl, f⟩ := he
 have bel := fr_below f
 refine ⟨_, rfl, ds, [], p ++ [], [], p, [], hW', ?_, ?_, ?_, bel.frame _, fun h => by cases h⟩
 ·rw[List.append_nil,h1,hres]
  exact trodAll_mk1 (shut_bool htb _)
 ·rw[List.append_nil,h2]
  exact trodAll_stays hl bel _ _ _ _ hread hA hlt
 ·rw[List.append_nil,h3,hvars]
  exact hV
theorem open_sl {W : World} {base : Nat} {t e : TypeId} {k : IntKind} {v : Value} {d : DataW H} {p : List MemPlace} (ht : P.underlying t = some (.slice e)) (he : P.underlying e = some (.int k)) (hc : P.cellsOf e = 1)
  (hval : Value.okWide P W .any base t v) (h : DataW.Trod enc P W 0 (fun _ => true) true t v d p) :
  ∃ (A : Option Addr) (c : Nat) (l m : List Int), v = .slice A l.length c ∧ l.length ≤ c ∧ l.length ≤ maxLen ∧ (d = .nil ∧ l = [] ∨ d = .slice (lits k l) (lits k m)) ∧ Rd W A (nums k l) ∧ (∀ n ∈ l, (Lit.int k n).wf = true) := by
 obtain ⟨a1, len, cap, rfl⟩ := okWide_slice ht hval
 obtain ⟨fuel, hf⟩ := h
 rcases open_ints ht he hc hf with ⟨hcs, hx⟩ | ⟨a, len', cap', zs, hcs, _, hl, hm, hz, hx, hcell, hwz⟩
 ·simp[Value.cells] at hcs
  obtain ⟨rfl, rfl, rfl⟩ := hcs
  simp only[Prod.mk.injEq] at hx
  exact ⟨none, 0, [], [], rfl, Nat.le_refl _, Nat.zero_le _, .inl ⟨hx.1, rfl⟩, .inl rfl, fun n hn => by cases hn⟩
 ·simp[Value.cells] at hcs
  obtain ⟨rfl, rfl, rfl⟩ := hcs
  simp only[Prod.mk.injEq] at hx
  simp only[if_true] at hz
  have hlen : (zs.take len).length = len := by simp; omega
  refine ⟨some a, cap, zs.take len, zs.drop len, by rw[hlen], by omega, by omega, .inr hx.1, ?_, fun n hn => hwz n (List.mem_of_mem_take hn)⟩
  by_cases h0 : len = 0
  ·left; subst h0; simp[nums]
  ·right
   have hcl : cellsAt W a (nums k (zs.take len)) := by
    intro j v hj
    have hj' : j < len := by have := (List.getElem?_eq_some_iff.1 hj).1; simp[nums] at this; omega
    rw[hcell j (by omega),← hj]
    simp[nums, hj', List.getElem?_take, List.getElem?_eq_getElem (show j < zs.length by omega)]
   refine ⟨a, rfl, ?_, hcl⟩
   have h00 := hcell 0 (by omega)
   rw[add_zero'] at h00
   unfold World.cell? at h00
   cases hh : W.heap[a.block]? with
   | none => rw[hh] at h00; simp at h00
   | some o => exact (Array.getElem?_eq_some_iff.1 hh).1
theorem wf_u8 {n : Int} (h : (Lit.int .u8 n).wf = true) : 0 ≤ n ∧ n < 256 := by have := bounds_u8 h; omega
theorem wf_i64 {n : Int} (h : (Lit.int .i64 n).wf = true) : -9223372036854775808 ≤ n ∧ n ≤ 9223372036854775807 := bounds_i64 h
theorem len6 {α : Type} {l : List α} (h : l.length = 6) : ∃ a b c d e f, l = [a, b, c, d, e, f] := by
 match l, h with
 | [a, b, c, d, e, f], _ => exact ⟨a, b, c, d, e, f, rfl⟩
end
end Go.Proofs.YtcgplgpdcfocpaaGreatDoor.Row
end
section
namespace Go.Proofs.YtcgplgpdcfocpaaGreatDoor
open Go Go.ChangeShapes Go.WideShapes Go.ChangeAt Go.WideMaps Go.WideElems Go.RowKit Go.Proofs.YtcgplgpdcfocpaaGreatDoor.Eng Go.Proofs.YtcgplgpdcfocpaaGreatDoor.Spec
theorem own : ownKnob Tryz.prog.godebug = none := by kernel_rfl
theorem laidOut : laidOutB Tryz.prog = true := by kernel_rfl
theorem cells_u8 : Tryz.prog.cellsOf 5 = 1 := by kernel_rfl
end Go.Proofs.YtcgplgpdcfocpaaGreatDoor
end
section
namespace Go.Proofs.YtcgplgpdcfocpaaGreatDoor.Spec
open Go Go.RowKit Go.Proofs Go.Proofs.YtcgplgpdcfocpaaGreatDoor.Eng Go.Proofs.YtcgplgpdcfocpaaGreatDoor.Code Go.Proofs.YtcgplgpdcfocpaaGreatDoor.Big
attribute [local irreducible] callK S.W opsW scrW
def Vr (k : IntKind) (w : World) (v : Value) (l : List Int) (P : Nat → Prop) : Prop := ∃ A c, v = .slice A l.length c ∧ l.length ≤ c ∧ RO k w A l P
theorem Vr.vw {k : IntKind} {w : World} {v : Value} {l : List Int} {P : Nat → Prop} (h : Vr k w v l P) : Vw k w v l := by
 obtain ⟨A, c, e, hc, hr⟩ := h
 exact ⟨A, c, e, hc, hr.rd⟩
theorem Vr.fr {k : IntKind} {w w' : World} {v : Value} {l : List Int} {P : Nat → Prop} (h : Vr k w v l P) (f : Fr w w' P) : Vr k w' v l P := by
 obtain ⟨A, c, e, hc, hr⟩ := h
 exact ⟨A, c, e, hc, hr.fr f⟩
theorem gw_vr {k : IntKind} {w0 w : World} {v : Value} {l : List Int} {P : Nat → Prop} (g : Gw k w0 w v l) (hp : ∀ b, w0.heap.size ≤ b → ¬ P b) : Vr k w v l P := by
 obtain ⟨A, c, e, hc, hr, hb⟩ := g.sl.read
 refine ⟨A, c, e, hc, ?_⟩
 rcases hr with hn | ⟨p, hA, hlt, hcl⟩
 ·exact .inl (nums_isNil hn)
 ·exact .inr ⟨p, hA, hlt, hp _ (g.up _ (hb p hA)), hcl⟩
theorem vw_vr {k : IntKind} {w : World} {v : Value} {l : List Int} {P : Nat → Prop} (h : Vw k w v l) (hp : ∀ b, b < w.heap.size → ¬ P b) : Vr k w v l P := by
 obtain ⟨A, c, e, hc, hr⟩ := h
 refine ⟨A, c, e, hc, ?_⟩
 rcases hr with hn | ⟨p, hA, hlt, hcl⟩
 ·exact .inl (nums_isNil hn)
 ·exact .inr ⟨p, hA, hlt, hp _ hlt, hcl⟩
theorem dval_drop_at (l : List Int) {k : Nat} (h : k < l.length) : Dg.val (l.drop k) = at' l k + 65536 * Dg.val (l.drop (k + 1)) := by
 rw[List.drop_eq_getElem_cons h,Dg.val_cons,at_get h]
theorem ddrop_set {l : List Int} {k : Nat} {x : Int} (h : k < l.length) : Dg.val ((l.set k x).drop k) = x + 65536 * Dg.val (l.drop (k + 1)) := by
 rw[dval_drop_at _ (by rw [List.length_set]; exact h),at_setN h,List.drop_set_of_lt (by omega)]
theorem dtop2 (l : List Int) {j : Nat} (h : l.length ≤ j + 2) (hL : Dg.Lim l) : ∃ low : Int, 0 ≤ low ∧ low < Dg.pw j ∧ Dg.val l = (at' l (j + 1 : Nat) * 65536 + at' l j) * Dg.pw j + low := by
 refine ⟨Dg.val (l.take j), (Dg.val_bd (hL.take j)).1, ?_, ?_⟩
 ·have := (Dg.val_bd (hL.take j)).2
  have := Dg.pw_le (show (l.take j).length ≤ j by simp; omega)
  omega
 ·rw[← Dg.val_take_all (l := l) (n := j + 2) (by omega),Dg.val_take_succ' l (j + 1),Dg.val_take_succ' l j,Dg.pw_succ]
  grind
theorem dtop3 (l : List Int) {j : Nat} (h : l.length ≤ j + 3) (hL : Dg.Lim l) : ∃ low : Int, 0 ≤ low ∧ low < Dg.pw j ∧ Dg.val l = ((at' l (j + 2 : Nat) * 65536 + at' l (j + 1 : Nat)) * 65536 + at' l j) * Dg.pw j + low := by
 refine ⟨Dg.val (l.take j), (Dg.val_bd (hL.take j)).1, ?_, ?_⟩
 ·have := (Dg.val_bd (hL.take j)).2
  have := Dg.pw_le (show (l.take j).length ≤ j by simp; omega)
  omega
 ·rw[← Dg.val_take_all (l := l) (n := j + 3) (by omega), Dg.val_take_succ' l (j + 2), Dg.val_take_succ' l (j + 1), Dg.val_take_succ' l j, show Dg.pw (j + 2) = Dg.pw j * 65536 * 65536 by rw [Dg.pw_succ, Dg.pw_succ], Dg.pw_succ]
  grind
theorem dguess {W T H tl hl V R Q : Int} (hW : 0 < W) (htl : 0 ≤ tl) (hhl : hl < W) (hV : V = T * W + tl) (hR : R = H * W + hl) (hQ : Q * V ≤ R) (hQ0 : 0 ≤ Q) : Q * T ≤ H := by
 have h1 : Q * T * W ≤ Q * V := by
  rw[hV]
  have := Int.mul_nonneg hQ0 htl
  grind
 have h2 : Q * T * W < (H + 1) * W := by grind
 have := lt_of_mul h2 (by omega)
 omega
theorem quot_facts {R V : Int} (hV : 0 < V) (hR : 0 ≤ R) (hlt : R < 65536 * V) : 0 ≤ R / V ∧ R / V ≤ 65535 ∧ R / V * V ≤ R ∧ R < (R / V + 1) * V := by
 have h1 := Int.mul_ediv_add_emod R V
 have h2 := Int.emod_nonneg R (show V ≠ 0 by omega)
 have h3 := Int.emod_lt_of_pos R hV
 have h4 : R / V < 65536 := Int.ediv_lt_of_lt_mul hV hlt
 have e : R / V * V = V * (R / V) := Int.mul_comm _ _
 refine ⟨Int.ediv_nonneg hR (by omega), by omega, by omega, ?_⟩
 rw[Int.add_mul,Int.one_mul]; omega
def dgt (l : List Int) (i : Int) : Int := if i < 0 then 0 else at' l i
theorem digit_any {w : World} {va : Value} {l : List Int} (ha : Vw .u64 w va l) (h : l.length ≤ 4611686018427387904) (i : Int) (hi : -4611686018427387904 ≤ i ∧ i ≤ 4611686018427387904) (K : Value → World → Prop)
  (hK : K (.int .u64 (dgt l i)) w) : callK Tryz.prog 92 [va, .int .i64 i] w K := by
 unfold dgt at hK
 by_cases h0 : i < 0
 ·rw[if_pos h0] at hK
  exact digit_neg ha i h0 K hK
 ·rw[if_neg h0] at hK
  obtain ⟨n, rfl⟩ : ∃ n : Nat, i = n := ⟨i.toNat, by omega⟩
  exact digit_nat ha h n (by omega) K hK
theorem digit_qany {w : World} {va : Value} {l : List Int} (ha : Vw .u64 w va l) (h : l.length ≤ 4611686018427387904) (i : Int) (hi : -4611686018427387904 ≤ i ∧ i ≤ 4611686018427387904) (K : Value → Prop)
  (hK : K (.int .u64 (dgt l i))) : qcallK Tryz.prog 92 [va, .int .i64 i] w K :=
 ⟨_, fun n => digit_any (ha.nb (Fr.drewN w n nob)) h i hi _ ⟨rfl, n, rfl⟩, hK⟩
theorem dgt_lim {l : List Int} (h : Dg.Lim l) (i : Int) : 0 ≤ dgt l i ∧ dgt l i < 65536 := by
 unfold dgt; split
 ·omega
 ·exact h.at i
theorem dgt_nat (l : List Int) (i : Nat) : dgt l i = at' l i := by unfold dgt; rw[if_neg (by omega)]
theorem dguess_of {V R : Int} {n : Nat} (hV : 0 < V) (hn : n = (Dg.digs V).length) (hR0 : 0 ≤ R) (hR : R < 65536 * V) {H : Int}
  (hH : H = if 2 ≤ n then (dgt (Dg.digs R) n * 65536 + dgt (Dg.digs R) ((n : Int) - 1)) * 65536 + dgt (Dg.digs R) ((n : Int) - 2) else (dgt (Dg.digs R) 1 * 65536 + dgt (Dg.digs R) 0) * 65536) :
  R / V * (at' (Dg.digs V) ((n - 1 : Nat) : Int) * 65536 + dgt (Dg.digs V) ((n : Int) - 2)) ≤ H := by
 have hvV := Dg.digs_val (show 0 ≤ V by omega)
 have hvR := Dg.digs_val hR0
 have VL := Dg.digs_lim V
 have RL := Dg.digs_lim R
 obtain ⟨q0, q1, q2, q3⟩ := quot_facts hV hR0 hR
 have hVlt : V < Dg.pw n := by have := (Dg.val_bd VL).2; rw[hvV,← hn] at this; exact this
 have hRlen : (Dg.digs R).length ≤ n + 1 := (Dg.digs_len hR0).2 (by rw[Dg.pw_succ]; omega)
 have hn0 : 0 < n := by
  by_cases h : n = 0
  ·exfalso
   rw[h,Dg.pw_zero] at hVlt; omega
  ·omega
 by_cases h2 : 2 ≤ n
 ·rw[if_pos h2] at hH
  obtain ⟨j, rfl⟩ : ∃ j, n = j + 2 := ⟨n - 2, by omega⟩
  obtain ⟨tl, t0, t1, t2⟩ := dtop2 (Dg.digs V) (j := j) (by omega) VL
  obtain ⟨rl, r0, r1, r2⟩ := dtop3 (Dg.digs R) (j := j) (by omega) RL
  rw[show ((j + 2 : Nat) : Int) - 2 = (j : Nat) by omega, dgt_nat] 
  rw[show ((j + 2 : Nat) : Int) - 1 = (j + 1 : Nat) by omega, show ((j + 2 : Nat) : Int) - 2 = (j : Nat) by omega, dgt_nat, dgt_nat, dgt_nat] at hH
  rw[show j + 2 - 1 = j + 1 by omega]
  subst hH
  exact dguess (Dg.pw_pos j) t0 r1 (hvV.symm.trans t2) (hvR.symm.trans r2) q2 q0
 ·rw[if_neg h2] at hH
  obtain rfl : n = 1 := by omega
  have e2 : dgt (Dg.digs V) (((1 : Nat) : Int) - 2) = 0 := by unfold dgt; rw[if_pos (by omega)]
  have e3 : dgt (Dg.digs R) 1 = at' (Dg.digs R) (1 : Nat) := dgt_nat _ 1
  have e4 : dgt (Dg.digs R) 0 = at' (Dg.digs R) (0 : Nat) := dgt_nat _ 0
  have f1 : Dg.val (Dg.digs V) = at' (Dg.digs V) (0 : Nat) := by
   rw[← Dg.val_take_all (l := Dg.digs V) (n := 1) (by omega),Dg.val_take_succ' _ 0,Dg.pw_zero]; simp[Dg.val_nil]
  have f2 : Dg.val (Dg.digs R) = at' (Dg.digs R) (0 : Nat) + at' (Dg.digs R) (1 : Nat) * 65536 := by
   rw[← Dg.val_take_all (l := Dg.digs R) (n := 2) (by omega),Dg.val_take_succ' _ 1,Dg.val_take_succ' _ 0,Dg.pw_zero,Dg.pw_succ,Dg.pw_zero]; simp[Dg.val_nil]
  rw[e2,Int.add_zero,hH,e3,e4]
  rw[hvV] at f1
  rw[hvR] at f2
  have e5 : at' (Dg.digs V) ((1 - 1 : Nat) : Int) = V := f1.symm
  rw[e5]
  have : R / V * (V * 65536) = (R / V * V) * 65536 := by grind
  omega
structure DD (w0 w : World) (qb : Nat) (l : List Int) (V : Int) (t : Nat) (v : Value) (qs : List Int) (R : Int) : Prop where
 r0 : 0 ≤ R
 r1 : R < V
 rv : Vr .u64 w v (Dg.digs R) (fun b => b = qb)
 bq : Blk w qb (nums .u64 qs)
 ql : qs.length = l.length
 qL : Dg.Lim qs
 qz : ∀ j : Nat, j < t → at' qs j = 0
 eq : Dg.val (l.drop t) = Dg.val (qs.drop t) * V + R
 fr : Fr w0 w nob
set_option maxHeartbeats 4000000 in
theorem ddivmod_vw {w : World} {va vb : Value} {l : List Int} {V : Int} (ha : Vw .u64 w va l) (hb : Vw .u64 w vb (Dg.digs V)) (hL : Dg.Lim l) (h1 : l.length ≤ 16777216) (h2 : (Dg.digs V).length ≤ 16777000) (hV : 0 < V) (K : Value → World → Prop)
  (hK : ∀ u v w', Gw .u64 w w' u (Dg.digs (Dg.val l / V)) → Vw .u64 w' v (Dg.digs (Dg.val l % V)) → K (.tuple #[u, v]) w') : callK Tryz.prog 89 [va, vb] w K := by
 have qn : ∃ n, n = (Dg.digs V).length := ⟨_, rfl⟩
 obtain ⟨n, hn⟩ := qn
 obtain ⟨A, c, ea, hc, hl⟩ := id ha
 obtain ⟨B, d, eb, hd, hr⟩ := id hb
 have hvV := Dg.digs_val (show 0 ≤ V by omega)
 have VL := Dg.digs_lim V
 have hn0 : Dg.digs V ≠ [] := fun e => by rw[e,Dg.val_nil] at hvV; omega
 have hn1 : 0 < (Dg.digs V).length := List.length_pos_iff.2 hn0
 have htop0 : at' (Dg.digs V) (((Dg.digs V).length - 1 : Nat) : Int) ≠ 0 := by
  rcases (Dg.digs_can V).2 with e | e
  ·exact absurd e hn0
  ·exact e
 have hVlt : V < Dg.pw (Dg.digs V).length := by have := (Dg.val_bd VL).2; omega
 rw[← hn] at eb hd h2 hn1 htop0 hVlt
 have bt1 := VL.at (n - 1 : Nat)
 have bt2 := dgt_lim VL ((n : Int) - 2)
 have en1 : (n : Int) - 1 = ((n - 1 : Nat) : Int) := by omega
 have qT : ∃ T, T = at' (Dg.digs V) ((n - 1 : Nat) : Int) * 65536 + dgt (Dg.digs V) ((n : Int) - 2) := ⟨_, rfl⟩
 obtain ⟨T, hT⟩ := qT
 have hT0 : 0 < T ∧ T < 4294967296 := by omega
 refine call_of Tryz.func89 Code.h89 (by simp[Code.c89]) ?_
 simp(disch:=omega)only[EZ,↓EP,↓reduceIte,Za,Zb,Zc,Zd,Ze,Zf,Zg,Zj,Zk,Zl,Zm,Zn,Zp,Zq,reduceCtorEq,Code.c89,ea]
 rw[← ea]
 refine al_k (nums .u64 (List.replicate l.length 0)) (by rw[madeCells_list,nums_replicate]) fun w1 n1 => ?_
 have f1 := n1.fr nob
 have hB1 := n1.blk
 have lt1 := hB1.lt
 have vb1 : Vr .u64 w1 vb (Dg.digs V) (fun b => b = w.heap.size) := (vw_vr hb fun b hb e => by omega).fr (f1.any _)
 have va1 : Vr .u64 w1 va l (fun b => b = w.heap.size) := (vw_vr ha fun b hb e => by omega).fr (f1.any _)
 have qp := (hr.nb f1).get (by rw[nums_length]; omega)
 obtain ⟨p0, eB, hlt0, hp0⟩ := qp
 have cb1 := hp0.numN (j := n - 1) (by omega)
 rw[eB] at eb
 simp(disch:=omega)only[EZ,↓EP,↓reduceIte,Za,Zb,Zc,Zd,Ze,Zf,Zg,Zj,Zk,Zl,Zm,Zn,Zp,Zq,reduceCtorEq,eb,en1,cb1]
 rw[← eb]
 refine digit_qany vb1.vw (by omega) _ (by omega) _ ?_
 simp(disch:=omega)only[Zu,Zv,Zx,Zz,EZ,↓EP,↓reduceIte,Za,Zb,Zc,Zd,Ze,Zf,Zg,Zj,Zk,Zl,Zm,Zn,Zp,Zq,reduceCtorEq,← hT]
 intro m1
 have f2 : Fr w (w1.drewN m1) nob := f1.nb (Fr.drewN w1 m1 nob)
 have D0 : DD w (w1.drewN m1) w.heap.size l V l.length (.slice none 0 0) (List.replicate l.length 0) 0 :=
  ⟨Int.le_refl _, hV, by rw[Dg.digs_zero]; exact ⟨none, 0, rfl, Nat.le_refl _, .inl rfl⟩, hB1.nb (Fr.drewN w1 m1 nob), by simp, Dg.Lim.zeros _, fun j _ => at_zeros _ _, by simp[Dg.val_nil], f2⟩
 have lt2 : w.heap.size < (w1.drewN m1).heap.size := by simpa using lt1
 have va2 := va1.fr (Fr.drewN w1 m1 _)
 have vb2 := vb1.fr (Fr.drewN w1 m1 _)
 generalize w1.drewN m1 = w2 at D0 lt2 va2 vb2 f2 ⊢
 simp(disch:=omega)only[EZ,↓EP,↓reduceIte,Za,Zb,Zc,Zd,Ze,Zf,Zg,Zj,Zk,Zl,Zm,Zn,Zp,Zq,reduceCtorEq,ea]
 refine loop_inv (fun t ρ w' => ∃ v qs R, ρ 10 = .int .i64 ((t : Int) - 1) ∧ t ≤ l.length ∧ ρ 9 = v ∧ DD w w' w.heap.size l V t v qs R ∧ Fr w2 w' (fun b => b = w.heap.size)) l.length
  ⟨_, _, _, by simp(disch:=omega)only[EZ,↓EP,↓reduceIte,Za,Zb,Zc,Zd,Ze,Zf,Zg,Zj,Zk,Zl,Zm,Zn,Zp,Zq,reduceCtorEq], Nat.le_refl _, by simp(disch:=omega)only[EZ,↓EP,↓reduceIte,Za,Zb,Zc,Zd,Ze,Zf,Zg,Zj,Zk,Zl,Zm,Zn,Zp,Zq,reduceCtorEq], D0, Fr.refl _ _⟩ ?_
 rintro t ρ w3 hf ⟨v, qs, R, h10, htl, h9, D, f3⟩ N hN
 have q0 : ρ 0 = va := by rw[hf 0 rfl]; simp(disch:=omega)only[EZ,↓EP,↓reduceIte,Za,Zb,Zc,Zd,Ze,Zf,Zg,Zj,Zk,Zl,Zm,Zn,Zp,Zq,reduceCtorEq]
 have q1 : ρ 1 = vb := by rw[hf 1 rfl]; simp(disch:=omega)only[EZ,↓EP,↓reduceIte,Za,Zb,Zc,Zd,Ze,Zf,Zg,Zj,Zk,Zl,Zm,Zn,Zp,Zq,reduceCtorEq]
 have q6 : ρ 6 = .slice (some ⟨w.heap.size, 0, none⟩) l.length l.length := by rw[hf 6 rfl]; simp(disch:=omega)only[EZ,↓EP,↓reduceIte,Za,Zb,Zc,Zd,Ze,Zf,Zg,Zj,Zk,Zl,Zm,Zn,Zp,Zq,reduceCtorEq]
 have q7 : ρ 7 = .int .i64 n := by rw[hf 7 rfl]; simp(disch:=omega)only[EZ,↓EP,↓reduceIte,Za,Zb,Zc,Zd,Ze,Zf,Zg,Zj,Zk,Zl,Zm,Zn,Zp,Zq,reduceCtorEq,eb]
 have q8 : ρ 8 = .int .u64 T := by rw[hf 8 rfl]; simp(disch:=omega)only[Zu,Zv,Zx,Zz,EZ,↓EP,↓reduceIte,Za,Zb,Zc,Zd,Ze,Zf,Zg,Zj,Zk,Zl,Zm,Zn,Zp,Zq,reduceCtorEq,← hT]
 clear hf
 have va3 := va2.fr f3
 have vb3 := vb2.fr f3
 have lt3 := f3.size
 cases t with
 | zero =>
  simp(disch:=omega)only[EZ,↓EP,↓reduceIte,Za,Zb,Zc,Zd,Ze,Zf,Zg,Zj,Zk,Zl,Zm,Zn,Zp,Zq,reduceCtorEq,h10,h9,q6,Int.natCast_zero]
  have he := D.eq
  rw[List.drop_zero,List.drop_zero] at he
  obtain ⟨d1, d2⟩ := div_of he D.r0 D.r1
  have gq : Gw .u64 w w3 (.slice (some ⟨w.heap.size, 0, none⟩) l.length l.length) qs := own_cut D.bq (Nat.le_refl _) D.fr D.ql (Nat.le_refl _) (by rw[← D.ql,List.take_length])
  refine plain_gw gq D.qL (by have := D.ql; omega) _ fun v5 g5 => ?_
  rw[← d1] at g5
  simp(disch:=omega)only[EZ,↓EP,↓reduceIte,Za,Zb,Zc,Zd,Ze,Zf,Zg,Zj,Zk,Zl,Zm,Zn,Zp,Zq,reduceCtorEq,h9]
  exact hK _ _ w3 g5 (by rw[d2]; exact D.rv.vw)
 | succ k =>
  have h10' : ρ 10 = .int .i64 k := by rw[h10]; congr 1; omega
  have qa := va3
  obtain ⟨A', c', ea', hca', hRO⟩ := qa
  rw[ea] at ea'
  cases ea'
  have qc := hRO.rd.get (by rw[nums_length]; omega)
  obtain ⟨pa, eA, hltA, hpa⟩ := qc
  have cp := hpa.numN (j := k) (by omega)
  have bx := hL.at k
  have qr := D.rv
  obtain ⟨Ar, cr, er, hcr, hrr⟩ := qr
  have hRlen : (Dg.digs R).length ≤ n := by rw[hn]; exact (Dg.digs_len D.r0).2 (by have := D.r1; rw[← hn]; omega)
  rw[eA] at ea
  simp(disch:=omega)only[EZ,↓EP,↓reduceIte,Za,Zb,Zc,Zd,Ze,Zf,Zg,Zj,Zk,Zl,Zm,Zn,Zp,Zq,reduceCtorEq,W_joinT,h10']
  refine join_cut (fun ρ' w' => ∃ v qs R, ρ' 10 = .int .i64 k ∧ ρ' 9 = v ∧ DD w w' w.heap.size l V k v qs R ∧ Fr w2 w' (fun b => b = w.heap.size)) ?_ ?_
  rotate_left
  ·rintro ρ' w' hf ⟨v', qs', R', g10, g9, D', f'⟩
   simp(disch:=omega)only[EZ,↓EP,↓reduceIte,Za,Zb,Zc,Zd,Ze,Zf,Zg,Zj,Zk,Zl,Zm,Zn,Zp,Zq,reduceCtorEq,g10]
   exact hN k _ _ (by omega) ⟨v', qs', R', by simp(disch:=omega)only[EZ,↓EP,↓reduceIte,Za,Zb,Zc,Zd,Ze,Zf,Zg,Zj,Zk,Zl,Zm,Zn,Zp,Zq,reduceCtorEq], by omega, by simp(disch:=omega)only[EZ,↓EP,↓reduceIte,Za,Zb,Zc,Zd,Ze,Zf,Zg,Zj,Zk,Zl,Zm,Zn,Zp,Zq,reduceCtorEq,g9], D', f'⟩
  intro N1 hN1
  simp(disch:=omega)only[EZ,↓EP,↓reduceIte,Za,Zb,Zc,Zd,Ze,Zf,Zg,Zj,Zk,Zl,Zm,Zn,Zp,Zq,reduceCtorEq,W_joinT,h10',h9,q0,ea,cp]
  refine bsl1 fun w4 n4 => ?_
  have f4 := n4.fr nob
  have g4 : Gw .u64 w3 w4 (.slice (some ⟨w3.heap.size, 0, none⟩) 1 1) [at' l k] := ⟨n4.sl, fun b e => by cases e; exact Nat.le_refl _, f4⟩
  simp(disch:=omega)only[EZ,↓EP,↓reduceIte,Za,Zb,Zc,Zd,Ze,Zf,Zg,Zj,Zk,Zl,Zm,Zn,Zp,Zq,reduceCtorEq,h9,er]
  refine app_num g4.sl rfl (hrr.rd.nb f4) (by simp; omega) (by omega) fun v5 w5 a5 => ?_
  have g5 := g4.apd a5
  simp(disch:=omega)only[EZ,↓EP,↓reduceIte,Za,Zb,Zc,Zd,Ze,Zf,Zg,Zj,Zk,Zl,Zm,Zn,Zp,Zq,reduceCtorEq]
  refine plain_gw g5 (Dg.Lim.mk bx.1 bx.2 (Dg.digs_lim R)) (by simp; omega) _ fun v6 g6 => ?_
  have hval : Dg.val ([at' l k] ++ Dg.digs R) = at' l k + 65536 * R := by rw[List.singleton_append,Dg.val_cons,Dg.digs_val D.r0]
  rw[hval] at g6
  have qR : ∃ R', R' = at' l k + 65536 * R := ⟨_, rfl⟩
  obtain ⟨R', hR'⟩ := qR
  rw[← hR'] at g6
  have hr0 := D.r0
  have hr1 := D.r1
  have hR0 : 0 ≤ R' := by omega
  have hRV : R' < 65536 * V := by omega
  have hRlen' : (Dg.digs R').length ≤ n + 1 := (Dg.digs_len hR0).2 (by rw[Dg.pw_succ]; omega)
  have f35 := g6.fr
  have va5 := va3.fr (f35.any _)
  have vb5 := vb3.fr (f35.any _)
  have D5 : DD w w5 w.heap.size l V (k + 1) v qs R := ⟨D.r0, D.r1, D.rv.fr (f35.any _), D.bq.nb f35, D.ql, D.qL, D.qz, D.eq, D.fr.nb f35⟩
  have rv6 : Vr .u64 w5 v6 (Dg.digs R') (fun b => b = w.heap.size) := gw_vr g6 fun b hb e => by omega
  have f25 : Fr w2 w5 (fun b => b = w.heap.size) := f3.trans (f35.any _) fun _ _ e => e
  have hqk := D.qz k (by omega)
  have hdk := dval_drop_at l (k := k) (by omega)
  have hdq := dval_drop_at qs (k := k) (by have := D.ql; omega)
  have heq := D.eq
  have hql := D.ql
  have vLen : (Dg.digs V).length = n := hn.symm
  simp(disch:=omega)only[EZ,↓EP,↓reduceIte,Za,Zb,Zc,Zd,Ze,Zf,Zg,Zj,Zk,Zl,Zm,Zn,Zp,Zq,reduceCtorEq,q1]
  refine order_vw rv6.vw vb5.vw (Dg.digs_lim _) VL (by omega) (by omega) _ fun cm c1 c2 c3 => ?_
  rw[Dg.digs_val hR0,hvV] at c1 c2 c3
  by_cases hlt : R' < V
  ·have hcm : cm < 0 := by have := c1 hlt; omega
   simp(disch:=omega)only[EZ,↓EP,↓reduceIte,Za,Zb,Zc,Zd,Ze,Zf,Zg,Zj,Zk,Zl,Zm,Zn,Zp,Zq,reduceCtorEq,W_joinT]
   refine hN1 _ _ ⟨v6, qs, R', by simp(disch:=omega)only[EZ,↓EP,↓reduceIte,Za,Zb,Zc,Zd,Ze,Zf,Zg,Zj,Zk,Zl,Zm,Zn,Zp,Zq,reduceCtorEq,h10'], by simp(disch:=omega)only[EZ,↓EP,↓reduceIte,Za,Zb,Zc,Zd,Ze,Zf,Zg,Zj,Zk,Zl,Zm,Zn,Zp,Zq,reduceCtorEq], ⟨hR0, hlt, rv6, D5.bq, D.ql, D.qL, fun j hj => D.qz j (by omega), ?_, D5.fr⟩, f25⟩
   rw[hdk,hdq,heq,hqk]
   grind
  have hcm : 0 ≤ cm := by
   rcases (show R' = V ∨ V < R' by omega) with h | h
   ·have := c2 h; omega
   ·have := c3 h; omega
  have qF := quot_facts hV hR0 hRV
  obtain ⟨qf0, qf1, qf2, qf3⟩ := qF
  have qH : ∃ H, H = if 2 ≤ n then (dgt (Dg.digs R') n * 65536 + dgt (Dg.digs R') ((n : Int) - 1)) * 65536 + dgt (Dg.digs R') ((n : Int) - 2) else (dgt (Dg.digs R') 1 * 65536 + dgt (Dg.digs R') 0) * 65536 := ⟨_, rfl⟩
  obtain ⟨H, hH⟩ := qH
  have hguess := dguess_of hV hn hR0 hRV hH
  rw[← hT] at hguess
  have RL := Dg.digs_lim R'
  have d1 := dgt_lim RL n
  have d2 := dgt_lim RL ((n : Int) - 1)
  have d3 := dgt_lim RL ((n : Int) - 2)
  have d4 := dgt_lim RL 1
  have d5 := dgt_lim RL 0
  have hH0 : 0 ≤ H ∧ H < 281474976710656 := by rw[hH]; split <;> omega
  have s0 : (0 : Int) ≤ H / T := Int.ediv_nonneg hH0.1 (by omega)
  have s1 : R' / V ≤ H / T := by
   rw[Int.le_ediv_iff_mul_le hT0.1]; exact hguess
  have s2 : H / T ≤ H := Int.ediv_le_self _ hH0.1
  simp(disch:=omega)only[EZ,↓EP,↓reduceIte,Za,Zb,Zc,Zd,Ze,Zf,Zg,Zj,Zk,Zl,Zm,Zn,Zp,Zq,reduceCtorEq,W_joinT]
  refine join_cut (fun ρ' w' => w' = w5 ∧ ρ' 11 = .int .u64 H) ?_ ?_
  ·intro N2 hN2
   by_cases h2n : (2 : Int) ≤ (n : Int)
   ·rw[if_pos (by omega)] at hH
    simp(disch:=omega)only[EZ,↓EP,↓reduceIte,Za,Zb,Zc,Zd,Ze,Zf,Zg,Zj,Zk,Zl,Zm,Zn,Zp,Zq,reduceCtorEq,q7]
    refine digit_any rv6.vw (by omega) _ (by omega) _ ?_
    simp(disch:=omega)only[Zu,Zv,Zx,Zz,EZ,↓EP,↓reduceIte,Za,Zb,Zc,Zd,Ze,Zf,Zg,Zj,Zk,Zl,Zm,Zn,Zp,Zq,reduceCtorEq,q7]
    refine digit_any rv6.vw (by omega) _ (by omega) _ ?_
    simp(disch:=omega)only[Zu,Zv,Zx,Zz,EZ,↓EP,↓reduceIte,Za,Zb,Zc,Zd,Ze,Zf,Zg,Zj,Zk,Zl,Zm,Zn,Zp,Zq,reduceCtorEq,q7]
    refine digit_any rv6.vw (by omega) _ (by omega) _ ?_
    simp(disch:=omega)only[Zu,Zv,Zx,Zz,EZ,↓EP,↓reduceIte,Za,Zb,Zc,Zd,Ze,Zf,Zg,Zj,Zk,Zl,Zm,Zn,Zp,Zq,reduceCtorEq,q7,← hH]
    exact hN2 _ _ ⟨rfl, by simp(disch:=omega)only[Zu,Zv,Zx,Zz,EZ,↓EP,↓reduceIte,Za,Zb,Zc,Zd,Ze,Zf,Zg,Zj,Zk,Zl,Zm,Zn,Zp,Zq,reduceCtorEq]⟩
   ·rw[if_neg (by omega)] at hH
    simp(disch:=omega)only[EZ,↓EP,↓reduceIte,Za,Zb,Zc,Zd,Ze,Zf,Zg,Zj,Zk,Zl,Zm,Zn,Zp,Zq,reduceCtorEq,q7]
    refine digit_any rv6.vw (by omega) 1 (by omega) _ ?_
    simp(disch:=omega)only[Zu,Zv,Zx,Zz,EZ,↓EP,↓reduceIte,Za,Zb,Zc,Zd,Ze,Zf,Zg,Zj,Zk,Zl,Zm,Zn,Zp,Zq,reduceCtorEq,q7]
    refine digit_any rv6.vw (by omega) 0 (by omega) _ ?_
    simp(disch:=omega)only[Zu,Zv,Zx,Zz,EZ,↓EP,↓reduceIte,Za,Zb,Zc,Zd,Ze,Zf,Zg,Zj,Zk,Zl,Zm,Zn,Zp,Zq,reduceCtorEq,q7,← hH]
    exact hN2 _ _ ⟨rfl, by simp(disch:=omega)only[Zu,Zv,Zx,Zz,EZ,↓EP,↓reduceIte,Za,Zb,Zc,Zd,Ze,Zf,Zg,Zj,Zk,Zl,Zm,Zn,Zp,Zq,reduceCtorEq]⟩
  rintro ρ1 w' hf1 ⟨rfl, g11⟩
  have g9 : ρ1 9 = v6 := by rw[hf1 9 rfl]; simp(disch:=omega)only[EZ,↓EP,↓reduceIte,Za,Zb,Zc,Zd,Ze,Zf,Zg,Zj,Zk,Zl,Zm,Zn,Zp,Zq,reduceCtorEq]
  have g10 : ρ1 10 = .int .i64 k := by rw[hf1 10 rfl]; simp(disch:=omega)only[EZ,↓EP,↓reduceIte,Za,Zb,Zc,Zd,Ze,Zf,Zg,Zj,Zk,Zl,Zm,Zn,Zp,Zq,reduceCtorEq,h10']
  have g1 : ρ1 1 = vb := by rw[hf1 1 rfl]; simp(disch:=omega)only[EZ,↓EP,↓reduceIte,Za,Zb,Zc,Zd,Ze,Zf,Zg,Zj,Zk,Zl,Zm,Zn,Zp,Zq,reduceCtorEq,q1]
  have g6' : ρ1 6 = .slice (some ⟨w.heap.size, 0, none⟩) l.length l.length := by rw[hf1 6 rfl]; simp(disch:=omega)only[EZ,↓EP,↓reduceIte,Za,Zb,Zc,Zd,Ze,Zf,Zg,Zj,Zk,Zl,Zm,Zn,Zp,Zq,reduceCtorEq,q6]
  have g8 : ρ1 8 = .int .u64 T := by rw[hf1 8 rfl]; simp(disch:=omega)only[EZ,↓EP,↓reduceIte,Za,Zb,Zc,Zd,Ze,Zf,Zg,Zj,Zk,Zl,Zm,Zn,Zp,Zq,reduceCtorEq,q8]
  clear hf1
  simp(disch:=omega)only[Zu,Zv,Zx,Zz,EZ,↓EP,↓reduceIte,Za,Zb,Zc,Zd,Ze,Zf,Zg,Zj,Zk,Zl,Zm,Zn,Zp,Zq,reduceCtorEq,W_joinT,g11,g8]
  refine join_cut (fun ρ' w'' => w'' = w' ∧ ∃ g, ρ' 12 = .int .u64 g ∧ R' / V ≤ g ∧ g ≤ 65535) ?_ ?_
  ·intro N2 hN2
   by_cases hbig : 65535 < H / T
   ·simp(disch:=omega)only[Zu,Zv,Zx,Zz,EZ,↓EP,↓reduceIte,Za,Zb,Zc,Zd,Ze,Zf,Zg,Zj,Zk,Zl,Zm,Zn,Zp,Zq,reduceCtorEq]
    exact hN2 _ _ ⟨rfl, 65535, by simp(disch:=omega)only[Zu,Zv,Zx,Zz,EZ,↓EP,↓reduceIte,Za,Zb,Zc,Zd,Ze,Zf,Zg,Zj,Zk,Zl,Zm,Zn,Zp,Zq,reduceCtorEq], by omega, by omega⟩
   ·simp(disch:=omega)only[Zu,Zv,Zx,Zz,EZ,↓EP,↓reduceIte,Za,Zb,Zc,Zd,Ze,Zf,Zg,Zj,Zk,Zl,Zm,Zn,Zp,Zq,reduceCtorEq]
    exact hN2 _ _ ⟨rfl, H / T, by simp(disch:=omega)only[Zu,Zv,Zx,Zz,EZ,↓EP,↓reduceIte,Za,Zb,Zc,Zd,Ze,Zf,Zg,Zj,Zk,Zl,Zm,Zn,Zp,Zq,reduceCtorEq], by omega, by omega⟩
  rintro ρ2 w'' hf2 ⟨rfl, g, g12, hg0, hg1⟩
  have p9 : ρ2 9 = v6 := by rw[hf2 9 rfl]; simp(disch:=omega)only[EZ,↓EP,↓reduceIte,Za,Zb,Zc,Zd,Ze,Zf,Zg,Zj,Zk,Zl,Zm,Zn,Zp,Zq,reduceCtorEq,g9]
  have p10 : ρ2 10 = .int .i64 k := by rw[hf2 10 rfl]; simp(disch:=omega)only[EZ,↓EP,↓reduceIte,Za,Zb,Zc,Zd,Ze,Zf,Zg,Zj,Zk,Zl,Zm,Zn,Zp,Zq,reduceCtorEq,g10]
  have p1 : ρ2 1 = vb := by rw[hf2 1 rfl]; simp(disch:=omega)only[EZ,↓EP,↓reduceIte,Za,Zb,Zc,Zd,Ze,Zf,Zg,Zj,Zk,Zl,Zm,Zn,Zp,Zq,reduceCtorEq,g1]
  have p6 : ρ2 6 = .slice (some ⟨w.heap.size, 0, none⟩) l.length l.length := by rw[hf2 6 rfl]; simp(disch:=omega)only[EZ,↓EP,↓reduceIte,Za,Zb,Zc,Zd,Ze,Zf,Zg,Zj,Zk,Zl,Zm,Zn,Zp,Zq,reduceCtorEq,g6']
  clear hf2
  simp(disch:=omega)only[EZ,↓EP,↓reduceIte,Za,Zb,Zc,Zd,Ze,Zf,Zg,Zj,Zk,Zl,Zm,Zn,Zp,Zq,reduceCtorEq,g12,p1]
  refine bsl1 fun w6 n6 => ?_
  have f6 := n6.fr nob
  simp(disch:=omega)only[EZ,↓EP,↓reduceIte,Za,Zb,Zc,Zd,Ze,Zf,Zg,Zj,Zk,Zl,Zm,Zn,Zp,Zq,reduceCtorEq,p1]
  refine dmul_vw (vb5.vw.nb f6) (n6.vw rfl) VL (Dg.Lim.mk (by omega) (by omega) Dg.Lim.nil) (by omega) (by simp) _ fun v7 w7 g7 => ?_
  rw[hvV,Dg.val_one,Int.mul_comm V g] at g7
  have f67 := f6.nb g7.fr
  simp(disch:=omega)only[EZ,↓EP,↓reduceIte,Za,Zb,Zc,Zd,Ze,Zf,Zg,Zj,Zk,Zl,Zm,Zn,Zp,Zq,reduceCtorEq]
  refine loop_inv (fun t ρ3 w8 => ∃ vp g, ρ3 12 = .int .u64 g ∧ ρ3 13 = vp ∧ t = g.toNat ∧ R' / V ≤ g ∧ g ≤ 65535 ∧ Vw .u64 w8 vp (Dg.digs (g * V)) ∧ Fr w'' w8 nob) _
   ⟨v7, g, by simp(disch:=omega)only[EZ,↓EP,↓reduceIte,Za,Zb,Zc,Zd,Ze,Zf,Zg,Zj,Zk,Zl,Zm,Zn,Zp,Zq,reduceCtorEq,g12], by simp(disch:=omega)only[EZ,↓EP,↓reduceIte,Za,Zb,Zc,Zd,Ze,Zf,Zg,Zj,Zk,Zl,Zm,Zn,Zp,Zq,reduceCtorEq], rfl, hg0, hg1, g7.vw, f67⟩ ?_
  rintro t ρ3 w8 hf ⟨vp, g', r12, r13, rfl, hg0', hg1', hvp, f8⟩ N3 hN3
  have r9 : ρ3 9 = v6 := by rw[hf 9 rfl]; simp(disch:=omega)only[EZ,↓EP,↓reduceIte,Za,Zb,Zc,Zd,Ze,Zf,Zg,Zj,Zk,Zl,Zm,Zn,Zp,Zq,reduceCtorEq,p9]
  have r10 : ρ3 10 = .int .i64 k := by rw[hf 10 rfl]; simp(disch:=omega)only[EZ,↓EP,↓reduceIte,Za,Zb,Zc,Zd,Ze,Zf,Zg,Zj,Zk,Zl,Zm,Zn,Zp,Zq,reduceCtorEq,p10]
  have r1 : ρ3 1 = vb := by rw[hf 1 rfl]; simp(disch:=omega)only[EZ,↓EP,↓reduceIte,Za,Zb,Zc,Zd,Ze,Zf,Zg,Zj,Zk,Zl,Zm,Zn,Zp,Zq,reduceCtorEq,p1]
  have r6 : ρ3 6 = .slice (some ⟨w.heap.size, 0, none⟩) l.length l.length := by rw[hf 6 rfl]; simp(disch:=omega)only[EZ,↓EP,↓reduceIte,Za,Zb,Zc,Zd,Ze,Zf,Zg,Zj,Zk,Zl,Zm,Zn,Zp,Zq,reduceCtorEq,p6]
  clear hf
  have hgV0 : 0 ≤ g' * V := Int.mul_nonneg (by omega) (by omega)
  have hgV1 : g' * V < 65536 * V := by have := Int.mul_lt_mul_of_pos_right (show g' < 65536 by omega) hV; exact this
  have hplen : (Dg.digs (g' * V)).length ≤ n + 1 := (Dg.digs_len hgV0).2 (by rw[Dg.pw_succ]; omega)
  have rv8 := rv6.vw.nb f8
  simp(disch:=omega)only[EZ,↓EP,↓reduceIte,Za,Zb,Zc,Zd,Ze,Zf,Zg,Zj,Zk,Zl,Zm,Zn,Zp,Zq,reduceCtorEq,r12,r13,r9]
  refine order_vw hvp rv8 (Dg.digs_lim _) RL (by omega) (by omega) _ fun cp c4 c5 c6 => ?_
  rw[Dg.digs_val hgV0,Dg.digs_val hR0] at c4 c5 c6
  by_cases hgt : R' < g' * V
  ·have hcp : 0 < cp := by have := c6 hgt; omega
   have hgQ : R' / V < g' := by
    by_cases h : R' / V < g'
    ·exact h
    ·have : g' = R' / V := by omega
     rw[this] at hgt; omega
   have hVle : V ≤ g' * V := by
    have := mul_r (show 1 ≤ g' by omega) (show 0 ≤ V by omega)
    omega
   simp(disch:=omega)only[Zu,Zv,Zx,Zz,EZ,↓EP,↓reduceIte,Za,Zb,Zc,Zd,Ze,Zf,Zg,Zj,Zk,Zl,Zm,Zn,Zp,Zq,reduceCtorEq,r12,r13,r1]
   refine dsub_vw hvp (vb5.vw.nb f8) (Dg.digs_lim _) VL (by omega) (by omega) (by rw[Dg.digs_val hgV0,hvV]; exact hVle) _ fun v9 w9 g9' => ?_
   rw[Dg.digs_val hgV0,hvV] at g9'
   have e9 : g' * V - V = (g' - 1) * V := by rw[Int.sub_mul,Int.one_mul]
   rw[e9] at g9'
   simp(disch:=omega)only[EZ,↓EP,↓reduceIte,Za,Zb,Zc,Zd,Ze,Zf,Zg,Zj,Zk,Zl,Zm,Zn,Zp,Zq,reduceCtorEq,r12]
   exact hN3 (g' - 1).toNat _ _ (by omega) ⟨v9, g' - 1, by simp(disch:=omega)only[Zu,Zv,Zx,Zz,EZ,↓EP,↓reduceIte,Za,Zb,Zc,Zd,Ze,Zf,Zg,Zj,Zk,Zl,Zm,Zn,Zp,Zq,reduceCtorEq,r12], by simp(disch:=omega)only[EZ,↓EP,↓reduceIte,Za,Zb,Zc,Zd,Ze,Zf,Zg,Zj,Zk,Zl,Zm,Zn,Zp,Zq,reduceCtorEq], rfl, by omega, by omega, g9'.vw, f8.nb g9'.fr⟩
  have hcp : cp ≤ 0 := by
   rcases (show g' * V = R' ∨ g' * V < R' by omega) with h | h
   ·have := c5 h; omega
   ·have := c4 h; omega
  have hgQ : g' = R' / V := by
   by_cases h : R' / V < g'
   ·exfalso
    have := mul_r (show R' / V + 1 ≤ g' by omega) (show 0 ≤ V by omega)
    omega
   ·omega
  simp(disch:=omega)only[EZ,↓EP,↓reduceIte,Za,Zb,Zc,Zd,Ze,Zf,Zg,Zj,Zk,Zl,Zm,Zn,Zp,Zq,reduceCtorEq,r12,r13,r9]
  refine dsub_vw rv8 hvp RL (Dg.digs_lim _) (by omega) (by omega) (by rw[Dg.digs_val hgV0,Dg.digs_val hR0]; omega) _ fun v9 w9 g9' => ?_
  rw[Dg.digs_val hgV0,Dg.digs_val hR0] at g9'
  have f9 := f8.nb g9'.fr
  have hB9 := D5.bq.nb f9
  simp(disch:=omega)only[EZ,↓EP,↓reduceIte,Za,Zb,Zc,Zd,Ze,Zf,Zg,Zj,Zk,Zl,Zm,Zn,Zp,Zq,reduceCtorEq,r12,r10,r6]
  refine st_num hB9 (by omega) fun w10 p10' => ?_
  have hlt9 : ∀ b, w8.heap.size ≤ b → ¬ (b = w.heap.size) := fun b hb e => by have := f8.size; have := f35.size; omega
  simp(disch:=omega)only[EZ,↓EP,↓reduceIte,Za,Zb,Zc,Zd,Ze,Zf,Zg,Zj,Zk,Zl,Zm,Zn,Zp,Zq,reduceCtorEq]
  refine hN1 _ _ ⟨v9, qs.set k g', R' - g' * V, by simp(disch:=omega)only[EZ,↓EP,↓reduceIte,Za,Zb,Zc,Zd,Ze,Zf,Zg,Zj,Zk,Zl,Zm,Zn,Zp,Zq,reduceCtorEq,r10], by simp(disch:=omega)only[EZ,↓EP,↓reduceIte,Za,Zb,Zc,Zd,Ze,Zf,Zg,Zj,Zk,Zl,Zm,Zn,Zp,Zq,reduceCtorEq], ⟨by omega, ?_, (gw_vr g9' hlt9).fr p10'.fr, p10'.blk, by rw[List.length_set]; exact hql, D.qL.set _ (by omega) (by omega), fun j hj => ?_, ?_, (D5.fr.nb f9).own p10'.fr fun b e => by omega⟩, (f25.trans (f9.any _) fun _ _ e => e).trans p10'.fr fun _ _ e => e⟩
  ·have : (g' + 1) * V = g' * V + V := by rw[Int.add_mul,Int.one_mul]
   rw[← hgQ] at qf3
   omega
  ·rw[at_setO (by omega)]; exact D.qz j (by omega)
  ·rw[hdk,ddrop_set (by omega),heq,hR']
   grind
end Go.Proofs.YtcgplgpdcfocpaaGreatDoor.Spec
end
section
namespace Go.Proofs.YtcgplgpdcfocpaaGreatDoor.Spec
open Go Go.RowKit Go.Proofs Go.Proofs.YtcgplgpdcfocpaaGreatDoor.Eng Go.Proofs.YtcgplgpdcfocpaaGreatDoor.Code Go.Proofs.YtcgplgpdcfocpaaGreatDoor.Big
attribute [local irreducible] callK S.W opsW scrW
theorem val_pw {l : List Int} (hL : Lim l) {n : Nat} (h : l.length ≤ n) : val l < pw n := by
 have := (val_bd hL).2
 have := pw_le h
 omega
theorem digs_vl {l : List Int} (hL : Lim l) {n : Nat} (h : l.length ≤ n) : (Dg.digs (val l)).length ≤ 2 * n := digs_len_of (val_bd hL).1 (val_pw hL h)
theorem dlen_mono {a b : Int} (h0 : 0 ≤ a) (h : a ≤ b) : (Dg.digs a).length ≤ (Dg.digs b).length := by
 have := (Dg.digs_len (v := b) (by omega) (k := (Dg.digs b).length)).1 (Nat.le_refl _)
 exact (Dg.digs_len h0).2 (by omega)
end Go.Proofs.YtcgplgpdcfocpaaGreatDoor.Spec
end
section
namespace Go.Proofs.YtcgplgpdcfocpaaGreatDoor.Spec
open Go Go.RowKit Go.Proofs Go.Proofs.YtcgplgpdcfocpaaGreatDoor.Eng Go.Proofs.YtcgplgpdcfocpaaGreatDoor.Code Go.Proofs.YtcgplgpdcfocpaaGreatDoor.Big
attribute [local irreducible] callK S.W opsW scrW
def Dv (w : World) (v : Value) (x : Int) : Prop := 0 ≤ x ∧ Vw .u64 w v (Dg.digs x)
theorem Dv.nb {w w' : World} {v : Value} {x : Int} (h : Dv w v x) (f : Fr w w' nob) : Dv w' v x := ⟨h.1, h.2.nb f⟩
theorem ddigs_one : Dg.digs 1 = [1] := by
 have h : Dg.Can [1] := ⟨fun x h => by simp at h; omega, .inr (by decide)⟩
 exact (h.eq (by decide)).symm
theorem Dv.one {w w' : World} (h : New w w' (nums .u64 [1])) : Dv w' (.slice (some ⟨w.heap.size, 0, none⟩) 1 1) 1 := ⟨by decide, by rw[ddigs_one]; exact h.vw rfl⟩
theorem Dv.nil (w : World) : Dv w (.slice none 0 0) 0 := ⟨Int.le_refl _, by rw[Dg.digs_zero]; exact Vw.nil _ _⟩
theorem Dv.slice {w : World} {v : Value} {x : Int} (h : Dv w v x) : ∃ B d, v = .slice B (Dg.digs x).length d := by
 obtain ⟨_, B, d, e, _⟩ := h
 exact ⟨B, d, e⟩
theorem ddm {w : World} {va vb : Value} {x y : Int} (ha : Dv w va x) (hb : Dv w vb y) (h1 : (Dg.digs x).length ≤ 16777000) (h2 : (Dg.digs y).length ≤ 16777000) (hy : 0 < y) (K : Value → World → Prop)
  (hK : ∀ u v w', Fr w w' nob → Dv w' u (x / y) → Dv w' v (x % y) → K (.tuple #[u, v]) w') : callK Tryz.prog 89 [va, vb] w K := by
 refine ddivmod_vw ha.2 hb.2 (Dg.digs_lim _) (by omega) h2 hy K fun u v w' g h => ?_
 rw[Dg.digs_val ha.1] at g h
 exact hK u v w' g.fr ⟨Int.ediv_nonneg ha.1 (by omega), g.vw⟩ ⟨(mod_bd hy).1, h⟩
end Go.Proofs.YtcgplgpdcfocpaaGreatDoor.Spec
end
