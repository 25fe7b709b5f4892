/- RsaSalted: what is used, in one text. -/
import Derived.Test.YtcgplgpdcfocpaaGreatDoorRsaSaltedr1
set_option linter.unusedVariables false
set_option linter.unusedSimpArgs false
set_option maxRecDepth 100000
open Int renaming reduceAdd → Za, reduceEq → Zb, reduceLE → Zc, reduceLT → Zd, reduceMul → Ze, reduceNeg → Zf, reducePow → Zg, reduceSub → Zj, reduceToNat → Zk
open Nat renaming reduceAdd → Zl, reduceEqDiff → Zm, reduceLT → Zn, reduceLeDiff → Zp, reduceMul → Zq
section
namespace Go.Proofs.YtcgplgpdcfocpaaGreatDoor.Spec
open Go Go.RowKit Go.Proofs Go.Proofs.YtcgplgpdcfocpaaGreatDoor.Eng Go.Proofs.YtcgplgpdcfocpaaGreatDoor.Code Go.Proofs.YtcgplgpdcfocpaaGreatDoor.Big
attribute [local irreducible] callK S.W opsW scrW
theorem val_zero_from {o : List Int} {k : Nat} (h : ∀ j : Nat, k ≤ j → at' o j = 0) : val o = val (o.take k) := by
 by_cases hk : k ≤ o.length
 ·have e := val_split o hk
  have hz : val (o.drop k) = 0 := by
   have : o.drop k = List.replicate (o.length - k) 0 := by
    apply List.ext_getElem
    ·simp
    ·intro i h1 h2
     simp only[List.length_drop] at h1
     rw[List.getElem_drop,List.getElem_replicate,← at_get (by omega)]
     exact h (k + i) (by omega)
   rw[this,val_zeros]
  rw[hz] at e; omega
 ·rw[List.take_of_length_le (by omega)]
set_option maxHeartbeats 1000000 in
theorem wide_vw {w : World} {va : Value} {l : List Int} (n : Nat) (hn : n ≤ 16777216) (ha : Vw .u32 w va l) (hL : Lim l) (hl : l.length ≤ 16777216) (K : Value → World → Prop)
  (hK : ∀ o v w', Gw .u64 w w' v o → o.length = n → Lim o → val o = val (l.take n) → K v w') : callK Tryz.prog 88 [va, .int .i64 n] w K := by
 obtain ⟨A, c, ea, hc, hr⟩ := id ha
 refine call_of Tryz.func88 Code.h88 (by simp[Code.c88]) ?_
 simp(disch:=omega)only[EZ,↓EP,↓reduceIte,Za,Zb,Zc,Zd,Ze,Zf,Zg,Zj,Zk,Zl,Zm,Zn,Zp,Zq,reduceCtorEq,Code.c88]
 refine al_k (nums .u64 (List.replicate n 0)) (by rw[madeCells_list,nums_replicate]) fun w1 n1 => ?_
 simp(disch:=omega)only[EZ,↓EP,↓reduceIte,Za,Zb,Zc,Zd,Ze,Zf,Zg,Zj,Zk,Zl,Zm,Zn,Zp,Zq,reduceCtorEq]
 refine loop_inv (fun t ρ w' => ∃ (k : Nat) (o : List Int), ρ 6 = .int .i64 k ∧ k ≤ n ∧ k ≤ l.length ∧ t = n - k ∧ Blk w' w.heap.size (nums .u64 o) ∧ o.length = n ∧ Lim o ∧ val (o.take k) = val (l.take k) ∧ (∀ j : Nat, k ≤ j → at' o j = 0) ∧ Fr w w' nob) _
  ⟨0, List.replicate n 0, by simp(disch:=omega)only[EZ,↓EP,↓reduceIte,Za,Zb,Zc,Zd,Ze,Zf,Zg,Zj,Zk,Zl,Zm,Zn,Zp,Zq,reduceCtorEq], by omega, by omega, rfl, n1.blk, by simp, Lim.zeros _, rfl, fun j _ => at_zeros _ _, n1.fr nob⟩ ?_
 rintro t ρ w' hf ⟨k, o, h6, hk, hkl, rfl, hB, ho, hO, hv, hz, f1⟩ N hN
 have q0 : ρ 0 = va := by rw[hf 0 rfl]; simp(disch:=omega)only[EZ,↓EP,↓reduceIte,Za,Zb,Zc,Zd,Ze,Zf,Zg,Zj,Zk,Zl,Zm,Zn,Zp,Zq,reduceCtorEq]
 have q1 : ρ 1 = .int .i64 n := by rw[hf 1 rfl]; simp(disch:=omega)only[EZ,↓EP,↓reduceIte,Za,Zb,Zc,Zd,Ze,Zf,Zg,Zj,Zk,Zl,Zm,Zn,Zp,Zq,reduceCtorEq]
 have q5 : ρ 5 = .slice (some ⟨w.heap.size, 0, none⟩) n n := by rw[hf 5 rfl]; simp(disch:=omega)only[EZ,↓EP,↓reduceIte,Za,Zb,Zc,Zd,Ze,Zf,Zg,Zj,Zk,Zl,Zm,Zn,Zp,Zq,reduceCtorEq]
 clear hf
 have fin : (k = n ∨ k = l.length) → K (.slice (some ⟨w.heap.size, 0, none⟩) n n) w' := fun h => by
  refine hK o _ w' (own_cut hB (Nat.le_refl _) f1 ho (Nat.le_refl _) (by rw[← ho,List.take_length])) ho hO ?_
  rw[val_zero_from hz,hv]
  rcases h with h | h
  ·rw[h]
  ·rw[h,List.take_length,List.take_of_length_le (by omega)]
 by_cases c1 : (k : Int) < (n : Int)
 ·by_cases c2 : (k : Int) < (l.length : Int)
  ·obtain ⟨p, rfl, _, hp⟩ := (hr.nb f1).get (by rw[nums_length]; omega)
   have cp := hp.numN (j := k) (by omega)
   have bx := hL.at k
   simp(disch:=omega)only[Zu,Zv,Zx,Zz,EZ,↓EP,↓reduceIte,Za,Zb,Zc,Zd,Ze,Zf,Zg,Zj,Zk,Zl,Zm,Zn,Zp,Zq,reduceCtorEq,h6,q0,q1,q5,ea,cp]
   refine st_num hB (by omega) fun w2 p2 => ?_
   simp(disch:=omega)only[Zu,Zv,Zx,Zz,EZ,↓EP,↓reduceIte,Za,Zb,Zc,Zd,Ze,Zf,Zg,Zj,Zk,Zl,Zm,Zn,Zp,Zq,reduceCtorEq,h6]
   refine hN (n - (k + 1)) _ _ (by omega) ⟨k + 1, _, by simp(disch:=omega)only[EZ,↓EP,↓reduceIte,Za,Zb,Zc,Zd,Ze,Zf,Zg,Zj,Zk,Zl,Zm,Zn,Zp,Zq,reduceCtorEq,h6,Int.natCast_add], by omega, by omega, rfl, p2.blk, by simpa using ho, hO.set _ (by omega) (by omega), ?_, fun j hj => ?_, f1.own p2.fr fun x e => by omega⟩
   ·rw[val_take_set (by omega),val_take_succ',hv]
   ·rw[at_setO (by omega)]; exact hz j (by omega)
  ·simp(disch:=omega)only[Zu,Zv,Zx,Zz,EZ,↓EP,↓reduceIte,Za,Zb,Zc,Zd,Ze,Zf,Zg,Zj,Zk,Zl,Zm,Zn,Zp,Zq,reduceCtorEq,h6,q0,q1,q5,ea]
   exact fin (.inr (by omega))
 ·simp(disch:=omega)only[Zu,Zv,Zx,Zz,EZ,↓EP,↓reduceIte,Za,Zb,Zc,Zd,Ze,Zf,Zg,Zj,Zk,Zl,Zm,Zn,Zp,Zq,reduceCtorEq,h6,q0,q1,q5,ea]
  exact fin (.inl (by omega))
theorem andB {x : Int} (h0 : 0 ≤ x) (h1 : x < 18446744073709551616) : bits .and .u64 x 4294967295 = x % 4294967296 := by
 rw[u64_and _ _ (by omega) (by omega) (by omega) (by omega)]
 have := Nat.and_two_pow_sub_one_eq_mod x.toNat 32
 rw[show (4294967295 : Int).toNat = 2 ^ 32 - 1 by rfl, this]
 omega
theorem mulB {a b : Int} (ha : 0 ≤ a ∧ a < 4294967296) (hb : 0 ≤ b ∧ b < 4294967296) : 0 ≤ a * b ∧ a * b ≤ 18446744065119617025 := mul_bd ha hb
set_option maxHeartbeats 2000000 in
theorem take_spec {w : World} {rb c : Nat} {r p : List Int} {vp : Value} {q : Int} {n : Nat} (hB : Blk w rb (nums .u64 r)) (hr : r.length = n + 1) (hp : p.length = n) (hR : Lim r) (hP : Lim p) (hn : n ≤ 16777216) (hv : Vr .u64 w vp p (fun b => b = rb)) (hq : 0 ≤ q ∧ q < 4294967296) (hle : q * val p ≤ val r) (K : Value → World → Prop)
  (hK : ∀ o w', Blk w' rb (nums .u64 o) → o.length = n + 1 → Lim o → val o = val r - q * val p → Fr w w' (fun b => b = rb) → K (.tuple #[]) w') : callK Tryz.prog 112 [.slice (some ⟨rb, 0, none⟩) (n + 1) c, vp, .int .u64 q] w K := by
 refine call_of Tryz.func112 Code.h112 (by simp[Code.c112]) ?_
 have qv := hv
 obtain ⟨A, d, ep, hd, hro⟩ := qv
 rw[hp] at ep
 simp(disch:=omega)only[EZ,↓EP,↓reduceIte,Za,Zb,Zc,Zd,Ze,Zf,Zg,Zj,Zk,Zl,Zm,Zn,Zp,Zq,reduceCtorEq,Code.c112]
 refine loop_inv (fun t ρ w' => ∃ (k : Nat) (z : List Int) (br : Int), ρ 7 = .int .i64 k ∧ k ≤ n ∧ t = n - k ∧ ρ 6 = .int .u64 br ∧ 0 ≤ br ∧ br ≤ 4294967296 ∧ Blk w' rb (nums .u64 z) ∧ z.length = n + 1 ∧ Lim z ∧ val (z.take k) - br * pw k = val (r.take k) - q * val (p.take k) ∧ (∀ j : Nat, k ≤ j → at' z j = at' r j) ∧ Fr w w' (fun b => b = rb)) n
  ⟨0, r, 0, by simp(disch:=omega)only[EZ,↓EP,↓reduceIte,Za,Zb,Zc,Zd,Ze,Zf,Zg,Zj,Zk,Zl,Zm,Zn,Zp,Zq,reduceCtorEq], by omega, rfl, by simp(disch:=omega)only[EZ,↓EP,↓reduceIte,Za,Zb,Zc,Zd,Ze,Zf,Zg,Zj,Zk,Zl,Zm,Zn,Zp,Zq,reduceCtorEq], by omega, by omega, hB, hr, hR, by simp[val_nil], fun _ _ => rfl, Fr.refl _ _⟩ ?_
 rintro t ρ w' hf ⟨k, z, br, h7, hk, rfl, h6, hb0, hb1, hBz, hz, hZ, hval, hsame, f1⟩ N hN
 have q0 : ρ 0 = .slice (some ⟨rb, 0, none⟩) (n + 1) c := by rw[hf 0 rfl]; simp(disch:=omega)only[EZ,↓EP,↓reduceIte,Za,Zb,Zc,Zd,Ze,Zf,Zg,Zj,Zk,Zl,Zm,Zn,Zp,Zq,reduceCtorEq]
 have q1 : ρ 1 = vp := by rw[hf 1 rfl]; simp(disch:=omega)only[EZ,↓EP,↓reduceIte,Za,Zb,Zc,Zd,Ze,Zf,Zg,Zj,Zk,Zl,Zm,Zn,Zp,Zq,reduceCtorEq]
 have q2 : ρ 2 = .int .u64 q := by rw[hf 2 rfl]; simp(disch:=omega)only[EZ,↓EP,↓reduceIte,Za,Zb,Zc,Zd,Ze,Zf,Zg,Zj,Zk,Zl,Zm,Zn,Zp,Zq,reduceCtorEq]
 clear hf
 have bz := hZ.at k
 have hs := hsame k (Nat.le_refl _)
 have ck := hBz.numN (j := k) (by omega)
 by_cases hkn : (k : Int) < (n : Int)
 ·have qc := (hro.fr f1).rd.get (by rw[nums_length]; omega)
  obtain ⟨pa, eA, _, hpa⟩ := qc
  have cp := hpa.numN (j := k) (by omega)
  have bp := hP.at k
  have hm := mulB hq bp
  rw[eA] at ep
  have qx : ∃ x, x = q * at' p k + br := ⟨_, rfl⟩
  obtain ⟨x, hx⟩ := qx
  have hx0 : 0 ≤ x ∧ x < 18446744073709551616 := by omega
  have ha := andB hx0.1 hx0.2
  have hxd := Int.mul_ediv_add_emod x 4294967296
  have hxm : x / 4294967296 ≤ 4294967295 := by omega
  have t1 := val_take_succ' r k
  have t2 := val_take_succ' p k
  by_cases hlt : at' z k < x % 4294967296
  ·simp(disch:=omega)only[Zu,Zv,Zx,Zz,EZ,↓EP,↓reduceIte,Za,Zb,Zc,Zd,Ze,Zf,Zg,Zj,Zk,Zl,Zm,Zn,Zp,Zq,reduceCtorEq,W_join,h7,h6,q0,q1,q2,ep,cp,← hx,ha,ck]
   refine st_num hBz (by omega) fun w2 p2 => ?_
   have ck2 := p2.blk.numN (j := k) (by rw[List.length_set]; omega)
   rw[at_setN (by omega)] at ck2
   simp(disch:=omega)only[Zu,Zv,Zx,Zz,EZ,↓EP,↓reduceIte,Za,Zb,Zc,Zd,Ze,Zf,Zg,Zj,Zk,Zl,Zm,Zn,Zp,Zq,reduceCtorEq,h7,q0,ck2]
   refine st_num p2.blk (by rw[List.length_set]; omega) fun w3 p3 => ?_
   simp(disch:=omega)only[Zu,Zv,Zx,Zz,EZ,↓EP,↓reduceIte,Za,Zb,Zc,Zd,Ze,Zf,Zg,Zj,Zk,Zl,Zm,Zn,Zp,Zq,reduceCtorEq,h7]
   refine hN (n - (k + 1)) _ _ (by omega) ⟨k + 1, z.set k (at' z k + 4294967296 - x % 4294967296), x / 4294967296 + 1, by simp(disch:=omega)only[EZ,↓EP,↓reduceIte,Za,Zb,Zc,Zd,Ze,Zf,Zg,Zj,Zk,Zl,Zm,Zn,Zp,Zq,reduceCtorEq,h7,Int.natCast_add], by omega, rfl, by simp(disch:=omega)only[Zu,Zv,Zx,Zz,EZ,↓EP,↓reduceIte,Za,Zb,Zc,Zd,Ze,Zf,Zg,Zj,Zk,Zl,Zm,Zn,Zp,Zq,reduceCtorEq], by omega, by omega, ?_, by simpa using hz, hZ.set _ (by omega) (by omega), ?_, fun j hj => ?_, (f1.trans p2.fr fun _ _ e => e).trans p3.fr fun _ _ e => e⟩
   ·have := p3.blk
    rwa [List.set_set] at this
   ·rw[val_take_set (by omega),t1,t2,pw_succ,← hs]
    grind
   ·rw[at_setO (by omega)]; exact hsame j (by omega)
  ·simp(disch:=omega)only[Zu,Zv,Zx,Zz,EZ,↓EP,↓reduceIte,Za,Zb,Zc,Zd,Ze,Zf,Zg,Zj,Zk,Zl,Zm,Zn,Zp,Zq,reduceCtorEq,W_join,h7,h6,q0,q1,q2,ep,cp,← hx,ha,ck]
   refine st_num hBz (by omega) fun w2 p2 => ?_
   simp(disch:=omega)only[Zu,Zv,Zx,Zz,EZ,↓EP,↓reduceIte,Za,Zb,Zc,Zd,Ze,Zf,Zg,Zj,Zk,Zl,Zm,Zn,Zp,Zq,reduceCtorEq,h7]
   refine hN (n - (k + 1)) _ _ (by omega) ⟨k + 1, z.set k (at' z k - x % 4294967296), x / 4294967296, by simp(disch:=omega)only[EZ,↓EP,↓reduceIte,Za,Zb,Zc,Zd,Ze,Zf,Zg,Zj,Zk,Zl,Zm,Zn,Zp,Zq,reduceCtorEq,h7,Int.natCast_add], by omega, rfl, by simp(disch:=omega)only[Zu,Zv,Zx,Zz,EZ,↓EP,↓reduceIte,Za,Zb,Zc,Zd,Ze,Zf,Zg,Zj,Zk,Zl,Zm,Zn,Zp,Zq,reduceCtorEq], by omega, by omega, p2.blk, by simpa using hz, hZ.set _ (by omega) (by omega), ?_, fun j hj => ?_, f1.trans p2.fr fun _ _ e => e⟩
   ·rw[val_take_set (by omega),t1,t2,pw_succ,← hs]
    grind
   ·rw[at_setO (by omega)]; exact hsame j (by omega)
 ·have hk : k = n := by omega
  subst hk
  have t1 := val_take_succ' r k
  have t2 := val_take_succ' z k
  rw[val_take_all (by omega)] at t1 t2
  rw[val_take_all (l := p) (by omega)] at hval
  have bt := val_bd (hZ.take k)
  have htk : (z.take k).length ≤ k := by simp; omega
  have hpk := pw_le htk
  have hpp := pw_pos k
  have hge : br ≤ at' z k := by
   by_cases h : br ≤ at' z k
   ·exact h
   ·exfalso
    rw[← hs] at t1
    have := mul_r (show at' z k + 1 ≤ br by omega) (show 0 ≤ pw k by omega)
    rw[Int.add_mul,Int.one_mul] at this
    omega
  simp(disch:=omega)only[Zu,Zv,Zx,Zz,EZ,↓EP,↓reduceIte,Za,Zb,Zc,Zd,Ze,Zf,Zg,Zj,Zk,Zl,Zm,Zn,Zp,Zq,reduceCtorEq,h7,h6,q0,q1,ep,ck]
  refine st_num hBz (by omega) fun w2 p2 => ?_
  simp(disch:=omega)only[Zu,Zv,Zx,Zz,EZ,↓EP,↓reduceIte,Za,Zb,Zc,Zd,Ze,Zf,Zg,Zj,Zk,Zl,Zm,Zn,Zp,Zq,reduceCtorEq]
  refine hK _ w2 p2.blk (by simpa using hz) (hZ.set _ (by omega) (by omega)) ?_ (f1.trans p2.fr fun _ _ e => e)
  have t3 := val_take_set (l := z) (k := k) (x := at' z k - br) (by omega)
  rw[val_take_all (by simp; omega)] at t3
  rw[t3,t1,← hs]
  grind
theorem btake_same {a b : List Int} {k : Nat} : ∀ {n : Nat}, k ≤ n → (∀ j : Nat, k ≤ j → j < n → at' a j = at' b j) → val (a.take n) - val (b.take n) = val (a.take k) - val (b.take k)
 | 0, h, _ => by obtain rfl : k = 0 := by omega
                 rfl
 | n + 1, h, hs => by
  by_cases hk : k = n + 1
  ·subst hk; rfl
  ·have ih := btake_same (n := n) (a := a) (b := b) (k := k) (by omega) fun j h1 h2 => hs j h1 (by omega)
   rw[val_take_succ',val_take_succ',hs n (by omega) (by omega)]
   omega
theorem bval_same {a b : List Int} (h : ∀ j : Nat, at' a j = at' b j) : val a = val b := by
 have := btake_same (a := a) (b := b) (k := 0) (n := max a.length b.length) (Nat.zero_le _) fun j _ _ => h j
 rw[val_take_all (by omega),val_take_all (by omega)] at this
 simp[val_nil] at this
 omega
theorem bval_lt {a b : List Int} (ha : Lim a) (hb : Lim b) {k : Nat} (h : ∀ j : Nat, k < j → at' a j = at' b j) (hlt : at' a k < at' b k) : val a < val b := by
 have := btake_same (a := a) (b := b) (k := k + 1) (n := max (max a.length b.length) (k + 1)) (by omega) fun j h1 _ => h j (by omega)
 rw[val_take_all (by omega),val_take_all (by omega),val_take_succ',val_take_succ'] at this
 have h1 := (val_bd (ha.take k)).2
 have h2 := (val_bd (hb.take k)).1
 have hle := pw_le (show (a.take k).length ≤ k by simp; omega)
 have h3 := mul_r (show at' a k + 1 ≤ at' b k by omega) (show 0 ≤ pw k by have := pw_pos k; omega)
 rw[Int.add_mul,Int.one_mul] at h3
 omega
set_option maxHeartbeats 1000000 in
theorem reach_spec {w : World} {vr vp : Value} {r p : List Int} {n : Nat} (hv : Vw .u64 w vr r) (hq : Vw .u64 w vp p) (hr : r.length = n + 1) (hp : p.length = n) (hR : Lim r) (hP : Lim p) (hn : n ≤ 16777216) (K : Value → World → Prop)
  (hK : ∀ w', Fr w w' nob → K (.bool (decide (val p ≤ val r))) w') : callK Tryz.prog 113 [vr, vp] w K := by
 obtain ⟨A, c, rfl, hc, hl⟩ := hv
 obtain ⟨B, d, rfl, hd, hl2⟩ := hq
 rw[hr,hp]
 have qc := hl.get (by rw[nums_length]; omega)
 obtain ⟨pa, eA, _, hpa⟩ := qc
 subst eA
 have ct := hpa.numN (j := n) (by omega)
 have bt := hR.at (n : Nat)
 refine call_of Tryz.func113 Code.h113 (by simp[Code.c113]) ?_
 by_cases htop : 0 < at' r (n : Nat)
 ·have hlt := bval_lt hP hR (k := n) (fun j hj => by rw[at_ge (by omega),at_ge (by omega)]) (by rw[at_ge (l := p) (by omega)]; exact htop)
  simp(disch:=omega)only[Zu,Zv,Zx,Zz,EZ,↓EP,↓reduceIte,Za,Zb,Zc,Zd,Ze,Zf,Zg,Zj,Zk,Zl,Zm,Zn,Zp,Zq,reduceCtorEq,Code.c113,ct]
  have := hK w (Fr.refl _ _)
  rwa [decide_eq_true (by omega)] at this
 simp(disch:=omega)only[Zu,Zv,Zx,Zz,EZ,↓EP,↓reduceIte,Za,Zb,Zc,Zd,Ze,Zf,Zg,Zj,Zk,Zl,Zm,Zn,Zp,Zq,reduceCtorEq,Code.c113,ct]
 refine loop_inv (fun t ρ w' => ∃ j, w' = w.drewN j ∧ ρ 5 = .int .i64 ((t : Int) - 1) ∧ t ≤ n ∧ ∀ i : Nat, t ≤ i → at' r i = at' p i) n
  ⟨0, rfl, by simp(disch:=omega)only[EZ,↓EP,↓reduceIte,Za,Zb,Zc,Zd,Ze,Zf,Zg,Zj,Zk,Zl,Zm,Zn,Zp,Zq,reduceCtorEq], Nat.le_refl _, fun i hi => ?_⟩ ?_
 ·by_cases h : i = n
  ·subst h; rw[at_ge (l := p) (by omega)]; omega
  ·rw[at_ge (by omega),at_ge (by omega)]
 rintro t ρ w' hf ⟨j, rfl, h5, ht, hs⟩ N hN
 have q0 : ρ 0 = .slice (some pa) (n + 1) c := by rw[hf 0 rfl]; simp(disch:=omega)only[EZ,↓EP,↓reduceIte,Za,Zb,Zc,Zd,Ze,Zf,Zg,Zj,Zk,Zl,Zm,Zn,Zp,Zq,reduceCtorEq]
 have q1 : ρ 1 = .slice B n d := by rw[hf 1 rfl]; simp(disch:=omega)only[EZ,↓EP,↓reduceIte,Za,Zb,Zc,Zd,Ze,Zf,Zg,Zj,Zk,Zl,Zm,Zn,Zp,Zq,reduceCtorEq]
 clear hf
 cases t with
 | zero =>
  have e := bval_same (a := r) (b := p) fun j => hs j (Nat.zero_le _)
  simp(disch:=omega)only[EZ,↓EP,↓reduceIte,Za,Zb,Zc,Zd,Ze,Zf,Zg,Zj,Zk,Zl,Zm,Zn,Zp,Zq,reduceCtorEq,h5,Int.natCast_zero]
  have := hK (w.drewN j) (Fr.drewN w _ _)
  rwa [decide_eq_true (by omega)] at this
 | succ k =>
  have e1 : ((k + 1 : Nat) : Int) - 1 = (k : Int) := by omega
  rw[e1] at h5
  have qd := hl2.get (by rw[nums_length]; omega)
  obtain ⟨pb, eB, _, hpb⟩ := qd
  rw[eB] at q1
  have ck := hpa.numN (j := k) (by omega)
  have cp := hpb.numN (j := k) (by omega)
  by_cases he : at' r k = at' p k
  ·simp(disch:=omega)only[EZ,↓EP,↓reduceIte,Za,Zb,Zc,Zd,Ze,Zf,Zg,Zj,Zk,Zl,Zm,Zn,Zp,Zq,reduceCtorEq,h5,q0,q1,ck,cp,he]
   intro m1
   exact hN k _ _ (by omega) ⟨_, rfl, by simp(disch:=omega)only[EZ,↓EP,↓reduceIte,Za,Zb,Zc,Zd,Ze,Zf,Zg,Zj,Zk,Zl,Zm,Zn,Zp,Zq,reduceCtorEq,h5], by omega, fun i hi => by
    by_cases hik : i = k
    ·subst hik; exact he
    ·exact hs i (by omega)⟩
  ·have hf1 : (at' r k = at' p k) = False := eq_false he
   simp(disch:=omega)only[EZ,↓EP,↓reduceIte,Za,Zb,Zc,Zd,Ze,Zf,Zg,Zj,Zk,Zl,Zm,Zn,Zp,Zq,reduceCtorEq,h5,q0,q1,ck,cp,hf1]
   intro m1 m2
   have := hK (w.drewN (j + (m1 + m2))) (Fr.drewN w _ _)
   have hd : decide (val p ≤ val r) = decide (at' p k < at' r k) := by
    by_cases g : at' p k < at' r k
    ·have := bval_lt hP hR (k := k) (fun i hi => (hs i (by omega)).symm) g
     rw[decide_eq_true g,decide_eq_true (by omega)]
    ·have := bval_lt hR hP (k := k) (fun i hi => hs i (by omega)) (by omega)
     rw[decide_eq_false g,decide_eq_false (by omega)]
   rw[hd] at this
   first | exact this | (rw[Nat.add_assoc]; exact this)
theorem bval_step {o : List Int} {k : Nat} {x y : Int} (h : k < o.length) : val ((o.set k x).take (k + 1)) + y * pw (k + 1) = val (o.take k) + (x + 4294967296 * y) * pw k := by
 rw[val_take_set h,pw_succ]; grind
theorem shift_val {z z' : List Int} {n : Nat} {x : Int} (hz : z.length = n + 1) (hz' : z'.length = n + 1) (h0 : at' z' 0 = x) (hs : ∀ j : Nat, j < n → at' z' (j + 1 : Nat) = at' z j) (htop : at' z n = 0) : val z' = x + 4294967296 * val z := by
 have e : z' = x :: z.take n := by
  apply List.ext_getElem
  ·simp; omega
  ·intro i h1 h2
   cases i with
   | zero =>
    have := at_get (l := z') (k := 0) (by omega)
    rw[List.getElem_cons_zero,← this]; exact h0
   | succ i =>
    have e1 := at_get (l := z') (k := i + 1) h1
    have e2 := at_get (l := z) (k := i) (by omega)
    rw[List.getElem_cons_succ,List.getElem_take,← e1,← e2]
    exact hs i (by omega)
 rw[e,val_cons]
 have := val_take_succ' z n
 rw[htop,val_take_all (by omega)] at this
 rw[this]; omega
theorem top_zero {z : List Int} {n : Nat} (hz : z.length = n + 1) (hZ : Lim z) (h : val z < pw n) : at' z n = 0 := by
 have e := val_take_succ' z n
 rw[val_take_all (by omega)] at e
 have b1 := (val_bd (hZ.take n)).1
 have b2 := hZ.at n
 by_cases h0 : at' z n = 0
 ·exact h0
 ·exfalso
  have := mul_r (show 1 ≤ at' z n by omega) (show 0 ≤ pw n by have := pw_pos n; omega)
  omega
theorem quot_le {R P T D W lo : Int} {q : Int} (hW : 0 < W) (hD : 0 < D) (hq : q = T / D) (hT : 0 ≤ T) (hP : P < D * W) (hP0 : 0 < P) (hR : R = T * W + lo) (hlo : 0 ≤ lo) (hRP : R < 4294967296 * P) : 0 ≤ q ∧ q < 4294967296 ∧ q * P ≤ R := by
 have q0 : 0 ≤ q := by rw[hq]; exact Int.ediv_nonneg hT (by omega)
 have h1 : q * D ≤ T := by
  have := Int.mul_ediv_add_emod T D
  have := Int.emod_nonneg T (show D ≠ 0 by omega)
  rw[hq,Int.mul_comm]; omega
 have h2 : q * P ≤ q * (D * W) := Int.mul_le_mul_of_nonneg_left (by omega) q0
 have h3 := mul_r h1 (show 0 ≤ W by omega)
 have e : q * (D * W) = q * D * W := by rw[Int.mul_assoc]
 have h4 : q * P ≤ R := by omega
 refine ⟨q0, ?_, h4⟩
 exact lt_of_mul (show q * P < 4294967296 * P by omega) (by omega)
theorem mod_step {x V P v : Int} (h : v = V % P) : (x + 4294967296 * v) % P = (x + 4294967296 * V) % P := by
 rw[h,Int.add_emod,Int.mul_emod,Int.emod_emod,← Int.mul_emod,← Int.add_emod]
set_option maxHeartbeats 4000000 in
theorem rproduct_vw {w : World} {va vb vp : Value} {l r p : List Int} {n : Nat} (ha : Vw .u64 w va l) (hb : Vw .u64 w vb r) (hp : Vw .u64 w vp p) (la : l.length = n) (lb : r.length = n) (lp : p.length = n) (hL : Lim l) (hR : Lim r) (hP : Lim p) (hn1 : 1 ≤ n) (hn : n ≤ 1000000) (htop : 2147483648 ≤ at' p (n - 1 : Nat)) (K : Value → World → Prop)
  (hK : ∀ o v w', Gw .u64 w w' v o → o.length = n → Lim o → val o = val l * val r % val p → K v w') : callK Tryz.prog 91 [va, vb, vp] w K := by
 obtain ⟨A, c, ea, hc, hl⟩ := id ha
 obtain ⟨B, d, eb, hd, hr⟩ := id hb
 obtain ⟨C, e, ep, he, hpr⟩ := id hp
 rw[la] at ea
 rw[lb] at eb
 rw[lp] at ep
 refine call_of Tryz.func91 Code.h91 (by simp[Code.c91]) ?_
 have eN : (2 * (n : Int)).toNat = 2 * n := by omega
 simp(disch:=omega)only[EZ,↓EP,↓reduceIte,Za,Zb,Zc,Zd,Ze,Zf,Zg,Zj,Zk,Zl,Zm,Zn,Zp,Zq,reduceCtorEq,Code.c91,ep]
 refine al_k (nums .u64 (List.replicate (2 * n) 0)) (by rw[madeCells_list,nums_replicate,eN]) fun w1 n1 => ?_
 simp(disch:=omega)only[EZ,↓EP,↓reduceIte,Za,Zb,Zc,Zd,Ze,Zf,Zg,Zj,Zk,Zl,Zm,Zn,Zp,Zq,reduceCtorEq,eN]
 refine loop_inv (fun t ρ w2 => ∃ (i : Nat) (o : List Int), ρ 9 = .int .i64 i ∧ i ≤ n ∧ t = n - i ∧ Blk w2 w.heap.size (nums .u64 o) ∧ o.length = 2 * n ∧ Lim o ∧ val (o.take (i + n)) = val (l.take i) * val r ∧ Fr w w2 nob) n
  ⟨0, List.replicate (2 * n) 0, by simp(disch:=omega)only[EZ,↓EP,↓reduceIte,Za,Zb,Zc,Zd,Ze,Zf,Zg,Zj,Zk,Zl,Zm,Zn,Zp,Zq,reduceCtorEq], by omega, rfl, n1.blk, by simp, Lim.zeros _, by simp[val_nil,val_zeros,List.take_replicate], n1.fr nob⟩ ?_
 rintro t ρ w2 hf ⟨i, o0, h9, hi, rfl, hB0, ho0, hO0, hv0, f2⟩ N hN
 have q0 : ρ 0 = va := by rw[hf 0 rfl]; simp(disch:=omega)only[EZ,↓EP,↓reduceIte,Za,Zb,Zc,Zd,Ze,Zf,Zg,Zj,Zk,Zl,Zm,Zn,Zp,Zq,reduceCtorEq]
 have q1 : ρ 1 = vb := by rw[hf 1 rfl]; simp(disch:=omega)only[EZ,↓EP,↓reduceIte,Za,Zb,Zc,Zd,Ze,Zf,Zg,Zj,Zk,Zl,Zm,Zn,Zp,Zq,reduceCtorEq]
 have q2 : ρ 2 = .slice C n e := by rw[hf 2 rfl]; simp(disch:=omega)only[EZ,↓EP,↓reduceIte,Za,Zb,Zc,Zd,Ze,Zf,Zg,Zj,Zk,Zl,Zm,Zn,Zp,Zq,reduceCtorEq,ep]
 have q7 : ρ 7 = .int .i64 n := by rw[hf 7 rfl]; simp(disch:=omega)only[EZ,↓EP,↓reduceIte,Za,Zb,Zc,Zd,Ze,Zf,Zg,Zj,Zk,Zl,Zm,Zn,Zp,Zq,reduceCtorEq,ep]
 have q8 : ρ 8 = .slice (some ⟨w.heap.size, 0, none⟩) (2 * n) (2 * n) := by rw[hf 8 rfl]; simp(disch:=omega)only[EZ,↓EP,↓reduceIte,Za,Zb,Zc,Zd,Ze,Zf,Zg,Zj,Zk,Zl,Zm,Zn,Zp,Zq,reduceCtorEq,eN]
 clear hf
 by_cases hil : (i : Int) < (n : Int)
 ·have bx := hL.at i
  simp(disch:=omega)only[EZ,↓EP,↓reduceIte,Za,Zb,Zc,Zd,Ze,Zf,Zg,Zj,Zk,Zl,Zm,Zn,Zp,Zq,reduceCtorEq,h9,q7]
  refine loop_inv (fun t ρ2 w3 => ∃ (k : Nat) (o : List Int) (cr : Int), ρ2 11 = .int .i64 k ∧ k ≤ n ∧ t = n - k ∧ ρ2 10 = .int .u64 cr ∧ 0 ≤ cr ∧ cr < 4294967296 ∧ Blk w3 w.heap.size (nums .u64 o) ∧ o.length = 2 * n ∧ Lim o ∧ val (o.take (i + k)) + cr * pw (i + k) = val (o0.take (i + k)) + at' l i * val (r.take k) * pw i ∧ (∀ j : Nat, i + k ≤ j → at' o j = at' o0 j) ∧ Fr w w3 nob) n
   ⟨0, o0, 0, by simp(disch:=omega)only[EZ,↓EP,↓reduceIte,Za,Zb,Zc,Zd,Ze,Zf,Zg,Zj,Zk,Zl,Zm,Zn,Zp,Zq,reduceCtorEq], by omega, rfl, by simp(disch:=omega)only[EZ,↓EP,↓reduceIte,Za,Zb,Zc,Zd,Ze,Zf,Zg,Zj,Zk,Zl,Zm,Zn,Zp,Zq,reduceCtorEq], by omega, by omega, hB0, ho0, hO0, by simp[val_nil], fun _ _ => rfl, f2⟩ ?_
  rintro t ρ2 w3 hf ⟨k, o, cr, h11, hk, rfl, h10, hc0, hc1, hB, ho, hO, hv, hsame, f3⟩ N2 hN2
  have p0 : ρ2 0 = va := by rw[hf 0 rfl]; simp(disch:=omega)only[EZ,↓EP,↓reduceIte,Za,Zb,Zc,Zd,Ze,Zf,Zg,Zj,Zk,Zl,Zm,Zn,Zp,Zq,reduceCtorEq,q0]
  have p1 : ρ2 1 = vb := by rw[hf 1 rfl]; simp(disch:=omega)only[EZ,↓EP,↓reduceIte,Za,Zb,Zc,Zd,Ze,Zf,Zg,Zj,Zk,Zl,Zm,Zn,Zp,Zq,reduceCtorEq,q1]
  have p7 : ρ2 7 = .int .i64 n := by rw[hf 7 rfl]; simp(disch:=omega)only[EZ,↓EP,↓reduceIte,Za,Zb,Zc,Zd,Ze,Zf,Zg,Zj,Zk,Zl,Zm,Zn,Zp,Zq,reduceCtorEq,q7]
  have p8 : ρ2 8 = .slice (some ⟨w.heap.size, 0, none⟩) (2 * n) (2 * n) := by rw[hf 8 rfl]; simp(disch:=omega)only[EZ,↓EP,↓reduceIte,Za,Zb,Zc,Zd,Ze,Zf,Zg,Zj,Zk,Zl,Zm,Zn,Zp,Zq,reduceCtorEq,q8]
  have p9 : ρ2 9 = .int .i64 i := by rw[hf 9 rfl]; simp(disch:=omega)only[EZ,↓EP,↓reduceIte,Za,Zb,Zc,Zd,Ze,Zf,Zg,Zj,Zk,Zl,Zm,Zn,Zp,Zq,reduceCtorEq,h9]
  clear hf
  by_cases hkr : (k : Int) < (n : Int)
  ·have qa := (hl.nb f3).get (by rw[nums_length]; omega)
   obtain ⟨pa, eA, _, hpa⟩ := qa
   have cp := hpa.numN (j := i) (by omega)
   have qb := (hr.nb f3).get (by rw[nums_length]; omega)
   obtain ⟨pb, eB, _, hpb⟩ := qb
   have cq := hpb.numN (j := k) (by omega)
   rw[eA] at ea
   rw[eB] at eb
   have co := hB.numN (j := i + k) (by omega)
   have by' := hR.at k
   have bo := hO.at (i + k : Nat)
   have hm := mul_bd bx by'
   have eik : ((i : Int) + (k : Int)).toNat = i + k := by omega
   have e1 := val_take_succ' r k
   have e2 := val_take_succ' o0 (i + k)
   have e3 := hsame (i + k) (Nat.le_refl _)
   rw[← e3] at e2
   have qT : ∃ T, T = at' l i * at' r k + at' o (i + k : Nat) + cr := ⟨_, rfl⟩
   obtain ⟨T, hT⟩ := qT
   have hT0 : 0 ≤ T ∧ T < 18446744073709551616 := by omega
   have hand := andB hT0.1 hT0.2
   simp(disch:=omega)only[Zu,Zv,Zx,Zz,EZ,↓EP,↓reduceIte,Za,Zb,Zc,Zd,Ze,Zf,Zg,Zj,Zk,Zl,Zm,Zn,Zp,Zq,reduceCtorEq,h11,h10,p0,p1,p7,p8,p9,ea,eb,cp,cq,co,eik,← hT]
   intro m1
   simp(disch:=omega)only[Zu,Zv,Zx,Zz,EZ,↓EP,↓reduceIte,Za,Zb,Zc,Zd,Ze,Zf,Zg,Zj,Zk,Zl,Zm,Zn,Zp,Zq,reduceCtorEq,h11,p8,p9,eik,hand]
   refine st_num (hB.drewN m1) (by omega) fun w4 p4 => ?_
   have e4 := bval_step (o := o) (k := i + k) (x := T % 4294967296) (y := T / 4294967296) (by omega)
   simp(disch:=omega)only[Zu,Zv,Zx,Zz,EZ,↓EP,↓reduceIte,Za,Zb,Zc,Zd,Ze,Zf,Zg,Zj,Zk,Zl,Zm,Zn,Zp,Zq,reduceCtorEq,h11]
   refine hN2 (n - (k + 1)) _ _ (by omega) ⟨k + 1, _, T / 4294967296, by simp(disch:=omega)only[EZ,↓EP,↓reduceIte,Za,Zb,Zc,Zd,Ze,Zf,Zg,Zj,Zk,Zl,Zm,Zn,Zp,Zq,reduceCtorEq,h11,Int.natCast_add], by omega, rfl, by simp(disch:=omega)only[EZ,↓EP,↓reduceIte,Za,Zb,Zc,Zd,Ze,Zf,Zg,Zj,Zk,Zl,Zm,Zn,Zp,Zq,reduceCtorEq,hT], by omega, by omega, p4.blk, by rw[List.length_set]; exact ho, hO.set _ (by omega) (by omega), ?_, ?_, (f3.nb (Fr.drewN w3 m1 nob)).own p4.fr fun x e => by omega⟩
   ·rw[show i + (k + 1) = i + k + 1 by omega, e4, e1, e2, pw_add] 
    rw[pw_add] at hv
    have := Int.mul_ediv_add_emod T 4294967296
    grind
   ·intro j hj
    rw[at_setO (by omega)]
    exact hsame j (by omega)
  ·have hk : k = n := by omega
   have e1 := val_take_succ' l i
   have eik : ((i : Int) + (n : Int)).toNat = i + n := by omega
   simp(disch:=omega)only[Zu,Zv,Zx,Zz,EZ,↓EP,↓reduceIte,Za,Zb,Zc,Zd,Ze,Zf,Zg,Zj,Zk,Zl,Zm,Zn,Zp,Zq,reduceCtorEq,h11,h10,p7,p8,p9,eik]
   refine st_num hB (by omega) fun w4 p4 => ?_
   simp(disch:=omega)only[Zu,Zv,Zx,Zz,EZ,↓EP,↓reduceIte,Za,Zb,Zc,Zd,Ze,Zf,Zg,Zj,Zk,Zl,Zm,Zn,Zp,Zq,reduceCtorEq,p9]
   refine hN (n - (i + 1)) _ _ (by omega) ⟨i + 1, _, by simp(disch:=omega)only[EZ,↓EP,↓reduceIte,Za,Zb,Zc,Zd,Ze,Zf,Zg,Zj,Zk,Zl,Zm,Zn,Zp,Zq,reduceCtorEq,p9,Int.natCast_add], by omega, rfl, p4.blk, by rw[List.length_set]; exact ho, hO.set _ (by omega) (by omega), ?_, f3.own p4.fr fun x e => by omega⟩
   rw[hk] at hv
   rw[show i + 1 + n = i + n + 1 by omega, val_take_set (by omega), hv, hv0, e1, val_take_all (l := r) (by omega)]
   grind
 have hi : i = n := by omega
 have hvt : val o0 = val l * val r := by
  rw[hi,val_take_all (by omega),val_take_all (by omega)] at hv0
  exact hv0
 clear hN hv0
 have eN1 : ((n : Int) + 1).toNat = n + 1 := by omega
 have ltt := hB0.lt
 have szt := f2.size
 simp(disch:=omega)only[EZ,↓EP,↓reduceIte,Za,Zb,Zc,Zd,Ze,Zf,Zg,Zj,Zk,Zl,Zm,Zn,Zp,Zq,reduceCtorEq,h9,q7]
 refine al_k (nums .u64 (List.replicate (n + 1) 0)) (by first | rw[madeCells_list,nums_replicate,eN1] | rw[madeCells_list,nums_replicate]) fun w3 n3 => ?_
 have f3 := f2.nb (n3.fr nob)
 have hT3 := hB0.nb (n3.fr nob)
 have hR3 := n3.blk
 have vp0 : Vr .u64 w vp p (fun b => b = w2.heap.size) := vw_vr hp fun b hb e => by omega
 have hP0 : 0 < val p := by
  have e := val_take_succ' p (n - 1)
  rw[val_take_all (by omega)] at e
  have b1 := (val_bd (hP.take (n - 1))).1
  have := mul_r (show 1 ≤ at' p (n - 1 : Nat) by omega) (show 0 ≤ pw (n - 1) by have := pw_pos (n - 1); omega)
  have := pw_pos (n - 1)
  omega
 have hPn : val p < pw n := by have := (val_bd hP).2; rwa [lp] at this
 have bt := hP.at (n - 1 : Nat)
 simp(disch:=omega)only[EZ,↓EP,↓reduceIte,Za,Zb,Zc,Zd,Ze,Zf,Zg,Zj,Zk,Zl,Zm,Zn,Zp,Zq,reduceCtorEq,q7,eN1]
 refine loop_inv (fun t ρ w' => ∃ z : List Int, ρ 14 = .int .i64 ((t : Int) - 1) ∧ t ≤ 2 * n ∧ Blk w' w2.heap.size (nums .u64 z) ∧ z.length = n + 1 ∧ Lim z ∧ val z = val (o0.drop t) % val p ∧ Blk w' w.heap.size (nums .u64 o0) ∧ Fr w w' nob) (2 * n)
  ⟨List.replicate (n + 1) 0, by (simp(disch:=omega)only[EZ,↓EP,↓reduceIte,Za,Zb,Zc,Zd,Ze,Zf,Zg,Zj,Zk,Zl,Zm,Zn,Zp,Zq,reduceCtorEq,q7]) <;> (try congr 1) <;> (try omega), Nat.le_refl _, hR3, by simp, Lim.zeros _, by rw[val_zeros,List.drop_of_length_le (by omega),val_nil,Int.zero_emod], hT3, f3⟩ ?_
 rintro t ρ3 w4 hf ⟨z, h14, ht, hBz, hz, hZ, hvz, hT4, f4⟩ N hN
 have p2 : ρ3 2 = vp := by rw[hf 2 rfl]; simp(disch:=omega)only[EZ,↓EP,↓reduceIte,Za,Zb,Zc,Zd,Ze,Zf,Zg,Zj,Zk,Zl,Zm,Zn,Zp,Zq,reduceCtorEq,q2,ep]
 have p7 : ρ3 7 = .int .i64 n := by rw[hf 7 rfl]; simp(disch:=omega)only[EZ,↓EP,↓reduceIte,Za,Zb,Zc,Zd,Ze,Zf,Zg,Zj,Zk,Zl,Zm,Zn,Zp,Zq,reduceCtorEq,q7]
 have p8 : ρ3 8 = .slice (some ⟨w.heap.size, 0, none⟩) (2 * n) (2 * n) := by rw[hf 8 rfl]; simp(disch:=omega)only[EZ,↓EP,↓reduceIte,Za,Zb,Zc,Zd,Ze,Zf,Zg,Zj,Zk,Zl,Zm,Zn,Zp,Zq,reduceCtorEq,q8]
 have p13 : ρ3 13 = .slice (some ⟨w2.heap.size, 0, none⟩) (n + 1) (n + 1) := by rw[hf 13 rfl]; simp(disch:=omega)only[EZ,↓EP,↓reduceIte,Za,Zb,Zc,Zd,Ze,Zf,Zg,Zj,Zk,Zl,Zm,Zn,Zp,Zq,reduceCtorEq,eN1]
 clear hf
 have hzlt : val z < val p := by rw[hvz]; exact Int.emod_lt_of_pos _ hP0
 have hz0 : 0 ≤ val z := (val_bd hZ).1
 have hztop := top_zero hz hZ (by omega)
 cases t with
 | zero =>
  simp(disch:=omega)only[EZ,↓EP,↓reduceIte,Za,Zb,Zc,Zd,Ze,Zf,Zg,Zj,Zk,Zl,Zm,Zn,Zp,Zq,reduceCtorEq,h14,p7,p13,Int.natCast_zero]
  rw[List.drop_zero,hvt] at hvz
  have g := own_cut (m := n) hBz (show w.heap.size ≤ w2.heap.size from szt) f4 hz (by omega) rfl
  refine hK (z.take n) _ w4 g (by simp; omega) (hZ.take n) ?_
  have e1 := val_take_succ' z n
  rw[hztop,val_take_all (by omega)] at e1
  rw[← hvz]; omega
 | succ i =>
  have h14' : ρ3 14 = .int .i64 i := by rw[h14]; congr 1; omega
  simp(disch:=omega)only[EZ,↓EP,↓reduceIte,Za,Zb,Zc,Zd,Ze,Zf,Zg,Zj,Zk,Zl,Zm,Zn,Zp,Zq,reduceCtorEq,h14',p7]
  refine loop_inv (fun s ρ w' => ∃ z' : List Int, ρ 15 = .int .i64 (s : Nat) ∧ s ≤ n ∧ Blk w' w2.heap.size (nums .u64 z') ∧ z'.length = n + 1 ∧ Lim z' ∧ (∀ j : Nat, j ≤ n → at' z' j = if s < j then at' z (j - 1 : Nat) else at' z j) ∧ Blk w' w.heap.size (nums .u64 o0) ∧ Fr w w' nob) n
   ⟨z, by simp(disch:=omega)only[EZ,↓EP,↓reduceIte,Za,Zb,Zc,Zd,Ze,Zf,Zg,Zj,Zk,Zl,Zm,Zn,Zp,Zq,reduceCtorEq,p7], Nat.le_refl _, hBz, hz, hZ, fun j hj => by rw[if_neg (by omega)], hT4, f4⟩ ?_
  rintro s ρ4 w5 hf ⟨z', h15, hs, hB5, hz5, hZ5, hrel, hT5, f5⟩ N2 hN2
  have r2 : ρ4 2 = vp := by rw[hf 2 rfl]; simp(disch:=omega)only[EZ,↓EP,↓reduceIte,Za,Zb,Zc,Zd,Ze,Zf,Zg,Zj,Zk,Zl,Zm,Zn,Zp,Zq,reduceCtorEq,p2]
  have r7 : ρ4 7 = .int .i64 n := by rw[hf 7 rfl]; simp(disch:=omega)only[EZ,↓EP,↓reduceIte,Za,Zb,Zc,Zd,Ze,Zf,Zg,Zj,Zk,Zl,Zm,Zn,Zp,Zq,reduceCtorEq,p7]
  have r8 : ρ4 8 = .slice (some ⟨w.heap.size, 0, none⟩) (2 * n) (2 * n) := by rw[hf 8 rfl]; simp(disch:=omega)only[EZ,↓EP,↓reduceIte,Za,Zb,Zc,Zd,Ze,Zf,Zg,Zj,Zk,Zl,Zm,Zn,Zp,Zq,reduceCtorEq,p8]
  have r13 : ρ4 13 = .slice (some ⟨w2.heap.size, 0, none⟩) (n + 1) (n + 1) := by rw[hf 13 rfl]; simp(disch:=omega)only[EZ,↓EP,↓reduceIte,Za,Zb,Zc,Zd,Ze,Zf,Zg,Zj,Zk,Zl,Zm,Zn,Zp,Zq,reduceCtorEq,p13]
  have r14 : ρ4 14 = .int .i64 i := by rw[hf 14 rfl]; simp(disch:=omega)only[EZ,↓EP,↓reduceIte,Za,Zb,Zc,Zd,Ze,Zf,Zg,Zj,Zk,Zl,Zm,Zn,Zp,Zq,reduceCtorEq,h14']
  clear hf
  cases s with
  | succ s =>
   have c1 := hB5.numN (j := s) (by omega)
   have b1 := hZ5.at (s : Nat)
   have es : ((s + 1 : Nat) : Int) - 1 = (s : Int) := by omega
   simp(disch:=omega)only[Zu,Zv,Zx,Zz,EZ,↓EP,↓reduceIte,Za,Zb,Zc,Zd,Ze,Zf,Zg,Zj,Zk,Zl,Zm,Zn,Zp,Zq,reduceCtorEq,h15,r13,es,c1]
   refine st_num hB5 (by omega) fun w6 p6 => ?_
   simp(disch:=omega)only[Zu,Zv,Zx,Zz,EZ,↓EP,↓reduceIte,Za,Zb,Zc,Zd,Ze,Zf,Zg,Zj,Zk,Zl,Zm,Zn,Zp,Zq,reduceCtorEq,h15,es]
   refine hN2 s _ _ (by omega) ⟨_, by simp(disch:=omega)only[EZ,↓EP,↓reduceIte,Za,Zb,Zc,Zd,Ze,Zf,Zg,Zj,Zk,Zl,Zm,Zn,Zp,Zq,reduceCtorEq,h15,es], by omega, p6.blk, by simpa using hz5, hZ5.set _ b1.1 b1.2, fun j hj => ?_, p6.keep (by omega) hT5, f5.own p6.fr fun x e => by omega⟩
   by_cases hj1 : j = s + 1
   ·subst hj1
    rw[at_setN (by omega), hrel s (by omega), if_neg (by omega), if_pos (by omega), show s + 1 - 1 = s by omega]
   ·rw[at_setO (by omega),hrel j hj]
    by_cases h : s + 1 < j
    ·rw[if_pos h,if_pos (by omega)]
    ·rw[if_neg h,if_neg (by omega)]
  | zero =>
   have ct := hT5.numN (j := i) (by omega)
   have bti := hO0.at (i : Nat)
   simp(disch:=omega)only[Zu,Zv,Zx,Zz,EZ,↓EP,↓reduceIte,Za,Zb,Zc,Zd,Ze,Zf,Zg,Zj,Zk,Zl,Zm,Zn,Zp,Zq,reduceCtorEq,h15,r2,r7,r8,r13,r14,Int.natCast_zero,ct]
   refine st_num (j := 0) hB5 (by omega) fun w6 p6 => ?_
   have hZ6 := hZ5.set 0 bti.1 bti.2
   have hz6 : (z'.set 0 (at' o0 i)).length = n + 1 := by rw[List.length_set]; exact hz5
   have hval6 : val (z'.set 0 (at' o0 i)) = at' o0 i + 4294967296 * val z := by
    refine shift_val hz hz6 ?_ (fun j hj => ?_) hztop
    ·have := at_setN (l := z') (k := 0) (by omega) (at' o0 i); exact this
    ·rw[at_setO (by omega), hrel (j + 1) (by omega), if_pos (by omega), show j + 1 - 1 = j by omega]
   have f6 := f5.own p6.fr fun x e => by omega
   have hT6 := p6.keep (by omega) hT5
   have hB6 := p6.blk
   generalize z'.set 0 (at' o0 i) = z1 at hZ6 hz6 hval6 hB6
   have vp6 := vp0.fr (f6.any _)
   have qv := vp6
   obtain ⟨C', e', ep', he', hro⟩ := qv
   rw[lp] at ep' he'
   have qc := hro.rd.get (by rw[nums_length]; omega)
   obtain ⟨pc, eC, _, hpc⟩ := qc
   rw[eC] at ep'
   have cpt := hpc.numN (j := n - 1) (by omega)
   have cz1 := hB6.numN (j := n) (by omega)
   have cz0 := hB6.numN (j := n - 1) (by omega)
   have bz1 := hZ6.at (n : Nat)
   have bz0 := hZ6.at (n - 1 : Nat)
   have en1 : (n : Int) - 1 = ((n - 1 : Nat) : Int) := by omega
   have eo := or_shl (a := at' z1 (n : Nat)) (b := at' z1 (n - 1 : Nat)) bz1.1 bz1.2 bz0.1 bz0.2
   have qT : ∃ T, T = at' z1 (n : Nat) * 4294967296 + at' z1 (n - 1 : Nat) := ⟨_, rfl⟩
   obtain ⟨T, hT⟩ := qT
   rw[← hT] at eo
   have hT0 : 0 ≤ T ∧ T < 18446744073709551616 := by omega
   have qq : ∃ q, q = T / (at' p (n - 1 : Nat) + 1) := ⟨_, rfl⟩
   obtain ⟨q, hq⟩ := qq
   have hsplit : val z1 = T * pw (n - 1) + val (z1.take (n - 1)) := by
    have e1 := val_take_succ' z1 n
    have e2 := val_take_succ' z1 (n - 1)
    rw[show n - 1 + 1 = n by omega] at e2
    rw[val_take_all (by omega), e2, show pw n = pw (n - 1) * 4294967296 by rw [← pw_succ, show n - 1 + 1 = n by omega]] at e1
    rw[e1,hT]; grind
   have hlow := (val_bd (hZ6.take (n - 1))).1
   have hPD : val p < (at' p (n - 1 : Nat) + 1) * pw (n - 1) := by
    have e1 := val_take_succ' p (n - 1)
    rw[show n - 1 + 1 = n by omega, val_take_all (by omega)] at e1
    have h2 := (val_bd (hP.take (n - 1))).2
    have h3 := pw_le (show (p.take (n - 1)).length ≤ n - 1 by simp; omega)
    rw[Int.add_mul,Int.one_mul]; omega
   obtain ⟨hq0, hq1, hq2⟩ := quot_le (pw_pos (n - 1)) (show 0 < at' p (n - 1 : Nat) + 1 by omega) hq hT0.1 hPD hP0 hsplit hlow (by omega)
   have hqT : q ≤ T := by rw[hq]; exact Int.ediv_le_self _ hT0.1
   rw[ep'] at r2
   simp(disch:=omega)only[Zu,Zv,Zx,Zz,EZ,↓EP,↓reduceIte,Za,Zb,Zc,Zd,Ze,Zf,Zg,Zj,Zk,Zl,Zm,Zn,Zp,Zq,reduceCtorEq,r2,r7,r13,r14,en1,cz1,cz0,cpt,eo,← hq]
   intro m1
   rw[← ep']
   refine take_spec (hB6.drewN _) hz6 lp hZ6 hP (by omega) (vp6.fr (Fr.drewN w6 _ _)) ⟨hq0, hq1⟩ hq2 _ fun z2 w7 hB7 hz7 hZ7 hv7 f7 => ?_
   have f67 := (f6.nb (Fr.drewN w6 _ nob)).own f7 fun x e => by omega
   have hT7 := (hT6.nb (Fr.drewN w6 _ nob)).fr f7 (by omega)
   have hm7 : val z2 % val p = (at' o0 i + 4294967296 * val z) % val p := by
    rw[hv7,hval6]
    have : at' o0 i + 4294967296 * val z - q * val p = (at' o0 i + 4294967296 * val z) + (-q) * val p := by grind
    rw[this,Int.add_mul_emod_self_right]
   simp(disch:=omega)only[Zu,Zv,Zx,Zz,EZ,↓EP,↓reduceIte,Za,Zb,Zc,Zd,Ze,Zf,Zg,Zj,Zk,Zl,Zm,Zn,Zp,Zq,reduceCtorEq,r7,r13,r14]
   intro m2
   refine loop_inv (fun t ρ w' => ∃ z3 : List Int, t = (val z3).toNat ∧ Blk w' w2.heap.size (nums .u64 z3) ∧ z3.length = n + 1 ∧ Lim z3 ∧ val z3 % val p = (at' o0 i + 4294967296 * val z) % val p ∧ Blk w' w.heap.size (nums .u64 o0) ∧ Fr w w' nob) _
    ⟨z2, rfl, hB7.nb (Fr.drewN w7 _ nob), hz7, hZ7, hm7, hT7.nb (Fr.drewN w7 _ nob), f67.nb (Fr.drewN w7 _ nob)⟩ ?_
   rintro t ρ5 w8 hf ⟨z3, rfl, hB8, hz8, hZ8, hm8, hT8, f8⟩ N3 hN3
   have s2 : ρ5 2 = vp := by rw[hf 2 rfl]; simp(disch:=omega)only[EZ,↓EP,↓reduceIte,Za,Zb,Zc,Zd,Ze,Zf,Zg,Zj,Zk,Zl,Zm,Zn,Zp,Zq,reduceCtorEq,r2,ep']
   have s13 : ρ5 13 = .slice (some ⟨w2.heap.size, 0, none⟩) (n + 1) (n + 1) := by rw[hf 13 rfl]; simp(disch:=omega)only[EZ,↓EP,↓reduceIte,Za,Zb,Zc,Zd,Ze,Zf,Zg,Zj,Zk,Zl,Zm,Zn,Zp,Zq,reduceCtorEq,r13]
   have s14 : ρ5 14 = .int .i64 i := by rw[hf 14 rfl]; simp(disch:=omega)only[EZ,↓EP,↓reduceIte,Za,Zb,Zc,Zd,Ze,Zf,Zg,Zj,Zk,Zl,Zm,Zn,Zp,Zq,reduceCtorEq,r14]
   clear hf
   have vp8 := vp0.fr (f8.any _)
   have hr8 : Vw .u64 w8 (.slice (some ⟨w2.heap.size, 0, none⟩) (n + 1) (n + 1)) z3 := Vw.of hz8 (Nat.le_refl _) (blk_rd hB8)
   simp(disch:=omega)only[EZ,↓EP,↓reduceIte,Za,Zb,Zc,Zd,Ze,Zf,Zg,Zj,Zk,Zl,Zm,Zn,Zp,Zq,reduceCtorEq,s2,s13]
   refine reach_spec hr8 vp8.vw hz8 lp hZ8 hP (by omega) _ fun w9 f9 => ?_
   by_cases hge : val p ≤ val z3
   ·have hd : decide (val p ≤ val z3) = true := decide_eq_true hge
    simp(disch:=omega)only[EZ,↓EP,↓reduceIte,Za,Zb,Zc,Zd,Ze,Zf,Zg,Zj,Zk,Zl,Zm,Zn,Zp,Zq,reduceCtorEq,hd,s2,s13]
    refine take_spec (hB8.nb f9) hz8 lp hZ8 hP (by omega) (vp8.fr (f9.any _)) ⟨by omega, by omega⟩ (by omega) _ fun z4 w10 hB10 hz10 hZ10 hv10 f10 => ?_
    have hb10 := (val_bd hZ10).1
    simp(disch:=omega)only[EZ,↓EP,↓reduceIte,Za,Zb,Zc,Zd,Ze,Zf,Zg,Zj,Zk,Zl,Zm,Zn,Zp,Zq,reduceCtorEq]
    refine hN3 (val z4).toNat _ _ (by omega) ⟨z4, rfl, hB10, hz10, hZ10, ?_, (hT8.nb f9).fr f10 (by omega), (f8.nb f9).own f10 fun x e => by omega⟩
    rw[← hm8, show val z3 = val z4 + 1 * val p by omega, Int.add_mul_emod_self_right]
   ·have hd : decide (val p ≤ val z3) = false := decide_eq_false hge
    have hb8 := (val_bd hZ8).1
    simp(disch:=omega)only[EZ,↓EP,↓reduceIte,Za,Zb,Zc,Zd,Ze,Zf,Zg,Zj,Zk,Zl,Zm,Zn,Zp,Zq,reduceCtorEq,hd,s14]
    refine hN i _ _ (by omega) ⟨z3, by simp(disch:=omega)only[EZ,↓EP,↓reduceIte,Za,Zb,Zc,Zd,Ze,Zf,Zg,Zj,Zk,Zl,Zm,Zn,Zp,Zq,reduceCtorEq,s14], by omega, hB8.nb f9, hz8, hZ8, ?_, hT8.nb f9, f8.nb f9⟩
    rw[Int.emod_eq_of_lt hb8 (by omega)] at hm8
    rw[hm8,mod_step hvz,val_drop_at o0 (k := i) (by omega)]
theorem limb_bitsG {l : List Int} (hL : Lim l) (i r s : Nat) (hr : r + s ≤ 32) : at' l (i : Nat) / 2 ^ r % 2 ^ s = val l / 2 ^ (32 * i + r) % 2 ^ s := by
 have e1 : val l = val (l.take i) + pw i * val (l.drop i) := by
  by_cases h : i ≤ l.length
  ·exact val_split l h
  ·rw[List.take_of_length_le (by omega),List.drop_of_length_le (by omega),val_nil]; omega
 have b1 := val_bd (hL.take i)
 have e2 : val (l.drop i) = at' l (i : Nat) + 4294967296 * val (l.drop (i + 1)) := by
  by_cases h : i < l.length
  ·rw[List.drop_eq_getElem_cons h,val_cons,at_get h]
  ·rw[at_ge (by omega),List.drop_of_length_le (by omega),List.drop_of_length_le (by omega)]; rfl
 have bt : val (l.take i) < pw i := by
  have := pw_le (show (l.take i).length ≤ i by simp; omega)
  omega
 have hpw := pw_pos i
 have hd : val l / pw i = val (l.drop i) := by
  rw[e1,Int.add_mul_ediv_left _ _ (by omega),Int.ediv_eq_zero_of_lt b1.1 bt,Int.zero_add]
 have hp : (0 : Int) < 2 ^ r := p2_pos r
 have e3 : (2 : Int) ^ (32 * i + r) = pw i * 2 ^ r := by rw[pw_p2,Int.pow_add]
 rw[e3,← Int.ediv_ediv_of_nonneg (by omega),hd,e2]
 have e4 : (4294967296 : Int) = 2 ^ r * (2 ^ s * 2 ^ (32 - r - s)) := by
  rw[← Int.pow_add, ← Int.pow_add, show r + (s + (32 - r - s)) = 32 by omega]; rfl
 rw[e4,Int.mul_assoc,Int.add_mul_ediv_left _ _ (by omega),Int.mul_assoc,Int.add_mul_emod_self_left]
theorem and1_32 {x : Int} (h0 : 0 ≤ x) (h1 : x < 4294967296) : bits .and .u32 x 1 = x % 2 := by
 rw[u32_and _ _ (by omega) (by omega) (by omega) (by omega)]
 have := Nat.and_two_pow_sub_one_eq_mod x.toNat 1
 rw[show (1 : Int).toNat = 2 ^ 1 - 1 by rfl, this]
 omega
theorem top_big {o : List Int} {n : Nat} {X : Int} (hn : 1 ≤ n) (ho : o.length = n) (hO : Lim o) (hv : val o = X) (hX : 2147483648 * pw (n - 1) ≤ X) : 2147483648 ≤ at' o (n - 1 : Nat) := by
 have e := val_take_succ' o (n - 1)
 rw[show n - 1 + 1 = n by omega, val_take_all (by omega), hv] at e
 have h2 := (val_bd (hO.take (n - 1))).2
 have h3 := pw_le (show (o.take (n - 1)).length ≤ n - 1 by simp; omega)
 have hp := pw_pos (n - 1)
 have : 2147483648 * pw (n - 1) < (at' o (n - 1 : Nat) + 1) * pw (n - 1) := by rw[Int.add_mul,Int.one_mul]; omega
 have := lt_of_mul this (by omega)
 omega
theorem top_small {o : List Int} {n : Nat} {X : Int} (hn : 1 ≤ n) (ho : o.length = n) (hO : Lim o) (hv : val o = X) (ht : at' o (n - 1 : Nat) < 2147483648) : 2 * X < pw n := by
 have e := val_take_succ' o (n - 1)
 rw[show n - 1 + 1 = n by omega, val_take_all (by omega), hv] at e
 have h2 := (val_bd (hO.take (n - 1))).2
 have h3 := pw_le (show (o.take (n - 1)).length ≤ n - 1 by simp; omega)
 have hp := pw_pos (n - 1)
 have h4 := mul_r (show at' o (n - 1 : Nat) + 1 ≤ 2147483648 by omega) (show 0 ≤ pw (n - 1) by omega)
 rw[Int.add_mul,Int.one_mul] at h4
 have e5 : pw n = pw (n - 1) * 4294967296 := by rw[← pw_succ, show n - 1 + 1 = n by omega]
 omega
theorem nat_bit {E : Nat} (k : Nat) : E / 2 ^ k = 2 * (E / 2 ^ (k + 1)) + E / 2 ^ k % 2 := by
 rw[Nat.pow_succ,← Nat.div_div_eq_div_mul]; omega
theorem mod_mod_mul (x M c : Int) : x % (M * c) % M = x % M := by
 have := Int.mul_ediv_add_emod x (M * c)
 have e : x = x % (M * c) + M * (c * (x / (M * c))) := by rw[← Int.mul_assoc]; omega
 conv => rhs; rw[e]
 rw[Int.add_mul_emod_self_left]
theorem top_pos {o : List Int} {n : Nat} (hn : 1 ≤ n) (ho : o.length = n) (hO : Lim o) (ht : 2147483648 ≤ at' o (n - 1 : Nat)) : 2147483648 * pw (n - 1) ≤ val o ∧ 2 ≤ val o := by
 have e := val_take_succ' o (n - 1)
 rw[show n - 1 + 1 = n by omega, val_take_all (by omega)] at e
 have h2 := (val_bd (hO.take (n - 1))).1
 have hp := pw_pos (n - 1)
 have h3 := mul_r ht (show 0 ≤ pw (n - 1) by omega)
 omega
structure Wo (w0 w : World) (v : Value) (n : Nat) (x : Int) : Prop where
 ex : ∃ o, Vw .u64 w v o ∧ o.length = n ∧ Lim o ∧ val o = x
theorem Wo.nb {w0 w w' : World} {v : Value} {n : Nat} {x : Int} (h : Wo w0 w v n x) (f : Fr w w' nob) : Wo w0 w' v n x := by
 obtain ⟨o, h1, h2, h3, h4⟩ := h.ex
 exact ⟨o, h1.nb f, h2, h3, h4⟩
theorem wprod {w0 w : World} {va vb vp : Value} {p : List Int} {n : Nat} {x y : Int} (ha : Wo w0 w va n x) (hb : Wo w0 w vb n y) (hp : Vw .u64 w vp p) (lp : p.length = n) (hP : Lim p) (hn1 : 1 ≤ n) (hn : n ≤ 1000000) (htop : 2147483648 ≤ at' p (n - 1 : Nat)) (K : Value → World → Prop)
  (hK : ∀ v w', Fr w w' nob → Wo w0 w' v n (x * y % val p) → K v w') : callK Tryz.prog 91 [va, vb, vp] w K := by
 obtain ⟨o, h1, h2, h3, h4⟩ := ha.ex
 obtain ⟨o', k1, k2, k3, k4⟩ := hb.ex
 refine rproduct_vw h1 k1 hp h2 k2 lp h3 k3 hP hn1 hn htop K fun o2 v w' g g2 g3 g4 => hK v w' g.fr ⟨o2, g.vw, g2, g3, ?_⟩
 rw[g4,h4,k4]
set_option maxHeartbeats 4000000 in
theorem rexpmod_vw {w : World} {vb ve vm : Value} {b e m : List Int} (hb : Vw .u32 w vb b) (he : Vw .u32 w ve e) (hm : Vw .u32 w vm m) (hB : Lim b) (hE : Lim e) (hM : Lim m) (K : Value → World → Prop)
  (hK : ∀ v w', Gw .u32 w w' v (powR b e m).1 → K (.tuple #[v, .int .i64 (powR b e m).2]) w') : callK Tryz.prog 53 [vb, ve, vm] w K := by
 obtain ⟨A1, c1, e1, hc1, hr1⟩ := id hb
 obtain ⟨A2, c2, e2, hc2, hr2⟩ := id he
 have b1 := (val_bd hB).1
 have b2 := (val_bd hE).1
 have b3 := (val_bd hM).1
 refine call_of Tryz.func53 Code.h53 (by simp[Code.c53]) ?_
 by_cases h512 : (512 : Int) < (b.length : Int)
 ·have e' : powR b e m = ([], 3) := by unfold powR; rw[if_pos (by omega)]
  rw[e'] at hK
  simp(disch:=omega)only[EZ,↓EP,↓reduceIte,Za,Zb,Zc,Zd,Ze,Zf,Zg,Zj,Zk,Zl,Zm,Zn,Zp,Zq,reduceCtorEq,Code.c53,e1]
  exact hK _ w (Gw.nil _ _)
 simp(disch:=omega)only[EZ,↓EP,↓reduceIte,Za,Zb,Zc,Zd,Ze,Zf,Zg,Zj,Zk,Zl,Zm,Zn,Zp,Zq,reduceCtorEq,Code.c53,e1]
 try rw[← e1]
 refine rlong_vw he hm 256 (by omega) _ fun bb hb' => ?_
 by_cases h256 : 256 < e.length ∨ 256 < m.length
 ·have e' : powR b e m = ([], 3) := by unfold powR; rw[if_pos (by omega)]
  rw[e'] at hK
  have hbt : bb = true := hb'.2 (by omega)
  simp(disch:=omega)only[EZ,↓EP,↓reduceIte,Za,Zb,Zc,Zd,Ze,Zf,Zg,Zj,Zk,Zl,Zm,Zn,Zp,Zq,reduceCtorEq,hbt]
  exact hK _ w (Gw.nil _ _)
 have hbf : bb = false := by
  cases bb with
  | false => rfl
  | true => exfalso; have := hb'.1 rfl; omega
 simp(disch:=omega)only[EZ,↓EP,↓reduceIte,Za,Zb,Zc,Zd,Ze,Zf,Zg,Zj,Zk,Zl,Zm,Zn,Zp,Zq,reduceCtorEq,hbf]
 refine digits_vw hm hM (by omega) _ fun vd w1 g1 => ?_
 have km := digs_vl hM (n := 256) (by omega)
 have qs := Gw.slice g1
 obtain ⟨A3, c3, e3⟩ := qs
 by_cases h0 : val m = 0
 ·have e' : powR b e m = ([], 11) := by unfold powR; rw[if_neg (by omega),if_pos h0]
  rw[e'] at hK
  have hz := (digs_zero_iff b3).2 h0
  simp(disch:=omega)only[EZ,↓EP,↓reduceIte,Za,Zb,Zc,Zd,Ze,Zf,Zg,Zj,Zk,Zl,Zm,Zn,Zp,Zq,reduceCtorEq,e3,hz,Int.natCast_zero]
  exact hK _ w1 ((Gw.nil _ _).from g1.fr)
 have e' : powR b e m = (limbs (val b ^ (val e).toNat % val m), 0) := by unfold powR; rw[if_neg (by omega),if_neg h0]
 rw[e'] at hK
 clear e'
 have hM0 : 0 < val m := by omega
 have hne : ((((Dg.digs (val m)).length : Nat) : Int) = 0) = False := eq_false fun h => h0 ((digs_zero_iff b3).1 (by omega))
 simp(disch:=omega)only[EZ,↓EP,↓reduceIte,Za,Zb,Zc,Zd,Ze,Zf,Zg,Zj,Zk,Zl,Zm,Zn,Zp,Zq,reduceCtorEq,e3,hne]
 try rw[← e3]
 refine limbs_vw g1.vw (Dg.digs_lim _) (by omega) _ fun v2 w2 g2 => ?_
 rw[Dg.digs_val b3] at g2
 simp(disch:=omega)only[EZ,↓EP,↓reduceIte,Za,Zb,Zc,Zd,Ze,Zf,Zg,Zj,Zk,Zl,Zm,Zn,Zp,Zq,reduceCtorEq]
 refine bsl1 fun w3 n3 => ?_
 have hd3 : Dv w3 vd (val m) := ⟨b3, (g1.vw.nb g2.fr).nb (n3.fr nob)⟩
 have f3 := (g1.fr.nb g2.fr).nb (n3.fr nob)
 have hm3 := (g2.nv b3).nb (n3.fr nob)
 have ht3 := Dv.one n3
 have qL : ∃ L, L = (limbs (val m)).length := ⟨_, rfl⟩
 obtain ⟨L, hL⟩ := qL
 have hL1 : 1 ≤ L := by
  rcases Nat.eq_zero_or_pos L with h | h
  ·exact absurd (limbs_nil b3 (List.length_eq_zero_iff.1 (by omega))) h0
  ·exact h
 have hL2 : L ≤ 256 := by rw[hL]; have := len_val hM; omega
 have hMlo : pw (L - 1) ≤ val m := by
  have := (limbs_can (val m)).pos (fun h => by rw[h] at hL; simp at hL; omega)
  rwa [limbs_val b3, ← hL] at this
 have hMhi : val m < pw L := (limbs_len b3).1 (by omega)
 have hpL : pw L ≤ 2 ^ 8192 := by rw[pw_p2]; exact p2_mono (by omega)
 have qM : ∃ M, M = val m := ⟨_, rfl⟩
 obtain ⟨M, hMv⟩ := qM
 rw[← hMv] at hd3 hm3 hM0 hMlo hMhi hK km
 clear g1 g2 n3 hm hc1 hr1
 simp(disch:=omega)only[EZ,↓EP,↓reduceIte,Za,Zb,Zc,Zd,Ze,Zf,Zg,Zj,Zk,Zl,Zm,Zn,Zp,Zq,reduceCtorEq]
 refine loop_inv (fun t ρ w' => ∃ (s : Nat) (vm vt : Value), ρ 2 = vm ∧ ρ 9 = vt ∧ t = 8192 - s ∧ Nv w' vm (M * 2 ^ s) ∧ Dv w' vt (2 ^ s) ∧ M * 2 ^ s < pw L ∧ Fr w w' nob ∧ Fr w3 w' nob) _
  ⟨0, v2, .slice (some ⟨w2.heap.size, 0, none⟩) 1 1, by simp(disch:=omega)only[EZ,↓EP,↓reduceIte,Za,Zb,Zc,Zd,Ze,Zf,Zg,Zj,Zk,Zl,Zm,Zn,Zp,Zq,reduceCtorEq], by simp(disch:=omega)only[EZ,↓EP,↓reduceIte,Za,Zb,Zc,Zd,Ze,Zf,Zg,Zj,Zk,Zl,Zm,Zn,Zp,Zq,reduceCtorEq], rfl, by simpa using hm3, by simpa using ht3, by simpa using hMhi, f3, Fr.refl _ _⟩ ?_
 rintro t ρ w4 hf ⟨s, vm4, vt4, h2, h9, rfl, hm4, ht4, hlt4, f4, f34⟩ N hN
 have q0 : ρ 0 = vb := by rw[hf 0 rfl]; simp(disch:=omega)only[EZ,↓EP,↓reduceIte,Za,Zb,Zc,Zd,Ze,Zf,Zg,Zj,Zk,Zl,Zm,Zn,Zp,Zq,reduceCtorEq]
 have q1 : ρ 1 = ve := by rw[hf 1 rfl]; simp(disch:=omega)only[EZ,↓EP,↓reduceIte,Za,Zb,Zc,Zd,Ze,Zf,Zg,Zj,Zk,Zl,Zm,Zn,Zp,Zq,reduceCtorEq]
 have q8 : ρ 8 = vd := by rw[hf 8 rfl]; simp(disch:=omega)only[EZ,↓EP,↓reduceIte,Za,Zb,Zc,Zd,Ze,Zf,Zg,Zj,Zk,Zl,Zm,Zn,Zp,Zq,reduceCtorEq]
 clear hf
 have hp2 : (0 : Int) < 2 ^ s := p2_pos s
 have hX0 := hm4.1
 have hXM : M ≤ M * 2 ^ s := by
  have := Int.mul_le_mul_of_nonneg_left (show (1 : Int) ≤ 2 ^ s by omega) (show 0 ≤ M by omega)
  omega
 have hs : s < 8192 := by
  refine p2_lt (Int.lt_of_le_of_lt ?_ (Int.lt_of_lt_of_le hlt4 hpL))
  have := mul_r (show 1 ≤ M by omega) (show (0 : Int) ≤ 2 ^ s by omega)
  omega
 have hXL : (limbs (M * 2 ^ s)).length = L := by
  have h1 := (limbs_len hX0).2 hlt4
  have h2 := len_mono (show 0 ≤ M by omega) hXM
  rw[← hMv] at hL
  omega
 have XL := limbs_lim (M * 2 ^ s)
 have hXv := limbs_val hX0
 have qv := hm4.2
 obtain ⟨A5, c5, e5, hc5, hr5⟩ := qv
 rw[hXL] at e5 hc5
 have qc := hr5.get (by rw[nums_length]; omega)
 obtain ⟨p5, eA5, _, hp5⟩ := qc
 rw[eA5] at e5
 have ct := hp5.numN (j := L - 1) (by omega)
 have bt := XL.at (L - 1 : Nat)
 have eL1 : (L : Int) - 1 = ((L - 1 : Nat) : Int) := by omega
 have kX := digs_len_of hX0 (n := 256) (by have := pw_le hL2; omega)
 by_cases htop : at' (limbs (M * 2 ^ s)) (L - 1 : Nat) < 2147483648
 ·have h2X := top_small hL1 hXL XL hXv htop
  simp(disch:=omega)only[Zu,Zv,Zx,Zz,EZ,↓EP,↓reduceIte,Za,Zb,Zc,Zd,Ze,Zf,Zg,Zj,Zk,Zl,Zm,Zn,Zp,Zq,reduceCtorEq,h2,h9,e5,eL1,ct]
  try rw[← e5]
  refine digits_vw hm4.2 XL (by omega) _ fun v5 w5 g5 => ?_
  rw[hXv] at g5
  simp(disch:=omega)only[EZ,↓EP,↓reduceIte,Za,Zb,Zc,Zd,Ze,Zf,Zg,Zj,Zk,Zl,Zm,Zn,Zp,Zq,reduceCtorEq,h2,h9,e5]
  try rw[← e5]
  refine digits_vw (hm4.2.nb g5.fr) XL (by omega) _ fun v6 w6 g6 => ?_
  rw[hXv] at g6
  simp(disch:=omega)only[EZ,↓EP,↓reduceIte,Za,Zb,Zc,Zd,Ze,Zf,Zg,Zj,Zk,Zl,Zm,Zn,Zp,Zq,reduceCtorEq,h2,h9]
  refine dadd_vw (g5.vw.nb g6.fr) g6.vw (Dg.digs_lim _) (Dg.digs_lim _) (by omega) (by omega) _ fun v7 w7 g7 => ?_
  rw[Dg.digs_val hX0] at g7
  have k7 := digs_len_of (show 0 ≤ M * 2 ^ s + M * 2 ^ s by omega) (n := 256) (by have := pw_le hL2; omega)
  simp(disch:=omega)only[EZ,↓EP,↓reduceIte,Za,Zb,Zc,Zd,Ze,Zf,Zg,Zj,Zk,Zl,Zm,Zn,Zp,Zq,reduceCtorEq,h2,h9]
  refine limbs_vw g7.vw (Dg.digs_lim _) (by omega) _ fun v8 w8 g8 => ?_
  rw[Dg.digs_val (by omega)] at g8
  have f8 := ((g5.fr.nb g6.fr).nb g7.fr).nb g8.fr
  have kt := (Dg.digs_len ht4.1 (k := 1024)).2 (by rw[dpw_p2]; have := p2_mono (show s + 1 ≤ 16 * 1024 by omega); rw[Int.pow_succ] at this; omega)
  simp(disch:=omega)only[EZ,↓EP,↓reduceIte,Za,Zb,Zc,Zd,Ze,Zf,Zg,Zj,Zk,Zl,Zm,Zn,Zp,Zq,reduceCtorEq,h2,h9]
  refine dadd_vw (ht4.2.nb f8) (ht4.2.nb f8) (Dg.digs_lim _) (Dg.digs_lim _) (by omega) (by omega) _ fun v9 w9 g9 => ?_
  rw[Dg.digs_val ht4.1] at g9
  have ex : M * 2 ^ s + M * 2 ^ s = M * 2 ^ (s + 1) := by rw[Int.pow_succ]; grind
  have et : (2 : Int) ^ s + 2 ^ s = 2 ^ (s + 1) := by rw[Int.pow_succ]; omega
  rw[ex] at g8
  rw[et] at g9
  have hx1 : 0 ≤ M * 2 ^ (s + 1) := by rw[← ex]; omega
  simp(disch:=omega)only[EZ,↓EP,↓reduceIte,Za,Zb,Zc,Zd,Ze,Zf,Zg,Zj,Zk,Zl,Zm,Zn,Zp,Zq,reduceCtorEq]
  exact hN (8192 - (s + 1)) _ _ (by omega) ⟨s + 1, v8, v9, by simp(disch:=omega)only[EZ,↓EP,↓reduceIte,Za,Zb,Zc,Zd,Ze,Zf,Zg,Zj,Zk,Zl,Zm,Zn,Zp,Zq,reduceCtorEq], by simp(disch:=omega)only[EZ,↓EP,↓reduceIte,Za,Zb,Zc,Zd,Ze,Zf,Zg,Zj,Zk,Zl,Zm,Zn,Zp,Zq,reduceCtorEq], rfl, (g8.nv hx1).nb g9.fr, ⟨by have := p2_pos (s + 1); omega, g9.vw⟩, by rw[← ex]; omega, (f4.nb f8).nb g9.fr, (f34.nb f8).nb g9.fr⟩
 have tb : 2147483648 ≤ at' (limbs (M * 2 ^ s)) (L - 1 : Nat) := by omega
 simp(disch:=omega)only[Zu,Zv,Zx,Zz,EZ,↓EP,↓reduceIte,Za,Zb,Zc,Zd,Ze,Zf,Zg,Zj,Zk,Zl,Zm,Zn,Zp,Zq,reduceCtorEq,h2,h9,e5,eL1,ct]
 try rw[← e5]
 refine wide_vw L (by omega) hm4.2 XL (by omega) _ fun o5 v5 w5 g5 l5 O5 V5 => ?_
 rw[List.take_of_length_le (by omega),hXv] at V5
 simp(disch:=omega)only[EZ,↓EP,↓reduceIte,Za,Zb,Zc,Zd,Ze,Zf,Zg,Zj,Zk,Zl,Zm,Zn,Zp,Zq,reduceCtorEq,h2,h9,q0,q1,q8]
 refine digits_vw ((hb.nb f4).nb g5.fr) hB (by omega) _ fun v6 w6 g6 => ?_
 have k6 := digs_vl hB (n := 512) (by omega)
 have d6 := g6.vw
 simp(disch:=omega)only[EZ,↓EP,↓reduceIte,Za,Zb,Zc,Zd,Ze,Zf,Zg,Zj,Zk,Zl,Zm,Zn,Zp,Zq,reduceCtorEq,h2,h9,q0,q1,q8]
 have hd6 : Dv w6 vd M := ⟨hd3.1, ((hd3.2.nb f34).nb g5.fr).nb g6.fr⟩
 have ht6 : Dv w6 vt4 (2 ^ s) := ⟨ht4.1, (ht4.2.nb g5.fr).nb g6.fr⟩
 have kt := (Dg.digs_len ht4.1 (k := 1024)).2 (by rw[dpw_p2]; have := p2_mono (show s + 1 ≤ 16 * 1024 by omega); rw[Int.pow_succ] at this; omega)
 refine dmul_vw hd6.2 ht6.2 (Dg.digs_lim _) (Dg.digs_lim _) (by omega) (by omega) _ fun v7 w7 g7 => ?_
 rw[Dg.digs_val hd3.1,Dg.digs_val ht4.1] at g7
 simp(disch:=omega)only[EZ,↓EP,↓reduceIte,Za,Zb,Zc,Zd,Ze,Zf,Zg,Zj,Zk,Zl,Zm,Zn,Zp,Zq,reduceCtorEq]
 have qP : ∃ P, P = M * 2 ^ s := ⟨_, rfl⟩
 obtain ⟨P, hPv⟩ := qP
 rw[← hPv] at g7 V5 kX hX0 hXM hlt4
 have hP0 : 0 < P := by omega
 refine ddm ⟨b1, g6.vw.nb g7.fr⟩ ⟨hX0, g7.vw⟩ (by omega) (by omega) hP0 _ fun u8 v8 w8 f8 hu8 hv8 => ?_
 simp(disch:=omega)only[EZ,↓EP,↓reduceIte,Za,Zb,Zc,Zd,Ze,Zf,Zg,Zj,Zk,Zl,Zm,Zn,Zp,Zq,reduceCtorEq]
 have k8 := dlen_mono hv8.1 (show val b % P ≤ P by have := (mod_bd (a := val b) hP0).2; omega)
 refine limbs_vw hv8.2 (Dg.digs_lim _) (by omega) _ fun v9 w9 g9 => ?_
 rw[Dg.digs_val hv8.1] at g9
 have qv5 : Vw .u64 w5 v5 o5 := g5.vw
 have qv5' := qv5
 obtain ⟨A6, c6, e6, hc6, hr6⟩ := qv5'
 rw[l5] at e6
 simp(disch:=omega)only[EZ,↓EP,↓reduceIte,Za,Zb,Zc,Zd,Ze,Zf,Zg,Zj,Zk,Zl,Zm,Zn,Zp,Zq,reduceCtorEq,e6]
 refine wide_vw L (by omega) g9.vw (limbs_lim _) (by have := (limbs_len hv8.1).2 (Int.lt_trans (mod_bd (a := val b) hP0).2 hlt4); omega) _ fun o10 v10 w10 g10 l10 O10 V10 => ?_
 rw[List.take_of_length_le ((limbs_len hv8.1).2 (Int.lt_trans (mod_bd (a := val b) hP0).2 hlt4)),limbs_val hv8.1] at V10
 simp(disch:=omega)only[EZ,↓EP,↓reduceIte,Za,Zb,Zc,Zd,Ze,Zf,Zg,Zj,Zk,Zl,Zm,Zn,Zp,Zq,reduceCtorEq,e6]
 refine bsl1 fun w11 n11 => ?_
 simp(disch:=omega)only[EZ,↓EP,↓reduceIte,Za,Zb,Zc,Zd,Ze,Zf,Zg,Zj,Zk,Zl,Zm,Zn,Zp,Zq,reduceCtorEq,e6]
 have tp := top_pos hL1 hXL XL tb
 rw[hXv,← hPv] at tp
 have t5 := top_big hL1 l5 O5 V5 tp.1
 refine wide_vw L (by omega) (n11.vw rfl) (Lim.mk (by omega) (by omega) Lim.nil) (by simp) _ fun o12 v12 w12 g12 l12 O12 V12 => ?_
 have V12' : val o12 = 1 := by
  rw[V12,List.take_of_length_le (by simpa using hL1)]
  simp[val_cons,val_nil]
 simp(disch:=omega)only[EZ,↓EP,↓reduceIte,Za,Zb,Zc,Zd,Ze,Zf,Zg,Zj,Zk,Zl,Zm,Zn,Zp,Zq,reduceCtorEq,e6,q1,q8]
 have f12 := ((((f4.nb g5.fr).nb g6.fr).nb g7.fr).nb f8).nb ((g9.fr.nb g10.fr).nb ((n11.fr nob).nb g12.fr))
 have f612 := ((g6.fr.nb g7.fr).nb f8).nb ((g9.fr.nb g10.fr).nb ((n11.fr nob).nb g12.fr))
 refine rbits_vw (he.nb f12) hE (by omega) _ fun w13 f13 => ?_
 have qE : ∃ E, E = (val e).toNat := ⟨_, rfl⟩
 obtain ⟨E, hEv⟩ := qE
 have hbl : bl (val e) ≤ 32 * e.length := (bl_le b2).2 (by rw[← pw_p2]; exact (val_bd hE).2)
 have hE0 : E / 2 ^ bl (val e) = 0 := by
  apply Nat.div_eq_of_lt
  have h1 := (bl_le b2 (k := bl (val e))).1 (by omega)
  have h2 : ((2 ^ bl (val e) : Nat) : Int) = (2 : Int) ^ bl (val e) := by push_cast; rfl
  omega
 rw[← hEv] at hK
 have qt : ∃ t0, t0 = bl (val e) := ⟨_, rfl⟩
 obtain ⟨t0, ht0⟩ := qt
 rw[← ht0] at hE0 hbl
 have qB : ∃ B, B = val b % P := ⟨_, rfl⟩
 obtain ⟨B, hBv⟩ := qB
 rw[← hBv] at V10
 have hp13 : Vw .u64 w13 v5 o5 := (g5.vw.nb f612).nb f13
 have hb13 : Wo w w13 v10 L B := ⟨o10, (((g10.vw.nb (n11.fr nob)).nb g12.fr)).nb f13, l10, O10, V10⟩
 have ho13 : Wo w w13 v12 L (B ^ (E / 2 ^ t0) % P) := ⟨o12, g12.vw.nb f13, l12, O12, by rw[hE0,Int.pow_zero,V12',Int.emod_eq_of_lt (by omega) (by omega)]⟩
 have he13 : Vw .u32 w13 ve e := (he.nb f12).nb f13
 have hd13 : Dv w13 vd M := ⟨hd3.1, (hd6.2.nb ((g7.fr.nb f8).nb ((g9.fr.nb g10.fr).nb ((n11.fr nob).nb g12.fr)))).nb f13⟩
 have ff := f12.nb f13
 try rw[← e6]
 simp(disch:=omega)only[EZ,↓EP,↓reduceIte,Za,Zb,Zc,Zd,Ze,Zf,Zg,Zj,Zk,Zl,Zm,Zn,Zp,Zq,reduceCtorEq,← ht0,q1,q8]
 refine loop_inv (fun t ρ2 w' => ∃ vo, ρ2 15 = .int .i64 ((t : Int) - 1) ∧ t ≤ t0 ∧ ρ2 14 = vo ∧ Wo w w' vo L (B ^ (E / 2 ^ t) % P) ∧ Fr w13 w' nob) t0
  ⟨v12, by simp(disch:=omega)only[EZ,↓EP,↓reduceIte,Za,Zb,Zc,Zd,Ze,Zf,Zg,Zj,Zk,Zl,Zm,Zn,Zp,Zq,reduceCtorEq,← ht0], Nat.le_refl _, by simp(disch:=omega)only[EZ,↓EP,↓reduceIte,Za,Zb,Zc,Zd,Ze,Zf,Zg,Zj,Zk,Zl,Zm,Zn,Zp,Zq,reduceCtorEq], ho13, Fr.refl _ _⟩ ?_
 rintro t ρ2 w14 hf ⟨vo, h15, ht, h14, hvo, f14⟩ N2 hN2
 have r1 : ρ2 1 = ve := by rw[hf 1 rfl]; simp(disch:=omega)only[EZ,↓EP,↓reduceIte,Za,Zb,Zc,Zd,Ze,Zf,Zg,Zj,Zk,Zl,Zm,Zn,Zp,Zq,reduceCtorEq,q1]
 have r8 : ρ2 8 = vd := by rw[hf 8 rfl]; simp(disch:=omega)only[EZ,↓EP,↓reduceIte,Za,Zb,Zc,Zd,Ze,Zf,Zg,Zj,Zk,Zl,Zm,Zn,Zp,Zq,reduceCtorEq,q8]
 have r10 : ρ2 10 = v5 := by rw[hf 10 rfl]; simp(disch:=omega)only[EZ,↓EP,↓reduceIte,Za,Zb,Zc,Zd,Ze,Zf,Zg,Zj,Zk,Zl,Zm,Zn,Zp,Zq,reduceCtorEq,e6]
 have r13 : ρ2 13 = v10 := by rw[hf 13 rfl]; simp(disch:=omega)only[EZ,↓EP,↓reduceIte,Za,Zb,Zc,Zd,Ze,Zf,Zg,Zj,Zk,Zl,Zm,Zn,Zp,Zq,reduceCtorEq]
 clear hf
 cases t with
 | zero =>
  rw[Nat.pow_zero,Nat.div_one] at hvo
  have h15' : ρ2 15 = .int .i64 (-1) := by rw[h15]; rfl
  obtain ⟨z, hz1, hz2, hz3, hz4⟩ := hvo.ex
  simp(disch:=omega)only[EZ,↓EP,↓reduceIte,Za,Zb,Zc,Zd,Ze,Zf,Zg,Zj,Zk,Zl,Zm,Zn,Zp,Zq,reduceCtorEq,h15',h14,r1,r8,r10,r13]
  refine loop_inv (fun t ρ3 w' => ∃ (k : Nat) (v : Value), ρ3 17 = .int .i64 k ∧ k ≤ L ∧ t = L - k ∧ ρ3 16 = v ∧ Gw .u32 w14 w' v (z.take k)) L
   ⟨0, _, by simp(disch:=omega)only[EZ,↓EP,↓reduceIte,Za,Zb,Zc,Zd,Ze,Zf,Zg,Zj,Zk,Zl,Zm,Zn,Zp,Zq,reduceCtorEq], by omega, rfl, by simp(disch:=omega)only[EZ,↓EP,↓reduceIte,Za,Zb,Zc,Zd,Ze,Zf,Zg,Zj,Zk,Zl,Zm,Zn,Zp,Zq,reduceCtorEq], Gw.nil _ _⟩ ?_
  rintro t ρ3 w15 hf ⟨k, v, h17, hk, rfl, h16, g15⟩ N3 hN3
  have s14 : ρ3 14 = vo := by rw[hf 14 rfl]; simp(disch:=omega)only[EZ,↓EP,↓reduceIte,Za,Zb,Zc,Zd,Ze,Zf,Zg,Zj,Zk,Zl,Zm,Zn,Zp,Zq,reduceCtorEq,h14]
  have s8 : ρ3 8 = vd := by rw[hf 8 rfl]; simp(disch:=omega)only[EZ,↓EP,↓reduceIte,Za,Zb,Zc,Zd,Ze,Zf,Zg,Zj,Zk,Zl,Zm,Zn,Zp,Zq,reduceCtorEq,r8]
  clear hf
  have qz := hz1.nb g15.fr
  obtain ⟨A7, c7, e7, hc7, hr7⟩ := qz
  rw[hz2] at e7
  by_cases hkL : (k : Int) < (L : Int)
  ·have qg := hr7.get (by rw[nums_length]; omega)
   obtain ⟨p7, eA7, _, hp7⟩ := qg
   rw[eA7] at e7
   have cp := hp7.numN (j := k) (by omega)
   have bz := hz3.at k
   simp(disch:=omega)only[Zu,Zv,Zx,Zz,EZ,↓EP,↓reduceIte,Za,Zb,Zc,Zd,Ze,Zf,Zg,Zj,Zk,Zl,Zm,Zn,Zp,Zq,reduceCtorEq,h17,h16,s14,s8,e7,cp]
   refine bsl1 fun w16 n16 => ?_
   simp(disch:=omega)only[Zu,Zv,Zx,Zz,EZ,↓EP,↓reduceIte,Za,Zb,Zc,Zd,Ze,Zf,Zg,Zj,Zk,Zl,Zm,Zn,Zp,Zq,reduceCtorEq,h17,h16,s14,s8,e7]
   refine app_num (g15.sl.nb (n16.fr nob)) rfl n16.rdl (by simp; omega) (by omega) fun v17 w17 a17 => ?_
   have g17 := (g15.step (n16.fr nob)).apd a17
   have et : z.take k ++ [at' z k] = z.take (k + 1) := by
    rw[List.take_add_one,List.getElem?_eq_getElem (by omega),at_get (by omega)]; rfl
   rw[et] at g17
   simp(disch:=omega)only[Zu,Zv,Zx,Zz,EZ,↓EP,↓reduceIte,Za,Zb,Zc,Zd,Ze,Zf,Zg,Zj,Zk,Zl,Zm,Zn,Zp,Zq,reduceCtorEq,h17]
   exact hN3 (L - (k + 1)) _ _ (by omega) ⟨k + 1, v17, by simp(disch:=omega)only[EZ,↓EP,↓reduceIte,Za,Zb,Zc,Zd,Ze,Zf,Zg,Zj,Zk,Zl,Zm,Zn,Zp,Zq,reduceCtorEq,h17,Int.natCast_add], by omega, rfl, by simp(disch:=omega)only[EZ,↓EP,↓reduceIte,Za,Zb,Zc,Zd,Ze,Zf,Zg,Zj,Zk,Zl,Zm,Zn,Zp,Zq,reduceCtorEq], g17⟩
  ·have hk : k = L := by omega
   subst hk
   rw[List.take_of_length_le (by omega)] at g15
   simp(disch:=omega)only[EZ,↓EP,↓reduceIte,Za,Zb,Zc,Zd,Ze,Zf,Zg,Zj,Zk,Zl,Zm,Zn,Zp,Zq,reduceCtorEq,h17,h16,s14,s8,e7]
   refine digits_vw g15.vw hz3 (by omega) _ fun v16 w16 g16 => ?_
   rw[hz4] at g16
   simp(disch:=omega)only[EZ,↓EP,↓reduceIte,Za,Zb,Zc,Zd,Ze,Zf,Zg,Zj,Zk,Zl,Zm,Zn,Zp,Zq,reduceCtorEq,h17,h16,s14,s8,e7]
   have k16 := digs_len_of (mod_bd (a := B ^ E) hP0).1 (n := 256) (by have := pw_le hL2; have := (mod_bd (a := B ^ E) hP0).2; omega)
   refine ddm ⟨(mod_bd hP0).1, g16.vw⟩ ⟨hd13.1, ((hd13.2.nb f14).nb g15.fr).nb g16.fr⟩ (by omega) (by omega) hM0 _ fun u17 v17 w17 f17 _ hv17 => ?_
   simp(disch:=omega)only[EZ,↓EP,↓reduceIte,Za,Zb,Zc,Zd,Ze,Zf,Zg,Zj,Zk,Zl,Zm,Zn,Zp,Zq,reduceCtorEq]
   have er : B ^ E % P % M = val b ^ E % M := by
    rw[hBv,pm_base,hPv,mod_mod_mul]
   rw[er] at hv17
   have k17 := dlen_mono hv17.1 (show val b ^ E % M ≤ M by have := (mod_bd (a := val b ^ E) hM0).2; omega)
   refine limbs_vw hv17.2 (Dg.digs_lim _) (by omega) _ fun v18 w18 g18 => ?_
   rw[Dg.digs_val hv17.1] at g18
   simp(disch:=omega)only[EZ,↓EP,↓reduceIte,Za,Zb,Zc,Zd,Ze,Zf,Zg,Zj,Zk,Zl,Zm,Zn,Zp,Zq,reduceCtorEq]
   exact hK v18 w18 (g18.from ((((ff.nb f14).nb g15.fr).nb g16.fr).nb f17))
 | succ i =>
  have h15' : ρ2 15 = .int .i64 i := by rw[h15]; congr 1; omega
  simp(disch:=omega)only[EZ,↓EP,↓reduceIte,Za,Zb,Zc,Zd,Ze,Zf,Zg,Zj,Zk,Zl,Zm,Zn,Zp,Zq,reduceCtorEq,W_join,h15',h14,r1,r8,r10,r13]
  refine wprod hvo hvo (hp13.nb f14) l5 O5 hL1 (by omega) t5 _ fun v15 w15 f15 hv15 => ?_
  rw[V5,pm_mul] at hv15
  have qe := (he13.nb f14).nb f15
  obtain ⟨A7, c7, e7, hc7, hr7⟩ := qe
  have hi32 : i / 32 < e.length := by omega
  have qg := hr7.get (by rw[nums_length]; omega)
  obtain ⟨p7, eA7, _, hp7⟩ := qg
  rw[eA7] at e7
  have cp := hp7.numN (j := i / 32) hi32
  have bx := hE.at (i / 32 : Nat)
  have ei : (i : Int) / 32 = ((i / 32 : Nat) : Int) := by omega
  have er : min ((i : Int) % 32).toNat 32 = i % 32 := by omega
  have hp3 : (0 : Int) < 2 ^ (i % 32) := p2_pos _
  have hsh0 := Int.ediv_nonneg bx.1 (show (0 : Int) ≤ 2 ^ (i % 32) by omega)
  have hsh1 : at' e (i / 32 : Nat) / 2 ^ (i % 32) < 4294967296 := by
   have := Int.ediv_le_self (2 ^ (i % 32)) bx.1
   omega
  have hn := limb_bitsG hE (i / 32) (i % 32) 1 (by omega)
  rw[show 32 * (i / 32) + i % 32 = i by omega, show (2 : Int) ^ 1 = 2 by rfl] at hn
  have hand := and1_32 hsh0 hsh1
  rw[hn] at hand
  have hbitE : val e / 2 ^ i % 2 = ((E / 2 ^ i % 2 : Nat) : Int) := by
   have : val e = (E : Int) := by omega
   rw[this]; push_cast; rfl
  rw[hbitE] at hand
  have nb := nat_bit (E := E) i
  have hexp : E / 2 ^ (i + 1) + E / 2 ^ (i + 1) = 2 * (E / 2 ^ (i + 1)) := by omega
  rw[hexp] at hv15
  have qx : ∃ x : Nat, x = E / 2 ^ i % 2 := ⟨_, rfl⟩
  obtain ⟨x, hx⟩ := qx
  rw[← hx] at hand nb
  by_cases hx1 : x = 1
  ·rw[hx1] at nb
   rw[hx1,show ((1 : Nat) : Int) = 1 from rfl] at hand
   simp(disch:=omega)only[Zu,Zv,Zx,Zz,EZ,↓EP,↓reduceIte,Za,Zb,Zc,Zd,Ze,Zf,Zg,Zj,Zk,Zl,Zm,Zn,Zp,Zq,reduceCtorEq,W_join,h15',h14,r1,r8,r10,r13,e7,ei,er,cp,hand]
   refine wprod hv15 ((hb13.nb f14).nb f15) ((hp13.nb f14).nb f15) l5 O5 hL1 (by omega) t5 _ fun v16 w16 f16 hv16 => ?_
   have e2 : B ^ (2 * (E / 2 ^ (i + 1))) % P * B % val o5 = B ^ (E / 2 ^ i) % P := by
    have hBP : B % P = B := by rw[hBv,Int.emod_emod]
    have := pm_succ B P (2 * (E / 2 ^ (i + 1)))
    rw[hBP] at this
    rw[V5, this, show 2 * (E / 2 ^ (i + 1)) + 1 = E / 2 ^ i by omega]
   rw[e2] at hv16
   simp(disch:=omega)only[EZ,↓EP,↓reduceIte,Za,Zb,Zc,Zd,Ze,Zf,Zg,Zj,Zk,Zl,Zm,Zn,Zp,Zq,reduceCtorEq,h15']
   exact hN2 i _ _ (by omega) ⟨v16, by simp(disch:=omega)only[EZ,↓EP,↓reduceIte,Za,Zb,Zc,Zd,Ze,Zf,Zg,Zj,Zk,Zl,Zm,Zn,Zp,Zq,reduceCtorEq,h15'], by omega, by simp(disch:=omega)only[EZ,↓EP,↓reduceIte,Za,Zb,Zc,Zd,Ze,Zf,Zg,Zj,Zk,Zl,Zm,Zn,Zp,Zq,reduceCtorEq], hv16, (f14.nb f15).nb f16⟩
  ·have hx0 : x = 0 := by omega
   rw[hx0] at nb
   rw[hx0,show ((0 : Nat) : Int) = 0 from rfl] at hand
   rw[show 2 * (E / 2 ^ (i + 1)) = E / 2 ^ i by omega] at hv15
   simp(disch:=omega)only[Zu,Zv,Zx,Zz,EZ,↓EP,↓reduceIte,Za,Zb,Zc,Zd,Ze,Zf,Zg,Zj,Zk,Zl,Zm,Zn,Zp,Zq,reduceCtorEq,W_join,h15',h14,r1,r8,r10,r13,e7,ei,er,cp,hand]
   exact hN2 i _ _ (by omega) ⟨v15, by simp(disch:=omega)only[EZ,↓EP,↓reduceIte,Za,Zb,Zc,Zd,Ze,Zf,Zg,Zj,Zk,Zl,Zm,Zn,Zp,Zq,reduceCtorEq,h15'], by omega, by simp(disch:=omega)only[EZ,↓EP,↓reduceIte,Za,Zb,Zc,Zd,Ze,Zf,Zg,Zj,Zk,Zl,Zm,Zn,Zp,Zq,reduceCtorEq], hv15, f14.nb f15⟩
theorem pow_len {b e m : List Int} (hM : Lim m) : (powR b e m).1.length ≤ 512 := by
 unfold powR; split
 ·simp
 ·split
  ·simp
  ·rename_i h1 h2
   show (limbs (val b ^ (val e).toNat % val m)).length ≤ 512
   have b3 := (val_bd hM).1
   have hp : 0 < val m := by omega
   have := len_mono (mod_bd (a := val b ^ (val e).toNat) hp).1 (show val b ^ (val e).toNat % val m ≤ val m by have := (mod_bd (a := val b ^ (val e).toNat) hp).2; omega)
   have := len_val hM
   omega
end Go.Proofs.YtcgplgpdcfocpaaGreatDoor.Spec
namespace Go.Proofs.YtcgplgpdcfocpaaGreatDoor
open Go Go.ChangeShapes Go.WideShapes Go.ChangeAt Go.WideMaps Go.WideElems Go.RowKit Go.Proofs.YtcgplgpdcfocpaaGreatDoor.Eng Go.Proofs.YtcgplgpdcfocpaaGreatDoor.Spec
end Go.Proofs.YtcgplgpdcfocpaaGreatDoor
end
section
namespace Go.Proofs.YtcgplgpdcfocpaaGreatDoor.Spec
open Go Go.RowKit Go.Proofs Go.Proofs.YtcgplgpdcfocpaaGreatDoor.Eng Go.Proofs.YtcgplgpdcfocpaaGreatDoor.Code
def rl32 (x n : Int) : Int := bits .or .u32 (IntKind.u32.wrap (x * 2 ^ n.toNat)) (x.fdiv (2 ^ (32 - n).toNat))
def rl64 (x n : Int) : Int := bits .or .u64 (IntKind.u64.wrap (x * 2 ^ n.toNat)) (x.fdiv (2 ^ (64 - n).toNat))
theorem rotl32_spec (x k n : Int) (hn : bits .and .u64 (IntKind.u64.wrap k) 31 = n) (h0 : 0 ≤ n) (h1 : n < 32) (w : World) (K : Value → World → Prop) (hK : K (.int .u32 (rl32 x n)) w) : callK Tryz.prog 124 [.int .u32 x, .int .i64 k] w K := by
 refine call_of Tryz.func124 Code.h124 (by simp[Code.c124]) ?_
 simp only[Code.c124,↓EP,EQ,EM,↓reduceIte,Za,Zb,Zc,Zd,Ze,Zf,Zg,Zj,Zk,Zl,Zm,Zn,Zp,Zq,reduceCtorEq,hn]
 have e : IntKind.u64.wrap (32 - n) = 32 - n := Zu (by omega) (by omega)
 rw[e]
 refine ⟨h0, by omega, ?_⟩
 have e1 : min n.toNat 32 = n.toNat := by omega
 have e2 : min (32 - n).toNat 32 = (32 - n).toNat := by omega
 rw[e1,e2]
 exact hK
theorem rotl64_spec (x k n : Int) (hn : bits .and .u64 (IntKind.u64.wrap k) 63 = n) (h0 : 0 ≤ n) (h1 : n < 64) (w : World) (K : Value → World → Prop) (hK : K (.int .u64 (rl64 x n)) w) : callK Tryz.prog 127 [.int .u64 x, .int .i64 k] w K := by
 refine call_of Tryz.func127 Code.h127 (by simp[Code.c127]) ?_
 simp only[Code.c127,↓EP,EQ,EM,↓reduceIte,Za,Zb,Zc,Zd,Ze,Zf,Zg,Zj,Zk,Zl,Zm,Zn,Zp,Zq,reduceCtorEq,hn]
 have e : IntKind.u64.wrap (64 - n) = 64 - n := Zu (by omega) (by omega)
 rw[e]
 refine ⟨h0, by omega, ?_⟩
 have e1 : min n.toNat 64 = n.toNat := by omega
 have e2 : min (64 - n).toNat 64 = (64 - n).toNat := by omega
 rw[e1,e2]
 exact hK
theorem rotl32_q (x k n : Int) (hn : bits .and .u64 (IntKind.u64.wrap k) 31 = n) (h0 : 0 ≤ n) (h1 : n < 32) (w : World) (K : Value → Prop) (hK : K (.int .u32 (rl32 x n))) : qcallK Tryz.prog 124 [.int .u32 x, .int .i64 k] w K :=
 quiet_of _ (fun w' K' h => rotl32_spec x k n hn h0 h1 w' K' h) hK
def tn32 (x i k m : Int) (moved : Bool) : Int := bits .xor .u32 (bits .xor .u32 (rl32 x (32 - i)) (rl32 x (32 - k))) (if moved then x.fdiv (2 ^ m.toNat) else rl32 x (32 - m))
def tn64 (x i k m : Int) (moved : Bool) : Int := bits .xor .u64 (bits .xor .u64 (rl64 x (64 - i)) (rl64 x (64 - k))) (if moved then x.fdiv (2 ^ m.toNat) else rl64 x (64 - m))
theorem turn_by : ∀ i : Nat, i < 32 → 0 < i → bits .and .u64 (IntKind.u64.wrap (IntKind.i64.wrap (0 - (i : Int)))) 31 = 32 - i := by decide +kernel
theorem wturn_by : ∀ i : Nat, i < 64 → 0 < i → bits .and .u64 (IntKind.u64.wrap (IntKind.i64.wrap (0 - (i : Int)))) 63 = 64 - i := by decide +kernel
theorem turns_spec (x : Int) (i k m : Nat) (moved : Bool) (hi : 0 < i) (hi' : i < 32) (hk : 0 < k) (hk' : k < 32) (hm : 0 < m) (hm' : m < 32) (w : World) (K : Value → World → Prop) (hK : K (.int .u32 (tn32 x i k m moved)) w) :
  callK Tryz.prog 125 [.int .u32 x, .int .i64 i, .int .i64 k, .int .i64 m, .bool moved] w K := by
 refine call_of Tryz.func125 Code.h125 (by simp[Code.c125]) ?_
 simp only[Code.c125,↓EP,EQ,EM,↓reduceIte,Za,Zb,Zc,Zd,Ze,Zf,Zg,Zj,Zk,Zl,Zm,Zn,Zp,Zq,reduceCtorEq]
 refine rotl32_spec x _ (32 - m) (turn_by m hm' hm) (by omega) (by omega) _ _ ?_
 cases moved with
 | true =>
  simp only[↓EP,EQ,EM,↓reduceIte,Za,Zb,Zc,Zd,Ze,Zf,Zg,Zj,Zk,Zl,Zm,Zn,Zp,Zq,reduceCtorEq,W_join]
  refine ⟨by omega, rotl32_spec x _ (32 - i) (turn_by i hi' hi) (by omega) (by omega) _ _ ?_⟩
  simp only[↓EP,EQ,EM,↓reduceIte,Za,Zb,Zc,Zd,Ze,Zf,Zg,Zj,Zk,Zl,Zm,Zn,Zp,Zq,reduceCtorEq]
  refine rotl32_spec x _ (32 - k) (turn_by k hk' hk) (by omega) (by omega) _ _ ?_
  simp only[↓EP,EQ,EM,↓reduceIte,Za,Zb,Zc,Zd,Ze,Zf,Zg,Zj,Zk,Zl,Zm,Zn,Zp,Zq,reduceCtorEq]
  have e2 : min m 32 = ((m : Int)).toNat := by omega
  rw[e2]
  exact hK
 | false =>
  simp only[↓EP,EQ,EM,↓reduceIte,Za,Zb,Zc,Zd,Ze,Zf,Zg,Zj,Zk,Zl,Zm,Zn,Zp,Zq,reduceCtorEq,W_join]
  refine rotl32_spec x _ (32 - i) (turn_by i hi' hi) (by omega) (by omega) _ _ ?_
  simp only[↓EP,EQ,EM,↓reduceIte,Za,Zb,Zc,Zd,Ze,Zf,Zg,Zj,Zk,Zl,Zm,Zn,Zp,Zq,reduceCtorEq]
  refine rotl32_spec x _ (32 - k) (turn_by k hk' hk) (by omega) (by omega) _ _ ?_
  simp only[↓EP,EQ,EM,↓reduceIte,Za,Zb,Zc,Zd,Ze,Zf,Zg,Zj,Zk,Zl,Zm,Zn,Zp,Zq,reduceCtorEq]
  exact hK
theorem wturns_spec (x : Int) (i k m : Nat) (moved : Bool) (hi : 0 < i) (hi' : i < 64) (hk : 0 < k) (hk' : k < 64) (hm : 0 < m) (hm' : m < 64) (w : World) (K : Value → World → Prop) (hK : K (.int .u64 (tn64 x i k m moved)) w) :
  callK Tryz.prog 126 [.int .u64 x, .int .i64 i, .int .i64 k, .int .i64 m, .bool moved] w K := by
 refine call_of Tryz.func126 Code.h126 (by simp[Code.c126]) ?_
 simp only[Code.c126,↓EP,EQ,EM,↓reduceIte,Za,Zb,Zc,Zd,Ze,Zf,Zg,Zj,Zk,Zl,Zm,Zn,Zp,Zq,reduceCtorEq]
 refine rotl64_spec x _ (64 - m) (wturn_by m hm' hm) (by omega) (by omega) _ _ ?_
 cases moved with
 | true =>
  simp only[↓EP,EQ,EM,↓reduceIte,Za,Zb,Zc,Zd,Ze,Zf,Zg,Zj,Zk,Zl,Zm,Zn,Zp,Zq,reduceCtorEq,W_join]
  refine ⟨by omega, rotl64_spec x _ (64 - i) (wturn_by i hi' hi) (by omega) (by omega) _ _ ?_⟩
  simp only[↓EP,EQ,EM,↓reduceIte,Za,Zb,Zc,Zd,Ze,Zf,Zg,Zj,Zk,Zl,Zm,Zn,Zp,Zq,reduceCtorEq]
  refine rotl64_spec x _ (64 - k) (wturn_by k hk' hk) (by omega) (by omega) _ _ ?_
  simp only[↓EP,EQ,EM,↓reduceIte,Za,Zb,Zc,Zd,Ze,Zf,Zg,Zj,Zk,Zl,Zm,Zn,Zp,Zq,reduceCtorEq]
  have e2 : min m 64 = ((m : Int)).toNat := by omega
  rw[e2]
  exact hK
 | false =>
  simp only[↓EP,EQ,EM,↓reduceIte,Za,Zb,Zc,Zd,Ze,Zf,Zg,Zj,Zk,Zl,Zm,Zn,Zp,Zq,reduceCtorEq,W_join]
  refine rotl64_spec x _ (64 - i) (wturn_by i hi' hi) (by omega) (by omega) _ _ ?_
  simp only[↓EP,EQ,EM,↓reduceIte,Za,Zb,Zc,Zd,Ze,Zf,Zg,Zj,Zk,Zl,Zm,Zn,Zp,Zq,reduceCtorEq]
  refine rotl64_spec x _ (64 - k) (wturn_by k hk' hk) (by omega) (by omega) _ _ ?_
  simp only[↓EP,EQ,EM,↓reduceIte,Za,Zb,Zc,Zd,Ze,Zf,Zg,Zj,Zk,Zl,Zm,Zn,Zp,Zq,reduceCtorEq]
  exact hK
theorem turns_q (x : Int) (i k m : Nat) (moved : Bool) (hi : 0 < i) (hi' : i < 32) (hk : 0 < k) (hk' : k < 32) (hm : 0 < m) (hm' : m < 32) (w : World) (K : Value → Prop) (hK : K (.int .u32 (tn32 x i k m moved))) :
  qcallK Tryz.prog 125 [.int .u32 x, .int .i64 i, .int .i64 k, .int .i64 m, .bool moved] w K :=
 quiet_of _ (fun w' K' h => turns_spec x i k m moved hi hi' hk hk' hm hm' w' K' h) hK
theorem wturns_q (x : Int) (i k m : Nat) (moved : Bool) (hi : 0 < i) (hi' : i < 64) (hk : 0 < k) (hk' : k < 64) (hm : 0 < m) (hm' : m < 64) (w : World) (K : Value → Prop) (hK : K (.int .u64 (tn64 x i k m moved))) :
  qcallK Tryz.prog 126 [.int .u64 x, .int .i64 i, .int .i64 k, .int .i64 m, .bool moved] w K :=
 quiet_of _ (fun w' K' h => wturns_spec x i k m moved hi hi' hk hk' hm hm' w' K' h) hK
def wordAt (p : List Int) (i : Int) : Int := bits .or .u32 (bits .or .u32 (bits .or .u32 (IntKind.u32.wrap (IntKind.u32.wrap (at' p (4 * i)) * 16777216)) (IntKind.u32.wrap (IntKind.u32.wrap (at' p (4 * i + 1)) * 65536))) (IntKind.u32.wrap (IntKind.u32.wrap (at' p (4 * i + 2)) * 256))) (IntKind.u32.wrap (at' p (4 * i + 3)))
def zs (n : Nat) : List Int := List.replicate n 0
def words (p : List Int) : List Int := rounds (fun i l => l.set i (wordAt p i)) 16 (zs 16)
theorem rounds_len (f : Nat → List Int → List Int) (h : ∀ n l, (f n l).length = l.length) : ∀ (n : Nat) (l : List Int), (rounds f n l).length = l.length
 | 0, l => rfl
 | n + 1, l => by rw[rounds,h,rounds_len f h n l]
theorem words_len (p : List Int) : (words p).length = 16 := rounds_len _ (fun n l => by simp) 16 _
theorem words_spec (A : Option Addr) (cap : Nat) (p : List Int) (hp : p.length = 64) (w : World) (hr : Rd w A (nums .u8 p)) (K : Value → World → Prop)
  (hK : ∀ w', Below w.heap.size w w' → K (.agg (nums .u32 (words p)).toArray) w') : callK Tryz.prog 123 [.slice A 64 cap] w K := by
 obtain ⟨ad, rfl, had, hc⟩ := hr.get (by simp[nums_length,hp])
 refine call_of Tryz.func123 Code.h123 (by simp[Code.c123]) ?_
 simp only[Code.c123,↓EP,EQ,EM,↓reduceIte,Za,Zb,Zc,Zd,Ze,Zf,Zg,Zj,Zk,Zl,Zm,Zn,Zp,Zq,reduceCtorEq]
 refine al_k (nums .u32 (zs 16)) rfl fun w1 n1 => ?_
 simp only[↓EP,EQ,EM,↓reduceIte,Za,Zb,Zc,Zd,Ze,Zf,Zg,Zj,Zk,Zl,Zm,Zn,Zp,Zq,reduceCtorEq]
 refine loop_inv (fun m ρ w' => ∃ (k : Nat), ρ 4 = .int .i64 k ∧ k ≤ 16 ∧ m = 16 - k ∧ Blk w' w.heap.size (nums .u32 (rounds (fun i l => l.set i (wordAt p i)) k (zs 16))) ∧ Below w.heap.size w w') 16 ?_ ?_
 ·exact ⟨0, by simp only[↓EP,EQ,EM,↓reduceIte,Za,Zb,Zc,Zd,Ze,Zf,Zg,Zj,Zk,Zl,Zm,Zn,Zp,Zq,reduceCtorEq], by omega, by omega, n1.blk, n1.below (Nat.le_refl _) (Below.refl _ _)⟩
 ·rintro m ρ w' hf ⟨k, h4, hk, rfl, hB, hb⟩ N hN
  have hc' := hc.below had hb
  have h0 : ρ 0 = .slice (some ad) 64 cap := by rw[hf 0 rfl]; simp only[↓EP,EQ,EM,↓reduceIte,Za,Zb,Zc,Zd,Ze,Zf,Zg,Zj,Zk,Zl,Zm,Zn,Zp,Zq,reduceCtorEq]
  have h2 : ρ 2 = .pointer (some ⟨w.heap.size, 0, none⟩) := by rw[hf 2 rfl]; simp only[↓EP,EQ,EM,↓reduceIte,Za,Zb,Zc,Zd,Ze,Zf,Zg,Zj,Zk,Zl,Zm,Zn,Zp,Zq,reduceCtorEq]
  have hl : (rounds (fun i l => l.set i (wordAt p i)) k (zs 16)).length = 16 := rounds_len _ (fun n l => by simp) _ _
  by_cases hlt : (k : Int) < 16
  ·have hp' := fun (j : Nat) (g : j < 64) => hc'.numN (by omega : j < p.length)
   simp(disch:=omega)only[EZ,↓EP,↓reduceIte,Za,Zb,Zc,Zd,Ze,Zf,Zg,Zj,Zk,Zl,Zm,Zn,Zp,Zq,reduceCtorEq,h4,h0,h2,hp']
   intro m
   refine st_num (hB.drewN m) (by omega) fun w2 p2 => ?_
   simp(disch:=omega)only[EZ,↓EP,↓reduceIte,Za,Zb,Zc,Zd,Ze,Zf,Zg,Zj,Zk,Zl,Zm,Zn,Zp,Zq,reduceCtorEq,h4,h0,h2,hp']
   exact hN (16 - (k + 1)) _ _ (by omega) ⟨k + 1, by simp(disch:=omega)only[↓EP,EQ,EM,↓reduceIte,Za,Zb,Zc,Zd,Ze,Zf,Zg,Zj,Zk,Zl,Zm,Zn,Zp,Zq,reduceCtorEq,h4,EO,Int.natCast_add], by omega, rfl, p2.blk, p2.below (Nat.le_refl _) (below_drewN' hb m)⟩
  ·have hk16 : k = 16 := by omega
   subst hk16
   have hB : Blk w' w.heap.size (nums .u32 (words p)) := hB
   simp only[↓EP,EQ,EM,↓reduceIte,Za,Zb,Zc,Zd,Ze,Zf,Zg,Zj,Zk,Zl,Zm,Zn,Zp,Zq,reduceCtorEq,h4,h0,h2]
   have hwl : (nums .u32 (words p)).length = 16 := by rw[nums_length]; exact words_len p
   refine hB.ldAgg hwl ?_
   simp only[↓EP,EQ,EM,↓reduceIte,Za,Zb,Zc,Zd,Ze,Zf,Zg,Zj,Zk,Zl,Zm,Zn,Zp,Zq,reduceCtorEq,h2]
   refine st_whole hB hwl hwl (nums_one _ _) fun w4 h4 => ?_
   try simp only[↓EP,EQ,EM,↓reduceIte,Za,Zb,Zc,Zd,Ze,Zf,Zg,Zj,Zk,Zl,Zm,Zn,Zp,Zq,reduceCtorEq,h2]
   exact h4.blk.ldAgg hwl (hK _ (h4.below (Nat.le_refl _) hb))
attribute [irreducible] words
end Go.Proofs.YtcgplgpdcfocpaaGreatDoor.Spec
end
section
namespace Go.Proofs.YtcgplgpdcfocpaaGreatDoor.Spec
open Go Go.RowKit Go.Proofs Go.Proofs.YtcgplgpdcfocpaaGreatDoor.Eng Go.Proofs.YtcgplgpdcfocpaaGreatDoor.Code
def x32 (a b : Int) : Int := bits .xor .u32 a b
def a32 (a b : Int) : Int := bits .and .u32 a b
def o32 (a b : Int) : Int := bits .or .u32 a b
def s32 (a b : Int) : Int := IntKind.u32.wrap (a + b)
structure St where
 w : List Int
 a : Int
 b : Int
 c : Int
 d : Int
 e : Int
def oneW (t : Nat) (w : List Int) : List Int :=
 if (t : Int) < 16 then w else w.set ((t : Int) % 16).toNat (rl32 (x32 (x32 (x32 (at' w (((t : Int) % 16 + 13) % 16)) (at' w (((t : Int) % 16 + 8) % 16))) (at' w (((t : Int) % 16 + 2) % 16))) (at' w ((t : Int) % 16))) 1)
def oneF (t : Nat) (b c d : Int) : Int :=
 if (t : Int) < 20 then x32 d (a32 b (x32 c d)) else if (t : Int) < 40 then x32 (x32 b c) d else if (t : Int) < 60 then o32 (a32 b c) (a32 d (o32 b c)) else x32 (x32 b c) d
def oneK (t : Nat) : Int := if (t : Int) < 20 then 1518500249 else if (t : Int) < 40 then 1859775393 else if (t : Int) < 60 then 2400959708 else 3395469782
def oneStep (t : Nat) (s : St) : St :=
 ⟨oneW t s.w, s32 (s32 (s32 (s32 (rl32 s.a 5) (oneF t s.b s.c s.d)) s.e) (oneK t)) (at' (oneW t s.w) ((t : Int) % 16)), s.a, rl32 s.b 30, s.c, s.d⟩
def oneInit (h p : List Int) : St := ⟨words p, at' h 0, at' h 1, at' h 2, at' h 3, at' h 4⟩
def one (h p : List Int) : List Int :=
 let s := rounds oneStep 80 (oneInit h p)
 [s32 (at' h 0) s.a, s32 (at' h 1) s.b, s32 (at' h 2) s.c, s32 (at' h 3) s.d, s32 (at' h 4) s.e, 0, 0, 0]
theorem oneW_len (t : Nat) (w : List Int) : (oneW t w).length = w.length := by
 unfold oneW; split <;> simp
theorem one_wlen (s : St) : ∀ n, (rounds oneStep n s).w.length = s.w.length
 | 0 => rfl
 | n + 1 => by rw[rounds,oneStep,oneW_len,one_wlen s n]
theorem oneInit_0 (h p : List Int) : rounds oneStep 0 (oneInit h p) = ⟨words p, at' h 0, at' h 1, at' h 2, at' h 3, at' h 4⟩ := rfl
def oneI (w : World) (h p : List Int) (b5 m : Nat) (ρ : Env) (w' : World) : Prop :=
 ∃ k : Nat, ρ 27 = .int .i64 k ∧ k ≤ 80 ∧ m = 80 - k ∧ ρ 6 = .int .u32 (rounds oneStep k (oneInit h p)).a ∧ ρ 7 = .int .u32 (rounds oneStep k (oneInit h p)).b ∧ ρ 8 = .int .u32 (rounds oneStep k (oneInit h p)).c ∧ ρ 9 = .int .u32 (rounds oneStep k (oneInit h p)).d ∧ ρ 10 = .int .u32 (rounds oneStep k (oneInit h p)).e ∧
  Blk w' w.heap.size (nums .u32 h) ∧ Blk w' (w.heap.size + 1) (nums .u32 (zs 8)) ∧ Blk w' b5 (nums .u32 (rounds oneStep k (oneInit h p)).w) ∧ Below w.heap.size w w'
set_option maxHeartbeats 2000000 in
theorem one_spec (h p : List Int) (hh : h.length = 8) (hp : p.length = 64) (A : Option Addr) (cap : Nat) (w : World) (hr : Rd w A (nums .u8 p)) (K : Value → World → Prop)
  (hK : ∀ w', Below w.heap.size w w' → K (.agg (nums .u32 (one h p)).toArray) w') : callK Tryz.prog 117 [.agg (nums .u32 h).toArray, .slice A 64 cap] w K := by
 refine call_of Tryz.func117 Code.h117 (by simp[Code.c117]) ?_
 simp only[Code.c117,↓EP,EQ,EM,↓reduceIte,Za,Zb,Zc,Zd,Ze,Zf,Zg,Zj,Zk,Zl,Zm,Zn,Zp,Zq,reduceCtorEq]
 refine al_k (nums .u32 h) rfl fun w1 n1 => ?_
 simp only[↓EP,EQ,EM,↓reduceIte,Za,Zb,Zc,Zd,Ze,Zf,Zg,Zj,Zk,Zl,Zm,Zn,Zp,Zq,reduceCtorEq]
 refine al_k (nums .u32 (zs 8)) rfl fun w2 n2 => ?_
 simp only[↓EP,EQ,EM,↓reduceIte,Za,Zb,Zc,Zd,Ze,Zf,Zg,Zj,Zk,Zl,Zm,Zn,Zp,Zq,reduceCtorEq]
 have hs2 : w2.heap.size = w.heap.size + 2 := by rw[n2.size,n1.size]
 have hb2 : Below w.heap.size w w2 := n2.below (by rw[n1.size]; omega) (n1.below (Nat.le_refl _) (Below.refl _ _))
 have hH := n2.keep n1.blk
 have hZ := n2.blk
 rw[n1.size] at hZ
 refine words_spec A cap p hp w2 (n2.rd (n1.rd hr)) _ ?_
 intro w3 hb3
 simp only[↓EP,EQ,EM,↓reduceIte,Za,Zb,Zc,Zd,Ze,Zf,Zg,Zj,Zk,Zl,Zm,Zn,Zp,Zq,reduceCtorEq]
 refine al_k (nums .u32 (zs 16)) rfl fun w4 n4 => ?_
 simp only[↓EP,EQ,EM,↓reduceIte,Za,Zb,Zc,Zd,Ze,Zf,Zg,Zj,Zk,Zl,Zm,Zn,Zp,Zq,reduceCtorEq]
 have hs3 := hb3.size
 have hwl : (nums .u32 (words p)).length = 16 := by rw[nums_length]; exact words_len p
 refine st_whole n4.blk hwl rfl (nums_one _ _) fun w5 p5 => ?_
 have hH5 := p5.keep (by omega) (n4.keep (hH.below hb3 (by omega)))
 have hZ5 := p5.keep (by omega) (n4.keep (hZ.below hb3 (by omega)))
 have hb5 : Below w.heap.size w w5 := p5.below (by omega) (n4.below (by omega) (hb2.trans (hb3.mono (by omega))))
 have hc := fun (j : Nat) (g : j < 8) => hH5.numN (by omega : j < h.length)
 simp(disch:=omega)only[EZ,↓EP,↓reduceIte,Za,Zb,Zc,Zd,Ze,Zf,Zg,Zj,Zk,Zl,Zm,Zn,Zp,Zq,reduceCtorEq,hc]
 intro m
 have hs5 := p5.size
 have hs4 := n4.size
 refine loop_inv (oneI w h p w3.heap.size) 80 ?_ ?_
 ·refine ⟨0, by simp only[↓EP,EQ,EM,↓reduceIte,Za,Zb,Zc,Zd,Ze,Zf,Zg,Zj,Zk,Zl,Zm,Zn,Zp,Zq,reduceCtorEq], by omega, by omega, ?_⟩
  simp only[oneInit_0]
  simp only[↓EP,EQ,EM,↓reduceIte,Za,Zb,Zc,Zd,Ze,Zf,Zg,Zj,Zk,Zl,Zm,Zn,Zp,Zq,reduceCtorEq]
  exact ⟨hH5.drewN m, hZ5.drewN m, p5.blk.drewN m, below_drewN' hb5 m⟩
 ·rintro m' ρ w' hf ⟨k, h27, hk, rfl, h6, h7, h8, h9, h10, hH, hZ, hW, hb⟩ N hN
  have r2 : ρ 2 = .pointer (some ⟨w.heap.size, 0, none⟩) := by rw[hf 2 rfl]; simp only[↓EP,EQ,EM,↓reduceIte,Za,Zb,Zc,Zd,Ze,Zf,Zg,Zj,Zk,Zl,Zm,Zn,Zp,Zq,reduceCtorEq]
  have r4 : ρ 4 = .pointer (some ⟨w.heap.size + 1, 0, none⟩) := by rw[hf 4 rfl]; simp only[↓EP,EQ,EM,↓reduceIte,Za,Zb,Zc,Zd,Ze,Zf,Zg,Zj,Zk,Zl,Zm,Zn,Zp,Zq,reduceCtorEq,n1.size]
  have r5 : ρ 5 = .pointer (some ⟨w3.heap.size, 0, none⟩) := by rw[hf 5 rfl]; simp only[↓EP,EQ,EM,↓reduceIte,Za,Zb,Zc,Zd,Ze,Zf,Zg,Zj,Zk,Zl,Zm,Zn,Zp,Zq,reduceCtorEq]
  have hwl : (rounds oneStep k (oneInit h p)).w.length = 16 := by rw[one_wlen]; exact words_len p
  clear hf
  generalize hst : rounds oneStep k (oneInit h p) = st at *
  by_cases hlt : (k : Int) < 80
  ·have fin : ∀ (w6 : World) (ρ6 : Env), ρ6 27 = .int .i64 ((k + 1 : Nat) : Int) → ρ6 6 = .int .u32 (oneStep k st).a → ρ6 7 = .int .u32 (oneStep k st).b → ρ6 8 = .int .u32 (oneStep k st).c → ρ6 9 = .int .u32 (oneStep k st).d → ρ6 10 = .int .u32 (oneStep k st).e →
     Blk w6 w.heap.size (nums .u32 h) → Blk w6 (w.heap.size + 1) (nums .u32 (zs 8)) → Blk w6 w3.heap.size (nums .u32 (oneStep k st).w) → Below w.heap.size w w6 → endK N ρ6 w6 := by
    intro w6 ρ6 g1 g2 g3 g4 g5 g6 g7 g8 g9 g10
    refine hN (80 - (k + 1)) _ _ (by omega) ⟨k + 1, g1, by omega, rfl, ?_⟩
    rw[rounds,hst]
    exact ⟨g2, g3, g4, g5, g6, g7, g8, g9, g10⟩
   simp only[oneStep] at fin
   generalize hw7 : oneW k st.w = W at fin
   by_cases h16 : (k : Int) < 16
   ·rw[oneW,if_pos h16] at hw7
    subst hw7
    have hcw := fun (j : Nat) (g : j < 16) => hW.numN (by omega : j < st.w.length)
    have hF : oneF k st.b st.c st.d = x32 st.d (a32 st.b (x32 st.c st.d)) := by rw[oneF,if_pos (by omega)]
    have hKK : oneK k = 1518500249 := by rw[oneK,if_pos (by omega)]
    rw[hF,hKK] at fin
    simp(disch:=omega)only[EZ,↓EP,↓reduceIte,Za,Zb,Zc,Zd,Ze,Zf,Zg,Zj,Zk,Zl,Zm,Zn,Zp,Zq,reduceCtorEq,W_join,h27,r2,r4,r5,h6,h7,h8,h9,h10,hcw]
    refine rotl32_q _ 5 5 (by decide +kernel) (by omega) (by omega) _ _ ?_
    simp(disch:=omega)only[EZ,↓EP,↓reduceIte,Za,Zb,Zc,Zd,Ze,Zf,Zg,Zj,Zk,Zl,Zm,Zn,Zp,Zq,reduceCtorEq,h27,r2,r4,r5,h6,h7,h8,h9,h10,hcw]
    refine rotl32_q _ 30 30 (by decide +kernel) (by omega) (by omega) _ _ ?_
    simp(disch:=omega)only[EZ,↓EP,↓reduceIte,Za,Zb,Zc,Zd,Ze,Zf,Zg,Zj,Zk,Zl,Zm,Zn,Zp,Zq,reduceCtorEq,h27,r2,r4,r5,h6,h7,h8,h9,h10,hcw]
    intro m1
    refine fin _ _ ?_ ?_ ?_ ?_ ?_ ?_ (hH.drewN _) (hZ.drewN _) (hW.drewN _) (below_drewN' hb _)
    all_goals simp(disch:=omega)only[EZ,↓EP,↓reduceIte,Za,Zb,Zc,Zd,Ze,Zf,Zg,Zj,Zk,Zl,Zm,Zn,Zp,Zq,reduceCtorEq,h27,r2,r4,r5,h6,h7,h8,h9,h10,hcw,s32,x32,a32,o32,Int.natCast_add]
   ·rw[oneW,if_neg h16] at hw7
    have hcw := fun (j : Nat) (g : j < 16) => hW.numN (by omega : j < st.w.length)
    simp(disch:=omega)only[EZ,↓EP,↓reduceIte,Za,Zb,Zc,Zd,Ze,Zf,Zg,Zj,Zk,Zl,Zm,Zn,Zp,Zq,reduceCtorEq,W_join,h27,r2,r4,r5,h6,h7,h8,h9,h10,hcw]
    refine rotl32_q _ 1 1 (by decide +kernel) (by omega) (by omega) _ _ ?_
    simp(disch:=omega)only[EZ,↓EP,↓reduceIte,Za,Zb,Zc,Zd,Ze,Zf,Zg,Zj,Zk,Zl,Zm,Zn,Zp,Zq,reduceCtorEq,h27,r2,r4,r5,h6,h7,h8,h9,h10,hcw]
    intro m0
    refine st_num (hW.drewN m0) (by rw[hwl]; omega) fun w8 p8 => ?_
    have hw7 : st.w.set ((k : Int) % 16).toNat (rl32 (x32 (x32 (x32 (at' st.w (((k : Int) % 16 + 13) % 16)) (at' st.w (((k : Int) % 16 + 8) % 16))) (at' st.w (((k : Int) % 16 + 2) % 16))) (at' st.w ((k : Int) % 16))) 1) = W := hw7
    have p8 : Put (w'.drewN m0) w8 w3.heap.size (nums .u32 W) := by rw[← hw7]; exact p8
    have hWl : W.length = 16 := by subst hw7; simp[hwl]
    have hcW := fun (j : Nat) (g : j < 16) => p8.blk.numN (by omega : j < W.length)
    have hH' := p8.keep (by omega) hH
    have hZ' := p8.keep (by omega) hZ
    have hb' := p8.below (by omega) (below_drewN' hb m0)
    clear hcw hw7
    have c : (k : Int) < 20 ∨ (20 ≤ (k : Int) ∧ (k : Int) < 40) ∨ (40 ≤ (k : Int) ∧ (k : Int) < 60) ∨ 60 ≤ (k : Int) := by omega
    rcases c with c | c | c | c
    ·have hF : oneF k st.b st.c st.d = x32 st.d (a32 st.b (x32 st.c st.d)) := by rw[oneF,if_pos (by omega)]
     have hKK : oneK k = 1518500249 := by rw[oneK,if_pos (by omega)]
     rw[hF,hKK] at fin
     simp(disch:=omega)only[EZ,↓EP,↓reduceIte,Za,Zb,Zc,Zd,Ze,Zf,Zg,Zj,Zk,Zl,Zm,Zn,Zp,Zq,reduceCtorEq,W_join,h27,r2,r4,r5,h6,h7,h8,h9,h10,hcW]
     refine rotl32_q _ 5 5 (by decide +kernel) (by omega) (by omega) _ _ ?_
     simp(disch:=omega)only[EZ,↓EP,↓reduceIte,Za,Zb,Zc,Zd,Ze,Zf,Zg,Zj,Zk,Zl,Zm,Zn,Zp,Zq,reduceCtorEq,h27,r2,r4,r5,h6,h7,h8,h9,h10,hcW]
     refine rotl32_q _ 30 30 (by decide +kernel) (by omega) (by omega) _ _ ?_
     simp(disch:=omega)only[EZ,↓EP,↓reduceIte,Za,Zb,Zc,Zd,Ze,Zf,Zg,Zj,Zk,Zl,Zm,Zn,Zp,Zq,reduceCtorEq,h27,r2,r4,r5,h6,h7,h8,h9,h10,hcW]
     intro m1
     refine fin _ _ ?_ ?_ ?_ ?_ ?_ ?_ (hH'.drewN _) (hZ'.drewN _) (p8.blk.drewN _) (below_drewN' hb' _)
     all_goals simp(disch:=omega)only[EZ,↓EP,↓reduceIte,Za,Zb,Zc,Zd,Ze,Zf,Zg,Zj,Zk,Zl,Zm,Zn,Zp,Zq,reduceCtorEq,h27,r2,r4,r5,h6,h7,h8,h9,h10,hcW,s32,x32,a32,o32,Int.natCast_add]
    ·have hF : oneF k st.b st.c st.d = x32 (x32 st.b st.c) st.d := by rw[oneF,if_neg (by omega),if_pos (by omega)]
     have hKK : oneK k = 1859775393 := by rw[oneK,if_neg (by omega),if_pos (by omega)]
     rw[hF,hKK] at fin
     simp(disch:=omega)only[EZ,↓EP,↓reduceIte,Za,Zb,Zc,Zd,Ze,Zf,Zg,Zj,Zk,Zl,Zm,Zn,Zp,Zq,reduceCtorEq,W_join,h27,r2,r4,r5,h6,h7,h8,h9,h10,hcW]
     refine rotl32_q _ 5 5 (by decide +kernel) (by omega) (by omega) _ _ ?_
     simp(disch:=omega)only[EZ,↓EP,↓reduceIte,Za,Zb,Zc,Zd,Ze,Zf,Zg,Zj,Zk,Zl,Zm,Zn,Zp,Zq,reduceCtorEq,h27,r2,r4,r5,h6,h7,h8,h9,h10,hcW]
     refine rotl32_q _ 30 30 (by decide +kernel) (by omega) (by omega) _ _ ?_
     simp(disch:=omega)only[EZ,↓EP,↓reduceIte,Za,Zb,Zc,Zd,Ze,Zf,Zg,Zj,Zk,Zl,Zm,Zn,Zp,Zq,reduceCtorEq,h27,r2,r4,r5,h6,h7,h8,h9,h10,hcW]
     intro m1
     refine fin _ _ ?_ ?_ ?_ ?_ ?_ ?_ (hH'.drewN _) (hZ'.drewN _) (p8.blk.drewN _) (below_drewN' hb' _)
     all_goals simp(disch:=omega)only[EZ,↓EP,↓reduceIte,Za,Zb,Zc,Zd,Ze,Zf,Zg,Zj,Zk,Zl,Zm,Zn,Zp,Zq,reduceCtorEq,h27,r2,r4,r5,h6,h7,h8,h9,h10,hcW,s32,x32,a32,o32,Int.natCast_add]
    ·have hF : oneF k st.b st.c st.d = o32 (a32 st.b st.c) (a32 st.d (o32 st.b st.c)) := by rw[oneF,if_neg (by omega),if_neg (by omega),if_pos (by omega)]
     have hKK : oneK k = 2400959708 := by rw[oneK,if_neg (by omega),if_neg (by omega),if_pos (by omega)]
     rw[hF,hKK] at fin
     simp(disch:=omega)only[EZ,↓EP,↓reduceIte,Za,Zb,Zc,Zd,Ze,Zf,Zg,Zj,Zk,Zl,Zm,Zn,Zp,Zq,reduceCtorEq,W_join,h27,r2,r4,r5,h6,h7,h8,h9,h10,hcW]
     refine rotl32_q _ 5 5 (by decide +kernel) (by omega) (by omega) _ _ ?_
     simp(disch:=omega)only[EZ,↓EP,↓reduceIte,Za,Zb,Zc,Zd,Ze,Zf,Zg,Zj,Zk,Zl,Zm,Zn,Zp,Zq,reduceCtorEq,h27,r2,r4,r5,h6,h7,h8,h9,h10,hcW]
     refine rotl32_q _ 30 30 (by decide +kernel) (by omega) (by omega) _ _ ?_
     simp(disch:=omega)only[EZ,↓EP,↓reduceIte,Za,Zb,Zc,Zd,Ze,Zf,Zg,Zj,Zk,Zl,Zm,Zn,Zp,Zq,reduceCtorEq,h27,r2,r4,r5,h6,h7,h8,h9,h10,hcW]
     intro m1
     refine fin _ _ ?_ ?_ ?_ ?_ ?_ ?_ (hH'.drewN _) (hZ'.drewN _) (p8.blk.drewN _) (below_drewN' hb' _)
     all_goals simp(disch:=omega)only[EZ,↓EP,↓reduceIte,Za,Zb,Zc,Zd,Ze,Zf,Zg,Zj,Zk,Zl,Zm,Zn,Zp,Zq,reduceCtorEq,h27,r2,r4,r5,h6,h7,h8,h9,h10,hcW,s32,x32,a32,o32,Int.natCast_add]
    ·have hF : oneF k st.b st.c st.d = x32 (x32 st.b st.c) st.d := by rw[oneF,if_neg (by omega),if_neg (by omega),if_neg (by omega)]
     have hKK : oneK k = 3395469782 := by rw[oneK,if_neg (by omega),if_neg (by omega),if_neg (by omega)]
     rw[hF,hKK] at fin
     simp(disch:=omega)only[EZ,↓EP,↓reduceIte,Za,Zb,Zc,Zd,Ze,Zf,Zg,Zj,Zk,Zl,Zm,Zn,Zp,Zq,reduceCtorEq,W_join,h27,r2,r4,r5,h6,h7,h8,h9,h10,hcW]
     refine rotl32_q _ 5 5 (by decide +kernel) (by omega) (by omega) _ _ ?_
     simp(disch:=omega)only[EZ,↓EP,↓reduceIte,Za,Zb,Zc,Zd,Ze,Zf,Zg,Zj,Zk,Zl,Zm,Zn,Zp,Zq,reduceCtorEq,h27,r2,r4,r5,h6,h7,h8,h9,h10,hcW]
     refine rotl32_q _ 30 30 (by decide +kernel) (by omega) (by omega) _ _ ?_
     simp(disch:=omega)only[EZ,↓EP,↓reduceIte,Za,Zb,Zc,Zd,Ze,Zf,Zg,Zj,Zk,Zl,Zm,Zn,Zp,Zq,reduceCtorEq,h27,r2,r4,r5,h6,h7,h8,h9,h10,hcW]
     intro m1
     refine fin _ _ ?_ ?_ ?_ ?_ ?_ ?_ (hH'.drewN _) (hZ'.drewN _) (p8.blk.drewN _) (below_drewN' hb' _)
     all_goals simp(disch:=omega)only[EZ,↓EP,↓reduceIte,Za,Zb,Zc,Zd,Ze,Zf,Zg,Zj,Zk,Zl,Zm,Zn,Zp,Zq,reduceCtorEq,h27,r2,r4,r5,h6,h7,h8,h9,h10,hcW,s32,x32,a32,o32,Int.natCast_add]
  ·have hk80 : k = 80 := by omega
   subst hk80
   have hcc := fun (j : Nat) (g : j < 8) => hH.numN (by omega : j < h.length)
   simp(disch:=omega)only[EZ,↓EP,↓reduceIte,Za,Zb,Zc,Zd,Ze,Zf,Zg,Zj,Zk,Zl,Zm,Zn,Zp,Zq,reduceCtorEq,h27,r2,r4,h6,h7,h8,h9,h10,hcc]
   have hfill : fillL [(0, 1), (1, 1), (2, 1), (3, 1), (4, 1), (5, 1), (6, 1), (7, 1)] (Array.replicate 8 (Value.int IntKind.u32 0)) [(0, Value.int IntKind.u32 (s32 (at' h 0) st.a)), (1, Value.int IntKind.u32 (s32 (at' h 1) st.b)), (2, Value.int IntKind.u32 (s32 (at' h 2) st.c)), (3, Value.int IntKind.u32 (s32 (at' h 3) st.d)), (4, Value.int IntKind.u32 (s32 (at' h 4) st.e))] = some (nums .u32 (one h p)).toArray := by
    unfold one; rw[hst]; rfl
   have h8 : (nums .u32 (one h p)).length = 8 := by rw[nums_length]; rfl
   refine ⟨_, hfill, ?_⟩
   simp only[↓EP,EQ,EM,↓reduceIte,Za,Zb,Zc,Zd,Ze,Zf,Zg,Zj,Zk,Zl,Zm,Zn,Zp,Zq,reduceCtorEq,r2,r4]
   refine st_whole hZ h8 rfl (nums_one _ _) fun w8 p8 => ?_
   simp only[↓EP,EQ,EM,↓reduceIte,Za,Zb,Zc,Zd,Ze,Zf,Zg,Zj,Zk,Zl,Zm,Zn,Zp,Zq,reduceCtorEq,r2,r4]
   exact p8.blk.ldAgg h8 (hK _ (p8.below (by omega) hb))
end Go.Proofs.YtcgplgpdcfocpaaGreatDoor.Spec
end
section
namespace Go.Proofs.YtcgplgpdcfocpaaGreatDoor.Spec
open Go Go.RowKit Go.Proofs Go.Proofs.YtcgplgpdcfocpaaGreatDoor.Eng Go.Proofs.YtcgplgpdcfocpaaGreatDoor.Code
def k256 : List Int := [1116352408, 1899447441, 3049323471, 3921009573, 961987163, 1508970993, 2453635748, 2870763221, 3624381080, 310598401, 607225278, 1426881987, 1925078388, 2162078206, 2614888103, 3248222580, 3835390401, 4022224774, 264347078, 604807628, 770255983, 1249150122, 1555081692, 1996064986, 2554220882, 2821834349, 2952996808, 3210313671, 3336571891, 3584528711, 113926993, 338241895, 666307205, 773529912, 1294757372, 1396182291, 1695183700, 1986661051, 2177026350, 2456956037, 2730485921, 2820302411, 3259730800, 3345764771, 3516065817, 3600352804, 4094571909, 275423344, 430227734, 506948616, 659060556, 883997877, 958139571, 1322822218, 1537002063, 1747873779, 1955562222, 2024104815, 2227730452, 2361852424, 2428436474, 2756734187, 3204031479, 3329325298]
theorem k256_len : k256.length = 64 := rfl
attribute [irreducible] k256
structure S32 where
 w : List Int
 s : List Int
def twoW (t : Nat) (w : List Int) : List Int :=
 if (t : Int) < 16 then w else w.set ((t : Int) % 16).toNat (s32 (at' w ((t : Int) % 16)) (s32 (s32 (tn32 (at' w ((((t : Int) % 16) + 14) % 16)) 17 19 10 true) (at' w ((((t : Int) % 16) + 9) % 16))) (tn32 (at' w ((((t : Int) % 16) + 1) % 16)) 7 18 3 true)))
def twoX (t : Nat) (w s : List Int) : Int := s32 (s32 (s32 (s32 (at' s 7) (tn32 (at' s 4) 6 11 25 false)) (x32 (at' s 6) (a32 (at' s 4) (x32 (at' s 5) (at' s 6))))) (at' k256 t)) (at' w ((t : Int) % 16))
def twoY (s : List Int) : Int := s32 (tn32 (at' s 0) 2 13 22 false) (o32 (a32 (at' s 0) (at' s 1)) (a32 (at' s 2) (o32 (at' s 0) (at' s 1))))
def twoS (x y : Int) (s : List Int) : List Int := [s32 x y, at' s 0, at' s 1, at' s 2, s32 (at' s 3) x, at' s 4, at' s 5, at' s 6]
def twoStep (t : Nat) (q : S32) : S32 := ⟨twoW t q.w, twoS (twoX t (twoW t q.w) q.s) (twoY q.s) q.s⟩
def twoInit (h p : List Int) : S32 := ⟨words p, h⟩
def twoAdd (h : List Int) (i : Nat) (s : List Int) : List Int := s.set i (s32 (at' s i) (at' h i))
def two (h p : List Int) : List Int := rounds (twoAdd h) 8 (rounds twoStep 64 (twoInit h p)).s
theorem twoW_len (t : Nat) (w : List Int) : (twoW t w).length = w.length := by
 unfold twoW; split <;> simp
theorem two_wlen (s : S32) : ∀ n, (rounds twoStep n s).w.length = s.w.length
 | 0 => rfl
 | n + 1 => by rw[rounds,twoStep,twoW_len,two_wlen s n]
theorem two_slen (s : S32) (h : s.s.length = 8) : ∀ n, (rounds twoStep n s).s.length = 8
 | 0 => h
 | n + 1 => rfl
theorem two_alen (h s : List Int) (k : Nat) : (rounds (twoAdd h) k s).length = s.length := rounds_len _ (fun n l => by simp[twoAdd]) _ _
theorem two_len (h p : List Int) (hh : h.length = 8) : (two h p).length = 8 := by unfold two; rw[two_alen,two_slen _ hh]
set_option maxHeartbeats 2000000 in
theorem two_spec (h p : List Int) (hh : h.length = 8) (hp : p.length = 64) (A : Option Addr) (cap : Nat) (w : World) (hr : Rd w A (nums .u8 p)) (hT : cellsAt w ⟨3, 0, none⟩ (nums .u32 k256)) (hg : 3 < w.heap.size) (K : Value → World → Prop)
  (hK : ∀ w', Below w.heap.size w w' → K (.agg (nums .u32 (two h p)).toArray) w') : callK Tryz.prog 118 [.agg (nums .u32 h).toArray, .slice A 64 cap] w K := by
 refine call_of Tryz.func118 Code.h118 (by simp[Code.c118]) ?_
 simp only[Code.c118,↓EP,EQ,EM,↓reduceIte,Za,Zb,Zc,Zd,Ze,Zf,Zg,Zj,Zk,Zl,Zm,Zn,Zp,Zq,reduceCtorEq]
 refine al_k (nums .u32 h) rfl fun w1 n1 => ?_
 simp only[↓EP,EQ,EM,↓reduceIte,Za,Zb,Zc,Zd,Ze,Zf,Zg,Zj,Zk,Zl,Zm,Zn,Zp,Zq,reduceCtorEq]
 refine al_k (nums .u32 (zs 8)) rfl fun w2 n2 => ?_
 simp only[↓EP,EQ,EM,↓reduceIte,Za,Zb,Zc,Zd,Ze,Zf,Zg,Zj,Zk,Zl,Zm,Zn,Zp,Zq,reduceCtorEq]
 have s1 := n1.size
 have s2 := n2.size
 have hb2 : Below w.heap.size w w2 := n2.below (by omega) (n1.below (Nat.le_refl _) (Below.refl _ _))
 have hH := n2.keep n1.blk
 have hZ := n2.blk
 rw[s1] at hZ
 refine words_spec A cap p hp w2 (n2.rd (n1.rd hr)) _ ?_
 intro w3 hb3
 simp only[↓EP,EQ,EM,↓reduceIte,Za,Zb,Zc,Zd,Ze,Zf,Zg,Zj,Zk,Zl,Zm,Zn,Zp,Zq,reduceCtorEq]
 refine al_k (nums .u32 (zs 16)) rfl fun w4 n4 => ?_
 simp only[↓EP,EQ,EM,↓reduceIte,Za,Zb,Zc,Zd,Ze,Zf,Zg,Zj,Zk,Zl,Zm,Zn,Zp,Zq,reduceCtorEq]
 have s3 := hb3.size
 have s4 := n4.size
 have hwl : (nums .u32 (words p)).length = 16 := by rw[nums_length]; exact words_len p
 refine st_whole n4.blk hwl rfl (nums_one _ _) fun w5 p5 => ?_
 simp only[↓EP,EQ,EM,↓reduceIte,Za,Zb,Zc,Zd,Ze,Zf,Zg,Zj,Zk,Zl,Zm,Zn,Zp,Zq,reduceCtorEq]
 have s5 := p5.size
 generalize hbw : w3.heap.size = bW at *
 have hW := p5.blk
 have hH := p5.keep (by omega) (n4.keep (hH.below hb3 (by omega)))
 have hZ := p5.keep (by omega) (n4.keep (hZ.below hb3 (by omega)))
 have hb5 : Below w.heap.size w w5 := p5.below (by omega) (n4.below (by omega) (hb2.trans (hb3.mono (by omega))))
 refine hH.ldAgg (by rw[nums_length]; exact hh) ?_
 simp only[↓EP,EQ,EM,↓reduceIte,Za,Zb,Zc,Zd,Ze,Zf,Zg,Zj,Zk,Zl,Zm,Zn,Zp,Zq,reduceCtorEq]
 refine al_k (nums .u32 (zs 8)) rfl fun w6 n6 => ?_
 simp only[↓EP,EQ,EM,↓reduceIte,Za,Zb,Zc,Zd,Ze,Zf,Zg,Zj,Zk,Zl,Zm,Zn,Zp,Zq,reduceCtorEq]
 have s6 := n6.size
 refine st_whole n6.blk (by rw[nums_length]; exact hh) rfl (nums_one _ _) fun w7 p7 => ?_
 simp only[↓EP,EQ,EM,↓reduceIte,Za,Zb,Zc,Zd,Ze,Zf,Zg,Zj,Zk,Zl,Zm,Zn,Zp,Zq,reduceCtorEq]
 have s7 := p7.size
 have ltW := hW.lt
 generalize hbs : w5.heap.size = bS at *
 have hS := p7.blk
 have hH := p7.keep (by omega) (n6.keep hH)
 have hZ := p7.keep (by omega) (n6.keep hZ)
 have hW := p7.keep (by omega) (n6.keep hW)
 have hb7 : Below w.heap.size w w7 := p7.below (by omega) (n6.below (by omega) hb5)
 refine loop_inv (fun m ρ w' => ∃ k : Nat, ρ 15 = .int .i64 k ∧ k ≤ 64 ∧ m = 64 - k ∧ Blk w' w.heap.size (nums .u32 h) ∧ Blk w' (w.heap.size + 1) (nums .u32 (zs 8)) ∧ Blk w' bW (nums .u32 (rounds twoStep k (twoInit h p)).w) ∧ Blk w' bS (nums .u32 (rounds twoStep k (twoInit h p)).s) ∧ Below w.heap.size w w') 64 ?_ ?_
 ·exact ⟨0, by simp only[↓EP,EQ,EM,↓reduceIte,Za,Zb,Zc,Zd,Ze,Zf,Zg,Zj,Zk,Zl,Zm,Zn,Zp,Zq,reduceCtorEq], by omega, by omega, hH, hZ, hW, hS, hb7⟩
 rintro m ρ' w' hf ⟨k, hrg, hk, rfl, hH, hZ, hW, hS, hb⟩ N hN
 have r2 : ρ' 2 = .pointer (some ⟨w.heap.size, 0, none⟩) := by rw[hf 2 rfl]; simp only[↓EP,EQ,EM,↓reduceIte,Za,Zb,Zc,Zd,Ze,Zf,Zg,Zj,Zk,Zl,Zm,Zn,Zp,Zq,reduceCtorEq]
 have r4 : ρ' 4 = .pointer (some ⟨w.heap.size + 1, 0, none⟩) := by rw[hf 4 rfl]; simp only[↓EP,EQ,EM,↓reduceIte,Za,Zb,Zc,Zd,Ze,Zf,Zg,Zj,Zk,Zl,Zm,Zn,Zp,Zq,reduceCtorEq,s1]
 have r5 : ρ' 5 = .pointer (some ⟨bW, 0, none⟩) := by rw[hf 5 rfl]; simp only[↓EP,EQ,EM,↓reduceIte,Za,Zb,Zc,Zd,Ze,Zf,Zg,Zj,Zk,Zl,Zm,Zn,Zp,Zq,reduceCtorEq,hbw]
 have r6 : ρ' 6 = .pointer (some ⟨bS, 0, none⟩) := by rw[hf 6 rfl]; simp only[↓EP,EQ,EM,↓reduceIte,Za,Zb,Zc,Zd,Ze,Zf,Zg,Zj,Zk,Zl,Zm,Zn,Zp,Zq,reduceCtorEq,hbs]
 have hwl : (rounds twoStep k (twoInit h p)).w.length = 16 := by rw[two_wlen]; exact words_len p
 have hsl : (rounds twoStep k (twoInit h p)).s.length = 8 := two_slen _ hh k
 have hT' := hT.below hg hb
 have htl := k256_len
 have hct := fun (j : Nat) (g : j < 64) => hT'.numN (by omega : j < k256.length)
 have hct' : ∀ j : Nat, j < 64 → w'.cell? ⟨3, j, none⟩ = some (.int .u32 (at' k256 j)) := fun j g => by have := hct j g; rwa [Addr.add_lit, Nat.zero_add] at this
 clear hf
 generalize hst : rounds twoStep k (twoInit h p) = st at *
 have hcs := fun (j : Nat) (g : j < 8) => hS.numN (by omega : j < st.s.length)
 by_cases hlt : (k : Int) < 64
 ·have fin : ∀ (w6 : World) (ρ6 : Env), ρ6 15 = .int .i64 ((k + 1 : Nat) : Int) →
    Blk w6 w.heap.size (nums .u32 h) → Blk w6 (w.heap.size + 1) (nums .u32 (zs 8)) → Blk w6 bW (nums .u32 (twoStep k st).w) → Blk w6 bS (nums .u32 (twoStep k st).s) → Below w.heap.size w w6 → endK N ρ6 w6 := by
   intro w6 ρ6 g1 g2 g3 g4 g5 g6
   refine hN (64 - (k + 1)) _ _ (by omega) ⟨k + 1, g1, by omega, rfl, ?_⟩
   rw[rounds,hst]
   exact ⟨g2, g3, g4, g5, g6⟩
  simp only[twoStep] at fin
  generalize hw7 : twoW k st.w = W at fin
  by_cases h16 : (k : Int) < 16
  ·rw[twoW,if_pos h16] at hw7
   subst hw7
   generalize hw8 : st.w = W at *
   have hcw := fun (j : Nat) (g : j < 16) => hW.numN (by omega : j < W.length)
   simp(disch:=omega)only[EZ,↓EP,↓reduceIte,Za,Zb,Zc,Zd,Ze,Zf,Zg,Zj,Zk,Zl,Zm,Zn,Zp,Zq,reduceCtorEq,W_join,hrg,r2,r4,r5,r6,hcw,hcs,hct']
   refine turns_q _ 6 11 25 false (by omega) (by omega) (by omega) (by omega) (by omega) (by omega) _ _ ?_
   simp(disch:=omega)only[EZ,↓EP,↓reduceIte,Za,Zb,Zc,Zd,Ze,Zf,Zg,Zj,Zk,Zl,Zm,Zn,Zp,Zq,reduceCtorEq,hrg,r2,r4,r5,r6,hcw,hcs,hct']
   intro m1
   refine turns_q _ 2 13 22 false (by omega) (by omega) (by omega) (by omega) (by omega) (by omega) _ _ ?_
   simp(disch:=omega)only[EZ,↓EP,↓reduceIte,Za,Zb,Zc,Zd,Ze,Zf,Zg,Zj,Zk,Zl,Zm,Zn,Zp,Zq,reduceCtorEq,hrg,r2,r4,r5,r6,hcw,hcs,hct']
   intro m2
   have hfill : fillL [(0, 1), (1, 1), (2, 1), (3, 1), (4, 1), (5, 1), (6, 1), (7, 1)] (Array.replicate 8 (Value.int IntKind.u32 0)) [(0, Value.int IntKind.u32 (s32 (twoX k W st.s) (twoY st.s))), (1, Value.int IntKind.u32 (at' st.s 0)), (2, Value.int IntKind.u32 (at' st.s 1)), (3, Value.int IntKind.u32 (at' st.s 2)), (4, Value.int IntKind.u32 (s32 (at' st.s 3) (twoX k W st.s))), (5, Value.int IntKind.u32 (at' st.s 4)), (6, Value.int IntKind.u32 (at' st.s 5)), (7, Value.int IntKind.u32 (at' st.s 6))] = some (nums .u32 (twoS (twoX k W st.s) (twoY st.s) st.s)).toArray := fill8 _ _ _ _ _ _ _ _ _
   refine ⟨_, hfill, ?_⟩
   simp(disch:=omega)only[EZ,↓EP,↓reduceIte,Za,Zb,Zc,Zd,Ze,Zf,Zg,Zj,Zk,Zl,Zm,Zn,Zp,Zq,reduceCtorEq,hrg,r2,r4,r5,r6,hcw,hcs,hct']
   refine st_whole (hS.drewN _) (by rw[nums_length]; rfl) (by rw[nums_length]; exact hsl) (nums_one _ _) fun w9 p9 => ?_
   simp(disch:=omega)only[EZ,↓EP,↓reduceIte,Za,Zb,Zc,Zd,Ze,Zf,Zg,Zj,Zk,Zl,Zm,Zn,Zp,Zq,reduceCtorEq,hrg,r2,r4,r5,r6,hcw,hcs,hct']
   exact fin _ _ (by simp(disch:=omega)only[EZ,↓EP,↓reduceIte,Za,Zb,Zc,Zd,Ze,Zf,Zg,Zj,Zk,Zl,Zm,Zn,Zp,Zq,reduceCtorEq,hrg,r2,r4,r5,r6,hcw,hcs,hct',Int.natCast_add]) (p9.keep (by omega) hH) (p9.keep (by omega) hZ) (p9.keep (by omega) hW) p9.blk (p9.below (by omega) (below_drewN' hb _))
  ·rw[twoW,if_neg h16] at hw7
   have hcw := fun (j : Nat) (g : j < 16) => hW.numN (by omega : j < st.w.length)
   simp(disch:=omega)only[EZ,↓EP,↓reduceIte,Za,Zb,Zc,Zd,Ze,Zf,Zg,Zj,Zk,Zl,Zm,Zn,Zp,Zq,reduceCtorEq,W_join,hrg,r2,r4,r5,r6,hcw,hcs,hct']
   refine turns_q _ 17 19 10 true (by omega) (by omega) (by omega) (by omega) (by omega) (by omega) _ _ ?_
   simp(disch:=omega)only[EZ,↓EP,↓reduceIte,Za,Zb,Zc,Zd,Ze,Zf,Zg,Zj,Zk,Zl,Zm,Zn,Zp,Zq,reduceCtorEq,hrg,r2,r4,r5,r6,hcw,hcs,hct']
   refine turns_q _ 7 18 3 true (by omega) (by omega) (by omega) (by omega) (by omega) (by omega) _ _ ?_
   simp(disch:=omega)only[EZ,↓EP,↓reduceIte,Za,Zb,Zc,Zd,Ze,Zf,Zg,Zj,Zk,Zl,Zm,Zn,Zp,Zq,reduceCtorEq,hrg,r2,r4,r5,r6,hcw,hcs,hct']
   intro m0
   refine st_num (hW.drewN m0) (by rw[hwl]; omega) fun w8 p8 => ?_
   have hw7 : st.w.set ((k : Int) % 16).toNat (s32 (at' st.w ((k : Int) % 16)) (s32 (s32 (tn32 (at' st.w ((((k : Int) % 16) + 14) % 16)) 17 19 10 true) (at' st.w ((((k : Int) % 16) + 9) % 16))) (tn32 (at' st.w ((((k : Int) % 16) + 1) % 16)) 7 18 3 true))) = W := hw7
   have p8 : Put (w'.drewN m0) w8 bW (nums .u32 W) := by rw[← hw7]; exact p8
   have hWl : W.length = 16 := by subst hw7; simp[hwl]
   have hcW := fun (j : Nat) (g : j < 16) => p8.blk.numN (by omega : j < W.length)
   have hH := p8.keep (by omega) (hH.drewN m0)
   have hZ := p8.keep (by omega) (hZ.drewN m0)
   have hS := p8.keep (by omega) (hS.drewN m0)
   have hcs' := fun (j : Nat) (g : j < 8) => hS.numN (by omega : j < st.s.length)
   have hb := p8.below (by omega) (below_drewN' hb m0)
   have hT' := hT.below hg hb
   have hct := fun (j : Nat) (g : j < 64) => hT'.numN (by omega : j < k256.length)
   have hct' : ∀ j : Nat, j < 64 → w8.cell? ⟨3, j, none⟩ = some (.int .u32 (at' k256 j)) := fun j g => by have := hct j g; rwa [Addr.add_lit, Nat.zero_add] at this
   clear hcw hw7 hcs
   simp(disch:=omega)only[EZ,↓EP,↓reduceIte,Za,Zb,Zc,Zd,Ze,Zf,Zg,Zj,Zk,Zl,Zm,Zn,Zp,Zq,reduceCtorEq,hrg,r2,r4,r5,r6,hcW,hcs',hct']
   refine turns_q _ 6 11 25 false (by omega) (by omega) (by omega) (by omega) (by omega) (by omega) _ _ ?_
   simp(disch:=omega)only[EZ,↓EP,↓reduceIte,Za,Zb,Zc,Zd,Ze,Zf,Zg,Zj,Zk,Zl,Zm,Zn,Zp,Zq,reduceCtorEq,hrg,r2,r4,r5,r6,hcW,hcs',hct']
   intro m1
   refine turns_q _ 2 13 22 false (by omega) (by omega) (by omega) (by omega) (by omega) (by omega) _ _ ?_
   simp(disch:=omega)only[EZ,↓EP,↓reduceIte,Za,Zb,Zc,Zd,Ze,Zf,Zg,Zj,Zk,Zl,Zm,Zn,Zp,Zq,reduceCtorEq,hrg,r2,r4,r5,r6,hcW,hcs',hct']
   intro m2
   have hfill : fillL [(0, 1), (1, 1), (2, 1), (3, 1), (4, 1), (5, 1), (6, 1), (7, 1)] (Array.replicate 8 (Value.int IntKind.u32 0)) [(0, Value.int IntKind.u32 (s32 (twoX k W st.s) (twoY st.s))), (1, Value.int IntKind.u32 (at' st.s 0)), (2, Value.int IntKind.u32 (at' st.s 1)), (3, Value.int IntKind.u32 (at' st.s 2)), (4, Value.int IntKind.u32 (s32 (at' st.s 3) (twoX k W st.s))), (5, Value.int IntKind.u32 (at' st.s 4)), (6, Value.int IntKind.u32 (at' st.s 5)), (7, Value.int IntKind.u32 (at' st.s 6))] = some (nums .u32 (twoS (twoX k W st.s) (twoY st.s) st.s)).toArray := fill8 _ _ _ _ _ _ _ _ _
   refine ⟨_, hfill, ?_⟩
   simp(disch:=omega)only[EZ,↓EP,↓reduceIte,Za,Zb,Zc,Zd,Ze,Zf,Zg,Zj,Zk,Zl,Zm,Zn,Zp,Zq,reduceCtorEq,hrg,r2,r4,r5,r6,hcW,hcs',hct']
   refine st_whole (hS.drewN _) (by rw[nums_length]; rfl) (by rw[nums_length]; exact hsl) (nums_one _ _) fun w9 p9 => ?_
   simp(disch:=omega)only[EZ,↓EP,↓reduceIte,Za,Zb,Zc,Zd,Ze,Zf,Zg,Zj,Zk,Zl,Zm,Zn,Zp,Zq,reduceCtorEq,hrg,r2,r4,r5,r6,hcW,hcs',hct']
   exact fin _ _ (by simp(disch:=omega)only[EZ,↓EP,↓reduceIte,Za,Zb,Zc,Zd,Ze,Zf,Zg,Zj,Zk,Zl,Zm,Zn,Zp,Zq,reduceCtorEq,hrg,r2,r4,r5,r6,hcW,hcs',hct',Int.natCast_add]) (p9.keep (by omega) hH) (p9.keep (by omega) hZ) (p9.keep (by omega) p8.blk) p9.blk (p9.below (by omega) (below_drewN' hb _))
 have hkR : k = 64 := by omega
 subst hkR
 have e1 : st.s = (rounds twoStep 64 (twoInit h p)).s := by rw[hst]
 rw[e1] at hS hcs hsl
 simp(disch:=omega)only[EZ,↓EP,↓reduceIte,Za,Zb,Zc,Zd,Ze,Zf,Zg,Zj,Zk,Zl,Zm,Zn,Zp,Zq,reduceCtorEq,hrg,r2,r4,r5,r6]
 clear hN hst e1 hcs hW hct hct' hT'
 refine loop_inv (fun m ρ w' => ∃ k : Nat, ρ 111 = .int .i64 k ∧ k ≤ 8 ∧ m = 8 - k ∧ Blk w' w.heap.size (nums .u32 h) ∧ Blk w' (w.heap.size + 1) (nums .u32 (zs 8)) ∧ Blk w' bS (nums .u32 (rounds (twoAdd h) k (rounds twoStep 64 (twoInit h p)).s)) ∧ Below w.heap.size w w') 8 ?_ ?_
 ·exact ⟨0, by simp only[↓EP,EQ,EM,↓reduceIte,Za,Zb,Zc,Zd,Ze,Zf,Zg,Zj,Zk,Zl,Zm,Zn,Zp,Zq,reduceCtorEq], by omega, by omega, hH, hZ, hS, hb⟩
 rintro m ρ2 w8 hf ⟨k, hrg2, hk, rfl, hH, hZ, hS, hb⟩ N hN
 have r2 : ρ2 2 = .pointer (some ⟨w.heap.size, 0, none⟩) := by rw[hf 2 rfl]; simp only[↓EP,EQ,EM,↓reduceIte,Za,Zb,Zc,Zd,Ze,Zf,Zg,Zj,Zk,Zl,Zm,Zn,Zp,Zq,reduceCtorEq,r2]
 have r4 : ρ2 4 = .pointer (some ⟨w.heap.size + 1, 0, none⟩) := by rw[hf 4 rfl]; simp only[↓EP,EQ,EM,↓reduceIte,Za,Zb,Zc,Zd,Ze,Zf,Zg,Zj,Zk,Zl,Zm,Zn,Zp,Zq,reduceCtorEq,r4]
 have r6 : ρ2 6 = .pointer (some ⟨bS, 0, none⟩) := by rw[hf 6 rfl]; simp only[↓EP,EQ,EM,↓reduceIte,Za,Zb,Zc,Zd,Ze,Zf,Zg,Zj,Zk,Zl,Zm,Zn,Zp,Zq,reduceCtorEq,r6]
 have hal := two_alen h (rounds twoStep 64 (twoInit h p)).s k
 clear hf
 by_cases hlt : (k : Int) < 8
 ·generalize hst : rounds (twoAdd h) k (rounds twoStep 64 (twoInit h p)).s = S at *
  have hcs := fun (j : Nat) (g : j < 8) => hS.numN (by omega : j < S.length)
  have hch := fun (j : Nat) (g : j < 8) => hH.numN (by omega : j < h.length)
  simp(disch:=omega)only[EZ,↓EP,↓reduceIte,Za,Zb,Zc,Zd,Ze,Zf,Zg,Zj,Zk,Zl,Zm,Zn,Zp,Zq,reduceCtorEq,hrg2,r2,r4,r6,hcs,hch]
  intro m
  refine st_num (hS.drewN m) (by omega) fun w9 p9 => ?_
  simp(disch:=omega)only[EZ,↓EP,↓reduceIte,Za,Zb,Zc,Zd,Ze,Zf,Zg,Zj,Zk,Zl,Zm,Zn,Zp,Zq,reduceCtorEq,hrg2]
  refine hN (8 - (k + 1)) _ _ (by omega) ⟨k + 1, by simp(disch:=omega)only[↓EP,EQ,EM,↓reduceIte,Za,Zb,Zc,Zd,Ze,Zf,Zg,Zj,Zk,Zl,Zm,Zn,Zp,Zq,reduceCtorEq,hrg2,EO,Int.natCast_add], by omega, rfl, p9.keep (by omega) hH, p9.keep (by omega) hZ, ?_, p9.below (by omega) (below_drewN' hb m)⟩
  rw[rounds,hst]
  exact p9.blk
 ·have hk8 : k = 8 := by omega
  subst hk8
  have hS : Blk w8 bS (nums .u32 (two h p)) := hS
  have h8 : (nums .u32 (two h p)).length = 8 := by rw[nums_length]; exact two_len h p hh
  simp(disch:=omega)only[EZ,↓EP,↓reduceIte,Za,Zb,Zc,Zd,Ze,Zf,Zg,Zj,Zk,Zl,Zm,Zn,Zp,Zq,reduceCtorEq,hrg2,r2,r4,r6]
  refine hS.ldAgg h8 ?_
  simp only[↓EP,EQ,EM,↓reduceIte,Za,Zb,Zc,Zd,Ze,Zf,Zg,Zj,Zk,Zl,Zm,Zn,Zp,Zq,reduceCtorEq,r2,r4,r6]
  refine st_whole hZ h8 rfl (nums_one _ _) fun w10 p10 => ?_
  simp only[↓EP,EQ,EM,↓reduceIte,Za,Zb,Zc,Zd,Ze,Zf,Zg,Zj,Zk,Zl,Zm,Zn,Zp,Zq,reduceCtorEq,r2,r4,r6]
  exact p10.blk.ldAgg h8 (hK _ (p10.below (by omega) hb))
attribute [irreducible] two
end Go.Proofs.YtcgplgpdcfocpaaGreatDoor.Spec
end
section
namespace Go.Proofs.YtcgplgpdcfocpaaGreatDoor.Spec
open Go Go.RowKit Go.Proofs Go.Proofs.YtcgplgpdcfocpaaGreatDoor.Eng Go.Proofs.YtcgplgpdcfocpaaGreatDoor.Code
def k512 : List Int := [4794697086780616226, 8158064640168781261, 13096744586834688815, 16840607885511220156, 4131703408338449720, 6480981068601479193, 10538285296894168987, 12329834152419229976, 15566598209576043074, 1334009975649890238, 2608012711638119052, 6128411473006802146, 8268148722764581231, 9286055187155687089, 11230858885718282805, 13951009754708518548, 16472876342353939154, 17275323862435702243, 1135362057144423861, 2597628984639134821, 3308224258029322869, 5365058923640841347, 6679025012923562964, 8573033837759648693, 10970295158949994411, 12119686244451234320, 12683024718118986047, 13788192230050041572, 14330467153632333762, 15395433587784984357, 489312712824947311, 1452737877330783856, 2861767655752347644, 3322285676063803686, 5560940570517711597, 5996557281743188959, 7280758554555802590, 8532644243296465576, 9350256976987008742, 10552545826968843579, 11727347734174303076, 12113106623233404929, 14000437183269869457, 14369950271660146224, 15101387698204529176, 15463397548674623760, 17586052441742319658, 1182934255886127544, 1847814050463011016, 2177327727835720531, 2830643537854262169, 3796741975233480872, 4115178125766777443, 5681478168544905931, 6601373596472566643, 7507060721942968483, 8399075790359081724, 8693463985226723168, 9568029438360202098, 10144078919501101548, 10430055236837252648, 11840083180663258601, 13761210420658862357, 14299343276471374635, 14566680578165727644, 15097957966210449927, 16922976911328602910, 17689382322260857208, 500013540394364858, 748580250866718886, 1242879168328830382, 1977374033974150939, 2944078676154940804, 3659926193048069267, 4368137639120453308, 4836135668995329356, 5532061633213252278, 6448918945643986474, 6902733635092675308, 7801388544844847127]
theorem k512_len : k512.length = 80 := rfl
attribute [irreducible] k512
def x64 (a b : Int) : Int := bits .xor .u64 a b
def a64 (a b : Int) : Int := bits .and .u64 a b
def o64 (a b : Int) : Int := bits .or .u64 a b
def s64 (a b : Int) : Int := IntKind.u64.wrap (a + b)
def wwStep (p : List Int) (i : Nat) (l : List Int) : List Int := l.set ((i : Int) / 8).toNat (o64 (IntKind.u64.wrap (at' l ((i : Int) / 8) * 256)) (IntKind.u64.wrap (at' p i)))
def wwords (p : List Int) : List Int := rounds (wwStep p) 128 (zs 16)
theorem wwr_len (p : List Int) (k : Nat) : (rounds (wwStep p) k (zs 16)).length = 16 := rounds_len _ (fun n l => by simp[wwStep]) _ _
theorem wwords_len (p : List Int) : (wwords p).length = 16 := wwr_len p 128
attribute [irreducible] wwords
structure S64 where
 w : List Int
 s : List Int
def wideW (t : Nat) (w : List Int) : List Int :=
 if (t : Int) < 16 then w else w.set ((t : Int) % 16).toNat (s64 (at' w ((t : Int) % 16)) (s64 (s64 (tn64 (at' w ((((t : Int) % 16) + 14) % 16)) 19 61 6 true) (at' w ((((t : Int) % 16) + 9) % 16))) (tn64 (at' w ((((t : Int) % 16) + 1) % 16)) 1 8 7 true)))
def wideX (t : Nat) (w s : List Int) : Int := s64 (s64 (s64 (s64 (at' s 7) (tn64 (at' s 4) 14 18 41 false)) (x64 (at' s 6) (a64 (at' s 4) (x64 (at' s 5) (at' s 6))))) (at' k512 t)) (at' w ((t : Int) % 16))
def wideY (s : List Int) : Int := s64 (tn64 (at' s 0) 28 34 39 false) (o64 (a64 (at' s 0) (at' s 1)) (a64 (at' s 2) (o64 (at' s 0) (at' s 1))))
def wideS (x y : Int) (s : List Int) : List Int := [s64 x y, at' s 0, at' s 1, at' s 2, s64 (at' s 3) x, at' s 4, at' s 5, at' s 6]
def wideStep (t : Nat) (q : S64) : S64 := ⟨wideW t q.w, wideS (wideX t (wideW t q.w) q.s) (wideY q.s) q.s⟩
def wideInit (h p : List Int) : S64 := ⟨wwords p, h⟩
def wideAdd (h : List Int) (i : Nat) (s : List Int) : List Int := s.set i (s64 (at' s i) (at' h i))
def wide (h p : List Int) : List Int := rounds (wideAdd h) 8 (rounds wideStep 80 (wideInit h p)).s
theorem wideW_len (t : Nat) (w : List Int) : (wideW t w).length = w.length := by
 unfold wideW; split <;> simp
theorem wide_wlen (s : S64) : ∀ n, (rounds wideStep n s).w.length = s.w.length
 | 0 => rfl
 | n + 1 => by rw[rounds,wideStep,wideW_len,wide_wlen s n]
theorem wide_slen (s : S64) (h : s.s.length = 8) : ∀ n, (rounds wideStep n s).s.length = 8
 | 0 => h
 | n + 1 => rfl
theorem wide_alen (h s : List Int) (k : Nat) : (rounds (wideAdd h) k s).length = s.length := rounds_len _ (fun n l => by simp[wideAdd]) _ _
theorem wide_len (h p : List Int) (hh : h.length = 8) : (wide h p).length = 8 := by unfold wide; rw[wide_alen,wide_slen _ hh]
set_option maxHeartbeats 2000000 in
theorem wide_spec (h p : List Int) (hh : h.length = 8) (hp : p.length = 128) (A : Option Addr) (cap : Nat) (w : World) (hr : Rd w A (nums .u8 p)) (hT : cellsAt w ⟨4, 0, none⟩ (nums .u64 k512)) (hg : 4 < w.heap.size) (K : Value → World → Prop)
  (hK : ∀ w', Below w.heap.size w w' → K (.agg (nums .u64 (wide h p)).toArray) w') : callK Tryz.prog 119 [.agg (nums .u64 h).toArray, .slice A 128 cap] w K := by
 refine call_of Tryz.func119 Code.h119 (by simp[Code.c119]) ?_
 simp only[Code.c119,↓EP,EQ,EM,↓reduceIte,Za,Zb,Zc,Zd,Ze,Zf,Zg,Zj,Zk,Zl,Zm,Zn,Zp,Zq,reduceCtorEq]
 refine al_k (nums .u64 h) rfl fun w1 n1 => ?_
 simp only[↓EP,EQ,EM,↓reduceIte,Za,Zb,Zc,Zd,Ze,Zf,Zg,Zj,Zk,Zl,Zm,Zn,Zp,Zq,reduceCtorEq]
 refine al_k (nums .u64 (zs 8)) rfl fun w2 n2 => ?_
 simp only[↓EP,EQ,EM,↓reduceIte,Za,Zb,Zc,Zd,Ze,Zf,Zg,Zj,Zk,Zl,Zm,Zn,Zp,Zq,reduceCtorEq]
 have s1 := n1.size
 have s2 := n2.size
 have hb2 : Below w.heap.size w w2 := n2.below (by omega) (n1.below (Nat.le_refl _) (Below.refl _ _))
 have hH := n2.keep n1.blk
 have hZ := n2.blk
 rw[s1] at hZ
 refine al_k (nums .u64 (zs 16)) rfl fun w3 n3 => ?_
 simp only[↓EP,EQ,EM,↓reduceIte,Za,Zb,Zc,Zd,Ze,Zf,Zg,Zj,Zk,Zl,Zm,Zn,Zp,Zq,reduceCtorEq]
 have s3 := n3.size
 obtain ⟨ad, rfl, had, hc⟩ := hr.get (by simp[nums_length,hp])
 refine loop_inv (fun m ρ w' => ∃ (k : Nat), ρ 13 = .int .i64 k ∧ k ≤ 128 ∧ m = 128 - k ∧ Blk w' w2.heap.size (nums .u64 (rounds (wwStep p) k (zs 16))) ∧ Blk w' w.heap.size (nums .u64 h) ∧ Blk w' (w.heap.size + 1) (nums .u64 (zs 8)) ∧ Below w.heap.size w w') 128 ?_ ?_
 ·exact ⟨0, by simp only[↓EP,EQ,EM,↓reduceIte,Za,Zb,Zc,Zd,Ze,Zf,Zg,Zj,Zk,Zl,Zm,Zn,Zp,Zq,reduceCtorEq], by omega, by omega, n3.blk, n3.keep hH, n3.keep hZ, n3.below (by omega) hb2⟩
 rintro m ρ w5 hf ⟨k, h13, hk, rfl, hB, hH, hZ, hb5⟩ N hN
 have hc' := hc.below had hb5
 have r0 : ρ 1 = .slice (some ad) 128 cap := by rw[hf 1 rfl]; simp only[↓EP,EQ,EM,↓reduceIte,Za,Zb,Zc,Zd,Ze,Zf,Zg,Zj,Zk,Zl,Zm,Zn,Zp,Zq,reduceCtorEq]
 have r2 : ρ 2 = .pointer (some ⟨w.heap.size, 0, none⟩) := by rw[hf 2 rfl]; simp only[↓EP,EQ,EM,↓reduceIte,Za,Zb,Zc,Zd,Ze,Zf,Zg,Zj,Zk,Zl,Zm,Zn,Zp,Zq,reduceCtorEq]
 have r4 : ρ 4 = .pointer (some ⟨w1.heap.size, 0, none⟩) := by rw[hf 4 rfl]; simp only[↓EP,EQ,EM,↓reduceIte,Za,Zb,Zc,Zd,Ze,Zf,Zg,Zj,Zk,Zl,Zm,Zn,Zp,Zq,reduceCtorEq]
 rw[s1] at r4
 have r5 : ρ 5 = .pointer (some ⟨w2.heap.size, 0, none⟩) := by rw[hf 5 rfl]; simp only[↓EP,EQ,EM,↓reduceIte,Za,Zb,Zc,Zd,Ze,Zf,Zg,Zj,Zk,Zl,Zm,Zn,Zp,Zq,reduceCtorEq]
 by_cases hlt : (k : Int) < 128
 ·have hp' := fun (j : Nat) (g : j < 128) => hc'.numN (by omega : j < p.length)
  have hl := wwr_len p k
  have hcw := fun (j : Nat) (g : j < 16) => hB.numN (by omega : j < (rounds (wwStep p) k (zs 16)).length)
  simp(disch:=omega)only[EZ,↓EP,↓reduceIte,Za,Zb,Zc,Zd,Ze,Zf,Zg,Zj,Zk,Zl,Zm,Zn,Zp,Zq,reduceCtorEq,h13,r0,r2,r5,hp',hcw]
  intro m
  refine st_num (hB.drewN m) (by omega) fun w6 p6 => ?_
  simp(disch:=omega)only[EZ,↓EP,↓reduceIte,Za,Zb,Zc,Zd,Ze,Zf,Zg,Zj,Zk,Zl,Zm,Zn,Zp,Zq,reduceCtorEq,h13]
  exact hN (128 - (k + 1)) _ _ (by omega) ⟨k + 1, by simp(disch:=omega)only[↓EP,EQ,EM,↓reduceIte,Za,Zb,Zc,Zd,Ze,Zf,Zg,Zj,Zk,Zl,Zm,Zn,Zp,Zq,reduceCtorEq,h13,EO,Int.natCast_add], by omega, rfl, p6.blk, p6.keep (by omega) hH, p6.keep (by omega) hZ, p6.below (by omega) (below_drewN' hb5 m)⟩
 have hk16 : k = 128 := by omega
 subst hk16
 have hW : Blk w5 w2.heap.size (nums .u64 (wwords p)) := by unfold wwords; exact hB
 simp(disch:=omega)only[EZ,↓EP,↓reduceIte,Za,Zb,Zc,Zd,Ze,Zf,Zg,Zj,Zk,Zl,Zm,Zn,Zp,Zq,reduceCtorEq,h13,r2,r5,r4]
 clear hN hf
 generalize hbw : w2.heap.size = bW at *
 refine hH.ldAgg (by rw[nums_length]; exact hh) ?_
 simp only[↓EP,EQ,EM,↓reduceIte,Za,Zb,Zc,Zd,Ze,Zf,Zg,Zj,Zk,Zl,Zm,Zn,Zp,Zq,reduceCtorEq]
 refine al_k (nums .u64 (zs 8)) rfl fun w6 n6 => ?_
 simp only[↓EP,EQ,EM,↓reduceIte,Za,Zb,Zc,Zd,Ze,Zf,Zg,Zj,Zk,Zl,Zm,Zn,Zp,Zq,reduceCtorEq]
 have s6 := n6.size
 refine st_whole n6.blk (by rw[nums_length]; exact hh) rfl (nums_one _ _) fun w7 p7 => ?_
 simp only[↓EP,EQ,EM,↓reduceIte,Za,Zb,Zc,Zd,Ze,Zf,Zg,Zj,Zk,Zl,Zm,Zn,Zp,Zq,reduceCtorEq]
 have s7 := p7.size
 have ltW := hW.lt
 generalize hbs : w5.heap.size = bS at *
 have hS := p7.blk
 have hH := p7.keep (by omega) (n6.keep hH)
 have hZ := p7.keep (by omega) (n6.keep hZ)
 have hW := p7.keep (by omega) (n6.keep hW)
 have hb7 : Below w.heap.size w w7 := p7.below (by omega) (n6.below (by omega) hb5)
 refine loop_inv (fun m ρ w' => ∃ k : Nat, ρ 32 = .int .i64 k ∧ k ≤ 80 ∧ m = 80 - k ∧ Blk w' w.heap.size (nums .u64 h) ∧ Blk w' (w.heap.size + 1) (nums .u64 (zs 8)) ∧ Blk w' bW (nums .u64 (rounds wideStep k (wideInit h p)).w) ∧ Blk w' bS (nums .u64 (rounds wideStep k (wideInit h p)).s) ∧ Below w.heap.size w w') 80 ?_ ?_
 ·exact ⟨0, by simp only[↓EP,EQ,EM,↓reduceIte,Za,Zb,Zc,Zd,Ze,Zf,Zg,Zj,Zk,Zl,Zm,Zn,Zp,Zq,reduceCtorEq], by omega, by omega, hH, hZ, hW, hS, hb7⟩
 rintro m ρ' w' hf ⟨k, hrg, hk, rfl, hH, hZ, hW, hS, hb⟩ N hN
 have r2 : ρ' 2 = .pointer (some ⟨w.heap.size, 0, none⟩) := by rw[hf 2 rfl]; simp only[↓EP,EQ,EM,↓reduceIte,Za,Zb,Zc,Zd,Ze,Zf,Zg,Zj,Zk,Zl,Zm,Zn,Zp,Zq,reduceCtorEq,r2,r4,r5]
 have r4 : ρ' 4 = .pointer (some ⟨w.heap.size + 1, 0, none⟩) := by rw[hf 4 rfl]; simp only[↓EP,EQ,EM,↓reduceIte,Za,Zb,Zc,Zd,Ze,Zf,Zg,Zj,Zk,Zl,Zm,Zn,Zp,Zq,reduceCtorEq,r2,r4,r5,s1]
 have r5 : ρ' 5 = .pointer (some ⟨bW, 0, none⟩) := by rw[hf 5 rfl]; simp only[↓EP,EQ,EM,↓reduceIte,Za,Zb,Zc,Zd,Ze,Zf,Zg,Zj,Zk,Zl,Zm,Zn,Zp,Zq,reduceCtorEq,r2,r4,r5,hbw]
 have r6 : ρ' 7 = .pointer (some ⟨bS, 0, none⟩) := by rw[hf 7 rfl]; simp only[↓EP,EQ,EM,↓reduceIte,Za,Zb,Zc,Zd,Ze,Zf,Zg,Zj,Zk,Zl,Zm,Zn,Zp,Zq,reduceCtorEq,r2,r4,r5,hbs]
 have hwl : (rounds wideStep k (wideInit h p)).w.length = 16 := by rw[wide_wlen]; exact wwords_len p
 have hsl : (rounds wideStep k (wideInit h p)).s.length = 8 := wide_slen _ hh k
 have hT' := hT.below hg hb
 have htl := k512_len
 have hct := fun (j : Nat) (g : j < 80) => hT'.numN (by omega : j < k512.length)
 have hct' : ∀ j : Nat, j < 80 → w'.cell? ⟨4, j, none⟩ = some (.int .u64 (at' k512 j)) := fun j g => by have := hct j g; rwa [Addr.add_lit, Nat.zero_add] at this
 clear hf
 generalize hst : rounds wideStep k (wideInit h p) = st at *
 have hcs := fun (j : Nat) (g : j < 8) => hS.numN (by omega : j < st.s.length)
 by_cases hlt : (k : Int) < 80
 ·have fin : ∀ (w6 : World) (ρ6 : Env), ρ6 32 = .int .i64 ((k + 1 : Nat) : Int) →
    Blk w6 w.heap.size (nums .u64 h) → Blk w6 (w.heap.size + 1) (nums .u64 (zs 8)) → Blk w6 bW (nums .u64 (wideStep k st).w) → Blk w6 bS (nums .u64 (wideStep k st).s) → Below w.heap.size w w6 → endK N ρ6 w6 := by
   intro w6 ρ6 g1 g2 g3 g4 g5 g6
   refine hN (80 - (k + 1)) _ _ (by omega) ⟨k + 1, g1, by omega, rfl, ?_⟩
   rw[rounds,hst]
   exact ⟨g2, g3, g4, g5, g6⟩
  simp only[wideStep] at fin
  generalize hw7 : wideW k st.w = W at fin
  by_cases h16 : (k : Int) < 16
  ·rw[wideW,if_pos h16] at hw7
   subst hw7
   generalize hw8 : st.w = W at *
   have hcw := fun (j : Nat) (g : j < 16) => hW.numN (by omega : j < W.length)
   simp(disch:=omega)only[EZ,↓EP,↓reduceIte,Za,Zb,Zc,Zd,Ze,Zf,Zg,Zj,Zk,Zl,Zm,Zn,Zp,Zq,reduceCtorEq,W_join,hrg,r2,r4,r5,r6,hcw,hcs,hct']
   refine wturns_q _ 14 18 41 false (by omega) (by omega) (by omega) (by omega) (by omega) (by omega) _ _ ?_
   simp(disch:=omega)only[EZ,↓EP,↓reduceIte,Za,Zb,Zc,Zd,Ze,Zf,Zg,Zj,Zk,Zl,Zm,Zn,Zp,Zq,reduceCtorEq,hrg,r2,r4,r5,r6,hcw,hcs,hct']
   intro m1
   refine wturns_q _ 28 34 39 false (by omega) (by omega) (by omega) (by omega) (by omega) (by omega) _ _ ?_
   simp(disch:=omega)only[EZ,↓EP,↓reduceIte,Za,Zb,Zc,Zd,Ze,Zf,Zg,Zj,Zk,Zl,Zm,Zn,Zp,Zq,reduceCtorEq,hrg,r2,r4,r5,r6,hcw,hcs,hct']
   intro m2
   have hfill : fillL [(0, 1), (1, 1), (2, 1), (3, 1), (4, 1), (5, 1), (6, 1), (7, 1)] (Array.replicate 8 (Value.int IntKind.u64 0)) [(0, Value.int IntKind.u64 (s64 (wideX k W st.s) (wideY st.s))), (1, Value.int IntKind.u64 (at' st.s 0)), (2, Value.int IntKind.u64 (at' st.s 1)), (3, Value.int IntKind.u64 (at' st.s 2)), (4, Value.int IntKind.u64 (s64 (at' st.s 3) (wideX k W st.s))), (5, Value.int IntKind.u64 (at' st.s 4)), (6, Value.int IntKind.u64 (at' st.s 5)), (7, Value.int IntKind.u64 (at' st.s 6))] = some (nums .u64 (wideS (wideX k W st.s) (wideY st.s) st.s)).toArray := fill8 _ _ _ _ _ _ _ _ _
   refine ⟨_, hfill, ?_⟩
   simp(disch:=omega)only[EZ,↓EP,↓reduceIte,Za,Zb,Zc,Zd,Ze,Zf,Zg,Zj,Zk,Zl,Zm,Zn,Zp,Zq,reduceCtorEq,hrg,r2,r4,r5,r6,hcw,hcs,hct']
   refine st_whole (hS.drewN _) (by rw[nums_length]; rfl) (by rw[nums_length]; exact hsl) (nums_one _ _) fun w9 p9 => ?_
   simp(disch:=omega)only[EZ,↓EP,↓reduceIte,Za,Zb,Zc,Zd,Ze,Zf,Zg,Zj,Zk,Zl,Zm,Zn,Zp,Zq,reduceCtorEq,hrg,r2,r4,r5,r6,hcw,hcs,hct']
   exact fin _ _ (by simp(disch:=omega)only[EZ,↓EP,↓reduceIte,Za,Zb,Zc,Zd,Ze,Zf,Zg,Zj,Zk,Zl,Zm,Zn,Zp,Zq,reduceCtorEq,hrg,r2,r4,r5,r6,hcw,hcs,hct',Int.natCast_add]) (p9.keep (by omega) hH) (p9.keep (by omega) hZ) (p9.keep (by omega) hW) p9.blk (p9.below (by omega) (below_drewN' hb _))
  ·rw[wideW,if_neg h16] at hw7
   have hcw := fun (j : Nat) (g : j < 16) => hW.numN (by omega : j < st.w.length)
   simp(disch:=omega)only[EZ,↓EP,↓reduceIte,Za,Zb,Zc,Zd,Ze,Zf,Zg,Zj,Zk,Zl,Zm,Zn,Zp,Zq,reduceCtorEq,W_join,hrg,r2,r4,r5,r6,hcw,hcs,hct']
   refine wturns_q _ 19 61 6 true (by omega) (by omega) (by omega) (by omega) (by omega) (by omega) _ _ ?_
   simp(disch:=omega)only[EZ,↓EP,↓reduceIte,Za,Zb,Zc,Zd,Ze,Zf,Zg,Zj,Zk,Zl,Zm,Zn,Zp,Zq,reduceCtorEq,hrg,r2,r4,r5,r6,hcw,hcs,hct']
   refine wturns_q _ 1 8 7 true (by omega) (by omega) (by omega) (by omega) (by omega) (by omega) _ _ ?_
   simp(disch:=omega)only[EZ,↓EP,↓reduceIte,Za,Zb,Zc,Zd,Ze,Zf,Zg,Zj,Zk,Zl,Zm,Zn,Zp,Zq,reduceCtorEq,hrg,r2,r4,r5,r6,hcw,hcs,hct']
   intro m0
   refine st_num (hW.drewN m0) (by rw[hwl]; omega) fun w8 p8 => ?_
   have hw7 : st.w.set ((k : Int) % 16).toNat (s64 (at' st.w ((k : Int) % 16)) (s64 (s64 (tn64 (at' st.w ((((k : Int) % 16) + 14) % 16)) 19 61 6 true) (at' st.w ((((k : Int) % 16) + 9) % 16))) (tn64 (at' st.w ((((k : Int) % 16) + 1) % 16)) 1 8 7 true))) = W := hw7
   have p8 : Put (w'.drewN m0) w8 bW (nums .u64 W) := by rw[← hw7]; exact p8
   have hWl : W.length = 16 := by subst hw7; simp[hwl]
   have hcW := fun (j : Nat) (g : j < 16) => p8.blk.numN (by omega : j < W.length)
   have hH := p8.keep (by omega) (hH.drewN m0)
   have hZ := p8.keep (by omega) (hZ.drewN m0)
   have hS := p8.keep (by omega) (hS.drewN m0)
   have hcs' := fun (j : Nat) (g : j < 8) => hS.numN (by omega : j < st.s.length)
   have hb := p8.below (by omega) (below_drewN' hb m0)
   have hT' := hT.below hg hb
   have hct := fun (j : Nat) (g : j < 80) => hT'.numN (by omega : j < k512.length)
   have hct' : ∀ j : Nat, j < 80 → w8.cell? ⟨4, j, none⟩ = some (.int .u64 (at' k512 j)) := fun j g => by have := hct j g; rwa [Addr.add_lit, Nat.zero_add] at this
   clear hcw hw7 hcs
   simp(disch:=omega)only[EZ,↓EP,↓reduceIte,Za,Zb,Zc,Zd,Ze,Zf,Zg,Zj,Zk,Zl,Zm,Zn,Zp,Zq,reduceCtorEq,hrg,r2,r4,r5,r6,hcW,hcs',hct']
   refine wturns_q _ 14 18 41 false (by omega) (by omega) (by omega) (by omega) (by omega) (by omega) _ _ ?_
   simp(disch:=omega)only[EZ,↓EP,↓reduceIte,Za,Zb,Zc,Zd,Ze,Zf,Zg,Zj,Zk,Zl,Zm,Zn,Zp,Zq,reduceCtorEq,hrg,r2,r4,r5,r6,hcW,hcs',hct']
   intro m1
   refine wturns_q _ 28 34 39 false (by omega) (by omega) (by omega) (by omega) (by omega) (by omega) _ _ ?_
   simp(disch:=omega)only[EZ,↓EP,↓reduceIte,Za,Zb,Zc,Zd,Ze,Zf,Zg,Zj,Zk,Zl,Zm,Zn,Zp,Zq,reduceCtorEq,hrg,r2,r4,r5,r6,hcW,hcs',hct']
   intro m2
   have hfill : fillL [(0, 1), (1, 1), (2, 1), (3, 1), (4, 1), (5, 1), (6, 1), (7, 1)] (Array.replicate 8 (Value.int IntKind.u64 0)) [(0, Value.int IntKind.u64 (s64 (wideX k W st.s) (wideY st.s))), (1, Value.int IntKind.u64 (at' st.s 0)), (2, Value.int IntKind.u64 (at' st.s 1)), (3, Value.int IntKind.u64 (at' st.s 2)), (4, Value.int IntKind.u64 (s64 (at' st.s 3) (wideX k W st.s))), (5, Value.int IntKind.u64 (at' st.s 4)), (6, Value.int IntKind.u64 (at' st.s 5)), (7, Value.int IntKind.u64 (at' st.s 6))] = some (nums .u64 (wideS (wideX k W st.s) (wideY st.s) st.s)).toArray := fill8 _ _ _ _ _ _ _ _ _
   refine ⟨_, hfill, ?_⟩
   simp(disch:=omega)only[EZ,↓EP,↓reduceIte,Za,Zb,Zc,Zd,Ze,Zf,Zg,Zj,Zk,Zl,Zm,Zn,Zp,Zq,reduceCtorEq,hrg,r2,r4,r5,r6,hcW,hcs',hct']
   refine st_whole (hS.drewN _) (by rw[nums_length]; rfl) (by rw[nums_length]; exact hsl) (nums_one _ _) fun w9 p9 => ?_
   simp(disch:=omega)only[EZ,↓EP,↓reduceIte,Za,Zb,Zc,Zd,Ze,Zf,Zg,Zj,Zk,Zl,Zm,Zn,Zp,Zq,reduceCtorEq,hrg,r2,r4,r5,r6,hcW,hcs',hct']
   exact fin _ _ (by simp(disch:=omega)only[EZ,↓EP,↓reduceIte,Za,Zb,Zc,Zd,Ze,Zf,Zg,Zj,Zk,Zl,Zm,Zn,Zp,Zq,reduceCtorEq,hrg,r2,r4,r5,r6,hcW,hcs',hct',Int.natCast_add]) (p9.keep (by omega) hH) (p9.keep (by omega) hZ) (p9.keep (by omega) p8.blk) p9.blk (p9.below (by omega) (below_drewN' hb _))
 have hkR : k = 80 := by omega
 subst hkR
 have e1 : st.s = (rounds wideStep 80 (wideInit h p)).s := by rw[hst]
 rw[e1] at hS hcs hsl
 simp(disch:=omega)only[EZ,↓EP,↓reduceIte,Za,Zb,Zc,Zd,Ze,Zf,Zg,Zj,Zk,Zl,Zm,Zn,Zp,Zq,reduceCtorEq,hrg,r2,r4,r5,r6]
 clear hN hst e1 hcs hW hct hct' hT'
 refine loop_inv (fun m ρ w' => ∃ k : Nat, ρ 128 = .int .i64 k ∧ k ≤ 8 ∧ m = 8 - k ∧ Blk w' w.heap.size (nums .u64 h) ∧ Blk w' (w.heap.size + 1) (nums .u64 (zs 8)) ∧ Blk w' bS (nums .u64 (rounds (wideAdd h) k (rounds wideStep 80 (wideInit h p)).s)) ∧ Below w.heap.size w w') 8 ?_ ?_
 ·exact ⟨0, by simp only[↓EP,EQ,EM,↓reduceIte,Za,Zb,Zc,Zd,Ze,Zf,Zg,Zj,Zk,Zl,Zm,Zn,Zp,Zq,reduceCtorEq], by omega, by omega, hH, hZ, hS, hb⟩
 rintro m ρ2 w8 hf ⟨k, hrg2, hk, rfl, hH, hZ, hS, hb⟩ N hN
 have r2 : ρ2 2 = .pointer (some ⟨w.heap.size, 0, none⟩) := by rw[hf 2 rfl]; simp only[↓EP,EQ,EM,↓reduceIte,Za,Zb,Zc,Zd,Ze,Zf,Zg,Zj,Zk,Zl,Zm,Zn,Zp,Zq,reduceCtorEq,r2]
 have r4 : ρ2 4 = .pointer (some ⟨w.heap.size + 1, 0, none⟩) := by rw[hf 4 rfl]; simp only[↓EP,EQ,EM,↓reduceIte,Za,Zb,Zc,Zd,Ze,Zf,Zg,Zj,Zk,Zl,Zm,Zn,Zp,Zq,reduceCtorEq,r4]
 have r6 : ρ2 7 = .pointer (some ⟨bS, 0, none⟩) := by rw[hf 7 rfl]; simp only[↓EP,EQ,EM,↓reduceIte,Za,Zb,Zc,Zd,Ze,Zf,Zg,Zj,Zk,Zl,Zm,Zn,Zp,Zq,reduceCtorEq,r6]
 have hal := wide_alen h (rounds wideStep 80 (wideInit h p)).s k
 clear hf
 by_cases hlt : (k : Int) < 8
 ·generalize hst : rounds (wideAdd h) k (rounds wideStep 80 (wideInit h p)).s = S at *
  have hcs := fun (j : Nat) (g : j < 8) => hS.numN (by omega : j < S.length)
  have hch := fun (j : Nat) (g : j < 8) => hH.numN (by omega : j < h.length)
  simp(disch:=omega)only[EZ,↓EP,↓reduceIte,Za,Zb,Zc,Zd,Ze,Zf,Zg,Zj,Zk,Zl,Zm,Zn,Zp,Zq,reduceCtorEq,hrg2,r2,r4,r6,hcs,hch]
  intro m
  refine st_num (hS.drewN m) (by omega) fun w9 p9 => ?_
  simp(disch:=omega)only[EZ,↓EP,↓reduceIte,Za,Zb,Zc,Zd,Ze,Zf,Zg,Zj,Zk,Zl,Zm,Zn,Zp,Zq,reduceCtorEq,hrg2]
  refine hN (8 - (k + 1)) _ _ (by omega) ⟨k + 1, by simp(disch:=omega)only[↓EP,EQ,EM,↓reduceIte,Za,Zb,Zc,Zd,Ze,Zf,Zg,Zj,Zk,Zl,Zm,Zn,Zp,Zq,reduceCtorEq,hrg2,EO,Int.natCast_add], by omega, rfl, p9.keep (by omega) hH, p9.keep (by omega) hZ, ?_, p9.below (by omega) (below_drewN' hb m)⟩
  rw[rounds,hst]
  exact p9.blk
 ·have hk8 : k = 8 := by omega
  subst hk8
  have hS : Blk w8 bS (nums .u64 (wide h p)) := hS
  have h8 : (nums .u64 (wide h p)).length = 8 := by rw[nums_length]; exact wide_len h p hh
  simp(disch:=omega)only[EZ,↓EP,↓reduceIte,Za,Zb,Zc,Zd,Ze,Zf,Zg,Zj,Zk,Zl,Zm,Zn,Zp,Zq,reduceCtorEq,hrg2,r2,r4,r6]
  refine hS.ldAgg h8 ?_
  simp only[↓EP,EQ,EM,↓reduceIte,Za,Zb,Zc,Zd,Ze,Zf,Zg,Zj,Zk,Zl,Zm,Zn,Zp,Zq,reduceCtorEq,r2,r4,r6]
  refine st_whole hZ h8 rfl (nums_one _ _) fun w10 p10 => ?_
  simp only[↓EP,EQ,EM,↓reduceIte,Za,Zb,Zc,Zd,Ze,Zf,Zg,Zj,Zk,Zl,Zm,Zn,Zp,Zq,reduceCtorEq,r2,r4,r6]
  exact p10.blk.ldAgg h8 (hK _ (p10.below (by omega) hb))
attribute [irreducible] wide
end Go.Proofs.YtcgplgpdcfocpaaGreatDoor.Spec
end
section
namespace Go.Proofs.YtcgplgpdcfocpaaGreatDoor.Spec
open Go Go.RowKit Go.Proofs Go.Proofs.YtcgplgpdcfocpaaGreatDoor.Eng Go.Proofs.YtcgplgpdcfocpaaGreatDoor.Code
def sizeI (alg : Int) : Int := if alg = 1 then 20 else if alg = 2 then 32 else if alg = 3 then 48 else if alg = 4 then 64 else 0
def blockI (alg : Int) : Nat := if alg = 1 then 64 else if alg = 2 then 64 else if alg = 3 then 128 else if alg = 4 then 128 else 0
theorem size_spec (alg : Int) (w : World) (K : Value → World → Prop) (hK : K (.int .i64 (sizeI alg)) w) : callK Tryz.prog 37 [.int .i64 alg] w K := by
 refine call_of Tryz.func37 Code.h37 (by simp[Code.c37]) ?_
 unfold sizeI at hK
 have c : alg = 1 ∨ alg = 2 ∨ alg = 3 ∨ alg = 4 ∨ (alg < 1 ∨ 4 < alg) := by omega
 rcases c with rfl | rfl | rfl | rfl | c
 ·simp only[Code.c37,↓EP,EQ,EM,↓reduceIte,Za,Zb,Zc,Zd,Ze,Zf,Zg,Zj,Zk,Zl,Zm,Zn,Zp,Zq,reduceCtorEq]; exact hK
 ·simp only[Code.c37,↓EP,EQ,EM,↓reduceIte,Za,Zb,Zc,Zd,Ze,Zf,Zg,Zj,Zk,Zl,Zm,Zn,Zp,Zq,reduceCtorEq]; exact hK
 ·simp only[Code.c37,↓EP,EQ,EM,↓reduceIte,Za,Zb,Zc,Zd,Ze,Zf,Zg,Zj,Zk,Zl,Zm,Zn,Zp,Zq,reduceCtorEq]; exact hK
 ·simp only[Code.c37,↓EP,EQ,EM,↓reduceIte,Za,Zb,Zc,Zd,Ze,Zf,Zg,Zj,Zk,Zl,Zm,Zn,Zp,Zq,reduceCtorEq]; exact hK
 ·simp(disch:=omega)only[Code.c37,EZ,↓EP,↓reduceIte,Za,Zb,Zc,Zd,Ze,Zf,Zg,Zj,Zk,Zl,Zm,Zn,Zp,Zq,reduceCtorEq]
  rwa [if_neg (by omega), if_neg (by omega), if_neg (by omega), if_neg (by omega)] at hK
theorem blocksz_spec (alg : Int) (w : World) (K : Value → World → Prop) (hK : K (.int .i64 (blockI alg)) w) : callK Tryz.prog 98 [.int .i64 alg] w K := by
 refine call_of Tryz.func98 Code.h98 (by simp[Code.c98]) ?_
 unfold blockI at hK
 have c : alg = 1 ∨ alg = 2 ∨ alg = 3 ∨ alg = 4 ∨ (alg < 1 ∨ 4 < alg) := by omega
 rcases c with rfl | rfl | rfl | rfl | c
 ·simp only[Code.c98,↓EP,EQ,EM,↓reduceIte,Za,Zb,Zc,Zd,Ze,Zf,Zg,Zj,Zk,Zl,Zm,Zn,Zp,Zq,reduceCtorEq,W_join]; exact hK
 ·simp only[Code.c98,↓EP,EQ,EM,↓reduceIte,Za,Zb,Zc,Zd,Ze,Zf,Zg,Zj,Zk,Zl,Zm,Zn,Zp,Zq,reduceCtorEq,W_join]; exact hK
 ·simp only[Code.c98,↓EP,EQ,EM,↓reduceIte,Za,Zb,Zc,Zd,Ze,Zf,Zg,Zj,Zk,Zl,Zm,Zn,Zp,Zq,reduceCtorEq,W_join]; exact hK
 ·simp only[Code.c98,↓EP,EQ,EM,↓reduceIte,Za,Zb,Zc,Zd,Ze,Zf,Zg,Zj,Zk,Zl,Zm,Zn,Zp,Zq,reduceCtorEq,W_join]; exact hK
 ·simp(disch:=omega)only[Code.c98,EZ,↓EP,↓reduceIte,Za,Zb,Zc,Zd,Ze,Zf,Zg,Zj,Zk,Zl,Zm,Zn,Zp,Zq,reduceCtorEq,W_join]
  rwa [if_neg (by omega), if_neg (by omega), if_neg (by omega), if_neg (by omega)] at hK
def hc (alg : Int) (ws vs : List Int) (rv : Value) (n : Int) : List Value := .int .i64 alg :: (nums .u32 ws ++ (nums .u64 vs ++ [rv, .int .i64 n]))
theorem len8 {l : List Int} (h : l.length = 8) : ∃ a b c d e f g i, l = [a, b, c, d, e, f, g, i] := by
 match l, h with
 | [a, b, c, d, e, f, g, i], _ => exact ⟨a, b, c, d, e, f, g, i, rfl⟩
structure HC (w : World) (hb : Nat) (alg : Int) (ws vs : List Int) (rv : Value) (n : Int) : Prop where
 blk : Blk w hb (hc alg ws vs rv n)
 lw : ws.length = 8
 lv : vs.length = 8
theorem HC.alg {w : World} {hb : Nat} {alg : Int} {ws vs : List Int} {rv : Value} {n : Int} (h : HC w hb alg ws vs rv n) : w.cell? ⟨hb, 0, none⟩ = some (.int .i64 alg) := h.blk.has 0 _ rfl
theorem HC.rest {w : World} {hb : Nat} {alg : Int} {ws vs : List Int} {rv : Value} {n : Int} (h : HC w hb alg ws vs rv n) : w.cell? ⟨hb, 17, none⟩ = some rv := by
 obtain ⟨a, b, c, d, e, f, g, i, rfl⟩ := len8 h.lw
 obtain ⟨a, b, c, d, e, f, g, i, rfl⟩ := len8 h.lv
 exact h.blk.has 17 _ rfl
theorem HC.n {w : World} {hb : Nat} {alg : Int} {ws vs : List Int} {rv : Value} {n : Int} (h : HC w hb alg ws vs rv n) : w.cell? ⟨hb, 18, none⟩ = some (.int .i64 n) := by
 obtain ⟨a, b, c, d, e, f, g, i, rfl⟩ := len8 h.lw
 obtain ⟨a, b, c, d, e, f, g, i, rfl⟩ := len8 h.lv
 exact h.blk.has 18 _ rfl
theorem HC.w_ {w : World} {hb : Nat} {alg : Int} {ws vs : List Int} {rv : Value} {n : Int} (h : HC w hb alg ws vs rv n) (j : Nat) (hj : j < 8) : w.cell? ⟨hb, 1 + j, none⟩ = some (.int .u32 (at' ws j)) := by
 have lw := h.lw
 rw[h.blk.cell?,hc,Nat.add_comm 1 j,List.getElem?_cons_succ,List.getElem?_append_left (by rw [nums_length]; omega),nums_get (by omega)]
 simp[at']
theorem HC.v_ {w : World} {hb : Nat} {alg : Int} {ws vs : List Int} {rv : Value} {n : Int} (h : HC w hb alg ws vs rv n) (j : Nat) (hj : j < 8) : w.cell? ⟨hb, 9 + j, none⟩ = some (.int .u64 (at' vs j)) := by
 have lw := h.lw
 have lv := h.lv
 rw[h.blk.cell?, hc, show 9 + j = (8 + j) + 1 by omega, List.getElem?_cons_succ, List.getElem?_append_right (by rw [nums_length]; omega), nums_length, List.getElem?_append_left (by rw [nums_length]; omega), show 8 + j - ws.length = j by omega, nums_get (by omega)]
 simp[at']
theorem HC.ldw {w : World} {hb : Nat} {alg : Int} {ws vs : List Int} {rv : Value} {n : Int} (h : HC w hb alg ws vs rv n) {K : Value → Prop} (hK : K (.agg (nums .u32 ws).toArray)) : ldK w (.agg 8) ⟨hb, 1, none⟩ K := by
 have hB := h.blk
 obtain ⟨a, b, c, d, e, f, g, i, rfl⟩ := len8 h.lw
 obtain ⟨a', b', c', d', e', f', g', i', rfl⟩ := len8 h.lv
 exact ⟨nums .u32 [a, b, c, d, e, f, g, i], rfl, hB.part 1 8, hK⟩
theorem HC.ldv {w : World} {hb : Nat} {alg : Int} {ws vs : List Int} {rv : Value} {n : Int} (h : HC w hb alg ws vs rv n) {K : Value → Prop} (hK : K (.agg (nums .u64 vs).toArray)) : ldK w (.agg 8) ⟨hb, 9, none⟩ K := by
 have hB := h.blk
 obtain ⟨a, b, c, d, e, f, g, i, rfl⟩ := len8 h.lw
 obtain ⟨a', b', c', d', e', f', g', i', rfl⟩ := len8 h.lv
 exact ⟨nums .u64 [a', b', c', d', e', f', g', i'], rfl, hB.part 9 8, hK⟩
theorem hc_len {alg : Int} {ws vs : List Int} {rv : Value} {n : Int} (lw : ws.length = 8) (lv : vs.length = 8) : (hc alg ws vs rv n).length = 19 := by
 simp[hc,nums_length,lw,lv]
theorem HC.stw {w : World} {hb : Nat} {alg : Int} {ws vs : List Int} {rv : Value} {n : Int} (h : HC w hb alg ws vs rv n) {ws' : List Int} (l8 : ws'.length = 8) {K : World → Prop} (hK : ∀ w', HC w' hb alg ws' vs rv n → Fr w w' (fun b => b = hb) → K w') : stK 8 ⟨hb, 1, none⟩ (.agg (nums .u32 ws').toArray) w K := by
 refine st_part h.blk (by rw[nums_length]; exact l8) (by rw[hc_len h.lw h.lv]; omega) (nums_one _ _) fun w' p => hK w' ⟨?_, l8, h.lv⟩ p.fr
 have hB := p.blk
 obtain ⟨a, b, c, d, e, f, g, i, rfl⟩ := len8 h.lw
 obtain ⟨a', b', c', d', e', f', g', i', rfl⟩ := len8 h.lv
 obtain ⟨a'', b'', c'', d'', e'', f'', g'', i'', rfl⟩ := len8 l8
 exact hB
theorem HC.stv {w : World} {hb : Nat} {alg : Int} {ws vs : List Int} {rv : Value} {n : Int} (h : HC w hb alg ws vs rv n) {vs' : List Int} (l8 : vs'.length = 8) {K : World → Prop} (hK : ∀ w', HC w' hb alg ws vs' rv n → Fr w w' (fun b => b = hb) → K w') : stK 8 ⟨hb, 9, none⟩ (.agg (nums .u64 vs').toArray) w K := by
 refine st_part h.blk (by rw[nums_length]; exact l8) (by rw[hc_len h.lw h.lv]; omega) (nums_one _ _) fun w' p => hK w' ⟨?_, h.lw, l8⟩ p.fr
 have hB := p.blk
 obtain ⟨a, b, c, d, e, f, g, i, rfl⟩ := len8 h.lw
 obtain ⟨a', b', c', d', e', f', g', i', rfl⟩ := len8 h.lv
 obtain ⟨a'', b'', c'', d'', e'', f'', g'', i'', rfl⟩ := len8 l8
 exact hB
theorem HC.str {w : World} {hb : Nat} {alg : Int} {ws vs : List Int} {rv : Value} {n : Int} (h : HC w hb alg ws vs rv n) {A : Option Addr} {l c : Nat} {K : World → Prop} (hK : ∀ w', HC w' hb alg ws vs (.slice A l c) n → Fr w w' (fun b => b = hb) → K w') : stK 1 ⟨hb, 17, none⟩ (.slice A l c) w K := by
 refine st_one h.blk (by rw[hc_len h.lw h.lv]; omega) rfl fun w' p => hK w' ⟨?_, h.lw, h.lv⟩ p.fr
 have hB := p.blk
 obtain ⟨a, b, c, d, e, f, g, i, rfl⟩ := len8 h.lw
 obtain ⟨a', b', c', d', e', f', g', i', rfl⟩ := len8 h.lv
 exact hB
theorem HC.stn {w : World} {hb : Nat} {alg : Int} {ws vs : List Int} {rv : Value} {n : Int} (h : HC w hb alg ws vs rv n) {m : Int} {K : World → Prop} (hK : ∀ w', HC w' hb alg ws vs rv m → Fr w w' (fun b => b = hb) → K w') : stK 1 ⟨hb, 18, none⟩ (.int .i64 m) w K := by
 refine st_one h.blk (by rw[hc_len h.lw h.lv]; omega) rfl fun w' p => hK w' ⟨?_, h.lw, h.lv⟩ p.fr
 have hB := p.blk
 obtain ⟨a, b, c, d, e, f, g, i, rfl⟩ := len8 h.lw
 obtain ⟨a', b', c', d', e', f', g', i', rfl⟩ := len8 h.lv
 exact hB
theorem HC.fr {w w' : World} {hb : Nat} {alg : Int} {ws vs : List Int} {rv : Value} {n : Int} (h : HC w hb alg ws vs rv n) {P : Nat → Prop} (f : Fr w w' P) (hp : ¬ P hb) : HC w' hb alg ws vs rv n := ⟨h.blk.fr f hp, h.lw, h.lv⟩
structure Tb (w : World) : Prop where
 k256 : cellsAt w ⟨3, 0, none⟩ (nums .u32 k256)
 k512 : cellsAt w ⟨4, 0, none⟩ (nums .u64 k512)
 lt : 4 < w.heap.size
 lt0 : 3 < w.heap.size
theorem Tb.fr {w w' : World} {P : Nat → Prop} (h : Tb w) (f : Fr w w' P) (h0 : ¬ P 3) (h1 : ¬ P 4) : Tb w' :=
 ⟨h.k256.fr f h.lt0 h0, h.k512.fr f h.lt h1, Nat.lt_of_lt_of_le h.lt f.size, Nat.lt_of_lt_of_le h.lt0 f.size⟩
def mix (alg : Int) (s : List Int × List Int) (p : List Int) : List Int × List Int :=
 if alg = 1 then (one s.1 p, s.2) else if alg = 2 then (two s.1 p, s.2) else (s.1, wide s.2 p)
theorem one_len (h p : List Int) : (one h p).length = 8 := rfl
attribute [local irreducible] one
theorem block_spec {w : World} {hb : Nat} {alg : Int} {ws vs : List Int} {rv : Value} {n : Int} (h : HC w hb alg ws vs rv n) (ha : 1 ≤ alg) (ha' : alg ≤ 4) (hT : Tb w) {A : Option Addr} {c : Nat} {p : List Int} (hr : Rd w A (nums .u8 p)) (hp : p.length = blockI alg) (K : Value → World → Prop)
  (hK : ∀ w', HC w' hb alg (mix alg (ws, vs) p).1 (mix alg (ws, vs) p).2 rv n → Fr w w' (fun b => b = hb) → K (.tuple #[]) w') : callK Tryz.prog 99 [.pointer (some ⟨hb, 0, none⟩), .slice A (blockI alg) c] w K := by
 refine call_of Tryz.func99 Code.h99 (by simp[Code.c99]) ?_
 have lt := hT.lt
 have lt0 := hT.lt0
 have c : alg = 1 ∨ alg = 2 ∨ alg = 3 ∨ alg = 4 := by omega
 have hal := h.alg
 rcases c with rfl | rfl | rfl | rfl
 ·simp only[Code.c99,↓EP,EQ,EM,↓reduceIte,Za,Zb,Zc,Zd,Ze,Zf,Zg,Zj,Zk,Zl,Zm,Zn,Zp,Zq,reduceCtorEq,hal]
  refine h.ldw ?_
  simp only[↓EP,EQ,EM,↓reduceIte,Za,Zb,Zc,Zd,Ze,Zf,Zg,Zj,Zk,Zl,Zm,Zn,Zp,Zq,reduceCtorEq]
  refine one_spec ws p h.lw hp A _ w hr _ fun w1 b1 => ?_
  have f1 := fr_of b1 rfl
  simp only[↓EP,EQ,EM,↓reduceIte,Za,Zb,Zc,Zd,Ze,Zf,Zg,Zj,Zk,Zl,Zm,Zn,Zp,Zq,reduceCtorEq]
  refine (h.fr f1 (fun x => x)).stw (one_len _ _) fun w2 h2 f2 => ?_
  simp only[↓EP,EQ,EM,↓reduceIte,Za,Zb,Zc,Zd,Ze,Zf,Zg,Zj,Zk,Zl,Zm,Zn,Zp,Zq,reduceCtorEq]
  exact hK _ h2 ((f1.mono fun _ _ x => x.elim).trans f2 fun _ _ x => x)
 ·simp only[Code.c99,↓EP,EQ,EM,↓reduceIte,Za,Zb,Zc,Zd,Ze,Zf,Zg,Zj,Zk,Zl,Zm,Zn,Zp,Zq,reduceCtorEq,hal]
  refine h.ldw ?_
  simp only[↓EP,EQ,EM,↓reduceIte,Za,Zb,Zc,Zd,Ze,Zf,Zg,Zj,Zk,Zl,Zm,Zn,Zp,Zq,reduceCtorEq]
  refine two_spec ws p h.lw hp A _ w hr hT.k256 (by omega) _ fun w1 b1 => ?_
  have f1 := fr_of b1 rfl
  simp only[↓EP,EQ,EM,↓reduceIte,Za,Zb,Zc,Zd,Ze,Zf,Zg,Zj,Zk,Zl,Zm,Zn,Zp,Zq,reduceCtorEq]
  refine (h.fr f1 (fun x => x)).stw (two_len _ _ h.lw) fun w2 h2 f2 => ?_
  simp only[↓EP,EQ,EM,↓reduceIte,Za,Zb,Zc,Zd,Ze,Zf,Zg,Zj,Zk,Zl,Zm,Zn,Zp,Zq,reduceCtorEq]
  exact hK _ h2 ((f1.mono fun _ _ x => x.elim).trans f2 fun _ _ x => x)
 all_goals
  simp only[Code.c99,↓EP,EQ,EM,↓reduceIte,Za,Zb,Zc,Zd,Ze,Zf,Zg,Zj,Zk,Zl,Zm,Zn,Zp,Zq,reduceCtorEq,hal]
  refine h.ldv ?_
  simp only[↓EP,EQ,EM,↓reduceIte,Za,Zb,Zc,Zd,Ze,Zf,Zg,Zj,Zk,Zl,Zm,Zn,Zp,Zq,reduceCtorEq]
  refine wide_spec vs p h.lv hp A _ w hr hT.k512 (by omega) _ fun w1 b1 => ?_
  have f1 := fr_of b1 rfl
  simp only[↓EP,EQ,EM,↓reduceIte,Za,Zb,Zc,Zd,Ze,Zf,Zg,Zj,Zk,Zl,Zm,Zn,Zp,Zq,reduceCtorEq]
  refine (h.fr f1 (fun x => x)).stv (wide_len _ _ h.lv) fun w2 h2 f2 => ?_
  simp only[↓EP,EQ,EM,↓reduceIte,Za,Zb,Zc,Zd,Ze,Zf,Zg,Zj,Zk,Zl,Zm,Zn,Zp,Zq,reduceCtorEq]
  exact hK _ h2 ((f1.mono fun _ _ x => x.elim).trans f2 fun _ _ x => x)
end Go.Proofs.YtcgplgpdcfocpaaGreatDoor.Spec
end
section
namespace Go.Proofs.YtcgplgpdcfocpaaGreatDoor.Spec
open Go Go.RowKit Go.Proofs Go.Proofs.YtcgplgpdcfocpaaGreatDoor.Eng Go.Proofs.YtcgplgpdcfocpaaGreatDoor.Code
attribute [local irreducible] one
def st0 (alg : Int) : List Int × List Int :=
 if alg = 1 then ([1732584193, 4023233417, 2562383102, 271733878, 3285377520, 0, 0, 0], zs 8)
 else if alg = 2 then ([1779033703, 3144134277, 1013904242, 2773480762, 1359893119, 2600822924, 528734635, 1541459225], zs 8)
 else if alg = 3 then (zs 8, [14680500436340154072, 7105036623409894663, 10473403895298186519, 1526699215303891257, 7436329637833083697, 10282925794625328401, 15784041429090275239, 5167115440072839076])
 else (zs 8, [7640891576956012808, 13503953896175478587, 4354685564936845355, 11912009170470909681, 5840696475078001361, 11170449401992604703, 2270897969802886507, 6620516959819538809])
def part (bs : Nat) (M : List Int) (j : Nat) : List Int := (M.drop (j * bs)).take bs
def runN (alg : Int) (M : List Int) (j : Nat) : List Int × List Int := rounds (fun j s => mix alg s (part (blockI alg) M j)) j (st0 alg)
def run (alg : Int) (M : List Int) : List Int × List Int := runN alg M (M.length / blockI alg)
def rest (alg : Int) (M : List Int) : List Int := M.drop (M.length / blockI alg * blockI alg)
theorem part_app {bs : Nat} {m p : List Int} {j : Nat} (h : (j + 1) * bs ≤ m.length) : part bs (m ++ p) j = part bs m j := by
 unfold part
 have e : (j + 1) * bs = j * bs + bs := by rw[Nat.add_mul,Nat.one_mul]
 rw[e] at h
 rw[List.drop_append_of_le_length (by omega),List.take_append_of_le_length (by simp; omega)]
theorem runN_app {alg : Int} {m p : List Int} : ∀ {j : Nat}, j * blockI alg ≤ m.length → runN alg (m ++ p) j = runN alg m j
 | 0, _ => by rw[runN,runN,rounds,rounds]
 | j + 1, h => by
  have h' : j * blockI alg ≤ m.length := Nat.le_trans (Nat.mul_le_mul_right _ (by omega)) h
  show mix alg (runN alg (m ++ p) j) (part _ (m ++ p) j) = mix alg (runN alg m j) (part _ m j)
  rw[runN_app h',part_app h]
theorem runN_succ (alg : Int) (M : List Int) (j : Nat) : runN alg M (j + 1) = mix alg (runN alg M j) (part (blockI alg) M j) := rfl
theorem blockI_or {alg : Int} (h : 1 ≤ alg) (h' : alg ≤ 4) : blockI alg = 64 ∨ blockI alg = 128 := by
 have c : alg = 1 ∨ alg = 2 ∨ alg = 3 ∨ alg = 4 := by omega
 rcases c with rfl | rfl | rfl | rfl <;> decide
theorem run_of {alg : Int} (h : 1 ≤ alg) (h' : alg ≤ 4) {M : List Int} {j : Nat} (h1 : j * blockI alg ≤ M.length) (h2 : M.length < j * blockI alg + blockI alg) : M.length / blockI alg = j := by
 have hb := blockI_or h h'
 have hp : 0 < blockI alg := by omega
 apply Nat.le_antisymm
 ·apply Nat.le_of_lt_succ
  rw[Nat.div_lt_iff_lt_mul hp,Nat.succ_mul]; exact h2
 ·rw[Nat.le_div_iff_mul_le hp]; exact h1
theorem div_facts {alg : Int} (h : 1 ≤ alg) (h' : alg ≤ 4) (m : List Int) : m.length / blockI alg * blockI alg ≤ m.length ∧ m.length < m.length / blockI alg * blockI alg + blockI alg := by
 have hb := blockI_or h h'
 rcases hb with e | e <;> rw[e] <;> omega
structure Hsh (w : World) (hb : Nat) (rv : Value) (alg : Int) (m : List Int) : Prop where
 hc : HC w hb alg (run alg m).1 (run alg m).2 rv m.length
 a1 : 1 ≤ alg
 a4 : alg ≤ 4
 sl : Sl .u8 w rv (rest alg m)
 hi : 4 < hb
 ri : ∀ b, blkOf rv = some b → 4 < b ∧ b ≠ hb
structure Wr (w0 w : World) (hb : Nat) (rv0 : Value) (alg : Int) (s : List Int × List Int) (cv : Value) (n : Int) (x : Value) (r : List Int) : Prop where
 hc : HC w hb alg s.1 s.2 cv n
 sl : Sl .u8 w x r
 sep : ∀ b, blkOf x = some b → 4 < b ∧ b ≠ hb ∧ (blkOf rv0 = some b ∨ w0.heap.size ≤ b)
 tb : Tb w
 fr : Fr w0 w (fun b => b = hb ∨ blkOf rv0 = some b)
def hP (hb : Nat) (rv0 : Value) : Nat → Prop := fun b => b = hb ∨ blkOf rv0 = some b
variable {w0 w w' : World} {hb : Nat} {rv0 cv x : Value} {alg n : Int} {s : List Int × List Int} {r : List Int}
theorem Wr.hb_ (h : Wr w0 w hb rv0 alg s cv n x r) {s' : List Int × List Int} {cv' : Value} {n' : Int} (hi : 4 < hb) (h' : HC w' hb alg s'.1 s'.2 cv' n') (f : Fr w w' (fun b => b = hb)) : Wr w0 w' hb rv0 alg s' cv' n' x r :=
 ⟨h', h.sl.fr f fun b hb => (h.sep b hb).2.1, h.sep, h.tb.fr f (by omega) (by omega), h.fr.trans f fun b _ e => .inl e⟩
theorem Wr.drewN (h : Wr w0 w hb rv0 alg s cv n x r) (k : Nat) : Wr w0 (w.drewN k) hb rv0 alg s cv n x r :=
 ⟨h.hc.fr (Fr.drewN w k nob) (fun x => x), h.sl.drewN k, h.sep, h.tb.fr (Fr.drewN w k nob) (fun x => x) (fun x => x), h.fr.trans (Fr.drewN w k nob) fun b _ e => e.elim⟩
theorem Wr.apd (h : Wr w0 w hb rv0 alg s cv n x r) {v : Value} {l : List Int} (hh : hb < w.heap.size) (a : Apd .u8 w x l v w') : Wr w0 w' hb rv0 alg s cv n v l := by
 have lt := h.tb.lt
 refine ⟨h.hc.fr a.fr fun e => (h.sep _ e).2.1 rfl, a.sl, fun b hb' => ?_, h.tb.fr a.fr (fun e => by have := (h.sep _ e).1; omega) (fun e => by have := (h.sep _ e).1; omega), h.fr.trans a.fr fun b hb' e => ?_⟩
 ·rcases a.where_ with e | e
  ·exact h.sep b (e ▸ hb')
  ·have := e b hb'
   have := h.fr.size
   exact ⟨by omega, by omega, .inr (by omega)⟩
 ·rcases (h.sep b e).2.2 with c | c
  ·exact .inr c
  ·omega
theorem Wr.out (h : Wr w0 w hb rv0 alg s cv n x r) : Wr w0 w hb rv0 alg s cv n (.slice none 0 0) [] :=
 ⟨h.hc, Sl.nil _ _, fun b e => (by cases e), h.tb, h.fr⟩
theorem Wr.hsh (h : Wr w0 w hb rv0 alg (run alg r) x (r.length : Int) x (rest alg r)) (a1 : 1 ≤ alg) (a4 : alg ≤ 4) (hi : 4 < hb) : Hsh w hb x alg r :=
 ⟨h.hc, a1, a4, h.sl, hi, fun b e => ⟨(h.sep b e).1, (h.sep b e).2.1⟩⟩
theorem rest_len {alg : Int} (h : 1 ≤ alg) (h' : alg ≤ 4) (m : List Int) : (rest alg m).length = m.length - m.length / blockI alg * blockI alg := by simp[rest]
set_option maxHeartbeats 2000000 in
theorem write_spec {w : World} {hb : Nat} {rv : Value} {alg : Int} {m p : List Int} (h : Hsh w hb rv alg m) (hT : Tb w) {A : Option Addr} {c : Nat} (hr : RO .u8 w A p (hP hb rv)) (hpc : p.length ≤ c) (hmx : m.length + p.length ≤ 16777216) (K : Value → World → Prop)
  (hK : ∀ rv' w', Hsh w' hb rv' alg (m ++ p) → Tb w' → (∀ b, blkOf rv' = some b → blkOf rv = some b ∨ w.heap.size ≤ b) → Fr w w' (hP hb rv) → K (.int .i64 0) w') : callK Tryz.prog 71 [.pointer (some ⟨hb, 0, none⟩), .slice A p.length c] w K := by
 refine call_of Tryz.func71 Code.h71 (by simp[Code.c71]) ?_
 have ha1 := h.a1
 have ha4 := h.a4
 have hi := h.hi
 have hbs := blockI_or ha1 ha4
 have hlt := h.hc.blk.lt
 obtain ⟨hd1, hd2⟩ := div_facts ha1 ha4 m
 have hrl := rest_len ha1 ha4 m
 obtain ⟨RA, rc, rfl, hrc, hRd, hRb⟩ := h.sl.read
 have W0 : Wr w w hb (.slice RA (rest alg m).length rc) alg (run alg m) (.slice RA (rest alg m).length rc) m.length (.slice RA (rest alg m).length rc) (rest alg m) :=
  ⟨h.hc, h.sl, fun b e => ⟨(h.ri b e).1, (h.ri b e).2, .inl e⟩, hT, Fr.refl _ _⟩
 have fin : ∀ (x : Value) (w9 : World), Wr w w9 hb (.slice RA (rest alg m).length rc) alg (run alg (m ++ p)) x (m ++ p).length x (rest alg (m ++ p)) → K (.int .i64 0) w9 := fun x w9 h9 =>
  hK x w9 (h9.hsh ha1 ha4 hi) h9.tb (fun b e => (h9.sep b e).2.2) h9.fr
 clear hK hRd hRb
 have hn := h.hc.n
 simp(disch:=omega)only[Code.c71,EZ,↓EP,↓reduceIte,Za,Zb,Zc,Zd,Ze,Zf,Zg,Zj,Zk,Zl,Zm,Zn,Zp,Zq,reduceCtorEq,hn]
 refine h.hc.stn fun w1 h1 f1 => ?_
 have hml : ((m ++ p).length : Int) = (m.length : Int) + p.length := by simp
 rw[← hml] at h1
 have W1 := W0.hb_ hi h1 f1
 have hr1 := hr.fr (f1.mono (Q := hP hb (.slice RA (rest alg m).length rc)) fun b _ e => .inl e)
 have hal := h1.alg
 have hre := h1.rest
 clear W0 f1 hn
 simp(disch:=omega)only[EZ,↓EP,↓reduceIte,Za,Zb,Zc,Zd,Ze,Zf,Zg,Zj,Zk,Zl,Zm,Zn,Zp,Zq,reduceCtorEq,hal]
 refine blocksz_spec alg _ _ ?_
 generalize hL : (rest alg m).length = L at *
 have hrun : run alg m = runN alg (m ++ p) (m.length / blockI alg) := by rw[runN_app hd1]; rfl
 generalize hMd : m ++ p = M at *
 simp(disch:=omega)only[EZ,↓EP,↓reduceIte,Za,Zb,Zc,Zd,Ze,Zf,Zg,Zj,Zk,Zl,Zm,Zn,Zp,Zq,reduceCtorEq,W_joinT,hre]
 have hM : M.length = m.length + p.length := by rw[← hMd]; simp
 refine join_cut (fun ρ' w' => ∃ (j : Nat) (A' : Option Addr) (c' : Nat) (X : Value), ρ' 1 = .slice A' (M.length - j * blockI alg) c' ∧ j * blockI alg ≤ M.length ∧ M.length - j * blockI alg ≤ c' ∧ Wr w w' hb (.slice RA L rc) alg (runN alg M j) X M.length X [] ∧ RO .u8 w' A' (M.drop (j * blockI alg)) (hP hb (.slice RA L rc))) ?_ ?_
 ·intro N hN
  by_cases hL0 : L = 0
  ·subst hL0
   simp(disch:=omega)only[EZ,↓EP,↓reduceIte,Za,Zb,Zc,Zd,Ze,Zf,Zg,Zj,Zk,Zl,Zm,Zn,Zp,Zq,reduceCtorEq,W_join,hre]
   refine hN _ _ ⟨m.length / blockI alg, A, c, .slice RA 0 rc, ?_, by omega, by omega, ?_, ?_⟩
   ·simp(disch:=omega)only[EZ,↓EP,↓reduceIte,Za,Zb,Zc,Zd,Ze,Zf,Zg,Zj,Zk,Zl,Zm,Zn,Zp,Zq,reduceCtorEq]
    congr 1; omega
   ·rw[hrun] at W1
    rwa [List.length_eq_zero_iff.1 hL] at W1
   ·have e : M.drop (m.length / blockI alg * blockI alg) = p := by
     rw[← hMd, show m.length / blockI alg * blockI alg = m.length by omega]; simp
    rw[e]; exact hr1
  ·obtain ⟨k, hk, hk1, hk2⟩ : ∃ k : Nat, (if (blockI alg : Int) - (L : Int) < (p.length : Int) then (blockI alg : Int) - (L : Int) else (p.length : Int)) = (k : Int) ∧ k ≤ p.length ∧ ((L + p.length < blockI alg ∧ k = p.length) ∨ (blockI alg ≤ L + p.length ∧ L + k = blockI alg)) := by
    refine ⟨min p.length (blockI alg - L), ?_, by omega, by omega⟩
    split <;> omega
   simp(disch:=omega)only[EZ,↓EP,↓reduceIte,Za,Zb,Zc,Zd,Ze,Zf,Zg,Zj,Zk,Zl,Zm,Zn,Zp,Zq,reduceCtorEq,W_join,hre,hk]
   intro m1
   have W2 : Wr w (w1.drewN (1 + m1)) hb (.slice RA L rc) alg (run alg m) (.slice RA L rc) M.length (.slice RA L rc) (rest alg m) := W1.drewN (1 + m1)
   have hr2 : RO .u8 (w1.drewN (1 + m1)) A p (hP hb (.slice RA L rc)) := hr1.fr (Fr.drewN w1 (1 + m1) _)
   have hkl : (p.take k).length = k := by rw[List.length_take]; omega
   refine app_num W2.sl hkl (hr2.take k).rd (by omega) (by omega) fun v w3 a3 => ?_
   have W3 := W2.apd W2.hc.blk.lt a3
   have hr3 := hr2.fr (a3.fr.mono (Q := hP hb (.slice RA L rc)) fun b _ e => .inr e)
   obtain ⟨VA, vc, rfl, hvc, hVd, hVb⟩ := W3.sl.read
   have hvl : (rest alg m ++ p.take k).length = L + k := by rw[List.length_append,hkl,hL]
   rw[hvl] at hvc W3
   simp(disch:=omega)only[EZ,↓EP,↓reduceIte,Za,Zb,Zc,Zd,Ze,Zf,Zg,Zj,Zk,Zl,Zm,Zn,Zp,Zq,reduceCtorEq,W_join,hvl]
   intro m3
   refine (W3.drewN m3).hc.str fun w4 h4 f4 => ?_
   have W4 := (W3.drewN m3).hb_ hi h4 f4
   have hr4 := (hr3.fr (Fr.drewN w3 m3 _)).fr (f4.mono (Q := hP hb (.slice RA L rc)) fun b _ e => .inl e)
   clear W2 hr2 a3 W3 hr3 h4 f4 W1 hr1
   have hre4 := W4.hc.rest
   simp(disch:=omega)only[EZ,↓EP,↓reduceIte,Za,Zb,Zc,Zd,Ze,Zf,Zg,Zj,Zk,Zl,Zm,Zn,Zp,Zq,reduceCtorEq,W_join,hre4]
   intro m4
   have W5 := W4.drewN m4
   have hr5 := hr4.fr (Fr.drewN w4 m4 _)
   by_cases hfull : ((L + k : Nat) : Int) < (blockI alg : Int)
   ·rw[if_pos hfull]
    have hkp : k = p.length := by omega
    have hj : M.length / blockI alg = m.length / blockI alg := run_of ha1 ha4 (by omega) (by omega)
    have e1 : run alg M = run alg m := by rw[hrun,run,hj]
    have e2 : rest alg M = rest alg m ++ p.take k := by
     rw[rest,hj,← hMd,List.drop_append_of_le_length hd1,hkp,List.take_length]; rfl
    rw[← e1,← e2] at W5
    exact fin _ _ W5
   ·rw[if_neg hfull]
    have hLk : L + k = blockI alg := by omega
    have hpart : rest alg m ++ p.take k = part (blockI alg) M (m.length / blockI alg) := by
     rw[part,← hMd,List.drop_append_of_le_length hd1]
     have : (List.drop (m.length / blockI alg * blockI alg) m).length = L := by simp; omega
     rw[List.take_append, this, List.take_of_length_le (l := List.drop (m.length / blockI alg * blockI alg) m) (by rw [this]; omega), show blockI alg - L = k by omega]; rfl
    rw[hLk] at W5
    rw[hLk]
    refine block_spec W5.hc ha1 ha4 W5.tb W5.sl.rdOf (by rw[hvl,hLk]) _ fun w6 h6 f6 => ?_
    have W6 := (W5.hb_ hi h6 f6).out
    have hr6 := hr5.fr (f6.mono (Q := hP hb (.slice RA L rc)) fun b _ e => .inl e)
    simp(disch:=omega)only[EZ,↓EP,↓reduceIte,Za,Zb,Zc,Zd,Ze,Zf,Zg,Zj,Zk,Zl,Zm,Zn,Zp,Zq,reduceCtorEq]
    refine W6.hc.str fun w7 h7 f7 => ?_
    have W7 := W6.hb_ hi h7 f7
    have hr7 := hr6.fr (f7.mono (Q := hP hb (.slice RA L rc)) fun b _ e => .inl e)
    have hqs : (m.length / blockI alg + 1) * blockI alg = m.length / blockI alg * blockI alg + blockI alg := by rw[Nat.add_mul,Nat.one_mul]
    simp(disch:=omega)only[EZ,↓EP,↓reduceIte,Za,Zb,Zc,Zd,Ze,Zf,Zg,Zj,Zk,Zl,Zm,Zn,Zp,Zq,reduceCtorEq]
    refine hN _ _ ⟨m.length / blockI alg + 1, subA A c k 1, c - k, .slice none 0 0, ?_, by omega, by omega, ?_, ?_⟩
    ·simp(disch:=omega)only[EZ,↓EP,↓reduceIte,Za,Zb,Zc,Zd,Ze,Zf,Zg,Zj,Zk,Zl,Zm,Zn,Zp,Zq,reduceCtorEq,hk]
     have e3 : p.length - k = M.length - (m.length / blockI alg + 1) * blockI alg := by omega
     rw[e3]
    ·rw[runN_succ,← hrun,← hpart]; exact W7
    ·have e : M.drop ((m.length / blockI alg + 1) * blockI alg) = p.drop k := by
      rw[← hMd, hqs, show m.length / blockI alg * blockI alg + blockI alg = m.length + k by omega, List.drop_append]
      simp
     rw[e]
     exact hr7.subA c k hpc
 ·rintro ρ' w' hf ⟨j, A', c', X, hs1, hj1, hj2, W2, hr2⟩
  have q0 : ρ' 0 = .pointer (some ⟨hb, 0, none⟩) := by rw[hf 0 rfl]; simp only[↓EP,EQ,EM,↓reduceIte,Za,Zb,Zc,Zd,Ze,Zf,Zg,Zj,Zk,Zl,Zm,Zn,Zp,Zq,reduceCtorEq]
  have q5 : ρ' 5 = .int .i64 (blockI alg) := by rw[hf 5 rfl]; simp only[↓EP,EQ,EM,↓reduceIte,Za,Zb,Zc,Zd,Ze,Zf,Zg,Zj,Zk,Zl,Zm,Zn,Zp,Zq,reduceCtorEq]
  clear hf
  simp only[↓EP,EQ,EM,↓reduceIte,Za,Zb,Zc,Zd,Ze,Zf,Zg,Zj,Zk,Zl,Zm,Zn,Zp,Zq,reduceCtorEq]
  refine loop_inv (fun t ρ w' => ∃ (j : Nat) (A' : Option Addr) (c' : Nat), ρ 1 = .slice A' (M.length - j * blockI alg) c' ∧ j * blockI alg ≤ M.length ∧ M.length - j * blockI alg ≤ c' ∧ t = M.length - j * blockI alg ∧ Wr w w' hb (.slice RA L rc) alg (runN alg M j) X M.length X [] ∧ RO .u8 w' A' (M.drop (j * blockI alg)) (hP hb (.slice RA L rc))) _ ⟨j, A', c', hs1, hj1, hj2, rfl, W2, hr2⟩ ?_
  clear hs1 hj1 hj2 W2 hr2 w' A' c' j
  rintro t ρ2 w2 hf ⟨j, A', c', hs1, hj1, hj2, rfl, W2, hr2⟩ N hN
  have r0 : ρ2 0 = .pointer (some ⟨hb, 0, none⟩) := by rw[hf 0 rfl]; exact q0
  have r5 : ρ2 5 = .int .i64 (blockI alg) := by rw[hf 5 rfl]; exact q5
  clear hf
  have hj3 : ((M.length - j * blockI alg : Nat) : Int) = (M.length : Int) - (j * blockI alg : Nat) := by omega
  have hjs : (j + 1) * blockI alg = j * blockI alg + blockI alg := by rw[Nat.add_mul,Nat.one_mul]
  have hdl : (M.drop (j * blockI alg)).length = M.length - j * blockI alg := by simp
  generalize hR : M.length - j * blockI alg = R at *
  by_cases hge : (blockI alg : Int) ≤ (R : Int)
  ·simp(disch:=omega)only[EZ,↓EP,↓reduceIte,Za,Zb,Zc,Zd,Ze,Zf,Zg,Zj,Zk,Zl,Zm,Zn,Zp,Zq,reduceCtorEq,hs1,r0,r5]
   refine block_spec W2.hc ha1 ha4 W2.tb (p := part (blockI alg) M j) (hr2.take _).rd (by rw[part,List.length_take,hdl]; omega) _ fun w6 h6 f6 => ?_
   have W6 := W2.hb_ hi h6 f6
   have hr6 := hr2.fr (f6.mono (Q := hP hb (.slice RA L rc)) fun b _ e => .inl e)
   simp(disch:=omega)only[EZ,↓EP,↓reduceIte,Za,Zb,Zc,Zd,Ze,Zf,Zg,Zj,Zk,Zl,Zm,Zn,Zp,Zq,reduceCtorEq,hs1,r5]
   refine hN (M.length - (j + 1) * blockI alg) _ _ (by omega) ⟨j + 1, subA A' c' (blockI alg) 1, c' - blockI alg, ?_, by omega, by omega, rfl, ?_, ?_⟩
   ·simp(disch:=omega)only[EZ,↓EP,↓reduceIte,Za,Zb,Zc,Zd,Ze,Zf,Zg,Zj,Zk,Zl,Zm,Zn,Zp,Zq,reduceCtorEq,hs1,r5]
    have e3 : R - blockI alg = M.length - (j + 1) * blockI alg := by omega
    rw[e3]
   ·rw[runN_succ]; exact W6
   ·have := hr6.subA c' (blockI alg) (by omega)
    rwa [List.drop_drop, show j * blockI alg + blockI alg = (j + 1) * blockI alg by omega] at this
  ·have hjM : M.length / blockI alg = j := run_of ha1 ha4 hj1 (by omega)
   have e1 : run alg M = runN alg M j := by rw[run,hjM]
   have e2 : rest alg M = M.drop (j * blockI alg) := by rw[rest,hjM]
   rw[← e1] at W2
   rw[← e2] at hr2 hdl
   clear hN
   by_cases h0 : R = 0
   ·subst h0
    simp(disch:=omega)only[EZ,↓EP,↓reduceIte,Za,Zb,Zc,Zd,Ze,Zf,Zg,Zj,Zk,Zl,Zm,Zn,Zp,Zq,reduceCtorEq,W_join,hs1,r0,r5]
    refine fin X _ ?_
    rw[List.length_eq_zero_iff.1 hdl]
    exact W2
   ·simp(disch:=omega)only[EZ,↓EP,↓reduceIte,Za,Zb,Zc,Zd,Ze,Zf,Zg,Zj,Zk,Zl,Zm,Zn,Zp,Zq,reduceCtorEq,W_join,hs1,r0,r5]
    refine al_k (nums .u8 (List.replicate (blockI alg) 0)) (by rw[madeCells_list,nums_replicate]) fun w3 n3 => ?_
    have f3 := n3.fr nob
    have hnsl : Sl .u8 w3 (.slice (some ⟨w2.heap.size, 0, none⟩) 0 (blockI alg)) [] := .inr ⟨w2.heap.size, List.replicate (blockI alg) 0, by simp, by simpa using n3.blk⟩
    have W3 : Wr w w3 hb (.slice RA L rc) alg (run alg M) X M.length (.slice (some ⟨w2.heap.size, 0, none⟩) 0 (blockI alg)) [] :=
     ⟨W2.hc.fr f3 (fun x => x), hnsl, fun b e => by cases e; have z1 := W2.fr.size; have z2 := W2.tb.lt; have z3 := W2.hc.blk.lt; exact ⟨z2, by show w2.heap.size ≠ hb; omega, .inr z1⟩, W2.tb.fr f3 (fun x => x) (fun x => x), W2.fr.trans f3 fun b _ e => e.elim⟩
    have hr3 := hr2.fr (f3.mono (Q := hP hb (.slice RA L rc)) fun b _ e => e.elim)
    simp(disch:=omega)only[EZ,↓EP,↓reduceIte,Za,Zb,Zc,Zd,Ze,Zf,Zg,Zj,Zk,Zl,Zm,Zn,Zp,Zq,reduceCtorEq,hs1,r0,r5]
    refine app_num W3.sl hdl hr3.rd (by rw[List.length_nil]; omega) (by omega) fun v w4 a4 => ?_
    have W4 := W3.apd W3.hc.blk.lt a4
    rw[List.nil_append] at W4
    obtain ⟨VA, vc, rfl, hvc, hVd, hVb⟩ := W4.sl.read
    simp(disch:=omega)only[EZ,↓EP,↓reduceIte,Za,Zb,Zc,Zd,Ze,Zf,Zg,Zj,Zk,Zl,Zm,Zn,Zp,Zq,reduceCtorEq,hs1,r0,r5]
    refine W4.hc.str fun w5 h5 f5 => ?_
    simp(disch:=omega)only[EZ,↓EP,↓reduceIte,Za,Zb,Zc,Zd,Ze,Zf,Zg,Zj,Zk,Zl,Zm,Zn,Zp,Zq,reduceCtorEq,hs1,r0,r5]
    exact fin _ _ (W4.hb_ hi h5 f5)
end Go.Proofs.YtcgplgpdcfocpaaGreatDoor.Spec
end
section
namespace Go.Proofs.YtcgplgpdcfocpaaGreatDoor.Spec
open Go Go.RowKit Go.Proofs Go.Proofs.YtcgplgpdcfocpaaGreatDoor.Eng Go.Proofs.YtcgplgpdcfocpaaGreatDoor.Code
attribute [local irreducible] one
theorem fillH (a : Int) : fillL [(0, 1), (1, 8), (9, 8), (17, 1), (18, 1)] #[(.int .i64 0), (.int .u32 0), (.int .u32 0), (.int .u32 0), (.int .u32 0), (.int .u32 0), (.int .u32 0), (.int .u32 0), (.int .u32 0), (.int .u64 0), (.int .u64 0), (.int .u64 0), (.int .u64 0), (.int .u64 0), (.int .u64 0), (.int .u64 0), (.int .u64 0), (.slice none 0 0), (.int .i64 0)] [(0, .int .i64 a)] = some (hc a (zs 8) (zs 8) (.slice none 0 0) 0).toArray := by kernel_rfl
theorem fill5 (a0 a1 a2 a3 a4 : Int) : fillL [(0, 1), (1, 1), (2, 1), (3, 1), (4, 1), (5, 1), (6, 1), (7, 1)] (Array.replicate 8 (Value.int .u32 0)) [(0, .int .u32 a0), (1, .int .u32 a1), (2, .int .u32 a2), (3, .int .u32 a3), (4, .int .u32 a4)] = some (nums .u32 [a0, a1, a2, a3, a4, 0, 0, 0]).toArray := by kernel_rfl
theorem run_nil (alg : Int) : run alg [] = st0 alg := by
 unfold run; rw[List.length_nil,Nat.zero_div,runN,rounds]
theorem rest_nil (alg : Int) : rest alg [] = [] := by simp[rest]
theorem new_spec {w : World} (alg : Int) (hT : 4 < w.heap.size) (K : Value → World → Prop)
  (hK : 1 ≤ alg → alg ≤ 4 → ∀ w', w.heap.size < w'.heap.size → Hsh w' w.heap.size (.slice none 0 0) alg [] → Fr w w' nob → K (.tuple #[.pointer (some ⟨w.heap.size, 0, none⟩), .int .i64 0]) w')
  (hK' : (alg < 1 ∨ 4 < alg) → ∀ w', Fr w w' nob → K (.tuple #[.pointer none, .int .i64 1]) w') : callK Tryz.prog 70 [.int .i64 alg] w K := by
 refine call_of Tryz.func70 Code.h70 (by simp[Code.c70]) ?_
 simp only[Code.c70,↓EP,EQ,EM,↓reduceIte,Za,Zb,Zc,Zd,Ze,Zf,Zg,Zj,Zk,Zl,Zm,Zn,Zp,Zq,reduceCtorEq]
 refine ⟨_, fillH alg, ?_⟩
 simp only[↓EP,EQ,EM,↓reduceIte,Za,Zb,Zc,Zd,Ze,Zf,Zg,Zj,Zk,Zl,Zm,Zn,Zp,Zq,reduceCtorEq]
 refine al_k (hc alg (zs 8) (zs 8) (.slice none 0 0) 0) (by simp) fun w1 n1 => ?_
 have f1 := n1.fr nob
 have s1 := n1.size
 have H1 : HC w1 w.heap.size alg (zs 8) (zs 8) (.slice none 0 0) 0 := ⟨n1.blk, rfl, rfl⟩
 have fin : ∀ ws vs w', 1 ≤ alg → alg ≤ 4 → st0 alg = (ws, vs) → HC w' w.heap.size alg ws vs (.slice none 0 0) 0 → Fr w1 w' (fun b => b = w.heap.size) → K (.tuple #[.pointer (some ⟨w.heap.size, 0, none⟩), .int .i64 0]) w' := by
  intro ws vs w' a1 a4 e h f
  have hs := f.size
  refine hK a1 a4 w' (by omega) ⟨?_, a1, a4, ?_, hT, fun b e => by cases e⟩ (f1.trans f fun b hb e => ?_)
  ·rw[run_nil,e]; exact h
  ·rw[rest_nil]; exact Sl.nil _ _
  ·omega
 have c : alg = 1 ∨ alg = 2 ∨ alg = 3 ∨ alg = 4 ∨ (alg < 1 ∨ 4 < alg) := by omega
 rcases c with rfl | rfl | rfl | rfl | c
 ·simp only[↓EP,EQ,EM,↓reduceIte,Za,Zb,Zc,Zd,Ze,Zf,Zg,Zj,Zk,Zl,Zm,Zn,Zp,Zq,reduceCtorEq,W_join]
  refine ⟨_, fill5 _ _ _ _ _, ?_⟩
  simp only[↓EP,EQ,EM,↓reduceIte,Za,Zb,Zc,Zd,Ze,Zf,Zg,Zj,Zk,Zl,Zm,Zn,Zp,Zq,reduceCtorEq]
  refine H1.stw rfl fun w2 h2 f2 => ?_
  simp only[↓EP,EQ,EM,↓reduceIte,Za,Zb,Zc,Zd,Ze,Zf,Zg,Zj,Zk,Zl,Zm,Zn,Zp,Zq,reduceCtorEq]
  exact fin _ _ _ (by omega) (by omega) rfl h2 f2
 ·simp only[↓EP,EQ,EM,↓reduceIte,Za,Zb,Zc,Zd,Ze,Zf,Zg,Zj,Zk,Zl,Zm,Zn,Zp,Zq,reduceCtorEq,W_join]
  refine ⟨_, fill8 _ _ _ _ _ _ _ _ _, ?_⟩
  simp only[↓EP,EQ,EM,↓reduceIte,Za,Zb,Zc,Zd,Ze,Zf,Zg,Zj,Zk,Zl,Zm,Zn,Zp,Zq,reduceCtorEq]
  refine H1.stw rfl fun w2 h2 f2 => ?_
  simp only[↓EP,EQ,EM,↓reduceIte,Za,Zb,Zc,Zd,Ze,Zf,Zg,Zj,Zk,Zl,Zm,Zn,Zp,Zq,reduceCtorEq]
  exact fin _ _ _ (by omega) (by omega) rfl h2 f2
 ·simp only[↓EP,EQ,EM,↓reduceIte,Za,Zb,Zc,Zd,Ze,Zf,Zg,Zj,Zk,Zl,Zm,Zn,Zp,Zq,reduceCtorEq,W_join]
  refine ⟨_, fill8 _ _ _ _ _ _ _ _ _, ?_⟩
  simp only[↓EP,EQ,EM,↓reduceIte,Za,Zb,Zc,Zd,Ze,Zf,Zg,Zj,Zk,Zl,Zm,Zn,Zp,Zq,reduceCtorEq]
  refine H1.stv rfl fun w2 h2 f2 => ?_
  simp only[↓EP,EQ,EM,↓reduceIte,Za,Zb,Zc,Zd,Ze,Zf,Zg,Zj,Zk,Zl,Zm,Zn,Zp,Zq,reduceCtorEq]
  exact fin _ _ _ (by omega) (by omega) rfl h2 f2
 ·simp only[↓EP,EQ,EM,↓reduceIte,Za,Zb,Zc,Zd,Ze,Zf,Zg,Zj,Zk,Zl,Zm,Zn,Zp,Zq,reduceCtorEq,W_join]
  refine ⟨_, fill8 _ _ _ _ _ _ _ _ _, ?_⟩
  simp only[↓EP,EQ,EM,↓reduceIte,Za,Zb,Zc,Zd,Ze,Zf,Zg,Zj,Zk,Zl,Zm,Zn,Zp,Zq,reduceCtorEq]
  refine H1.stv rfl fun w2 h2 f2 => ?_
  simp only[↓EP,EQ,EM,↓reduceIte,Za,Zb,Zc,Zd,Ze,Zf,Zg,Zj,Zk,Zl,Zm,Zn,Zp,Zq,reduceCtorEq]
  exact fin _ _ _ (by omega) (by omega) rfl h2 f2
 ·simp(disch:=omega)only[EZ,↓EP,↓reduceIte,Za,Zb,Zc,Zd,Ze,Zf,Zg,Zj,Zk,Zl,Zm,Zn,Zp,Zq,reduceCtorEq,W_join]
  exact hK' c _ f1
end Go.Proofs.YtcgplgpdcfocpaaGreatDoor.Spec
end
