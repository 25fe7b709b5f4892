/- RsaTurned: what is used, in one text. -/
import Derived.Laws.RangeString
import Derived.Test.YtcgplgpdcfocpaaGreatDoorRsaTurnedr4
set_option linter.unusedVariables false
set_option linter.unusedSimpArgs false
set_option maxRecDepth 100000
open Int renaming reduceAdd → Za, reduceEq → Zb, reduceLE → Zc, reduceLT → Zd, reduceMul → Ze, reduceNeg → Zf, reducePow → Zg, reduceSub → Zj, reduceToNat → Zk
open Nat renaming reduceAdd → Zl, reduceEqDiff → Zm, reduceLT → Zn, reduceLeDiff → Zp, reduceMul → Zq
section
namespace Go.Proofs.YtcgplgpdcfocpaaGreatDoor.Der
open Go Go.RowKit Go.Proofs Go.Proofs.YtcgplgpdcfocpaaGreatDoor.Eng Go.Proofs.YtcgplgpdcfocpaaGreatDoor.Code
attribute [local irreducible] callK S.W opsW scrW scrT
def ints (u : List UInt8) : List Int := u.map fun b => (b.toNat : Int)
theorem ints_len (u : List UInt8) : (ints u).length = u.length := by simp[ints]
theorem ints_at {u : List UInt8} {i : Nat} (h : i < u.length) : at' (ints u) (i : Int) = ((u[i]).toNat : Int) := by
 rw[atN,List.getD_eq_getElem?_getD,ints,List.getElem?_map,List.getElem?_eq_getElem h]; rfl
theorem ints_byte (u : List UInt8) : ByteL (ints u) := ByteL.of fun x hx => by
 unfold ints at hx
 rw[List.mem_map] at hx
 obtain ⟨b, _, rfl⟩ := hx
 have := b.toNat_lt
 omega
theorem S_get {u : List UInt8} {i : Nat} (h : i < (S u).size) : (S u)[i]'h = u[i]'(by rwa [S_size] at h) := by
 simp[S,ByteArray.getElem_eq_getElem_data]
theorem dec_low {u : List UInt8} {i : Nat} (h : i < u.length) (ha : (u[i]).toNat < 128) : Utf8.decode (S u) i = ((u[i]).toNat, 1) := by
 have h' : i < (S u).size := by rwa [S_size]
 rw[decode_ascii (S u) i h' (by rw [S_get]; exact ha),S_get]
theorem dec_high {u : List UInt8} {i : Nat} (h : i < u.length) (ha : 128 ≤ (u[i]).toNat) : 128 ≤ (Utf8.decode (S u) i).1 := by
 have h' : i < (S u).size := by rwa [S_size]
 have e : (S u).get! (i + 0) = u[i] := by
  refine Eq.trans ?_ (S_get h')
  show (S u).get! i = _
  simp[ByteArray.get!,getElem!_pos,h']
  rfl
 unfold Utf8.decode
 simp only[e, show ¬ (u[i]).toNat < 128 by omega, if_false]
 split
 ·split
  ·assumption
  ·decide
 ·split
  ·split
   ·rename_i hh
    simp at hh
    simp only
    omega
   ·decide
  ·split
   ·split
    ·rename_i hh
     simp at hh
     simp only
     omega
    ·decide
   ·decide
theorem fr_it (w : World) (ib : Nat) (o : Obj) : Fr w { w with heap := w.heap.setIfInBounds ib o } (fun b => b = ib) :=
 ⟨⟨rfl, rfl, rfl, by simp, fun k hk => by omega⟩, fun b _ hb => by
   show (w.heap.setIfInBounds ib o)[b]? = w.heap[b]?
   rw[Array.getElem?_setIfInBounds_ne (fun e => hb e.symm)]⟩
theorem nxs_k {w : World} {ib pos c k : Nat} {s : ByteArray} {K : Value → World → Prop} {t : Eng.Tok K} (h : w.heap[ib]? = some (.stringIter s pos)) (hp : pos < s.size) (hd : Utf8.decode s pos = (c, k))
  (hK : ∀ w', Fr w w' (fun b => b = ib) → w'.heap[ib]? = some (.stringIter s (pos + k)) → K (.tuple #[.bool true, .int .i64 pos, .int .i32 c]) w') : nxsT ⟨ib, 0, none⟩ w K t := by
 refine ⟨rfl, s, pos, h, fun _ => ?_, fun h' => by omega⟩
 rw[hd]
 refine hK _ (fr_it w ib _) ?_
 have hib := (Array.getElem?_eq_some_iff.1 h).1
 show (w.heap.setIfInBounds ib _)[ib]? = _
 rw[Array.getElem?_setIfInBounds_self_of_lt hib]
theorem nxs_end {w : World} {ib pos : Nat} {s : ByteArray} {K : Value → World → Prop} {t : Eng.Tok K} (h : w.heap[ib]? = some (.stringIter s pos)) (hp : s.size ≤ pos)
  (hK : K (.tuple #[.bool false]) w) : nxsT ⟨ib, 0, none⟩ w K t := ⟨rfl, s, pos, h, fun h' => by omega, fun _ => hK⟩
theorem it_heap (w : World) (o : Obj) : (w.alloc o).heap = w.heap.push o := rfl
theorem it_fr (w : World) (o : Obj) : Fr w (w.alloc o) nob := by
 refine ⟨⟨rfl, rfl, rfl, ?_, fun k hk => by omega⟩, fun b hb _ => ?_⟩
 ·rw[it_heap,Array.size_push]; omega
 ·rw[it_heap,Array.getElem?_push_lt hb,Array.getElem?_eq_getElem hb]
theorem it_lt (w : World) (o : Obj) : w.heap.size < (w.alloc o).heap.size := by rw[it_heap,Array.size_push]; omega
theorem rgs_k {w : World} {s : ByteArray} {K : Value → World → Prop} {t : Eng.Tok K} (hK : ∀ w', Fr w w' nob → w'.heap[w.heap.size]? = some (.stringIter s 0) → w.heap.size < w'.heap.size → K (.pointer (some ⟨w.heap.size, 0, none⟩)) w') : rgsT s w K t :=
 hK _ (it_fr w _) (World.iter_heap w s 0) (it_lt w _)
theorem pos_cellsK {k : IntKind} {w : World} {A : Option Addr} {l : List Int} (hr : Rd w A (nums k l)) (h0 : 0 < l.length) : ∃ ad, A = some ad ∧ ∀ i : Nat, i < l.length → w.cell? (ad.add i) = some (.int k (at' l (i : Int))) := by
 obtain ⟨ad, e, _, hcl⟩ := hr.get (by rw[nums_length]; omega)
 exact ⟨ad, e, fun i hi => hcl.numN hi⟩
def prb (v : Value) (b : Bool) : Value := .tuple #[v, .bool b]
set_option maxHeartbeats 2000000 in
theorem arcs_vw {w : World} {u : List UInt8} (hm : u.length ≤ 1073741824) (K : Value → World → Prop)
  (hK : ∀ v' w', Gw .u64 w w' v' ((arcsR (ints u)).getD []) → K (prb v' (arcsR (ints u)).isSome) w') : callK Tryz.prog 101 [.string (S u)] w K := by
 refine call_of Tryz.func101 Code.h101 (by simp[Code.c101]) ?_
 have htl : (u ++ [46]).length = u.length + 1 := by simp
 have hti : ints (u ++ [46]) = ints u ++ [46] := by simp[ints]
 unfold arcsR at hK
 rw[← hti] at hK
 simp(disch:=omega)only[Zu,Zv,Zx,Zz,EZ,↓EP,↓reduceIte,Za,Zb,Zc,Zd,Ze,Zf,Zg,Zj,Zk,Zl,Zm,Zn,Zp,Zq,reduceCtorEq,Code.c101,b_sadd,← S_dot,S_append,S_size,List.length_cons,List.length_nil]
 refine rgs_k fun w1 f1 hit hlt => ?_
 generalize hib : w.heap.size = ib at hit hlt
 generalize hT : u ++ [46] = T at hK htl hit
 simp(disch:=omega)only[Zu,Zv,Zx,Zz,EZ,↓EP,↓reduceIte,Za,Zb,Zc,Zd,Ze,Zf,Zg,Zj,Zk,Zl,Zm,Zn,Zp,Zq,reduceCtorEq]
 refine loop_inv (fun t ρ w2 => ∃ (pos : Nat) (l : List Int) (v : Int) (n : Nat) (X : Value), w2.heap[ib]? = some (.stringIter (S T) pos) ∧ ρ 4 = X ∧ ρ 5 = .int .u64 v ∧ ρ 6 = .int .i64 n ∧ pos ≤ T.length ∧ t = T.length - pos ∧ 0 ≤ v ∧ v ≤ 1099511627776 ∧ n ≤ 20 ∧ l.length ≤ pos ∧ Gw .u64 w w2 X l ∧ (∀ b, blkOf X = some b → b ≠ ib) ∧ (∀ x ∈ l, 0 ≤ x ∧ x ≤ 1099511627776) ∧ arcsGo ((ints T).drop pos) l v n = arcsGo (ints T) [] 0 0) T.length ⟨0, [], 0, 0, _, hit, by simp(disch:=omega)only[Zu,Zv,Zx,Zz,EZ,↓EP,↓reduceIte,Za,Zb,Zc,Zd,Ze,Zf,Zg,Zj,Zk,Zl,Zm,Zn,Zp,Zq,reduceCtorEq], by simp(disch:=omega)only[Zu,Zv,Zx,Zz,EZ,↓EP,↓reduceIte,Za,Zb,Zc,Zd,Ze,Zf,Zg,Zj,Zk,Zl,Zm,Zn,Zp,Zq,reduceCtorEq], by simp(disch:=omega)only[Zu,Zv,Zx,Zz,EZ,↓EP,↓reduceIte,Za,Zb,Zc,Zd,Ze,Zf,Zg,Zj,Zk,Zl,Zm,Zn,Zp,Zq,reduceCtorEq], by omega, by omega, by omega, by omega, by omega, by simp, (Gw.nil .u64 w).step f1, fun b e => (by cases e), by simp, rfl⟩ ?_
 rintro t ρ w2 hf ⟨pos, l, v, n, X, hit2, h4, h5, h6, hp, rfl, hv, hv', hn, hll, g, hX, hlm, hgo⟩ N hN
 have r11 : ρ 11 = .pointer (some ⟨ib, 0, none⟩) := by rw[hf 11 rfl]; simp(disch:=omega)only[Zu,Zv,Zx,Zz,EZ,↓EP,↓reduceIte,Za,Zb,Zc,Zd,Ze,Zf,Zg,Zj,Zk,Zl,Zm,Zn,Zp,Zq,reduceCtorEq]
 clear hf
 have hlt2 : ib < w2.heap.size := (Array.getElem?_eq_some_iff.1 hit2).1
 by_cases hpl : pos < T.length
 ·have htp := ints_at hpl
  rw[drop_at (show pos < (ints T).length by rw [ints_len]; exact hpl), arcsGo, htp] at hgo
  have hcb := (T[pos]).toNat_lt
  by_cases hc : (T[pos]).toNat < 128
  ·have hd := dec_low hpl hc
   generalize (T[pos]).toNat = c at *
   simp(disch:=omega)only[Zu,Zv,Zx,Zz,EZ,↓EP,↓reduceIte,Za,Zb,Zc,Zd,Ze,Zf,Zg,Zj,Zk,Zl,Zm,Zn,Zp,Zq,reduceCtorEq,r11]
   refine nxs_k hit2 (by rw[S_size]; exact hpl) hd fun w3 f3 hit3 => ?_
   have g3 := g.other f3 hX (fun b hb => by omega)
   by_cases h46 : c = 46 ∧ 0 < n
   ·rw[if_pos ⟨by omega,h46.2⟩] at hgo
    have h6' : (0 : Int) < (n : Int) := by omega
    rw[h46.1]
    simp(disch:=omega)only[Zu,Zv,Zx,Zz,EZ,↓EP,↓reduceIte,Za,Zb,Zc,Zd,Ze,Zf,Zg,Zj,Zk,Zl,Zm,Zn,Zp,Zq,reduceCtorEq,W_join,h4,h5,h6]
    refine bsl1 fun w4 n4 => ?_
    have g4 := g3.new n4
    simp(disch:=omega)only[Zu,Zv,Zx,Zz,EZ,↓EP,↓reduceIte,Za,Zb,Zc,Zd,Ze,Zf,Zg,Zj,Zk,Zl,Zm,Zn,Zp,Zq,reduceCtorEq,W_join,h4,h5,h6]
    refine app_num g4.sl rfl n4.rdv (by simp; omega) (by omega) fun v5 w5 a5 => ?_
    have g5 := g4.apd a5
    have hit5 : w5.heap[ib]? = some (.stringIter (S T) (pos + 1)) := by
     have b3 : ib < w3.heap.size := Nat.lt_of_lt_of_le hlt2 f3.size
     rw[a5.fr.block ib (Nat.lt_of_lt_of_le b3 (n4.fr nob).size) (fun e => hX ib e rfl), (n4.fr nob).block ib b3 (fun e => e)]
     exact hit3
    simp(disch:=omega)only[Zu,Zv,Zx,Zz,EZ,↓EP,↓reduceIte,Za,Zb,Zc,Zd,Ze,Zf,Zg,Zj,Zk,Zl,Zm,Zn,Zp,Zq,reduceCtorEq,W_join,h4,h5,h6]
    refine hN (T.length - (pos + 1)) _ _ (by omega) ⟨pos + 1, l ++ [v], 0, 0, v5, hit5, by simp(disch:=omega)only[Zu,Zv,Zx,Zz,EZ,↓EP,↓reduceIte,Za,Zb,Zc,Zd,Ze,Zf,Zg,Zj,Zk,Zl,Zm,Zn,Zp,Zq,reduceCtorEq], by simp(disch:=omega)only[Zu,Zv,Zx,Zz,EZ,↓EP,↓reduceIte,Za,Zb,Zc,Zd,Ze,Zf,Zg,Zj,Zk,Zl,Zm,Zn,Zp,Zq,reduceCtorEq], by simp(disch:=omega)only[Zu,Zv,Zx,Zz,EZ,↓EP,↓reduceIte,Za,Zb,Zc,Zd,Ze,Zf,Zg,Zj,Zk,Zl,Zm,Zn,Zp,Zq,reduceCtorEq], by omega, rfl, by omega, by omega, by omega, by simp; omega, g5, fun b e => ?_, ?_, hgo⟩
    ·rcases a5.where_ with hw | hw
     ·exact hX b (hw ▸ e)
     ·have := hw b e
      have := (n4.fr nob).size
      have := f3.size
      omega
    ·intro x hx
     rw[List.mem_append] at hx
     rcases hx with hx | hx
     ·exact hlm x hx
     ·simp at hx; omega
   ·rw[if_neg (fun h => h46 ⟨by omega, h.2⟩)] at hgo
    by_cases hbad : (c : Int) < 48 ∨ 57 < (c : Int) ∨ (n = 1 ∧ v = 0)
    ·rw[if_pos hbad] at hgo
     rw[← hgo] at hK
     have fin := hK _ w3 ((Gw.nil .u64 w).step g3.fr)
     by_cases hc46 : c = 46
     ·have hn0 : n = 0 := by
       apply Nat.eq_zero_of_not_pos
       exact fun h => h46 ⟨hc46, h⟩
      subst hn0
      rw[hc46]
      simp(disch:=omega)only[Zu,Zv,Zx,Zz,EZ,↓EP,↓reduceIte,Za,Zb,Zc,Zd,Ze,Zf,Zg,Zj,Zk,Zl,Zm,Zn,Zp,Zq,reduceCtorEq,W_join,h4,h5,h6,Int.natCast_zero]
      exact fin
     ·have hc46' : ((c : Int) = 46) = False := eq_false (by omega)
      by_cases h1 : (c : Int) < 48
      ·simp(disch:=omega)only[Zu,Zv,Zx,Zz,EZ,↓EP,↓reduceIte,Za,Zb,Zc,Zd,Ze,Zf,Zg,Zj,Zk,Zl,Zm,Zn,Zp,Zq,reduceCtorEq,W_join,h4,h5,h6,hc46']
       exact fin
      ·by_cases h2 : 57 < (c : Int)
       ·simp(disch:=omega)only[Zu,Zv,Zx,Zz,EZ,↓EP,↓reduceIte,Za,Zb,Zc,Zd,Ze,Zf,Zg,Zj,Zk,Zl,Zm,Zn,Zp,Zq,reduceCtorEq,W_join,h4,h5,h6,hc46']
        exact fin
       ·have h3 : n = 1 ∧ v = 0 := by omega
        rw[h3.1] at h6
        rw[h3.2] at h5
        simp(disch:=omega)only[Zu,Zv,Zx,Zz,EZ,↓EP,↓reduceIte,Za,Zb,Zc,Zd,Ze,Zf,Zg,Zj,Zk,Zl,Zm,Zn,Zp,Zq,reduceCtorEq,W_join,h4,h5,h6,hc46',Int.natCast_one]
        exact fin
    ·rw[if_neg hbad] at hgo
     have hc46' : ((c : Int) = 46) = False := eq_false (by omega)
     have hw1 : IntKind.i32.wrap ((c : Int) - 48) = (c : Int) - 48 := by
      unfold IntKind.wrap IntKind.bits IntKind.signed
      simp only[Bool.true_and,decide_eq_true_eq]
      split <;> omega
     have hw2 : IntKind.u64.wrap ((c : Int) - 48) = (c : Int) - 48 := Zu (by omega) (by omega)
     have hst : (if 1099511627776 < 10 * v + ((c : Int) - 48) then (1099511627776 : Int) else 10 * v + ((c : Int) - 48)) = satA (10 * v + ((c : Int) - 48)) := rfl
     have sb := satA_bd (v := 10 * v + ((c : Int) - 48)) (by omega)
     have hmn : (if 20 < (n : Int) + 1 then (20 : Int) else (n : Int) + 1) = ((min (n + 1) 20 : Nat) : Int) := by split <;> omega
     by_cases h1 : n = 1
     ·have hv0 : (v = 0) = False := eq_false (fun h => hbad (.inr (.inr ⟨h1, h⟩)))
      rw[h1] at h6
      subst h1
      simp(disch:=omega)only[Zu,Zv,Zx,Zz,EZ,↓EP,↓reduceIte,Za,Zb,Zc,Zd,Ze,Zf,Zg,Zj,Zk,Zl,Zm,Zn,Zp,Zq,reduceCtorEq,W_join,h4,h5,h6,hc46',hw1,hw2,hv0,Int.natCast_one]
      exact hN (T.length - (pos + 1)) _ _ (by omega) ⟨pos + 1, l, _, _, X, hit3, by simp(disch:=omega)only[Zu,Zv,Zx,Zz,EZ,↓EP,↓reduceIte,Za,Zb,Zc,Zd,Ze,Zf,Zg,Zj,Zk,Zl,Zm,Zn,Zp,Zq,reduceCtorEq,h4], by simp(disch:=omega)only[Zu,Zv,Zx,Zz,EZ,↓EP,↓reduceIte,Za,Zb,Zc,Zd,Ze,Zf,Zg,Zj,Zk,Zl,Zm,Zn,Zp,Zq,reduceCtorEq,hw1,hw2,hst], by simp(disch:=omega)only[Zu,Zv,Zx,Zz,EZ,↓EP,↓reduceIte,Za,Zb,Zc,Zd,Ze,Zf,Zg,Zj,Zk,Zl,Zm,Zn,Zp,Zq,reduceCtorEq], by omega, rfl, sb.1, sb.2, by omega, by omega, g3, hX, hlm, hgo⟩
     ·have h1' : ((n : Int) = 1) = False := eq_false (by omega)
      simp(disch:=omega)only[Zu,Zv,Zx,Zz,EZ,↓EP,↓reduceIte,Za,Zb,Zc,Zd,Ze,Zf,Zg,Zj,Zk,Zl,Zm,Zn,Zp,Zq,reduceCtorEq,W_join,h4,h5,h6,hc46',hw1,hw2,h1']
      exact hN (T.length - (pos + 1)) _ _ (by omega) ⟨pos + 1, l, _, _, X, hit3, by simp(disch:=omega)only[Zu,Zv,Zx,Zz,EZ,↓EP,↓reduceIte,Za,Zb,Zc,Zd,Ze,Zf,Zg,Zj,Zk,Zl,Zm,Zn,Zp,Zq,reduceCtorEq,h4], by simp(disch:=omega)only[Zu,Zv,Zx,Zz,EZ,↓EP,↓reduceIte,Za,Zb,Zc,Zd,Ze,Zf,Zg,Zj,Zk,Zl,Zm,Zn,Zp,Zq,reduceCtorEq,hw1,hw2,hst], by simp(disch:=omega)only[Zu,Zv,Zx,Zz,EZ,↓EP,↓reduceIte,Za,Zb,Zc,Zd,Ze,Zf,Zg,Zj,Zk,Zl,Zm,Zn,Zp,Zq,reduceCtorEq,hmn], by omega, rfl, sb.1, sb.2, by omega, by omega, g3, hX, hlm, hgo⟩
  ·have hh := dec_high hpl (by omega)
   rw[if_neg (fun h => by omega), if_pos (.inr (.inl (by omega)))] at hgo
   rw[← hgo] at hK
   obtain ⟨C, k, hd⟩ : ∃ C k, Utf8.decode (S T) pos = (C, k) := ⟨_, _, rfl⟩
   rw[hd] at hh
   simp only at hh
   simp(disch:=omega)only[Zu,Zv,Zx,Zz,EZ,↓EP,↓reduceIte,Za,Zb,Zc,Zd,Ze,Zf,Zg,Zj,Zk,Zl,Zm,Zn,Zp,Zq,reduceCtorEq,r11]
   refine nxs_k hit2 (by rw[S_size]; exact hpl) hd fun w3 f3 hit3 => ?_
   have g3 := g.other f3 hX (fun b hb => by omega)
   have fin := hK _ w3 ((Gw.nil .u64 w).step g3.fr)
   have hc46' : ((C : Int) = 46) = False := eq_false (by omega)
   simp(disch:=omega)only[Zu,Zv,Zx,Zz,EZ,↓EP,↓reduceIte,Za,Zb,Zc,Zd,Ze,Zf,Zg,Zj,Zk,Zl,Zm,Zn,Zp,Zq,reduceCtorEq,W_join,h4,h5,h6,hc46']
   exact fin
 ·have hpe : pos = T.length := by omega
  rw[hpe, show T.length = (ints T).length by rw [ints_len], List.drop_length, arcsGo] at hgo
  rw[← hgo] at hK
  simp only at hK
  clear hN hgo
  simp(disch:=omega)only[Zu,Zv,Zx,Zz,EZ,↓EP,↓reduceIte,Za,Zb,Zc,Zd,Ze,Zf,Zg,Zj,Zk,Zl,Zm,Zn,Zp,Zq,reduceCtorEq,r11]
  refine nxs_end hit2 (by rw[S_size]; omega) ?_
  have nil2 := (Gw.nil .u64 w).step g.fr
  obtain ⟨XA, xc, rfl, hxc, hXr⟩ := readn g.sl rfl
  by_cases hl2 : l.length < 2
  ·rw[if_pos (.inl hl2)] at hK
   simp(disch:=omega)only[Zu,Zv,Zx,Zz,EZ,↓EP,↓reduceIte,Za,Zb,Zc,Zd,Ze,Zf,Zg,Zj,Zk,Zl,Zm,Zn,Zp,Zq,reduceCtorEq,W_join,h4]
   exact hK _ w2 nil2
  obtain ⟨xa, rfl, cell⟩ := pos_cellsK hXr (by omega)
  have c0 := cell 0 (by omega)
  have c1 := cell 1 (by omega)
  rw[show ((0 : Nat) : Int) = 0 by rfl] at c0
  rw[show ((1 : Nat) : Int) = 1 by rfl] at c1
  by_cases h2 : 2 < at' l 0
  ·rw[if_pos (.inr (.inl h2))] at hK
   simp(disch:=omega)only[Zu,Zv,Zx,Zz,EZ,↓EP,↓reduceIte,Za,Zb,Zc,Zd,Ze,Zf,Zg,Zj,Zk,Zl,Zm,Zn,Zp,Zq,reduceCtorEq,W_join,h4,c0,c1]
   exact hK _ w2 nil2
  by_cases h3 : at' l 0 < 2
  ·by_cases h40 : 40 ≤ at' l 1
   ·rw[if_pos (.inr (.inr ⟨h3,h40⟩))] at hK
    simp(disch:=omega)only[Zu,Zv,Zx,Zz,EZ,↓EP,↓reduceIte,Za,Zb,Zc,Zd,Ze,Zf,Zg,Zj,Zk,Zl,Zm,Zn,Zp,Zq,reduceCtorEq,W_join,h4,c0,c1]
    exact hK _ w2 nil2
   ·rw[if_neg (fun h => by rcases h with h | h | h; exact hl2 h; exact h2 h; exact h40 h.2)] at hK
    simp(disch:=omega)only[Zu,Zv,Zx,Zz,EZ,↓EP,↓reduceIte,Za,Zb,Zc,Zd,Ze,Zf,Zg,Zj,Zk,Zl,Zm,Zn,Zp,Zq,reduceCtorEq,W_join,h4,c0,c1]
    exact hK _ w2 g
  ·rw[if_neg (fun h => by rcases h with h | h | h; exact hl2 h; exact h2 h; exact h3 h.1)] at hK
   simp(disch:=omega)only[Zu,Zv,Zx,Zz,EZ,↓EP,↓reduceIte,Za,Zb,Zc,Zd,Ze,Zf,Zg,Zj,Zk,Zl,Zm,Zn,Zp,Zq,reduceCtorEq,W_join,h4,c0,c1]
   exact hK _ w2 g
end Go.Proofs.YtcgplgpdcfocpaaGreatDoor.Der
end
section
namespace Go.Proofs.YtcgplgpdcfocpaaGreatDoor.Der
open Go Go.RowKit Go.Proofs Go.Proofs.YtcgplgpdcfocpaaGreatDoor.Eng Go.Proofs.YtcgplgpdcfocpaaGreatDoor.Code
attribute [local irreducible] callK S.W opsW scrW scrT
theorem arcsGo_bd : ∀ (s l : List Int) (v : Int) (n : Nat) (r : List Int), arcsGo s l v n = some r → 0 ≤ v → v ≤ 1099511627776 → (∀ x ∈ l, 0 ≤ x ∧ x ≤ 1099511627776) →
  (∀ x ∈ r, 0 ≤ x ∧ x ≤ 1099511627776) ∧ r.length ≤ l.length + s.length
 | [], l, v, n, r, h, h1, h2, h3 => by
  simp only[arcsGo,Option.some.injEq] at h
  subst h
  exact ⟨h3, by simp⟩
 | c :: s, l, v, n, r, h, h1, h2, h3 => by
  rw[arcsGo] at h
  split at h
  ·have := arcsGo_bd s _ _ _ r h (by omega) (by omega) (fun x hx => by
    rw[List.mem_append] at hx
    rcases hx with hx | hx
    ·exact h3 x hx
    ·simp at hx; omega)
   refine ⟨this.1, ?_⟩
   have h4 := this.2
   simp at h4 ⊢; omega
  ·split at h
   ·simp at h
   ·rename_i h5
    have sb := satA_bd (v := 10 * v + (c - 48)) (by omega)
    have := arcsGo_bd s _ _ _ r h sb.1 sb.2 h3
    refine ⟨this.1, ?_⟩
    have h4 := this.2
    simp at h4 ⊢; omega
theorem arcs_bd {s l : List Int} (h : arcsR s = some l) : (∀ x ∈ l, 0 ≤ x ∧ x ≤ 1099511627776) ∧ l.length ≤ s.length + 1 ∧ 2 ≤ l.length ∧ at' l 0 ≤ 2 := by
 unfold arcsR at h
 cases hh : arcsGo (s ++ [46]) [] 0 0 with
 | none => rw[hh] at h; simp at h
 | some r =>
  rw[hh] at h
  simp only at h
  split at h
  ·simp at h
  ·rename_i h1
   simp only[Option.some.injEq] at h
   subst h
   have := arcsGo_bd _ _ _ _ _ hh (by omega) (by omega) (by simp)
   refine ⟨this.1, ?_, ?_, ?_⟩
   ·have h2 := this.2
    simp at h2; omega
   ·apply Nat.le_of_not_lt; exact fun h => h1 (.inl h)
   ·apply Int.le_of_not_gt; exact fun h => h1 (.inr (.inl h))
theorem at_mem {l : List Int} {i : Nat} (h : i < l.length) : at' l (i : Int) ∈ l := by
 rw[atN,List.getD_eq_getElem?_getD,List.getElem?_eq_getElem h]
 exact List.getElem_mem h
def sevens (l : List Int) : List Int := l.flatMap fun v => sevenR v.toNat
theorem sevens_snoc (l : List Int) (x : Int) : sevens (l ++ [x]) = sevens l ++ sevenR x.toNat := by simp[sevens]
set_option maxHeartbeats 2000000 in
theorem putoid_vw {w : World} {u : List UInt8} (hm : u.length ≤ 1073741824) (K : Value → World → Prop)
  (hK : ∀ v' w', Gw .u8 w w' v' (putOidR (ints u)).1 → K (pr2 v' (putOidR (ints u)).2) w') : callK Tryz.prog 75 [.string (S u)] w K := by
 refine call_of Tryz.func75 Code.h75 (by simp[Code.c75]) ?_
 simp(disch:=omega)only[Zu,Zv,Zx,Zz,EZ,↓EP,↓reduceIte,Za,Zb,Zc,Zd,Ze,Zf,Zg,Zj,Zk,Zl,Zm,Zn,Zp,Zq,reduceCtorEq,Code.c75]
 refine arcs_vw hm _ fun v1 w1 g1 => ?_
 simp only[prb]
 unfold putOidR at hK
 cases hl : arcsR (ints u) with
 | none =>
  rw[hl] at hK g1
  simp only[Option.isSome_none] at hK ⊢
  simp(disch:=omega)only[Zu,Zv,Zx,Zz,EZ,↓EP,↓reduceIte,Za,Zb,Zc,Zd,Ze,Zf,Zg,Zj,Zk,Zl,Zm,Zn,Zp,Zq,reduceCtorEq,Bool.not_false]
  exact hK _ w1 ((Gw.nil .u8 w).step g1.fr)
 | some l =>
 rw[hl] at hK g1
 simp only[Option.isSome_some,Option.getD_some] at hK g1 ⊢
 obtain ⟨hbd, hll, h2, h02⟩ := arcs_bd hl
 rw[ints_len] at hll
 obtain ⟨A, c, rfl, hc, hr⟩ := readn g1.sl rfl
 obtain ⟨ad, rfl, cell⟩ := pos_cellsK hr (by omega)
 simp(disch:=omega)only[Zu,Zv,Zx,Zz,EZ,↓EP,↓reduceIte,Za,Zb,Zc,Zd,Ze,Zf,Zg,Zj,Zk,Zl,Zm,Zn,Zp,Zq,reduceCtorEq,Bool.not_true]
 refine loop_inv (fun t ρ w' => w' = w1 ∧ ∃ i : Nat, ρ 20 = .int .i64 i ∧ i ≤ l.length ∧ t = l.length - i ∧ (l.drop i).any (fun v => decide (2147483647 < v)) = l.any (fun v => decide (2147483647 < v))) l.length ⟨rfl, 0, by simp(disch:=omega)only[Zu,Zv,Zx,Zz,EZ,↓EP,↓reduceIte,Za,Zb,Zc,Zd,Ze,Zf,Zg,Zj,Zk,Zl,Zm,Zn,Zp,Zq,reduceCtorEq], by omega, by omega, by simp⟩ ?_
 rintro t ρ w' hf ⟨rfl, i, h20, hi, rfl, hany⟩ N hN
 have r4 : ρ 4 = .slice (some ad) l.length c := by rw[hf 4 rfl]; simp(disch:=omega)only[Zu,Zv,Zx,Zz,EZ,↓EP,↓reduceIte,Za,Zb,Zc,Zd,Ze,Zf,Zg,Zj,Zk,Zl,Zm,Zn,Zp,Zq,reduceCtorEq]
 have r18 : ρ 18 = .slice (some ad) l.length c := by rw[hf 18 rfl]; simp(disch:=omega)only[Zu,Zv,Zx,Zz,EZ,↓EP,↓reduceIte,Za,Zb,Zc,Zd,Ze,Zf,Zg,Zj,Zk,Zl,Zm,Zn,Zp,Zq,reduceCtorEq]
 have r19 : ρ 19 = .int .i64 l.length := by rw[hf 19 rfl]; simp(disch:=omega)only[Zu,Zv,Zx,Zz,EZ,↓EP,↓reduceIte,Za,Zb,Zc,Zd,Ze,Zf,Zg,Zj,Zk,Zl,Zm,Zn,Zp,Zq,reduceCtorEq]
 clear hf
 by_cases hil : (i : Int) < (l.length : Int)
 ·have ci := cell i (by omega)
  rw[drop_at (show i < l.length by omega), List.any_cons] at hany
  by_cases hb : 2147483647 < at' l (i : Int)
  ·rw[decide_eq_true hb,Bool.true_or] at hany
   rw[if_pos hany.symm] at hK
   simp(disch:=omega)only[Zu,Zv,Zx,Zz,EZ,↓EP,↓reduceIte,Za,Zb,Zc,Zd,Ze,Zf,Zg,Zj,Zk,Zl,Zm,Zn,Zp,Zq,reduceCtorEq,W_join,h20,r18,r19,ci]
   exact hK _ w' ((Gw.nil .u8 w).step g1.fr)
  ·rw[decide_eq_false hb,Bool.false_or] at hany
   simp(disch:=omega)only[Zu,Zv,Zx,Zz,EZ,↓EP,↓reduceIte,Za,Zb,Zc,Zd,Ze,Zf,Zg,Zj,Zk,Zl,Zm,Zn,Zp,Zq,reduceCtorEq,W_join,h20,r18,r19,ci]
   exact hN (l.length - (i + 1)) _ _ (by omega) ⟨rfl, i + 1, by simp(disch:=omega)only[Zu,Zv,Zx,Zz,EZ,↓EP,↓reduceIte,Za,Zb,Zc,Zd,Ze,Zf,Zg,Zj,Zk,Zl,Zm,Zn,Zp,Zq,reduceCtorEq,h20,Int.natCast_add], by omega, rfl, hany⟩
 have hie : i = l.length := by omega
 subst hie
 rw[List.drop_length,List.any_nil] at hany
 rw[if_neg (by rw [← hany]; simp)] at hK
 have hsm : ∀ i : Nat, i < l.length → 0 ≤ at' l (i : Int) ∧ at' l (i : Int) ≤ 2147483647 := fun i hi => by
  have h1 := hbd _ (at_mem hi)
  refine ⟨h1.1, ?_⟩
  apply Int.le_of_not_gt
  intro hgt
  have : l.any (fun v => decide (2147483647 < v)) = true := List.any_eq_true.2 ⟨_, at_mem hi, decide_eq_true hgt⟩
  rw[this] at hany
  simp at hany
 clear hany hN
 have c0 := cell 0 (by omega)
 have c1 := cell 1 (by omega)
 have b0 := hsm 0 (by omega)
 have b1 := hsm 1 (by omega)
 rw[show ((0 : Nat) : Int) = 0 by rfl] at c0 b0
 rw[show ((1 : Nat) : Int) = 1 by rfl] at c1 b1
 have cellf : ∀ w2, Fr w' w2 nob → w2.cell? (ad.add 0) = some (.int .u64 (at' l 0)) ∧ w2.cell? (ad.add 1) = some (.int .u64 (at' l 1)) := fun w2 f => by
  obtain ⟨ad', e', _, hcl⟩ := (hr.nb f).get (by rw[nums_length]; omega)
  cases e'
  have q0 := hcl.numN (j := 0) (by omega)
  have q1 := hcl.numN (j := 1) (by omega)
  exact ⟨q0, q1⟩
 obtain ⟨z, hz⟩ : ∃ z : Nat, 40 * at' l 0 + at' l 1 = (z : Int) := ⟨(40 * at' l 0 + at' l 1).toNat, by omega⟩
 rw[hz,Int.toNat_natCast] at hK
 simp(disch:=omega)only[Zu,Zv,Zx,Zz,EZ,↓EP,↓reduceIte,Za,Zb,Zc,Zd,Ze,Zf,Zg,Zj,Zk,Zl,Zm,Zn,Zp,Zq,reduceCtorEq,W_join,h20,r4,r18,r19,c0,c1,hz]
 intro m1
 refine seven_vw (by omega) _ fun v2 w2 g2 => ?_
 have f2 := (Fr.drewN w' (1 + m1) nob).nb g2.fr
 obtain ⟨d0, d1⟩ := cellf w2 f2
 have ezz : sevenR z ++ (l.drop 2).flatMap (fun v => sevenR v.toNat) = sevenR z ++ sevens (l.drop 2) := rfl
 rw[ezz] at hK
 have e2 : (2 : Int).toNat = 2 := rfl
 simp(disch:=omega)only[Zu,Zv,Zx,Zz,EZ,↓EP,↓reduceIte,Za,Zb,Zc,Zd,Ze,Zf,Zg,Zj,Zk,Zl,Zm,Zn,Zp,Zq,reduceCtorEq,W_join,h20,r4,r18,r19,d0,d1,hz,e2]
 intro m2
 have hR2 : Rd w' (subA (some ad) c 2 1) (nums .u64 (l.drop 2)) := hr.subA c 2 hc
 generalize subA (some ad) c 2 1 = A2 at hR2 ⊢
 have hd2 : (l.drop 2).length = l.length - 2 := by simp
 have hs2 : ∀ i : Nat, i < (l.drop 2).length → 0 ≤ at' (l.drop 2) (i : Int) ∧ at' (l.drop 2) (i : Int) ≤ 2147483647 := fun i hi => by
  rw[at_drop]; exact hsm (2 + i) (by omega)
 generalize hq : l.drop 2 = q at hR2 hd2 hs2 hK
 have G2 : Gw .u8 w' (w2.drewN m2) v2 (sevenR z) := (g2.step (Fr.drewN w2 m2 nob)).from (Fr.drewN w' (1 + m1) nob)
 generalize w2.drewN m2 = w3 at G2 ⊢
 have eqn : ((l.length - 2 : Nat) : Int) = (q.length : Int) := by omega
 have hsl := seven_len z
 refine loop_inv (fun t ρ w4 => ∃ (j : Nat) (B : Value), ρ 39 = .int .i64 j ∧ ρ 8 = B ∧ j ≤ q.length ∧ t = q.length - j ∧ Gw .u8 w' w4 B (sevenR z ++ sevens (q.take j)) ∧ (sevens (q.take j)).length ≤ 11 * j) q.length ⟨0, v2, by simp(disch:=omega)only[Zu,Zv,Zx,Zz,EZ,↓EP,↓reduceIte,Za,Zb,Zc,Zd,Ze,Zf,Zg,Zj,Zk,Zl,Zm,Zn,Zp,Zq,reduceCtorEq], by simp(disch:=omega)only[Zu,Zv,Zx,Zz,EZ,↓EP,↓reduceIte,Za,Zb,Zc,Zd,Ze,Zf,Zg,Zj,Zk,Zl,Zm,Zn,Zp,Zq,reduceCtorEq], by omega, by omega, by simpa [sevens] using G2, by simp[sevens]⟩ ?_
 rintro t ρ w4 hf ⟨j, B, h39, h8, hj, rfl, G, hlen⟩ N hN
 have r37 : ρ 37 = .slice A2 (l.length - 2) (c - 2) := by rw[hf 37 rfl]; simp(disch:=omega)only[Zu,Zv,Zx,Zz,EZ,↓EP,↓reduceIte,Za,Zb,Zc,Zd,Ze,Zf,Zg,Zj,Zk,Zl,Zm,Zn,Zp,Zq,reduceCtorEq,r4,e2]
 have r38 : ρ 38 = .int .i64 q.length := by rw[hf 38 rfl]; simp(disch:=omega)only[Zu,Zv,Zx,Zz,EZ,↓EP,↓reduceIte,Za,Zb,Zc,Zd,Ze,Zf,Zg,Zj,Zk,Zl,Zm,Zn,Zp,Zq,reduceCtorEq,r4,e2,eqn]
 clear hf
 by_cases hjl : (j : Int) < (q.length : Int)
 ·obtain ⟨a2, rfl, cellq⟩ := pos_cellsK (hR2.nb G.fr) (by omega)
  have cj := cellq j (by omega)
  have bj := hs2 j (by omega)
  obtain ⟨y, hy⟩ : ∃ y : Nat, at' q (j : Int) = (y : Int) := ⟨(at' q (j : Int)).toNat, by omega⟩
  rw[hy] at cj
  have hst : sevens (q.take (j + 1)) = sevens (q.take j) ++ sevenR y := by
   rw[take_snoc (by omega),sevens_snoc,hy,Int.toNat_natCast]
  have hsy := seven_len y
  simp(disch:=omega)only[Zu,Zv,Zx,Zz,EZ,↓EP,↓reduceIte,Za,Zb,Zc,Zd,Ze,Zf,Zg,Zj,Zk,Zl,Zm,Zn,Zp,Zq,reduceCtorEq,W_join,h39,h8,r37,r38,cj]
  refine seven_vw (by omega) _ fun v5 w5 g5 => ?_
  obtain ⟨A5, c5, rfl, hc5, hr5⟩ := readn g5.sl rfl
  have G5 := G.step g5.fr
  simp(disch:=omega)only[Zu,Zv,Zx,Zz,EZ,↓EP,↓reduceIte,Za,Zb,Zc,Zd,Ze,Zf,Zg,Zj,Zk,Zl,Zm,Zn,Zp,Zq,reduceCtorEq,h39,h8]
  refine app_num G5.sl rfl hr5 (by rw[List.length_append]; omega) (by omega) fun v6 w6 a6 => ?_
  have G6 := G5.apd a6
  rw[List.append_assoc,← hst] at G6
  simp(disch:=omega)only[Zu,Zv,Zx,Zz,EZ,↓EP,↓reduceIte,Za,Zb,Zc,Zd,Ze,Zf,Zg,Zj,Zk,Zl,Zm,Zn,Zp,Zq,reduceCtorEq,h39]
  exact hN (q.length - (j + 1)) _ _ (by omega) ⟨j + 1, v6, by simp(disch:=omega)only[Zu,Zv,Zx,Zz,EZ,↓EP,↓reduceIte,Za,Zb,Zc,Zd,Ze,Zf,Zg,Zj,Zk,Zl,Zm,Zn,Zp,Zq,reduceCtorEq,h39,Int.natCast_add], by simp(disch:=omega)only[Zu,Zv,Zx,Zz,EZ,↓EP,↓reduceIte,Za,Zb,Zc,Zd,Ze,Zf,Zg,Zj,Zk,Zl,Zm,Zn,Zp,Zq,reduceCtorEq], by omega, rfl, G6, by rw[hst,List.length_append]; omega⟩
 ·have hje : j = q.length := by omega
  subst hje
  rw[List.take_of_length_le (Nat.le_refl _)] at G
  simp(disch:=omega)only[Zu,Zv,Zx,Zz,EZ,↓EP,↓reduceIte,Za,Zb,Zc,Zd,Ze,Zf,Zg,Zj,Zk,Zl,Zm,Zn,Zp,Zq,reduceCtorEq,W_join,h39,h8,r37,r38]
  exact hK _ w4 (G.from g1.fr)
end Go.Proofs.YtcgplgpdcfocpaaGreatDoor.Der
end
section
namespace Go.Proofs.YtcgplgpdcfocpaaGreatDoor.Der
open Go Go.RowKit Go.Proofs Go.Proofs.YtcgplgpdcfocpaaGreatDoor.Eng Go.Proofs.YtcgplgpdcfocpaaGreatDoor.Code
attribute [local irreducible] callK S.W opsW scrW scrT
theorem ixs_eq {u : List UInt8} {i : Nat} {K : Value → Prop} (h : i < u.length) : ixsK (S u) ((i : Nat) : Int) K = K (.int .u8 (at' (ints u) (i : Int))) := by
 rw[ints_at h]
 have e : ((i : Nat) : Int).toNat = i := Int.toNat_natCast i
 unfold ixsK
 apply propext
 constructor
 ·rintro ⟨h1, _, h2⟩
  have := S_get h1
  rw[this] at h2
  simpa [e] using h2
 ·intro h2
  have h1 : ((i : Nat) : Int).toNat < (S u).size := by rw[S_size,e]; exact h
  refine ⟨h1, by omega, ?_⟩
  rw[S_get h1]
  simpa [e] using h2
def foldv (l : List Int) : Int := l.foldl (fun v c => satA (10 * v + (c - 48))) 0
theorem foldv_snoc (l : List Int) (c : Int) : foldv (l ++ [c]) = satA (10 * foldv l + (c - 48)) := by simp[foldv]
theorem foldv_bd : ∀ (l : List Int) (v : Int), (∀ x ∈ l, 48 ≤ x ∧ x ≤ 57) → 0 ≤ v → v ≤ 1099511627776 → 0 ≤ l.foldl (fun v c => satA (10 * v + (c - 48))) v ∧ l.foldl (fun v c => satA (10 * v + (c - 48))) v ≤ 1099511627776
 | [], v, _, h1, h2 => ⟨h1, h2⟩
 | x :: r, v, h, h1, h2 => by
  have hx := h x (by simp)
  have sb := satA_bd (v := 10 * v + (x - 48)) (by omega)
  exact foldv_bd r _ (fun y hy => h y (by simp[hy])) sb.1 sb.2
def seg (d : List Int) (f i : Nat) : List Int := (d.drop f).take (i - f)
theorem seg_snoc {d : List Int} {f i : Nat} (h : f ≤ i) (hi : i < d.length) : seg d f (i + 1) = seg d f i ++ [at' d (i : Int)] := by
 unfold seg
 rw[show i + 1 - f = (i - f) + 1 by omega, take_snoc (by simp; omega), at_drop, show f + (i - f) = i by omega]
theorem seg_self (d : List Int) (f : Nat) : seg d f f = [] := by simp[seg]
theorem seg_sub {d : List Int} {f k i : Nat} (h : k ≤ i) {x : Int} (hx : x ∈ seg d f k) : x ∈ seg d f i := by
 unfold seg at hx ⊢
 have e : (d.drop f).take (k - f) = ((d.drop f).take (i - f)).take (k - f) := by rw[List.take_take]; congr 1; omega
 rw[e] at hx
 exact List.mem_of_mem_take hx
theorem seg_mem {d : List Int} {f k i : Nat} (h : f ≤ k) (hk : k < i) (hi : i ≤ d.length) : at' d (k : Int) ∈ seg d f i := by
 refine seg_sub (show k + 1 ≤ i by omega) ?_
 rw[seg_snoc h (by omega)]; simp
structure At (d l : List Int) (f i : Nat) (T : Option (List Int)) : Prop where
 dig : ∀ x ∈ seg d f i, 48 ≤ x ∧ x ≤ 57
 bad : f + 1 < i → at' d (f : Int) = 48 → T = none
 good : ¬ (f + 1 < i ∧ at' d (f : Int) = 48) → arcsGo ((d ++ [46]).drop i) l (foldv (seg d f i)) (min (i - f) 20) = T
theorem drop46 {d : List Int} {i : Nat} (h : i ≤ d.length) : (d ++ [46]).drop i = at' (d ++ [46]) (i : Int) :: (d ++ [46]).drop (i + 1) := drop_at (by simp; omega)
theorem at46 {d : List Int} {i : Nat} (h : i < d.length) : at' (d ++ [46]) (i : Int) = at' d (i : Int) := by
 rw[atN,atN,List.getD_eq_getElem?_getD,List.getD_eq_getElem?_getD,List.getElem?_append_left h]
theorem at46_end {d : List Int} : at' (d ++ [46]) (d.length : Int) = 46 := by
 rw[atN,List.getD_eq_getElem?_getD,List.getElem?_append_right (Nat.le_refl _)]; simp
theorem At.first {d l : List Int} {f : Nat} {T : Option (List Int)} (h : arcsGo ((d ++ [46]).drop f) l 0 0 = T) : At d l f f T :=
 ⟨by rw[seg_self]; simp, fun h1 => by omega, fun _ => by rw[seg_self,Nat.sub_self]; exact h⟩
theorem At.wrong {d l : List Int} {f i : Nat} {T : Option (List Int)} (h : At d l f i T) (hi : i < d.length) (h46 : at' d (i : Int) ≠ 46) (hb : at' d (i : Int) < 48 ∨ 57 < at' d (i : Int)) : T = none := by
 by_cases hc : f + 1 < i ∧ at' d (f : Int) = 48
 ·exact h.bad hc.1 hc.2
 ·have := h.good hc
  rw[drop46 (by omega), at46 hi, arcsGo, if_neg (fun x => h46 x.1), if_pos (by omega)] at this
  exact this.symm
theorem seg_one {d : List Int} {f : Nat} (h : f < d.length) : seg d f (f + 1) = [at' d (f : Int)] := by
 rw[seg_snoc (Nat.le_refl f) h,seg_self]; rfl
theorem At.zero {d l : List Int} {f : Nat} {T : Option (List Int)} (h : At d l f (f + 1) T) (hf : f < d.length) : (foldv (seg d f (f + 1)) = 0) ↔ at' d (f : Int) = 48 := by
 have hd := h.dig (at' d (f : Int)) (by rw[seg_one hf]; simp)
 rw[seg_one hf]
 simp only[foldv,List.foldl_cons,List.foldl_nil,satA]
 split <;> constructor <;> intro <;> omega
theorem At.digit {d l : List Int} {f i : Nat} {T : Option (List Int)} (h : At d l f i T) (hfi : f ≤ i) (hi : i < d.length) (h0 : 48 ≤ at' d (i : Int)) (h9 : at' d (i : Int) ≤ 57) : At d l f (i + 1) T := by
 have key : ¬ (f + 1 < i ∧ at' d (f : Int) = 48) → (if i = f + 1 ∧ at' d (f : Int) = 48 then none else arcsGo ((d ++ [46]).drop (i + 1)) l (foldv (seg d f (i + 1))) (min (i + 1 - f) 20)) = T := by
  intro hc
  have := h.good hc
  rw[drop46 (by omega),at46 hi,arcsGo,if_neg (by omega)] at this
  by_cases h1 : i = f + 1
  ·subst h1
   by_cases hz : at' d (f : Int) = 48
   ·rw[if_pos (.inr (.inr ⟨by omega,(h.zero (by omega)).2 hz⟩))] at this
    rw[if_pos ⟨rfl,hz⟩]; exact this
   ·rw [if_neg (fun hx => by
     rcases hx with hx | hx | hx
     ·omega
     ·omega
     ·exact hz ((h.zero (by omega)).1 hx.2))] at this
    rw[if_neg (fun hx => hz hx.2), seg_snoc hfi hi, foldv_snoc, ← this]
    congr 1; omega
  ·rw[if_neg (by omega)] at this
   rw[if_neg (fun hx => h1 hx.1), seg_snoc hfi hi, foldv_snoc, ← this]
   congr 1; omega
 refine ⟨?_, fun h1 h2 => ?_, fun hc => ?_⟩
 ·rw[seg_snoc hfi hi]
  intro x hx
  rw[List.mem_append] at hx
  rcases hx with hx | hx
  ·exact h.dig x hx
  ·simp at hx; omega
 ·by_cases h3 : f + 1 < i
  ·exact h.bad h3 h2
  ·have := key (fun hx => h3 hx.1)
   rw[if_pos ⟨by omega,h2⟩] at this
   exact this.symm
 ·have := key (fun hx => hc ⟨by omega, hx.2⟩)
  rwa [if_neg (fun hx => hc ⟨by omega, hx.2⟩)] at this
theorem At.none_ {d l : List Int} {f i : Nat} {T : Option (List Int)} (h : At d l f i T) (hi : i ≤ d.length) (h46 : at' (d ++ [46]) (i : Int) = 46) (hb : i = f ∨ (at' d (f : Int) = 48 ∧ f + 1 < i)) : T = none := by
 rcases hb with rfl | hb
 ·have := h.good (fun hx => by omega)
  rw[drop46 hi,h46,arcsGo,if_neg (by omega),if_pos (by omega)] at this
  exact this.symm
 ·exact h.bad hb.2 hb.1
theorem At.next {d l : List Int} {f i : Nat} {T : Option (List Int)} (h : At d l f i T) (hi : i ≤ d.length) (h46 : at' (d ++ [46]) (i : Int) = 46) (hf : f < i) (hb : ¬ (at' d (f : Int) = 48 ∧ f + 1 < i)) : arcsGo ((d ++ [46]).drop (i + 1)) (l ++ [foldv (seg d f i)]) 0 0 = T := by
 have := h.good (fun hx => hb ⟨hx.2, hx.1⟩)
 rw[drop46 hi, h46, arcsGo, if_pos ⟨rfl, by omega⟩] at this
 exact this
set_option maxHeartbeats 4000000 in
theorem rarcs_vw {w : World} {u : List UInt8} (hm : u.length ≤ 1073741824) (K : Value → World → Prop)
  (hK : ∀ v' w', Fr w w' nob → (∀ l, arcsR (ints u) = some l → Gw .i64 w w' v' l) → K (prb v' (arcsR (ints u)).isSome) w') : callK Tryz.prog 115 [.string (S u)] w K := by
 refine call_of Tryz.func115 Code.h115 (by simp[Code.c115]) ?_
 have hT : ∃ T, arcsGo (ints u ++ [46]) [] 0 0 = T := ⟨_, rfl⟩
 obtain ⟨T, hT⟩ := hT
 have hR : ∀ l, T = some l → arcsR (ints u) = if l.length < 2 ∨ 2 < at' l 0 ∨ (at' l 0 < 2 ∧ 40 ≤ at' l 1) then none else some l := fun l hl => by unfold arcsR; rw[hT,hl]
 have hN0 : T = none → arcsR (ints u) = none := fun h => by unfold arcsR; rw[hT,h]
 have fail : T = none → ∀ w', Fr w w' nob → K (prb (.slice none 0 0) false) w' := fun h w' f => by
  have := hK (.slice none 0 0) w' f (fun l hl => by rw[hN0 h] at hl; simp at hl)
  rwa [hN0 h] at this
 have hlen := ints_len u
 simp(disch:=omega)only[Zu,Zv,Zx,Zz,EZ,↓EP,↓reduceIte,Za,Zb,Zc,Zd,Ze,Zf,Zg,Zj,Zk,Zl,Zm,Zn,Zp,Zq,reduceCtorEq,Code.c115,S_size]
 refine loop_inv (fun t ρ w' => ∃ (i f : Nat) (X : Value) (l : List Int), ρ 6 = .int .i64 i ∧ ρ 5 = .int .i64 f ∧ ρ 4 = X ∧ f ≤ i ∧ i ≤ u.length + 1 ∧ t = u.length + 1 - i ∧ l.length ≤ i ∧ Gw .i64 w w' X l ∧ (i = u.length + 1 → T = some l) ∧ (i ≤ u.length → At (ints u) l f i T)) (u.length + 1) ⟨0, 0, _, [], by simp(disch:=omega)only[Zu,Zv,Zx,Zz,EZ,↓EP,↓reduceIte,Za,Zb,Zc,Zd,Ze,Zf,Zg,Zj,Zk,Zl,Zm,Zn,Zp,Zq,reduceCtorEq], by simp(disch:=omega)only[Zu,Zv,Zx,Zz,EZ,↓EP,↓reduceIte,Za,Zb,Zc,Zd,Ze,Zf,Zg,Zj,Zk,Zl,Zm,Zn,Zp,Zq,reduceCtorEq], by simp(disch:=omega)only[Zu,Zv,Zx,Zz,EZ,↓EP,↓reduceIte,Za,Zb,Zc,Zd,Ze,Zf,Zg,Zj,Zk,Zl,Zm,Zn,Zp,Zq,reduceCtorEq], by omega, by omega, by omega, by simp, Gw.nil .i64 w, fun h => by omega, fun _ => At.first hT⟩ ?_
 rintro t ρ w1 hf ⟨i, f, X, l, h6, h5, h4, hfi, hi, rfl, hll, g, hend, hat⟩ N hN
 have r0 : ρ 0 = .string (S u) := by rw[hf 0 rfl]; simp(disch:=omega)only[Zu,Zv,Zx,Zz,EZ,↓EP,↓reduceIte,Za,Zb,Zc,Zd,Ze,Zf,Zg,Zj,Zk,Zl,Zm,Zn,Zp,Zq,reduceCtorEq]
 clear hf
 by_cases hil : (i : Int) ≤ (u.length : Int)
 ·have at_ := hat (by omega)
  clear hat hend
  by_cases hsep : at' (ints u ++ [46]) (i : Int) = 46
  rotate_left
  ·-- a character that is no dot
   have hi2 : i < u.length := by
    apply Nat.lt_of_le_of_ne (by omega)
    intro e
    apply hsep
    rw[e,← hlen]
    exact at46_end
   rw[at46 (by omega)] at hsep
   have hsf : (at' (ints u) (i : Int) = 46) = False := eq_false hsep
   have bi := ints_byte u i
   by_cases hw : at' (ints u) (i : Int) < 48 ∨ 57 < at' (ints u) (i : Int)
   ·have ht := at_.wrong (by omega) hsep hw
    by_cases h48 : at' (ints u) (i : Int) < 48
    ·simp(disch:=omega)only[Zu,Zv,Zx,Zz,EZ,↓EP,↓reduceIte,Za,Zb,Zc,Zd,Ze,Zf,Zg,Zj,Zk,Zl,Zm,Zn,Zp,Zq,reduceCtorEq,W_join,h6,h5,r0,S_size,ixs_eq,hsf]
     exact fail ht w1 g.fr
    ·simp(disch:=omega)only[Zu,Zv,Zx,Zz,EZ,↓EP,↓reduceIte,Za,Zb,Zc,Zd,Ze,Zf,Zg,Zj,Zk,Zl,Zm,Zn,Zp,Zq,reduceCtorEq,W_join,h6,h5,r0,S_size,ixs_eq,hsf]
     exact fail ht w1 g.fr
   ·have at2 := at_.digit hfi (by omega) (by omega) (by omega)
    simp(disch:=omega)only[Zu,Zv,Zx,Zz,EZ,↓EP,↓reduceIte,Za,Zb,Zc,Zd,Ze,Zf,Zg,Zj,Zk,Zl,Zm,Zn,Zp,Zq,reduceCtorEq,W_join,h6,h5,r0,S_size,ixs_eq,hsf]
    exact hN (u.length + 1 - (i + 1)) _ _ (by omega) ⟨i + 1, f, X, l, by simp(disch:=omega)only[Zu,Zv,Zx,Zz,EZ,↓EP,↓reduceIte,Za,Zb,Zc,Zd,Ze,Zf,Zg,Zj,Zk,Zl,Zm,Zn,Zp,Zq,reduceCtorEq,h6,Int.natCast_add], by simp(disch:=omega)only[Zu,Zv,Zx,Zz,EZ,↓EP,↓reduceIte,Za,Zb,Zc,Zd,Ze,Zf,Zg,Zj,Zk,Zl,Zm,Zn,Zp,Zq,reduceCtorEq,h5], by simp(disch:=omega)only[Zu,Zv,Zx,Zz,EZ,↓EP,↓reduceIte,Za,Zb,Zc,Zd,Ze,Zf,Zg,Zj,Zk,Zl,Zm,Zn,Zp,Zq,reduceCtorEq,h4], by omega, by omega, rfl, by omega, g, fun h => by omega, fun _ => at2⟩
  ·by_cases hi2 : (i : Int) < (u.length : Int)
   have h46 := hsep
   rw[at46 (by omega)] at h46
   by_cases hif : i = f
   ·have ht := at_.none_ (by omega) hsep (.inl hif)
    subst hif
    simp(disch:=omega)only[Zu,Zv,Zx,Zz,EZ,↓EP,↓reduceIte,Za,Zb,Zc,Zd,Ze,Zf,Zg,Zj,Zk,Zl,Zm,Zn,Zp,Zq,reduceCtorEq,W_join,h6,h5,r0,S_size,ixs_eq,h46]
    exact fail ht w1 g.fr
   have bf := ints_byte u f
   have hff : ((i : Int) = (f : Int)) = False := eq_false (by omega)
   by_cases hz : at' (ints u) (f : Int) = 48 ∧ f + 1 < i
   ·have ht := at_.none_ (by omega) hsep (.inr hz)
    simp(disch:=omega)only[Zu,Zv,Zx,Zz,EZ,↓EP,↓reduceIte,Za,Zb,Zc,Zd,Ze,Zf,Zg,Zj,Zk,Zl,Zm,Zn,Zp,Zq,reduceCtorEq,W_join,h6,h5,r0,S_size,ixs_eq,h46,hff,hz.1]
    exact fail ht w1 g.fr
   have hnext := at_.next (by omega) hsep (by omega) hz
   have hdig := at_.dig
   have hz2 : at' (ints u) (f : Int) = 48 → ¬ ((f : Int) + 1 < (i : Int)) := fun h1 h2 => hz ⟨h1, by omega⟩
   have tail : ∀ (ρ' : Env) (N' : Env → World → Prop), True := fun _ _ => trivial
   clear tail
   by_cases h48 : at' (ints u) (f : Int) = 48
   ·have hz3 := hz2 h48
    simp(disch:=omega)only[Zu,Zv,Zx,Zz,EZ,↓EP,↓reduceIte,Za,Zb,Zc,Zd,Ze,Zf,Zg,Zj,Zk,Zl,Zm,Zn,Zp,Zq,reduceCtorEq,W_join,h6,h5,r0,S_size,ixs_eq,h46,hff,h48]
    refine loop_inv (fun t ρ2 w2 => w2 = w1 ∧ ∃ k : Nat, ρ2 8 = .int .i64 k ∧ ρ2 7 = .int .i64 (foldv (seg (ints u) f k)) ∧ f ≤ k ∧ k ≤ i ∧ t = i - k) (i - f) ⟨rfl, f, by simp(disch:=omega)only[Zu,Zv,Zx,Zz,EZ,↓EP,↓reduceIte,Za,Zb,Zc,Zd,Ze,Zf,Zg,Zj,Zk,Zl,Zm,Zn,Zp,Zq,reduceCtorEq,h5], by simp(disch:=omega)only[Zu,Zv,Zx,Zz,EZ,↓EP,↓reduceIte,Za,Zb,Zc,Zd,Ze,Zf,Zg,Zj,Zk,Zl,Zm,Zn,Zp,Zq,reduceCtorEq,seg_self]; rfl, by omega, by omega, rfl⟩ ?_
    rintro t ρ2 w2 hf2 ⟨rfl, k, k8, k7, hfk, hki, rfl⟩ N2 hN2
    have q0 : ρ2 0 = .string (S u) := by rw[hf2 0 rfl]; simp(disch:=omega)only[Zu,Zv,Zx,Zz,EZ,↓EP,↓reduceIte,Za,Zb,Zc,Zd,Ze,Zf,Zg,Zj,Zk,Zl,Zm,Zn,Zp,Zq,reduceCtorEq,r0]
    have q4 : ρ2 4 = X := by rw[hf2 4 rfl]; simp(disch:=omega)only[Zu,Zv,Zx,Zz,EZ,↓EP,↓reduceIte,Za,Zb,Zc,Zd,Ze,Zf,Zg,Zj,Zk,Zl,Zm,Zn,Zp,Zq,reduceCtorEq,h4]
    have q6 : ρ2 6 = .int .i64 i := by rw[hf2 6 rfl]; simp(disch:=omega)only[Zu,Zv,Zx,Zz,EZ,↓EP,↓reduceIte,Za,Zb,Zc,Zd,Ze,Zf,Zg,Zj,Zk,Zl,Zm,Zn,Zp,Zq,reduceCtorEq,h6]
    clear hf2
    have vb := foldv_bd (seg (ints u) f k) 0 (fun x hx => hdig x (seg_sub hki hx)) (by omega) (by omega)
    rw[show (seg (ints u) f k).foldl (fun v c => satA (10 * v + (c - 48))) 0 = foldv (seg (ints u) f k) from rfl] at vb
    by_cases hk : (k : Int) < (i : Int)
    ·have ck := hdig _ (seg_mem hfk (show k < i by omega) (by omega))
     have hst : foldv (seg (ints u) f (k + 1)) = satA (10 * foldv (seg (ints u) f k) + (at' (ints u) (k : Int) - 48)) := by rw[seg_snoc hfk (by omega),foldv_snoc]
     generalize foldv (seg (ints u) f k) = V at *
     by_cases hcap : 1099511627776 < V * 10 + (at' (ints u) (k : Int) - 48)
     ·rw[show satA (10 * V + (at' (ints u) (k : Int) - 48)) = 1099511627776 by unfold satA; split <;> omega] at hst
      simp(disch:=omega)only[Zu,Zv,Zx,Zz,EZ,↓EP,↓reduceIte,Za,Zb,Zc,Zd,Ze,Zf,Zg,Zj,Zk,Zl,Zm,Zn,Zp,Zq,reduceCtorEq,W_join,k8,k7,q0,q6,S_size,ixs_eq]
      exact hN2 (i - (k + 1)) _ _ (by omega) ⟨rfl, k + 1, by simp(disch:=omega)only[Zu,Zv,Zx,Zz,EZ,↓EP,↓reduceIte,Za,Zb,Zc,Zd,Ze,Zf,Zg,Zj,Zk,Zl,Zm,Zn,Zp,Zq,reduceCtorEq,k8,Int.natCast_add], by simp(disch:=omega)only[Zu,Zv,Zx,Zz,EZ,↓EP,↓reduceIte,Za,Zb,Zc,Zd,Ze,Zf,Zg,Zj,Zk,Zl,Zm,Zn,Zp,Zq,reduceCtorEq,hst], by omega, by omega, rfl⟩
     ·rw[show satA (10 * V + (at' (ints u) (k : Int) - 48)) = V * 10 + (at' (ints u) (k : Int) - 48) by unfold satA; split <;> omega] at hst
      simp(disch:=omega)only[Zu,Zv,Zx,Zz,EZ,↓EP,↓reduceIte,Za,Zb,Zc,Zd,Ze,Zf,Zg,Zj,Zk,Zl,Zm,Zn,Zp,Zq,reduceCtorEq,W_join,k8,k7,q0,q6,S_size,ixs_eq]
      exact hN2 (i - (k + 1)) _ _ (by omega) ⟨rfl, k + 1, by simp(disch:=omega)only[Zu,Zv,Zx,Zz,EZ,↓EP,↓reduceIte,Za,Zb,Zc,Zd,Ze,Zf,Zg,Zj,Zk,Zl,Zm,Zn,Zp,Zq,reduceCtorEq,k8,Int.natCast_add], by simp(disch:=omega)only[Zu,Zv,Zx,Zz,EZ,↓EP,↓reduceIte,Za,Zb,Zc,Zd,Ze,Zf,Zg,Zj,Zk,Zl,Zm,Zn,Zp,Zq,reduceCtorEq,hst], by omega, by omega, rfl⟩
    ·have hke : k = i := by omega
     subst hke
     clear hN2
     simp(disch:=omega)only[Zu,Zv,Zx,Zz,EZ,↓EP,↓reduceIte,Za,Zb,Zc,Zd,Ze,Zf,Zg,Zj,Zk,Zl,Zm,Zn,Zp,Zq,reduceCtorEq,W_join,k8,k7,q0,q4,q6]
     refine bsl1 fun w3 n3 => ?_
     have g3 := g.new n3
     simp(disch:=omega)only[Zu,Zv,Zx,Zz,EZ,↓EP,↓reduceIte,Za,Zb,Zc,Zd,Ze,Zf,Zg,Zj,Zk,Zl,Zm,Zn,Zp,Zq,reduceCtorEq,W_join,k8,k7,q0,q4,q6]
     refine app_num g3.sl rfl n3.rdv (by simp; omega) (by omega) fun v4 w4 a4 => ?_
     have g4 := g3.apd a4
     simp(disch:=omega)only[Zu,Zv,Zx,Zz,EZ,↓EP,↓reduceIte,Za,Zb,Zc,Zd,Ze,Zf,Zg,Zj,Zk,Zl,Zm,Zn,Zp,Zq,reduceCtorEq,W_join,k8,k7,q0,q4,q6]
     refine hN (u.length + 1 - (k + 1)) _ _ (by omega) ⟨k + 1, k + 1, v4, l ++ [foldv (seg (ints u) f k)], by simp(disch:=omega)only[Zu,Zv,Zx,Zz,EZ,↓EP,↓reduceIte,Za,Zb,Zc,Zd,Ze,Zf,Zg,Zj,Zk,Zl,Zm,Zn,Zp,Zq,reduceCtorEq,q6,Int.natCast_add], by simp(disch:=omega)only[Zu,Zv,Zx,Zz,EZ,↓EP,↓reduceIte,Za,Zb,Zc,Zd,Ze,Zf,Zg,Zj,Zk,Zl,Zm,Zn,Zp,Zq,reduceCtorEq,q6,Int.natCast_add], by simp(disch:=omega)only[Zu,Zv,Zx,Zz,EZ,↓EP,↓reduceIte,Za,Zb,Zc,Zd,Ze,Zf,Zg,Zj,Zk,Zl,Zm,Zn,Zp,Zq,reduceCtorEq], by omega, by omega, rfl, by simp; omega, g4, fun he => ?_, fun he => At.first hnext⟩
     have hd0 : (ints u ++ [46]).drop (k + 1) = [] := List.drop_eq_nil_of_le (by simp; omega)
     rw[hd0,arcsGo] at hnext
     exact hnext.symm
   ·have h48f : (at' (ints u) (f : Int) = 48) = False := eq_false h48
    simp(disch:=omega)only[Zu,Zv,Zx,Zz,EZ,↓EP,↓reduceIte,Za,Zb,Zc,Zd,Ze,Zf,Zg,Zj,Zk,Zl,Zm,Zn,Zp,Zq,reduceCtorEq,W_join,h6,h5,r0,S_size,ixs_eq,h46,hff,h48f]
    refine loop_inv (fun t ρ2 w2 => w2 = w1 ∧ ∃ k : Nat, ρ2 8 = .int .i64 k ∧ ρ2 7 = .int .i64 (foldv (seg (ints u) f k)) ∧ f ≤ k ∧ k ≤ i ∧ t = i - k) (i - f) ⟨rfl, f, by simp(disch:=omega)only[Zu,Zv,Zx,Zz,EZ,↓EP,↓reduceIte,Za,Zb,Zc,Zd,Ze,Zf,Zg,Zj,Zk,Zl,Zm,Zn,Zp,Zq,reduceCtorEq,h5], by simp(disch:=omega)only[Zu,Zv,Zx,Zz,EZ,↓EP,↓reduceIte,Za,Zb,Zc,Zd,Ze,Zf,Zg,Zj,Zk,Zl,Zm,Zn,Zp,Zq,reduceCtorEq,seg_self]; rfl, by omega, by omega, rfl⟩ ?_
    rintro t ρ2 w2 hf2 ⟨rfl, k, k8, k7, hfk, hki, rfl⟩ N2 hN2
    have q0 : ρ2 0 = .string (S u) := by rw[hf2 0 rfl]; simp(disch:=omega)only[Zu,Zv,Zx,Zz,EZ,↓EP,↓reduceIte,Za,Zb,Zc,Zd,Ze,Zf,Zg,Zj,Zk,Zl,Zm,Zn,Zp,Zq,reduceCtorEq,r0]
    have q4 : ρ2 4 = X := by rw[hf2 4 rfl]; simp(disch:=omega)only[Zu,Zv,Zx,Zz,EZ,↓EP,↓reduceIte,Za,Zb,Zc,Zd,Ze,Zf,Zg,Zj,Zk,Zl,Zm,Zn,Zp,Zq,reduceCtorEq,h4]
    have q6 : ρ2 6 = .int .i64 i := by rw[hf2 6 rfl]; simp(disch:=omega)only[Zu,Zv,Zx,Zz,EZ,↓EP,↓reduceIte,Za,Zb,Zc,Zd,Ze,Zf,Zg,Zj,Zk,Zl,Zm,Zn,Zp,Zq,reduceCtorEq,h6]
    clear hf2
    have vb := foldv_bd (seg (ints u) f k) 0 (fun x hx => hdig x (seg_sub hki hx)) (by omega) (by omega)
    rw[show (seg (ints u) f k).foldl (fun v c => satA (10 * v + (c - 48))) 0 = foldv (seg (ints u) f k) from rfl] at vb
    by_cases hk : (k : Int) < (i : Int)
    ·have ck := hdig _ (seg_mem hfk (show k < i by omega) (by omega))
     have hst : foldv (seg (ints u) f (k + 1)) = satA (10 * foldv (seg (ints u) f k) + (at' (ints u) (k : Int) - 48)) := by rw[seg_snoc hfk (by omega),foldv_snoc]
     generalize foldv (seg (ints u) f k) = V at *
     by_cases hcap : 1099511627776 < V * 10 + (at' (ints u) (k : Int) - 48)
     ·rw[show satA (10 * V + (at' (ints u) (k : Int) - 48)) = 1099511627776 by unfold satA; split <;> omega] at hst
      simp(disch:=omega)only[Zu,Zv,Zx,Zz,EZ,↓EP,↓reduceIte,Za,Zb,Zc,Zd,Ze,Zf,Zg,Zj,Zk,Zl,Zm,Zn,Zp,Zq,reduceCtorEq,W_join,k8,k7,q0,q6,S_size,ixs_eq]
      exact hN2 (i - (k + 1)) _ _ (by omega) ⟨rfl, k + 1, by simp(disch:=omega)only[Zu,Zv,Zx,Zz,EZ,↓EP,↓reduceIte,Za,Zb,Zc,Zd,Ze,Zf,Zg,Zj,Zk,Zl,Zm,Zn,Zp,Zq,reduceCtorEq,k8,Int.natCast_add], by simp(disch:=omega)only[Zu,Zv,Zx,Zz,EZ,↓EP,↓reduceIte,Za,Zb,Zc,Zd,Ze,Zf,Zg,Zj,Zk,Zl,Zm,Zn,Zp,Zq,reduceCtorEq,hst], by omega, by omega, rfl⟩
     ·rw[show satA (10 * V + (at' (ints u) (k : Int) - 48)) = V * 10 + (at' (ints u) (k : Int) - 48) by unfold satA; split <;> omega] at hst
      simp(disch:=omega)only[Zu,Zv,Zx,Zz,EZ,↓EP,↓reduceIte,Za,Zb,Zc,Zd,Ze,Zf,Zg,Zj,Zk,Zl,Zm,Zn,Zp,Zq,reduceCtorEq,W_join,k8,k7,q0,q6,S_size,ixs_eq]
      exact hN2 (i - (k + 1)) _ _ (by omega) ⟨rfl, k + 1, by simp(disch:=omega)only[Zu,Zv,Zx,Zz,EZ,↓EP,↓reduceIte,Za,Zb,Zc,Zd,Ze,Zf,Zg,Zj,Zk,Zl,Zm,Zn,Zp,Zq,reduceCtorEq,k8,Int.natCast_add], by simp(disch:=omega)only[Zu,Zv,Zx,Zz,EZ,↓EP,↓reduceIte,Za,Zb,Zc,Zd,Ze,Zf,Zg,Zj,Zk,Zl,Zm,Zn,Zp,Zq,reduceCtorEq,hst], by omega, by omega, rfl⟩
    ·have hke : k = i := by omega
     subst hke
     clear hN2
     simp(disch:=omega)only[Zu,Zv,Zx,Zz,EZ,↓EP,↓reduceIte,Za,Zb,Zc,Zd,Ze,Zf,Zg,Zj,Zk,Zl,Zm,Zn,Zp,Zq,reduceCtorEq,W_join,k8,k7,q0,q4,q6]
     refine bsl1 fun w3 n3 => ?_
     have g3 := g.new n3
     simp(disch:=omega)only[Zu,Zv,Zx,Zz,EZ,↓EP,↓reduceIte,Za,Zb,Zc,Zd,Ze,Zf,Zg,Zj,Zk,Zl,Zm,Zn,Zp,Zq,reduceCtorEq,W_join,k8,k7,q0,q4,q6]
     refine app_num g3.sl rfl n3.rdv (by simp; omega) (by omega) fun v4 w4 a4 => ?_
     have g4 := g3.apd a4
     simp(disch:=omega)only[Zu,Zv,Zx,Zz,EZ,↓EP,↓reduceIte,Za,Zb,Zc,Zd,Ze,Zf,Zg,Zj,Zk,Zl,Zm,Zn,Zp,Zq,reduceCtorEq,W_join,k8,k7,q0,q4,q6]
     refine hN (u.length + 1 - (k + 1)) _ _ (by omega) ⟨k + 1, k + 1, v4, l ++ [foldv (seg (ints u) f k)], by simp(disch:=omega)only[Zu,Zv,Zx,Zz,EZ,↓EP,↓reduceIte,Za,Zb,Zc,Zd,Ze,Zf,Zg,Zj,Zk,Zl,Zm,Zn,Zp,Zq,reduceCtorEq,q6,Int.natCast_add], by simp(disch:=omega)only[Zu,Zv,Zx,Zz,EZ,↓EP,↓reduceIte,Za,Zb,Zc,Zd,Ze,Zf,Zg,Zj,Zk,Zl,Zm,Zn,Zp,Zq,reduceCtorEq,q6,Int.natCast_add], by simp(disch:=omega)only[Zu,Zv,Zx,Zz,EZ,↓EP,↓reduceIte,Za,Zb,Zc,Zd,Ze,Zf,Zg,Zj,Zk,Zl,Zm,Zn,Zp,Zq,reduceCtorEq], by omega, by omega, rfl, by simp; omega, g4, fun he => ?_, fun he => At.first hnext⟩
     have hd0 : (ints u ++ [46]).drop (k + 1) = [] := List.drop_eq_nil_of_le (by simp; omega)
     rw[hd0,arcsGo] at hnext
     exact hnext.symm
   ·have hie : i = u.length := by omega
    by_cases hif : i = f
    ·have ht := at_.none_ (by omega) hsep (.inl hif)
     subst hif
     simp(disch:=omega)only[Zu,Zv,Zx,Zz,EZ,↓EP,↓reduceIte,Za,Zb,Zc,Zd,Ze,Zf,Zg,Zj,Zk,Zl,Zm,Zn,Zp,Zq,reduceCtorEq,W_join,h6,h5,r0,S_size,ixs_eq]
     exact fail ht w1 g.fr
    have bf := ints_byte u f
    have hff : ((i : Int) = (f : Int)) = False := eq_false (by omega)
    by_cases hz : at' (ints u) (f : Int) = 48 ∧ f + 1 < i
    ·have ht := at_.none_ (by omega) hsep (.inr hz)
     simp(disch:=omega)only[Zu,Zv,Zx,Zz,EZ,↓EP,↓reduceIte,Za,Zb,Zc,Zd,Ze,Zf,Zg,Zj,Zk,Zl,Zm,Zn,Zp,Zq,reduceCtorEq,W_join,h6,h5,r0,S_size,ixs_eq,hff,hz.1]
     exact fail ht w1 g.fr
    have hnext := at_.next (by omega) hsep (by omega) hz
    have hdig := at_.dig
    have hz2 : at' (ints u) (f : Int) = 48 → ¬ ((f : Int) + 1 < (i : Int)) := fun h1 h2 => hz ⟨h1, by omega⟩
    have tail : ∀ (ρ' : Env) (N' : Env → World → Prop), True := fun _ _ => trivial
    clear tail
    by_cases h48 : at' (ints u) (f : Int) = 48
    ·have hz3 := hz2 h48
     simp(disch:=omega)only[Zu,Zv,Zx,Zz,EZ,↓EP,↓reduceIte,Za,Zb,Zc,Zd,Ze,Zf,Zg,Zj,Zk,Zl,Zm,Zn,Zp,Zq,reduceCtorEq,W_join,h6,h5,r0,S_size,ixs_eq,hff,h48]
     refine loop_inv (fun t ρ2 w2 => w2 = w1 ∧ ∃ k : Nat, ρ2 8 = .int .i64 k ∧ ρ2 7 = .int .i64 (foldv (seg (ints u) f k)) ∧ f ≤ k ∧ k ≤ i ∧ t = i - k) (i - f) ⟨rfl, f, by simp(disch:=omega)only[Zu,Zv,Zx,Zz,EZ,↓EP,↓reduceIte,Za,Zb,Zc,Zd,Ze,Zf,Zg,Zj,Zk,Zl,Zm,Zn,Zp,Zq,reduceCtorEq,h5], by simp(disch:=omega)only[Zu,Zv,Zx,Zz,EZ,↓EP,↓reduceIte,Za,Zb,Zc,Zd,Ze,Zf,Zg,Zj,Zk,Zl,Zm,Zn,Zp,Zq,reduceCtorEq,seg_self]; rfl, by omega, by omega, rfl⟩ ?_
     rintro t ρ2 w2 hf2 ⟨rfl, k, k8, k7, hfk, hki, rfl⟩ N2 hN2
     have q0 : ρ2 0 = .string (S u) := by rw[hf2 0 rfl]; simp(disch:=omega)only[Zu,Zv,Zx,Zz,EZ,↓EP,↓reduceIte,Za,Zb,Zc,Zd,Ze,Zf,Zg,Zj,Zk,Zl,Zm,Zn,Zp,Zq,reduceCtorEq,r0]
     have q4 : ρ2 4 = X := by rw[hf2 4 rfl]; simp(disch:=omega)only[Zu,Zv,Zx,Zz,EZ,↓EP,↓reduceIte,Za,Zb,Zc,Zd,Ze,Zf,Zg,Zj,Zk,Zl,Zm,Zn,Zp,Zq,reduceCtorEq,h4]
     have q6 : ρ2 6 = .int .i64 i := by rw[hf2 6 rfl]; simp(disch:=omega)only[Zu,Zv,Zx,Zz,EZ,↓EP,↓reduceIte,Za,Zb,Zc,Zd,Ze,Zf,Zg,Zj,Zk,Zl,Zm,Zn,Zp,Zq,reduceCtorEq,h6]
     clear hf2
     have vb := foldv_bd (seg (ints u) f k) 0 (fun x hx => hdig x (seg_sub hki hx)) (by omega) (by omega)
     rw[show (seg (ints u) f k).foldl (fun v c => satA (10 * v + (c - 48))) 0 = foldv (seg (ints u) f k) from rfl] at vb
     by_cases hk : (k : Int) < (i : Int)
     ·have ck := hdig _ (seg_mem hfk (show k < i by omega) (by omega))
      have hst : foldv (seg (ints u) f (k + 1)) = satA (10 * foldv (seg (ints u) f k) + (at' (ints u) (k : Int) - 48)) := by rw[seg_snoc hfk (by omega),foldv_snoc]
      generalize foldv (seg (ints u) f k) = V at *
      by_cases hcap : 1099511627776 < V * 10 + (at' (ints u) (k : Int) - 48)
      ·rw[show satA (10 * V + (at' (ints u) (k : Int) - 48)) = 1099511627776 by unfold satA; split <;> omega] at hst
       simp(disch:=omega)only[Zu,Zv,Zx,Zz,EZ,↓EP,↓reduceIte,Za,Zb,Zc,Zd,Ze,Zf,Zg,Zj,Zk,Zl,Zm,Zn,Zp,Zq,reduceCtorEq,W_join,k8,k7,q0,q6,S_size,ixs_eq]
       exact hN2 (i - (k + 1)) _ _ (by omega) ⟨rfl, k + 1, by simp(disch:=omega)only[Zu,Zv,Zx,Zz,EZ,↓EP,↓reduceIte,Za,Zb,Zc,Zd,Ze,Zf,Zg,Zj,Zk,Zl,Zm,Zn,Zp,Zq,reduceCtorEq,k8,Int.natCast_add], by simp(disch:=omega)only[Zu,Zv,Zx,Zz,EZ,↓EP,↓reduceIte,Za,Zb,Zc,Zd,Ze,Zf,Zg,Zj,Zk,Zl,Zm,Zn,Zp,Zq,reduceCtorEq,hst], by omega, by omega, rfl⟩
      ·rw[show satA (10 * V + (at' (ints u) (k : Int) - 48)) = V * 10 + (at' (ints u) (k : Int) - 48) by unfold satA; split <;> omega] at hst
       simp(disch:=omega)only[Zu,Zv,Zx,Zz,EZ,↓EP,↓reduceIte,Za,Zb,Zc,Zd,Ze,Zf,Zg,Zj,Zk,Zl,Zm,Zn,Zp,Zq,reduceCtorEq,W_join,k8,k7,q0,q6,S_size,ixs_eq]
       exact hN2 (i - (k + 1)) _ _ (by omega) ⟨rfl, k + 1, by simp(disch:=omega)only[Zu,Zv,Zx,Zz,EZ,↓EP,↓reduceIte,Za,Zb,Zc,Zd,Ze,Zf,Zg,Zj,Zk,Zl,Zm,Zn,Zp,Zq,reduceCtorEq,k8,Int.natCast_add], by simp(disch:=omega)only[Zu,Zv,Zx,Zz,EZ,↓EP,↓reduceIte,Za,Zb,Zc,Zd,Ze,Zf,Zg,Zj,Zk,Zl,Zm,Zn,Zp,Zq,reduceCtorEq,hst], by omega, by omega, rfl⟩
     ·have hke : k = i := by omega
      subst hke
      clear hN2
      simp(disch:=omega)only[Zu,Zv,Zx,Zz,EZ,↓EP,↓reduceIte,Za,Zb,Zc,Zd,Ze,Zf,Zg,Zj,Zk,Zl,Zm,Zn,Zp,Zq,reduceCtorEq,W_join,k8,k7,q0,q4,q6]
      refine bsl1 fun w3 n3 => ?_
      have g3 := g.new n3
      simp(disch:=omega)only[Zu,Zv,Zx,Zz,EZ,↓EP,↓reduceIte,Za,Zb,Zc,Zd,Ze,Zf,Zg,Zj,Zk,Zl,Zm,Zn,Zp,Zq,reduceCtorEq,W_join,k8,k7,q0,q4,q6]
      refine app_num g3.sl rfl n3.rdv (by simp; omega) (by omega) fun v4 w4 a4 => ?_
      have g4 := g3.apd a4
      simp(disch:=omega)only[Zu,Zv,Zx,Zz,EZ,↓EP,↓reduceIte,Za,Zb,Zc,Zd,Ze,Zf,Zg,Zj,Zk,Zl,Zm,Zn,Zp,Zq,reduceCtorEq,W_join,k8,k7,q0,q4,q6]
      refine hN (u.length + 1 - (k + 1)) _ _ (by omega) ⟨k + 1, k + 1, v4, l ++ [foldv (seg (ints u) f k)], by simp(disch:=omega)only[Zu,Zv,Zx,Zz,EZ,↓EP,↓reduceIte,Za,Zb,Zc,Zd,Ze,Zf,Zg,Zj,Zk,Zl,Zm,Zn,Zp,Zq,reduceCtorEq,q6,Int.natCast_add], by simp(disch:=omega)only[Zu,Zv,Zx,Zz,EZ,↓EP,↓reduceIte,Za,Zb,Zc,Zd,Ze,Zf,Zg,Zj,Zk,Zl,Zm,Zn,Zp,Zq,reduceCtorEq,q6,Int.natCast_add], by simp(disch:=omega)only[Zu,Zv,Zx,Zz,EZ,↓EP,↓reduceIte,Za,Zb,Zc,Zd,Ze,Zf,Zg,Zj,Zk,Zl,Zm,Zn,Zp,Zq,reduceCtorEq], by omega, by omega, rfl, by simp; omega, g4, fun he => ?_, fun he => At.first hnext⟩
      have hd0 : (ints u ++ [46]).drop (k + 1) = [] := List.drop_eq_nil_of_le (by simp; omega)
      rw[hd0,arcsGo] at hnext
      exact hnext.symm
    ·have h48f : (at' (ints u) (f : Int) = 48) = False := eq_false h48
     simp(disch:=omega)only[Zu,Zv,Zx,Zz,EZ,↓EP,↓reduceIte,Za,Zb,Zc,Zd,Ze,Zf,Zg,Zj,Zk,Zl,Zm,Zn,Zp,Zq,reduceCtorEq,W_join,h6,h5,r0,S_size,ixs_eq,hff,h48f]
     refine loop_inv (fun t ρ2 w2 => w2 = w1 ∧ ∃ k : Nat, ρ2 8 = .int .i64 k ∧ ρ2 7 = .int .i64 (foldv (seg (ints u) f k)) ∧ f ≤ k ∧ k ≤ i ∧ t = i - k) (i - f) ⟨rfl, f, by simp(disch:=omega)only[Zu,Zv,Zx,Zz,EZ,↓EP,↓reduceIte,Za,Zb,Zc,Zd,Ze,Zf,Zg,Zj,Zk,Zl,Zm,Zn,Zp,Zq,reduceCtorEq,h5], by simp(disch:=omega)only[Zu,Zv,Zx,Zz,EZ,↓EP,↓reduceIte,Za,Zb,Zc,Zd,Ze,Zf,Zg,Zj,Zk,Zl,Zm,Zn,Zp,Zq,reduceCtorEq,seg_self]; rfl, by omega, by omega, rfl⟩ ?_
     rintro t ρ2 w2 hf2 ⟨rfl, k, k8, k7, hfk, hki, rfl⟩ N2 hN2
     have q0 : ρ2 0 = .string (S u) := by rw[hf2 0 rfl]; simp(disch:=omega)only[Zu,Zv,Zx,Zz,EZ,↓EP,↓reduceIte,Za,Zb,Zc,Zd,Ze,Zf,Zg,Zj,Zk,Zl,Zm,Zn,Zp,Zq,reduceCtorEq,r0]
     have q4 : ρ2 4 = X := by rw[hf2 4 rfl]; simp(disch:=omega)only[Zu,Zv,Zx,Zz,EZ,↓EP,↓reduceIte,Za,Zb,Zc,Zd,Ze,Zf,Zg,Zj,Zk,Zl,Zm,Zn,Zp,Zq,reduceCtorEq,h4]
     have q6 : ρ2 6 = .int .i64 i := by rw[hf2 6 rfl]; simp(disch:=omega)only[Zu,Zv,Zx,Zz,EZ,↓EP,↓reduceIte,Za,Zb,Zc,Zd,Ze,Zf,Zg,Zj,Zk,Zl,Zm,Zn,Zp,Zq,reduceCtorEq,h6]
     clear hf2
     have vb := foldv_bd (seg (ints u) f k) 0 (fun x hx => hdig x (seg_sub hki hx)) (by omega) (by omega)
     rw[show (seg (ints u) f k).foldl (fun v c => satA (10 * v + (c - 48))) 0 = foldv (seg (ints u) f k) from rfl] at vb
     by_cases hk : (k : Int) < (i : Int)
     ·have ck := hdig _ (seg_mem hfk (show k < i by omega) (by omega))
      have hst : foldv (seg (ints u) f (k + 1)) = satA (10 * foldv (seg (ints u) f k) + (at' (ints u) (k : Int) - 48)) := by rw[seg_snoc hfk (by omega),foldv_snoc]
      generalize foldv (seg (ints u) f k) = V at *
      by_cases hcap : 1099511627776 < V * 10 + (at' (ints u) (k : Int) - 48)
      ·rw[show satA (10 * V + (at' (ints u) (k : Int) - 48)) = 1099511627776 by unfold satA; split <;> omega] at hst
       simp(disch:=omega)only[Zu,Zv,Zx,Zz,EZ,↓EP,↓reduceIte,Za,Zb,Zc,Zd,Ze,Zf,Zg,Zj,Zk,Zl,Zm,Zn,Zp,Zq,reduceCtorEq,W_join,k8,k7,q0,q6,S_size,ixs_eq]
       exact hN2 (i - (k + 1)) _ _ (by omega) ⟨rfl, k + 1, by simp(disch:=omega)only[Zu,Zv,Zx,Zz,EZ,↓EP,↓reduceIte,Za,Zb,Zc,Zd,Ze,Zf,Zg,Zj,Zk,Zl,Zm,Zn,Zp,Zq,reduceCtorEq,k8,Int.natCast_add], by simp(disch:=omega)only[Zu,Zv,Zx,Zz,EZ,↓EP,↓reduceIte,Za,Zb,Zc,Zd,Ze,Zf,Zg,Zj,Zk,Zl,Zm,Zn,Zp,Zq,reduceCtorEq,hst], by omega, by omega, rfl⟩
      ·rw[show satA (10 * V + (at' (ints u) (k : Int) - 48)) = V * 10 + (at' (ints u) (k : Int) - 48) by unfold satA; split <;> omega] at hst
       simp(disch:=omega)only[Zu,Zv,Zx,Zz,EZ,↓EP,↓reduceIte,Za,Zb,Zc,Zd,Ze,Zf,Zg,Zj,Zk,Zl,Zm,Zn,Zp,Zq,reduceCtorEq,W_join,k8,k7,q0,q6,S_size,ixs_eq]
       exact hN2 (i - (k + 1)) _ _ (by omega) ⟨rfl, k + 1, by simp(disch:=omega)only[Zu,Zv,Zx,Zz,EZ,↓EP,↓reduceIte,Za,Zb,Zc,Zd,Ze,Zf,Zg,Zj,Zk,Zl,Zm,Zn,Zp,Zq,reduceCtorEq,k8,Int.natCast_add], by simp(disch:=omega)only[Zu,Zv,Zx,Zz,EZ,↓EP,↓reduceIte,Za,Zb,Zc,Zd,Ze,Zf,Zg,Zj,Zk,Zl,Zm,Zn,Zp,Zq,reduceCtorEq,hst], by omega, by omega, rfl⟩
     ·have hke : k = i := by omega
      subst hke
      clear hN2
      simp(disch:=omega)only[Zu,Zv,Zx,Zz,EZ,↓EP,↓reduceIte,Za,Zb,Zc,Zd,Ze,Zf,Zg,Zj,Zk,Zl,Zm,Zn,Zp,Zq,reduceCtorEq,W_join,k8,k7,q0,q4,q6]
      refine bsl1 fun w3 n3 => ?_
      have g3 := g.new n3
      simp(disch:=omega)only[Zu,Zv,Zx,Zz,EZ,↓EP,↓reduceIte,Za,Zb,Zc,Zd,Ze,Zf,Zg,Zj,Zk,Zl,Zm,Zn,Zp,Zq,reduceCtorEq,W_join,k8,k7,q0,q4,q6]
      refine app_num g3.sl rfl n3.rdv (by simp; omega) (by omega) fun v4 w4 a4 => ?_
      have g4 := g3.apd a4
      simp(disch:=omega)only[Zu,Zv,Zx,Zz,EZ,↓EP,↓reduceIte,Za,Zb,Zc,Zd,Ze,Zf,Zg,Zj,Zk,Zl,Zm,Zn,Zp,Zq,reduceCtorEq,W_join,k8,k7,q0,q4,q6]
      refine hN (u.length + 1 - (k + 1)) _ _ (by omega) ⟨k + 1, k + 1, v4, l ++ [foldv (seg (ints u) f k)], by simp(disch:=omega)only[Zu,Zv,Zx,Zz,EZ,↓EP,↓reduceIte,Za,Zb,Zc,Zd,Ze,Zf,Zg,Zj,Zk,Zl,Zm,Zn,Zp,Zq,reduceCtorEq,q6,Int.natCast_add], by simp(disch:=omega)only[Zu,Zv,Zx,Zz,EZ,↓EP,↓reduceIte,Za,Zb,Zc,Zd,Ze,Zf,Zg,Zj,Zk,Zl,Zm,Zn,Zp,Zq,reduceCtorEq,q6,Int.natCast_add], by simp(disch:=omega)only[Zu,Zv,Zx,Zz,EZ,↓EP,↓reduceIte,Za,Zb,Zc,Zd,Ze,Zf,Zg,Zj,Zk,Zl,Zm,Zn,Zp,Zq,reduceCtorEq], by omega, by omega, rfl, by simp; omega, g4, fun he => ?_, fun he => At.first hnext⟩
      have hd0 : (ints u ++ [46]).drop (k + 1) = [] := List.drop_eq_nil_of_le (by simp; omega)
      rw[hd0,arcsGo] at hnext
      exact hnext.symm
 ·have hie : i = u.length + 1 := by omega
  have ht := hend hie
  have hr := hR l ht
  clear hN hat hend
  obtain ⟨XA, xc, rfl, hxc, hXr⟩ := readn g.sl rfl
  have no : (l.length < 2 ∨ 2 < at' l 0 ∨ (at' l 0 < 2 ∧ 40 ≤ at' l 1)) → ∀ w2, Fr w1 w2 nob → K (prb (.slice XA l.length xc) false) w2 := fun h w2 f2 => by
   rw[if_pos h] at hr
   have := hK (.slice XA l.length xc) w2 (g.fr.nb f2) (fun q hq => by rw[hr] at hq; simp at hq)
   rwa [hr] at this
  have yes : ¬ (l.length < 2 ∨ 2 < at' l 0 ∨ (at' l 0 < 2 ∧ 40 ≤ at' l 1)) → ∀ w2, Fr w1 w2 nob → K (prb (.slice XA l.length xc) true) w2 := fun h w2 f2 => by
   rw[if_neg h] at hr
   have := hK (.slice XA l.length xc) w2 (g.fr.nb f2) (fun q hq => by rw[hr] at hq; simp only[Option.some.injEq] at hq; subst hq; exact g.step f2)
   rwa [hr] at this
  by_cases hl2 : l.length < 2
  ·simp(disch:=omega)only[Zu,Zv,Zx,Zz,EZ,↓EP,↓reduceIte,Za,Zb,Zc,Zd,Ze,Zf,Zg,Zj,Zk,Zl,Zm,Zn,Zp,Zq,reduceCtorEq,h6,h4,r0,S_size]
   intro m
   exact no (.inl hl2) _ (Fr.drewN w1 _ nob)
  obtain ⟨xa, rfl, cell⟩ := pos_cellsK hXr (by omega)
  have c0 := cell 0 (by omega)
  have c1 := cell 1 (by omega)
  rw[show ((0 : Nat) : Int) = 0 by rfl] at c0
  rw[show ((1 : Nat) : Int) = 1 by rfl] at c1
  by_cases h2 : 2 < at' l 0
  ·simp(disch:=omega)only[Zu,Zv,Zx,Zz,EZ,↓EP,↓reduceIte,Za,Zb,Zc,Zd,Ze,Zf,Zg,Zj,Zk,Zl,Zm,Zn,Zp,Zq,reduceCtorEq,h6,h4,r0,S_size,c0,c1]
   intro m
   exact no (.inr (.inl h2)) _ (Fr.drewN w1 _ nob)
  by_cases h3 : at' l 0 = 2
  ·rw[h3] at c0
   simp(disch:=omega)only[Zu,Zv,Zx,Zz,EZ,↓EP,↓reduceIte,Za,Zb,Zc,Zd,Ze,Zf,Zg,Zj,Zk,Zl,Zm,Zn,Zp,Zq,reduceCtorEq,h6,h4,r0,S_size,c0,c1]
   intro m
   exact yes (fun h => by rcases h with h | h | h; exact hl2 h; exact h2 h; omega) _ (Fr.drewN w1 _ nob)
  ·have h3f : (at' l 0 = 2) = False := eq_false h3
   by_cases h40 : 40 ≤ at' l 1
   ·simp(disch:=omega)only[Zu,Zv,Zx,Zz,EZ,↓EP,↓reduceIte,Za,Zb,Zc,Zd,Ze,Zf,Zg,Zj,Zk,Zl,Zm,Zn,Zp,Zq,reduceCtorEq,h6,h4,r0,S_size,c0,c1,h3f]
    intro m
    exact no (.inr (.inr ⟨by omega, h40⟩)) _ (Fr.drewN w1 _ nob)
   ·simp(disch:=omega)only[Zu,Zv,Zx,Zz,EZ,↓EP,↓reduceIte,Za,Zb,Zc,Zd,Ze,Zf,Zg,Zj,Zk,Zl,Zm,Zn,Zp,Zq,reduceCtorEq,h6,h4,r0,S_size,c0,c1,h3f]
    intro m
    exact yes (fun h => by rcases h with h | h | h; exact hl2 h; exact h2 h; exact h40 h.2) _ (Fr.drewN w1 _ nob)
end Go.Proofs.YtcgplgpdcfocpaaGreatDoor.Der
end
section
namespace Go.Proofs.YtcgplgpdcfocpaaGreatDoor.Der
open Go Go.RowKit Go.Proofs Go.Proofs.YtcgplgpdcfocpaaGreatDoor.Eng Go.Proofs.YtcgplgpdcfocpaaGreatDoor.Code
attribute [local irreducible] callK S.W opsW scrW scrT
theorem at_app {l pad : List Int} {i : Nat} (h : i < l.length) : at' (l ++ pad) (i : Int) = at' l (i : Int) := by
 rw[atN,atN,List.getD_eq_getElem?_getD,List.getD_eq_getElem?_getD,List.getElem?_append_left h]
set_option maxHeartbeats 4000000 in
theorem rputoid_vw {w : World} {u : List UInt8} (hm : u.length ≤ 1073741824) (K : Value → World → Prop)
  (hK : ∀ v' w', Gw .u8 w w' v' (putOidR (ints u)).1 → K (pr2 v' (putOidR (ints u)).2) w') : callK Tryz.prog 94 [.string (S u)] w K := by
 refine call_of Tryz.func94 Code.h94 (by simp[Code.c94]) ?_
 simp(disch:=omega)only[Zu,Zv,Zx,Zz,EZ,↓EP,↓reduceIte,Za,Zb,Zc,Zd,Ze,Zf,Zg,Zj,Zk,Zl,Zm,Zn,Zp,Zq,reduceCtorEq,Code.c94]
 refine rarcs_vw hm _ fun v1 w1 f1 hg => ?_
 simp only[prb]
 unfold putOidR at hK
 cases hl : arcsR (ints u) with
 | none =>
  rw[hl] at hK
  simp only[Option.isSome_none] at hK ⊢
  simp(disch:=omega)only[Zu,Zv,Zx,Zz,EZ,↓EP,↓reduceIte,Za,Zb,Zc,Zd,Ze,Zf,Zg,Zj,Zk,Zl,Zm,Zn,Zp,Zq,reduceCtorEq,Bool.not_false]
  exact hK _ w1 ((Gw.nil .u8 w).step f1)
 | some l =>
 have g1 := hg l hl
 clear hg
 rw[hl] at hK
 simp only[Option.isSome_some] at hK ⊢
 obtain ⟨hbd, hll, h2, h02⟩ := arcs_bd hl
 rw[ints_len] at hll
 obtain ⟨A, c, rfl, hc, hr⟩ := readn g1.sl rfl
 obtain ⟨ad, rfl, cell⟩ := pos_cellsK hr (by omega)
 simp(disch:=omega)only[Zu,Zv,Zx,Zz,EZ,↓EP,↓reduceIte,Za,Zb,Zc,Zd,Ze,Zf,Zg,Zj,Zk,Zl,Zm,Zn,Zp,Zq,reduceCtorEq,Bool.not_true]
 refine loop_inv (fun t ρ w' => w' = w1 ∧ ∃ i : Nat, ρ 6 = .int .i64 i ∧ i ≤ l.length ∧ t = l.length - i ∧ (l.drop i).any (fun v => decide (2147483647 < v)) = l.any (fun v => decide (2147483647 < v))) l.length ⟨rfl, 0, by simp(disch:=omega)only[Zu,Zv,Zx,Zz,EZ,↓EP,↓reduceIte,Za,Zb,Zc,Zd,Ze,Zf,Zg,Zj,Zk,Zl,Zm,Zn,Zp,Zq,reduceCtorEq], by omega, by omega, by simp⟩ ?_
 rintro t ρ w' hf ⟨rfl, i, h6, hi, rfl, hany⟩ N hN
 have r4 : ρ 4 = .slice (some ad) l.length c := by rw[hf 4 rfl]; simp(disch:=omega)only[Zu,Zv,Zx,Zz,EZ,↓EP,↓reduceIte,Za,Zb,Zc,Zd,Ze,Zf,Zg,Zj,Zk,Zl,Zm,Zn,Zp,Zq,reduceCtorEq]
 clear hf
 by_cases hil : (i : Int) < (l.length : Int)
 ·have ci := cell i (by omega)
  rw[drop_at (show i < l.length by omega), List.any_cons] at hany
  by_cases hb : 2147483647 < at' l (i : Int)
  ·rw[decide_eq_true hb,Bool.true_or] at hany
   rw[if_pos hany.symm] at hK
   simp(disch:=omega)only[Zu,Zv,Zx,Zz,EZ,↓EP,↓reduceIte,Za,Zb,Zc,Zd,Ze,Zf,Zg,Zj,Zk,Zl,Zm,Zn,Zp,Zq,reduceCtorEq,W_join,h6,r4,ci]
   exact hK _ w' ((Gw.nil .u8 w).step f1)
  ·rw[decide_eq_false hb,Bool.false_or] at hany
   simp(disch:=omega)only[Zu,Zv,Zx,Zz,EZ,↓EP,↓reduceIte,Za,Zb,Zc,Zd,Ze,Zf,Zg,Zj,Zk,Zl,Zm,Zn,Zp,Zq,reduceCtorEq,W_join,h6,r4,ci]
   exact hN (l.length - (i + 1)) _ _ (by omega) ⟨rfl, i + 1, by simp(disch:=omega)only[Zu,Zv,Zx,Zz,EZ,↓EP,↓reduceIte,Za,Zb,Zc,Zd,Ze,Zf,Zg,Zj,Zk,Zl,Zm,Zn,Zp,Zq,reduceCtorEq,h6,Int.natCast_add], by omega, rfl, hany⟩
 have hie : i = l.length := by omega
 subst hie
 rw[List.drop_length,List.any_nil] at hany
 rw[if_neg (by rw [← hany]; simp)] at hK
 have hsm : ∀ i : Nat, i < l.length → 0 ≤ at' l (i : Int) ∧ at' l (i : Int) ≤ 2147483647 := fun i hi => by
  have h1 := hbd _ (at_mem hi)
  refine ⟨h1.1, ?_⟩
  apply Int.le_of_not_gt
  intro hgt
  have : l.any (fun v => decide (2147483647 < v)) = true := List.any_eq_true.2 ⟨_, at_mem hi, decide_eq_true hgt⟩
  rw[this] at hany
  simp at hany
 clear hany hN
 have b0 := hsm 0 (by omega)
 have b1 := hsm 1 (by omega)
 rw[show ((0 : Nat) : Int) = 0 by rfl] at b0
 rw[show ((1 : Nat) : Int) = 1 by rfl] at b1
 rcases g1.sl with ⟨hnil, _⟩ | ⟨b, pad, e, hB⟩
 ·subst hnil; simp at h2
 cases e
 have c0 := hB.numN (j := 0) (by simp; omega)
 have c1 := hB.numN (j := 1) (by simp; omega)
 rw[at_app (by omega), show ((0 : Nat) : Int) = 0 by rfl] at c0
 rw[at_app (by omega), show ((1 : Nat) : Int) = 1 by rfl] at c1
 obtain ⟨z, hz⟩ : ∃ z : Nat, at' l 1 + 40 * at' l 0 = (z : Int) := ⟨(at' l 1 + 40 * at' l 0).toNat, by omega⟩
 rw[show (40 * at' l 0 + at' l 1).toNat = z by omega] at hK
 simp(disch:=omega)only[Zu,Zv,Zx,Zz,EZ,↓EP,↓reduceIte,Za,Zb,Zc,Zd,Ze,Zf,Zg,Zj,Zk,Zl,Zm,Zn,Zp,Zq,reduceCtorEq,W_join,h6,r4,c0,c1,hz,Addr.add_lit,Nat.zero_add]
 intro m1
 have hb1 := g1.up b rfl
 refine st_num (hB.fr (Fr.drewN w' m1 nob) (fun x => x)) (by simp; omega) fun w2 p2 => ?_
 have eset : (l ++ pad).set 1 (z : Int) = l.set 1 (z : Int) ++ pad := by rw[List.set_append_left _ _ (by omega)]
 rw[eset] at p2
 have f2b : Fr w' w2 (fun x => x = b) := (Fr.drewN w' m1 _).trans p2.fr (fun x _ h => h)
 have f2 : Fr w w2 nob := f1.trans f2b (fun x hx e => by
  have : x = b := e
  omega)
 have hq2 : l.set 1 (z : Int) = at' l 0 :: (z : Int) :: l.drop 2 := by
  match l, h2 with
  | a :: b :: r, _ => rfl
 have hql : (l.set 1 (z : Int)).length = l.length := by simp
 have hr2 : Rd w2 (some ⟨b, 0, none⟩) (nums .i64 (l.set 1 (z : Int))) := p2.blk.rd 0 (n := l.length) (by rw[List.drop_zero,nums_take,← hql,List.take_left])
 have hqs : ∀ i : Nat, 1 ≤ i → i < l.length → 0 ≤ at' (l.set 1 (z : Int)) (i : Int) ∧ at' (l.set 1 (z : Int)) (i : Int) ≤ 2147483727 := fun i h1 hi => by
  by_cases h : i = 1
  ·subst h
   rw[hq2,atN]
   simp
   omega
  ·have := hsm i hi
   rw[atN,List.getD_eq_getElem?_getD] at this ⊢
   rw[List.getElem?_set_ne (fun e => h e.symm)]
   omega
 have hfin : sevenR z ++ (l.drop 2).flatMap (fun v => sevenR v.toNat) = sevens ((l.set 1 (z : Int)).drop 1) := by
  rw[hq2]; simp[sevens]
 rw[hfin] at hK
 generalize l.set 1 (z : Int) = q at hr2 hqs hql hK
 simp(disch:=omega)only[Zu,Zv,Zx,Zz,EZ,↓EP,↓reduceIte,Za,Zb,Zc,Zd,Ze,Zf,Zg,Zj,Zk,Zl,Zm,Zn,Zp,Zq,reduceCtorEq]
 refine loop_inv (fun t ρ3 w4 => ∃ (i : Nat) (B : Value), ρ3 8 = .int .i64 i ∧ ρ3 7 = B ∧ 1 ≤ i ∧ i ≤ l.length ∧ t = l.length - i ∧ Gw .u8 w2 w4 B (sevens ((q.drop 1).take (i - 1))) ∧ (sevens ((q.drop 1).take (i - 1))).length ≤ 11 * i) (l.length - 1) ⟨1, _, by simp(disch:=omega)only[Zu,Zv,Zx,Zz,EZ,↓EP,↓reduceIte,Za,Zb,Zc,Zd,Ze,Zf,Zg,Zj,Zk,Zl,Zm,Zn,Zp,Zq,reduceCtorEq,Int.natCast_one], by simp(disch:=omega)only[Zu,Zv,Zx,Zz,EZ,↓EP,↓reduceIte,Za,Zb,Zc,Zd,Ze,Zf,Zg,Zj,Zk,Zl,Zm,Zn,Zp,Zq,reduceCtorEq], by omega, by omega, by omega, Gw.nil .u8 w2, by simp[sevens]⟩ ?_
 rintro t ρ3 w4 hf ⟨i, B, k8, k7, hi1, hil2, rfl, G, hlen⟩ N hN
 have q4 : ρ3 4 = .slice (some ⟨b, 0, none⟩) l.length (l.length + pad.length) := by rw[hf 4 rfl]; simp(disch:=omega)only[Zu,Zv,Zx,Zz,EZ,↓EP,↓reduceIte,Za,Zb,Zc,Zd,Ze,Zf,Zg,Zj,Zk,Zl,Zm,Zn,Zp,Zq,reduceCtorEq,r4]
 clear hf
 by_cases hlt : (i : Int) < (l.length : Int)
 ·have cellq : ∀ w5, Fr w2 w5 nob → w5.cell? ⟨b, i, none⟩ = some (.int .i64 (at' q (i : Int))) := fun w5 f => by
   obtain ⟨ad', e', _, hcl⟩ := (hr2.nb f).get (by rw[nums_length]; omega)
   cases e'
   have := hcl.numN (j := i) (by omega)
   rwa [Addr.add_lit, Nat.zero_add] at this
  have bq := hqs i hi1 (by omega)
  obtain ⟨y, hy⟩ : ∃ y : Nat, at' q (i : Int) = (y : Int) := ⟨(at' q (i : Int)).toNat, by omega⟩
  have hst : sevens ((q.drop 1).take (i + 1 - 1)) = sevens ((q.drop 1).take (i - 1)) ++ sevenR y := by
   rw[show i + 1 - 1 = (i - 1) + 1 by omega, take_snoc (by simp; omega), sevens_snoc, at_drop, show 1 + (i - 1) = i by omega, hy, Int.toNat_natCast]
  rw[hy] at cellq
  have ci := cellq w4 G.fr
  have em : (y : Int) % 128 = ((y % 128 : Nat) : Int) := by omega
  simp(disch:=omega)only[Zu,Zv,Zx,Zz,EZ,↓EP,↓reduceIte,Za,Zb,Zc,Zd,Ze,Zf,Zg,Zj,Zk,Zl,Zm,Zn,Zp,Zq,reduceCtorEq,k8,k7,q4,ci,em,Addr.add_lit,Nat.zero_add]
  refine bsl1 fun w5 n5 => ?_
  have ci5 := cellq w5 (G.fr.nb (n5.fr nob))
  have g5 : Gw .u8 w4 w5 (.slice (some ⟨w4.heap.size, 0, none⟩) 1 1) [((y % 128 : Nat) : Int)] := ⟨n5.sl, fun b e => by cases e; exact Nat.le_refl _, n5.fr nob⟩
  simp(disch:=omega)only[Zu,Zv,Zx,Zz,EZ,↓EP,↓reduceIte,Za,Zb,Zc,Zd,Ze,Zf,Zg,Zj,Zk,Zl,Zm,Zn,Zp,Zq,reduceCtorEq,k8,k7,q4,ci5,Addr.add_lit,Nat.zero_add]
  refine loop_inv (fun t ρ6 w6 => ∃ (x f : Nat) (C : Value) (lst : List Int), ρ6 10 = .int .i64 x ∧ ρ6 9 = C ∧ Gw .u8 w4 w6 C lst ∧ t = x ∧ x < 128 ^ f ∧ f ≤ 10 ∧ lst.length + f ≤ 11 ∧ x < 9223372036854775808 ∧ sevenHi f x ++ lst = sevenR y) (y / 128) ⟨y / 128, 10, _, _, by simp(disch:=omega)only[Zu,Zv,Zx,Zz,EZ,↓EP,↓reduceIte,Za,Zb,Zc,Zd,Ze,Zf,Zg,Zj,Zk,Zl,Zm,Zn,Zp,Zq,reduceCtorEq,Int.natCast_ediv], by simp(disch:=omega)only[Zu,Zv,Zx,Zz,EZ,↓EP,↓reduceIte,Za,Zb,Zc,Zd,Ze,Zf,Zg,Zj,Zk,Zl,Zm,Zn,Zp,Zq,reduceCtorEq], g5, rfl, by omega, by omega, by simp, by omega, by simp[sevenR]⟩ ?_
  rintro t ρ6 w6 hf6 ⟨x, f, C, lst, k10, k9, gC, ht, hx, hf10, hl11, hx63, hsv⟩ N6 hN6
  have s4 : ρ6 4 = .slice (some ⟨b, 0, none⟩) l.length (l.length + pad.length) := by rw[hf6 4 rfl]; simp(disch:=omega)only[Zu,Zv,Zx,Zz,EZ,↓EP,↓reduceIte,Za,Zb,Zc,Zd,Ze,Zf,Zg,Zj,Zk,Zl,Zm,Zn,Zp,Zq,reduceCtorEq,q4]
  have s7 : ρ6 7 = B := by rw[hf6 7 rfl]; simp(disch:=omega)only[Zu,Zv,Zx,Zz,EZ,↓EP,↓reduceIte,Za,Zb,Zc,Zd,Ze,Zf,Zg,Zj,Zk,Zl,Zm,Zn,Zp,Zq,reduceCtorEq,k7]
  have s8 : ρ6 8 = .int .i64 i := by rw[hf6 8 rfl]; simp(disch:=omega)only[Zu,Zv,Zx,Zz,EZ,↓EP,↓reduceIte,Za,Zb,Zc,Zd,Ze,Zf,Zg,Zj,Zk,Zl,Zm,Zn,Zp,Zq,reduceCtorEq,k8]
  clear hf6
  obtain ⟨CA, cc, rfl, hcc, hCr⟩ := readn gC.sl rfl
  by_cases hx0 : x = 0
  ·rw[hx0] at k10 hsv
   rw[sevenHi_z,List.nil_append] at hsv
   subst hsv
   clear hN6
   have hs11 := seven_len y
   simp(disch:=omega)only[Zu,Zv,Zx,Zz,EZ,↓EP,↓reduceIte,Za,Zb,Zc,Zd,Ze,Zf,Zg,Zj,Zk,Zl,Zm,Zn,Zp,Zq,reduceCtorEq,k10,k9,s7,s8,Int.natCast_zero]
   refine app_num (G.step gC.fr).sl rfl hCr (by omega) (by omega) fun v7 w7 a7 => ?_
   have g7 := (G.step gC.fr).apd a7
   rw[← hst] at g7
   simp(disch:=omega)only[Zu,Zv,Zx,Zz,EZ,↓EP,↓reduceIte,Za,Zb,Zc,Zd,Ze,Zf,Zg,Zj,Zk,Zl,Zm,Zn,Zp,Zq,reduceCtorEq,k10,k9,s7,s8]
   exact hN (l.length - (i + 1)) _ _ (by omega) ⟨i + 1, v7, by simp(disch:=omega)only[Zu,Zv,Zx,Zz,EZ,↓EP,↓reduceIte,Za,Zb,Zc,Zd,Ze,Zf,Zg,Zj,Zk,Zl,Zm,Zn,Zp,Zq,reduceCtorEq,s8,Int.natCast_add], by simp(disch:=omega)only[Zu,Zv,Zx,Zz,EZ,↓EP,↓reduceIte,Za,Zb,Zc,Zd,Ze,Zf,Zg,Zj,Zk,Zl,Zm,Zn,Zp,Zq,reduceCtorEq], by omega, by omega, rfl, g7, by rw[hst,List.length_append]; omega⟩
  ·obtain ⟨f, rfl⟩ : ∃ g, f = g + 1 := by
    cases f with
    | zero => simp at hx; omega
    | succ f => exact ⟨f, rfl⟩
   rw[Nat.pow_succ] at hx
   rw[sevenHi,if_neg hx0] at hsv
   have em2 : (x : Int) % 128 + 128 = ((x % 128 + 128 : Nat) : Int) := by omega
   simp(disch:=omega)only[Zu,Zv,Zx,Zz,EZ,↓EP,↓reduceIte,Za,Zb,Zc,Zd,Ze,Zf,Zg,Zj,Zk,Zl,Zm,Zn,Zp,Zq,reduceCtorEq,k10,k9,em2]
   refine bsl1 fun w7 n7 => ?_
   simp(disch:=omega)only[Zu,Zv,Zx,Zz,EZ,↓EP,↓reduceIte,Za,Zb,Zc,Zd,Ze,Zf,Zg,Zj,Zk,Zl,Zm,Zn,Zp,Zq,reduceCtorEq,k10,k9]
   refine app_num n7.sl rfl (hCr.nb (n7.fr nob)) (by simp; omega) (by omega) fun v8 w8 a8 => ?_
   have g8 : Gw .u8 w6 w8 v8 (((x % 128 + 128 : Nat) : Int) :: lst) :=
    (⟨n7.sl, fun b e => by cases e; exact Nat.le_refl _, n7.fr nob⟩ : Gw .u8 w6 w7 (.slice (some ⟨w6.heap.size, 0, none⟩) 1 1) [((x % 128 + 128 : Nat) : Int)]).apd a8
   simp(disch:=omega)only[Zu,Zv,Zx,Zz,EZ,↓EP,↓reduceIte,Za,Zb,Zc,Zd,Ze,Zf,Zg,Zj,Zk,Zl,Zm,Zn,Zp,Zq,reduceCtorEq,k10]
   exact hN6 (x / 128) _ _ (by omega) ⟨x / 128, f, v8, _, by simp(disch:=omega)only[Zu,Zv,Zx,Zz,EZ,↓EP,↓reduceIte,Za,Zb,Zc,Zd,Ze,Zf,Zg,Zj,Zk,Zl,Zm,Zn,Zp,Zq,reduceCtorEq,k10,Int.natCast_ediv], by simp(disch:=omega)only[Zu,Zv,Zx,Zz,EZ,↓EP,↓reduceIte,Za,Zb,Zc,Zd,Ze,Zf,Zg,Zj,Zk,Zl,Zm,Zn,Zp,Zq,reduceCtorEq], g8.from gC.fr, rfl, by omega, by omega, by simp at hl11 ⊢; omega, by omega, by rw[← hsv]; simp⟩
 ·have hie : i = l.length := by omega
  subst hie
  rw[List.take_of_length_le (by simp; omega)] at G
  simp(disch:=omega)only[Zu,Zv,Zx,Zz,EZ,↓EP,↓reduceIte,Za,Zb,Zc,Zd,Ze,Zf,Zg,Zj,Zk,Zl,Zm,Zn,Zp,Zq,reduceCtorEq,k8,k7,q4]
  exact hK _ w4 (G.from f2)
end Go.Proofs.YtcgplgpdcfocpaaGreatDoor.Der
end
section
namespace Go.Proofs.YtcgplgpdcfocpaaGreatDoor.Der
open Go Go.RowKit Go.Proofs Go.Proofs.YtcgplgpdcfocpaaGreatDoor.Eng Go.Proofs.YtcgplgpdcfocpaaGreatDoor.Code
attribute [local irreducible] callK S.W opsW scrW scrT
open Go.Proofs.YtcgplgpdcfocpaaGreatDoor.Spec
def oidU (alg : Int) : List UInt8 :=
 if alg = 1 then [49, 46, 51, 46, 49, 52, 46, 51, 46, 50, 46, 50, 54]
 else if alg = 2 then [50, 46, 49, 54, 46, 56, 52, 48, 46, 49, 46, 49, 48, 49, 46, 51, 46, 52, 46, 50, 46, 49]
 else if alg = 3 then [50, 46, 49, 54, 46, 56, 52, 48, 46, 49, 46, 49, 48, 49, 46, 51, 46, 52, 46, 50, 46, 50]
 else [50, 46, 49, 54, 46, 56, 52, 48, 46, 49, 46, 49, 48, 49, 46, 51, 46, 52, 46, 50, 46, 51]
def oidP (alg : Int) : List Int := (putOidR (ints (oidU alg))).1
def infoR (alg : Int) (sum : List Int) : List Int :=
 (putR 0 16 true [(putR 0 16 true [(putR 0 6 false [oidP alg]).1, (putR 0 5 false []).1]).1, (putR 0 4 false [sum]).1]).1
def padR (alg : Int) (sum : List Int) (n : Int) : List Int × Int :=
 if sizeI alg = 0 ∨ (sum.length : Int) ≠ sizeI alg ∨ 2048 < n then ([], 1)
 else if n < (infoR alg sum).length + 11 then ([], 2)
 else ([0, 1] ++ List.replicate (n.toNat - (infoR alg sum).length - 3) 255 ++ [0] ++ infoR alg sum, 0)
theorem putR_len (cls tag : Int) (cons : Bool) (ls : List (List Int)) : (putR cls tag cons ls).1.length ≤ 17 + (ls.map List.length).sum := by
 unfold putR
 split
 ·simp
 ·split
  ·simp
  ·rw[headR_eq]
   simp only[List.length_append,List.length_flatten]
   have h1 := headA_len (firstR cls cons) tag
   have h2 := lenB_len (ls.map List.length).sum
   omega
theorem oid_len (alg : Int) : (oidP alg).length ≤ 30 := by
 have h1 : (putOidR (ints (oidU 1))).1.length ≤ 30 := by decide +kernel
 have h2 : (putOidR (ints (oidU 2))).1.length ≤ 30 := by decide +kernel
 have h3 : (putOidR (ints (oidU 3))).1.length ≤ 30 := by decide +kernel
 have h4 : (putOidR (ints (oidU 4))).1.length ≤ 30 := by decide +kernel
 unfold oidP
 by_cases e1 : alg = 1
 ·subst e1; exact h1
 by_cases e2 : alg = 2
 ·subst e2; exact h2
 by_cases e3 : alg = 3
 ·subst e3; exact h3
 have : oidU alg = oidU 4 := by unfold oidU; rw[if_neg e1,if_neg e2,if_neg e3]; rfl
 rw[this]; exact h4
theorem info_len {alg : Int} {sum : List Int} (h : sum.length ≤ 64) : (infoR alg sum).length ≤ 200 := by
 unfold infoR
 have a := putR_len 0 16 true [(putR 0 16 true [(putR 0 6 false [oidP alg]).1, (putR 0 5 false []).1]).1, (putR 0 4 false [sum]).1]
 have b := putR_len 0 16 true [(putR 0 6 false [oidP alg]).1, (putR 0 5 false []).1]
 have c := putR_len 0 6 false [oidP alg]
 have d := putR_len 0 5 false []
 have e := putR_len 0 4 false [sum]
 have f := oid_len alg
 simp only[List.map_cons,List.map_nil,List.sum_cons,List.sum_nil] at a b c d e
 omega
theorem oidU_len (alg : Int) : (oidU alg).length ≤ 22 := by
 unfold oidU
 repeat' split
 all_goals decide
theorem LV.emp (w : World) : LV w (.slice none 0 0) [] := ⟨⟨none, 0, [], rfl, Nat.le_refl _, Rd.nil _ _, rfl, fun i v l h => by simp at h⟩⟩
theorem LV.one {w w' : World} {A : Option Addr} {c : Nat} {p : List Int} (n : New w w' [.slice A p.length c]) (hp : Vw .u8 w (.slice A p.length c) p) : LV w' (.slice (some ⟨w.heap.size, 0, none⟩) 1 1) [p] := by
 refine ⟨⟨_, _, _, rfl, Nat.le_refl _, n.rdv, rfl, fun i v l h1 h2 => ?_⟩⟩
 match i, h1, h2 with
 | 0, h1, h2 => simp at h1 h2; subst h1 h2; exact hp.nb (n.fr nob)
 | i + 1, h1, h2 => simp at h1
theorem LV.two {w w' : World} {A B : Option Addr} {c d : Nat} {p q : List Int} (n : New w w' [.slice A p.length c, .slice B q.length d]) (hp : Vw .u8 w (.slice A p.length c) p) (hq : Vw .u8 w (.slice B q.length d) q) : LV w' (.slice (some ⟨w.heap.size, 0, none⟩) 2 2) [p, q] := by
 refine ⟨⟨_, _, _, rfl, Nat.le_refl _, n.rdv, rfl, fun i v l h1 h2 => ?_⟩⟩
 match i, h1, h2 with
 | 0, h1, h2 => simp at h1 h2; subst h1 h2; exact hp.nb (n.fr nob)
 | 1, h1, h2 => simp at h1 h2; subst h1 h2; exact hq.nb (n.fr nob)
 | i + 2, h1, h2 => simp at h1
theorem oid_k {alg : Int} {w : World} {K : Value → World → Prop} (hK : K (.string (S (oidU alg))) w) : callK Tryz.prog 76 [.int .i64 alg] w K := by
 refine call_of Tryz.func76 Code.h76 (by simp[Code.c76]) ?_
 unfold oidU at hK
 by_cases e1 : alg = 1
 ·simp(disch:=omega)only[Zu,Zv,Zx,Zz,EZ,↓EP,↓reduceIte,Za,Zb,Zc,Zd,Ze,Zf,Zg,Zj,Zk,Zl,Zm,Zn,Zp,Zq,reduceCtorEq,Code.c76,e1]
  rw[if_pos e1] at hK; exact hK
 by_cases e2 : alg = 2
 ·simp(disch:=omega)only[Zu,Zv,Zx,Zz,EZ,↓EP,↓reduceIte,Za,Zb,Zc,Zd,Ze,Zf,Zg,Zj,Zk,Zl,Zm,Zn,Zp,Zq,reduceCtorEq,Code.c76,e1,e2]
  rw[if_neg e1,if_pos e2] at hK; exact hK
 by_cases e3 : alg = 3
 ·simp(disch:=omega)only[Zu,Zv,Zx,Zz,EZ,↓EP,↓reduceIte,Za,Zb,Zc,Zd,Ze,Zf,Zg,Zj,Zk,Zl,Zm,Zn,Zp,Zq,reduceCtorEq,Code.c76,e1,e2,e3]
  rw[if_neg e1,if_neg e2,if_pos e3] at hK; exact hK
 simp(disch:=omega)only[Zu,Zv,Zx,Zz,EZ,↓EP,↓reduceIte,Za,Zb,Zc,Zd,Ze,Zf,Zg,Zj,Zk,Zl,Zm,Zn,Zp,Zq,reduceCtorEq,Code.c76,e1,e2,e3]
 rw[if_neg e1,if_neg e2,if_neg e3] at hK; exact hK
theorem roid_k {alg : Int} {w : World} {K : Value → World → Prop} (hK : K (.string (S (oidU alg))) w) : callK Tryz.prog 57 [.int .i64 alg] w K := by
 refine call_of Tryz.func57 Code.h57 (by simp[Code.c57]) ?_
 unfold oidU at hK
 by_cases e1 : alg = 1
 ·simp(disch:=omega)only[Zu,Zv,Zx,Zz,EZ,↓EP,↓reduceIte,Za,Zb,Zc,Zd,Ze,Zf,Zg,Zj,Zk,Zl,Zm,Zn,Zp,Zq,reduceCtorEq,Code.c57,e1]
  rw[if_pos e1] at hK; exact hK
 by_cases e2 : alg = 2
 ·simp(disch:=omega)only[Zu,Zv,Zx,Zz,EZ,↓EP,↓reduceIte,Za,Zb,Zc,Zd,Ze,Zf,Zg,Zj,Zk,Zl,Zm,Zn,Zp,Zq,reduceCtorEq,Code.c57,e1,e2]
  rw[if_neg e1,if_pos e2] at hK; exact hK
 by_cases e3 : alg = 3
 ·simp(disch:=omega)only[Zu,Zv,Zx,Zz,EZ,↓EP,↓reduceIte,Za,Zb,Zc,Zd,Ze,Zf,Zg,Zj,Zk,Zl,Zm,Zn,Zp,Zq,reduceCtorEq,Code.c57,e1,e2,e3]
  rw[if_neg e1,if_neg e2,if_pos e3] at hK; exact hK
 simp(disch:=omega)only[Zu,Zv,Zx,Zz,EZ,↓EP,↓reduceIte,Za,Zb,Zc,Zd,Ze,Zf,Zg,Zj,Zk,Zl,Zm,Zn,Zp,Zq,reduceCtorEq,Code.c57,e1,e2,e3]
 rw[if_neg e1,if_neg e2,if_neg e3] at hK; exact hK
end Go.Proofs.YtcgplgpdcfocpaaGreatDoor.Der
end
section
namespace Go.Proofs.YtcgplgpdcfocpaaGreatDoor.Der
open Go Go.RowKit Go.Proofs Go.Proofs.YtcgplgpdcfocpaaGreatDoor.Eng Go.Proofs.YtcgplgpdcfocpaaGreatDoor.Code
attribute [local irreducible] callK S.W opsW scrW scrT
open Go.Proofs.YtcgplgpdcfocpaaGreatDoor.Spec
attribute [local irreducible] putR putOidR
theorem len63 {p : List Int} (h : p.length ≤ 1000) : ∀ l ∈ [p], l.length ≤ 9223372036854775807 := fun l hl => by
 rw[List.mem_singleton] at hl; subst hl; omega
theorem len63b {p q : List Int} (h : p.length ≤ 1000) (h' : q.length ≤ 1000) : ∀ l ∈ [p, q], l.length ≤ 9223372036854775807 := fun l hl => by
 simp only[List.mem_cons,List.not_mem_nil,or_false] at hl
 rcases hl with rfl | rfl <;> omega
set_option maxHeartbeats 4000000 in
theorem info_k {alg : Int} {sum : List Int} {v : Value} {w : World} (hv : Vw .u8 w v sum) (hs : sum.length ≤ 64) {K : Value → World → Prop} (hK : ∀ v' w', Gw .u8 w w' v' (infoR alg sum) → K v' w') : callK Tryz.prog 44 [.int .i64 alg, v] w K := by
 refine call_of Tryz.func44 Code.h44 (by simp[Code.c44]) ?_
 have hv0 := hv
 obtain ⟨A, c, rfl, hc, hr⟩ := hv0
 have lo : (putOidR (ints (oidU alg))).1.length ≤ 30 := oid_len alg
 have l6 := putR_len 0 6 false [(putOidR (ints (oidU alg))).1]
 have l5 := putR_len 0 5 false []
 have la := putR_len 0 16 true [(putR 0 6 false [(putOidR (ints (oidU alg))).1]).1, (putR 0 5 false []).1]
 have l4 := putR_len 0 4 false [sum]
 simp only[List.map_cons,List.map_nil,List.sum_cons,List.sum_nil] at la l4 l5 l6
 have b2 : (2 : Int) ≤ 3 := by decide
 simp(disch:=omega)only[Zu,Zv,Zx,Zz,EZ,↓EP,↓reduceIte,Za,Zb,Zc,Zd,Ze,Zf,Zg,Zj,Zk,Zl,Zm,Zn,Zp,Zq,reduceCtorEq,Code.c44]
 refine oid_k ?_
 simp(disch:=omega)only[Zu,Zv,Zx,Zz,EZ,↓EP,↓reduceIte,Za,Zb,Zc,Zd,Ze,Zf,Zg,Zj,Zk,Zl,Zm,Zn,Zp,Zq,reduceCtorEq]
 refine putoid_vw (by have := oidU_len alg; omega) _ fun v1 w1 g1 => ?_
 obtain ⟨A1, c1, rfl, hc1, hr1, _⟩ := g1.sl.read
 simp(disch:=omega)only[Zu,Zv,Zx,Zz,EZ,↓EP,↓reduceIte,Za,Zb,Zc,Zd,Ze,Zf,Zg,Zj,Zk,Zl,Zm,Zn,Zp,Zq,reduceCtorEq,pr2]
 refine bslS1 fun w2 n2 => ?_
 simp(disch:=omega)only[Zu,Zv,Zx,Zz,EZ,↓EP,↓reduceIte,Za,Zb,Zc,Zd,Ze,Zf,Zg,Zj,Zk,Zl,Zm,Zn,Zp,Zq,reduceCtorEq]
 refine put_vw (LV.one n2 g1.vw) (by decide) (by decide) (by simp) (len63 (by omega)) _ fun v3 w3 g3 => ?_
 obtain ⟨A3, c3, rfl, hc3, hr3, _⟩ := g3.sl.read
 simp(disch:=omega)only[Zu,Zv,Zx,Zz,EZ,↓EP,↓reduceIte,Za,Zb,Zc,Zd,Ze,Zf,Zg,Zj,Zk,Zl,Zm,Zn,Zp,Zq,reduceCtorEq,pr2]
 refine put_vw (LV.emp w3) (by decide) (by decide) (by decide) (fun l hl => by simp at hl) _ fun v4 w4 g4 => ?_
 obtain ⟨A4, c4, rfl, hc4, hr4, _⟩ := g4.sl.read
 simp(disch:=omega)only[Zu,Zv,Zx,Zz,EZ,↓EP,↓reduceIte,Za,Zb,Zc,Zd,Ze,Zf,Zg,Zj,Zk,Zl,Zm,Zn,Zp,Zq,reduceCtorEq,pr2]
 refine bslS2 fun w5 n5 => ?_
 simp(disch:=omega)only[Zu,Zv,Zx,Zz,EZ,↓EP,↓reduceIte,Za,Zb,Zc,Zd,Ze,Zf,Zg,Zj,Zk,Zl,Zm,Zn,Zp,Zq,reduceCtorEq]
 refine put_vw (LV.two n5 (g3.vw.nb g4.fr) g4.vw) (by decide) (by decide) (by simp) (len63b (by omega) (by omega)) _ fun v6 w6 g6 => ?_
 obtain ⟨A6, c6, rfl, hc6, hr6, _⟩ := g6.sl.read
 have f2 := n2.fr nob
 have f5 := n5.fr nob
 have fa : Fr w w6 nob := ((((g1.fr.nb f2).nb g3.fr).nb g4.fr).nb f5).nb g6.fr
 have hv6 : Vw .u8 w6 (.slice A sum.length c) sum := hv.nb fa
 simp(disch:=omega)only[Zu,Zv,Zx,Zz,EZ,↓EP,↓reduceIte,Za,Zb,Zc,Zd,Ze,Zf,Zg,Zj,Zk,Zl,Zm,Zn,Zp,Zq,reduceCtorEq,pr2]
 refine bslS1 fun w7 n7 => ?_
 have f7 := n7.fr nob
 simp(disch:=omega)only[Zu,Zv,Zx,Zz,EZ,↓EP,↓reduceIte,Za,Zb,Zc,Zd,Ze,Zf,Zg,Zj,Zk,Zl,Zm,Zn,Zp,Zq,reduceCtorEq]
 refine put_vw (LV.one n7 hv6) (by decide) (by decide) (by simp) (len63 (by omega)) _ fun v8 w8 g8 => ?_
 obtain ⟨A8, c8, rfl, hc8, hr8, _⟩ := g8.sl.read
 simp(disch:=omega)only[Zu,Zv,Zx,Zz,EZ,↓EP,↓reduceIte,Za,Zb,Zc,Zd,Ze,Zf,Zg,Zj,Zk,Zl,Zm,Zn,Zp,Zq,reduceCtorEq,pr2]
 refine bslS2 fun w9 n9 => ?_
 have f9 := n9.fr nob
 simp(disch:=omega)only[Zu,Zv,Zx,Zz,EZ,↓EP,↓reduceIte,Za,Zb,Zc,Zd,Ze,Zf,Zg,Zj,Zk,Zl,Zm,Zn,Zp,Zq,reduceCtorEq]
 refine put_vw (LV.two n9 ((g6.vw.nb f7).nb g8.fr) g8.vw) (by decide) (by decide) (by simp) (len63b (by omega) (by omega)) _ fun v10 w10 g10 => ?_
 obtain ⟨A10, c10, rfl, hc10, hr10, _⟩ := g10.sl.read
 have fb : Fr w w9 nob := ((fa.nb f7).nb g8.fr).nb f9
 simp(disch:=omega)only[Zu,Zv,Zx,Zz,EZ,↓EP,↓reduceIte,Za,Zb,Zc,Zd,Ze,Zf,Zg,Zj,Zk,Zl,Zm,Zn,Zp,Zq,reduceCtorEq,pr2]
 refine hK _ w10 ⟨g10.sl, fun b e => ?_, fb.nb g10.fr⟩
 have := g10.up b e
 have := fb.size
 omega
end Go.Proofs.YtcgplgpdcfocpaaGreatDoor.Der
end
section
namespace Go.Proofs.YtcgplgpdcfocpaaGreatDoor.Der
open Go Go.RowKit Go.Proofs Go.Proofs.YtcgplgpdcfocpaaGreatDoor.Eng Go.Proofs.YtcgplgpdcfocpaaGreatDoor.Code
attribute [local irreducible] callK S.W opsW scrW scrT
open Go.Proofs.YtcgplgpdcfocpaaGreatDoor.Spec
attribute [local irreducible] putR putOidR infoR
theorem known_k {alg : Int} {sum : List Int} {A : Option Addr} {c : Nat} {w : World} (hs : sum.length ≤ 9223372036854775807) {K : Value → World → Prop} (hK : K (.bool (decide (0 < sizeI alg) && decide ((sum.length : Int) = sizeI alg))) w) : callK Tryz.prog 26 [.int .i64 alg, .slice A sum.length c] w K := by
 refine call_of Tryz.func26 Code.h26 (by simp[Code.c26]) ?_
 simp(disch:=omega)only[Zu,Zv,Zx,Zz,EZ,↓EP,↓reduceIte,Za,Zb,Zc,Zd,Ze,Zf,Zg,Zj,Zk,Zl,Zm,Zn,Zp,Zq,reduceCtorEq,Code.c26]
 refine size_spec alg _ _ ?_
 by_cases c0 : 0 < sizeI alg
 ·simp(disch:=omega)only[Zu,Zv,Zx,Zz,EZ,↓EP,↓reduceIte,Za,Zb,Zc,Zd,Ze,Zf,Zg,Zj,Zk,Zl,Zm,Zn,Zp,Zq,reduceCtorEq,c0]
  refine size_spec alg _ _ ?_
  by_cases c1 : (sum.length : Int) = sizeI alg
  ·rw[decide_eq_true c0,decide_eq_true c1] at hK
   simp(disch:=omega)only[Zu,Zv,Zx,Zz,EZ,↓EP,↓reduceIte,Za,Zb,Zc,Zd,Ze,Zf,Zg,Zj,Zk,Zl,Zm,Zn,Zp,Zq,reduceCtorEq,c0,c1]
   exact hK
  ·rw[decide_eq_true c0,decide_eq_false c1] at hK
   simp(disch:=omega)only[Zu,Zv,Zx,Zz,EZ,↓EP,↓reduceIte,Za,Zb,Zc,Zd,Ze,Zf,Zg,Zj,Zk,Zl,Zm,Zn,Zp,Zq,reduceCtorEq,c0,c1]
   exact hK
 ·rw[decide_eq_false c0,Bool.false_and] at hK
  simp(disch:=omega)only[Zu,Zv,Zx,Zz,EZ,↓EP,↓reduceIte,Za,Zb,Zc,Zd,Ze,Zf,Zg,Zj,Zk,Zl,Zm,Zn,Zp,Zq,reduceCtorEq,c0]
  exact hK
theorem sizeI_nn (alg : Int) : 0 ≤ sizeI alg ∧ sizeI alg ≤ 64 := by
 unfold sizeI
 repeat' split
 all_goals omega
set_option maxHeartbeats 4000000 in
theorem pad_k {alg n : Int} {sum : List Int} {v : Value} {w : World} (hn : -9223372036854775808 ≤ n ∧ n ≤ 9223372036854775807) (hv : Vw .u8 w v sum) (hs : sum.length ≤ 9223372036854775807) {K : Value → World → Prop}
  (hK : ∀ v' w', Gw .u8 w w' v' (padR alg sum n).1 → K (pr2 v' (padR alg sum n).2) w') : callK Tryz.prog 23 [.int .i64 alg, v, .int .i64 n] w K := by
 refine call_of Tryz.func23 Code.h23 (by simp[Code.c23]) ?_
 have hv0 := hv
 obtain ⟨A, c, rfl, hc, hr⟩ := hv0
 have hz := sizeI_nn alg
 have bad1 : (sizeI alg = 0 ∨ (sum.length : Int) ≠ sizeI alg ∨ 2048 < n) → K (pr2 (.slice none 0 0) 1) w := fun h => by
  have e : padR alg sum n = ([], 1) := if_pos h
  rw[e] at hK
  exact hK _ _ (Gw.nil _ _)
 simp(disch:=omega)only[Zu,Zv,Zx,Zz,EZ,↓EP,↓reduceIte,Za,Zb,Zc,Zd,Ze,Zf,Zg,Zj,Zk,Zl,Zm,Zn,Zp,Zq,reduceCtorEq,Code.c23]
 refine known_k hs ?_
 by_cases c0 : 0 < sizeI alg ∧ (sum.length : Int) = sizeI alg
 rotate_left
 ·have : (decide (0 < sizeI alg) && decide ((sum.length : Int) = sizeI alg)) = false := by
   by_cases h : 0 < sizeI alg
   ·have : ¬ (sum.length : Int) = sizeI alg := fun e => c0 ⟨h, e⟩
    simp[this]
   ·simp[h]
  rw[this]
  simp(disch:=omega)only[Zu,Zv,Zx,Zz,EZ,↓EP,↓reduceIte,Za,Zb,Zc,Zd,Ze,Zf,Zg,Zj,Zk,Zl,Zm,Zn,Zp,Zq,reduceCtorEq,Bool.not_false]
  exact bad1 (by omega)
 obtain ⟨c1, c2⟩ := c0
 rw[decide_eq_true c1,decide_eq_true c2,Bool.true_and]
 by_cases c3 : 2048 < n
 ·simp(disch:=omega)only[Zu,Zv,Zx,Zz,EZ,↓EP,↓reduceIte,Za,Zb,Zc,Zd,Ze,Zf,Zg,Zj,Zk,Zl,Zm,Zn,Zp,Zq,reduceCtorEq,Bool.not_true,c3]
  exact bad1 (.inr (.inr c3))
 have hR : padR alg sum n = if n < (infoR alg sum).length + 11 then ([], 2) else ([0, 1] ++ List.replicate (n.toNat - (infoR alg sum).length - 3) 255 ++ [0] ++ infoR alg sum, 0) := if_neg (by omega)
 have hil := info_len (alg := alg) (sum := sum) (by omega)
 simp(disch:=omega)only[Zu,Zv,Zx,Zz,EZ,↓EP,↓reduceIte,Za,Zb,Zc,Zd,Ze,Zf,Zg,Zj,Zk,Zl,Zm,Zn,Zp,Zq,reduceCtorEq,Bool.not_true,c3]
 refine info_k hv (by omega) fun v1 w1 g1 => ?_
 obtain ⟨A1, d1, rfl, hd1, hr1, _⟩ := g1.sl.read
 by_cases c4 : n < (infoR alg sum).length + 11
 ·rw[if_pos c4] at hR
  rw[hR] at hK
  simp(disch:=omega)only[Zu,Zv,Zx,Zz,EZ,↓EP,↓reduceIte,Za,Zb,Zc,Zd,Ze,Zf,Zg,Zj,Zk,Zl,Zm,Zn,Zp,Zq,reduceCtorEq,c4]
  exact hK _ _ ⟨Sl.nil _ _, (fun b e => by cases e), g1.fr⟩
 rw[if_neg c4] at hR
 rw[hR] at hK
 obtain ⟨q, hq⟩ : ∃ q : Nat, n = (infoR alg sum).length + 3 + q := ⟨(n - (infoR alg sum).length - 3).toNat, by omega⟩
 have hq1 : n.toNat - (infoR alg sum).length - 3 = q := by omega
 rw[hq1] at hK
 simp(disch:=omega)only[Zu,Zv,Zx,Zz,EZ,↓EP,↓reduceIte,Za,Zb,Zc,Zd,Ze,Zf,Zg,Zj,Zk,Zl,Zm,Zn,Zp,Zq,reduceCtorEq,c4]
 refine bsl2 fun w2 n2 => ?_
 have G2 : Gw .u8 w1 w2 (.slice (some ⟨w1.heap.size, 0, none⟩) 2 2) [0, 1] := ⟨n2.sl, fun b e => by cases e; exact Nat.le_refl _, n2.fr nob⟩
 simp(disch:=omega)only[Zu,Zv,Zx,Zz,EZ,↓EP,↓reduceIte,Za,Zb,Zc,Zd,Ze,Zf,Zg,Zj,Zk,Zl,Zm,Zn,Zp,Zq,reduceCtorEq]
 refine bsl1 fun w3 n3 => ?_
 have f3 := n3.fr nob
 have e1 : n - ((infoR alg sum).length : Int) - 3 = (q : Int) := by omega
 simp(disch:=omega)only[Zu,Zv,Zx,Zz,EZ,↓EP,↓reduceIte,Za,Zb,Zc,Zd,Ze,Zf,Zg,Zj,Zk,Zl,Zm,Zn,Zp,Zq,reduceCtorEq,e1]
 refine repeat_k n3.rdl (by omega) (by omega) fun A4 d4 w4 hd4 hr4 f4 => ?_
 simp(disch:=omega)only[Zu,Zv,Zx,Zz,EZ,↓EP,↓reduceIte,Za,Zb,Zc,Zd,Ze,Zf,Zg,Zj,Zk,Zl,Zm,Zn,Zp,Zq,reduceCtorEq]
 refine app_num ((G2.step f3).step f4).sl (by simp) hr4 (by simp; omega) (by decide) fun v5 w5 a5 => ?_
 have G5 := ((G2.step f3).step f4).apd a5
 obtain ⟨A5, d5, rfl, _, _, _⟩ := G5.sl.read
 simp(disch:=omega)only[Zu,Zv,Zx,Zz,EZ,↓EP,↓reduceIte,Za,Zb,Zc,Zd,Ze,Zf,Zg,Zj,Zk,Zl,Zm,Zn,Zp,Zq,reduceCtorEq]
 refine bsl1 fun w6 n6 => ?_
 have f6 := n6.fr nob
 simp(disch:=omega)only[Zu,Zv,Zx,Zz,EZ,↓EP,↓reduceIte,Za,Zb,Zc,Zd,Ze,Zf,Zg,Zj,Zk,Zl,Zm,Zn,Zp,Zq,reduceCtorEq]
 refine app_num (G5.step f6).sl rfl n6.rdl (by simp; omega) (by decide) fun v7 w7 a7 => ?_
 have G7 := (G5.step f6).apd a7
 obtain ⟨A7, d7, rfl, _, _, _⟩ := G7.sl.read
 have hr8 : Rd w7 A1 (nums .u8 (infoR alg sum)) := hr1.nb G7.fr
 simp(disch:=omega)only[Zu,Zv,Zx,Zz,EZ,↓EP,↓reduceIte,Za,Zb,Zc,Zd,Ze,Zf,Zg,Zj,Zk,Zl,Zm,Zn,Zp,Zq,reduceCtorEq]
 refine app_num G7.sl rfl hr8 (by simp; omega) (by decide) fun v8 w8 a8 => ?_
 have G8 := G7.apd a8
 simp(disch:=omega)only[Zu,Zv,Zx,Zz,EZ,↓EP,↓reduceIte,Za,Zb,Zc,Zd,Ze,Zf,Zg,Zj,Zk,Zl,Zm,Zn,Zp,Zq,reduceCtorEq]
 refine hK _ w8 ⟨G8.sl, fun b e => ?_, g1.fr.nb G8.fr⟩
 have := G8.up b e
 have := g1.fr.size
 omega
end Go.Proofs.YtcgplgpdcfocpaaGreatDoor.Der
end
section
namespace Go.Proofs.YtcgplgpdcfocpaaGreatDoor.Der
open Go Go.RowKit Go.Proofs Go.Proofs.YtcgplgpdcfocpaaGreatDoor.Eng Go.Proofs.YtcgplgpdcfocpaaGreatDoor.Code
attribute [local irreducible] callK S.W opsW scrW scrT
open Go.Proofs.YtcgplgpdcfocpaaGreatDoor.Spec
attribute [local irreducible] putR putOidR infoR
theorem rseq_k {tag : Int} {X : Value} {ls : List (List Int)} {w : World} (hX : LV w X ls) (ht : -9223372036854775808 ≤ tag ∧ tag ≤ 9223372036854775807) (h63 : ls.length ≤ 9223372036854775807) (hl : ∀ l ∈ ls, l.length ≤ 9223372036854775807) {K : Value → World → Prop}
  (hK : ∀ v' w', Gw .u8 w w' v' (putR 0 tag true ls).1 → K v' w') : callK Tryz.prog 55 [.int .i64 tag, X] w K := by
 refine call_of Tryz.func55 Code.h55 (by simp[Code.c55]) ?_
 have hX0 := hX
 obtain ⟨A, c, vs, rfl, _⟩ := hX0.ex
 simp(disch:=omega)only[Zu,Zv,Zx,Zz,EZ,↓EP,↓reduceIte,Za,Zb,Zc,Zd,Ze,Zf,Zg,Zj,Zk,Zl,Zm,Zn,Zp,Zq,reduceCtorEq,Code.c55]
 refine rput_vw hX (by decide) ht h63 hl _ fun v1 w1 g1 => ?_
 obtain ⟨A1, c1, rfl, hc1, hr1, _⟩ := g1.sl.read
 simp(disch:=omega)only[Zu,Zv,Zx,Zz,EZ,↓EP,↓reduceIte,Za,Zb,Zc,Zd,Ze,Zf,Zg,Zj,Zk,Zl,Zm,Zn,Zp,Zq,reduceCtorEq,pr2]
 exact hK _ _ g1
theorem rprim_k {tag : Int} {v : Value} {p : List Int} {w : World} (hv : Vw .u8 w v p) (hp : p.length ≤ 1000) (ht : -9223372036854775808 ≤ tag ∧ tag ≤ 9223372036854775807) {K : Value → World → Prop}
  (hK : ∀ v' w', Gw .u8 w w' v' (putR 0 tag false [p]).1 → K v' w') : callK Tryz.prog 58 [.int .i64 tag, v] w K := by
 refine call_of Tryz.func58 Code.h58 (by simp[Code.c58]) ?_
 have hv0 := hv
 obtain ⟨A, c, rfl, hc, hr⟩ := hv0
 simp(disch:=omega)only[Zu,Zv,Zx,Zz,EZ,↓EP,↓reduceIte,Za,Zb,Zc,Zd,Ze,Zf,Zg,Zj,Zk,Zl,Zm,Zn,Zp,Zq,reduceCtorEq,Code.c58]
 refine bslS1 fun w2 n2 => ?_
 have f2 := n2.fr nob
 simp(disch:=omega)only[Zu,Zv,Zx,Zz,EZ,↓EP,↓reduceIte,Za,Zb,Zc,Zd,Ze,Zf,Zg,Zj,Zk,Zl,Zm,Zn,Zp,Zq,reduceCtorEq]
 refine rput_vw (LV.one n2 hv) (by decide) ht (by simp) (len63 hp) _ fun v1 w1 g1 => ?_
 obtain ⟨A1, c1, rfl, hc1, hr1, _⟩ := g1.sl.read
 simp(disch:=omega)only[Zu,Zv,Zx,Zz,EZ,↓EP,↓reduceIte,Za,Zb,Zc,Zd,Ze,Zf,Zg,Zj,Zk,Zl,Zm,Zn,Zp,Zq,reduceCtorEq,pr2]
 refine hK _ _ ⟨g1.sl, fun b e => ?_, f2.nb g1.fr⟩
 have := g1.up b e
 have := f2.size
 omega
theorem roidof_k {alg : Int} {w : World} {K : Value → World → Prop} (hK : ∀ v' w', Gw .u8 w w' v' (putR 0 6 false [oidP alg]).1 → K v' w') : callK Tryz.prog 56 [.string (S (oidU alg))] w K := by
 refine call_of Tryz.func56 Code.h56 (by simp[Code.c56]) ?_
 have lo : (putOidR (ints (oidU alg))).1.length ≤ 30 := oid_len alg
 simp(disch:=omega)only[Zu,Zv,Zx,Zz,EZ,↓EP,↓reduceIte,Za,Zb,Zc,Zd,Ze,Zf,Zg,Zj,Zk,Zl,Zm,Zn,Zp,Zq,reduceCtorEq,Code.c56]
 refine rputoid_vw (by have := oidU_len alg; omega) _ fun v1 w1 g1 => ?_
 obtain ⟨A1, c1, rfl, hc1, hr1, _⟩ := g1.sl.read
 simp(disch:=omega)only[Zu,Zv,Zx,Zz,EZ,↓EP,↓reduceIte,Za,Zb,Zc,Zd,Ze,Zf,Zg,Zj,Zk,Zl,Zm,Zn,Zp,Zq,reduceCtorEq,pr2]
 refine rprim_k g1.vw (by omega) (by decide) fun v2 w2 g2 => ?_
 simp(disch:=omega)only[Zu,Zv,Zx,Zz,EZ,↓EP,↓reduceIte,Za,Zb,Zc,Zd,Ze,Zf,Zg,Zj,Zk,Zl,Zm,Zn,Zp,Zq,reduceCtorEq]
 refine hK _ _ ⟨g2.sl, fun b e => ?_, g1.fr.nb g2.fr⟩
 have := g2.up b e
 have := g1.fr.size
 omega
set_option maxHeartbeats 4000000 in
theorem rpad_k {alg n : Int} {sum : List Int} {v : Value} {w : World} (hn : -9223372036854775808 ≤ n ∧ n ≤ 9223372036854775807) (hv : Vw .u8 w v sum) (hs : sum.length ≤ 9223372036854775807) {K : Value → World → Prop}
  (hK : ∀ v' w', Gw .u8 w w' v' (padR alg sum n).1 → K (pr2 v' (padR alg sum n).2) w') : callK Tryz.prog 30 [.int .i64 alg, v, .int .i64 n] w K := by
 refine call_of Tryz.func30 Code.h30 (by simp[Code.c30]) ?_
 have hv0 := hv
 obtain ⟨A, c, rfl, hc, hr⟩ := hv0
 have hz := sizeI_nn alg
 have bad1 : (sizeI alg = 0 ∨ (sum.length : Int) ≠ sizeI alg ∨ 2048 < n) → K (pr2 (.slice none 0 0) 1) w := fun h => by
  have e : padR alg sum n = ([], 1) := if_pos h
  rw[e] at hK
  exact hK _ _ (Gw.nil _ _)
 simp(disch:=omega)only[Zu,Zv,Zx,Zz,EZ,↓EP,↓reduceIte,Za,Zb,Zc,Zd,Ze,Zf,Zg,Zj,Zk,Zl,Zm,Zn,Zp,Zq,reduceCtorEq,Code.c30]
 refine rsize_k alg _ _ ?_
 by_cases c0 : sizeI alg = 0
 ·simp(disch:=omega)only[Zu,Zv,Zx,Zz,EZ,↓EP,↓reduceIte,Za,Zb,Zc,Zd,Ze,Zf,Zg,Zj,Zk,Zl,Zm,Zn,Zp,Zq,reduceCtorEq,c0]
  exact bad1 (.inl c0)
 simp(disch:=omega)only[Zu,Zv,Zx,Zz,EZ,↓EP,↓reduceIte,Za,Zb,Zc,Zd,Ze,Zf,Zg,Zj,Zk,Zl,Zm,Zn,Zp,Zq,reduceCtorEq,c0]
 refine rsize_k alg _ _ ?_
 by_cases c1 : (sum.length : Int) = sizeI alg
 rotate_left
 ·simp(disch:=omega)only[Zu,Zv,Zx,Zz,EZ,↓EP,↓reduceIte,Za,Zb,Zc,Zd,Ze,Zf,Zg,Zj,Zk,Zl,Zm,Zn,Zp,Zq,reduceCtorEq,c0,c1]
  exact bad1 (.inr (.inl c1))
 by_cases c3 : 2048 < n
 ·simp(disch:=omega)only[Zu,Zv,Zx,Zz,EZ,↓EP,↓reduceIte,Za,Zb,Zc,Zd,Ze,Zf,Zg,Zj,Zk,Zl,Zm,Zn,Zp,Zq,reduceCtorEq,c0,c1,c3]
  exact bad1 (.inr (.inr c3))
 have hR : padR alg sum n = if n < (infoR alg sum).length + 11 then ([], 2) else ([0, 1] ++ List.replicate (n.toNat - (infoR alg sum).length - 3) 255 ++ [0] ++ infoR alg sum, 0) := if_neg (by omega)
 have hil := info_len (alg := alg) (sum := sum) (by omega)
 simp(disch:=omega)only[Zu,Zv,Zx,Zz,EZ,↓EP,↓reduceIte,Za,Zb,Zc,Zd,Ze,Zf,Zg,Zj,Zk,Zl,Zm,Zn,Zp,Zq,reduceCtorEq,c0,c1,c3]
 refine roid_k ?_
 simp(disch:=omega)only[Zu,Zv,Zx,Zz,EZ,↓EP,↓reduceIte,Za,Zb,Zc,Zd,Ze,Zf,Zg,Zj,Zk,Zl,Zm,Zn,Zp,Zq,reduceCtorEq]
 refine roidof_k fun v1 w1 g1 => ?_
 have lo := oid_len alg
 have l6 := putR_len 0 6 false [oidP alg]
 have e5 : putR 0 5 false [[]] = putR 0 5 false [] := by
  unfold putR
  simp
 have l5 := putR_len 0 5 false []
 have la := putR_len 0 16 true [(putR 0 6 false [oidP alg]).1, (putR 0 5 false []).1]
 have l4 := putR_len 0 4 false [sum]
 simp only[List.map_cons,List.map_nil,List.sum_cons,List.sum_nil] at la l4 l5 l6
 have hI : infoR alg sum = (putR 0 16 true [(putR 0 16 true [(putR 0 6 false [oidP alg]).1, (putR 0 5 false []).1]).1, (putR 0 4 false [sum]).1]).1 := by unfold infoR; rfl
 obtain ⟨A1, c1', rfl, hc1, hr1, _⟩ := g1.sl.read
 simp(disch:=omega)only[Zu,Zv,Zx,Zz,EZ,↓EP,↓reduceIte,Za,Zb,Zc,Zd,Ze,Zf,Zg,Zj,Zk,Zl,Zm,Zn,Zp,Zq,reduceCtorEq]
 refine rprim_k (Vw.nil .u8 w1) (by simp) (by decide) fun v2 w2 g2 => ?_
 rw[e5] at g2
 obtain ⟨A2, c2, rfl, hc2, hr2, _⟩ := g2.sl.read
 simp(disch:=omega)only[Zu,Zv,Zx,Zz,EZ,↓EP,↓reduceIte,Za,Zb,Zc,Zd,Ze,Zf,Zg,Zj,Zk,Zl,Zm,Zn,Zp,Zq,reduceCtorEq]
 refine bslS2 fun w3 n3 => ?_
 have f3 := n3.fr nob
 simp(disch:=omega)only[Zu,Zv,Zx,Zz,EZ,↓EP,↓reduceIte,Za,Zb,Zc,Zd,Ze,Zf,Zg,Zj,Zk,Zl,Zm,Zn,Zp,Zq,reduceCtorEq]
 refine rseq_k (LV.two n3 (g1.vw.nb g2.fr) g2.vw) (by decide) (by simp) (len63b (by omega) (by omega)) fun v4 w4 g4 => ?_
 obtain ⟨A4, c4, rfl, hc4, hr4, _⟩ := g4.sl.read
 have f4 : Fr w w4 nob := ((g1.fr.nb g2.fr).nb f3).nb g4.fr
 have hv4 : Vw .u8 w4 (.slice A sum.length c) sum := hv.nb f4
 simp(disch:=omega)only[Zu,Zv,Zx,Zz,EZ,↓EP,↓reduceIte,Za,Zb,Zc,Zd,Ze,Zf,Zg,Zj,Zk,Zl,Zm,Zn,Zp,Zq,reduceCtorEq]
 refine rprim_k hv4 (by omega) (by decide) fun v5 w5 g5 => ?_
 obtain ⟨A5, c5, rfl, hc5, hr5, _⟩ := g5.sl.read
 simp(disch:=omega)only[Zu,Zv,Zx,Zz,EZ,↓EP,↓reduceIte,Za,Zb,Zc,Zd,Ze,Zf,Zg,Zj,Zk,Zl,Zm,Zn,Zp,Zq,reduceCtorEq]
 refine bslS2 fun w6 n6 => ?_
 have f6 := n6.fr nob
 simp(disch:=omega)only[Zu,Zv,Zx,Zz,EZ,↓EP,↓reduceIte,Za,Zb,Zc,Zd,Ze,Zf,Zg,Zj,Zk,Zl,Zm,Zn,Zp,Zq,reduceCtorEq]
 refine rseq_k (LV.two n6 (g4.vw.nb g5.fr) g5.vw) (by decide) (by simp) (len63b (by omega) (by omega)) fun v7 w7 g7 => ?_
 rw[← hI] at g7
 have f7 : Fr w w7 nob := ((f4.nb g5.fr).nb f6).nb g7.fr
 obtain ⟨A7, c7, rfl, hc7, hr7, _⟩ := g7.sl.read
 by_cases c8 : n < 11
 ·rw[if_pos (by omega)] at hR
  rw[hR] at hK
  simp(disch:=omega)only[Zu,Zv,Zx,Zz,EZ,↓EP,↓reduceIte,Za,Zb,Zc,Zd,Ze,Zf,Zg,Zj,Zk,Zl,Zm,Zn,Zp,Zq,reduceCtorEq,c8]
  exact hK _ _ ⟨Sl.nil _ _, (fun b e => by cases e), f7⟩
 by_cases c9 : n - 11 < (infoR alg sum).length
 ·rw[if_pos (by omega)] at hR
  rw[hR] at hK
  simp(disch:=omega)only[Zu,Zv,Zx,Zz,EZ,↓EP,↓reduceIte,Za,Zb,Zc,Zd,Ze,Zf,Zg,Zj,Zk,Zl,Zm,Zn,Zp,Zq,reduceCtorEq,c8,c9]
  exact hK _ _ ⟨Sl.nil _ _, (fun b e => by cases e), f7⟩
 rw[if_neg (by omega)] at hR
 rw[hR] at hK
 obtain ⟨q, hq⟩ : ∃ q : Nat, n = (infoR alg sum).length + 3 + q := ⟨(n - (infoR alg sum).length - 3).toNat, by omega⟩
 have hq1 : n.toNat - (infoR alg sum).length - 3 = q := by omega
 rw[hq1] at hK
 simp(disch:=omega)only[Zu,Zv,Zx,Zz,EZ,↓EP,↓reduceIte,Za,Zb,Zc,Zd,Ze,Zf,Zg,Zj,Zk,Zl,Zm,Zn,Zp,Zq,reduceCtorEq,c8,c9]
 refine bsl2 fun w8 n8 => ?_
 have G8 : Gw .u8 w7 w8 (.slice (some ⟨w7.heap.size, 0, none⟩) 2 2) [0, 1] := ⟨n8.sl, fun b e => by cases e; exact Nat.le_refl _, n8.fr nob⟩
 simp(disch:=omega)only[Zu,Zv,Zx,Zz,EZ,↓EP,↓reduceIte,Za,Zb,Zc,Zd,Ze,Zf,Zg,Zj,Zk,Zl,Zm,Zn,Zp,Zq,reduceCtorEq]
 refine loop_inv (fun t ρ w' => ∃ (j : Nat) (v : Value), j ≤ q ∧ ρ 9 = v ∧ Gw .u8 w7 w' v ([0, 1] ++ List.replicate j 255) ∧ t = q - j) _ ⟨0, .slice (some ⟨w7.heap.size, 0, none⟩) 2 2, by omega, by simp(disch:=omega)only[Zu,Zv,Zx,Zz,EZ,↓EP,↓reduceIte,Za,Zb,Zc,Zd,Ze,Zf,Zg,Zj,Zk,Zl,Zm,Zn,Zp,Zq,reduceCtorEq], by simpa using G8, rfl⟩ ?_
 rintro t ρ w9 hf ⟨j, v9, hj, h9, G9, rfl⟩ N hN
 have r2 : ρ 2 = .int .i64 n := by rw[hf 2 rfl]; simp(disch:=omega)only[Zu,Zv,Zx,Zz,EZ,↓EP,↓reduceIte,Za,Zb,Zc,Zd,Ze,Zf,Zg,Zj,Zk,Zl,Zm,Zn,Zp,Zq,reduceCtorEq]
 have r8 : ρ 8 = .slice A7 (infoR alg sum).length c7 := by rw[hf 8 rfl]; simp(disch:=omega)only[Zu,Zv,Zx,Zz,EZ,↓EP,↓reduceIte,Za,Zb,Zc,Zd,Ze,Zf,Zg,Zj,Zk,Zl,Zm,Zn,Zp,Zq,reduceCtorEq]
 clear hf
 obtain ⟨A9, c9', rfl, _, _, _⟩ := G9.sl.read
 have hlen : ([0, 1] ++ List.replicate j (255 : Int)).length = j + 2 := by simp
 rw[hlen] at h9
 rw[hlen] at G9
 by_cases cj : (j : Int) < (q : Int)
 ·have hcond : (((j + 2 : Nat) : Int)) < n - 1 - ((infoR alg sum).length : Int) := by omega
  simp(disch:=omega)only[Zu,Zv,Zx,Zz,EZ,↓EP,↓reduceIte,Za,Zb,Zc,Zd,Ze,Zf,Zg,Zj,Zk,Zl,Zm,Zn,Zp,Zq,reduceCtorEq,h9,r2,r8,hcond]
  refine bsl1 fun w10 n10 => ?_
  have f10 := n10.fr nob
  simp(disch:=omega)only[Zu,Zv,Zx,Zz,EZ,↓EP,↓reduceIte,Za,Zb,Zc,Zd,Ze,Zf,Zg,Zj,Zk,Zl,Zm,Zn,Zp,Zq,reduceCtorEq,h9]
  refine app_num (G9.step f10).sl rfl n10.rdl (by simp; omega) (by decide) fun v11 w11 a11 => ?_
  have G11 := (G9.step f10).apd a11
  simp(disch:=omega)only[Zu,Zv,Zx,Zz,EZ,↓EP,↓reduceIte,Za,Zb,Zc,Zd,Ze,Zf,Zg,Zj,Zk,Zl,Zm,Zn,Zp,Zq,reduceCtorEq]
  refine hN (q - (j + 1)) _ _ (by omega) ⟨j + 1, v11, by omega, by simp(disch:=omega)only[Zu,Zv,Zx,Zz,EZ,↓EP,↓reduceIte,Za,Zb,Zc,Zd,Ze,Zf,Zg,Zj,Zk,Zl,Zm,Zn,Zp,Zq,reduceCtorEq], ?_, rfl⟩
  rw[List.append_assoc,← List.replicate_succ'] at G11
  exact G11
 ·obtain rfl : j = q := by omega
  have hcond : ¬ (((j + 2 : Nat) : Int)) < n - 1 - ((infoR alg sum).length : Int) := by omega
  simp(disch:=omega)only[Zu,Zv,Zx,Zz,EZ,↓EP,↓reduceIte,Za,Zb,Zc,Zd,Ze,Zf,Zg,Zj,Zk,Zl,Zm,Zn,Zp,Zq,reduceCtorEq,h9,r2,r8,hcond]
  refine bsl1 fun w10 n10 => ?_
  have f10 := n10.fr nob
  simp(disch:=omega)only[Zu,Zv,Zx,Zz,EZ,↓EP,↓reduceIte,Za,Zb,Zc,Zd,Ze,Zf,Zg,Zj,Zk,Zl,Zm,Zn,Zp,Zq,reduceCtorEq,h9,r8]
  refine app_num (G9.step f10).sl rfl n10.rdl (by simp; omega) (by decide) fun v11 w11 a11 => ?_
  have G11 := (G9.step f10).apd a11
  obtain ⟨A11, d11, rfl, _, _, _⟩ := G11.sl.read
  simp(disch:=omega)only[Zu,Zv,Zx,Zz,EZ,↓EP,↓reduceIte,Za,Zb,Zc,Zd,Ze,Zf,Zg,Zj,Zk,Zl,Zm,Zn,Zp,Zq,reduceCtorEq,r8]
  refine app_num G11.sl rfl (hr7.nb G11.fr) (by simp; omega) (by decide) fun v12 w12 a12 => ?_
  have G12 := G11.apd a12
  simp(disch:=omega)only[Zu,Zv,Zx,Zz,EZ,↓EP,↓reduceIte,Za,Zb,Zc,Zd,Ze,Zf,Zg,Zj,Zk,Zl,Zm,Zn,Zp,Zq,reduceCtorEq]
  refine hK _ w12 ⟨G12.sl, fun b e => ?_, f7.nb G12.fr⟩
  have := G12.up b e
  have := f7.size
  omega
end Go.Proofs.YtcgplgpdcfocpaaGreatDoor.Der
end
section
namespace Go.Proofs.YtcgplgpdcfocpaaGreatDoor.Spec
open Go Go.RowKit Go.Proofs Go.Proofs.YtcgplgpdcfocpaaGreatDoor.Eng Go.Proofs.YtcgplgpdcfocpaaGreatDoor.Code Go.Proofs.YtcgplgpdcfocpaaGreatDoor.Big
attribute [local irreducible] callK S.W opsW scrW
theorem fr_drewN' (w : World) (n : Nat) : Fr w (w.drewN n) nob := ⟨below_drewN' (Below.refl _ _) n, fun b hb _ => rfl⟩
theorem odd_and {a b : Int} (ha : 0 ≤ a ∧ a < 4294967296) (hb : 0 ≤ b ∧ b < 4294967296) : bits .and .u32 (bits .and .u32 a b) 1 = a % 2 * (b % 2) := by
 have e1 := u32_and a b (by omega) (by omega) (by omega) (by omega)
 rw[e1]
 have hlt : a.toNat &&& b.toNat < 4294967296 := Nat.lt_of_le_of_lt Nat.and_le_left (by omega)
 rw[u32_and _ _ (by omega) (by omega) (by omega) (by omega)]
 rw[show (1 : Int).toNat = 1 from rfl,Int.toNat_natCast,Nat.and_one_is_mod]
 have h2 := Nat.and_mod_two_pow (a := a.toNat) (b := b.toNat) (n := 1)
 rw[show 2 ^ 1 = 2 from rfl] at h2
 rw[h2]
 have ca : a.toNat % 2 = 0 ∨ a.toNat % 2 = 1 := by omega
 have cb : b.toNat % 2 = 0 ∨ b.toNat % 2 = 1 := by omega
 have ea : a % 2 = ((a.toNat % 2 : Nat) : Int) := by omega
 have eb : b % 2 = ((b.toNat % 2 : Nat) : Int) := by omega
 rw[ea,eb]
 rcases ca with h | h <;> rcases cb with h' | h' <;> rw[h,h'] <;> decide
theorem lim_at0 {l : List Int} (h : Lim l) (h0 : 0 < l.length) : 0 ≤ at' l 0 ∧ at' l 0 < 4294967296 := by
 cases l with
 | nil => simp at h0
 | cons a l => exact h a (by simp)
def checkR (N E : List Int) : Int := if 256 < N.length ∨ 256 < E.length ∨ bl (val N) < 512 ∨ bl (val E) < 2 ∨ 64 < bl (val E) ∨ at' N 0 % 2 = 0 ∨ at' E 0 % 2 = 0 then 80 else 0
theorem pos_cellsN {k : IntKind} {w : World} {A : Option Addr} {l : List Int} (hr : Rd w A (nums k l)) (h0 : 0 < l.length) : ∃ ad, A = some ad ∧ ∀ i : Nat, i < l.length → w.cell? (ad.add i) = some (.int k (at' l (i : Int))) := by
 obtain ⟨ad, e, _, hcl⟩ := hr.get (by rw[nums_length]; omega)
 exact ⟨ad, e, fun i hi => hcl.numN hi⟩
theorem bl_pos {l : List Int} (h : 0 < bl (val l)) : 0 < l.length := by
 cases l with
 | nil => exact absurd h (by decide)
 | cons a l => simp
set_option maxHeartbeats 4000000 in
theorem check_k {w : World} {vN vE : Value} {N E : List Int} (hN : Vw .u32 w vN N) (hE : Vw .u32 w vE E) (lN : Lim N) (lE : Lim E) (nN : N.length ≤ 4194304) (nE : E.length ≤ 4194304) {K : Value → World → Prop}
  (hK : ∀ w', Fr w w' nob → K (.int .i64 (checkR N E)) w') : callK Tryz.prog 24 [.agg #[vN, vE]] w K := by
 refine call_of Tryz.func24 Code.h24 (by simp[Code.c24]) ?_
 obtain ⟨A, c, rfl, hc, hr⟩ := hN
 obtain ⟨B, d, rfl, hd, hs⟩ := hE
 simp(disch:=omega)only[Zu,Zv,Zx,Zz,EZ,↓EP,↓reduceIte,Za,Zb,Zc,Zd,Ze,Zf,Zg,Zj,Zk,Zl,Zm,Zn,Zp,Zq,reduceCtorEq,Code.c24]
 refine al_k [.slice A N.length c, .slice B E.length d] rfl fun w1 n1 => ?_
 have f1 := n1.fr nob
 have c0 : w1.cell? ⟨w.heap.size, 0, none⟩ = some (.slice A N.length c) := n1.blk.has 0 _ rfl
 have c1 : w1.cell? ⟨w.heap.size, 1, none⟩ = some (.slice B E.length d) := n1.blk.has 1 _ rfl
 simp(disch:=omega)only[Zu,Zv,Zx,Zz,EZ,↓EP,↓reduceIte,Za,Zb,Zc,Zd,Ze,Zf,Zg,Zj,Zk,Zl,Zm,Zn,Zp,Zq,reduceCtorEq,c0,c1]
 intro m
 have g1 := fr_drewN' w1 (1 + m)
 refine bits_vw ⟨A, c, rfl, hc, (hr.nb f1).nb g1⟩ lN (by omega) _ ?_
 simp(disch:=omega)only[Zu,Zv,Zx,Zz,EZ,↓EP,↓reduceIte,Za,Zb,Zc,Zd,Ze,Zf,Zg,Zj,Zk,Zl,Zm,Zn,Zp,Zq,reduceCtorEq,c0,c1]
 intro m2
 have g2 := fr_drewN' w1 (1 + m + m2)
 refine bits_vw ⟨B, d, rfl, hd, (hs.nb f1).nb g2⟩ lE (by omega) _ ?_
 have bad : ∀ w', Fr w1 w' nob → (256 < N.length ∨ 256 < E.length ∨ bl (val N) < 512 ∨ bl (val E) < 2 ∨ 64 < bl (val E) ∨ at' N 0 % 2 = 0 ∨ at' E 0 % 2 = 0) → K (.int .i64 80) w' := fun w' f h => by
  have e : checkR N E = 80 := if_pos h
  rw[e] at hK
  exact hK w' (f1.nb f)
 simp(disch:=omega)only[Zu,Zv,Zx,Zz,EZ,↓EP,↓reduceIte,Za,Zb,Zc,Zd,Ze,Zf,Zg,Zj,Zk,Zl,Zm,Zn,Zp,Zq,reduceCtorEq,W_join,c0,c1]
 intro m3
 have g3 := fr_drewN' w1 (1 + m + m2 + m3)
 by_cases h1 : (256 : Int) < (N.length : Int)
 ·simp(disch:=omega)only[Zu,Zv,Zx,Zz,EZ,↓EP,↓reduceIte,Za,Zb,Zc,Zd,Ze,Zf,Zg,Zj,Zk,Zl,Zm,Zn,Zp,Zq,reduceCtorEq,W_join,c0,c1,h1]
  exact bad _ g3 (.inl (by omega))
 by_cases h2 : (256 : Int) < (E.length : Int)
 ·simp(disch:=omega)only[Zu,Zv,Zx,Zz,EZ,↓EP,↓reduceIte,Za,Zb,Zc,Zd,Ze,Zf,Zg,Zj,Zk,Zl,Zm,Zn,Zp,Zq,reduceCtorEq,W_join,c0,c1,h1,h2]
  exact bad _ g3 (.inr (.inl (by omega)))
 by_cases h3 : (bl (val N) : Int) < 512
 ·simp(disch:=omega)only[Zu,Zv,Zx,Zz,EZ,↓EP,↓reduceIte,Za,Zb,Zc,Zd,Ze,Zf,Zg,Zj,Zk,Zl,Zm,Zn,Zp,Zq,reduceCtorEq,W_join,c0,c1,h1,h2,h3]
  exact bad _ g3 (.inr (.inr (.inl (by omega))))
 by_cases h4 : (bl (val E) : Int) < 2
 ·simp(disch:=omega)only[Zu,Zv,Zx,Zz,EZ,↓EP,↓reduceIte,Za,Zb,Zc,Zd,Ze,Zf,Zg,Zj,Zk,Zl,Zm,Zn,Zp,Zq,reduceCtorEq,W_join,c0,c1,h1,h2,h3,h4]
  exact bad _ g3 (.inr (.inr (.inr (.inl (by omega)))))
 by_cases h5 : (64 : Int) < (bl (val E) : Int)
 ·simp(disch:=omega)only[Zu,Zv,Zx,Zz,EZ,↓EP,↓reduceIte,Za,Zb,Zc,Zd,Ze,Zf,Zg,Zj,Zk,Zl,Zm,Zn,Zp,Zq,reduceCtorEq,W_join,c0,c1,h1,h2,h3,h4,h5]
  exact bad _ g3 (.inr (.inr (.inr (.inr (.inl (by omega))))))
 have pN : 0 < N.length := bl_pos (by omega)
 have pE : 0 < E.length := bl_pos (by omega)
 obtain ⟨pa, rfl, hcN⟩ := pos_cellsN (hr.nb f1) pN
 obtain ⟨pb, rfl, hcE⟩ := pos_cellsN (hs.nb f1) pE
 have z0 := hcN 0 pN
 have z1 := hcE 0 pE
 have y0 := lim_at0 lN pN
 have y1 := lim_at0 lE pE
 simp(disch:=omega)only[Zu,Zv,Zx,Zz,EZ,↓EP,↓reduceIte,Za,Zb,Zc,Zd,Ze,Zf,Zg,Zj,Zk,Zl,Zm,Zn,Zp,Zq,reduceCtorEq,W_join,c0,c1,h1,h2,h3,h4,h5,z0,z1]
 intro m4
 have g4 := fr_drewN' w1 (1 + m + m2 + m3 + m4)
 rw[odd_and y0 y1]
 by_cases h6 : at' N 0 % 2 = 0
 ·rw[h6,Int.zero_mul,if_pos rfl]
  exact bad _ g4 (.inr (.inr (.inr (.inr (.inr (.inl h6))))))
 by_cases h7 : at' E 0 % 2 = 0
 ·rw[h7,Int.mul_zero,if_pos rfl]
  exact bad _ g4 (.inr (.inr (.inr (.inr (.inr (.inr h7))))))
 rw[if_neg (by rw [show at' N 0 % 2 = 1 by omega, show at' E 0 % 2 = 1 by omega]; decide)]
 have e : checkR N E = 0 := if_neg (by omega)
 rw[e] at hK
 exact hK _ (f1.nb g4)
set_option maxHeartbeats 4000000 in
theorem rcheck_k {w : World} {vN vE : Value} {N E : List Int} (hN : Vw .u32 w vN N) (hE : Vw .u32 w vE E) (lN : Lim N) (lE : Lim E) (nN : N.length ≤ 4194304) (nE : E.length ≤ 4194304) {K : Value → World → Prop}
  (hK : ∀ w', Fr w w' nob → K (.int .i64 (checkR N E)) w') : callK Tryz.prog 50 [.agg #[vN, vE]] w K := by
 refine call_of Tryz.func50 Code.h50 (by simp[Code.c50]) ?_
 obtain ⟨A, c, rfl, hc, hr⟩ := hN
 obtain ⟨B, d, rfl, hd, hs⟩ := hE
 simp(disch:=omega)only[Zu,Zv,Zx,Zz,EZ,↓EP,↓reduceIte,Za,Zb,Zc,Zd,Ze,Zf,Zg,Zj,Zk,Zl,Zm,Zn,Zp,Zq,reduceCtorEq,Code.c50]
 refine al_k [.slice A N.length c, .slice B E.length d] rfl fun w1 n1 => ?_
 have f1 := n1.fr nob
 have k0 : ∀ w', Fr w1 w' nob → w'.cell? ⟨w.heap.size, 0, none⟩ = some (.slice A N.length c) := fun w' f => (n1.blk.nb f).has 0 _ rfl
 have k1 : ∀ w', Fr w1 w' nob → w'.cell? ⟨w.heap.size, 1, none⟩ = some (.slice B E.length d) := fun w' f => (n1.blk.nb f).has 1 _ rfl
 have c0 := k0 w1 (Fr.refl _ _)
 have c1 := k1 w1 (Fr.refl _ _)
 have bad : ∀ w', Fr w1 w' nob → (256 < N.length ∨ 256 < E.length ∨ bl (val N) < 512 ∨ bl (val E) < 2 ∨ 64 < bl (val E) ∨ at' N 0 % 2 = 0 ∨ at' E 0 % 2 = 0) → K (.int .i64 80) w' := fun w' f h => by
  have e : checkR N E = 80 := if_pos h
  rw[e] at hK
  exact hK w' (f1.nb f)
 by_cases h1 : (256 : Int) < (N.length : Int)
 ·simp(disch:=omega)only[Zu,Zv,Zx,Zz,EZ,↓EP,↓reduceIte,Za,Zb,Zc,Zd,Ze,Zf,Zg,Zj,Zk,Zl,Zm,Zn,Zp,Zq,reduceCtorEq,c0,c1,h1]
  exact bad _ (Fr.refl _ _) (.inl (by omega))
 by_cases h2 : (256 : Int) < (E.length : Int)
 ·simp(disch:=omega)only[Zu,Zv,Zx,Zz,EZ,↓EP,↓reduceIte,Za,Zb,Zc,Zd,Ze,Zf,Zg,Zj,Zk,Zl,Zm,Zn,Zp,Zq,reduceCtorEq,c0,c1,h1,h2]
  exact bad _ (Fr.refl _ _) (.inr (.inl (by omega)))
 simp(disch:=omega)only[Zu,Zv,Zx,Zz,EZ,↓EP,↓reduceIte,Za,Zb,Zc,Zd,Ze,Zf,Zg,Zj,Zk,Zl,Zm,Zn,Zp,Zq,reduceCtorEq,c0,c1,h1,h2]
 refine rbits_vw ⟨A, c, rfl, hc, hr.nb f1⟩ lN nN _ fun w2 f2 => ?_
 have c0 := k0 w2 f2
 have c1 := k1 w2 f2
 by_cases h3 : (bl (val N) : Int) < 512
 ·simp(disch:=omega)only[Zu,Zv,Zx,Zz,EZ,↓EP,↓reduceIte,Za,Zb,Zc,Zd,Ze,Zf,Zg,Zj,Zk,Zl,Zm,Zn,Zp,Zq,reduceCtorEq,c0,c1,h3]
  exact bad _ f2 (.inr (.inr (.inl (by omega))))
 simp(disch:=omega)only[Zu,Zv,Zx,Zz,EZ,↓EP,↓reduceIte,Za,Zb,Zc,Zd,Ze,Zf,Zg,Zj,Zk,Zl,Zm,Zn,Zp,Zq,reduceCtorEq,c0,c1,h3]
 refine rbits_vw ⟨B, d, rfl, hd, (hs.nb f1).nb f2⟩ lE nE _ fun w3 f3 => ?_
 have f23 := f2.nb f3
 have c0 := k0 w3 f23
 have c1 := k1 w3 f23
 by_cases h4 : (bl (val E) : Int) < 2
 ·simp(disch:=omega)only[Zu,Zv,Zx,Zz,EZ,↓EP,↓reduceIte,Za,Zb,Zc,Zd,Ze,Zf,Zg,Zj,Zk,Zl,Zm,Zn,Zp,Zq,reduceCtorEq,c0,c1,h4]
  exact bad _ f23 (.inr (.inr (.inr (.inl (by omega)))))
 simp(disch:=omega)only[Zu,Zv,Zx,Zz,EZ,↓EP,↓reduceIte,Za,Zb,Zc,Zd,Ze,Zf,Zg,Zj,Zk,Zl,Zm,Zn,Zp,Zq,reduceCtorEq,c0,c1,h4]
 refine rbits_vw ⟨B, d, rfl, hd, (hs.nb f1).nb f23⟩ lE nE _ fun w4 f4 => ?_
 have f24 := f23.nb f4
 have c0 := k0 w4 f24
 have c1 := k1 w4 f24
 by_cases h5 : (64 : Int) < (bl (val E) : Int)
 ·simp(disch:=omega)only[Zu,Zv,Zx,Zz,EZ,↓EP,↓reduceIte,Za,Zb,Zc,Zd,Ze,Zf,Zg,Zj,Zk,Zl,Zm,Zn,Zp,Zq,reduceCtorEq,c0,c1,h5]
  exact bad _ f24 (.inr (.inr (.inr (.inr (.inl (by omega))))))
 have pN : 0 < N.length := bl_pos (by omega)
 have pE : 0 < E.length := bl_pos (by omega)
 obtain ⟨pa, rfl, hcN⟩ := pos_cellsN (((hr.nb f1).nb f24)) pN
 obtain ⟨pb, rfl, hcE⟩ := pos_cellsN (((hs.nb f1).nb f24)) pE
 have z0 := hcN 0 pN
 have z1 := hcE 0 pE
 have y0 := lim_at0 lN pN
 have y1 := lim_at0 lE pE
 have t0 : (at' N 0).tmod 2 = at' N 0 % 2 := Int.tmod_eq_emod_of_nonneg y0.1
 have t1 : (at' E 0).tmod 2 = at' E 0 % 2 := Int.tmod_eq_emod_of_nonneg y1.1
 by_cases h6 : at' N 0 % 2 = 0
 ·simp(disch:=omega)only[Zu,Zv,Zx,Zz,EZ,↓EP,↓reduceIte,Za,Zb,Zc,Zd,Ze,Zf,Zg,Zj,Zk,Zl,Zm,Zn,Zp,Zq,reduceCtorEq,c0,c1,h5,z0,z1,t0,t1,h6]
  exact bad _ f24 (.inr (.inr (.inr (.inr (.inr (.inl h6))))))
 by_cases h7 : at' E 0 % 2 = 0
 ·simp(disch:=omega)only[Zu,Zv,Zx,Zz,EZ,↓EP,↓reduceIte,Za,Zb,Zc,Zd,Ze,Zf,Zg,Zj,Zk,Zl,Zm,Zn,Zp,Zq,reduceCtorEq,c0,c1,h5,z0,z1,t0,t1,h6,h7]
  exact bad _ f24 (.inr (.inr (.inr (.inr (.inr (.inr h7))))))
 simp(disch:=omega)only[Zu,Zv,Zx,Zz,EZ,↓EP,↓reduceIte,Za,Zb,Zc,Zd,Ze,Zf,Zg,Zj,Zk,Zl,Zm,Zn,Zp,Zq,reduceCtorEq,c0,c1,h5,z0,z1,t0,t1,h6,h7]
 have e : checkR N E = 0 := if_neg (by omega)
 rw[e] at hK
 exact hK _ (f1.nb f24)
end Go.Proofs.YtcgplgpdcfocpaaGreatDoor.Spec
end
section
namespace Go.Proofs.YtcgplgpdcfocpaaGreatDoor.Der
open Go Go.Proofs.YtcgplgpdcfocpaaGreatDoor.Spec Go.Proofs.YtcgplgpdcfocpaaGreatDoor.Big
def kN0 : List Int := [1295419795, 3173228247, 2137395180, 1548933856, 3106420408, 3948765562, 1049120400, 779370009, 4082781268, 1057109357, 1184194943, 1393408190, 1811714008, 4142931574, 3115507167, 2773311948]
def kD0 : List Int := [4047561943, 3660979146, 4003215933, 1116455983, 1700758801, 463339884, 276911730, 3273242993, 4259602957, 2323668540, 3060677354, 1663890463, 3165263865, 2837972243, 519251194, 462218658]
theorem dig_foo : dig 1 [102, 111, 111, 0, 0, 0, 0] = [26, 201, 7, 92, 212, 39, 188, 144, 180, 138, 153, 102, 130, 140, 171, 74, 4, 194, 63, 223] := by decide +kernel
theorem info_zero : infoR 1 (List.replicate 20 0) = [48, 33, 48, 9, 6, 5, 43, 14, 3, 2, 26, 5, 0, 4, 20] ++ List.replicate 20 0 := by decide +kernel
theorem check_small : checkR [15] [3] = 80 := by decide +kernel
theorem check_key0 : checkR kN0 [3] = 0 := by decide +kernel
theorem bits_key0 : bl (val kN0) = 512 := by decide +kernel
theorem lim_key0 : Lim kN0 := by
 have h : kN0.all (fun x => decide (0 ≤ x ∧ x < 4294967296)) = true := by decide +kernel
 intro x hx
 simpa using List.all_eq_true.1 h x hx
end Go.Proofs.YtcgplgpdcfocpaaGreatDoor.Der
end
section
namespace Go.Proofs.YtcgplgpdcfocpaaGreatDoor.Der
open Go Go.RowKit Go.Proofs Go.Proofs.YtcgplgpdcfocpaaGreatDoor.Eng Go.Proofs.YtcgplgpdcfocpaaGreatDoor.Code
attribute [local irreducible] callK S.W opsW scrW scrT
def kN1 : List Int := [447526239, 1829156313, 1879515421, 4107444635, 3585720734, 1991253479, 2516768444, 3373017810, 1205978055, 1538251098, 196053331, 1922245038, 2255523067, 1735923309, 2944431911, 868394361, 4017789066, 1470251928, 1835714117, 3624612288, 4242376361, 1111742522, 1457454055, 3904486991]
def kD1 : List Int := [3621519977, 3268799092, 3739516396, 206456287, 3610635974, 623975115, 3290812447, 1284005469, 2839468200, 1102384690, 247832016, 3318194052, 792414134, 1014899858, 3018861402, 3270484745, 3809549036, 2137766059, 3239253027, 2310304235, 3354661807, 2841138446, 2129838785, 419123029]
def kN2 : List Int := [2647757785, 1389125602, 1571717152, 2974836829, 3776471463, 3789918380, 265465329, 2705477333, 2528306116, 1305786319, 3012271374, 1555166574, 3737811301, 2107156747, 423797723, 3496193931, 2229497578, 3545628057, 795677410, 3294071916, 3692226254, 2201277676, 1168892286, 3890423924, 3768719188, 1348662635, 838196833, 466793529, 1006143140, 3002503770, 4121073702, 3778180073]
def kD2 : List Int := [221114889, 4052409353, 3618135462, 3638896212, 41876785, 2981551223, 2886658486, 1775630866, 3447871993, 1687748997, 3209162719, 3268866316, 2051154063, 2544485275, 3760155216, 3752499951, 2496820468, 83771141, 3160279440, 1312331270, 3585048767, 3787517679, 1319449402, 1117739304, 4056262221, 2567164873, 3762953771, 2291027615, 2230826018, 4177935750, 4171126346, 831105070]
end Go.Proofs.YtcgplgpdcfocpaaGreatDoor.Der
end
section
namespace Go.Proofs.YtcgplgpdcfocpaaGreatDoor.Der
open Go Go.RowKit Go.Proofs Go.Proofs.YtcgplgpdcfocpaaGreatDoor.Eng Go.Proofs.YtcgplgpdcfocpaaGreatDoor.Code
attribute [local irreducible] callK S.W opsW scrW scrT
open Go.Proofs.YtcgplgpdcfocpaaGreatDoor.Spec Go.Proofs.YtcgplgpdcfocpaaGreatDoor.Big
attribute [local irreducible] putR putOidR infoR dig checkR kN0 kD0
theorem bl_lim {N : List Int} (h : Lim N) : bl (val N) ≤ 32 * N.length := by
 have hb := val_bd h
 rw[bl_le hb.1]
 have h2 := hb.2
 unfold pw at h2
 rw[Int.pow_mul,show (2 : Int) ^ 32 = 4294967296 from rfl]
 exact h2
def sizeK (N E : List Int) : Int := if checkR N E ≠ 0 then 0 else ((bl (val N) + 7) / 8 : Nat)
set_option maxHeartbeats 4000000 in
theorem sizek_k {w : World} {vN vE : Value} {N E : List Int} (hN : Vw .u32 w vN N) (hE : Vw .u32 w vE E) (lN : Lim N) (lE : Lim E) (nN : N.length ≤ 4194304) (nE : E.length ≤ 4194304) {K : Value → World → Prop}
  (hK : ∀ w', Fr w w' nob → K (.int .i64 (sizeK N E)) w') : callK Tryz.prog 25 [.agg #[vN, vE]] w K := by
 refine call_of Tryz.func25 Code.h25 (by simp[Code.c25]) ?_
 have hN0 := hN
 have hE0 := hE
 obtain ⟨A, c, rfl, hc, hr⟩ := hN0
 obtain ⟨B, d, rfl, hd, hs⟩ := hE0
 simp(disch:=omega)only[Zu,Zv,Zx,Zz,EZ,↓EP,↓reduceIte,Za,Zb,Zc,Zd,Ze,Zf,Zg,Zj,Zk,Zl,Zm,Zn,Zp,Zq,reduceCtorEq,Code.c25]
 refine al_k [.slice A N.length c, .slice B E.length d] rfl fun w1 n1 => ?_
 have f1 := n1.fr nob
 simp(disch:=omega)only[Zu,Zv,Zx,Zz,EZ,↓EP,↓reduceIte,Za,Zb,Zc,Zd,Ze,Zf,Zg,Zj,Zk,Zl,Zm,Zn,Zp,Zq,reduceCtorEq]
 refine n1.blk.ldAgg rfl ?_
 simp(disch:=omega)only[Zu,Zv,Zx,Zz,EZ,↓EP,↓reduceIte,Za,Zb,Zc,Zd,Ze,Zf,Zg,Zj,Zk,Zl,Zm,Zn,Zp,Zq,reduceCtorEq]
 refine check_k (hN.nb f1) (hE.nb f1) lN lE nN nE fun w2 f2 => ?_
 have f12 := f1.nb f2
 have c0 : w2.cell? ⟨w.heap.size, 0, none⟩ = some (.slice A N.length c) := (n1.blk.nb f2).has 0 _ rfl
 by_cases h : checkR N E = 0
 ·have e : sizeK N E = ((bl (val N) + 7) / 8 : Nat) := if_neg (by simpa using h)
  rw[e] at hK
  have hbl : bl (val N) ≤ 134217728 := by have := bl_lim lN; omega
  simp(disch:=omega)only[Zu,Zv,Zx,Zz,EZ,↓EP,↓reduceIte,Za,Zb,Zc,Zd,Ze,Zf,Zg,Zj,Zk,Zl,Zm,Zn,Zp,Zq,reduceCtorEq,h,c0]
  refine bits_vw (hN.nb f12) lN (by omega) _ ?_
  simp(disch:=omega)only[Zu,Zv,Zx,Zz,EZ,↓EP,↓reduceIte,Za,Zb,Zc,Zd,Ze,Zf,Zg,Zj,Zk,Zl,Zm,Zn,Zp,Zq,reduceCtorEq]
  exact hK _ f12
 ·have e : sizeK N E = 0 := if_pos h
  rw[e] at hK
  simp(disch:=omega)only[Zu,Zv,Zx,Zz,EZ,↓EP,↓reduceIte,Za,Zb,Zc,Zd,Ze,Zf,Zg,Zj,Zk,Zl,Zm,Zn,Zp,Zq,reduceCtorEq,h]
  exact hK _ f12
set_option maxHeartbeats 4000000 in
theorem rsizek_k {w : World} {vN vE : Value} {N E : List Int} (hN : Vw .u32 w vN N) (hE : Vw .u32 w vE E) (lN : Lim N) (lE : Lim E) (nN : N.length ≤ 4194304) (nE : E.length ≤ 4194304) {K : Value → World → Prop}
  (hK : ∀ w', Fr w w' nob → K (.int .i64 (sizeK N E)) w') : callK Tryz.prog 35 [.agg #[vN, vE]] w K := by
 refine call_of Tryz.func35 Code.h35 (by simp[Code.c35]) ?_
 have hN0 := hN
 have hE0 := hE
 obtain ⟨A, c, rfl, hc, hr⟩ := hN0
 obtain ⟨B, d, rfl, hd, hs⟩ := hE0
 simp(disch:=omega)only[Zu,Zv,Zx,Zz,EZ,↓EP,↓reduceIte,Za,Zb,Zc,Zd,Ze,Zf,Zg,Zj,Zk,Zl,Zm,Zn,Zp,Zq,reduceCtorEq,Code.c35]
 refine al_k [.slice A N.length c, .slice B E.length d] rfl fun w1 n1 => ?_
 have f1 := n1.fr nob
 simp(disch:=omega)only[Zu,Zv,Zx,Zz,EZ,↓EP,↓reduceIte,Za,Zb,Zc,Zd,Ze,Zf,Zg,Zj,Zk,Zl,Zm,Zn,Zp,Zq,reduceCtorEq]
 refine n1.blk.ldAgg rfl ?_
 simp(disch:=omega)only[Zu,Zv,Zx,Zz,EZ,↓EP,↓reduceIte,Za,Zb,Zc,Zd,Ze,Zf,Zg,Zj,Zk,Zl,Zm,Zn,Zp,Zq,reduceCtorEq]
 refine rcheck_k (hN.nb f1) (hE.nb f1) lN lE nN nE fun w2 f2 => ?_
 have f12 := f1.nb f2
 have c0 : w2.cell? ⟨w.heap.size, 0, none⟩ = some (.slice A N.length c) := (n1.blk.nb f2).has 0 _ rfl
 by_cases h : checkR N E = 0
 ·have e : sizeK N E = ((bl (val N) + 7) / 8 : Nat) := if_neg (by simpa using h)
  rw[e] at hK
  have hbl : bl (val N) ≤ 134217728 := by have := bl_lim lN; omega
  simp(disch:=omega)only[Zu,Zv,Zx,Zz,EZ,↓EP,↓reduceIte,Za,Zb,Zc,Zd,Ze,Zf,Zg,Zj,Zk,Zl,Zm,Zn,Zp,Zq,reduceCtorEq,h,c0]
  refine rbits_vw (hN.nb f12) lN nN _ fun w3 f3 => ?_
  simp(disch:=omega)only[Zu,Zv,Zx,Zz,EZ,↓EP,↓reduceIte,Za,Zb,Zc,Zd,Ze,Zf,Zg,Zj,Zk,Zl,Zm,Zn,Zp,Zq,reduceCtorEq]
  exact hK _ (f12.nb f3)
 ·have e : sizeK N E = 0 := if_pos h
  rw[e] at hK
  simp(disch:=omega)only[Zu,Zv,Zx,Zz,EZ,↓EP,↓reduceIte,Za,Zb,Zc,Zd,Ze,Zf,Zg,Zj,Zk,Zl,Zm,Zn,Zp,Zq,reduceCtorEq,h]
  exact hK _ f12
theorem bslV {e n : Nat} {k : IntKind} {w : World} {parts : List (Nat × Value)} {l : List Int} {K : Value → World → Prop} (h : fillS 1 ((Array.range (n * 1)).map (#[Value.int k 0][· % #[Value.int k 0].size]!)) parts = some (nums k l).toArray)
  (hK : ∀ w', New w w' (nums k l) → K (.slice (some ⟨w.heap.size, 0, none⟩) n n) w') : bslT e 1 n #[.int k 0] parts w K .mk := ⟨_, h, hK _ (new_of rfl (by simp))⟩
theorem fillK2 (A B : Option Addr) (a b c d : Nat) : fillL [(0, 1), (1, 1)] #[(.slice none 0 0), (.slice none 0 0)] [(0, .slice A a b), (1, .slice B c d)] = some [Value.slice A a b, .slice B c d].toArray := by kernel_rfl
theorem len_kN0 : kN0.length = 16 := by unfold kN0; rfl
theorem known0_k {w : World} {K : Value → World → Prop}
  (hK : ∀ A B v w', Rd w' A (nums .u32 kN0) → Rd w' B (nums .u32 [3]) → Fr w w' nob → K (.tuple #[.agg #[.slice A 16 16, .slice B 1 1], v]) w') : callK Tryz.prog 15 [.int .i64 0] w K := by
 refine call_of Tryz.func15 Code.h15 (by simp[Code.c15]) ?_
 simp(disch:=omega)only[Zu,Zv,Zx,Zz,EZ,↓EP,↓reduceIte,Za,Zb,Zc,Zd,Ze,Zf,Zg,Zj,Zk,Zl,Zm,Zn,Zp,Zq,reduceCtorEq,Code.c15]
 refine al_k [.slice none 0 0, .slice none 0 0] rfl fun w1 n1 => ?_
 simp(disch:=omega)only[Zu,Zv,Zx,Zz,EZ,↓EP,↓reduceIte,Za,Zb,Zc,Zd,Ze,Zf,Zg,Zj,Zk,Zl,Zm,Zn,Zp,Zq,reduceCtorEq]
 refine bslV (l := kN0) (by unfold kN0; kernel_rfl) fun w2 n2 => ?_
 simp(disch:=omega)only[Zu,Zv,Zx,Zz,EZ,↓EP,↓reduceIte,Za,Zb,Zc,Zd,Ze,Zf,Zg,Zj,Zk,Zl,Zm,Zn,Zp,Zq,reduceCtorEq]
 refine bslV (l := [3]) (by kernel_rfl) fun w3 n3 => ?_
 simp(disch:=omega)only[Zu,Zv,Zx,Zz,EZ,↓EP,↓reduceIte,Za,Zb,Zc,Zd,Ze,Zf,Zg,Zj,Zk,Zl,Zm,Zn,Zp,Zq,reduceCtorEq]
 refine ⟨_, fillK2 _ _ _ _ _ _, ?_⟩
 simp(disch:=omega)only[Zu,Zv,Zx,Zz,EZ,↓EP,↓reduceIte,Za,Zb,Zc,Zd,Ze,Zf,Zg,Zj,Zk,Zl,Zm,Zn,Zp,Zq,reduceCtorEq]
 refine bslV (l := kD0) (by unfold kD0; kernel_rfl) fun w4 n4 => ?_
 simp(disch:=omega)only[Zu,Zv,Zx,Zz,EZ,↓EP,↓reduceIte,Za,Zb,Zc,Zd,Ze,Zf,Zg,Zj,Zk,Zl,Zm,Zn,Zp,Zq,reduceCtorEq]
 have hB := (((n1.blk.nb (n2.fr nob)).nb (n3.fr nob)).nb (n4.fr nob))
 refine st_whole (cs := [.slice (some ⟨w1.heap.size, 0, none⟩) 16 16, .slice (some ⟨w2.heap.size, 0, none⟩) 1 1]) hB rfl rfl (by simp; exact ⟨rfl, rfl⟩) fun w5 p5 => ?_
 simp(disch:=omega)only[Zu,Zv,Zx,Zz,EZ,↓EP,↓reduceIte,Za,Zb,Zc,Zd,Ze,Zf,Zg,Zj,Zk,Zl,Zm,Zn,Zp,Zq,reduceCtorEq]
 refine p5.blk.ldAgg rfl ?_
 have hz1 := n1.size
 have hz2 := n2.size
 have hz3 := n3.size
 have hz4 := n4.size
 have f2 : Fr w w4 nob := (((n1.fr nob).nb (n2.fr nob)).nb (n3.fr nob)).nb (n4.fr nob)
 refine hK _ _ _ w5 ?_ ?_ (f2.trans p5.fr fun x hx e => by omega)
 ·have h := (n2.rdv.nb (n3.fr nob)).nb (n4.fr nob)
  exact h.fr p5.fr (.inr fun p e x => by cases e; simp only at x; omega)
 ·have h := n3.rdv.nb (n4.fr nob)
  exact h.fr p5.fr (.inr fun p e x => by cases e; simp only at x; omega)
end Go.Proofs.YtcgplgpdcfocpaaGreatDoor.Der
end
section
namespace Go.Proofs.YtcgplgpdcfocpaaGreatDoor.Der
open Go Go.RowKit Go.Proofs Go.Proofs.YtcgplgpdcfocpaaGreatDoor.Eng Go.Proofs.YtcgplgpdcfocpaaGreatDoor.Code
attribute [local irreducible] callK S.W opsW scrW scrT
open Go.Proofs.YtcgplgpdcfocpaaGreatDoor.Spec Go.Proofs.YtcgplgpdcfocpaaGreatDoor.Big
theorem knownD0 {w : World} {K : Value → World → Prop}
  (hK : ∀ A B C w', Rd w' A (nums .u32 kN0) → Rd w' B (nums .u32 [3]) → Rd w' C (nums .u32 kD0) → Fr w w' nob → K (.tuple #[.agg #[.slice A 16 16, .slice B 1 1], .slice C 16 16]) w') : callK Tryz.prog 15 [.int .i64 0] w K := by
 refine call_of Tryz.func15 Code.h15 (by simp[Code.c15]) ?_
 simp(disch:=omega)only[Zu,Zv,Zx,Zz,EZ,↓EP,↓reduceIte,Za,Zb,Zc,Zd,Ze,Zf,Zg,Zj,Zk,Zl,Zm,Zn,Zp,Zq,reduceCtorEq,Code.c15]
 refine al_k [.slice none 0 0, .slice none 0 0] rfl fun w1 n1 => ?_
 simp(disch:=omega)only[Zu,Zv,Zx,Zz,EZ,↓EP,↓reduceIte,Za,Zb,Zc,Zd,Ze,Zf,Zg,Zj,Zk,Zl,Zm,Zn,Zp,Zq,reduceCtorEq]
 refine bslV (l := kN0) (by unfold kN0; kernel_rfl) fun w2 n2 => ?_
 simp(disch:=omega)only[Zu,Zv,Zx,Zz,EZ,↓EP,↓reduceIte,Za,Zb,Zc,Zd,Ze,Zf,Zg,Zj,Zk,Zl,Zm,Zn,Zp,Zq,reduceCtorEq]
 refine bslV (l := [3]) (by kernel_rfl) fun w3 n3 => ?_
 simp(disch:=omega)only[Zu,Zv,Zx,Zz,EZ,↓EP,↓reduceIte,Za,Zb,Zc,Zd,Ze,Zf,Zg,Zj,Zk,Zl,Zm,Zn,Zp,Zq,reduceCtorEq]
 refine ⟨_, fillK2 _ _ _ _ _ _, ?_⟩
 simp(disch:=omega)only[Zu,Zv,Zx,Zz,EZ,↓EP,↓reduceIte,Za,Zb,Zc,Zd,Ze,Zf,Zg,Zj,Zk,Zl,Zm,Zn,Zp,Zq,reduceCtorEq]
 refine bslV (l := kD0) (by unfold kD0; kernel_rfl) fun w4 n4 => ?_
 simp(disch:=omega)only[Zu,Zv,Zx,Zz,EZ,↓EP,↓reduceIte,Za,Zb,Zc,Zd,Ze,Zf,Zg,Zj,Zk,Zl,Zm,Zn,Zp,Zq,reduceCtorEq]
 have hB := (((n1.blk.nb (n2.fr nob)).nb (n3.fr nob)).nb (n4.fr nob))
 refine st_whole (cs := [.slice (some ⟨w1.heap.size, 0, none⟩) 16 16, .slice (some ⟨w2.heap.size, 0, none⟩) 1 1]) hB rfl rfl (by simp; exact ⟨rfl, rfl⟩) fun w5 p5 => ?_
 simp(disch:=omega)only[Zu,Zv,Zx,Zz,EZ,↓EP,↓reduceIte,Za,Zb,Zc,Zd,Ze,Zf,Zg,Zj,Zk,Zl,Zm,Zn,Zp,Zq,reduceCtorEq]
 refine p5.blk.ldAgg rfl ?_
 have hz1 := n1.size
 have hz2 := n2.size
 have hz3 := n3.size
 have hz4 := n4.size
 have f2 : Fr w w4 nob := (((n1.fr nob).nb (n2.fr nob)).nb (n3.fr nob)).nb (n4.fr nob)
 refine hK _ _ _ w5 ?_ ?_ ?_ (f2.trans p5.fr fun x hx e => by omega)
 ·have h := (n2.rdv.nb (n3.fr nob)).nb (n4.fr nob)
  exact h.fr p5.fr (.inr fun p e x => by cases e; simp only at x; omega)
 ·have h := n3.rdv.nb (n4.fr nob)
  exact h.fr p5.fr (.inr fun p e x => by cases e; simp only at x; omega)
 ·have h := n4.rdv
  exact h.fr p5.fr (.inr fun p e x => by cases e; simp only at x; omega)
theorem knownD1 {w : World} {K : Value → World → Prop}
  (hK : ∀ A B C w', Rd w' A (nums .u32 kN1) → Rd w' B (nums .u32 [65537]) → Rd w' C (nums .u32 kD1) → Fr w w' nob → K (.tuple #[.agg #[.slice A 24 24, .slice B 1 1], .slice C 24 24]) w') : callK Tryz.prog 15 [.int .i64 1] w K := by
 refine call_of Tryz.func15 Code.h15 (by simp[Code.c15]) ?_
 simp(disch:=omega)only[Zu,Zv,Zx,Zz,EZ,↓EP,↓reduceIte,Za,Zb,Zc,Zd,Ze,Zf,Zg,Zj,Zk,Zl,Zm,Zn,Zp,Zq,reduceCtorEq,Code.c15]
 refine al_k [.slice none 0 0, .slice none 0 0] rfl fun w1 n1 => ?_
 simp(disch:=omega)only[Zu,Zv,Zx,Zz,EZ,↓EP,↓reduceIte,Za,Zb,Zc,Zd,Ze,Zf,Zg,Zj,Zk,Zl,Zm,Zn,Zp,Zq,reduceCtorEq]
 refine bslV (l := kN1) (by unfold kN1; kernel_rfl) fun w2 n2 => ?_
 simp(disch:=omega)only[Zu,Zv,Zx,Zz,EZ,↓EP,↓reduceIte,Za,Zb,Zc,Zd,Ze,Zf,Zg,Zj,Zk,Zl,Zm,Zn,Zp,Zq,reduceCtorEq]
 refine bslV (l := [65537]) (by kernel_rfl) fun w3 n3 => ?_
 simp(disch:=omega)only[Zu,Zv,Zx,Zz,EZ,↓EP,↓reduceIte,Za,Zb,Zc,Zd,Ze,Zf,Zg,Zj,Zk,Zl,Zm,Zn,Zp,Zq,reduceCtorEq]
 refine ⟨_, fillK2 _ _ _ _ _ _, ?_⟩
 simp(disch:=omega)only[Zu,Zv,Zx,Zz,EZ,↓EP,↓reduceIte,Za,Zb,Zc,Zd,Ze,Zf,Zg,Zj,Zk,Zl,Zm,Zn,Zp,Zq,reduceCtorEq]
 refine bslV (l := kD1) (by unfold kD1; kernel_rfl) fun w4 n4 => ?_
 simp(disch:=omega)only[Zu,Zv,Zx,Zz,EZ,↓EP,↓reduceIte,Za,Zb,Zc,Zd,Ze,Zf,Zg,Zj,Zk,Zl,Zm,Zn,Zp,Zq,reduceCtorEq]
 have hB := (((n1.blk.nb (n2.fr nob)).nb (n3.fr nob)).nb (n4.fr nob))
 refine st_whole (cs := [.slice (some ⟨w1.heap.size, 0, none⟩) 24 24, .slice (some ⟨w2.heap.size, 0, none⟩) 1 1]) hB rfl rfl (by simp; exact ⟨rfl, rfl⟩) fun w5 p5 => ?_
 simp(disch:=omega)only[Zu,Zv,Zx,Zz,EZ,↓EP,↓reduceIte,Za,Zb,Zc,Zd,Ze,Zf,Zg,Zj,Zk,Zl,Zm,Zn,Zp,Zq,reduceCtorEq]
 refine p5.blk.ldAgg rfl ?_
 have hz1 := n1.size
 have hz2 := n2.size
 have hz3 := n3.size
 have hz4 := n4.size
 have f2 : Fr w w4 nob := (((n1.fr nob).nb (n2.fr nob)).nb (n3.fr nob)).nb (n4.fr nob)
 refine hK _ _ _ w5 ?_ ?_ ?_ (f2.trans p5.fr fun x hx e => by omega)
 ·have h := (n2.rdv.nb (n3.fr nob)).nb (n4.fr nob)
  exact h.fr p5.fr (.inr fun p e x => by cases e; simp only at x; omega)
 ·have h := n3.rdv.nb (n4.fr nob)
  exact h.fr p5.fr (.inr fun p e x => by cases e; simp only at x; omega)
 ·have h := n4.rdv
  exact h.fr p5.fr (.inr fun p e x => by cases e; simp only at x; omega)
theorem knownD2 {w : World} {K : Value → World → Prop}
  (hK : ∀ A B C w', Rd w' A (nums .u32 kN2) → Rd w' B (nums .u32 [65537]) → Rd w' C (nums .u32 kD2) → Fr w w' nob → K (.tuple #[.agg #[.slice A 32 32, .slice B 1 1], .slice C 32 32]) w') : callK Tryz.prog 15 [.int .i64 2] w K := by
 refine call_of Tryz.func15 Code.h15 (by simp[Code.c15]) ?_
 simp(disch:=omega)only[Zu,Zv,Zx,Zz,EZ,↓EP,↓reduceIte,Za,Zb,Zc,Zd,Ze,Zf,Zg,Zj,Zk,Zl,Zm,Zn,Zp,Zq,reduceCtorEq,Code.c15]
 refine al_k [.slice none 0 0, .slice none 0 0] rfl fun w1 n1 => ?_
 simp(disch:=omega)only[Zu,Zv,Zx,Zz,EZ,↓EP,↓reduceIte,Za,Zb,Zc,Zd,Ze,Zf,Zg,Zj,Zk,Zl,Zm,Zn,Zp,Zq,reduceCtorEq]
 refine bslV (l := kN2) (by unfold kN2; kernel_rfl) fun w2 n2 => ?_
 simp(disch:=omega)only[Zu,Zv,Zx,Zz,EZ,↓EP,↓reduceIte,Za,Zb,Zc,Zd,Ze,Zf,Zg,Zj,Zk,Zl,Zm,Zn,Zp,Zq,reduceCtorEq]
 refine bslV (l := [65537]) (by kernel_rfl) fun w3 n3 => ?_
 simp(disch:=omega)only[Zu,Zv,Zx,Zz,EZ,↓EP,↓reduceIte,Za,Zb,Zc,Zd,Ze,Zf,Zg,Zj,Zk,Zl,Zm,Zn,Zp,Zq,reduceCtorEq]
 refine ⟨_, fillK2 _ _ _ _ _ _, ?_⟩
 simp(disch:=omega)only[Zu,Zv,Zx,Zz,EZ,↓EP,↓reduceIte,Za,Zb,Zc,Zd,Ze,Zf,Zg,Zj,Zk,Zl,Zm,Zn,Zp,Zq,reduceCtorEq]
 refine bslV (l := kD2) (by unfold kD2; kernel_rfl) fun w4 n4 => ?_
 simp(disch:=omega)only[Zu,Zv,Zx,Zz,EZ,↓EP,↓reduceIte,Za,Zb,Zc,Zd,Ze,Zf,Zg,Zj,Zk,Zl,Zm,Zn,Zp,Zq,reduceCtorEq]
 have hB := (((n1.blk.nb (n2.fr nob)).nb (n3.fr nob)).nb (n4.fr nob))
 refine st_whole (cs := [.slice (some ⟨w1.heap.size, 0, none⟩) 32 32, .slice (some ⟨w2.heap.size, 0, none⟩) 1 1]) hB rfl rfl (by simp; exact ⟨rfl, rfl⟩) fun w5 p5 => ?_
 simp(disch:=omega)only[Zu,Zv,Zx,Zz,EZ,↓EP,↓reduceIte,Za,Zb,Zc,Zd,Ze,Zf,Zg,Zj,Zk,Zl,Zm,Zn,Zp,Zq,reduceCtorEq]
 refine p5.blk.ldAgg rfl ?_
 have hz1 := n1.size
 have hz2 := n2.size
 have hz3 := n3.size
 have hz4 := n4.size
 have f2 : Fr w w4 nob := (((n1.fr nob).nb (n2.fr nob)).nb (n3.fr nob)).nb (n4.fr nob)
 refine hK _ _ _ w5 ?_ ?_ ?_ (f2.trans p5.fr fun x hx e => by omega)
 ·have h := (n2.rdv.nb (n3.fr nob)).nb (n4.fr nob)
  exact h.fr p5.fr (.inr fun p e x => by cases e; simp only at x; omega)
 ·have h := n3.rdv.nb (n4.fr nob)
  exact h.fr p5.fr (.inr fun p e x => by cases e; simp only at x; omega)
 ·have h := n4.rdv
  exact h.fr p5.fr (.inr fun p e x => by cases e; simp only at x; omega)
end Go.Proofs.YtcgplgpdcfocpaaGreatDoor.Der
end
section
namespace Go.Proofs.YtcgplgpdcfocpaaGreatDoor.Der
open Go Go.RowKit Go.Proofs Go.Proofs.YtcgplgpdcfocpaaGreatDoor.Eng Go.Proofs.YtcgplgpdcfocpaaGreatDoor.Code
attribute [local irreducible] callK S.W opsW scrW scrT
open Go.Proofs.YtcgplgpdcfocpaaGreatDoor.Spec Go.Proofs.YtcgplgpdcfocpaaGreatDoor.Big
attribute [local irreducible] putR putOidR infoR dig checkR kN0 kD0
theorem num8_k {e : Int} {w : World} {K : Value → World → Prop} (hK : K (.int .i64 e) w) : callK Tryz.prog 10 [.int .i64 e] w K := by
 refine call_of Tryz.func10 Code.h10 (by simp[Code.c10]) ?_
 simp(disch:=omega)only[Zu,Zv,Zx,Zz,EZ,↓EP,↓reduceIte,Za,Zb,Zc,Zd,Ze,Zf,Zg,Zj,Zk,Zl,Zm,Zn,Zp,Zq,reduceCtorEq,Code.c10]
 exact hK
theorem mask_foo : maskR 1 [102, 111, 111] 3 = ([26, 201, 7], 0) := by
 have h : maskR 1 [102, 111, 111] 3 = ((maskL 1 [102, 111, 111] 3).take 3, 0) := if_neg (by decide)
 have h1 : maskL 1 [102, 111, 111] 1 = dig 1 [102, 111, 111, 0, 0, 0, 0] := by
  rw[maskL_succ,maskL_zero,List.nil_append]
  rfl
 rw[h,← maskL_take (i := 1) (by decide) (by decide) _ (by rw [h1,dig_foo]; decide),h1,dig_foo]
 rfl
theorem str_foo : ((strOfNums [26, 201, 7]).toList == (⟨#[26, 201, 7]⟩ : ByteArray).toList) = true := by decide +kernel
theorem info_len0 : (infoR 1 (List.replicate 20 0)).length = 35 := by rw[info_zero]; rfl
theorem pad_zero : padR 1 (List.replicate 20 0) 46 = ([0, 1, 255, 255, 255, 255, 255, 255, 255, 255, 0, 48, 33, 48, 9, 6, 5, 43, 14, 3, 2, 26, 5, 0, 4, 20] ++ List.replicate 20 0, 0) := by
 have h : padR 1 (List.replicate 20 0) 46 = if (46 : Int) < (infoR 1 (List.replicate 20 0)).length + 11 then ([], 2) else ([0, 1] ++ List.replicate ((46 : Int).toNat - (infoR 1 (List.replicate 20 0)).length - 3) 255 ++ [0] ++ infoR 1 (List.replicate 20 0), 0) := if_neg (by decide)
 rw[h,info_len0,if_neg (by decide),info_zero]
 rfl
theorem check_s {w : World} {A B : Option Addr} (hN : Rd w A (nums .u32 [15])) (hE : Rd w B (nums .u32 [3])) {K : Value → World → Prop} (hK : ∀ w', Fr w w' nob → K (.int .i64 80) w') : callK Tryz.prog 24 [.agg #[.slice A 1 1, .slice B 1 1]] w K :=
 check_k (N := [15]) (E := [3]) (Vw.of rfl (by decide) hN) (Vw.of rfl (by decide) hE) (fun x h => by simp at h; omega) (fun x h => by simp at h; omega) (by decide) (by decide) fun w' f => by rw[check_small]; exact hK w' f
theorem size_k0 : sizeK kN0 [3] = 64 := by
 unfold sizeK
 rw[check_key0,bits_key0]
 rfl
theorem size_s {w : World} {A B : Option Addr} (hN : Rd w A (nums .u32 kN0)) (hE : Rd w B (nums .u32 [3])) {K : Value → World → Prop} (hK : ∀ w', Fr w w' nob → K (.int .i64 64) w') : callK Tryz.prog 25 [.agg #[.slice A 16 16, .slice B 1 1]] w K :=
 sizek_k (N := kN0) (E := [3]) (Vw.of len_kN0 (by decide) hN) (Vw.of rfl (by decide) hE) lim_key0 (fun x h => by simp at h; omega) (by rw[len_kN0]; decide) (by decide) fun w' f => by rw[size_k0]; exact hK w' f
set_option maxHeartbeats 8000000 in
theorem live8_k {w : World} (hT : Tb w) {K : Value → World → Prop} (hK : ∀ w', Fr w w' nob → K (.bool true) w') : callK Tryz.prog 8 [] w K := by
 refine call_of Tryz.func8 Code.h8 (by simp[Code.c8]) ?_
 simp(disch:=omega)only[Zu,Zv,Zx,Zz,EZ,↓EP,↓reduceIte,Za,Zb,Zc,Zd,Ze,Zf,Zg,Zj,Zk,Zl,Zm,Zn,Zp,Zq,reduceCtorEq,Code.c8]
 refine bsl3 fun w1 n1 => ?_
 simp(disch:=omega)only[Zu,Zv,Zx,Zz,EZ,↓EP,↓reduceIte,Za,Zb,Zc,Zd,Ze,Zf,Zg,Zj,Zk,Zl,Zm,Zn,Zp,Zq,reduceCtorEq,↓i_cvidT,↓i_cvbsJ]
 refine cvid_k n1.rdl fun w2 f2 r2 => ?_
 have f02 : Fr w w2 nob := (n1.fr nob).trans f2 fun x hx e => by omega
 simp(disch:=omega)only[Zu,Zv,Zx,Zz,EZ,↓EP,↓reduceIte,Za,Zb,Zc,Zd,Ze,Zf,Zg,Zj,Zk,Zl,Zm,Zn,Zp,Zq,reduceCtorEq]
 refine mask_k (seed := [102, 111, 111]) (hT.fr f02 (fun x => x) (fun x => x)) (Nat.le_refl _) r2 (by decide) fun v3 w3 h3 u3 f3 => ?_
 rw[mask_foo] at h3 ⊢
 obtain ⟨A3, c3, rfl, hc3, hr3⟩ := h3
 have f03 := f02.nb f3
 simp(disch:=omega)only[Zu,Zv,Zx,Zz,EZ,↓EP,↓reduceIte,Za,Zb,Zc,Zd,Ze,Zf,Zg,Zj,Zk,Zl,Zm,Zn,Zp,Zq,reduceCtorEq]
 refine al_k (nums .u8 (List.replicate 20 0)) (by kernel_rfl) fun w4 n4 => ?_
 have f04 := f03.nb (n4.fr nob)
 have hv4 : Vw .u8 w4 (.slice (some ⟨w3.heap.size, 0, none⟩) 20 20) (List.replicate 20 0) := n4.sl.vw
 simp(disch:=omega)only[Zu,Zv,Zx,Zz,EZ,↓EP,↓reduceIte,Za,Zb,Zc,Zd,Ze,Zf,Zg,Zj,Zk,Zl,Zm,Zn,Zp,Zq,reduceCtorEq]
 refine pad_k (by decide) hv4 (by decide) fun v5 w5 g5 => ?_
 rw[pad_zero] at g5 ⊢
 have f05 := f04.nb g5.fr
 obtain ⟨A5, c5, rfl, hc5, hr5, _⟩ := g5.sl.read
 simp(disch:=omega)only[Zu,Zv,Zx,Zz,EZ,↓EP,↓reduceIte,Za,Zb,Zc,Zd,Ze,Zf,Zg,Zj,Zk,Zl,Zm,Zn,Zp,Zq,reduceCtorEq,pr2]
 refine known0_k fun A6 B6 v6 w6 r6 q6 f6 => ?_
 have f06 := f05.nb f6
 simp(disch:=omega)only[Zu,Zv,Zx,Zz,EZ,↓EP,↓reduceIte,Za,Zb,Zc,Zd,Ze,Zf,Zg,Zj,Zk,Zl,Zm,Zn,Zp,Zq,reduceCtorEq]
 refine al_k [.slice none 0 0, .slice none 0 0] rfl fun w7 n7 => ?_
 simp(disch:=omega)only[Zu,Zv,Zx,Zz,EZ,↓EP,↓reduceIte,Za,Zb,Zc,Zd,Ze,Zf,Zg,Zj,Zk,Zl,Zm,Zn,Zp,Zq,reduceCtorEq]
 refine st_whole (cs := [.slice A6 16 16, .slice B6 1 1]) n7.blk rfl rfl (by simp; exact ⟨rfl, rfl⟩) fun w8 p8 => ?_
 have hz7 := n7.size
 have f07 := f06.nb (n7.fr nob)
 have f68 : Fr w6 w8 nob := (n7.fr nob).trans p8.fr fun x hx e => by omega
 have f08 := f06.nb f68
 have f38 : Fr w3 w8 nob := (((n4.fr nob).nb g5.fr).nb f6).nb f68
 have f58 : Fr w5 w8 nob := f6.nb f68
 simp(disch:=omega)only[Zu,Zv,Zx,Zz,EZ,↓EP,↓reduceIte,Za,Zb,Zc,Zd,Ze,Zf,Zg,Zj,Zk,Zl,Zm,Zn,Zp,Zq,reduceCtorEq]
 refine num8_k ?_
 simp(disch:=omega)only[Zu,Zv,Zx,Zz,EZ,↓EP,↓reduceIte,Za,Zb,Zc,Zd,Ze,Zf,Zg,Zj,Zk,Zl,Zm,Zn,Zp,Zq,reduceCtorEq]
 refine num8_k ?_
 simp(disch:=omega)only[Zu,Zv,Zx,Zz,EZ,↓EP,↓reduceIte,Za,Zb,Zc,Zd,Ze,Zf,Zg,Zj,Zk,Zl,Zm,Zn,Zp,Zq,reduceCtorEq,↓i_cvidT,↓i_cvbsJ]
 refine cvbs_k (l := [26, 201, 7]) (hr3.nb f38) rfl ?_
 simp(disch:=omega)only[Zu,Zv,Zx,Zz,EZ,↓EP,↓reduceIte,Za,Zb,Zc,Zd,Ze,Zf,Zg,Zj,Zk,Zl,Zm,Zn,Zp,Zq,reduceCtorEq]
 refine eql_k str_foo ?_
 have hlen : ([0, 1, 255, 255, 255, 255, 255, 255, 255, 255, 0, 48, 33, 48, 9, 6, 5, 43, 14, 3, 2, 26, 5, 0, 4, 20] ++ List.replicate 20 (0 : Int)).length = 46 := by decide
 obtain ⟨pa, hpa, _, hcl⟩ := (hr5.nb f58).get (by rw[nums_length,hlen]; decide)
 subst hpa
 have z1 : w8.cell? (pa.add 1) = some (.int .u8 1) := hcl.numN (j := 1) (by rw[hlen]; decide)
 have z10 : w8.cell? (pa.add 10) = some (.int .u8 0) := hcl.numN (j := 10) (by rw[hlen]; decide)
 have z11 : w8.cell? (pa.add 11) = some (.int .u8 48) := hcl.numN (j := 11) (by rw[hlen]; decide)
 simp(disch:=omega)only[Zu,Zv,Zx,Zz,EZ,↓EP,↓reduceIte,Za,Zb,Zc,Zd,Ze,Zf,Zg,Zj,Zk,Zl,Zm,Zn,Zp,Zq,reduceCtorEq,hlen,z1,z10,z11]
 refine bslV (l := [15]) (by kernel_rfl) fun w9 n9 => ?_
 have f9 := n9.fr nob
 simp(disch:=omega)only[Zu,Zv,Zx,Zz,EZ,↓EP,↓reduceIte,Za,Zb,Zc,Zd,Ze,Zf,Zg,Zj,Zk,Zl,Zm,Zn,Zp,Zq,reduceCtorEq]
 refine bslV (l := [3]) (by kernel_rfl) fun w10 n10 => ?_
 have f10 := n10.fr nob
 simp(disch:=omega)only[Zu,Zv,Zx,Zz,EZ,↓EP,↓reduceIte,Za,Zb,Zc,Zd,Ze,Zf,Zg,Zj,Zk,Zl,Zm,Zn,Zp,Zq,reduceCtorEq]
 refine ⟨_, fillK2 _ _ _ _ _ _, ?_⟩
 simp(disch:=omega)only[Zu,Zv,Zx,Zz,EZ,↓EP,↓reduceIte,Za,Zb,Zc,Zd,Ze,Zf,Zg,Zj,Zk,Zl,Zm,Zn,Zp,Zq,reduceCtorEq]
 refine check_s (n9.rdl.nb f10) n10.rdl fun w11 f11 => ?_
 have f8b : Fr w8 w11 nob := (f9.nb f10).nb f11
 simp(disch:=omega)only[Zu,Zv,Zx,Zz,EZ,↓EP,↓reduceIte,Za,Zb,Zc,Zd,Ze,Zf,Zg,Zj,Zk,Zl,Zm,Zn,Zp,Zq,reduceCtorEq]
 refine num8_k ?_
 simp(disch:=omega)only[Zu,Zv,Zx,Zz,EZ,↓EP,↓reduceIte,Za,Zb,Zc,Zd,Ze,Zf,Zg,Zj,Zk,Zl,Zm,Zn,Zp,Zq,reduceCtorEq]
 refine (p8.blk.nb f8b).ldAgg rfl ?_
 simp(disch:=omega)only[Zu,Zv,Zx,Zz,EZ,↓EP,↓reduceIte,Za,Zb,Zc,Zd,Ze,Zf,Zg,Zj,Zk,Zl,Zm,Zn,Zp,Zq,reduceCtorEq]
 refine size_s ((r6.nb f68).nb f8b) ((q6.nb f68).nb f8b) fun w12 f12 => ?_
 simp(disch:=omega)only[Zu,Zv,Zx,Zz,EZ,↓EP,↓reduceIte,Za,Zb,Zc,Zd,Ze,Zf,Zg,Zj,Zk,Zl,Zm,Zn,Zp,Zq,reduceCtorEq]
 exact hK _ ((f08.nb f8b).nb f12)
end Go.Proofs.YtcgplgpdcfocpaaGreatDoor.Der
end
section
namespace Go.Proofs.YtcgplgpdcfocpaaGreatDoor.Der
open Go Go.RowKit Go.Proofs Go.Proofs.YtcgplgpdcfocpaaGreatDoor.Eng Go.Proofs.YtcgplgpdcfocpaaGreatDoor.Code
attribute [local irreducible] callK S.W opsW scrW scrT
open Go.Proofs.YtcgplgpdcfocpaaGreatDoor.Spec Go.Proofs.YtcgplgpdcfocpaaGreatDoor.Big
attribute [local irreducible] checkR powR tbR fbR
def rawR (N E sig : List Int) : List Int × Int :=
 if sizeK N E = 0 then ([], 80) else if (sig.length : Int) ≠ sizeK N E then ([], 112) else if ¬ val (fbR sig).1 < val N then ([], 112) else ((tbR (powR (fbR sig).1 E N).1 (sizeK N E)).1, 0)
theorem fb_lim (l : List Int) : Lim (fbR l).1 := by
 unfold fbR
 split
 ·exact Lim.nil
 ·exact limbs_lim _
theorem pow_lim (b e m : List Int) : Lim (powR b e m).1 := by
 unfold powR
 repeat' split
 ·exact Lim.nil
 ·exact Lim.nil
 ·exact limbs_lim _
theorem fb_len (l : List Int) (h : Byt l) : (fbR l).1.length ≤ 512 := by
 unfold fbR
 split
 ·simp
 ·rename_i hl
  show (limbs (bv l)).length ≤ 512
  rw[limbs_len (bv_bd h).1]
  refine Int.lt_of_lt_of_le (bv_bd h).2 ?_
  rw[p8_pw,p8_p2,p8_p2]
  exact p2_mono (by omega)
theorem size_bd {N E : List Int} (lN : Lim N) : 0 ≤ sizeK N E ∧ sizeK N E ≤ 1024 := by
 unfold sizeK
 by_cases h : checkR N E = 0
 ·rw[if_neg (by simpa using h)]
  have hn : ¬ 256 < N.length := fun g => by
   unfold checkR at h
   rw[if_pos (.inl g)] at h
   exact absurd h (by decide)
  have := bl_lim lN
  omega
 ·rw[if_pos h]; omega
set_option maxHeartbeats 8000000 in
theorem raw_k {w : World} {vN vE v : Value} {N E sig : List Int} (hN : Vw .u32 w vN N) (hE : Vw .u32 w vE E) (lN : Lim N) (lE : Lim E) (nN : N.length ≤ 4194304) (nE : E.length ≤ 4194304) (hv : Vw .u8 w v sig) (hb : Byt sig) (h63 : sig.length ≤ 9223372036854775807) {K : Value → World → Prop}
  (hK : ∀ v' w', Gw .u8 w w' v' (rawR N E sig).1 → K (pr2 v' (rawR N E sig).2) w') : callK Tryz.prog 27 [.agg #[vN, vE], v] w K := by
 refine call_of Tryz.func27 Code.h27 (by simp[Code.c27]) ?_
 have hN0 := hN
 have hE0 := hE
 have hv0 := hv
 obtain ⟨A, c, rfl, hc, hr⟩ := hN0
 obtain ⟨B, d, rfl, hd, hs⟩ := hE0
 obtain ⟨D, q, rfl, hq, ht⟩ := hv0
 have hsb := size_bd (E := E) lN
 simp(disch:=omega)only[Zu,Zv,Zx,Zz,EZ,↓EP,↓reduceIte,Za,Zb,Zc,Zd,Ze,Zf,Zg,Zj,Zk,Zl,Zm,Zn,Zp,Zq,reduceCtorEq,Code.c27]
 refine al_k [.slice A N.length c, .slice B E.length d] rfl fun w1 n1 => ?_
 have f1 := n1.fr nob
 simp(disch:=omega)only[Zu,Zv,Zx,Zz,EZ,↓EP,↓reduceIte,Za,Zb,Zc,Zd,Ze,Zf,Zg,Zj,Zk,Zl,Zm,Zn,Zp,Zq,reduceCtorEq]
 refine n1.blk.ldAgg rfl ?_
 simp(disch:=omega)only[Zu,Zv,Zx,Zz,EZ,↓EP,↓reduceIte,Za,Zb,Zc,Zd,Ze,Zf,Zg,Zj,Zk,Zl,Zm,Zn,Zp,Zq,reduceCtorEq]
 refine sizek_k (hN.nb f1) (hE.nb f1) lN lE nN nE fun w2 f2 => ?_
 have f12 := f1.nb f2
 by_cases h0 : sizeK N E = 0
 ·have e : rawR N E sig = ([], 80) := if_pos h0
  rw[e] at hK
  simp(disch:=omega)only[Zu,Zv,Zx,Zz,EZ,↓EP,↓reduceIte,Za,Zb,Zc,Zd,Ze,Zf,Zg,Zj,Zk,Zl,Zm,Zn,Zp,Zq,reduceCtorEq,h0]
  exact hK _ _ ⟨Sl.nil _ _, (fun b e => by cases e), f12⟩
 by_cases h1 : (sig.length : Int) = sizeK N E
 rotate_left
 ·have e : rawR N E sig = ([], 112) := by unfold rawR; rw[if_neg h0,if_pos h1]
  rw[e] at hK
  simp(disch:=omega)only[Zu,Zv,Zx,Zz,EZ,↓EP,↓reduceIte,Za,Zb,Zc,Zd,Ze,Zf,Zg,Zj,Zk,Zl,Zm,Zn,Zp,Zq,reduceCtorEq,h0,h1]
  exact hK _ _ ⟨Sl.nil _ _, (fun b e => by cases e), f12⟩
 simp(disch:=omega)only[Zu,Zv,Zx,Zz,EZ,↓EP,↓reduceIte,Za,Zb,Zc,Zd,Ze,Zf,Zg,Zj,Zk,Zl,Zm,Zn,Zp,Zq,reduceCtorEq,h0,h1]
 refine frombytes_vw (hv.nb f12) hb _ fun v3 w3 g3 => ?_
 obtain ⟨A3, c3, rfl, hc3, hr3, _⟩ := g3.sl.read
 have f13 := f12.nb g3.fr
 have k0 : ∀ w', Fr w1 w' nob → w'.cell? ⟨w.heap.size, 0, none⟩ = some (.slice A N.length c) := fun w' f => (n1.blk.nb f).has 0 _ rfl
 have k1 : ∀ w', Fr w1 w' nob → w'.cell? ⟨w.heap.size, 1, none⟩ = some (.slice B E.length d) := fun w' f => (n1.blk.nb f).has 1 _ rfl
 have c0 := k0 w3 (f2.nb g3.fr)
 have hfl := fb_len sig hb
 simp(disch:=omega)only[Zu,Zv,Zx,Zz,EZ,↓EP,↓reduceIte,Za,Zb,Zc,Zd,Ze,Zf,Zg,Zj,Zk,Zl,Zm,Zn,Zp,Zq,reduceCtorEq,c0]
 refine cmp_vw g3.vw (hN.nb f13) (fb_lim sig) lN (by omega) (by omega) _ fun w4 f4 => ?_
 have f14 := f13.nb f4
 have c0 := k0 w4 ((f2.nb g3.fr).nb f4)
 have c1 := k1 w4 ((f2.nb g3.fr).nb f4)
 by_cases h2 : val (fbR sig).1 < val N
 rotate_left
 ·have e : rawR N E sig = ([], 112) := by unfold rawR; rw[if_neg h0,if_neg (by simpa using h1),if_pos h2]
  rw[e] at hK
  have hcm : 0 ≤ cmpI (val (fbR sig).1) (val N) := by
   unfold cmpI
   rw[if_neg h2]
   split <;> omega
  simp(disch:=omega)only[Zu,Zv,Zx,Zz,EZ,↓EP,↓reduceIte,Za,Zb,Zc,Zd,Ze,Zf,Zg,Zj,Zk,Zl,Zm,Zn,Zp,Zq,reduceCtorEq,hcm]
  exact hK _ _ ⟨Sl.nil _ _, (fun b e => by cases e), f14⟩
 have e : rawR N E sig = ((tbR (powR (fbR sig).1 E N).1 (sizeK N E)).1, 0) := by unfold rawR; rw[if_neg h0,if_neg (by simpa using h1),if_neg (by simpa using h2)]
 rw[e] at hK
 have hcm : ¬ 0 ≤ cmpI (val (fbR sig).1) (val N) := by rw[cmp_lt h2]; decide
 simp(disch:=omega)only[Zu,Zv,Zx,Zz,EZ,↓EP,↓reduceIte,Za,Zb,Zc,Zd,Ze,Zf,Zg,Zj,Zk,Zl,Zm,Zn,Zp,Zq,reduceCtorEq,hcm,c0,c1]
 refine expmod_vw (g3.vw.nb f4) (hE.nb f14) (hN.nb f14) (fb_lim sig) lE lN _ fun v5 w5 g5 => ?_
 obtain ⟨A5, c5, rfl, hc5, hr5, _⟩ := g5.sl.read
 have f15 := f14.nb g5.fr
 simp(disch:=omega)only[Zu,Zv,Zx,Zz,EZ,↓EP,↓reduceIte,Za,Zb,Zc,Zd,Ze,Zf,Zg,Zj,Zk,Zl,Zm,Zn,Zp,Zq,reduceCtorEq]
 refine bytes_vw (sizeK N E) g5.vw (pow_lim _ _ _) (by omega) _ fun v6 w6 g6 => ?_
 obtain ⟨A6, c6, rfl, hc6, hr6, _⟩ := g6.sl.read
 simp(disch:=omega)only[Zu,Zv,Zx,Zz,EZ,↓EP,↓reduceIte,Za,Zb,Zc,Zd,Ze,Zf,Zg,Zj,Zk,Zl,Zm,Zn,Zp,Zq,reduceCtorEq]
 refine hK _ _ ⟨g6.sl, fun b e => ?_, f15.nb g6.fr⟩
 have := g6.up b e
 have := f15.size
 omega
end Go.Proofs.YtcgplgpdcfocpaaGreatDoor.Der
end
section
namespace Go.Proofs.YtcgplgpdcfocpaaGreatDoor.Der
open Go Go.RowKit Go.Proofs Go.Proofs.YtcgplgpdcfocpaaGreatDoor.Eng Go.Proofs.YtcgplgpdcfocpaaGreatDoor.Code
attribute [local irreducible] callK S.W opsW scrW scrT
open Go.Proofs.YtcgplgpdcfocpaaGreatDoor.Spec Go.Proofs.YtcgplgpdcfocpaaGreatDoor.Big
attribute [local irreducible] checkR powR tbR fbR
end Go.Proofs.YtcgplgpdcfocpaaGreatDoor.Der
end
section
namespace Go.Proofs.YtcgplgpdcfocpaaGreatDoor.Der
open Go Go.RowKit Go.Proofs Go.Proofs.YtcgplgpdcfocpaaGreatDoor.Eng Go.Proofs.YtcgplgpdcfocpaaGreatDoor.Code
attribute [local irreducible] callK S.W opsW scrW scrT
open Go.Proofs.YtcgplgpdcfocpaaGreatDoor.Spec Go.Proofs.YtcgplgpdcfocpaaGreatDoor.Big
attribute [local irreducible] checkR sizeK powR tbR fbR padR
set_option maxHeartbeats 8000000 in
theorem power_k {w : World} {vN vE vD v : Value} {N E D P : List Int} (hN : Vw .u32 w vN N) (hE : Vw .u32 w vE E) (hD : Vw .u32 w vD D) (lN : Lim N) (lE : Lim E) (lD : Lim D) (nN : N.length ≤ 4194304) (nE : E.length ≤ 4194304) (hv : Vw .u8 w v P) (hb : Byt P) {K : Value → World → Prop}
  (hK : ∀ v' w', Gw .u8 w w' v' (tbR (powR (fbR P).1 D N).1 (sizeK N E)).1 → K v' w') : callK Tryz.prog 36 [.agg #[vN, vE], vD, v] w K := by
 refine call_of Tryz.func36 Code.h36 (by simp[Code.c36]) ?_
 have hN0 := hN
 have hE0 := hE
 have hD0 := hD
 have hv0 := hv
 obtain ⟨A, c, rfl, hc, hr⟩ := hN0
 obtain ⟨B, d, rfl, hd, hs⟩ := hE0
 obtain ⟨C, e, rfl, he, ht⟩ := hD0
 obtain ⟨F, q, rfl, hq, hu⟩ := hv0
 have hsb := size_bd (E := E) lN
 simp(disch:=omega)only[Zu,Zv,Zx,Zz,EZ,↓EP,↓reduceIte,Za,Zb,Zc,Zd,Ze,Zf,Zg,Zj,Zk,Zl,Zm,Zn,Zp,Zq,reduceCtorEq,Code.c36]
 refine al_k [.slice A N.length c, .slice B E.length d] rfl fun w1 n1 => ?_
 have f1 := n1.fr nob
 simp(disch:=omega)only[Zu,Zv,Zx,Zz,EZ,↓EP,↓reduceIte,Za,Zb,Zc,Zd,Ze,Zf,Zg,Zj,Zk,Zl,Zm,Zn,Zp,Zq,reduceCtorEq]
 refine rfrombytes_vw (hv.nb f1) hb _ fun v2 w2 g2 => ?_
 obtain ⟨A2, c2, rfl, hc2, hr2, _⟩ := g2.sl.read
 have f12 := f1.nb g2.fr
 have c0 : w2.cell? ⟨w.heap.size, 0, none⟩ = some (.slice A N.length c) := (n1.blk.nb g2.fr).has 0 _ rfl
 simp(disch:=omega)only[Zu,Zv,Zx,Zz,EZ,↓EP,↓reduceIte,Za,Zb,Zc,Zd,Ze,Zf,Zg,Zj,Zk,Zl,Zm,Zn,Zp,Zq,reduceCtorEq,c0]
 refine rexpmod_vw g2.vw (hD.nb f12) (hN.nb f12) (fb_lim P) lD lN _ fun v3 w3 g3 => ?_
 obtain ⟨A3, c3, rfl, hc3, hr3, _⟩ := g3.sl.read
 have f13 := f12.nb g3.fr
 simp(disch:=omega)only[Zu,Zv,Zx,Zz,EZ,↓EP,↓reduceIte,Za,Zb,Zc,Zd,Ze,Zf,Zg,Zj,Zk,Zl,Zm,Zn,Zp,Zq,reduceCtorEq]
 refine (n1.blk.nb (g2.fr.nb g3.fr)).ldAgg rfl ?_
 simp(disch:=omega)only[Zu,Zv,Zx,Zz,EZ,↓EP,↓reduceIte,Za,Zb,Zc,Zd,Ze,Zf,Zg,Zj,Zk,Zl,Zm,Zn,Zp,Zq,reduceCtorEq]
 refine rsizek_k (hN.nb f13) (hE.nb f13) lN lE nN nE fun w4 f4 => ?_
 have f14 := f13.nb f4
 simp(disch:=omega)only[Zu,Zv,Zx,Zz,EZ,↓EP,↓reduceIte,Za,Zb,Zc,Zd,Ze,Zf,Zg,Zj,Zk,Zl,Zm,Zn,Zp,Zq,reduceCtorEq]
 refine rbytes_vw (sizeK N E) (g3.vw.nb f4) (pow_lim _ _ _) (by omega) _ fun v5 w5 g5 => ?_
 obtain ⟨A5, c5, rfl, hc5, hr5, _⟩ := g5.sl.read
 simp(disch:=omega)only[Zu,Zv,Zx,Zz,EZ,↓EP,↓reduceIte,Za,Zb,Zc,Zd,Ze,Zf,Zg,Zj,Zk,Zl,Zm,Zn,Zp,Zq,reduceCtorEq]
 refine hK _ _ ⟨g5.sl, fun b e => ?_, f14.nb g5.fr⟩
 have := g5.up b e
 have := f14.size
 omega
end Go.Proofs.YtcgplgpdcfocpaaGreatDoor.Der
end
