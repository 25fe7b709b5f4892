/- RsaPsses: the row and the tied card: whatever the key, the digest and the signature, the program's VerifyPss answers as the document's, and the bytes stay; no condition. -/
import Derived.Test.YtcgplgpdcfocpaaGreatDoorCards
import Derived.Test.YtcgplgpdcfocpaaGreatDoorTie
import Derived.SevenTiedAt
import Derived.Test.YtcgplgpdcfocpaaGreatDoorRsaPssesr4
set_option linter.unusedVariables false
set_option linter.unusedSimpArgs false
set_option maxRecDepth 100000
open Int renaming reduceAdd → Za, reduceEq → Zb, reduceLE → Zc, reduceLT → Zd, reduceMul → Ze, reduceNeg → Zf, reducePow → Zg, reduceSub → Zj, reduceToNat → Zk
open Nat renaming reduceAdd → Zl, reduceEqDiff → Zm, reduceLT → Zn, reduceLeDiff → Zp, reduceMul → Zq
section
namespace Go.Proofs.YtcgplgpdcfocpaaGreatDoor.Der
open Go Go.RowKit Go.Proofs Go.Proofs.YtcgplgpdcfocpaaGreatDoor.Eng Go.Proofs.YtcgplgpdcfocpaaGreatDoor.Code
attribute [local irreducible] callK S.W opsW scrW scrT
open Go.Proofs.YtcgplgpdcfocpaaGreatDoor.Spec
def oidU (alg : Int) : List UInt8 :=
 if alg = 1 then [49, 46, 51, 46, 49, 52, 46, 51, 46, 50, 46, 50, 54]
 else if alg = 2 then [50, 46, 49, 54, 46, 56, 52, 48, 46, 49, 46, 49, 48, 49, 46, 51, 46, 52, 46, 50, 46, 49]
 else if alg = 3 then [50, 46, 49, 54, 46, 56, 52, 48, 46, 49, 46, 49, 48, 49, 46, 51, 46, 52, 46, 50, 46, 50]
 else [50, 46, 49, 54, 46, 56, 52, 48, 46, 49, 46, 49, 48, 49, 46, 51, 46, 52, 46, 50, 46, 51]
def oidP (alg : Int) : List Int := (putOidR (ints (oidU alg))).1
def infoR (alg : Int) (sum : List Int) : List Int :=
 (putR 0 16 true [(putR 0 16 true [(putR 0 6 false [oidP alg]).1, (putR 0 5 false []).1]).1, (putR 0 4 false [sum]).1]).1
def padR (alg : Int) (sum : List Int) (n : Int) : List Int × Int :=
 if sizeI alg = 0 ∨ (sum.length : Int) ≠ sizeI alg ∨ 2048 < n then ([], 1)
 else if n < (infoR alg sum).length + 11 then ([], 2)
 else ([0, 1] ++ List.replicate (n.toNat - (infoR alg sum).length - 3) 255 ++ [0] ++ infoR alg sum, 0)
theorem putR_len (cls tag : Int) (cons : Bool) (ls : List (List Int)) : (putR cls tag cons ls).1.length ≤ 17 + (ls.map List.length).sum := by
 unfold putR
 split
 ·simp
 ·split
  ·simp
  ·rw [headR_eq]
   simp only [List.length_append, List.length_flatten]
   have h1 := headA_len (firstR cls cons) tag
   have h2 := lenB_len (ls.map List.length).sum
   omega
theorem oid_len (alg : Int) : (oidP alg).length ≤ 30 := by
 have h1 : (putOidR (ints (oidU 1))).1.length ≤ 30 := by decide +kernel
 have h2 : (putOidR (ints (oidU 2))).1.length ≤ 30 := by decide +kernel
 have h3 : (putOidR (ints (oidU 3))).1.length ≤ 30 := by decide +kernel
 have h4 : (putOidR (ints (oidU 4))).1.length ≤ 30 := by decide +kernel
 unfold oidP
 by_cases e1 : alg = 1
 ·subst e1; exact h1
 by_cases e2 : alg = 2
 ·subst e2; exact h2
 by_cases e3 : alg = 3
 ·subst e3; exact h3
 have : oidU alg = oidU 4 := by unfold oidU; rw [if_neg e1, if_neg e2, if_neg e3]; rfl
 rw [this]; exact h4
theorem info_len {alg : Int} {sum : List Int} (h : sum.length ≤ 64) : (infoR alg sum).length ≤ 200 := by
 unfold infoR
 have a := putR_len 0 16 true [(putR 0 16 true [(putR 0 6 false [oidP alg]).1, (putR 0 5 false []).1]).1, (putR 0 4 false [sum]).1]
 have b := putR_len 0 16 true [(putR 0 6 false [oidP alg]).1, (putR 0 5 false []).1]
 have c := putR_len 0 6 false [oidP alg]
 have d := putR_len 0 5 false []
 have e := putR_len 0 4 false [sum]
 have f := oid_len alg
 simp only [List.map_cons, List.map_nil, List.sum_cons, List.sum_nil] at a b c d e
 omega
theorem oidU_len (alg : Int) : (oidU alg).length ≤ 22 := by
 unfold oidU
 repeat' split
 all_goals decide
theorem LV.emp (w : World) : LV w (.slice none 0 0) [] := ⟨⟨none, 0, [], rfl, Nat.le_refl _, Rd.nil _ _, rfl, fun i v l h => by simp at h⟩⟩
theorem LV.one {w w' : World} {A : Option Addr} {c : Nat} {p : List Int} (n : New w w' [.slice A p.length c]) (hp : Vw .u8 w (.slice A p.length c) p) : LV w' (.slice (some ⟨w.heap.size, 0, none⟩) 1 1) [p] := by
 refine ⟨⟨_, _, _, rfl, Nat.le_refl _, n.rdv, rfl, fun i v l h1 h2 => ?_⟩⟩
 match i, h1, h2 with
 | 0, h1, h2 => simp at h1 h2; subst h1 h2; exact hp.nb (n.fr nob)
 | i + 1, h1, h2 => simp at h1
theorem LV.two {w w' : World} {A B : Option Addr} {c d : Nat} {p q : List Int} (n : New w w' [.slice A p.length c, .slice B q.length d]) (hp : Vw .u8 w (.slice A p.length c) p) (hq : Vw .u8 w (.slice B q.length d) q) : LV w' (.slice (some ⟨w.heap.size, 0, none⟩) 2 2) [p, q] := by
 refine ⟨⟨_, _, _, rfl, Nat.le_refl _, n.rdv, rfl, fun i v l h1 h2 => ?_⟩⟩
 match i, h1, h2 with
 | 0, h1, h2 => simp at h1 h2; subst h1 h2; exact hp.nb (n.fr nob)
 | 1, h1, h2 => simp at h1 h2; subst h1 h2; exact hq.nb (n.fr nob)
 | i + 2, h1, h2 => simp at h1
theorem oid_k {alg : Int} {w : World} {K : Value → World → Prop} (hK : K (.string (S (oidU alg))) w) : callK Tryz.prog 76 [.int .i64 alg] w K := by
 refine call_of Tryz.func76 Code.h76 (by simp [Code.c76]) ?_
 unfold oidU at hK
 by_cases e1 : alg = 1
 ·simp (disch := omega) only [Zu, Zv, Zx, Zz, EO, ↓EP, EQ, EM, ↓reduceIte, Za, Zb, Zc, Zd, Ze, Zf, Zg, Zj, Zk, Zl, Zm, Zn, Zp, Zq, reduceCtorEq, Code.c76, e1]
  rw [if_pos e1] at hK; exact hK
 by_cases e2 : alg = 2
 ·simp (disch := omega) only [Zu, Zv, Zx, Zz, EO, ↓EP, EQ, EM, ↓reduceIte, Za, Zb, Zc, Zd, Ze, Zf, Zg, Zj, Zk, Zl, Zm, Zn, Zp, Zq, reduceCtorEq, Code.c76, e1, e2]
  rw [if_neg e1, if_pos e2] at hK; exact hK
 by_cases e3 : alg = 3
 ·simp (disch := omega) only [Zu, Zv, Zx, Zz, EO, ↓EP, EQ, EM, ↓reduceIte, Za, Zb, Zc, Zd, Ze, Zf, Zg, Zj, Zk, Zl, Zm, Zn, Zp, Zq, reduceCtorEq, Code.c76, e1, e2, e3]
  rw [if_neg e1, if_neg e2, if_pos e3] at hK; exact hK
 simp (disch := omega) only [Zu, Zv, Zx, Zz, EO, ↓EP, EQ, EM, ↓reduceIte, Za, Zb, Zc, Zd, Ze, Zf, Zg, Zj, Zk, Zl, Zm, Zn, Zp, Zq, reduceCtorEq, Code.c76, e1, e2, e3]
 rw [if_neg e1, if_neg e2, if_neg e3] at hK; exact hK
end Go.Proofs.YtcgplgpdcfocpaaGreatDoor.Der
end
section
namespace Go.Proofs.YtcgplgpdcfocpaaGreatDoor.Der
open Go Go.RowKit Go.Proofs Go.Proofs.YtcgplgpdcfocpaaGreatDoor.Eng Go.Proofs.YtcgplgpdcfocpaaGreatDoor.Code
attribute [local irreducible] callK S.W opsW scrW scrT
open Go.Proofs.YtcgplgpdcfocpaaGreatDoor.Spec
attribute [local irreducible] putR putOidR
theorem len63 {p : List Int} (h : p.length ≤ 1000) : ∀ l ∈ [p], l.length ≤ 9223372036854775807 := fun l hl => by
 rw [List.mem_singleton] at hl; subst hl; omega
theorem len63b {p q : List Int} (h : p.length ≤ 1000) (h' : q.length ≤ 1000) : ∀ l ∈ [p, q], l.length ≤ 9223372036854775807 := fun l hl => by
 simp only [List.mem_cons, List.not_mem_nil, or_false] at hl
 rcases hl with rfl | rfl <;> omega
set_option maxHeartbeats 4000000 in
theorem info_k {alg : Int} {sum : List Int} {v : Value} {w : World} (hv : Vw .u8 w v sum) (hs : sum.length ≤ 64) {K : Value → World → Prop} (hK : ∀ v' w', Gw .u8 w w' v' (infoR alg sum) → K v' w') : callK Tryz.prog 44 [.int .i64 alg, v] w K := by
 refine call_of Tryz.func44 Code.h44 (by simp [Code.c44]) ?_
 have hv0 := hv
 obtain ⟨A, c, rfl, hc, hr⟩ := hv0
 have lo : (putOidR (ints (oidU alg))).1.length ≤ 30 := oid_len alg
 have l6 := putR_len 0 6 false [(putOidR (ints (oidU alg))).1]
 have l5 := putR_len 0 5 false []
 have la := putR_len 0 16 true [(putR 0 6 false [(putOidR (ints (oidU alg))).1]).1, (putR 0 5 false []).1]
 have l4 := putR_len 0 4 false [sum]
 simp only [List.map_cons, List.map_nil, List.sum_cons, List.sum_nil] at la l4 l5 l6
 have b2 : (2 : Int) ≤ 3 := by decide
 simp (disch := omega) only [Zu, Zv, Zx, Zz, EO, ↓EP, EQ, EM, ↓reduceIte, Za, Zb, Zc, Zd, Ze, Zf, Zg, Zj, Zk, Zl, Zm, Zn, Zp, Zq, reduceCtorEq, Code.c44]
 refine oid_k ?_
 simp (disch := omega) only [Zu, Zv, Zx, Zz, EO, ↓EP, EQ, EM, ↓reduceIte, Za, Zb, Zc, Zd, Ze, Zf, Zg, Zj, Zk, Zl, Zm, Zn, Zp, Zq, reduceCtorEq]
 refine putoid_vw (by have := oidU_len alg; omega) _ fun v1 w1 g1 => ?_
 obtain ⟨A1, c1, rfl, hc1, hr1, _⟩ := g1.sl.read
 simp (disch := omega) only [Zu, Zv, Zx, Zz, EO, ↓EP, EQ, EM, ↓reduceIte, Za, Zb, Zc, Zd, Ze, Zf, Zg, Zj, Zk, Zl, Zm, Zn, Zp, Zq, reduceCtorEq, pr2]
 refine bslS1 fun w2 n2 => ?_
 simp (disch := omega) only [Zu, Zv, Zx, Zz, EO, ↓EP, EQ, EM, ↓reduceIte, Za, Zb, Zc, Zd, Ze, Zf, Zg, Zj, Zk, Zl, Zm, Zn, Zp, Zq, reduceCtorEq]
 refine put_vw (LV.one n2 g1.vw) (by decide) (by decide) (by simp) (len63 (by omega)) _ fun v3 w3 g3 => ?_
 obtain ⟨A3, c3, rfl, hc3, hr3, _⟩ := g3.sl.read
 simp (disch := omega) only [Zu, Zv, Zx, Zz, EO, ↓EP, EQ, EM, ↓reduceIte, Za, Zb, Zc, Zd, Ze, Zf, Zg, Zj, Zk, Zl, Zm, Zn, Zp, Zq, reduceCtorEq, pr2]
 refine put_vw (LV.emp w3) (by decide) (by decide) (by decide) (fun l hl => by simp at hl) _ fun v4 w4 g4 => ?_
 obtain ⟨A4, c4, rfl, hc4, hr4, _⟩ := g4.sl.read
 simp (disch := omega) only [Zu, Zv, Zx, Zz, EO, ↓EP, EQ, EM, ↓reduceIte, Za, Zb, Zc, Zd, Ze, Zf, Zg, Zj, Zk, Zl, Zm, Zn, Zp, Zq, reduceCtorEq, pr2]
 refine bslS2 fun w5 n5 => ?_
 simp (disch := omega) only [Zu, Zv, Zx, Zz, EO, ↓EP, EQ, EM, ↓reduceIte, Za, Zb, Zc, Zd, Ze, Zf, Zg, Zj, Zk, Zl, Zm, Zn, Zp, Zq, reduceCtorEq]
 refine put_vw (LV.two n5 (g3.vw.nb g4.fr) g4.vw) (by decide) (by decide) (by simp) (len63b (by omega) (by omega)) _ fun v6 w6 g6 => ?_
 obtain ⟨A6, c6, rfl, hc6, hr6, _⟩ := g6.sl.read
 have f2 := n2.fr nob
 have f5 := n5.fr nob
 have fa : Fr w w6 nob := ((((g1.fr.nb f2).nb g3.fr).nb g4.fr).nb f5).nb g6.fr
 have hv6 : Vw .u8 w6 (.slice A sum.length c) sum := hv.nb fa
 simp (disch := omega) only [Zu, Zv, Zx, Zz, EO, ↓EP, EQ, EM, ↓reduceIte, Za, Zb, Zc, Zd, Ze, Zf, Zg, Zj, Zk, Zl, Zm, Zn, Zp, Zq, reduceCtorEq, pr2]
 refine bslS1 fun w7 n7 => ?_
 have f7 := n7.fr nob
 simp (disch := omega) only [Zu, Zv, Zx, Zz, EO, ↓EP, EQ, EM, ↓reduceIte, Za, Zb, Zc, Zd, Ze, Zf, Zg, Zj, Zk, Zl, Zm, Zn, Zp, Zq, reduceCtorEq]
 refine put_vw (LV.one n7 hv6) (by decide) (by decide) (by simp) (len63 (by omega)) _ fun v8 w8 g8 => ?_
 obtain ⟨A8, c8, rfl, hc8, hr8, _⟩ := g8.sl.read
 simp (disch := omega) only [Zu, Zv, Zx, Zz, EO, ↓EP, EQ, EM, ↓reduceIte, Za, Zb, Zc, Zd, Ze, Zf, Zg, Zj, Zk, Zl, Zm, Zn, Zp, Zq, reduceCtorEq, pr2]
 refine bslS2 fun w9 n9 => ?_
 have f9 := n9.fr nob
 simp (disch := omega) only [Zu, Zv, Zx, Zz, EO, ↓EP, EQ, EM, ↓reduceIte, Za, Zb, Zc, Zd, Ze, Zf, Zg, Zj, Zk, Zl, Zm, Zn, Zp, Zq, reduceCtorEq]
 refine put_vw (LV.two n9 ((g6.vw.nb f7).nb g8.fr) g8.vw) (by decide) (by decide) (by simp) (len63b (by omega) (by omega)) _ fun v10 w10 g10 => ?_
 obtain ⟨A10, c10, rfl, hc10, hr10, _⟩ := g10.sl.read
 have fb : Fr w w9 nob := ((fa.nb f7).nb g8.fr).nb f9
 simp (disch := omega) only [Zu, Zv, Zx, Zz, EO, ↓EP, EQ, EM, ↓reduceIte, Za, Zb, Zc, Zd, Ze, Zf, Zg, Zj, Zk, Zl, Zm, Zn, Zp, Zq, reduceCtorEq, pr2]
 refine hK _ w10 ⟨g10.sl, fun b e => ?_, fb.nb g10.fr⟩
 have := g10.up b e
 have := fb.size
 omega
end Go.Proofs.YtcgplgpdcfocpaaGreatDoor.Der
end
section
namespace Go.Proofs.YtcgplgpdcfocpaaGreatDoor.Der
open Go Go.RowKit Go.Proofs Go.Proofs.YtcgplgpdcfocpaaGreatDoor.Eng Go.Proofs.YtcgplgpdcfocpaaGreatDoor.Code
attribute [local irreducible] callK S.W opsW scrW scrT
open Go.Proofs.YtcgplgpdcfocpaaGreatDoor.Spec
attribute [local irreducible] putR putOidR infoR
theorem known_k {alg : Int} {sum : List Int} {A : Option Addr} {c : Nat} {w : World} (hs : sum.length ≤ 9223372036854775807) {K : Value → World → Prop} (hK : K (.bool (decide (0 < sizeI alg) && decide ((sum.length : Int) = sizeI alg))) w) : callK Tryz.prog 26 [.int .i64 alg, .slice A sum.length c] w K := by
 refine call_of Tryz.func26 Code.h26 (by simp [Code.c26]) ?_
 simp (disch := omega) only [Zu, Zv, Zx, Zz, EO, ↓EP, EQ, EM, ↓reduceIte, Za, Zb, Zc, Zd, Ze, Zf, Zg, Zj, Zk, Zl, Zm, Zn, Zp, Zq, reduceCtorEq, Code.c26]
 refine size_spec alg _ _ ?_
 by_cases c0 : 0 < sizeI alg
 ·simp (disch := omega) only [Zu, Zv, Zx, Zz, EO, ↓EP, EQ, EM, ↓reduceIte, Za, Zb, Zc, Zd, Ze, Zf, Zg, Zj, Zk, Zl, Zm, Zn, Zp, Zq, reduceCtorEq, c0]
  refine size_spec alg _ _ ?_
  by_cases c1 : (sum.length : Int) = sizeI alg
  ·rw [decide_eq_true c0, decide_eq_true c1] at hK
   simp (disch := omega) only [Zu, Zv, Zx, Zz, EO, ↓EP, EQ, EM, ↓reduceIte, Za, Zb, Zc, Zd, Ze, Zf, Zg, Zj, Zk, Zl, Zm, Zn, Zp, Zq, reduceCtorEq, c0, c1]
   exact hK
  ·rw [decide_eq_true c0, decide_eq_false c1] at hK
   simp (disch := omega) only [Zu, Zv, Zx, Zz, EO, ↓EP, EQ, EM, ↓reduceIte, Za, Zb, Zc, Zd, Ze, Zf, Zg, Zj, Zk, Zl, Zm, Zn, Zp, Zq, reduceCtorEq, c0, c1]
   exact hK
 ·rw [decide_eq_false c0, Bool.false_and] at hK
  simp (disch := omega) only [Zu, Zv, Zx, Zz, EO, ↓EP, EQ, EM, ↓reduceIte, Za, Zb, Zc, Zd, Ze, Zf, Zg, Zj, Zk, Zl, Zm, Zn, Zp, Zq, reduceCtorEq, c0]
  exact hK
theorem sizeI_nn (alg : Int) : 0 ≤ sizeI alg ∧ sizeI alg ≤ 64 := by
 unfold sizeI
 repeat' split
 all_goals omega
set_option maxHeartbeats 4000000 in
theorem pad_k {alg n : Int} {sum : List Int} {v : Value} {w : World} (hn : -9223372036854775808 ≤ n ∧ n ≤ 9223372036854775807) (hv : Vw .u8 w v sum) (hs : sum.length ≤ 9223372036854775807) {K : Value → World → Prop}
  (hK : ∀ v' w', Gw .u8 w w' v' (padR alg sum n).1 → K (pr2 v' (padR alg sum n).2) w') : callK Tryz.prog 23 [.int .i64 alg, v, .int .i64 n] w K := by
 refine call_of Tryz.func23 Code.h23 (by simp [Code.c23]) ?_
 have hv0 := hv
 obtain ⟨A, c, rfl, hc, hr⟩ := hv0
 have hz := sizeI_nn alg
 have bad1 : (sizeI alg = 0 ∨ (sum.length : Int) ≠ sizeI alg ∨ 2048 < n) → K (pr2 (.slice none 0 0) 1) w := fun h => by
  have e : padR alg sum n = ([], 1) := if_pos h
  rw [e] at hK
  exact hK _ _ (Gw.nil _ _)
 simp (disch := omega) only [Zu, Zv, Zx, Zz, EO, ↓EP, EQ, EM, ↓reduceIte, Za, Zb, Zc, Zd, Ze, Zf, Zg, Zj, Zk, Zl, Zm, Zn, Zp, Zq, reduceCtorEq, Code.c23]
 refine known_k hs ?_
 by_cases c0 : 0 < sizeI alg ∧ (sum.length : Int) = sizeI alg
 rotate_left
 ·have : (decide (0 < sizeI alg) && decide ((sum.length : Int) = sizeI alg)) = false := by
   by_cases h : 0 < sizeI alg
   ·have : ¬ (sum.length : Int) = sizeI alg := fun e => c0 ⟨h, e⟩
    simp [this]
   ·simp [h]
  rw [this]
  simp (disch := omega) only [Zu, Zv, Zx, Zz, EO, ↓EP, EQ, EM, ↓reduceIte, Za, Zb, Zc, Zd, Ze, Zf, Zg, Zj, Zk, Zl, Zm, Zn, Zp, Zq, reduceCtorEq, Bool.not_false]
  exact bad1 (by omega)
 obtain ⟨c1, c2⟩ := c0
 rw [decide_eq_true c1, decide_eq_true c2, Bool.true_and]
 by_cases c3 : 2048 < n
 ·simp (disch := omega) only [Zu, Zv, Zx, Zz, EO, ↓EP, EQ, EM, ↓reduceIte, Za, Zb, Zc, Zd, Ze, Zf, Zg, Zj, Zk, Zl, Zm, Zn, Zp, Zq, reduceCtorEq, Bool.not_true, c3]
  exact bad1 (.inr (.inr c3))
 have hR : padR alg sum n = if n < (infoR alg sum).length + 11 then ([], 2) else ([0, 1] ++ List.replicate (n.toNat - (infoR alg sum).length - 3) 255 ++ [0] ++ infoR alg sum, 0) := if_neg (by omega)
 have hil := info_len (alg := alg) (sum := sum) (by omega)
 simp (disch := omega) only [Zu, Zv, Zx, Zz, EO, ↓EP, EQ, EM, ↓reduceIte, Za, Zb, Zc, Zd, Ze, Zf, Zg, Zj, Zk, Zl, Zm, Zn, Zp, Zq, reduceCtorEq, Bool.not_true, c3]
 refine info_k hv (by omega) fun v1 w1 g1 => ?_
 obtain ⟨A1, d1, rfl, hd1, hr1, _⟩ := g1.sl.read
 by_cases c4 : n < (infoR alg sum).length + 11
 ·rw [if_pos c4] at hR
  rw [hR] at hK
  simp (disch := omega) only [Zu, Zv, Zx, Zz, EO, ↓EP, EQ, EM, ↓reduceIte, Za, Zb, Zc, Zd, Ze, Zf, Zg, Zj, Zk, Zl, Zm, Zn, Zp, Zq, reduceCtorEq, c4]
  exact hK _ _ ⟨Sl.nil _ _, (fun b e => by cases e), g1.fr⟩
 rw [if_neg c4] at hR
 rw [hR] at hK
 obtain ⟨q, hq⟩ : ∃ q : Nat, n = (infoR alg sum).length + 3 + q := ⟨(n - (infoR alg sum).length - 3).toNat, by omega⟩
 have hq1 : n.toNat - (infoR alg sum).length - 3 = q := by omega
 rw [hq1] at hK
 simp (disch := omega) only [Zu, Zv, Zx, Zz, EO, ↓EP, EQ, EM, ↓reduceIte, Za, Zb, Zc, Zd, Ze, Zf, Zg, Zj, Zk, Zl, Zm, Zn, Zp, Zq, reduceCtorEq, c4]
 refine bsl2 fun w2 n2 => ?_
 have G2 : Gw .u8 w1 w2 (.slice (some ⟨w1.heap.size, 0, none⟩) 2 2) [0, 1] := ⟨n2.sl, fun b e => by cases e; exact Nat.le_refl _, n2.fr nob⟩
 simp (disch := omega) only [Zu, Zv, Zx, Zz, EO, ↓EP, EQ, EM, ↓reduceIte, Za, Zb, Zc, Zd, Ze, Zf, Zg, Zj, Zk, Zl, Zm, Zn, Zp, Zq, reduceCtorEq]
 refine bsl1 fun w3 n3 => ?_
 have f3 := n3.fr nob
 have e1 : n - ((infoR alg sum).length : Int) - 3 = (q : Int) := by omega
 simp (disch := omega) only [Zu, Zv, Zx, Zz, EO, ↓EP, EQ, EM, ↓reduceIte, Za, Zb, Zc, Zd, Ze, Zf, Zg, Zj, Zk, Zl, Zm, Zn, Zp, Zq, reduceCtorEq, e1]
 refine repeat_k n3.rdl (by omega) (by omega) fun A4 d4 w4 hd4 hr4 f4 => ?_
 simp (disch := omega) only [Zu, Zv, Zx, Zz, EO, ↓EP, EQ, EM, ↓reduceIte, Za, Zb, Zc, Zd, Ze, Zf, Zg, Zj, Zk, Zl, Zm, Zn, Zp, Zq, reduceCtorEq]
 refine app_num ((G2.step f3).step f4).sl (by simp) hr4 (by simp; omega) (by decide) fun v5 w5 a5 => ?_
 have G5 := ((G2.step f3).step f4).apd a5
 obtain ⟨A5, d5, rfl, _, _, _⟩ := G5.sl.read
 simp (disch := omega) only [Zu, Zv, Zx, Zz, EO, ↓EP, EQ, EM, ↓reduceIte, Za, Zb, Zc, Zd, Ze, Zf, Zg, Zj, Zk, Zl, Zm, Zn, Zp, Zq, reduceCtorEq]
 refine bsl1 fun w6 n6 => ?_
 have f6 := n6.fr nob
 simp (disch := omega) only [Zu, Zv, Zx, Zz, EO, ↓EP, EQ, EM, ↓reduceIte, Za, Zb, Zc, Zd, Ze, Zf, Zg, Zj, Zk, Zl, Zm, Zn, Zp, Zq, reduceCtorEq]
 refine app_num (G5.step f6).sl rfl n6.rdl (by simp; omega) (by decide) fun v7 w7 a7 => ?_
 have G7 := (G5.step f6).apd a7
 obtain ⟨A7, d7, rfl, _, _, _⟩ := G7.sl.read
 have hr8 : Rd w7 A1 (nums .u8 (infoR alg sum)) := hr1.nb G7.fr
 simp (disch := omega) only [Zu, Zv, Zx, Zz, EO, ↓EP, EQ, EM, ↓reduceIte, Za, Zb, Zc, Zd, Ze, Zf, Zg, Zj, Zk, Zl, Zm, Zn, Zp, Zq, reduceCtorEq]
 refine app_num G7.sl rfl hr8 (by simp; omega) (by decide) fun v8 w8 a8 => ?_
 have G8 := G7.apd a8
 simp (disch := omega) only [Zu, Zv, Zx, Zz, EO, ↓EP, EQ, EM, ↓reduceIte, Za, Zb, Zc, Zd, Ze, Zf, Zg, Zj, Zk, Zl, Zm, Zn, Zp, Zq, reduceCtorEq]
 refine hK _ w8 ⟨G8.sl, fun b e => ?_, g1.fr.nb G8.fr⟩
 have := G8.up b e
 have := g1.fr.size
 omega
end Go.Proofs.YtcgplgpdcfocpaaGreatDoor.Der
end
section
namespace Go.Proofs.YtcgplgpdcfocpaaGreatDoor.Der
open Go Go.RowKit Go.Proofs Go.Proofs.YtcgplgpdcfocpaaGreatDoor.Eng Go.Proofs.YtcgplgpdcfocpaaGreatDoor.Code
attribute [local irreducible] callK S.W opsW scrW scrT
open Go.Proofs.YtcgplgpdcfocpaaGreatDoor.Spec
attribute [local irreducible] putR putOidR infoR
end Go.Proofs.YtcgplgpdcfocpaaGreatDoor.Der
end
section
namespace Go.Proofs.YtcgplgpdcfocpaaGreatDoor.Spec
open Go Go.RowKit Go.Proofs Go.Proofs.YtcgplgpdcfocpaaGreatDoor.Eng Go.Proofs.YtcgplgpdcfocpaaGreatDoor.Code Go.Proofs.YtcgplgpdcfocpaaGreatDoor.Big
attribute [local irreducible] callK S.W opsW scrW
theorem fr_drewN' (w : World) (n : Nat) : Fr w (w.drewN n) nob := ⟨below_drewN' (Below.refl _ _) n, fun b hb _ => rfl⟩
theorem odd_and {a b : Int} (ha : 0 ≤ a ∧ a < 4294967296) (hb : 0 ≤ b ∧ b < 4294967296) : bits .and .u32 (bits .and .u32 a b) 1 = a % 2 * (b % 2) := by
 have e1 := u32_and a b (by omega) (by omega) (by omega) (by omega)
 rw [e1]
 have hlt : a.toNat &&& b.toNat < 4294967296 := Nat.lt_of_le_of_lt Nat.and_le_left (by omega)
 rw [u32_and _ _ (by omega) (by omega) (by omega) (by omega)]
 rw [show (1 : Int).toNat = 1 from rfl, Int.toNat_natCast, Nat.and_one_is_mod]
 have h2 := Nat.and_mod_two_pow (a := a.toNat) (b := b.toNat) (n := 1)
 rw [show 2 ^ 1 = 2 from rfl] at h2
 rw [h2]
 have ca : a.toNat % 2 = 0 ∨ a.toNat % 2 = 1 := by omega
 have cb : b.toNat % 2 = 0 ∨ b.toNat % 2 = 1 := by omega
 have ea : a % 2 = ((a.toNat % 2 : Nat) : Int) := by omega
 have eb : b % 2 = ((b.toNat % 2 : Nat) : Int) := by omega
 rw [ea, eb]
 rcases ca with h | h <;> rcases cb with h' | h' <;> rw [h, h'] <;> decide
theorem lim_at0 {l : List Int} (h : Lim l) (h0 : 0 < l.length) : 0 ≤ at' l 0 ∧ at' l 0 < 4294967296 := by
 cases l with
 | nil => simp at h0
 | cons a l => exact h a (by simp)
def checkR (N E : List Int) : Int := if 256 < N.length ∨ 256 < E.length ∨ bl (val N) < 512 ∨ bl (val E) < 2 ∨ 64 < bl (val E) ∨ at' N 0 % 2 = 0 ∨ at' E 0 % 2 = 0 then 80 else 0
theorem pos_cellsN {k : IntKind} {w : World} {A : Option Addr} {l : List Int} (hr : Rd w A (nums k l)) (h0 : 0 < l.length) : ∃ ad, A = some ad ∧ ∀ i : Nat, i < l.length → w.cell? (ad.add i) = some (.int k (at' l (i : Int))) := by
 obtain ⟨ad, e, _, hcl⟩ := hr.get (by rw [nums_length]; omega)
 exact ⟨ad, e, fun i hi => hcl.numN hi⟩
theorem bl_pos {l : List Int} (h : 0 < bl (val l)) : 0 < l.length := by
 cases l with
 | nil => exact absurd h (by decide)
 | cons a l => simp
set_option maxHeartbeats 4000000 in
theorem check_k {w : World} {vN vE : Value} {N E : List Int} (hN : Vw .u32 w vN N) (hE : Vw .u32 w vE E) (lN : Lim N) (lE : Lim E) (nN : N.length ≤ 4194304) (nE : E.length ≤ 4194304) {K : Value → World → Prop}
  (hK : ∀ w', Fr w w' nob → K (.int .i64 (checkR N E)) w') : callK Tryz.prog 24 [.agg #[vN, vE]] w K := by
 refine call_of Tryz.func24 Code.h24 (by simp [Code.c24]) ?_
 obtain ⟨A, c, rfl, hc, hr⟩ := hN
 obtain ⟨B, d, rfl, hd, hs⟩ := hE
 simp (disch := omega) only [Zu, Zv, Zx, Zz, EO, ↓EP, EQ, EM, ↓reduceIte, Za, Zb, Zc, Zd, Ze, Zf, Zg, Zj, Zk, Zl, Zm, Zn, Zp, Zq, reduceCtorEq, Code.c24]
 refine al_k [.slice A N.length c, .slice B E.length d] rfl fun w1 n1 => ?_
 have f1 := n1.fr nob
 have c0 : w1.cell? ⟨w.heap.size, 0, none⟩ = some (.slice A N.length c) := n1.blk.has 0 _ rfl
 have c1 : w1.cell? ⟨w.heap.size, 1, none⟩ = some (.slice B E.length d) := n1.blk.has 1 _ rfl
 simp (disch := omega) only [Zu, Zv, Zx, Zz, EO, ↓EP, EQ, EM, ↓reduceIte, Za, Zb, Zc, Zd, Ze, Zf, Zg, Zj, Zk, Zl, Zm, Zn, Zp, Zq, reduceCtorEq, c0, c1]
 intro m
 have g1 := fr_drewN' w1 (1 + m)
 refine bits_vw ⟨A, c, rfl, hc, (hr.nb f1).nb g1⟩ lN (by omega) _ ?_
 simp (disch := omega) only [Zu, Zv, Zx, Zz, EO, ↓EP, EQ, EM, ↓reduceIte, Za, Zb, Zc, Zd, Ze, Zf, Zg, Zj, Zk, Zl, Zm, Zn, Zp, Zq, reduceCtorEq, c0, c1]
 intro m2
 have g2 := fr_drewN' w1 (1 + m + m2)
 refine bits_vw ⟨B, d, rfl, hd, (hs.nb f1).nb g2⟩ lE (by omega) _ ?_
 have bad : ∀ w', Fr w1 w' nob → (256 < N.length ∨ 256 < E.length ∨ bl (val N) < 512 ∨ bl (val E) < 2 ∨ 64 < bl (val E) ∨ at' N 0 % 2 = 0 ∨ at' E 0 % 2 = 0) → K (.int .i64 80) w' := fun w' f h => by
  have e : checkR N E = 80 := if_pos h
  rw [e] at hK
  exact hK w' (f1.nb f)
 simp (disch := omega) only [Zu, Zv, Zx, Zz, EO, ↓EP, EQ, EM, ↓reduceIte, Za, Zb, Zc, Zd, Ze, Zf, Zg, Zj, Zk, Zl, Zm, Zn, Zp, Zq, reduceCtorEq, W_join, c0, c1]
 intro m3
 have g3 := fr_drewN' w1 (1 + m + m2 + m3)
 by_cases h1 : (256 : Int) < (N.length : Int)
 ·simp (disch := omega) only [Zu, Zv, Zx, Zz, EO, ↓EP, EQ, EM, ↓reduceIte, Za, Zb, Zc, Zd, Ze, Zf, Zg, Zj, Zk, Zl, Zm, Zn, Zp, Zq, reduceCtorEq, W_join, c0, c1, h1]
  exact bad _ g3 (.inl (by omega))
 by_cases h2 : (256 : Int) < (E.length : Int)
 ·simp (disch := omega) only [Zu, Zv, Zx, Zz, EO, ↓EP, EQ, EM, ↓reduceIte, Za, Zb, Zc, Zd, Ze, Zf, Zg, Zj, Zk, Zl, Zm, Zn, Zp, Zq, reduceCtorEq, W_join, c0, c1, h1, h2]
  exact bad _ g3 (.inr (.inl (by omega)))
 by_cases h3 : (bl (val N) : Int) < 512
 ·simp (disch := omega) only [Zu, Zv, Zx, Zz, EO, ↓EP, EQ, EM, ↓reduceIte, Za, Zb, Zc, Zd, Ze, Zf, Zg, Zj, Zk, Zl, Zm, Zn, Zp, Zq, reduceCtorEq, W_join, c0, c1, h1, h2, h3]
  exact bad _ g3 (.inr (.inr (.inl (by omega))))
 by_cases h4 : (bl (val E) : Int) < 2
 ·simp (disch := omega) only [Zu, Zv, Zx, Zz, EO, ↓EP, EQ, EM, ↓reduceIte, Za, Zb, Zc, Zd, Ze, Zf, Zg, Zj, Zk, Zl, Zm, Zn, Zp, Zq, reduceCtorEq, W_join, c0, c1, h1, h2, h3, h4]
  exact bad _ g3 (.inr (.inr (.inr (.inl (by omega)))))
 by_cases h5 : (64 : Int) < (bl (val E) : Int)
 ·simp (disch := omega) only [Zu, Zv, Zx, Zz, EO, ↓EP, EQ, EM, ↓reduceIte, Za, Zb, Zc, Zd, Ze, Zf, Zg, Zj, Zk, Zl, Zm, Zn, Zp, Zq, reduceCtorEq, W_join, c0, c1, h1, h2, h3, h4, h5]
  exact bad _ g3 (.inr (.inr (.inr (.inr (.inl (by omega))))))
 have pN : 0 < N.length := bl_pos (by omega)
 have pE : 0 < E.length := bl_pos (by omega)
 obtain ⟨pa, rfl, hcN⟩ := pos_cellsN (hr.nb f1) pN
 obtain ⟨pb, rfl, hcE⟩ := pos_cellsN (hs.nb f1) pE
 have z0 := hcN 0 pN
 have z1 := hcE 0 pE
 have y0 := lim_at0 lN pN
 have y1 := lim_at0 lE pE
 simp (disch := omega) only [Zu, Zv, Zx, Zz, EO, ↓EP, EQ, EM, ↓reduceIte, Za, Zb, Zc, Zd, Ze, Zf, Zg, Zj, Zk, Zl, Zm, Zn, Zp, Zq, reduceCtorEq, W_join, c0, c1, h1, h2, h3, h4, h5, z0, z1]
 intro m4
 have g4 := fr_drewN' w1 (1 + m + m2 + m3 + m4)
 rw [odd_and y0 y1]
 by_cases h6 : at' N 0 % 2 = 0
 ·rw [h6, Int.zero_mul, if_pos rfl]
  exact bad _ g4 (.inr (.inr (.inr (.inr (.inr (.inl h6))))))
 by_cases h7 : at' E 0 % 2 = 0
 ·rw [h7, Int.mul_zero, if_pos rfl]
  exact bad _ g4 (.inr (.inr (.inr (.inr (.inr (.inr h7))))))
 rw [if_neg (by rw [show at' N 0 % 2 = 1 by omega, show at' E 0 % 2 = 1 by omega]; decide)]
 have e : checkR N E = 0 := if_neg (by omega)
 rw [e] at hK
 exact hK _ (f1.nb g4)
set_option maxHeartbeats 4000000 in
theorem rcheck_k {w : World} {vN vE : Value} {N E : List Int} (hN : Vw .u32 w vN N) (hE : Vw .u32 w vE E) (lN : Lim N) (lE : Lim E) (nN : N.length ≤ 4194304) (nE : E.length ≤ 4194304) {K : Value → World → Prop}
  (hK : ∀ w', Fr w w' nob → K (.int .i64 (checkR N E)) w') : callK Tryz.prog 50 [.agg #[vN, vE]] w K := by
 refine call_of Tryz.func50 Code.h50 (by simp [Code.c50]) ?_
 obtain ⟨A, c, rfl, hc, hr⟩ := hN
 obtain ⟨B, d, rfl, hd, hs⟩ := hE
 simp (disch := omega) only [Zu, Zv, Zx, Zz, EO, ↓EP, EQ, EM, ↓reduceIte, Za, Zb, Zc, Zd, Ze, Zf, Zg, Zj, Zk, Zl, Zm, Zn, Zp, Zq, reduceCtorEq, Code.c50]
 refine al_k [.slice A N.length c, .slice B E.length d] rfl fun w1 n1 => ?_
 have f1 := n1.fr nob
 have k0 : ∀ w', Fr w1 w' nob → w'.cell? ⟨w.heap.size, 0, none⟩ = some (.slice A N.length c) := fun w' f => (n1.blk.nb f).has 0 _ rfl
 have k1 : ∀ w', Fr w1 w' nob → w'.cell? ⟨w.heap.size, 1, none⟩ = some (.slice B E.length d) := fun w' f => (n1.blk.nb f).has 1 _ rfl
 have c0 := k0 w1 (Fr.refl _ _)
 have c1 := k1 w1 (Fr.refl _ _)
 have bad : ∀ w', Fr w1 w' nob → (256 < N.length ∨ 256 < E.length ∨ bl (val N) < 512 ∨ bl (val E) < 2 ∨ 64 < bl (val E) ∨ at' N 0 % 2 = 0 ∨ at' E 0 % 2 = 0) → K (.int .i64 80) w' := fun w' f h => by
  have e : checkR N E = 80 := if_pos h
  rw [e] at hK
  exact hK w' (f1.nb f)
 by_cases h1 : (256 : Int) < (N.length : Int)
 ·simp (disch := omega) only [Zu, Zv, Zx, Zz, EO, ↓EP, EQ, EM, ↓reduceIte, Za, Zb, Zc, Zd, Ze, Zf, Zg, Zj, Zk, Zl, Zm, Zn, Zp, Zq, reduceCtorEq, c0, c1, h1]
  exact bad _ (Fr.refl _ _) (.inl (by omega))
 by_cases h2 : (256 : Int) < (E.length : Int)
 ·simp (disch := omega) only [Zu, Zv, Zx, Zz, EO, ↓EP, EQ, EM, ↓reduceIte, Za, Zb, Zc, Zd, Ze, Zf, Zg, Zj, Zk, Zl, Zm, Zn, Zp, Zq, reduceCtorEq, c0, c1, h1, h2]
  exact bad _ (Fr.refl _ _) (.inr (.inl (by omega)))
 simp (disch := omega) only [Zu, Zv, Zx, Zz, EO, ↓EP, EQ, EM, ↓reduceIte, Za, Zb, Zc, Zd, Ze, Zf, Zg, Zj, Zk, Zl, Zm, Zn, Zp, Zq, reduceCtorEq, c0, c1, h1, h2]
 refine rbits_vw ⟨A, c, rfl, hc, hr.nb f1⟩ lN nN _ fun w2 f2 => ?_
 have c0 := k0 w2 f2
 have c1 := k1 w2 f2
 by_cases h3 : (bl (val N) : Int) < 512
 ·simp (disch := omega) only [Zu, Zv, Zx, Zz, EO, ↓EP, EQ, EM, ↓reduceIte, Za, Zb, Zc, Zd, Ze, Zf, Zg, Zj, Zk, Zl, Zm, Zn, Zp, Zq, reduceCtorEq, c0, c1, h3]
  exact bad _ f2 (.inr (.inr (.inl (by omega))))
 simp (disch := omega) only [Zu, Zv, Zx, Zz, EO, ↓EP, EQ, EM, ↓reduceIte, Za, Zb, Zc, Zd, Ze, Zf, Zg, Zj, Zk, Zl, Zm, Zn, Zp, Zq, reduceCtorEq, c0, c1, h3]
 refine rbits_vw ⟨B, d, rfl, hd, (hs.nb f1).nb f2⟩ lE nE _ fun w3 f3 => ?_
 have f23 := f2.nb f3
 have c0 := k0 w3 f23
 have c1 := k1 w3 f23
 by_cases h4 : (bl (val E) : Int) < 2
 ·simp (disch := omega) only [Zu, Zv, Zx, Zz, EO, ↓EP, EQ, EM, ↓reduceIte, Za, Zb, Zc, Zd, Ze, Zf, Zg, Zj, Zk, Zl, Zm, Zn, Zp, Zq, reduceCtorEq, c0, c1, h4]
  exact bad _ f23 (.inr (.inr (.inr (.inl (by omega)))))
 simp (disch := omega) only [Zu, Zv, Zx, Zz, EO, ↓EP, EQ, EM, ↓reduceIte, Za, Zb, Zc, Zd, Ze, Zf, Zg, Zj, Zk, Zl, Zm, Zn, Zp, Zq, reduceCtorEq, c0, c1, h4]
 refine rbits_vw ⟨B, d, rfl, hd, (hs.nb f1).nb f23⟩ lE nE _ fun w4 f4 => ?_
 have f24 := f23.nb f4
 have c0 := k0 w4 f24
 have c1 := k1 w4 f24
 by_cases h5 : (64 : Int) < (bl (val E) : Int)
 ·simp (disch := omega) only [Zu, Zv, Zx, Zz, EO, ↓EP, EQ, EM, ↓reduceIte, Za, Zb, Zc, Zd, Ze, Zf, Zg, Zj, Zk, Zl, Zm, Zn, Zp, Zq, reduceCtorEq, c0, c1, h5]
  exact bad _ f24 (.inr (.inr (.inr (.inr (.inl (by omega))))))
 have pN : 0 < N.length := bl_pos (by omega)
 have pE : 0 < E.length := bl_pos (by omega)
 obtain ⟨pa, rfl, hcN⟩ := pos_cellsN (((hr.nb f1).nb f24)) pN
 obtain ⟨pb, rfl, hcE⟩ := pos_cellsN (((hs.nb f1).nb f24)) pE
 have z0 := hcN 0 pN
 have z1 := hcE 0 pE
 have y0 := lim_at0 lN pN
 have y1 := lim_at0 lE pE
 have t0 : (at' N 0).tmod 2 = at' N 0 % 2 := Int.tmod_eq_emod_of_nonneg y0.1
 have t1 : (at' E 0).tmod 2 = at' E 0 % 2 := Int.tmod_eq_emod_of_nonneg y1.1
 by_cases h6 : at' N 0 % 2 = 0
 ·simp (disch := omega) only [Zu, Zv, Zx, Zz, EO, ↓EP, EQ, EM, ↓reduceIte, Za, Zb, Zc, Zd, Ze, Zf, Zg, Zj, Zk, Zl, Zm, Zn, Zp, Zq, reduceCtorEq, c0, c1, h5, z0, z1, t0, t1, h6]
  exact bad _ f24 (.inr (.inr (.inr (.inr (.inr (.inl h6))))))
 by_cases h7 : at' E 0 % 2 = 0
 ·simp (disch := omega) only [Zu, Zv, Zx, Zz, EO, ↓EP, EQ, EM, ↓reduceIte, Za, Zb, Zc, Zd, Ze, Zf, Zg, Zj, Zk, Zl, Zm, Zn, Zp, Zq, reduceCtorEq, c0, c1, h5, z0, z1, t0, t1, h6, h7]
  exact bad _ f24 (.inr (.inr (.inr (.inr (.inr (.inr h7))))))
 simp (disch := omega) only [Zu, Zv, Zx, Zz, EO, ↓EP, EQ, EM, ↓reduceIte, Za, Zb, Zc, Zd, Ze, Zf, Zg, Zj, Zk, Zl, Zm, Zn, Zp, Zq, reduceCtorEq, c0, c1, h5, z0, z1, t0, t1, h6, h7]
 have e : checkR N E = 0 := if_neg (by omega)
 rw [e] at hK
 exact hK _ (f1.nb f24)
end Go.Proofs.YtcgplgpdcfocpaaGreatDoor.Spec
end
section
namespace Go.Proofs.YtcgplgpdcfocpaaGreatDoor.Der
open Go Go.Proofs.YtcgplgpdcfocpaaGreatDoor.Spec Go.Proofs.YtcgplgpdcfocpaaGreatDoor.Big
def kN0 : List Int := [1295419795, 3173228247, 2137395180, 1548933856, 3106420408, 3948765562, 1049120400, 779370009, 4082781268, 1057109357, 1184194943, 1393408190, 1811714008, 4142931574, 3115507167, 2773311948]
def kD0 : List Int := [4047561943, 3660979146, 4003215933, 1116455983, 1700758801, 463339884, 276911730, 3273242993, 4259602957, 2323668540, 3060677354, 1663890463, 3165263865, 2837972243, 519251194, 462218658]
theorem dig_foo : dig 1 [102, 111, 111, 0, 0, 0, 0] = [26, 201, 7, 92, 212, 39, 188, 144, 180, 138, 153, 102, 130, 140, 171, 74, 4, 194, 63, 223] := by decide +kernel
theorem info_zero : infoR 1 (List.replicate 20 0) = [48, 33, 48, 9, 6, 5, 43, 14, 3, 2, 26, 5, 0, 4, 20] ++ List.replicate 20 0 := by decide +kernel
theorem check_small : checkR [15] [3] = 80 := by decide +kernel
theorem check_key0 : checkR kN0 [3] = 0 := by decide +kernel
theorem bits_key0 : bl (val kN0) = 512 := by decide +kernel
theorem lim_key0 : Lim kN0 := by
 have h : kN0.all (fun x => decide (0 ≤ x ∧ x < 4294967296)) = true := by decide +kernel
 intro x hx
 simpa using List.all_eq_true.1 h x hx
end Go.Proofs.YtcgplgpdcfocpaaGreatDoor.Der
end
section
namespace Go.Proofs.YtcgplgpdcfocpaaGreatDoor.Der
open Go Go.RowKit Go.Proofs Go.Proofs.YtcgplgpdcfocpaaGreatDoor.Eng Go.Proofs.YtcgplgpdcfocpaaGreatDoor.Code
attribute [local irreducible] callK S.W opsW scrW scrT
open Go.Proofs.YtcgplgpdcfocpaaGreatDoor.Spec Go.Proofs.YtcgplgpdcfocpaaGreatDoor.Big
attribute [local irreducible] putR putOidR infoR dig checkR kN0 kD0
theorem bl_lim {N : List Int} (h : Lim N) : bl (val N) ≤ 32 * N.length := by
 have hb := val_bd h
 rw [bl_le hb.1]
 have h2 := hb.2
 unfold pw at h2
 rw [Int.pow_mul, show (2 : Int) ^ 32 = 4294967296 from rfl]
 exact h2
def sizeK (N E : List Int) : Int := if checkR N E ≠ 0 then 0 else ((bl (val N) + 7) / 8 : Nat)
set_option maxHeartbeats 4000000 in
theorem sizek_k {w : World} {vN vE : Value} {N E : List Int} (hN : Vw .u32 w vN N) (hE : Vw .u32 w vE E) (lN : Lim N) (lE : Lim E) (nN : N.length ≤ 4194304) (nE : E.length ≤ 4194304) {K : Value → World → Prop}
  (hK : ∀ w', Fr w w' nob → K (.int .i64 (sizeK N E)) w') : callK Tryz.prog 25 [.agg #[vN, vE]] w K := by
 refine call_of Tryz.func25 Code.h25 (by simp [Code.c25]) ?_
 have hN0 := hN
 have hE0 := hE
 obtain ⟨A, c, rfl, hc, hr⟩ := hN0
 obtain ⟨B, d, rfl, hd, hs⟩ := hE0
 simp (disch := omega) only [Zu, Zv, Zx, Zz, EO, ↓EP, EQ, EM, ↓reduceIte, Za, Zb, Zc, Zd, Ze, Zf, Zg, Zj, Zk, Zl, Zm, Zn, Zp, Zq, reduceCtorEq, Code.c25]
 refine al_k [.slice A N.length c, .slice B E.length d] rfl fun w1 n1 => ?_
 have f1 := n1.fr nob
 simp (disch := omega) only [Zu, Zv, Zx, Zz, EO, ↓EP, EQ, EM, ↓reduceIte, Za, Zb, Zc, Zd, Ze, Zf, Zg, Zj, Zk, Zl, Zm, Zn, Zp, Zq, reduceCtorEq]
 refine n1.blk.ldAgg rfl ?_
 simp (disch := omega) only [Zu, Zv, Zx, Zz, EO, ↓EP, EQ, EM, ↓reduceIte, Za, Zb, Zc, Zd, Ze, Zf, Zg, Zj, Zk, Zl, Zm, Zn, Zp, Zq, reduceCtorEq]
 refine check_k (hN.nb f1) (hE.nb f1) lN lE nN nE fun w2 f2 => ?_
 have f12 := f1.nb f2
 have c0 : w2.cell? ⟨w.heap.size, 0, none⟩ = some (.slice A N.length c) := (n1.blk.nb f2).has 0 _ rfl
 by_cases h : checkR N E = 0
 ·have e : sizeK N E = ((bl (val N) + 7) / 8 : Nat) := if_neg (by simpa using h)
  rw [e] at hK
  have hbl : bl (val N) ≤ 134217728 := by have := bl_lim lN; omega
  simp (disch := omega) only [Zu, Zv, Zx, Zz, EO, ↓EP, EQ, EM, ↓reduceIte, Za, Zb, Zc, Zd, Ze, Zf, Zg, Zj, Zk, Zl, Zm, Zn, Zp, Zq, reduceCtorEq, h, c0]
  refine bits_vw (hN.nb f12) lN (by omega) _ ?_
  simp (disch := omega) only [Zu, Zv, Zx, Zz, EO, ↓EP, EQ, EM, ↓reduceIte, Za, Zb, Zc, Zd, Ze, Zf, Zg, Zj, Zk, Zl, Zm, Zn, Zp, Zq, reduceCtorEq]
  exact hK _ f12
 ·have e : sizeK N E = 0 := if_pos h
  rw [e] at hK
  simp (disch := omega) only [Zu, Zv, Zx, Zz, EO, ↓EP, EQ, EM, ↓reduceIte, Za, Zb, Zc, Zd, Ze, Zf, Zg, Zj, Zk, Zl, Zm, Zn, Zp, Zq, reduceCtorEq, h]
  exact hK _ f12
set_option maxHeartbeats 4000000 in
theorem rsizek_k {w : World} {vN vE : Value} {N E : List Int} (hN : Vw .u32 w vN N) (hE : Vw .u32 w vE E) (lN : Lim N) (lE : Lim E) (nN : N.length ≤ 4194304) (nE : E.length ≤ 4194304) {K : Value → World → Prop}
  (hK : ∀ w', Fr w w' nob → K (.int .i64 (sizeK N E)) w') : callK Tryz.prog 35 [.agg #[vN, vE]] w K := by
 refine call_of Tryz.func35 Code.h35 (by simp [Code.c35]) ?_
 have hN0 := hN
 have hE0 := hE
 obtain ⟨A, c, rfl, hc, hr⟩ := hN0
 obtain ⟨B, d, rfl, hd, hs⟩ := hE0
 simp (disch := omega) only [Zu, Zv, Zx, Zz, EO, ↓EP, EQ, EM, ↓reduceIte, Za, Zb, Zc, Zd, Ze, Zf, Zg, Zj, Zk, Zl, Zm, Zn, Zp, Zq, reduceCtorEq, Code.c35]
 refine al_k [.slice A N.length c, .slice B E.length d] rfl fun w1 n1 => ?_
 have f1 := n1.fr nob
 simp (disch := omega) only [Zu, Zv, Zx, Zz, EO, ↓EP, EQ, EM, ↓reduceIte, Za, Zb, Zc, Zd, Ze, Zf, Zg, Zj, Zk, Zl, Zm, Zn, Zp, Zq, reduceCtorEq]
 refine n1.blk.ldAgg rfl ?_
 simp (disch := omega) only [Zu, Zv, Zx, Zz, EO, ↓EP, EQ, EM, ↓reduceIte, Za, Zb, Zc, Zd, Ze, Zf, Zg, Zj, Zk, Zl, Zm, Zn, Zp, Zq, reduceCtorEq]
 refine rcheck_k (hN.nb f1) (hE.nb f1) lN lE nN nE fun w2 f2 => ?_
 have f12 := f1.nb f2
 have c0 : w2.cell? ⟨w.heap.size, 0, none⟩ = some (.slice A N.length c) := (n1.blk.nb f2).has 0 _ rfl
 by_cases h : checkR N E = 0
 ·have e : sizeK N E = ((bl (val N) + 7) / 8 : Nat) := if_neg (by simpa using h)
  rw [e] at hK
  have hbl : bl (val N) ≤ 134217728 := by have := bl_lim lN; omega
  simp (disch := omega) only [Zu, Zv, Zx, Zz, EO, ↓EP, EQ, EM, ↓reduceIte, Za, Zb, Zc, Zd, Ze, Zf, Zg, Zj, Zk, Zl, Zm, Zn, Zp, Zq, reduceCtorEq, h, c0]
  refine rbits_vw (hN.nb f12) lN nN _ fun w3 f3 => ?_
  simp (disch := omega) only [Zu, Zv, Zx, Zz, EO, ↓EP, EQ, EM, ↓reduceIte, Za, Zb, Zc, Zd, Ze, Zf, Zg, Zj, Zk, Zl, Zm, Zn, Zp, Zq, reduceCtorEq]
  exact hK _ (f12.nb f3)
 ·have e : sizeK N E = 0 := if_pos h
  rw [e] at hK
  simp (disch := omega) only [Zu, Zv, Zx, Zz, EO, ↓EP, EQ, EM, ↓reduceIte, Za, Zb, Zc, Zd, Ze, Zf, Zg, Zj, Zk, Zl, Zm, Zn, Zp, Zq, reduceCtorEq, h]
  exact hK _ f12
theorem bslV {e n : Nat} {k : IntKind} {w : World} {parts : List (Nat × Value)} {l : List Int} {K : Value → World → Prop} (h : fillS 1 ((Array.range (n * 1)).map (#[Value.int k 0][· % #[Value.int k 0].size]!)) parts = some (nums k l).toArray)
  (hK : ∀ w', New w w' (nums k l) → K (.slice (some ⟨w.heap.size, 0, none⟩) n n) w') : bslT e 1 n #[.int k 0] parts w K .mk := ⟨_, h, hK _ (new_of rfl (by simp))⟩
theorem fillK2 (A B : Option Addr) (a b c d : Nat) : fillL [(0, 1), (1, 1)] #[(.slice none 0 0), (.slice none 0 0)] [(0, .slice A a b), (1, .slice B c d)] = some [Value.slice A a b, .slice B c d].toArray := by kernel_rfl
theorem len_kN0 : kN0.length = 16 := by unfold kN0; rfl
theorem known0_k {w : World} {K : Value → World → Prop}
  (hK : ∀ A B v w', Rd w' A (nums .u32 kN0) → Rd w' B (nums .u32 [3]) → Fr w w' nob → K (.tuple #[.agg #[.slice A 16 16, .slice B 1 1], v]) w') : callK Tryz.prog 15 [.int .i64 0] w K := by
 refine call_of Tryz.func15 Code.h15 (by simp [Code.c15]) ?_
 simp (disch := omega) only [Zu, Zv, Zx, Zz, EO, ↓EP, EQ, EM, ↓reduceIte, Za, Zb, Zc, Zd, Ze, Zf, Zg, Zj, Zk, Zl, Zm, Zn, Zp, Zq, reduceCtorEq, Code.c15]
 refine al_k [.slice none 0 0, .slice none 0 0] rfl fun w1 n1 => ?_
 simp (disch := omega) only [Zu, Zv, Zx, Zz, EO, ↓EP, EQ, EM, ↓reduceIte, Za, Zb, Zc, Zd, Ze, Zf, Zg, Zj, Zk, Zl, Zm, Zn, Zp, Zq, reduceCtorEq]
 refine bslV (l := kN0) (by unfold kN0; kernel_rfl) fun w2 n2 => ?_
 simp (disch := omega) only [Zu, Zv, Zx, Zz, EO, ↓EP, EQ, EM, ↓reduceIte, Za, Zb, Zc, Zd, Ze, Zf, Zg, Zj, Zk, Zl, Zm, Zn, Zp, Zq, reduceCtorEq]
 refine bslV (l := [3]) (by kernel_rfl) fun w3 n3 => ?_
 simp (disch := omega) only [Zu, Zv, Zx, Zz, EO, ↓EP, EQ, EM, ↓reduceIte, Za, Zb, Zc, Zd, Ze, Zf, Zg, Zj, Zk, Zl, Zm, Zn, Zp, Zq, reduceCtorEq]
 refine ⟨_, fillK2 _ _ _ _ _ _, ?_⟩
 simp (disch := omega) only [Zu, Zv, Zx, Zz, EO, ↓EP, EQ, EM, ↓reduceIte, Za, Zb, Zc, Zd, Ze, Zf, Zg, Zj, Zk, Zl, Zm, Zn, Zp, Zq, reduceCtorEq]
 refine bslV (l := kD0) (by unfold kD0; kernel_rfl) fun w4 n4 => ?_
 simp (disch := omega) only [Zu, Zv, Zx, Zz, EO, ↓EP, EQ, EM, ↓reduceIte, Za, Zb, Zc, Zd, Ze, Zf, Zg, Zj, Zk, Zl, Zm, Zn, Zp, Zq, reduceCtorEq]
 have hB := (((n1.blk.nb (n2.fr nob)).nb (n3.fr nob)).nb (n4.fr nob))
 refine st_whole (cs := [.slice (some ⟨w1.heap.size, 0, none⟩) 16 16, .slice (some ⟨w2.heap.size, 0, none⟩) 1 1]) hB rfl rfl (by simp; exact ⟨rfl, rfl⟩) fun w5 p5 => ?_
 simp (disch := omega) only [Zu, Zv, Zx, Zz, EO, ↓EP, EQ, EM, ↓reduceIte, Za, Zb, Zc, Zd, Ze, Zf, Zg, Zj, Zk, Zl, Zm, Zn, Zp, Zq, reduceCtorEq]
 refine p5.blk.ldAgg rfl ?_
 have hz1 := n1.size
 have hz2 := n2.size
 have hz3 := n3.size
 have hz4 := n4.size
 have f2 : Fr w w4 nob := (((n1.fr nob).nb (n2.fr nob)).nb (n3.fr nob)).nb (n4.fr nob)
 refine hK _ _ _ w5 ?_ ?_ (f2.trans p5.fr fun x hx e => by omega)
 ·have h := (n2.rdv.nb (n3.fr nob)).nb (n4.fr nob)
  exact h.fr p5.fr (.inr fun p e x => by cases e; simp only at x; omega)
 ·have h := n3.rdv.nb (n4.fr nob)
  exact h.fr p5.fr (.inr fun p e x => by cases e; simp only at x; omega)
end Go.Proofs.YtcgplgpdcfocpaaGreatDoor.Der
end
section
namespace Go.Proofs.YtcgplgpdcfocpaaGreatDoor.Der
open Go Go.RowKit Go.Proofs Go.Proofs.YtcgplgpdcfocpaaGreatDoor.Eng Go.Proofs.YtcgplgpdcfocpaaGreatDoor.Code
attribute [local irreducible] callK S.W opsW scrW scrT
open Go.Proofs.YtcgplgpdcfocpaaGreatDoor.Spec Go.Proofs.YtcgplgpdcfocpaaGreatDoor.Big
attribute [local irreducible] putR putOidR infoR dig checkR kN0 kD0
theorem num8_k {e : Int} {w : World} {K : Value → World → Prop} (hK : K (.int .i64 e) w) : callK Tryz.prog 10 [.int .i64 e] w K := by
 refine call_of Tryz.func10 Code.h10 (by simp [Code.c10]) ?_
 simp (disch := omega) only [Zu, Zv, Zx, Zz, EO, ↓EP, EQ, EM, ↓reduceIte, Za, Zb, Zc, Zd, Ze, Zf, Zg, Zj, Zk, Zl, Zm, Zn, Zp, Zq, reduceCtorEq, Code.c10]
 exact hK
theorem mask_foo : maskR 1 [102, 111, 111] 3 = ([26, 201, 7], 0) := by
 have h : maskR 1 [102, 111, 111] 3 = ((maskL 1 [102, 111, 111] 3).take 3, 0) := if_neg (by decide)
 have h1 : maskL 1 [102, 111, 111] 1 = dig 1 [102, 111, 111, 0, 0, 0, 0] := by
  rw [maskL_succ, maskL_zero, List.nil_append]
  rfl
 rw [h, ← maskL_take (i := 1) (by decide) (by decide) _ (by rw [h1, dig_foo]; decide), h1, dig_foo]
 rfl
theorem str_foo : ((strOfNums [26, 201, 7]).toList == (⟨#[26, 201, 7]⟩ : ByteArray).toList) = true := by decide +kernel
theorem info_len0 : (infoR 1 (List.replicate 20 0)).length = 35 := by rw [info_zero]; rfl
theorem pad_zero : padR 1 (List.replicate 20 0) 46 = ([0, 1, 255, 255, 255, 255, 255, 255, 255, 255, 0, 48, 33, 48, 9, 6, 5, 43, 14, 3, 2, 26, 5, 0, 4, 20] ++ List.replicate 20 0, 0) := by
 have h : padR 1 (List.replicate 20 0) 46 = if (46 : Int) < (infoR 1 (List.replicate 20 0)).length + 11 then ([], 2) else ([0, 1] ++ List.replicate ((46 : Int).toNat - (infoR 1 (List.replicate 20 0)).length - 3) 255 ++ [0] ++ infoR 1 (List.replicate 20 0), 0) := if_neg (by decide)
 rw [h, info_len0, if_neg (by decide), info_zero]
 rfl
theorem check_s {w : World} {A B : Option Addr} (hN : Rd w A (nums .u32 [15])) (hE : Rd w B (nums .u32 [3])) {K : Value → World → Prop} (hK : ∀ w', Fr w w' nob → K (.int .i64 80) w') : callK Tryz.prog 24 [.agg #[.slice A 1 1, .slice B 1 1]] w K :=
 check_k (N := [15]) (E := [3]) (Vw.of rfl (by decide) hN) (Vw.of rfl (by decide) hE) (fun x h => by simp at h; omega) (fun x h => by simp at h; omega) (by decide) (by decide) fun w' f => by rw [check_small]; exact hK w' f
theorem size_k0 : sizeK kN0 [3] = 64 := by
 unfold sizeK
 rw [check_key0, bits_key0]
 rfl
theorem size_s {w : World} {A B : Option Addr} (hN : Rd w A (nums .u32 kN0)) (hE : Rd w B (nums .u32 [3])) {K : Value → World → Prop} (hK : ∀ w', Fr w w' nob → K (.int .i64 64) w') : callK Tryz.prog 25 [.agg #[.slice A 16 16, .slice B 1 1]] w K :=
 sizek_k (N := kN0) (E := [3]) (Vw.of len_kN0 (by decide) hN) (Vw.of rfl (by decide) hE) lim_key0 (fun x h => by simp at h; omega) (by rw [len_kN0]; decide) (by decide) fun w' f => by rw [size_k0]; exact hK w' f
set_option maxHeartbeats 8000000 in
theorem live8_k {w : World} (hT : Tb w) {K : Value → World → Prop} (hK : ∀ w', Fr w w' nob → K (.bool true) w') : callK Tryz.prog 8 [] w K := by
 refine call_of Tryz.func8 Code.h8 (by simp [Code.c8]) ?_
 simp (disch := omega) only [Zu, Zv, Zx, Zz, EO, ↓EP, EQ, EM, ↓reduceIte, Za, Zb, Zc, Zd, Ze, Zf, Zg, Zj, Zk, Zl, Zm, Zn, Zp, Zq, reduceCtorEq, Code.c8]
 refine bsl3 fun w1 n1 => ?_
 simp (disch := omega) only [Zu, Zv, Zx, Zz, EO, ↓EP, EQ, EM, ↓reduceIte, Za, Zb, Zc, Zd, Ze, Zf, Zg, Zj, Zk, Zl, Zm, Zn, Zp, Zq, reduceCtorEq, ↓i_cvidT, ↓i_cvbsJ]
 refine cvid_k n1.rdl fun w2 f2 r2 => ?_
 have f02 : Fr w w2 nob := (n1.fr nob).trans f2 fun x hx e => by omega
 simp (disch := omega) only [Zu, Zv, Zx, Zz, EO, ↓EP, EQ, EM, ↓reduceIte, Za, Zb, Zc, Zd, Ze, Zf, Zg, Zj, Zk, Zl, Zm, Zn, Zp, Zq, reduceCtorEq]
 refine mask_k (seed := [102, 111, 111]) (hT.fr f02 (fun x => x) (fun x => x)) (Nat.le_refl _) r2 (by decide) fun v3 w3 h3 u3 f3 => ?_
 rw [mask_foo] at h3 ⊢
 obtain ⟨A3, c3, rfl, hc3, hr3⟩ := h3
 have f03 := f02.nb f3
 simp (disch := omega) only [Zu, Zv, Zx, Zz, EO, ↓EP, EQ, EM, ↓reduceIte, Za, Zb, Zc, Zd, Ze, Zf, Zg, Zj, Zk, Zl, Zm, Zn, Zp, Zq, reduceCtorEq]
 refine al_k (nums .u8 (List.replicate 20 0)) (by kernel_rfl) fun w4 n4 => ?_
 have f04 := f03.nb (n4.fr nob)
 have hv4 : Vw .u8 w4 (.slice (some ⟨w3.heap.size, 0, none⟩) 20 20) (List.replicate 20 0) := n4.sl.vw
 simp (disch := omega) only [Zu, Zv, Zx, Zz, EO, ↓EP, EQ, EM, ↓reduceIte, Za, Zb, Zc, Zd, Ze, Zf, Zg, Zj, Zk, Zl, Zm, Zn, Zp, Zq, reduceCtorEq]
 refine pad_k (by decide) hv4 (by decide) fun v5 w5 g5 => ?_
 rw [pad_zero] at g5 ⊢
 have f05 := f04.nb g5.fr
 obtain ⟨A5, c5, rfl, hc5, hr5, _⟩ := g5.sl.read
 simp (disch := omega) only [Zu, Zv, Zx, Zz, EO, ↓EP, EQ, EM, ↓reduceIte, Za, Zb, Zc, Zd, Ze, Zf, Zg, Zj, Zk, Zl, Zm, Zn, Zp, Zq, reduceCtorEq, pr2]
 refine known0_k fun A6 B6 v6 w6 r6 q6 f6 => ?_
 have f06 := f05.nb f6
 simp (disch := omega) only [Zu, Zv, Zx, Zz, EO, ↓EP, EQ, EM, ↓reduceIte, Za, Zb, Zc, Zd, Ze, Zf, Zg, Zj, Zk, Zl, Zm, Zn, Zp, Zq, reduceCtorEq]
 refine al_k [.slice none 0 0, .slice none 0 0] rfl fun w7 n7 => ?_
 simp (disch := omega) only [Zu, Zv, Zx, Zz, EO, ↓EP, EQ, EM, ↓reduceIte, Za, Zb, Zc, Zd, Ze, Zf, Zg, Zj, Zk, Zl, Zm, Zn, Zp, Zq, reduceCtorEq]
 refine st_whole (cs := [.slice A6 16 16, .slice B6 1 1]) n7.blk rfl rfl (by simp; exact ⟨rfl, rfl⟩) fun w8 p8 => ?_
 have hz7 := n7.size
 have f07 := f06.nb (n7.fr nob)
 have f68 : Fr w6 w8 nob := (n7.fr nob).trans p8.fr fun x hx e => by omega
 have f08 := f06.nb f68
 have f38 : Fr w3 w8 nob := (((n4.fr nob).nb g5.fr).nb f6).nb f68
 have f58 : Fr w5 w8 nob := f6.nb f68
 simp (disch := omega) only [Zu, Zv, Zx, Zz, EO, ↓EP, EQ, EM, ↓reduceIte, Za, Zb, Zc, Zd, Ze, Zf, Zg, Zj, Zk, Zl, Zm, Zn, Zp, Zq, reduceCtorEq]
 refine num8_k ?_
 simp (disch := omega) only [Zu, Zv, Zx, Zz, EO, ↓EP, EQ, EM, ↓reduceIte, Za, Zb, Zc, Zd, Ze, Zf, Zg, Zj, Zk, Zl, Zm, Zn, Zp, Zq, reduceCtorEq]
 refine num8_k ?_
 simp (disch := omega) only [Zu, Zv, Zx, Zz, EO, ↓EP, EQ, EM, ↓reduceIte, Za, Zb, Zc, Zd, Ze, Zf, Zg, Zj, Zk, Zl, Zm, Zn, Zp, Zq, reduceCtorEq, ↓i_cvidT, ↓i_cvbsJ]
 refine cvbs_k (l := [26, 201, 7]) (hr3.nb f38) rfl ?_
 simp (disch := omega) only [Zu, Zv, Zx, Zz, EO, ↓EP, EQ, EM, ↓reduceIte, Za, Zb, Zc, Zd, Ze, Zf, Zg, Zj, Zk, Zl, Zm, Zn, Zp, Zq, reduceCtorEq]
 refine eql_k str_foo ?_
 have hlen : ([0, 1, 255, 255, 255, 255, 255, 255, 255, 255, 0, 48, 33, 48, 9, 6, 5, 43, 14, 3, 2, 26, 5, 0, 4, 20] ++ List.replicate 20 (0 : Int)).length = 46 := by decide
 obtain ⟨pa, hpa, _, hcl⟩ := (hr5.nb f58).get (by rw [nums_length, hlen]; decide)
 subst hpa
 have z1 : w8.cell? (pa.add 1) = some (.int .u8 1) := hcl.numN (j := 1) (by rw [hlen]; decide)
 have z10 : w8.cell? (pa.add 10) = some (.int .u8 0) := hcl.numN (j := 10) (by rw [hlen]; decide)
 have z11 : w8.cell? (pa.add 11) = some (.int .u8 48) := hcl.numN (j := 11) (by rw [hlen]; decide)
 simp (disch := omega) only [Zu, Zv, Zx, Zz, EO, ↓EP, EQ, EM, ↓reduceIte, Za, Zb, Zc, Zd, Ze, Zf, Zg, Zj, Zk, Zl, Zm, Zn, Zp, Zq, reduceCtorEq, hlen, z1, z10, z11]
 refine bslV (l := [15]) (by kernel_rfl) fun w9 n9 => ?_
 have f9 := n9.fr nob
 simp (disch := omega) only [Zu, Zv, Zx, Zz, EO, ↓EP, EQ, EM, ↓reduceIte, Za, Zb, Zc, Zd, Ze, Zf, Zg, Zj, Zk, Zl, Zm, Zn, Zp, Zq, reduceCtorEq]
 refine bslV (l := [3]) (by kernel_rfl) fun w10 n10 => ?_
 have f10 := n10.fr nob
 simp (disch := omega) only [Zu, Zv, Zx, Zz, EO, ↓EP, EQ, EM, ↓reduceIte, Za, Zb, Zc, Zd, Ze, Zf, Zg, Zj, Zk, Zl, Zm, Zn, Zp, Zq, reduceCtorEq]
 refine ⟨_, fillK2 _ _ _ _ _ _, ?_⟩
 simp (disch := omega) only [Zu, Zv, Zx, Zz, EO, ↓EP, EQ, EM, ↓reduceIte, Za, Zb, Zc, Zd, Ze, Zf, Zg, Zj, Zk, Zl, Zm, Zn, Zp, Zq, reduceCtorEq]
 refine check_s (n9.rdl.nb f10) n10.rdl fun w11 f11 => ?_
 have f8b : Fr w8 w11 nob := (f9.nb f10).nb f11
 simp (disch := omega) only [Zu, Zv, Zx, Zz, EO, ↓EP, EQ, EM, ↓reduceIte, Za, Zb, Zc, Zd, Ze, Zf, Zg, Zj, Zk, Zl, Zm, Zn, Zp, Zq, reduceCtorEq]
 refine num8_k ?_
 simp (disch := omega) only [Zu, Zv, Zx, Zz, EO, ↓EP, EQ, EM, ↓reduceIte, Za, Zb, Zc, Zd, Ze, Zf, Zg, Zj, Zk, Zl, Zm, Zn, Zp, Zq, reduceCtorEq]
 refine (p8.blk.nb f8b).ldAgg rfl ?_
 simp (disch := omega) only [Zu, Zv, Zx, Zz, EO, ↓EP, EQ, EM, ↓reduceIte, Za, Zb, Zc, Zd, Ze, Zf, Zg, Zj, Zk, Zl, Zm, Zn, Zp, Zq, reduceCtorEq]
 refine size_s ((r6.nb f68).nb f8b) ((q6.nb f68).nb f8b) fun w12 f12 => ?_
 simp (disch := omega) only [Zu, Zv, Zx, Zz, EO, ↓EP, EQ, EM, ↓reduceIte, Za, Zb, Zc, Zd, Ze, Zf, Zg, Zj, Zk, Zl, Zm, Zn, Zp, Zq, reduceCtorEq]
 exact hK _ ((f08.nb f8b).nb f12)
end Go.Proofs.YtcgplgpdcfocpaaGreatDoor.Der
end
section
namespace Go.Proofs.YtcgplgpdcfocpaaGreatDoor.Der
open Go Go.RowKit Go.Proofs Go.Proofs.YtcgplgpdcfocpaaGreatDoor.Eng Go.Proofs.YtcgplgpdcfocpaaGreatDoor.Code
attribute [local irreducible] callK S.W opsW scrW scrT
open Go.Proofs.YtcgplgpdcfocpaaGreatDoor.Spec Go.Proofs.YtcgplgpdcfocpaaGreatDoor.Big
attribute [local irreducible] checkR powR tbR fbR
def rawR (N E sig : List Int) : List Int × Int :=
 if sizeK N E = 0 then ([], 80) else if (sig.length : Int) ≠ sizeK N E then ([], 112) else if ¬ val (fbR sig).1 < val N then ([], 112) else ((tbR (powR (fbR sig).1 E N).1 (sizeK N E)).1, 0)
theorem fb_lim (l : List Int) : Lim (fbR l).1 := by
 unfold fbR
 split
 ·exact Lim.nil
 ·exact limbs_lim _
theorem pow_lim (b e m : List Int) : Lim (powR b e m).1 := by
 unfold powR
 repeat' split
 ·exact Lim.nil
 ·exact Lim.nil
 ·exact limbs_lim _
theorem fb_len (l : List Int) (h : Byt l) : (fbR l).1.length ≤ 512 := by
 unfold fbR
 split
 ·simp
 ·rename_i hl
  show (limbs (bv l)).length ≤ 512
  rw [limbs_len (bv_bd h).1]
  refine Int.lt_of_lt_of_le (bv_bd h).2 ?_
  rw [p8_pw, p8_p2, p8_p2]
  exact p2_mono (by omega)
theorem size_bd {N E : List Int} (lN : Lim N) : 0 ≤ sizeK N E ∧ sizeK N E ≤ 1024 := by
 unfold sizeK
 by_cases h : checkR N E = 0
 ·rw [if_neg (by simpa using h)]
  have hn : ¬ 256 < N.length := fun g => by
   unfold checkR at h
   rw [if_pos (.inl g)] at h
   exact absurd h (by decide)
  have := bl_lim lN
  omega
 ·rw [if_pos h]; omega
theorem raw_tb {N E s : List Int} (lN : Lim N) (h : sizeK N E ≠ 0) : (tbR (powR s E N).1 (sizeK N E)).2 = 0 := by
 have hb := size_bd (E := E) lN
 have hl := pow_len (b := s) (e := E) (m := N) lN
 have hv : 0 ≤ val (powR s E N).1 ∧ bl (val (powR s E N).1) ≤ bl (val N) := by
  have b1 := val_bd lN
  unfold powR
  split
  ·exact ⟨by simp [val], by simp [val, bl]⟩
  ·split
   ·exact ⟨by simp [val], by simp [val, bl]⟩
   ·rename_i hz
    have hp : 0 < val N := by omega
    have h0 := Int.emod_nonneg (val s ^ (val E).toNat) (by omega : val N ≠ 0)
    have h1 := Int.emod_lt_of_pos (val s ^ (val E).toNat) hp
    show 0 ≤ val (limbs _) ∧ bl (val (limbs _)) ≤ _
    rw [limbs_val h0]
    refine ⟨h0, ?_⟩
    rw [bl_le h0]
    exact Int.lt_trans h1 ((bl_le b1.1).1 (Nat.le_refl _))
 unfold tbR
 rw [if_neg (by omega), if_neg (by omega), if_neg]
 have e : sizeK N E = ((bl (val N) + 7) / 8 : Nat) := by
  unfold sizeK at h ⊢
  split at h
  ·exact absurd rfl h
  ·rename_i hc
   rw [if_neg hc]
 rw [e]
 have : (bl (val (powR s E N).1) + 7) / 8 ≤ (bl (val N) + 7) / 8 := by omega
 omega
set_option maxHeartbeats 8000000 in
theorem raw_k {w : World} {vN vE v : Value} {N E sig : List Int} (hN : Vw .u32 w vN N) (hE : Vw .u32 w vE E) (lN : Lim N) (lE : Lim E) (nN : N.length ≤ 4194304) (nE : E.length ≤ 4194304) (hv : Vw .u8 w v sig) (hb : Byt sig) (h63 : sig.length ≤ 9223372036854775807) {K : Value → World → Prop}
  (hK : ∀ v' w', Gw .u8 w w' v' (rawR N E sig).1 → K (pr2 v' (rawR N E sig).2) w') : callK Tryz.prog 27 [.agg #[vN, vE], v] w K := by
 refine call_of Tryz.func27 Code.h27 (by simp [Code.c27]) ?_
 have hN0 := hN
 have hE0 := hE
 have hv0 := hv
 obtain ⟨A, c, rfl, hc, hr⟩ := hN0
 obtain ⟨B, d, rfl, hd, hs⟩ := hE0
 obtain ⟨D, q, rfl, hq, ht⟩ := hv0
 have hsb := size_bd (E := E) lN
 simp (disch := omega) only [Zu, Zv, Zx, Zz, EO, ↓EP, EQ, EM, ↓reduceIte, Za, Zb, Zc, Zd, Ze, Zf, Zg, Zj, Zk, Zl, Zm, Zn, Zp, Zq, reduceCtorEq, Code.c27]
 refine al_k [.slice A N.length c, .slice B E.length d] rfl fun w1 n1 => ?_
 have f1 := n1.fr nob
 simp (disch := omega) only [Zu, Zv, Zx, Zz, EO, ↓EP, EQ, EM, ↓reduceIte, Za, Zb, Zc, Zd, Ze, Zf, Zg, Zj, Zk, Zl, Zm, Zn, Zp, Zq, reduceCtorEq]
 refine n1.blk.ldAgg rfl ?_
 simp (disch := omega) only [Zu, Zv, Zx, Zz, EO, ↓EP, EQ, EM, ↓reduceIte, Za, Zb, Zc, Zd, Ze, Zf, Zg, Zj, Zk, Zl, Zm, Zn, Zp, Zq, reduceCtorEq]
 refine sizek_k (hN.nb f1) (hE.nb f1) lN lE nN nE fun w2 f2 => ?_
 have f12 := f1.nb f2
 by_cases h0 : sizeK N E = 0
 ·have e : rawR N E sig = ([], 80) := if_pos h0
  rw [e] at hK
  simp (disch := omega) only [Zu, Zv, Zx, Zz, EO, ↓EP, EQ, EM, ↓reduceIte, Za, Zb, Zc, Zd, Ze, Zf, Zg, Zj, Zk, Zl, Zm, Zn, Zp, Zq, reduceCtorEq, h0]
  exact hK _ _ ⟨Sl.nil _ _, (fun b e => by cases e), f12⟩
 by_cases h1 : (sig.length : Int) = sizeK N E
 rotate_left
 ·have e : rawR N E sig = ([], 112) := by unfold rawR; rw [if_neg h0, if_pos h1]
  rw [e] at hK
  simp (disch := omega) only [Zu, Zv, Zx, Zz, EO, ↓EP, EQ, EM, ↓reduceIte, Za, Zb, Zc, Zd, Ze, Zf, Zg, Zj, Zk, Zl, Zm, Zn, Zp, Zq, reduceCtorEq, h0, h1]
  exact hK _ _ ⟨Sl.nil _ _, (fun b e => by cases e), f12⟩
 simp (disch := omega) only [Zu, Zv, Zx, Zz, EO, ↓EP, EQ, EM, ↓reduceIte, Za, Zb, Zc, Zd, Ze, Zf, Zg, Zj, Zk, Zl, Zm, Zn, Zp, Zq, reduceCtorEq, h0, h1]
 refine frombytes_vw (hv.nb f12) hb _ fun v3 w3 g3 => ?_
 obtain ⟨A3, c3, rfl, hc3, hr3, _⟩ := g3.sl.read
 have f13 := f12.nb g3.fr
 have k0 : ∀ w', Fr w1 w' nob → w'.cell? ⟨w.heap.size, 0, none⟩ = some (.slice A N.length c) := fun w' f => (n1.blk.nb f).has 0 _ rfl
 have k1 : ∀ w', Fr w1 w' nob → w'.cell? ⟨w.heap.size, 1, none⟩ = some (.slice B E.length d) := fun w' f => (n1.blk.nb f).has 1 _ rfl
 have c0 := k0 w3 (f2.nb g3.fr)
 have hfl := fb_len sig hb
 simp (disch := omega) only [Zu, Zv, Zx, Zz, EO, ↓EP, EQ, EM, ↓reduceIte, Za, Zb, Zc, Zd, Ze, Zf, Zg, Zj, Zk, Zl, Zm, Zn, Zp, Zq, reduceCtorEq, c0]
 refine cmp_vw g3.vw (hN.nb f13) (fb_lim sig) lN (by omega) (by omega) _ fun w4 f4 => ?_
 have f14 := f13.nb f4
 have c0 := k0 w4 ((f2.nb g3.fr).nb f4)
 have c1 := k1 w4 ((f2.nb g3.fr).nb f4)
 by_cases h2 : val (fbR sig).1 < val N
 rotate_left
 ·have e : rawR N E sig = ([], 112) := by unfold rawR; rw [if_neg h0, if_neg (by simpa using h1), if_pos h2]
  rw [e] at hK
  have hcm : 0 ≤ cmpI (val (fbR sig).1) (val N) := by
   unfold cmpI
   rw [if_neg h2]
   split <;> omega
  simp (disch := omega) only [Zu, Zv, Zx, Zz, EO, ↓EP, EQ, EM, ↓reduceIte, Za, Zb, Zc, Zd, Ze, Zf, Zg, Zj, Zk, Zl, Zm, Zn, Zp, Zq, reduceCtorEq, hcm]
  exact hK _ _ ⟨Sl.nil _ _, (fun b e => by cases e), f14⟩
 have e : rawR N E sig = ((tbR (powR (fbR sig).1 E N).1 (sizeK N E)).1, 0) := by unfold rawR; rw [if_neg h0, if_neg (by simpa using h1), if_neg (by simpa using h2)]
 rw [e] at hK
 have hcm : ¬ 0 ≤ cmpI (val (fbR sig).1) (val N) := by rw [cmp_lt h2]; decide
 simp (disch := omega) only [Zu, Zv, Zx, Zz, EO, ↓EP, EQ, EM, ↓reduceIte, Za, Zb, Zc, Zd, Ze, Zf, Zg, Zj, Zk, Zl, Zm, Zn, Zp, Zq, reduceCtorEq, hcm, c0, c1]
 refine expmod_vw (g3.vw.nb f4) (hE.nb f14) (hN.nb f14) (fb_lim sig) lE lN _ fun v5 w5 g5 => ?_
 obtain ⟨A5, c5, rfl, hc5, hr5, _⟩ := g5.sl.read
 have f15 := f14.nb g5.fr
 simp (disch := omega) only [Zu, Zv, Zx, Zz, EO, ↓EP, EQ, EM, ↓reduceIte, Za, Zb, Zc, Zd, Ze, Zf, Zg, Zj, Zk, Zl, Zm, Zn, Zp, Zq, reduceCtorEq]
 refine bytes_vw (sizeK N E) g5.vw (pow_lim _ _ _) (by omega) _ fun v6 w6 g6 => ?_
 obtain ⟨A6, c6, rfl, hc6, hr6, _⟩ := g6.sl.read
 simp (disch := omega) only [Zu, Zv, Zx, Zz, EO, ↓EP, EQ, EM, ↓reduceIte, Za, Zb, Zc, Zd, Ze, Zf, Zg, Zj, Zk, Zl, Zm, Zn, Zp, Zq, reduceCtorEq]
 refine hK _ _ ⟨g6.sl, fun b e => ?_, f15.nb g6.fr⟩
 have := g6.up b e
 have := f15.size
 omega
end Go.Proofs.YtcgplgpdcfocpaaGreatDoor.Der
end
section
namespace Go.Proofs.YtcgplgpdcfocpaaGreatDoor.Der
open Go Go.RowKit Go.Proofs Go.Proofs.YtcgplgpdcfocpaaGreatDoor.Eng Go.Proofs.YtcgplgpdcfocpaaGreatDoor.Code
attribute [local irreducible] callK S.W opsW scrW scrT
open Go.Proofs.YtcgplgpdcfocpaaGreatDoor.Spec Go.Proofs.YtcgplgpdcfocpaaGreatDoor.Big
attribute [local irreducible] checkR powR tbR fbR
set_option maxHeartbeats 8000000 in
theorem rraw_k {w : World} {vN vE v : Value} {N E sig : List Int} (hN : Vw .u32 w vN N) (hE : Vw .u32 w vE E) (lN : Lim N) (lE : Lim E) (nN : N.length ≤ 4194304) (nE : E.length ≤ 4194304) (hv : Vw .u8 w v sig) (hb : Byt sig) (h63 : sig.length ≤ 9223372036854775807) {K : Value → World → Prop}
  (hK : ∀ v' w', Gw .u8 w w' v' (rawR N E sig).1 → K (pr2 v' (rawR N E sig).2) w') : callK Tryz.prog 29 [.agg #[vN, vE], v] w K := by
 refine call_of Tryz.func29 Code.h29 (by simp [Code.c29]) ?_
 have hN0 := hN
 have hE0 := hE
 have hv0 := hv
 obtain ⟨A, c, rfl, hc, hr⟩ := hN0
 obtain ⟨B, d, rfl, hd, hs⟩ := hE0
 obtain ⟨D, q, rfl, hq, ht⟩ := hv0
 have hsb := size_bd (E := E) lN
 simp (disch := omega) only [Zu, Zv, Zx, Zz, EO, ↓EP, EQ, EM, ↓reduceIte, Za, Zb, Zc, Zd, Ze, Zf, Zg, Zj, Zk, Zl, Zm, Zn, Zp, Zq, reduceCtorEq, Code.c29]
 refine al_k [.slice A N.length c, .slice B E.length d] rfl fun w1 n1 => ?_
 have f1 := n1.fr nob
 simp (disch := omega) only [Zu, Zv, Zx, Zz, EO, ↓EP, EQ, EM, ↓reduceIte, Za, Zb, Zc, Zd, Ze, Zf, Zg, Zj, Zk, Zl, Zm, Zn, Zp, Zq, reduceCtorEq]
 refine n1.blk.ldAgg rfl ?_
 simp (disch := omega) only [Zu, Zv, Zx, Zz, EO, ↓EP, EQ, EM, ↓reduceIte, Za, Zb, Zc, Zd, Ze, Zf, Zg, Zj, Zk, Zl, Zm, Zn, Zp, Zq, reduceCtorEq]
 refine rcheck_k (hN.nb f1) (hE.nb f1) lN lE nN nE fun w2 f2 => ?_
 have f12 := f1.nb f2
 by_cases hcz : checkR N E = 0
 rotate_left
 ·have h0 : sizeK N E = 0 := if_pos hcz
  have e : rawR N E sig = ([], 80) := if_pos h0
  rw [e] at hK
  simp (disch := omega) only [Zu, Zv, Zx, Zz, EO, ↓EP, EQ, EM, ↓reduceIte, Za, Zb, Zc, Zd, Ze, Zf, Zg, Zj, Zk, Zl, Zm, Zn, Zp, Zq, reduceCtorEq, hcz]
  exact hK _ _ ⟨Sl.nil _ _, (fun b e => by cases e), f12⟩
 have h0 : sizeK N E ≠ 0 := by
  unfold sizeK
  rw [if_neg (by simpa using hcz)]
  have : 512 ≤ bl (val N) := by
   apply Classical.byContradiction
   intro h
   unfold checkR at hcz
   rw [if_pos (by omega)] at hcz
   exact absurd hcz (by decide)
  omega
 simp (disch := omega) only [Zu, Zv, Zx, Zz, EO, ↓EP, EQ, EM, ↓reduceIte, Za, Zb, Zc, Zd, Ze, Zf, Zg, Zj, Zk, Zl, Zm, Zn, Zp, Zq, reduceCtorEq, hcz]
 refine (n1.blk.nb f2).ldAgg rfl ?_
 simp (disch := omega) only [Zu, Zv, Zx, Zz, EO, ↓EP, EQ, EM, ↓reduceIte, Za, Zb, Zc, Zd, Ze, Zf, Zg, Zj, Zk, Zl, Zm, Zn, Zp, Zq, reduceCtorEq]
 refine rsizek_k (hN.nb f12) (hE.nb f12) lN lE nN nE fun w2b f2b => ?_
 have f12 := f12.nb f2b
 have f2 := f2.nb f2b
 by_cases h1 : (sig.length : Int) = sizeK N E
 rotate_left
 ·have e : rawR N E sig = ([], 112) := by unfold rawR; rw [if_neg h0, if_pos h1]
  rw [e] at hK
  simp (disch := omega) only [Zu, Zv, Zx, Zz, EO, ↓EP, EQ, EM, ↓reduceIte, Za, Zb, Zc, Zd, Ze, Zf, Zg, Zj, Zk, Zl, Zm, Zn, Zp, Zq, reduceCtorEq, h1]
  exact hK _ _ ⟨Sl.nil _ _, (fun b e => by cases e), f12⟩
 simp (disch := omega) only [Zu, Zv, Zx, Zz, EO, ↓EP, EQ, EM, ↓reduceIte, Za, Zb, Zc, Zd, Ze, Zf, Zg, Zj, Zk, Zl, Zm, Zn, Zp, Zq, reduceCtorEq, h1]
 refine rfrombytes_vw (hv.nb f12) hb _ fun v3 w3 g3 => ?_
 obtain ⟨A3, c3, rfl, hc3, hr3, _⟩ := g3.sl.read
 have f13 := f12.nb g3.fr
 have k0 : ∀ w', Fr w1 w' nob → w'.cell? ⟨w.heap.size, 0, none⟩ = some (.slice A N.length c) := fun w' f => (n1.blk.nb f).has 0 _ rfl
 have k1 : ∀ w', Fr w1 w' nob → w'.cell? ⟨w.heap.size, 1, none⟩ = some (.slice B E.length d) := fun w' f => (n1.blk.nb f).has 1 _ rfl
 have c0 := k0 w3 (f2.nb g3.fr)
 have hfl := fb_len sig hb
 simp (disch := omega) only [Zu, Zv, Zx, Zz, EO, ↓EP, EQ, EM, ↓reduceIte, Za, Zb, Zc, Zd, Ze, Zf, Zg, Zj, Zk, Zl, Zm, Zn, Zp, Zq, reduceCtorEq, c0]
 refine rcmp_vw g3.vw (hN.nb f13) (fb_lim sig) lN (by omega) (by omega) _ fun cv w4 f4 q1 q2 q3 => ?_
 have f14 := f13.nb f4
 have c0 := k0 w4 ((f2.nb g3.fr).nb f4)
 have c1 := k1 w4 ((f2.nb g3.fr).nb f4)
 by_cases h2 : val (fbR sig).1 < val N
 rotate_left
 ·have e : rawR N E sig = ([], 112) := by unfold rawR; rw [if_neg h0, if_neg (by simpa using h1), if_pos h2]
  rw [e] at hK
  have hcm : 0 ≤ cv := by
   by_cases h3 : val (fbR sig).1 = val N
   ·have := q2 h3; omega
   ·have := q3 (by omega); omega
  simp (disch := omega) only [Zu, Zv, Zx, Zz, EO, ↓EP, EQ, EM, ↓reduceIte, Za, Zb, Zc, Zd, Ze, Zf, Zg, Zj, Zk, Zl, Zm, Zn, Zp, Zq, reduceCtorEq, hcm]
  exact hK _ _ ⟨Sl.nil _ _, (fun b e => by cases e), f14⟩
 have e : rawR N E sig = ((tbR (powR (fbR sig).1 E N).1 (sizeK N E)).1, 0) := by unfold rawR; rw [if_neg h0, if_neg (by simpa using h1), if_neg (by simpa using h2)]
 rw [e] at hK
 have hcm : ¬ 0 ≤ cv := by rw [q1 h2]; decide
 simp (disch := omega) only [Zu, Zv, Zx, Zz, EO, ↓EP, EQ, EM, ↓reduceIte, Za, Zb, Zc, Zd, Ze, Zf, Zg, Zj, Zk, Zl, Zm, Zn, Zp, Zq, reduceCtorEq, hcm, c0, c1]
 refine rexpmod_vw (g3.vw.nb f4) (hE.nb f14) (hN.nb f14) (fb_lim sig) lE lN _ fun v5 w5 g5 => ?_
 obtain ⟨A5, c5, rfl, hc5, hr5, _⟩ := g5.sl.read
 have f15 := f14.nb g5.fr
 simp (disch := omega) only [Zu, Zv, Zx, Zz, EO, ↓EP, EQ, EM, ↓reduceIte, Za, Zb, Zc, Zd, Ze, Zf, Zg, Zj, Zk, Zl, Zm, Zn, Zp, Zq, reduceCtorEq]
 refine (n1.blk.nb (((f2.nb g3.fr).nb f4).nb g5.fr)).ldAgg rfl ?_
 simp (disch := omega) only [Zu, Zv, Zx, Zz, EO, ↓EP, EQ, EM, ↓reduceIte, Za, Zb, Zc, Zd, Ze, Zf, Zg, Zj, Zk, Zl, Zm, Zn, Zp, Zq, reduceCtorEq]
 refine rsizek_k (hN.nb f15) (hE.nb f15) lN lE nN nE fun w5b f5b => ?_
 have f15 := f15.nb f5b
 simp (disch := omega) only [Zu, Zv, Zx, Zz, EO, ↓EP, EQ, EM, ↓reduceIte, Za, Zb, Zc, Zd, Ze, Zf, Zg, Zj, Zk, Zl, Zm, Zn, Zp, Zq, reduceCtorEq]
 refine rbytes_vw (sizeK N E) (g5.vw.nb f5b) (pow_lim _ _ _) (by omega) _ fun v6 w6 g6 => ?_
 rw [raw_tb lN h0]
 obtain ⟨A6, c6, rfl, hc6, hr6, _⟩ := g6.sl.read
 simp (disch := omega) only [Zu, Zv, Zx, Zz, EO, ↓EP, EQ, EM, ↓reduceIte, Za, Zb, Zc, Zd, Ze, Zf, Zg, Zj, Zk, Zl, Zm, Zn, Zp, Zq, reduceCtorEq]
 refine hK _ _ ⟨g6.sl, fun b e => ?_, f15.nb g6.fr⟩
 have := g6.up b e
 have := f15.size
 omega
end Go.Proofs.YtcgplgpdcfocpaaGreatDoor.Der
end
section
namespace Go.Proofs.YtcgplgpdcfocpaaGreatDoor.Der
open Go Go.RowKit Go.Proofs Go.Proofs.YtcgplgpdcfocpaaGreatDoor.Eng Go.Proofs.YtcgplgpdcfocpaaGreatDoor.Code
attribute [local irreducible] callK S.W opsW scrW scrT
open Go.Proofs.YtcgplgpdcfocpaaGreatDoor.Spec Go.Proofs.YtcgplgpdcfocpaaGreatDoor.Big
attribute [local irreducible] checkR sizeK rawR padR putR headR oidP
theorem bytes_back : ∀ {l : List Int}, Byt l → ((l.map fun n => UInt8.ofNat n.toNat).map fun u => (u.toNat : Int)) = l
 | [], _ => rfl
 | x :: r, h => by
  have hx := h.cons
  rw [List.map_cons, List.map_cons, bytes_back hx.2]
  congr 1
  have : (UInt8.ofNat x.toNat).toNat = x.toNat := by
   rw [UInt8.toNat_ofNat']
   exact Nat.mod_eq_of_lt (by omega)
  omega
theorem str_eq {a b : List Int} (ha : Byt a) (hb : Byt b) : ((strOfNums a).toList == (strOfNums b).toList) = decide (a = b) := by
 have e : ∀ l : List Int, (strOfNums l).toList = l.map fun n => UInt8.ofNat n.toNat := fun l => S_toList _
 rw [e, e]
 by_cases h : a = b
 ·rw [h, decide_eq_true rfl, beq_self_eq_true]
 ·rw [decide_eq_false h, beq_eq_false_iff_ne]
  intro g
  apply h
  rw [← bytes_back ha, g, bytes_back hb]
theorem equal_k {w : World} {va vb : Value} {l r : List Int} (ha : Vw .u8 w va l) (hb : Vw .u8 w vb r) (bl : Byt l) (br : Byt r) {K : Value → World → Prop} (hK : K (.bool (decide (l = r))) w) : callK Tryz.prog 28 [va, vb] w K := by
 refine call_of Tryz.func28 Code.h28 (by simp [Code.c28]) ?_
 obtain ⟨A, c, rfl, hc, hr⟩ := ha
 obtain ⟨B, d, rfl, hd, hs⟩ := hb
 simp (disch := omega) only [Zu, Zv, Zx, Zz, EO, ↓EP, EQ, EM, ↓reduceIte, Za, Zb, Zc, Zd, Ze, Zf, Zg, Zj, Zk, Zl, Zm, Zn, Zp, Zq, reduceCtorEq, Code.c28, ↓i_cvbsJ]
 refine cvbs_k hr rfl ?_
 simp (disch := omega) only [Zu, Zv, Zx, Zz, EO, ↓EP, EQ, EM, ↓reduceIte, Za, Zb, Zc, Zd, Ze, Zf, Zg, Zj, Zk, Zl, Zm, Zn, Zp, Zq, reduceCtorEq, ↓i_cvbsJ]
 refine cvbs_k hs rfl ?_
 simp (disch := omega) only [Zu, Zv, Zx, Zz, EO, ↓EP, EQ, EM, ↓reduceIte, Za, Zb, Zc, Zd, Ze, Zf, Zg, Zj, Zk, Zl, Zm, Zn, Zp, Zq, reduceCtorEq, b_seql, str_eq bl br]
 exact hK
end Go.Proofs.YtcgplgpdcfocpaaGreatDoor.Der
end
section
namespace Go.Proofs.YtcgplgpdcfocpaaGreatDoor.Der
open Go Go.RowKit Go.Proofs Go.Proofs.YtcgplgpdcfocpaaGreatDoor.Eng Go.Proofs.YtcgplgpdcfocpaaGreatDoor.Code
attribute [local irreducible] callK S.W opsW scrW scrT
open Go.Proofs.YtcgplgpdcfocpaaGreatDoor.Spec Go.Proofs.YtcgplgpdcfocpaaGreatDoor.Big
theorem alg_or {alg : Int} (h : sizeI alg ≠ 0) : (alg = 1 ∧ sizeI alg = 20) ∨ (alg = 2 ∧ sizeI alg = 32) ∨ (alg = 3 ∧ sizeI alg = 48) ∨ (alg = 4 ∧ sizeI alg = 64) := by
 unfold sizeI at h ⊢
 grind
theorem raw_byt {N E sig : List Int} : Byt (rawR N E sig).1 := by
 unfold rawR
 split
 ·exact Byt.nil
 split
 ·exact Byt.nil
 split
 ·exact Byt.nil
 ·show Byt (tbR _ _).1
  unfold tbR
  split
  ·exact Byt.nil
  split
  ·exact Byt.nil
  split
  ·exact Byt.nil
  ·exact bvs_byt _ _
theorem rawR_len {N E sig : List Int} : (rawR N E sig).1.length ≤ 2048 := by
 unfold rawR
 split
 ·simp
 split
 ·simp
 split
 ·simp
 ·show ((tbR _ _).1).length ≤ _
  unfold tbR
  split
  ·simp
  split
  ·simp
  split
  ·simp
  ·show (bvs _ _).length ≤ _
   rw [bvs_len]
   omega
end Go.Proofs.YtcgplgpdcfocpaaGreatDoor.Der
end
section
namespace Go.Proofs.YtcgplgpdcfocpaaGreatDoor.Der
open Go Go.RowKit Go.Proofs Go.Proofs.YtcgplgpdcfocpaaGreatDoor.Eng Go.Proofs.YtcgplgpdcfocpaaGreatDoor.Code
attribute [local irreducible] callK S.W opsW scrW scrT
open Go.Proofs.YtcgplgpdcfocpaaGreatDoor.Spec Go.Proofs.YtcgplgpdcfocpaaGreatDoor.Big
theorem wrap8 (x : Int) : 0 ≤ IntKind.u8.wrap x ∧ IntKind.u8.wrap x < 256 := by
 show 0 ≤ x % 256 ∧ x % 256 < 256
 omega
theorem dig_byt (alg : Int) (m : List Int) : Byt (dig alg m) := by
 unfold dig
 refine Byt.take ?_ _
 unfold outF
 intro x hx
 split at hx
 ·obtain ⟨i, _, h⟩ := List.mem_flatMap.1 hx
  unfold Spec.w4 at h
  simp only [List.mem_cons, List.not_mem_nil, or_false] at h
  rcases h with rfl | rfl | rfl | rfl <;> exact wrap8 _
 ·obtain ⟨i, _, h⟩ := List.mem_flatMap.1 hx
  unfold v8 at h
  obtain ⟨k, _, rfl⟩ := List.mem_map.1 h
  exact wrap8 _
theorem xor_byt {x y : Int} (hx : 0 ≤ x ∧ x < 256) (hy : 0 ≤ y ∧ y < 256) : 0 ≤ bits .xor .u8 x y ∧ bits .xor .u8 x y < 256 := wrap8 _
def allB (p : Nat → Nat → Bool) : Bool := (List.range 256).all fun x => (List.range 8).all fun o => p x o
theorem all_b {p : Nat → Nat → Bool} (h : allB p = true) {x o : Nat} (hx : x < 256) (ho : o < 8) : p x o = true := by
 have := List.all_eq_true.1 h x (List.mem_range.2 hx)
 exact List.all_eq_true.1 this o (List.mem_range.2 ho)
theorem free_1 : allB (fun x o => decide ((bits .andNot .u8 (x : Int) ((255 : Int).fdiv (2 ^ o)) = 0) ↔ ((x : Int) < 2 ^ (8 - o)))) = true := by decide +kernel
theorem free_2 : allB (fun x o => decide ((IntKind.u8.wrap ((x : Int) * 2 ^ o)).fdiv (2 ^ o) = bits .and .u8 (x : Int) ((255 : Int).fdiv (2 ^ o)))) = true := by decide +kernel
theorem free_3 : allB (fun x o => decide (((x : Int).fdiv (2 ^ (8 - o)) = 0) ↔ ((x : Int) < 2 ^ (8 - o)))) = true := by decide +kernel
theorem free_not {x : Int} {o : Nat} (hx : 0 ≤ x ∧ x < 256) (ho : o < 8) : (bits .andNot .u8 x ((255 : Int).fdiv (2 ^ o)) = 0) ↔ x < 2 ^ (8 - o) := by
 have := of_decide_eq_true (all_b free_1 (x := x.toNat) (by omega) ho)
 rwa [Int.toNat_of_nonneg hx.1] at this
theorem free_cut {x : Int} {o : Nat} (hx : 0 ≤ x ∧ x < 256) (ho : o < 8) : (IntKind.u8.wrap (x * 2 ^ o)).fdiv (2 ^ o) = bits .and .u8 x ((255 : Int).fdiv (2 ^ o)) := by
 have := of_decide_eq_true (all_b free_2 (x := x.toNat) (by omega) ho)
 rwa [Int.toNat_of_nonneg hx.1] at this
theorem free_top {x : Int} {o : Nat} (hx : 0 ≤ x ∧ x < 256) (ho : o < 8) : (x.fdiv (2 ^ (8 - o)) = 0) ↔ x < 2 ^ (8 - o) := by
 have := of_decide_eq_true (all_b free_3 (x := x.toNat) (by omega) ho)
 rwa [Int.toNat_of_nonneg hx.1] at this
def dbB (o : Nat) (em veil : List Int) (j : Nat) : Int :=
 if j = 0 then bits .and .u8 (bits .xor .u8 (at' em 0) (at' veil 0)) ((255 : Int).fdiv (2 ^ o)) else bits .xor .u8 (at' em (j : Nat)) (at' veil (j : Nat))
def dbR (o dl : Nat) (em veil : List Int) : List Int := (List.range dl).map (dbB o em veil)
theorem dbR_len (o dl : Nat) (em veil : List Int) : (dbR o dl em veil).length = dl := by simp [dbR]
theorem dbR_byt (o dl : Nat) (em veil : List Int) : Byt (dbR o dl em veil) := fun x hx => by
 obtain ⟨j, _, rfl⟩ := List.mem_map.1 hx
 unfold dbB
 split
 ·exact wrap8 _
 ·exact wrap8 _
theorem dbR_succ (o dl : Nat) (em veil : List Int) : dbR o (dl + 1) em veil = dbR o dl em veil ++ [dbB o em veil dl] := by
 unfold dbR
 rw [List.range_succ, List.map_append]
 rfl
theorem at_dbR {o dl : Nat} {em veil : List Int} {j : Nat} (h : j < dl) : at' (dbR o dl em veil) (j : Nat) = dbB o em veil j := by
 rw [at_get (by rw [dbR_len]; exact h)]
 simp [dbR]
def pssF (m n : Nat) (alg mask : Int) (salt : Nat) (sum em : List Int) : Int :=
 if (n : Int) - sum.length - 2 < salt ∨ at' em ((n - 1 : Nat) : Int) ≠ 188 then 112
 else if ¬ at' em 0 < 2 ^ (8 - (8 * n - m)) then 112
 else if (dbR (8 * n - m) (n - sum.length - 1) em (maskR mask ((em.drop (n - sum.length - 1)).take sum.length) ((n - sum.length - 1 : Nat) : Int)).1).take (n - sum.length - 1 - salt) ≠ List.replicate (n - sum.length - 2 - salt) 0 ++ [1] then 112
 else if dig alg (List.replicate 8 0 ++ sum ++ (dbR (8 * n - m) (n - sum.length - 1) em (maskR mask ((em.drop (n - sum.length - 1)).take sum.length) ((n - sum.length - 1 : Nat) : Int)).1).drop (n - sum.length - 1 - salt)) ≠ (em.drop (n - sum.length - 1)).take sum.length then 112 else 0
def pssE (m n : Nat) (alg mask : Int) (salt : Nat) (sum em : List Int) : Int :=
 if n < em.length ∧ at' em 0 ≠ 0 then 112 else pssF m n alg mask salt sum (if n < em.length then em.drop 1 else em)
def pssR (N E : List Int) (alg mask salt : Int) (sum sig : List Int) : Int :=
 if sizeI alg = 0 ∨ (sum.length : Int) ≠ sizeI alg ∨ sizeI mask = 0 ∨ salt < 0 then 1
 else if (rawR N E sig).2 ≠ 0 then (rawR N E sig).2
 else pssE (bl (val N) - 1) ((bl (val N) - 1 + 7) / 8) alg mask salt.toNat sum (rawR N E sig).1
theorem raw_sz {N E sig : List Int} (lN : Lim N) (h : (rawR N E sig).2 = 0) : 512 ≤ bl (val N) ∧ bl (val N) ≤ 8192 ∧ (rawR N E sig).1.length = (bl (val N) + 7) / 8 := by
 unfold rawR at h ⊢
 split at h
 ·exact absurd h (by decide)
 ·rename_i h0
  rw [if_neg h0]
  split at h
  ·exact absurd h (by decide)
  ·rename_i h1
   rw [if_neg h1]
   split at h
   ·exact absurd h (by decide)
   ·rename_i h2
    rw [if_neg h2]
    have hc : checkR N E = 0 := by
     apply Classical.byContradiction
     intro g
     exact h0 (by unfold sizeK; rw [if_pos g])
    have hs : sizeK N E = ((bl (val N) + 7) / 8 : Nat) := by unfold sizeK; rw [if_neg (by simpa using hc)]
    have hb := bl_lim lN
    have hn : N.length ≤ 256 := Classical.byContradiction fun g => by
     unfold checkR at hc
     rw [if_pos (.inl (by omega))] at hc
     exact absurd hc (by decide)
    have h5 : 512 ≤ bl (val N) := Classical.byContradiction fun g => by
     unfold checkR at hc
     rw [if_pos (by omega)] at hc
     exact absurd hc (by decide)
    refine ⟨h5, by omega, ?_⟩
    have ht := raw_tb (s := (fbR sig).1) (E := E) lN h0
    show ((tbR (powR (fbR sig).1 E N).1 (sizeK N E)).1).length = _
    unfold tbR at ht ⊢
    split at ht
    ·exact absurd ht (by decide)
    ·rename_i g1
     rw [if_neg g1]
     split at ht
     ·exact absurd ht (by decide)
     ·rename_i g2
      rw [if_neg g2]
      split at ht
      ·exact absurd ht (by decide)
      ·rename_i g3
       rw [if_neg g3]
       show (bvs _ _).length = _
       rw [bvs_len, hs]
       omega
end Go.Proofs.YtcgplgpdcfocpaaGreatDoor.Der
end
section
namespace Go.Proofs.YtcgplgpdcfocpaaGreatDoor.Der
open Go Go.RowKit Go.Proofs Go.Proofs.YtcgplgpdcfocpaaGreatDoor.Eng Go.Proofs.YtcgplgpdcfocpaaGreatDoor.Code
attribute [local irreducible] callK S.W opsW scrW scrT
open Go.Proofs.YtcgplgpdcfocpaaGreatDoor.Spec Go.Proofs.YtcgplgpdcfocpaaGreatDoor.Big
theorem vw_lo {k : IntKind} {w : World} {A : Option Addr} {c : Nat} {l : List Int} (hc : l.length ≤ c) (h : Rd w A (nums k l)) (o : Nat) (ho : o ≤ l.length) {n : Nat} (hn : l.length = n) : Vw k w (.slice (subA A c o 1) (n - o) (c - o)) (l.drop o) :=
 Vw.of (by simp; omega) (by omega) (h.subA c o hc)
set_option maxHeartbeats 2000000 in
def trimR : List Int → List Int
 | [] => []
 | x :: r => if x = 0 then trimR r else x :: r
theorem trimb_k {w : World} {v : Value} {l : List Int} (hv : Vw .u8 w v l) (hl : l.length ≤ 1000000) {K : Value → World → Prop}
  (hK : ∀ v', Vw .u8 w v' (trimR l) → K v' w) : callK Tryz.prog 66 [v, .int .u8 0] w K := by
 refine call_of Tryz.func66 Code.h66 (by simp [Code.c66]) ?_
 simp (disch := omega) only [Zu, Zv, Zx, Zz, EO, ↓EP, EQ, EM, ↓reduceIte, Za, Zb, Zc, Zd, Ze, Zf, Zg, Zj, Zk, Zl, Zm, Zn, Zp, Zq, reduceCtorEq, Code.c66]
 refine loop_inv (fun t ρ w' => w' = w ∧ ∃ l' v', Vw .u8 w v' l' ∧ ρ 0 = v' ∧ ρ 1 = .int .u8 0 ∧ l'.length = t ∧ trimR l' = trimR l) _ ⟨rfl, l, v, hv, by simp (disch := omega) only [Zu, Zv, Zx, Zz, EO, ↓EP, EQ, EM, ↓reduceIte, Za, Zb, Zc, Zd, Ze, Zf, Zg, Zj, Zk, Zl, Zm, Zn, Zp, Zq, reduceCtorEq], by simp (disch := omega) only [Zu, Zv, Zx, Zz, EO, ↓EP, EQ, EM, ↓reduceIte, Za, Zb, Zc, Zd, Ze, Zf, Zg, Zj, Zk, Zl, Zm, Zn, Zp, Zq, reduceCtorEq], rfl, rfl⟩ ?_
 rintro t ρ w' hf ⟨rfl, l', v', hv', h0, h1, rfl, he⟩ N hN
 obtain ⟨A, c, rfl, hc, hr⟩ := id hv'
 clear hf
 match l', hv', hr, hc, h0, he, hN with
 | [], hv', hr, hc, h0, he, hN =>
  simp (disch := omega) only [Zu, Zv, Zx, Zz, EO, ↓EP, EQ, EM, ↓reduceIte, Za, Zb, Zc, Zd, Ze, Zf, Zg, Zj, Zk, Zl, Zm, Zn, Zp, Zq, reduceCtorEq, h0, h1, List.length_nil]
  refine hK _ ?_
  rw [← he]
  exact Vw.nil _ _
 | x :: r, hv', hr, hc, h0, he, hN =>
  obtain ⟨ad, rfl, _, hcl⟩ := hr.get (by rw [nums_length]; simp)
  have c0 : w'.cell? (ad.add 0) = some (.int .u8 x) := hcl.numN (j := 0) (by simp)
  have hp : (0 : Int) < ((x :: r).length : Int) := by simp
  by_cases hx : x = 0
  ·subst hx
   simp (disch := omega) only [Zu, Zv, Zx, Zz, EO, ↓EP, EQ, EM, ↓reduceIte, Za, Zb, Zc, Zd, Ze, Zf, Zg, Zj, Zk, Zl, Zm, Zn, Zp, Zq, reduceCtorEq, h0, h1, hp, c0]
   refine hN r.length _ _ (by simp) ⟨rfl, r, .slice (subA (some ad) c 1 1) (r.length + 1 - 1) (c - 1), ?_, by simp (disch := omega) only [Zu, Zv, Zx, Zz, EO, ↓EP, EQ, EM, ↓reduceIte, Za, Zb, Zc, Zd, Ze, Zf, Zg, Zj, Zk, Zl, Zm, Zn, Zp, Zq, reduceCtorEq], by simp (disch := omega) only [Zu, Zv, Zx, Zz, EO, ↓EP, EQ, EM, ↓reduceIte, Za, Zb, Zc, Zd, Ze, Zf, Zg, Zj, Zk, Zl, Zm, Zn, Zp, Zq, reduceCtorEq, h1], rfl, by rw [← he]; simp [trimR]⟩
   exact vw_lo hc hr 1 (by simp) (by simp)
  ·simp (disch := omega) only [Zu, Zv, Zx, Zz, EO, ↓EP, EQ, EM, ↓reduceIte, Za, Zb, Zc, Zd, Ze, Zf, Zg, Zj, Zk, Zl, Zm, Zn, Zp, Zq, reduceCtorEq, h0, h1, hp, c0, hx]
   refine hK _ ?_
   rw [← he]
   unfold trimR
   rw [if_neg hx]
   exact hv'
theorem ixs0 {K : Value → Prop} (h : K (.int .u8 0)) : ixsK ⟨#[0]⟩ 0 K := ⟨by decide, by decide, h⟩
theorem trim_k {w : World} {v : Value} {l : List Int} (hv : Vw .u8 w v l) (hl : l.length ≤ 1000000) {K : Value → World → Prop}
  (hK : ∀ v', Vw .u8 w v' (trimR l) → K v' w) : callK Tryz.prog 39 [v, .string ⟨#[0]⟩] w K := by
 refine call_of Tryz.func39 Code.h39 (by simp [Code.c39]) ?_
 obtain ⟨A, c, rfl, hc, hr⟩ := id hv
 by_cases h0 : (l.length : Int) = 0
 ·obtain rfl : l = [] := List.length_eq_zero_iff.1 (by omega)
  simp (disch := omega) only [Zu, Zv, Zx, Zz, EO, ↓EP, EQ, EM, ↓reduceIte, Za, Zb, Zc, Zd, Ze, Zf, Zg, Zj, Zk, Zl, Zm, Zn, Zp, Zq, reduceCtorEq, Code.c39, h0]
  exact hK _ (Vw.nil _ _)
 have e1 : ((⟨#[0]⟩ : ByteArray).toList == (⟨#[]⟩ : ByteArray).toList) = false := by decide +kernel
 have e2 : (⟨#[0]⟩ : ByteArray).size = 1 := rfl
 simp (disch := omega) only [Zu, Zv, Zx, Zz, EO, ↓EP, EQ, EM, ↓reduceIte, Za, Zb, Zc, Zd, Ze, Zf, Zg, Zj, Zk, Zl, Zm, Zn, Zp, Zq, reduceCtorEq, Code.c39, h0, b_seql, e1, e2]
 refine ixs0 ?_
 simp (disch := omega) only [Zu, Zv, Zx, Zz, EO, ↓EP, EQ, EM, ↓reduceIte, Za, Zb, Zc, Zd, Ze, Zf, Zg, Zj, Zk, Zl, Zm, Zn, Zp, Zq, reduceCtorEq]
 refine ixs0 ?_
 refine trimb_k hv hl fun v' h' => ?_
 obtain ⟨B, d, rfl, _, _⟩ := id h'
 simp (disch := omega) only [Zu, Zv, Zx, Zz, EO, ↓EP, EQ, EM, ↓reduceIte, Za, Zb, Zc, Zd, Ze, Zf, Zg, Zj, Zk, Zl, Zm, Zn, Zp, Zq, reduceCtorEq]
 exact hK _ h'
theorem trim_one : ∀ l : List Int, trimR l = [1] ↔ l = List.replicate (l.length - 1) 0 ++ [1]
 | [] => by simp [trimR]
 | x :: r => by
  unfold trimR
  by_cases h : x = 0
  ·rw [if_pos h, trim_one r]
   subst h
   cases r with
   | nil => simp
   | cons y s =>
    simp only [List.length_cons, Nat.add_sub_cancel]
    rw [List.replicate_succ, List.cons_append]
    simp
  ·rw [if_neg h]
   cases r with
   | nil => simp
   | cons y s =>
    simp only [List.length_cons, Nat.add_sub_cancel]
    rw [List.replicate_succ, List.cons_append]
    simp [h]
end Go.Proofs.YtcgplgpdcfocpaaGreatDoor.Der
end
section
namespace Go.Proofs.YtcgplgpdcfocpaaGreatDoor.Der
open Go Go.RowKit Go.Proofs Go.Proofs.YtcgplgpdcfocpaaGreatDoor.Eng Go.Proofs.YtcgplgpdcfocpaaGreatDoor.Code
attribute [local irreducible] callK S.W opsW scrW scrT
open Go.Proofs.YtcgplgpdcfocpaaGreatDoor.Spec Go.Proofs.YtcgplgpdcfocpaaGreatDoor.Big
attribute [local irreducible] checkR sizeK rawR padR
end Go.Proofs.YtcgplgpdcfocpaaGreatDoor.Der
end
section
namespace Go.Proofs.YtcgplgpdcfocpaaGreatDoor.Der
open Go Go.RowKit Go.Proofs Go.Proofs.YtcgplgpdcfocpaaGreatDoor.Eng Go.Proofs.YtcgplgpdcfocpaaGreatDoor.Code
attribute [local irreducible] callK S.W opsW scrW scrT
open Go.Proofs.YtcgplgpdcfocpaaGreatDoor.Spec Go.Proofs.YtcgplgpdcfocpaaGreatDoor.Big
attribute [local irreducible] checkR sizeK rawR dig dbR pssF
theorem one_of {l : List Int} (h1 : l.length = 1) (h2 : at' l 0 = 1) : l = [1] := by
 match l, h1, h2 with
 | [x], _, h2 =>
  have : x = 1 := h2
  rw [this]
theorem pick_k {p : Prop} [Decidable p] {K : Value → World → Prop} {w : World} (h : K (.int .i64 (if ¬ p then 112 else 0)) w) : if ¬ p then K (.int .i64 112) w else K (.int .i64 0) w := by
 by_cases g : p
 ·rw [if_neg (fun x => x g)] at h ⊢
  exact h
 ·rw [if_pos g] at h ⊢
  exact h
theorem alg_14 {alg : Int} (h : sizeI alg ≠ 0) : 1 ≤ alg ∧ alg ≤ 4 := by
 rcases alg_or h with ⟨rfl, _⟩ | ⟨rfl, _⟩ | ⟨rfl, _⟩ | ⟨rfl, _⟩ <;> decide
theorem maskR_l2 {mask : Int} (h : sizeI mask ≠ 0) (seed : List Int) {n : Nat} (hn : n ≤ 2048) : (maskR mask seed n).1.length = n ∧ Byt (maskR mask seed n).1 := by
 have hz := sizeI_nn mask
 have ha : 1 ≤ mask ∧ mask ≤ 4 := by
  rcases alg_or h with ⟨rfl, _⟩ | ⟨rfl, _⟩ | ⟨rfl, _⟩ | ⟨rfl, _⟩ <;> decide
 unfold maskR
 rw [if_neg (by omega)]
 show ((maskL mask seed (n : Int).toNat).take (n : Int).toNat).length = n ∧ Byt ((maskL mask seed (n : Int).toNat).take (n : Int).toNat)
 rw [Int.toNat_natCast]
 constructor
 ·rw [List.length_take, maskL_len ha.1 ha.2]
  have h1 := mk_size ha.1 ha.2
  have : n * 1 ≤ n * (sizeI mask).toNat := Nat.mul_le_mul_left n (by omega)
  omega
 ·refine Byt.take ?_ _
  unfold maskL
  intro x hx
  obtain ⟨i, _, hi⟩ := List.mem_flatMap.1 hx
  exact dig_byt _ _ x hi
theorem mask_n {alg n : Int} {seed : List Int} {h : Nat} {A : Option Addr} {c : Nat} {w : World} (hT : Tb w) (hl : seed.length = h) (hc : h ≤ c) (hr : Rd w A (nums .u8 seed)) (hseed : h ≤ 16777000) {K : Value → World → Prop}
  (hK : ∀ v w', Vw .u8 w' v (maskR alg seed n).1 → (∀ b, blkOf v = some b → w.heap.size ≤ b) → Fr w w' nob → K (.tuple #[v, .int .i64 (maskR alg seed n).2]) w') : callK Tryz.prog 22 [.int .i64 alg, .slice A h c, .int .i64 n] w K := by
 subst hl
 exact mask_k hT hc hr hseed hK
theorem blk_sub {w : World} {b : Nat} {L l : List Int} (h : Blk w b (nums .u8 L)) (o n : Nat) (e : (L.drop o).take n = l) : Rd w (some ⟨b, o, none⟩) (nums .u8 l) := h.rd o (n := n) (by rw [nums_drop, nums_take, e])
theorem sub_list {em pad : List Int} {a h : Nat} (hh : a + h ≤ em.length) : ((em ++ pad).drop a).take h = (em.drop a).take h := by
 rw [List.drop_append_of_le_length (by omega), List.take_append_of_le_length (by rw [List.length_drop]; omega)]
theorem ll3 {w : World} {A B C D : Option Addr} {n c m d o e : Nat} {p q s : List Int} (h : Rd w A [.slice B n c, .slice C m d, .slice D o e]) (hn : p.length = n) (hc : n ≤ c) (hb : Rd w B (nums .u8 p)) (hm : q.length = m) (hd : m ≤ d) (hq : Rd w C (nums .u8 q)) (ho : s.length = o) (he : o ≤ e) (hs : Rd w D (nums .u8 s)) : LL w A [p, q, s] [.slice B n c, .slice C m d, .slice D o e] := by
 refine ⟨h, rfl, fun i r v h1 h2 => ?_⟩
 match i, h1, h2 with
 | 0, h1, h2 => simp at h1 h2; subst h1; subst h2; subst hn; exact ⟨B, c, rfl, hc, hb⟩
 | 1, h1, h2 => simp at h1 h2; subst h1; subst h2; subst hm; exact ⟨C, d, rfl, hd, hq⟩
 | 2, h1, h2 => simp at h1 h2; subst h1; subst h2; subst ho; exact ⟨D, e, rfl, he, hs⟩
 | (i + 3), h1, h2 => simp at h1
def Xd (L0 veil L : List Int) (o i : Nat) : Prop := L.length = L0.length ∧ ∀ j : Nat, at' L j = if o ≤ j ∧ j < o + i then bits .xor .u8 (at' L0 j) (at' veil ((j - o : Nat) : Int)) else at' L0 j
theorem Xd.zero (L0 veil : List Int) (o : Nat) : Xd L0 veil L0 o 0 := ⟨rfl, fun j => by rw [if_neg (by omega)]⟩
theorem Xd.step {L0 veil L : List Int} {o i : Nat} (h : Xd L0 veil L o i) (hi : o + i < L0.length) : Xd L0 veil (L.set (o + i) (bits .xor .u8 (at' L ((o + i : Nat) : Int)) (at' veil (i : Int)))) o (i + 1) := by
 refine ⟨by rw [List.length_set]; exact h.1, fun j => ?_⟩
 by_cases e : o + i = j
 ·subst e
  rw [Big.at_setN (by rw [h.1]; exact hi), if_pos (by omega), h.2, if_neg (by omega), show o + i - o = i by omega]
 ·rw [Big.at_setO e, h.2]
  by_cases c : o ≤ j ∧ j < o + i
  ·rw [if_pos c, if_pos (by omega)]
  ·rw [if_neg c, if_neg (by omega)]
theorem Xd.done {em pad veil L : List Int} {o dl ov : Nat} (h : Xd (em ++ pad) veil L o dl) (h0 : 0 < dl) (hl : o + dl ≤ em.length) : ((L.set o (bits .and .u8 (at' L (o : Int)) ((255 : Int).fdiv (2 ^ ov)))).drop o).take dl = dbR ov dl (em.drop o) veil := by
 have hL : L.length = em.length + pad.length := by rw [h.1, List.length_append]
 apply List.ext_getElem
 ·rw [List.length_take, List.length_drop, List.length_set, dbR_len]
  omega
 ·intro j h1 h2
  rw [dbR_len] at h2
  rw [← Big.at_get h1, ← Big.at_get (by rw [dbR_len]; exact h2), Big.at_take h2, Big.at_drop, at_dbR h2]
  unfold dbB
  by_cases hj : j = 0
  ·subst hj
   have hx := h.2 o
   rw [if_pos (by omega), Nat.sub_self, Big.at_app (by omega)] at hx
   rw [Nat.add_zero, Big.at_setN (by omega), if_pos rfl, hx]
   have := Big.at_drop em 0 o
   rw [Nat.add_zero] at this
   rw [show (0 : Int) = ((0 : Nat) : Int) from rfl, this]
  ·rw [if_neg hj, Big.at_setO (by omega), h.2, if_pos (by omega), Big.at_app (by omega), show o + j - o = j by omega, Big.at_drop]
theorem Xd.rest {em pad veil L : List Int} {o dl h : Nat} {x : Int} (g : Xd (em ++ pad) veil L o dl) (h0 : 0 < dl) (hl : o + dl + h ≤ em.length) : ((L.set o x).drop (o + dl)).take h = ((em.drop o).drop dl).take h := by
 have hL : L.length = em.length + pad.length := by rw [g.1, List.length_append]
 apply List.ext_getElem
 ·simp only [List.length_take, List.length_drop, List.length_set]
  omega
 ·intro j h1 h2
  have hj : j < h := by
   simp only [List.length_take, List.length_drop] at h2
   omega
  rw [← Big.at_get h1, ← Big.at_get h2, Big.at_take hj, Big.at_take hj, Big.at_drop, Big.at_drop, Big.at_drop, Big.at_setO (by omega), g.2, if_neg (by omega), Big.at_app (by omega), Nat.add_assoc]
theorem sub_at {b o c k : Nat} (h : c ≠ k) : subA (some ⟨b, o, none⟩) c k 1 = some ⟨b, o + k, none⟩ := by
 unfold subA
 rw [if_neg h]
 show some (Addr.add _ _) = _
 rw [Nat.mul_one, Addr.add_lit]
theorem sub_blk {b c : Nat} (h : 1 ≤ c) (hc : c ≠ 1) : subA (some ⟨b, 0, none⟩) c 1 1 = some ⟨b, 1, none⟩ := by
 unfold subA
 rw [if_neg hc]
 rfl
end Go.Proofs.YtcgplgpdcfocpaaGreatDoor.Der
end
section
namespace Go.Proofs.YtcgplgpdcfocpaaGreatDoor.Der
open Go Go.RowKit Go.Proofs Go.Proofs.YtcgplgpdcfocpaaGreatDoor.Eng Go.Proofs.YtcgplgpdcfocpaaGreatDoor.Code
attribute [local irreducible] callK S.W opsW scrW scrT
open Go.Proofs.YtcgplgpdcfocpaaGreatDoor.Spec Go.Proofs.YtcgplgpdcfocpaaGreatDoor.Big
attribute [local irreducible] checkR sizeK rawR dig dbR pssF
attribute [local irreducible] maskR
set_option maxHeartbeats 16000000 in
theorem vpss_k {w : World} (hT : Tb w) {vN vE v v2 : Value} {N E sig sum : List Int} {alg mask salt : Int} (hN : Vw .u32 w vN N) (hE : Vw .u32 w vE E) (lN : Lim N) (lE : Lim E) (nN : N.length ≤ 4194304) (nE : E.length ≤ 4194304) (hsl : -9223372036854775808 ≤ salt ∧ salt ≤ 9223372036854775807) (hv : Vw .u8 w v sum) (hb : Byt sum) (h63 : sum.length ≤ 9223372036854775807) (hv2 : Vw .u8 w v2 sig) (hb2 : Byt sig) (h64 : sig.length ≤ 9223372036854775807) {K : Value → World → Prop}
  (hK : ∀ w', Fr w w' nob → K (.int .i64 (pssR N E alg mask salt sum sig)) w') : callK Tryz.prog 19 [.agg #[vN, vE], .int .i64 alg, .int .i64 mask, .int .i64 salt, v, v2] w K := by
 refine call_of Tryz.func19 Code.h19 (by simp [Code.c19]) ?_
 have hN0 := hN
 have hE0 := hE
 have hv0 := hv
 have hv20 := hv2
 obtain ⟨A, c, rfl, hc, hr⟩ := hN0
 obtain ⟨B, d, rfl, hd, hs⟩ := hE0
 obtain ⟨D, q, rfl, hq, ht⟩ := hv0
 obtain ⟨D2, q2, rfl, hq2, ht2⟩ := hv20
 have hz := sizeI_nn alg
 have hzm := sizeI_nn mask
 have hrl := rawR_len (N := N) (E := E) (sig := sig)
 have hrb := raw_byt (N := N) (E := E) (sig := sig)
 simp (disch := omega) only [Zu, Zv, Zx, Zz, EO, ↓EP, EQ, EM, ↓reduceIte, Za, Zb, Zc, Zd, Ze, Zf, Zg, Zj, Zk, Zl, Zm, Zn, Zp, Zq, reduceCtorEq, Code.c19]
 refine al_k [.slice A N.length c, .slice B E.length d] rfl fun w1 n1 => ?_
 have f1 := n1.fr nob
 simp (disch := omega) only [Zu, Zv, Zx, Zz, EO, ↓EP, EQ, EM, ↓reduceIte, Za, Zb, Zc, Zd, Ze, Zf, Zg, Zj, Zk, Zl, Zm, Zn, Zp, Zq, reduceCtorEq]
 have bad1 : (sizeI alg = 0 ∨ (sum.length : Int) ≠ sizeI alg ∨ sizeI mask = 0 ∨ salt < 0) → K (.int .i64 1) w1 := fun h => by
  have e : pssR N E alg mask salt sum sig = 1 := if_pos h
  rw [e] at hK
  exact hK _ f1
 refine known_k h63 ?_
 by_cases c0 : 0 < sizeI alg ∧ (sum.length : Int) = sizeI alg
 rotate_left
 ·have : (decide (0 < sizeI alg) && decide ((sum.length : Int) = sizeI alg)) = false := by
   by_cases h : 0 < sizeI alg
   ·have : ¬ (sum.length : Int) = sizeI alg := fun e => c0 ⟨h, e⟩
    simp [this]
   ·simp [h]
  rw [this]
  simp (disch := omega) only [Zu, Zv, Zx, Zz, EO, ↓EP, EQ, EM, ↓reduceIte, Za, Zb, Zc, Zd, Ze, Zf, Zg, Zj, Zk, Zl, Zm, Zn, Zp, Zq, reduceCtorEq, Bool.not_false]
  exact bad1 (by omega)
 obtain ⟨c1, c2⟩ := c0
 rw [decide_eq_true c1, decide_eq_true c2, Bool.true_and]
 simp (disch := omega) only [Zu, Zv, Zx, Zz, EO, ↓EP, EQ, EM, ↓reduceIte, Za, Zb, Zc, Zd, Ze, Zf, Zg, Zj, Zk, Zl, Zm, Zn, Zp, Zq, reduceCtorEq, Bool.not_true]
 refine size_spec mask _ _ ?_
 by_cases c3 : sizeI mask = 0
 ·simp (disch := omega) only [Zu, Zv, Zx, Zz, EO, ↓EP, EQ, EM, ↓reduceIte, Za, Zb, Zc, Zd, Ze, Zf, Zg, Zj, Zk, Zl, Zm, Zn, Zp, Zq, reduceCtorEq, Bool.not_true, c3]
  exact bad1 (by omega)
 by_cases c4 : salt < 0
 ·simp (disch := omega) only [Zu, Zv, Zx, Zz, EO, ↓EP, EQ, EM, ↓reduceIte, Za, Zb, Zc, Zd, Ze, Zf, Zg, Zj, Zk, Zl, Zm, Zn, Zp, Zq, reduceCtorEq, Bool.not_true, c3, c4]
  exact bad1 (by omega)
 simp (disch := omega) only [Zu, Zv, Zx, Zz, EO, ↓EP, EQ, EM, ↓reduceIte, Za, Zb, Zc, Zd, Ze, Zf, Zg, Zj, Zk, Zl, Zm, Zn, Zp, Zq, reduceCtorEq, Bool.not_true, c3, c4]
 refine n1.blk.ldAgg rfl ?_
 simp (disch := omega) only [Zu, Zv, Zx, Zz, EO, ↓EP, EQ, EM, ↓reduceIte, Za, Zb, Zc, Zd, Ze, Zf, Zg, Zj, Zk, Zl, Zm, Zn, Zp, Zq, reduceCtorEq]
 refine raw_k (hN.nb f1) (hE.nb f1) lN lE nN nE (hv2.nb f1) hb2 h64 fun v3 w3 g3 => ?_
 have f13 := f1.nb g3.fr
 obtain ⟨A3, c3', e3, hc3, hr3, _⟩ := g3.sl.read
 by_cases h0 : (rawR N E sig).2 = 0
 rotate_left
 ·have e : pssR N E alg mask salt sum sig = (rawR N E sig).2 := by unfold pssR; rw [if_neg (by omega), if_pos h0]
  rw [e] at hK
  subst e3
  simp (disch := omega) only [Zu, Zv, Zx, Zz, EO, ↓EP, EQ, EM, ↓reduceIte, Za, Zb, Zc, Zd, Ze, Zf, Zg, Zj, Zk, Zl, Zm, Zn, Zp, Zq, reduceCtorEq, pr2, h0]
  exact hK _ f13
 obtain ⟨hbl, hbu, hlen⟩ := raw_sz lN h0
 have hR : pssR N E alg mask salt sum sig = pssE (bl (val N) - 1) ((bl (val N) - 1 + 7) / 8) alg mask salt.toNat sum (rawR N E sig).1 := by
  unfold pssR
  rw [if_neg (by omega), if_neg (by omega)]
 rw [hR] at hK
 clear hR bad1
 have hk0 : ∀ w', Fr w3 w' nob → w'.cell? ⟨w.heap.size, 0, none⟩ = some (.slice A N.length c) := fun w' f => ((n1.blk.nb g3.fr).nb f).has 0 _ rfl
 have k0 := hk0 w3 (Fr.refl _ _)
 rcases g3.sl with ⟨e0, _⟩ | ⟨b, pad, ev, hB⟩
 ·rw [e0] at hlen
  simp at hlen
  omega
 subst ev
 have hup := g3.up b rfl
 have f03 := f1.nb g3.fr
 generalize hem : (rawR N E sig).1 = em at *
 generalize hBL : bl (val N) = BL at *
 obtain ⟨m, hm⟩ : ∃ m : Nat, BL = m + 1 := ⟨BL - 1, by omega⟩
 subst hm
 obtain ⟨n, hn⟩ : ∃ n : Nat, n = (m + 7) / 8 := ⟨_, rfl⟩
 have hmn : m + 1 - 1 = m := by omega
 rw [hmn, ← hn] at hK
 simp (disch := omega) only [Zu, Zv, Zx, Zz, EO, ↓EP, EQ, EM, ↓reduceIte, Za, Zb, Zc, Zd, Ze, Zf, Zg, Zj, Zk, Zl, Zm, Zn, Zp, Zq, reduceCtorEq, pr2, h0, k0]
 refine bits_vw (hN.nb f13) lN (by omega) _ ?_
 rw [hBL]
 simp (disch := omega) only [Zu, Zv, Zx, Zz, EO, ↓EP, EQ, EM, ↓reduceIte, Za, Zb, Zc, Zd, Ze, Zf, Zg, Zj, Zk, Zl, Zm, Zn, Zp, Zq, reduceCtorEq, W_joinT]
 have hdiv : ((↑(m + 1) : Int) - 1 + 7).tdiv 8 = (n : Int) := by
  rw [Int.tdiv_eq_ediv_of_nonneg (by omega)]
  omega
 refine join_cut (fun ρ' w' => w' = w3 ∧ ∃ o : Nat, ρ' 13 = .slice (some ⟨b, o, none⟩) n (em.length + pad.length - o) ∧ em.length = o + n ∧ pssE m n alg mask salt.toNat sum em = pssF m n alg mask salt.toNat sum (em.drop o)) ?_ ?_
 ·intro M hM
  have ce0 : w3.cell? ⟨b, 0, none⟩ = some (.int .u8 (at' em 0)) := by
   have := hB.numN (j := 0) (by simp; omega)
   rw [Big.at_app (a := em) (b := pad) (k := 0) (by omega)] at this
   exact this
  by_cases hbig : (n : Int) < (em.length : Int)
  ·by_cases hz0 : at' em 0 = 0
   ·simp (disch := omega) only [Zu, Zv, Zx, Zz, EO, ↓EP, EQ, EM, ↓reduceIte, Za, Zb, Zc, Zd, Ze, Zf, Zg, Zj, Zk, Zl, Zm, Zn, Zp, Zq, reduceCtorEq, hdiv, hbig, ce0, hz0]
    refine hM _ _ ⟨rfl, 1, ?_, by omega, ?_⟩
    ·simp (disch := omega) only [Zu, Zv, Zx, Zz, EO, ↓EP, EQ, EM, ↓reduceIte, Za, Zb, Zc, Zd, Ze, Zf, Zg, Zj, Zk, Zl, Zm, Zn, Zp, Zq, reduceCtorEq]
     rw [sub_blk (by omega) (by omega), show em.length - 1 = n by omega]
    ·unfold pssE
     rw [if_neg (fun g => g.2 hz0), if_pos (by omega)]
   ·have e : pssE m n alg mask salt.toNat sum em = 112 := by
     unfold pssE
     rw [if_pos ⟨by omega, hz0⟩]
    rw [e] at hK
    simp (disch := omega) only [Zu, Zv, Zx, Zz, EO, ↓EP, EQ, EM, ↓reduceIte, Za, Zb, Zc, Zd, Ze, Zf, Zg, Zj, Zk, Zl, Zm, Zn, Zp, Zq, reduceCtorEq, hdiv, hbig, ce0, hz0]
    exact hK _ f13
  ·simp (disch := omega) only [Zu, Zv, Zx, Zz, EO, ↓EP, EQ, EM, ↓reduceIte, Za, Zb, Zc, Zd, Ze, Zf, Zg, Zj, Zk, Zl, Zm, Zn, Zp, Zq, reduceCtorEq, hdiv, hbig]
   refine hM _ _ ⟨rfl, 0, ?_, by omega, ?_⟩
   ·simp (disch := omega) only [Zu, Zv, Zx, Zz, EO, ↓EP, EQ, EM, ↓reduceIte, Za, Zb, Zc, Zd, Ze, Zf, Zg, Zj, Zk, Zl, Zm, Zn, Zp, Zq, reduceCtorEq]
    rw [show em.length = n by omega, Nat.sub_zero]
   ·unfold pssE
    rw [if_neg (fun g => by omega), if_neg (by omega), List.drop_zero]
 rintro ρ' w' hf ⟨rfl, o, r13, hon, hpe⟩
 rw [hpe] at hK
 clear hpe
 have r3 : ρ' 3 = .int .i64 salt := by rw [hf 3 rfl]; simp (disch := omega) only [Zu, Zv, Zx, Zz, EO, ↓EP, EQ, EM, ↓reduceIte, Za, Zb, Zc, Zd, Ze, Zf, Zg, Zj, Zk, Zl, Zm, Zn, Zp, Zq, reduceCtorEq]
 have r1 : ρ' 1 = .int .i64 alg := by rw [hf 1 rfl]; simp (disch := omega) only [Zu, Zv, Zx, Zz, EO, ↓EP, EQ, EM, ↓reduceIte, Za, Zb, Zc, Zd, Ze, Zf, Zg, Zj, Zk, Zl, Zm, Zn, Zp, Zq, reduceCtorEq]
 have r2 : ρ' 2 = .int .i64 mask := by rw [hf 2 rfl]; simp (disch := omega) only [Zu, Zv, Zx, Zz, EO, ↓EP, EQ, EM, ↓reduceIte, Za, Zb, Zc, Zd, Ze, Zf, Zg, Zj, Zk, Zl, Zm, Zn, Zp, Zq, reduceCtorEq]
 have r4 : ρ' 4 = .slice D sum.length q := by rw [hf 4 rfl]; simp (disch := omega) only [Zu, Zv, Zx, Zz, EO, ↓EP, EQ, EM, ↓reduceIte, Za, Zb, Zc, Zd, Ze, Zf, Zg, Zj, Zk, Zl, Zm, Zn, Zp, Zq, reduceCtorEq]
 have r15 : ρ' 15 = .int .i64 (m : Int) := by
  rw [hf 15 rfl]
  simp (disch := omega) only [Zu, Zv, Zx, Zz, EO, ↓EP, EQ, EM, ↓reduceIte, Za, Zb, Zc, Zd, Ze, Zf, Zg, Zj, Zk, Zl, Zm, Zn, Zp, Zq, reduceCtorEq]
  congr 1
  omega
 clear hf
 have sq : ∃ s : Nat, salt = (s : Int) ∧ salt.toNat = s := ⟨salt.toNat, by omega, rfl⟩
 obtain ⟨s, es, hs0⟩ := sq
 rw [hs0] at hK
 rw [es] at r3
 have hcap : n ≤ em.length + pad.length - o := by omega
 have cpq : ∃ cp : Nat, cp = em.length + pad.length - o := ⟨_, rfl⟩
 obtain ⟨cp, hcp⟩ := cpq
 rw [← hcp] at r13 hcap
 have hh : sum.length ≤ 64 := by omega
 have cl : w'.cell? ⟨b, o + (n - 1), none⟩ = some (.int .u8 (at' (em.drop o) ((n - 1 : Nat) : Int))) := by
  have := hB.numN (j := o + (n - 1)) (by simp; omega)
  rw [Big.at_app (a := em) (b := pad) (k := o + (n - 1)) (by omega)] at this
  rw [this, Big.at_drop]
 have i1 : ((n : Int) - 1).toNat = n - 1 := by omega
 by_cases h4 : (n : Int) - sum.length - 2 < s
 ·have e : pssF m n alg mask s sum (em.drop o) = 112 := by unfold pssF; rw [if_pos (.inl h4)]
  rw [e] at hK
  simp (disch := omega) only [Zu, Zv, Zx, Zz, EO, ↓EP, EQ, EM, ↓reduceIte, Za, Zb, Zc, Zd, Ze, Zf, Zg, Zj, Zk, Zl, Zm, Zn, Zp, Zq, reduceCtorEq, r13, r3, r4, h4]
  exact hK _ f13
 by_cases h5 : at' (em.drop o) ((n - 1 : Nat) : Int) = 188
 rotate_left
 ·have e : pssF m n alg mask s sum (em.drop o) = 112 := by unfold pssF; rw [if_pos (.inr h5)]
  rw [e] at hK
  simp (disch := omega) only [Zu, Zv, Zx, Zz, EO, ↓EP, EQ, EM, ↓reduceIte, Za, Zb, Zc, Zd, Ze, Zf, Zg, Zj, Zk, Zl, Zm, Zn, Zp, Zq, reduceCtorEq, r13, r3, r4, h4, i1, Addr.add_lit, cl, h5]
  exact hK _ f13
 simp (disch := omega) only [Zu, Zv, Zx, Zz, EO, ↓EP, EQ, EM, ↓reduceIte, Za, Zb, Zc, Zd, Ze, Zf, Zg, Zj, Zk, Zl, Zm, Zn, Zp, Zq, reduceCtorEq, r13, r3, r4, h4, i1, Addr.add_lit, cl, h5]
 intro m1
 have ovq : ∃ ov : Nat, ov = 8 * n - m := ⟨_, rfl⟩
 obtain ⟨ov, hov⟩ := ovq
 have hov8 : ov < 8 := by omega
 have hot : (8 * (n : Int) - (m : Int)).toNat = ov := by omega
 have cf : w'.cell? ⟨b, o, none⟩ = some (.int .u8 (at' (em.drop o) 0)) := by
  have := hB.numN (j := o) (by simp; omega)
  rw [Big.at_app (a := em) (b := pad) (k := o) (by omega)] at this
  rw [this, show (0 : Int) = ((0 : Nat) : Int) from rfl, Big.at_drop, Nat.add_zero]
 have bx := (hrb.drop o).at 0
 by_cases h6 : at' (em.drop o) 0 < 2 ^ (8 - ov)
 rotate_left
 ·have e : pssF m n alg mask s sum (em.drop o) = 112 := by
   unfold pssF
   rw [if_neg (fun g => g.elim h4 (fun x => x h5)), if_pos (by rw [← hov]; exact h6)]
  rw [e] at hK
  have h7 : ¬ bits .andNot .u8 (at' (em.drop o) 0) ((255 : Int).fdiv (2 ^ ov)) = 0 := fun g => h6 ((free_not bx hov8).1 g)
  simp (disch := omega) only [Zu, Zv, Zx, Zz, EO, ↓EP, EQ, EM, ↓reduceIte, Za, Zb, Zc, Zd, Ze, Zf, Zg, Zj, Zk, Zl, Zm, Zn, Zp, Zq, reduceCtorEq, r15, hot, cf, h7]
  exact hK _ (f13.nb (fr_drewN' w' m1))
 have h7 : bits .andNot .u8 (at' (em.drop o) 0) ((255 : Int).fdiv (2 ^ ov)) = 0 := (free_not bx hov8).2 h6
 have dlq : ∃ dl : Nat, n - sum.length - 1 = dl ∧ n = sum.length + 1 + dl := ⟨n - sum.length - 1, rfl, by omega⟩
 obtain ⟨dl, hdl, hnd⟩ := dlq
 have hsd : s + 1 ≤ dl := by omega
 have hdl2 : dl ≤ 2048 := by omega
 have hpF : pssF m n alg mask s sum (em.drop o) = if (dbR ov dl (em.drop o) (maskR mask (((em.drop o).drop dl).take sum.length) (dl : Int)).1).take (dl - s) ≠ List.replicate (dl - s - 1) 0 ++ [1] then 112
   else if dig alg (List.replicate 8 0 ++ sum ++ (dbR ov dl (em.drop o) (maskR mask (((em.drop o).drop dl).take sum.length) (dl : Int)).1).drop (dl - s)) ≠ ((em.drop o).drop dl).take sum.length then 112 else 0 := by
  unfold pssF
  rw [if_neg (fun g => g.elim h4 (fun x => x h5)), if_neg (fun x => x (by rw [← hov]; exact h6)), ← hov, hdl, show n - sum.length - 2 - s = dl - s - 1 by omega]
 rw [hpF] at hK
 clear hpF h4 h5 cl
 have i2 : (n : Int) - (sum.length : Int) - 1 = (dl : Int) := by omega
 have i3 : n - 1 - dl = sum.length := by omega
 have i4 : subA (some ⟨b, o, none⟩) cp dl 1 = some ⟨b, o + dl, none⟩ := sub_at (by omega)
 simp (disch := omega) only [Zu, Zv, Zx, Zz, EO, ↓EP, EQ, EM, ↓reduceIte, Za, Zb, Zc, Zd, Ze, Zf, Zg, Zj, Zk, Zl, Zm, Zn, Zp, Zq, reduceCtorEq, r15, hot, cf, h7, r2, i1, i2, i3, i4, Int.toNat_natCast]
 have F1 := fr_drewN' w' m1
 have fw1 := f13.nb F1
 have hT1 : Tb (w'.drewN m1) := hT.fr fw1 (fun x => x) (fun x => x)
 have htl : (((em.drop o).drop dl).take sum.length).length = sum.length := by
  simp only [List.length_take, List.length_drop]
  omega
 have hRt : Rd (w'.drewN m1) (some ⟨b, o + dl, none⟩) (nums .u8 (((em.drop o).drop dl).take sum.length)) := blk_sub (hB.nb F1) (o + dl) sum.length (by rw [sub_list (by omega), List.drop_drop])
 have hml := maskR_l2 c3 (((em.drop o).drop dl).take sum.length) hdl2
 have htb : Byt (((em.drop o).drop dl).take sum.length) := ((hrb.drop o).drop dl).take _
 have hwb : w.heap.size ≤ b := by have := f1.size; omega
 have topq : ∃ top, ((em.drop o).drop dl).take sum.length = top := ⟨_, rfl⟩
 obtain ⟨top, htop⟩ := topq
 rw [htop] at hK htl hRt hml htb
 have veq : ∃ veil, (maskR mask top (dl : Int)).1 = veil := ⟨_, rfl⟩
 obtain ⟨veil, hvl⟩ := veq
 rw [hvl] at hK hml
 refine mask_n (seed := top) hT1 htl (by omega) hRt (by omega) fun v4 w4 h4 u4 f4 => ?_
 rw [hvl] at h4
 have h4q := h4
 obtain ⟨A4, c4, rfl, hc4, hr4⟩ := h4q
 rw [hml.1] at hc4
 have fw4 := fw1.nb f4
 have hB4 := (hB.nb F1).nb f4
 simp (disch := omega) only [Zu, Zv, Zx, Zz, EO, ↓EP, EQ, EM, ↓reduceIte, Za, Zb, Zc, Zd, Ze, Zf, Zg, Zj, Zk, Zl, Zm, Zn, Zp, Zq, reduceCtorEq, hml.1]
 have vg := hr4.get (by rw [nums_length, hml.1]; omega)
 obtain ⟨ad4, ea4, hlt4, _⟩ := vg
 subst ea4
 have hvb : ad4.block ≠ b := fun e => by
  have := u4 ad4.block rfl
  have := (hB.nb F1).lt
  omega
 refine loop_inv (fun t ρ w9 => ∃ (i : Nat) (L : List Int), ρ 122 = .int .i64 i ∧ i ≤ dl ∧ t = dl - i ∧ Xd (em ++ pad) veil L o i ∧ Blk w9 b (nums .u8 L) ∧ Fr w4 w9 (fun x => x = b)) dl
  ⟨0, _, by simp (disch := omega) only [Zu, Zv, Zx, Zz, EO, ↓EP, EQ, EM, ↓reduceIte, Za, Zb, Zc, Zd, Ze, Zf, Zg, Zj, Zk, Zl, Zm, Zn, Zp, Zq, reduceCtorEq], by omega, rfl, Xd.zero _ _ _, hB4, Fr.refl _ _⟩ ?_
 rintro t ρ w9 hf ⟨i, L, h122, hi, rfl, hX, hB9, f9⟩ M hM
 have q19 : ρ 19 = .slice (some ⟨b, o, none⟩) dl cp := by rw [hf 19 rfl]; simp (disch := omega) only [Zu, Zv, Zx, Zz, EO, ↓EP, EQ, EM, ↓reduceIte, Za, Zb, Zc, Zd, Ze, Zf, Zg, Zj, Zk, Zl, Zm, Zn, Zp, Zq, reduceCtorEq, r13, r4, r15, hot, i1, i2, i3, i4, Int.toNat_natCast]
 have q121 : ρ 121 = .int .i64 dl := by rw [hf 121 rfl]; simp (disch := omega) only [Zu, Zv, Zx, Zz, EO, ↓EP, EQ, EM, ↓reduceIte, Za, Zb, Zc, Zd, Ze, Zf, Zg, Zj, Zk, Zl, Zm, Zn, Zp, Zq, reduceCtorEq, r13, r4, r15, hot, i1, i2, i3, i4, Int.toNat_natCast]
 have q22 : ρ 22 = .slice (some ad4) dl c4 := by rw [hf 22 rfl]; simp (disch := omega) only [Zu, Zv, Zx, Zz, EO, ↓EP, EQ, EM, ↓reduceIte, Za, Zb, Zc, Zd, Ze, Zf, Zg, Zj, Zk, Zl, Zm, Zn, Zp, Zq, reduceCtorEq]
 have q20 : ρ 20 = .slice (some ⟨b, o + dl, none⟩) sum.length (cp - dl) := by rw [hf 20 rfl]; simp (disch := omega) only [Zu, Zv, Zx, Zz, EO, ↓EP, EQ, EM, ↓reduceIte, Za, Zb, Zc, Zd, Ze, Zf, Zg, Zj, Zk, Zl, Zm, Zn, Zp, Zq, reduceCtorEq, r13, r4, r15, hot, i1, i2, i3, i4, Int.toNat_natCast]
 have q21 : ρ 21 = .int .u8 ((255 : Int).fdiv (2 ^ ov)) := by rw [hf 21 rfl]; simp (disch := omega) only [Zu, Zv, Zx, Zz, EO, ↓EP, EQ, EM, ↓reduceIte, Za, Zb, Zc, Zd, Ze, Zf, Zg, Zj, Zk, Zl, Zm, Zn, Zp, Zq, reduceCtorEq, r13, r4, r15, hot, i1, i2, i3, i4, Int.toNat_natCast]
 have q3 : ρ 3 = .int .i64 s := by rw [hf 3 rfl]; simp (disch := omega) only [Zu, Zv, Zx, Zz, EO, ↓EP, EQ, EM, ↓reduceIte, Za, Zb, Zc, Zd, Ze, Zf, Zg, Zj, Zk, Zl, Zm, Zn, Zp, Zq, reduceCtorEq, r3]
 have q1 : ρ 1 = .int .i64 alg := by rw [hf 1 rfl]; simp (disch := omega) only [Zu, Zv, Zx, Zz, EO, ↓EP, EQ, EM, ↓reduceIte, Za, Zb, Zc, Zd, Ze, Zf, Zg, Zj, Zk, Zl, Zm, Zn, Zp, Zq, reduceCtorEq, r1]
 have q4 : ρ 4 = .slice D sum.length q := by rw [hf 4 rfl]; simp (disch := omega) only [Zu, Zv, Zx, Zz, EO, ↓EP, EQ, EM, ↓reduceIte, Za, Zb, Zc, Zd, Ze, Zf, Zg, Zj, Zk, Zl, Zm, Zn, Zp, Zq, reduceCtorEq, r4]
 clear hf
 have hr9 : Rd w9 (some ad4) (nums .u8 veil) := hr4.fr f9 (.inr fun p e x => by cases e; exact hvb x)
 by_cases hil : (i : Int) < (dl : Int)
 ·have cv : w9.cell? (ad4.add i) = some (.int .u8 (at' veil (i : Int))) := by
   have vg := hr9.get (by rw [nums_length, hml.1]; omega)
   obtain ⟨ad5, ea5, _, hcl5⟩ := vg
   cases ea5
   exact hcl5.numN (by rw [hml.1]; omega)
  have cL : w9.cell? ⟨b, o + i, none⟩ = some (.int .u8 (at' L ((o + i : Nat) : Int))) := hB9.numN (by rw [hX.1]; simp; omega)
  simp (disch := omega) only [Zu, Zv, Zx, Zz, EO, ↓EP, EQ, EM, ↓reduceIte, Za, Zb, Zc, Zd, Ze, Zf, Zg, Zj, Zk, Zl, Zm, Zn, Zp, Zq, reduceCtorEq, h122, q121, q19, q22, hil, Addr.add_lit, cL, cv]
  intro m2
  refine st_num (hB9.nb (fr_drewN' w9 m2)) (by rw [hX.1]; simp; omega) fun w10 p10 => ?_
  simp (disch := omega) only [Zu, Zv, Zx, Zz, EO, ↓EP, EQ, EM, ↓reduceIte, Za, Zb, Zc, Zd, Ze, Zf, Zg, Zj, Zk, Zl, Zm, Zn, Zp, Zq, reduceCtorEq, h122]
  refine hM (dl - (i + 1)) _ _ (by omega) ⟨i + 1, _, by simp (disch := omega) only [Zu, Zv, Zx, Zz, EO, ↓EP, EQ, EM, ↓reduceIte, Za, Zb, Zc, Zd, Ze, Zf, Zg, Zj, Zk, Zl, Zm, Zn, Zp, Zq, reduceCtorEq, h122, Int.natCast_add], by omega, rfl, hX.step (by simp; omega), p10.blk, ?_⟩
  exact (f9.trans (fr_drewN' w9 m2) fun _ _ e => e.elim).trans p10.fr fun x _ e => e
 have hid : i = dl := by omega
 rw [hid] at h122 hX
 clear hM hil hi
 have cL : w9.cell? ⟨b, o, none⟩ = some (.int .u8 (at' L (o : Int))) := hB9.numN (by rw [hX.1]; simp; omega)
 simp (disch := omega) only [Zu, Zv, Zx, Zz, EO, ↓EP, EQ, EM, ↓reduceIte, Za, Zb, Zc, Zd, Ze, Zf, Zg, Zj, Zk, Zl, Zm, Zn, Zp, Zq, reduceCtorEq, h122, q121, q19, q21, cL]
 refine st_num hB9 (by rw [hX.1]; simp; omega) fun w10 p10 => ?_
 have f10 : Fr w4 w10 (fun x => x = b) := f9.trans p10.fr fun x _ e => e
 have fw10 : Fr w w10 nob := fw4.trans f10 fun x hx e => by
  have e : x = b := e
  omega
 have hB10 := p10.blk
 have hdb := hX.done (ov := ov) (by omega) (by omega)
 have hrs := hX.rest (x := bits .and .u8 (at' L (o : Int)) ((255 : Int).fdiv (2 ^ ov))) (h := sum.length) (by omega) (by omega)
 rw [htop] at hrs
 have i5 : (dl : Int) - (s : Int) = ((dl - s : Nat) : Int) := by omega
 have i6 : dl - (dl - s) = s := by omega
 have i7 : subA (some ⟨b, o, none⟩) cp (dl - s) 1 = some ⟨b, o + (dl - s), none⟩ := sub_at (by omega)
 have i8 : ((dl - s : Nat) : Int).toNat = dl - s := Int.toNat_natCast _
 simp (disch := omega) only [Zu, Zv, Zx, Zz, EO, ↓EP, EQ, EM, ↓reduceIte, Za, Zb, Zc, Zd, Ze, Zf, Zg, Zj, Zk, Zl, Zm, Zn, Zp, Zq, reduceCtorEq, h122, q121, q19, q21, q3, i5, i6, i7, i8]
 intro m3
 have F3 := fr_drewN' w10 m3
 have fw3 := fw10.nb F3
 have hB11 := hB10.nb F3
 have DBq : ∃ DB, dbR ov dl (em.drop o) veil = DB := ⟨_, rfl⟩
 obtain ⟨DB, hDB⟩ := DBq
 have hDl : DB.length = dl := by rw [← hDB, dbR_len]
 rw [hDB] at hK hdb
 have hHd : Rd (w10.drewN m3) (some ⟨b, o, none⟩) (nums .u8 (DB.take (dl - s))) := blk_sub hB11 o (dl - s) (by rw [← hdb, List.take_take, Nat.min_eq_left (by omega)])
 have hSl : Rd (w10.drewN m3) (some ⟨b, o + (dl - s), none⟩) (nums .u8 (DB.drop (dl - s))) := blk_sub hB11 (o + (dl - s)) s (by rw [← hdb, List.drop_take, List.drop_drop, i6])
 have hHl : (DB.take (dl - s)).length = dl - s := by rw [List.length_take, hDl]; omega
 refine trim_k (Vw.of hHl (by omega) hHd) (by omega) fun v5 h5 => ?_
 have h5q := h5
 obtain ⟨A5, c5, rfl, hc5, hr5⟩ := h5q
 have hone := trim_one (DB.take (dl - s))
 rw [hHl] at hone
 have bad : DB.take (dl - s) ≠ List.replicate (dl - s - 1) 0 ++ [1] → K (.int .i64 112) (w10.drewN m3) := fun g => by
  rw [if_pos g] at hK
  exact hK _ fw3
 by_cases e1 : ((trimR (DB.take (dl - s))).length : Int) = 1
 rotate_left
 ·simp (disch := omega) only [Zu, Zv, Zx, Zz, EO, ↓EP, EQ, EM, ↓reduceIte, Za, Zb, Zc, Zd, Ze, Zf, Zg, Zj, Zk, Zl, Zm, Zn, Zp, Zq, reduceCtorEq, e1]
  exact bad fun g => e1 (by rw [hone.2 g]; rfl)
 have vg := hr5.get (by rw [nums_length]; omega)
 obtain ⟨ad5, ea5, _, hcl5⟩ := vg
 subst ea5
 have c50 : (w10.drewN m3).cell? (ad5.add 0) = some (.int .u8 (at' (trimR (DB.take (dl - s))) 0)) := hcl5.numN (j := 0) (by omega)
 by_cases e2 : at' (trimR (DB.take (dl - s))) 0 = 1
 rotate_left
 ·simp (disch := omega) only [Zu, Zv, Zx, Zz, EO, ↓EP, EQ, EM, ↓reduceIte, Za, Zb, Zc, Zd, Ze, Zf, Zg, Zj, Zk, Zl, Zm, Zn, Zp, Zq, reduceCtorEq, e1, c50, e2]
  exact bad fun g => e2 (by rw [hone.2 g]; rfl)
 have e3q : trimR (DB.take (dl - s)) = [1] := one_of (by omega) e2
 rw [if_neg (fun g => g (hone.1 e3q))] at hK
 clear bad
 simp (disch := omega) only [Zu, Zv, Zx, Zz, EO, ↓EP, EQ, EM, ↓reduceIte, Za, Zb, Zc, Zd, Ze, Zf, Zg, Zj, Zk, Zl, Zm, Zn, Zp, Zq, reduceCtorEq, e1, c50, e2]
 refine al_k (nums .u8 (List.replicate 8 0)) (by kernel_rfl) fun w12 n12 => ?_
 have F12 := n12.fr nob
 simp (disch := omega) only [Zu, Zv, Zx, Zz, EO, ↓EP, EQ, EM, ↓reduceIte, Za, Zb, Zc, Zd, Ze, Zf, Zg, Zj, Zk, Zl, Zm, Zn, Zp, Zq, reduceCtorEq, q1, q4, q19, q121, q3, i5, i6, i7, i8]
 refine bslS3 fun w13 n13 => ?_
 have F13 := F12.nb (n13.fr nob)
 have fw13 := fw3.nb F13
 have hT13 : Tb w13 := hT.fr fw13 (fun x => x) (fun x => x)
 have L13 : LL w13 (some ⟨w12.heap.size, 0, none⟩) [List.replicate 8 0, sum, DB.drop (dl - s)] [.slice (some ⟨(w10.drewN m3).heap.size, 0, none⟩) 8 8, .slice D sum.length q, .slice (some ⟨b, o + (dl - s), none⟩) s (cp - (dl - s))] :=
  ll3 (n13.blk.rd 0 (n := 3) rfl) (by simp) (by omega) (n12.rdl.nb (n13.fr nob)) rfl hq (ht.nb fw13) (by rw [List.length_drop, hDl]; exact i6) (by omega) (hSl.nb F13)
 simp (disch := omega) only [Zu, Zv, Zx, Zz, EO, ↓EP, EQ, EM, ↓reduceIte, Za, Zb, Zc, Zd, Ze, Zf, Zg, Zj, Zk, Zl, Zm, Zn, Zp, Zq, reduceCtorEq, q1]
 have ha14 := alg_14 (alg := alg) (by omega)
 refine dsum_spec alg (l := [List.replicate 8 0, sum, DB.drop (dl - s)]) L13 hT13 (by simp [total]; omega) (by simp) _ (fun _ _ B6 c6 w6 hc6 s6 u6 f6 => ?_) (fun h => absurd h (by omega))
 simp (disch := omega) only [Zu, Zv, Zx, Zz, EO, ↓EP, EQ, EM, ↓reduceIte, Za, Zb, Zc, Zd, Ze, Zf, Zg, Zj, Zk, Zl, Zm, Zn, Zp, Zq, reduceCtorEq, q20]
 have fw6 := fw13.nb f6
 have hfl : [List.replicate 8 0, sum, DB.drop (dl - s)].flatten = List.replicate 8 0 ++ sum ++ DB.drop (dl - s) := by simp
 rw [hfl] at s6
 have hRt2 : Rd w6 (some ⟨b, o + dl, none⟩) (nums .u8 top) := (blk_sub hB11 (o + dl) sum.length hrs).nb (F13.nb f6)
 have V1 := s6.vw
 have V2 : Vw .u8 w6 (.slice (some ⟨b, o + dl, none⟩) sum.length (cp - dl)) top := Vw.of htl (by omega) hRt2
 have hbd := dig_byt alg (List.replicate 8 0 ++ sum ++ DB.drop (dl - s))
 refine equal_k V1 V2 hbd htb ?_
 simp (disch := omega) only [Zu, Zv, Zx, Zz, EO, ↓EP, EQ, EM, ↓reduceIte, Za, Zb, Zc, Zd, Ze, Zf, Zg, Zj, Zk, Zl, Zm, Zn, Zp, Zq, reduceCtorEq]
 exact pick_k (hK _ fw6)
end Go.Proofs.YtcgplgpdcfocpaaGreatDoor.Der
end
section
namespace Go.Proofs.YtcgplgpdcfocpaaGreatDoor.Der
open Go Go.RowKit Go.Proofs Go.Proofs.YtcgplgpdcfocpaaGreatDoor.Eng Go.Proofs.YtcgplgpdcfocpaaGreatDoor.Code
attribute [local irreducible] callK S.W opsW scrW scrT
open Go.Proofs.YtcgplgpdcfocpaaGreatDoor.Spec Go.Proofs.YtcgplgpdcfocpaaGreatDoor.Big
attribute [local irreducible] checkR sizeK rawR maskR dig dbR pssF dbB
theorem rmask_n {alg n : Int} {seed : List Int} {h : Nat} {A : Option Addr} {c : Nat} {w : World} (hl : seed.length = h) (hc : h ≤ c) (hr : Rd w A (nums .u8 seed)) (hseed : h ≤ 16777000) (hbt : Byt seed) {K : Value → World → Prop}
  (hK : ∀ v w', Vw .u8 w' v (maskR alg seed n).1 → Fr w w' nob → K (.tuple #[v, .int .i64 (maskR alg seed n).2]) w') : callK Tryz.prog 42 [.int .i64 alg, .slice A h c, .int .i64 n] w K := by
 subst hl
 exact rmask_vw hc hr hseed hbt hK
theorem dbR_zero (ov : Nat) (em veil : List Int) : dbR ov 0 em veil = [] := by unfold dbR; rfl
theorem db_nil (ov : Nat) (em veil : List Int) (w : World) : Gw .u8 w w (.slice none 0 0) (dbR ov 0 em veil) := by rw [dbR_zero]; exact Gw.nil _ _
theorem free_tope {x : Int} {o : Nat} (hx : 0 ≤ x ∧ x < 256) (ho : o < 8) : (x / 2 ^ (8 - o) = 0) ↔ x < 2 ^ (8 - o) := by
 have h := free_top hx ho
 rwa [Int.fdiv_eq_ediv_of_nonneg _ (Int.le_of_lt (Int.pow_pos (by decide)))] at h
theorem db_zeroe {ov : Nat} {em veil : List Int} (ho : ov < 8) (he : 0 ≤ at' em 0 ∧ at' em 0 < 256) (hv : 0 ≤ at' veil 0 ∧ at' veil 0 < 256) : IntKind.u8.wrap (bits .xor .u8 (at' em 0) (at' veil 0) * 2 ^ ov) / 2 ^ ov = dbB ov em veil 0 := by
 have h := free_cut (xor_byt he hv) ho
 rw [Int.fdiv_eq_ediv_of_nonneg _ (Int.le_of_lt (Int.pow_pos (by decide)))] at h
 unfold dbB
 rw [if_pos rfl]
 exact h
theorem db_zero {ov : Nat} {em veil : List Int} (ho : ov < 8) (he : 0 ≤ at' em 0 ∧ at' em 0 < 256) (hv : 0 ≤ at' veil 0 ∧ at' veil 0 < 256) : (IntKind.u8.wrap (bits .xor .u8 (at' em 0) (at' veil 0) * 2 ^ ov)).fdiv (2 ^ ov) = dbB ov em veil 0 := by
 unfold dbB
 rw [if_pos rfl]
 exact free_cut (xor_byt he hv) ho
theorem db_succ {ov i : Nat} {em veil : List Int} (h : 0 < i) : bits .xor .u8 (at' em (i : Int)) (at' veil (i : Int)) = dbB ov em veil i := by
 unfold dbB
 rw [if_neg (by omega)]
theorem head_is {DB : List Int} {k : Nat} (hk : k < DB.length) : DB.take (k + 1) = List.replicate k 0 ++ [1] ↔ (∀ j : Nat, j < k → at' DB j = 0) ∧ at' DB k = 1 := by
 constructor
 ·intro h
  refine ⟨fun j hj => ?_, ?_⟩
  ·have := congrArg (fun l => at' l (j : Int)) h
   have this : at' (DB.take (k + 1)) (j : Int) = at' (List.replicate k 0 ++ [1]) (j : Int) := this
   have hz : at' (List.replicate k (0 : Int)) (j : Int) = 0 := by
    rw [Big.at_get (by simpa using hj)]
    simp
   rw [Big.at_take (by omega), Big.at_app (by simpa using hj), hz] at this
   exact this
  ·have e : (List.replicate k (0 : Int) ++ [1])[k]? = some 1 := by
    rw [List.getElem?_append_right (by simp)]
    simp
   rw [← h, List.getElem?_take, if_pos (by omega), List.getElem?_eq_getElem hk] at e
   rw [Big.at_get hk]
   exact Option.some.inj e
 ·rintro ⟨h1, h2⟩
  apply List.ext_getElem
  ·simp only [List.length_take, List.length_append, List.length_replicate, List.length_cons, List.length_nil]
   omega
  ·intro j g1 g2
   have hj : j < k + 1 := by
    simp only [List.length_take] at g1
    omega
   rw [← Big.at_get g1, Big.at_take hj]
   by_cases e : j < k
   ·rw [h1 j e, List.getElem_append_left (by simpa using e)]
    simp
   ·obtain rfl : j = k := by omega
    rw [h2, List.getElem_append_right (by simp)]
    simp
set_option maxHeartbeats 16000000 in
theorem rvpss_k {w : World} {vN vE v v2 : Value} {N E sig sum : List Int} {alg mask salt : Int} (hN : Vw .u32 w vN N) (hE : Vw .u32 w vE E) (lN : Lim N) (lE : Lim E) (nN : N.length ≤ 4194304) (nE : E.length ≤ 4194304) (hsl : -9223372036854775808 ≤ salt ∧ salt ≤ 9223372036854775807) (hv : Vw .u8 w v sum) (hb : Byt sum) (h63 : sum.length ≤ 9223372036854775807) (hv2 : Vw .u8 w v2 sig) (hb2 : Byt sig) (h64 : sig.length ≤ 9223372036854775807) {K : Value → World → Prop}
  (hK : ∀ w', Fr w w' nob → K (.int .i64 (pssR N E alg mask salt sum sig)) w') : callK Tryz.prog 20 [.agg #[vN, vE], .int .i64 alg, .int .i64 mask, .int .i64 salt, v, v2] w K := by
 refine call_of Tryz.func20 Code.h20 (by simp [Code.c20]) ?_
 have hN0 := hN
 have hE0 := hE
 have hv0 := hv
 have hv20 := hv2
 obtain ⟨A, c, rfl, hc, hr⟩ := hN0
 obtain ⟨B, d, rfl, hd, hs⟩ := hE0
 obtain ⟨D, q, rfl, hq, ht⟩ := hv0
 obtain ⟨D2, q2, rfl, hq2, ht2⟩ := hv20
 have hz := sizeI_nn alg
 have hzm := sizeI_nn mask
 have hrl := rawR_len (N := N) (E := E) (sig := sig)
 have hrb := raw_byt (N := N) (E := E) (sig := sig)
 simp (disch := omega) only [Zu, Zv, Zx, Zz, EO, ↓EP, EQ, EM, ↓reduceIte, Za, Zb, Zc, Zd, Ze, Zf, Zg, Zj, Zk, Zl, Zm, Zn, Zp, Zq, reduceCtorEq, Code.c20]
 refine al_k [.slice A N.length c, .slice B E.length d] rfl fun w1 n1 => ?_
 have f1 := n1.fr nob
 simp (disch := omega) only [Zu, Zv, Zx, Zz, EO, ↓EP, EQ, EM, ↓reduceIte, Za, Zb, Zc, Zd, Ze, Zf, Zg, Zj, Zk, Zl, Zm, Zn, Zp, Zq, reduceCtorEq]
 have bad1 : (sizeI alg = 0 ∨ (sum.length : Int) ≠ sizeI alg ∨ sizeI mask = 0 ∨ salt < 0) → K (.int .i64 1) w1 := fun h => by
  have e : pssR N E alg mask salt sum sig = 1 := if_pos h
  rw [e] at hK
  exact hK _ f1
 refine rsize_k alg _ _ ?_
 by_cases c0 : sizeI alg = 0
 ·simp (disch := omega) only [Zu, Zv, Zx, Zz, EO, ↓EP, EQ, EM, ↓reduceIte, Za, Zb, Zc, Zd, Ze, Zf, Zg, Zj, Zk, Zl, Zm, Zn, Zp, Zq, reduceCtorEq, c0]
  exact bad1 (.inl c0)
 simp (disch := omega) only [Zu, Zv, Zx, Zz, EO, ↓EP, EQ, EM, ↓reduceIte, Za, Zb, Zc, Zd, Ze, Zf, Zg, Zj, Zk, Zl, Zm, Zn, Zp, Zq, reduceCtorEq, c0]
 refine rsize_k alg _ _ ?_
 by_cases c2 : (sum.length : Int) = sizeI alg
 rotate_left
 ·simp (disch := omega) only [Zu, Zv, Zx, Zz, EO, ↓EP, EQ, EM, ↓reduceIte, Za, Zb, Zc, Zd, Ze, Zf, Zg, Zj, Zk, Zl, Zm, Zn, Zp, Zq, reduceCtorEq, c0, c2]
  exact bad1 (.inr (.inl c2))
 simp (disch := omega) only [Zu, Zv, Zx, Zz, EO, ↓EP, EQ, EM, ↓reduceIte, Za, Zb, Zc, Zd, Ze, Zf, Zg, Zj, Zk, Zl, Zm, Zn, Zp, Zq, reduceCtorEq, c0, c2]
 refine rsize_k mask _ _ ?_
 by_cases c3 : sizeI mask = 0
 ·simp (disch := omega) only [Zu, Zv, Zx, Zz, EO, ↓EP, EQ, EM, ↓reduceIte, Za, Zb, Zc, Zd, Ze, Zf, Zg, Zj, Zk, Zl, Zm, Zn, Zp, Zq, reduceCtorEq, c0, c2, c3]
  exact bad1 (.inr (.inr (.inl c3)))
 by_cases c4 : salt < 0
 ·simp (disch := omega) only [Zu, Zv, Zx, Zz, EO, ↓EP, EQ, EM, ↓reduceIte, Za, Zb, Zc, Zd, Ze, Zf, Zg, Zj, Zk, Zl, Zm, Zn, Zp, Zq, reduceCtorEq, c0, c2, c3, c4]
  exact bad1 (.inr (.inr (.inr c4)))
 simp (disch := omega) only [Zu, Zv, Zx, Zz, EO, ↓EP, EQ, EM, ↓reduceIte, Za, Zb, Zc, Zd, Ze, Zf, Zg, Zj, Zk, Zl, Zm, Zn, Zp, Zq, reduceCtorEq, c0, c2, c3, c4]
 refine n1.blk.ldAgg rfl ?_
 simp (disch := omega) only [Zu, Zv, Zx, Zz, EO, ↓EP, EQ, EM, ↓reduceIte, Za, Zb, Zc, Zd, Ze, Zf, Zg, Zj, Zk, Zl, Zm, Zn, Zp, Zq, reduceCtorEq]
 refine rraw_k (hN.nb f1) (hE.nb f1) lN lE nN nE (hv2.nb f1) hb2 h64 fun v3 w3 g3 => ?_
 have f13 := f1.nb g3.fr
 obtain ⟨A3, c3', rfl, hc3, hr3, _⟩ := g3.sl.read
 by_cases h0 : (rawR N E sig).2 = 0
 rotate_left
 ·have e : pssR N E alg mask salt sum sig = (rawR N E sig).2 := by unfold pssR; rw [if_neg (by omega), if_pos h0]
  rw [e] at hK
  simp (disch := omega) only [Zu, Zv, Zx, Zz, EO, ↓EP, EQ, EM, ↓reduceIte, Za, Zb, Zc, Zd, Ze, Zf, Zg, Zj, Zk, Zl, Zm, Zn, Zp, Zq, reduceCtorEq, pr2, h0]
  exact hK _ f13
 obtain ⟨hbl, hbu, hlen⟩ := raw_sz lN h0
 have hR : pssR N E alg mask salt sum sig = pssE (bl (val N) - 1) ((bl (val N) - 1 + 7) / 8) alg mask salt.toNat sum (rawR N E sig).1 := by
  unfold pssR
  rw [if_neg (by omega), if_neg (by omega)]
 rw [hR] at hK
 clear hR bad1
 have hk0 : ∀ w', Fr w3 w' nob → w'.cell? ⟨w.heap.size, 0, none⟩ = some (.slice A N.length c) := fun w' f => ((n1.blk.nb g3.fr).nb f).has 0 _ rfl
 have k0 := hk0 w3 (Fr.refl _ _)
 generalize hem : (rawR N E sig).1 = em at *
 generalize hBL : bl (val N) = BL at *
 obtain ⟨m, hm⟩ : ∃ m : Nat, BL = m + 1 := ⟨BL - 1, by omega⟩
 subst hm
 obtain ⟨n, hn⟩ : ∃ n : Nat, n = (m + 7) / 8 := ⟨_, rfl⟩
 have hmn : m + 1 - 1 = m := by omega
 rw [hmn, ← hn] at hK
 simp (disch := omega) only [Zu, Zv, Zx, Zz, EO, ↓EP, EQ, EM, ↓reduceIte, Za, Zb, Zc, Zd, Ze, Zf, Zg, Zj, Zk, Zl, Zm, Zn, Zp, Zq, reduceCtorEq, pr2, h0, k0]
 refine rbits_vw (hN.nb f13) lN (by omega) _ fun w4 f4 => ?_
 rw [hBL]
 have f14 := f13.nb f4
 have hr4 := hr3.nb f4
 have hdiv : ((↑(m + 1) : Int) - 1 + 7).tdiv 8 = (n : Int) := by
  rw [Int.tdiv_eq_ediv_of_nonneg (by omega)]
  omega
 simp (disch := omega) only [Zu, Zv, Zx, Zz, EO, ↓EP, EQ, EM, ↓reduceIte, Za, Zb, Zc, Zd, Ze, Zf, Zg, Zj, Zk, Zl, Zm, Zn, Zp, Zq, reduceCtorEq, hdiv]
 refine rsize_k alg _ _ ?_
 simp (disch := omega) only [Zu, Zv, Zx, Zz, EO, ↓EP, EQ, EM, ↓reduceIte, Za, Zb, Zc, Zd, Ze, Zf, Zg, Zj, Zk, Zl, Zm, Zn, Zp, Zq, reduceCtorEq, hdiv, W_joinT]
 refine join_cut (fun ρ' w' => w' = w4 ∧ ∃ (A' : Option Addr) (c' : Nat) (E' : List Int), ρ' 13 = .slice A' n c' ∧ n ≤ c' ∧ Rd w4 A' (nums .u8 E') ∧ E'.length = n ∧ Byt E' ∧ pssE m n alg mask salt.toNat sum em = pssF m n alg mask salt.toNat sum E') ?_ ?_
 ·intro M hM
  have vg := hr4.get (by rw [nums_length]; omega)
  obtain ⟨ad, ea, _, hcl⟩ := vg
  have hr4' := hr4
  rw [ea] at hr4'
  have ce0 : w4.cell? (ad.add 0) = some (.int .u8 (at' em 0)) := hcl.numN (j := 0) (by omega)
  by_cases hbig : (n : Int) < (em.length : Int)
  ·by_cases hz0 : at' em 0 = 0
   ·simp (disch := omega) only [Zu, Zv, Zx, Zz, EO, ↓EP, EQ, EM, ↓reduceIte, Za, Zb, Zc, Zd, Ze, Zf, Zg, Zj, Zk, Zl, Zm, Zn, Zp, Zq, reduceCtorEq, hdiv, hbig, ea, ce0, hz0]
    refine hM _ _ ⟨rfl, subA (some ad) c3' 1 1, c3' - 1, em.drop 1, ?_, by omega, hr4'.subA c3' 1 hc3, by rw [List.length_drop]; omega, hrb.drop 1, ?_⟩
    ·simp (disch := omega) only [Zu, Zv, Zx, Zz, EO, ↓EP, EQ, EM, ↓reduceIte, Za, Zb, Zc, Zd, Ze, Zf, Zg, Zj, Zk, Zl, Zm, Zn, Zp, Zq, reduceCtorEq, ea]
     rw [show em.length - 1 = n by omega]
    ·unfold pssE
     rw [if_neg (fun g => g.2 hz0), if_pos (by omega)]
   ·have e : pssE m n alg mask salt.toNat sum em = 112 := by
     unfold pssE
     rw [if_pos ⟨by omega, hz0⟩]
    rw [e] at hK
    simp (disch := omega) only [Zu, Zv, Zx, Zz, EO, ↓EP, EQ, EM, ↓reduceIte, Za, Zb, Zc, Zd, Ze, Zf, Zg, Zj, Zk, Zl, Zm, Zn, Zp, Zq, reduceCtorEq, hdiv, hbig, ea, ce0, hz0]
    exact hK _ f14
  ·simp (disch := omega) only [Zu, Zv, Zx, Zz, EO, ↓EP, EQ, EM, ↓reduceIte, Za, Zb, Zc, Zd, Ze, Zf, Zg, Zj, Zk, Zl, Zm, Zn, Zp, Zq, reduceCtorEq, hdiv, hbig]
   refine hM _ _ ⟨rfl, A3, c3', em, ?_, by omega, hr4, by omega, hrb, ?_⟩
   ·simp (disch := omega) only [Zu, Zv, Zx, Zz, EO, ↓EP, EQ, EM, ↓reduceIte, Za, Zb, Zc, Zd, Ze, Zf, Zg, Zj, Zk, Zl, Zm, Zn, Zp, Zq, reduceCtorEq]
    rw [show em.length = n by omega]
   ·unfold pssE
    rw [if_neg (fun g => by omega), if_neg (by omega)]
 rintro ρ' w' hf ⟨rfl, A', c', E', r13, hnc, hrE, hEl, hEb, hpe⟩
 rw [hpe] at hK
 clear hpe
 have r3 : ρ' 3 = .int .i64 salt := by rw [hf 3 rfl]; simp (disch := omega) only [Zu, Zv, Zx, Zz, EO, ↓EP, EQ, EM, ↓reduceIte, Za, Zb, Zc, Zd, Ze, Zf, Zg, Zj, Zk, Zl, Zm, Zn, Zp, Zq, reduceCtorEq]
 have r1 : ρ' 1 = .int .i64 alg := by rw [hf 1 rfl]; simp (disch := omega) only [Zu, Zv, Zx, Zz, EO, ↓EP, EQ, EM, ↓reduceIte, Za, Zb, Zc, Zd, Ze, Zf, Zg, Zj, Zk, Zl, Zm, Zn, Zp, Zq, reduceCtorEq]
 have r2 : ρ' 2 = .int .i64 mask := by rw [hf 2 rfl]; simp (disch := omega) only [Zu, Zv, Zx, Zz, EO, ↓EP, EQ, EM, ↓reduceIte, Za, Zb, Zc, Zd, Ze, Zf, Zg, Zj, Zk, Zl, Zm, Zn, Zp, Zq, reduceCtorEq]
 have r4 : ρ' 4 = .slice D sum.length q := by rw [hf 4 rfl]; simp (disch := omega) only [Zu, Zv, Zx, Zz, EO, ↓EP, EQ, EM, ↓reduceIte, Za, Zb, Zc, Zd, Ze, Zf, Zg, Zj, Zk, Zl, Zm, Zn, Zp, Zq, reduceCtorEq]
 have r16 : ρ' 16 = .int .i64 (n : Int) := by
  rw [hf 16 rfl]
  simp (disch := omega) only [Zu, Zv, Zx, Zz, EO, ↓EP, EQ, EM, ↓reduceIte, Za, Zb, Zc, Zd, Ze, Zf, Zg, Zj, Zk, Zl, Zm, Zn, Zp, Zq, reduceCtorEq]
  congr 1
  omega
 have r17 : ρ' 17 = .int .i64 (sizeI alg) := by rw [hf 17 rfl]; simp (disch := omega) only [Zu, Zv, Zx, Zz, EO, ↓EP, EQ, EM, ↓reduceIte, Za, Zb, Zc, Zd, Ze, Zf, Zg, Zj, Zk, Zl, Zm, Zn, Zp, Zq, reduceCtorEq]
 rw [← c2] at r17
 have r15 : ρ' 15 = .int .i64 (m : Int) := by
  rw [hf 15 rfl]
  simp (disch := omega) only [Zu, Zv, Zx, Zz, EO, ↓EP, EQ, EM, ↓reduceIte, Za, Zb, Zc, Zd, Ze, Zf, Zg, Zj, Zk, Zl, Zm, Zn, Zp, Zq, reduceCtorEq]
  congr 1
  omega
 clear hf
 have sq : ∃ s : Nat, salt = (s : Int) ∧ salt.toNat = s := ⟨salt.toNat, by omega, rfl⟩
 obtain ⟨s, es, hs0⟩ := sq
 rw [hs0] at hK
 rw [es] at r3
 have hh : sum.length ≤ 64 := by omega
 have vg := hrE.get (by rw [nums_length]; omega)
 obtain ⟨ad, ea, hlt, hcl⟩ := vg
 rw [ea] at r13 hrE
 have cl : w'.cell? (ad.add (n - 1)) = some (.int .u8 (at' E' ((n - 1 : Nat) : Int))) := hcl.numN (by omega)
 have i1 : ((n : Int) - 1).toNat = n - 1 := by omega
 have p1 : ((n : Int) - sum.length - 2 < s ∨ at' E' ((n - 1 : Nat) : Int) ≠ 188) → K (.int .i64 112) w' := fun h => by
  have e : pssF m n alg mask s sum E' = 112 := by unfold pssF; rw [if_pos h]
  rw [e] at hK
  exact hK _ f14
 by_cases h3 : (n : Int) < s
 ·simp (disch := omega) only [Zu, Zv, Zx, Zz, EO, ↓EP, EQ, EM, ↓reduceIte, Za, Zb, Zc, Zd, Ze, Zf, Zg, Zj, Zk, Zl, Zm, Zn, Zp, Zq, reduceCtorEq, r13, r3, r16, r17, h3]
  exact p1 (.inl (by omega))
 by_cases h4 : (n : Int) < (sum.length : Int) + s + 2
 ·simp (disch := omega) only [Zu, Zv, Zx, Zz, EO, ↓EP, EQ, EM, ↓reduceIte, Za, Zb, Zc, Zd, Ze, Zf, Zg, Zj, Zk, Zl, Zm, Zn, Zp, Zq, reduceCtorEq, r13, r3, r16, r17, h3, h4]
  exact p1 (.inl (by omega))
 by_cases h5 : at' E' ((n - 1 : Nat) : Int) = 188
 rotate_left
 ·simp (disch := omega) only [Zu, Zv, Zx, Zz, EO, ↓EP, EQ, EM, ↓reduceIte, Za, Zb, Zc, Zd, Ze, Zf, Zg, Zj, Zk, Zl, Zm, Zn, Zp, Zq, reduceCtorEq, r13, r3, r16, r17, h3, h4, i1, cl, h5]
  exact p1 (.inr h5)
 clear p1
 have dlq : ∃ dl : Nat, n - sum.length - 1 = dl ∧ n = sum.length + 1 + dl := ⟨n - sum.length - 1, rfl, by omega⟩
 obtain ⟨dl, hdl, hnd⟩ := dlq
 have ovq : ∃ ov : Nat, ov = 8 * n - m := ⟨_, rfl⟩
 obtain ⟨ov, hov⟩ := ovq
 have hov8 : ov < 8 := by omega
 have hsd : s + 1 ≤ dl := by omega
 have hdl2 : dl ≤ 2048 := by omega
 have hpF : pssF m n alg mask s sum E' = if ¬ at' E' 0 < 2 ^ (8 - ov) then 112
   else if (dbR ov dl E' (maskR mask ((E'.drop dl).take sum.length) (dl : Int)).1).take (dl - s) ≠ List.replicate (dl - s - 1) 0 ++ [1] then 112
   else if dig alg (List.replicate 8 0 ++ sum ++ (dbR ov dl E' (maskR mask ((E'.drop dl).take sum.length) (dl : Int)).1).drop (dl - s)) ≠ (E'.drop dl).take sum.length then 112 else 0 := by
  unfold pssF
  rw [if_neg (fun g => g.elim (fun x => h4 (by omega)) (fun x => x h5)), ← hov, hdl, show n - sum.length - 2 - s = dl - s - 1 by omega]
 rw [hpF] at hK
 clear hpF
 have htl : ((E'.drop dl).take sum.length).length = sum.length := by
  simp only [List.length_take, List.length_drop]
  omega
 have hRt : Rd w' (subA (some ad) c' dl 1) (nums .u8 ((E'.drop dl).take sum.length)) := by
  exact (hrE.subA c' dl (by omega)).take sum.length
 have htb : Byt ((E'.drop dl).take sum.length) := (hEb.drop dl).take _
 have hml := maskR_l2 c3 ((E'.drop dl).take sum.length) hdl2
 have topq : ∃ top, (E'.drop dl).take sum.length = top := ⟨_, rfl⟩
 obtain ⟨top, htop⟩ := topq
 rw [htop] at hK htl hRt hml htb
 have veq : ∃ veil, (maskR mask top (dl : Int)).1 = veil := ⟨_, rfl⟩
 obtain ⟨veil, hvl⟩ := veq
 rw [hvl] at hK hml
 have i2 : (n : Int) - 1 - (sum.length : Int) = (dl : Int) := by omega
 have i2b : (n : Int) - (sum.length : Int) - 1 = (dl : Int) := by omega
 have i3 : n - 1 - dl = sum.length := by omega
 have sAq : ∃ sA, subA (some ad) c' dl 1 = sA := ⟨_, rfl⟩
 obtain ⟨sA, hsA⟩ := sAq
 rw [hsA] at hRt
 simp (disch := omega) only [Zu, Zv, Zx, Zz, EO, ↓EP, EQ, EM, ↓reduceIte, Za, Zb, Zc, Zd, Ze, Zf, Zg, Zj, Zk, Zl, Zm, Zn, Zp, Zq, reduceCtorEq, r13, r3, r2, r16, r17, h3, h4, i1, i2, i2b, i3, hsA, cl, h5, Int.toNat_natCast]
 refine rmask_n (seed := top) htl (by omega) hRt (by omega) htb fun v4 w4 h4v f4 => ?_
 rw [hvl] at h4v
 have h4q := h4v
 obtain ⟨A4, c4, rfl, hc4, hr4v⟩ := h4q
 rw [hml.1] at hc4
 have fw4 := f14.nb f4
 have vg2 := hr4v.get (by rw [nums_length, hml.1]; omega)
 obtain ⟨ad4, ea4, hlt4, hcl4⟩ := vg2
 have hot : (8 * (n : Int) - (m : Int)).toNat = ov := by omega
 have hot2 : (8 - (8 * (n : Int) - (m : Int))).toNat = 8 - ov := by omega
 simp (disch := omega) only [Zu, Zv, Zx, Zz, EO, ↓EP, EQ, EM, ↓reduceIte, Za, Zb, Zc, Zd, Ze, Zf, Zg, Zj, Zk, Zl, Zm, Zn, Zp, Zq, reduceCtorEq, hml.1, ea4, i2b, r16, r17]
 refine loop_inv (fun t ρ w5 => ∃ (i : Nat) (v : Value), ρ 22 = .int .i64 i ∧ ρ 21 = v ∧ i ≤ dl ∧ t = dl - i ∧ Gw .u8 w4 w5 v (dbR ov i E' veil) ∧ (0 < i → at' E' 0 < 2 ^ (8 - ov))) dl
  ⟨0, .slice none 0 0, by simp (disch := omega) only [Zu, Zv, Zx, Zz, EO, ↓EP, EQ, EM, ↓reduceIte, Za, Zb, Zc, Zd, Ze, Zf, Zg, Zj, Zk, Zl, Zm, Zn, Zp, Zq, reduceCtorEq], by simp (disch := omega) only [Zu, Zv, Zx, Zz, EO, ↓EP, EQ, EM, ↓reduceIte, Za, Zb, Zc, Zd, Ze, Zf, Zg, Zj, Zk, Zl, Zm, Zn, Zp, Zq, reduceCtorEq], by omega, rfl, db_nil ov E' veil w4, fun h => absurd h (by omega)⟩ ?_
 rintro t ρ w5 hf ⟨i, v5, h22, h21, hi, rfl, G, hfirst⟩ M hM
 have q13 : ρ 13 = .slice (some ad) n c' := by rw [hf 13 rfl]; simp (disch := omega) only [Zu, Zv, Zx, Zz, EO, ↓EP, EQ, EM, ↓reduceIte, Za, Zb, Zc, Zd, Ze, Zf, Zg, Zj, Zk, Zl, Zm, Zn, Zp, Zq, reduceCtorEq, r13]
 have q15 : ρ 15 = .int .i64 (m : Int) := by rw [hf 15 rfl]; simp (disch := omega) only [Zu, Zv, Zx, Zz, EO, ↓EP, EQ, EM, ↓reduceIte, Za, Zb, Zc, Zd, Ze, Zf, Zg, Zj, Zk, Zl, Zm, Zn, Zp, Zq, reduceCtorEq, r15]
 have q16 : ρ 16 = .int .i64 (n : Int) := by rw [hf 16 rfl]; simp (disch := omega) only [Zu, Zv, Zx, Zz, EO, ↓EP, EQ, EM, ↓reduceIte, Za, Zb, Zc, Zd, Ze, Zf, Zg, Zj, Zk, Zl, Zm, Zn, Zp, Zq, reduceCtorEq, r16]
 have q17 : ρ 17 = .int .i64 (sum.length : Int) := by rw [hf 17 rfl]; simp (disch := omega) only [Zu, Zv, Zx, Zz, EO, ↓EP, EQ, EM, ↓reduceIte, Za, Zb, Zc, Zd, Ze, Zf, Zg, Zj, Zk, Zl, Zm, Zn, Zp, Zq, reduceCtorEq, r17]
 have q18 : ρ 18 = .slice sA sum.length (c' - dl) := by rw [hf 18 rfl]; simp (disch := omega) only [Zu, Zv, Zx, Zz, EO, ↓EP, EQ, EM, ↓reduceIte, Za, Zb, Zc, Zd, Ze, Zf, Zg, Zj, Zk, Zl, Zm, Zn, Zp, Zq, reduceCtorEq, r13, r16, r17, i1, i2, i2b, i3, hsA, Int.toNat_natCast]
 have q19 : ρ 19 = .slice (some ad4) dl c4 := by rw [hf 19 rfl]; simp (disch := omega) only [Zu, Zv, Zx, Zz, EO, ↓EP, EQ, EM, ↓reduceIte, Za, Zb, Zc, Zd, Ze, Zf, Zg, Zj, Zk, Zl, Zm, Zn, Zp, Zq, reduceCtorEq, hml.1, ea4]
 have q3 : ρ 3 = .int .i64 s := by rw [hf 3 rfl]; simp (disch := omega) only [Zu, Zv, Zx, Zz, EO, ↓EP, EQ, EM, ↓reduceIte, Za, Zb, Zc, Zd, Ze, Zf, Zg, Zj, Zk, Zl, Zm, Zn, Zp, Zq, reduceCtorEq, r3]
 have q1 : ρ 1 = .int .i64 alg := by rw [hf 1 rfl]; simp (disch := omega) only [Zu, Zv, Zx, Zz, EO, ↓EP, EQ, EM, ↓reduceIte, Za, Zb, Zc, Zd, Ze, Zf, Zg, Zj, Zk, Zl, Zm, Zn, Zp, Zq, reduceCtorEq, r1]
 have q4 : ρ 4 = .slice D sum.length q := by rw [hf 4 rfl]; simp (disch := omega) only [Zu, Zv, Zx, Zz, EO, ↓EP, EQ, EM, ↓reduceIte, Za, Zb, Zc, Zd, Ze, Zf, Zg, Zj, Zk, Zl, Zm, Zn, Zp, Zq, reduceCtorEq, r4]
 clear hf
 have hdl5 := dbR_len ov i E' veil
 have q5 := G.sl.read
 obtain ⟨A5, c5, e5, hc5, hr5, _⟩ := q5
 rw [hdl5] at e5
 rw [e5] at h21 G
 by_cases hil : (i : Int) < (dl : Int)
 ·have cE : w5.cell? (ad.add i) = some (.int .u8 (at' E' (i : Int))) := by
   have vg := (hrE.nb (f4.nb G.fr)).get (by rw [nums_length]; omega)
   obtain ⟨ad', e', _, hcl'⟩ := vg
   cases e'
   exact hcl'.numN (by omega)
  have cV : w5.cell? (ad4.add i) = some (.int .u8 (at' veil (i : Int))) := by
   have vg := (hr4v.nb G.fr).get (by rw [nums_length, hml.1]; omega)
   obtain ⟨ad', e', _, hcl'⟩ := vg
   rw [ea4] at e'
   cases e'
   exact hcl'.numN (by rw [hml.1]; omega)
  simp (disch := omega) only [Zu, Zv, Zx, Zz, EO, ↓EP, EQ, EM, ↓reduceIte, Za, Zb, Zc, Zd, Ze, Zf, Zg, Zj, Zk, Zl, Zm, Zn, Zp, Zq, reduceCtorEq, h22, h21, q13, q16, q17, q19, i2b, hil, cE, cV, W_joinT]
  refine join_cut (fun ρ2 w2 => w2 = w5 ∧ ρ2 24 = .int .u8 (dbB ov E' veil i) ∧ at' E' 0 < 2 ^ (8 - ov)) ?_ ?_
  ·intro M2 hM2
   by_cases hi0 : (i : Int) = 0
   ·have hi0' : i = 0 := by omega
    rw [hi0'] at cE cV
    have bx := hEb.at 0
    have bv := hml.2.at 0
    by_cases h6 : at' E' 0 < 2 ^ (8 - ov)
    ·have h7 := (free_tope bx hov8).2 h6
     simp (disch := omega) only [Zu, Zv, Zx, Zz, EO, ↓EP, EQ, EM, ↓reduceIte, Za, Zb, Zc, Zd, Ze, Zf, Zg, Zj, Zk, Zl, Zm, Zn, Zp, Zq, reduceCtorEq, h22, hi0', q15, q16, hot, hot2, h7]
     refine hM2 _ _ ⟨rfl, ?_, h6⟩
     have d1 := db_zero (ov := ov) hov8 bx bv
     have d2 := db_zeroe (ov := ov) hov8 bx bv
     simp (disch := omega) only [Zu, Zv, Zx, Zz, EO, ↓EP, EQ, EM, ↓reduceIte, Za, Zb, Zc, Zd, Ze, Zf, Zg, Zj, Zk, Zl, Zm, Zn, Zp, Zq, reduceCtorEq, hot, hi0', d1, d2]
    ·have h7 : ¬ at' E' 0 / 2 ^ (8 - ov) = 0 := fun g => h6 ((free_tope bx hov8).1 g)
     have h8 : ¬ (at' E' 0).fdiv (2 ^ (8 - ov)) = 0 := fun g => h6 ((free_top bx hov8).1 g)
     rw [if_pos h6] at hK
     simp (disch := omega) only [Zu, Zv, Zx, Zz, EO, ↓EP, EQ, EM, ↓reduceIte, Za, Zb, Zc, Zd, Ze, Zf, Zg, Zj, Zk, Zl, Zm, Zn, Zp, Zq, reduceCtorEq, h22, hi0', q15, q16, hot, hot2, h7, h8]
     exact hK _ (fw4.nb G.fr)
   ·simp (disch := omega) only [Zu, Zv, Zx, Zz, EO, ↓EP, EQ, EM, ↓reduceIte, Za, Zb, Zc, Zd, Ze, Zf, Zg, Zj, Zk, Zl, Zm, Zn, Zp, Zq, reduceCtorEq, h22, hi0]
    refine hM2 _ _ ⟨rfl, ?_, hfirst (by omega)⟩
    simp (disch := omega) only [Zu, Zv, Zx, Zz, EO, ↓EP, EQ, EM, ↓reduceIte, Za, Zb, Zc, Zd, Ze, Zf, Zg, Zj, Zk, Zl, Zm, Zn, Zp, Zq, reduceCtorEq, db_succ (ov := ov) (em := E') (veil := veil) (show 0 < i by omega)]
  rintro ρ2 w2 hf2 ⟨rfl, h24, h6⟩
  have z16 : ρ2 16 = .int .i64 (n : Int) := by rw [hf2 16 rfl]; simp (disch := omega) only [Zu, Zv, Zx, Zz, EO, ↓EP, EQ, EM, ↓reduceIte, Za, Zb, Zc, Zd, Ze, Zf, Zg, Zj, Zk, Zl, Zm, Zn, Zp, Zq, reduceCtorEq, q16]
  have z22 : ρ2 22 = .int .i64 (i : Int) := by rw [hf2 22 rfl]; simp (disch := omega) only [Zu, Zv, Zx, Zz, EO, ↓EP, EQ, EM, ↓reduceIte, Za, Zb, Zc, Zd, Ze, Zf, Zg, Zj, Zk, Zl, Zm, Zn, Zp, Zq, reduceCtorEq, h22]
  have z21 : ρ2 21 = .slice A5 i c5 := by rw [hf2 21 rfl]; simp (disch := omega) only [Zu, Zv, Zx, Zz, EO, ↓EP, EQ, EM, ↓reduceIte, Za, Zb, Zc, Zd, Ze, Zf, Zg, Zj, Zk, Zl, Zm, Zn, Zp, Zq, reduceCtorEq, h21]
  have Z : ∀ t, wr (.ops [⟨some 23, none, .mv (.tmp 0)⟩]) t = wr (.ops [⟨some 23, none, .mv (.tmp 0)⟩]) t := fun _ => rfl
  simp (disch := omega) only [Zu, Zv, Zx, Zz, EO, ↓EP, EQ, EM, ↓reduceIte, Za, Zb, Zc, Zd, Ze, Zf, Zg, Zj, Zk, Zl, Zm, Zn, Zp, Zq, reduceCtorEq, z21, z22, h24]
  refine bsl1 fun w6 n6 => ?_
  simp (disch := omega) only [Zu, Zv, Zx, Zz, EO, ↓EP, EQ, EM, ↓reduceIte, Za, Zb, Zc, Zd, Ze, Zf, Zg, Zj, Zk, Zl, Zm, Zn, Zp, Zq, reduceCtorEq, z21]
  refine app_num (G.step (n6.fr nob)).sl rfl n6.rdl (by rw [hdl5]; simp; omega) (by decide) fun v7 w7 a7 => ?_
  have G7 := (G.step (n6.fr nob)).apd a7
  simp (disch := omega) only [Zu, Zv, Zx, Zz, EO, ↓EP, EQ, EM, ↓reduceIte, Za, Zb, Zc, Zd, Ze, Zf, Zg, Zj, Zk, Zl, Zm, Zn, Zp, Zq, reduceCtorEq, z22]
  refine hM (dl - (i + 1)) _ _ (by omega) ⟨i + 1, v7, by simp (disch := omega) only [Zu, Zv, Zx, Zz, EO, ↓EP, EQ, EM, ↓reduceIte, Za, Zb, Zc, Zd, Ze, Zf, Zg, Zj, Zk, Zl, Zm, Zn, Zp, Zq, reduceCtorEq, z22, Int.natCast_add], by simp (disch := omega) only [Zu, Zv, Zx, Zz, EO, ↓EP, EQ, EM, ↓reduceIte, Za, Zb, Zc, Zd, Ze, Zf, Zg, Zj, Zk, Zl, Zm, Zn, Zp, Zq, reduceCtorEq], by omega, rfl, ?_, fun _ => h6⟩
  rw [dbR_succ]
  exact G7
 have hid : i = dl := by omega
 rw [hid] at h22 h21 G hdl5 hfirst hc5
 clear hM hil hi
 rw [if_neg (fun g => g (hfirst (by omega)))] at hK
 have f45 := f4.nb G.fr
 have fw5 := fw4.nb G.fr
 have DBq : ∃ DB, dbR ov dl E' veil = DB := ⟨_, rfl⟩
 obtain ⟨DB, hDB⟩ := DBq
 have hDb : Byt DB := by rw [← hDB]; exact dbR_byt _ _ _ _
 rw [hDB] at hK hdl5 G hc5
 have hrD := G.sl.rdOf
 have i9 : (n : Int) - (sum.length : Int) - 2 - (s : Int) = ((dl - s - 1 : Nat) : Int) := by omega
 simp (disch := omega) only [Zu, Zv, Zx, Zz, EO, ↓EP, EQ, EM, ↓reduceIte, Za, Zb, Zc, Zd, Ze, Zf, Zg, Zj, Zk, Zl, Zm, Zn, Zp, Zq, reduceCtorEq, h22, q13, q16, q17, q3, i2b, i9]
 have kq : ∃ k, dl - s - 1 = k ∧ dl - s = k + 1 := ⟨dl - s - 1, rfl, by omega⟩
 obtain ⟨k, hk1, hk2⟩ := kq
 rw [hk1, hk2] at hK
 have hkd : k < DB.length := by omega
 have his := head_is hkd
 have bad : ¬ ((∀ j : Nat, j < k → at' DB j = 0) ∧ at' DB k = 1) → K (.int .i64 112) w5 := fun g => by
  rw [if_pos (fun x => g (his.1 x))] at hK
  exact hK _ fw5
 have vgD := hrD.get (by rw [nums_length]; omega)
 obtain ⟨adD, eD, hltD, hclD⟩ := vgD
 refine loop_inv (fun t ρ w6 => ∃ i : Nat, ρ 27 = .int .i64 i ∧ i ≤ k + 1 ∧ t = k + 1 - i ∧ w6 = w5 ∧ (∀ j : Nat, j < i → at' DB j = if j < k then 0 else 1)) (k + 1)
  ⟨0, by simp (disch := omega) only [Zu, Zv, Zx, Zz, EO, ↓EP, EQ, EM, ↓reduceIte, Za, Zb, Zc, Zd, Ze, Zf, Zg, Zj, Zk, Zl, Zm, Zn, Zp, Zq, reduceCtorEq], by omega, rfl, rfl, fun j h => absurd h (by omega)⟩ ?_
 rintro t ρ3 w6 hf ⟨i2, z27, hi2, rfl, rfl, hall⟩ M hM
 have z26 : ρ3 26 = .int .i64 (k : Int) := by rw [hf 26 rfl]; simp (disch := omega) only [Zu, Zv, Zx, Zz, EO, ↓EP, EQ, EM, ↓reduceIte, Za, Zb, Zc, Zd, Ze, Zf, Zg, Zj, Zk, Zl, Zm, Zn, Zp, Zq, reduceCtorEq, q16, q17, q3, i9, hk1]
 have z21 : ρ3 21 = .slice (some adD) dl c5 := by rw [hf 21 rfl]; simp (disch := omega) only [Zu, Zv, Zx, Zz, EO, ↓EP, EQ, EM, ↓reduceIte, Za, Zb, Zc, Zd, Ze, Zf, Zg, Zj, Zk, Zl, Zm, Zn, Zp, Zq, reduceCtorEq, h21, eD]
 have z18 : ρ3 18 = .slice sA sum.length (c' - dl) := by rw [hf 18 rfl]; simp (disch := omega) only [Zu, Zv, Zx, Zz, EO, ↓EP, EQ, EM, ↓reduceIte, Za, Zb, Zc, Zd, Ze, Zf, Zg, Zj, Zk, Zl, Zm, Zn, Zp, Zq, reduceCtorEq, q18]
 have z1 : ρ3 1 = .int .i64 alg := by rw [hf 1 rfl]; simp (disch := omega) only [Zu, Zv, Zx, Zz, EO, ↓EP, EQ, EM, ↓reduceIte, Za, Zb, Zc, Zd, Ze, Zf, Zg, Zj, Zk, Zl, Zm, Zn, Zp, Zq, reduceCtorEq, q1]
 have z4 : ρ3 4 = .slice D sum.length q := by rw [hf 4 rfl]; simp (disch := omega) only [Zu, Zv, Zx, Zz, EO, ↓EP, EQ, EM, ↓reduceIte, Za, Zb, Zc, Zd, Ze, Zf, Zg, Zj, Zk, Zl, Zm, Zn, Zp, Zq, reduceCtorEq, q4]
 clear hf
 by_cases hik : (i2 : Int) ≤ (k : Int)
 ·have cD : w6.cell? (adD.add i2) = some (.int .u8 (at' DB (i2 : Int))) := hclD.numN (by omega)
  by_cases hlt2 : (i2 : Int) < (k : Int)
  ·by_cases hz : at' DB (i2 : Int) = 0
   ·simp (disch := omega) only [Zu, Zv, Zx, Zz, EO, ↓EP, EQ, EM, ↓reduceIte, Za, Zb, Zc, Zd, Ze, Zf, Zg, Zj, Zk, Zl, Zm, Zn, Zp, Zq, reduceCtorEq, z27, z26, z21, hik, hlt2, cD, hz]
    refine hM (k + 1 - (i2 + 1)) _ _ (by omega) ⟨i2 + 1, by simp (disch := omega) only [Zu, Zv, Zx, Zz, EO, ↓EP, EQ, EM, ↓reduceIte, Za, Zb, Zc, Zd, Ze, Zf, Zg, Zj, Zk, Zl, Zm, Zn, Zp, Zq, reduceCtorEq, z27, Int.natCast_add], by omega, rfl, rfl, fun j hj => ?_⟩
    by_cases hj2 : j < i2
    ·exact hall j hj2
    ·have e : j = i2 := by omega
     rw [e, if_pos (by omega)]
     exact hz
   ·simp (disch := omega) only [Zu, Zv, Zx, Zz, EO, ↓EP, EQ, EM, ↓reduceIte, Za, Zb, Zc, Zd, Ze, Zf, Zg, Zj, Zk, Zl, Zm, Zn, Zp, Zq, reduceCtorEq, z27, z26, z21, hik, hlt2, cD, hz]
    exact bad fun g => hz (g.1 i2 (by omega))
  ·have hik2 : (i2 : Int) = (k : Int) := by omega
   have cDk : w6.cell? (adD.add k) = some (.int .u8 (at' DB (k : Int))) := hclD.numN hkd
   have hik4 : i2 = k := by omega
   by_cases hz : at' DB (k : Int) = 1
   ·simp (disch := omega) only [Zu, Zv, Zx, Zz, EO, ↓EP, EQ, EM, ↓reduceIte, Za, Zb, Zc, Zd, Ze, Zf, Zg, Zj, Zk, Zl, Zm, Zn, Zp, Zq, reduceCtorEq, z27, z26, z21, hik, hlt2, hik2, cDk, hz]
    refine hM (k + 1 - (i2 + 1)) _ _ (by omega) ⟨i2 + 1, by simp (disch := omega) only [Zu, Zv, Zx, Zz, EO, ↓EP, EQ, EM, ↓reduceIte, Za, Zb, Zc, Zd, Ze, Zf, Zg, Zj, Zk, Zl, Zm, Zn, Zp, Zq, reduceCtorEq, z27, hik2, Int.natCast_add], by omega, rfl, rfl, fun j hj => ?_⟩
    by_cases hj2 : j < i2
    ·exact hall j hj2
    ·have e : j = k := by omega
     rw [e, if_neg (by omega)]
     exact hz
   ·simp (disch := omega) only [Zu, Zv, Zx, Zz, EO, ↓EP, EQ, EM, ↓reduceIte, Za, Zb, Zc, Zd, Ze, Zf, Zg, Zj, Zk, Zl, Zm, Zn, Zp, Zq, reduceCtorEq, z27, z26, z21, hik, hlt2, hik2, cDk, hz]
    exact bad fun g => hz g.2
 have hik3 : i2 = k + 1 := by omega
 rw [hik3] at hall
 have hok : DB.take (k + 1) = List.replicate k 0 ++ [1] := his.2 ⟨fun j hj => by rw [hall j (by omega), if_pos hj], by rw [hall k (by omega), if_neg (by omega)]⟩
 rw [if_neg (fun g => g hok)] at hK
 clear bad hM
 have hcD : dl ≤ c5 := by omega
 simp (disch := omega) only [Zu, Zv, Zx, Zz, EO, ↓EP, EQ, EM, ↓reduceIte, Za, Zb, Zc, Zd, Ze, Zf, Zg, Zj, Zk, Zl, Zm, Zn, Zp, Zq, reduceCtorEq, z27, z26, z21, hik, z4]
 intro m1
 have F1 := fr_drewN' w6 (1 + m1)
 refine al_k (nums .u8 (List.replicate 8 0)) (by kernel_rfl) fun w7 n7 => ?_
 have F7 := F1.nb (n7.fr nob)
 have G7 : Gw .u8 (w6.drewN (1 + m1)) w7 (.slice (some ⟨(w6.drewN (1 + m1)).heap.size, 0, none⟩) 8 8) (List.replicate 8 0) := ⟨n7.sl, fun b e => by cases e; exact Nat.le_refl _, n7.fr nob⟩
 simp (disch := omega) only [Zu, Zv, Zx, Zz, EO, ↓EP, EQ, EM, ↓reduceIte, Za, Zb, Zc, Zd, Ze, Zf, Zg, Zj, Zk, Zl, Zm, Zn, Zp, Zq, reduceCtorEq, z4]
 intro m2
 have F8 := fr_drewN' w7 m2
 have fw8 := fw5.nb (F7.nb F8)
 have G8 := G7.step F8
 refine app_num G8.sl (l' := sum) rfl (ht.nb fw8) (by simp; omega) (by decide) fun v8 w8 a8 => ?_
 have G9 := G8.apd a8
 have q9 := G9.sl.read
 obtain ⟨A9, c9, e9, hc9, hr9, _⟩ := q9
 have i10 : ((k : Int) + 1).toNat = k + 1 := by omega
 have l9 : (List.replicate 8 (0 : Int) ++ sum).length = 8 + sum.length := by rw [List.length_append, List.length_replicate]
 rw [l9] at e9
 rw [e9] at G9 ⊢
 simp (disch := omega) only [Zu, Zv, Zx, Zz, EO, ↓EP, EQ, EM, ↓reduceIte, Za, Zb, Zc, Zd, Ze, Zf, Zg, Zj, Zk, Zl, Zm, Zn, Zp, Zq, reduceCtorEq, z21, z26, i10, hcD]
 intro m3
 have G10 := G9.step (fr_drewN' w8 m3)
 have fa := F1.nb G10.fr
 have hrD2 := hrD
 rw [eD] at hrD2
 have hrD3 := (hrD2.subA c5 (k + 1) (by omega)).nb fa
 refine app_num G10.sl (l' := DB.drop (k + 1)) (by rw [List.length_drop, hdl5]) hrD3 (by simp; omega) (by decide) fun v10 w10 a10 => ?_
 have G11 := G10.apd a10
 have fb := F1.nb G11.fr
 have fw10 := fw5.nb fb
 have hlen11 : (List.replicate 8 (0 : Int) ++ sum ++ DB.drop (k + 1)).length ≤ 16777216 := by
  rw [List.length_append, l9, List.length_drop, hdl5]
  omega
 have hb11 : Byt (List.replicate 8 (0 : Int) ++ sum ++ DB.drop (k + 1)) := ((Byt.zeros 8).app hb).app (hDb.drop _)
 have ha14 := alg_14 (alg := alg) (by omega)
 simp (disch := omega) only [Zu, Zv, Zx, Zz, EO, ↓EP, EQ, EM, ↓reduceIte, Za, Zb, Zc, Zd, Ze, Zf, Zg, Zj, Zk, Zl, Zm, Zn, Zp, Zq, reduceCtorEq, z1]
 intro m4
 have F10 := fr_drewN' w10 m4
 refine rdigest_vw ha14.1 ha14.2 (G11.step F10).vw hlen11 hb11 _ fun v12 w12 g12 => ?_
 have fw12 := fw10.nb (F10.nb g12.fr)
 have hRt2 : Rd w12 sA (nums .u8 top) := ((hRt.nb f45).nb fb).nb (F10.nb g12.fr)
 have g12q := g12.vw
 obtain ⟨A12, c12, e12, _, _⟩ := g12q
 simp (disch := omega) only [Zu, Zv, Zx, Zz, EO, ↓EP, EQ, EM, ↓reduceIte, Za, Zb, Zc, Zd, Ze, Zf, Zg, Zj, Zk, Zl, Zm, Zn, Zp, Zq, reduceCtorEq, z18]
 refine sameb_vw g12.vw (Vw.of htl (by omega) hRt2) (by have := dig_len ha14.1 ha14.2 (List.replicate 8 (0 : Int) ++ sum ++ DB.drop (k + 1)); have := sizeI_nn alg; omega) _ fun w13 f13 => ?_
 have fw13 := fw12.nb f13
 by_cases e4 : dig alg (List.replicate 8 0 ++ sum ++ DB.drop (k + 1)) = top
 ·rw [if_neg (fun g => g e4)] at hK
  rw [decide_eq_true e4]
  simp (disch := omega) only [Zu, Zv, Zx, Zz, EO, ↓EP, EQ, EM, ↓reduceIte, Za, Zb, Zc, Zd, Ze, Zf, Zg, Zj, Zk, Zl, Zm, Zn, Zp, Zq, reduceCtorEq, Bool.not_true]
  exact hK _ fw13
 ·rw [if_pos e4] at hK
  rw [decide_eq_false e4]
  simp (disch := omega) only [Zu, Zv, Zx, Zz, EO, ↓EP, EQ, EM, ↓reduceIte, Za, Zb, Zc, Zd, Ze, Zf, Zg, Zj, Zk, Zl, Zm, Zn, Zp, Zq, reduceCtorEq, Bool.not_false]
  exact hK _ fw13
end Go.Proofs.YtcgplgpdcfocpaaGreatDoor.Der
end
section
namespace Go.Proofs.YtcgplgpdcfocpaaGreatDoor.Der
open Go Go.RowKit Go.Proofs Go.Proofs.YtcgplgpdcfocpaaGreatDoor.Eng Go.Proofs.YtcgplgpdcfocpaaGreatDoor.Code
attribute [local irreducible] callK S.W opsW scrW scrT
open Go.Proofs.YtcgplgpdcfocpaaGreatDoor.Spec Go.Proofs.YtcgplgpdcfocpaaGreatDoor.Big
attribute [local irreducible] checkR sizeK rawR padR
theorem scrX_pg (P : Program) (l : List O) (d : Nat) (g) (i : I) (r cs) (K) (ρ : Env) (w : World) : scrX P l 0 (some ⟨some d, some g, i⟩) r cs K ρ w = gB (ρ g.1) g.2 (rW i ρ w fun v => scrT P l r cs K (upd ρ d v) w) (scrT P l r cs K (upd ρ d undef) w) .mk .mk := (rfl)
theorem scrX_qg (P : Program) (l : List O) (d : Nat) (g) (i : I) (r cs) (K) (ρ : Env) (w : World) : scrX P l 1 (some ⟨some d, some g, i⟩) r cs K ρ w = gB (ρ g.1) g.2 (qW P i ρ w fun v => scrT P l r cs K (upd ρ d v) w) (scrT P l r cs K (upd ρ d undef) w) .mk .mk := (rfl)
theorem scrX_lg (P : Program) (l : List O) (d : Nat) (g) (i : I) (r cs) (K) (ρ : Env) (w : World) : scrX P l 2 (some ⟨some d, some g, i⟩) r cs K ρ w = ∀ m, gB (ρ g.1) g.2 (iW P i ρ (w.drewN m) fun v w' => allC cs w' ∧ scrT P l r cs K (upd ρ d v) w') (allC cs (w.drewN m) ∧ scrT P l r cs K (upd ρ d undef) (w.drewN m)) .mk .mk := (rfl)
theorem scrX_fg (P : Program) (l : List O) (d : Nat) (g) (k : TyK) (a : Operand) (r cs) (K) (ρ : Env) (w : World) : scrX P l 3 (some ⟨some d, some g, .ld k a⟩) r cs K ρ w = gB (ρ g.1) g.2 (ptrK (ev ρ a) fun p => ldK w k p fun v => scrT P l r ((k, p, v) :: cs) K (upd ρ d v) w) (scrT P l r cs K (upd ρ d undef) w) .mk .mk := (rfl)
theorem r_pick5 (c a b : Operand) (ρ : Env) (w : World) (K : Value → Prop) : rW (.pick c a b) ρ w K = boolK (ev ρ c) fun t => letK (if t then ev ρ a else ev ρ b) K := rfl
theorem lnt_rd5 {w0 w : World} {v : Value} {l : List Int} {x y : Int} (h : Lnt .u8 w0 w v l x y) : ∃ A c, v = .slice A l.length c ∧ l.length ≤ c ∧ Rd w A (nums .u8 l) := by
 obtain ⟨b, c, rfl, hc, _, hr⟩ := h.read
 exact ⟨_, c, rfl, by omega, hr⟩
end Go.Proofs.YtcgplgpdcfocpaaGreatDoor.Der
end
section
namespace Go.Proofs.YtcgplgpdcfocpaaGreatDoor.Der
open Go Go.RowKit Go.Proofs Go.Proofs.YtcgplgpdcfocpaaGreatDoor.Eng Go.Proofs.YtcgplgpdcfocpaaGreatDoor.Code
attribute [local irreducible] callK S.W opsW scrW scrT
open Go.Proofs.YtcgplgpdcfocpaaGreatDoor.Spec Go.Proofs.YtcgplgpdcfocpaaGreatDoor.Big
attribute [local irreducible] checkR sizeK rawR padR pssR
set_option maxHeartbeats 8000000 in
theorem psses_k {w : World} (hT : Tb w) {vN vE v v2 : Value} {alg mask salt : Int} {N E sum sig : List Int} (hN : Vw .u32 w vN N) (hE : Vw .u32 w vE E) (lN : Lim N) (lE : Lim E) (nN : N.length ≤ 9223372036854775807) (nE : E.length ≤ 9223372036854775807) (hsl : -9223372036854775808 ≤ salt ∧ salt ≤ 9223372036854775807) (hv : Vw .u8 w v sum) (hb : Byt sum) (h63 : sum.length ≤ 9223372036854775807) (hv2 : Vw .u8 w v2 sig) (hb2 : Byt sig) (h64 : sig.length ≤ 9223372036854775807) {K : Value → World → Prop} (hK : ∀ w', Fr w w' nob → K (.bool true) w') : callK Tryz.prog 6 [.agg #[vN, vE], .int .i64 alg, .int .i64 mask, .int .i64 salt, v, v2] w K := by
 refine call_of Tryz.func6 Code.h6 (by simp [Code.c6]) ?_
 have hN0 := hN
 have hE0 := hE
 have hv0 := hv
 have hv20 := hv2
 obtain ⟨A, c, rfl, hc, hr⟩ := hN0
 obtain ⟨B, d, rfl, hd, hs⟩ := hE0
 obtain ⟨D, q, rfl, hq, ht⟩ := hv0
 obtain ⟨D2, q2, rfl, hq2, ht2⟩ := hv20
 simp (disch := omega) only [Zu, Zv, Zx, Zz, EO, ↓EP, EQ, EM, ↓reduceIte, Za, Zb, Zc, Zd, Ze, Zf, Zg, Zj, Zk, Zl, Zm, Zn, Zp, Zq, reduceCtorEq, Code.c6]
 refine al_k [.slice A N.length c, .slice B E.length d] rfl fun w1 n1 => ?_
 have f1 := n1.fr nob
 have c0 : w1.cell? ⟨w.heap.size, 0, none⟩ = some (.slice A N.length c) := n1.blk.has 0 _ rfl
 have c1 : w1.cell? ⟨w.heap.size, 1, none⟩ = some (.slice B E.length d) := n1.blk.has 1 _ rfl
 by_cases h1 : (64 : Int) < (N.length : Int)
 ·simp (disch := omega) only [Zu, Zv, Zx, Zz, EO, ↓EP, EQ, EM, ↓reduceIte, Za, Zb, Zc, Zd, Ze, Zf, Zg, Zj, Zk, Zl, Zm, Zn, Zp, Zq, reduceCtorEq, c0, c1, h1]
  refine live8_k (hT.fr f1 (fun x => x) (fun x => x)) fun w2 f2 => ?_
  simp (disch := omega) only [Zu, Zv, Zx, Zz, EO, ↓EP, EQ, EM, ↓reduceIte, Za, Zb, Zc, Zd, Ze, Zf, Zg, Zj, Zk, Zl, Zm, Zn, Zp, Zq, reduceCtorEq]
  exact hK _ (f1.nb f2)
 by_cases h2 : (600 : Int) < (E.length : Int)
 ·simp (disch := omega) only [Zu, Zv, Zx, Zz, EO, ↓EP, EQ, EM, ↓reduceIte, Za, Zb, Zc, Zd, Ze, Zf, Zg, Zj, Zk, Zl, Zm, Zn, Zp, Zq, reduceCtorEq, c0, c1, h1, h2]
  refine live8_k (hT.fr f1 (fun x => x) (fun x => x)) fun w2 f2 => ?_
  simp (disch := omega) only [Zu, Zv, Zx, Zz, EO, ↓EP, EQ, EM, ↓reduceIte, Za, Zb, Zc, Zd, Ze, Zf, Zg, Zj, Zk, Zl, Zm, Zn, Zp, Zq, reduceCtorEq]
  exact hK _ (f1.nb f2)
 by_cases h3 : (8192 : Int) < (sum.length : Int)
 ·simp (disch := omega) only [Zu, Zv, Zx, Zz, EO, ↓EP, EQ, EM, ↓reduceIte, Za, Zb, Zc, Zd, Ze, Zf, Zg, Zj, Zk, Zl, Zm, Zn, Zp, Zq, reduceCtorEq, c0, c1, h1, h2, h3]
  refine live8_k (hT.fr f1 (fun x => x) (fun x => x)) fun w2 f2 => ?_
  simp (disch := omega) only [Zu, Zv, Zx, Zz, EO, ↓EP, EQ, EM, ↓reduceIte, Za, Zb, Zc, Zd, Ze, Zf, Zg, Zj, Zk, Zl, Zm, Zn, Zp, Zq, reduceCtorEq]
  exact hK _ (f1.nb f2)
 by_cases h4 : (8192 : Int) < (sig.length : Int)
 ·simp (disch := omega) only [Zu, Zv, Zx, Zz, EO, ↓EP, EQ, EM, ↓reduceIte, Za, Zb, Zc, Zd, Ze, Zf, Zg, Zj, Zk, Zl, Zm, Zn, Zp, Zq, reduceCtorEq, c0, c1, h1, h2, h3, h4]
  refine live8_k (hT.fr f1 (fun x => x) (fun x => x)) fun w2 f2 => ?_
  simp (disch := omega) only [Zu, Zv, Zx, Zz, EO, ↓EP, EQ, EM, ↓reduceIte, Za, Zb, Zc, Zd, Ze, Zf, Zg, Zj, Zk, Zl, Zm, Zn, Zp, Zq, reduceCtorEq]
  exact hK _ (f1.nb f2)
 simp (disch := omega) only [Zu, Zv, Zx, Zz, EO, ↓EP, EQ, EM, ↓reduceIte, Za, Zb, Zc, Zd, Ze, Zf, Zg, Zj, Zk, Zl, Zm, Zn, Zp, Zq, reduceCtorEq, c0, c1, h1, h2, h3, h4]
 refine lentb_vw (hv.nb f1) (by omega) _ fun v2 w2 L2 f2 => ?_
 obtain ⟨A2, c2, rfl, hc2, hr2⟩ := lnt_rd5 L2
 have f12 := f1.nb f2
 simp (disch := omega) only [Zu, Zv, Zx, Zz, EO, ↓EP, EQ, EM, ↓reduceIte, Za, Zb, Zc, Zd, Ze, Zf, Zg, Zj, Zk, Zl, Zm, Zn, Zp, Zq, reduceCtorEq]
 refine lentb_vw (hv2.nb f12) (by omega) _ fun v3 w3 L3 f3 => ?_
 obtain ⟨A3, c3, rfl, hc3, hr3⟩ := lnt_rd5 L3
 have f13 := f12.nb f3
 have g0 := f2.nb f3
 have q2 : Vw .u8 w3 (.slice A2 sum.length c2) sum := ⟨A2, c2, rfl, hc2, hr2.nb f3⟩
 have q3 : Vw .u8 w3 (.slice A3 sig.length c3) sig := ⟨A3, c3, rfl, hc3, hr3⟩
 simp (disch := omega) only [Zu, Zv, Zx, Zz, EO, ↓EP, EQ, EM, ↓reduceIte, Za, Zb, Zc, Zd, Ze, Zf, Zg, Zj, Zk, Zl, Zm, Zn, Zp, Zq, reduceCtorEq]
 refine (n1.blk.nb (g0.nb (fr_drewN' w3 _))).ldAgg rfl ?_
 simp (disch := omega) only [Zu, Zv, Zx, Zz, EO, ↓EP, EQ, EM, ↓reduceIte, Za, Zb, Zc, Zd, Ze, Zf, Zg, Zj, Zk, Zl, Zm, Zn, Zp, Zq, reduceCtorEq]
 refine (n1.blk.nb (g0.nb (fr_drewN' w3 _))).ldAgg rfl ?_
 simp (disch := omega) only [Zu, Zv, Zx, Zz, EO, ↓EP, EQ, EM, ↓reduceIte, Za, Zb, Zc, Zd, Ze, Zf, Zg, Zj, Zk, Zl, Zm, Zn, Zp, Zq, reduceCtorEq]
 intro m1
 have g1 := fr_drewN' w3 (1 + m1)
 have alls : ∀ w', Fr w1 w' nob → allC [(TyK.agg 2, ⟨w.heap.size, 0, none⟩, Value.agg #[Value.slice A N.length c, Value.slice B E.length d])] w' := fun w' f => ⟨⟨_, rfl, (n1.blk.nb f).cellsAt0, rfl⟩, trivial⟩
 refine vpss_k (hT.fr (f13.nb g1) (fun x => x) (fun x => x)) ((hN.nb f13).nb g1) ((hE.nb f13).nb g1) lN lE (by omega) (by omega) hsl (q2.nb g1) hb h63 (q3.nb g1) hb2 h64 fun w4 f4 => ?_
 have f34 := g1.nb f4
 refine ⟨alls w4 (g0.nb f34), ?_⟩
 simp (disch := omega) only [Zu, Zv, Zx, Zz, EO, ↓EP, EQ, EM, ↓reduceIte, Za, Zb, Zc, Zd, Ze, Zf, Zg, Zj, Zk, Zl, Zm, Zn, Zp, Zq, reduceCtorEq]
 intro m2
 have g2 := f34.nb (fr_drewN' w4 m2)
 refine num8_k ⟨alls _ (g0.nb g2), ?_⟩
 simp (disch := omega) only [Zu, Zv, Zx, Zz, EO, ↓EP, EQ, EM, ↓reduceIte, Za, Zb, Zc, Zd, Ze, Zf, Zg, Zj, Zk, Zl, Zm, Zn, Zp, Zq, reduceCtorEq]
 intro m3
 have g3 := f34.nb (fr_drewN' w4 (m2 + m3))
 have f14 := f13.nb g3
 refine rvpss_k (hN.nb f14) (hE.nb f14) lN lE (by omega) (by omega) hsl (hv.nb f14) hb h63 (hv2.nb f14) hb2 h64 fun w5 f5 => ?_
 have f35 := g3.nb f5
 refine ⟨alls w5 (g0.nb f35), ?_⟩
 have hd : decide (pssR N E alg mask salt sum sig = pssR N E alg mask salt sum sig) = true := decide_eq_true rfl
 simp (disch := omega) only [Zu, Zv, Zx, Zz, EO, ↓EP, EQ, EM, ↓reduceIte, Za, Zb, Zc, Zd, Ze, Zf, Zg, Zj, Zk, Zl, Zm, Zn, Zp, Zq, reduceCtorEq, hd, scrX_pg, scrX_qg, scrX_lg, scrX_fg, r_pick5]
 intro m4
 have g4 := f35.nb (fr_drewN' w5 m4)
 refine keptb_vw (L2.fr (f3.nb g4) fun _ _ x => x) (hv.nb (f13.nb g4)) (by omega) _ fun w6 f6 => ?_
 have f36 := g4.nb f6
 refine ⟨alls w6 (g0.nb f36), ?_⟩
 simp (disch := omega) only [Zu, Zv, Zx, Zz, EO, ↓EP, EQ, EM, ↓reduceIte, Za, Zb, Zc, Zd, Ze, Zf, Zg, Zj, Zk, Zl, Zm, Zn, Zp, Zq, reduceCtorEq, hd, scrX_pg, scrX_qg, scrX_lg, scrX_fg, r_pick5]
 intro m5
 have g5 := f36.nb (fr_drewN' w6 m5)
 refine keptb_vw (L3.fr g5 fun _ _ x => x) (hv2.nb (f13.nb g5)) (by omega) _ fun w7 f7 => ?_
 have f37 := g5.nb f7
 refine ⟨alls w7 (g0.nb f37), ?_⟩
 simp (disch := omega) only [Zu, Zv, Zx, Zz, EO, ↓EP, EQ, EM, ↓reduceIte, Za, Zb, Zc, Zd, Ze, Zf, Zg, Zj, Zk, Zl, Zm, Zn, Zp, Zq, reduceCtorEq, hd, scrX_pg, scrX_qg, scrX_lg, scrX_fg, r_pick5]
 intro m6
 have g6 := f37.nb (fr_drewN' w7 m6)
 refine live8_k (hT.fr (f13.nb g6) (fun x => x) (fun x => x)) fun w8 f8 => ?_
 have f38 := g6.nb f8
 refine ⟨alls w8 (g0.nb f38), ?_⟩
 simp (disch := omega) only [Zu, Zv, Zx, Zz, EO, ↓EP, EQ, EM, ↓reduceIte, Za, Zb, Zc, Zd, Ze, Zf, Zg, Zj, Zk, Zl, Zm, Zn, Zp, Zq, reduceCtorEq, hd, scrX_pg, scrX_qg, scrX_lg, scrX_fg, r_pick5]
 intro m7
 exact hK _ (f13.nb (f38.nb (fr_drewN' w8 m7)))
end Go.Proofs.YtcgplgpdcfocpaaGreatDoor.Der
end
section
namespace Go.Proofs.YtcgplgpdcfocpaaGreatDoor
open Go
theorem stand_of {P : Program} {fn : Func} (h : (fn.params.toList.all fun t => !P.wantsStandIn t) = true) : ∀ (j : Nat) t, fn.params[j]? = some t → P.wantsStandIn t = false := by
 intro j t hj
 have := List.all_eq_true.1 h t (by rw [Array.mem_toList_iff]; exact Array.mem_of_getElem? hj)
 simpa using this
open Go Go.ChangeShapes Go.WideShapes Go.ChangeAt Go.WideMaps Go.WideElems Go.RowKit Go.Proofs.YtcgplgpdcfocpaaGreatDoor.Eng Go.Proofs.YtcgplgpdcfocpaaGreatDoor.Der
theorem trodAll_six {H : Type} {enc : TypeId × Value → H} {P : Program} {w : World} {base : Nat} {spare : Nat → Bool} {held : Bool} {t0 t1 t2 t3 t4 t5 : TypeId} {args : Array Value} {ds : List (DataW H)} {ps : List MemPlace} (h : DataW.TrodAll enc P w base spare held [t0, t1, t2, t3, t4, t5] args.toList ds ps) :
  ∃ v0 v1 v2 v3 v4 v5 d0 d1 d2 d3 d4 d5 p0 p1 p2 p3 p4 p5, args = #[v0, v1, v2, v3, v4, v5] ∧ ds = [d0, d1, d2, d3, d4, d5] ∧ ps = p0 ++ (p1 ++ (p2 ++ (p3 ++ (p4 ++ p5)))) ∧ DataW.Trod enc P w base spare held t0 v0 d0 p0 ∧ DataW.Trod enc P w base spare held t1 v1 d1 p1 ∧ DataW.Trod enc P w base spare held t2 v2 d2 p2 ∧ DataW.Trod enc P w base spare held t3 v3 d3 p3 ∧ DataW.Trod enc P w base spare held t4 v4 d4 p4 ∧ DataW.Trod enc P w base spare held t5 v5 d5 p5 := by
 obtain ⟨v0, vs0, d0, ds0, p0, q0, hargs, rfl, rfl, h0, r0⟩ := trodAll_cons h
 obtain ⟨v1, vs1, d1, ds1, p1, q1, rfl, rfl, rfl, h1, r1⟩ := trodAll_cons r0
 obtain ⟨v2, vs2, d2, ds2, p2, q2, rfl, rfl, rfl, h2, r2⟩ := trodAll_cons r1
 obtain ⟨v3, vs3, d3, ds3, p3, q3, rfl, rfl, rfl, h3, r3⟩ := trodAll_cons r2
 obtain ⟨v4, vs4, d4, ds4, p4, q4, rfl, rfl, rfl, h4, r4⟩ := trodAll_cons r3
 obtain ⟨v5, vs5, d5, ds5, p5, q5, rfl, rfl, rfl, h5, r5⟩ := trodAll_cons r4
 obtain ⟨rfl, rfl, rfl⟩ := trodAll_nil r5
 exact ⟨v0, v1, v2, v3, v4, v5, d0, d1, d2, d3, d4, d5, p0, p1, p2, p3, p4, p5, by cases args; simp_all, rfl, by simp, h0, h1, h2, h3, h4, h5⟩
theorem rsaPsses_walk {H : Type} {enc : TypeId × Value → H} (W : World) (base : Nat) (args : Array Value) (ds : List (DataW H)) (p : List MemPlace) (hA0 : DataW.TrodAll enc Tryz.prog W 0 (fun _ => true) true Tryz.f6.params.toList args.toList ds p)
  (hval : ∀ (j : Nat) t v, Tryz.f6.params[j]? = some t → args[j]? = some v → Value.okWide Tryz.prog W .any base t v) (hz : (DataW.weightsEach Tryz.prog Tryz.f6.params.toList ds).all (· ≤ reachBytes) = true) (hL : laidMetH Tryz.prog laid2 W) :
  callK Tryz.prog 6 args.toList W fun v w' => v = .bool true ∧ Fr W w' nob := by
 have hA : DataW.TrodAll enc Tryz.prog W 0 (fun _ => true) true Tryz.f6.params.toList args.toList ds p := hA0
 rw [Tryz.params6] at hA hval
 obtain ⟨v0, v1, v2, v3, v4, v5, d0, d1, d2, d3, d4, d5, p0, p1, p2, p3, p4, p5, rfl, rfl, rfl, h0, h1, h2, h3, h4, h5⟩ := trodAll_six hA
 obtain ⟨vN, vE, n, y0, y1, rfl, g0, g1⟩ := open_rec2q Tryz.underlying24 (by kernel_rfl) rfl rfl (by kernel_rfl) (by kernel_rfl) (hval 0 24 v0 rfl rfl) h0
 obtain ⟨A, c, N, rfl, hc, hr, wN, mN⟩ := Row.cell_slv Tryz.underlying22 Tryz.underlying50 cells_u32 g0
 obtain ⟨B, d, E, rfl, hd, hs, wE, mE⟩ := Row.cell_slv Tryz.underlying22 Tryz.underlying50 cells_u32 g1
 obtain ⟨n1, rfl, -, -, w1⟩ := open_int Tryz.underlying3 (hval 1 3 v1 rfl rfl) h1
 obtain ⟨n2, rfl, -, -, w2⟩ := open_int Tryz.underlying3 (hval 2 3 v2 rfl rfl) h2
 obtain ⟨n3, rfl, -, -, w3⟩ := open_int Tryz.underlying3 (hval 3 3 v3 rfl rfl) h3
 obtain ⟨Ab, cb, lb, mb, rfl, hcb, h63b, -, hlb, hwb⟩ := Row.open_sl Tryz.underlying25 Tryz.underlying5 cells_u8 (hval 4 25 v4 rfl rfl) h4
 obtain ⟨Ac, cc, lc, mc, rfl, hcc, h63c, -, hlc, hwc⟩ := Row.open_sl Tryz.underlying25 Tryz.underlying5 cells_u8 (hval 5 25 v5 rfl rfl) h5
 exact psses_k (of_laid hL) ⟨A, c, rfl, hc, hr⟩ ⟨B, d, rfl, hd, hs⟩ (fun x h => Row.wf_u32 (wN x h)) (fun x h => Row.wf_u32 (wE x h)) (by unfold maxLen at mN; omega) (by unfold maxLen at mE; omega) (Row.wf_i64 w3) ⟨Ab, cb, rfl, hcb, hlb⟩ (byte_of hwb) (by unfold maxLen at h63b; omega) ⟨Ac, cc, rfl, hcc, hlc⟩ (byte_of hwc) (by unfold maxLen at h63c; omega) fun w' f => ⟨rfl, f⟩
theorem rsaPsses_lifted (os : Os) (started : os.Started) (H : Type) (enc : TypeId × Value → H) :
  ReturnsInHanded {} Tryz.checked os 6 .any (fun w args => (Rows.rsaPssesSpec.pre enc Tryz.prog Tryz.f6 [] false w args ∧ laidMetH Tryz.prog laid2 w) ∧ sizedMet enc Tryz.prog Tryz.f6 (OpenSpec.ofChange Rows.rsaPssesSpec) false w args)
   (Rows.rsaPssesSpec.post enc Tryz.prog Tryz.f6 false true false false) :=
 Row.lifted_of (C := Tryz.checked) (X := fun w _ => laidMetH Tryz.prog laid2 w) (fun _ _ _ hh h => h.of_heap hh) own started (by kernel_rfl) Tryz.func6
  (ChangeSpec.witness_shaped (enc := enc) (C := Tryz.checked) (os := os) (X := fun w _ => laidMetH Tryz.prog laid2 w) false (World.laidAll Tryz.prog os laid2) #[.agg #[.slice none 0 0, .slice none 0 0], .int .i64 0, .int .i64 0, .int .i64 0, .slice none 0 0, .slice none 0 0] 8 (World.laidAll_os _ _ _) (lay_shaped os) (by kernel_rfl) (by kernel_rfl) (by kernel_rfl) (door_met os _))
  laidOut (tb := 4) (by kernel_rfl) Tryz.underlying4 rfl (of_decide_eq_true (by kernel_rfl)) (fun ds h => by rw [show Tryz.f6.params.size = 6 by kernel_rfl] at h; obtain ⟨a, b, c, d, e, f, rfl⟩ := Row.len6 h; exact ⟨rfl, rfl, rfl⟩)
  (fun W base args ds p hA hval hz hL => rsaPsses_walk (enc := enc) W base args ds p hA hval hz hL)
theorem rsaPsses_holds : Rows.RsaPssesSaid :=
 OpenClaim.holds_of_wide 6 Tryz.f6 rfl rfl rfl rfl rfl rfl rfl ⟨rfl, rfl, rfl, rfl, rfl⟩ rfl rfl rfl rfl rfl (by kernel_rfl) Tryz.func6 (by kernel_rfl)
  (of_decide_eq_true (by kernel_rfl)) (by unfold Func.isWrapper; first | (rw [if_pos (by decide +kernel)]; kernel_rfl) | (rw [if_neg (by decide +kernel)]; exact ⟨rfl, rfl⟩))
  (fun os started H enc _ => rsaPsses_lifted os started H enc)
theorem rsaPsses_card : Rows.RsaPssesCardSaid :=
 Claim7.holds_tied_plain_at .later [] [.data, .data, .data, .pinned] true (true, "ed0f270b3f953eab1ddec2cd987d6191db15485d6d846c111d670dab35a1f37a") false
  rsaPsses_holds (fun _ h => by cases h) (by kernel_rfl) (fun _ h => by cases h) rsaPsses_row_tie rfl ⟨rfl, rfl⟩ (by kernel_rfl) rfl
  (fun f fn hf hfn => by
   obtain rfl : f = 6 := Option.some.inj ((show Tryz.prog.funcNamed "chirograph/chirographlaw08.RsaPsses" = some 6 by kernel_rfl).symm.trans hf) |>.symm
   obtain rfl : fn = Tryz.f6 := (Option.some.inj (Tryz.func6.symm.trans hfn)).symm
   exact ⟨by kernel_rfl, stand_of (by kernel_rfl)⟩)
  (by kernel_rfl)
end Go.Proofs.YtcgplgpdcfocpaaGreatDoor
end
