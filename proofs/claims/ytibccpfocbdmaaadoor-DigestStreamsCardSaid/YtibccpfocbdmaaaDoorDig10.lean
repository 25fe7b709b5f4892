/- The digests: what nobody's digest answers; slices of what is read; new lists of lists. -/
import Derived.Test.YtibccpfocbdmaaaDoorDigL
import Derived.Test.YtibccpfocbdmaaaDoorRefB
import Derived.Test.YtibccpfocbdmaaaDoorRefS
import Derived.Test.YtibccpfocbdmaaaDoorEngL
set_option linter.unusedVariables false
set_option linter.unusedSimpArgs false
namespace Go.Proofs.YtibccpfocbdmaaaDoor.Spec
open Go Go.RowKit Go.Proofs Go.Proofs.YtibccpfocbdmaaaDoor.Eng Go.Proofs.YtibccpfocbdmaaaDoor.Code
set_option maxRecDepth 100000
attribute [local irreducible] one dig

theorem write_nil {w : World} {A : Option Addr} {n c : Nat} (K : Value → World → Prop) (hK : K (.int .i64 7) w) : callK Tryd.prog 22 [.pointer none, .slice A n c] w K := by
  refine call_of Tryd.func22 Code.h22 (by simp [Code.c22]) ?_
  simp only [Code.c22, ↓EP, EQ, EM, ↓reduceIte, Int.reduceAdd, Int.reduceEq, Int.reduceLE, Int.reduceLT, Int.reduceMul, Int.reduceNeg, Int.reducePow, Int.reduceSub, Int.reduceToNat, Nat.reduceAdd, Nat.reduceEqDiff, Nat.reduceLT, Nat.reduceLeDiff, Nat.reduceMul, reduceCtorEq, Option.isNone_none, Bool.xor_false, Bool.true_bne, bne_self_eq_false, Bool.not_false]
  exact hK
theorem sum_nil {w : World} (K : Value → World → Prop) (hK : K (.slice none 0 0) w) : callK Tryd.prog 23 [.pointer none] w K := by
  refine call_of Tryd.func23 Code.h23 (by simp [Code.c23]) ?_
  simp only [Code.c23, ↓EP, EQ, EM, ↓reduceIte, Int.reduceAdd, Int.reduceEq, Int.reduceLE, Int.reduceLT, Int.reduceMul, Int.reduceNeg, Int.reducePow, Int.reduceSub, Int.reduceToNat, Nat.reduceAdd, Nat.reduceEqDiff, Nat.reduceLT, Nat.reduceLeDiff, Nat.reduceMul, reduceCtorEq, Option.isNone_none, Bool.xor_false, Bool.true_bne, bne_self_eq_false, Bool.not_false]
  exact hK
theorem len_nil {w : World} (K : Value → World → Prop) (hK : K (.int .i64 0) w) : callK Tryd.prog 24 [.pointer none] w K := by
  refine call_of Tryd.func24 Code.h24 (by simp [Code.c24]) ?_
  simp only [Code.c24, ↓EP, EQ, EM, ↓reduceIte, Int.reduceAdd, Int.reduceEq, Int.reduceLE, Int.reduceLT, Int.reduceMul, Int.reduceNeg, Int.reducePow, Int.reduceSub, Int.reduceToNat, Nat.reduceAdd, Nat.reduceEqDiff, Nat.reduceLT, Nat.reduceLeDiff, Nat.reduceMul, reduceCtorEq, Option.isNone_none, Bool.xor_false, Bool.true_bne, bne_self_eq_false, Bool.not_false]
  exact hK
theorem alg_nil {w : World} (K : Value → World → Prop) (hK : K (.int .i64 0) w) : callK Tryd.prog 27 [.pointer none] w K := by
  refine call_of Tryd.func27 Code.h27 (by simp [Code.c27]) ?_
  simp only [Code.c27, ↓EP, EQ, EM, ↓reduceIte, Int.reduceAdd, Int.reduceEq, Int.reduceLE, Int.reduceLT, Int.reduceMul, Int.reduceNeg, Int.reducePow, Int.reduceSub, Int.reduceToNat, Nat.reduceAdd, Nat.reduceEqDiff, Nat.reduceLT, Nat.reduceLeDiff, Nat.reduceMul, reduceCtorEq, Option.isNone_none, Bool.xor_false, Bool.true_bne, bne_self_eq_false, Bool.not_false]
  exact hK

theorem LL.two {w : World} {A B C : Option Addr} {n c m d : Nat} {p q : List Int} (h : Rd w A [.slice B n c, .slice C m d]) (hn : p.length = n) (hc : n ≤ c) (hb : Rd w B (nums .u8 p)) (hm : q.length = m) (hd : m ≤ d) (hq : Rd w C (nums .u8 q)) : LL w A [p, q] [.slice B n c, .slice C m d] := by
  refine ⟨h, rfl, fun i r v h1 h2 => ?_⟩
  match i, h1, h2 with
  | 0, h1, h2 => simp at h1 h2; subst h1; subst h2; subst hn; exact ⟨B, c, rfl, hc, hb⟩
  | 1, h1, h2 => simp at h1 h2; subst h1; subst h2; subst hm; exact ⟨C, d, rfl, hd, hq⟩
  | (i + 2), h1, h2 => simp at h1
theorem LL.three {w : World} {A B C D : Option Addr} {n c m d o e : Nat} {p q s : List Int} (h : Rd w A [.slice B n c, .slice C m d, .slice D o e]) (hn : p.length = n) (hc : n ≤ c) (hb : Rd w B (nums .u8 p)) (hm : q.length = m) (hd : m ≤ d) (hq : Rd w C (nums .u8 q)) (ho : s.length = o) (he : o ≤ e) (hs : Rd w D (nums .u8 s)) : LL w A [p, q, s] [.slice B n c, .slice C m d, .slice D o e] := by
  refine ⟨h, rfl, fun i r v h1 h2 => ?_⟩
  match i, h1, h2 with
  | 0, h1, h2 => simp at h1 h2; subst h1; subst h2; subst hn; exact ⟨B, c, rfl, hc, hb⟩
  | 1, h1, h2 => simp at h1 h2; subst h1; subst h2; subst hm; exact ⟨C, d, rfl, hd, hq⟩
  | 2, h1, h2 => simp at h1 h2; subst h1; subst h2; subst ho; exact ⟨D, e, rfl, he, hs⟩
  | (i + 3), h1, h2 => simp at h1
theorem Tb.nb {w w' : World} (h : Tb w) (f : Fr w w' nob) : Tb w' := h.fr f (fun x => x) (fun x => x)
theorem rd_ro' {k : IntKind} {w : World} {A : Option Addr} {l : List Int} (h : Rd w A (nums k l)) {w' : World} (f : Fr w w' nob) {P : Nat → Prop} (hp : ∀ b, P b → w.heap.size ≤ b) : RO k w' A l P := (rd_ro h hp).fr (f.mono fun _ _ e => e.elim)
/-- A digest under way: the object and its rest lie in blocks that were not there at first. -/
structure Hw (w0 w : World) (hb : Nat) (rv : Value) (alg : Int) (m : List Int) : Prop where
  h : Hsh w hb rv alg m
  up : w0.heap.size ≤ hb
  upr : ∀ b, blkOf rv = some b → w0.heap.size ≤ b
theorem Hw.nb {w0 w w' : World} {hb : Nat} {rv : Value} {alg : Int} {m : List Int} (h : Hw w0 w hb rv alg m) (f : Fr w w' nob) : Hw w0 w' hb rv alg m :=
  ⟨⟨h.h.hc.fr f (fun x => x), h.h.a1, h.h.a4, Sl.nb h.h.sl f, h.h.hi, h.h.ri⟩, h.up, h.upr⟩
theorem Hw.off {w0 w : World} {hb : Nat} {rv : Value} {alg : Int} {m : List Int} (h : Hw w0 w hb rv alg m) : ∀ b, hP hb rv b → w0.heap.size ≤ b := fun b e => by
  rcases e with rfl | e
  · exact h.up
  · exact h.upr b e
/-- 'Write' of what was there at first. -/
theorem hw_write {w0 w : World} {hb : Nat} {rv : Value} {alg : Int} {m p : List Int} (h : Hw w0 w hb rv alg m) (f : Fr w0 w nob) (hT : Tb w0) {A : Option Addr} {c n : Nat} (hn : p.length = n) (hr : Rd w0 A (nums .u8 p)) (hpc : n ≤ c) (hmx : m.length + p.length ≤ 16777216) (K : Value → World → Prop)
    (hK : ∀ rv' w', Hw w0 w' hb rv' alg (m ++ p) → Fr w0 w' nob → Fr w w' (hP hb rv) → (∀ b, blkOf rv' = some b → blkOf rv = some b ∨ w.heap.size ≤ b) → K (.int .i64 0) w') : callK Tryd.prog 22 [.pointer (some ⟨hb, 0, none⟩), .slice A n c] w K := by
  subst hn
  refine write_spec h.h (hT.nb f) (rd_ro' hr f h.off) hpc hmx K fun rv' w' h' t' hu f' => hK rv' w' ⟨h', h.up, fun b e => ?_⟩ (f.own f' h.off) f' hu
  rcases hu b e with e | e
  · exact h.upr b e
  · exact Nat.le_trans f.size e
theorem hw_new {w0 w : World} (f : Fr w0 w nob) {alg : Int} {rv : Value} {w' : World} (H : Hsh w' w.heap.size rv alg []) (hr : rv = .slice none 0 0) : Hw w0 w' w.heap.size rv alg [] := ⟨H, f.size, fun b e => by subst hr; cases e⟩
theorem Hw.old {w0 w : World} {hb : Nat} {rv : Value} {alg : Int} {m : List Int} (h : Hw w0 w hb rv alg m) : ∀ b, hP hb rv b → b < w.heap.size := fun b e => by
  rcases e with rfl | e
  · exact h.h.hc.blk.lt
  · exact h.h.sl.lt e
/-- Its digest so far. -/
theorem hw_sum {w0 w : World} {hb : Nat} {rv : Value} {alg : Int} {m : List Int} (h : Hw w0 w hb rv alg m) (f : Fr w0 w nob) (hT : Tb w0) (hmx : m.length ≤ 16777216) {S : Nat} (hS : sizeI alg = S) (K : Value → World → Prop)
    (hK : ∀ A c w', S ≤ c → Sl .u8 w' (.slice A S c) (dig alg m) → (∀ b, blkOf (.slice A S c) = some b → w.heap.size ≤ b) → Hw w0 w' hb rv alg m → Fr w0 w' nob → Fr w w' nob → K (.slice A S c) w') : callK Tryd.prog 23 [.pointer (some ⟨hb, 0, none⟩)] w K := by
  refine sum_spec h.h (hT.nb f) hmx K fun A c w' h1 h2 h3 h4 => ?_
  have e : (sizeI alg).toNat = S := by rw [hS]; omega
  rw [e] at h1 h2 h3 ⊢
  exact hK A c w' h1 h2 h3 (h.nb h4) (f.nb h4) h4
/-- The digest of one list. -/
theorem one_sum {w : World} (hT : Tb w) {alg : Int} (a1 : 1 ≤ alg) (a4 : alg ≤ 4) {A B : Option Addr} {n c d : Nat} {p : List Int} (hA : Rd w A [.slice B n c]) (hn : p.length = n) (hc : n ≤ c) (hB : Rd w B (nums .u8 p)) (hmx : p.length ≤ 16777216) {S : Nat} (hS : sizeI alg = S) (K : Value → World → Prop)
    (hK : ∀ A c w', S ≤ c → Sl .u8 w' (.slice A S c) (dig alg p) → (∀ b, blkOf (.slice A S c) = some b → w.heap.size ≤ b) → Fr w w' nob → K (.tuple #[.slice A S c, .int .i64 0]) w') : callK Tryd.prog 12 [.int .i64 alg, .slice A 1 d] w K := by
  refine dsum_spec alg (l := [p]) (LL.one hA hn hc hB) hT (by rw [tot1]; omega) (by simp) K (fun _ _ B' c' w' h1 h2 h3 h4 => ?_) (fun h => by omega)
  have e : (sizeI alg).toNat = S := by rw [hS]; omega
  rw [flat1, e] at h2
  rw [e] at h1 h3 ⊢
  exact hK B' c' w' h1 h2 h3 h4
end Go.Proofs.YtibccpfocbdmaaaDoor.Spec
