/- The helpers of the statements: bytes that are lent, and whether they were kept. -/
import Derived.Test.YtcflokckfjkdpaaDoorRefB
import Derived.Test.YtcflokckfjkdpaaDoorEngM
set_option linter.unusedVariables false
set_option linter.unusedSimpArgs false
namespace Go.Proofs.YtcflokckfjkdpaaDoor.Spec
open Go Go.RowKit Go.Proofs Go.Proofs.YtcflokckfjkdpaaDoor.Eng Go.Proofs.YtcflokckfjkdpaaDoor.Code
set_option maxRecDepth 100000

/-- A list in a block of its own, with two marks behind it. -/
structure Lnt (k : IntKind) (w0 w : World) (v : Value) (l : List Int) (x y : Int) : Prop where
  ex : ∃ b pad, v = .slice (some ⟨b, 0, none⟩) l.length (l.length + (2 + pad.length)) ∧ Blk w b (nums k (l ++ [x, y] ++ pad)) ∧ w0.heap.size ≤ b
theorem Lnt.fr {k : IntKind} {w0 w w' : World} {v : Value} {l : List Int} {x y : Int} (h : Lnt k w0 w v l x y) {P : Nat → Prop} (f : Fr w w' P) (hp : ∀ b, blkOf v = some b → ¬ P b) : Lnt k w0 w' v l x y := by
  obtain ⟨b, pad, rfl, hB, hb⟩ := h.ex
  exact ⟨b, pad, rfl, hB.fr f (hp b rfl), hb⟩
theorem Lnt.read {k : IntKind} {w0 w : World} {v : Value} {l : List Int} {x y : Int} (h : Lnt k w0 w v l x y) : ∃ b c, v = .slice (some ⟨b, 0, none⟩) l.length c ∧ l.length + 2 ≤ c ∧ w0.heap.size ≤ b ∧ Rd w (some ⟨b, 0, none⟩) (nums k l) := by
  obtain ⟨b, pad, rfl, hB, hb⟩ := h.ex
  exact ⟨b, _, rfl, by omega, hb, hB.rd 0 (n := l.length) (by rw [List.drop_zero, nums_take]; simp)⟩
theorem sl_lnt {k : IntKind} {w0 w : World} {A : Option Addr} {n c : Nat} {l : List Int} {x y : Int} (g : Gw k w0 w (.slice A n c) (l ++ [x, y])) : Lnt k w0 w (.slice A l.length c) l x y ∧ l.length + 2 ≤ c := by
  rcases g.sl with ⟨h, _⟩ | ⟨b, pad, e, hB⟩
  · simp at h
  · cases e
    refine ⟨⟨b, pad, ?_, hB, g.up b rfl⟩, by simp⟩
    simp only [List.length_append, List.length_cons, List.length_nil]
    congr 1; omega
theorem lent_spec {w : World} {A : Option Addr} {n c : Nat} {l : List Int} (hn : l.length = n) (hl : Rd w A (nums .u8 l)) (h47 : n ≤ 140737488355320) (K : Value → World → Prop)
    (hK : ∀ v w', Lnt .u8 w w' v l 90 165 → Fr w w' nob → K v w') : callK Tryd.prog 13 [.slice A n c] w K := by
  refine call_of Tryd.func13 Code.h13 (by simp [Code.c13]) ?_
  subst hn
  simp (disch := omega) only [EO, ↓EP, EQ, EM, ↓reduceIte, Int.reduceAdd, Int.reduceEq, Int.reduceLE, Int.reduceLT, Int.reduceMul, Int.reduceNeg, Int.reducePow, Int.reduceSub, Int.reduceToNat, Nat.reduceAdd, Nat.reduceEqDiff, Nat.reduceLT, Nat.reduceLeDiff, Nat.reduceMul, reduceCtorEq, Code.c13]
  refine al_k (nums .u8 []) rfl fun w1 n1 => ?_
  have g1 : Gw .u8 w w1 (.slice (some ⟨w.heap.size, 0, none⟩) 0 0) [] := ⟨n1.sl, fun b e => by cases e; exact Nat.le_refl _, n1.fr nob⟩
  simp (disch := omega) only [EO, ↓EP, EQ, EM, ↓reduceIte, Int.reduceAdd, Int.reduceEq, Int.reduceLE, Int.reduceLT, Int.reduceMul, Int.reduceNeg, Int.reducePow, Int.reduceSub, Int.reduceToNat, Nat.reduceAdd, Nat.reduceEqDiff, Nat.reduceLT, Nat.reduceLeDiff, Nat.reduceMul, reduceCtorEq]
  refine app_num g1.sl rfl (hl.fr (n1.fr nob) (.inr fun _ _ x => x)) (by rw [List.length_nil]; omega) (by omega) fun v2 w2 a2 => ?_
  have g2 := g1.apd a2
  rw [List.nil_append] at g2
  simp (disch := omega) only [EO, ↓EP, EQ, EM, ↓reduceIte, Int.reduceAdd, Int.reduceEq, Int.reduceLE, Int.reduceLT, Int.reduceMul, Int.reduceNeg, Int.reducePow, Int.reduceSub, Int.reduceToNat, Nat.reduceAdd, Nat.reduceEqDiff, Nat.reduceLT, Nat.reduceLeDiff, Nat.reduceMul, reduceCtorEq]
  refine bsl2 fun w3 n3 => ?_
  have g3 := g2.new n3
  simp (disch := omega) only [EO, ↓EP, EQ, EM, ↓reduceIte, Int.reduceAdd, Int.reduceEq, Int.reduceLE, Int.reduceLT, Int.reduceMul, Int.reduceNeg, Int.reducePow, Int.reduceSub, Int.reduceToNat, Nat.reduceAdd, Nat.reduceEqDiff, Nat.reduceLT, Nat.reduceLeDiff, Nat.reduceMul, reduceCtorEq]
  refine app_num g3.sl rfl n3.rdl (by rw [List.length_cons, List.length_cons, List.length_nil]; omega) (by omega) fun v4 w4 a4 => ?_
  have g4 := g3.apd a4
  obtain ⟨A4, c4, rfl, hc4, _, _⟩ := g4.sl.read
  obtain ⟨h5, h6⟩ := sl_lnt g4
  simp (disch := omega) only [EO, ↓EP, EQ, EM, ↓reduceIte, Int.reduceAdd, Int.reduceEq, Int.reduceLE, Int.reduceLT, Int.reduceMul, Int.reduceNeg, Int.reducePow, Int.reduceSub, Int.reduceToNat, Nat.reduceAdd, Nat.reduceEqDiff, Nat.reduceLT, Nat.reduceLeDiff, Nat.reduceMul, reduceCtorEq]
  exact hK _ _ h5 g4.fr
theorem kept_spec {w0 w : World} {v : Value} {B : Option Addr} {m d : Nat} {l : List Int} (hv : Lnt .u8 w0 w v l 90 165) (hm : l.length = m) (hr : Rd w B (nums .u8 l)) (h47 : m ≤ 140737488355320) (K : Value → World → Prop)
    (hK : ∀ w', Fr w w' nob → K (.bool true) w') : callK Tryd.prog 20 [v, .slice B m d] w K := by
  obtain ⟨b, pad, rfl, hB, hb⟩ := hv.ex
  refine call_of Tryd.func20 Code.h20 (by simp [Code.c20]) ?_
  subst hm
  simp (disch := omega) only [EO, ↓EP, EQ, EM, ↓reduceIte, Int.reduceAdd, Int.reduceEq, Int.reduceLE, Int.reduceLT, Int.reduceMul, Int.reduceNeg, Int.reducePow, Int.reduceSub, Int.reduceToNat, Nat.reduceAdd, Nat.reduceEqDiff, Nat.reduceLT, Nat.reduceLeDiff, Nat.reduceMul, reduceCtorEq, Code.c20]
  have hA : Rd w (some ⟨b, 0, none⟩) (nums .u8 l) := hB.rd 0 (n := l.length) (by rw [List.drop_zero, nums_take]; simp)
  refine same_spec rfl rfl hA hr (by omega) _ fun w' f => ?_
  rw [decide_eq_true rfl]
  have hB' := hB.fr f (fun x => x)
  have c0 : w'.cell? ⟨b, l.length, none⟩ = some (.int .u8 90) := by
    rw [hB'.cell?]; simp [nums]
  have c1 : w'.cell? ⟨b, l.length + 1, none⟩ = some (.int .u8 165) := by
    rw [hB'.cell?]; simp [nums]
  have e1 : ((l.length : Int) + 1).toNat = l.length + 1 := by omega
  simp (disch := omega) only [EO, ↓EP, EQ, EM, ↓reduceIte, Int.reduceAdd, Int.reduceEq, Int.reduceLE, Int.reduceLT, Int.reduceMul, Int.reduceNeg, Int.reducePow, Int.reduceSub, Int.reduceToNat, Nat.reduceAdd, Nat.reduceEqDiff, Nat.reduceLT, Nat.reduceLeDiff, Nat.reduceMul, reduceCtorEq, c0, c1, e1]
  exact hK w' f
end Go.Proofs.YtcflokckfjkdpaaDoor.Spec
