/- Rows of elements: rows in memory; bytes that are cloned. -/
import Derived.Test.YtcflokckfjkdpaaDoorDt1
import Derived.Test.YtcflokckfjkdpaaDoorEngN
set_option linter.unusedVariables false
set_option linter.unusedSimpArgs false
namespace Go.Proofs.YtcflokckfjkdpaaDoor.Der
open Go Go.RowKit Go.Proofs Go.Proofs.YtcflokckfjkdpaaDoor.Eng Go.Proofs.YtcflokckfjkdpaaDoor.Code
set_option maxRecDepth 100000
attribute [local irreducible] callK S.W opsW scrW scrT

theorem readn {k : IntKind} {w : World} {v : Value} {l : List Int} (h : Sl k w v l) {n : Nat} (hn : l.length = n) : ∃ A c, v = .slice A n c ∧ n ≤ c ∧ Rd w A (nums k l) := by
  subst hn; obtain ⟨A, c, e, h1, h2, _⟩ := h.read; exact ⟨A, c, e, h1, h2⟩
theorem e_sl0 (neg : Bool) (n c m d : Nat) (b : Option Addr) (K : Value → Prop) : eqK .slice neg (.slice none n c) (.slice b m d) K = K (.bool (b.isNone ^^ neg)) := rfl
theorem e_sl1 (neg : Bool) (n c m d : Nat) (a : Addr) (K : Value → Prop) : eqK .slice neg (.slice (some a) n c) (.slice none m d) K = K (.bool neg) := rfl
theorem clone_vw {w : World} {v : Value} {l : List Int} (hv : Vw .u8 w v l) (hm : l.length ≤ 1073741824) (K : Value → World → Prop)
    (hK : ∀ v' w', Gw .u8 w w' v' l → K v' w') : callK Tryd.prog 46 [v] w K := by
  obtain ⟨A, c, rfl, hc, hr⟩ := hv
  refine call_of Tryd.func46 Code.h46 (by simp [Code.c46]) ?_
  cases A with
  | none =>
    have hl : l = [] := by
      rcases hr with h | ⟨p, e, _⟩
      · exact nums_isNil h
      · cases e
    subst hl
    simp (disch := omega) only [wu64, wu32, wu8, fdiv_nn, EO, ↓EP, EQ, EM, ↓reduceIte, Int.reduceAdd, Int.reduceEq, Int.reduceLE, Int.reduceLT, Int.reduceMul, Int.reduceNeg, Int.reducePow, Int.reduceSub, Int.reduceToNat, Nat.reduceAdd, Nat.reduceEqDiff, Nat.reduceLT, Nat.reduceLeDiff, Nat.reduceMul, reduceCtorEq, Code.c46, e_sl0, e_sl1, Option.isNone_none, Bool.xor_false]
    exact hK _ _ (Gw.nil .u8 w)
  | some ad =>
    simp (disch := omega) only [wu64, wu32, wu8, fdiv_nn, EO, ↓EP, EQ, EM, ↓reduceIte, Int.reduceAdd, Int.reduceEq, Int.reduceLE, Int.reduceLT, Int.reduceMul, Int.reduceNeg, Int.reducePow, Int.reduceSub, Int.reduceToNat, Nat.reduceAdd, Nat.reduceEqDiff, Nat.reduceLT, Nat.reduceLeDiff, Nat.reduceMul, reduceCtorEq, Code.c46, e_sl0, e_sl1, Option.isNone_none, Bool.xor_false]
    refine al_k (nums .u8 []) rfl fun w1 n1 => ?_
    have g1 : Gw .u8 w w1 (.slice (some ⟨w.heap.size, 0, none⟩) 0 0) [] := ⟨n1.sl, fun b e => by cases e; exact Nat.le_refl _, n1.fr nob⟩
    simp (disch := omega) only [wu64, wu32, wu8, fdiv_nn, EO, ↓EP, EQ, EM, ↓reduceIte, Int.reduceAdd, Int.reduceEq, Int.reduceLE, Int.reduceLT, Int.reduceMul, Int.reduceNeg, Int.reducePow, Int.reduceSub, Int.reduceToNat, Nat.reduceAdd, Nat.reduceEqDiff, Nat.reduceLT, Nat.reduceLeDiff, Nat.reduceMul, reduceCtorEq]
    refine app_num g1.sl rfl (hr.nb (n1.fr nob)) (by rw [List.length_nil]; omega) (by omega) fun v2 w2 a2 => ?_
    have g2 := g1.apd a2
    rw [List.nil_append] at g2
    simp (disch := omega) only [wu64, wu32, wu8, fdiv_nn, EO, ↓EP, EQ, EM, ↓reduceIte, Int.reduceAdd, Int.reduceEq, Int.reduceLE, Int.reduceLT, Int.reduceMul, Int.reduceNeg, Int.reducePow, Int.reduceSub, Int.reduceToNat, Nat.reduceAdd, Nat.reduceEqDiff, Nat.reduceLT, Nat.reduceLeDiff, Nat.reduceMul, reduceCtorEq]
    exact hK v2 w2 g2

/-! ### Lists of bytes, each in a block of its own, apart from a block -/
structure Rws (w0 w : World) (X : Value) (vs : List Value) (ls : List (List Int)) : Prop where
  len : vs.length = ls.length
  each : ∀ (i : Nat) (v : Value) (l : List Int), vs[i]? = some v → ls[i]? = some l → Sl .u8 w v l
  up : ∀ (i : Nat) (v : Value) (b : Nat), vs[i]? = some v → blkOf v = some b → w0.heap.size ≤ b ∧ b < w.heap.size ∧ blkOf X ≠ some b
  apart : ∀ (i j : Nat) (u v : Value) (b : Nat), i ≠ j → vs[i]? = some u → vs[j]? = some v → blkOf u = some b → blkOf v ≠ some b
theorem Rws.nil (w0 w : World) (X : Value) : Rws w0 w X [] [] := ⟨rfl, fun i v l h => by simp at h, fun i v b h => by simp at h, fun i j u v b _ h => by simp at h⟩
theorem Rws.nb {w0 w w' : World} {X : Value} {vs : List Value} {ls : List (List Int)} (h : Rws w0 w X vs ls) (f : Fr w w' nob) : Rws w0 w' X vs ls :=
  ⟨h.len, fun i v l h1 h2 => Sl.nb (h.each i v l h1 h2) f, fun i v b h1 h2 => ⟨(h.up i v b h1 h2).1, Nat.lt_of_lt_of_le (h.up i v b h1 h2).2.1 f.size, (h.up i v b h1 h2).2.2⟩, h.apart⟩
/-- A new one, made behind the others. -/
theorem Rws.add {w0 w w' : World} {X v : Value} {vs : List Value} {ls : List (List Int)} {l : List Int} (h : Rws w0 w X vs ls) (hX : ∀ b, blkOf X = some b → b < w.heap.size) (f0 : Fr w0 w nob) (g : Gw .u8 w w' v l) : Rws w0 w' X (vs ++ [v]) (ls ++ [l]) := by
  have h' := h.nb g.fr
  have old : ∀ (i : Nat) (u : Value) (b : Nat), vs[i]? = some u → blkOf u = some b → b < w.heap.size := fun i u b h1 h2 => (h.up i u b h1 h2).2.1
  have spl : ∀ {i : Nat} {u : Value}, (vs ++ [v])[i]? = some u → (i < vs.length ∧ vs[i]? = some u) ∨ (i = vs.length ∧ u = v) := by
    intro i u hi
    by_cases hlt : i < vs.length
    · rw [List.getElem?_append_left hlt] at hi; exact .inl ⟨hlt, hi⟩
    · have hi' := (List.getElem?_eq_some_iff.1 hi).1
      simp at hi'
      have e : i = vs.length := by omega
      subst e
      simp at hi
      exact .inr ⟨rfl, hi.symm⟩
  refine ⟨by simp [h.len], fun i u l' h1 h2 => ?_, fun i u b h1 h2 => ?_, fun i j u u' b hne h1 h2 hb => ?_⟩
  · rcases spl h1 with ⟨hlt, h1⟩ | ⟨rfl, rfl⟩
    · rw [List.getElem?_append_left (by rw [← h.len]; exact hlt)] at h2
      exact h'.each i u l' h1 h2
    · rw [h.len] at h2
      simp at h2
      subst h2
      exact g.sl
  · rcases spl h1 with ⟨hlt, h1⟩ | ⟨rfl, rfl⟩
    · exact h'.up i u b h1 h2
    · have := g.up b h2
      have z := f0.size
      exact ⟨by omega, g.sl.lt h2, fun e => by have := hX b e; omega⟩
  · rcases spl h1 with ⟨hlt, k1⟩ | ⟨k1, e1⟩
    · rcases spl h2 with ⟨hlt2, k2⟩ | ⟨k2, e2⟩
      · exact h.apart i j u u' b hne k1 k2 hb
      · intro e
        rw [e2] at e
        have := g.up b e
        have := old i u b k1 hb
        omega
    · rw [e1] at hb
      rcases spl h2 with ⟨hlt2, k2⟩ | ⟨k2, e2⟩
      · intro e
        have := g.up b hb
        have := old j u' b k2 e
        omega
      · exact absurd (k1.trans k2.symm) hne
/-- The row that they stand in is moved, or written over. -/
theorem Rws.row {w0 w w' : World} {X X' : Value} {n : Nat} {cs : List Value} {vs : List Value} {ls : List (List Int)} (h : Rws w0 w X vs ls) {sz : Nat} (a : Ag sz w X n cs X' w') : Rws w0 w' X' vs ls := by
  refine ⟨h.len, fun i v l h1 h2 => (h.each i v l h1 h2).fr a.fr fun b e => (h.up i v b h1 e).2.2, fun i v b h1 h2 => ?_, h.apart⟩
  obtain ⟨u1, u2, u3⟩ := h.up i v b h1 h2
  refine ⟨u1, Nat.lt_of_lt_of_le u2 a.fr.size, fun e => ?_⟩
  rcases a.where_ with hw | hw
  · exact u3 (hw ▸ e)
  · have := hw b e; omega

def tcells (t : Tlv) (d r : Value) : List Value := [.int .i64 t.cls, .int .i64 t.tag, .bool t.cons, d, r]
def tflat (ts : List Tlv) : List (List Int) := ts.flatMap fun t => [t.data, t.raw]
def cellsT : List Tlv → List Value → List Value
  | t :: ts, d :: r :: vs => tcells t d r ++ cellsT ts vs
  | _, _ => []
theorem tflat_len (ts : List Tlv) : (tflat ts).length = 2 * ts.length := by
  induction ts with
  | nil => rfl
  | cons t ts ih => simp only [tflat, List.flatMap_cons, List.length_append, List.length_cons, List.length_nil] at *; omega
theorem tflat_add (ts : List Tlv) (t : Tlv) : tflat (ts ++ [t]) = tflat ts ++ [t.data, t.raw] := by simp [tflat]
theorem cellsT_len : ∀ (ts : List Tlv) (vs : List Value), vs.length = 2 * ts.length → (cellsT ts vs).length = ts.length * 5
  | [], vs, h => by
    have : vs = [] := List.length_eq_zero_iff.1 (by simpa using h)
    subst this; rfl
  | t :: ts, d :: r :: vs, h => by
    simp only [cellsT, List.length_append, tcells, List.length_cons, List.length_nil]
    rw [cellsT_len ts vs (by simp at h; omega)]; omega
  | t :: ts, [], h => by simp at h
  | t :: ts, [d], h => by simp at h; omega
theorem cellsT_add : ∀ (ts : List Tlv) (vs : List Value) (t : Tlv) (d r : Value), vs.length = 2 * ts.length → cellsT (ts ++ [t]) (vs ++ [d, r]) = cellsT ts vs ++ tcells t d r
  | [], vs, t, d, r, h => by
    have : vs = [] := List.length_eq_zero_iff.1 (by simpa using h)
    subst this; simp [cellsT]
  | t :: ts, d :: r :: vs, t', d', r', h => by
    simp only [cellsT, List.cons_append]
    rw [cellsT_add ts vs t' d' r' (by simp at h; omega), List.append_assoc]
  | t :: ts, [], _, _, _, h => by simp at h
  | t :: ts, [d], _, _, _, h => by simp at h; omega
/-- A row of elements that is the caller's own. -/
structure Tls (w0 w : World) (X : Value) (ts : List Tlv) (vs : List Value) : Prop where
  g : Gg 5 w0 w X ts.length (cellsT ts vs)
  r : Rws w0 w X vs (tflat ts)
theorem Tls.nil (w : World) : Tls w w (.slice none 0 0) [] [] := ⟨Gg.nil 5 w, Rws.nil w w _⟩
theorem Tls.nb {w0 w w' : World} {X : Value} {ts : List Tlv} {vs : List Value} (h : Tls w0 w X ts vs) (f : Fr w w' nob) : Tls w0 w' X ts vs := ⟨h.g.step f, h.r.nb f⟩
theorem Tls.vlen {w0 w : World} {X : Value} {ts : List Tlv} {vs : List Value} (h : Tls w0 w X ts vs) : vs.length = 2 * ts.length := by rw [h.r.len, tflat_len]
end Go.Proofs.YtcflokckfjkdpaaDoor.Der
