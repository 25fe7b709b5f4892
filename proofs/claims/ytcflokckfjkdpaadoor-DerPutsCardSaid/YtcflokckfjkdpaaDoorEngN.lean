/- The engine: slices whose elements are groups of cells. -/
import Derived.Test.YtcflokckfjkdpaaDoorEngM
set_option linter.unusedVariables false
namespace Go.Proofs.YtcflokckfjkdpaaDoor.Eng
open Go Go.RowKit
theorem zeroCells_len (z : Array Value) (n : Nat) : (Builtin.zeroCells z n).toList.length = n * z.size := by simp [Builtin.zeroCells]
/-- A slice of n elements of sz cells in a block of its own. -/
def Sg (sz : Nat) (w : World) (v : Value) (n : Nat) (cs : List Value) : Prop :=
  cs.length = n * sz ∧ ((n = 0 ∧ v = .slice none 0 0) ∨ ∃ b q pad, v = .slice (some ⟨b, 0, none⟩) n (n + q) ∧ pad.length = q * sz ∧ Blk w b (cs ++ pad))
theorem Sg.nil (sz : Nat) (w : World) : Sg sz w (.slice none 0 0) 0 [] := ⟨by simp, .inl ⟨rfl, rfl⟩⟩
theorem Sg.lt {sz : Nat} {w : World} {v : Value} {n : Nat} {cs : List Value} (h : Sg sz w v n cs) {b : Nat} (hb : blkOf v = some b) : b < w.heap.size := by
  rcases h.2 with ⟨_, rfl⟩ | ⟨b', q, pad, rfl, _, hB⟩
  · cases hb
  · cases hb; exact hB.lt
theorem Sg.fr {sz : Nat} {w w' : World} {P : Nat → Prop} {v : Value} {n : Nat} {cs : List Value} (h : Sg sz w v n cs) (f : Fr w w' P) (ho : ∀ b, blkOf v = some b → ¬ P b) : Sg sz w' v n cs := by
  refine ⟨h.1, ?_⟩
  rcases h.2 with h | ⟨b, q, pad, rfl, hp, hB⟩
  · exact .inl h
  · exact .inr ⟨b, q, pad, rfl, hp, hB.fr f (ho b rfl)⟩
theorem Sg.nb {sz : Nat} {w w' : World} {v : Value} {n : Nat} {cs : List Value} (h : Sg sz w v n cs) (f : Fr w w' nob) : Sg sz w' v n cs := h.fr f fun _ _ x => x
theorem Sg.read {sz : Nat} {w : World} {v : Value} {n : Nat} {cs : List Value} (h : Sg sz w v n cs) : ∃ A c, v = .slice A n c ∧ n ≤ c ∧ Rd w A cs := by
  rcases h.2 with ⟨h0, rfl⟩ | ⟨b, q, pad, rfl, hp, hB⟩
  · subst h0
    exact ⟨none, 0, rfl, Nat.le_refl _, .inl (List.length_eq_zero_iff.1 (by rw [h.1]; simp))⟩
  · exact ⟨_, _, rfl, by omega, hB.rd 0 (n := cs.length) (by simp)⟩
structure Ag (sz : Nat) (w : World) (x : Value) (n : Nat) (cs : List Value) (v : Value) (w' : World) : Prop where
  sl : Sg sz w' v n cs
  where_ : blkOf v = blkOf x ∨ freshV w v
  fr : Fr w w' (fun b => blkOf x = some b)
theorem appC_g {sz e bytes : Nat} {z : Array Value} {w : World} {A : Option Addr} {n c m : Nat} {cs us : List Value} {K : Value → World → Prop} (hx : Sg sz w (.slice A n c) n cs) (hz : z.size = sz) (hu : us.length = m * sz) (h1 : ∀ u ∈ us, u.oneCell' = true)
    (hs : (n + m) * bytes ≤ 140737488355328) (hb : 0 < bytes) (hK : ∀ v w', Ag sz w (.slice A n c) (n + m) (cs ++ us) v w' → K v w') : appC e sz bytes z A n c m us w K := by
  have hcs := hx.1
  have hlen : (cs ++ us).length = (n + m) * sz := by rw [List.length_append, hcs, hu, Nat.add_mul]
  constructor
  · intro hc
    by_cases h0 : m = 0
    · subst h0
      have hus : us = [] := List.length_eq_zero_iff.1 (by rw [hu]; simp)
      subst hus
      refine .inl ⟨rfl, hK _ _ ⟨?_, .inl rfl, Fr.refl _ _⟩⟩
      rw [List.append_nil]; exact hx
    · rcases hx.2 with ⟨h, e⟩ | ⟨b, q, pad, e, hp, hB⟩
      · cases e; omega
      · cases e
        have hq : m ≤ q := by omega
        have hqz : m * sz ≤ q * sz := Nat.mul_le_mul_right _ hq
        refine .inr ⟨b, 0, rfl, h1, fun j hj => ?_, fun j hj => hB.frozen _, hK _ _ ?_⟩
        · exact hB.isSome (by rw [List.length_append, hcs, hp]; omega)
        · have hw := put_cells hB (0 + n * sz) us (by rw [List.length_append, hcs, hp]; omega)
          have e : (cs ++ pad).take (0 + n * sz) ++ us ++ (cs ++ pad).drop (0 + n * sz + us.length) = (cs ++ us) ++ pad.drop us.length := by
            rw [Nat.zero_add, ← hcs, List.take_left, ← List.drop_drop, List.drop_left]
          rw [e] at hw
          refine ⟨⟨hlen, .inr ⟨b, q - m, pad.drop us.length, ?_, ?_, hw.blk⟩⟩, .inl rfl, ?_⟩
          · congr 1; omega
          · rw [List.length_drop, hp, hu, Nat.sub_mul]
          · exact hw.fr.mono fun x _ hx => by subst hx; rfl
  · intro hc
    refine ⟨cs, hcs, fun h0 => ?_, hs, ?_, hb, fun c' g1 g2 => hK _ _ ?_⟩
    · rcases hx.2 with ⟨h, e⟩ | ⟨b, q, pad, e, hp, hB⟩
      · omega
      · cases e
        refine ⟨_, rfl, ?_⟩
        have := (hB.cellsAt0).take cs.length
        rwa [List.take_left] at this
    · have : n + m ≤ (n + m) * bytes := Nat.le_mul_of_pos_right _ hb
      omega
    · have hz' : ((cs ++ us).toArray ++ Builtin.zeroCells z (c' - (n + m))).toList = (cs ++ us) ++ (Builtin.zeroCells z (c' - (n + m))).toList := by
        rw [Array.toList_append]
      have hN := new_of (w := w.drew) (t := e) rfl hz'
      refine ⟨⟨hlen, .inr ⟨w.heap.size, c' - (n + m), (Builtin.zeroCells z (c' - (n + m))).toList, ?_, by rw [zeroCells_len, hz], hN.blk⟩⟩, .inr fun b hb => ?_, ?_⟩
      · congr 1; omega
      · cases hb; exact Nat.le_refl _
      · have f := hN.fr (fun b => blkOf (.slice A n c) = some b)
        exact ⟨(below_drewN' (Below.refl 0 w) 1).trans f.base, fun b h1 h2 => f.block b h1 h2⟩
theorem app_g {sz e bytes : Nat} {z : Array Value} {w : World} {x : Value} {B : Option Addr} {n m d : Nat} {cs us : List Value} {K : Value → World → Prop} (hx : Sg sz w x n cs) (hz : z.size = sz) (hu : us.length = m * sz) (h1 : ∀ u ∈ us, u.oneCell' = true) (hy : Rd w B us) (hsz : 0 < sz)
    (hs : (n + m) * bytes ≤ 140737488355328) (hb : 0 < bytes) (hK : ∀ v w', Ag sz w x (n + m) (cs ++ us) v w' → K v w') : appK e sz bytes z x (.slice B m d) w K := by
  obtain ⟨A, c, rfl, _⟩ := hx.read
  exact ⟨us, hu, fun h0 => hy.cells (by rw [hu]; exact Nat.mul_pos h0 hsz), appC_g hx hz hu h1 hs hb hK⟩
/-- A slice of groups that grows: its block is none of those that were there. -/
structure Gg (sz : Nat) (w0 w : World) (v : Value) (n : Nat) (cs : List Value) : Prop where
  sl : Sg sz w v n cs
  up : ∀ b, blkOf v = some b → w0.heap.size ≤ b
  fr : Fr w0 w nob
theorem Gg.nil (sz : Nat) (w : World) : Gg sz w w (.slice none 0 0) 0 [] := ⟨Sg.nil _ _, fun b e => (by cases e), Fr.refl _ _⟩
theorem Gg.apd {sz : Nat} {w0 w w' : World} {v v' : Value} {n n' : Nat} {cs cs' : List Value} (g : Gg sz w0 w v n cs) (a : Ag sz w v n' cs' v' w') : Gg sz w0 w' v' n' cs' :=
  ⟨a.sl, fun b e => by
    rcases a.where_ with h | h
    · exact g.up b (h ▸ e)
    · exact Nat.le_trans g.fr.size (h b e), g.fr.trans a.fr fun x hx e => by have := g.up x e; omega⟩
theorem Gg.step {sz : Nat} {w0 w w' : World} {v : Value} {n : Nat} {cs : List Value} (g : Gg sz w0 w v n cs) (f : Fr w w' nob) : Gg sz w0 w' v n cs :=
  ⟨g.sl.nb f, g.up, g.fr.nb f⟩
theorem Gg.from {sz : Nat} {w0 w w' : World} {v : Value} {n : Nat} {cs : List Value} (g : Gg sz w w' v n cs) (f : Fr w0 w nob) : Gg sz w0 w' v n cs :=
  ⟨g.sl, fun b e => Nat.le_trans f.size (g.up b e), f.nb g.fr⟩
/-- Two lists of cells at an index. -/
theorem Rd.at {w : World} {A : Option Addr} {cs : List Value} (h : Rd w A cs) {i : Nat} {v : Value} (hv : cs[i]? = some v) : ∃ ad, A = some ad ∧ w.cell? (ad.add i) = some v := by
  have hi := (List.getElem?_eq_some_iff.1 hv).1
  obtain ⟨ad, e, _, hc⟩ := h.get (by omega)
  exact ⟨ad, e, hc i v hv⟩
end Go.Proofs.YtcflokckfjkdpaaDoor.Eng
