/- The engine: worlds in which nothing that was there has changed. -/
import Derived.Test.YtcflokckfjkdpaaDoorEngK
set_option linter.unusedVariables false
namespace Go.Proofs.YtcflokckfjkdpaaDoor.Eng
open Go Go.RowKit
theorem Rd.nb {w w' : World} {A : Option Addr} {vs : List Value} (h : Rd w A vs) (f : Fr w w' nob) : Rd w' A vs := h.fr f (.inr fun _ _ x => x)
theorem Sl.nb {k : IntKind} {w w' : World} {v : Value} {l : List Int} (h : Sl k w v l) (f : Fr w w' nob) : Sl k w' v l := h.fr f (fun _ _ x => x)
theorem Blk.nb {w w' : World} {b : Nat} {cs : List Value} (h : Blk w b cs) (f : Fr w w' nob) : Blk w' b cs := h.fr f (fun x => x)
theorem Fr.nb {a b c : World} (h : Fr a b nob) (k : Fr b c nob) : Fr a c nob := h.trans k fun _ _ e => e
/-- Writes to what was not there at first. -/
theorem Fr.own {a b c : World} (h : Fr a b nob) {P : Nat → Prop} (k : Fr b c P) (hq : ∀ x, P x → a.heap.size ≤ x) : Fr a c nob := h.trans k fun x hx e => by have := hq x e; omega
theorem Fr.any {a b : World} (h : Fr a b nob) (P : Nat → Prop) : Fr a b P := h.mono fun _ _ e => e.elim
/-- 'append', and whether in place. -/
theorem appC_num2 {k : IntKind} {e bytes : Nat} {w : World} {A : Option Addr} {n c m : Nat} {l l' : List Int} {K : Value → World → Prop} (hx : Sl k w (.slice A n c) l) (hm : l'.length = m)
    (hs : (l.length + l'.length) * bytes ≤ 140737488355328) (hb : 0 < bytes) (hK : ∀ v w', Apd k w (.slice A n c) (l ++ l') v w' → (v = .slice A (n + m) c ∨ (freshV w v ∧ Fr w w' nob)) → K v w') : appC e 1 bytes #[.int k 0] A n c m (nums k l') w K := by
  have hn : n = l.length := by
    rcases hx with ⟨rfl, e⟩ | ⟨b, pad, e, _⟩ <;> cases e <;> rfl
  subst hn
  subst hm
  constructor
  · intro hc
    by_cases h0 : l'.length = 0
    · refine .inl ⟨h0, hK _ _ ⟨?_, .inl rfl, Fr.refl _ _⟩ (.inl (by rw [h0]; rfl))⟩
      rw [List.length_eq_zero_iff.1 h0, List.append_nil]; exact hx
    · rcases hx with ⟨rfl, e⟩ | ⟨b, pad, e, hB⟩
      · cases e; exact absurd hc (by simp only [List.length_nil]; omega)
      · cases e
        have hlp : l'.length ≤ pad.length := by omega
        refine .inr ⟨b, 0, rfl, nums_one _ _, fun j hj => ?_, fun j hj => hB.frozen _, hK _ _ ?_ (.inl rfl)⟩
        · rw [nums_length] at hj
          exact hB.isSome (by rw [nums_length, List.length_append]; omega)
        · have hp := put_cells hB (0 + l.length * 1) (nums k l') (by simp only [nums_length, List.length_append]; omega)
          have e : (nums k (l ++ pad)).take (0 + l.length * 1) ++ nums k l' ++ (nums k (l ++ pad)).drop (0 + l.length * 1 + (nums k l').length) = nums k ((l ++ l') ++ pad.drop l'.length) := by
            rw [nums_length, nums_take, nums_drop, nums_append k (l ++ l'), nums_append k l l']
            have e1 : (l ++ pad).take (0 + l.length * 1) = l := by simp
            have e2 : (l ++ pad).drop (0 + l.length * 1 + l'.length) = pad.drop l'.length := by rw [List.drop_append]; simp
            rw [e1, e2]
          rw [e] at hp
          refine ⟨.inr ⟨b, pad.drop l'.length, ?_, hp.blk⟩, .inl rfl, ?_⟩
          · simp only [List.length_append, List.length_drop]
            congr 1; omega
          · exact hp.fr.mono fun x _ hx => by subst hx; rfl
  · intro hc
    refine ⟨nums k l, by simp [nums_length], fun h0 => ?_, by omega, ?_, hb, fun c' h1 h2 => hK _ _ ?_ (.inr ⟨fun b hb => by cases hb; exact Nat.le_refl _, ?_⟩)⟩
    · rcases hx with ⟨rfl, e⟩ | ⟨b, pad, e, hB⟩
      · simp at h0
      · cases e
        have : Rd w (some ⟨b, 0, none⟩) (nums k l) := hB.rd 0 (n := l.length) (by rw [List.drop_zero, nums_take]; simp)
        exact this.cells (by rw [nums_length]; exact h0)
    · have : l.length + l'.length ≤ (l.length + l'.length) * bytes := Nat.le_mul_of_pos_right _ hb
      omega
    · have hz : ((nums k l ++ nums k l').toArray ++ Builtin.zeroCells #[.int k 0] (c' - (l.length + l'.length))).toList = nums k ((l ++ l') ++ List.replicate (c' - (l.length + l'.length)) 0) := by
        rw [Array.toList_append, zeroCells_list, nums_append, nums_append, nums_replicate]
      have hN := new_of (w := w.drew) (t := e) rfl hz
      refine ⟨.inr ⟨w.heap.size, List.replicate (c' - (l.length + l'.length)) 0, ?_, hN.blk⟩, .inr fun b hb => ?_, ?_⟩
      · simp only [List.length_append, List.length_replicate]
        congr 1; omega
      · cases hb; exact Nat.le_refl _
      · have f := hN.fr (fun b => blkOf (.slice A l.length c) = some b)
        exact ⟨(below_drewN' (Below.refl 0 w) 1).trans f.base, fun b h1 h2 => f.block b h1 h2⟩
    · have hz : ((nums k l ++ nums k l').toArray ++ Builtin.zeroCells #[.int k 0] (c' - (l.length + l'.length))).toList = nums k ((l ++ l') ++ List.replicate (c' - (l.length + l'.length)) 0) := by
        rw [Array.toList_append, zeroCells_list, nums_append, nums_append, nums_replicate]
      have f := (new_of (w := w.drew) (t := e) rfl hz).fr nob
      exact ⟨(below_drewN' (Below.refl 0 w) 1).trans f.base, fun b h1 h2 => f.block b h1 h2⟩
theorem app_num2 {k : IntKind} {e bytes : Nat} {w : World} {x : Value} {B : Option Addr} {m d : Nat} {l l' : List Int} {K : Value → World → Prop} (hx : Sl k w x l) (hm : l'.length = m) (hy : Rd w B (nums k l'))
    (hs : (l.length + l'.length) * bytes ≤ 140737488355328) (hb : 0 < bytes) (hK : ∀ v w', Apd k w x (l ++ l') v w' → ((∃ A n c, x = .slice A n c ∧ v = .slice A (n + m) c) ∨ (freshV w v ∧ Fr w w' nob)) → K v w') : appK e 1 bytes #[.int k 0] x (.slice B m d) w K := by
  obtain ⟨A, c, rfl, _⟩ := hx.read
  exact ⟨nums k l', by rw [nums_length]; omega, fun h0 => hy.cells (by rw [nums_length]; omega), appC_num2 hx hm hs hb fun v w' a h => hK v w' a (h.imp (fun e => ⟨_, _, _, rfl, e⟩) id)⟩
end Go.Proofs.YtcflokckfjkdpaaDoor.Eng
