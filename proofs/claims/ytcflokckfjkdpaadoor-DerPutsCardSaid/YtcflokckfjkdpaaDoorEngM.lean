/- The engine: values that are read as lists. -/
import Derived.Test.YtcflokckfjkdpaaDoorEngL
set_option linter.unusedVariables false
namespace Go.Proofs.YtcflokckfjkdpaaDoor.Eng
open Go Go.RowKit
theorem bsl2 {k : IntKind} {e : Nat} {a b : Int} {w : World} {K : Value → World → Prop} (hK : ∀ w', New w w' (nums k [a, b]) → K (.slice (some ⟨w.heap.size, 0, none⟩) 2 2) w') : bslT e 1 2 #[.int k 0] [(0, .int k a), (1, .int k b)] w K .mk :=
  ⟨#[.int k a, .int k b], by kernel_rfl, hK _ (new_of rfl rfl)⟩
/-- A value that is read as a list. -/
def Vw (k : IntKind) (w : World) (v : Value) (l : List Int) : Prop := ∃ A c, v = .slice A l.length c ∧ l.length ≤ c ∧ Rd w A (nums k l)
theorem Vw.nb {k : IntKind} {w w' : World} {v : Value} {l : List Int} (h : Vw k w v l) (f : Fr w w' nob) : Vw k w' v l := by
  obtain ⟨A, c, e, hc, hr⟩ := h
  exact ⟨A, c, e, hc, hr.nb f⟩
theorem Sl.vw {k : IntKind} {w : World} {v : Value} {l : List Int} (h : Sl k w v l) : Vw k w v l := by
  obtain ⟨A, c, e, hc, hr, _⟩ := h.read
  exact ⟨A, c, e, hc, hr⟩
theorem Gw.vw {k : IntKind} {w w' : World} {v : Value} {l : List Int} (h : Gw k w w' v l) : Vw k w' v l := h.sl.vw
theorem Vw.nil (k : IntKind) (w : World) : Vw k w (.slice none 0 0) [] := (Sl.nil k w).vw
theorem Vw.of {k : IntKind} {w : World} {A : Option Addr} {n c : Nat} {l : List Int} (hn : l.length = n) (hc : n ≤ c) (h : Rd w A (nums k l)) : Vw k w (.slice A n c) l := by
  subst hn; exact ⟨A, c, rfl, hc, h⟩
theorem New.vw {k : IntKind} {w w' : World} {l : List Int} (h : New w w' (nums k l)) {n : Nat} (hn : l.length = n) : Vw k w' (.slice (some ⟨w.heap.size, 0, none⟩) n n) l := by
  subst hn; exact ⟨_, _, rfl, Nat.le_refl _, h.rdl⟩
theorem Gw.from {k : IntKind} {w0 w w' : World} {v : Value} {l : List Int} (g : Gw k w w' v l) (f : Fr w0 w nob) : Gw k w0 w' v l :=
  ⟨g.sl, fun b e => Nat.le_trans f.size (g.up b e), f.nb g.fr⟩

end Go.Proofs.YtcflokckfjkdpaaDoor.Eng
