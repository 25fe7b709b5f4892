/- The engine: worlds in which nothing that was there has changed. -/
import Derived.Test.YtibccpfocbdmaaaDoorEngK
set_option linter.unusedVariables false
namespace Go.Proofs.YtibccpfocbdmaaaDoor.Eng
open Go Go.RowKit
theorem Rd.nb {w w' : World} {A : Option Addr} {vs : List Value} (h : Rd w A vs) (f : Fr w w' nob) : Rd w' A vs := h.fr f (.inr fun _ _ x => x)
theorem Sl.nb {k : IntKind} {w w' : World} {v : Value} {l : List Int} (h : Sl k w v l) (f : Fr w w' nob) : Sl k w' v l := h.fr f (fun _ _ x => x)
theorem Blk.nb {w w' : World} {b : Nat} {cs : List Value} (h : Blk w b cs) (f : Fr w w' nob) : Blk w' b cs := h.fr f (fun x => x)
theorem Fr.nb {a b c : World} (h : Fr a b nob) (k : Fr b c nob) : Fr a c nob := h.trans k fun _ _ e => e
/-- Writes to what was not there at first. -/
theorem Fr.own {a b c : World} (h : Fr a b nob) {P : Nat → Prop} (k : Fr b c P) (hq : ∀ x, P x → a.heap.size ≤ x) : Fr a c nob := h.trans k fun x hx e => by have := hq x e; omega
theorem Fr.any {a b : World} (h : Fr a b nob) (P : Nat → Prop) : Fr a b P := h.mono fun _ _ e => e.elim
end Go.Proofs.YtibccpfocbdmaaaDoor.Eng
