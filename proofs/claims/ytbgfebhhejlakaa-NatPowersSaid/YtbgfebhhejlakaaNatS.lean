/- Numbers by limbs: how long an argument may be. -/
import Derived.Test.YtbgfebhhejlakaaNatR
import Derived.Test.YtbgfebhhejlakaaRn3
import Derived.SizedLaws
namespace Go.Proofs.Ytbgfebhhejlakaa
open Go Go.ChangeShapes Go.WideShapes Go.ChangeAt Go.WideMaps Go.WideElems Go.RowKit Go.Proofs.Ytbgfebhhejlakaa.Eng Go.Proofs.Ytbgfebhhejlakaa.Spec
set_option maxRecDepth 100000
theorem sized_of {H : Type} {P : Program} {ts : List TypeId} {ds : List (DataW H)} {j : Nat} {t e : TypeId} {k : IntKind} {d : DataW H} {l m : List Int} {b : Nat} (hd : d = .nil ∧ l = [] ∨ d = .slice (lits k l) (lits k m)) (ht : ts[j]? = some t) (hds : ds[j]? = some d) (hu : P.underlying t = some (.slice e)) (hb : P.bytesOf e = b)
    (h : (DataW.weightsEach P ts ds).all (· ≤ reachBytes) = true) : l.length * b ≤ 140737488351232 := by
  rcases hd with ⟨_, rfl⟩ | rfl
  · simp
  · have h1 := sized_slice h ht hds hu
    rw [hb] at h1
    have e : (lits (H := H) k l).length = l.length := by simp [lits]
    rw [e] at h1
    have h2 : l.length * b ≤ (l.length + (lits (H := H) k m).length) * b := Nat.mul_le_mul_right _ (by omega)
    have h3 : reachBytes = 140737488351232 := rfl
    omega
end Go.Proofs.Ytbgfebhhejlakaa
