/- Numbers as texts. -/
import Derived.Test.YtcflokckfjkdpaaDoorItoa
import Derived.Test.YtcflokckfjkdpaaDoorDp2
import Derived.Test.YtcflokckfjkdpaaDoorDt5
set_option linter.unusedVariables false
set_option linter.unusedSimpArgs false
namespace Go.Proofs.YtcflokckfjkdpaaDoor.Der
open Go Go.RowKit Go.Proofs Go.Proofs.YtcflokckfjkdpaaDoor.Eng Go.Proofs.YtcflokckfjkdpaaDoor.Code
set_option maxRecDepth 100000
attribute [local irreducible] callK S.W opsW scrW scrT
open Go.Sort

/-- The table of the powers of ten. -/
structure TbP (w : World) : Prop where
  tab : Lib.TabIs Tryd.prog w "internal/strconv.uint64pow10" .u64 Lib.pow10Tab
  size : 0 < w.heap.size
theorem gP : Tryd.prog.globalNamed "internal/strconv.uint64pow10" = some 0 := by kernel_rfl
theorem TbP.nb {w w' : World} (h : TbP w) (f : Fr w w' nob) : TbP w' := by
  have hs := f.size
  refine ⟨?_, Nat.lt_of_lt_of_le h.size hs⟩
  have h1 := h.tab
  unfold Lib.TabIs World.var? at h1 ⊢
  rw [gP] at h1 ⊢
  simp only [Option.bind_some] at h1 ⊢
  rw [f.block 0 h.size (fun e => e)]
  exact h1
theorem fr_grow (w : World) (k : Nat) (os : Array Obj) : Fr w (grow (w.drewN k) os) nob := by
  refine ⟨?_, fun b hb _ => ?_⟩
  · have := below_drewN' (Below.refl 0 w) k
    exact ⟨this.os, this.tape, this.output, by simp only [grow, Array.size_append]; exact Nat.le_add_right _ _, fun b hb => by omega⟩
  · have e : (grow (w.drewN k) os).heap = w.heap ++ os := rfl
    rw [e, Array.getElem?_append_left hb]
theorem itoa_vw {w : World} {n : Int} (h0 : 0 ≤ n) (h1 : n ≤ 9223372036854775807) (hT : TbP w) (K : Value → World → Prop)
    (hK : ∀ w', Fr w w' nob → K (.string (S (digs n.toNat))) w') : callK Tryd.prog 47 [.int .i64 n] w K := by
  have h := strconv_Itoa n (by omega) h1 w hT.tab
  unfold callK
  refine Calls.mono h ?_
  rintro e w' ⟨rfl, k, os, rfl⟩
  refine ⟨_, rfl, ?_⟩
  rw [itoa_eq h0 (by omega)]
  exact hK _ (fr_grow w k os)
end Go.Proofs.YtcflokckfjkdpaaDoor.Der
