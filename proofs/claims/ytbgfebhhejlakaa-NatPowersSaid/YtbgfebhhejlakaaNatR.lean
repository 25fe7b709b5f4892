/- Numbers by limbs: what all rows of this seat want. -/
import Derived.Test.YtbgfebhhejlakaaNat14
import Derived.Test.YtbgfebhhejlakaaRow
namespace Go.Proofs.Ytbgfebhhejlakaa
open Go Go.ChangeShapes Go.WideShapes Go.ChangeAt Go.WideMaps Go.WideElems Go.RowKit Go.Proofs.Ytbgfebhhejlakaa.Eng Go.Proofs.Ytbgfebhhejlakaa.Spec
set_option maxRecDepth 100000
theorem own : ownKnob Try.prog.godebug = none := by kernel_rfl
theorem laidOut : laidOutB Try.prog = true := by kernel_rfl
theorem cells_u32 : Try.prog.cellsOf 42 = 1 := by kernel_rfl
theorem cells_u8 : Try.prog.cellsOf 5 = 1 := by kernel_rfl
theorem vw_of {k : IntKind} {W : World} {A : Option Addr} {c : Nat} {l : List Int} (hc : l.length ≤ c) (hl : Rd W A (nums k l)) : Vw k W (.slice A l.length c) l := ⟨A, c, rfl, hc, hl⟩
theorem lim_of {l : List Int} (h : ∀ n ∈ l, (Lit.int .u32 n).wf = true) : Big.Lim l := fun n hn => Row.wf_u32 (h n hn)
theorem byt_of {l : List Int} (h : ∀ n ∈ l, (Lit.int .u8 n).wf = true) : Big.Byt l := fun n hn => Row.wf_u8 (h n hn)
end Go.Proofs.Ytbgfebhhejlakaa
