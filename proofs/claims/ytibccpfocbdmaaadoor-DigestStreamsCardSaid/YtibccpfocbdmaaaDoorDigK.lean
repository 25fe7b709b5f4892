/- The digests: the known ones, worked out. -/
import Derived.Test.YtibccpfocbdmaaaDoorDig8
namespace Go.Proofs.YtibccpfocbdmaaaDoor.Spec
open Go
theorem dig_abc : dig 1 [97, 98, 99] = [169, 153, 62, 54, 71, 6, 129, 106, 186, 62, 37, 113, 120, 80, 194, 108, 156, 208, 216, 157] := by decide +kernel
end Go.Proofs.YtibccpfocbdmaaaDoor.Spec
