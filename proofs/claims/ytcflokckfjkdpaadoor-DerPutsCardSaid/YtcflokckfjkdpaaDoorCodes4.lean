/- The functions of this seat, all of them. -/
import Derived.Test.YtcflokckfjkdpaaDoorCode0
import Derived.Test.YtcflokckfjkdpaaDoorCode1
import Derived.Test.YtcflokckfjkdpaaDoorCode2
import Derived.Test.YtcflokckfjkdpaaDoorCode3
namespace Go.Proofs.YtcflokckfjkdpaaDoor.Code
end Go.Proofs.YtcflokckfjkdpaaDoor.Code
