/- The plain laws of the laws' helpers, together. Conditions: none. -/
import Derived.Test.YtiimkifkakdalaaDoorCNum
import Derived.Test.YtiimkifkakdalaaDoorCEq
import Derived.Test.YtiimkifkakdalaaDoorCMark
namespace Go.Proofs.YtiimkifkakdalaaDoor.P
end Go.Proofs.YtiimkifkakdalaaDoor.P
