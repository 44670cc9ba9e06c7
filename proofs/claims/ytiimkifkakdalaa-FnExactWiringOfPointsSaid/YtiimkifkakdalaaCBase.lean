/- The plain laws of the laws' helpers, together. Conditions: none. -/
import Derived.Test.YtiimkifkakdalaaCNum
import Derived.Test.YtiimkifkakdalaaCEq
import Derived.Test.YtiimkifkakdalaaCMark
namespace Go.Proofs.Ytiimkifkakdalaa.P
end Go.Proofs.Ytiimkifkakdalaa.P
