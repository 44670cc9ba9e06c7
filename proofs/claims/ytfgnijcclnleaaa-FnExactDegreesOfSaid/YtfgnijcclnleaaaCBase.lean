/- The plain laws of the laws' helpers, together. Conditions: none. -/
import Derived.Test.YtfgnijcclnleaaaCNum
import Derived.Test.YtfgnijcclnleaaaCEq
import Derived.Test.YtfgnijcclnleaaaCMark
namespace Go.Proofs.Ytfgnijcclnleaaa.P
end Go.Proofs.Ytfgnijcclnleaaa.P
