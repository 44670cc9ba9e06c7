/- The plain laws of the laws' helpers, together. Conditions: none. -/
import Derived.Test.YthibphndihjcaaaCNum
import Derived.Test.YthibphndihjcaaaCTo
import Derived.Test.YthibphndihjcaaaCEq
import Derived.Test.YthibphndihjcaaaCMark
namespace Go.Proofs.Ythibphndihjcaaa.P
end Go.Proofs.Ythibphndihjcaaa.P
