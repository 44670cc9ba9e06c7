/- The plain laws of the laws' helpers, together. Conditions: none. -/
import Derived.Test.YthibphndihjcaaaDoorCNum
import Derived.Test.YthibphndihjcaaaDoorCTo
import Derived.Test.YthibphndihjcaaaDoorCEq
namespace Go.Proofs.YthibphndihjcaaaDoor.P
end Go.Proofs.YthibphndihjcaaaDoor.P
