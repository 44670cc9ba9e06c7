/- The plain laws of the laws' helpers, together. Conditions: none. -/
import Derived.Test.YtmidcafamppkeaaDoorCNum
namespace Go.Proofs.YtmidcafamppkeaaDoor.P
end Go.Proofs.YtmidcafamppkeaaDoor.P
