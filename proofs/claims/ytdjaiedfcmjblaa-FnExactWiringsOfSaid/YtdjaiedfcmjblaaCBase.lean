/- The plain laws of the laws' helpers, together. Conditions: none. -/
import Derived.Test.YtdjaiedfcmjblaaCNum
import Derived.Test.YtdjaiedfcmjblaaCTo
import Derived.Test.YtdjaiedfcmjblaaCEq
import Derived.Test.YtdjaiedfcmjblaaCMark
namespace Go.Proofs.Ytdjaiedfcmjblaa.P
end Go.Proofs.Ytdjaiedfcmjblaa.P
