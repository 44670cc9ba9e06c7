-- Words that a tool of the kit has laid, without those that this seat's texts do not use (wip/tools/shake.py).
import Derived.Test.YtjjfjdejhddcnaaWWords
import Derived.Test.YtjjfjdejhddcnaaWLast
namespace Go.Proofs.YtjjfjdejhddcnaaW.PrintWords
open Go.RowKit
namespace Kd
section
variable {α : Type} {d : Kd α} {e base g o n cap : Nat} {ok okp : Nat → Prop} {w W : World} {v : Value} {xs : List α}
end
section
variable {α : Type} {enc : α → Value} {h1 : ∀ x, (enc x).oneCell' = true} {e base g o n cap : Nat} {ok : Nat → Prop} {W : World} {xs : List α}
end
end Kd
end Go.Proofs.YtjjfjdejhddcnaaW.PrintWords
