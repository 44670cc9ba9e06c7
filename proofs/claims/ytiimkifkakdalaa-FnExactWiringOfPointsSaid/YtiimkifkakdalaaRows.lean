/-
  No cell of these rows narrows 'for every input' (looked for: loops, veiled, ifaces, maps, wideKeys, modest, calm, conditions, laid).
  DERIVED. THE GIVEN ROWS OF THIS SEAT. 7 by the template 'for every input the law returns true; each argument reads behind the call as it read before'; 0 by the template 'total and deterministic' (their statements: YtiimkifkakdalaaTotals.lean).
  GIVEN WITH THE SEED: the statements are not yours to turn. If you find one false, say at which input.
  Laid BY PROGRAM, IN A SANDBOX (cutbox-rows.mjs): the forced cells as the released guide's own fill.sh prints them over the translation afd4923c04fefe3e… (all of the seat's roots in one cut). By AI agents, Wed Nov 11 2026. No macro, syntax, notation, axiom, sorry.
-/
import Derived.Test.YtiimkifkakdalaaChecked
import GoSem.Claim
import GoSem.ClaimJoined
import GoSem.ClaimMapViews
import Derived.JoinedTies
import Derived.KernelRfl
namespace Go.Proofs.Ytiimkifkakdalaa
/- THE CELL 'sum', in the pinned program and in every row, IS THE sha256 OF THE DUMP (.gsa) THAT YtiimkifkakdalaaProg.lean LOADS. Nothing in Lean hashes anything: it is a label: what it is worth is what the hold of that sum in a sandbox is worth. -/
noncomputable def Try.pinned : Pinned := { name := "ytiimkifkakdalaa", sum := "afd4923c04fefe3e968bbb2f32c510004aa86bf2e658879de6193fe589598b94", checked := Try.checked }
namespace Rows
def none {H : Type} : Left H := { results := [], args := [] }

/-- 'laws.FnExactPlaneTrees': WHATEVER THE INPUT: true; the input reads as it did. -/
def fnExactPlaneTreesSpec : ChangeSpec := { name := "fnExactPlaneTrees", fn := fun _ => fun
  | [d] => { results := [.lit (.bool true)], args := [d] }
  | _ => none }
def fnExactPlaneTreesRow : OpenClaim := { program := "ytiimkifkakdalaa", sum := "afd4923c04fefe3e968bbb2f32c510004aa86bf2e658879de6193fe589598b94", func := "loop.example/g03104/laws.FnExactPlaneTrees", spec := "fnExactPlaneTrees", unfollowed := true, recurses := true, apart := false }
def FnExactPlaneTreesSaid : Prop := fnExactPlaneTreesRow.holds Try.pinned (OpenSpec.ofChange fnExactPlaneTreesSpec)

/-- ITS FALSE NEIGHBOUR: 'it returns false'. Refute it at one input. -/
def fnExactPlaneTreesWrong : ChangeSpec := { name := "fnExactPlaneTrees", fn := fun _ => fun
  | [d] => { results := [.lit (.bool false)], args := [d] }
  | _ => none }
def FnExactPlaneTreesWrongFalsely : Prop := fnExactPlaneTreesRow.holds Try.pinned (OpenSpec.ofChange fnExactPlaneTreesWrong)

/-- 'laws.FnExactPlaneMatchings': WHATEVER THE INPUT: true; the input reads as it did. -/
def fnExactPlaneMatchingsSpec : ChangeSpec := { name := "fnExactPlaneMatchings", fn := fun _ => fun
  | [d] => { results := [.lit (.bool true)], args := [d] }
  | _ => none }
def fnExactPlaneMatchingsRow : OpenClaim := { program := "ytiimkifkakdalaa", sum := "afd4923c04fefe3e968bbb2f32c510004aa86bf2e658879de6193fe589598b94", func := "loop.example/g03104/laws.FnExactPlaneMatchings", spec := "fnExactPlaneMatchings", unfollowed := true, recurses := true, apart := false }
def FnExactPlaneMatchingsSaid : Prop := fnExactPlaneMatchingsRow.holds Try.pinned (OpenSpec.ofChange fnExactPlaneMatchingsSpec)

/-- ITS FALSE NEIGHBOUR: 'it returns false'. Refute it at one input. -/
def fnExactPlaneMatchingsWrong : ChangeSpec := { name := "fnExactPlaneMatchings", fn := fun _ => fun
  | [d] => { results := [.lit (.bool false)], args := [d] }
  | _ => none }
def FnExactPlaneMatchingsWrongFalsely : Prop := fnExactPlaneMatchingsRow.holds Try.pinned (OpenSpec.ofChange fnExactPlaneMatchingsWrong)

/-- 'laws.FnExactPolygonsOf': WHATEVER THE INPUT: true; the input reads as it did. -/
def fnExactPolygonsOfSpec : ChangeSpec := { name := "fnExactPolygonsOf", fn := fun _ => fun
  | [d] => { results := [.lit (.bool true)], args := [d] }
  | _ => none }
def fnExactPolygonsOfRow : OpenClaim := { program := "ytiimkifkakdalaa", sum := "afd4923c04fefe3e968bbb2f32c510004aa86bf2e658879de6193fe589598b94", func := "loop.example/g03104/laws.FnExactPolygonsOf", spec := "fnExactPolygonsOf", unfollowed := true, recurses := true, apart := false }
def FnExactPolygonsOfSaid : Prop := fnExactPolygonsOfRow.holds Try.pinned (OpenSpec.ofChange fnExactPolygonsOfSpec)

/-- ITS FALSE NEIGHBOUR: 'it returns false'. Refute it at one input. -/
def fnExactPolygonsOfWrong : ChangeSpec := { name := "fnExactPolygonsOf", fn := fun _ => fun
  | [d] => { results := [.lit (.bool false)], args := [d] }
  | _ => none }
def FnExactPolygonsOfWrongFalsely : Prop := fnExactPolygonsOfRow.holds Try.pinned (OpenSpec.ofChange fnExactPolygonsOfWrong)

/-- 'laws.FnExactPlanePaths': WHATEVER THE INPUT: true; the input reads as it did. -/
def fnExactPlanePathsSpec : ChangeSpec := { name := "fnExactPlanePaths", fn := fun _ => fun
  | [d] => { results := [.lit (.bool true)], args := [d] }
  | _ => none }
def fnExactPlanePathsRow : OpenClaim := { program := "ytiimkifkakdalaa", sum := "afd4923c04fefe3e968bbb2f32c510004aa86bf2e658879de6193fe589598b94", func := "loop.example/g03104/laws.FnExactPlanePaths", spec := "fnExactPlanePaths", unfollowed := true, recurses := true, apart := false }
def FnExactPlanePathsSaid : Prop := fnExactPlanePathsRow.holds Try.pinned (OpenSpec.ofChange fnExactPlanePathsSpec)

/-- ITS FALSE NEIGHBOUR: 'it returns false'. Refute it at one input. -/
def fnExactPlanePathsWrong : ChangeSpec := { name := "fnExactPlanePaths", fn := fun _ => fun
  | [d] => { results := [.lit (.bool false)], args := [d] }
  | _ => none }
def FnExactPlanePathsWrongFalsely : Prop := fnExactPlanePathsRow.holds Try.pinned (OpenSpec.ofChange fnExactPlanePathsWrong)

/-- 'laws.FnExactFlipsFrom': WHATEVER THE INPUT: true; the input reads as it did. -/
def fnExactFlipsFromSpec : ChangeSpec := { name := "fnExactFlipsFrom", fn := fun _ => fun
  | [d1, d2] => { results := [.lit (.bool true)], args := [d1, d2] }
  | _ => none }
def fnExactFlipsFromRow : OpenClaim := { program := "ytiimkifkakdalaa", sum := "afd4923c04fefe3e968bbb2f32c510004aa86bf2e658879de6193fe589598b94", func := "loop.example/g03104/laws.FnExactFlipsFrom", spec := "fnExactFlipsFrom", recurses := true, apart := false }
def FnExactFlipsFromSaid : Prop := fnExactFlipsFromRow.holds Try.pinned (OpenSpec.ofChange fnExactFlipsFromSpec)

/-- ITS FALSE NEIGHBOUR: 'it returns false'. Refute it at one input. -/
def fnExactFlipsFromWrong : ChangeSpec := { name := "fnExactFlipsFrom", fn := fun _ => fun
  | [d1, d2] => { results := [.lit (.bool false)], args := [d1, d2] }
  | _ => none }
def FnExactFlipsFromWrongFalsely : Prop := fnExactFlipsFromRow.holds Try.pinned (OpenSpec.ofChange fnExactFlipsFromWrong)

/-- 'laws.FnExactFlipDistance': WHATEVER THE INPUT: true; the input reads as it did. -/
def fnExactFlipDistanceSpec : ChangeSpec := { name := "fnExactFlipDistance", fn := fun _ => fun
  | [d1, d2, d3] => { results := [.lit (.bool true)], args := [d1, d2, d3] }
  | _ => none }
def fnExactFlipDistanceRow : OpenClaim := { program := "ytiimkifkakdalaa", sum := "afd4923c04fefe3e968bbb2f32c510004aa86bf2e658879de6193fe589598b94", func := "loop.example/g03104/laws.FnExactFlipDistance", spec := "fnExactFlipDistance", recurses := true, apart := false }
def FnExactFlipDistanceSaid : Prop := fnExactFlipDistanceRow.holds Try.pinned (OpenSpec.ofChange fnExactFlipDistanceSpec)

/-- ITS FALSE NEIGHBOUR: 'it returns false'. Refute it at one input. -/
def fnExactFlipDistanceWrong : ChangeSpec := { name := "fnExactFlipDistance", fn := fun _ => fun
  | [d1, d2, d3] => { results := [.lit (.bool false)], args := [d1, d2, d3] }
  | _ => none }
def FnExactFlipDistanceWrongFalsely : Prop := fnExactFlipDistanceRow.holds Try.pinned (OpenSpec.ofChange fnExactFlipDistanceWrong)

/-- 'laws.FnExactWiringOfPoints': WHATEVER THE INPUT: true; the input reads as it did. -/
def fnExactWiringOfPointsSpec : ChangeSpec := { name := "fnExactWiringOfPoints", fn := fun _ => fun
  | [d] => { results := [.lit (.bool true)], args := [d] }
  | _ => none }
def fnExactWiringOfPointsRow : OpenClaim := { program := "ytiimkifkakdalaa", sum := "afd4923c04fefe3e968bbb2f32c510004aa86bf2e658879de6193fe589598b94", func := "loop.example/g03104/laws.FnExactWiringOfPoints", spec := "fnExactWiringOfPoints", unfollowed := true, recurses := true, apart := false }
def FnExactWiringOfPointsSaid : Prop := fnExactWiringOfPointsRow.holds Try.pinned (OpenSpec.ofChange fnExactWiringOfPointsSpec)

/-- ITS FALSE NEIGHBOUR: 'it returns false'. Refute it at one input. -/
def fnExactWiringOfPointsWrong : ChangeSpec := { name := "fnExactWiringOfPoints", fn := fun _ => fun
  | [d] => { results := [.lit (.bool false)], args := [d] }
  | _ => none }
def FnExactWiringOfPointsWrongFalsely : Prop := fnExactWiringOfPointsRow.holds Try.pinned (OpenSpec.ofChange fnExactWiringOfPointsWrong)

/- THE SECOND FORM. 'bulk': how many values and letters a reading holds, each counted each time it is reached (what is shared counts as often as it is met; a slice's spare places count too). A statement '..UptoSaid' is the law's where the arguments, and the package variables that the reading takes, are together of bulk at most 1048576: NARROWER than '..Said'. Prove '..Said' where nothing that the law and all that it calls make is longer than what came in: it says more and counts as full. Else prove '..UptoSaid'. A law counts once. -/
mutual
def uptoBulk {H : Type} : DataW H → Nat
  | .lit (.string bytes) => bytes.length + 1
  | .lit _ => 1
  | .nil => 1
  | .ptr d => uptoBulk d + 1
  | .slice elems spare => uptoBulkAll elems + uptoBulkAll spare + 1
  | .agg parts => uptoBulkAll parts + 1
  | .iface _ d => uptoBulk d + 1
  | .map entries => uptoBulkEntries entries + 1
  | .held _ => 1
def uptoBulkAll {H : Type} : List (DataW H) → Nat
  | [] => 0
  | d :: r => uptoBulk d + uptoBulkAll r
def uptoBulkEntries {H : Type} : List (Lit × DataW H) → Nat
  | [] => 0
  | x :: r => uptoBulkEntry x + uptoBulkEntries r
def uptoBulkEntry {H : Type} : Lit × DataW H → Nat
  | (.string bytes, d) => bytes.length + uptoBulk d + 1
  | (_, d) => uptoBulk d + 1
 end
def uptoSmall : (H : Type) → List (DataW H) → Bool := fun _ ds => decide (uptoBulkAll ds ≤ 1048576)
def OpenSpec.upto (s : _root_.Go.ChangeSpec) : _root_.Go.OpenSpec := { _root_.Go.OpenSpec.ofChange s with cond := some uptoSmall }

/-- 'laws.FnExactPlaneTrees', WHERE WHAT IT READS IS OF BULK AT MOST 1048576: true; the input reads as it did. -/
def fnExactPlaneTreesUptoRow : OpenClaim := { program := "ytiimkifkakdalaa", sum := "afd4923c04fefe3e968bbb2f32c510004aa86bf2e658879de6193fe589598b94", func := "loop.example/g03104/laws.FnExactPlaneTrees", spec := "fnExactPlaneTrees", unfollowed := true, recurses := true, apart := false, narrowed := true }
def FnExactPlaneTreesUptoSaid : Prop := fnExactPlaneTreesUptoRow.holds Try.pinned (OpenSpec.upto fnExactPlaneTreesSpec)

/-- 'laws.FnExactPlaneMatchings', WHERE WHAT IT READS IS OF BULK AT MOST 1048576: true; the input reads as it did. -/
def fnExactPlaneMatchingsUptoRow : OpenClaim := { program := "ytiimkifkakdalaa", sum := "afd4923c04fefe3e968bbb2f32c510004aa86bf2e658879de6193fe589598b94", func := "loop.example/g03104/laws.FnExactPlaneMatchings", spec := "fnExactPlaneMatchings", unfollowed := true, recurses := true, apart := false, narrowed := true }
def FnExactPlaneMatchingsUptoSaid : Prop := fnExactPlaneMatchingsUptoRow.holds Try.pinned (OpenSpec.upto fnExactPlaneMatchingsSpec)

/-- 'laws.FnExactPolygonsOf', WHERE WHAT IT READS IS OF BULK AT MOST 1048576: true; the input reads as it did. -/
def fnExactPolygonsOfUptoRow : OpenClaim := { program := "ytiimkifkakdalaa", sum := "afd4923c04fefe3e968bbb2f32c510004aa86bf2e658879de6193fe589598b94", func := "loop.example/g03104/laws.FnExactPolygonsOf", spec := "fnExactPolygonsOf", unfollowed := true, recurses := true, apart := false, narrowed := true }
def FnExactPolygonsOfUptoSaid : Prop := fnExactPolygonsOfUptoRow.holds Try.pinned (OpenSpec.upto fnExactPolygonsOfSpec)

/-- 'laws.FnExactPlanePaths', WHERE WHAT IT READS IS OF BULK AT MOST 1048576: true; the input reads as it did. -/
def fnExactPlanePathsUptoRow : OpenClaim := { program := "ytiimkifkakdalaa", sum := "afd4923c04fefe3e968bbb2f32c510004aa86bf2e658879de6193fe589598b94", func := "loop.example/g03104/laws.FnExactPlanePaths", spec := "fnExactPlanePaths", unfollowed := true, recurses := true, apart := false, narrowed := true }
def FnExactPlanePathsUptoSaid : Prop := fnExactPlanePathsUptoRow.holds Try.pinned (OpenSpec.upto fnExactPlanePathsSpec)

/-- 'laws.FnExactFlipsFrom', WHERE WHAT IT READS IS OF BULK AT MOST 1048576: true; the input reads as it did. -/
def fnExactFlipsFromUptoRow : OpenClaim := { program := "ytiimkifkakdalaa", sum := "afd4923c04fefe3e968bbb2f32c510004aa86bf2e658879de6193fe589598b94", func := "loop.example/g03104/laws.FnExactFlipsFrom", spec := "fnExactFlipsFrom", recurses := true, apart := false, narrowed := true }
def FnExactFlipsFromUptoSaid : Prop := fnExactFlipsFromUptoRow.holds Try.pinned (OpenSpec.upto fnExactFlipsFromSpec)

/-- 'laws.FnExactFlipDistance', WHERE WHAT IT READS IS OF BULK AT MOST 1048576: true; the input reads as it did. -/
def fnExactFlipDistanceUptoRow : OpenClaim := { program := "ytiimkifkakdalaa", sum := "afd4923c04fefe3e968bbb2f32c510004aa86bf2e658879de6193fe589598b94", func := "loop.example/g03104/laws.FnExactFlipDistance", spec := "fnExactFlipDistance", recurses := true, apart := false, narrowed := true }
def FnExactFlipDistanceUptoSaid : Prop := fnExactFlipDistanceUptoRow.holds Try.pinned (OpenSpec.upto fnExactFlipDistanceSpec)

/-- 'laws.FnExactWiringOfPoints', WHERE WHAT IT READS IS OF BULK AT MOST 1048576: true; the input reads as it did. -/
def fnExactWiringOfPointsUptoRow : OpenClaim := { program := "ytiimkifkakdalaa", sum := "afd4923c04fefe3e968bbb2f32c510004aa86bf2e658879de6193fe589598b94", func := "loop.example/g03104/laws.FnExactWiringOfPoints", spec := "fnExactWiringOfPoints", unfollowed := true, recurses := true, apart := false, narrowed := true }
def FnExactWiringOfPointsUptoSaid : Prop := fnExactWiringOfPointsUptoRow.holds Try.pinned (OpenSpec.upto fnExactWiringOfPointsSpec)

end Rows
end Go.Proofs.Ytiimkifkakdalaa
