/-
  No cell of these rows narrows 'for every input' (looked for: loops, veiled, ifaces, maps, wideKeys, modest, calm, conditions, laid).
  DERIVED. THE GIVEN ROWS OF THIS SEAT. 11 by the template 'for every input the law returns true; each argument reads behind the call as it read before'; 0 by the template 'total and deterministic' (their statements: YthibphndihjcaaaTotals.lean).
  GIVEN WITH THE SEED: the statements are not yours to turn. If you find one false, say at which input.
  Laid BY PROGRAM, IN A SANDBOX (cutbox-rows.mjs): the forced cells as the released guide's own fill.sh prints them over the translation 0d85e499df7a3be4… (all of the seat's roots in one cut). By AI agents, Wed Nov 11 2026. No macro, syntax, notation, axiom, sorry.
-/
import Derived.Test.YthibphndihjcaaaChecked
import GoSem.Claim
import GoSem.ClaimJoined
import GoSem.ClaimMapViews
import Derived.JoinedTies
import Derived.KernelRfl
namespace Go.Proofs.Ythibphndihjcaaa
/- THE CELL 'sum', in the pinned program and in every row, IS THE sha256 OF THE DUMP (.gsa) THAT YthibphndihjcaaaProg.lean LOADS. Nothing in Lean hashes anything: it is a label: what it is worth is what the hold of that sum in a sandbox is worth. -/
noncomputable def Try.pinned : Pinned := { name := "ythibphndihjcaaa", sum := "0d85e499df7a3be41d69972db7c907984b2a73823e8cff8a85040356cbcba045", checked := Try.checked }
namespace Rows
def none {H : Type} : Left H := { results := [], args := [] }

/-- 'laws.FnExactZoneSum': WHATEVER THE INPUT: true; the input reads as it did. -/
def fnExactZoneSumSpec : ChangeSpec := { name := "fnExactZoneSum", fn := fun _ => fun
  | [d1, d2, d3] => { results := [.lit (.bool true)], args := [d1, d2, d3] }
  | _ => none }
def fnExactZoneSumRow : OpenClaim := { program := "ythibphndihjcaaa", sum := "0d85e499df7a3be41d69972db7c907984b2a73823e8cff8a85040356cbcba045", func := "loop.example/g03104/laws.FnExactZoneSum", spec := "fnExactZoneSum", unfollowed := true, recurses := true, plainKeys := false, apart := false }
def FnExactZoneSumSaid : Prop := fnExactZoneSumRow.holds Try.pinned (OpenSpec.ofChange fnExactZoneSumSpec)

/-- ITS FALSE NEIGHBOUR: 'it returns false'. Refute it at one input. -/
def fnExactZoneSumWrong : ChangeSpec := { name := "fnExactZoneSum", fn := fun _ => fun
  | [d1, d2, d3] => { results := [.lit (.bool false)], args := [d1, d2, d3] }
  | _ => none }
def FnExactZoneSumWrongFalsely : Prop := fnExactZoneSumRow.holds Try.pinned (OpenSpec.ofChange fnExactZoneSumWrong)

/-- 'laws.FnExactSignsOfWiring': WHATEVER THE INPUT: true; the input reads as it did. -/
def fnExactSignsOfWiringSpec : ChangeSpec := { name := "fnExactSignsOfWiring", fn := fun _ => fun
  | [d1, d2] => { results := [.lit (.bool true)], args := [d1, d2] }
  | _ => none }
def fnExactSignsOfWiringRow : OpenClaim := { program := "ythibphndihjcaaa", sum := "0d85e499df7a3be41d69972db7c907984b2a73823e8cff8a85040356cbcba045", func := "loop.example/g03104/laws.FnExactSignsOfWiring", spec := "fnExactSignsOfWiring", unfollowed := true, recurses := true, plainKeys := false, apart := false }
def FnExactSignsOfWiringSaid : Prop := fnExactSignsOfWiringRow.holds Try.pinned (OpenSpec.ofChange fnExactSignsOfWiringSpec)

/-- ITS FALSE NEIGHBOUR: 'it returns false'. Refute it at one input. -/
def fnExactSignsOfWiringWrong : ChangeSpec := { name := "fnExactSignsOfWiring", fn := fun _ => fun
  | [d1, d2] => { results := [.lit (.bool false)], args := [d1, d2] }
  | _ => none }
def FnExactSignsOfWiringWrongFalsely : Prop := fnExactSignsOfWiringRow.holds Try.pinned (OpenSpec.ofChange fnExactSignsOfWiringWrong)

/-- 'laws.FnExactAreSameWiring': WHATEVER THE INPUT: true; the input reads as it did. -/
def fnExactAreSameWiringSpec : ChangeSpec := { name := "fnExactAreSameWiring", fn := fun _ => fun
  | [d1, d2, d3] => { results := [.lit (.bool true)], args := [d1, d2, d3] }
  | _ => none }
def fnExactAreSameWiringRow : OpenClaim := { program := "ythibphndihjcaaa", sum := "0d85e499df7a3be41d69972db7c907984b2a73823e8cff8a85040356cbcba045", func := "loop.example/g03104/laws.FnExactAreSameWiring", spec := "fnExactAreSameWiring", unfollowed := true, recurses := true, plainKeys := false, apart := false }
def FnExactAreSameWiringSaid : Prop := fnExactAreSameWiringRow.holds Try.pinned (OpenSpec.ofChange fnExactAreSameWiringSpec)

/-- ITS FALSE NEIGHBOUR: 'it returns false'. Refute it at one input. -/
def fnExactAreSameWiringWrong : ChangeSpec := { name := "fnExactAreSameWiring", fn := fun _ => fun
  | [d1, d2, d3] => { results := [.lit (.bool false)], args := [d1, d2, d3] }
  | _ => none }
def FnExactAreSameWiringWrongFalsely : Prop := fnExactAreSameWiringRow.holds Try.pinned (OpenSpec.ofChange fnExactAreSameWiringWrong)

/-- 'laws.FnExactCellTable': WHATEVER THE INPUT: true; the input reads as it did. -/
def fnExactCellTableSpec : ChangeSpec := { name := "fnExactCellTable", fn := fun _ => fun
  | [d1, d2] => { results := [.lit (.bool true)], args := [d1, d2] }
  | _ => none }
def fnExactCellTableRow : OpenClaim := { program := "ythibphndihjcaaa", sum := "0d85e499df7a3be41d69972db7c907984b2a73823e8cff8a85040356cbcba045", func := "loop.example/g03104/laws.FnExactCellTable", spec := "fnExactCellTable", unfollowed := true, recurses := true, plainKeys := false, apart := false }
def FnExactCellTableSaid : Prop := fnExactCellTableRow.holds Try.pinned (OpenSpec.ofChange fnExactCellTableSpec)

/-- ITS FALSE NEIGHBOUR: 'it returns false'. Refute it at one input. -/
def fnExactCellTableWrong : ChangeSpec := { name := "fnExactCellTable", fn := fun _ => fun
  | [d1, d2] => { results := [.lit (.bool false)], args := [d1, d2] }
  | _ => none }
def FnExactCellTableWrongFalsely : Prop := fnExactCellTableRow.holds Try.pinned (OpenSpec.ofChange fnExactCellTableWrong)

/-- 'laws.FnExactCellSides': WHATEVER THE INPUT: true; the input reads as it did. -/
def fnExactCellSidesSpec : ChangeSpec := { name := "fnExactCellSides", fn := fun _ => fun
  | [d1, d2] => { results := [.lit (.bool true)], args := [d1, d2] }
  | _ => none }
def fnExactCellSidesRow : OpenClaim := { program := "ythibphndihjcaaa", sum := "0d85e499df7a3be41d69972db7c907984b2a73823e8cff8a85040356cbcba045", func := "loop.example/g03104/laws.FnExactCellSides", spec := "fnExactCellSides", unfollowed := true, recurses := true, plainKeys := false, apart := false }
def FnExactCellSidesSaid : Prop := fnExactCellSidesRow.holds Try.pinned (OpenSpec.ofChange fnExactCellSidesSpec)

/-- ITS FALSE NEIGHBOUR: 'it returns false'. Refute it at one input. -/
def fnExactCellSidesWrong : ChangeSpec := { name := "fnExactCellSides", fn := fun _ => fun
  | [d1, d2] => { results := [.lit (.bool false)], args := [d1, d2] }
  | _ => none }
def FnExactCellSidesWrongFalsely : Prop := fnExactCellSidesRow.holds Try.pinned (OpenSpec.ofChange fnExactCellSidesWrong)

/-- 'laws.FnExactCountTriangles': WHATEVER THE INPUT: true; the input reads as it did. -/
def fnExactCountTrianglesSpec : ChangeSpec := { name := "fnExactCountTriangles", fn := fun _ => fun
  | [d1, d2] => { results := [.lit (.bool true)], args := [d1, d2] }
  | _ => none }
def fnExactCountTrianglesRow : OpenClaim := { program := "ythibphndihjcaaa", sum := "0d85e499df7a3be41d69972db7c907984b2a73823e8cff8a85040356cbcba045", func := "loop.example/g03104/laws.FnExactCountTriangles", spec := "fnExactCountTriangles", unfollowed := true, recurses := true, plainKeys := false, apart := false }
def FnExactCountTrianglesSaid : Prop := fnExactCountTrianglesRow.holds Try.pinned (OpenSpec.ofChange fnExactCountTrianglesSpec)

/-- ITS FALSE NEIGHBOUR: 'it returns false'. Refute it at one input. -/
def fnExactCountTrianglesWrong : ChangeSpec := { name := "fnExactCountTriangles", fn := fun _ => fun
  | [d1, d2] => { results := [.lit (.bool false)], args := [d1, d2] }
  | _ => none }
def FnExactCountTrianglesWrongFalsely : Prop := fnExactCountTrianglesRow.holds Try.pinned (OpenSpec.ofChange fnExactCountTrianglesWrong)

/-- 'laws.FnExactIsSorted': WHATEVER THE INPUT: true; the input reads as it did. -/
def fnExactIsSortedSpec : ChangeSpec := { name := "fnExactIsSorted", fn := fun _ => fun
  | [d] => { results := [.lit (.bool true)], args := [d] }
  | _ => none }
def fnExactIsSortedRow : OpenClaim := { program := "ythibphndihjcaaa", sum := "0d85e499df7a3be41d69972db7c907984b2a73823e8cff8a85040356cbcba045", func := "loop.example/g03104/laws.FnExactIsSorted", spec := "fnExactIsSorted", recurses := true, plainKeys := false, apart := false }
def FnExactIsSortedSaid : Prop := fnExactIsSortedRow.holds Try.pinned (OpenSpec.ofChange fnExactIsSortedSpec)

/-- ITS FALSE NEIGHBOUR: 'it returns false'. Refute it at one input. -/
def fnExactIsSortedWrong : ChangeSpec := { name := "fnExactIsSorted", fn := fun _ => fun
  | [d] => { results := [.lit (.bool false)], args := [d] }
  | _ => none }
def FnExactIsSortedWrongFalsely : Prop := fnExactIsSortedRow.holds Try.pinned (OpenSpec.ofChange fnExactIsSortedWrong)

/-- 'laws.FnExactWiringOfSigns': WHATEVER THE INPUT: true; the input reads as it did. -/
def fnExactWiringOfSignsSpec : ChangeSpec := { name := "fnExactWiringOfSigns", fn := fun _ => fun
  | [d] => { results := [.lit (.bool true)], args := [d] }
  | _ => none }
def fnExactWiringOfSignsRow : OpenClaim := { program := "ythibphndihjcaaa", sum := "0d85e499df7a3be41d69972db7c907984b2a73823e8cff8a85040356cbcba045", func := "loop.example/g03104/laws.FnExactWiringOfSigns", spec := "fnExactWiringOfSigns", recurses := true, plainKeys := false, apart := false }
def FnExactWiringOfSignsSaid : Prop := fnExactWiringOfSignsRow.holds Try.pinned (OpenSpec.ofChange fnExactWiringOfSignsSpec)

/-- ITS FALSE NEIGHBOUR: 'it returns false'. Refute it at one input. -/
def fnExactWiringOfSignsWrong : ChangeSpec := { name := "fnExactWiringOfSigns", fn := fun _ => fun
  | [d] => { results := [.lit (.bool false)], args := [d] }
  | _ => none }
def FnExactWiringOfSignsWrongFalsely : Prop := fnExactWiringOfSignsRow.holds Try.pinned (OpenSpec.ofChange fnExactWiringOfSignsWrong)

/-- 'laws.FnExactNormalWiring': WHATEVER THE INPUT: true; the input reads as it did. -/
def fnExactNormalWiringSpec : ChangeSpec := { name := "fnExactNormalWiring", fn := fun _ => fun
  | [d1, d2] => { results := [.lit (.bool true)], args := [d1, d2] }
  | _ => none }
def fnExactNormalWiringRow : OpenClaim := { program := "ythibphndihjcaaa", sum := "0d85e499df7a3be41d69972db7c907984b2a73823e8cff8a85040356cbcba045", func := "loop.example/g03104/laws.FnExactNormalWiring", spec := "fnExactNormalWiring", unfollowed := true, recurses := true, plainKeys := false, apart := false }
def FnExactNormalWiringSaid : Prop := fnExactNormalWiringRow.holds Try.pinned (OpenSpec.ofChange fnExactNormalWiringSpec)

/-- ITS FALSE NEIGHBOUR: 'it returns false'. Refute it at one input. -/
def fnExactNormalWiringWrong : ChangeSpec := { name := "fnExactNormalWiring", fn := fun _ => fun
  | [d1, d2] => { results := [.lit (.bool false)], args := [d1, d2] }
  | _ => none }
def FnExactNormalWiringWrongFalsely : Prop := fnExactNormalWiringRow.holds Try.pinned (OpenSpec.ofChange fnExactNormalWiringWrong)

/-- 'laws.FnExactCountCommuting': WHATEVER THE INPUT: true; the input reads as it did. -/
def fnExactCountCommutingSpec : ChangeSpec := { name := "fnExactCountCommuting", fn := fun _ => fun
  | [d1, d2] => { results := [.lit (.bool true)], args := [d1, d2] }
  | _ => none }
def fnExactCountCommutingRow : OpenClaim := { program := "ythibphndihjcaaa", sum := "0d85e499df7a3be41d69972db7c907984b2a73823e8cff8a85040356cbcba045", func := "loop.example/g03104/laws.FnExactCountCommuting", spec := "fnExactCountCommuting", unfollowed := true, recurses := true, plainKeys := false, apart := false }
def FnExactCountCommutingSaid : Prop := fnExactCountCommutingRow.holds Try.pinned (OpenSpec.ofChange fnExactCountCommutingSpec)

/-- ITS FALSE NEIGHBOUR: 'it returns false'. Refute it at one input. -/
def fnExactCountCommutingWrong : ChangeSpec := { name := "fnExactCountCommuting", fn := fun _ => fun
  | [d1, d2] => { results := [.lit (.bool false)], args := [d1, d2] }
  | _ => none }
def FnExactCountCommutingWrongFalsely : Prop := fnExactCountCommutingRow.holds Try.pinned (OpenSpec.ofChange fnExactCountCommutingWrong)

/-- 'laws.FnExactBraidsFrom': WHATEVER THE INPUT: true; the input reads as it did. -/
def fnExactBraidsFromSpec : ChangeSpec := { name := "fnExactBraidsFrom", fn := fun _ => fun
  | [d1, d2] => { results := [.lit (.bool true)], args := [d1, d2] }
  | _ => none }
def fnExactBraidsFromRow : OpenClaim := { program := "ythibphndihjcaaa", sum := "0d85e499df7a3be41d69972db7c907984b2a73823e8cff8a85040356cbcba045", func := "loop.example/g03104/laws.FnExactBraidsFrom", spec := "fnExactBraidsFrom", unfollowed := true, recurses := true, plainKeys := false, apart := false }
def FnExactBraidsFromSaid : Prop := fnExactBraidsFromRow.holds Try.pinned (OpenSpec.ofChange fnExactBraidsFromSpec)

/-- ITS FALSE NEIGHBOUR: 'it returns false'. Refute it at one input. -/
def fnExactBraidsFromWrong : ChangeSpec := { name := "fnExactBraidsFrom", fn := fun _ => fun
  | [d1, d2] => { results := [.lit (.bool false)], args := [d1, d2] }
  | _ => none }
def FnExactBraidsFromWrongFalsely : Prop := fnExactBraidsFromRow.holds Try.pinned (OpenSpec.ofChange fnExactBraidsFromWrong)

/- THE SECOND FORM. 'bulk': how many values and letters a reading holds, each counted each time it is reached (what is shared counts as often as it is met; a slice's spare places count too). A statement '..UptoSaid' is the law's where the arguments, and the package variables that the reading takes, are together of bulk at most 1048576: NARROWER than '..Said'. Prove '..Said' where nothing that the law and all that it calls make is longer than what came in: it says more and counts as full. Else prove '..UptoSaid'. A law counts once. -/
mutual
def uptoBulk {H : Type} : DataW H → Nat
  | .lit (.string bytes) => bytes.length + 1
  | .lit _ => 1
  | .nil => 1
  | .ptr d => uptoBulk d + 1
  | .slice elems spare => uptoBulkAll elems + uptoBulkAll spare + 1
  | .agg parts => uptoBulkAll parts + 1
  | .iface _ d => uptoBulk d + 1
  | .map entries => uptoBulkEntries entries + 1
  | .held _ => 1
def uptoBulkAll {H : Type} : List (DataW H) → Nat
  | [] => 0
  | d :: r => uptoBulk d + uptoBulkAll r
def uptoBulkEntries {H : Type} : List (Lit × DataW H) → Nat
  | [] => 0
  | x :: r => uptoBulkEntry x + uptoBulkEntries r
def uptoBulkEntry {H : Type} : Lit × DataW H → Nat
  | (.string bytes, d) => bytes.length + uptoBulk d + 1
  | (_, d) => uptoBulk d + 1
 end
def uptoSmall : (H : Type) → List (DataW H) → Bool := fun _ ds => decide (uptoBulkAll ds ≤ 1048576)
def OpenSpec.upto (s : _root_.Go.ChangeSpec) : _root_.Go.OpenSpec := { _root_.Go.OpenSpec.ofChange s with cond := some uptoSmall }

/-- 'laws.FnExactZoneSum', WHERE WHAT IT READS IS OF BULK AT MOST 1048576: true; the input reads as it did. -/
def fnExactZoneSumUptoRow : OpenClaim := { program := "ythibphndihjcaaa", sum := "0d85e499df7a3be41d69972db7c907984b2a73823e8cff8a85040356cbcba045", func := "loop.example/g03104/laws.FnExactZoneSum", spec := "fnExactZoneSum", unfollowed := true, recurses := true, plainKeys := false, apart := false, narrowed := true }
def FnExactZoneSumUptoSaid : Prop := fnExactZoneSumUptoRow.holds Try.pinned (OpenSpec.upto fnExactZoneSumSpec)

/-- 'laws.FnExactSignsOfWiring', WHERE WHAT IT READS IS OF BULK AT MOST 1048576: true; the input reads as it did. -/
def fnExactSignsOfWiringUptoRow : OpenClaim := { program := "ythibphndihjcaaa", sum := "0d85e499df7a3be41d69972db7c907984b2a73823e8cff8a85040356cbcba045", func := "loop.example/g03104/laws.FnExactSignsOfWiring", spec := "fnExactSignsOfWiring", unfollowed := true, recurses := true, plainKeys := false, apart := false, narrowed := true }
def FnExactSignsOfWiringUptoSaid : Prop := fnExactSignsOfWiringUptoRow.holds Try.pinned (OpenSpec.upto fnExactSignsOfWiringSpec)

/-- 'laws.FnExactAreSameWiring', WHERE WHAT IT READS IS OF BULK AT MOST 1048576: true; the input reads as it did. -/
def fnExactAreSameWiringUptoRow : OpenClaim := { program := "ythibphndihjcaaa", sum := "0d85e499df7a3be41d69972db7c907984b2a73823e8cff8a85040356cbcba045", func := "loop.example/g03104/laws.FnExactAreSameWiring", spec := "fnExactAreSameWiring", unfollowed := true, recurses := true, plainKeys := false, apart := false, narrowed := true }
def FnExactAreSameWiringUptoSaid : Prop := fnExactAreSameWiringUptoRow.holds Try.pinned (OpenSpec.upto fnExactAreSameWiringSpec)

/-- 'laws.FnExactCellTable', WHERE WHAT IT READS IS OF BULK AT MOST 1048576: true; the input reads as it did. -/
def fnExactCellTableUptoRow : OpenClaim := { program := "ythibphndihjcaaa", sum := "0d85e499df7a3be41d69972db7c907984b2a73823e8cff8a85040356cbcba045", func := "loop.example/g03104/laws.FnExactCellTable", spec := "fnExactCellTable", unfollowed := true, recurses := true, plainKeys := false, apart := false, narrowed := true }
def FnExactCellTableUptoSaid : Prop := fnExactCellTableUptoRow.holds Try.pinned (OpenSpec.upto fnExactCellTableSpec)

/-- 'laws.FnExactCellSides', WHERE WHAT IT READS IS OF BULK AT MOST 1048576: true; the input reads as it did. -/
def fnExactCellSidesUptoRow : OpenClaim := { program := "ythibphndihjcaaa", sum := "0d85e499df7a3be41d69972db7c907984b2a73823e8cff8a85040356cbcba045", func := "loop.example/g03104/laws.FnExactCellSides", spec := "fnExactCellSides", unfollowed := true, recurses := true, plainKeys := false, apart := false, narrowed := true }
def FnExactCellSidesUptoSaid : Prop := fnExactCellSidesUptoRow.holds Try.pinned (OpenSpec.upto fnExactCellSidesSpec)

/-- 'laws.FnExactCountTriangles', WHERE WHAT IT READS IS OF BULK AT MOST 1048576: true; the input reads as it did. -/
def fnExactCountTrianglesUptoRow : OpenClaim := { program := "ythibphndihjcaaa", sum := "0d85e499df7a3be41d69972db7c907984b2a73823e8cff8a85040356cbcba045", func := "loop.example/g03104/laws.FnExactCountTriangles", spec := "fnExactCountTriangles", unfollowed := true, recurses := true, plainKeys := false, apart := false, narrowed := true }
def FnExactCountTrianglesUptoSaid : Prop := fnExactCountTrianglesUptoRow.holds Try.pinned (OpenSpec.upto fnExactCountTrianglesSpec)

/-- 'laws.FnExactIsSorted', WHERE WHAT IT READS IS OF BULK AT MOST 1048576: true; the input reads as it did. -/
def fnExactIsSortedUptoRow : OpenClaim := { program := "ythibphndihjcaaa", sum := "0d85e499df7a3be41d69972db7c907984b2a73823e8cff8a85040356cbcba045", func := "loop.example/g03104/laws.FnExactIsSorted", spec := "fnExactIsSorted", recurses := true, plainKeys := false, apart := false, narrowed := true }
def FnExactIsSortedUptoSaid : Prop := fnExactIsSortedUptoRow.holds Try.pinned (OpenSpec.upto fnExactIsSortedSpec)

/-- 'laws.FnExactWiringOfSigns', WHERE WHAT IT READS IS OF BULK AT MOST 1048576: true; the input reads as it did. -/
def fnExactWiringOfSignsUptoRow : OpenClaim := { program := "ythibphndihjcaaa", sum := "0d85e499df7a3be41d69972db7c907984b2a73823e8cff8a85040356cbcba045", func := "loop.example/g03104/laws.FnExactWiringOfSigns", spec := "fnExactWiringOfSigns", recurses := true, plainKeys := false, apart := false, narrowed := true }
def FnExactWiringOfSignsUptoSaid : Prop := fnExactWiringOfSignsUptoRow.holds Try.pinned (OpenSpec.upto fnExactWiringOfSignsSpec)

/-- 'laws.FnExactNormalWiring', WHERE WHAT IT READS IS OF BULK AT MOST 1048576: true; the input reads as it did. -/
def fnExactNormalWiringUptoRow : OpenClaim := { program := "ythibphndihjcaaa", sum := "0d85e499df7a3be41d69972db7c907984b2a73823e8cff8a85040356cbcba045", func := "loop.example/g03104/laws.FnExactNormalWiring", spec := "fnExactNormalWiring", unfollowed := true, recurses := true, plainKeys := false, apart := false, narrowed := true }
def FnExactNormalWiringUptoSaid : Prop := fnExactNormalWiringUptoRow.holds Try.pinned (OpenSpec.upto fnExactNormalWiringSpec)

/-- 'laws.FnExactCountCommuting', WHERE WHAT IT READS IS OF BULK AT MOST 1048576: true; the input reads as it did. -/
def fnExactCountCommutingUptoRow : OpenClaim := { program := "ythibphndihjcaaa", sum := "0d85e499df7a3be41d69972db7c907984b2a73823e8cff8a85040356cbcba045", func := "loop.example/g03104/laws.FnExactCountCommuting", spec := "fnExactCountCommuting", unfollowed := true, recurses := true, plainKeys := false, apart := false, narrowed := true }
def FnExactCountCommutingUptoSaid : Prop := fnExactCountCommutingUptoRow.holds Try.pinned (OpenSpec.upto fnExactCountCommutingSpec)

/-- 'laws.FnExactBraidsFrom', WHERE WHAT IT READS IS OF BULK AT MOST 1048576: true; the input reads as it did. -/
def fnExactBraidsFromUptoRow : OpenClaim := { program := "ythibphndihjcaaa", sum := "0d85e499df7a3be41d69972db7c907984b2a73823e8cff8a85040356cbcba045", func := "loop.example/g03104/laws.FnExactBraidsFrom", spec := "fnExactBraidsFrom", unfollowed := true, recurses := true, plainKeys := false, apart := false, narrowed := true }
def FnExactBraidsFromUptoSaid : Prop := fnExactBraidsFromUptoRow.holds Try.pinned (OpenSpec.upto fnExactBraidsFromSpec)

end Rows
end Go.Proofs.Ythibphndihjcaaa
