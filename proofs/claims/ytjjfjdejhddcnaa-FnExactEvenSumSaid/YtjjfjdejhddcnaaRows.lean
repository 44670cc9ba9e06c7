/-
  No cell of these rows narrows 'for every input' (looked for: loops, veiled, ifaces, maps, wideKeys, modest, calm, conditions, laid).
  DERIVED. THE GIVEN ROWS OF THIS SEAT. 12 by the template 'for every input the law returns true; each argument reads behind the call as it read before'; 0 by the template 'total and deterministic' (their statements: YtjjfjdejhddcnaaTotals.lean).
  GIVEN WITH THE SEED: the statements are not yours to turn. If you find one false, say at which input.
  Laid BY PROGRAM, IN A SANDBOX (cutbox-rows.mjs): the forced cells as the released guide's own fill.sh prints them over the translation 7753655ff2245294… (all of the seat's roots in one cut). By AI agents, Wed Nov 11 2026. No macro, syntax, notation, axiom, sorry.
-/
import Derived.Test.YtjjfjdejhddcnaaChecked
import GoSem.Claim
import GoSem.ClaimJoined
import GoSem.ClaimMapViews
import Derived.JoinedTies
import Derived.KernelRfl
namespace Go.Proofs.Ytjjfjdejhddcnaa
/- THE CELL 'sum', in the pinned program and in every row, IS THE sha256 OF THE DUMP (.gsa) THAT YtjjfjdejhddcnaaProg.lean LOADS. Nothing in Lean hashes anything: it is a label: what it is worth is what the hold of that sum in a sandbox is worth. -/
noncomputable def Try.pinned : Pinned := { name := "ytjjfjdejhddcnaa", sum := "7753655ff22452949d4e21fab7b1126ab7d9082949a4303e7b135e88cb450536", checked := Try.checked }
namespace Rows
def none {H : Type} : Left H := { results := [], args := [] }

/-- 'laws.FnExactHullEdges': WHATEVER THE INPUT: true; the input reads as it did. -/
def fnExactHullEdgesSpec : ChangeSpec := { name := "fnExactHullEdges", fn := fun _ => fun
  | [d] => { results := [.lit (.bool true)], args := [d] }
  | _ => none }
def fnExactHullEdgesRow : OpenClaim := { program := "ytjjfjdejhddcnaa", sum := "7753655ff22452949d4e21fab7b1126ab7d9082949a4303e7b135e88cb450536", func := "loop.example/g03104/laws.FnExactHullEdges", spec := "fnExactHullEdges", apart := false }
def FnExactHullEdgesSaid : Prop := fnExactHullEdgesRow.holds Try.pinned (OpenSpec.ofChange fnExactHullEdgesSpec)

/-- ITS FALSE NEIGHBOUR: 'it returns false'. Refute it at one input. -/
def fnExactHullEdgesWrong : ChangeSpec := { name := "fnExactHullEdges", fn := fun _ => fun
  | [d] => { results := [.lit (.bool false)], args := [d] }
  | _ => none }
def FnExactHullEdgesWrongFalsely : Prop := fnExactHullEdgesRow.holds Try.pinned (OpenSpec.ofChange fnExactHullEdgesWrong)

/-- 'laws.FnExactDoCross': WHATEVER THE INPUT: true; the input reads as it did. -/
def fnExactDoCrossSpec : ChangeSpec := { name := "fnExactDoCross", fn := fun _ => fun
  | [d1, d2, d3, d4, d5] => { results := [.lit (.bool true)], args := [d1, d2, d3, d4, d5] }
  | _ => none }
def fnExactDoCrossRow : OpenClaim := { program := "ytjjfjdejhddcnaa", sum := "7753655ff22452949d4e21fab7b1126ab7d9082949a4303e7b135e88cb450536", func := "loop.example/g03104/laws.FnExactDoCross", spec := "fnExactDoCross", apart := false }
def FnExactDoCrossSaid : Prop := fnExactDoCrossRow.holds Try.pinned (OpenSpec.ofChange fnExactDoCrossSpec)

/-- ITS FALSE NEIGHBOUR: 'it returns false'. Refute it at one input. -/
def fnExactDoCrossWrong : ChangeSpec := { name := "fnExactDoCross", fn := fun _ => fun
  | [d1, d2, d3, d4, d5] => { results := [.lit (.bool false)], args := [d1, d2, d3, d4, d5] }
  | _ => none }
def FnExactDoCrossWrongFalsely : Prop := fnExactDoCrossRow.holds Try.pinned (OpenSpec.ofChange fnExactDoCrossWrong)

/-- 'laws.FnExactFreeEdges': WHATEVER THE INPUT: true; the input reads as it did. -/
def fnExactFreeEdgesSpec : ChangeSpec := { name := "fnExactFreeEdges", fn := fun _ => fun
  | [d] => { results := [.lit (.bool true)], args := [d] }
  | _ => none }
def fnExactFreeEdgesRow : OpenClaim := { program := "ytjjfjdejhddcnaa", sum := "7753655ff22452949d4e21fab7b1126ab7d9082949a4303e7b135e88cb450536", func := "loop.example/g03104/laws.FnExactFreeEdges", spec := "fnExactFreeEdges", apart := false }
def FnExactFreeEdgesSaid : Prop := fnExactFreeEdgesRow.holds Try.pinned (OpenSpec.ofChange fnExactFreeEdgesSpec)

/-- ITS FALSE NEIGHBOUR: 'it returns false'. Refute it at one input. -/
def fnExactFreeEdgesWrong : ChangeSpec := { name := "fnExactFreeEdges", fn := fun _ => fun
  | [d] => { results := [.lit (.bool false)], args := [d] }
  | _ => none }
def FnExactFreeEdgesWrongFalsely : Prop := fnExactFreeEdgesRow.holds Try.pinned (OpenSpec.ofChange fnExactFreeEdgesWrong)

/-- 'laws.FnExactIsTriangulation': WHATEVER THE INPUT: true; the input reads as it did. -/
def fnExactIsTriangulationSpec : ChangeSpec := { name := "fnExactIsTriangulation", fn := fun _ => fun
  | [d1, d2] => { results := [.lit (.bool true)], args := [d1, d2] }
  | _ => none }
def fnExactIsTriangulationRow : OpenClaim := { program := "ytjjfjdejhddcnaa", sum := "7753655ff22452949d4e21fab7b1126ab7d9082949a4303e7b135e88cb450536", func := "loop.example/g03104/laws.FnExactIsTriangulation", spec := "fnExactIsTriangulation", apart := false }
def FnExactIsTriangulationSaid : Prop := fnExactIsTriangulationRow.holds Try.pinned (OpenSpec.ofChange fnExactIsTriangulationSpec)

/-- ITS FALSE NEIGHBOUR: 'it returns false'. Refute it at one input. -/
def fnExactIsTriangulationWrong : ChangeSpec := { name := "fnExactIsTriangulation", fn := fun _ => fun
  | [d1, d2] => { results := [.lit (.bool false)], args := [d1, d2] }
  | _ => none }
def FnExactIsTriangulationWrongFalsely : Prop := fnExactIsTriangulationRow.holds Try.pinned (OpenSpec.ofChange fnExactIsTriangulationWrong)

/-- 'laws.FnExactCrossingPairs': WHATEVER THE INPUT: true; the input reads as it did. -/
def fnExactCrossingPairsSpec : ChangeSpec := { name := "fnExactCrossingPairs", fn := fun _ => fun
  | [d1, d2] => { results := [.lit (.bool true)], args := [d1, d2] }
  | _ => none }
def fnExactCrossingPairsRow : OpenClaim := { program := "ytjjfjdejhddcnaa", sum := "7753655ff22452949d4e21fab7b1126ab7d9082949a4303e7b135e88cb450536", func := "loop.example/g03104/laws.FnExactCrossingPairs", spec := "fnExactCrossingPairs", apart := false }
def FnExactCrossingPairsSaid : Prop := fnExactCrossingPairsRow.holds Try.pinned (OpenSpec.ofChange fnExactCrossingPairsSpec)

/-- ITS FALSE NEIGHBOUR: 'it returns false'. Refute it at one input. -/
def fnExactCrossingPairsWrong : ChangeSpec := { name := "fnExactCrossingPairs", fn := fun _ => fun
  | [d1, d2] => { results := [.lit (.bool false)], args := [d1, d2] }
  | _ => none }
def FnExactCrossingPairsWrongFalsely : Prop := fnExactCrossingPairsRow.holds Try.pinned (OpenSpec.ofChange fnExactCrossingPairsWrong)

/-- 'laws.FnExactIsPlane': WHATEVER THE INPUT: true; the input reads as it did. -/
def fnExactIsPlaneSpec : ChangeSpec := { name := "fnExactIsPlane", fn := fun _ => fun
  | [d1, d2] => { results := [.lit (.bool true)], args := [d1, d2] }
  | _ => none }
def fnExactIsPlaneRow : OpenClaim := { program := "ytjjfjdejhddcnaa", sum := "7753655ff22452949d4e21fab7b1126ab7d9082949a4303e7b135e88cb450536", func := "loop.example/g03104/laws.FnExactIsPlane", spec := "fnExactIsPlane", apart := false }
def FnExactIsPlaneSaid : Prop := fnExactIsPlaneRow.holds Try.pinned (OpenSpec.ofChange fnExactIsPlaneSpec)

/-- ITS FALSE NEIGHBOUR: 'it returns false'. Refute it at one input. -/
def fnExactIsPlaneWrong : ChangeSpec := { name := "fnExactIsPlane", fn := fun _ => fun
  | [d1, d2] => { results := [.lit (.bool false)], args := [d1, d2] }
  | _ => none }
def FnExactIsPlaneWrongFalsely : Prop := fnExactIsPlaneRow.holds Try.pinned (OpenSpec.ofChange fnExactIsPlaneWrong)

/-- 'laws.FnExactFlipEdge': WHATEVER THE INPUT: true; the input reads as it did. -/
def fnExactFlipEdgeSpec : ChangeSpec := { name := "fnExactFlipEdge", fn := fun _ => fun
  | [d1, d2, d3] => { results := [.lit (.bool true)], args := [d1, d2, d3] }
  | _ => none }
def fnExactFlipEdgeRow : OpenClaim := { program := "ytjjfjdejhddcnaa", sum := "7753655ff22452949d4e21fab7b1126ab7d9082949a4303e7b135e88cb450536", func := "loop.example/g03104/laws.FnExactFlipEdge", spec := "fnExactFlipEdge", apart := false }
def FnExactFlipEdgeSaid : Prop := fnExactFlipEdgeRow.holds Try.pinned (OpenSpec.ofChange fnExactFlipEdgeSpec)

/-- ITS FALSE NEIGHBOUR: 'it returns false'. Refute it at one input. -/
def fnExactFlipEdgeWrong : ChangeSpec := { name := "fnExactFlipEdge", fn := fun _ => fun
  | [d1, d2, d3] => { results := [.lit (.bool false)], args := [d1, d2, d3] }
  | _ => none }
def FnExactFlipEdgeWrongFalsely : Prop := fnExactFlipEdgeRow.holds Try.pinned (OpenSpec.ofChange fnExactFlipEdgeWrong)

/-- 'laws.FnExactConvexSets': WHATEVER THE INPUT: true; the input reads as it did. -/
def fnExactConvexSetsSpec : ChangeSpec := { name := "fnExactConvexSets", fn := fun _ => fun
  | [d1, d2] => { results := [.lit (.bool true)], args := [d1, d2] }
  | _ => none }
def fnExactConvexSetsRow : OpenClaim := { program := "ytjjfjdejhddcnaa", sum := "7753655ff22452949d4e21fab7b1126ab7d9082949a4303e7b135e88cb450536", func := "loop.example/g03104/laws.FnExactConvexSets", spec := "fnExactConvexSets", apart := false }
def FnExactConvexSetsSaid : Prop := fnExactConvexSetsRow.holds Try.pinned (OpenSpec.ofChange fnExactConvexSetsSpec)

/-- ITS FALSE NEIGHBOUR: 'it returns false'. Refute it at one input. -/
def fnExactConvexSetsWrong : ChangeSpec := { name := "fnExactConvexSets", fn := fun _ => fun
  | [d1, d2] => { results := [.lit (.bool false)], args := [d1, d2] }
  | _ => none }
def FnExactConvexSetsWrongFalsely : Prop := fnExactConvexSetsRow.holds Try.pinned (OpenSpec.ofChange fnExactConvexSetsWrong)

/-- 'laws.FnExactTriangulations': WHATEVER THE INPUT: true; the input reads as it did. -/
def fnExactTriangulationsSpec : ChangeSpec := { name := "fnExactTriangulations", fn := fun _ => fun
  | [d] => { results := [.lit (.bool true)], args := [d] }
  | _ => none }
def fnExactTriangulationsRow : OpenClaim := { program := "ytjjfjdejhddcnaa", sum := "7753655ff22452949d4e21fab7b1126ab7d9082949a4303e7b135e88cb450536", func := "loop.example/g03104/laws.FnExactTriangulations", spec := "fnExactTriangulations", recurses := true, apart := false }
def FnExactTriangulationsSaid : Prop := fnExactTriangulationsRow.holds Try.pinned (OpenSpec.ofChange fnExactTriangulationsSpec)

/-- ITS FALSE NEIGHBOUR: 'it returns false'. Refute it at one input. -/
def fnExactTriangulationsWrong : ChangeSpec := { name := "fnExactTriangulations", fn := fun _ => fun
  | [d] => { results := [.lit (.bool false)], args := [d] }
  | _ => none }
def FnExactTriangulationsWrongFalsely : Prop := fnExactTriangulationsRow.holds Try.pinned (OpenSpec.ofChange fnExactTriangulationsWrong)

/-- 'laws.FnExactEvenSum': WHATEVER THE INPUT: true; the input reads as it did. -/
def fnExactEvenSumSpec : ChangeSpec := { name := "fnExactEvenSum", fn := fun _ => fun
  | [d] => { results := [.lit (.bool true)], args := [d] }
  | _ => none }
def fnExactEvenSumRow : OpenClaim := { program := "ytjjfjdejhddcnaa", sum := "7753655ff22452949d4e21fab7b1126ab7d9082949a4303e7b135e88cb450536", func := "loop.example/g03104/laws.FnExactEvenSum", spec := "fnExactEvenSum", unfollowed := true, recurses := true, apart := false }
def FnExactEvenSumSaid : Prop := fnExactEvenSumRow.holds Try.pinned (OpenSpec.ofChange fnExactEvenSumSpec)

/-- ITS FALSE NEIGHBOUR: 'it returns false'. Refute it at one input. -/
def fnExactEvenSumWrong : ChangeSpec := { name := "fnExactEvenSum", fn := fun _ => fun
  | [d] => { results := [.lit (.bool false)], args := [d] }
  | _ => none }
def FnExactEvenSumWrongFalsely : Prop := fnExactEvenSumRow.holds Try.pinned (OpenSpec.ofChange fnExactEvenSumWrong)

/-- 'laws.FnExactEmptySets': WHATEVER THE INPUT: true; the input reads as it did. -/
def fnExactEmptySetsSpec : ChangeSpec := { name := "fnExactEmptySets", fn := fun _ => fun
  | [d1, d2] => { results := [.lit (.bool true)], args := [d1, d2] }
  | _ => none }
def fnExactEmptySetsRow : OpenClaim := { program := "ytjjfjdejhddcnaa", sum := "7753655ff22452949d4e21fab7b1126ab7d9082949a4303e7b135e88cb450536", func := "loop.example/g03104/laws.FnExactEmptySets", spec := "fnExactEmptySets", unfollowed := true, recurses := true, apart := false }
def FnExactEmptySetsSaid : Prop := fnExactEmptySetsRow.holds Try.pinned (OpenSpec.ofChange fnExactEmptySetsSpec)

/-- ITS FALSE NEIGHBOUR: 'it returns false'. Refute it at one input. -/
def fnExactEmptySetsWrong : ChangeSpec := { name := "fnExactEmptySets", fn := fun _ => fun
  | [d1, d2] => { results := [.lit (.bool false)], args := [d1, d2] }
  | _ => none }
def FnExactEmptySetsWrongFalsely : Prop := fnExactEmptySetsRow.holds Try.pinned (OpenSpec.ofChange fnExactEmptySetsWrong)

/-- 'laws.FnExactTrianglesOf': WHATEVER THE INPUT: true; the input reads as it did. -/
def fnExactTrianglesOfSpec : ChangeSpec := { name := "fnExactTrianglesOf", fn := fun _ => fun
  | [d1, d2] => { results := [.lit (.bool true)], args := [d1, d2] }
  | _ => none }
def fnExactTrianglesOfRow : OpenClaim := { program := "ytjjfjdejhddcnaa", sum := "7753655ff22452949d4e21fab7b1126ab7d9082949a4303e7b135e88cb450536", func := "loop.example/g03104/laws.FnExactTrianglesOf", spec := "fnExactTrianglesOf", apart := false }
def FnExactTrianglesOfSaid : Prop := fnExactTrianglesOfRow.holds Try.pinned (OpenSpec.ofChange fnExactTrianglesOfSpec)

/-- ITS FALSE NEIGHBOUR: 'it returns false'. Refute it at one input. -/
def fnExactTrianglesOfWrong : ChangeSpec := { name := "fnExactTrianglesOf", fn := fun _ => fun
  | [d1, d2] => { results := [.lit (.bool false)], args := [d1, d2] }
  | _ => none }
def FnExactTrianglesOfWrongFalsely : Prop := fnExactTrianglesOfRow.holds Try.pinned (OpenSpec.ofChange fnExactTrianglesOfWrong)

/- THE SECOND FORM. 'bulk': how many values and letters a reading holds, each counted each time it is reached (what is shared counts as often as it is met; a slice's spare places count too). A statement '..UptoSaid' is the law's where the arguments, and the package variables that the reading takes, are together of bulk at most 1048576: NARROWER than '..Said'. Prove '..Said' where nothing that the law and all that it calls make is longer than what came in: it says more and counts as full. Else prove '..UptoSaid'. A law counts once. -/
mutual
def uptoBulk {H : Type} : DataW H → Nat
  | .lit (.string bytes) => bytes.length + 1
  | .lit _ => 1
  | .nil => 1
  | .ptr d => uptoBulk d + 1
  | .slice elems spare => uptoBulkAll elems + uptoBulkAll spare + 1
  | .agg parts => uptoBulkAll parts + 1
  | .iface _ d => uptoBulk d + 1
  | .map entries => uptoBulkEntries entries + 1
  | .held _ => 1
def uptoBulkAll {H : Type} : List (DataW H) → Nat
  | [] => 0
  | d :: r => uptoBulk d + uptoBulkAll r
def uptoBulkEntries {H : Type} : List (Lit × DataW H) → Nat
  | [] => 0
  | x :: r => uptoBulkEntry x + uptoBulkEntries r
def uptoBulkEntry {H : Type} : Lit × DataW H → Nat
  | (.string bytes, d) => bytes.length + uptoBulk d + 1
  | (_, d) => uptoBulk d + 1
 end
def uptoSmall : (H : Type) → List (DataW H) → Bool := fun _ ds => decide (uptoBulkAll ds ≤ 1048576)
def OpenSpec.upto (s : _root_.Go.ChangeSpec) : _root_.Go.OpenSpec := { _root_.Go.OpenSpec.ofChange s with cond := some uptoSmall }

/-- 'laws.FnExactHullEdges', WHERE WHAT IT READS IS OF BULK AT MOST 1048576: true; the input reads as it did. -/
def fnExactHullEdgesUptoRow : OpenClaim := { program := "ytjjfjdejhddcnaa", sum := "7753655ff22452949d4e21fab7b1126ab7d9082949a4303e7b135e88cb450536", func := "loop.example/g03104/laws.FnExactHullEdges", spec := "fnExactHullEdges", apart := false, narrowed := true }
def FnExactHullEdgesUptoSaid : Prop := fnExactHullEdgesUptoRow.holds Try.pinned (OpenSpec.upto fnExactHullEdgesSpec)

/-- 'laws.FnExactDoCross', WHERE WHAT IT READS IS OF BULK AT MOST 1048576: true; the input reads as it did. -/
def fnExactDoCrossUptoRow : OpenClaim := { program := "ytjjfjdejhddcnaa", sum := "7753655ff22452949d4e21fab7b1126ab7d9082949a4303e7b135e88cb450536", func := "loop.example/g03104/laws.FnExactDoCross", spec := "fnExactDoCross", apart := false, narrowed := true }
def FnExactDoCrossUptoSaid : Prop := fnExactDoCrossUptoRow.holds Try.pinned (OpenSpec.upto fnExactDoCrossSpec)

/-- 'laws.FnExactFreeEdges', WHERE WHAT IT READS IS OF BULK AT MOST 1048576: true; the input reads as it did. -/
def fnExactFreeEdgesUptoRow : OpenClaim := { program := "ytjjfjdejhddcnaa", sum := "7753655ff22452949d4e21fab7b1126ab7d9082949a4303e7b135e88cb450536", func := "loop.example/g03104/laws.FnExactFreeEdges", spec := "fnExactFreeEdges", apart := false, narrowed := true }
def FnExactFreeEdgesUptoSaid : Prop := fnExactFreeEdgesUptoRow.holds Try.pinned (OpenSpec.upto fnExactFreeEdgesSpec)

/-- 'laws.FnExactIsTriangulation', WHERE WHAT IT READS IS OF BULK AT MOST 1048576: true; the input reads as it did. -/
def fnExactIsTriangulationUptoRow : OpenClaim := { program := "ytjjfjdejhddcnaa", sum := "7753655ff22452949d4e21fab7b1126ab7d9082949a4303e7b135e88cb450536", func := "loop.example/g03104/laws.FnExactIsTriangulation", spec := "fnExactIsTriangulation", apart := false, narrowed := true }
def FnExactIsTriangulationUptoSaid : Prop := fnExactIsTriangulationUptoRow.holds Try.pinned (OpenSpec.upto fnExactIsTriangulationSpec)

/-- 'laws.FnExactCrossingPairs', WHERE WHAT IT READS IS OF BULK AT MOST 1048576: true; the input reads as it did. -/
def fnExactCrossingPairsUptoRow : OpenClaim := { program := "ytjjfjdejhddcnaa", sum := "7753655ff22452949d4e21fab7b1126ab7d9082949a4303e7b135e88cb450536", func := "loop.example/g03104/laws.FnExactCrossingPairs", spec := "fnExactCrossingPairs", apart := false, narrowed := true }
def FnExactCrossingPairsUptoSaid : Prop := fnExactCrossingPairsUptoRow.holds Try.pinned (OpenSpec.upto fnExactCrossingPairsSpec)

/-- 'laws.FnExactIsPlane', WHERE WHAT IT READS IS OF BULK AT MOST 1048576: true; the input reads as it did. -/
def fnExactIsPlaneUptoRow : OpenClaim := { program := "ytjjfjdejhddcnaa", sum := "7753655ff22452949d4e21fab7b1126ab7d9082949a4303e7b135e88cb450536", func := "loop.example/g03104/laws.FnExactIsPlane", spec := "fnExactIsPlane", apart := false, narrowed := true }
def FnExactIsPlaneUptoSaid : Prop := fnExactIsPlaneUptoRow.holds Try.pinned (OpenSpec.upto fnExactIsPlaneSpec)

/-- 'laws.FnExactFlipEdge', WHERE WHAT IT READS IS OF BULK AT MOST 1048576: true; the input reads as it did. -/
def fnExactFlipEdgeUptoRow : OpenClaim := { program := "ytjjfjdejhddcnaa", sum := "7753655ff22452949d4e21fab7b1126ab7d9082949a4303e7b135e88cb450536", func := "loop.example/g03104/laws.FnExactFlipEdge", spec := "fnExactFlipEdge", apart := false, narrowed := true }
def FnExactFlipEdgeUptoSaid : Prop := fnExactFlipEdgeUptoRow.holds Try.pinned (OpenSpec.upto fnExactFlipEdgeSpec)

/-- 'laws.FnExactConvexSets', WHERE WHAT IT READS IS OF BULK AT MOST 1048576: true; the input reads as it did. -/
def fnExactConvexSetsUptoRow : OpenClaim := { program := "ytjjfjdejhddcnaa", sum := "7753655ff22452949d4e21fab7b1126ab7d9082949a4303e7b135e88cb450536", func := "loop.example/g03104/laws.FnExactConvexSets", spec := "fnExactConvexSets", apart := false, narrowed := true }
def FnExactConvexSetsUptoSaid : Prop := fnExactConvexSetsUptoRow.holds Try.pinned (OpenSpec.upto fnExactConvexSetsSpec)

/-- 'laws.FnExactTriangulations', WHERE WHAT IT READS IS OF BULK AT MOST 1048576: true; the input reads as it did. -/
def fnExactTriangulationsUptoRow : OpenClaim := { program := "ytjjfjdejhddcnaa", sum := "7753655ff22452949d4e21fab7b1126ab7d9082949a4303e7b135e88cb450536", func := "loop.example/g03104/laws.FnExactTriangulations", spec := "fnExactTriangulations", recurses := true, apart := false, narrowed := true }
def FnExactTriangulationsUptoSaid : Prop := fnExactTriangulationsUptoRow.holds Try.pinned (OpenSpec.upto fnExactTriangulationsSpec)

/-- 'laws.FnExactEvenSum', WHERE WHAT IT READS IS OF BULK AT MOST 1048576: true; the input reads as it did. -/
def fnExactEvenSumUptoRow : OpenClaim := { program := "ytjjfjdejhddcnaa", sum := "7753655ff22452949d4e21fab7b1126ab7d9082949a4303e7b135e88cb450536", func := "loop.example/g03104/laws.FnExactEvenSum", spec := "fnExactEvenSum", unfollowed := true, recurses := true, apart := false, narrowed := true }
def FnExactEvenSumUptoSaid : Prop := fnExactEvenSumUptoRow.holds Try.pinned (OpenSpec.upto fnExactEvenSumSpec)

/-- 'laws.FnExactEmptySets', WHERE WHAT IT READS IS OF BULK AT MOST 1048576: true; the input reads as it did. -/
def fnExactEmptySetsUptoRow : OpenClaim := { program := "ytjjfjdejhddcnaa", sum := "7753655ff22452949d4e21fab7b1126ab7d9082949a4303e7b135e88cb450536", func := "loop.example/g03104/laws.FnExactEmptySets", spec := "fnExactEmptySets", unfollowed := true, recurses := true, apart := false, narrowed := true }
def FnExactEmptySetsUptoSaid : Prop := fnExactEmptySetsUptoRow.holds Try.pinned (OpenSpec.upto fnExactEmptySetsSpec)

/-- 'laws.FnExactTrianglesOf', WHERE WHAT IT READS IS OF BULK AT MOST 1048576: true; the input reads as it did. -/
def fnExactTrianglesOfUptoRow : OpenClaim := { program := "ytjjfjdejhddcnaa", sum := "7753655ff22452949d4e21fab7b1126ab7d9082949a4303e7b135e88cb450536", func := "loop.example/g03104/laws.FnExactTrianglesOf", spec := "fnExactTrianglesOf", apart := false, narrowed := true }
def FnExactTrianglesOfUptoSaid : Prop := fnExactTrianglesOfUptoRow.holds Try.pinned (OpenSpec.upto fnExactTrianglesOfSpec)

end Rows
end Go.Proofs.Ytjjfjdejhddcnaa
