/-
  No cell of these rows narrows 'for every input' (looked for: loops, veiled, ifaces, maps, wideKeys, modest, calm, conditions, laid).
  DERIVED. THE GIVEN ROWS OF THIS SEAT. 12 by the template 'for every input the law returns true; each argument reads behind the call as it read before'; 0 by the template 'total and deterministic' (their statements: YtdjaiedfcmjblaaTotals.lean).
  GIVEN WITH THE SEED: the statements are not yours to turn. If you find one false, say at which input.
  Laid BY PROGRAM, IN A SANDBOX (cutbox-rows.mjs): the forced cells as the released guide's own fill.sh prints them over the translation 8519be2adece79ab… (all of the seat's roots in one cut). By AI agents, Wed Nov 11 2026. No macro, syntax, notation, axiom, sorry.
-/
import Derived.Test.YtdjaiedfcmjblaaChecked
import GoSem.Claim
import GoSem.ClaimJoined
import GoSem.ClaimMapViews
import Derived.JoinedTies
import Derived.KernelRfl
namespace Go.Proofs.Ytdjaiedfcmjblaa
/- THE CELL 'sum', in the pinned program and in every row, IS THE sha256 OF THE DUMP (.gsa) THAT YtdjaiedfcmjblaaProg.lean LOADS. Nothing in Lean hashes anything: it is a label: what it is worth is what the hold of that sum in a sandbox is worth. -/
noncomputable def Try.pinned : Pinned := { name := "ytdjaiedfcmjblaa", sum := "8519be2adece79ab62ff0b61a8b1fbecc97bba493ffdce76bc6d8831cdc6c58c", checked := Try.checked }
namespace Rows
def none {H : Type} : Left H := { results := [], args := [] }

/-- 'laws.FnExactIsWiring': WHATEVER THE INPUT: true; the input reads as it did. -/
def fnExactIsWiringSpec : ChangeSpec := { name := "fnExactIsWiring", fn := fun _ => fun
  | [d1, d2] => { results := [.lit (.bool true)], args := [d1, d2] }
  | _ => none }
def fnExactIsWiringRow : OpenClaim := { program := "ytdjaiedfcmjblaa", sum := "8519be2adece79ab62ff0b61a8b1fbecc97bba493ffdce76bc6d8831cdc6c58c", func := "loop.example/g03104/laws.FnExactIsWiring", spec := "fnExactIsWiring", unfollowed := true, recurses := true, apart := false }
def FnExactIsWiringSaid : Prop := fnExactIsWiringRow.holds Try.pinned (OpenSpec.ofChange fnExactIsWiringSpec)

/-- ITS FALSE NEIGHBOUR: 'it returns false'. Refute it at one input. -/
def fnExactIsWiringWrong : ChangeSpec := { name := "fnExactIsWiring", fn := fun _ => fun
  | [d1, d2] => { results := [.lit (.bool false)], args := [d1, d2] }
  | _ => none }
def FnExactIsWiringWrongFalsely : Prop := fnExactIsWiringRow.holds Try.pinned (OpenSpec.ofChange fnExactIsWiringWrong)

/-- 'laws.FnExactCountCells': WHATEVER THE INPUT: true; the input reads as it did. -/
def fnExactCountCellsSpec : ChangeSpec := { name := "fnExactCountCells", fn := fun _ => fun
  | [d1, d2] => { results := [.lit (.bool true)], args := [d1, d2] }
  | _ => none }
def fnExactCountCellsRow : OpenClaim := { program := "ytdjaiedfcmjblaa", sum := "8519be2adece79ab62ff0b61a8b1fbecc97bba493ffdce76bc6d8831cdc6c58c", func := "loop.example/g03104/laws.FnExactCountCells", spec := "fnExactCountCells", unfollowed := true, recurses := true, apart := false }
def FnExactCountCellsSaid : Prop := fnExactCountCellsRow.holds Try.pinned (OpenSpec.ofChange fnExactCountCellsSpec)

/-- ITS FALSE NEIGHBOUR: 'it returns false'. Refute it at one input. -/
def fnExactCountCellsWrong : ChangeSpec := { name := "fnExactCountCells", fn := fun _ => fun
  | [d1, d2] => { results := [.lit (.bool false)], args := [d1, d2] }
  | _ => none }
def FnExactCountCellsWrongFalsely : Prop := fnExactCountCellsRow.holds Try.pinned (OpenSpec.ofChange fnExactCountCellsWrong)

/-- 'laws.FnExactFlipWiring': WHATEVER THE INPUT: true; the input reads as it did. -/
def fnExactFlipWiringSpec : ChangeSpec := { name := "fnExactFlipWiring", fn := fun _ => fun
  | [d1, d2] => { results := [.lit (.bool true)], args := [d1, d2] }
  | _ => none }
def fnExactFlipWiringRow : OpenClaim := { program := "ytdjaiedfcmjblaa", sum := "8519be2adece79ab62ff0b61a8b1fbecc97bba493ffdce76bc6d8831cdc6c58c", func := "loop.example/g03104/laws.FnExactFlipWiring", spec := "fnExactFlipWiring", unfollowed := true, recurses := true, apart := false }
def FnExactFlipWiringSaid : Prop := fnExactFlipWiringRow.holds Try.pinned (OpenSpec.ofChange fnExactFlipWiringSpec)

/-- ITS FALSE NEIGHBOUR: 'it returns false'. Refute it at one input. -/
def fnExactFlipWiringWrong : ChangeSpec := { name := "fnExactFlipWiring", fn := fun _ => fun
  | [d1, d2] => { results := [.lit (.bool false)], args := [d1, d2] }
  | _ => none }
def FnExactFlipWiringWrongFalsely : Prop := fnExactFlipWiringRow.holds Try.pinned (OpenSpec.ofChange fnExactFlipWiringWrong)

/-- 'laws.FnExactLevelSizes': WHATEVER THE INPUT: true; the input reads as it did. -/
def fnExactLevelSizesSpec : ChangeSpec := { name := "fnExactLevelSizes", fn := fun _ => fun
  | [d1, d2] => { results := [.lit (.bool true)], args := [d1, d2] }
  | _ => none }
def fnExactLevelSizesRow : OpenClaim := { program := "ytdjaiedfcmjblaa", sum := "8519be2adece79ab62ff0b61a8b1fbecc97bba493ffdce76bc6d8831cdc6c58c", func := "loop.example/g03104/laws.FnExactLevelSizes", spec := "fnExactLevelSizes", unfollowed := true, recurses := true, apart := false }
def FnExactLevelSizesSaid : Prop := fnExactLevelSizesRow.holds Try.pinned (OpenSpec.ofChange fnExactLevelSizesSpec)

/-- ITS FALSE NEIGHBOUR: 'it returns false'. Refute it at one input. -/
def fnExactLevelSizesWrong : ChangeSpec := { name := "fnExactLevelSizes", fn := fun _ => fun
  | [d1, d2] => { results := [.lit (.bool false)], args := [d1, d2] }
  | _ => none }
def FnExactLevelSizesWrongFalsely : Prop := fnExactLevelSizesRow.holds Try.pinned (OpenSpec.ofChange fnExactLevelSizesWrong)

/-- 'laws.FnExactWiresAfter': WHATEVER THE INPUT: true; the input reads as it did. -/
def fnExactWiresAfterSpec : ChangeSpec := { name := "fnExactWiresAfter", fn := fun _ => fun
  | [d1, d2, d3] => { results := [.lit (.bool true)], args := [d1, d2, d3] }
  | _ => none }
def fnExactWiresAfterRow : OpenClaim := { program := "ytdjaiedfcmjblaa", sum := "8519be2adece79ab62ff0b61a8b1fbecc97bba493ffdce76bc6d8831cdc6c58c", func := "loop.example/g03104/laws.FnExactWiresAfter", spec := "fnExactWiresAfter", unfollowed := true, recurses := true, apart := false }
def FnExactWiresAfterSaid : Prop := fnExactWiresAfterRow.holds Try.pinned (OpenSpec.ofChange fnExactWiresAfterSpec)

/-- ITS FALSE NEIGHBOUR: 'it returns false'. Refute it at one input. -/
def fnExactWiresAfterWrong : ChangeSpec := { name := "fnExactWiresAfter", fn := fun _ => fun
  | [d1, d2, d3] => { results := [.lit (.bool false)], args := [d1, d2, d3] }
  | _ => none }
def FnExactWiresAfterWrongFalsely : Prop := fnExactWiresAfterRow.holds Try.pinned (OpenSpec.ofChange fnExactWiresAfterWrong)

/-- 'laws.FnExactTurnWiring': WHATEVER THE INPUT: true; the input reads as it did. -/
def fnExactTurnWiringSpec : ChangeSpec := { name := "fnExactTurnWiring", fn := fun _ => fun
  | [d1, d2] => { results := [.lit (.bool true)], args := [d1, d2] }
  | _ => none }
def fnExactTurnWiringRow : OpenClaim := { program := "ytdjaiedfcmjblaa", sum := "8519be2adece79ab62ff0b61a8b1fbecc97bba493ffdce76bc6d8831cdc6c58c", func := "loop.example/g03104/laws.FnExactTurnWiring", spec := "fnExactTurnWiring", unfollowed := true, recurses := true, apart := false }
def FnExactTurnWiringSaid : Prop := fnExactTurnWiringRow.holds Try.pinned (OpenSpec.ofChange fnExactTurnWiringSpec)

/-- ITS FALSE NEIGHBOUR: 'it returns false'. Refute it at one input. -/
def fnExactTurnWiringWrong : ChangeSpec := { name := "fnExactTurnWiring", fn := fun _ => fun
  | [d1, d2] => { results := [.lit (.bool false)], args := [d1, d2] }
  | _ => none }
def FnExactTurnWiringWrongFalsely : Prop := fnExactTurnWiringRow.holds Try.pinned (OpenSpec.ofChange fnExactTurnWiringWrong)

/-- 'laws.FnExactCommuteAt': WHATEVER THE INPUT: true; the input reads as it did. -/
def fnExactCommuteAtSpec : ChangeSpec := { name := "fnExactCommuteAt", fn := fun _ => fun
  | [d1, d2, d3] => { results := [.lit (.bool true)], args := [d1, d2, d3] }
  | _ => none }
def fnExactCommuteAtRow : OpenClaim := { program := "ytdjaiedfcmjblaa", sum := "8519be2adece79ab62ff0b61a8b1fbecc97bba493ffdce76bc6d8831cdc6c58c", func := "loop.example/g03104/laws.FnExactCommuteAt", spec := "fnExactCommuteAt", unfollowed := true, recurses := true, apart := false }
def FnExactCommuteAtSaid : Prop := fnExactCommuteAtRow.holds Try.pinned (OpenSpec.ofChange fnExactCommuteAtSpec)

/-- ITS FALSE NEIGHBOUR: 'it returns false'. Refute it at one input. -/
def fnExactCommuteAtWrong : ChangeSpec := { name := "fnExactCommuteAt", fn := fun _ => fun
  | [d1, d2, d3] => { results := [.lit (.bool false)], args := [d1, d2, d3] }
  | _ => none }
def FnExactCommuteAtWrongFalsely : Prop := fnExactCommuteAtRow.holds Try.pinned (OpenSpec.ofChange fnExactCommuteAtWrong)

/-- 'laws.FnExactBraidAt': WHATEVER THE INPUT: true; the input reads as it did. -/
def fnExactBraidAtSpec : ChangeSpec := { name := "fnExactBraidAt", fn := fun _ => fun
  | [d1, d2, d3] => { results := [.lit (.bool true)], args := [d1, d2, d3] }
  | _ => none }
def fnExactBraidAtRow : OpenClaim := { program := "ytdjaiedfcmjblaa", sum := "8519be2adece79ab62ff0b61a8b1fbecc97bba493ffdce76bc6d8831cdc6c58c", func := "loop.example/g03104/laws.FnExactBraidAt", spec := "fnExactBraidAt", unfollowed := true, recurses := true, apart := false }
def FnExactBraidAtSaid : Prop := fnExactBraidAtRow.holds Try.pinned (OpenSpec.ofChange fnExactBraidAtSpec)

/-- ITS FALSE NEIGHBOUR: 'it returns false'. Refute it at one input. -/
def fnExactBraidAtWrong : ChangeSpec := { name := "fnExactBraidAt", fn := fun _ => fun
  | [d1, d2, d3] => { results := [.lit (.bool false)], args := [d1, d2, d3] }
  | _ => none }
def FnExactBraidAtWrongFalsely : Prop := fnExactBraidAtRow.holds Try.pinned (OpenSpec.ofChange fnExactBraidAtWrong)

/-- 'laws.FnExactWiringsOf': WHATEVER THE INPUT: true; the input reads as it did. -/
def fnExactWiringsOfSpec : ChangeSpec := { name := "fnExactWiringsOf", fn := fun _ => fun
  | [d] => { results := [.lit (.bool true)], args := [d] }
  | _ => none }
def fnExactWiringsOfRow : OpenClaim := { program := "ytdjaiedfcmjblaa", sum := "8519be2adece79ab62ff0b61a8b1fbecc97bba493ffdce76bc6d8831cdc6c58c", func := "loop.example/g03104/laws.FnExactWiringsOf", spec := "fnExactWiringsOf", recurses := true, apart := false }
def FnExactWiringsOfSaid : Prop := fnExactWiringsOfRow.holds Try.pinned (OpenSpec.ofChange fnExactWiringsOfSpec)

/-- ITS FALSE NEIGHBOUR: 'it returns false'. Refute it at one input. -/
def fnExactWiringsOfWrong : ChangeSpec := { name := "fnExactWiringsOf", fn := fun _ => fun
  | [d] => { results := [.lit (.bool false)], args := [d] }
  | _ => none }
def FnExactWiringsOfWrongFalsely : Prop := fnExactWiringsOfRow.holds Try.pinned (OpenSpec.ofChange fnExactWiringsOfWrong)

/-- 'laws.FnExactSwapsOf': WHATEVER THE INPUT: true; the input reads as it did. -/
def fnExactSwapsOfSpec : ChangeSpec := { name := "fnExactSwapsOf", fn := fun _ => fun
  | [d1, d2] => { results := [.lit (.bool true)], args := [d1, d2] }
  | _ => none }
def fnExactSwapsOfRow : OpenClaim := { program := "ytdjaiedfcmjblaa", sum := "8519be2adece79ab62ff0b61a8b1fbecc97bba493ffdce76bc6d8831cdc6c58c", func := "loop.example/g03104/laws.FnExactSwapsOf", spec := "fnExactSwapsOf", unfollowed := true, recurses := true, apart := false }
def FnExactSwapsOfSaid : Prop := fnExactSwapsOfRow.holds Try.pinned (OpenSpec.ofChange fnExactSwapsOfSpec)

/-- ITS FALSE NEIGHBOUR: 'it returns false'. Refute it at one input. -/
def fnExactSwapsOfWrong : ChangeSpec := { name := "fnExactSwapsOf", fn := fun _ => fun
  | [d1, d2] => { results := [.lit (.bool false)], args := [d1, d2] }
  | _ => none }
def FnExactSwapsOfWrongFalsely : Prop := fnExactSwapsOfRow.holds Try.pinned (OpenSpec.ofChange fnExactSwapsOfWrong)

/-- 'laws.FnExactWalkOf': WHATEVER THE INPUT: true; the input reads as it did. -/
def fnExactWalkOfSpec : ChangeSpec := { name := "fnExactWalkOf", fn := fun _ => fun
  | [d1, d2, d3] => { results := [.lit (.bool true)], args := [d1, d2, d3] }
  | _ => none }
def fnExactWalkOfRow : OpenClaim := { program := "ytdjaiedfcmjblaa", sum := "8519be2adece79ab62ff0b61a8b1fbecc97bba493ffdce76bc6d8831cdc6c58c", func := "loop.example/g03104/laws.FnExactWalkOf", spec := "fnExactWalkOf", unfollowed := true, recurses := true, apart := false }
def FnExactWalkOfSaid : Prop := fnExactWalkOfRow.holds Try.pinned (OpenSpec.ofChange fnExactWalkOfSpec)

/-- ITS FALSE NEIGHBOUR: 'it returns false'. Refute it at one input. -/
def fnExactWalkOfWrong : ChangeSpec := { name := "fnExactWalkOf", fn := fun _ => fun
  | [d1, d2, d3] => { results := [.lit (.bool false)], args := [d1, d2, d3] }
  | _ => none }
def FnExactWalkOfWrongFalsely : Prop := fnExactWalkOfRow.holds Try.pinned (OpenSpec.ofChange fnExactWalkOfWrong)

/-- 'laws.FnExactWiringFrom': WHATEVER THE INPUT: true; the input reads as it did. -/
def fnExactWiringFromSpec : ChangeSpec := { name := "fnExactWiringFrom", fn := fun _ => fun
  | [d1, d2] => { results := [.lit (.bool true)], args := [d1, d2] }
  | _ => none }
def fnExactWiringFromRow : OpenClaim := { program := "ytdjaiedfcmjblaa", sum := "8519be2adece79ab62ff0b61a8b1fbecc97bba493ffdce76bc6d8831cdc6c58c", func := "loop.example/g03104/laws.FnExactWiringFrom", spec := "fnExactWiringFrom", apart := false }
def FnExactWiringFromSaid : Prop := fnExactWiringFromRow.holds Try.pinned (OpenSpec.ofChange fnExactWiringFromSpec)

/-- ITS FALSE NEIGHBOUR: 'it returns false'. Refute it at one input. -/
def fnExactWiringFromWrong : ChangeSpec := { name := "fnExactWiringFrom", fn := fun _ => fun
  | [d1, d2] => { results := [.lit (.bool false)], args := [d1, d2] }
  | _ => none }
def FnExactWiringFromWrongFalsely : Prop := fnExactWiringFromRow.holds Try.pinned (OpenSpec.ofChange fnExactWiringFromWrong)

/- THE SECOND FORM. 'bulk': how many values and letters a reading holds, each counted each time it is reached (what is shared counts as often as it is met; a slice's spare places count too). A statement '..UptoSaid' is the law's where the arguments, and the package variables that the reading takes, are together of bulk at most 1048576: NARROWER than '..Said'. Prove '..Said' where nothing that the law and all that it calls make is longer than what came in: it says more and counts as full. Else prove '..UptoSaid'. A law counts once. -/
mutual
def uptoBulk {H : Type} : DataW H → Nat
  | .lit (.string bytes) => bytes.length + 1
  | .lit _ => 1
  | .nil => 1
  | .ptr d => uptoBulk d + 1
  | .slice elems spare => uptoBulkAll elems + uptoBulkAll spare + 1
  | .agg parts => uptoBulkAll parts + 1
  | .iface _ d => uptoBulk d + 1
  | .map entries => uptoBulkEntries entries + 1
  | .held _ => 1
def uptoBulkAll {H : Type} : List (DataW H) → Nat
  | [] => 0
  | d :: r => uptoBulk d + uptoBulkAll r
def uptoBulkEntries {H : Type} : List (Lit × DataW H) → Nat
  | [] => 0
  | x :: r => uptoBulkEntry x + uptoBulkEntries r
def uptoBulkEntry {H : Type} : Lit × DataW H → Nat
  | (.string bytes, d) => bytes.length + uptoBulk d + 1
  | (_, d) => uptoBulk d + 1
 end
def uptoSmall : (H : Type) → List (DataW H) → Bool := fun _ ds => decide (uptoBulkAll ds ≤ 1048576)
def OpenSpec.upto (s : _root_.Go.ChangeSpec) : _root_.Go.OpenSpec := { _root_.Go.OpenSpec.ofChange s with cond := some uptoSmall }

/-- 'laws.FnExactIsWiring', WHERE WHAT IT READS IS OF BULK AT MOST 1048576: true; the input reads as it did. -/
def fnExactIsWiringUptoRow : OpenClaim := { program := "ytdjaiedfcmjblaa", sum := "8519be2adece79ab62ff0b61a8b1fbecc97bba493ffdce76bc6d8831cdc6c58c", func := "loop.example/g03104/laws.FnExactIsWiring", spec := "fnExactIsWiring", unfollowed := true, recurses := true, apart := false, narrowed := true }
def FnExactIsWiringUptoSaid : Prop := fnExactIsWiringUptoRow.holds Try.pinned (OpenSpec.upto fnExactIsWiringSpec)

/-- 'laws.FnExactCountCells', WHERE WHAT IT READS IS OF BULK AT MOST 1048576: true; the input reads as it did. -/
def fnExactCountCellsUptoRow : OpenClaim := { program := "ytdjaiedfcmjblaa", sum := "8519be2adece79ab62ff0b61a8b1fbecc97bba493ffdce76bc6d8831cdc6c58c", func := "loop.example/g03104/laws.FnExactCountCells", spec := "fnExactCountCells", unfollowed := true, recurses := true, apart := false, narrowed := true }
def FnExactCountCellsUptoSaid : Prop := fnExactCountCellsUptoRow.holds Try.pinned (OpenSpec.upto fnExactCountCellsSpec)

/-- 'laws.FnExactFlipWiring', WHERE WHAT IT READS IS OF BULK AT MOST 1048576: true; the input reads as it did. -/
def fnExactFlipWiringUptoRow : OpenClaim := { program := "ytdjaiedfcmjblaa", sum := "8519be2adece79ab62ff0b61a8b1fbecc97bba493ffdce76bc6d8831cdc6c58c", func := "loop.example/g03104/laws.FnExactFlipWiring", spec := "fnExactFlipWiring", unfollowed := true, recurses := true, apart := false, narrowed := true }
def FnExactFlipWiringUptoSaid : Prop := fnExactFlipWiringUptoRow.holds Try.pinned (OpenSpec.upto fnExactFlipWiringSpec)

/-- 'laws.FnExactLevelSizes', WHERE WHAT IT READS IS OF BULK AT MOST 1048576: true; the input reads as it did. -/
def fnExactLevelSizesUptoRow : OpenClaim := { program := "ytdjaiedfcmjblaa", sum := "8519be2adece79ab62ff0b61a8b1fbecc97bba493ffdce76bc6d8831cdc6c58c", func := "loop.example/g03104/laws.FnExactLevelSizes", spec := "fnExactLevelSizes", unfollowed := true, recurses := true, apart := false, narrowed := true }
def FnExactLevelSizesUptoSaid : Prop := fnExactLevelSizesUptoRow.holds Try.pinned (OpenSpec.upto fnExactLevelSizesSpec)

/-- 'laws.FnExactWiresAfter', WHERE WHAT IT READS IS OF BULK AT MOST 1048576: true; the input reads as it did. -/
def fnExactWiresAfterUptoRow : OpenClaim := { program := "ytdjaiedfcmjblaa", sum := "8519be2adece79ab62ff0b61a8b1fbecc97bba493ffdce76bc6d8831cdc6c58c", func := "loop.example/g03104/laws.FnExactWiresAfter", spec := "fnExactWiresAfter", unfollowed := true, recurses := true, apart := false, narrowed := true }
def FnExactWiresAfterUptoSaid : Prop := fnExactWiresAfterUptoRow.holds Try.pinned (OpenSpec.upto fnExactWiresAfterSpec)

/-- 'laws.FnExactTurnWiring', WHERE WHAT IT READS IS OF BULK AT MOST 1048576: true; the input reads as it did. -/
def fnExactTurnWiringUptoRow : OpenClaim := { program := "ytdjaiedfcmjblaa", sum := "8519be2adece79ab62ff0b61a8b1fbecc97bba493ffdce76bc6d8831cdc6c58c", func := "loop.example/g03104/laws.FnExactTurnWiring", spec := "fnExactTurnWiring", unfollowed := true, recurses := true, apart := false, narrowed := true }
def FnExactTurnWiringUptoSaid : Prop := fnExactTurnWiringUptoRow.holds Try.pinned (OpenSpec.upto fnExactTurnWiringSpec)

/-- 'laws.FnExactCommuteAt', WHERE WHAT IT READS IS OF BULK AT MOST 1048576: true; the input reads as it did. -/
def fnExactCommuteAtUptoRow : OpenClaim := { program := "ytdjaiedfcmjblaa", sum := "8519be2adece79ab62ff0b61a8b1fbecc97bba493ffdce76bc6d8831cdc6c58c", func := "loop.example/g03104/laws.FnExactCommuteAt", spec := "fnExactCommuteAt", unfollowed := true, recurses := true, apart := false, narrowed := true }
def FnExactCommuteAtUptoSaid : Prop := fnExactCommuteAtUptoRow.holds Try.pinned (OpenSpec.upto fnExactCommuteAtSpec)

/-- 'laws.FnExactBraidAt', WHERE WHAT IT READS IS OF BULK AT MOST 1048576: true; the input reads as it did. -/
def fnExactBraidAtUptoRow : OpenClaim := { program := "ytdjaiedfcmjblaa", sum := "8519be2adece79ab62ff0b61a8b1fbecc97bba493ffdce76bc6d8831cdc6c58c", func := "loop.example/g03104/laws.FnExactBraidAt", spec := "fnExactBraidAt", unfollowed := true, recurses := true, apart := false, narrowed := true }
def FnExactBraidAtUptoSaid : Prop := fnExactBraidAtUptoRow.holds Try.pinned (OpenSpec.upto fnExactBraidAtSpec)

/-- 'laws.FnExactWiringsOf', WHERE WHAT IT READS IS OF BULK AT MOST 1048576: true; the input reads as it did. -/
def fnExactWiringsOfUptoRow : OpenClaim := { program := "ytdjaiedfcmjblaa", sum := "8519be2adece79ab62ff0b61a8b1fbecc97bba493ffdce76bc6d8831cdc6c58c", func := "loop.example/g03104/laws.FnExactWiringsOf", spec := "fnExactWiringsOf", recurses := true, apart := false, narrowed := true }
def FnExactWiringsOfUptoSaid : Prop := fnExactWiringsOfUptoRow.holds Try.pinned (OpenSpec.upto fnExactWiringsOfSpec)

/-- 'laws.FnExactSwapsOf', WHERE WHAT IT READS IS OF BULK AT MOST 1048576: true; the input reads as it did. -/
def fnExactSwapsOfUptoRow : OpenClaim := { program := "ytdjaiedfcmjblaa", sum := "8519be2adece79ab62ff0b61a8b1fbecc97bba493ffdce76bc6d8831cdc6c58c", func := "loop.example/g03104/laws.FnExactSwapsOf", spec := "fnExactSwapsOf", unfollowed := true, recurses := true, apart := false, narrowed := true }
def FnExactSwapsOfUptoSaid : Prop := fnExactSwapsOfUptoRow.holds Try.pinned (OpenSpec.upto fnExactSwapsOfSpec)

/-- 'laws.FnExactWalkOf', WHERE WHAT IT READS IS OF BULK AT MOST 1048576: true; the input reads as it did. -/
def fnExactWalkOfUptoRow : OpenClaim := { program := "ytdjaiedfcmjblaa", sum := "8519be2adece79ab62ff0b61a8b1fbecc97bba493ffdce76bc6d8831cdc6c58c", func := "loop.example/g03104/laws.FnExactWalkOf", spec := "fnExactWalkOf", unfollowed := true, recurses := true, apart := false, narrowed := true }
def FnExactWalkOfUptoSaid : Prop := fnExactWalkOfUptoRow.holds Try.pinned (OpenSpec.upto fnExactWalkOfSpec)

/-- 'laws.FnExactWiringFrom', WHERE WHAT IT READS IS OF BULK AT MOST 1048576: true; the input reads as it did. -/
def fnExactWiringFromUptoRow : OpenClaim := { program := "ytdjaiedfcmjblaa", sum := "8519be2adece79ab62ff0b61a8b1fbecc97bba493ffdce76bc6d8831cdc6c58c", func := "loop.example/g03104/laws.FnExactWiringFrom", spec := "fnExactWiringFrom", apart := false, narrowed := true }
def FnExactWiringFromUptoSaid : Prop := fnExactWiringFromUptoRow.holds Try.pinned (OpenSpec.upto fnExactWiringFromSpec)

end Rows
end Go.Proofs.Ytdjaiedfcmjblaa
