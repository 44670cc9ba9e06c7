/-
  No cell of these rows narrows 'for every input' (looked for: loops, veiled, ifaces, maps, wideKeys, modest, calm, conditions, laid).
  DERIVED. THE GIVEN ROWS OF THIS SEAT. 7 by the template 'for every input the law returns true; each argument reads behind the call as it read before'; 0 by the template 'total and deterministic' (their statements: YtfgnijcclnleaaaTotals.lean).
  GIVEN WITH THE SEED: the statements are not yours to turn. If you find one false, say at which input.
  Laid BY PROGRAM, IN A SANDBOX (cutbox-rows.mjs): the forced cells as the released guide's own fill.sh prints them over the translation 713e51e4be762bfa… (all of the seat's roots in one cut). By AI agents, Wed Nov 11 2026. No macro, syntax, notation, axiom, sorry.
-/
import Derived.Test.YtfgnijcclnleaaaChecked
import GoSem.Claim
import GoSem.ClaimJoined
import GoSem.ClaimMapViews
import Derived.JoinedTies
import Derived.KernelRfl
namespace Go.Proofs.Ytfgnijcclnleaaa
/- THE CELL 'sum', in the pinned program and in every row, IS THE sha256 OF THE DUMP (.gsa) THAT YtfgnijcclnleaaaProg.lean LOADS. Nothing in Lean hashes anything: it is a label: what it is worth is what the hold of that sum in a sandbox is worth. -/
noncomputable def Try.pinned : Pinned := { name := "ytfgnijcclnleaaa", sum := "713e51e4be762bfa9669bec680633f878dc23d77596b5946f96ab5f50dbd7f42", checked := Try.checked }
namespace Rows
def none {H : Type} : Left H := { results := [], args := [] }

/-- 'laws.FnExactAllEdges': WHATEVER THE INPUT: true; the input reads as it did. -/
def fnExactAllEdgesSpec : ChangeSpec := { name := "fnExactAllEdges", fn := fun _ => fun
  | [d] => { results := [.lit (.bool true)], args := [d] }
  | _ => none }
def fnExactAllEdgesRow : OpenClaim := { program := "ytfgnijcclnleaaa", sum := "713e51e4be762bfa9669bec680633f878dc23d77596b5946f96ab5f50dbd7f42", func := "loop.example/g03104/laws.FnExactAllEdges", spec := "fnExactAllEdges", apart := false }
def FnExactAllEdgesSaid : Prop := fnExactAllEdgesRow.holds Try.pinned (OpenSpec.ofChange fnExactAllEdgesSpec)

/-- ITS FALSE NEIGHBOUR: 'it returns false'. Refute it at one input. -/
def fnExactAllEdgesWrong : ChangeSpec := { name := "fnExactAllEdges", fn := fun _ => fun
  | [d] => { results := [.lit (.bool false)], args := [d] }
  | _ => none }
def FnExactAllEdgesWrongFalsely : Prop := fnExactAllEdgesRow.holds Try.pinned (OpenSpec.ofChange fnExactAllEdgesWrong)

/-- 'laws.FnExactEdgeAt': WHATEVER THE INPUT: true; the input reads as it did. -/
def fnExactEdgeAtSpec : ChangeSpec := { name := "fnExactEdgeAt", fn := fun _ => fun
  | [d1, d2] => { results := [.lit (.bool true)], args := [d1, d2] }
  | _ => none }
def fnExactEdgeAtRow : OpenClaim := { program := "ytfgnijcclnleaaa", sum := "713e51e4be762bfa9669bec680633f878dc23d77596b5946f96ab5f50dbd7f42", func := "loop.example/g03104/laws.FnExactEdgeAt", spec := "fnExactEdgeAt", apart := false }
def FnExactEdgeAtSaid : Prop := fnExactEdgeAtRow.holds Try.pinned (OpenSpec.ofChange fnExactEdgeAtSpec)

/-- ITS FALSE NEIGHBOUR: 'it returns false'. Refute it at one input. -/
def fnExactEdgeAtWrong : ChangeSpec := { name := "fnExactEdgeAt", fn := fun _ => fun
  | [d1, d2] => { results := [.lit (.bool false)], args := [d1, d2] }
  | _ => none }
def FnExactEdgeAtWrongFalsely : Prop := fnExactEdgeAtRow.holds Try.pinned (OpenSpec.ofChange fnExactEdgeAtWrong)

/-- 'laws.FnExactSlopeBefore': WHATEVER THE INPUT: true; the input reads as it did. -/
def fnExactSlopeBeforeSpec : ChangeSpec := { name := "fnExactSlopeBefore", fn := fun _ => fun
  | [d1, d2, d3, d4] => { results := [.lit (.bool true)], args := [d1, d2, d3, d4] }
  | _ => none }
def fnExactSlopeBeforeRow : OpenClaim := { program := "ytfgnijcclnleaaa", sum := "713e51e4be762bfa9669bec680633f878dc23d77596b5946f96ab5f50dbd7f42", func := "loop.example/g03104/laws.FnExactSlopeBefore", spec := "fnExactSlopeBefore", unfollowed := true, recurses := true, apart := false }
def FnExactSlopeBeforeSaid : Prop := fnExactSlopeBeforeRow.holds Try.pinned (OpenSpec.ofChange fnExactSlopeBeforeSpec)

/-- ITS FALSE NEIGHBOUR: 'it returns false'. Refute it at one input. -/
def fnExactSlopeBeforeWrong : ChangeSpec := { name := "fnExactSlopeBefore", fn := fun _ => fun
  | [d1, d2, d3, d4] => { results := [.lit (.bool false)], args := [d1, d2, d3, d4] }
  | _ => none }
def FnExactSlopeBeforeWrongFalsely : Prop := fnExactSlopeBeforeRow.holds Try.pinned (OpenSpec.ofChange fnExactSlopeBeforeWrong)

/-- 'laws.FnExactSignDistance': WHATEVER THE INPUT: true; the input reads as it did. -/
def fnExactSignDistanceSpec : ChangeSpec := { name := "fnExactSignDistance", fn := fun _ => fun
  | [d1, d2] => { results := [.lit (.bool true)], args := [d1, d2] }
  | _ => none }
def fnExactSignDistanceRow : OpenClaim := { program := "ytfgnijcclnleaaa", sum := "713e51e4be762bfa9669bec680633f878dc23d77596b5946f96ab5f50dbd7f42", func := "loop.example/g03104/laws.FnExactSignDistance", spec := "fnExactSignDistance", apart := false }
def FnExactSignDistanceSaid : Prop := fnExactSignDistanceRow.holds Try.pinned (OpenSpec.ofChange fnExactSignDistanceSpec)

/-- ITS FALSE NEIGHBOUR: 'it returns false'. Refute it at one input. -/
def fnExactSignDistanceWrong : ChangeSpec := { name := "fnExactSignDistance", fn := fun _ => fun
  | [d1, d2] => { results := [.lit (.bool false)], args := [d1, d2] }
  | _ => none }
def FnExactSignDistanceWrongFalsely : Prop := fnExactSignDistanceRow.holds Try.pinned (OpenSpec.ofChange fnExactSignDistanceWrong)

/-- 'laws.FnExactEdgeIndex': WHATEVER THE INPUT: true; the input reads as it did. -/
def fnExactEdgeIndexSpec : ChangeSpec := { name := "fnExactEdgeIndex", fn := fun _ => fun
  | [d1, d2, d3] => { results := [.lit (.bool true)], args := [d1, d2, d3] }
  | _ => none }
def fnExactEdgeIndexRow : OpenClaim := { program := "ytfgnijcclnleaaa", sum := "713e51e4be762bfa9669bec680633f878dc23d77596b5946f96ab5f50dbd7f42", func := "loop.example/g03104/laws.FnExactEdgeIndex", spec := "fnExactEdgeIndex", apart := false }
def FnExactEdgeIndexSaid : Prop := fnExactEdgeIndexRow.holds Try.pinned (OpenSpec.ofChange fnExactEdgeIndexSpec)

/-- ITS FALSE NEIGHBOUR: 'it returns false'. Refute it at one input. -/
def fnExactEdgeIndexWrong : ChangeSpec := { name := "fnExactEdgeIndex", fn := fun _ => fun
  | [d1, d2, d3] => { results := [.lit (.bool false)], args := [d1, d2, d3] }
  | _ => none }
def FnExactEdgeIndexWrongFalsely : Prop := fnExactEdgeIndexRow.holds Try.pinned (OpenSpec.ofChange fnExactEdgeIndexWrong)

/-- 'laws.FnExactDegreesOf': WHATEVER THE INPUT: true; the input reads as it did. -/
def fnExactDegreesOfSpec : ChangeSpec := { name := "fnExactDegreesOf", fn := fun _ => fun
  | [d1, d2] => { results := [.lit (.bool true)], args := [d1, d2] }
  | _ => none }
def fnExactDegreesOfRow : OpenClaim := { program := "ytfgnijcclnleaaa", sum := "713e51e4be762bfa9669bec680633f878dc23d77596b5946f96ab5f50dbd7f42", func := "loop.example/g03104/laws.FnExactDegreesOf", spec := "fnExactDegreesOf", apart := false }
def FnExactDegreesOfSaid : Prop := fnExactDegreesOfRow.holds Try.pinned (OpenSpec.ofChange fnExactDegreesOfSpec)

/-- ITS FALSE NEIGHBOUR: 'it returns false'. Refute it at one input. -/
def fnExactDegreesOfWrong : ChangeSpec := { name := "fnExactDegreesOf", fn := fun _ => fun
  | [d1, d2] => { results := [.lit (.bool false)], args := [d1, d2] }
  | _ => none }
def FnExactDegreesOfWrongFalsely : Prop := fnExactDegreesOfRow.holds Try.pinned (OpenSpec.ofChange fnExactDegreesOfWrong)

/-- 'laws.FnExactIsTree': WHATEVER THE INPUT: true; the input reads as it did. -/
def fnExactIsTreeSpec : ChangeSpec := { name := "fnExactIsTree", fn := fun _ => fun
  | [d1, d2] => { results := [.lit (.bool true)], args := [d1, d2] }
  | _ => none }
def fnExactIsTreeRow : OpenClaim := { program := "ytfgnijcclnleaaa", sum := "713e51e4be762bfa9669bec680633f878dc23d77596b5946f96ab5f50dbd7f42", func := "loop.example/g03104/laws.FnExactIsTree", spec := "fnExactIsTree", apart := false }
def FnExactIsTreeSaid : Prop := fnExactIsTreeRow.holds Try.pinned (OpenSpec.ofChange fnExactIsTreeSpec)

/-- ITS FALSE NEIGHBOUR: 'it returns false'. Refute it at one input. -/
def fnExactIsTreeWrong : ChangeSpec := { name := "fnExactIsTree", fn := fun _ => fun
  | [d1, d2] => { results := [.lit (.bool false)], args := [d1, d2] }
  | _ => none }
def FnExactIsTreeWrongFalsely : Prop := fnExactIsTreeRow.holds Try.pinned (OpenSpec.ofChange fnExactIsTreeWrong)

/- THE SECOND FORM. 'bulk': how many values and letters a reading holds, each counted each time it is reached (what is shared counts as often as it is met; a slice's spare places count too). A statement '..UptoSaid' is the law's where the arguments, and the package variables that the reading takes, are together of bulk at most 1048576: NARROWER than '..Said'. Prove '..Said' where nothing that the law and all that it calls make is longer than what came in: it says more and counts as full. Else prove '..UptoSaid'. A law counts once. -/
mutual
def uptoBulk {H : Type} : DataW H → Nat
  | .lit (.string bytes) => bytes.length + 1
  | .lit _ => 1
  | .nil => 1
  | .ptr d => uptoBulk d + 1
  | .slice elems spare => uptoBulkAll elems + uptoBulkAll spare + 1
  | .agg parts => uptoBulkAll parts + 1
  | .iface _ d => uptoBulk d + 1
  | .map entries => uptoBulkEntries entries + 1
  | .held _ => 1
def uptoBulkAll {H : Type} : List (DataW H) → Nat
  | [] => 0
  | d :: r => uptoBulk d + uptoBulkAll r
def uptoBulkEntries {H : Type} : List (Lit × DataW H) → Nat
  | [] => 0
  | x :: r => uptoBulkEntry x + uptoBulkEntries r
def uptoBulkEntry {H : Type} : Lit × DataW H → Nat
  | (.string bytes, d) => bytes.length + uptoBulk d + 1
  | (_, d) => uptoBulk d + 1
 end
def uptoSmall : (H : Type) → List (DataW H) → Bool := fun _ ds => decide (uptoBulkAll ds ≤ 1048576)
def OpenSpec.upto (s : _root_.Go.ChangeSpec) : _root_.Go.OpenSpec := { _root_.Go.OpenSpec.ofChange s with cond := some uptoSmall }

/-- 'laws.FnExactAllEdges', WHERE WHAT IT READS IS OF BULK AT MOST 1048576: true; the input reads as it did. -/
def fnExactAllEdgesUptoRow : OpenClaim := { program := "ytfgnijcclnleaaa", sum := "713e51e4be762bfa9669bec680633f878dc23d77596b5946f96ab5f50dbd7f42", func := "loop.example/g03104/laws.FnExactAllEdges", spec := "fnExactAllEdges", apart := false, narrowed := true }
def FnExactAllEdgesUptoSaid : Prop := fnExactAllEdgesUptoRow.holds Try.pinned (OpenSpec.upto fnExactAllEdgesSpec)

/-- 'laws.FnExactEdgeAt', WHERE WHAT IT READS IS OF BULK AT MOST 1048576: true; the input reads as it did. -/
def fnExactEdgeAtUptoRow : OpenClaim := { program := "ytfgnijcclnleaaa", sum := "713e51e4be762bfa9669bec680633f878dc23d77596b5946f96ab5f50dbd7f42", func := "loop.example/g03104/laws.FnExactEdgeAt", spec := "fnExactEdgeAt", apart := false, narrowed := true }
def FnExactEdgeAtUptoSaid : Prop := fnExactEdgeAtUptoRow.holds Try.pinned (OpenSpec.upto fnExactEdgeAtSpec)

/-- 'laws.FnExactSlopeBefore', WHERE WHAT IT READS IS OF BULK AT MOST 1048576: true; the input reads as it did. -/
def fnExactSlopeBeforeUptoRow : OpenClaim := { program := "ytfgnijcclnleaaa", sum := "713e51e4be762bfa9669bec680633f878dc23d77596b5946f96ab5f50dbd7f42", func := "loop.example/g03104/laws.FnExactSlopeBefore", spec := "fnExactSlopeBefore", unfollowed := true, recurses := true, apart := false, narrowed := true }
def FnExactSlopeBeforeUptoSaid : Prop := fnExactSlopeBeforeUptoRow.holds Try.pinned (OpenSpec.upto fnExactSlopeBeforeSpec)

/-- 'laws.FnExactSignDistance', WHERE WHAT IT READS IS OF BULK AT MOST 1048576: true; the input reads as it did. -/
def fnExactSignDistanceUptoRow : OpenClaim := { program := "ytfgnijcclnleaaa", sum := "713e51e4be762bfa9669bec680633f878dc23d77596b5946f96ab5f50dbd7f42", func := "loop.example/g03104/laws.FnExactSignDistance", spec := "fnExactSignDistance", apart := false, narrowed := true }
def FnExactSignDistanceUptoSaid : Prop := fnExactSignDistanceUptoRow.holds Try.pinned (OpenSpec.upto fnExactSignDistanceSpec)

/-- 'laws.FnExactEdgeIndex', WHERE WHAT IT READS IS OF BULK AT MOST 1048576: true; the input reads as it did. -/
def fnExactEdgeIndexUptoRow : OpenClaim := { program := "ytfgnijcclnleaaa", sum := "713e51e4be762bfa9669bec680633f878dc23d77596b5946f96ab5f50dbd7f42", func := "loop.example/g03104/laws.FnExactEdgeIndex", spec := "fnExactEdgeIndex", apart := false, narrowed := true }
def FnExactEdgeIndexUptoSaid : Prop := fnExactEdgeIndexUptoRow.holds Try.pinned (OpenSpec.upto fnExactEdgeIndexSpec)

/-- 'laws.FnExactDegreesOf', WHERE WHAT IT READS IS OF BULK AT MOST 1048576: true; the input reads as it did. -/
def fnExactDegreesOfUptoRow : OpenClaim := { program := "ytfgnijcclnleaaa", sum := "713e51e4be762bfa9669bec680633f878dc23d77596b5946f96ab5f50dbd7f42", func := "loop.example/g03104/laws.FnExactDegreesOf", spec := "fnExactDegreesOf", apart := false, narrowed := true }
def FnExactDegreesOfUptoSaid : Prop := fnExactDegreesOfUptoRow.holds Try.pinned (OpenSpec.upto fnExactDegreesOfSpec)

/-- 'laws.FnExactIsTree', WHERE WHAT IT READS IS OF BULK AT MOST 1048576: true; the input reads as it did. -/
def fnExactIsTreeUptoRow : OpenClaim := { program := "ytfgnijcclnleaaa", sum := "713e51e4be762bfa9669bec680633f878dc23d77596b5946f96ab5f50dbd7f42", func := "loop.example/g03104/laws.FnExactIsTree", spec := "fnExactIsTree", apart := false, narrowed := true }
def FnExactIsTreeUptoSaid : Prop := fnExactIsTreeUptoRow.holds Try.pinned (OpenSpec.upto fnExactIsTreeSpec)

end Rows
end Go.Proofs.Ytfgnijcclnleaaa
