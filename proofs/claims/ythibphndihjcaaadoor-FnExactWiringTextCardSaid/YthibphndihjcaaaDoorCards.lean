/-
  DERIVED. GIVEN WITH THE SEED: THE CARDS: each row of YthibphndihjcaaaDoorRows.lean that lists a variable, with what it lists TIED to the program's text (the seventh form; the later family's looks); each row that meets fmt, with fmt's text TOLD by the authors' own Lean function (tested against real Go, not proved from fmt's source: count such statements apart). THE CARD IS WHAT COUNTS. Prove the row's statement (the work); the ties are given (YthibphndihjcaaaDoorTie.lean); close each card by the builder's one call (the guide's Derived/Test/ToyasCard.lean, 'card_holds'). Laid BY PROGRAM, IN A SANDBOX (cutbox-door.mjs). By AI agents, Wed Nov 11 2026. No macro, syntax, notation, axiom, sorry.
-/
import Derived.Test.YthibphndihjcaaaDoorRows
import GoSem.ClaimSeven
namespace Go.Proofs.YthibphndihjcaaaDoor
namespace Rows

/-- THE TIED CARD OF 'laws.FnExactWiringText'. -/
def fnExactWiringTextCard : Claim7 := { stood := { row := fnExactWiringTextRow, standIns := [], harness := (true, "4b8cf749943e59a38734ff912301fd294d0ae8f3326a48f7cff9bd794f37f3d7"), looks := false }, kinds := [], alts := [], laidByText := true, laidKinds := [.data, .data, .data], laidTests := true, laidLooks := .later }
def FnExactWiringTextCardSaid : Prop := Claim7.holds Tryd.pinned (.plain (OpenSpec.ofChange fnExactWiringTextSpec)) fnExactWiringTextCard

/-- THE SECOND FORM's CARD OF 'laws.FnExactWiringText'. -/
def fnExactWiringTextUptoCard : Claim7 := { stood := { row := fnExactWiringTextUptoRow, standIns := [], harness := (true, "4b8cf749943e59a38734ff912301fd294d0ae8f3326a48f7cff9bd794f37f3d7"), looks := false }, kinds := [], alts := [], laidByText := true, laidKinds := [.data, .data, .data], laidTests := true, laidLooks := .later }
def FnExactWiringTextUptoCardSaid : Prop := Claim7.holds Tryd.pinned (.plain (OpenSpec.upto fnExactWiringTextSpec)) fnExactWiringTextUptoCard
end Rows
end Go.Proofs.YthibphndihjcaaaDoor
