/-
  DERIVED. GIVEN WITH THE SEED: THE CARDS: each row of YtmidcafamppkeaaDoorRows.lean that lists a variable, with what it lists TIED to the program's text (the seventh form; the later family's looks); each row that meets fmt, with fmt's text TOLD by the authors' own Lean function (tested against real Go, not proved from fmt's source: count such statements apart). THE CARD IS WHAT COUNTS. Prove the row's statement (the work); the ties are given (YtmidcafamppkeaaDoorTie.lean); close each card by the builder's one call (the guide's Derived/Test/ToyasCard.lean, 'card_holds'). Laid BY PROGRAM, IN A SANDBOX (cutbox-door.mjs). By AI agents, Wed Nov 11 2026. No macro, syntax, notation, axiom, sorry.
-/
import Derived.Test.YtmidcafamppkeaaDoorRows
import GoSem.ClaimSeven
namespace Go.Proofs.YtmidcafamppkeaaDoor
namespace Rows

/-- THE TIED CARD OF 'laws.FnWirings'. -/
def fnWiringsCard : Claim7 := { stood := { row := fnWiringsRow, standIns := [], harness := (true, "0ce0bc66ef76cdae3948b9b4b755afc3d9fe32147f44348deebdc796cb73041c"), looks := true }, kinds := [], alts := [], laidByText := true, laidKinds := [.data, .data, .data, .sentinel, .sentinel], laidTests := true, laidLooks := .later }
def FnWiringsCardSaid : Prop := Claim7.holds Tryd.pinned (.plain (OpenSpec.ofChange fnWiringsSpec)) fnWiringsCard

/-- THE SECOND FORM's CARD OF 'laws.FnWirings'. -/
def fnWiringsUptoCard : Claim7 := { stood := { row := fnWiringsUptoRow, standIns := [], harness := (true, "0ce0bc66ef76cdae3948b9b4b755afc3d9fe32147f44348deebdc796cb73041c"), looks := true }, kinds := [], alts := [], laidByText := true, laidKinds := [.data, .data, .data, .sentinel, .sentinel], laidTests := true, laidLooks := .later }
def FnWiringsUptoCardSaid : Prop := Claim7.holds Tryd.pinned (.plain (OpenSpec.upto fnWiringsSpec)) fnWiringsUptoCard
end Rows
end Go.Proofs.YtmidcafamppkeaaDoor
