/-
  DERIVED. GIVEN WITH THE SEED: THE CARDS: each row of YtiimkifkakdalaaDoorRows.lean that lists a variable, with what it lists TIED to the program's text (the seventh form; the later family's looks); each row that meets fmt, with fmt's text TOLD by the authors' own Lean function (tested against real Go, not proved from fmt's source: count such statements apart). THE CARD IS WHAT COUNTS. Prove the row's statement (the work); the ties are given (YtiimkifkakdalaaDoorTie.lean); close each card by the builder's one call (the guide's Derived/Test/ToyasCard.lean, 'card_holds'). Laid BY PROGRAM, IN A SANDBOX (cutbox-door.mjs). By AI agents, Wed Nov 11 2026. No macro, syntax, notation, axiom, sorry.
-/
import Derived.Test.YtiimkifkakdalaaDoorRows
import GoSem.ClaimSeven
namespace Go.Proofs.YtiimkifkakdalaaDoor
namespace Rows

/-- THE TIED CARD OF 'laws.FnExactEdgesText'. -/
def fnExactEdgesTextCard : Claim7 := { stood := { row := fnExactEdgesTextRow, standIns := [], harness := (true, "a0487059e40bdb08e7ea004dda138e0d29ed1c6408754b899dfb81afe1048ec4"), looks := true }, kinds := [], alts := [], laidByText := true, laidKinds := [.data, .data, .data], laidTests := true, laidLooks := .later }
def FnExactEdgesTextCardSaid : Prop := Claim7.holds Tryd.pinned (.plain (OpenSpec.ofChange fnExactEdgesTextSpec)) fnExactEdgesTextCard

/-- THE TIED CARD OF 'laws.FnExactParseWiring'. -/
def fnExactParseWiringCard : Claim7 := { stood := { row := fnExactParseWiringRow, standIns := [], harness := (true, "a0487059e40bdb08e7ea004dda138e0d29ed1c6408754b899dfb81afe1048ec4"), looks := true }, kinds := [], alts := [], laidByText := true, laidKinds := [.data, .data, .data, .sentinel, .sentinel], laidTests := true, laidLooks := .later }
def FnExactParseWiringCardSaid : Prop := Claim7.holds Tryd.pinned (.plain (OpenSpec.ofChange fnExactParseWiringSpec)) fnExactParseWiringCard

/-- THE SECOND FORM's CARD OF 'laws.FnExactEdgesText'. -/
def fnExactEdgesTextUptoCard : Claim7 := { stood := { row := fnExactEdgesTextUptoRow, standIns := [], harness := (true, "a0487059e40bdb08e7ea004dda138e0d29ed1c6408754b899dfb81afe1048ec4"), looks := true }, kinds := [], alts := [], laidByText := true, laidKinds := [.data, .data, .data], laidTests := true, laidLooks := .later }
def FnExactEdgesTextUptoCardSaid : Prop := Claim7.holds Tryd.pinned (.plain (OpenSpec.upto fnExactEdgesTextSpec)) fnExactEdgesTextUptoCard

/-- THE SECOND FORM's CARD OF 'laws.FnExactParseWiring'. -/
def fnExactParseWiringUptoCard : Claim7 := { stood := { row := fnExactParseWiringUptoRow, standIns := [], harness := (true, "a0487059e40bdb08e7ea004dda138e0d29ed1c6408754b899dfb81afe1048ec4"), looks := true }, kinds := [], alts := [], laidByText := true, laidKinds := [.data, .data, .data, .sentinel, .sentinel], laidTests := true, laidLooks := .later }
def FnExactParseWiringUptoCardSaid : Prop := Claim7.holds Tryd.pinned (.plain (OpenSpec.upto fnExactParseWiringSpec)) fnExactParseWiringUptoCard
end Rows
end Go.Proofs.YtiimkifkakdalaaDoor
