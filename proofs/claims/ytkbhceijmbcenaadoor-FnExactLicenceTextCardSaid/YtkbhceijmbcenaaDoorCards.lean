/-
  DERIVED. GIVEN WITH THE SEED: THE CARDS: each row of YtkbhceijmbcenaaDoorRows.lean that lists a variable, with what it lists TIED to the program's text (the seventh form; the later family's looks); each row that meets fmt, with fmt's text TOLD by the authors' own Lean function (tested against real Go, not proved from fmt's source: count such statements apart). THE CARD IS WHAT COUNTS. Prove the row's statement (the work); the ties are given (YtkbhceijmbcenaaDoorTie.lean); close each card by the builder's one call (the guide's Derived/Test/ToyasCard.lean, 'card_holds'). Laid BY PROGRAM, IN A SANDBOX (cutbox-door.mjs). By AI agents, Wed Nov 11 2026. No macro, syntax, notation, axiom, sorry.
-/
import Derived.Test.YtkbhceijmbcenaaDoorRows
import GoSem.ClaimSeven
namespace Go.Proofs.YtkbhceijmbcenaaDoor
namespace Rows

/-- THE TIED CARD OF 'laws.FnExactLicenceText'. -/
def fnExactLicenceTextCard : Claim7 := { stood := { row := fnExactLicenceTextRow, standIns := [], harness := (true, "629d6ade7ff83b8407a7f939f6bd6672fb4d5e2fce826bd325343a5fb5a9c156"), looks := false }, kinds := [], alts := [], laidByText := true, laidKinds := [.data, .data, .data], laidTests := true, laidLooks := .later }
def FnExactLicenceTextCardSaid : Prop := Claim7.holds Tryd.pinned (.plain (OpenSpec.ofChange fnExactLicenceTextSpec)) fnExactLicenceTextCard

/-- THE SECOND FORM's CARD OF 'laws.FnExactLicenceText'. -/
def fnExactLicenceTextUptoCard : Claim7 := { stood := { row := fnExactLicenceTextUptoRow, standIns := [], harness := (true, "629d6ade7ff83b8407a7f939f6bd6672fb4d5e2fce826bd325343a5fb5a9c156"), looks := false }, kinds := [], alts := [], laidByText := true, laidKinds := [.data, .data, .data], laidTests := true, laidLooks := .later }
def FnExactLicenceTextUptoCardSaid : Prop := Claim7.holds Tryd.pinned (.plain (OpenSpec.upto fnExactLicenceTextSpec)) fnExactLicenceTextUptoCard
end Rows
end Go.Proofs.YtkbhceijmbcenaaDoor
