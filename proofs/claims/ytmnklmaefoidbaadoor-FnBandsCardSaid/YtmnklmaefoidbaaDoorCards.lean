/-
  DERIVED. GIVEN WITH THE SEED: THE CARDS: each row of YtmnklmaefoidbaaDoorRows.lean that lists a variable, with what it lists TIED to the program's text (the seventh form; the later family's looks); each row that meets fmt, with fmt's text TOLD by the authors' own Lean function (tested against real Go, not proved from fmt's source: count such statements apart). THE CARD IS WHAT COUNTS. Prove the row's statement (the work); the ties are given (YtmnklmaefoidbaaDoorTie.lean); close each card by the builder's one call (the guide's Derived/Test/ToyasCard.lean, 'card_holds'). Laid BY PROGRAM, IN A SANDBOX (cutbox-door.mjs). By AI agents, Wed Nov 11 2026. No macro, syntax, notation, axiom, sorry.
-/
import Derived.Test.YtmnklmaefoidbaaDoorRows
import GoSem.ClaimSeven
namespace Go.Proofs.YtmnklmaefoidbaaDoor
namespace Rows

/-- THE TIED CARD OF 'laws.FnBands'. -/
def fnBandsCard : Claim7 := { stood := { row := fnBandsRow, standIns := [], harness := (true, "48e858f547572a97f38ca5458cfe87c3b50acbd8c2b137f774cd1bcd38ec5aad"), looks := true }, kinds := [], alts := [], laidByText := true, laidKinds := [.data, .data, .data, .data, .sentinel, .sentinel, .pinned], laidTests := true, laidLooks := .later }
def FnBandsCardSaid : Prop := Claim7.holds Tryd.pinned (.plain (OpenSpec.ofChange fnBandsSpec)) fnBandsCard

/-- THE SECOND FORM's CARD OF 'laws.FnBands'. -/
def fnBandsUptoCard : Claim7 := { stood := { row := fnBandsUptoRow, standIns := [], harness := (true, "48e858f547572a97f38ca5458cfe87c3b50acbd8c2b137f774cd1bcd38ec5aad"), looks := true }, kinds := [], alts := [], laidByText := true, laidKinds := [.data, .data, .data, .data, .sentinel, .sentinel, .pinned], laidTests := true, laidLooks := .later }
def FnBandsUptoCardSaid : Prop := Claim7.holds Tryd.pinned (.plain (OpenSpec.upto fnBandsSpec)) fnBandsUptoCard
end Rows
end Go.Proofs.YtmnklmaefoidbaaDoor
