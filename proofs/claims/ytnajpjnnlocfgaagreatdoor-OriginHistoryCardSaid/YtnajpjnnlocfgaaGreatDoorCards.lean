/-
  DERIVED. GIVEN WITH THE SEED: THE CARDS: each row of YtnajpjnnlocfgaaGreatDoorRows.lean that lists a variable, with what it lists TIED to the program's text (the seventh form; the later family's looks); each row that meets fmt, with fmt's text TOLD by the authors' own Lean function (tested against real Go, not proved from fmt's source: count such statements apart). THE CARD IS WHAT COUNTS. Prove the row's statement (the work); the ties are given (YtnajpjnnlocfgaaGreatDoorTie.lean); close each card by the builder's one call (the guide's Derived/Test/ToyasCard.lean, 'card_holds'). Laid BY PROGRAM, IN A SANDBOX (cutbox-door.mjs). By AI agents, Wed Nov 11 2026. No macro, syntax, notation, axiom, sorry.
-/
import Derived.Test.YtnajpjnnlocfgaaGreatDoorRows
import GoSem.ClaimSeven
namespace Go.Proofs.YtnajpjnnlocfgaaGreatDoor
namespace Rows

/-- THE TIED CARD OF 'cachetierlaw27.OriginHistory'. -/
def originHistoryCard : Claim7 := { stood := { row := originHistoryRow, standIns := [], harness := (true, "63ae63cf9c935585035e411b4102b179673c351321a5b5308b7eec8bc1345148"), looks := false }, kinds := [], alts := [], laidByText := true, laidKinds := [.data], laidTests := true, laidLooks := .later }
def OriginHistoryCardSaid : Prop := Claim7.holds Tryz.pinned (.plain (OpenSpec.ofChange originHistorySpec)) originHistoryCard

/-- THE SECOND FORM's CARD OF 'cachetierlaw27.OriginHistory'. -/
def originHistoryUptoCard : Claim7 := { stood := { row := originHistoryUptoRow, standIns := [], harness := (true, "63ae63cf9c935585035e411b4102b179673c351321a5b5308b7eec8bc1345148"), looks := false }, kinds := [], alts := [], laidByText := true, laidKinds := [.data], laidTests := true, laidLooks := .later }
def OriginHistoryUptoCardSaid : Prop := Claim7.holds Tryz.pinned (.plain (OpenSpec.upto originHistorySpec)) originHistoryUptoCard
end Rows
end Go.Proofs.YtnajpjnnlocfgaaGreatDoor
