/-
  DERIVED. GIVEN WITH THE SEED: THE CARDS: each row of YtimoapjhepmehaaGreatDoorRows.lean that lists a variable, with what it lists TIED to the program's text (the seventh form; the later family's looks); each row that meets fmt, with fmt's text TOLD by the authors' own Lean function (tested against real Go, not proved from fmt's source: count such statements apart). THE CARD IS WHAT COUNTS. Prove the row's statement (the work); the ties are given (YtimoapjhepmehaaGreatDoorTie.lean); close each card by the builder's one call (the guide's Derived/Test/ToyasCard.lean, 'card_holds'). Laid BY PROGRAM, IN A SANDBOX (cutbox-door.mjs). By AI agents, Wed Nov 11 2026. No macro, syntax, notation, axiom, sorry.
-/
import Derived.Test.YtimoapjhepmehaaGreatDoorRows
import GoSem.ClaimSeven
namespace Go.Proofs.YtimoapjhepmehaaGreatDoor
namespace Rows

/-- THE TIED CARD OF 'cachetierlaw29.AuditorAccepts'. -/
def auditorAcceptsCard : Claim7 := { stood := { row := auditorAcceptsRow, standIns := [], harness := (true, "ef61d9f9d74dbd48a69df5a574ec934ff15609c7bffbd4a8e1df0b3eab52f144"), looks := true }, kinds := [], alts := [], laidByText := true, laidKinds := [.data, .sentinel], laidTests := true, laidLooks := .later }
def AuditorAcceptsCardSaid : Prop := Claim7.holds Tryz.pinned (.plain (OpenSpec.ofChange auditorAcceptsSpec)) auditorAcceptsCard

/-- THE TIED CARD OF 'cachetierlaw29.AuditorRefuses'. -/
def auditorRefusesCard : Claim7 := { stood := { row := auditorRefusesRow, standIns := [], harness := (true, "ef61d9f9d74dbd48a69df5a574ec934ff15609c7bffbd4a8e1df0b3eab52f144"), looks := true }, kinds := [], alts := [], laidByText := true, laidKinds := [.data, .sentinel], laidTests := true, laidLooks := .later }
def AuditorRefusesCardSaid : Prop := Claim7.holds Tryz.pinned (.plain (OpenSpec.ofChange auditorRefusesSpec)) auditorRefusesCard

/-- THE TIED CARD OF 'cachetierlaw29.AuditorPrices'. -/
def auditorPricesCard : Claim7 := { stood := { row := auditorPricesRow, standIns := [], harness := (true, "ef61d9f9d74dbd48a69df5a574ec934ff15609c7bffbd4a8e1df0b3eab52f144"), looks := true }, kinds := [], alts := [], laidByText := true, laidKinds := [.data, .sentinel], laidTests := true, laidLooks := .later }
def AuditorPricesCardSaid : Prop := Claim7.holds Tryz.pinned (.plain (OpenSpec.ofChange auditorPricesSpec)) auditorPricesCard

/-- THE SECOND FORM's CARD OF 'cachetierlaw29.AuditorAccepts'. -/
def auditorAcceptsUptoCard : Claim7 := { stood := { row := auditorAcceptsUptoRow, standIns := [], harness := (true, "ef61d9f9d74dbd48a69df5a574ec934ff15609c7bffbd4a8e1df0b3eab52f144"), looks := true }, kinds := [], alts := [], laidByText := true, laidKinds := [.data, .sentinel], laidTests := true, laidLooks := .later }
def AuditorAcceptsUptoCardSaid : Prop := Claim7.holds Tryz.pinned (.plain (OpenSpec.upto auditorAcceptsSpec)) auditorAcceptsUptoCard

/-- THE SECOND FORM's CARD OF 'cachetierlaw29.AuditorRefuses'. -/
def auditorRefusesUptoCard : Claim7 := { stood := { row := auditorRefusesUptoRow, standIns := [], harness := (true, "ef61d9f9d74dbd48a69df5a574ec934ff15609c7bffbd4a8e1df0b3eab52f144"), looks := true }, kinds := [], alts := [], laidByText := true, laidKinds := [.data, .sentinel], laidTests := true, laidLooks := .later }
def AuditorRefusesUptoCardSaid : Prop := Claim7.holds Tryz.pinned (.plain (OpenSpec.upto auditorRefusesSpec)) auditorRefusesUptoCard

/-- THE SECOND FORM's CARD OF 'cachetierlaw29.AuditorPrices'. -/
def auditorPricesUptoCard : Claim7 := { stood := { row := auditorPricesUptoRow, standIns := [], harness := (true, "ef61d9f9d74dbd48a69df5a574ec934ff15609c7bffbd4a8e1df0b3eab52f144"), looks := true }, kinds := [], alts := [], laidByText := true, laidKinds := [.data, .sentinel], laidTests := true, laidLooks := .later }
def AuditorPricesUptoCardSaid : Prop := Claim7.holds Tryz.pinned (.plain (OpenSpec.upto auditorPricesSpec)) auditorPricesUptoCard
end Rows
end Go.Proofs.YtimoapjhepmehaaGreatDoor
