/-
  DERIVED. GIVEN WITH THE SEED: THE CARDS: each row of YtbgfmbmcabekeaaGreatDoorRows.lean that lists a variable, with what it lists TIED to the program's text (the seventh form; the later family's looks); each row that meets fmt, with fmt's text TOLD by the authors' own Lean function (tested against real Go, not proved from fmt's source: count such statements apart). THE CARD IS WHAT COUNTS. Prove the row's statement (the work); the ties are given (YtbgfmbmcabekeaaGreatDoorTie.lean); close each card by the builder's one call (the guide's Derived/Test/ToyasCard.lean, 'card_holds'). Laid BY PROGRAM, IN A SANDBOX (cutbox-door.mjs). By AI agents, Wed Nov 11 2026. No macro, syntax, notation, axiom, sorry.
-/
import Derived.Test.YtbgfmbmcabekeaaGreatDoorRows
import GoSem.ClaimSeven
namespace Go.Proofs.YtbgfmbmcabekeaaGreatDoor
namespace Rows

/-- THE TIED CARD OF 'cachetierlaw27.OriginBeats'. -/
def originBeatsCard : Claim7 := { stood := { row := originBeatsRow, standIns := [], harness := (true, "55f379b913211d7b7e2a2bde4eae6c40c3f14be48bdb68f34e66b53c4f9c37d8"), looks := false }, kinds := [], alts := [], laidByText := true, laidKinds := [.data], laidTests := true, laidLooks := .later }
def OriginBeatsCardSaid : Prop := Claim7.holds Tryz.pinned (.plain (OpenSpec.ofChange originBeatsSpec)) originBeatsCard

/-- THE TIED CARD OF 'cachetierlaw27.OriginAsked'. -/
def originAskedCard : Claim7 := { stood := { row := originAskedRow, standIns := [], harness := (true, "55f379b913211d7b7e2a2bde4eae6c40c3f14be48bdb68f34e66b53c4f9c37d8"), looks := false }, kinds := [], alts := [], laidByText := true, laidKinds := [.data], laidTests := true, laidLooks := .later }
def OriginAskedCardSaid : Prop := Claim7.holds Tryz.pinned (.plain (OpenSpec.ofChange originAskedSpec)) originAskedCard

/-- THE TIED CARD OF 'cachetierlaw27.OriginCommits'. -/
def originCommitsCard : Claim7 := { stood := { row := originCommitsRow, standIns := [], harness := (true, "55f379b913211d7b7e2a2bde4eae6c40c3f14be48bdb68f34e66b53c4f9c37d8"), looks := false }, kinds := [], alts := [], laidByText := true, laidKinds := [.data], laidTests := true, laidLooks := .later }
def OriginCommitsCardSaid : Prop := Claim7.holds Tryz.pinned (.plain (OpenSpec.ofChange originCommitsSpec)) originCommitsCard

/-- THE TIED CARD OF 'cachetierlaw27.OriginRings'. -/
def originRingsCard : Claim7 := { stood := { row := originRingsRow, standIns := [], harness := (true, "55f379b913211d7b7e2a2bde4eae6c40c3f14be48bdb68f34e66b53c4f9c37d8"), looks := false }, kinds := [], alts := [], laidByText := true, laidKinds := [.data], laidTests := true, laidLooks := .later }
def OriginRingsCardSaid : Prop := Claim7.holds Tryz.pinned (.plain (OpenSpec.ofChange originRingsSpec)) originRingsCard

/-- THE SECOND FORM's CARD OF 'cachetierlaw27.OriginBeats'. -/
def originBeatsUptoCard : Claim7 := { stood := { row := originBeatsUptoRow, standIns := [], harness := (true, "55f379b913211d7b7e2a2bde4eae6c40c3f14be48bdb68f34e66b53c4f9c37d8"), looks := false }, kinds := [], alts := [], laidByText := true, laidKinds := [.data], laidTests := true, laidLooks := .later }
def OriginBeatsUptoCardSaid : Prop := Claim7.holds Tryz.pinned (.plain (OpenSpec.upto originBeatsSpec)) originBeatsUptoCard

/-- THE SECOND FORM's CARD OF 'cachetierlaw27.OriginAsked'. -/
def originAskedUptoCard : Claim7 := { stood := { row := originAskedUptoRow, standIns := [], harness := (true, "55f379b913211d7b7e2a2bde4eae6c40c3f14be48bdb68f34e66b53c4f9c37d8"), looks := false }, kinds := [], alts := [], laidByText := true, laidKinds := [.data], laidTests := true, laidLooks := .later }
def OriginAskedUptoCardSaid : Prop := Claim7.holds Tryz.pinned (.plain (OpenSpec.upto originAskedSpec)) originAskedUptoCard

/-- THE SECOND FORM's CARD OF 'cachetierlaw27.OriginCommits'. -/
def originCommitsUptoCard : Claim7 := { stood := { row := originCommitsUptoRow, standIns := [], harness := (true, "55f379b913211d7b7e2a2bde4eae6c40c3f14be48bdb68f34e66b53c4f9c37d8"), looks := false }, kinds := [], alts := [], laidByText := true, laidKinds := [.data], laidTests := true, laidLooks := .later }
def OriginCommitsUptoCardSaid : Prop := Claim7.holds Tryz.pinned (.plain (OpenSpec.upto originCommitsSpec)) originCommitsUptoCard

/-- THE SECOND FORM's CARD OF 'cachetierlaw27.OriginRings'. -/
def originRingsUptoCard : Claim7 := { stood := { row := originRingsUptoRow, standIns := [], harness := (true, "55f379b913211d7b7e2a2bde4eae6c40c3f14be48bdb68f34e66b53c4f9c37d8"), looks := false }, kinds := [], alts := [], laidByText := true, laidKinds := [.data], laidTests := true, laidLooks := .later }
def OriginRingsUptoCardSaid : Prop := Claim7.holds Tryz.pinned (.plain (OpenSpec.upto originRingsSpec)) originRingsUptoCard
end Rows
end Go.Proofs.YtbgfmbmcabekeaaGreatDoor
