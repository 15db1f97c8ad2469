/-
  package message: Valid at a message that asks for records; package origin: ask, Receive of such a message.
-/
import Derived.Test.YtnajpjnnlocfgaaGreatDoorJ12
set_option linter.unusedSimpArgs false
set_option linter.unusedVariables false
namespace Go.Proofs.YtnajpjnnlocfgaaGreatDoor
open Go.RowKit Go.Shelf
attribute [local go_sem ↓] ld_exec ld_sem bd_exec bd_sem
end Go.Proofs.YtnajpjnnlocfgaaGreatDoor
