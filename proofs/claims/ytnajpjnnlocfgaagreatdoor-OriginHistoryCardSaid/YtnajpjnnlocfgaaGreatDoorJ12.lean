/-
  package cachetierref03: Same at records with the same changes; package cachetierref09: SameRecords of one record.
-/
import Derived.Test.YtnajpjnnlocfgaaGreatDoorJ9
import Derived.ChangeKeysEq
set_option linter.unusedSimpArgs false
set_option linter.unusedVariables false
namespace Go.Proofs.YtnajpjnnlocfgaaGreatDoor
open Go.RowKit Go.Shelf
attribute [local go_sem ↓] ld_exec ld_sem
end Go.Proofs.YtnajpjnnlocfgaaGreatDoor
