/-
  package cachetierlaw27: few.
-/
import Derived.Test.YtnajpjnnlocfgaaGreatDoorJ28
import Derived.Test.YtnajpjnnlocfgaaGreatDoorJ5
set_option linter.unusedSimpArgs false
set_option linter.unusedVariables false
namespace Go.Proofs.YtnajpjnnlocfgaaGreatDoor
open Go.RowKit Go.Shelf
attribute [local go_sem ↓] Go.wp_at_zero Go.wp_at_succ
end Go.Proofs.YtnajpjnnlocfgaaGreatDoor
