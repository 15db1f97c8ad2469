/-
  digest.Verify at one entry and at two.
-/
import Derived.Test.YtnajpjnnlocfgaaGreatDoorJ34
import Derived.LoopN
set_option linter.unusedSimpArgs false
set_option linter.unusedVariables false
namespace Go.Proofs.YtnajpjnnlocfgaaGreatDoor
open Go.RowKit Go.Shelf
attribute [local go_sem ↓] Go.wp_at_zero Go.wp_at_succ
attribute [local go_sem] Oper.semAt_some
end Go.Proofs.YtnajpjnnlocfgaaGreatDoor
