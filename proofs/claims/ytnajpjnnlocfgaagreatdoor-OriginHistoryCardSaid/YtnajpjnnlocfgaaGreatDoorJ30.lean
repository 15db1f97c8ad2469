/-
  package origin: Position, Root, State at a server whose values are told.
-/
import Derived.Test.YtnajpjnnlocfgaaGreatDoorJ11
import Derived.Test.YtnajpjnnlocfgaaGreatDoorJ27
import Derived.Test.YtnajpjnnlocfgaaGreatDoorJ29
set_option linter.unusedSimpArgs false
set_option linter.unusedVariables false
namespace Go.Proofs.YtnajpjnnlocfgaaGreatDoor
open Go.RowKit Go.Shelf
section
variable {B gs gl gst gm:Nat} {cs:Array Value} {rv hv:Value} {R:List (List ChgT × Nat × Nat)} {H:List (ByteArray × ByteArray)} {rs:List RowT} {w:World}
theorem ServX.cell0 (h:ServX B w gs gl gst gm cs rv hv R H rs):w.cell? ⟨gs,0,none⟩=some (.pointer (some ⟨gl,0,none⟩)):=(h.srv.cell 0).trans h.c0
theorem ServX.pos (h:ServX B w gs gl gst gm cs rv hv R H rs):Calls Tryz.prog 6 #[.pointer (some ⟨gs,0,none⟩)] w fun e w'=>e=.returned (.int .i64 (R.length:Int))∧w=w':=by
  obtain ⟨A,c,hrv⟩:=own_shape h.log.recs
  have hl:=h.log.log
  rw [hrv] at hl
  exact srvPos gs gl R.length c A hv w h.cell0 hl
end
end Go.Proofs.YtnajpjnnlocfgaaGreatDoor
