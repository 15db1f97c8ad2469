/-
  digest.Verify at two entries, the second.
-/
import Derived.Test.YtnajpjnnlocfgaaGreatDoorJ35
import Derived.Test.YtnajpjnnlocfgaaGreatDoorJ1
set_option linter.unusedSimpArgs false
set_option linter.unusedVariables false
namespace Go.Proofs.YtnajpjnnlocfgaaGreatDoor
open Go.RowKit Go.Shelf
attribute [local go_sem ↓] Go.wp_at_zero Go.wp_at_succ
attribute [local go_sem] Oper.semAt_some
theorem side_info:(Tryz.prog.info? 128).map (fun i=>(i.zero,i.size,i.bytes))=some (some (.agg #[.string ⟨#[]⟩,.bool false]),2,24):=by kernel_rfl
theorem cell_two_new (w:World) (x y:Value) (t:TypeId):∀ j u,[x,y][j]? = some u→(w.alloc (.cells #[x,y] t)).cell? ((⟨w.heap.size,0,none⟩:Addr).add j)=some u:=fun j u hu=>by
  have hB:=Blk.new w t #[x,y]
  match j,hu with
  | 0,hu=>simp at hu;subst hu;exact hB.cell 0
  | 1,hu=>simp at hu;subst hu;exact hB.cell 1
end Go.Proofs.YtnajpjnnlocfgaaGreatDoor
