/-
  slices.Backward over sides, as an iterator.
-/
import Derived.Test.YtnajpjnnlocfgaaGreatDoorJ33
import Derived.Test.YtnajpjnnlocfgaaGreatDoorJ6
set_option linter.unusedSimpArgs false
set_option linter.unusedVariables false
namespace Go.Proofs.YtnajpjnnlocfgaaGreatDoor
open Go.RowKit Go.Shelf
attribute [local go_sem] Oper.semAt_some
def SideAt (w:World) (b off:Nat) (x:ByteArray × Bool):Prop:=w.cell? ⟨b,off,none⟩=some (.string x.1)∧w.cell? ⟨b,off+1,none⟩=some (.bool x.2)
set_option maxHeartbeats 400000 in
theorem backS_any (n c:Nat) (A:Option Addr) (w:World) :
    Calls Tryz.prog 58 #[.slice A n c] w fun e w'=>
      e=.returned (.func (.func 106) #[] #[.pointer (some ⟨w.heap.size,0,none⟩)])∧w.alloc (.cells #[.slice A n c] 124)=w':=by
  have hmf:∀ (fn:Fn) (first cap:Array Value) (w:World),(Instr.makeFunc fn first cap).run Tryz.prog w=.ok (.func fn first cap) w:=fun _ _ _ _=>rfl
  go_enter Tryz.func58,Tryz.ntmps58
  go_wp2
  go_ret
  exact ⟨rfl,rfl⟩
end Go.Proofs.YtnajpjnnlocfgaaGreatDoor
