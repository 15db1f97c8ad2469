/-
  Part 12 of 54: the contracts that the proof of the last part uses; each stands under its own head.
-/
import Derived.Test.YtimoapjhepmehaaGreatDoorP10
import Derived.Test.YtimoapjhepmehaaGreatDoorP9
import Derived.Deep.Upon
import Derived.ArgAppend
set_option linter.unusedSimpArgs false
set_option linter.unusedVariables false
namespace Go.Proofs.YtimoapjhepmehaaGreatDoor
section
open Go.RowKit Go.Shelf
attribute [local go_sem ↓] Go.wp_at_zero Go.wp_at_succ
section
variable {W W':World} {gs gl gst gn gp np cp nm cm no co:Nat} {lag ep sent:Int} {Am Ao:Option Addr}
end
end
section
open Go.RowKit Go.Shelf
theorem grown_refl (W:World) (row:Option Nat):W.grownBy W row:=⟨rfl,rfl,rfl,Nat.le_refl _,fun _ _ _=>rfl⟩
theorem app_exec2 {P:Program} {w:World} {ρ:Operand→Value} {d:Option Tmp} {s x:Operand} {t ty:TypeId} {p:String} {af:Array Edge} {g:Option (Nat × Bool)} (h:AppOK P w t ty (ρ s) (ρ x)) :
    (execOp ρ { dst:=d,op:=.call { callee:=.builtin .append,args:=#[s,x],argTypes:=#[t,t] },type:=ty,pos:=p,after:=af,guard:=g }).run P w=.ok (.value (appV P w t ty (ρ s) (ρ x))) (appW P w t ty (ρ s) (ρ x)):=app_exec h
theorem bs_exec2 {P:Program} {w:World} {ρ:Operand→Value} {d:Option Tmp} {ps:Array (Nat × Operand)} {len:Nat} {ty t:TypeId} {p:String} {af:Array Edge} {g:Option (Nat × Bool)} (h:BsAny P ty len (ps.map fun x=>(x.1,ρ x.2))) :
    (execOp ρ { dst:=d,op:=.buildSlice ty len ps,type:=t,pos:=p,after:=af,guard:=g }).run P w=.ok (.value (.slice (some ⟨w.heap.size,0,none⟩) len len)) (w.alloc (bsO P ty len (ps.map fun x=>(x.1,ρ x.2)))):=bs_exec h
theorem bd_exec2 {P:Program} {w:World} {ρ:Operand→Value} {d:Option Tmp} {ps:Array (Nat × Operand)} {ty t:TypeId} {p:String} {af:Array Edge} {g:Option (Nat × Bool)} (h:BdOK P ty (ps.map fun x=>(x.1,ρ x.2))) :
    (execOp ρ { dst:=d,op:=.build ty ps,type:=t,pos:=p,after:=af,guard:=g }).run P w=.ok (.value (bdV P ty (ps.map fun x=>(x.1,ρ x.2)))) w:=bd_exec h
attribute [local go_sem ↓] bd_exec bd_sem bs_exec bs_sem app_exec app_sem Go.wp_at_zero Go.wp_at_succ
attribute [local go_sem high] app_exec2 bs_exec2 bd_exec2
theorem ExtS.set1 (W:World) (g i:Nat) (u:Value):ExtS (fun j=>j=g) W (W.setCell ⟨g,i,none⟩ u):=⟨rfl,rfl,rfl,by simp [World.setCell],fun k _ hn=>Below.heap_setCell _ _ _ _ hn⟩
end
section
open Go.RowKit Go.Shelf
end
end Go.Proofs.YtimoapjhepmehaaGreatDoor
