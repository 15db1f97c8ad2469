/- Part 25: contracts that the last part uses. -/
import Derived.Test.YtimoapjhepmehaaGreatDoorJ24
import Derived.LoopN
import Derived.Laws.IdiomCopy
set_option linter.unusedSimpArgs false
set_option linter.unusedVariables false
set_option maxHeartbeats 4000000
set_option maxRecDepth 100000
namespace Go.Proofs.YtimoapjhepmehaaGreatDoor
open Go.IntKind renaming i64->I
open Go.Value renaming int->U
section
open Go.RowKit Go.Shelf
attribute [local go_sem ↓] AQ AU Go.wp_at_zero Go.wp_at_succ
end
section
open Go.RowKit Go.Shelf
attribute [local go_sem ↓] AQ AU Go.wp_at_zero Go.wp_at_succ
structure Eo (E:Array Value) (j:Int) (c:AH) (pb pa:Option Addr):Prop where
 size:E.size=21
 c2:E[2]? = some (U I j)
 c7:E[7]? = some (U I c.t)
 c8:E[8]? = some (U I c.k)
 c17:E[17]? = some (.pointer pb)
 c18:E[18]? = some (.pointer pa)
theorem Nq{kd t j lo hi b o:Int}{c:AH}{pb pa:Option Addr}{old now:Int}:Eo (Bp kd t j lo hi b o c (.pointer pb) (.pointer pa) old now) j c pb pa:=⟨rfl,rfl,rfl,rfl,rfl,rfl⟩
theorem anyE{E:Array Value}{j:Int}{c:AH}{pb pa:Option Addr}(hE:Eo E j c pb pa)(w:World):Calls Tryz.prog 211 #[.agg E] w fun e w'=>e=.returned (.bool (pb.isSome || pa.isSome))/\Below w.heap.size w w':=by
 have HB:=Wz (Blk.new w 297 E);have x17:(w.alloc (.cells E 297)).cell? ⟨w.heap.size,17,none⟩=some (.pointer pb):=(HB.out.cell 17).trans hE.c17;have x18:(w.alloc (.cells E 297)).cell? ⟨w.heap.size,18,none⟩=some (.pointer pa):=(HB.out.cell 18).trans hE.c18;clear hE;cases pb <;> cases pa
 all_goals
  go_enter Tryz.func211,Tryz.ntmps211;go_wp2;go_ret;exact⟨rfl,AC _ _⟩
end
section
open Go.RowKit Go.Shelf
attribute [local go_sem ↓] AQ AU Go.wp_at_zero Go.wp_at_succ
theorem KY{P:Program}{w:World}{ρ:Operand->Value}{o:Oper}(ty:TypeId)(x:Operand)(ho:o.op=.load ty x)(g:Nat)(hx:ρ x=.pointer (some ⟨g,0,none⟩))(t:TypeId)(cs:Array Value)(d:TypeDesc)(hg:Blk w g t cs)
  (hu:P.underlying ty=some d) (hd:(match d with | .struct _ | .array _ _=>true|_=>false)=true) (hi:(P.info? ty).map (·.size)=some cs.size):(execOp ρ o).run P w=.ok (.value (.agg cs)) w:=by
 unfold execOp;simp only[ho,hx,Instr.loadAt,Instr.sureAddr,Sem.run_bind,Sem.run_pure,Result.andThen_ok,run_loadVar_row w g t ty cs (0,0) d hg hu hd hi]
theorem TS(be:Nat)(E:Array Value)(j:Int)(c:AH)(pb pa:Option Addr)(hE:Eo E j c pb pa):QD (fun W=>Blk W be 297 E) 233 #[.pointer (some ⟨be,0,none⟩)] (fun r=>decide (r.t=c.t) && decide (r.k=c.k)) where
 enters:=enters_of Tryz.func233 (by kernel_rfl) rfl
 keeps:=fun W W' h k=>h.ext k
 tells := fun r w hB => by
  have x7:(w.alloc (.cells #[U I r.t,U I r.k,U I r.a,U I r.b,U I r.c] 67)).cell? ⟨be,7,none⟩=some (U I c.t):=((hB.alloc _).cell 7).trans hE.c7;have x8:(w.alloc (.cells #[U I r.t,U I r.k,U I r.a,U I r.b,U I r.c] 67)).cell? ⟨be,8,none⟩=some (U I c.k):=((hB.alloc _).cell 8).trans hE.c8;obtain⟨r0,r1,r2,r3,r4⟩:=r;dsimp only at *;simp only[List.push_toArray,List.append_toArray,List.cons_append,List.nil_append];generalize c.t=ct at *;generalize c.k=ck at *;clear hE hB;by_cases h1:r0=ct
  ·subst h1;by_cases h2:r1=ck
   ·subst h2;go_enter Tryz.func233,Tryz.ntmps233;go_wp2;go_ret;exact⟨by simp,AC _ _⟩
   have b2:(r1 == ck)=false:=by simpa using h2
   go_enter Tryz.func233,Tryz.ntmps233;go_wp2;go_ret;exact⟨by simp[h2],AC _ _⟩
  have b1:(r0 == ct)=false:=by simpa using h1
  go_enter Tryz.func233,Tryz.ntmps233;go_wp2;go_ret;exact⟨by simp[h1],AC _ _⟩
end
end Go.Proofs.YtimoapjhepmehaaGreatDoor
