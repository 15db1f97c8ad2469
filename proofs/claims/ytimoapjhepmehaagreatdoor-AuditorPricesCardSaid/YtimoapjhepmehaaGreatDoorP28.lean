/-
  package predicate: any, behind, patchRows at the rows of a query for a row.
-/
import Derived.Test.YtimoapjhepmehaaGreatDoorP27
set_option linter.unusedSimpArgs false
set_option linter.unusedVariables false
set_option maxHeartbeats 4000000
set_option maxRecDepth 100000
namespace Go.Proofs.YtimoapjhepmehaaGreatDoor
open Go.RowKit Go.Shelf
attribute [local go_sem ↓] app_exec app_sem Go.wp_at_zero Go.wp_at_succ
structure EffIs (E:Array Value) (j:Int) (c:ChgT) (pb pa:Option Addr):Prop where
  size:E.size=21
  c2:E[2]? = some (.int .i64 j)
  c7:E[7]? = some (.int .i64 c.t)
  c8:E[8]? = some (.int .i64 c.k)
  c17:E[17]? = some (.pointer pb)
  c18:E[18]? = some (.pointer pa)
theorem effIs {kd t j lo hi b o:Int} {c:ChgT} {pb pa:Option Addr} {old now:Int}:EffIs (effArr kd t j lo hi b o c (.pointer pb) (.pointer pa) old now) j c pb pa:=⟨rfl,rfl,rfl,rfl,rfl,rfl⟩
theorem anyE {E:Array Value} {j:Int} {c:ChgT} {pb pa:Option Addr} (hE:EffIs E j c pb pa) (w:World):Calls Tryz.prog 211 #[.agg E] w fun e w'=>e=.returned (.bool (pb.isSome || pa.isSome))∧Below w.heap.size w w':=by
  have HB:=Lib.hid (Blk.new w 297 E)
  have x17:(w.alloc (.cells E 297)).cell? ⟨w.heap.size,17,none⟩=some (.pointer pb):=(HB.out.cell 17).trans hE.c17
  have x18:(w.alloc (.cells E 297)).cell? ⟨w.heap.size,18,none⟩=some (.pointer pa):=(HB.out.cell 18).trans hE.c18
  clear hE
  cases pb <;> cases pa
  all_goals
    go_enter Tryz.func211,Tryz.ntmps211
    go_wp2
    go_ret
    exact ⟨rfl,ext_new _ _⟩
theorem S_below {a b c d e f g B:Prop} (h:a∧b∧c∧d∧e∧f∧g∧B):B:=h.2.2.2.2.2.2.2
theorem behindE {E:Array Value} {j:Nat} (hj:j<4) {c:ChgT} {pb:Option Addr} {gp:Nat} (hE:EffIs E (j:Int) c pb (some ⟨gp,0,none⟩)) (r:RowT) (w:World) (hp:Blk w gp 67 #[.int .i64 r.t,.int .i64 r.k,.int .i64 r.a,.int .i64 r.b,.int .i64 r.c]) :
    Calls Tryz.prog 235 #[.agg E] w fun e w'=>∃ n caps,e=.returned (.func (.func n) #[] caps)∧Below w.heap.size w w':=by
  have hmf:∀ (fn:Fn) (first cap:Array Value) (w:World),(Instr.makeFunc fn first cap).run Tryz.prog w=.ok (.func fn first cap) w:=fun _ _ _ _=>rfl
  have HV:=Lib.hid (fun W:World=>rowValue_any r j hj W)
  generalize r.col j=v at *
  obtain ⟨X,hX⟩:∃ X,X=w.alloc (.cells E 297):=⟨_,rfl⟩
  have HE0:=Lib.hid (show Below w.heap.size w X by rw [hX];exact ext_new _ _)
  have HB:=Lib.hid (show Blk X w.heap.size 297 E by rw [hX];exact Blk.new w 297 E)
  have HP:=Lib.hid (hp.ext HE0.out)
  obtain ⟨r0,r1,r2,r3,r4⟩:=r
  dsimp only at *
  have HF:=Lib.hid (show ∀ Z,Below X.heap.size X Z→(Z.cell? ⟨w.heap.size,2,none⟩=some (.int .i64 (j:Int))∧Z.cell? ⟨w.heap.size,18,none⟩=some (.pointer (some ⟨gp,0,none⟩))∧Z.cell? ⟨gp,0,none⟩=some (.int .i64 r0)∧Z.cell? ⟨gp,1,none⟩=some (.int .i64 r1)∧Z.cell? ⟨gp,2,none⟩=some (.int .i64 r2)∧Z.cell? ⟨gp,3,none⟩=some (.int .i64 r3)∧Z.cell? ⟨gp,4,none⟩=some (.int .i64 r4)∧Below X.heap.size X Z) from fun Z h=>⟨((HB.out.ext h).cell 2).trans hE.c2,((HB.out.ext h).cell 18).trans hE.c18,(HP.out.ext h).cell 0,(HP.out.ext h).cell 1,(HP.out.ext h).cell 2,(HP.out.ext h).cell 3,(HP.out.ext h).cell 4,h⟩)
  have HX:=Lib.hid hX
  clear hE hp hX
  go_enter Tryz.func235,Tryz.ntmps235
  go_upto_region 1 with (fail)
  rw [← HX.out]
  go_region_held3 (fun w'=>w'.cell? ⟨w.heap.size,2,none⟩=some (.int .i64 (j:Int))∧w'.cell? ⟨w.heap.size,18,none⟩=some (.pointer (some ⟨gp,0,none⟩))∧w'.cell? ⟨gp,0,none⟩=some (.int .i64 r0)∧w'.cell? ⟨gp,1,none⟩=some (.int .i64 r1)∧w'.cell? ⟨gp,2,none⟩=some (.int .i64 r2)∧w'.cell? ⟨gp,3,none⟩=some (.int .i64 r3)∧w'.cell? ⟨gp,4,none⟩=some (.int .i64 r4)∧Below X.heap.size X w')
    (first|with_reducible assumption|exact HF.out _ (by repeat (first|with_reducible refine ext_alloc ?_ _|with_reducible refine Below.drew ?_|with_reducible assumption|with_reducible exact ext_refl _|refine ext_set ?_ (by first|exact Nat.le_refl _|exact hyz) _)))
    (first|(go_at_call 89;(with_reducible refine (HV.out _).mono ?_);rintro e Z ⟨rfl,hb'⟩;have hYZ:=ext_call (S_below (by assumption)) hb';have hyz:=hYZ.size;try (have hbx:=(show Blk Z X.heap.size 3 #[.int .i64 0] from ((Blk.new X _ _).drew).ext hb');have bx0:=hbx.cell 0;have bf0:=hbx.frozen 0)))
  all_goals
    go_wp2
    go_ret
    exact ⟨_,_,rfl,by repeat (first|with_reducible exact ext_call HE0.out hYZ|with_reducible refine ext_alloc ?_ _|refine ext_set ?_ HE0.out.size _)⟩
end Go.Proofs.YtimoapjhepmehaaGreatDoor
