/- Part 40: contracts that the last part uses. -/
import Derived.Test.YtimoapjhepmehaaGreatDoorJ39
import Derived.Test.YtimoapjhepmehaaGreatDoorJ27
import Derived.Test.YtimoapjhepmehaaGreatDoorJ21
set_option linter.unusedSimpArgs false
set_option linter.unusedVariables false
set_option maxHeartbeats 4000000
set_option maxRecDepth 100000
namespace Go.Proofs.YtimoapjhepmehaaGreatDoor
open Go.IntKind renaming i64->I
open Go.Value renaming int->U,slice->J,bool->R,string->j,agg->o
open Go.RowKit Go.Shelf
attribute [local go_sem ↓] Go.wp_at_zero Go.wp_at_succ
theorem VZ(w:World)(hM:C3 w):Calls Tryz.prog 27 #[o #[U I 0,U I 0,U I 0,U I 0,U I 0,U I 0,U I 0,U I 0,U I 0,J none 0 0],J none 0 0] w
   fun e w'=>e=.returned (.tuple #[o #[U I 0,U I 0,U I 0,U I 0,U I 0,U I 0,U I 0,J none 0 0,U I 0,R false,U I 0,U I 0,U I 0,J none 0 0,J none 0 0],R false])/\Below w.heap.size w w':=by
 obtain⟨W0,hW0⟩:∃ W0,W0=(w.alloc (.cells #[U I 0,U I 0,U I 0,U I 0,U I 0,U I 0,U I 0,U I 0,U I 0,J none 0 0] 87)).alloc (.cells #[U I 0,U I 0,U I 0,U I 0,U I 0,U I 0,U I 0,J none 0 0,U I 0,R false,U I 0,U I 0,U I 0,J none 0 0,J none 0 0] 39):=⟨_,rfl⟩;have hE0:Below w.heap.size w W0:=by rw[hW0];exact AB (AC _ _) _
 have HE0:=Wz hE0;have HR0:=Wz (show Blk W0 (w.heap.size+1) 39 #[U I 0,U I 0,U I 0,U I 0,U I 0,U I 0,U I 0,J none 0 0,U I 0,R false,U I 0,U I 0,U I 0,J none 0 0,J none 0 0]by rw[hW0];exact Blk.new' _ _ _ (by simp));have HST:=Wz (VY W0 (hM.below hE0));have HW0:=Wz hW0;clear hM hE0 hW0;go_enter Tryz.func27,Tryz.ntmps27;go_wp2_with fail
 rw[<- HW0.out];refine HST.out.mono ?_;rintro e W1 ⟨rfl,hb1⟩;have HE1:=Wz (AB (AA HE0.out hb1) (.cells #[J none 0 0,U I 0,R false] 36));have HR1:=Wz ((HR0.out.ext hb1).alloc (.cells #[J none 0 0,U I 0,R false] 36));have HI:=Wz II;have H0:=Wz (show(#[U I 0,U I 0,U I 0,U I 0,U I 0,U I 0,U I 0,J none 0 0,U I 0,R false,U I 0,U I 0,U I 0,J none 0 0,J none 0 0]:Array Value).all (·.oneCell')=true by simp[Value.oneCell']);clear hb1 HW0 HE0 HR0 HST;go_wp2_with (refine AX rfl 39 (.tmp 4) (.tmp 24) rfl (w.heap.size+1) #[U I 0,U I 0,U I 0,U I 0,U I 0,U I 0,U I 0,J none 0 0,U I 0,R false,U I 0,U I 0,U I 0,J none 0 0,J none 0 0] rfl rfl 39 #[U I 0,U I 0,U I 0,U I 0,U I 0,U I 0,U I 0,J none 0 0,U I 0,R false,U I 0,U I 0,U I 0,J none 0 0,J none 0 0] HR1.out HI.out rfl H0.out ?_;intro X hbx hgx)
 have hX:=Ah.of_grown hgx;obtain⟨y0,y1,y2,y3,y4,y5,y6,y7,y8,y9,y10,y11,y12,y13,y14⟩:=CR hbx;exact bodyPost_ret (v:=.tuple #[o #[U I 0,U I 0,U I 0,U I 0,U I 0,U I 0,U I 0,J none 0 0,U I 0,R false,U I 0,U I 0,U I 0,J none 0 0,J none 0 0],R false]) (by simp[results,Tryz.results27,go_sem,y0,y1,y2,y3,y4,y5,y6,y7,y8,y9,y10,y11,y12,y13,y14]) rfl ⟨rfl,Ah.below HE1.out (by omega) (by omega) hX⟩
theorem OA(bh:Nat)(w:World):Calls Tryz.prog 61 #[J none 0 0,.func (.func 59) #[] #[.pointer (some ⟨bh,0,none⟩)]] w fun e w'=>e=.returned (R false)/\w'=w:=by
 have HI:=Wz (show Calls Tryz.prog 106 #[J none 0 0,.func (.func 59) #[] #[.pointer (some ⟨bh,0,none⟩)]] w fun e w'=>e=.returned (U I (-1))/\w'=w from by
  go_enter Tryz.func106,Tryz.ntmps106;go_wp2;refine wp_loop_rounds 1 ?_;rw[rounds_succ];go_wp2;go_ret;exact⟨rfl,rfl⟩)
 go_enter Tryz.func61,Tryz.ntmps61;go_wp2_with fail
 refine HI.out.mono ?_;rintro e W1 ⟨rfl,rfl⟩;go_wp2;go_ret;exact⟨rfl,rfl⟩
theorem R5(c s:ByteArray)(hc:c.size=32)(hs:s.size=32)(w:World)(hM:C3 w)(hR:AJ w):Calls Tryz.prog 31 #[o #[U I 0,j c,j s],o #[U I 0,j c,j s],o #[U I 0,U I 0,U I 0,U I 0,U I 0,U I 0,U I 0,J none 0 0,U I 0,R false,U I 0,U I 0,U I 0,J none 0 0,J none 0 0]] w
   fun e w'=>e=.returned (R false)/\Below w.heap.size w w':=by
 have hmf:∀(fn:Fn) (first cap:Array Value) (w:World),(Instr.makeFunc fn first cap).run Tryz.prog w=.ok (.func fn first cap) w:=fun _ _ _ _=>rfl;have HFO:=Wz (fun(W:World)(h:Below w.heap.size w W)=>Ng [] (J none 0 0) 0 0 rfl (by omega) c s c s hc hs hc hs rfl (fun _=>rfl) (fun _ h=>absurd h (by simp)) W ⟨none,0,rfl,Nat.le_refl _,fun h=>absurd h (by simp)⟩ (hR.below h));have HBU:=Wz (fun(W:World)(h:Below w.heap.size w W)=>VZ W (hM.below h));have HCN:=Wz (fun(bh:Nat)(W:World)=>OA bh W);rw[show((0:Nat):Int)=0 from rfl]at HFO;obtain⟨X,hX⟩:∃ X,X=((w.alloc (.cells #[U I 0,j c,j s] 52)).alloc (.cells #[U I 0,j c,j s] 52)).alloc (.cells #[U I 0,U I 0,U I 0,U I 0,U I 0,U I 0,U I 0,J none 0 0,U I 0,R false,U I 0,U I 0,U I 0,J none 0 0,J none 0 0] 39):=⟨_,rfl⟩;have hE:Below w.heap.size w X:=by rw[hX];exact AB (AB (AC _ _) _) _
 have HBa:=Wz (show Blk X (w.heap.size+1+1) 39 #[U I 0,U I 0,U I 0,U I 0,U I 0,U I 0,U I 0,J none 0 0,U I 0,R false,U I 0,U I 0,U I 0,J none 0 0,J none 0 0]by rw[hX];exact Blk.new' _ _ _ (by simp));have HE:=Wz hE;have HX:=Wz hX;clear hE hX hM hR hc hs;go_enter Tryz.func31,Tryz.ntmps31;go_wp2_with fail
 rw[<- HX.out];refine(HFO.out _ HE.out).mono ?_;rintro e W1 ⟨rfl,hb1⟩;have HE1:=Wz (AA HE.out hb1);obtain⟨a0,a1,a2,a3,a4,a5,a6,_,_,_,_,_,a12,a13,a14⟩:=CR (HBa.out.ext hb1);clear hb1 HX HE HFO;go_wp2_with (go_at_call 61;refine(HCN.out _ _).mono ?_;rintro e W2 ⟨rfl,rfl⟩)
 refine(HBU.out _ HE1.out).mono ?_;rintro e W3 ⟨rfl,hb3⟩;have HE3:=Wz (AA HE1.out hb3);clear hb3 a0 a1 a2 a3 a4 a5 a6 a12 a13 a14 HBU HCN HBa HE1;go_wp2;go_ret;exact⟨rfl,AB HE3.out _⟩
end Go.Proofs.YtimoapjhepmehaaGreatDoor
