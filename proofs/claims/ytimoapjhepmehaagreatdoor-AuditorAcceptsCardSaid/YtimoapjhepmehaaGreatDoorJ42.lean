/- Part 42: contracts that the last part uses. -/
import Derived.Test.YtimoapjhepmehaaGreatDoorJ28
import Derived.Test.YtimoapjhepmehaaGreatDoorJ27
import Derived.BigRegion
import Derived.Deep.RegionHeld3
set_option linter.unusedSimpArgs false
set_option linter.unusedVariables false
set_option maxHeartbeats 4000000
set_option maxRecDepth 100000
namespace Go.Proofs.YtimoapjhepmehaaGreatDoor
open Go.IntKind renaming i64->I
open Go.Value renaming int->U,slice->J,bool->R,agg->o,string->jU,pointer->jY
open Go.RowKit renaming Below->j
open Go renaming World->jT,Calls->jX
open Tryz renaming prog->jV
open Go.Ending renaming returned->jW
open Go.RowKit Go.Shelf
attribute [local go_sem ↓] Go.wp_at_zero Go.wp_at_succ
theorem IS(ga gm:Nat)(n:Int)(r:ByteArray)(kv:List (Int × Value))(ca sa cb sb:ByteArray)(k0 k1 k2 k3 k4 k5 k6 vv si:Int)(fd:Bool)(un base:Nat)(Au Ar Al:Option Addr)(nu cu np cr nl cl:Nat)(b:Bool)(w:jT)(h:Dn w ga gm n r kv)(h1:B6 kv (base:Int)=some (Ck base (ca,sa)))(h2:B6 kv (un:Int)=some (Ck un (cb,sb)))
  (hC:∀ W:jT,j w.heap.size w W->jX jV 31 #[o #[U I (base:Int),jU ca,jU sa],o #[U I (un:Int),jU cb,jU sb],o #[U I k0,U I k1,U I k2,U I k3,U I k4,U I k5,U I k6,J Au nu cu,U I vv,R fd,U I si,U I (un:Int),U I (base:Int),J Ar np cr,J Al nl cl]] W fun e w'=>e=jW (R b)/\j W.heap.size W w') :
  jX jV 13 #[jY (some ⟨ga,0,none⟩),o #[U I k0,U I k1,U I k2,U I k3,U I k4,U I k5,U I k6,J Au nu cu,U I vv,R fd,U I si,U I (un:Int),U I (base:Int),J Ar np cr,J Al nl cl]] w fun e w'=>e=jW (R b)/\j w.heap.size w w':=by
 have hmf:∀(fn:Fn) (first cap:Array Value) (w:jT),(Instr.makeFunc fn first cap).run jV w=.ok (.func fn first cap) w:=fun _ _ _ _=>rfl;obtain⟨X,hX⟩:∃ X,X=(w.alloc (.cells #[jY (some ⟨ga,0,none⟩)] 43)).alloc (.cells #[U I k0,U I k1,U I k2,U I k3,U I k4,U I k5,U I k6,J Au nu cu,U I vv,R fd,U I si,U I (un:Int),U I (base:Int),J Ar np cr,J Al nl cl] 39):=⟨_,rfl⟩;have hE:j w.heap.size w X:=by rw[hX];exact AB (AC _ _) _
 have hBx:Blk X w.heap.size 43 #[jY (some ⟨ga,0,none⟩)]:=by rw[hX];exact(Blk.new _ _ _).alloc _
 have HBa:=Wz (show Blk X (w.heap.size+1) 39 #[U I k0,U I k1,U I k2,U I k3,U I k4,U I k5,U I k6,J Au nu cu,U I vv,R fd,U I si,U I (un:Int),U I (base:Int),J Ar np cr,J Al nl cl]by rw[hX];exact Blk.new' _ _ _ (by simp));have HF1:=Wz (show ∀ W:jT,j X.heap.size X W->jX jV 30 #[U I (base:Int),jY (some ⟨w.heap.size,0,none⟩)] W fun e w'=>e=jW (o #[U I (base:Int),jU ca,jU sa])/\j W.heap.size W w' from
  fun W k=>Te ga gm w.heap.size base n r kv ca sa W ((h.ext hE).ext k) h1 (hBx.ext k))
 have HF2:=Wz (show ∀ W:jT,j X.heap.size X W->jX jV 30 #[U I (un:Int),jY (some ⟨w.heap.size,0,none⟩)] W fun e w'=>e=jW (o #[U I (un:Int),jU cb,jU sb])/\j W.heap.size W w' from
  fun W k=>Te ga gm w.heap.size un n r kv cb sb W ((h.ext hE).ext k) h2 (hBx.ext k))
 have HC:=Wz (fun(W:jT)(k:j X.heap.size X W)=>hC W (AA hE k));have HK:=Wz (Hl HBa.out (AF X));have HE:=Wz hE;have HX:=Wz hX;clear h hE hBx hX hC h1 h2;go_enter Tryz.func13,Tryz.ntmps13;go_wp2_with fail
 rw[<- HX.out];go_region_held3 (fun w'=>w'.cell? ⟨w.heap.size+1,0,none⟩=some (U I k0)/\w'.cell? ⟨w.heap.size+1,1,none⟩=some (U I k1)/\w'.cell? ⟨w.heap.size+1,2,none⟩=some (U I k2)/\w'.cell? ⟨w.heap.size+1,3,none⟩=some (U I k3)/\w'.cell? ⟨w.heap.size+1,4,none⟩=some (U I k4)/\w'.cell? ⟨w.heap.size+1,5,none⟩=some (U I k5)/\w'.cell? ⟨w.heap.size+1,6,none⟩=some (U I k6)/\w'.cell? ⟨w.heap.size+1,7,none⟩=some (J Au nu cu)/\w'.cell? ⟨w.heap.size+1,8,none⟩=some (U I vv)/\w'.cell? ⟨w.heap.size+1,9,none⟩=some (R fd)/\w'.cell? ⟨w.heap.size+1,10,none⟩=some (U I si)/\w'.cell? ⟨w.heap.size+1,11,none⟩=some (U I (un:Int))/\w'.cell? ⟨w.heap.size+1,12,none⟩=some (U I (base:Int))/\w'.cell? ⟨w.heap.size+1,13,none⟩=some (J Ar np cr)/\w'.cell? ⟨w.heap.size+1,14,none⟩=some (J Al nl cl)/\j X.heap.size X w')
  (first|with_reducible assumption|exact Hl HBa.out (by repeat (first|with_reducible refine AB ?_ _|with_reducible refine Below.drew ?_|with_reducible refine Af ?_ _|with_reducible assumption|with_reducible exact AF _)))
  (first
   |(go_at_call 30;(with_reducible refine(HF1.out _ ?_).mono ?_);(exact FN (by assumption));rintro e Z ⟨rfl,hb'⟩;have hXZ:=AA (FN (by assumption)) hb';clear hb')
   |(go_at_call 30;(with_reducible refine(HF2.out _ ?_).mono ?_);(exact FN (by assumption));rintro e Z ⟨rfl,hb'⟩;have hXZ:=AA (FN (by assumption)) hb';clear hb')
   |(go_at_call 31;(with_reducible refine(HC.out _ ?_).mono ?_);(exact FN (by assumption));rintro e Z ⟨rfl,hb'⟩;have hXZ:=AA (FN (by assumption)) hb';clear hb'))
 all_goals
  have HZ:=Wz (AA HE.out hXZ);clear hXZ;go_wp2;go_ret;exact⟨rfl,HZ.out⟩
theorem KG(ga gm:Nat)(n:Int)(r:ByteArray)(kv:List (Int × Value))(k0 k1 k2 k3 k4 k5 k6 vv si:Int)(fd:Bool)(un base:Nat)(Au Ar Al:Option Addr)(nu cu np cr nl cl:Nat)(w:jT)(h:Dn w ga gm n r kv)(h1:B6 kv (base:Int)=none)(h2:B6 kv (un:Int)=none)
  (hC:∀ W:jT,j w.heap.size w W->jX jV 31 #[o #[U I (-1),jU ⟨#[]⟩,jU ⟨#[]⟩],o #[U I (-1),jU ⟨#[]⟩,jU ⟨#[]⟩],o #[U I k0,U I k1,U I k2,U I k3,U I k4,U I k5,U I k6,J Au nu cu,U I vv,R fd,U I si,U I (un:Int),U I (base:Int),J Ar np cr,J Al nl cl]] W fun e w'=>e=jW (R false)/\j W.heap.size W w') :
  jX jV 13 #[jY (some ⟨ga,0,none⟩),o #[U I k0,U I k1,U I k2,U I k3,U I k4,U I k5,U I k6,J Au nu cu,U I vv,R fd,U I si,U I (un:Int),U I (base:Int),J Ar np cr,J Al nl cl]] w fun e w'=>e=jW (R false)/\j w.heap.size w w':=by
 have hmf:∀(fn:Fn) (first cap:Array Value) (w:jT),(Instr.makeFunc fn first cap).run jV w=.ok (.func fn first cap) w:=fun _ _ _ _=>rfl;obtain⟨X,hX⟩:∃ X,X=(w.alloc (.cells #[jY (some ⟨ga,0,none⟩)] 43)).alloc (.cells #[U I k0,U I k1,U I k2,U I k3,U I k4,U I k5,U I k6,J Au nu cu,U I vv,R fd,U I si,U I (un:Int),U I (base:Int),J Ar np cr,J Al nl cl] 39):=⟨_,rfl⟩;have hE:j w.heap.size w X:=by rw[hX];exact AB (AC _ _) _
 have hBx:Blk X w.heap.size 43 #[jY (some ⟨ga,0,none⟩)]:=by rw[hX];exact(Blk.new _ _ _).alloc _
 have HBa:=Wz (show Blk X (w.heap.size+1) 39 #[U I k0,U I k1,U I k2,U I k3,U I k4,U I k5,U I k6,J Au nu cu,U I vv,R fd,U I si,U I (un:Int),U I (base:Int),J Ar np cr,J Al nl cl]by rw[hX];exact Blk.new' _ _ _ (by simp));have HF1:=Wz (show ∀ W:jT,j X.heap.size X W->jX jV 30 #[U I (base:Int),jY (some ⟨w.heap.size,0,none⟩)] W fun e w'=>e=jW (o #[U I (-1),jU ⟨#[]⟩,jU ⟨#[]⟩])/\j W.heap.size W w' from
  fun W k=>Td ga gm w.heap.size base n r kv W ((h.ext hE).ext k) h1 (hBx.ext k))
 have HF2:=Wz (show ∀ W:jT,j X.heap.size X W->jX jV 30 #[U I (un:Int),jY (some ⟨w.heap.size,0,none⟩)] W fun e w'=>e=jW (o #[U I (-1),jU ⟨#[]⟩,jU ⟨#[]⟩])/\j W.heap.size W w' from
  fun W k=>Td ga gm w.heap.size un n r kv W ((h.ext hE).ext k) h2 (hBx.ext k))
 have HC:=Wz (fun(W:jT)(k:j X.heap.size X W)=>hC W (AA hE k));have HK:=Wz (Hl HBa.out (AF X));have HE:=Wz hE;have HX:=Wz hX;clear h hE hBx hX hC h1 h2;go_enter Tryz.func13,Tryz.ntmps13;go_wp2_with fail
 rw[<- HX.out];go_region_held3 (fun w'=>w'.cell? ⟨w.heap.size+1,0,none⟩=some (U I k0)/\w'.cell? ⟨w.heap.size+1,1,none⟩=some (U I k1)/\w'.cell? ⟨w.heap.size+1,2,none⟩=some (U I k2)/\w'.cell? ⟨w.heap.size+1,3,none⟩=some (U I k3)/\w'.cell? ⟨w.heap.size+1,4,none⟩=some (U I k4)/\w'.cell? ⟨w.heap.size+1,5,none⟩=some (U I k5)/\w'.cell? ⟨w.heap.size+1,6,none⟩=some (U I k6)/\w'.cell? ⟨w.heap.size+1,7,none⟩=some (J Au nu cu)/\w'.cell? ⟨w.heap.size+1,8,none⟩=some (U I vv)/\w'.cell? ⟨w.heap.size+1,9,none⟩=some (R fd)/\w'.cell? ⟨w.heap.size+1,10,none⟩=some (U I si)/\w'.cell? ⟨w.heap.size+1,11,none⟩=some (U I (un:Int))/\w'.cell? ⟨w.heap.size+1,12,none⟩=some (U I (base:Int))/\w'.cell? ⟨w.heap.size+1,13,none⟩=some (J Ar np cr)/\w'.cell? ⟨w.heap.size+1,14,none⟩=some (J Al nl cl)/\j X.heap.size X w')
  (first|with_reducible assumption|exact Hl HBa.out (by repeat (first|with_reducible refine AB ?_ _|with_reducible refine Below.drew ?_|with_reducible refine Af ?_ _|with_reducible assumption|with_reducible exact AF _)))
  (first
   |(go_at_call 30;(with_reducible refine(HF1.out _ ?_).mono ?_);(exact FN (by assumption));rintro e Z ⟨rfl,hb'⟩;have hXZ:=AA (FN (by assumption)) hb';clear hb')
   |(go_at_call 30;(with_reducible refine(HF2.out _ ?_).mono ?_);(exact FN (by assumption));rintro e Z ⟨rfl,hb'⟩;have hXZ:=AA (FN (by assumption)) hb';clear hb')
   |(go_at_call 31;(with_reducible refine(HC.out _ ?_).mono ?_);(exact FN (by assumption));rintro e Z ⟨rfl,hb'⟩;have hXZ:=AA (FN (by assumption)) hb';clear hb'))
 all_goals
  have HZ:=Wz (AA HE.out hXZ);clear hXZ;go_wp2;go_ret;exact⟨rfl,HZ.out⟩
theorem LV(k0 k1 k2 k3 k4 k5 k6 vv si:Int)(fd:Bool)(un base:Nat)(Au Ar Al:Option Addr)(nu cu np cr nl cl:Nat)(w:jT) :
  jX jV 31 #[o #[U I (-1),jU ⟨#[]⟩,jU ⟨#[]⟩],o #[U I (-1),jU ⟨#[]⟩,jU ⟨#[]⟩],o #[U I k0,U I k1,U I k2,U I k3,U I k4,U I k5,U I k6,J Au nu cu,U I vv,R fd,U I si,U I (un:Int),U I (base:Int),J Ar np cr,J Al nl cl]] w fun e w'=>e=jW (R false)/\j w.heap.size w w':=by
 have hb:((-1:Int) == (base:Int))=false:=by rw[beq_eq_false_iff_ne];omega
 go_enter Tryz.func31,Tryz.ntmps31;go_wp2;go_ret;exact⟨rfl,AB (AB (AC _ _) _) _⟩
theorem UA(ga:Nat)(k0 k1 k2 k3 k4 k5 k6 vv si:Int)(fd:Bool)(un base:Nat)(Au Ar Al:Option Addr)(nu cu np cr nl cl:Nat)(p:Int)(b:Bool)(hp1:si<=p)(hp2:p<=(un:Int))(w:jT)
  (hC:∀ W:jT,j w.heap.size w W->jX jV 13 #[jY (some ⟨ga,0,none⟩),o #[U I k0,U I k1,U I k2,U I k3,U I k4,U I k5,U I k6,J Au nu cu,U I vv,R fd,U I si,U I (un:Int),U I (base:Int),J Ar np cr,J Al nl cl]] W fun e w'=>e=jW (R b)/\j W.heap.size W w') :
  jX jV 14 #[jY (some ⟨ga,0,none⟩),o #[U I k0,U I k1,U I k2,U I k3,U I k4,U I k5,U I k6,J Au nu cu,U I vv,R fd,U I si,U I (un:Int),U I (base:Int),J Ar np cr,J Al nl cl],U I p] w fun e w'=>e=jW (R b)/\j w.heap.size w w':=by
 have HE:=Wz (AC w (.cells #[U I k0,U I k1,U I k2,U I k3,U I k4,U I k5,U I k6,J Au nu cu,U I vv,R fd,U I si,U I (un:Int),U I (base:Int),J Ar np cr,J Al nl cl] 39));have HC:=Wz (hC _ HE.out);have d1:decide (si<=p)=true:=decide_eq_true hp1;have d2:decide (p<=(un:Int))=true:=decide_eq_true hp2;clear hC;go_enter Tryz.func14,Tryz.ntmps14;go_wp2_with fail
 refine HC.out.mono ?_;rintro e W1 ⟨rfl,hb1⟩;have HE1:=Wz (AA HE.out hb1);clear hb1;go_wp2;go_ret;exact⟨rfl,HE1.out⟩
theorem LW(pa:Option Addr)(k0 k1 k2 k3 k4 k5 k6 vv si:Int)(fd:Bool)(un base:Nat)(Au Ar Al:Option Addr)(nu cu np cr nl cl:Nat)(p:Int)(hp1:p<si)(w:jT) :
  jX jV 14 #[.pointer pa,o #[U I k0,U I k1,U I k2,U I k3,U I k4,U I k5,U I k6,J Au nu cu,U I vv,R fd,U I si,U I (un:Int),U I (base:Int),J Ar np cr,J Al nl cl],U I p] w fun e w'=>e=jW (R false)/\j w.heap.size w w':=by
 have d1:decide (si<=p)=false:=decide_eq_false (by omega);have d2:¬ si<=p:=by omega
 go_enter Tryz.func14,Tryz.ntmps14;go_wp2;go_ret;exact⟨rfl,AC _ _⟩
theorem Pq(pa:Option Addr)(k0 k1 k2 k3 k4 k5 k6 vv si:Int)(fd:Bool)(un base:Nat)(Au Ar Al:Option Addr)(nu cu np cr nl cl:Nat)(p:Int)(hp1:si<=p)(hp2:(un:Int)<p)(w:jT) :
  jX jV 14 #[.pointer pa,o #[U I k0,U I k1,U I k2,U I k3,U I k4,U I k5,U I k6,J Au nu cu,U I vv,R fd,U I si,U I (un:Int),U I (base:Int),J Ar np cr,J Al nl cl],U I p] w fun e w'=>e=jW (R false)/\j w.heap.size w w':=by
 have d1:decide (si<=p)=true:=decide_eq_true hp1;have d2:decide (p<=(un:Int))=false:=decide_eq_false (by omega);go_enter Tryz.func14,Tryz.ntmps14;go_wp2;go_ret;exact⟨rfl,AC _ _⟩
theorem R7(n lo hi:Int)(h1:lo<=n)(h2:n<=hi)(w:jT):jX jV 35 #[U I n,U I lo,U I hi] w fun e w'=>e=jW (R true)/\w=w':=by
 go_enter Tryz.func35,Tryz.ntmps35;go_wp2;go_ret;exact⟨by simp[h1,h2],rfl⟩
theorem UB(ga:Nat)(t k si:Int)(un base:Nat)(Ar Al:Option Addr)(cu np cr nl cl:Nat)(x:AD)(gr:Nat)(p q:Int)(c:Nat)(hc:1<=c/\c<=3)(hq : -1000000000<=q/\q<=1000000000)(hw:IntKind.i64.wrap (x.col c*q)=x.col c*q)(w:jT)
  (hx:∀ i,i<5->w.cell? ⟨gr,i,none⟩=(AY x)[i]?)
  (hA:∀ W:jT,j w.heap.size w W->jX jV 14 #[jY (some ⟨ga,0,none⟩),o #[U I 1,U I t,U I 0,U I k,U I k,U I 0,U I 0,J (some ⟨gr,0,none⟩) 1 cu,U I 0,R false,U I si,U I (un:Int),U I (base:Int),J Ar np cr,J Al nl cl],U I p] W fun e w'=>e=jW (R true)/\j W.heap.size W w') :
  jX jV 18 #[jY (some ⟨ga,0,none⟩),o #[U I 1,U I t,U I 0,U I k,U I k,U I 0,U I 0,J (some ⟨gr,0,none⟩) 1 cu,U I 0,R false,U I si,U I (un:Int),U I (base:Int),J Ar np cr,J Al nl cl],U I p,U I (c:Int),U I q] w fun e w'=>e=jW (.tuple #[U I (x.col c*q),R true])/\j w.heap.size w w':=by
 have HE:=Wz (AC w (.cells #[U I 1,U I t,U I 0,U I k,U I k,U I 0,U I 0,J (some ⟨gr,0,none⟩) 1 cu,U I 0,R false,U I si,U I (un:Int),U I (base:Int),J Ar np cr,J Al nl cl] 39));have HB:=Wz (Blk.new w 39 #[U I 1,U I t,U I 0,U I k,U I k,U I 0,U I 0,J (some ⟨gr,0,none⟩) 1 cu,U I 0,R false,U I si,U I (un:Int),U I (base:Int),J Ar np cr,J Al nl cl]);have HC:=Wz (hA _ HE.out);have HX:=Wz (show ∀ W:jT,j w.heap.size w W->W.cell? ⟨gr,0,none⟩=some (U I x.t)/\W.cell? ⟨gr,1,none⟩=some (U I x.k)/\W.cell? ⟨gr,2,none⟩=some (U I x.a)/\W.cell? ⟨gr,3,none⟩=some (U I x.b)/\W.cell? ⟨gr,4,none⟩=some (U I x.c)from fun W h=>
  ⟨AG (hx 0 (by omega)) h,AG (hx 1 (by omega)) h,AG (hx 2 (by omega)) h,AG (hx 3 (by omega)) h,AG (hx 4 (by omega)) h⟩)
 obtain⟨y0,y1,y2,y3,y4⟩:=x;dsimp only at HX;clear hx hA;have q1 : -1000000000<=q:=hq.1;have q2:q<=1000000000:=hq.2;have hcc:c=1∨c=2∨c=3:=by omega
 rcases hcc with rfl|rfl|rfl
 all_goals
  dsimp only[AD.col]at hw ⊢;go_enter Tryz.func18,Tryz.ntmps18;go_wp2_with (first
   |(go_at_call 35;refine(R7 _ _ _ (by omega) (by omega) _).mono ?_;rintro e w' ⟨rfl,rfl⟩)
   |(go_at_call 14;refine HC.out.mono ?_;rintro e W1 ⟨rfl,hb1⟩;have HE1:=Wz (AA HE.out hb1);have p7:=(HB.out.ext hb1).cell 7;obtain⟨r0,r1,r2,r3,r4⟩:=HX.out _ HE1.out;clear hb1))
  go_ret2;exact⟨rfl,HE1.out⟩
end Go.Proofs.YtimoapjhepmehaaGreatDoor
