/- Part 44: contracts that the last part uses. -/
import Derived.Test.YtimoapjhepmehaaGreatDoorJ43
set_option linter.unusedSimpArgs false
set_option linter.unusedVariables false
namespace Go.Proofs.YtimoapjhepmehaaGreatDoor
open Go.IntKind renaming i64->I
open Go.Value renaming int->U,slice->J,bool->R
open Go.IntWalk renaming i64_in->kP
open Go.RowKit Go.Shelf
attribute [local go_sem ↓] Go.wp_at_zero Go.wp_at_succ
theorem Ww{w:World}{g:Nat}{t:TypeId}{a0 a1 a2 a3 a4 a5 a6 a7 a8 a9 a10:Value}(h:Blk w g t #[a0,a1,a2,a3,a4,a5,a6,a7,a8,a9,a10]):w.cell? ⟨g,0,none⟩=some a0/\w.cell? ⟨g,1,none⟩=some a1/\w.cell? ⟨g,2,none⟩=some a2/\w.cell? ⟨g,3,none⟩=some a3/\w.cell? ⟨g,4,none⟩=some a4/\w.cell? ⟨g,5,none⟩=some a5/\w.cell? ⟨g,6,none⟩=some a6/\w.cell? ⟨g,7,none⟩=some a7/\w.cell? ⟨g,8,none⟩=some a8/\w.cell? ⟨g,9,none⟩=some a9/\w.cell? ⟨g,10,none⟩=some a10:=⟨h.cell 0,h.cell 1,h.cell 2,h.cell 3,h.cell 4,h.cell 5,h.cell 6,h.cell 7,h.cell 8,h.cell 9,h.cell 10⟩
set_option maxRecDepth 100000 in
set_option maxHeartbeats 16000000 in
theorem UD(T:List (Nat->Int))(v:Value)(A1 A2 A3:Option Addr)(m1 c1 m2 c2 m3 c3:Nat)(x0 x1 x2 x3 x4 pb pu fi po:Int)(w:World)(hv:Fk w v T)(hcap:Ga v)(hT:Nf T)(hbig:T.length<=9223372036854775807)(i0:Co x0)(i1:Co x1)(i2:Co x2)(i3:Co x3)(i4:Co x4)(i5:Co pb)(i6:Co pu)(i7:Co fi)(i8:Co po)(hR:AJ w)(hM:C3 w) :
  Calls Tryz.prog 3 #[.agg #[v,J A1 m1 c1,J A2 m2 c2,U I x0,U I x1,U I x2,U I x3,U I x4,U I pb,U I pu,J A3 m3 c3],U I fi,U I po] w fun e w'=>e=.returned (R true)/\Below w.heap.size w w':=by
 obtain⟨kd,t,lo,hi,o,j,b,hq,hQ⟩:=U3 x0 x1 x2 x3 x4 i0 i1 i2 i3 i4;have HQR:=Wz hQ;have HQO:=Wz hq;have HRC:=Wz (fun(W:World)(h:Below w.heap.size w W)=>R6 T v W (hv.ext h) hcap hT hbig);have HR:=Wz hR;have HM:=Wz hM;obtain⟨Av,cv,rfl,-⟩:=id hv;have HQP:=Wz (show ∀(c n:Int),0<n->n<=1000->Co c->∃ k:Nat,(k:Int)<n/\∀ w:World,Calls Tryz.prog 8 #[U I c,U I n] w fun e w'=>e=.returned (U I (k:Int))/\w=w' from fun c n h1 h2 h3=>Wu c n h1 (by omega) h3.1 h3.2);have HI:=Wz (And.intro i5 (And.intro i6 (And.intro i7 i8)));clear hv hcap hT hbig hR hM hQ hq i0 i1 i2 i3 i4 i5 i6 i7 i8;obtain⟨W0,hW0⟩:∃ W0,W0=w.alloc (.cells #[J Av T.length cv,J A1 m1 c1,J A2 m2 c2,U I x0,U I x1,U I x2,U I x3,U I x4,U I pb,U I pu,J A3 m3 c3] 27):=⟨_,rfl⟩;have HE0:=Wz (show Below w.heap.size w W0 by rw[hW0];exact AC _ _);have HC0:=Wz (show Blk W0 w.heap.size 27 #[J Av T.length cv,J A1 m1 c1,J A2 m2 c2,U I x0,U I x1,U I x2,U I x3,U I x4,U I pb,U I pu,J A3 m3 c3]by rw[hW0];exact Blk.new _ _ _);have HW0:=Wz hW0;clear hW0;go_enter Tryz.func3,Tryz.ntmps3;go_wp2_with fail
 rw[<- HW0.out];refine(saneU _ (HR.out.below HE0.out)).mono ?_;rintro e W1 ⟨rfl,hb1⟩;have HE1:=Wz (AA HE0.out hb1);have HC1:=Wz (HC0.out.ext hb1);have g0:=HC1.out.cell 0;clear hb1 HW0 HE0 HC0;go_wp2_with fail
 refine(HRC.out _ HE1.out).mono ?_;rintro e Y ⟨u,Ls,rfl,hls,hl16,hrun,hchg,hb2⟩;obtain⟨Al',cl',rfl,-⟩:=id hls;have HLS:=Wz hls;have HRUN:=Wz (And.intro hl16 (And.intro hrun hchg));have HEy:=Wz (AA HE1.out hb2);have HCy:=Wz (HC1.out.ext hb2);clear hb2 hls hrun hchg HE1 HC1 HRC g0;obtain⟨N,hN⟩:∃ N,N=Ls.length:=⟨_,rfl⟩;have HNN:=Wz hN;have hN16:N<=16:=by omega
 rw[<- hN]at HLS ⊢;clear hN hl16;obtain⟨base,hbs,hPB⟩:=HQP.out pb ((N:Int)+1) (by omega) (by omega) HI.out.1;obtain⟨D,hD⟩:∃ D:Nat,D=N-base:=⟨_,rfl⟩;obtain⟨ku,hku,hPU⟩:=HQP.out pu ((D:Int)+1) (by omega) (by omega) HI.out.2.1;obtain⟨un,hun⟩:∃ un:Nat,un=base+ku:=⟨_,rfl⟩;obtain⟨kf,hkf,hPF⟩:=HQP.out fi ((N:Int)+1) (by omega) (by omega) HI.out.2.2.1;obtain⟨kp,hkp,hPP⟩:=HQP.out po 18 (by omega) (by omega) HI.out.2.2.2;obtain⟨p,hp⟩:∃ p:Int,p=(kp:Int)-1:=⟨_,rfl⟩;have HPB:=Wz hPB;have HPU:=Wz hPU;have HPF:=Wz hPF;have HPP:=Wz hPP;have e1:IntKind.i64.wrap ((N:Int)+1)=(N:Int)+1:=kP _ (by omega);have e2:IntKind.i64.wrap ((N:Int)-(base:Int))=(D:Int):=by rw[kP _ (by omega)];omega
 have e3:IntKind.i64.wrap ((D:Int)+1)=(D:Int)+1:=kP _ (by omega);have e4:IntKind.i64.wrap ((base:Int)+(ku:Int))=(un:Int):=by rw[kP _ (by omega)];omega
 have e5:IntKind.i64.wrap ((kp:Int)-1)=p:=by rw[kP _ (by omega),hp]
 have HNB:=Wz (show base<=un/\un<=N/\kf<=N by omega);have HQ:=Wz (fun(W:World)(h1:Bt W (J Al' N cl') 1 Ls)(h2:AJ W)=>Va Ls HRUN.out.1 HRUN.out.2.1 HRUN.out.2.2 base un HNB.out.1 (by rw[<- HNN.out];exact HNB.out.2.1) kd t lo hi o j b HQO.out (J Al' N cl') W h1 h2);clear hPB hPU hPF hPP hD hun hp hbs hku hkf hkp HQO;generalize (j:Int)=jj at *;generalize (b:Int)=bb at *;obtain⟨g0,g1,g2,g3,g4,g5,g6,g7,g8,g9,g10⟩:=Ww HCy.out;go_wp2_with (first
  |(go_at_call 8;(with_reducible refine(HPB.out _).mono ?_);rintro e w' ⟨rfl,hw'⟩;subst w')
  |(go_at_call 8;(with_reducible refine(HPU.out _).mono ?_);rintro e w' ⟨rfl,hw'⟩;subst w'))
 refine(HQR.out _).mono ?_;rintro e W2 ⟨rfl,hb2⟩;have HE2:=Wz (AA HEy.out hb2);have HL2:=Wz (HLS.out.ext hb2);clear hb2 HEy HLS HQR g0 g1 g2 g3 g4 g5 g6 g7 g8 g9 g10 HCy;go_wp2_with fail
 refine(HQ.out _ HL2.out (HR.out.below HE2.out)).mono ?_;rintro e W3 ⟨k0,k1,k2,k3,k4,k5,k6,Au,nu,cu,vv,fd,si,uu,ba,Ar,np,cr,Al,nl,cl,ok,rfl,hac,hb3⟩;have HAC:=Wz hac;have HE3:=Wz (AA HE2.out hb3);have HL3:=Wz (HL2.out.ext hb3);clear hac hb3 HE2 HL2 HQ;go_wp2_with (go_at_call 8;(with_reducible refine(HPF.out _).mono ?_);rintro e w' ⟨rfl,hw'⟩;subst w')
 have HX2:=Wz (AC W3 (.cells #[U I k0,U I k1,U I k2,U I k3,U I k4,U I k5,U I k6,J Au nu cu,U I vv,R fd,U I si,U I uu,U I ba,J Ar np cr,J Al nl cl] 39));have HX3:=Wz (AC (W3.alloc (.cells #[U I k0,U I k1,U I k2,U I k3,U I k4,U I k5,U I k6,J Au nu cu,U I vv,R fd,U I si,U I uu,U I ba,J Ar np cr,J Al nl cl] 39)) (.cells #[U I (base:Int),U I (un:Int)] 3));have HXX:=Wz (AA HX2.out HX3.out);have HI3:=Wz (Blk.new' (W3.alloc (.cells #[U I k0,U I k1,U I k2,U I k3,U I k4,U I k5,U I k6,J Au nu cu,U I vv,R fd,U I si,U I uu,U I ba,J Ar np cr,J Al nl cl] 39)) 3 #[U I (base:Int),U I (un:Int)] (b:=W3.heap.size+1) (by simp));have HIX:=Wz (show ∀(j q:Nat),([base,un]:List Nat)[j]? = some q->((W3.alloc (.cells #[U I k0,U I k1,U I k2,U I k3,U I k4,U I k5,U I k6,J Au nu cu,U I vv,R fd,U I si,U I uu,U I ba,J Ar np cr,J Al nl cl] 39)).alloc (.cells #[U I (base:Int),U I (un:Int)] 3)).cell? ⟨W3.heap.size+1,j,none⟩=some (U I (q:Int))from fun j q hj=>by
  rcases j with _|_|j
  ·obtain rfl:base=q:=by simpa using hj
   exact HI3.out.cell 0
  ·obtain rfl:un=q:=by simpa using hj
   exact HI3.out.cell 1
  simp at hj)
 have hps:∀ p ∈ [base,un],p<=N:=fun p hp=>by
  have:=HNB.out;rcases List.mem_cons.1 hp with rfl|hp
  ·omega
  obtain rfl:=List.mem_singleton.1 hp;omega
 refine(LK Ls (J Al' N cl') kf N HNN.out HNB.out.2.2 hN16 HRUN.out.2.1 HRUN.out.2.2 [base,un] hps (by simp) (W3.heap.size+1) 2 _ (HL3.out.ext HXX.out) HIX.out (HR.out.below (AA HE3.out HXX.out))).mono ?_;rintro e W5 ⟨ga,gm,kv,rfl,ha5,hh5,hp5,-,-,hb5⟩;have HE5:=Wz (AA (AA HE3.out HXX.out) hb5);have HAU:=Wz ha5;have HBa5:=Wz (((Blk.new W3 39 #[U I k0,U I k1,U I k2,U I k3,U I k4,U I k5,U I k6,J Au nu cu,U I vv,R fd,U I si,U I uu,U I ba,J Ar np cr,J Al nl cl]).alloc (.cells #[U I (base:Int),U I (un:Int)] 3)).ext hb5);have HCK:=Wz (fun(W:World)(h:Below W5.heap.size W5 W)=>HAC.out ga gm (N:Int) _ kv W (AA (AA HXX.out hb5) h) (ha5.ext h) hh5 (hp5 base (by simp)) (hp5 un (by simp)) (HR.out.below (AA HE5.out h)) (HM.out.below (AA HE5.out h)));clear ha5 hh5 hp5 hb5 hps HX2 HX3 HXX HI3 HIX HAC HL3 HE3 HRUN HNN HPB HPU HPF HQP HI HNB HR HM e1 e2 e3 e4;generalize W3.heap.size=b5 at *;generalize BB (An Ls N)=rt at *;obtain⟨a0,a1,a2,a3,a4,a5,a6,a7,a8,a9,a10,a11,a12,a13,a14⟩:=CR HBa5.out;have HC1:=Wz (fun(W:World)(h:Below W5.heap.size W5 W)=>(HCK.out W h).1);have HA1:=Wz (fun(W:World)(h:Below W5.heap.size W5 W)=>(HCK.out W h).2 p);clear HCK;go_wp2_with (first
  |(go_at_call 8;(with_reducible refine(HPP.out _).mono ?_);rintro e w' ⟨rfl,hw'⟩;subst w')
  |(go_at_call 12;refine(J0 _ _ _ _ _ _ HAU.out).mono ?_;rintro e w' ⟨rfl,rfl⟩))
 refine(HC1.out _ (AF _)).mono ?_;rintro e W6 ⟨rfl,hb6⟩;have HE6:=Wz hb6;clear hb6 a0 a1 a2 a3 a4 a5 a6 a7 a8 a9 a10 a11 a12 a13 a14 HC1;obtain⟨a0,a1,a2,a3,a4,a5,a6,a7,a8,a9,a10,a11,a12,a13,a14⟩:=CR (HBa5.out.ext HE6.out)
 cases ok with
 | false=>
  go_wp2_with fail
  refine(HA1.out _ HE6.out).mono ?_;rintro e W7 ⟨rfl,hb7⟩;have HE7:=Wz (AA HE6.out hb7);clear hb7 a0 a1 a2 a3 a4 a5 a6 a7 a8 a9 a10 a11 a12 a13 a14 HA1;go_wp2;go_ret;exact⟨by simp,AA HE5.out HE7.out⟩
 | true =>
  go_wp2_with fail
  refine(HA1.out _ HE6.out).mono ?_;rintro e W7 ⟨rfl,hb7⟩;have HE7:=Wz (AA HE6.out hb7);clear a0 a1 a2 a3 a4 a5 a6 a7 a8 a9 a10 a11 a12 a13 a14 HA1;obtain⟨a0,a1,a2,a3,a4,a5,a6,a7,a8,a9,a10,a11,a12,a13,a14⟩:=CR ((HBa5.out.ext HE6.out).ext hb7);clear hb7;by_cases h1:si<=p
  ·by_cases h2:p<=uu
   ·have d1:decide (si<=p)=true:=decide_eq_true h1;have d2:decide (p<=uu)=true:=decide_eq_true h2;go_wp2;go_ret;exact⟨by simp[h1,h2],AA HE5.out HE7.out⟩
   have d1:decide (si<=p)=true:=decide_eq_true h1;have d2:decide (p<=uu)=false:=decide_eq_false h2;go_wp2;go_ret;exact⟨by simp[h1,h2],AA HE5.out HE7.out⟩
  have d1:decide (si<=p)=false:=decide_eq_false h1;go_wp2;go_ret;exact⟨by simp[h1],AA HE5.out HE7.out⟩
end Go.Proofs.YtimoapjhepmehaaGreatDoor
