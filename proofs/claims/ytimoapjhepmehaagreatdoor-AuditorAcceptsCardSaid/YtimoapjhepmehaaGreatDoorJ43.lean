/- Part 43: contracts that the last part uses. -/
import Derived.Test.YtimoapjhepmehaaGreatDoorJ42
import Derived.Test.YtimoapjhepmehaaGreatDoorJ38
import Derived.Test.YtimoapjhepmehaaGreatDoorJ40
import Derived.Test.YtimoapjhepmehaaGreatDoorJ41
set_option linter.unusedSimpArgs false
set_option linter.unusedVariables false
set_option maxHeartbeats 4000000
set_option maxRecDepth 100000
namespace Go.Proofs.YtimoapjhepmehaaGreatDoor
open Go.IntKind renaming i64->I
open Go.Value renaming int->U,slice->J,bool->R,string->kC,agg->kF,pointer->kK
open Go.RowKit renaming Below->kD
open Go renaming World->kE,Calls->kI,Value->kL
open Tryz renaming prog->kG
open Go.Ending renaming returned->kH
open Go.Obj renaming cells->kJ
section
open Go.RowKit Go.Shelf
section
variable (Ls:List (List AH)) (hL16:Ls.length<=16) (hG:FA Ls) (hC:∀ l ∈ Ls,∀ c ∈ l,Dw c) (base un:Nat) (hbu:base<=un) (hun:un<=Ls.length) (kd t lo hi o:Int) (j b:Nat) (hq:BU.Ok ⟨kd,t,(j:Int),lo,hi,(b:Int),o⟩)
def OB:Option Bg:=C2 kd t lo hi o j b (It kd o b (C6 (stF (Ls.take base)) t j lo hi) (MY (stF (Ls.take base)) kd t lo hi o j b)) ((Ls.take un).drop base)
include hL16 hG hC hbu hun hq
theorem UC(r:Bg)(hr:OB Ls base un kd t lo hi o j b=some r)(u rv lv:kL)(w:kE)(ha:IQ w r.rows (CC (stF (Ls.take base)) kd t lo hi o j b) base ((Ls.take un).drop base) u rv lv)(hR:AJ w) :
  kI kG 31 #[kF #[U I (base:Int),kC (BC Ls base).1,kC (BC Ls base).2],kF #[U I (un:Int),kC (BC Ls un).1,kC (BC Ls un).2],.agg (KE kd t lo hi o j b u r.val r.found (Cl kd t lo hi o j b base ((Ls.take un).drop base) ((Ls.take un).drop base).length:Int) (un:Int) (base:Int) rv lv)] w
   fun e w'=>e=kH (R true)/\kD w.heap.size w w':=by
 have hrw:=hG.rows hC base;have hdl:((Ls.take un).drop base).length=un-base:=by rw[List.length_drop,List.length_take];omega
 have hsz:(stF (Ls.take base)).length<=60:=by have:=hrw.2.2.2;omega
 have hch:∀ L ∈ (Ls.take un).drop base,L.length<=8/\∀ c ∈ L,c.ok/\c.turns=true:=fun L hL=>⟨(hG.at_cut hL).1.few,fun c hc=>⟨(hG.at_cut hL).1.ok c hc,Ht (hG.at_cut hL).2 c hc⟩⟩;have hfo:∀ l ∈ (Ls.take un).drop base,B4 l/\BI l=true:=fun l hl=>hG.at_cut hl;have hqe:un=base+((Ls.take un).drop base).length:=by omega
 have hA:BC Ls base=(Bx 0 Cb Ls base,Bo (stF (Ls.take base))):=rfl;have hU:BC Ls un=(Bx 0 Cb Ls un,Bo (stF (Ls.take un))):=rfl;have sA:=ER Ls base;have sU:=ER Ls un;have h1:=KF Ls Cb base un (un-base) (by omega) hun;rw[show base+(un-base)=un by omega,<- hdl]at h1;have hst:((Ls.take un).drop base).length=0->Bo (stF (Ls.take base))=Bo (stF (Ls.take un)):=fun h0=>by rw[show base=un by omega]
 unfold OB at hr;rw[hA]at sA ⊢;rw[hU]at sU ⊢;dsimp only at sA sU ⊢;generalize Bx 0 Cb Ls base=cA at *;generalize Bx 0 Cb Ls un=cU at *;generalize Bo (stF (Ls.take un))=rU at *;generalize (Ls.take un).drop base=Lc at *;generalize stF (Ls.take base)=rs at *;exact Wt kd t lo hi o j b hq rs hrw.2.2.1 hsz hrw.2.1 Lc base un hqe (by omega) hch hfo r hr cA (Bo rs) cU rU sA.1 rfl sU.1 sU.2 h1 hst u rv lv w ha hR
theorem Wv(B:Nat)(W0:kE)(xs:Array kL)(ok:Bool)(h:IR kd t lo hi o j b un base (OB Ls base un kd t lo hi o j b) (CC (stF (Ls.take base)) kd t lo hi o j b) ((Ls.take un).drop base) B W0 xs ok) :
  ∃(k0 k1 k2 k3 k4 k5 k6:Int) (Au:Option Addr) (nu cu:Nat) (vv:Int) (fd:Bool) (si:Int) (uu ba:Nat) (Ar:Option Addr) (np cr:Nat) (Al:Option Addr) (nl cl:Nat),xs=#[U I k0,U I k1,U I k2,U I k3,U I k4,U I k5,U I k6,J Au nu cu,U I vv,R fd,U I si,U I (uu:Int),U I (ba:Int),J Ar np cr,J Al nl cl] /\
   ∀(ga gm:Nat) (n:Int) (rt:ByteArray) (kv:List (Int × kL)) (W:kE),kD W0.heap.size W0 W->Dn W ga gm n rt kv->FE Ls kv->B6 kv (base:Int)=some (Ck base (BC Ls base))->B6 kv (un:Int)=some (Ck un (BC Ls un))->AJ W->C3 W ->
    (kI kG 13 #[kK (some ⟨ga,0,none⟩),kF #[U I k0,U I k1,U I k2,U I k3,U I k4,U I k5,U I k6,J Au nu cu,U I vv,R fd,U I si,U I (uu:Int),U I (ba:Int),J Ar np cr,J Al nl cl]] W fun e w'=>e=kH (R ok)/\kD W.heap.size W w') /\
    ∀ p:Int,kI kG 14 #[kK (some ⟨ga,0,none⟩),kF #[U I k0,U I k1,U I k2,U I k3,U I k4,U I k5,U I k6,J Au nu cu,U I vv,R fd,U I si,U I (uu:Int),U I (ba:Int),J Ar np cr,J Al nl cl],U I p] W fun e w'=>e=kH (R (ok && decide (si<=p) && decide (p<=(uu:Int))))/\kD W.heap.size W w':=by
 have HCK:=fun(r:Bg)(hr:OB Ls base un kd t lo hi o j b=some r)(u rv lv:kL)(w:kE)=>UC Ls hL16 hG hC base un hbu hun kd t lo hi o j b hq r hr u rv lv w;have hz:=ER Ls 0
 have hat:∀(ga:Nat) (k0 k1 k2 k3 k4 k5 k6 vv si:Int) (fd:Bool) (uu ba:Nat) (Au Ar Al:Option Addr) (nu cu np cr nl cl:Nat) (ok:Bool) (W:kE),(∀ V:kE,kD W.heap.size W V->kI kG 13 #[kK (some ⟨ga,0,none⟩),kF #[U I k0,U I k1,U I k2,U I k3,U I k4,U I k5,U I k6,J Au nu cu,U I vv,R fd,U I si,U I (uu:Int),U I (ba:Int),J Ar np cr,J Al nl cl]] V fun e w'=>e=kH (R ok)/\kD V.heap.size V w') ->
   ∀ p:Int,kI kG 14 #[kK (some ⟨ga,0,none⟩),kF #[U I k0,U I k1,U I k2,U I k3,U I k4,U I k5,U I k6,J Au nu cu,U I vv,R fd,U I si,U I (uu:Int),U I (ba:Int),J Ar np cr,J Al nl cl],U I p] W fun e w'=>e=kH (R (ok && decide (si<=p) && decide (p<=(uu:Int))))/\kD W.heap.size W w':=by
  intro ga k0 k1 k2 k3 k4 k5 k6 vv si fd uu ba Au Ar Al nu cu np cr nl cl ok W hc p;by_cases h1:si<=p
  ·by_cases h2:p<=(uu:Int)
   ·rw[decide_eq_true h1,decide_eq_true h2,Bool.and_true,Bool.and_true];exact UA ga k0 k1 k2 k3 k4 k5 k6 vv si fd uu ba Au Ar Al nu cu np cr nl cl p ok h1 h2 W hc
   rw[decide_eq_false h2,Bool.and_false];exact Pq _ k0 k1 k2 k3 k4 k5 k6 vv si fd uu ba Au Ar Al nu cu np cr nl cl p h1 (by omega) W
  rw[decide_eq_false h1,Bool.and_false,Bool.false_and];exact LW _ k0 k1 k2 k3 k4 k5 k6 vv si fd uu ba Au Ar Al nu cu np cr nl cl p (by omega) W
 rcases h with⟨rfl,-,rfl⟩|⟨rfl,r,hr,u,rv,lv,rfl,hu,hp,hcap,hl⟩
 ·refine⟨0,0,0,0,0,0,0,none,0,0,0,false,0,0,0,none,0,0,none,0,0,rfl,fun ga gm n rt kv W _ hA hH _ _ hR hM=>?_⟩;have hck:∀ V:kE,kD W.heap.size W V->kI kG 13 #[kK (some ⟨ga,0,none⟩),kF #[U I 0,U I 0,U I 0,U I 0,U I 0,U I 0,U I 0,J none 0 0,U I 0,R false,U I 0,U I 0,U I 0,J none 0 0,J none 0 0]] V fun e w'=>e=kH (R false)/\kD V.heap.size V w':=fun V k=>by
   rcases hH 0 with h0|h0
   ·exact KG ga gm n rt kv 0 0 0 0 0 0 0 0 0 false 0 0 none none none 0 0 0 0 0 0 V (hA.ext k) h0 h0 (fun X g=>LV 0 0 0 0 0 0 0 0 0 false 0 0 none none none 0 0 0 0 0 0 X)
   generalize BC Ls 0=x at *;obtain⟨c,s⟩:=x;exact IS ga gm n rt kv c s c s 0 0 0 0 0 0 0 0 0 false 0 0 none none none 0 0 0 0 0 0 false V (hA.ext k) h0 h0 (fun X g=>R5 c s hz.1 hz.2 X (hM.below (AA k g)) (hR.below (AA k g)))
  exact⟨hck W (AF W),hat ga 0 0 0 0 0 0 0 0 0 false 0 0 none none none 0 0 0 0 0 0 false W hck⟩
 obtain⟨Au,cu,rfl,-⟩:=id hu;obtain⟨Ar,cr,rfl,-⟩:=id hp;obtain⟨Al,cl,rfl,-⟩:=id hl;have HC2:=HCK r hr;clear HCK;have hag:∀ V:kE,kD W0.heap.size W0 V->IQ V r.rows (CC (stF (Ls.take base)) kd t lo hi o j b) base ((Ls.take un).drop base) _ _ _:=fun V k=>(IQ.mk hu.rowsL hp hcap hl).ext k;have HC3:=fun(V:kE)(k:kD W0.heap.size W0 V)(h:AJ V)=>HC2 _ _ _ V (hag V k) h;clear HC2 hag hu hp hcap hl;unfold KE at HC3 ⊢;generalize (Cl kd t lo hi o j b base ((Ls.take un).drop base) ((Ls.take un).drop base).length:Int)=si at *;generalize r.rows.length=nu at *;generalize r.val=vv at *;generalize r.found=fd at *;generalize (CC (stF (Ls.take base)) kd t lo hi o j b).length=np at *;generalize ((Ls.take un).drop base).length=nl at *;generalize (j:Int)=jj at *;generalize (b:Int)=bb at *;generalize BC Ls base=hb at *;generalize BC Ls un=hu' at *;obtain⟨ca,sa⟩:=hb;obtain⟨cb,sb⟩:=hu';refine⟨kd,t,jj,lo,hi,bb,o,Au,nu,cu,vv,fd,si,un,base,Ar,np,cr,Al,nl,cl,rfl,fun ga gm n rt kv W k hA hH h1 h2 hR hM=>?_⟩;have hac:=fun(V:kE)(g:kD W.heap.size W V)=>IS ga gm n rt kv ca sa cb sb kd t jj lo hi bb o vv si fd un base Au Ar Al nu cu np cr nl cl true V (hA.ext g) h1 h2 (fun X g'=>HC3 X (AA k (AA g g')) (hR.below (AA g g')));refine⟨hac W (AF W),?_⟩;exact hat ga kd t jj lo hi bb o vv si fd un base Au Ar Al nu cu np cr nl cl true W hac
theorem Va(v:kL)(W:kE)(hv:Bt W v 1 Ls)(hR:AJ W) :
  kI kG 9 #[v,U I (base:Int),U I (un:Int),kF #[U I kd,U I t,U I (j:Int),U I lo,U I hi,U I (b:Int),U I o]] W fun e w'=>∃(k0 k1 k2 k3 k4 k5 k6:Int) (Au:Option Addr) (nu cu:Nat) (vv:Int) (fd:Bool) (si uu ba:Int) (Ar:Option Addr) (np cr:Nat) (Al:Option Addr) (nl cl:Nat) (ok:Bool),e=kH (.tuple #[kF #[U I k0,U I k1,U I k2,U I k3,U I k4,U I k5,U I k6,J Au nu cu,U I vv,R fd,U I si,U I uu,U I ba,J Ar np cr,J Al nl cl],R ok]) /\
   (∀(ga gm:Nat) (n:Int) (rt:ByteArray) (kv:List (Int × kL)) (V:kE),kD w'.heap.size w' V->Dn V ga gm n rt kv->FE Ls kv->B6 kv (base:Int)=some (Ck base (BC Ls base))->B6 kv (un:Int)=some (Ck un (BC Ls un))->AJ V->C3 V ->
    (kI kG 13 #[kK (some ⟨ga,0,none⟩),kF #[U I k0,U I k1,U I k2,U I k3,U I k4,U I k5,U I k6,J Au nu cu,U I vv,R fd,U I si,U I uu,U I ba,J Ar np cr,J Al nl cl]] V fun e w'=>e=kH (R ok)/\kD V.heap.size V w') /\
    ∀ p:Int,kI kG 14 #[kK (some ⟨ga,0,none⟩),kF #[U I k0,U I k1,U I k2,U I k3,U I k4,U I k5,U I k6,J Au nu cu,U I vv,R fd,U I si,U I uu,U I ba,J Ar np cr,J Al nl cl],U I p] V fun e w'=>e=kH (R (ok && decide (si<=p) && decide (p<=uu)))/\kD V.heap.size V w')/\kD W.heap.size W w':=by
 refine(Qb Ls hL16 hG hC base un hbu hun kd t lo hi o j b hq (fun L hL=>⟨(hG.at_cut hL).1.few,fun c hc=>⟨(hG.at_cut hL).1.ok c hc,Ht (hG.at_cut hL).2 c hc⟩⟩) v W hv hR).mono ?_;rintro e w' ⟨xs,ok,rfl,h,hb⟩;obtain⟨k0,k1,k2,k3,k4,k5,k6,Au,nu,cu,vv,fd,si,uu,ba,Ar,np,cr,Al,nl,cl,rfl,h2⟩:=Wv Ls hL16 hG hC base un hbu hun kd t lo hi o j b hq _ w' xs ok h;exact⟨k0,k1,k2,k3,k4,k5,k6,Au,nu,cu,vv,fd,si,_,_,Ar,np,cr,Al,nl,cl,ok,rfl,h2,hb⟩
end
end
section
open Go.RowKit Go.Shelf
attribute [local go_sem ↓] Go.wp_at_zero Go.wp_at_succ
theorem Vb(ga gm:Nat)(r:ByteArray)(p:Nat)(c s:ByteArray)(v:kL)(w:kE)(h:Dn w ga gm (-1) r []) :
  kI kG 16 #[kK (some ⟨ga,0,none⟩),kF #[U I (p:Int),kC c,kC s],v] w fun e w'=>e=kH (U I 290)/\kD w.heap.size w w':=by
 have hA1:=h.ext (AC w (kJ #[U I (p:Int),kC c,kC s] 52));have hlk:=fun o=>B7 (P:=kG) (w:=((w.alloc (kJ #[U I (p:Int),kC c,kC s] 52)).alloc o).drew) Tryz.underlying90 Tryz.underlying3 ((hA1.2.ext (AC _ o)).ext (AF _).drew) (p:Int) (Dl _);have hlk2:=B7 (P:=kG) (w:=(w.alloc (kJ #[U I (p:Int),kC c,kC s] 52)).drew) Tryz.underlying90 Tryz.underlying3 (hA1.2.ext (AF _).drew) (p:Int) (Dl _);simp only[B6,Option.getD_none,Option.isSome_none]at hlk hlk2;have a0:w.cell? ⟨ga,0,none⟩=some (U I (-1)):=h.1.cell 0;have a1:w.cell? ⟨ga,1,none⟩=some (kC r):=h.1.cell 1;have a2:w.cell? ⟨ga,2,none⟩=some (.map (some gm)):=h.1.cell 2;have al:=h.1.lt;have al1:ga<w.heap.size+1:=by omega
 clear h hA1;go_enter Tryz.func16,Tryz.ntmps16;go_wp2;go_region
 all_goals
  go_wp2_with (go_at_call 32;refine(QO r _).mono ?_;rintro e W1 ⟨rfl,hb1⟩;have HE1:=Wz (AA ((AB (AC w _) _).drew) hb1);clear hb1)
  go_ret;exact⟨rfl,HE1.out⟩
theorem Pr(old root:ByteArray)(A:Option Addr)(n c:Nat)(w:kE) :
  kI kG 65 #[kC old,U I 2,kC root,U I 1,J A n c] w fun e w'=>e=kH (R false)/\w=w':=by
 go_enter Tryz.func65,Tryz.ntmps65;go_wp2;go_ret;exact⟨rfl,rfl⟩
def Cs:AH:=⟨0,5,false,0,0,0,true,10,20,30⟩
theorem LX:Dw Cs:=⟨by unfold AH.ok Cs;simp,by unfold AH.small Cs;simp,by unfold Jg Cs;simp⟩
theorem Et:FA [[Cs]]:=⟨fun i l hi=>by
 rcases i with _|i
 ·obtain rfl:[Cs]=l:=by simpa using hi
  refine⟨⟨by simp,fun x hx=>by obtain rfl:=List.mem_singleton.1 hx;exact LX.ok,fun j a b _ hb=>by simp at hb⟩,rfl,fun c hc=>by obtain rfl:=List.mem_singleton.1 hc;rfl,by simp[stF]⟩
 simp at hi⟩
theorem Eu:∀ l ∈ [[Cs]],∀ c ∈ l,Dw c:=fun l hl c hc=>by
 obtain rfl:=List.mem_singleton.1 hl;obtain rfl:=List.mem_singleton.1 hc;exact LX
theorem lawQ:BU.Ok ⟨1,0,((0:Nat):Int),5,5,((0:Nat):Int),0⟩:=⟨⟨by simp,by simp⟩,⟨by simp,by simp⟩,by simp,by simp,by simp,.row _ 5 (by omega) (by omega)⟩
theorem Ps:OB [[Cs]] 1 1 1 0 5 5 0 0 0=some ⟨[⟨0,5,10,20,30⟩],0,false⟩:=by
 show some (It 1 0 0 (C6 (stF [[Cs]]) 0 0 5 5) _)=_;have h:A0 (stF [[Cs]]):=(Et.rows Eu 1).2.1;rw[TR h];rfl
theorem lawP:(CC (stF [[Cs]]) 1 0 5 5 0 0 0).length=1:=rfl
set_option maxHeartbeats 12000000 in
theorem saneU(w:kE)(hR:AJ w):kI kG 6 #[] w fun e w'=>e=kH (R true)/\kD w.heap.size w w':=by
 obtain⟨X,hX⟩:∃ X,X=(w.alloc (kJ #[U I 0,U I 5,R false,U I 0,U I 0,U I 0,R true,U I 10,U I 20,U I 30] 72)).alloc (kJ #[U I 1,J (some ⟨w.heap.size,0,none⟩) 1 1] 75):=⟨_,rfl⟩;have HE0:=Wz (show kD w.heap.size w X by rw[hX];exact AB (AC _ _) _);have HV0:=Wz (show Bt X (J (some ⟨w.heap.size+1,0,none⟩) 1 1) 1 [[Cs]]from by
  have h1:Blk X w.heap.size 72 #[U I 0,U I 5,R false,U I 0,U I 0,U I 0,R true,U I 10,U I 20,U I 30]:=by rw[hX];exact(Blk.new _ _ _).alloc _
  have h2:Blk X (w.heap.size+1) 75 #[U I 1,J (some ⟨w.heap.size,0,none⟩) 1 1]:=by rw[hX];exact Blk.new' _ _ _ (by simp)
  refine⟨_,1,rfl,Nat.le_refl _,fun _=>⟨_,rfl,fun j l hj=>?_⟩⟩;rcases j with _|j
  ·obtain rfl:[Cs]=l:=by simpa using hj
   refine⟨h2.cell 0,_,h2.cell 1,⟨_,1,rfl,Nat.le_refl _,fun _=>⟨_,0,rfl,fun i x hx q hq=>?_⟩⟩⟩;rcases i with _|i
   ·obtain rfl:Cs=x:=by simpa using hx
    simp only[Nat.zero_mul,Nat.zero_add];rw[h1.cell q];rfl
   simp at hx
  simp at hj)
 have HR:=Wz (hR.below HE0.out);have HX:=Wz hX;clear hX hR;have HCK:=Wz (fun(u rv lv:kL)(W:kE)(ha:IQ W [⟨0,5,10,20,30⟩] (CC (stF [[Cs]]) 1 0 5 5 0 0 0) 1 [] u rv lv)(hRW:AJ W)=>show kI kG 31 #[kF #[U I 1,kC (BC [[Cs]] 1).1,kC (BC [[Cs]] 1).2],kF #[U I 1,kC (BC [[Cs]] 1).1,kC (BC [[Cs]] 1).2],kF #[U I 1,U I 0,U I 0,U I 5,U I 5,U I 0,U I 0,u,U I 0,R false,U I 1,U I 1,U I 1,rv,lv]] W fun e w'=>e=kH (R true)/\kD W.heap.size W w' from UC [[Cs]] (by simp) Et Eu 1 1 (by omega) (by simp) 1 0 5 5 0 0 0 lawQ _ Ps u rv lv W ha hRW);have HAQ:=Wz (show kI kG 9 #[J (some ⟨w.heap.size+1,0,none⟩) 1 1,U I 1,U I 1,kF #[U I 1,U I 0,U I 0,U I 5,U I 5,U I 0,U I 0]] X fun e w'=>∃ u rv lv,e=kH (.tuple #[kF #[U I 1,U I 0,U I 0,U I 5,U I 5,U I 0,U I 0,u,U I 0,R false,U I 1,U I 1,U I 1,rv,lv],R true])/\IQ w' [⟨0,5,10,20,30⟩] (CC (stF [[Cs]]) 1 0 5 5 0 0 0) 1 [] u rv lv/\kD X.heap.size X w' from by
  refine(Qb [[Cs]] (by simp) Et Eu 1 1 (by omega) (by simp) 1 0 5 5 0 0 0 lawQ (fun L hL=>absurd hL (by simp)) _ X HV0.out HR.out).mono ?_;rintro e w' ⟨xs,ok,rfl,h,hb⟩;rcases h with⟨_,h,_⟩|⟨rfl,r,h,u,rv,lv,rfl,h3,h4,h5,h6⟩
  ·cases Ps.symm.trans h
  obtain rfl:=Option.some.inj (Ps.symm.trans h);exact⟨u,rv,lv,rfl,⟨h3.rowsL,h4,h5,h6⟩,hb⟩)
 go_enter Tryz.func6,Tryz.ntmps6;go_wp2_with fail
 rw[<- HX.out];refine HAQ.out.mono ?_;rintro e W1 ⟨u,rv,lv,rfl,han,hb1⟩;have HAN1:=Wz han;have hrw:=han.rows;obtain⟨gr,kr,e1,-,hcr⟩:=hrw.at_ (j:=0) (r:=⟨0,5,10,20,30⟩) rfl;obtain⟨-,-,Ar,cr,Al,cl,-,e2,e3⟩:=han.shape;rw[lawP]at e2;change lv=J Al 0 cl at e3;have HCR:=Wz (show ∀ i,i<5->W1.cell? ⟨gr,i,none⟩=(AY ⟨0,5,10,20,30⟩)[i]? from fun i hi=>by have:=hcr i hi;rwa [Nat.zero_mul,Nat.zero_add]at this);subst e1 e2 e3;have hY:kD X.heap.size X (W1.alloc (kJ #[U I 1,U I 0,U I 0,U I 5,U I 5,U I 0,U I 0,J (some ⟨gr,0,none⟩) 1 kr,U I 0,R false,U I 1,U I 1,U I 1,J Ar 1 cr,J Al 0 cl] 39)):=AB hb1 _;have HVy:=Wz (HV0.out.ext hY);have HNy:=Wz (HAN1.out.ext (AC W1 (kJ #[U I 1,U I 0,U I 0,U I 5,U I 5,U I 0,U I 0,J (some ⟨gr,0,none⟩) 1 kr,U I 0,R false,U I 1,U I 1,U I 1,J Ar 1 cr,J Al 0 cl] 39)));have HCy:=Wz (show ∀ i,i<5->(W1.alloc (kJ #[U I 1,U I 0,U I 0,U I 5,U I 5,U I 0,U I 0,J (some ⟨gr,0,none⟩) 1 kr,U I 0,R false,U I 1,U I 1,U I 1,J Ar 1 cr,J Al 0 cl] 39)).cell? ⟨gr,i,none⟩=(AY ⟨0,5,10,20,30⟩)[i]? from fun i hi=>by
  have h1:=HCR.out i hi;rw[List.getElem?_eq_getElem (show i<(AY ⟨0,5,10,20,30⟩).length from hi)]at h1 ⊢;exact AG h1 (AC _ _))
 have HBy:=Wz (Blk.new W1 39 #[U I 1,U I 0,U I 0,U I 5,U I 5,U I 0,U I 0,J (some ⟨gr,0,none⟩) 1 kr,U I 0,R false,U I 1,U I 1,U I 1,J Ar 1 cr,J Al 0 cl]);have HRy:=Wz (HR.out.below hY);have HEy:=Wz (AA HE0.out hY);clear hb1 hY HAN1 HR HE0 HV0 HX hrw hcr HCR han;go_wp2_with fail
 generalize World.alloc W1 (kJ #[U I 1,U I 0,U I 0,U I 5,U I 5,U I 0,U I 0,J (some ⟨gr,0,none⟩) 1 kr,U I 0,R false,U I 1,U I 1,U I 1,J Ar 1 cr,J Al 0 cl] 39)=Y at *;generalize W1.heap.size=ba at *;have HCK:=Wz (fun(W:kE)(h:kD Y.heap.size Y W)=>show kI kG 31 #[kF #[U I 1,kC (BC [[Cs]] 1).1,kC (BC [[Cs]] 1).2],kF #[U I 1,kC (BC [[Cs]] 1).1,kC (BC [[Cs]] 1).2],kF #[U I 1,U I 0,U I 0,U I 5,U I 5,U I 0,U I 0,J (some ⟨gr,0,none⟩) 1 kr,U I 0,R false,U I 1,U I 1,U I 1,J Ar 1 cr,J Al 0 cl]] W fun e w'=>e=kH (R true)/\kD W.heap.size W w' from HCK.out _ _ _ W (HNy.out.ext h) (HRy.out.below h));have HXC:=Wz (fun(W:kE)(h:kD Y.heap.size Y W)=>show ∀ i,i<5->W.cell? ⟨gr,i,none⟩=(AY ⟨0,5,10,20,30⟩)[i]? from fun i hi=>by
  have h1:=HCy.out i hi;rw[List.getElem?_eq_getElem (show i<(AY ⟨0,5,10,20,30⟩).length from hi)]at h1 ⊢;exact AG h1 h)
 clear HNy HCy;refine(QN Y).mono ?_;rintro e W2 ⟨rfl,ha2,hb2⟩;have E2:=Wz hb2;have A2:=Wz ha2;clear ha2 hb2;go_wp2_with fail
 refine(MJ [[Cs]] _ 1 (by simp) (by simp) Et Eu W2 (HVy.out.ext E2.out) (HRy.out.below E2.out)).mono ?_;rintro e W3 ⟨gl,rfl,hl3,hb3⟩;have E3:=Wz (AA E2.out hb3);have A3:=Wz (A2.out.ext hb3);have L3:=Wz hl3;clear hb3 hl3 A2;go_wp2_with fail
 refine(Vp 1 (Nat.le_refl _) L3.out).mono ?_;rintro e W4 ⟨rfl,hb4⟩;obtain⟨hd,hhd⟩:∃ hd,hd=BC [[Cs]] 1:=⟨_,rfl⟩;have HHD:=Wz hhd;rw[<- hhd]at HCK ⊢;clear hhd;obtain⟨hc1,hs1⟩:=hd;dsimp only at HCK ⊢;have E4:=Wz (AB (AA E3.out hb4) (kJ #[U I 1,kC hc1,kC hs1] 52));have A4:=Wz ((A3.out.ext hb4).ext (AC W4 (kJ #[U I 1,kC hc1,kC hs1] 52)));have L4:=Wz ((L3.out.ext hb4).ext (AC W4 (kJ #[U I 1,kC hc1,kC hs1] 52)));clear hb4 A3 L3;go_wp2_with fail
 refine(Tg 1 (Nat.le_refl _) (by omega) L4.out (HRy.out.below E4.out)).mono ?_;rintro e W5 ⟨A5,c5,rfl,_,hb5⟩;generalize (((CW (1+1) (AP 0 (An [[Cs]] 1)) 1).map (·.1)).reverse).length=n5 at *;have E5:=Wz (AA E4.out hb5);have A5':=Wz (A4.out.ext hb5);obtain⟨h0,h1,h2⟩:=TX ((Blk.new W4 52 #[U I 1,kC hc1,kC hs1]).ext hb5);clear hb5 A4 L4;go_wp2_with fail
 refine(Vb _ _ _ 1 hc1 hs1 (J A5 n5 c5) W5 A5'.out).mono ?_;rintro e W6 ⟨rfl,hb6⟩;have E6:=Wz (AA E5.out hb6);have A6:=Wz (A5'.out.ext hb6);clear hb6 A5' h0 h1 h2;obtain⟨a0,a1,a2,a3,a4,a5,a6,a7,a8,a9,a10,a11,a12,a13,a14⟩:=CR (HBy.out.ext E6.out);go_wp2_with (go_at_call 12;refine(J0 _ _ _ _ _ _ A6.out).mono ?_;rintro e w' ⟨rfl,rfl⟩)
 refine(KG _ _ _ _ [] 1 0 0 5 5 0 0 0 1 false 1 1 (some ⟨gr,0,none⟩) Ar Al 1 kr 1 cr 0 cl W6 A6.out rfl rfl (fun W h=>LV 1 0 0 5 5 0 0 0 1 false 1 1 (some ⟨gr,0,none⟩) Ar Al 1 kr 1 cr 0 cl W)).mono ?_;rintro e W7 ⟨rfl,hb7⟩;have E7:=Wz (AB (AA E6.out hb7) (kJ #[U I 1] 3));have hc7:=(Blk.new W7 3 #[U I 1]).cell 0;clear hb7 A6 a0 a1 a2 a3 a4 a5 a6 a7 a8 a9 a10 a11 a12 a13 a14;go_wp2_with fail
 refine(LK [[Cs]] _ 0 1 rfl (by omega) (by omega) Et Eu [1] (by simp) (by simp) W7.heap.size 1 _ (HVy.out.ext E7.out) (fun j p hj=>by
  rcases j with _|j
  ·obtain rfl:1=p:=by simpa using hj
   exact hc7
  simp at hj) (HRy.out.below E7.out)).mono ?_
 rintro e W9 ⟨ga,gm,kv,rfl,ha9,hk9,hp9,-,-,hb9⟩;have HKV:=Wz (show B6 kv ((1:Nat):Int)=some (Ck 1 (hc1,hs1))by rw[hp9 1 (by simp),<- HHD.out]);have E9:=Wz (AA E7.out hb9);have A9:=Wz ha9;clear hb9 ha9 hc7 hk9 hp9;generalize BB (An [[Cs]] 1)=rt at *;have HAC:=Wz (fun(W:kE)(h:kD W9.heap.size W9 W)=>IS ga gm ((1:Nat):Int) rt kv hc1 hs1 hc1 hs1 1 0 0 5 5 0 0 0 1 false 1 1 (some ⟨gr,0,none⟩) Ar Al 1 kr 1 cr 0 cl true W (A9.out.ext h) HKV.out HKV.out (fun V g=>HCK.out V (AA (AA E9.out h) g)));have HAA:=Wz (fun(W:kE)(h:kD W9.heap.size W9 W)=>UA ga 1 0 0 5 5 0 0 0 1 false 1 1 (some ⟨gr,0,none⟩) Ar Al 1 kr 1 cr 0 cl 1 true (by omega) (by omega) W (fun V g=>HAC.out V (AA h g)));have HSE:=Wz (fun(W:kE)(h:kD W9.heap.size W9 W)=>UB ga 0 5 1 1 1 Ar Al kr 1 cr 0 cl ⟨0,5,10,20,30⟩ gr 1 7 2 (by omega) (by omega) (by decide) W (HXC.out W (AA E9.out h)) (fun V g=>HAA.out V (AA h g)));dsimp only[AD.col]at HSE;obtain⟨a0,a1,a2,a3,a4,a5,a6,a7,a8,a9,a10,a11,a12,a13,a14⟩:=CR (HBy.out.ext E9.out);go_wp2_with fail
 refine(HSE.out _ (AF _)).mono ?_;rintro e W10 ⟨rfl,hb10⟩;have E10:=Wz (AA E9.out hb10);have D10:=Wz hb10;have A10:=Wz (A9.out.ext hb10);clear hb10 a0 a1 a2 a3 a4 a5 a6 a7 a8 a9 a10 a11 a12 a13 a14;go_wp2_with fail
 refine(MJ [[Cs]] _ 0 (by simp) (by simp) Et Eu W10 (HVy.out.ext E10.out) (HRy.out.below E10.out)).mono ?_;rintro e W11 ⟨g11,rfl,hl11,hb11⟩;have E11:=Wz (AA E10.out hb11);have D11:=Wz (AA D10.out hb11);have A11:=Wz (A10.out.ext hb11);have L11:=Wz hl11;clear hb11 hl11 A10;go_wp2_with fail
 refine(Th (by omega) L11.out (HRy.out.below E11.out)).mono ?_;rintro e W12 ⟨rfl,hb12⟩;have E12:=Wz (AA E11.out hb12);have D12:=Wz (AA D11.out hb12);have A12:=Wz (A11.out.ext hb12);clear hb12 A11 L11;go_wp2_with fail
 refine(Tc ga gm kv rt (BB (An [[Cs]] 0)) 0 1 (by omega) none 0 0 W12 A12.out (BJ _) (by omega) (by omega) (fun W h=>(Pr rt _ none 0 0 W).mono (fun e w' ⟨q1,q2⟩=>⟨q1,q2 ▸ AF _⟩))).mono ?_;rintro e W13 ⟨rfl,hb13⟩;have E13:=Wz (AA E12.out hb13);have D13:=Wz (AA D12.out hb13);have A13:=Wz (A12.out.ext hb13);clear hb13 A12;obtain⟨a0,a1,a2,a3,a4,a5,a6,a7,a8,a9,a10,a11,a12,a13,a14⟩:=CR (HBy.out.ext E13.out);go_wp2_with (go_at_call 12;refine(J0 _ _ _ _ _ _ A13.out).mono ?_;rintro e w' ⟨rfl,rfl⟩)
 refine(HAC.out _ D13.out).mono ?_;rintro e W14 ⟨rfl,hb14⟩;have E14:=Wz (AA E13.out hb14);have D14:=Wz (AA D13.out hb14);clear hb14 A13 a0 a1 a2 a3 a4 a5 a6 a7 a8 a9 a10 a11 a12 a13 a14;obtain⟨a0,a1,a2,a3,a4,a5,a6,a7,a8,a9,a10,a11,a12,a13,a14⟩:=CR (HBy.out.ext E14.out);go_wp2_with fail
 refine(HAA.out _ D14.out).mono ?_;rintro e W15 ⟨rfl,hb15⟩;have E15:=Wz (AA E14.out hb15);clear hb15 a0 a1 a2 a3 a4 a5 a6 a7 a8 a9 a10 a11 a12 a13 a14;obtain⟨a0,a1,a2,a3,a4,a5,a6,a7,a8,a9,a10,a11,a12,a13,a14⟩:=CR (HBy.out.ext E15.out);go_wp2_with fail
 refine(LW _ 1 0 0 5 5 0 0 0 1 false 1 1 (some ⟨gr,0,none⟩) Ar Al 1 kr 1 cr 0 cl 0 (by omega) W15).mono ?_;rintro e W16 ⟨rfl,hb16⟩;have E16:=Wz (AA E15.out hb16);clear hb16 a0 a1 a2 a3 a4 a5 a6 a7 a8 a9 a10 a11 a12 a13 a14;go_wp2;go_ret;exact⟨rfl,AA HEy.out E16.out⟩
end
end Go.Proofs.YtimoapjhepmehaaGreatDoor
