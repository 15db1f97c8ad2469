/- Part 29: contracts that the last part uses. -/
import Derived.Test.YtimoapjhepmehaaGreatDoorJ26
import Derived.Laws.MakeOwn
import Derived.Deep.RegionHeld3
set_option linter.unusedSimpArgs false
set_option linter.unusedVariables false
set_option maxHeartbeats 4000000
set_option maxRecDepth 100000
namespace Go.Proofs.YtimoapjhepmehaaGreatDoor
open Go.IntKind renaming i64->U
open Go.Value renaming int->R,slice->cZ,bool->dA,agg->dF
open Go.RowKit renaming Below->dB
open Go.World renaming setCell->dC
open Go.Obj renaming cells->dD
open Go renaming World->dE,Calls->dI,Value->dJ
open Tryz renaming prog->dG
open Go.Ending renaming returned->dH
section
open Go.RowKit Go.Shelf
theorem LL:(Tryz.prog.info? 3).map (fun i=>(i.zero,i.size,i.bytes))=some (some (R U 0),1,8):=by kernel_rfl
theorem U9(W:dE)(base:Nat)(hb:base<=W.heap.size)(v:dJ)(n:Nat)(xs:List dJ)(hown:W.ownsRow base 3 1 v n xs)(hn:n<=1000000)(x:Int) :
  CU dG (W.alloc (dD #[R U x] 3)) 46 46 v (cZ (some ⟨W.heap.size,0,none⟩) 1 1)/\∃ W',appW dG (W.alloc (dD #[R U x] 3)) 46 46 v (cZ (some ⟨W.heap.size,0,none⟩) 1 1)=W' /\
   ∃ v',CV dG (W.alloc (dD #[R U x] 3)) 46 46 v (cZ (some ⟨W.heap.size,0,none⟩) 1 1)=v'/\W'.ownsRow base 3 1 v' (n+1) (xs++[R U x])/\(W.alloc (dD #[R U x] 3)).grownBy W' v.ownBlock:=by
 obtain⟨is,his,hzs0,hzs1,hzs2⟩:=info_parts LL;obtain⟨h1,h2,h3⟩:=Du (P:=dG) (w:=W.alloc (dD #[R U x] 3)) base 46 46 3 is (R U 0) 1 8 Tryz.underlying46 his hzs0 hzs1 hzs2 rfl (by decide) v n xs (hown.alloc _) ⟨W.heap.size,0,none⟩ 1 1 [R U x] rfl (cell_one_new _ _ _) (by simp[Value.oneCell']) (by unfold maxLen;omega) (by omega) (by simp;omega);exact⟨h1,_,rfl,_,rfl,h2,h3⟩
theorem Rp{W:dE}{base n:Nat}{v:dJ}{xs:List Int}(h:W.ownsRow base 3 1 v n (xs.map (Value.int .i64)))(hn:xs.length=n):Jz W v xs:=by
 subst hn;by_cases h0:0<xs.length
 ·obtain⟨g,cap,cur,rfl,hg,hb⟩:=Ex h h0;refine⟨_,cap,rfl,fun _=>⟨g,rfl,fun j x hx=>?_⟩⟩;have h1:=h.cells (g:=g) rfl j (R U x) (by rw[List.getElem?_map,hx];rfl)
  rwa [Bb]at h1
 obtain⟨A,c,rfl⟩:=AI h;exact⟨A,c,rfl,fun h=>absurd h h0⟩
section
attribute [local go_sem ↓] AQ AU Go.wp_at_zero Go.wp_at_succ
theorem Er(k0 t j lo hi o:Int)(b:Nat)(hb:b<4)(l:List AD)(hl:l.length<=1000)(v:dJ)(w:dE)(hv:AR w v l) :
  dI dG 147 #[dF #[R U k0,R U t,R U j,R U lo,R U hi,R U (b:Int),R U o],v] w fun e w'=>∃ A c,e=dH (cZ A l.length c)/\Jz w' (cZ A l.length c) (l.map (·.col b))/\dB w.heap.size w w':=by
 have HV:=Wz hv;obtain⟨A,c,rfl,-⟩:=hv;obtain⟨W0,hW0⟩:∃ W0,W0=w.alloc (dD #[R U k0,R U t,R U j,R U lo,R U hi,R U (b:Int),R U o] 33):=⟨_,rfl⟩;have HE0:=Wz (show dB w.heap.size w W0 by rw[hW0];exact AC _ _);have HQ0:=Wz (show Blk W0 w.heap.size 33 #[R U k0,R U t,R U j,R U lo,R U hi,R U (b:Int),R U o]by rw[hW0];exact Blk.new _ _ _);obtain⟨is,his,hzs0,hzs1,hzs2⟩:=info_parts LL;obtain⟨W1,hmk,hown,hgr⟩:=run_make_own (P:=dG) (w:=W0) W0.heap.size 46 3 is (R U 0) 1 Tryz.underlying46 his hzs0 hzs1 .i64 .i64 l.length (by rw[hzs2];omega) (by unfold maxLen;omega) (Nat.le_refl _);have HO1:=Wz hown;have HE1:=Wz (show dB W0.heap.size W0 W1 from(AF W0).grown hgr (AF W0).size (fun k e=>by cases e));have HW0:=Wz hW0;clear hown hgr his hzs0 hzs1 hzs2 hW0;go_enter Tryz.func147,Tryz.ntmps147;go_upto_region 1 with(fail)
 rw[<- HW0.out];go_wp2;go_loopw [5,7,13] (fun ov _ iv W=>∃ k:Nat,k<=l.length/\iv=R U (k:Int)/\W.ownsRow W0.heap.size 3 1 ov k (((l.take k).map (·.col b)).map (Value.int .i64))/\dB W0.heap.size W0 W) (fun _ _ iv _=>l.length-(intOf iv).toNat)
 case atStart=>exact⟨0,Nat.zero_le _,rfl,HO1.out,HE1.out⟩
 case round=>
  obtain⟨k,hk,rfl,hO,hE⟩:=hrel;have HO:=Wz hO;have HE:=Wz hE;have hws:=hE.size;clear hO hE;have e2:IntKind.i64.wrap ((k:Int)+1)=(k:Int)+1:=IntWalk.i64_in _ (by omega);by_cases hlt:k<l.length
  ·obtain⟨x,hx⟩:∃ x,l[k]? = some x:=⟨_,List.getElem?_eq_getElem hlt⟩;have HTK:=Wz (show((l.take (k+1)).map (·.col b)).map (Value.int .i64)=((l.take k).map (·.col b)).map (Value.int .i64)++[R U (x.col b)]by rw[List.take_add_one,hx];simp);obtain⟨gr,d',hA,hg,r0,r1,r2,r3,r4⟩:=(HV.out.ext (AA HE0.out HE.out)).c5 hx;injection hA with hA hn' hd'
   subst hA;subst hd';have HVA:=Wz (fun W:dE=>BL x b hb W);obtain⟨m,hm⟩:∃ m,m=x.col b:=⟨_,rfl⟩;rw[<- hm]at HVA HTK;obtain⟨y0,y1,y2,y3,y4⟩:=x;dsimp only[AD.arr,AD.val]at *;have x0:(0:Int)<=(k:Int):=by omega
   have x1:(k:Int)<(l.length:Int):=by omega
   have d1:decide ((k:Int)<(l.length:Int))=true:=decide_eq_true x1;have q5:=(HQ0.out.ext HE.out).cell 5;have ql:=(HQ0.out.ext HE.out).lt;have ql1:w.heap.size<wr.heap.size+1:=by omega
   clear hx hm hg hn';go_wp2_with fail
   refine(HVA.out _).mono ?_;rintro e W2 ⟨rfl,hb2⟩;have HE2:=Wz (AA (AB HE.out (dD #[R U y0,R U y1,R U y2,R U y3,R U y4] 67)) hb2);have HO2:=Wz (AK (HO.out.alloc (dD #[R U y0,R U y1,R U y2,R U y3,R U y4] 67)) hb2);have hz2:=HE2.out.size;clear hb2 r0 r1 r2 r3 r4 q5;obtain⟨ha,W4,hW4,v4,hv4,ho4,hg4⟩:=U9 W2 W0.heap.size hz2 u5 k _ HO2.out (by omega) m;have HO4:=Wz ho4;have HE4:=Wz ((AB HE2.out (dD #[R U m] 3)).grown hg4 (AB HE2.out _).size (fun k e=>(HO2.out.lt k e).1));clear ho4 hg4;go_wp2;go_roundw
   case rel=>exact⟨k+1,by omega,by go_num,by rw[HTK.out];exact HO4.out,HE4.out⟩
   simp[intOf];omega
  have hkl:k=l.length:=by omega
  have d1:decide ((k:Int)<(l.length:Int))=false:=decide_eq_false (by omega);subst hkl;obtain⟨Ao,co,hov⟩:=AI HO.out;have HOO:=Wz HO.out;subst hov;rw[List.take_length]at HOO;go_wp2;go_ret;exact⟨_,_,rfl,Rp HOO.out (by simp),AA HE0.out HE.out⟩
end
section
attribute [local go_sem ↓] Go.wp_at_zero Go.wp_at_succ
theorem Rq(s:Int)(f:Bool)(y0 y1 y2 y3 y4:Int)(w:dE)(h:IntKind.i64.wrap (s+1)=s+1):dI dG 145 #[dF #[cZ none 0 0,R U s,dA f],dF #[R U y0,R U y1,R U y2,R U y3,R U y4]] w fun e w'=>e=dH (dF #[cZ none 0 0,R U (s+1),dA f])/\dB w.heap.size w w':=by
 have HY:=Wz (Blk.new' ((w.alloc (dD #[cZ none 0 0,R U (s+1),dA f] 36)).alloc (dD #[R U y0,R U y1,R U y2,R U y3,R U y4] 67)) 36 #[cZ none 0 0,R U (s+1),dA f] (b:=w.heap.size+1+1) (by simp));go_enter Tryz.func145,Tryz.ntmps145;go_wp2;have z0:=HY.out.cell 0;have z1:=HY.out.cell 1;have z2:=HY.out.cell 2;refine bodyPost_ret (v:=dF #[cZ none 0 0,R U (s+1),dA f]) (by simp[results,Tryz.results145,go_sem,z0,z1,z2]) rfl ⟨rfl,AB (AB (AC _ _) _) _⟩
theorem VA(s n:Int)(f:Bool)(w:dE)(h:IntKind.i64.wrap (s+n)=s+n):dI dG 148 #[dF #[cZ none 0 0,R U s,dA f],R U n] w fun e w'=>e=dH (dF #[cZ none 0 0,R U (s+n),dA f])/\dB w.heap.size w w':=by
 have HY:=Wz (Blk.new' (w.alloc (dD #[cZ none 0 0,R U (s+n),dA f] 36)) 36 #[cZ none 0 0,R U (s+n),dA f] (b:=w.heap.size+1) (by simp));go_enter Tryz.func148,Tryz.ntmps148;go_wp2;have z0:=HY.out.cell 0;have z1:=HY.out.cell 1;have z2:=HY.out.cell 2;refine bodyPost_ret (v:=dF #[cZ none 0 0,R U (s+n),dA f]) (by simp[results,Tryz.results148,go_sem,z0,z1,z2]) rfl ⟨rfl,AB (AC _ _) _⟩
end
end
section
open Go.RowKit Go.Shelf
attribute [local go_sem ↓] Go.wp_at_zero Go.wp_at_succ
theorem WY(a b:Int)(w:dE):dI dG 150 #[R U a,R U b] w fun e w'=>e=dH (dA (decide (a<b)))/\w=w':=by
 go_enter Tryz.func150,Tryz.ntmps150;go_wp2;go_ret;exact⟨rfl,rfl⟩
theorem WZ(a b:Int)(w:dE):dI dG 151 #[R U a,R U b] w fun e w'=>e=dH (dA (decide (b<a)))/\w=w':=by
 go_enter Tryz.func151,Tryz.ntmps151;go_wp2;go_ret;exact⟨by simp,rfl⟩
theorem J2(f:Nat)(w:dE):dI dG 149 #[.func (.func f) #[] #[]] w fun e w'=>e=dH (.func (.func 191) #[] #[.pointer (some ⟨w.heap.size,0,none⟩)])/\Blk w' w.heap.size 166 #[.func (.func f) #[] #[]]/\dB w.heap.size w w':=by
 have hmf:∀(fn:Fn) (first cap:Array dJ) (w:dE),(Instr.makeFunc fn first cap).run dG w=.ok (.func fn first cap) w:=fun _ _ _ _=>rfl;go_enter Tryz.func149,Tryz.ntmps149;go_wp2;go_ret;exact⟨rfl,Blk.new _ _ _,AC _ _⟩
def LM(lt:Int->Int->Bool)(s:Int × Bool)(n:Int):Int × Bool:=(if !s.2 || lt n s.1 then n else s.1,true)
theorem VB(fn:Nat)(lt:Int->Int->Bool)(en:∀ args w,(callFunc fn args).run dG w=.ok (.enter fn args) w)(hlt:∀(a b:Int) (W:dE),dI dG fn #[R U a,R U b] W fun e W'=>e=dH (dA (lt a b))/\W=W')
  (bx:Nat) (s:Int × Bool) (n:Int) (w:dE) (hb:Blk w bx 166 #[.func (.func fn) #[] #[]]) :
  dI dG 191 #[dF #[cZ none 0 0,R U s.1,dA s.2],R U n,.pointer (some ⟨bx,0,none⟩)] w fun e w'=>e=dH (dF #[cZ none 0 0,R U (LM lt s n).1,dA (LM lt s n).2])/\dB w.heap.size w w':=by
 obtain⟨s,f⟩:=s;have HX:=Wz (show LM lt (s,f) n=(if !f || lt n s then n else s,true)from rfl);generalize LM lt (s,f) n=r at *;obtain⟨r1,r2⟩:=r;dsimp only at *;have HLT:=Wz hlt;have c0:=(((hb.alloc (dD #[cZ none 0 0,R U s,dA f] 36)).alloc (dD #[cZ none 0 0,R U 0,dA false] 36))).cell 0;have bl:=hb.lt;have bl1:bx<w.heap.size+1:=by omega
 have HY:=Wz (fun u:Int=>((Blk.new w 36 #[cZ none 0 0,R U s,dA f]).alloc (dD #[cZ none 0 0,R U 0,dA false] 36)));have HB0:=Wz hb;have b0:=hb.cell 0;clear hlt hb c0
 cases f with
 | false=>
  obtain⟨rfl,rfl⟩:r1=n/\r2=true:=by have:=HX.out;simpa using this
  go_enter Tryz.func191,Tryz.ntmps191;go_wp2;have hY:=Blk.new' (w.alloc (dD #[cZ none 0 0,R U r1,dA true] 36)) 36 #[cZ none 0 0,R U r1,dA true] (b:=w.heap.size+1) (by simp);have z0:=hY.cell 0;have z1:=hY.cell 1;have z2:=hY.cell 2;refine bodyPost_ret (v:=dF #[cZ none 0 0,R U r1,dA true]) (by simp[results,Tryz.results191,go_sem,z0,z1,z2]) rfl ⟨rfl,AB (AC _ _) _⟩
 | true=>
  cases hl:lt n s with
  | true=>
   obtain⟨rfl,rfl⟩:r1=n/\r2=true:=by have:=HX.out;simpa[hl]using this
   have HL:=Wz hl;clear hl;go_enter Tryz.func191,Tryz.ntmps191;go_wp2_with fail
   refine(HLT.out _ s _).mono ?_;rintro e w' ⟨rfl,rfl⟩;rw[HL.out];go_wp2;have hY:=Blk.new' (w.alloc (dD #[cZ none 0 0,R U r1,dA true] 36)) 36 #[cZ none 0 0,R U r1,dA true] (b:=w.heap.size+1) (by simp);have z0:=hY.cell 0;have z1:=hY.cell 1;have z2:=hY.cell 2;refine bodyPost_ret (v:=dF #[cZ none 0 0,R U r1,dA true]) (by simp[results,Tryz.results191,go_sem,z0,z1,z2]) rfl ⟨rfl,AB (AC _ _) _⟩
  | false=>
   obtain⟨rfl,rfl⟩:r1=s/\r2=true:=by have:=HX.out;simpa[hl]using this
   have HL:=Wz hl;clear hl;go_enter Tryz.func191,Tryz.ntmps191;go_wp2_with fail
   refine(HLT.out n _ _).mono ?_;rintro e w' ⟨rfl,rfl⟩;rw[HL.out];go_wp2;have hY:=Blk.new' (w.alloc (dD #[cZ none 0 0,R U r1,dA true] 36)) 36 #[cZ none 0 0,R U r1,dA true] (b:=w.heap.size+1) (by simp);have z0:=hY.cell 0;have z1:=hY.cell 1;have z2:=hY.cell 2;refine bodyPost_ret (v:=dF #[cZ none 0 0,R U r1,dA true]) (by simp[results,Tryz.results191,go_sem,z0,z1,z2]) rfl ⟨rfl,AB (AC _ _) _⟩
end
section
open Go.RowKit Go.Shelf
attribute [local go_sem ↓] Go.wp_at_zero Go.wp_at_succ
def We:Nat->Int × Bool->Int × Bool:=fun _ s=>(s.1+1,s.2)
def PX(xs:List Int):Nat->Int × Bool->Int × Bool:=fun k s=>(s.1+xs.getD k 0,s.2)
def exG(lt:Int->Int->Bool)(xs:List Int):Nat->Int × Bool->Int × Bool:=fun k s=>LM lt s (xs.getD k 0)
def Ti(_:Nat)(rows:List AD):Int × Bool:=Bl We (0,false) rows.length
def Tj(b:Nat)(rows:List AD):Int × Bool:=Bl (PX (rows.map (·.col b))) (0,false) rows.length
def Tk(b:Nat)(rows:List AD):Int × Bool:=Bl (exG (fun a b=>decide (a<b)) (rows.map (·.col b))) (0,false) rows.length
def Tl(b:Nat)(rows:List AD):Int × Bool:=Bl (exG (fun a b=>decide (b<a)) (rows.map (·.col b))) (0,false) rows.length
theorem cntFn(rows:List AD)(hl:rows.length<=1000):IH (fun k s=>s.1=(k:Int)) (fun _=>True) 145 #[] (rows.map AD.val) We where
 enters:=enters_of Tryz.func145 (by kernel_rfl) rfl
 keeps:=fun _ _ _ _=>trivial
 step:=fun k s x W hx hJ _=>by
  have hk:=(List.getElem?_eq_some_iff.1 hx).1;rw[List.length_map]at hk;rw[List.getElem?_map,Option.map_eq_some_iff]at hx;obtain⟨r,_,rfl⟩:=hx;exact Rq s.1 s.2 r.t r.k r.a r.b r.c W (IntWalk.i64_in _ (by omega))
 next:=fun k s x hx hJ=>by
  show s.1+1=_;omega
theorem VC{r:AD}(h:r.ok)(b:Nat) : -1000000000<=r.col b/\r.col b<=1000000000:=by
 obtain⟨-,hk,ha,hb,hc⟩:=h;rcases b with _|_|_|_|b
 ·exact⟨by show _<=r.k;omega,by show r.k<=_;omega⟩
 ·exact ha
 ·exact hb
 ·exact hc
 exact⟨by show _<=(0:Int);omega,by show(0:Int)<=_;omega⟩
theorem sumFn(xs:List Int)(hl:xs.length<=1000)(hx:∀ x ∈ xs,-1000000000<=x/\x<=1000000000):IH (fun k s => -(1000000000*(k:Int))<=s.1/\s.1<=1000000000*(k:Int)) (fun _=>True) 148 #[] (xs.map (Value.int .i64)) (PX xs) where
 enters:=enters_of Tryz.func148 (by kernel_rfl) rfl
 keeps:=fun _ _ _ _=>trivial
 step:=fun k s x W hxk hJ _=>by
  have hk:=(List.getElem?_eq_some_iff.1 hxk).1;rw[List.length_map]at hk;rw[List.getElem?_map,Option.map_eq_some_iff]at hxk;obtain⟨n,hn,rfl⟩:=hxk;have h1:=hx n (List.mem_of_getElem? hn);have h2:PX xs k s=(s.1+n,s.2):=by unfold PX;rw[List.getD_eq_getElem?_getD,hn];rfl
  rw[h2];exact VA s.1 n s.2 W (IntWalk.i64_in _ (by omega))
 next:=fun k s x hxk hJ=>by
  rw[List.getElem?_map,Option.map_eq_some_iff]at hxk;obtain⟨n,hn,rfl⟩:=hxk;have h1:=hx n (List.mem_of_getElem? hn);have h2:PX xs k s=(s.1+n,s.2):=by unfold PX;rw[List.getD_eq_getElem?_getD,hn];rfl
  rw[h2];dsimp only;omega
theorem exFn(fn:Nat)(lt:Int->Int->Bool)(en:∀ args w,(callFunc fn args).run dG w=.ok (.enter fn args) w)(hlt:∀(a b:Int) (W:dE),dI dG fn #[R U a,R U b] W fun e W'=>e=dH (dA (lt a b))/\W=W')(bx:Nat)(xs:List Int) :
  IH (fun _ _=>True) (fun W=>Blk W bx 166 #[.func (.func fn) #[] #[]]) 191 #[.pointer (some ⟨bx,0,none⟩)] (xs.map (Value.int .i64)) (exG lt xs) where
 enters:=enters_of Tryz.func191 (by kernel_rfl) rfl
 keeps:=fun _ _ h k=>h.ext k
 step:=fun k s x W hxk _ hI=>by
  rw[List.getElem?_map,Option.map_eq_some_iff]at hxk;obtain⟨n,hn,rfl⟩:=hxk;have h2:exG lt xs k s=LM lt s n:=by unfold exG;rw[List.getD_eq_getElem?_getD,hn];rfl
  rw[h2];exact VB fn lt en hlt bx s n W hI
 next:=fun _ _ _ _ _=>trivial
theorem J3{J:Nat->Int × Bool->Prop}{I:dE->Prop}{fn:Nat}{caps:Array dJ}{g:Nat->Int × Bool->Int × Bool}(rows:List AD)(b:Nat)(hl:rows.length<=1000)(A:Option Addr)(c:Nat)(w:dE)(hv:Jz w (cZ A rows.length c) (rows.map (·.col b)))(hf:IH J I fn caps ((rows.map (·.col b)).map (Value.int .i64)) g)(hI:I w)(h0:J 0 (0,false)) :
  dI dG 146 #[cZ A rows.length c,dF #[cZ none 0 0,R U 0,dA false],.func (.func fn) #[] caps] w fun e w'=>e=dH (dF #[cZ none 0 0,R U (Bl g (0,false) rows.length).1,dA (Bl g (0,false) rows.length).2])/\dB w.heap.size w w':=by
 have h:=TW (rows.map (·.col b)) (by simpa using hl) _ w hv hf hI (0,false) h0;rw[List.length_map]at h;exact h.mono (fun e w' ⟨h1,_,h2⟩=>⟨h1,h2⟩)
theorem DR{X W V:dE}{B g n:Nat}{a0 a1 a2 a3 a4 a5 a6 b0 b1 b2:dJ}(hB:B=X.heap.size)(h:W.cell? ⟨g,0,none⟩=some a0/\W.cell? ⟨g,1,none⟩=some a1/\W.cell? ⟨g,2,none⟩=some a2/\W.cell? ⟨g,3,none⟩=some a3/\W.cell? ⟨g,4,none⟩=some a4/\W.cell? ⟨g,5,none⟩=some a5/\W.cell? ⟨g,6,none⟩=some a6/\W.cell? ⟨n,0,none⟩=some b0/\W.cell? ⟨n,1,none⟩=some b1/\W.cell? ⟨n,2,none⟩=some b2/\dB B X W)(k:dB W.heap.size W V):V.cell? ⟨g,0,none⟩=some a0/\V.cell? ⟨g,1,none⟩=some a1/\V.cell? ⟨g,2,none⟩=some a2/\V.cell? ⟨g,3,none⟩=some a3/\V.cell? ⟨g,4,none⟩=some a4/\V.cell? ⟨g,5,none⟩=some a5/\V.cell? ⟨g,6,none⟩=some a6/\V.cell? ⟨n,0,none⟩=some b0/\V.cell? ⟨n,1,none⟩=some b1/\V.cell? ⟨n,2,none⟩=some b2/\dB B X V:=by
 subst hB;obtain⟨q0,q1,q2,q3,q4,q5,q6,n0,n1,n2,hE⟩:=h;exact⟨AG q0 k,AG q1 k,AG q2 k,AG q3 k,AG q4 k,AG q5 k,AG q6 k,AG n0 k,AG n1 k,AG n2 k,AA hE k⟩
theorem MT{X W:dE}{B g n z:Nat}{a0 a1 a2 a3 a4 a5 a6 b0 b1 b2 u0 u1 u2:dJ}(hz:B<=z/\z≠g/\z≠n)(hB:B=X.heap.size)(h:W.cell? ⟨g,0,none⟩=some a0/\W.cell? ⟨g,1,none⟩=some a1/\W.cell? ⟨g,2,none⟩=some a2/\W.cell? ⟨g,3,none⟩=some a3/\W.cell? ⟨g,4,none⟩=some a4/\W.cell? ⟨g,5,none⟩=some a5/\W.cell? ⟨g,6,none⟩=some a6/\W.cell? ⟨n,0,none⟩=some b0/\W.cell? ⟨n,1,none⟩=some b1/\W.cell? ⟨n,2,none⟩=some b2/\dB B X W):(dC (dC (dC W ⟨z,0,none⟩ u0) ⟨z,1,none⟩ u1) ⟨z,2,none⟩ u2).cell? ⟨g,0,none⟩=some a0/\(dC (dC (dC W ⟨z,0,none⟩ u0) ⟨z,1,none⟩ u1) ⟨z,2,none⟩ u2).cell? ⟨g,1,none⟩=some a1/\(dC (dC (dC W ⟨z,0,none⟩ u0) ⟨z,1,none⟩ u1) ⟨z,2,none⟩ u2).cell? ⟨g,2,none⟩=some a2/\(dC (dC (dC W ⟨z,0,none⟩ u0) ⟨z,1,none⟩ u1) ⟨z,2,none⟩ u2).cell? ⟨g,3,none⟩=some a3/\(dC (dC (dC W ⟨z,0,none⟩ u0) ⟨z,1,none⟩ u1) ⟨z,2,none⟩ u2).cell? ⟨g,4,none⟩=some a4/\(dC (dC (dC W ⟨z,0,none⟩ u0) ⟨z,1,none⟩ u1) ⟨z,2,none⟩ u2).cell? ⟨g,5,none⟩=some a5/\(dC (dC (dC W ⟨z,0,none⟩ u0) ⟨z,1,none⟩ u1) ⟨z,2,none⟩ u2).cell? ⟨g,6,none⟩=some a6/\(dC (dC (dC W ⟨z,0,none⟩ u0) ⟨z,1,none⟩ u1) ⟨z,2,none⟩ u2).cell? ⟨n,0,none⟩=some b0/\(dC (dC (dC W ⟨z,0,none⟩ u0) ⟨z,1,none⟩ u1) ⟨z,2,none⟩ u2).cell? ⟨n,1,none⟩=some b1/\(dC (dC (dC W ⟨z,0,none⟩ u0) ⟨z,1,none⟩ u1) ⟨z,2,none⟩ u2).cell? ⟨n,2,none⟩=some b2/\dB B X (dC (dC (dC W ⟨z,0,none⟩ u0) ⟨z,1,none⟩ u1) ⟨z,2,none⟩ u2):=by
 subst hB;obtain⟨q0,q1,q2,q3,q4,q5,q6,n0,n1,n2,hE⟩:=h;refine⟨?_,?_,?_,?_,?_,?_,?_,?_,?_,?_,AE (AE (AE hE hz.1 _) hz.1 _) hz.1 _⟩
 all_goals
  first
  |(rw[World.cell?_setCell_far _ _ _ _ hz.2.1,World.cell?_setCell_far _ _ _ _ hz.2.1,World.cell?_setCell_far _ _ _ _ hz.2.1];assumption)
  |(rw[World.cell?_setCell_far _ _ _ _ hz.2.2,World.cell?_setCell_far _ _ _ _ hz.2.2,World.cell?_setCell_far _ _ _ _ hz.2.2];assumption)
theorem QS{f:Nat}(h:Enters dG f):∀ args w,(callFunc f args).run dG w=.ok (.enter f args) w:=h
theorem VD(t j lo hi o:Int)(b:Nat)(hq:BU.Ok ⟨3,t,j,lo,hi,(b:Int),o⟩)(hb:b<4)(rows:List AD)(hl:rows.length<=1000)(hrs:∀ r ∈ rows,r.ok)(v:dJ)(W:dE)(hv:AR W v rows) :
  dI dG 99 #[dF #[R U 3,R U t,R U j,R U lo,R U hi,R U (b:Int),R U o],v,cZ none 0 0] W fun e w'=>e=dH (dF #[cZ none 0 0,R U (Ti b rows).1,dA (Ti b rows).2])/\dB W.heap.size W w':=by
 have HQV:=Wz (fun W:dE=>BQ _ hq W);dsimp only[BU.arr]at HQV;have HV:=Wz hv;have HRS:=Wz hrs;obtain⟨Av,cv,rfl,-⟩:=id hv;have HML:=Wz (fun(W':dE)(h:dB W.heap.size W W')=>Er 3 t j lo hi o b hb rows hl (cZ Av rows.length cv) W' (hv.ext h));obtain⟨W0,hW0⟩:∃ W0,W0=(W.alloc (dD #[R U 3,R U t,R U j,R U lo,R U hi,R U (b:Int),R U o] 33)).alloc (dD #[cZ none 0 0,R U 0,dA false] 36):=⟨_,rfl⟩;have HE0:=Wz (show dB W.heap.size W W0 by rw[hW0];exact AB (AC _ _) _);have HQ0:=Wz (show Blk W0 W.heap.size 33 #[R U 3,R U t,R U j,R U lo,R U hi,R U (b:Int),R U o]by rw[hW0];exact(Blk.new _ _ _).alloc _);have HO0:=Wz (show Blk W0 (W.heap.size+1) 36 #[cZ none 0 0,R U 0,dA false]by rw[hW0];exact Blk.new' _ _ _ (by simp));have HW0:=Wz hW0;clear hW0 hq hv hrs;go_enter Tryz.func99,Tryz.ntmps99;go_wp2_with fail
 rw[<- HW0.out];refine(HQV.out _).mono ?_;rintro e W1 ⟨rfl,hb1⟩;have HE1:=Wz (AA HE0.out hb1);have HQ1:=Wz (HQ0.out.ext hb1);have HO1:=Wz (HO0.out.ext hb1);have q0:=HQ1.out.cell 0;have q1:=HQ1.out.cell 1;have q2:=HQ1.out.cell 2;have q3:=HQ1.out.cell 3;have q4:=HQ1.out.cell 4;have q5:=HQ1.out.cell 5;have q6:=HQ1.out.cell 6;have ql:=HQ1.out.lt;clear hb1 HE0 HQ0 HO0 HW0;go_wp2_with fail
 have HE2:=Wz (AB HE1.out (dD #[cZ none 0 0,R U 0,dA false] 36));have HO2:=Wz (HO1.out.alloc (dD #[cZ none 0 0,R U 0,dA false] 36));refine(TV rows hl _ _ (HV.out.ext HE2.out) (cntFn rows hl) trivial (0,false) rfl).mono ?_;rintro e W5 ⟨rfl,-,hb5⟩;have HO5:=Wz (HO2.out.ext hb5);have HE5:=Wz (AA HE2.out hb5);obtain⟨rr,hrr⟩:∃ rr,rr=Bl We (0,false) rows.length:=⟨_,rfl⟩;have HRR:=Wz (show rr=Ti b rows from hrr);rw[<- hrr];obtain⟨rv,rf⟩:=rr;clear hb5 hrr q0 q1 q2 q3 q4 q5 q6 HE2 HO2;dsimp only;have o0:=HO5.out.cell 0;have o1:=HO5.out.cell 1;have o2:=HO5.out.cell 2;have f0:=HO5.out.frozen 0;have f1:=HO5.out.frozen 1;have f2:=HO5.out.frozen 2;go_wp2;have hBf:=((HO5.out.set_ 0 (cZ none 0 0)).set_ 1 (R U rv)).set_ 2 (dA rf);have y0:=hBf.cell 0;have y1:=hBf.cell 1;have y2:=hBf.cell 2;refine bodyPost_ret (v:=dF #[cZ none 0 0,R U rv,dA rf]) (by simp[results,Tryz.results99,go_sem,y0,y1,y2]) rfl ⟨by rw[<- HRR.out],AE (AE (AE HE5.out (by simp) _) (by simp) _) (by simp) _⟩
theorem VE(t j lo hi o:Int)(b:Nat)(hq:BU.Ok ⟨4,t,j,lo,hi,(b:Int),o⟩)(hb:b<4)(rows:List AD)(hl:rows.length<=1000)(hrs:∀ r ∈ rows,r.ok)(v:dJ)(W:dE)(hv:AR W v rows) :
  dI dG 99 #[dF #[R U 4,R U t,R U j,R U lo,R U hi,R U (b:Int),R U o],v,cZ none 0 0] W fun e w'=>e=dH (dF #[cZ none 0 0,R U (Tj b rows).1,dA (Tj b rows).2])/\dB W.heap.size W w':=by
 have HQV:=Wz (fun W:dE=>BQ _ hq W);dsimp only[BU.arr]at HQV;have HV:=Wz hv;have HRS:=Wz hrs;obtain⟨Av,cv,rfl,-⟩:=id hv;have HML:=Wz (fun(W':dE)(h:dB W.heap.size W W')=>Er 4 t j lo hi o b hb rows hl (cZ Av rows.length cv) W' (hv.ext h));obtain⟨W0,hW0⟩:∃ W0,W0=(W.alloc (dD #[R U 4,R U t,R U j,R U lo,R U hi,R U (b:Int),R U o] 33)).alloc (dD #[cZ none 0 0,R U 0,dA false] 36):=⟨_,rfl⟩;have HE0:=Wz (show dB W.heap.size W W0 by rw[hW0];exact AB (AC _ _) _);have HQ0:=Wz (show Blk W0 W.heap.size 33 #[R U 4,R U t,R U j,R U lo,R U hi,R U (b:Int),R U o]by rw[hW0];exact(Blk.new _ _ _).alloc _);have HO0:=Wz (show Blk W0 (W.heap.size+1) 36 #[cZ none 0 0,R U 0,dA false]by rw[hW0];exact Blk.new' _ _ _ (by simp));have HW0:=Wz hW0;clear hW0 hq hv hrs;go_enter Tryz.func99,Tryz.ntmps99;go_wp2_with fail
 rw[<- HW0.out];refine(HQV.out _).mono ?_;rintro e W1 ⟨rfl,hb1⟩;have HE1:=Wz (AA HE0.out hb1);have HQ1:=Wz (HQ0.out.ext hb1);have HO1:=Wz (HO0.out.ext hb1);have q0:=HQ1.out.cell 0;have q1:=HQ1.out.cell 1;have q2:=HQ1.out.cell 2;have q3:=HQ1.out.cell 3;have q4:=HQ1.out.cell 4;have q5:=HQ1.out.cell 5;have q6:=HQ1.out.cell 6;have ql:=HQ1.out.lt;clear hb1 HE0 HQ0 HO0 HW0;go_upto_region 8 with(fail)
 obtain⟨Y,hY⟩:∃ Y,Y=W1.alloc (dD #[cZ none 0 0,R U 0,dA false] 36):=⟨_,rfl⟩;have HOY:=Wz (show Blk Y (W.heap.size+1) 36 #[cZ none 0 0,R U 0,dA false]by rw[hY];exact HO1.out.alloc _);have HEY:=Wz (show dB W.heap.size W Y by rw[hY];exact AB HE1.out _);have hq1:Blk Y W.heap.size 33 #[R U 4,R U t,R U j,R U lo,R U hi,R U (b:Int),R U o]:=by rw[hY];exact HQ1.out.alloc _
 have hn1:Blk Y W1.heap.size 36 #[cZ none 0 0,R U 0,dA false]:=by rw[hY];exact Blk.new _ _ _
 have HZN:=Wz (show W.heap.size+1<W1.heap.size from HO1.out.lt);rw[<- hY];clear hY q0 q1 q2 q3 q4 q5 q6 ql HE1 HQ1 HO1;generalize W1.heap.size=gn at *;obtain⟨B,hB⟩:∃ B,B=W.heap.size:=⟨_,rfl⟩;have HBB:=Wz hB;obtain⟨X,hX⟩:∃ X,X=W:=⟨_,rfl⟩;have HXX:=Wz (show B=X.heap.size by rw[hB,hX]);have HK:=Wz (show Y.cell? ⟨W.heap.size,0,none⟩=some (R U 4)/\Y.cell? ⟨W.heap.size,1,none⟩=some (R U t)/\Y.cell? ⟨W.heap.size,2,none⟩=some (R U j)/\Y.cell? ⟨W.heap.size,3,none⟩=some (R U lo)/\Y.cell? ⟨W.heap.size,4,none⟩=some (R U hi)/\Y.cell? ⟨W.heap.size,5,none⟩=some (R U (b:Int))/\Y.cell? ⟨W.heap.size,6,none⟩=some (R U o)/\Y.cell? ⟨gn,0,none⟩=some (cZ none 0 0)/\Y.cell? ⟨gn,1,none⟩=some (R U 0)/\Y.cell? ⟨gn,2,none⟩=some (dA false)/\dB B X Y from⟨hq1.cell 0,hq1.cell 1,hq1.cell 2,hq1.cell 3,hq1.cell 4,hq1.cell 5,hq1.cell 6,hn1.cell 0,hn1.cell 1,hn1.cell 2,by rw[hB,hX];exact HEY.out⟩);have hyy:dB Y.heap.size Y Y.drew:=(AF Y).drew;have HYD:=Wz (DR HXX.out HK.out hyy);clear hB hX hq1 hn1;go_region_held3 (fun w'=>w'.cell? ⟨W.heap.size,0,none⟩=some (R U 4)/\w'.cell? ⟨W.heap.size,1,none⟩=some (R U t)/\w'.cell? ⟨W.heap.size,2,none⟩=some (R U j)/\w'.cell? ⟨W.heap.size,3,none⟩=some (R U lo)/\w'.cell? ⟨W.heap.size,4,none⟩=some (R U hi)/\w'.cell? ⟨W.heap.size,5,none⟩=some (R U (b:Int))/\w'.cell? ⟨W.heap.size,6,none⟩=some (R U o)/\w'.cell? ⟨gn,0,none⟩=some (cZ none 0 0)/\w'.cell? ⟨gn,1,none⟩=some (R U 0)/\w'.cell? ⟨gn,2,none⟩=some (dA false)/\dB B X w')
  (first|with_reducible assumption|exact HK.out|exact HYD.out|exact DR HXX.out HYD.out (by assumption)|exact DR HXX.out (by assumption) (by assumption)|exact MT ⟨by have:=HBB.out;omega,by omega,by have:=HZN.out;omega⟩ HXX.out (by assumption))
  (first
   |(go_at_call 147;(with_reducible refine(HML.out _ ?_).mono ?_);(exact AA HEY.out hyy);rintro e Z1 ⟨Am,cm,rfl,hi2,hb'⟩;have hYZ1:=AA hyy hb';clear hyy;have hyy:=hYZ1)
   |(go_at_call 146;(with_reducible refine(J3 rows b hl _ _ _ (by assumption) (sumFn _ (by simpa using hl) (fun x hx=>by obtain⟨r,hr,rfl⟩:=List.mem_map.1 hx;exact VC (HRS.out r hr) b)) trivial (by simp)).mono ?_);rintro e Z2 ⟨rfl,hb2⟩;have hYZ2:=AA hyy hb2;have hox:=HOY.out.ext hYZ2;have o0:=hox.cell 0;have o1:=hox.cell 1;have o2:=hox.cell 2;have f0:=hox.frozen 0;have f1:=hox.frozen 1;have f2:=hox.frozen 2))
 all_goals
  clear o0 o1 o2 f0 f1 f2;obtain⟨rr,hrr⟩:∃ rr,rr=Bl (PX (rows.map (·.col b))) (0,false) rows.length:=⟨_,rfl⟩;have HRR:=Wz (show rr=Tj b rows from hrr);rw[<- hrr];clear hrr;obtain⟨rv,rf⟩:=rr;dsimp only;have hBf:=((hox.set_ 0 (cZ none 0 0)).set_ 1 (R U rv)).set_ 2 (dA rf);have HEE:=Wz (AE (p:=⟨W.heap.size+1,2,none⟩) (AE (p:=⟨W.heap.size+1,1,none⟩) (AE (p:=⟨W.heap.size+1,0,none⟩) (AA HEY.out hYZ2) (Nat.le_succ _) (cZ none 0 0)) (Nat.le_succ _) (R U rv)) (Nat.le_succ _) (dA rf));have y0:=hBf.cell 0;have y1:=hBf.cell 1;have y2:=hBf.cell 2;clear hox hBf hYZ2 hb2 hyy hYZ1 hb' hi2;go_wp2;refine bodyPost_ret (v:=dF #[cZ none 0 0,R U rv,dA rf]) (by simp[results,Tryz.results99,go_sem,y0,y1,y2]) rfl ⟨by rw[<- HRR.out],HEE.out⟩
theorem VF(t j lo hi o:Int)(b:Nat)(hq:BU.Ok ⟨5,t,j,lo,hi,(b:Int),o⟩)(hb:b<4)(rows:List AD)(hl:rows.length<=1000)(hrs:∀ r ∈ rows,r.ok)(v:dJ)(W:dE)(hv:AR W v rows) :
  dI dG 99 #[dF #[R U 5,R U t,R U j,R U lo,R U hi,R U (b:Int),R U o],v,cZ none 0 0] W fun e w'=>e=dH (dF #[cZ none 0 0,R U (Tk b rows).1,dA (Tk b rows).2])/\dB W.heap.size W w':=by
 have HQV:=Wz (fun W:dE=>BQ _ hq W);dsimp only[BU.arr]at HQV;have HV:=Wz hv;have HRS:=Wz hrs;obtain⟨Av,cv,rfl,-⟩:=id hv;have HML:=Wz (fun(W':dE)(h:dB W.heap.size W W')=>Er 5 t j lo hi o b hb rows hl (cZ Av rows.length cv) W' (hv.ext h));obtain⟨W0,hW0⟩:∃ W0,W0=(W.alloc (dD #[R U 5,R U t,R U j,R U lo,R U hi,R U (b:Int),R U o] 33)).alloc (dD #[cZ none 0 0,R U 0,dA false] 36):=⟨_,rfl⟩;have HE0:=Wz (show dB W.heap.size W W0 by rw[hW0];exact AB (AC _ _) _);have HQ0:=Wz (show Blk W0 W.heap.size 33 #[R U 5,R U t,R U j,R U lo,R U hi,R U (b:Int),R U o]by rw[hW0];exact(Blk.new _ _ _).alloc _);have HO0:=Wz (show Blk W0 (W.heap.size+1) 36 #[cZ none 0 0,R U 0,dA false]by rw[hW0];exact Blk.new' _ _ _ (by simp));have HW0:=Wz hW0;clear hW0 hq hv hrs;go_enter Tryz.func99,Tryz.ntmps99;go_wp2_with fail
 rw[<- HW0.out];refine(HQV.out _).mono ?_;rintro e W1 ⟨rfl,hb1⟩;have HE1:=Wz (AA HE0.out hb1);have HQ1:=Wz (HQ0.out.ext hb1);have HO1:=Wz (HO0.out.ext hb1);have q0:=HQ1.out.cell 0;have q1:=HQ1.out.cell 1;have q2:=HQ1.out.cell 2;have q3:=HQ1.out.cell 3;have q4:=HQ1.out.cell 4;have q5:=HQ1.out.cell 5;have q6:=HQ1.out.cell 6;have ql:=HQ1.out.lt;clear hb1 HE0 HQ0 HO0 HW0;go_upto_region 10 with(fail)
 obtain⟨Y,hY⟩:∃ Y,Y=W1.alloc (dD #[cZ none 0 0,R U 0,dA false] 36):=⟨_,rfl⟩;have HOY:=Wz (show Blk Y (W.heap.size+1) 36 #[cZ none 0 0,R U 0,dA false]by rw[hY];exact HO1.out.alloc _);have HEY:=Wz (show dB W.heap.size W Y by rw[hY];exact AB HE1.out _);have hq1:Blk Y W.heap.size 33 #[R U 5,R U t,R U j,R U lo,R U hi,R U (b:Int),R U o]:=by rw[hY];exact HQ1.out.alloc _
 have hn1:Blk Y W1.heap.size 36 #[cZ none 0 0,R U 0,dA false]:=by rw[hY];exact Blk.new _ _ _
 have HZN:=Wz (show W.heap.size+1<W1.heap.size from HO1.out.lt);rw[<- hY];clear hY q0 q1 q2 q3 q4 q5 q6 ql HE1 HQ1 HO1;generalize W1.heap.size=gn at *;obtain⟨B,hB⟩:∃ B,B=W.heap.size:=⟨_,rfl⟩;have HBB:=Wz hB;obtain⟨X,hX⟩:∃ X,X=W:=⟨_,rfl⟩;have HXX:=Wz (show B=X.heap.size by rw[hB,hX]);have HK:=Wz (show Y.cell? ⟨W.heap.size,0,none⟩=some (R U 5)/\Y.cell? ⟨W.heap.size,1,none⟩=some (R U t)/\Y.cell? ⟨W.heap.size,2,none⟩=some (R U j)/\Y.cell? ⟨W.heap.size,3,none⟩=some (R U lo)/\Y.cell? ⟨W.heap.size,4,none⟩=some (R U hi)/\Y.cell? ⟨W.heap.size,5,none⟩=some (R U (b:Int))/\Y.cell? ⟨W.heap.size,6,none⟩=some (R U o)/\Y.cell? ⟨gn,0,none⟩=some (cZ none 0 0)/\Y.cell? ⟨gn,1,none⟩=some (R U 0)/\Y.cell? ⟨gn,2,none⟩=some (dA false)/\dB B X Y from⟨hq1.cell 0,hq1.cell 1,hq1.cell 2,hq1.cell 3,hq1.cell 4,hq1.cell 5,hq1.cell 6,hn1.cell 0,hn1.cell 1,hn1.cell 2,by rw[hB,hX];exact HEY.out⟩);have hyy:dB Y.heap.size Y Y.drew:=(AF Y).drew;have HYD:=Wz (DR HXX.out HK.out hyy);clear hB hX hq1 hn1;go_region_held3 (fun w'=>w'.cell? ⟨W.heap.size,0,none⟩=some (R U 5)/\w'.cell? ⟨W.heap.size,1,none⟩=some (R U t)/\w'.cell? ⟨W.heap.size,2,none⟩=some (R U j)/\w'.cell? ⟨W.heap.size,3,none⟩=some (R U lo)/\w'.cell? ⟨W.heap.size,4,none⟩=some (R U hi)/\w'.cell? ⟨W.heap.size,5,none⟩=some (R U (b:Int))/\w'.cell? ⟨W.heap.size,6,none⟩=some (R U o)/\w'.cell? ⟨gn,0,none⟩=some (cZ none 0 0)/\w'.cell? ⟨gn,1,none⟩=some (R U 0)/\w'.cell? ⟨gn,2,none⟩=some (dA false)/\dB B X w')
  (first|with_reducible assumption|exact HK.out|exact HYD.out|exact DR HXX.out HYD.out (by assumption)|exact DR HXX.out (by assumption) (by assumption)|exact MT ⟨by have:=HBB.out;omega,by omega,by have:=HZN.out;omega⟩ HXX.out (by assumption))
  (first
   |(go_at_call 149;refine(J2 150 _).mono ?_;rintro e Z ⟨rfl,hbx,hb'⟩;have hYZ:=AA hyy hb';clear hyy;have hyy:=hYZ;(try (have hi3:=hi2.ext hb'));have hbx2:=hbx;clear hbx)
   |(go_at_call 147;(with_reducible refine(HML.out _ ?_).mono ?_);(exact AA HEY.out hyy);rintro e Z1 ⟨Am,cm,rfl,hi2,hb'⟩;(try (have hbx3:=hbx2.ext hb'));have hYZ1:=AA hyy hb';clear hyy;have hyy:=hYZ1)
   |(go_at_call 146;(with_reducible refine(J3 rows b hl _ _ _ (by first|exact hi3|exact hi2) (exFn 150 _ (QS (enters_of Tryz.func150 (by kernel_rfl) rfl)) (fun a b W=>WY a b W) _ _) (by first|exact hbx3|exact hbx2) trivial).mono ?_);rintro e Z2 ⟨rfl,hb2⟩;have hYZ2:=AA hyy hb2;have hox:=HOY.out.ext hYZ2;have o0:=hox.cell 0;have o1:=hox.cell 1;have o2:=hox.cell 2;have f0:=hox.frozen 0;have f1:=hox.frozen 1;have f2:=hox.frozen 2))
 all_goals
  clear o0 o1 o2 f0 f1 f2;obtain⟨rr,hrr⟩:∃ rr,rr=Bl (exG (fun a b=>decide (a<b)) (rows.map (·.col b))) (0,false) rows.length:=⟨_,rfl⟩;have HRR:=Wz (show rr=Tk b rows from hrr);rw[<- hrr];clear hrr;obtain⟨rv,rf⟩:=rr;dsimp only;have hBf:=((hox.set_ 0 (cZ none 0 0)).set_ 1 (R U rv)).set_ 2 (dA rf);have HEE:=Wz (AE (p:=⟨W.heap.size+1,2,none⟩) (AE (p:=⟨W.heap.size+1,1,none⟩) (AE (p:=⟨W.heap.size+1,0,none⟩) (AA HEY.out hYZ2) (Nat.le_succ _) (cZ none 0 0)) (Nat.le_succ _) (R U rv)) (Nat.le_succ _) (dA rf));have y0:=hBf.cell 0;have y1:=hBf.cell 1;have y2:=hBf.cell 2;clear hox hBf hYZ2 hb2 hyy hYZ1 hb' hi2;go_wp2;refine bodyPost_ret (v:=dF #[cZ none 0 0,R U rv,dA rf]) (by simp[results,Tryz.results99,go_sem,y0,y1,y2]) rfl ⟨by rw[<- HRR.out],HEE.out⟩
theorem VG(t j lo hi o:Int)(b:Nat)(hq:BU.Ok ⟨6,t,j,lo,hi,(b:Int),o⟩)(hb:b<4)(rows:List AD)(hl:rows.length<=1000)(hrs:∀ r ∈ rows,r.ok)(v:dJ)(W:dE)(hv:AR W v rows) :
  dI dG 99 #[dF #[R U 6,R U t,R U j,R U lo,R U hi,R U (b:Int),R U o],v,cZ none 0 0] W fun e w'=>e=dH (dF #[cZ none 0 0,R U (Tl b rows).1,dA (Tl b rows).2])/\dB W.heap.size W w':=by
 have HQV:=Wz (fun W:dE=>BQ _ hq W);dsimp only[BU.arr]at HQV;have HV:=Wz hv;have HRS:=Wz hrs;obtain⟨Av,cv,rfl,-⟩:=id hv;have HML:=Wz (fun(W':dE)(h:dB W.heap.size W W')=>Er 6 t j lo hi o b hb rows hl (cZ Av rows.length cv) W' (hv.ext h));obtain⟨W0,hW0⟩:∃ W0,W0=(W.alloc (dD #[R U 6,R U t,R U j,R U lo,R U hi,R U (b:Int),R U o] 33)).alloc (dD #[cZ none 0 0,R U 0,dA false] 36):=⟨_,rfl⟩;have HE0:=Wz (show dB W.heap.size W W0 by rw[hW0];exact AB (AC _ _) _);have HQ0:=Wz (show Blk W0 W.heap.size 33 #[R U 6,R U t,R U j,R U lo,R U hi,R U (b:Int),R U o]by rw[hW0];exact(Blk.new _ _ _).alloc _);have HO0:=Wz (show Blk W0 (W.heap.size+1) 36 #[cZ none 0 0,R U 0,dA false]by rw[hW0];exact Blk.new' _ _ _ (by simp));have HW0:=Wz hW0;clear hW0 hq hv hrs;go_enter Tryz.func99,Tryz.ntmps99;go_wp2_with fail
 rw[<- HW0.out];refine(HQV.out _).mono ?_;rintro e W1 ⟨rfl,hb1⟩;have HE1:=Wz (AA HE0.out hb1);have HQ1:=Wz (HQ0.out.ext hb1);have HO1:=Wz (HO0.out.ext hb1);have q0:=HQ1.out.cell 0;have q1:=HQ1.out.cell 1;have q2:=HQ1.out.cell 2;have q3:=HQ1.out.cell 3;have q4:=HQ1.out.cell 4;have q5:=HQ1.out.cell 5;have q6:=HQ1.out.cell 6;have ql:=HQ1.out.lt;clear hb1 HE0 HQ0 HO0 HW0;go_upto_region 12 with(fail)
 obtain⟨Y,hY⟩:∃ Y,Y=W1.alloc (dD #[cZ none 0 0,R U 0,dA false] 36):=⟨_,rfl⟩;have HOY:=Wz (show Blk Y (W.heap.size+1) 36 #[cZ none 0 0,R U 0,dA false]by rw[hY];exact HO1.out.alloc _);have HEY:=Wz (show dB W.heap.size W Y by rw[hY];exact AB HE1.out _);have hq1:Blk Y W.heap.size 33 #[R U 6,R U t,R U j,R U lo,R U hi,R U (b:Int),R U o]:=by rw[hY];exact HQ1.out.alloc _
 have hn1:Blk Y W1.heap.size 36 #[cZ none 0 0,R U 0,dA false]:=by rw[hY];exact Blk.new _ _ _
 have HZN:=Wz (show W.heap.size+1<W1.heap.size from HO1.out.lt);rw[<- hY];clear hY q0 q1 q2 q3 q4 q5 q6 ql HE1 HQ1 HO1;generalize W1.heap.size=gn at *;obtain⟨B,hB⟩:∃ B,B=W.heap.size:=⟨_,rfl⟩;have HBB:=Wz hB;obtain⟨X,hX⟩:∃ X,X=W:=⟨_,rfl⟩;have HXX:=Wz (show B=X.heap.size by rw[hB,hX]);have HK:=Wz (show Y.cell? ⟨W.heap.size,0,none⟩=some (R U 6)/\Y.cell? ⟨W.heap.size,1,none⟩=some (R U t)/\Y.cell? ⟨W.heap.size,2,none⟩=some (R U j)/\Y.cell? ⟨W.heap.size,3,none⟩=some (R U lo)/\Y.cell? ⟨W.heap.size,4,none⟩=some (R U hi)/\Y.cell? ⟨W.heap.size,5,none⟩=some (R U (b:Int))/\Y.cell? ⟨W.heap.size,6,none⟩=some (R U o)/\Y.cell? ⟨gn,0,none⟩=some (cZ none 0 0)/\Y.cell? ⟨gn,1,none⟩=some (R U 0)/\Y.cell? ⟨gn,2,none⟩=some (dA false)/\dB B X Y from⟨hq1.cell 0,hq1.cell 1,hq1.cell 2,hq1.cell 3,hq1.cell 4,hq1.cell 5,hq1.cell 6,hn1.cell 0,hn1.cell 1,hn1.cell 2,by rw[hB,hX];exact HEY.out⟩);have hyy:dB Y.heap.size Y Y.drew:=(AF Y).drew;have HYD:=Wz (DR HXX.out HK.out hyy);clear hB hX hq1 hn1;go_region_held3 (fun w'=>w'.cell? ⟨W.heap.size,0,none⟩=some (R U 6)/\w'.cell? ⟨W.heap.size,1,none⟩=some (R U t)/\w'.cell? ⟨W.heap.size,2,none⟩=some (R U j)/\w'.cell? ⟨W.heap.size,3,none⟩=some (R U lo)/\w'.cell? ⟨W.heap.size,4,none⟩=some (R U hi)/\w'.cell? ⟨W.heap.size,5,none⟩=some (R U (b:Int))/\w'.cell? ⟨W.heap.size,6,none⟩=some (R U o)/\w'.cell? ⟨gn,0,none⟩=some (cZ none 0 0)/\w'.cell? ⟨gn,1,none⟩=some (R U 0)/\w'.cell? ⟨gn,2,none⟩=some (dA false)/\dB B X w')
  (first|with_reducible assumption|exact HK.out|exact HYD.out|exact DR HXX.out HYD.out (by assumption)|exact DR HXX.out (by assumption) (by assumption)|exact MT ⟨by have:=HBB.out;omega,by omega,by have:=HZN.out;omega⟩ HXX.out (by assumption))
  (first
   |(go_at_call 149;refine(J2 151 _).mono ?_;rintro e Z ⟨rfl,hbx,hb'⟩;have hYZ:=AA hyy hb';clear hyy;have hyy:=hYZ;(try (have hi3:=hi2.ext hb'));have hbx2:=hbx;clear hbx)
   |(go_at_call 147;(with_reducible refine(HML.out _ ?_).mono ?_);(exact AA HEY.out hyy);rintro e Z1 ⟨Am,cm,rfl,hi2,hb'⟩;(try (have hbx3:=hbx2.ext hb'));have hYZ1:=AA hyy hb';clear hyy;have hyy:=hYZ1)
   |(go_at_call 146;(with_reducible refine(J3 rows b hl _ _ _ (by first|exact hi3|exact hi2) (exFn 151 _ (QS (enters_of Tryz.func151 (by kernel_rfl) rfl)) (fun a b W=>WZ a b W) _ _) (by first|exact hbx3|exact hbx2) trivial).mono ?_);rintro e Z2 ⟨rfl,hb2⟩;have hYZ2:=AA hyy hb2;have hox:=HOY.out.ext hYZ2;have o0:=hox.cell 0;have o1:=hox.cell 1;have o2:=hox.cell 2;have f0:=hox.frozen 0;have f1:=hox.frozen 1;have f2:=hox.frozen 2))
 all_goals
  clear o0 o1 o2 f0 f1 f2;obtain⟨rr,hrr⟩:∃ rr,rr=Bl (exG (fun a b=>decide (b<a)) (rows.map (·.col b))) (0,false) rows.length:=⟨_,rfl⟩;have HRR:=Wz (show rr=Tl b rows from hrr);rw[<- hrr];clear hrr;obtain⟨rv,rf⟩:=rr;dsimp only;have hBf:=((hox.set_ 0 (cZ none 0 0)).set_ 1 (R U rv)).set_ 2 (dA rf);have HEE:=Wz (AE (p:=⟨W.heap.size+1,2,none⟩) (AE (p:=⟨W.heap.size+1,1,none⟩) (AE (p:=⟨W.heap.size+1,0,none⟩) (AA HEY.out hYZ2) (Nat.le_succ _) (cZ none 0 0)) (Nat.le_succ _) (R U rv)) (Nat.le_succ _) (dA rf));have y0:=hBf.cell 0;have y1:=hBf.cell 1;have y2:=hBf.cell 2;clear hox hBf hYZ2 hb2 hyy hYZ1 hb' hi2;go_wp2;refine bodyPost_ret (v:=dF #[cZ none 0 0,R U rv,dA rf]) (by simp[results,Tryz.results99,go_sem,y0,y1,y2]) rfl ⟨by rw[<- HRR.out],HEE.out⟩
end
end Go.Proofs.YtimoapjhepmehaaGreatDoor
