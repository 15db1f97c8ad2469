/- Part 33: contracts that the last part uses. -/
import Derived.Test.YtimoapjhepmehaaGreatDoorJ32
set_option linter.unusedSimpArgs false
set_option linter.unusedVariables false
set_option maxHeartbeats 4000000
set_option maxRecDepth 100000
namespace Go.Proofs.YtimoapjhepmehaaGreatDoor
open Go.IntKind renaming i64->I
open Go.Value renaming int->J,bool->R,slice->fB,agg->fF,tuple->fJ
open Go.RowKit renaming Below->fC
open Go renaming World->fD,Value->fG,Calls->fL
open Go.World renaming setCell->fE
open Go.Obj renaming cells->fH
open Tryz renaming prog->fI
open Go.Ending renaming returned->fK
open List renaming getElem?_eq_getElem->fN
section
open Go.RowKit Go.Shelf
attribute [local go_sem ↓] AQ AU Go.wp_at_zero Go.wp_at_succ
def BO:List AD->List (AD × AD)
 | a::b::r=>(a,b)::BO r
 | _=>[]
def CL(l:List (AD × AD)):List AD:=l.flatMap fun p=>[p.1,p.2]
theorem FF:∀ l:List AD,(BO l).length*2<=l.length
 | []=>by simp[BO]
 | [_]=>by simp[BO]
 | _::_::r=>by have:=FF r;simp[BO];omega
theorem J7(l:List (AD × AD)):(CL l).length=l.length*2:=by
 induction l with
 | nil=>rfl
 | cons p l ih=>simp[CL]at ih ⊢;omega
theorem Is:∀(k:Nat) (l:List AD) (a b:AD),l[2*k]? = some a->l[2*k+1]? = some b->BO (l.take (2*(k+1)))=BO (l.take (2*k))++[(a,b)]
 | 0,x::y::l,a,b,h1,h2=>by
  simp at h1 h2;subst h1 h2;simp[BO]
 | k+1,x::y::l,a,b,h1,h2=>by
  have e1:2*(k+1)=2*k+1+1:=by omega
  have e2:2*(k+1+1)=2*(k+1)+1+1:=by omega
  rw[e1]at h1 h2;simp only[List.getElem?_cons_succ]at h1 h2;have ih:=Is k l a b h1 h2;rw[e2,e1,List.take_succ_cons,List.take_succ_cons,List.take_succ_cons,List.take_succ_cons];rw[show 2*k+1+1=2*(k+1)by omega]at *;simp[BO,ih]
 | 0,[],a,b,h1,_=>by simp at h1
 | 0,[_],a,b,_,h2=>by simp at h2
 | k+1,[],a,b,h1,_=>by simp at h1
 | k+1,[_],a,b,h1,_=>by
  rw[show 2*(k+1)=2*k+1+1 by omega]at h1;simp at h1
theorem J8:∀(k:Nat) (l:List AD),l.length<=2*k+1->BO (l.take (2*k))=BO l
 | _,[],_=>by simp
 | 0,[_],_=>by simp[BO]
 | 0,_::_::_,h=>by simp at h
 | k+1,[x],_=>by rw[show 2*(k+1)=2*k+1+1 by omega];simp
 | k+1,x::y::l,h=>by
  have ih:=J8 k l (by simp at h;omega);rw[show 2*(k+1)=2*k+1+1 by omega,List.take_succ_cons,List.take_succ_cons];simp[BO,ih]
theorem N4(l:List (AD × AD))(k:Nat)(p:AD × AD)(h:l[k]? = some p):CL (l.take (k+1))=CL (l.take k)++[p.1,p.2]:=by
 unfold CL;rw[List.take_add_one,h];simp
def Ty(o:Int)(j:Nat)(c:AH)(sb sa:Option AD)(old now:Int)(rows:List AD):List AD:=CL (FO o j c sb sa old now (BO rows)).1
def J9(t o:Int)(j:Nat)(c:AH)(sb sa:Option AD)(old now:Int)(rows:List AD):Bool:=if t=o then false else(FO o j c sb sa old now (BO rows)).2
theorem Pf(kd t lo hi o:Int)(j b:Nat)(hj:j<4)(c:AH)(sb sa:Option AD)(pb pa:Option Addr)(old now:Int){E:Array fG}(hE:E=Bp kd t (j:Int) lo hi (b:Int) o c (.pointer pb) (.pointer pa) old now)(rows:List AD)(hl:rows.length<=9999)(A:Option Addr)(cc:Nat)(val:Int)(fd:Bool)(w:fD)(hv:AR w (fB A rows.length cc) rows)(hpb:pb.isSome=sb.isSome)(hpa:Dm 0 w (.pointer pa) sa) :
  fL fI 223 #[.agg E,fF #[fB A rows.length cc,J I val,R fd]] w fun e w'=>∃ A' n' c',e=fK (fJ #[fF #[fB A' n' c',J I val,R fd],R (J9 t o j c sb sa old now rows)])/\(J9 t o j c sb sa old now rows=true->BF (fun x=>w.heap.size<=x) w' (fB A' n' c') (Ty o j c sb sa old now rows))/\fC w.heap.size w w':=by
 have hes:E.size=21:=by rw[hE];rfl
 have e1:E[1]? = some (J I t):=by rw[hE];rfl
 have e6:E[6]? = some (J I o):=by rw[hE];rfl
 obtain⟨W0,hW0⟩:∃ W0,W0=((w.alloc (.cells E 297)).alloc (fH #[fB A rows.length cc,J I val,R fd] 36)).alloc (fH #[fB none 0 0,J I 0,R false] 36):=⟨_,rfl⟩;have hE0:fC w.heap.size w W0:=by rw[hW0];exact AB (AB (AC _ _) _) _
 have HE0:=Wz hE0;have HB0:=Wz (show Blk W0 w.heap.size 297 E by rw[hW0];exact((Blk.new w 297 E).alloc _).alloc _);have HR0:=Wz (show Blk W0 (w.heap.size+1) 36 #[fB A rows.length cc,J I val,R fd]by rw[hW0];exact(Blk.new' _ _ _ (by simp)).alloc _);have HO0:=Wz (show Blk W0 (w.heap.size+1+1) 36 #[fB none 0 0,J I 0,R false]by rw[hW0];exact Blk.new' _ _ _ (by simp));have HZ0:=Wz (show w.heap.size+1+1<W0.heap.size from HO0.out.lt);have HV0:=Wz (hv.ext hE0);have HI:=Wz (Dk.trans (by rw[<- hes]));have x1:W0.cell? ⟨w.heap.size,1,none⟩=some (J I t):=(HB0.out.cell 1).trans e1;have x6:W0.cell? ⟨w.heap.size,6,none⟩=some (J I o):=(HB0.out.cell 6).trans e6;have HLP:=Wz (FF rows);have HJN:=Wz (fun(L:List (AD × AD))(hn:L.length<=99999)(v:fG)(W:fD)(hW:fC W0.heap.size W0 W)(ho:W.ownsRow W0.heap.size 340 10 v L.length (ec Ca L))=>joinE kd t lo hi o j b hj c sb sa pb pa old now hE L hn W0.heap.size v W hW.size ho hpb ((hpa.ext hE0).ext hW));have HJL:=Wz (LQ o j c sb sa old now (BO rows));have HPJ:=Wz (show J9 t o j c sb sa old now rows=if t=o then false else(FO o j c sb sa old now (BO rows)).2 from rfl);have HPR:=Wz (show Ty o j c sb sa old now rows=CL (FO o j c sb sa old now (BO rows)).1 from rfl);generalize J9 t o j c sb sa old now rows=okJ at *;generalize Ty o j c sb sa old now rows=out at *;have HW0:=Wz hW0;clear hE hes e1 e6 hW0 hE0 hv hpb hpa;by_cases hto:t=o
 ·have HK:=Wz (HPJ.out.trans (if_pos hto));subst hto;obtain⟨r0,r1,r2⟩:=HR0.out.all3;obtain⟨o0,o1,o2⟩:=HO0.out.all3;have f0:=HO0.out.frozen 0;have f1:=HO0.out.frozen 1;have f2:=HO0.out.frozen 2;go_enter Tryz.func223,Tryz.ntmps223;go_upto_region 1 with(fail)
  rw[<- HW0.out];go_wp2;have hBf:=((HO0.out.set_ 0 (fB A rows.length cc)).set_ 1 (J I val)).set_ 2 (R fd);obtain⟨y0,y1,y2⟩:=hBf.all3;exact bodyPost_ret (v:=fJ #[fF #[fB A rows.length cc,J I val,R fd],R false]) (by simp[results,Tryz.results223,go_sem,y0,y1,y2]) rfl ⟨A,rows.length,cc,by rw[HK.out],(fun h=>by rw[HK.out]at h;cases h),AE (AE (AE HE0.out (by simp;omega) _) (by simp;omega) _) (by simp;omega) _⟩
 have HK := Wz (HPJ.out.trans (if_neg hto));have b1:(t == o)=false:=by simpa using hto
 go_enter Tryz.func223,Tryz.ntmps223;go_upto_region 1 with(fail)
 rw[<- HW0.out];go_wp2;clear x1 x6 b1 hto HW0;go_loopw [6,7] (fun lv iv W=>∃ k m:Nat,m=2*k/\m<=rows.length/\iv=J I (m:Int)/\W.ownsRow W0.heap.size 340 10 lv (BO (rows.take m)).length (ec Ca (BO (rows.take m)))/\fC W0.heap.size W0 W) (fun _ iv _=>rows.length-(intOf iv).toNat)
 case atStart=>exact⟨0,0,rfl,Nat.zero_le _,rfl,World.ownsRow_nil _ _ _ _,AF _⟩
 case round =>
  obtain⟨k,m,hm,hk,rfl,hO,hE⟩:=hrel;have HO:=Wz hO;have HE:=Wz hE;have HM:=Wz hm;obtain⟨Al,cl,rfl⟩:=AI hO;clear hO hE hm;obtain⟨m1,hm1⟩:∃ m1,m1=m+1:=⟨_,rfl⟩;obtain⟨m2,hm2⟩:∃ m2,m2=m+2:=⟨_,rfl⟩;have HM1:=Wz hm1;have HM2:=Wz hm2;have e2:IntKind.i64.wrap ((m:Int)+1)=(m1:Int):=(IntWalk.i64_in _ (by omega)).trans (by omega);have e3:IntKind.i64.wrap ((m:Int)+2)=(m2:Int):=(IntWalk.i64_in _ (by omega)).trans (by omega);have r0:=(HR0.out.ext HE.out).cell 0;by_cases hlt:m1<rows.length
  ·obtain⟨x,hx⟩:∃ x,rows[m]? = some x:=⟨_,fN (by omega)⟩;obtain⟨y,hy⟩:∃ y,rows[m1]? = some y:=⟨_,fN hlt⟩;have HTK:=Wz (show BO (rows.take m2)=BO (rows.take m)++[(x,y)]by
    have:=Is k rows x y (by rw[<- HM.out];exact hx) (by rw[<- HM.out,<- HM1.out];exact hy);rw[HM2.out,HM.out];exact this)
   have HLN:=Wz (show(BO (rows.take m)).length<=99999 by have:=FF (rows.take m);rw[List.length_take]at this;omega);obtain⟨gr,d',hA,hg,a0,a1,a2,a3,a4⟩:=HV0.out.c5 hx;injection hA with hA hn' hd'
   subst hA;subst hd';obtain⟨gr',d'',hA,hg',b0,b1,b2,b3,b4⟩:=HV0.out.c5 hy;injection hA with hA hn2 hd''
   injection hA with hA
   injection hA with hA
   subst hA;clear hn' hn2 hd'' hx hy hg hg';generalize BO (rows.take m)=L at *;obtain⟨r0',r1',r2',r3',r4'⟩:=x;obtain⟨s0',s1',s2',s3',s4'⟩:=y;dsimp only at *;have x0:(0:Int)<=(m:Int):=by omega
   have x1:(m:Int)<(rows.length:Int):=by omega
   have x2:(0:Int)<=(m1:Int):=by omega
   have x3:(m1:Int)<(rows.length:Int):=by omega
   have d1:decide ((m1:Int)<(rows.length:Int))=true:=decide_eq_true x3;have HMS:=Wz (show m2<=rows.length by omega);clear hm1 hm2;have HC:=Wz (show ∀ W,fC W0.heap.size W0 W->(W.cell? ⟨gr,m*5,none⟩=some (J I r0')/\W.cell? ⟨gr,m*5+1,none⟩=some (J I r1')/\W.cell? ⟨gr,m*5+2,none⟩=some (J I r2')/\W.cell? ⟨gr,m*5+3,none⟩=some (J I r3')/\W.cell? ⟨gr,m*5+4,none⟩=some (J I r4')/\W.cell? ⟨gr,m1*5,none⟩=some (J I s0')/\W.cell? ⟨gr,m1*5+1,none⟩=some (J I s1')/\W.cell? ⟨gr,m1*5+2,none⟩=some (J I s2')/\W.cell? ⟨gr,m1*5+3,none⟩=some (J I s3')/\W.cell? ⟨gr,m1*5+4,none⟩=some (J I s4')/\W.cell? ⟨w.heap.size+1,0,none⟩=some (fB (some ⟨gr,0,none⟩) rows.length cc))from fun W h=>⟨AG a0 h,AG a1 h,AG a2 h,AG a3 h,AG a4 h,AG b0 h,AG b1 h,AG b2 h,AG b3 h,AG b4 h,(HR0.out.ext h).cell 0⟩);have HB:=Wz (show fC W0.heap.size W0 wr.drew from HE.out.drew);have HOD:=Wz (show wr.drew.ownsRow W0.heap.size 340 10 (fB Al L.length cl) L.length (ec Ca L)from AK HO.out (AF wr).drew);clear a0 a1 a2 a3 a4 b0 b1 b2 b3 b4;go_upto_region 7 with(fail)
   clear r0;refine DM (fun Z=>fC W0.heap.size W0 Z) [] (by kernel_rfl) ?_;generalize wr.drew=D at HB HOD ⊢;refine AM 0 (some 27) (v:=?_) rfl rfl (by kernel_rfl) (fun _ _ _ h=>h) (fun _=>HB.out) (Or.inl ⟨(by kernel_rfl),?_⟩) ?_;rotate_left 1
   ·(rintro w' -;go_simp;with_reducible rfl)
   refine AM 1 (some 28) (v:=?_) rfl rfl (by kernel_rfl) (fun _ _ _ h=>h) (fun _=>HB.out) (Or.inl ⟨(by kernel_rfl),?_⟩) ?_;rotate_left 1
   ·(rintro w' -;go_simp;with_reducible rfl)
   refine CI 2 (some 29) (v:=?_) rfl rfl (by kernel_rfl) (fun _ _ _ h=>h) HB.out (Or.inl ⟨(by kernel_rfl),?_⟩) ?_;rotate_left 1
   ·(rintro w' h;obtain⟨a0,a1,a2,a3,a4,b0,b1,b2,b3,b4,r0⟩:=HC.out _ h;go_simp;with_reducible rfl)
   refine AM 3 (some 30) (v:=?_) rfl rfl (by kernel_rfl) (fun _ _ _ h=>h) (fun _=>HB.out) (Or.inl ⟨(by kernel_rfl),?_⟩) ?_;rotate_left 1
   ·(rintro w' -;go_simp;with_reducible rfl)
   refine AM 4 (some 31) (v:=?_) rfl rfl (by kernel_rfl) (fun _ _ _ h=>h) (fun _=>HB.out) (Or.inl ⟨(by kernel_rfl),?_⟩) ?_;rotate_left 1
   ·(rintro w' -;go_simp;with_reducible rfl)
   refine CI 5 (some 32) (v:=?_) rfl rfl (by kernel_rfl) (fun _ _ _ h=>h) HB.out (Or.inl ⟨(by kernel_rfl),?_⟩) ?_;rotate_left 1
   ·(rintro w' h;obtain⟨a0,a1,a2,a3,a4,b0,b1,b2,b3,b4,r0⟩:=HC.out _ h;go_simp;with_reducible rfl)
   refine AM 6 (some 33) (v:=?_) rfl rfl (by kernel_rfl) (fun _ _ _ h=>h) (fun _=>HB.out) (Or.inl ⟨(by kernel_rfl),?_⟩) ?_;rotate_left 1
   ·(rintro w' -;go_simp;with_reducible rfl)
   refine CI 7 (some 34) (v:=?_) rfl rfl (by kernel_rfl) (fun _ _ _ h=>h) HB.out (Or.inl ⟨(by kernel_rfl),?_⟩) ?_;rotate_left 1
   ·(rintro w' h;obtain⟨a0,a1,a2,a3,a4,b0,b1,b2,b3,b4,r0⟩:=HC.out _ h;go_simp;with_reducible rfl)
   refine AM 8 (some 35) (v:=?_) rfl rfl (by kernel_rfl) (fun _ _ _ h=>h) (fun _=>HB.out) (Or.inl ⟨(by kernel_rfl),?_⟩) ?_;rotate_left 1
   ·(rintro w' -;go_simp;with_reducible rfl)
   refine AM 9 (some 36) (v:=?_) rfl rfl (by kernel_rfl) (fun _ _ _ h=>h) (fun _=>HB.out) (Or.inl ⟨(by kernel_rfl),?_⟩) ?_;rotate_left 1
   ·(rintro w' -;go_simp;with_reducible rfl)
   refine AM 10 (some 37) (v:=?_) rfl rfl (by kernel_rfl) (fun _ _ _ h=>h) (fun _=>HB.out) (Or.inl ⟨(by kernel_rfl),?_⟩) ?_;rotate_left 1
   ·(rintro w' -;go_simp;with_reducible rfl)
   refine CI 11 (some 38) (v:=?_) rfl rfl (by kernel_rfl) (fun _ _ _ h=>h) HB.out (Or.inl ⟨(by kernel_rfl),?_⟩) ?_;rotate_left 1
   ·(rintro w' h;obtain⟨a0,a1,a2,a3,a4,b0,b1,b2,b3,b4,r0⟩:=HC.out _ h;go_simp;with_reducible rfl)
   refine AM 12 (some 39) (v:=?_) rfl rfl (by kernel_rfl) (fun _ _ _ h=>h) (fun _=>HB.out) (Or.inl ⟨(by kernel_rfl),?_⟩) ?_;rotate_left 1
   ·(rintro w' -;go_simp;with_reducible rfl)
   refine Ch [13] (by kernel_rfl) (by simp) ?_;simp only[List.forall_mem_cons,List.not_mem_nil,false_implies,implies_true,and_true];refine AO rfl (by kernel_rfl) (fun K hK=>?_);obtain⟨V,hV⟩:∃ V,V=D.alloc (fH #[J I r0',J I r1',J I r2',J I r3',J I r4',J I s0',J I s1',J I s2',J I s3',J I s4'] 340):=⟨_,rfl⟩;have HEV:=Wz (show fC D.heap.size D V by rw[hV];exact AC _ _);have HB:=Wz (AA HB.out HEV.out);have HPV:=Wz (show Blk V D.heap.size 340 #[J I r0',J I r1',J I r2',J I r3',J I r4',J I s0',J I s1',J I s2',J I s3',J I s4']by rw[hV];exact Blk.new _ _ _);have HOV:=Wz (AK HOD.out HEV.out);obtain⟨gd,hgd⟩:∃ gd,gd=D.heap.size:=⟨_,rfl⟩;go_simp;rw[<- hV,<- hgd];rw[<- hgd]at HPV;clear hV hgd;refine hK _ _ ⟨fun _=>HB.out,?_⟩;clear hK K;refine Ch [14] (by kernel_rfl) (by simp) ?_;simp only[List.forall_mem_cons,List.not_mem_nil,false_implies,implies_true,and_true];refine AO rfl (by kernel_rfl) (fun K hK=>?_);obtain⟨ha,V7,hV7,v7,hv7,ho7,hg7⟩:=Vq W0.heap.size V HB.out.size _ L (Nat.le_trans HLN.out (by decide)) HOV.out (⟨r0',r1',r2',r3',r4'⟩,⟨s0',s1',s2',s3',s4'⟩) gd HPV.out;have HO7:=Wz ho7;have HB:=Wz (HB.out.trans hg7);clear ho7 hg7;go_simp;clear ha hV7 hv7;refine hK _ _ ⟨fun _=>HB.out,?_⟩;clear hK K;refine AM 15 (some 6) (v:=?_) rfl rfl (by kernel_rfl) (fun _ _ _ h=>h) (fun _=>HB.out) (Or.inl ⟨(by kernel_rfl),?_⟩) ?_;rotate_left 1
   ·(rintro w' -;go_simp;with_reducible rfl)
   refine EF (by kernel_rfl) ?_ _;go_wp2;go_roundw
   case rel=>exact⟨k+1,m2,by have:=HM.out;have:=HM2.out;omega,HMS.out,rfl,by rw[HTK.out,List.length_append];exact HO7.out,HB.out⟩
   have:=HM2.out;have:=HMS.out;simp[intOf];omega
  have d1:decide ((m1:Int)<(rows.length:Int))=false:=decide_eq_false (by omega);have HPE:=Wz (show BO (rows.take m)=BO rows by rw[HM.out];exact J8 k rows (by have:=HM.out;have:=HM1.out;omega));rw[HPE.out]at HO;have HJ2:=Wz (HJN.out (BO rows) (by have:=HLP.out;omega) (fB Al (BO (rows.take m)).length cl) wr HE.out (by rw[HPE.out]at *;exact HO.out));generalize FO o j c sb sa old now (BO rows)=jr at *;obtain⟨M,ok⟩:=jr;dsimp only at *;have HBE:=Wz (HB0.out.ext HE.out);go_wp2_with (refine wpList_load_row rfl 297 (.tmp 2) rfl w.heap.size rfl 297 E (0,0) _ HBE.out Tryz.underlying297 rfl HI.out ?_)
  refine HJ2.out.mono ?_;rintro e W2 ⟨u,rfl,hu,hb2⟩;obtain⟨Au,cu,rfl⟩:=AI hu;have hE2:=HE.out.trans hb2;have HR2:=Wz (HR0.out.ext hE2);obtain⟨r0,r1,r2⟩:=HR2.out.all3;have f0:=HR2.out.frozen 0;obtain⟨X,hX⟩:∃ X,X=W2.setCell ⟨w.heap.size+1,0,none⟩ (fB none 0 0):=⟨_,rfl⟩;have HUX:=Wz (show X.ownsRow W0.heap.size 340 10 (fB Au M.length cu) M.length (ec Ca M)by rw[hX];exact Cf hu (r:=w.heap.size+1) (by have:=HZ0.out;omega) (fun k hk=>Below.heap_setCell _ _ _ _ hk) (by simp[fE]) rfl rfl rfl);have HRX:=Wz (show Blk X (w.heap.size+1) 36 #[fB none 0 0,J I val,R fd]by rw[hX];exact HR2.out.set_ 0 _);have HOX:=Wz (show Blk X (w.heap.size+1+1) 36 #[fB none 0 0,J I 0,R false]by rw[hX];exact(HO0.out.ext hE2).far (p:=⟨w.heap.size+1,0,none⟩) (by simp) _);have HEX:=Wz (show fC w.heap.size w X by rw[hX];exact AE (AA HE0.out hE2) (by simp) _);have HSX:=Wz (show W0.heap.size<=X.heap.size by rw[hX];simpa[fE]using hE2.size);have HXX:=Wz hX;have HML:=Wz (show M.length<=20000 by have:=HJL.out;have:=HLP.out;omega);clear hu hb2 hE2 hX HO HE HBE HJ2 HJN HJL HLP HR2 e2 e3 d1 hk hlt HM HPE HB0 HR0 HO0 HV0 HE0;have HPO:=Wz (show okJ=ok/\out=CL M from⟨HK.out,HPR.out⟩);clear hm1 hm2 HK HPJ HPR;go_upto_region 10 with(fail)
  rw[<- HXX.out];clear r0 r1 r2 f0 HXX;go_wp2;go_loopw [51] (fun iv W=>∃(k:Nat) (A':Option Addr) (c':Nat),k<=M.length/\iv=J I (k:Int)/\Blk W (w.heap.size+1) 36 #[fB A' (CL (M.take k)).length c',J I val,R fd]/\W.ownsRow W0.heap.size 67 5 (fB A' (CL (M.take k)).length c') (CL (M.take k)).length (rc (CL (M.take k)))/\W.ownsRow W0.heap.size 340 10 (fB Au M.length cu) M.length (ec Ca M)/\Blk W (w.heap.size+1+1) 36 #[fB none 0 0,J I 0,R false]/\fC w.heap.size w W/\W0.heap.size<=W.heap.size) (fun iv _=>M.length-(intOf iv).toNat)
  case atStart=>exact⟨0,none,0,Nat.zero_le _,rfl,HRX.out,World.ownsRow_nil _ _ _ _,HUX.out,HOX.out,HEX.out,HSX.out⟩
  case round=>
   obtain⟨k,A',c',hk,rfl,hR,hO,hL,hZ,hE,hS⟩:=hrel;have HR:=Wz hR;have HO:=Wz hO;have HL:=Wz hL;have HZ:=Wz hZ;have HE:=Wz hE;have HS:=Wz hS;have e2:IntKind.i64.wrap ((k:Int)+1)=(k:Int)+1:=IntWalk.i64_in _ (by have:=HML.out;omega);clear hR hO hL hZ hE hS;by_cases hlt:k<M.length
   ·obtain⟨p,hp⟩:∃ p,M[k]? = some p:=⟨_,fN hlt⟩;have HUT:=Wz (N4 M k p hp);have HUL:=Wz (show(CL (M.take k)).length<=40000 by rw[J7,List.length_take];have:=HML.out;omega);generalize CL (M.take k)=U at *;obtain⟨g,cp',hA,ho⟩:=GJ AL HL.out (by omega);injection hA with hA hn' hd'
    subst hA;subst hd';have c0:=ho.cell AL hp 0 (by decide);have c1:=ho.cell AL hp 1 (by decide);have c2:=ho.cell AL hp 2 (by decide);have c3:=ho.cell AL hp 3 (by decide);have c4:=ho.cell AL hp 4 (by decide);have c5:=ho.cell AL hp 5 (by decide);have c6:=ho.cell AL hp 6 (by decide);have c7:=ho.cell AL hp 7 (by decide);have c8:=ho.cell AL hp 8 (by decide);have c9:=ho.cell AL hp 9 (by decide);obtain⟨⟨r0',r1',r2',r3',r4'⟩,⟨s0',s1',s2',s3',s4'⟩⟩:=p;simp only[AY,Ca,List.getElem?_cons_zero,List.getElem?_cons_succ,List.cons_append,List.nil_append,Nat.add_zero]at c0 c1 c2 c3 c4 c5 c6 c7 c8 c9;dsimp only at *;have q0:(0:Int)<=(k:Int):=by omega
    have q1:(k:Int)<(M.length:Int):=by omega
    have d1:decide ((k:Int)<(M.length:Int))=true:=decide_eq_true q1;clear hp ho hn';go_upto_region 13 with(fail)
    obtain⟨Y,hY⟩:∃ Y,Y=wr.alloc (fH #[J I r0',J I r1',J I r2',J I r3',J I r4',J I s0',J I s1',J I s2',J I s3',J I s4'] 340):=⟨_,rfl⟩;obtain⟨gp,hgp⟩:∃ gp,gp=wr.heap.size:=⟨_,rfl⟩;have HEY:=Wz (show fC wr.heap.size wr Y by rw[hY];exact AC _ _);have HPY:=Wz (show Blk Y gp 340 #[J I r0',J I r1',J I r2',J I r3',J I r4',J I s0',J I s1',J I s2',J I s3',J I s4']by rw[hY,hgp];exact Blk.new _ _ _);rw[<- hY,<- hgp];clear hY hgp c0 c1 c2 c3 c4 c5 c6 c7 c8 c9 d1;have HRV:=Wz ((HR.out.ext HEY.out));have HNV:=Wz (Blk.new Y 67 #[J I r0',J I r1',J I r2',J I r3',J I r4',J I s0',J I s1',J I s2',J I s3',J I s4']);have hEV:=AC Y (fH #[J I r0',J I r1',J I r2',J I r3',J I r4',J I s0',J I s1',J I s2',J I s3',J I s4'] 67);have HE1:=Wz (AA HE.out (AA HEY.out hEV));have HS1:=Wz (Nat.le_trans HS.out (AA HEY.out hEV).size);have HO1:=Wz (AK HO.out (AA HEY.out hEV));have HL1:=Wz (AK HL.out (AA HEY.out hEV));have HR1:=Wz (HRV.out.ext hEV);have HZ1:=Wz (HZ.out.ext (AA HEY.out hEV));obtain⟨ha,V7,hV7,v7,hv7,ho7,hg7⟩:=Ek (Y.alloc (fH #[J I r0',J I r1',J I r2',J I r3',J I r4',J I s0',J I s1',J I s2',J I s3',J I s4'] 67)) W0.heap.size HS1.out (fB A' U.length c') U HO1.out _ _ (LN (x:=⟨r0',r1',r2',r3',r4'⟩) (y:=⟨s0',s1',s2',s3',s4'⟩) HNV.out) (by have:=HUL.out;simp;omega);have hB7:fC W0.heap.size (Y.alloc (fH #[J I r0',J I r1',J I r2',J I r3',J I r4',J I s0',J I s1',J I s2',J I s3',J I s4'] 67)) V7:=(Below.refl W0.heap.size _).grown hg7 HS1.out (fun k e=>(HO1.out.lt k e).1);have HR7:=Wz (HR1.out.below hB7 (by have:=HZ0.out;omega));have HZ7:=Wz (HZ1.out.below hB7 HZ0.out);have HL7:=Wz (D8 HL1.out hg7 HO1.out (by decide));have HE7:=Wz (HE1.out.trans (hB7.mono (by have:=HZ0.out;omega)));have HS7:=Wz (Nat.le_trans HS1.out hB7.size);have HO7:=Wz ho7;obtain⟨A7,c7,rfl⟩:=AI ho7;have r0:=HRV.out.cell 0;obtain⟨p0,p1,p2,p3,p4,p5,p6,p7,p8,p9⟩:=HPY.out.all10;have s0:=HR7.out.cell 0;have sf:=HR7.out.frozen 0;have r0x:=HR1.out.cell 0;have hpY:=HPY.out.lt;clear ho7 hg7 hB7 hEV;go_wp2;go_roundw
    case rel=>
     refine⟨k+1,A7,c7,by omega,by go_num,?_,?_,?_,?_,?_,?_⟩
     ·rw[HUT.out,List.length_append];exact HR7.out.set_ 0 _
     ·rw[HUT.out];exact Cf HO7.out (r:=w.heap.size+1) (by have:=HZ0.out;omega) (fun k hk=>Below.heap_setCell _ _ _ _ hk) (by simp[fE]) rfl rfl rfl
     ·exact Cf HL7.out (r:=w.heap.size+1) (by have:=HZ0.out;omega) (fun k hk=>Below.heap_setCell _ _ _ _ hk) (by simp[fE]) rfl rfl rfl
     ·exact HZ7.out.far (p:=⟨w.heap.size+1,0,none⟩) (by simp) _
     ·exact AE HE7.out (by simp) _
     simpa[fE]using HS7.out
    simp[intOf];omega
   have d1:decide ((k:Int)<(M.length:Int))=false:=decide_eq_false (by omega);have HEQ:=Wz (show M.take k=M by rw[List.take_of_length_le (by omega)]);rw[HEQ.out]at HR HO;have HFI:=Wz (show BF (fun b=>w.heap.size<=b) (((wr.setCell ⟨w.heap.size+1+1,0,none⟩ (fB A' (CL M).length c')).setCell ⟨w.heap.size+1+1,1,none⟩ (J I val)).setCell ⟨w.heap.size+1+1,2,none⟩ (R fd)) (fB A' (CL M).length c') (CL M)/\fC w.heap.size w (((wr.setCell ⟨w.heap.size+1+1,0,none⟩ (fB A' (CL M).length c')).setCell ⟨w.heap.size+1+1,1,none⟩ (J I val)).setCell ⟨w.heap.size+1+1,2,none⟩ (R fd))from by
    have hz:=HZ0.out;exact⟨(BF.set3 (CX HO.out) hz).mono (fun b h _=>by omega),AE (AE (AE HE.out (by simp;omega) _) (by simp;omega) _) (by simp;omega) _⟩)
   obtain⟨r0,r1,r2⟩:=HR.out.all3;obtain⟨o0,o1,o2⟩:=HZ.out.all3;have f0:=HZ.out.frozen 0;have f1:=HZ.out.frozen 1;have f2:=HZ.out.frozen 2;go_wp2;have hBf:=((HZ.out.set_ 0 (fB A' (CL M).length c')).set_ 1 (J I val)).set_ 2 (R fd);obtain⟨y0,y1,y2⟩:=hBf.all3;exact bodyPost_ret (v:=fJ #[fF #[fB A' (CL M).length c',J I val,R fd],R ok]) (by simp[results,Tryz.results223,go_sem,y0,y1,y2]) rfl ⟨_,_,_,by rw[HPO.out.1],(fun _=>by rw[HPO.out.2];exact HFI.out.1),HFI.out.2⟩
end
section
open Go.RowKit Go.Shelf
def VO(kd o:Int)(c:AH)(sb sa:Option AD)(mb ma:Int):Bool:=
 if kd<=2 then sb.isSome || sa.isSome
 else if kd=3 then sb.isSome != sa.isSome
 else if kd=4 then decide (mb≠ma)
 else if kd<=6 then(sb.isSome != sa.isSome) || decide (mb≠ma)
 else(sb.isSome || sa.isSome) || decide (c.t=o)
def okR(ok:Bool)(r:Bg):Option Bg:=if ok then some r else none
def Pg(kd t o:Int)(j:Nat)(c:AH)(sb sa:Option AD)(mb ma:Int)(r:Bg):Option Bg:=
 if kd<=2 then some ⟨Db j c sa r.rows,r.val,r.found⟩
 else if kd=3 then some ⟨r.rows,Uy sa.isSome r.val,r.found⟩
 else if kd=4 then some ⟨r.rows,wrap64 (r.val+wrap64 (ma-mb)),r.found⟩
 else if kd=5 then okR (Fo (fun a b=>decide (a<b)) sb.isSome sa.isSome mb ma r.val r.found).2 ⟨r.rows,(Fo (fun a b=>decide (a<b)) sb.isSome sa.isSome mb ma r.val r.found).1.1,(Fo (fun a b=>decide (a<b)) sb.isSome sa.isSome mb ma r.val r.found).1.2⟩
 else if kd=6 then okR (Fo (fun a b=>decide (b<a)) sb.isSome sa.isSome mb ma r.val r.found).2 ⟨r.rows,(Fo (fun a b=>decide (b<a)) sb.isSome sa.isSome mb ma r.val r.found).1.1,(Fo (fun a b=>decide (b<a)) sb.isSome sa.isSome mb ma r.val r.found).1.2⟩
 else okR (J9 t o j c sb sa mb ma r.rows) ⟨Ty o j c sb sa mb ma r.rows,r.val,r.found⟩
def Cc(x:Option Bg)(S:Nat->Prop)(W:fD)(ok:Bool)(u:fG)(val:Int)(fd:Bool):Prop:=match x with
 | none=>ok=false
 | some r=>ok=true/\val=r.val/\fd=r.found/\BF S W u r.rows
theorem Cc.okR{ok:Bool}{r:Bg}{S:Nat->Prop}{W:fD}{u:fG}(h:ok=true->BF S W u r.rows):Cc (okR ok r) S W ok u r.val r.found:=by
 cases ok with
 | true=>exact⟨rfl,rfl,rfl,h rfl⟩
 | false=>exact rfl
structure Ph (kd t lo hi o:Int) (j b:Nat) (ft fp:Nat) (caps:Array fG) (W0:fD):Prop where
 ent:(∀ args w,(callFunc ft args).run fI w=.ok (.enter ft args) w)/\∀ args w,(callFunc fp args).run fI w=.ok (.enter fp args) w
 tch:∀(c:AH) (pb pa:Option Addr) (sb sa:Option AD) (mb ma:Int) (W:fD),fC W0.heap.size W0 W->pb.isSome=sb.isSome->pa.isSome=sa.isSome ->
  fL fI ft #[.agg (Bp kd t (j:Int) lo hi (b:Int) o c (.pointer pb) (.pointer pa) mb ma)] W fun e W'=>e=fK (R (VO kd o c sb sa mb ma))/\fC W.heap.size W W'
 pat:∀(c:AH) (pb pa:Option Addr) (sb sa:Option AD) (mb ma:Int) (W:fD),fC W0.heap.size W0 W->pb.isSome=sb.isSome->Dm 0 W (.pointer pa) sa->∀(r:Bg) (A:Option Addr) (cc:Nat) (S:Nat->Prop),r.rows.length<=9999->(∀ x,W.heap.size<=x->S x)->BF S W (fB A r.rows.length cc) r.rows ->
  fL fI fp (#[.agg (Bp kd t (j:Int) lo hi (b:Int) o c (.pointer pb) (.pointer pa) mb ma),fF #[fB A r.rows.length cc,J I r.val,R r.found]]++caps) W fun e W'=>∃ A' n' c' val' fd' ok,e=fK (fJ #[fF #[fB A' n' c',J I val',R fd'],R ok])/\fC W.heap.size W W'/\Cc (Pg kd t o j c sb sa mb ma r) S W' ok (fB A' n' c') val' fd'
theorem BF.extS{S:Nat->Prop}{w W:fD}{v:fG}{l:List AD}(h:BF S w v l)(k:fC w.heap.size w W):BF S W v l:=h.keep (fun b _ hb=>k.block b hb) k.size
theorem Dm.same{B:Nat}{W:fD}{p:Option Addr}{o:Option AD}(h:Dm B W (.pointer p) o):p.isSome=o.isSome:=by
 cases o with
 | none=>have h1:(Value.pointer p)=.pointer none:=h;injection h1 with h1;rw[h1];rfl
 | some r=>obtain⟨g,h1,_⟩:=h;injection h1 with h1;rw[h1];rfl
theorem N5{kd t lo hi o:Int}{j b:Nat}(hj:j<4)(hk:kd<=2)(W0:fD):Ph kd t lo hi o j b 211 212 #[] W0 where
 ent:=⟨enters_of Tryz.func211 (by kernel_rfl) rfl,enters_of Tryz.func212 (by kernel_rfl) rfl⟩
 tch:=fun c pb pa sb sa mb ma W _ h1 h2=>(anyE Nq W).mono fun e W' h=>⟨by rw[h.1,h1,h2];simp[VO,hk],h.2⟩
 pat:=fun c pb pa sb sa mb ma W _ h1 h2 r A cc S hl hS hr=>(Pd hj Nq sa r.rows (by omega) _ r.val r.found W hr.rowsL h2).mono fun e W' ⟨u,he,hu,hb⟩=>by
  obtain⟨A',c',rfl,_⟩:=id hu;refine⟨A',_,c',_,_,true,he,hb,?_⟩;simp only[Pg,if_pos hk];exact⟨rfl,rfl,rfl,hu.mono fun x hx _=>hS x hx⟩
theorem Rx{t lo hi o:Int}{j b:Nat}(W0:fD):Ph 3 t lo hi o j b 213 214 #[] W0 where
 ent:=⟨enters_of Tryz.func213 (by kernel_rfl) rfl,enters_of Tryz.func214 (by kernel_rfl) rfl⟩
 tch:=fun c pb pa sb sa mb ma W _ h1 h2=>(PV Nq W).mono fun e W' h=>⟨by rw[h.1,h1,h2];rfl,h.2⟩
 pat:=fun c pb pa sb sa mb ma W _ h1 h2 r A cc S hl hS hr=>(Rh Nu A _ cc r.val r.found W).mono fun e W' h=>⟨A,_,cc,_,_,true,h.1,h.2,by
  rw[h2.same];exact⟨rfl,rfl,rfl,hr.extS h.2⟩⟩
theorem VP{t lo hi o:Int}{j b:Nat}(W0:fD):Ph 4 t lo hi o j b 215 216 #[] W0 where
 ent:=⟨enters_of Tryz.func215 (by kernel_rfl) rfl,enters_of Tryz.func216 (by kernel_rfl) rfl⟩
 tch:=fun c pb pa sb sa mb ma W _ _ _=>(WQ Nu W).mono fun e W' h=>⟨h.1,h.2⟩
 pat:=fun c pb pa sb sa mb ma W _ h1 h2 r A cc S hl hS hr=>(Uz Nu A _ cc r.val r.found W).mono fun e W' h=>⟨A,_,cc,_,_,true,h.1,h.2,⟨rfl,rfl,rfl,hr.extS h.2⟩⟩
theorem VQ{t lo hi o:Int}{j b x:Nat}(W0:fD)(hx:Blk W0 x 166 #[.func (.func 219) #[] #[]]):Ph 5 t lo hi o j b 217 236 #[.pointer (some ⟨x,0,none⟩)] W0 where
 ent:=⟨enters_of Tryz.func217 (by kernel_rfl) rfl,enters_of Tryz.func236 (by kernel_rfl) rfl⟩
 tch:=fun c pb pa sb sa mb ma W _ h1 h2=>(WR Nu W).mono fun e W' h=>⟨by rw[h.1,h1,h2];rfl,h.2⟩
 pat:=fun c pb pa sb sa mb ma W hW h1 h2 r A cc S hl hS hr=>(QK 219 (fun a b=>decide (a<b)) (enters_of Tryz.func219 (by kernel_rfl) rfl) (fun a b W=>Uw a b W) Nu A _ cc r.val r.found x W (hx.ext hW)).mono fun e W' h=>⟨A,_,cc,_,_,_,h.1,h.2,by
  rw[h1,h2.same];exact Cc.okR fun _=>hr.extS h.2⟩
theorem VR{t lo hi o:Int}{j b x:Nat}(W0:fD)(hx:Blk W0 x 166 #[.func (.func 221) #[] #[]]):Ph 6 t lo hi o j b 220 236 #[.pointer (some ⟨x,0,none⟩)] W0 where
 ent:=⟨enters_of Tryz.func220 (by kernel_rfl) rfl,enters_of Tryz.func236 (by kernel_rfl) rfl⟩
 tch:=fun c pb pa sb sa mb ma W _ h1 h2=>(WS Nu W).mono fun e W' h=>⟨by rw[h.1,h1,h2];rfl,h.2⟩
 pat:=fun c pb pa sb sa mb ma W hW h1 h2 r A cc S hl hS hr=>(QK 221 (fun a b=>decide (b<a)) (enters_of Tryz.func221 (by kernel_rfl) rfl) (fun a b W=>Ux a b W) Nu A _ cc r.val r.found x W (hx.ext hW)).mono fun e W' h=>⟨A,_,cc,_,_,_,h.1,h.2,by
  rw[h1,h2.same];exact Cc.okR fun _=>hr.extS h.2⟩
theorem Tz{t lo hi o:Int}{j b:Nat}(hj:j<4)(W0:fD):Ph 7 t lo hi o j b 222 223 #[] W0 where
 ent:=⟨enters_of Tryz.func222 (by kernel_rfl) rfl,enters_of Tryz.func223 (by kernel_rfl) rfl⟩
 tch:=fun c pb pa sb sa mb ma W _ h1 h2=>(Uv Nu W).mono fun e W' h=>⟨by rw[h.1,h1,h2];rfl,h.2⟩
 pat:=fun c pb pa sb sa mb ma W _ h1 h2 r A cc S hl hS hr=>(Pf 7 t lo hi o j b hj c sb sa pb pa mb ma rfl r.rows (by omega) A cc r.val r.found W hr.rowsL h1 h2).mono fun e W' ⟨A',n',c',he,hu,hb⟩=>⟨A',n',c',_,_,_,he,hb,Cc.okR fun h=>(hu h).mono fun x hx _=>hS x hx⟩
theorem BU.Ok.kd{q:BU}(h:q.Ok):q.kind=1∨q.kind=2∨q.kind=3∨q.kind=4∨q.kind=5∨q.kind=6∨q.kind=7:=by
 have:=h.kind;cases this <;> simp
theorem QY{kd t lo hi o:Int}{j b:Nat}(hq:BU.Ok ⟨kd,t,(j:Int),lo,hi,(b:Int),o⟩)(x4 x5:Nat)(W0:fD)(h4:Blk W0 x4 166 #[.func (.func 219) #[] #[]])(h5:Blk W0 x5 166 #[.func (.func 221) #[] #[]]) :
  ∃ ft fp caps,B6 (kvK x4 x5) kd=some (Ci ft fp caps)/\Ph kd t lo hi o j b ft fp caps W0:=by
 have hj:j<4:=by have:=hq.j;dsimp only at this;omega
 have hk:=hq.kd;dsimp only at hk;rcases hk with rfl|rfl|rfl|rfl|rfl|rfl|rfl
 ·exact⟨_,_,_,rfl,N5 hj (by decide) W0⟩
 ·exact⟨_,_,_,rfl,N5 hj (by decide) W0⟩
 ·exact⟨_,_,_,rfl,Rx W0⟩
 ·exact⟨_,_,_,rfl,VP W0⟩
 ·exact⟨_,_,_,rfl,VQ W0 h4⟩
 ·exact⟨_,_,_,rfl,VR W0 h5⟩
 exact⟨_,_,_,rfl,Tz hj W0⟩
theorem kentT{kd t lo hi o:Int}{j b:Nat}(hq:BU.Ok ⟨kd,t,(j:Int),lo,hi,(b:Int),o⟩)(c:AH){E:fG->fG->Int->Int->Array fG}(hE:E=Bp kd t (j:Int) lo hi (b:Int) o c)(x4 x5:Nat)(V:fD)(h4:Blk V x4 166 #[.func (.func 219) #[] #[]])(h5:Blk V x5 166 #[.func (.func 221) #[] #[]])(sb sa:Option AD)(mb ma:Int){res:Bool}(hres:VO kd o c sb sa mb ma=res) :
  ∃ ft fp caps,B6 (kvK x4 x5) kd=some (Ci ft fp caps)/\(∀ args w,(callFunc ft args).run fI w=.ok (.enter ft args) w)/\∀(pb pa:Option Addr) (W:fD),fC V.heap.size V W->pb.isSome=sb.isSome->pa.isSome=sa.isSome->fL fI ft #[.agg (E (.pointer pb) (.pointer pa) mb ma)] W fun e W'=>e=fK (R res)/\fC W.heap.size W W':=by
 obtain⟨ft,fp,caps,h1,h2⟩:=QY hq x4 x5 V h4 h5;subst hE hres;exact⟨ft,fp,caps,h1,h2.ent.1,fun pb pa W h6 h7 h8=>h2.tch c pb pa sb sa mb ma W h6 h7 h8⟩
theorem kentP{kd t lo hi o:Int}{j b:Nat}(hq:BU.Ok ⟨kd,t,(j:Int),lo,hi,(b:Int),o⟩)(c:AH){E:fG->fG->Int->Int->Array fG}(hE:E=Bp kd t (j:Int) lo hi (b:Int) o c)(x4 x5:Nat)(V:fD)(h4:Blk V x4 166 #[.func (.func 219) #[] #[]])(h5:Blk V x5 166 #[.func (.func 221) #[] #[]])(sb sa:Option AD)(mb ma:Int)(r:Bg)(hl:r.rows.length<=9999){res:Option Bg}(hres:Pg kd t o j c sb sa mb ma r=res) :
  ∃ ft fp caps,B6 (kvK x4 x5) kd=some (Ci ft fp caps)/\(∀ args w,(callFunc fp args).run fI w=.ok (.enter fp args) w)/\∀(pb pa:Option Addr) (W:fD),fC V.heap.size V W->pb.isSome=sb.isSome->Dm 0 W (.pointer pa) sa->∀(A:Option Addr) (cc:Nat) (S:Nat->Prop),(∀ x,W.heap.size<=x->S x)->BF S W (fB A r.rows.length cc) r.rows ->
   fL fI fp (#[.agg (E (.pointer pb) (.pointer pa) mb ma),fF #[fB A r.rows.length cc,J I r.val,R r.found]]++caps) W fun e W'=>∃ A' n' c' val' fd' ok,e=fK (fJ #[fF #[fB A' n' c',J I val',R fd'],R ok])/\fC W.heap.size W W'/\Cc res S W' ok (fB A' n' c') val' fd':=by
 obtain⟨ft,fp,caps,h1,h2⟩:=QY hq x4 x5 V h4 h5;subst hE hres;exact⟨ft,fp,caps,h1,h2.ent.2,fun pb pa W h6 h7 h8 A cc S h9 h10=>h2.pat c pb pa sb sa mb ma W h6 h7 h8 r A cc S hl h9 h10⟩
theorem Wo(a b:Nat)(caps:Array fG)(w:fD):(Instr.field 292 (fF #[.func (.func a) #[] #[],.func (.func b) #[] caps]) 0).run fI w=.ok (.func (.func a) #[] #[]) w:=by kernel_rfl
theorem T0(a b:Nat)(caps:Array fG)(w:fD):(Instr.field 292 (fF #[.func (.func a) #[] #[],.func (.func b) #[] caps]) 1).run fI w=.ok (.func (.func b) #[] caps) w:=by kernel_rfl
theorem T1(w:fD):(zeroValue 292).run fI w=.ok (fF #[.nilFunc,.nilFunc]) w:=by kernel_rfl
theorem BF.off3{S:Nat->Prop}{W:fD}{z:Nat}{v a b c:fG}{l:List AD}(h:BF S W v l)(hz:¬ S z):BF S (fE (fE (fE W ⟨z,0,none⟩ a) ⟨z,1,none⟩ b) ⟨z,2,none⟩ c) v l:=
 h.keep (fun k hk _=>by
  have hne:¬ k=z:=fun e=>hz (e ▸ hk);rw[Below.heap_setCell _ _ _ _ (by dsimp only;exact hne),Below.heap_setCell _ _ _ _ (by dsimp only;exact hne),Below.heap_setCell _ _ _ _ (by dsimp only;exact hne)]) (by simp[fE])
end
section
open Go.RowKit Go.Shelf
attribute [local go_sem ↓] Go.wp_at_zero Go.wp_at_succ
theorem Cc.extS{x:Option Bg}{S:Nat->Prop}{w W:fD}{ok:Bool}{u:fG}{val:Int}{fd:Bool}(h:Cc x S w ok u val fd)(k:fC w.heap.size w W):Cc x S W ok u val fd:=by
 cases x with
 | none=>exact h
 | some r=>exact⟨h.1,h.2.1,h.2.2.1,h.2.2.2.extS k⟩
theorem Cc.ne{x:Option Bg}{B g:Nat}{w:fD}{ok:Bool}{u:fG}{val:Int}{fd:Bool}(h:Cc x (fun x=>B<=x) w ok u val fd)(hg:g=w.heap.size):Cc x (fun x=>B<=x/\x≠g) w ok u val fd:=by
 cases x with
 | none=>exact h
 | some r=>exact⟨h.1,h.2.1,h.2.2.1,h.2.2.2.mono fun x hx hl=>⟨hx,by omega⟩⟩
theorem Cc.off3{x:Option Bg}{B z:Nat}{W:fD}{ok:Bool}{u a b c:fG}{val:Int}{fd:Bool}(h:Cc x (fun x=>B<=x/\x≠z) W ok u val fd):Cc x (fun x=>B<=x) (fE (fE (fE W ⟨z,0,none⟩ a) ⟨z,1,none⟩ b) ⟨z,2,none⟩ c) ok u val fd:=by
 cases x with
 | none=>exact h
 | some r=>exact⟨h.1,h.2.1,h.2.2.1,(h.2.2.2.off3 (fun e=>e.2 rfl)).mono fun x hx _=>hx.1⟩
theorem Cc.none{x:Option Bg}{S:Nat->Prop}{W:fD}{u:fG}{val:Int}{fd:Bool}(h:Cc x S W false u val fd):x=Option.none:=by
 cases x with
 | none=>rfl
 | some r=>exact absurd h.1 (by simp)
def MX(kd t lo hi o:Int)(j b:Nat)(c:AH):Bool:=VO kd o c (BX t j lo hi (Dx c)) (BX t j lo hi (DK c)) (DL b (BX t j lo hi (Dx c))) (DL b (BX t j lo hi (DK c)))
def Hr(kd t lo hi o:Int)(j b:Nat)(c:AH)(r:Bg):Option Bg:=if MX kd t lo hi o j b c then Pg kd t o j c (BX t j lo hi (Dx c)) (BX t j lo hi (DK c)) (DL b (BX t j lo hi (Dx c))) (DL b (BX t j lo hi (DK c))) r else some r
theorem BU.Ok.by4{kd t lo hi o:Int}{j b:Nat}(hq:BU.Ok ⟨kd,t,(j:Int),lo,hi,(b:Int),o⟩):j<4/\b<4:=by
 refine⟨by have:=hq.j;dsimp only at this;omega,?_⟩;have h9:=hq.kind;generalize hbb:(b:Int)=bb at h9;cases h9 <;> omega
theorem N6(kd t lo hi o:Int)(j b:Nat)(hq:BU.Ok ⟨kd,t,(j:Int),lo,hi,(b:Int),o⟩)(c:AH)(hc:c.ok)(hct:c.turns=true)(w:fD) :
  fL fI 153 #[fF #[J I kd,J I t,J I (j:Int),J I lo,J I hi,J I (b:Int),J I o],.agg c.arr] w fun e w'=>e=fK (R (MX kd t lo hi o j b c))/\fC w.heap.size w w':=by
 have HQV:=Wz (fun W:fD=>BQ _ hq W);have HCV:=Wz (fun W:fD=>FJ c hc W);rw[hct]at HCV;have HEF:=Wz (fun W:fD=>Hh kd t lo hi o j b hq.by4.1 hq.by4.2 c W);obtain⟨E,hE⟩:∃ E,E=Bp kd t (j:Int) lo hi (b:Int) o c:=⟨_,rfl⟩;have HKT:=Wz (fun(x4 x5:Nat)(V:fD) h4 h5=>kentT hq c hE x4 x5 V h4 h5 (BX t j lo hi (Dx c)) (BX t j lo hi (DK c)) (DL b (BX t j lo hi (Dx c))) (DL b (BX t j lo hi (DK c))) (res:=MX kd t lo hi o j b c) rfl);rw[<- hE]at HEF;generalize MX kd t lo hi o j b c=res at *;generalize BX t j lo hi (Dx c)=sb at *;generalize BX t j lo hi (DK c)=sa at *;generalize DL b sb=mb at *;generalize DL b sa=ma at *;clear hE;obtain⟨c0,c1,had,o1,o2,o3,has,n1,n2,n3⟩:=c;dsimp only[AH.arr,BU.arr]at *;obtain⟨X,hX⟩:∃ X,X=(w.alloc (fH #[J I kd,J I t,J I (j:Int),J I lo,J I hi,J I (b:Int),J I o] 33)).alloc (fH #[J I c0,J I c1,R had,J I o1,J I o2,J I o3,R has,J I n1,J I n2,J I n3] 72):=⟨_,rfl⟩;have HE0:=Wz (show fC w.heap.size w X by rw[hX];exact AB (AC _ _) _);have HQ0:=Wz (show Blk X w.heap.size 33 #[J I kd,J I t,J I (j:Int),J I lo,J I hi,J I (b:Int),J I o]by rw[hX];exact(Blk.new _ _ _).alloc _);have HC0:=Wz (show Blk X (w.heap.size+1) 72 #[J I c0,J I c1,R had,J I o1,J I o2,J I o3,R has,J I n1,J I n2,J I n3]by rw[hX];exact Blk.new' _ _ _ (by simp));have HB:=Wz (show fC X.heap.size X X.drew from(AF X).drew);have HX:=Wz hX;clear hX hq hc hct;go_enter Tryz.func153,Tryz.ntmps153;go_upto_region 1 with(fail)
 rw[<- HX.out];refine DM (fun Z=>fC X.heap.size X Z) [] (by kernel_rfl) ?_;refine CI 0 (some 5) (v:=?_) rfl rfl (by kernel_rfl) (fun _ _ _ h=>h) HB.out (Or.inl ⟨(by kernel_rfl),?_⟩) ?_;rotate_left 1
 ·(rintro w' h;obtain⟨q0,q1,q2,q3,q4,q5,q6⟩:=(HQ0.out.ext h).all7;go_simp;with_reducible rfl)
 refine Ch [1] (by kernel_rfl) (by simp) ?_;simp only[List.forall_mem_cons,List.not_mem_nil,false_implies,implies_true,and_true];refine AO rfl (by kernel_rfl) (fun K hK=>?_);go_simp;refine(HQV.out _).mono ?_;rintro e V1 ⟨rfl,hbv⟩;have HB:=Wz (AA HB.out hbv);clear hbv;refine hK _ _ ⟨fun _=>HB.out,?_⟩;clear hK K;refine AM 2 (some 7) (v:=?_) rfl rfl (by kernel_rfl) (fun _ _ _ h=>h) (fun _=>HB.out) (Or.inl ⟨(by kernel_rfl),?_⟩) ?_;rotate_left 1
 ·(rintro w' -;go_simp;with_reducible rfl)
 refine CI 3 (some 8) (v:=?_) rfl rfl (by kernel_rfl) (fun _ _ _ h=>h) HB.out (Or.inl ⟨(by kernel_rfl),?_⟩) ?_;rotate_left 1
 ·(rintro w' h;obtain⟨z0,z1,z2,z3,z4,z5,z6,z7,z8,z9⟩:=(HC0.out.ext h).all10;go_simp;with_reducible rfl)
 refine Ch [4] (by kernel_rfl) (by simp) ?_;simp only[List.forall_mem_cons,List.not_mem_nil,false_implies,implies_true,and_true];refine AO rfl (by kernel_rfl) (fun K hK=>?_);go_simp;refine(HCV.out _).mono ?_;rintro e V4 ⟨rfl,hbv⟩;have HB:=Wz (AA HB.out hbv);clear hbv;refine hK _ _ ⟨fun _=>HB.out,?_⟩;clear hK K;refine AM 5 (some 10) (v:=?_) rfl rfl (by kernel_rfl) (fun _ _ _ h=>h) (fun _=>HB.out) (Or.inl ⟨(by kernel_rfl),?_⟩) ?_;rotate_left 1
 ·(rintro w' -;go_simp;with_reducible rfl)
 refine AM 6 (some 11) (v:=?_) rfl rfl (by kernel_rfl) (fun _ _ _ h=>h) (fun _=>HB.out) (Or.inl ⟨(by kernel_rfl),?_⟩) ?_;rotate_left 1
 ·(rintro w' -;go_simp;with_reducible rfl)
 refine AM 8 (some 13) (v:=?_) rfl rfl (by kernel_rfl) (fun _ _ _ h=>h) (fun _=>HB.out) (Or.inl ⟨(by kernel_rfl),?_⟩) ?_;rotate_left 1
 ·(rintro w' -;go_simp;with_reducible rfl)
 refine CI 9 (some 14) (v:=?_) rfl rfl (by kernel_rfl) (fun _ _ _ h=>h) HB.out (Or.inl ⟨(by kernel_rfl),?_⟩) ?_;rotate_left 1
 ·(rintro w' h;have q0:=(HQ0.out.ext h).cell 0;go_simp;with_reducible rfl)
 refine CI 12 (some 17) (v:=?_) rfl rfl (by kernel_rfl) (fun _ _ _ h=>h) HB.out (Or.inl ⟨(by kernel_rfl),?_⟩) ?_;rotate_left 1
 ·(rintro w' h;obtain⟨q0,q1,q2,q3,q4,q5,q6⟩:=(HQ0.out.ext h).all7;go_simp;with_reducible rfl)
 refine CI 13 (some 18) (v:=?_) rfl rfl (by kernel_rfl) (fun _ _ _ h=>h) HB.out (Or.inl ⟨(by kernel_rfl),?_⟩) ?_;rotate_left 1
 ·(rintro w' h;obtain⟨z0,z1,z2,z3,z4,z5,z6,z7,z8,z9⟩:=(HC0.out.ext h).all10;go_simp;with_reducible rfl)
 refine Ch [7] (by kernel_rfl) (by simp) ?_;simp only[List.forall_mem_cons,List.not_mem_nil,false_implies,implies_true,and_true];refine AO rfl (by kernel_rfl) (fun K hK=>?_);go_simp;refine(PM _).mono ?_;rintro e V7 ⟨g,x4,x5,rfl,hm,h4,h5,hbv⟩;have HB:=Wz (AA HB.out hbv);obtain⟨ft,fp,caps,hkv,eg,hke⟩:=HKT.out x4 x5 V7 h4 h5;have HM:=Wz hm;have HKV:=Wz hkv;have HKE:=Wz hke;have HB7:=Wz (AF V7);have hkf:=Wo ft fp caps;clear hbv hm h4 h5 hkv hke;refine hK _ _ ⟨fun _=>HB.out,?_⟩;clear hK K;refine QG (G':=fun Z=>fC V7.heap.size V7 Z) (fun Z h=>AA HB.out h) _ _ _ _ ?_;refine CI 10 (some 15) (v:=?_) rfl rfl (by kernel_rfl) (fun _ _ _ h=>h) HB7.out (Or.inl ⟨(by kernel_rfl),?_⟩) ?_;rotate_left 1
 ·(rintro w' h;have hlk:=JL (P:=fI) Tryz.underlying293 Tryz.underlying3 (HM.out.ext h) kd (T1 _);rw[HKV.out]at hlk;simp only[Option.getD_some,Ci]at hlk;go_simp;with_reducible rfl)
 refine AM 11 (some 16) (v:=?_) rfl rfl (by kernel_rfl) (fun _ _ _ h=>h) (fun _=>HB7.out) (Or.inl ⟨(by kernel_rfl),?_⟩) ?_;rotate_left 1
 ·(rintro w' -;go_simp;with_reducible rfl)
 refine Ch [14] (by kernel_rfl) (by simp) ?_;simp only[List.forall_mem_cons,List.not_mem_nil,false_implies,implies_true,and_true];refine AO rfl (by kernel_rfl) (fun K hK=>?_);go_simp;refine(HEF.out _).mono ?_;rintro e V14 ⟨pb,pa,rfl,hpb,hpa,hbv⟩;obtain⟨pbp,rfl,hsb⟩:=hpb.shape;obtain⟨pap,rfl,hsa⟩:=hpa.shape;have HKC:=Wz (HKE.out pbp pap V14 (AA HB7.out hbv) hsb hsa);have HB7:=Wz (AA HB7.out hbv);clear hbv hpb hpa hsb hsa;refine hK _ _ ⟨fun _=>HB7.out,?_⟩;clear hK K;refine Ch [15] (by kernel_rfl) (by simp) ?_;simp only[List.forall_mem_cons,List.not_mem_nil,false_implies,implies_true,and_true];refine AO rfl (by kernel_rfl) (fun K hK=>?_);go_simp;refine HKC.out.mono ?_;rintro e V15 ⟨rfl,hbv⟩;have HB7:=Wz (AA HB7.out hbv);clear hbv;refine hK _ _ ⟨fun _=>HB7.out,?_⟩;clear hK K;refine AM 16 (some 21) (v:=?_) rfl rfl (by kernel_rfl) (fun _ _ _ h=>h) (fun _=>HB7.out) (Or.inl ⟨(by kernel_rfl),?_⟩) ?_;rotate_left 1
 ·(rintro w' -;go_simp;with_reducible rfl)
 refine AM 17 (some 4) (v:=?_) rfl rfl (by kernel_rfl) (fun _ _ _ h=>h) (fun _=>HB7.out) (Or.inl ⟨(by kernel_rfl),?_⟩) ?_;rotate_left 1
 ·(rintro w' -;go_simp;with_reducible rfl)
 refine EF (by kernel_rfl) ?_ _;have HE9:=Wz (AA HE0.out (AA HB.out HB7.out));go_wp2;go_ret;exact⟨rfl,HE9.out⟩
theorem Wp(kd t lo hi o:Int)(j b:Nat)(hq:BU.Ok ⟨kd,t,(j:Int),lo,hi,(b:Int),o⟩)(c:AH)(hc:c.ok)(hct:c.turns=true)(r:Bg)(hl:r.rows.length<=9999)(v:fG)(w:fD)(hv:AR w v r.rows) :
  fL fI 154 #[fF #[J I kd,J I t,J I (j:Int),J I lo,J I hi,J I (b:Int),J I o],fF #[v,J I r.val,R r.found],.agg c.arr] w fun e w'=>∃ A' n' c' val' fd' ok,e=fK (fJ #[fF #[fB A' n' c',J I val',R fd'],R ok])/\Cc (Hr kd t lo hi o j b c r) (fun x=>w.heap.size<=x) w' ok (fB A' n' c') val' fd'/\fC w.heap.size w w':=by
 have HTO:=Wz (fun W:fD=>N6 kd t lo hi o j b hq c hc hct W);have HEF:=Wz (fun W:fD=>Hh kd t lo hi o j b hq.by4.1 hq.by4.2 c W);obtain⟨E,hE⟩:∃ E,E=Bp kd t (j:Int) lo hi (b:Int) o c:=⟨_,rfl⟩;obtain⟨pat,hpat⟩:∃ pat,Pg kd t o j c (BX t j lo hi (Dx c)) (BX t j lo hi (DK c)) (DL b (BX t j lo hi (Dx c))) (DL b (BX t j lo hi (DK c))) r=pat:=⟨_,rfl⟩;have HKP:=Wz (fun(x4 x5:Nat)(V:fD) h4 h5=>kentP hq c hE x4 x5 V h4 h5 (BX t j lo hi (Dx c)) (BX t j lo hi (DK c)) (DL b (BX t j lo hi (Dx c))) (DL b (BX t j lo hi (DK c))) r hl hpat);have HPF:=Wz (show Hr kd t lo hi o j b c r=if MX kd t lo hi o j b c then pat else some r by rw[<- hpat];rfl);rw[<- hE]at HEF;generalize Hr kd t lo hi o j b c r=out at *;generalize MX kd t lo hi o j b c=tch at *;clear hpat;generalize BX t j lo hi (Dx c)=sb at *;generalize BX t j lo hi (DK c)=sa at *;generalize DL b sb=mb at *;generalize DL b sa=ma at *;clear hE;obtain⟨l,val,fd⟩:=r;obtain⟨c0,c1,had,o1,o2,o3,has,n1,n2,n3⟩:=c;dsimp only[AH.arr,BU.arr]at *;obtain⟨W0,hW0⟩:∃ W0,W0=(((w.alloc (fH #[J I kd,J I t,J I (j:Int),J I lo,J I hi,J I (b:Int),J I o] 33)).alloc (fH #[v,J I val,R fd] 36)).alloc (fH #[J I c0,J I c1,R had,J I o1,J I o2,J I o3,R has,J I n1,J I n2,J I n3] 72)).alloc (fH #[fB none 0 0,J I 0,R false] 36):=⟨_,rfl⟩;have HE0:=Wz (show fC w.heap.size w W0 by rw[hW0];exact AB (AB (AB (AC _ _) _) _) _);have HQ0:=Wz (show Blk W0 w.heap.size 33 #[J I kd,J I t,J I (j:Int),J I lo,J I hi,J I (b:Int),J I o]by rw[hW0];exact(((Blk.new _ _ _).alloc _).alloc _).alloc _);have HR0:=Wz (show Blk W0 (w.heap.size+1) 36 #[v,J I val,R fd]by rw[hW0];exact((Blk.new' _ _ _ (by simp)).alloc _).alloc _);have HC0:=Wz (show Blk W0 (w.heap.size+1+1) 72 #[J I c0,J I c1,R had,J I o1,J I o2,J I o3,R has,J I n1,J I n2,J I n3]by rw[hW0];exact(Blk.new' _ _ _ (by simp)).alloc _);have HO0:=Wz (show Blk W0 (w.heap.size+1+1+1) 36 #[fB none 0 0,J I 0,R false]by rw[hW0];exact Blk.new' _ _ _ (by simp));have HZ0:=Wz (show w.heap.size+1+1+1<W0.heap.size from HO0.out.lt)
 have HCL:=Wz (EG l v (by omega) W0 (hv.ext HE0.out));have HW0:=Wz hW0;obtain⟨A,cc,rfl,-⟩:=hv;clear hW0 hq hc hct hl;go_enter Tryz.func154,Tryz.ntmps154;go_upto_region 1 with(fail)
 rw[<- HW0.out];have r0:=HR0.out.cell 0;go_wp2_with fail
 refine HCL.out.mono ?_;rintro e W1 ⟨u,rfl,hu,hb1⟩;have hR1:=HR0.out.ext hb1;have HE1:=Wz (AA HE0.out hb1);obtain⟨Au,cu,rfl⟩:=AI hu;have r0:=hR1.cell 0;have f0:=hR1.frozen 0;obtain⟨X,hX⟩:∃ X,X=W1.setCell ⟨w.heap.size+1,0,none⟩ (fB Au l.length cu):=⟨_,rfl⟩;have HQX:=Wz (show Blk X w.heap.size 33 #[J I kd,J I t,J I (j:Int),J I lo,J I hi,J I (b:Int),J I o]by rw[hX];exact(HQ0.out.ext hb1).far (p:=⟨w.heap.size+1,0,none⟩) (by simp) _);have HRX:=Wz (show Blk X (w.heap.size+1) 36 #[fB Au l.length cu,J I val,R fd]by rw[hX];exact hR1.set_ 0 _);have HCX:=Wz (show Blk X (w.heap.size+1+1) 72 #[J I c0,J I c1,R had,J I o1,J I o2,J I o3,R has,J I n1,J I n2,J I n3]by rw[hX];exact(HC0.out.ext hb1).far (p:=⟨w.heap.size+1,0,none⟩) (by simp) _);have HOX:=Wz (show Blk X (w.heap.size+1+1+1) 36 #[fB none 0 0,J I 0,R false]by rw[hX];exact(HO0.out.ext hb1).far (p:=⟨w.heap.size+1,0,none⟩) (by simp <;> omega) _);have HEX:=Wz (show fC w.heap.size w X by rw[hX];exact AE HE1.out (by simp) _);have HLX:=Wz (show BF (fun x=>W0.heap.size<=x) X (fB Au l.length cu) l by rw[hX];exact CX (Cf hu (r:=w.heap.size+1) (by have:=HZ0.out;omega) (fun k hk=>Below.heap_setCell _ _ _ _ hk) (by simp[fE]) rfl rfl rfl));have HXX:=Wz hX;have HSX:=Wz (show W0.heap.size<=X.heap.size by rw[hX];simpa[fE]using hb1.size);clear hu hb1 hR1 hX HR0 HO0 HQ0 HC0 HCL HE0;go_upto_region 2 with(fail)
 rw[<- HXX.out];clear r0 f0 HXX;obtain⟨q0,q1,q2,q3,q4,q5,q6⟩:=HQX.out.all7;obtain⟨z0,z1,z2,z3,z4,z5,z6,z7,z8,z9⟩:=HCX.out.all10;go_wp2_with fail
 refine(HTO.out _).mono ?_;rintro e W2 ⟨rfl,hb2⟩;have HQ2:=Wz (HQX.out.ext hb2);have HR2:=Wz (HRX.out.ext hb2);have HC2:=Wz (HCX.out.ext hb2);have HO2:=Wz (HOX.out.ext hb2);have HL2:=Wz (HLX.out.extS hb2);have HE2:=Wz (AA HEX.out hb2);have HS2:=Wz (Nat.le_trans HSX.out hb2.size);have HFI:=Wz (fun(V:fD)(A':Option Addr)(n' c':Nat)(val':Int)(fd' ok:Bool)(x:Option Bg)(hp:Cc x (fun x=>W0.heap.size<=x) V ok (fB A' n' c') val' fd')(hE:fC w.heap.size w V)=>(show Cc x (fun x=>w.heap.size<=x) (((V.setCell ⟨w.heap.size+1+1+1,0,none⟩ (fB A' n' c')).setCell ⟨w.heap.size+1+1+1,1,none⟩ (J I val')).setCell ⟨w.heap.size+1+1+1,2,none⟩ (R fd')) ok (fB A' n' c') val' fd'/\fC w.heap.size w (((V.setCell ⟨w.heap.size+1+1+1,0,none⟩ (fB A' n' c')).setCell ⟨w.heap.size+1+1+1,1,none⟩ (J I val')).setCell ⟨w.heap.size+1+1+1,2,none⟩ (R fd'))from by
  have hz:=HZ0.out;refine⟨?_,AE (AE (AE hE (by simp;omega) _) (by simp;omega) _) (by simp;omega) _⟩
  cases x with
  | none=>exact hp
  | some r=>exact⟨hp.1,hp.2.1,hp.2.2.1,(hp.2.2.2.off3 (by omega)).mono fun x hx _=>by omega⟩))
 clear q0 q1 q2 q3 q4 q5 q6 z0 z1 z2 z3 z4 z5 z6 z7 z8 z9 hb2 HQX HRX HCX HOX HLX HEX HTO
 cases tch with
 | false=>
  have HOU:=Wz (show out=some ⟨l,val,fd⟩by rw[HPF.out];rfl);have HF2:=Wz (HFI.out W2 Au l.length cu val fd true (some ⟨l,val,fd⟩) ⟨rfl,rfl,rfl,HL2.out⟩ HE2.out);obtain⟨r0,r1,r2⟩:=HR2.out.all3;obtain⟨o0,o1,o2⟩:=HO2.out.all3;have f0:=HO2.out.frozen 0;have f1:=HO2.out.frozen 1;have f2:=HO2.out.frozen 2;go_wp2;have hBf:=((HO2.out.set_ 0 (fB Au l.length cu)).set_ 1 (J I val)).set_ 2 (R fd);obtain⟨y0,y1,y2⟩:=hBf.all3;exact bodyPost_ret (v:=fJ #[fF #[fB Au l.length cu,J I val,R fd],R true]) (by simp[results,Tryz.results154,go_sem,y0,y1,y2]) rfl ⟨_,_,_,_,_,_,rfl,by rw[HOU.out];exact HF2.out.1,HF2.out.2⟩
 | true =>
  have HOU:=Wz (show out=pat by rw[HPF.out];rfl);have HB:=Wz (show fC W2.heap.size W2 W2.drew from(AF W2).drew);go_wp2;have HW2:=Wz (show W0.heap.size<=W2.heap.size from HS2.out);refine DM (fun Z=>fC W2.heap.size W2 Z) [14] (by kernel_rfl) ?_;generalize W2.drew=D at HB ⊢;refine AM 1 (some 21) (v:=?_) rfl rfl (by kernel_rfl) (fun _ _ _ h=>h) (fun _=>HB.out) (Or.inl ⟨(by kernel_rfl),?_⟩) ?_;rotate_left 1
  ·(rintro w' -;go_simp;with_reducible rfl)
  refine CI 2 (some 22) (v:=?_) rfl rfl (by kernel_rfl) (fun _ _ _ h=>h) HB.out (Or.inl ⟨(by kernel_rfl),?_⟩) ?_;rotate_left 1
  ·(rintro w' h;have q0:=(HQ2.out.ext h).cell 0;go_simp;with_reducible rfl)
  refine CI 5 (some 25) (v:=?_) rfl rfl (by kernel_rfl) (fun _ _ _ h=>h) HB.out (Or.inl ⟨(by kernel_rfl),?_⟩) ?_;rotate_left 1
  ·(rintro w' h;obtain⟨q0,q1,q2,q3,q4,q5,q6⟩:=(HQ2.out.ext h).all7;go_simp;with_reducible rfl)
  refine CI 6 (some 26) (v:=?_) rfl rfl (by kernel_rfl) (fun _ _ _ h=>h) HB.out (Or.inl ⟨(by kernel_rfl),?_⟩) ?_;rotate_left 1
  ·(rintro w' h;obtain⟨z0,z1,z2,z3,z4,z5,z6,z7,z8,z9⟩:=(HC2.out.ext h).all10;go_simp;with_reducible rfl)
  refine CI 8 (some 28) (v:=?_) rfl rfl (by kernel_rfl) (fun _ _ _ h=>h) HB.out (Or.inl ⟨(by kernel_rfl),?_⟩) ?_;rotate_left 1
  ·(rintro w' h;obtain⟨r0,r1,r2⟩:=(HR2.out.ext h).all3;go_simp;with_reducible rfl)
  refine Ch [0,13] (by kernel_rfl) (by simp) ?_;simp only[List.forall_mem_cons,List.not_mem_nil,false_implies,implies_true,and_true];refine⟨?_,?_⟩
  ·refine AO rfl (by kernel_rfl) (fun K hK=>?_);go_simp;refine(PM _).mono ?_;rintro e V0 ⟨g,x4,x5,rfl,hm,h4,h5,hbv⟩;have HB:=Wz (AA HB.out hbv);obtain⟨ft,fp,caps,hkv,eg,hke⟩:=HKP.out x4 x5 V0 h4 h5;have HM:=Wz hm;have HKV:=Wz hkv;have HKE:=Wz hke;have HB7:=Wz (AF V0);have HBV:=Wz HB.out;have hkf:=T0 ft fp caps;clear hbv hm h4 h5 hkv hke;refine hK _ _ ⟨fun _=>HB.out,?_⟩;clear hK K;refine QG (G':=fun Z=>fC V0.heap.size V0 Z) (fun Z h=>AA HBV.out h) _ _ _ _ ?_;refine CI 3 (some 23) (v:=?_) rfl rfl (by kernel_rfl) (fun _ _ _ h=>h) HB7.out (Or.inl ⟨(by kernel_rfl),?_⟩) ?_;rotate_left 1
   ·(rintro w' h;have hlk:=JL (P:=fI) Tryz.underlying293 Tryz.underlying3 (HM.out.ext h) kd (T1 _);rw[HKV.out]at hlk;simp only[Option.getD_some,Ci]at hlk;go_simp;with_reducible rfl)
   refine AM 4 (some 24) (v:=?_) rfl rfl (by kernel_rfl) (fun _ _ _ h=>h) (fun _=>HB7.out) (Or.inl ⟨(by kernel_rfl),?_⟩) ?_;rotate_left 1
   ·(rintro w' -;go_simp;with_reducible rfl)
   refine Ch [7,13] (by kernel_rfl) (by simp) ?_;simp only[List.forall_mem_cons,List.not_mem_nil,false_implies,implies_true,and_true];refine⟨?_,?_⟩
   ·refine AO rfl (by kernel_rfl) (fun K hK=>?_);go_simp;refine(HEF.out _).mono ?_;rintro e V7 ⟨pb,pa,rfl,hpb,hpa,hbv⟩;obtain⟨pbp,rfl,hsb⟩:=hpb.shape;obtain⟨pap,rfl,hsa⟩:=hpa.shape;have HB7:=Wz (AA HB7.out hbv);have HB:=Wz (AA HB.out hbv);have HPA:=Wz (hpa.mono (Nat.zero_le _));have HSB:=Wz hsb;obtain⟨E7,hE7⟩:∃ E7,E7=E (.pointer pbp) (.pointer pap) mb ma:=⟨_,rfl⟩;have HKE:=Wz (fun W h1 h2=>HKE.out pbp pap W h1 HSB.out h2);rw[<- hE7]at HKE ⊢;clear hbv hpb hpa hsb hsa hE7;refine hK _ _ ⟨fun _=>HB7.out,?_⟩;clear hK K;refine Ch [9,13] (by kernel_rfl) (by simp) ?_;simp only[List.forall_mem_cons,List.not_mem_nil,false_implies,implies_true,and_true];refine⟨?_,?_⟩
    ·refine AO rfl (by kernel_rfl) (fun K hK=>?_);go_simp;refine(HKE.out _ HB7.out HPA.out Au cu (fun x=>W0.heap.size<=x) (fun x hx=>Nat.le_trans (Nat.le_trans HW2.out HB.out.size) hx) (HL2.out.extS HB.out)).mono ?_;rintro e V9 ⟨A9,n9,c9,val9,fd9,ok9,rfl,hbv,hr⟩;have HPA:=Wz (HPA.out.ext hbv);have HB7:=Wz (AA HB7.out hbv);have HB:=Wz (AA HB.out hbv);have HRW:=Wz hr;clear hbv hr;refine hK _ _ ⟨fun _=>HB7.out,?_⟩;clear hK K;refine AM 10 (some 19) (v:=?_) rfl rfl (by kernel_rfl) (fun _ _ _ h=>h) (fun _=>HB7.out) (Or.inl ⟨(by kernel_rfl),?_⟩) ?_;rotate_left 1
     ·(rintro w' -;go_simp;with_reducible rfl)
     refine AM 11 (some 30) (v:=?_) rfl rfl (by kernel_rfl) (fun _ _ _ h=>h) (fun _=>HB7.out) (Or.inl ⟨(by kernel_rfl),?_⟩) ?_;rotate_left 1
     ·(rintro w' -;go_simp;with_reducible rfl)
     refine AM 12 (some 31) (v:=?_) rfl rfl (by kernel_rfl) (fun _ _ _ h=>h) (fun _=>HB7.out) (Or.inl ⟨(by kernel_rfl),?_⟩) ?_;rotate_left 1
     ·(rintro w' -;go_simp;with_reducible rfl)
     refine Ch [13] (by kernel_rfl) (by simp) ?_;simp only[List.forall_mem_cons,List.not_mem_nil,false_implies,implies_true,and_true];refine AO rfl (by kernel_rfl) (fun K hK=>?_);obtain⟨V13,hV13⟩:∃ V13,V13=World.alloc V9 (fH #[fB none 0 0,J I 0,R false] 36):=⟨_,rfl⟩;have hbv:fC (World.heap V9).size V9 V13:=by rw[hV13];exact AC _ _
     obtain⟨gb,hgb⟩:∃ gb,gb=(World.heap V9).size:=⟨_,rfl⟩;have HGB:=Wz (show W2.heap.size<=gb by rw[hgb];exact HB.out.size);have HRW:=Wz (HRW.out.ne hgb);have HRW:=Wz (HRW.out.extS hbv);have HPA:=Wz (HPA.out.ext hbv);have HB7:=Wz (AA HB7.out hbv);have HB:=Wz (AA HB.out hbv);have HBX:=Wz (show Blk V13 gb 36 #[fB none 0 0,J I 0,R false]by rw[hV13,hgb];exact Blk.new _ _ _);go_simp;rw[<- hV13,<- hgb];clear hgb hV13 hbv;refine hK _ _ ⟨fun _=>HB7.out,?_⟩;clear hK K;refine Ch [14] (by kernel_rfl) (by simp) ?_;simp only[List.forall_mem_cons,List.not_mem_nil,false_implies,implies_true,and_true];refine AO rfl (by kernel_rfl) (fun K hK=>?_);obtain⟨x0,x1,x2⟩:=HBX.out.all3;have xf0:=HBX.out.frozen 0;have xf1:=HBX.out.frozen 1;have xf2:=HBX.out.frozen 2;obtain⟨V14,hV14⟩:∃ V14,V14=fE (fE (fE V13 ⟨gb,0,none⟩ (fB A9 n9 c9)) ⟨gb,1,none⟩ (J I val9)) ⟨gb,2,none⟩ (R fd9):=⟨_,rfl⟩;have HRW:=Wz (show Cc pat (fun x=>W0.heap.size<=x) V14 ok9 (fB A9 n9 c9) val9 fd9 by rw[hV14];exact HRW.out.off3);have HBX:=Wz (show Blk V14 gb 36 #[fB A9 n9 c9,J I val9,R fd9]by rw[hV14];exact((HBX.out.set_ 0 _).set_ 1 _).set_ 2 _);have HB:=Wz (show fC W2.heap.size W2 V14 by rw[hV14];exact AE (AE (AE HB.out HGB.out _) HGB.out _) HGB.out _);go_simp;rw[<- hV14];clear hV14 x0 x1 x2 xf0 xf1 xf2;refine hK _ _ ⟨fun h=>absurd h (by decide),?_⟩;clear hK K;refine AM 15 (some 9) (v:=?_) rfl rfl (by kernel_rfl) (fun _ _ _ h=>h) (fun h=>absurd h (by decide)) (Or.inl ⟨(by kernel_rfl),?_⟩) ?_;rotate_left 1
     ·(rintro w' -;go_simp;with_reducible rfl)
     refine EF (by kernel_rfl) ?_ _;obtain⟨x0,x1,x2⟩:=HBX.out.all3;have HO9:=Wz (HO2.out.ext HB.out);have HE9:=Wz (AA HE2.out HB.out);obtain⟨o0,o1,o2⟩:=HO9.out.all3;have g0:=HO9.out.frozen 0;have g1:=HO9.out.frozen 1;have g2:=HO9.out.frozen 2
     cases ok9 with
     | true=>
      have HF9:=Wz (HFI.out V14 A9 n9 c9 val9 fd9 true pat HRW.out HE9.out);go_wp2;have hBf:=((HO9.out.set_ 0 (fB A9 n9 c9)).set_ 1 (J I val9)).set_ 2 (R fd9);obtain⟨y0,y1,y2⟩:=hBf.all3;exact bodyPost_ret (v:=fJ #[fF #[fB A9 n9 c9,J I val9,R fd9],R true]) (by simp[results,Tryz.results154,go_sem,y0,y1,y2]) rfl ⟨_,_,_,_,_,_,rfl,by rw[HOU.out];exact HF9.out.1,HF9.out.2⟩
     | false=>
      have HPN:=Wz (HRW.out.none);have HF9:=Wz (HFI.out V14 none 0 0 0 false false none rfl HE9.out);go_wp2;have hBf:=((HO9.out.set_ 0 (fB none 0 0)).set_ 1 (J I 0)).set_ 2 (R false);obtain⟨y0,y1,y2⟩:=hBf.all3;exact bodyPost_ret (v:=fJ #[fF #[fB none 0 0,J I 0,R false],R false]) (by simp[results,Tryz.results154,go_sem,y0,y1,y2]) rfl ⟨_,_,_,_,_,_,rfl,by rw[HOU.out,HPN.out];exact HF9.out.1,HF9.out.2⟩
    refine AO rfl (by kernel_rfl) (fun K hK=>?_);obtain⟨V13,hV13⟩:∃ V13,V13=World.alloc V7 (fH #[fB none 0 0,J I 0,R false] 36):=⟨_,rfl⟩;have hbv:fC (World.heap V7).size V7 V13:=by rw[hV13];exact AC _ _
    obtain⟨gb,hgb⟩:∃ gb,gb=(World.heap V7).size:=⟨_,rfl⟩;have HGB:=Wz (show W2.heap.size<=gb by rw[hgb];exact HB.out.size);have HPA:=Wz (HPA.out.ext hbv);have HB7:=Wz (AA HB7.out hbv);have HB:=Wz (AA HB.out hbv);have HBX:=Wz (show Blk V13 gb 36 #[fB none 0 0,J I 0,R false]by rw[hV13,hgb];exact Blk.new _ _ _);go_simp;rw[<- hV13,<- hgb];clear hgb hV13 hbv;refine hK _ _ ⟨fun _=>HB7.out,?_⟩;clear hK K;refine Ch [9] (by kernel_rfl) (by simp) ?_;simp only[List.forall_mem_cons,List.not_mem_nil,false_implies,implies_true,and_true];refine AO rfl (by kernel_rfl) (fun K hK=>?_);go_simp;refine(HKE.out _ HB7.out HPA.out Au cu (fun x=>W0.heap.size<=x/\x≠gb) (fun x hx=>⟨Nat.le_trans (Nat.le_trans HW2.out HB.out.size) hx,by have:=HBX.out.lt;omega⟩) ((HL2.out.mono (T:=fun x=>W0.heap.size<=x/\x≠gb) (fun x hx hl=>⟨hx,by have:=HGB.out;omega⟩)).extS HB.out)).mono ?_;rintro e V9 ⟨A9,n9,c9,val9,fd9,ok9,rfl,hbv,hr⟩;have HBX:=Wz (HBX.out.ext hbv);have HPA:=Wz (HPA.out.ext hbv);have HB7:=Wz (AA HB7.out hbv);have HB:=Wz (AA HB.out hbv);have HRW:=Wz hr;clear hbv hr;refine hK _ _ ⟨fun _=>HB7.out,?_⟩;clear hK K;refine AM 10 (some 19) (v:=?_) rfl rfl (by kernel_rfl) (fun _ _ _ h=>h) (fun _=>HB7.out) (Or.inl ⟨(by kernel_rfl),?_⟩) ?_;rotate_left 1
    ·(rintro w' -;go_simp;with_reducible rfl)
    refine AM 11 (some 30) (v:=?_) rfl rfl (by kernel_rfl) (fun _ _ _ h=>h) (fun _=>HB7.out) (Or.inl ⟨(by kernel_rfl),?_⟩) ?_;rotate_left 1
    ·(rintro w' -;go_simp;with_reducible rfl)
    refine AM 12 (some 31) (v:=?_) rfl rfl (by kernel_rfl) (fun _ _ _ h=>h) (fun _=>HB7.out) (Or.inl ⟨(by kernel_rfl),?_⟩) ?_;rotate_left 1
    ·(rintro w' -;go_simp;with_reducible rfl)
    refine Ch [14] (by kernel_rfl) (by simp) ?_;simp only[List.forall_mem_cons,List.not_mem_nil,false_implies,implies_true,and_true];refine AO rfl (by kernel_rfl) (fun K hK=>?_);obtain⟨x0,x1,x2⟩:=HBX.out.all3;have xf0:=HBX.out.frozen 0;have xf1:=HBX.out.frozen 1;have xf2:=HBX.out.frozen 2;obtain⟨V14,hV14⟩:∃ V14,V14=fE (fE (fE V9 ⟨gb,0,none⟩ (fB A9 n9 c9)) ⟨gb,1,none⟩ (J I val9)) ⟨gb,2,none⟩ (R fd9):=⟨_,rfl⟩;have HRW:=Wz (show Cc pat (fun x=>W0.heap.size<=x) V14 ok9 (fB A9 n9 c9) val9 fd9 by rw[hV14];exact HRW.out.off3);have HBX:=Wz (show Blk V14 gb 36 #[fB A9 n9 c9,J I val9,R fd9]by rw[hV14];exact((HBX.out.set_ 0 _).set_ 1 _).set_ 2 _);have HB:=Wz (show fC W2.heap.size W2 V14 by rw[hV14];exact AE (AE (AE HB.out HGB.out _) HGB.out _) HGB.out _);go_simp;rw[<- hV14];clear hV14 x0 x1 x2 xf0 xf1 xf2;refine hK _ _ ⟨fun h=>absurd h (by decide),?_⟩;clear hK K;refine AM 15 (some 9) (v:=?_) rfl rfl (by kernel_rfl) (fun _ _ _ h=>h) (fun h=>absurd h (by decide)) (Or.inl ⟨(by kernel_rfl),?_⟩) ?_;rotate_left 1
    ·(rintro w' -;go_simp;with_reducible rfl)
    refine EF (by kernel_rfl) ?_ _;obtain⟨x0,x1,x2⟩:=HBX.out.all3;have HO9:=Wz (HO2.out.ext HB.out);have HE9:=Wz (AA HE2.out HB.out);obtain⟨o0,o1,o2⟩:=HO9.out.all3;have g0:=HO9.out.frozen 0;have g1:=HO9.out.frozen 1;have g2:=HO9.out.frozen 2
    cases ok9 with
    | true=>
     have HF9:=Wz (HFI.out V14 A9 n9 c9 val9 fd9 true pat HRW.out HE9.out);go_wp2;have hBf:=((HO9.out.set_ 0 (fB A9 n9 c9)).set_ 1 (J I val9)).set_ 2 (R fd9);obtain⟨y0,y1,y2⟩:=hBf.all3;exact bodyPost_ret (v:=fJ #[fF #[fB A9 n9 c9,J I val9,R fd9],R true]) (by simp[results,Tryz.results154,go_sem,y0,y1,y2]) rfl ⟨_,_,_,_,_,_,rfl,by rw[HOU.out];exact HF9.out.1,HF9.out.2⟩
    | false=>
     have HPN:=Wz (HRW.out.none);have HF9:=Wz (HFI.out V14 none 0 0 0 false false none rfl HE9.out);go_wp2;have hBf:=((HO9.out.set_ 0 (fB none 0 0)).set_ 1 (J I 0)).set_ 2 (R false);obtain⟨y0,y1,y2⟩:=hBf.all3;exact bodyPost_ret (v:=fJ #[fF #[fB none 0 0,J I 0,R false],R false]) (by simp[results,Tryz.results154,go_sem,y0,y1,y2]) rfl ⟨_,_,_,_,_,_,rfl,by rw[HOU.out,HPN.out];exact HF9.out.1,HF9.out.2⟩
   refine AO rfl (by kernel_rfl) (fun K hK=>?_);obtain⟨V13,hV13⟩:∃ V13,V13=World.alloc V0 (fH #[fB none 0 0,J I 0,R false] 36):=⟨_,rfl⟩;have hbv:fC (World.heap V0).size V0 V13:=by rw[hV13];exact AC _ _
   obtain⟨gb,hgb⟩:∃ gb,gb=(World.heap V0).size:=⟨_,rfl⟩;have HGB:=Wz (show W2.heap.size<=gb by rw[hgb];exact HB.out.size);have HB7:=Wz (AA HB7.out hbv);have HB:=Wz (AA HB.out hbv);have HBX:=Wz (show Blk V13 gb 36 #[fB none 0 0,J I 0,R false]by rw[hV13,hgb];exact Blk.new _ _ _);go_simp;rw[<- hV13,<- hgb];clear hgb hV13 hbv;refine hK _ _ ⟨fun _=>HB7.out,?_⟩;clear hK K;refine Ch [7] (by kernel_rfl) (by simp) ?_;simp only[List.forall_mem_cons,List.not_mem_nil,false_implies,implies_true,and_true];refine AO rfl (by kernel_rfl) (fun K hK=>?_);go_simp;refine(HEF.out _).mono ?_;rintro e V7 ⟨pb,pa,rfl,hpb,hpa,hbv⟩;obtain⟨pbp,rfl,hsb⟩:=hpb.shape;obtain⟨pap,rfl,hsa⟩:=hpa.shape;have HBX:=Wz (HBX.out.ext hbv);have HB7:=Wz (AA HB7.out hbv);have HB:=Wz (AA HB.out hbv);have HPA:=Wz (hpa.mono (Nat.zero_le _));have HSB:=Wz hsb;obtain⟨E7,hE7⟩:∃ E7,E7=E (.pointer pbp) (.pointer pap) mb ma:=⟨_,rfl⟩;have HKE:=Wz (fun W h1 h2=>HKE.out pbp pap W h1 HSB.out h2);rw[<- hE7]at HKE ⊢;clear hbv hpb hpa hsb hsa hE7;refine hK _ _ ⟨fun _=>HB7.out,?_⟩;clear hK K;refine Ch [9] (by kernel_rfl) (by simp) ?_;simp only[List.forall_mem_cons,List.not_mem_nil,false_implies,implies_true,and_true];refine AO rfl (by kernel_rfl) (fun K hK=>?_);go_simp;refine(HKE.out _ HB7.out HPA.out Au cu (fun x=>W0.heap.size<=x/\x≠gb) (fun x hx=>⟨Nat.le_trans (Nat.le_trans HW2.out HB.out.size) hx,by have:=HBX.out.lt;omega⟩) ((HL2.out.mono (T:=fun x=>W0.heap.size<=x/\x≠gb) (fun x hx hl=>⟨hx,by have:=HGB.out;omega⟩)).extS HB.out)).mono ?_;rintro e V9 ⟨A9,n9,c9,val9,fd9,ok9,rfl,hbv,hr⟩;have HBX:=Wz (HBX.out.ext hbv);have HPA:=Wz (HPA.out.ext hbv);have HB7:=Wz (AA HB7.out hbv);have HB:=Wz (AA HB.out hbv);have HRW:=Wz hr;clear hbv hr;refine hK _ _ ⟨fun _=>HB7.out,?_⟩;clear hK K;refine AM 10 (some 19) (v:=?_) rfl rfl (by kernel_rfl) (fun _ _ _ h=>h) (fun _=>HB7.out) (Or.inl ⟨(by kernel_rfl),?_⟩) ?_;rotate_left 1
   ·(rintro w' -;go_simp;with_reducible rfl)
   refine AM 11 (some 30) (v:=?_) rfl rfl (by kernel_rfl) (fun _ _ _ h=>h) (fun _=>HB7.out) (Or.inl ⟨(by kernel_rfl),?_⟩) ?_;rotate_left 1
   ·(rintro w' -;go_simp;with_reducible rfl)
   refine AM 12 (some 31) (v:=?_) rfl rfl (by kernel_rfl) (fun _ _ _ h=>h) (fun _=>HB7.out) (Or.inl ⟨(by kernel_rfl),?_⟩) ?_;rotate_left 1
   ·(rintro w' -;go_simp;with_reducible rfl)
   refine Ch [14] (by kernel_rfl) (by simp) ?_;simp only[List.forall_mem_cons,List.not_mem_nil,false_implies,implies_true,and_true];refine AO rfl (by kernel_rfl) (fun K hK=>?_);obtain⟨x0,x1,x2⟩:=HBX.out.all3;have xf0:=HBX.out.frozen 0;have xf1:=HBX.out.frozen 1;have xf2:=HBX.out.frozen 2;obtain⟨V14,hV14⟩:∃ V14,V14=fE (fE (fE V9 ⟨gb,0,none⟩ (fB A9 n9 c9)) ⟨gb,1,none⟩ (J I val9)) ⟨gb,2,none⟩ (R fd9):=⟨_,rfl⟩;have HRW:=Wz (show Cc pat (fun x=>W0.heap.size<=x) V14 ok9 (fB A9 n9 c9) val9 fd9 by rw[hV14];exact HRW.out.off3);have HBX:=Wz (show Blk V14 gb 36 #[fB A9 n9 c9,J I val9,R fd9]by rw[hV14];exact((HBX.out.set_ 0 _).set_ 1 _).set_ 2 _);have HB:=Wz (show fC W2.heap.size W2 V14 by rw[hV14];exact AE (AE (AE HB.out HGB.out _) HGB.out _) HGB.out _);go_simp;rw[<- hV14];clear hV14 x0 x1 x2 xf0 xf1 xf2;refine hK _ _ ⟨fun h=>absurd h (by decide),?_⟩;clear hK K;refine AM 15 (some 9) (v:=?_) rfl rfl (by kernel_rfl) (fun _ _ _ h=>h) (fun h=>absurd h (by decide)) (Or.inl ⟨(by kernel_rfl),?_⟩) ?_;rotate_left 1
   ·(rintro w' -;go_simp;with_reducible rfl)
   refine EF (by kernel_rfl) ?_ _;obtain⟨x0,x1,x2⟩:=HBX.out.all3;have HO9:=Wz (HO2.out.ext HB.out);have HE9:=Wz (AA HE2.out HB.out);obtain⟨o0,o1,o2⟩:=HO9.out.all3;have g0:=HO9.out.frozen 0;have g1:=HO9.out.frozen 1;have g2:=HO9.out.frozen 2
   cases ok9 with
   | true=>
    have HF9:=Wz (HFI.out V14 A9 n9 c9 val9 fd9 true pat HRW.out HE9.out);go_wp2;have hBf:=((HO9.out.set_ 0 (fB A9 n9 c9)).set_ 1 (J I val9)).set_ 2 (R fd9);obtain⟨y0,y1,y2⟩:=hBf.all3;exact bodyPost_ret (v:=fJ #[fF #[fB A9 n9 c9,J I val9,R fd9],R true]) (by simp[results,Tryz.results154,go_sem,y0,y1,y2]) rfl ⟨_,_,_,_,_,_,rfl,by rw[HOU.out];exact HF9.out.1,HF9.out.2⟩
   | false=>
    have HPN:=Wz (HRW.out.none);have HF9:=Wz (HFI.out V14 none 0 0 0 false false none rfl HE9.out);go_wp2;have hBf:=((HO9.out.set_ 0 (fB none 0 0)).set_ 1 (J I 0)).set_ 2 (R false);obtain⟨y0,y1,y2⟩:=hBf.all3;exact bodyPost_ret (v:=fJ #[fF #[fB none 0 0,J I 0,R false],R false]) (by simp[results,Tryz.results154,go_sem,y0,y1,y2]) rfl ⟨_,_,_,_,_,_,rfl,by rw[HOU.out,HPN.out];exact HF9.out.1,HF9.out.2⟩
  refine AO rfl (by kernel_rfl) (fun K hK=>?_);obtain⟨V13,hV13⟩:∃ V13,V13=World.alloc D (fH #[fB none 0 0,J I 0,R false] 36):=⟨_,rfl⟩;have hbv:fC (World.heap D).size D V13:=by rw[hV13];exact AC _ _
  obtain⟨gb,hgb⟩:∃ gb,gb=(World.heap D).size:=⟨_,rfl⟩;have HGB:=Wz (show W2.heap.size<=gb by rw[hgb];exact HB.out.size);have HB:=Wz (AA HB.out hbv);have HBX:=Wz (show Blk V13 gb 36 #[fB none 0 0,J I 0,R false]by rw[hV13,hgb];exact Blk.new _ _ _);go_simp;rw[<- hV13,<- hgb];clear hgb hV13 hbv;refine hK _ _ ⟨fun _=>HB.out,?_⟩;clear hK K;refine Ch [0] (by kernel_rfl) (by simp) ?_;simp only[List.forall_mem_cons,List.not_mem_nil,false_implies,implies_true,and_true];refine AO rfl (by kernel_rfl) (fun K hK=>?_);go_simp;refine(PM _).mono ?_;rintro e V0 ⟨g,x4,x5,rfl,hm,h4,h5,hbv⟩;have HBX:=Wz (HBX.out.ext hbv);have HB:=Wz (AA HB.out hbv);obtain⟨ft,fp,caps,hkv,eg,hke⟩:=HKP.out x4 x5 V0 h4 h5;have HM:=Wz hm;have HKV:=Wz hkv;have HKE:=Wz hke;have HB7:=Wz (AF V0);have HBV:=Wz HB.out;have hkf:=T0 ft fp caps;clear hbv hm h4 h5 hkv hke;refine hK _ _ ⟨fun _=>HB.out,?_⟩;clear hK K;refine QG (G':=fun Z=>fC V0.heap.size V0 Z) (fun Z h=>AA HBV.out h) _ _ _ _ ?_;refine CI 3 (some 23) (v:=?_) rfl rfl (by kernel_rfl) (fun _ _ _ h=>h) HB7.out (Or.inl ⟨(by kernel_rfl),?_⟩) ?_;rotate_left 1
  ·(rintro w' h;have hlk:=JL (P:=fI) Tryz.underlying293 Tryz.underlying3 (HM.out.ext h) kd (T1 _);rw[HKV.out]at hlk;simp only[Option.getD_some,Ci]at hlk;go_simp;with_reducible rfl)
  refine AM 4 (some 24) (v:=?_) rfl rfl (by kernel_rfl) (fun _ _ _ h=>h) (fun _=>HB7.out) (Or.inl ⟨(by kernel_rfl),?_⟩) ?_;rotate_left 1
  ·(rintro w' -;go_simp;with_reducible rfl)
  refine Ch [7] (by kernel_rfl) (by simp) ?_;simp only[List.forall_mem_cons,List.not_mem_nil,false_implies,implies_true,and_true];refine AO rfl (by kernel_rfl) (fun K hK=>?_);go_simp;refine(HEF.out _).mono ?_;rintro e V7 ⟨pb,pa,rfl,hpb,hpa,hbv⟩;obtain⟨pbp,rfl,hsb⟩:=hpb.shape;obtain⟨pap,rfl,hsa⟩:=hpa.shape;have HBX:=Wz (HBX.out.ext hbv);have HB7:=Wz (AA HB7.out hbv);have HB:=Wz (AA HB.out hbv);have HPA:=Wz (hpa.mono (Nat.zero_le _));have HSB:=Wz hsb;obtain⟨E7,hE7⟩:∃ E7,E7=E (.pointer pbp) (.pointer pap) mb ma:=⟨_,rfl⟩;have HKE:=Wz (fun W h1 h2=>HKE.out pbp pap W h1 HSB.out h2);rw[<- hE7]at HKE ⊢;clear hbv hpb hpa hsb hsa hE7;refine hK _ _ ⟨fun _=>HB7.out,?_⟩;clear hK K;refine Ch [9] (by kernel_rfl) (by simp) ?_;simp only[List.forall_mem_cons,List.not_mem_nil,false_implies,implies_true,and_true];refine AO rfl (by kernel_rfl) (fun K hK=>?_);go_simp;refine(HKE.out _ HB7.out HPA.out Au cu (fun x=>W0.heap.size<=x/\x≠gb) (fun x hx=>⟨Nat.le_trans (Nat.le_trans HW2.out HB.out.size) hx,by have:=HBX.out.lt;omega⟩) ((HL2.out.mono (T:=fun x=>W0.heap.size<=x/\x≠gb) (fun x hx hl=>⟨hx,by have:=HGB.out;omega⟩)).extS HB.out)).mono ?_;rintro e V9 ⟨A9,n9,c9,val9,fd9,ok9,rfl,hbv,hr⟩;have HBX:=Wz (HBX.out.ext hbv);have HPA:=Wz (HPA.out.ext hbv);have HB7:=Wz (AA HB7.out hbv);have HB:=Wz (AA HB.out hbv);have HRW:=Wz hr;clear hbv hr;refine hK _ _ ⟨fun _=>HB7.out,?_⟩;clear hK K;refine AM 10 (some 19) (v:=?_) rfl rfl (by kernel_rfl) (fun _ _ _ h=>h) (fun _=>HB7.out) (Or.inl ⟨(by kernel_rfl),?_⟩) ?_;rotate_left 1
  ·(rintro w' -;go_simp;with_reducible rfl)
  refine AM 11 (some 30) (v:=?_) rfl rfl (by kernel_rfl) (fun _ _ _ h=>h) (fun _=>HB7.out) (Or.inl ⟨(by kernel_rfl),?_⟩) ?_;rotate_left 1
  ·(rintro w' -;go_simp;with_reducible rfl)
  refine AM 12 (some 31) (v:=?_) rfl rfl (by kernel_rfl) (fun _ _ _ h=>h) (fun _=>HB7.out) (Or.inl ⟨(by kernel_rfl),?_⟩) ?_;rotate_left 1
  ·(rintro w' -;go_simp;with_reducible rfl)
  refine Ch [14] (by kernel_rfl) (by simp) ?_;simp only[List.forall_mem_cons,List.not_mem_nil,false_implies,implies_true,and_true];refine AO rfl (by kernel_rfl) (fun K hK=>?_);obtain⟨x0,x1,x2⟩:=HBX.out.all3;have xf0:=HBX.out.frozen 0;have xf1:=HBX.out.frozen 1;have xf2:=HBX.out.frozen 2;obtain⟨V14,hV14⟩:∃ V14,V14=fE (fE (fE V9 ⟨gb,0,none⟩ (fB A9 n9 c9)) ⟨gb,1,none⟩ (J I val9)) ⟨gb,2,none⟩ (R fd9):=⟨_,rfl⟩;have HRW:=Wz (show Cc pat (fun x=>W0.heap.size<=x) V14 ok9 (fB A9 n9 c9) val9 fd9 by rw[hV14];exact HRW.out.off3);have HBX:=Wz (show Blk V14 gb 36 #[fB A9 n9 c9,J I val9,R fd9]by rw[hV14];exact((HBX.out.set_ 0 _).set_ 1 _).set_ 2 _);have HB:=Wz (show fC W2.heap.size W2 V14 by rw[hV14];exact AE (AE (AE HB.out HGB.out _) HGB.out _) HGB.out _);go_simp;rw[<- hV14];clear hV14 x0 x1 x2 xf0 xf1 xf2;refine hK _ _ ⟨fun h=>absurd h (by decide),?_⟩;clear hK K;refine AM 15 (some 9) (v:=?_) rfl rfl (by kernel_rfl) (fun _ _ _ h=>h) (fun h=>absurd h (by decide)) (Or.inl ⟨(by kernel_rfl),?_⟩) ?_;rotate_left 1
  ·(rintro w' -;go_simp;with_reducible rfl)
  refine EF (by kernel_rfl) ?_ _;obtain⟨x0,x1,x2⟩:=HBX.out.all3;have HO9:=Wz (HO2.out.ext HB.out);have HE9:=Wz (AA HE2.out HB.out);obtain⟨o0,o1,o2⟩:=HO9.out.all3;have g0:=HO9.out.frozen 0;have g1:=HO9.out.frozen 1;have g2:=HO9.out.frozen 2
  cases ok9 with
  | true=>
   have HF9:=Wz (HFI.out V14 A9 n9 c9 val9 fd9 true pat HRW.out HE9.out);go_wp2;have hBf:=((HO9.out.set_ 0 (fB A9 n9 c9)).set_ 1 (J I val9)).set_ 2 (R fd9);obtain⟨y0,y1,y2⟩:=hBf.all3;exact bodyPost_ret (v:=fJ #[fF #[fB A9 n9 c9,J I val9,R fd9],R true]) (by simp[results,Tryz.results154,go_sem,y0,y1,y2]) rfl ⟨_,_,_,_,_,_,rfl,by rw[HOU.out];exact HF9.out.1,HF9.out.2⟩
  | false=>
   have HPN:=Wz (HRW.out.none);have HF9:=Wz (HFI.out V14 none 0 0 0 false false none rfl HE9.out);go_wp2;have hBf:=((HO9.out.set_ 0 (fB none 0 0)).set_ 1 (J I 0)).set_ 2 (R false);obtain⟨y0,y1,y2⟩:=hBf.all3;exact bodyPost_ret (v:=fJ #[fF #[fB none 0 0,J I 0,R false],R false]) (by simp[results,Tryz.results154,go_sem,y0,y1,y2]) rfl ⟨_,_,_,_,_,_,rfl,by rw[HOU.out,HPN.out];exact HF9.out.1,HF9.out.2⟩
end
end Go.Proofs.YtimoapjhepmehaaGreatDoor
