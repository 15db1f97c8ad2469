/- Part 30: contracts that the last part uses. -/
import Derived.Test.YtimoapjhepmehaaGreatDoorJ29
set_option linter.unusedSimpArgs false
set_option linter.unusedVariables false
set_option maxHeartbeats 4000000
set_option maxRecDepth 100000
namespace Go.Proofs.YtimoapjhepmehaaGreatDoor
open Go.IntKind renaming i64->I
open Go.Value renaming int->U,slice->R,bool->dN
open Go.Obj renaming cells->J
open Tryz renaming prog->dR
open Go.RowKit Go.Shelf
def Es(P:List AD)(k:Int):Option AD:=P.find? fun p=>decide (p.k=k)
def Nx(o:Int)(P:List AD)(x:AD):List AD:=if x.t=o/\(Es P x.k).isNone=true then P++[x]else P
def Da(o:Int)(others:List AD):List AD:=others.foldl (Nx o) []
def J4(P:List AD)(b:Nat)(r:AD):List AD:=match Es P (r.col b)with|some x=>[r,x]|none=>[]
def CZ(b:Nat)(rows P:List AD):List AD:=rows.flatMap (J4 P b)
def kvP(P:List AD):List (Int × Value):=P.map fun r=>(r.k,r.val)
theorem Ny(P:List AD)(k:Int):B6 (kvP P) k=(Es P k).map AD.val:=by
 induction P with
 | nil=>rfl
 | cons p P ih=>
  by_cases h:p.k=k
  ·simp[kvP,B6,Es,List.find?,h]
  have:B6 (kvP (p::P)) k=B6 (kvP P) k:=by simp[kvP,B6,h]
  rw[this,ih];simp[Es,List.find?,h]
theorem Tm(P:List AD)(x:AD)(h:(Es P x.k).isNone=true):FU (kvP P) x.k x.val=kvP (P++[x]):=by
 induction P with
 | nil=>rfl
 | cons p P ih=>
  by_cases hp:p.k=x.k
  ·simp[Es,List.find?,hp]at h
  have h2:(Es P x.k).isNone=true:=by simpa[Es,List.find?,hp]using h
  have:FU (kvP (p::P)) x.k x.val=(p.k,p.val)::FU (kvP P) x.k x.val:=by simp[kvP,FU,hp]
  rw[this,ih h2];rfl
theorem Nz(o:Int)(L:List AD)(x:AD):Da o (L++[x])=Nx o (Da o L) x:=by simp[Da]
theorem Rr(P:List AD)(b:Nat)(r:AD):(J4 P b r).length<=2:=by unfold J4;split <;> simp
theorem J5(b:Nat)(rows P:List AD):(CZ b rows P).length<=2*rows.length:=by
 induction rows with
 | nil=>simp[CZ]
 | cons r l ih=>
  have h2:=Rr P b r;have:CZ b (r::l) P=J4 P b r++CZ b l P:=by simp[CZ]
  rw[this,List.length_append,List.length_cons];omega
theorem N1(b:Nat)(rows P:List AD)(k:Nat)(r:AD)(h:rows[k]? = some r):CZ b (rows.take (k+1)) P=CZ b (rows.take k) P++J4 P b r:=by
 unfold CZ;rw[List.take_add_one,h];simp
theorem VH(w:World):(zeroValue 67).run dR w=.ok (.agg #[U I 0,U I 0,U I 0,U I 0,U I 0]) w:=by kernel_rfl
theorem LN{W:World}{g:Nat}{x y:AD}(h:Blk W g 67 #[U I x.t,U I x.k,U I x.a,U I x.b,U I x.c,U I y.t,U I y.k,U I y.a,U I y.b,U I y.c]):CN W (R (some ⟨g,0,none⟩) 2 2) [x,y]:=by
 refine⟨_,_,rfl,fun _=>⟨g,0,rfl,h.lt,fun j r hr i hi=>?_⟩⟩
 match j,hr,i,hi with
 | 0,hr,0,_=>injection hr with hr;subst hr;exact h.cell 0
 | 0,hr,1,_=>injection hr with hr;subst hr;exact h.cell 1
 | 0,hr,2,_=>injection hr with hr;subst hr;exact h.cell 2
 | 0,hr,3,_=>injection hr with hr;subst hr;exact h.cell 3
 | 0,hr,4,_=>injection hr with hr;subst hr;exact h.cell 4
 | 1,hr,0,_=>injection hr with hr;subst hr;exact h.cell 5
 | 1,hr,1,_=>injection hr with hr;subst hr;exact h.cell 6
 | 1,hr,2,_=>injection hr with hr;subst hr;exact h.cell 7
 | 1,hr,3,_=>injection hr with hr;subst hr;exact h.cell 8
 | 1,hr,4,_=>injection hr with hr;subst hr;exact h.cell 9
 |(j+2),hr,_,_=>simp at hr
attribute [local go_sem ↓] AQ AU Go.wp_at_zero Go.wp_at_succ
theorem VI(k0 t j lo hi o:Int)(b:Nat)(hb:b<4)(rows others:List AD)(hl:rows.length<=1000)(hl2:others.length<=100000)(v u:Value)(w:World)(hv:AR w v rows)(hu:AR w u others) :
  Calls dR 152 #[.agg #[U I k0,U I t,U I j,U I lo,U I hi,U I (b:Int),U I o],v,u] w fun e w'=>∃ out,e=.returned out/\BF (fun x=>w.heap.size<=x) w' out (CZ b rows (Da o others))/\Below w.heap.size w w':=by
 have hmm:=@run_makeMap dR;have HV:=Wz hv;have HU:=Wz hu;obtain⟨Av,cv,rfl,-⟩:=hv;obtain⟨Au,cu,rfl,-⟩:=hu;obtain⟨W0,hW0⟩:∃ W0,W0=w.alloc (J #[U I k0,U I t,U I j,U I lo,U I hi,U I (b:Int),U I o] 33):=⟨_,rfl⟩;have HE0:=Wz (show Below w.heap.size w W0 by rw[hW0];exact AC _ _);have HQ0:=Wz (show Blk W0 w.heap.size 33 #[U I k0,U I t,U I j,U I lo,U I hi,U I (b:Int),U I o]by rw[hW0];exact Blk.new _ _ _);obtain⟨gm,hgm⟩:∃ gm,gm=w.heap.size+1:=⟨_,rfl⟩;have hg0:gm=W0.heap.size:=by rw[hW0,hgm];simp
 obtain⟨W1,hW1⟩:∃ W1,W1=W0.alloc (.map #[] 0):=⟨_,rfl⟩;have HM1:=Wz (show Ea W1 gm []by rw[hW1,hg0];exact Ea.new _);have HE1:=Wz (show Below W0.heap.size W0 W1 by rw[hW1];exact AC _ _);have HGM:=Wz (show W0.heap.size<=gm by omega);have HZ:=Wz (show ∀ W:World,(zeroValue 67).run dR W=.ok (.agg #[U I 0,U I 0,U I 0,U I 0,U I 0]) W from VH);go_enter Tryz.func152,Tryz.ntmps152;go_upto_region 2 with(fail)
 rw[<- hW0,<- hW1,<- hgm];clear hW0 hW1 hgm hg0;go_wp2;go_loopw [9,10,11,19] (fun _ _ _ iv W=>∃ k:Nat,k<=others.length/\iv=U I (k:Int)/\Ea W gm (kvP (Da o (others.take k)))/\Below W0.heap.size W0 W) (fun _ _ _ iv _=>others.length-(intOf iv).toNat)
 case atStart=>exact⟨0,Nat.zero_le _,rfl,HM1.out,HE1.out⟩
 case round =>
  obtain⟨k,hk,rfl,hM,hE⟩:=hrel;have HM:=Wz hM;have HE:=Wz hE;clear hM hE;have e2:IntKind.i64.wrap ((k:Int)+1)=(k:Int)+1:=IntWalk.i64_in _ (by omega);by_cases hlt:k<others.length
  ·obtain⟨x,hx⟩:∃ x,others[k]? = some x:=⟨_,List.getElem?_eq_getElem hlt⟩;have HTK:=Wz (show Da o (others.take (k+1))=Nx o (Da o (others.take k)) x by rw[List.take_add_one,hx];exact Nz _ _ _);obtain⟨gr,d',hA,hg,r0,r1,r2,r3,r4⟩:=(HU.out.ext (AA HE0.out HE.out)).c5 hx;injection hA with hA hn' hd'
   subst hA;subst hd';obtain⟨P,hP⟩:∃ P,P=Da o (others.take k):=⟨_,rfl⟩;rw[<- hP]at HM HTK;clear hP hx hn';have x0:(0:Int)<=(k:Int):=by omega
   have x1:(k:Int)<(others.length:Int):=by omega
   have d1:decide ((k:Int)<(others.length:Int))=true:=decide_eq_true x1;have q6:=(HQ0.out.ext HE.out).cell 6;have ql:=(HQ0.out.ext HE.out).lt;have HST:=Wz (show Nx o P x=if x.t=o/\(Es P x.k).isNone=true then P++[x]else P from rfl);have HSV:=Wz (Tm P x);have HGI:=Wz (Ny P x.k);generalize Nx o P x=P2 at *;generalize Es P x.k=fk at *;obtain⟨x0',x1',x2',x3',x4'⟩:=x;dsimp only[AD.arr,AD.val]at *;have HMA:=Wz (HM.out.ext (AC wr (J #[U I x0',U I x1',U I x2',U I x3',U I x4'] 67)));have hlk:=B7 (P:=dR) Tryz.underlying288 Tryz.underlying3 HMA.out x1' (HZ.out _);rw[HGI.out]at hlk
   cases fk with
   | none=>
    simp only[Option.map_none,Option.getD_none,Option.isSome_none]at hlk;have HMB:=Wz (HMA.out.ext (AC _ (J #[U I 0,U I 0,U I 0,U I 0,U I 0] 67)));by_cases hto:x0'=o
    ·subst hto;obtain⟨ob,hup,hm3⟩:=Cu (P:=dR) Tryz.underlying288 Tryz.underlying3 HMB.out x1' (.agg #[U I x0',U I x1',U I x2',U I x3',U I x4']);have HM3:=Wz hm3;have HE3:=Wz (DA (AB (AB HE.out (J #[U I x0',U I x1',U I x2',U I x3',U I x4'] 67)) (J #[U I 0,U I 0,U I 0,U I 0,U I 0] 67)) HGM.out ob);rw[if_pos ⟨rfl,rfl⟩]at HST;rw[HSV.out rfl]at HM3;clear hm3;go_wp2;go_roundw
     case rel=>exact⟨k+1,by omega,by go_num,by rw[HTK.out,HST.out];exact HM3.out,HE3.out⟩
     simp[intOf];omega
    have d2:decide (x0'=o)=false:=decide_eq_false hto;rw[if_neg (fun h=>hto h.1)]at HST;go_wp2;go_roundw
    case rel=>exact⟨k+1,by omega,by go_num,by rw[HTK.out,HST.out];exact HMB.out,AB (AB HE.out _) _⟩
    simp[intOf];omega
   | some p=>
    obtain⟨p0,p1,p2,p3,p4⟩:=p;simp only[Option.map_some,Option.getD_some,Option.isSome_some,AD.val,AD.arr]at hlk;have HMB:=Wz (HMA.out.ext (AC _ (J #[U I p0,U I p1,U I p2,U I p3,U I p4] 67)));rw[if_neg (fun h=>by simp at h)]at HST;by_cases hto:x0'=o
    ·subst hto;go_wp2;go_roundw
     case rel=>exact⟨k+1,by omega,by go_num,by rw[HTK.out,HST.out];exact HMB.out,AB (AB HE.out _) _⟩
     simp[intOf];omega
    have d2:decide (x0'=o)=false:=decide_eq_false hto;go_wp2;go_roundw
    case rel=>exact⟨k+1,by omega,by go_num,by rw[HTK.out,HST.out];exact HMB.out,AB (AB HE.out _) _⟩
    simp[intOf];omega
  have hkl:k=others.length:=by omega
  have d1:decide ((k:Int)<(others.length:Int))=false:=decide_eq_false (by omega);subst hkl;rw[List.take_length]at HM;obtain⟨P,hP⟩:∃ P,P=Da o others:=⟨_,rfl⟩;have HPP:=Wz hP;rw[<- hP]at HM;clear hP;have hEZ:=AA HE0.out HE.out;have HMG:=Wz (Er k0 t j lo hi o b hb rows hl (R Av rows.length cv) wr (HV.out.ext hEZ));have q0:=(HQ0.out.ext HE.out).cell 0;have q1:=(HQ0.out.ext HE.out).cell 1;have q2:=(HQ0.out.ext HE.out).cell 2;have q3:=(HQ0.out.ext HE.out).cell 3;have q4:=(HQ0.out.ext HE.out).cell 4;have q5:=(HQ0.out.ext HE.out).cell 5;have q6:=(HQ0.out.ext HE.out).cell 6;have ql:=(HQ0.out.ext HE.out).lt;go_wp2_with fail
  refine HMG.out.mono ?_;rintro e Z ⟨Am,cm,rfl,hi,hbz⟩;have HI:=Wz hi;have HMZ:=Wz (HM.out.ext hbz);have HEZ:=Wz (AA hEZ hbz);clear hi hbz hEZ q0 q1 q2 q3 q4 q5 q6 ql d1 hk hlt e2 HMG HM HE HU HM1 HE1 HQ0 HE0 hmm;go_wp2;go_loopw [6,12,13,14,15,48] (fun ov _ _ _ _ iv W=>∃ k:Nat,k<=rows.length/\iv=U I (k:Int)/\W.ownsRow Z.heap.size 67 5 ov (CZ b (rows.take k) P).length (rc (CZ b (rows.take k) P))/\Below Z.heap.size Z W) (fun _ _ _ _ _ iv _=>rows.length-(intOf iv).toNat)
  case atStart=>exact⟨0,Nat.zero_le _,rfl,World.ownsRow_nil _ _ _ _,AF _⟩
  case round=>
   obtain⟨k,hk,rfl,hO,hE⟩:=hrel;have HO:=Wz hO;have HE:=Wz hE;clear hO hE;have e2:IntKind.i64.wrap ((k:Int)+1)=(k:Int)+1:=IntWalk.i64_in _ (by omega);by_cases hlt:k<rows.length
   ·obtain⟨x,hx⟩:∃ x,rows[k]? = some x:=⟨_,List.getElem?_eq_getElem hlt⟩;have HTK:=Wz (N1 b rows P k x hx);have HLN:=Wz (show(CZ b (rows.take k) P).length<=2000 by have:=J5 b (rows.take k) P;rw[List.length_take]at this;omega);obtain⟨gr,d',hA,hg,r0,r1,r2,r3,r4⟩:=(HV.out.ext HEZ.out).c5 hx;injection hA with hA hn' hd'
    subst hA;subst hd';have him:=HI.out.ext HE.out;obtain⟨Am',cm',hA,hi⟩:=him;injection hA with hA hn2 hd'
    subst hA;subst hd';obtain⟨gi,rfl,hic⟩:=hi (by rw[List.length_map];omega);have i0:=hic k (x.col b) (by rw[List.getElem?_map,hx];rfl);have HPF:=Wz (show J4 P b x=match Es P (x.col b)with|some p=>[x,p]|none=>[]from rfl);have HGI:=Wz (Ny P (x.col b));have hlk:=B7 (P:=dR) Tryz.underlying288 Tryz.underlying3 (HMZ.out.ext HE.out) (x.col b) (HZ.out _);rw[HGI.out]at hlk;generalize Es P (x.col b)=fk at *;generalize x.col b=xm at *;generalize J4 P b x=pf at *;generalize CZ b (rows.take k) P=L at *;obtain⟨x0',x1',x2',x3',x4'⟩:=x;dsimp only[AD.arr,AD.val]at *;have x0:(0:Int)<=(k:Int):=by omega
    have x1:(k:Int)<(rows.length:Int):=by omega
    have d1:decide ((k:Int)<(rows.length:Int))=true:=decide_eq_true x1;clear hx hn' hn2 hic hi
    cases fk with
    | none=>
     simp only[Option.map_none,Option.getD_none,Option.isSome_none]at hlk;have HL2:=Wz (show CZ b (rows.take (k+1)) P=L by rw[HTK.out,HPF.out];simp);clear r0 r1 r2 r3 r4;go_wp2;go_roundw
     case rel=>exact⟨k+1,by omega,by go_num,by rw[HL2.out];exact HO.out.alloc _,AB HE.out _⟩
     simp[intOf];omega
    | some p=>
     obtain⟨p0,p1,p2,p3,p4⟩:=p;simp only[Option.map_some,Option.getD_some,Option.isSome_some,AD.val,AD.arr]at hlk;have HL2:=Wz (show CZ b (rows.take (k+1)) P=L++[(⟨x0',x1',x2',x3',x4'⟩:AD),⟨p0,p1,p2,p3,p4⟩]by rw[HTK.out,HPF.out]);obtain⟨gp,hgp⟩:∃ gp,gp=wr.heap.size:=⟨_,rfl⟩;obtain⟨V,hV⟩:∃ V,V=wr.alloc (J #[U I p0,U I p1,U I p2,U I p3,U I p4] 67):=⟨_,rfl⟩;obtain⟨D,hD⟩:∃ D,D=V.drew:=⟨_,rfl⟩;have HEV:=Wz (show Below Z.heap.size Z D by rw[hD,hV];exact(AB HE.out _).drew);have HOV:=Wz (show D.ownsRow Z.heap.size 67 5 u6 L.length (rc L)by rw[hD,hV];exact AK HO.out (show Below wr.heap.size wr (World.drew _)from(AC _ _).drew));have HPV:=Wz (show Blk D gp 67 #[U I p0,U I p1,U I p2,U I p3,U I p4]by rw[hD,hV,hgp];exact(Blk.new _ _ _).ext (show Below _ _ (World.drew _)from(AF _).drew));have HGX:=Wz (show ∀ W,Below Z.heap.size Z W->Blk W gp 67 #[U I p0,U I p1,U I p2,U I p3,U I p4]->(W.cell? ⟨gr,k*5,none⟩=some (U I x0')/\W.cell? ⟨gr,k*5+1,none⟩=some (U I x1')/\W.cell? ⟨gr,k*5+2,none⟩=some (U I x2')/\W.cell? ⟨gr,k*5+3,none⟩=some (U I x3')/\W.cell? ⟨gr,k*5+4,none⟩=some (U I x4')/\W.cell? ⟨gp,0,none⟩=some (U I p0)/\W.cell? ⟨gp,1,none⟩=some (U I p1)/\W.cell? ⟨gp,2,none⟩=some (U I p2)/\W.cell? ⟨gp,3,none⟩=some (U I p3)/\W.cell? ⟨gp,4,none⟩=some (U I p4))from fun W h hp=>⟨AG r0 h,AG r1 h,AG r2 h,AG r3 h,AG r4 h,hp.cell 0,hp.cell 1,hp.cell 2,hp.cell 3,hp.cell 4⟩);have HG:=Wz (HGX.out D HEV.out HPV.out);have HGP:=Wz (fun(g:Nat)(e:u6.ownBlock=some g)=>show g<gp by have:=(HO.out.lt g e).2;omega);clear r0 r1 r2 r3 r4;go_upto_region 14 with(fail)
     rw[<- hV,<- hgp];refine Dg (fun W=>W.cell? ⟨gr,k*5,none⟩=some (U I x0')/\W.cell? ⟨gr,k*5+1,none⟩=some (U I x1')/\W.cell? ⟨gr,k*5+2,none⟩=some (U I x2')/\W.cell? ⟨gr,k*5+3,none⟩=some (U I x3')/\W.cell? ⟨gr,k*5+4,none⟩=some (U I x4')/\W.cell? ⟨gp,0,none⟩=some (U I p0)/\W.cell? ⟨gp,1,none⟩=some (U I p1)/\W.cell? ⟨gp,2,none⟩=some (U I p2)/\W.cell? ⟨gp,3,none⟩=some (U I p3)/\W.cell? ⟨gp,4,none⟩=some (U I p4)) (fun _=>True) [] (by kernel_rfl) ?_;rw[<- hD];clear hD hV hgp;refine Fm 0 (some 60) (v:=?_) rfl rfl (by kernel_rfl) (by kernel_rfl) (by kernel_rfl) (by kernel_rfl) (fun _ _ _ h=>h) (Or.inl ⟨by kernel_rfl,?_⟩) HG.out (fun _=>trivial) ?_;rotate_left 1
     ·(rintro w' ⟨f0,f1,f2,f3,f4,f5,f6,f7,f8,f9⟩;go_simp;with_reducible rfl)
     refine Fm 1 (some 61) (v:=?_) rfl rfl (by kernel_rfl) (by kernel_rfl) (by kernel_rfl) (by kernel_rfl) (fun _ _ _ h=>h) (Or.inl ⟨by kernel_rfl,?_⟩) HG.out (fun _=>trivial) ?_;rotate_left 1
     ·(rintro w' ⟨f0,f1,f2,f3,f4,f5,f6,f7,f8,f9⟩;go_simp;with_reducible rfl)
     refine Fm 2 (some 62) (v:=?_) rfl rfl (by kernel_rfl) (by kernel_rfl) (by kernel_rfl) (by kernel_rfl) (fun _ _ _ h=>h) (Or.inl ⟨by kernel_rfl,?_⟩) HG.out (fun _=>trivial) ?_;rotate_left 1
     ·(rintro w' ⟨f0,f1,f2,f3,f4,f5,f6,f7,f8,f9⟩;go_simp;with_reducible rfl)
     refine Fm 3 (some 63) (v:=?_) rfl rfl (by kernel_rfl) (by kernel_rfl) (by kernel_rfl) (by kernel_rfl) (fun _ _ _ h=>h) (Or.inl ⟨by kernel_rfl,?_⟩) HG.out (fun _=>trivial) ?_;rotate_left 1
     ·(rintro w' ⟨f0,f1,f2,f3,f4,f5,f6,f7,f8,f9⟩;go_simp;with_reducible rfl)
     refine Fm 4 (some 64) (v:=?_) rfl rfl (by kernel_rfl) (by kernel_rfl) (by kernel_rfl) (by kernel_rfl) (fun _ _ _ h=>h) (Or.inl ⟨by kernel_rfl,?_⟩) HG.out (fun _=>trivial) ?_;rotate_left 1
     ·(rintro w' ⟨f0,f1,f2,f3,f4,f5,f6,f7,f8,f9⟩;go_simp;with_reducible rfl)
     refine Fm 5 (some 65) (v:=?_) rfl rfl (by kernel_rfl) (by kernel_rfl) (by kernel_rfl) (by kernel_rfl) (fun _ _ _ h=>h) (Or.inl ⟨by kernel_rfl,?_⟩) HG.out (fun _=>trivial) ?_;rotate_left 1
     ·(rintro w' ⟨f0,f1,f2,f3,f4,f5,f6,f7,f8,f9⟩;go_simp;with_reducible rfl)
     refine B9 [6] (by kernel_rfl) (by simp) ?_;simp only[List.forall_mem_cons,List.not_mem_nil,false_implies,implies_true,and_true];refine AO rfl (by kernel_rfl) (fun K hK=>?_);obtain⟨V6,hV6⟩:∃ V6,V6=D.alloc (J #[U I x0',U I x1',U I x2',U I x3',U I x4',U I p0,U I p1,U I p2,U I p3,U I p4] 67):=⟨_,rfl⟩;have HE6:=Wz (show Below D.heap.size D V6 by rw[hV6];exact AC _ _);have HR6:=Wz (LN (x:=⟨x0',x1',x2',x3',x4'⟩) (y:=⟨p0,p1,p2,p3,p4⟩) (show Blk V6 D.heap.size 67 #[U I x0',U I x1',U I x2',U I x3',U I x4',U I p0,U I p1,U I p2,U I p3,U I p4]by rw[hV6];exact Blk.new _ _ _));obtain⟨gd,hgd⟩:∃ gd,gd=D.heap.size:=⟨_,rfl⟩;go_simp;rw[<- hV6,<- hgd];rw[<- hgd]at HR6;clear hV6 hgd;have HP6:=Wz (HPV.out.ext HE6.out);have HG:=Wz (HGX.out V6 (AA HEV.out HE6.out) HP6.out);refine hK _ _ ⟨HG.out,?_⟩;clear hK K;refine B9 [7] (by kernel_rfl) (by simp) ?_;simp only[List.forall_mem_cons,List.not_mem_nil,false_implies,implies_true,and_true];refine AO rfl (by kernel_rfl) (fun K hK=>?_);obtain⟨ha,V7,hV7,v7,hv7,ho7,hg7⟩:=Ek V6 Z.heap.size (AA HEV.out HE6.out).size u6 L (AK HOV.out HE6.out) _ _ HR6.out (by have:=HLN.out;simp;omega);have HO7:=Wz ho7;have HG:=Wz (HGX.out V7 ((AA HEV.out HE6.out).grown hg7 (AA HEV.out HE6.out).size (fun k e=>(HOV.out.lt k e).1)) (HP6.out.grown hg7 (fun e=>by have:=HGP.out _ e.symm;omega)));have HE7:=Wz ((AA HEV.out HE6.out).grown hg7 (AA HEV.out HE6.out).size (fun k e=>(HOV.out.lt k e).1));clear ho7 hg7;go_simp;clear ha hV7 hv7;refine hK _ _ ⟨HG.out,?_⟩;clear hK K;refine Fm 8 (some 6) (v:=?_) rfl rfl (by kernel_rfl) (by kernel_rfl) (by kernel_rfl) (by kernel_rfl) (fun _ _ _ h=>h) (Or.inl ⟨by kernel_rfl,?_⟩) HG.out (fun _=>trivial) ?_;rotate_left 1
     ·(rintro w' ⟨f0,f1,f2,f3,f4,f5,f6,f7,f8,f9⟩;go_simp;with_reducible rfl)
     refine GE (by kernel_rfl) ?_ _;go_wp2;go_roundw
     case rel=>exact⟨k+1,by omega,by go_num,by rw[HL2.out];exact HO7.out,HE7.out⟩
     simp[intOf];omega
   have hkl:k=rows.length:=by omega
   have d1:decide ((k:Int)<(rows.length:Int))=false:=decide_eq_false (by omega);subst hkl;rw[List.take_length]at HO;go_wp2;refine bodyPost_ret (v:=u6) (by simp[results,Tryz.results152,go_sem]) rfl ⟨_,rfl,by rw[<- HPP.out];exact(CX HO.out).mono (fun x hx _=>Nat.le_trans HEZ.out.size hx),AA HEZ.out HE.out⟩
def LO(q:BU)(rows:List AD)(O:World->Value->Prop)(r:Bg):Prop:=∀(W:World) (v vo:Value),AR W v rows->O W vo->Calls dR 99 #[.agg q.arr,v,vo] W fun e w'=>∃ u,e=.returned (.agg #[u,U I r.val,dN r.found])/\BF (fun x=>W.heap.size<=x) w' u r.rows/\Below W.heap.size W w'
theorem BF.set3{W:World}{B z:Nat}{v a b c:Value}{l:List AD}(h:BF (fun x=>B<=x) W v l)(hz:z<B):BF (fun x=>B<=x) (World.setCell (World.setCell (World.setCell W ⟨z,0,none⟩ a) ⟨z,1,none⟩ b) ⟨z,2,none⟩ c) v l:=
 h.keep (fun k hk _=>by rw[Below.heap_setCell _ _ _ _ (by dsimp only;omega),Below.heap_setCell _ _ _ _ (by dsimp only;omega),Below.heap_setCell _ _ _ _ (by dsimp only;omega)]) (by simp[World.setCell])
theorem LP(q:BU)(hq:q.Ok)(h12:q.kind=1∨q.kind=2)(rows:List AD)(hl:rows.length<=1000):LO q rows (fun _ vo=>vo=R none 0 0) ⟨rows,0,false⟩:=by
 intro W v vo hv ho;have HQV:=Wz (fun W:World=>BQ q hq W);have HCL:=Wz (fun(W:World)(h:AR W v rows)=>EG rows v (by omega) W h);obtain⟨kd,t,jj,lo,hi,by_,o⟩:=q;dsimp only[BU.arr]at *;have k3:(kd == 3)=false:=by rcases h12 with h|h <;> subst h <;> rfl
 have k4:(kd == 4)=false:=by rcases h12 with h|h <;> subst h <;> rfl
 have k5:(kd == 5)=false:=by rcases h12 with h|h <;> subst h <;> rfl
 have k6:(kd == 6)=false:=by rcases h12 with h|h <;> subst h <;> rfl
 have k7:(kd == 7)=false:=by rcases h12 with h|h <;> subst h <;> rfl
 clear h12;obtain⟨W0,hW0⟩:∃ W0,W0=(W.alloc (J #[U I kd,U I t,U I jj,U I lo,U I hi,U I by_,U I o] 33)).alloc (J #[R none 0 0,U I 0,dN false] 36):=⟨_,rfl⟩;have HE0:=Wz (show Below W.heap.size W W0 by rw[hW0];exact AB (AC _ _) _);have HQ0:=Wz (show Blk W0 W.heap.size 33 #[U I kd,U I t,U I jj,U I lo,U I hi,U I by_,U I o]by rw[hW0];exact(Blk.new _ _ _).alloc _);have HO0:=Wz (show Blk W0 (W.heap.size+1) 36 #[R none 0 0,U I 0,dN false]by rw[hW0];exact Blk.new' _ _ _ (by simp));have HW0:=Wz hW0;have HV:=Wz hv;subst ho;clear hW0 hq hv;go_enter Tryz.func99,Tryz.ntmps99;go_wp2_with fail
 rw[<- HW0.out];refine(HQV.out _).mono ?_;rintro e W1 ⟨rfl,hb1⟩;have HE1:=Wz (AA HE0.out hb1);have HQ1:=Wz (HQ0.out.ext hb1);have HO1:=Wz (HO0.out.ext hb1);have q0:=HQ1.out.cell 0;have q1:=HQ1.out.cell 1;have q2:=HQ1.out.cell 2;have q3:=HQ1.out.cell 3;have q4:=HQ1.out.cell 4;have q5:=HQ1.out.cell 5;have q6:=HQ1.out.cell 6;have ql:=HQ1.out.lt;clear hb1 HE0 HQ0 HO0 HW0;go_wp2_with fail
 have hE2:=AB HE1.out (J #[R none 0 0,U I 0,dN false] 36);refine(HCL.out _ (HV.out.ext hE2)).mono ?_;rintro e W2 ⟨u,rfl,hu,hb2⟩;have HE2:=Wz (AA hE2 hb2);have HO2:=Wz ((HO1.out.alloc (J #[R none 0 0,U I 0,dN false] 36)).ext hb2);have HLT:=Wz (show W.heap.size+1<W1.heap.size+1 by have:=HO1.out.lt;omega);have hU2:=CX hu;rw[World.size_alloc]at hU2;obtain⟨Au,cu,rfl,-⟩:=id hU2;have HU2:=Wz hU2;obtain⟨rr,hrr⟩:∃ rr,rr=rows:=⟨_,rfl⟩;have HRR:=Wz hrr;rw[<- hrr]at HU2 ⊢;clear hrr;clear hu hU2 hb2 hE2 q0 q1 q2 q3 q4 q5 q6;have o0:=HO2.out.cell 0;have o1:=HO2.out.cell 1;have o2:=HO2.out.cell 2;have f0:=HO2.out.frozen 0;have f1:=HO2.out.frozen 1;have f2:=HO2.out.frozen 2;have hw1:W.heap.size<=W1.heap.size+1:=Nat.le_succ_of_le HE1.out.size;go_wp2;have hBf:=((HO2.out.set_ 0 (R Au rr.length cu)).set_ 1 (U I 0)).set_ 2 (dN false);have y0:=hBf.cell 0;have y1:=hBf.cell 1;have y2:=hBf.cell 2;exact bodyPost_ret (v:=.agg #[R Au rr.length cu,U I 0,dN false]) (by simp[results,Tryz.results99,go_sem,y0,y1,y2]) rfl ⟨_,rfl,by rw[<- HRR.out];exact BF.mono (S:=fun x=>W1.heap.size+1<=x) (HU2.out.set3 HLT.out) (fun x hx _=>Nat.le_trans hw1 hx),AE (AE (AE HE2.out (by simp) _) (by simp) _) (by simp) _⟩
theorem Tn(q:BU)(hq:q.Ok)(h7:q.kind=7)(b:Nat)(hb:b<4)(hqb:q.by_=(b:Int))(others:List AD)(hl2:others.length<=100000)(rows:List AD)(hl:rows.length<=1000):LO q rows (fun W vo=>AR W vo others) ⟨CZ b rows (Da q.other others),0,false⟩:=by
 intro W v vo hv ho;have HQV:=Wz (fun W:World=>BQ q hq W);have HCL:=Wz (fun(k0 t j lo hi o:Int)(W:World)(h:AR W v rows)(h2:AR W vo others)=>VI k0 t j lo hi o b hb rows others hl hl2 v vo W h h2);obtain⟨kd,t,jj,lo,hi,by_,o⟩:=q;dsimp only[BU.arr]at *;subst h7;subst hqb;obtain⟨W0,hW0⟩:∃ W0,W0=(W.alloc (J #[U I 7,U I t,U I jj,U I lo,U I hi,U I (b:Int),U I o] 33)).alloc (J #[R none 0 0,U I 0,dN false] 36):=⟨_,rfl⟩;have HE0:=Wz (show Below W.heap.size W W0 by rw[hW0];exact AB (AC _ _) _);have HQ0:=Wz (show Blk W0 W.heap.size 33 #[U I 7,U I t,U I jj,U I lo,U I hi,U I (b:Int),U I o]by rw[hW0];exact(Blk.new _ _ _).alloc _);have HO0:=Wz (show Blk W0 (W.heap.size+1) 36 #[R none 0 0,U I 0,dN false]by rw[hW0];exact Blk.new' _ _ _ (by simp));have HW0:=Wz hW0;have HV:=Wz hv;have HO:=Wz ho;clear ho;clear hW0 hq hv;go_enter Tryz.func99,Tryz.ntmps99;go_wp2_with fail
 rw[<- HW0.out];refine(HQV.out _).mono ?_;rintro e W1 ⟨rfl,hb1⟩;have HE1:=Wz (AA HE0.out hb1);have HQ1:=Wz (HQ0.out.ext hb1);have HO1:=Wz (HO0.out.ext hb1);have q0:=HQ1.out.cell 0;have q1:=HQ1.out.cell 1;have q2:=HQ1.out.cell 2;have q3:=HQ1.out.cell 3;have q4:=HQ1.out.cell 4;have q5:=HQ1.out.cell 5;have q6:=HQ1.out.cell 6;have ql:=HQ1.out.lt;clear hb1 HE0 HQ0 HO0 HW0;go_wp2_with fail
 have hE2:=AB HE1.out (J #[R none 0 0,U I 0,dN false] 36);refine(HCL.out _ _ _ _ _ _ _ (HV.out.ext hE2) (HO.out.ext hE2)).mono ?_;rintro e W2 ⟨u,rfl,hu,hb2⟩;have HE2:=Wz (AA hE2 hb2);have HO2:=Wz ((HO1.out.alloc (J #[R none 0 0,U I 0,dN false] 36)).ext hb2);have HLT:=Wz (show W.heap.size+1<W1.heap.size+1 by have:=HO1.out.lt;omega);have hU2:=hu;rw[World.size_alloc]at hU2;obtain⟨Au,cu,rfl,-⟩:=id hU2;have HU2:=Wz hU2;obtain⟨rr,hrr⟩:∃ rr,rr=CZ b rows (Da o others):=⟨_,rfl⟩;have HRR:=Wz hrr;rw[<- hrr]at HU2 ⊢;clear hrr;clear hu hU2 hb2 hE2 q0 q1 q2 q3 q4 q5 q6;have o0:=HO2.out.cell 0;have o1:=HO2.out.cell 1;have o2:=HO2.out.cell 2;have f0:=HO2.out.frozen 0;have f1:=HO2.out.frozen 1;have f2:=HO2.out.frozen 2;have hw1:W.heap.size<=W1.heap.size+1:=Nat.le_succ_of_le HE1.out.size;go_wp2;have hBf:=((HO2.out.set_ 0 (R Au rr.length cu)).set_ 1 (U I 0)).set_ 2 (dN false);have y0:=hBf.cell 0;have y1:=hBf.cell 1;have y2:=hBf.cell 2;exact bodyPost_ret (v:=.agg #[R Au rr.length cu,U I 0,dN false]) (by simp[results,Tryz.results99,go_sem,y0,y1,y2]) rfl ⟨_,rfl,by rw[<- HRR.out];exact BF.mono (S:=fun x=>W1.heap.size+1<=x) (HU2.out.set3 HLT.out) (fun x hx _=>Nat.le_trans hw1 hx),AE (AE (AE HE2.out (by simp) _) (by simp) _) (by simp) _⟩
end Go.Proofs.YtimoapjhepmehaaGreatDoor
