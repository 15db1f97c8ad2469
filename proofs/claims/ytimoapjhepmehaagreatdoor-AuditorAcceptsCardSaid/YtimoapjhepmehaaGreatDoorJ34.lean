/- Part 34: contracts that the last part uses. -/
import Derived.Test.YtimoapjhepmehaaGreatDoorJ33
set_option linter.unusedSimpArgs false
set_option linter.unusedVariables false
set_option maxHeartbeats 4000000
set_option maxRecDepth 100000
namespace Go.Proofs.YtimoapjhepmehaaGreatDoor
open Go.IntKind renaming i64->I
open Go.Value renaming int->U,slice->J,bool->fR,pointer->fS
open Go renaming World->R,Value->fQ
open Go.Obj renaming cells->fP
open List renaming getElem?_eq_getElem->fX
section
open Go.RowKit Go.Shelf
attribute [local go_sem ↓] AQ AU Go.wp_at_zero Go.wp_at_succ
def CC(rs:List AD)(kd t lo hi o:Int)(j b:Nat):List RPT:=Ag rs t j lo hi::if kd=7 then(C6 rs t j lo hi).map (fun r=>Ag rs o 0 (r.col b) (r.col b))else []
theorem Hi.cap{B bo:Nat}{W:R}{v:fQ}{ys:List (RPT × fQ × fQ × fQ)}(h:Hi B bo W v ys)(h0:0<ys.length):∀ A n c,v=J A n c->n<=c:=fun A n c e=>by
 obtain⟨g,cap,h1,_,_,h2,_⟩:=Bj h.own h0;rw[h1]at e;injection e with _ h3 h4
 subst h3 h4;exact h2
theorem makeA(kd t lo hi o:Int)(j b:Nat)(hq:BU.Ok ⟨kd,t,(j:Int),lo,hi,(b:Int),o⟩)(rs:List AD)(hrs:∀ r ∈ rs,r.ok)(hsz:rs.length<=60)(hap:A0 rs)(gs gm:Nat)(pos:Int)(w:R)(hS:BA w gs gm pos rs)(hR:AJ w) :
  Calls Tryz.prog 26 #[fS (some ⟨gs,0,none⟩),.agg #[U I kd,U I t,U I (j:Int),U I lo,U I hi,U I (b:Int),U I o]] w fun e w'=>∃ v,e=.returned (.tuple #[v,U I 0])/\Cj (fun _=>True) w' v (CC rs kd t lo hi o j b)/\(∀ A n c,v=J A n c->n<=c)/\Below w.heap.size w w':=by
 have hmf:∀(fn:Fn) (first cap:Array fQ) (w:R),(Instr.makeFunc fn first cap).run Tryz.prog w=.ok (.func fn first cap) w:=fun _ _ _ _=>rfl;have hj:=hq.by4.1;have HQV:=Wz (fun W:R=>BQ _ hq W);have HOF:=Wz (fun W:R=>Jo _ hq W);have HMP:=Wz (fun(B bs bo:Nat)(W:R)=>QH rs hrs hsz hap gs gm pos t lo hi j hq.t hj hq.lh B bs bo (J none 0 0) [] (by simp) W);have HMQ:=Wz (fun(hk:kd=7)(k:Int)(B bs bo:Nat)(ov:fQ)(ys:List (RPT × fQ × fQ × fQ))(hn:ys.length<=1000)(W:R)=>QH rs hrs hsz hap gs gm pos o k k 0 (by subst hk;have h9:=hq.kind;generalize hjj:(j:Int)=jj at h9;generalize hbb:(b:Int)=bb at h9;cases h9;omega) (by omega) (Int.le_refl k) B bs bo ov ys hn W);have HPN:=Wz (fun(r:AD)(W:R)=>Hc kd t (j:Int) lo hi o b hq.by4.2 r W);have HRG:=Wz (fun(W:R)(h:BA W gs gm pos rs)=>S1 rs gs gm j pos t lo hi hj W h (by omega) hap);have hsl:=Nat.le_trans (Be rs t j lo hi) hsz;have HPL:=Wz (show CC rs kd t lo hi o j b=Ag rs t j lo hi::if kd=7 then(C6 rs t j lo hi).map (fun r=>Ag rs o 0 (r.col b) (r.col b))else []from rfl);generalize CC rs kd t lo hi o j b=pl at *;generalize Ag rs t j lo hi=p at *;generalize C6 rs t j lo hi=sl at *;dsimp only[BU.arr]at *;have HE0:=Wz (AB (AC w (fP #[fS (some ⟨gs,0,none⟩)] 63)) (fP #[U I kd,U I t,U I (j:Int),U I lo,U I hi,U I (b:Int),U I o] 33));have HB0:=Wz ((Blk.new w 63 #[fS (some ⟨gs,0,none⟩)]).alloc (fP #[U I kd,U I t,U I (j:Int),U I lo,U I hi,U I (b:Int),U I o] 33));have HQ0:=Wz (Blk.new' (w.alloc (fP #[fS (some ⟨gs,0,none⟩)] 63)) 33 #[U I kd,U I t,U I (j:Int),U I lo,U I hi,U I (b:Int),U I o] (b:=w.heap.size+1) (by simp));have HS:=Wz hS;have HR:=Wz hR;clear hS hR hq hrs hap;go_enter Tryz.func26,Tryz.ntmps26;go_wp2_with fail
 refine(HQV.out _).mono ?_;rintro e W1 ⟨rfl,hb1⟩;have HE1:=Wz (AA HE0.out hb1);have HB1:=Wz (HB0.out.ext hb1);have HQ1:=Wz (HQ0.out.ext hb1);obtain⟨q0,q1,q2,q3,q4,q5,q6⟩:=HQ1.out.all7;have ql:=HQ1.out.lt;clear hb1 HE0 HB0 HQ0;go_wp2_with fail
 refine(HOF.out _).mono ?_;rintro e W2 ⟨rfl,hb2⟩;have HE2:=Wz (AA (AB HE1.out (fP #[J none 0 0] 37)) hb2);have HB2:=Wz ((HB1.out.alloc (fP #[J none 0 0] 37)).ext hb2);have HQ2:=Wz ((HQ1.out.alloc (fP #[J none 0 0] 37)).ext hb2);have HO2:=Wz ((Blk.new W1 37 #[J none 0 0]).ext hb2);have HLo:=Wz (show w.heap.size<=W1.heap.size from HE1.out.size);have HBS:=Wz (show W1.heap.size+1<=W2.heap.size from HO2.out.lt);clear hb2 ql HE1 HB1 HQ1 q0 q1 q2 q3 q4 q5 q6;generalize W1.heap.size=bo at *;have s0:=HB2.out.cell 0;have bl:=HB2.out.lt;go_wp2_with fail
 refine(HRG.out _ (HS.out.ext (AB HE2.out _))).mono ?_;rintro e W3 ⟨v,rfl,hv,hb3⟩;have HV3:=Wz hv;obtain⟨Av,cv,rfl,-⟩:=hv;have HE3:=Wz (AA (AB HE2.out (fP #[U I t,U I (j:Int),U I lo,U I hi] 123)) hb3);have HB3:=Wz ((HB2.out.alloc (fP #[U I t,U I (j:Int),U I lo,U I hi] 123)).ext hb3);have HQ3:=Wz ((HQ2.out.alloc (fP #[U I t,U I (j:Int),U I lo,U I hi] 123)).ext hb3);have HO3:=Wz ((HO2.out.alloc (fP #[U I t,U I (j:Int),U I lo,U I hi] 123)).ext hb3);have hC3:=(Blk.new W2 123 #[U I t,U I (j:Int),U I lo,U I hi]).ext hb3;have c0:=hC3.cell 0;have c1:=hC3.cell 1;have c2:=hC3.cell 2;have c3:=hC3.cell 3;have cl:=hC3.lt;have HZ3:=Wz (show bo+1<=W3.heap.size from by have:=HBS.out;omega);have dl:decide ((100:Int)<(sl.length:Int))=false:=decide_eq_false (by omega);clear hb3 HE2 HB2 HQ2 HO2 s0 bl hC3;go_wp2_with fail
 refine(HMP.out W3.heap.size w.heap.size bo _ (HS.out.ext HE3.out) (HR.out.below HE3.out) (HB3.out.cell 0) ⟨HO3.out,World.ownsRow_nil _ _ _ _,by simp⟩ (by have:=HZ3.out;omega) (Nat.le_refl _)).mono ?_;rintro e W4 ⟨rfl,v',a,b',c,hO4,hx4⟩;have hX4:AS (fun k=>k=bo∨W3.heap.size<=k) W3 W4:=hx4.mono (fun k hk=>by
  rcases hk with rfl|hk
  ·exact .inl rfl
  cases hk)
 have HWW:=Wz (fun(W:R)(h:AS (fun k=>k=bo∨W3.heap.size<=k) W3 W)=>(show Below w.heap.size w W/\Blk W (w.heap.size+1) 33 #[U I kd,U I t,U I (j:Int),U I lo,U I hi,U I (b:Int),U I o]/\Blk W w.heap.size 63 #[fS (some ⟨gs,0,none⟩)]from
  ⟨AS.below HE3.out (fun k hk=>by
   rcases hk with rfl|hk
   ·exact HLo.out
   ·exact Nat.le_trans HE3.out.size hk) h,HQ3.out.extS h (fun h=>by
   rcases h with h|h
   ·exact ES HQ3.out HO3.out (by decide) h
   ·have:=HQ3.out.lt;omega),HB3.out.extS h (fun h=>by
   rcases h with h|h
   ·exact ES HB3.out HO3.out (by decide) h
   have:=HB3.out.lt;omega)⟩))
 have HX4:=Wz hX4;have HO4:=Wz hO4;clear hx4 hX4 c0 c1 c2 c3;by_cases h7:kd=7
 ·have HPE:=Wz (show pl=p::sl.map (fun r=>Ag rs o 0 (r.col b) (r.col b))by rw[HPL.out,if_pos h7]);have HMR:=Wz (HMQ.out h7);have k0:=(HWW.out W4 HX4.out).2.1.cell 0;subst h7;clear hO4 HMQ HMP;go_wp2;obtain⟨f,hf⟩:∃ f:AD->RPT,f=fun r=>Ag rs o 0 (r.col b) (r.col b):=⟨_,rfl⟩;have HFF:=Wz (fun r:AD=>show f r=Ag rs o 0 (r.col b) (r.col b)by rw[hf]);rw[<- hf]at HPE;clear hf k0 HPL;go_loopw [43] (fun iv W=>∃(k:Nat) (ov:fQ) (ys:List (RPT × fQ × fQ × fQ)),k<=sl.length/\iv=U I (k:Int)/\Hi W3.heap.size bo W ov ys/\ys.map (·.1)=p::(sl.take k).map f/\AS (fun k=>k=bo∨W3.heap.size<=k) W3 W) (fun iv _=>sl.length-(intOf iv).toNat)
  case atStart=>exact⟨0,_,_,Nat.zero_le _,rfl,HO4.out,rfl,HX4.out⟩
  case round=>
   obtain⟨k,ov,ys,hk,rfl,hO,hys,hX⟩:=hrel;have HO:=Wz hO;have HX:=Wz hX;have HYS:=Wz hys;have e2:IntKind.i64.wrap ((k:Int)+1)=(k:Int)+1:=IntWalk.i64_in _ (by omega);obtain⟨hE,hQ,hB⟩:=HWW.out wr hX;have HE:=Wz hE;have HQ:=Wz hQ;have HBo:=Wz hB;obtain⟨Ao,co,rfl⟩:=AI hO.own;by_cases hlt:k<sl.length
   ·obtain⟨r,hr⟩:∃ r,sl[k]? = some r:=⟨_,fX hlt⟩;have HTK:=Wz (show(sl.take (k+1)).map f=(sl.take k).map f++[f r]by rw[List.take_add_one,hr];simp);have HLY:=Wz (show ys.length<=1000 by have h:=congrArg List.length hys;simp at h;omega);obtain⟨g,d',hA,hg,r0,r1,r2,r3,r4⟩:=HV3.out.c5 hr;injection hA with hA hn' hd'
    subst hA;subst hd';have hgb:g≠bo:=fun e=>by
     subst e;have h3:=(HO3.out.cell (k*5)).symm.trans r0
     cases k with
     | zero=>simp at h3
     | succ n=>rw[Array.getElem?_eq_none (by simp;omega)]at h3;cases h3
    have hnS:¬ (g=bo∨W3.heap.size<=g):=by omega
    have r0:=hX.cell r0 hnS;have r1:=hX.cell r1 hnS;have r2:=hX.cell r2 hnS;have r3:=hX.cell r3 hnS;have r4:=hX.cell r4 hnS;have HPR:=Wz (HPN.out r);have HMS:=Wz (HMR.out (r.col b));have HFR:=Wz (HFF.out r);generalize r.col b=kk at *;obtain⟨x0,x1,x2,x3,x4⟩:=r;dsimp only at *;obtain⟨h1,h2,h3,h4,h5,h6,h7⟩:=hQ.all7;have d1:decide ((k:Int)<(sl.length:Int))=true:=decide_eq_true (by omega);have y0:(0:Int)<=(k:Int):=by omega
    have y1:(k:Int)<(sl.length:Int):=by omega
    clear hr hO hys hX hE hQ hB hn' hgb hnS h1 h2 h3 h4 h5 h6 h7;go_upto_region 16 with(fail)
    obtain⟨Y,hY⟩:∃ Y,Y=wr.alloc (fP #[U I x0,U I x1,U I x2,U I x3,U I x4] 67):=⟨_,rfl⟩;have HEY:=Wz (show Below wr.heap.size wr Y by rw[hY];exact AC _ _);have HRY:=Wz (show Blk Y wr.heap.size 67 #[U I x0,U I x1,U I x2,U I x3,U I x4]by rw[hY];exact Blk.new _ _ _);rw[<- hY];obtain⟨h1,h2,h3,h4,h5,h6,h7⟩:=(HQ.out.ext HEY.out).all7;obtain⟨p0,p1,p2,p3,p4⟩:=HRY.out.all5;clear hY r0 r1 r2 r3 r4;go_wp2_with fail
    refine(HPR.out _).mono ?_;rintro e Z ⟨rfl,hbz⟩;have HEZ:=Wz (AA HEY.out hbz);clear h1 h2 h3 h4 h5 h6 h7 p0 p1 p2 p3 p4 hbz;go_wp2_with fail
    refine(HMS.out W3.heap.size w.heap.size bo _ ys HLY.out _ (HS.out.ext (AA HE.out HEZ.out)) (HR.out.below (AA HE.out HEZ.out)) ((HBo.out.ext HEZ.out).cell 0) (HO.out.ext HEZ.out) (by have:=HZ3.out;omega) (Nat.le_trans HX.out.size HEZ.out.size)).mono ?_;rintro e V ⟨rfl,ov2,a2,b2,c2,hO2,hx2⟩;have HO2:=Wz hO2;have HX2:=Wz ((HX.out.trans (AS.of_ext HEZ.out)).trans (hx2.mono (fun k hk=>by
     rcases hk with rfl|hk
     ·exact .inl rfl
     exact .inr (HO.out.own.lt k hk).1)))
    clear hO2 hx2;go_wp2;go_roundw
    case rel=>exact⟨k+1,ov2,_,by omega,by go_num,HO2.out,by rw[List.map_append,HYS.out,HTK.out,HFR.out];rfl,HX2.out⟩
    simp[intOf];omega
   have d1:decide ((k:Int)<(sl.length:Int))=false:=decide_eq_false (by omega);have HEQ:=Wz (show sl.take k=sl by rw[List.take_of_length_le (by omega)]);have o0:=hO.box.cell 0;have HLN:=Wz (show 0<ys.length by have h:=congrArg List.length hys;simp at h;omega);clear hO hys hX hE hQ hB;go_wp2;go_ret2;exact⟨_,rfl,by rw[HPE.out,<- HEQ.out,<- HYS.out];exact HO.out.list.mono (fun _ _ _=>trivial),HO.out.cap HLN.out,HE.out⟩
 have d7:(kd == 7)=false:=by simpa using h7
 have k0:=(HWW.out W4 HX4.out).2.1.cell 0;have o0:=hO4.box.cell 0;have HPE:=Wz (show pl=[p]by rw[HPL.out,if_neg h7]);obtain⟨A9,c9,rfl⟩:=AI hO4.own;clear hO4;go_wp2;go_ret2;exact⟨_,rfl,by rw[HPE.out];exact HO4.out.list.mono (fun _ _ _=>trivial),HO4.out.cap (by simp),(HWW.out W4 HX4.out).1⟩
end
section
open Go.RowKit Go.Shelf
attribute [local go_sem ↓] AQ AU Go.wp_at_zero Go.wp_at_succ
theorem Vr(p:RPT)(j:Nat)(hp:LI p j)(pr g off m c:Nat)(a b d:fQ)(w:R)(hr:Blk w pr 183 #[J (some ⟨g,off,none⟩) m c])(hm:1<=m)(hc:m<=c)(hg:∀ k,k<9->w.cell? ⟨g,off+k,none⟩=(p.nums a b d)[k]?)(hs:RPS (fun _=>True) w p a b d) :
  Calls Tryz.prog 98 #[fS (some ⟨pr,0,none⟩),.agg #[U I p.t,U I p.j,U I p.lo,U I p.hi]] w
   fun e w'=>∃ v off',e=.returned v/\AR w' v (CJ p j)/\Blk w' pr 183 #[J (some ⟨g,off',none⟩) (m-1) (c-1)]/\(1<m->off'=off+9)/\Ah pr pr w w':=by
 have HRO:=Wz (fun(W:R)(h:AR W a p.rows)=>Ur p j hp a b d W h);have HFA:=Wz (show ∀ u:fQ,AR (w.setCell ⟨pr,0,none⟩ u) a p.rows from fun u=>hs.rows.rowsL.far (hr.cell 0) (by intro n h;cases h) 0 u);generalize CJ p j=out at *;have hgl:g<w.heap.size:=AZ (hg 0 (by omega));obtain⟨Aa,ca,ha,-⟩:=hs.rows;obtain⟨Ab,cb,hb,-⟩:=hs.paths;obtain⟨Ad,cd,hd,-⟩:=hs.roots;obtain⟨t,jj,lo,hi,n,f,l,ps,rts⟩:=p;dsimp only[RPT.nums]at *;subst ha hb hd;have p0:=hr.cell 0;have f0:=hr.frozen 0;have pl:=hr.lt;have pl1:pr<w.heap.size+1:=by omega
 have gl1:g<w.heap.size+1:=by omega
 have hci:(1:Int)<=(c:Int):=by omega
 have hmi:(1:Int)<=(m:Int):=by omega
 have hmc:(m:Int)<=(c:Int):=by omega
 have hm0:(0:Int)<(m:Int):=by omega
 have dm:decide ((0:Int)<(m:Int))=true:=decide_eq_true hm0;have dn:decide (0<m)=true:=decide_eq_true hm;have hmn:0<m:=hm;have q0:=hg 0 (by omega);have q1:=hg 1 (by omega);have q2:=hg 2 (by omega);have q3:=hg 3 (by omega);have q4:=hg 4 (by omega);have q5:=hg 5 (by omega);have q6:=hg 6 (by omega);have q7:=hg 7 (by omega);have q8:=hg 8 (by omega);simp only[List.getElem?_toArray,List.getElem?_cons_zero,List.getElem?_cons_succ,Nat.add_zero]at q0 q1 q2 q3 q4 q5 q6 q7 q8;have hse:=fun W:R=>WN t jj lo hi W;have HR:=Wz hr;have HMM:=Wz hm;clear hr hg hs hp;by_cases hc1:c=1
 all_goals
  first
  |(obtain rfl:m=1:=by omega
    subst hc1)
  |(have hc2:(1:Int)<(c:Int):=by omega
    have hc3:1<c:=by omega)
  go_enter Tryz.func98,Tryz.ntmps98;go_wp2_with (go_at_call 97;refine(Ep _).mono ?_;rintro e w' ⟨rfl,rfl⟩)
  refine(HRO.out _ (((HFA.out _).ext (AB (AC _ _) _)))).mono ?_;rintro e W2 ⟨v,rfl,hv,hb2⟩;obtain⟨Av,cv,rfl,-⟩:=id hv;have HE2:=Wz (Ah.ext (((((Ah.refl pr pr w).setA 0 _).alloc _).alloc _)) hb2);have HP2:=Wz ((((HR.out.set_ 0 _).alloc _).alloc _).ext hb2);have HV:=Wz hv;clear hv hb2 p0 q0 q1 q2 q3 q4 q5 q6 q7 q8;go_wp2_with (go_at_call 97;refine(Ep _).mono ?_;rintro e w' ⟨rfl,rfl⟩)
  go_ret;exact⟨_,_,rfl,HV.out.rowsL,HP2.out,by omega,HE2.out⟩
structure T2 (kd t lo hi o:Int) (j b:Nat) (P:List RPT) (rows oth:List AD):Prop where
 ex : ∃ p ps, P = p :: ps /\ (p.t = t /\ p.j = (j : Int) /\ p.lo = lo /\ p.hi = hi) /\ LI p j /\ CJ p j = rows /\ (kd ≠ 7 -> ps = []) /\ (kd = 7 -> ps.length = rows.length) /\
  (∀(i:Nat) (q:RPT) (r:AD),ps[i]? = some q->rows[i]? = some r->(q.t=o/\q.j=0/\q.lo=r.col b/\q.hi=r.col b)/\LI q 0)/\(∀ q ∈ ps,(CJ q 0).length<=60)/\oth=ps.flatMap (CJ · 0)
 len:rows.length<=60
theorem Cj.get{W:R}{g c n:Nat}{P:List RPT}(h:Cj (fun _=>True) W (J (some ⟨g,0,none⟩) n c) P){i:Nat}{p:RPT}(hi:P[i]? = some p):∃ a b d,RPS (fun _=>True) W p a b d/\∀ k,k<9->W.cell? ⟨g,i*9+k,none⟩=(p.nums a b d)[k]? := by
 obtain⟨A,c',h1,h2⟩:=h;injection h1 with h1 _ h3
 subst h1 h3;obtain⟨g',h4,_,_,h5⟩:=h2 (by have:=(List.getElem?_eq_some_iff.1 hi).1;omega);injection h4 with h4
 injection h4 with h4
 subst h4;exact h5 i p hi
theorem AR.extPr{w W:R}{v:fQ}{l:List AD}{pr:Nat}{t:TypeId}{A:Option Addr}{n c:Nat}(h:AR w v l)(hp:Blk w pr t #[J A n c])(k:AS (fun x=>x=pr∨w.heap.size<=x) w W):AR W v l:=by
 obtain⟨A,c,rfl,h⟩:=h;refine⟨A,c,rfl,fun h0=>?_⟩;obtain⟨g,rfl,hg,hc⟩:=h h0;have hne:g≠pr:=fun e=>by
  subst e;have h1:=hc 0 l[0] (fX h0) 0 (by omega);have h2:=hp.cell 0;rw[show 0*5+0=0 from rfl,h2]at h1;simp[AY]at h1
 exact⟨g,rfl,Nat.lt_of_lt_of_le hg k.size,fun j r hr i hi=>(World.cell?_of_block (k.block g hg (by omega))).trans (hc j r hr i hi)⟩
theorem KB{α β:Type}(f:α->List β)(l:List α)(h:∀ x ∈ l,(f x).length<=60):(l.flatMap f).length<=60*l.length:=by
 induction l with
 | nil=>simp
 | cons a l ih=>
  have h1:=h a (List.mem_cons_self ..);have h2:=ih fun x hx=>h x (List.mem_cons_of_mem _ hx);simp only[List.flatMap_cons,List.length_append,List.length_cons];omega
def Pi(kd:Int)(oth:List AD)(W:R)(vo:fQ):Prop:=if kd=7 then AR W vo oth else vo=J none 0 0
theorem Wr(kd t lo hi o:Int)(j b:Nat)(hq:BU.Ok ⟨kd,t,(j:Int),lo,hi,(b:Int),o⟩)(P:List RPT)(rows oth:List AD)(hP:T2 kd t lo hi o j b P rows oth)(r:Bg)(hF:LO ⟨kd,t,(j:Int),lo,hi,(b:Int),o⟩ rows (Pi kd oth) r)(v:fQ)(w:R)(hv:Cj (fun _=>True) w v P)(hcap:Ga v) :
  Calls Tryz.prog 53 #[.agg #[U I kd,U I t,U I (j:Int),U I lo,U I hi,U I (b:Int),U I o],v] w
   fun e w'=>∃ u,e=.returned (.tuple #[.agg #[u,U I r.val,fR r.found],fR true])/\AR w' u r.rows/\Below w.heap.size w w':=by
 have hmf:∀(fn:Fn) (first cap:Array fQ) (w:R),(Instr.makeFunc fn first cap).run Tryz.prog w=.ok (.func fn first cap) w:=fun _ _ _ _=>rfl;have HQV:=Wz (fun W:R=>BQ _ hq W);have HOF:=Wz (fun W:R=>Jo _ hq W);have HPN:=Wz (fun(r:AD)(W:R)=>Hc kd t (j:Int) lo hi o b hq.by4.2 r W);obtain⟨p,ps,hPp,⟨hpt,hpj,hpl,hph⟩,hp,hrows,hn7,h7,hps,h60,hoth⟩:=hP.ex;have HRL:=Wz hP.len;have HRD:=Wz (fun(pr g off m c:Nat)(a b d:fQ)(W:R)=>Vr p j hp pr g off m c a b d W);rw[hpt,hpj,hpl,hph,hrows]at HRD;obtain⟨g,c,rfl,hgw⟩:∃ g c,v=J (some ⟨g,0,none⟩) P.length c/\g<w.heap.size:=by
  obtain⟨A,c,rfl,h⟩:=hv;obtain⟨g,rfl,h2,_⟩:=h (by rw[hPp];simp);exact⟨g,c,rfl,h2⟩
 have hc:P.length<=c:=hcap _ _ _ rfl;have HV:=Wz hv;have HFR:=Wz hF;have HN7:=Wz hn7;have HY7:=Wz h7;have HPS:=Wz hps;have H60:=Wz h60;have HOT:=Wz hoth;have HPP:=Wz hPp;have hPl:P.length=ps.length+1:=by rw[hPp];simp
 obtain⟨rrows,rval,rfound⟩:=r;unfold LO at HFR;dsimp only[BU.arr]at *;obtain⟨n,hn⟩:∃ n,n=P.length:=⟨_,rfl⟩;rw[<- hn]at hc hPl HV ⊢;have HNN:=Wz hn;have HPL:=Wz hPl;obtain⟨W0,hW0⟩:∃ W0,W0=((w.alloc (fP #[U I kd,U I t,U I (j:Int),U I lo,U I hi,U I (b:Int),U I o] 33)).alloc (fP #[J none 0 0,U I 0,fR false] 36)).alloc (fP #[fR true] 4):=⟨_,rfl⟩;have hE0:Below w.heap.size w W0:=by rw[hW0];exact AB (AB (AC _ _) _) _
 have HQ0:=Wz (show Blk W0 w.heap.size 33 #[U I kd,U I t,U I (j:Int),U I lo,U I hi,U I (b:Int),U I o]by rw[hW0];exact((Blk.new _ _ _).alloc _).alloc _);have HO0:=Wz (show Blk W0 (w.heap.size+1) 36 #[J none 0 0,U I 0,fR false]by rw[hW0];exact(Blk.new' _ _ _ (by simp)).alloc _);have HK0:=Wz (show Blk W0 (w.heap.size+1+1) 4 #[fR true]by rw[hW0];exact Blk.new' _ _ _ (by simp));have HE0:=Wz hE0;have HW0:=Wz hW0;have HCC:=Wz hc;clear hW0 hE0 hv hF hcap hp hq hPp hpt hpj hpl hph hrows hn7 h7 hps h60 hoth hP hn hPl hc;go_enter_defers Tryz.func53,Tryz.ntmps53;go_wp2_with fail
 rw[<- HW0.out];refine(HQV.out _).mono ?_;rintro e W1 ⟨rfl,hb1⟩;have HE1:=Wz (AA HE0.out hb1);have HQ1:=Wz (HQ0.out.ext hb1);have HO1:=Wz (HO0.out.ext hb1);have HK1:=Wz (HK0.out.ext hb1);obtain⟨q0,q1,q2,q3,q4,q5,q6⟩:=HQ1.out.all7;have ql:=HQ1.out.lt;clear hb1 HE0 HQ0 HO0 HK0 HW0;go_wp2_with (go_at_call 97;refine(Ep _).mono ?_;rintro e w' ⟨rfl,rfl⟩)
 refine(HOF.out _).mono ?_;rintro e W2 ⟨rfl,hb2⟩;have HP2:=Wz ((Blk.new W1 183 #[J (some ⟨g,0,none⟩) n c]).ext hb2);have HE2:=Wz (AA (AB HE1.out (fP #[J (some ⟨g,0,none⟩) n c] 183)) hb2);have HQ2:=Wz ((HQ1.out.alloc (fP #[J (some ⟨g,0,none⟩) n c] 183)).ext hb2);have HO2:=Wz ((HO1.out.alloc (fP #[J (some ⟨g,0,none⟩) n c] 183)).ext hb2);have HK2:=Wz ((HK1.out.alloc (fP #[J (some ⟨g,0,none⟩) n c] 183)).ext hb2);have HLp:=Wz (show w.heap.size<=W1.heap.size from HE1.out.size);have HKL:=Wz (show w.heap.size+1+1<W1.heap.size from HK1.out.lt);clear hb2 ql q0 q1 q2 q3 q4 q5 q6 HE1 HQ1 HO1 HK1;generalize W1.heap.size=pr at *;obtain⟨a,b',d,hs0,hg0⟩:=(HV.out.ext HE2.out).get (i:=0) (p:=p) (by rw[HPP.out];rfl);have HRD2:=Wz (HRD.out pr g 0 n c a b' d _ HP2.out (by have:=HPL.out;omega) HCC.out (fun k hk=>by have:=hg0 k hk;rwa [Nat.zero_mul]at this) hs0);clear hs0 hg0;go_wp2_with fail
 refine HRD2.out.mono ?_;rintro e W3 ⟨v,off1,rfl,hv,hp3,hof1,hx3⟩;have HQ3:=Wz (HQ2.out.ext2 hx3 (ES HQ2.out HP2.out (by decide)) (ES HQ2.out HP2.out (by decide)));have HO3:=Wz (HO2.out.ext2 hx3 (ES HO2.out HP2.out (by decide)) (ES HO2.out HP2.out (by decide)));have HK3:=Wz (HK2.out.ext2 hx3 (ES HK2.out HP2.out (by decide)) (ES HK2.out HP2.out (by decide)));have HE3:=Wz (Ah.below HE2.out HLp.out HLp.out hx3);obtain⟨Av,cv,rfl,-⟩:=id hv;have HV3:=Wz hv;have HP3:=Wz hp3;have HF1:=Wz hof1;have dl:decide ((rows.length:Int)<=100)=true:=decide_eq_true (by have:=HRL.out;omega);have HWW:=Wz (fun(W:R)(h:AS (fun x=>x=pr∨W3.heap.size<=x) W3 W)=>(show Below w.heap.size w W/\Blk W w.heap.size 33 #[U I kd,U I t,U I (j:Int),U I lo,U I hi,U I (b:Int),U I o]/\Blk W (w.heap.size+1) 36 #[J none 0 0,U I 0,fR false]/\Blk W (w.heap.size+1+1) 4 #[fR true]from
  ⟨AS.below HE3.out (fun k hk=>by
   rcases hk with rfl|hk
   ·exact HLp.out
   exact Nat.le_trans HE3.out.size hk) h,HQ3.out.extS h (fun h=>by have:=HQ3.out.lt;have:=HKL.out;rcases h with h|h <;> omega),HO3.out.extS h (fun h=>by have:=HO3.out.lt;have:=HKL.out;rcases h with h|h <;> omega),HK3.out.extS h (fun h=>by have:=HK3.out.lt;have:=HKL.out;rcases h with h|h <;> omega)⟩))
 clear hv hp3 hx3 hof1 HE2 HQ2 HO2 HK2 HP2 HRD HRD2;have q0:=HQ3.out.cell 0;go_upto_if 28 with(go_at_call 97;refine(Ep _).mono ?_;rintro e w' ⟨rfl,rfl⟩)
 clear q0;generalize hb7:(kd == 7)=b7;go_cut [8,10]from 29 to 42 (fun ov _ W=>Pi kd oth W ov/\(∃ B m,Blk W pr 183 #[J B 0 m])/\AS (fun x=>x=pr∨W3.heap.size<=x) W3 W)
 case first =>
  cases b7 with
  | true =>
   have h7:kd=7:=by simpa using hb7
   clear hb7;have HL7:=Wz (HY7.out h7);have H7:=Wz h7;clear h7;go_wp2;go_loopw [8,31] (fun ov iv W=>∃(k off:Nat) (Ao:Option Addr) (co:Nat),k<=rows.length/\iv=U I (k:Int)/\ov=J Ao ((ps.take k).flatMap (CJ · 0)).length co/\W.ownsRow W3.heap.size 67 5 ov ((ps.take k).flatMap (CJ · 0)).length (rc ((ps.take k).flatMap (CJ · 0)))/\Blk W pr 183 #[J (some ⟨g,off,none⟩) (n-1-k) (c-1-k)]/\(k<rows.length->off=(k+1)*9)/\AS (fun x=>x=pr∨W3.heap.size<=x) W3 W) (fun _ iv _=>rows.length-(intOf iv).toNat)
   case atStart=>exact⟨0,off1,none,0,Nat.zero_le _,rfl,rfl,World.ownsRow_nil _ _ _ _,HP3.out,fun h=>by have:=HF1.out (by have:=HPL.out;have:=HL7.out;omega);omega,AS.of_ext (AF _)⟩
   case round=>
    obtain⟨k,off,Ao,co,hk,rfl,rfl,hO,hPr,hoff,hX⟩:=hrel;have HO:=Wz hO;have HPr:=Wz hPr;have HX:=Wz hX;have HOF2:=Wz hoff;have HE:=Wz (HWW.out wr hX).1;have HQ:=Wz (HWW.out wr hX).2.1;have e2:IntKind.i64.wrap ((k:Int)+1)=(k:Int)+1:=IntWalk.i64_in _ (by have:=HRL.out;omega);have HPRL:=Wz (show pr<W3.heap.size from HP3.out.lt);clear hO hPr hoff;by_cases hlt:k<rows.length
    ·obtain⟨x,hx⟩:∃ x,rows[k]? = some x:=⟨_,fX hlt⟩;obtain⟨pq,hp2⟩:∃ pq,ps[k]? = some pq:=⟨_,fX (by have:=HL7.out;omega)⟩;obtain⟨⟨f1,f2,f3,f4⟩,hcp⟩:=HPS.out k pq x hp2 hx;obtain⟨a2,b2,d2,hs2,hg2⟩:=(HV.out.ext HE.out).get (i:=k+1) (p:=pq) (by rw[HPP.out];exact hp2);have HPC:=Wz hs2;have HGC:=Wz hg2;have HRN:=Wz (fun(off m c:Nat)(W:R)=>Vr pq 0 hcp pr g off m c a2 b2 d2 W);rw[f1,f2,f3,f4]at HRN;have HTK:=Wz (show(ps.take (k+1)).flatMap (CJ · 0)=(ps.take k).flatMap (CJ · 0)++CJ pq 0 by rw[List.take_add_one,hp2];simp);have HLN:=Wz (show((ps.take k).flatMap (CJ · 0)).length+(CJ pq 0).length<=1000000 by
      have h1:=KB (CJ · 0) (ps.take k) (fun q hq=>H60.out q (List.mem_of_mem_take hq));have h2:=H60.out pq (List.mem_of_getElem? hp2);rw[List.length_take]at h1;have:=HRL.out;omega)
     generalize (ps.take k).flatMap (CJ · 0)=L at *;generalize CJ pq 0=l2 at *;obtain⟨gr,d',hA,hgr,r0,r1,r2,r3,r4⟩:=(HV3.out.extPr HP3.out HX.out).c5 hx;injection hA with hA hn' hd'
     subst hA;subst hd';have HPR:=Wz (HPN.out x);generalize x.col b=kk at *;obtain⟨x0,x1,x2,x3,x4⟩:=x;dsimp only at *;have d1:decide ((k:Int)<(rows.length:Int))=true:=decide_eq_true (by omega);have y0:(0:Int)<=(k:Int):=by omega
     have y1:(k:Int)<(rows.length:Int):=by omega
     have HKL2:=Wz hlt;clear hx hp2 f1 f2 f3 f4 hcp hs2 hg2 hn' hgr hX;go_upto_region 13 with(fail)
     obtain⟨Y,hY⟩:∃ Y,Y=wr.alloc (fP #[U I x0,U I x1,U I x2,U I x3,U I x4] 67):=⟨_,rfl⟩;have HEY:=Wz (show Below wr.heap.size wr Y by rw[hY];exact AC _ _);have HRY:=Wz (show Blk Y wr.heap.size 67 #[U I x0,U I x1,U I x2,U I x3,U I x4]by rw[hY];exact Blk.new _ _ _);rw[<- hY];obtain⟨h1,h2,h3,h4,h5,h6,h7⟩:=(HQ.out.ext HEY.out).all7;obtain⟨p0,p1,p2,p3,p4⟩:=HRY.out.all5;clear hY r0 r1 r2 r3 r4;go_wp2_with fail
     refine(HPR.out _).mono ?_;rintro e Z ⟨rfl,hbz⟩;have HEZ:=Wz (AA HEY.out hbz);clear h1 h2 h3 h4 h5 h6 h7 p0 p1 p2 p3 p4 hbz;have HCL:=Wz (HRN.out off (n-1-k) (c-1-k) Z (HPr.out.ext HEZ.out) (by have:=HPL.out;have:=HL7.out;have:=HKL2.out;omega) (by have:=HCC.out;omega) (fun i hi=>by
      have h1:=HGC.out i hi;have h2:=HOF2.out HKL2.out;subst h2;have h3:i<(pq.nums a2 b2 d2).size:=hi;rw[Array.getElem?_eq_getElem h3]at h1 ⊢;exact AG h1 HEZ.out) (HPC.out.ext HEZ.out))
     go_wp2_with fail
     refine HCL.out.mono ?_;rintro e V ⟨v2,off2,rfl,hv2,hp2,ho2,hx2⟩;have hXV:AS (fun x=>x=pr∨W3.heap.size<=x) W3 V:=(HX.out.trans (AS.of_ext HEZ.out)).trans (AS.of_ext2 hx2 (.inl rfl) (.inl rfl));have HOV:=Wz (F1 (AK HO.out HEZ.out) (AS.of_ext2 (S:=fun x=>x=pr) hx2 rfl rfl) (fun q hq=>by have h1:=(HO.out.lt q hq).1;have:=HPRL.out;omega));obtain⟨ha,V7,hV7,v7,hv7,ho7,hg7⟩:=Ek V W3.heap.size hXV.size _ L HOV.out _ _ hv2.rowsO HLN.out;have HO7:=Wz ho7;obtain⟨A7,c7,rfl⟩:=AI ho7;have HX7:=Wz (show AS (fun x=>x=pr∨W3.heap.size<=x) W3 V7 from hXV.trans ⟨hg7.os,hg7.tape,hg7.output,hg7.size,fun q hq hn=>hg7.block q hq (fun e=>hn (.inr (HOV.out.lt q e.symm).1))⟩);have HP7:=Wz (hp2.grown hg7 (fun e=>by have h1:=(HOV.out.lt pr e.symm).1;have:=HPRL.out;omega));have HF7:=Wz ho2;obtain⟨Av2,cv2,rfl,-⟩:=hv2;clear hp2 ho2 hx2 hXV ho7 hg7;go_wp2;go_roundw
     case rel=>exact⟨k+1,off2,A7,c7,by have:=HKL2.out;omega,by go_num,by rw[HTK.out,List.length_append],by rw[HTK.out,<- List.length_append];exact HO7.out,by have:=HP7.out;rwa [Nat.sub_sub,Nat.sub_sub]at this,fun h=>by have h1:=HF7.out (by have:=HPL.out;have:=HL7.out;omega);have:=HOF2.out HKL2.out;omega,HX7.out⟩
     have:=HKL2.out;simp[intOf];omega
    have d1:decide ((k:Int)<(rows.length:Int))=false:=decide_eq_false (by omega);have HEQ:=Wz (show ps.take k=ps by rw[List.take_of_length_le (by have:=HL7.out;omega)]);have HLQ:=Wz (show(ps.take k).flatMap (CJ · 0)=oth by rw[HEQ.out,HOT.out]);rw[HLQ.out]at HO ⊢;have HZZ:=Wz (show n-1-k=0 by have:=HPL.out;have:=HL7.out;omega);go_wp2;go_meet;exact⟨by unfold Pi;rw[if_pos H7.out];exact LH HO.out,⟨_,_,by have h1:=HPr.out;rwa [HZZ.out]at h1⟩,HX.out⟩
  | false=>
   have H7:=Wz (show kd≠7 by simpa using hb7);clear hb7;have HE0:=Wz (show ps=[]from HN7.out H7.out);go_wp2;go_meet;exact⟨by unfold Pi;rw[if_neg H7.out],⟨some ⟨g,off1,none⟩,c-1,by have h1:=HP3.out;rwa [HPL.out,HE0.out]at h1⟩,AS.of_ext (AF _)⟩
 obtain⟨hov,⟨B,m,hp5⟩,hx5⟩:=hcut;have HFQ:=Wz (HFR.out wc _ _ (HV3.out.extPr HP3.out hx5) hov);obtain⟨hE5,hQ5,hO5,hK5⟩:=HWW.out wc hx5;have HE5:=Wz hE5;have HO5:=Wz hO5;have HK5:=Wz hK5;obtain⟨q0,q1,q2,q3,q4,q5,q6⟩:=hQ5.all7;have p0:=hp5.cell 0;clear hov hp5 hx5 hE5 hQ5 hO5 hK5;go_wp2_with (go_at_call 97;refine(Ep _).mono ?_;rintro e w' ⟨rfl,rfl⟩)
 refine HFQ.out.mono ?_;rintro e W5 ⟨u,rfl,hu,hb5⟩;have hu:=hu.rowsL;obtain⟨Au,cu,rfl,-⟩:=id hu;have HO5:=Wz (HO5.out.ext hb5);have HK5:=Wz (HK5.out.ext hb5);have HE5:=Wz (AA HE5.out hb5);have HU5:=Wz hu;clear hu hb5 q0 q1 q2 q3 q4 q5 q6 p0;obtain⟨o0,o1,o2⟩:=HO5.out.all3;have f0:=HO5.out.frozen 0;have f1:=HO5.out.frozen 1;have f2:=HO5.out.frozen 2;have k0:=HK5.out.cell 0;have fk:=HK5.out.frozen 0;go_wp2;generalize hX:World.setCell (World.setCell (World.setCell (World.setCell W5 ⟨w.heap.size+1,0,none⟩ (J Au rrows.length cu)) ⟨w.heap.size+1,1,none⟩ (U I rval)) ⟨w.heap.size+1,2,none⟩ (fR rfound)) ⟨w.heap.size+1+1,0,none⟩ (fR true)=X;have hOx:Blk X (w.heap.size+1) 36 #[J Au rrows.length cu,U I rval,fR rfound]:=by subst hX;exact((((HO5.out.set_ 0 _).set_ 1 _).set_ 2 _).far (p:=⟨w.heap.size+1+1,0,none⟩) (by simp) _)
 have hKx:Blk X (w.heap.size+1+1) 4 #[fR true]:=by subst hX;exact((((HK5.out.far (p:=⟨w.heap.size+1,0,none⟩) (by simp) _).far (p:=⟨w.heap.size+1,1,none⟩) (by simp) _).far (p:=⟨w.heap.size+1,2,none⟩) (by simp) _).set_ 0 _)
 have hEx:Below w.heap.size w X:=by subst hX;exact AE (AE (AE (AE HE5.out (by simp) _) (by simp) _) (by simp) _) (by simp;omega) _
 have hRx:AR X (J Au rrows.length cu) rrows:=by
  subst hX;have h1:=HU5.out.far o0 (by intro n h;cases h) 0 (J Au rrows.length cu);have h2:=h1.far ((HO5.out.set_ 0 (J Au rrows.length cu)).cell 0) (by intro n h;cases h) 1 (U I rval);have h3:=h2.far (((HO5.out.set_ 0 (J Au rrows.length cu)).set_ 1 (U I rval)).cell 0) (by intro n h;cases h) 2 (fR rfound);refine h3.far (x:=fR true) ?_ (by intro n h;cases h) 0 _;exact(((HK5.out.far (p:=⟨w.heap.size+1,0,none⟩) (by simp) _).far (p:=⟨w.heap.size+1,1,none⟩) (by simp) _).far (p:=⟨w.heap.size+1,2,none⟩) (by simp) _).cell 0
 clear hX o0 o1 o2 f0 f1 f2 k0 fk;obtain⟨o0,o1,o2⟩:=hOx.all3;have k0:=hKx.cell 0;refine leaves_cons (f:=96) (args:=#[fS (some ⟨w.heap.size+1+1,0,none⟩)]) (by simp) (by simp[go_sem]) ?_;refine(Nr _ _).mono ?_;rintro e u' w'' ⟨rfl,rfl,rfl⟩;refine leaves_cons (f:=95) (args:=#[fS (some ⟨w.heap.size+1+1,0,none⟩),fS (some ⟨w.heap.size+1,0,none⟩)]) (by simp[settle]) (by simp[go_sem]) ?_;refine(PT _ _ _ k0).mono ?_;rintro e u' w'' ⟨rfl,rfl,rfl⟩;have HRx:=Wz hRx;have HEx:=Wz hEx;clear hRx hEx hOx hKx;simp[Leaves,settle,results,Tryz.results53,go_sem,o0,o1,o2,k0];exact⟨HRx.out,HEx.out⟩
end
end Go.Proofs.YtimoapjhepmehaaGreatDoor
