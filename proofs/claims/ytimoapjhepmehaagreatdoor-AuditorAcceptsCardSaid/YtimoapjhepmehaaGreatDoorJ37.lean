/- Part 37: contracts that the last part uses. -/
import Derived.Test.YtimoapjhepmehaaGreatDoorJ36
import Derived.Test.YtimoapjhepmehaaGreatDoorJ28
import Derived.Deep.RegionHeld3
set_option linter.unusedSimpArgs false
set_option linter.unusedVariables false
set_option maxHeartbeats 4000000
set_option maxRecDepth 100000
namespace Go.Proofs.YtimoapjhepmehaaGreatDoor
open Go.IntKind renaming i64->I
open Go.Value renaming int->U,string->J,slice->iC,bool->iE
open Go.RowKit renaming Below->R
open Go renaming World->iB,Value->iD,Calls->iI
open Tryz renaming prog->iG
open Go.Ending renaming returned->iH
open Go.RowKit Go.Shelf
attribute [local go_sem ↓] Go.wp_at_zero Go.wp_at_succ
def MY(rs:List AD)(kd t lo hi o:Int)(j b:Nat):List AD:=(if kd=7 then(C6 rs t j lo hi).map (fun r=>Ag rs o 0 (r.col b) (r.col b))else []).flatMap (CJ · 0)
theorem R1(rs:List AD)(hsz:rs.length<=60)(t:Int)(j i:Nat)(lo hi:Int):(CJ (Ag rs t j lo hi) i).length<=60:=by
 have h1:=DN rs t j lo hi;have h2:toN rs t j hi<=(BK rs t j).length:=by unfold toN;omega
 have h3:(BK rs t j).length<=rs.length:=Be _ _ _ _ _;unfold CJ;exact Nat.le_trans (List.length_filter_le _ _) (by omega)
theorem N7{kd t lo hi o:Int}{j b:Nat}(hq:BU.Ok ⟨kd,t,(j:Int),lo,hi,(b:Int),o⟩){rs:List AD}(hrs:∀ r ∈ rs,r.ok)(hsz:rs.length<=60)(hap:A0 rs):T2 kd t lo hi o j b (CC rs kd t lo hi o j b) (C6 rs t j lo hi) (MY rs kd t lo hi o j b):=by
 have hj:=hq.by4.1;have ho:kd=7->0<=o/\o<=3:=fun h=>by
  subst h;have h9:=hq.kind;generalize hjj:(j:Int)=jj at h9;generalize hbb:(b:Int)=bb at h9;cases h9;omega
 refine⟨⟨Ag rs t j lo hi,_,rfl,⟨rfl,rfl,rfl,rfl⟩,ET hap hrs hsz t hq.t j hj lo hi hq.lh,MO hap t j lo hi hq.lh hq.lo hq.hi,fun h=>if_neg h,fun h=>by rw[if_pos h,List.length_map],?_,?_,rfl⟩,Nat.le_trans (Be rs t j lo hi) hsz⟩
 ·intro i q r h1 h2;by_cases h7:kd=7
  ·rw[if_pos h7,List.getElem?_map,h2]at h1;injection h1 with h1
   subst h1;exact⟨⟨rfl,rfl,rfl,rfl⟩,ET hap hrs hsz o (ho h7) 0 (by omega) _ _ (Int.le_refl _)⟩
  rw[if_neg h7]at h1;simp at h1
 intro q hqm;by_cases h7:kd=7
 ·rw[if_pos h7]at hqm;obtain⟨r,_,rfl⟩:=List.mem_map.1 hqm;exact R1 rs hsz _ _ _ _ _
 rw[if_neg h7]at hqm;simp at hqm
theorem Gi{kd t lo hi o:Int}{j b:Nat}(hq:BU.Ok ⟨kd,t,(j:Int),lo,hi,(b:Int),o⟩){rs:List AD}{p:RPT}(hp:p ∈ CC rs kd t lo hi o j b):∃(T i:Nat) (l h:Int),p=Ag rs (T:Int) i l h/\T<=3/\i<4/\l<=h:=by
 have ht:=hq.t;dsimp only at ht;rcases List.mem_cons.1 hp with rfl|hp
 ·exact⟨t.toNat,j,lo,hi,by rw[Int.toNat_of_nonneg ht.1],by omega,hq.by4.1,hq.lh⟩
 by_cases h7:kd=7
 ·rw[if_pos h7]at hp;obtain⟨r,_,rfl⟩:=List.mem_map.1 hp;subst h7;have h9:=hq.kind;generalize hjj:(j:Int)=jj at h9;generalize hbb:(b:Int)=bb at h9;have ho:0<=o/\o<=3:=by cases h9;omega
  exact⟨o.toNat,0,_,_,by rw[Int.toNat_of_nonneg ho.1],by omega,by omega,Int.le_refl _⟩
 rw[if_neg h7]at hp;simp at hp
theorem IP{kd t lo hi o:Int}{j b:Nat}{rs:List AD}(hsz:rs.length<=60):(CC rs kd t lo hi o j b).length<=61:=by
 unfold CC;rw[List.length_cons];by_cases h7:kd=7
 ·rw[if_pos h7,List.length_map];have:=Be rs t j lo hi;omega
 rw[if_neg h7];simp
theorem R2(rs:List AD)(hsz:rs.length<=60)(t:Int)(j:Nat)(lo hi:Int):(Ag rs t j lo hi).Sm:=by
 have hr:(Ag rs t j lo hi).rows.length<=1000:=by
  have h1:=DN rs t j lo hi;have h2:toN rs t j hi<=(BK rs t j).length:=by unfold toN;omega
  have h3:(BK rs t j).length<=rs.length:=Be _ _ _ _ _;omega
 refine⟨hr,by rw[FM];exact hr,fun x hx=>?_,by show(DH rs).length<=1000;simp[DH]⟩;obtain⟨i,_,rfl⟩:=List.mem_map.1 (show x ∈ (List.range (toN rs t j hi-Bf rs t j lo)).map (fun i=>Dj (Cp rs t j) (Bf rs t j lo+i))from hx);unfold Dj;rw[List.length_reverse,List.length_map];exact Nat.le_trans (EP _ _ _) (Nat.le_trans (Fg rs t j) (by omega))
structure IQ (W:iB) (rows:List AD) (P:List RPT) (base:Nat) (Ls:List (List AH)) (u rv lv:iD):Prop where
 rows:AR W u rows
 rps:Cj (fun _=>True) W rv P
 cap:Ga rv
 recs:Bt W lv (base+1) Ls
theorem IQ.ext{W V:iB}{rows:List AD}{P:List RPT}{base:Nat}{Ls:List (List AH)}{u rv lv:iD}(h:IQ W rows P base Ls u rv lv)(k:R W.heap.size W V):IQ V rows P base Ls u rv lv:=⟨h.rows.ext k,h.rps.ext k,h.cap,h.recs.ext k⟩
theorem IQ.shape{W:iB}{rows:List AD}{P:List RPT}{base:Nat}{Ls:List (List AH)}{u rv lv:iD}(h:IQ W rows P base Ls u rv lv):∃ A a B b C c,u=iC A rows.length a/\rv=iC B P.length b/\lv=iC C Ls.length c:=by
 obtain⟨A,a,h1,_⟩:=h.rows;obtain⟨B,b,h2,_⟩:=h.rps;obtain⟨C,c,h3,_⟩:=h.recs;exact⟨A,a,B,b,C,c,h1,h2,h3⟩
theorem T7(p:RPT)(s:ByteArray)(bh:Nat)(a b d q c1:iD)(w:iB)(hh:Blk w bh 52 #[q,c1,J s])(hs:RPS (fun _=>True) w p a b d)
  (hV:∀ W:iB,R w.heap.size w W->iI iG 60 #[J s,.agg (p.nums a b d)] W fun e w'=>e=iH (iE true)/\R W.heap.size W w') :
  iI iG 59 #[.agg (p.nums a b d),.pointer (some ⟨bh,0,none⟩)] w fun e w'=>e=iH (iE false)/\R w.heap.size w w':=by
 obtain⟨A1,c1',ha,-⟩:=hs.rows;obtain⟨A2,c2',hb,-⟩:=hs.paths;obtain⟨A3,c3',hd,-⟩:=hs.roots;obtain⟨t,jj,lo,hi,n,f,rows,paths,roots⟩:=p;dsimp only[RPT.nums]at *;generalize rows.length=l1 at *;generalize paths.length=l2 at *;generalize roots.length=l3 at *;subst ha hb hd;have HE:=Wz (AC w (.cells #[U I t,U I jj,U I lo,U I hi,U I n,U I f,iC A1 l1 c1',iC A2 l2 c2',iC A3 l3 c3'] 126));have HV:=Wz (hV _ HE.out);have h2:w.cell? ⟨bh,2,none⟩=some (J s):=hh.cell 2;have hl:=hh.lt;clear hh hV hs;go_enter Tryz.func59,Tryz.ntmps59;go_wp2_with fail
 refine HV.out.mono ?_;rintro e W1 ⟨rfl,hb1⟩;have HE1:=Wz (AA HE.out hb1);clear hb1;go_wp2;go_ret;exact⟨rfl,HE1.out⟩
theorem N8(P:List RPT)(hP:P.length<=1000)(s:ByteArray)(bh:Nat)(rv q c1:iD)(w:iB)(hh:Blk w bh 52 #[q,c1,J s])(hr:Cj (fun _=>True) w rv P)
  (hV:∀ p ∈ P,∀(a b d:iD) (W:iB),R w.heap.size w W->RPS (fun _=>True) W p a b d->iI iG 60 #[J s,.agg (p.nums a b d)] W fun e w'=>e=iH (iE true)/\R W.heap.size W w') :
  iI iG 61 #[rv,.func (.func 59) #[] #[.pointer (some ⟨bh,0,none⟩)]] w fun e w'=>e=iH (iE false)/\R w.heap.size w w':=by
 have HG:=Wz hr;obtain⟨A,c,rfl,k1⟩:=hr;have HI:=Wz (show iI iG 106 #[iC A P.length c,.func (.func 59) #[] #[.pointer (some ⟨bh,0,none⟩)]] w fun e w'=>e=iH (U I (-1))/\R w.heap.size w w' from by
  have H1:=Wz k1;have HV:=Wz hV;have HH:=Wz hh;clear hh hV k1;go_enter Tryz.func106,Tryz.ntmps106;go_wp2;go_loopw [8] (fun iv W=>∃ k:Nat,k<=P.length/\iv=U I (k:Int)/\R w.heap.size w W) (fun iv _=>P.length-(intOf iv).toNat)
  case atStart=>exact⟨0,Nat.zero_le _,rfl,AF _⟩
  case round=>
   obtain⟨k,hk,rfl,hE⟩:=hrel;have HE:=Wz hE;clear hE;by_cases hlt:k<P.length
   ·obtain⟨p,hp⟩:∃ p,P[k]? = some p:=⟨_,List.getElem?_eq_getElem hlt⟩;obtain⟨g,rfl,_⟩:=H1.out (by omega);obtain⟨a,b,d,hs,hg⟩:=(HG.out.ext HE.out).get hp;have HF:=Wz (T7 p s bh a b d q c1 wr (HH.out.ext HE.out) hs (fun W h=>HV.out p (List.mem_of_getElem? hp) a b d W (AA HE.out h) (hs.ext h)));obtain⟨A1,c1',ha,-⟩:=hs.rows;obtain⟨A2,c2',hb,-⟩:=hs.paths;obtain⟨A3,c3',hd,-⟩:=hs.roots;obtain⟨t,jj,lo,hi,n,f,rows,paths,roots⟩:=p;dsimp only[RPT.nums]at *;generalize rows.length=l1 at *;generalize paths.length=l2 at *;generalize roots.length=l3 at *;subst ha hb hd;have q0:=hg 0 (by omega);have q1:=hg 1 (by omega);have q2:=hg 2 (by omega);have q3:=hg 3 (by omega);have q4:=hg 4 (by omega);have q5:=hg 5 (by omega);have q6:=hg 6 (by omega);have q7:=hg 7 (by omega);have q8:=hg 8 (by omega);simp only[List.getElem?_toArray,List.getElem?_cons_zero,List.getElem?_cons_succ,Nat.add_zero]at q0 q1 q2 q3 q4 q5 q6 q7 q8;have x0:(0:Int)<=(k:Int):=by omega
    have x1:(k:Int)<(P.length:Int):=by omega
    have e1:decide ((k:Int)<(P.length:Int))=true:=decide_eq_true x1;have e2:IntKind.i64.wrap ((k:Int)+1)=(k:Int)+1:=IntWalk.i64_in _ (by omega);clear hs hg hp;go_wp2_with fail
    refine HF.out.mono ?_;rintro e W1 ⟨rfl,hb1⟩;have HE1:=Wz (AA HE.out hb1);clear hb1 q0 q1 q2 q3 q4 q5 q6 q7 q8;go_wp2;go_roundw
    case rel=>exact⟨k+1,by omega,by go_num,HE1.out⟩
    simp[intOf];omega
   have d1:decide ((k:Int)<(P.length:Int))=false:=decide_eq_false (by omega);go_wp2;go_ret;exact⟨rfl,HE.out⟩)
 clear hh hV k1;go_enter Tryz.func61,Tryz.ntmps61;go_wp2_with fail
 refine HI.out.mono ?_;rintro e W1 ⟨rfl,hb1⟩;have HE1:=Wz hb1;clear hb1;go_wp2;go_ret;exact⟨rfl,HE1.out⟩
theorem Wt(kd t lo hi o:Int)(j b:Nat)(hq:BU.Ok ⟨kd,t,(j:Int),lo,hi,(b:Int),o⟩)(rs:List AD)(hrs:∀ r ∈ rs,r.ok)(hsz:rs.length<=60)(hap:A0 rs)(Lc:List (List AH))(base q:Nat)(hqe:q=base+Lc.length)(h60:q<=50)
  (hch:∀ L ∈ Lc,L.length<=8/\∀ c ∈ L,c.ok/\c.turns=true) (hfo:∀ l ∈ Lc,B4 l/\BI l=true) (r:Bg) (hr:C2 kd t lo hi o j b (It kd o b (C6 rs t j lo hi) (MY rs kd t lo hi o j b)) Lc=some r)
  (ca sa cb sb:ByteArray) (hca:ca.size=32) (hsa:sa=Bo rs) (hcb:cb.size=32) (hsb:sb.size=32) (hcc:cb=Bx base ca Lc Lc.length) (hst:Lc.length=0->sa=sb)
  (u rv lv:iD) (w:iB) (ha:IQ w r.rows (CC rs kd t lo hi o j b) base Lc u rv lv) (hR:AJ w) :
  iI iG 31 #[.agg #[U I (base:Int),J ca,J sa],.agg #[U I (q:Int),J cb,J sb],.agg (KE kd t lo hi o j b u r.val r.found (Cl kd t lo hi o j b base Lc Lc.length:Int) (q:Int) (base:Int) rv lv)] w
   fun e w'=>e=iH (iE true)/\R w.heap.size w w':=by
 have hmf:∀(fn:Fn) (first cap:Array iD) (w:iB),(Instr.makeFunc fn first cap).run iG w=.ok (.func fn first cap) w:=fun _ _ _ _=>rfl;have hPL:=N7 hq hrs hsz hap;have hsl:=Nat.le_trans (Be rs t j lo hi) hsz;have hfl:=LU kd o b (C6 rs t j lo hi) (MY rs kd t lo hi o j b);have hrl:r.rows.length<=1000:=by have:=LS (fun L h=>(hch L h).1) hr;omega
 have hol:(MY rs kd t lo hi o j b).length<=100000:=by
  obtain⟨p,ps,hPp,_,_,_,_,_,_,h6,h7⟩:=hPL.ex;rw[h7];have h8:=KB (CJ · 0) ps h6;have h9:=IP (kd:=kd) (t:=t) (lo:=lo) (hi:=hi) (o:=o) (j:=j) (b:=b) hsz;rw[hPp,List.length_cons]at h9;omega
 have hSm:∀ p ∈ CC rs kd t lo hi o j b,p.Sm:=fun p hp=>by obtain⟨T,i,l,h,rfl,_⟩:=Gi hq hp;exact R2 rs hsz _ _ _ _
 have hpl:=IP (kd:=kd) (t:=t) (lo:=lo) (hi:=hi) (o:=o) (j:=j) (b:=b) hsz;have hsok:∀ x ∈ C6 rs t j lo hi,x.ok:=fun x hx=>hrs x (D7.1 hx).1;have hsa32:sa.size=32:=by rw[hsa];exact DJ rs
 have HST:=Wz (fun(p:RPT)(hp:p ∈ CC rs kd t lo hi o j b)(x y z:iD)(W:iB)(h:AJ W)(hs:RPS (fun _=>True) W p x y z)=>show iI iG 60 #[J sa,.agg (p.nums x y z)] W fun e w'=>e=iH (iE true)/\R W.heap.size W w' from by
  obtain⟨T,i,l,h',rfl,h1,h2,h3⟩:=Gi hq hp;rw[hsa];exact Ro rs hrs hsz hap T i h1 h2 l h' h3 x y z W hs h)
 obtain⟨si,hsi⟩:∃ si:Int,si=(Cl kd t lo hi o j b base Lc Lc.length:Int):=⟨_,rfl⟩;obtain⟨un,hun⟩:∃ un:Int,un=(q:Int):=⟨_,rfl⟩;have HBU:=Wz (fun(W:iB)(h:R w.heap.size w W)=>show iI iG 27 #[.agg #[U I kd,U I t,U I (j:Int),U I lo,U I hi,U I (b:Int),U I o,U I 0,U I (base:Int),rv],lv] W fun e w'=>∃ u' rv' lv',e=iH (.tuple #[.agg (KE kd t lo hi o j b u' r.val r.found si un (base:Int) rv' lv'),iE true])/\IQ w' r.rows (CC rs kd t lo hi o j b) base Lc u' rv' lv'/\R W.heap.size W w' from by
  have h9:=T6 kd t lo hi o j b hq Lc (by omega) base (by omega) hch _ _ _ hPL _ (QZ hq _ _ hPL.len hol hsok) (by omega) rv lv W (ha.ext h).rps ha.cap (ha.ext h).recs.off;rw[show((base:Int)+(Lc.length:Int))=un by rw[hun,hqe];omega,<- hsi,hr]at h9;refine h9.mono fun e w' ⟨h1,h2⟩=>?_;rcases h1 with⟨h1,_⟩|⟨r',h1,u',a,c,q1,q2,q3,q4,q5⟩
  ·cases h1
  injection h1 with h1
  subst h1;exact⟨u',a,c,q1,⟨q2.rowsL,q3,q4,q5⟩,h2⟩)
 have HSA:=Wz (fun(u' rv' lv':iD)(W:iB)(h:R w.heap.size w W)(h2:IQ W r.rows (CC rs kd t lo hi o j b) base Lc u' rv' lv')=>
  Pp kd t lo hi o j b r.val si un (base:Int) r.found r.rows hrl (CC rs kd t lo hi o j b) (by omega) hSm (base+1) Lc (by omega) (fun L hL=>by have:=(hch L hL).1;omega) u u' rv rv' lv lv' W (ha.ext h).rows h2.rows (ha.ext h).rps h2.rps (ha.ext h).recs h2.recs)
 have HFO:=Wz (fun(W:iB)(h:R w.heap.size w W)=>Ng Lc lv base q hqe (by omega) ca sa cb sb hca hsa32 hcb hsb hcc hst hfo W (ha.ext h).recs (hR.below h));have HCN:=Wz (fun(bh:Nat)(c1 q1:iD)(W:iB)(h:R w.heap.size w W)(hh:Blk W bh 52 #[q1,c1,J sa])=>N8 (CC rs kd t lo hi o j b) (by omega) sa bh rv q1 c1 W hh (ha.ext h).rps (fun p hp x y z V hV hs=>HST.out p hp x y z V (hR.below (AA h hV)) hs));rw[<- hsi,<- hun];rw[<- hun]at HFO;obtain⟨Au,cu,Ar,cr,Al,cl,rfl,rfl,rfl⟩:=ha.shape;generalize CC rs kd t lo hi o j b=PP at *;obtain⟨out,val,fd⟩:=r;dsimp only at *;obtain⟨nu,hnu⟩:∃ nu,nu=out.length:=⟨_,rfl⟩;obtain⟨nl,hnl⟩:∃ nl,nl=Lc.length:=⟨_,rfl⟩;obtain⟨np,hnp⟩:∃ np,np=PP.length:=⟨_,rfl⟩;have HNP:=Wz hnp;have HNU:=Wz hnu;have HNL:=Wz hnl;rw[<- hnu,<- hnl,<- hnp]at HSA;rw[<- hnp]at HCN HBU;rw[<- hnl]at HBU HFO;rw[<- hnu,<- hnl,<- hnp];unfold KE;clear hrs hsz hap hq hch hfo hr hca hsa hcb hsb hcc hst ha hR hPL hsl hfl hrl hol hSm hpl hsok hsa32 hsi hun h60 hqe HST hnu hnl hnp;obtain⟨X,hX⟩:∃ X,X=((w.alloc (.cells #[U I (base:Int),J ca,J sa] 52)).alloc (.cells #[U I un,J cb,J sb] 52)).alloc (.cells #[U I kd,U I t,U I (j:Int),U I lo,U I hi,U I (b:Int),U I o,iC Au nu cu,U I val,iE fd,U I si,U I un,U I (base:Int),iC Ar np cr,iC Al nl cl] 39):=⟨_,rfl⟩;have hE:R w.heap.size w X:=by rw[hX];exact AB (AB (AC _ _) _) _
 have HH:=Wz (show Blk X w.heap.size 52 #[U I (base:Int),J ca,J sa]by rw[hX];exact((Blk.new _ _ _).alloc _).alloc _);have HBa:=Wz (show Blk X (w.heap.size+1+1) 39 #[U I kd,U I t,U I (j:Int),U I lo,U I hi,U I (b:Int),U I o,iC Au nu cu,U I val,iE fd,U I si,U I un,U I (base:Int),iC Ar np cr,iC Al nl cl]by rw[hX];exact Blk.new' _ _ _ (by simp));have HE:=Wz hE;have HX:=Wz hX;clear hE hX;have hwr:IntKind.i64.wrap 1=1:=by decide
 go_enter Tryz.func31,Tryz.ntmps31;go_wp2_with fail
 rw[<- HX.out];refine(HFO.out _ HE.out).mono ?_;rintro e W1 ⟨rfl,hb1⟩;have HE1:=Wz hb1;have HH1:=Wz (HH.out.ext hb1);have a13:=(HBa.out.ext hb1).cell 13;clear hb1;go_wp2_with fail
 refine(HCN.out _ _ _ _ (AA HE.out HE1.out) HH1.out).mono ?_;rintro e W2 ⟨rfl,hb2⟩;have HE2:=Wz (AA HE1.out hb2);have hB2:=HBa.out.ext HE2.out;obtain⟨a0,a1,a2,a3,a4,a5,a6,_,_,_,_,_,a12,a13,a14⟩:=CR hB2;clear hb2 hB2;go_wp2_with fail
 refine(HBU.out _ (AA HE.out HE2.out)).mono ?_;rintro e W3 ⟨u3,r3,l3,rfl,han,hb3⟩;have HE3:=Wz (AA HE2.out hb3);obtain⟨A5,c5,A6,c6,A7,c7,rfl,rfl,rfl⟩:=han.shape;rw[<- HNU.out,<- HNL.out,<- HNP.out]at han ⊢;have HAN:=Wz han;have hB3:=HBa.out.ext HE3.out;obtain⟨a0,a1,a2,a3,a4,a5,a6,a7,a8,a9,a10,a11,a12,a13,a14⟩:=CR hB3;have al:=hB3.lt;clear hb3 han hB3;unfold KE;go_wp2_with fail
 refine(HSA.out _ _ _ _ (AA HE.out (AB HE3.out _)) (HAN.out.ext (AC _ _))).mono ?_;rintro e W4 ⟨rfl,hb4⟩;have HE4:=Wz (AA (AB HE3.out _) hb4);clear hb4 a0 a1 a2 a3 a4 a5 a6 a7 a8 a9 a10 a11 a12 a13 a14 al;go_wp2;go_ret;exact⟨rfl,AA HE.out HE4.out⟩
end Go.Proofs.YtimoapjhepmehaaGreatDoor
