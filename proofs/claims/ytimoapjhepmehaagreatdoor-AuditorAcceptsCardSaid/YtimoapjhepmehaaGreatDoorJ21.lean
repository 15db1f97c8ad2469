/- Part 21: contracts that the last part uses. -/
import Derived.Test.YtimoapjhepmehaaGreatDoorJ19
import Derived.Test.YtimoapjhepmehaaGreatDoorJ20
import Derived.BigQuiet
import Derived.Deep.Cut
import Derived.Deep.CutRange
import Derived.Deep.CutBlock
import Derived.Deep.Light
set_option linter.unusedSimpArgs false
set_option linter.unusedVariables false
set_option maxHeartbeats 4000000
set_option maxRecDepth 100000
namespace Go.Proofs.YtimoapjhepmehaaGreatDoor
open Go.IntKind renaming i64->I
open Go.Value renaming int->J,slice->aB,string->aD,bool->aF,pointer->aK
open Go renaming World->aA,Value->aE,Calls->aJ
open Go.RowKit renaming Below->aC
open Go.IntWalk renaming i64_in->aG
open Tryz renaming prog->aH
open Go.Obj renaming cells->aI
open Go.Ending renaming returned->aL
open List renaming getElem?_eq_getElem->aN
section
open Go.RowKit Go.Shelf
theorem PI{rs:List AD}{t k a b d:Int}{s:Bool}{G:Option AD}{r:AD}{h:Bool}(hG:G=BP rs t k)(hr:r=G.getD CB)(hh:h=G.isSome) :
  ((DS rs t k a b d s).t=t/\(DS rs t k a b d s).k=k/\(DS rs t k a b d s).had=h/\(DS rs t k a b d s).o1=r.a/\(DS rs t k a b d s).o2=r.b/\(DS rs t k a b d s).o3=r.c/\(DS rs t k a b d s).has=(!h || s)) /\
  ((!h || s)=true->(DS rs t k a b d s).n1=a/\(DS rs t k a b d s).n2=b/\(DS rs t k a b d s).n3=d)/\((!h || s)=false->(DS rs t k a b d s).n1=0/\(DS rs t k a b d s).n2=0/\(DS rs t k a b d s).n3=0):=by
 subst hG
 cases hg:BP rs t k with
 | none=>
  rw[hg]at hr hh;subst hr hh;rw[LB hg];simp[CB]
 | some q=>
  rw[hg]at hr hh;subst hr hh
  cases s with
  | false=>rw[Na hg];simp
  | true=>rw[Nb hg];simp
def Fk(w:aA)(v:aE)(T:List (Nat->Int)):Prop:=
 ∃ A c,v=aB A T.length c/\(0<T.length->∃ b off,A=some ⟨b,off,none⟩/\∀(j:Nat) (x:Nat->Int),T[j]? = some x->∀ i,i<6->w.cell? ⟨b,off+j*6+i,none⟩=some (J I (x i)))
theorem Fk.ext{w W:aA}{v:aE}{T:List (Nat->Int)}(h:Fk w v T)(k:aC w.heap.size w W):Fk W v T:=by
 obtain⟨A,c,rfl,h⟩:=h;refine⟨A,c,rfl,fun h0=>?_⟩;obtain⟨b,off,hA,hc⟩:=h h0;exact⟨b,off,hA,fun j x hx i hi=>AG (hc j x hx i hi) k⟩
def Nf(T:List (Nat->Int)):Prop:=∀ x ∈ T,∀ i,i<6->Co (x i)
structure LgI (B gs:Nat) (W:aA) (ov:aE) (R:List (List AH × Nat × Nat)) (rows:List AD):Prop where
 st:DF W gs rows (R.length:Int)
 own:W.ownsRow B 75 2 ov R.length (rcF 0 R)
 chg:∀ x ∈ R,BZ W x.2.1 x.1/\x.1.length<=x.2.2
 agree:ED rows (stF (trs R))
 ok:D5 (stF (trs R))
 run:FA (trs R)
 gen:∀ x ∈ R,∀ c ∈ x.1,Dw c
section
variable {B gs:Nat} {W V:aA} {ov:aE} {R:List (List AH × Nat × Nat)} {rows:List AD}
theorem LgI.ext(h:LgI B gs W ov R rows)(k:aC W.heap.size W V):LgI B gs V ov R rows:=
 ⟨h.st.ext k,AK h.own k,fun x hx=>⟨(h.chg x hx).1.ext k,(h.chg x hx).2⟩,h.agree,h.ok,h.run,h.gen⟩
theorem LgI.start(h:DF W gs [] 0):LgI B gs W (aB none 0 0) [] []:=
 ⟨h,World.ownsRow_nil _ _ _ _,by simp,ED.nil,D5.nil,FA.nil,by simp⟩
theorem BZ.ext2T{g:Nat}{t:TypeId}{cs:Array aE}{b:Nat}{l:List AH}(h:BZ W b l)(k:Ah g g W V)(hg:Blk W g t cs)(ht:t≠72):BZ V b l:=by
 obtain⟨cur,h1,h2⟩:=h;exact⟨cur,h1.ext2 k (fun e=>Fb h1 hg ht.symm e) (fun e=>Fb h1 hg ht.symm e),h2⟩
theorem DF.grown{n:Nat}{pos:Int}(h:DF W gs rows pos)(hg:W.grownBy V ov.ownBlock)(ho:W.ownsRow B 75 2 ov n (rcF 0 R))(hn:n=R.length)(h0:n=0->ov=aB none 0 0):DF V gs rows pos:=by
 obtain⟨v,h1,h2,h3⟩:=h;refine⟨v,h1.grownT hg ho (by decide),?_,h3⟩;obtain⟨A,c,rfl,h4⟩:=h2;refine⟨A,c,rfl,fun hr=>?_⟩;obtain⟨g2,rfl,hg2,h5⟩:=h4 hr;have hne:some g2≠ov.ownBlock:=by
  intro e;have hn0:0<n:=by
   rcases Nat.eq_zero_or_pos n with h6|h6
   ·rw[h0 h6]at e;cases e
   exact h6
  obtain⟨g,cap,rfl,_,_,_,hc⟩:=Bj ho hn0;have e2:g2=g:=Option.some.inj e;subst e2;obtain⟨x,hx⟩:∃ x,R[0]? = some x:=⟨_,aN (by omega)⟩;obtain⟨r,hr0⟩:∃ r,rows[0]? = some r:=⟨_,aN hr⟩;have h7:=hc _ _ (Ot R 0 0 x hx).2;have h8:=h5 0 r hr0 1 (by omega);simp only[Nat.zero_mul,Nat.zero_add]at h7 h8;rw[h7]at h8;simp[AY]at h8
 exact⟨g2,rfl,Nat.lt_of_lt_of_le hg2 hg.size,fun j r hj i hi=>(World.cell?_of_block (hg.block g2 hg2 hne)).trans (h5 j r hj i hi)⟩
theorem LgI.push{X U:aA}{ov2:aE}{l:List AH}{q d:Nat}(h:LgI B gs W ov R rows)(hnil:R.length=0->ov=aB none 0 0)(hS:DF X gs (FT rows l) ((R.length:Int)+1))(hx:Ah gs gs W X)(hU:aC X.heap.size X U)(hq:BZ U q l)(hd:l.length<=d)
  (hL:LgL (stF (trs R)) l) (h0:0<l.length) (h8:l.length<=8) (ho:V.ownsRow B 75 2 ov2 (R.length+1) (rcF 0 R++[J I ((R.length:Int)+1),aB (some ⟨q,0,none⟩) l.length d])) (hg:U.grownBy V ov.ownBlock) :
  LgI B gs V ov2 (R++[(l,q,d)]) (FT rows l):=by
 obtain⟨sv,hsb,-⟩:=h.st;have hoX:X.ownsRow B 75 2 ov R.length (rcF 0 R):=M8 h.own hx hsb (by decide);have hoU:=AK hoX hU;have hcU:∀ x ∈ R,BZ U x.2.1 x.1:=fun x hx2=>((h.chg x hx2).1.ext2T hx hsb (by decide)).ext hU;have hpw:=(hL.ok h8).pairwise;have hag:ED (FT rows l) (Bm (stF (trs R)) l):=h.agree.ins l (fun c hc=>(GH.of_fill h.agree (hL.fill c hc)).had) hpw;have hst:stF (trs (R++[(l,q,d)]))=Bm (stF (trs R)) l:=by rw[Jp,TA]
 refine⟨?_,?_,fun x hx2=>?_,by rw[hst];exact hag,by rw[hst];exact h.ok.apply hL.gen,h.run.snoc rfl (hL.ok h8) (hL.valid h0) hL.fill (Nat.le_trans h.ok.few (by decide)),fun x hx2 c hc=>?_⟩
 ·rw[List.length_append,List.length_singleton];exact(hS.ext hU).grown hg hoU rfl hnil
 ·rw[Gb,List.length_append,List.length_singleton,Nat.zero_add];exact ho
 ·rcases List.mem_append.1 hx2 with h1|h1
  ·exact⟨(hcU x h1).grownT hg hoU (by decide),(h.chg x h1).2⟩
  simp at h1;subst h1;exact⟨hq.grownT hg hoU (by decide),hd⟩
 rcases List.mem_append.1 hx2 with h1|h1
 ·exact h.gen x h1 c hc
 simp at h1;subst h1;exact hL.gen c hc
theorem LgI.recs(h:LgI B gs W ov R rows):Bt W ov 1 (trs R):=by
 rcases Nat.eq_zero_or_pos R.length with h0|h0
 ·obtain⟨A,c,hv⟩:=AI h.own;exact⟨A,c,by rw[EB];exact hv,by rw[EB,h0];omega,fun h1=>by rw[EB]at h1;omega⟩
 obtain⟨g,cap,rfl,_,_,hcap,hc⟩:=Bj h.own h0;refine⟨_,cap,by rw[EB],by rw[EB];exact hcap,fun _=>⟨g,rfl,fun j l hj=>?_⟩⟩;unfold trs at hj;rw[List.getElem?_map,Option.map_eq_some_iff]at hj;obtain⟨x,hx,rfl⟩:=hj;obtain⟨h1,h2⟩:=Ot R 0 j x hx;refine⟨?_,_,hc _ _ h2,((h.chg x (List.mem_of_getElem? hx)).1).at_ (h.chg x (List.mem_of_getElem? hx)).2⟩;rw[hc _ _ h1,Nat.zero_add,Int.add_comm];rfl
end
structure LgK (Y:aA) (W:aA) (rs:List AD) (lv:aE) (l:List AH):Prop where
 ext:aC Y.heap.size Y W
 own:W.ownsRow Y.heap.size 72 10 lv l.length (cc l)
 nil:l.length=0->lv=aB none 0 0
 lg:LgL rs l
theorem LgK.chgs{Y U W:aA}{rs:List AD}{lv:aE}{l:List AH}(h:LgK Y U rs lv l)(e:aC U.heap.size U W):Ae W lv l:=(NN h.own h.nil).ext e
theorem DF.lt{W:aA}{g:Nat}{rows:List AD}{pos:Int}(h:DF W g rows pos):g<W.heap.size:=by obtain⟨v,h1,_⟩:=h;exact h1.lt
theorem Blk.ext2g{w W:aA}{g b:Nat}{t:TypeId}{cs:Array aE}(h:Blk w b t cs)(k:Ah g g w W)(hg:g<b):Blk W b t cs:=h.ext2 k (by omega) (by omega)
theorem LgI.apply{B gs:Nat}{W Y:aA}{ov lv:aE}{R:List (List AH × Nat × Nat)}{rows rs:List AD}{l:List AH}(h:LgI B gs W ov R rows)(hL:LgL rs l)(ho:W.ownsRow Y.heap.size 72 10 lv l.length (cc l))(hn:l.length=0->lv=aB none 0 0)(h0:0<l.length)(h8:l.length<=3)(hrs:rs=stF (trs R))(hR:R.length<=1000)(hg:gs<Y.heap.size) :
  ∀ X:aA,aC W.heap.size W X->aJ aH 46 #[aK (some ⟨gs,0,none⟩),.agg #[J I ((R.length:Int)+1),lv]] X fun e w'=>e=aL (J I 0)/\DF w' gs (FT rows l) ((R.length:Int)+1)/\Ah gs gs X w':=by
 intro X hX;subst hrs;have hf:=Ju h.agree h.ok;refine TI rows h.agree.sort (R.length:Int) (by omega) l (hL.ok (by omega)) (hL.valid h0) (fun c hc=>GH.of_fill h.agree (hL.fill c hc)) (by omega) gs lv X (h.st.ext hX) ((NN ho hn).ext hX) (fun b off c hv e=>?_);subst e;have h9:=QA ho b (by rw[hv];rfl);omega
theorem LG{W X V:aA}{B sz n gs:Nat}{v:aE}{xs:List aE}{rows:List AD}{pos:Int}(h:W.ownsRow B 75 sz v n xs)(hS:DF W gs rows pos)(e:aC W.heap.size W X)(k:Ah gs gs X V):V.ownsRow B 75 sz v n xs:=by
 obtain⟨sv,hb,-⟩:=hS;exact M8 (AK h e) k (hb.ext e) (by decide)
theorem WI(W:aA)(base:Nat)(hb:base<=W.heap.size)(v:aE)(R:List (List AH × Nat × Nat))(hown:W.ownsRow base 75 2 v R.length (rcF 0 R))(hn:R.length<=1000000)(p:Int)(A:Option Addr)(n c:Nat) :
  CU aH (W.alloc (aI #[J I p,aB A n c] 75)) 29 29 v (aB (some ⟨W.heap.size,0,none⟩) 1 1)/\∃ W',appW aH (W.alloc (aI #[J I p,aB A n c] 75)) 29 29 v (aB (some ⟨W.heap.size,0,none⟩) 1 1)=W' /\
   ∃ v',CV aH (W.alloc (aI #[J I p,aB A n c] 75)) 29 29 v (aB (some ⟨W.heap.size,0,none⟩) 1 1)=v'/\W'.ownsRow base 75 2 v' (R.length+1) (rcF 0 R++[J I p,aB A n c])/\(W.alloc (aI #[J I p,aB A n c] 75)).grownBy W' v.ownBlock/\∃ A' c',v'=aB A' (R.length+1) c':=by
 obtain⟨ii,hii,hzi0,hzi1,hzi2⟩:=info_parts IA;obtain⟨h1,h2,h3⟩:=Du (P:=aH) (w:=W.alloc (aI #[J I p,aB A n c] 75)) base 29 29 75 ii (.agg #[J I 0,aB none 0 0]) 2 32 Tryz.underlying29 hii hzi0 hzi1 hzi2 rfl (by decide) v R.length (rcF 0 R) (hown.alloc _) ⟨W.heap.size,0,none⟩ 1 1 [J I p,aB A n c] rfl (Bk (Blk.new W 75 _)) (by simp[Value.oneCell']) (by unfold maxLen;omega) (by omega) (by simp;omega);exact⟨h1,_,rfl,_,rfl,h2,h3,AI h2⟩
theorem TM{d:AH}{t k o1 o2 o3 x y z:Int}{h s:Bool}(h1:d.t=t/\d.k=k/\d.had=h/\d.o1=o1/\d.o2=o2/\d.o3=o3/\d.has=s)(h2:d.n1=x/\d.n2=y/\d.n3=z):d.arr=#[J I t,J I k,aF h,J I o1,J I o2,J I o3,aF s,J I x,J I y,J I z]:=by
 obtain⟨rfl,rfl,rfl,rfl,rfl,rfl,rfl⟩:=h1;obtain⟨rfl,rfl,rfl⟩:=h2;rfl
theorem PJ{l:List AH}(d:AH){j:Nat}{y:AH}(h:l[j]? = some y):GI (l.take (j+1)) d=(GI (l.take j) d || (decide (y.t=d.t) && decide (y.k=d.k))):=by
 unfold GI;rw[List.take_add_one,h,List.any_append];simp
theorem PK(w:aA)(o:Obj):w.drew.alloc o=(w.alloc o).drew:=rfl
theorem Ae.cap{w:aA}{A:Option Addr}{n c:Nat}{l:List AH}(h:Ae w (aB A n c) l):l.length<=c:=by
 obtain⟨A9,c9,h9,h8,_⟩:=h;injection h9 with _ _ h9
 omega
theorem Up{w:aA}{g:Nat}{d:AH}(h:Blk w g 72 d.arr):∀ Z,aC w.heap.size w Z->Z.cell? ⟨g,0,none⟩=some (J I d.t)/\Z.cell? ⟨g,1,none⟩=some (J I d.k)/\Z.cell? ⟨g,2,none⟩=some (aF d.had)/\Z.cell? ⟨g,3,none⟩=some (J I d.o1)/\Z.cell? ⟨g,4,none⟩=some (J I d.o2)/\Z.cell? ⟨g,5,none⟩=some (J I d.o3)/\Z.cell? ⟨g,6,none⟩=some (aF d.has)/\Z.cell? ⟨g,7,none⟩=some (J I d.n1)/\Z.cell? ⟨g,8,none⟩=some (J I d.n2)/\Z.cell? ⟨g,9,none⟩=some (J I d.n3)/\aC w.heap.size w Z:=fun Z k=>
 have b:=h.ext k
 ⟨b.cell 0,b.cell 1,b.cell 2,b.cell 3,b.cell 4,b.cell 5,b.cell 6,b.cell 7,b.cell 8,b.cell 9,k⟩
end
section
open Go.RowKit Go.Shelf
section
attribute [local go_sem ↓] Go.wp_at_zero Go.wp_at_succ
end
end
section
open Go.RowKit Go.Shelf
section
variable {B gs gl gst gm:Nat} {cs:Array aE} {rv hv:aE} {R:List (List AH × Nat × Nat)} {H:List (ByteArray × ByteArray)} {rs:List AD} {w:aA}
end
end
section
open Go.RowKit Go.Shelf
attribute [local go_sem ↓] Go.wp_at_zero Go.wp_at_succ
theorem Fl{S:Nat->Prop}{w:aA}{v:aE}{l:List ByteArray}(h:AW S w v l):∃ A c,v=aB A l.length c:=by
 obtain⟨A,c,rfl,_⟩:=h;exact⟨_,_,rfl⟩
def QF(w:aA)(l:List ByteArray)(e:Ending)(w':aA):Prop:=∃ A c,e=aL (.tuple #[aB A l.length c,J I 0])/\AW (fun b=>w.heap.size<=b) w' (aB A l.length c) l/\aC w.heap.size w w'
section
variable {B gl gs:Nat} {rv hv:aE} {R:List (List AH × Nat × Nat)} {H:List (ByteArray × ByteArray)}
theorem Jv(p:Nat)(x:ByteArray × ByteArray)(hx:H[p]? = some x)(w:aA)(hL:FR B w gl rv hv R H) :
  aJ aH 22 #[aK (some ⟨gl,0,none⟩),J I (p:Int)] w fun e w'=>e=aL (.tuple #[.agg #[J I (p:Int),aD x.1,aD x.2],aF true])/\aC w.heap.size w w':=by
 have hp:=(List.getElem?_eq_some_iff.1 hx).1;obtain⟨x0,x1,x2⟩:=L5 H 0 p x hx;rw[Nat.zero_add]at x0;obtain⟨g,cap,rfl,-,hg,hcap,hc⟩:=Bj hL.heads (by omega);have x0:=hc _ _ x0;have x1:=hc _ _ x1;have x2:=hc _ _ x2;have hB:=hL.log;have y0:=hB.cell 0;have y1:=hB.cell 1;have yl:=hB.lt;have d1:decide ((p:Int)<0)=false:=decide_eq_false (by omega);have d2:decide ((H.length:Int)<=(p:Int))=false:=decide_eq_false (by omega);have d2':decide (H.length<=p)=false:=decide_eq_false (by omega);have p0:(0:Int)<=(p:Int):=by omega
 have p1:(p:Int)<(H.length:Int):=by omega
 obtain⟨xc,xs⟩:=x;dsimp only at x1 x2 ⊢;clear hB hL hc hx;go_enter Tryz.func22,Tryz.ntmps22;go_wp2;refine bodyPost_ret (v:=.tuple #[.agg #[J I (p:Int),aD xc,aD xs],aF true]) (by simp[results,Tryz.results22,go_sem]) rfl ⟨rfl,AC _ _⟩
theorem RY(hH:H.length<=60)(p:Nat)(x:ByteArray × ByteArray)(hx:H[p]? = some x)(w:aA)(hL:FR B w gl rv hv R H)(hR:AJ w) :
  aJ aH 23 #[aK (some ⟨gl,0,none⟩),J I (p:Int)] w (QF w (((CW H.length (AP 0 H) p).map (·.1)).reverse)):=by
 have hp:=(List.getElem?_eq_some_iff.1 hx).1;have HL:=Wz hL;have HR:=Wz hR;have HLv:=Wz (fun(W:aA)(k:aC w.heap.size w W)=>MG B gl rv hv R H (by omega) W (hL.ext k));have HPr:=Wz (show ∀(K:Nat) (v:aE) (W:aA),AW (fun b=>K<=b) W v (AP 0 H)->AJ W->aJ aH 41 #[v,J I (p:Int)] W (Fw W (((CW H.length (AP 0 H) p).map (·.1)).reverse))from fun K v W h hRW=>by
  have h9:=K6 (fun b=>b<W.heap.size) v (AP 0 H) p W (h.mono (fun b _ hb=>hb)) (by rw[AV];exact Nat.le_trans hH (by decide)) (by rw[AV];exact hp) (fun b hb=>hb) (Cy H 0 hL.sizes) hRW
  rwa [AV]at h9)
 have HHd:=Wz (fun(W:aA)(k:aC w.heap.size w W)=>Jv p x hx W (hL.ext k));generalize ((CW H.length (AP 0 H) p).map (·.1)).reverse=pl at *;generalize AP 0 H=es at *;clear hL hR hx;obtain⟨xc,xs⟩:=x;go_enter Tryz.func23,Tryz.ntmps23;go_wp2_with fail
 refine(HHd.out _ (AF w)).mono ?_;rintro e W1 ⟨rfl,hb1⟩;have HB1:=Wz (AB hb1 (aI #[J I (p:Int),aD xc,aD xs] 52));clear hb1;go_wp2_with fail
 refine(HLv.out _ HB1.out).mono ?_;rintro e W2 ⟨v,rfl,hs2,hb2⟩;have HS2:=Wz hs2;have HB2:=Wz (AA HB1.out hb2);clear hs2 hb2;go_wp2_with fail
 refine(HPr.out _ v W2 HS2.out (HR.out.below HB2.out)).mono ?_;rintro e W3 ⟨v3,rfl,hs3,hb3⟩;obtain⟨A,c,rfl⟩:=Fl hs3;have HS3:=Wz (hs3.mono (S':=fun b=>w.heap.size<=b) (fun b h _=>Nat.le_trans HB2.out.size h));have HB3:=Wz (AA HB2.out hb3);clear hs3 hb3;go_wp2;go_ret2;exact⟨A,c,rfl,HS3.out,HB3.out⟩
theorem Uq(hH:H.length<=60)(p:Nat)(x:ByteArray × ByteArray)(hx:H[p]? = some x)(w:aA)(hL:FR B w gl rv hv R H)(hR:AJ w) :
  aJ aH 29 #[aK (some ⟨gl,0,none⟩),J I (p:Int)] w (QF w (Hg (AP 0 H) (p+1))):=by
 have hp:=(List.getElem?_eq_some_iff.1 hx).1;have HL:=Wz hL;have HR:=Wz hR;have HLv:=Wz (fun(W:aA)(k:aC w.heap.size w W)=>MG B gl rv hv R H (by omega) W (hL.ext k));have HPr:=Wz (show ∀(K:Nat) (v:aE) (W:aA),AW (fun b=>K<=b) W v (AP 0 H)->AJ W->aJ aH 57 #[v,J I ((p:Int)+1)] W (Fw W (Hg (AP 0 H) (p+1)))from fun K v W h hRW=>
  Uo (fun b=>b<W.heap.size) v (AP 0 H) (p+1) W (h.mono (fun b _ hb=>hb)) (by rw[AV];exact Nat.le_trans hH (by decide)) (by omega) (by rw[AV];omega) (fun b hb=>hb) (Cy H 0 hL.sizes) hRW)
 have HHd:=Wz (fun(W:aA)(k:aC w.heap.size w W)=>Jv p x hx W (hL.ext k));generalize Hg (AP 0 H) (p+1)=pl at *;generalize AP 0 H=es at *;have e1:IntKind.i64.wrap ((p:Int)+1)=(p:Int)+1:=aG _ (by omega);clear hL hR hx;obtain⟨xc,xs⟩:=x;go_enter Tryz.func29,Tryz.ntmps29;go_wp2_with fail
 refine(HHd.out _ (AF w)).mono ?_;rintro e W1 ⟨rfl,hb1⟩;have HB1:=Wz (AB hb1 (aI #[J I (p:Int),aD xc,aD xs] 52));clear hb1;go_wp2_with fail
 refine(HLv.out _ HB1.out).mono ?_;rintro e W2 ⟨v,rfl,hs2,hb2⟩;have HS2:=Wz hs2;have HB2:=Wz (AA HB1.out hb2);clear hs2 hb2;go_wp2_with fail
 refine(HPr.out _ v W2 HS2.out (HR.out.below HB2.out)).mono ?_;rintro e W3 ⟨v3,rfl,hs3,hb3⟩;obtain⟨A,c,rfl⟩:=Fl hs3;have HS3:=Wz (hs3.mono (S':=fun b=>w.heap.size<=b) (fun b h _=>Nat.le_trans HB2.out.size h));have HB3:=Wz (AA HB2.out hb3);clear hs3 hb3;go_wp2;go_ret2;exact⟨A,c,rfl,HS3.out,HB3.out⟩
theorem PL(hH:H.length<=60)(hsz:∀ h ∈ H,h.1.size=32/\h.2.size=32)(n p:Nat)(hn:H.length=n+1)(x:ByteArray × ByteArray)(hx:H[p]? = some x)(S:Nat->Prop)(v:aE)(w:aA)(hv:AW S w v (((CW H.length (AP 0 H) p).map (·.1)).reverse))(hSB:∀ b,S b->b<w.heap.size)(hR:AJ w) :
  aJ aH 33 #[aD (BB H),J I (n:Int),.agg #[J I (p:Int),aD x.1,aD x.2],v] w fun e w'=>e=aL (aF true)/\aC w.heap.size w w':=by
 have hp:=(List.getElem?_eq_some_iff.1 hx).1;have hxs:=hsz x (List.mem_of_getElem? hx);have HEn:=Wz (fun W:aA=>Kp p x.1 x.2 (by omega) hxs.1 hxs.2 W);have HSz:=Wz (show(CP p x.1 x.2).size<=500000 by
  have:=Cy H 0 hsz (CP p x.1 x.2) (List.mem_of_getElem? (by have h9:=FC H 0 p x hx;rwa [Nat.zero_add]at h9));omega)
 have HVe:=Wz (fun(W:aA)(h:aC w.heap.size w W)=>show aJ aH 64 #[aD (BB H),J I ((n:Int)+1),J I (p:Int),aD (CP p x.1 x.2),v] W fun e w'=>e=aL (aF true)/\aC W.heap.size W w' by
  have h9:=Je S v (BB H) (CP p x.1 x.2) (AP 0 H) p W (by rw[AV];exact Nat.le_trans hH (by decide)) (by have h8:=FC H 0 p x hx;rwa [Nat.zero_add]at h8) (by rw[AV];exact hv.below h) (fun b hb=>Nat.lt_of_lt_of_le (hSB b hb) h.size) HSz.out (hR.below h);have hc:((AP 0 H).length:Int)=(n:Int)+1:=by rw[AV,hn];rfl
  have hr:((Ai (AP 0 H)).toList == (BB H).toList)=true:=by unfold BB;rw[beq_self_eq_true]
  rw[hc,hr]at h9;exact h9)
 obtain⟨xc,xs⟩:=x;dsimp only at HEn HVe ⊢;generalize CP p xc xs=e1 at *;generalize BB H=rt at *;have HH:=Wz (Blk.new w 52 #[J I (p:Int),aD xc,aD xs]);have c0:=HH.out.cell 0;have c1:=HH.out.cell 1;have c2:=HH.out.cell 2;have e1:IntKind.i64.wrap ((n:Int)+1)=(n:Int)+1:=aG _ (by omega);have p1:(p:Int)<=(n:Int):=by omega
 have p1':p<=n:=by omega
 have p2:(n:Int)<=10000:=by omega
 obtain⟨A,c,hvv⟩:=Fl hv;obtain⟨nl,hnl⟩:∃ nl,nl=(((CW H.length (AP 0 H) p).map (·.1)).reverse).length:=⟨_,rfl⟩;rw[<- hnl]at hvv;subst hvv;clear hv hR hx hsz hSB hn hxs hnl;go_enter Tryz.func33,Tryz.ntmps33;go_wp2_with fail
 refine(HEn.out _).mono ?_;rintro e W1 ⟨rfl,hb1⟩;have HB1:=Wz (AA (AC w _) hb1);have HH1:=Wz (HH.out.ext hb1);clear hb1 c0 c1 c2;have d0:=HH1.out.cell 0;go_wp2_with fail
 refine(HVe.out _ HB1.out).mono ?_;rintro e W2 ⟨rfl,hb2⟩;go_wp2;go_ret;exact⟨rfl,AA HB1.out hb2⟩
end
end
section
open Go.RowKit Go.Shelf
attribute [local go_sem ↓] Go.wp_at_zero Go.wp_at_succ
def Bx(p:Nat)(c:ByteArray)(Ls:List (List AH)):Nat->ByteArray
 | 0=>c
 | k+1=>CY (Bx p c Ls k) (BM (Bw (((p+k:Nat):Int)+1) (Ls.getD k [])))
theorem Io(p:Nat)(c:ByteArray)(Ls:List (List AH))(hc:c.size=32):∀ k,(Bx p c Ls k).size=32
 | 0=>hc
 | _+1=>IV _ _
theorem Ng(Ls:List (List AH))(u:aE)(p q:Nat)(hq:q=p+Ls.length)(h60:q<=60)(ca sa cb sb:ByteArray)(hca:ca.size=32)(hsa:sa.size=32)(hcb:cb.size=32)(hsb:sb.size=32)(hch:cb=Bx p ca Ls Ls.length)(hst:Ls.length=0->sa=sb)
  (hG:∀ l ∈ Ls,B4 l/\BI l=true) (w:aA) (hu:Bt w u (p+1) Ls) (hR:AJ w) :
  aJ aH 58 #[.agg #[J I (p:Int),aD ca,aD sa],u,.agg #[J I (q:Int),aD cb,aD sb]] w fun e w'=>e=aL (aF true)/\aC w.heap.size w w':=by
 have HVA:=Wz (fun W:aA=>G0 p ca sa (by omega) hca hsa W);have HVB:=Wz (fun W:aA=>G0 q cb sb (by omega) hcb hsb W);have HA0:=Wz ((Blk.new w 52 #[J I (p:Int),aD ca,aD sa]).alloc (aI #[J I (q:Int),aD cb,aD sb] 52));have HB0:=Wz (Blk.new' (w.alloc (aI #[J I (p:Int),aD ca,aD sa] 52)) 52 #[J I (q:Int),aD cb,aD sb] (b:=w.heap.size+1) (by simp));have HU:=Wz hu;have HR:=Wz hR;have HG:=Wz hG;have HST:=Wz hst;have HCH:=Wz hch;have HQ:=Wz hq;have HSZ:=Wz (And.intro hca (And.intro hsa hsb));obtain⟨A,c,rfl,hc,-⟩:=hu;obtain⟨n,hn⟩:∃ n,n=Ls.length:=⟨_,rfl⟩;have HN:=Wz hn;rw[<- hn]at hc ⊢;have HQ2:=Wz (show q=p+n by rw[hq,hn]);clear hca hsa hcb hsb hch hst hG hR hq hn;go_enter Tryz.func58,Tryz.ntmps58;go_wp2;go_step3;go_wp2_with fail
 refine(HVA.out _).mono ?_;rintro e W1 ⟨rfl,hb1⟩;have HA1:=Wz (HA0.out.ext hb1);have HB1:=Wz (HB0.out.ext hb1);have HE1:=Wz (AA (AB (AC w _) _) hb1);have c0:=HB1.out.cell 0;have c1:=HB1.out.cell 1;have c2:=HB1.out.cell 2;clear hb1;go_wp2_with fail
 refine(HVB.out _).mono ?_;rintro e W2 ⟨rfl,hb2⟩;have HA2:=Wz (HA1.out.ext hb2);have HB2:=Wz (HB1.out.ext hb2);have HE2:=Wz (AA HE1.out hb2);clear hb2 c0 c1 c2;obtain⟨ga,hga⟩:∃ ga,ga=w.heap.size:=⟨_,rfl⟩;obtain⟨gb,hgb⟩:∃ gb,gb=w.heap.size+1:=⟨_,rfl⟩;rw[<- hga]at HA2;rw[<- hgb]at HB2;rw[<- hgb,<- hga];have HGA:=Wz (show w.heap.size<=ga/\gb≠ga by omega);clear hga hgb HA0 HB0 HA1 HB1 HE1;go_wp2;go_step3;go_wp2;go_loopw [7,9,10,11,20] (fun bv _ _ _ iv W=>∃ k:Nat,k<=n/\iv=J I (k:Int)/\bv=aF true/\Blk W ga 52 #[J I ((p+k:Nat):Int),aD (Bx p ca Ls k),aD (if k=0 then sa else sb)]/\Blk W gb 52 #[J I (q:Int),aD cb,aD sb]/\aC w.heap.size w W) (fun _ _ _ _ iv _=>n-(intOf iv).toNat)
 case atStart=>exact⟨0,Nat.zero_le _,rfl,rfl,HA2.out,HB2.out,HE2.out⟩
 case round=>
  obtain⟨k,hk,rfl,rfl,hA,hB,hE⟩:=hrel;obtain⟨ch,hchk⟩:∃ ch,ch=Bx p ca Ls k:=⟨_,rfl⟩;obtain⟨st,hstk⟩:∃ st,st=(if k=0 then sa else sb):=⟨_,rfl⟩;obtain⟨m,hm⟩:∃ m,m=p+k:=⟨_,rfl⟩;have hch32:ch.size=32:=by rw[hchk];exact Io p ca Ls HSZ.out.1 k
  have hst32:st.size=32:=by rw[hstk];split;exact HSZ.out.2.1;exact HSZ.out.2.2
  rw[<- hchk,<- hstk,<- hm]at hA;have HA:=Wz hA;have HB:=Wz hB;have HE:=Wz hE;have HM:=Wz hm;have HCK:=Wz hchk;have HSK:=Wz hstk;clear hA hB hE hm hchk hstk HA2 HB2 HE2;by_cases hlt:k<n
  ·obtain⟨l,hl⟩:∃ l,Ls[k]? = some l:=⟨_,aN (by rw[<- HN.out];exact hlt)⟩;have hgl:=HG.out l (List.mem_of_getElem? hl);obtain⟨A',c',hA',_,hcell⟩:=HU.out;injection hA' with h1 _ h3
   subst h1 h3;obtain⟨b,rfl,hcell2⟩:=hcell (by rw[<- HN.out];omega);obtain⟨z0,u2,z1,hu2⟩:=hcell2 k l hl;have z0:=AG z0 HE.out;have z1:=AG z1 HE.out;rw[show(((p+1:Nat):Int)+(k:Int))=(m:Int)+1 by have:=HM.out;omega]at z0;have HNX:=Wz (fun(W:aA)(h:aC wr.heap.size wr W)=>NV m (by have:=HM.out;have:=HQ2.out;omega) l u2 ch st sb hch32 hst32 HSZ.out.2.2 W ((hu2.ext HE.out).ext h) hgl.1 hgl.2 ((HR.out.below HE.out).below h));have HCN:=Wz (show Bx p ca Ls (k+1)=CY ch (BM (Bw ((m:Int)+1) l))by
    show CY (Bx p ca Ls k) _=_;rw[<- HCK.out,HM.out,List.getD_eq_getElem?_getD,hl];rfl)
   generalize CY ch (BM (Bw ((m:Int)+1) l))=cn at *;obtain⟨Au,cu,rfl,-⟩:=hu2;have q0:(0:Int)<=(k:Int):=by omega
   have q1:(k:Int)<(n:Int):=by omega
   have d1:decide ((k:Int)<(n:Int))=true:=decide_eq_true (by omega);have hk60:k<60:=by have:=HQ2.out;omega
   have e2:IntKind.i64.wrap ((k:Int)+1)=(k:Int)+1:=aG _ (by omega);have HAl:=Wz (HA.out.alloc (aI #[J I ((m:Int)+1),aB Au l.length cu] 75));have HBl:=Wz (HB.out.alloc (aI #[J I ((m:Int)+1),aB Au l.length cu] 75));have a0:=HAl.out.cell 0;have a1:=HAl.out.cell 1;have a2:=HAl.out.cell 2;have b0:=HBl.out.cell 0;have b1:=HBl.out.cell 1;have b2:=HBl.out.cell 2;clear hcell hcell2 hl hgl;go_wp2_with fail
   refine(HNX.out _ (AC wr _)).mono ?_;rintro e W3 ⟨rfl,hb3⟩;have hA3:=HAl.out.ext hb3;have hB3:=HBl.out.ext hb3;have HE3:=Wz (AA (AB HE.out _) hb3);have hA4:=hA3.alloc (aI #[J I ((m:Int)+1),aD cn,aD sb] 52);have HA4:=Wz hA4;have HB4:=Wz (hB3.alloc (aI #[J I ((m:Int)+1),aD cn,aD sb] 52));clear a0 a1 a2 b0 b1 b2 hb3 hA3 hB3 z0 z1;have a0:=hA4.cell 0;have a1:=hA4.cell 1;have a2:=hA4.cell 2;have f0:=hA4.frozen 0;have f1:=hA4.frozen 1;have f2:=hA4.frozen 2;clear hA4;go_wp2;go_roundw
   case rel=>
    refine⟨k+1,by omega,by go_num,rfl,?_,?_,?_⟩
    ·rw[HCN.out,if_neg (Nat.succ_ne_zero k),show(((p+(k+1):Nat)):Int)=(m:Int)+1 by have:=HM.out;omega];exact((HA4.out.set_ 0 _).set_ 1 _).set_ 2 _
    ·exact((HB4.out.far (p:=⟨ga,0,none⟩) HGA.out.2 _).far (p:=⟨ga,1,none⟩) HGA.out.2 _).far (p:=⟨ga,2,none⟩) HGA.out.2 _
    exact AE (AE (AE (AB HE3.out _) HGA.out.1 _) HGA.out.1 _) HGA.out.1 _
   simp[intOf];omega
  have hkn:k=n:=by omega
  have hmq:m=q:=by have:=HM.out;have:=HQ2.out;omega
  have hcc:ch=cb:=by rw[HCK.out,hkn,HN.out];exact HCH.out.symm
  have hss:st=sb:=by
   rw[HSK.out];split
   ·exact HST.out (by rw[<- HN.out];omega)
   rfl
  subst hmq hcc hss;have d1:decide ((k:Int)<(n:Int))=false:=decide_eq_false (by omega);have a0:=HA.out.cell 0;have a1:=HA.out.cell 1;have a2:=HA.out.cell 2;have b0:=HB.out.cell 0;have b1:=HB.out.cell 1;have b2:=HB.out.cell 2;go_wp2;rw[Exit.noGoto_ret];go_ret;exact⟨rfl,HE.out⟩
end
section
open Go.RowKit Go.Shelf
attribute [local go_sem ↓] Go.wp_at_zero Go.wp_at_succ
def BC(Ls:List (List AH))(k:Nat):ByteArray × ByteArray:=(Bx 0 Cb Ls k,Bo (stF (Ls.take k)))
def An(Ls:List (List AH))(k:Nat):List (ByteArray × ByteArray):=(List.range (k+1)).map (BC Ls)
theorem Ba(Ls:List (List AH))(k:Nat):(An Ls k).length=k+1:=by simp[An]
theorem El(Ls:List (List AH))(k i:Nat)(h:i<=k):(An Ls k)[i]? = some (BC Ls i):=by
 unfold An;rw[List.getElem?_map,List.getElem?_range (by omega)];rfl
theorem Nh(Ls:List (List AH)):An Ls 0=[(Cb,Bo [])]:=by
 unfold An BC;rw[show List.range (0+1)=[0]from rfl,List.map_singleton,List.take_zero];unfold Bx stF;rw[List.foldl_nil]
theorem Ni(Ls:List (List AH))(k:Nat):An Ls (k+1)=An Ls k++[BC Ls (k+1)]:=by
 unfold An;rw[List.range_succ,List.map_append];rfl
theorem Nj(Ls:List (List AH))(k m:Nat)(h:m<=k):(An Ls k).take (m+1)=An Ls m:=by
 unfold An;rw[<- List.map_take,List.take_range,Nat.min_eq_left (by omega)]
theorem ER(Ls:List (List AH))(k:Nat):(BC Ls k).1.size=32/\(BC Ls k).2.size=32:=by
 unfold BC;dsimp only;exact⟨Io 0 Cb Ls G1 k,DJ (stF (Ls.take k))⟩
theorem MI(Ls:List (List AH))(k:Nat):∀ h ∈ An Ls k,h.1.size=32/\h.2.size=32:=by
 intro h hh;unfold An at hh;obtain⟨i,_,rfl⟩:=List.mem_map.1 hh;exact ER Ls i
theorem Nk(p:Nat)(c:ByteArray)(Ls:List (List AH))(k:Nat):Bx p c Ls (k+1)=CY (Bx p c Ls k) (BM (Bw (((p+k:Nat):Int)+1) (Ls.getD k []))):=by rw[Bx]
theorem Nl{Ls:List (List AH)}{k:Nat}{l:List AH}(hl:Ls[k]? = some l):An Ls k++[(CY (BC Ls k).1 (BM (Bw ((k:Int)+1) l)),Bo (Bm (stF (Ls.take k)) l))]=An Ls (k+1):=by
 have h1:BC Ls (k+1)=(CY (BC Ls k).1 (BM (Bw ((k:Int)+1) l)),Bo (Bm (stF (Ls.take k)) l)):=by
  unfold BC;rw[Fi hl,Nk,List.getD_eq_getElem?_getD,hl,Nat.zero_add,Option.getD_some]
 rw[Ni,h1]
def Em(B:Nat)(W:aA)(gl:Nat)(Ls:List (List AH))(k:Nat):Prop:=∃ rv hv R,FR B W gl rv hv R (An Ls k)/\trs R=Ls.take k/\R.length=k/\B<=gl
theorem Em.ext{B gl k:Nat}{w W:aA}{Ls:List (List AH)}(h:Em B w gl Ls k)(e:aC w.heap.size w W):Em B W gl Ls k:=by
 obtain⟨rv,hv,R,h1,h2⟩:=h;exact⟨rv,hv,R,h1.ext e,h2⟩
theorem FA.rows{Ls:List (List AH)}(h:FA Ls)(hg:∀ l ∈ Ls,∀ c ∈ l,Dw c)(k:Nat):D5 (stF (Ls.take k))/\A0 (stF (Ls.take k))/\(∀ r ∈ stF (Ls.take k),r.ok)/\(stF (Ls.take k)).length<=27:=by
 have h1:D5 (stF (Ls.take k))/\A0 (stF (Ls.take k)):=by
  induction k with
  | zero=>exact⟨D5.nil,List.Pairwise.nil⟩
  | succ k ih=>
   rcases Nat.lt_or_ge k Ls.length with h2|h2
   ·obtain⟨l,hl⟩:∃ l,Ls[k]? = some l:=⟨_,aN h2⟩;rw[Fi hl];exact⟨ih.1.apply (hg l (List.mem_of_getElem? hl)),ih.2.apply l⟩
   rw[List.take_of_length_le (by omega)]at ih ⊢;exact ih
 exact⟨h1.1,h1.2,fun r hr=>(h1.1.sm r hr).1,h1.1.few⟩
theorem log0F(B:Nat)(W:aA)(gl gh:Nat)(s:ByteArray)(hs:s.size=32)(h1:Blk W gl 112 #[aB none 0 0,aB (some ⟨gh,0,none⟩) 1 1])(h2:Blk W gh 52 #[J I 0,aD Cb,aD s])(hB:B<=gh):FR B W gl (aB none 0 0) (aB (some ⟨gh,0,none⟩) 1 1) [] [(Cb,s)]:=
 ⟨h1,World.ownsRow_nil _ _ _ _,⟨rfl,.inr ⟨gh,1,_,rfl,hB,h2,Nat.le_refl _,by unfold maxLen;omega,rfl,rfl⟩⟩,by simp,rfl,by intro h hh;simp at hh;subst hh;exact⟨G1,hs⟩⟩
theorem MJ(Ls:List (List AH))(v:aE)(n:Nat)(hn:n<=Ls.length)(hL:Ls.length<=16)(hG:FA Ls)(hC:∀ l ∈ Ls,∀ c ∈ l,Dw c)(w:aA)(hv:Bt w v 1 Ls)(hR:AJ w) :
  aJ aH 21 #[v,J I (n:Int)] w fun e w'=>∃ gl,e=aL (aK (some ⟨gl,0,none⟩))/\Em w.heap.size w' gl Ls n/\aC w.heap.size w w':=by
 have HV:=Wz hv;have HR:=Wz hR;have HG:=Wz hG;have HRW:=Wz (hG.rows hC);obtain⟨A,c,rfl,hlc,-⟩:=hv;clear hR hG hC;go_enter Tryz.func21,Tryz.ntmps21;go_wp2_with fail
 refine(Mx w).mono ?_;rintro e W1 ⟨rfl,hw⟩;have HE1:=Wz (show aC w.heap.size w W1 by rw[<- hw];exact AB (AC _ _) _);have HS1:=Wz (show BA W1 (w.heap.size+1) w.heap.size 0 []by rw[<- hw];exact⟨Blk.new' _ _ _ (by simp),(FQ.new w).ext (AC _ _)⟩);obtain⟨gs,hgs⟩:∃ gs,gs=w.heap.size+1:=⟨_,rfl⟩;obtain⟨gm,hgm⟩:∃ gm,gm=w.heap.size:=⟨_,rfl⟩;have HGB:=Wz (show w.heap.size<=gs/\w.heap.size<=gm by omega);rw[<- hgs,<- hgm]at HS1;rw[<- hgs];clear hw hgs hgm;go_wp2_with fail
 refine(Jl [] (by simp) (by simp) List.Pairwise.nil gs gm 0 W1 HS1.out (HR.out.below HE1.out)).mono ?_;rintro e W2 ⟨rfl,hb2⟩;have HE2:=Wz (AA HE1.out hb2);have HS2:=Wz (HS1.out.ext hb2);clear hb2 HS1;go_wp2_with fail
 refine(Ub (Bo []) (DJ _) W2).mono ?_;rintro e W3 ⟨gl,gh,rfl,hl3,hh3,hgl,hgh,hb3⟩;have HE3:=Wz (AA HE2.out hb3);have HS3:=Wz (HS2.out.ext hb3);have hz2:=HE2.out.size;have HL3:=Wz (show Em w.heap.size W3 gl Ls 0 from by
  refine⟨aB none 0 0,aB (some ⟨gh,0,none⟩) 1 1,[],?_,rfl,rfl,by omega⟩;rw[Nh];exact log0F w.heap.size W3 gl gh (Bo []) (DJ _) hl3 hh3 (by omega))
 clear hb3 hl3 hh3 hgl hgh hz2 HS2;go_wp2;go_loopw [8] (fun iv W=>∃ k:Nat,k<=n/\iv=J I (k:Int)/\BA W gs gm (k:Int) (stF (Ls.take k))/\Em w.heap.size W gl Ls k/\aC w.heap.size w W) (fun iv _=>n-(intOf iv).toNat)
 case atStart=>exact⟨0,Nat.zero_le _,rfl,HS3.out,HL3.out,HE3.out⟩
 case round =>
  obtain⟨k,hk,rfl,hS,hLg,hE⟩:=hrel;have HS:=Wz hS;have HLg:=Wz hLg;have HE:=Wz hE;clear hS hLg hE HS3 HL3 HE3;by_cases hlt:k<n
  ·obtain⟨l,hl⟩:∃ l,Ls[k]? = some l:=⟨_,aN (by omega)⟩;have HSU:=Wz (Fi hl);have HST:=Wz (HG.out.step k l hl);have HR1:=Wz (show(∀ r ∈ Bm (stF (Ls.take k)) l,r.ok)/\(Bm (stF (Ls.take k)) l).length<=60/\A0 (Bm (stF (Ls.take k)) l)by
    have h9:=HRW.out (k+1);rw[Fi hl]at h9;exact⟨h9.2.2.1,by omega,h9.2.1⟩)
   have HHD:=Wz (Nl hl);have HTK:=Wz (show Ls.take (k+1)=Ls.take k++[l]by rw[List.take_add_one,hl];rfl);obtain⟨A',c',hA',_,hcell⟩:=HV.out;injection hA' with hA1 _ hA3
   subst hA1;subst hA3;obtain⟨b,rfl,hcell2⟩:=hcell (by omega);obtain⟨z0,u,z1,hu⟩:=hcell2 k l hl;rw[show(((1:Nat):Int)+(k:Int))=(k:Int)+1 by omega]at z0;have HU0:=Wz hu;have HZ:=Wz (And.intro z0 z1);have z0:=AG z0 HE.out;have z1:=AG z1 HE.out;have q0:(0:Int)<=(k:Int):=by omega
   have q1:(k:Int)<(Ls.length:Int):=by omega
   have q2:decide ((k:Int)<(n:Int))=true:=decide_eq_true (by omega);have q3:decide ((k:Int)<(Ls.length:Int))=true:=decide_eq_true (by omega);have e2:IntKind.i64.wrap ((k:Int)+1)=(k:Int)+1:=aG _ (by omega);have HAP:=Wz (Sp (stF (Ls.take k)) l u gs gm (k:Int) (by omega) wr HS.out (hu.ext HE.out) HST.out.1 HST.out.2.2.2 HST.out.2.2.1);obtain⟨Au,cu,hue,-⟩:=id hu;subst hue;clear hcell hcell2 hu hl;go_wp2_with fail
   refine HAP.out.mono ?_;rintro e W2 (⟨h1,_⟩|⟨_,rfl,hS2,hx2⟩)
   ·exact absurd h1 (by rw[HST.out.2.1];decide)
   have hxs:AS (StS gs gm) wr W2:=AS.of_ext2 hx2 (.inl rfl) (.inr rfl);have HE2:=Wz (show aC w.heap.size w W2 from AS.below HE.out (by rintro j (rfl|rfl);exact HGB.out.1;exact HGB.out.2) hxs);obtain⟨rv,hvv,R,hLG,htr,hRl,hglB⟩:=HLg.out;have HLG2:=Wz (hLG.keepSt HS.out hxs);have HS2:=Wz hS2;have HTR:=Wz (And.intro htr (And.intro hRl hglB));have hz2:=HE2.out.size;have HRt:=Wz (fun(W:aA)(e:aC W2.heap.size W2 W)=>Jl (Bm (stF (Ls.take k)) l) HR1.out.1 HR1.out.2.1 HR1.out.2.2 gs gm ((k:Int)+1) W (HS2.out.ext e) (HR.out.below (AA HE2.out e)));have HAp:=Wz (fun(t:ByteArray)(ht:t.size=32)(W:aA)(e:aC W2.heap.size W2 W)=>show aJ aH 40 #[aK (some ⟨gl,0,none⟩),.agg #[J I ((k:Int)+1),aB Au l.length cu],aD t] W fun e w'=>e=aL (J I 0)/\(∃ rv2 hv2 g d,FR w.heap.size w' gl rv2 hv2 (R++[(l,g,d)]) (An Ls k++[(CY (BC Ls k).1 (BM (Bw ((k:Int)+1) l)),t)]))/\AS (ApX gl rv hvv) W w' from by
    have h9:=PA w.heap.size gl rv hvv R (An Ls k) l (aB Au l.length cu) t ht (by omega) W (Nat.le_trans HE2.out.size e.size) (HLG2.out.ext e) (BC Ls k) (by rw[hRl];exact El Ls k k (Nat.le_refl _)) (HU0.out.ext (AA HE2.out e)) HST.out.1 HST.out.2.1 (HR.out.below (AA HE2.out e));rw[hRl]at h9;exact h9.mono fun e w' ⟨h1,rv2,hv2,g,d,h2,h3⟩=>⟨h1,⟨rv2,hv2,g,d,h2⟩,h3⟩)
   have hblt:b<w.heap.size:=AZ HZ.out.1;have HNB:=Wz (show ¬ ApX gl rv hvv b by
    rintro(h|h|h)
    ·omega
    ·have:=(hLG.recs.lt b h).1;omega
    have:=(hLG.heads.lt b h).1;omega)
   have HKP:=Wz (show ∀ W:aA,AS (ApX gl rv hvv) W2 W->W.cell? ⟨b,k*2,none⟩=some (J I ((k:Int)+1))/\W.cell? ⟨b,k*2+1,none⟩=some (aB Au l.length cu)/\AS (ApX gl rv hvv) W2 W from fun W e=>⟨(World.cell?_of_block (e.block b (by omega) HNB.out)).trans (AG HZ.out.1 HE2.out),(World.cell?_of_block (e.block b (by omega) HNB.out)).trans (AG HZ.out.2 HE2.out),e⟩);clear hS2 hx2 hxs hLG htr hRl hglB z0 z1 hblt;obtain⟨z0,z1,-⟩:=HKP.out W2 (AS.of_ext (AF _));go_upto_region 7 with(fail)
   go_region_held3 (fun w'=>w'.cell? ⟨b,k*2,none⟩=some (J I ((k:Int)+1))/\w'.cell? ⟨b,k*2+1,none⟩=some (aB Au l.length cu)/\AS (ApX gl rv hvv) W2 w')
    (first|with_reducible assumption|exact HKP.out _ (by first|with_reducible assumption|exact AS.of_ext (AF W2).drew|exact AS.of_ext (by assumption)))
    (first
     |(go_at_call 39;(with_reducible refine(HRt.out _ ?_).mono ?_);(exact(AF W2).drew);rintro e W3 ⟨rfl,hb3⟩;have ht:=DJ (Bm (stF (Ls.take k)) l);have hE3:aC W2.heap.size W2 W3:=AA (AF W2).drew hb3)
     |(go_at_call 40;(with_reducible refine(HAp.out _ ?_ _ ?_).mono ?_);(assumption);(assumption);rintro e W4 ⟨rfl,hlr,he4⟩;have hx4:AS (ApX gl rv hvv) W2 W4:=(AS.of_ext (by assumption)).trans he4))
   have HLR:=Wz hlr;have HX4:=Wz hx4;clear hlr he4 hx4 hE3 hb3 z0 z1;go_wp2;go_roundw
   case rel=>
    refine⟨k+1,by omega,by go_num,?_,?_,?_⟩
    ·have h9:=HS2.out.keepLog HLG2.out HX4.out;rw[HSU.out];simpa using h9
    ·obtain⟨rv2,hv2,g,d,h4⟩:=HLR.out;rw[HHD.out]at h4;exact⟨rv2,hv2,_,h4,by rw[Jp,HTR.out.1,HTK.out],by rw[List.length_append,HTR.out.2.1];rfl,HTR.out.2.2⟩
    refine AS.below HE2.out ?_ HX4.out;rintro j (h|h|h)
    ·rw[h];exact HTR.out.2.2
    ·exact(HLG2.out.recs.lt j h).1
    exact(HLG2.out.heads.lt j h).1
   simp[intOf];omega
  obtain rfl:k=n:=by omega
  have q2:decide ((k:Int)<(k:Int))=false:=decide_eq_false (by omega);go_wp2;go_ret;exact⟨gl,rfl,HLg.out,HE.out⟩
end
section
open Go.RowKit Go.Shelf
attribute [local go_sem ↓] AQ AU Go.wp_at_zero Go.wp_at_succ
attribute [local go_sem high] slCR slCT
def Ip(n:Nat):Code->Option Code
 | .block m c=>if m=n then some (.block m c)else Ip n c
 | .seq a b=>match Ip n a with|some c=>some c|none=>Ip n b
 | .loop c=>Ip n c
 | .cond _ a b=>match Ip n a with|some c=>some c|none=>Ip n b
 | .scope c=>Ip n c
 | _=>none
noncomputable def WJ:Code:=(Tryz.f25.body.bind (Ip 3)).getD .skip
set_option maxRecDepth 1000000 in
set_option maxHeartbeats 8000000 in
theorem TN{K : Act -> aA -> Prop}{Q' : Exit -> Act -> aA -> Prop}{c1 c2 c3 c8 c9 c10 c11 c12 c13 c14 c15 c16 c17 c18 c19 c20 c21 c22 c23 c24 c25 c26 c27 c28 c29 c30 c31 c32 c33 c34 c35 c36 c37 c38 c39 c40 c41 c42 c43 c44 c45 c46 c47 c48 c49 c50 c51 c52 c53 c54 c55 c56 c57 c58 c59 c60 c61 c62 c63 c64 c65 c66 c67 c68 c69 c70 c71 c72 c73 c74 c75 c76 c77 c78 c79 c80 c81 c82 c83 c84 c85 c86 c87 c88 c89 c90 c91 c92 c93 c94 c95 c96 c97 c98 c99 c100 c101 c102 c103 c104 c105 c106 c107 c108 c109 c110 c111 c112 c113 c114 c115 c116 c117 c118 c119 c120 c121 c122 c123 c124 c125 c126 c127 c128 c129 c130 c131 c132 c133 c134 c135 c136 c137 c138 c139 c140 c141 c142 c143 c144 c145 c146 c147 c148 c149 c150 c151 c152 c153 c154 c155 c156 c157 c158 c159 c160 c161 c162 c163 c164 c165 c166 c167 c168 c169 c170 c171 c172 c173 c174 c175 c176 c177 c178 c179 c180 c181 c182 c183 c184 c185 c186 c187 c188 c189 c190 c191 c192 c193 c194 c195 c196 c197 c198 c199 c200 c201 c202 c203 c204 c205 c206 c207 c208 c209 c210 c211 c212 c213 c214 c215 c216 : aE}{b off cT i tl k lc n0 oc gs : Nat}{lA oA : Option Addr}{l : List AH}{x : Nat -> Int}{w Y wr : aA}{rows rs : List AD}{R : List (List AH × Nat × Nat)}
  (hQ:∀(c:_) (a:Act) (d:Option Tmp) (v:aE) (w:aA),Q' (.panic c) (a.put d v) w->Q' (.panic c) a w) (hX:(∀ i,i<6->Co (x i))/\∀ m,m<6->w.cell? ⟨b,off+i*6+m,none⟩=some (J I (x m))) (hi:i<tl) (hE:aC w.heap.size w Y) (hI:LgI w.heap.size gs Y (aB oA n0 oc) R rows) (hn0:n0=R.length) (hrs:rs=stF (trs R)) (hK:LgK Y wr rs (aB lA l.length lc) l) (hk:k<3) (hlk:l.length<=k)
  (hend:∀(l':List AH) (lv':aE) (W:aA),l'.length<=k+1->LgK Y W rs lv' l'->∀(u8 u9 u10 u11 u12 u13 u14 u15 u29 u30 u31 u32 u33 u34 u35 u36 u37 u38 u39 u40 u41 u42 u43 u44 u45 u46 u47 u48 u49 u50 u51 u52 u53 u54 u55 u56 u57 u58 u59 u60 u61 u62 u63 u64 u65 u66 u67 u68 u69 u70 u71 u72 u73 u74 u75 u76 u77 u78 u79 u80 u81 u82 u83 u84 u85 u86 u87 u88 u89 u90 u91 u92 u93 u94 u95 u96 u97 u98 u99 u100 u101 u102 u103 u104 u105 u106 u107 u108 u109 u110 u111 u112 u113 u114 u115 u116 u117 u118 u119 u120 u121 u122 u123 u124 u125 u126 u127 u128 u129 u130 u131 u132 u133 u134 u135 u136 u137 u138 u139 u140 u141 u142 u143 u144 u145 u146 u147 u148 u149 u150 u151 u152 u153 u154 u155 u156 u157 u158 u159 u160 u161 u162 u163 u164 u165 u166 u167 u168 u169 u170 u171 u172 u173 u174 u175 u176 u177 u178 u179 u180 u181 u182 u183 u184 u185 u186 u187 u188 u189 u190 u191 u192 u193 u194 u195 u196 u197 u198 u199:aE),K ⟨#[aB (some ⟨b,off,none⟩) tl cT,c1,c2,c3,aK (some ⟨gs,0,none⟩),J I (i:Int),lv',J I (k:Int),u8,u9,u10,u11,u12,u13,u14,u15,c16,c17,c18,c19,c20,c21,c22,c23,c24,c25,c26,c27,c28,u29,u30,u31,u32,u33,u34,u35,u36,u37,u38,u39,u40,u41,u42,u43,u44,u45,u46,u47,u48,u49,u50,u51,u52,u53,u54,u55,u56,u57,u58,u59,u60,u61,u62,u63,u64,u65,u66,u67,u68,u69,u70,u71,u72,u73,u74,u75,u76,u77,u78,u79,u80,u81,u82,u83,u84,u85,u86,u87,u88,u89,u90,u91,u92,u93,u94,u95,u96,u97,u98,u99,u100,u101,u102,u103,u104,u105,u106,u107,u108,u109,u110,u111,u112,u113,u114,u115,u116,u117,u118,u119,u120,u121,u122,u123,u124,u125,u126,u127,u128,u129,u130,u131,u132,u133,u134,u135,u136,u137,u138,u139,u140,u141,u142,u143,u144,u145,u146,u147,u148,u149,u150,u151,u152,u153,u154,u155,u156,u157,u158,u159,u160,u161,u162,u163,u164,u165,u166,u167,u168,u169,u170,u171,u172,u173,u174,u175,u176,u177,u178,u179,u180,u181,u182,u183,u184,u185,u186,u187,u188,u189,u190,u191,u192,u193,u194,u195,u196,u197,u198,u199,c200,c201,c202,c203,c204,c205,c206,c207,c208,c209,c210,c211,c212,c213,c214,c215,c216],[]⟩ W):Code.wp aH WJ (Exit.then K Q') ⟨#[aB (some ⟨b,off,none⟩) tl cT,c1,c2,c3,aK (some ⟨gs,0,none⟩),J I (i:Int),aB lA l.length lc,J I (k:Int),c8,c9,c10,c11,c12,c13,c14,c15,c16,c17,c18,c19,c20,c21,c22,c23,c24,c25,c26,c27,c28,c29,c30,c31,c32,c33,c34,c35,c36,c37,c38,c39,c40,c41,c42,c43,c44,c45,c46,c47,c48,c49,c50,c51,c52,c53,c54,c55,c56,c57,c58,c59,c60,c61,c62,c63,c64,c65,c66,c67,c68,c69,c70,c71,c72,c73,c74,c75,c76,c77,c78,c79,c80,c81,c82,c83,c84,c85,c86,c87,c88,c89,c90,c91,c92,c93,c94,c95,c96,c97,c98,c99,c100,c101,c102,c103,c104,c105,c106,c107,c108,c109,c110,c111,c112,c113,c114,c115,c116,c117,c118,c119,c120,c121,c122,c123,c124,c125,c126,c127,c128,c129,c130,c131,c132,c133,c134,c135,c136,c137,c138,c139,c140,c141,c142,c143,c144,c145,c146,c147,c148,c149,c150,c151,c152,c153,c154,c155,c156,c157,c158,c159,c160,c161,c162,c163,c164,c165,c166,c167,c168,c169,c170,c171,c172,c173,c174,c175,c176,c177,c178,c179,c180,c181,c182,c183,c184,c185,c186,c187,c188,c189,c190,c191,c192,c193,c194,c195,c196,c197,c198,c199,c200,c201,c202,c203,c204,c205,c206,c207,c208,c209,c210,c211,c212,c213,c214,c215,c216],[]⟩ wr:=by
 have HX:=Wz hX;have HE:=Wz hE;have HI:=Wz hI;have HN0:=Wz hn0;have HRS:=Wz hrs;have HK:=Wz hK;have hq0:(0:Int)<=(i:Int):=by omega
 have hq1:(i:Int)<(tl:Int):=by omega
 clear hX hE hI hn0 hrs hK hi
 conv=>arg 2;whnf
 have hkl:=hk;obtain⟨m2,hm2⟩:∃ m,m=2*k:=⟨_,rfl⟩;have w2:IntKind.i64.wrap (2*(k:Int))=(m2:Int):=by rw[hm2,aG _ (by omega)];omega
 have w3:IntKind.i64.wrap ((m2:Int)+1)=((m2+1:Nat):Int):=by rw[aG _ (by omega)];omega
 have hEr:=AA HE.out HK.out.ext;have z0:=AG (HX.out.2 m2 (by omega)) hEr;have z1:=AG (HX.out.2 (m2+1) (by omega)) hEr;have i0:=HX.out.1 m2 (by omega);have i1:=HX.out.1 (m2+1) (by omega);obtain⟨xn,hxn⟩:∃ z,z=x m2:=⟨_,rfl⟩;obtain⟨xm,hxm⟩:∃ z,z=x (m2+1):=⟨_,rfl⟩;rw[<- hxn]at z0 i0;rw[<- hxm]at z1 i1;unfold Co at i0 i1;have j0:(0:Int)<=(m2:Int):=by omega
 have j1:(m2:Int)<6:=by omega
 have j2:(0:Int)<=((m2+1:Nat):Int):=by omega
 have j3:((m2+1:Nat):Int)<6:=by omega
 obtain⟨m3,hm3⟩:∃ m,m=m2+1:=⟨_,rfl⟩;rw[<- hm3]at w3 z1 j2 j3;clear hxn hxm hm2 hm3 hEr;go_upto_if 37 with(fail)
 go_cut [8]from 37 to 40 (fun p W=>wr=W/\∃ n:Int,p=J I n/\0<=n/\n<=9223372036854775807)
 case first=>
  by_cases hng:xn<0
  ·have a1:IntKind.i64.wrap (xn+1)=xn+1:=aG _ (by omega);have a2:IntKind.i64.wrap (-(xn+1)) = -(xn+1):=aG _ (by omega);go_wp2;go_meet;exact⟨rfl,_,rfl,by omega,by omega⟩
  go_wp2;go_meet;exact⟨rfl,_,rfl,by omega,by omega⟩
 case rest =>
  obtain⟨hw8,n,rfl,hn0,hn1⟩:=hcut;subst hw8;clear z0 i0;go_upto_if 50 with(fail)
  go_cut [9]from 50 to 53 (fun p W=>wr=W/\∃ m:Int,p=J I m/\0<=m/\m<=9223372036854775807)
  case first=>
   by_cases hng:xm<0
   ·have a1:IntKind.i64.wrap (xm+1)=xm+1:=aG _ (by omega);have a2:IntKind.i64.wrap (-(xm+1)) = -(xm+1):=aG _ (by omega);go_wp2;go_meet;exact⟨rfl,_,rfl,by omega,by omega⟩
   go_wp2;go_meet;exact⟨rfl,_,rfl,by omega,by omega⟩
  case rest =>
   obtain⟨hw9,m,rfl,hm0,hm1⟩:=hcut;subst hw9;clear z1 i1 w2 w3 j0 j1 j2 j3;obtain⟨p0,hp0⟩:∃ p,n % 3=p:=⟨_,rfl⟩;obtain⟨pd,hpd⟩:∃ p,n / 3=p:=⟨_,rfl⟩;obtain⟨p1,hp1⟩:∃ p,pd % 9=p:=⟨_,rfl⟩;obtain⟨p5,hp5⟩:∃ p,n % 5=p:=⟨_,rfl⟩;obtain⟨q4,hq4⟩:∃ p,m % 4=p:=⟨_,rfl⟩;obtain⟨qa,hqa⟩:∃ p,m / 4=p:=⟨_,rfl⟩;obtain⟨qb,hqb⟩:∃ p,m / 40=p:=⟨_,rfl⟩;obtain⟨qd,hqd⟩:∃ p,m / 400=p:=⟨_,rfl⟩;obtain⟨ra,hra⟩:∃ p,qa % 10=p:=⟨_,rfl⟩;obtain⟨rb,hrb⟩:∃ p,qb % 9=p:=⟨_,rfl⟩;obtain⟨rd,hrd⟩:∃ p,qd % 40=p:=⟨_,rfl⟩;have g0:0<=pd:=by omega
   have g1:0<=qa:=by omega
   have g2:0<=qb:=by omega
   have g3:0<=qd:=by omega
   have c0:0<=p0/\p0<3:=by omega
   have c1:0<=p1/\p1<9:=by omega
   have c2:0<=ra/\ra<10:=by omega
   have c3:0<=rb/\rb<9:=by omega
   have c4:0<=rd/\rd<40:=by omega
   have v0:IntKind.i64.wrap pd=pd:=aG _ (by omega);have v2:IntKind.i64.wrap qa=qa:=aG _ (by omega);have v3:IntKind.i64.wrap qb=qb:=aG _ (by omega);have v4:IntKind.i64.wrap qd=qd:=aG _ (by omega);have v5:IntKind.i64.wrap (1+rb)=1+rb:=aG _ (by omega);have v6:IntKind.i64.wrap (rd-20)=rd-20:=aG _ (by omega);have HIr:=Wz (HI.out.ext HK.out.ext);have HST:=Wz (show DF wr gs rows (n0:Int)by rw[HN0.out];exact HIr.out.st);have hstok:D5 rs:=by rw[HRS.out];exact HI.out.ok
   have hag:=HI.out.agree;rw[<- HRS.out]at hag;obtain⟨kk,hkk⟩:∃ z,z=1+p1:=⟨_,rfl⟩;obtain⟨st,hst⟩:∃ z:Bool,decide (0<q4)=z:=⟨_,rfl⟩;have HLC:=Wz (show Dw (DS rs p0 kk ra (1+rb) (rd-20) st)by rw[hkk];exact RV hstok c0 c1 c2 c3 c4);have HG:=fun(W:aA)(hW:DF W gs rows n0)=>S0 rows hag.sort (by have:=Ju hag hstok;omega) p0 kk n0 gs W hW;rw[hag.eq]at HG;have v1:IntKind.i64.wrap (1+p1)=kk:=by rw[hkk];exact aG _ (by omega)
   obtain⟨G,hG⟩:∃ G,G=BP rs p0 kk:=⟨_,rfl⟩;rw[<- hG]at HG;obtain⟨r,hr⟩:∃ r,r=G.getD CB:=⟨_,rfl⟩;obtain⟨hd,hhd⟩:∃ z,z=G.isSome:=⟨_,rfl⟩;rw[<- hr,<- hhd]at HG;obtain⟨d,hd0⟩:∃ d,d=DS rs p0 kk ra (1+rb) (rd-20) st:=⟨_,rfl⟩;obtain⟨hs,hhs⟩:∃ z,z=(!hd || st):=⟨_,rfl⟩;have HHS:=Wz hhs;have HD:=Wz (show Dw d/\Cx rs d=d/\(d.had=true∨d.has=true)/\(d.t=p0/\d.k=kk/\d.had=hd/\d.o1=r.a/\d.o2=r.b/\d.o3=r.c/\d.has=hs)/\(hs=true->d.n1=ra/\d.n2=1+rb/\d.n3=rd-20)/\(hs=false->d.n1=0/\d.n2=0/\d.n3=0)from by
    rw[hd0,hhs];exact⟨HLC.out,RW _ _ _ _ _ _ _,TK _ _ _ _ _ _ _,PI hG hr hhd⟩)
   have HG:=Wz HG;have HX0:=Wz (Blk.new wr 72 #[J I p0,J I kk,aF false,J I 0,J I 0,J I 0,aF false,J I 0,J I 0,J I 0]);obtain⟨r0,r1,o1,o2,o3⟩:=r;dsimp only at HG HD;have hw0:wr.heap.size=wr.heap.size:=rfl;clear c0 c1 c2 c3 c4 hag hstok hG hr hhd hd0 hw0 hkk hhs;go_wp2_with fail
   refine(HG.out _ (HST.out.ext (AC wr _))).mono ?_;rintro e W2 ⟨rfl,hb2⟩;have HX2:=Wz (HX0.out.ext hb2);have HE2:=Wz (AA (AC wr _) hb2);have hlx:=HX2.out.lt;obtain⟨bx,hbx⟩:∃ bx,bx=wr.heap.size:=⟨_,rfl⟩;have HBX:=Wz (Nat.le_of_eq hbx.symm);rw[<- hbx]at HX2 hlx;rw[<- hbx];clear hb2 hbx;have x0:=HX2.out.cell 0;have x1:=HX2.out.cell 1;have x2:=HX2.out.cell 2;have x3:=HX2.out.cell 3;have x4:=HX2.out.cell 4;have x5:=HX2.out.cell 5;have x6:=HX2.out.cell 6;have x7:=HX2.out.cell 7;have x8:=HX2.out.cell 8;have x9:=HX2.out.cell 9;have f2:=HX2.out.frozen 2;have f3:=HX2.out.frozen 3;have f4:=HX2.out.frozen 4;have f5:=HX2.out.frozen 5;have f6:=HX2.out.frozen 6;go_upto_region 20 with(fail)
   go_cut [10]from 75 to 82 (fun p W=>p=aK (some ⟨bx,0,none⟩)/\Blk W bx 72 #[J I p0,J I kk,aF hd,J I o1,J I o2,J I o3,aF hs,J I 0,J I 0,J I 0]/\aC wr.heap.size wr W)
   case first=>
    cases hd with
    | false=>
     go_wp2;go_meet;exact⟨rfl,by rw[HHS.out];exact(((((HX2.out.set_ 2 (aF false)).set_ 3 (J I o1)).set_ 4 (J I o2)).set_ 5 (J I o3)).set_ 6 (aF true)).alloc _,AB (AE (AE (AE (AE (AE HE2.out HBX.out _) HBX.out _) HBX.out _) HBX.out _) HBX.out _) _⟩
    | true=>
     go_wp2;go_meet;exact⟨rfl,by rw[HHS.out];exact(((((HX2.out.set_ 2 (aF true)).set_ 3 (J I o1)).set_ 4 (J I o2)).set_ 5 (J I o3)).set_ 6 (aF st)).alloc _,AB (AE (AE (AE (AE (AE HE2.out HBX.out _) HBX.out _) HBX.out _) HBX.out _) HBX.out _) _⟩
   case rest =>
    obtain⟨rfl,hB3,hE3⟩:=hcut;have HB3:=Wz hB3;have HE3:=Wz hE3;have a6:wc.cell? ⟨bx,6,none⟩=some (aF hs):=hB3.cell 6;clear hB3 hE3 HX2 HE2 x0 x1 x2 x3 x4 x5 x6 x7 x8 x9 f2 f3 f4 f5 f6 hlx hst hq4 HG HX0;go_upto_if 84 with(fail)
    go_cut [10]from 85 to 97 (fun p W=>p=aK (some ⟨bx,0,none⟩)/\Blk W bx 72 d.arr/\aC wr.heap.size wr W)
    case first=>
     cases hs with
     | false=>
      go_wp2;go_meet;exact⟨rfl,by rw[TM HD.out.2.2.2.1 (HD.out.2.2.2.2.2 (by first|rfl|trivial))];exact HB3.out,HE3.out⟩
     | true=>
      have a7:wc.cell? ⟨bx,7,none⟩=some (J I 0):=HB3.out.cell 7;have a8:wc.cell? ⟨bx,8,none⟩=some (J I 0):=HB3.out.cell 8;have a9:wc.cell? ⟨bx,9,none⟩=some (J I 0):=HB3.out.cell 9;have f7:=HB3.out.frozen 7;have f8:=HB3.out.frozen 8;have f9:=HB3.out.frozen 9;go_wp2;go_meet;exact⟨rfl,by rw[TM HD.out.2.2.2.1 (HD.out.2.2.2.2.1 (by first|rfl|trivial))];exact(((HB3.out.set_ 7 (J I ra)).set_ 8 (J I (1+rb))).set_ 9 (J I (rd-20))),AE (AE (AE HE3.out HBX.out _) HBX.out _) HBX.out _⟩
    case rest =>
     obtain⟨rfl,hB4,hE4⟩:=hcut;have HB4:=Wz hB4;have HE4:=Wz hE4;have HO4:=Wz (AK HK.out.own hE4);have HDG:=Wz (And.intro HD.out.1 (And.intro HD.out.2.1 HD.out.2.2.1));clear hB4 hE4 HB3 HE3 a6 HD HHS HLC hqa hqb hqd hra hrb hrd hp0 hpd hp1 v0 v1 v2 v3 v4 v5 v6 g0 g1 g2 g3;obtain⟨V,hV⟩:∃ V,V=wc:=⟨_,rfl⟩;rw[<- hV]at HB4 HE4 HO4 ⊢;clear hV;go_wp2;go_loopw [13,14] (fun kv jv W=>∃ j:Nat,j<=l.length/\jv=J I (j:Int)/\kv=aF (GI (l.take j) d)/\aC V.heap.size V W) (fun _ jv _=>l.length-(intOf jv).toNat)
     case atStart=>exact⟨0,Nat.zero_le _,rfl,rfl,AF _⟩
     case round =>
      obtain⟨j,hj,rfl,rfl,hEj⟩:=hrel;have HEj:=Wz hEj;have HBj:=Wz (HB4.out.ext hEj);have e3:IntKind.i64.wrap ((j:Int)+1)=(j:Int)+1:=aG _ (by omega);clear hEj;by_cases hjl:j<l.length
      ·obtain⟨y,hy⟩:∃ y,l[j]? = some y:=⟨_,aN hjl⟩;obtain⟨g,cg,hv,-,-,hgb⟩:=L6 HO4.out (by omega);injection hv with hv _ hv2
       subst hv hv2;have y0:wr.cell? ⟨g,j*10,none⟩=some (J I y.t):=AG (hgb.cell hy 0 (by omega)) HEj.out;have y1:wr.cell? ⟨g,j*10+1,none⟩=some (J I y.k):=AG (hgb.cell hy 1 (by omega)) HEj.out;have b0:wr.cell? ⟨bx,0,none⟩=some (J I d.t):=HBj.out.cell 0;have b1:wr.cell? ⟨bx,1,none⟩=some (J I d.k):=HBj.out.cell 1;have hks:=PJ d hy;obtain⟨kb,hkb⟩:∃ kb,kb=GI (l.take j) d:=⟨_,rfl⟩;rw[<- hkb]at hks ⊢;have HKS:=Wz hks;have q0:(0:Int)<=(j:Int):=by omega
       have q1:(j:Int)<(l.length:Int):=by omega
       have q2:decide ((j:Int)<(l.length:Int))=true:=decide_eq_true q1;clear hy hgb hks hkb
       cases kb with
       | true=>
        go_wp2;go_quiet (fail);go_wp2;go_roundw
        case rel=>exact⟨j+1,by omega,by go_num,by rw[HKS.out];rfl,Af HEj.out _⟩
        simp[intOf];omega
       | false=>
        by_cases h1:y.t=d.t
        ·have d1:(y.t == d.t)=true:=by simpa using h1
         have HS1:=Wz (decide_eq_true h1);clear h1;by_cases h2:y.k=d.k
         ·have d2:(y.k == d.k)=true:=by simpa using h2
          have HS2:=Wz (decide_eq_true h2);clear h2;go_wp2;go_quiet (fail);go_wp2;go_roundw
          case rel=>exact⟨j+1,by omega,by go_num,by rw[HKS.out,HS1.out,HS2.out];rfl,Af HEj.out _⟩
          simp[intOf];omega
         have d2:(y.k == d.k)=false:=by simpa using h2
         have HS2:=Wz (decide_eq_false h2);clear h2;go_wp2;go_quiet (fail);go_wp2;go_roundw
         case rel=>exact⟨j+1,by omega,by go_num,by rw[HKS.out,HS1.out,HS2.out];rfl,Af HEj.out _⟩
         simp[intOf];omega
        have d1:(y.t == d.t)=false:=by simpa using h1
        have HS1:=Wz (decide_eq_false h1);clear h1;go_wp2;go_quiet (fail);go_wp2;go_roundw
        case rel=>exact⟨j+1,by omega,by go_num,by rw[HKS.out,HS1.out];rfl,Af HEj.out _⟩
        simp[intOf];omega
      have hjl2 : j = l.length := by omega
      have q2:decide ((j:Int)<(l.length:Int))=false:=decide_eq_false (by omega);obtain⟨kn,hkn⟩:∃ kn,kn=GI l d:=⟨_,rfl⟩;rw[show GI (l.take j) d=kn by rw[hjl2,List.take_length,hkn]];have HKN:=Wz hkn;clear hjl2 hkn e3;have HBz:=Wz (HB4.out.ext HEj.out);go_upto_region 28 with(fail)
      go_cut [149]from 125 to 149 (fun t W=>wr=W/\∃ sk:Bool,t=aF sk/\(sk=false->kn=false/\d.turns=true))
      case first =>
       have b2:wr.cell? ⟨bx,2,none⟩=some (aF d.had):=HBz.out.cell 2;have b6:wr.cell? ⟨bx,6,none⟩=some (aF d.has):=HBz.out.cell 6
       cases kn with
       | true=>
        go_wp2;go_meet;exact⟨rfl,true,rfl,fun h=>by cases h⟩
       | false =>
        have b3:wr.cell? ⟨bx,3,none⟩=some (J I d.o1):=HBz.out.cell 3;have b4:wr.cell? ⟨bx,4,none⟩=some (J I d.o2):=HBz.out.cell 4;have b5:wr.cell? ⟨bx,5,none⟩=some (J I d.o3):=HBz.out.cell 5;have b7:wr.cell? ⟨bx,7,none⟩=some (J I d.n1):=HBz.out.cell 7;have b8:wr.cell? ⟨bx,8,none⟩=some (J I d.n2):=HBz.out.cell 8;have b9:wr.cell? ⟨bx,9,none⟩=some (J I d.n3):=HBz.out.cell 9;have heq:=fun W:aA=>eq3 d.o1 d.o2 d.o3 d.n1 d.n2 d.n3 W;obtain⟨eb,heb⟩:∃ eb,eb=(decide (d.o1=d.n1) && decide (d.o2=d.n2) && decide (d.o3=d.n3)):=⟨_,rfl⟩;rw[<- heb]at heq;have HTN:=Wz (show ∀ h s:Bool,d.had=h->d.has=s->(h && s && eb)=false->d.turns=true from fun h s e1 e2 e3=>TL HDG.out.2.2 (by rw[e1,e2,<- heb];exact e3));obtain⟨hh,hhh⟩:∃ z,z=d.had:=⟨_,rfl⟩;obtain⟨ha,hha⟩:∃ z,z=d.has:=⟨_,rfl⟩;rw[<- hhh]at b2;rw[<- hha]at b6;have HHH:=Wz (And.intro hhh.symm hha.symm);clear heb hhh hha;generalize d.o1=w1 at *;generalize d.o2=w2 at *;generalize d.o3=w3 at *;generalize d.n1=w4 at *;generalize d.n2=w5 at *;generalize d.n3=w6 at *
        cases hh with
        | false=>
         by_cases hk0:(0:Int)<(k:Int)
         ·by_cases h5:p5=0
          ·have d5:(p5 == 0)=true:=by simpa using h5
           clear h5;go_wp2;go_meet;exact⟨rfl,true,rfl,fun h=>by cases h⟩
          have d5:(p5 == 0)=false:=by simpa using h5
          clear h5;go_wp2;go_meet;exact⟨rfl,false,rfl,fun _=>⟨by first|rfl|trivial,HTN.out _ _ HHH.out.1 HHH.out.2 rfl⟩⟩
         go_wp2;go_meet;exact⟨rfl,false,rfl,fun _=>⟨by first|rfl|trivial,HTN.out _ _ HHH.out.1 HHH.out.2 rfl⟩⟩
        | true =>
         cases ha with
         | false=>
          by_cases hk0:(0:Int)<(k:Int)
          ·by_cases h5:p5=0
           ·have d5:(p5 == 0)=true:=by simpa using h5
            clear h5;go_wp2;go_meet;exact⟨rfl,true,rfl,fun h=>by cases h⟩
           have d5:(p5 == 0)=false:=by simpa using h5
           clear h5;go_wp2;go_meet;exact⟨rfl,false,rfl,fun _=>⟨by first|rfl|trivial,HTN.out _ _ HHH.out.1 HHH.out.2 rfl⟩⟩
          go_wp2;go_meet;exact⟨rfl,false,rfl,fun _=>⟨by first|rfl|trivial,HTN.out _ _ HHH.out.1 HHH.out.2 rfl⟩⟩
         | true =>
          cases eb with
          | true=>
           go_wp2;go_meet;exact⟨rfl,true,rfl,fun h=>by cases h⟩
          | false=>
           by_cases hk0:(0:Int)<(k:Int)
           ·by_cases h5:p5=0
            ·have d5:(p5 == 0)=true:=by simpa using h5
             clear h5;go_wp2;go_meet;exact⟨rfl,true,rfl,fun h=>by cases h⟩
            have d5:(p5 == 0)=false:=by simpa using h5
            clear h5;go_wp2;go_meet;exact⟨rfl,false,rfl,fun _=>⟨by first|rfl|trivial,HTN.out _ _ HHH.out.1 HHH.out.2 rfl⟩⟩
           go_wp2;go_meet;exact⟨rfl,false,rfl,fun _=>⟨by first|rfl|trivial,HTN.out _ _ HHH.out.1 HHH.out.2 rfl⟩⟩
      case rest =>
       obtain⟨hw0,sk,rfl,hsk⟩:=hcut;subst hw0;have HKz:=Wz (show LgK Y wr rs (aB lA l.length lc) l from⟨AA HK.out.ext (AA HE4.out HEj.out),AK HO4.out HEj.out,HK.out.nil,HK.out.lg⟩)
       cases sk with
       | true=>
        go_wp2;exact hend _ _ _ (by omega) HKz.out _ _ _ _ _ _ _ _ _ _ _ _ _ _ _ _ _ _ _ _ _ _ _ _ _ _ _ _ _ _ _ _ _ _ _ _ _ _ _ _ _ _ _ _ _ _ _ _ _ _ _ _ _ _ _ _ _ _ _ _ _ _ _ _ _ _ _ _ _ _ _ _ _ _ _ _ _ _ _ _ _ _ _ _ _ _ _ _ _ _ _ _ _ _ _ _ _ _ _ _ _ _ _ _ _ _ _ _ _ _ _ _ _ _ _ _ _ _ _ _ _ _ _ _ _ _ _ _ _ _ _ _ _ _ _ _ _ _ _ _ _ _ _ _ _ _ _ _ _ _ _ _ _ _ _ _ _ _ _ _ _ _ _ _ _ _ _ _ _ _ _ _ _ _ _ _ _ _ _
       | false =>
        have HSK:=Wz (hsk rfl);have HKN2:=Wz (show GI l d=false by rw[<- HKN.out];exact HSK.out.1);obtain⟨U,hU⟩:∃ U,U=wr:=⟨_,rfl⟩;rw[<- hU]at HBz HKz ⊢;clear hU hsk HB4 HE4 HO4 HEj HBj hp5;go_wp2;go_loopw [15] (fun jv W=>∃ j:Nat,j<=l.length/\jv=J I (j:Int)/\(∀ x ∈ l.drop j,ltC d x)/\aC U.heap.size U W) (fun jv _=>(intOf jv).toNat)
        case atStart=>exact⟨l.length,Nat.le_refl _,rfl,by simp,AF _⟩
        case round =>
         obtain⟨j,hj,rfl,hgt,hEj⟩:=hrel;have HGT:=Wz hgt;have HEj:=Wz hEj;have HBj:=Wz (HBz.out.ext hEj);clear hgt hEj;go_upto_region 30 with(fail)
         go_cut [186]from 152 to 186 (fun t W=>∃ tb:Bool,t=aF tb/\(tb=true->∃ m y,j=m+1/\l[m]? = some y/\ltC d y)/\(tb=false->∀ m y,j=m+1->l[m]? = some y->ltC y d)/\aC U.heap.size U W)
         case first =>
          by_cases hj0:j=0
          ·subst hj0;go_quiet (fail);go_wp2;go_meet;exact⟨false,rfl,(fun h=>by cases h),(fun _ m y h=>by omega),Af HEj.out _⟩
          obtain⟨m,hm⟩:∃ m,j=m+1:=⟨j-1,by omega⟩;obtain⟨y,hy⟩:∃ y,l[m]? = some y:=⟨_,aN (by omega)⟩;obtain⟨g,cg,hv,-,-,hgb⟩:=L6 HKz.out.own (by omega);injection hv with hv _ hv2
          subst hv hv2;have y0:wr.cell? ⟨g,m*10,none⟩=some (J I y.t):=AG (hgb.cell hy 0 (by omega)) HEj.out;have y1:wr.cell? ⟨g,m*10+1,none⟩=some (J I y.k):=AG (hgb.cell hy 1 (by omega)) HEj.out;have b0:wr.cell? ⟨bx,0,none⟩=some (J I d.t):=HBj.out.cell 0;have b1:wr.cell? ⟨bx,1,none⟩=some (J I d.k):=HBj.out.cell 1;have hnk:¬ (y.t=d.t/\y.k=d.k):=fun e=>by
           have h9:=RU.2 ⟨y,List.mem_of_getElem? hy,e⟩;rw[HKN2.out]at h9;cases h9
          have HY:=Wz hy;have HM:=Wz hm;have hj1:(0:Int)<(j:Int):=by omega
          have hj2:decide ((0:Int)<(j:Int))=true:=decide_eq_true hj1;have hj3:0<j:=by omega
          have hj4:decide (0<j)=true:=decide_eq_true hj3;have e3:IntKind.i64.wrap ((j:Int)-1)=(m:Int):=by rw[aG _ (by omega)];omega
          have q0:(0:Int)<=(m:Int):=by omega
          have q1:(m:Int)<(l.length:Int):=by omega
          clear hy hgb hm hj0;by_cases h1:d.t<y.t
          ·have d1:decide (d.t<y.t)=true:=decide_eq_true h1;clear hnk;go_quiet (fail);go_wp2;go_meet;exact⟨true,rfl,(fun _=>⟨m,y,HM.out,HY.out,.inl h1⟩),(fun h=>by cases h),Af HEj.out _⟩
          have d1:decide (d.t<y.t)=false:=decide_eq_false h1;by_cases h2:y.t=d.t
          ·have d2:(y.t == d.t)=true:=by simpa using h2
           by_cases h3:d.k<y.k
           ·have d3:decide (d.k<y.k)=true:=decide_eq_true h3;have HL:=Wz (show ltC d y from .inr ⟨h2.symm,h3⟩);clear hnk h1 h2 h3;go_quiet (fail);go_wp2;go_meet;exact⟨true,rfl,(fun _=>⟨m,y,HM.out,HY.out,HL.out⟩),(fun h=>by cases h),Af HEj.out _⟩
           have d3:decide (d.k<y.k)=false:=decide_eq_false h3;have HL:=Wz (show ltC y d from .inr ⟨h2,by omega⟩);clear hnk h1 h2 h3;go_quiet (fail);go_wp2;go_meet
           case rel=>exact⟨false,rfl,(fun h=>by cases h),(fun _ m' y' h1 h2=>by
            have e:m'=m:=by have:=HM.out;omega
            subst e;rw[HY.out]at h2;have:=Option.some.inj h2;subst this;exact HL.out),Af HEj.out _⟩
          have d2:(y.t == d.t)=false:=by simpa using h2
          have HL:=Wz (show ltC y d from .inl (by omega));clear hnk h1 h2;go_quiet (fail);go_wp2;go_meet
          case rel=>exact⟨false,rfl,(fun h=>by cases h),(fun _ m' y' h1 h2=>by
           have e:m'=m:=by have:=HM.out;omega
           subst e;rw[HY.out]at h2;have:=Option.some.inj h2;subst this;exact HL.out),Af HEj.out _⟩
         case rest=>
          obtain⟨tb,rfl,ht1,ht2,hEc⟩:=hcut
          cases tb with
          | true=>
           obtain⟨m,y,hm,hy,hly⟩:=ht1 rfl;have HLY:=Wz (And.intro hm (And.intro hy hly));have HEc:=Wz hEc;have e3:IntKind.i64.wrap ((j:Int)-1)=(m:Int):=by rw[aG _ (by omega)];omega
           clear ht1 ht2 hm hy hly hEc;go_wp2;go_roundw
           case rel=>exact⟨m,by have:=HLY.out.1;omega,rfl,(fun x hx=>by
            obtain⟨h1,h2⟩:=List.getElem?_eq_some_iff.1 HLY.out.2.1;rw[List.drop_eq_getElem_cons h1]at hx;rcases List.mem_cons.1 hx with h|h
            ·rw[h,h2];exact HLY.out.2.2
            exact HGT.out x (by rw[HLY.out.1];exact h)),HEc.out⟩
           have:=HLY.out.1;simp[intOf];omega
          | false=>
           have hlt:=TJ hj HKz.out.lg.asc (ht2 rfl);have HIN:=Wz (HKz.out.lg.ins HDG.out.1 HSK.out.2 HDG.out.2.1 hlt HGT.out);have HEc:=Wz hEc;have HBc:=Wz (HBz.out.ext hEc);clear ht1 ht2 hlt hEc HBj;go_upto_region 32 with(fail)
           have hca:=HKz.out.chgs HEc.out;have hcp:l.length<=lc:=hca.cap;have hl16:l.length<=1000:=by omega
           have sl1:KX l.length lc j:=⟨hj,hcp⟩;obtain⟨ok1,X1,hX1,v1,hw1,ok2,X2,hX2,v2,hw2,ho2,hB2,⟨q,dd,hv2⟩,hB1⟩:=WG wc.drew l lA lc (hca.ext (AF wc).drew) j hj hcp hl16 d;subst hv2;have HO2:=Wz ho2;have HB2:=Wz (show aC wc.heap.size wc X2 from AA (AF wc).drew hB2);have HB1:=Wz (show aC wc.heap.size wc X1 from AA (AF wc).drew hB1);have HFX:=Wz (Up HBc.out);clear hca hcp ho2 hB2 hB1;obtain⟨d0,d1,d2,d3,d4,d5,d6,d7,d8,d9⟩:=d;dsimp only[AH.arr]at ok1 hX1 hw1 HFX;rw[PK]at ok1 hX1 hw1;have hsz:wc.drew.heap.size=wc.heap.size:=rfl;rw[hsz]at ok1 hX1 hw1;clear hsz;refine Dg (fun w'=>w'.cell? ⟨bx,0,none⟩=some (J I d0)/\w'.cell? ⟨bx,1,none⟩=some (J I d1)/\w'.cell? ⟨bx,2,none⟩=some (aF d2)/\w'.cell? ⟨bx,3,none⟩=some (J I d3)/\w'.cell? ⟨bx,4,none⟩=some (J I d4)/\w'.cell? ⟨bx,5,none⟩=some (J I d5)/\w'.cell? ⟨bx,6,none⟩=some (aF d6)/\w'.cell? ⟨bx,7,none⟩=some (J I d7)/\w'.cell? ⟨bx,8,none⟩=some (J I d8)/\w'.cell? ⟨bx,9,none⟩=some (J I d9)/\aC wc.heap.size wc w') (fun _=>True) [] (by kernel_rfl) ?_;refine Az 0 (v:=?_) rfl (by kernel_rfl) (by kernel_rfl) (by kernel_rfl) (by kernel_rfl) (fun _ _ _ h=>hQ _ _ _ _ _ h) (Or.inl ⟨by rfl,?_⟩) (HFX.out _ ((AF wc).drew)) (fun _=>trivial) ?_;rotate_left 1
           ·(rintro w' ⟨f0,f1,f2,f3,f4,f5,f6,f7,f8,f9,_⟩;go_simp;with_reducible rfl)
           refine Az 1 (v:=?_) rfl (by kernel_rfl) (by kernel_rfl) (by kernel_rfl) (by kernel_rfl) (fun _ _ _ h=>hQ _ _ _ _ _ h) (Or.inl ⟨by rfl,?_⟩) (HFX.out _ ((AF wc).drew)) (fun _=>trivial) ?_;rotate_left 1
           ·(rintro w' ⟨f0,f1,f2,f3,f4,f5,f6,f7,f8,f9,_⟩;go_simp;with_reducible rfl)
           refine Az 2 (v:=?_) rfl (by kernel_rfl) (by kernel_rfl) (by kernel_rfl) (by kernel_rfl) (fun _ _ _ h=>hQ _ _ _ _ _ h) (Or.inl ⟨by rfl,?_⟩) (HFX.out _ ((AF wc).drew)) (fun _=>trivial) ?_;rotate_left 1
           ·(rintro w' ⟨f0,f1,f2,f3,f4,f5,f6,f7,f8,f9,_⟩;go_simp;with_reducible rfl)
           refine Az 3 (v:=?_) rfl (by kernel_rfl) (by kernel_rfl) (by kernel_rfl) (by kernel_rfl) (fun _ _ _ h=>hQ _ _ _ _ _ h) (Or.inl ⟨by rfl,?_⟩) (HFX.out _ ((AF wc).drew)) (fun _=>trivial) ?_;rotate_left 1
           ·(rintro w' ⟨f0,f1,f2,f3,f4,f5,f6,f7,f8,f9,_⟩;go_simp;with_reducible rfl)
           refine Az 4 (v:=?_) rfl (by kernel_rfl) (by kernel_rfl) (by kernel_rfl) (by kernel_rfl) (fun _ _ _ h=>hQ _ _ _ _ _ h) (Or.inl ⟨by rfl,?_⟩) (HFX.out _ ((AF wc).drew)) (fun _=>trivial) ?_;rotate_left 1
           ·(rintro w' ⟨f0,f1,f2,f3,f4,f5,f6,f7,f8,f9,_⟩;go_simp;with_reducible rfl)
           refine Az 6 (v:=?_) rfl (by kernel_rfl) (by kernel_rfl) (by kernel_rfl) (by kernel_rfl) (fun _ _ _ h=>hQ _ _ _ _ _ h) (Or.inl ⟨by rfl,?_⟩) (HFX.out _ ((AF wc).drew)) (fun _=>trivial) ?_;rotate_left 1
           ·(rintro w' ⟨f0,f1,f2,f3,f4,f5,f6,f7,f8,f9,_⟩;go_simp;with_reducible rfl)
           refine Az 7 (v:=?_) rfl (by kernel_rfl) (by kernel_rfl) (by kernel_rfl) (by kernel_rfl) (fun _ _ _ h=>hQ _ _ _ _ _ h) (Or.inl ⟨by rfl,?_⟩) (HFX.out _ ((AF wc).drew)) (fun _=>trivial) ?_;rotate_left 1
           ·(rintro w' ⟨f0,f1,f2,f3,f4,f5,f6,f7,f8,f9,_⟩;go_simp;with_reducible rfl)
           refine Az 8 (v:=?_) rfl (by kernel_rfl) (by kernel_rfl) (by kernel_rfl) (by kernel_rfl) (fun _ _ _ h=>hQ _ _ _ _ _ h) (Or.inl ⟨by rfl,?_⟩) (HFX.out _ ((AF wc).drew)) (fun _=>trivial) ?_;rotate_left 1
           ·(rintro w' ⟨f0,f1,f2,f3,f4,f5,f6,f7,f8,f9,_⟩;go_simp;with_reducible rfl)
           refine B9 [5] (by kernel_rfl) (by simp) ?_;simp only[List.forall_mem_cons,List.not_mem_nil,false_implies,implies_true,and_true];refine AO rfl (by rfl) (fun K hK=>?_);have HKK:=Wz hK;clear hK;go_simp;refine HKK.out _ _ (And.intro (HFX.out _ ((Below.drew (AC wc _)))) ?_);clear HKK K;refine B9 [9] (by kernel_rfl) (by simp) ?_;simp only[List.forall_mem_cons,List.not_mem_nil,false_implies,implies_true,and_true];refine AO rfl (by rfl) (fun K hK=>?_);have HKK:=Wz hK;clear hK;go_simp;refine HKK.out _ _ (And.intro (HFX.out _ (HB1.out)) ?_);clear HKK K;refine B9 [10] (by kernel_rfl) (by simp) ?_;simp only[List.forall_mem_cons,List.not_mem_nil,false_implies,implies_true,and_true];refine AO rfl (by rfl) (fun K hK=>?_);have HKK:=Wz hK;clear hK;go_simp;refine HKK.out _ _ (And.intro (HFX.out _ (HB2.out)) ?_);clear HKK K;refine Az 11 (v:=?_) rfl (by kernel_rfl) (by kernel_rfl) (by kernel_rfl) (by kernel_rfl) (fun _ _ _ h=>hQ _ _ _ _ _ h) (Or.inl ⟨by rfl,?_⟩) (HFX.out _ (HB2.out)) (fun _=>trivial) ?_;rotate_left 1
           ·(rintro w' ⟨f0,f1,f2,f3,f4,f5,f6,f7,f8,f9,_⟩;go_simp;with_reducible rfl)
           refine GE (by kernel_rfl) ?_ _;go_wp2;exact hend _ _ _ (by rw[Gd _ _ hj];omega) ⟨AA (AA HKz.out.ext HEc.out) HB2.out,by rw[Gd _ _ hj];exact K8 HO2.out (AA HKz.out.ext HEc.out).size,fun h=>by rw[Gd _ _ hj]at h;omega,HIN.out⟩ _ _ _ _ _ _ _ _ _ _ _ _ _ _ _ _ _ _ _ _ _ _ _ _ _ _ _ _ _ _ _ _ _ _ _ _ _ _ _ _ _ _ _ _ _ _ _ _ _ _ _ _ _ _ _ _ _ _ _ _ _ _ _ _ _ _ _ _ _ _ _ _ _ _ _ _ _ _ _ _ _ _ _ _ _ _ _ _ _ _ _ _ _ _ _ _ _ _ _ _ _ _ _ _ _ _ _ _ _ _ _ _ _ _ _ _ _ _ _ _ _ _ _ _ _ _ _ _ _ _ _ _ _ _ _ _ _ _ _ _ _ _ _ _ _ _ _ _ _ _ _ _ _ _ _ _ _ _ _ _ _ _ _ _ _ _ _ _ _ _ _ _ _ _ _ _ _ _ _
end
section
open Go.RowKit Go.Shelf
attribute [local go_sem ↓] AQ AU Go.wp_at_zero Go.wp_at_succ
set_option maxHeartbeats 8000000 in
theorem WK(T:List (Nat->Int))(hT16:T.length<=16)(v:aE)(w:aA)(hv:Fk w v T)(hT:Nf T):aJ aH 25 #[v] w fun e w'=>
  ∃ u R,e=aL u/\Bt w' u 1 (trs R)/\R.length<=T.length/\FA (trs R)/\(∀ x ∈ R,∀ c ∈ x.1,Dw c)/\aC w.heap.size w w':=by
 have HSX:=Wz hv;obtain⟨A,c,rfl,hcell⟩:=hv;have HC:=Wz hcell;have HT:=Wz hT;clear hcell hT;go_enter Tryz.func25,Tryz.ntmps25;go_wp2_with fail
 refine(Sz w).mono ?_;rintro e W1 ⟨rfl,hs1,hb1⟩;obtain⟨gs,hgs⟩:∃ gs,gs=w.heap.size:=⟨_,rfl⟩;rw[<- hgs]at hs1;rw[<- hgs];have HGS:=Wz (Nat.le_of_eq hgs.symm);have HI1:=Wz (LgI.start (B:=w.heap.size) hs1);have HE1:=Wz hb1;clear hs1 hb1 hgs;go_wp2;go_loopw [3,5,6,7,8,9,10,11,12,13,14,15,16,17] (fun ov iv _ _ _ _ _ _ _ _ _ _ _ _ W=>∃(i:Nat) (R:List (List AH × Nat × Nat)) (rows:List AD),i<=T.length/\R.length<=i/\iv=J I (i:Int)/\(R.length=0->ov=aB none 0 0)/\LgI w.heap.size gs W ov R rows/\aC w.heap.size w W) (fun _ iv _ _ _ _ _ _ _ _ _ _ _ _ _=>T.length-(intOf iv).toNat)
 case atStart=>exact⟨0,[],[],Nat.zero_le _,Nat.le_refl _,rfl,fun _=>rfl,HI1.out,HE1.out⟩
 case round =>
  obtain⟨i,R,rows,hi,hRi,rfl,hnil,hI,hE⟩:=hrel;have HNIL:=Wz hnil;have HI:=Wz hI;have HE:=Wz hE;obtain⟨oA,oc,hov⟩:=AI hI.own;obtain⟨n0,hn0⟩:∃ n,n=R.length:=⟨_,rfl⟩;have HN0:=Wz hn0;rw[<- hn0]at hov hRi;subst hov;clear hnil hI hE HI1 HE1 hn0;have e9:IntKind.i64.wrap ((i:Int)+1)=(i:Int)+1:=aG _ (by omega);by_cases hlt:i<T.length
  ·obtain⟨x,hx⟩:∃ x,T[i]? = some x:=⟨_,aN hlt⟩;obtain⟨b,off,rfl,hcell⟩:=HC.out (by omega);have HX:=Wz (And.intro (HT.out x (List.mem_of_getElem? hx)) (hcell i x hx));have hq0:(0:Int)<=(i:Int):=by omega
   have hq1:(i:Int)<(T.length:Int):=by omega
   obtain⟨Y,hY⟩:∃ Y,Y=wr:=⟨_,rfl⟩;rw[<- hY]at HI HE;obtain⟨rs,hrs⟩:∃ rs,rs=stF (trs R):=⟨_,rfl⟩;have HRS:=Wz hrs;have HK0:=Wz (show LgK Y wr rs (aB none 0 0) []from⟨by rw[hY];exact AF _,World.ownsRow_nil _ _ _ _,fun _=>rfl,LgL.nil _⟩);clear hcell hx hY hrs;go_wp2;go_loopw [6,7,8,9,10,11,12,13,14,15] (fun lv kv _ _ _ _ _ _ _ _ W=>∃(k:Nat) (l:List AH),k<=3/\l.length<=k/\kv=J I (k:Int)/\LgK Y W rs lv l) (fun _ kv _ _ _ _ _ _ _ _ _=>3-(intOf kv).toNat)
   case atStart=>exact⟨0,[],by omega,by simp,rfl,HK0.out⟩
   case round=>
    obtain⟨k,l,hk3,hlk,rfl,hK⟩:=hrel;have HK:=Wz hK;obtain⟨lA,lc,hlv⟩:=AI hK.own;subst hlv;clear hK HK0;have e2:IntKind.i64.wrap ((k:Int)+1)=(k:Int)+1:=aG _ (by omega);by_cases hkl:k<3
    ·go_upto_block 3 with(fail)
     refine TN ?hq HX.out hlt HE.out HI.out HN0.out HRS.out HK.out hkl hlk ?_
     case hq=>
      intro c a d v w h;dsimp (config:={ zetaDelta:=true }) only at h ⊢
      cases d with
      | none=>exact h
      | some d=>exact h
     intro l2 lv2 W5 hl2 hK2 u8 u9 u10 u11 u12 u13 u14 u15 u29 u30 u31 u32 u33 u34 u35 u36 u37 u38 u39 u40 u41 u42 u43 u44 u45 u46 u47 u48 u49 u50 u51 u52 u53 u54 u55 u56 u57 u58 u59 u60 u61 u62 u63 u64 u65 u66 u67 u68 u69 u70 u71 u72 u73 u74 u75 u76 u77 u78 u79 u80 u81 u82 u83 u84 u85 u86 u87 u88 u89 u90 u91 u92 u93 u94 u95 u96 u97 u98 u99 u100 u101 u102 u103 u104 u105 u106 u107 u108 u109 u110 u111 u112 u113 u114 u115 u116 u117 u118 u119 u120 u121 u122 u123 u124 u125 u126 u127 u128 u129 u130 u131 u132 u133 u134 u135 u136 u137 u138 u139 u140 u141 u142 u143 u144 u145 u146 u147 u148 u149 u150 u151 u152 u153 u154 u155 u156 u157 u158 u159 u160 u161 u162 u163 u164 u165 u166 u167 u168 u169 u170 u171 u172 u173 u174 u175 u176 u177 u178 u179 u180 u181 u182 u183 u184 u185 u186 u187 u188 u189 u190 u191 u192 u193 u194 u195 u196 u197 u198 u199;have HK2:=Wz hK2;obtain⟨A2,d2,hlv2⟩:=AI hK2.own;subst hlv2;clear hK2 HK HX;go_wp2;go_roundw
     case rel=>exact⟨k+1,l2,by omega,hl2,by go_num,HK2.out⟩
     simp[intOf];omega
    have HIK:=Wz (HI.out.ext HK.out.ext);have HSTP:=Wz (show DF wr gs rows (n0:Int)by rw[HN0.out];exact HIK.out.st);have HER:=Wz (AA HE.out HK.out.ext);have hn16:n0<=16:=by omega
    have hl3:l.length<=3:=by omega
    have ep:IntKind.i64.wrap ((n0:Int)+1)=(n0:Int)+1:=aG _ (by omega);obtain⟨sv,hsb,-⟩:=id HSTP.out;have s1:=hsb.cell 1;have hgl:=hsb.lt;clear hsb e2;obtain⟨nl,hnl⟩:∃ nl,nl=l.length:=⟨_,rfl⟩;have HNL:=Wz hnl;rw[<- hnl]at hl3 ⊢;clear hnl;have HX0:=Wz (Blk.new wr 75 #[J I ((n0:Int)+1),aB lA nl lc]);have HEA:=Wz (AC wr (aI #[J I ((n0:Int)+1),aB lA nl lc] 75));by_cases hl0:nl=0
    ·subst hl0;go_wp2_with fail
     refine(PE (n0:Int) (by omega) rows gs lA lc _ (HSTP.out.ext HEA.out)).mono ?_;rintro e W3 ⟨rfl,hb3⟩;have HE3:=Wz (AA HEA.out hb3);clear hb3;go_wp2;go_roundw
     case rel=>exact⟨i+1,R,rows,by omega,by have:=HN0.out;omega,by go_num,HNIL.out,HIK.out.ext HE3.out,AA HER.out HE3.out⟩
     simp[intOf];omega
    have HLG:=Wz HK.out.lg;have HAP:=Wz (LgI.apply HIK.out HLG.out HK.out.own HK.out.nil (by have:=HNL.out;omega) (by have:=HNL.out;omega) HRS.out (by have:=HN0.out;omega) HI.out.st.lt);rw[<- HN0.out,<- HNL.out]at HAP;go_wp2_with fail
    refine(HAP.out _ HEA.out).mono ?_;rintro e W3 ⟨rfl,hS3,hx3⟩;have HX3:=Wz (HX0.out.ext2g hx3 hgl);have HS3:=Wz hS3;have HE3:=Wz (show aC w.heap.size w W3 from Ah.below (AA HER.out HEA.out) HGS.out HGS.out hx3);have hq3:=Wz ((Ah.of_ext (a:=gs) (b:=gs) HEA.out).trans hx3);have hlx:=HX3.out.lt;have HX9:=Wz hx3;have x0:=HX3.out.cell 0;have x1:=HX3.out.cell 1;clear hS3 hx3;obtain⟨q,cq,hvq,-,hlc,hgb⟩:=L6 HK.out.own (by have:=HNL.out;omega);injection hvq with hvq hnq hcq
    subst hvq hcq;clear hnq;have HQ3:=Wz (show BZ W3 q l from by
     obtain⟨sv',hsb',-⟩:=HSTP.out;exact(hgb.ext HEA.out).ext2T (Ah.trans (Ah.of_ext (AF _)) HX9.out) (hsb'.ext HEA.out) (by decide))
    have HLC:=Wz hlc;obtain⟨happ,W4,hW4,v4,hv4,ho4,hg4,v4A,v4c,hv4s⟩:=WI W3 w.heap.size HE3.out.size (aB oA n0 oc) R (LG HIK.out.own HSTP.out HEA.out HX9.out) (by have:=HN0.out;omega) ((n0:Int)+1) (some ⟨q,0,none⟩) nl lc;have HPU:=Wz (show LgI w.heap.size gs W4 v4 (R++[(l,q,lc)]) (FT rows l)from LgI.push HIK.out HNIL.out (by have h9:=HS3.out;rw[HN0.out]at h9;exact h9) hq3.out (AC W3 _) (HQ3.out.ext (AC W3 _)) HLC.out (by have h9:=HLG.out;rw[HRS.out]at h9;exact h9) (by have:=HNL.out;omega) (by have:=HNL.out;omega) (by have h9:=ho4;rw[HNL.out,HN0.out]at h9;exact h9) hg4);have HE4:=Wz (show aC w.heap.size w W4 from(AB HE3.out (aI #[J I ((n0:Int)+1),aB (some ⟨q,0,none⟩) nl lc] 75)).grown hg4 (AB HE3.out _).size (QA (LG HIK.out.own HSTP.out HEA.out HX9.out)));clear ho4 hg4 hlc hgb;subst hv4s;go_wp2;go_roundw
    case rel=>exact⟨i+1,R++[(l,q,lc)],FT rows l,by omega,by rw[List.length_append,List.length_singleton];have:=HN0.out;omega,by go_num,(fun h=>by rw[List.length_append,List.length_singleton]at h;omega),HPU.out,HE4.out⟩
    simp[intOf];omega
  go_wp2;go_ret;exact⟨_,R,rfl,HI.out.recs,by have:=HN0.out;omega,HI.out.run,HI.out.gen,HE.out⟩
end
end Go.Proofs.YtimoapjhepmehaaGreatDoor
