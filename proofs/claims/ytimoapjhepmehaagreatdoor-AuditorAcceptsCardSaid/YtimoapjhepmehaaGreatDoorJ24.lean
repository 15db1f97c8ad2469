/- Part 24: contracts that the last part uses. -/
import Derived.Test.YtimoapjhepmehaaGreatDoorJ20
import Derived.Test.YtimoapjhepmehaaGreatDoorJ22
import Derived.StillTailTactics
import Derived.Deep.Cut
import Derived.Deep.CutRange
set_option linter.unusedSimpArgs false
set_option linter.unusedVariables false
set_option maxHeartbeats 4000000
set_option maxRecDepth 100000
namespace Go.Proofs.YtimoapjhepmehaaGreatDoor
open Go.IntKind renaming i64->I
open Go.Value renaming int->J,slice->aR,bool->aV,agg->aY,pointer->bD
open Go renaming Value->aP,World->aQ,Calls->bA
open Go.Obj renaming cells->aS
open Go.RowKit renaming Below->aU
open Tryz renaming prog->aW
open List renaming getElem?_eq_getElem->aX
open Go.Ending renaming returned->aZ
open Go.World renaming setCell->bB
open Go.IntWalk renaming i64_in->bC
section
open Go.RowKit Go.Shelf
attribute [local go_sem ↓] Dd FY Go.wp_at_zero Go.wp_at_succ
def Bp(kd t j lo hi b o:Int)(c:AH)(pb pa:aP)(old now:Int):Array aP:=#[J I kd,J I t,J I j,J I lo,J I hi,J I b,J I o,J I c.t,J I c.k,aV c.had,J I c.o1,J I c.o2,J I c.o3,aV c.has,J I c.n1,J I c.n2,J I c.n3,pb,pa,J I old,J I now]
theorem Nm{kd t j lo hi b o:Int}{c:AH}{pb pa:aP}{old now:Int}:(Bp kd t j lo hi b o c pb pa old now).size=21:=rfl
theorem Dk:(Tryz.prog.info? 297).map (·.size)=some 21:=by kernel_rfl
theorem Nn{kd t j lo hi b o:Int}{c:AH}{pb pa pb':aP}{old now old':Int}:((Bp kd t j lo hi b o c pb pa old now).setIfInBounds 17 pb').setIfInBounds 19 (J I old')=Bp kd t j lo hi b o c pb' pa old' now:=rfl
theorem No{kd t j lo hi b o:Int}{c:AH}{pb pa pa':aP}{old now now':Int}:((Bp kd t j lo hi b o c pb pa old now).setIfInBounds 18 pa').setIfInBounds 20 (J I now')=Bp kd t j lo hi b o c pb pa' old now':=rfl
theorem ML(kd t j lo hi b o:Int)(c:AH):Tryz.prog.built 297 [(0,aY #[J I kd,J I t,J I j,J I lo,J I hi,J I b,J I o]),(1,aY #[J I c.t,J I c.k,aV c.had,J I c.o1,J I c.o2,J I c.o3,aV c.has,J I c.n1,J I c.n2,J I c.n3])]=some (Bp kd t j lo hi b o c (.pointer none) (.pointer none) 0 0):=by kernel_rfl
theorem Dm.far{B b i:Nat}{W:aQ}{v u:aP}{o:Option AD}(h:Dm B W v o)(hb:b<B):Dm B (W.setCell ⟨b,i,none⟩ u) v o:=by
 cases o with
 | none=>exact h
 | some r=>obtain⟨g,h1,h2,h3⟩:=h;exact⟨g,h1,h2,h3.far (p:=⟨b,i,none⟩) (by dsimp only;omega) u⟩
theorem Dm.grown{B g:Nat}{w W:aQ}{v:aP}{o:Option AD}(h:Dm B w v o)(k:w.grownBy W (some g))(hg:g<B):Dm B W v o:=by
 cases o with
 | none=>exact h
 | some r=>obtain⟨a,h1,h2,h3⟩:=h;exact⟨a,h1,h2,h3.grown k (by intro e;injection e with e;omega)⟩
theorem Hh(kd t lo hi o:Int)(j b:Nat)(hj:j<4)(hb:b<4)(c:AH)(w:aQ) :
  bA aW 193 #[aY #[J I kd,J I t,J I (j:Int),J I lo,J I hi,J I (b:Int),J I o],.agg c.arr] w fun e w'=>∃ pb pa,e=aZ (.agg (Bp kd t j lo hi b o c pb pa (DL b (BX t j lo hi (Dx c))) (DL b (BX t j lo hi (DK c))))) /\
   Dm w.heap.size w' pb (BX t j lo hi (Dx c))/\Dm w.heap.size w' pa (BX t j lo hi (DK c))/\aU w.heap.size w w':=by
 have hmf:∀(fn:Fn) (first cap:Array aP) (w:aQ),(Instr.makeFunc fn first cap).run aW w=.ok (.func fn first cap) w:=fun _ _ _ _=>rfl;have HBF:=Wz (fun W:aQ=>PG c W);have HAF:=Wz (fun W:aQ=>LD c W);have HSB:=Wz (fun(bq:Nat)(W:aQ)(h:_)=>Im kd t lo hi o j b hj hb (Dx c) bq W h);have HSA:=Wz (fun(bq:Nat)(W:aQ)(h:_)=>Im kd t lo hi o j b hj hb (DK c) bq W h);have i1:(Dx c).isSome=c.had:=by unfold Dx;cases c.had <;> rfl
 have i2:(DK c).isSome=c.has:=by unfold DK;cases c.has <;> rfl
 rw[i1]at HSB;rw[i2]at HSA;generalize BX t j lo hi (Dx c)=sb at *;generalize BX t j lo hi (DK c)=sa at *;generalize DL b sb=mb at *;generalize DL b sa=ma at *;generalize oR (Dx c)=rb at *;generalize oR (DK c)=ra at *;have HST1:=Wz (fun(pb pa pb':aP)(old now old':Int)=>@Nn kd t j lo hi b o c pb pa pb' old now old');have HST2:=Wz (fun(pb pa pa':aP)(old now now':Int)=>@No kd t j lo hi b o c pb pa pa' old now now');have HSZ:=Wz (fun(pb pa:aP)(old now:Int)=>@Nm kd t j lo hi b o c pb pa old now);have HGE:=Wz (fun(pb pa:aP)(old now:Int)=>show(Bp kd t j lo hi b o c pb pa old now)[17]? = some pb/\(Bp kd t j lo hi b o c pb pa old now)[18]? = some pa/\(Bp kd t j lo hi b o c pb pa old now)[19]? = some (J I old)/\(Bp kd t j lo hi b o c pb pa old now)[20]? = some (J I now)from⟨rfl,rfl,rfl,rfl⟩);have HON:=Wz (fun(pb pa:Option Addr)(old now:Int)=>show(Bp kd t j lo hi b o c (.pointer pb) (.pointer pa) old now).all (·.oneCell')=true by simp[Bp,Value.oneCell']);obtain⟨E,hE⟩:∃ E,E=Bp kd t j lo hi b o c:=⟨_,rfl⟩;obtain⟨d1,e1⟩:=bd_of w (P:=aW) (t:=297) (ps:=#[(0,aY #[J I kd,J I t,J I (j:Int),J I lo,J I hi,J I (b:Int),J I o]),(1,aY #[J I c.t,J I c.k,aV c.had,J I c.o1,J I c.o2,J I c.o3,aV c.has,J I c.n1,J I c.n2,J I c.n3])]) (ML kd t j lo hi b o c);rw[<- hE]at e1 HST1 HST2 HSZ HGE HON ⊢;clear hE;obtain⟨c0,c1,had,o1,o2,o3,has,n1,n2,n3⟩:=c;obtain⟨rb0,rb1,rb2,rb3,rb4⟩:=rb;obtain⟨ra0,ra1,ra2,ra3,ra4⟩:=ra;dsimp only[AH.arr,AD.val,AD.arr]at *;have hes:=HSZ.out (.pointer none) (.pointer none) 0 0;have H1:=Wz (HON.out none none 0 0);have HI:=Wz (Dk.trans (by rw[<- hes]));obtain⟨E0,hE0⟩:∃ E0,E0=E (.pointer none) (.pointer none) 0 0:=⟨_,rfl⟩;rw[<- hE0]at e1 hes H1 HI;have HE0:=Wz hE0;have hwb:IntKind.i64.wrap 0=0:=by decide
 obtain⟨Z,hZ⟩:∃ Z:Array aP,Z=#[J I 0,J I 0,J I 0,J I 0,J I 0,J I 0,J I 0,J I 0,J I 0,aV false,J I 0,J I 0,J I 0,aV false,J I 0,J I 0,J I 0,.pointer none,.pointer none,J I 0,J I 0]:=⟨_,rfl⟩;have HZ:=Wz hZ;have HZZ:=Wz (Blk.new' (((w.alloc (aS #[J I kd,J I t,J I (j:Int),J I lo,J I hi,J I (b:Int),J I o] 33)).alloc (aS #[J I c0,J I c1,aV had,J I o1,J I o2,J I o3,aV has,J I n1,J I n2,J I n3] 72)).alloc (.cells Z 297)) 297 Z (b:=w.heap.size+1+1+1) (by simp));have HQ:=Wz ((((Blk.new w 33 #[J I kd,J I t,J I (j:Int),J I lo,J I hi,J I (b:Int),J I o]).alloc (aS #[J I c0,J I c1,aV had,J I o1,J I o2,J I o3,aV has,J I n1,J I n2,J I n3] 72)).alloc (.cells Z 297)).alloc (.cells Z 297));have HC:=Wz (((Blk.new' (w.alloc (aS #[J I kd,J I t,J I (j:Int),J I lo,J I hi,J I (b:Int),J I o] 33)) 72 #[J I c0,J I c1,aV had,J I o1,J I o2,J I o3,aV has,J I n1,J I n2,J I n3] (b:=w.heap.size+1) (by simp)).alloc (.cells Z 297)).alloc (.cells Z 297));have HR:=Wz ((Blk.new' ((w.alloc (aS #[J I kd,J I t,J I (j:Int),J I lo,J I hi,J I (b:Int),J I o] 33)).alloc (aS #[J I c0,J I c1,aV had,J I o1,J I o2,J I o3,aV has,J I n1,J I n2,J I n3] 72)) 297 Z (b:=w.heap.size+1+1) (by simp)).alloc (.cells Z 297));have HEE:=Wz (AB (AB (AB (AC w (aS #[J I kd,J I t,J I (j:Int),J I lo,J I hi,J I (b:Int),J I o] 33)) (aS #[J I c0,J I c1,aV had,J I o1,J I o2,J I o3,aV has,J I n1,J I n2,J I n3] 72)) (.cells Z 297)) (.cells Z 297));rw[hZ]at HZZ HQ HC HR HEE;clear i1 i2 hE0 hZ;go_enter Tryz.func193,Tryz.ntmps193;go_wp2_with (refine AX rfl 297 (.tmp 5) (.tmp 9) rfl (w.heap.size+1+1+1) E0 rfl rfl 297 #[J I 0,J I 0,J I 0,J I 0,J I 0,J I 0,J I 0,J I 0,J I 0,aV false,J I 0,J I 0,J I 0,aV false,J I 0,J I 0,J I 0,.pointer none,.pointer none,J I 0,J I 0] HZZ.out HI.out hes.symm H1.out ?_;intro W2 hB2 hg2;have HQ2:=Wz (HQ.out.grown hg2 (by simp <;> omega));have hC2:=HC.out.grown hg2 (by simp <;> omega);have HR2:=Wz (HR.out.grown hg2 (by simp <;> omega));have HE2:=Wz (HEE.out.grown hg2 HEE.out.size (fun k e=>by injection e with e;omega));have HX2:=Wz hB2;have HC2:=Wz hC2;have z0:=hC2.cell 0;have z1:=hC2.cell 1;have z2:=hC2.cell 2;have z3:=hC2.cell 3;have z4:=hC2.cell 4;have z5:=hC2.cell 5;have z6:=hC2.cell 6;have z7:=hC2.cell 7;have z8:=hC2.cell 8;have z9:=hC2.cell 9;clear hC2 hB2 hg2)
 clear HZZ HQ HC HR HEE;refine(HBF.out _).mono ?_;rintro e W3 ⟨rfl,hb3⟩;have HQ3:=Wz (HQ2.out.ext hb3);have HC3:=Wz (HC2.out.ext hb3);have HR3:=Wz (HR2.out.ext hb3);have HX3:=Wz (HX2.out.ext hb3);have HE3:=Wz (AA HE2.out hb3);clear hb3 z0 z1 z2 z3 z4 z5 z6 z7 z8 z9 HQ2 HC2 HR2 HX2 HE2;go_wp2_with fail
 refine(HSB.out w.heap.size _ HQ3.out).mono ?_;rintro e W4 ⟨pb,rfl,hpb,hb4⟩;obtain⟨pbp,rfl,-⟩:=hpb.shape;have HP4:=Wz (hpb.mono (show w.heap.size+1+1+1+1<=W3.heap.size from HX3.out.lt));have HQ4:=Wz (HQ3.out.ext hb4);have HC4:=Wz (HC3.out.ext hb4);have HR4:=Wz (HR3.out.ext hb4);have HX4:=Wz (HX3.out.ext hb4);have HE4:=Wz (AA HE3.out hb4);have x17:W4.cell? ⟨w.heap.size+1+1+1,17,none⟩=some (.pointer none):=(HX4.out.cell 17).trans (by rw[HE0.out];exact(HGE.out _ _ _ _).1);have x19:W4.cell? ⟨w.heap.size+1+1+1,19,none⟩=some (J I 0):=(HX4.out.cell 19).trans (by rw[HE0.out];exact(HGE.out _ _ _ _).2.2.1);have f17:=HX4.out.frozen 17;have f19:=HX4.out.frozen 19;have z0:=HC4.out.cell 0;have z1:=HC4.out.cell 1;have z2:=HC4.out.cell 2;have z3:=HC4.out.cell 3;have z4:=HC4.out.cell 4;have z5:=HC4.out.cell 5;have z6:=HC4.out.cell 6;have z7:=HC4.out.cell 7;have z8:=HC4.out.cell 8;have z9:=HC4.out.cell 9;clear hb4 hpb HQ3 HC3 HR3 HX3 HE3;go_wp2_with fail
 generalize hX:bB (bB W4 ⟨w.heap.size+1+1+1,17,none⟩ (.pointer pbp)) ⟨w.heap.size+1+1+1,19,none⟩ (J I mb)=X;have HP5:=Wz (show Dm (w.heap.size+1+1+1+1) X (.pointer pbp) sb by rw[<- hX];exact(HP4.out.far (by omega)).far (by omega));have HQ5:=Wz (show Blk X w.heap.size 33 #[J I kd,J I t,J I (j:Int),J I lo,J I hi,J I (b:Int),J I o]by rw[<- hX];exact(HQ4.out.far (p:=⟨w.heap.size+1+1+1,17,none⟩) (by simp <;> omega) _).far (p:=⟨w.heap.size+1+1+1,19,none⟩) (by simp <;> omega) _);have HR5:=Wz (show Blk X (w.heap.size+1+1) 297 #[J I 0,J I 0,J I 0,J I 0,J I 0,J I 0,J I 0,J I 0,J I 0,aV false,J I 0,J I 0,J I 0,aV false,J I 0,J I 0,J I 0,.pointer none,.pointer none,J I 0,J I 0]by rw[<- hX];exact(HR4.out.far (p:=⟨w.heap.size+1+1+1,17,none⟩) (by simp <;> omega) _).far (p:=⟨w.heap.size+1+1+1,19,none⟩) (by simp <;> omega) _);have HE5:=Wz (show aU w.heap.size w X by rw[<- hX];exact AE (AE HE4.out (by simp;omega) _) (by simp;omega) _);have HX5:=Wz (show Blk X (w.heap.size+1+1+1) 297 (E (.pointer pbp) (.pointer none) mb 0)by
  rw[<- hX,<- HST1.out (.pointer none) (.pointer none) (.pointer pbp) 0 0 mb,<- HE0.out];exact(HX4.out.set_ 17 _).set_ 19 _)
 clear hX x17 x19 f17 f19 z0 z1 z2 z3 z4 z5 z6 z7 z8 z9 HQ4 HC4 HR4 HX4 HE4 HP4;refine(HAF.out _).mono ?_;rintro e W6 ⟨rfl,hb6⟩;have HP6:=Wz (HP5.out.ext hb6);have HQ6:=Wz (HQ5.out.ext hb6);have HR6:=Wz (HR5.out.ext hb6);have HX6:=Wz (HX5.out.ext hb6);have HE6:=Wz (AA HE5.out hb6);clear hb6 HQ5 HR5 HX5 HE5 HP5;go_wp2_with fail
 refine(HSA.out w.heap.size _ HQ6.out).mono ?_;rintro e W7 ⟨pa,rfl,hpa,hb7⟩;obtain⟨pap,rfl,-⟩:=hpa.shape;have HA7:=Wz (hpa.mono (show w.heap.size+1+1+1+1<=W6.heap.size from HX6.out.lt));have HP7:=Wz (HP6.out.ext hb7);have HR7:=Wz (HR6.out.ext hb7);have HX7:=Wz (HX6.out.ext hb7);have HE7:=Wz (AA HE6.out hb7);have x18:W7.cell? ⟨w.heap.size+1+1+1,18,none⟩=some (.pointer none):=(HX7.out.cell 18).trans (HGE.out _ _ _ _).2.1;have x20:W7.cell? ⟨w.heap.size+1+1+1,20,none⟩=some (J I 0):=(HX7.out.cell 20).trans (HGE.out _ _ _ _).2.2.2;have f18:=HX7.out.frozen 18;have f20:=HX7.out.frozen 20;have HX8:=Wz (show Blk (bB (bB W7 ⟨w.heap.size+1+1+1,18,none⟩ (.pointer pap)) ⟨w.heap.size+1+1+1,20,none⟩ (J I ma)) (w.heap.size+1+1+1) 297 (E (.pointer pbp) (.pointer pap) mb ma)by
  rw[<- HST2.out (.pointer pbp) (.pointer none) (.pointer pap) mb 0 ma];exact(HX7.out.set_ 18 _).set_ 20 _)
 have HR8:=Wz ((HR7.out.far (p:=⟨w.heap.size+1+1+1,18,none⟩) (by simp <;> omega) (.pointer pap)).far (p:=⟨w.heap.size+1+1+1,20,none⟩) (by simp <;> omega) (J I ma));have HE8:=Wz (show aU w.heap.size w (bB (bB W7 ⟨w.heap.size+1+1+1,18,none⟩ (.pointer pap)) ⟨w.heap.size+1+1+1,20,none⟩ (J I ma))from AE (AE HE7.out (by simp;omega) _) (by simp;omega) _);have HA8:=Wz ((HA7.out.far (b:=w.heap.size+1+1+1) (i:=18) (u:=.pointer pap) (by omega)).far (b:=w.heap.size+1+1+1) (i:=20) (u:=J I ma) (by omega));have HP8:=Wz ((HP7.out.far (b:=w.heap.size+1+1+1) (i:=18) (u:=.pointer pap) (by omega)).far (b:=w.heap.size+1+1+1) (i:=20) (u:=J I ma) (by omega));have H18:=Wz (HON.out pbp pap mb ma);have HI8:=Wz (Dk.trans (by rw[<- HSZ.out (.pointer pbp) (.pointer pap) mb ma]));have hs8:=HSZ.out (.pointer pbp) (.pointer pap) mb ma;obtain⟨E8,hE8⟩:∃ E8,E8=E (.pointer pbp) (.pointer pap) mb ma:=⟨_,rfl⟩;rw[<- hE8]at HX8 H18 HI8 hs8;have HE8E:=Wz hE8;clear hb7 hpa HQ6 HR6 HX6 HE6 HP6 hE8;go_wp2_with (first
  |(refine wpList_load_row rfl 297 (.tmp 5) rfl (w.heap.size+1+1+1) rfl 297 E8 (0,0) _ HX8.out Tryz.underlying297 rfl HI8.out ?_)
  |(refine AX rfl 297 (.tmp 4) (.tmp 33) rfl (w.heap.size+1+1) E8 rfl rfl 297 #[J I 0,J I 0,J I 0,J I 0,J I 0,J I 0,J I 0,J I 0,J I 0,aV false,J I 0,J I 0,J I 0,aV false,J I 0,J I 0,J I 0,.pointer none,.pointer none,J I 0,J I 0] HR8.out HI8.out hs8.symm H18.out ?_;intro W9 hB9 hg9))
 refine bodyPost_ret (results_cell_row Tryz.results193 _ W9 (w.heap.size+1+1) 297 E8 (0,0) _ rfl hB9 Tryz.underlying297 rfl HI8.out) rfl ⟨.pointer pbp,.pointer pap,by rw[HE8E.out],?_,?_,?_⟩
 ·exact(HP8.out.grown hg9 (by omega)).mono (by omega)
 ·exact(HA8.out.grown hg9 (by omega)).mono (by omega)
 exact HE8.out.grown hg9 HE8.out.size (fun k e=>by injection e with e;omega)
end
section
open Go.RowKit Go.Shelf
attribute [local go_sem ↓] AQ AU Go.wp_at_zero Go.wp_at_succ
theorem Gf{P:Program}{w:aQ}(base:Nat)(t ty e:TypeId)(i:TypeInfo)(z:aP)(size bytes:Nat)(ht:P.underlying t=some (.slice e))(hi:P.info? e=some i)(hz:i.zero=some z)
  (hsize:i.size=size) (hby:i.bytes=bytes) (hzs:z.cells.size=size) (hsz:0<size) (v:aP) (n:Nat) (xs:List aP) (hown:w.ownsRow base e size v n xs)
  (a:Addr) (m c:Nat) (news:List aP) (hl:news.length=m*size) (hnews:∀ j u,news[j]? = some u->w.cell? (a.add j)=some u) (h1:∀ u ∈ news,u.oneCell'=true)
  (h63:n+m<=maxLen) (hbytes:(n+m)*bytes<=140737488355328) (hbase:base<=w.heap.size) :
  CU P w t ty v (aR (some a) m c)/\∃ W',appW P w t ty v (aR (some a) m c)=W'/\∃ v',CV P w t ty v (aR (some a) m c)=v'/\W'.ownsRow base e size v' (n+m) (xs++news)/\w.grownBy W' v.ownBlock/\(v'.ownBlock=v.ownBlock∨v'.ownBlock=some w.heap.size):=by
 obtain⟨v',w',hr,h2,h3,_,h5⟩:=Go.run_append_own_at (P:=P) w base t ty e i z size bytes ht hi hz hsize hby hzs hsz v n xs hown a m c news hl hnews h1 h63 hbytes hbase;refine⟨⟨v',w',hr⟩,w',?_,v',?_,h2,h3,h5⟩
 ·unfold appW;rw[hr]
 unfold CV;rw[hr]
theorem ES{W:aQ}{a b:Nat}{t u:TypeId}{xs ys:Array aP}(h:Blk W a t xs)(k:Blk W b u ys)(hne:t≠u):a≠b:=by
 rintro rfl;unfold Blk at h k;rw[h]at k;injection k with k
 injection k with _ k
 exact hne k
def rpC(ys:List (RPT × aP × aP × aP)):List aP:=ys.flatMap fun y=>(y.1.nums y.2.1 y.2.2.1 y.2.2.2).toList
theorem PN(ys:List (RPT × aP × aP × aP))(y:RPT × aP × aP × aP):rpC (ys++[y])=rpC ys++(y.1.nums y.2.1 y.2.2.1 y.2.2.2).toList:=by simp[rpC]
theorem PO(ys:List (RPT × aP × aP × aP)):(rpC ys).length=ys.length*9:=by
 induction ys with
 | nil=>rfl
 | cons y r ih=>simp[rpC,RPT.nums]at ih ⊢;omega
theorem TO:∀(ys:List (RPT × aP × aP × aP)) (i:Nat) (y:RPT × aP × aP × aP),ys[i]? = some y->∀ k,k<9->(rpC ys)[i*9+k]? = (y.1.nums y.2.1 y.2.2.1 y.2.2.2)[k]?
 | [],i,y,h,k,hk=>by simp at h
 | x::ys,0,y,h,k,hk=>by
  simp only[List.getElem?_cons_zero,Option.some.injEq]at h;subst h;simp only[rpC,List.flatMap_cons,Nat.zero_mul,Nat.zero_add];rw[List.getElem?_append_left (show k<(x.1.nums x.2.1 x.2.2.1 x.2.2.2).toList.length from hk)];simp
 | x::ys,i+1,y,h,k,hk=>by
  have h1:=TO ys i y (by simpa using h) k hk;simp only[rpC,List.flatMap_cons];rw[List.getElem?_append_right (by simp[RPT.nums];omega)];have e:(i+1)*9+k-(x.1.nums x.2.1 x.2.2.1 x.2.2.2).toList.length=i*9+k:=by simp[RPT.nums];omega
  rw[e];exact h1
def Cj(S:Nat->Prop)(W:aQ)(v:aP)(l:List RPT):Prop:=∃ A c,v=aR A l.length c/\(0<l.length->∃ g,A=some ⟨g,0,none⟩/\g<W.heap.size/\S g/\∀(i:Nat) (p:RPT),l[i]? = some p->∃ a b d,RPS S W p a b d/\∀ k,k<9->W.cell? ⟨g,i*9+k,none⟩=(p.nums a b d)[k]?)
theorem Cj.keep{S:Nat->Prop}{w W:aQ}{v:aP}{l:List RPT}(h:Cj S w v l)(hk:∀ b,S b->b<w.heap.size->W.heap[b]? = w.heap[b]?)(hs:w.heap.size<=W.heap.size):Cj S W v l:=by
 obtain⟨A,c,rfl,h⟩:=h;refine⟨A,c,rfl,fun h0=>?_⟩;obtain⟨g,h1,h2,h3,h4⟩:=h h0;refine⟨g,h1,Nat.lt_of_lt_of_le h2 hs,h3,fun i p hi=>?_⟩;obtain⟨a,b,d,h5,h6⟩:=h4 i p hi;exact⟨a,b,d,h5.keep hk hs,fun k hk9=>by rw[F3 (hk g h3 h2)];exact h6 k hk9⟩
theorem Cj.mono{S T:Nat->Prop}{w:aQ}{v:aP}{l:List RPT}(h:Cj S w v l)(hk:∀ b,S b->b<w.heap.size->T b):Cj T w v l:=by
 obtain⟨A,c,rfl,h⟩:=h;refine⟨A,c,rfl,fun h0=>?_⟩;obtain⟨g,h1,h2,h3,h4⟩:=h h0;refine⟨g,h1,h2,hk g h3 h2,fun i p hi=>?_⟩;obtain⟨a,b,d,h5,h6⟩:=h4 i p hi;exact⟨a,b,d,h5.mono hk,h6⟩
theorem Cj.ext{S:Nat->Prop}{w W:aQ}{v:aP}{l:List RPT}(h:Cj S w v l)(k:aU w.heap.size w W):Cj S W v l:=h.keep (fun b _ hl=>k.block b hl) k.size
structure Hi (B bo:Nat) (W:aQ) (ov:aP) (ys:List (RPT × aP × aP × aP)):Prop where
 box:Blk W bo 37 #[ov]
 own:W.ownsRow B 126 9 ov ys.length (rpC ys)
 each:∀ y ∈ ys,RPS (fun b=>B<=b/\ov.ownBlock≠some b) W y.1 y.2.1 y.2.2.1 y.2.2.2
theorem Hi.ext{B bo:Nat}{w W:aQ}{ov:aP}{ys:List (RPT × aP × aP × aP)}(h:Hi B bo w ov ys)(k:aU w.heap.size w W):Hi B bo W ov ys:=⟨h.box.ext k,AK h.own k,fun y hy=>(h.each y hy).ext k⟩
theorem Hi.list{B bo:Nat}{W:aQ}{ov:aP}{ys:List (RPT × aP × aP × aP)}(h:Hi B bo W ov ys):Cj (fun b=>B<=b) W ov (ys.map (·.1)):=by
 obtain⟨A,c,rfl⟩:=AI h.own;refine⟨A,c,by rw[List.length_map],fun h0=>?_⟩;rw[List.length_map]at h0;obtain⟨g,cap,hv,hB,hg,_,hc⟩:=Bj h.own h0;injection hv with hA _ _
 refine⟨g,hA,hg,hB,fun i p hi=>?_⟩;rw[List.getElem?_map,Option.map_eq_some_iff]at hi;obtain⟨y,hy,rfl⟩:=hi;refine⟨_,_,_,(h.each y (List.mem_of_getElem? hy)).mono (fun b hb _=>hb.1),fun k hk=>?_⟩;rw[<- TO ys i y hy k hk,hc (i*9+k) _ (aX (by rw[PO];have:=(List.getElem?_eq_some_iff.1 hy).1;omega))];exact(aX _).symm
theorem Np:(Tryz.prog.info? 126).map (fun i=>(i.zero,i.size,i.bytes))=some (some (aY #[J I 0,J I 0,J I 0,J I 0,J I 0,J I 0,aR none 0 0,aR none 0 0,aR none 0 0]),9,120):=by kernel_rfl
def OutX(bo:Nat)(ov:aP)(k:Nat):Prop:=k=bo∨ov.ownBlock=some k
theorem Hi.put{B bo:Nat}{X V U:aQ}{ov v4:aP}{ys:List (RPT × aP × aP × aP)}{y:RPT × aP × aP × aP}(h:Hi B bo X ov ys)(hbo:bo<B)(hy:RPS (fun b=>B<=b/\ov.ownBlock≠some b) X y.1 y.2.1 y.2.2.1 y.2.2.2)(hbx:aU X.heap.size X V)(hg:V.grownBy U ov.ownBlock)
  (ho:U.ownsRow B 126 9 v4 (ys.length+1) (rpC ys++(y.1.nums y.2.1 y.2.2.1 y.2.2.2).toList)) (hf:v4.ownBlock=ov.ownBlock∨v4.ownBlock=some V.heap.size):Hi B bo (U.setCell ⟨bo,0,none⟩ v4) v4 (ys++[y])/\AS (OutX bo ov) X (U.setCell ⟨bo,0,none⟩ v4):=by
 have hV:=h.ext hbx;have hne:ov.ownBlock≠some bo:=fun e=>by have:=(h.own.lt bo e).1;omega
 have hne4:v4.ownBlock≠some bo:=fun e=>by have:=(ho.lt bo e).1;omega
 have hheap:∀ b,b<V.heap.size->ov.ownBlock≠some b->b≠bo->(U.setCell ⟨bo,0,none⟩ v4).heap[b]? = V.heap[b]? := fun b hb h1 h2=>by
  rw[Below.heap_setCell _ _ _ _ h2];exact hg.block b hb (fun e=>h1 e.symm)
 have hsz:V.heap.size<=(U.setCell ⟨bo,0,none⟩ v4).heap.size:=by simpa[bB]using hg.size
 refine⟨⟨?_,?_,fun z hz=>?_⟩,?_⟩
 ·have h9:=(hV.box.grown hg (by intro e;exact hne e.symm)).set_ 0 v4;simpa using h9
 ·rw[List.length_append,PN];exact Cf ho hbo (fun k hk=>Below.heap_setCell _ _ _ _ hk) (by simp[bB]) rfl rfl rfl
 ·have hz2:RPS (fun b=>B<=b/\ov.ownBlock≠some b) V z.1 z.2.1 z.2.2.1 z.2.2.2:=by
   rcases List.mem_append.1 hz with hz|hz
   ·exact hV.each z hz
   simp at hz;subst hz;exact hy.ext hbx
  refine((hz2.mono (T:=fun b=>(B<=b/\ov.ownBlock≠some b)/\b<V.heap.size) (fun b hb hl=>⟨hb,hl⟩)).keep (fun b hb hl=>hheap b hl hb.1.2 (by omega)) hsz).mono (fun b hb _=>⟨hb.1.1,?_⟩);rcases hf with e|e
  ·rw[e];exact hb.1.2
  rw[e];intro e2;have:=Option.some.inj e2;omega
 refine⟨hg.os.trans hbx.os,hg.tape.trans hbx.tape,hg.output.trans hbx.output,Nat.le_trans hbx.size hsz,fun k hk hn=>?_⟩;rw[hheap k (Nat.lt_of_lt_of_le hk hbx.size) (fun e=>hn (.inr e)) (fun e=>hn (.inl e))];exact hbx.block k hk
theorem QH(rs:List AD)(hrs:∀ r ∈ rs,r.ok)(hsz:rs.length<=60)(hap:A0 rs)(gs gm:Nat)(pos t lo hi:Int)(j:Nat)(ht:0<=t/\t<=3)(hj:j<4)(hlh:lo<=hi)(B bs bo:Nat)(ov:aP)(ys:List (RPT × aP × aP × aP))(hn:ys.length<=1000)(w:aQ)
  (hS:BA w gs gm pos rs) (hR:AJ w) (hbs:w.cell? ⟨bs,0,none⟩=some (bD (some ⟨gs,0,none⟩))) (hO:Hi B bo w ov ys) (hbo:bo<B) (hB:B<=w.heap.size) :
  bA aW 48 #[aY #[J I t,J I (j:Int),J I lo,J I hi],bD (some ⟨bs,0,none⟩),bD (some ⟨bo,0,none⟩)] w
   fun e w'=>e=aZ (.tuple #[])/\∃ ov2 a b c,Hi B bo w' ov2 (ys++[(Ag rs t j lo hi,a,b,c)])/\AS (OutX bo ov) w w':=by
 obtain⟨ii,hii,hzi0,hzi1,hzi2⟩:=info_parts Np;obtain⟨Ao,co,hov⟩:=AI hO.own;subst hov;have hob:=hO.own.lt;have hbl:=hO.box.lt;obtain⟨W0,hW0⟩:∃ W0,W0=w.alloc (aS #[J I t,J I (j:Int),J I lo,J I hi] 123):=⟨_,rfl⟩;have HE0:=Wz (show aU w.heap.size w W0 by rw[hW0];exact AC _ _);have HB0:=Wz (show Blk W0 w.heap.size 123 #[J I t,J I (j:Int),J I lo,J I hi]by rw[hW0];exact Blk.new _ _ _);have HO:=Wz hO;have HPR:=Wz (WD rs hrs hsz hap gs gm pos t lo hi j ht hj hlh W0 (hS.ext HE0.out) (hR.below HE0.out));have HW0:=Wz hW0;have s0:=AG hbs HE0.out;have hbsl:bs<w.heap.size:=AZ hbs;have c0:=HB0.out.cell 0;have c1:=HB0.out.cell 1;have c2:=HB0.out.cell 2;have c3:=HB0.out.cell 3;generalize Ag rs t j lo hi=q at *;have HOB:=Wz hob;clear hW0 hS hR hrs hap hO hbs hob;go_enter Tryz.func48,Tryz.ntmps48;go_upto_region 1 with(fail)
 rw[<- HW0.out];go_wp2_with fail
 refine HPR.out.mono ?_;rintro e W1 ⟨va,rfl,⟨a,b,c,rfl,hq⟩,hb1⟩;have HQ:=Wz (show RPS (fun x=>B<=x/\(Value.slice Ao ys.length co).ownBlock≠some x) W1 q a b c from hq.mono (fun x hx _=>by
  have h1:=HE0.out.size;exact⟨by omega,fun e=>by have:=(HOB.out x e).2;omega⟩))
 have HE1:=Wz (AA HE0.out hb1);obtain⟨Aa,ca,rfl,-⟩:=hq.rows;obtain⟨Ab,cb,rfl,-⟩:=hq.paths;obtain⟨Ac,cc,rfl,-⟩:=hq.roots;clear hb1 hq c0 c1 c2 c3 s0;dsimp only[RPT.nums];obtain⟨X,hX⟩:∃ X,X=W1.alloc (aS #[J I q.t,J I q.j,J I q.lo,J I q.hi,J I q.n,J I q.f,aR Aa q.rows.length ca,aR Ab q.paths.length cb,aR Ac q.roots.length cc] 126):=⟨_,rfl⟩;have HEX:=Wz (show aU w.heap.size w X by rw[hX];exact AB HE1.out _);have HE1X:=Wz (show aU W1.heap.size W1 X by rw[hX];exact AC _ _);have HQX:=Wz (HQ.out.ext HE1X.out);have HYX:=Wz (show Blk X W1.heap.size 126 #[J I q.t,J I q.j,J I q.lo,J I q.hi,J I q.n,J I q.f,aR Aa q.rows.length ca,aR Ab q.paths.length cb,aR Ac q.roots.length cc]by rw[hX];exact Blk.new _ _ _);have hwx:=HEX.out.size;obtain⟨ha,W4,hW4,v4,hv4,ho4,hg4,hf4⟩:=Gf (P:=aW) (w:=X.alloc (aS #[J I q.t,J I q.j,J I q.lo,J I q.hi,J I q.n,J I q.f,aR Aa q.rows.length ca,aR Ab q.paths.length cb,aR Ac q.roots.length cc] 126)) B 37 37 126 ii (aY #[J I 0,J I 0,J I 0,J I 0,J I 0,J I 0,aR none 0 0,aR none 0 0,aR none 0 0]) 9 120 Tryz.underlying37 hii hzi0 hzi1 hzi2 rfl (by decide) (aR Ao ys.length co) ys.length (rpC ys) ((AK HO.out.own HEX.out).alloc _) ⟨X.heap.size,0,none⟩ 1 1
  [J I q.t,J I q.j,J I q.lo,J I q.hi,J I q.n,J I q.f,aR Aa q.rows.length ca,aR Ab q.paths.length cb,aR Ac q.roots.length cc] rfl (Bk (Blk.new X 126 _)) (by simp[Value.oneCell']) (by unfold maxLen;omega) (by omega) (by simp;omega)
 obtain⟨A4,c4,h4s⟩:=AI ho4;subst h4s;have HPT:=Wz (Hi.put (y:=(q,aR Aa q.rows.length ca,aR Ab q.paths.length cb,aR Ac q.roots.length cc)) (HO.out.ext HEX.out) hbo HQX.out (AC X _) hg4 ho4 hf4);have hO4:=((HO.out.box.ext HEX.out).alloc (aS #[J I q.t,J I q.j,J I q.lo,J I q.hi,J I q.n,J I q.f,aR Aa q.rows.length ca,aR Ab q.paths.length cb,aR Ac q.roots.length cc] 126)).grown hg4 (fun e=>by have:=(HOB.out bo e.symm).1;omega);have o0:=(HO.out.box.ext HEX.out).cell 0;have p0:=hO4.cell 0;have pf:=hO4.frozen 0;have pl:=hO4.lt;have HFX:=Wz HEX.out;have HXX:=Wz hX;clear hO4 ho4 hg4 hf4 hX;go_upto_region 2 with(fail)
 rw[<- HXX.out];generalize W1.heap.size=by1 at *;have y0:=HYX.out.cell 0;have y1:=HYX.out.cell 1;have y2:=HYX.out.cell 2;have y3:=HYX.out.cell 3;have y4:=HYX.out.cell 4;have y5:=HYX.out.cell 5;have y6:=HYX.out.cell 6;have y7:=HYX.out.cell 7;have y8:=HYX.out.cell 8;go_wp2;go_end0;exact⟨rfl,_,_,_,_,HPT.out.1,(AS.of_ext HFX.out).trans HPT.out.2⟩
end
section
open Go.RowKit Go.Shelf
attribute [local go_sem ↓] Go.wp_at_zero Go.wp_at_succ
def BD(w:aQ)(b off n:Nat):List aP:=(List.range n).map fun i=>(w.cell? ⟨b,off+i,none⟩).getD undef
theorem BH(w:aQ)(b off n:Nat):(BD w b off n).length=n:=by simp[BD]
theorem BN{w:aQ}{b off n i:Nat}(h:i<n):(BD w b off n)[i]? = some ((w.cell? ⟨b,off+i,none⟩).getD undef):=by
 unfold BD;rw[List.getElem?_map,List.getElem?_range h];rfl
def IE(w:aQ)(b off n:Nat):Prop:=∀ i,i<n->∃ u,w.cell? ⟨b,off+i,none⟩=some u/\u.oneCell'=true
theorem IE.one{w:aQ}{b off n:Nat}(h:IE w b off n):∀ u ∈ BD w b off n,u.oneCell'=true:=by
 intro u hu;unfold BD at hu;obtain⟨i,hi,rfl⟩:=List.mem_map.1 hu;obtain⟨v,h1,h2⟩:=h i (List.mem_range.1 hi);rw[h1];exact h2
theorem IE.news{w W:aQ}{b off n:Nat}(h:IE w b off n)(k:aU w.heap.size w W):∀(i:Nat) (u:aP),(BD w b off n)[i]? = some u->W.cell? ((⟨b,off,none⟩:Addr).add i)=some u:=by
 intro i u hu;have hi:i<n:=by have:=(List.getElem?_eq_some_iff.1 hu).1;rwa [BH]at this
 obtain⟨v,h1,_⟩:=h i hi;rw[BN hi,h1]at hu;rw[Addr.add_mid,AG h1 k];exact hu
def JE(w w':aQ)(u:aP)(b off n sz:Nat)(t:TypeId):Prop:=∃ g k,u=aR (some ⟨g,0,none⟩) n k/\w.heap.size<=g/\g<w'.heap.size/\n<=k/\w'.ownsRow w.heap.size t sz u n (BD w b off (n*sz))/\∀ i,i<n*sz->w'.cell? ⟨g,i,none⟩=w.cell? ⟨b,off+i,none⟩
theorem RZ(b off n c:Nat)(hn:0<n)(hn2:n<=100000)(w:aQ)(hf:IE w b off (n*5)):bA aW 100 #[aR (some ⟨b,off,none⟩) n c] w fun e w'=>
  ∃ u,e=aZ u/\JE w w' u b off n 5 67/\aU w.heap.size w w':=by
 obtain⟨is,his,hzs0,hzs1,hzs2⟩:=info_parts Eh;have hsn:=fun W:aQ=>Lib.run_eql_slice_nil (P:=aW) W 34 67 (some ⟨b,off,none⟩) n c 0 0 Tryz.underlying34;have HOE:=Wz (show(w.alloc (aS #[] 67)).ownsRow w.heap.size 67 5 (aR (some ⟨w.heap.size,0,none⟩) 0 0) 0 []from
  ⟨rfl,.inr ⟨w.heap.size,0,#[],rfl,Nat.le_refl _,World.alloc_heap_new w _,Nat.le_refl _,Nat.zero_le _,rfl,rfl⟩⟩)
 have HNW:=Wz (hf.news (AC w (aS #[] 67)));have hml:=BH w b off (n*5);have hone:=hf.one;have HF:=Wz hf;obtain⟨xs,hxs⟩:∃ xs,xs=BD w b off (n*5):=⟨_,rfl⟩;have HXS:=Wz hxs;rw[<- hxs]at HNW hml hone;clear hf hxs;go_enter Tryz.func100,Tryz.ntmps100;go_wp2_with (at_builtin;refine wpList_append_own _ rfl (.tmp 5) (.tmp 6) 34 rfl w.heap.size 67 is (aY #[J I 0,J I 0,J I 0,J I 0,J I 0]) 5 40 Tryz.underlying34 his hzs0 hzs1 hzs2 rfl (by decide) (aR (some ⟨w.heap.size,0,none⟩) 0 0) 0 [] rfl HOE.out ⟨b,off,none⟩ n c xs rfl hml HNW.out hone ?_ ?_ ?_ ?_;(unfold maxLen;omega);omega;(rw[World.size_alloc];omega);intro v6 W6 ho6 hg6 _;obtain⟨A7,c7,h7⟩:=AI ho6;subst h7;have HO6:=Wz ho6;have HG6:=Wz hg6;clear hg6 ho6)
 go_ret;have ho:=HO6.out;rw[Nat.zero_add,List.nil_append]at ho;have HBW:aU w.heap.size w W6:=(AC w (aS #[] 67)).grown HG6.out (AC w (aS #[] 67)).size (fun k e=>by have e2:w.heap.size=k:=Option.some.inj e;omega);obtain⟨g,k,h1,h2,h3,h4,h5⟩:=Bj ho hn;injection h1 with h1 _ h6
 subst h1 h6;refine⟨_,rfl,⟨g,c7,rfl,h2,h3,h4,by rw[<- HXS.out];exact ho,fun i hi=>?_⟩,HBW⟩;obtain⟨v,h7,_⟩:=HF.out i hi;have h8:=h5 i v (by rw[HXS.out,BN hi,h7];rfl);rw[h8,h7]
theorem PQ(A:Option Addr)(c:Nat)(w:aQ):bA aW 100 #[aR A 0 c] w fun e w'=>∃ u,e=aZ u/\w'.ownsRow w.heap.size 67 5 u 0 []/\aU w.heap.size w w':=by
 cases A with
 | none=>
  have hsn:=fun W:aQ=>Lib.run_eql_slice_nil (P:=aW) W 34 67 none 0 c 0 0 Tryz.underlying34;go_enter Tryz.func100,Tryz.ntmps100;go_wp2;go_ret;exact⟨_,rfl,World.ownsRow_nil _ _ _ _,AF _⟩
 | some a=>
  have hsn:=fun W:aQ=>Lib.run_eql_slice_nil (P:=aW) W 34 67 (some a) 0 c 0 0 Tryz.underlying34;go_enter Tryz.func100,Tryz.ntmps100;go_wp2;go_ret;exact⟨_,rfl,⟨rfl,.inr ⟨w.heap.size,0,#[],rfl,Nat.le_refl _,World.alloc_heap_new w _,Nat.le_refl _,Nat.zero_le _,rfl,rfl⟩⟩,AC _ _⟩
theorem TP(b off n c:Nat)(hn:0<n)(hn2:n<=100000)(w:aQ)(hf:IE w b off (n*9)):bA aW 54 #[aR (some ⟨b,off,none⟩) n c] w fun e w'=>
  ∃ u,e=aZ u/\JE w w' u b off n 9 126/\aU w.heap.size w w':=by
 obtain⟨is,his,hzs0,hzs1,hzs2⟩:=info_parts Np;have hsn:=fun W:aQ=>Lib.run_eql_slice_nil (P:=aW) W 37 126 (some ⟨b,off,none⟩) n c 0 0 Tryz.underlying37;have HOE:=Wz (show(w.alloc (aS #[] 126)).ownsRow w.heap.size 126 9 (aR (some ⟨w.heap.size,0,none⟩) 0 0) 0 []from
  ⟨rfl,.inr ⟨w.heap.size,0,#[],rfl,Nat.le_refl _,World.alloc_heap_new w _,Nat.le_refl _,Nat.zero_le _,rfl,rfl⟩⟩)
 have HNW:=Wz (hf.news (AC w (aS #[] 126)));have hml:=BH w b off (n*9);have hone:=hf.one;have HF:=Wz hf;obtain⟨xs,hxs⟩:∃ xs,xs=BD w b off (n*9):=⟨_,rfl⟩;have HXS:=Wz hxs;rw[<- hxs]at HNW hml hone;clear hf hxs;go_enter Tryz.func54,Tryz.ntmps54;go_wp2_with (at_builtin;refine wpList_append_own _ rfl (.tmp 5) (.tmp 6) 37 rfl w.heap.size 126 is (aY #[J I 0,J I 0,J I 0,J I 0,J I 0,J I 0,aR none 0 0,aR none 0 0,aR none 0 0]) 9 120 Tryz.underlying37 his hzs0 hzs1 hzs2 rfl (by decide) (aR (some ⟨w.heap.size,0,none⟩) 0 0) 0 [] rfl HOE.out ⟨b,off,none⟩ n c xs rfl hml HNW.out hone ?_ ?_ ?_ ?_;(unfold maxLen;omega);omega;(rw[World.size_alloc];omega);intro v6 W6 ho6 hg6 _;obtain⟨A7,c7,h7⟩:=AI ho6;subst h7;have HO6:=Wz ho6;have HG6:=Wz hg6;clear hg6 ho6)
 go_ret;have ho:=HO6.out;rw[Nat.zero_add,List.nil_append]at ho;have HBW:aU w.heap.size w W6:=(AC w (aS #[] 126)).grown HG6.out (AC w (aS #[] 126)).size (fun k e=>by have e2:w.heap.size=k:=Option.some.inj e;omega);obtain⟨g,k,h1,h2,h3,h4,h5⟩:=Bj ho hn;injection h1 with h1 _ h6
 subst h1 h6;refine⟨_,rfl,⟨g,c7,rfl,h2,h3,h4,by rw[<- HXS.out];exact ho,fun i hi=>?_⟩,HBW⟩;obtain⟨v,h7,_⟩:=HF.out i hi;have h8:=h5 i v (by rw[HXS.out,BN hi,h7];rfl);rw[h8,h7]
theorem Rc(b off n c:Nat)(hn:0<n)(hn2:n<=100000)(w:aQ)(hf:IE w b off (n*2)):bA aW 55 #[aR (some ⟨b,off,none⟩) n c] w fun e w'=>
  ∃ u,e=aZ u/\JE w w' u b off n 2 75/\aU w.heap.size w w':=by
 obtain⟨is,his,hzs0,hzs1,hzs2⟩:=info_parts RF;have hsn:=fun W:aQ=>Lib.run_eql_slice_nil (P:=aW) W 29 75 (some ⟨b,off,none⟩) n c 0 0 Tryz.underlying29;have HOE:=Wz (show(w.alloc (aS #[] 75)).ownsRow w.heap.size 75 2 (aR (some ⟨w.heap.size,0,none⟩) 0 0) 0 []from
  ⟨rfl,.inr ⟨w.heap.size,0,#[],rfl,Nat.le_refl _,World.alloc_heap_new w _,Nat.le_refl _,Nat.zero_le _,rfl,rfl⟩⟩)
 have HNW:=Wz (hf.news (AC w (aS #[] 75)));have hml:=BH w b off (n*2);have hone:=hf.one;have HF:=Wz hf;obtain⟨xs,hxs⟩:∃ xs,xs=BD w b off (n*2):=⟨_,rfl⟩;have HXS:=Wz hxs;rw[<- hxs]at HNW hml hone;clear hf hxs;go_enter Tryz.func55,Tryz.ntmps55;go_wp2_with (at_builtin;refine wpList_append_own _ rfl (.tmp 5) (.tmp 6) 29 rfl w.heap.size 75 is (aY #[J I 0,aR none 0 0]) 2 32 Tryz.underlying29 his hzs0 hzs1 hzs2 rfl (by decide) (aR (some ⟨w.heap.size,0,none⟩) 0 0) 0 [] rfl HOE.out ⟨b,off,none⟩ n c xs rfl hml HNW.out hone ?_ ?_ ?_ ?_;(unfold maxLen;omega);omega;(rw[World.size_alloc];omega);intro v6 W6 ho6 hg6 _;obtain⟨A7,c7,h7⟩:=AI ho6;subst h7;have HO6:=Wz ho6;have HG6:=Wz hg6;clear hg6 ho6)
 go_ret;have ho:=HO6.out;rw[Nat.zero_add,List.nil_append]at ho;have HBW:aU w.heap.size w W6:=(AC w (aS #[] 75)).grown HG6.out (AC w (aS #[] 75)).size (fun k e=>by have e2:w.heap.size=k:=Option.some.inj e;omega);obtain⟨g,k,h1,h2,h3,h4,h5⟩:=Bj ho hn;injection h1 with h1 _ h6
 subst h1 h6;refine⟨_,rfl,⟨g,c7,rfl,h2,h3,h4,by rw[<- HXS.out];exact ho,fun i hi=>?_⟩,HBW⟩;obtain⟨v,h7,_⟩:=HF.out i hi;have h8:=h5 i v (by rw[HXS.out,BN hi,h7];rfl);rw[h8,h7]
theorem PR(A:Option Addr)(c:Nat)(w:aQ):bA aW 55 #[aR A 0 c] w fun e w'=>∃ u,e=aZ u/\w'.ownsRow w.heap.size 75 2 u 0 []/\aU w.heap.size w w':=by
 cases A with
 | none=>
  have hsn:=fun W:aQ=>Lib.run_eql_slice_nil (P:=aW) W 29 75 none 0 c 0 0 Tryz.underlying29;go_enter Tryz.func55,Tryz.ntmps55;go_wp2;go_ret;exact⟨_,rfl,World.ownsRow_nil _ _ _ _,AF _⟩
 | some a=>
  have hsn:=fun W:aQ=>Lib.run_eql_slice_nil (P:=aW) W 29 75 (some a) 0 c 0 0 Tryz.underlying29;go_enter Tryz.func55,Tryz.ntmps55;go_wp2;go_ret;exact⟨_,rfl,⟨rfl,.inr ⟨w.heap.size,0,#[],rfl,Nat.le_refl _,World.alloc_heap_new w _,Nat.le_refl _,Nat.zero_le _,rfl,rfl⟩⟩,AC _ _⟩
theorem AR.full{W:aQ}{v:aP}{l:List AD}(h:AR W v l)(h0:0<l.length):∃ g c,v=aR (some ⟨g,0,none⟩) l.length c/\IE W g 0 (l.length*5)/\BD W g 0 (l.length*5)=rc l:=by
 obtain⟨A,c,rfl,h⟩:=h;obtain⟨g,rfl,hg,hc⟩:=h h0;have hcell:∀ i,i<l.length*5->W.cell? ⟨g,i,none⟩=(rc l)[i]? := fun i hi=>by
  have h1:i / 5<l.length:=by omega
  have h2:=hc (i / 5) _ (aX h1) (i % 5) (by omega);rw[show i / 5*5+i % 5=i by omega]at h2;rw[h2,<- Ky l (i / 5) _ (aX h1) (i % 5) (by omega),show i / 5*5+i % 5=i by omega]
 refine⟨g,c,rfl,fun i hi=>?_,?_⟩
 ·rw[Nat.zero_add,hcell i hi];have h1:i<(rc l).length:=by rw[DX];exact hi
  refine⟨_,aX h1,?_⟩;have h3:=List.getElem_mem h1;unfold rc at h3;obtain⟨r,_,hr⟩:=List.mem_flatMap.1 h3;exact G7 r _ hr
 apply List.ext_getElem?;intro i;by_cases hi:i<l.length*5
 ·rw[BN hi,Nat.zero_add,hcell i hi,aX (by rw[DX];exact hi)];rfl
 rw[List.getElem?_eq_none (by rw[BH];omega),List.getElem?_eq_none (by rw[DX];omega)]
theorem EG(l:List AD)(v:aP)(hl:l.length<=100000)(w:aQ)(hv:AR w v l):bA aW 100 #[v] w fun e w'=>∃ u,e=aZ u/\w'.ownsRow w.heap.size 67 5 u l.length (rc l)/\aU w.heap.size w w':=by
 by_cases h0:0<l.length
 ·obtain⟨g,c,rfl,hf,hc⟩:=hv.full h0;refine(RZ g 0 l.length c h0 hl w hf).mono ?_;rintro e w' ⟨u,rfl,⟨_,_,_,_,_,_,h5,_⟩,hb⟩;rw[hc]at h5;exact⟨u,rfl,h5,hb⟩
 have hn:l=[]:=List.length_eq_zero_iff.1 (by omega);subst hn;obtain⟨A,c,rfl,_⟩:=hv;exact(PQ A c w)
theorem LH{W:aQ}{B:Nat}{v:aP}{l:List AD}(h:W.ownsRow B 67 5 v l.length (rc l)):AR W v l:=(CX h).rowsL
theorem Ae.slice{W:aQ}{u:aP}{l:List AH}(h:Ae W u l):∃ A c,u=aR A l.length c:=by
 obtain⟨A,c,h1,_⟩:=h;exact⟨A,c,h1⟩
def En(w:aQ)(v:aP)(first:Nat)(Ls:List (List AH)):Prop:=∃ A c,v=aR A Ls.length c/\(0<Ls.length->∃ b off,A=some ⟨b,off,none⟩/\∀(j:Nat) (l:List AH),Ls[j]? = some l ->
 w.cell? ⟨b,off+j*2,none⟩=some (J I ((first:Int)+(j:Int)))/\∃ u,w.cell? ⟨b,off+j*2+1,none⟩=some u/\Ae w u l)
theorem En.ext{w W:aQ}{v:aP}{first:Nat}{Ls:List (List AH)}(h:En w v first Ls)(k:aU w.heap.size w W):En W v first Ls:=by
 obtain⟨A,c,rfl,h⟩:=h;refine⟨A,c,rfl,fun h0=>?_⟩;obtain⟨b,off,hA,h2⟩:=h h0;exact⟨b,off,hA,fun j l hj=>by obtain⟨h3,u,h4,h5⟩:=h2 j l hj;exact⟨AG h3 k,u,AG h4 k,h5.ext k⟩⟩
theorem Bt.off{w:aQ}{v:aP}{first:Nat}{Ls:List (List AH)}(h:Bt w v first Ls):En w v first Ls:=by
 obtain⟨A,c,rfl,_,h⟩:=h;refine⟨A,c,rfl,fun h0=>?_⟩;obtain⟨b,hA,h2⟩:=h h0;exact⟨b,0,hA,fun j l hj=>by simp only[Nat.zero_add];exact h2 j l hj⟩
theorem En.full{W:aQ}{v:aP}{f:Nat}{Ls:List (List AH)}(h:En W v f Ls)(h0:0<Ls.length):∃ g off c,v=aR (some ⟨g,off,none⟩) Ls.length c/\IE W g off (Ls.length*2):=by
 obtain⟨A,c,rfl,h⟩:=h;obtain⟨g,off,rfl,hc⟩:=h h0;refine⟨g,off,c,rfl,fun i hi=>?_⟩;obtain⟨h1,u,h2,h3⟩:=hc (i / 2) _ (aX (by omega));obtain⟨A,c',rfl⟩:=h3.slice;rcases Nat.mod_two_eq_zero_or_one i with h4|h4
 ·rw[show off+i=off+i / 2*2 by omega];exact⟨_,h1,rfl⟩
 rw[show off+i=off+i / 2*2+1 by omega];exact⟨_,h2,rfl⟩
end
section
open Go.RowKit Go.Shelf
structure LI (p:RPT) (j:Nat):Prop where
 t:0<=p.t/\p.t<=3
 col:p.j=(j:Int)/\j<4
 lh:p.lo<=p.hi
 n:0<=p.n/\p.n<=2000
 f:0<=p.f/\p.f<=p.n
 len:(p.rows.length:Int)<=p.n-p.f
 zero:p.rows=[]->p.n=0
 ok:∀ r ∈ p.rows,r.ok/\r.t=p.t
 low:∀(i:Nat) (r:AD),p.rows[i]? = some r->0<i->p.lo<=r.col j
 high:∀(i:Nat) (r:AD),p.rows[i]? = some r->i+1<p.rows.length->r.col j<=p.hi
 asc:∀(i:Nat) (a b:AD),p.rows[i]? = some a->p.rows[i+1]? = some b->a.col j<b.col j∨(a.col j=b.col j/\a.k<b.k)
 first:p.f=0∨∃ r,p.rows[0]? = some r/\r.col j<p.lo
 last:p.f+p.rows.length=p.n∨∃ r,p.rows[p.rows.length-1]? = some r/\p.hi<r.col j
def inP(p:RPT)(j:Nat)(r:AD):Bool:=decide (p.lo<=r.col j) && decide (r.col j<=p.hi)
def CJ(p:RPT)(j:Nat):List AD:=p.rows.filter (inP p j)
theorem QI{rs:List AD}(ha:A0 rs){t:Int}{j:Nat}{a b:Nat}{x y:AD}(hx:(BK rs t j)[a]? = some x)(hy:(BK rs t j)[b]? = some y)(hab:a<b):x.col j<y.col j∨(x.col j=y.col j/\x.k<y.k):=by
 obtain⟨h1,rfl⟩:=List.getElem?_eq_some_iff.1 hx;obtain⟨h2,rfl⟩:=List.getElem?_eq_some_iff.1 hy;have hs:=List.pairwise_iff_getElem.1 (Fc rs t j (-1000000000) 1000000000) a b h1 h2 hab;rw[D6]at hs;have m1:=D7.1 (List.getElem_mem h1);have m2:=D7.1 (List.getElem_mem h2);rcases hs with h|⟨h,h3⟩
 ·exact .inl h
 refine .inr ⟨h,?_⟩;rcases Int.lt_or_eq_of_le h3 with h4|h4
 ·exact h4
 exfalso;have he:=ha.eq _ m1.1 _ m2.1 ((Jh m1.2).trans (Jh m2.2).symm) h4;have hp:=(Ei rs t j (-1000000000) 1000000000).symm.pairwise (R:=fun a b:AD=>¬ (a.t=b.t/\a.k=b.k)) (List.Pairwise.sublist List.filter_sublist ha) (fun{a b} h e=>h ⟨e.1.symm,e.2.symm⟩);have h5:=List.pairwise_iff_getElem.1 hp a b h1 h2 hab;exact h5 ⟨congrArg AD.t he,h4⟩
section
variable {L:List AD} {j:Nat} {lo hi:Int}
theorem MM{i:Nat}{r:AD}(hr:L[i]? = some r)(hi:i<L.findIdx (fun r=>decide (lo<=r.col j))):r.col j<lo:=by
 obtain⟨h1,rfl⟩:=List.getElem?_eq_some_iff.1 hr;have h2:=List.not_of_lt_findIdx (p:=fun r:AD=>decide (lo<=r.col j)) hi;simp at h2;exact h2
theorem TQ{i:Nat}{r:AD}(hr:L[i]? = some r)(hi':i<L.findIdx (fun r=>decide (hi<r.col j))):r.col j<=hi:=by
 obtain⟨h1,rfl⟩:=List.getElem?_eq_some_iff.1 hr;have h2:=List.not_of_lt_findIdx (p:=fun r:AD=>decide (hi<r.col j)) hi';simp at h2;exact h2
theorem WM{r:AD}(hr:L[L.findIdx (fun r=>decide (lo<=r.col j))]? = some r):lo<=r.col j:=by
 obtain⟨h1,rfl⟩:=List.getElem?_eq_some_iff.1 hr;have h2:=List.findIdx_getElem (p:=fun r:AD=>decide (lo<=r.col j)) (xs:=L) (w:=h1);simpa using h2
theorem PS{r:AD}(hr:L[L.findIdx (fun r=>decide (hi<r.col j))]? = some r):hi<r.col j:=by
 obtain⟨h1,rfl⟩:=List.getElem?_eq_some_iff.1 hr;have h2:=List.findIdx_getElem (p:=fun r:AD=>decide (hi<r.col j)) (xs:=L) (w:=h1);simpa using h2
theorem Jy(hlh:lo<=hi):L.findIdx (fun r=>decide (lo<=r.col j))<=L.findIdx (fun r=>decide (hi<r.col j)):=by
 rcases Nat.lt_or_ge (L.findIdx (fun r=>decide (hi<r.col j))) L.length with h|h
 ·rcases Nat.lt_or_ge (L.findIdx (fun r=>decide (hi<r.col j))) (L.findIdx (fun r=>decide (lo<=r.col j)))with h1|h1
  ·have h2:=PS (L:=L) (hi:=hi) (j:=j) (aX h);have h3:=MM (L:=L) (lo:=lo) (j:=j) (aX h) h1;omega
  exact h1
 exact Nat.le_trans List.findIdx_le_length h
end
theorem Hj{rs:List AD}{t:Int}{j:Nat}{lo hi:Int}{i:Nat}{r:AD}(h:(Ag rs t j lo hi).rows[i]? = some r):(BK rs t j)[Bf rs t j lo+i]? = some r/\Bf rs t j lo+i<toN rs t j hi:=by
 have h1:((BK rs t j).drop (Bf rs t j lo)).take (toN rs t j hi-Bf rs t j lo)=(Ag rs t j lo hi).rows:=rfl;rw[<- h1,List.getElem?_take]at h;split at h
 ·rw[List.getElem?_drop]at h;exact⟨h,by omega⟩
 cases h
theorem DN(rs:List AD)(t:Int)(j:Nat)(lo hi:Int):(Ag rs t j lo hi).rows.length=toN rs t j hi-Bf rs t j lo:=by
 show(((BK rs t j).drop (Bf rs t j lo)).take (toN rs t j hi-Bf rs t j lo)).length=_;rw[List.length_take,List.length_drop];have:toN rs t j hi<=(BK rs t j).length:=Nat.min_le_right _ _;omega
theorem ET{rs:List AD}(ha:A0 rs)(hok:∀ r ∈ rs,r.ok)(hl:rs.length<=60)(t:Int)(ht:0<=t/\t<=3)(j:Nat)(hj:j<4)(lo hi:Int)(hlh:lo<=hi):LI (Ag rs t j lo hi) j:=by
 have hL:(BK rs t j).length<=60:=Nat.le_trans (Be _ _ _ _ _) hl;have hF:Bf rs t j lo=(BK rs t j).findIdx (fun r=>decide (lo<=r.col j))-1:=rfl;have hT:toN rs t j hi=min ((BK rs t j).findIdx (fun r=>decide (hi<r.col j))+1) (BK rs t j).length:=rfl;have hab:=Jy (L:=BK rs t j) (j:=j) hlh;have hal:(BK rs t j).findIdx (fun r=>decide (lo<=r.col j))<=(BK rs t j).length:=List.findIdx_le_length;have hbl:(BK rs t j).findIdx (fun r=>decide (hi<r.col j))<=(BK rs t j).length:=List.findIdx_le_length;have hlen:=DN rs t j lo hi;have hlt:=@QI rs ha t j;have hmem:∀(i:Nat) (r:AD),(BK rs t j)[i]? = some r->r.ok/\r.t=t:=fun i r h=>by
  have h1:=D7.1 (List.mem_of_getElem? h);exact⟨hok r h1.1,Jh h1.2⟩
 have fl:=@MM (BK rs t j) j lo;have sh:=@TQ (BK rs t j) j hi;have fa:=@WM (BK rs t j) j lo;have sa:=@PS (BK rs t j) j hi;have hn:(Ag rs t j lo hi).n=((BK rs t j).length:Int):=rfl;have hf:(Ag rs t j lo hi).f=(Bf rs t j lo:Int):=rfl;have hra:=@Hj rs t j lo hi;have hget:∀ i,i<(Ag rs t j lo hi).rows.length->∃ r,(Ag rs t j lo hi).rows[i]? = some r:=fun i h=>⟨_,aX h⟩;obtain⟨a,hA⟩:∃ a,a=(BK rs t j).findIdx (fun r=>decide (lo<=r.col j)):=⟨_,rfl⟩;obtain⟨b,hB⟩:∃ b,b=(BK rs t j).findIdx (fun r=>decide (hi<r.col j)):=⟨_,rfl⟩;rw[<- hA]at hF hab hal fl fa;rw[<- hB]at hT hab hbl sh sa;refine⟨ht,⟨rfl,hj⟩,hlh,⟨by omega,by omega⟩,⟨by omega,by omega⟩,by omega,fun h=>?_,fun r hr=>?_,fun i r hr h0=>?_,fun i r hr h0=>?_,fun i x y hx hy=>?_,?_,?_⟩
 ·rw[h]at hlen;simp at hlen;omega
 ·obtain⟨i,hi⟩:=List.mem_iff_getElem?.1 hr;exact hmem _ r (hra hi).1
 ·obtain⟨h1,h2⟩:=hra hr;show lo<=r.col j;rcases Nat.lt_or_ge a (BK rs t j).length with h3|h3
  ·obtain⟨x,hx⟩:∃ x,(BK rs t j)[a]? = some x:=⟨_,aX h3⟩;have h4:=fa hx;rcases Nat.eq_or_lt_of_le (show a<=Bf rs t j lo+i by omega)with h5|h5
   ·rw[<- h5,hx]at h1;rw[<- Option.some.inj h1];exact h4
   have:=hlt hx h1 h5;omega
  omega
 ·obtain⟨h1,h2⟩:=hra hr;exact sh h1 (by omega)
 ·have h1:=(hra hx).1;have h2:=(hra hy).1;exact hlt h1 h2 (by omega)
 ·rcases Nat.eq_zero_or_pos a with h|h
  ·left;omega
  rcases Nat.eq_zero_or_pos (Bf rs t j lo)with h5|h5
  ·exact .inl (by omega)
  right;obtain⟨r,hr⟩:=hget 0 (by omega);exact⟨r,hr,fl (hra hr).1 (by omega)⟩
 rcases Nat.lt_or_ge (b+1) (BK rs t j).length with h|h
 ·right;obtain⟨r,hr⟩:=hget ((Ag rs t j lo hi).rows.length-1) (by omega);have h1:=(hra hr).1;rw[show Bf rs t j lo+((Ag rs t j lo hi).rows.length-1)=b by omega]at h1;exact⟨r,hr,sa h1⟩
 left;rw[hlen,hf,hn];omega
theorem Iq{α:Type}(q:α->Bool)(L:List α)(h:∀ x ∈ L,q x=false):L.filter q=[]:=List.filter_eq_nil_iff.2 (fun x hx=>by rw[h x hx];decide)
theorem MN{α:Type}(q:α->Bool)(L:List α)(f m:Nat)(h1:∀ x ∈ L.take f,q x=false)(h2:∀ x ∈ L.drop (f+m),q x=false):((L.drop f).take m).filter q=L.filter q:=by
 have e:L=L.take f++((L.drop f).take m++L.drop (f+m)):=by
  rw[<- List.drop_drop,List.take_append_drop,List.take_append_drop]
 conv=>rhs;rw[e]
 rw[List.filter_append,List.filter_append,Iq q _ h1,Iq q _ h2,List.nil_append,List.append_nil]
theorem MO{rs:List AD}(ha:A0 rs)(t:Int)(j:Nat)(lo hi:Int)(hlh:lo<=hi)(h0 : -1000000000<=lo)(h9:hi<=1000000000):CJ (Ag rs t j lo hi) j=C6 rs t j lo hi:=by
 have hF:Bf rs t j lo=(BK rs t j).findIdx (fun r=>decide (lo<=r.col j))-1:=rfl;have hT:toN rs t j hi=min ((BK rs t j).findIdx (fun r=>decide (hi<r.col j))+1) (BK rs t j).length:=rfl;have hab:=Jy (L:=BK rs t j) (j:=j) hlh;have hal:(BK rs t j).findIdx (fun r=>decide (lo<=r.col j))<=(BK rs t j).length:=List.findIdx_le_length;have hbl:(BK rs t j).findIdx (fun r=>decide (hi<r.col j))<=(BK rs t j).length:=List.findIdx_le_length;have hlt:=@QI rs ha t j;have e1:CJ (Ag rs t j lo hi) j=(BK rs t j).filter (inP (Ag rs t j lo hi) j):=by
  refine MN _ _ _ _ (fun x hx=>?_) (fun x hx=>?_)
  ·obtain⟨i,hix⟩:=List.mem_iff_getElem?.1 hx;rw[List.getElem?_take]at hix;split at hix
   ·have h1:=MM hix (by omega:i<(BK rs t j).findIdx (fun r=>decide (lo<=r.col j)));show(decide (lo<=x.col j) && decide (x.col j<=hi))=false;simp;omega
   cases hix
  obtain⟨i,hi'⟩:=List.mem_iff_getElem?.1 hx;rw[List.getElem?_drop]at hi';have hil:=(List.getElem?_eq_some_iff.1 hi').1;have hb:(BK rs t j).findIdx (fun r=>decide (hi<r.col j))<(BK rs t j).length:=by omega
  obtain⟨y,hy⟩:∃ y,(BK rs t j)[(BK rs t j).findIdx (fun r=>decide (hi<r.col j))]? = some y:=⟨_,aX hb⟩;have h3:=PS hy;have h4:=hlt hy hi' (by omega);show(decide (lo<=x.col j) && decide (x.col j<=hi))=false;simp;omega
 rw[e1];refine JB ha ?_ (List.Pairwise.sublist List.filter_sublist (Fc rs t j _ _));refine((Ei rs t j (-1000000000) 1000000000).filter _).trans ?_;rw[List.filter_filter];refine List.Perm.of_eq (List.filter_congr fun r hr=>?_);show(decide (lo<=r.col j) && decide (r.col j<=hi) && Di r t j (-1000000000) 1000000000)=Di r t j lo hi;unfold Di;rw[Bool.eq_iff_iff];simp;omega
theorem TR{rs:List AD}(ha:A0 rs)(t k:Int):C6 rs t 0 k k=(BP rs t k).toList:=by
 symm;have hh:∀ r:AD,Di r t 0 k k=AD.is t k r:=fun r=>by
  unfold Di AD.is AD.col;rw[Bool.eq_iff_iff];simp;omega
 refine JB ha ?_ ?_
 ·refine List.Perm.of_eq ?_;rw[List.filter_congr (fun r _=>hh r)];clear hh;unfold BP
  induction rs with
  | nil=>rfl
  | cons x rs ih=>
   rw[A0,List.pairwise_cons]at ha;rw[List.filter_cons,List.find?_cons]
   cases hx:AD.is t k x with
   | false=>exact ih ha.2
   | true=>
    simp only[if_true];rw[List.filter_eq_nil_iff.2]
    ·rfl
    intro y hy h;simp only[AD.is,Bool.and_eq_true,decide_eq_true_eq]at hx h;exact ha.1 y hy ⟨hx.1.symm.trans h.1,hx.2.symm.trans h.2⟩
 cases BP rs t k with
 | none=>exact List.Pairwise.nil
 | some r=>simp
theorem MP(rs:List AD)(t:Int)(j:Nat)(lo hi:Int)(i:Nat)(r:AD)(h:(Ag rs t j lo hi).rows[i]? = some r):(Ag rs t j lo hi).paths[i]? = some (Dj (Cp rs t j) (Bf rs t j lo+i))/\(Cp rs t j)[Bf rs t j lo+i]? = some (CQ r):=by
 obtain⟨h1,h2⟩:=Hj h;refine⟨?_,?_⟩
 ·show((List.range (toN rs t j hi-Bf rs t j lo)).map (fun i=>Dj (Cp rs t j) (Bf rs t j lo+i)))[i]? = _;rw[List.getElem?_map,List.getElem?_range (by omega)];rfl
 unfold Cp;rw[List.getElem?_map,show C6 rs t j (-1000000000) 1000000000=BK rs t j from rfl,h1];rfl
theorem FM(rs:List AD)(t:Int)(j:Nat)(lo hi:Int):(Ag rs t j lo hi).paths.length=(Ag rs t j lo hi).rows.length:=by
 rw[DN];show((List.range (toN rs t j hi-Bf rs t j lo)).map _).length=_;simp
end
section
open Go.RowKit Go.Shelf
attribute [local go_sem ↓] Go.wp_at_zero Go.wp_at_succ
theorem AR.c5{W:aQ}{v:aP}{l:List AD}(h:AR W v l){i:Nat}{r:AD}(hi:l[i]? = some r):∃ g c,v=aR (some ⟨g,0,none⟩) l.length c/\g<W.heap.size/\W.cell? ⟨g,i*5,none⟩=some (J I r.t)/\W.cell? ⟨g,i*5+1,none⟩=some (J I r.k)/\W.cell? ⟨g,i*5+2,none⟩=some (J I r.a)/\W.cell? ⟨g,i*5+3,none⟩=some (J I r.b)/\W.cell? ⟨g,i*5+4,none⟩=some (J I r.c):=by
 obtain⟨g,c,h1,h2,h3⟩:=h.at_ hi;exact⟨g,c,h1,h2,h3 0 (by omega),h3 1 (by omega),h3 2 (by omega),h3 3 (by omega),h3 4 (by omega)⟩
theorem Re(bp:Nat)(t lo hi n f:Int)(j:Nat)(hj:j<4)(a b c:aP)(l:List AD)(hl:l.length<=100000)(i:Nat)(r:AD)(hr:l[i]? = some r)(w:aQ)(hp:Blk w bp 126 #[J I t,J I (j:Int),J I lo,J I hi,J I n,J I f,a,b,c])(ha:AR w a l) :
  bA aW 155 #[J I (i:Int),bD (some ⟨bp,0,none⟩)] w fun e w'=>e=aZ (J I (r.col j))/\aU w.heap.size w w':=by
 have HV:=Wz (fun W:aQ=>BL r j hj W);have hil:=(List.getElem?_eq_some_iff.1 hr).1;have p1:=hp.cell 1;have p6:=hp.cell 6;obtain⟨g,d,rfl,_,r0,r1,r2,r3,r4⟩:=ha.c5 hr;have q0:(0:Int)<=(i:Int):=by omega
 have q1:(i:Int)<(l.length:Int):=by omega
 generalize r.col j=v at *;obtain⟨x0,x1,x2,x3,x4⟩:=r;dsimp only at *;clear hp ha hr hil;go_enter Tryz.func155,Tryz.ntmps155;go_wp2;go_still_tail 7,(by kernel_rfl);change wpList _ _ _ _ _ w.drew;go_wp2_with (go_at_call 89;refine(HV.out _).mono ?_;rintro e W1 ⟨rfl,hb1⟩;have HE1:=Wz (Bd hb1);clear hb1)
 go_ret;exact⟨rfl,HE1.out⟩
theorem MQ(r:AD)(h:r.ok)(w:aQ):bA aW 156 #[aY #[J I r.t,J I r.k,J I r.a,J I r.b,J I r.c]] w fun e w'=>e=aZ (aV true)/\aU w.heap.size w w':=by
 have h1:=Ly r w;rw[(P7 r).2 h]at h1;exact h1
theorem Hk(p:RPT)(j:Nat)(hp:LI p j)(a b c:aP)(w:aQ)(ha:AR w a p.rows) :
  bA aW 103 #[.agg (p.nums a b c)] w fun e w'=>e=aZ (aV true)/\aU w.heap.size w w':=by
 have hmf:∀(fn:Fn) (first cap:Array aP) (w:aQ),(Instr.makeFunc fn first cap).run aW w=.ok (.func fn first cap) w:=fun _ _ _ _=>rfl;obtain⟨⟨t0,t1⟩,⟨hj,hj4⟩,lh,⟨n0,n1⟩,⟨f0,f1⟩,hlen,hzero,hok,hlow,hhigh,hasc,hfirst,hlast⟩:=hp;obtain⟨t,jj,lo,hi,n,f,l,ps,rts⟩:=p;dsimp only[RPT.nums]at *;subst hj;have HVAL:=Wz (fun(bp:Nat)(i:Nat)(r:AD)(hr:l[i]? = some r)(W:aQ)=>Re bp t lo hi n f j hj4 a b c l (by omega) i r hr W);have HB0:=Wz (Blk.new w 126 #[J I t,J I (j:Int),J I lo,J I hi,J I n,J I f,a,b,c]);have HA0:=Wz (ha.ext (AC w (aS #[J I t,J I (j:Int),J I lo,J I hi,J I n,J I f,a,b,c] 126)));have HZ:=Wz hzero;have HOK:=Wz hok;have HLO:=Wz hlow;have HHI:=Wz hhigh;have HAS:=Wz hasc;have HFI:=Wz hfirst;have HLA:=Wz hlast;obtain⟨A,d,rfl,-⟩:=ha;have d1:¬ hi<lo:=by omega
 have d2:¬ n<0:=by omega
 have d3:¬ 2000<n:=by omega
 have d4:¬ f<0:=by omega
 have d5:¬ n<f:=by omega
 have e1:IntKind.i64.wrap (n-f)=n-f:=bC _ (by omega);have d6:¬ n-f<(l.length:Int):=by omega
 clear hzero hok hlow hhigh hasc hfirst hlast;by_cases hl0:l=[]
 ·have hn0:=HZ.out hl0;subst hl0;have N0:=Wz hn0;have d7:(n == 0)=true:=by simp[hn0]
  clear hn0;go_enter Tryz.func103,Tryz.ntmps103;go_wp2_with (go_at_call 84;refine(MA t j ⟨t0,t1⟩ hj4 _).mono ?_;rintro e w' ⟨rfl,rfl⟩)
  go_ret;exact⟨rfl,AC _ _⟩
 have hl1:0<l.length:=List.length_pos_iff.2 hl0;have d7:((l.length:Int) == 0)=false:=by simpa using hl0
 obtain⟨la,hla⟩:∃ la,la+1=l.length:=⟨l.length-1,by omega⟩;have HLE:=Wz hla;have e3:IntKind.i64.wrap ((l.length:Int)-1)=(la:Int):=by rw[bC _ (by omega)];omega
 clear HZ hl0 hla;go_enter Tryz.func103,Tryz.ntmps103;go_upto_region 6 with(go_at_call 84;refine(MA t j ⟨t0,t1⟩ hj4 _).mono ?_;rintro e w' ⟨rfl,rfl⟩)
 obtain⟨W0,hW0⟩:∃ W0,W0=w.alloc (aS #[J I t,J I (j:Int),J I lo,J I hi,J I n,J I f,aR A l.length d,b,c] 126):=⟨_,rfl⟩;have HE0:=Wz (show aU w.heap.size w W0 by rw[hW0];exact AC _ _);rw[<- hW0]at HB0 HA0 ⊢;clear hW0;obtain⟨bp,hbp⟩:∃ bp,bp=w.heap.size:=⟨_,rfl⟩;rw[<- hbp]at HB0 ⊢;have HBP:=Wz hbp;clear hbp;go_cut [4]from 8 to 59 (fun fv W=>fv=.func (.func 155) #[] #[bD (some ⟨bp,0,none⟩)]/\W0=W)
 case first=>
  go_wp2;go_meet;exact⟨rfl,rfl⟩
 obtain⟨hc1,hc2⟩:=hcut;subst hc1;subst hc2;clear d1 d2 d3 d4 d5 e1 d6 d7;have b6:=HB0.out.cell 6;go_wp2;clear b6;go_loopw [5,6,7,64] (fun _ _ _ iv W=>∃ k:Nat,k<=l.length/\iv=J I (k:Int)/\aU W0.heap.size W0 W) (fun _ _ _ iv _=>l.length-(intOf iv).toNat)
 case atStart=>exact⟨0,Nat.zero_le _,rfl,AF _⟩
 case round =>
  obtain⟨k,hk,rfl,hE⟩:=hrel;have HE:=Wz hE;have HBr:=Wz (HB0.out.ext hE);have HAr:=Wz (HA0.out.ext hE);clear hE;by_cases hlt:k<l.length
  ·obtain⟨r,hr⟩:∃ r,l[k]? = some r:=⟨_,aX hlt⟩;have hokr:=HOK.out r (List.mem_of_getElem? hr);have HV:=Wz (fun W h1 h2=>HVAL.out bp k r hr W h1 h2);have HVD:=Wz (fun W=>MQ r hokr.1 W);have ht:r.t=t:=hokr.2;have hlo:=HLO.out k r hr;have hhi:=HHI.out k r hr;obtain⟨g,d',hA,hg,r0,r1,r2,r3,r4⟩:=HAr.out.c5 hr;injection hA with hA hn' hd'
   subst hA;subst hd';clear hn' hokr;have HPREV:=Wz (show ∀(m:Nat) (s:AD),k=m+1->l[m]? = some s->s.col j<r.col j∨(s.col j=r.col j/\s.k<r.k)from fun m s hm hs=>HAS.out m s r hs (by rw[<- hm];exact hr));obtain⟨v,hv⟩:∃ v,v=r.col j:=⟨_,rfl⟩;rw[<- hv]at HV hlo hhi HPREV;obtain⟨y0,y1,y2,y3,y4⟩:=r;dsimp only at *;subst ht;have q0:(0:Int)<=(k:Int):=by omega
   have q1:(k:Int)<(l.length:Int):=by omega
   have q2:decide ((k:Int)<(l.length:Int))=true:=decide_eq_true q1;clear hr hv hg;go_wp2_with fail
   refine(HV.out _ (HBr.out.alloc _) (HAr.out.ext (AC _ _))).mono ?_;rintro e W1 ⟨rfl,hb1⟩;have HX1:=Wz ((Blk.new wr 67 #[J I y0,J I y1,J I y2,J I y3,J I y4]).ext hb1);have HE1:=Wz (AA (AB HE.out _) hb1);have hwz:=HX1.out.lt;clear hb1 r0 r1 r2 r3 r4;generalize wr.heap.size=bx at *;go_upto_region 11 with(fail)
   obtain⟨ki,hki⟩:∃ ki:Int,ki=(k:Int):=⟨_,rfl⟩;have HKI:=Wz hki;have e2:IntKind.i64.wrap (ki+1)=ki+1:=bC _ (by omega);rw[<- hki];clear hki;go_cut [103]from 72 to 101 (fun cv W=>cv=aV false/\aU W0.heap.size W0 W/\Blk W bx 67 #[J I y0,J I y1,J I y2,J I y3,J I y4])
   case first=>
    have x0:=HX1.out.cell 0;have x1:=HX1.out.cell 1;have x2:=HX1.out.cell 2;have x3:=HX1.out.cell 3;have x4:=HX1.out.cell 4;go_wp2_with fail
    refine(HVD.out _).mono ?_;rintro e W2 ⟨rfl,hb2⟩;have HX2:=Wz (HX1.out.ext hb2);have HE2:=Wz (AA HE1.out hb2);have HB2:=Wz (HB0.out.ext HE2.out);clear hb2 x0 x1 x2 x3 x4;have hla:=HLE.out;have x0:=HX2.out.cell 0;have b0:=HB2.out.cell 0;have b2:=HB2.out.cell 2;have b3:=HB2.out.cell 3;by_cases hvl:v<lo
    ·have hk0:¬ 0<k:=fun h=>by have:=hlo h;omega
     have a1:decide ((0:Int)<ki)=false:=decide_eq_false (by have:=HKI.out;omega);by_cases hvh:hi<v
     ·omega
     clear hlo hhi hla hk0;go_wp2;go_meet;exact⟨rfl,HE2.out,HX2.out⟩
    by_cases hvh:hi<v
    ·have hk1:¬ k+1<l.length:=fun h=>by have:=hhi h;omega
     have a2:decide (ki<(la:Int))=false:=decide_eq_false (by have:=HKI.out;omega);clear hlo hhi hla hk1;go_wp2;go_meet;exact⟨rfl,HE2.out,HX2.out⟩
    clear hlo hhi hla;go_wp2;go_meet;exact⟨rfl,HE2.out,HX2.out⟩
   case rest=>
    obtain⟨hcv,hE2,hX2⟩:=hcut;subst hcv;have HE2:=Wz hE2;have HB2:=Wz (HB0.out.ext hE2);have HA2:=Wz (HA0.out.ext hE2);have HX2:=Wz hX2;clear hE2 hX2 hlo hhi HX1 HE1 HBr HAr HE HV;by_cases hk0:k=0
    ·have a1:decide ((0:Int)<ki)=false:=decide_eq_false (by have:=HKI.out;omega);clear hk0;go_wp2;refine BW (by kernel_rfl) (by kernel_rfl) ?_
     repeat (go_big_quiet_step (fail))
     refine wpQuiet_nil ?_;intro _ hw';obtain⟨⟨Wq,hq⟩,hw''⟩:=hw';subst hw'';have HQ:=Wz hq;clear hq;go_wp2;go_roundw
     case rel=>exact⟨k+1,by omega,by rw[HKI.out];go_num,AA HE2.out HQ.out⟩
     have:=HKI.out;simp[intOf];omega
    obtain⟨m,hm⟩:∃ m,k=m+1:=⟨k-1,by omega⟩;obtain⟨s,hs⟩:∃ s,l[m]? = some s:=⟨_,aX (by omega)⟩;have hprev:=HPREV.out m s hm hs;have HVM:=Wz (fun W h1 h2=>HVAL.out bp m s hs W h1 h2);obtain⟨g2,d2',hA2,hg2,s0,s1,s2,s3,s4⟩:=HA2.out.c5 hs;injection hA2 with hA3 _ hd3
    injection hA3 with hA3
    injection hA3 with hA3
    subst hA3 hd3;have hk9:(0:Int)<ki:=by have:=HKI.out;omega
    have e4:IntKind.i64.wrap (ki-1)=(m:Int):=by rw[HKI.out,bC _ (by omega)];omega
    have m0:(0:Int)<=(m:Int):=by omega
    have m1:(m:Int)<(l.length:Int):=by omega
    obtain⟨u,hu⟩:∃ u,u=s.col j:=⟨_,rfl⟩;rw[<- hu]at HVM hprev;obtain⟨sk,hsk⟩:∃ sk,sk=s.k:=⟨_,rfl⟩;rw[<- hsk]at hprev s1;have x1:=HX2.out.cell 1;have p6:=HB2.out.cell 6;have x1':=DZ.cell x1;have p6':=DZ.cell p6;have s1':=DZ.cell s1;clear hm hs hu hsk s0 s1 s2 s3 s4 x1 p6 hg2 hk0;rcases hprev with hlt2|⟨heq,hlt2⟩
    ·have b1:¬ v<u:=by omega
     have b3:decide (v<u)=false:=decide_eq_false b1;have b2:(v == u)=false:=by rw[beq_eq_false_iff_ne];omega
     clear hlt2;go_wp2;refine BW (by kernel_rfl) (by kernel_rfl) ?_
     repeat (go_big_quiet_step (first|(go_at_call 155;with_reducible exact Calls.quietB (HVM.out _ (HB2.out.ext (DZ.h _)) (HA2.out.ext (DZ.h _))))))
     refine wpQuiet_nil ?_;intro _ hw';obtain⟨⟨Wq,hq⟩,hw''⟩:=hw';subst hw'';have HQ:=Wz hq;clear hq;go_wp2;go_roundw
     case rel=>exact⟨k+1,by omega,by rw[HKI.out];go_num,AA HE2.out HQ.out⟩
     have:=HKI.out;simp[intOf];omega
    subst heq;have b1:¬ y1<=sk:=by omega
    clear hlt2;go_wp2;refine BW (by kernel_rfl) (by kernel_rfl) ?_
    repeat (go_big_quiet_step (first|(go_at_call 155;with_reducible exact Calls.quietB (HVM.out _ (HB2.out.ext (DZ.h _)) (HA2.out.ext (DZ.h _))))))
    refine wpQuiet_nil ?_;intro _ hw';obtain⟨⟨Wq,hq⟩,hw''⟩:=hw';subst hw'';have HQ:=Wz hq;clear hq;go_wp2;go_roundw
    case rel=>exact⟨k+1,by omega,by rw[HKI.out];go_num,AA HE2.out HQ.out⟩
    have:=HKI.out;simp[intOf];omega
  have q2:decide ((k:Int)<(l.length:Int))=false:=decide_eq_false (by omega);have e5:IntKind.i64.wrap (f+(l.length:Int))=f+(l.length:Int):=bC _ (by omega);have b2:=HBr.out.cell 2;have b3:=HBr.out.cell 3;have b4:=HBr.out.cell 4;have b5:=HBr.out.cell 5;have b2':=DZ.cell b2;have b3':=DZ.cell b3;have b4':=DZ.cell b4;have b5':=DZ.cell b5;have HB2:=HBr;have HA2:=HAr;have hla:=HLE.out;clear b2 b3 b4 b5 HBr HAr;by_cases hf0:f=0
  ·subst hf0;clear e5;have e5:IntKind.i64.wrap (l.length:Int)=(l.length:Int):=bC _ (by omega);by_cases hn9:(l.length:Int)=n
   ·subst hn9;clear hla;go_wp2;refine BW (by kernel_rfl) (by kernel_rfl) ?_
    repeat (go_big_quiet_step (fail))
    refine wpQuiet_nil ?_;intro _ hw';obtain⟨⟨Wq,hq⟩,hw''⟩:=hw';subst hw'';have HQ:=Wz hq;clear hq;go_wp2;go_ret;exact⟨rfl,AA HE0.out (AA HE.out HQ.out)⟩
   obtain⟨rz,hrz,hrz2⟩:=HLA.out.resolve_left (by rw[Int.zero_add];exact hn9);have b6:((l.length:Int) == n)=false:=by simpa using hn9
   rw[show l.length-1=la by omega]at hrz;have HVZ:=Wz (fun W h1 h2=>HVAL.out bp la rz hrz W h1 h2);generalize rz.col j=vz at *;clear hn9 hla hrz;go_wp2;refine BW (by kernel_rfl) (by kernel_rfl) ?_
   repeat (go_big_quiet_step (first|(go_at_call 155;with_reducible exact Calls.quietB (HVZ.out _ (HB2.out.ext (DZ.h _)) (HA2.out.ext (DZ.h _))))))
   refine wpQuiet_nil ?_;intro _ hw';obtain⟨⟨Wq,hq⟩,hw''⟩:=hw';subst hw'';have HQ:=Wz hq;clear hq;go_wp2;go_ret;exact⟨rfl,AA HE0.out (AA HE.out HQ.out)⟩
  obtain⟨ra,hra,hra2⟩:=HFI.out.resolve_left hf0
  ·have b1:(f == 0)=false:=by simpa using hf0
   have hva:=fun W h1 h2=>HVAL.out bp 0 ra hra W h1 h2;rw[show(((0:Nat)):Int)=0 from rfl]at hva;have HVA:=Wz hva;clear hva;generalize ra.col j=va at *;clear hf0 hra;by_cases hn9:f+(l.length:Int)=n
   ·subst hn9;clear hla;go_wp2;refine BW (by kernel_rfl) (by kernel_rfl) ?_
    repeat (go_big_quiet_step (first|(go_at_call 155;with_reducible exact Calls.quietB (HVA.out _ (HB2.out.ext (DZ.h _)) (HA2.out.ext (DZ.h _))))))
    refine wpQuiet_nil ?_;intro _ hw';obtain⟨⟨Wq,hq⟩,hw''⟩:=hw';subst hw'';have HQ:=Wz hq;clear hq;go_wp2;go_ret;exact⟨rfl,AA HE0.out (AA HE.out HQ.out)⟩
   obtain⟨rz,hrz,hrz2⟩:=HLA.out.resolve_left hn9;have b6:(f+(l.length:Int) == n)=false:=by simpa using hn9
   rw[show l.length-1=la by omega]at hrz;have HVZ:=Wz (fun W h1 h2=>HVAL.out bp la rz hrz W h1 h2);generalize rz.col j=vz at *;clear hn9 hla hrz;go_wp2;refine BW (by kernel_rfl) (by kernel_rfl) ?_
   repeat (go_big_quiet_step (first|(go_at_call 155;with_reducible exact Calls.quietB (HVA.out _ (HB2.out.ext (DZ.h _)) (HA2.out.ext (DZ.h _))))|(go_at_call 155;with_reducible exact Calls.quietB (HVZ.out _ (HB2.out.ext (DZ.h _)) (HA2.out.ext (DZ.h _))))))
   refine wpQuiet_nil ?_;intro _ hw';obtain⟨⟨Wq,hq⟩,hw''⟩:=hw';subst hw'';have HQ:=Wz hq;clear hq;go_wp2;go_ret;exact⟨rfl,AA HE0.out (AA HE.out HQ.out)⟩
end
section
open Go.RowKit Go.Shelf
attribute [local go_sem ↓] AQ AU Go.wp_at_zero Go.wp_at_succ
theorem IG{α:Type}(q:α->Bool){l:List α}{k:Nat}{r:α}(h:l[k]? = some r):(l.take (k+1)).filter q=(l.take k).filter q++(if q r then [r]else []):=by
 rw[List.take_add_one,h,List.filter_append];cases hq:q r <;> simp[hq]
theorem Ur(p:RPT)(j:Nat)(hp:LI p j)(a b c:aP)(w:aQ)(ha:AR w a p.rows) :
  bA aW 143 #[.agg (p.nums a b c)] w fun e w'=>∃ v,e=aZ (.tuple #[v,aV true])/\BF (fun x=>w.heap.size<=x) w' v (CJ p j)/\aU w.heap.size w w':=by
 have HCO:=Wz (fun(W:aQ)(h:AR W a p.rows)=>Hk p j hp a b c W h);have hj4:=hp.col.2;have hj:=hp.col.1;have hlen:p.rows.length<=2000:=by have h1:=hp.len;have h2:=hp.n;have h3:=hp.f;omega
 have HRP:=Wz (show CJ p j=p.rows.filter (inP p j)from rfl);have HIN:=Wz (show ∀ r,inP p j r=(decide (p.lo<=r.col j) && decide (r.col j<=p.hi))from fun r=>rfl);generalize CJ p j=out at *;generalize inP p j=q at *;obtain⟨t,jj,lo,hi,n,f,l,ps,rts⟩:=p;dsimp only[RPT.nums]at *;subst hj;obtain⟨W0,hW0⟩:∃ W0,W0=w.alloc (aS #[J I t,J I (j:Int),J I lo,J I hi,J I n,J I f,a,b,c] 126):=⟨_,rfl⟩;have HE0:=Wz (show aU w.heap.size w W0 by rw[hW0];exact AC _ _);have HB0:=Wz (show Blk W0 w.heap.size 126 #[J I t,J I (j:Int),J I lo,J I hi,J I n,J I f,a,b,c]by rw[hW0];exact Blk.new _ _ _);have HA0:=Wz (ha.ext HE0.out);have HW0:=Wz hW0;obtain⟨A,d,rfl,-⟩:=ha;clear hW0 hp;go_enter Tryz.func143,Tryz.ntmps143;go_wp2_with fail
 rw[<- HW0.out];refine(HCO.out _ HA0.out).mono ?_;rintro e W1 ⟨rfl,hb1⟩;have HE1:=Wz (AA HE0.out hb1);have HB1:=Wz (HB0.out.ext hb1);have HA1:=Wz (HA0.out.ext hb1);have hz1:=HB1.out.lt;clear hb1 HE0 HB0 HA0 HW0 HCO;have b6:=HB1.out.cell 6;go_wp2;clear b6;go_loopw [4,6,7,14] (fun ov _ _ iv W=>∃(k:Nat) (o:List AD),k<=l.length/\iv=J I (k:Int)/\o=(l.take k).filter q/\W.ownsRow W1.heap.size 67 5 ov o.length (rc o)/\aU W1.heap.size W1 W) (fun _ _ _ iv _=>l.length-(intOf iv).toNat)
 case atStart=>exact⟨0,[],Nat.zero_le _,rfl,rfl,World.ownsRow_nil _ _ _ _,AF _⟩
 case round=>
  obtain⟨k,o,hk,rfl,ho,hown,hE⟩:=hrel;have HO:=Wz hown;have HE:=Wz hE;have HOF:=Wz ho;have HBr:=Wz (HB1.out.ext hE);have HAr:=Wz (HA1.out.ext hE);have hol:o.length<=k:=by rw[ho];exact Nat.le_trans (List.length_filter_le _ _) (by rw[List.length_take];omega)
  have hws:=hE.size;clear hown hE ho;by_cases hlt:k<l.length
  ·obtain⟨r,hr⟩:∃ r,l[k]? = some r:=⟨_,aX hlt⟩;have HTF:=Wz (IG q hr);have HV:=Wz (fun W:aQ=>BL r j hj4 W);have HQR:=Wz (HIN.out r);obtain⟨g,d',hA,hg,r0,r1,r2,r3,r4⟩:=HAr.out.c5 hr;injection hA with hA hn' hd'
   subst hA;subst hd';have HRC:=Wz (H6 o r);obtain⟨v,hv⟩:∃ v,v=r.col j:=⟨_,rfl⟩;rw[<- hv]at HV HQR;obtain⟨y,hy⟩:∃ y,y=r:=⟨_,rfl⟩;have HY:=Wz hy;rw[<- hy]at HRC HQR HTF;obtain⟨y0,y1,y2,y3,y4⟩:=r;dsimp only at *;have q0:(0:Int)<=(k:Int):=by omega
   have q1:(k:Int)<(l.length:Int):=by omega
   have q2:decide ((k:Int)<(l.length:Int))=true:=decide_eq_true q1;have e2:IntKind.i64.wrap ((k:Int)+1)=(k:Int)+1:=bC _ (by omega);have p1:=HBr.out.cell 1;have bl:=HBr.out.lt;have bl1:w.heap.size<wr.heap.size+1:=by omega
   clear hr hv hg hn' hy;go_wp2_with fail
   refine(HV.out _).mono ?_;rintro e W2 ⟨rfl,hb2⟩;have HX2:=Wz ((Blk.new wr 67 #[J I y0,J I y1,J I y2,J I y3,J I y4]).ext hb2);have HE2:=Wz (AA (AB HE.out (aS #[J I y0,J I y1,J I y2,J I y3,J I y4] 67)) hb2);have HO2:=Wz (AK (HO.out.alloc (aS #[J I y0,J I y1,J I y2,J I y3,J I y4] 67)) hb2);have hBr2:=HB1.out.ext HE2.out;have p2:=hBr2.cell 2;have p3:=hBr2.cell 3;have hz2:=HE2.out.size;clear hb2 r0 r1 r2 r3 r4 p1 hBr2;by_cases hin:lo<=v/\v<=hi
   ·obtain⟨h1,h2⟩:=hin;have HQT:=Wz (show q y=true by rw[HQR.out];simp[h1,h2]);have x0:=HX2.out.cell 0;have x1:=HX2.out.cell 1;have x2:=HX2.out.cell 2;have x3:=HX2.out.cell 3;have x4:=HX2.out.cell 4;obtain⟨ha,W4,hW4,v4,hv4,ho4,hg4⟩:=Sw W2 W1.heap.size hz2 u4 o.length (rc o) HO2.out (by omega) ⟨y0,y1,y2,y3,y4⟩;dsimp only at ha hW4 hv4 hg4;have HO4:=Wz ho4;have HE4:=Wz ((AB HE2.out (aS #[J I y0,J I y1,J I y2,J I y3,J I y4] 67)).grown hg4 (AB HE2.out _).size (fun k e=>(HO2.out.lt k e).1));clear ho4 hg4;go_wp2;go_roundw
    case rel=>exact⟨k+1,o++[y],by omega,by go_num,by rw[HTF.out,HQT.out,HOF.out];rfl,by rw[HRC.out,List.length_append,HY.out];exact HO4.out,HE4.out⟩
    simp[intOf];omega
   have HQT:=Wz (show q y=false by rw[HQR.out];by_cases h1:lo<=v <;> by_cases h2:v<=hi <;> simp_all);by_cases h1:lo<=v
   ·have h2:¬ v<=hi:=fun h=>hin ⟨h1,h⟩;clear hin;go_wp2;go_roundw
    case rel=>exact⟨k+1,o,by omega,by go_num,by rw[HTF.out,HQT.out,HOF.out];simp,HO2.out,HE2.out⟩
    simp[intOf];omega
   clear hin;go_wp2;go_roundw
   case rel=>exact⟨k+1,o,by omega,by go_num,by rw[HTF.out,HQT.out,HOF.out];simp,HO2.out,HE2.out⟩
   simp[intOf];omega
  have hkl:k=l.length:=by omega
  have q2:decide ((k:Int)<(l.length:Int))=false:=decide_eq_false (by omega);have HOE:=Wz (show o=out by rw[HOF.out,HRP.out,hkl,List.take_length]);obtain⟨Ao,co,hov⟩:=AI HO.out;subst hov;clear hkl;go_wp2;go_ret2;refine⟨_,rfl,?_,AA HE1.out HE.out⟩;rw[<- HOE.out];have h9:=CX HO.out;have hz9:=HE1.out.size;exact h9.mono (fun b hb _=>by omega)
end
end Go.Proofs.YtimoapjhepmehaaGreatDoor
