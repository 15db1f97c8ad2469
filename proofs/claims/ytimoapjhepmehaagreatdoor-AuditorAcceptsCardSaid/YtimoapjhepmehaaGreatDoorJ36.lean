/- Part 36: contracts that the last part uses. -/
import Derived.Test.YtimoapjhepmehaaGreatDoorJ34
import Derived.Test.YtimoapjhepmehaaGreatDoorJ35
import Derived.Deep.RegionHeld3
import Derived.Deep.Cut
set_option linter.unusedSimpArgs false
set_option linter.unusedVariables false
set_option maxHeartbeats 4000000
set_option maxRecDepth 100000
namespace Go.Proofs.YtimoapjhepmehaaGreatDoor
open Go.IntKind renaming i64->I
open Go.Value renaming int->J,slice->R,bool->gO
open Go.World renaming setCell->gP
open Go.RowKit renaming Below->gQ
open Go renaming World->gR,Value->gS
open Go.Obj renaming cells->gT
section
open Go.RowKit Go.Shelf
attribute [local go_sem ↓] Go.wp_at_zero Go.wp_at_succ
theorem C9{W V:gR}{B g sz n:Nat}{t e:TypeId}{cs:Array gS}{v:gS}{xs:List gS}(h:W.ownsRow B e sz v n xs)(hb:Blk W g t cs)(ht:t≠e)(k:Ah g g W V):V.ownsRow B e sz v n xs:=by
 refine h.kept (row:=some g) ⟨k.os,k.tape,k.output,k.size,fun i hi hn=>k.block i hi (fun e=>hn (by rw[e])) (fun e=>hn (by rw[e]))⟩ ?_;rcases h.2 with⟨rfl,_⟩|⟨g',cap,cur,rfl,_,hgg,_⟩
 ·exact .inl rfl
 refine .inr fun e1=>?_;have e2:g'=g:=by simpa[Value.ownBlock]using e1
 subst e2;unfold Blk at hb;rw[hgg]at hb;injection hb with hb
 injection hb with _ hb _
 exact ht hb.symm
theorem Fs{w W:gR}{b off n:Nat}(hf:IE w b off n)(h:gQ w.heap.size w W):BD W b off n=BD w b off n:=by
 apply List.ext_getElem?;intro i;by_cases hi:i<n
 ·rw[BN hi,BN hi];obtain⟨x,hx,_⟩:=hf i hi;rw[hx,AG hx h]
 rw[List.getElem?_eq_none (by rw[BH];omega),List.getElem?_eq_none (by rw[BH];omega)]
theorem Cj.fullN{W:gR}{g c n:Nat}{P:List RPT}(h:Cj (fun _=>True) W (R (some ⟨g,0,none⟩) n c) P)(hn:n=P.length):IE W g 0 (n*9):=fun i hi=>by
 have h1:i / 9<P.length:=by omega
 obtain⟨a,b,d,hs,h2⟩:=h.get (List.getElem?_eq_getElem h1);have h3:=h2 (i % 9) (by omega);rw[show i / 9*9+i % 9=i by omega]at h3;rw[Nat.zero_add,h3];obtain⟨_,_,rfl,_⟩:=hs.rows;obtain⟨_,_,rfl,_⟩:=hs.paths;obtain⟨_,_,rfl,_⟩:=hs.roots;have hk:i % 9<9:=by omega
 generalize i % 9=q at hk;rcases q with _|_|_|_|_|_|_|_|_|q <;> first|exact⟨_,rfl,rfl⟩|omega
theorem T5{w V:gR}{B g c n:Nat}{P:List RPT}{u:gS}(hO:Cj (fun _=>True) w (R (some ⟨g,0,none⟩) n c) P)(hn:n=P.length)(h0:0<n)(hE:gQ w.heap.size w V)(hu:V.ownsRow B 126 9 u n (BD w g 0 (n*9))):Cj (fun _=>True) V u P/\Ga u:=by
 obtain⟨g2,cap,rfl,_,h2,hcap,hx⟩:=Bj hu h0;refine⟨⟨_,cap,by rw[hn],fun _=>⟨g2,rfl,h2,trivial,fun i p hi=>?_⟩⟩,fun A m c h=>by injection h with _ h5 h6;subst h5 h6;exact hcap⟩;obtain⟨a,b,d,hs,h3⟩:=hO.get hi;have hil:=(List.getElem?_eq_some_iff.1 hi).1;refine⟨a,b,d,hs.ext hE,fun k hk=>?_⟩;have h4:=h3 k hk;have h5:k<(p.nums a b d).size:=hk;rw[Array.getElem?_eq_getElem h5]at h4 ⊢;refine hx (i*9+k) _ ?_;rw[BN (by omega),Nat.zero_add,h4];rfl
def KE(kd t lo hi o:Int)(j b:Nat)(u:gS)(val:Int)(fd:Bool)(since until_ base:Int)(rv lv:gS):Array gS:=#[J I kd,J I t,J I (j:Int),J I lo,J I hi,J I (b:Int),J I o,u,J I val,gO fd,J I since,J I until_,J I base,rv,lv]
theorem Cc.mono{x:Option Bg}{S T:Nat->Prop}{w:gR}{ok:Bool}{u:gS}{val:Int}{fd:Bool}(h:Cc x S w ok u val fd)(k:∀ b,S b->T b):Cc x T w ok u val fd:=by
 cases x with
 | none=>exact h
 | some r=>exact⟨h.1,h.2.1,h.2.2.1,h.2.2.2.mono fun b hb _=>k b hb⟩
theorem Cc.ext2{x:Option Bg}{S:Nat->Prop}{w W:gR}{ok:Bool}{u:gS}{val:Int}{fd:Bool}{z:Nat}(h:Cc x S w ok u val fd)(k:Ah z z w W)(hz:¬ S z):Cc x S W ok u val fd:=by
 cases x with
 | none=>exact h
 | some r=>exact⟨h.1,h.2.1,h.2.2.1,h.2.2.2.keep (fun b hb hl=>k.block b hl (fun e=>hz (e ▸ hb)) (fun e=>hz (e ▸ hb))) k.size⟩
set_option maxHeartbeats 8000000 in
theorem T6(kd t lo hi o:Int)(j b:Nat)(hq:BU.Ok ⟨kd,t,(j:Int),lo,hi,(b:Int),o⟩)(Ls:List (List AH))(hLs:Ls.length<=64)(base:Nat)(hbase:base<=1000)(hG:∀ L ∈ Ls,L.length<=8/\∀ c ∈ L,c.ok/\c.turns=true)(P:List RPT)(rows0 oth:List AD)(hP:T2 kd t lo hi o j b P rows0 oth)(r0:Bg)(hF:LO ⟨kd,t,(j:Int),lo,hi,(b:Int),o⟩ rows0 (Pi kd oth) r0)(hl0:r0.rows.length<=5000)(rv lv:gS)(w:gR)(hrv:Cj (fun _=>True) w rv P)(hcap:Ga rv)(hlv:En w lv (base+1) Ls) :
  Calls Tryz.prog 27 #[.agg #[J I kd,J I t,J I (j:Int),J I lo,J I hi,J I (b:Int),J I o,J I 0,J I (base:Int),rv],lv] w fun e w'=>((C2 kd t lo hi o j b r0 Ls=none/\e=.returned (.tuple #[.agg #[J I 0,J I 0,J I 0,J I 0,J I 0,J I 0,J I 0,R none 0 0,J I 0,gO false,J I 0,J I 0,J I 0,R none 0 0,R none 0 0],gO false]))∨∃ r,C2 kd t lo hi o j b r0 Ls=some r/\∃ u rv' lv',e=.returned (.tuple #[.agg (KE kd t lo hi o j b u r.val r.found (Cl kd t lo hi o j b base Ls Ls.length:Int) ((base:Int)+(Ls.length:Int)) (base:Int) rv' lv'),gO true])/\BF (fun x=>w.heap.size<=x) w' u r.rows/\Cj (fun _=>True) w' rv' P/\Ga rv'/\Bt w' lv' (base+1) Ls)/\gQ w.heap.size w w':=by
 have HST:=Wz (fun(W:gR)(h:Cj (fun _=>True) W rv P)=>Wr kd t lo hi o j b hq P rows0 oth hP r0 hF rv W h hcap);have HRP:=Wz (fun(u v:gS)(W:gR)(h1:AR W u r0.rows)(h2:En W v (base+1) Ls)=>VS kd t lo hi o j b hq Ls (by omega) base hbase hG r0 hl0 u v W h1 h2);obtain⟨out,hout⟩:∃ out,out=C2 kd t lo hi o j b r0 Ls:=⟨_,rfl⟩;obtain⟨sv,hsv⟩:∃ sv:Int,sv=(Cl kd t lo hi o j b base Ls Ls.length:Int):=⟨_,rfl⟩;rw[<- hout,<- hsv]at HRP;rw[<- hout,<- hsv];obtain⟨rows,val0,fd0⟩:=r0;dsimp only at *;have HRV:=Wz hrv;have HLV:=Wz (fun(W:gR)(h:gQ w.heap.size w W)=>hlv.ext h);obtain⟨np,hnp⟩:∃ np,np=P.length:=⟨_,rfl⟩;have hn0:0<np:=by obtain⟨p,ps,e,_⟩:=hP.ex;rw[hnp,e];simp
 have hn1:np<=61:=by
  obtain⟨p,ps,e,_,_,_,h1,h2,_⟩:=hP.ex;have h3:=hP.len;rw[hnp,e,List.length_cons];by_cases h7:kd=7
  ·have:=h2 h7;omega
  rw[h1 h7];simp
 obtain⟨g,c,rfl⟩:∃ g c,rv=R (some ⟨g,0,none⟩) np c:=by
  obtain⟨A,c,rfl,h⟩:=hrv;obtain⟨g,rfl,_⟩:=h (by omega);exact⟨g,c,by rw[hnp]⟩
 obtain⟨XS,hXS⟩:∃ XS,XS=BD w g 0 (np*9):=⟨_,rfl⟩;have hfl:=hrv.fullN hnp;have HCP:=Wz (fun(W:gR)(h:gQ w.heap.size w W)=>(TP g 0 np c hn0 (by omega) W ((hrv.ext h).fullN hnp)).mono (fun e w' ⟨u,h1,h2,h3⟩=>show ∃ A m u,e=Ending.returned u/\u=Value.slice A np m/\(∃ B,w'.ownsRow B 126 9 u np XS)/\gQ W.heap.size W w' from by
  obtain⟨g2,k,e1,_,_,_,h4,_⟩:=h2;exact⟨_,_,u,h1,e1,⟨_,by rw[hXS,<- Fs hfl h];exact h4⟩,h3⟩))
 have HSX:=Wz (fun(V:gR)(B:Nat)(u:gS)(h:gQ w.heap.size w V)(h2:V.ownsRow B 126 9 u np XS)=>T5 hrv hnp hn0 h (by rw[<- hXS];exact h2));obtain⟨A',c',rfl,-⟩:=id hlv;have HCR:=Wz (fun(W:gR)(h:gQ w.heap.size w W)=>(PU Ls (base+1) (R A' Ls.length c') (by omega) W (hlv.ext h)).mono (fun e w' ⟨u,xs,h1,h2,h3,h4⟩=>show ∃ A m xs u,e=Ending.returned u/\u=Value.slice A Ls.length m/\(∃ B,w'.ownsRow B 75 2 u Ls.length xs)/\(∀(V:gR) (B:Nat),V.ownsRow B 75 2 u Ls.length xs->gQ w.heap.size w V->Bt V u (base+1) Ls)/\gQ W.heap.size W w' from by
  obtain⟨A,m,e1⟩:=AI h2;refine⟨A,m,xs,u,h1,e1,⟨_,h2⟩,fun V B hV hE=>?_,h4⟩;by_cases h0:0<Ls.length
  ·refine Rf (B:=B) hlv hE h0 (fun b off c e=>?_);obtain⟨g2,o2,c2,e2,hf⟩:=hlv.full h0;rw[e]at e2;injection e2 with e2 _ _
   injection e2 with e2
   injection e2 with e3 e4
   subst e3 e4;rw[h3 h0 b off c e,Fs hf h]at hV;exact hV
  have hnil:Ls=[]:=List.length_eq_zero_iff.1 (by omega);subst hnil;subst e1;exact⟨A,m,rfl,Nat.zero_le _,fun h=>absurd h (by simp)⟩))
 obtain⟨n,hn⟩:∃ n,n=Ls.length:=⟨_,rfl⟩;have hn64:n<=64:=by omega
 obtain⟨un,hun⟩:∃ un:Int,un=(base:Int)+(n:Int):=⟨_,rfl⟩;rw[<- hn]at HCR HLV ⊢;rw[<- hun];have hwu:IntKind.i64.wrap ((base:Int)+(n:Int))=un:=by rw[IntWalk.i64_in _ (by omega),hun]
 have dn:decide ((64:Int)<(n:Int))=false:=decide_eq_false (by omega);have HN:=Wz hn;clear hq hG hP hF hl0 hrv hcap hlv hout hsv hn hun hXS hfl hnp hn0 hn1;obtain⟨W0,hW0⟩:∃ W0,W0=(w.alloc (gT #[J I kd,J I t,J I (j:Int),J I lo,J I hi,J I (b:Int),J I o,J I 0,J I (base:Int),R (some ⟨g,0,none⟩) np c] 87)).alloc (gT #[J I 0,J I 0,J I 0,J I 0,J I 0,J I 0,J I 0,R none 0 0,J I 0,gO false,J I 0,J I 0,J I 0,R none 0 0,R none 0 0] 39):=⟨_,rfl⟩;have hE0:gQ w.heap.size w W0:=by rw[hW0];exact AB (AC _ _) _
 have HB0:=Wz (show Blk W0 w.heap.size 87 #[J I kd,J I t,J I (j:Int),J I lo,J I hi,J I (b:Int),J I o,J I 0,J I (base:Int),R (some ⟨g,0,none⟩) np c]by rw[hW0];exact(Blk.new _ _ _).alloc _);have HR0:=Wz (show Blk W0 (w.heap.size+1) 39 #[J I 0,J I 0,J I 0,J I 0,J I 0,J I 0,J I 0,R none 0 0,J I 0,gO false,J I 0,J I 0,J I 0,R none 0 0,R none 0 0]by rw[hW0];exact Blk.new' _ _ _ (by simp));have HE0:=Wz hE0;have HW0:=Wz hW0;have HV0:=Wz (show Cj (fun _=>True) W0 (R (some ⟨g,0,none⟩) np c) P from HRV.out.ext hE0);clear hW0 hE0 HRV;go_enter Tryz.func27,Tryz.ntmps27;go_wp2_with fail
 rw[<- HW0.out];refine(HST.out _ HV0.out).mono ?_;rintro e W1 ⟨u1,rfl,hu1,hb1⟩;obtain⟨A1,c1,rfl,-⟩:=id hu1;have HVy:=Wz (hu1.ext (AC W1 (gT #[R A1 rows.length c1,J I val0,gO fd0] 36)));have HE1:=Wz (AA HE0.out hb1);have HB1:=Wz (HB0.out.ext hb1);have HR1:=Wz (HR0.out.ext hb1);clear hb1 hu1 HW0 HE0 HB0 HR0 HV0 HST;go_wp2_with fail
 have HEy:=Wz (AB HE1.out (gT #[R A1 rows.length c1,J I val0,gO fd0] 36));have HBy:=Wz (HB1.out.alloc (gT #[R A1 rows.length c1,J I val0,gO fd0] 36));have HRy:=Wz (HR1.out.alloc (gT #[R A1 rows.length c1,J I val0,gO fd0] 36));have HSy:=Wz (Blk.new W1 36 #[R A1 rows.length c1,J I val0,gO fd0]);clear HE1 HB1 HR1;generalize World.alloc W1 (gT #[R A1 rows.length c1,J I val0,gO fd0] 36)=Y at *;generalize W1.heap.size=bs at *;obtain⟨e0,e1,e2,e3,e4,e5,e6,e7,e8,e9⟩:=Ns HBy.out;have HCP:=Wz (fun(W:gR)(h:gQ Y.heap.size Y W)=>HCP.out W (AA HEy.out h));have HCR:=Wz (fun(W:gR)(h:gQ Y.heap.size Y W)=>HCR.out W (AA HEy.out h));refine(fun(HS:Go.RowKit.Hid (∀(V:gR) (bq:Nat) (Ar:Option Addr) (cr:Nat) (Al:Option Addr) (cl B1 B2:Nat) (xs:List gS),Go.RowKit.Hid (Blk V bq 39 #[J I kd,J I t,J I (j:Int),J I lo,J I hi,J I (b:Int),J I o,R none 0 0,J I 0,gO false,J I 0,J I un,J I (base:Int),R Ar np cr,R Al n cl])->Go.RowKit.Hid (gQ Y.heap.size Y V)->Go.RowKit.Hid (Y.heap.size<=bq)->Go.RowKit.Hid (V.ownsRow B1 126 9 (R Ar np cr) np XS/\V.ownsRow B2 75 2 (R Al n cl) n xs)->(∀(V:gR) (B:Nat),V.ownsRow B 75 2 (R Al n cl) n xs->gQ w.heap.size w V->Bt V (R Al n cl) (base+1) Ls)->(?TT:gR->Nat->Option Addr->Nat->Option Addr->Nat->Prop) V bq Ar cr Al cl))=>?leaf) (Wz ?rest)
 case leaf=>
  go_region_held3 (fun w'=>w'.cell? ⟨w.heap.size,0,none⟩=some (J I kd)/\w'.cell? ⟨w.heap.size,1,none⟩=some (J I t)/\w'.cell? ⟨w.heap.size,2,none⟩=some (J I (j:Int))/\w'.cell? ⟨w.heap.size,3,none⟩=some (J I lo)/\w'.cell? ⟨w.heap.size,4,none⟩=some (J I hi)/\w'.cell? ⟨w.heap.size,5,none⟩=some (J I (b:Int))/\w'.cell? ⟨w.heap.size,6,none⟩=some (J I o)/\w'.cell? ⟨w.heap.size,8,none⟩=some (J I (base:Int))/\w'.cell? ⟨w.heap.size,9,none⟩=some (R (some ⟨g,0,none⟩) np c)/\gQ Y.heap.size Y w')
   (first|with_reducible assumption|exact Ut HBy.out (by repeat (first|with_reducible refine AB ?_ _|with_reducible refine Below.drew ?_|with_reducible assumption|with_reducible exact AF _|refine AE ?_ (by first|exact Nat.le_refl _|exact hyz) _)))
   (first
    |(go_at_call 54;(with_reducible refine(HCP.out _ ?_).mono ?_);(exact Uu (by assumption));rintro e Z ⟨Ar,cr,ur,rfl,rfl,⟨B1,hg'⟩,hb'⟩;have hYZ:=AA (Uu (by assumption)) hb';have hyz:=hYZ.size;try (have hbz:=(show Blk Z Y.heap.size 39 #[J I 0,J I 0,J I 0,J I 0,J I 0,J I 0,J I 0,R none 0 0,J I 0,gO false,J I 0,J I 0,J I 0,R none 0 0,R none 0 0]from((Blk.new Y _ _).drew).ext hb')))
    |(go_at_call 55;(with_reducible refine(HCR.out _ ?_).mono ?_);(exact Uu (by assumption));rintro e Z2 ⟨Al,cl,xs,ul,rfl,rfl,⟨B2,hl2⟩,hxs,hb2⟩;have hYZ2:=AA (Uu (by assumption)) hb2;(first|(have hg2:=AK hg' hb2)|(have hg2:=AK (AK hg' (AC _ _)) hb2));(first|(have hbx:=(show Blk Z2 Y.heap.size 39 #[J I 0,J I 0,J I 0,J I 0,J I 0,J I 0,J I 0,R none 0 0,J I 0,gO false,J I 0,J I 0,J I 0,R none 0 0,R none 0 0]from hbz.ext hb2);have bx0:=hbx.cell 0;have bf0:=hbx.frozen 0;have bx1:=hbx.cell 1;have bf1:=hbx.frozen 1;have bx2:=hbx.cell 2;have bf2:=hbx.frozen 2;have bx3:=hbx.cell 3;have bf3:=hbx.frozen 3;have bx4:=hbx.cell 4;have bf4:=hbx.frozen 4;have bx5:=hbx.cell 5;have bf5:=hbx.frozen 5;have bx6:=hbx.cell 6;have bf6:=hbx.frozen 6;have bx7:=hbx.cell 7;have bf7:=hbx.frozen 7;have bx8:=hbx.cell 8;have bf8:=hbx.frozen 8;have bx9:=hbx.cell 9;have bf9:=hbx.frozen 9;have bx10:=hbx.cell 10;have bf10:=hbx.frozen 10;have bx11:=hbx.cell 11;have bf11:=hbx.frozen 11;have bx12:=hbx.cell 12;have bf12:=hbx.frozen 12;have bx13:=hbx.cell 13;have bf13:=hbx.frozen 13;have bx14:=hbx.cell 14;have bf14:=hbx.frozen 14;have HBX:=Wz hbx;clear hbx)|(have hbx:=(show Blk Z2 Z.heap.size 39 #[J I 0,J I 0,J I 0,J I 0,J I 0,J I 0,J I 0,R none 0 0,J I 0,gO false,J I 0,J I 0,J I 0,R none 0 0,R none 0 0]from(Blk.new Z _ _).ext hb2);have bx0:=hbx.cell 0;have bf0:=hbx.frozen 0;have bx1:=hbx.cell 1;have bf1:=hbx.frozen 1;have bx2:=hbx.cell 2;have bf2:=hbx.frozen 2;have bx3:=hbx.cell 3;have bf3:=hbx.frozen 3;have bx4:=hbx.cell 4;have bf4:=hbx.frozen 4;have bx5:=hbx.cell 5;have bf5:=hbx.frozen 5;have bx6:=hbx.cell 6;have bf6:=hbx.frozen 6;have bx7:=hbx.cell 7;have bf7:=hbx.frozen 7;have bx8:=hbx.cell 8;have bf8:=hbx.frozen 8;have bx9:=hbx.cell 9;have bf9:=hbx.frozen 9;have bx10:=hbx.cell 10;have bf10:=hbx.frozen 10;have bx11:=hbx.cell 11;have bf11:=hbx.frozen 11;have bx12:=hbx.cell 12;have bf12:=hbx.frozen 12;have bx13:=hbx.cell 13;have bf13:=hbx.frozen 13;have bx14:=hbx.cell 14;have bf14:=hbx.frozen 14;have HBX:=Wz hbx;clear hbx)|skip)))
  all_goals
   first
   |(generalize hV:(gP (gP (gP (gP (gP (gP (gP (gP (gP (gP (gP (gP (gP (gP (gP (Z2) ⟨Y.heap.size,0,none⟩ (J I kd)) ⟨Y.heap.size,1,none⟩ (J I t)) ⟨Y.heap.size,2,none⟩ (J I (j:Int))) ⟨Y.heap.size,3,none⟩ (J I lo)) ⟨Y.heap.size,4,none⟩ (J I hi)) ⟨Y.heap.size,5,none⟩ (J I (b:Int))) ⟨Y.heap.size,6,none⟩ (J I o)) ⟨Y.heap.size,7,none⟩ (R none 0 0)) ⟨Y.heap.size,8,none⟩ (J I 0)) ⟨Y.heap.size,9,none⟩ (gO false)) ⟨Y.heap.size,10,none⟩ (J I 0)) ⟨Y.heap.size,11,none⟩ (J I un)) ⟨Y.heap.size,12,none⟩ (J I (base:Int))) ⟨Y.heap.size,13,none⟩ (R Ar np cr)) ⟨Y.heap.size,14,none⟩ (R Al n cl))=V
     have HPv:=Wz (show Blk V Y.heap.size 39 #[J I kd,J I t,J I (j:Int),J I lo,J I hi,J I (b:Int),J I o,R none 0 0,J I 0,gO false,J I 0,J I un,J I (base:Int),R Ar np cr,R Al n cl]by subst hV;exact IJ HBX.out);have HEv:=Wz (show gQ Y.heap.size Y V by subst hV;exact IK hYZ2 (Nat.le_refl _));have HGv:=Wz (show V.ownsRow B1 126 9 (R Ar np cr) np XS/\V.ownsRow B2 75 2 (R Al n cl) n xs by subst hV;exact⟨C9 hg2 HBX.out (by decide) (EH _ _ _ _ _ _ _ _ _ _ _ _ _ _ _ _ _),C9 hl2 HBX.out (by decide) (EH _ _ _ _ _ _ _ _ _ _ _ _ _ _ _ _ _)⟩);clear bx0 bf0 bx1 bf1 bx2 bf2 bx3 bf3 bx4 bf4 bx5 bf5 bx6 bf6 bx7 bf7 bx8 bf8 bx9 bf9 bx10 bf10 bx11 bf11 bx12 bf12 bx13 bf13 bx14 bf14;clear hV HBX hYZ2 hg2 hl2 hb2 hYZ hyz hg' hb' hbz;generalize hbq:Y.heap.size=bq at HPv ⊢;have HLq:=Wz (show Y.heap.size<=bq by omega);clear hbq)
   |(generalize hV:(gP (gP (gP (gP (gP (gP (gP (gP (gP (gP (gP (gP (gP (gP (gP (Z2) ⟨Z.heap.size,0,none⟩ (J I kd)) ⟨Z.heap.size,1,none⟩ (J I t)) ⟨Z.heap.size,2,none⟩ (J I (j:Int))) ⟨Z.heap.size,3,none⟩ (J I lo)) ⟨Z.heap.size,4,none⟩ (J I hi)) ⟨Z.heap.size,5,none⟩ (J I (b:Int))) ⟨Z.heap.size,6,none⟩ (J I o)) ⟨Z.heap.size,7,none⟩ (R none 0 0)) ⟨Z.heap.size,8,none⟩ (J I 0)) ⟨Z.heap.size,9,none⟩ (gO false)) ⟨Z.heap.size,10,none⟩ (J I 0)) ⟨Z.heap.size,11,none⟩ (J I un)) ⟨Z.heap.size,12,none⟩ (J I (base:Int))) ⟨Z.heap.size,13,none⟩ (R Ar np cr)) ⟨Z.heap.size,14,none⟩ (R Al n cl))=V
     have HPv:=Wz (show Blk V Z.heap.size 39 #[J I kd,J I t,J I (j:Int),J I lo,J I hi,J I (b:Int),J I o,R none 0 0,J I 0,gO false,J I 0,J I un,J I (base:Int),R Ar np cr,R Al n cl]by subst hV;exact IJ HBX.out);have HEv:=Wz (show gQ Y.heap.size Y V by subst hV;exact IK hYZ2 hyz);have HGv:=Wz (show V.ownsRow B1 126 9 (R Ar np cr) np XS/\V.ownsRow B2 75 2 (R Al n cl) n xs by subst hV;exact⟨C9 hg2 HBX.out (by decide) (EH _ _ _ _ _ _ _ _ _ _ _ _ _ _ _ _ _),C9 hl2 HBX.out (by decide) (EH _ _ _ _ _ _ _ _ _ _ _ _ _ _ _ _ _)⟩);clear bx0 bf0 bx1 bf1 bx2 bf2 bx3 bf3 bx4 bf4 bx5 bf5 bx6 bf6 bx7 bf7 bx8 bf8 bx9 bf9 bx10 bf10 bx11 bf11 bx12 bf12 bx13 bf13 bx14 bf14;clear hV HBX hYZ2 hg2 hl2 hb2 hYZ hg' hb';generalize hbq:Z.heap.size=bq at HPv ⊢;have HLq:=Wz (show Y.heap.size<=bq by omega);clear hbq hyz)
   |(generalize hV:World.alloc Z2 (gT #[J I kd,J I t,J I (j:Int),J I lo,J I hi,J I (b:Int),J I o,R none 0 0,J I 0,gO false,J I 0,J I un,J I (base:Int),R Ar np cr,R Al n cl] 39)=V
     have HPv:=Wz (show Blk V Z2.heap.size 39 #[J I kd,J I t,J I (j:Int),J I lo,J I hi,J I (b:Int),J I o,R none 0 0,J I 0,gO false,J I 0,J I un,J I (base:Int),R Ar np cr,R Al n cl]by subst hV;exact Blk.new _ _ _);have HEv:=Wz (show gQ Y.heap.size Y V by subst hV;exact AB hYZ2 _);have HGv:=Wz (show V.ownsRow B1 126 9 (R Ar np cr) np XS/\V.ownsRow B2 75 2 (R Al n cl) n xs by subst hV;exact⟨AK hg2 (AC _ _),AK hl2 (AC _ _)⟩);have hyz2:=hYZ2.size;clear hV hYZ2 hg2 hl2 hb2 hYZ hyz hg' hb';generalize hbq:Z2.heap.size=bq at HPv ⊢;have HLq:=Wz (show Y.heap.size<=bq by omega);clear hbq hyz2)
  all_goals exact HS.out V bq Ar cr Al cl B1 B2 xs HPv HEv HLq HGv hxs
 case rest=>
  intro V bq Ar cr Al cl B1 B2 xs HPv HEv HLq HGv hxs;have HXS:=Wz hxs;have HLw:=Wz (show w.heap.size<=bq/\w.heap.size+1≠bq by have:=HEy.out.size;have:=HRy.out.lt;have:=HLq.out;omega);have HBv:=Wz (HBy.out.ext HEv.out);have HRv:=Wz (HRy.out.ext HEv.out);have HSv:=Wz (HSy.out.ext HEv.out);have HEw:=Wz (AA HEy.out HEv.out);clear e0 e1 e2 e3 e4 e5 e6 e7 e8 e9 HLq hxs HCP HCR hwu dn;obtain⟨e0,e1,e2,e3,e4,e5,e6,e7,e8,e9⟩:=Ns HBv.out;obtain⟨s0,s1,s2⟩:=TX HSv.out;go_wp2_with fail
  refine(HRP.out _ _ _ (HVy.out.ext HEv.out) (HLV.out _ HEw.out)).mono ?_;rintro e U ⟨Au,m,cu,vv,ff,s9,ok,rfl,hu5,hs5,hbu⟩;have HP5:=Wz (hu5.mono (T:=fun x=>w.heap.size<=x/\x≠bq/\x≠w.heap.size+1) (fun x hx=>⟨Nat.le_trans HEw.out.size hx,by have:=HPv.out.lt;omega,by have:=HRv.out.lt;omega⟩));have HS5:=Wz hs5;have HPu:=Wz (HPv.out.ext hbu);have HRu:=Wz (HRv.out.ext hbu);have HGu:=Wz (And.intro (AK HGv.out.1 hbu) (AK HGv.out.2 hbu));have HEu:=Wz (AA HEw.out hbu);clear hu5 hs5 hbu e0 e1 e2 e3 e4 e5 e6 e7 e8 e9 s0 s1 s2 HBv HRv HSv HEw HPv HGv HBy HRy HSy HEy HEv HVy HRP HLV;have HI:=Wz II;have p7:U.cell? ⟨bq,7,none⟩=some (R none 0 0):=HPu.out.cell 7;have p8:U.cell? ⟨bq,8,none⟩=some (J I 0):=HPu.out.cell 8;have p9:U.cell? ⟨bq,9,none⟩=some (gO false):=HPu.out.cell 9;have p10:U.cell? ⟨bq,10,none⟩=some (J I 0):=HPu.out.cell 10;have pf7:=HPu.out.frozen 7;have pf8:=HPu.out.frozen 8;have pf9:=HPu.out.frozen 9;have pf10:=HPu.out.frozen 10;go_upto_region 6 with(fail)
  clear p7 p8 p9 p10 pf7 pf8 pf9 pf10;generalize hX4:(gP (gP (gP (gP (U) ⟨bq,7,none⟩ (R Au m cu)) ⟨bq,8,none⟩ (J I vv)) ⟨bq,9,none⟩ (gO ff)) ⟨bq,10,none⟩ (J I s9))=X4;have hX4':Ah bq bq U X4:=by subst hX4;exact Rg _ _ _ _ _ _
  have HPx:=Wz (show Blk X4 bq 39 #[J I kd,J I t,J I (j:Int),J I lo,J I hi,J I (b:Int),J I o,R Au m cu,J I vv,gO ff,J I s9,J I un,J I (base:Int),R Ar np cr,R Al n cl]by subst hX4;exact TY HPu.out);have HUx:=Wz (HP5.out.ext2 hX4' (fun h=>h.2.1 rfl));have HRx:=Wz (HRu.out.ext2 hX4' HLw.out.2 HLw.out.2);have HGx:=Wz (And.intro (C9 HGu.out.1 HPu.out (by decide) hX4') (C9 HGu.out.2 HPu.out (by decide) hX4'));have HEx:=Wz (Ah.below HEu.out HLw.out.1 HLw.out.1 hX4');clear hX4 hX4' HPu HRu HGu HEu HP5
  cases ok with
  | false=>
   have HNO:=Wz HUx.out.none;have H0:=Wz (show(#[J I 0,J I 0,J I 0,J I 0,J I 0,J I 0,J I 0,R none 0 0,J I 0,gO false,J I 0,J I 0,J I 0,R none 0 0,R none 0 0]:Array gS).all (·.oneCell')=true by simp[Value.oneCell']);go_wp2_with (refine AX rfl 39 (.tmp 4) (.tmp 55) rfl (w.heap.size+1) #[J I 0,J I 0,J I 0,J I 0,J I 0,J I 0,J I 0,R none 0 0,J I 0,gO false,J I 0,J I 0,J I 0,R none 0 0,R none 0 0] rfl rfl 39 #[J I 0,J I 0,J I 0,J I 0,J I 0,J I 0,J I 0,R none 0 0,J I 0,gO false,J I 0,J I 0,J I 0,R none 0 0,R none 0 0] HRx.out HI.out rfl H0.out ?_;intro X hbx hgx)
   have hX:=Ah.of_grown hgx;obtain⟨y0,y1,y2,y3,y4,y5,y6,y7,y8,y9,y10,y11,y12,y13,y14⟩:=CR hbx;exact bodyPost_ret (v:=.tuple #[.agg #[J I 0,J I 0,J I 0,J I 0,J I 0,J I 0,J I 0,R none 0 0,J I 0,gO false,J I 0,J I 0,J I 0,R none 0 0,R none 0 0],gO false]) (by simp[results,Tryz.results27,go_sem,y0,y1,y2,y3,y4,y5,y6,y7,y8,y9,y10,y11,y12,y13,y14]) rfl ⟨.inl ⟨HNO.out,rfl⟩,Ah.below HEx.out (by omega) (by omega) hX⟩
  | true=>
   obtain rfl:s9=sv:=HS5.out rfl;have H1:=Wz (show(#[J I kd,J I t,J I (j:Int),J I lo,J I hi,J I (b:Int),J I o,R Au m cu,J I vv,gO ff,J I s9,J I un,J I (base:Int),R Ar np cr,R Al n cl]:Array gS).all (·.oneCell')=true by simp[Value.oneCell']);go_wp2_with (first
    |(refine wpList_load_row rfl 39 (.tmp 8) rfl bq rfl 39 #[J I kd,J I t,J I (j:Int),J I lo,J I hi,J I (b:Int),J I o,R Au m cu,J I vv,gO ff,J I s9,J I un,J I (base:Int),R Ar np cr,R Al n cl] (0,0) _ HPx.out Tryz.underlying39 rfl HI.out ?_)
    |(refine AX rfl 39 (.tmp 4) (.tmp 56) rfl (w.heap.size+1) #[J I kd,J I t,J I (j:Int),J I lo,J I hi,J I (b:Int),J I o,R Au m cu,J I vv,gO ff,J I s9,J I un,J I (base:Int),R Ar np cr,R Al n cl] rfl rfl 39 #[J I 0,J I 0,J I 0,J I 0,J I 0,J I 0,J I 0,R none 0 0,J I 0,gO false,J I 0,J I 0,J I 0,R none 0 0,R none 0 0] HRx.out HI.out rfl H1.out ?_;intro X hbx hgx))
   have hX:=Ah.of_grown hgx;obtain⟨y0,y1,y2,y3,y4,y5,y6,y7,y8,y9,y10,y11,y12,y13,y14⟩:=CR hbx;have hEX:gQ w.heap.size w X:=Ah.below HEx.out (by omega) (by omega) hX;have h13:=HSX.out X B1 _ hEX (C9 HGx.out.1 HRx.out (by decide) hX);have h14:=HXS.out X B2 (C9 HGx.out.2 HRx.out (by decide) hX) hEX;obtain⟨r,rfl⟩:∃ r,out=some r:=by
    cases out with
    | none=>exact absurd HUx.out (by simp[Cc])
    | some r=>exact⟨r,rfl⟩
   obtain⟨-,rfl,rfl,hur⟩:=HUx.out;exact bodyPost_ret (v:=.tuple #[.agg #[J I kd,J I t,J I (j:Int),J I lo,J I hi,J I (b:Int),J I o,R Au m cu,J I r.val,gO r.found,J I s9,J I un,J I (base:Int),R Ar np cr,R Al n cl],gO true]) (by simp[results,Tryz.results27,go_sem,y0,y1,y2,y3,y4,y5,y6,y7,y8,y9,y10,y11,y12,y13,y14]) rfl ⟨.inr ⟨r,rfl,_,_,_,rfl,(hur.keep (fun q hq hl=>hX.block q hl hq.2.2 hq.2.2) hX.size).mono (fun q hq _=>hq.1),h13.1,h13.2,h14⟩,hEX⟩
end
section
open Go.RowKit Go.Shelf
attribute [local go_sem ↓] Go.wp_at_zero Go.wp_at_succ
structure RPT.Sm (p:RPT):Prop where
 rows:p.rows.length<=1000
 paths:p.paths.length<=1000
 each:∀ x ∈ p.paths,x.length<=1000
 roots:p.roots.length<=1000
theorem Ws(P:List RPT)(hP:P.length<=1000)(hs:∀ p ∈ P,p.Sm)(va vb:gS)(w:gR)(h1:Cj (fun _=>True) w va P)(h2:Cj (fun _=>True) w vb P) :
  Calls Tryz.prog 160 #[va,vb,.func (.func 109) #[] #[]] w fun e w'=>e=.returned (gO true)/\gQ w.heap.size w w':=by
 have HG1:=Wz h1;have HG2:=Wz h2;obtain⟨A,c,rfl,k1⟩:=h1;obtain⟨B,d,rfl,k2⟩:=h2;have H1:=Wz k1;have H2:=Wz k2;have HSM:=Wz hs;clear k1 k2 hs;go_enter Tryz.func160,Tryz.ntmps160;go_wp2;go_loopw [7,8,9,17] (fun _ _ _ iv W=>∃ k:Nat,k<=P.length/\iv=J I (k:Int)/\gQ w.heap.size w W) (fun _ _ _ iv _=>P.length-(intOf iv).toNat)
 case atStart=>exact⟨0,Nat.zero_le _,rfl,AF _⟩
 case round=>
  obtain⟨k,hk,rfl,hE⟩:=hrel;have HE:=Wz hE;clear hE;by_cases hlt:k<P.length
  ·obtain⟨p,hp⟩:∃ p,P[k]? = some p:=⟨_,List.getElem?_eq_getElem hlt⟩;obtain⟨g,rfl,_⟩:=H1.out (by omega);obtain⟨g',rfl,_⟩:=H2.out (by omega);obtain⟨a,b,d9,s1,g1⟩:=(HG1.out.ext HE.out).get hp;obtain⟨a',b',d9',s2,g2⟩:=(HG2.out.ext HE.out).get hp;have hsm:=HSM.out p (List.mem_of_getElem? hp);have HS:=Wz (fun(W:gR)(h:gQ wr.heap.size wr W)=>U2 p hsm.rows hsm.paths hsm.each hsm.roots a b d9 a' b' d9' W (s1.ext h) (s2.ext h));obtain⟨A1,c1,ha,-⟩:=s1.rows;obtain⟨A2,c2,hb,-⟩:=s1.paths;obtain⟨A3,c3,hd,-⟩:=s1.roots;obtain⟨B1,d1,ha',-⟩:=s2.rows;obtain⟨B2,d2,hb',-⟩:=s2.paths;obtain⟨B3,d3,hd',-⟩:=s2.roots;obtain⟨t,jj,lo,hi,n,f,rows,paths,roots⟩:=p;dsimp only[RPT.nums]at *;generalize rows.length=l1 at *;generalize paths.length=l2 at *;generalize roots.length=l3 at *;subst ha hb hd ha' hb' hd';have q0:=g1 0 (by omega);have r0:=g2 0 (by omega);have q1:=g1 1 (by omega);have r1:=g2 1 (by omega);have q2:=g1 2 (by omega);have r2:=g2 2 (by omega);have q3:=g1 3 (by omega);have r3:=g2 3 (by omega);have q4:=g1 4 (by omega);have r4:=g2 4 (by omega);have q5:=g1 5 (by omega);have r5:=g2 5 (by omega);have q6:=g1 6 (by omega);have r6:=g2 6 (by omega);have q7:=g1 7 (by omega);have r7:=g2 7 (by omega);have q8:=g1 8 (by omega);have r8:=g2 8 (by omega);simp only[List.getElem?_toArray,List.getElem?_cons_zero,List.getElem?_cons_succ,Nat.add_zero]at q0 r0 q1 r1 q2 r2 q3 r3 q4 r4 q5 r5 q6 r6 q7 r7 q8 r8;have gl:=AZ (p:=⟨g,k*9,none⟩) q0;have gl':=AZ (p:=⟨g',k*9,none⟩) r0;have gl1:g'<wr.heap.size+1:=Nat.lt_succ_of_lt gl';have HX:=Wz (AB (AC wr (gT #[J I t,J I jj,J I lo,J I hi,J I n,J I f,R A1 l1 c1,R A2 l2 c2,R A3 l3 c3] 126)) (gT #[J I t,J I jj,J I lo,J I hi,J I n,J I f,R B1 l1 d1,R B2 l2 d2,R B3 l3 d3] 126));have x0:(0:Int)<=(k:Int):=by omega
   have x1:(k:Int)<(P.length:Int):=by omega
   have e1:decide ((k:Int)<(P.length:Int))=true:=decide_eq_true x1;have e2:IntKind.i64.wrap ((k:Int)+1)=(k:Int)+1:=IntWalk.i64_in _ (by omega);clear s1 s2 g1 g2 hsm hp;go_wp2_with (go_at_call 109;refine(HS.out _ HX.out).mono ?_;rintro e W2 ⟨rfl,hb2⟩;have HE2:=Wz (AA HE.out (AA HX.out hb2));clear hb2)
   go_roundw
   case rel=>exact⟨k+1,by omega,by go_num,HE2.out⟩
   simp[intOf];omega
  have d1:decide ((k:Int)<(P.length:Int))=false:=decide_eq_false (by omega);go_wp2;go_ret;exact⟨rfl,HE.out⟩
theorem Rz(P:List RPT)(hP:P.length<=1000)(hs:∀ p ∈ P,p.Sm)(va vb:gS)(w:gR)(h1:Cj (fun _=>True) w va P)(h2:Cj (fun _=>True) w vb P) :
  Calls Tryz.prog 108 #[va,vb,.func (.func 109) #[] #[]] w fun e w'=>e=.returned (gO true)/\gQ w.heap.size w w':=by
 have HE:=Wz (Ws P hP hs va vb w h1 h2);obtain⟨A,c,rfl,-⟩:=h1;obtain⟨B,d,rfl,-⟩:=h2;go_enter Tryz.func108,Tryz.ntmps108;go_wp2_with fail
 refine HE.out.mono ?_;rintro e W1 ⟨rfl,hb1⟩;have HE1:=Wz hb1;clear hb1;go_wp2;go_ret;exact⟨rfl,HE1.out⟩
theorem Pp(kd t lo hi o:Int)(j b:Nat)(val si un ba:Int)(fd:Bool)(l:List AD)(hl:l.length<=1000)(P:List RPT)(hP:P.length<=1000)(hs:∀ p ∈ P,p.Sm)(f:Nat)(Ls:List (List AH))(hLs:Ls.length<=1000)(hLl:∀ L ∈ Ls,L.length<=1000)
  (u v rv rv' lv lv':gS) (w:gR) (hu:AR w u l) (hv:AR w v l) (h1:Cj (fun _=>True) w rv P) (h2:Cj (fun _=>True) w rv' P) (g1:Bt w lv f Ls) (g2:Bt w lv' f Ls) :
  Calls Tryz.prog 62 #[.agg (KE kd t lo hi o j b u val fd si un ba rv lv),.agg (KE kd t lo hi o j b v val fd si un ba rv' lv')] w fun e w'=>e=.returned (gO true)/\gQ w.heap.size w w':=by
 have HS:=Wz (fun(W:gR)(h:gQ w.heap.size w W)=>Rj l hl u v val fd W (hu.ext h) (hv.ext h));have HRp:=Wz (fun(W:gR)(h:gQ w.heap.size w W)=>Rz P hP hs rv rv' W (h1.ext h) (h2.ext h));have HLp:=Wz (fun(W:gR)(h:gQ w.heap.size w W)=>PW f Ls hLs hLl lv lv' W (g1.ext h) (g2.ext h));obtain⟨Aa,ca,rfl,-⟩:=hu;obtain⟨Ab,cb,rfl,-⟩:=hv;obtain⟨Ra,ra,rfl,-⟩:=h1;obtain⟨Rb,rb,rfl,-⟩:=h2;obtain⟨La,la,rfl,-⟩:=g1;obtain⟨Lb,lb,rfl,-⟩:=g2;unfold KE;generalize l.length=nu at *;generalize Ls.length=nl at *;generalize P.length=np at *;obtain⟨X,hX⟩:∃ X,X=(w.alloc (gT #[J I kd,J I t,J I (j:Int),J I lo,J I hi,J I (b:Int),J I o,R Aa nu ca,J I val,gO fd,J I si,J I un,J I ba,R Ra np ra,R La nl la] 39)).alloc (gT #[J I kd,J I t,J I (j:Int),J I lo,J I hi,J I (b:Int),J I o,R Ab nu cb,J I val,gO fd,J I si,J I un,J I ba,R Rb np rb,R Lb nl lb] 39):=⟨_,rfl⟩;have hE:gQ w.heap.size w X:=by rw[hX];exact AB (AC _ _) _
 have HBa:=Wz (show Blk X w.heap.size 39 #[J I kd,J I t,J I (j:Int),J I lo,J I hi,J I (b:Int),J I o,R Aa nu ca,J I val,gO fd,J I si,J I un,J I ba,R Ra np ra,R La nl la]by rw[hX];exact(Blk.new _ _ _).alloc _);have HBb:=Wz (show Blk X (w.heap.size+1) 39 #[J I kd,J I t,J I (j:Int),J I lo,J I hi,J I (b:Int),J I o,R Ab nu cb,J I val,gO fd,J I si,J I un,J I ba,R Rb np rb,R Lb nl lb]by rw[hX];exact Blk.new' _ _ _ (by simp));have HE:=Wz hE;have HX:=Wz hX;clear hE hX hl hP hs hLs hLl;go_enter Tryz.func62,Tryz.ntmps62;go_wp2_with fail
 rw[<- HX.out];refine(HS.out _ HE.out).mono ?_;rintro e W1 ⟨rfl,hb1⟩;have HE1:=Wz hb1;have a13:=(HBa.out.ext hb1).cell 13;have b13:=(HBb.out.ext hb1).cell 13;clear hb1;go_wp2_with fail
 refine(HRp.out _ (AA HE.out HE1.out)).mono ?_;rintro e W2 ⟨rfl,hb2⟩;have HE2:=Wz (AA HE1.out hb2);have a14:=(HBa.out.ext HE2.out).cell 14;have b14:=(HBb.out.ext HE2.out).cell 14;clear hb2 a13 b13;go_wp2_with (go_at_call 110;refine(HLp.out _ (AA HE.out HE2.out)).mono ?_;rintro e W3 ⟨rfl,hb3⟩;have HE3:=Wz (AA HE2.out hb3);clear hb3)
 go_ret;exact⟨rfl,AA HE.out HE3.out⟩
def It(kd o:Int)(b:Nat)(rows oth:List AD):Bg:=
 if kd<=2 then⟨rows,0,false⟩else if kd=3 then⟨[],(Ti b rows).1,(Ti b rows).2⟩else if kd=4 then⟨[],(Tj b rows).1,(Tj b rows).2⟩else if kd=5 then⟨[],(Tk b rows).1,(Tk b rows).2⟩else if kd=6 then⟨[],(Tl b rows).1,(Tl b rows).2⟩else⟨CZ b rows (Da o oth),0,false⟩
theorem LU(kd o:Int)(b:Nat)(rows oth:List AD):(It kd o b rows oth).rows.length<=2*rows.length:=by
 unfold It;have h:=J5 b rows (Da o oth)
 repeat' split
 all_goals simp <;> omega
theorem Hs(S:Nat->Prop)(w:gR):BF S w (R none 0 0) []:=⟨none,0,rfl,fun h=>absurd h (by simp)⟩
theorem QZ{kd t lo hi o:Int}{j b:Nat}(hq:BU.Ok ⟨kd,t,(j:Int),lo,hi,(b:Int),o⟩)(rows oth:List AD)(hl:rows.length<=60)(hlo:oth.length<=100000)(hrs:∀ r ∈ rows,r.ok):LO ⟨kd,t,(j:Int),lo,hi,(b:Int),o⟩ rows (Pi kd oth) (It kd o b rows oth):=by
 have hk:=hq.kd;have hb:=hq.by4.2;dsimp only at hk;intro W v vo hv ho;unfold Pi at ho;rcases hk with rfl|rfl|rfl|rfl|rfl|rfl|rfl
 ·exact LP _ hq (.inl rfl) rows (by omega) W v vo hv ho
 ·exact LP _ hq (.inr rfl) rows (by omega) W v vo hv ho
 ·have ho:vo=R none 0 0:=ho;subst ho;exact(VD t j lo hi o b hq hb rows (by omega) hrs v W hv).mono fun e w' h=>⟨_,h.1,Hs _ _,h.2⟩
 ·have ho:vo=R none 0 0:=ho;subst ho;exact(VE t j lo hi o b hq hb rows (by omega) hrs v W hv).mono fun e w' h=>⟨_,h.1,Hs _ _,h.2⟩
 ·have ho:vo=R none 0 0:=ho;subst ho;exact(VF t j lo hi o b hq hb rows (by omega) hrs v W hv).mono fun e w' h=>⟨_,h.1,Hs _ _,h.2⟩
 ·have ho:vo=R none 0 0:=ho;subst ho;exact(VG t j lo hi o b hq hb rows (by omega) hrs v W hv).mono fun e w' h=>⟨_,h.1,Hs _ _,h.2⟩
 exact Tn _ hq rfl b hb rfl oth hlo rows (by omega) W v vo hv ho
end
end Go.Proofs.YtimoapjhepmehaaGreatDoor
