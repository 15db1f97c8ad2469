/- Part 35: contracts that the last part uses. -/
import Derived.Test.YtimoapjhepmehaaGreatDoorJ33
set_option linter.unusedSimpArgs false
set_option linter.unusedVariables false
set_option maxHeartbeats 4000000
set_option maxRecDepth 100000
namespace Go.Proofs.YtimoapjhepmehaaGreatDoor
open Go.IntKind renaming i64->I
open Go.Value renaming int->U,bool->J,slice->R,agg->gF,tuple->gI
open Go.World renaming setCell->gC
open Go.Obj renaming cells->gD
open Go.IntWalk renaming i64_in->gJ
section
open Go.RowKit Go.Shelf
attribute [local go_sem ↓] Go.wp_at_zero Go.wp_at_succ
theorem KC(j:Nat)(c:AH)(sa:Option AD)(l:List AD):(Db j c sa l).length<=l.length+1:=by
 have h:=List.length_filter_le (fun r:AD => !(decide (r.t=c.t) && decide (r.k=c.k))) l;unfold Db;split
 ·omega
 rw[Hq];omega
theorem KD{ok:Bool}{r r':Bg}(h:okR ok r=some r'):r=r':=by
 cases ok <;> simp[okR]at h
 exact h
theorem T3{kd t o:Int}{j:Nat}{c:AH}{sb sa:Option AD}{mb ma:Int}{r r':Bg}(h:Pg kd t o j c sb sa mb ma r=some r'):r'.rows.length<=r.rows.length+2:=by
 unfold Pg at h;split at h
 ·injection h with h;subst h;have:=KC j c sa r.rows;dsimp only;omega
 split at h
 ·injection h with h;subst h;dsimp only;omega
 split at h
 ·injection h with h;subst h;dsimp only;omega
 split at h
 ·have:=KD h;subst this;dsimp only;omega
 split at h
 ·have:=KD h;subst this;dsimp only;omega
 have:=KD h;subst this;have h1:=LQ o j c sb sa mb ma (BO r.rows);have h2:=FF r.rows;dsimp only[Ty];rw[J7];omega
theorem T4{kd t lo hi o:Int}{j b:Nat}{c:AH}{r r':Bg}(h:Hr kd t lo hi o j b c r=some r'):r'.rows.length<=r.rows.length+2:=by
 unfold Hr at h;split at h
 ·exact T3 h
 injection h with h;subst h;omega
def C1(kd t lo hi o:Int)(j b:Nat)(r:Bg)(L:List AH):Option Bg:=L.foldl (fun x c=>x.bind (Hr kd t lo hi o j b c)) (some r)
def GK(kd t lo hi o:Int)(j b:Nat)(L:List AH):Bool:=L.any (MX kd t lo hi o j b)
theorem Pj(kd t lo hi o:Int)(j b:Nat)(r:Bg)(L:List AH)(c:AH):C1 kd t lo hi o j b r (L++[c])=(C1 kd t lo hi o j b r L).bind (Hr kd t lo hi o j b c):=by simp[C1]
theorem Pk(kd t lo hi o:Int)(j b:Nat)(L:List AH)(c:AH):GK kd t lo hi o j b (L++[c])=(GK kd t lo hi o j b L || MX kd t lo hi o j b c):=by simp[GK]
theorem FG{α β:Type}(f:α->β->Option α)(L:List β):L.foldl (fun x c=>x.bind (fun r=>f r c)) none=none:=by
 induction L with
 | nil=>rfl
 | cons c L ih=>exact ih
theorem Pm{kd t lo hi o:Int}{j b:Nat}{r:Bg}{L M:List AH}(h:C1 kd t lo hi o j b r L=none):C1 kd t lo hi o j b r (L++M)=none:=by
 unfold C1 at *;rw[List.foldl_append,h];exact FG (fun r c=>Hr kd t lo hi o j b c r) M
theorem LR{kd t lo hi o:Int}{j b:Nat}{r:Bg}:∀ {L:List AH} {r':Bg},C1 kd t lo hi o j b r L=some r'->r'.rows.length<=r.rows.length+2*L.length:=by
 intro L
 induction L generalizing r with
 | nil=>intro r' h;injection h with h;subst h;simp
 | cons c L ih=>
  intro r' h;have e:C1 kd t lo hi o j b r (c::L)=L.foldl (fun x c=>x.bind (Hr kd t lo hi o j b c)) (Hr kd t lo hi o j b c r):=rfl;rw[e]at h
  cases hp:Hr kd t lo hi o j b c r with
  | none=>rw[hp,FG (fun r c=>Hr kd t lo hi o j b c r) L]at h;cases h
  | some r1=>
   rw[hp]at h;have h1:=ih (r:=r1) h;have h2:=T4 hp;simp;omega
theorem Ry(kd t lo hi o:Int)(j b:Nat)(hq:BU.Ok ⟨kd,t,(j:Int),lo,hi,(b:Int),o⟩)(L:List AH)(hL:L.length<=8)(hc:∀ c ∈ L,c.ok/\c.turns=true)(r:Bg)(hl:r.rows.length<=9900)(pos:Int)(v cv:Value)(w:World)(hv:AR w v r.rows)(hcv:Ae w cv L) :
  Calls Tryz.prog 101 #[gF #[U I kd,U I t,U I (j:Int),U I lo,U I hi,U I (b:Int),U I o],gF #[v,U I r.val,J r.found],gF #[U I pos,cv]] w fun e w'=>∃ A' n' c' val' fd' tb ok,e=.returned (gI #[gF #[R A' n' c',U I val',J fd'],J tb,J ok])/\Cc (C1 kd t lo hi o j b r L) (fun x=>w.heap.size<=x) w' ok (R A' n' c') val' fd'/\(ok=true->tb=GK kd t lo hi o j b L)/\Below w.heap.size w w':=by
 have HTO:=Wz (fun(c:AH)(h:c ∈ L)(W:World)=>N6 kd t lo hi o j b hq c (hc c h).1 (hc c h).2 W);have HPA:=Wz (fun(c:AH)(h:c ∈ L)(m:Bg)(hm:m.rows.length<=9999)(u:Value)(W:World)(hu:AR W u m.rows)=>Wp kd t lo hi o j b hq c (hc c h).1 (hc c h).2 m hm u W hu);obtain⟨W0,hW0⟩:∃ W0,W0=(((w.alloc (gD #[U I kd,U I t,U I (j:Int),U I lo,U I hi,U I (b:Int),U I o] 33)).alloc (gD #[v,U I r.val,J r.found] 36)).alloc (gD #[U I pos,cv] 75)).alloc (gD #[R none 0 0,U I 0,J false] 36):=⟨_,rfl⟩;have HE0:=Wz (show Below w.heap.size w W0 by rw[hW0];exact AB (AB (AB (AC _ _) _) _) _);have HQ0:=Wz (show Blk W0 w.heap.size 33 #[U I kd,U I t,U I (j:Int),U I lo,U I hi,U I (b:Int),U I o]by rw[hW0];exact(((Blk.new _ _ _).alloc _).alloc _).alloc _);have HR0:=Wz (show Blk W0 (w.heap.size+1) 36 #[v,U I r.val,J r.found]by rw[hW0];exact((Blk.new' _ _ _ (by simp)).alloc _).alloc _);have HX0:=Wz (show Blk W0 (w.heap.size+1+1) 75 #[U I pos,cv]by rw[hW0];exact(Blk.new' _ _ _ (by simp)).alloc _);have HO0:=Wz (show Blk W0 (w.heap.size+1+1+1) 36 #[R none 0 0,U I 0,J false]by rw[hW0];exact Blk.new' _ _ _ (by simp));have HZ0:=Wz (show w.heap.size+1+1+1<W0.heap.size from HO0.out.lt);have HCL:=Wz (EG r.rows v (by omega) W0 (hv.ext HE0.out));have HCV:=Wz hcv;have HLN:=Wz hl;have HW0:=Wz hW0;obtain⟨A,cc,rfl,-⟩:=hv;obtain⟨Ac,ccc,rfl,hcap,-⟩:=hcv;clear hW0 hc hq hl;go_enter Tryz.func101,Tryz.ntmps101;go_upto_region 2 with(fail)
 rw[<- HW0.out];have r0:=HR0.out.cell 0;go_wp2_with fail
 refine HCL.out.mono ?_;rintro e W1 ⟨u,rfl,hu,hb1⟩;have hR1:=HR0.out.ext hb1;have HE1:=Wz (AA HE0.out hb1);obtain⟨Au,cu,rfl⟩:=AI hu;have r0:=hR1.cell 0;have f0:=hR1.frozen 0;obtain⟨X,hX⟩:∃ X,X=W1.setCell ⟨w.heap.size+1,0,none⟩ (R Au r.rows.length cu):=⟨_,rfl⟩;have HQX:=Wz (show Blk X w.heap.size 33 #[U I kd,U I t,U I (j:Int),U I lo,U I hi,U I (b:Int),U I o]by rw[hX];exact(HQ0.out.ext hb1).far (p:=⟨w.heap.size+1,0,none⟩) (by simp) _);have HRX:=Wz (show Blk X (w.heap.size+1) 36 #[R Au r.rows.length cu,U I r.val,J r.found]by rw[hX];exact hR1.set_ 0 _);have HXX:=Wz (show Blk X (w.heap.size+1+1) 75 #[U I pos,R Ac L.length ccc]by rw[hX];exact(HX0.out.ext hb1).far (p:=⟨w.heap.size+1,0,none⟩) (by simp) _);have HOX:=Wz (show Blk X (w.heap.size+1+1+1) 36 #[R none 0 0,U I 0,J false]by rw[hX];exact(HO0.out.ext hb1).far (p:=⟨w.heap.size+1,0,none⟩) (by simp <;> omega) _);have HEX:=Wz (show Below w.heap.size w X by rw[hX];exact AE HE1.out (by simp) _);have HLX:=Wz (show BF (fun x=>W0.heap.size<=x) X (R Au r.rows.length cu) r.rows by rw[hX];exact CX (Cf hu (r:=w.heap.size+1) (by have:=HZ0.out;omega) (fun k hk=>Below.heap_setCell _ _ _ _ hk) (by simp[gC]) rfl rfl rfl));have HSX:=Wz (show W0.heap.size<=X.heap.size by rw[hX];simpa[gC]using hb1.size);have HXE:=Wz hX;clear hu hb1 hR1 hX HR0 HO0 HQ0 HX0 HCL HE0;go_upto_region 3 with(fail)
 rw[<- HXE.out];clear r0 f0 HXE;have x1:=HXX.out.cell 1;go_wp2;clear x1;go_loopw [9,11,12,20] (fun tv _ _ iv W=>∃(i:Nat) (u:Value) (m:Bg),i<=L.length/\iv=U I (i:Int)/\tv=J (GK kd t lo hi o j b (L.take i))/\C1 kd t lo hi o j b r (L.take i)=some m/\W0.heap.size<=W.heap.size/\Blk W w.heap.size 33 #[U I kd,U I t,U I (j:Int),U I lo,U I hi,U I (b:Int),U I o]/\Blk W (w.heap.size+1) 36 #[u,U I m.val,J m.found]/\Blk W (w.heap.size+1+1+1) 36 #[R none 0 0,U I 0,J false]/\BF (fun x=>W0.heap.size<=x) W u m.rows/\Below w.heap.size w W) (fun _ _ _ iv _=>L.length-(intOf iv).toNat)
 case atStart=>exact⟨0,_,r,Nat.zero_le _,rfl,rfl,rfl,HSX.out,HQX.out,HRX.out,HOX.out,HLX.out,HEX.out⟩
 case round=>
  obtain⟨i,u,m,hin,rfl,rfl,hpm,hS,hQ,hR,hO,hU,hE⟩:=hrel;have HQ:=Wz hQ;have HR:=Wz hR;have HO:=Wz hO;have HU:=Wz hU;have HE:=Wz hE;have HS:=Wz hS;have HPM:=Wz hpm;have HML:=Wz (show m.rows.length<=9999 by have:=LR hpm;have:=HLN.out;rw[List.length_take]at *;omega);clear hQ hR hO hU hE hS hpm HQX HRX HXX HOX HLX HEX HSX;by_cases hlt:i<L.length
  ·obtain⟨c,hc⟩:∃ c,L[i]? = some c:=⟨_,List.getElem?_eq_getElem hlt⟩;have hcm:=List.mem_of_getElem? hc;have HT:=Wz (fun W:World=>HTO.out c hcm W);have HP:=Wz (fun(u:Value)(W:World)(hu:AR W u m.rows)=>HPA.out c hcm _ HML.out u W hu);have HTK:=Wz (show L.take (i+1)=L.take i++[c]by rw[List.take_add_one,hc];rfl);have HDR:=Wz (show L=(L.take i++[c])++L.drop (i+1)by rw[<- HTK.out,List.take_append_drop]);have HPS:=Wz (show C1 kd t lo hi o j b r (L.take i++[c])=Hr kd t lo hi o j b c m by rw[Pj,HPM.out];rfl);have HTS:=Wz (Pk kd t lo hi o j b (L.take i) c);obtain⟨bb,off,c',hA,_,hc9⟩:=(HCV.out.ext HE.out).at_ hc;injection hA with hA hn' hc'
   subst hA;subst hc';clear hn';have c0:=hc9 0 (by omega);have c1:=hc9 1 (by omega);have c2:=hc9 2 (by omega);have c3:=hc9 3 (by omega);have c4:=hc9 4 (by omega);have c5:=hc9 5 (by omega);have c6:=hc9 6 (by omega);have c7:=hc9 7 (by omega);have c8:=hc9 8 (by omega);have c9:=hc9 9 (by omega);obtain⟨m2,hm2⟩:∃ m2,m2=Hr kd t lo hi o j b c m:=⟨_,rfl⟩;obtain⟨tv,htv⟩:∃ tv,tv=GK kd t lo hi o j b (L.take i):=⟨_,rfl⟩;obtain⟨tc,htc⟩:∃ tc,tc=MX kd t lo hi o j b c:=⟨_,rfl⟩;rw[<- hm2]at HP HPS;rw[<- htc]at HT HTS;rw[<- htv]at HTS ⊢;obtain⟨mr,mv,mf⟩:=m;dsimp only at *;obtain⟨Au2,cu2,rfl,-⟩:=id HU.out;obtain⟨x0,x1,x2,x3,x4,x5,x6,x7,x8,x9⟩:=c;simp only[AH.arr,List.getElem?_toArray,List.getElem?_cons_zero,List.getElem?_cons_succ,Nat.add_zero]at c0 c1 c2 c3 c4 c5 c6 c7 c8 c9;dsimp only[AH.arr]at HT HP;have e2:IntKind.i64.wrap ((i:Int)+1)=(i:Int)+1:=gJ _ (by omega);have d1:decide ((i:Int)<(L.length:Int))=true:=decide_eq_true (by omega);have q0:(0:Int)<=(i:Int):=by omega
   have q1:(i:Int)<(L.length:Int):=by omega
   have HB0:=Wz (Blk.new wr 72 #[U I x0,U I x1,J x2,U I x3,U I x4,U I x5,J x6,U I x7,U I x8,U I x9]);clear hc9 hc hcm hm2 htv htc;go_upto_region 6 with(fail)
   obtain⟨Y,hY⟩:∃ Y,Y=wr.alloc (gD #[U I x0,U I x1,J x2,U I x3,U I x4,U I x5,J x6,U I x7,U I x8,U I x9] 72):=⟨_,rfl⟩;rw[<- hY];have HEY:=Wz (show Below wr.heap.size wr Y by rw[hY];exact AC _ _);rw[<- hY]at HB0;have HQY:=Wz (HQ.out.ext HEY.out);have HRY:=Wz (HR.out.ext HEY.out);have HOY:=Wz (HO.out.ext HEY.out);have HUY:=Wz (HU.out.extS HEY.out);have HWY:=Wz (AA HE.out HEY.out);have HSY:=Wz (Nat.le_trans HS.out HEY.out.size);have HBC:=Wz (show w.heap.size+1+1+1<wr.heap.size from HO.out.lt);clear hY c0 c1 c2 c3 c4 c5 c6 c7 c8 c9 HEY;generalize wr.heap.size=bc at *;go_cut [9]from 24 to 28 (fun av W=>av=J (tv || tc)/\Below Y.heap.size Y W)
   case first=>
    cases tv with
    | true=>
     go_wp2;go_meet;exact⟨rfl,AF _⟩
    | false=>
     obtain⟨q0,q1,q2,q3,q4,q5,q6⟩:=HQY.out.all7;obtain⟨z0,z1,z2,z3,z4,z5,z6,z7,z8,z9⟩:=HB0.out.all10;go_wp2_with fail
     refine(HT.out _).mono ?_;rintro e W2 ⟨rfl,hb2⟩;have HB2:=Wz hb2;clear q0 q1 q2 q3 q4 q5 q6 z0 z1 z2 z3 z4 z5 z6 z7 z8 z9 hb2;go_wp2;go_meet;exact⟨rfl,HB2.out⟩
   obtain⟨hav,hEc⟩:=hcut;subst hav;have HQc:=Wz (HQY.out.ext hEc);have HRc:=Wz (HRY.out.ext hEc);have HOc:=Wz (HOY.out.ext hEc);have HUc:=Wz (HUY.out.extS hEc);have HCc:=Wz (HB0.out.ext hEc);have HWc:=Wz (AA HWY.out hEc);have HSc:=Wz (Nat.le_trans HSY.out hEc.size);clear hEc HQY HRY HOY HUY HB0 HWY HSY;obtain⟨q0,q1,q2,q3,q4,q5,q6⟩:=HQc.out.all7;obtain⟨r0,r1,r2⟩:=HRc.out.all3;obtain⟨z0,z1,z2,z3,z4,z5,z6,z7,z8,z9⟩:=HCc.out.all10;go_wp2_with fail
   refine(HP.out _ _ HUc.out.rowsL).mono ?_;rintro e W3 ⟨Au3,n3,cu3,v3,f3,ok3,rfl,hp3,hb3⟩;have HQ3:=Wz (HQc.out.ext hb3);have HR3:=Wz (HRc.out.ext hb3);have HO3:=Wz (HOc.out.ext hb3);have HP3:=Wz hp3;have HE3:=Wz (AA HWc.out hb3);have HS3:=Wz (Nat.le_trans HSc.out hb3.size);clear hb3 hp3 q0 q1 q2 q3 q4 q5 q6 r0 r1 r2 z0 z1 z2 z3 z4 z5 z6 z7 z8 z9 HQc HRc HOc HUc HCc HWc;obtain⟨r0,r1,r2⟩:=HR3.out.all3;have f0:=HR3.out.frozen 0;have f1:=HR3.out.frozen 1;have f2:=HR3.out.frozen 2;have HEL:=Wz (show Below w.heap.size w (gC (gC (gC W3 ⟨w.heap.size+1,0,none⟩ (R Au3 n3 cu3)) ⟨w.heap.size+1,1,none⟩ (U I v3)) ⟨w.heap.size+1,2,none⟩ (J f3))from AE (AE (AE HE3.out (by simp) _) (by simp) _) (by simp) _);have HOL:=Wz (((HO3.out.far (p:=⟨w.heap.size+1,0,none⟩) (by simp <;> omega) (R Au3 n3 cu3)).far (p:=⟨w.heap.size+1,1,none⟩) (by simp <;> omega) (U I v3)).far (p:=⟨w.heap.size+1,2,none⟩) (by simp <;> omega) (J f3))
   cases ok3 with
   | false=>
    have HNO:=Wz (show C1 kd t lo hi o j b r L=none by rw[HDR.out];exact Pm (by rw[HPS.out];exact HP3.out.none));obtain⟨o0,o1,o2⟩:=HOL.out.all3;have g0:=HOL.out.frozen 0;have g1:=HOL.out.frozen 1;have g2:=HOL.out.frozen 2;go_wp2;have hBf:=((HOL.out.set_ 0 (R none 0 0)).set_ 1 (U I 0)).set_ 2 (J false);obtain⟨y0,y1,y2⟩:=hBf.all3;exact bodyPost_ret (v:=gI #[gF #[R none 0 0,U I 0,J false],J true,J false]) (by simp[results,Tryz.results101,go_sem,y0,y1,y2]) rfl ⟨_,_,_,_,_,_,_,rfl,by rw[HNO.out];exact rfl,fun h=>(by cases h),AE (AE (AE HEL.out (by simp;omega) _) (by simp;omega) _) (by simp;omega) _⟩
   | true=>
    obtain⟨m3,hm3⟩:∃ m3,m2=some m3:=by
     cases m2 with
     | none=>exact absurd HP3.out (by simp[Cc])
     | some m3=>exact⟨_,rfl⟩
    subst hm3;obtain⟨-,rfl,rfl,hu3⟩:=HP3.out;obtain⟨A9,c9,hA9,-⟩:=id hu3;injection hA9 with h91 h92 h93
    subst h91 h92 h93;have HU3:=Wz (hu3.mono (T:=fun x=>W0.heap.size<=x) fun x hx _=>Nat.le_trans HSc.out hx);clear hu3 HP3;go_wp2;go_roundw
    case rel=>
     refine⟨i+1,R Au3 m3.rows.length cu3,m3,by omega,by go_num,by rw[HTK.out,HTS.out],by rw[HTK.out];exact HPS.out,by simpa[gC]using HS3.out,?_,?_,HOL.out,?_,HEL.out⟩
     ·exact((HQ3.out.far (p:=⟨w.heap.size+1,0,none⟩) (by simp) _).far (p:=⟨w.heap.size+1,1,none⟩) (by simp) _).far (p:=⟨w.heap.size+1,2,none⟩) (by simp) _
     ·exact((HR3.out.set_ 0 _).set_ 1 _).set_ 2 _
     exact HU3.out.off3 (by have:=HZ0.out;omega)
    simp[intOf];omega
  have hil:i=L.length:=by omega
  have d1:decide ((i:Int)<(L.length:Int))=false:=decide_eq_false (by omega);have HEQ:=Wz (show L.take i=L by rw[hil,List.take_length]);rw[HEQ.out]at HPM ⊢;obtain⟨mr,mv,mf⟩:=m;dsimp only at *;obtain⟨Au2,cu2,rfl,-⟩:=id HU.out;obtain⟨r0,r1,r2⟩:=HR.out.all3;obtain⟨o0,o1,o2⟩:=HO.out.all3;have f0:=HO.out.frozen 0;have f1:=HO.out.frozen 1;have f2:=HO.out.frozen 2;clear hil;go_wp2;have hBf:=((HO.out.set_ 0 (R Au2 mr.length cu2)).set_ 1 (U I mv)).set_ 2 (J mf);obtain⟨y0,y1,y2⟩:=hBf.all3;exact bodyPost_ret (v:=gI #[gF #[R Au2 mr.length cu2,U I mv,J mf],J (GK kd t lo hi o j b L),J true]) (by simp[results,Tryz.results101,go_sem,y0,y1,y2]) rfl ⟨_,_,_,_,_,_,_,rfl,by rw[HPM.out];exact⟨rfl,rfl,rfl,(HU.out.off3 (by have:=HZ0.out;omega)).mono fun x hx _=>by have:=HZ0.out;omega⟩,fun _=>rfl,AE (AE (AE HE.out (by simp;omega) _) (by simp;omega) _) (by simp;omega) _⟩
end
section
open Go.RowKit Go.Shelf
attribute [local go_sem ↓] Go.wp_at_zero Go.wp_at_succ
def C2(kd t lo hi o:Int)(j b:Nat)(r:Bg)(Ls:List (List AH)):Option Bg:=Ls.foldl (fun x L=>x.bind fun m=>C1 kd t lo hi o j b m L) (some r)
def Cl(kd t lo hi o:Int)(j b:Nat)(base:Nat)(Ls:List (List AH)):Nat->Nat
 | 0=>base
 | i+1=>if GK kd t lo hi o j b (Ls.getD i [])then base+1+i else Cl kd t lo hi o j b base Ls i
theorem Pn(kd t lo hi o:Int)(j b:Nat)(r:Bg)(Ls:List (List AH))(L:List AH):C2 kd t lo hi o j b r (Ls++[L])=(C2 kd t lo hi o j b r Ls).bind fun m=>C1 kd t lo hi o j b m L:=by simp[C2]
theorem Po{kd t lo hi o:Int}{j b:Nat}{r:Bg}{Ls Ms:List (List AH)}(h:C2 kd t lo hi o j b r Ls=none):C2 kd t lo hi o j b r (Ls++Ms)=none:=by
 unfold C2 at *;rw[List.foldl_append,h];exact FG (fun r L=>C1 kd t lo hi o j b r L) Ms
theorem LS{kd t lo hi o:Int}{j b:Nat}{r:Bg}:∀ {Ls:List (List AH)} {r':Bg},(∀ L ∈ Ls,L.length<=8)->C2 kd t lo hi o j b r Ls=some r'->r'.rows.length<=r.rows.length+16*Ls.length:=by
 intro Ls
 induction Ls generalizing r with
 | nil=>intro r' _ h;injection h with h;subst h;simp
 | cons L Ls ih=>
  intro r' hL h;have e:C2 kd t lo hi o j b r (L::Ls)=Ls.foldl (fun x L=>x.bind fun m=>C1 kd t lo hi o j b m L) (C1 kd t lo hi o j b r L):=rfl;rw[e]at h
  cases hp:C1 kd t lo hi o j b r L with
  | none=>rw[hp,FG (fun r L=>C1 kd t lo hi o j b r L) Ls]at h;cases h
  | some r1=>
   rw[hp]at h;have h1:=ih (r:=r1) (fun M hM=>hL M (List.mem_cons_of_mem _ hM)) h;have h2:=LR hp;have h3:=hL L (List.mem_cons_self ..);simp;omega
theorem VS(kd t lo hi o:Int)(j b:Nat)(hq:BU.Ok ⟨kd,t,(j:Int),lo,hi,(b:Int),o⟩)(Ls:List (List AH))(hLs:Ls.length<=100)(base:Nat)(hbase:base<=1000)(hG:∀ L ∈ Ls,L.length<=8/\∀ c ∈ L,c.ok/\c.turns=true)(r:Bg)(hl:r.rows.length<=5000)(v lv:Value)(w:World)(hv:AR w v r.rows)(hlv:En w lv (base+1) Ls) :
  Calls Tryz.prog 56 #[gF #[U I kd,U I t,U I (j:Int),U I lo,U I hi,U I (b:Int),U I o],gF #[v,U I r.val,J r.found],U I (base:Int),lv] w fun e w'=>∃ A' n' c' val' fd' s ok,e=.returned (gI #[gF #[R A' n' c',U I val',J fd'],U I s,J ok])/\Cc (C2 kd t lo hi o j b r Ls) (fun x=>w.heap.size<=x) w' ok (R A' n' c') val' fd'/\(ok=true->s=(Cl kd t lo hi o j b base Ls Ls.length:Int))/\Below w.heap.size w w':=by
 have HAP:=Wz (fun(L:List AH)(h:L ∈ Ls)(m:Bg)(hm:m.rows.length<=9900)(pos:Int)(u cv:Value)(W:World)(hu:AR W u m.rows)(hc:Ae W cv L)=>Ry kd t lo hi o j b hq L (hG L h).1 (hG L h).2 m hm pos u cv W hu hc);have HGL:=Wz (fun L h=>(hG L h).1);obtain⟨W0,hW0⟩:∃ W0,W0=((w.alloc (gD #[U I kd,U I t,U I (j:Int),U I lo,U I hi,U I (b:Int),U I o] 33)).alloc (gD #[v,U I r.val,J r.found] 36)).alloc (gD #[R none 0 0,U I 0,J false] 36):=⟨_,rfl⟩;have HE0:=Wz (show Below w.heap.size w W0 by rw[hW0];exact AB (AB (AC _ _) _) _);have HQ0:=Wz (show Blk W0 w.heap.size 33 #[U I kd,U I t,U I (j:Int),U I lo,U I hi,U I (b:Int),U I o]by rw[hW0];exact((Blk.new _ _ _).alloc _).alloc _);have HR0:=Wz (show Blk W0 (w.heap.size+1) 36 #[v,U I r.val,J r.found]by rw[hW0];exact(Blk.new' _ _ _ (by simp)).alloc _);have HO0:=Wz (show Blk W0 (w.heap.size+1+1) 36 #[R none 0 0,U I 0,J false]by rw[hW0];exact Blk.new' _ _ _ (by simp));have HZ0:=Wz (show w.heap.size+1+1<W0.heap.size from HO0.out.lt);have HCL:=Wz (EG r.rows v (by omega) W0 (hv.ext HE0.out));have HLV:=Wz hlv;have HLN:=Wz hl;have HW0:=Wz hW0;obtain⟨A,cc,rfl,-⟩:=hv;obtain⟨Al,cl,rfl,-⟩:=hlv;clear hW0 hG hq hl;go_enter Tryz.func56,Tryz.ntmps56;go_upto_region 2 with(fail)
 rw[<- HW0.out];have r0:=HR0.out.cell 0;go_wp2_with fail
 refine HCL.out.mono ?_;rintro e W1 ⟨u,rfl,hu,hb1⟩;have hR1:=HR0.out.ext hb1;have HE1:=Wz (AA HE0.out hb1);obtain⟨Au,cu,rfl⟩:=AI hu;have r0:=hR1.cell 0;have f0:=hR1.frozen 0;obtain⟨X,hX⟩:∃ X,X=W1.setCell ⟨w.heap.size+1,0,none⟩ (R Au r.rows.length cu):=⟨_,rfl⟩;have HQX:=Wz (show Blk X w.heap.size 33 #[U I kd,U I t,U I (j:Int),U I lo,U I hi,U I (b:Int),U I o]by rw[hX];exact(HQ0.out.ext hb1).far (p:=⟨w.heap.size+1,0,none⟩) (by simp) _);have HRX:=Wz (show Blk X (w.heap.size+1) 36 #[R Au r.rows.length cu,U I r.val,J r.found]by rw[hX];exact hR1.set_ 0 _);have HOX:=Wz (show Blk X (w.heap.size+1+1) 36 #[R none 0 0,U I 0,J false]by rw[hX];exact(HO0.out.ext hb1).far (p:=⟨w.heap.size+1,0,none⟩) (by simp) _);have HEX:=Wz (show Below w.heap.size w X by rw[hX];exact AE HE1.out (by simp) _);have HLX:=Wz (show BF (fun x=>W0.heap.size<=x) X (R Au r.rows.length cu) r.rows by rw[hX];exact CX (Cf hu (r:=w.heap.size+1) (by have:=HZ0.out;omega) (fun k hk=>Below.heap_setCell _ _ _ _ hk) (by simp[gC]) rfl rfl rfl));have HSX:=Wz (show W0.heap.size<=X.heap.size by rw[hX];simpa[gC]using hb1.size);have HXE:=Wz hX;clear hu hb1 hR1 hX HR0 HO0 HQ0 HCL HE0;go_upto_region 3 with(fail)
 rw[<- HXE.out];clear r0 f0 HXE;go_wp2;go_loopw [11,12,13,14,15,16,24] (fun sv _ _ _ _ _ iv W=>∃(i:Nat) (u:Value) (m:Bg),i<=Ls.length/\iv=U I (i:Int)/\sv=U I (Cl kd t lo hi o j b base Ls i:Int)/\C2 kd t lo hi o j b r (Ls.take i)=some m/\W0.heap.size<=W.heap.size/\Blk W w.heap.size 33 #[U I kd,U I t,U I (j:Int),U I lo,U I hi,U I (b:Int),U I o]/\Blk W (w.heap.size+1) 36 #[u,U I m.val,J m.found]/\Blk W (w.heap.size+1+1) 36 #[R none 0 0,U I 0,J false]/\BF (fun x=>W0.heap.size<=x) W u m.rows/\Below w.heap.size w W) (fun _ _ _ _ _ _ iv _=>Ls.length-(intOf iv).toNat)
 case atStart=>exact⟨0,_,r,Nat.zero_le _,rfl,rfl,rfl,HSX.out,HQX.out,HRX.out,HOX.out,HLX.out,HEX.out⟩
 case round=>
  obtain⟨i,u,m,hin,rfl,rfl,hpm,hS,hQ,hR,hO,hU,hE⟩:=hrel;have HQ:=Wz hQ;have HR:=Wz hR;have HO:=Wz hO;have HU:=Wz hU;have HE:=Wz hE;have HS:=Wz hS;have HPM:=Wz hpm;have HML:=Wz (show m.rows.length<=9900 by have:=LS (fun L h=>HGL.out L (List.mem_of_mem_take h)) hpm;have:=HLN.out;rw[List.length_take]at *;omega);clear hQ hR hO hU hE hS hpm HQX HRX HOX HLX HEX HSX;by_cases hlt:i<Ls.length
  ·obtain⟨L,hL⟩:∃ L,Ls[i]? = some L:=⟨_,List.getElem?_eq_getElem hlt⟩;have hLm:=List.mem_of_getElem? hL;have HA:=Wz (fun(pos:Int)(u cv:Value)(W:World)(hu:AR W u m.rows)(hc:Ae W cv L)=>HAP.out L hLm _ HML.out pos u cv W hu hc);have HTK:=Wz (show Ls.take (i+1)=Ls.take i++[L]by rw[List.take_add_one,hL];rfl);have HDR:=Wz (show Ls=(Ls.take i++[L])++Ls.drop (i+1)by rw[<- HTK.out,List.take_append_drop]);have HRS:=Wz (show C2 kd t lo hi o j b r (Ls.take i++[L])=C1 kd t lo hi o j b m L by rw[Pn,HPM.out];rfl);have HSS:=Wz (show Cl kd t lo hi o j b base Ls (i+1)=if GK kd t lo hi o j b L then base+1+i else Cl kd t lo hi o j b base Ls i by rw[Cl,List.getD_eq_getElem?_getD,hL];rfl);obtain⟨A',c',hA',h9⟩:=HLV.out;injection hA' with hA1 _ hA3
   subst hA1;subst hA3;obtain⟨bb,off,rfl,hcell⟩:=h9 (by omega);obtain⟨z0,cv,z1,hcv⟩:=hcell i L hL;have HCV:=Wz (hcv.ext HE.out);obtain⟨Ac,ccv,rfl,-⟩:=hcv;have z0:=AG z0 HE.out;have z1:=AG z1 HE.out;rw[show(((base+1:Nat)):Int)+(i:Int)=(base:Int)+1+(i:Int)by omega]at z0;obtain⟨m2,hm2⟩:∃ m2,m2=C1 kd t lo hi o j b m L:=⟨_,rfl⟩;obtain⟨tc,htc⟩:∃ tc,tc=GK kd t lo hi o j b L:=⟨_,rfl⟩;obtain⟨sv,hsv⟩:∃ sv,sv=Cl kd t lo hi o j b base Ls i:=⟨_,rfl⟩;rw[<- hm2]at HA HRS;rw[<- htc]at HA HSS;rw[<- hsv]at HSS ⊢;obtain⟨mr,mv,mf⟩:=m;dsimp only at *;obtain⟨Au2,cu2,rfl,-⟩:=id HU.out;obtain⟨pp,hpp⟩:∃ pp:Int,pp=(base:Int)+1+(i:Int):=⟨_,rfl⟩;have HPP:=Wz hpp;have e2:IntKind.i64.wrap ((i:Int)+1)=(i:Int)+1:=gJ _ (by omega);have e3:IntKind.i64.wrap (9223372036854775806-(i:Int))=9223372036854775806-(i:Int):=gJ _ (by omega);have e4:IntKind.i64.wrap ((base:Int)+1)=(base:Int)+1:=gJ _ (by omega);have e5:IntKind.i64.wrap ((base:Int)+1+(i:Int))=pp:=by rw[gJ _ (by omega),hpp]
   have d3:¬ (9223372036854775806-(i:Int)<(base:Int)):=by omega
   have d1:decide ((i:Int)<(Ls.length:Int))=true:=decide_eq_true (by omega);have q0:(0:Int)<=(i:Int):=by omega
   have q1:(i:Int)<(Ls.length:Int):=by omega
   rw[<- hpp]at z0;have HEY:=Wz (AC wr (gD #[U I pp,R Ac L.length ccv] 75));have HBY:=Wz (Blk.new wr 75 #[U I pp,R Ac L.length ccv]);clear h9 hcell hL hLm hm2 htc hsv hpp;go_upto_region 6 with(fail)
   obtain⟨Y,hY⟩:∃ Y,Y=wr.alloc (gD #[U I pp,R Ac L.length ccv] 75):=⟨_,rfl⟩;rw[<- hY]at HEY HBY ⊢;have HQY:=Wz (HQ.out.ext HEY.out);have HRY:=Wz (HR.out.ext HEY.out);have HOY:=Wz (HO.out.ext HEY.out);have HUY:=Wz (HU.out.extS HEY.out);have HCY:=Wz (HCV.out.ext HEY.out);have HWY:=Wz (AA HE.out HEY.out);have HSY:=Wz (Nat.le_trans HS.out HEY.out.size);clear hY z0 z1 HEY;obtain⟨q0,q1,q2,q3,q4,q5,q6⟩:=HQY.out.all7;obtain⟨r0,r1,r2⟩:=HRY.out.all3;have x0:=HBY.out.cell 0;have x1:=HBY.out.cell 1;go_wp2_with fail
   refine(HA.out _ _ _ _ HUY.out.rowsL HCY.out).mono ?_;rintro e W3 ⟨Au3,n3,cu3,v3,f3,tb3,ok3,rfl,hp3,ht3,hb3⟩;have HE4:=Wz (AC W3 (gD #[R Au3 n3 cu3,U I v3,J f3] 36));have HQ3:=Wz ((HQY.out.ext hb3).ext HE4.out);have HR3:=Wz ((HRY.out.ext hb3).ext HE4.out);have HO3:=Wz ((HOY.out.ext hb3).ext HE4.out);have HX3:=Wz ((HBY.out.ext hb3).ext HE4.out);have HP3:=Wz (hp3.extS HE4.out);have HE3:=Wz (AA (AA HWY.out hb3) HE4.out);have HS3:=Wz (Nat.le_trans HSY.out (Nat.le_trans hb3.size HE4.out.size));have hbl:w.heap.size+1+1<W3.heap.size:=(HOY.out.ext hb3).lt;have hwl:wr.heap.size<W3.heap.size:=(HBY.out.ext hb3).lt;have HT3:=Wz ht3;clear hb3 hp3 ht3 q0 q1 q2 q3 q4 q5 q6 r0 r1 r2 x0 x1 HQY HRY HOY HUY HBY HWY HCY HE4;have hwo:w.heap.size+1+1<wr.heap.size:=HO.out.lt;have hne:¬ wr.heap.size=w.heap.size+1:=by omega
   have hne2:¬ w.heap.size+1=wr.heap.size:=by omega
   cases ok3 with
   | false=>
    have HNO:=Wz (show C2 kd t lo hi o j b r Ls=none by rw[HDR.out];exact Po (by rw[HRS.out];exact HP3.out.none));clear hbl hwl;obtain⟨o0,o1,o2⟩:=HO3.out.all3;have g0:=HO3.out.frozen 0;have g1:=HO3.out.frozen 1;have g2:=HO3.out.frozen 2;go_wp2;have hBf:=((HO3.out.set_ 0 (R none 0 0)).set_ 1 (U I 0)).set_ 2 (J false);obtain⟨y0,y1,y2⟩:=hBf.all3;exact bodyPost_ret (v:=gI #[gF #[R none 0 0,U I 0,J false],U I 0,J false]) (by simp[results,Tryz.results56,go_sem,y0,y1,y2]) rfl ⟨_,_,_,_,_,_,_,rfl,by rw[HNO.out];exact rfl,fun h=>(by cases h),AE (AE (AE HE3.out (by simp;omega) _) (by simp;omega) _) (by simp;omega) _⟩
   | true=>
    obtain⟨m3,hm3⟩:∃ m3,m2=some m3:=by
     cases m2 with
     | none=>exact absurd HP3.out (by simp[Cc])
     | some m3=>exact⟨_,rfl⟩
    subst hm3;obtain rfl:tb3=tc:=HT3.out rfl;obtain⟨-,rfl,rfl,hu3⟩:=HP3.out;obtain⟨A9,c9,hA9,-⟩:=id hu3;injection hA9 with h91 h92 h93
    subst h91 h92 h93;have HU3:=Wz (hu3.mono (T:=fun x=>W0.heap.size<=x) fun x hx _=>Nat.le_trans HSY.out hx);clear hu3 HP3;obtain⟨r0,r1,r2⟩:=HR3.out.all3;have x0:=HX3.out.cell 0;have x1:=HX3.out.cell 1;have f0:=HR3.out.frozen 0;have f1:=HR3.out.frozen 1;have f2:=HR3.out.frozen 2;have HREL:=Wz (show C2 kd t lo hi o j b r (Ls.take (i+1))=some m3/\W0.heap.size<=(gC (gC (gC (W3.alloc (gD #[R Au3 m3.rows.length cu3,U I m3.val,J m3.found] 36)) ⟨w.heap.size+1,0,none⟩ (R Au3 m3.rows.length cu3)) ⟨w.heap.size+1,1,none⟩ (U I m3.val)) ⟨w.heap.size+1,2,none⟩ (J m3.found)).heap.size/\Blk (gC (gC (gC (W3.alloc (gD #[R Au3 m3.rows.length cu3,U I m3.val,J m3.found] 36)) ⟨w.heap.size+1,0,none⟩ (R Au3 m3.rows.length cu3)) ⟨w.heap.size+1,1,none⟩ (U I m3.val)) ⟨w.heap.size+1,2,none⟩ (J m3.found)) w.heap.size 33 #[U I kd,U I t,U I (j:Int),U I lo,U I hi,U I (b:Int),U I o]/\Blk (gC (gC (gC (W3.alloc (gD #[R Au3 m3.rows.length cu3,U I m3.val,J m3.found] 36)) ⟨w.heap.size+1,0,none⟩ (R Au3 m3.rows.length cu3)) ⟨w.heap.size+1,1,none⟩ (U I m3.val)) ⟨w.heap.size+1,2,none⟩ (J m3.found)) (w.heap.size+1) 36 #[R Au3 m3.rows.length cu3,U I m3.val,J m3.found]/\Blk (gC (gC (gC (W3.alloc (gD #[R Au3 m3.rows.length cu3,U I m3.val,J m3.found] 36)) ⟨w.heap.size+1,0,none⟩ (R Au3 m3.rows.length cu3)) ⟨w.heap.size+1,1,none⟩ (U I m3.val)) ⟨w.heap.size+1,2,none⟩ (J m3.found)) (w.heap.size+1+1) 36 #[R none 0 0,U I 0,J false]/\BF (fun x=>W0.heap.size<=x) (gC (gC (gC (W3.alloc (gD #[R Au3 m3.rows.length cu3,U I m3.val,J m3.found] 36)) ⟨w.heap.size+1,0,none⟩ (R Au3 m3.rows.length cu3)) ⟨w.heap.size+1,1,none⟩ (U I m3.val)) ⟨w.heap.size+1,2,none⟩ (J m3.found)) (R Au3 m3.rows.length cu3) m3.rows/\Below w.heap.size w (gC (gC (gC (W3.alloc (gD #[R Au3 m3.rows.length cu3,U I m3.val,J m3.found] 36)) ⟨w.heap.size+1,0,none⟩ (R Au3 m3.rows.length cu3)) ⟨w.heap.size+1,1,none⟩ (U I m3.val)) ⟨w.heap.size+1,2,none⟩ (J m3.found))from by
     refine⟨by rw[HTK.out];exact HRS.out,by simpa[gC]using HS3.out,?_,?_,?_,?_,?_⟩
     ·exact((HQ3.out.far (p:=⟨w.heap.size+1,0,none⟩) (by simp) _).far (p:=⟨w.heap.size+1,1,none⟩) (by simp) _).far (p:=⟨w.heap.size+1,2,none⟩) (by simp) _
     ·exact((HR3.out.set_ 0 _).set_ 1 _).set_ 2 _
     ·exact((HO3.out.far (p:=⟨w.heap.size+1,0,none⟩) (by simp <;> omega) _).far (p:=⟨w.heap.size+1,1,none⟩) (by simp <;> omega) _).far (p:=⟨w.heap.size+1,2,none⟩) (by simp <;> omega) _
     ·exact HU3.out.off3 (by have:=HZ0.out;omega)
     exact AE (AE (AE HE3.out (by simp) _) (by simp) _) (by simp) _)
    cases tb3 with
    | true=>
     go_wp2;go_roundw
     case rel=>exact⟨i+1,_,m3,by omega,by go_num,by rw[HSS.out,HPP.out];simp,HREL.out⟩
     simp[intOf];omega
    | false=>
     go_wp2;go_roundw
     case rel=>exact⟨i+1,_,m3,by omega,by go_num,by rw[HSS.out];simp,HREL.out⟩
     simp[intOf];omega
  have hil:i=Ls.length:=by omega
  have d1:decide ((i:Int)<(Ls.length:Int))=false:=decide_eq_false (by omega);have HEQ:=Wz (show Ls.take i=Ls by rw[hil,List.take_length]);have HSI:=Wz (show Cl kd t lo hi o j b base Ls i=Cl kd t lo hi o j b base Ls Ls.length by rw[hil]);rw[HEQ.out]at HPM;rw[HSI.out];obtain⟨mr,mv,mf⟩:=m;dsimp only at *;obtain⟨Au2,cu2,rfl,-⟩:=id HU.out;obtain⟨r0,r1,r2⟩:=HR.out.all3;obtain⟨o0,o1,o2⟩:=HO.out.all3;have f0:=HO.out.frozen 0;have f1:=HO.out.frozen 1;have f2:=HO.out.frozen 2;clear hil;go_wp2;have hBf:=((HO.out.set_ 0 (R Au2 mr.length cu2)).set_ 1 (U I mv)).set_ 2 (J mf);obtain⟨y0,y1,y2⟩:=hBf.all3;exact bodyPost_ret (v:=gI #[gF #[R Au2 mr.length cu2,U I mv,J mf],U I (Cl kd t lo hi o j b base Ls Ls.length:Int),J true]) (by simp[results,Tryz.results56,go_sem,y0,y1,y2]) rfl ⟨_,_,_,_,_,_,_,rfl,by rw[HPM.out];exact⟨rfl,rfl,rfl,(HU.out.off3 (by have:=HZ0.out;omega)).mono fun x hx _=>by have:=HZ0.out;omega⟩,fun _=>rfl,AE (AE (AE HE.out (by simp;omega) _) (by simp;omega) _) (by simp;omega) _⟩
end
end Go.Proofs.YtimoapjhepmehaaGreatDoor
