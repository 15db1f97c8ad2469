/- Part 32: contracts that the last part uses. -/
import Derived.Test.YtimoapjhepmehaaGreatDoorJ31
import Derived.Test.YtimoapjhepmehaaGreatDoorJ27
import Derived.Test.YtimoapjhepmehaaGreatDoorJ30
set_option linter.unusedSimpArgs false
set_option linter.unusedVariables false
set_option maxHeartbeats 4000000
set_option maxRecDepth 100000
namespace Go.Proofs.YtimoapjhepmehaaGreatDoor
open Go.IntKind renaming i64->I
open Go.Value renaming int->U,bool->eN,slice->eP,pointer->eR
open Go.RowKit renaming Below->J
open Go renaming World->eO,Value->eQ,Calls->eV
open Go.Obj renaming cells->eS
open Tryz renaming prog->eT
open Go.Ending renaming returned->eU
open Go.World renaming setCell->eW
open List renaming getElem?_eq_getElem->eZ
section
open Go.RowKit Go.Shelf
attribute [local go_sem ↓] AQ AU Go.wp_at_zero Go.wp_at_succ
def IM(j:Nat)(x r:AD):Bool:=decide (x.col j<r.col j) || (decide (r.col j=x.col j) && decide (x.k<r.k))
def Db(j:Nat)(c:AH)(sa:Option AD)(l:List AD):List AD:=match sa with
 | none=>l.filter (fun r => !(decide (r.t=c.t) && decide (r.k=c.k)))
 | some x=>I5 (IM j x) x (l.filter (fun r => !(decide (r.t=c.t) && decide (r.k=c.k))))
theorem Hq{α:Type}(p:α->Bool)(x:α)(l:List α):(I5 p x l).length=l.length+1:=by
 unfold I5;rw[List.length_append,List.length_cons,List.length_take,List.length_drop];omega
theorem dropB(B be:Nat)(hb:be<B)(E:Array eQ)(j:Int)(c:AH)(pb pa:Option Addr)(hE:Eo E j c pb pa):FnB AD.val B (fun W=>Blk W be 297 E/\B<=W.heap.size) 233 #[eR (some ⟨be,0,none⟩)] (fun r=>decide (r.t=c.t) && decide (r.k=c.k)):=
 ⟨(TS be E j c pb pa hE).enters,fun _ _ h k=>⟨h.1.below k hb,Nat.le_trans h.2 k.size⟩,fun _ h=>h.2,fun r W h=>(TS be E j c pb pa hE).tells r W h.1⟩
theorem QW(be bv gp j:Nat)(hj:j<4){E:Array eQ}{c:AH}{pb:Option Addr}(hE:Eo E (j:Int) c pb (some ⟨gp,0,none⟩))(x r:AD)(w:eO)(hB:Blk w be 297 E)(hv:Blk w bv 3 #[U I (x.col j)])(hp:Blk w gp 67 #[U I x.t,U I x.k,U I x.a,U I x.b,U I x.c]) :
  eV eT 241 #[r.val,eR (some ⟨be,0,none⟩),eR (some ⟨bv,0,none⟩)] w fun e w'=>e=eU (eN (IM j x r))/\J w.heap.size w w':=by
 have HV:=Wz (fun W:eO=>BL r j hj W);have HP:=Wz (show IM j x r=(decide (x.col j<r.col j) || (decide (r.col j=x.col j) && decide (x.k<r.k)))from rfl);generalize IM j x r=res at *;generalize r.col j=rv at *;generalize x.col j=xv at *;obtain⟨r0,r1,r2,r3,r4⟩:=r;dsimp only[AD.val,AD.arr]at *;have hN:=AC w (eS #[U I r0,U I r1,U I r2,U I r3,U I r4] 67);have x2:=AG ((hB.cell 2).trans hE.c2) hN;have x18:=AG ((hB.cell 18).trans hE.c18) hN;have v0:=AG (show w.cell? ⟨bv,0,none⟩=some (U I xv)from hv.cell 0) hN;have g1:=AG (show w.cell? ⟨gp,1,none⟩=some (U I x.k)from hp.cell 1) hN;generalize x.k=xk at *;clear hB hv hp hE;go_enter Tryz.func241,Tryz.ntmps241;go_wp2_with fail
 refine(HV.out _).mono ?_;rintro e W1 ⟨rfl,hb1⟩;have x18:=AG x18 hb1;have v0:=AG v0 hb1;have g1:=AG g1 hb1;have HE:=Wz (AA hN hb1);have rk:W1.cell? ⟨w.heap.size,1,none⟩=some (U I r1):=((Blk.new w 67 #[U I r0,U I r1,U I r2,U I r3,U I r4]).ext hb1).cell 1;clear hN hb1 x2;by_cases h1:xv<rv
 ·have hres:res=true:=by rw[HP.out];simp[h1]
  have d1:decide (xv<rv)=true:=decide_eq_true h1;subst hres;go_upto_region 2 with(fail)
  go_quiet (fail);go_wp2;go_ret;exact⟨rfl,Af HE.out _⟩
 by_cases h2:rv=xv
 ·have HR:=Wz (show res=decide (xk<r1)by rw[HP.out];simp[h1,h2]);subst h2;have d1:decide (rv<rv)=false:=decide_eq_false h1;have d2:(rv == rv)=true:=by simp
  go_upto_region 2 with(fail)
  go_quiet (fail);go_wp2;go_ret;exact⟨by rw[HR.out];rfl,Af HE.out _⟩
 have hres:res=false:=by rw[HP.out];simp[h1,h2]
 have h3:(rv == xv)=false:=by simpa using h2
 have d1:decide (xv<rv)=false:=decide_eq_false h1;subst hres;go_upto_region 2 with(fail)
 go_quiet (fail);go_wp2;go_ret;exact⟨rfl,Af HE.out _⟩
def KZ(B be bv gp j:Nat)(E:Array eQ)(x:AD)(W:eO):Prop:=(Blk W be 297 E/\Blk W bv 3 #[U I (x.col j)]/\Blk W gp 67 #[U I x.t,U I x.k,U I x.a,U I x.b,U I x.c])/\(be<B/\bv<B/\gp<B)/\B<=W.heap.size
theorem J6(B be bv gp j:Nat)(hj:j<4){E:Array eQ}{c:AH}{pb:Option Addr}(hE:Eo E (j:Int) c pb (some ⟨gp,0,none⟩))(x:AD):FnB AD.val B (KZ B be bv gp j E x) 241 #[eR (some ⟨be,0,none⟩),eR (some ⟨bv,0,none⟩)] (IM j x):=
 ⟨enters_of Tryz.func241 (by kernel_rfl) rfl,fun _ _ h k=>⟨⟨h.1.1.below k h.2.1.1,h.1.2.1.below k h.2.1.2.1,h.1.2.2.below k h.2.1.2.2⟩,h.2.1,Nat.le_trans h.2.2 k.size⟩,fun _ h=>h.2.2,fun r W h=>QW be bv gp j hj hE x r W h.1.1 h.1.2.1 h.1.2.2⟩
theorem QX{E:Array eQ}{j:Nat}(hj:j<4){c:AH}{pb:Option Addr}{gp:Nat}(hE:Eo E (j:Int) c pb (some ⟨gp,0,none⟩))(r:AD)(w:eO)(hp:Blk w gp 67 #[U I r.t,U I r.k,U I r.a,U I r.b,U I r.c]) :
  eV eT 235 #[.agg E] w fun e w'=>∃ be bv,e=eU (.func (.func 241) #[] #[eR (some ⟨be,0,none⟩),eR (some ⟨bv,0,none⟩)])/\KZ w'.heap.size be bv gp j E r w'/\J w.heap.size w w':=by
 have hmf:∀(fn:Fn) (first cap:Array eQ) (w:eO),(Instr.makeFunc fn first cap).run eT w=.ok (.func fn first cap) w:=fun _ _ _ _=>rfl;have HV:=Wz (fun W:eO=>BL r j hj W);obtain⟨X,hX⟩:∃ X,X=w.alloc (.cells E 297):=⟨_,rfl⟩;have HE0:=Wz (show J w.heap.size w X by rw[hX];exact AC _ _);have HBE:=Wz (show Blk X w.heap.size 297 E by rw[hX];exact Blk.new w 297 E);have HP:=Wz (hp.ext HE0.out);have HI:=Wz (fun(V:eO)(hV:J X.heap.size X V)(bv:Nat)(hv:Blk V bv 3 #[U I (r.col j)])=>(show KZ V.heap.size w.heap.size bv gp j E r V from⟨⟨HBE.out.ext hV,hv,HP.out.ext hV⟩,⟨(HBE.out.ext hV).lt,hv.lt,(HP.out.ext hV).lt⟩,Nat.le_refl _⟩));generalize r.col j=v at *;obtain⟨r0,r1,r2,r3,r4⟩:=r;dsimp only at *;have HF:=Wz (show ∀ Z,J X.heap.size X Z->Z.cell? ⟨w.heap.size,2,none⟩=some (U I (j:Int))/\Z.cell? ⟨w.heap.size,18,none⟩=some (eR (some ⟨gp,0,none⟩))from fun Z h=>⟨((HBE.out.ext h).cell 2).trans hE.c2,((HBE.out.ext h).cell 18).trans hE.c18⟩);have HX:=Wz hX;have HB:=Wz (show J X.heap.size X X.drew from(AF X).drew);clear hE hp hX;go_enter Tryz.func235,Tryz.ntmps235;go_upto_region 1 with(fail)
 rw[<- HX.out];refine DM (fun Z=>J X.heap.size X Z) [] (by kernel_rfl) ?_;generalize X.drew=D at HB ⊢;refine AM 0 (some 4) (v:=?_) rfl rfl (by kernel_rfl) (fun _ _ _ h=>h) (fun _=>HB.out) (Or.inl ⟨(by kernel_rfl),?_⟩) ?_;rotate_left 1
 ·(rintro w' -;go_simp;with_reducible rfl)
 refine CI 1 (some 5) (v:=?_) rfl rfl (by kernel_rfl) (fun _ _ _ h=>h) HB.out (Or.inl ⟨(by kernel_rfl),?_⟩) ?_;rotate_left 1
 ·(rintro w' h;obtain⟨f2,f18⟩:=HF.out _ h;go_simp;with_reducible rfl)
 refine AM 2 (some 6) (v:=?_) rfl rfl (by kernel_rfl) (fun _ _ _ h=>h) (fun _=>HB.out) (Or.inl ⟨(by kernel_rfl),?_⟩) ?_;rotate_left 1
 ·(rintro w' -;go_simp;with_reducible rfl)
 refine CI 3 (some 7) (v:=?_) rfl rfl (by kernel_rfl) (fun _ _ _ h=>h) HB.out (Or.inl ⟨(by kernel_rfl),?_⟩) ?_;rotate_left 1
 ·(rintro w' h;obtain⟨q0,q1,q2,q3,q4⟩:=(HP.out.ext h).all5;go_simp;with_reducible rfl)
 refine AM 4 (some 8) (v:=?_) rfl rfl (by kernel_rfl) (fun _ _ _ h=>h) (fun _=>HB.out) (Or.inl ⟨(by kernel_rfl),?_⟩) ?_;rotate_left 1
 ·(rintro w' -;go_simp;with_reducible rfl)
 refine AM 5 (some 9) (v:=?_) rfl rfl (by kernel_rfl) (fun _ _ _ h=>h) (fun _=>HB.out) (Or.inl ⟨(by kernel_rfl),?_⟩) ?_;rotate_left 1
 ·(rintro w' -;go_simp;with_reducible rfl)
 refine CI 6 (some 10) (v:=?_) rfl rfl (by kernel_rfl) (fun _ _ _ h=>h) HB.out (Or.inl ⟨(by kernel_rfl),?_⟩) ?_;rotate_left 1
 ·(rintro w' h;obtain⟨f2,f18⟩:=HF.out _ h;go_simp;with_reducible rfl)
 refine Ch [7,8] (by kernel_rfl) (by simp) ?_;simp only[List.forall_mem_cons,List.not_mem_nil,false_implies,implies_true,and_true];refine⟨?_,?_⟩
 ·refine AO rfl (by kernel_rfl) (fun K hK=>?_);go_simp;go_at_call 89;refine(HV.out _).mono ?_;rintro e V7 ⟨rfl,hbv⟩;have HB:=Wz (AA HB.out hbv);clear hbv;refine hK _ _ ⟨fun _=>HB.out,?_⟩;clear hK K;refine Ch [8] (by kernel_rfl) (by simp) ?_;simp only[List.forall_mem_cons,List.not_mem_nil,false_implies,implies_true,and_true];refine AO rfl (by kernel_rfl) (fun K hK=>?_);obtain⟨V8,hV8⟩:∃ V8,V8=World.alloc V7 (eS #[U I 0] 3):=⟨_,rfl⟩;obtain⟨gb,hgb⟩:∃ gb,gb=(World.heap V7).size:=⟨_,rfl⟩;have hbv:J (World.heap V7).size V7 V8:=by rw[hV8];exact AC _ _
  have HGB:=Wz (show X.heap.size<=gb by rw[hgb];exact HB.out.size);have HB:=Wz (AA HB.out hbv);have HBX:=Wz (show Blk V8 gb 3 #[U I 0]by rw[hV8,hgb];exact Blk.new _ _ _);go_simp;rw[<- hV8,<- hgb];clear hbv hV8 hgb;refine hK _ _ ⟨fun _=>HB.out,?_⟩;clear hK K;refine Ch [9] (by kernel_rfl) (by simp) ?_;simp only[List.forall_mem_cons,List.not_mem_nil,false_implies,implies_true,and_true];refine AO rfl (by kernel_rfl) (fun K hK=>?_);have b0:=HBX.out.cell 0;have bf:=HBX.out.frozen 0;have HB:=Wz (AE (p:=⟨gb,0,none⟩) HB.out HGB.out (U I v));have HBX:=Wz (HBX.out.set_ 0 (U I v));go_simp;clear b0 bf;refine hK _ _ ⟨fun _=>HB.out,?_⟩;clear hK K;refine EF (by kernel_rfl) ?_ _;have HI9:=Wz (HI.out _ HB.out gb HBX.out);have HE9:=Wz (AA HE0.out HB.out);generalize eW V8 ⟨gb,0,none⟩ (U I v)=V9 at *;go_wp2;go_ret;exact⟨_,_,rfl,HI9.out,HE9.out⟩
 refine AO rfl (by kernel_rfl) (fun K hK=>?_);obtain⟨V8,hV8⟩:∃ V8,V8=World.alloc D (eS #[U I 0] 3):=⟨_,rfl⟩;obtain⟨gb,hgb⟩:∃ gb,gb=(World.heap D).size:=⟨_,rfl⟩;have hbv:J (World.heap D).size D V8:=by rw[hV8];exact AC _ _
 have HGB:=Wz (show X.heap.size<=gb by rw[hgb];exact HB.out.size);have HB:=Wz (AA HB.out hbv);have HBX:=Wz (show Blk V8 gb 3 #[U I 0]by rw[hV8,hgb];exact Blk.new _ _ _);go_simp;rw[<- hV8,<- hgb];clear hbv hV8 hgb;refine hK _ _ ⟨fun _=>HB.out,?_⟩;clear hK K;refine Ch [7] (by kernel_rfl) (by simp) ?_;simp only[List.forall_mem_cons,List.not_mem_nil,false_implies,implies_true,and_true];refine AO rfl (by kernel_rfl) (fun K hK=>?_);go_simp;go_at_call 89;refine(HV.out _).mono ?_;rintro e V7 ⟨rfl,hbv⟩;have HB:=Wz (AA HB.out hbv);have HBX:=Wz (HBX.out.ext hbv);clear hbv;refine hK _ _ ⟨fun _=>HB.out,?_⟩;clear hK K;refine Ch [9] (by kernel_rfl) (by simp) ?_;simp only[List.forall_mem_cons,List.not_mem_nil,false_implies,implies_true,and_true];refine AO rfl (by kernel_rfl) (fun K hK=>?_);have b0:=HBX.out.cell 0;have bf:=HBX.out.frozen 0;have HB:=Wz (AE (p:=⟨gb,0,none⟩) HB.out HGB.out (U I v));have HBX:=Wz (HBX.out.set_ 0 (U I v));go_simp;clear b0 bf;refine hK _ _ ⟨fun _=>HB.out,?_⟩;clear hK K;refine EF (by kernel_rfl) ?_ _;have HI9:=Wz (HI.out _ HB.out gb HBX.out);have HE9:=Wz (AA HE0.out HB.out);generalize eW V7 ⟨gb,0,none⟩ (U I v)=V9 at *;go_wp2;go_ret;exact⟨_,_,rfl,HI9.out,HE9.out⟩
theorem Pd{E:Array eQ}{j:Nat}(hj:j<4){c:AH}{pb pa:Option Addr}(hE:Eo E (j:Int) c pb pa)(sa:Option AD)(l:List AD)(hl:l.length<=99999)(v:eQ)(val:Int)(fd:Bool)(w:eO)(hv:AR w v l)(hpa:Dm 0 w (.pointer pa) sa) :
  eV eT 212 #[.agg E,.agg #[v,U I val,eN fd]] w fun e w'=>∃ u,e=eU (.tuple #[.agg #[u,U I val,eN fd],eN true])/\BF (fun b=>w.heap.size<=b) w' u (Db j c sa l)/\J w.heap.size w w':=by
 have hmf:∀(fn:Fn) (first cap:Array eQ) (w:eO),(Instr.makeFunc fn first cap).run eT w=.ok (.func fn first cap) w:=fun _ _ _ _=>rfl;obtain⟨W0,hW0⟩:∃ W0,W0=((w.alloc (.cells E 297)).alloc (eS #[v,U I val,eN fd] 36)).alloc (eS #[eP none 0 0,U I 0,eN false] 36):=⟨_,rfl⟩;have hE0:J w.heap.size w W0:=by rw[hW0];exact AB (AB (AC _ _) _) _
 have HE0:=Wz hE0;have HB0:=Wz (show Blk W0 w.heap.size 297 E by rw[hW0];exact((Blk.new w 297 E).alloc _).alloc _);have HR0:=Wz (show Blk W0 (w.heap.size+1) 36 #[v,U I val,eN fd]by rw[hW0];exact(Blk.new' _ _ _ (by simp)).alloc _);have HO0:=Wz (show Blk W0 (w.heap.size+1+1) 36 #[eP none 0 0,U I 0,eN false]by rw[hW0];exact Blk.new' _ _ _ (by simp));have HPA:=Wz hpa;obtain⟨F,hF⟩:∃ F,F=l.filter (fun r => !(decide (r.t=c.t) && decide (r.k=c.k))):=⟨_,rfl⟩;have HWO:=Wz (Tr (dropB W0.heap.size w.heap.size HB0.out.lt E (j:Int) c pb pa hE) l (by omega) v ⟨HB0.out,Nat.le_refl _⟩ (hv.ext hE0));have HFL:=Wz (show F.length<=99999 by rw[hF];exact Nat.le_trans (List.length_filter_le _ _) hl);have HOUT:=Wz (show Db j c sa l=match (generalizing:=false) sa with|none=>F|some x=>I5 (IM j x) x F by rw[hF];rfl);rw[<- hF]at HWO;have HEI:=Wz hE;have HI:=Wz (Dk.trans (by rw[<- hE.size]));have HW0:=Wz hW0;obtain⟨A,cc,rfl,-⟩:=hv;generalize Db j c sa l=out at *;clear hW0 hE0 hpa hE hF;go_enter Tryz.func212,Tryz.ntmps212;go_upto_region 1 with(fail)
 rw[<- HW0.out];have r0:=HR0.out.cell 0;go_wp2_with fail
 refine HWO.out.mono ?_;rintro e W1 ⟨u,rfl,hu,hb1⟩;have hB1:=HB0.out.ext hb1;have hR1:=HR0.out.ext hb1;have hO1:=HO0.out.ext hb1;have HE1:=Wz (AA HE0.out hb1);have HZ0:=Wz (show w.heap.size+1+1<W0.heap.size from HO0.out.lt);obtain⟨Au,cu,rfl⟩:=AI hu;have r0:=hR1.cell 0;have f0:=hR1.frozen 0;obtain⟨X,hX⟩:∃ X,X=W1.setCell ⟨w.heap.size+1,0,none⟩ (eP Au F.length cu):=⟨_,rfl⟩;have HUX:=Wz (show X.ownsRow W0.heap.size 67 5 (eP Au F.length cu) F.length (ec AY F)by rw[hX];exact Cf hu (r:=w.heap.size+1) (by have:=HZ0.out;omega) (fun k hk=>Below.heap_setCell _ _ _ _ hk) (by simp[eW]) rfl rfl rfl);have HBX:=Wz (show Blk X w.heap.size 297 E by rw[hX];exact hB1.far (p:=⟨w.heap.size+1,0,none⟩) (by simp) _);have HRX:=Wz (show Blk X (w.heap.size+1) 36 #[eP Au F.length cu,U I val,eN fd]by rw[hX];exact hR1.set_ 0 _);have HOX:=Wz (show Blk X (w.heap.size+1+1) 36 #[eP none 0 0,U I 0,eN false]by rw[hX];exact hO1.far (p:=⟨w.heap.size+1,0,none⟩) (by simp) _);have HEX:=Wz (show J w.heap.size w X by rw[hX];exact AE HE1.out (by simp) _);have HXX:=Wz hX;have HXZ:=Wz (show W0.heap.size<=X.heap.size by rw[hX];simpa[eW]using hb1.size);clear hu hb1 hB1 hR1 hO1 hX HR0 HO0 HB0 HWO HE0;go_upto_region 2 with(fail)
 rw[<- HXX.out];clear r0 f0 HXX;have x18:X.cell? ⟨w.heap.size,18,none⟩=some (.pointer pa):=(HBX.out.cell 18).trans HEI.out.c18
 /- the end: the result box is stored as a whole -/
 have HEND:=Wz (fun(V:eO)(A2:Option Addr)(c2:Nat)(n:Nat)(hR:Blk V (w.heap.size+1) 36 #[eP A2 n c2,U I val,eN fd])(hO:Blk V (w.heap.size+1+1) 36 #[eP none 0 0,U I 0,eN false])(hE:J w.heap.size w V)(hn:n=out.length)(ho:V.ownsRow W0.heap.size 67 5 (eP A2 n c2) n (ec AY out))=>(show BF (fun b=>w.heap.size<=b) (((V.setCell ⟨w.heap.size+1+1,0,none⟩ (eP A2 n c2)).setCell ⟨w.heap.size+1+1,1,none⟩ (U I val)).setCell ⟨w.heap.size+1+1,2,none⟩ (eN fd)) (eP A2 n c2) out/\J w.heap.size w (((V.setCell ⟨w.heap.size+1+1,0,none⟩ (eP A2 n c2)).setCell ⟨w.heap.size+1+1,1,none⟩ (U I val)).setCell ⟨w.heap.size+1+1,2,none⟩ (eN fd))from by
  subst hn;have hz:=HZ0.out;exact⟨(BF.set3 (CX ho) hz).mono (fun b h _=>by omega),AE (AE (AE hE (by simp;omega) _) (by simp;omega) _) (by simp;omega) _⟩))
 cases pa with
 | none=>
  have hsa:sa=none:=by
   cases sa with
   | none=>rfl
   | some r=>obtain⟨g,h1,_⟩:=HPA.out;cases h1
  subst hsa;obtain⟨R3,O3,L3⟩:Blk X (w.heap.size+1) 36 #[eP Au F.length cu,U I val,eN fd]/\Blk X (w.heap.size+1+1) 36 #[eP none 0 0,U I 0,eN false]/\out=F:=⟨HRX.out,HOX.out,HOUT.out⟩;subst L3;have HFIN:=Wz (HEND.out X Au cu out.length R3 O3 HEX.out rfl HUX.out);obtain⟨r0,r1,r2⟩:=R3.all3;obtain⟨o0,o1,o2⟩:=O3.all3;have f0:=O3.frozen 0;have f1:=O3.frozen 1;have f2:=O3.frozen 2;have HOX:=Wz O3;clear R3 O3;go_wp2;have hBf:=((HOX.out.set_ 0 (eP Au out.length cu)).set_ 1 (U I val)).set_ 2 (eN fd);obtain⟨y0,y1,y2⟩:=hBf.all3;exact bodyPost_ret (v:=.tuple #[.agg #[eP Au out.length cu,U I val,eN fd],eN true]) (by simp[results,Tryz.results212,go_sem,y0,y1,y2]) rfl ⟨_,rfl,HFIN.out.1,HFIN.out.2⟩
 | some ap=>
  obtain⟨r,gp,rfl,rfl,hgp⟩:∃ r gp,sa=some r/\ap=⟨gp,0,none⟩/\Blk w gp 67 #[U I r.t,U I r.k,U I r.a,U I r.b,U I r.c]:=by
   cases sa with
   | none=>have h1:(Value.pointer (some ap))=.pointer none:=HPA.out;injection h1 with h1;cases h1
   | some r=>obtain⟨g,h1,_,h2⟩:=HPA.out;injection h1 with h1;injection h1 with h1;exact⟨r,g,rfl,h1,h2⟩
  have HGP:=Wz (hgp.ext HEX.out);have hgl:gp<w.heap.size:=hgp.lt;have HBH:=Wz (fun(W:eO)(h:J X.heap.size X W)=>QX hj HEI.out r W (HGP.out.ext h));have HIN:=Wz (fun(Z:eO)(be bv:Nat)(hI:KZ Z.heap.size be bv gp j E r Z)(h:J X.heap.size X Z)=>Rs (Nat.le_trans HXZ.out h.size) (J6 Z.heap.size be bv gp j hj HEI.out r) F (by have:=HFL.out;omega) (eP Au F.length cu) hI (AK HUX.out h) r);have HLN:=Wz (show F.length+1=out.length by rw[HOUT.out];exact(Hq _ _ _).symm);rw[<- show out=I5 (IM j r) r F from HOUT.out]at HIN;have HSO:=Wz (show ∀ k,(Value.slice Au F.length cu).ownBlock=some k->W0.heap.size<=k from fun k hk=>(HUX.out.lt k hk).1);have HB:=Wz (show J X.heap.size X X.drew from(AF X).drew);obtain⟨q0,q1,q2,q3,q4⟩:=r;dsimp only at *;go_wp2;clear x18;refine DM (fun Z=>J W0.heap.size X Z) [10] (by kernel_rfl) ?_;generalize X.drew=D at HB ⊢;refine AM 0 (some 14) (v:=?_) rfl rfl (by kernel_rfl) (fun _ _ _ h=>h) (fun _=>(HB.out.mono HXZ.out)) (Or.inl ⟨(by kernel_rfl),?_⟩) ?_;rotate_left 1
  ·(rintro w' -;go_simp;with_reducible rfl)
  refine CI 1 (some 15) (v:=?_) rfl rfl (by kernel_rfl) (fun _ _ _ h=>h) (HB.out.mono HXZ.out) (Or.inl ⟨(by kernel_rfl),?_⟩) ?_;rotate_left 1
  ·(rintro w' h;have g0:=(HRX.out.below h (by have:=HZ0.out;omega)).cell 0;go_simp;with_reducible rfl)
  refine AM 2 (some 16) (v:=?_) rfl rfl (by kernel_rfl) (fun _ _ _ h=>h) (fun _=>(HB.out.mono HXZ.out)) (Or.inl ⟨(by kernel_rfl),?_⟩) ?_;rotate_left 1
  ·(rintro w' -;go_simp;with_reducible rfl)
  refine CI 3 (some 17) (v:=?_) rfl rfl (by kernel_rfl) (fun _ _ _ h=>h) (HB.out.mono HXZ.out) (Or.inl ⟨(by kernel_rfl),?_⟩) ?_;rotate_left 1
  ·(rintro w' h;have f18:=((HBX.out.below h (by have:=HZ0.out;omega)).cell 18).trans HEI.out.c18;go_simp;with_reducible rfl)
  refine AM 4 (some 18) (v:=?_) rfl rfl (by kernel_rfl) (fun _ _ _ h=>h) (fun _=>(HB.out.mono HXZ.out)) (Or.inl ⟨(by kernel_rfl),?_⟩) ?_;rotate_left 1
  ·(rintro w' -;go_simp;with_reducible rfl)
  refine CI 5 (some 19) (v:=?_) rfl rfl (by kernel_rfl) (fun _ _ _ h=>h) (HB.out.mono HXZ.out) (Or.inl ⟨(by kernel_rfl),?_⟩) ?_;rotate_left 1
  ·(rintro w' h;obtain⟨q0,q1,q2,q3,q4⟩:=(HGP.out.below h (by have:=HZ0.out;omega)).all5;go_simp;with_reducible rfl)
  refine CI 6 (some 20) (v:=?_) rfl rfl (by kernel_rfl) (fun _ _ _ h=>h) (HB.out.mono HXZ.out) (Or.inl ⟨(by kernel_rfl),?_⟩) ?_;rotate_left 1
  ·(rintro w' h;refine KY 297 (.tmp 2) ?_ w.heap.size ?_ 297 E _ (HBX.out.below h (by have:=HZ0.out;omega)) Tryz.underlying297 ?_ HI.out <;> rfl)
  refine Ch [7] (by kernel_rfl) (by simp) ?_;simp only[List.forall_mem_cons,List.not_mem_nil,false_implies,implies_true,and_true];refine AO rfl (by kernel_rfl) (fun K hK=>?_);go_simp;go_at_call 235;refine(HBH.out _ HB.out).mono ?_;rintro e V7 ⟨be,bv,rfl,hI,hbv⟩;have HB:=Wz (AA HB.out hbv);have HIN7:=Wz (HIN.out V7 be bv hI HB.out);clear hbv hI;refine hK _ _ ⟨fun _=>(HB.out.mono HXZ.out),?_⟩;clear hK K;refine Ch [8] (by kernel_rfl) (by simp) ?_;simp only[List.forall_mem_cons,List.not_mem_nil,false_implies,implies_true,and_true];refine AO rfl (by kernel_rfl) (fun K hK=>?_);go_simp;go_at_call 234;refine HIN7.out.mono ?_;rintro e V8 ⟨u2,rfl,hu2,hx8⟩;have HU2:=Wz hu2;have HX8:=Wz (show J W0.heap.size X V8 from(HB.out.mono HXZ.out).trans hx8);obtain⟨A2,c2,rfl⟩:=AI hu2;clear hu2 hx8;have HR8:=Wz (HRX.out.below HX8.out (by have:=HZ0.out;omega));refine hK _ _ ⟨fun _=>HX8.out,?_⟩;clear hK K;refine AM 9 (some 23) (v:=?_) rfl rfl (by kernel_rfl) (fun _ _ _ h=>h) (fun _=>HX8.out) (Or.inl ⟨(by kernel_rfl),?_⟩) ?_;rotate_left 1
  ·(rintro w' -;go_simp;with_reducible rfl)
  refine Ch [10] (by kernel_rfl) (by simp) ?_;simp only[List.forall_mem_cons,List.not_mem_nil,false_implies,implies_true,and_true];refine AO rfl (by kernel_rfl) (fun K hK=>?_);have s0:=HR8.out.cell 0;have sf:=HR8.out.frozen 0;go_simp;clear s0 sf;refine hK _ _ ⟨fun h=>absurd h (by decide),?_⟩;clear hK K;refine EF (by kernel_rfl) ?_ _;have HR9:=Wz (HR8.out.set_ 0 (eP A2 (F.length+1) c2));have HO9:=Wz ((HOX.out.below HX8.out (by have:=HZ0.out;omega)).far (p:=⟨w.heap.size+1,0,none⟩) (by simp) (eP A2 (F.length+1) c2));have HE9:=Wz (AE (p:=⟨w.heap.size+1,0,none⟩) (HEX.out.trans (HX8.out.mono (by have:=HZ0.out;omega))) (by simp) (eP A2 (F.length+1) c2));have HU9:=Wz (show(V8.setCell ⟨w.heap.size+1,0,none⟩ (eP A2 (F.length+1) c2)).ownsRow W0.heap.size 67 5 (eP A2 (F.length+1) c2) (F.length+1) (ec AY out)from Cf HU2.out (r:=w.heap.size+1) (by have:=HZ0.out;omega) (fun k hk=>Below.heap_setCell _ _ _ _ hk) (by simp[eW]) rfl rfl rfl);have HFIN:=Wz (HEND.out _ A2 c2 (F.length+1) HR9.out HO9.out HE9.out HLN.out HU9.out);obtain⟨r0,r1,r2⟩:=HR9.out.all3;obtain⟨o0,o1,o2⟩:=HO9.out.all3;have f0:=HO9.out.frozen 0;have f1:=HO9.out.frozen 1;have f2:=HO9.out.frozen 2;generalize eW V8 ⟨w.heap.size+1,0,none⟩ (eP A2 (F.length+1) c2)=V9 at *;go_wp2;have hBf:=((HO9.out.set_ 0 (eP A2 (F.length+1) c2)).set_ 1 (U I val)).set_ 2 (eN fd);obtain⟨y0,y1,y2⟩:=hBf.all3;exact bodyPost_ret (v:=.tuple #[.agg #[eP A2 (F.length+1) c2,U I val,eN fd],eN true]) (by simp[results,Tryz.results212,go_sem,y0,y1,y2]) rfl ⟨_,rfl,HFIN.out.1,HFIN.out.2⟩
end
section
open Go.RowKit Go.Shelf
attribute [local go_sem ↓] AQ AU Go.wp_at_zero Go.wp_at_succ
def FO(o:Int)(j:Nat)(c:AH)(sb sa:Option AD)(old now:Int)(L:List (AD × AD)):List (AD × AD) × Bool:=
 if c.t=o then(match DK c with
  | none=>(L.filter (fun p => !decide (p.2.k=c.k)),c.had)
  | some y=>(L.map (fun p=>if p.2.k=c.k then(p.1,y)else p),c.had))
 else match sa with
  | none=>(L.filter (fun p => !decide (p.1.k=c.k)),true)
  | some x=>match L.find? (fun p=>decide (p.2.k=now))with
   | none=>(L.filter (fun p => !decide (p.1.k=c.k)),sb.isSome && decide (old=now))
   | some z=>(I5 (fun p=>IM j x p.1) (x,z.2) (L.filter (fun p => !decide (p.1.k=c.k))),true)
theorem LQ(o:Int)(j:Nat)(c:AH)(sb sa:Option AD)(old now:Int)(L:List (AD × AD)):(FO o j c sb sa old now L).1.length<=L.length+1:=by
 have h1:=List.length_filter_le (fun p:AD × AD => !decide (p.1.k=c.k)) L;have h2:=List.length_filter_le (fun p:AD × AD => !decide (p.2.k=c.k)) L;unfold FO
 repeat' split
 all_goals (try simp only[Hq,List.length_map])
 all_goals omega
theorem Rw{α:Type}(p:α->Bool)(l:List α):(l.find? p=none/\Dp p l = -1)∨∃(i:Nat) (z:α),l.find? p=some z/\l[i]? = some z/\Dp p l=(i:Int):=by
 unfold Dp
 cases h:l.findIdx? p with
 | none=>
  refine .inl ⟨List.find?_eq_none.2 (fun x hx=>by simpa using List.findIdx?_eq_none_iff.1 h x hx),rfl⟩
 | some i=>
  rw[List.findIdx?_eq_some_iff_getElem]at h;obtain⟨h1,h2,h3⟩:=h;refine .inr ⟨i,l[i],List.find?_eq_some_iff_getElem.2 ⟨h2,i,h1,rfl,fun k hk=>by simpa using h3 k hk⟩,eZ h1,rfl⟩
theorem CA.blit{α:Type}{enc:α->List eQ}{k B g cap:Nat}{e:TypeId}{W:eO}{M:List α}(h:Dt enc k)(ho:CA enc k B e W g cap M)(i:Nat)(hi:i<M.length)(x:α)(X Y Z Y':List eQ)(h1:enc M[i]=X++Y++Z)(h2:Y'.length=Y.length)(h3:enc x=X++Y'++Z):CA enc k B e (W.setCells g (i*k+X.length) Y') g cap (M.set i x):=by
 obtain⟨g1,g2,g3,cur,R,h4,h5,h6⟩:=ho;have hk:(X++Y++Z).length=k:=by rw[<- h1];exact h.len _
 have hl1:(ec enc (M.take i)).length=i*k:=by rw[BS h,List.length_take,Nat.min_eq_left (by omega)]
 have hle:(i+1)*k<=cap*k:=Nat.mul_le_mul_right k (by omega);rw[Nat.succ_mul]at hle;have hk2:X.length+Y.length+Z.length=k:=by rw[<- hk];simp[Nat.add_assoc]
 have hcur:cur.toList=(ec enc (M.take i)++X)++(Y++(Z++(ec enc (M.drop (i+1))++R))):=by
  rw[h6,Cz M i,List.drop_eq_getElem_cons hi];show(ec enc (M.take i)++(enc M[i]++ec enc (M.drop (i+1))))++R=_;rw[h1];simp
 refine⟨g1,by simpa using g2,g3,_,R,Blk.setCells Y' (i*k+X.length) W cur h4 (by omega),?_,?_⟩
 ·have:cur.toList.length=cap*k:=by simpa using h5
  simp[EI];omega
 rw[List.toList_toArray];unfold EI;have hL:(ec enc (M.take i)++X).length=i*k+X.length:=by rw[List.length_append,hl1]
 have hd:∀ P T:List eQ,(P++(Y++T)).drop (P.length+Y.length)=T:=fun P T=>by
  rw[<- List.append_assoc,<- List.length_append];exact List.drop_left' rfl
 have ht:∀ P T:List eQ,(P++T).take P.length=P:=fun P T=>List.take_left' rfl;rw[hcur,<- hL,ht,h2,hd,List.set_eq_take_append_cons_drop,if_pos hi];show _=(ec enc (M.take i++x::M.drop (i+1)))++R;rw[Dz];show _=(ec enc (M.take i)++(enc x++ec enc (M.drop (i+1))))++R;rw[h3];simp
theorem CA.below{α:Type}{enc:α->List eQ}{k B b g cap:Nat}{e:TypeId}{W V:eO}{M:List α}(ho:CA enc k B e W g cap M)(hk:J b W V)(hg:g<b):CA enc k B e V g cap M:=by
 obtain⟨h1,h2,h3,cur,R,h4,h5,h6⟩:=ho;exact⟨h1,h2,h3,cur,R,h4.below hk hg,h5,h6⟩
theorem KZ.ext{B be bv gp j:Nat}{E:Array eQ}{x:AD}{W V:eO}(h:KZ B be bv gp j E x W)(k:J W.heap.size W V):KZ V.heap.size be bv gp j E x V:=
 ⟨⟨h.1.1.ext k,h.1.2.1.ext k,h.1.2.2.ext k⟩,⟨(h.1.1.ext k).lt,(h.1.2.1.ext k).lt,(h.1.2.2.ext k).lt⟩,Nat.le_refl _⟩
theorem Tx{α:Type}(f:α->α){L:List α}{k:Nat}{p:α}(h:L[k]? = some p):((L.take k).map f++L.drop k).set k (f p)=(L.take (k+1)).map f++L.drop (k+1):=by
 have hk:=(List.getElem?_eq_some_iff.1 h).1;have hd:L.drop k=p::L.drop (k+1):=by rw[List.drop_eq_getElem_cons hk,(List.getElem?_eq_some_iff.1 h).2]
 have hl:((L.take k).map f).length=k:=by simp;omega
 rw[hd,List.take_add_one,h,List.set_append_right _ _ (by omega),hl];simp
theorem Blk.setCells_far{b g:Nat}{t:TypeId}{cs:Array eQ}(hb:b≠g):∀(vs:List eQ) (o:Nat) (W:eO),Blk W b t cs->Blk (W.setCells g o vs) b t cs
 | [],_,_,h=>h
 | v::r,o,W,h=>Blk.setCells_far hb r (o+1) _ (h.far (p:=⟨g,o,none⟩) hb v)
theorem Wk{E:Array eQ}{ck:Int}(hc:E[8]? = some (U I ck))(be:Nat)(p:AD × AD)(w:eO)(hB:Blk w be 297 E):eV eT 243 #[Fq p,eR (some ⟨be,0,none⟩)] w fun e w'=>e=eU (eN (decide (p.2.k=ck)))/\J w.heap.size w w':=by
 obtain⟨⟨r0,r1,r2,r3,r4⟩,⟨s0,s1,s2,s3,s4⟩⟩:=p;dsimp only[Fq];have x0:=(hB.cell 8).trans hc;have x1:=AG x0 (AC w (eS #[U I r0,U I r1,U I r2,U I r3,U I r4,U I s0,U I s1,U I s2,U I s3,U I s4] 340));clear hB hc;by_cases h:s1=ck
 ·subst h;go_enter Tryz.func243,Tryz.ntmps243;go_wp2;go_ret;exact⟨by simp,by first|exact AC _ _|exact AF _⟩
 have hb:(s1 == ck)=false:=by simpa using h
 go_enter Tryz.func243,Tryz.ntmps243;go_wp2;go_ret;exact⟨by simp[h],by first|exact AC _ _|exact AF _⟩
theorem VK{E:Array eQ}{ck:Int}(hc:E[8]? = some (U I ck))(B be:Nat)(hb:be<B):FnB Fq B (fun W=>Blk W be 297 E/\B<=W.heap.size) 243 #[eR (some ⟨be,0,none⟩)] (fun p=>decide (p.2.k=ck)):=
 ⟨enters_of Tryz.func243 (by kernel_rfl) rfl,fun _ _ h k=>⟨h.1.below k hb,Nat.le_trans h.2 k.size⟩,fun _ h=>h.2,fun p W h=>Wk hc be p W h.1⟩
theorem Wl{E:Array eQ}{ck:Int}(hc:E[8]? = some (U I ck))(be:Nat)(p:AD × AD)(w:eO)(hB:Blk w be 297 E):eV eT 244 #[Fq p,eR (some ⟨be,0,none⟩)] w fun e w'=>e=eU (eN (decide (p.1.k=ck)))/\J w.heap.size w w':=by
 obtain⟨⟨r0,r1,r2,r3,r4⟩,⟨s0,s1,s2,s3,s4⟩⟩:=p;dsimp only[Fq];have x0:=(hB.cell 8).trans hc;have x1:=AG x0 (AC w (eS #[U I r0,U I r1,U I r2,U I r3,U I r4,U I s0,U I s1,U I s2,U I s3,U I s4] 340));clear hB hc;by_cases h:r1=ck
 ·subst h;go_enter Tryz.func244,Tryz.ntmps244;go_wp2;go_ret;exact⟨by simp,by first|exact AC _ _|exact AF _⟩
 have hb:(r1 == ck)=false:=by simpa using h
 go_enter Tryz.func244,Tryz.ntmps244;go_wp2;go_ret;exact⟨by simp[h],by first|exact AC _ _|exact AF _⟩
theorem VL{E:Array eQ}{ck:Int}(hc:E[8]? = some (U I ck))(B be:Nat)(hb:be<B):FnB Fq B (fun W=>Blk W be 297 E/\B<=W.heap.size) 244 #[eR (some ⟨be,0,none⟩)] (fun p=>decide (p.1.k=ck)):=
 ⟨enters_of Tryz.func244 (by kernel_rfl) rfl,fun _ _ h k=>⟨h.1.below k hb,Nat.le_trans h.2 k.size⟩,fun _ h=>h.2,fun p W h=>Wl hc be p W h.1⟩
theorem Wm{E:Array eQ}{ck:Int}(hc:E[20]? = some (U I ck))(be:Nat)(p:AD × AD)(w:eO)(hB:Blk w be 297 E):eV eT 246 #[Fq p,eR (some ⟨be,0,none⟩)] w fun e w'=>e=eU (eN (decide (p.2.k=ck)))/\J w.heap.size w w':=by
 obtain⟨⟨r0,r1,r2,r3,r4⟩,⟨s0,s1,s2,s3,s4⟩⟩:=p;dsimp only[Fq];have x0:=(hB.cell 20).trans hc;have x1:=AG x0 (AC w (eS #[U I r0,U I r1,U I r2,U I r3,U I r4,U I s0,U I s1,U I s2,U I s3,U I s4] 340));clear hB hc;by_cases h:s1=ck
 ·subst h;go_enter Tryz.func246,Tryz.ntmps246;go_wp2;go_ret;exact⟨by simp,by first|exact AC _ _|exact AF _⟩
 have hb:(s1 == ck)=false:=by simpa using h
 go_enter Tryz.func246,Tryz.ntmps246;go_wp2;go_ret;exact⟨by simp[h],by first|exact AC _ _|exact AF _⟩
theorem VM{E:Array eQ}{ck:Int}(hc:E[20]? = some (U I ck))(B be:Nat)(hb:be<B):FnB Fq B (fun W=>Blk W be 297 E/\B<=W.heap.size) 246 #[eR (some ⟨be,0,none⟩)] (fun p=>decide (p.2.k=ck)):=
 ⟨enters_of Tryz.func246 (by kernel_rfl) rfl,fun _ _ h k=>⟨h.1.below k hb,Nat.le_trans h.2 k.size⟩,fun _ h=>h.2,fun p W h=>Wm hc be p W h.1⟩
theorem Wn{B bx be bv gp j:Nat}(hj:j<4){E:Array eQ}{c:AH}{pb:Option Addr}(hE:Eo E (j:Int) c pb (some ⟨gp,0,none⟩))(x:AD)(p:AD × AD)(w:eO)(hx:Blk w bx 173 #[.func (.func 241) #[] #[eR (some ⟨be,0,none⟩),eR (some ⟨bv,0,none⟩)]])(hI:KZ B be bv gp j E x w) :
  eV eT 248 #[Fq p,eR (some ⟨bx,0,none⟩)] w fun e w'=>e=eU (eN (IM j x p.1))/\J w.heap.size w w':=by
 obtain⟨⟨r0,r1,r2,r3,r4⟩,⟨s0,s1,s2,s3,s4⟩⟩:=p;dsimp only[Fq];have eg:=(J6 B be bv gp j hj hE x).enters;have HC:=Wz (fun(W:eO)(k:J w.heap.size w W)=>QW be bv gp j hj hE x ⟨r0,r1,r2,r3,r4⟩ W (hI.1.1.ext k) (hI.1.2.1.ext k) (hI.1.2.2.ext k));have x0:=hx.cell 0;have x1:=AG x0 (AC w (eS #[U I r0,U I r1,U I r2,U I r3,U I r4,U I s0,U I s1,U I s2,U I s3,U I s4] 340));generalize IM j x ⟨r0,r1,r2,r3,r4⟩=res at *;clear hx hI hE;go_enter Tryz.func248,Tryz.ntmps248;go_wp2_with fail
 refine(HC.out _ (by first|exact AC _ _|exact AF _)).mono ?_;rintro e W1 ⟨rfl,hb1⟩;have HE:=Wz (AA (show J w.heap.size w _ by first|exact AC _ _|exact AF _) hb1);clear hb1;go_wp2;go_ret;exact⟨rfl,HE.out⟩
theorem VN{B bx be bv gp j:Nat}(hj:j<4){E:Array eQ}{c:AH}{pb:Option Addr}(hE:Eo E (j:Int) c pb (some ⟨gp,0,none⟩))(x:AD)(hb:bx<B):FnB Fq B (fun W=>Blk W bx 173 #[.func (.func 241) #[] #[eR (some ⟨be,0,none⟩),eR (some ⟨bv,0,none⟩)]]/\KZ B be bv gp j E x W) 248 #[eR (some ⟨bx,0,none⟩)] (fun p=>IM j x p.1):=
 ⟨enters_of Tryz.func248 (by kernel_rfl) rfl,fun W W' h k=>⟨h.1.below k hb,(J6 B be bv gp j hj hE x).keeps W W' h.2 k⟩,fun _ h=>h.2.2.2,fun p W h=>Wn hj hE x p W h.1 h.2⟩
theorem Pe{P:Program}{w:eO}{a:Addr}{m:Mode}(fn:Fn)(first captured:Array eQ):(store a (.func fn first captured) m).run P w=stored P w a (.func fn first captured) m:=run_store P w a _ m rfl
attribute [local go_sem] Pe
theorem joinE(kd t lo hi o:Int)(j b:Nat)(hj:j<4)(c:AH)(sb sa:Option AD)(pb pa:Option Addr)(old now:Int){E:Array eQ}(hE:E=Bp kd t (j:Int) lo hi (b:Int) o c (.pointer pb) (.pointer pa) old now)(L:List (AD × AD))(hn:L.length<=99999)(B:Nat)(v:eQ)(w:eO)(hB:B<=w.heap.size)(hv:w.ownsRow B 340 10 v L.length (ec Ca L))(hpb:pb.isSome=sb.isSome)(hpa:Dm 0 w (.pointer pa) sa) :
  eV eT 237 #[.agg E,v] w fun e w'=>∃ u,e=eU (.tuple #[u,eN (FO o j c sb sa old now L).2])/\w'.ownsRow B 340 10 u (FO o j c sb sa old now L).1.length (ec Ca (FO o j c sb sa old now L).1)/\J B w w':=by
 have hmf:∀(fn:Fn) (first cap:Array eQ) (w:eO),(Instr.makeFunc fn first cap).run eT w=.ok (.func fn first cap) w:=fun _ _ _ _=>rfl;have hEI:Eo E (j:Int) c pb pa:=by rw[hE];exact Nq
 have HEI:=Wz hEI;obtain⟨W0,hW0⟩:∃ W0,W0=w.alloc (.cells E 297):=⟨_,rfl⟩;obtain⟨be,hbe⟩:∃ be,be=w.heap.size:=⟨_,rfl⟩;have hE0:J w.heap.size w W0:=by rw[hW0];exact AC _ _
 have HE0:=Wz hE0;have HB0:=Wz (show Blk W0 be 297 E by rw[hW0,hbe];exact Blk.new w 297 E);have HV0:=Wz (AK hv hE0);have HBE:=Wz (show B<=be/\be<W0.heap.size from⟨by omega,HB0.out.lt⟩);have HVL:=Wz (fun g (h:v.ownBlock=some g)=>(show g<be by rw[hbe];exact(hv.lt g h).2));have HI:=Wz (Dk.trans (by rw[<- hEI.size]));have HPA:=Wz (hpa.ext hE0);have HPB:=Wz hpb;have HOW:=Wz (fun h0:0<L.length=>GJ AL hv h0);have e6:E[6]? = some (U I o):=by rw[hE];rfl
 have e7:E[7]? = some (U I c.t):=by rw[hE];rfl
 have e8:E[8]? = some (U I c.k):=by rw[hE];rfl
 have e9:E[9]? = some (eN c.had):=by rw[hE];rfl
 have e10:E[10]? = some (U I c.o1):=by rw[hE];rfl
 have e11:E[11]? = some (U I c.o2):=by rw[hE];rfl
 have e12:E[12]? = some (U I c.o3):=by rw[hE];rfl
 have e13:E[13]? = some (eN c.has):=by rw[hE];rfl
 have e14:E[14]? = some (U I c.n1):=by rw[hE];rfl
 have e15:E[15]? = some (U I c.n2):=by rw[hE];rfl
 have e16:E[16]? = some (U I c.n3):=by rw[hE];rfl
 have e17:E[17]? = some (.pointer pb):=by rw[hE];rfl
 have e19:E[19]? = some (U I old):=by rw[hE];rfl
 have e20:E[20]? = some (U I now):=by rw[hE];rfl
 have HCC:=Wz (fun(W:eO)(h:Blk W be 297 E)=>(show(W.cell? ⟨be,7,none⟩=some (U I c.t)/\W.cell? ⟨be,8,none⟩=some (U I c.k)/\W.cell? ⟨be,9,none⟩=some (eN c.had)/\W.cell? ⟨be,10,none⟩=some (U I c.o1)/\W.cell? ⟨be,11,none⟩=some (U I c.o2)/\W.cell? ⟨be,12,none⟩=some (U I c.o3)/\W.cell? ⟨be,13,none⟩=some (eN c.has)/\W.cell? ⟨be,14,none⟩=some (U I c.n1)/\W.cell? ⟨be,15,none⟩=some (U I c.n2)/\W.cell? ⟨be,16,none⟩=some (U I c.n3))from
  ⟨(h.cell 7).trans e7,(h.cell 8).trans e8,(h.cell 9).trans e9,(h.cell 10).trans e10,(h.cell 11).trans e11,(h.cell 12).trans e12,(h.cell 13).trans e13,(h.cell 14).trans e14,(h.cell 15).trans e15,(h.cell 16).trans e16⟩))
 have H17:=Wz (fun(W:eO)(h:Blk W be 297 E)=>(show(W.cell? ⟨be,17,none⟩=some (.pointer pb)/\W.cell? ⟨be,18,none⟩=some (.pointer pa)/\W.cell? ⟨be,19,none⟩=some (U I old)/\W.cell? ⟨be,20,none⟩=some (U I now))from⟨(h.cell 17).trans e17,(h.cell 18).trans HEI.out.c18,(h.cell 19).trans e19,(h.cell 20).trans e20⟩));have x6:W0.cell? ⟨be,6,none⟩=some (U I o):=(HB0.out.cell 6).trans e6;have x7:W0.cell? ⟨be,7,none⟩=some (U I c.t):=(HB0.out.cell 7).trans e7;have HAF:=Wz (fun W:eO=>LD c W);have HJ:=Wz (show FO o j c sb sa old now L=if c.t=o then(match (generalizing:=false) DK c with
  | none=>(L.filter (fun p => !decide (p.2.k=c.k)),c.had)
  | some y=>(L.map (fun p=>if p.2.k=c.k then(p.1,y)else p),c.had))
 else match (generalizing:=false) sa with
  | none=>(L.filter (fun p => !decide (p.1.k=c.k)),true)
  | some x=>match (generalizing:=false) L.find? (fun p=>decide (p.2.k=now))with
   | none=>(L.filter (fun p => !decide (p.1.k=c.k)),sb.isSome && decide (old=now))
   | some z=>(I5 (fun p=>IM j x p.1) (x,z.2) (L.filter (fun p => !decide (p.1.k=c.k))),true)from rfl)
 have HF1:=Wz (fun(B:Nat)(hb:be<B)=>VK e8 B be hb);have HF2:=Wz (fun(B:Nat)(hb:be<B)=>VL e8 B be hb);have HF3:=Wz (fun(B:Nat)(hb:be<B)=>VM e20 B be hb);have HAC:=Wz (show(DK c).isSome=c.has by unfold DK;cases c.has <;> rfl);have HCA:=Wz (show c.arr=#[U I c.t,U I c.k,eN c.had,U I c.o1,U I c.o2,U I c.o3,eN c.has,U I c.n1,U I c.n2,U I c.n3]from rfl);generalize FO o j c sb sa old now L=res at *;obtain⟨M,ok⟩:=res;have HW0:=Wz hW0;obtain⟨A,cp,rfl⟩:=AI hv;have HBX:=Wz hbe;have HWB:=Wz hB;clear hE hEI hW0 hE0 hv hpa hpb e6 e7 e8 e9 e10 e11 e12 e13 e14 e15 e16 e17 e19 e20 hbe;dsimp only;by_cases ho:c.t=o
 ·have HJ := Wz (HJ.out.trans (if_pos ho));subst ho;have HAR:=Wz (fun W:eO=>HAF.out W);rw[HCA.out]at HAR;obtain⟨x7,x8,x9,x10,x11,x12,x13,x14,x15,x16⟩:=HCC.out W0 HB0.out;generalize DK c=ys at *;obtain⟨yy,hyy⟩:∃ yy,yy=oR ys:=⟨_,rfl⟩;rw[<- hyy]at HAR;have HYY:=Wz hyy;obtain⟨y0,y1,y2,y3,y4⟩:=yy;have HHC:=Wz (show c.has=ys.isSome from HAC.out.symm);clear hyy HAC HAF HCA;dsimp only[AD.val,AD.arr]at *;go_enter Tryz.func237,Tryz.ntmps237;go_wp2_with (first|(rw[<- HW0.out,<- HBX.out]))
  refine(HAR.out _).mono ?_;rintro e W1 ⟨rfl,hb1⟩;obtain⟨X,hX⟩:∃ X,X=W1.alloc (eS #[U I y0,U I y1,U I y2,U I y3,U I y4] 67):=⟨_,rfl⟩;obtain⟨gy,hgy⟩:∃ gy,gy=W1.heap.size:=⟨_,rfl⟩;have hEX:J W0.heap.size W0 X:=by rw[hX];exact AA hb1 (AC _ _)
  have HEX:=Wz hEX;have HBE:=Wz (HB0.out.ext hEX);have HGY:=Wz (show Blk X gy 67 #[U I y0,U I y1,U I y2,U I y3,U I y4]by rw[hX,hgy];exact Blk.new _ _ _);have HVX:=Wz (AK HV0.out hEX);have HXX:=Wz hX;have HXG:=Wz hgy;have HGB:=Wz (show be<gy by have:=HBE.out.lt;have h2:=HB0.out.lt;have:=hb1.size;omega);clear hX hgy hb1 hEX x6 x7 x8 x9 x10 x11 x12 x13 x14 x15 x16;rw[HHC.out]
  cases ys with
  | none=>
   obtain⟨rfl,rfl⟩:M=L.filter (fun p => !decide (p.2.k=c.k))/\ok=c.had:=by have:=HJ.out;injection this with h1 h2;exact⟨h1,h2⟩
   go_upto_region 4 with(fail)
   rw[<- HXX.out];have HB:=Wz (show J X.heap.size X X.drew from(AF X).drew);refine DM (fun Z=>J X.heap.size X Z) [] (by kernel_rfl) ?_;generalize X.drew=D at HB ⊢;refine AM 0 (some 27) (v:=?_) rfl rfl (by kernel_rfl) (fun _ _ _ h=>h) (fun _=>HB.out) (Or.inl ⟨(by kernel_rfl),?_⟩) ?_;rotate_left 1
   ·(rintro w' -;go_simp;with_reducible rfl)
   refine AM 1 (some 28) (v:=?_) rfl rfl (by kernel_rfl) (fun _ _ _ h=>h) (fun _=>HB.out) (Or.inl ⟨(by kernel_rfl),?_⟩) ?_;rotate_left 1
   ·(rintro w' -;go_simp;with_reducible rfl)
   refine AM 3 (some 30) (v:=?_) rfl rfl (by kernel_rfl) (fun _ _ _ h=>h) (fun _=>HB.out) (Or.inl ⟨(by kernel_rfl),?_⟩) ?_;rotate_left 1
   ·(rintro w' -;go_simp;with_reducible rfl)
   refine AM 4 (some 31) (v:=?_) rfl rfl (by kernel_rfl) (fun _ _ _ h=>h) (fun _=>HB.out) (Or.inl ⟨(by kernel_rfl),?_⟩) ?_;rotate_left 1
   ·(rintro w' -;go_simp;with_reducible rfl)
   refine CI 5 (some 32) (v:=?_) rfl rfl (by kernel_rfl) (fun _ _ _ h=>h) HB.out (Or.inl ⟨(by kernel_rfl),?_⟩) ?_;rotate_left 1
   ·(rintro w' h;have x9:=(HCC.out _ (HBE.out.ext h)).2.2.1;go_simp;with_reducible rfl)
   refine Ch [2] (by kernel_rfl) (by simp) ?_;simp only[List.forall_mem_cons,List.not_mem_nil,false_implies,implies_true,and_true];refine AO rfl (by kernel_rfl) (fun K hK=>?_);go_simp;refine(N3 (HF1.out D.heap.size (by have:=HBE.out.lt;have:=HB.out.size;omega)) L (by omega) _ ⟨HBE.out.ext HB.out,Nat.le_refl _⟩ (AK HVX.out HB.out)).mono ?_;rintro e V ⟨u,rfl,hu,hbv⟩;have HU:=Wz hu;obtain⟨Au,cu,rfl⟩:=AI hu;have HBD:=Wz HB.out;have HB:=Wz (AA HB.out hbv);clear hu hbv;refine hK _ _ ⟨fun _=>HB.out,?_⟩;clear hK K;refine AM 6 (some 4) (v:=?_) rfl rfl (by kernel_rfl) (fun _ _ _ h=>h) (fun _=>HB.out) (Or.inl ⟨(by kernel_rfl),?_⟩) ?_;rotate_left 1
   ·(rintro w' -;go_simp;with_reducible rfl)
   refine AM 7 (some 5) (v:=?_) rfl rfl (by kernel_rfl) (fun _ _ _ h=>h) (fun _=>HB.out) (Or.inl ⟨(by kernel_rfl),?_⟩) ?_;rotate_left 1
   ·(rintro w' -;go_simp;with_reducible rfl)
   refine EF (by kernel_rfl) ?_ _;have HE9:=Wz ((HE0.out.mono HWB.out).trans ((AA HEX.out HB.out).mono (Nat.le_trans HWB.out HE0.out.size)));go_wp2;go_ret2;exact⟨_,rfl,HU.out.mono (Nat.le_trans HWB.out (Nat.le_trans HE0.out.size (Nat.le_trans HEX.out.size HBD.out.size))),HE9.out⟩
  | some y =>
   obtain rfl:y=⟨y0,y1,y2,y3,y4⟩:=HYY.out.symm;obtain⟨f,hf⟩:∃ f:AD × AD->AD × AD,f=fun p=>if p.2.k=c.k then(p.1,⟨y0,y1,y2,y3,y4⟩)else p:=⟨_,rfl⟩
   obtain⟨rfl,rfl⟩:M=L.map f/\ok=c.had:=by rw[hf];have:=HJ.out;injection this with h1 h2;exact⟨h1,h2⟩
   have HFF:=Wz hf;have HVL:=Wz (fun g (h:(Value.slice A L.length cp).ownBlock=some g)=>(show g<be from HVL.out g h));clear hf;go_upto_region 5 with(fail)
   rw[<- HXX.out,<- HXG.out];go_wp2;go_loopw [8,35] (fun _ iv W=>∃ k:Nat,k<=L.length/\iv=U I (k:Int)/\W.ownsRow B 340 10 (eP A L.length cp) L.length (ec Ca ((L.take k).map f++L.drop k))/\Blk W be 297 E/\Blk W gy 67 #[U I y0,U I y1,U I y2,U I y3,U I y4]/\J B w W) (fun _ iv _=>L.length-(intOf iv).toNat)
   case atStart=>exact⟨0,Nat.zero_le _,rfl,by simpa using HVX.out,HBE.out,HGY.out,(HE0.out.mono HWB.out).trans (HEX.out.mono (Nat.le_trans HWB.out HE0.out.size))⟩
   case round=>
    obtain⟨k,hk,rfl,hO,hBe,hGy,hE⟩:=hrel;have HO:=Wz hO;have HBr:=Wz hBe;have HGr:=Wz hGy;have HE:=Wz hE;have e2:IntKind.i64.wrap ((k:Int)+1)=(k:Int)+1:=IntWalk.i64_in _ (by omega);by_cases hlt:k<L.length
    ·obtain⟨p,hp⟩:∃ p,L[k]? = some p:=⟨_,eZ hlt⟩;have HST:=Wz (Tx f hp);have HFP:=Wz (show f p=if p.2.k=c.k then(p.1,⟨y0,y1,y2,y3,y4⟩)else p by rw[HFF.out]);have hlen:((L.take k).map f++L.drop k).length=L.length:=by simp;omega
     have hMk:((L.take k).map f++L.drop k)[k]? = some p:=by
      rw[List.getElem?_append_right (by simp;omega)];have h3:((L.take k).map f).length=k:=by simp;omega
      rw[h3,Nat.sub_self,List.getElem?_drop,Nat.add_zero];exact hp
     generalize (L.take k).map f++L.drop k=M at *;rw[<- hlen]at hO;obtain⟨g,cp',hA,ho⟩:=GJ AL hO (by omega);injection hA with hA hn' hd'
     subst hA;subst hd';have hge:g<be:=HVL.out g rfl;have HOE:=Wz ho;have HM1:=Wz hMk;have HML:=Wz hlen;have s5:=ho.cell AL hMk 5 (by decide);have s6:=ho.cell AL hMk 6 (by decide);have s7:=ho.cell AL hMk 7 (by decide);have s8:=ho.cell AL hMk 8 (by decide);have s9:=ho.cell AL hMk 9 (by decide);have x8:=(HCC.out wr hBe).2.1;have HGM:=Wz (show ∀ h:k<M.length,M[k]'h=p from fun h=>by have:=hMk;rw[eZ h]at this;exact Option.some.inj this);obtain⟨⟨r0,r1,r2,r3,r4⟩,⟨t0,t1,t2,t3,t4⟩⟩:=p;simp only[AY,Ca,List.getElem?_cons_zero,List.getElem?_cons_succ,List.cons_append,List.nil_append]at s5 s6 s7 s8 s9;have s6:wr.cell? ⟨g,k*10+5+1,none⟩=some (U I t1):=s6;have s7:wr.cell? ⟨g,k*10+5+2,none⟩=some (U I t2):=s7;have s8:wr.cell? ⟨g,k*10+5+3,none⟩=some (U I t3):=s8;have s9:wr.cell? ⟨g,k*10+5+4,none⟩=some (U I t4):=s9;dsimp only at *;have q0:(0:Int)<=(k:Int):=by omega
     have q1:(k:Int)<(L.length:Int):=by omega
     have d1:decide ((k:Int)<(L.length:Int))=true:=decide_eq_true q1;have HFK:=Wz (show ∀ h:t1=c.k,f (⟨r0,r1,r2,r3,r4⟩,⟨t0,t1,t2,t3,t4⟩)=(⟨r0,r1,r2,r3,r4⟩,⟨y0,y1,y2,y3,y4⟩)from fun h=>HFP.out.trans (if_pos h));have HFN:=Wz (show ∀ h:¬ t1=c.k,f (⟨r0,r1,r2,r3,r4⟩,⟨t0,t1,t2,t3,t4⟩)=(⟨r0,r1,r2,r3,r4⟩,⟨t0,t1,t2,t3,t4⟩)from fun h=>HFP.out.trans (if_neg h));have HLL:=Wz (show((L.take (k+1)).map f++L.drop (k+1)).length=L.length by simp;omega);clear HFP HFF HJ HCC HAR H17 HF1 HF2 HF3 HYY;generalize c.k=ck at *;clear hO hBe hGy hE hp hMk ho hn' hlen;by_cases hs:t1=ck
     ·have HFQ:=Wz (HFK.out hs);subst hs;rw[HFQ.out]at HST;have b1:(t1 == t1)=true:=by simp
      go_upto_region 8 with(fail)
      go_quiet (fail);have hdd:=Af (AF wr) nq;generalize wr.drewN nq=D at hdd ⊢;have hOE:=HOE.out.ext hdd;have HBD:=Wz (HBr.out.ext hdd);have HGD:=Wz (HGr.out.ext hdd);have HED:=Wz (HE.out.trans (hdd.mono (Nat.le_trans HWB.out (Nat.le_trans HE.out.size (Nat.le_refl _)))));have s5:=AG s5 hdd;have s6:=AG s6 hdd;have s7:=AG s7 hdd;have s8:=AG s8 hdd;have s9:=AG s9 hdd;obtain⟨v0,v1,v2,v3,v4⟩:=HGD.out.all5;have g5:=hOE.frozen (k*10+5);have g6:=hOE.frozen (k*10+5+1);have g7:=hOE.frozen (k*10+5+2);have g8:=hOE.frozen (k*10+5+3);have g9:=hOE.frozen (k*10+5+4);have HNW:=Wz (CA.blit AL hOE k (by have:=HML.out;omega) (⟨r0,r1,r2,r3,r4⟩,⟨y0,y1,y2,y3,y4⟩) (AY ⟨r0,r1,r2,r3,r4⟩) (AY ⟨t0,t1,t2,t3,t4⟩) [] (AY ⟨y0,y1,y2,y3,y4⟩) (by rw[HGM.out];simp[Ca]) rfl (by simp[Ca]));rw[HST.out]at HNW;have HNO:=Wz (HNW.out.own AL);rw[HLL.out]at HNO;have HB3:=Wz (show Blk (D.setCells g (k*10+5) (AY ⟨y0,y1,y2,y3,y4⟩)) be 297 E/\Blk (D.setCells g (k*10+5) (AY ⟨y0,y1,y2,y3,y4⟩)) gy 67 #[U I y0,U I y1,U I y2,U I y3,U I y4]/\J B w (D.setCells g (k*10+5) (AY ⟨y0,y1,y2,y3,y4⟩))from⟨Blk.setCells_far (by omega) _ _ _ HBD.out,Blk.setCells_far (by have:=HGB.out;omega) _ _ _ HGD.out,CK hOE.1 _ _ _ HED.out⟩);clear hOE hdd HOE HST HNW HGM;go_wp2;go_roundw
      case rel=>exact⟨k+1,by omega,by go_num,HNO.out,HB3.out.1,HB3.out.2.1,HB3.out.2.2⟩
      simp[intOf];omega
     have HFQ:=Wz (HFN.out hs);have b1:(t1 == ck)=false:=by simpa using hs
     have HSM:=Wz (show M=(L.take (k+1)).map f++L.drop (k+1)by rw[<- HST.out,HFQ.out,<- HGM.out (by have:=HML.out;omega)];simp);rw[HSM.out]at HOE;have HNO:=Wz (HOE.out.own AL);rw[HLL.out]at HNO;clear s5 s7 s8 s9 HOE HST HGM;go_upto_region 8 with(fail)
     go_quiet (fail);have HDD:=Wz (Af (AF wr) nq);generalize wr.drewN nq=D at HDD ⊢;go_wp2;go_roundw
     case rel=>exact⟨k+1,by omega,by go_num,AK HNO.out HDD.out,HBr.out.ext HDD.out,HGr.out.ext HDD.out,HE.out.trans (HDD.out.mono (Nat.le_trans HWB.out (Nat.le_trans HE.out.size (Nat.le_refl _))))⟩
     simp[intOf];omega
    have d1:decide ((k:Int)<(L.length:Int))=false:=decide_eq_false (by omega);have x9:=(HCC.out wr hBe).2.2.1;have HLQ:=Wz (show(L.take k).map f++L.drop k=L.map f by rw[List.take_of_length_le (by omega),List.drop_of_length_le (by omega)];simp);rw[HLQ.out]at HO;clear hO hBe hGy hE;go_upto_region 11 with(fail)
    go_quiet (fail);have HDD:=Wz (Af (AF wr) nq);generalize wr.drewN nq=D at HDD ⊢;go_wp2;go_ret2;exact⟨_,rfl,by rw[List.length_map];exact AK HO.out HDD.out,HE.out.trans (HDD.out.mono (Nat.le_trans HWB.out (Nat.le_trans HE.out.size (Nat.le_refl _))))⟩
 have HJ2 := Wz (HJ.out.trans (if_neg ho));clear HJ;have b1:(c.t == o)=false:=by simpa using ho
 have HRW:=Wz (N3 (HF2.out W0.heap.size HBE.out.2) L (by omega) (eP A L.length cp) ⟨HB0.out,Nat.le_refl _⟩ HV0.out);obtain⟨F,hF⟩:∃ F,F=L.filter (fun p => !decide (p.1.k=c.k)):=⟨_,rfl⟩;have HFL:=Wz (show F.length<=99999 by rw[hF];exact Nat.le_trans (List.length_filter_le _ _) hn);rw[<- hF]at HRW HJ2;clear hF HAF HAC HCA HCC HF1 HF2;go_enter Tryz.func237,Tryz.ntmps237;go_wp2_with (first|(rw[<- HW0.out,<- HBX.out]))
 refine HRW.out.mono ?_;rintro e W1 ⟨u,rfl,hu,hb1⟩;obtain⟨Au,cu,rfl⟩:=AI hu;have HU1:=Wz hu;have HB1:=Wz (HB0.out.ext hb1);have HV1:=Wz (AK HV0.out hb1);have HE1:=Wz hb1;have HWW:=Wz (fun(V:eO)(h:J W0.heap.size W0 V)=>(show J B w V from(HE0.out.mono HWB.out).trans (h.mono (Nat.le_trans HWB.out HE0.out.size))));have HWO:=Wz (Nat.le_trans HWB.out HE0.out.size);clear hu hb1 x6 x7 b1 ho HRW HW0 HBX;obtain⟨x17,x18,x19,x20⟩:=H17.out W1 HB1.out
 cases pa with
 | none=>
  have hsa:sa=none:=by
   cases sa with
   | none=>rfl
   | some r=>obtain⟨g,h1,_⟩:=HPA.out;cases h1
  subst hsa;obtain⟨rfl,rfl⟩:M=F/\ok=true:=by have:=HJ2.out;injection this with h1 h2;exact⟨h1,h2⟩
  go_wp2;go_ret2;exact⟨_,rfl,HU1.out.mono HWO.out,HWW.out _ HE1.out⟩
 | some ap=>
  obtain⟨r,gp,rfl,rfl,hgp⟩:∃ r gp,sa=some r/\ap=⟨gp,0,none⟩/\Blk W0 gp 67 #[U I r.t,U I r.k,U I r.a,U I r.b,U I r.c]:=by
   cases sa with
   | none=>have h1:(Value.pointer (some ap))=.pointer none:=HPA.out;injection h1 with h1;cases h1
   | some r=>obtain⟨g,h1,_,h2⟩:=HPA.out;injection h1 with h1;injection h1 with h1;exact⟨r,g,rfl,h1,h2⟩
  have HGP:=Wz hgp;have HIX:=Wz (MW (HF3.out W1.heap.size (by have:=HBE.out.2;have:=HE1.out.size;omega)) L (eP A L.length cp) W1 HV1.out ⟨HB1.out,Nat.le_refl _⟩ (by omega));have hz:=Rw (fun p:AD × AD=>decide (p.2.k=now)) L;generalize Dp (fun p:AD × AD=>decide (p.2.k=now)) L=z at hz HIX;have HZ:=Wz hz;clear hz hgp;go_wp2_with fail
  refine HIX.out.mono ?_;rintro e W2 ⟨rfl,hb2⟩;have HU2:=Wz (AK HU1.out hb2);have HB2:=Wz (HB1.out.ext hb2);have HV2:=Wz (AK HV1.out hb2);have HE2:=Wz (AA HE1.out hb2);clear hb2 x17 x18 x19 x20 HIX HB1 HV1 HU1 HE1 HF3;rcases HZ.out with⟨hf,rfl⟩|⟨i,zp,hf,hi,rfl⟩
  ·rw[hf]at HJ2;obtain⟨rfl,hok⟩:M=F/\ok=(sb.isSome && decide (old=now)):=by have:=HJ2.out;injection this with h1 h2;exact⟨h1,h2⟩
   obtain⟨x17,x18,x19,x20⟩:=H17.out W2 HB2.out;have HOK:=Wz (show ok=(pb.isSome && decide (old=now))by rw[hok,HPB.out]);clear hok hf HJ2
   cases pb with
   | none=>
    obtain rfl:ok=false:=HOK.out;go_upto_region 17 with(fail)
    go_quiet (fail);have HDD:=Wz (Af (AF W2) nq);generalize W2.drewN nq=D at HDD ⊢;go_wp2;go_ret2;exact⟨_,rfl,AK (HU2.out.mono HWO.out) HDD.out,HWW.out _ (AA HE2.out HDD.out)⟩
   | some bp=>
    by_cases hon:old=now
    ·obtain rfl:ok=true:=by rw[HOK.out];simp[hon]
     subst hon;have b2:(old == old)=true:=by simp
     go_upto_region 17 with(fail)
     go_quiet (fail);have HDD:=Wz (Af (AF W2) nq);generalize W2.drewN nq=D at HDD ⊢;go_wp2;go_ret2;exact⟨_,rfl,AK (HU2.out.mono HWO.out) HDD.out,HWW.out _ (AA HE2.out HDD.out)⟩
    obtain rfl:ok=false:=by rw[HOK.out];simp[hon]
    have b2:(old == now)=false:=by simpa using hon
    go_upto_region 17 with(fail)
    go_quiet (fail);have HDD:=Wz (Af (AF W2) nq);generalize W2.drewN nq=D at HDD ⊢;go_wp2;go_ret2;exact⟨_,rfl,AK (HU2.out.mono HWO.out) HDD.out,HWW.out _ (AA HE2.out HDD.out)⟩
  rw[hf]at HJ2;obtain⟨hM,rfl⟩:M=I5 (fun p=>IM j r p.1) (r,zp.2) F/\ok=true:=by have:=HJ2.out;injection this with h1 h2;exact⟨h1,h2⟩
  have hil:=(List.getElem?_eq_some_iff.1 hi).1;have HBH:=Wz (QX hj HEI.out r W2 ((HGP.out.ext HE2.out)));clear hf HJ2 HOW HZ;go_wp2_with (refine wpList_load_row rfl 297 (.tmp 2) rfl be rfl 297 E (0,0) _ HB2.out Tryz.underlying297 rfl HI.out ?_)
  refine HBH.out.mono ?_;rintro e W3 ⟨be2,bv2,rfl,hI,hb3⟩;obtain⟨X,hX⟩:∃ X,X=W3.alloc (eS #[.func (.func 241) #[] #[eR (some ⟨be2,0,none⟩),eR (some ⟨bv2,0,none⟩)]] 173):=⟨_,rfl⟩;have hE3X:J W3.heap.size W3 X:=by rw[hX];exact AC _ _
  obtain⟨bx,hbx⟩:∃ bx,bx=W3.heap.size:=⟨_,rfl⟩;have hEX:J W2.heap.size W2 X:=AA hb3 hE3X;have HBX:=Wz (show Blk X bx 173 #[.func (.func 241) #[] #[eR (some ⟨be2,0,none⟩),eR (some ⟨bv2,0,none⟩)]]by rw[hX,hbx];exact Blk.new _ _ _);have HIX:=Wz (show KZ X.heap.size be2 bv2 gp j E r X from hI.ext hE3X);have HUX:=Wz (AK HU2.out hEX);have HBE2:=Wz (HB2.out.ext hEX);have HEX:=Wz (AA HE2.out hEX);have HVX:=Wz (AK HV2.out hEX);have HGX:=Wz (HGP.out.ext HEX.out);have HSX:=Wz (show W0.heap.size<=X.heap.size from HEX.out.size);have HXX:=Wz hX;have HBB:=Wz hbx;have HML:=Wz (show F.length+1=M.length by rw[hM];exact(Hq _ _ _).symm);have HIN:=Wz (fun(D:eO)(k:J X.heap.size X D)=>Rv (B:=W0.heap.size) (w:=D) (Nat.le_trans HSX.out k.size) (VN (B:=D.heap.size) hj HEI.out r (HBX.out.ext k).lt) F (by have:=HFL.out;omega) (eP Au F.length cu) ⟨HBX.out.ext k,HIX.out.ext k⟩ (AK HUX.out k) (r,zp.2));rw[<- hM]at HIN;obtain⟨g,c',hA,hoE⟩:=GJ AL HVX.out (by omega);injection hA with hA hn' hc'
  subst hA;subst hc';have HOE:=Wz hoE;have HIL:=Wz hi;obtain⟨⟨r0,r1,r2,r3,r4⟩,⟨t0,t1,t2,t3,t4⟩⟩:=zp;have hgW:g<W0.heap.size:=Nat.lt_trans (HVL.out g rfl) HBE.out.2;have HLC:=Wz (fun(D:eO)(k:J W0.heap.size X D)=>(show D.cell? ⟨g,i*10+5,none⟩=some (U I t0)/\D.cell? ⟨g,i*10+5+1,none⟩=some (U I t1)/\D.cell? ⟨g,i*10+5+2,none⟩=some (U I t2)/\D.cell? ⟨g,i*10+5+3,none⟩=some (U I t3)/\D.cell? ⟨g,i*10+5+4,none⟩=some (U I t4)from
   ⟨(HOE.out.below k hgW).cell AL HIL.out 5 (by decide),(HOE.out.below k hgW).cell AL HIL.out 6 (by decide),(HOE.out.below k hgW).cell AL HIL.out 7 (by decide),(HOE.out.below k hgW).cell AL HIL.out 8 (by decide),(HOE.out.below k hgW).cell AL HIL.out 9 (by decide)⟩))
  have q0:(0:Int)<=(i:Int):=by omega
  have q1:(i:Int)<(L.length:Int):=by omega
  obtain⟨z0,z1,z2,z3,z4⟩:=r;dsimp only at *;clear hEX hE3X hX hbx hI hb3 hi hM hoE hn' HB2 HU2 HV2 HBH hil;go_upto_region 19 with(fail)
  rw[<- HXX.out,<- HBB.out];have HB:=Wz (show J X.heap.size X X.drew from(AF X).drew);refine DM (fun Z=>J W0.heap.size X Z) [] (by kernel_rfl) ?_;generalize X.drew=D at HB ⊢;refine AM 0 (some 83) (v:=?_) rfl rfl (by kernel_rfl) (fun _ _ _ h=>h) (fun _=>(HB.out.mono HSX.out)) (Or.inl ⟨(by kernel_rfl),?_⟩) ?_;rotate_left 1
  ·(rintro w' -;go_simp;with_reducible rfl)
  refine AM 1 (some 84) (v:=?_) rfl rfl (by kernel_rfl) (fun _ _ _ h=>h) (fun _=>(HB.out.mono HSX.out)) (Or.inl ⟨(by kernel_rfl),?_⟩) ?_;rotate_left 1
  ·(rintro w' -;go_simp;with_reducible rfl)
  refine CI 2 (some 85) (v:=?_) rfl rfl (by kernel_rfl) (fun _ _ _ h=>h) (HB.out.mono HSX.out) (Or.inl ⟨(by kernel_rfl),?_⟩) ?_;rotate_left 1
  ·(rintro w' h;have f18:=((HBE2.out.below h HBE.out.2).cell 18).trans HEI.out.c18;go_simp;with_reducible rfl)
  refine AM 3 (some 86) (v:=?_) rfl rfl (by kernel_rfl) (fun _ _ _ h=>h) (fun _=>(HB.out.mono HSX.out)) (Or.inl ⟨(by kernel_rfl),?_⟩) ?_;rotate_left 1
  ·(rintro w' -;go_simp;with_reducible rfl)
  refine CI 4 (some 87) (v:=?_) rfl rfl (by kernel_rfl) (fun _ _ _ h=>h) (HB.out.mono HSX.out) (Or.inl ⟨(by kernel_rfl),?_⟩) ?_;rotate_left 1
  ·(rintro w' h;obtain⟨q0,q1,q2,q3,q4⟩:=(HGX.out.below h HGP.out.lt).all5;go_simp;with_reducible rfl)
  refine AM 5 (some 88) (v:=?_) rfl rfl (by kernel_rfl) (fun _ _ _ h=>h) (fun _=>(HB.out.mono HSX.out)) (Or.inl ⟨(by kernel_rfl),?_⟩) ?_;rotate_left 1
  ·(rintro w' -;go_simp;with_reducible rfl)
  refine AM 6 (some 89) (v:=?_) rfl rfl (by kernel_rfl) (fun _ _ _ h=>h) (fun _=>(HB.out.mono HSX.out)) (Or.inl ⟨(by kernel_rfl),?_⟩) ?_;rotate_left 1
  ·(rintro w' -;go_simp;with_reducible rfl)
  refine AM 7 (some 90) (v:=?_) rfl rfl (by kernel_rfl) (fun _ _ _ h=>h) (fun _=>(HB.out.mono HSX.out)) (Or.inl ⟨(by kernel_rfl),?_⟩) ?_;rotate_left 1
  ·(rintro w' -;go_simp;with_reducible rfl)
  refine AM 8 (some 91) (v:=?_) rfl rfl (by kernel_rfl) (fun _ _ _ h=>h) (fun _=>(HB.out.mono HSX.out)) (Or.inl ⟨(by kernel_rfl),?_⟩) ?_;rotate_left 1
  ·(rintro w' -;go_simp;with_reducible rfl)
  refine CI 9 (some 92) (v:=?_) rfl rfl (by kernel_rfl) (fun _ _ _ h=>h) (HB.out.mono HSX.out) (Or.inl ⟨(by kernel_rfl),?_⟩) ?_;rotate_left 1
  ·(rintro w' h;obtain⟨q0,q1,q2,q3,q4⟩:=HLC.out _ h;go_simp;with_reducible rfl)
  refine AM 10 (some 93) (v:=?_) rfl rfl (by kernel_rfl) (fun _ _ _ h=>h) (fun _=>(HB.out.mono HSX.out)) (Or.inl ⟨(by kernel_rfl),?_⟩) ?_;rotate_left 1
  ·(rintro w' -;go_simp;with_reducible rfl)
  refine AM 11 (some 94) (v:=?_) rfl rfl (by kernel_rfl) (fun _ _ _ h=>h) (fun _=>(HB.out.mono HSX.out)) (Or.inl ⟨(by kernel_rfl),?_⟩) ?_;rotate_left 1
  ·(rintro w' -;go_simp;with_reducible rfl)
  refine Ch [12] (by kernel_rfl) (by simp) ?_;simp only[List.forall_mem_cons,List.not_mem_nil,false_implies,implies_true,and_true];refine AO rfl (by kernel_rfl) (fun K hK=>?_);go_simp;refine(HIN.out D HB.out).mono ?_;rintro e V ⟨u2,rfl,hu2,hx8⟩;have HU2:=Wz hu2;have HX8:=Wz (show J W0.heap.size X V from(HB.out.mono HSX.out).trans hx8);obtain⟨A2,c2,rfl⟩:=AI hu2;clear hu2 hx8;refine hK _ _ ⟨fun _=>HX8.out,?_⟩;clear hK K;refine AM 13 (some 4) (v:=?_) rfl rfl (by kernel_rfl) (fun _ _ _ h=>h) (fun _=>HX8.out) (Or.inl ⟨(by kernel_rfl),?_⟩) ?_;rotate_left 1
  ·(rintro w' -;go_simp;with_reducible rfl)
  refine AM 14 (some 5) (v:=?_) rfl rfl (by kernel_rfl) (fun _ _ _ h=>h) (fun _=>HX8.out) (Or.inl ⟨(by kernel_rfl),?_⟩) ?_;rotate_left 1
  ·(rintro w' -;go_simp;with_reducible rfl)
  refine EF (by kernel_rfl) ?_ _;go_wp2;go_ret2;exact⟨_,rfl,by rw[<- HML.out];exact HU2.out.mono HWO.out,HWW.out _ (HEX.out.trans HX8.out)⟩
end
end Go.Proofs.YtimoapjhepmehaaGreatDoor
