/- Part 28: contracts that the last part uses. -/
import Derived.Test.YtimoapjhepmehaaGreatDoorJ21
import Derived.Deep.RegionHeld3
import Derived.Deep.Cut
import Derived.Test.YtimoapjhepmehaaGreatDoorJ24
set_option linter.unusedSimpArgs false
set_option linter.unusedVariables false
set_option maxHeartbeats 4000000
set_option maxRecDepth 100000
namespace Go.Proofs.YtimoapjhepmehaaGreatDoor
open Go.Value renaming string->U,int->cI,slice->cQ,agg->cR,pointer->cS,bool->cV
open Go.IntKind renaming i64->J
open Go.RowKit renaming Below->cJ
open Go renaming World->cK,Value->cM,Calls->cO
open Tryz renaming prog->cL
open Go.Obj renaming cells->cN
open Go.Ending renaming returned->cP
open Go.IntWalk renaming i64_in->cW
section
open Go.RowKit Go.Shelf
attribute [local go_sem ↓] Go.wp_at_zero Go.wp_at_succ
theorem Hm:∀(H:List (ByteArray × ByteArray)) (i k:Nat),AP i (H.take k)=(AP i H).take k
 | [],i,k=>by simp[AP]
 | x::H,i,0=>by simp[AP]
 | x::H,i,k+1=>by
  rw[List.take_succ_cons];show CP i x.1 x.2::AP (i+1) (H.take k)=(CP i x.1 x.2::AP (i+1) H).take (k+1);rw[List.take_succ_cons,Hm H (i+1) k]
theorem Rk{L:List ByteArray}{M:Nat}(h:L.length<=M):Hg L M=[]:=by
 have h1:C5 L.length L M=[]:=by
  cases hl:L.length with
  | zero=>rfl
  | succ f=>unfold C5;rw[if_pos h]
 unfold Hg;rw[h1];rfl
theorem Ea.set{w:cK}{g:Nat}{kv:List (Int × cM)}(h:Ea w g kv)(p:Addr)(v:cM)(hne:g≠p.block):Ea (w.setCell p v) g kv:=by
 obtain⟨es,c,h,e⟩:=h;exact⟨es,c,h.set p v hne,e⟩
def Dn(w:cK)(ga gm:Nat)(n:Int)(r:ByteArray)(kv:List (Int × cM)):Prop:=Blk w ga 92 #[cI J n,U r,.map (some gm)]/\Ea w gm kv
theorem Dn.ext{w W:cK}{ga gm:Nat}{n:Int}{r:ByteArray}{kv:List (Int × cM)}(h:Dn w ga gm n r kv)(k:cJ w.heap.size w W):Dn W ga gm n r kv:=⟨h.1.ext k,h.2.ext k⟩
theorem Dn.ne{w:cK}{ga gm:Nat}{n:Int}{r:ByteArray}{kv:List (Int × cM)}(h:Dn w ga gm n r kv):gm≠ga:=fun e=>by
 have h1:=h.1;obtain⟨es,c,h2,_⟩:=h.2;unfold Blk at h1;unfold Br at h2;rw[e,h1]at h2;cases h2
theorem QN(w:cK):cO cL 15 #[] w fun e w'=>e=cP (cS (some ⟨w.heap.size+1,0,none⟩))/\Dn w' (w.heap.size+1) w.heap.size (-1) ⟨#[]⟩ []/\cJ w.heap.size w w':=by
 have hmm:=@run_makeMap cL;go_enter Tryz.func15,Tryz.ntmps15;go_wp2;go_ret;exact⟨rfl,⟨Blk.new' _ _ _ (by simp),(Ea.new w).ext (AC _ _)⟩,AB (AC _ _) _⟩
theorem J0(ga gm:Nat)(n:Int)(r:ByteArray)(kv:List (Int × cM))(w:cK)(h:Dn w ga gm n r kv):cO cL 12 #[cS (some ⟨ga,0,none⟩)] w fun e w'=>e=cP (cI J n)/\w=w':=by
 have h0:w.cell? ⟨ga,0,none⟩=some (cI J n):=h.1.cell 0;clear h;go_enter Tryz.func12,Tryz.ntmps12;go_wp2;go_ret;exact⟨rfl,rfl⟩
theorem QO(r:ByteArray)(w:cK):cO cL 32 #[cR #[cI J (-1),U r]] w fun e w'=>e=cP (cV false)/\cJ w.heap.size w w':=by
 go_enter Tryz.func32,Tryz.ntmps32;go_wp2;go_ret;exact⟨rfl,AC _ _⟩
theorem J1(n:Int)(hn:0<=n)(r:ByteArray)(w:cK):cO cL 32 #[cR #[cI J n,U r]] w fun e w'=>e=cP (cV true)/\cJ w.heap.size w w':=by
 go_enter Tryz.func32,Tryz.ntmps32;go_wp2;go_ret;exact⟨by simp[hn],AC _ _⟩
theorem Rl(r r':ByteArray)(n:Int)(A:Option Addr)(c:Nat)(w:cK) :
  cO cL 34 #[cR #[cI J (-1),U r],cR #[cI J n,U r'],cQ A 0 c] w fun e w'=>e=cP (cV true)/\cJ w.heap.size w w':=by
 have hz:((0:Int) == 0)=true:=rfl;go_enter Tryz.func34,Tryz.ntmps34;go_wp2_with (go_at_call 32;refine(QO r _).mono ?_;rintro e W1 ⟨rfl,hb1⟩;have HE1:=Wz (AA (AB (AC w _) _) hb1);clear hb1)
 go_ret;exact⟨rfl,HE1.out⟩
def IL(v:cM)(n n':Int)(r r':ByteArray)(b:Bool)(w:cK):Prop:=∀ W:cK,cJ w.heap.size w W->cO cL 65 #[U r,cI J (n+1),U r',cI J (n'+1),v] W fun e w'=>e=cP (cV b)/\cJ W.heap.size W w'
theorem QP(r r':ByteArray)(n n':Int)(hn:0<=n/\n<=10000)(hn':0<=n'/\n'<=10000)(A:Option Addr)(k c:Nat)(b:Bool)(w:cK)(hX:IL (cQ A k c) n n' r r' b w) :
  cO cL 34 #[cR #[cI J n,U r],cR #[cI J n',U r'],cQ A k c] w fun e w'=>e=cP (cV b)/\cJ w.heap.size w w':=by
 have HX:=Wz hX;have HB:=Wz ((Blk.new w 89 #[cI J n,U r]).alloc (cN #[cI J n',U r'] 89));have HC:=Wz (Blk.new' (w.alloc (cN #[cI J n,U r] 89)) 89 #[cI J n',U r'] (b:=w.heap.size+1) (by simp));have e1:IntKind.i64.wrap (n+1)=n+1:=cW _ (by omega);have e2:IntKind.i64.wrap (n'+1)=n'+1:=cW _ (by omega);unfold IL at HX;clear hX;go_enter Tryz.func34,Tryz.ntmps34;go_wp2_with fail
 refine(J1 n hn.1 r _).mono ?_;rintro e W1 ⟨rfl,hb1⟩;have HE1:=Wz (AA (AB (AC w _) _) hb1);have b0:W1.cell? ⟨w.heap.size,0,none⟩=some (cI J n):=(HB.out.ext hb1).cell 0;have b1:W1.cell? ⟨w.heap.size,1,none⟩=some (U r):=(HB.out.ext hb1).cell 1;have c0:W1.cell? ⟨w.heap.size+1,0,none⟩=some (cI J n'):=(HC.out.ext hb1).cell 0;have c1:W1.cell? ⟨w.heap.size+1,1,none⟩=some (U r'):=(HC.out.ext hb1).cell 1;clear hb1;go_wp2_with fail
 refine(HX.out _ HE1.out).mono ?_;rintro e W2 ⟨rfl,hb2⟩;have HE2:=Wz (AA HE1.out hb2);clear hb2 b0 b1 c0 c1;go_wp2;go_ret;exact⟨rfl,HE2.out⟩
theorem U4(ga gm:Nat)(kv:List (Int × cM))(r root:ByteArray)(n:Int)(A:Option Addr)(c:Nat)(w:cK)(h:Dn w ga gm (-1) r kv)(hr:root.size=32)(hn:0<=n)(hn2:n<=10000) :
  cO cL 17 #[cS (some ⟨ga,0,none⟩),U root,cI J n,cQ A 0 c] w fun e w'=>e=cP (cI J 0)/\Dn w' ga gm n root kv/\Ah ga ga w w':=by
 have HNe:=Wz h.ne;have HA:=Wz h;have h0:w.cell? ⟨ga,0,none⟩=some (cI J ((-1))):=h.1.cell 0;have h1:w.cell? ⟨ga,1,none⟩=some (U r):=h.1.cell 1;have hl:=h.1.lt;clear h;obtain⟨X,hX⟩:∃ X,X=w.alloc (cN #[cI J (n),U root] 89):=⟨_,rfl⟩;have HN:=Wz (show Blk X w.heap.size 89 #[cI J (n),U root]by rw[hX];exact Blk.new _ _ _);have HEx:=Wz (show cJ w.heap.size w X by rw[hX];exact AC _ _);have HK:=Wz (show X.cell? ⟨ga,0,none⟩=some (cI J ((-1)))/\X.cell? ⟨ga,1,none⟩=some (U r)/\X.cell? ⟨w.heap.size,0,none⟩=some (cI J (n))/\X.cell? ⟨w.heap.size,1,none⟩=some (U root)/\cJ X.heap.size X X from⟨(HA.out.1.ext HEx.out).cell 0,(HA.out.1.ext HEx.out).cell 1,HN.out.cell 0,HN.out.cell 1,AF X⟩);have HX:=Wz hX;clear hX;have hr2:((root.size:Int) == 32)=true:=by rw[hr];rfl
 have d0:decide (n<0)=false:=decide_eq_false (by omega);have d1:decide (10000<n)=false:=decide_eq_false (by omega);go_enter Tryz.func17,Tryz.ntmps17;go_upto_region 7 with(fail)
 rw[<- HX.out];clear h0 h1;go_region_held3 (fun w'=>w'.cell? ⟨ga,0,none⟩=some (cI J ((-1)))/\w'.cell? ⟨ga,1,none⟩=some (U r)/\w'.cell? ⟨w.heap.size,0,none⟩=some (cI J (n))/\w'.cell? ⟨w.heap.size,1,none⟩=some (U root)/\cJ X.heap.size X w')
  (first|with_reducible assumption|exact GW HK.out (AF X).drew|exact GW (by assumption) (by assumption))
  (first|(go_at_call 34;(with_reducible refine(Rl r root n A c _).mono ?_);rintro e W1 ⟨rfl,hb1⟩))
 have hb2:=Bd hb1;have HE1:=Wz (AA HEx.out hb2);have HN1:=Wz (HN.out.ext hb2);clear hb1 hb2;have hf0:=(HA.out.1.ext HE1.out).frozen 0;have hf1:=(HA.out.1.ext HE1.out).frozen 1;have q0:W1.cell? ⟨ga,0,none⟩=some (cI J (-1)):=(HA.out.1.ext HE1.out).cell 0;have q1:W1.cell? ⟨ga,1,none⟩=some (U r):=(HA.out.1.ext HE1.out).cell 1;have n0':W1.cell? ⟨w.heap.size,0,none⟩=some (cI J (n)):=HN1.out.cell 0;have n1:W1.cell? ⟨w.heap.size,1,none⟩=some (U root):=HN1.out.cell 1;go_wp2;go_ret;exact⟨rfl,⟨((HA.out.1.ext HE1.out).set_ 0 _).set_ 1 _,((HA.out.2.ext HE1.out).set ⟨ga,0,none⟩ _ HNe.out).set ⟨ga,1,none⟩ _ HNe.out⟩,((Ah.of_ext HE1.out).setA 0 _).setA 1 _⟩
theorem U5(ga gm:Nat)(kv:List (Int × cM))(r root:ByteArray)(n:Int)(n0:Int)(hn0:0<=n0/\n0<=10000)(A:Option Addr)(k c:Nat)(w:cK)(h:Dn w ga gm n0 r kv)(hr:root.size=32)(hn:0<=n)(hn2:n<=10000)(hX:IL (cQ A k c) n0 n r root true w) :
  cO cL 17 #[cS (some ⟨ga,0,none⟩),U root,cI J n,cQ A k c] w fun e w'=>e=cP (cI J 0)/\Dn w' ga gm n root kv/\Ah ga ga w w':=by
 have HNe:=Wz h.ne;have HCg:=Wz (show ∀ W:cK,cJ w.heap.size w W->cO cL 34 #[cR #[cI J n0,U r],cR #[cI J n,U root],cQ A k c] W fun e w'=>e=cP (cV true)/\cJ W.heap.size W w' from fun W h=>QP r root n0 n hn0 ⟨hn,hn2⟩ A k c true W (fun V g=>hX V (AA h g)));clear hX;have HA:=Wz h;have h0:w.cell? ⟨ga,0,none⟩=some (cI J (n0)):=h.1.cell 0;have h1:w.cell? ⟨ga,1,none⟩=some (U r):=h.1.cell 1;have hl:=h.1.lt;clear h;obtain⟨X,hX⟩:∃ X,X=w.alloc (cN #[cI J (n),U root] 89):=⟨_,rfl⟩;have HN:=Wz (show Blk X w.heap.size 89 #[cI J (n),U root]by rw[hX];exact Blk.new _ _ _);have HEx:=Wz (show cJ w.heap.size w X by rw[hX];exact AC _ _);have HK:=Wz (show X.cell? ⟨ga,0,none⟩=some (cI J (n0))/\X.cell? ⟨ga,1,none⟩=some (U r)/\X.cell? ⟨w.heap.size,0,none⟩=some (cI J (n))/\X.cell? ⟨w.heap.size,1,none⟩=some (U root)/\cJ X.heap.size X X from⟨(HA.out.1.ext HEx.out).cell 0,(HA.out.1.ext HEx.out).cell 1,HN.out.cell 0,HN.out.cell 1,AF X⟩);have HX:=Wz hX;clear hX;have hr2:((root.size:Int) == 32)=true:=by rw[hr];rfl
 have d0:decide (n<0)=false:=decide_eq_false (by omega);have d1:decide (10000<n)=false:=decide_eq_false (by omega);go_enter Tryz.func17,Tryz.ntmps17;go_upto_region 7 with(fail)
 rw[<- HX.out];clear h0 h1;go_region_held3 (fun w'=>w'.cell? ⟨ga,0,none⟩=some (cI J (n0))/\w'.cell? ⟨ga,1,none⟩=some (U r)/\w'.cell? ⟨w.heap.size,0,none⟩=some (cI J (n))/\w'.cell? ⟨w.heap.size,1,none⟩=some (U root)/\cJ X.heap.size X w')
  (first|with_reducible assumption|exact GW HK.out (AF X).drew|exact GW (by assumption) (by assumption))
  (first|(go_at_call 34;(with_reducible refine(HCg.out _ ?_).mono ?_);(exact AA HEx.out (G4 (by assumption)));rintro e W1 ⟨rfl,hb1⟩))
 have hb2:=Bd hb1;have HE1:=Wz (AA HEx.out hb2);have HN1:=Wz (HN.out.ext hb2);clear hb1 hb2;have hf0:=(HA.out.1.ext HE1.out).frozen 0;have hf1:=(HA.out.1.ext HE1.out).frozen 1;have q0:W1.cell? ⟨ga,0,none⟩=some (cI J n0):=(HA.out.1.ext HE1.out).cell 0;have q1:W1.cell? ⟨ga,1,none⟩=some (U r):=(HA.out.1.ext HE1.out).cell 1;have n0':W1.cell? ⟨w.heap.size,0,none⟩=some (cI J (n)):=HN1.out.cell 0;have n1:W1.cell? ⟨w.heap.size,1,none⟩=some (U root):=HN1.out.cell 1;go_wp2;go_ret;exact⟨rfl,⟨((HA.out.1.ext HE1.out).set_ 0 _).set_ 1 _,((HA.out.2.ext HE1.out).set ⟨ga,0,none⟩ _ HNe.out).set ⟨ga,1,none⟩ _ HNe.out⟩,((Ah.of_ext HE1.out).setA 0 _).setA 1 _⟩
theorem Tc(ga gm:Nat)(kv:List (Int × cM))(r root:ByteArray)(n:Int)(n0:Int)(hn0:0<=n0/\n0<=10000)(A:Option Addr)(k c:Nat)(w:cK)(h:Dn w ga gm n0 r kv)(hr:root.size=32)(hn:0<=n)(hn2:n<=10000)(hX:IL (cQ A k c) n0 n r root false w) :
  cO cL 17 #[cS (some ⟨ga,0,none⟩),U root,cI J n,cQ A k c] w fun e w'=>e=cP (cI J 290)/\cJ w.heap.size w w':=by
 have HNe:=Wz h.ne;have HCg:=Wz (show ∀ W:cK,cJ w.heap.size w W->cO cL 34 #[cR #[cI J n0,U r],cR #[cI J n,U root],cQ A k c] W fun e w'=>e=cP (cV false)/\cJ W.heap.size W w' from fun W h=>QP r root n0 n hn0 ⟨hn,hn2⟩ A k c false W (fun V g=>hX V (AA h g)));clear hX;have HA:=Wz h;have h0:w.cell? ⟨ga,0,none⟩=some (cI J (n0)):=h.1.cell 0;have h1:w.cell? ⟨ga,1,none⟩=some (U r):=h.1.cell 1;have hl:=h.1.lt;clear h;obtain⟨X,hX⟩:∃ X,X=w.alloc (cN #[cI J (n),U root] 89):=⟨_,rfl⟩;have HN:=Wz (show Blk X w.heap.size 89 #[cI J (n),U root]by rw[hX];exact Blk.new _ _ _);have HEx:=Wz (show cJ w.heap.size w X by rw[hX];exact AC _ _);have HK:=Wz (show X.cell? ⟨ga,0,none⟩=some (cI J (n0))/\X.cell? ⟨ga,1,none⟩=some (U r)/\X.cell? ⟨w.heap.size,0,none⟩=some (cI J (n))/\X.cell? ⟨w.heap.size,1,none⟩=some (U root)/\cJ X.heap.size X X from⟨(HA.out.1.ext HEx.out).cell 0,(HA.out.1.ext HEx.out).cell 1,HN.out.cell 0,HN.out.cell 1,AF X⟩);have HX:=Wz hX;clear hX;have hr2:((root.size:Int) == 32)=true:=by rw[hr];rfl
 have d0:decide (n<0)=false:=decide_eq_false (by omega);have d1:decide (10000<n)=false:=decide_eq_false (by omega);go_enter Tryz.func17,Tryz.ntmps17;go_upto_region 7 with(fail)
 rw[<- HX.out];clear h0 h1;go_region_held3 (fun w'=>w'.cell? ⟨ga,0,none⟩=some (cI J (n0))/\w'.cell? ⟨ga,1,none⟩=some (U r)/\w'.cell? ⟨w.heap.size,0,none⟩=some (cI J (n))/\w'.cell? ⟨w.heap.size,1,none⟩=some (U root)/\cJ X.heap.size X w')
  (first|with_reducible assumption|exact GW HK.out (AF X).drew|exact GW (by assumption) (by assumption))
  (first|(go_at_call 34;(with_reducible refine(HCg.out _ ?_).mono ?_);(exact AA HEx.out (G4 (by assumption)));rintro e W1 ⟨rfl,hb1⟩))
 have hb2:=Bd hb1;have HE1:=Wz (AA HEx.out hb2);have HN1:=Wz (HN.out.ext hb2);clear hb1 hb2;go_wp2;go_ret;exact⟨rfl,HE1.out⟩
theorem Rm(H:List (ByteArray × ByteArray))(m n:Nat)(hn:H.length=n+1)(hm:m<=n)(h60:H.length<=60)(S:Nat->Prop)(v:cM)(w:cK)(hv:AW S w v (Hg (AP 0 H) (m+1)))(hSB:∀ b,S b->b<w.heap.size)(hR:AJ w) :
  IL v (m:Int) (n:Int) (BB (H.take (m+1))) (BB H) true w:=by
 intro W k;have hst:=hv.below k;have hSB2:∀ b,S b->b<W.heap.size:=fun b hb=>Nat.lt_of_lt_of_le (hSB b hb) k.size;have hRW:=hR.below k;by_cases h:m=n
 ·subst h;have hx0:Hg (AP 0 H) (m+1)=[]:=Rk (by rw[AV];omega);rw[hx0]at hst;have hrr:H.take (m+1)=H:=List.take_of_length_le (by omega);rw[hrr];have h9:=Nc S v (BB H) (m+1) (by omega) W hst (by unfold BB;exact BJ _);have e:(((m+1:Nat)):Int)=(m:Int)+1:=by omega
  rw[e]at h9;exact h9
 have h9:=Nd S v (AP 0 H) (m+1) W (by rw[AV];omega) (by omega) (by rw[AV];omega) hst hSB2 hRW;rw[<- Hm,AV,hn]at h9;have e:(((n+1:Nat)):Int)=(n:Int)+1:=by omega
 have e':(((m+1:Nat)):Int)=(m:Int)+1:=by omega
 rw[e,e']at h9;exact h9
end
section
open Go.RowKit Go.Shelf
attribute [local go_sem ↓] Go.wp_at_zero Go.wp_at_succ
theorem Dl(w:cK):(zeroValue 52).run cL w=.ok (cR #[cI J 0,U ⟨#[]⟩,U ⟨#[]⟩]) w:=by kernel_rfl
def Ck(p:Nat)(x:ByteArray × ByteArray):cM:=cR #[cI J (p:Int),U x.1,U x.2]
theorem Hn{X W:cK}{ga bh:Nat}{a0 a1 a2 h0 h1 h2:cM}(h:Blk X ga 92 #[a0,a1,a2]/\Blk X bh 52 #[h0,h1,h2])(k:cJ X.heap.size X W) :
  W.cell? ⟨ga,0,none⟩=some a0/\W.cell? ⟨ga,1,none⟩=some a1/\W.cell? ⟨bh,0,none⟩=some h0/\W.cell? ⟨bh,1,none⟩=some h1/\W.cell? ⟨bh,2,none⟩=some h2/\cJ X.heap.size X W:=
 ⟨(h.1.ext k).cell 0,(h.1.ext k).cell 1,(h.2.ext k).cell 0,(h.2.ext k).cell 1,(h.2.ext k).cell 2,k⟩
theorem F5{X W:cK}{ga bh:Nat}{a0 a1 h0 h1 h2:cM}(h:W.cell? ⟨ga,0,none⟩=some a0/\W.cell? ⟨ga,1,none⟩=some a1/\W.cell? ⟨bh,0,none⟩=some h0/\W.cell? ⟨bh,1,none⟩=some h1/\W.cell? ⟨bh,2,none⟩=some h2/\cJ X.heap.size X W):cJ X.heap.size X W:=h.2.2.2.2.2
theorem WW(ga gm n p:Nat)(kv:List (Int × cM))(r c1 s1:ByteArray)(v:cM)(w:cK)(h:Dn w ga gm (n:Int) r kv)(hk:B6 kv (p:Int)=none)(hV:∀ W:cK,cJ w.heap.size w W->cO cL 33 #[U r,cI J (n:Int),cR #[cI J (p:Int),U c1,U s1],v] W fun e w'=>e=cP (cV true)/\cJ W.heap.size W w') :
  cO cL 16 #[cS (some ⟨ga,0,none⟩),cR #[cI J (p:Int),U c1,U s1],v] w fun e w'=>e=cP (cI J 0)/\Dn w' ga gm (n:Int) r (FU kv (p:Int) (Ck p (c1,s1)))/\Ah gm gm w w':=by
 have HVf:=Wz hV;have HNe:=Wz (show ga≠gm from fun e=>h.ne e.symm);have hA1:=h.ext (AC w (cN #[cI J (p:Int),U c1,U s1] 52));have hlk:=fun o=>B7 (P:=cL) (w:=((w.alloc (cN #[cI J (p:Int),U c1,U s1] 52)).alloc o).drew) Tryz.underlying90 Tryz.underlying3 ((hA1.2.ext (AC _ o)).ext (AF _).drew) (p:Int) (Dl _);have hlk2:=B7 (P:=cL) (w:=(w.alloc (cN #[cI J (p:Int),U c1,U s1] 52)).drew) Tryz.underlying90 Tryz.underlying3 (hA1.2.ext (AF _).drew) (p:Int) (Dl _);rw[hk]at hlk2;simp only[hk,Ck,Option.getD_some,Option.getD_none,Option.isSome_some,Option.isSome_none]at hlk hlk2;have HA:=Wz h;have a0:w.cell? ⟨ga,0,none⟩=some (cI J (n:Int)):=h.1.cell 0;have a1:w.cell? ⟨ga,1,none⟩=some (U r):=h.1.cell 1;have a2:w.cell? ⟨ga,2,none⟩=some (.map (some gm)):=h.1.cell 2;have al:=h.1.lt;have al1:ga<w.heap.size+1:=by omega
 clear h hA1 hV hk;go_enter Tryz.func16,Tryz.ntmps16;go_wp2;go_region
 all_goals
  go_wp2_with fail
  refine(J1 (n:Int) (by omega) r _).mono ?_;rintro e X ⟨rfl,hb1⟩;have hE0:=(AB (AC w (cN #[cI J (p:Int),U c1,U s1] 52)) (cN #[cI J 0,U ⟨#[]⟩,U ⟨#[]⟩] 52)).drew;have HE1:=Wz (AA hE0 hb1);have HS1:=Wz (show Blk X ga 92 #[cI J (n:Int),U r,.map (some gm)]/\Blk X w.heap.size 52 #[cI J (p:Int),U c1,U s1]from
   ⟨HA.out.1.ext HE1.out,(((Blk.new w 52 #[cI J (p:Int),U c1,U s1]).alloc (cN #[cI J 0,U ⟨#[]⟩,U ⟨#[]⟩] 52)).drew).ext hb1⟩)
  have HO1:=Wz (show Blk X (w.heap.size+1) 52 #[cI J 0,U ⟨#[]⟩,U ⟨#[]⟩]from((Blk.new' (w.alloc (cN #[cI J (p:Int),U c1,U s1] 52)) 52 #[cI J 0,U ⟨#[]⟩,U ⟨#[]⟩] (b:=w.heap.size+1) (by simp)).drew).ext hb1);have HM1:=Wz (HA.out.2.ext HE1.out);clear hlk hlk2 a0 a1 a2 al al1 hb1 hE0;have HK:=Wz (Hn HS1.out (AF X));go_upto_region 5 with(fail)
  go_region_held3 (fun w'=>w'.cell? ⟨ga,0,none⟩=some (cI J (n:Int))/\w'.cell? ⟨ga,1,none⟩=some (U r)/\w'.cell? ⟨w.heap.size,0,none⟩=some (cI J (p:Int))/\w'.cell? ⟨w.heap.size,1,none⟩=some (U c1)/\w'.cell? ⟨w.heap.size,2,none⟩=some (U s1)/\cJ X.heap.size X w')
   (first|with_reducible assumption|exact Hn HS1.out (by repeat (first|with_reducible refine Below.drew ?_|with_reducible assumption|with_reducible exact AF _)))
   (first|(go_at_call 33;(with_reducible refine(HVf.out _ ?_).mono ?_);(exact AA HE1.out (F5 (by assumption)));rintro e Z ⟨rfl,hb'⟩;have hXZ:=AA (F5 (by assumption)) hb';clear hb'))
  have HZ:=Wz (AA HE1.out hXZ);have HSz:=Wz (And.intro (HS1.out.1.ext hXZ) (HS1.out.2.ext hXZ));have HMz:=Wz (HM1.out.ext hXZ);have HOz:=Wz (HO1.out.ext hXZ);clear hXZ;have b2:Z.cell? ⟨ga,2,none⟩=some (.map (some gm)):=HSz.out.1.cell 2;have h0:Z.cell? ⟨w.heap.size,0,none⟩=some (cI J (p:Int)):=HSz.out.2.cell 0;have h1:Z.cell? ⟨w.heap.size,1,none⟩=some (U c1):=HSz.out.2.cell 1;have h2:Z.cell? ⟨w.heap.size,2,none⟩=some (U s1):=HSz.out.2.cell 2;have o0:=HOz.out.cell 0;have o1:=HOz.out.cell 1;have o2:=HOz.out.cell 2;obtain⟨ob,hup,hmap⟩:=Cu (P:=cL) (w:=Z.drew) Tryz.underlying90 Tryz.underlying3 (HMz.out.ext (AF Z).drew) (p:Int) (Ck p (c1,s1));have HUP:=Wz hmap;unfold Ck at hup;clear hmap;go_wp2;go_region;go_wp2;go_ret;refine⟨rfl,⟨(HSz.out.1.drew).putObj _ HNe.out,HUP.out⟩,?_⟩;exact((Ah.of_ext HZ.out).drewN 1).put _
theorem WX(ga gm n p:Nat)(kv:List (Int × cM))(r c1 s1:ByteArray)(v:cM)(w:cK)(h:Dn w ga gm (n:Int) r kv)(hk:B6 kv (p:Int)=some (Ck p (c1,s1)))(hV:∀ W:cK,cJ w.heap.size w W->cO cL 33 #[U r,cI J (n:Int),cR #[cI J (p:Int),U c1,U s1],v] W fun e w'=>e=cP (cV true)/\cJ W.heap.size W w') :
  cO cL 16 #[cS (some ⟨ga,0,none⟩),cR #[cI J (p:Int),U c1,U s1],v] w fun e w'=>e=cP (cI J 0)/\Dn w' ga gm (n:Int) r (FU kv (p:Int) (Ck p (c1,s1)))/\Ah gm gm w w':=by
 have HVf:=Wz hV;have HNe:=Wz (show ga≠gm from fun e=>h.ne e.symm);have hA1:=h.ext (AC w (cN #[cI J (p:Int),U c1,U s1] 52));have hlk:=fun o=>B7 (P:=cL) (w:=((w.alloc (cN #[cI J (p:Int),U c1,U s1] 52)).alloc o).drew) Tryz.underlying90 Tryz.underlying3 ((hA1.2.ext (AC _ o)).ext (AF _).drew) (p:Int) (Dl _);have hlk2:=B7 (P:=cL) (w:=(w.alloc (cN #[cI J (p:Int),U c1,U s1] 52)).drew) Tryz.underlying90 Tryz.underlying3 (hA1.2.ext (AF _).drew) (p:Int) (Dl _);rw[hk]at hlk2;simp only[hk,Ck,Option.getD_some,Option.getD_none,Option.isSome_some,Option.isSome_none]at hlk hlk2;have HA:=Wz h;have a0:w.cell? ⟨ga,0,none⟩=some (cI J (n:Int)):=h.1.cell 0;have a1:w.cell? ⟨ga,1,none⟩=some (U r):=h.1.cell 1;have a2:w.cell? ⟨ga,2,none⟩=some (.map (some gm)):=h.1.cell 2;have al:=h.1.lt;have al1:ga<w.heap.size+1:=by omega
 clear h hA1 hV hk;go_enter Tryz.func16,Tryz.ntmps16;go_wp2;go_region
 all_goals
  go_wp2_with fail
  refine(J1 (n:Int) (by omega) r _).mono ?_;rintro e X ⟨rfl,hb1⟩;have hE0:=(AB (AC w (cN #[cI J (p:Int),U c1,U s1] 52)) (cN #[cI J (p:Int),U c1,U s1] 52)).drew;have HE1:=Wz (AA hE0 hb1);have HS1:=Wz (show Blk X ga 92 #[cI J (n:Int),U r,.map (some gm)]/\Blk X w.heap.size 52 #[cI J (p:Int),U c1,U s1]from
   ⟨HA.out.1.ext HE1.out,(((Blk.new w 52 #[cI J (p:Int),U c1,U s1]).alloc (cN #[cI J (p:Int),U c1,U s1] 52)).drew).ext hb1⟩)
  have HO1:=Wz (show Blk X (w.heap.size+1) 52 #[cI J (p:Int),U c1,U s1]from((Blk.new' (w.alloc (cN #[cI J (p:Int),U c1,U s1] 52)) 52 #[cI J (p:Int),U c1,U s1] (b:=w.heap.size+1) (by simp)).drew).ext hb1);have HM1:=Wz (HA.out.2.ext HE1.out);clear hlk hlk2 a0 a1 a2 al al1 hb1 hE0;have HK:=Wz (Hn HS1.out (AF X));go_upto_region 5 with(fail)
  go_region_held3 (fun w'=>w'.cell? ⟨ga,0,none⟩=some (cI J (n:Int))/\w'.cell? ⟨ga,1,none⟩=some (U r)/\w'.cell? ⟨w.heap.size,0,none⟩=some (cI J (p:Int))/\w'.cell? ⟨w.heap.size,1,none⟩=some (U c1)/\w'.cell? ⟨w.heap.size,2,none⟩=some (U s1)/\cJ X.heap.size X w')
   (first|with_reducible assumption|exact Hn HS1.out (by repeat (first|with_reducible refine Below.drew ?_|with_reducible assumption|with_reducible exact AF _)))
   (first|(go_at_call 33;(with_reducible refine(HVf.out _ ?_).mono ?_);(exact AA HE1.out (F5 (by assumption)));rintro e Z ⟨rfl,hb'⟩;have hXZ:=AA (F5 (by assumption)) hb';clear hb'))
  have HZ:=Wz (AA HE1.out hXZ);have HSz:=Wz (And.intro (HS1.out.1.ext hXZ) (HS1.out.2.ext hXZ));have HMz:=Wz (HM1.out.ext hXZ);have HOz:=Wz (HO1.out.ext hXZ);clear hXZ;have b2:Z.cell? ⟨ga,2,none⟩=some (.map (some gm)):=HSz.out.1.cell 2;have h0:Z.cell? ⟨w.heap.size,0,none⟩=some (cI J (p:Int)):=HSz.out.2.cell 0;have h1:Z.cell? ⟨w.heap.size,1,none⟩=some (U c1):=HSz.out.2.cell 1;have h2:Z.cell? ⟨w.heap.size,2,none⟩=some (U s1):=HSz.out.2.cell 2;have o0:=HOz.out.cell 0;have o1:=HOz.out.cell 1;have o2:=HOz.out.cell 2;obtain⟨ob,hup,hmap⟩:=Cu (P:=cL) (w:=Z.drew) Tryz.underlying90 Tryz.underlying3 (HMz.out.ext (AF Z).drew) (p:Int) (Ck p (c1,s1));have HUP:=Wz hmap;unfold Ck at hup;clear hmap;go_wp2;go_region;go_wp2;go_ret;refine⟨rfl,⟨(HSz.out.1.drew).putObj _ HNe.out,HUP.out⟩,?_⟩;exact((Ah.of_ext HZ.out).drewN 1).put _
theorem Td(ga gm bx p:Nat)(n:Int)(r:ByteArray)(kv:List (Int × cM))(w:cK)(h:Dn w ga gm n r kv)(hk:B6 kv (p:Int)=none)(hb:Blk w bx 43 #[cS (some ⟨ga,0,none⟩)]) :
  cO cL 30 #[cI J (p:Int),cS (some ⟨bx,0,none⟩)] w fun e w'=>e=cP (cR #[cI J (-1),U ⟨#[]⟩,U ⟨#[]⟩])/\cJ w.heap.size w w':=by
 have HE:=AC w (cN #[cI J 0,U ⟨#[]⟩,U ⟨#[]⟩] 52);have hA:=h.ext HE;have hB:=hb.ext HE;have hlk:=B7 (P:=cL) (w:=w.alloc (cN #[cI J 0,U ⟨#[]⟩,U ⟨#[]⟩] 52)) Tryz.underlying90 Tryz.underlying3 hA.2 (p:Int) (Dl _);rw[hk]at hlk;simp only[Ck,Option.getD_some,Option.getD_none,Option.isSome_some,Option.isSome_none]at hlk;have hbl:=hb.lt;have hal:=h.1.lt;have b00:w.cell? ⟨bx,0,none⟩=some (cS (some ⟨ga,0,none⟩)):=hb.cell 0;have a20:w.cell? ⟨ga,2,none⟩=some (.map (some gm)):=h.1.cell 2;have HY:=Wz ((Blk.new w 52 #[cI J (-1),U ⟨#[]⟩,U ⟨#[]⟩]).alloc (cN #[cI J 0,U ⟨#[]⟩,U ⟨#[]⟩] 52));clear h hb hA hB HE hk;go_enter Tryz.func30,Tryz.ntmps30;go_wp2;have y0:=HY.out.cell 0;have y1:=HY.out.cell 1;have y2:=HY.out.cell 2;refine bodyPost_ret (v:=cR #[cI J (-1),U ⟨#[]⟩,U ⟨#[]⟩]) (by simp[results,Tryz.results30,go_sem,y0,y1,y2]) rfl ⟨rfl,?_⟩;exact AB (AC _ _) _
theorem Te(ga gm bx p:Nat)(n:Int)(r:ByteArray)(kv:List (Int × cM))(c1 s1:ByteArray)(w:cK)(h:Dn w ga gm n r kv)(hk:B6 kv (p:Int)=some (Ck p (c1,s1)))(hb:Blk w bx 43 #[cS (some ⟨ga,0,none⟩)]) :
  cO cL 30 #[cI J (p:Int),cS (some ⟨bx,0,none⟩)] w fun e w'=>e=cP (cR #[cI J (p:Int),U c1,U s1])/\cJ w.heap.size w w':=by
 have HE:=AC w (cN #[cI J 0,U ⟨#[]⟩,U ⟨#[]⟩] 52);have hA:=h.ext HE;have hB:=hb.ext HE;have hlk:=B7 (P:=cL) (w:=w.alloc (cN #[cI J 0,U ⟨#[]⟩,U ⟨#[]⟩] 52)) Tryz.underlying90 Tryz.underlying3 hA.2 (p:Int) (Dl _);rw[hk]at hlk;simp only[Ck,Option.getD_some,Option.getD_none,Option.isSome_some,Option.isSome_none]at hlk;have hbl:=hb.lt;have hal:=h.1.lt;have b00:w.cell? ⟨bx,0,none⟩=some (cS (some ⟨ga,0,none⟩)):=hb.cell 0;have a20:w.cell? ⟨ga,2,none⟩=some (.map (some gm)):=h.1.cell 2;have HY:=Wz ((Blk.new w 52 #[cI J (p:Int),U c1,U s1]).alloc (cN #[cI J (p:Int),U c1,U s1] 52));clear h hb hA hB HE hk;go_enter Tryz.func30,Tryz.ntmps30;go_wp2;have y0:=HY.out.cell 0;have y1:=HY.out.cell 1;have y2:=HY.out.cell 2;refine bodyPost_ret (v:=cR #[cI J (p:Int),U c1,U s1]) (by simp[results,Tryz.results30,go_sem,y0,y1,y2]) rfl ⟨rfl,?_⟩;exact AB (AC _ _) _
end
section
open Go.RowKit Go.Shelf
attribute [local go_sem ↓] Go.wp_at_zero Go.wp_at_succ
theorem QQ{a b:ByteArray}(h:a.data.toList=b.data.toList):a=b:=by
 obtain⟨⟨x⟩⟩:=a;obtain⟨⟨y⟩⟩:=b;simp at h;rw[h]
theorem MS(a:ByteArray):a.size=a.data.toList.length:=by simp
theorem QR(a b:ByteArray):(a++b).data.toList=a.data.toList++b.data.toList:=by simp
theorem Tf(a b:ByteArray)(n:Nat)(h:a.size=n):(a++b).extract 0 n=a:=by
 refine QQ ?_;rw[Lib.extract_data,List.drop_zero,Nat.sub_zero,QR,<- h,MS a,List.take_left]
theorem Rn(a b:ByteArray)(n m:Nat)(h:a.size=n)(h2:a.size+b.size=m):(a++b).extract n m=b:=by
 refine QQ ?_;rw[Lib.extract_data,QR,<- h2,<- h,Nat.add_sub_cancel_left,MS a,List.drop_left,MS b,List.take_length]
theorem Ro(rs:List AD)(hrs:∀ r ∈ rs,r.ok)(hsz:rs.length<=60)(hap:A0 rs)(T j:Nat)(hT:T<=3)(hj:j<4)(lo hi:Int)(hlh:lo<=hi)(a b d:cM)(w:cK)(hs:RPS (fun _=>True) w (Ag rs (T:Int) j lo hi) a b d)(hR:AJ w) :
  cO cL 60 #[U (Bo rs),.agg ((Ag rs (T:Int) j lo hi).nums a b d)] w fun e w'=>e=cP (cV true)/\cJ w.heap.size w w':=by
 have hcp:=ET hap hrs hsz (T:Int) (by omega) j hj lo hi hlh;have HPT:=Wz (MP rs (T:Int) j lo hi);have HPL:=Wz (FM rs (T:Int) j lo hi);have HOKR:=Wz (fun r hr=>(hcp.ok r hr).1);have HZERO:=Wz hcp.zero;have HCM:=Wz (fun(W:cK)(h:AR W a (Ag rs (T:Int) j lo hi).rows)=>Hk (Ag rs (T:Int) j lo hi) j hcp a b d W h);have HRW:=Wz (fun(W:cK)(h:cJ w.heap.size w W)=>hs.rows.rowsL.ext h);have HPW:=Wz (hs.paths);have hroots:=hs.roots;have hol:(Cp rs (T:Int) j).length=(BK rs (T:Int) j).length:=by unfold Cp BK;rw[List.length_map]
 have holl:(BK rs (T:Int) j).length<=60:=by rw[<- hol];exact Nat.le_trans (Fg _ _ _) hsz
 have hfl:Bf rs (T:Int) j lo+(Ag rs (T:Int) j lo hi).rows.length<=(BK rs (T:Int) j).length:=by
  have h1:=hcp.len;have h2:(Ag rs (T:Int) j lo hi).n=((BK rs (T:Int) j).length:Int):=rfl;have h3:(Ag rs (T:Int) j lo hi).f=(Bf rs (T:Int) j lo:Int):=rfl;omega
 have hroots2:AW (fun _=>True) w d (DH rs):=hroots;have hsl:(DH rs).length=16:=by simp[DH]
 have HRT:=Wz (fun(W:cK)(h:cJ w.heap.size w W)=>show cO cL 43 #[d] W fun e w'=>e=cP (U (Bo rs))/\cJ W.heap.size W w' from Cw (fun _=>True) _ (DH rs) W (hroots2.below h) (by omega) (fun x hx=>by
  obtain⟨k,_,rfl⟩:=List.mem_map.1 hx;exact Nat.le_trans (Jj rs k) (by omega)) (hR.below h))
 have HRN:=Wz (fun(W:cK)(h:cJ w.heap.size w W)=>show cO cL 43 #[cQ none 0 0] W fun e w'=>e=cP (U (Ai []))/\cJ W.heap.size W w' from Cw (fun _=>True) _ [] W (AW.nil_ _ _) (by simp) (by simp) (hR.below h));obtain⟨N,hN⟩:∃ N,N=(BK rs (T:Int) j).length:=⟨_,rfl⟩;obtain⟨F,hF⟩:∃ F,F=Bf rs (T:Int) j lo:=⟨_,rfl⟩;have hs1:Ej rs (4*T+j)=Dr (2*N)++Ai (Cp rs (T:Int) j):=by
  unfold Ej;rw[show(4*T+j) / 4=T by omega,show(4*T+j) % 4=j by omega,hol,hN]
 have hat:(DH rs)[4*T+j]? = some (Ej rs (4*T+j)):=by
  unfold DH;rw[List.getElem?_map,List.getElem?_range (by omega)];rfl
 obtain⟨bd,od,cd,hv,hcc,_,hcell⟩:=hroots2.at_ (k:=4*T+j) (by omega);rw[List.getD_eq_getElem?_getD,hat,Option.getD_some]at hcell;rw[hsl]at hv hcc;subst hv;have HVF:=Wz (fun(v:cM)(I:Nat)(s:ByteArray)(W:cK)(hI:(Cp rs (T:Int) j)[I]? = some s)(hv:AW (fun x=>x<W.heap.size) W v (Dj (Cp rs (T:Int) j) I))(hz:s.size<=500000)(hRW:AJ W)=>show cO cL 64 #[U (Ai (Cp rs (T:Int) j)),cI J (N:Int),cI J (I:Int),U s,v] W fun e w'=>e=cP (cV true)/\cJ W.heap.size W w' from by
  have h9:=Je (fun x=>x<W.heap.size) v (Ai (Cp rs (T:Int) j)) s (Cp rs (T:Int) j) I W (by omega) hI hv (fun b hb=>hb) hz hRW;rw[show((Cp rs (T:Int) j).length:Int)=(N:Int)by rw[hol,hN]]at h9;exact h9.mono (fun e w' ⟨h1,h2⟩=>⟨by rw[h1];simp,h2⟩))
 have HNZ:=Wz (show N=0->Ai (Cp rs (T:Int) j)=Ai []from fun h=>by
  rw[List.length_eq_zero_iff.1 (show(Cp rs (T:Int) j).length=0 by omega)])
 have HEN:=Wz (fun(r:AD)(h:r.ok)(W:cK)=>Ik r h W);have HES:=Wz (fun(r:AD)=>show CQ r=BM [r.t,r.k,r.a,r.b,r.c]from rfl);have HEZ:=Wz (fun(r:AD)=>show(CQ r).size<=500000 from by have h1:=CF [r.t,r.k,r.a,r.b,r.c];simp only[List.length_cons,List.length_nil]at h1;show(BM _).size<=_;omega);have HPI:=Wz (fun W:cK=>GR N (by omega) W);have hx1:(Ej rs (4*T+j)).extract 0 1=Dr (2*N):=by rw[hs1];exact Tf _ _ 1 (Bu _)
 have hx2:(Ej rs (4*T+j)).extract 1 33=Ai (Cp rs (T:Int) j):=by rw[hs1];exact Rn _ _ 1 33 (Bu _) (by rw[Bu,BJ])
 have hs33:(Ej rs (4*T+j)).size=33:=by rw[hs1,ByteArray.size_append,Bu,BJ]
 have hn1:(Dr (2*N)).size=1:=Bu _;have hnum:(Ag rs (T:Int) j lo hi).nums a b (cQ (some ⟨bd,od,none⟩) 16 cd)=#[cI J (T:Int),cI J (j:Int),cI J lo,cI J hi,cI J (N:Int),cI J (F:Int),a,b,cQ (some ⟨bd,od,none⟩) 16 cd]:=by rw[hN,hF];rfl
 rw[hnum]at HCM ⊢;rw[<- hF]at HPT hfl;rw[<- hN]at hfl holl;have HZN:=Wz (show(Ag rs (T:Int) j lo hi).rows=[]->N=0 from fun h=>by
  have h1:=HZERO.out h;have h2:(Ag rs (T:Int) j lo hi).n=((BK rs (T:Int) j).length:Int):=rfl;omega)
 generalize (Ag rs (T:Int) j lo hi).rows=l at *;generalize (Ag rs (T:Int) j lo hi).paths=ps at *;generalize Dj (Cp rs (T:Int) j)=pf at *;generalize Cp rs (T:Int) j=os at *;generalize Ej rs (4*T+j)=s at *;generalize Dr (2*N)=bn at *;generalize Ai os=rt at *;generalize Ai []=rn at *;generalize Bo rs=sr at *;have HLP:=Wz (show ps.length=l.length from HPL.out);have HCL:=Wz hcell;have HR:=Wz hR;obtain⟨Aa,ca,ha,-⟩:=HRW.out w (AF w);obtain⟨Ab,cb,hb,-⟩:=id HPW.out;rw[HPL.out]at hb;subst ha hb;have hbd:=AZ (p:=⟨bd,od+(4*T+j),none⟩) hcell;have hHE:=AC w (cN #[cI J (T:Int),cI J (j:Int),cI J lo,cI J hi,cI J (N:Int),cI J (F:Int),cQ Aa l.length ca,cQ Ab l.length cb,cQ (some ⟨bd,od,none⟩) 16 cd] 126);have HE:=Wz hHE;have HB:=Wz (Blk.new w 126 #[cI J (T:Int),cI J (j:Int),cI J lo,cI J hi,cI J (N:Int),cI J (F:Int),cQ Aa l.length ca,cQ Ab l.length cb,cQ (some ⟨bd,od,none⟩) 16 cd]);clear hcp hs hroots hroots2 hR hHE hol hs1 hat hN hF hnum hcell hap hrs hsl HPL HZERO;go_enter Tryz.func60,Tryz.ntmps60;go_wp2_with fail
 refine(HCM.out _ (HRW.out _ HE.out)).mono ?_;rintro e W1 ⟨rfl,hb1⟩;have HE1:=Wz (AA HE.out hb1);have HB1:=Wz (HB.out.ext hb1);have p4:=HB1.out.cell 4;have p6:=HB1.out.cell 6;have p7:=HB1.out.cell 7;have p8:=HB1.out.cell 8;clear hb1;go_wp2_with fail
 refine(HRT.out _ HE1.out).mono ?_;rintro e W2 ⟨rfl,hb2⟩;have HE2:=Wz (AA HE1.out hb2);have HB2:=Wz (HB1.out.ext hb2);have p4:=HB2.out.cell 4;clear hb2 p6 p7 p8;go_wp2_with fail
 refine(HPI.out _).mono ?_;rintro e W3 ⟨rfl,hb3⟩;have HE3:=Wz (AA HE2.out hb3);have HB3:=Wz (HB2.out.ext hb3);have hB3:=HB3.out;have p0:=hB3.cell 0;have p1:=hB3.cell 1;have p2:=hB3.cell 2;have p3:=hB3.cell 3;have p4:=hB3.cell 4;have p5:=hB3.cell 5;have p6:=hB3.cell 6;have p7:=hB3.cell 7;have p8:=hB3.cell 8;have hcl:=AG HCL.out HE3.out;have hw4:IntKind.i64.wrap (4*(T:Int))=4*(T:Int):=cW _ (by omega);have hw5:IntKind.i64.wrap (4*(T:Int)+(j:Int))=4*(T:Int)+(j:Int):=cW _ (by omega);have hi0:(0:Int)<=4*(T:Int)+(j:Int):=by omega
 have hi1:4*(T:Int)+(j:Int)<16:=by omega
 have htn:(4*(T:Int)+(j:Int)).toNat=4*T+j:=by omega
 clear hb3 hB3;by_cases hN0:N=0
 ·have hrt:=HNZ.out hN0;have d0:((N:Int) == 0)=true:=by rw[hN0];rfl
  go_wp2_with (go_at_call 43;refine(HRN.out _ HE3.out).mono ?_;rintro e W4 ⟨rfl,hb4⟩;have HE4:=Wz (AA HE3.out hb4);clear hb4)
  go_ret;exact⟨rfl,HE4.out⟩
 have d0:((N:Int) == 0)=false:=by rw[beq_eq_false_iff_ne];omega
 go_wp2;clear p0 p1 p2 p3 p4 p5 p6 p7 p8 hcl;go_loopw [9,10,11,12,81] (fun _ _ _ _ iv W=>∃ k:Nat,k<=l.length/\iv=cI J (k:Int)/\cJ W3.heap.size W3 W) (fun _ _ _ _ iv _=>l.length-(intOf iv).toNat)
 case atStart=>exact⟨0,Nat.zero_le _,rfl,AF _⟩
 case round=>
  obtain⟨k,hk,rfl,hE⟩:=hrel;have HEr:=Wz (AA HE3.out hE);have HBr:=Wz (HB3.out.ext hE);have HEs:=Wz hE;clear hE;by_cases hlt:k<l.length
  ·obtain⟨r,hr⟩:∃ r,l[k]? = some r:=⟨_,List.getElem?_eq_getElem hlt⟩;obtain⟨hp1,hp2⟩:=HPT.out k r hr;have hrk:=HOKR.out r (List.mem_of_getElem? hr);obtain⟨g,d',hA,hg,r0,r1,r2,r3,r4⟩:=(HRW.out _ HEr.out).c5 hr;injection hA with hA hn' hd'
   subst hA;subst hd';obtain⟨Ap,cp,hAp,hpp⟩:=HPW.out;injection hAp with hA1 hA2 hA3
   subst hA1;subst hA3;obtain⟨gp,rfl,hgpl,-,hpc⟩:=hpp (by rw[HLP.out];omega);obtain⟨u,hu,hst⟩:=hpc k _ hp1;obtain⟨Au,cu,rfl,-⟩:=id hst;have HU:=Wz hu;have HVX:=Wz (fun(W:cK)(h:cJ w.heap.size w W)=>show cO cL 64 #[U rt,cI J (N:Int),cI J ((F:Int)+(k:Int)),U (CQ r),cQ Au (pf (F+k)).length cu] W fun e w'=>e=cP (cV true)/\cJ W.heap.size W w' from HVF.out _ (F+k) (CQ r) W hp2 ((hst.below h).mono (fun b _ hb=>hb)) (HEZ.out r) (HR.out.below h));have HEX:=Wz (fun W:cK=>HEN.out r hrk W);rw[<- HES.out r]at HEX;obtain⟨er,her⟩:∃ er,er=CQ r:=⟨_,rfl⟩;rw[<- her]at HEX HVX;obtain⟨pl,hpl⟩:∃ pl,pl=(pf (F+k)).length:=⟨_,rfl⟩;rw[<- hpl]at HVX HU;obtain⟨y0,y1,y2,y3,y4⟩:=r;dsimp only at *;have q0:(0:Int)<=(k:Int):=by omega
   have q1:(k:Int)<(l.length:Int):=by omega
   have q2:decide ((k:Int)<(l.length:Int))=true:=decide_eq_true q1;have e2:IntKind.i64.wrap ((k:Int)+1)=(k:Int)+1:=cW _ (by omega);have e3:IntKind.i64.wrap ((F:Int)+(k:Int))=(F:Int)+(k:Int):=cW _ (by omega);clear hr hp1 hp2 hrk hg hn' hA2 hpp hpc hst hu her hpl;go_wp2_with fail
   refine(HEX.out _).mono ?_;rintro e W4 ⟨rfl,hb4⟩;have HE4:=Wz (AA (AB HEr.out (cN #[cI J y0,cI J y1,cI J y2,cI J y3,cI J y4] 67)) hb4);have HE5:=Wz (AA (AB HEs.out (cN #[cI J y0,cI J y1,cI J y2,cI J y3,cI J y4] 67)) hb4);have HB4:=Wz ((HBr.out.alloc (cN #[cI J y0,cI J y1,cI J y2,cI J y3,cI J y4] 67)).ext hb4);have p4:=HB4.out.cell 4;have p5:=HB4.out.cell 5;have p7:=HB4.out.cell 7;have hpu:=AG HU.out HE4.out;clear hb4 r0 r1 r2 r3 r4;go_wp2;go_still_tail 13,(by kernel_rfl);change wpList _ _ _ _ _ W4.drew;go_wp2_with (go_at_call 64;refine(HVX.out _ HE4.out.drew).mono ?_;rintro e W5 ⟨rfl,hb5⟩;have HE6:=Wz (AA HE5.out (Bd hb5));clear hb5)
   go_roundw
   case rel=>exact⟨k+1,by omega,by go_num,HE6.out⟩
   simp[intOf];omega
  have q2:decide ((k:Int)<(l.length:Int))=false:=decide_eq_false (by omega);go_wp2;go_ret;exact⟨rfl,HEr.out⟩
end
section
open Go.RowKit Go.Shelf
attribute [local go_sem ↓] Go.wp_at_zero Go.wp_at_succ
theorem Ho(v:cM)(n:Int):∀(kv:List (Int × cM)) (k:Int),B6 (FU kv n v) k=if n=k then some v else B6 kv k
 | [],k=>by simp[FU,B6]
 | p :: r, k => by
  have ih:=Ho v n r k;unfold FU;by_cases h1:p.1=n
  ·rw[if_pos h1];unfold B6;by_cases h2:n=k
   ·simp[h2]
   have h3:¬ p.1=k:=by omega
   simp[h2,h3]
  rw[if_neg h1];unfold B6;by_cases h2:p.1=k
  ·have h3:¬ n=k:=by omega
   simp[h2,h3]
  simp only[h2,if_false];exact ih
theorem LJ{W V:cK}{B g sz n:Nat}{e:TypeId}{v:cM}{xs:List cM}(h:W.ownsRow B e sz v n xs)(k:Ah g g W V)(hn:∀ cs,¬ Blk W g e cs):V.ownsRow B e sz v n xs:=by
 refine h.kept (row:=some g) ⟨k.os,k.tape,k.output,k.size,fun i hi hn=>k.block i hi (fun e=>hn (by rw[e])) (fun e=>hn (by rw[e]))⟩ ?_;rcases h.2 with⟨rfl,_⟩|⟨g',cap,cur,rfl,_,hgg,_⟩
 ·exact .inl rfl
 refine .inr fun e1=>?_;have e2:g'=g:=by simpa[Value.ownBlock]using e1
 subst e2;exact hn _ hgg
theorem Em.ext2{B gl k g:Nat}{W V:cK}{Ls:List (List AH)}(h:Em B W gl Ls k)(e:Ah g g W V)(hn:∀(t:TypeId) (cs:Array cM),Blk W g t cs->t≠112/\t≠75/\t≠52/\t≠72):Em B V gl Ls k:=by
 obtain⟨rv,hv,R,hL,h2⟩:=h;have hne:∀ {b:Nat} {t:TypeId} {cs:Array cM},Blk W b t cs->(t=112∨t=72)->b≠g:=by
  rintro b t cs hb ht rfl;obtain⟨q1,q2,q3,q4⟩:=hn _ _ hb;rcases ht with h|h
  ·exact q1 h
  exact q4 h
 refine⟨rv,hv,R,⟨hL.log.ext2 e (hne hL.log (.inl rfl)) (hne hL.log (.inl rfl)),LJ hL.recs e (fun cs hb=>(hn _ _ hb).2.1 rfl),LJ hL.heads e (fun cs hb=>(hn _ _ hb).2.2.1 rfl),fun x hx=>?_,hL.len,hL.sizes⟩,h2⟩;obtain⟨⟨cur,hb,hc⟩,hl⟩:=hL.chg x hx;exact⟨⟨cur,hb.ext2 e (hne hb (.inr rfl)) (hne hb (.inr rfl)),hc⟩,hl⟩
theorem Em.aud{B gl k g:Nat}{W V:cK}{Ls:List (List AH)}{cs:Array cM}(h:Em B W gl Ls k)(e:Ah g g W V)(hb:Blk W g 92 cs):Em B V gl Ls k:=
 h.ext2 e (fun t cs' h'=>by
  unfold Blk at hb h';rw[hb]at h';injection h' with h'
  injection h' with _ h' _
  subst h';decide)
theorem Em.map{B gl k g:Nat}{W V:cK}{Ls:List (List AH)}{kv:List (Int × cM)}(h:Em B W gl Ls k)(e:Ah g g W V)(hm:Ea W g kv):Em B V gl Ls k:=
 h.ext2 e (fun t cs' h'=>by
  obtain⟨es,c,hm,_⟩:=hm;unfold Br at hm;unfold Blk at h';rw[hm]at h';cases h')
def FE(Ls:List (List AH))(kv:List (Int × cM)):Prop:=∀ p:Nat,B6 kv (p:Int)=none∨B6 kv (p:Int)=some (Ck p (BC Ls p))
theorem FE.put{Ls:List (List AH)}{kv:List (Int × cM)}(h:FE Ls kv)(p:Nat):FE Ls (FU kv (p:Int) (Ck p (BC Ls p))):=fun q=>by
 rw[Ho];split
 ·rename_i e
  have:p=q:=by omega
  subst this;exact .inr rfl
 exact h q
section
variable {B gl n:Nat} {Ls:List (List AH)} {w:cK}
theorem Vp(p:Nat)(hp:p<=n)(h:Em B w gl Ls n):cO cL 22 #[cS (some ⟨gl,0,none⟩),cI J (p:Int)] w fun e w'=>e=cP (.tuple #[cR #[cI J (p:Int),U (BC Ls p).1,U (BC Ls p).2],cV true])/\cJ w.heap.size w w':=by
 obtain⟨rv,hv,R,hL,-⟩:=h;exact Jv p (BC Ls p) (El Ls n p hp) w hL
theorem Tg(p:Nat)(hp:p<=n)(hn:n<=16)(h:Em B w gl Ls n)(hR:AJ w):cO cL 23 #[cS (some ⟨gl,0,none⟩),cI J (p:Int)] w (QF w (((CW (n+1) (AP 0 (An Ls n)) p).map (·.1)).reverse)):=by
 obtain⟨rv,hv,R,hL,-⟩:=h;have h9:=RY (by rw[Ba];omega) p (BC Ls p) (El Ls n p hp) w hL hR
 rwa [Ba]at h9
theorem extG(m:Nat)(hm:m<=n)(hn:n<=16)(h:Em B w gl Ls n)(hR:AJ w):cO cL 29 #[cS (some ⟨gl,0,none⟩),cI J (m:Int)] w (QF w (Hg (AP 0 (An Ls n)) (m+1))):=by
 obtain⟨rv,hv,R,hL,-⟩:=h;exact Uq (by rw[Ba];omega) m (BC Ls m) (El Ls n m hm) w hL hR
theorem Th(hn:n<=16)(h:Em B w gl Ls n)(hR:AJ w):cO cL 24 #[cS (some ⟨gl,0,none⟩)] w fun e w'=>e=cP (U (BB (An Ls n)))/\cJ w.heap.size w w':=by
 obtain⟨rv,hv,R,hL,-⟩:=h;exact TH B gl rv hv R _ (by rw[Ba];omega) w hL hR
theorem U6(p:Nat)(hp:p<=n)(hn:n<=16)(S:Nat->Prop)(v:cM)(hv:AW S w v (((CW (n+1) (AP 0 (An Ls n)) p).map (·.1)).reverse))(hSB:∀ b,S b->b<w.heap.size)(hR:AJ w) :
  cO cL 33 #[U (BB (An Ls n)),cI J (n:Int),cR #[cI J (p:Int),U (BC Ls p).1,U (BC Ls p).2],v] w fun e w'=>e=cP (cV true)/\cJ w.heap.size w w':=
 PL (by rw[Ba];omega) (MI Ls n) n p (Ba Ls n) (BC Ls p) (El Ls n p hp) S v w (by rw[Ba];exact hv) hSB hR
end
theorem LK(Ls:List (List AH))(v:cM)(m n:Nat)(hn:n=Ls.length)(hm:m<=n)(hL:n<=16)(hG:FA Ls)(hC:∀ l ∈ Ls,∀ c ∈ l,Dw c)(ps:List Nat)(hps:∀ p ∈ ps,p<=n)(h9:ps.length<=1000)(gi ci:Nat)(w:cK)(hv:Bt w v 1 Ls)(hi:∀(j p:Nat),ps[j]? = some p->w.cell? ⟨gi,j,none⟩=some (cI J (p:Int)))(hR:AJ w) :
  cO cL 11 #[v,cI J (m:Int),cI J (n:Int),cQ (some ⟨gi,0,none⟩) ps.length ci] w
   fun e w'=>∃ ga gm kv,e=cP (.tuple #[cS (some ⟨ga,0,none⟩),cV true])/\Dn w' ga gm (n:Int) (BB (An Ls n)) kv/\FE Ls kv/\(∀ p ∈ ps,B6 kv (p:Int)=some (Ck p (BC Ls p)))/\w.heap.size<=ga/\w.heap.size<=gm/\cJ w.heap.size w w':=by
 have HI:=Wz hi;have HR:=Wz hR;have HPS:=Wz hps;have HG0:=Wz (fun(W:cK)(k:cJ w.heap.size w W)=>MJ Ls v m (by omega) (by omega) hG hC W (hv.ext k) (hR.below k));have HG1:=Wz (fun(W:cK)(k:cJ w.heap.size w W)=>MJ Ls v n (by omega) (by omega) hG hC W (hv.ext k) (hR.below k));obtain⟨A,c,rfl,-⟩:=id hv;clear hi hR hG hC hps hv hn;go_enter Tryz.func11,Tryz.ntmps11;go_wp2_with fail
 refine(QN w).mono ?_;rintro e W1 ⟨rfl,ha1,hb1⟩;have HE1:=Wz hb1;have HA1:=Wz ha1;clear ha1 hb1;obtain⟨ga,hga⟩:∃ ga,ga=w.heap.size+1:=⟨_,rfl⟩;obtain⟨gm,hgm⟩:∃ gm,gm=w.heap.size:=⟨_,rfl⟩;have HGB:=Wz (show w.heap.size<=ga/\w.heap.size<=gm by omega);rw[<- hga,<- hgm]at HA1;rw[<- hga];clear hga hgm;go_wp2_with fail
 refine(HG0.out _ HE1.out).mono ?_;rintro e W2 ⟨g0,rfl,hl0,hb2⟩;have HE2:=Wz (AA HE1.out hb2);have HA2:=Wz (HA1.out.ext hb2);have HL2:=Wz hl0;clear hb2 hl0 HA1;go_wp2_with fail
 refine(HG1.out _ HE2.out).mono ?_;rintro e W3 ⟨gl,rfl,hl1,hb3⟩;have HE3:=Wz (AA HE2.out hb3);have HA3:=Wz (HA2.out.ext hb3);have HL3:=Wz (HL2.out.ext hb3);have HN3:=Wz hl1;clear hb3 hl1 HA2 HL2;go_wp2_with fail
 refine(extG m hm hL HN3.out (HR.out.below HE3.out)).mono ?_;rintro e W4 ⟨A4,c4,rfl,hp4,hb4⟩;have HE4:=Wz (AA HE3.out hb4);have HA4:=Wz (HA3.out.ext hb4);have HL4:=Wz (HL3.out.ext hb4);have HN4:=Wz (HN3.out.ext hb4);obtain⟨pe,hpe⟩:∃ pe,pe=Hg (AP 0 (An Ls n)) (m+1):=⟨_,rfl⟩;rw[<- hpe]at hp4 ⊢;have HP4:=Wz (show AW (fun b=>b≠ga) W4 (cQ A4 pe.length c4) pe from hp4.mono (fun j hj _=>by have:=HA3.out.1.lt;omega));have HPE:=Wz hpe;clear hb4 hp4 hpe HA3 HL3 HN3;go_wp2_with fail
 refine(Th (Nat.le_trans hm hL) HL4.out (HR.out.below HE4.out)).mono ?_;rintro e W5 ⟨rfl,hb5⟩;have HE5:=Wz (AA HE4.out hb5);have HA5:=Wz (HA4.out.ext hb5);have HN5:=Wz (HN4.out.ext hb5);have HP5:=Wz (HP4.out.below hb5);clear hb5 HA4 HL4 HN4 HP4;go_wp2_with fail
 refine(U4 ga gm [] _ (BB (An Ls m)) (m:Int) none 0 W5 HA5.out (BJ _) (by omega) (by omega)).mono ?_;rintro e W6 ⟨rfl,ha6,hx6⟩;have HE6:=Wz (Ah.below HE5.out HGB.out.1 HGB.out.1 hx6);have HN6:=Wz (HN5.out.aud hx6 HA5.out.1);have HP6:=Wz (HP5.out.keep (fun j hj hlt=>hx6.block j hlt hj hj));have HA6:=Wz ha6;clear ha6 hx6 HA5 HN5 HP5;go_wp2_with fail
 refine(Th hL HN6.out (HR.out.below HE6.out)).mono ?_;rintro e W7 ⟨rfl,hb7⟩;have HE7:=Wz (AA HE6.out hb7);have HA7:=Wz (HA6.out.ext hb7);have HN7:=Wz (HN6.out.ext hb7);have HP7:=Wz (HP6.out.below hb7);clear hb7 HA6 HN6 HP6;have HXA:=Wz (show IL (cQ A4 pe.length c4) (m:Int) (n:Int) (BB (An Ls m)) (BB (An Ls n)) true W7 from by
  have h8:=Rm (An Ls n) m n (Ba Ls n) hm (by rw[Ba];omega) (fun b=>b<W7.heap.size) (cQ A4 pe.length c4) W7 (by rw[<- HPE.out];exact HP7.out.mono (fun b _ hb=>hb)) (fun b hb=>hb) (HR.out.below HE7.out)
  rwa [Nj Ls n m hm]at h8)
 go_wp2_with fail
 refine(U5 ga gm [] (BB (An Ls m)) (BB (An Ls n)) (n:Int) (m:Int) (by omega) A4 pe.length c4 W7 HA7.out (BJ _) (by omega) (by omega) HXA.out).mono ?_;rintro e W8 ⟨rfl,ha8,hx8⟩;have HE8:=Wz (Ah.below HE7.out HGB.out.1 HGB.out.1 hx8);have HN8:=Wz (HN7.out.aud hx8 HA7.out.1);have HA8:=Wz ha8;clear ha8 hx8 HA7 HN7 HP7 HXA HPE;obtain⟨B,hB⟩:∃ B,B=W2.heap.size:=⟨_,rfl⟩;rw[<- hB]at HN8;clear hB HG0 HG1 HE1 HE2 HE3 HE4 HE5 HE6 HE7;obtain⟨rt,hrt⟩:∃ rt,rt=BB (An Ls n):=⟨_,rfl⟩;have HRT:=Wz hrt;rw[<- hrt]at HA8;rw[<- hrt];clear hrt;go_wp2;go_loopw [17,18,19,20,21,22] (fun ov iv _ _ _ _ W=>∃(k:Nat) (kv:List (Int × cM)),k<=ps.length/\iv=cI J (k:Int)/\ov=cV true/\Dn W ga gm (n:Int) rt kv/\FE Ls kv/\(∀(j p:Nat),j<k->ps[j]? = some p->B6 kv (p:Int)=some (Ck p (BC Ls p)))/\Em B W gl Ls n/\cJ w.heap.size w W) (fun _ iv _ _ _ _ _=>ps.length-(intOf iv).toNat)
 case atStart=>exact⟨0,[],Nat.zero_le _,rfl,rfl,HA8.out,fun p=>.inl rfl,fun j p h=>absurd h (by omega),HN8.out,HE8.out⟩
 case round =>
  obtain⟨k,kv,hk,rfl,rfl,hA,hH,hP,hN,hE⟩:=hrel;have HA:=Wz hA;have HH:=Wz hH;have HP:=Wz hP;have HN:=Wz hN;have HE:=Wz hE;clear hA hH hP hN hE HA8 HN8 HE8;by_cases hlt:k<ps.length
  ·obtain⟨p,hp⟩:∃ p,ps[k]? = some p:=⟨_,List.getElem?_eq_getElem hlt⟩;have hpn:=HPS.out p (List.mem_of_getElem? hp);have c0:=AG (HI.out k p hp) HE.out;have HPK:=Wz hp;have x0:(0:Int)<=(k:Int):=by omega
   have x1:(k:Int)<(ps.length:Int):=by omega
   have d1:decide ((k:Int)<(ps.length:Int))=true:=decide_eq_true x1;have e2:IntKind.i64.wrap ((k:Int)+1)=(k:Int)+1:=cW _ (by omega);clear hp;go_wp2_with fail
   refine(Vp p hpn HN.out).mono ?_;rintro e W9 ⟨rfl,hb9⟩;have HE9:=Wz (AA HE.out hb9);have HA9:=Wz (HA.out.ext hb9);have HN9:=Wz (HN.out.ext hb9);obtain⟨x1c,hx1c⟩:∃ y,y=BC Ls p:=⟨_,rfl⟩;have HXC:=Wz hx1c;rw[<- hx1c];obtain⟨hc1,hs1⟩:=x1c;dsimp only;have c0:=AG (HI.out k p HPK.out) HE9.out;have gil:=AZ (p:=⟨gi,k,none⟩) c0;clear hb9 hx1c;go_wp2_with fail
   have HZ9:=Wz (AC W9 (cN #[cI J (p:Int),U hc1,U hs1] 52));refine(Tg p hpn hL (HN9.out.ext HZ9.out) (HR.out.below (AA HE9.out HZ9.out))).mono ?_;rintro e Wa ⟨Aa,ca,rfl,hpa,hba⟩;have HEa:=Wz (AA (AA HE9.out HZ9.out) hba);have HAa:=Wz ((HA9.out.ext HZ9.out).ext hba);have HNa:=Wz ((HN9.out.ext HZ9.out).ext hba);have hHd:=(Blk.new W9 52 #[cI J (p:Int),U hc1,U hs1]).ext hba;have h0:=hHd.cell 0;have h1:=hHd.cell 1;have h2:=hHd.cell 2;have HVE:=Wz (fun(W:cK)(g:cJ Wa.heap.size Wa W)=>U6 (Ls:=Ls) p hpn hL (fun b=>b<W.heap.size) _ ((hpa.below g).mono (fun b _ hb=>hb)) (fun b hb=>hb) (HR.out.below (AA HEa.out g)));rw[<- HRT.out,<- HXC.out]at HVE;generalize (((CW (n+1) (AP 0 (An Ls n)) p).map (·.1)).reverse).length=pl at *;clear c0 gil hba hpa hHd HZ9 HA9 HN9 HE9;rcases HH.out p with hnone|hsome
   ·have HNO:=Wz hnone;clear hnone;go_wp2_with fail
    refine(WW ga gm n p kv rt hc1 hs1 (cQ Aa pl ca) Wa HAa.out HNO.out HVE.out).mono ?_;rintro e Wb ⟨rfl,hab,hxb⟩;have HAb:=Wz hab;have HEb:=Wz (Ah.below HEa.out HGB.out.2 HGB.out.2 hxb);have HNb:=Wz (HNa.out.map hxb HAa.out.2);clear hab hxb h0 h1 h2;go_wp2;go_roundw
    case rel=>exact⟨k+1,_,by omega,by go_num,rfl,HAb.out,by rw[HXC.out];exact HH.out.put p,fun j q hj hq=>by
     rw[Ho];split
     ·rename_i e
      have:p=q:=by omega
      subst this;rw[<- HXC.out]
     rcases Nat.lt_or_ge j k with h|h
     ·exact HP.out j q h hq
     have hjk:j=k:=by omega
     subst hjk;rw[HPK.out]at hq;injection hq with hq
     omega,HNb.out,HEb.out⟩
    simp[intOf];omega
   have HSO:=Wz hsome;rw[<- HXC.out]at HSO;clear hsome;go_wp2_with fail
   refine(WX ga gm n p kv rt hc1 hs1 (cQ Aa pl ca) Wa HAa.out HSO.out HVE.out).mono ?_;rintro e Wb ⟨rfl,hab,hxb⟩;have HAb:=Wz hab;have HEb:=Wz (Ah.below HEa.out HGB.out.2 HGB.out.2 hxb);have HNb:=Wz (HNa.out.map hxb HAa.out.2);clear hab hxb h0 h1 h2;go_wp2;go_roundw
   case rel=>exact⟨k+1,_,by omega,by go_num,rfl,HAb.out,by rw[HXC.out];exact HH.out.put p,fun j q hj hq=>by
    rw[Ho];split
    ·rename_i e
     have:p=q:=by omega
     subst this;rw[<- HXC.out]
    rcases Nat.lt_or_ge j k with h|h
    ·exact HP.out j q h hq
    have hjk:j=k:=by omega
    subst hjk;rw[HPK.out]at hq;injection hq with hq
    omega,HNb.out,HEb.out⟩
   simp[intOf];omega
  have hkl:k=ps.length:=by omega
  have d1:decide ((k:Int)<(ps.length:Int))=false:=decide_eq_false (by omega);go_wp2;go_ret2;refine⟨ga,gm,kv,rfl,(by rw[<- HRT.out];exact HA.out),HH.out,fun p hp=>?_,HGB.out.1,HGB.out.2,HE.out⟩;obtain⟨j,hj,hjp⟩:=List.mem_iff_getElem?.1 hp |>.imp (fun j h=>And.intro ((List.getElem?_eq_some_iff.1 h).1) h)
  exact HP.out j p (by omega) hjp
end
end Go.Proofs.YtimoapjhepmehaaGreatDoor
