/- Part 26: contracts that the last part uses. -/
import Derived.Test.YtimoapjhepmehaaGreatDoorJ24
import Derived.Defers
import Derived.Recover
set_option linter.unusedSimpArgs false
set_option linter.unusedVariables false
set_option maxHeartbeats 4000000
set_option maxRecDepth 100000
namespace Go.Proofs.YtimoapjhepmehaaGreatDoor
open Go.IntKind renaming i64->U
open Go.Value renaming int->R,bool->o,slice->bF,agg->bI
open Go renaming World->bG,Value->bJ
open Tryz renaming prog->bK
section
open Go.RowKit Go.Shelf
attribute [local go_sem ↓] Go.wp_at_zero Go.wp_at_succ
structure Bg where
 rows:List AD
 val:Int
 found:Bool
theorem Ep(w:bG):Calls bK 97 #[o true] w fun e w'=>e=.returned (.tuple #[])/\w=w':=by
 go_enter Tryz.func97,Tryz.ntmps97;go_wp2;go_end0;exact⟨rfl,rfl⟩
theorem WN(a b c d:Int)(W:bG):(Op.equalIn 10000 123 (bI #[R U a,R U b,R U c,R U d]) (bI #[R U a,R U b,R U c,R U d])).run bK W=.ok true W:=by
 simp[go_sem]
theorem PT(bk bo:Nat)(w:bG)(hk:w.cell? ⟨bk,0,none⟩=some (o true)) :
  CallsD bK 95 #[.pointer (some ⟨bk,0,none⟩),.pointer (some ⟨bo,0,none⟩)] .returning w fun e u' w'=>u'=.returning/\(e=.returned (.tuple #[])/\w'=w):=by
 go_enter_d Tryz.func95,Tryz.ntmps95;go_wp2;go_end0;exact⟨rfl,rfl⟩
theorem Nr(bk:Nat)(w:bG) :
  CallsD bK 96 #[.pointer (some ⟨bk,0,none⟩)] .returning w fun e u' w'=>e=.returned (.tuple #[])/\u'=.returning/\w'=w:=by
 have hta:∀ w:bG,(Instr.typeAssert .nilIface 20 218 true).run bK w=.ok (.tuple #[.nilIface,o false]) w:=fun _=>by kernel_rfl
 refine callsD_of_wpS Tryz.func96 rfl fun c₀ cs hu=>?_;have hn:Tryz.f96.ntmps=17:=Tryz.ntmps96;rw[hn];simp only[List.size_toArray,List.length_cons,List.length_nil,Nat.reduceAdd,Nat.reduceSub,Array.replicate_succ,Array.replicate_zero,List.push_toArray,List.append_toArray,List.nil_append,List.cons_append];apply wpS_seq;apply wpS_region;simp[wpOpsS,go_sem,recoverD,hu,hta,Exit.thenS];clear hta hn;refine wpS_of_wp ?_;go_wp2;cases c₀;simp_all [bodyPostS,results,Tryz.results96]
end
section
open Go.RowKit Go.Shelf
attribute [local go_sem ↓] Go.wp_at_zero Go.wp_at_succ
end
section
open Go.RowKit Go.Shelf
def Bl(g:Nat->Int × Bool->Int × Bool)(s:Int × Bool):Nat->Int × Bool
 | 0=>s
 | k+1=>g k (Bl g s k)
structure IH (J:Nat->Int × Bool->Prop) (I:bG->Prop) (fn:Nat) (caps:Array bJ) (xs:List bJ) (g:Nat->Int × Bool->Int × Bool):Prop where
 enters:∀ args w,(callFunc fn args).run bK w=.ok (.enter fn args) w
 keeps:∀ W W',I W->Below W.heap.size W W'->I W'
 step:∀(k:Nat) (s:Int × Bool) (x:bJ) (W:bG),xs[k]? = some x->J k s->I W->Calls bK fn (#[bI #[bF none 0 0,R U s.1,o s.2],x]++caps) W fun e W'=>e=.returned (bI #[bF none 0 0,R U (g k s).1,o (g k s).2])/\Below W.heap.size W W'
 next:∀(k:Nat) (s:Int × Bool) (x:bJ),xs[k]? = some x->J k s->J (k+1) (g k s)
def Jz(w:bG)(v:bJ)(l:List Int):Prop:=∃ A c,v=bF A l.length c/\(0<l.length->∃ b,A=some ⟨b,0,none⟩/\∀(j:Nat) (x:Int),l[j]? = some x->w.cell? ⟨b,j,none⟩=some (R U x))
theorem Jz.ext{w W:bG}{v:bJ}{l:List Int}(h:Jz w v l)(k:Below w.heap.size w W):Jz W v l:=by
 obtain⟨A,c,rfl,h⟩:=h;refine⟨A,c,rfl,fun h0=>?_⟩;obtain⟨b,hA,hc⟩:=h h0;exact⟨b,hA,fun j x hx=>AG (hc j x hx) k⟩
section
attribute [local go_sem ↓] Go.wp_at_zero Go.wp_at_succ
theorem TV{J:Nat->Int × Bool->Prop}{I:bG->Prop}{fn:Nat}{caps:Array bJ}{g:Nat->Int × Bool->Int × Bool}(l:List AD)(hl:l.length<=1000)(v:bJ)(w:bG)(hv:AR w v l)(hf:IH J I fn caps (l.map AD.val) g)(hI:I w)(s0:Int × Bool)(h0:J 0 s0) :
  Calls bK 144 #[v,bI #[bF none 0 0,R U s0.1,o s0.2],.func (.func fn) #[] caps] w fun e w'=>e=.returned (bI #[bF none 0 0,R U (Bl g s0 l.length).1,o (Bl g s0 l.length).2])/\J l.length (Bl g s0 l.length)/\Below w.heap.size w w':=by
 have HF:=Wz hf;have HI:=Wz hI;have HV:=Wz hv;have H0:=Wz h0;have eg:=hf.enters;obtain⟨A,c,rfl,-⟩:=hv;obtain⟨W0,hW0⟩:∃ W0,W0=(w.alloc (.cells #[bF none 0 0,R U s0.1,o s0.2] 36)).alloc (.cells #[bF none 0 0,R U 0,o false] 36):=⟨_,rfl⟩;have HE0:=Wz (show Below w.heap.size w W0 by rw[hW0];exact AB (AC _ _) _);have HB0:=Wz (show Blk W0 w.heap.size 36 #[bF none 0 0,R U s0.1,o s0.2]by rw[hW0];exact(Blk.new _ _ _).alloc _);have HO0:=Wz (show Blk W0 (w.heap.size+1) 36 #[bF none 0 0,R U 0,o false]by rw[hW0];exact Blk.new' _ _ _ (by simp));have HW0:=Wz hW0;clear hf hI h0 hW0;go_enter Tryz.func144,Tryz.ntmps144;go_wp2;rw[<- HW0.out];clear HW0;go_loopw [8,11] (fun _ iv W=>∃ k:Nat,k<=l.length/\iv=R U (k:Int)/\J k (Bl g s0 k)/\Blk W w.heap.size 36 #[bF none 0 0,R U (Bl g s0 k).1,o (Bl g s0 k).2]/\Blk W (w.heap.size+1) 36 #[bF none 0 0,R U 0,o false]/\Below w.heap.size w W) (fun _ iv _=>l.length-(intOf iv).toNat)
 case atStart=>exact⟨0,Nat.zero_le _,rfl,H0.out,HB0.out,HO0.out,HE0.out⟩
 case round=>
  obtain⟨k,hk,rfl,hJ,hB,hO,hE⟩:=hrel;have HJ:=Wz hJ;have HB:=Wz hB;have HO:=Wz hO;have HE:=Wz hE;clear hJ hB hO hE HB0 HO0 HE0 H0;have e2:IntKind.i64.wrap ((k:Int)+1)=(k:Int)+1:=IntWalk.i64_in _ (by omega);by_cases hlt:k<l.length
  ·obtain⟨x,hx⟩:∃ x,l[k]? = some x:=⟨_,List.getElem?_eq_getElem hlt⟩;have hxv:(l.map AD.val)[k]? = some (AD.val x):=by rw[List.getElem?_map,hx];rfl
   have HN:=Wz (HF.out.next k _ _ hxv HJ.out);have HT:=Wz (fun(W:bG)(h:Below w.heap.size w W)=>HF.out.step k _ _ W hxv HJ.out (HF.out.keeps _ _ HI.out h));have HS:=Wz (show Bl g s0 (k+1)=g k (Bl g s0 k)from rfl);obtain⟨s,hs⟩:∃ s,s=Bl g s0 k:=⟨_,rfl⟩;obtain⟨s',hs'⟩:∃ s',s'=g k s:=⟨_,rfl⟩;rw[<- hs]at HN HT HB HS;rw[<- hs']at HN HT HS;obtain⟨sv,sf⟩:=s;obtain⟨tv,tf⟩:=s';dsimp only at *;obtain⟨gr,d',hA,hg,r0,r1,r2,r3,r4⟩:=(HV.out.ext HE.out).c5 hx;injection hA with hA hn' hd'
   subst hA;subst hd';obtain⟨y0,y1,y2,y3,y4⟩:=x;dsimp only[AD.val,AD.arr]at *;have x0:(0:Int)<=(k:Int):=by omega
   have x1:(k:Int)<(l.length:Int):=by omega
   have d1:decide ((k:Int)<(l.length:Int))=true:=decide_eq_true x1;have hB:=HB.out;have b0:=hB.cell 0;have b1:=hB.cell 1;have b2:=hB.cell 2;have hbl:=hB.lt;have hbl1:w.heap.size<wr.heap.size+1:=by omega
   clear hx hxv hs hs' hB;go_wp2_with fail
   refine(HT.out _ (AB HE.out _)).mono ?_;rintro e W2 ⟨rfl,hb2⟩;have hB2:=(HB.out.alloc _).ext hb2;have HB2:=Wz hB2;have HO2:=Wz ((HO.out.alloc _).ext hb2);have HE2:=Wz (AA (AB HE.out _) hb2);clear b0 b1 b2 hb2;have b0:=hB2.cell 0;have b1:=hB2.cell 1;have b2:=hB2.cell 2;have f0:=hB2.frozen 0;have f1:=hB2.frozen 1;have f2:=hB2.frozen 2;clear hB2;go_wp2;go_roundw
   case rel=>
    refine⟨k+1,by omega,by go_num,by rw[HS.out];exact HN.out,?_,?_,AE (AE (AE HE2.out (by simp) _) (by simp) _) (by simp) _⟩
    ·rw[HS.out];exact((HB2.out.set_ 0 _).set_ 1 _).set_ 2 _
    exact((HO2.out.far (p:=⟨w.heap.size,0,none⟩) (by simp) _).far (p:=⟨w.heap.size,1,none⟩) (by simp) _).far (p:=⟨w.heap.size,2,none⟩) (by simp) _
   simp[intOf];omega
  have hil:k=l.length:=by omega
  have d1:decide ((k:Int)<(l.length:Int))=false:=decide_eq_false (by omega);have HJ2:=Wz (show J l.length (Bl g s0 l.length)by rw[<- hil];exact HJ.out);rw[hil]at HB;clear HJ hil;obtain⟨s,hs⟩:∃ s,s=Bl g s0 l.length:=⟨_,rfl⟩;rw[<- hs]at HB HJ2;have HSS:=Wz hs;clear hs;obtain⟨sv,sf⟩:=s;dsimp only at *;have hB:=HB.out;have hO:=HO.out;have b0:=hB.cell 0;have b1:=hB.cell 1;have b2:=hB.cell 2;have o0:=hO.cell 0;have o1:=hO.cell 1;have o2:=hO.cell 2;have f0:=hO.frozen 0;have f1:=hO.frozen 1;have f2:=hO.frozen 2;clear hB hO;go_wp2;have hBf:=((HO.out.set_ 0 (bF none 0 0)).set_ 1 (R U sv)).set_ 2 (o sf);have y0:=hBf.cell 0;have y1:=hBf.cell 1;have y2:=hBf.cell 2;refine bodyPost_ret (v:=bI #[bF none 0 0,R U sv,o sf]) (by simp[results,Tryz.results144,go_sem,y0,y1,y2]) rfl ⟨by rw[<- HSS.out],by rw[<- HSS.out];exact HJ2.out,AE (AE (AE HE.out (by simp) _) (by simp) _) (by simp) _⟩
theorem TW{J:Nat->Int × Bool->Prop}{I:bG->Prop}{fn:Nat}{caps:Array bJ}{g:Nat->Int × Bool->Int × Bool}(l:List Int)(hl:l.length<=1000)(v:bJ)(w:bG)(hv:Jz w v l)(hf:IH J I fn caps (l.map (Value.int .i64)) g)(hI:I w)(s0:Int × Bool)(h0:J 0 s0) :
  Calls bK 146 #[v,bI #[bF none 0 0,R U s0.1,o s0.2],.func (.func fn) #[] caps] w fun e w'=>e=.returned (bI #[bF none 0 0,R U (Bl g s0 l.length).1,o (Bl g s0 l.length).2])/\J l.length (Bl g s0 l.length)/\Below w.heap.size w w':=by
 have HF:=Wz hf;have HI:=Wz hI;have HV:=Wz hv;have H0:=Wz h0;have eg:=hf.enters;obtain⟨A,c,rfl,-⟩:=hv;obtain⟨W0,hW0⟩:∃ W0,W0=(w.alloc (.cells #[bF none 0 0,R U s0.1,o s0.2] 36)).alloc (.cells #[bF none 0 0,R U 0,o false] 36):=⟨_,rfl⟩;have HE0:=Wz (show Below w.heap.size w W0 by rw[hW0];exact AB (AC _ _) _);have HB0:=Wz (show Blk W0 w.heap.size 36 #[bF none 0 0,R U s0.1,o s0.2]by rw[hW0];exact(Blk.new _ _ _).alloc _);have HO0:=Wz (show Blk W0 (w.heap.size+1) 36 #[bF none 0 0,R U 0,o false]by rw[hW0];exact Blk.new' _ _ _ (by simp));have HW0:=Wz hW0;clear hf hI h0 hW0;go_enter Tryz.func146,Tryz.ntmps146;go_wp2;rw[<- HW0.out];clear HW0;go_loopw [8,11] (fun _ iv W=>∃ k:Nat,k<=l.length/\iv=R U (k:Int)/\J k (Bl g s0 k)/\Blk W w.heap.size 36 #[bF none 0 0,R U (Bl g s0 k).1,o (Bl g s0 k).2]/\Blk W (w.heap.size+1) 36 #[bF none 0 0,R U 0,o false]/\Below w.heap.size w W) (fun _ iv _=>l.length-(intOf iv).toNat)
 case atStart=>exact⟨0,Nat.zero_le _,rfl,H0.out,HB0.out,HO0.out,HE0.out⟩
 case round=>
  obtain⟨k,hk,rfl,hJ,hB,hO,hE⟩:=hrel;have HJ:=Wz hJ;have HB:=Wz hB;have HO:=Wz hO;have HE:=Wz hE;clear hJ hB hO hE HB0 HO0 HE0 H0;have e2:IntKind.i64.wrap ((k:Int)+1)=(k:Int)+1:=IntWalk.i64_in _ (by omega);by_cases hlt:k<l.length
  ·obtain⟨x,hx⟩:∃ x,l[k]? = some x:=⟨_,List.getElem?_eq_getElem hlt⟩;have hxv:(l.map (Value.int .i64))[k]? = some (Value.int .i64 x):=by rw[List.getElem?_map,hx];rfl
   have HN:=Wz (HF.out.next k _ _ hxv HJ.out);have HT:=Wz (fun(W:bG)(h:Below w.heap.size w W)=>HF.out.step k _ _ W hxv HJ.out (HF.out.keeps _ _ HI.out h));have HS:=Wz (show Bl g s0 (k+1)=g k (Bl g s0 k)from rfl);obtain⟨s,hs⟩:∃ s,s=Bl g s0 k:=⟨_,rfl⟩;obtain⟨s',hs'⟩:∃ s',s'=g k s:=⟨_,rfl⟩;rw[<- hs]at HN HT HB HS;rw[<- hs']at HN HT HS;obtain⟨sv,sf⟩:=s;obtain⟨tv,tf⟩:=s';dsimp only at *;obtain⟨A',c',hA,hcl⟩:=HV.out.ext HE.out;injection hA with hA1 hA2 hA3
   subst hA1;subst hA3;obtain⟨gr,rfl,hcl2⟩:=hcl (by omega);have r0:=hcl2 k x hx;clear hcl hcl2 hA2;have x0:(0:Int)<=(k:Int):=by omega
   have x1:(k:Int)<(l.length:Int):=by omega
   have d1:decide ((k:Int)<(l.length:Int))=true:=decide_eq_true x1;have hB:=HB.out;have b0:=hB.cell 0;have b1:=hB.cell 1;have b2:=hB.cell 2;have hbl:=hB.lt;have hbl1:w.heap.size<wr.heap.size+1:=by omega
   clear hx hxv hs hs' hB;go_wp2_with fail
   refine(HT.out _ HE.out).mono ?_;rintro e W2 ⟨rfl,hb2⟩;have hB2:=HB.out.ext hb2;have HB2:=Wz hB2;have HO2:=Wz (HO.out.ext hb2);have HE2:=Wz (AA HE.out hb2);clear b0 b1 b2 hb2;have b0:=hB2.cell 0;have b1:=hB2.cell 1;have b2:=hB2.cell 2;have f0:=hB2.frozen 0;have f1:=hB2.frozen 1;have f2:=hB2.frozen 2;clear hB2;go_wp2;go_roundw
   case rel=>
    refine⟨k+1,by omega,by go_num,by rw[HS.out];exact HN.out,?_,?_,AE (AE (AE HE2.out (by simp) _) (by simp) _) (by simp) _⟩
    ·rw[HS.out];exact((HB2.out.set_ 0 _).set_ 1 _).set_ 2 _
    exact((HO2.out.far (p:=⟨w.heap.size,0,none⟩) (by simp) _).far (p:=⟨w.heap.size,1,none⟩) (by simp) _).far (p:=⟨w.heap.size,2,none⟩) (by simp) _
   simp[intOf];omega
  have hil:k=l.length:=by omega
  have d1:decide ((k:Int)<(l.length:Int))=false:=decide_eq_false (by omega);have HJ2:=Wz (show J l.length (Bl g s0 l.length)by rw[<- hil];exact HJ.out);rw[hil]at HB;clear HJ hil;obtain⟨s,hs⟩:∃ s,s=Bl g s0 l.length:=⟨_,rfl⟩;rw[<- hs]at HB HJ2;have HSS:=Wz hs;clear hs;obtain⟨sv,sf⟩:=s;dsimp only at *;have hB:=HB.out;have hO:=HO.out;have b0:=hB.cell 0;have b1:=hB.cell 1;have b2:=hB.cell 2;have o0:=hO.cell 0;have o1:=hO.cell 1;have o2:=hO.cell 2;have f0:=hO.frozen 0;have f1:=hO.frozen 1;have f2:=hO.frozen 2;clear hB hO;go_wp2;have hBf:=((HO.out.set_ 0 (bF none 0 0)).set_ 1 (R U sv)).set_ 2 (o sf);have y0:=hBf.cell 0;have y1:=hBf.cell 1;have y2:=hBf.cell 2;refine bodyPost_ret (v:=bI #[bF none 0 0,R U sv,o sf]) (by simp[results,Tryz.results146,go_sem,y0,y1,y2]) rfl ⟨by rw[<- HSS.out],by rw[<- HSS.out];exact HJ2.out,AE (AE (AE HE.out (by simp) _) (by simp) _) (by simp) _⟩
end
end
end Go.Proofs.YtimoapjhepmehaaGreatDoor
