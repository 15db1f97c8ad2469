/-
  Part 19 of 54: the contracts that the proof of the last part uses; each stands under its own head.
-/
import Derived.Test.YtimoapjhepmehaaGreatDoorP18
import Derived.BigQuiet
import Derived.Deep.Upon
import Derived.Test.YtimoapjhepmehaaGreatDoorP16
set_option linter.unusedSimpArgs false
set_option linter.unusedVariables false
set_option maxHeartbeats 4000000
set_option maxRecDepth 100000
namespace Go.Proofs.YtimoapjhepmehaaGreatDoor
section
open Go.RowKit Go.Shelf
attribute [local go_sem ↓] app_exec app_sem Go.wp_at_zero Go.wp_at_succ
attribute [local go_sem high] slR slR1 slT
theorem refApply (rows:List RowT) (hs:SortK rows) (pos:Int) (hp:0≤pos∧pos<10000) (l:List ChgT) (hl:ChgsOK l) (hF:validF l=true) (hB:∀ c ∈ l,BefOK rows c) (hsz:rows.length+l.length≤2000) (g:Nat) (v:Value) (w:World)
    (hS:RefS w g rows pos) (hv:ChgsAt w v l) (hne:∀ b off c,v=.slice (some ⟨b,off,none⟩) l.length c→b≠g) :
    Calls Tryz.prog 46 #[.pointer (some ⟨g,0,none⟩),.agg #[.int .i64 (pos+1),v]] w fun e w'=>e=.returned (.int .i64 0)∧RefS w' g (insF rows l) (pos+1)∧Ext2 g g w w':=by
  have h8:=hl.few
  obtain ⟨hp1,hp2⟩:=hp
  have hgl:g<w.heap.size:=by obtain ⟨_,h,_⟩:=hS;exact h.lt
  have HR:=Lib.hid (r3Record (pos+1) (by omega) l v _ (hv.ext (ext_new w (.cells #[.int .i64 (pos+1),v] 75))) hl hF)
  have HBF:=Lib.hid hB
  have HPW:=Lib.hid hl.pairwise
  have HTU:=Lib.hid (show ∀ x ∈ l,x.turns=true by
    unfold validF at hF
    rw [Bool.and_eq_true] at hF
    exact fun x hx=>List.all_eq_true.1 hF.2 x hx)
  have HNE:=Lib.hid hne
  have HV0:=Lib.hid hv
  have HS0:=Lib.hid hS
  have HSO:=Lib.hid hs
  have HB0:=Lib.hid (Blk.new w 75 #[.int .i64 (pos+1),v])
  obtain ⟨A,c,rfl,hlc,-⟩:=hv
  have HX0:=Lib.hid (ext_new w (.cells #[.int .i64 (pos+1),.slice A l.length c] 75))
  obtain ⟨br,hbr⟩:∃ br,br=w.heap.size:=⟨_,rfl⟩
  rw [← hbr] at HB0
  have HBR:=Lib.hid hbr
  have hgb:br≠g:=by omega
  have ep:IntKind.i64.wrap (pos+1)=pos+1:=IntWalk.i64_in _ (by omega)
  clear hl hF hB hne hS hs hbr
  go_enter Tryz.func46,Tryz.ntmps46
  go_wp2_with fail
  refine HR.out.mono ?_
  rintro e W1 ⟨rfl,hb1⟩
  rw [← HBR.out]
  have HE1:=Lib.hid (ext_call HX0.out hb1)
  have HB1:=Lib.hid (HB0.out.ext hb1)
  have HV1:=Lib.hid (HV0.out.ext HE1.out)
  have HS1:=Lib.hid (HS0.out.ext HE1.out)
  have b0:=HB1.out.cell 0
  obtain ⟨Lv,hLb,hLr,-⟩:=HS1.out
  obtain ⟨LA,Lc,rfl,-⟩:=hLr
  have g0:=hLb.cell 0
  have g1:=hLb.cell 1
  clear hb1 hLb
  go_wp2
  go_quiet (fail)
  go_wp2
  go_loopw [6,7,8,9,10] (fun sv iv _ _ _ W=>∃ (k:Nat) (z:Int),k≤l.length∧iv=.int .i64 (k:Int)∧sv=.int .i64 z∧(rows.length:Int)-k≤z∧z≤(rows.length:Int)+k∧Below W1.heap.size W1 W) (fun _ iv _ _ _ _=>l.length-(intOf iv).toNat)
  case atStart=>exact ⟨0,(rows.length:Int),Nat.zero_le _,rfl,rfl,by omega,by omega,ext_drewN (ext_refl _) _⟩
  case round =>
    obtain ⟨k,z,hk,rfl,rfl,hz1,hz2,hE⟩:=hrel
    have HE:=Lib.hid hE
    have HBr:=Lib.hid (HB1.out.ext hE)
    have HVr:=Lib.hid (HV1.out.ext hE)
    have HSr:=Lib.hid (HS1.out.ext hE)
    have b0:=HBr.out.cell 0
    have b1:=HBr.out.cell 1
    clear hE g0 g1
    by_cases hlt:k<l.length
    · obtain ⟨x,hx⟩:∃ x,l[k]? = some x:=⟨_,List.getElem?_eq_getElem hlt⟩
      have hxm:=List.mem_of_getElem? hx
      obtain ⟨b,off,c',hA,hcl,hc10⟩:=chgs10 HVr.out hx
      injection hA with hA _ hc'
      subst hA hc'
      have htu:=HTU.out x hxm
      have hbf:=HBF.out x hxm
      have HG:=fun (W:World) (hW:RefS W g rows pos)=>refGet rows HSO.out (by omega) x.t x.k pos g W hW
      unfold BefOK at hbf
      rw [hbf] at HG
      have c0:=hc10 0 (by omega);have c1:=hc10 1 (by omega);have c2:=hc10 2 (by omega);have c3:=hc10 3 (by omega);have c4:=hc10 4 (by omega);have c5:=hc10 5 (by omega);have c6:=hc10 6 (by omega);have c7:=hc10 7 (by omega);have c8:=hc10 8 (by omega);have c9:=hc10 9 (by omega)
      obtain ⟨t,kk,had,o1,o2,o3,has,n1,n2,n3⟩:=x
      simp only [ChgT.arr,List.getElem?_toArray,List.getElem?_cons_zero,List.getElem?_cons_succ,Nat.add_zero] at c0 c1 c2 c3 c4 c5 c6 c7 c8 c9
      dsimp only [befC] at HG htu
      have q0:(0:Int)≤(k:Int):=by omega
      have q1:(k:Int)<(l.length:Int):=by omega
      have d1:decide ((k:Int)<(l.length:Int))=true:=decide_eq_true q1
      have e2:IntKind.i64.wrap ((k:Int)+1)=(k:Int)+1:=IntWalk.i64_in _ (by omega)
      have z1:IntKind.i64.wrap (z+1)=z+1:=IntWalk.i64_in _ (by omega)
      have z2:IntKind.i64.wrap (z-1)=z-1:=IntWalk.i64_in _ (by omega)
      have z3:IntKind.i64.wrap (z-1+1)=z-1+1:=IntWalk.i64_in _ (by omega)
      clear hc10 hxm hx hbf
      cases had with
      | false=>cases has with
        | false=>simp [ChgT.turns] at htu
        | true=>{
        simp only [if_true,Bool.false_eq_true,if_false,Option.getD_none,Option.getD_some,Option.isSome_none,Option.isSome_some,zeroR] at HG
        have HG:=Lib.hid HG
        have HX2:=Blk.new wr 72 #[.int .i64 t,.int .i64 kk,.bool false,.int .i64 o1,.int .i64 o2,.int .i64 o3,.bool true,.int .i64 n1,.int .i64 n2,.int .i64 n3]
        have heq:=fun W:World=>eq3 o1 o2 o3 o1 o2 o3 W
        simp only [decide_true,Bool.and_true] at heq
        go_wp2_with fail
        refine (HG.out _ (HSr.out.ext (ext_new _ _))).mono ?_
        rintro e W2 ⟨rfl,hb2⟩
        have HE2:=Lib.hid (ext_call (ext_alloc HE.out _) hb2)
        have HX2:=Lib.hid (HX2.ext hb2)
        have y0:=HX2.out.cell 0;have y1:=HX2.out.cell 1;have y2:=HX2.out.cell 2;have y3:=HX2.out.cell 3;have y4:=HX2.out.cell 4;have y5:=HX2.out.cell 5;have y6:=HX2.out.cell 6;have y7:=HX2.out.cell 7;have y8:=HX2.out.cell 8;have y9:=HX2.out.cell 9
        clear hb2 c0 c1 c2 c3 c4 c5 c6 c7 c8 c9
        have hlx:=HX2.out.lt
        go_wp2
        go_roundw
        case rel=>exact ⟨k+1,z+1,by omega,by go_num,rfl,by omega,by omega,ext_alloc HE2.out _⟩
        case measure=>simp [intOf];omega }
      | true=>cases has with
        | false=>{
        simp only [if_true,Bool.false_eq_true,if_false,Option.getD_none,Option.getD_some,Option.isSome_none,Option.isSome_some,zeroR] at HG
        have HG:=Lib.hid HG
        have HX2:=Blk.new wr 72 #[.int .i64 t,.int .i64 kk,.bool true,.int .i64 o1,.int .i64 o2,.int .i64 o3,.bool false,.int .i64 n1,.int .i64 n2,.int .i64 n3]
        have heq:=fun W:World=>eq3 o1 o2 o3 o1 o2 o3 W
        simp only [decide_true,Bool.and_true] at heq
        go_wp2_with fail
        refine (HG.out _ (HSr.out.ext (ext_new _ _))).mono ?_
        rintro e W2 ⟨rfl,hb2⟩
        have HE2:=Lib.hid (ext_call (ext_alloc HE.out _) hb2)
        have HX2:=Lib.hid (HX2.ext hb2)
        have y0:=HX2.out.cell 0;have y1:=HX2.out.cell 1;have y2:=HX2.out.cell 2;have y3:=HX2.out.cell 3;have y4:=HX2.out.cell 4;have y5:=HX2.out.cell 5;have y6:=HX2.out.cell 6;have y7:=HX2.out.cell 7;have y8:=HX2.out.cell 8;have y9:=HX2.out.cell 9
        clear hb2 c0 c1 c2 c3 c4 c5 c6 c7 c8 c9
        have hlx:=HX2.out.lt
        go_wp2
        go_roundw
        case rel=>exact ⟨k+1,z-1,by omega,by go_num,rfl,by omega,by omega,ext_alloc HE2.out _⟩
        case measure=>simp [intOf];omega }
        | true=>{
        simp only [if_true,Bool.false_eq_true,if_false,Option.getD_none,Option.getD_some,Option.isSome_none,Option.isSome_some,zeroR] at HG
        have HG:=Lib.hid HG
        have HX2:=Blk.new wr 72 #[.int .i64 t,.int .i64 kk,.bool true,.int .i64 o1,.int .i64 o2,.int .i64 o3,.bool true,.int .i64 n1,.int .i64 n2,.int .i64 n3]
        have heq:=fun W:World=>eq3 o1 o2 o3 o1 o2 o3 W
        simp only [decide_true,Bool.and_true] at heq
        go_wp2_with fail
        refine (HG.out _ (HSr.out.ext (ext_new _ _))).mono ?_
        rintro e W2 ⟨rfl,hb2⟩
        have HE2:=Lib.hid (ext_call (ext_alloc HE.out _) hb2)
        have HX2:=Lib.hid (HX2.ext hb2)
        have y0:=HX2.out.cell 0;have y1:=HX2.out.cell 1;have y2:=HX2.out.cell 2;have y3:=HX2.out.cell 3;have y4:=HX2.out.cell 4;have y5:=HX2.out.cell 5;have y6:=HX2.out.cell 6;have y7:=HX2.out.cell 7;have y8:=HX2.out.cell 8;have y9:=HX2.out.cell 9
        clear hb2 c0 c1 c2 c3 c4 c5 c6 c7 c8 c9
        have hlx:=HX2.out.lt
        go_wp2
        go_roundw
        case rel=>exact ⟨k+1,z,by omega,by go_num,rfl,by omega,by omega,ext_alloc HE2.out _⟩
        case measure=>simp [intOf];omega }
    · have hkl : k = l.length := by omega
      have d1:decide ((k:Int)<(l.length:Int))=false:=decide_eq_false (by omega)
      have d2:decide ((2000:Int)<z)=false:=decide_eq_false (by omega)
      have HP2:=Lib.hid (show (-1:Int)<pos∧pos<10000 from ⟨by omega,hp2⟩)
      go_wp2
      clear hkl d1 d2 hz1 hz2
      go_loopw [11,12,13,14,15,16,17,18] (fun iv _ _ _ _ _ _ _ W=>∃ (k:Nat) (rk:List RowT),k≤l.length∧iv=.int .i64 (k:Int)∧Mid rows l k rk∧RefS W g rk pos∧Ext2 g g wr W) (fun iv _ _ _ _ _ _ _ _=>l.length-(intOf iv).toNat)
      case atStart=>exact ⟨0,rows,Nat.zero_le _,rfl,Mid.start HSO.out (fun c hc=>(HBF.out c hc).had),HSr.out,Ext2.refl _ _ _⟩
      case round=>
        obtain ⟨k,rk,hk,rfl,hmid,hSk,hE2⟩:=hrel
        have HM:=Lib.hid hmid
        have HSk:=Lib.hid hSk
        have HE2:=Lib.hid hE2
        have HBq:=Lib.hid (HBr.out.ext2 hE2 hgb hgb)
        have HVq:=Lib.hid (HVr.out.ext2g hE2 HNE.out)
        have b0:=HBq.out.cell 0
        have b1:=HBq.out.cell 1
        have hrl:rk.length≤2000+8:=by
          have h1:=insF_len rows (l.take k)
          rw [← hmid.eq] at h1
          rw [List.length_take] at h1
          omega
        clear hmid hE2
        by_cases hlt:k<l.length
        · obtain ⟨x,hx⟩:∃ x,l[k]? = some x:=⟨_,List.getElem?_eq_getElem hlt⟩
          have hxm:=List.mem_of_getElem? hx
          have hnext:=HM.out.next HPW.out hx
          have hhad:=HM.out.had k x (Nat.le_refl _) hx
          have hpl:placeF rk x.t x.k≤rk.length:=List.findIdx_le_length
          have hdp:=drop_place rk x hhad HM.out.sort
          have hieq:=insC_eq rk x
          obtain ⟨b,off,c',hA,hcl,hc10⟩:=chgs10 HVq.out hx
          injection hA with hA _ hc'
          subst hA hc'
          have htu:=HTU.out x hxm
          have HPL:=fun (W:World) (hW:RefS W g rk pos)=>refPlace rk HM.out.sort (by omega) x.t x.k pos g W hW
          unfold insRest insMid at hieq
          generalize hpeq:placeF rk x.t x.k=p at *
          have c0:=hc10 0 (by omega);have c1:=hc10 1 (by omega);have c2:=hc10 2 (by omega);have c3:=hc10 3 (by omega);have c4:=hc10 4 (by omega);have c5:=hc10 5 (by omega);have c6:=hc10 6 (by omega);have c7:=hc10 7 (by omega);have c8:=hc10 8 (by omega);have c9:=hc10 9 (by omega)
          obtain ⟨t,kk,had,o1,o2,o3,has,n1,n2,n3⟩:=x
          simp only [ChgT.arr,List.getElem?_toArray,List.getElem?_cons_zero,List.getElem?_cons_succ,Nat.add_zero] at c0 c1 c2 c3 c4 c5 c6 c7 c8 c9
          dsimp only at HPL htu hpl hdp hieq
          have q0:(0:Int)≤(k:Int):=by omega
          have q1:(k:Int)<(l.length:Int):=by omega
          have d1:decide ((k:Int)<(l.length:Int))=true:=decide_eq_true q1
          have e2:IntKind.i64.wrap ((k:Int)+1)=(k:Int)+1:=IntWalk.i64_in _ (by omega)
          have HPL:=Lib.hid HPL
          have HNX:=Lib.hid hnext
          have HIE:=Lib.hid hieq
          clear hc10 hxm hx hnext hhad hieq hpeq
          obtain ⟨Kv,hKb,hKr,hKc⟩:=HSk.out
          have HKr:=Lib.hid hKr
          obtain ⟨KA,Kc,rfl,-⟩:=hKr
          have hcap:rk.length≤Kc:=hKc _ _ _ rfl
          have HKb:=Lib.hid hKb
          have sl1:SlOK rk.length Kc p:=⟨hpl,hcap⟩
          clear hKb hKc
          cases had with
          | false=>cases has with
            | false=>simp [ChgT.turns] at htu
            | true=>{
            have hie:=HIE.out
            simp only [if_true,Bool.false_eq_true,if_false,List.drop_zero] at hie
            obtain ⟨L,hLL⟩:∃ L,L=insC rk ⟨t,kk,false,o1,o2,o3,true,n1,n2,n3⟩:=⟨_,rfl⟩
            rw [← hLL] at hie HNX
            clear hLL
            have HX:=Lib.hid (Blk.new wr 72 #[.int .i64 t,.int .i64 kk,.bool false,.int .i64 o1,.int .i64 o2,.int .i64 o3,.bool true,.int .i64 n1,.int .i64 n2,.int .i64 n3])
            go_wp2_with fail
            refine (HPL.out _ (HSk.out.ext (ext_new _ _))).mono ?_
            rintro e W2 ⟨rfl,hw2⟩
            obtain ⟨X,hX⟩:∃ X,X=wr.alloc (.cells #[.int .i64 t,.int .i64 kk,.bool false,.int .i64 o1,.int .i64 o2,.int .i64 o3,.bool true,.int .i64 n1,.int .i64 n2,.int .i64 n3] 72):=⟨_,rfl⟩
            have HEX:=Lib.hid (show Below wr.heap.size wr X by rw [hX];exact ext_new _ _)
            rw [← hX] at hw2 HX
            subst hw2
            clear hX
            have x0:=HX.out.cell 0;have x1:=HX.out.cell 1;have x2:=HX.out.cell 2;have x3:=HX.out.cell 3;have x4:=HX.out.cell 4;have x5:=HX.out.cell 5;have x6:=HX.out.cell 6;have x7:=HX.out.cell 7;have x8:=HX.out.cell 8;have x9:=HX.out.cell 9
            have g0:=(HKb.out.ext HEX.out).cell 0
            clear c0 c1 c2 c3 c4 c5 c6 c7 c8 c9 b0 b1
            go_wp2_with fail
            refine Calls.mono (r3AfterY _ _ _ _ _ _ _ _ _ _) ?_
            rintro e W3 ⟨rfl,hb3⟩
            have HE3:=Lib.hid (ext_call HEX.out hb3)
            have HX3:=Lib.hid (HX.out.ext hb3)
            clear hb3 g0 x0 x1 x2 x3 x4 x5 x6 x7 x8 x9
            obtain ⟨Y,hY⟩:∃ Y,Y=(W3.alloc (.cells #[.int .i64 t,.int .i64 kk,.int .i64 n1,.int .i64 n2,.int .i64 n3] 67)).alloc (.cells #[.int .i64 t,.int .i64 kk,.int .i64 n1,.int .i64 n2,.int .i64 n3] 67):=⟨_,rfl⟩
            have HEY:=Lib.hid (show Below wr.heap.size wr Y by rw [hY];exact ext_alloc (ext_alloc HE3.out _) _)
            have hra:=((HKr.out.ext HEY.out).rowsO).take p hpl
            have hrd:=RowsO.drop (c':=slN Kc p) (HKr.out.ext HEY.out).rowsO (m:=slN rk.length p) (by unfold slN;omega) (slA_of sl1)
            have hrm:RowsO Y (.slice (some ⟨W3.heap.size+1,0,none⟩) 1 1) [⟨t,kk,n1,n2,n3⟩]:=by
              rw [hY]
              exact rows1 _ ⟨t,kk,n1,n2,n3⟩ (by simp)
            obtain ⟨ok1,X1,v1,hX1,hv1,ok2,X2,v2,hX2,hv2,ok3,X3,v3,hX3,hv3,hB3,hL3,hC3,A3,c3,rfl⟩:=appR3 Y (rk.take p) [⟨t,kk,n1,n2,n3⟩] (rk.drop p) L hie (.slice KA p Kc) (.slice (some ⟨W3.heap.size+1,0,none⟩) 1 1) (.slice (slA KA Kc p) (slN rk.length p) (slN Kc p)) hra hrm hrd (by simp;omega)
            have HB3:=Lib.hid (ext_call HEY.out hB3)
            have HK3:=Lib.hid (HKb.out.ext HB3.out)
            have g0:=(HKb.out.ext HEY.out).cell 0
            have g3:=HK3.out.cell 0
            have gf:=HK3.out.frozen 0
            rw [hY] at ok1 hX1 hv1 g0
            clear hra hrm hrd hie
            have HL3:=Lib.hid hL3
            have HHY:=Lib.hid hY
            clear hL3 hY hB3
            go_wp2
            go_roundw
            case rel=>exact ⟨k+1,_,by omega,by go_num,HNX.out,Blk.setL HK3.out HL3.out hC3,(HE2.out.ext HB3.out).setA _ _⟩
            case measure=>simp [intOf];omega }
          | true=>cases has with
            | false=>{
            have hie:=HIE.out
            simp only [if_true,Bool.false_eq_true,if_false,List.drop_zero] at hie
            obtain ⟨L,hLL⟩:∃ L,L=insC rk ⟨t,kk,true,o1,o2,o3,false,n1,n2,n3⟩:=⟨_,rfl⟩
            rw [← hLL] at hie HNX
            clear hLL
            have hdp:=hdp rfl
            have sl2:SlOK (slN rk.length p) (slN Kc p) 1:=⟨by unfold slN;omega,by unfold slN;omega⟩
            have HX:=Lib.hid (Blk.new wr 72 #[.int .i64 t,.int .i64 kk,.bool true,.int .i64 o1,.int .i64 o2,.int .i64 o3,.bool false,.int .i64 n1,.int .i64 n2,.int .i64 n3])
            go_wp2_with fail
            refine (HPL.out _ (HSk.out.ext (ext_new _ _))).mono ?_
            rintro e W2 ⟨rfl,hw2⟩
            obtain ⟨X,hX⟩:∃ X,X=wr.alloc (.cells #[.int .i64 t,.int .i64 kk,.bool true,.int .i64 o1,.int .i64 o2,.int .i64 o3,.bool false,.int .i64 n1,.int .i64 n2,.int .i64 n3] 72):=⟨_,rfl⟩
            have HEX:=Lib.hid (show Below wr.heap.size wr X by rw [hX];exact ext_new _ _)
            rw [← hX] at hw2 HX
            subst hw2
            clear hX
            have x0:=HX.out.cell 0;have x1:=HX.out.cell 1;have x2:=HX.out.cell 2;have x3:=HX.out.cell 3;have x4:=HX.out.cell 4;have x5:=HX.out.cell 5;have x6:=HX.out.cell 6;have x7:=HX.out.cell 7;have x8:=HX.out.cell 8;have x9:=HX.out.cell 9
            have g0:=(HKb.out.ext HEX.out).cell 0
            clear c0 c1 c2 c3 c4 c5 c6 c7 c8 c9 b0 b1
            go_wp2_with fail
            refine Calls.mono (r3AfterN _ _ _ _ _ _ _ _ _ _) ?_
            rintro e W3 ⟨rfl,hb3⟩
            have HE3:=Lib.hid (ext_call HEX.out hb3)
            have HX3:=Lib.hid (HX.out.ext hb3)
            clear hb3 g0 x0 x1 x2 x3 x4 x5 x6 x7 x8 x9
            obtain ⟨Y,hY⟩:∃ Y,Y=W3.alloc (.cells #[.int .i64 0,.int .i64 0,.int .i64 0,.int .i64 0,.int .i64 0] 67):=⟨_,rfl⟩
            have HEY:=Lib.hid (show Below wr.heap.size wr Y by rw [hY];exact ext_alloc HE3.out _)
            have hra:=((HKr.out.ext HEY.out).rowsO).take p hpl
            have hrd:=RowsO.drop (k:=1) (c':=slN (slN Kc p) 1) (A':=slA (slA KA Kc p) (slN Kc p) 1) (m:=slN (slN rk.length p) 1) (by have h1:=RowsO.drop (c':=slN Kc p) (HKr.out.ext HEY.out).rowsO (m:=slN rk.length p) (by unfold slN;omega) (slA_of sl1);rw [show slN rk.length p=(rk.drop p).length by rw [List.length_drop];rfl] at h1;exact h1) (by rw [List.length_drop];unfold slN;omega) (by have h2:=slA_of (A:=slA KA Kc p) sl2;exact h2)
            have hrm:=RowsO.nil Y none 0
            obtain ⟨ok1,X1,v1,hX1,hv1,ok2,X2,v2,hX2,hv2,ok3,X3,v3,hX3,hv3,hB3,hL3,hC3,A3,c3,rfl⟩:=appR3 Y (rk.take p) [] ((rk.drop p).drop 1) L hie (.slice KA p Kc) (.slice none 0 0) (.slice (slA (slA KA Kc p) (slN Kc p) 1) (slN (slN rk.length p) 1) (slN (slN Kc p) 1)) hra hrm hrd (by simp;omega)
            have HB3:=Lib.hid (ext_call HEY.out hB3)
            have HK3:=Lib.hid (HKb.out.ext HB3.out)
            have g0:=(HKb.out.ext HEY.out).cell 0
            have g3:=HK3.out.cell 0
            have gf:=HK3.out.frozen 0
            rw [hY] at ok1 hX1 hv1 g0
            clear hra hrm hrd hie
            have HL3:=Lib.hid hL3
            have HHY:=Lib.hid hY
            clear hL3 hY hB3
            go_wp2
            go_roundw
            case rel=>exact ⟨k+1,_,by omega,by go_num,HNX.out,Blk.setL HK3.out HL3.out hC3,(HE2.out.ext HB3.out).setA _ _⟩
            case measure=>simp [intOf];omega }
            | true=>{
            have hie:=HIE.out
            simp only [if_true,Bool.false_eq_true,if_false,List.drop_zero] at hie
            obtain ⟨L,hLL⟩:∃ L,L=insC rk ⟨t,kk,true,o1,o2,o3,true,n1,n2,n3⟩:=⟨_,rfl⟩
            rw [← hLL] at hie HNX
            clear hLL
            have hdp:=hdp rfl
            have sl2:SlOK (slN rk.length p) (slN Kc p) 1:=⟨by unfold slN;omega,by unfold slN;omega⟩
            have HX:=Lib.hid (Blk.new wr 72 #[.int .i64 t,.int .i64 kk,.bool true,.int .i64 o1,.int .i64 o2,.int .i64 o3,.bool true,.int .i64 n1,.int .i64 n2,.int .i64 n3])
            go_wp2_with fail
            refine (HPL.out _ (HSk.out.ext (ext_new _ _))).mono ?_
            rintro e W2 ⟨rfl,hw2⟩
            obtain ⟨X,hX⟩:∃ X,X=wr.alloc (.cells #[.int .i64 t,.int .i64 kk,.bool true,.int .i64 o1,.int .i64 o2,.int .i64 o3,.bool true,.int .i64 n1,.int .i64 n2,.int .i64 n3] 72):=⟨_,rfl⟩
            have HEX:=Lib.hid (show Below wr.heap.size wr X by rw [hX];exact ext_new _ _)
            rw [← hX] at hw2 HX
            subst hw2
            clear hX
            have x0:=HX.out.cell 0;have x1:=HX.out.cell 1;have x2:=HX.out.cell 2;have x3:=HX.out.cell 3;have x4:=HX.out.cell 4;have x5:=HX.out.cell 5;have x6:=HX.out.cell 6;have x7:=HX.out.cell 7;have x8:=HX.out.cell 8;have x9:=HX.out.cell 9
            have g0:=(HKb.out.ext HEX.out).cell 0
            clear c0 c1 c2 c3 c4 c5 c6 c7 c8 c9 b0 b1
            go_wp2_with fail
            refine Calls.mono (r3AfterY _ _ _ _ _ _ _ _ _ _) ?_
            rintro e W3 ⟨rfl,hb3⟩
            have HE3:=Lib.hid (ext_call HEX.out hb3)
            have HX3:=Lib.hid (HX.out.ext hb3)
            clear hb3 g0 x0 x1 x2 x3 x4 x5 x6 x7 x8 x9
            obtain ⟨Y,hY⟩:∃ Y,Y=(W3.alloc (.cells #[.int .i64 t,.int .i64 kk,.int .i64 n1,.int .i64 n2,.int .i64 n3] 67)).alloc (.cells #[.int .i64 t,.int .i64 kk,.int .i64 n1,.int .i64 n2,.int .i64 n3] 67):=⟨_,rfl⟩
            have HEY:=Lib.hid (show Below wr.heap.size wr Y by rw [hY];exact ext_alloc (ext_alloc HE3.out _) _)
            have hra:=((HKr.out.ext HEY.out).rowsO).take p hpl
            have hrd:=RowsO.drop (k:=1) (c':=slN (slN Kc p) 1) (A':=slA (slA KA Kc p) (slN Kc p) 1) (m:=slN (slN rk.length p) 1) (by have h1:=RowsO.drop (c':=slN Kc p) (HKr.out.ext HEY.out).rowsO (m:=slN rk.length p) (by unfold slN;omega) (slA_of sl1);rw [show slN rk.length p=(rk.drop p).length by rw [List.length_drop];rfl] at h1;exact h1) (by rw [List.length_drop];unfold slN;omega) (by have h2:=slA_of (A:=slA KA Kc p) sl2;exact h2)
            have hrm:RowsO Y (.slice (some ⟨W3.heap.size+1,0,none⟩) 1 1) [⟨t,kk,n1,n2,n3⟩]:=by
              rw [hY]
              exact rows1 _ ⟨t,kk,n1,n2,n3⟩ (by simp)
            obtain ⟨ok1,X1,v1,hX1,hv1,ok2,X2,v2,hX2,hv2,ok3,X3,v3,hX3,hv3,hB3,hL3,hC3,A3,c3,rfl⟩:=appR3 Y (rk.take p) [⟨t,kk,n1,n2,n3⟩] ((rk.drop p).drop 1) L hie (.slice KA p Kc) (.slice (some ⟨W3.heap.size+1,0,none⟩) 1 1) (.slice (slA (slA KA Kc p) (slN Kc p) 1) (slN (slN rk.length p) 1) (slN (slN Kc p) 1)) hra hrm hrd (by simp;omega)
            have HB3:=Lib.hid (ext_call HEY.out hB3)
            have HK3:=Lib.hid (HKb.out.ext HB3.out)
            have g0:=(HKb.out.ext HEY.out).cell 0
            have g3:=HK3.out.cell 0
            have gf:=HK3.out.frozen 0
            rw [hY] at ok1 hX1 hv1 g0
            clear hra hrm hrd hie
            have HL3:=Lib.hid hL3
            have HHY:=Lib.hid hY
            clear hL3 hY hB3
            go_wp2
            go_roundw
            case rel=>exact ⟨k+1,_,by omega,by go_num,HNX.out,Blk.setL HK3.out HL3.out hC3,(HE2.out.ext HB3.out).setA _ _⟩
            case measure=>simp [intOf];omega }
        · have hkl:k=l.length:=by omega
          have d1:decide ((k:Int)<(l.length:Int))=false:=decide_eq_false (by omega)
          have HF:=Lib.hid (show rk=insF rows l by have h1:=HM.out.eq;rw [hkl,List.take_length] at h1;exact h1)
          obtain ⟨Kv,hKb,hKr,hKc⟩:=HSk.out
          have k1:=hKb.cell 1
          have kf:=hKb.frozen 1
          clear hkl hKb hKr
          go_wp2
          go_ret
          refine ⟨rfl,?_,?_⟩
          · rw [← HF.out];exact HSk.out.setP _
          · exact (((Ext2.of_ext (HE1.out)).ext HE.out).trans HE2.out).setA _ _
end
section
open Go.RowKit Go.Shelf
attribute [local go_sem ↓] Go.wp_at_zero Go.wp_at_succ
theorem refApplyNo (pos:Int) (hp:0≤pos∧pos<10000) (rows:List RowT) (g:Nat) (A:Option Addr) (c:Nat) (w:World) (hS:RefS w g rows pos) :
    Calls Tryz.prog 46 #[.pointer (some ⟨g,0,none⟩),.agg #[.int .i64 (pos+1),.slice A 0 c]] w fun e w'=>e=.returned (.int .i64 40)∧Below w.heap.size w w':=by
  obtain ⟨hp1,hp2⟩:=hp
  have HR:=Lib.hid (r3RecordNo (pos+1) (by omega) A c (w.alloc (.cells #[.int .i64 (pos+1),.slice A 0 c] 75)))
  have HB0:=Lib.hid (Blk.new w 75 #[.int .i64 (pos+1),.slice A 0 c])
  have HX0:=Lib.hid (ext_new w (.cells #[.int .i64 (pos+1),.slice A 0 c] 75))
  have ep:IntKind.i64.wrap (pos+1)=pos+1:=IntWalk.i64_in _ (by omega)
  clear hS
  go_enter Tryz.func46,Tryz.ntmps46
  go_wp2_with fail
  refine HR.out.mono ?_
  rintro e W1 ⟨rfl,hb1⟩
  have HE1:=Lib.hid (ext_call HX0.out hb1)
  clear hb1
  go_wp2
  go_quiet (fail)
  go_wp2
  go_ret
  exact ⟨rfl,ext_drewN HE1.out _⟩
end
section
open Go.RowKit Go.Shelf
structure Agree (rows rs:List RowT):Prop where
  sort:SortK rows
  apart:Apart rs
  eq:∀ t k,getR rows t k=getR rs t k
theorem Agree.nil:Agree [] []:=⟨List.Pairwise.nil,List.Pairwise.nil,fun _ _=>rfl⟩
theorem Agree.one {rows rs:List RowT} (h:Agree rows rs) {c:ChgT} (hc:HadOK rows c):Agree (insC rows c) (applyC rs c):=
  ⟨h.sort.ins hc,h.apart.applyC c,fun t k=>by rw [getR_ins h.sort hc,getR_applyC h.apart,h.eq]⟩
theorem Agree.ins:∀ (l:List ChgT) {rows rs:List RowT},Agree rows rs→(∀ c ∈ l,HadOK rows c)→l.Pairwise (fun a b=>¬ (a.t=b.t∧a.k=b.k))→Agree (insF rows l) (applyF rs l)
  | [],_,_,h,_,_=>h
  | c::l,rows,rs,h,hh,hp=>by
    rw [List.pairwise_cons] at hp
    have hc:=hh c (List.mem_cons_self ..)
    show Agree (insF (insC rows c) l) (applyF (Proofs.YtimoapjhepmehaaGreatDoor.applyC rs c) l)
    refine Agree.ins l (h.one hc) (fun d hd=>?_) hp.2
    unfold HadOK
    rw [getR_ins h.sort hc,if_neg (fun e=>hp.1 d hd ⟨e.1.symm,e.2.symm⟩)]
    exact hh d (List.mem_cons_of_mem _ hd)
theorem BefOK.of_fill {rows rs:List RowT} (h:Agree rows rs) {c:ChgT} (hf:fillC rs c=c):BefOK rows c:=by
  unfold BefOK
  rw [h.eq]
  obtain ⟨t,k,had,o1,o2,o3,has,n1,n2,n3⟩:=c
  unfold fillC at hf
  unfold befC
  dsimp only at hf ⊢
  rcases getP (rows:=rs) t k with ⟨r,hr,h1,h2⟩|hr
  · rw [hr] at hf ⊢
    simp at hf
    obtain ⟨r0,r1,r2,r3,r4⟩:=r
    dsimp only at *
    obtain ⟨rfl,rfl,rfl,rfl⟩:=hf
    simp [h1,h2]
  · rw [hr] at hf ⊢
    simp at hf
    simp [← hf.1]
end
section
open Go.RowKit Go.Shelf
theorem app_cut {P:Program} {w:World} (t ty e:TypeId) (i:TypeInfo) (z:Value) (size bytes:Nat) (ht:P.underlying t=some (.slice e)) (hi:P.info? e=some i) (hz:i.zero=some z)
    (hsize:i.size=size) (hby:i.bytes=bytes) (hzs:z.cells.size=size) (A:Option Addr) (j:Nat) (olds:List Value) (hol:olds.length=j*size) (hold:0<j→∃ a,A=some a∧∀ q u,olds[q]? = some u→w.cell? (a.add q)=some u)
    (a:Addr) (m c:Nat) (hm:0<m) (news:List Value) (hl:news.length=m*size) (hnews:∀ q u,news[q]? = some u→w.cell? (a.add q)=some u) (h1:∀ u ∈ news,u.oneCell'=true)
    (h63:j+m≤maxLen) (hbytes:(j+m)*bytes≤140737488355328) :
    AppOK P w t ty (.slice A j j) (.slice (some a) m c)∧∃ W',appW P w t ty (.slice A j j) (.slice (some a) m c)=W'∧∃ v',appV P w t ty (.slice A j j) (.slice (some a) m c)=v'∧W'.ownsRow w.heap.size e size v' (j+m) (olds++news)∧Below w.heap.size w W':=by
  subst hsize
  subst hby
  have hfc:(Builtin.firstCells i.size j (.slice A j j)).run P w.drew=.ok olds.toArray w.drew:=by
    rcases Nat.eq_zero_or_pos j with h0|h0
    · subst h0
      have h2:olds=[]:=List.length_eq_zero_iff.1 (by rw [hol];omega)
      subst h2
      cases A with
      | none=>exact run_firstCells_none w.drew i.size 0 0 0
      | some b=>exact run_firstCells_some w.drew i.size 0 b 0 0 [] (by simp) (by simp)
    · obtain ⟨b,rfl,hb⟩:=hold h0
      exact run_firstCells_some w.drew i.size j b j j olds hol (fun q u hq=>by simpa using hb q u hq)
  have hsmall:j+m≤9223372036854775807:=by simp only [maxLen] at h63;omega
  have hs:Src P i.size t (.slice (some a) m c) m news w:=Src.ofSlice w ht a m c news hl hnews h1
  have hr:=run_append_grow_src (P:=P) w t t ty e i z ht hi hz A j j olds hfc (.slice (some a) m c) m news hs (by omega) (by omega) (growslice_fits (by omega) hbytes)
  refine ⟨⟨_,_,hr⟩,_,by unfold appW;rw [hr],_,by unfold appV;rw [hr],?_,?_⟩
  · have hge:=grownCap_ge w (j+m) j e
    have hcm:grownCap w (j+m) j e≤maxLen:=grownCap_le_maxLen w (j+m) j e h63
    have hlen:(olds++news).length=(j+m)*i.size:=by rw [List.length_append,hol,hl,Nat.add_mul]
    refine ⟨hlen,.inr ⟨w.heap.size,_,_,rfl,Nat.le_refl _,heap_alloc_new w.drew _,hge,hcm,?_,?_⟩⟩
    · simp only [Array.size_append,List.size_toArray,size_zeroCells,hzs,hlen,← Nat.add_mul]
      congr 1
      omega
    · simp only [Array.toList_append]
      rw [← hlen]
      exact List.take_left
  · exact ⟨rfl,rfl,rfl,by simp,fun k hk=>heap_alloc_old w.drew _ hk⟩
end
section
open Go.RowKit Go.Shelf
def slC (A:Option Addr) (c k:Nat):Option Addr:=if c=k then A else A.map (·.add (k*10))
theorem slCR {A:Option Addr} {n c k:Nat} {w:World} (h:SlOK n c k):(Instr.slice 73 (.slice A n c) (some (.int .i64 (k:Int))) none none).run Tryz.prog w=.ok (.slice (slC A c k) (slN n k) (slN c k)) w:=by
  have hel:Tryz.prog.elem 73=72:=by kernel_rfl
  obtain ⟨h1,h2⟩:=h
  have h:=Go.run_slice_l (P:=Tryz.prog) (w:=w) 73 A n c (by rw [hel];exact Tryz.underlying73) .i64 (k:Int) (by omega) (by omega)
  rw [h,hel]
  obtain ⟨ii,hii,_,hz1,_⟩:=info_parts chg_info
  simp [sizeOf,typeInfo,hii,hz1,Result.andThen,sliced,slC,slN]
theorem slCT {A:Option Addr} {n c k:Nat} {w:World} (h:SlOK n c k):(Instr.slice 73 (.slice A n c) none (some (.int .i64 (k:Int))) (some (.int .i64 (k:Int)))).run Tryz.prog w=.ok (.slice A k k) w:=by
  have hel:Tryz.prog.elem 73=72:=by kernel_rfl
  obtain ⟨h1,h2⟩:=h
  have h:=Go.run_slice_hm (P:=Tryz.prog) (w:=w) 73 A n c (by rw [hel];exact Tryz.underlying73) .i64 .i64 (k:Int) (k:Int) (by omega) (by omega) (by omega)
  rw [h,hel]
  obtain ⟨ii,hii,_,hz1,_⟩:=info_parts chg_info
  cases A with
  | none=>simp [sizeOf,typeInfo,hii,hz1,Result.andThen,sliced]
  | some a=>
    have ha:a.add 0=a:=by obtain ⟨b,o,m⟩:=a;cases m <;> rfl
    simp [sizeOf,typeInfo,hii,hz1,Result.andThen,sliced,ha]
theorem own_monoR {W:World} {base base' n sz:Nat} {e:TypeId} {v:Value} {xs:List Value} (h:W.ownsRow base e sz v n xs) (hb:base'≤base):W.ownsRow base' e sz v n xs:=by
  refine ⟨h.1,?_⟩
  rcases h.2 with h2|⟨g,cap,cur,h3,h4,h5⟩
  · exact .inl h2
  · exact .inr ⟨g,cap,cur,h3,Nat.le_trans hb h4,h5⟩
theorem own_one (W:World) (c:ChgT):(W.alloc (.cells c.arr 72)).ownsRow W.heap.size 72 10 (.slice (some ⟨W.heap.size,0,none⟩) 1 1) 1 (cc [c]):=by
  refine ⟨by rw [cc_length];rfl,.inr ⟨W.heap.size,1,c.arr,rfl,Nat.le_refl _,heap_alloc_new W _,Nat.le_refl _,by unfold maxLen;omega,rfl,?_⟩⟩
  simp [cc,ChgT.arr]
theorem insChg (W:World) (l:List ChgT) (A:Option Addr) (cp:Nat) (hv:ChgsAt W (.slice A l.length cp) l) (j:Nat) (hj:j≤l.length) (hcp:l.length≤cp) (hl:l.length≤1000) (c:ChgT) :
    AppOK Tryz.prog (W.alloc (.cells c.arr 72)) 73 73 (.slice (some ⟨W.heap.size,0,none⟩) 1 1) (.slice (slC A cp j) (slN l.length j) (slN cp j)) ∧
    ∃ X1,appW Tryz.prog (W.alloc (.cells c.arr 72)) 73 73 (.slice (some ⟨W.heap.size,0,none⟩) 1 1) (.slice (slC A cp j) (slN l.length j) (slN cp j))=X1 ∧
    ∃ v1,appV Tryz.prog (W.alloc (.cells c.arr 72)) 73 73 (.slice (some ⟨W.heap.size,0,none⟩) 1 1) (.slice (slC A cp j) (slN l.length j) (slN cp j))=v1 ∧
    AppOK Tryz.prog X1 73 73 (.slice A j j) v1 ∧
    ∃ X2,appW Tryz.prog X1 73 73 (.slice A j j) v1=X2∧∃ v2,appV Tryz.prog X1 73 73 (.slice A j j) v1=v2 ∧
    X2.ownsRow W.heap.size 72 10 v2 (l.length+1) (cc (l.take j++c::l.drop j))∧Below W.heap.size W X2∧(∃ q d,v2=.slice (some ⟨q,0,none⟩) (l.length+1) d)∧Below W.heap.size W X1:=by
  obtain ⟨ii,hii,hzi0,hzi1,hzi2⟩:=info_parts chg_info
  have hX:Below W.heap.size W (W.alloc (.cells c.arr 72)):=ext_new W _
  have hv1:=hv.ext hX
  have hwn:=own_one W c
  have hcd:cc (c::l.drop j)=cc [c]++cc (l.drop j):=by simp [cc]
  have hcl:cc (l.take j++c::l.drop j)=cc (l.take j)++cc (c::l.drop j):=by simp [cc]
  obtain ⟨ok1,X1,hX1,v1,hw1,ho1,hB1⟩:AppOK Tryz.prog (W.alloc (.cells c.arr 72)) 73 73 (.slice (some ⟨W.heap.size,0,none⟩) 1 1) (.slice (slC A cp j) (slN l.length j) (slN cp j)) ∧
      ∃ X1,appW Tryz.prog (W.alloc (.cells c.arr 72)) 73 73 (.slice (some ⟨W.heap.size,0,none⟩) 1 1) (.slice (slC A cp j) (slN l.length j) (slN cp j))=X1 ∧
      ∃ v1,appV Tryz.prog (W.alloc (.cells c.arr 72)) 73 73 (.slice (some ⟨W.heap.size,0,none⟩) 1 1) (.slice (slC A cp j) (slN l.length j) (slN cp j))=v1 ∧
      X1.ownsRow W.heap.size 72 10 v1 (1+slN l.length j) (cc (c::l.drop j))∧Below W.heap.size W X1:=by
    rcases Nat.eq_zero_or_pos (slN l.length j) with h0|h0
    · have hjl:j=l.length:=by unfold slN at h0;omega
      have hd:l.drop j=[]:=by rw [hjl];exact List.drop_length
      rw [h0]
      have hr:(Builtin.append_ #[73,73] 73 #[.slice (some ⟨W.heap.size,0,none⟩) 1 1,.slice (slC A cp j) 0 (slN cp j)]).run Tryz.prog (W.alloc (.cells c.arr 72))=.ok (.slice (some ⟨W.heap.size,0,none⟩) 1 1) (W.alloc (.cells c.arr 72)):=by
        cases slC A cp j with
        | none=>exact run_append_nothing _ 73 73 73 72 ii Tryz.underlying73 hii _ 1 1 (Nat.le_refl _) (.slice none 0 (slN cp j)) ⟨.inl ⟨_,Tryz.underlying73⟩,fun _=>rfl,run_firstCells_none _ _ 0 0 _,run_firstCells_none _ _ 0 0 _,by simp,by simp⟩
        | some a=>exact run_append_nothing _ 73 73 73 72 ii Tryz.underlying73 hii _ 1 1 (Nat.le_refl _) (.slice (some a) 0 (slN cp j)) (Src.ofSlice _ Tryz.underlying73 a 0 _ [] (by simp) (by simp) (by simp))
      exact ⟨⟨_,_,hr⟩,_,by unfold appW;rw [hr],_,by unfold appV;rw [hr],by rw [hd];exact hwn,hX⟩
    · obtain ⟨A',c',hA,_,hcell⟩:=hv1
      injection hA with hA _ hc'
      subst hA hc'
      obtain ⟨b,off,rfl,hcell2⟩:=hcell (by unfold slN at h0;omega)
      have hsl:slC (some ⟨b,off,none⟩) cp j=some ⟨b,off+j*10,none⟩:=by
        unfold slC
        unfold slN at h0
        rw [if_neg (by omega)]
        simp [Addr.add_lit]
      rw [hsl]
      have hln:(cc (l.drop j)).length=slN l.length j*10:=by rw [cc_length,List.length_drop];rfl
      obtain ⟨h1,X1,h2,v1,h3,h4,h5,_⟩:=app_own_at9 (P:=Tryz.prog) (w:=W.alloc (.cells c.arr 72)) W.heap.size 73 73 72 ii _ 10 80 Tryz.underlying73 hii hzi0 hzi1 hzi2 rfl (by decide) _ 1 (cc [c]) hwn ⟨b,off+j*10,none⟩ (slN l.length j) (slN cp j) (cc (l.drop j)) hln (fun q u hu=>by
        have hq:=(List.getElem?_eq_some_iff.1 hu).1
        rw [hln] at hq
        obtain ⟨x,hx⟩:∃ x,(l.drop j)[q / 10]? = some x:=⟨_,List.getElem?_eq_getElem (by rw [List.length_drop];unfold slN at hq;omega)⟩
        have h7:=cc_at (l.drop j) (q / 10) x hx (q % 10) (Nat.mod_lt _ (by omega))
        rw [List.getElem?_drop] at hx
        have h6:=hcell2 (j+q / 10) x hx (q % 10) (Nat.mod_lt _ (by omega))
        rw [show q / 10*10+q % 10=q by omega] at h7
        rw [← hu,h7,← h6,Addr.add_lit,show off+j*10+q=off+(j+q / 10)*10+q % 10 by omega]) (cc_one _) (by unfold maxLen slN;omega) (by unfold slN;omega) (by simp)
      refine ⟨h1,X1,h2,v1,h3,by rw [hcd];exact h4,?_⟩
      exact ⟨h5.os.trans hX.os,by rw [h5.tape];exact hX.tape,h5.output.trans hX.output,Nat.le_trans hX.size h5.size,fun k hk=>(h5.block k (Nat.lt_of_lt_of_le hk hX.size) (fun e=>by
        have e2:some k=some W.heap.size:=e
        injection e2 with e2
        omega)).trans (hX.block k hk)⟩
  obtain ⟨g,d,rfl,hg⟩:∃ g d,v1=.slice (some ⟨g,0,none⟩) (1+slN l.length j) d∧True:=by
    rcases ho1.2 with ⟨_,h⟩|⟨g,cap,cur,rfl,_⟩
    · omega
    · exact ⟨g,cap,rfl,trivial⟩
  have hv2:=hv.ext hB1
  obtain ⟨h1,X2,h2,v2,h3,h4,h5⟩:=app_cut (P:=Tryz.prog) (w:=X1) 73 73 72 ii _ 10 80 Tryz.underlying73 hii hzi0 hzi1 hzi2 rfl A j (cc (l.take j)) (by rw [cc_length,List.length_take,Nat.min_eq_left hj]) (fun hj0=>by
    obtain ⟨A',c',hA,_,hcell⟩:=hv2
    injection hA with hA _ hc'
    subst hA hc'
    obtain ⟨b,off,rfl,hcell2⟩:=hcell (by omega)
    refine ⟨_,rfl,fun q u hu=>?_⟩
    have hq:=(List.getElem?_eq_some_iff.1 hu).1
    rw [cc_length,List.length_take,Nat.min_eq_left hj] at hq
    obtain ⟨x,hx⟩:∃ x,(l.take j)[q / 10]? = some x:=⟨_,List.getElem?_eq_getElem (by rw [List.length_take];omega)⟩
    have h7:=cc_at (l.take j) (q / 10) x hx (q % 10) (Nat.mod_lt _ (by omega))
    rw [List.getElem?_take,if_pos (by omega)] at hx
    have h6:=hcell2 (q / 10) x hx (q % 10) (Nat.mod_lt _ (by omega))
    rw [show q / 10*10+q % 10=q by omega] at h7
    rw [← hu,h7,← h6,Addr.add_lit,show off+q=off+q / 10*10+q % 10 by omega]) ⟨g,0,none⟩ (1+slN l.length j) d (by omega) (cc (c::l.drop j)) ho1.1 (fun q u hu=>by
      rw [Addr.add_lit,Nat.zero_add]
      exact ownAtR ho1 q u hu) (cc_one _) (by unfold maxLen slN;omega) (by unfold slN;omega)
  have hn:j+(1+slN l.length j)=l.length+1:=by unfold slN;omega
  rw [hn,← hcl] at h4
  refine ⟨ok1,X1,hX1,_,hw1,h1,X2,h2,v2,h3,own_monoR h4 hB1.size,ext_call hB1 h5,?_,hB1⟩
  rcases h4.2 with ⟨_,h⟩|⟨q,cap,cur,rfl,_⟩
  · omega
  · exact ⟨q,cap,rfl⟩
end
section
open Go.RowKit Go.Shelf
theorem ltC_trans {a b c:ChgT} (h:ltC a b) (k:ltC b c):ltC a c:=by unfold ltC at *;omega
theorem asc_take {l:List ChgT} {c:ChgT} {j:Nat} (hj:j≤l.length) (h:l.Pairwise ltC) (hp:∀ m x,j=m+1→l[m]? = some x→ltC x c):∀ x ∈ l.take j,ltC x c:=by
  intro x hx
  obtain ⟨i,hi,hr⟩:=List.getElem_of_mem hx
  rw [List.length_take] at hi
  rw [List.getElem_take] at hr
  obtain ⟨m,rfl⟩:∃ m,j=m+1:=⟨j-1,by omega⟩
  have hm:m<l.length∨l.length≤m:=by omega
  rcases hm with hm|hm
  · have h1:=hp m _ rfl (List.getElem?_eq_getElem hm)
    rcases Nat.lt_or_ge i m with h2|h2
    · have h3:=List.pairwise_iff_getElem.1 h i m (by omega) hm h2
      rw [hr] at h3
      exact ltC_trans h3 h1
    · have e:i=m:=by omega
      subst e
      rwa [hr] at h1
  · omega
theorem asc_ins {l:List ChgT} {c:ChgT} {j:Nat} (h:l.Pairwise ltC) (hlt:∀ x ∈ l.take j,ltC x c) (hgt:∀ x ∈ l.drop j,ltC c x):(l.take j++c::l.drop j).Pairwise ltC:=by
  rw [List.pairwise_append,List.pairwise_cons]
  refine ⟨List.Pairwise.sublist (List.take_sublist _ _) h,⟨hgt,List.Pairwise.sublist (List.drop_sublist _ _) h⟩,fun a ha b hb=>?_⟩
  rcases List.mem_cons.1 hb with rfl|hb
  · exact hlt a ha
  · exact ltC_trans (hlt a ha) (hgt b hb)
theorem mem_ins {l:List ChgT} {c x:ChgT} {j:Nat} (h:x ∈ l.take j++c::l.drop j):x=c∨x ∈ l:=by
  rcases List.mem_append.1 h with h|h
  · exact .inr (List.mem_of_mem_take h)
  · rcases List.mem_cons.1 h with h|h
    · exact .inl h
    · exact .inr (List.mem_of_mem_drop h)
theorem ins_length (l:List ChgT) (c:ChgT) {j:Nat} (hj:j≤l.length):(l.take j++c::l.drop j).length=l.length+1:=by
  rw [List.length_append,List.length_cons,List.length_take,List.length_drop]
  omega
def keyIn (l:List ChgT) (c:ChgT):Bool:=l.any fun x=>decide (x.t=c.t) && decide (x.k=c.k)
theorem keyIn_iff {l:List ChgT} {c:ChgT}:keyIn l c=true↔∃ x ∈ l,x.t=c.t∧x.k=c.k:=by
  unfold keyIn
  rw [List.any_eq_true]
  simp
theorem ChgsOK.of_asc {l:List ChgT} (h8:l.length≤8) (h:l.Pairwise ltC) (hok:∀ x ∈ l,x.ok):ChgsOK l:=by
  refine ⟨h8,hok,fun j a b ha hb=>?_⟩
  obtain ⟨h1,rfl⟩:=List.getElem?_eq_some_iff.1 ha
  obtain ⟨h2,rfl⟩:=List.getElem?_eq_some_iff.1 hb
  exact List.pairwise_iff_getElem.1 h j (j+1) h1 h2 (by omega)
end
section
open Go.RowKit Go.Shelf
structure LgL (rs:List RowT) (l:List ChgT):Prop where
  gen:∀ c ∈ l,ChgG c
  turns:∀ c ∈ l,c.turns=true
  fill:∀ c ∈ l,fillC rs c=c
  asc:l.Pairwise ltC
theorem LgL.nil (rs:List RowT):LgL rs []:=⟨by simp,by simp,by simp,List.Pairwise.nil⟩
theorem LgL.ins {rs:List RowT} {l:List ChgT} {c:ChgT} {j:Nat} (h:LgL rs l) (h1:ChgG c) (h2:c.turns=true) (h3:fillC rs c=c) (hlt:∀ x ∈ l.take j,ltC x c) (hgt:∀ x ∈ l.drop j,ltC c x):LgL rs (l.take j++c::l.drop j):=
  ⟨fun x hx=>by rcases mem_ins hx with rfl|hx;exact h1;exact h.gen x hx,fun x hx=>by rcases mem_ins hx with rfl|hx;exact h2;exact h.turns x hx,fun x hx=>by rcases mem_ins hx with rfl|hx;exact h3;exact h.fill x hx,asc_ins h.asc hlt hgt⟩
theorem LgL.ok {rs:List RowT} {l:List ChgT} (h:LgL rs l) (h8:l.length≤8):ChgsOK l:=ChgsOK.of_asc h8 h.asc (fun x hx=>(h.gen x hx).ok)
theorem LgL.valid {rs:List RowT} {l:List ChgT} (h:LgL rs l) (h0:0<l.length):validF l=true:=by
  unfold validF
  rw [Bool.and_eq_true]
  refine ⟨?_,List.all_eq_true.2 h.turns⟩
  cases l with
  | nil=>simp at h0
  | cons a r=>rfl
def logC (rs:List RowT) (t k a b d:Int) (stays:Bool):ChgT:=if (getR rs t k).isSome && !stays then fillC rs (genC0 t k false) else fillC rs (genC1 t k a b d)
theorem logC_good {rs:List RowT} (hs:StOK rs) {t k a b d:Int} {s:Bool} (h1:0≤t∧t<3) (h2:0≤k∧k<9) (h3:0≤a∧a<10) (h4:0≤b∧b<9) (h5:0≤d∧d<40):ChgG (logC rs t (1+k) a (1+b) (d-20) s):=by
  unfold logC
  split
  · exact (genC0_good t k h1 h2).fill hs
  · exact (genC1_good t k a b d h1 h2 h3 h4 h5).fill hs
theorem logC_fill (rs:List RowT) (t k a b d:Int) (s:Bool):fillC rs (logC rs t k a b d s)=logC rs t k a b d s:=by
  unfold logC
  split <;> rfl
theorem logC_none {rs:List RowT} {t k a b d:Int} {s:Bool} (h:getR rs t k=none):logC rs t k a b d s=⟨t,k,false,0,0,0,true,a,b,d⟩:=by
  unfold logC
  rw [h]
  simp [fillC,genC1,h,zeroR]
theorem logC_del {rs:List RowT} {t k a b d:Int} {r:RowT} (h:getR rs t k=some r):logC rs t k a b d false=⟨t,k,true,r.a,r.b,r.c,false,0,0,0⟩:=by
  unfold logC
  rw [h]
  simp [fillC,genC0,h]
theorem logC_put {rs:List RowT} {t k a b d:Int} {r:RowT} (h:getR rs t k=some r):logC rs t k a b d true=⟨t,k,true,r.a,r.b,r.c,true,a,b,d⟩:=by
  unfold logC
  rw [h]
  simp [fillC,genC1,h]
theorem logC_any (rs:List RowT) (t k a b d:Int) (s:Bool):(logC rs t k a b d s).had=true∨(logC rs t k a b d s).has=true:=by
  cases h:getR rs t k with
  | none=>rw [logC_none h];exact .inr rfl
  | some r=>cases s with
    | false=>rw [logC_del h];exact .inl rfl
    | true=>rw [logC_put h];exact .inl rfl
theorem turns_of {c:ChgT} (h1:c.had=true∨c.has=true) (h2:(c.had && c.has && (decide (c.o1=c.n1) && decide (c.o2=c.n2) && decide (c.o3=c.n3)))=false):c.turns=true:=by
  unfold ChgT.turns
  revert h1 h2
  cases c.had <;> cases c.has <;> simp
  intro h
  by_cases e1:c.o1=c.n1
  · by_cases e2:c.o2=c.n2
    · exact .inr (h e1 e2)
    · exact .inl (.inr e2)
  · exact .inl (.inl e1)
theorem agree_rows {rows rs:List RowT} (h:Agree rows rs) (hs:StOK rs):rows.length≤27:=by
  have h1 : ∀ r ∈ rows, r ∈ rs := fun r hr => by
    have h2:getR rows r.t r.k=some r:=by
      obtain ⟨i,hi,hri⟩:=List.getElem_of_mem hr
      cases hg:getR rows r.t r.k with
      | none=>
        have h3:=List.find?_eq_none.1 hg r hr
        simp [RowT.is] at h3
      | some q=>
        have h3:=List.find?_some hg
        have h4:=List.mem_of_find?_eq_some hg
        simp only [RowT.is,Bool.and_eq_true,decide_eq_true_eq] at h3
        obtain ⟨j,hj,hqj⟩:=List.getElem_of_mem h4
        rcases Nat.lt_trichotomy i j with h5|h5|h5
        · have:=h.sort.lt (List.getElem?_eq_getElem hi) (List.getElem?_eq_getElem hj) h5
          rw [hri,hqj] at this
          omega
        · subst h5;rw [← hqj,hri]
        · have:=h.sort.lt (List.getElem?_eq_getElem hj) (List.getElem?_eq_getElem hi) h5
          rw [hri,hqj] at this
          omega
    rw [h.eq] at h2
    exact getR_mem h2
  have h5:(rows.map fun r=>keyN r.t r.k).Nodup:=by
    rw [List.nodup_iff_pairwise_ne,List.pairwise_map]
    refine List.Pairwise.imp_of_mem ?_ h.sort
    intro a b ha hb hab e
    have:=keyN_inj (hs.tiny a (h1 a ha)) (hs.tiny b (h1 b hb)) e
    omega
  have h6:=nodup_lt 27 _ h5 (fun x hx=>by
    obtain ⟨r,hr,rfl⟩:=List.mem_map.1 hx
    exact keyN_lt (hs.tiny r (h1 r hr)))
  simpa using h6
end
section
open Go.RowKit Go.Shelf
attribute [local go_sem ↓] ld_exec ld_sem
theorem eqChgs (l:List ChgT) (va vb:Value) (w:World) (ha:ChgsAt w va l) (hb:ChgsAt w vb l) (hl:l.length≤1000) :
    Calls Tryz.prog 166 #[va,vb] w fun e w'=>e=.returned (.bool true)∧Below w.heap.size w w':=by
  have HA:=Lib.hid ha
  have HB:=Lib.hid hb
  obtain ⟨Aa,ca,rfl,_⟩:=ha
  obtain ⟨Ab,cb,rfl,_⟩:=hb
  go_enter Tryz.func166,Tryz.ntmps166
  go_wp2
  go_loopw [5,13] (fun _ i W=>∃ k:Nat,k≤l.length∧i=.int .i64 k∧Below w.heap.size w W) (fun _ i _=>l.length-(intOf i).toNat)
  case atStart=>exact ⟨0,Nat.zero_le _,rfl,by first|exact ext_refl w|exact (ext_refl w).drew⟩
  case round=>
    obtain ⟨k,hk,rfl,hE⟩:=hrel
    have HE:=Lib.hid hE
    clear hE
    have e2:IntKind.i64.wrap ((k:Int)+1)=(k:Int)+1:=by rw [IntWalk.i64_in _ (by omega)]
    by_cases hlt:k<l.length
    · have d1:decide ((k:Int)<(l.length:Int))=true:=by simp;omega
      obtain ⟨x,hx⟩:∃ x,l[k]? = some x:=⟨_,List.getElem?_eq_getElem hlt⟩
      obtain ⟨b1,o1,c1,hA1,_,hcell1⟩:=(HA.out.ext HE.out).at_ hx
      injection hA1 with hA1 _ hA3
      subst hA1
      subst hA3
      obtain ⟨b2,o2,c2,hB1,_,hcell2⟩:=(HB.out.ext HE.out).at_ hx
      injection hB1 with hB1 _ hB3
      subst hB1
      subst hB3
      obtain ⟨p1,r1⟩:=ld_rng (P:=Tryz.prog) (W:=wr.drew) (ty:=72) (cs:=x.arr) hcell1 Tryz.underlying72 rfl (by kernel_rfl)
      obtain ⟨p2,r2⟩:=ld_rng (P:=Tryz.prog) (W:=wr.drew) (ty:=72) (cs:=x.arr) hcell2 Tryz.underlying72 rfl (by kernel_rfl)
      have hq:=chgEqI x
      have q0:(0:Int)≤(k:Int):=by omega
      have q1:(k:Int)<(l.length:Int):=by omega
      clear hcell1 hcell2 hx
      go_wp2
      go_region
      go_wp2
      go_roundw
      case rel=>exact ⟨k+1,by omega,by go_num,HE.out.drew⟩
      case measure=>simp [intOf];omega
    · have d1:decide ((k:Int)<(l.length:Int))=false:=by simp;omega
      go_wp2
      go_ret
      exact ⟨rfl,HE.out⟩
theorem rowSame (p:Int) (l:List ChgT) (va vb:Value) (w:World) (ha:ChgsAt w va l) (hb:ChgsAt w vb l) (hl:l.length≤1000) :
    Calls Tryz.prog 111 #[.agg #[.int .i64 p,va],.agg #[.int .i64 p,vb]] w fun e w'=>e=.returned (.bool true)∧Below w.heap.size w w':=by
  have HE:=Lib.hid (ext_alloc (ext_new w (.cells #[.int .i64 p,va] 75)) (.cells #[.int .i64 p,vb] 75))
  have HQ:=Lib.hid (fun (W:World) (k:Below w.heap.size w W)=>eqChgs l va vb W (ha.ext k) (hb.ext k) hl)
  obtain ⟨Aa,ca,rfl,_⟩:=ha
  obtain ⟨Ab,cb,rfl,_⟩:=hb
  clear hl
  go_enter Tryz.func111,Tryz.ntmps111
  go_wp2_with (go_at_call 166;refine (HQ.out _ HE.out).mono ?_;rintro e W2 ⟨rfl,hb2⟩;have HE2:=Lib.hid (ext_call HE.out hb2);clear hb2)
  go_ret
  exact ⟨rfl,HE2.out⟩
attribute [local go_sem ↓] bd_exec bd_sem
end
end Go.Proofs.YtimoapjhepmehaaGreatDoor
