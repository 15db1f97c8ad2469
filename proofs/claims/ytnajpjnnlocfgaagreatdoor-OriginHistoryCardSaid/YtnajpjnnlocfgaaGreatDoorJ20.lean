/-
  package store: At; package origin: State: the state behind the first records of any log.
-/
import Derived.Test.YtnajpjnnlocfgaaGreatDoorJ13
set_option linter.unusedSimpArgs false
set_option linter.unusedVariables false
set_option maxHeartbeats 4000000
set_option maxRecDepth 100000
namespace Go.Proofs.YtnajpjnnlocfgaaGreatDoor
open Go.RowKit Go.Shelf
attribute [local go_sem ↓] Go.wp_at_zero Go.wp_at_succ
def stF (Ls:List (List ChgT)):List RowT:=Ls.foldl applyF []
theorem stF_succ {Ls:List (List ChgT)} {k:Nat} {l:List ChgT} (h:Ls[k]? = some l):stF (Ls.take (k+1))=applyF (stF (Ls.take k)) l:=by
  unfold stF
  rw [List.take_add_one,h,List.foldl_append]
  rfl
structure RunG (Ls:List (List ChgT)):Prop where
  step:∀ (i:Nat) (l:List ChgT),Ls[i]? = some l→ChgsOK l∧validF l=true∧(∀ c ∈ l,fillC (stF (Ls.take i)) c=c)∧(stF (Ls.take i)).length≤1000
def RecsL (w:World) (v:Value) (first:Nat) (Ls:List (List ChgT)):Prop:=∃ A c,v=.slice A Ls.length c∧Ls.length≤c∧(0<Ls.length→∃ b,A=some ⟨b,0,none⟩∧∀ (j:Nat) (l:List ChgT),Ls[j]? = some l →
  w.cell? ⟨b,j*2,none⟩=some (.int .i64 ((first:Int)+(j:Int)))∧∃ u,w.cell? ⟨b,j*2+1,none⟩=some u∧ChgsAt w u l)
theorem RecsL.ext {w W:World} {v:Value} {first:Nat} {Ls:List (List ChgT)} (h:RecsL w v first Ls) (k:Below w.heap.size w W):RecsL W v first Ls:=by
  obtain ⟨A,c,rfl,hc,h⟩:=h
  refine ⟨A,c,rfl,hc,fun h0=>?_⟩
  obtain ⟨b,hA,h2⟩:=h h0
  exact ⟨b,hA,fun j l hj=>by obtain ⟨h3,u,h4,h5⟩:=h2 j l hj;exact ⟨cell_ext h3 k,u,cell_ext h4 k,h5.ext k⟩⟩
theorem recsL_of {W:World} {B first last:Nat} {v:Value} {xs:List (Nat × Nat × Nat × Nat)} {R:List (List ChgT × Nat × Nat)} (ho:W.ownsRow B 43 2 v xs.length (rcN xs)) (hl:xs.length=nRec first last R.length) (hf:1≤first)
    (hx:∀ (i:Nat) (x:Nat × Nat × Nat × Nat),xs[i]? = some x→RecMG first R i x W):RecsL W v first (((R.drop (first-1)).take (nRec first last R.length)).map (·.1)):=by
  have hlen:(((R.drop (first-1)).take (nRec first last R.length)).map (·.1)).length=xs.length:=by
    rw [List.length_map,List.length_take,List.length_drop,hl]
    unfold nRec
    omega
  by_cases h0:0<xs.length
  · obtain ⟨g,cap,rfl,_,_,hcap,hc⟩:=own_cells ho h0
    refine ⟨_,cap,by rw [hlen],by rw [hlen];exact hcap,fun _=>⟨g,rfl,fun j l hj=>?_⟩⟩
    have hj2:=(List.getElem?_eq_some_iff.1 hj).1
    rw [hlen] at hj2
    obtain ⟨x,hxx⟩:∃ x,xs[j]? = some x:=⟨_,List.getElem?_eq_getElem hj2⟩
    have hm:=hx j x hxx
    obtain ⟨y,hy,h2,h3,h4⟩:=hm.at_
    have hyl:y.1=l:=by
      rw [List.getElem?_map,Option.map_eq_some_iff] at hj
      obtain ⟨z,hz,rfl⟩:=hj
      rw [List.getElem?_take] at hz
      split at hz
      · rw [List.getElem?_drop,show first-1+j=first+j-1 by omega,hy] at hz
        rw [Option.some.inj hz]
      · cases hz
    subst hyl
    have e0:W.cell? ⟨g,j*2,none⟩=some (.int .i64 (x.1:Int)):=hc (j*2) _ (rcN_at xs j x hxx 0 (by omega))
    have e1:W.cell? ⟨g,j*2+1,none⟩=some (.slice (some ⟨x.2.2.1,0,none⟩) x.2.1 x.2.2.2):=hc (j*2+1) _ (rcN_at xs j x hxx 1 (by omega))
    refine ⟨?_,_,e1,?_⟩
    · rw [e0]
      rw [hm.pos]
      congr 2
    · rw [h2]
      exact h3.at_ h4
  · have h1:xs.length=0:=by omega
    obtain ⟨A,c,hsh⟩:=own_shape ho
    refine ⟨A,c,by rw [hlen];exact hsh,by rw [hlen];omega,fun h=>by rw [hlen] at h;omega⟩
theorem atS (Ls:List (List ChgT)) (v:Value) (p:Nat) (hp:p≤Ls.length) (hp9:Ls.length≤900) (hR:RunG Ls) (w:World) (hv:RecsL w v 1 Ls) :
    Calls Tryz.prog 38 #[v,.int .i64 (p:Int)] w fun e w'=>∃ gs gm,e=.returned (.tuple #[.pointer (some ⟨gs,0,none⟩),.int .i64 0])∧StateR w' gs gm (p:Int) (stF (Ls.take p))∧w.heap.size≤gs∧w.heap.size≤gm∧Below w.heap.size w w':=by
  have HVV:=Lib.hid hv
  obtain ⟨A,c,rfl,hc,-⟩:=hv
  have HV:=HVV
  clear HVV
  have HRN:=Lib.hid hR
  have p0:(0:Int)≤(p:Int):=by omega
  have p1:(p:Int)≤(Ls.length:Int):=by omega
  have p2:(Ls.length:Int)≤(c:Int):=by omega
  have d1:decide ((p:Int)<0)=false:=decide_eq_false (by omega)
  have d2:decide ((Ls.length:Int)<(p:Int))=false:=decide_eq_false (by omega)
  clear hR
  go_enter Tryz.func38,Tryz.ntmps38
  go_wp2_with fail
  refine (storeNew w).mono ?_
  rintro e W1 ⟨rfl,hw⟩
  have HE1:=Lib.hid (show Below w.heap.size w W1 by rw [← hw];exact ext_alloc (ext_new _ _) _)
  have HS1:=Lib.hid (show StateR W1 (w.heap.size+1) w.heap.size 0 [] by rw [← hw];exact ⟨Blk.new' _ _ _ (by simp),(MapR.new w).ext (ext_new _ _)⟩)
  clear hw
  obtain ⟨gs,hgs⟩:∃ gs,gs=w.heap.size+1:=⟨_,rfl⟩
  obtain ⟨gm,hgm⟩:∃ gm,gm=w.heap.size:=⟨_,rfl⟩
  have HGB:=Lib.hid (show w.heap.size≤gs∧w.heap.size≤gm by omega)
  rw [← hgs,← hgm] at HS1
  rw [← hgs]
  clear hgs hgm
  go_wp2
  go_loopg [8,22] p (fun gk _ iv W=>∃ k:Nat,k+gk=p∧iv=.int .i64 (k:Int)∧StateR W gs gm (k:Int) (stF (Ls.take k))∧Below w.heap.size w W)
  case atStart=>exact ⟨0,by omega,rfl,HS1.out,HE1.out⟩
  case round=>
    obtain ⟨k,hk,rfl,hS,hE⟩:=hrel
    have HS:=Lib.hid hS
    have HE:=Lib.hid hE
    clear hS hE HS1 HE1
    have e2:IntKind.i64.wrap ((k:Int)+1)=(k:Int)+1:=by rw [IntWalk.i64_in _ (by omega)]
    by_cases hlt:k<p
    · obtain ⟨l,hl⟩:∃ l,Ls[k]? = some l:=⟨_,List.getElem?_eq_getElem (by omega)⟩
      have HSU:=Lib.hid (stF_succ hl)
      have HST:=Lib.hid (HRN.out.step k l hl)
      obtain ⟨A',c',hA',_,hcell⟩:=HV.out
      injection hA' with hA1 _ hA3
      subst hA1
      subst hA3
      obtain ⟨b,rfl,hcell2⟩:=hcell (by omega)
      obtain ⟨z0,u,z1,hu⟩:=hcell2 k l hl
      have HU:=Lib.hid (hu.ext HE.out)
      have z0:=cell_ext z0 HE.out
      have z1:=cell_ext z1 HE.out
      rw [show (((1:Nat):Int)+(k:Int))=(k:Int)+1 by omega] at z0
      have q0:(0:Int)≤(k:Int):=by omega
      have q1:(k:Int)<(p:Int):=by omega
      obtain ⟨X,hX⟩:∃ X,X=wr.alloc (.cells #[.int .i64 ((k:Int)+1),u] 43):=⟨_,rfl⟩
      have HX:=Lib.hid hX
      have HEX:=Lib.hid (show Below wr.heap.size wr X by rw [hX];exact ext_new _ _)
      have HBX:=Lib.hid (show Blk X wr.heap.size 43 #[.int .i64 ((k:Int)+1),u] by rw [hX];exact Blk.new _ _ _)
      have HAP:=Lib.hid (applyR (stF (Ls.take k)) l u gs gm (k:Int) (by omega) X (HS.out.ext HEX.out) (HU.out.ext HEX.out) HST.out.1 HST.out.2.2.2 HST.out.2.2.1)
      clear hX hu hcell hcell2 hl
      obtain ⟨Au,cu,rfl,-⟩:=id HU.out
      go_upto_region 7 with (fail)
      rw [← HX.out]
      have x0:=HBX.out.cell 0
      have x1:=HBX.out.cell 1
      go_wp2_with fail
      refine HAP.out.mono ?_
      rintro e W2 (⟨h1,_⟩|⟨_,rfl,hS2,hx2⟩)
      · exact absurd h1 (by rw [HST.out.2.1];decide)
      · have HS2:=Lib.hid hS2
        have HE2:=Lib.hid (show Below w.heap.size w W2 from ExtS.below (ext_call HE.out HEX.out) (S:=fun j=>j=gs∨j=gm) (by rintro j (rfl|rfl);exact HGB.out.1;exact HGB.out.2) (ExtS.of_ext2 hx2 (.inl rfl) (.inr rfl)))
        clear hS2 hx2 x0 x1 z0 z1
        go_wp2
        go_roundg (gk-1)
        case measure=>omega
        case rel=>exact ⟨k+1,by omega,by go_num,by rw [HSU.out];exact HS2.out,HE2.out⟩
    · obtain rfl:k=p:=by omega
      go_wp2
      go_ret2
      exact ⟨gs,gm,rfl,HS.out,HGB.out.1,HGB.out.2,HE.out⟩
theorem atNo (Ls:List (List ChgT)) (v:Value) (p:Nat) (hp:Ls.length<p) (hp9:p≤1000) (w:World) (hv:RecsL w v 1 Ls) :
    Calls Tryz.prog 38 #[v,.int .i64 (p:Int)] w fun e w'=>e=.returned (.tuple #[.pointer none,.int .i64 40])∧w=w':=by
  obtain ⟨A,c,rfl,hc,-⟩:=hv
  have d1:decide ((p:Int)<0)=false:=decide_eq_false (by omega)
  have d2:decide ((Ls.length:Int)<(p:Int))=true:=decide_eq_true (by omega)
  go_enter Tryz.func38,Tryz.ntmps38
  go_wp2
  go_ret2
  exact ⟨rfl,rfl⟩
def trs (R:List (List ChgT × Nat × Nat)):List (List ChgT):=R.map (·.1)
theorem stateS (B gs gl:Nat) (rv hv:Value) (R:List (List ChgT × Nat × Nat)) (H:List (ByteArray × ByteArray)) (hR:R.length≤800) (hG:∀ x ∈ R,GoodL x.1) (hRun:RunG (trs R)) (p:Nat) (hp:p≤R.length) (w:World) (h0:w.cell? ⟨gs,0,none⟩=some (.pointer (some ⟨gl,0,none⟩))) (hl:LogG B w gl rv hv R H) :
    Calls Tryz.prog 9 #[.pointer (some ⟨gs,0,none⟩),.int .i64 (p:Int)] w fun e w'=>∃ ga gm,e=.returned (.tuple #[.pointer (some ⟨ga,0,none⟩),.bool true])∧StateR w' ga gm (p:Int) (stF ((trs R).take p))∧w.heap.size≤ga∧w.heap.size≤gm∧Below w.heap.size w w':=by
  obtain ⟨Ar,cr,hrv⟩:=own_shape hl.recs
  have HPS:=Lib.hid (show Calls Tryz.prog 6 #[.pointer (some ⟨gs,0,none⟩)] w fun e w'=>e=.returned (.int .i64 (R.length:Int))∧w=w' by
    have h9:=hl.log
    rw [hrv] at h9
    exact srvPos gs gl R.length cr Ar hv w h0 h9)
  have HRC:=Lib.hid (recordsS B gs gl 1 R.length rv hv R H (by omega) (by omega) (by omega) hG w h0 hl)
  have HRN:=Lib.hid hRun
  clear hrv hl h0 hG hRun
  go_enter Tryz.func9,Tryz.ntmps9
  go_wp2_with (go_at_call 6;refine HPS.out.mono ?_;rintro e w' ⟨rfl,hw'⟩;subst w')
  refine HRC.out.mono ?_
  rintro e W1 ⟨v,xs,rfl,hx0,hx1,hx2,hx3,hb⟩
  have hn:nRec 1 R.length R.length=R.length:=by unfold nRec;omega
  have hrl:=recsL_of hx1 hx0 (by omega) hx3
  rw [hn,Nat.sub_self,List.drop_zero,List.take_length] at hrl
  have HRL:=Lib.hid (show RecsL W1 v 1 (trs R) from hrl)
  have HE:=Lib.hid hb
  have htl:(trs R).length=R.length:=by simp [trs]
  have HA:=Lib.hid (atS (trs R) v p (by omega) (by omega) HRN.out W1 HRL.out)
  clear hx0 hx1 hx2 hx3 hb hn hrl htl
  go_wp2_with fail
  refine HA.out.mono ?_
  rintro e W2 ⟨ga,gm,rfl,hS,h1,h2,hb2⟩
  have HS:=Lib.hid hS
  have HE2:=Lib.hid (ext_call HE.out hb2)
  have hz:=HE.out.size
  clear hS hb2
  go_wp2
  go_ret2
  exact ⟨ga,gm,rfl,HS.out,by omega,by omega,HE2.out⟩
theorem stateNo (B gs gl:Nat) (rv hv:Value) (R:List (List ChgT × Nat × Nat)) (H:List (ByteArray × ByteArray)) (hR:R.length≤800) (hG:∀ x ∈ R,GoodL x.1) (p:Nat) (hp:R.length<p) (hp9:p≤1000) (w:World) (h0:w.cell? ⟨gs,0,none⟩=some (.pointer (some ⟨gl,0,none⟩))) (hl:LogG B w gl rv hv R H) :
    Calls Tryz.prog 9 #[.pointer (some ⟨gs,0,none⟩),.int .i64 (p:Int)] w fun e w'=>e=.returned (.tuple #[.pointer none,.bool false])∧Below w.heap.size w w':=by
  obtain ⟨Ar,cr,hrv⟩:=own_shape hl.recs
  have HPS:=Lib.hid (show Calls Tryz.prog 6 #[.pointer (some ⟨gs,0,none⟩)] w fun e w'=>e=.returned (.int .i64 (R.length:Int))∧w=w' by
    have h9:=hl.log
    rw [hrv] at h9
    exact srvPos gs gl R.length cr Ar hv w h0 h9)
  have HRC:=Lib.hid (recordsS B gs gl 1 R.length rv hv R H (by omega) (by omega) (by omega) hG w h0 hl)
  clear hrv hl h0 hG
  go_enter Tryz.func9,Tryz.ntmps9
  go_wp2_with (go_at_call 6;refine HPS.out.mono ?_;rintro e w' ⟨rfl,hw'⟩;subst w')
  refine HRC.out.mono ?_
  rintro e W1 ⟨v,xs,rfl,hx0,hx1,hx2,hx3,hb⟩
  have hn:nRec 1 R.length R.length=R.length:=by unfold nRec;omega
  have hrl:=recsL_of hx1 hx0 (by omega) hx3
  rw [hn,Nat.sub_self,List.drop_zero,List.take_length] at hrl
  have HRL:=Lib.hid (show RecsL W1 v 1 (trs R) from hrl)
  have HE:=Lib.hid hb
  have htl:(trs R).length=R.length:=by simp [trs]
  have HA:=Lib.hid (atNo (trs R) v p (by omega) hp9 W1 HRL.out)
  clear hx0 hx1 hx2 hx3 hb hn hrl htl
  go_wp2_with fail
  refine HA.out.mono ?_
  rintro e W2 ⟨rfl,rfl⟩
  go_wp2
  go_ret2
  exact ⟨rfl,HE.out⟩
end Go.Proofs.YtnajpjnnlocfgaaGreatDoor
