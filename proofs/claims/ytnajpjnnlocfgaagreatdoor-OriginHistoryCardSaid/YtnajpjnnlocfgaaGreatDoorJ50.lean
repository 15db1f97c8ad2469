/-
  package cachetierlaw27: built, with the states behind its first transactions; cachetierref10.Root of the empty state.
-/
import Derived.Test.YtnajpjnnlocfgaaGreatDoorJ27
import Derived.Test.YtnajpjnnlocfgaaGreatDoorJ49
set_option linter.unusedSimpArgs false
set_option linter.unusedVariables false
namespace Go.Proofs.YtnajpjnnlocfgaaGreatDoor
open Go.RowKit Go.Shelf
theorem pre_snoc {R:List (List ChgT × Nat × Nat)} {x:List ChgT × Nat × Nat} (h:∀ i,StOK (stF ((trs R).take i))) (hr:StOK (stF (trs (R++[x])))):∀ i,StOK (stF ((trs (R++[x])).take i)):=by
  intro i
  have ht:trs (R++[x])=trs R++[x.1]:=by simp [trs]
  by_cases hi:i≤R.length
  · rw [ht,List.take_append_of_le_length (by rw [trs_length];exact hi)]
    exact h i
  · rw [List.take_of_length_le (by rw [ht,List.length_append,trs_length,List.length_singleton];omega)]
    exact hr
theorem ordS_nil (t:Int) (j:Nat):ordS [] t j=[]:=by simp [ordS,selF]
theorem root_empty:rootF (List.replicate 16 zeroS)=stRootF []:=by
  unfold stRootF sumsF
  congr 1
  rw [show (List.range 16).map (sumF1 [])=(List.range 16).map (fun _=>zeroS) from List.map_congr_left fun k _=>by
    unfold sumF1 zeroS
    rw [ordS_nil]
    rfl]
  rfl
section
attribute [local go_sem ↓] Go.wp_at_zero Go.wp_at_succ
set_option maxRecDepth 100000 in
set_option maxHeartbeats 4000000 in
theorem builtH (X:List (List (Int × Int × Int))) (v:Value) (w:World) (hv:TabAt w v X) (hX:∀ T ∈ X,In64 T) (hR:RoundOK w):Calls Tryz.prog 5 #[v] w fun e w'=>
    ∃ gs gl gst gm gp gn rv hv R H rs,e=.returned (.tuple #[.pointer (some ⟨gs,0,none⟩),.int .i64 (R.length:Int)])∧((∀ i,StOK (stF ((trs R).take i)))∧H[0]? = some (zeros32,stRootF []))∧ServX w.heap.size w' gs gl gst gm (srvCells gl gst gp gn) rv hv R H rs∧R.length≤12∧w.heap.size≤gs∧Below w.heap.size w w':=by
  obtain ⟨A,c,rfl,hcell⟩:=hv
  have HC:=Lib.hid hcell
  have HX:=Lib.hid hX
  have HR:=Lib.hid hR
  clear hcell hX hR
  go_enter Tryz.func5,Tryz.ntmps5
  go_wp2_with fail
  refine (originNewX w HR.out).mono ?_
  rintro e W1 ⟨gs,gl,gst,gm,gp,gn,hv,rfl,hS,hgs,hb,-⟩
  obtain ⟨cs,hcs⟩:∃ cs,cs=srvCells gl gst gp gn:=⟨_,rfl⟩
  rw [← hcs] at hS
  have HCS:=Lib.hid hcs
  have HS1:=Lib.hid hS
  have HE1:=Lib.hid hb
  clear hS hb hcs
  go_wp2
  go_loopw [5,6,7,8] (fun nv iv _ _ W=>∃ (k:Nat) (rv hv:Value) (R:List (List ChgT × Nat × Nat)) (H:List (ByteArray × ByteArray)) (rs:List RowT),k≤12∧k≤X.length∧R.length≤k∧nv=.int .i64 (R.length:Int)∧iv=.int .i64 k∧StOK rs∧((∀ i,StOK (stF ((trs R).take i)))∧H[0]? = some (zeros32,stRootF []))∧ServX w.heap.size W gs gl gst gm cs rv hv R H rs∧Below w.heap.size w W) (fun _ iv _ _ _=>X.length-(intOf iv).toNat)
  case atStart=>exact ⟨0,_,_,[],_,_,by omega,by omega,by simp,rfl,rfl,StOK.nil,⟨fun i=>by rw [show trs []=[] from rfl,List.take_nil];exact StOK.nil,rfl⟩,HS1.out,HE1.out⟩
  case round=>
    obtain ⟨k,rv,hv,R,H,rs,hk12,hkX,hRk,rfl,rfl,hok,hpre,hS,hE⟩:=hrel
    have HPRE:=Lib.hid hpre
    clear hpre
    have HOK:=Lib.hid hok
    clear hok
    have HS:=Lib.hid hS
    have HE:=Lib.hid hE
    clear hS hE HS1 HE1
    have e2:IntKind.i64.wrap ((k:Int)+1)=(k:Int)+1:=by rw [IntWalk.i64_in _ (by omega)]
    have e3:IntKind.i64.wrap ((R.length:Int)+1)=(R.length:Int)+1:=by rw [IntWalk.i64_in _ (by omega)]
    by_cases hlt:k<X.length
    · by_cases hk:k<12
      · obtain ⟨b,off,rfl,hc⟩:=HC.out (by omega)
        obtain ⟨T,hT⟩:∃ T,X[k]? = some T:=⟨_,List.getElem?_eq_getElem hlt⟩
        obtain ⟨u,hu,ht⟩:=hc k T hT
        have z0:=cell_ext hu HE.out
        have HCH:=Lib.hid (changes_any T u wr (ht.ext HE.out) (HX.out T (List.mem_of_getElem? hT)))
        have q0:(0:Int)≤(k:Int):=by omega
        have q1:(k:Int)<(X.length:Int):=by omega
        have q2:(k:Int)<12:=by omega
        clear hu ht hc hT
        go_wp2_with fail
        refine HCH.out.mono ?_
        rintro e W2 ⟨u2,l,rfl,hl,hg,hnil,hb2⟩
        have HE2:=Lib.hid (ext_call HE.out hb2)
        obtain ⟨hok2,hgen2,hfit2⟩:=hg.fill HOK.out
        have HOK2:=Lib.hid (HOK.out.apply hgen2)
        obtain ⟨last,hlast⟩:∃ x,H[R.length]? = some x:=⟨_,List.getElem?_eq_getElem (by have:=HS.out.log.len;omega)⟩
        have HCM:=Lib.hid (commitX w HR.out gs gl gst gm cs rv hv R H rs last hlast l u2 W2 HE2.out (HS.out.ext hb2) (by omega) hl (by have:=hg.few;omega) (by have:=HOK2.out.few;omega))
        clear hok2 hgen2 hfit2 hlast
        have HS2:=Lib.hid (HS.out.ext hb2)
        clear hl hg hnil hb2 HCH HE HS
        go_wp2_with fail
        refine HCM.out.mono ?_
        rintro e W3 (⟨-,rfl,hb3⟩|⟨-,rfl,⟨rv2,hv2,g,d,hS3⟩,hb3,-⟩)
        · have HE3:=Lib.hid (ext_call HE2.out hb3)
          have HS3:=Lib.hid (HS2.out.ext hb3)
          clear hb3
          go_wp2
          go_roundw
          case rel=>exact ⟨k+1,rv,hv,R,H,rs,by omega,by omega,by omega,rfl,by go_num,HOK.out,HPRE.out,HS3.out,HE3.out⟩
          case measure=>simp [intOf];omega
        · have HE3:=Lib.hid hb3
          have HS3:=Lib.hid hS3
          clear hb3 hS3
          go_wp2
          go_roundw
          case rel=>exact ⟨k+1,rv2,hv2,R++[_],_,_,by omega,by omega,by simp;omega,by simp,by go_num,HOK2.out,⟨pre_snoc HPRE.out.1 (by rw [← HS3.out.rows];exact HOK2.out),by rw [List.getElem?_append_left (List.getElem?_eq_some_iff.1 HPRE.out.2).1];exact HPRE.out.2⟩,HS3.out,HE3.out⟩
          case measure=>simp [intOf];omega
      · have d1:decide ((k:Int)<(X.length:Int))=true:=by simp;omega
        have d2:decide ((k:Int)<12)=false:=by simp;omega
        go_wp2
        go_ret2
        exact ⟨gs,gl,gst,gm,gp,gn,rv,hv,R,H,rs,rfl,HPRE.out,by rw [← HCS.out];exact HS.out,by omega,hgs,HE.out⟩
    · have d1:decide ((k:Int)<(X.length:Int))=false:=by simp;omega
      go_wp2
      go_ret2
      exact ⟨gs,gl,gst,gm,gp,gn,rv,hv,R,H,rs,rfl,HPRE.out,by rw [← HCS.out];exact HS.out,by omega,hgs,HE.out⟩
end
end Go.Proofs.YtnajpjnnlocfgaaGreatDoor
