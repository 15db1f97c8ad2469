/-
  package statetree: Verify at a proof that Prove returns.
-/
import Derived.Test.YtimoapjhepmehaaGreatDoorP33
import Derived.Test.YtimoapjhepmehaaGreatDoorP16
import Derived.Test.YtimoapjhepmehaaGreatDoorP14
import Derived.Deep.Cut
set_option linter.unusedSimpArgs false
set_option linter.unusedVariables false
namespace Go.Proofs.YtimoapjhepmehaaGreatDoor
open Go.RowKit Go.Shelf
attribute [local go_sem ↓] Go.wp_at_zero Go.wp_at_succ
theorem baT_ext {a b:ByteArray} (h:a.data.toList=b.data.toList):a=b:=by
  obtain ⟨⟨x⟩⟩:=a
  obtain ⟨⟨y⟩⟩:=b
  simp at h
  rw [h]
theorem baT_len (a:ByteArray):a.size=a.data.toList.length:=by simp
theorem baT_app (a b:ByteArray):(a++b).data.toList=a.data.toList++b.data.toList:=by simp
theorem baT_left (a b:ByteArray) (n:Nat) (h:a.size=n):(a++b).extract 0 n=a:=by
  refine baT_ext ?_
  rw [Lib.extract_data,List.drop_zero,Nat.sub_zero,baT_app,← h,baT_len a,List.take_left]
theorem baT_right (a b:ByteArray) (n m:Nat) (h:a.size=n) (h2:a.size+b.size=m):(a++b).extract n m=b:=by
  refine baT_ext ?_
  rw [Lib.extract_data,baT_app,← h2,← h,Nat.add_sub_cancel_left,baT_len a,List.drop_left,baT_len b,List.take_length]
set_option maxRecDepth 100000 in
set_option maxHeartbeats 4000000 in
theorem stVerifyG (rs:List RowT) (hrs:∀ r ∈ rs,r.ok) (hsz:rs.length≤60) (hap:Apart rs) (T j:Nat) (hT:T≤3) (hj:j<4) (lo hi:Int) (hlh:lo≤hi) (a b d:Value) (w:World) (hs:RPS (fun _=>True) w (proveF rs (T:Int) j lo hi) a b d) (hR:RoundOK w) :
    Calls Tryz.prog 60 #[.string (stRootF rs),.agg ((proveF rs (T:Int) j lo hi).nums a b d)] w fun e w'=>e=.returned (.bool true)∧Below w.heap.size w w':=by
  have hcp:=proveF_comp hap hrs hsz (T:Int) (by omega) j hj lo hi hlh
  have HPT:=Lib.hid (proveF_paths rs (T:Int) j lo hi)
  have HPL:=Lib.hid (proveF_pathsLen rs (T:Int) j lo hi)
  have HOKR:=Lib.hid (fun r hr=>(hcp.ok r hr).1)
  have HZERO:=Lib.hid hcp.zero
  have HCM:=Lib.hid (fun (W:World) (h:RowsL W a (proveF rs (T:Int) j lo hi).rows)=>complete_yes (proveF rs (T:Int) j lo hi) j hcp a b d W h)
  have HRW:=Lib.hid (fun (W:World) (h:Below w.heap.size w W)=>hs.rows.rowsL.ext h)
  have HPW:=Lib.hid (hs.paths)
  have hroots:=hs.roots
  have hol:(ordS rs (T:Int) j).length=(ordR rs (T:Int) j).length:=by unfold ordS ordR;rw [List.length_map]
  have holl:(ordR rs (T:Int) j).length≤60:=by rw [← hol];exact Nat.le_trans (ordS_length _ _ _) hsz
  have hfl:fromN rs (T:Int) j lo+(proveF rs (T:Int) j lo hi).rows.length≤(ordR rs (T:Int) j).length:=by
    have h1:=hcp.len
    have h2:(proveF rs (T:Int) j lo hi).n=((ordR rs (T:Int) j).length:Int):=rfl
    have h3:(proveF rs (T:Int) j lo hi).f=(fromN rs (T:Int) j lo:Int):=rfl
    omega
  have hroots2:Strs (fun _=>True) w d (sumsF rs):=hroots
  have hsl:(sumsF rs).length=16:=by simp [sumsF]
  have HRT:=Lib.hid (fun (W:World) (h:Below w.heap.size w W)=>show Calls Tryz.prog 43 #[d] W fun e w'=>e=.returned (.string (stRootF rs))∧Below W.heap.size W w' from root_any (fun _=>True) _ (sumsF rs) W (hroots2.below h) (by omega) (fun x hx=>by
    obtain ⟨k,_,rfl⟩:=List.mem_map.1 hx
    exact Nat.le_trans (sumF1_size rs k) (by omega)) (hR.below h))
  have HRN:=Lib.hid (fun (W:World) (h:Below w.heap.size w W)=>show Calls Tryz.prog 43 #[.slice none 0 0] W fun e w'=>e=.returned (.string (rootF []))∧Below W.heap.size W w' from root_any (fun _=>True) _ [] W (Strs.nil_ _ _) (by simp) (by simp) (hR.below h))
  obtain ⟨N,hN⟩:∃ N,N=(ordR rs (T:Int) j).length:=⟨_,rfl⟩
  obtain ⟨F,hF⟩:∃ F,F=fromN rs (T:Int) j lo:=⟨_,rfl⟩
  have hs1:sumF1 rs (4*T+j)=byteS (2*N)++rootF (ordS rs (T:Int) j):=by
    unfold sumF1
    rw [show (4*T+j) / 4=T by omega,show (4*T+j) % 4=j by omega,hol,hN]
  have hat:(sumsF rs)[4*T+j]? = some (sumF1 rs (4*T+j)):=by
    unfold sumsF
    rw [List.getElem?_map,List.getElem?_range (by omega)]
    rfl
  obtain ⟨bd,od,cd,hv,hcc,_,hcell⟩:=hroots2.at_ (k:=4*T+j) (by omega)
  rw [List.getD_eq_getElem?_getD,hat,Option.getD_some] at hcell
  rw [hsl] at hv hcc
  subst hv
  have HVF:=Lib.hid (fun (v:Value) (I:Nat) (s:ByteArray) (W:World) (hI:(ordS rs (T:Int) j)[I]? = some s) (hv:Strs (fun x=>x<W.heap.size) W v (pathF (ordS rs (T:Int) j) I)) (hz:s.size≤500000) (hRW:RoundOK W)=>show Calls Tryz.prog 64 #[.string (rootF (ordS rs (T:Int) j)),.int .i64 (N:Int),.int .i64 (I:Int),.string s,v] W fun e w'=>e=.returned (.bool true)∧Below W.heap.size W w' from by
    have h9:=verify_any (fun x=>x<W.heap.size) v (rootF (ordS rs (T:Int) j)) s (ordS rs (T:Int) j) I W (by omega) hI hv (fun b hb=>hb) hz hRW
    rw [show ((ordS rs (T:Int) j).length:Int)=(N:Int) by rw [hol,hN]] at h9
    exact h9.mono (fun e w' ⟨h1,h2⟩=>⟨by rw [h1];simp,h2⟩))
  have HNZ:=Lib.hid (show N=0→rootF (ordS rs (T:Int) j)=rootF [] from fun h=>by
    rw [List.length_eq_zero_iff.1 (show (ordS rs (T:Int) j).length=0 by omega)])
  have HEN:=Lib.hid (fun (r:RowT) (h:r.ok) (W:World)=>rowEncode_G r h W)
  have HES:=Lib.hid (fun (r:RowT)=>show encRowF r=encG [r.t,r.k,r.a,r.b,r.c] from rfl)
  have HEZ:=Lib.hid (fun (r:RowT)=>show (encRowF r).size≤500000 from by have h1:=encG_le [r.t,r.k,r.a,r.b,r.c];simp only [List.length_cons,List.length_nil] at h1;show (encG _).size≤_;omega)
  have HPI:=Lib.hid (fun W:World=>putInt_any N (by omega) W)
  have hx1:(sumF1 rs (4*T+j)).extract 0 1=byteS (2*N):=by rw [hs1];exact baT_left _ _ 1 (byteS_size _)
  have hx2:(sumF1 rs (4*T+j)).extract 1 33=rootF (ordS rs (T:Int) j):=by rw [hs1];exact baT_right _ _ 1 33 (byteS_size _) (by rw [byteS_size,rootF_size])
  have hs33:(sumF1 rs (4*T+j)).size=33:=by rw [hs1,ByteArray.size_append,byteS_size,rootF_size]
  have hn1:(byteS (2*N)).size=1:=byteS_size _
  have hnum:(proveF rs (T:Int) j lo hi).nums a b (.slice (some ⟨bd,od,none⟩) 16 cd)=#[.int .i64 (T:Int),.int .i64 (j:Int),.int .i64 lo,.int .i64 hi,.int .i64 (N:Int),.int .i64 (F:Int),a,b,.slice (some ⟨bd,od,none⟩) 16 cd]:=by rw [hN,hF];rfl
  rw [hnum] at HCM ⊢
  rw [← hF] at HPT hfl
  rw [← hN] at hfl holl
  have HZN:=Lib.hid (show (proveF rs (T:Int) j lo hi).rows=[]→N=0 from fun h=>by
    have h1:=HZERO.out h
    have h2:(proveF rs (T:Int) j lo hi).n=((ordR rs (T:Int) j).length:Int):=rfl
    omega)
  generalize (proveF rs (T:Int) j lo hi).rows=l at *
  generalize (proveF rs (T:Int) j lo hi).paths=ps at *
  generalize pathF (ordS rs (T:Int) j)=pf at *
  generalize ordS rs (T:Int) j=os at *
  generalize sumF1 rs (4*T+j)=s at *
  generalize byteS (2*N)=bn at *
  generalize rootF os=rt at *
  generalize rootF []=rn at *
  generalize stRootF rs=sr at *
  have HLP:=Lib.hid (show ps.length=l.length from HPL.out)
  have HCL:=Lib.hid hcell
  have HR:=Lib.hid hR
  obtain ⟨Aa,ca,ha,-⟩:=HRW.out w (ext_refl w)
  obtain ⟨Ab,cb,hb,-⟩:=id HPW.out
  rw [HPL.out] at hb
  subst ha hb
  have hbd:=lt_of_cell (p:=⟨bd,od+(4*T+j),none⟩) hcell
  have hHE:=ext_new w (.cells #[.int .i64 (T:Int),.int .i64 (j:Int),.int .i64 lo,.int .i64 hi,.int .i64 (N:Int),.int .i64 (F:Int),.slice Aa l.length ca,.slice Ab l.length cb,.slice (some ⟨bd,od,none⟩) 16 cd] 126)
  have HE:=Lib.hid hHE
  have HB:=Lib.hid (Blk.new w 126 #[.int .i64 (T:Int),.int .i64 (j:Int),.int .i64 lo,.int .i64 hi,.int .i64 (N:Int),.int .i64 (F:Int),.slice Aa l.length ca,.slice Ab l.length cb,.slice (some ⟨bd,od,none⟩) 16 cd])
  clear hcp hs hroots hroots2 hR hHE hol hs1 hat hN hF hnum hcell hap hrs hsl HPL HZERO
  go_enter Tryz.func60,Tryz.ntmps60
  go_wp2_with fail
  refine (HCM.out _ (HRW.out _ HE.out)).mono ?_
  rintro e W1 ⟨rfl,hb1⟩
  have HE1:=Lib.hid (ext_call HE.out hb1)
  have HB1:=Lib.hid (HB.out.ext hb1)
  have p4:=HB1.out.cell 4
  have p6:=HB1.out.cell 6
  have p7:=HB1.out.cell 7
  have p8:=HB1.out.cell 8
  clear hb1
  go_wp2_with fail
  refine (HRT.out _ HE1.out).mono ?_
  rintro e W2 ⟨rfl,hb2⟩
  have HE2:=Lib.hid (ext_call HE1.out hb2)
  have HB2:=Lib.hid (HB1.out.ext hb2)
  have p4:=HB2.out.cell 4
  clear hb2 p6 p7 p8
  go_wp2_with fail
  refine (HPI.out _).mono ?_
  rintro e W3 ⟨rfl,hb3⟩
  have HE3:=Lib.hid (ext_call HE2.out hb3)
  have HB3:=Lib.hid (HB2.out.ext hb3)
  have hB3:=HB3.out
  have p0:=hB3.cell 0;have p1:=hB3.cell 1;have p2:=hB3.cell 2;have p3:=hB3.cell 3;have p4:=hB3.cell 4;have p5:=hB3.cell 5;have p6:=hB3.cell 6;have p7:=hB3.cell 7;have p8:=hB3.cell 8
  have hcl:=cell_ext HCL.out HE3.out
  have hw4:IntKind.i64.wrap (4*(T:Int))=4*(T:Int):=IntWalk.i64_in _ (by omega)
  have hw5:IntKind.i64.wrap (4*(T:Int)+(j:Int))=4*(T:Int)+(j:Int):=IntWalk.i64_in _ (by omega)
  have hi0:(0:Int)≤4*(T:Int)+(j:Int):=by omega
  have hi1:4*(T:Int)+(j:Int)<16:=by omega
  have htn:(4*(T:Int)+(j:Int)).toNat=4*T+j:=by omega
  clear hb3 hB3
  by_cases hN0:N=0
  · have hrt:=HNZ.out hN0
    have d0:((N:Int) == 0)=true:=by rw [hN0];rfl
    go_wp2_with (go_at_call 43;refine (HRN.out _ HE3.out).mono ?_;rintro e W4 ⟨rfl,hb4⟩;have HE4:=Lib.hid (ext_call HE3.out hb4);clear hb4)
    go_ret
    exact ⟨rfl,HE4.out⟩
  · have d0:((N:Int) == 0)=false:=by rw [beq_eq_false_iff_ne];omega
    go_wp2
    clear p0 p1 p2 p3 p4 p5 p6 p7 p8 hcl
    go_loopw [9,10,11,12,81] (fun _ _ _ _ iv W=>∃ k:Nat,k≤l.length∧iv=.int .i64 (k:Int)∧Below W3.heap.size W3 W) (fun _ _ _ _ iv _=>l.length-(intOf iv).toNat)
    case atStart=>exact ⟨0,Nat.zero_le _,rfl,ext_refl _⟩
    case round=>
      obtain ⟨k,hk,rfl,hE⟩:=hrel
      have HEr:=Lib.hid (ext_call HE3.out hE)
      have HBr:=Lib.hid (HB3.out.ext hE)
      have HEs:=Lib.hid hE
      clear hE
      by_cases hlt:k<l.length
      · obtain ⟨r,hr⟩:∃ r,l[k]? = some r:=⟨_,List.getElem?_eq_getElem hlt⟩
        obtain ⟨hp1,hp2⟩:=HPT.out k r hr
        have hrk:=HOKR.out r (List.mem_of_getElem? hr)
        obtain ⟨g,d',hA,hg,r0,r1,r2,r3,r4⟩:=(HRW.out _ HEr.out).c5 hr
        injection hA with hA hn' hd'
        subst hA;subst hd'
        obtain ⟨Ap,cp,hAp,hpp⟩:=HPW.out
        injection hAp with hA1 hA2 hA3
        subst hA1;subst hA3
        obtain ⟨gp,rfl,hgpl,-,hpc⟩:=hpp (by rw [HLP.out];omega)
        obtain ⟨u,hu,hst⟩:=hpc k _ hp1
        obtain ⟨Au,cu,rfl,-⟩:=id hst
        have HU:=Lib.hid hu
        have HVX:=Lib.hid (fun (W:World) (h:Below w.heap.size w W)=>show Calls Tryz.prog 64 #[.string rt,.int .i64 (N:Int),.int .i64 ((F:Int)+(k:Int)),.string (encRowF r),.slice Au (pf (F+k)).length cu] W fun e w'=>e=.returned (.bool true)∧Below W.heap.size W w' from HVF.out _ (F+k) (encRowF r) W hp2 ((hst.below h).mono (fun b _ hb=>hb)) (HEZ.out r) (HR.out.below h))
        have HEX:=Lib.hid (fun W:World=>HEN.out r hrk W)
        rw [← HES.out r] at HEX
        obtain ⟨er,her⟩:∃ er,er=encRowF r:=⟨_,rfl⟩
        rw [← her] at HEX HVX
        obtain ⟨pl,hpl⟩:∃ pl,pl=(pf (F+k)).length:=⟨_,rfl⟩
        rw [← hpl] at HVX HU
        obtain ⟨y0,y1,y2,y3,y4⟩:=r
        dsimp only at *
        have q0:(0:Int)≤(k:Int):=by omega
        have q1:(k:Int)<(l.length:Int):=by omega
        have q2:decide ((k:Int)<(l.length:Int))=true:=decide_eq_true q1
        have e2:IntKind.i64.wrap ((k:Int)+1)=(k:Int)+1:=IntWalk.i64_in _ (by omega)
        have e3:IntKind.i64.wrap ((F:Int)+(k:Int))=(F:Int)+(k:Int):=IntWalk.i64_in _ (by omega)
        clear hr hp1 hp2 hrk hg hn' hA2 hpp hpc hst hu her hpl
        go_wp2_with fail
        refine (HEX.out _).mono ?_
        rintro e W4 ⟨rfl,hb4⟩
        have HE4:=Lib.hid (ext_call (ext_alloc HEr.out (.cells #[.int .i64 y0,.int .i64 y1,.int .i64 y2,.int .i64 y3,.int .i64 y4] 67)) hb4)
        have HE5:=Lib.hid (ext_call (ext_alloc HEs.out (.cells #[.int .i64 y0,.int .i64 y1,.int .i64 y2,.int .i64 y3,.int .i64 y4] 67)) hb4)
        have HB4:=Lib.hid ((HBr.out.alloc (.cells #[.int .i64 y0,.int .i64 y1,.int .i64 y2,.int .i64 y3,.int .i64 y4] 67)).ext hb4)
        have p4:=HB4.out.cell 4
        have p5:=HB4.out.cell 5
        have p7:=HB4.out.cell 7
        have hpu:=cell_ext HU.out HE4.out
        clear hb4 r0 r1 r2 r3 r4
        go_wp2
        go_still_tail 13,(by kernel_rfl)
        change wpList _ _ _ _ _ W4.drew
        go_wp2_with (go_at_call 64;refine (HVX.out _ HE4.out.drew).mono ?_;rintro e W5 ⟨rfl,hb5⟩;have HE6:=Lib.hid (ext_call HE5.out (undrew hb5));clear hb5)
        go_roundw
        case rel=>exact ⟨k+1,by omega,by go_num,HE6.out⟩
        case measure=>simp [intOf];omega
      · have q2:decide ((k:Int)<(l.length:Int))=false:=decide_eq_false (by omega)
        go_wp2
        go_ret
        exact ⟨rfl,HEr.out⟩
end Go.Proofs.YtimoapjhepmehaaGreatDoor
