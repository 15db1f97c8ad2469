/-
  package logtree: Follows at any records.
-/
import Derived.Test.YtnajpjnnlocfgaaGreatDoorJ45
set_option linter.unusedSimpArgs false
set_option linter.unusedVariables false
namespace Go.Proofs.YtnajpjnnlocfgaaGreatDoor
open Go.RowKit Go.Shelf
attribute [local go_sem ↓] Go.wp_at_zero Go.wp_at_succ
def chainK (p:Nat) (c:ByteArray) (Ls:List (List ChgT)):Nat→ByteArray
  | 0=>c
  | k+1=>chainF (chainK p c Ls k) (encG (encRec (((p+k:Nat):Int)+1) (Ls.getD k [])))
theorem chainK_size (p:Nat) (c:ByteArray) (Ls:List (List ChgT)) (hc:c.size=32):∀ k,(chainK p c Ls k).size=32
  | 0=>hc
  | _+1=>chainF_size _ _
set_option maxRecDepth 100000 in
set_option maxHeartbeats 2000000 in
theorem followsG (Ls:List (List ChgT)) (u:Value) (p q:Nat) (hq:q=p+Ls.length) (h60:q≤60) (ca sa cb sb:ByteArray) (hca:ca.size=32) (hsa:sa.size=32) (hcb:cb.size=32) (hsb:sb.size=32) (hch:cb=chainK p ca Ls Ls.length) (hst:Ls.length=0→sa=sb)
    (hG:∀ l ∈ Ls,ChgsOK l∧validF l=true) (w:World) (hu:RecsL w u (p+1) Ls) (hR:RoundOK w) :
    Calls Tryz.prog 23 #[.agg #[.int .i64 (p:Int),.string ca,.string sa],u,.agg #[.int .i64 (q:Int),.string cb,.string sb]] w fun e w'=>e=.returned (.bool true)∧Below w.heap.size w w':=by
  have HVA:=Lib.hid (fun W:World=>logValid p ca sa (by omega) hca hsa W)
  have HVB:=Lib.hid (fun W:World=>logValid q cb sb (by omega) hcb hsb W)
  have HA0:=Lib.hid ((Blk.new w 30 #[.int .i64 (p:Int),.string ca,.string sa]).alloc (.cells #[.int .i64 (q:Int),.string cb,.string sb] 30))
  have HB0:=Lib.hid (Blk.new' (w.alloc (.cells #[.int .i64 (p:Int),.string ca,.string sa] 30)) 30 #[.int .i64 (q:Int),.string cb,.string sb] (b:=w.heap.size+1) (by simp))
  have HU:=Lib.hid hu
  have HR:=Lib.hid hR
  have HG:=Lib.hid hG
  have HST:=Lib.hid hst
  have HCH:=Lib.hid hch
  have HQ:=Lib.hid hq
  have HSZ:=Lib.hid (And.intro hca (And.intro hsa hsb))
  obtain ⟨A,c,rfl,hc,-⟩:=hu
  obtain ⟨n,hn⟩:∃ n,n=Ls.length:=⟨_,rfl⟩
  have HN:=Lib.hid hn
  rw [← hn] at hc ⊢
  have HQ2:=Lib.hid (show q=p+n by rw [hq,hn])
  clear hca hsa hcb hsb hch hst hG hR hq hn
  go_enter Tryz.func23,Tryz.ntmps23
  go_wp2
  go_step3
  go_wp2_with fail
  refine (HVA.out _).mono ?_
  rintro e W1 ⟨rfl,hb1⟩
  have HA1:=Lib.hid (HA0.out.ext hb1)
  have HB1:=Lib.hid (HB0.out.ext hb1)
  have HE1:=Lib.hid (ext_call (ext_alloc (ext_new w _) _) hb1)
  have c0:=HB1.out.cell 0;have c1:=HB1.out.cell 1;have c2:=HB1.out.cell 2
  clear hb1
  go_wp2_with fail
  refine (HVB.out _).mono ?_
  rintro e W2 ⟨rfl,hb2⟩
  have HA2:=Lib.hid (HA1.out.ext hb2)
  have HB2:=Lib.hid (HB1.out.ext hb2)
  have HE2:=Lib.hid (ext_call HE1.out hb2)
  clear hb2 c0 c1 c2
  obtain ⟨ga,hga⟩:∃ ga,ga=w.heap.size:=⟨_,rfl⟩
  obtain ⟨gb,hgb⟩:∃ gb,gb=w.heap.size+1:=⟨_,rfl⟩
  rw [← hga] at HA2
  rw [← hgb] at HB2
  rw [← hgb,← hga]
  have HGA:=Lib.hid (show w.heap.size≤ga∧gb≠ga by omega)
  clear hga hgb HA0 HB0 HA1 HB1 HE1
  go_wp2
  go_step3
  go_wp2
  go_loopw [7,9,10,11,20] (fun bv _ _ _ iv W=>∃ k:Nat,k≤n∧iv=.int .i64 (k:Int)∧bv=.bool true∧Blk W ga 30 #[.int .i64 ((p+k:Nat):Int),.string (chainK p ca Ls k),.string (if k=0 then sa else sb)]∧Blk W gb 30 #[.int .i64 (q:Int),.string cb,.string sb]∧Below w.heap.size w W) (fun _ _ _ _ iv _=>n-(intOf iv).toNat)
  case atStart=>exact ⟨0,Nat.zero_le _,rfl,rfl,HA2.out,HB2.out,HE2.out⟩
  case round=>
    obtain ⟨k,hk,rfl,rfl,hA,hB,hE⟩:=hrel
    obtain ⟨ch,hchk⟩:∃ ch,ch=chainK p ca Ls k:=⟨_,rfl⟩
    obtain ⟨st,hstk⟩:∃ st,st=(if k=0 then sa else sb):=⟨_,rfl⟩
    obtain ⟨m,hm⟩:∃ m,m=p+k:=⟨_,rfl⟩
    have hch32:ch.size=32:=by rw [hchk];exact chainK_size p ca Ls HSZ.out.1 k
    have hst32:st.size=32:=by rw [hstk];split;exact HSZ.out.2.1;exact HSZ.out.2.2
    rw [← hchk,← hstk,← hm] at hA
    have HA:=Lib.hid hA
    have HB:=Lib.hid hB
    have HE:=Lib.hid hE
    have HM:=Lib.hid hm
    have HCK:=Lib.hid hchk
    have HSK:=Lib.hid hstk
    clear hA hB hE hm hchk hstk HA2 HB2 HE2
    by_cases hlt:k<n
    · obtain ⟨l,hl⟩:∃ l,Ls[k]? = some l:=⟨_,List.getElem?_eq_getElem (by rw [← HN.out];exact hlt)⟩
      have hgl:=HG.out l (List.mem_of_getElem? hl)
      obtain ⟨A',c',hA',_,hcell⟩:=HU.out
      injection hA' with h1 _ h3
      subst h1 h3
      obtain ⟨b,rfl,hcell2⟩:=hcell (by rw [← HN.out];omega)
      obtain ⟨z0,u2,z1,hu2⟩:=hcell2 k l hl
      have z0:=cell_ext z0 HE.out
      have z1:=cell_ext z1 HE.out
      rw [show (((p+1:Nat):Int)+(k:Int))=(m:Int)+1 by have:=HM.out;omega] at z0
      have HNX:=Lib.hid (fun (W:World) (h:Below wr.heap.size wr W)=>logNextX m (by have:=HM.out;have:=HQ2.out;omega) l u2 ch st sb hch32 hst32 HSZ.out.2.2 W ((hu2.ext HE.out).ext h) hgl.1 hgl.2 ((HR.out.below HE.out).below h))
      have HCN:=Lib.hid (show chainK p ca Ls (k+1)=chainF ch (encG (encRec ((m:Int)+1) l)) by
        show chainF (chainK p ca Ls k) _=_
        rw [← HCK.out,HM.out,List.getD_eq_getElem?_getD,hl]
        rfl)
      generalize chainF ch (encG (encRec ((m:Int)+1) l))=cn at *
      obtain ⟨Au,cu,rfl,-⟩:=hu2
      have q0:(0:Int)≤(k:Int):=by omega
      have q1:(k:Int)<(n:Int):=by omega
      have d1:decide ((k:Int)<(n:Int))=true:=decide_eq_true (by omega)
      have hk60:k<60:=by have:=HQ2.out;omega
      have e2:IntKind.i64.wrap ((k:Int)+1)=(k:Int)+1:=IntWalk.i64_in _ (by omega)
      have HAl:=Lib.hid (HA.out.alloc (.cells #[.int .i64 ((m:Int)+1),.slice Au l.length cu] 43))
      have HBl:=Lib.hid (HB.out.alloc (.cells #[.int .i64 ((m:Int)+1),.slice Au l.length cu] 43))
      have a0:=HAl.out.cell 0;have a1:=HAl.out.cell 1;have a2:=HAl.out.cell 2
      have b0:=HBl.out.cell 0;have b1:=HBl.out.cell 1;have b2:=HBl.out.cell 2
      clear hcell hcell2 hl hgl
      go_wp2_with fail
      refine (HNX.out _ (ext_new wr _)).mono ?_
      rintro e W3 ⟨rfl,hb3⟩
      have hA3:=HAl.out.ext hb3
      have hB3:=HBl.out.ext hb3
      have HE3:=Lib.hid (ext_call (ext_alloc HE.out _) hb3)
      have hA4:=hA3.alloc (.cells #[.int .i64 ((m:Int)+1),.string cn,.string sb] 30)
      have HA4:=Lib.hid hA4
      have HB4:=Lib.hid (hB3.alloc (.cells #[.int .i64 ((m:Int)+1),.string cn,.string sb] 30))
      clear a0 a1 a2 b0 b1 b2 hb3 hA3 hB3 z0 z1
      have a0:=hA4.cell 0;have a1:=hA4.cell 1;have a2:=hA4.cell 2
      have f0:=hA4.frozen 0
      have f1:=hA4.frozen 1
      have f2:=hA4.frozen 2
      clear hA4
      go_wp2
      go_roundw
      case rel=>
        refine ⟨k+1,by omega,by go_num,rfl,?_,?_,?_⟩
        · rw [HCN.out,if_neg (Nat.succ_ne_zero k),show (((p+(k+1):Nat)):Int)=(m:Int)+1 by have:=HM.out;omega]
          exact ((HA4.out.set_ 0 _).set_ 1 _).set_ 2 _
        · exact ((HB4.out.far (p:=⟨ga,0,none⟩) HGA.out.2 _).far (p:=⟨ga,1,none⟩) HGA.out.2 _).far (p:=⟨ga,2,none⟩) HGA.out.2 _
        · exact ext_set (ext_set (ext_set (ext_alloc HE3.out _) HGA.out.1 _) HGA.out.1 _) HGA.out.1 _
      case measure=>simp [intOf];omega
    · have hkn:k=n:=by omega
      have hmq:m=q:=by have:=HM.out;have:=HQ2.out;omega
      have hcc:ch=cb:=by rw [HCK.out,hkn,HN.out];exact HCH.out.symm
      have hss:st=sb:=by
        rw [HSK.out]
        split
        · exact HST.out (by rw [← HN.out];omega)
        · rfl
      subst hmq hcc hss
      have d1:decide ((k:Int)<(n:Int))=false:=decide_eq_false (by omega)
      have a0:=HA.out.cell 0;have a1:=HA.out.cell 1;have a2:=HA.out.cell 2
      have b0:=HB.out.cell 0;have b1:=HB.out.cell 1;have b2:=HB.out.cell 2
      go_wp2
      rw [Exit.noGoto_ret]
      go_ret
      exact ⟨rfl,HE.out⟩
end Go.Proofs.YtnajpjnnlocfgaaGreatDoor
