/-
  package digest: Extension at any list of at most 1000 entries.
-/
import Derived.Test.YtnajpjnnlocfgaaGreatDoorJ42
set_option linter.unusedSimpArgs false
set_option linter.unusedVariables false
namespace Go.Proofs.YtnajpjnnlocfgaaGreatDoor
open Go.RowKit Go.Shelf
attribute [local go_sem ↓] app_exec app_sem Go.wp_at_zero Go.wp_at_succ
def wholeW (l:List (ByteArray × Bool)):Bool:=l.all fun x => !x.2
def extP (L:List ByteArray) (M:Nat):List ByteArray:=((extW L.length L M).map (·.1)++if wholeW (extW L.length L M) then [] else [rootF (extEnd L.length L M)]).reverse
set_option maxHeartbeats 4000000 in
set_option maxRecDepth 100000 in
theorem ext_any (S:Nat→Prop) (v:Value) (L:List ByteArray) (M:Nat) (w:World) (hv:Strs S w v L) (hL:L.length≤1000) (h1M:1≤M) (hM:M≤L.length) (hSB:∀ b,S b→b<w.heap.size) (hsz:∀ x ∈ L,x.size≤100000) (hR:RoundOK w) :
    Calls Tryz.prog 83 #[v,.int .i64 (M:Int)] w (ProofPost w (extP L M)):=by
  have HV:=Lib.hid hv
  have HR:=Lib.hid hR
  have HSZ:=Lib.hid hsz
  have HSB:=Lib.hid hSB
  clear hSB
  obtain ⟨b,off,c,rfl,hc⟩:=hv.own (by omega)
  have d0:decide ((M:Int)<0)=false:=decide_eq_false (by omega)
  have d1:decide ((L.length:Int)<(M:Int))=false:=decide_eq_false (by omega)
  have d1':decide (L.length<M)=false:=decide_eq_false (by omega)
  have d2:((M:Int) == 0)=false:=by rw [beq_eq_false_iff_ne];omega
  have d2':¬ M=0:=by omega
  have d1n:¬ L.length<M:=by omega
  clear hv hR hsz
  go_enter Tryz.func83,Tryz.ntmps83
  go_wp2
  go_loopw [0,1,6,7,8,9,10] (fun lv iv ov bv _ _ _ W=>∃ (f i:Nat) (cur:List ByteArray) (way:List (ByteArray × Bool)),Strs S W lv cur∧(∀ x ∈ cur,x ∈ L)∧cur.length≤f∧cur.length≤1000∧iv=.int .i64 (i:Int)∧1≤i∧i≤cur.length∧extW L.length L M=way++extW f cur i∧extEnd L.length L M=extEnd f cur i∧bv=.bool (wholeW way)∧way.length+cur.length≤L.length∧W.ownsRow w.heap.size 9 1 ov way.length ((way.map (·.1)).map Value.string)∧Below w.heap.size w W) (fun lv _ _ _ _ _ _ _=>lenS lv)
  case atStart=>exact ⟨L.length,M,L,[],HV.out,fun x h=>h,Nat.le_refl _,hL,rfl,h1M,hM,rfl,rfl,rfl,by simp,World.ownsRow_nil _ _ _ _,ext_refl _⟩
  case round=>
    obtain ⟨f,i,cur,way,hs,hin,hf,h17,rfl,hi1,hi,hway,hend,rfl,hw17,hown,hE⟩:=hrel
    obtain ⟨b',off',c',rfl,hc'⟩:=hs.own (by omega)
    have HS:=Lib.hid hs
    have HO:=Lib.hid hown
    have HE:=Lib.hid hE
    have HIN:=Lib.hid hin
    clear hs hown hE
    obtain ⟨wb,hwb⟩:∃ wb,wb=wholeW way:=⟨_,rfl⟩
    rw [← hwb]
    have HWH:=Lib.hid hwb
    clear hwb
    by_cases h1:cur.length≤i
    · have d3:decide ((i:Int)<(cur.length:Int))=false:=decide_eq_false (by omega)
      have HW:=Lib.hid (show extW L.length L M=way by
        rw [hway]
        cases f with
        | zero=>omega
        | succ f=>unfold extW;rw [if_pos h1,List.append_nil])
      have HEN:=Lib.hid (show extEnd L.length L M=cur by
        rw [hend]
        cases f with
        | zero=>omega
        | succ f=>unfold extEnd;rw [if_pos h1])
      clear hway hend
      cases wb with
      | true=>
        have HRV:=Lib.hid (revStrs w.heap.size u6 (way.map (·.1)) wr (by rw [List.length_map];exact HO.out) (by rw [List.length_map];omega))
        obtain ⟨A6,c6,hv6⟩:=own_shape HO.out
        subst hv6
        go_wp2_with fail
        refine HRV.out.mono ?_
        rintro e W3 ⟨rfl,hs3,hb3⟩
        have HS3:=Lib.hid hs3
        have HE3:=Lib.hid (HE.out.trans hb3)
        clear hs3 hb3
        go_wp2
        go_ret2
        refine ⟨_,rfl,?_,HE3.out⟩
        unfold extP
        rw [HW.out,← HWH.out,if_pos rfl,List.append_nil]
        exact HS3.out
      | false=>
        obtain ⟨A6,c6,hv6⟩:=own_shape HO.out
        subst hv6
        go_wp2_with fail
        refine (root_any S (.slice (some ⟨b',off',none⟩) cur.length c') cur wr HS.out (by omega) (fun x hx=>HSZ.out x (HIN.out x hx)) (HR.out.below HE.out)).mono ?_
        rintro e W1 ⟨rfl,hb1⟩
        obtain ⟨rt,hrt⟩:∃ rt,rt=rootF cur:=⟨_,rfl⟩
        rw [← hrt]
        have HRT:=Lib.hid hrt
        have HE1:=Lib.hid (ext_call HE.out hb1)
        have HO1:=Lib.hid (own_ext HO.out hb1)
        have hz1:=HE1.out.size
        clear hb1 hrt
        obtain ⟨ha,W4,hW4,v4,hv4,ho4,hg4⟩:=appStr W1 w.heap.size (by omega) (.slice A6 way.length c6) way.length ((way.map (·.1)).map Value.string) HO1.out (by omega) rt
        have HE4:=Lib.hid (show Below w.heap.size w W4 from (ext_alloc HE1.out (.cells #[.string rt] 9)).grown hg4 (by simp;omega) (fun g hg=>(HO1.out.lt g hg).1))
        have HRV:=Lib.hid (revStrs w.heap.size v4 (way.map (·.1)++[rt]) W4 (by simpa using ho4) (by simp;omega))
        obtain ⟨A7,c7,hv7⟩:=own_shape ho4
        subst hv7
        clear ho4 hg4
        go_wp2_with fail
        refine HRV.out.mono ?_
        rintro e W3 ⟨rfl,hs3,hb3⟩
        have HS3:=Lib.hid hs3
        have HE3:=Lib.hid (HE4.out.trans hb3)
        clear hs3 hb3
        go_wp2
        go_ret2
        refine ⟨_,rfl,?_,HE3.out⟩
        unfold extP
        rw [HW.out,← HWH.out,if_neg (by decide),HEN.out,← HRT.out]
        exact HS3.out
    · have hb:=leftF_bounds cur.length (by omega) (by omega)
      obtain ⟨k,hk⟩:∃ k,k=leftF cur.length:=⟨_,rfl⟩
      have HLF:=Lib.hid (fun W:World=>left_any cur.length W (by omega) (by omega))
      rw [← hk] at hb HLF
      have HKE:=Lib.hid hk
      clear hk
      obtain ⟨f',rfl⟩:∃ f',f=f'+1:=⟨f-1,by omega⟩
      have hway2:extW L.length L M=way++(if k<i then (rootF (cur.take k),true)::extW f' (cur.drop k) (i-k) else (rootF (cur.drop k),false)::extW f' (cur.take k) i):=by
        rw [hway,HKE.out]
        conv=>lhs;unfold extW
        rw [if_neg h1]
      have hend2:extEnd L.length L M=(if k<i then extEnd f' (cur.drop k) (i-k) else extEnd f' (cur.take k) i):=by
        rw [hend,HKE.out]
        conv=>lhs;unfold extEnd
        rw [if_neg h1]
      clear hway hend
      have d3:decide ((i:Int)<(cur.length:Int))=true:=decide_eq_true (by omega)
      have q3:(i:Int)<(cur.length:Int):=by omega
      go_wp2_with fail
      refine (HLF.out _).mono ?_
      rintro e w' ⟨rfl,hw'⟩
      subst w'
      go_upto_region 9 with (fail)
      have p0:(0:Int)≤(k:Int):=by omega
      have p1:(k:Int)≤(cur.length:Int):=by omega
      have p2:(k:Int)≤(c':Int):=by omega
      have p3:(cur.length:Int)≤(c':Int):=by omega
      go_quiet (fail)
      go_upto_region 10 with (fail)
      obtain ⟨V,hV⟩:∃ V,V=wr.drewN nq:=⟨_,rfl⟩
      rw [← hV]
      have HEV:=Lib.hid (show Below wr.heap.size wr V by rw [hV];exact ext_drewN (ext_refl _) _)
      clear hV
      by_cases hik:k<i
      · rw [if_pos hik] at hway2 hend2
        have d4:decide ((k:Int)<(i:Int))=true:=decide_eq_true (by omega)
        have e5:IntKind.i64.wrap ((i:Int)-(k:Int))=((i-k:Nat):Int):=by rw [IntWalk.i64_in _ (by omega)];omega
        go_wp2_with fail
        refine (root_any S (.slice (some ⟨b',off',none⟩) k c') (cur.take k) V ((HS.out.takeS k (by omega)).below HEV.out) (by first|(rw [List.length_drop];omega)|(rw [List.length_take];omega)) (fun x hx=>HSZ.out x (HIN.out x (List.mem_of_mem_take hx))) (HR.out.below (ext_call HE.out HEV.out))).mono ?_
        rintro e W1 ⟨rfl,hb1⟩
        obtain ⟨rt,hrt⟩:∃ rt,rt=rootF (cur.take k):=⟨_,rfl⟩
        rw [← hrt]
        have HRT:=Lib.hid hrt
        have HE1:=Lib.hid (ext_call HEV.out hb1)
        have HO1:=Lib.hid (own_ext (own_ext HO.out HEV.out) hb1)
        have hz0:=HE.out.size
        have hz1:=HE1.out.size
        clear hb1 hrt
        obtain ⟨ha,W4,hW4,v4,hv4,ho4,hg4⟩:=appStr W1 w.heap.size (by omega) u6 way.length ((way.map (·.1)).map Value.string) HO1.out (by omega) rt
        have HO4:=Lib.hid ho4
        have HE4:=Lib.hid (show Below w.heap.size w W4 from (ext_alloc (ext_call HE.out HE1.out) (.cells #[.string rt] 9)).grown hg4 (by simp;omega) (fun g hg=>(HO1.out.lt g hg).1))
        have HP4:=Lib.hid (show Strs S W4 _ (cur.drop k) from Strs.ownGrown (((HS.out.dropS k (by omega)).below HE1.out).below (ext_new W1 (.cells #[.string rt] 9))) hg4 HSB.out (fun g hg=>(HO1.out.lt g hg).1))
        clear ho4 hg4
        go_wp2
        go_roundw
        case rel=>exact ⟨f',i-k,cur.drop k,way++[(rt,true)],HP4.out,fun x hx=>HIN.out x (List.mem_of_mem_drop hx),(by first|(rw [List.length_drop];omega)|(rw [List.length_take];omega)),(by first|(rw [List.length_drop];omega)|(rw [List.length_take];omega)),by go_num,by omega,(by first|(rw [List.length_drop];omega)|(rw [List.length_take];omega)),by rw [hway2,HRT.out,List.append_assoc];rfl,hend2,by simp [wholeW],by rw [List.length_append,List.length_singleton];first|(rw [List.length_drop];omega)|(rw [List.length_take];omega),by simpa using HO4.out,HE4.out⟩
        case measure=>simp [lenS];omega
      · rw [if_neg hik] at hway2 hend2
        have d4:decide ((k:Int)<(i:Int))=false:=decide_eq_false (by omega)
        go_wp2_with fail
        refine (root_any S (.slice (some ⟨b',off'+k,none⟩) (cur.length-k) (c'-k)) (cur.drop k) V ((HS.out.dropS k (by omega)).below HEV.out) (by first|(rw [List.length_drop];omega)|(rw [List.length_take];omega)) (fun x hx=>HSZ.out x (HIN.out x (List.mem_of_mem_drop hx))) (HR.out.below (ext_call HE.out HEV.out))).mono ?_
        rintro e W1 ⟨rfl,hb1⟩
        obtain ⟨rt,hrt⟩:∃ rt,rt=rootF (cur.drop k):=⟨_,rfl⟩
        rw [← hrt]
        have HRT:=Lib.hid hrt
        have HE1:=Lib.hid (ext_call HEV.out hb1)
        have HO1:=Lib.hid (own_ext (own_ext HO.out HEV.out) hb1)
        have hz0:=HE.out.size
        have hz1:=HE1.out.size
        clear hb1 hrt
        obtain ⟨ha,W4,hW4,v4,hv4,ho4,hg4⟩:=appStr W1 w.heap.size (by omega) u6 way.length ((way.map (·.1)).map Value.string) HO1.out (by omega) rt
        have HO4:=Lib.hid ho4
        have HE4:=Lib.hid (show Below w.heap.size w W4 from (ext_alloc (ext_call HE.out HE1.out) (.cells #[.string rt] 9)).grown hg4 (by simp;omega) (fun g hg=>(HO1.out.lt g hg).1))
        have HP4:=Lib.hid (show Strs S W4 _ (cur.take k) from Strs.ownGrown (((HS.out.takeS k (by omega)).below HE1.out).below (ext_new W1 (.cells #[.string rt] 9))) hg4 HSB.out (fun g hg=>(HO1.out.lt g hg).1))
        clear ho4 hg4
        go_wp2
        go_roundw
        case rel=>exact ⟨f',i,cur.take k,way++[(rt,false)],HP4.out,fun x hx=>HIN.out x (List.mem_of_mem_take hx),(by first|(rw [List.length_drop];omega)|(rw [List.length_take];omega)),(by first|(rw [List.length_drop];omega)|(rw [List.length_take];omega)),by go_num,by omega,(by first|(rw [List.length_drop];omega)|(rw [List.length_take];omega)),by rw [hway2,HRT.out,List.append_assoc];rfl,hend2,by rw [HWH.out];simp [wholeW],by rw [List.length_append,List.length_singleton];first|(rw [List.length_drop];omega)|(rw [List.length_take];omega),by simpa using HO4.out,HE4.out⟩
        case measure=>simp [lenS];omega
end Go.Proofs.YtnajpjnnlocfgaaGreatDoor
