/-
  Part 20 of 54: the contracts that the proof of the last part uses; each stands under its own head.
-/
import Derived.Test.YtimoapjhepmehaaGreatDoorP17
import Derived.Test.YtimoapjhepmehaaGreatDoorP14
import Derived.Test.YtimoapjhepmehaaGreatDoorP18
import Derived.BigQuiet
import Derived.Deep.Cut
import Derived.Deep.CutRange
set_option linter.unusedSimpArgs false
set_option linter.unusedVariables false
set_option maxHeartbeats 4000000
set_option maxRecDepth 100000
namespace Go.Proofs.YtimoapjhepmehaaGreatDoor
section
open Go.RowKit Go.Shelf
attribute [local go_sem ↓] app_exec app_sem Go.wp_at_zero Go.wp_at_succ
def wholeW (l:List (ByteArray × Bool)):Bool:=l.all fun x => !x.2
def extP (L:List ByteArray) (M:Nat):List ByteArray:=((extW L.length L M).map (·.1)++if wholeW (extW L.length L M) then [] else [rootF (extEnd L.length L M)]).reverse
theorem ext_any (S:Nat→Prop) (v:Value) (L:List ByteArray) (M:Nat) (w:World) (hv:Strs S w v L) (hL:L.length≤1000) (h1M:1≤M) (hM:M≤L.length) (hSB:∀ b,S b→b<w.heap.size) (hsz:∀ x ∈ L,x.size≤100000) (hR:RoundOK w) :
    Calls Tryz.prog 57 #[v,.int .i64 (M:Int)] w (ProofPost w (extP L M)):=by
  have HV:=Lib.hid hv
  have HR:=Lib.hid hR
  have HSZ:=Lib.hid hsz
  have HSB:=Lib.hid hSB
  clear hSB
  obtain ⟨b,off,c,rfl,hc⟩:=hv.own (by omega)
  have d0:decide ((M:Int)<0)=false:=decide_eq_false (by omega)
  have d1:decide ((L.length:Int)<(M:Int))=false:=decide_eq_false (by omega)
  have d1':decide (L.length<M)=false:=decide_eq_false (by omega)
  have d2:((M:Int) == 0)=false:=by rw [beq_eq_false_iff_ne];omega
  have d2':¬ M=0:=by omega
  have d1n:¬ L.length<M:=by omega
  clear hv hR hsz
  go_enter Tryz.func57,Tryz.ntmps57
  go_wp2
  go_loopw [0,1,6,7,8,9,10] (fun lv iv ov bv _ _ _ W=>∃ (f i:Nat) (cur:List ByteArray) (way:List (ByteArray × Bool)),Strs S W lv cur∧(∀ x ∈ cur,x ∈ L)∧cur.length≤f∧cur.length≤1000∧iv=.int .i64 (i:Int)∧1≤i∧i≤cur.length∧extW L.length L M=way++extW f cur i∧extEnd L.length L M=extEnd f cur i∧bv=.bool (wholeW way)∧way.length+cur.length≤L.length∧W.ownsRow w.heap.size 9 1 ov way.length ((way.map (·.1)).map Value.string)∧Below w.heap.size w W) (fun lv _ _ _ _ _ _ _=>lenS lv)
  case atStart=>exact ⟨L.length,M,L,[],HV.out,fun x h=>h,Nat.le_refl _,hL,rfl,h1M,hM,rfl,rfl,rfl,by simp,World.ownsRow_nil _ _ _ _,ext_refl _⟩
  case round=>
    obtain ⟨f,i,cur,way,hs,hin,hf,h17,rfl,hi1,hi,hway,hend,rfl,hw17,hown,hE⟩:=hrel
    obtain ⟨b',off',c',rfl,hc'⟩:=hs.own (by omega)
    have HS:=Lib.hid hs
    have HO:=Lib.hid hown
    have HE:=Lib.hid hE
    have HIN:=Lib.hid hin
    clear hs hown hE
    obtain ⟨wb,hwb⟩:∃ wb,wb=wholeW way:=⟨_,rfl⟩
    rw [← hwb]
    have HWH:=Lib.hid hwb
    clear hwb
    by_cases h1:cur.length≤i
    · have d3:decide ((i:Int)<(cur.length:Int))=false:=decide_eq_false (by omega)
      have HW:=Lib.hid (show extW L.length L M=way by
        rw [hway]
        cases f with
        | zero=>omega
        | succ f=>unfold extW;rw [if_pos h1,List.append_nil])
      have HEN:=Lib.hid (show extEnd L.length L M=cur by
        rw [hend]
        cases f with
        | zero=>omega
        | succ f=>unfold extEnd;rw [if_pos h1])
      clear hway hend
      cases wb with
      | true=>
        have HRV:=Lib.hid (revStrs w.heap.size u6 (way.map (·.1)) wr (by rw [List.length_map];exact HO.out) (by rw [List.length_map];omega))
        obtain ⟨A6,c6,hv6⟩:=own_shape HO.out
        subst hv6
        go_wp2_with fail
        refine HRV.out.mono ?_
        rintro e W3 ⟨rfl,hs3,hb3⟩
        have HS3:=Lib.hid hs3
        have HE3:=Lib.hid (HE.out.trans hb3)
        clear hs3 hb3
        go_wp2
        go_ret2
        refine ⟨_,rfl,?_,HE3.out⟩
        unfold extP
        rw [HW.out,← HWH.out,if_pos rfl,List.append_nil]
        exact HS3.out
      | false=>
        obtain ⟨A6,c6,hv6⟩:=own_shape HO.out
        subst hv6
        go_wp2_with fail
        refine (root_any S (.slice (some ⟨b',off',none⟩) cur.length c') cur wr HS.out (by omega) (fun x hx=>HSZ.out x (HIN.out x hx)) (HR.out.below HE.out)).mono ?_
        rintro e W1 ⟨rfl,hb1⟩
        obtain ⟨rt,hrt⟩:∃ rt,rt=rootF cur:=⟨_,rfl⟩
        rw [← hrt]
        have HRT:=Lib.hid hrt
        have HE1:=Lib.hid (ext_call HE.out hb1)
        have HO1:=Lib.hid (own_ext HO.out hb1)
        have hz1:=HE1.out.size
        clear hb1 hrt
        obtain ⟨ha,W4,hW4,v4,hv4,ho4,hg4⟩:=appStr W1 w.heap.size (by omega) (.slice A6 way.length c6) way.length ((way.map (·.1)).map Value.string) HO1.out (by omega) rt
        have HE4:=Lib.hid (show Below w.heap.size w W4 from (ext_alloc HE1.out (.cells #[.string rt] 9)).grown hg4 (by simp;omega) (fun g hg=>(HO1.out.lt g hg).1))
        have HRV:=Lib.hid (revStrs w.heap.size v4 (way.map (·.1)++[rt]) W4 (by simpa using ho4) (by simp;omega))
        obtain ⟨A7,c7,hv7⟩:=own_shape ho4
        subst hv7
        clear ho4 hg4
        go_wp2_with fail
        refine HRV.out.mono ?_
        rintro e W3 ⟨rfl,hs3,hb3⟩
        have HS3:=Lib.hid hs3
        have HE3:=Lib.hid (HE4.out.trans hb3)
        clear hs3 hb3
        go_wp2
        go_ret2
        refine ⟨_,rfl,?_,HE3.out⟩
        unfold extP
        rw [HW.out,← HWH.out,if_neg (by decide),HEN.out,← HRT.out]
        exact HS3.out
    · have hb:=leftF_bounds cur.length (by omega) (by omega)
      obtain ⟨k,hk⟩:∃ k,k=leftF cur.length:=⟨_,rfl⟩
      have HLF:=Lib.hid (fun W:World=>left_any cur.length W (by omega) (by omega))
      rw [← hk] at hb HLF
      have HKE:=Lib.hid hk
      clear hk
      obtain ⟨f',rfl⟩:∃ f',f=f'+1:=⟨f-1,by omega⟩
      have hway2:extW L.length L M=way++(if k<i then (rootF (cur.take k),true)::extW f' (cur.drop k) (i-k) else (rootF (cur.drop k),false)::extW f' (cur.take k) i):=by
        rw [hway,HKE.out]
        conv=>lhs;unfold extW
        rw [if_neg h1]
      have hend2:extEnd L.length L M=(if k<i then extEnd f' (cur.drop k) (i-k) else extEnd f' (cur.take k) i):=by
        rw [hend,HKE.out]
        conv=>lhs;unfold extEnd
        rw [if_neg h1]
      clear hway hend
      have d3:decide ((i:Int)<(cur.length:Int))=true:=decide_eq_true (by omega)
      have q3:(i:Int)<(cur.length:Int):=by omega
      go_wp2_with fail
      refine (HLF.out _).mono ?_
      rintro e w' ⟨rfl,hw'⟩
      subst w'
      go_upto_region 9 with (fail)
      have p0:(0:Int)≤(k:Int):=by omega
      have p1:(k:Int)≤(cur.length:Int):=by omega
      have p2:(k:Int)≤(c':Int):=by omega
      have p3:(cur.length:Int)≤(c':Int):=by omega
      go_quiet (fail)
      go_upto_region 10 with (fail)
      obtain ⟨V,hV⟩:∃ V,V=wr.drewN nq:=⟨_,rfl⟩
      rw [← hV]
      have HEV:=Lib.hid (show Below wr.heap.size wr V by rw [hV];exact ext_drewN (ext_refl _) _)
      clear hV
      by_cases hik:k<i
      · rw [if_pos hik] at hway2 hend2
        have d4:decide ((k:Int)<(i:Int))=true:=decide_eq_true (by omega)
        have e5:IntKind.i64.wrap ((i:Int)-(k:Int))=((i-k:Nat):Int):=by rw [IntWalk.i64_in _ (by omega)];omega
        go_wp2_with fail
        refine (root_any S (.slice (some ⟨b',off',none⟩) k c') (cur.take k) V ((HS.out.takeS k (by omega)).below HEV.out) (by first|(rw [List.length_drop];omega)|(rw [List.length_take];omega)) (fun x hx=>HSZ.out x (HIN.out x (List.mem_of_mem_take hx))) (HR.out.below (ext_call HE.out HEV.out))).mono ?_
        rintro e W1 ⟨rfl,hb1⟩
        obtain ⟨rt,hrt⟩:∃ rt,rt=rootF (cur.take k):=⟨_,rfl⟩
        rw [← hrt]
        have HRT:=Lib.hid hrt
        have HE1:=Lib.hid (ext_call HEV.out hb1)
        have HO1:=Lib.hid (own_ext (own_ext HO.out HEV.out) hb1)
        have hz0:=HE.out.size
        have hz1:=HE1.out.size
        clear hb1 hrt
        obtain ⟨ha,W4,hW4,v4,hv4,ho4,hg4⟩:=appStr W1 w.heap.size (by omega) u6 way.length ((way.map (·.1)).map Value.string) HO1.out (by omega) rt
        have HO4:=Lib.hid ho4
        have HE4:=Lib.hid (show Below w.heap.size w W4 from (ext_alloc (ext_call HE.out HE1.out) (.cells #[.string rt] 9)).grown hg4 (by simp;omega) (fun g hg=>(HO1.out.lt g hg).1))
        have HP4:=Lib.hid (show Strs S W4 _ (cur.drop k) from Strs.ownGrown (((HS.out.dropS k (by omega)).below HE1.out).below (ext_new W1 (.cells #[.string rt] 9))) hg4 HSB.out (fun g hg=>(HO1.out.lt g hg).1))
        clear ho4 hg4
        go_wp2
        go_roundw
        case rel=>exact ⟨f',i-k,cur.drop k,way++[(rt,true)],HP4.out,fun x hx=>HIN.out x (List.mem_of_mem_drop hx),(by first|(rw [List.length_drop];omega)|(rw [List.length_take];omega)),(by first|(rw [List.length_drop];omega)|(rw [List.length_take];omega)),by go_num,by omega,(by first|(rw [List.length_drop];omega)|(rw [List.length_take];omega)),by rw [hway2,HRT.out,List.append_assoc];rfl,hend2,by simp [wholeW],by rw [List.length_append,List.length_singleton];first|(rw [List.length_drop];omega)|(rw [List.length_take];omega),by simpa using HO4.out,HE4.out⟩
        case measure=>simp [lenS];omega
      · rw [if_neg hik] at hway2 hend2
        have d4:decide ((k:Int)<(i:Int))=false:=decide_eq_false (by omega)
        go_wp2_with fail
        refine (root_any S (.slice (some ⟨b',off'+k,none⟩) (cur.length-k) (c'-k)) (cur.drop k) V ((HS.out.dropS k (by omega)).below HEV.out) (by first|(rw [List.length_drop];omega)|(rw [List.length_take];omega)) (fun x hx=>HSZ.out x (HIN.out x (List.mem_of_mem_drop hx))) (HR.out.below (ext_call HE.out HEV.out))).mono ?_
        rintro e W1 ⟨rfl,hb1⟩
        obtain ⟨rt,hrt⟩:∃ rt,rt=rootF (cur.drop k):=⟨_,rfl⟩
        rw [← hrt]
        have HRT:=Lib.hid hrt
        have HE1:=Lib.hid (ext_call HEV.out hb1)
        have HO1:=Lib.hid (own_ext (own_ext HO.out HEV.out) hb1)
        have hz0:=HE.out.size
        have hz1:=HE1.out.size
        clear hb1 hrt
        obtain ⟨ha,W4,hW4,v4,hv4,ho4,hg4⟩:=appStr W1 w.heap.size (by omega) u6 way.length ((way.map (·.1)).map Value.string) HO1.out (by omega) rt
        have HO4:=Lib.hid ho4
        have HE4:=Lib.hid (show Below w.heap.size w W4 from (ext_alloc (ext_call HE.out HE1.out) (.cells #[.string rt] 9)).grown hg4 (by simp;omega) (fun g hg=>(HO1.out.lt g hg).1))
        have HP4:=Lib.hid (show Strs S W4 _ (cur.take k) from Strs.ownGrown (((HS.out.takeS k (by omega)).below HE1.out).below (ext_new W1 (.cells #[.string rt] 9))) hg4 HSB.out (fun g hg=>(HO1.out.lt g hg).1))
        clear ho4 hg4
        go_wp2
        go_roundw
        case rel=>exact ⟨f',i,cur.take k,way++[(rt,false)],HP4.out,fun x hx=>HIN.out x (List.mem_of_mem_take hx),(by first|(rw [List.length_drop];omega)|(rw [List.length_take];omega)),(by first|(rw [List.length_drop];omega)|(rw [List.length_take];omega)),by go_num,by omega,(by first|(rw [List.length_drop];omega)|(rw [List.length_take];omega)),by rw [hway2,HRT.out,List.append_assoc];rfl,hend2,by rw [HWH.out];simp [wholeW],by rw [List.length_append,List.length_singleton];first|(rw [List.length_drop];omega)|(rw [List.length_take];omega),by simpa using HO4.out,HE4.out⟩
        case measure=>simp [lenS];omega
end
section
open Go.RowKit Go.Shelf
attribute [local go_sem ↓] app_exec app_sem Go.wp_at_zero Go.wp_at_succ
attribute [local go_sem] Oper.semAt_some
theorem extW_sizes:∀ (f:Nat) (l:List ByteArray) (m:Nat) (x:ByteArray × Bool),x ∈ extW f l m→x.1.size=32
  | 0,_,_,_,h=>by cases h
  | f + 1, l, m, x, h => by
    unfold extW at h
    split at h
    · cases h
    · split at h
      · rcases List.mem_cons.1 h with rfl|h
        · exact rootF_size _
        · exact extW_sizes f _ _ x h
      · rcases List.mem_cons.1 h with rfl|h
        · exact rootF_size _
        · exact extW_sizes f _ _ x h
theorem extW_length:∀ (f:Nat) (l:List ByteArray) (m:Nat),(extW f l m).length≤f
  | 0,_,_=>Nat.le_refl _
  | f + 1, l, m => by
    unfold extW
    split
    · exact Nat.zero_le _
    · split
      · exact Nat.succ_le_succ (extW_length f _ _)
      · exact Nat.succ_le_succ (extW_length f _ _)
theorem accT_size (ys:List (ByteArray × Bool)) (z:ByteArray) (hz:z.size=32):∀ k,k≤ys.length→(accM stpF ys z k).size=32
  | 0,_=>by rw [accM_zero];exact hz
  | k+1,h=>by
    rw [accM_succ stpF (by omega)]
    unfold stpF
    split
    · exact nodeF_size _ _
    · exact accT_size ys z hz k (by omega)
theorem verExt_same (S:Nat→Prop) (v:Value) (root:ByteArray) (n:Nat) (hn:1≤n∧n≤100000) (w:World) (hv:Strs S w v []) (hr:root.size=32) :
    Calls Tryz.prog 65 #[.string root,.int .i64 (n:Int),.string root,.int .i64 (n:Int),v] w fun e w'=>e=.returned (.bool true)∧Below w.heap.size w w':=by
  have HAll:=Lib.hid (all_any S v [] w hv (by simp))
  have hio:((root.size:Int) == 32)=true:=by rw [hr];rfl
  have HIO:=Lib.hid (fun W:World=>digest_isDigest root W)
  rw [hio] at HIO
  clear hio hr
  obtain ⟨A,c,rfl,hc,_⟩:=hv
  have d0:decide ((n:Int)<0)=false:=decide_eq_false (by omega)
  have d1:((n:Int) == 0)=false:=by rw [beq_eq_false_iff_ne];omega
  have d1':¬ n=0:=by omega
  go_enter Tryz.func65,Tryz.ntmps65
  go_wp2_with fail
  refine HAll.out.mono ?_
  rintro e W1 ⟨rfl,rfl⟩
  rw [show allF []=true from rfl]
  go_wp2_with fail
  refine (HIO.out _).mono ?_
  rintro e W1 ⟨rfl,rfl⟩
  go_wp2_with fail
  refine (HIO.out _).mono ?_
  rintro e W1 ⟨rfl,rfl⟩
  go_wp2
  go_ret
  exact ⟨by simp,ext_refl _⟩
theorem verExt_less (S:Nat→Prop) (v:Value) (L:List ByteArray) (M:Nat) (w:World) (hL:L.length≤1000) (h1M:1≤M) (hM:M<L.length) (hv:Strs S w v (extP L M)) (hSB:∀ b,S b→b<w.heap.size) (hR:RoundOK w) :
    Calls Tryz.prog 65 #[.string (rootF (L.take M)),.int .i64 (M:Int),.string (rootF L),.int .i64 (L.length:Int),v] w fun e w'=>e=.returned (.bool true)∧Below w.heap.size w w':=by
  obtain ⟨hl1,hl2,hl3⟩:=ext_laws L.length L M (Nat.le_refl _) hL h1M (by omega)
  have HSZ:=Lib.hid (extW_sizes L.length L M)
  have hwl:(extW L.length L M).length≤1000:=Nat.le_trans (extW_length _ _ _) hL
  unfold extP at hv
  obtain ⟨W0,hW0⟩:∃ W0,W0=extW L.length L M:=⟨_,rfl⟩
  obtain ⟨EN,hEN⟩:∃ EN,EN=extEnd L.length L M:=⟨_,rfl⟩
  rw [← hW0,← hEN] at hv hl1 hl2 hl3
  rw [← hW0] at hwl HSZ
  obtain ⟨z,hz⟩:∃ z,z=rootF EN:=⟨_,rfl⟩
  have hz32:z.size=32:=by rw [hz];exact rootF_size _
  rw [← hz] at hv hl1 hl2
  obtain ⟨old,hold⟩:∃ old,old=rootF (L.take M):=⟨_,rfl⟩
  obtain ⟨rt,hrt⟩:∃ rt,rt=rootF L:=⟨_,rfl⟩
  have ho32:old.size=32:=by rw [hold];exact rootF_size _
  have hr32:rt.size=32:=by rw [hrt];exact rootF_size _
  have HWO:=Lib.hid (show wholeW W0=true→z=old from fun h=>by rw [hz,hold,hl3 h])
  rw [← hold,← hrt]
  rw [← hold] at hl2
  rw [← hrt] at hl1
  have HL1:=Lib.hid hl1
  have HL2:=Lib.hid hl2
  obtain ⟨E,hE⟩:∃ E,E=(if wholeW W0 then [] else [z]):=⟨_,rfl⟩
  have hE1:E.length≤1:=by rw [hE];split <;> simp
  rw [← hE] at hv
  have HEE:=Lib.hid hE
  have hlen:((W0.map (·.1)++E).reverse).length≤1001:=by simp;omega
  have hall:allF ((W0.map (·.1)++E).reverse)=true:=allF_of _ (fun x hx=>by
    rcases List.mem_append.1 (List.mem_reverse.1 hx) with h|h
    · obtain ⟨y,hy,rfl⟩:=List.mem_map.1 h
      exact HSZ.out y hy
    · rw [hE] at h
      split at h
      · cases h
      · rw [List.mem_singleton.1 h];exact hz32)
  have HAll:=Lib.hid (all_any S v ((W0.map (·.1)++E).reverse) w hv (by omega))
  rw [hall] at HAll
  have hio:((old.size:Int) == 32)=true:=by rw [ho32];rfl
  have hir:((rt.size:Int) == 32)=true:=by rw [hr32];rfl
  have HIO:=Lib.hid (fun W:World=>digest_isDigest old W)
  have HIR:=Lib.hid (fun W:World=>digest_isDigest rt W)
  rw [hio] at HIO
  rw [hir] at HIR
  have HSB:=Lib.hid hSB
  have HR:=Lib.hid hR
  have HV:=Lib.hid hv
  have HW0:=Lib.hid hW0
  have HEN:=Lib.hid hEN
  have HZ:=Lib.hid hz
  have hr1:=hR.lt
  obtain ⟨nl,hnl⟩:∃ nl,nl=((W0.map (·.1)++E).reverse).length:=⟨_,rfl⟩
  obtain ⟨A,c,hv1,hc,_⟩:=hv
  rw [← hnl] at hv1 hc
  have HNL:=Lib.hid hnl
  subst hv1
  have d0:decide ((M:Int)<0)=false:=decide_eq_false (by omega)
  have d1:decide ((L.length:Int)<(M:Int))=false:=decide_eq_false (by omega)
  have d1':decide (L.length<M)=false:=decide_eq_false (by omega)
  have d1n:¬ L.length<M:=by omega
  have d2:((M:Int) == 0)=false:=by rw [beq_eq_false_iff_ne];omega
  have d2':¬ M=0:=by omega
  have d3:((M:Int) == (L.length:Int))=false:=by rw [beq_eq_false_iff_ne];omega
  have d3':¬ M=L.length:=by omega
  clear hR hSB hW0 hEN hz hold hrt hE hl1 hl2 hl3 hio hir hnl
  refine (callsIn_wide (n:=3)).1 (callsIn_of_wp_marks Tryz.func65 rfl trivial (wpIn_wide.2 ?_) rfl)
  simp only [Tryz.ntmps65,List.size_toArray,List.length_cons,List.length_nil,Nat.reduceAdd,Nat.reduceSub,Array.replicate_succ,Array.replicate_zero,List.push_toArray,List.append_toArray,List.nil_append,List.cons_append]
  go_wp2_with fail
  refine HAll.out.mono ?_
  rintro e W1 ⟨rfl,rfl⟩
  go_wp2_with fail
  refine (HIO.out _).mono ?_
  rintro e W1 ⟨rfl,rfl⟩
  go_wp2_with fail
  refine (HIR.out _).mono ?_
  rintro e W1 ⟨rfl,rfl⟩
  go_wp2
  go_loopw [1,3,4,11,12,13,14,15,16] (fun mv nv pv ov bv _ _ _ _ W=>∃ (f i:Nat) (cur:List ByteArray) (way rest:List (ByteArray × Bool)),cur.length≤f∧cur.length≤1000∧mv=.int .i64 (i:Int)∧nv=.int .i64 (cur.length:Int)∧1≤i∧i≤cur.length∧W0=way++rest∧rest=extW f cur i∧EN=extEnd f cur i∧bv=.bool (wholeW way)∧Strs S W pv ((rest.map (·.1)++E).reverse)∧W.ownsRow w.heap.size 203 2 ov way.length (sdC way)∧Below w.heap.size w W) (fun _ nv _ _ _ _ _ _ _ _=>(intOf nv).toNat)
  case atStart=>exact ⟨L.length,M,L,[],W0,Nat.le_refl _,hL,rfl,rfl,h1M,by omega,rfl,HW0.out,HEN.out,rfl,by rw [← HNL.out] at *;exact HV.out,World.ownsRow_nil _ _ _ _,ext_refl _⟩
  case round =>
    obtain ⟨f,i,cur,way,rest,hf,h17,rfl,rfl,hi1,hi,hsplit,hrest,hend,rfl,hs,hown,hE⟩:=hrel
    have HO:=Lib.hid hown
    have HE:=Lib.hid hE
    have HS:=Lib.hid hs
    have HSP:=Lib.hid hsplit
    have hwr:way.length+rest.length≤1000:=by rw [hsplit,List.length_append] at hwl;exact hwl
    obtain ⟨wb,hwb⟩:∃ wb,wb=wholeW way:=⟨_,rfl⟩
    rw [← hwb]
    have HWB:=Lib.hid hwb
    clear hown hE hsplit hwb
    by_cases h1:cur.length≤i
    · have hr0 : rest = [] := by
        rw [hrest]
        cases f with
        | zero=>rfl
        | succ f=>unfold extW;rw [if_pos h1]
      subst hr0
      have hec:EN=cur:=by
        rw [hend]
        cases f with
        | zero=>rfl
        | succ f=>unfold extEnd;rw [if_pos h1]
      clear hrest hend hec
      have hW:W0=way:=by have:=HSP.out;rwa [List.append_nil] at this
      have HW:=Lib.hid hW
      obtain ⟨Aw,cw,hwv⟩:=own_shape HO.out
      subst hwv
      have d4:decide ((i:Int)<(cur.length:Int))=false:=decide_eq_false (by omega)
      have d4':decide (i<cur.length)=false:=decide_eq_false (by omega)
      have hE2:E=if wb then [] else [z]:=by rw [HEE.out,hW,← HWB.out]
      have hzo:wb=true→z=old:=fun h=>HWO.out (by rw [hW,← HWB.out];exact h)
      rw [show ((([]:List (ByteArray × Bool)).map (·.1))++E).reverse=E by
        rw [hE2]
        cases wb <;> rfl] at HS hs
      have hRw:=HR.out.below HE.out
      have hz0:=HE.out.size
      clear hs hW
      cases wb
      case' true=>
        rw [if_pos rfl] at hE2
        subst hE2
        obtain ⟨Ap,cp,hpv,-,-⟩:=id HS.out
        have hpv:u4=.slice Ap 0 cp:=hpv
        subst hpv
        have hzo:=hzo rfl
        subst hzo
        go_upto_region 20 with (fail)
        obtain ⟨g,hg⟩:∃ g,g=wr.heap.size:=⟨_,rfl⟩
        obtain ⟨X,hX⟩:∃ X,X=(wr.alloc (.cells #[.string z] 9)).alloc (.cells #[.string z] 9):=⟨_,rfl⟩
        rw [← hX,← hg]
        have hB1:Blk X g 9 #[.string z]:=by rw [hX,hg];exact (Blk.new _ _ _).alloc _
        have hB2:Blk X (g+1) 9 #[.string z]:=by rw [hX,hg];exact Blk.new' _ _ _ (by simp)
        have hEX:Below wr.heap.size wr X:=by rw [hX];exact ext_alloc (ext_new _ _) _
        have HB1:=Lib.hid hB1
        have HB2:=Lib.hid hB2
        have HEX:=Lib.hid (ext_call HE.out hEX)
        have HRX:=Lib.hid (hRw.below hEX)
        have HOX:=Lib.hid (own_extB HO.out hEX)
        have hgw:w.heap.size≤g:=by omega
        have hgx:g+2≤X.heap.size:=by rw [hX,hg];simp
        have HG:=Lib.hid hg
        clear hX hB1 hB2 hEX HS hRw HE HO hg
        generalize X=V at *
      case' false=>
        rw [if_neg (by decide)] at hE2
        subst hE2
        clear hzo
        obtain ⟨bp,op,cp,hpv,hcp,hSb,hcz⟩:=HS.out.at_ (k:=0) (by simp)
        have hpv:u4=.slice (some ⟨bp,op,none⟩) 1 cp:=hpv
        subst hpv
        have hcz:wr.cell? ⟨bp,op,none⟩=some (.string z):=hcz
        have hltp:bp<wr.heap.size:=lt_of_cell hcz
        go_upto_region 20 with (fail)
        obtain ⟨g,hg⟩:∃ g,g=wr.heap.size:=⟨_,rfl⟩
        obtain ⟨X,hX⟩:∃ X,X=(wr.alloc (.cells #[.string old] 9)).alloc (.cells #[.string old] 9):=⟨_,rfl⟩
        rw [← hX,← hg]
        have hB1:Blk X g 9 #[.string old]:=by rw [hX,hg];exact (Blk.new _ _ _).alloc _
        have hB2:Blk X (g+1) 9 #[.string old]:=by rw [hX,hg];exact Blk.new' _ _ _ (by simp)
        have hEX:Below wr.heap.size wr X:=by rw [hX];exact ext_alloc (ext_new _ _) _
        have cz:=cell_ext hcz hEX
        have b1:=hB1.cell 0
        have b2:=hB2.cell 0
        have f1:=hB1.frozen 0
        have f2:=hB2.frozen 0
        have hne1:(⟨g,0,none⟩:Addr)≠⟨bp,op,none⟩:=by intro e;injection e with e _ _;omega
        have hne2:(⟨g+1,0,none⟩:Addr)≠⟨bp,op,none⟩:=by intro e;injection e with e _ _;omega
        have HB1:=Lib.hid (show Blk ((X.setCell ⟨g,0,none⟩ (.string z)).setCell ⟨g+1,0,none⟩ (.string z)).drew g 9 #[.string z] from ((hB1.set_ 0 _).far (p:=⟨g+1,0,none⟩) (by show g≠g+1;omega) _).drew)
        have HB2:=Lib.hid (show Blk ((X.setCell ⟨g,0,none⟩ (.string z)).setCell ⟨g+1,0,none⟩ (.string z)).drew (g+1) 9 #[.string z] from ((hB2.far (p:=⟨g,0,none⟩) (by show g+1≠g;omega) _).set_ 0 _).drew)
        have hEV:Below wr.heap.size wr ((X.setCell ⟨g,0,none⟩ (.string z)).setCell ⟨g+1,0,none⟩ (.string z)).drew:=(ext_set (ext_set hEX (by show wr.heap.size≤g;omega) _) (by show wr.heap.size≤g+1;omega) _).drew
        have HEX:=Lib.hid (ext_call HE.out hEV)
        have HRX:=Lib.hid (hRw.below hEV)
        have HOX:=Lib.hid (own_extB HO.out hEV)
        have hgw:w.heap.size≤g:=by omega
        have hgx:g+2≤((X.setCell ⟨g,0,none⟩ (.string z)).setCell ⟨g+1,0,none⟩ (.string z)).drew.heap.size:=by
          show g+2≤((X.setCell _ _).setCell _ _).heap.size
          have h9:g+2≤X.heap.size:=by rw [hX,hg];simp
          exact Nat.le_trans h9 (Nat.le_trans (KeepsOthers.setCell _ _ _).size (KeepsOthers.setCell _ _ _).size)
        have HG:=Lib.hid hg
        clear hX hB1 hB2 hEX hEV HS hRw HE HO hg
        go_upto_region 23 with (fail)
        have hbg:bp<g:=by have:=HG.out;omega
        have hq1:(⟨g,0,none⟩:Addr)≠⟨g+1,0,none⟩:=by intro e;injection e with e _ _;omega
        have b1:X.drew.cell? ⟨g,0,none⟩=some (.string old):=b1
        have b2:X.drew.cell? ⟨g+1,0,none⟩=some (.string old):=b2
        have f1:X.drew.frozen? ⟨g,0,none⟩=false:=f1
        have f2:X.drew.frozen? ⟨g+1,0,none⟩=false:=f2
        go_region
        generalize ((X.setCell ⟨g,0,none⟩ (.string z)).setCell ⟨g+1,0,none⟩ (.string z)).drew=V at *
        clear cz b1 b2 f1 f2 hne1 hne2 hq1
      all_goals
        go_wp2_with (go_at_call 114;refine (backS_any _ _ _ _).mono ?_;rintro e W2 ⟨rfl,rfl⟩)
        obtain ⟨gb,hgb⟩:∃ gb,gb=V.heap.size:=⟨_,rfl⟩
        have hE2:Below V.heap.size V (V.alloc (.cells #[.slice Aw way.length cw] 199)):=ext_new _ _
        have hbk:BkC gb Aw cw way (V.alloc (.cells #[.slice Aw way.length cw] 199)):=bkC_of (own_extB HOX.out hE2) (by rw [hgb];exact cell_new1 V _ _)
        have hb1:=HB1.out.ext hE2
        have hb2:=HB2.out.ext hE2
        have hAn1:∀ b o,Aw=some ⟨b,o,none⟩→g≠b:=fun b o h e=>by
          subst e
          exact own_not HOX.out HB1.out (by decide) (by rw [h];rfl)
        have hAn2:∀ b o,Aw=some ⟨b,o,none⟩→g+1≠b:=fun b o h e=>by
          subst e
          exact own_not HOX.out HB2.out (by decide) (by rw [h];rfl)
        have hR2:=HRX.out.below hE2
        have hbl:=ext_call HEX.out hE2
        have hsz:(V.alloc (.cells #[.slice Aw way.length cw] 199)).heap.size=gb+1:=by simp [hgb]
        have HAN:=Lib.hid (And.intro hAn1 hAn2)
        have HWSZ:=Lib.hid (show ∀ x ∈ way,x.1.size=32 by rw [← HW.out];exact HSZ.out)
        have hgb2:g+2≤gb:=by omega
        clear hE2 hAn1 hAn2 HB1 HB2 HEX HRX HOX
        rw [← hgb]
        generalize (V.alloc (.cells #[.slice Aw way.length cw] 199))=W2 at *
        clear hgb hgx V
        refine (wpIn_wide (n:=3)).1 ?_
        refine' wpIn_mem_box (by omega) (gf:=169) (lb:=#[.pointer (some ⟨gb,0,none⟩)]) (by simp [Act.eval]) (enters_of Tryz.func169 (by kernel_rfl) rfl)
          (backM_seq 2 (by omega) gb Aw cw way (by omega)) (fun _=>rfl)
          (fun k W=>((Blk W g 9 #[.string (accM stpF way z k)]∧Blk W (g+1) 9 #[.string (accM joinW way z k)])∧RoundOK W)∧BkC gb Aw cw way W∧Below w.heap.size w W)
          (fun k=>OwnP.and (OwnP.and (OwnP.and OwnP.blk OwnP.blk) OwnP.round) (OwnP.and OwnP.bkC (OwnP.below (Nat.le_refl _) (by omega)))) (fun k W h=>h.2.1) ⟨⟨⟨by rw [accM_zero];exact hb1,by rw [accM_zero];exact hb2⟩,hR2⟩,hbk,hbl⟩
          203 (fun k=>#[.string (sdAt way k).1,.bool (sdAt way k).2]) _ ?assign ?body ?done
        case assign=>
          intro l h k W K hh hK
          unfold sdVals
          gi_wp2
          rw [← hh]
          exact hK
        case body=>
          rintro l h k W hkN hszW hh hB ⟨⟨⟨hO1,hO2⟩,hRo⟩,hbk,hb⟩
          obtain ⟨acc,hacc⟩:∃ acc,acc=accM joinW way z k:=⟨_,rfl⟩
          obtain ⟨act,hact⟩:∃ act,act=accM stpF way z k:=⟨_,rfl⟩
          have hac:acc.size=32:=by rw [hacc];exact accM_size way z hz32 k (by omega)
          have hat:act.size=32:=by rw [hact];exact accT_size way z hz32 k (by omega)
          have HACC:=Lib.hid (accM_succ joinW hkN z)
          have HACT:=Lib.hid (accM_succ stpF hkN z)
          rw [← hacc] at HACC hO2
          rw [← hact] at HACT hO1
          obtain ⟨⟨y,f2⟩,hx⟩:∃ x,x=sdAt way k:=⟨_,rfl⟩
          have hy32:y.size=32:=by
            have:=HWSZ.out (sdAt way k) (List.mem_of_getElem? (sdAt_eq hkN))
            rw [← hx] at this
            exact this
          rw [← hx] at HACC HACT hB ⊢
          dsimp only at hB ⊢
          have c0:W.cell? ⟨g,0,none⟩=some (.string act):=hO1.cell 0
          have c1:W.cell? ⟨g+1,0,none⟩=some (.string acc):=hO2.cell 0
          have c2:W.cell? ⟨h,0,none⟩=some (.string y):=hB.cell 0
          have c3:W.cell? ⟨h,1,none⟩=some (.bool f2):=hB.cell 1
          have HRo:=Lib.hid hRo
          have HO1:=Lib.hid hO1
          have HO2:=Lib.hid hO2
          have HBX:=Lib.hid hB
          have HBe:=Lib.hid hb
          have HBK:=Lib.hid hbk
          have hgh:g+1<h:=by omega
          clear hRo hb hO1 hO2 hB hacc hact hx hbk
          cases f2 with
          | true=>
            gi_wp2_with fail
            refine ⟨trivial,(CallsIn.inRound l (callsIn_wide.2 (join_any y act true W HRo.out (by omega) (by omega)))).mono ?_⟩
            rintro e W' ⟨rfl,hb'⟩
            obtain ⟨nt,hnt⟩:∃ nt,nt=joinF y true act:=⟨_,rfl⟩
            rw [← hnt]
            have HNT:=Lib.hid hnt
            have hO1:=HO1.out.ext hb'
            have hO2:=HO2.out.ext hb'
            have hBX:=HBX.out.ext hb'
            have e0:W'.cell? ⟨g,0,none⟩=some (.string act):=hO1.cell 0
            have f0:W'.frozen? ⟨g,0,none⟩=false:=hO1.frozen 0
            obtain ⟨X,hX⟩:∃ X,X=W'.setCell ⟨g,0,none⟩ (.string nt):=⟨_,rfl⟩
            have hE':Below w.heap.size w X:=by rw [hX];exact ext_set (HBe.out.trans (hb'.mono HBe.out.size)) hgw _
            have hX1:Blk X g 9 #[.string nt]:=by rw [hX];exact hO1.set_ 0 _
            have hX2:Blk X (g+1) 9 #[.string acc]:=by rw [hX];exact hO2.far (by show g+1≠g;omega) _
            have hX3:Blk X h 203 #[.string y,.bool true]:=by rw [hX];exact hBX.far (by show h≠g;omega) _
            have hX4:RoundOK X:=by rw [hX];exact (HRo.out.below hb').keep fun p hp=>World.cell?_of_block (Below.heap_setCell _ _ _ _ (by rw [hp];show _≠g;omega))
            have hX5:BkC gb Aw cw way X:=by rw [hX];exact (HBK.out.ext hb').set (by omega) HAN.out.1 _
            have hX6:KeepsOthers W X:=by rw [hX];exact KeepsOthers.trans ⟨hb'.size,fun k o hk _=>(hb'.block k (Array.getElem?_eq_some_iff.1 hk).1).trans hk⟩ (KeepsOthers.setCell _ _ _)
            have d1:(W'.setCell ⟨g,0,none⟩ (.string nt)).cell? ⟨g+1,0,none⟩=some (.string acc):=by rw [← hX];exact hX2.cell 0
            have d2:(W'.setCell ⟨g,0,none⟩ (.string nt)).cell? ⟨h,0,none⟩=some (.string y):=by rw [← hX];exact hX3.cell 0
            have d3:(W'.setCell ⟨g,0,none⟩ (.string nt)).cell? ⟨h,1,none⟩=some (.bool true):=by rw [← hX];exact hX3.cell 1
            have x1:=hO2.cell 0
            have x2:=hBX.cell 0
            have x3:=hBX.cell 1
            have n1:¬ g=h:=by omega
            clear hnt hb'
            gi_wp2_with fail
            rw [← hX]
            have HX4:=Lib.hid hX4
            have HX5:=Lib.hid hX5
            have HX6:=Lib.hid hX6
            have HE':=Lib.hid hE'
            clear hX d1 d2 d3 x1 x2 x3 n1 e0 f0 c0 c1 c2 c3 hO1 hO2 hBX hX3 hX5 hX6 hE'
            refine ⟨trivial,(CallsIn.inRound l (callsIn_wide.2 (join_any y acc true X hX4 (by omega) (by omega)))).mono ?_⟩
            rintro e Y ⟨rfl,hbY⟩
            obtain ⟨ns,hns⟩:∃ ns,ns=joinF y true acc:=⟨_,rfl⟩
            rw [← hns]
            have HNS:=Lib.hid hns
            have hY1:=hX1.ext hbY
            have hY2:=hX2.ext hbY
            have e1:Y.cell? ⟨g+1,0,none⟩=some (.string acc):=hY2.cell 0
            have f1:Y.frozen? ⟨g+1,0,none⟩=false:=hY2.frozen 0
            have HYY:=Lib.hid (And.intro hY1 hY2)
            have HYB:=Lib.hid hbY
            clear hns hY1 hY2 hbY hX1 hX2 hX4
            gi_wp2
            have HF:=HYB.out
            refine ⟨(KeepsOthers.trans HX6.out (KeepsOthers.trans ⟨HF.size,fun k o hk _=>(HF.block k (Array.getElem?_eq_some_iff.1 hk).1).trans hk⟩ (KeepsOthers.setCell _ _ _))).from _,⟨⟨?_,?_⟩,?_⟩,(HX5.out.ext HF).set (by omega) HAN.out.2 _,ext_set (HE'.out.trans (HF.mono HE'.out.size)) (by show w.heap.size≤g+1;omega) _⟩
            · rw [HACT.out]
              rw [show stpF (y,true) act=nt by rw [HNT.out];simp [stpF,joinF]]
              exact HYY.out.1.far (by show g≠g+1;omega) _
            · rw [HACC.out,show joinW (y,true) acc=ns by rw [HNS.out];simp [joinW,joinF]]
              exact HYY.out.2.set_ 0 _
            · exact (HX4.out.below HF).keep fun p hp=>World.cell?_of_block (Below.heap_setCell _ _ _ _ (by rw [hp];show _≠g+1;omega))
          | false=>
            gi_wp2_with fail
            refine ⟨trivial,(CallsIn.inRound l (callsIn_wide.2 (join_any y acc false W HRo.out (by omega) (by omega)))).mono ?_⟩
            rintro e Y ⟨rfl,hbY⟩
            obtain ⟨ns,hns⟩:∃ ns,ns=joinF y false acc:=⟨_,rfl⟩
            rw [← hns]
            have HNS:=Lib.hid hns
            have hY1:=HO1.out.ext hbY
            have hY2:=HO2.out.ext hbY
            have e1:Y.cell? ⟨g+1,0,none⟩=some (.string acc):=hY2.cell 0
            have f1:Y.frozen? ⟨g+1,0,none⟩=false:=hY2.frozen 0
            have HYY:=Lib.hid (And.intro hY1 hY2)
            have HYB:=Lib.hid hbY
            clear hns hY1 hY2 hbY
            gi_wp2
            have HF:=HYB.out
            refine ⟨(KeepsOthers.trans (KeepsOthers.refl _) (KeepsOthers.trans ⟨HF.size,fun k o hk _=>(HF.block k (Array.getElem?_eq_some_iff.1 hk).1).trans hk⟩ (KeepsOthers.setCell _ _ _))).from _,⟨⟨?_,?_⟩,?_⟩,(HBK.out.ext HF).set (by omega) HAN.out.2 _,ext_set (HBe.out.trans (HF.mono HBe.out.size)) (by show w.heap.size≤g+1;omega) _⟩
            · rw [HACT.out]
              rw [show stpF (y,false) act=act from rfl]
              exact HYY.out.1.far (by show g≠g+1;omega) _
            · rw [HACC.out,show joinW (y,false) acc=ns by rw [HNS.out];simp [joinW,joinF]]
              exact HYY.out.2.set_ 0 _
            · exact (HRo.out.below HF).keep fun p hp=>World.cell?_of_block (Below.heap_setCell _ _ _ _ (by rw [hp];show _≠g+1;omega))
        case done=>
          rintro D W hD ⟨⟨⟨hB1,hB2⟩,hRo⟩,hbk,hb⟩ hK
          rw [accM_all,← HW.out,HL2.out] at hB1
          rw [accM_all,← HW.out,HL1.out] at hB2
          have c0:W.cell? ⟨g,0,none⟩=some (.string _):=hB1.cell 0
          have c1:W.cell? ⟨g+1,0,none⟩=some (.string rt):=hB2.cell 0
          have HBE:=Lib.hid hb
          clear hB1 hB2 hb
          go_wp2
          refine ⟨by simp,.inl ⟨_,_,rfl,run_takeDeferred hK,?_⟩⟩
          refine ⟨_,results_tmp rfl _ _ _,?_,?_⟩
          · simp
          · exact HBE.out.grown (grownBy_putObj' W D _) HBE.out.size (fun k e=>by injection e with e;omega)
    · have hb:=leftF_bounds cur.length (by omega) (by omega)
      obtain ⟨k,hk⟩:∃ k,k=leftF cur.length:=⟨_,rfl⟩
      have HLF:=Lib.hid (fun W:World=>left_any cur.length W (by omega) (by omega))
      rw [← hk] at hb HLF
      have HKE:=Lib.hid hk
      clear hk
      obtain ⟨f',rfl⟩:∃ f',f=f'+1:=⟨f-1,by omega⟩
      have hrest2:∃ x,∃ tl,rest=x::tl∧x.2=decide (k<i)∧tl=(if k<i then extW f' (cur.drop k) (i-k) else extW f' (cur.take k) i):=by
        rw [hrest]
        conv=>enter [1,x,1,tl,1];unfold extW
        rw [if_neg h1,← HKE.out]
        by_cases hik:k<i
        · rw [if_pos hik,if_pos hik]
          exact ⟨_,_,rfl,(decide_eq_true (by omega)).symm,rfl⟩
        · rw [if_neg hik,if_neg hik]
          exact ⟨_,_,rfl,(decide_eq_false (by omega)).symm,rfl⟩
      have HEND:=Lib.hid (show EN=(if k<i then extEnd f' (cur.drop k) (i-k) else extEnd f' (cur.take k) i) by
        rw [hend]
        conv=>lhs;unfold extEnd
        rw [if_neg h1,← HKE.out])
      obtain ⟨⟨d,fl⟩,tl,hrt2,hfl,htl⟩:=hrest2
      dsimp only at hfl
      subst hrt2
      clear hrest hend
      have hsp:(((((d,fl)::tl).map (·.1)++E).reverse).length)=(tl.map (·.1)++E).length+1:=by simp;omega
      obtain ⟨nt,hnt⟩:∃ nt,nt=(tl.map (·.1)++E).length:=⟨_,rfl⟩
      rw [← hnt] at hsp
      have HTK:=Lib.hid (take_any S u4 ((((d,fl)::tl).map (·.1)++E).reverse) wr HS.out (by rw [hsp,hnt];rw [List.length_cons] at hwr;simp;omega))
      have hlast:(((((d,fl)::tl).map (·.1)++E).reverse).getLast?.getD ⟨#[]⟩)=d:=by simp
      have hdrop:((((d,fl)::tl).map (·.1)++E).reverse).dropLast=(tl.map (·.1)++E).reverse:=by simp
      have hne:((((d,fl)::tl).map (·.1)++E).reverse).isEmpty=false:=by simp
      unfold TakePost at HTK
      rw [hlast,hdrop,hne] at HTK
      obtain ⟨Ap,cp,hpv,-,-⟩:=id HS.out
      rw [hsp] at hpv
      subst hpv
      have d4:decide ((i:Int)<(cur.length:Int))=true:=decide_eq_true (by omega)
      have d4':decide (i<cur.length)=true:=decide_eq_true (by omega)
      have HFL:=Lib.hid hfl
      have HTL:=Lib.hid htl
      have HNT:=Lib.hid hnt
      clear hlast hdrop hne hsp hfl hs htl hnt
      go_wp2_with fail
      refine HTK.out.mono ?_
      rintro e W1 ⟨v',rfl,hv',hb1⟩
      have HV1:=Lib.hid hv'
      have HB1:=Lib.hid hb1
      obtain ⟨A',c',hva0,-,-⟩:=hv'
      have hva:v'=.slice A' nt c':=by rw [hva0,HNT.out,List.length_reverse]
      clear hva0
      subst hva
      clear hb1
      go_wp2_with fail
      refine (HLF.out _).mono ?_
      rintro e w' ⟨rfl,hw'⟩
      subst w'
      have ho1:=own_extB HO.out HB1.out
      have hz1:=(ext_call HE.out HB1.out).size
      by_cases hik:k<i
      · have d5:decide ((k:Int)<(i:Int))=true:=decide_eq_true (by omega)
        have q5:(k:Int)<(i:Int):=by omega
        have hfl:fl=true:=by rw [HFL.out];exact decide_eq_true hik
        have HT2:=Lib.hid (show tl=extW f' (cur.drop k) (i-k) by rw [HTL.out,if_pos hik])
        have HN2:=Lib.hid (show EN=extEnd f' (cur.drop k) (i-k) by rw [HEND.out,if_pos hik])
        subst hfl
        have e5:IntKind.i64.wrap ((i:Int)-(k:Int))=((i-k:Nat):Int):=by rw [IntWalk.i64_in _ (by omega)];omega
        have e6:IntKind.i64.wrap ((cur.length:Int)-(k:Int))=((cur.length-k:Nat):Int):=by rw [IntWalk.i64_in _ (by omega)];omega
        obtain ⟨ha,W4,hW4,v4,hv4,ho4,hg4⟩:=appSide W1 w.heap.size hz1 u11 way.length (sdC way) ho1 (by omega) d true
        have HO4:=Lib.hid ho4
        have HE4:=Lib.hid (show Below w.heap.size w W4 from (ext_alloc (ext_call HE.out HB1.out) (.cells #[.string d,.bool true] 203)).grown hg4 (by simp;omega) (fun g hg=>(ho1.lt g hg).1))
        have HP4:=Lib.hid (show Strs S W4 _ ((tl.map (·.1)++E).reverse) from Strs.ownGrown (HV1.out.below (ext_new W1 (.cells #[.string d,.bool true] 203))) hg4 HSB.out (fun g hg=>(ho1.lt g hg).1))
        clear ho4 hg4 ho1
        go_wp2
        go_roundw
        case rel=>exact ⟨f',i-k,cur.drop k,way++[(d,true)],tl,(by first|(rw [List.length_drop];omega)|(rw [List.length_take];omega)),(by first|(rw [List.length_drop];omega)|(rw [List.length_take];omega)),by go_num,by rw [List.length_drop],by omega,(by first|(rw [List.length_drop];omega)|(rw [List.length_take];omega)),by rw [HSP.out,List.append_assoc];rfl,HT2.out,HN2.out,by simp [wholeW],HP4.out,by rw [List.length_append,List.length_singleton,sdC_append];exact HO4.out,HE4.out⟩
        case measure=>simp [intOf];omega
      · have d5:decide ((k:Int)<(i:Int))=false:=decide_eq_false (by omega)
        have hfl:fl=false:=by rw [HFL.out];exact decide_eq_false hik
        have HT2:=Lib.hid (show tl=extW f' (cur.take k) (i) by rw [HTL.out,if_neg hik])
        have HN2:=Lib.hid (show EN=extEnd f' (cur.take k) (i) by rw [HEND.out,if_neg hik])
        subst hfl
        obtain ⟨ha,W4,hW4,v4,hv4,ho4,hg4⟩:=appSide W1 w.heap.size hz1 u11 way.length (sdC way) ho1 (by omega) d false
        have HO4:=Lib.hid ho4
        have HE4:=Lib.hid (show Below w.heap.size w W4 from (ext_alloc (ext_call HE.out HB1.out) (.cells #[.string d,.bool false] 203)).grown hg4 (by simp;omega) (fun g hg=>(ho1.lt g hg).1))
        have HP4:=Lib.hid (show Strs S W4 _ ((tl.map (·.1)++E).reverse) from Strs.ownGrown (HV1.out.below (ext_new W1 (.cells #[.string d,.bool false] 203))) hg4 HSB.out (fun g hg=>(ho1.lt g hg).1))
        clear ho4 hg4 ho1
        go_wp2
        go_roundw
        case rel=>exact ⟨f',i,cur.take k,way++[(d,false)],tl,(by first|(rw [List.length_drop];omega)|(rw [List.length_take];omega)),(by first|(rw [List.length_drop];omega)|(rw [List.length_take];omega)),by go_num,by rw [List.length_take,Nat.min_eq_left (by omega)],by omega,(by first|(rw [List.length_drop];omega)|(rw [List.length_take];omega)),by rw [HSP.out,List.append_assoc];rfl,HT2.out,HN2.out,by rw [HWB.out];simp [wholeW],HP4.out,by rw [List.length_append,List.length_singleton,sdC_append];exact HO4.out,HE4.out⟩
        case measure=>simp [intOf];omega
end
section
open Go.RowKit Go.Shelf
attribute [local go_sem ↓] Go.wp_at_zero Go.wp_at_succ
theorem before_yes (r:RowT) (has:Bool) (n1 n2 n3:Int) (w:World) :
    Calls Tryz.prog 225 #[.agg #[.int .i64 r.t,.int .i64 r.k,.bool true,.int .i64 r.a,.int .i64 r.b,.int .i64 r.c,.bool has,.int .i64 n1,.int .i64 n2,.int .i64 n3]] w fun e w'=>
      e=.returned (.tuple #[.agg #[.int .i64 r.t,.int .i64 r.k,.int .i64 r.a,.int .i64 r.b,.int .i64 r.c],.bool true])∧Below w.heap.size w w':=by
  obtain ⟨t,k,a,b,c⟩:=r
  dsimp only
  go_enter Tryz.func225,Tryz.ntmps225
  go_wp2_with fail
  refine (half_yes _ _ _ _ _ _ _ _ _ _ _ _ _ _).mono ?_
  rintro e W1 ⟨rfl,hb1⟩
  have HL1:=Lib.hid (ext_call (ext_alloc (ext_new w _) _) hb1)
  have hB1:=(Blk.new' (w.alloc (.cells #[.int .i64 t,.int .i64 k,.bool true,.int .i64 a,.int .i64 b,.int .i64 c,.bool has,.int .i64 n1,.int .i64 n2,.int .i64 n3] 72)) 67 #[.int .i64 0,.int .i64 0,.int .i64 0,.int .i64 0,.int .i64 0] (b:=w.heap.size+1) (by simp)).ext hb1
  have HB1:=Lib.hid hB1
  have HI:=Lib.hid row_size
  have H1:=Lib.hid (row_one t k a b c)
  clear hB1 hb1
  go_wp2_with (refine wpList_store_blk rfl 67 (.tmp 2) (.tmp 10) rfl (w.heap.size+1) #[.int .i64 t,.int .i64 k,.int .i64 a,.int .i64 b,.int .i64 c] rfl rfl 67 #[.int .i64 0,.int .i64 0,.int .i64 0,.int .i64 0,.int .i64 0] HB1.out HI.out rfl H1.out ?_;intro W2 hB2 hg2)
  have c0:=hB2.cell 0
  have c1:=hB2.cell 1
  have c2:=hB2.cell 2
  have c3:=hB2.cell 3
  have c4:=hB2.cell 4
  refine bodyPost_ret (v:=.tuple #[.agg #[.int .i64 t,.int .i64 k,.int .i64 a,.int .i64 b,.int .i64 c],.bool true]) (by simp [results,Tryz.results225,go_sem,c0,c1,c2,c3,c4]) rfl ⟨rfl,?_⟩
  exact HL1.out.grown hg2 HL1.out.size (fun k e=>by injection e with e;omega)
theorem before_no (t k o1 o2 o3:Int) (has:Bool) (n1 n2 n3:Int) (w:World) :
    Calls Tryz.prog 225 #[.agg #[.int .i64 t,.int .i64 k,.bool false,.int .i64 o1,.int .i64 o2,.int .i64 o3,.bool has,.int .i64 n1,.int .i64 n2,.int .i64 n3]] w fun e w'=>
      e=.returned (.tuple #[.agg #[.int .i64 0,.int .i64 0,.int .i64 0,.int .i64 0,.int .i64 0],.bool false])∧Below w.heap.size w w':=by
  go_enter Tryz.func225,Tryz.ntmps225
  go_wp2_with fail
  refine (half_no _ _ _ _ _ _ _ _ _ _ _ _ _ _).mono ?_
  rintro e W1 ⟨rfl,hb1⟩
  have HL1:=Lib.hid (ext_call (ext_alloc (ext_new w _) _) hb1)
  have hB1:=(Blk.new' (w.alloc (.cells #[.int .i64 t,.int .i64 k,.bool false,.int .i64 o1,.int .i64 o2,.int .i64 o3,.bool has,.int .i64 n1,.int .i64 n2,.int .i64 n3] 72)) 67 #[.int .i64 0,.int .i64 0,.int .i64 0,.int .i64 0,.int .i64 0] (b:=w.heap.size+1) (by simp)).ext hb1
  have HB1:=Lib.hid hB1
  have HI:=Lib.hid row_size
  have H1:=Lib.hid (row_one 0 0 0 0 0)
  clear hB1 hb1
  go_wp2_with (refine wpList_store_blk rfl 67 (.tmp 2) (.tmp 10) rfl (w.heap.size+1) #[.int .i64 0,.int .i64 0,.int .i64 0,.int .i64 0,.int .i64 0] rfl rfl 67 #[.int .i64 0,.int .i64 0,.int .i64 0,.int .i64 0,.int .i64 0] HB1.out HI.out rfl H1.out ?_;intro W2 hB2 hg2)
  have c0:=hB2.cell 0
  have c1:=hB2.cell 1
  have c2:=hB2.cell 2
  have c3:=hB2.cell 3
  have c4:=hB2.cell 4
  refine bodyPost_ret (v:=.tuple #[.agg #[.int .i64 0,.int .i64 0,.int .i64 0,.int .i64 0,.int .i64 0],.bool false]) (by simp [results,Tryz.results225,go_sem,c0,c1,c2,c3,c4]) rfl ⟨rfl,?_⟩
  exact HL1.out.grown hg2 HL1.out.size (fun k e=>by injection e with e;omega)
def oR (o:Option RowT):RowT:=o.getD zeroR
theorem before_any (c:ChgT) (w:World):Calls Tryz.prog 225 #[.agg c.arr] w fun e w'=>e=.returned (.tuple #[(oR (befC c)).val,.bool c.had])∧Below w.heap.size w w':=by
  obtain ⟨t,k,had,o1,o2,o3,has,n1,n2,n3⟩:=c
  cases had with
  | false=>exact before_no t k o1 o2 o3 has n1 n2 n3 w
  | true=>exact before_yes ⟨t,k,o1,o2,o3⟩ has n1 n2 n3 w
theorem after_any (c:ChgT) (w:World):Calls Tryz.prog 67 #[.agg c.arr] w fun e w'=>e=.returned (.tuple #[(oR (aftC c)).val,.bool c.has])∧Below w.heap.size w w':=by
  obtain ⟨t,k,had,o1,o2,o3,has,n1,n2,n3⟩:=c
  cases has with
  | false=>exact after_no ⟨t,k,n1,n2,n3⟩ had o1 o2 o3 w
  | true=>exact after_yes ⟨t,k,n1,n2,n3⟩ had o1 o2 o3 w
def scanR (t:Int) (j:Nat) (lo hi:Int) (o:Option RowT):Option RowT:=o.filter fun r=>hitR r t j lo hi
def measR (b:Nat) (o:Option RowT):Int:=match o with|none=>0|some r=>r.col b
def PtrR (B:Nat) (W:World) (v:Value) (o:Option RowT):Prop:=match o with
  | none=>v=.pointer none
  | some r=>∃ g,v=.pointer (some ⟨g,0,none⟩)∧B≤g∧Blk W g 67 #[.int .i64 r.t,.int .i64 r.k,.int .i64 r.a,.int .i64 r.b,.int .i64 r.c]
theorem PtrR.ext {B:Nat} {w W:World} {v:Value} {o:Option RowT} (h:PtrR B w v o) (k:Below w.heap.size w W):PtrR B W v o:=by
  cases o with
  | none=>exact h
  | some r=>obtain ⟨g,h1,h2,h3⟩:=h;exact ⟨g,h1,h2,h3.ext k⟩
theorem PtrR.mono {B B':Nat} {w:World} {v:Value} {o:Option RowT} (h:PtrR B w v o) (k:B'≤B):PtrR B' w v o:=by
  cases o with
  | none=>exact h
  | some r=>obtain ⟨g,h1,h2,h3⟩:=h;exact ⟨g,h1,Nat.le_trans k h2,h3⟩
theorem PtrR.shape {B:Nat} {W:World} {v:Value} {o:Option RowT} (h:PtrR B W v o):∃ p,v=.pointer p∧p.isSome=o.isSome:=by
  cases o with
  | none=>exact ⟨none,h,rfl⟩
  | some r=>obtain ⟨g,h1,_⟩:=h;exact ⟨_,h1,rfl⟩
theorem scannedNo (kd t lo hi o:Int) (j b:Nat) (hj:j<4) (r:RowT) (ok:Bool) (hn:(ok && hitR r t j lo hi)=false) (bq:Nat) (w:World) (hq:Blk w bq 33 #[.int .i64 kd,.int .i64 t,.int .i64 (j:Int),.int .i64 lo,.int .i64 hi,.int .i64 (b:Int),.int .i64 o]) :
    Calls Tryz.prog 224 #[r.val,.bool ok,.pointer (some ⟨bq,0,none⟩)] w fun e w'=>e=.returned (.tuple #[.pointer none,.int .i64 0])∧Below w.heap.size w w':=by
  have HV:=Lib.hid (fun W:World=>rowValue_any r j hj W)
  have hh:hitR r t j lo hi=((r.t == t) && decide (lo≤r.col j) && decide (r.col j≤hi)):=rfl
  rw [hh] at hn
  generalize r.col j=v at *
  obtain ⟨r0,r1,r2,r3,r4⟩:=r
  dsimp only [RowT.val,RowT.arr] at *
  have HN:=Lib.hid hn
  have HQ:=Lib.hid hq
  have HX:=Lib.hid (Blk.new w 67 #[.int .i64 r0,.int .i64 r1,.int .i64 r2,.int .i64 r3,.int .i64 r4])
  have c2:=(hq.alloc (.cells #[.int .i64 r0,.int .i64 r1,.int .i64 r2,.int .i64 r3,.int .i64 r4] 67)).cell 2
  clear hn hh hq
  go_enter Tryz.func224,Tryz.ntmps224
  go_wp2_with fail
  refine (HV.out _).mono ?_
  rintro e W1 ⟨rfl,hb1⟩
  have HQ1:=Lib.hid ((HQ.out.ext (ext_new w _)).ext hb1)
  have HX1:=Lib.hid (HX.out.ext hb1)
  have HE1:=Lib.hid (ext_call (ext_new w _) hb1)
  clear c2 hb1
  have q1:=HQ1.out.cell 1
  have q3:=HQ1.out.cell 3
  have q4:=HQ1.out.cell 4
  have x0:=HX1.out.cell 0
  have hn:=HN.out
  cases ok with
  | false=>
    clear hn
    go_wp2
    go_ret2
    exact ⟨rfl,HE1.out⟩
  | true =>
    by_cases h1:r0=t
    · have d1:(r0 != t)=false:=by simp [h1]
      by_cases h2:v<lo
      · clear hn h1
        go_wp2
        go_ret2
        exact ⟨rfl,HE1.out⟩
      · have h3:hi<v:=by
          have h4:lo≤v:=by omega
          simp [h1,h4] at hn
          exact hn
        clear hn h1
        go_wp2
        go_ret2
        exact ⟨rfl,HE1.out⟩
    · have d1:(r0 != t)=true:=by simpa using h1
      clear hn h1
      go_wp2
      go_ret2
      exact ⟨rfl,HE1.out⟩
theorem scannedYes (kd t lo hi o:Int) (j b:Nat) (hj:j<4) (hb:b<4) (r:RowT) (hn:hitR r t j lo hi=true) (bq:Nat) (w:World) (hq:Blk w bq 33 #[.int .i64 kd,.int .i64 t,.int .i64 (j:Int),.int .i64 lo,.int .i64 hi,.int .i64 (b:Int),.int .i64 o]) :
    Calls Tryz.prog 224 #[r.val,.bool true,.pointer (some ⟨bq,0,none⟩)] w fun e w'=>∃ g,e=.returned (.tuple #[.pointer (some ⟨g,0,none⟩),.int .i64 (r.col b)])∧w.heap.size≤g∧Blk w' g 67 #[.int .i64 r.t,.int .i64 r.k,.int .i64 r.a,.int .i64 r.b,.int .i64 r.c]∧Below w.heap.size w w':=by
  have HV:=Lib.hid (fun W:World=>rowValue_any r j hj W)
  have HM:=Lib.hid (fun W:World=>rowValue_any r b hb W)
  have hh:hitR r t j lo hi=((r.t == t) && decide (lo≤r.col j) && decide (r.col j≤hi)):=rfl
  rw [hh] at hn
  generalize r.col j=v at *
  generalize r.col b=m at *
  obtain ⟨r0,r1,r2,r3,r4⟩:=r
  dsimp only [RowT.val,RowT.arr] at *
  simp only [Bool.and_eq_true,decide_eq_true_eq] at hn
  obtain ⟨⟨d0,h2⟩,h3⟩:=hn
  have d1:(r0 != t)=false:=by simpa using d0
  have d2:¬ v<lo:=by omega
  have d3:¬ hi<v:=by omega
  have HQ:=Lib.hid hq
  have HX:=Lib.hid (Blk.new w 67 #[.int .i64 r0,.int .i64 r1,.int .i64 r2,.int .i64 r3,.int .i64 r4])
  have c2:=(hq.alloc (.cells #[.int .i64 r0,.int .i64 r1,.int .i64 r2,.int .i64 r3,.int .i64 r4] 67)).cell 2
  clear d0 h2 h3 hh hq
  go_enter Tryz.func224,Tryz.ntmps224
  go_wp2_with fail
  refine (HV.out _).mono ?_
  rintro e W1 ⟨rfl,hb1⟩
  have HQ1:=Lib.hid ((HQ.out.ext (ext_new w _)).ext hb1)
  have HX1:=Lib.hid (HX.out.ext hb1)
  have HE1:=Lib.hid (ext_call (ext_new w _) hb1)
  clear c2 hb1
  have q1:=HQ1.out.cell 1
  have q3:=HQ1.out.cell 3
  have q4:=HQ1.out.cell 4
  have q5:=HQ1.out.cell 5
  have x0:=HX1.out.cell 0;have x1:=HX1.out.cell 1;have x2:=HX1.out.cell 2;have x3:=HX1.out.cell 3;have x4:=HX1.out.cell 4
  go_wp2_with fail
  refine (HM.out _).mono ?_
  rintro e W2 ⟨rfl,hb2⟩
  have HX2:=Lib.hid (HX1.out.ext hb2)
  have HE2:=Lib.hid (ext_call HE1.out hb2)
  clear hb2
  go_wp2
  go_ret2
  exact ⟨_,rfl,Nat.le_refl _,HX2.out,HE2.out⟩
theorem scanned_any (kd t lo hi o:Int) (j b:Nat) (hj:j<4) (hb:b<4) (ro:Option RowT) (bq:Nat) (w:World) (hq:Blk w bq 33 #[.int .i64 kd,.int .i64 t,.int .i64 (j:Int),.int .i64 lo,.int .i64 hi,.int .i64 (b:Int),.int .i64 o]) :
    Calls Tryz.prog 224 #[(oR ro).val,.bool ro.isSome,.pointer (some ⟨bq,0,none⟩)] w fun e w'=>∃ v,e=.returned (.tuple #[v,.int .i64 (measR b (scanR t j lo hi ro))])∧PtrR w.heap.size w' v (scanR t j lo hi ro)∧Below w.heap.size w w':=by
  cases ro with
  | none=>exact (scannedNo kd t lo hi o j b hj zeroR false rfl bq w hq).mono fun e w' h=>⟨_,h.1,rfl,h.2⟩
  | some r=>
    by_cases hh:hitR r t j lo hi=true
    · have e1:scanR t j lo hi (some r)=some r:=by simp [scanR,Option.filter,hh]
      rw [e1]
      exact (scannedYes kd t lo hi o j b hj hb r hh bq w hq).mono fun e w' ⟨g,h1,h2,h3,h4⟩=>⟨_,h1,⟨g,rfl,h2,h3⟩,h4⟩
    · have e1:scanR t j lo hi (some r)=none:=by simp [scanR,Option.filter,hh]
      rw [e1]
      exact (scannedNo kd t lo hi o j b hj r true (by simpa using hh) bq w hq).mono fun e w' h=>⟨_,h.1,rfl,h.2⟩
end
end Go.Proofs.YtimoapjhepmehaaGreatDoor
