/-
  package digest: Proof at any list of at most 1000 entries.
-/
import Derived.Test.YtnajpjnnlocfgaaGreatDoorJ32
import Derived.Test.YtnajpjnnlocfgaaGreatDoorJ6
import Derived.Test.YtnajpjnnlocfgaaGreatDoorJ9
import Derived.BigQuiet
set_option linter.unusedSimpArgs false
set_option linter.unusedVariables false
namespace Go.Proofs.YtnajpjnnlocfgaaGreatDoor
open Go.RowKit Go.Shelf
attribute [local go_sem ↓] app_exec app_sem Go.wp_at_zero Go.wp_at_succ
theorem below_setCells {B g:Nat} (hB:B≤g):∀ (vs:List Value) (o:Nat) (w W:World),Below B w W→Below B w (W.setCells g o vs)
  | [],_,_,_,h=>h
  | v::r,o,w,W,h=>below_setCells hB r (o+1) w (W.setCell ⟨g,o,none⟩ v) (Below.setCell h hB _)
theorem strsOf_map (ss:List ByteArray):((Lib.strsOf (fun i=>ss.getD i ⟨#[]⟩) ss.length).reverse.map encStr)=ss.reverse.map Value.string:=by
  have h:Lib.strsOf (fun i=>ss.getD i ⟨#[]⟩) ss.length=ss.map (fun x=>x.data.toList):=by
    refine List.ext_getElem? fun i=>?_
    unfold Lib.strsOf
    rw [List.getElem?_map,List.getElem?_map]
    by_cases hi:i<ss.length
    · rw [List.getElem?_range hi,List.getElem?_eq_getElem hi]
      simp [List.getD_eq_getElem?_getD,List.getElem?_eq_getElem hi]
    · rw [List.getElem?_eq_none (by simpa using hi),List.getElem?_eq_none (by omega)]
      rfl
  rw [h,← List.map_reverse,List.map_map]
  refine List.map_congr_left fun x _=>?_
  simp [encStr]
theorem revStrs (B:Nat) (v:Value) (ss:List ByteArray) (w:World) (hown:w.ownsRow B 9 1 v ss.length (ss.map Value.string)) (hn:ss.length≤1000) :
    Calls Tryz.prog 132 #[v] w fun e w'=>e=.returned (.tuple #[])∧Strs (fun b=>B≤b) w' v ss.reverse∧Below B w w':=by
  by_cases h0:ss.length=0
  · obtain ⟨A,c,hsh⟩:=own_shape hown
    have hss:ss=[]:=List.length_eq_zero_iff.1 h0
    subst hss
    rw [hsh]
    refine (Tryz.slices_Reverse_string_empty A c w).mono ?_
    rintro e W3 ⟨rfl,rfl⟩
    exact ⟨rfl,⟨A,c,rfl,Nat.zero_le _,fun h=>absurd h (by simp)⟩,Below.refl _ _⟩
  · obtain ⟨g,cap,rfl,hB,hg,hcap,hc⟩:=own_cells hown (by omega)
    have hcell:∀ i,i<ss.length→w.cell? ⟨g,i,none⟩=some (.string (ss.getD i ⟨#[]⟩)):=fun i hi=>hc i _ (by
      rw [List.getElem?_map,List.getElem?_eq_getElem hi]
      simp [List.getD_eq_getElem?_getD,List.getElem?_eq_getElem hi])
    refine (Tryz.slices_Reverse_string_cells g 0 ss.length cap (fun i=>ss.getD i ⟨#[]⟩) w (by omega) (fun i hi=>by rw [Nat.zero_add];exact hcell i hi) (fun i hi=>own_frozen hown _)).mono ?_
    rintro e w' ⟨rfl,q,rfl⟩
    rw [strsOf_map]
    refine ⟨rfl,⟨_,cap,by rw [List.length_reverse],by rw [List.length_reverse];exact hcap,fun _=>⟨g,0,rfl,hB,fun j x hj=>?_⟩⟩,below_setCells hB _ _ _ _ ⟨rfl,rfl,rfl,Nat.le_refl _,fun _ _=>rfl⟩⟩
    have hjl:=(List.getElem?_eq_some_iff.1 hj).1
    rw [List.length_reverse] at hjl
    have h9:=World.cell?_setCells_in g (ss.reverse.map Value.string) 0 (w.drewN q) (fun k hk=>by
      rw [List.length_map,List.length_reverse] at hk
      show (w.cell? ⟨g,0+k,none⟩).isSome=true
      rw [Nat.zero_add,hcell k hk]
      rfl) j (by rw [List.length_map,List.length_reverse];exact hjl)
    rw [h9]
    congr 1
    rw [List.getElem_map]
    congr 1
    exact (List.getElem?_eq_some_iff.1 hj).2
set_option maxHeartbeats 4000000 in
set_option maxRecDepth 100000 in
theorem proof_any (S:Nat→Prop) (v:Value) (L:List ByteArray) (I:Nat) (w:World) (hv:Strs S w v L) (hL:L.length≤1000) (hI:I<L.length) (hSB:∀ b,S b→b<w.heap.size) (hsz:∀ x ∈ L,x.size≤100000) (hR:RoundOK w) :
    Calls Tryz.prog 82 #[v,.int .i64 (I:Int)] w (ProofPost w (((wayL L.length L I).map (·.1)).reverse)):=by
  have HV:=Lib.hid hv
  have HR:=Lib.hid hR
  have HSZ:=Lib.hid hsz
  have HSB:=Lib.hid hSB
  clear hSB
  obtain ⟨b,off,c,rfl,hc⟩:=hv.own (by omega)
  have q0:¬ (I:Int)<0:=by omega
  have d0:decide ((I:Int)<0)=false:=decide_eq_false q0
  have d1:decide ((L.length:Int)≤(I:Int))=false:=decide_eq_false (by omega)
  have d2:decide (L.length≤I)=false:=decide_eq_false (by omega)
  have d2':¬ L.length≤I:=by omega
  clear hv hR hsz
  go_enter Tryz.func82,Tryz.ntmps82
  go_wp2
  go_step3
  go_wp2
  go_step3
  go_wp2
  go_loopw [0,1,6,7,8,9] (fun lv iv ov _ _ _ W=>∃ (f i:Nat) (cur:List ByteArray) (way:List (ByteArray × Bool)),Strs S W lv cur∧(∀ x ∈ cur,x ∈ L)∧cur.length≤f∧cur.length≤1000∧iv=.int .i64 (i:Int)∧i<cur.length∧wayL L.length L I=way++wayL f cur i∧way.length+cur.length≤L.length∧W.ownsRow w.heap.size 9 1 ov way.length ((way.map (·.1)).map Value.string)∧Below w.heap.size w W) (fun lv _ _ _ _ _ _=>lenS lv)
  case atStart=>exact ⟨L.length,I,L,[],HV.out,fun x h=>h,Nat.le_refl _,hL,rfl,hI,rfl,by simp,World.ownsRow_nil _ _ _ _,ext_refl _⟩
  case round=>
    obtain ⟨f,i,cur,way,hs,hin,hf,h17,rfl,hi,hway,hw17,hown,hE⟩:=hrel
    obtain ⟨b',off',c',rfl,hc'⟩:=hs.own (by omega)
    have HS:=Lib.hid hs
    have HO:=Lib.hid hown
    have HE:=Lib.hid hE
    have HIN:=Lib.hid hin
    clear hs hown hE
    by_cases h1:cur.length≤1
    · have e1:(cur.length:Int)=1:=by omega
      have HW:=Lib.hid (show wayL L.length L I=way by
        rw [hway]
        cases f with
        | zero=>omega
        | succ f=>unfold wayL;rw [if_pos h1,List.append_nil])
      have HRV:=Lib.hid (revStrs w.heap.size u6 (way.map (·.1)) wr (by rw [List.length_map];exact HO.out) (by rw [List.length_map];omega))
      clear hway
      obtain ⟨A6,c6,hv6⟩:=own_shape HO.out
      have d3:decide ((cur.length:Int)=1)=true:=decide_eq_true e1
      subst hv6
      go_wp2_with fail
      refine HRV.out.mono ?_
      rintro e W3 ⟨rfl,hs3,hb3⟩
      have HS3:=Lib.hid hs3
      have HE3:=Lib.hid (HE.out.trans hb3)
      clear hs3 hb3
      go_wp2
      rw [Exit.noGoto_ret]
      go_ret2
      refine ⟨_,rfl,?_,HE3.out⟩
      rw [HW.out]
      exact HS3.out
    · have hb:=leftF_bounds cur.length (by omega) (by omega)
      obtain ⟨k,hk⟩:∃ k,k=leftF cur.length:=⟨_,rfl⟩
      have HLF:=Lib.hid (fun W:World=>left_any cur.length W (by omega) (by omega))
      rw [← hk] at hb HLF
      have HKE:=Lib.hid hk
      clear hk
      obtain ⟨f',rfl⟩:∃ f',f=f'+1:=⟨f-1,by omega⟩
      have hway2:wayL L.length L I=way++(if i<k then (rootF (cur.drop k),false)::wayL f' (cur.take k) i else (rootF (cur.take k),true)::wayL f' (cur.drop k) (i-k)):=by
        rw [hway,HKE.out]
        conv=>lhs;unfold wayL
        rw [if_neg h1]
      clear hway
      have d3:decide ((cur.length:Int)=1)=false:=decide_eq_false (by omega)
      go_wp2_with fail
      refine (HLF.out _).mono ?_
      rintro e w' ⟨rfl,hw'⟩
      subst w'
      go_upto_region 6 with (fail)
      have p0:(0:Int)≤(k:Int):=by omega
      have p1:(k:Int)≤(cur.length:Int):=by omega
      have p2:(k:Int)≤(c':Int):=by omega
      have p3:(cur.length:Int)≤(c':Int):=by omega
      go_quiet (fail)
      go_upto_region 7 with (fail)
      obtain ⟨V,hV⟩:∃ V,V=wr.drewN nq:=⟨_,rfl⟩
      rw [← hV]
      have HEV:=Lib.hid (show Below wr.heap.size wr V by rw [hV];exact ext_drewN (ext_refl _) _)
      clear hV
      by_cases hik:i<k
      · rw [if_pos hik] at hway2
        have d4:decide ((k:Int)≤(i:Int))=false:=decide_eq_false (by omega)
        go_wp2_with fail
        refine (root_any S (.slice (some ⟨b',off'+k,none⟩) (cur.length-k) (c'-k)) (cur.drop k) V ((HS.out.dropS k (by omega)).below HEV.out) (by first|(rw [List.length_drop];omega)|(rw [List.length_take];omega)) (fun x hx=>HSZ.out x (HIN.out x (List.mem_of_mem_drop hx))) (HR.out.below (ext_call HE.out HEV.out))).mono ?_
        rintro e W1 ⟨rfl,hb1⟩
        obtain ⟨rt,hrt⟩:∃ rt,rt=rootF (cur.drop k):=⟨_,rfl⟩
        rw [← hrt]
        have HRT:=Lib.hid hrt
        have HE1:=Lib.hid (ext_call HEV.out hb1)
        have HO1:=Lib.hid (own_ext (own_ext HO.out HEV.out) hb1)
        have hz0:=HE.out.size
        have hz1:=HE1.out.size
        clear hb1 hrt
        obtain ⟨ha,W4,hW4,v4,hv4,ho4,hg4⟩:=appStr W1 w.heap.size (by omega) u6 way.length ((way.map (·.1)).map Value.string) HO1.out (by omega) rt
        have HO4:=Lib.hid ho4
        have HE4:=Lib.hid (show Below w.heap.size w W4 from (ext_alloc (ext_call HE.out HE1.out) (.cells #[.string rt] 9)).grown hg4 (by simp;omega) (fun g hg=>(HO1.out.lt g hg).1))
        have HP4:=Lib.hid (show Strs S W4 _ (cur.take k) from Strs.ownGrown (((HS.out.takeS k (by omega)).below HE1.out).below (ext_new W1 (.cells #[.string rt] 9))) hg4 HSB.out (fun g hg=>(HO1.out.lt g hg).1))
        clear ho4 hg4
        go_wp2
        go_roundw
        case rel=>exact ⟨f',i,cur.take k,way++[(rt,false)],HP4.out,fun x hx=>HIN.out x (List.mem_of_mem_take hx),(by first|(rw [List.length_drop];omega)|(rw [List.length_take];omega)),(by first|(rw [List.length_drop];omega)|(rw [List.length_take];omega)),by go_num,(by first|(rw [List.length_drop];omega)|(rw [List.length_take];omega)),by rw [hway2,HRT.out,List.append_assoc];rfl,by rw [List.length_append,List.length_singleton];first|(rw [List.length_drop];omega)|(rw [List.length_take];omega),by simpa using HO4.out,HE4.out⟩
        case measure=>simp [lenS];omega
      · rw [if_neg hik] at hway2
        have d4:decide ((k:Int)≤(i:Int))=true:=decide_eq_true (by omega)
        have q4:(k:Int)≤(i:Int):=by omega
        have e5:IntKind.i64.wrap ((i:Int)-(k:Int))=((i-k:Nat):Int):=by rw [IntWalk.i64_in _ (by omega)];omega
        go_wp2_with fail
        refine (root_any S (.slice (some ⟨b',off',none⟩) k c') (cur.take k) V ((HS.out.takeS k (by omega)).below HEV.out) (by first|(rw [List.length_drop];omega)|(rw [List.length_take];omega)) (fun x hx=>HSZ.out x (HIN.out x (List.mem_of_mem_take hx))) (HR.out.below (ext_call HE.out HEV.out))).mono ?_
        rintro e W1 ⟨rfl,hb1⟩
        obtain ⟨rt,hrt⟩:∃ rt,rt=rootF (cur.take k):=⟨_,rfl⟩
        rw [← hrt]
        have HRT:=Lib.hid hrt
        have HE1:=Lib.hid (ext_call HEV.out hb1)
        have HO1:=Lib.hid (own_ext (own_ext HO.out HEV.out) hb1)
        have hz0:=HE.out.size
        have hz1:=HE1.out.size
        clear hb1 hrt
        obtain ⟨ha,W4,hW4,v4,hv4,ho4,hg4⟩:=appStr W1 w.heap.size (by omega) u6 way.length ((way.map (·.1)).map Value.string) HO1.out (by omega) rt
        have HO4:=Lib.hid ho4
        have HE4:=Lib.hid (show Below w.heap.size w W4 from (ext_alloc (ext_call HE.out HE1.out) (.cells #[.string rt] 9)).grown hg4 (by simp;omega) (fun g hg=>(HO1.out.lt g hg).1))
        have HP4:=Lib.hid (show Strs S W4 _ (cur.drop k) from Strs.ownGrown (((HS.out.dropS k (by omega)).below HE1.out).below (ext_new W1 (.cells #[.string rt] 9))) hg4 HSB.out (fun g hg=>(HO1.out.lt g hg).1))
        clear ho4 hg4
        go_wp2
        go_roundw
        case rel=>exact ⟨f',i-k,cur.drop k,way++[(rt,true)],HP4.out,fun x hx=>HIN.out x (List.mem_of_mem_drop hx),(by first|(rw [List.length_drop];omega)|(rw [List.length_take];omega)),(by first|(rw [List.length_drop];omega)|(rw [List.length_take];omega)),by go_num,(by first|(rw [List.length_drop];omega)|(rw [List.length_take];omega)),by rw [hway2,HRT.out,List.append_assoc];rfl,by rw [List.length_append,List.length_singleton];first|(rw [List.length_drop];omega)|(rw [List.length_take];omega),by simpa using HO4.out,HE4.out⟩
        case measure=>simp [lenS];omega
end Go.Proofs.YtnajpjnnlocfgaaGreatDoor
