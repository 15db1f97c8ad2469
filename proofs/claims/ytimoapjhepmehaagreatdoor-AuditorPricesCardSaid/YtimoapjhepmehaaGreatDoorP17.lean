/-
  Part 17 of 54: the contracts that the proof of the last part uses; each stands under its own head.
-/
import Derived.Test.YtimoapjhepmehaaGreatDoorP11
import Derived.Test.YtimoapjhepmehaaGreatDoorP7
import Derived.Test.YtimoapjhepmehaaGreatDoorP15
import Derived.Test.YtimoapjhepmehaaGreatDoorP16
import Derived.BigQuiet
import Derived.Maps.AppendAt
import Derived.Deep.Cut
import Derived.Deep.CutRange
import Derived.Deep.QuietTactic
set_option linter.unusedSimpArgs false
set_option linter.unusedVariables false
set_option maxHeartbeats 4000000
set_option maxRecDepth 100000
namespace Go.Proofs.YtimoapjhepmehaaGreatDoor
section
open Go.RowKit Go.Shelf
attribute [local go_sem ↓] app_exec app_sem Go.wp_at_zero Go.wp_at_succ
theorem below_setCells {B g:Nat} (hB:B≤g):∀ (vs:List Value) (o:Nat) (w W:World),Below B w W→Below B w (W.setCells g o vs)
  | [],_,_,_,h=>h
  | v::r,o,w,W,h=>below_setCells hB r (o+1) w (W.setCell ⟨g,o,none⟩ v) (Below.setCell h hB _)
theorem strsOf_map (ss:List ByteArray):((Lib.strsOf (fun i=>ss.getD i ⟨#[]⟩) ss.length).reverse.map encStr)=ss.reverse.map Value.string:=by
  have h:Lib.strsOf (fun i=>ss.getD i ⟨#[]⟩) ss.length=ss.map (fun x=>x.data.toList):=by
    refine List.ext_getElem? fun i=>?_
    unfold Lib.strsOf
    rw [List.getElem?_map,List.getElem?_map]
    by_cases hi:i<ss.length
    · rw [List.getElem?_range hi,List.getElem?_eq_getElem hi]
      simp [List.getD_eq_getElem?_getD,List.getElem?_eq_getElem hi]
    · rw [List.getElem?_eq_none (by simpa using hi),List.getElem?_eq_none (by omega)]
      rfl
  rw [h,← List.map_reverse,List.map_map]
  refine List.map_congr_left fun x _=>?_
  simp [encStr]
theorem revStrs (B:Nat) (v:Value) (ss:List ByteArray) (w:World) (hown:w.ownsRow B 9 1 v ss.length (ss.map Value.string)) (hn:ss.length≤1000) :
    Calls Tryz.prog 74 #[v] w fun e w'=>e=.returned (.tuple #[])∧Strs (fun b=>B≤b) w' v ss.reverse∧Below B w w':=by
  by_cases h0:ss.length=0
  · obtain ⟨A,c,hsh⟩:=own_shape hown
    have hss:ss=[]:=List.length_eq_zero_iff.1 h0
    subst hss
    rw [hsh]
    refine (Tryz.slices_Reverse_string_empty A c w).mono ?_
    rintro e W3 ⟨rfl,rfl⟩
    exact ⟨rfl,⟨A,c,rfl,Nat.zero_le _,fun h=>absurd h (by simp)⟩,Below.refl _ _⟩
  · obtain ⟨g,cap,rfl,hB,hg,hcap,hc⟩:=own_cells hown (by omega)
    have hcell:∀ i,i<ss.length→w.cell? ⟨g,i,none⟩=some (.string (ss.getD i ⟨#[]⟩)):=fun i hi=>hc i _ (by
      rw [List.getElem?_map,List.getElem?_eq_getElem hi]
      simp [List.getD_eq_getElem?_getD,List.getElem?_eq_getElem hi])
    refine (Tryz.slices_Reverse_string_cells g 0 ss.length cap (fun i=>ss.getD i ⟨#[]⟩) w (by omega) (fun i hi=>by rw [Nat.zero_add];exact hcell i hi) (fun i hi=>own_frozen hown _)).mono ?_
    rintro e w' ⟨rfl,q,rfl⟩
    rw [strsOf_map]
    refine ⟨rfl,⟨_,cap,by rw [List.length_reverse],by rw [List.length_reverse];exact hcap,fun _=>⟨g,0,rfl,hB,fun j x hj=>?_⟩⟩,below_setCells hB _ _ _ _ ⟨rfl,rfl,rfl,Nat.le_refl _,fun _ _=>rfl⟩⟩
    have hjl:=(List.getElem?_eq_some_iff.1 hj).1
    rw [List.length_reverse] at hjl
    have h9:=World.cell?_setCells_in g (ss.reverse.map Value.string) 0 (w.drewN q) (fun k hk=>by
      rw [List.length_map,List.length_reverse] at hk
      show (w.cell? ⟨g,0+k,none⟩).isSome=true
      rw [Nat.zero_add,hcell k hk]
      rfl) j (by rw [List.length_map,List.length_reverse];exact hjl)
    rw [h9]
    congr 1
    rw [List.getElem_map]
    congr 1
    exact (List.getElem?_eq_some_iff.1 hj).2
theorem proof_any (S:Nat→Prop) (v:Value) (L:List ByteArray) (I:Nat) (w:World) (hv:Strs S w v L) (hL:L.length≤1000) (hI:I<L.length) (hSB:∀ b,S b→b<w.heap.size) (hsz:∀ x ∈ L,x.size≤100000) (hR:RoundOK w) :
    Calls Tryz.prog 41 #[v,.int .i64 (I:Int)] w (ProofPost w (((wayL L.length L I).map (·.1)).reverse)):=by
  have HV:=Lib.hid hv
  have HR:=Lib.hid hR
  have HSZ:=Lib.hid hsz
  have HSB:=Lib.hid hSB
  clear hSB
  obtain ⟨b,off,c,rfl,hc⟩:=hv.own (by omega)
  have q0:¬ (I:Int)<0:=by omega
  have d0:decide ((I:Int)<0)=false:=decide_eq_false q0
  have d1:decide ((L.length:Int)≤(I:Int))=false:=decide_eq_false (by omega)
  have d2:decide (L.length≤I)=false:=decide_eq_false (by omega)
  have d2':¬ L.length≤I:=by omega
  clear hv hR hsz
  go_enter Tryz.func41,Tryz.ntmps41
  go_wp2
  go_step3
  go_wp2
  go_step3
  go_wp2
  go_loopw [0,1,6,7,8,9] (fun lv iv ov _ _ _ W=>∃ (f i:Nat) (cur:List ByteArray) (way:List (ByteArray × Bool)),Strs S W lv cur∧(∀ x ∈ cur,x ∈ L)∧cur.length≤f∧cur.length≤1000∧iv=.int .i64 (i:Int)∧i<cur.length∧wayL L.length L I=way++wayL f cur i∧way.length+cur.length≤L.length∧W.ownsRow w.heap.size 9 1 ov way.length ((way.map (·.1)).map Value.string)∧Below w.heap.size w W) (fun lv _ _ _ _ _ _=>lenS lv)
  case atStart=>exact ⟨L.length,I,L,[],HV.out,fun x h=>h,Nat.le_refl _,hL,rfl,hI,rfl,by simp,World.ownsRow_nil _ _ _ _,ext_refl _⟩
  case round=>
    obtain ⟨f,i,cur,way,hs,hin,hf,h17,rfl,hi,hway,hw17,hown,hE⟩:=hrel
    obtain ⟨b',off',c',rfl,hc'⟩:=hs.own (by omega)
    have HS:=Lib.hid hs
    have HO:=Lib.hid hown
    have HE:=Lib.hid hE
    have HIN:=Lib.hid hin
    clear hs hown hE
    by_cases h1:cur.length≤1
    · have e1:(cur.length:Int)=1:=by omega
      have HW:=Lib.hid (show wayL L.length L I=way by
        rw [hway]
        cases f with
        | zero=>omega
        | succ f=>unfold wayL;rw [if_pos h1,List.append_nil])
      have HRV:=Lib.hid (revStrs w.heap.size u6 (way.map (·.1)) wr (by rw [List.length_map];exact HO.out) (by rw [List.length_map];omega))
      clear hway
      obtain ⟨A6,c6,hv6⟩:=own_shape HO.out
      have d3:decide ((cur.length:Int)=1)=true:=decide_eq_true e1
      subst hv6
      go_wp2_with fail
      refine HRV.out.mono ?_
      rintro e W3 ⟨rfl,hs3,hb3⟩
      have HS3:=Lib.hid hs3
      have HE3:=Lib.hid (HE.out.trans hb3)
      clear hs3 hb3
      go_wp2
      rw [Exit.noGoto_ret]
      go_ret2
      refine ⟨_,rfl,?_,HE3.out⟩
      rw [HW.out]
      exact HS3.out
    · have hb:=leftF_bounds cur.length (by omega) (by omega)
      obtain ⟨k,hk⟩:∃ k,k=leftF cur.length:=⟨_,rfl⟩
      have HLF:=Lib.hid (fun W:World=>left_any cur.length W (by omega) (by omega))
      rw [← hk] at hb HLF
      have HKE:=Lib.hid hk
      clear hk
      obtain ⟨f',rfl⟩:∃ f',f=f'+1:=⟨f-1,by omega⟩
      have hway2:wayL L.length L I=way++(if i<k then (rootF (cur.drop k),false)::wayL f' (cur.take k) i else (rootF (cur.take k),true)::wayL f' (cur.drop k) (i-k)):=by
        rw [hway,HKE.out]
        conv=>lhs;unfold wayL
        rw [if_neg h1]
      clear hway
      have d3:decide ((cur.length:Int)=1)=false:=decide_eq_false (by omega)
      go_wp2_with fail
      refine (HLF.out _).mono ?_
      rintro e w' ⟨rfl,hw'⟩
      subst w'
      go_upto_region 6 with (fail)
      have p0:(0:Int)≤(k:Int):=by omega
      have p1:(k:Int)≤(cur.length:Int):=by omega
      have p2:(k:Int)≤(c':Int):=by omega
      have p3:(cur.length:Int)≤(c':Int):=by omega
      go_quiet (fail)
      go_upto_region 7 with (fail)
      obtain ⟨V,hV⟩:∃ V,V=wr.drewN nq:=⟨_,rfl⟩
      rw [← hV]
      have HEV:=Lib.hid (show Below wr.heap.size wr V by rw [hV];exact ext_drewN (ext_refl _) _)
      clear hV
      by_cases hik:i<k
      · rw [if_pos hik] at hway2
        have d4:decide ((k:Int)≤(i:Int))=false:=decide_eq_false (by omega)
        go_wp2_with fail
        refine (root_any S (.slice (some ⟨b',off'+k,none⟩) (cur.length-k) (c'-k)) (cur.drop k) V ((HS.out.dropS k (by omega)).below HEV.out) (by first|(rw [List.length_drop];omega)|(rw [List.length_take];omega)) (fun x hx=>HSZ.out x (HIN.out x (List.mem_of_mem_drop hx))) (HR.out.below (ext_call HE.out HEV.out))).mono ?_
        rintro e W1 ⟨rfl,hb1⟩
        obtain ⟨rt,hrt⟩:∃ rt,rt=rootF (cur.drop k):=⟨_,rfl⟩
        rw [← hrt]
        have HRT:=Lib.hid hrt
        have HE1:=Lib.hid (ext_call HEV.out hb1)
        have HO1:=Lib.hid (own_ext (own_ext HO.out HEV.out) hb1)
        have hz0:=HE.out.size
        have hz1:=HE1.out.size
        clear hb1 hrt
        obtain ⟨ha,W4,hW4,v4,hv4,ho4,hg4⟩:=appStr W1 w.heap.size (by omega) u6 way.length ((way.map (·.1)).map Value.string) HO1.out (by omega) rt
        have HO4:=Lib.hid ho4
        have HE4:=Lib.hid (show Below w.heap.size w W4 from (ext_alloc (ext_call HE.out HE1.out) (.cells #[.string rt] 9)).grown hg4 (by simp;omega) (fun g hg=>(HO1.out.lt g hg).1))
        have HP4:=Lib.hid (show Strs S W4 _ (cur.take k) from Strs.ownGrown (((HS.out.takeS k (by omega)).below HE1.out).below (ext_new W1 (.cells #[.string rt] 9))) hg4 HSB.out (fun g hg=>(HO1.out.lt g hg).1))
        clear ho4 hg4
        go_wp2
        go_roundw
        case rel=>exact ⟨f',i,cur.take k,way++[(rt,false)],HP4.out,fun x hx=>HIN.out x (List.mem_of_mem_take hx),(by first|(rw [List.length_drop];omega)|(rw [List.length_take];omega)),(by first|(rw [List.length_drop];omega)|(rw [List.length_take];omega)),by go_num,(by first|(rw [List.length_drop];omega)|(rw [List.length_take];omega)),by rw [hway2,HRT.out,List.append_assoc];rfl,by rw [List.length_append,List.length_singleton];first|(rw [List.length_drop];omega)|(rw [List.length_take];omega),by simpa using HO4.out,HE4.out⟩
        case measure=>simp [lenS];omega
      · rw [if_neg hik] at hway2
        have d4:decide ((k:Int)≤(i:Int))=true:=decide_eq_true (by omega)
        have q4:(k:Int)≤(i:Int):=by omega
        have e5:IntKind.i64.wrap ((i:Int)-(k:Int))=((i-k:Nat):Int):=by rw [IntWalk.i64_in _ (by omega)];omega
        go_wp2_with fail
        refine (root_any S (.slice (some ⟨b',off',none⟩) k c') (cur.take k) V ((HS.out.takeS k (by omega)).below HEV.out) (by first|(rw [List.length_drop];omega)|(rw [List.length_take];omega)) (fun x hx=>HSZ.out x (HIN.out x (List.mem_of_mem_take hx))) (HR.out.below (ext_call HE.out HEV.out))).mono ?_
        rintro e W1 ⟨rfl,hb1⟩
        obtain ⟨rt,hrt⟩:∃ rt,rt=rootF (cur.take k):=⟨_,rfl⟩
        rw [← hrt]
        have HRT:=Lib.hid hrt
        have HE1:=Lib.hid (ext_call HEV.out hb1)
        have HO1:=Lib.hid (own_ext (own_ext HO.out HEV.out) hb1)
        have hz0:=HE.out.size
        have hz1:=HE1.out.size
        clear hb1 hrt
        obtain ⟨ha,W4,hW4,v4,hv4,ho4,hg4⟩:=appStr W1 w.heap.size (by omega) u6 way.length ((way.map (·.1)).map Value.string) HO1.out (by omega) rt
        have HO4:=Lib.hid ho4
        have HE4:=Lib.hid (show Below w.heap.size w W4 from (ext_alloc (ext_call HE.out HE1.out) (.cells #[.string rt] 9)).grown hg4 (by simp;omega) (fun g hg=>(HO1.out.lt g hg).1))
        have HP4:=Lib.hid (show Strs S W4 _ (cur.drop k) from Strs.ownGrown (((HS.out.dropS k (by omega)).below HE1.out).below (ext_new W1 (.cells #[.string rt] 9))) hg4 HSB.out (fun g hg=>(HO1.out.lt g hg).1))
        clear ho4 hg4
        go_wp2
        go_roundw
        case rel=>exact ⟨f',i-k,cur.drop k,way++[(rt,true)],HP4.out,fun x hx=>HIN.out x (List.mem_of_mem_drop hx),(by first|(rw [List.length_drop];omega)|(rw [List.length_take];omega)),(by first|(rw [List.length_drop];omega)|(rw [List.length_take];omega)),by go_num,(by first|(rw [List.length_drop];omega)|(rw [List.length_take];omega)),by rw [hway2,HRT.out,List.append_assoc];rfl,by rw [List.length_append,List.length_singleton];first|(rw [List.length_drop];omega)|(rw [List.length_take];omega),by simpa using HO4.out,HE4.out⟩
        case measure=>simp [lenS];omega
end
section
open Go.RowKit Go.Shelf
attribute [local go_sem ↓] Go.wp_at_zero Go.wp_at_succ
structure RowFn (I:World→Prop) (fn:Nat) (caps:Array Value) (p:RowT→Bool):Prop where
  enters:∀ args w,(callFunc fn args).run Tryz.prog w=.ok (.enter fn args) w
  keeps:∀ W W',I W→Below W.heap.size W W'→I W'
  tells:∀ (r:RowT) (W:World),I W→Calls Tryz.prog fn (#[.agg #[.int .i64 r.t,.int .i64 r.k,.int .i64 r.a,.int .i64 r.b,.int .i64 r.c]]++caps) W fun e W'=>e=.returned (.bool (p r))∧Below W.heap.size W W'
def idxZ (p:RowT→Bool) (l:List RowT):Int:=match l.findIdx? p with|some i=>(i:Int)|none => -1
theorem idxZ_none {p:RowT→Bool} {l:List RowT} (h:l.any p=false):idxZ p l = -1:=by
  have:l.findIdx? p=none:=List.findIdx?_eq_none_iff.2 (fun x hx=>by
    have:=List.any_eq_false.1 h x hx
    simpa using this)
  unfold idxZ
  rw [this]
theorem idxZ_some {p:RowT→Bool} {l:List RowT} {k:Nat} {r:RowT} (h:(l.take k).any p=false) (hr:l[k]? = some r) (hp:p r=true):idxZ p l=(k:Int):=by
  have hk:=(List.getElem?_eq_some_iff.1 hr).1
  have : l.findIdx? p = some k := by
    rw [List.findIdx?_eq_some_iff_getElem]
    refine ⟨hk,by rw [(List.getElem?_eq_some_iff.1 hr).2];exact hp,fun j hj=>?_⟩
    have h1:=List.any_eq_false.1 h l[j] (by
      rw [List.mem_take_iff_getElem]
      exact ⟨j,by omega,rfl⟩)
    simpa using h1
  unfold idxZ
  rw [this]
theorem indexRows {I:World→Prop} {fn:Nat} {caps:Array Value} {p:RowT→Bool} (hf:RowFn I fn caps p) (l:List RowT) (v:Value) (w:World) (hv:RowsL w v l) (hI:I w) (hn:l.length≤100000) :
    Calls Tryz.prog 87 #[v,.func (.func fn) #[] caps] w fun e w'=>e=.returned (.int .i64 (idxZ p l))∧Below w.heap.size w w':=by
  have HL:=Lib.hid hv
  have HI:=Lib.hid hI
  have HF:=Lib.hid hf
  have eg:=hf.enters
  obtain ⟨A,c,rfl,-⟩:=hv
  clear hI hf
  go_enter Tryz.func87,Tryz.ntmps87
  go_wp2
  go_loopw [8] (fun iv W=>∃ k:Nat,k≤l.length∧iv=.int .i64 (k:Int)∧(l.take k).any p=false∧Below w.heap.size w W) (fun iv _=>l.length-(intOf iv).toNat)
  case atStart=>exact ⟨0,Nat.zero_le _,rfl,by simp,ext_refl _⟩
  case round=>
    obtain ⟨k,hk,rfl,hno,hE⟩:=hrel
    have HNO:=Lib.hid hno
    have HE:=Lib.hid hE
    clear hno hE
    by_cases hlt:k<l.length
    · obtain ⟨r,hr⟩:∃ r,l[k]? = some r:=⟨_,List.getElem?_eq_getElem hlt⟩
      obtain ⟨g,c',hA,hg,hc9⟩:=(HL.out.ext HE.out).at_ hr
      injection hA with hA hn' hc'
      subst hA;subst hc'
      clear hn'
      have c0:=hc9 0 (by omega)
      have c1:=hc9 1 (by omega)
      have c2:=hc9 2 (by omega)
      have c3:=hc9 3 (by omega)
      have c4:=hc9 4 (by omega)
      have HR:=Lib.hid hr
      have HT:=Lib.hid (HF.out.tells r wr (HF.out.keeps _ _ HI.out HE.out))
      cases hp:p r with
      | true=>
        have HP:=Lib.hid hp
        rw [hp] at HT
        clear hp
        obtain ⟨r0,r1,r2,r3,r4⟩:=r
        simp only [encR,List.getElem?_cons_zero,List.getElem?_cons_succ,Nat.add_zero] at c0 c1 c2 c3 c4
        have d1:decide ((k:Int)<(l.length:Int))=true:=by simp;omega
        have q0:(0:Int)≤(k:Int):=by omega
        have q1:(k:Int)<(l.length:Int):=by omega
        clear hc9 hr
        go_wp2_with fail
        refine HT.out.mono ?_
        rintro e W2 ⟨rfl,hb2⟩
        have HE2:=Lib.hid (ext_call HE.out hb2)
        clear hb2
        go_wp2
        go_ret
        exact ⟨by rw [idxZ_some HNO.out HR.out HP.out];rfl,HE2.out⟩
      | false=>
        have HP:=Lib.hid hp
        rw [hp] at HT
        clear hp
        have htk:=List.take_add_one (i:=k) (l:=l)
        rw [hr] at htk
        have HTK:=Lib.hid htk
        obtain ⟨r0,r1,r2,r3,r4⟩:=r
        simp only [encR,List.getElem?_cons_zero,List.getElem?_cons_succ,Nat.add_zero] at c0 c1 c2 c3 c4
        have d1:decide ((k:Int)<(l.length:Int))=true:=by simp;omega
        have q0:(0:Int)≤(k:Int):=by omega
        have q1:(k:Int)<(l.length:Int):=by omega
        clear hc9 hr htk
        go_wp2_with fail
        refine HT.out.mono ?_
        rintro e W2 ⟨rfl,hb2⟩
        have HE2:=Lib.hid (ext_call HE.out hb2)
        clear hb2
        go_wp2
        go_roundw
        case rel=>exact ⟨k+1,by omega,by go_num,by rw [HTK.out,List.any_append,HNO.out];simpa using HP.out,HE2.out⟩
        case measure=>simp [intOf];omega
    · have HNO2:=Lib.hid (show l.any p=false by rw [← HNO.out,List.take_of_length_le (by omega)])
      have d1:decide ((k:Int)<(l.length:Int))=false:=by simp;omega
      go_wp2
      go_ret
      exact ⟨by rw [idxZ_none HNO2.out];rfl,HE.out⟩
def AtB (f:Nat) (W:World) (bi bc bl:Nat) (j:Nat) (x:Int):Prop:=Blk W bi 170 #[.func (.func f) #[] #[.pointer (some ⟨bl,0,none⟩)]]∧Blk W bc 3 #[.int .i64 (j:Int)]∧Blk W bl 3 #[.int .i64 x]
theorem AtB.ext {f j:Nat} {x:Int} {w W:World} {bi bc bl:Nat} (h:AtB f w bi bc bl j x) (k:Below w.heap.size w W):AtB f W bi bc bl j x:=⟨h.1.ext k,h.2.1.ext k,h.2.2.ext k⟩
theorem AtB.lo {f j:Nat} {x:Int} {W:World} {bi bc bl:Nat} (h:AtB f W bi bc bl j x):Blk W bl 3 #[.int .i64 x]:=h.2.2
theorem prGe (v x:Int) (bl:Nat) (w:World) (h:Blk w bl 3 #[.int .i64 x]):Calls Tryz.prog 90 #[.int .i64 v,.pointer (some ⟨bl,0,none⟩)] w fun e w'=>e=.returned (.bool (decide (x≤v)))∧w=w':=by
  have c0:=h.cell 0
  clear h
  go_enter Tryz.func90,Tryz.ntmps90
  go_wp2
  go_ret
  exact ⟨rfl,rfl⟩
theorem prGt (v x:Int) (bl:Nat) (w:World) (h:Blk w bl 3 #[.int .i64 x]):Calls Tryz.prog 91 #[.int .i64 v,.pointer (some ⟨bl,0,none⟩)] w fun e w'=>e=.returned (.bool (decide (x<v)))∧w=w':=by
  have c0:=h.cell 0
  clear h
  go_enter Tryz.func91,Tryz.ntmps91
  go_wp2
  go_ret
  exact ⟨rfl,rfl⟩
theorem atGe (r:RowT) (bi bc bl j:Nat) (x:Int) (hj:j<4) (w:World) (hB:AtB 90 w bi bc bl j x) :
    Calls Tryz.prog 88 #[.agg #[.int .i64 r.t,.int .i64 r.k,.int .i64 r.a,.int .i64 r.b,.int .i64 r.c],.pointer (some ⟨bi,0,none⟩),.pointer (some ⟨bc,0,none⟩)] w fun e w'=>e=.returned (.bool (decide (x≤r.col j)))∧Below w.heap.size w w':=by
  have HV:=Lib.hid (fun W:World=>rowValue_any r j hj W)
  generalize r.col j=v at *
  obtain ⟨r0,r1,r2,r3,r4⟩:=r
  dsimp only at *
  have HB:=Lib.hid (hB.ext (ext_new w (.cells #[.int .i64 r0,.int .i64 r1,.int .i64 r2,.int .i64 r3,.int .i64 r4] 67)))
  have HR:=Lib.hid (Blk.new w 67 #[.int .i64 r0,.int .i64 r1,.int .i64 r2,.int .i64 r3,.int .i64 r4])
  have i0:=HB.out.1.cell 0
  have k0:=HB.out.2.1.cell 0
  have c0:=HR.out.cell 0;have c1:=HR.out.cell 1;have c2:=HR.out.cell 2;have c3:=HR.out.cell 3;have c4:=HR.out.cell 4
  have il:=hB.1.lt
  have kl:=hB.2.1.lt
  clear hB
  go_enter Tryz.func88,Tryz.ntmps88
  go_wp2
  go_region_with (first
    | (go_at_call 89;(with_reducible refine (HV.out _).mono ?_);rintro e W1 ⟨rfl,hb1⟩;have HB1:=Lib.hid (HB.out.ext (undrew hb1));have HE1:=Lib.hid (ext_call (ext_new w _) (undrew hb1));have hj0:=HB1.out.1.cell 0;clear hb1)
    | (go_at_call 90;(with_reducible refine (prGe v x bl _ HB1.out.lo).mono ?_);rintro e W2 ⟨rfl,rfl⟩))
  all_goals
    go_wp2
    go_ret
    exact ⟨rfl,HE1.out⟩
theorem atGt (r:RowT) (bi bc bl j:Nat) (x:Int) (hj:j<4) (w:World) (hB:AtB 91 w bi bc bl j x) :
    Calls Tryz.prog 88 #[.agg #[.int .i64 r.t,.int .i64 r.k,.int .i64 r.a,.int .i64 r.b,.int .i64 r.c],.pointer (some ⟨bi,0,none⟩),.pointer (some ⟨bc,0,none⟩)] w fun e w'=>e=.returned (.bool (decide (x<r.col j)))∧Below w.heap.size w w':=by
  have HV:=Lib.hid (fun W:World=>rowValue_any r j hj W)
  generalize r.col j=v at *
  obtain ⟨r0,r1,r2,r3,r4⟩:=r
  dsimp only at *
  have HB:=Lib.hid (hB.ext (ext_new w (.cells #[.int .i64 r0,.int .i64 r1,.int .i64 r2,.int .i64 r3,.int .i64 r4] 67)))
  have HR:=Lib.hid (Blk.new w 67 #[.int .i64 r0,.int .i64 r1,.int .i64 r2,.int .i64 r3,.int .i64 r4])
  have i0:=HB.out.1.cell 0
  have k0:=HB.out.2.1.cell 0
  have c0:=HR.out.cell 0;have c1:=HR.out.cell 1;have c2:=HR.out.cell 2;have c3:=HR.out.cell 3;have c4:=HR.out.cell 4
  have il:=hB.1.lt
  have kl:=hB.2.1.lt
  clear hB
  go_enter Tryz.func88,Tryz.ntmps88
  go_wp2
  go_region_with (first
    | (go_at_call 89;(with_reducible refine (HV.out _).mono ?_);rintro e W1 ⟨rfl,hb1⟩;have HB1:=Lib.hid (HB.out.ext (undrew hb1));have HE1:=Lib.hid (ext_call (ext_new w _) (undrew hb1));have hj0:=HB1.out.1.cell 0;clear hb1)
    | (go_at_call 91;(with_reducible refine (prGt v x bl _ HB1.out.lo).mono ?_);rintro e W2 ⟨rfl,rfl⟩))
  all_goals
    go_wp2
    go_ret
    exact ⟨rfl,HE1.out⟩
theorem atGeFn (bi bc bl j:Nat) (x:Int) (hj:j<4):RowFn (fun W=>AtB 90 W bi bc bl j x) 88 #[.pointer (some ⟨bi,0,none⟩),.pointer (some ⟨bc,0,none⟩)] (fun r=>decide (x≤r.col j)):=
  ⟨enters_of Tryz.func88 (by kernel_rfl) rfl,fun _ _ h k=>h.ext k,fun r W h=>atGe r bi bc bl j x hj W h⟩
theorem atGtFn (bi bc bl j:Nat) (x:Int) (hj:j<4):RowFn (fun W=>AtB 91 W bi bc bl j x) 88 #[.pointer (some ⟨bi,0,none⟩),.pointer (some ⟨bc,0,none⟩)] (fun r=>decide (x<r.col j)):=
  ⟨enters_of Tryz.func88 (by kernel_rfl) rfl,fun _ _ h k=>h.ext k,fun r W h=>atGt r bi bc bl j x hj W h⟩
theorem idxZ_findIdx (p:RowT→Bool) (l:List RowT):(idxZ p l<0∧l.findIdx p=l.length)∨(idxZ p l=(l.findIdx p:Int)∧l.findIdx p<l.length):=by
  unfold idxZ
  cases h:l.findIdx? p with
  | none=>
    have h1:=List.findIdx?_eq_none_iff.1 h
    exact .inl ⟨by show (-1:Int)<0;omega,List.findIdx_eq_length.2 (fun x hx=>by simpa using h1 x hx)⟩
  | some i=>
    have h1:=List.findIdx?_eq_some_iff_findIdx_eq.1 h
    exact .inr ⟨by show (i:Int)=_;rw [h1.2],by rw [h1.2];exact h1.1⟩
theorem indexGe (bo bc bl j:Nat) (x:Int) (hj:j<4) (v1 v2:Value) (l:List RowT) (hn:l.length≤100000) (w:World) (ho:Blk w bo 168 #[v1,v2]) (hr:RowsL w v1 l) (hc:Blk w bc 3 #[.int .i64 (j:Int)]) (hl:Blk w bl 3 #[.int .i64 x]) :
    Calls Tryz.prog 86 #[.func (.func 90) #[] #[.pointer (some ⟨bl,0,none⟩)],.pointer (some ⟨bo,0,none⟩),.pointer (some ⟨bc,0,none⟩)] w fun e w'=>e=.returned (.int .i64 (l.findIdx (fun r=>decide (x≤r.col j)):Nat))∧Below w.heap.size w w':=by
  have hmf:∀ (fn:Fn) (first cap:Array Value) (w:World),(Instr.makeFunc fn first cap).run Tryz.prog w=.ok (.func fn first cap) w:=fun _ _ _ _=>rfl
  have HB0:=Lib.hid (show AtB 90 (w.alloc (.cells #[.func (.func 90) #[] #[.pointer (some ⟨bl,0,none⟩)]] 170)) w.heap.size bc bl j x from ⟨Blk.new _ _ _,hc.alloc _,hl.alloc _⟩)
  have HG0:=Lib.hid (hr.ext (ext_new w (.cells #[.func (.func 90) #[] #[.pointer (some ⟨bl,0,none⟩)]] 170)))
  have HO0:=Lib.hid (ho.ext (ext_new w (.cells #[.func (.func 90) #[] #[.pointer (some ⟨bl,0,none⟩)]] 170)))
  have o0:=HO0.out.cell 0
  have ol:=ho.lt
  have HX:=Lib.hid (indexRows (atGeFn w.heap.size bc bl j x hj) l v1 _ HG0.out HB0.out hn)
  have hz:=idxZ_findIdx (fun r=>decide (x≤r.col j)) l
  generalize idxZ (fun r=>decide (x≤r.col j)) l=z at hz HX
  generalize l.findIdx (fun r=>decide (x≤r.col j))=n at hz ⊢
  obtain ⟨A,c,rfl,-⟩:=hr
  clear ho hc hl
  go_enter Tryz.func86,Tryz.ntmps86
  go_wp2_with fail
  refine HX.out.mono ?_
  rintro e W1 ⟨rfl,hb1⟩
  have HE1:=Lib.hid (ext_call (ext_new w _) hb1)
  have hO1:=HO0.out.ext hb1
  have p0:=hO1.cell 0
  clear hb1 o0 hO1
  rcases hz with ⟨h1,h2⟩|⟨h1,h2⟩
  · have H2:=Lib.hid h2
    clear h2
    go_wp2
    go_ret
    exact ⟨by rw [H2.out];rfl,HE1.out⟩
  · have h3:¬ z<0:=by omega
    have H1:=Lib.hid h1
    clear h1
    go_wp2
    go_ret
    exact ⟨by rw [H1.out];rfl,HE1.out⟩
theorem indexGt (bo bc bl j:Nat) (x:Int) (hj:j<4) (v1 v2:Value) (l:List RowT) (hn:l.length≤100000) (w:World) (ho:Blk w bo 168 #[v1,v2]) (hr:RowsL w v1 l) (hc:Blk w bc 3 #[.int .i64 (j:Int)]) (hl:Blk w bl 3 #[.int .i64 x]) :
    Calls Tryz.prog 86 #[.func (.func 91) #[] #[.pointer (some ⟨bl,0,none⟩)],.pointer (some ⟨bo,0,none⟩),.pointer (some ⟨bc,0,none⟩)] w fun e w'=>e=.returned (.int .i64 (l.findIdx (fun r=>decide (x<r.col j)):Nat))∧Below w.heap.size w w':=by
  have hmf:∀ (fn:Fn) (first cap:Array Value) (w:World),(Instr.makeFunc fn first cap).run Tryz.prog w=.ok (.func fn first cap) w:=fun _ _ _ _=>rfl
  have HB0:=Lib.hid (show AtB 91 (w.alloc (.cells #[.func (.func 91) #[] #[.pointer (some ⟨bl,0,none⟩)]] 170)) w.heap.size bc bl j x from ⟨Blk.new _ _ _,hc.alloc _,hl.alloc _⟩)
  have HG0:=Lib.hid (hr.ext (ext_new w (.cells #[.func (.func 91) #[] #[.pointer (some ⟨bl,0,none⟩)]] 170)))
  have HO0:=Lib.hid (ho.ext (ext_new w (.cells #[.func (.func 91) #[] #[.pointer (some ⟨bl,0,none⟩)]] 170)))
  have o0:=HO0.out.cell 0
  have ol:=ho.lt
  have HX:=Lib.hid (indexRows (atGtFn w.heap.size bc bl j x hj) l v1 _ HG0.out HB0.out hn)
  have hz:=idxZ_findIdx (fun r=>decide (x<r.col j)) l
  generalize idxZ (fun r=>decide (x<r.col j)) l=z at hz HX
  generalize l.findIdx (fun r=>decide (x<r.col j))=n at hz ⊢
  obtain ⟨A,c,rfl,-⟩:=hr
  clear ho hc hl
  go_enter Tryz.func86,Tryz.ntmps86
  go_wp2_with fail
  refine HX.out.mono ?_
  rintro e W1 ⟨rfl,hb1⟩
  have HE1:=Lib.hid (ext_call (ext_new w _) hb1)
  have hO1:=HO0.out.ext hb1
  have p0:=hO1.cell 0
  clear hb1 o0 hO1
  rcases hz with ⟨h1,h2⟩|⟨h1,h2⟩
  · have H2:=Lib.hid h2
    clear h2
    go_wp2
    go_ret
    exact ⟨by rw [H2.out];rfl,HE1.out⟩
  · have h3:¬ z<0:=by omega
    have H1:=Lib.hid h1
    clear h1
    go_wp2
    go_ret
    exact ⟨by rw [H1.out];rfl,HE1.out⟩
end
section
open Go.RowKit Go.Shelf
attribute [local go_sem ↓] Go.wp_at_zero Go.wp_at_succ
structure RPT where
  t:Int
  j:Int
  lo:Int
  hi:Int
  n:Int
  f:Int
  rows:List RowT
  paths:List (List ByteArray)
  roots:List ByteArray
def RowsS (S:Nat→Prop) (W:World) (v:Value) (l:List RowT):Prop:=∃ A c,v=.slice A l.length c∧(0<l.length→∃ g,A=some ⟨g,0,none⟩∧g<W.heap.size∧S g∧RowsC W g l)
def PathsS (S:Nat→Prop) (W:World) (v:Value) (ps:List (List ByteArray)):Prop:=∃ A c,v=.slice A ps.length c∧(0<ps.length→∃ g,A=some ⟨g,0,none⟩∧g<W.heap.size∧S g∧∀ (j:Nat) (p:List ByteArray),ps[j]? = some p→∃ u,W.cell? ⟨g,j,none⟩=some u∧Strs S W u p)
section
variable {S T:Nat→Prop} {w W:World} {v:Value}
theorem cell_heap {g i:Nat} (h:W.heap[g]? = w.heap[g]?):W.cell? ⟨g,i,none⟩=w.cell? ⟨g,i,none⟩:=by
  unfold World.cell?
  simp only [h]
theorem RowsC.heap {g:Nat} {l:List RowT} (h:RowsC w g l) (k:W.heap[g]? = w.heap[g]?):RowsC W g l:=fun j r hj i hi=>by rw [cell_heap k];exact h j r hj i hi
theorem RowsS.rowsL {l:List RowT} (h:RowsS S w v l):RowsL w v l:=by
  obtain ⟨A,c,rfl,h⟩:=h
  refine ⟨A,c,rfl,fun h0=>?_⟩
  obtain ⟨g,h1,h2,_,h3⟩:=h h0
  exact ⟨g,h1,h2,h3⟩
theorem RowsS.keep {l:List RowT} (h:RowsS S w v l) (hk:∀ b,S b→b<w.heap.size→W.heap[b]? = w.heap[b]?) (hs:w.heap.size≤W.heap.size):RowsS S W v l:=by
  obtain ⟨A,c,rfl,h⟩:=h
  refine ⟨A,c,rfl,fun h0=>?_⟩
  obtain ⟨g,h1,h2,h3,h4⟩:=h h0
  exact ⟨g,h1,Nat.lt_of_lt_of_le h2 hs,h3,h4.heap (hk g h3 h2)⟩
theorem RowsS.mono {l:List RowT} (h:RowsS S w v l) (hk:∀ b,S b→b<w.heap.size→T b):RowsS T w v l:=by
  obtain ⟨A,c,rfl,h⟩:=h
  refine ⟨A,c,rfl,fun h0=>?_⟩
  obtain ⟨g,h1,h2,h3,h4⟩:=h h0
  exact ⟨g,h1,h2,hk g h3 h2,h4⟩
theorem PathsS.keep {ps:List (List ByteArray)} (h:PathsS S w v ps) (hk:∀ b,S b→b<w.heap.size→W.heap[b]? = w.heap[b]?) (hs:w.heap.size≤W.heap.size):PathsS S W v ps:=by
  obtain ⟨A,c,rfl,h⟩:=h
  refine ⟨A,c,rfl,fun h0=>?_⟩
  obtain ⟨g,h1,h2,h3,h4⟩:=h h0
  refine ⟨g,h1,Nat.lt_of_lt_of_le h2 hs,h3,fun j p hj=>?_⟩
  obtain ⟨u,h5,h6⟩:=h4 j p hj
  exact ⟨u,by rw [cell_heap (hk g h3 h2)];exact h5,h6.keep hk⟩
theorem PathsS.mono {ps:List (List ByteArray)} (h:PathsS S w v ps) (hk:∀ b,S b→b<w.heap.size→T b):PathsS T w v ps:=by
  obtain ⟨A,c,rfl,h⟩:=h
  refine ⟨A,c,rfl,fun h0=>?_⟩
  obtain ⟨g,h1,h2,h3,h4⟩:=h h0
  refine ⟨g,h1,h2,hk g h3 h2,fun j p hj=>?_⟩
  obtain ⟨u,h5,h6⟩:=h4 j p hj
  exact ⟨u,h5,h6.mono hk⟩
end
def RPT.nums (p:RPT) (a b c:Value):Array Value:=#[.int .i64 p.t,.int .i64 p.j,.int .i64 p.lo,.int .i64 p.hi,.int .i64 p.n,.int .i64 p.f,a,b,c]
structure RPS (S:Nat→Prop) (W:World) (p:RPT) (a b c:Value):Prop where
  rows:RowsS S W a p.rows
  paths:PathsS S W b p.paths
  roots:Strs S W c p.roots
theorem RPS.keep {S:Nat→Prop} {w W:World} {p:RPT} {a b c:Value} (h:RPS S w p a b c) (hk:∀ b,S b→b<w.heap.size→W.heap[b]? = w.heap[b]?) (hs:w.heap.size≤W.heap.size):RPS S W p a b c:=⟨h.rows.keep hk hs,h.paths.keep hk hs,h.roots.keep hk⟩
theorem RPS.mono {S T:Nat→Prop} {w:World} {p:RPT} {a b c:Value} (h:RPS S w p a b c) (hk:∀ b,S b→b<w.heap.size→T b):RPS T w p a b c:=⟨h.rows.mono hk,h.paths.mono hk,h.roots.mono hk⟩
theorem RPS.ext {S:Nat→Prop} {w W:World} {p:RPT} {a b c:Value} (h:RPS S w p a b c) (k:Below w.heap.size w W):RPS S W p a b c:=h.keep (fun b _ hl=>k.block b hl) k.size
def RPV (S:Nat→Prop) (W:World) (p:RPT) (va:Array Value):Prop:=∃ a b c,va=p.nums a b c∧RPS S W p a b c
def ordR (rs:List RowT) (t:Int) (j:Nat):List RowT:=selF rs t j (-1000000000) 1000000000
def fromN (rs:List RowT) (t:Int) (j:Nat) (lo:Int):Nat:=(ordR rs t j).findIdx (fun r=>decide (lo≤r.col j))-1
def toN (rs:List RowT) (t:Int) (j:Nat) (hi:Int):Nat:=min ((ordR rs t j).findIdx (fun r=>decide (hi<r.col j))+1) (ordR rs t j).length
def pathF (l:List ByteArray) (i:Nat):List ByteArray:=((wayL l.length l i).map (·.1)).reverse
def proveF (rs:List RowT) (t:Int) (j:Nat) (lo hi:Int):RPT:=
  ⟨t,j,lo,hi,(ordR rs t j).length,fromN rs t j lo,((ordR rs t j).drop (fromN rs t j lo)).take (toN rs t j hi-fromN rs t j lo),
    (List.range (toN rs t j hi-fromN rs t j lo)).map (fun i=>pathF (ordS rs t j) (fromN rs t j lo+i)),sumsF rs⟩
theorem wp_append_at {P:Program} {o:Oper} {a:Act} {w:World} {K:Act→World→Prop} {Q:Exit→Act→World→Prop} (s x:Operand) (t:TypeId)
    (ho:o.op=.call { callee:=.builtin .append,args:=#[s,x],argTypes:=#[t,t] })
    (base:Nat) (e:TypeId) (i:TypeInfo) (z:Value) (size bytes:Nat) (ht:P.underlying t=some (.slice e)) (hi:P.info? e=some i) (hz:i.zero=some z)
    (hsize:i.size=size) (hby:i.bytes=bytes) (hzs:z.cells.size=size) (hsz:0<size)
    (v:Value) (n:Nat) (xs:List Value) (hs:a.eval s=v) (hown:w.ownsRow base e size v n xs)
    (ad:Addr) (m c:Nat) (news:List Value) (hx:a.eval x=.slice (some ad) m c) (hl:news.length=m*size) (hnews:∀ j u,news[j]? = some u→w.cell? (ad.add j)=some u) (h1:∀ u ∈ news,u.oneCell'=true)
    (h63:n+m≤maxLen) (hbytes:(n+m)*bytes≤140737488355328) (hbase:base≤w.heap.size)
    (h:∀ v' w',w'.ownsRow base e size v' (n+m) (xs++news)→w.grownBy w' v.ownBlock→(v'.ownBlock=v.ownBlock∨v'.ownBlock=some w.heap.size)→K (a.put o.dst v') w'):o.wp P a w K Q:=by
  obtain ⟨v',w',hr,h2,h3,_,h5⟩:=Go.run_append_own_at (P:=P) w base t o.type e i z size bytes ht hi hz hsize hby hzs hsz v n xs hown ad m c news hl hnews h1 h63 hbytes hbase
  unfold Oper.wp execOp
  simp only [ho,resolve,invoke,builtin,Sem.run_bind,Sem.run_pure,Result.andThen_ok,List.map_toArray,List.map_cons,List.map_nil,hs,hx,hr]
  exact h v' w' h2 h3 h5
theorem existsT (t:Int) (j:Nat) (ht:0≤t∧t≤3) (hj:j<4) (w:World):Calls Tryz.prog 84 #[.int .i64 t,.int .i64 (j:Int)] w fun e w'=>e=.returned (.bool true)∧w=w':=by
  obtain ⟨h1,h2⟩:=ht
  have a1:¬ t<0:=by omega
  have a2:t<4:=by omega
  have a3:(j:Int)<4:=by omega
  have a4:(0:Int)≤(j:Int):=by omega
  go_enter Tryz.func84,Tryz.ntmps84
  go_wp2
  go_ret
  exact ⟨rfl,rfl⟩
theorem rowg_info:(Tryz.prog.info? 67).map (fun i=>(i.zero,i.size,i.bytes))=some (some (.agg #[.int .i64 0,.int .i64 0,.int .i64 0,.int .i64 0,.int .i64 0]),5,40):=by kernel_rfl
theorem pathg_info:(Tryz.prog.info? 53).map (fun i=>(i.zero,i.size,i.bytes))=some (some (.slice none 0 0),1,24):=by kernel_rfl
theorem rowsS_own {W:World} {B:Nat} {v:Value} {l:List RowT} (h:W.ownsRow B 67 5 v l.length (rc l)):RowsS (fun b=>B≤b) W v l:=by
  obtain ⟨A,c,rfl⟩:=own_shape h
  refine ⟨A,c,rfl,fun h0=>?_⟩
  obtain ⟨g,cap,hv,hB,hg,_,hc⟩:=own_cells h h0
  injection hv with hA _ _
  refine ⟨g,hA,hg,hB,fun j r hj i hi=>?_⟩
  rw [← rc_at l j r hj i hi,hc (j*5+i) _ (List.getElem?_eq_getElem (by rw [rc_length];have:=(List.getElem?_eq_some_iff.1 hj).1;omega))]
  exact (List.getElem?_eq_getElem _).symm
def PthS (B bp:Nat) (rv pv:Value) (b:Nat):Prop:=B≤b∧b≠bp∧rv.ownBlock≠some b∧pv.ownBlock≠some b
structure PrvI (Y:World) (B bp br:Nat) (q:RPT) (u8:Value) (rows:List RowT) (ps:List (List ByteArray)) (W:World) (rv pv:Value) (us:List Value):Prop where
  box:Blk W bp 126 (q.nums rv pv u8)
  own:W.ownsRow B 67 5 rv rows.length (rc rows)
  pth:W.ownsRow B 53 1 pv us.length us
  len:us.length=ps.length
  each:∀ (i:Nat) (u:Value) (p:List ByteArray),us[i]? = some u→ps[i]? = some p→Strs (PthS B bp rv pv) W u p
  roots:Strs (fun b=>br<b∧b<B∧b≠bp) W u8 q.roots
  base:Below Y.heap.size Y W
  size:Y.heap.size≤bp∧bp<B∧B≤W.heap.size∧br<Y.heap.size
section
variable {Y:World} {B bp br:Nat} {q:RPT} {u8 rv pv:Value} {rows:List RowT} {ps:List (List ByteArray)} {us:List Value} {W W':World}
theorem PrvI.ext (H:PrvI Y B bp br q u8 rows ps W rv pv us) (k:Below W.heap.size W W'):PrvI Y B bp br q u8 rows ps W' rv pv us:=
  ⟨H.box.ext k,own_ext H.own k,own_ext H.pth k,H.len,fun i u p hi hp=>(H.each i u p hi hp).below k,H.roots.below k,ext_call H.base k,H.size.1,H.size.2.1,Nat.le_trans H.size.2.2.1 k.size,H.size.2.2.2⟩
theorem own_heap {V:World} {e sz n:Nat} {v:Value} {xs:List Value} {r:Nat} (h:W.ownsRow B e sz v n xs) (hr:r<B) (hk:∀ k,k≠r→V.heap[k]? = W.heap[k]?) (hs:W.heap.size≤V.heap.size) (h1:V.os=W.os) (h2:V.tape=W.tape) (h3:V.output=W.output):V.ownsRow B e sz v n xs:=by
  refine h.kept (row:=some r) ⟨h1,h2,h3,hs,fun k _ hn=>hk k (fun e=>hn (by rw [e]))⟩ ?_
  cases hv:v.ownBlock with
  | none=>exact .inl rfl
  | some g=>exact .inr (fun e=>by have:=(h.lt g hv).1;have:=Option.some.inj e;omega)
theorem PrvI.fin {V:World} (H:PrvI Y B bp br q u8 rows ps W rv pv us) (hk:∀ k,k≠br→V.heap[k]? = W.heap[k]?) (hs:W.heap.size=V.heap.size) (h1:V.os=W.os) (h2:V.tape=W.tape) (h3:V.output=W.output) (hq:q.rows=rows) (hp:q.paths=ps):RPV (fun b=>br≤b) V q (q.nums rv pv u8):=by
  have hsz:=H.size
  have hown:=own_heap H.own (by omega) hk (by omega) h1 h2 h3
  have hpth:=own_heap H.pth (by omega) hk (by omega) h1 h2 h3
  refine ⟨rv,pv,u8,rfl,by rw [hq];exact (rowsS_own hown).mono (fun b hb _=>by omega),?_,(H.roots.keep (fun b hb _=>hk b (by omega))).mono (fun b hb _=>by omega)⟩
  rw [hp]
  obtain ⟨A,c,rfl⟩:=own_shape hpth
  refine ⟨A,c,by rw [H.len],fun h0=>?_⟩
  obtain ⟨g,cap,hv,hB,hg,_,hc⟩:=own_cells hpth (by rw [H.len];exact h0)
  injection hv with hA _ _
  refine ⟨g,hA,hg,by omega,fun j p hj=>?_⟩
  have hjl:=(List.getElem?_eq_some_iff.1 hj).1
  obtain ⟨u,hu⟩:∃ u,us[j]? = some u:=⟨_,List.getElem?_eq_getElem (by rw [H.len];exact hjl)⟩
  exact ⟨u,hc j u hu,((H.each j u p hu hj).keep (fun b hb _=>hk b (by have:=hb.1;omega))).mono (fun b hb _=>by have:=hb.1;omega)⟩
end
structure PrvR (B bp:Nat) (q:RPT) (u8:Value) (X:World) (rv pv:Value) (us:List Value) (ps:List (List ByteArray)) (rv':Value) (nr:Nat) (rcs:List Value) (pv':Value) (np:Nat) (ucs:List Value) (U:World):Prop where
  ext:ExtS (ApX bp rv pv) X U
  box:Blk U bp 126 (q.nums rv pv u8)
  own:U.ownsRow B 67 5 rv' nr rcs
  pth:U.ownsRow B 53 1 pv' np ucs
  each:∀ (i:Nat) (u:Value) (p:List ByteArray),us[i]? = some u→ps[i]? = some p→Strs (fun b=>PthS B bp rv pv b∧PthS B bp rv' pv' b) U u p
section
variable {B bp nr np:Nat} {q:RPT} {u8 rv pv rv' pv':Value} {us rcs ucs:List Value} {ps:List (List ByteArray)} {X U V:World}
theorem PrvR.below (H:PrvR B bp q u8 X rv pv us ps rv' nr rcs pv' np ucs U) (k:Below U.heap.size U V):PrvR B bp q u8 X rv pv us ps rv' nr rcs pv' np ucs V:=
  ⟨H.ext.trans (.of_ext k),H.box.ext k,own_ext H.own k,own_ext H.pth k,fun i u p hi hp=>(H.each i u p hi hp).below k⟩
theorem strs_grown {S:Nat→Prop} {u v:Value} {p:List ByteArray} (H:Strs S U u p) (hg:U.grownBy V v.ownBlock) (hS:∀ b,S b→v.ownBlock≠some b):Strs S V u p:=
  H.keep fun b hb hlt=>hg.block b hlt (fun e=>hS b hb e.symm)
theorem PrvR.app_row {v1:Value} {n1:Nat} {xs1:List Value} (H:PrvR B bp q u8 X rv pv us ps rv nr rcs pv' np ucs U) (ho:V.ownsRow B 67 5 v1 n1 xs1) (hg:U.grownBy V rv.ownBlock) (hf:v1.ownBlock=rv.ownBlock∨v1.ownBlock=some U.heap.size):PrvR B bp q u8 X rv pv us ps v1 n1 xs1 pv' np ucs V:=by
  refine ⟨⟨hg.os.trans H.ext.os,hg.tape.trans H.ext.tape,hg.output.trans H.ext.output,Nat.le_trans H.ext.size hg.size,fun k hk hn=>(hg.block k (Nat.lt_of_lt_of_le hk H.ext.size) (fun e=>hn (.inr (.inl e.symm)))).trans (H.ext.block k hk hn)⟩,
    H.box.grownT hg H.own (by decide),ho,own_grownT H.pth hg H.own (by decide),fun i u p hi hp=>?_⟩
  refine Strs.mono (S:=fun b=>(PthS B bp rv pv b∧PthS B bp rv pv' b)∧b<U.heap.size) (strs_grown ((H.each i u p hi hp).mono (fun b hb hl=>⟨hb,hl⟩)) hg (fun b hb=>hb.1.1.2.2.1)) (fun b hb _=>⟨hb.1.1,hb.1.2.1,hb.1.2.2.1,?_,hb.1.2.2.2.2⟩)
  rcases hf with e|e
  · rw [e];exact hb.1.1.2.2.1
  · rw [e];intro e2;have:=Option.some.inj e2;have:=hb.2;omega
theorem PrvR.app_path {v1:Value} {n1:Nat} {xs1:List Value} (H:PrvR B bp q u8 X rv pv us ps rv' nr rcs pv np ucs U) (ho:V.ownsRow B 53 1 v1 n1 xs1) (hg:U.grownBy V pv.ownBlock) (hf:v1.ownBlock=pv.ownBlock∨v1.ownBlock=some U.heap.size):PrvR B bp q u8 X rv pv us ps rv' nr rcs v1 n1 xs1 V:=by
  refine ⟨⟨hg.os.trans H.ext.os,hg.tape.trans H.ext.tape,hg.output.trans H.ext.output,Nat.le_trans H.ext.size hg.size,fun k hk hn=>(hg.block k (Nat.lt_of_lt_of_le hk H.ext.size) (fun e=>hn (.inr (.inr e.symm)))).trans (H.ext.block k hk hn)⟩,
    H.box.grownT hg H.pth (by decide),own_grownT H.own hg H.pth (by decide),ho,fun i u p hi hp=>?_⟩
  refine Strs.mono (S:=fun b=>(PthS B bp rv pv b∧PthS B bp rv' pv b)∧b<U.heap.size) (strs_grown ((H.each i u p hi hp).mono (fun b hb hl=>⟨hb,hl⟩)) hg (fun b hb=>hb.1.1.2.2.2)) (fun b hb _=>⟨hb.1.1,hb.1.2.1,hb.1.2.2.1,hb.1.2.2.2.1,?_⟩)
  rcases hf with e|e
  · rw [e];exact hb.1.1.2.2.2
  · rw [e];intro e2;have:=Option.some.inj e2;have:=hb.2;omega
end
theorem PrvR.start {Y X:World} {B bp br:Nat} {q:RPT} {u8 rv pv u:Value} {rows:List RowT} {ps:List (List ByteArray)} {us:List Value} {p:List ByteArray} (H:PrvI Y B bp br q u8 rows ps X rv pv us) (hu:Strs (PthS B bp rv pv) X u p):PrvR B bp q u8 X rv pv (us++[u]) (ps++[p]) rv rows.length (rc rows) pv us.length us X:=
  ⟨.of_ext (ext_refl X),H.box,H.own,H.pth,fun i v r hi hp=>by
    have hl:=H.len
    rw [List.getElem?_append] at hi hp
    split at hi
    · rw [if_pos (by omega)] at hp
      exact (H.each i v r hi hp).mono (fun b hb _=>⟨hb,hb⟩)
    · rw [if_neg (by omega)] at hp
      have h0:i-us.length=0:=by
        have:=(List.getElem?_eq_some_iff.1 hi).1
        simp at this
        omega
      rw [h0] at hi
      rw [show i-ps.length=0 by omega] at hp
      simp only [List.getElem?_cons_zero,Option.some.injEq] at hi hp
      subst hi hp
      exact hu.mono (fun b hb _=>⟨hb,hb⟩)⟩
theorem os_setCell (W:World) (p:Addr) (v:Value):(W.setCell p v).os=W.os:=rfl
theorem tape_setCell (W:World) (p:Addr) (v:Value):(W.setCell p v).tape=W.tape:=rfl
theorem output_setCell (W:World) (p:Addr) (v:Value):(W.setCell p v).output=W.output:=rfl
theorem size_setCell (W:World) (p:Addr) (v:Value):(W.setCell p v).heap.size=W.heap.size:=by simp [World.setCell]
theorem size_set9 {W:World} {br:Nat} {x0 x1 x2 x3 x4 x5 x6 x7 x8:Value}:W.heap.size=(((((((((W.setCell ⟨br,0,none⟩ x0).setCell ⟨br,1,none⟩ x1).setCell ⟨br,2,none⟩ x2).setCell ⟨br,3,none⟩ x3).setCell ⟨br,4,none⟩ x4).setCell ⟨br,5,none⟩ x5).setCell ⟨br,6,none⟩ x6).setCell ⟨br,7,none⟩ x7).setCell ⟨br,8,none⟩ x8).heap.size:=by simp only [size_setCell]
theorem PrvI.fin9 {Y W:World} {B bp br:Nat} {q:RPT} {u8 rv pv:Value} {rows:List RowT} {ps:List (List ByteArray)} {us:List Value} {x0 x1 x2 x3 x4 x5 x6 x7 x8:Value} (H:PrvI Y B bp br q u8 rows ps W rv pv us) (hq:q.rows=rows) (hp:q.paths=ps):RPV (fun b=>br≤b) (((((((((W.setCell ⟨br,0,none⟩ x0).setCell ⟨br,1,none⟩ x1).setCell ⟨br,2,none⟩ x2).setCell ⟨br,3,none⟩ x3).setCell ⟨br,4,none⟩ x4).setCell ⟨br,5,none⟩ x5).setCell ⟨br,6,none⟩ x6).setCell ⟨br,7,none⟩ x7).setCell ⟨br,8,none⟩ x8) q (q.nums rv pv u8):=
  PrvI.fin H (fun k hk=>heap_set9 hk) size_set9 (by simp only [os_setCell]) (by simp only [tape_setCell]) (by simp only [output_setCell]) hq hp
theorem RPV.mono {S T:Nat→Prop} {W:World} {p:RPT} {va:Array Value} (h:RPV S W p va) (hk:∀ b,S b→T b):RPV T W p va:=by
  obtain ⟨a,b,c,h1,h2⟩:=h
  exact ⟨a,b,c,h1,h2.mono (fun b hb _=>hk b hb)⟩
theorem PrvI.next {Y X V:World} {B bp br k:Nat} {q:RPT} {u8 rv pv u v8 v13:Value} {rows:List RowT} {ps:List (List ByteArray)} {us:List Value} {p:List ByteArray} {r:RowT} (H:PrvI Y B bp br q u8 rows ps X rv pv us) (hx:ExtS (ApX bp rv pv) X V) (hbox:Blk V bp 126 (q.nums v8 v13 u8))
    (hown:V.ownsRow B 67 5 v8 (k+1) (rc rows++encR r)) (hpth:V.ownsRow B 53 1 v13 (k+1) (us++[u])) (heach:∀ (i:Nat) (v:Value) (s:List ByteArray),(us++[u])[i]? = some v→(ps++[p])[i]? = some s→Strs (fun b=>PthS B bp rv pv b∧PthS B bp v8 v13 b) V v s)
    (hr:rows.length=k) (hu:us.length=k):PrvI Y B bp br q u8 (rows++[r]) (ps++[p]) V v8 v13 (us++[u]):=by
  have hsz:=H.size
  have hnot:∀ j,ApX bp rv pv j→Y.heap.size≤j∧(j=bp∨B≤j):=by
    rintro j (h|h|h)
    · omega
    · have:=(H.own.lt j h).1;omega
    · have:=(H.pth.lt j h).1;omega
  refine ⟨hbox,by rw [List.length_append,hr,rc_append];exact hown,by rw [List.length_append,hu];exact hpth,by rw [List.length_append,List.length_append,H.len];rfl,fun i v s hi hs=>(heach i v s hi hs).mono (fun b hb _=>hb.2),?_,ExtS.below H.base (fun j hj=>(hnot j hj).1) hx,hsz.1,hsz.2.1,Nat.le_trans hsz.2.2.1 hx.size,hsz.2.2.2⟩
  exact H.roots.keep (fun b hb hl=>hx.block b hl (fun h=>by have:=hnot b h;omega))
theorem ordS_len (rs:List RowT) (t:Int) (j:Nat):(ordS rs t j).length=(ordR rs t j).length:=by simp [ordS,ordR]
theorem sumsS (rs:List RowT) (hrs:∀ r ∈ rs,r.ok) (hsz:rs.length≤60) (hap:Apart rs) (gs gm:Nat) (pos:Int) (w:World) (hS:StateR w gs gm pos rs) (hR:RoundOK w) :
    Calls Tryz.prog 70 #[.pointer (some ⟨gs,0,none⟩)] w fun e w'=>∃ A n c,e=.returned (.slice A n c)∧Strs (fun b=>w.heap.size≤b) w' (.slice A n c) (sumsF rs)∧Below w.heap.size w w':=by
  refine (summariesS rs hrs hsz hap gs gm pos w hS hR).mono ?_
  rintro e W1 ⟨v,rfl,hs,hb⟩
  obtain ⟨A,n,c,rfl⟩:=strs_slice' hs
  exact ⟨A,n,c,rfl,hs,hb⟩
theorem proveS (rs:List RowT) (hrs:∀ r ∈ rs,r.ok) (hsz:rs.length≤60) (hap:Apart rs) (gs gm:Nat) (pos t lo hi:Int) (j:Nat) (ht:0≤t∧t≤3) (hj:j<4) (hlh:lo≤hi) (w:World) (hS:StateR w gs gm pos rs) (hR:RoundOK w) :
    Calls Tryz.prog 49 #[.pointer (some ⟨gs,0,none⟩),.int .i64 t,.int .i64 (j:Int),.int .i64 lo,.int .i64 hi] w
      fun e w'=>∃ va,e=.returned (.tuple #[.agg va,.int .i64 0])∧RPV (fun b=>w.heap.size≤b) w' (proveF rs t j lo hi) va∧Below w.heap.size w w':=by
  obtain ⟨ir,hir,hzr0,hzr1,hzr2⟩:=info_parts rowg_info
  obtain ⟨ip,hip,hzp0,hzp1,hzp2⟩:=info_parts pathg_info
  have hmf:∀ (fn:Fn) (first cap:Array Value) (w:World),(Instr.makeFunc fn first cap).run Tryz.prog w=.ok (.func fn first cap) w:=fun _ _ _ _=>rfl
  obtain ⟨W0,hW0⟩:∃ W0,W0=(((w.alloc (.cells #[.int .i64 (j:Int)] 3)).alloc (.cells #[.int .i64 lo] 3)).alloc (.cells #[.int .i64 hi] 3)).alloc (.cells #[.int .i64 0,.int .i64 0,.int .i64 0,.int .i64 0,.int .i64 0,.int .i64 0,.slice none 0 0,.slice none 0 0,.slice none 0 0] 126):=⟨_,rfl⟩
  have HE0:=Lib.hid (show Below w.heap.size w W0 by rw [hW0];exact ext_alloc (ext_alloc (ext_alloc (ext_new _ _) _) _) _)
  have HC0:=Lib.hid (show Blk W0 w.heap.size 3 #[.int .i64 (j:Int)] by rw [hW0];exact (((Blk.new _ _ _).alloc _).alloc _).alloc _)
  have HL0:=Lib.hid (show Blk W0 (w.heap.size+1) 3 #[.int .i64 lo] by rw [hW0];exact ((Blk.new' _ _ _ (by simp)).alloc _).alloc _)
  have HH0:=Lib.hid (show Blk W0 (w.heap.size+1+1) 3 #[.int .i64 hi] by rw [hW0];exact (Blk.new' _ _ _ (by simp)).alloc _)
  have HP0:=Lib.hid (show Blk W0 (w.heap.size+1+1+1) 126 #[.int .i64 0,.int .i64 0,.int .i64 0,.int .i64 0,.int .i64 0,.int .i64 0,.slice none 0 0,.slice none 0 0,.slice none 0 0] by rw [hW0];exact Blk.new' _ _ _ (by simp))
  have HS:=Lib.hid hS
  have HR:=Lib.hid hR
  have HW0:=Lib.hid hW0
  have HORD:=Lib.hid (orderS rs hrs gs gm j pos t hj W0 (HS.out.ext HE0.out) (by omega) hap)
  have HSUM:=Lib.hid (fun W h1 h2=>sumsS rs hrs hsz hap gs gm pos W h1 h2)
  have hLl:(ordR rs t j).length≤60:=Nat.le_trans (selF_length _ _ _ _ _) hsz
  have hEL:=ordS_len rs t j
  have HPV:=Lib.hid (show proveF rs t j lo hi=⟨t,j,lo,hi,(ordR rs t j).length,fromN rs t j lo,((ordR rs t j).drop (fromN rs t j lo)).take (toN rs t j hi-fromN rs t j lo),(List.range (toN rs t j hi-fromN rs t j lo)).map (fun i=>pathF (ordS rs t j) (fromN rs t j lo+i)),sumsF rs⟩ from rfl)
  have HES:=Lib.hid (ordS_size rs t j)
  have HF0:=Lib.hid (show fromN rs t j lo=(ordR rs t j).findIdx (fun r=>decide (lo≤r.col j))-1 from rfl)
  have HT0:=Lib.hid (show toN rs t j hi=min ((ordR rs t j).findIdx (fun r=>decide (hi<r.col j))+1) (ordR rs t j).length from rfl)
  unfold OrderS at HORD
  rw [show selF rs t j (-1000000000) 1000000000=ordR rs t j from rfl] at HORD
  generalize ordR rs t j=L at *
  generalize ordS rs t j=E at *
  generalize sumsF rs=SM at *
  generalize fromN rs t j lo=F at *
  generalize toN rs t j hi=T at *
  generalize proveF rs t j lo hi=q at *
  obtain ⟨a,ha⟩:∃ a,a=L.findIdx (fun r=>decide (lo≤r.col j)):=⟨_,rfl⟩
  obtain ⟨b,hb⟩:∃ b,b=L.findIdx (fun r=>decide (hi<r.col j)):=⟨_,rfl⟩
  have HIG:=Lib.hid (fun (bo bc bl:Nat) (v1 v2:Value) (W:World)=>indexGe bo bc bl j lo hj v1 v2 L (by omega) W)
  have HIT:=Lib.hid (fun (bo bc bl:Nat) (v1 v2:Value) (W:World)=>indexGt bo bc bl j hi hj v1 v2 L (by omega) W)
  rw [← ha] at HIG HF0
  rw [← hb] at HIT HT0
  have hal:a≤L.length:=by rw [ha];exact List.findIdx_le_length
  have hbl:b≤L.length:=by rw [hb];exact List.findIdx_le_length
  have hFa:F=a-1:=HF0.out
  have hTb:T=min (b+1) L.length:=HT0.out
  have HEL:=Lib.hid hEL
  clear hEL
  have hTl:T≤L.length:=by omega
  have hFl:F≤L.length:=by omega
  have e1:IntKind.i64.wrap ((a:Int)-1)=(a:Int)-1:=IntWalk.i64_in _ (by omega)
  have e2:IntKind.i64.wrap ((b:Int)+1)=(b:Int)+1:=IntWalk.i64_in _ (by omega)
  have hmx:max ((a:Int)-1) 0=(F:Int):=by omega
  have hmn:min ((b:Int)+1) (L.length:Int)=(T:Int):=by omega
  have q1:¬ hi<lo:=by omega
  have HFT:=Lib.hid (And.intro hFa hTb)
  clear hW0 hS hR hrs hap ha hb hFa hTb HF0 HT0
  go_enter Tryz.func49,Tryz.ntmps49
  go_wp2_with (go_at_call 84;refine (existsT t j ht hj _).mono ?_;rintro e w' ⟨rfl,rfl⟩)
  rw [← HW0.out]
  refine HORD.out.mono ?_
  rintro e W1 ⟨v1,v2,rfl,⟨hr1,hs1⟩,hb1⟩
  have HRW1:=Lib.hid hr1
  have HST1:=Lib.hid hs1
  obtain ⟨A1,c1,rfl,-⟩:=hr1
  obtain ⟨A2,c2,rfl,-⟩:=hs1
  have HE1:=Lib.hid (ext_call HE0.out hb1)
  have HC1:=Lib.hid (HC0.out.ext hb1)
  have HL1:=Lib.hid (HL0.out.ext hb1)
  have HH1:=Lib.hid (HH0.out.ext hb1)
  have HP1:=Lib.hid (HP0.out.ext hb1)
  clear hb1 HORD
  go_wp2_with fail
  refine (HIG.out W1.heap.size w.heap.size (w.heap.size+1) (.slice A1 L.length c1) (.slice A2 E.length c2) _ (Blk.new _ _ _) (HRW1.out.ext (ext_new _ _)) (HC1.out.alloc _) (HL1.out.alloc _)).mono ?_
  rintro e X ⟨rfl,hbx⟩
  have hEx:=ext_call (ext_alloc HE1.out _) hbx
  have HCx:=Lib.hid ((HC1.out.alloc _).ext hbx)
  have HLx:=Lib.hid ((HL1.out.alloc _).ext hbx)
  have HHx:=Lib.hid ((HH1.out.alloc _).ext hbx)
  have HPx:=Lib.hid ((HP1.out.alloc _).ext hbx)
  have HOx:=Lib.hid ((Blk.new W1 168 #[.slice A1 L.length c1,.slice A2 E.length c2]).ext hbx)
  have HRx:=Lib.hid ((HRW1.out.ext (ext_new W1 (.cells #[.slice A1 L.length c1,.slice A2 E.length c2] 168))).ext hbx)
  have HSx:=Lib.hid ((HST1.out.below (ext_new W1 (.cells #[.slice A1 L.length c1,.slice A2 E.length c2] 168))).below hbx)
  have HBo:=Lib.hid (show w.heap.size+1+1+1<W1.heap.size from HP1.out.lt)
  have HEx:=Lib.hid hEx
  clear hbx hEx HC1 HL1 HH1 HP1 HE1 HC0 HL0 HH0 HP0 HRW1 HST1
  generalize W1.heap.size=bo at *
  have o0:=HOx.out.cell 0
  have HK0:=Lib.hid (show X.cell? ⟨bo,0,none⟩=some (.slice A1 L.length c1)∧Below X.heap.size X X from ⟨o0,ext_refl X⟩)
  go_wp2
  go_region_held3 (fun w'=>w'.cell? ⟨bo,0,none⟩=some (.slice A1 L.length c1)∧Below X.heap.size X w')
    (first|exact keepC1 HK0.out (ext_refl X).drew|assumption|exact keepC1 (by assumption) (by assumption))
    (first|(go_at_call 86;(with_reducible refine (HIT.out bo w.heap.size (w.heap.size+1+1) (.slice A1 L.length c1) (.slice A2 E.length c2) _ ?_ ?_ ?_ ?_).mono ?_);(exact HOx.out.ext (keepC1B (by assumption)));(exact HRx.out.ext (keepC1B (by assumption)));(exact HCx.out.ext (keepC1B (by assumption)));(exact HHx.out.ext (keepC1B (by assumption)));rintro e Y ⟨rfl,hb'⟩))
  have HEy:=Lib.hid (ext_call HEx.out (undrew hb'))
  have HCy:=Lib.hid (HCx.out.ext (undrew hb'))
  have HLy:=Lib.hid (HLx.out.ext (undrew hb'))
  have HHy:=Lib.hid (HHx.out.ext (undrew hb'))
  have HPy:=Lib.hid (HPx.out.ext (undrew hb'))
  have HOy:=Lib.hid (HOx.out.ext (undrew hb'))
  have HRWy:=Lib.hid (HRx.out.ext (undrew hb'))
  have HSTy:=Lib.hid (HSx.out.below (undrew hb'))
  have HSy:=Lib.hid (HS.out.ext HEy.out)
  have HRy:=Lib.hid (HR.out.below HEy.out)
  clear hb' o0 HCx HLx HHx HPx HOx HEx HK0 HRx HSx HIG HIT e1 e2 hmx
  have k0:=HCy.out.cell 0
  have l0:=HLy.out.cell 0
  have h0:=HHy.out.cell 0
  have o0:=HOy.out.cell 0
  have HK1:=Lib.hid (show Y.cell? ⟨w.heap.size,0,none⟩=some (.int .i64 (j:Int))∧Y.cell? ⟨w.heap.size+1,0,none⟩=some (.int .i64 lo)∧Y.cell? ⟨w.heap.size+1+1,0,none⟩=some (.int .i64 hi)∧Y.cell? ⟨bo,0,none⟩=some (.slice A1 L.length c1)∧Below Y.heap.size Y Y from ⟨k0,l0,h0,o0,ext_refl Y⟩)
  go_upto_region 9 with (fail)
  go_cut [16] from 53 to 63 (fun v W=>∃ (bp m8 d8:Nat) (B8:Option Addr),v=.pointer (some ⟨bp,0,none⟩)∧Blk W bp 126 #[.int .i64 t,.int .i64 (j:Int),.int .i64 lo,.int .i64 hi,.int .i64 (L.length:Int),.int .i64 (F:Int),.slice none 0 0,.slice none 0 0,.slice B8 m8 d8]∧Below Y.heap.size Y W∧Strs (fun b=>w.heap.size+1+1+1<b∧b<W.heap.size∧b≠bp) W (.slice B8 m8 d8) SM∧Y.heap.size≤bp)
  case first=>
      go_wp2
      go_region_held3 (fun w'=>w'.cell? ⟨w.heap.size,0,none⟩=some (.int .i64 (j:Int))∧w'.cell? ⟨w.heap.size+1,0,none⟩=some (.int .i64 lo)∧w'.cell? ⟨w.heap.size+1+1,0,none⟩=some (.int .i64 hi)∧w'.cell? ⟨bo,0,none⟩=some (.slice A1 L.length c1)∧Below Y.heap.size Y w')
        (first|with_reducible assumption|exact keepC4 HK1.out (by repeat (first|with_reducible refine ext_alloc ?_ _|with_reducible refine Below.drew ?_|with_reducible assumption|with_reducible exact ext_refl _|refine ext_set ?_ (Nat.le_refl _) _)))
        (first|(go_at_call 70;(with_reducible refine (HSUM.out _ ?_ ?_).mono ?_);(exact HSy.out.ext (keepC4B (by assumption)));(exact HRy.out.below (keepC4B (by assumption)));rintro e Z ⟨B8,m8,d8,rfl,hs',hb'⟩;have hYZ:=ext_call (keepC4B (by assumption)) hb';try (have hbx:=(show Blk Z Y.heap.size 126 #[.int .i64 0,.int .i64 0,.int .i64 0,.int .i64 0,.int .i64 0,.int .i64 0,.slice none 0 0,.slice none 0 0,.slice none 0 0] from ((Blk.new Y _ _).drew).ext hb');have bx0:=hbx.cell 0;have bf0:=hbx.frozen 0;have bx1:=hbx.cell 1;have bf1:=hbx.frozen 1;have bx2:=hbx.cell 2;have bf2:=hbx.frozen 2;have bx3:=hbx.cell 3;have bf3:=hbx.frozen 3;have bx4:=hbx.cell 4;have bf4:=hbx.frozen 4;have bx5:=hbx.cell 5;have bf5:=hbx.frozen 5;have bx6:=hbx.cell 6;have bf6:=hbx.frozen 6;have bx7:=hbx.cell 7;have bf7:=hbx.frozen 7;have bx8:=hbx.cell 8;have bf8:=hbx.frozen 8;have HBX:=Lib.hid hbx;clear hbx)))
      all_goals
        first
        | (generalize hV:(World.setCell (World.setCell (World.setCell (World.setCell (World.setCell (World.setCell (World.setCell (World.setCell (World.setCell Z ⟨Y.heap.size,0,none⟩ (.int .i64 t)) ⟨Y.heap.size,1,none⟩ (.int .i64 (j:Int))) ⟨Y.heap.size,2,none⟩ (.int .i64 lo)) ⟨Y.heap.size,3,none⟩ (.int .i64 hi)) ⟨Y.heap.size,4,none⟩ (.int .i64 (L.length:Int))) ⟨Y.heap.size,5,none⟩ (.int .i64 (F:Int))) ⟨Y.heap.size,6,none⟩ (.slice none 0 0)) ⟨Y.heap.size,7,none⟩ (.slice none 0 0)) ⟨Y.heap.size,8,none⟩ (.slice B8 m8 d8))=V
           have HPv:=Lib.hid (show Blk V Y.heap.size 126 #[.int .i64 t,.int .i64 (j:Int),.int .i64 lo,.int .i64 hi,.int .i64 (L.length:Int),.int .i64 (F:Int),.slice none 0 0,.slice none 0 0,.slice B8 m8 d8] by subst hV;exact blk_set9 HBX.out)
           have HEv:=Lib.hid (show Below Y.heap.size Y V by subst hV;exact ext_set9 hYZ (Nat.le_refl _))
           have HSv:=Lib.hid (show Strs (fun b=>w.heap.size+1+1+1<b∧b<V.heap.size∧b≠Y.heap.size) V (.slice B8 m8 d8) SM by subst hV;exact (hs'.keep (fun k hk _=>heap_set9 (by simp at hk;omega))).mono (fun _ hk hl=>by have:=HPy.out.lt;simp at hk;omega))
           clear bx0 bf0 bx1 bf1 bx2 bf2 bx3 bf3 bx4 bf4 bx5 bf5 bx6 bf6 bx7 bf7 bx8 bf8 hV HBX hb' hs' hYZ
           generalize hbp:Y.heap.size=bp at HPv HSv ⊢
           have HLe:=Lib.hid (show Y.heap.size≤bp by omega)
           clear hbp)
        | (generalize hV:World.alloc Z (.cells #[.int .i64 t,.int .i64 (j:Int),.int .i64 lo,.int .i64 hi,.int .i64 (L.length:Int),.int .i64 (F:Int),.slice none 0 0,.slice none 0 0,.slice B8 m8 d8] 126)=V
           have HPv:=Lib.hid (show Blk V Z.heap.size 126 #[.int .i64 t,.int .i64 (j:Int),.int .i64 lo,.int .i64 hi,.int .i64 (L.length:Int),.int .i64 (F:Int),.slice none 0 0,.slice none 0 0,.slice B8 m8 d8] by subst hV;exact Blk.new _ _ _)
           have HEv:=Lib.hid (show Below Y.heap.size Y V by subst hV;exact ext_alloc hYZ _)
           have HSv:=Lib.hid (show Strs (fun b=>w.heap.size+1+1+1<b∧b<V.heap.size∧b≠Z.heap.size) V (.slice B8 m8 d8) SM by subst hV;exact ((hs'.mono (S':=fun b=>w.heap.size+1+1+1<b∧b<Z.heap.size) (fun b hk hlt=>by have:=HPy.out.lt;simp at hk;omega)).below (ext_new _ _)).mono (fun b hk _=>by simp;omega))
           have hle:=hYZ.size
           clear hV hb' hs' hYZ
           generalize hbp:Z.heap.size=bp at HPv HSv ⊢
           have HLe:=Lib.hid (show Y.heap.size≤bp by omega)
           clear hbp hle)
      all_goals
        go_wp2_with fail
        go_meet
        case rel=>exact ⟨bp,m8,d8,B8,rfl,HPv.out,HEv.out,HSv.out,HLe.out⟩
  case rest =>
    obtain ⟨bp,m8,d8,B8,rfl,hPv,hEv,hSv,hLe⟩:=hcut
    have HPv:=Lib.hid hPv
    have HEv:=Lib.hid hEv
    have HSv:=Lib.hid hSv
    have HLe:=Lib.hid hLe
    clear hPv hEv hSv hLe
    generalize wc=V at *
    obtain ⟨u8,hu8⟩:∃ u8:Value,u8=.slice B8 m8 d8:=⟨_,rfl⟩
    have HI0:=Lib.hid (show PrvI Y V.heap.size bp (w.heap.size+1+1+1) q u8 [] [] V (.slice none 0 0) (.slice none 0 0) [] by
      have hq:=HPV.out
      subst hq
      subst hu8
      exact ⟨HPv.out,World.ownsRow_nil _ _ _ _,World.ownsRow_nil _ _ _ _,rfl,fun i u p hi=>by simp at hi,HSv.out,HEv.out,HLe.out,HPv.out.lt,Nat.le_refl _,HPy.out.lt⟩)
    have HEw:=Lib.hid HEy.out
    have HTF:=Lib.hid (And.intro HOy.out (And.intro HRWy.out HSTy.out))
    have hq5:q.rows=(L.drop F).take (T-F):=by rw [HPV.out]
    have hq6:q.paths=(List.range (T-F)).map (fun i=>pathF E (F+i)):=by rw [HPV.out]
    have HQ:=Lib.hid (And.intro hq5 hq6)
    obtain ⟨B,hB⟩:∃ B,B=V.heap.size:=⟨_,rfl⟩
    rw [← hB] at HI0
    clear hB hq5 hq6 hu8 k0 l0 h0 o0 HK1 HCy HLy HHy HOy HSy HEy HSUM HRWy HSTy HPv HSv HEv HLe hmn
    go_wp2
    go_loopw [17,18,19] (fun iv _ _ W=>∃ (k:Nat) (rv pv:Value) (us:List Value),k≤T-F∧iv=.int .i64 ((F+k:Nat):Int)∧PrvI Y B bp (w.heap.size+1+1+1) q u8 ((L.drop F).take k) (((List.range (T-F)).map (fun i=>pathF E (F+i))).take k) W rv pv us) (fun iv _ _ _=>T-(intOf iv).toNat)
    case atStart=>exact ⟨0,_,_,[],Nat.zero_le _,by simp,HI0.out⟩
    case round=>
      obtain ⟨k,rv,pv,us,hk,rfl,hI⟩:=hrel
      obtain ⟨m,hm⟩:∃ m,m=F+k:=⟨_,rfl⟩
      rw [← hm]
      have HM:=Lib.hid hm
      have HI:=Lib.hid hI
      have hsz:=hI.size
      have hPl:((List.range (T-F)).map (fun i=>pathF E (F+i))).length=T-F:=by simp
      have hrl:((L.drop F).take k).length=k:=by rw [List.length_take,List.length_drop];omega
      have hul:us.length=k:=by rw [hI.len,List.length_take,hPl];omega
      by_cases hlt:k<T-F
      · obtain ⟨r,hr⟩:∃ r,L[m]? = some r:=⟨_,List.getElem?_eq_getElem (by omega)⟩
        have HRT:=Lib.hid (show (L.drop F).take (k+1)=(L.drop F).take k++[r] by rw [List.take_add_one,List.getElem?_drop,← hm,hr];rfl)
        have HPT:=Lib.hid (show ((List.range (T-F)).map (fun i=>pathF E (F+i))).take (k+1)=((List.range (T-F)).map (fun i=>pathF E (F+i))).take k++[pathF E m] by
          rw [List.take_add_one,List.getElem?_map,List.getElem?_range hlt,hm]
          rfl)
        generalize ((List.range (T-F)).map (fun i=>pathF E (F+i))).take k=P0 at *
        generalize (L.drop F).take k=R0 at *
        obtain ⟨g,c',hA,hg,hc9⟩:=HTF.out.2.1.at_ hr
        injection hA with hA hn' hc'
        subst hA;subst hc'
        have HPF:=Lib.hid (proof_any (fun b=>b<Y.heap.size) (.slice A2 E.length c2) E m wr ((HTF.out.2.2.mono (fun b _ hl=>hl)).below hI.base) (by have:=HEL.out;omega) (by have:=HEL.out;omega) (fun b hb=>by have:=hI.base.size;omega) (fun x hx=>by have:=HES.out x hx;omega) (HR.out.below (ext_call HEw.out hI.base)))
        rw [show ((wayL E.length E m).map (·.1)).reverse=pathF E m from rfl] at HPF
        obtain ⟨p,hp⟩:∃ p,p=pathF E m:=⟨_,rfl⟩
        rw [← hp] at HPF HPT
        have HOb:=Lib.hid (HTF.out.1.ext hI.base)
        have o1:=HOb.out.cell 1
        have d1:decide ((m:Int)<(T:Int))=true:=decide_eq_true (by omega)
        have d2:decide (m<T)=true:=decide_eq_true (by omega)
        have p9:(m:Int)<(T:Int):=by omega
        have p0:(0:Int)≤(m:Int):=by omega
        have p1:(m:Int)<(L.length:Int):=by omega
        have e5:IntKind.i64.wrap ((m:Int)+1)=(m:Int)+1:=IntWalk.i64_in _ (by omega)
        have HC9:=Lib.hid (show ∀ i,i<5→Y.cell? ⟨g,m*5+i,none⟩=(encR r)[i]? from hc9)
        have HG:=Lib.hid hg
        have HRL:=Lib.hid hrl
        have HUL:=Lib.hid hul
        clear hm hr hn' hc9 hg hp hI hrl hul hPl
        go_wp2_with fail
        refine HPF.out.mono ?_
        rintro e X ⟨u,rfl,hu,hbX⟩
        have HIX:=Lib.hid (HI.out.ext hbX)
        have HU:=Lib.hid (show Strs (PthS B bp rv pv) X u p from hu.mono (fun b hb _=>by
          have h1:wr.heap.size≤b:=hb
          refine ⟨by omega,by omega,fun h=>?_,fun h=>?_⟩
          · have:=(HI.out.own.lt b h).2;omega
          · have:=(HI.out.pth.lt b h).2;omega))
        have HYX:=HIX.out.base
        have HFX:=Lib.hid (show ∀ Z,ExtS (ApX bp rv pv) X Z→Z.cell? ⟨bo,0,none⟩=some (.slice (some ⟨g,0,none⟩) L.length c1)∧Z.cell? ⟨g,m*5,none⟩=(encR r)[0]? ∧ Z.cell? ⟨g,m*5+1,none⟩=(encR r)[1]? ∧ Z.cell? ⟨g,m*5+2,none⟩=(encR r)[2]? ∧ Z.cell? ⟨g,m*5+3,none⟩=(encR r)[3]? ∧ Z.cell? ⟨g,m*5+4,none⟩=(encR r)[4]? ∧ ExtS (ApX bp rv pv) X Z from fun Z hx=>by
          have hlo:∀ j,j<Y.heap.size→¬ ApX bp rv pv j:=by
            rintro j hj (h|h|h)
            · omega
            · have:=(HIX.out.own.lt j h).1;omega
            · have:=(HIX.out.pth.lt j h).1;omega
          have hcl:∀ (j i:Nat) (v:Value),j<Y.heap.size→Y.cell? ⟨j,i,none⟩=some v→Z.cell? ⟨j,i,none⟩=some v:=fun j i v hj h=>ExtS.cell (cell_ext h HIX.out.base) hx (hlo j hj)
          refine ⟨hcl _ _ _ HTF.out.1.lt (HTF.out.1.cell 0),hcl _ _ _ HG.out (HC9.out 0 (by omega)),hcl _ _ _ HG.out (HC9.out 1 (by omega)),hcl _ _ _ HG.out (HC9.out 2 (by omega)),hcl _ _ _ HG.out (HC9.out 3 (by omega)),hcl _ _ _ HG.out (HC9.out 4 (by omega)),hx⟩)
        have HBB:=Lib.hid (show B≤X.heap.size from HIX.out.size.2.2.1)
        have HA:=Lib.hid (show PrvR B bp q u8 X rv pv (us++[u]) (P0++[p]) rv k (rc R0) pv k us X.drew by
          have h9:=(PrvR.start HIX.out HU.out).below (ext_refl X).drew
          rw [HRL.out,HUL.out] at h9
          exact h9)
        obtain ⟨Ar,cr,hrv⟩:=own_shape HA.out.own
        obtain ⟨Aq,cq,hpv⟩:=own_shape HA.out.pth
        obtain ⟨Au,cu,hus,-⟩:=hu
        subst hrv hpv hus
        obtain ⟨r0,r1,r2,r3,r4⟩:=r
        simp only [encR,List.getElem?_cons_zero,List.getElem?_cons_succ] at HFX
        clear HOb o1 d1 hbX HYX HU
        go_wp2
        refine wp_region_L (fun w'=>w'.cell? ⟨bo,0,none⟩=some (.slice (some ⟨g,0,none⟩) L.length c1)∧w'.cell? ⟨g,m*5,none⟩=some (.int .i64 r0)∧w'.cell? ⟨g,m*5+1,none⟩=some (.int .i64 r1)∧w'.cell? ⟨g,m*5+2,none⟩=some (.int .i64 r2)∧w'.cell? ⟨g,m*5+3,none⟩=some (.int .i64 r3)∧w'.cell? ⟨g,m*5+4,none⟩=some (.int .i64 r4)∧ExtS (ApX bp (.slice Ar k cr) (.slice Aq k cq)) X w')
          (fun w'=>w'.cell? ⟨bp,6,none⟩=some (.slice Ar k cr)∧w'.cell? ⟨bp,7,none⟩=some (.slice Aq k cq)) [15,17] (by kernel_rfl) ?_
        generalize X.drew=U0 at *
        refine takeF 0 (v:=?_) rfl (by kernel_rfl) (by kernel_rfl) (by kernel_rfl) (by kernel_rfl) (fun _ _ _ h=>h) (Or.inl ⟨by rfl,?_⟩) (HFX.out _ HA.out.ext) (fun _=>(And.intro (HA.out.box.cell 6) (HA.out.box.cell 7))) ?_
        rotate_left 1
        · (rintro w' ⟨f0,f1,f2,f3,f4,f5,_⟩;go_simp;with_reducible rfl)
        refine takeG 1 (v:=?_) rfl (by kernel_rfl) (by kernel_rfl) (by kernel_rfl) (by kernel_rfl) (by kernel_rfl) (by kernel_rfl) (fun _ _ _ h=>h) (Or.inl ⟨by rfl,?_⟩) (HFX.out _ HA.out.ext) (And.intro (HA.out.box.cell 6) (HA.out.box.cell 7)) ?_
        rotate_left 1
        · (rintro w' ⟨f0,f1⟩;go_simp;with_reducible rfl)
        refine takeF 2 (v:=?_) rfl (by kernel_rfl) (by kernel_rfl) (by kernel_rfl) (by kernel_rfl) (fun _ _ _ h=>h) (Or.inl ⟨by rfl,?_⟩) (HFX.out _ HA.out.ext) (fun _=>(And.intro (HA.out.box.cell 6) (HA.out.box.cell 7))) ?_
        rotate_left 1
        · (rintro w' ⟨f0,f1,f2,f3,f4,f5,_⟩;go_simp;with_reducible rfl)
        refine takeF 3 (v:=?_) rfl (by kernel_rfl) (by kernel_rfl) (by kernel_rfl) (by kernel_rfl) (fun _ _ _ h=>h) (Or.inl ⟨by rfl,?_⟩) (HFX.out _ HA.out.ext) (fun _=>(And.intro (HA.out.box.cell 6) (HA.out.box.cell 7))) ?_
        rotate_left 1
        · (rintro w' ⟨f0,f1,f2,f3,f4,f5,_⟩;go_simp;with_reducible rfl)
        refine takeF 4 (v:=?_) rfl (by kernel_rfl) (by kernel_rfl) (by kernel_rfl) (by kernel_rfl) (fun _ _ _ h=>h) (Or.inl ⟨by rfl,?_⟩) (HFX.out _ HA.out.ext) (fun _=>(And.intro (HA.out.box.cell 6) (HA.out.box.cell 7))) ?_
        rotate_left 1
        · (rintro w' ⟨f0,f1,f2,f3,f4,f5,_⟩;go_simp;with_reducible rfl)
        refine takeF 5 (v:=?_) rfl (by kernel_rfl) (by kernel_rfl) (by kernel_rfl) (by kernel_rfl) (fun _ _ _ h=>h) (Or.inl ⟨by rfl,?_⟩) (HFX.out _ HA.out.ext) (fun _=>(And.intro (HA.out.box.cell 6) (HA.out.box.cell 7))) ?_
        rotate_left 1
        · (rintro w' ⟨f0,f1,f2,f3,f4,f5,_⟩;go_simp;with_reducible rfl)
        refine takeF 6 (v:=?_) rfl (by kernel_rfl) (by kernel_rfl) (by kernel_rfl) (by kernel_rfl) (fun _ _ _ h=>h) (Or.inl ⟨by rfl,?_⟩) (HFX.out _ HA.out.ext) (fun _=>(And.intro (HA.out.box.cell 6) (HA.out.box.cell 7))) ?_
        rotate_left 1
        · (rintro w' ⟨f0,f1,f2,f3,f4,f5,_⟩;go_simp;with_reducible rfl)
        refine takeF 9 (v:=?_) rfl (by kernel_rfl) (by kernel_rfl) (by kernel_rfl) (by kernel_rfl) (fun _ _ _ h=>h) (Or.inl ⟨by rfl,?_⟩) (HFX.out _ HA.out.ext) (fun _=>(And.intro (HA.out.box.cell 6) (HA.out.box.cell 7))) ?_
        rotate_left 1
        · (rintro w' ⟨f0,f1,f2,f3,f4,f5,_⟩;go_simp;with_reducible rfl)
        refine takeG 10 (v:=?_) rfl (by kernel_rfl) (by kernel_rfl) (by kernel_rfl) (by kernel_rfl) (by kernel_rfl) (by kernel_rfl) (fun _ _ _ h=>h) (Or.inl ⟨by rfl,?_⟩) (HFX.out _ HA.out.ext) (And.intro (HA.out.box.cell 6) (HA.out.box.cell 7)) ?_
        rotate_left 1
        · (rintro w' ⟨f0,f1⟩;go_simp;with_reducible rfl)
        refine takeF 11 (v:=?_) rfl (by kernel_rfl) (by kernel_rfl) (by kernel_rfl) (by kernel_rfl) (fun _ _ _ h=>h) (Or.inl ⟨by rfl,?_⟩) (HFX.out _ HA.out.ext) (fun _=>(And.intro (HA.out.box.cell 6) (HA.out.box.cell 7))) ?_
        rotate_left 1
        · (rintro w' ⟨f0,f1,f2,f3,f4,f5,_⟩;go_simp;with_reducible rfl)
        refine allL [7,12] (by kernel_rfl) (by simp) ?_
        simp only [List.forall_mem_cons,List.not_mem_nil,false_implies,implies_true,and_true]
        refine ⟨?_,?_⟩
        · refine stepL rfl (by rfl) (fun K hK=>?_)
          go_simp
          obtain ⟨U7,hU⟩:∃ Z,Z=World.alloc U0 (.cells #[.int .i64 r0,.int .i64 r1,.int .i64 r2,.int .i64 r3,.int .i64 r4] 67):=⟨_,rfl⟩
          have hbo:Below U0.heap.size U0 U7:=by rw [hU];exact ext_new _ _
          have HNB:=Lib.hid (show Blk U7 U0.heap.size 67 #[.int .i64 r0,.int .i64 r1,.int .i64 r2,.int .i64 r3,.int .i64 r4] by rw [hU];exact Blk.new _ _ _)
          have HA:=Lib.hid (HA.out.below hbo)
          rw [← hU]
          clear hU hbo
          generalize U0.heap.size=nb at HNB ⊢
          refine hK _ _ ⟨⟨(HFX.out _ HA.out.ext),fun _=>(And.intro (HA.out.box.cell 6) (HA.out.box.cell 7))⟩,?_⟩
          clear hK K
          refine allL [8,12] (by kernel_rfl) (by simp) ?_
          simp only [List.forall_mem_cons,List.not_mem_nil,false_implies,implies_true,and_true]
          refine ⟨?_,?_⟩
          · refine stepL rfl (by rfl) (fun K hK=>?_)
            refine wp_append_at (.tmp 78) (.tmp 84) 34 rfl B 67 ir (.agg #[.int .i64 0,.int .i64 0,.int .i64 0,.int .i64 0,.int .i64 0]) 5 40 Tryz.underlying34 hir hzr0 hzr1 hzr2 rfl (by decide) (.slice Ar k cr) k (rc R0) (by rfl) HA.out.own ⟨nb,0,none⟩ 1 1 [.int .i64 r0,.int .i64 r1,.int .i64 r2,.int .i64 r3,.int .i64 r4] (by rfl) rfl (news_blk HNB.out) (by simp [Value.oneCell']) (by unfold maxLen;omega) (by omega) (Nat.le_trans HBB.out HA.out.ext.size) ?_
            intro v8 W8 ho9 hg9 hf9
            obtain ⟨A8,c8,h9⟩:=own_shape ho9
            subst h9
            have HA:=Lib.hid (HA.out.app_row ho9 hg9 hf9)
            clear ho9 hg9 hf9 HNB
            simp only [Act.put,List.setIfInBounds_toArray,List.set_cons_succ,List.set_cons_zero]
            refine hK _ _ ⟨⟨(HFX.out _ HA.out.ext),fun _=>(And.intro (HA.out.box.cell 6) (HA.out.box.cell 7))⟩,?_⟩
            clear hK K
            refine takeF 14 (v:=?_) rfl (by kernel_rfl) (by kernel_rfl) (by kernel_rfl) (by kernel_rfl) (fun _ _ _ h=>h) (Or.inl ⟨by rfl,?_⟩) (HFX.out _ HA.out.ext) (fun _=>(And.intro (HA.out.box.cell 6) (HA.out.box.cell 7))) ?_
            rotate_left 1
            · (rintro w' ⟨f0,f1,f2,f3,f4,f5,_⟩;go_simp;with_reducible rfl)
            refine allL [12] (by kernel_rfl) (by simp) ?_
            simp only [List.forall_mem_cons,List.not_mem_nil,false_implies,implies_true,and_true]
            refine stepL rfl (by rfl) (fun K hK=>?_)
            go_simp
            obtain ⟨U12,hU⟩:∃ Z,Z=World.alloc W8 (.cells #[.slice Au p.length cu] 53):=⟨_,rfl⟩
            have hbo:Below W8.heap.size W8 U12:=by rw [hU];exact ext_new _ _
            have HMB:=Lib.hid (show Blk U12 W8.heap.size 53 #[.slice Au p.length cu] by rw [hU];exact Blk.new _ _ _)
            have HA:=Lib.hid (HA.out.below hbo)
            rw [← hU]
            clear hU hbo
            generalize W8.heap.size=mb at HMB ⊢
            refine hK _ _ ⟨⟨(HFX.out _ HA.out.ext),fun _=>(And.intro (HA.out.box.cell 6) (HA.out.box.cell 7))⟩,?_⟩
            clear hK K
            refine allL [13] (by kernel_rfl) (by simp) ?_
            simp only [List.forall_mem_cons,List.not_mem_nil,false_implies,implies_true,and_true]
            refine stepL rfl (by rfl) (fun K hK=>?_)
            refine wp_append_at (.tmp 87) (.tmp 89) 124 rfl B 53 ip (.slice none 0 0) 1 24 Tryz.underlying124 hip hzp0 hzp1 hzp2 rfl (by decide) (.slice Aq k cq) k us (by rfl) HA.out.pth ⟨mb,0,none⟩ 1 1 [.slice Au p.length cu] (by rfl) rfl (news_blk HMB.out) (by simp [Value.oneCell']) (by unfold maxLen;omega) (by omega) (Nat.le_trans HBB.out HA.out.ext.size) ?_
            intro v13 W13 ho9 hg9 hf9
            obtain ⟨A13,c13,h9⟩:=own_shape ho9
            subst h9
            have HA:=Lib.hid (HA.out.app_path ho9 hg9 hf9)
            clear ho9 hg9 hf9 HMB
            simp only [Act.put,List.setIfInBounds_toArray,List.set_cons_succ,List.set_cons_zero]
            refine hK _ _ ⟨⟨(HFX.out _ HA.out.ext),fun _=>(And.intro (HA.out.box.cell 6) (HA.out.box.cell 7))⟩,?_⟩
            clear hK K
            have p6:=HA.out.box.cell 6
            have pf6:=HA.out.box.frozen 6
            have pl:=HA.out.box.lt
            refine allL [15] (by kernel_rfl) (by simp) ?_
            simp only [List.forall_mem_cons,List.not_mem_nil,false_implies,implies_true,and_true]
            refine stepL rfl (by rfl) (fun K hK=>?_)
            go_simp
            obtain ⟨U15,hU⟩:∃ Z,Z=World.setCell W13 ⟨bp,6,none⟩ (.slice A8 (k+1) c8):=⟨_,rfl⟩
            rw [← hU]
            have HE15:=Lib.hid (show ExtS (ApX bp (.slice Ar k cr) (.slice Aq k cq)) X U15 by rw [hU];exact HA.out.ext.setG)
            have HL15:=Lib.hid (show Blk U15 bp 126 (q.nums (.slice A8 (k+1) c8) (.slice Aq k cq) u8) by rw [hU];exact HA.out.box.set_ 6 _)
            have HR15:=Lib.hid (show World.ownsRow U15 B 67 5 _ _ _ by rw [hU];exact own_setT HA.out.own HA.out.box (by decide) _ _)
            have HP15:=Lib.hid (show World.ownsRow U15 B 53 1 _ _ _ by rw [hU];exact own_setT HA.out.pth HA.out.box (by decide) _ _)
            have HC15:=Lib.hid (show ∀ (i:Nat) (v:Value) (s:List ByteArray),(us++[.slice Au p.length cu])[i]? = some v→(P0++[p])[i]? = some s→Strs (fun b=>PthS B bp (.slice Ar k cr) (.slice Aq k cq) b∧PthS B bp (.slice A8 (k+1) c8) (.slice A13 (k+1) c13) b) U15 v s from fun i v s hi hs=>by rw [hU];exact (HA.out.each i v s hi hs).keep (fun b hb _=>Below.heap_setCell _ _ _ _ (fun e=>hb.1.2.1 e)))
            clear hU p6 pf6 pl HA
            refine hK _ _ ⟨⟨HFX.out _ HE15.out,fun h=>absurd h (by decide)⟩,?_⟩
            clear hK K
            refine takeF 16 (v:=?_) rfl (by kernel_rfl) (by kernel_rfl) (by kernel_rfl) (by kernel_rfl) (fun _ _ _ h=>h) (Or.inl ⟨by rfl,?_⟩) (HFX.out _ HE15.out) (fun h=>absurd h (by decide)) ?_
            rotate_left 1
            · (rintro w' ⟨f0,f1,f2,f3,f4,f5,_⟩;go_simp;with_reducible rfl)
            have p7:=HL15.out.cell 7
            have pf7:=HL15.out.frozen 7
            have pl:=HL15.out.lt
            refine allL [17] (by kernel_rfl) (by simp) ?_
            simp only [List.forall_mem_cons,List.not_mem_nil,false_implies,implies_true,and_true]
            refine stepL rfl (by rfl) (fun K hK=>?_)
            go_simp
            obtain ⟨U17,hU⟩:∃ Z,Z=World.setCell U15 ⟨bp,7,none⟩ (.slice A13 (k+1) c13):=⟨_,rfl⟩
            rw [← hU]
            have HE17:=Lib.hid (show ExtS (ApX bp (.slice Ar k cr) (.slice Aq k cq)) X U17 by rw [hU];exact HE15.out.setG)
            have HL17:=Lib.hid (show Blk U17 bp 126 (q.nums (.slice A8 (k+1) c8) (.slice A13 (k+1) c13) u8) by rw [hU];exact HL15.out.set_ 7 _)
            have HR17:=Lib.hid (show World.ownsRow U17 B 67 5 _ _ _ by rw [hU];exact own_setT HR15.out HL15.out (by decide) _ _)
            have HP17:=Lib.hid (show World.ownsRow U17 B 53 1 _ _ _ by rw [hU];exact own_setT HP15.out HL15.out (by decide) _ _)
            have HC17:=Lib.hid (show ∀ (i:Nat) (v:Value) (s:List ByteArray),(us++[.slice Au p.length cu])[i]? = some v→(P0++[p])[i]? = some s→Strs (fun b=>PthS B bp (.slice Ar k cr) (.slice Aq k cq) b∧PthS B bp (.slice A8 (k+1) c8) (.slice A13 (k+1) c13) b) U17 v s from fun i v s hi hs=>by rw [hU];exact (HC15.out i v s hi hs).keep (fun b hb _=>Below.heap_setCell _ _ _ _ (fun e=>hb.1.2.1 e)))
            clear hU p7 pf7 pl
            refine hK _ _ ⟨⟨HFX.out _ HE17.out,fun h=>absurd h (by decide)⟩,?_⟩
            clear hK K
            refine doneL (by kernel_rfl) ?_ _
            go_wp2
            go_roundw
            case rel=>exact ⟨k+1,_,_,_,by omega,by rw [HM.out];go_num,by rw [HRT.out,HPT.out];exact PrvI.next HIX.out HE17.out HL17.out HR17.out HP17.out HC17.out HRL.out HUL.out⟩
            case measure=>have:=HM.out;simp [intOf];omega
          · refine stepL rfl (by rfl) (fun K hK=>?_)
            go_simp
            obtain ⟨U12,hU⟩:∃ Z,Z=World.alloc U7 (.cells #[.slice Au p.length cu] 53):=⟨_,rfl⟩
            have hbo:Below U7.heap.size U7 U12:=by rw [hU];exact ext_new _ _
            have HMB:=Lib.hid (show Blk U12 U7.heap.size 53 #[.slice Au p.length cu] by rw [hU];exact Blk.new _ _ _)
            have HA:=Lib.hid (HA.out.below hbo)
            have HNB:=Lib.hid (HNB.out.ext hbo)
            rw [← hU]
            clear hU hbo
            generalize U7.heap.size=mb at HMB ⊢
            refine hK _ _ ⟨⟨(HFX.out _ HA.out.ext),fun _=>(And.intro (HA.out.box.cell 6) (HA.out.box.cell 7))⟩,?_⟩
            clear hK K
            refine allL [8] (by kernel_rfl) (by simp) ?_
            simp only [List.forall_mem_cons,List.not_mem_nil,false_implies,implies_true,and_true]
            refine stepL rfl (by rfl) (fun K hK=>?_)
            refine wp_append_at (.tmp 78) (.tmp 84) 34 rfl B 67 ir (.agg #[.int .i64 0,.int .i64 0,.int .i64 0,.int .i64 0,.int .i64 0]) 5 40 Tryz.underlying34 hir hzr0 hzr1 hzr2 rfl (by decide) (.slice Ar k cr) k (rc R0) (by rfl) HA.out.own ⟨nb,0,none⟩ 1 1 [.int .i64 r0,.int .i64 r1,.int .i64 r2,.int .i64 r3,.int .i64 r4] (by rfl) rfl (news_blk HNB.out) (by simp [Value.oneCell']) (by unfold maxLen;omega) (by omega) (Nat.le_trans HBB.out HA.out.ext.size) ?_
            intro v8 W8 ho9 hg9 hf9
            obtain ⟨A8,c8,h9⟩:=own_shape ho9
            subst h9
            have HMB:=Lib.hid (HMB.out.grownT hg9 HA.out.own (by decide))
            have HA:=Lib.hid (HA.out.app_row ho9 hg9 hf9)
            clear ho9 hg9 hf9 HNB
            simp only [Act.put,List.setIfInBounds_toArray,List.set_cons_succ,List.set_cons_zero]
            refine hK _ _ ⟨⟨(HFX.out _ HA.out.ext),fun _=>(And.intro (HA.out.box.cell 6) (HA.out.box.cell 7))⟩,?_⟩
            clear hK K
            refine takeF 14 (v:=?_) rfl (by kernel_rfl) (by kernel_rfl) (by kernel_rfl) (by kernel_rfl) (fun _ _ _ h=>h) (Or.inl ⟨by rfl,?_⟩) (HFX.out _ HA.out.ext) (fun _=>(And.intro (HA.out.box.cell 6) (HA.out.box.cell 7))) ?_
            rotate_left 1
            · (rintro w' ⟨f0,f1,f2,f3,f4,f5,_⟩;go_simp;with_reducible rfl)
            refine allL [13] (by kernel_rfl) (by simp) ?_
            simp only [List.forall_mem_cons,List.not_mem_nil,false_implies,implies_true,and_true]
            refine stepL rfl (by rfl) (fun K hK=>?_)
            refine wp_append_at (.tmp 87) (.tmp 89) 124 rfl B 53 ip (.slice none 0 0) 1 24 Tryz.underlying124 hip hzp0 hzp1 hzp2 rfl (by decide) (.slice Aq k cq) k us (by rfl) HA.out.pth ⟨mb,0,none⟩ 1 1 [.slice Au p.length cu] (by rfl) rfl (news_blk HMB.out) (by simp [Value.oneCell']) (by unfold maxLen;omega) (by omega) (Nat.le_trans HBB.out HA.out.ext.size) ?_
            intro v13 W13 ho9 hg9 hf9
            obtain ⟨A13,c13,h9⟩:=own_shape ho9
            subst h9
            have HA:=Lib.hid (HA.out.app_path ho9 hg9 hf9)
            clear ho9 hg9 hf9 HMB
            simp only [Act.put,List.setIfInBounds_toArray,List.set_cons_succ,List.set_cons_zero]
            refine hK _ _ ⟨⟨(HFX.out _ HA.out.ext),fun _=>(And.intro (HA.out.box.cell 6) (HA.out.box.cell 7))⟩,?_⟩
            clear hK K
            have p6:=HA.out.box.cell 6
            have pf6:=HA.out.box.frozen 6
            have pl:=HA.out.box.lt
            refine allL [15] (by kernel_rfl) (by simp) ?_
            simp only [List.forall_mem_cons,List.not_mem_nil,false_implies,implies_true,and_true]
            refine stepL rfl (by rfl) (fun K hK=>?_)
            go_simp
            obtain ⟨U15,hU⟩:∃ Z,Z=World.setCell W13 ⟨bp,6,none⟩ (.slice A8 (k+1) c8):=⟨_,rfl⟩
            rw [← hU]
            have HE15:=Lib.hid (show ExtS (ApX bp (.slice Ar k cr) (.slice Aq k cq)) X U15 by rw [hU];exact HA.out.ext.setG)
            have HL15:=Lib.hid (show Blk U15 bp 126 (q.nums (.slice A8 (k+1) c8) (.slice Aq k cq) u8) by rw [hU];exact HA.out.box.set_ 6 _)
            have HR15:=Lib.hid (show World.ownsRow U15 B 67 5 _ _ _ by rw [hU];exact own_setT HA.out.own HA.out.box (by decide) _ _)
            have HP15:=Lib.hid (show World.ownsRow U15 B 53 1 _ _ _ by rw [hU];exact own_setT HA.out.pth HA.out.box (by decide) _ _)
            have HC15:=Lib.hid (show ∀ (i:Nat) (v:Value) (s:List ByteArray),(us++[.slice Au p.length cu])[i]? = some v→(P0++[p])[i]? = some s→Strs (fun b=>PthS B bp (.slice Ar k cr) (.slice Aq k cq) b∧PthS B bp (.slice A8 (k+1) c8) (.slice A13 (k+1) c13) b) U15 v s from fun i v s hi hs=>by rw [hU];exact (HA.out.each i v s hi hs).keep (fun b hb _=>Below.heap_setCell _ _ _ _ (fun e=>hb.1.2.1 e)))
            clear hU p6 pf6 pl HA
            refine hK _ _ ⟨⟨HFX.out _ HE15.out,fun h=>absurd h (by decide)⟩,?_⟩
            clear hK K
            refine takeF 16 (v:=?_) rfl (by kernel_rfl) (by kernel_rfl) (by kernel_rfl) (by kernel_rfl) (fun _ _ _ h=>h) (Or.inl ⟨by rfl,?_⟩) (HFX.out _ HE15.out) (fun h=>absurd h (by decide)) ?_
            rotate_left 1
            · (rintro w' ⟨f0,f1,f2,f3,f4,f5,_⟩;go_simp;with_reducible rfl)
            have p7:=HL15.out.cell 7
            have pf7:=HL15.out.frozen 7
            have pl:=HL15.out.lt
            refine allL [17] (by kernel_rfl) (by simp) ?_
            simp only [List.forall_mem_cons,List.not_mem_nil,false_implies,implies_true,and_true]
            refine stepL rfl (by rfl) (fun K hK=>?_)
            go_simp
            obtain ⟨U17,hU⟩:∃ Z,Z=World.setCell U15 ⟨bp,7,none⟩ (.slice A13 (k+1) c13):=⟨_,rfl⟩
            rw [← hU]
            have HE17:=Lib.hid (show ExtS (ApX bp (.slice Ar k cr) (.slice Aq k cq)) X U17 by rw [hU];exact HE15.out.setG)
            have HL17:=Lib.hid (show Blk U17 bp 126 (q.nums (.slice A8 (k+1) c8) (.slice A13 (k+1) c13) u8) by rw [hU];exact HL15.out.set_ 7 _)
            have HR17:=Lib.hid (show World.ownsRow U17 B 67 5 _ _ _ by rw [hU];exact own_setT HR15.out HL15.out (by decide) _ _)
            have HP17:=Lib.hid (show World.ownsRow U17 B 53 1 _ _ _ by rw [hU];exact own_setT HP15.out HL15.out (by decide) _ _)
            have HC17:=Lib.hid (show ∀ (i:Nat) (v:Value) (s:List ByteArray),(us++[.slice Au p.length cu])[i]? = some v→(P0++[p])[i]? = some s→Strs (fun b=>PthS B bp (.slice Ar k cr) (.slice Aq k cq) b∧PthS B bp (.slice A8 (k+1) c8) (.slice A13 (k+1) c13) b) U17 v s from fun i v s hi hs=>by rw [hU];exact (HC15.out i v s hi hs).keep (fun b hb _=>Below.heap_setCell _ _ _ _ (fun e=>hb.1.2.1 e)))
            clear hU p7 pf7 pl
            refine hK _ _ ⟨⟨HFX.out _ HE17.out,fun h=>absurd h (by decide)⟩,?_⟩
            clear hK K
            refine doneL (by kernel_rfl) ?_ _
            go_wp2
            go_roundw
            case rel=>exact ⟨k+1,_,_,_,by omega,by rw [HM.out];go_num,by rw [HRT.out,HPT.out];exact PrvI.next HIX.out HE17.out HL17.out HR17.out HP17.out HC17.out HRL.out HUL.out⟩
            case measure=>have:=HM.out;simp [intOf];omega
        · refine stepL rfl (by rfl) (fun K hK=>?_)
          go_simp
          obtain ⟨U12,hU⟩:∃ Z,Z=World.alloc U0 (.cells #[.slice Au p.length cu] 53):=⟨_,rfl⟩
          have hbo:Below U0.heap.size U0 U12:=by rw [hU];exact ext_new _ _
          have HMB:=Lib.hid (show Blk U12 U0.heap.size 53 #[.slice Au p.length cu] by rw [hU];exact Blk.new _ _ _)
          have HA:=Lib.hid (HA.out.below hbo)
          rw [← hU]
          clear hU hbo
          generalize U0.heap.size=mb at HMB ⊢
          refine hK _ _ ⟨⟨(HFX.out _ HA.out.ext),fun _=>(And.intro (HA.out.box.cell 6) (HA.out.box.cell 7))⟩,?_⟩
          clear hK K
          refine allL [7] (by kernel_rfl) (by simp) ?_
          simp only [List.forall_mem_cons,List.not_mem_nil,false_implies,implies_true,and_true]
          refine stepL rfl (by rfl) (fun K hK=>?_)
          go_simp
          obtain ⟨U7,hU⟩:∃ Z,Z=World.alloc U12 (.cells #[.int .i64 r0,.int .i64 r1,.int .i64 r2,.int .i64 r3,.int .i64 r4] 67):=⟨_,rfl⟩
          have hbo:Below U12.heap.size U12 U7:=by rw [hU];exact ext_new _ _
          have HNB:=Lib.hid (show Blk U7 U12.heap.size 67 #[.int .i64 r0,.int .i64 r1,.int .i64 r2,.int .i64 r3,.int .i64 r4] by rw [hU];exact Blk.new _ _ _)
          have HA:=Lib.hid (HA.out.below hbo)
          have HMB:=Lib.hid (HMB.out.ext hbo)
          rw [← hU]
          clear hU hbo
          generalize U12.heap.size=nb at HNB ⊢
          refine hK _ _ ⟨⟨(HFX.out _ HA.out.ext),fun _=>(And.intro (HA.out.box.cell 6) (HA.out.box.cell 7))⟩,?_⟩
          clear hK K
          refine allL [8] (by kernel_rfl) (by simp) ?_
          simp only [List.forall_mem_cons,List.not_mem_nil,false_implies,implies_true,and_true]
          refine stepL rfl (by rfl) (fun K hK=>?_)
          refine wp_append_at (.tmp 78) (.tmp 84) 34 rfl B 67 ir (.agg #[.int .i64 0,.int .i64 0,.int .i64 0,.int .i64 0,.int .i64 0]) 5 40 Tryz.underlying34 hir hzr0 hzr1 hzr2 rfl (by decide) (.slice Ar k cr) k (rc R0) (by rfl) HA.out.own ⟨nb,0,none⟩ 1 1 [.int .i64 r0,.int .i64 r1,.int .i64 r2,.int .i64 r3,.int .i64 r4] (by rfl) rfl (news_blk HNB.out) (by simp [Value.oneCell']) (by unfold maxLen;omega) (by omega) (Nat.le_trans HBB.out HA.out.ext.size) ?_
          intro v8 W8 ho9 hg9 hf9
          obtain ⟨A8,c8,h9⟩:=own_shape ho9
          subst h9
          have HMB:=Lib.hid (HMB.out.grownT hg9 HA.out.own (by decide))
          have HA:=Lib.hid (HA.out.app_row ho9 hg9 hf9)
          clear ho9 hg9 hf9 HNB
          simp only [Act.put,List.setIfInBounds_toArray,List.set_cons_succ,List.set_cons_zero]
          refine hK _ _ ⟨⟨(HFX.out _ HA.out.ext),fun _=>(And.intro (HA.out.box.cell 6) (HA.out.box.cell 7))⟩,?_⟩
          clear hK K
          refine takeF 14 (v:=?_) rfl (by kernel_rfl) (by kernel_rfl) (by kernel_rfl) (by kernel_rfl) (fun _ _ _ h=>h) (Or.inl ⟨by rfl,?_⟩) (HFX.out _ HA.out.ext) (fun _=>(And.intro (HA.out.box.cell 6) (HA.out.box.cell 7))) ?_
          rotate_left 1
          · (rintro w' ⟨f0,f1,f2,f3,f4,f5,_⟩;go_simp;with_reducible rfl)
          refine allL [13] (by kernel_rfl) (by simp) ?_
          simp only [List.forall_mem_cons,List.not_mem_nil,false_implies,implies_true,and_true]
          refine stepL rfl (by rfl) (fun K hK=>?_)
          refine wp_append_at (.tmp 87) (.tmp 89) 124 rfl B 53 ip (.slice none 0 0) 1 24 Tryz.underlying124 hip hzp0 hzp1 hzp2 rfl (by decide) (.slice Aq k cq) k us (by rfl) HA.out.pth ⟨mb,0,none⟩ 1 1 [.slice Au p.length cu] (by rfl) rfl (news_blk HMB.out) (by simp [Value.oneCell']) (by unfold maxLen;omega) (by omega) (Nat.le_trans HBB.out HA.out.ext.size) ?_
          intro v13 W13 ho9 hg9 hf9
          obtain ⟨A13,c13,h9⟩:=own_shape ho9
          subst h9
          have HA:=Lib.hid (HA.out.app_path ho9 hg9 hf9)
          clear ho9 hg9 hf9 HMB
          simp only [Act.put,List.setIfInBounds_toArray,List.set_cons_succ,List.set_cons_zero]
          refine hK _ _ ⟨⟨(HFX.out _ HA.out.ext),fun _=>(And.intro (HA.out.box.cell 6) (HA.out.box.cell 7))⟩,?_⟩
          clear hK K
          have p6:=HA.out.box.cell 6
          have pf6:=HA.out.box.frozen 6
          have pl:=HA.out.box.lt
          refine allL [15] (by kernel_rfl) (by simp) ?_
          simp only [List.forall_mem_cons,List.not_mem_nil,false_implies,implies_true,and_true]
          refine stepL rfl (by rfl) (fun K hK=>?_)
          go_simp
          obtain ⟨U15,hU⟩:∃ Z,Z=World.setCell W13 ⟨bp,6,none⟩ (.slice A8 (k+1) c8):=⟨_,rfl⟩
          rw [← hU]
          have HE15:=Lib.hid (show ExtS (ApX bp (.slice Ar k cr) (.slice Aq k cq)) X U15 by rw [hU];exact HA.out.ext.setG)
          have HL15:=Lib.hid (show Blk U15 bp 126 (q.nums (.slice A8 (k+1) c8) (.slice Aq k cq) u8) by rw [hU];exact HA.out.box.set_ 6 _)
          have HR15:=Lib.hid (show World.ownsRow U15 B 67 5 _ _ _ by rw [hU];exact own_setT HA.out.own HA.out.box (by decide) _ _)
          have HP15:=Lib.hid (show World.ownsRow U15 B 53 1 _ _ _ by rw [hU];exact own_setT HA.out.pth HA.out.box (by decide) _ _)
          have HC15:=Lib.hid (show ∀ (i:Nat) (v:Value) (s:List ByteArray),(us++[.slice Au p.length cu])[i]? = some v→(P0++[p])[i]? = some s→Strs (fun b=>PthS B bp (.slice Ar k cr) (.slice Aq k cq) b∧PthS B bp (.slice A8 (k+1) c8) (.slice A13 (k+1) c13) b) U15 v s from fun i v s hi hs=>by rw [hU];exact (HA.out.each i v s hi hs).keep (fun b hb _=>Below.heap_setCell _ _ _ _ (fun e=>hb.1.2.1 e)))
          clear hU p6 pf6 pl HA
          refine hK _ _ ⟨⟨HFX.out _ HE15.out,fun h=>absurd h (by decide)⟩,?_⟩
          clear hK K
          refine takeF 16 (v:=?_) rfl (by kernel_rfl) (by kernel_rfl) (by kernel_rfl) (by kernel_rfl) (fun _ _ _ h=>h) (Or.inl ⟨by rfl,?_⟩) (HFX.out _ HE15.out) (fun h=>absurd h (by decide)) ?_
          rotate_left 1
          · (rintro w' ⟨f0,f1,f2,f3,f4,f5,_⟩;go_simp;with_reducible rfl)
          have p7:=HL15.out.cell 7
          have pf7:=HL15.out.frozen 7
          have pl:=HL15.out.lt
          refine allL [17] (by kernel_rfl) (by simp) ?_
          simp only [List.forall_mem_cons,List.not_mem_nil,false_implies,implies_true,and_true]
          refine stepL rfl (by rfl) (fun K hK=>?_)
          go_simp
          obtain ⟨U17,hU⟩:∃ Z,Z=World.setCell U15 ⟨bp,7,none⟩ (.slice A13 (k+1) c13):=⟨_,rfl⟩
          rw [← hU]
          have HE17:=Lib.hid (show ExtS (ApX bp (.slice Ar k cr) (.slice Aq k cq)) X U17 by rw [hU];exact HE15.out.setG)
          have HL17:=Lib.hid (show Blk U17 bp 126 (q.nums (.slice A8 (k+1) c8) (.slice A13 (k+1) c13) u8) by rw [hU];exact HL15.out.set_ 7 _)
          have HR17:=Lib.hid (show World.ownsRow U17 B 67 5 _ _ _ by rw [hU];exact own_setT HR15.out HL15.out (by decide) _ _)
          have HP17:=Lib.hid (show World.ownsRow U17 B 53 1 _ _ _ by rw [hU];exact own_setT HP15.out HL15.out (by decide) _ _)
          have HC17:=Lib.hid (show ∀ (i:Nat) (v:Value) (s:List ByteArray),(us++[.slice Au p.length cu])[i]? = some v→(P0++[p])[i]? = some s→Strs (fun b=>PthS B bp (.slice Ar k cr) (.slice Aq k cq) b∧PthS B bp (.slice A8 (k+1) c8) (.slice A13 (k+1) c13) b) U17 v s from fun i v s hi hs=>by rw [hU];exact (HC15.out i v s hi hs).keep (fun b hb _=>Below.heap_setCell _ _ _ _ (fun e=>hb.1.2.1 e)))
          clear hU p7 pf7 pl
          refine hK _ _ ⟨⟨HFX.out _ HE17.out,fun h=>absurd h (by decide)⟩,?_⟩
          clear hK K
          refine doneL (by kernel_rfl) ?_ _
          go_wp2
          go_roundw
          case rel=>exact ⟨k+1,_,_,_,by omega,by rw [HM.out];go_num,by rw [HRT.out,HPT.out];exact PrvI.next HIX.out HE17.out HL17.out HR17.out HP17.out HC17.out HRL.out HUL.out⟩
          case measure=>have:=HM.out;simp [intOf];omega
      · have hkD:k=T-F:=by omega
        subst hkD
        have d1:decide ((m:Int)<(T:Int))=false:=decide_eq_false (by have:=HM.out;omega)
        have d2:decide (m<T)=false:=decide_eq_false (by have:=HM.out;omega)
        obtain ⟨Ar,cr,hrv⟩:=own_shape hI.own
        obtain ⟨Aq,cq,hpv⟩:=own_shape hI.pth
        obtain ⟨A8,c8,hu8,-⟩:=id hI.roots
        obtain ⟨n8,hn8⟩:∃ n8,n8=q.roots.length:=⟨_,rfl⟩
        rw [hrl] at hrv
        rw [hul] at hpv
        rw [← hn8] at hu8
        subst hrv hpv hu8
        have hbx:=hI.box
        have b0:wr.cell? ⟨bp,0,none⟩=some (.int .i64 q.t):=hbx.cell 0
        have b1:wr.cell? ⟨bp,1,none⟩=some (.int .i64 q.j):=hbx.cell 1
        have b2:wr.cell? ⟨bp,2,none⟩=some (.int .i64 q.lo):=hbx.cell 2
        have b3:wr.cell? ⟨bp,3,none⟩=some (.int .i64 q.hi):=hbx.cell 3
        have b4:wr.cell? ⟨bp,4,none⟩=some (.int .i64 q.n):=hbx.cell 4
        have b5:wr.cell? ⟨bp,5,none⟩=some (.int .i64 q.f):=hbx.cell 5
        have b6:wr.cell? ⟨bp,6,none⟩=some (.slice Ar (T-F) cr):=hbx.cell 6
        have b7:wr.cell? ⟨bp,7,none⟩=some (.slice Aq (T-F) cq):=hbx.cell 7
        have b8:wr.cell? ⟨bp,8,none⟩=some (.slice A8 n8 c8):=hbx.cell 8
        have HRb:=Lib.hid (HPy.out.ext hI.base)
        have HEF:=Lib.hid (ext_call HEw.out hI.base)
        have r0:=HRb.out.cell 0;have r1:=HRb.out.cell 1;have r2:=HRb.out.cell 2;have r3:=HRb.out.cell 3;have r4:=HRb.out.cell 4;have r5:=HRb.out.cell 5;have r6:=HRb.out.cell 6;have r7:=HRb.out.cell 7;have r8:=HRb.out.cell 8
        have f0:=HRb.out.frozen 0;have f1:=HRb.out.frozen 1;have f2:=HRb.out.frozen 2;have f3:=HRb.out.frozen 3;have f4:=HRb.out.frozen 4;have f5:=HRb.out.frozen 5;have f6:=HRb.out.frozen 6;have f7:=HRb.out.frozen 7;have f8:=HRb.out.frozen 8
        have fl:=HRb.out.lt
        clear hbx hm hrl hul hPl hI hn8
        go_wp2
        have hBf:=blk_set9 (u0:=.int .i64 q.t) (u1:=.int .i64 q.j) (u2:=.int .i64 q.lo) (u3:=.int .i64 q.hi) (u4:=.int .i64 q.n) (u5:=.int .i64 q.f) (u6:=.slice Ar (T-F) cr) (u7:=.slice Aq (T-F) cq) (u8:=.slice A8 n8 c8) HRb.out
        have y0:=hBf.cell 0;have y1:=hBf.cell 1;have y2:=hBf.cell 2;have y3:=hBf.cell 3;have y4:=hBf.cell 4;have y5:=hBf.cell 5;have y6:=hBf.cell 6;have y7:=hBf.cell 7;have y8:=hBf.cell 8
        refine bodyPost_ret (v:=.tuple #[.agg #[.int .i64 q.t,.int .i64 q.j,.int .i64 q.lo,.int .i64 q.hi,.int .i64 q.n,.int .i64 q.f,(.slice Ar (T-F) cr),(.slice Aq (T-F) cq),(.slice A8 n8 c8)],.int .i64 0]) (by simp [results,Tryz.results49,go_sem,y0,y1,y2,y3,y4,y5,y6,y7,y8]) rfl ⟨_,rfl,?_,ext_set9 HEF.out (by omega)⟩
        exact (PrvI.fin9 HI.out HQ.out.1 (by rw [HQ.out.2,List.take_of_length_le (by simp)])).mono (fun b hb=>by omega)
end
section
open Go.RowKit Go.Shelf
attribute [local go_sem ↓] Go.wp_at_zero Go.wp_at_succ
structure QryT where
  kind:Int
  t:Int
  j:Int
  lo:Int
  hi:Int
  by_:Int
  other:Int
def QryT.arr (q:QryT):Array Value:=#[.int .i64 q.kind,.int .i64 q.t,.int .i64 q.j,.int .i64 q.lo,.int .i64 q.hi,.int .i64 q.by_,.int .i64 q.other]
inductive QryT.KindOk:QryT→Prop
  | row (t k:Int) (h1:1≤k) (h2:k≤1000000):QryT.KindOk ⟨1,t,0,k,k,0,0⟩
  | range (t j lo hi:Int):QryT.KindOk ⟨2,t,j,lo,hi,0,0⟩
  | count (t j lo hi:Int):QryT.KindOk ⟨3,t,j,lo,hi,0,0⟩
  | sum (t j lo hi b:Int) (h1:1≤b) (h2:b≤3):QryT.KindOk ⟨4,t,j,lo,hi,b,0⟩
  | min (t j lo hi b:Int) (h1:1≤b) (h2:b≤3):QryT.KindOk ⟨5,t,j,lo,hi,b,0⟩
  | max (t j lo hi b:Int) (h1:1≤b) (h2:b≤3):QryT.KindOk ⟨6,t,j,lo,hi,b,0⟩
  | join (t j lo hi b o:Int) (h1:1≤b) (h2:b≤3) (h3:0≤o) (h4:o≤3):QryT.KindOk ⟨7,t,j,lo,hi,b,o⟩
structure QryT.Ok (q:QryT):Prop where
  t:0≤q.t∧q.t≤3
  j:0≤q.j∧q.j≤3
  lo : -1000000000≤q.lo
  lh:q.lo≤q.hi
  hi:q.hi≤1000000000
  kind:q.KindOk
theorem qWithin_yes (n a b:Int) (w:World) (h1:a≤n) (h2:n≤b):Calls Tryz.prog 83 #[.int .i64 n,.int .i64 a,.int .i64 b] w fun e w'=>e=.returned (.bool true)∧w=w':=by
  have d1:¬ n<a:=by omega
  go_enter Tryz.func83,Tryz.ntmps83
  go_wp2
  go_ret
  exact ⟨rfl,rfl⟩
theorem queryValid_ok (q:QryT) (hq:q.Ok) (w:World):Calls Tryz.prog 47 #[.agg q.arr] w fun e w'=>e=.returned (.bool true)∧Below w.heap.size w w':=by
  obtain ⟨⟨t0,t1⟩,⟨j0,j1⟩,l0,lh,h0,hk⟩:=hq
  cases hk <;> dsimp only [QryT.arr] at * <;>
    (go_enter Tryz.func47,Tryz.ntmps47
     go_wp2_with (go_at_call 83;refine (qWithin_yes _ _ _ _ (by omega) (by omega)).mono ?_;rintro e w' ⟨rfl,rfl⟩)
     go_ret
     exact ⟨rfl,by repeat (first|with_reducible exact ext_new _ _|refine ext_set ?_ (Nat.le_refl _) _)⟩)
theorem queryScan_ok (q:QryT) (hq:q.Ok) (w:World):Calls Tryz.prog 92 #[.agg q.arr] w fun e w'=>e=.returned (.tuple #[.int .i64 q.t,.int .i64 q.j,.int .i64 q.lo,.int .i64 q.hi])∧Below w.heap.size w w':=by
  have HQ:=Lib.hid (fun W:World=>queryValid_ok q hq W)
  obtain ⟨kd,t,j,lo,hi,b,o⟩:=q
  dsimp only [QryT.arr] at *
  have HB:=Lib.hid (Blk.new w 33 #[.int .i64 kd,.int .i64 t,.int .i64 j,.int .i64 lo,.int .i64 hi,.int .i64 b,.int .i64 o])
  have c0:=HB.out.cell 0;have c1:=HB.out.cell 1;have c2:=HB.out.cell 2;have c3:=HB.out.cell 3;have c4:=HB.out.cell 4;have c5:=HB.out.cell 5;have c6:=HB.out.cell 6
  clear hq
  go_enter Tryz.func92,Tryz.ntmps92
  go_wp2_with fail
  refine (HQ.out _).mono ?_
  rintro e W1 ⟨rfl,hb1⟩
  have HB1:=Lib.hid (HB.out.ext hb1)
  have HE1:=Lib.hid (ext_call (ext_new w _) hb1)
  clear hb1 c0 c1 c2 c3 c4 c5 c6
  have c0:=HB1.out.cell 0;have c1:=HB1.out.cell 1;have c2:=HB1.out.cell 2;have c3:=HB1.out.cell 3;have c4:=HB1.out.cell 4;have c5:=HB1.out.cell 5;have c6:=HB1.out.cell 6
  go_wp2
  go_quiet (fail)
  go_wp2
  refine bodyPost_ret (v:=.tuple #[.int .i64 t,.int .i64 j,.int .i64 lo,.int .i64 hi]) (by simp [results,Tryz.results92,go_sem]) rfl ⟨rfl,?_⟩
  exact ext_drewN HE1.out _
theorem proofOf_ok (q:QryT) (hq:q.Ok) (w:World):Calls Tryz.prog 50 #[.agg q.arr] w fun e w'=>e=.returned (.agg #[.int .i64 q.t,.int .i64 q.j,.int .i64 q.lo,.int .i64 q.hi])∧Below w.heap.size w w':=by
  have HQ:=Lib.hid (fun W:World=>queryScan_ok q hq W)
  obtain ⟨kd,t,j,lo,hi,b,o⟩:=q
  dsimp only [QryT.arr] at *
  clear hq
  go_enter Tryz.func50,Tryz.ntmps50
  go_wp2_with fail
  refine (HQ.out _).mono ?_
  rintro e W1 ⟨rfl,hb1⟩
  have HB1:=Lib.hid ((Blk.new' (w.alloc (.cells #[.int .i64 kd,.int .i64 t,.int .i64 j,.int .i64 lo,.int .i64 hi,.int .i64 b,.int .i64 o] 33)) 123 #[.int .i64 0,.int .i64 0,.int .i64 0,.int .i64 0] (b:=w.heap.size+1) (by simp)).ext hb1)
  have HE1:=Lib.hid (ext_call (ext_alloc (ext_new w _) _) hb1)
  clear hb1
  have c0:=HB1.out.cell 0;have c1:=HB1.out.cell 1;have c2:=HB1.out.cell 2;have c3:=HB1.out.cell 3
  have f0:=HB1.out.frozen 0
  have f1:=HB1.out.frozen 1
  have f2:=HB1.out.frozen 2
  have f3:=HB1.out.frozen 3
  go_wp2
  have hBf:=(((((((HB1.out.set_ 0 (.int .i64 t)).set_ 1 (.int .i64 j)).set_ 2 (.int .i64 lo)).set_ 3 (.int .i64 hi)).set_ 0 (.int .i64 t)).set_ 1 (.int .i64 j)).set_ 2 (.int .i64 lo)).set_ 3 (.int .i64 hi)
  have y0:=hBf.cell 0;have y1:=hBf.cell 1;have y2:=hBf.cell 2;have y3:=hBf.cell 3
  refine bodyPost_ret (v:=.agg #[.int .i64 t,.int .i64 j,.int .i64 lo,.int .i64 hi]) (by simp [results,Tryz.results50,go_sem,y0,y1,y2,y3]) rfl ⟨rfl,?_⟩
  repeat (first|with_reducible exact HE1.out|refine ext_set ?_ (by simp) _)
end
end Go.Proofs.YtimoapjhepmehaaGreatDoor
