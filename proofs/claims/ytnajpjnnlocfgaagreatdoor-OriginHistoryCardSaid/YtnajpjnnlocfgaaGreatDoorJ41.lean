/-
  package digest: Verify at any list of at most 1000 entries, with the proof that Proof returns.
-/
import Derived.Test.YtnajpjnnlocfgaaGreatDoorJ32
import Derived.Test.YtnajpjnnlocfgaaGreatDoorJ40
import Derived.Test.YtnajpjnnlocfgaaGreatDoorJ39
import Derived.Test.YtnajpjnnlocfgaaGreatDoorJ3
set_option linter.unusedSimpArgs false
set_option linter.unusedVariables false
namespace Go.Proofs.YtnajpjnnlocfgaaGreatDoor
open Go.RowKit Go.Shelf
attribute [local go_sem ↓] app_exec app_sem Go.wp_at_zero Go.wp_at_succ
attribute [local go_sem] Oper.semAt_some
theorem appSide (W:World) (base:Nat) (hb:base≤W.heap.size) (v:Value) (n:Nat) (xs:List Value) (hown:W.ownsRow base 128 2 v n xs) (hn:n≤1000000) (s:ByteArray) (f:Bool) :
    AppOK Tryz.prog (W.alloc (.cells #[.string s,.bool f] 128)) 124 124 v (.slice (some ⟨W.heap.size,0,none⟩) 1 1)∧∃ W',appW Tryz.prog (W.alloc (.cells #[.string s,.bool f] 128)) 124 124 v (.slice (some ⟨W.heap.size,0,none⟩) 1 1)=W' ∧
      ∃ v',appV Tryz.prog (W.alloc (.cells #[.string s,.bool f] 128)) 124 124 v (.slice (some ⟨W.heap.size,0,none⟩) 1 1)=v'∧W'.ownsRow base 128 2 v' (n+1) (xs++[.string s,.bool f])∧(W.alloc (.cells #[.string s,.bool f] 128)).grownBy W' v.ownBlock:=by
  obtain ⟨is,his,hzs0,hzs1,hzs2⟩:=info_parts side_info
  obtain ⟨h1,h2,h3⟩:=app_own (P:=Tryz.prog) (w:=W.alloc (.cells #[.string s,.bool f] 128)) base 124 124 128 is (.agg #[.string ⟨#[]⟩,.bool false]) 2 24 Tryz.underlying124 his hzs0 hzs1 hzs2 rfl (by decide) v n xs (hown.alloc _) ⟨W.heap.size,0,none⟩ 1 1 [.string s,.bool f] rfl (cell_two_new _ _ _ _) (by simp [Value.oneCell']) (by unfold maxLen;omega) (by omega) (by simp;omega)
  exact ⟨h1,_,rfl,_,rfl,h2,h3⟩
theorem wayL_sizes:∀ (f:Nat) (l:List ByteArray) (i:Nat) (x:ByteArray × Bool),x ∈ wayL f l i→x.1.size=32
  | 0,_,_,_,h=>by cases h
  | f + 1, l, i, x, h => by
    unfold wayL at h
    split at h
    · cases h
    · split at h
      · rcases List.mem_cons.1 h with rfl|h
        · exact rootF_size _
        · exact wayL_sizes f _ _ x h
      · rcases List.mem_cons.1 h with rfl|h
        · exact rootF_size _
        · exact wayL_sizes f _ _ x h
theorem accM_size (ys:List (ByteArray × Bool)) (z:ByteArray) (hz:z.size=32):∀ k,k≤ys.length→(accM joinW ys z k).size=32
  | 0,_=>by rw [accM_zero];exact hz
  | k+1,h=>by rw [accM_succ joinW (by omega)];exact joinF_size _ _ _
theorem allF_of (l:List ByteArray) (h:∀ x ∈ l,x.size=32):allF l=true:=by
  unfold allF
  rw [Bool.not_eq_true']
  refine List.any_eq_false.2 fun x hx=>?_
  simp [oddF,h x hx]
theorem wayL_length:∀ (f:Nat) (l:List ByteArray) (i:Nat),(wayL f l i).length≤f
  | 0,_,_=>Nat.le_refl _
  | f + 1, l, i => by
    unfold wayL
    split
    · exact Nat.zero_le _
    · split
      · exact Nat.succ_le_succ (wayL_length f _ _)
      · exact Nat.succ_le_succ (wayL_length f _ _)
set_option maxHeartbeats 4000000 in
set_option maxRecDepth 100000 in
theorem verify_any (S:Nat→Prop) (v:Value) (root s:ByteArray) (L:List ByteArray) (I:Nat) (w:World) (hL:L.length≤1000) (hI:L[I]? = some s) (hv:Strs S w v (((wayL L.length L I).map (·.1)).reverse)) (hSB:∀ b,S b→b<w.heap.size) (hs:s.size≤500000) (hR:RoundOK w) :
    Calls Tryz.prog 63 #[.string root,.int .i64 (L.length:Int),.int .i64 (I:Int),.string s,v] w fun e w'=>e=.returned (.bool ((rootF L).toList == root.toList))∧Below w.heap.size w w':=by
  have hIL:=(List.getElem?_eq_some_iff.1 hI).1
  have HRT:=Lib.hid (wayL_root L.length L I s (Nat.le_refl _) hL hI)
  have HSZ:=Lib.hid (wayL_sizes L.length L I)
  have hall:allF (((wayL L.length L I).map (·.1)).reverse)=true:=allF_of _ (fun x hx=>by
    obtain ⟨y,hy,rfl⟩:=List.mem_map.1 (List.mem_reverse.1 hx)
    exact HSZ.out y hy)
  obtain ⟨W0,hW0⟩:∃ W0,W0=wayL L.length L I:=⟨_,rfl⟩
  rw [← hW0] at hall hv HRT HSZ
  have hwl:W0.length≤1000:=by
    rw [hW0]
    exact Nat.le_trans (wayL_length _ _ _) hL
  have HAll:=Lib.hid (all_any S v ((W0.map (·.1)).reverse) w hv (by simp;omega))
  have HLf:=Lib.hid (fun (W:World) (h:RoundOK W)=>leaf_any s W h hs)
  have hl32:(leafF s).size=32:=leafF_size s
  generalize leafF s=lf at *
  obtain ⟨rt,hrt⟩:∃ rt,rt=rootF L:=⟨_,rfl⟩
  rw [← hrt] at HRT ⊢
  have HSB:=Lib.hid hSB
  have HR:=Lib.hid hR
  have HV:=Lib.hid hv
  have HW0:=Lib.hid hW0
  have hr1:=hR.lt
  obtain ⟨A,c,hv1,hc,_⟩:=hv
  have hvv:v=.slice A W0.length c:=by simpa using hv1
  clear hv1
  subst hvv
  have d0:decide ((I:Int)<0)=false:=decide_eq_false (by omega)
  have d1:decide ((L.length:Int)≤(I:Int))=false:=decide_eq_false (by omega)
  have d2:decide (L.length≤I)=false:=decide_eq_false (by omega)
  clear hR hSB hW0 hrt
  refine (callsIn_wide (n:=3)).1 (callsIn_of_wp_marks Tryz.func63 rfl trivial (wpIn_wide.2 ?_) rfl)
  simp only [Tryz.ntmps63,List.size_toArray,List.length_cons,List.length_nil,Nat.reduceAdd,Nat.reduceSub,Array.replicate_succ,Array.replicate_zero,List.push_toArray,List.append_toArray,List.nil_append,List.cons_append]
  go_wp2_with fail
  refine HAll.out.mono ?_
  rintro e W1 ⟨rfl,rfl⟩
  rw [hall]
  go_wp2
  go_loopw [1,2,4,11,12,13,14,15] (fun nv iv pv ov _ _ _ _ W=>∃ (f i:Nat) (cur:List ByteArray) (way rest:List (ByteArray × Bool)),cur.length≤f∧cur.length≤1000∧nv=.int .i64 (cur.length:Int)∧iv=.int .i64 (i:Int)∧i<cur.length∧W0=way++rest∧rest=wayL f cur i∧Strs S W pv ((rest.map (·.1)).reverse)∧W.ownsRow w.heap.size 128 2 ov way.length (sdC way)∧Below w.heap.size w W) (fun nv _ _ _ _ _ _ _ _=>(intOf nv).toNat)
  case atStart=>exact ⟨L.length,I,L,[],W0,Nat.le_refl _,hL,rfl,rfl,hIL,rfl,HW0.out,HV.out,World.ownsRow_nil _ _ _ _,ext_refl _⟩
  case round=>
    obtain ⟨f,i,cur,way,rest,hf,h17,rfl,rfl,hi,hsplit,hrest,hs,hown,hE⟩:=hrel
    have HO:=Lib.hid hown
    have HE:=Lib.hid hE
    have HS:=Lib.hid hs
    have HSP:=Lib.hid hsplit
    have hwr:way.length+rest.length≤1000:=by rw [hsplit,List.length_append] at hwl;exact hwl
    clear hown hE hsplit
    by_cases h1:cur.length≤1
    · have hr0:rest=[]:=by
        rw [hrest]
        cases f with
        | zero=>rfl
        | succ f=>unfold wayL;rw [if_pos h1]
      subst hr0
      clear hrest
      have HW:=Lib.hid (show W0=way by have:=HSP.out;rwa [List.append_nil] at this)
      obtain ⟨Ap,cp,hpv,-,-⟩:=id HS.out
      have hpv:u4=.slice Ap 0 cp:=hpv
      subst hpv
      obtain ⟨Aw,cw,hwv⟩:=own_shape HO.out
      subst hwv
      have d3:decide ((1:Int)<(cur.length:Int))=false:=decide_eq_false (by omega)
      have hRw:=HR.out.below HE.out
      go_wp2_with fail
      refine (HLf.out wr hRw).mono ?_
      rintro e W1 ⟨rfl,hb1⟩
      have HB1:=Lib.hid (ext_call HE.out hb1)
      have hz1:=HB1.out.size
      have hR1:=hRw.below hb1
      have HO1:=Lib.hid (own_extB HO.out hb1)
      clear hb1
      go_wp2_with (go_at_call 58;refine (backS_any _ _ _ _).mono ?_;rintro e W2 ⟨rfl,rfl⟩)
      obtain ⟨g0,hg0⟩:∃ g0,g0=W1.heap.size:=⟨_,rfl⟩
      have hsz:((W1.alloc (.cells #[.string lf] 9)).alloc (.cells #[.slice Aw way.length cw] 124)).heap.size=W1.heap.size+2:=by simp
      have hE2:Below W1.heap.size W1 ((W1.alloc (.cells #[.string lf] 9)).alloc (.cells #[.slice Aw way.length cw] 124)):=ext_alloc (ext_new _ _) _
      have hB0:Blk ((W1.alloc (.cells #[.string lf] 9)).alloc (.cells #[.slice Aw way.length cw] 124)) g0 9 #[.string lf]:=by rw [hg0];exact (Blk.new _ _ _).alloc _
      have hbk:BkC (g0+1) Aw cw way ((W1.alloc (.cells #[.string lf] 9)).alloc (.cells #[.slice Aw way.length cw] 124)):=bkC_of (own_extB HO1.out hE2) (by rw [hg0];have h:=cell_new1 (W1.alloc (.cells #[.string lf] 9)) (.slice Aw way.length cw) 124;rw [World.size_alloc] at h;exact h)
      have hAne:∀ b o,Aw=some ⟨b,o,none⟩→g0≠b:=fun b o h=>by have:=own_lt HO1.out b o h;omega
      have hbl:Below w.heap.size w ((W1.alloc (.cells #[.string lf] 9)).alloc (.cells #[.slice Aw way.length cw] 124)):=ext_call HB1.out hE2
      have hR2:=hR1.below hE2
      have HANE:=Lib.hid hAne
      have HWSZ:=Lib.hid (show ∀ x ∈ way,x.1.size=32 by rw [← HW.out];exact HSZ.out)
      clear hE2 hAne hR1
      generalize ((W1.alloc (.cells #[.string lf] 9)).alloc (.cells #[.slice Aw way.length cw] 124))=W2 at *
      refine (wpIn_wide (n:=3)).1 ?_
      refine' wpIn_mem_box (by omega) (gf:=106) (lb:=#[.pointer (some ⟨W1.heap.size+1,0,none⟩)]) (by simp [Act.eval]) (enters_of Tryz.func106 (by kernel_rfl) rfl)
        (backM_seq 2 (by omega) (W1.heap.size+1) Aw cw way (by omega)) (fun _=>rfl)
        (fun k W=>(Blk W g0 9 #[.string (accM joinW way lf k)]∧RoundOK W)∧BkC (g0+1) Aw cw way W∧Below w.heap.size w W)
        (fun k=>OwnP.and (OwnP.and OwnP.blk OwnP.round) (OwnP.and OwnP.bkC (OwnP.below (Nat.le_refl _) (by omega)))) (fun k W h=>by have:=h.2.1;rwa [hg0] at this) ⟨⟨by rw [accM_zero];exact hB0,hR2⟩,hbk,hbl⟩
        128 (fun k=>#[.string (sdAt way k).1,.bool (sdAt way k).2]) _ ?assign ?body ?done
      case assign=>
        intro l h k W K hh hK
        unfold sdVals
        gi_wp2
        rw [← hh]
        exact hK
      case body=>
        rintro l h k W hkN hszW hh hB ⟨⟨hO,hRo⟩,hbk,hb⟩
        obtain ⟨acc,hacc⟩:∃ acc,acc=accM joinW way lf k:=⟨_,rfl⟩
        have hac:acc.size=32:=by rw [hacc];exact accM_size way lf hl32 k (by omega)
        have HACC:=Lib.hid (accM_succ joinW hkN lf)
        rw [← hacc] at HACC hO
        obtain ⟨⟨y,f2⟩,hx⟩:∃ x,x=sdAt way k:=⟨_,rfl⟩
        have hy32:y.size=32:=by
          have:=HWSZ.out (sdAt way k) (List.mem_of_getElem? (sdAt_eq hkN))
          rw [← hx] at this
          exact this
        rw [← hx] at HACC hB ⊢
        dsimp only at hB ⊢
        have c0:W.cell? ⟨W1.heap.size,0,none⟩=some (.string acc):=by rw [← hg0];exact hO.cell 0
        have c1:W.cell? ⟨h,0,none⟩=some (.string y):=hB.cell 0
        have c2:W.cell? ⟨h,1,none⟩=some (.bool f2):=hB.cell 1
        have HRo:=Lib.hid hRo
        have HO:=Lib.hid hO
        have HBe:=Lib.hid hb
        have HBK:=Lib.hid hbk
        clear hRo hb hO hB hacc hx hbk
        gi_wp2_with fail
        refine ⟨trivial,(CallsIn.inRound l (callsIn_wide.2 (join_any y acc f2 W HRo.out (by omega) (by omega)))).mono ?_⟩
        rintro e W' ⟨rfl,hb'⟩
        have hB':=HO.out.below hb' HO.out.lt
        have c1:W'.cell? ⟨W1.heap.size,0,none⟩=some (.string acc):=by rw [← hg0];exact hB'.cell 0
        have f1:W'.frozen? ⟨W1.heap.size,0,none⟩=false:=by rw [← hg0];exact hB'.frozen 0
        have HB':=Lib.hid hB'
        have hg0w:w.heap.size≤g0:=by omega
        clear hB'
        gi_wp2
        rw [← hg0]
        refine ⟨(KeepsOthers.trans ⟨hb'.size,fun k o hk _=>(hb'.block k (Array.getElem?_eq_some_iff.1 hk).1).trans hk⟩ (KeepsOthers.setCell _ _ _)).from _,⟨?_,?_⟩,(HBK.out.ext hb').set (by omega) HANE.out _,(HBe.out.trans (hb'.mono HBe.out.size)).setCell hg0w _⟩
        · rw [HACC.out]
          exact HB'.out.set_ 0 _
        · exact (HRo.out.below hb').keep fun p hp=>World.cell?_of_block (Below.heap_setCell _ _ _ _ (by rw [hp];show _≠g0;omega))
      case done=>
        rintro D W hD ⟨⟨hB,hRo⟩,hbk,hb⟩ hK
        rw [accM_all,← HW.out,HRT.out] at hB
        have c0:W.cell? ⟨W1.heap.size,0,none⟩=some (.string rt):=by rw [← hg0];exact hB.cell 0
        have HBE:=Lib.hid hb
        clear hB hb
        go_wp2
        refine ⟨by simp,.inl ⟨_,_,rfl,run_takeDeferred hK,?_⟩⟩
        refine ⟨_,results_tmp rfl _ _ _,?_,?_⟩
        · rfl
        · exact HBE.out.grown (grownBy_putObj' W D _) HBE.out.size (fun k e=>by injection e with e;omega)
    · have hb:=leftF_bounds cur.length (by omega) (by omega)
      obtain ⟨k,hk⟩:∃ k,k=leftF cur.length:=⟨_,rfl⟩
      have HLF:=Lib.hid (fun W:World=>left_any cur.length W (by omega) (by omega))
      rw [← hk] at hb HLF
      have HKE:=Lib.hid hk
      clear hk
      obtain ⟨f',rfl⟩:∃ f',f=f'+1:=⟨f-1,by omega⟩
      have hrest2:∃ x,∃ tl,rest=x::tl∧x.2=decide (k≤i)∧tl=(if k≤i then wayL f' (cur.drop k) (i-k) else wayL f' (cur.take k) i):=by
        rw [hrest]
        conv=>enter [1,x,1,tl,1];unfold wayL
        rw [if_neg h1,← HKE.out]
        by_cases hik:i<k
        · rw [if_pos hik,if_neg (by omega)]
          exact ⟨_,_,rfl,(decide_eq_false (by omega)).symm,rfl⟩
        · rw [if_neg hik,if_pos (by omega)]
          exact ⟨_,_,rfl,(decide_eq_true (by omega)).symm,rfl⟩
      obtain ⟨⟨d,fl⟩,tl,hrt2,hfl,htl⟩:=hrest2
      dsimp only at hfl
      subst hrt2
      clear hrest
      have hsp:(((((d,fl)::tl).map (·.1)).reverse).length)=tl.length+1:=by simp
      have HTK:=Lib.hid (take_any S u4 ((((d,fl)::tl).map (·.1)).reverse) wr HS.out (by rw [hsp];rw [List.length_cons] at hwr;omega))
      have hlast:(((((d,fl)::tl).map (·.1)).reverse).getLast?.getD ⟨#[]⟩)=d:=by simp
      have hdrop:((((d,fl)::tl).map (·.1)).reverse).dropLast=(tl.map (·.1)).reverse:=by simp
      have hne:((((d,fl)::tl).map (·.1)).reverse).isEmpty=false:=by simp
      unfold TakePost at HTK
      rw [hlast,hdrop,hne] at HTK
      obtain ⟨Ap,cp,hpv,-,-⟩:=id HS.out
      rw [hsp] at hpv
      subst hpv
      have d3:decide ((1:Int)<(cur.length:Int))=true:=decide_eq_true (by omega)
      have HFL:=Lib.hid hfl
      have HTL:=Lib.hid htl
      clear hlast hdrop hne hsp hfl hs htl
      go_wp2_with fail
      refine HTK.out.mono ?_
      rintro e W1 ⟨v',rfl,hv',hb1⟩
      have HV1:=Lib.hid hv'
      have HB1:=Lib.hid hb1
      obtain ⟨A',c',hva0,-,-⟩:=hv'
      have hva:v'=.slice A' tl.length c':=by simpa using hva0
      clear hva0
      subst hva
      clear hb1
      go_wp2_with fail
      refine (HLF.out _).mono ?_
      rintro e w' ⟨rfl,hw'⟩
      subst w'
      have ho1:=own_extB HO.out HB1.out
      have hz1:=(ext_call HE.out HB1.out).size
      by_cases hik:k≤i
      · have d4:decide ((k:Int)≤(i:Int))=true:=decide_eq_true (by omega)
        have q4:(k:Int)≤(i:Int):=by omega
        have hfl:fl=true:=by rw [HFL.out];exact decide_eq_true hik
        have HT2:=Lib.hid (show tl=wayL f' (cur.drop k) (i-k) by rw [HTL.out,if_pos hik])
        subst hfl
        have e5:IntKind.i64.wrap ((i:Int)-(k:Int))=((i-k:Nat):Int):=by rw [IntWalk.i64_in _ (by omega)];omega
        have e6:IntKind.i64.wrap ((cur.length:Int)-(k:Int))=((cur.length-k:Nat):Int):=by rw [IntWalk.i64_in _ (by omega)];omega
        obtain ⟨ha,W4,hW4,v4,hv4,ho4,hg4⟩:=appSide W1 w.heap.size hz1 u11 way.length (sdC way) ho1 (by omega) d true
        have HO4:=Lib.hid ho4
        have HE4:=Lib.hid (show Below w.heap.size w W4 from (ext_alloc (ext_call HE.out HB1.out) (.cells #[.string d,.bool true] 128)).grown hg4 (by simp;omega) (fun g hg=>(ho1.lt g hg).1))
        have HP4:=Lib.hid (show Strs S W4 _ ((tl.map (·.1)).reverse) from Strs.ownGrown (HV1.out.below (ext_new W1 (.cells #[.string d,.bool true] 128))) hg4 HSB.out (fun g hg=>(ho1.lt g hg).1))
        clear ho4 hg4 ho1
        go_wp2
        go_roundw
        case rel=>exact ⟨f',i-k,cur.drop k,way++[(d,true)],tl,(by first|(rw [List.length_drop];omega)|(rw [List.length_take];omega)),(by first|(rw [List.length_drop];omega)|(rw [List.length_take];omega)),by rw [List.length_drop],by go_num,(by first|(rw [List.length_drop];omega)|(rw [List.length_take];omega)),by rw [HSP.out,List.append_assoc];rfl,HT2.out,HP4.out,by rw [List.length_append,List.length_singleton,sdC_append];exact HO4.out,HE4.out⟩
        case measure=>simp [intOf];omega
      · have d4:decide ((k:Int)≤(i:Int))=false:=decide_eq_false (by omega)
        have hfl:fl=false:=by rw [HFL.out];exact decide_eq_false hik
        have HT2:=Lib.hid (show tl=wayL f' (cur.take k) i by rw [HTL.out,if_neg hik])
        subst hfl
        obtain ⟨ha,W4,hW4,v4,hv4,ho4,hg4⟩:=appSide W1 w.heap.size hz1 u11 way.length (sdC way) ho1 (by omega) d false
        have HO4:=Lib.hid ho4
        have HE4:=Lib.hid (show Below w.heap.size w W4 from (ext_alloc (ext_call HE.out HB1.out) (.cells #[.string d,.bool false] 128)).grown hg4 (by simp;omega) (fun g hg=>(ho1.lt g hg).1))
        have HP4:=Lib.hid (show Strs S W4 _ ((tl.map (·.1)).reverse) from Strs.ownGrown (HV1.out.below (ext_new W1 (.cells #[.string d,.bool false] 128))) hg4 HSB.out (fun g hg=>(ho1.lt g hg).1))
        clear ho4 hg4 ho1
        go_wp2
        go_roundw
        case rel=>exact ⟨f',i,cur.take k,way++[(d,false)],tl,(by first|(rw [List.length_drop];omega)|(rw [List.length_take];omega)),(by first|(rw [List.length_drop];omega)|(rw [List.length_take];omega)),by rw [List.length_take,Nat.min_eq_left (by omega)],by go_num,(by first|(rw [List.length_drop];omega)|(rw [List.length_take];omega)),by rw [HSP.out,List.append_assoc];rfl,HT2.out,HP4.out,by rw [List.length_append,List.length_singleton,sdC_append];exact HO4.out,HE4.out⟩
        case measure=>simp [intOf];omega
end Go.Proofs.YtnajpjnnlocfgaaGreatDoor
