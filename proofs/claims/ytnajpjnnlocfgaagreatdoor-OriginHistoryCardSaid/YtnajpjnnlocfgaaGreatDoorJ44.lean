/-
  package digest: VerifyExtension at any list of at most 1000 entries, with the proof that Extension returns.
-/
import Derived.Test.YtnajpjnnlocfgaaGreatDoorJ41
import Derived.Test.YtnajpjnnlocfgaaGreatDoorJ43
set_option linter.unusedSimpArgs false
set_option linter.unusedVariables false
set_option maxHeartbeats 4000000
set_option maxRecDepth 100000
namespace Go.Proofs.YtnajpjnnlocfgaaGreatDoor
open Go.RowKit Go.Shelf
attribute [local go_sem ↓] app_exec app_sem Go.wp_at_zero Go.wp_at_succ
attribute [local go_sem] Oper.semAt_some
theorem extW_sizes:∀ (f:Nat) (l:List ByteArray) (m:Nat) (x:ByteArray × Bool),x ∈ extW f l m→x.1.size=32
  | 0,_,_,_,h=>by cases h
  | f + 1, l, m, x, h => by
    unfold extW at h
    split at h
    · cases h
    · split at h
      · rcases List.mem_cons.1 h with rfl|h
        · exact rootF_size _
        · exact extW_sizes f _ _ x h
      · rcases List.mem_cons.1 h with rfl|h
        · exact rootF_size _
        · exact extW_sizes f _ _ x h
theorem extW_length:∀ (f:Nat) (l:List ByteArray) (m:Nat),(extW f l m).length≤f
  | 0,_,_=>Nat.le_refl _
  | f + 1, l, m => by
    unfold extW
    split
    · exact Nat.zero_le _
    · split
      · exact Nat.succ_le_succ (extW_length f _ _)
      · exact Nat.succ_le_succ (extW_length f _ _)
theorem accT_size (ys:List (ByteArray × Bool)) (z:ByteArray) (hz:z.size=32):∀ k,k≤ys.length→(accM stpF ys z k).size=32
  | 0,_=>by rw [accM_zero];exact hz
  | k+1,h=>by
    rw [accM_succ stpF (by omega)]
    unfold stpF
    split
    · exact nodeF_size _ _
    · exact accT_size ys z hz k (by omega)
theorem verExt_same (S:Nat→Prop) (v:Value) (root:ByteArray) (n:Nat) (hn:1≤n∧n≤100000) (w:World) (hv:Strs S w v []) (hr:root.size=32) :
    Calls Tryz.prog 20 #[.string root,.int .i64 (n:Int),.string root,.int .i64 (n:Int),v] w fun e w'=>e=.returned (.bool true)∧Below w.heap.size w w':=by
  have HAll:=Lib.hid (all_any S v [] w hv (by simp))
  have hio:((root.size:Int) == 32)=true:=by rw [hr];rfl
  have HIO:=Lib.hid (fun W:World=>digest_isDigest root W)
  rw [hio] at HIO
  clear hio hr
  obtain ⟨A,c,rfl,hc,_⟩:=hv
  have d0:decide ((n:Int)<0)=false:=decide_eq_false (by omega)
  have d1:((n:Int) == 0)=false:=by rw [beq_eq_false_iff_ne];omega
  have d1':¬ n=0:=by omega
  go_enter Tryz.func20,Tryz.ntmps20
  go_wp2_with fail
  refine HAll.out.mono ?_
  rintro e W1 ⟨rfl,rfl⟩
  rw [show allF []=true from rfl]
  go_wp2_with fail
  refine (HIO.out _).mono ?_
  rintro e W1 ⟨rfl,rfl⟩
  go_wp2_with fail
  refine (HIO.out _).mono ?_
  rintro e W1 ⟨rfl,rfl⟩
  go_wp2
  go_ret
  exact ⟨by simp,ext_refl _⟩
theorem verExt_less (S:Nat→Prop) (v:Value) (L:List ByteArray) (M:Nat) (w:World) (hL:L.length≤1000) (h1M:1≤M) (hM:M<L.length) (hv:Strs S w v (extP L M)) (hSB:∀ b,S b→b<w.heap.size) (hR:RoundOK w) :
    Calls Tryz.prog 20 #[.string (rootF (L.take M)),.int .i64 (M:Int),.string (rootF L),.int .i64 (L.length:Int),v] w fun e w'=>e=.returned (.bool true)∧Below w.heap.size w w':=by
  obtain ⟨hl1,hl2,hl3⟩:=ext_laws L.length L M (Nat.le_refl _) hL h1M (by omega)
  have HSZ:=Lib.hid (extW_sizes L.length L M)
  have hwl:(extW L.length L M).length≤1000:=Nat.le_trans (extW_length _ _ _) hL
  unfold extP at hv
  obtain ⟨W0,hW0⟩:∃ W0,W0=extW L.length L M:=⟨_,rfl⟩
  obtain ⟨EN,hEN⟩:∃ EN,EN=extEnd L.length L M:=⟨_,rfl⟩
  rw [← hW0,← hEN] at hv hl1 hl2 hl3
  rw [← hW0] at hwl HSZ
  obtain ⟨z,hz⟩:∃ z,z=rootF EN:=⟨_,rfl⟩
  have hz32:z.size=32:=by rw [hz];exact rootF_size _
  rw [← hz] at hv hl1 hl2
  obtain ⟨old,hold⟩:∃ old,old=rootF (L.take M):=⟨_,rfl⟩
  obtain ⟨rt,hrt⟩:∃ rt,rt=rootF L:=⟨_,rfl⟩
  have ho32:old.size=32:=by rw [hold];exact rootF_size _
  have hr32:rt.size=32:=by rw [hrt];exact rootF_size _
  have HWO:=Lib.hid (show wholeW W0=true→z=old from fun h=>by rw [hz,hold,hl3 h])
  rw [← hold,← hrt]
  rw [← hold] at hl2
  rw [← hrt] at hl1
  have HL1:=Lib.hid hl1
  have HL2:=Lib.hid hl2
  obtain ⟨E,hE⟩:∃ E,E=(if wholeW W0 then [] else [z]):=⟨_,rfl⟩
  have hE1:E.length≤1:=by rw [hE];split <;> simp
  rw [← hE] at hv
  have HEE:=Lib.hid hE
  have hlen:((W0.map (·.1)++E).reverse).length≤1001:=by simp;omega
  have hall:allF ((W0.map (·.1)++E).reverse)=true:=allF_of _ (fun x hx=>by
    rcases List.mem_append.1 (List.mem_reverse.1 hx) with h|h
    · obtain ⟨y,hy,rfl⟩:=List.mem_map.1 h
      exact HSZ.out y hy
    · rw [hE] at h
      split at h
      · cases h
      · rw [List.mem_singleton.1 h];exact hz32)
  have HAll:=Lib.hid (all_any S v ((W0.map (·.1)++E).reverse) w hv (by omega))
  rw [hall] at HAll
  have hio:((old.size:Int) == 32)=true:=by rw [ho32];rfl
  have hir:((rt.size:Int) == 32)=true:=by rw [hr32];rfl
  have HIO:=Lib.hid (fun W:World=>digest_isDigest old W)
  have HIR:=Lib.hid (fun W:World=>digest_isDigest rt W)
  rw [hio] at HIO
  rw [hir] at HIR
  have HSB:=Lib.hid hSB
  have HR:=Lib.hid hR
  have HV:=Lib.hid hv
  have HW0:=Lib.hid hW0
  have HEN:=Lib.hid hEN
  have HZ:=Lib.hid hz
  have hr1:=hR.lt
  obtain ⟨nl,hnl⟩:∃ nl,nl=((W0.map (·.1)++E).reverse).length:=⟨_,rfl⟩
  obtain ⟨A,c,hv1,hc,_⟩:=hv
  rw [← hnl] at hv1 hc
  have HNL:=Lib.hid hnl
  subst hv1
  have d0:decide ((M:Int)<0)=false:=decide_eq_false (by omega)
  have d1:decide ((L.length:Int)<(M:Int))=false:=decide_eq_false (by omega)
  have d1':decide (L.length<M)=false:=decide_eq_false (by omega)
  have d1n:¬ L.length<M:=by omega
  have d2:((M:Int) == 0)=false:=by rw [beq_eq_false_iff_ne];omega
  have d2':¬ M=0:=by omega
  have d3:((M:Int) == (L.length:Int))=false:=by rw [beq_eq_false_iff_ne];omega
  have d3':¬ M=L.length:=by omega
  clear hR hSB hW0 hEN hz hold hrt hE hl1 hl2 hl3 hio hir hnl
  refine (callsIn_wide (n:=3)).1 (callsIn_of_wp_marks Tryz.func20 rfl trivial (wpIn_wide.2 ?_) rfl)
  simp only [Tryz.ntmps20,List.size_toArray,List.length_cons,List.length_nil,Nat.reduceAdd,Nat.reduceSub,Array.replicate_succ,Array.replicate_zero,List.push_toArray,List.append_toArray,List.nil_append,List.cons_append]
  go_wp2_with fail
  refine HAll.out.mono ?_
  rintro e W1 ⟨rfl,rfl⟩
  go_wp2_with fail
  refine (HIO.out _).mono ?_
  rintro e W1 ⟨rfl,rfl⟩
  go_wp2_with fail
  refine (HIR.out _).mono ?_
  rintro e W1 ⟨rfl,rfl⟩
  go_wp2
  go_loopw [1,3,4,11,12,13,14,15,16] (fun mv nv pv ov bv _ _ _ _ W=>∃ (f i:Nat) (cur:List ByteArray) (way rest:List (ByteArray × Bool)),cur.length≤f∧cur.length≤1000∧mv=.int .i64 (i:Int)∧nv=.int .i64 (cur.length:Int)∧1≤i∧i≤cur.length∧W0=way++rest∧rest=extW f cur i∧EN=extEnd f cur i∧bv=.bool (wholeW way)∧Strs S W pv ((rest.map (·.1)++E).reverse)∧W.ownsRow w.heap.size 128 2 ov way.length (sdC way)∧Below w.heap.size w W) (fun _ nv _ _ _ _ _ _ _ _=>(intOf nv).toNat)
  case atStart=>exact ⟨L.length,M,L,[],W0,Nat.le_refl _,hL,rfl,rfl,h1M,by omega,rfl,HW0.out,HEN.out,rfl,by rw [← HNL.out] at *;exact HV.out,World.ownsRow_nil _ _ _ _,ext_refl _⟩
  case round =>
    obtain ⟨f,i,cur,way,rest,hf,h17,rfl,rfl,hi1,hi,hsplit,hrest,hend,rfl,hs,hown,hE⟩:=hrel
    have HO:=Lib.hid hown
    have HE:=Lib.hid hE
    have HS:=Lib.hid hs
    have HSP:=Lib.hid hsplit
    have hwr:way.length+rest.length≤1000:=by rw [hsplit,List.length_append] at hwl;exact hwl
    obtain ⟨wb,hwb⟩:∃ wb,wb=wholeW way:=⟨_,rfl⟩
    rw [← hwb]
    have HWB:=Lib.hid hwb
    clear hown hE hsplit hwb
    by_cases h1:cur.length≤i
    · have hr0 : rest = [] := by
        rw [hrest]
        cases f with
        | zero=>rfl
        | succ f=>unfold extW;rw [if_pos h1]
      subst hr0
      have hec:EN=cur:=by
        rw [hend]
        cases f with
        | zero=>rfl
        | succ f=>unfold extEnd;rw [if_pos h1]
      clear hrest hend hec
      have hW:W0=way:=by have:=HSP.out;rwa [List.append_nil] at this
      have HW:=Lib.hid hW
      obtain ⟨Aw,cw,hwv⟩:=own_shape HO.out
      subst hwv
      have d4:decide ((i:Int)<(cur.length:Int))=false:=decide_eq_false (by omega)
      have d4':decide (i<cur.length)=false:=decide_eq_false (by omega)
      have hE2:E=if wb then [] else [z]:=by rw [HEE.out,hW,← HWB.out]
      have hzo:wb=true→z=old:=fun h=>HWO.out (by rw [hW,← HWB.out];exact h)
      rw [show ((([]:List (ByteArray × Bool)).map (·.1))++E).reverse=E by
        rw [hE2]
        cases wb <;> rfl] at HS hs
      have hRw:=HR.out.below HE.out
      have hz0:=HE.out.size
      clear hs hW
      cases wb
      case' true=>
        rw [if_pos rfl] at hE2
        subst hE2
        obtain ⟨Ap,cp,hpv,-,-⟩:=id HS.out
        have hpv:u4=.slice Ap 0 cp:=hpv
        subst hpv
        have hzo:=hzo rfl
        subst hzo
        go_upto_region 20 with (fail)
        obtain ⟨g,hg⟩:∃ g,g=wr.heap.size:=⟨_,rfl⟩
        obtain ⟨X,hX⟩:∃ X,X=(wr.alloc (.cells #[.string z] 9)).alloc (.cells #[.string z] 9):=⟨_,rfl⟩
        rw [← hX,← hg]
        have hB1:Blk X g 9 #[.string z]:=by rw [hX,hg];exact (Blk.new _ _ _).alloc _
        have hB2:Blk X (g+1) 9 #[.string z]:=by rw [hX,hg];exact Blk.new' _ _ _ (by simp)
        have hEX:Below wr.heap.size wr X:=by rw [hX];exact ext_alloc (ext_new _ _) _
        have HB1:=Lib.hid hB1
        have HB2:=Lib.hid hB2
        have HEX:=Lib.hid (ext_call HE.out hEX)
        have HRX:=Lib.hid (hRw.below hEX)
        have HOX:=Lib.hid (own_extB HO.out hEX)
        have hgw:w.heap.size≤g:=by omega
        have hgx:g+2≤X.heap.size:=by rw [hX,hg];simp
        have HG:=Lib.hid hg
        clear hX hB1 hB2 hEX HS hRw HE HO hg
        generalize X=V at *
      case' false=>
        rw [if_neg (by decide)] at hE2
        subst hE2
        clear hzo
        obtain ⟨bp,op,cp,hpv,hcp,hSb,hcz⟩:=HS.out.at_ (k:=0) (by simp)
        have hpv:u4=.slice (some ⟨bp,op,none⟩) 1 cp:=hpv
        subst hpv
        have hcz:wr.cell? ⟨bp,op,none⟩=some (.string z):=hcz
        have hltp:bp<wr.heap.size:=lt_of_cell hcz
        go_upto_region 20 with (fail)
        obtain ⟨g,hg⟩:∃ g,g=wr.heap.size:=⟨_,rfl⟩
        obtain ⟨X,hX⟩:∃ X,X=(wr.alloc (.cells #[.string old] 9)).alloc (.cells #[.string old] 9):=⟨_,rfl⟩
        rw [← hX,← hg]
        have hB1:Blk X g 9 #[.string old]:=by rw [hX,hg];exact (Blk.new _ _ _).alloc _
        have hB2:Blk X (g+1) 9 #[.string old]:=by rw [hX,hg];exact Blk.new' _ _ _ (by simp)
        have hEX:Below wr.heap.size wr X:=by rw [hX];exact ext_alloc (ext_new _ _) _
        have cz:=cell_ext hcz hEX
        have b1:=hB1.cell 0
        have b2:=hB2.cell 0
        have f1:=hB1.frozen 0
        have f2:=hB2.frozen 0
        have hne1:(⟨g,0,none⟩:Addr)≠⟨bp,op,none⟩:=by intro e;injection e with e _ _;omega
        have hne2:(⟨g+1,0,none⟩:Addr)≠⟨bp,op,none⟩:=by intro e;injection e with e _ _;omega
        have HB1:=Lib.hid (show Blk ((X.setCell ⟨g,0,none⟩ (.string z)).setCell ⟨g+1,0,none⟩ (.string z)).drew g 9 #[.string z] from ((hB1.set_ 0 _).far (p:=⟨g+1,0,none⟩) (by show g≠g+1;omega) _).drew)
        have HB2:=Lib.hid (show Blk ((X.setCell ⟨g,0,none⟩ (.string z)).setCell ⟨g+1,0,none⟩ (.string z)).drew (g+1) 9 #[.string z] from ((hB2.far (p:=⟨g,0,none⟩) (by show g+1≠g;omega) _).set_ 0 _).drew)
        have hEV:Below wr.heap.size wr ((X.setCell ⟨g,0,none⟩ (.string z)).setCell ⟨g+1,0,none⟩ (.string z)).drew:=(ext_set (ext_set hEX (by show wr.heap.size≤g;omega) _) (by show wr.heap.size≤g+1;omega) _).drew
        have HEX:=Lib.hid (ext_call HE.out hEV)
        have HRX:=Lib.hid (hRw.below hEV)
        have HOX:=Lib.hid (own_extB HO.out hEV)
        have hgw:w.heap.size≤g:=by omega
        have hgx:g+2≤((X.setCell ⟨g,0,none⟩ (.string z)).setCell ⟨g+1,0,none⟩ (.string z)).drew.heap.size:=by
          show g+2≤((X.setCell _ _).setCell _ _).heap.size
          have h9:g+2≤X.heap.size:=by rw [hX,hg];simp
          exact Nat.le_trans h9 (Nat.le_trans (KeepsOthers.setCell _ _ _).size (KeepsOthers.setCell _ _ _).size)
        have HG:=Lib.hid hg
        clear hX hB1 hB2 hEX hEV HS hRw HE HO hg
        go_upto_region 23 with (fail)
        have hbg:bp<g:=by have:=HG.out;omega
        have hq1:(⟨g,0,none⟩:Addr)≠⟨g+1,0,none⟩:=by intro e;injection e with e _ _;omega
        have b1:X.drew.cell? ⟨g,0,none⟩=some (.string old):=b1
        have b2:X.drew.cell? ⟨g+1,0,none⟩=some (.string old):=b2
        have f1:X.drew.frozen? ⟨g,0,none⟩=false:=f1
        have f2:X.drew.frozen? ⟨g+1,0,none⟩=false:=f2
        go_region
        generalize ((X.setCell ⟨g,0,none⟩ (.string z)).setCell ⟨g+1,0,none⟩ (.string z)).drew=V at *
        clear cz b1 b2 f1 f2 hne1 hne2 hq1
      all_goals
        go_wp2_with (go_at_call 58;refine (backS_any _ _ _ _).mono ?_;rintro e W2 ⟨rfl,rfl⟩)
        obtain ⟨gb,hgb⟩:∃ gb,gb=V.heap.size:=⟨_,rfl⟩
        have hE2:Below V.heap.size V (V.alloc (.cells #[.slice Aw way.length cw] 124)):=ext_new _ _
        have hbk:BkC gb Aw cw way (V.alloc (.cells #[.slice Aw way.length cw] 124)):=bkC_of (own_extB HOX.out hE2) (by rw [hgb];exact cell_new1 V _ _)
        have hb1:=HB1.out.ext hE2
        have hb2:=HB2.out.ext hE2
        have hAn1:∀ b o,Aw=some ⟨b,o,none⟩→g≠b:=fun b o h e=>by
          subst e
          exact own_not HOX.out HB1.out (by decide) (by rw [h];rfl)
        have hAn2:∀ b o,Aw=some ⟨b,o,none⟩→g+1≠b:=fun b o h e=>by
          subst e
          exact own_not HOX.out HB2.out (by decide) (by rw [h];rfl)
        have hR2:=HRX.out.below hE2
        have hbl:=ext_call HEX.out hE2
        have hsz:(V.alloc (.cells #[.slice Aw way.length cw] 124)).heap.size=gb+1:=by simp [hgb]
        have HAN:=Lib.hid (And.intro hAn1 hAn2)
        have HWSZ:=Lib.hid (show ∀ x ∈ way,x.1.size=32 by rw [← HW.out];exact HSZ.out)
        have hgb2:g+2≤gb:=by omega
        clear hE2 hAn1 hAn2 HB1 HB2 HEX HRX HOX
        rw [← hgb]
        generalize (V.alloc (.cells #[.slice Aw way.length cw] 124))=W2 at *
        clear hgb hgx V
        refine (wpIn_wide (n:=3)).1 ?_
        refine' wpIn_mem_box (by omega) (gf:=106) (lb:=#[.pointer (some ⟨gb,0,none⟩)]) (by simp [Act.eval]) (enters_of Tryz.func106 (by kernel_rfl) rfl)
          (backM_seq 2 (by omega) gb Aw cw way (by omega)) (fun _=>rfl)
          (fun k W=>((Blk W g 9 #[.string (accM stpF way z k)]∧Blk W (g+1) 9 #[.string (accM joinW way z k)])∧RoundOK W)∧BkC gb Aw cw way W∧Below w.heap.size w W)
          (fun k=>OwnP.and (OwnP.and (OwnP.and OwnP.blk OwnP.blk) OwnP.round) (OwnP.and OwnP.bkC (OwnP.below (Nat.le_refl _) (by omega)))) (fun k W h=>h.2.1) ⟨⟨⟨by rw [accM_zero];exact hb1,by rw [accM_zero];exact hb2⟩,hR2⟩,hbk,hbl⟩
          128 (fun k=>#[.string (sdAt way k).1,.bool (sdAt way k).2]) _ ?assign ?body ?done
        case assign=>
          intro l h k W K hh hK
          unfold sdVals
          gi_wp2
          rw [← hh]
          exact hK
        case body=>
          rintro l h k W hkN hszW hh hB ⟨⟨⟨hO1,hO2⟩,hRo⟩,hbk,hb⟩
          obtain ⟨acc,hacc⟩:∃ acc,acc=accM joinW way z k:=⟨_,rfl⟩
          obtain ⟨act,hact⟩:∃ act,act=accM stpF way z k:=⟨_,rfl⟩
          have hac:acc.size=32:=by rw [hacc];exact accM_size way z hz32 k (by omega)
          have hat:act.size=32:=by rw [hact];exact accT_size way z hz32 k (by omega)
          have HACC:=Lib.hid (accM_succ joinW hkN z)
          have HACT:=Lib.hid (accM_succ stpF hkN z)
          rw [← hacc] at HACC hO2
          rw [← hact] at HACT hO1
          obtain ⟨⟨y,f2⟩,hx⟩:∃ x,x=sdAt way k:=⟨_,rfl⟩
          have hy32:y.size=32:=by
            have:=HWSZ.out (sdAt way k) (List.mem_of_getElem? (sdAt_eq hkN))
            rw [← hx] at this
            exact this
          rw [← hx] at HACC HACT hB ⊢
          dsimp only at hB ⊢
          have c0:W.cell? ⟨g,0,none⟩=some (.string act):=hO1.cell 0
          have c1:W.cell? ⟨g+1,0,none⟩=some (.string acc):=hO2.cell 0
          have c2:W.cell? ⟨h,0,none⟩=some (.string y):=hB.cell 0
          have c3:W.cell? ⟨h,1,none⟩=some (.bool f2):=hB.cell 1
          have HRo:=Lib.hid hRo
          have HO1:=Lib.hid hO1
          have HO2:=Lib.hid hO2
          have HBX:=Lib.hid hB
          have HBe:=Lib.hid hb
          have HBK:=Lib.hid hbk
          have hgh:g+1<h:=by omega
          clear hRo hb hO1 hO2 hB hacc hact hx hbk
          cases f2 with
          | true=>
            gi_wp2_with fail
            refine ⟨trivial,(CallsIn.inRound l (callsIn_wide.2 (join_any y act true W HRo.out (by omega) (by omega)))).mono ?_⟩
            rintro e W' ⟨rfl,hb'⟩
            obtain ⟨nt,hnt⟩:∃ nt,nt=joinF y true act:=⟨_,rfl⟩
            rw [← hnt]
            have HNT:=Lib.hid hnt
            have hO1:=HO1.out.ext hb'
            have hO2:=HO2.out.ext hb'
            have hBX:=HBX.out.ext hb'
            have e0:W'.cell? ⟨g,0,none⟩=some (.string act):=hO1.cell 0
            have f0:W'.frozen? ⟨g,0,none⟩=false:=hO1.frozen 0
            obtain ⟨X,hX⟩:∃ X,X=W'.setCell ⟨g,0,none⟩ (.string nt):=⟨_,rfl⟩
            have hE':Below w.heap.size w X:=by rw [hX];exact ext_set (HBe.out.trans (hb'.mono HBe.out.size)) hgw _
            have hX1:Blk X g 9 #[.string nt]:=by rw [hX];exact hO1.set_ 0 _
            have hX2:Blk X (g+1) 9 #[.string acc]:=by rw [hX];exact hO2.far (by show g+1≠g;omega) _
            have hX3:Blk X h 128 #[.string y,.bool true]:=by rw [hX];exact hBX.far (by show h≠g;omega) _
            have hX4:RoundOK X:=by rw [hX];exact (HRo.out.below hb').keep fun p hp=>World.cell?_of_block (Below.heap_setCell _ _ _ _ (by rw [hp];show _≠g;omega))
            have hX5:BkC gb Aw cw way X:=by rw [hX];exact (HBK.out.ext hb').set (by omega) HAN.out.1 _
            have hX6:KeepsOthers W X:=by rw [hX];exact KeepsOthers.trans ⟨hb'.size,fun k o hk _=>(hb'.block k (Array.getElem?_eq_some_iff.1 hk).1).trans hk⟩ (KeepsOthers.setCell _ _ _)
            have d1:(W'.setCell ⟨g,0,none⟩ (.string nt)).cell? ⟨g+1,0,none⟩=some (.string acc):=by rw [← hX];exact hX2.cell 0
            have d2:(W'.setCell ⟨g,0,none⟩ (.string nt)).cell? ⟨h,0,none⟩=some (.string y):=by rw [← hX];exact hX3.cell 0
            have d3:(W'.setCell ⟨g,0,none⟩ (.string nt)).cell? ⟨h,1,none⟩=some (.bool true):=by rw [← hX];exact hX3.cell 1
            have x1:=hO2.cell 0
            have x2:=hBX.cell 0
            have x3:=hBX.cell 1
            have n1:¬ g=h:=by omega
            clear hnt hb'
            gi_wp2_with fail
            rw [← hX]
            have HX4:=Lib.hid hX4
            have HX5:=Lib.hid hX5
            have HX6:=Lib.hid hX6
            have HE':=Lib.hid hE'
            clear hX d1 d2 d3 x1 x2 x3 n1 e0 f0 c0 c1 c2 c3 hO1 hO2 hBX hX3 hX5 hX6 hE'
            refine ⟨trivial,(CallsIn.inRound l (callsIn_wide.2 (join_any y acc true X hX4 (by omega) (by omega)))).mono ?_⟩
            rintro e Y ⟨rfl,hbY⟩
            obtain ⟨ns,hns⟩:∃ ns,ns=joinF y true acc:=⟨_,rfl⟩
            rw [← hns]
            have HNS:=Lib.hid hns
            have hY1:=hX1.ext hbY
            have hY2:=hX2.ext hbY
            have e1:Y.cell? ⟨g+1,0,none⟩=some (.string acc):=hY2.cell 0
            have f1:Y.frozen? ⟨g+1,0,none⟩=false:=hY2.frozen 0
            have HYY:=Lib.hid (And.intro hY1 hY2)
            have HYB:=Lib.hid hbY
            clear hns hY1 hY2 hbY hX1 hX2 hX4
            gi_wp2
            have HF:=HYB.out
            refine ⟨(KeepsOthers.trans HX6.out (KeepsOthers.trans ⟨HF.size,fun k o hk _=>(HF.block k (Array.getElem?_eq_some_iff.1 hk).1).trans hk⟩ (KeepsOthers.setCell _ _ _))).from _,⟨⟨?_,?_⟩,?_⟩,(HX5.out.ext HF).set (by omega) HAN.out.2 _,ext_set (HE'.out.trans (HF.mono HE'.out.size)) (by show w.heap.size≤g+1;omega) _⟩
            · rw [HACT.out]
              rw [show stpF (y,true) act=nt by rw [HNT.out];simp [stpF,joinF]]
              exact HYY.out.1.far (by show g≠g+1;omega) _
            · rw [HACC.out,show joinW (y,true) acc=ns by rw [HNS.out];simp [joinW,joinF]]
              exact HYY.out.2.set_ 0 _
            · exact (HX4.out.below HF).keep fun p hp=>World.cell?_of_block (Below.heap_setCell _ _ _ _ (by rw [hp];show _≠g+1;omega))
          | false=>
            gi_wp2_with fail
            refine ⟨trivial,(CallsIn.inRound l (callsIn_wide.2 (join_any y acc false W HRo.out (by omega) (by omega)))).mono ?_⟩
            rintro e Y ⟨rfl,hbY⟩
            obtain ⟨ns,hns⟩:∃ ns,ns=joinF y false acc:=⟨_,rfl⟩
            rw [← hns]
            have HNS:=Lib.hid hns
            have hY1:=HO1.out.ext hbY
            have hY2:=HO2.out.ext hbY
            have e1:Y.cell? ⟨g+1,0,none⟩=some (.string acc):=hY2.cell 0
            have f1:Y.frozen? ⟨g+1,0,none⟩=false:=hY2.frozen 0
            have HYY:=Lib.hid (And.intro hY1 hY2)
            have HYB:=Lib.hid hbY
            clear hns hY1 hY2 hbY
            gi_wp2
            have HF:=HYB.out
            refine ⟨(KeepsOthers.trans (KeepsOthers.refl _) (KeepsOthers.trans ⟨HF.size,fun k o hk _=>(HF.block k (Array.getElem?_eq_some_iff.1 hk).1).trans hk⟩ (KeepsOthers.setCell _ _ _))).from _,⟨⟨?_,?_⟩,?_⟩,(HBK.out.ext HF).set (by omega) HAN.out.2 _,ext_set (HBe.out.trans (HF.mono HBe.out.size)) (by show w.heap.size≤g+1;omega) _⟩
            · rw [HACT.out]
              rw [show stpF (y,false) act=act from rfl]
              exact HYY.out.1.far (by show g≠g+1;omega) _
            · rw [HACC.out,show joinW (y,false) acc=ns by rw [HNS.out];simp [joinW,joinF]]
              exact HYY.out.2.set_ 0 _
            · exact (HRo.out.below HF).keep fun p hp=>World.cell?_of_block (Below.heap_setCell _ _ _ _ (by rw [hp];show _≠g+1;omega))
        case done=>
          rintro D W hD ⟨⟨⟨hB1,hB2⟩,hRo⟩,hbk,hb⟩ hK
          rw [accM_all,← HW.out,HL2.out] at hB1
          rw [accM_all,← HW.out,HL1.out] at hB2
          have c0:W.cell? ⟨g,0,none⟩=some (.string _):=hB1.cell 0
          have c1:W.cell? ⟨g+1,0,none⟩=some (.string rt):=hB2.cell 0
          have HBE:=Lib.hid hb
          clear hB1 hB2 hb
          go_wp2
          refine ⟨by simp,.inl ⟨_,_,rfl,run_takeDeferred hK,?_⟩⟩
          refine ⟨_,results_tmp rfl _ _ _,?_,?_⟩
          · simp
          · exact HBE.out.grown (grownBy_putObj' W D _) HBE.out.size (fun k e=>by injection e with e;omega)
    · have hb:=leftF_bounds cur.length (by omega) (by omega)
      obtain ⟨k,hk⟩:∃ k,k=leftF cur.length:=⟨_,rfl⟩
      have HLF:=Lib.hid (fun W:World=>left_any cur.length W (by omega) (by omega))
      rw [← hk] at hb HLF
      have HKE:=Lib.hid hk
      clear hk
      obtain ⟨f',rfl⟩:∃ f',f=f'+1:=⟨f-1,by omega⟩
      have hrest2:∃ x,∃ tl,rest=x::tl∧x.2=decide (k<i)∧tl=(if k<i then extW f' (cur.drop k) (i-k) else extW f' (cur.take k) i):=by
        rw [hrest]
        conv=>enter [1,x,1,tl,1];unfold extW
        rw [if_neg h1,← HKE.out]
        by_cases hik:k<i
        · rw [if_pos hik,if_pos hik]
          exact ⟨_,_,rfl,(decide_eq_true (by omega)).symm,rfl⟩
        · rw [if_neg hik,if_neg hik]
          exact ⟨_,_,rfl,(decide_eq_false (by omega)).symm,rfl⟩
      have HEND:=Lib.hid (show EN=(if k<i then extEnd f' (cur.drop k) (i-k) else extEnd f' (cur.take k) i) by
        rw [hend]
        conv=>lhs;unfold extEnd
        rw [if_neg h1,← HKE.out])
      obtain ⟨⟨d,fl⟩,tl,hrt2,hfl,htl⟩:=hrest2
      dsimp only at hfl
      subst hrt2
      clear hrest hend
      have hsp:(((((d,fl)::tl).map (·.1)++E).reverse).length)=(tl.map (·.1)++E).length+1:=by simp;omega
      obtain ⟨nt,hnt⟩:∃ nt,nt=(tl.map (·.1)++E).length:=⟨_,rfl⟩
      rw [← hnt] at hsp
      have HTK:=Lib.hid (take_any S u4 ((((d,fl)::tl).map (·.1)++E).reverse) wr HS.out (by rw [hsp,hnt];rw [List.length_cons] at hwr;simp;omega))
      have hlast:(((((d,fl)::tl).map (·.1)++E).reverse).getLast?.getD ⟨#[]⟩)=d:=by simp
      have hdrop:((((d,fl)::tl).map (·.1)++E).reverse).dropLast=(tl.map (·.1)++E).reverse:=by simp
      have hne:((((d,fl)::tl).map (·.1)++E).reverse).isEmpty=false:=by simp
      unfold TakePost at HTK
      rw [hlast,hdrop,hne] at HTK
      obtain ⟨Ap,cp,hpv,-,-⟩:=id HS.out
      rw [hsp] at hpv
      subst hpv
      have d4:decide ((i:Int)<(cur.length:Int))=true:=decide_eq_true (by omega)
      have d4':decide (i<cur.length)=true:=decide_eq_true (by omega)
      have HFL:=Lib.hid hfl
      have HTL:=Lib.hid htl
      have HNT:=Lib.hid hnt
      clear hlast hdrop hne hsp hfl hs htl hnt
      go_wp2_with fail
      refine HTK.out.mono ?_
      rintro e W1 ⟨v',rfl,hv',hb1⟩
      have HV1:=Lib.hid hv'
      have HB1:=Lib.hid hb1
      obtain ⟨A',c',hva0,-,-⟩:=hv'
      have hva:v'=.slice A' nt c':=by rw [hva0,HNT.out,List.length_reverse]
      clear hva0
      subst hva
      clear hb1
      go_wp2_with fail
      refine (HLF.out _).mono ?_
      rintro e w' ⟨rfl,hw'⟩
      subst w'
      have ho1:=own_extB HO.out HB1.out
      have hz1:=(ext_call HE.out HB1.out).size
      by_cases hik:k<i
      · have d5:decide ((k:Int)<(i:Int))=true:=decide_eq_true (by omega)
        have q5:(k:Int)<(i:Int):=by omega
        have hfl:fl=true:=by rw [HFL.out];exact decide_eq_true hik
        have HT2:=Lib.hid (show tl=extW f' (cur.drop k) (i-k) by rw [HTL.out,if_pos hik])
        have HN2:=Lib.hid (show EN=extEnd f' (cur.drop k) (i-k) by rw [HEND.out,if_pos hik])
        subst hfl
        have e5:IntKind.i64.wrap ((i:Int)-(k:Int))=((i-k:Nat):Int):=by rw [IntWalk.i64_in _ (by omega)];omega
        have e6:IntKind.i64.wrap ((cur.length:Int)-(k:Int))=((cur.length-k:Nat):Int):=by rw [IntWalk.i64_in _ (by omega)];omega
        obtain ⟨ha,W4,hW4,v4,hv4,ho4,hg4⟩:=appSide W1 w.heap.size hz1 u11 way.length (sdC way) ho1 (by omega) d true
        have HO4:=Lib.hid ho4
        have HE4:=Lib.hid (show Below w.heap.size w W4 from (ext_alloc (ext_call HE.out HB1.out) (.cells #[.string d,.bool true] 128)).grown hg4 (by simp;omega) (fun g hg=>(ho1.lt g hg).1))
        have HP4:=Lib.hid (show Strs S W4 _ ((tl.map (·.1)++E).reverse) from Strs.ownGrown (HV1.out.below (ext_new W1 (.cells #[.string d,.bool true] 128))) hg4 HSB.out (fun g hg=>(ho1.lt g hg).1))
        clear ho4 hg4 ho1
        go_wp2
        go_roundw
        case rel=>exact ⟨f',i-k,cur.drop k,way++[(d,true)],tl,(by first|(rw [List.length_drop];omega)|(rw [List.length_take];omega)),(by first|(rw [List.length_drop];omega)|(rw [List.length_take];omega)),by go_num,by rw [List.length_drop],by omega,(by first|(rw [List.length_drop];omega)|(rw [List.length_take];omega)),by rw [HSP.out,List.append_assoc];rfl,HT2.out,HN2.out,by simp [wholeW],HP4.out,by rw [List.length_append,List.length_singleton,sdC_append];exact HO4.out,HE4.out⟩
        case measure=>simp [intOf];omega
      · have d5:decide ((k:Int)<(i:Int))=false:=decide_eq_false (by omega)
        have hfl:fl=false:=by rw [HFL.out];exact decide_eq_false hik
        have HT2:=Lib.hid (show tl=extW f' (cur.take k) (i) by rw [HTL.out,if_neg hik])
        have HN2:=Lib.hid (show EN=extEnd f' (cur.take k) (i) by rw [HEND.out,if_neg hik])
        subst hfl
        obtain ⟨ha,W4,hW4,v4,hv4,ho4,hg4⟩:=appSide W1 w.heap.size hz1 u11 way.length (sdC way) ho1 (by omega) d false
        have HO4:=Lib.hid ho4
        have HE4:=Lib.hid (show Below w.heap.size w W4 from (ext_alloc (ext_call HE.out HB1.out) (.cells #[.string d,.bool false] 128)).grown hg4 (by simp;omega) (fun g hg=>(ho1.lt g hg).1))
        have HP4:=Lib.hid (show Strs S W4 _ ((tl.map (·.1)++E).reverse) from Strs.ownGrown (HV1.out.below (ext_new W1 (.cells #[.string d,.bool false] 128))) hg4 HSB.out (fun g hg=>(ho1.lt g hg).1))
        clear ho4 hg4 ho1
        go_wp2
        go_roundw
        case rel=>exact ⟨f',i,cur.take k,way++[(d,false)],tl,(by first|(rw [List.length_drop];omega)|(rw [List.length_take];omega)),(by first|(rw [List.length_drop];omega)|(rw [List.length_take];omega)),by go_num,by rw [List.length_take,Nat.min_eq_left (by omega)],by omega,(by first|(rw [List.length_drop];omega)|(rw [List.length_take];omega)),by rw [HSP.out,List.append_assoc];rfl,HT2.out,HN2.out,by rw [HWB.out];simp [wholeW],HP4.out,by rw [List.length_append,List.length_singleton,sdC_append];exact HO4.out,HE4.out⟩
        case measure=>simp [intOf];omega
end Go.Proofs.YtnajpjnnlocfgaaGreatDoor
