/-
  Part 4 of 9: the contracts that the proof of the last part uses; each stands under its own head.
-/
import Derived.Test.YtnajpjnnlocfgaaGreatDoorJ3
import Derived.Test.YtnajpjnnlocfgaaGreatDoorJ2
import Derived.Great.BuildSlice
import Derived.Test.YtnajpjnnlocfgaaGreatDoorJ1
import Derived.LoopN
import Derived.WalkMore
import Derived.Lib.ConvBytes
import Derived.Laws.Closers25
import Derived.Laws.CopyOwn
import Derived.Deep.Cut
import Derived.Deep.RegionLaw
import Derived.Deep.RegionHeld3
import Derived.BigQuiet
import Derived.Deep.OwnRows
set_option linter.unusedSimpArgs false
set_option linter.unusedVariables false
set_option maxHeartbeats 4000000
set_option maxRecDepth 100000
namespace Go.Proofs.YtnajpjnnlocfgaaGreatDoor
section
open Go.RowKit Go.Shelf
attribute [local go_sem] Oper.semAt_some
theorem logLenC (gl n c:Nat) (A:Option Addr) (w:World) (h0:w.cell? ⟨gl,0,none⟩=some (.slice A n c)):Calls Tryz.prog 36 #[.pointer (some ⟨gl,0,none⟩)] w fun e w'=>e=.returned (.int .i64 (n:Int))∧w=w':=by
  go_enter Tryz.func36,Tryz.ntmps36
  go_wp2
  go_ret
  exact ⟨rfl,rfl⟩
structure OneRec (W:World) (gl:Nat):Prop where
  at_:∃ gr c g d v,Blk W gl 115 #[.slice (some ⟨gr,0,none⟩) 1 c,v]∧1≤c∧HeadB W gr #[.int .i64 1,.slice (some ⟨g,0,none⟩) 1 d]∧HeadB W g #[.int .i64 0,.int .i64 5,.bool false,.int .i64 0,.int .i64 0,.int .i64 0,.bool true,.int .i64 1,.int .i64 2,.int .i64 3]
theorem OneRec.ext {w W:World} {gl:Nat} (h:OneRec w gl) (k:Below w.heap.size w W):OneRec W gl:=by
  obtain ⟨gr,c,g,d,v,h1,h2,h3,h4⟩:=h.at_
  exact ⟨gr,c,g,d,v,h1.ext k,h2,h3.ext k,h4.ext k⟩
theorem logRecord (gl:Nat) (w:World) (h:OneRec w gl):Calls Tryz.prog 79 #[.pointer (some ⟨gl,0,none⟩),.int .i64 1] w
    fun e w'=>∃ g d,e=.returned (.tuple #[.agg #[.int .i64 1,.slice (some ⟨g,0,none⟩) 1 d],.bool true])∧HeadB w' g #[.int .i64 0,.int .i64 5,.bool false,.int .i64 0,.int .i64 0,.int .i64 0,.bool true,.int .i64 1,.int .i64 2,.int .i64 3]∧Below w.heap.size w w':=by
  obtain ⟨gr,c,g,d,v,h1,hc,h3,h4⟩:=h.at_
  obtain ⟨X,hX⟩:∃ X,X=w.alloc (.cells #[.int .i64 0,.slice none 0 0] 43):=⟨_,rfl⟩
  have HX:=Lib.hid hX
  have HE:=Lib.hid (show Below w.heap.size w X by rw [hX];exact ext_new _ _)
  have HR:=Lib.hid (show Blk X w.heap.size 43 #[.int .i64 0,.slice none 0 0] by rw [hX];exact Blk.new _ _ _)
  have c0:=(h1.ext HE.out).cell 0
  have r0:=(h3.ext HE.out).cell 0
  have r1:=(h3.ext HE.out).cell 1
  have HC:=Lib.hid (h4.ext HE.out)
  have hgl:=h1.lt
  have hgr:=h3.lt
  clear hX h1 h3 h4 h
  go_enter Tryz.func79,Tryz.ntmps79
  go_upto_region 1 with (fail)
  rw [← HX.out]
  go_wp2_with (go_at_call 36;refine (logLenC gl 1 c _ _ c0).mono ?_;rintro e w' ⟨rfl,hw'⟩;subst w')
  refine (logOwn g d X HC.out).mono ?_
  rintro e W1 ⟨g2,d2,rfl,_,hb,hb1⟩
  have HB1:=Lib.hid hb
  have HE1:=Lib.hid (ext_call HE.out hb1)
  have HR1:=Lib.hid (HR.out.ext hb1)
  have hg2:g2≠w.heap.size:=by
    rintro rfl
    have h0:=(hb.cell 0).symm.trans (HR.out.ext hb1 |>.cell 0)
    have h2:=(hb.cell 2).symm.trans (HR.out.ext hb1 |>.cell 2)
    cases h2
  clear hb hb1 c0 r0 r1
  have z0:=HR1.out.cell 0;have z1:=HR1.out.cell 1
  have f0:=HR1.out.frozen 0
  have f1:=HR1.out.frozen 1
  go_wp2
  have hBf:=(HR1.out.set_ 0 (.int .i64 1)).set_ 1 (.slice (some ⟨g2,0,none⟩) 1 d2)
  have y0:=hBf.cell 0;have y1:=hBf.cell 1
  refine bodyPost_ret (v:=.tuple #[.agg #[.int .i64 1,.slice (some ⟨g2,0,none⟩) 1 d2],.bool true]) (by simp [results,Tryz.results79,go_sem,y0,y1]) rfl ⟨g2,d2,rfl,?_,?_⟩
  · exact (HB1.out.far (p:=⟨w.heap.size,0,none⟩) hg2 _).far (p:=⟨w.heap.size,1,none⟩) hg2 _
  · exact ext_set (ext_set HE1.out (Nat.le_refl _) _) (Nat.le_refl _) _
structure RecC (gs gl b1 b2 b3:Nat) (first last:Int) (W:World):Prop where
  one:Blk W b1 3 #[.int .i64 first]
  two:Blk W b2 3 #[.int .i64 last]
  srv:Blk W b3 24 #[.pointer (some ⟨gs,0,none⟩)]
  log:W.cell? ⟨gs,0,none⟩=some (.pointer (some ⟨gl,0,none⟩))
  recs:OneRec W gl
theorem RecC.ext {gs gl b1 b2 b3:Nat} {first last:Int} {w W:World} (h:RecC gs gl b1 b2 b3 first last w) (k:Below w.heap.size w W):RecC gs gl b1 b2 b3 first last W:=
  ⟨h.one.ext k,h.two.ext k,h.srv.ext k,cell_ext h.log k,h.recs.ext k⟩
def recV (x:Nat × Nat):Array Value:=#[.int .i64 1,.slice (some ⟨x.1,0,none⟩) 1 x.2]
def RecM (_:Nat) (x:Nat × Nat) (W:World):Prop:=HeadB W x.1 #[.int .i64 0,.int .i64 5,.bool false,.int .i64 0,.int .i64 0,.int .i64 0,.bool true,.int .i64 1,.int .i64 2,.int .i64 3]
theorem srvPosC (gs gl:Nat) (w:World) (h:w.cell? ⟨gs,0,none⟩=some (.pointer (some ⟨gl,0,none⟩))) (hl:OneRec w gl) :
    Calls Tryz.prog 6 #[.pointer (some ⟨gs,0,none⟩)] w fun e w'=>e=.returned (.int .i64 1)∧w'=w:=by
  obtain ⟨gr,c,g,d,v,h1,_⟩:=hl.at_
  exact (srvPos gs gl 1 c _ v w h h1).mono fun _ _ ⟨a,b⟩=>⟨a,b.symm⟩
def RecPost (J:Nat→World→Prop) (N:Nat) (e:Ending) (W':World):Prop:=(∃ v,e=.returned v)∧J N W'
theorem records1_in (n:Nat) (hn:1≤n) (l gs gl b1 b2 b3:Nat) (J:Nat→World→Prop) (hC:∀ k W,J k W→RecC gs gl b1 b2 b3 1 1 W) (hA:∀ k A B,J k A→Below A.heap.size A B→J k B)
    (hY:∀ k xs W1,k<1→J k W1→(∃ x,xs=#[.agg (recV x)]∧RecM k x W1)→YieldAt Fence.wide (n-1) Tryz.prog l xs W1 fun e W'=>e=.returned (.bool true)∧J (k+1) W')
    (W:World) (h0:J 0 W) :
    CallsIn Fence.wide n Tryz.prog 78 #[.func (.yield l) #[] #[],.pointer (some ⟨b1,0,none⟩),.pointer (some ⟨b2,0,none⟩),.pointer (some ⟨b3,0,none⟩)] W (RecPost J 1):=by
  have HC:=Lib.hid hC
  have HA:=Lib.hid hA
  have HY:=Lib.hid hY
  have H0:=Lib.hid h0
  have R0:=Lib.hid (hC 0 W h0)
  clear hC hA hY h0
  have hmx:max (1:Int) 1=1:=by decide
  have hmn:min (1:Int) 1=1:=by decide
  have a1:=R0.out.one.cell 0
  have a2:=R0.out.two.cell 0
  have a3:=R0.out.srv.cell 0
  refine callsIn_of_wp Tryz.func78 rfl trivial ?_ rfl
  simp only [Tryz.ntmps78,List.size_toArray,List.length_cons,List.length_nil,Nat.reduceAdd,Nat.reduceSub,Array.replicate_succ,Array.replicate_zero,List.push_toArray,List.append_toArray,List.nil_append,List.cons_append]
  gi_wp2
  refine wpIn_loop_rounds 2 ?_
  rw [roundsIn_succ]
  gi_wp2
  have HQ:=Lib.hid (fun X (k:Below W.heap.size W X)=>srvPosC gs gl X (cell_ext R0.out.log k) (R0.out.recs.ext k))
  gi_region_with (refine ⟨trivial,(callsIn_wide.2 (HQ.out _ (by first|exact ext_refl W|exact (ext_refl W).drew))).mono ?_⟩;rintro e W2 ⟨rfl,hw2⟩;subst W2)
  all_goals
    obtain ⟨V,hV⟩:∃ V,V=W.drew:=⟨_,rfl⟩
    rw [← hV]
    have HEV:=Lib.hid (show Below W.heap.size W V by rw [hV];exact (ext_refl W).drew)
    have RV:=Lib.hid (R0.out.ext HEV.out)
    clear hV a1 a2 a3
    have a3:=RV.out.srv.cell 0
    have s0:=RV.out.log
    gi_wp2_with fail
    refine ⟨trivial,(callsIn_wide.2 (logRecord gl V RV.out.recs)).mono ?_⟩
    rintro e W1 ⟨g,d,rfl,hg,hb1⟩
    obtain ⟨W2,hW2⟩:∃ W2,W2=W1.alloc (.cells #[.int .i64 1,.slice (some ⟨g,0,none⟩) 1 d] 43):=⟨_,rfl⟩
    have HW2:=Lib.hid hW2
    have HE2:=Lib.hid (show Below W.heap.size W W2 by rw [hW2];exact ext_alloc (ext_call HEV.out hb1) _)
    have HG2:=Lib.hid (show HeadB W2 g #[.int .i64 0,.int .i64 5,.bool false,.int .i64 0,.int .i64 0,.int .i64 0,.bool true,.int .i64 1,.int .i64 2,.int .i64 3] by rw [hW2];exact hg.alloc _)
    clear hb1 hg hW2 a3 s0
    obtain ⟨fn,tmps,assign,body,hy,hR⟩:=HY.out 0 #[.agg #[.int .i64 1,.slice (some ⟨g,0,none⟩) 1 d]] W2 (by omega) (HA.out _ _ _ H0.out HE2.out) ⟨(g,d),rfl,HG2.out⟩
    gi_wp2_with fail
    rw [← HW2.out,hy]
    gi_wp2
    refine hR.mono ?_
    rintro e W3 ⟨rfl,hJ3⟩
    have HJ3:=Lib.hid hJ3
    have R3:=Lib.hid (HC.out _ _ hJ3)
    clear hJ3 hR hy HW2
    have a1:=R3.out.one.cell 0
    have a2:=R3.out.two.cell 0
    have a3:=R3.out.srv.cell 0
    have HQ3:=Lib.hid (fun X (k:Below W3.heap.size W3 X)=>srvPosC gs gl X (cell_ext R3.out.log k) (R3.out.recs.ext k))
    gi_wp2
    rw [roundsIn_succ]
    gi_wp2
    gi_region_with (refine ⟨trivial,(callsIn_wide.2 (HQ3.out _ (by first|exact ext_refl W3|exact (ext_refl W3).drew))).mono ?_⟩;rintro e W4 ⟨rfl,hw4⟩;subst W4)
    all_goals
      gi_wp2
      refine bodyPost_ret (results_none rfl _ _ _) rfl ⟨⟨_,rfl⟩,?_⟩
      exact HA.out _ _ _ HJ3.out (ext_refl W3).drew
theorem records0_in (n:Nat) (hn:1≤n) (l gs gl b1 b2 b3:Nat) (J:Nat→World→Prop) (hC:∀ k W,J k W→RecC gs gl b1 b2 b3 2 1 W) (hA:∀ k A B,J k A→Below A.heap.size A B→J k B) (W:World) (h0:J 0 W) :
    CallsIn Fence.wide n Tryz.prog 78 #[.func (.yield l) #[] #[],.pointer (some ⟨b1,0,none⟩),.pointer (some ⟨b2,0,none⟩),.pointer (some ⟨b3,0,none⟩)] W (RecPost J 0):=by
  have HA:=Lib.hid hA
  have H0:=Lib.hid h0
  have R0:=Lib.hid (hC 0 W h0)
  clear hC hA h0
  have hmx:max (2:Int) 1=2:=by decide
  have hmn:min (1:Int) 1=1:=by decide
  have a1:=R0.out.one.cell 0
  have a2:=R0.out.two.cell 0
  have a3:=R0.out.srv.cell 0
  have HQ:=Lib.hid (fun X (k:Below W.heap.size W X)=>srvPosC gs gl X (cell_ext R0.out.log k) (R0.out.recs.ext k))
  refine callsIn_of_wp Tryz.func78 rfl trivial ?_ rfl
  simp only [Tryz.ntmps78,List.size_toArray,List.length_cons,List.length_nil,Nat.reduceAdd,Nat.reduceSub,Array.replicate_succ,Array.replicate_zero,List.push_toArray,List.append_toArray,List.nil_append,List.cons_append]
  gi_wp2
  refine wpIn_loop_rounds 1 ?_
  rw [roundsIn_succ]
  gi_wp2
  gi_region_with (refine ⟨trivial,(callsIn_wide.2 (HQ.out _ (by first|exact ext_refl W|exact (ext_refl W).drew))).mono ?_⟩;rintro e W4 ⟨rfl,hw4⟩;subst W4)
  all_goals
    gi_wp2
    refine bodyPost_ret (results_none rfl _ _ _) rfl ⟨⟨_,rfl⟩,?_⟩
    exact HA.out _ _ _ H0.out (ext_refl W).drew
theorem records1_seq (n:Nat) (hn:1≤n) (gs gl b1 b2 b3:Nat) :
    SeqMem n Tryz.prog 78 #[.pointer (some ⟨b1,0,none⟩),.pointer (some ⟨b2,0,none⟩),.pointer (some ⟨b3,0,none⟩)] 1 (RecC gs gl b1 b2 b3 1 1) (fun k xs W=>∃ x,xs=#[.agg (recV x)]∧RecM k x W):=
  fun l J W hC hA hY h0=>records1_in n hn l gs gl b1 b2 b3 J hC hA hY W h0
theorem records0_seq (n:Nat) (hn:1≤n) (gs gl b1 b2 b3:Nat) :
    SeqMem n Tryz.prog 78 #[.pointer (some ⟨b1,0,none⟩),.pointer (some ⟨b2,0,none⟩),.pointer (some ⟨b3,0,none⟩)] 0 (RecC gs gl b1 b2 b3 2 1) (fun k xs W=>∃ x,xs=#[.agg (recV x)]∧RecM k x W):=
  fun l J W hC hA _ h0=>records0_in n hn l gs gl b1 b2 b3 J hC hA W h0
theorem records_any (gs:Nat) (first last:Int) (w:World) :
    Calls Tryz.prog 42 #[.pointer (some ⟨gs,0,none⟩),.int .i64 first,.int .i64 last] w fun e w'=>
      e=.returned (.func (.func 78) #[] #[.pointer (some ⟨w.heap.size+1,0,none⟩),.pointer (some ⟨w.heap.size+1+1,0,none⟩),.pointer (some ⟨w.heap.size,0,none⟩)]) ∧
      ((w.alloc (.cells #[.pointer (some ⟨gs,0,none⟩)] 24)).alloc (.cells #[.int .i64 first] 3)).alloc (.cells #[.int .i64 last] 3)=w':=by
  have hmf:∀ (fn:Fn) (first cap:Array Value) (w:World),(Instr.makeFunc fn first cap).run Tryz.prog w=.ok (.func fn first cap) w:=fun _ _ _ _=>rfl
  go_enter Tryz.func42,Tryz.ntmps42
  go_wp2
  go_ret
  exact ⟨rfl,rfl⟩
theorem wpIn_mem_boxA {α:Type} {n:Nat} {P:Program} {g:Operand} {ps:Array Tmp} {assign body:Code} {Q:Exit→Act→World→Prop} {a:Act} {w:World}
    (h1:1≤n) {gf:Nat} {lb:Array Value} (hg:a.eval g=.func (.func gf) #[] lb) (eg:∀ args w,(callFunc gf args).run P w=.ok (.enter gf args) w)
    {N:Nat} {C:World→Prop} {M:Nat→α→World→Prop} (sh:α→Array Value) (hseq:SeqMem (n-1) P gf lb N C (fun k xs W=>∃ x,xs=#[.agg (sh x)]∧M k x W)) (hps:ps.size=1)
    (I:Nat→World→Prop) (hI:∀ k,OwnP w.heap.size (I k)) (hC:∀ k W,I k W→C W) (h0:I 0 w) (hM:∀ k x,OwnP w.heap.size (M k x))
    (t:TypeId) (Fr:Nat→α→Act)
    (hassign:∀ (l h:Nat) (x:α) (W:World) (K:Act→World→Prop),h=W.heap.size→K (Fr h x) (W.alloc (.cells (sh x) t)) →
      assign.wpIn (Fence.wide.inRound l) (n-1-1) P (Exit.then K (fun _ _ _=>False)) { tmps:=(ps.zip #[.agg (sh x)]).foldl (fun t (p,v)=>t.setIfInBounds p v) a.tmps,defers:=[] } W)
    (hbody:∀ (l h k:Nat) (x:α) (W:World),k<N→w.heap.size≤W.heap.size→w.heap.size≤h→Blk W h t (sh x)→M k x W→I k W →
      body.wpIn (Fence.wide.inRound l) (n-1-1) P (OncePost w.heap.size (I (k+1)) W) (Fr h x) W)
    (hdone:∀ (D:Nat) (W:World),w.heap.size≤D→I N W→W.heap[D]? = some (.deferred (some []))→Q .normal { a with defers:={ target:=.collected D,args:=#[] }::a.defers } W) :
    (Code.rangeFunc g ps assign body).wpIn Fence.wide n P Q a w:=
  wpIn_mem h1 hg eg hseq (fun k xs W h=>by obtain ⟨x,rfl,_⟩:=h;rw [hps];rfl) I hI hC h0 (fun k a' W=>∃ h x,w.heap.size≤h∧a'=Fr h x∧Blk W h t (sh x)∧M k x W)
    (fun k a' _ X Y row hs hg hr=>by
      obtain ⟨h,x,hh,ha,hB,hm⟩:=hs
      exact ⟨h,x,hh,ha,OwnP.blk (B:=w.heap.size) () X Y row hB hg hr,hM k _ () X Y row hm hg hr⟩)
    (fun l k xs W K hk hsz hI' hm hK=>by
      obtain ⟨x,rfl,hm⟩:=hm
      exact hassign l W.heap.size x W K rfl (hK _ _ ((KeepsOthers.alloc W _).from _) (OwnFrom.alloc (s:=()) (hI k) _ hI') ⟨_,x,hsz,rfl,Blk.new _ _ _,OwnFrom.alloc (s:=()) (hM k _) _ hm⟩))
    (fun l k a' W hk hsz hI' hA=>by
      obtain ⟨h,x,hh,rfl,hB,hm⟩:=hA
      exact hbody l h k x W hk hsz hh hB hm hI') hdone
end
section
open Go.RowKit Go.Shelf
attribute [local go_sem] Oper.semAt_some
attribute [local go_sem ↓] Go.wp_at_zero Go.wp_at_succ
theorem headB_kept {X Y:World} {row:Option Nat} {b:Nat} {cs:Array Value} (h:HeadB X b cs) (hg:X.grownBy Y row) (hr:∀ r,row=some r→∃ o:Obj,X.heap[r]? = some o∧o.isCells=false):HeadB Y b cs:=
  ⟨Nat.lt_of_lt_of_le h.lt hg.size,fun i hi=>by
    rw [Array.getElem?_eq_getElem hi]
    exact cell_kept ((h.cells i hi).trans (Array.getElem?_eq_getElem hi)) hg hr⟩
theorem blk_kept {X Y:World} {row:Option Nat} {b:Nat} {t:TypeId} {cs:Array Value} (h:Blk X b t cs) (hg:X.grownBy Y row) (hr:∀ r,row=some r→∃ o:Obj,X.heap[r]? = some o∧o.isCells=false):Blk Y b t cs:=
  OwnP.blk (B:=0) () X Y row h hg (fun r e=>⟨Nat.zero_le _,hr r e⟩)
theorem OneRec.kept {X Y:World} {row:Option Nat} {gl:Nat} (h:OneRec X gl) (hg:X.grownBy Y row) (hr:∀ r,row=some r→∃ o:Obj,X.heap[r]? = some o∧o.isCells=false):OneRec Y gl:=by
  obtain ⟨gr,c,g,d,v,h1,h2,h3,h4⟩:=h.at_
  exact ⟨gr,c,g,d,v,blk_kept h1 hg hr,h2,headB_kept h3 hg hr,headB_kept h4 hg hr⟩
theorem RecC.kept {X Y:World} {row:Option Nat} {gs gl b1 b2 b3:Nat} {first last:Int} (h:RecC gs gl b1 b2 b3 first last X) (hg:X.grownBy Y row) (hr:∀ r,row=some r→∃ o:Obj,X.heap[r]? = some o∧o.isCells=false):RecC gs gl b1 b2 b3 first last Y:=
  ⟨blk_kept h.one hg hr,blk_kept h.two hg hr,blk_kept h.srv hg hr,cell_kept h.log hg hr,h.recs.kept hg hr⟩
def ColI (w:World) (bs gs gl b1 b2 b3:Nat):Nat→World→Prop
  | 0,W=>Below w.heap.size w W∧RecC gs gl b1 b2 b3 1 1 W∧Blk W bs 37 #[.slice none 0 0]
  | _+1,W=>Below w.heap.size w W∧RecC gs gl b1 b2 b3 1 1 W∧∃ g c b d,Blk W bs 37 #[.slice (some ⟨g,0,none⟩) 1 c]∧1≤c∧LogAt W b g d
theorem ColI.own (w:World) (bs gs gl b1 b2 b3 k B:Nat) (hB:w.heap.size≤B):OwnP B (ColI w bs gs gl b1 b2 b3 k):=fun _ X Y row hs hg hr=>by
  have hr':∀ r,row=some r→∃ o:Obj,X.heap[r]? = some o∧o.isCells=false:=fun r e=>(hr r e).2
  cases k with
  | zero=>exact ⟨OwnP.below (B:=B) (Nat.le_refl _) hB () X Y row hs.1 hg hr,hs.2.1.kept hg hr',blk_kept hs.2.2 hg hr'⟩
  | succ k=>
    obtain ⟨h1,h2,g,c,b,d,h3,h4,h5,h6⟩:=hs
    exact ⟨OwnP.below (B:=B) (Nat.le_refl _) hB () X Y row h1 hg hr,h2.kept hg hr',g,c,b,d,blk_kept h3 hg hr',h4,headB_kept h5 hg hr',headB_kept h6 hg hr'⟩
theorem appendSeq1 (gs gl b1 b2 b3:Nat) (w:World) (hC:RecC gs gl b1 b2 b3 1 1 w) :
    Calls Tryz.prog 77 #[.slice none 0 0,.func (.func 78) #[] #[.pointer (some ⟨b1,0,none⟩),.pointer (some ⟨b2,0,none⟩),.pointer (some ⟨b3,0,none⟩)]] w
      fun e w'=>∃ g c b d,e=.returned (.slice (some ⟨g,0,none⟩) 1 c)∧1≤c∧LogAt w' b g d∧Below w.heap.size w w':=by
  refine (callsIn_wide (n:=3)).1 (callsIn_of_wp_marks Tryz.func77 rfl trivial (wpIn_wide.2 ?_) rfl)
  simp only [Tryz.ntmps77,List.size_toArray,List.length_cons,List.length_nil,Nat.reduceAdd,Nat.reduceSub,Array.replicate_succ,Array.replicate_zero,List.push_toArray,List.append_toArray,List.nil_append,List.cons_append]
  go_wp2_with fail
  have hE0:=ext_new w (.cells #[.slice none 0 0] 37)
  have hI0:ColI w w.heap.size gs gl b1 b2 b3 0 (w.alloc (.cells #[.slice none 0 0] 37)):=⟨hE0,hC.ext hE0,Blk.new _ _ _⟩
  refine (wpIn_wide (n:=3)).1 ?_
  refine' wpIn_mem_boxA (by omega) (gf:=78) (lb:=#[.pointer (some ⟨b1,0,none⟩),.pointer (some ⟨b2,0,none⟩),.pointer (some ⟨b3,0,none⟩)]) (by simp [Act.eval]) (enters_of Tryz.func78 (by kernel_rfl) rfl)
    recV (records1_seq 2 (by omega) gs gl b1 b2 b3) rfl
    (ColI w w.heap.size gs gl b1 b2 b3) (fun k=>ColI.own w w.heap.size gs gl b1 b2 b3 k _ (by simp)) (fun k W h=>by cases k <;> exact h.2.1) hI0 (fun k x _ X Y row hs hg hr=>headB_kept hs hg (fun r e=>(hr r e).2)) 43 _ ?assign ?body ?done
  case assign=>
    intro l h x W K hh hK
    unfold recV at hK ⊢
    gi_wp2
    rw [← hh]
    exact hK
  case body=>
    rintro l h k ⟨x1,x2⟩ W hk hsz hh hB hm hI
    obtain rfl:k=0:=by omega
    obtain ⟨hE,hR,hV⟩:=hI
    have HB:=Lib.hid hB
    have HM:=Lib.hid hm
    have HE:=Lib.hid hE
    have HR:=Lib.hid hR
    have HV:=Lib.hid hV
    unfold recV at hB
    have h0:=hB.cell 0
    have h1:=hB.cell 1
    have v0:=hV.cell 0
    have f0:=hV.frozen 0
    have hl:=hB.lt
    have hl2:=hV.lt
    have hnc:Builtin.nextslicecap 1 0=1:=by decide
    have hbt:Tryz.t43.bytes=32:=by kernel_rfl
    clear hB hm hE hR hV
    gi_wp2
    have hx1:x1≠w.heap.size:=by
      rintro rfl
      have h2:=(HM.out.cell 0).symm.trans v0
      cases h2
    have hEW:Below w.heap.size w ((((W.setCell ⟨w.heap.size,0,none⟩ (.slice (some ⟨W.heap.size+1,0,none⟩) 1 ((Question.appendCap 1 0 43).cut (W.tape W.drawn (Question.appendCap 1 0 43))))).alloc (.cells #[.int .i64 1,.slice (some ⟨x1,0,none⟩) 1 x2] 43)).alloc
        (.cells (#[.int .i64 1,.slice (some ⟨x1,0,none⟩) 1 x2]++Builtin.zeroCells #[.int .i64 0,.slice none 0 0] ((Question.appendCap 1 0 43).cut (W.tape W.drawn (Question.appendCap 1 0 43))-1)) 43)).drew):=
      (ext_alloc (ext_alloc (ext_set HE.out (Nat.le_refl _) _) _) _).drew
    have hk:=((((KeepsOthers.setCell W ⟨w.heap.size,0,none⟩ (.slice (some ⟨W.heap.size+1,0,none⟩) 1 ((Question.appendCap 1 0 43).cut (W.tape W.drawn (Question.appendCap 1 0 43))))).trans (KeepsOthers.alloc _ (.cells #[.int .i64 1,.slice (some ⟨x1,0,none⟩) 1 x2] 43))).trans (KeepsOthers.alloc _ (.cells (#[.int .i64 1,.slice (some ⟨x1,0,none⟩) 1 x2]++Builtin.zeroCells #[.int .i64 0,.slice none 0 0] (((Question.appendCap 1 0 43).cut (W.tape W.drawn (Question.appendCap 1 0 43)))-1)) 43))).trans (KeepsOthers.drew _)).from (w.heap.size+1)
    have hv1:=(((HV.out.set_ 0 (.slice (some ⟨W.heap.size+1,0,none⟩) 1 ((Question.appendCap 1 0 43).cut (W.tape W.drawn (Question.appendCap 1 0 43))))).alloc (.cells #[.int .i64 1,.slice (some ⟨x1,0,none⟩) 1 x2] 43)).alloc (.cells (#[.int .i64 1,.slice (some ⟨x1,0,none⟩) 1 x2]++Builtin.zeroCells #[.int .i64 0,.slice none 0 0] (((Question.appendCap 1 0 43).cut (W.tape W.drawn (Question.appendCap 1 0 43)))-1)) 43)).drew
    have hb:=Blk.drew (Blk.new' ((W.setCell ⟨w.heap.size,0,none⟩ (.slice (some ⟨W.heap.size+1,0,none⟩) 1 ((Question.appendCap 1 0 43).cut (W.tape W.drawn (Question.appendCap 1 0 43))))).alloc (.cells #[.int .i64 1,.slice (some ⟨x1,0,none⟩) 1 x2] 43)) 43 (#[.int .i64 1,.slice (some ⟨x1,0,none⟩) 1 x2]++Builtin.zeroCells #[.int .i64 0,.slice none 0 0] (((Question.appendCap 1 0 43).cut (W.tape W.drawn (Question.appendCap 1 0 43)))-1)) (b:=W.heap.size+1) (by simp))
    have hm1:=(((HM.out.far (p:=⟨w.heap.size,0,none⟩) hx1 (.slice (some ⟨W.heap.size+1,0,none⟩) 1 ((Question.appendCap 1 0 43).cut (W.tape W.drawn (Question.appendCap 1 0 43))))).alloc (.cells #[.int .i64 1,.slice (some ⟨x1,0,none⟩) 1 x2] 43)).alloc (.cells (#[.int .i64 1,.slice (some ⟨x1,0,none⟩) 1 x2]++Builtin.zeroCells #[.int .i64 0,.slice none 0 0] (((Question.appendCap 1 0 43).cut (W.tape W.drawn (Question.appendCap 1 0 43)))-1)) 43)).ext (ext_refl _).drew
    exact ⟨hk,hEW,hC.ext hEW,W.heap.size+1,_,x1,x2,hv1,grownCap_ge W 1 0 _,.of2 hb,hm1⟩
  case done=>
    rintro D W hD ⟨hE,hR,g,c,b,d,h3,h4,h5⟩ hK
    have v0:=h3.cell 0
    have HE:=Lib.hid hE
    have HL:=Lib.hid h5
    clear hE hR h3 h5
    go_wp2
    refine ⟨by simp,.inl ⟨_,_,rfl,run_takeDeferred hK,?_⟩⟩
    have hg:=grownBy_putObj' W D (.deferred none)
    have hr:∀ r,some D=some r→∃ o:Obj,W.heap[r]? = some o∧o.isCells=false:=fun r e=>by injection e with e;subst e;exact ⟨_,hK,rfl⟩
    refine ⟨_,results_tmp rfl _ _ _,g,c,b,d,rfl,h4,?_,?_⟩
    · exact ⟨headB_kept HL.out.1 (grownBy_putObj' W D _) hr,headB_kept HL.out.2 (grownBy_putObj' W D _) hr⟩
    · exact ext_put HE.out (by simp at hD;omega) _
theorem collect1 (gs gl b1 b2 b3:Nat) (w:World) (hC:RecC gs gl b1 b2 b3 1 1 w) :
    Calls Tryz.prog 41 #[.func (.func 78) #[] #[.pointer (some ⟨b1,0,none⟩),.pointer (some ⟨b2,0,none⟩),.pointer (some ⟨b3,0,none⟩)]] w
      fun e w'=>∃ g c b d,e=.returned (.slice (some ⟨g,0,none⟩) 1 c)∧1≤c∧LogAt w' b g d∧Below w.heap.size w w':=by
  have HA:=Lib.hid (appendSeq1 gs gl b1 b2 b3 w hC)
  go_enter Tryz.func41,Tryz.ntmps41
  go_wp2_with fail
  refine HA.out.mono ?_
  rintro e W1 ⟨g,c,b,d,rfl,h1,h2,h3⟩
  have H2:=Lib.hid h2
  have H3:=Lib.hid h3
  clear h2 h3
  go_wp2
  go_ret
  exact ⟨g,c,b,d,rfl,h1,H2.out,H3.out⟩
theorem records11 (gs gl:Nat) (w:World) (h0:w.cell? ⟨gs,0,none⟩=some (.pointer (some ⟨gl,0,none⟩))) (hl:OneRec w gl) :
    Calls Tryz.prog 12 #[.pointer (some ⟨gs,0,none⟩),.int .i64 1,.int .i64 1] w
      fun e w'=>∃ g c b d,e=.returned (.slice (some ⟨g,0,none⟩) 1 c)∧1≤c∧LogAt w' b g d∧Below w.heap.size w w':=by
  obtain ⟨X,hX⟩:∃ X,X=((w.alloc (.cells #[.pointer (some ⟨gs,0,none⟩)] 24)).alloc (.cells #[.int .i64 1] 3)).alloc (.cells #[.int .i64 1] 3):=⟨_,rfl⟩
  have HE:=Lib.hid (show Below w.heap.size w X by rw [hX];exact ext_alloc (ext_alloc (ext_new _ _) _) _)
  have HC:=Lib.hid (show RecC gs gl (w.heap.size+1) (w.heap.size+1+1) w.heap.size 1 1 X from
    ⟨by rw [hX];exact (Blk.new' _ _ _ (by simp)).alloc _,by rw [hX];exact Blk.new' _ _ _ (by simp),by rw [hX];exact ((Blk.new _ _ _).alloc _).alloc _,cell_ext h0 HE.out,hl.ext HE.out⟩)
  have HX:=Lib.hid hX
  clear hX h0 hl
  go_enter Tryz.func12,Tryz.ntmps12
  go_wp2_with fail
  refine (records_any gs 1 1 w).mono ?_
  rintro e w' ⟨rfl,hw'⟩
  rw [← HX.out] at hw'
  subst w'
  go_wp2_with fail
  refine (collect1 gs gl _ _ _ X HC.out).mono ?_
  rintro e W1 ⟨g,c,b,d,rfl,h1,h2,h3⟩
  have H2:=Lib.hid h2
  have H3:=Lib.hid (ext_call HE.out h3)
  clear h2 h3
  go_wp2
  go_ret
  exact ⟨g,c,b,d,rfl,h1,H2.out,H3.out⟩
theorem storeAt0L (g c:Nat) (hc:1≤c) (w:World):Calls Tryz.prog 38 #[.slice (some ⟨g,0,none⟩) 1 c,.int .i64 0] w fun e w'=>e=.returned (.tuple #[.pointer (some ⟨w.heap.size+1,0,none⟩),.int .i64 0])∧StateAt w' (w.heap.size+1) w.heap.size #[] 0 0∧Below w.heap.size w w':=by
  go_enter Tryz.func38,Tryz.ntmps38
  go_wp2_with fail
  refine (storeNew _).mono ?_
  rintro e W1 ⟨rfl,rfl⟩
  go_wp2
  refine wp_loop_rounds 1 ?_
  rw [rounds_succ]
  go_wp2
  go_ret2
  exact ⟨rfl,⟨Blk.new' _ _ _ (by simp),(MapAt.new w).alloc _⟩,ext_alloc (ext_new _ _) _⟩
theorem srvState (one:Bool) (gs gl:Nat) (w:World) (h0:w.cell? ⟨gs,0,none⟩=some (.pointer (some ⟨gl,0,none⟩))) (hl:OneRec w gl) :
    Calls Tryz.prog 9 #[.pointer (some ⟨gs,0,none⟩),.int .i64 (if one then 1 else 0)] w
      fun e w'=>∃ g m,e=.returned (.tuple #[.pointer (some ⟨g,0,none⟩),.bool true])∧StateIs w' one g m (if one then 1 else 0)∧Below w.heap.size w w':=by
  have HP:=Lib.hid (srvPosC gs gl w h0 hl)
  have HR:=Lib.hid (records11 gs gl w h0 hl)
  clear h0 hl
  have HA:=Lib.hid (show ∀ (W:World) (g c b d:Nat),1≤c→LogAt W b g d→Calls Tryz.prog 38 #[.slice (some ⟨g,0,none⟩) 1 c,.int .i64 (if one then 1 else 0)] W fun e w'=>
      ∃ g m,e=.returned (.tuple #[.pointer (some ⟨g,0,none⟩),.int .i64 0])∧StateIs w' one g m (if one then 1 else 0)∧Below W.heap.size W w' by
    intro W g c b d hc hL
    cases one
    · exact (storeAt0L g c hc W).mono fun _ _ ⟨h1,h2,h3⟩=>⟨_,_,h1,h2,h3⟩
    · exact (storeAt1 W b g d c hc hL).mono fun _ _ ⟨h1,h2,h3⟩=>⟨_,_,h1,h2,h3⟩)
  generalize (if one then (1:Int) else 0)=q at HA ⊢
  go_enter Tryz.func9,Tryz.ntmps9
  go_wp2_with fail
  refine HP.out.mono ?_
  rintro e w' ⟨rfl,hw'⟩
  subst w'
  go_wp2_with fail
  refine HR.out.mono ?_
  rintro e W1 ⟨g,c,b,d,rfl,hc,hL,hb1⟩
  have HL:=Lib.hid hL
  have HE1:=Lib.hid hb1
  clear hL hb1
  go_wp2_with fail
  refine (HA.out W1 g c b d hc HL.out).mono ?_
  rintro e W2 ⟨gg,m,rfl,hS,hb2⟩
  have HS:=Lib.hid hS
  have HE2:=Lib.hid (ext_call HE1.out hb2)
  clear hS hb2
  go_wp2
  go_ret2
  exact ⟨gg,m,rfl,HS.out,HE2.out⟩
end
section
open Go.RowKit Go.Shelf
def BdOK (P:Program) (t:TypeId) (ps:Array (Nat × Value)):Prop:=∃ v,∀ w,(Instr.build t ps).run P w=.ok v w
open Classical in
noncomputable def bdV (P:Program) (t:TypeId) (ps:Array (Nat × Value)):Value:=if h:BdOK P t ps then h.choose else undef
theorem bd_run {P:Program} {w:World} {t:TypeId} {ps:Array (Nat × Value)} (h:BdOK P t ps):(Instr.build t ps).run P w=.ok (bdV P t ps) w:=by
  unfold bdV
  rw [dif_pos h]
  exact h.choose_spec w
theorem bd_of (W:World) {P:Program} {t:TypeId} {ps:Array (Nat × Value)} {cs:Array Value} (h:P.built t ps.toList=some cs):BdOK P t ps∧bdV P t ps=.agg cs:=by
  have hr:∀ w,(Instr.build t ps).run P w=.ok (.agg cs) w:=fun w=>run_build w t ps cs h
  have hb:BdOK P t ps:=⟨_,hr⟩
  refine ⟨hb,?_⟩
  have h1:=bd_run (w:=W) hb
  rw [hr] at h1
  injection h1 with h1
  exact h1.symm
theorem bd_exec {P:Program} {w:World} {ρ:Operand→Value} {d:Option Tmp} {ps:Array (Nat × Operand)} {ty t:TypeId} {p:String} {af:Array Edge} {g:Option (Nat × Bool)} (h:BdOK P ty (ps.map fun x=>(x.1,ρ x.2))) :
    (execOp ρ { dst:=d,op:=.build ty ps,type:=t,pos:=p,after:=af,guard:=g }).run P w=.ok (.value (bdV P ty (ps.map fun x=>(x.1,ρ x.2)))) w:=by
  have h':=bd_run (w:=w) h
  unfold execOp
  simp only [Sem.run_bind,Sem.run_pure,Result.andThen_ok,h']
theorem bd_sem {P:Program} {w:World} {ro:Option Nat} {ρ:Operand→Value} {d:Option Tmp} {ps:Array (Nat × Operand)} {ty t:TypeId} {p:String} {af:Array Edge} {g:Option (Nat × Bool)} (h:BdOK P ty (ps.map fun x=>(x.1,ρ x.2))) :
    (Oper.semAt ro ρ { dst:=d,op:=.build ty ps,type:=t,pos:=p,after:=af,guard:=g }).run P w=.ok (.value (bdV P ty (ps.map fun x=>(x.1,ρ x.2)))) w:=by
  rw [Oper.semAt_eq ro ρ _ (by intro c h;cases h)]
  exact bd_exec h
end
section
open Go.RowKit Go.Shelf
def BsOK (P:Program) (t:TypeId) (len:Nat) (ps:Array (Nat × Value)) (cs:Array Value) (e:TypeId):Prop:=∀ w:World,(Instr.buildSlice t len ps).run P w=.ok (.slice (some ⟨w.heap.size,0,none⟩) len len) (w.alloc (.cells cs e))
def BsAny (P:Program) (t:TypeId) (len:Nat) (ps:Array (Nat × Value)):Prop:=∃ cs e,BsOK P t len ps cs e
open Classical in
noncomputable def bsO (P:Program) (t:TypeId) (len:Nat) (ps:Array (Nat × Value)):Obj:=if h:BsAny P t len ps then .cells h.choose h.choose_spec.choose else .deferred none
theorem bs_run {P:Program} {w:World} {t:TypeId} {len:Nat} {ps:Array (Nat × Value)} (h:BsAny P t len ps):(Instr.buildSlice t len ps).run P w=.ok (.slice (some ⟨w.heap.size,0,none⟩) len len) (w.alloc (bsO P t len ps)):=by
  unfold bsO
  rw [dif_pos h]
  exact h.choose_spec.choose_spec w
theorem bs_of (W:World) {P:Program} {t e:TypeId} {len:Nat} {ps:Array (Nat × Value)} {cs:Array Value} (h:BsOK P t len ps cs e):BsAny P t len ps∧bsO P t len ps=.cells cs e:=by
  have hb:BsAny P t len ps:=⟨cs,e,h⟩
  refine ⟨hb,?_⟩
  have h1:=bs_run (w:=W) hb
  rw [h W] at h1
  injection h1 with _ h1
  have h2:=congrArg World.heap h1
  have h3:(W.heap.push (.cells cs e))[W.heap.size]? = (W.heap.push (bsO P t len ps))[W.heap.size]? := congrArg (fun a:Array Obj=>a[W.heap.size]?) h2
  simpa using h3.symm
theorem bs_exec {P:Program} {w:World} {ρ:Operand→Value} {d:Option Tmp} {ps:Array (Nat × Operand)} {len:Nat} {ty t:TypeId} {p:String} {af:Array Edge} {g:Option (Nat × Bool)} (h:BsAny P ty len (ps.map fun x=>(x.1,ρ x.2))) :
    (execOp ρ { dst:=d,op:=.buildSlice ty len ps,type:=t,pos:=p,after:=af,guard:=g }).run P w=.ok (.value (.slice (some ⟨w.heap.size,0,none⟩) len len)) (w.alloc (bsO P ty len (ps.map fun x=>(x.1,ρ x.2)))):=by
  have h':=bs_run (w:=w) h
  unfold execOp
  simp only [Sem.run_bind,Sem.run_pure,Result.andThen_ok,h']
theorem bs_sem {P:Program} {w:World} {ro:Option Nat} {ρ:Operand→Value} {d:Option Tmp} {ps:Array (Nat × Operand)} {len:Nat} {ty t:TypeId} {p:String} {af:Array Edge} {g:Option (Nat × Bool)} (h:BsAny P ty len (ps.map fun x=>(x.1,ρ x.2))) :
    (Oper.semAt ro ρ { dst:=d,op:=.buildSlice ty len ps,type:=t,pos:=p,after:=af,guard:=g }).run P w=.ok (.value (.slice (some ⟨w.heap.size,0,none⟩) len len)) (w.alloc (bsO P ty len (ps.map fun x=>(x.1,ρ x.2)))):=by
  rw [Oper.semAt_eq ro ρ _ (by intro c h;cases h)]
  exact bs_exec h
theorem msg_info:(Tryz.prog.info? 84).map (fun i=>(i.zero,i.size,i.bytes))=some (some (.agg #[.int .i64 0,.int .i64 0,.int .i64 0,.int .i64 0,.int .i64 0,.int .i64 0,.int .i64 0,.int .i64 0,.int .i64 0,.int .i64 0,.int .i64 0,.int .i64 0,.int .i64 0,.int .i64 0,.int .i64 0,.int .i64 0,.int .i64 0,.int .i64 0,.slice none 0 0,.int .i64 0,.int .i64 0,.int .i64 0,.int .i64 0,.int .i64 0,.int .i64 0,.int .i64 0,.int .i64 0,.int .i64 0,.slice none 0 0,.int .i64 0,.int .i64 0,.int .i64 0,.int .i64 0,.int .i64 0,.int .i64 0,.int .i64 0,.slice none 0 0,.int .i64 0,.bool false,.int .i64 0,.int .i64 0,.int .i64 0,.slice none 0 0,.slice none 0 0,.int .i64 0,.slice none 0 0,.slice none 0 0]),47,488):=by kernel_rfl
theorem msg_slice (oa:Array Value) (hs:oa.size=47):BsOK Tryz.prog 71 1 #[(0,.agg oa)] oa 84:=by
  obtain ⟨im,him,hz0,hz1,hz2⟩:=info_parts msg_info
  obtain ⟨z0,hz⟩:∃ z0,im.zero=some z0:=⟨_,hz0⟩
  intro w
  refine run_buildSlice w 71 84 1 #[(0,.agg oa)] oa im z0 Tryz.underlying71 him hz (by rw [hz1];decide) (by rw [hz1];decide) ?_
  rw [hz1]
  have h:=Great.fill_whole (s:=47) (by decide) [.agg oa] ((Array.range (1*47)).map (z0.cells[· % z0.cells.size]!)) (by simp [Value.cells,hs]) (by simp)
  simp [Value.cells] at h ⊢
  exact h
def msgR (tn:Int) (x:Nat × Nat):Array Value:=#[.int .i64 1,.int .i64 100,.int .i64 tn,.int .i64 0,.int .i64 0,.int .i64 0,.int .i64 0,.int .i64 0,.int .i64 0,.int .i64 0,.int .i64 0,.int .i64 0,.int .i64 0,.int .i64 0,.int .i64 0,.int .i64 0,.int .i64 0,.int .i64 1,.slice (some ⟨x.1,0,none⟩) 1 x.2,.int .i64 0,.int .i64 0,.int .i64 0,.int .i64 0,.int .i64 0,.int .i64 0,.int .i64 0,.int .i64 0,.int .i64 0,.slice none 0 0,.int .i64 0,.int .i64 0,.int .i64 0,.int .i64 0,.int .i64 0,.int .i64 0,.int .i64 0,.slice none 0 0,.int .i64 0,.bool false,.int .i64 0,.int .i64 0,.int .i64 0,.slice none 0 0,.slice none 0 0,.int .i64 0,.slice none 0 0,.slice none 0 0]
theorem own_keptP {X Y:World} {row:Option Nat} {base n sz:Nat} {e:TypeId} {v:Value} {xs:List Value} (h:X.ownsRow base e sz v n xs) (hg:X.grownBy Y row) (hr:∀ r,row=some r→∃ o:Obj,X.heap[r]? = some o∧o.isCells=false):Y.ownsRow base e sz v n xs:=
  h.kept hg (by
    rcases h.2 with ⟨rfl,_⟩|⟨g,cap,cur,rfl,_,hgg,_⟩
    · exact .inl rfl
    · refine .inr fun e=>?_
      obtain ⟨o,ho,hc⟩:=hr _ e.symm
      rw [hgg] at ho
      cases ho
      cases hc)
theorem own_setbox {W:World} {base n sz b:Nat} {e t:TypeId} {v:Value} {xs:List Value} {cs:Array Value} (h:W.ownsRow base e sz v n xs) (hb:Blk W b t cs) (ht:t≠e) (u:Value):(W.setCell ⟨b,0,none⟩ u).ownsRow base e sz v n xs:=
  h.kept (row:=some b) ⟨rfl,rfl,rfl,by simp [World.setCell],fun k _ hk=>Below.heap_setCell _ _ _ _ (fun e=>hk (by simp [e]))⟩ (by
    rcases h.2 with ⟨rfl,_⟩|⟨g,cap,cur,rfl,_,hgg,_⟩
    · exact .inl rfl
    · refine .inr fun e1=>?_
      have e2:g=b:=by simpa [Value.ownBlock] using e1
      subst e2
      unfold Blk at hb
      rw [hgg] at hb
      injection hb with hb
      injection hb with _ hb _
      exact ht hb.symm)
def CopI (w:World) (bt bo gs gl b1 b2 b3:Nat) (first tn:Int):Nat→World→Prop
  | 0,W=>Below w.heap.size w W∧RecC gs gl b1 b2 b3 first 1 W∧Blk W bo 71 #[.slice none 0 0]∧Blk W bt 3 #[.int .i64 tn]
  | _+1,W=>Below w.heap.size w W∧RecC gs gl b1 b2 b3 first 1 W∧∃ v x,Blk W bo 71 #[v]∧W.ownsRow w.heap.size 84 47 v 1 (msgR tn x).toList
theorem CopI.own (w:World) (bt bo gs gl b1 b2 b3:Nat) (first tn:Int) (k B:Nat) (hB:w.heap.size≤B):OwnP B (CopI w bt bo gs gl b1 b2 b3 first tn k):=fun _ X Y row hs hg hr=>by
  have hr':∀ r,row=some r→∃ o:Obj,X.heap[r]? = some o∧o.isCells=false:=fun r e=>(hr r e).2
  cases k with
  | zero=>exact ⟨OwnP.below (B:=B) (Nat.le_refl _) hB () X Y row hs.1 hg hr,hs.2.1.kept hg hr',blk_kept hs.2.2.1 hg hr',blk_kept hs.2.2.2 hg hr'⟩
  | succ k=>
    obtain ⟨h1,h2,v,x,h3,h4⟩:=hs
    exact ⟨OwnP.below (B:=B) (Nat.le_refl _) hB () X Y row h1 hg hr,h2.kept hg hr',v,x,blk_kept h3 hg hr',own_keptP h4 hg hr'⟩
attribute [local go_sem] run_semAt
attribute [local go_sem ↓] bd_exec bd_sem bs_exec bs_sem app_exec app_sem Go.wp_at_zero Go.wp_at_succ
theorem copies1 (gs gl:Nat) (tn:Int) (w:World) (h0:w.cell? ⟨gs,0,none⟩=some (.pointer (some ⟨gl,0,none⟩))) (hl:OneRec w gl) :
    Calls Tryz.prog 69 #[.pointer (some ⟨gs,0,none⟩),.int .i64 tn,.int .i64 1,.int .i64 1] w
      fun e w'=>∃ v x,e=.returned v∧w'.ownsRow w.heap.size 84 47 v 1 (msgR tn x).toList∧Below w.heap.size w w':=by
  obtain ⟨im,him,hzm0,hzm1,hzm2⟩:=info_parts msg_info
  obtain ⟨z0,hz0⟩:∃ z0,im.zero=some z0:=⟨_,hzm0⟩
  obtain ⟨X,hX⟩:∃ X,X=((((w.alloc (.cells #[.int .i64 tn] 3)).alloc (.cells #[.slice none 0 0] 71)).alloc (.cells #[.pointer (some ⟨gs,0,none⟩)] 24)).alloc (.cells #[.int .i64 1] 3)).alloc (.cells #[.int .i64 1] 3):=⟨_,rfl⟩
  have HE:=Lib.hid (show Below w.heap.size w X by rw [hX];exact ext_alloc (ext_alloc (ext_alloc (ext_alloc (ext_new _ _) _) _) _) _)
  have HT:=Lib.hid (show Blk X w.heap.size 3 #[.int .i64 tn] by rw [hX];exact ((((Blk.new _ _ _).alloc _).alloc _).alloc _).alloc _)
  have HO:=Lib.hid (show Blk X (w.heap.size+1) 71 #[.slice none 0 0] by rw [hX];exact (((Blk.new' _ _ _ (by simp)).alloc _).alloc _).alloc _)
  have HC:=Lib.hid (show RecC gs gl (w.heap.size+1+1+1) (w.heap.size+1+1+1+1) (w.heap.size+1+1) 1 1 X from
    ⟨by rw [hX];exact (Blk.new' _ _ _ (by simp)).alloc _,by rw [hX];exact Blk.new' _ _ _ (by simp),by rw [hX];exact ((Blk.new' _ _ _ (by simp)).alloc _).alloc _,cell_ext h0 HE.out,hl.ext HE.out⟩)
  have hxs:w.heap.size≤X.heap.size:=HE.out.size
  have HX:=Lib.hid hX
  have H0:=Lib.hid h0
  have HL:=Lib.hid hl
  clear hX h0 hl
  refine (callsIn_wide (n:=3)).1 (callsIn_of_wp_marks Tryz.func69 rfl trivial (wpIn_wide.2 ?_) rfl)
  simp only [Tryz.ntmps69,List.size_toArray,List.length_cons,List.length_nil,Nat.reduceAdd,Nat.reduceSub,Array.replicate_succ,Array.replicate_zero,List.push_toArray,List.append_toArray,List.nil_append,List.cons_append]
  go_wp2_with fail
  refine (records_any gs 1 1 _).mono ?_
  rintro e w' ⟨he,hw'⟩
  simp only [World.size_alloc] at he hw'
  subst he
  rw [← HX.out] at hw'
  subst w'
  go_wp2_with fail
  refine (wpIn_wide (n:=3)).1 ?_
  refine' wpIn_mem_boxA (by omega) (gf:=78) (lb:=#[.pointer (some ⟨w.heap.size+1+1+1,0,none⟩),.pointer (some ⟨w.heap.size+1+1+1+1,0,none⟩),.pointer (some ⟨w.heap.size+1+1,0,none⟩)]) (by simp [Act.eval]) (enters_of Tryz.func78 (by kernel_rfl) rfl)
    recV (records1_seq 2 (by omega) gs gl _ _ _) rfl
    (CopI w w.heap.size (w.heap.size+1) gs gl _ _ _ 1 tn) (fun k=>CopI.own w w.heap.size (w.heap.size+1) gs gl _ _ _ 1 tn k _ hxs) (fun k W h=>by cases k <;> exact h.2.1) ⟨HE.out,HC.out,HO.out,HT.out⟩ (fun k x _ X Y row hs hg hr=>headB_kept hs hg (fun r e=>(hr r e).2)) 43 _ ?assign ?body ?done
  case assign=>
    intro l h x W K hh hK
    unfold recV at hK ⊢
    gi_wp2
    rw [← hh]
    exact hK
  case body=>
    rintro l h k x W hk hsz hh hB hm hI
    obtain rfl:k=0:=by omega
    obtain ⟨hE,hR,hV,hT⟩:=hI
    have HB:=Lib.hid hB
    have HEW:=Lib.hid hE
    have HRW:=Lib.hid hR
    have HV:=Lib.hid hV
    have HM:=Lib.hid (show msgR tn x=msgR tn x from rfl)
    unfold recV at hB
    have h0:=hB.cell 0
    have h1:=hB.cell 1
    have v0:=hV.cell 0
    have f0:=hV.frozen 0
    have t0:=hT.cell 0
    obtain ⟨oa,hoa⟩:∃ oa,oa=msgR tn x:=⟨_,rfl⟩
    have hos:oa.size=47:=by rw [hoa];rfl
    obtain ⟨d1,e1⟩:=bd_of W (P:=Tryz.prog) (t:=84) (ps:=#[(0,.int .i64 1),(1,.int .i64 100),(2,.int .i64 tn),(11,.agg #[.int .i64 1,.slice (some ⟨x.1,0,none⟩) 1 x.2])]) (cs:=oa) (by rw [hoa];kernel_rfl)
    obtain ⟨d2,e2⟩:=bs_of W (msg_slice oa hos)
    obtain ⟨d3,hrow,hgr⟩:=app_own (P:=Tryz.prog) (w:=W.alloc (.cells oa 84)) w.heap.size 71 71 84 im z0 47 488 Tryz.underlying71 him hz0 hzm1 hzm2 (by have h:=hzm0.symm.trans hz0;injection h with h;rw [← h];rfl) (by decide)
      (.slice none 0 0) 0 [] (World.ownsRow_nil _ _ _ _) ⟨W.heap.size,0,none⟩ 1 1 oa.toList (by simp [hos]) (fun j u hj=>by
        rw [Addr.add_mid,Nat.zero_add]
        exact ((Blk.new W 84 oa).cell j).trans (by simpa using hj)) (by rw [hoa];simp [msgR,Value.oneCell']) (by unfold maxLen;omega) (by omega) (by simp;exact Nat.le_trans (Nat.le_trans HE.out.size hsz) (Nat.le_succ _))
    have HOA:=Lib.hid hoa
    have hl:=hB.lt
    have hl2:=hV.lt
    obtain ⟨g,cap,hv⟩:=ownsRow_succ hrow
    rw [hv] at hrow
    generalize hW3:appW Tryz.prog (W.alloc (.cells oa 84)) 71 71 (.slice none 0 0) (.slice (some ⟨W.heap.size,0,none⟩) 1 1)=W3 at hrow hgr
    have hE3:Below W.heap.size W W3:=(ext_new W (.cells oa 84)).grown hgr (ext_new W (.cells oa 84)).size (fun k e=>by cases e)
    have HV3:=Lib.hid (HV.out.ext hE3)
    have HE3:=Lib.hid hE3
    have HROW:=Lib.hid hrow
    have HGR:=Lib.hid hgr
    have v3:=HV3.out.cell 0
    have f3:=HV3.out.frozen 0
    clear hB hm hE hR hV hT hoa hrow hgr hE3 HM
    gi_wp2
    have hE':Below w.heap.size w (W3.setCell ⟨w.heap.size+1,0,none⟩ (.slice (some ⟨g,0,none⟩) 1 cap)):=ext_set (ext_call HEW.out HE3.out) (Nat.le_succ _) _
    have hR3:=HRW.out.ext HE3.out
    refine ⟨(((KeepsOthers.alloc W (.cells oa 84)).trans (KeepsOthers.of_grownBy HGR.out (fun j o e=>by cases e))).trans (KeepsOthers.setCell W3 ⟨w.heap.size+1,0,none⟩ (.slice (some ⟨g,0,none⟩) 1 cap))).from _,hE',
      ⟨hR3.one.far (by show (w.heap.size+1+1+1:Nat)≠w.heap.size+1;omega) _,hR3.two.far (by show (w.heap.size+1+1+1+1:Nat)≠w.heap.size+1;omega) _,hR3.srv.far (by show (w.heap.size+1+1:Nat)≠w.heap.size+1;omega) _,cell_ext H0.out hE',HL.out.ext hE'⟩,.slice (some ⟨g,0,none⟩) 1 cap,x,HV3.out.set_ 0 _,?_⟩
    have h9:=own_setbox HROW.out HV3.out (by decide) (.slice (some ⟨g,0,none⟩) 1 cap)
    rw [HOA.out] at h9
    exact h9
  case done=>
    rintro D W hD ⟨hE,hR,v,x,hv,hown⟩ hK
    obtain ⟨g,cap,rfl⟩:=ownsRow_succ hown
    have v0:=hv.cell 0
    have f0:=hv.frozen 0
    have HE2:=Lib.hid hE
    have HV:=Lib.hid hv
    have HOWN:=Lib.hid hown
    clear hE hR hv hown
    go_wp2
    have hDne:D≠w.heap.size+1:=by
      rintro rfl
      have h1:=HV.out
      unfold Blk at h1
      rw [hK] at h1
      cases h1
    have hK':(W.setCell ⟨w.heap.size+1,0,none⟩ (.slice (some ⟨g,0,none⟩) 1 cap)).heap[D]? = some (.deferred (some [])):=(Below.heap_setCell W ⟨w.heap.size+1,0,none⟩ _ D hDne).trans hK
    refine ⟨by simp,.inl ⟨_,_,rfl,run_takeDeferred hK',?_⟩⟩
    have hr9:∀ r,some D=some r→∃ o:Obj,(W.setCell ⟨w.heap.size+1,0,none⟩ (.slice (some ⟨g,0,none⟩) 1 cap)).heap[r]? = some o∧o.isCells=false:=fun r e=>by injection e with e;subst e;exact ⟨_,hK',rfl⟩
    have own9:=own_keptP (own_setbox HOWN.out HV.out (by decide) (.slice (some ⟨g,0,none⟩) 1 cap)) (grownBy_putObj' _ D (.deferred none)) hr9
    have y0:=((HV.out.set_ 0 (.slice (some ⟨g,0,none⟩) 1 cap)).putObj (.deferred none) hDne.symm).cell 0
    refine ⟨.slice (some ⟨g,0,none⟩) 1 cap,by simp [results,Tryz.results69,go_sem,y0],_,x,rfl,own9,?_⟩
    exact ext_put (ext_set HE2.out (Nat.le_succ _) _) (Nat.le_trans hxs hD) _
theorem copies0 (gs gl:Nat) (tn:Int) (w:World) (h0:w.cell? ⟨gs,0,none⟩=some (.pointer (some ⟨gl,0,none⟩))) (hl:OneRec w gl) :
    Calls Tryz.prog 69 #[.pointer (some ⟨gs,0,none⟩),.int .i64 tn,.int .i64 2,.int .i64 1] w
      fun e w'=>e=.returned (.slice none 0 0)∧Below w.heap.size w w':=by
  obtain ⟨X,hX⟩:∃ X,X=((((w.alloc (.cells #[.int .i64 tn] 3)).alloc (.cells #[.slice none 0 0] 71)).alloc (.cells #[.pointer (some ⟨gs,0,none⟩)] 24)).alloc (.cells #[.int .i64 2] 3)).alloc (.cells #[.int .i64 1] 3):=⟨_,rfl⟩
  have HE:=Lib.hid (show Below w.heap.size w X by rw [hX];exact ext_alloc (ext_alloc (ext_alloc (ext_alloc (ext_new _ _) _) _) _) _)
  have HT:=Lib.hid (show Blk X w.heap.size 3 #[.int .i64 tn] by rw [hX];exact ((((Blk.new _ _ _).alloc _).alloc _).alloc _).alloc _)
  have HO:=Lib.hid (show Blk X (w.heap.size+1) 71 #[.slice none 0 0] by rw [hX];exact (((Blk.new' _ _ _ (by simp)).alloc _).alloc _).alloc _)
  have HC:=Lib.hid (show RecC gs gl (w.heap.size+1+1+1) (w.heap.size+1+1+1+1) (w.heap.size+1+1) 2 1 X from
    ⟨by rw [hX];exact (Blk.new' _ _ _ (by simp)).alloc _,by rw [hX];exact Blk.new' _ _ _ (by simp),by rw [hX];exact ((Blk.new' _ _ _ (by simp)).alloc _).alloc _,cell_ext h0 HE.out,hl.ext HE.out⟩)
  have hxs:w.heap.size≤X.heap.size:=HE.out.size
  have HX:=Lib.hid hX
  clear hX h0 hl
  refine (callsIn_wide (n:=3)).1 (callsIn_of_wp_marks Tryz.func69 rfl trivial (wpIn_wide.2 ?_) rfl)
  simp only [Tryz.ntmps69,List.size_toArray,List.length_cons,List.length_nil,Nat.reduceAdd,Nat.reduceSub,Array.replicate_succ,Array.replicate_zero,List.push_toArray,List.append_toArray,List.nil_append,List.cons_append]
  go_wp2_with fail
  refine (records_any gs 2 1 _).mono ?_
  rintro e w' ⟨he,hw'⟩
  simp only [World.size_alloc] at he hw'
  subst he
  rw [← HX.out] at hw'
  subst w'
  go_wp2_with fail
  refine (wpIn_wide (n:=3)).1 ?_
  refine' wpIn_mem_boxA (by omega) (gf:=78) (lb:=#[.pointer (some ⟨w.heap.size+1+1+1,0,none⟩),.pointer (some ⟨w.heap.size+1+1+1+1,0,none⟩),.pointer (some ⟨w.heap.size+1+1,0,none⟩)]) (by simp [Act.eval]) (enters_of Tryz.func78 (by kernel_rfl) rfl)
    recV (records0_seq 2 (by omega) gs gl _ _ _) rfl
    (CopI w w.heap.size (w.heap.size+1) gs gl _ _ _ 2 tn) (fun k=>CopI.own w w.heap.size (w.heap.size+1) gs gl _ _ _ 2 tn k _ hxs) (fun k W h=>by cases k <;> exact h.2.1) ⟨HE.out,HC.out,HO.out,HT.out⟩ (fun k x _ X Y row hs hg hr=>headB_kept hs hg (fun r e=>(hr r e).2)) 43 _ ?assign ?body ?done
  case assign=>
    intro l h x W K hh hK
    unfold recV at hK ⊢
    gi_wp2
    rw [← hh]
    exact hK
  case body=>
    rintro l h k x W hk
    exact absurd hk (by omega)
  case done=>
    rintro D W hD ⟨hE,hR,hv,hT⟩ hK
    have v0:=hv.cell 0
    have f0:=hv.frozen 0
    have HE2:=Lib.hid hE
    have HV:=Lib.hid hv
    clear hE hR hv hT
    go_wp2
    have hDne:D≠w.heap.size+1:=by
      rintro rfl
      have h1:=HV.out
      unfold Blk at h1
      rw [hK] at h1
      cases h1
    have hK':(W.setCell ⟨w.heap.size+1,0,none⟩ (.slice none 0 0)).heap[D]? = some (.deferred (some [])):=(Below.heap_setCell W ⟨w.heap.size+1,0,none⟩ _ D hDne).trans hK
    refine ⟨by simp,.inl ⟨_,_,rfl,run_takeDeferred hK',?_⟩⟩
    have y0:=((HV.out.set_ 0 (.slice none 0 0)).putObj (.deferred none) hDne.symm).cell 0
    refine ⟨.slice none 0 0,by simp [results,Tryz.results69,go_sem,y0],rfl,?_⟩
    exact ext_put (ext_set HE2.out (Nat.le_succ _) _) (Nat.le_trans hxs hD) _
end
section
open Go.RowKit
theorem crc_any (s:ByteArray) (w:World) (hs:s.size≤100000):Calls Tryz.prog 185 #[.string s] w fun e w'=>(∃ z:Int,e=.returned (.int .i64 z))∧w=w':=by
  go_enter Tryz.func185,Tryz.ntmps185
  go_wp2
  go_loop [3,4,5,6] (fun r i _ _=>∃ k:Nat,k≤s.size∧i=.int .i64 k∧∃ z:Int,r=.int .u32 z) (fun _ i _ _=>s.size-(intOf i).toNat)
  case atStart=>exact ⟨0,Nat.zero_le _,rfl,_,rfl⟩
  case round=>
    obtain ⟨k,hk,rfl,z,rfl⟩:=hrel
    by_cases hlt:k<s.size
    · have d1:decide ((k:Int)<(s.size:Int))=true:=by simp;omega
      have q0:(0:Int)≤(k:Int):=by omega
      have q1:(k:Int)<(s.size:Int):=by omega
      have e2:IntKind.i64.wrap ((k:Int)+1)=(k:Int)+1:=by rw [IntWalk.i64_in _ (by omega)]
      go_wp2
      go_loop [3,5,6] (fun r i _=>∃ q:Nat,q≤8∧i=.int .i64 q∧∃ z:Int,r=.int .u32 z) (fun _ i _=>8-(intOf i).toNat)
      case atStart=>exact ⟨0,by omega,rfl,_,rfl⟩
      case round=>
        obtain ⟨q,hq,rfl,y,rfl⟩:=hrel
        by_cases hq8:q<8
        · have d2:decide ((q:Int)<8)=true:=by simp;omega
          have e3:IntKind.i64.wrap ((q:Int)+1)=(q:Int)+1:=by rw [IntWalk.i64_in _ (by omega)]
          go_wp2
          all_goals go_round
          all_goals first|exact ⟨q+1,by omega,by go_num,_,rfl⟩|(simp [intOf];omega)
        · have d2:decide ((q:Int)<8)=false:=by simp;omega
          go_wp2
          go_round
          case rel=>exact ⟨k+1,by omega,by go_num,_,rfl⟩
          case measure=>simp [intOf];omega
    · have d1:decide ((k:Int)<(s.size:Int))=false:=by simp;omega
      go_wp2
      go_ret
      exact ⟨⟨_,rfl⟩,rfl⟩
theorem point12_any (s:ByteArray) (w:World) (hs:s.size≤100000):Calls Tryz.prog 153 #[.string s] w fun e w'=>(∃ z:Int,e=.returned (.int .i64 z))∧w=w':=by
  go_enter Tryz.func153,Tryz.ntmps153
  go_wp2_with (go_at_call 185;refine (crc_any s w hs).mono ?_;rintro e w' ⟨⟨z,rfl⟩,rfl⟩)
  go_ret
  exact ⟨⟨z,rfl⟩,rfl⟩
end
section
open Go.RowKit
def digitS (x:Int):ByteArray:=ByteArray.empty.push (UInt8.ofNat x.toNat)
theorem digitS_size (x:Int):(digitS x).size=1:=rfl
theorem digit_conv (x:Int) (w:World):(convert 174 9 (.slice (some ⟨w.heap.size,0,none⟩) 1 1)).run Tryz.prog (w.alloc (.cells #[.int .u8 x] 5))=.ok (.string (digitS x)) (w.alloc (.cells #[.int .u8 x] 5)):=by
  rw [run_convert_bytes_string _ 174 9 5 _ 1 1 Tryz.underlying174 Tryz.underlying5 Tryz.underlying9]
  have h:=run_loadCells_list (P:=Tryz.prog) (w.alloc (.cells #[.int .u8 x] 5)) ⟨w.heap.size,0,none⟩ ([x].map (Value.int .u8)) (fun j y hy=>by
    match j,hy with
    | 0,hy=>simp at hy;subst hy;exact cell_one_new w _ 5 0 _ rfl)
  exact run_bytesToString _ _ 1 1 [x] h
theorem digits_any (n:Nat) (hn:n<100) (w:World):Calls Tryz.prog 154 #[.int .i64 n] w fun e w'=>(∃ s:ByteArray,e=.returned (.string s)∧s.size≤2)∧Below w.heap.size w w':=by
  go_enter Tryz.func154,Tryz.ntmps154
  go_wp2
  go_loopw [0,3] (fun m t W=>∃ (q:Nat) (s:ByteArray),m=.int .i64 q∧t=.string s∧Hid (s.size≤2∧(s.size=0→q<100)∧(s.size=1→q<10)∧(s.size=2→q=0))∧Below w.heap.size w W) (fun _ t _=>3-(match t with | .string s=>s.size|_=>0))
  case atStart=>exact ⟨n,⟨#[]⟩,rfl,rfl,⟨by decide,fun _=>hn,(fun h=>absurd h (by decide)),(fun h=>absurd h (by decide))⟩,ext_refl w⟩
  case round=>
    obtain ⟨q,s,rfl,rfl,hq,hE⟩:=hrel
    have HE:=Lib.hid hE
    clear hE
    have hcv:=digit_conv (48+(q:Int) % 10) wr
    have HU:=Lib.hid (digitS_size (48+(q:Int) % 10))
    generalize digitS (48+(q:Int) % 10)=u at *
    have hq100:q<100:=by
      obtain ⟨h1,h2,h3,h4⟩:=hq.out
      rcases Nat.lt_or_ge s.size 1 with h|h
      · exact h2 (by omega)
      · rcases Nat.lt_or_ge s.size 2 with h'|h'
        · have:=h3 (by omega);omega
        · have:=h4 (by omega);omega
    have HW:=Lib.hid (show wrap64 ((q:Int) / 10)=((q / 10:Nat):Int) by rw [IntWalk.wrap64_in _ (by omega)];omega)
    have HQ:=Lib.hid hq100
    clear hq100
    by_cases hs:s=⟨#[]⟩
    · subst hs
      have HUT:=Lib.hid (show (u++⟨#[]⟩:ByteArray).size=1 by rw [ByteArray.size_append,HU.out];rfl)
      have hul:u.size≤1:=by rw [HU.out];exact Nat.le_refl _
      go_wp2
      go_roundw
      case rel=>
        have hq1:=HQ.out
        exact ⟨q / 10,u++⟨#[]⟩,by rw [HW.out],rfl,⟨by rw [HUT.out];decide,(fun _=>by omega),(fun _=>by omega),(fun h=>by rw [HUT.out] at h;cases h)⟩,ext_alloc HE.out _⟩
      case measure=>show 3-(u++⟨#[]⟩:ByteArray).size<3-0;rw [HUT.out];decide
    · have hs0:s.size≠0:=fun h=>hs (ByteArray.ext (Array.eq_empty_of_size_eq_zero h))
      have hse:s.toList.isEmpty=false:=by
        rw [← decide_eq_emptyBytes]
        exact decide_eq_false hs
      have hsl:¬ s.toList=[]:=fun h=>by rw [h] at hse;cases hse
      have HSS:=Lib.hid hs0
      clear hs hs0
      by_cases hq0:q=0
      · subst hq0
        clear hcv
        go_wp2
        go_ret
        exact ⟨⟨s,rfl,hq.out.1⟩,HE.out⟩
      · have hqi:(0:Int)<(q:Int):=by omega
        have hsz:u.size+s.size≤3:=by have:=hq.out.1;have:=HU.out;omega
        have hus:(u++s).size=2∧q / 10=0:=by
          rw [ByteArray.size_append,HU.out]
          obtain ⟨h1,h2,h3,h4⟩:=hq.out
          have h0:=HSS.out
          rcases Nat.lt_or_ge s.size 2 with h'|h'
          · have:=h3 (by omega);omega
          · have:=h4 (by omega);omega
        have HUS:=Lib.hid hus
        have HS1:=Lib.hid (show s.size=1 by
          have h:=hus.1
          rw [ByteArray.size_append,HU.out] at h
          omega)
        clear hq0 hus
        go_wp2
        go_roundw
        case rel=>exact ⟨q / 10,u++s,by rw [HW.out],rfl,⟨by rw [HUS.out.1];exact Nat.le_refl _,(fun h=>by rw [HUS.out.1] at h;cases h),(fun h=>by rw [HUS.out.1] at h;cases h),(fun _=>HUS.out.2)⟩,ext_alloc HE.out _⟩
        case measure=>
          show 3-(u++s).size<3-s.size
          rw [HUS.out.1,HS1.out]
          decide
end
section
open Go.RowKit
section
variable {P:Program}
theorem run_copy_rowN (w:World) (dT sT ty elem:TypeId) (sz:Nat) (g o dLen dCap:Nat) (a:Addr) (sLen sCap:Nat) (cur:Array Value) (t:TypeId) (cs:List Value)
    (hu:P.underlying dT=some (.slice elem)) (hs:(P.info? elem).map (·.size)=some sz)
    (hg:w.heap[g]? = some (.cells cur t (0,0))) (hn:cs.length=Nat.min sLen dLen*sz)
    (hsrc:∀ j v,cs[j]? = some v→w.cell? (a.add j)=some v) (hfit:o+cs.length≤cur.size) (h1:∀ v ∈ cs,v.oneCell'=true) :
    (Builtin.copy_ #[dT,sT] ty #[.slice (some ⟨g,o,none⟩) dLen dCap,.slice (some a) sLen sCap]).run P w =
      .ok (goInt (Nat.min sLen dLen)) (w.setRow g (cur.toList.take o++cs++cur.toList.drop (o+cs.length)).toArray):=by
  have hl:=run_loadCells_list (P:=P) w a cs hsrc
  have hst:=run_storeCells_at P g o t cs 0 cur w hg (by simpa using hfit) h1
  cases hq:P.info? elem with
  | none=>simp [hq] at hs
  | some i=>
    have hi:i.size=sz:=by simpa [hq] using hs
    simp [Builtin.copy_,run_underlying hu,Builtin.lenOf,Builtin.firstCells,sizeOf,typeInfo,hq,hi,← hn,hl,hst]
theorem run_copy_0 (w:World) (dT sT ty elem:TypeId) (dp:Option Addr) (dCap:Nat) (a:Addr) (sLen sCap:Nat) (hu:P.underlying dT=some (.slice elem)) (hs:((P.info? elem).map (·.size)).isSome=true) :
    (Builtin.copy_ #[dT,sT] ty #[.slice dp 0 dCap,.slice (some a) sLen sCap]).run P w=.ok (goInt 0) w:=by
  cases hq:P.info? elem with
  | none=>simp [hq] at hs
  | some i=>
    have hl:=run_loadCells_list (P:=P) w a [] (fun j v h=>by simp at h)
    have hl0:(loadCells a 0).run P w=.ok #[] w:=by simpa using hl
    cases dp <;> simp [Builtin.copy_,run_underlying hu,Builtin.lenOf,Builtin.firstCells,sizeOf,typeInfo,hq,storeCells,hl0,Result.andThen]
end
theorem ownsRow_cells' {w:World} {B e sz g n cap:Nat} {ys:List Value} (h:w.ownsRow B e sz (.slice (some ⟨g,0,none⟩) n cap) n ys):∀ j v,ys[j]? = some v→w.cell? ⟨g,j,none⟩=some v:=by
  intro j v hv
  have:=h.cells (g:=g) rfl j v hv
  rwa [add_lit0] at this
def pc (xs:List (Int × Nat)):List Value:=xs.flatMap fun x=>[Value.int .i64 x.1,Value.int .i64 (x.2:Int)]
theorem pc_length (xs:List (Int × Nat)):(pc xs).length=xs.length*2:=by
  induction xs with
  | nil=>rfl
  | cons a r ih=>simp [pc] at ih ⊢;omega
theorem pc_append (xs ys:List (Int × Nat)):pc (xs++ys)=pc xs++pc ys:=by simp [pc]
theorem pc_one (xs:List (Int × Nat)):∀ u ∈ pc xs,u.oneCell'=true:=by
  intro u hu
  unfold pc at hu
  obtain ⟨x,_,hx⟩:=List.mem_flatMap.1 hu
  simp at hx
  rcases hx with rfl|rfl <;> rfl
theorem pc_get (xs:List (Int × Nat)):∀ (k:Nat) (x:Int × Nat),xs[k]? = some x→(pc xs)[k*2]? = some (.int .i64 x.1)∧(pc xs)[k*2+1]? = some (.int .i64 (x.2:Int)):=by
  induction xs with
  | nil=>intro k x h;simp at h
  | cons a r ih=>
    intro k x h
    cases k with
    | zero=>simp at h;subst h;exact ⟨rfl,rfl⟩
    | succ k=>
      have h':=ih k x (by simpa using h)
      have e1:(k+1)*2=k*2+2:=by omega
      rw [e1]
      exact h'
def SpotRow (w:World) (B g cap:Nat) (xs:List (Int × Nat)):Prop:=w.ownsRow B 253 2 (.slice (some ⟨g,0,none⟩) xs.length cap) xs.length (pc xs)
theorem SpotRow.block {w:World} {B g cap:Nat} {xs:List (Int × Nat)} (h:SpotRow w B g cap xs):B≤g∧∃ cur,w.heap[g]? = some (.cells cur 253 (0,0))∧xs.length≤cap∧cap≤maxLen∧cur.size=cap*2∧cur.toList.take (xs.length*2)=pc xs:=by
  rcases h.2 with ⟨he,_⟩|⟨g',cap',cur,he,hb,hg,h1,h2,h3,h4⟩
  · cases he
  · injection he with ha _ hc
    injection ha with ha
    injection ha with ha
    subst ha;subst hc
    exact ⟨hb,cur,hg,h1,h2,h3,h4⟩
theorem SpotRow.mk' {w:World} {B g cap:Nat} {xs:List (Int × Nat)} {cur:Array Value} (hb:B≤g) (hg:w.heap[g]? = some (.cells cur 253 (0,0))) (h1:xs.length≤cap) (h2:cap≤maxLen) (h3:cur.size=cap*2)
    (h4:cur.toList.take (xs.length*2)=pc xs):SpotRow w B g cap xs:=⟨pc_length xs,.inr ⟨g,cap,cur,rfl,hb,hg,h1,h2,h3,h4⟩⟩
theorem SpotRow.cell {w:World} {B g cap:Nat} {xs:List (Int × Nat)} (h:SpotRow w B g cap xs) {k:Nat} {x:Int × Nat} (hx:xs[k]? = some x) :
    w.cell? ⟨g,k*2,none⟩=some (.int .i64 x.1)∧w.cell? ⟨g,k*2+1,none⟩=some (.int .i64 (x.2:Int)):=by
  have hc:=ownsRow_cells' h
  obtain ⟨h1,h2⟩:=pc_get xs k x hx
  exact ⟨hc _ _ h1,hc _ _ h2⟩
theorem SpotRow.frozen {w:World} {B g cap:Nat} {xs:List (Int × Nat)} (h:SpotRow w B g cap xs) (k:Nat):w.frozen? ⟨g,k,none⟩=false:=by
  obtain ⟨_,cur,hg,_⟩:=h.block
  simp [World.frozen?,hg]
theorem SpotRow.shift {w:World} {B g cap:Nat} {xs:List (Int × Nat)} {n q:Nat} (h:SpotRow w B g cap xs) (hn:xs.length=n+1) (hq:q<n) :
    ∃ w2,(Builtin.copy_ #[248,248] 3 #[.slice (some ⟨g,(q+1)*2,none⟩) (n+1-(q+1)) (cap-(q+1)),.slice (some ⟨g,q*2,none⟩) (n+1-q) (cap-q)]).run Tryz.prog w=.ok (goInt ((n-q:Nat):Int)) w2 ∧
      SpotRow w2 B g cap (xs.take (q+1)++(xs.drop q).take (n-q))∧w.grownBy w2 (some g):=by
  obtain ⟨hb,cur,hg,h1,h2,h3,h4⟩:=h.block
  have hcs:(pc ((xs.drop q).take (n-q))).length=(n-q)*2:=by rw [pc_length];simp;omega
  have hmin:Nat.min (n+1-q) (n+1-(q+1))=n-q:=by simp [Nat.min_def];omega
  have hrun:=run_copy_rowN (P:=Tryz.prog) w 248 248 3 253 2 g ((q+1)*2) (n+1-(q+1)) (cap-(q+1)) ⟨g,q*2,none⟩ (n+1-q) (cap-q) cur 253
    (pc ((xs.drop q).take (n-q))) Tryz.underlying248 (by kernel_rfl) hg (by rw [hcs,hmin]) (fun j v hv=>by
      have hj:j<(n-q)*2:=by rw [← hcs];exact (List.getElem?_eq_some_iff.1 hv).1
      have hv2:(pc xs)[q*2+j]? = some v:=by
        have e:pc xs=pc (xs.take q)++(pc ((xs.drop q).take (n-q))++pc ((xs.drop q).drop (n-q))):=by
          rw [← pc_append,← pc_append,List.take_append_drop,List.take_append_drop]
        rw [e,List.getElem?_append_right (by rw [pc_length];simp;omega),pc_length,List.getElem?_append_left (by rw [hcs];simp;omega)]
        rw [← hv]
        congr 1
        simp
        omega
      have:=ownsRow_cells' h _ _ hv2
      rw [Addr.add_mid]
      exact this) (by rw [hcs,h3];omega) (pc_one _)
  rw [hmin,hcs] at hrun
  refine ⟨_,hrun,SpotRow.mk' hb (setRow_heap w g cur _ _ _ hg) (by rw [List.length_append,List.length_take,List.length_take,List.length_drop];omega) h2 ?_ ?_,⟨rfl,rfl,rfl,(by unfold World.setRow;simp),fun k _ hk=>setRow_other w g k _ (fun e=>hk (by rw [e]))⟩⟩
  · simp [hcs,h3];omega
  · have hlen:(xs.take (q+1)++(xs.drop q).take (n-q)).length=n+1:=by simp;omega
    rw [hlen,pc_append]
    have e1:cur.toList.take ((q+1)*2)=pc (xs.take (q+1)):=by
      have:cur.toList.take ((q+1)*2)=(cur.toList.take (xs.length*2)).take ((q+1)*2):=by rw [List.take_take,Nat.min_eq_left (by omega)]
      rw [this,h4]
      have e:pc xs=pc (xs.take (q+1))++pc (xs.drop (q+1)):=by rw [← pc_append,List.take_append_drop]
      rw [e,List.take_append_of_le_length (by rw [pc_length];simp;omega),List.take_of_length_le (by rw [pc_length];simp;omega)]
    simp only [List.toList_toArray,e1]
    rw [List.take_append_of_le_length (by rw [List.length_append,pc_length,hcs];simp;omega),List.take_of_length_le (by rw [List.length_append,pc_length,hcs];simp;omega)]
theorem pc_set (xs:List (Int × Nat)):∀ (k:Nat) (x:Int × Nat),pc (xs.set k x)=((pc xs).set (k*2) (.int .i64 x.1)).set (k*2+1) (.int .i64 (x.2:Int)):=by
  induction xs with
  | nil=>intro k x;simp [pc]
  | cons a r ih=>
    intro k x
    cases k with
    | zero=>rfl
    | succ k=>
      have e1:(k+1)*2=k*2+2:=by omega
      rw [e1]
      show [Value.int .i64 a.1,Value.int .i64 (a.2:Int)]++pc (r.set k x)=_
      rw [ih]
      rfl
theorem SpotRow.put {w:World} {B g cap:Nat} {xs:List (Int × Nat)} (h:SpotRow w B g cap xs) {k:Nat} (hk:k<xs.length) (x:Int × Nat) :
    SpotRow ((w.setCell ⟨g,k*2,none⟩ (.int .i64 x.1)).setCell ⟨g,k*2+1,none⟩ (.int .i64 (x.2:Int))) B g cap (xs.set k x):=by
  obtain ⟨hb,cur,hg,h1,h2,h3,h4⟩:=h.block
  rw [setCell_eq_setRow w g (k*2) cur _ _ _ hg]
  have hg2:=setRow_heap w g cur (cur.setIfInBounds (k*2) (.int .i64 x.1)) _ _ hg
  rw [setCell_eq_setRow _ g (k*2+1) _ _ _ _ hg2,setRow_setRow]
  refine SpotRow.mk' hb (setRow_heap w g cur _ _ _ hg) (by rw [List.length_set];exact h1) h2 (by simp [h3]) ?_
  rw [List.length_set,pc_set,← h4]
  apply List.ext_getElem?
  intro i
  simp only [Array.toList_setIfInBounds,List.getElem?_take,List.getElem?_set,List.length_set,List.length_take]
  by_cases hi:i<xs.length*2
  · by_cases h5:k*2+1=i
    · have:i<cur.toList.length:=by simp [h3];omega
      have hc:i<cur.size:=this
      have hm:i<min (xs.length*2) cur.size:=by omega
      simp [hi,h5,hc,hm]
    · by_cases h6:k*2=i
      · have:i<cur.toList.length:=by simp [h3];omega
        have hc:i<cur.size:=this
        have hm:i<min (xs.length*2) cur.size:=by omega
        simp [hi,h5,h6,hc,hm]
      · simp [hi,h5,h6]
  · have h5:¬ (k*2+1=i):=by omega
    have h6:¬ (k*2=i):=by omega
    simp [hi,h5,h6]
theorem insert_last (xs:List (Int × Nat)) (x:Int × Nat):(xs++[x]).set xs.length x=xs.take xs.length++x::xs.drop xs.length:=by
  simp [List.set_append]
theorem insert_mid (xs:List (Int × Nat)) (x:Int × Nat) (q:Nat) (hq:q<xs.length):((xs++[x]).take (q+1)++((xs++[x]).drop q).take (xs.length-q)).set q x=xs.take q++x::xs.drop q:=by
  have e1:(xs++[x]).take (q+1)=xs.take (q+1):=List.take_append_of_le_length (by omega)
  have e2:((xs++[x]).drop q).take (xs.length-q)=xs.drop q:=by
    rw [List.drop_append_of_le_length (by omega),List.take_append_of_le_length (by simp),List.take_of_length_le (by simp)]
  rw [e1,e2]
  have e3:xs.take (q+1)=xs.take q++[xs[q]]:=by rw [List.take_add_one,List.getElem?_eq_getElem hq];rfl
  have hl:(xs.take q).length=q:=by simp;omega
  rw [e3,List.append_assoc,List.set_append_right _ _ (by omega),hl]
  simp
end
section
open Go.RowKit
def getI:List (Int × Value)→Int→Option Value
  | [],_=>none
  | p::r,k=>if p.1=k then some p.2 else getI r k
def setI:List (Int × Value)→Int→Value→List (Int × Value)
  | [],k,v=>[(k,v)]
  | p::r,k,v=>if p.1=k then (k,v)::r else p::setI r k v
def findI:List (Int × Value)→Int→Nat→Option (Nat × Value)
  | [],_,_=>none
  | p::r,k,i=>if p.1=k then some (i,p.2) else findI r k (i+1)
theorem findI_get (kv:List (Int × Value)) (k:Int):∀ i,(findI kv k i).map (·.2)=getI kv k:=by
  induction kv with
  | nil=>intro i;rfl
  | cons p r ih=>
    intro i
    unfold findI getI
    split
    · rfl
    · exact ih (i+1)
theorem findI_none (kv:List (Int × Value)) (k:Int):∀ i,getI kv k=none→findI kv k i=none:=by
  intro i h
  have h1:=findI_get kv k i
  rw [h] at h1
  cases hf:findI kv k i with
  | none=>rfl
  | some x=>rw [hf] at h1;cases h1
theorem findI_some (kv:List (Int × Value)) (k:Int) (v:Value) (h:getI kv k=some v):∀ i,∃ j,findI kv k i=some (i+j,v)∧kv[j]? = some (k,v)∧∀ u,setI kv k u=kv.set j (k,u):=by
  induction kv with
  | nil=>cases h
  | cons p r ih=>
    intro i
    unfold getI at h
    by_cases hp:p.1=k
    · rw [if_pos hp] at h
      cases h
      exact ⟨0,by simp [findI,hp],by simp [← hp],fun u=>by simp [setI,hp]⟩
    · rw [if_neg hp] at h
      obtain ⟨j,h1,h2,h3⟩:=ih h (i+1)
      exact ⟨j+1,by simp [findI,hp,h1];omega,by simpa using h2,fun u=>by simp [setI,hp,h3]⟩
theorem setI_none (kv:List (Int × Value)) (k:Int) (v:Value) (h:getI kv k=none):setI kv k v=kv++[(k,v)]:=by
  induction kv with
  | nil=>rfl
  | cons p r ih=>
    unfold getI at h
    by_cases hp:p.1=k
    · rw [if_pos hp] at h;cases h
    · rw [if_neg hp] at h
      simp [setI,hp,ih h]
def MapI (w:World) (g:Nat) (kv:List (Int × Value)):Prop:=∃ es c,MapAt w g es c∧es.toList.map (fun e=>(e.key,e.val))=kv.map (fun p=>(Value.int .i64 p.1,p.2))
section
variable {P:Program} {w W:World} {g:Nat} {kv:List (Int × Value)}
theorem MapI.ext (h:MapI w g kv) (k:Below w.heap.size w W):MapI W g kv:=by
  obtain ⟨es,c,h,e⟩:=h
  exact ⟨es,c,h.ext k,e⟩
theorem MapI.lt (h:MapI w g kv):g<w.heap.size:=by
  obtain ⟨es,c,h,e⟩:=h
  exact h.lt
theorem MapI.new (w:World):MapI (w.alloc (.map #[] 0)) w.heap.size []:=⟨#[],0,MapAt.new w,rfl⟩
theorem findNow_I (kd:IntKind) (k:Int):∀ (kv:List (Int × Value)) (es:List MapEntry) (i:Nat),es.map (fun e=>(e.key,e.val))=kv.map (fun p=>(Value.int .i64 p.1,p.2)) →
    Instr.findNow (.int kd) (.int .i64 k) es i=some (findI kv k i):=by
  intro kv
  induction kv with
  | nil=>
    intro es i h
    cases es with
    | nil=>rfl
    | cons e r=>cases h
  | cons p r ih=>
    intro es i h
    cases es with
    | nil=>cases h
    | cons e es=>
      simp only [List.map_cons,List.cons.injEq,Prod.mk.injEq] at h
      obtain ⟨⟨hk,hv⟩,ht⟩:=h
      unfold Instr.findNow findI
      have hs:Instr.sameNow (.int kd) (.int .i64 k) (.int .i64 p.1)=some (k == p.1):=by simp [Instr.sameNow]
      rw [hk,hs]
      by_cases hp:p.1=k
      · rw [if_pos hp,show (k == p.1)=true by simp [hp]]
        simp [hv]
      · rw [if_neg hp,show (k == p.1)=false by simp;omega]
        exact ih es (i+1) ht
theorem findKey_I {K:TypeId} {kd:IntKind} (hK:P.underlying K=some (.int kd)) (k:Int) (kv:List (Int × Value)) (es:List MapEntry) (h:es.map (fun e=>(e.key,e.val))=kv.map (fun p=>(Value.int .i64 p.1,p.2))) :
    (Instr.findKey K (.int .i64 k) es).run P w=.ok (findI kv k 0) w:=by
  have h1:=findNow_I kd k kv es 0 h
  simp [Instr.findKey,run_underlying hK,Result.andThen,h1]
theorem checkKey_I {K:TypeId} {kd:IntKind} (hK:P.underlying K=some (.int kd)) (k:Int) (b:Bool):(Instr.checkKey b 10000 K (.int .i64 k)).run P w=.ok () w:=by
  unfold Instr.checkKey
  simp [run_underlying hK,Result.andThen]
theorem lookup_I {T K E:TypeId} {kd:IntKind} (hT:P.underlying T=some (.map K E)) (hK:P.underlying K=some (.int kd)) (h:MapI w g kv) (k:Int) {z:Value} (hz:(zeroValue E).run P w=.ok z w) :
    (Instr.lookup T (.map (some g)) (.int .i64 k) false).run P w=.ok ((getI kv k).getD z) w:=by
  obtain ⟨es,c,h,e⟩:=h
  have hg:=getM (P:=P) h
  have hck:=fun b=>checkKey_I (P:=P) (w:=w) hK k b
  have hf:=findKey_I (P:=P) (w:=w) hK k kv es.toList e
  unfold Instr.lookup
  have h1:=findI_get kv k 0
  cases hc:findI kv k 0 with
  | none=>
    rw [hc] at hf h1
    rw [← h1]
    simp [run_underlying hT,Result.andThen,hg,hck,hf,hz]
  | some x=>
    rw [hc] at hf h1
    rw [← h1]
    obtain ⟨i,v⟩:=x
    simp [run_underlying hT,Result.andThen,hg,hck,hf]
theorem lookup_Iok {T K E:TypeId} {kd:IntKind} (hT:P.underlying T=some (.map K E)) (hK:P.underlying K=some (.int kd)) (h:MapI w g kv) (k:Int) {z:Value} (hz:(zeroValue E).run P w=.ok z w) :
    (Instr.lookup T (.map (some g)) (.int .i64 k) true).run P w=.ok (.tuple #[(getI kv k).getD z,.bool (getI kv k).isSome]) w:=by
  obtain ⟨es,c,h,e⟩:=h
  have hg:=getM (P:=P) h
  have hck:=fun b=>checkKey_I (P:=P) (w:=w) hK k b
  have hf:=findKey_I (P:=P) (w:=w) hK k kv es.toList e
  unfold Instr.lookup
  have h1:=findI_get kv k 0
  cases hc:findI kv k 0 with
  | none=>
    rw [hc] at hf h1
    rw [← h1]
    simp [run_underlying hT,Result.andThen,hg,hck,hf,hz]
  | some x=>
    rw [hc] at hf h1
    rw [← h1]
    obtain ⟨i,v⟩:=x
    simp [run_underlying hT,Result.andThen,hg,hck,hf]
theorem update_I {T K E:TypeId} {kd:IntKind} (hT:P.underlying T=some (.map K E)) (hK:P.underlying K=some (.int kd)) (h:MapI w g kv) (k:Int) (v:Value) :
    ∃ o,(Instr.mapUpdate T (.map (some g)) (.int .i64 k) v).run P w=.ok () (w.putObj g o)∧MapI (w.putObj g o) g (setI kv k v):=by
  obtain ⟨es,c,h,e⟩:=h
  have hg:=getM (P:=P) h
  have hck:=checkKey_I (P:=P) (w:=w) hK k false
  have hf:=findKey_I (P:=P) (w:=w) hK k kv es.toList e
  have hs:=fun o=>setM (P:=P) o h
  cases hc:getI kv k with
  | none=>
    rw [findI_none kv k 0 hc] at hf
    refine ⟨.map (es.push ⟨.int .i64 k,v,c⟩) (c+1),?_,_,_,h.put _ _,?_⟩
    · unfold Instr.mapUpdate
      simp [run_underlying hT,Result.andThen,hg,hck,hf,hs]
    · rw [setI_none kv k v hc]
      simp [e]
  | some x=>
    obtain ⟨j,h1,h2,h3⟩:=findI_some kv k x hc 0
    rw [h1] at hf
    rw [Nat.zero_add] at hf
    have hj:(es.toList.map (fun e=>(e.key,e.val)))[j]? = some (.int .i64 k,x):=by rw [e,List.getElem?_map,h2];rfl
    rw [List.getElem?_map,Option.map_eq_some_iff] at hj
    obtain ⟨en,hen,hek⟩:=hj
    have hen':es[j]? = some en:=by simpa using hen
    have hkk:en.key=.int .i64 k:=congrArg Prod.fst hek
    have hsb:Instr.sameBits 10000 (.int .i64 k) (.int .i64 k)=true:=by unfold Instr.sameBits;simp
    refine ⟨.map (es.modify j fun e=>{ e with key:=.int .i64 k,val:=v }) c,?_,_,_,h.put _ _,?_⟩
    · unfold Instr.mapUpdate Instr.keyThatStays
      simp [run_underlying hT,Result.andThen,hg,hck,hf,hs,hen',hkk,hsb]
    · rw [h3]
      apply List.ext_getElem?
      intro i
      have ei:(es.toList.map (fun e=>(e.key,e.val)))[i]? = (kv.map (fun p=>(Value.int .i64 p.1,p.2)))[i]? := by rw [e]
      simp only [List.getElem?_map,Array.toList_modify,List.getElem?_modify,List.getElem?_set] at ei ⊢
      by_cases hij:j=i
      · subst hij
        have hlt:j<kv.length:=(List.getElem?_eq_some_iff.1 h2).1
        simp [hen',hlt]
      · simp [hij] at ei ⊢
        exact ei
end
end
section
open Go.RowKit
def MemsAt (w:World) (v:Value) (ns:List Nat):Prop:=
  ∃ A c,v=.slice A ns.length c∧ns.length≤c∧(0<ns.length→∃ b off,A=some ⟨b,off,none⟩∧∀ (j n:Nat),ns[j]? = some n →
    w.cell? ⟨b,off+j*3,none⟩=some (.int .i64 n)∧w.cell? ⟨b,off+j*3+1,none⟩=some (.int .i64 0)∧w.cell? ⟨b,off+j*3+2,none⟩=some (.int .i64 1))
structure NodesOK (ns:List Nat):Prop where
  some_:0<ns.length
  few:ns.length≤24
  below:∀ n ∈ ns,n<24
  asc:∀ (j a b:Nat),ns[j]? = some a→ns[j+1]? = some b→a<b
theorem MemsAt.ext {w W:World} {v:Value} {ns:List Nat} (h:MemsAt w v ns) (k:Below w.heap.size w W):MemsAt W v ns:=by
  obtain ⟨A,c,rfl,hc,h⟩:=h
  refine ⟨A,c,rfl,hc,fun h0=>?_⟩
  obtain ⟨b,off,hA,hcell⟩:=h h0
  exact ⟨b,off,hA,fun j n hn=>⟨cell_ext (hcell j n hn).1 k,cell_ext (hcell j n hn).2.1 k,cell_ext (hcell j n hn).2.2 k⟩⟩
theorem MemsAt.at_ {w:World} {v:Value} {ns:List Nat} (h:MemsAt w v ns) {j n:Nat} (hj:ns[j]? = some n):∃ b off c,v=.slice (some ⟨b,off,none⟩) ns.length c∧ns.length≤c ∧
    w.cell? ⟨b,off+j*3,none⟩=some (.int .i64 n)∧w.cell? ⟨b,off+j*3+1,none⟩=some (.int .i64 0)∧w.cell? ⟨b,off+j*3+2,none⟩=some (.int .i64 1):=by
  obtain ⟨A,c,rfl,hc,h⟩:=h
  have hlt:=(List.getElem?_eq_some_iff.1 hj).1
  obtain ⟨b,off,rfl,hcell⟩:=h (by omega)
  exact ⟨b,off,c,rfl,hc,hcell j n hj⟩
theorem rwithin_yes (n lo hi:Int) (h1:lo≤n) (h2:n≤hi) (w:World):Calls Tryz.prog 110 #[.int .i64 n,.int .i64 lo,.int .i64 hi] w fun e w'=>e=.returned (.bool true)∧w=w':=by
  go_enter Tryz.func110,Tryz.ntmps110
  go_wp2
  go_ret
  exact ⟨by simp [h1,h2],rfl⟩
def lastF (ns:List Nat):Nat→Int
  | 0 => -1
  | k+1=>((ns.getD k 0:Nat):Int)
theorem rvalid_yes (ns:List Nat) (v:Value) (w:World) (hv:MemsAt w v ns) (hn:NodesOK ns):Calls Tryz.prog 111 #[v] w fun e w'=>e=.returned (.bool true)∧Below w.heap.size w w':=by
  have HV:=Lib.hid hv
  have HN:=Lib.hid hn
  obtain ⟨A,c,rfl,hc,_⟩:=hv
  have hfew:=hn.few
  clear hn
  go_enter Tryz.func111,Tryz.ntmps111
  go_wp2
  go_loopw [3,5,8] (fun last _ i W=>∃ k:Nat,k≤ns.length∧i=.int .i64 k∧last=.int .i64 (lastF ns k)∧Below w.heap.size w W) (fun _ _ i _=>ns.length-(intOf i).toNat)
  case atStart=>exact ⟨0,Nat.zero_le _,rfl,rfl,ext_refl w⟩
  case round=>
    obtain ⟨k,hk,rfl,rfl,hE⟩:=hrel
    have HE:=Lib.hid hE
    clear hE
    by_cases hlt:k<ns.length
    · obtain ⟨n,hn⟩:∃ n,ns[k]? = some n:=⟨_,List.getElem?_eq_getElem hlt⟩
      obtain ⟨b,off,c',hA,_,c0,c1,c2⟩:=(HV.out.ext HE.out).at_ hn
      injection hA with hA hn' hc'
      subst hA;subst hc'
      clear hn'
      have hn24:n<24:=HN.out.below n (List.mem_of_getElem? hn)
      have hla:lastF ns k+1≤(n:Int) ∧ -1≤lastF ns k∧lastF ns k≤23:=by
        cases k with
        | zero=>simp [lastF]
        | succ k=>
          have hk':k<ns.length:=by omega
          have h1:=HN.out.asc k ns[k] n (List.getElem?_eq_getElem hk') hn
          have h2:=HN.out.below ns[k] (List.getElem_mem hk')
          simp only [lastF,List.getD_eq_getElem?_getD,List.getElem?_eq_getElem hk',Option.getD_some]
          omega
      have hnx:lastF ns (k+1)=(n:Int):=by simp [lastF,hn]
      have HNX:=Lib.hid hnx
      generalize lastF ns k=la at *
      obtain ⟨l1,l2,l3⟩:=hla
      have e1:IntKind.i64.wrap (la+1)=la+1:=by rw [IntWalk.i64_in _ (by omega)]
      have e2:IntKind.i64.wrap ((k:Int)+1)=(k:Int)+1:=by rw [IntWalk.i64_in _ (by omega)]
      have d1:decide ((k:Int)<(ns.length:Int))=true:=by simp;omega
      have q0:(0:Int)≤(k:Int):=by omega
      have q1:(k:Int)<(ns.length:Int):=by omega
      clear hn hnx
      go_wp2_with (go_at_call 110;refine (rwithin_yes _ _ _ (by omega) (by omega) _).mono ?_;rintro e w' ⟨rfl,rfl⟩)
      go_roundw
      case rel=>exact ⟨k+1,by omega,by go_num,by rw [HNX.out],ext_alloc HE.out _⟩
      case measure=>simp [intOf];omega
    · have d1:decide ((k:Int)<(ns.length:Int))=false:=by simp;omega
      have hpos:=HN.out.some_
      have hl0:0≤lastF ns k:=by
        cases k with
        | zero=>omega
        | succ k=>simp [lastF]
      generalize lastF ns k=la at *
      go_wp2
      go_ret
      exact ⟨by simp [hl0],HE.out⟩
end
section
open Go.RowKit
def limF (m:Nat):Int:=(80+(m:Int)-1) / (m:Int)
def limsI (m:Nat) (ns:List Nat):List (Int × Value):=ns.map fun n:Nat=>((n:Int),Value.int .i64 (limF m))
theorem getI_none (kv:List (Int × Value)) (k:Int) (h:∀ p ∈ kv,p.1≠k):getI kv k=none:=by
  induction kv with
  | nil=>rfl
  | cons p r ih=>
    unfold getI
    rw [if_neg (h p (List.mem_cons_self ..))]
    exact ih fun q hq=>h q (List.mem_cons_of_mem _ hq)
theorem MapI.drew {w:World} {g:Nat} {kv:List (Int × Value)} (h:MapI w g kv):MapI w.drew g kv:=h
theorem NodesOK.lt_of {ns:List Nat} (h:NodesOK ns) {q k a n:Nat} (hq:ns[q]? = some a) (hk:ns[k]? = some n) (hqk:q<k):a<n:=by
  obtain ⟨d,rfl⟩:∃ d,k=q+1+d:=⟨k-(q+1),by omega⟩
  clear hqk
  induction d generalizing n with
  | zero=>exact h.asc q a n hq hk
  | succ d ih=>
    have hlt:=(List.getElem?_eq_some_iff.1 hk).1
    have h1:ns[q+1+d]? = some ns[q+1+d]:=List.getElem?_eq_getElem (by omega)
    have h2:=ih h1
    have h3:=h.asc (q+1+d) _ n h1 hk
    omega
theorem limits_any (ns:List Nat) (v:Value) (w:World) (hv:MemsAt w v ns) (hn:NodesOK ns):Calls Tryz.prog 109 #[v] w fun e w'=>∃ g,e=.returned (.map (some g))∧w.heap.size≤g∧MapI w' g (limsI ns.length ns)∧Below w.heap.size w w':=by
  have HV:=Lib.hid hv
  have HN:=Lib.hid hn
  have HRV:=Lib.hid (fun W (k:Below w.heap.size w W)=>rvalid_yes ns v W (hv.ext k) hn)
  obtain ⟨A,c,rfl,hc,_⟩:=hv
  have hfew:=hn.few
  have hsome:=hn.some_
  have hmm:=@run_makeMap Tryz.prog
  clear hn
  obtain ⟨X,hX⟩:∃ X,X=w.alloc (.map #[] 0):=⟨_,rfl⟩
  have HX:=Lib.hid hX
  have HE0:=Lib.hid (show Below w.heap.size w X by rw [hX];exact ext_new _ _)
  have HM0:=Lib.hid (show MapI X w.heap.size [] by rw [hX];exact MapI.new w)
  clear hX
  go_enter Tryz.func109,Tryz.ntmps109
  go_wp2_with fail
  rw [← HX.out]
  go_loopw [4,6,12] (fun s _ i W=>∃ k:Nat,k≤ns.length∧i=.int .i64 k∧s=.int .i64 k∧Below X.heap.size X W) (fun _ _ i _=>ns.length-(intOf i).toNat)
  case atStart=>exact ⟨0,Nat.zero_le _,rfl,rfl,ext_refl X⟩
  case round =>
    obtain ⟨k,hk,rfl,rfl,hE⟩:=hrel
    have HE:=Lib.hid hE
    clear hE
    by_cases hlt:k<ns.length
    · obtain ⟨n,hn⟩:∃ n,ns[k]? = some n:=⟨_,List.getElem?_eq_getElem hlt⟩
      obtain ⟨b,off,c',hA,_,c0,c1,c2⟩:=(HV.out.ext (ext_call HE0.out HE.out)).at_ hn
      injection hA with hA hn' hc'
      subst hA;subst hc'
      clear hn'
      have e2:IntKind.i64.wrap ((k:Int)+1)=(k:Int)+1:=by rw [IntWalk.i64_in _ (by omega)]
      have d1:decide ((k:Int)<(ns.length:Int))=true:=by simp;omega
      have q0:(0:Int)≤(k:Int):=by omega
      have q1:(k:Int)<(ns.length:Int):=by omega
      clear hn
      go_wp2
      go_roundw
      case rel=>exact ⟨k+1,by omega,by go_num,by go_num,ext_alloc HE.out _⟩
      case measure=>simp [intOf];omega
    · have d1 : decide ((k : Int) < (ns.length : Int)) = false := by simp; omega
      obtain rfl:k=ns.length:=by omega
      have HEk:=Lib.hid (ext_call HE0.out HE.out)
      go_wp2_with fail
      refine (HRV.out _ HEk.out).mono ?_
      rintro e W2 ⟨rfl,hb2⟩
      have HE2:=Lib.hid (ext_call HE.out hb2)
      clear hb2 hk d1
      go_wp2_with fail
      go_loopw [8,25] (fun _ i W=>∃ k:Nat,k≤ns.length∧i=.int .i64 k∧MapI W w.heap.size (limsI ns.length (ns.take k))∧Below w.heap.size w W) (fun _ i _=>ns.length-(intOf i).toNat)
      case atStart=>exact ⟨0,Nat.zero_le _,rfl,HM0.out.ext HE2.out,ext_call HE0.out HE2.out⟩
      case round=>
        obtain ⟨k,hk,rfl,hM,hE⟩:=hrel
        have HE3:=Lib.hid hE
        have HM3:=Lib.hid hM
        clear hE hM
        by_cases hlt:k<ns.length
        · obtain ⟨n,hn⟩:∃ n,ns[k]? = some n:=⟨_,List.getElem?_eq_getElem hlt⟩
          obtain ⟨b,off,c',hA,_,c0,c1,c2⟩:=(HV.out.ext HE3.out).at_ hn
          injection hA with hA hn' hc'
          subst hA;subst hc'
          clear hn'
          have hno:getI (limsI ns.length (ns.take k)) (n:Int)=none:=getI_none _ _ fun p hp=>by
            unfold limsI at hp
            obtain ⟨a,ha,rfl⟩:=List.mem_map.1 hp
            obtain ⟨q,hq,hqa⟩:=List.mem_iff_getElem.1 ha
            have hqk:q<k:=by simp at hq;omega
            have hqn:ns[q]? = some a:=by
              rw [List.getElem_take] at hqa
              rw [← hqa]
              exact List.getElem?_eq_getElem (by omega)
            have:a<n:=HN.out.lt_of hqn hn hqk
            simp;omega
          have hst:limsI ns.length (ns.take (k+1))=setI (limsI ns.length (ns.take k)) (n:Int) (.int .i64 ((80+(ns.length:Int)-1) / (ns.length:Int))):=by
            rw [setI_none _ _ _ hno,List.take_add_one,hn]
            simp [limsI,limF]
          have HST:=Lib.hid hst
          have hW:Below w.heap.size w (wr.alloc (.cells #[.int .i64 n,.int .i64 0,.int .i64 1] 145)).drew:=(ext_alloc HE3.out _).drew
          have hWg:w.heap.size<(wr.alloc (.cells #[.int .i64 n,.int .i64 0,.int .i64 1] 145)).heap.size:=(HM3.out.ext (ext_new wr (.cells #[.int .i64 n,.int .i64 0,.int .i64 1] 145))).lt
          obtain ⟨o,hup,hMu⟩:=update_I (P:=Tryz.prog) (w:=(wr.alloc (.cells #[.int .i64 n,.int .i64 0,.int .i64 1] 145)).drew) Tryz.underlying201 Tryz.underlying3 (MapI.drew (HM3.out.ext (ext_new wr _))) (n:Int) (.int .i64 ((80+(ns.length:Int)-1) / (ns.length:Int)))
          have HMu:=Lib.hid hMu
          have HW:=Lib.hid hW
          have e2:IntKind.i64.wrap ((k:Int)+1)=(k:Int)+1:=by rw [IntWalk.i64_in _ (by omega)]
          have d1:decide ((k:Int)<(ns.length:Int))=true:=by simp;omega
          have q0:(0:Int)≤(k:Int):=by omega
          have q1:(k:Int)<(ns.length:Int):=by omega
          clear hn hno hst hMu hW
          go_upto_region 12 with (fail)
          go_region
          all_goals
            go_wp2
            go_roundw
            case rel=>exact ⟨k+1,by omega,by go_num,by rw [HST.out];exact HMu.out,ext_put HW.out (Nat.le_refl _) _⟩
            case measure=>simp [intOf];omega
        · have d1:decide ((k:Int)<(ns.length:Int))=false:=by simp;omega
          obtain rfl:k=ns.length:=by omega
          rw [List.take_length] at HM3
          go_wp2
          go_ret
          exact ⟨_,rfl,Nat.le_refl _,HM3.out,HE3.out⟩
end
section
theorem ind_zero (o:Nat):∀ ns:List Nat,o ∉ ns→(ns.map (fun n=>if o=n then 1 else 0)).sum=0:=by
  intro ns
  induction ns with
  | nil=>intro _;rfl
  | cons a r ih=>
    intro h
    rw [List.mem_cons,not_or] at h
    simp [h.1,ih h.2]
theorem ind_one (o:Nat):∀ ns:List Nat,ns.Nodup→o ∈ ns→(ns.map (fun n=>if o=n then 1 else 0)).sum=1:=by
  intro ns
  induction ns with
  | nil=>intro _ h;cases h
  | cons a r ih=>
    intro hn h
    rw [List.nodup_cons] at hn
    by_cases ha:o=a
    · subst ha
      simp [ind_zero o r hn.1]
    · rcases List.mem_cons.1 h with h|h
      · exact absurd h ha
      · simp [ha,ih hn.2 h]
theorem sum_add (f g:Nat→Nat):∀ ns:List Nat,(ns.map (fun n=>f n+g n)).sum=(ns.map f).sum+(ns.map g).sum:=by
  intro ns
  induction ns with
  | nil=>rfl
  | cons a r ih=>simp only [List.map_cons,List.sum_cons,ih];omega
theorem count_sum (ns:List Nat) (hn:ns.Nodup):∀ os:List Nat,(∀ o ∈ os,o ∈ ns)→(ns.map (fun n=>os.count n)).sum=os.length:=by
  intro os
  induction os with
  | nil=>
    intro _
    induction ns with
    | nil=>rfl
    | cons a r ih=>simpa using ih (List.nodup_cons.1 hn).2
  | cons o r ih=>
    intro h
    have e:(fun n=>(o::r).count n)=fun n=>r.count n+(if o=n then 1 else 0):=by
      funext n
      rw [List.count_cons]
      by_cases hon:o=n <;> simp [hon]
    rw [e,sum_add,ih (fun x hx=>h x (List.mem_cons_of_mem _ hx)),ind_one o ns hn (h o (List.mem_cons_self ..))]
    rfl
theorem sum_ge (f:Nat→Nat) (L:Nat):∀ ns:List Nat,(∀ n ∈ ns,L≤f n)→ns.length*L≤(ns.map f).sum:=by
  intro ns
  induction ns with
  | nil=>intro _;simp
  | cons a r ih=>
    intro h
    have h1:=h a (List.mem_cons_self ..)
    have h2:=ih fun n hn=>h n (List.mem_cons_of_mem _ hn)
    simp only [List.map_cons,List.sum_cons,List.length_cons,Nat.succ_mul]
    omega
theorem room_left (ns:List Nat) (hn:ns.Nodup) (os:List Nat) (h:∀ o ∈ os,o ∈ ns) (L:Nat) (hall:∀ n ∈ ns,L≤os.count n):ns.length*L≤os.length:=by
  rw [← count_sum ns hn os h]
  exact sum_ge _ L ns hall
end
section
open Go.RowKit
theorem bcells3 {w:World} {g:Nat} {t:TypeId} {a0 a1 a2:Value} (h:Blk w g t #[a0,a1,a2]):w.cell? ⟨g,0,none⟩=some a0∧w.cell? ⟨g,1,none⟩=some a1∧w.cell? ⟨g,2,none⟩=some a2:=⟨h.cell 0,h.cell 1,h.cell 2⟩
theorem NodesOK.nodup {ns:List Nat} (h:NodesOK ns):ns.Nodup:=by
  unfold List.Nodup
  rw [List.pairwise_iff_getElem]
  intro i j hi hj hij e
  have:=h.lt_of (List.getElem?_eq_getElem hi) (List.getElem?_eq_getElem hj) hij
  omega
def NumsAt (w:World) (v:Value) (os:List Nat):Prop:=
  ∃ A c,v=.slice A os.length c∧os.length≤c∧(0<os.length→∃ b off,A=some ⟨b,off,none⟩∧∀ (j n:Nat),os[j]? = some n→w.cell? ⟨b,off+j,none⟩=some (.int .i64 n))
theorem NumsAt.ext {w W:World} {v:Value} {os:List Nat} (h:NumsAt w v os) (k:Below w.heap.size w W):NumsAt W v os:=by
  obtain ⟨A,c,rfl,hc,h⟩:=h
  refine ⟨A,c,rfl,hc,fun h0=>?_⟩
  obtain ⟨b,off,hA,hcell⟩:=h h0
  exact ⟨b,off,hA,fun j n hn=>cell_ext (hcell j n hn) k⟩
theorem NumsAt.at_ {w:World} {v:Value} {os:List Nat} (h:NumsAt w v os) {j n:Nat} (hj:os[j]? = some n):∃ b off c,v=.slice (some ⟨b,off,none⟩) os.length c∧os.length≤c∧w.cell? ⟨b,off+j,none⟩=some (.int .i64 n):=by
  obtain ⟨A,c,rfl,hc,h⟩:=h
  have hlt:=(List.getElem?_eq_some_iff.1 hj).1
  obtain ⟨b,off,rfl,hcell⟩:=h (by omega)
  exact ⟨b,off,c,rfl,hc,hcell j n hj⟩
def roomI (ns:List Nat) (f:Nat→Int):List (Int × Value):=ns.map fun n:Nat=>((n:Int),Value.int .i64 (f n))
theorem roomI_get (f:Nat→Int) (o:Nat):∀ ns:List Nat,o ∈ ns→getI (roomI ns f) (o:Int)=some (.int .i64 (f o)):=by
  intro ns
  induction ns with
  | nil=>intro h;cases h
  | cons a r ih=>
    intro h
    show (if ((a:Int)=(o:Int)) then some (Value.int .i64 (f a)) else getI (roomI r f) (o:Int))=_
    by_cases ha:a=o
    · subst ha;simp
    · rw [if_neg (by omega)]
      rcases List.mem_cons.1 h with h|h
      · exact absurd h.symm ha
      · exact ih h
theorem roomI_other (f g:Nat→Int) (ns:List Nat) (h:∀ n ∈ ns,f n=g n):roomI ns f=roomI ns g:=by
  unfold roomI
  exact List.map_congr_left fun n hn=>by rw [h n hn]
theorem roomI_set (f:Nat→Int) (o:Nat) (x:Int):∀ ns:List Nat,ns.Nodup→o ∈ ns→setI (roomI ns f) (o:Int) (.int .i64 x)=roomI ns (fun n=>if n=o then x else f n):=by
  intro ns
  induction ns with
  | nil=>intro _ h;cases h
  | cons a r ih=>
    intro hn h
    rw [List.nodup_cons] at hn
    show (if ((a:Int)=(o:Int)) then ((o:Int),Value.int .i64 x)::roomI r f else ((a:Int),Value.int .i64 (f a))::setI (roomI r f) (o:Int) (.int .i64 x))=_
    by_cases ha:a=o
    · subst ha
      rw [if_pos rfl,roomI_other f (fun n=>if n=a then x else f n) r (fun n hm=>by
        have:n≠a:=fun e=>hn.1 (e ▸ hm)
        simp [this])]
      simp [roomI]
    · rw [if_neg (by omega)]
      rcases List.mem_cons.1 h with h|h
      · exact absurd h.symm ha
      · rw [ih hn.2 h]
        simp [roomI,ha]
theorem limF_le (m:Nat) (h0:0<m) (h1:m≤24):1≤limF m∧limF m≤103:=by
  unfold limF
  constructor
  · exact Int.le_ediv_of_mul_le (by omega) (by omega)
  · refine Int.le_trans (Int.ediv_le_self _ (by omega)) (by omega)
theorem validRing_yes (ns os:List Nat) (ep:Int) (vm vo:Value) (w:World) (hm:MemsAt w vm ns) (hn:NodesOK ns) (ho:NumsAt w vo os) (hl:os.length=64) (hos:∀ o ∈ os,o ∈ ns) (hlim:∀ n,(os.count n:Int)≤limF ns.length)
    (h1:1≤ep) (h2:ep≤1000000) :
    Calls Tryz.prog 66 #[.agg #[.int .i64 ep,vm,vo]] w fun e w'=>e=.returned (.bool true)∧Below w.heap.size w w':=by
  obtain ⟨X,hX⟩:∃ X,X=w.alloc (.cells #[.int .i64 ep,vm,vo] 69):=⟨_,rfl⟩
  have HX:=Lib.hid hX
  have HE0:=Lib.hid (show Below w.heap.size w X by rw [hX];exact ext_new _ _)
  have HB0:=Lib.hid (show Blk X w.heap.size 69 #[.int .i64 ep,vm,vo] by rw [hX];exact Blk.new _ _ _)
  have HM:=Lib.hid (hm.ext HE0.out)
  have HO:=Lib.hid (ho.ext HE0.out)
  have HN:=Lib.hid hn
  have HLI:=Lib.hid hlim
  have HOS:=Lib.hid hos
  have HL:=Lib.hid hl
  obtain ⟨Am,cm,rfl,hcm,_⟩:=hm
  obtain ⟨Ao,co,rfl,hco,_⟩:=ho
  have hfew:=hn.few
  have hsome:=hn.some_
  obtain ⟨hf1,hf2⟩:=limF_le ns.length hsome hfew
  have h64:os.length≤64:=by omega
  clear hX hn hlim hos hl
  obtain ⟨b0,b1,b2⟩:=bcells3 HB0.out
  go_enter Tryz.func66,Tryz.ntmps66
  go_wp2_with fail
  rw [← HX.out]
  refine (limits_any ns _ X HM.out HN.out).mono ?_
  rintro e W1 ⟨g,rfl,hg,hM1,hb1⟩
  have HE1:=Lib.hid hb1
  have HM1:=Lib.hid (show MapI W1 g (roomI ns (fun n=>limF ns.length-(os.take 0).count n)) by simpa [roomI,limsI] using hM1)
  have HG:=Lib.hid hg
  clear hg hM1 hb1 b0 b1 b2
  obtain ⟨b0,b1,b2⟩:=bcells3 (HB0.out.ext HE1.out)
  go_wp2_with fail
  clear b0 b1 b2
  go_loopw [5,12] (fun _ i W=>∃ k:Nat,k≤os.length∧i=.int .i64 k∧MapI W g (roomI ns (fun n=>limF ns.length-(os.take k).count n))∧Below X.heap.size X W) (fun _ i _=>os.length-(intOf i).toNat)
  case atStart=>exact ⟨0,Nat.zero_le _,rfl,HM1.out,HE1.out⟩
  case round =>
    obtain ⟨k,hk,rfl,hM,hE⟩:=hrel
    have HE:=Lib.hid hE
    have HMk:=Lib.hid hM
    clear hE hM
    by_cases hlt:k<os.length
    · obtain ⟨o,ho⟩:∃ o,os[k]? = some o:=⟨_,List.getElem?_eq_getElem (by omega)⟩
      obtain ⟨b,off,c',hA,_,c0⟩:=(HO.out.ext HE.out).at_ ho
      injection hA with hA hn' hc'
      subst hA;subst hc'
      clear hn'
      have hons:=HOS.out o (List.mem_of_getElem? ho)
      have hz:(zeroValue 3).run Tryz.prog wr=.ok (.int .i64 0) wr:=by kernel_rfl
      have hget:=roomI_get (fun n=>limF ns.length-(os.take k).count n) o ns hons
      have hlk:=lookup_I (P:=Tryz.prog) (w:=wr) Tryz.underlying201 Tryz.underlying3 HMk.out (o:Int) hz
      rw [hget,Option.getD_some] at hlk
      obtain ⟨q,hq⟩:∃ q:Int,q=limF ns.length-(os.take k).count o:=⟨_,rfl⟩
      rw [← hq] at hlk
      have hcnt:((os.take (k+1)).count o:Int)=(os.take k).count o+1:=by
        rw [List.take_add_one,ho]
        simp [List.count_append]
      have hle:((os.take (k+1)).count o:Int)≤limF ns.length:=by
        refine Int.le_trans ?_ (HLI.out o)
        exact_mod_cast (List.take_sublist (k+1) os).count_le o
      have hq0:1≤q:=by omega
      have hq1:q≤103:=by omega
      have e1:IntKind.i64.wrap (q-1)=q-1:=by rw [IntWalk.i64_in _ (by omega)]
      obtain ⟨ob,hup,hMu⟩:=update_I (P:=Tryz.prog) (w:=wr) Tryz.underlying201 Tryz.underlying3 HMk.out (o:Int) (.int .i64 (q-1))
      have hset:setI (roomI ns (fun n=>limF ns.length-(os.take k).count n)) (o:Int) (.int .i64 (q-1))=roomI ns (fun n=>limF ns.length-(os.take (k+1)).count n):=by
        rw [roomI_set _ o _ ns HN.out.nodup hons]
        refine roomI_other _ _ ns fun n _=>?_
        by_cases hno:n=o
        · subst hno
          simp only [if_true]
          omega
        · have:(os.take (k+1)).count n=(os.take k).count n:=by
            rw [List.take_add_one,ho]
            have hno':o≠n:=fun e=>hno e.symm
            simp [List.count_append,List.count_cons,hno']
          simp [hno,this]
      rw [hset] at hMu
      have hget2:=roomI_get (fun n=>limF ns.length-(os.take (k+1)).count n) o ns hons
      have hz2:(zeroValue 3).run Tryz.prog (wr.putObj g ob)=.ok (.int .i64 0) (wr.putObj g ob):=by kernel_rfl
      have hlk2:=lookup_I (P:=Tryz.prog) (w:=wr.putObj g ob) Tryz.underlying201 Tryz.underlying3 hMu (o:Int) hz2
      rw [hget2,Option.getD_some,show limF ns.length-(os.take (k+1)).count o=q-1 by omega] at hlk2
      have HMu:=Lib.hid hMu
      have HEu:=Lib.hid (HE.out.trans (show Below X.heap.size wr (wr.putObj g ob) from ⟨rfl,rfl,rfl,by simp,fun i hi=>World.putObj_heap_other (by have:=HG.out;omega)⟩))
      have e2:IntKind.i64.wrap ((k:Int)+1)=(k:Int)+1:=by rw [IntWalk.i64_in _ (by omega)]
      have d1:decide ((k:Int)<(os.length:Int))=true:=by simp;omega
      have d2:decide (q-1<0)=false:=by simp;omega
      have q0:(0:Int)≤(k:Int):=by omega
      have q1:(k:Int)<(os.length:Int):=by omega
      clear ho hons hget hget2 hset hMu hq hcnt hle hz hz2
      go_wp2
      go_roundw
      case rel=>exact ⟨k+1,by omega,by go_num,HMu.out,HEu.out⟩
      case measure=>simp [intOf];omega
    · have d1:decide ((k:Int)<(os.length:Int))=false:=by simp;omega
      obtain ⟨b0,b1,b2⟩:=bcells3 (HB0.out.ext HE.out)
      have d3:((os.length:Int) == 64)=true:=by simp;have:=HL.out;omega
      have HRV:=Lib.hid (rvalid_yes ns _ wr (HM.out.ext HE.out) HN.out)
      go_wp2_with (first
        | (go_at_call 110;refine (rwithin_yes _ _ _ h1 h2 _).mono ?_;rintro e w' ⟨rfl,rfl⟩)
        | (go_at_call 111;refine HRV.out.mono ?_;rintro e W3 ⟨rfl,hb3⟩;have HE3:=Lib.hid (ext_call HE.out hb3);obtain ⟨x0,x1,x2⟩:=bcells3 (HB0.out.ext HE3.out);clear hb3))
      go_ret
      exact ⟨rfl,ext_call HE0.out HE3.out⟩
end
section
open Go.RowKit
theorem w12_yes (n lo hi:Int) (h1:lo≤n) (h2:n≤hi) (w:World):Calls Tryz.prog 115 #[.int .i64 n,.int .i64 lo,.int .i64 hi] w fun e w'=>e=.returned (.bool true)∧w=w':=by
  go_enter Tryz.func115,Tryz.ntmps115
  go_wp2
  go_ret
  exact ⟨by simp [h1,h2],rfl⟩
theorem w12_q (n lo hi:Int) (h1:lo≤n) (h2:n≤hi) (w:World):Calls Tryz.prog 115 #[.int .i64 n,.int .i64 lo,.int .i64 hi] w fun e w'=>e=.returned (.bool true)∧w'=w:=
  (w12_yes n lo hi h1 h2 w).mono fun _ _ ⟨a,b⟩=>⟨a,b.symm⟩
theorem v12_yes (ns:List Nat) (v:Value) (w:World) (hv:MemsAt w v ns) (hn:NodesOK ns):Calls Tryz.prog 151 #[v] w fun e w'=>e=.returned (.bool true)∧Below w.heap.size w w':=by
  have HV:=Lib.hid hv
  have HN:=Lib.hid hn
  obtain ⟨A,c,rfl,hc,_⟩:=hv
  have hfew:=hn.few
  have hsome:=hn.some_
  clear hn
  go_enter Tryz.func151,Tryz.ntmps151
  go_wp2_with (go_at_call 115;refine (w12_yes _ _ _ (by omega) (by omega) _).mono ?_;rintro e w' ⟨rfl,rfl⟩)
  go_loopw [3,4] (fun i _ W=>∃ k:Nat,k≤ns.length∧i=.int .i64 k∧Below w.heap.size w W) (fun i _ _=>ns.length-(intOf i).toNat)
  case atStart=>exact ⟨0,Nat.zero_le _,rfl,ext_refl w⟩
  case round=>
    obtain ⟨k,hk,rfl,hE⟩:=hrel
    have HE:=Lib.hid hE
    clear hE
    by_cases hlt:k<ns.length
    · obtain ⟨n,hn⟩:∃ n,ns[k]? = some n:=⟨_,List.getElem?_eq_getElem hlt⟩
      obtain ⟨b,off,c',hA,_,c0,c1,c2⟩:=(HV.out.ext HE.out).at_ hn
      injection hA with hA hn' hc'
      subst hA;subst hc'
      clear hn'
      have hn24:n<24:=HN.out.below n (List.mem_of_getElem? hn)
      have e2:IntKind.i64.wrap ((k:Int)+1)=(k:Int)+1:=by rw [IntWalk.i64_in _ (by omega)]
      have d1:decide ((k:Int)<(ns.length:Int))=true:=by simp;omega
      have q0:(0:Int)≤(k:Int):=by omega
      have q1:(k:Int)<(ns.length:Int):=by omega
      have HE2:=Lib.hid (ext_alloc HE.out (.cells #[.int .i64 n,.int .i64 0,.int .i64 1] 145))
      by_cases hk0:k=0
      · subst hk0
        simp only [Nat.zero_mul,Nat.add_zero] at c0 c1 c2
        clear hn
        go_upto_region 7 with (fail)
        go_quiet (first|(go_at_call 115;refine Calls.quiet_of_same (w12_q _ _ _ (by omega) (by omega) _)))
        go_wp2
        go_roundw
        case rel=>exact ⟨1,by omega,by go_num,ext_drewN HE2.out nq⟩
        case measure=>simp [intOf];omega
      · obtain ⟨m,rfl⟩:∃ m,k=m+1:=⟨k-1,by omega⟩
        have hm:ns[m]? = some ns[m]:=List.getElem?_eq_getElem (by omega)
        have hmn:ns[m]<n:=HN.out.asc m _ _ hm hn
        obtain ⟨b',off',c',hA,_,p0,_,_⟩:=(HV.out.ext HE.out).at_ hm
        injection hA with hA hn' hc'
        injection hA with hA
        injection hA with hb ho _
        subst hb;subst ho
        generalize ns[m]=pn at *
        have d3:decide ((0:Int)<((m+1:Nat):Int))=true:=by simp
        have p1:=cell_ext p0 (ext_new wr (.cells #[.int .i64 n,.int .i64 0,.int .i64 1] 145))
        have e3:IntKind.i64.wrap (m:Int)=(m:Int):=IntWalk.i64_in _ (by omega)
        have q3:(m:Int)<(ns.length:Int):=by omega
        have d4:decide ((n:Int)≤(pn:Int))=false:=by simp;omega
        clear hn hm hk0
        go_upto_region 7 with (fail)
        go_quiet (first|(go_at_call 115;refine Calls.quiet_of_same (w12_q _ _ _ (by omega) (by omega) _)))
        go_wp2
        go_roundw
        case rel=>exact ⟨m+2,by omega,by go_num,ext_drewN HE2.out nq⟩
        case measure=>simp [intOf];omega
    · have d1:decide ((k:Int)<(ns.length:Int))=false:=by simp;omega
      go_wp2
      go_ret
      exact ⟨rfl,HE.out⟩
end
section
open Go.RowKit
def ownF (ns:List Nat) (o k:Nat):Int:=if o ∈ ns.take k then 1 else 0
theorem ownF_hit (ns:List Nat) (o k:Nat) (h:ns[k]? = some o):ownF ns o (k+1)=1:=by
  unfold ownF
  rw [List.take_add_one,h]
  simp
theorem ownF_miss (ns:List Nat) (o k n:Nat) (h:ns[k]? = some n) (hne:n≠o):ownF ns o (k+1)=ownF ns o k:=by
  unfold ownF
  rw [List.take_add_one,h]
  have:o≠n:=fun e=>hne e.symm
  simp [this]
theorem ownF_all (ns:List Nat) (o:Nat) (h:o ∈ ns):ownF ns o ns.length=1:=by
  unfold ownF
  rw [List.take_length,if_pos h]
theorem limit12 (ns:List Nat) (o:Nat) (v:Value) (w:World) (hv:MemsAt w v ns) (hn:NodesOK ns) (ho:o ∈ ns) :
    Calls Tryz.prog 155 #[v,.int .i64 o] w fun e w'=>e=.returned (.int .i64 (limF ns.length))∧Below w.heap.size w w':=by
  have HV:=Lib.hid hv
  have HRV:=Lib.hid (v12_yes ns v w hv hn)
  have HO:=Lib.hid ho
  obtain ⟨A,c,rfl,hc,_⟩:=hv
  have hfew:=hn.few
  have hsome:=hn.some_
  clear hn ho
  go_enter Tryz.func155,Tryz.ntmps155
  go_wp2_with fail
  refine HRV.out.mono ?_
  rintro e W1 ⟨rfl,hb1⟩
  have HE1:=Lib.hid hb1
  clear hb1
  go_wp2_with fail
  go_loop [5,6,7] (fun s own i=>∃ k:Nat,k≤ns.length∧i=.int .i64 k∧s=.int .i64 k∧own=.int .i64 (ownF ns o k)) (fun _ _ i=>ns.length-(intOf i).toNat)
  case atStart=>exact ⟨0,Nat.zero_le _,rfl,rfl,by simp [ownF]⟩
  case round=>
    obtain ⟨k,hk,rfl,rfl,rfl⟩:=hrel
    by_cases hlt:k<ns.length
    · obtain ⟨n,hn⟩:∃ n,ns[k]? = some n:=⟨_,List.getElem?_eq_getElem hlt⟩
      obtain ⟨b,off,c',hA,_,c0,c1,c2⟩:=(HV.out.ext HE1.out).at_ hn
      injection hA with hA hn' hc'
      subst hA;subst hc'
      clear hn'
      have HN:=Lib.hid hn
      have e2:IntKind.i64.wrap ((k:Int)+1)=(k:Int)+1:=by rw [IntWalk.i64_in _ (by omega)]
      have d1:decide ((k:Int)<(ns.length:Int))=true:=by simp;omega
      have q0:(0:Int)≤(k:Int):=by omega
      have q1:(k:Int)<(ns.length:Int):=by omega
      by_cases hno:n=o
      · have d2:((n:Int) == (o:Int))=true:=by simp [hno]
        have HNO:=Lib.hid hno
        clear hno hn
        go_wp2
        go_round
        case rel=>exact ⟨k+1,by omega,by go_num,by go_num,by rw [ownF_hit ns o k (by rw [← HNO.out];exact HN.out)]⟩
        case measure=>simp [intOf];omega
      · have d2:((n:Int) == (o:Int))=false:=by simp;omega
        have HNO:=Lib.hid hno
        clear hno hn
        go_wp2
        go_round
        case rel=>exact ⟨k+1,by omega,by go_num,by go_num,by rw [ownF_miss ns o k n HN.out HNO.out]⟩
        case measure=>simp [intOf];omega
    · have d1:decide ((k:Int)<(ns.length:Int))=false:=by simp;omega
      obtain rfl:k=ns.length:=by omega
      rw [ownF_all ns o HO.out]
      go_wp2
      go_ret
      exact ⟨rfl,HE1.out⟩
end
section
open Go.RowKit Go.Shelf
theorem keepN {X W W':World} {p:Addr} {u:Value} (h:W.cell? p=some u∧Below X.heap.size X W) (hb:Below W.heap.size W W'):W'.cell? p=some u∧Below X.heap.size X W':=⟨cell_ext h.1 hb,ext_call h.2 hb⟩
theorem spot_info:(Tryz.prog.info? 253).map (fun i=>(i.zero,i.size,i.bytes))=some (some (.agg #[.int .i64 0,.int .i64 0]),2,16):=by kernel_rfl
theorem sz1 (s:ByteArray) (h:s.size≤2):(⟨#[110,111,100,101,32]⟩:ByteArray).size+s.size≤9223372036854775807:=by
  have e1:(⟨#[110,111,100,101,32]⟩:ByteArray).size=5:=rfl
  omega
theorem sf1 (s:ByteArray) (h:s.size≤2):¬ 9223372036854775807<5+s.size:=by omega
theorem sf2 (s:ByteArray) (h:s.size≤2):¬ 9223372036854775807<5+s.size+1:=by omega
theorem sf3 (s t:ByteArray) (h:s.size≤2) (k:t.size≤2):¬ 9223372036854775807<5+s.size+1+t.size:=by omega
theorem sz2 (s:ByteArray) (h:s.size≤2):((⟨#[110,111,100,101,32]⟩:ByteArray)++s).size+(⟨#[32]⟩:ByteArray).size≤9223372036854775807:=by
  have e1:(⟨#[110,111,100,101,32]⟩:ByteArray).size=5:=rfl
  have e2:(⟨#[32]⟩:ByteArray).size=1:=rfl
  rw [ByteArray.size_append]
  omega
theorem sz3 (s t:ByteArray) (h:s.size≤2) (k:t.size≤2):(((⟨#[110,111,100,101,32]⟩:ByteArray)++s)++(⟨#[32]⟩:ByteArray)).size+t.size≤9223372036854775807:=by
  have e1:(⟨#[110,111,100,101,32]⟩:ByteArray).size=5:=rfl
  have e2:(⟨#[32]⟩:ByteArray).size=1:=rfl
  rw [ByteArray.size_append,ByteArray.size_append]
  omega
theorem sz4 (s t:ByteArray) (h:s.size≤2) (k:t.size≤2):((((⟨#[110,111,100,101,32]⟩:ByteArray)++s)++(⟨#[32]⟩:ByteArray))++t).size≤100000:=by
  have e1:(⟨#[110,111,100,101,32]⟩:ByteArray).size=5:=rfl
  have e2:(⟨#[32]⟩:ByteArray).size=1:=rfl
  rw [ByteArray.size_append,ByteArray.size_append,ByteArray.size_append]
  omega
theorem cells_two_new (w:World) (u v:Value) (t:TypeId):∀ (j:Nat) (x:Value),[u,v][j]? = some x→(w.alloc (.cells #[u,v] t)).cell? ((⟨w.heap.size,0,none⟩:Addr).add j)=some x:=by
  intro j x h
  rw [add_lit0]
  have hb:=Blk.new w t #[u,v]
  match j,h with
  | 0,h=>simp at h;subst h;exact hb.cell 0
  | 1,h=>simp at h;subst h;exact hb.cell 1
  | (j+2),h=>simp at h
theorem insFacts (ns:List Nat) (i k q n:Nat) (p:Int) (xs:List (Int × Nat)) (hn:ns[i]? = some n)
    (h:xs.length=4*i+k∧(∀ x ∈ xs,x.2 ∈ ns)∧(∀ n ∈ ns.take i,∃ x ∈ xs,x.2=n)∧(0<k→∀ n,ns[i]? = some n→∃ x ∈ xs,x.2=n)) (hq:q≤xs.length) :
    (xs.take q++(p,n)::xs.drop q).length=4*i+(k+1)∧(∀ x ∈ xs.take q++(p,n)::xs.drop q,x.2 ∈ ns)∧(∀ n' ∈ ns.take i,∃ x ∈ xs.take q++(p,n)::xs.drop q,x.2=n')∧(0<k+1→∀ n',ns[i]? = some n'→∃ x ∈ xs.take q++(p,n)::xs.drop q,x.2=n'):=by
  obtain ⟨h1,h2,h3,_⟩:=h
  have hmem:∀ x,x ∈ xs→x ∈ xs.take q++(p,n)::xs.drop q:=fun x hx=>by
    rw [← List.take_append_drop q xs,List.mem_append] at hx
    rw [List.mem_append,List.mem_cons]
    rcases hx with h|h
    · exact .inl h
    · exact .inr (.inr h)
  refine ⟨by simp;omega,fun x hx=>?_,fun n' hn'=>?_,fun _ n' hn'=>⟨(p,n),by simp,?_⟩⟩
  · rw [List.mem_append,List.mem_cons] at hx
    rcases hx with h|rfl|h
    · exact h2 x (List.mem_of_mem_take h)
    · exact List.mem_of_getElem? hn
    · exact h2 x (List.mem_of_mem_drop h)
  · obtain ⟨x,hx,e⟩:=h3 n' hn'
    exact ⟨x,hmem x hx,e⟩
  · rw [hn] at hn'
    injection hn'
def SpotsI (w:World) (ns:List Nat) (i k:Nat) (v:Value) (W:World):Prop:=∃ xs:List (Int × Nat),
  W.ownsRow w.heap.size 253 2 v xs.length (pc xs)∧Below w.heap.size w W∧Hid (xs.length=4*i+k∧(∀ x ∈ xs,x.2 ∈ ns)∧(∀ n ∈ ns.take i,∃ x ∈ xs,x.2=n)∧(0<k→∀ n,ns[i]? = some n→∃ x ∈ xs,x.2=n))
theorem spots_any (ns : List Nat) (v : Value) (w : World) (hv : MemsAt w v ns) (hn : NodesOK ns) : Calls Tryz.prog 152 #[v] w fun e w' => (∃ u, e = .returned u ∧ SpotsI w ns ns.length 0 u w') := by
  have HV:=Lib.hid hv
  have HN:=Lib.hid hn
  obtain ⟨A,c,rfl,hc,_⟩:=hv
  have hfew:=hn.few
  clear hn
  obtain ⟨is,his,hzs0,hzs1,hzs2⟩:=info_parts spot_info
  go_enter Tryz.func152,Tryz.ntmps152
  go_wp2
  go_loopw [3,4,5,6,7] (fun o i _ _ _ W=>∃ k:Nat,k≤ns.length∧i=.int .i64 k∧SpotsI w ns k 0 o W) (fun _ i _ _ _ _=>ns.length-(intOf i).toNat)
  case atStart=>exact ⟨0,Nat.zero_le _,rfl,[],World.ownsRow_nil _ _ _ _,ext_refl w,⟨rfl,(fun x h=>by cases h),(fun n h=>by simp at h),(fun h=>absurd h (by omega))⟩⟩
  case round =>
    obtain ⟨i,hi,rfl,hS⟩:=hrel
    have HS:=Lib.hid hS
    clear hS
    by_cases hlt:i<ns.length
    · obtain ⟨n, hn⟩ : ∃ n, ns[i]? = some n := ⟨_, List.getElem?_eq_getElem hlt⟩
      have hn24:n<24:=HN.out.below n (List.mem_of_getElem? hn)
      have HNN:=Lib.hid hn
      have d1:decide ((i:Int)<(ns.length:Int))=true:=by simp;omega
      have q0:(0:Int)≤(i:Int):=by omega
      have q1:(i:Int)<(ns.length:Int):=by omega
      clear hn
      go_wp2
      go_loopw [3,5,6,7] (fun o j _ _ W=>∃ k:Nat,k≤4∧j=.int .i64 k∧SpotsI w ns i k o W) (fun _ j _ _ _=>4-(intOf j).toNat)
      case atStart=>exact ⟨0,by omega,rfl,HS.out⟩
      case round =>
        obtain ⟨k,hk,rfl,hS⟩:=hrel
        obtain ⟨xs,hown,hE,hX⟩:=hS
        have HLen:=Lib.hid (show xs.length≤100 by have:=hX.out.1;omega)
        have HO:=Lib.hid hown
        have HE:=Lib.hid hE
        clear hown hE
        obtain ⟨b,off,c',hA,_,c0,c1,c2⟩:=(HV.out.ext HE.out).at_ HNN.out
        injection hA with hA hn' hc'
        subst hA;subst hc'
        clear hn'
        by_cases hk4:k<4
        · have d2 : decide ((k : Int) < 4) = true := by simp; omega
          go_upto_region 8 with (fail)
          go_cut [6] from 24 to 41 (fun x W=>∃ (bx:Nat) (p:Int),x=.pointer (some ⟨bx,0,none⟩)∧wr.heap.size≤bx∧Blk W bx 253 #[.int .i64 p,.int .i64 n]∧Below wr.heap.size wr W)
          case first =>
            have c0x:=cell_ext c0 (ext_new wr (.cells #[.int .i64 0,.int .i64 0] 253))
            refine wp_region_noPanic ?_
            go_region_law (first
              | (go_simp;go_at_call 153;(with_reducible refine (point12_any _ _ hh4).mono ?_);rintro e w' ⟨⟨z,rfl⟩,rfl⟩)
              | (go_simp;go_at_call 154;(with_reducible refine (digits_any n (by omega) _).mono ?_);rintro e W1 ⟨⟨s1,rfl,hz1⟩,hb1⟩;have hh1:=sz1 s1 hz1;have hh2:=sz2 s1 hz1;have hf1:=sf1 s1 hz1;have hf2:=sf2 s1 hz1;
                  have c0a:W1.cell? ⟨b,off+i*3,none⟩=some (.int .i64 n):=cell_ext (by first|exact c0|exact c0x|exact cell_ext c0 (ext_new _ _)) hb1;
                  have c0ax:=cell_ext c0a (ext_new W1 (.cells #[.int .i64 0,.int .i64 0] 253));
                  have hE1:Below wr.heap.size wr W1:=ext_call (by first|exact ext_refl wr|exact ext_new wr _|exact (ext_refl wr).drew|exact (ext_new wr _).drew) hb1;
                  first|(have hxa:Blk W1 wr.heap.size 253 #[.int .i64 0,.int .i64 0]:=Blk.ext (W:=(wr.alloc (.cells #[.int .i64 0,.int .i64 0] 253)).drew) (show Blk (wr.alloc (.cells #[.int .i64 0,.int .i64 0] 253)) wr.heap.size 253 #[.int .i64 0,.int .i64 0] from Blk.new wr _ _) hb1)|skip)
              | (go_simp;go_at_call 154;(with_reducible refine (digits_any k (by omega) _).mono ?_);rintro e W2 ⟨⟨s2,rfl,hz2⟩,hb2⟩;have hh3:=sz3 s1 s2 hz1 hz2;have hf3:=sf3 s1 s2 hz1 hz2;have hh4:=sz4 s1 s2 hz1 hz2;
                  have c0b:W2.cell? ⟨b,off+i*3,none⟩=some (.int .i64 n):=cell_ext (by first|exact c0a|exact c0ax|exact cell_ext c0a (ext_new _ _)) hb2;
                  have hE2:Below wr.heap.size wr W2:=ext_call (by first|exact hE1|exact ext_alloc hE1 _) hb2;
                  have c0c:=cell_ext c0b (ext_new W2 (.cells #[.int .i64 0,.int .i64 0] 253));
                  first
                    | (have hxb:Blk W2 wr.heap.size 253 #[.int .i64 0,.int .i64 0]:=hxa.ext hb2;have bx0:=hxb.cell 0;have bx1:=hxb.cell 1;have bf0:=hxb.frozen 0;have bf1:=hxb.frozen 1)
                    | (have hxb:Blk W2 W1.heap.size 253 #[.int .i64 0,.int .i64 0]:=Blk.ext (W:=W1.alloc (.cells #[.int .i64 0,.int .i64 0] 253)) (Blk.new W1 _ _) hb2;have bx0:=hxb.cell 0;have bx1:=hxb.cell 1;have bf0:=hxb.frozen 0;have bf1:=hxb.frozen 1)
                    | skip))
            all_goals
              refine NoPanic.normal ?_
              go_wp2_with fail
              go_meet
              case rel=>
                first
                  | exact ⟨_,_,rfl,by first|exact Nat.le_refl _|exact hE1.size|exact hE2.size,(hxb.set_ 0 _).set_ 1 _,ext_set (ext_set hE2 (by first|exact Nat.le_refl _|exact hE1.size) _) (by first|exact Nat.le_refl _|exact hE1.size) _⟩
                  | exact ⟨_,_,rfl,hE2.size,((Blk.new W2 _ _).set_ 0 _).set_ 1 _,ext_set (ext_set (ext_alloc hE2 _) hE2.size _) hE2.size _⟩
                  | exact ⟨_,_,rfl,hE2.size,Blk.new W2 _ _,ext_alloc hE2 _⟩
          case rest =>
            obtain ⟨bx,p,rfl,hbx,hB,hEc⟩:=hcut
            obtain ⟨A3,cap3,hu3⟩:=own_shape HO.out
            subst hu3
            have HNe:=Lib.hid (show some bx≠(Value.slice A3 xs.length cap3).ownBlock from fun e=>by have:=(HO.out.lt bx e.symm).2;omega)
            have HO2:=Lib.hid (own_below HO.out hEc)
            have HB2:=Lib.hid hB
            have HE2:=Lib.hid (ext_call HE.out hEc)
            have HXX:=Lib.hid hX.out
            generalize wc=wd at *
            clear hB hEc hX c0 c1 c2 HO HE d2
            go_upto_block 4 with (fail)
            go_cut [7] from 44 to 58 (fun a W=>∃ q:Nat,q≤xs.length∧a=.int .i64 q∧W.ownsRow w.heap.size 253 2 (.slice A3 xs.length cap3) xs.length (pc xs)∧Blk W bx 253 #[.int .i64 p,.int .i64 n]∧Below w.heap.size w W)
            case first=>
              go_wp2_with fail
              go_loopw [7] (fun a W=>∃ q:Nat,q≤xs.length∧a=.int .i64 q∧W.ownsRow w.heap.size 253 2 (.slice A3 xs.length cap3) xs.length (pc xs)∧Blk W bx 253 #[.int .i64 p,.int .i64 n]∧Below w.heap.size w W) (fun a _=>(intOf a).toNat)
              case atStart=>exact ⟨xs.length,Nat.le_refl _,rfl,HO2.out,HB2.out,HE2.out⟩
              case round=>
                obtain ⟨q,hq,rfl,ho,hB,hE⟩:=hrel
                have HO4:=Lib.hid ho
                have HB4:=Lib.hid hB
                have HE4:=Lib.hid hE
                have x0:=hB.cell 0
                by_cases hq0:q=0
                · subst hq0
                  have d3:decide ((0:Int)<((0:Nat):Int))=false:=by simp
                  clear ho hB hE
                  go_wp2_with fail
                  go_quiet (fail)
                  go_wp2_with fail
                  go_meet
                  case rel=>exact ⟨0,Nat.zero_le _,rfl,own_below HO4.out (below_drewN (Below.refl _ _) nq),HB4.out.ext (below_drewN (Below.refl _ _) nq),ext_drewN HE4.out nq⟩
                · obtain ⟨m,rfl⟩:∃ m,q=m+1:=⟨q-1,by omega⟩
                  obtain ⟨y,hy⟩:∃ y,xs[m]? = some y:=⟨_,List.getElem?_eq_getElem (by omega)⟩
                  obtain ⟨g3,c3',hA3,_,_⟩:=ho.form (by omega)
                  injection hA3 with hA3 _ hc3
                  subst hA3;subst hc3
                  have hy0:=(SpotRow.cell (show SpotRow wr w.heap.size g3 cap3 xs from ho) hy).1
                  have d3:decide ((0:Int)<((m+1:Nat):Int))=true:=by simp
                  have e3:IntKind.i64.wrap (m:Int)=(m:Int):=IntWalk.i64_in _ (by have:=HLen.out;omega)
                  have q3:(m:Int)<(xs.length:Int):=by omega
                  have q4:(0:Int)≤(m:Int):=by omega
                  obtain ⟨y1,hy1⟩:∃ y1,y1=y.1:=⟨_,rfl⟩
                  rw [← hy1] at hy0
                  clear ho hB hE hq0 hy1 hy
                  by_cases hp:p<y1
                  · have d4:decide (p<y1)=true:=by simp [hp]
                    go_wp2_with fail
                    go_quiet (fail)
                    go_wp2_with fail
                    go_roundw
                    case rel=>exact ⟨m,by omega,by go_num,own_below HO4.out (below_drewN (Below.refl _ _) nq),HB4.out.ext (below_drewN (Below.refl _ _) nq),ext_drewN HE4.out nq⟩
                    case measure=>simp [intOf];try omega
                  · have d4:decide (p<y1)=false:=by simp;omega
                    go_wp2_with fail
                    go_quiet (fail)
                    go_wp2_with fail
                    go_meet
                    case rel=>exact ⟨m+1,by omega,by go_num,own_below HO4.out (below_drewN (Below.refl _ _) nq),HB4.out.ext (below_drewN (Below.refl _ _) nq),ext_drewN HE4.out nq⟩
            case rest =>
              obtain ⟨q,hq,rfl,ho3,hB3,hE3⟩:=hcut
              generalize wc=we at *
              have HO3:=Lib.hid ho3
              have HB3:=Lib.hid hB3
              have HE3:=Lib.hid hE3
              have x0:=hB3.cell 0
              have x1:=hB3.cell 1
              have hxl:=HLen.out
              have hws:=hE3.size
              have hbw:=hB3.lt
              clear ho3 hB3 hE3 HO2 HB2 HE2
              go_wp2_with (at_builtin;refine wpList_append_own _ rfl (.tmp 59) (.tmp 61) 248 rfl w.heap.size 253 is (.agg #[.int .i64 0,.int .i64 0]) 2 16 Tryz.underlying248 his hzs0 hzs1 hzs2 rfl (by decide) (.slice A3 xs.length cap3) xs.length (pc xs) rfl (HO3.out.alloc _) ⟨we.heap.size,0,none⟩ 1 1 [.int .i64 p,.int .i64 n] rfl rfl (cells_two_new _ _ _ _) ?_ ?_ ?_ ?_ ?_;(simp [Value.oneCell']);(unfold maxLen;omega);omega;(rw [World.size_alloc];omega);intro v4 W4 ho4 hg4 _)
              obtain ⟨g5,c5,hv5,_,_⟩:=ho4.form (by omega)
              subst hv5
              have hsr:SpotRow W4 w.heap.size g5 c5 (xs++[(p,n)]):=by
                unfold SpotRow
                rw [pc_append,List.length_append]
                exact ho4
              have hcap:xs.length+1≤c5:=by
                obtain ⟨_,_,_,h,_⟩:=hsr.block
                simpa using h
              have HB5:=Lib.hid (show Blk W4 bx 253 #[.int .i64 p,.int .i64 n] from (hg4.block bx (by rw [World.size_alloc];omega) HNe.out).trans (HB3.out.alloc _))
              have HE5:=Lib.hid (show Below w.heap.size w W4 from (ext_alloc HE3.out (.cells #[.int .i64 p,.int .i64 n] 253)).grown hg4 (ext_alloc HE3.out (.cells #[.int .i64 p,.int .i64 n] 253)).size (fun k e=>((HO3.out.alloc (.cells #[.int .i64 p,.int .i64 n] 253)).lt k e).1))
              have HSR:=Lib.hid hsr
              clear hsr ho4 hg4 x0 x1 HO3 HB3 HE3
              by_cases hqm:q<xs.length
              · obtain ⟨W5,hrun,hsr5,hg5⟩:=(show SpotRow W4.drew w.heap.size g5 c5 (xs++[(p,n)]) from HSR.out).shift (n:=xs.length) (by simp) hqm
                have HS5:=Lib.hid hsr5
                have HG5:=Lib.hid hg5
                have e5:IntKind.i64.wrap ((q:Int)+1)=(q:Int)+1:=by rw [IntWalk.i64_in _ (by omega)]
                clear hsr5 hg5
                have e6:xs.length+1-(q+1)=xs.length-q:=by omega
                rw [e6] at hrun
                have hne:bx≠g5:=by
                  rintro rfl
                  obtain ⟨_,cur,hg,_,_,hcz,_⟩:=HSR.out.block
                  have hb:=HB5.out
                  unfold Blk at hb
                  rw [hg] at hb
                  injection hb with hb
                  injection hb with hb
                  rw [hb] at hcz
                  simp at hcz
                  omega
                have HB6:=Lib.hid (show Blk W5 bx 253 #[.int .i64 p,.int .i64 n] from (HG5.out.block bx HB5.out.lt (fun e=>hne (by injection e))).trans HB5.out)
                have x0:=HB6.out.cell 0
                have x1:=HB6.out.cell 1
                have hyl:q<((xs++[(p,n)]).take (q+1)++((xs++[(p,n)]).drop q).take (xs.length-q)).length:=by simp;omega
                obtain ⟨y0,y1⟩:=HS5.out.cell (List.getElem?_eq_getElem hyl)
                generalize (((xs++[(p,n)]).take (q+1)++((xs++[(p,n)]).drop q).take (xs.length-q))[q])=yy at y0 y1
                have f0:=HS5.out.frozen (q*2)
                have f1:=HS5.out.frozen (q*2+1)
                have q6:(0:Int)≤(q:Int):=by omega
                have q7:(q:Int)<(xs.length:Int)+1:=by omega
                have HYL:=Lib.hid hyl
                clear hne hyl e6
                go_upto_region 13 with (fail)
                go_region
                all_goals
                  go_wp2
                  go_roundw
                  case rel=>
                    have hput:=HS5.out.put HYL.out (p,n)
                    rw [insert_mid xs (p,n) q hqm] at hput
                    have hfx:=insFacts ns i k q n p xs HNN.out HXX.out hq
                    refine ⟨k+1,by omega,by go_num,xs.take q++(p,n)::xs.drop q,?_,?_,hfx⟩
                    · unfold SpotRow at hput
                      have hl:(xs.take q++(p,n)::xs.drop q).length=xs.length+1:=by simp;omega
                      rw [hl] at hput ⊢
                      exact hput
                    · exact ext_set (ext_set ((HE5.out.drew).grown HG5.out HE5.out.size (fun k e=>by injection e with e;rw [← e];exact HSR.out.block.1)) HSR.out.block.1 _) HSR.out.block.1 _
                  case measure=>simp [intOf];omega
              · obtain rfl:q=xs.length:=by omega
                have hrun0:=fun (dp:Option Addr) (dCap:Nat) (a:Addr) (sLen sCap:Nat)=>run_copy_0 (P:=Tryz.prog) W4.drew 248 248 3 253 dp dCap a sLen sCap Tryz.underlying248 (by kernel_rfl)
                have e5:IntKind.i64.wrap ((xs.length:Int)+1)=(xs.length:Int)+1:=by rw [IntWalk.i64_in _ (by omega)]
                have x0:=HB5.out.cell 0
                have x1:=HB5.out.cell 1
                obtain ⟨y0,y1⟩:=HSR.out.cell (k:=xs.length) (x:=(p,n)) (by simp)
                have f0:=HSR.out.frozen (xs.length*2)
                have f1:=HSR.out.frozen (xs.length*2+1)
                have q6:(0:Int)≤(xs.length:Int):=by omega
                by_cases hcc:c5=xs.length+1
                all_goals
                  go_upto_region 13 with (fail)
                  go_region
                  all_goals
                    go_wp2
                    go_roundw
                    case rel=>
                      have hput:=(show SpotRow W4.drew w.heap.size g5 c5 (xs++[(p,n)]) from HSR.out).put (k:=xs.length) (by simp) (p,n)
                      rw [insert_last xs (p,n)] at hput
                      have hfx:=insFacts ns i k xs.length n p xs HNN.out HXX.out (Nat.le_refl _)
                      refine ⟨k+1,by omega,by go_num,xs.take xs.length++(p,n)::xs.drop xs.length,?_,?_,hfx⟩
                      · unfold SpotRow at hput
                        have hl:(xs.take xs.length++(p,n)::xs.drop xs.length).length=xs.length+1:=by simp
                        rw [hl] at hput ⊢
                        exact hput
                      · exact ext_set (ext_set (HE5.out.drew) HSR.out.block.1 _) HSR.out.block.1 _
                    case measure=>simp [intOf];omega
        · have d2:decide ((k:Int)<4)=false:=by simp;omega
          have hx:=hX.out
          obtain rfl:k=4:=by omega
          have hfx:xs.length=4*(i+1)+0∧(∀ x ∈ xs,x.2 ∈ ns)∧(∀ n ∈ ns.take (i+1),∃ x ∈ xs,x.2=n)∧(0<0→∀ n,ns[i+1]? = some n→∃ x ∈ xs,x.2=n):=by
            obtain ⟨h1,h2,h3,h4⟩:=hx
            refine ⟨by omega,h2,fun n' hn'=>?_,fun h=>absurd h (by omega)⟩
            rw [List.take_add_one,HNN.out] at hn'
            rcases List.mem_append.1 hn' with h|h
            · exact h3 n' h
            · simp at h
              subst h
              exact h4 (by omega) _ HNN.out
          have HFX:=Lib.hid hfx
          have e2:IntKind.i64.wrap ((i:Int)+1)=(i:Int)+1:=by rw [IntWalk.i64_in _ (by omega)]
          clear hx hfx hX
          go_wp2
          go_roundw
          case rel=>exact ⟨i+1,by omega,by go_num,xs,HO.out,HE.out,HFX.out⟩
          case measure=>simp [intOf];omega
    · have d1:decide ((i:Int)<(ns.length:Int))=false:=by simp;omega
      obtain rfl:i=ns.length:=by omega
      go_wp2
      go_ret
      exact ⟨_,rfl,HS.out⟩
end
section
open Go.RowKit Go.Shelf
def loadC (os:List Nat):Array Value:=((List.range 24).map fun n=>Value.int .i64 (os.count n:Int)).toArray
def AssI (X:World) (gl:Nat) (ns os:List Nat) (k:Nat) (v:Value) (W:World):Prop:=
  Ext2 gl gl X W∧Blk W gl 3 (loadC os)∧W.ownsRow X.heap.size 3 1 v os.length (os.map fun n:Nat=>Value.int .i64 (n:Int))∧Hid (os.length=k∧(∀ o ∈ os,o ∈ ns)∧∀ n,(os.count n:Int)≤limF ns.length)
theorem cyc (f t m:Nat) (ht:t<m):(f+(t+m-f % m) % m) % m=t:=by
  have h1:f % m<m:=Nat.mod_lt _ (by omega)
  rw [Nat.add_mod,Nat.mod_mod]
  rcases Nat.lt_or_ge t (f % m) with h|h
  · rw [Nat.mod_eq_of_lt (a:=t+m-f % m) (by omega),show f % m+(t+m-f % m)=t+m by omega,Nat.add_mod_right,Nat.mod_eq_of_lt ht]
  · rw [show t+m-f % m=(t-f % m)+m by omega,Nat.add_mod_right,Nat.mod_eq_of_lt (a:=t-f % m) (by omega),show f % m+(t-f % m)=t by omega,Nat.mod_eq_of_lt ht]
theorem limF_all (m:Nat) (h0:0<m) (h1:m≤24):64≤m*(limF m).toNat:=by
  have:∀ m:Fin 25,0<m.val→64≤m.val*(limF m.val).toNat:=by decide
  exact this ⟨m,by omega⟩ h0
theorem keepNB {X W:World} {p:Addr} {u:Value} (h:W.cell? p=some u∧Below X.heap.size X W):Below X.heap.size X W:=h.2
theorem loadC_get (os:List Nat) (o:Nat) (h:o<24):(loadC os)[o]? = some (.int .i64 (os.count o:Int)):=by
  unfold loadC
  simp [h]
theorem loadC_set (os:List Nat) (o:Nat) (h:o<24):loadC (os++[o])=(loadC os).setIfInBounds o (.int .i64 ((os.count o:Int)+1)):=by
  apply Array.ext'
  apply List.ext_getElem?
  intro i
  unfold loadC
  simp only [Array.toList_setIfInBounds,List.getElem?_map,List.getElem?_set,List.length_map,List.length_range,List.getElem?_range']
  by_cases hi:i<24
  · by_cases ho:o=i
    · subst ho
      simp [h,List.count_append]
    · simp [hi,ho,List.count_append,List.count_cons]
  · have:¬ o=i:=by omega
    simp [hi,this]
theorem AssI.ext {X W W':World} {gl k:Nat} {ns os:List Nat} {v:Value} (h:AssI X gl ns os k v W) (hb:Below W.heap.size W W'):AssI X gl ns os k v W':=⟨h.1.ext hb,h.2.1.ext hb,own_below h.2.2.1 hb,h.2.2.2⟩
theorem grown_set (w:World) (g i:Nat) (u:Value):w.grownBy (w.setCell ⟨g,i,none⟩ u) (some g):=⟨rfl,rfl,rfl,by simp [World.setCell],fun k _ hk=>Below.heap_setCell w ⟨g,i,none⟩ u k (fun e=>hk (by rw [e]))⟩
theorem AssI.ownSet {X W:World} {gl k:Nat} {ns os:List Nat} {v u:Value} {i:Nat} (h:AssI X gl ns os k v W) (hgl:gl<X.heap.size) :
    (W.setCell ⟨gl,i,none⟩ u).ownsRow X.heap.size 3 1 v os.length (os.map fun n:Nat=>Value.int .i64 (n:Int)):=by
  refine h.2.2.1.kept (grown_set W gl i u) ?_
  cases hv:v.ownBlock with
  | none=>exact .inl rfl
  | some b=>
    refine .inr fun e=>?_
    have:=(h.2.2.1.lt b hv).1
    injection e with e
    omega
theorem AssI.step {X W W7:World} {gl k:Nat} {ns os:List Nat} {o cn:Nat} {v v7:Value} (h:AssI X gl ns os k v W) (hgl:gl<X.heap.size) (ho:o ∈ ns) (ho24:o<24) (hcn:cn=os.count o) (hlt:(cn:Int)<limF ns.length) (obj:Obj)
    (ho7:W7.ownsRow X.heap.size 3 1 v7 (os.length+1) ((os.map fun n:Nat=>Value.int .i64 (n:Int))++[.int .i64 (o:Int)]))
    (hg7:((W.setCell ⟨gl,o,none⟩ (.int .i64 ((cn:Int)+1))).alloc obj).grownBy W7 v.ownBlock):AssI X gl ns (os++[o]) (k+1) v7 W7:=by
  have hsz:X.heap.size≤W.heap.size:=h.1.size
  have hne:∀ b,b<X.heap.size→some b≠v.ownBlock:=fun b hb e=>by
    have:=(h.2.2.1.lt b e.symm).1
    omega
  have hset:=h.1.setA o (.int .i64 ((cn:Int)+1))
  have hal:=hset.ext (ext_new _ obj)
  have hlt2:∀ b,b<X.heap.size→b<((W.setCell ⟨gl,o,none⟩ (.int .i64 ((cn:Int)+1))).alloc obj).heap.size:=fun b hb=>Nat.lt_of_lt_of_le hb hal.size
  refine ⟨⟨hg7.os.trans hal.os,hg7.tape.trans hal.tape,hg7.output.trans hal.output,Nat.le_trans hal.size hg7.size,fun b hb h1 h2=>(hg7.block b (hlt2 b hb) (hne b hb)).trans (hal.block b hb h1 h2)⟩,?_,?_,?_⟩
  · rw [loadC_set os o ho24,← hcn]
    have hb:=(h.2.1.set_ o (.int .i64 ((cn:Int)+1))).alloc obj
    exact (hg7.block gl (hlt2 gl hgl) (hne gl hgl)).trans hb
  · rw [List.length_append,List.map_append]
    exact ho7
  · obtain ⟨h1,h2,h3⟩:=h.2.2.2.out
    refine ⟨by simp [h1],fun x hx=>?_,fun n=>?_⟩
    · rcases List.mem_append.1 hx with hx|hx
      · exact h2 x hx
      · simp at hx
        rw [hx];exact ho
    · rw [List.count_append]
      by_cases hno:o=n
      · subst hno
        simp
        omega
      · have:=h3 n
        simpa [List.count_cons,hno] using this
theorem mk24 (w:World):(Instr.makeSlice 67 (.int .i64 24) (.int .i64 24)).run Tryz.prog w=.ok (.slice (some ⟨w.heap.size,0,none⟩) 24 24) (w.alloc (.cells (loadC []) 3)):=by
  have h:=run_make_row' (P:=Tryz.prog) 67 3 (.int .i64 0) 8 Tryz.underlying67 int_info rfl .i64 .i64 24 (by decide) (by decide) w
  rw [show madeCells #[Value.int .i64 0] 24=loadC [] by kernel_rfl] at h
  exact h
theorem assign_any (ns:List Nat) (v:Value) (w:World) (hv:MemsAt w v ns) (hn:NodesOK ns):Calls Tryz.prog 114 #[v] w fun e w'=>
    ∃ u os,e=.returned (.tuple #[u,.int .i64 0])∧NumsAt w' u os∧os.length=64∧(∀ o ∈ os,o ∈ ns)∧(∀ n,(os.count n:Int)≤limF ns.length)∧Below w.heap.size w w':=by
  have HV:=Lib.hid hv
  have HN:=Lib.hid hn
  have HRV:=Lib.hid (v12_yes ns v w hv hn)
  have HSP:=Lib.hid (fun W (k:Below w.heap.size w W)=>spots_any ns v W (hv.ext k) hn)
  obtain ⟨A,c,rfl,hc,_⟩:=hv
  have hfew:=hn.few
  have hsome:=hn.some_
  clear hn
  go_enter Tryz.func114,Tryz.ntmps114
  go_wp2_with fail
  refine HRV.out.mono ?_
  rintro e W1 ⟨rfl,hb1⟩
  have HE1:=Lib.hid hb1
  clear hb1
  go_wp2_with fail
  refine (HSP.out _ HE1.out).mono ?_
  rintro e W2 ⟨va,rfl,xs,hown,hb2,hxs⟩
  obtain ⟨g0,c0,hva,_,_⟩:=hown.form (by
    have:=hxs.out.1
    omega)
  subst hva
  have HE2:=Lib.hid (ext_call HE1.out hb2)
  have HSR:=Lib.hid (show SpotRow W2 W1.heap.size g0 c0 xs from hown)
  have HXS:=Lib.hid hxs.out
  clear hown hb2 hxs
  have hmk:=mk24 W2
  go_wp2_with fail
  obtain ⟨X,hX⟩:∃ X,X=W2.alloc (.cells (loadC []) 3):=⟨_,rfl⟩
  rw [← hX]
  have HBX:=Lib.hid (show Blk X W2.heap.size 3 (loadC []) by rw [hX];exact Blk.new _ _ _)
  have HEX:=Lib.hid (show Below w.heap.size w X by rw [hX];exact ext_alloc HE2.out _)
  have HSX:=Lib.hid (show SpotRow X W1.heap.size g0 c0 xs by rw [hX];exact HSR.out.alloc _)
  have HGL:=Lib.hid (show w.heap.size≤W2.heap.size from HE2.out.size)
  have HG0:=Lib.hid (show g0<W2.heap.size from (HSR.out.lt g0 rfl).2)
  clear hX hmk HSR HE2 HRV HSP HE1
  generalize W2.heap.size=gl at *
  go_loopw [6,7,8,9,10,11] (fun o s _ _ _ _ W=>∃ k:Nat,k≤64∧s=.int .i64 k∧∃ os,AssI X gl ns os k o W) (fun _ s _ _ _ _ _=>64-(intOf s).toNat)
  case atStart=>exact ⟨0,by omega,rfl,[],Ext2.of_ext (ext_refl X),HBX.out,World.ownsRow_nil _ _ _ _,⟨rfl,(fun o h=>by cases h),(fun n=>by have:=limF_le ns.length hsome hfew;simp;omega)⟩⟩
  case round =>
    obtain ⟨k,hk,rfl,os,hA⟩:=hrel
    have HA:=Lib.hid hA
    clear hA
    by_cases hk64:k<64
    · have d1 : decide ((k : Int) < 64) = true := by simp; omega
      go_wp2_with fail
      refine (digits_any k (by omega) _).mono ?_
      rintro e W3 ⟨⟨s1,rfl,hz1⟩,hb3⟩
      have hf1:=sf1 s1 hz1
      have hsz:((⟨#[115,108,111,116,32]⟩:ByteArray)++s1).size≤100000:=by
        have e1:(⟨#[115,108,111,116,32]⟩:ByteArray).size=5:=rfl
        rw [ByteArray.size_append]
        omega
      have HA3:=Lib.hid (show AssI X gl ns os k u6 W3 from ⟨HA.out.1.ext hb3,HA.out.2.1.ext hb3,own_below HA.out.2.2.1 hb3,HA.out.2.2.2⟩)
      clear hb3
      go_wp2_with fail
      refine (point12_any _ _ hsz).mono ?_
      rintro e W4 ⟨⟨z,rfl⟩,rfl⟩
      clear hsz hf1 hz1
      have hcell:∀ (q:Nat) (x:Int × Nat),xs[q]? = some x→∀ W,Ext2 gl gl X W→W.cell? ⟨g0,q*2,none⟩=some (.int .i64 x.1)∧W.cell? ⟨g0,q*2+1,none⟩=some (.int .i64 (x.2:Int)):=fun q x hx W k=>
        ⟨cell_ext2 (HSX.out.cell hx).1 k (show g0≠gl by have:=HG0.out;omega) (show g0≠gl by have:=HG0.out;omega),cell_ext2 (HSX.out.cell hx).2 k (show g0≠gl by have:=HG0.out;omega) (show g0≠gl by have:=HG0.out;omega)⟩
      have HC:=Lib.hid hcell
      have hxl:xs.length≤100:=by have:=HXS.out.1;omega
      have hx0:0<xs.length:=by have:=HXS.out.1;omega
      have HXL:=Lib.hid hxl
      have HX0:=Lib.hid hx0
      clear hcell
      go_upto_block 2 with (fail)
      go_cut [9] from 26 to 40 (fun f W=>(∃ q:Nat,q≤xs.length∧f=.int .i64 q)∧W=W3)
      case first=>
        go_wp2_with fail
        go_loop [9] (fun f=>∃ q:Nat,q≤xs.length∧f=.int .i64 q) (fun f=>xs.length-(intOf f).toNat)
        case atStart=>exact ⟨0,Nat.zero_le _,rfl⟩
        case round=>
          obtain ⟨q,hq,rfl⟩:=hrel
          by_cases hlt:q<xs.length
          · obtain ⟨y,hy⟩:∃ y,xs[q]? = some y:=⟨_,List.getElem?_eq_getElem hlt⟩
            have y0:=(HC.out q y hy _ HA3.out.1).1
            obtain ⟨y1,hy1⟩:∃ y1,y1=y.1:=⟨_,rfl⟩
            rw [← hy1] at y0
            have d2:decide ((q:Int)<(xs.length:Int))=true:=by simp;omega
            have e2:IntKind.i64.wrap ((q:Int)+1)=(q:Int)+1:=by rw [IntWalk.i64_in _ (by have:=HXL.out;omega)]
            have q0:(0:Int)≤(q:Int):=by omega
            have q1:(q:Int)<(xs.length:Int):=by omega
            clear hy hy1
            by_cases hp:y1<z
            · have d3:decide (y1<z)=true:=by simp [hp]
              go_wp2
              go_round
              case rel=>exact ⟨q+1,by omega,by go_num⟩
              case measure=>simp [intOf];omega
            · have d3:decide (y1<z)=false:=by simp;omega
              go_wp2_with fail
              go_meet
              case rel=>exact ⟨⟨q,by omega,rfl⟩,rfl⟩
          · have d2:decide ((q:Int)<(xs.length:Int))=false:=by simp;omega
            go_wp2_with fail
            go_meet
            case rel=>exact ⟨⟨q,by omega,rfl⟩,rfl⟩
      case rest =>
        obtain ⟨⟨f,hf,rfl⟩,hw⟩:=hcut
        subst hw
        have hxl:=HXL.out
        have hx0:=HX0.out
        go_wp2_with fail
        go_loopw [6,10,11] (fun o i _ W=>∃ j:Nat,j≤xs.length∧i=.int .i64 j∧AssI X gl ns os k o W∧Hid (∀ t,t<j→∀ x,xs[(f+t) % xs.length]? = some x→limF ns.length≤os.count x.2)) (fun _ i _ _=>xs.length-(intOf i).toNat)
        case atStart=>exact ⟨0,Nat.zero_le _,rfl,HA3.out,fun t h=>absurd h (by omega)⟩
        case round =>
          obtain ⟨j,hj,rfl,hA,hall⟩:=hrel
          have HAj:=Lib.hid hA
          clear hA
          have hxl:=HXL.out
          have hx0:=HX0.out
          by_cases hlt:j<xs.length
          · obtain ⟨r,hr⟩:∃ r,r=(f+j) % xs.length:=⟨_,rfl⟩
            have hrl:r<xs.length:=by rw [hr];exact Nat.mod_lt _ hx0
            obtain ⟨y,hy⟩:∃ y,xs[r]? = some y:=⟨_,List.getElem?_eq_getElem hrl⟩
            have y0:=(HC.out r y hy _ HAj.out.1).2
            have hyn:y.2 ∈ ns:=HXS.out.2.1 y (List.mem_of_getElem? hy)
            have hy24:=HN.out.below y.2 hyn
            have HY:=Lib.hid (show xs[(f+j) % xs.length]? = some y from by rw [← hr];exact hy)
            have HYN:=Lib.hid hyn
            have e3:IntKind.i64.wrap ((f:Int)+(j:Int))=(f:Int)+(j:Int):=by rw [IntWalk.i64_in _ (by omega)]
            have e4:((f:Int)+(j:Int)) % (xs.length:Int)=(r:Int):=by rw [hr,Int.natCast_emod,Int.natCast_add]
            have e4':((f:Int)+(j:Int)).tmod (xs.length:Int)=(r:Int):=by rw [Int.tmod_eq_emod_of_nonneg (by omega)];exact e4
            have e5:IntKind.i64.wrap (r:Int)=(r:Int):=IntWalk.i64_in _ (by omega)
            have e6:IntKind.i64.wrap ((j:Int)+1)=(j:Int)+1:=by rw [IntWalk.i64_in _ (by omega)]
            have d2:decide ((j:Int)<(xs.length:Int))=true:=by simp;omega
            have q0:(0:Int)≤(r:Int):=by omega
            have q1:(r:Int)<(xs.length:Int):=by omega
            generalize hyo:y.2=o at *
            have HYO:=Lib.hid hyo
            clear hr hy hyn hyo
            obtain ⟨cn,hcn⟩:∃ cn,cn=os.count o:=⟨_,rfl⟩
            have hlc:wr.cell? ⟨gl,o,none⟩=some (.int .i64 (cn:Int)):=(HAj.out.2.1.cell o).trans (by rw [loadC_get os o hy24,hcn])
            have HCN:=Lib.hid hcn
            have HLC:=Lib.hid (show wr.cell? ⟨gl,o,none⟩=some (.int .i64 (cn:Int))∧Below wr.heap.size wr wr from ⟨hlc,ext_refl wr⟩)
            have HWr:=Lib.hid (Ext2.below HEX.out HGL.out HGL.out HAj.out.1)
            have q2:(o:Int)<24:=by omega
            have q3:(0:Int)≤(o:Int):=by omega
            clear hcn
            by_cases hcl:(cn:Int)<limF ns.length
            · have d4:decide ((cn:Int)<limF ns.length)=true:=by simp [hcl]
              go_upto_region 17 with (fail)
              go_region_held3 (fun w'=>w'.cell? ⟨gl,o,none⟩=some (.int .i64 (cn:Int))∧Below wr.heap.size wr w')
                (first|with_reducible assumption|exact keepN HLC.out (ext_refl wr).drew|exact keepN (by assumption) (by assumption))
                (first|(go_at_call 155;(with_reducible refine (limit12 ns o _ _ ?_ HN.out HYN.out).mono ?_);(exact HV.out.ext (ext_call HWr.out (keepNB (by assumption))));rintro e W5 ⟨rfl,hb5⟩))
              have hb6:=undrew hb5
              have HA5:=Lib.hid (HAj.out.ext hb6)
              clear hb5 hb6
              obtain ⟨A6,c6,h6⟩:=own_shape HA5.out.2.2.1
              subst h6
              have hgl:=HBX.out.lt
              have hf0:=HA5.out.2.1.frozen o
              have hcn2:=(limF_le ns.length hsome hfew).2
              have e7:IntKind.i64.wrap ((cn:Int)+1)=(cn:Int)+1:=by rw [IntWalk.i64_in _ (by omega)]
              have hol:os.length≤64:=by have:=HA5.out.2.2.2.out.1;omega
              have hxs5:X.heap.size≤W5.heap.size:=HA5.out.1.size
              obtain ⟨ii,hii,hzi0,hzi1,hzi2⟩:=info_parts int_info
              have HOw:=Lib.hid (HA5.out.ownSet (i:=o) (u:=.int .i64 ((cn:Int)+1)) hgl)
              have HNW:=Lib.hid (show ∀ (j:Nat) (u:Value),[Value.int .i64 (o:Int)][j]? = some u→((W5.setCell ⟨gl,o,none⟩ (.int .i64 ((cn:Int)+1))).alloc (.cells #[.int .i64 (o:Int)] 3)).cell? ((⟨W5.heap.size,0,none⟩:Addr).add j)=some u by
                have h:=cell_one_new (W5.setCell ⟨gl,o,none⟩ (.int .i64 ((cn:Int)+1))) (.int .i64 (o:Int)) 3
                rw [show (W5.setCell ⟨gl,o,none⟩ (.int .i64 ((cn:Int)+1))).heap.size=W5.heap.size by simp [World.setCell]] at h
                exact h)
              go_wp2_with (at_builtin;refine wpList_append_own _ rfl (.tmp 71) (.tmp 73) 67 rfl X.heap.size 3 ii (.int .i64 0) 1 8 Tryz.underlying67 hii hzi0 hzi1 hzi2 rfl (by decide) (.slice A6 os.length c6) os.length _ rfl (HOw.out.alloc _) ⟨W5.heap.size,0,none⟩ 1 1 [.int .i64 (o:Int)] rfl rfl HNW.out ?_ ?_ ?_ ?_ ?_;(simp [Value.oneCell']);(unfold maxLen;omega);omega;(rw [World.size_alloc];simp [World.setCell];omega);intro v7 W7 ho7 hg7 _)
              have HA7:=Lib.hid (HA5.out.step hgl HYN.out hy24 HCN.out hcl _ ho7 hg7)
              clear ho7 hg7 HOw HNW
              have e9:IntKind.i64.wrap ((k:Int)+1)=(k:Int)+1:=by rw [IntWalk.i64_in _ (by omega)]
              go_wp2
              go_roundw
              case rel=>exact ⟨k+1,by omega,by go_num,os++[o],HA7.out⟩
              case measure=>simp [intOf];omega
            · have d4:decide ((cn:Int)<limF ns.length)=false:=by simp;omega
              go_upto_region 17 with (fail)
              go_region_held3 (fun w'=>w'.cell? ⟨gl,o,none⟩=some (.int .i64 (cn:Int))∧Below wr.heap.size wr w')
                (first|with_reducible assumption|exact keepN HLC.out (ext_refl wr).drew|exact keepN (by assumption) (by assumption))
                (first|(go_at_call 155;(with_reducible refine (limit12 ns o _ _ ?_ HN.out HYN.out).mono ?_);(exact HV.out.ext (ext_call HWr.out (keepNB (by assumption))));rintro e W5 ⟨rfl,hb5⟩))
              have hb6:=undrew hb5
              have HA5:=Lib.hid (HAj.out.ext hb6)
              have HAL:=Lib.hid (show ∀ t,t<j+1→∀ x,xs[(f+t) % xs.length]? = some x→limF ns.length≤os.count x.2 from fun t ht x hx=>by
                by_cases htj:t=j
                · subst htj
                  rw [HY.out] at hx
                  injection hx with hx
                  rw [← hx,HYO.out,← HCN.out]
                  omega
                · exact hall.out t (by omega) x hx)
              clear hb5 hb6
              go_wp2
              go_roundw
              case rel=>exact ⟨j+1,by omega,by go_num,HA5.out,HAL.out⟩
              case measure=>simp [intOf];omega
          · exfalso
            obtain rfl:j=xs.length:=by omega
            have hcov:∀ n ∈ ns,(limF ns.length).toNat≤os.count n:=fun n hn=>by
              obtain ⟨x,hx,rfl⟩:=HXS.out.2.2.1 n (by simpa using hn)
              obtain ⟨t,ht,htx⟩:=List.mem_iff_getElem.1 hx
              have hm:(f+(t+xs.length-f % xs.length) % xs.length) % xs.length=t:=cyc f t xs.length ht
              have:=hall.out ((t+xs.length-f % xs.length) % xs.length) (Nat.mod_lt _ hx0) x (by rw [hm,List.getElem?_eq_getElem ht,htx])
              omega
            have h1:=room_left ns HN.out.nodup os HAj.out.2.2.2.out.2.1 (limF ns.length).toNat hcov
            have h2:=limF_all ns.length hsome hfew
            have h3:=HAj.out.2.2.2.out.1
            omega
    · have d1:decide ((k:Int)<64)=false:=by simp;omega
      obtain rfl:k=64:=by omega
      obtain ⟨A6,c6,h6⟩:=own_shape HA.out.2.2.1
      subst h6
      go_wp2
      go_ret2
      obtain ⟨h1,h2,h3⟩:=HA.out.2.2.2.out
      refine ⟨_,os,rfl,⟨A6,c6,rfl,?_,fun h0=>?_⟩,h1,h2,h3,Ext2.below HEX.out HGL.out HGL.out HA.out.1⟩
      · rcases HA.out.2.2.1.2 with ⟨he,h0⟩|⟨g,cap,cur,he,_,_,hle,_⟩
        · omega
        · injection he with _ _ hc
          omega
      · obtain ⟨g6,c6',hv6,_,_⟩:=HA.out.2.2.1.form h0
        injection hv6 with hv6 _ hc6
        subst hv6;subst hc6
        refine ⟨g6,0,rfl,fun j n hn=>?_⟩
        have:=ownsRow_cells' HA.out.2.2.1 j (.int .i64 (n:Int)) (by rw [List.getElem?_map,hn];rfl)
        rwa [Nat.zero_add]
end
section
open Go.RowKit Go.Shelf
def mc (ns:List Nat):List Value:=ns.flatMap fun n:Nat=>[Value.int .i64 (n:Int),.int .i64 0,.int .i64 1]
theorem mc_length (ns:List Nat):(mc ns).length=ns.length*3:=by
  induction ns with
  | nil=>rfl
  | cons a r ih=>simp [mc] at ih ⊢;omega
theorem mc_append (xs ys:List Nat):mc (xs++ys)=mc xs++mc ys:=by simp [mc]
theorem mc_one (ns:List Nat):∀ u ∈ mc ns,u.oneCell'=true:=by
  intro u hu
  unfold mc at hu
  obtain ⟨x,_,hx⟩:=List.mem_flatMap.1 hu
  simp at hx
  rcases hx with rfl|rfl|rfl <;> rfl
theorem mc_get (ns:List Nat):∀ (j n:Nat),ns[j]? = some n→(mc ns)[j*3]? = some (.int .i64 (n:Int))∧(mc ns)[j*3+1]? = some (.int .i64 0)∧(mc ns)[j*3+2]? = some (.int .i64 1):=by
  induction ns with
  | nil=>intro j n h;simp at h
  | cons a r ih=>
    intro j n h
    cases j with
    | zero=>simp at h;subst h;exact ⟨rfl,rfl,rfl⟩
    | succ j=>
      have h':=ih j n (by simpa using h)
      have e1:(j+1)*3=j*3+3:=by omega
      rw [e1]
      exact h'
theorem mems_of_own {w:World} {B n:Nat} {v:Value} {ns:List Nat} (h:w.ownsRow B 145 3 v n (mc ns)) (hn:n=ns.length):MemsAt w v ns:=by
  subst hn
  obtain ⟨A,c,rfl⟩:=own_shape h
  refine ⟨A,c,rfl,?_,fun h0=>?_⟩
  · rcases h.2 with ⟨he,h0⟩|⟨g,cap,cur,he,_,_,hle,_⟩
    · omega
    · injection he with _ _ hc
      omega
  · obtain ⟨g,c',hv,_,_⟩:=h.form h0
    injection hv with hv _ hc
    subst hv;subst hc
    refine ⟨g,0,rfl,fun j n hn=>?_⟩
    obtain ⟨h1,h2,h3⟩:=mc_get ns j n hn
    have hc:=ownsRow_cells' h
    simp only [Nat.zero_add]
    exact ⟨hc _ _ h1,hc _ _ h2,hc _ _ h3⟩
theorem MemsAt.cells {w:World} {b off c:Nat} {ns:List Nat} (h:MemsAt w (.slice (some ⟨b,off,none⟩) ns.length c) ns):∀ (i:Nat) (u:Value),(mc ns)[i]? = some u→w.cell? ⟨b,off+i,none⟩=some u:=by
  intro i u hu
  have hi:i<ns.length*3:=by rw [← mc_length];exact (List.getElem?_eq_some_iff.1 hu).1
  have hj:i / 3<ns.length:=by omega
  have hn:ns[i / 3]? = some ns[i / 3]:=List.getElem?_eq_getElem hj
  obtain ⟨b',off',c',hv,_,h1,h2,h3⟩:=h.at_ hn
  injection hv with hv _ _
  injection hv with hv
  injection hv with hb ho _
  subst hb;subst ho
  obtain ⟨m1,m2,m3⟩:=mc_get ns (i / 3) _ hn
  have h0:i % 3=0∨i % 3=1∨i % 3=2:=by omega
  rcases h0 with hr|hr|hr
  · have e:i=i / 3*3:=by omega
    rw [e] at hu ⊢
    rw [m1] at hu
    cases hu
    exact h1
  · have e:i=i / 3*3+1:=by omega
    rw [e] at hu ⊢
    rw [m2] at hu
    cases hu
    exact h2
  · have e:i=i / 3*3+2:=by omega
    rw [e] at hu ⊢
    rw [m3] at hu
    cases hu
    exact h3
theorem mem_info:(Tryz.prog.info? 145).map (fun i=>(i.zero,i.size,i.bytes))=some (some (.agg #[.int .i64 0,.int .i64 0,.int .i64 0]),3,24):=by kernel_rfl
theorem NumsAt.far {W:World} {v:Value} {os:List Nat} (h:NumsAt W v os) (hl:4≤os.length) {g:Nat} {t:TypeId} {cs:Array Value} (hb:Blk W g t cs) (hs:cs.size=3) (i:Nat) (u:Value):NumsAt (W.setCell ⟨g,i,none⟩ u) v os:=by
  obtain ⟨A,c,rfl,hc,h⟩:=h
  refine ⟨A,c,rfl,hc,fun h0=>?_⟩
  obtain ⟨b,off,hA,hcell⟩:=h h0
  have hne:b≠g:=by
    rintro rfl
    have h3:=hcell 3 os[3] (List.getElem?_eq_getElem (by omega))
    rw [hb.cell,Array.getElem?_eq_none (by omega)] at h3
    cases h3
  exact ⟨b,off,hA,fun j n hn=>(World.cell?_of_block (a:=⟨b,off+j,none⟩) ((grown_set W g i u).block b (lt_of_cell (p:=⟨b,off+j,none⟩) (hcell j n hn)) (fun e=>hne (by injection e)))).trans (hcell j n hn)⟩
theorem own_far {W:World} {B e sz n g:Nat} {v:Value} {ys:List Value} (h:W.ownsRow B e sz v n ys) (hg:g<B) (i:Nat) (u:Value):(W.setCell ⟨g,i,none⟩ u).ownsRow B e sz v n ys:=by
  refine h.kept (grown_set W g i u) ?_
  cases hv:v.ownBlock with
  | none=>exact .inl rfl
  | some b=>
    refine .inr fun e=>?_
    have:=(h.lt b hv).1
    injection e with e
    omega
def RingAt (w:World) (ns:List Nat) (ep:Int) (v:Value):Prop:=∃ vm vo os,v=.agg #[.int .i64 ep,vm,vo]∧MemsAt w vm ns∧NumsAt w vo os∧os.length=64∧(∀ o ∈ os,o ∈ ns)∧∀ n,(os.count n:Int)≤limF ns.length
theorem new12_any (ns:List Nat) (ep:Int) (v:Value) (w:World) (hv:MemsAt w v ns) (hn:NodesOK ns) (h1:1≤ep) (h2:ep≤1000000):Calls Tryz.prog 68 #[.int .i64 ep,v] w fun e w'=>
    ∃ r,e=.returned (.tuple #[r,.int .i64 0])∧RingAt w' ns ep r∧Below w.heap.size w w':=by
  obtain ⟨X,hX⟩:∃ X,X=w.alloc (.cells #[.int .i64 0,.slice none 0 0,.slice none 0 0] 69):=⟨_,rfl⟩
  have HE0:=Lib.hid (show Below w.heap.size w X by rw [hX];exact ext_new _ _)
  have HB0:=Lib.hid (show Blk X w.heap.size 69 #[.int .i64 0,.slice none 0 0,.slice none 0 0] by rw [hX];exact Blk.new _ _ _)
  have HX:=Lib.hid hX
  have HV:=Lib.hid hv
  have hsome:=hn.some_
  have hfew:=hn.few
  have HAs:=Lib.hid (assign_any ns v X (hv.ext HE0.out) hn)
  obtain ⟨n0,hn0⟩:∃ n0,ns[0]? = some n0:=⟨_,List.getElem?_eq_getElem hsome⟩
  obtain ⟨b,off,c,hA,hc,_⟩:=hv.at_ hn0
  subst hA
  clear hX hn hv hn0
  obtain ⟨is,his,hzs0,hzs1,hzs2⟩:=info_parts mem_info
  go_enter Tryz.func68,Tryz.ntmps68
  go_wp2_with fail
  rw [← HX.out]
  refine HAs.out.mono ?_
  rintro e W1 ⟨vo,os,rfl,hno,hl,hos,hlim,hb1⟩
  obtain ⟨Ao,co,rfl,_⟩:=id hno
  have HE1:=Lib.hid (ext_call HE0.out hb1)
  have HO:=Lib.hid (show NumsAt W1 (.slice Ao os.length co) os∧os.length=64∧(∀ o ∈ os,o ∈ ns)∧∀ n,(os.count n:Int)≤limF ns.length from ⟨hno,hl,hos,hlim⟩)
  have HB1:=Lib.hid (HB0.out.ext hb1)
  have HM1:=Lib.hid (HV.out.ext HE1.out)
  clear hno hl hos hlim hb1 HAs HX
  obtain ⟨r0,r1,r2⟩:=bcells3 HB1.out
  have f0:=HB1.out.frozen 0
  have f1:=HB1.out.frozen 1
  have f2:=HB1.out.frozen 2
  have hw1:=HE1.out.size
  go_wp2_with fail
  refine (w12_yes _ _ _ h1 h2 _).mono ?_
  rintro e w' ⟨rfl,rfl⟩
  have HOE:=Lib.hid (show (W1.alloc (.cells #[] 145)).ownsRow W1.heap.size 145 3 (.slice (some ⟨W1.heap.size,0,none⟩) 0 0) 0 [] from
    ⟨rfl,.inr ⟨W1.heap.size,0,#[],rfl,Nat.le_refl _,World.alloc_heap_new W1 _,Nat.le_refl _,Nat.zero_le _,rfl,rfl⟩⟩)
  have HNW:=Lib.hid (show ∀ (i:Nat) (u:Value),(mc ns)[i]? = some u→(W1.alloc (.cells #[] 145)).cell? ((⟨b,off,none⟩:Addr).add i)=some u from fun i u hu=>by
    rw [Addr.add_mid]
    exact (HM1.out.ext (ext_new W1 _)).cells i u hu)
  have hml:=mc_length ns
  go_wp2_with (at_builtin;go_must (refine wpList_append_own _ rfl (.tmp 22) (.tmp 23) 66 rfl W1.heap.size 145 is (.agg #[.int .i64 0,.int .i64 0,.int .i64 0]) 3 24 Tryz.underlying66 his hzs0 hzs1 hzs2 rfl (by decide) (.slice (some ⟨W1.heap.size,0,none⟩) 0 0) 0 [] rfl HOE.out ⟨b,off,none⟩ ns.length c (mc ns) rfl hml HNW.out (mc_one ns) ?_ ?_ ?_ ?_;(unfold maxLen;omega);omega;(rw [World.size_alloc];omega);intro v6 W6 ho6 hg6 _;obtain ⟨A7,c7,h7⟩:=own_shape ho6;subst h7;have HO6:=Lib.hid ho6;have hb6:Blk W6 w.heap.size 69 #[.int .i64 0,.slice none 0 0,.slice none 0 0]:=(hg6.block w.heap.size (by rw [World.size_alloc];have:=HB1.out.lt;omega) (by intro e;have e2:w.heap.size=W1.heap.size:=Option.some.inj e;have:=HB1.out.lt;omega)).trans (HB1.out.alloc _);have x0:=hb6.cell 0;have x1:=hb6.cell 1;have x2:=hb6.cell 2;have g0:=hb6.frozen 0;have g1:=hb6.frozen 1;have g2:=hb6.frozen 2;have HG6:=Lib.hid hg6;clear hg6 ho6))
  have hlt:=HB1.out.lt
  have HBW:=Lib.hid (show Below W1.heap.size W1 W6 from (ext_new W1 (.cells #[] 145)).grown HG6.out (ext_new W1 (.cells #[] 145)).size (fun k e=>by have e2:W1.heap.size=k:=Option.some.inj e;omega))
  have HB8:=Lib.hid (((hb6.set_ 0 (.int .i64 ep)).set_ 1 (.slice A7 ns.length c7)).set_ 2 (.slice Ao os.length co))
  have ho:=HO6.out
  rw [Nat.zero_add,List.nil_append] at ho
  have HO8:=Lib.hid (own_far (own_far (own_far ho hlt 0 (.int .i64 ep)) hlt 1 (.slice A7 ns.length c7)) hlt 2 (.slice Ao os.length co))
  have hn6:=HO.out.1.ext HBW.out
  have HN8:=Lib.hid (((hn6.far (by have:=HO.out.2.1;omega) hb6 rfl 0 (.int .i64 ep)).far (by have:=HO.out.2.1;omega) (hb6.set_ 0 (.int .i64 ep)) (by simp) 1 (.slice A7 ns.length c7)).far (by have:=HO.out.2.1;omega) ((hb6.set_ 0 (.int .i64 ep)).set_ 1 (.slice A7 ns.length c7)) (by simp) 2 (.slice Ao os.length co))
  have HE8:=Lib.hid (ext_set (ext_set (ext_set (ext_call HE1.out HBW.out) (p:=⟨w.heap.size,0,none⟩) (Nat.le_refl _) (.int .i64 ep)) (p:=⟨w.heap.size,1,none⟩) (Nat.le_refl _) (.slice A7 ns.length c7)) (p:=⟨w.heap.size,2,none⟩) (Nat.le_refl _) (.slice Ao os.length co))
  generalize ((W6.setCell ⟨w.heap.size,0,none⟩ (.int .i64 ep)).setCell ⟨w.heap.size,1,none⟩ (.slice A7 ns.length c7)).setCell ⟨w.heap.size,2,none⟩ (.slice Ao os.length co)=W8 at *
  obtain ⟨y0,y1,y2⟩:=bcells3 (show Blk W8 w.heap.size 69 #[.int .i64 ep,.slice A7 ns.length c7,.slice Ao os.length co] from HB8.out)
  refine bodyPost_ret (v:=.tuple #[.agg #[.int .i64 ep,.slice A7 ns.length c7,.slice Ao os.length co],.int .i64 0]) (by simp [results,Tryz.results68,go_sem,y0,y1,y2]) rfl ⟨_,rfl,⟨_,_,os,rfl,mems_of_own HO8.out rfl,HN8.out,HO.out.2⟩,HE8.out⟩
end
end Go.Proofs.YtnajpjnnlocfgaaGreatDoor
