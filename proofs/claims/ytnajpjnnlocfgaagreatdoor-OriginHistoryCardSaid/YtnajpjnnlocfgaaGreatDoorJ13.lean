/-
  package slices, origin: Collect of records, Records between two positions of any log.
-/
import Derived.Test.YtnajpjnnlocfgaaGreatDoorJ12
set_option linter.unusedSimpArgs false
set_option linter.unusedVariables false
set_option maxHeartbeats 4000000
set_option maxRecDepth 100000
namespace Go.Proofs.YtnajpjnnlocfgaaGreatDoor
open Go.RowKit Go.Shelf
def rcN (xs:List (Nat × Nat × Nat × Nat)):List Value:=xs.flatMap fun x=>(recN x).toList
theorem rcN_append (xs:List (Nat × Nat × Nat × Nat)) (x:Nat × Nat × Nat × Nat):rcN (xs++[x])=rcN xs++(recN x).toList:=by simp [rcN]
theorem rcN_at:∀ (xs:List (Nat × Nat × Nat × Nat)) (j:Nat) (x:Nat × Nat × Nat × Nat),xs[j]? = some x→∀ i,i<2→(rcN xs)[j*2+i]? = (recN x)[i]?
  | [],j,x,h,i,hi=>by simp at h
  | y::l,0,x,h,i,hi=>by
    simp only [List.getElem?_cons_zero,Option.some.injEq] at h
    subst h
    simp only [rcN,List.flatMap_cons,Nat.zero_mul,Nat.zero_add]
    rw [List.getElem?_append_left (show i<(recN y).toList.length from hi)]
    simp
  | y::l,j+1,x,h,i,hi=>by
    have h1:=rcN_at l j x (by simpa using h) i hi
    simp only [rcN,List.flatMap_cons]
    have e0:(recN y).toList.length=2:=rfl
    rw [List.getElem?_append_right (by omega)]
    have e:(j+1)*2+i-(recN y).toList.length=j*2+i:=by omega
    rw [e]
    exact h1
structure ColS (w:World) (bs B gs gl b1 b2 b3 first last:Nat) (rv hv:Value) (R:List (List ChgT × Nat × Nat)) (H:List (ByteArray × ByteArray)) (k:Nat) (W:World):Prop where
  ext:Below w.heap.size w W
  rec_:RecG B gs gl b1 b2 b3 first last rv hv R H W
  out:∃ v xs,xs.length=k∧Blk W bs 37 #[v]∧W.ownsRow w.heap.size 43 2 v k (rcN xs)∧(k=0→v=.slice none 0 0)∧∀ (i:Nat) (x:Nat × Nat × Nat × Nat),xs[i]? = some x→RecMG first R i x W
theorem ColS.own (w:World) (bs B' gs gl b1 b2 b3 first last:Nat) (rv hv:Value) (R:List (List ChgT × Nat × Nat)) (H:List (ByteArray × ByteArray)) (k B:Nat) (hB:w.heap.size≤B):OwnP B (ColS w bs B' gs gl b1 b2 b3 first last rv hv R H k):=fun _ X Y row hs hg hr=>by
  have hr':∀ r,row=some r→∃ o:Obj,X.heap[r]? = some o∧o.isCells=false:=fun r e=>(hr r e).2
  obtain ⟨v,xs,h0,h1,h2,hz,h3⟩:=hs.out
  exact ⟨OwnP.below (B:=B) (Nat.le_refl _) hB () X Y row hs.ext hg hr,hs.rec_.kept hg hr',v,xs,h0,blk_kept h1 hg hr',own_keptP h2 hg hr',hz,fun i x hx=>(h3 i x hx).kept hg hr'⟩
theorem recC_info:(Tryz.prog.info? 43).map (fun i=>(i.zero,i.size,i.bytes))=some (some (.agg #[.int .i64 0,.slice none 0 0]),2,32):=by kernel_rfl
attribute [local go_sem] run_semAt
attribute [local go_sem ↓] app_exec app_sem Go.wp_at_zero Go.wp_at_succ
theorem appendSeqS (B gs gl b1 b2 b3 first last:Nat) (rv hv:Value) (R:List (List ChgT × Nat × Nat)) (H:List (ByteArray × ByteArray)) (hf:1≤first) (hf2:first≤1000) (hR:R.length≤1000) (hG:∀ x ∈ R,GoodL x.1) (w:World) (hC:RecG B gs gl b1 b2 b3 first last rv hv R H w) :
    Calls Tryz.prog 77 #[.slice none 0 0,.func (.func 78) #[] #[.pointer (some ⟨b1,0,none⟩),.pointer (some ⟨b2,0,none⟩),.pointer (some ⟨b3,0,none⟩)]] w
      fun e w'=>∃ v xs,e=.returned v∧xs.length=nRec first last R.length∧w'.ownsRow w.heap.size 43 2 v xs.length (rcN xs)∧(xs.length=0→v=.slice none 0 0)∧(∀ (i:Nat) (x:Nat × Nat × Nat × Nat),xs[i]? = some x→RecMG first R i x w')∧Below w.heap.size w w':=by
  obtain ⟨im,him,hzm0,hzm1,hzm2⟩:=info_parts recC_info
  obtain ⟨N,hN⟩:∃ N,N=nRec first last R.length:=⟨_,rfl⟩
  have hN1:N≤1000:=by rw [hN];unfold nRec;omega
  have HSEQ:=Lib.hid (show SeqMem 2 Tryz.prog 78 #[.pointer (some ⟨b1,0,none⟩),.pointer (some ⟨b2,0,none⟩),.pointer (some ⟨b3,0,none⟩)] N (RecG B gs gl b1 b2 b3 first last rv hv R H) (fun k xs W=>∃ x,xs=#[.agg (recN x)]∧RecMG first R k x W) by
    rw [hN];exact recordsG_seq 2 (by omega) B gs gl b1 b2 b3 first last hf hf2 rv hv R H hR hG)
  rw [← hN]
  clear hN hG
  refine (callsIn_wide (n:=3)).1 (callsIn_of_wp_marks Tryz.func77 rfl trivial (wpIn_wide.2 ?_) rfl)
  simp only [Tryz.ntmps77,List.size_toArray,List.length_cons,List.length_nil,Nat.reduceAdd,Nat.reduceSub,Array.replicate_succ,Array.replicate_zero,List.push_toArray,List.append_toArray,List.nil_append,List.cons_append]
  go_wp2_with fail
  have hE0:=ext_new w (.cells #[.slice none 0 0] 37)
  have hI0:ColS w w.heap.size B gs gl b1 b2 b3 first last rv hv R H 0 (w.alloc (.cells #[.slice none 0 0] 37)):=⟨hE0,hC.ext hE0,.slice none 0 0,[],rfl,Blk.new _ _ _,World.ownsRow_nil _ _ _ _,fun _=>rfl,fun i x h=>by simp at h⟩
  refine (wpIn_wide (n:=3)).1 ?_
  refine' wpIn_mem_boxA (by omega) (gf:=78) (lb:=#[.pointer (some ⟨b1,0,none⟩),.pointer (some ⟨b2,0,none⟩),.pointer (some ⟨b3,0,none⟩)]) (by simp [Act.eval]) (enters_of Tryz.func78 (by kernel_rfl) rfl)
    recN HSEQ.out rfl
    (ColS w w.heap.size B gs gl b1 b2 b3 first last rv hv R H) (fun k=>ColS.own w w.heap.size B gs gl b1 b2 b3 first last rv hv R H k _ (by simp)) (fun k W h=>h.rec_) hI0 (fun k x _ X Y row hs hg hr=>hs.kept hg (fun r e=>(hr r e).2)) 43 _ ?assign ?body ?done
  case assign=>
    intro l h x W K hh hK
    unfold recN at hK ⊢
    gi_wp2
    rw [← hh]
    exact hK
  case body=>
    rintro l h k ⟨x1,x2,x3,x4⟩ W hk hsz hh hB hm hI
    obtain ⟨hE,hRC,v,xs,hlen,hV,hown,-,hxr⟩:=hI
    obtain ⟨Av,cv,rfl⟩:=own_shape hown
    have HB:=Lib.hid hB
    have HEW:=Lib.hid hE
    have HMX:=Lib.hid hm
    have HXR:=Lib.hid hxr
    have HRG:=Lib.hid hC
    unfold recN at hB
    dsimp only at hB
    have h0:=hB.cell 0
    have h1:=hB.cell 1
    have v0:=hV.cell 0
    have f0:=hV.frozen 0
    obtain ⟨oa,hoa⟩:∃ oa:Array Value,oa=#[.int .i64 (x1:Int),.slice (some ⟨x3,0,none⟩) x2 x4]:=⟨_,rfl⟩
    have hos:oa.size=2:=by rw [hoa];rfl
    obtain ⟨d3,hrow,hgr⟩:=app_own (P:=Tryz.prog) (w:=W.alloc (.cells oa 43)) w.heap.size 37 37 43 im (.agg #[.int .i64 0,.slice none 0 0]) 2 32 Tryz.underlying37 him hzm0 hzm1 hzm2 rfl (by decide)
      (.slice Av k cv) k (rcN xs) (own_ext hown (ext_new W (.cells oa 43))) ⟨W.heap.size,0,none⟩ 1 1 oa.toList (by simp [hos]) (fun j u hj=>by
        rw [Addr.add_mid,Nat.zero_add]
        exact ((Blk.new W 43 oa).cell j).trans (by simpa using hj)) (by rw [hoa];simp [Value.oneCell']) (by unfold maxLen;omega) (by omega) (by simp;exact Nat.le_trans (Nat.le_trans HEW.out.size (Nat.le_refl _)) (Nat.le_succ _))
    have hE4:ExtS (fun j=>(Value.slice Av k cv).ownBlock=some j) W (appW Tryz.prog (W.alloc (.cells oa 43)) 37 37 (.slice Av k cv) (.slice (some ⟨W.heap.size,0,none⟩) 1 1)):=(ExtS.of_ext (ext_new W (.cells oa 43))).trans ⟨hgr.os,hgr.tape,hgr.output,hgr.size,fun i hi hn=>hgr.block i hi (fun e=>hn e.symm)⟩
    have HOA:=Lib.hid hoa
    have hlb:=hB.lt
    have hl2:=hV.lt
    obtain ⟨g,cap,hv9⟩:=ownsRow_succ hrow
    rw [hv9] at hrow
    generalize hW3:appW Tryz.prog (W.alloc (.cells oa 43)) 37 37 (.slice Av k cv) (.slice (some ⟨W.heap.size,0,none⟩) 1 1)=W3 at hrow hgr hE4
    rw [hoa] at d3 hv9 hW3
    have HX4:=Lib.hid hE4
    have HOWN:=Lib.hid hown
    have HV3:=Lib.hid (hV.extS hE4 (own_not hown hV (by decide)))
    have HE3:=Lib.hid (hE4.below hE (own_low hown))
    have HROW:=Lib.hid hrow
    have HKEEP:=Lib.hid ((KeepsOthers.alloc W (.cells oa 43)).trans (KeepsOthers.of_grownBy hgr (own_isCells (own_ext hown (ext_new W (.cells oa 43))))))
    have v3:=HV3.out.cell 0
    have f3:=HV3.out.frozen 0
    clear hB hm hE hRC hV hown hxr hoa hrow hgr hE4 hC
    gi_wp2
    have hE':Below w.heap.size w (W3.setCell ⟨w.heap.size,0,none⟩ (.slice (some ⟨g,0,none⟩) (k+1) cap)):=ext_set HE3.out (Nat.le_refl _) _
    refine ⟨(HKEEP.out.trans (KeepsOthers.setCell W3 ⟨w.heap.size,0,none⟩ (.slice (some ⟨g,0,none⟩) (k+1) cap))).from _,hE',HRG.out.ext hE',.slice (some ⟨g,0,none⟩) (k+1) cap,xs++[(x1,x2,x3,x4)],by simp [hlen],HV3.out.set_ 0 _,?_,fun h=>absurd h (by omega),?_⟩
    · have h9:=own_setbox HROW.out HV3.out (by decide) (.slice (some ⟨g,0,none⟩) (k+1) cap)
      rw [HOA.out] at h9
      rw [rcN_append]
      exact h9
    · intro i y hy
      have h8:RecMG first R i y W:=by
        by_cases hi:i<xs.length
        · rw [List.getElem?_append_left hi] at hy
          exact HXR.out i y hy
        · have hi2:i=xs.length:=by have:=(List.getElem?_eq_some_iff.1 hy).1;simp at this;omega
          subst hi2
          rw [List.getElem?_append_right (Nat.le_refl _)] at hy
          simp at hy
          subst hy
          rw [hlen]
          exact HMX.out
      have h7:=h8.extS HX4.out (own_not HOWN.out h8.blk.choose_spec (by decide))
      exact h7.far (h7.ne HV3.out (by decide)) _
  case done=>
    rintro D W hD ⟨hE,hRC,v,xs,hlen,hv,hown,hnil,hxr⟩ hK
    obtain ⟨Av,cv,rfl⟩:=own_shape hown
    have v0:=hv.cell 0
    have HE2:=Lib.hid hE
    have HOWN:=Lib.hid hown
    have HXR:=Lib.hid hxr
    clear hE hRC hv hown hxr
    go_wp2
    refine ⟨by simp,.inl ⟨_,_,rfl,run_takeDeferred hK,?_⟩⟩
    have hr9:∀ r,some D=some r→∃ o:Obj,W.heap[r]? = some o∧o.isCells=false:=fun r e=>by injection e with e;subst e;exact ⟨_,hK,rfl⟩
    refine ⟨_,results_tmp rfl _ _ _,.slice Av N cv,xs,rfl,hlen,by rw [hlen];exact own_keptP HOWN.out (grownBy_putObj' W D _) hr9,fun h=>hnil (hlen.symm.trans h),fun i x hx=>(HXR.out i x hx).kept (grownBy_putObj' W D _) hr9,?_⟩
    exact ext_put HE2.out (by simp at hD;omega) _
theorem collectS (B gs gl b1 b2 b3 first last:Nat) (rv hv:Value) (R:List (List ChgT × Nat × Nat)) (H:List (ByteArray × ByteArray)) (hf:1≤first) (hf2:first≤1000) (hR:R.length≤1000) (hG:∀ x ∈ R,GoodL x.1) (w:World) (hC:RecG B gs gl b1 b2 b3 first last rv hv R H w) :
    Calls Tryz.prog 41 #[.func (.func 78) #[] #[.pointer (some ⟨b1,0,none⟩),.pointer (some ⟨b2,0,none⟩),.pointer (some ⟨b3,0,none⟩)]] w
      fun e w'=>∃ v xs,e=.returned v∧xs.length=nRec first last R.length∧w'.ownsRow w.heap.size 43 2 v xs.length (rcN xs)∧(xs.length=0→v=.slice none 0 0)∧(∀ (i:Nat) (x:Nat × Nat × Nat × Nat),xs[i]? = some x→RecMG first R i x w')∧Below w.heap.size w w':=by
  have HA:=Lib.hid (appendSeqS B gs gl b1 b2 b3 first last rv hv R H hf hf2 hR hG w hC)
  clear hC
  go_enter Tryz.func41,Tryz.ntmps41
  go_wp2_with fail
  refine HA.out.mono ?_
  rintro e W1 ⟨v,xs,rfl,h0,h1,h2,h3,h4⟩
  have H1:=Lib.hid h1
  have H2:=Lib.hid h2
  have H3:=Lib.hid h3
  have H4:=Lib.hid h4
  have H0:=Lib.hid h0
  clear h0 h1 h2 h3 h4
  go_wp2
  go_ret
  exact ⟨v,xs,rfl,H0.out,H1.out,H2.out,H3.out,H4.out⟩
theorem recordsS (B gs gl first last:Nat) (rv hv:Value) (R:List (List ChgT × Nat × Nat)) (H:List (ByteArray × ByteArray)) (hf:1≤first) (hf2:first≤1000) (hR:R.length≤1000) (hG:∀ x ∈ R,GoodL x.1) (w:World) (h0:w.cell? ⟨gs,0,none⟩=some (.pointer (some ⟨gl,0,none⟩))) (hl:LogG B w gl rv hv R H) :
    Calls Tryz.prog 12 #[.pointer (some ⟨gs,0,none⟩),.int .i64 (first:Int),.int .i64 (last:Int)] w
      fun e w'=>∃ v xs,e=.returned v∧xs.length=nRec first last R.length∧w'.ownsRow w.heap.size 43 2 v xs.length (rcN xs)∧(xs.length=0→v=.slice none 0 0)∧(∀ (i:Nat) (x:Nat × Nat × Nat × Nat),xs[i]? = some x→RecMG first R i x w')∧Below w.heap.size w w':=by
  obtain ⟨X,hX⟩:∃ X,X=((w.alloc (.cells #[.pointer (some ⟨gs,0,none⟩)] 24)).alloc (.cells #[.int .i64 (first:Int)] 3)).alloc (.cells #[.int .i64 (last:Int)] 3):=⟨_,rfl⟩
  have HE:=Lib.hid (show Below w.heap.size w X by rw [hX];exact ext_alloc (ext_alloc (ext_new _ _) _) _)
  have HC:=Lib.hid (show RecG B gs gl (w.heap.size+1) (w.heap.size+1+1) w.heap.size first last rv hv R H X from
    ⟨by rw [hX];exact (Blk.new' _ _ _ (by simp)).alloc _,by rw [hX];exact Blk.new' _ _ _ (by simp),by rw [hX];exact ((Blk.new _ _ _).alloc _).alloc _,cell_ext h0 HE.out,hl.ext HE.out⟩)
  have HX:=Lib.hid hX
  have HG:=Lib.hid hG
  clear hX h0 hl hG
  go_enter Tryz.func12,Tryz.ntmps12
  go_wp2_with fail
  refine (records_any gs (first:Int) (last:Int) w).mono ?_
  rintro e w' ⟨rfl,hw'⟩
  rw [← HX.out] at hw'
  subst w'
  go_wp2_with fail
  refine (collectS B gs gl _ _ _ first last rv hv R H hf hf2 hR HG.out X HC.out).mono ?_
  rintro e W1 ⟨v,xs,rfl,h0,h1,h2,h3,h4⟩
  have H1:=Lib.hid (own_base h1 HE.out.size)
  have H2:=Lib.hid h2
  have H3:=Lib.hid h3
  have H4:=Lib.hid (ext_call HE.out h4)
  have H0:=Lib.hid h0
  clear h0 h1 h2 h3 h4
  go_wp2
  go_ret
  exact ⟨v,xs,rfl,H0.out,H1.out,H2.out,H3.out,H4.out⟩
end Go.Proofs.YtnajpjnnlocfgaaGreatDoor
