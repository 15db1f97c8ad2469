/-
  package predicate: Apply at a query for a row.
-/
import Derived.Test.YtimoapjhepmehaaGreatDoorP37
import Derived.Test.YtimoapjhepmehaaGreatDoorP13
set_option linter.unusedSimpArgs false
set_option linter.unusedVariables false
namespace Go.Proofs.YtimoapjhepmehaaGreatDoor
open Go.RowKit Go.Shelf
attribute [local go_sem ↓] Go.wp_at_zero Go.wp_at_succ
def OneK (t k:Int) (l:List RowT):Prop:=l.length≤1∧∀ r ∈ l,r.t=t∧r.k=k
theorem scan_some {t k:Int} {o:Option RowT} (h:(scanR t 0 k k o).isSome=true):∃ r,o=some r∧r.t=t∧r.k=k:=by
  unfold scanR at h
  cases o with
  | none=>cases h
  | some r=>
    by_cases hh:hitR r t 0 k k=true
    · refine ⟨r,rfl,hitR_t hh,?_⟩
      unfold hitR RowT.col at hh
      simp at hh
      omega
    · simp [Option.filter,hh] at h
theorem befC_key {c:ChgT} {r:RowT} (h:befC c=some r):r.t=c.t∧r.k=c.k:=by
  unfold befC at h
  split at h
  · injection h with h;subst h;exact ⟨rfl,rfl⟩
  · cases h
theorem aftC_key {c:ChgT} {r:RowT} (h:aftC c=some r):r.t=c.t∧r.k=c.k:=by
  unfold aftC at h
  split at h
  · injection h with h;subst h;exact ⟨rfl,rfl⟩
  · cases h
theorem tch_key {t k:Int} {c:ChgT} (h:tchF t 0 k k c=true):c.t=t∧c.k=k:=by
  unfold tchF at h
  rw [Bool.or_eq_true] at h
  rcases h with h|h
  · obtain ⟨r,h1,h2,h3⟩:=scan_some h
    have h4:=befC_key h1
    exact ⟨h4.1.symm.trans h2,h4.2.symm.trans h3⟩
  · obtain ⟨r,h1,h2,h3⟩:=scan_some h
    have h4:=aftC_key h1
    exact ⟨h4.1.symm.trans h2,h4.2.symm.trans h3⟩
theorem OneK.pat {t k:Int} {l:List RowT} (h:OneK t k l) (c:ChgT):OneK t k (patF t 0 k k l c):=by
  unfold patF
  split
  · cases hs:scanR t 0 k k (aftC c) with
    | none=>exact ⟨by simp,by simp⟩
    | some r=>
      obtain ⟨r2,h1,h2,h3⟩:=scan_some (by rw [hs];rfl:(scanR t 0 k k (aftC c)).isSome=true)
      have h4:r=r2:=by
        unfold scanR at hs
        rw [h1] at hs
        by_cases hh:hitR r2 t 0 k k=true
        · simp [Option.filter,hh] at hs;exact hs.symm
        · simp [Option.filter,hh] at hs
      subst h4
      exact ⟨by simp,by simp [h2,h3]⟩
  · exact h
def patsF (t k:Int) (l:List RowT) (L:List ChgT):List RowT:=L.foldl (patF t 0 k k) l
def tchsF (t k:Int) (L:List ChgT):Bool:=L.any (tchF t 0 k k)
theorem patsF_snoc (t k:Int) (l:List RowT) (L:List ChgT) (c:ChgT):patsF t k l (L++[c])=patF t 0 k k (patsF t k l L) c:=by simp [patsF]
theorem tchsF_snoc (t k:Int) (L:List ChgT) (c:ChgT):tchsF t k (L++[c])=(tchsF t k L || tchF t 0 k k c):=by simp [tchsF]
theorem OneK.pats {t k:Int} {l:List RowT} (h:OneK t k l):∀ L:List ChgT,OneK t k (patsF t k l L):=by
  intro L
  induction L generalizing l with
  | nil=>exact h
  | cons c L ih=>exact ih (h.pat c)
set_option maxRecDepth 100000 in
set_option maxHeartbeats 4000000 in
theorem applyRowQ (t k:Int) (hq:QryT.Ok ⟨1,t,0,k,k,0,0⟩) (L:List ChgT) (hL:L.length≤8) (hc:∀ c ∈ L,c.ok∧c.turns=true) (l:List RowT) (hl:OneK t k l) (pos:Int) (v cv:Value) (val:Int) (fd:Bool) (w:World) (hv:RowsL w v l) (hcv:ChgsAt w cv L) :
    Calls Tryz.prog 101 #[.agg #[.int .i64 1,.int .i64 t,.int .i64 0,.int .i64 k,.int .i64 k,.int .i64 0,.int .i64 0],.agg #[v,.int .i64 val,.bool fd],.agg #[.int .i64 pos,cv]] w fun e w'=>∃ u,e=.returned (.tuple #[.agg #[u,.int .i64 val,.bool fd],.bool (tchsF t k L),.bool true])∧RowsL w' u (patsF t k l L)∧Below w.heap.size w w':=by
  have HTO:=Lib.hid (fun (c:ChgT) (h:c ∈ L) (W:World)=>touchesRow 1 t k k 0 0 0 hq (.inl rfl) c (hc c h).1 (hc c h).2 W)
  have HPA:=Lib.hid (fun (c:ChgT) (h:c ∈ L) (m:List RowT) (hm:OneK t k m) (u:Value) (W:World) (hu:RowsL W u m)=>patchRow 1 t k k 0 0 0 hq (.inl rfl) c (hc c h).1 (hc c h).2 m (Nat.le_trans hm.1 (by omega)) (fun ht=>⟨hm.1,fun r hr=>by have h1:=hm.2 r hr;have h2:=tch_key ht;exact ⟨h1.1.trans h2.1.symm,h1.2.trans h2.2.symm⟩⟩) u val fd W hu)
  obtain ⟨W0,hW0⟩:∃ W0,W0=(((w.alloc (.cells #[.int .i64 1,.int .i64 t,.int .i64 0,.int .i64 k,.int .i64 k,.int .i64 0,.int .i64 0] 33)).alloc (.cells #[v,.int .i64 val,.bool fd] 36)).alloc (.cells #[.int .i64 pos,cv] 75)).alloc (.cells #[.slice none 0 0,.int .i64 0,.bool false] 36):=⟨_,rfl⟩
  have HE0:=Lib.hid (show Below w.heap.size w W0 by rw [hW0];exact ext_alloc (ext_alloc (ext_alloc (ext_new _ _) _) _) _)
  have HQ0:=Lib.hid (show Blk W0 w.heap.size 33 #[.int .i64 1,.int .i64 t,.int .i64 0,.int .i64 k,.int .i64 k,.int .i64 0,.int .i64 0] by rw [hW0];exact (((Blk.new _ _ _).alloc _).alloc _).alloc _)
  have HR0:=Lib.hid (show Blk W0 (w.heap.size+1) 36 #[v,.int .i64 val,.bool fd] by rw [hW0];exact ((Blk.new' _ _ _ (by simp)).alloc _).alloc _)
  have HX0:=Lib.hid (show Blk W0 (w.heap.size+1+1) 75 #[.int .i64 pos,cv] by rw [hW0];exact (Blk.new' _ _ _ (by simp)).alloc _)
  have HO0:=Lib.hid (show Blk W0 (w.heap.size+1+1+1) 36 #[.slice none 0 0,.int .i64 0,.bool false] by rw [hW0];exact Blk.new' _ _ _ (by simp))
  have HCL:=Lib.hid (cloneRowsG l v (Nat.le_trans hl.1 (by omega)) W0 (hv.ext HE0.out))
  have HCV:=Lib.hid hcv
  have HOK:=Lib.hid hl
  have HW0:=Lib.hid hW0
  obtain ⟨A,cc,rfl,-⟩:=hv
  obtain ⟨Ac,ccc,rfl,hcap,-⟩:=hcv
  clear hW0 hc hq hl
  go_enter Tryz.func101,Tryz.ntmps101
  go_upto_region 2 with (fail)
  rw [← HW0.out]
  have r0:=HR0.out.cell 0
  go_wp2_with fail
  refine HCL.out.mono ?_
  rintro e W1 ⟨u,rfl,hu,hb1⟩
  have hR1:=HR0.out.ext hb1
  have HE1:=Lib.hid (ext_call HE0.out hb1)
  obtain ⟨Au,cu,rfl⟩:=own_shape hu
  have r0:=hR1.cell 0
  have f0:=hR1.frozen 0
  obtain ⟨X,hX⟩:∃ X,X=W1.setCell ⟨w.heap.size+1,0,none⟩ (.slice Au l.length cu):=⟨_,rfl⟩
  have HQX:=Lib.hid (show Blk X w.heap.size 33 #[.int .i64 1,.int .i64 t,.int .i64 0,.int .i64 k,.int .i64 k,.int .i64 0,.int .i64 0] by rw [hX];exact (HQ0.out.ext hb1).far (p:=⟨w.heap.size+1,0,none⟩) (by simp) _)
  have HRX:=Lib.hid (show Blk X (w.heap.size+1) 36 #[.slice Au l.length cu,.int .i64 val,.bool fd] by rw [hX];exact hR1.set_ 0 _)
  have HXX:=Lib.hid (show Blk X (w.heap.size+1+1) 75 #[.int .i64 pos,.slice Ac L.length ccc] by rw [hX];exact (HX0.out.ext hb1).far (p:=⟨w.heap.size+1,0,none⟩) (by simp) _)
  have HOX:=Lib.hid (show Blk X (w.heap.size+1+1+1) 36 #[.slice none 0 0,.int .i64 0,.bool false] by rw [hX];exact (HO0.out.ext hb1).far (p:=⟨w.heap.size+1,0,none⟩) (by simp <;> omega) _)
  have HEX:=Lib.hid (show Below w.heap.size w X by rw [hX];exact ext_set HE1.out (by simp) _)
  have HLX:=Lib.hid (show RowsL X (.slice Au l.length cu) l by rw [hX];exact (own_rows5 hu).off (b:=w.heap.size+1) (i:=0) r0)
  have HXE:=Lib.hid hX
  clear hu hb1 hR1 hX HR0 HO0 HQ0 HX0 HCL HE0
  go_upto_region 3 with (fail)
  rw [← HXE.out]
  clear r0 f0 HXE
  have x1:=HXX.out.cell 1
  go_wp2
  clear x1
  go_loopw [9,11,12,20] (fun tv _ _ iv W=>∃ (i:Nat) (u:Value),i≤L.length∧iv=.int .i64 (i:Int)∧tv=.bool (tchsF t k (L.take i))∧Blk W w.heap.size 33 #[.int .i64 1,.int .i64 t,.int .i64 0,.int .i64 k,.int .i64 k,.int .i64 0,.int .i64 0]∧Blk W (w.heap.size+1) 36 #[u,.int .i64 val,.bool fd]∧Blk W (w.heap.size+1+1+1) 36 #[.slice none 0 0,.int .i64 0,.bool false]∧RowsL W u (patsF t k l (L.take i))∧Below w.heap.size w W) (fun _ _ _ iv _=>L.length-(intOf iv).toNat)
  case atStart=>exact ⟨0,_,Nat.zero_le _,rfl,rfl,HQX.out,HRX.out,HOX.out,HLX.out,HEX.out⟩
  case round=>
    obtain ⟨i,u,hi,rfl,rfl,hQ,hR,hO,hU,hE⟩:=hrel
    have HQ:=Lib.hid hQ
    have HR:=Lib.hid hR
    have HO:=Lib.hid hO
    have HU:=Lib.hid hU
    have HE:=Lib.hid hE
    have HKK:=Lib.hid (HOK.out.pats (L.take i))
    clear hQ hR hO hU hE HQX HRX HXX HOX HLX HEX
    by_cases hlt:i<L.length
    · obtain ⟨c,hc⟩:∃ c,L[i]? = some c:=⟨_,List.getElem?_eq_getElem hlt⟩
      have hcm:=List.mem_of_getElem? hc
      have HT:=Lib.hid (fun W:World=>HTO.out c hcm W)
      have HP:=Lib.hid (fun (u:Value) (W:World) (hu:RowsL W u (patsF t k l (L.take i)))=>HPA.out c hcm _ HKK.out u W hu)
      have HTK:=Lib.hid (show L.take (i+1)=L.take i++[c] by rw [List.take_add_one,hc];rfl)
      have HPS:=Lib.hid (patsF_snoc t k l (L.take i) c)
      have HTS:=Lib.hid (tchsF_snoc t k (L.take i) c)
      obtain ⟨b,off,c',hA,_,hc9⟩:=(HCV.out.ext HE.out).at_ hc
      injection hA with hA hn' hc'
      subst hA;subst hc'
      clear hn'
      have c0:=hc9 0 (by omega)
      have c1:=hc9 1 (by omega)
      have c2:=hc9 2 (by omega)
      have c3:=hc9 3 (by omega)
      have c4:=hc9 4 (by omega)
      have c5:=hc9 5 (by omega)
      have c6:=hc9 6 (by omega)
      have c7:=hc9 7 (by omega)
      have c8:=hc9 8 (by omega)
      have c9:=hc9 9 (by omega)
      obtain ⟨m,hm⟩:∃ m,m=patsF t k l (L.take i):=⟨_,rfl⟩
      obtain ⟨m2,hm2⟩:∃ m2,m2=patF t 0 k k m c:=⟨_,rfl⟩
      obtain ⟨tv,htv⟩:∃ tv,tv=tchsF t k (L.take i):=⟨_,rfl⟩
      obtain ⟨tc,htc⟩:∃ tc,tc=tchF t 0 k k c:=⟨_,rfl⟩
      rw [← hm] at HP HU HPS
      rw [← hm2] at HP HPS
      rw [← htc] at HT HTS
      rw [← htv] at HTS ⊢
      obtain ⟨Au2,cu2,rfl,-⟩:=id HU.out
      obtain ⟨x0,x1,x2,x3,x4,x5,x6,x7,x8,x9⟩:=c
      simp only [ChgT.arr,List.getElem?_toArray,List.getElem?_cons_zero,List.getElem?_cons_succ,Nat.add_zero] at c0 c1 c2 c3 c4 c5 c6 c7 c8 c9
      dsimp only [ChgT.arr] at HT HP
      have e2:IntKind.i64.wrap ((i:Int)+1)=(i:Int)+1:=IntWalk.i64_in _ (by omega)
      have d1:decide ((i:Int)<(L.length:Int))=true:=decide_eq_true (by omega)
      have q0:(0:Int)≤(i:Int):=by omega
      have q1:(i:Int)<(L.length:Int):=by omega
      have HB0:=Lib.hid (Blk.new wr 72 #[.int .i64 x0,.int .i64 x1,.bool x2,.int .i64 x3,.int .i64 x4,.int .i64 x5,.bool x6,.int .i64 x7,.int .i64 x8,.int .i64 x9])
      clear hc9 hc hcm hm hm2 htv htc
      go_upto_region 6 with (fail)
      obtain ⟨Y,hY⟩:∃ Y,Y=wr.alloc (.cells #[.int .i64 x0,.int .i64 x1,.bool x2,.int .i64 x3,.int .i64 x4,.int .i64 x5,.bool x6,.int .i64 x7,.int .i64 x8,.int .i64 x9] 72):=⟨_,rfl⟩
      rw [← hY]
      have HEY:=Lib.hid (show Below wr.heap.size wr Y by rw [hY];exact ext_new _ _)
      rw [← hY] at HB0
      have HQY:=Lib.hid (HQ.out.ext HEY.out)
      have HRY:=Lib.hid (HR.out.ext HEY.out)
      have HOY:=Lib.hid (HO.out.ext HEY.out)
      have HUY:=Lib.hid (HU.out.ext HEY.out)
      have HWY:=Lib.hid (ext_call HE.out HEY.out)
      have HBC:=Lib.hid (show w.heap.size+1+1+1<wr.heap.size from HO.out.lt)
      clear hY c0 c1 c2 c3 c4 c5 c6 c7 c8 c9 HEY
      generalize wr.heap.size=bc at *
      go_cut [9] from 24 to 28 (fun av W=>av=.bool (tv || tc)∧Below Y.heap.size Y W)
      case first=>
        cases tv with
        | true=>
          go_wp2
          go_meet
          case rel=>exact ⟨rfl,ext_refl _⟩
        | false=>
          have q0:=HQY.out.cell 0;have q1:=HQY.out.cell 1;have q2:=HQY.out.cell 2;have q3:=HQY.out.cell 3;have q4:=HQY.out.cell 4;have q5:=HQY.out.cell 5;have q6:=HQY.out.cell 6
          have z0:=HB0.out.cell 0;have z1:=HB0.out.cell 1;have z2:=HB0.out.cell 2;have z3:=HB0.out.cell 3;have z4:=HB0.out.cell 4;have z5:=HB0.out.cell 5;have z6:=HB0.out.cell 6;have z7:=HB0.out.cell 7;have z8:=HB0.out.cell 8;have z9:=HB0.out.cell 9
          go_wp2_with fail
          refine (HT.out _).mono ?_
          rintro e W2 ⟨rfl,hb2⟩
          have HB2:=Lib.hid hb2
          clear q0 q1 q2 q3 q4 q5 q6 z0 z1 z2 z3 z4 z5 z6 z7 z8 z9 hb2
          go_wp2
          go_meet
          case rel=>exact ⟨rfl,HB2.out⟩
      obtain ⟨hav,hEc⟩:=hcut
      subst hav
      have HQc:=Lib.hid (HQY.out.ext hEc)
      have HRc:=Lib.hid (HRY.out.ext hEc)
      have HOc:=Lib.hid (HOY.out.ext hEc)
      have HUc:=Lib.hid (HUY.out.ext hEc)
      have HCc:=Lib.hid (HB0.out.ext hEc)
      have HWc:=Lib.hid (ext_call HWY.out hEc)
      clear hEc HQY HRY HOY HUY HB0 HWY
      have q0:=HQc.out.cell 0;have q1:=HQc.out.cell 1;have q2:=HQc.out.cell 2;have q3:=HQc.out.cell 3;have q4:=HQc.out.cell 4;have q5:=HQc.out.cell 5;have q6:=HQc.out.cell 6
      have r0:=HRc.out.cell 0;have r1:=HRc.out.cell 1;have r2:=HRc.out.cell 2
      have z0:=HCc.out.cell 0;have z1:=HCc.out.cell 1;have z2:=HCc.out.cell 2;have z3:=HCc.out.cell 3;have z4:=HCc.out.cell 4;have z5:=HCc.out.cell 5;have z6:=HCc.out.cell 6;have z7:=HCc.out.cell 7;have z8:=HCc.out.cell 8;have z9:=HCc.out.cell 9
      go_wp2_with fail
      refine (HP.out _ _ HUc.out).mono ?_
      rintro e W3 ⟨u3,rfl,hu3,hb3⟩
      obtain ⟨Au3,cu3,rfl,-⟩:=id hu3
      have HQ3:=Lib.hid (HQc.out.ext hb3)
      have HR3:=Lib.hid (HRc.out.ext hb3)
      have HO3:=Lib.hid (HOc.out.ext hb3)
      have HU3:=Lib.hid hu3
      have HE3:=Lib.hid (ext_call HWc.out hb3)
      clear hb3 hu3 q0 q1 q2 q3 q4 q5 q6 r0 r1 r2 z0 z1 z2 z3 z4 z5 z6 z7 z8 z9 HQc HRc HOc HUc HCc HWc
      have r0:=HR3.out.cell 0;have r1:=HR3.out.cell 1;have r2:=HR3.out.cell 2
      have f0:=HR3.out.frozen 0
      have f1:=HR3.out.frozen 1
      have f2:=HR3.out.frozen 2
      go_wp2
      go_roundw
      case rel=>
        refine ⟨i+1,.slice Au3 m2.length cu3,by omega,by go_num,by rw [HTK.out,HTS.out],?_,?_,?_,?_,?_⟩
        · exact ((HQ3.out.far (p:=⟨w.heap.size+1,0,none⟩) (by simp) _).far (p:=⟨w.heap.size+1,1,none⟩) (by simp) _).far (p:=⟨w.heap.size+1,2,none⟩) (by simp) _
        · exact ((HR3.out.set_ 0 _).set_ 1 _).set_ 2 _
        · exact ((HO3.out.far (p:=⟨w.heap.size+1,0,none⟩) (by simp <;> omega) _).far (p:=⟨w.heap.size+1,1,none⟩) (by simp <;> omega) _).far (p:=⟨w.heap.size+1,2,none⟩) (by simp <;> omega) _
        · rw [HTK.out,HPS.out]
          have h1:=HU3.out.off (b:=w.heap.size+1) (i:=0) (u:=.slice Au3 m2.length cu3) r0
          have h2:=h1.off (b:=w.heap.size+1) (i:=1) (u:=.int .i64 val) ((HR3.out.set_ 0 (.slice Au3 m2.length cu3)).cell 0)
          exact h2.off (b:=w.heap.size+1) (i:=2) (u:=.bool fd) (((HR3.out.set_ 0 (.slice Au3 m2.length cu3)).set_ 1 (.int .i64 val)).cell 0)
        · exact ext_set (ext_set (ext_set HE3.out (by simp) _) (by simp) _) (by simp) _
      case measure=>simp [intOf];omega
    · have hil:i=L.length:=by omega
      have d1:decide ((i:Int)<(L.length:Int))=false:=decide_eq_false (by omega)
      have HEQ:=Lib.hid (show L.take i=L by rw [hil,List.take_length])
      obtain ⟨Au2,cu2,rfl,-⟩:=id HU.out
      rw [HEQ.out] at HU HR ⊢
      have hR:=HR.out
      have r0:=hR.cell 0;have r1:=hR.cell 1;have r2:=hR.cell 2
      have o0:=HO.out.cell 0;have o1:=HO.out.cell 1;have o2:=HO.out.cell 2
      have f0:=HO.out.frozen 0
      have f1:=HO.out.frozen 1
      have f2:=HO.out.frozen 2
      clear hR hil
      go_wp2
      have hBf:=((HO.out.set_ 0 (.slice Au2 (patsF t k l L).length cu2)).set_ 1 (.int .i64 val)).set_ 2 (.bool fd)
      have y0:=hBf.cell 0;have y1:=hBf.cell 1;have y2:=hBf.cell 2
      refine bodyPost_ret (v:=.tuple #[.agg #[.slice Au2 (patsF t k l L).length cu2,.int .i64 val,.bool fd],.bool (tchsF t k L),.bool true]) (by simp [results,Tryz.results101,go_sem,y0,y1,y2]) rfl ⟨_,rfl,?_,ext_set (ext_set (ext_set HE.out (by simp;omega) _) (by simp;omega) _) (by simp;omega) _⟩
      have h1:=HU.out.off (b:=w.heap.size+1+1+1) (i:=0) (u:=.slice Au2 (patsF t k l L).length cu2) o0
      have h2:=h1.off (b:=w.heap.size+1+1+1) (i:=1) (u:=.int .i64 val) ((HO.out.set_ 0 (.slice Au2 (patsF t k l L).length cu2)).cell 0)
      exact h2.off (b:=w.heap.size+1+1+1) (i:=2) (u:=.bool fd) (((HO.out.set_ 0 (.slice Au2 (patsF t k l L).length cu2)).set_ 1 (.int .i64 val)).cell 0)
end Go.Proofs.YtimoapjhepmehaaGreatDoor
