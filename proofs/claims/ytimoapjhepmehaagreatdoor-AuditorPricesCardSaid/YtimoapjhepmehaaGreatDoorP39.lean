/-
  package proof: Replay at a query for a row.
-/
import Derived.Test.YtimoapjhepmehaaGreatDoorP38
import Derived.Test.YtimoapjhepmehaaGreatDoorP26
set_option linter.unusedSimpArgs false
set_option linter.unusedVariables false
namespace Go.Proofs.YtimoapjhepmehaaGreatDoor
open Go.RowKit Go.Shelf
attribute [local go_sem ↓] Go.wp_at_zero Go.wp_at_succ
def replF (t k:Int) (l:List RowT) (Ls:List (List ChgT)):List RowT:=Ls.foldl (patsF t k) l
def sinceF (t k:Int) (base:Nat) (Ls:List (List ChgT)):Nat→Nat
  | 0=>base
  | i+1=>if tchsF t k (Ls.getD i []) then base+1+i else sinceF t k base Ls i
theorem sinceF_le (t k:Int) (base:Nat) (Ls:List (List ChgT)):∀ i,base≤sinceF t k base Ls i∧sinceF t k base Ls i≤base+i
  | 0=>⟨Nat.le_refl _,Nat.le_refl _⟩
  | i+1=>by
    have:=sinceF_le t k base Ls i
    unfold sinceF
    split <;> omega
theorem OneK.repl {t k:Int} {l:List RowT} (h:OneK t k l):∀ Ls:List (List ChgT),OneK t k (replF t k l Ls):=by
  intro Ls
  induction Ls generalizing l with
  | nil=>exact h
  | cons L Ls ih=>exact ih (h.pats L)
theorem replF_snoc (t k:Int) (l:List RowT) (Ls:List (List ChgT)) (L:List ChgT):replF t k l (Ls++[L])=patsF t k (replF t k l Ls) L:=by simp [replF]
set_option maxRecDepth 100000 in
set_option maxHeartbeats 4000000 in
theorem replayQ (t k:Int) (hq:QryT.Ok ⟨1,t,0,k,k,0,0⟩) (Ls:List (List ChgT)) (hLs:Ls.length≤100) (base:Nat) (hbase:base≤1000) (hG:∀ L ∈ Ls,L.length≤8∧∀ c ∈ L,c.ok∧c.turns=true) (l:List RowT) (hl:OneK t k l) (v lv:Value) (val:Int) (fd:Bool) (w:World) (hv:RowsL w v l) (hlv:RecsO w lv (base+1) Ls) :
    Calls Tryz.prog 56 #[.agg #[.int .i64 1,.int .i64 t,.int .i64 0,.int .i64 k,.int .i64 k,.int .i64 0,.int .i64 0],.agg #[v,.int .i64 val,.bool fd],.int .i64 (base:Int),lv] w fun e w'=>∃ u,e=.returned (.tuple #[.agg #[u,.int .i64 val,.bool fd],.int .i64 (sinceF t k base Ls Ls.length:Int),.bool true])∧RowsL w' u (replF t k l Ls)∧Below w.heap.size w w':=by
  have HAP:=Lib.hid (fun (L:List ChgT) (h:L ∈ Ls) (m:List RowT) (hm:OneK t k m) (pos:Int) (u cv:Value) (W:World) (hu:RowsL W u m) (hc:ChgsAt W cv L)=>applyRowQ t k hq L (hG L h).1 (hG L h).2 m hm pos u cv val fd W hu hc)
  obtain ⟨W0,hW0⟩:∃ W0,W0=((w.alloc (.cells #[.int .i64 1,.int .i64 t,.int .i64 0,.int .i64 k,.int .i64 k,.int .i64 0,.int .i64 0] 33)).alloc (.cells #[v,.int .i64 val,.bool fd] 36)).alloc (.cells #[.slice none 0 0,.int .i64 0,.bool false] 36):=⟨_,rfl⟩
  have HE0:=Lib.hid (show Below w.heap.size w W0 by rw [hW0];exact ext_alloc (ext_alloc (ext_new _ _) _) _)
  have HQ0:=Lib.hid (show Blk W0 w.heap.size 33 #[.int .i64 1,.int .i64 t,.int .i64 0,.int .i64 k,.int .i64 k,.int .i64 0,.int .i64 0] by rw [hW0];exact ((Blk.new _ _ _).alloc _).alloc _)
  have HR0:=Lib.hid (show Blk W0 (w.heap.size+1) 36 #[v,.int .i64 val,.bool fd] by rw [hW0];exact (Blk.new' _ _ _ (by simp)).alloc _)
  have HO0:=Lib.hid (show Blk W0 (w.heap.size+1+1) 36 #[.slice none 0 0,.int .i64 0,.bool false] by rw [hW0];exact Blk.new' _ _ _ (by simp))
  have HCL:=Lib.hid (cloneRowsG l v (Nat.le_trans hl.1 (by omega)) W0 (hv.ext HE0.out))
  have HLV:=Lib.hid hlv
  have HOK:=Lib.hid hl
  have HW0:=Lib.hid hW0
  obtain ⟨A,cc,rfl,-⟩:=hv
  obtain ⟨Al,cl,rfl,-⟩:=hlv
  clear hW0 hG hq hl
  go_enter Tryz.func56,Tryz.ntmps56
  go_upto_region 2 with (fail)
  rw [← HW0.out]
  have r0:=HR0.out.cell 0
  go_wp2_with fail
  refine HCL.out.mono ?_
  rintro e W1 ⟨u,rfl,hu,hb1⟩
  have hR1:=HR0.out.ext hb1
  have HE1:=Lib.hid (ext_call HE0.out hb1)
  obtain ⟨Au,cu,rfl⟩:=own_shape hu
  have r0:=hR1.cell 0
  have f0:=hR1.frozen 0
  obtain ⟨X,hX⟩:∃ X,X=W1.setCell ⟨w.heap.size+1,0,none⟩ (.slice Au l.length cu):=⟨_,rfl⟩
  have HQX:=Lib.hid (show Blk X w.heap.size 33 #[.int .i64 1,.int .i64 t,.int .i64 0,.int .i64 k,.int .i64 k,.int .i64 0,.int .i64 0] by rw [hX];exact (HQ0.out.ext hb1).far (p:=⟨w.heap.size+1,0,none⟩) (by simp) _)
  have HRX:=Lib.hid (show Blk X (w.heap.size+1) 36 #[.slice Au l.length cu,.int .i64 val,.bool fd] by rw [hX];exact hR1.set_ 0 _)
  have HOX:=Lib.hid (show Blk X (w.heap.size+1+1) 36 #[.slice none 0 0,.int .i64 0,.bool false] by rw [hX];exact (HO0.out.ext hb1).far (p:=⟨w.heap.size+1,0,none⟩) (by simp) _)
  have HEX:=Lib.hid (show Below w.heap.size w X by rw [hX];exact ext_set HE1.out (by simp) _)
  have HLX:=Lib.hid (show RowsL X (.slice Au l.length cu) l by rw [hX];exact (own_rows5 hu).off (b:=w.heap.size+1) (i:=0) r0)
  have HXE:=Lib.hid hX
  clear hu hb1 hR1 hX HR0 HO0 HQ0 HCL HE0
  go_upto_region 3 with (fail)
  rw [← HXE.out]
  clear r0 f0 HXE
  go_wp2
  go_loopw [11,12,13,14,15,16,24] (fun sv _ _ _ _ _ iv W=>∃ (i:Nat) (u:Value),i≤Ls.length∧iv=.int .i64 (i:Int)∧sv=.int .i64 (sinceF t k base Ls i:Int)∧Blk W w.heap.size 33 #[.int .i64 1,.int .i64 t,.int .i64 0,.int .i64 k,.int .i64 k,.int .i64 0,.int .i64 0]∧Blk W (w.heap.size+1) 36 #[u,.int .i64 val,.bool fd]∧Blk W (w.heap.size+1+1) 36 #[.slice none 0 0,.int .i64 0,.bool false]∧RowsL W u (replF t k l (Ls.take i))∧Below w.heap.size w W) (fun _ _ _ _ _ _ iv _=>Ls.length-(intOf iv).toNat)
  case atStart=>exact ⟨0,_,Nat.zero_le _,rfl,rfl,HQX.out,HRX.out,HOX.out,HLX.out,HEX.out⟩
  case round=>
    obtain ⟨i,u,hi,rfl,rfl,hQ,hR,hO,hU,hE⟩:=hrel
    have HQ:=Lib.hid hQ
    have HR:=Lib.hid hR
    have HO:=Lib.hid hO
    have HU:=Lib.hid hU
    have HE:=Lib.hid hE
    have HKK:=Lib.hid (HOK.out.repl (Ls.take i))
    clear hQ hR hO hU hE HQX HRX HOX HLX HEX
    by_cases hlt:i<Ls.length
    · obtain ⟨L,hL⟩:∃ L,Ls[i]? = some L:=⟨_,List.getElem?_eq_getElem hlt⟩
      have hLm:=List.mem_of_getElem? hL
      have HA:=Lib.hid (fun (pos:Int) (u cv:Value) (W:World) (hu:RowsL W u (replF t k l (Ls.take i))) (hc:ChgsAt W cv L)=>HAP.out L hLm _ HKK.out pos u cv W hu hc)
      have HTK:=Lib.hid (show Ls.take (i+1)=Ls.take i++[L] by rw [List.take_add_one,hL];rfl)
      have HRS:=Lib.hid (replF_snoc t k l (Ls.take i) L)
      have HSS:=Lib.hid (show sinceF t k base Ls (i+1)=if tchsF t k L then base+1+i else sinceF t k base Ls i by rw [sinceF,List.getD_eq_getElem?_getD,hL];rfl)
      obtain ⟨A',c',hA',h9⟩:=HLV.out
      injection hA' with hA1 _ hA3
      subst hA1;subst hA3
      obtain ⟨b,off,rfl,hcell⟩:=h9 (by omega)
      obtain ⟨z0,cv,z1,hcv⟩:=hcell i L hL
      have HCV:=Lib.hid (hcv.ext HE.out)
      obtain ⟨Ac,ccv,rfl,-⟩:=hcv
      have z0:=cell_ext z0 HE.out
      have z1:=cell_ext z1 HE.out
      rw [show (((base+1:Nat)):Int)+(i:Int)=(base:Int)+1+(i:Int) by omega] at z0
      obtain ⟨m,hm⟩:∃ m,m=replF t k l (Ls.take i):=⟨_,rfl⟩
      obtain ⟨m2,hm2⟩:∃ m2,m2=patsF t k m L:=⟨_,rfl⟩
      obtain ⟨tc,htc⟩:∃ tc,tc=tchsF t k L:=⟨_,rfl⟩
      obtain ⟨sv,hsv⟩:∃ sv,sv=sinceF t k base Ls i:=⟨_,rfl⟩
      rw [← hm] at HA HU HRS
      rw [← hm2] at HA HRS
      rw [← htc] at HA HSS
      rw [← hsv] at HSS ⊢
      obtain ⟨Au2,cu2,rfl,-⟩:=id HU.out
      obtain ⟨pp,hpp⟩:∃ pp:Int,pp=(base:Int)+1+(i:Int):=⟨_,rfl⟩
      have HPP:=Lib.hid hpp
      have e2:IntKind.i64.wrap ((i:Int)+1)=(i:Int)+1:=IntWalk.i64_in _ (by omega)
      have e3:IntKind.i64.wrap (9223372036854775806-(i:Int))=9223372036854775806-(i:Int):=IntWalk.i64_in _ (by omega)
      have e4:IntKind.i64.wrap ((base:Int)+1)=(base:Int)+1:=IntWalk.i64_in _ (by omega)
      have e5:IntKind.i64.wrap ((base:Int)+1+(i:Int))=pp:=by rw [IntWalk.i64_in _ (by omega),hpp]
      have d3:¬ (9223372036854775806-(i:Int)<(base:Int)):=by omega
      have d1:decide ((i:Int)<(Ls.length:Int))=true:=decide_eq_true (by omega)
      have q0:(0:Int)≤(i:Int):=by omega
      have q1:(i:Int)<(Ls.length:Int):=by omega
      rw [← hpp] at z0
      have HEY:=Lib.hid (ext_new wr (.cells #[.int .i64 pp,.slice Ac L.length ccv] 75))
      have HBY:=Lib.hid (Blk.new wr 75 #[.int .i64 pp,.slice Ac L.length ccv])
      clear h9 hcell hL hLm hm hm2 htc hsv hpp
      go_upto_region 6 with (fail)
      obtain ⟨Y,hY⟩:∃ Y,Y=wr.alloc (.cells #[.int .i64 pp,.slice Ac L.length ccv] 75):=⟨_,rfl⟩
      rw [← hY] at HEY HBY ⊢
      have HQY:=Lib.hid (HQ.out.ext HEY.out)
      have HRY:=Lib.hid (HR.out.ext HEY.out)
      have HOY:=Lib.hid (HO.out.ext HEY.out)
      have HUY:=Lib.hid (HU.out.ext HEY.out)
      have HCY:=Lib.hid (HCV.out.ext HEY.out)
      have HWY:=Lib.hid (ext_call HE.out HEY.out)
      clear hY z0 z1 HEY
      have q0:=HQY.out.cell 0;have q1:=HQY.out.cell 1;have q2:=HQY.out.cell 2;have q3:=HQY.out.cell 3;have q4:=HQY.out.cell 4;have q5:=HQY.out.cell 5;have q6:=HQY.out.cell 6
      have r0:=HRY.out.cell 0;have r1:=HRY.out.cell 1;have r2:=HRY.out.cell 2
      have x0:=HBY.out.cell 0;have x1:=HBY.out.cell 1
      go_wp2_with fail
      refine (HA.out _ _ _ _ HUY.out HCY.out).mono ?_
      rintro e W3 ⟨u3,rfl,hu3,hb3⟩
      obtain ⟨Au3,cu3,rfl,-⟩:=id hu3
      have HE4:=Lib.hid (ext_new W3 (.cells #[.slice Au3 m2.length cu3,.int .i64 val,.bool fd] 36))
      have HQ3:=Lib.hid ((HQY.out.ext hb3).ext HE4.out)
      have HR3:=Lib.hid ((HRY.out.ext hb3).ext HE4.out)
      have HO3:=Lib.hid ((HOY.out.ext hb3).ext HE4.out)
      have HX3:=Lib.hid ((HBY.out.ext hb3).ext HE4.out)
      have HU3:=Lib.hid (hu3.ext HE4.out)
      have HE3:=Lib.hid (ext_call (ext_call HWY.out hb3) HE4.out)
      have hbl:w.heap.size+1+1<W3.heap.size:=(HOY.out.ext hb3).lt
      have hwl:wr.heap.size<W3.heap.size:=(HBY.out.ext hb3).lt
      clear hb3 hu3 q0 q1 q2 q3 q4 q5 q6 r0 r1 r2 x0 x1 HQY HRY HOY HUY HBY HWY HCY HE4
      have r0:=HR3.out.cell 0;have r1:=HR3.out.cell 1;have r2:=HR3.out.cell 2
      have x0:=HX3.out.cell 0;have x1:=HX3.out.cell 1
      have f0:=HR3.out.frozen 0
      have f1:=HR3.out.frozen 1
      have f2:=HR3.out.frozen 2
      have HREL:=Lib.hid (show Blk (World.setCell (World.setCell (World.setCell (W3.alloc (.cells #[.slice Au3 m2.length cu3,.int .i64 val,.bool fd] 36)) ⟨w.heap.size+1,0,none⟩ (.slice Au3 m2.length cu3)) ⟨w.heap.size+1,1,none⟩ (.int .i64 val)) ⟨w.heap.size+1,2,none⟩ (.bool fd)) w.heap.size 33 #[.int .i64 1,.int .i64 t,.int .i64 0,.int .i64 k,.int .i64 k,.int .i64 0,.int .i64 0]∧Blk (World.setCell (World.setCell (World.setCell (W3.alloc (.cells #[.slice Au3 m2.length cu3,.int .i64 val,.bool fd] 36)) ⟨w.heap.size+1,0,none⟩ (.slice Au3 m2.length cu3)) ⟨w.heap.size+1,1,none⟩ (.int .i64 val)) ⟨w.heap.size+1,2,none⟩ (.bool fd)) (w.heap.size+1) 36 #[.slice Au3 m2.length cu3,.int .i64 val,.bool fd]∧Blk (World.setCell (World.setCell (World.setCell (W3.alloc (.cells #[.slice Au3 m2.length cu3,.int .i64 val,.bool fd] 36)) ⟨w.heap.size+1,0,none⟩ (.slice Au3 m2.length cu3)) ⟨w.heap.size+1,1,none⟩ (.int .i64 val)) ⟨w.heap.size+1,2,none⟩ (.bool fd)) (w.heap.size+1+1) 36 #[.slice none 0 0,.int .i64 0,.bool false]∧RowsL (World.setCell (World.setCell (World.setCell (W3.alloc (.cells #[.slice Au3 m2.length cu3,.int .i64 val,.bool fd] 36)) ⟨w.heap.size+1,0,none⟩ (.slice Au3 m2.length cu3)) ⟨w.heap.size+1,1,none⟩ (.int .i64 val)) ⟨w.heap.size+1,2,none⟩ (.bool fd)) (.slice Au3 m2.length cu3) (replF t k l (Ls.take (i+1)))∧Below w.heap.size w (World.setCell (World.setCell (World.setCell (W3.alloc (.cells #[.slice Au3 m2.length cu3,.int .i64 val,.bool fd] 36)) ⟨w.heap.size+1,0,none⟩ (.slice Au3 m2.length cu3)) ⟨w.heap.size+1,1,none⟩ (.int .i64 val)) ⟨w.heap.size+1,2,none⟩ (.bool fd)) from by
        refine ⟨?_,?_,?_,?_,?_⟩
        · exact ((HQ3.out.far (p:=⟨w.heap.size+1,0,none⟩) (by simp) _).far (p:=⟨w.heap.size+1,1,none⟩) (by simp) _).far (p:=⟨w.heap.size+1,2,none⟩) (by simp) _
        · exact ((HR3.out.set_ 0 _).set_ 1 _).set_ 2 _
        · exact ((HO3.out.far (p:=⟨w.heap.size+1,0,none⟩) (by simp <;> omega) _).far (p:=⟨w.heap.size+1,1,none⟩) (by simp <;> omega) _).far (p:=⟨w.heap.size+1,2,none⟩) (by simp <;> omega) _
        · rw [HTK.out,HRS.out]
          have h1:=HU3.out.off (b:=w.heap.size+1) (i:=0) (u:=.slice Au3 m2.length cu3) r0
          have h2:=h1.off (b:=w.heap.size+1) (i:=1) (u:=.int .i64 val) ((HR3.out.set_ 0 (.slice Au3 m2.length cu3)).cell 0)
          exact h2.off (b:=w.heap.size+1) (i:=2) (u:=.bool fd) (((HR3.out.set_ 0 (.slice Au3 m2.length cu3)).set_ 1 (.int .i64 val)).cell 0)
        · exact ext_set (ext_set (ext_set HE3.out (by simp) _) (by simp) _) (by simp) _)
      have hwo:w.heap.size+1+1<wr.heap.size:=HO.out.lt
      have hne:¬ wr.heap.size=w.heap.size+1:=by omega
      have hne2:¬ w.heap.size+1=wr.heap.size:=by omega
      cases tc with
      | true=>
        go_wp2
        go_roundw
        case rel=>exact ⟨i+1,_,by omega,by go_num,by rw [HSS.out,HPP.out];simp,HREL.out⟩
        case measure=>simp [intOf];omega
      | false=>
        go_wp2
        go_roundw
        case rel=>exact ⟨i+1,_,by omega,by go_num,by rw [HSS.out];simp,HREL.out⟩
        case measure=>simp [intOf];omega
    · have hil:i=Ls.length:=by omega
      have d1:decide ((i:Int)<(Ls.length:Int))=false:=decide_eq_false (by omega)
      have HEQ:=Lib.hid (show Ls.take i=Ls by rw [hil,List.take_length])
      have HSI:=Lib.hid (show sinceF t k base Ls i=sinceF t k base Ls Ls.length by rw [hil])
      obtain ⟨Au2,cu2,rfl,-⟩:=id HU.out
      rw [HEQ.out] at HU HR
      rw [HSI.out]
      have hR:=HR.out
      have r0:=hR.cell 0;have r1:=hR.cell 1;have r2:=hR.cell 2
      have o0:=HO.out.cell 0;have o1:=HO.out.cell 1;have o2:=HO.out.cell 2
      have f0:=HO.out.frozen 0
      have f1:=HO.out.frozen 1
      have f2:=HO.out.frozen 2
      clear hR hil
      go_wp2
      have hBf:=((HO.out.set_ 0 (.slice Au2 (replF t k l Ls).length cu2)).set_ 1 (.int .i64 val)).set_ 2 (.bool fd)
      have y0:=hBf.cell 0;have y1:=hBf.cell 1;have y2:=hBf.cell 2
      refine bodyPost_ret (v:=.tuple #[.agg #[.slice Au2 (replF t k l Ls).length cu2,.int .i64 val,.bool fd],.int .i64 (sinceF t k base Ls Ls.length:Int),.bool true]) (by simp [results,Tryz.results56,go_sem,y0,y1,y2]) rfl ⟨_,rfl,?_,ext_set (ext_set (ext_set HE.out (by simp;omega) _) (by simp;omega) _) (by simp;omega) _⟩
      have h1:=HU.out.off (b:=w.heap.size+1+1) (i:=0) (u:=.slice Au2 (replF t k l Ls).length cu2) o0
      have h2:=h1.off (b:=w.heap.size+1+1) (i:=1) (u:=.int .i64 val) ((HO.out.set_ 0 (.slice Au2 (replF t k l Ls).length cu2)).cell 0)
      exact h2.off (b:=w.heap.size+1+1) (i:=2) (u:=.bool fd) (((HO.out.set_ 0 (.slice Au2 (replF t k l Ls).length cu2)).set_ 1 (.int .i64 val)).cell 0)
end Go.Proofs.YtimoapjhepmehaaGreatDoor
