/-
  package proof: Start at one range proof, any query but a join.
-/
import Derived.Test.YtimoapjhepmehaaGreatDoorP35
import Derived.Test.YtimoapjhepmehaaGreatDoorP15
set_option linter.unusedSimpArgs false
set_option linter.unusedVariables false
set_option maxHeartbeats 4000000
set_option maxRecDepth 100000
namespace Go.Proofs.YtimoapjhepmehaaGreatDoor
open Go.RowKit Go.Shelf
attribute [local go_sem ↓] Go.wp_at_zero Go.wp_at_succ
def FromOK (q:QryT) (rows:List RowT) (r:ResT):Prop:=∀ (W:World) (v:Value),RowsL W v rows→Calls Tryz.prog 99 #[.agg q.arr,v,.slice none 0 0] W fun e w'=>∃ u,e=.returned (.agg #[u,.int .i64 r.val,.bool r.found])∧RowsL w' u r.rows∧Below W.heap.size W w'
theorem startG (q:QryT) (hq:q.Ok) (hk:q.kind≠7) (p:RPT) (j:Nat) (hp:CompP p j) (hpt:p.t=q.t) (hpj:p.j=q.j) (hpl:p.lo=q.lo) (hph:p.hi=q.hi) (hlen:(rowsP p j).length≤100) (r:ResT) (hF:FromOK q (rowsP p j) r) (v:Value) (w:World) (hv:RPsS (fun _=>True) w v [p]) (hcap:CapV v) :
    Calls Tryz.prog 53 #[.agg q.arr,v] w
      fun e w'=>∃ u,e=.returned (.tuple #[.agg #[u,.int .i64 r.val,.bool r.found],.bool true])∧RowsL w' u r.rows∧Below w.heap.size w w':=by
  have hmf:∀ (fn:Fn) (first cap:Array Value) (w:World),(Instr.makeFunc fn first cap).run Tryz.prog w=.ok (.func fn first cap) w:=fun _ _ _ _=>rfl
  have HQV:=Lib.hid (fun W:World=>queryValid_ok q hq W)
  have HOF:=Lib.hid (fun W:World=>proofOf_ok q hq W)
  have HRD:=Lib.hid (fun (pr g c:Nat) (a b d:Value) (W:World)=>readG p j hp pr g c a b d W)
  rw [hpt,hpj,hpl,hph] at HRD
  obtain ⟨g,c,a,b,d,rfl,hs,hg⟩:=hv.one
  have hc:1≤c:=hcap _ _ _ rfl
  have HFR:=Lib.hid hF
  generalize rowsP p j=rows at *
  obtain ⟨kd,t,jj,lo,hi,by_,o⟩:=q
  obtain ⟨rrows,rval,rfound⟩:=r
  unfold FromOK at HFR
  dsimp only [QryT.arr] at *
  have d7:(kd == 7)=false:=by simpa using hk
  obtain ⟨W0,hW0⟩:∃ W0,W0=((w.alloc (.cells #[.int .i64 kd,.int .i64 t,.int .i64 jj,.int .i64 lo,.int .i64 hi,.int .i64 by_,.int .i64 o] 33)).alloc (.cells #[.slice none 0 0,.int .i64 0,.bool false] 36)).alloc (.cells #[.bool true] 4):=⟨_,rfl⟩
  have hE0:Below w.heap.size w W0:=by rw [hW0];exact ext_alloc (ext_alloc (ext_new _ _) _) _
  have HQ0:=Lib.hid (show Blk W0 w.heap.size 33 #[.int .i64 kd,.int .i64 t,.int .i64 jj,.int .i64 lo,.int .i64 hi,.int .i64 by_,.int .i64 o] by rw [hW0];exact ((Blk.new _ _ _).alloc _).alloc _)
  have HO0:=Lib.hid (show Blk W0 (w.heap.size+1) 36 #[.slice none 0 0,.int .i64 0,.bool false] by rw [hW0];exact (Blk.new' _ _ _ (by simp)).alloc _)
  have HK0:=Lib.hid (show Blk W0 (w.heap.size+1+1) 4 #[.bool true] by rw [hW0];exact Blk.new' _ _ _ (by simp))
  have HG:=Lib.hid (fun (W:World) (h:Below w.heap.size w W)=>show (∀ k,k<9→W.cell? ⟨g,k,none⟩=(p.nums a b d)[k]?)∧RPS (fun _=>True) W p a b d from ⟨fun k hk=>by
    have h1:=hg k hk
    have h2:k<(p.nums a b d).size:=by unfold RPT.nums;simp;omega
    rw [Array.getElem?_eq_getElem h2] at h1 ⊢
    exact cell_ext h1 h,hs.ext h⟩)
  have HE0:=Lib.hid hE0
  have HW0:=Lib.hid hW0
  clear hW0 hE0 hg hs hv hF hcap hp hq
  go_enter_defers Tryz.func53,Tryz.ntmps53
  go_wp2_with fail
  rw [← HW0.out]
  refine (HQV.out _).mono ?_
  rintro e W1 ⟨rfl,hb1⟩
  have HE1:=Lib.hid (ext_call HE0.out hb1)
  have HQ1:=Lib.hid (HQ0.out.ext hb1)
  have HO1:=Lib.hid (HO0.out.ext hb1)
  have HK1:=Lib.hid (HK0.out.ext hb1)
  have q0:=HQ1.out.cell 0;have q1:=HQ1.out.cell 1;have q2:=HQ1.out.cell 2;have q3:=HQ1.out.cell 3;have q4:=HQ1.out.cell 4;have q5:=HQ1.out.cell 5;have q6:=HQ1.out.cell 6
  have ql:=HQ1.out.lt
  clear hb1 HE0 HQ0 HO0 HK0 HW0
  go_wp2_with (go_at_call 97;refine (checkYesG _).mono ?_;rintro e w' ⟨rfl,rfl⟩)
  refine (HOF.out _).mono ?_
  rintro e W2 ⟨rfl,hb2⟩
  have HP2:=Lib.hid ((Blk.new W1 183 #[.slice (some ⟨g,0,none⟩) 1 c]).ext hb2)
  have HE2:=Lib.hid (ext_call (ext_alloc HE1.out (.cells #[.slice (some ⟨g,0,none⟩) 1 c] 183)) hb2)
  have HQ2:=Lib.hid ((HQ1.out.alloc (.cells #[.slice (some ⟨g,0,none⟩) 1 c] 183)).ext hb2)
  have HO2:=Lib.hid ((HO1.out.alloc (.cells #[.slice (some ⟨g,0,none⟩) 1 c] 183)).ext hb2)
  have HK2:=Lib.hid ((HK1.out.alloc (.cells #[.slice (some ⟨g,0,none⟩) 1 c] 183)).ext hb2)
  have HLp:=Lib.hid (show w.heap.size≤W1.heap.size from HE1.out.size)
  clear hb2 ql q0 q1 q2 q3 q4 q5 q6 HE1 HQ1 HO1 HK1
  generalize W1.heap.size=pr at *
  go_wp2_with fail
  refine (HRD.out pr g c a b d _ HP2.out hc (HG.out _ HE2.out).1 (HG.out _ HE2.out).2).mono ?_
  rintro e W3 ⟨v,B,m,rfl,hv,hp3,hx3⟩
  have hQ3:=HQ2.out.ext2 hx3 (blk_neG HQ2.out HP2.out (by decide)) (blk_neG HQ2.out HP2.out (by decide))
  have HO3:=Lib.hid (HO2.out.ext2 hx3 (blk_neG HO2.out HP2.out (by decide)) (blk_neG HO2.out HP2.out (by decide)))
  have HK3:=Lib.hid (HK2.out.ext2 hx3 (blk_neG HK2.out HP2.out (by decide)) (blk_neG HK2.out HP2.out (by decide)))
  have HE3:=Lib.hid (Ext2.below HE2.out HLp.out HLp.out hx3)
  obtain ⟨Av,cv,rfl,-⟩:=id hv
  have HV3:=Lib.hid hv
  have dl:decide ((rows.length:Int)≤100)=true:=decide_eq_true (by omega)
  have q0:=hQ3.cell 0;have q1:=hQ3.cell 1;have q2:=hQ3.cell 2;have q3:=hQ3.cell 3;have q4:=hQ3.cell 4;have q5:=hQ3.cell 5;have q6:=hQ3.cell 6
  have p0:=hp3.cell 0
  clear hv hp3 hx3 hQ3 HE2 HQ2 HO2 HK2 HP2
  go_wp2_with (go_at_call 97;refine (checkYesG _).mono ?_;rintro e w' ⟨rfl,rfl⟩)
  refine (HFR.out _ _ HV3.out).mono ?_
  rintro e W5 ⟨u,rfl,hu,hb5⟩
  obtain ⟨Au,cu,rfl,-⟩:=id hu
  have HO5:=Lib.hid (HO3.out.ext hb5)
  have HK5:=Lib.hid (HK3.out.ext hb5)
  have HE5:=Lib.hid (ext_call HE3.out hb5)
  have HU5:=Lib.hid hu
  clear hu hb5 q0 q1 q2 q3 q4 q5 q6 p0
  have o0:=HO5.out.cell 0;have o1:=HO5.out.cell 1;have o2:=HO5.out.cell 2
  have f0:=HO5.out.frozen 0
  have f1:=HO5.out.frozen 1
  have f2:=HO5.out.frozen 2
  have k0:=HK5.out.cell 0
  have fk:=HK5.out.frozen 0
  go_wp2
  generalize hX:World.setCell (World.setCell (World.setCell (World.setCell W5 ⟨w.heap.size+1,0,none⟩ (.slice Au rrows.length cu)) ⟨w.heap.size+1,1,none⟩ (.int .i64 rval)) ⟨w.heap.size+1,2,none⟩ (.bool rfound)) ⟨w.heap.size+1+1,0,none⟩ (.bool true)=X
  have hOx:Blk X (w.heap.size+1) 36 #[.slice Au rrows.length cu,.int .i64 rval,.bool rfound]:=by subst hX;exact ((((HO5.out.set_ 0 _).set_ 1 _).set_ 2 _).far (p:=⟨w.heap.size+1+1,0,none⟩) (by simp) _)
  have hKx:Blk X (w.heap.size+1+1) 4 #[.bool true]:=by subst hX;exact ((((HK5.out.far (p:=⟨w.heap.size+1,0,none⟩) (by simp) _).far (p:=⟨w.heap.size+1,1,none⟩) (by simp) _).far (p:=⟨w.heap.size+1,2,none⟩) (by simp) _).set_ 0 _)
  have hEx:Below w.heap.size w X:=by subst hX;exact ext_set (ext_set (ext_set (ext_set HE5.out (by simp) _) (by simp) _) (by simp) _) (by simp;omega) _
  have hRx:RowsL X (.slice Au rrows.length cu) rrows:=by
    subst hX
    have h1:=HU5.out.far o0 (by intro n h;cases h) 0 (.slice Au rrows.length cu)
    have h2:=h1.far ((HO5.out.set_ 0 (.slice Au rrows.length cu)).cell 0) (by intro n h;cases h) 1 (.int .i64 rval)
    have h3:=h2.far (((HO5.out.set_ 0 (.slice Au rrows.length cu)).set_ 1 (.int .i64 rval)).cell 0) (by intro n h;cases h) 2 (.bool rfound)
    refine h3.far (x:=.bool true) ?_ (by intro n h;cases h) 0 _
    exact (((HK5.out.far (p:=⟨w.heap.size+1,0,none⟩) (by simp) _).far (p:=⟨w.heap.size+1,1,none⟩) (by simp) _).far (p:=⟨w.heap.size+1,2,none⟩) (by simp) _).cell 0
  clear hX o0 o1 o2 f0 f1 f2 k0 fk
  have o0:=hOx.cell 0;have o1:=hOx.cell 1;have o2:=hOx.cell 2
  have k0:=hKx.cell 0
  refine leaves_cons (f:=96) (args:=#[.pointer (some ⟨w.heap.size+1+1,0,none⟩)]) (by simp) (by simp [go_sem]) ?_
  refine (caughtIdleG _ _).mono ?_
  rintro e u' w'' ⟨rfl,rfl,rfl⟩
  refine leaves_cons (f:=95) (args:=#[.pointer (some ⟨w.heap.size+1+1,0,none⟩),.pointer (some ⟨w.heap.size+1,0,none⟩)]) (by simp [settle]) (by simp [go_sem]) ?_
  refine (startDoneG _ _ _ k0).mono ?_
  rintro e u' w'' ⟨rfl,rfl,rfl⟩
  have HRx:=Lib.hid hRx
  have HEx:=Lib.hid hEx
  clear hRx hEx hOx hKx
  simp [Leaves,settle,results,Tryz.results53,go_sem,o0,o1,o2,k0]
  exact ⟨HRx.out,HEx.out⟩
theorem fromRows (q:QryT) (hq:q.Ok) (h12:q.kind=1∨q.kind=2) (rows:List RowT) (hl:rows.length≤1000):FromOK q rows ⟨rows,0,false⟩:=by
  intro W v hv
  have HQV:=Lib.hid (fun W:World=>queryValid_ok q hq W)
  have HCL:=Lib.hid (fun (W:World) (h:RowsL W v rows)=>cloneRowsG rows v (by omega) W h)
  obtain ⟨kd,t,jj,lo,hi,by_,o⟩:=q
  dsimp only [QryT.arr] at *
  have k3:(kd == 3)=false:=by rcases h12 with h|h <;> subst h <;> rfl
  have k4:(kd == 4)=false:=by rcases h12 with h|h <;> subst h <;> rfl
  have k5:(kd == 5)=false:=by rcases h12 with h|h <;> subst h <;> rfl
  have k6:(kd == 6)=false:=by rcases h12 with h|h <;> subst h <;> rfl
  have k7:(kd == 7)=false:=by rcases h12 with h|h <;> subst h <;> rfl
  obtain ⟨W0,hW0⟩:∃ W0,W0=(W.alloc (.cells #[.int .i64 kd,.int .i64 t,.int .i64 jj,.int .i64 lo,.int .i64 hi,.int .i64 by_,.int .i64 o] 33)).alloc (.cells #[.slice none 0 0,.int .i64 0,.bool false] 36):=⟨_,rfl⟩
  have hE0:Below W.heap.size W W0:=by rw [hW0];exact ext_alloc (ext_new _ _) _
  have HQ0:=Lib.hid (show Blk W0 W.heap.size 33 #[.int .i64 kd,.int .i64 t,.int .i64 jj,.int .i64 lo,.int .i64 hi,.int .i64 by_,.int .i64 o] by rw [hW0];exact (Blk.new _ _ _).alloc _)
  have HO0:=Lib.hid (show Blk W0 (W.heap.size+1) 36 #[.slice none 0 0,.int .i64 0,.bool false] by rw [hW0];exact Blk.new' _ _ _ (by simp))
  have HE0:=Lib.hid hE0
  have HW0:=Lib.hid hW0
  have HV:=Lib.hid hv
  clear hW0 hE0 hq h12 hv
  go_enter Tryz.func99,Tryz.ntmps99
  go_wp2_with fail
  rw [← HW0.out]
  refine (HQV.out _).mono ?_
  rintro e W1 ⟨rfl,hb1⟩
  have HE1:=Lib.hid (ext_call HE0.out hb1)
  have HQ1:=Lib.hid (HQ0.out.ext hb1)
  have HO1:=Lib.hid (HO0.out.ext hb1)
  have q0:=HQ1.out.cell 0;have q1:=HQ1.out.cell 1;have q2:=HQ1.out.cell 2;have q3:=HQ1.out.cell 3;have q4:=HQ1.out.cell 4;have q5:=HQ1.out.cell 5;have q6:=HQ1.out.cell 6
  have ql:=HQ1.out.lt
  clear hb1 HE0 HQ0 HO0 HW0
  go_wp2_with fail
  have hE2:=ext_alloc HE1.out (.cells #[.slice none 0 0,.int .i64 0,.bool false] 36)
  refine (HCL.out _ (HV.out.ext hE2)).mono ?_
  rintro e W2 ⟨u,rfl,hu,hb2⟩
  have HE2:=Lib.hid (ext_call hE2 hb2)
  have HO2:=Lib.hid ((HO1.out.alloc (.cells #[.slice none 0 0,.int .i64 0,.bool false] 36)).ext hb2)
  obtain ⟨Au,cu,rfl⟩:=own_shape hu
  have HU2:=Lib.hid (own_rows5 hu)
  clear hu hb2 hE2 q0 q1 q2 q3 q4 q5 q6
  have o0:=HO2.out.cell 0;have o1:=HO2.out.cell 1;have o2:=HO2.out.cell 2
  have f0:=HO2.out.frozen 0
  have f1:=HO2.out.frozen 1
  have f2:=HO2.out.frozen 2
  go_wp2
  have hBf:=((HO2.out.set_ 0 (.slice Au rows.length cu)).set_ 1 (.int .i64 0)).set_ 2 (.bool false)
  have y0:=hBf.cell 0;have y1:=hBf.cell 1;have y2:=hBf.cell 2
  refine bodyPost_ret (v:=.agg #[.slice Au rows.length cu,.int .i64 0,.bool false]) (by simp [results,Tryz.results99,go_sem,y0,y1,y2]) rfl ⟨_,rfl,?_,ext_set (ext_set (ext_set HE2.out (by simp) _) (by simp) _) (by simp) _⟩
  have h1:=HU2.out.far o0 (by intro n h;cases h) 0 (.slice Au rows.length cu)
  have h2:=h1.far ((HO2.out.set_ 0 (.slice Au rows.length cu)).cell 0) (by intro n h;cases h) 1 (.int .i64 0)
  exact h2.far (((HO2.out.set_ 0 (.slice Au rows.length cu)).set_ 1 (.int .i64 0)).cell 0) (by intro n h;cases h) 2 (.bool false)
end Go.Proofs.YtimoapjhepmehaaGreatDoor
