/-
  package predicate: effectOf at any query and change.
-/
import Derived.Test.YtimoapjhepmehaaGreatDoorP20
import Derived.Test.YtimoapjhepmehaaGreatDoorP5
set_option linter.unusedSimpArgs false
set_option linter.unusedVariables false
namespace Go.Proofs.YtimoapjhepmehaaGreatDoor
open Go.RowKit Go.Shelf
attribute [local go_sem ↓] bd_exec bd_sem Go.wp_at_zero Go.wp_at_succ
def effArr (kd t j lo hi b o:Int) (c:ChgT) (pb pa:Value) (old now:Int):Array Value:=#[.int .i64 kd,.int .i64 t,.int .i64 j,.int .i64 lo,.int .i64 hi,.int .i64 b,.int .i64 o,.int .i64 c.t,.int .i64 c.k,.bool c.had,.int .i64 c.o1,.int .i64 c.o2,.int .i64 c.o3,.bool c.has,.int .i64 c.n1,.int .i64 c.n2,.int .i64 c.n3,pb,pa,.int .i64 old,.int .i64 now]
theorem effArr_size {kd t j lo hi b o:Int} {c:ChgT} {pb pa:Value} {old now:Int}:(effArr kd t j lo hi b o c pb pa old now).size=21:=rfl
theorem eff_size:(Tryz.prog.info? 297).map (·.size)=some 21:=by kernel_rfl
theorem effArr_set1 {kd t j lo hi b o:Int} {c:ChgT} {pb pa pb':Value} {old now old':Int}:((effArr kd t j lo hi b o c pb pa old now).setIfInBounds 17 pb').setIfInBounds 19 (.int .i64 old')=effArr kd t j lo hi b o c pb' pa old' now:=rfl
theorem effArr_set2 {kd t j lo hi b o:Int} {c:ChgT} {pb pa pa':Value} {old now now':Int}:((effArr kd t j lo hi b o c pb pa old now).setIfInBounds 18 pa').setIfInBounds 20 (.int .i64 now')=effArr kd t j lo hi b o c pb pa' old now':=rfl
theorem effArr_built (kd t j lo hi b o:Int) (c:ChgT):Tryz.prog.built 297 [(0,.agg #[.int .i64 kd,.int .i64 t,.int .i64 j,.int .i64 lo,.int .i64 hi,.int .i64 b,.int .i64 o]),(1,.agg #[.int .i64 c.t,.int .i64 c.k,.bool c.had,.int .i64 c.o1,.int .i64 c.o2,.int .i64 c.o3,.bool c.has,.int .i64 c.n1,.int .i64 c.n2,.int .i64 c.n3])]=some (effArr kd t j lo hi b o c (.pointer none) (.pointer none) 0 0):=by kernel_rfl
theorem PtrR.far {B b i:Nat} {W:World} {v u:Value} {o:Option RowT} (h:PtrR B W v o) (hb:b<B):PtrR B (W.setCell ⟨b,i,none⟩ u) v o:=by
  cases o with
  | none=>exact h
  | some r=>obtain ⟨g,h1,h2,h3⟩:=h;exact ⟨g,h1,h2,h3.far (p:=⟨b,i,none⟩) (by dsimp only;omega) u⟩
theorem PtrR.grown {B g:Nat} {w W:World} {v:Value} {o:Option RowT} (h:PtrR B w v o) (k:w.grownBy W (some g)) (hg:g<B):PtrR B W v o:=by
  cases o with
  | none=>exact h
  | some r=>obtain ⟨a,h1,h2,h3⟩:=h;exact ⟨a,h1,h2,h3.grown k (by intro e;injection e with e;omega)⟩
set_option maxRecDepth 100000 in
set_option maxHeartbeats 4000000 in
theorem effectOf_any (kd t lo hi o:Int) (j b:Nat) (hj:j<4) (hb:b<4) (c:ChgT) (w:World) :
    Calls Tryz.prog 193 #[.agg #[.int .i64 kd,.int .i64 t,.int .i64 (j:Int),.int .i64 lo,.int .i64 hi,.int .i64 (b:Int),.int .i64 o],.agg c.arr] w fun e w'=>∃ pb pa,e=.returned (.agg (effArr kd t j lo hi b o c pb pa (measR b (scanR t j lo hi (befC c))) (measR b (scanR t j lo hi (aftC c))))) ∧
      PtrR w.heap.size w' pb (scanR t j lo hi (befC c))∧PtrR w.heap.size w' pa (scanR t j lo hi (aftC c))∧Below w.heap.size w w':=by
  have hmf:∀ (fn:Fn) (first cap:Array Value) (w:World),(Instr.makeFunc fn first cap).run Tryz.prog w=.ok (.func fn first cap) w:=fun _ _ _ _=>rfl
  have HBF:=Lib.hid (fun W:World=>before_any c W)
  have HAF:=Lib.hid (fun W:World=>after_any c W)
  have HSB:=Lib.hid (fun (bq:Nat) (W:World) (h:_)=>scanned_any kd t lo hi o j b hj hb (befC c) bq W h)
  have HSA:=Lib.hid (fun (bq:Nat) (W:World) (h:_)=>scanned_any kd t lo hi o j b hj hb (aftC c) bq W h)
  have i1:(befC c).isSome=c.had:=by unfold befC;cases c.had <;> rfl
  have i2:(aftC c).isSome=c.has:=by unfold aftC;cases c.has <;> rfl
  rw [i1] at HSB
  rw [i2] at HSA
  generalize scanR t j lo hi (befC c)=sb at *
  generalize scanR t j lo hi (aftC c)=sa at *
  generalize measR b sb=mb at *
  generalize measR b sa=ma at *
  generalize oR (befC c)=rb at *
  generalize oR (aftC c)=ra at *
  have HST1:=Lib.hid (fun (pb pa pb':Value) (old now old':Int)=>@effArr_set1 kd t j lo hi b o c pb pa pb' old now old')
  have HST2:=Lib.hid (fun (pb pa pa':Value) (old now now':Int)=>@effArr_set2 kd t j lo hi b o c pb pa pa' old now now')
  have HSZ:=Lib.hid (fun (pb pa:Value) (old now:Int)=>@effArr_size kd t j lo hi b o c pb pa old now)
  have HGE:=Lib.hid (fun (pb pa:Value) (old now:Int)=>show (effArr kd t j lo hi b o c pb pa old now)[17]? = some pb∧(effArr kd t j lo hi b o c pb pa old now)[18]? = some pa∧(effArr kd t j lo hi b o c pb pa old now)[19]? = some (.int .i64 old)∧(effArr kd t j lo hi b o c pb pa old now)[20]? = some (.int .i64 now) from ⟨rfl,rfl,rfl,rfl⟩)
  have HON:=Lib.hid (fun (pb pa:Option Addr) (old now:Int)=>show (effArr kd t j lo hi b o c (.pointer pb) (.pointer pa) old now).all (·.oneCell')=true by simp [effArr,Value.oneCell'])
  obtain ⟨E,hE⟩:∃ E,E=effArr kd t j lo hi b o c:=⟨_,rfl⟩
  obtain ⟨d1,e1⟩:=bd_of w (P:=Tryz.prog) (t:=297) (ps:=#[(0,.agg #[.int .i64 kd,.int .i64 t,.int .i64 (j:Int),.int .i64 lo,.int .i64 hi,.int .i64 (b:Int),.int .i64 o]),(1,.agg #[.int .i64 c.t,.int .i64 c.k,.bool c.had,.int .i64 c.o1,.int .i64 c.o2,.int .i64 c.o3,.bool c.has,.int .i64 c.n1,.int .i64 c.n2,.int .i64 c.n3])]) (effArr_built kd t j lo hi b o c)
  rw [← hE] at e1 HST1 HST2 HSZ HGE HON ⊢
  clear hE
  obtain ⟨c0,c1,had,o1,o2,o3,has,n1,n2,n3⟩:=c
  obtain ⟨rb0,rb1,rb2,rb3,rb4⟩:=rb
  obtain ⟨ra0,ra1,ra2,ra3,ra4⟩:=ra
  dsimp only [ChgT.arr,RowT.val,RowT.arr] at *
  have hes:=HSZ.out (.pointer none) (.pointer none) 0 0
  have H1:=Lib.hid (HON.out none none 0 0)
  have HI:=Lib.hid (eff_size.trans (by rw [← hes]))
  obtain ⟨E0,hE0⟩:∃ E0,E0=E (.pointer none) (.pointer none) 0 0:=⟨_,rfl⟩
  rw [← hE0] at e1 hes H1 HI
  have HE0:=Lib.hid hE0
  have hwb:IntKind.i64.wrap 0=0:=by decide
  obtain ⟨Z,hZ⟩:∃ Z:Array Value,Z=#[.int .i64 0,.int .i64 0,.int .i64 0,.int .i64 0,.int .i64 0,.int .i64 0,.int .i64 0,.int .i64 0,.int .i64 0,.bool false,.int .i64 0,.int .i64 0,.int .i64 0,.bool false,.int .i64 0,.int .i64 0,.int .i64 0,.pointer none,.pointer none,.int .i64 0,.int .i64 0]:=⟨_,rfl⟩
  have HZ:=Lib.hid hZ
  have HZZ:=Lib.hid (Blk.new' (((w.alloc (.cells #[.int .i64 kd,.int .i64 t,.int .i64 (j:Int),.int .i64 lo,.int .i64 hi,.int .i64 (b:Int),.int .i64 o] 33)).alloc (.cells #[.int .i64 c0,.int .i64 c1,.bool had,.int .i64 o1,.int .i64 o2,.int .i64 o3,.bool has,.int .i64 n1,.int .i64 n2,.int .i64 n3] 72)).alloc (.cells Z 297)) 297 Z (b:=w.heap.size+1+1+1) (by simp))
  have HQ:=Lib.hid ((((Blk.new w 33 #[.int .i64 kd,.int .i64 t,.int .i64 (j:Int),.int .i64 lo,.int .i64 hi,.int .i64 (b:Int),.int .i64 o]).alloc (.cells #[.int .i64 c0,.int .i64 c1,.bool had,.int .i64 o1,.int .i64 o2,.int .i64 o3,.bool has,.int .i64 n1,.int .i64 n2,.int .i64 n3] 72)).alloc (.cells Z 297)).alloc (.cells Z 297))
  have HC:=Lib.hid (((Blk.new' (w.alloc (.cells #[.int .i64 kd,.int .i64 t,.int .i64 (j:Int),.int .i64 lo,.int .i64 hi,.int .i64 (b:Int),.int .i64 o] 33)) 72 #[.int .i64 c0,.int .i64 c1,.bool had,.int .i64 o1,.int .i64 o2,.int .i64 o3,.bool has,.int .i64 n1,.int .i64 n2,.int .i64 n3] (b:=w.heap.size+1) (by simp)).alloc (.cells Z 297)).alloc (.cells Z 297))
  have HR:=Lib.hid ((Blk.new' ((w.alloc (.cells #[.int .i64 kd,.int .i64 t,.int .i64 (j:Int),.int .i64 lo,.int .i64 hi,.int .i64 (b:Int),.int .i64 o] 33)).alloc (.cells #[.int .i64 c0,.int .i64 c1,.bool had,.int .i64 o1,.int .i64 o2,.int .i64 o3,.bool has,.int .i64 n1,.int .i64 n2,.int .i64 n3] 72)) 297 Z (b:=w.heap.size+1+1) (by simp)).alloc (.cells Z 297))
  have HEE:=Lib.hid (ext_alloc (ext_alloc (ext_alloc (ext_new w (.cells #[.int .i64 kd,.int .i64 t,.int .i64 (j:Int),.int .i64 lo,.int .i64 hi,.int .i64 (b:Int),.int .i64 o] 33)) (.cells #[.int .i64 c0,.int .i64 c1,.bool had,.int .i64 o1,.int .i64 o2,.int .i64 o3,.bool has,.int .i64 n1,.int .i64 n2,.int .i64 n3] 72)) (.cells Z 297)) (.cells Z 297))
  rw [hZ] at HZZ HQ HC HR HEE
  clear i1 i2 hE0 hZ
  go_enter Tryz.func193,Tryz.ntmps193
  go_wp2_with (refine wpList_store_blk rfl 297 (.tmp 5) (.tmp 9) rfl (w.heap.size+1+1+1) E0 rfl rfl 297 #[.int .i64 0,.int .i64 0,.int .i64 0,.int .i64 0,.int .i64 0,.int .i64 0,.int .i64 0,.int .i64 0,.int .i64 0,.bool false,.int .i64 0,.int .i64 0,.int .i64 0,.bool false,.int .i64 0,.int .i64 0,.int .i64 0,.pointer none,.pointer none,.int .i64 0,.int .i64 0] HZZ.out HI.out hes.symm H1.out ?_;intro W2 hB2 hg2;have HQ2:=Lib.hid (HQ.out.grown hg2 (by simp <;> omega));have hC2:=HC.out.grown hg2 (by simp <;> omega);have HR2:=Lib.hid (HR.out.grown hg2 (by simp <;> omega));have HE2:=Lib.hid (HEE.out.grown hg2 HEE.out.size (fun k e=>by injection e with e;omega));have HX2:=Lib.hid hB2;have HC2:=Lib.hid hC2;have z0:=hC2.cell 0;have z1:=hC2.cell 1;have z2:=hC2.cell 2;have z3:=hC2.cell 3;have z4:=hC2.cell 4;have z5:=hC2.cell 5;have z6:=hC2.cell 6;have z7:=hC2.cell 7;have z8:=hC2.cell 8;have z9:=hC2.cell 9;clear hC2 hB2 hg2)
  clear HZZ HQ HC HR HEE
  refine (HBF.out _).mono ?_
  rintro e W3 ⟨rfl,hb3⟩
  have HQ3:=Lib.hid (HQ2.out.ext hb3)
  have HC3:=Lib.hid (HC2.out.ext hb3)
  have HR3:=Lib.hid (HR2.out.ext hb3)
  have HX3:=Lib.hid (HX2.out.ext hb3)
  have HE3:=Lib.hid (ext_call HE2.out hb3)
  clear hb3 z0 z1 z2 z3 z4 z5 z6 z7 z8 z9 HQ2 HC2 HR2 HX2 HE2
  go_wp2_with fail
  refine (HSB.out w.heap.size _ HQ3.out).mono ?_
  rintro e W4 ⟨pb,rfl,hpb,hb4⟩
  obtain ⟨pbp,rfl,-⟩:=hpb.shape
  have HP4:=Lib.hid (hpb.mono (show w.heap.size+1+1+1+1≤W3.heap.size from HX3.out.lt))
  have HQ4:=Lib.hid (HQ3.out.ext hb4)
  have HC4:=Lib.hid (HC3.out.ext hb4)
  have HR4:=Lib.hid (HR3.out.ext hb4)
  have HX4:=Lib.hid (HX3.out.ext hb4)
  have HE4:=Lib.hid (ext_call HE3.out hb4)
  have x17:W4.cell? ⟨w.heap.size+1+1+1,17,none⟩=some (.pointer none):=(HX4.out.cell 17).trans (by rw [HE0.out];exact (HGE.out _ _ _ _).1)
  have x19:W4.cell? ⟨w.heap.size+1+1+1,19,none⟩=some (.int .i64 0):=(HX4.out.cell 19).trans (by rw [HE0.out];exact (HGE.out _ _ _ _).2.2.1)
  have f17:=HX4.out.frozen 17
  have f19:=HX4.out.frozen 19
  have z0:=HC4.out.cell 0;have z1:=HC4.out.cell 1;have z2:=HC4.out.cell 2;have z3:=HC4.out.cell 3;have z4:=HC4.out.cell 4;have z5:=HC4.out.cell 5;have z6:=HC4.out.cell 6;have z7:=HC4.out.cell 7;have z8:=HC4.out.cell 8;have z9:=HC4.out.cell 9
  clear hb4 hpb HQ3 HC3 HR3 HX3 HE3
  go_wp2_with fail
  generalize hX:World.setCell (World.setCell W4 ⟨w.heap.size+1+1+1,17,none⟩ (.pointer pbp)) ⟨w.heap.size+1+1+1,19,none⟩ (.int .i64 mb)=X
  have HP5:=Lib.hid (show PtrR (w.heap.size+1+1+1+1) X (.pointer pbp) sb by rw [← hX];exact (HP4.out.far (by omega)).far (by omega))
  have HQ5:=Lib.hid (show Blk X w.heap.size 33 #[.int .i64 kd,.int .i64 t,.int .i64 (j:Int),.int .i64 lo,.int .i64 hi,.int .i64 (b:Int),.int .i64 o] by rw [← hX];exact (HQ4.out.far (p:=⟨w.heap.size+1+1+1,17,none⟩) (by simp <;> omega) _).far (p:=⟨w.heap.size+1+1+1,19,none⟩) (by simp <;> omega) _)
  have HR5:=Lib.hid (show Blk X (w.heap.size+1+1) 297 #[.int .i64 0,.int .i64 0,.int .i64 0,.int .i64 0,.int .i64 0,.int .i64 0,.int .i64 0,.int .i64 0,.int .i64 0,.bool false,.int .i64 0,.int .i64 0,.int .i64 0,.bool false,.int .i64 0,.int .i64 0,.int .i64 0,.pointer none,.pointer none,.int .i64 0,.int .i64 0] by rw [← hX];exact (HR4.out.far (p:=⟨w.heap.size+1+1+1,17,none⟩) (by simp <;> omega) _).far (p:=⟨w.heap.size+1+1+1,19,none⟩) (by simp <;> omega) _)
  have HE5:=Lib.hid (show Below w.heap.size w X by rw [← hX];exact ext_set (ext_set HE4.out (by simp;omega) _) (by simp;omega) _)
  have HX5:=Lib.hid (show Blk X (w.heap.size+1+1+1) 297 (E (.pointer pbp) (.pointer none) mb 0) by
    rw [← hX,← HST1.out (.pointer none) (.pointer none) (.pointer pbp) 0 0 mb,← HE0.out]
    exact (HX4.out.set_ 17 _).set_ 19 _)
  clear hX x17 x19 f17 f19 z0 z1 z2 z3 z4 z5 z6 z7 z8 z9 HQ4 HC4 HR4 HX4 HE4 HP4
  refine (HAF.out _).mono ?_
  rintro e W6 ⟨rfl,hb6⟩
  have HP6:=Lib.hid (HP5.out.ext hb6)
  have HQ6:=Lib.hid (HQ5.out.ext hb6)
  have HR6:=Lib.hid (HR5.out.ext hb6)
  have HX6:=Lib.hid (HX5.out.ext hb6)
  have HE6:=Lib.hid (ext_call HE5.out hb6)
  clear hb6 HQ5 HR5 HX5 HE5 HP5
  go_wp2_with fail
  refine (HSA.out w.heap.size _ HQ6.out).mono ?_
  rintro e W7 ⟨pa,rfl,hpa,hb7⟩
  obtain ⟨pap,rfl,-⟩:=hpa.shape
  have HA7:=Lib.hid (hpa.mono (show w.heap.size+1+1+1+1≤W6.heap.size from HX6.out.lt))
  have HP7:=Lib.hid (HP6.out.ext hb7)
  have HR7:=Lib.hid (HR6.out.ext hb7)
  have HX7:=Lib.hid (HX6.out.ext hb7)
  have HE7:=Lib.hid (ext_call HE6.out hb7)
  have x18:W7.cell? ⟨w.heap.size+1+1+1,18,none⟩=some (.pointer none):=(HX7.out.cell 18).trans (HGE.out _ _ _ _).2.1
  have x20:W7.cell? ⟨w.heap.size+1+1+1,20,none⟩=some (.int .i64 0):=(HX7.out.cell 20).trans (HGE.out _ _ _ _).2.2.2
  have f18:=HX7.out.frozen 18
  have f20:=HX7.out.frozen 20
  have HX8:=Lib.hid (show Blk (World.setCell (World.setCell W7 ⟨w.heap.size+1+1+1,18,none⟩ (.pointer pap)) ⟨w.heap.size+1+1+1,20,none⟩ (.int .i64 ma)) (w.heap.size+1+1+1) 297 (E (.pointer pbp) (.pointer pap) mb ma) by
    rw [← HST2.out (.pointer pbp) (.pointer none) (.pointer pap) mb 0 ma]
    exact (HX7.out.set_ 18 _).set_ 20 _)
  have HR8:=Lib.hid ((HR7.out.far (p:=⟨w.heap.size+1+1+1,18,none⟩) (by simp <;> omega) (.pointer pap)).far (p:=⟨w.heap.size+1+1+1,20,none⟩) (by simp <;> omega) (.int .i64 ma))
  have HE8:=Lib.hid (show Below w.heap.size w (World.setCell (World.setCell W7 ⟨w.heap.size+1+1+1,18,none⟩ (.pointer pap)) ⟨w.heap.size+1+1+1,20,none⟩ (.int .i64 ma)) from ext_set (ext_set HE7.out (by simp;omega) _) (by simp;omega) _)
  have HA8:=Lib.hid ((HA7.out.far (b:=w.heap.size+1+1+1) (i:=18) (u:=.pointer pap) (by omega)).far (b:=w.heap.size+1+1+1) (i:=20) (u:=.int .i64 ma) (by omega))
  have HP8:=Lib.hid ((HP7.out.far (b:=w.heap.size+1+1+1) (i:=18) (u:=.pointer pap) (by omega)).far (b:=w.heap.size+1+1+1) (i:=20) (u:=.int .i64 ma) (by omega))
  have H18:=Lib.hid (HON.out pbp pap mb ma)
  have HI8:=Lib.hid (eff_size.trans (by rw [← HSZ.out (.pointer pbp) (.pointer pap) mb ma]))
  have hs8:=HSZ.out (.pointer pbp) (.pointer pap) mb ma
  obtain ⟨E8,hE8⟩:∃ E8,E8=E (.pointer pbp) (.pointer pap) mb ma:=⟨_,rfl⟩
  rw [← hE8] at HX8 H18 HI8 hs8
  have HE8E:=Lib.hid hE8
  clear hb7 hpa HQ6 HR6 HX6 HE6 HP6 hE8
  go_wp2_with (first
    | (refine wpList_load_row rfl 297 (.tmp 5) rfl (w.heap.size+1+1+1) rfl 297 E8 (0,0) _ HX8.out Tryz.underlying297 rfl HI8.out ?_)
    | (refine wpList_store_blk rfl 297 (.tmp 4) (.tmp 33) rfl (w.heap.size+1+1) E8 rfl rfl 297 #[.int .i64 0,.int .i64 0,.int .i64 0,.int .i64 0,.int .i64 0,.int .i64 0,.int .i64 0,.int .i64 0,.int .i64 0,.bool false,.int .i64 0,.int .i64 0,.int .i64 0,.bool false,.int .i64 0,.int .i64 0,.int .i64 0,.pointer none,.pointer none,.int .i64 0,.int .i64 0] HR8.out HI8.out hs8.symm H18.out ?_;intro W9 hB9 hg9))
  refine bodyPost_ret (results_cell_row Tryz.results193 _ W9 (w.heap.size+1+1) 297 E8 (0,0) _ rfl hB9 Tryz.underlying297 rfl HI8.out) rfl ⟨.pointer pbp,.pointer pap,by rw [HE8E.out],?_,?_,?_⟩
  · exact (HP8.out.grown hg9 (by omega)).mono (by omega)
  · exact (HA8.out.grown hg9 (by omega)).mono (by omega)
  · exact HE8.out.grown hg9 HE8.out.size (fun k e=>by injection e with e;omega)
end Go.Proofs.YtimoapjhepmehaaGreatDoor
