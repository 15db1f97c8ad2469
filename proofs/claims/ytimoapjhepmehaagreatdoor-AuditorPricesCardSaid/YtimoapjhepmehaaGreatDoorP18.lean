/-
  Part 18 of 54: the contracts that the proof of the last part uses; each stands under its own head.
-/
import Derived.Test.YtimoapjhepmehaaGreatDoorP15
import Derived.Test.YtimoapjhepmehaaGreatDoorP5
import Derived.Test.YtimoapjhepmehaaGreatDoorP14
import Derived.Test.YtimoapjhepmehaaGreatDoorP16
import Derived.Deep.Upon
import Derived.Maps.AppendAt
import Derived.Test.YtimoapjhepmehaaGreatDoorP13
import Derived.Test.YtimoapjhepmehaaGreatDoorP12
set_option linter.unusedSimpArgs false
set_option linter.unusedVariables false
set_option maxHeartbeats 4000000
set_option maxRecDepth 100000
namespace Go.Proofs.YtimoapjhepmehaaGreatDoor
section
open Go.RowKit Go.Shelf
attribute [local go_sem ↓] Go.wp_at_zero Go.wp_at_succ
theorem r3Within (n a b:Int) (w:World) (h1:a≤n) (h2:n≤b):Calls Tryz.prog 136 #[.int .i64 n,.int .i64 a,.int .i64 b] w fun e w'=>e=.returned (.bool true)∧w=w':=by
  have d1:¬ n<a:=by omega
  go_enter Tryz.func136,Tryz.ntmps136
  go_wp2
  go_ret
  exact ⟨rfl,rfl⟩
theorem r3Low (n a b:Int) (w:World) (h1:n<a):Calls Tryz.prog 136 #[.int .i64 n,.int .i64 a,.int .i64 b] w fun e w'=>e=.returned (.bool false)∧w=w':=by
  have d1:¬ a≤n:=by omega
  go_enter Tryz.func136,Tryz.ntmps136
  go_wp2
  go_ret
  exact ⟨rfl,rfl⟩
section
variable (t k:Int) (had:Bool) (o1 o2 o3:Int) (has:Bool) (n1 n2 n3:Int) (w:World)
theorem r3BeforeY:Calls Tryz.prog 185 #[.agg #[.int .i64 t,.int .i64 k,.bool true,.int .i64 o1,.int .i64 o2,.int .i64 o3,.bool has,.int .i64 n1,.int .i64 n2,.int .i64 n3]] w fun e w'=>e=.returned (.tuple #[.agg #[.int .i64 t,.int .i64 k,.int .i64 o1,.int .i64 o2,.int .i64 o3],.bool true])∧Below w.heap.size w w':=by
  have HX:=Lib.hid (Blk.new' (w.alloc (.cells #[.int .i64 t,.int .i64 k,.bool true,.int .i64 o1,.int .i64 o2,.int .i64 o3,.bool has,.int .i64 n1,.int .i64 n2,.int .i64 n3] 72)) 67 #[.int .i64 0,.int .i64 0,.int .i64 0,.int .i64 0,.int .i64 0] (b:=w.heap.size+1) (by simp))
  have x0:=HX.out.cell 0;have x1:=HX.out.cell 1;have x2:=HX.out.cell 2;have x3:=HX.out.cell 3;have x4:=HX.out.cell 4
  have f0:=HX.out.frozen 0;have f1:=HX.out.frozen 1;have f2:=HX.out.frozen 2;have f3:=HX.out.frozen 3;have f4:=HX.out.frozen 4
  go_enter Tryz.func185,Tryz.ntmps185
  go_wp2
  have hBf:=((((HX.out.set_ 0 (.int .i64 t)).set_ 1 (.int .i64 k)).set_ 2 (.int .i64 o1)).set_ 3 (.int .i64 o2)).set_ 4 (.int .i64 o3)
  have y0:=hBf.cell 0;have y1:=hBf.cell 1;have y2:=hBf.cell 2;have y3:=hBf.cell 3;have y4:=hBf.cell 4
  refine bodyPost_ret (v:=.tuple #[.agg #[.int .i64 t,.int .i64 k,.int .i64 o1,.int .i64 o2,.int .i64 o3],.bool true]) (by simp [results,Tryz.results185,go_sem,y0,y1,y2,y3,y4]) rfl ⟨rfl,?_⟩
  repeat (first|with_reducible exact ext_alloc (ext_new _ _) _|refine ext_set ?_ (by simp) _)
theorem r3BeforeN:Calls Tryz.prog 185 #[.agg #[.int .i64 t,.int .i64 k,.bool false,.int .i64 o1,.int .i64 o2,.int .i64 o3,.bool has,.int .i64 n1,.int .i64 n2,.int .i64 n3]] w fun e w'=>e=.returned (.tuple #[.agg #[.int .i64 0,.int .i64 0,.int .i64 0,.int .i64 0,.int .i64 0],.bool false])∧Below w.heap.size w w':=by
  have HX:=Lib.hid (Blk.new' (w.alloc (.cells #[.int .i64 t,.int .i64 k,.bool false,.int .i64 o1,.int .i64 o2,.int .i64 o3,.bool has,.int .i64 n1,.int .i64 n2,.int .i64 n3] 72)) 67 #[.int .i64 0,.int .i64 0,.int .i64 0,.int .i64 0,.int .i64 0] (b:=w.heap.size+1) (by simp))
  have x0:=HX.out.cell 0;have x1:=HX.out.cell 1;have x2:=HX.out.cell 2;have x3:=HX.out.cell 3;have x4:=HX.out.cell 4
  have f0:=HX.out.frozen 0;have f1:=HX.out.frozen 1;have f2:=HX.out.frozen 2;have f3:=HX.out.frozen 3;have f4:=HX.out.frozen 4
  go_enter Tryz.func185,Tryz.ntmps185
  go_wp2
  have hBf:=((((HX.out.set_ 0 (.int .i64 0)).set_ 1 (.int .i64 0)).set_ 2 (.int .i64 0)).set_ 3 (.int .i64 0)).set_ 4 (.int .i64 0)
  have y0:=hBf.cell 0;have y1:=hBf.cell 1;have y2:=hBf.cell 2;have y3:=hBf.cell 3;have y4:=hBf.cell 4
  refine bodyPost_ret (v:=.tuple #[.agg #[.int .i64 0,.int .i64 0,.int .i64 0,.int .i64 0,.int .i64 0],.bool false]) (by simp [results,Tryz.results185,go_sem,y0,y1,y2,y3,y4]) rfl ⟨rfl,?_⟩
  repeat (first|with_reducible exact ext_alloc (ext_new _ _) _|refine ext_set ?_ (by simp) _)
theorem r3AfterY:Calls Tryz.prog 82 #[.agg #[.int .i64 t,.int .i64 k,.bool had,.int .i64 o1,.int .i64 o2,.int .i64 o3,.bool true,.int .i64 n1,.int .i64 n2,.int .i64 n3]] w fun e w'=>e=.returned (.tuple #[.agg #[.int .i64 t,.int .i64 k,.int .i64 n1,.int .i64 n2,.int .i64 n3],.bool true])∧Below w.heap.size w w':=by
  have HX:=Lib.hid (Blk.new' (w.alloc (.cells #[.int .i64 t,.int .i64 k,.bool had,.int .i64 o1,.int .i64 o2,.int .i64 o3,.bool true,.int .i64 n1,.int .i64 n2,.int .i64 n3] 72)) 67 #[.int .i64 0,.int .i64 0,.int .i64 0,.int .i64 0,.int .i64 0] (b:=w.heap.size+1) (by simp))
  have x0:=HX.out.cell 0;have x1:=HX.out.cell 1;have x2:=HX.out.cell 2;have x3:=HX.out.cell 3;have x4:=HX.out.cell 4
  have f0:=HX.out.frozen 0;have f1:=HX.out.frozen 1;have f2:=HX.out.frozen 2;have f3:=HX.out.frozen 3;have f4:=HX.out.frozen 4
  go_enter Tryz.func82,Tryz.ntmps82
  go_wp2
  have hBf:=((((HX.out.set_ 0 (.int .i64 t)).set_ 1 (.int .i64 k)).set_ 2 (.int .i64 n1)).set_ 3 (.int .i64 n2)).set_ 4 (.int .i64 n3)
  have y0:=hBf.cell 0;have y1:=hBf.cell 1;have y2:=hBf.cell 2;have y3:=hBf.cell 3;have y4:=hBf.cell 4
  refine bodyPost_ret (v:=.tuple #[.agg #[.int .i64 t,.int .i64 k,.int .i64 n1,.int .i64 n2,.int .i64 n3],.bool true]) (by simp [results,Tryz.results82,go_sem,y0,y1,y2,y3,y4]) rfl ⟨rfl,?_⟩
  repeat (first|with_reducible exact ext_alloc (ext_new _ _) _|refine ext_set ?_ (by simp) _)
theorem r3AfterN:Calls Tryz.prog 82 #[.agg #[.int .i64 t,.int .i64 k,.bool had,.int .i64 o1,.int .i64 o2,.int .i64 o3,.bool false,.int .i64 n1,.int .i64 n2,.int .i64 n3]] w fun e w'=>e=.returned (.tuple #[.agg #[.int .i64 0,.int .i64 0,.int .i64 0,.int .i64 0,.int .i64 0],.bool false])∧Below w.heap.size w w':=by
  have HX:=Lib.hid (Blk.new' (w.alloc (.cells #[.int .i64 t,.int .i64 k,.bool had,.int .i64 o1,.int .i64 o2,.int .i64 o3,.bool false,.int .i64 n1,.int .i64 n2,.int .i64 n3] 72)) 67 #[.int .i64 0,.int .i64 0,.int .i64 0,.int .i64 0,.int .i64 0] (b:=w.heap.size+1) (by simp))
  have x0:=HX.out.cell 0;have x1:=HX.out.cell 1;have x2:=HX.out.cell 2;have x3:=HX.out.cell 3;have x4:=HX.out.cell 4
  have f0:=HX.out.frozen 0;have f1:=HX.out.frozen 1;have f2:=HX.out.frozen 2;have f3:=HX.out.frozen 3;have f4:=HX.out.frozen 4
  go_enter Tryz.func82,Tryz.ntmps82
  go_wp2
  have hBf:=((((HX.out.set_ 0 (.int .i64 0)).set_ 1 (.int .i64 0)).set_ 2 (.int .i64 0)).set_ 3 (.int .i64 0)).set_ 4 (.int .i64 0)
  have y0:=hBf.cell 0;have y1:=hBf.cell 1;have y2:=hBf.cell 2;have y3:=hBf.cell 3;have y4:=hBf.cell 4
  refine bodyPost_ret (v:=.tuple #[.agg #[.int .i64 0,.int .i64 0,.int .i64 0,.int .i64 0,.int .i64 0],.bool false]) (by simp [results,Tryz.results82,go_sem,y0,y1,y2,y3,y4]) rfl ⟨rfl,?_⟩
  repeat (first|with_reducible exact ext_alloc (ext_new _ _) _|refine ext_set ?_ (by simp) _)
end
theorem r3Valid (r:RowT) (h:r.ok) (w:World):Calls Tryz.prog 186 #[.agg #[.int .i64 r.t,.int .i64 r.k,.int .i64 r.a,.int .i64 r.b,.int .i64 r.c]] w fun e w'=>e=.returned (.bool true)∧Below w.heap.size w w':=by
  obtain ⟨t,k,a,b,c⟩:=r
  obtain ⟨⟨h1,h2⟩,⟨h3,h4⟩,⟨h5,h6⟩,⟨h7,h8⟩,⟨h9,h10⟩⟩:=h
  dsimp only at *
  go_enter Tryz.func186,Tryz.ntmps186
  go_wp2
  refine wp_loop_rounds 4 ?_
  rw [rounds_succ]
  go_wp2_with (go_at_call 136;refine (r3Within _ _ _ _ (by omega) (by omega)).mono ?_;rintro e w' ⟨rfl,rfl⟩)
  rw [rounds_succ]
  go_wp2_with (go_at_call 136;refine (r3Within _ _ _ _ (by omega) (by omega)).mono ?_;rintro e w' ⟨rfl,rfl⟩)
  rw [rounds_succ]
  go_wp2_with (go_at_call 136;refine (r3Within _ _ _ _ (by omega) (by omega)).mono ?_;rintro e w' ⟨rfl,rfl⟩)
  rw [rounds_succ]
  go_wp2_with (go_at_call 136;refine (r3Within _ _ _ _ (by omega) (by omega)).mono ?_;rintro e w' ⟨rfl,rfl⟩)
  go_ret
  exact ⟨rfl,ext_new _ _⟩
theorem r3ValidChange (c:ChgT) (h:c.ok) (ht:c.turns=true) (w:World):Calls Tryz.prog 137 #[c.val] w fun e w'=>e=.returned (.bool true)∧Below w.heap.size w w':=by
  have hb:=(soundB_iff c.t c.k c.had c.o1 c.o2 c.o3)
  have hv:=(validC_iff c).2 ⟨ht,h⟩
  unfold validC at hv
  rw [Bool.and_eq_true,Bool.and_eq_true,soundB_iff,soundB_iff] at hv
  obtain ⟨⟨-,s1,s2⟩,s3,s4⟩:=hv
  obtain ⟨t,k,had,o1,o2,o3,has,n1,n2,n3⟩:=c
  dsimp only [ChgT.val,ChgT.arr] at *
  clear h hb
  cases had with
  | false=>
    cases has with
    | false=>simp [ChgT.turns] at ht
    | true=>
      obtain ⟨rfl,rfl,rfl⟩:=s2 rfl
      have HV:=Lib.hid (fun W:World=>r3Valid ⟨t,k,n1,n2,n3⟩ (s3 rfl) W)
      have heq:=fun W:World=>eq3 0 0 0 0 0 0 W
      obtain ⟨W0,hW0⟩:∃ W0,W0=w.alloc (.cells #[.int .i64 t,.int .i64 k,.bool false,.int .i64 0,.int .i64 0,.int .i64 0,.bool true,.int .i64 n1,.int .i64 n2,.int .i64 n3] 72):=⟨_,rfl⟩
      have HE0:=Lib.hid (show Below w.heap.size w W0 by rw [hW0];exact ext_new _ _)
      have HC0:=Lib.hid (show Blk W0 w.heap.size 72 #[.int .i64 t,.int .i64 k,.bool false,.int .i64 0,.int .i64 0,.int .i64 0,.bool true,.int .i64 n1,.int .i64 n2,.int .i64 n3] by rw [hW0];exact Blk.new _ _ _)
      have HW:=Lib.hid hW0
      clear hW0 s1 s2 s3 s4 ht
      go_enter Tryz.func137,Tryz.ntmps137
      go_wp2_with fail
      rw [← HW.out]
      refine (r3BeforeN t k 0 0 0 true n1 n2 n3 _).mono ?_
      rintro e W1 ⟨rfl,hb1⟩
      have HE1:=Lib.hid (ext_alloc (ext_call HE0.out hb1) (.cells #[.int .i64 0,.int .i64 0,.int .i64 0,.int .i64 0,.int .i64 0] 67))
      have HC1:=Lib.hid ((HC0.out.ext hb1).alloc (.cells #[.int .i64 0,.int .i64 0,.int .i64 0,.int .i64 0,.int .i64 0] 67))
      clear hb1
      have c0:=HC1.out.cell 0;have c1:=HC1.out.cell 1;have c2:=HC1.out.cell 2;have c3:=HC1.out.cell 3;have c4:=HC1.out.cell 4;have c5:=HC1.out.cell 5;have c6:=HC1.out.cell 6;have c7:=HC1.out.cell 7;have c8:=HC1.out.cell 8;have c9:=HC1.out.cell 9
      have cl:=HC1.out.lt
      go_wp2_with fail
      refine (r3AfterY t k false 0 0 0 n1 n2 n3 _).mono ?_
      rintro e W2 ⟨rfl,hb2⟩
      have HE2:=Lib.hid (ext_alloc (ext_call HE1.out hb2) (.cells #[.int .i64 t,.int .i64 k,.int .i64 n1,.int .i64 n2,.int .i64 n3] 67))
      have HC2:=Lib.hid ((HC1.out.ext hb2).alloc (.cells #[.int .i64 t,.int .i64 k,.int .i64 n1,.int .i64 n2,.int .i64 n3] 67))
      clear hb2 c0 c1 c2 c3 c4 c5 c6 c7 c8 c9 cl
      have c0:=HC2.out.cell 0;have c1:=HC2.out.cell 1;have c2:=HC2.out.cell 2;have c3:=HC2.out.cell 3;have c4:=HC2.out.cell 4;have c5:=HC2.out.cell 5;have c6:=HC2.out.cell 6;have c7:=HC2.out.cell 7;have c8:=HC2.out.cell 8;have c9:=HC2.out.cell 9
      go_wp2_with fail
      refine (HV.out _).mono ?_
      rintro e W3 ⟨rfl,hb3⟩
      have HE3:=Lib.hid (ext_call HE2.out hb3)
      have HC3:=Lib.hid (HC2.out.ext hb3)
      clear hb3 c0 c1 c2 c3 c4 c5 c6 c7 c8 c9
      have c0:=HC3.out.cell 0;have c1:=HC3.out.cell 1;have c2:=HC3.out.cell 2;have c3:=HC3.out.cell 3;have c4:=HC3.out.cell 4;have c5:=HC3.out.cell 5;have c6:=HC3.out.cell 6;have c7:=HC3.out.cell 7;have c8:=HC3.out.cell 8;have c9:=HC3.out.cell 9
      go_wp2
      go_ret
      exact ⟨rfl,HE3.out⟩
  | true =>
    cases has with
    | false=>
      obtain ⟨rfl,rfl,rfl⟩:=s4 rfl
      have HV:=Lib.hid (fun W:World=>r3Valid ⟨t,k,o1,o2,o3⟩ (s1 rfl) W)
      have heq:=fun W:World=>eq3 0 0 0 0 0 0 W
      obtain ⟨W0,hW0⟩:∃ W0,W0=w.alloc (.cells #[.int .i64 t,.int .i64 k,.bool true,.int .i64 o1,.int .i64 o2,.int .i64 o3,.bool false,.int .i64 0,.int .i64 0,.int .i64 0] 72):=⟨_,rfl⟩
      have HE0:=Lib.hid (show Below w.heap.size w W0 by rw [hW0];exact ext_new _ _)
      have HC0:=Lib.hid (show Blk W0 w.heap.size 72 #[.int .i64 t,.int .i64 k,.bool true,.int .i64 o1,.int .i64 o2,.int .i64 o3,.bool false,.int .i64 0,.int .i64 0,.int .i64 0] by rw [hW0];exact Blk.new _ _ _)
      have HW:=Lib.hid hW0
      clear hW0 s1 s2 s3 s4 ht
      go_enter Tryz.func137,Tryz.ntmps137
      go_wp2_with fail
      rw [← HW.out]
      refine (r3BeforeY t k o1 o2 o3 false 0 0 0 _).mono ?_
      rintro e W1 ⟨rfl,hb1⟩
      have HE1:=Lib.hid (ext_alloc (ext_call HE0.out hb1) (.cells #[.int .i64 t,.int .i64 k,.int .i64 o1,.int .i64 o2,.int .i64 o3] 67))
      have HC1:=Lib.hid ((HC0.out.ext hb1).alloc (.cells #[.int .i64 t,.int .i64 k,.int .i64 o1,.int .i64 o2,.int .i64 o3] 67))
      have HB1:=Lib.hid (Blk.new W1 67 #[.int .i64 t,.int .i64 k,.int .i64 o1,.int .i64 o2,.int .i64 o3])
      clear hb1
      have c0:=HC1.out.cell 0;have c1:=HC1.out.cell 1;have c2:=HC1.out.cell 2;have c3:=HC1.out.cell 3;have c4:=HC1.out.cell 4;have c5:=HC1.out.cell 5;have c6:=HC1.out.cell 6;have c7:=HC1.out.cell 7;have c8:=HC1.out.cell 8;have c9:=HC1.out.cell 9
      have cl:=HC1.out.lt
      go_wp2_with fail
      refine (r3AfterN t k true o1 o2 o3 0 0 0 _).mono ?_
      rintro e W2 ⟨rfl,hb2⟩
      have HE2:=Lib.hid (ext_alloc (ext_call HE1.out hb2) (.cells #[.int .i64 0,.int .i64 0,.int .i64 0,.int .i64 0,.int .i64 0] 67))
      have HC2:=Lib.hid ((HC1.out.ext hb2).alloc (.cells #[.int .i64 0,.int .i64 0,.int .i64 0,.int .i64 0,.int .i64 0] 67))
      have HB2:=Lib.hid ((HB1.out.ext hb2).alloc (.cells #[.int .i64 0,.int .i64 0,.int .i64 0,.int .i64 0,.int .i64 0] 67))
      clear hb2 c0 c1 c2 c3 c4 c5 c6 c7 c8 c9 cl
      have c0:=HC2.out.cell 0;have c1:=HC2.out.cell 1;have c2:=HC2.out.cell 2;have c3:=HC2.out.cell 3;have c4:=HC2.out.cell 4;have c5:=HC2.out.cell 5;have c6:=HC2.out.cell 6;have c7:=HC2.out.cell 7;have c8:=HC2.out.cell 8;have c9:=HC2.out.cell 9
      have b0:=HB2.out.cell 0;have b1:=HB2.out.cell 1;have b2:=HB2.out.cell 2;have b3:=HB2.out.cell 3;have b4:=HB2.out.cell 4
      go_wp2_with fail
      refine (HV.out _).mono ?_
      rintro e W3 ⟨rfl,hb3⟩
      have HE3:=Lib.hid (ext_call HE2.out hb3)
      have HC3:=Lib.hid (HC2.out.ext hb3)
      clear hb3 c0 c1 c2 c3 c4 c5 c6 c7 c8 c9 b0 b1 b2 b3 b4
      have c0:=HC3.out.cell 0;have c1:=HC3.out.cell 1;have c2:=HC3.out.cell 2;have c3:=HC3.out.cell 3;have c4:=HC3.out.cell 4;have c5:=HC3.out.cell 5;have c6:=HC3.out.cell 6;have c7:=HC3.out.cell 7;have c8:=HC3.out.cell 8;have c9:=HC3.out.cell 9
      go_wp2
      go_ret
      exact ⟨rfl,HE3.out⟩
    | true=>
      have hne:(decide (o1=n1) && decide (o2=n2) && decide (o3=n3))=false:=by
        simp [ChgT.turns] at ht
        rw [Bool.eq_false_iff]
        intro hh
        simp only [Bool.and_eq_true,decide_eq_true_eq] at hh
        omega
      have HV:=Lib.hid (fun W:World=>r3Valid ⟨t,k,o1,o2,o3⟩ (s1 rfl) W)
      have HV2:=Lib.hid (fun W:World=>r3Valid ⟨t,k,n1,n2,n3⟩ (s3 rfl) W)
      have heq:=fun W:World=>eq3 o1 o2 o3 n1 n2 n3 W
      rw [hne] at heq
      obtain ⟨W0,hW0⟩:∃ W0,W0=w.alloc (.cells #[.int .i64 t,.int .i64 k,.bool true,.int .i64 o1,.int .i64 o2,.int .i64 o3,.bool true,.int .i64 n1,.int .i64 n2,.int .i64 n3] 72):=⟨_,rfl⟩
      have HE0:=Lib.hid (show Below w.heap.size w W0 by rw [hW0];exact ext_new _ _)
      have HC0:=Lib.hid (show Blk W0 w.heap.size 72 #[.int .i64 t,.int .i64 k,.bool true,.int .i64 o1,.int .i64 o2,.int .i64 o3,.bool true,.int .i64 n1,.int .i64 n2,.int .i64 n3] by rw [hW0];exact Blk.new _ _ _)
      have HW:=Lib.hid hW0
      clear hW0 s1 s2 s3 s4 ht hne
      go_enter Tryz.func137,Tryz.ntmps137
      go_wp2_with fail
      rw [← HW.out]
      refine (r3BeforeY t k o1 o2 o3 true n1 n2 n3 _).mono ?_
      rintro e W1 ⟨rfl,hb1⟩
      have HE1:=Lib.hid (ext_alloc (ext_call HE0.out hb1) (.cells #[.int .i64 t,.int .i64 k,.int .i64 o1,.int .i64 o2,.int .i64 o3] 67))
      have HC1:=Lib.hid ((HC0.out.ext hb1).alloc (.cells #[.int .i64 t,.int .i64 k,.int .i64 o1,.int .i64 o2,.int .i64 o3] 67))
      have HB1:=Lib.hid (Blk.new W1 67 #[.int .i64 t,.int .i64 k,.int .i64 o1,.int .i64 o2,.int .i64 o3])
      clear hb1
      have c0:=HC1.out.cell 0;have c1:=HC1.out.cell 1;have c2:=HC1.out.cell 2;have c3:=HC1.out.cell 3;have c4:=HC1.out.cell 4;have c5:=HC1.out.cell 5;have c6:=HC1.out.cell 6;have c7:=HC1.out.cell 7;have c8:=HC1.out.cell 8;have c9:=HC1.out.cell 9
      have cl:=HC1.out.lt
      go_wp2_with fail
      refine (r3AfterY t k true o1 o2 o3 n1 n2 n3 _).mono ?_
      rintro e W2 ⟨rfl,hb2⟩
      have HE2:=Lib.hid (ext_alloc (ext_call HE1.out hb2) (.cells #[.int .i64 t,.int .i64 k,.int .i64 n1,.int .i64 n2,.int .i64 n3] 67))
      have HC2:=Lib.hid ((HC1.out.ext hb2).alloc (.cells #[.int .i64 t,.int .i64 k,.int .i64 n1,.int .i64 n2,.int .i64 n3] 67))
      have HB2:=Lib.hid ((HB1.out.ext hb2).alloc (.cells #[.int .i64 t,.int .i64 k,.int .i64 n1,.int .i64 n2,.int .i64 n3] 67))
      have HD2:=Lib.hid (Blk.new W2 67 #[.int .i64 t,.int .i64 k,.int .i64 n1,.int .i64 n2,.int .i64 n3])
      clear hb2 c0 c1 c2 c3 c4 c5 c6 c7 c8 c9 cl
      have c0:=HC2.out.cell 0;have c1:=HC2.out.cell 1;have c2:=HC2.out.cell 2;have c3:=HC2.out.cell 3;have c4:=HC2.out.cell 4;have c5:=HC2.out.cell 5;have c6:=HC2.out.cell 6;have c7:=HC2.out.cell 7;have c8:=HC2.out.cell 8;have c9:=HC2.out.cell 9
      have b0:=HB2.out.cell 0;have b1:=HB2.out.cell 1;have b2:=HB2.out.cell 2;have b3:=HB2.out.cell 3;have b4:=HB2.out.cell 4
      have hwl:=HB2.out.lt
      go_wp2_with fail
      refine (HV.out _).mono ?_
      rintro e W3 ⟨rfl,hb3⟩
      have HE3:=Lib.hid (ext_call HE2.out hb3)
      have HC3:=Lib.hid (HC2.out.ext hb3)
      have HD3:=Lib.hid (HD2.out.ext hb3)
      clear hb3 c0 c1 c2 c3 c4 c5 c6 c7 c8 c9 b0 b1 b2 b3 b4
      have d0:=HD3.out.cell 0;have d1:=HD3.out.cell 1;have d2:=HD3.out.cell 2;have d3:=HD3.out.cell 3;have d4:=HD3.out.cell 4
      go_wp2_with fail
      refine (HV2.out _).mono ?_
      rintro e W4 ⟨rfl,hb4⟩
      have HE4:=Lib.hid (ext_call HE3.out hb4)
      have HC4:=Lib.hid (HC3.out.ext hb4)
      clear hb4 d0 d1 d2 d3 d4
      have c0:=HC4.out.cell 0;have c1:=HC4.out.cell 1;have c2:=HC4.out.cell 2;have c3:=HC4.out.cell 3;have c4:=HC4.out.cell 4;have c5:=HC4.out.cell 5;have c6:=HC4.out.cell 6;have c7:=HC4.out.cell 7;have c8:=HC4.out.cell 8;have c9:=HC4.out.cell 9
      go_wp2
      go_ret
      exact ⟨rfl,HE4.out⟩
theorem chgs10 {W:World} {v:Value} {l:List ChgT} (h:ChgsAt W v l) {k:Nat} {x:ChgT} (hk:l[k]? = some x):∃ b off c,v=.slice (some ⟨b,off,none⟩) l.length c∧l.length≤c∧∀ i,i<10→W.cell? ⟨b,off+k*10+i,none⟩=x.arr[i]? := by
  obtain ⟨A,c,rfl,hc,h⟩:=h
  obtain ⟨b,off,rfl,h2⟩:=h (by have:=(List.getElem?_eq_some_iff.1 hk).1;omega)
  exact ⟨b,off,c,rfl,hc,h2 k x hk⟩
theorem r3RecordNo (p:Int) (hp:1≤p∧p≤10000) (A:Option Addr) (c:Nat) (w:World):Calls Tryz.prog 81 #[.agg #[.int .i64 p,.slice A 0 c]] w fun e w'=>e=.returned (.bool false)∧Below w.heap.size w w':=by
  obtain ⟨h1,h2⟩:=hp
  go_enter Tryz.func81,Tryz.ntmps81
  go_wp2_with fail
  refine (r3Within _ _ _ _ (by omega) (by omega)).mono ?_
  rintro e w' ⟨rfl,hw'⟩
  subst w'
  go_wp2_with fail
  refine (r3Low _ _ _ _ (by omega)).mono ?_
  rintro e w' ⟨rfl,hw'⟩
  subst w'
  go_wp2
  go_ret
  exact ⟨rfl,ext_new _ _⟩
theorem r3Record (p:Int) (hp:1≤p∧p≤10000) (l:List ChgT) (v:Value) (w:World) (hv:ChgsAt w v l) (hl:ChgsOK l) (hF:validF l=true):Calls Tryz.prog 81 #[.agg #[.int .i64 p,v]] w fun e w'=>e=.returned (.bool true)∧Below w.heap.size w w':=by
  obtain ⟨h1,h2⟩:=hp
  have h0l:0<l.length:=by
    cases l with
    | nil=>simp [validF] at hF
    | cons a r=>simp
  have h8:=hl.few
  have HT:=Lib.hid (show ∀ x ∈ l,x.turns=true by
    unfold validF at hF
    rw [Bool.and_eq_true] at hF
    exact fun x hx=>List.all_eq_true.1 hF.2 x hx)
  have HOK:=Lib.hid hl.ok
  have HAS:=Lib.hid hl.asc
  have HV:=Lib.hid (hv.ext (ext_new w (.cells #[.int .i64 p,v] 75)))
  have HB:=Lib.hid (Blk.new w 75 #[.int .i64 p,v])
  obtain ⟨A,c,rfl,-⟩:=hv
  clear hl hF
  obtain ⟨W0,hW0⟩:∃ W0,W0=w.alloc (.cells #[.int .i64 p,.slice A l.length c] 75):=⟨_,rfl⟩
  have HE0:=Lib.hid (show Below w.heap.size w W0 by rw [hW0];exact ext_new _ _)
  rw [← hW0] at HV HB
  obtain ⟨br,hbr⟩:∃ br,br=w.heap.size:=⟨_,rfl⟩
  rw [← hbr] at HB
  have HBR:=Lib.hid hbr
  have HW0:=Lib.hid hW0
  clear hW0 hbr
  go_enter Tryz.func81,Tryz.ntmps81
  go_wp2_with fail
  refine (r3Within _ _ _ _ (by omega) (by omega)).mono ?_
  rintro e w' ⟨rfl,hw'⟩
  subst w'
  go_wp2_with fail
  refine (r3Within _ _ _ _ (by omega) (by omega)).mono ?_
  rintro e w' ⟨rfl,hw'⟩
  subst w'
  go_wp2
  rw [← HW0.out,← HBR.out]
  go_loopw [3,4,5] (fun iv _ _ W=>∃ k:Nat,k≤l.length∧iv=.int .i64 (k:Int)∧Below W0.heap.size W0 W) (fun iv _ _ _=>l.length-(intOf iv).toNat)
  case atStart=>exact ⟨0,Nat.zero_le _,rfl,ext_refl _⟩
  case round=>
    obtain ⟨k,hk,rfl,hE⟩:=hrel
    have HE:=Lib.hid hE
    have HBr:=Lib.hid (HB.out.ext hE)
    have HVr:=Lib.hid (HV.out.ext hE)
    have b1:=HBr.out.cell 1
    clear hE
    by_cases hlt:k<l.length
    · obtain ⟨x,hx⟩:∃ x,l[k]? = some x:=⟨_,List.getElem?_eq_getElem hlt⟩
      have hxm:=List.mem_of_getElem? hx
      obtain ⟨b,off,c',hA,hcl,hc10⟩:=chgs10 HVr.out hx
      injection hA with hA _ hc'
      subst hA hc'
      have HVC:=Lib.hid (fun W:World=>r3ValidChange x (HOK.out x hxm) (HT.out x hxm) W)
      have HPV:=Lib.hid (show ∀ (m:Nat) (s:ChgT),k=m+1→l[m]? = some s→s.t<x.t∨(s.t=x.t∧s.k<x.k) from fun m s hm hs=>HAS.out m s x hs (by rw [← hm];exact hx))
      have c0:=hc10 0 (by omega);have c1:=hc10 1 (by omega);have c2:=hc10 2 (by omega);have c3:=hc10 3 (by omega);have c4:=hc10 4 (by omega);have c5:=hc10 5 (by omega);have c6:=hc10 6 (by omega);have c7:=hc10 7 (by omega);have c8:=hc10 8 (by omega);have c9:=hc10 9 (by omega)
      obtain ⟨t,kk,had,o1,o2,o3,has,n1,n2,n3⟩:=x
      simp only [ChgT.arr,List.getElem?_toArray,List.getElem?_cons_zero,List.getElem?_cons_succ,Nat.add_zero] at c0 c1 c2 c3 c4 c5 c6 c7 c8 c9
      dsimp only [ChgT.val,ChgT.arr] at HVC HPV
      have q0:(0:Int)≤(k:Int):=by omega
      have q1:(k:Int)<(l.length:Int):=by omega
      have d1:decide ((k:Int)<(l.length:Int))=true:=decide_eq_true q1
      have e2:IntKind.i64.wrap ((k:Int)+1)=(k:Int)+1:=IntWalk.i64_in _ (by omega)
      clear hc10 hxm hx
      go_wp2_with fail
      refine (HVC.out _).mono ?_
      rintro e W2 ⟨rfl,hb2⟩
      have HE2:=Lib.hid (ext_call (ext_alloc HE.out _) hb2)
      have HX2:=Lib.hid ((Blk.new wr 72 #[.int .i64 t,.int .i64 kk,.bool had,.int .i64 o1,.int .i64 o2,.int .i64 o3,.bool has,.int .i64 n1,.int .i64 n2,.int .i64 n3]).ext hb2)
      have x0:=HX2.out.cell 0
      have x1:=HX2.out.cell 1
      have b1:=(HB.out.ext HE2.out).cell 1
      have hwr2:=HX2.out.lt
      clear hb2 c0 c1 c2 c3 c4 c5 c6 c7 c8 c9
      by_cases hk0:k=0
      · have d3:decide ((0:Int)<(k:Int))=false:=decide_eq_false (by omega)
        have d4:decide (0<k)=false:=decide_eq_false (by omega)
        clear hk0
        go_wp2
        go_roundw
        case rel=>exact ⟨k+1,by omega,by go_num,HE2.out⟩
        case measure=>simp [intOf];omega
      · obtain ⟨m,hm⟩:∃ m,k=m+1:=⟨k-1,by omega⟩
        obtain ⟨s,hs⟩:∃ s,l[m]? = some s:=⟨_,List.getElem?_eq_getElem (by omega)⟩
        have hpv:=HPV.out m s hm hs
        obtain ⟨b',off',c'',hA,hcl2,hc10⟩:=chgs10 (HV.out.ext HE2.out) hs
        injection hA with hA _ hc'
        injection hA with hA
        injection hA with hA1 hA2
        subst hA1 hA2 hc'
        have c0:=hc10 0 (by omega);have c1:=hc10 1 (by omega);have c2:=hc10 2 (by omega);have c3:=hc10 3 (by omega);have c4:=hc10 4 (by omega);have c5:=hc10 5 (by omega);have c6:=hc10 6 (by omega);have c7:=hc10 7 (by omega);have c8:=hc10 8 (by omega);have c9:=hc10 9 (by omega)
        obtain ⟨t',kk',had',o1',o2',o3',has',n1',n2',n3'⟩:=s
        simp only [ChgT.arr,List.getElem?_toArray,List.getElem?_cons_zero,List.getElem?_cons_succ,Nat.add_zero] at c0 c1 c2 c3 c4 c5 c6 c7 c8 c9
        dsimp only at hpv
        have d3:(0:Int)<(k:Int):=by omega
        have d4:decide (0<k)=true:=decide_eq_true (by omega)
        have e4:IntKind.i64.wrap ((k:Int)-1)=(m:Int):=by rw [IntWalk.i64_in _ (by omega)];omega
        have m0:(0:Int)≤(m:Int):=by omega
        have m1:(m:Int)<(l.length:Int):=by omega
        clear hc10 hs hm hk0
        by_cases htt:t'=t
        · subst htt
          have d4:¬ kk≤kk':=by omega
          clear hpv
          go_wp2
          go_roundw
          case rel=>exact ⟨k+1,by omega,by go_num,ext_alloc HE2.out _⟩
          case measure=>simp [intOf];omega
        · have d4:¬ t<t':=by omega
          have d5:(t' == t)=false:=by simpa using htt
          clear hpv htt
          go_wp2
          go_roundw
          case rel=>exact ⟨k+1,by omega,by go_num,ext_alloc HE2.out _⟩
          case measure=>simp [intOf];omega
    · have d1:decide ((k:Int)<(l.length:Int))=false:=decide_eq_false (by omega)
      go_wp2
      go_ret
      exact ⟨rfl,ext_call HE0.out HE.out⟩
end
section
open Go.RowKit
attribute [local go_sem ↓] Go.wp_at_zero Go.wp_at_succ
theorem encRecG_size (p:Int) (l:List ChgT) (h:l.length≤8):(encG (encRec p l)).size≤1000:=by
  have h0:=encG_le (encRec p l)
  rw [encRec,List.length_append] at h0
  have h2:∀ l:List ChgT,(l.flatMap encChg).length≤9*l.length:=fun l=>by
    induction l with
    | nil=>simp
    | cons a r ih=>
      rw [List.flatMap_cons,List.length_append,List.length_cons]
      have:=encChg_length a
      omega
  have:=h2 l
  simp only [List.length_cons,List.length_nil] at h0
  rw [encRec]
  omega
theorem logNextX (n:Nat) (hn:n≤60) (l:List ChgT) (v:Value) (z s t:ByteArray) (hz:z.size=32) (hs:s.size=32) (ht:t.size=32) (w:World) (hv:ChgsAt w v l) (hl:ChgsOK l) (hF:validF l=true) (hR:RoundOK w) :
    Calls Tryz.prog 71 #[.agg #[.int .i64 (n:Int),.string z,.string s],.agg #[.int .i64 ((n:Int)+1),v],.string t] w
      fun e w'=>e=.returned (.tuple #[.agg #[.int .i64 ((n:Int)+1),.string (chainF z (encG (encRec ((n:Int)+1) l))),.string t],.int .i64 0])∧Below w.heap.size w w':=by
  have HZs:=Lib.hid hz
  have HSs:=Lib.hid hs
  have HTs:=Lib.hid ht
  have HR:=Lib.hid hR
  have hrs:=encRecG_size ((n:Int)+1) l hl.few
  have HCh:=Lib.hid (show ∀ W:World,RoundOK W→Calls Tryz.prog 127 #[.string z,.string (encG (encRec ((n:Int)+1) l))] W fun e w'=>e=.returned (.string (chainF z (encG (encRec ((n:Int)+1) l))))∧Below W.heap.size W w' from fun W h=>chain_any z (encG (encRec ((n:Int)+1) l)) W h (by omega) (by omega))
  have HEr:=Lib.hid (fun (W:World) (h:Below w.heap.size w W)=>encRecord_G ((n:Int)+1) ⟨by omega,by omega⟩ l v W (hv.ext h) hl hF)
  obtain ⟨A,c,rfl,-⟩:=hv
  generalize chainF z (encG (encRec ((n:Int)+1) l))=cz at *
  generalize encG (encRec ((n:Int)+1) l)=re at *
  have e1:IntKind.i64.wrap ((n:Int)+1)=(n:Int)+1:=by rw [IntWalk.i64_in _ (by omega)]
  obtain ⟨W0,hW0⟩:∃ W0,W0=((w.alloc (.cells #[.int .i64 (n:Int),.string z,.string s] 52)).alloc (.cells #[.int .i64 ((n:Int)+1),.slice A l.length c] 75)).alloc (.cells #[.int .i64 0,.string ⟨#[]⟩,.string ⟨#[]⟩] 52):=⟨_,rfl⟩
  have HE0:=Lib.hid (show Below w.heap.size w W0 by rw [hW0];exact ext_alloc (ext_alloc (ext_new _ _) _) _)
  have HH0:=Lib.hid (show Blk W0 w.heap.size 52 #[.int .i64 (n:Int),.string z,.string s] by rw [hW0];exact ((Blk.new _ _ _).alloc _).alloc _)
  have HR0:=Lib.hid (show Blk W0 (w.heap.size+1) 75 #[.int .i64 ((n:Int)+1),.slice A l.length c] by rw [hW0];exact (Blk.new' _ _ _ (by simp)).alloc _)
  have HO0:=Lib.hid (show Blk W0 (w.heap.size+1+1) 52 #[.int .i64 0,.string ⟨#[]⟩,.string ⟨#[]⟩] by rw [hW0];exact Blk.new' _ _ _ (by simp))
  have HW0:=Lib.hid hW0
  clear hz hs ht hR hW0 hrs hl hF
  go_enter Tryz.func71,Tryz.ntmps71
  go_wp2_with fail
  rw [← HW0.out]
  refine (HEr.out _ HE0.out).mono ?_
  rintro e W1 ⟨rfl,hb1⟩
  have HH1:=Lib.hid (HH0.out.ext hb1)
  have HR1:=Lib.hid (HR0.out.ext hb1)
  have HO1:=Lib.hid (HO0.out.ext hb1)
  have HE1:=Lib.hid (ext_call HE0.out hb1)
  have c0:=HH1.out.cell 0;have c1:=HH1.out.cell 1;have c2:=HH1.out.cell 2
  clear hb1
  go_wp2_with fail
  refine (logValid n z s (by omega) HZs.out HSs.out _).mono ?_
  rintro e W2 ⟨rfl,hb2⟩
  have HH2:=Lib.hid (HH1.out.ext hb2)
  have HR2:=Lib.hid (HR1.out.ext hb2)
  have HO2:=Lib.hid (HO1.out.ext hb2)
  have HE2:=Lib.hid (ext_call HE1.out hb2)
  clear hb2 c0 c1 c2
  have c0:=HH2.out.cell 0;have c1:=HH2.out.cell 1;have c2:=HH2.out.cell 2
  have r0:=HR2.out.cell 0;have r1:=HR2.out.cell 1
  have o0:=HO2.out.cell 0;have o1:=HO2.out.cell 1;have o2:=HO2.out.cell 2
  have f0:=HO2.out.frozen 0
  have f1:=HO2.out.frozen 1
  have f2:=HO2.out.frozen 2
  go_wp2_with (go_at_call 68;refine (isDig t HTs.out _).mono ?_;rintro e w' ⟨rfl,rfl⟩)
  go_region_with (go_at_call 127;refine (HCh.out _ ?_).mono ?_;(exact (HR.out.below HE2.out.drew));rintro e W3 ⟨rfl,hb3⟩;have HH3:=Lib.hid (HH2.out.ext (undrew hb3));have HR3:=Lib.hid (HR2.out.ext (undrew hb3));have HO3:=Lib.hid (HO2.out.ext (undrew hb3));have HE3:=Lib.hid (ext_call HE2.out (undrew hb3));clear hb3;have cc0:=HH3.out.cell 0;have cc1:=HH3.out.cell 1;have cc2:=HH3.out.cell 2;have rr0:=HR3.out.cell 0;have rr1:=HR3.out.cell 1;have oo0:=HO3.out.cell 0;have oo1:=HO3.out.cell 1;have oo2:=HO3.out.cell 2;have ff0:=HO3.out.frozen 0;have ff1:=HO3.out.frozen 1;have ff2:=HO3.out.frozen 2)
  all_goals
    go_wp2
    have hBf:=((HO3.out.set_ 0 (.int .i64 ((n:Int)+1))).set_ 1 (.string cz)).set_ 2 (.string t)
    have y0:=hBf.cell 0;have y1:=hBf.cell 1;have y2:=hBf.cell 2
    refine bodyPost_ret (v:=.tuple #[.agg #[.int .i64 ((n:Int)+1),.string cz,.string t],.int .i64 0]) (by simp [results,Tryz.results71,go_sem,y0,y1,y2]) rfl ⟨rfl,?_⟩
    exact ext_set (ext_set (ext_set HE3.out (by simp;omega) _) (by simp;omega) _) (by simp;omega) _
theorem logAppendY (B C gl:Nat) (rv hv:Value) (R:List (List ChgT × Nat × Nat)) (H:List (ByteArray × ByteArray)) (l:List ChgT) (v:Value) (t:ByteArray) (ht:t.size=32) (hn:R.length≤60) (w:World) (hBw:B≤w.heap.size) (hCw:C≤w.heap.size) (hL:LogG2 B C w gl rv hv R H) (last:ByteArray × ByteArray) (hlast:H[R.length]? = some last)
    (hvl:ChgsAt w v l) (hl:ChgsOK l) (hF:validF l=true) (hR:RoundOK w) :
    Calls Tryz.prog 40 #[.pointer (some ⟨gl,0,none⟩),.agg #[.int .i64 ((R.length:Int)+1),v],.string t] w
      fun e w'=>e=.returned (.int .i64 0)∧∃ rv2 hv2 g d,LogG2 B C w' gl rv2 hv2 (R++[(l,g,d)]) (H++[(chainF last.1 (encG (encRec ((R.length:Int)+1) l)),t)])∧ExtS (ApX gl rv hv) w w':=by
  obtain ⟨ir,hir,hzr0,hzr1,hzr2⟩:=info_parts recg_info
  obtain ⟨ih,hih,hzh0,hzh1,hzh2⟩:=info_parts headg_info
  obtain ⟨n,hnn⟩:∃ n,n=R.length:=⟨_,rfl⟩
  rw [← hnn] at hn hlast ⊢
  have hHl:H.length=n+1:=by rw [hL.len,hnn]
  obtain ⟨A,cr,hrv⟩:=own_shape hL.recs
  obtain ⟨gh,ch,curh,hhv,-,hbh⟩:=own_blk hL.heads (by omega)
  obtain ⟨q0,q1,q2⟩:=hcF_at H 0 n last hlast
  rw [Nat.zero_add] at q0
  have hls:=hL.sizes last (List.mem_of_getElem? hlast)
  have hk:∀ i u,(hcF 0 H)[i]? = some u→w.cell? ⟨gh,i,none⟩=some u:=fun i u hu=>by
    have h1:=hL.heads.cells (g:=gh) (by rw [hhv];rfl) i u hu
    rw [add_lit0] at h1
    exact h1
  obtain ⟨lc,ls⟩:=last
  dsimp only
  rw [hHl] at hhv
  rw [← hnn] at hrv
  subst hrv hhv
  have h0l:0<l.length:=by
    cases l with
    | nil=>simp [validF] at hF
    | cons a r=>simp
  have HNx:=Lib.hid (fun (W:World) (k:Below w.heap.size w W)=>logNextX n hn l v lc ls t hls.1 hls.2 ht W (hvl.ext k) hl hF (hR.below k))
  have HOw:=Lib.hid (fun (W:World) (h:ChgsAt W v l)=>logOwnG ((n:Int)+1) l v W h h0l hl.few)
  have hcz0:=chainF_size lc (encG (encRec ((n:Int)+1) l))
  generalize chainF lc (encG (encRec ((n:Int)+1) l))=cz at *
  have HCZ:=Lib.hid hcz0
  clear hcz0
  obtain ⟨W0,hW0⟩:∃ W0,W0=w.alloc (.cells #[.int .i64 ((n:Int)+1),v] 75):=⟨_,rfl⟩
  have HE0:=Lib.hid (show Below w.heap.size w W0 by rw [hW0];exact ext_new _ _)
  have HX:=Lib.hid (show Blk W0 w.heap.size 75 #[.int .i64 ((n:Int)+1),v] by rw [hW0];exact Blk.new _ _ _)
  have HLG:=Lib.hid (hL.ext HE0.out)
  have HS0:=Lib.hid (show W0.cell? ⟨gl,1,none⟩=some (.slice (some ⟨gh,0,none⟩) (n+1) ch)∧W0.cell? ⟨gh,n*3,none⟩=some (.int .i64 (n:Int))∧W0.cell? ⟨gh,n*3+1,none⟩=some (.string lc)∧W0.cell? ⟨gh,n*3+2,none⟩=some (.string ls) ∧
    W0.cell? ⟨w.heap.size,0,none⟩=some (.int .i64 ((n:Int)+1))∧W0.cell? ⟨w.heap.size,1,none⟩=some v∧Below W0.heap.size W0 W0 from
    ⟨HLG.out.log.cell 1,cell_ext (hk _ _ q0) HE0.out,cell_ext (hk _ _ q1) HE0.out,cell_ext (hk _ _ q2) HE0.out,HX.out.cell 0,HX.out.cell 1,ext_refl _⟩)
  have HVL:=Lib.hid (hvl.ext HE0.out)
  have HW0:=Lib.hid hW0
  have HNN:=Lib.hid hnn
  have HHL:=Lib.hid hHl
  have hgl:=hL.log.lt
  have HNA:=Lib.hid (show ∀ k,w.heap.size≤k→¬ ApX gl (.slice A n cr) (.slice (some ⟨gh,0,none⟩) (n+1) ch) k from fun k hk=>by
    rintro (h|h|h)
    · have:=hL.log.lt;omega
    · have:=(hL.recs.lt k h).2;omega
    · have:=(hL.heads.lt k h).2;omega)
  have hghl:=hbh.lt
  have HT:=Lib.hid ht
  obtain ⟨Av,cv,hvv,-⟩:=hvl
  subst hvv
  clear ht hL hl hF hR hW0 hnn hHl hbh hlast q0 q1 q2 hls hk
  go_enter Tryz.func40,Tryz.ntmps40
  go_wp2_with fail
  rw [← HW0.out]
  have e1:IntKind.i64.wrap (n:Int)=(n:Int):=by rw [IntWalk.i64_in _ (by omega)]
  have q0:(0:Int)≤(n:Int):=by omega
  have q1:(n:Int)<(n:Int)+1:=by omega
  go_region_held3 (fun w'=>w'.cell? ⟨gl,1,none⟩=some (.slice (some ⟨gh,0,none⟩) (n+1) ch)∧w'.cell? ⟨gh,n*3,none⟩=some (.int .i64 (n:Int))∧w'.cell? ⟨gh,n*3+1,none⟩=some (.string lc)∧w'.cell? ⟨gh,n*3+2,none⟩=some (.string ls)∧w'.cell? ⟨w.heap.size,0,none⟩=some (.int .i64 ((n:Int)+1))∧w'.cell? ⟨w.heap.size,1,none⟩=some (.slice Av l.length cv)∧Below W0.heap.size W0 w')
    (first|exact agKeep5 HS0.out (ext_refl W0).drew|assumption|exact agKeep5 HS0.out hbw|exact agKeep5 HS0.out (ext_alloc hbw _)|exact agKeep5 HS0.out (ext_alloc hbw _).drew|exact agKeep5 HS0.out (ext_new _ _).drew|exact agKeep5 HS0.out (ext_new _ _)|exact agKeep5 HS0.out (ext_set (ext_set (ext_set hbw (Nat.le_refl _) _) (Nat.le_refl _) _) (Nat.le_refl _) _))
    (first|(go_at_call 71;(with_reducible refine (HNx.out _ ?_).mono ?_);(exact ext_call HE0.out (agB5 (by assumption)));rintro e W1 ⟨rfl,hb'⟩;have hbw:=ext_call (agB5 (by assumption)) hb';try (have hbx:=(show Blk W1 W0.heap.size 52 #[.int .i64 0,.string ⟨#[]⟩,.string ⟨#[]⟩] from ((Blk.new W0 _ _).drew).ext hb');have bx0:=hbx.cell 0;have bf0:=hbx.frozen 0;have bx1:=hbx.cell 1;have bf1:=hbx.frozen 1;have bx2:=hbx.cell 2;have bf2:=hbx.frozen 2;have HBX:=Lib.hid hbx;clear hbx)))
  all_goals
    clear hb'
    first
    | (generalize hX:World.setCell (World.setCell (World.setCell W1 ⟨W0.heap.size,0,none⟩ (.int .i64 ((n:Int)+1))) ⟨W0.heap.size,1,none⟩ (.string cz)) ⟨W0.heap.size,2,none⟩ (.string t)=X
       have HBx:=Lib.hid (show Blk X W0.heap.size 52 #[.int .i64 ((n:Int)+1),.string cz,.string t] by subst hX;exact ((HBX.out.set_ 0 _).set_ 1 _).set_ 2 _)
       have HEx:=Lib.hid (show Below W0.heap.size W0 X by subst hX;exact ext_set (ext_set (ext_set hbw (Nat.le_refl _) _) (Nat.le_refl _) _) (Nat.le_refl _) _)
       have hhx:W0.heap.size≤W0.heap.size:=Nat.le_refl _
       clear bx0 bx1 bx2 bf0 bf1 bf2 hX hbw HBX
       generalize hgx:W0.heap.size=hx at HBx hhx ⊢)
    | (generalize hX:World.alloc W1 (.cells #[.int .i64 ((n:Int)+1),.string cz,.string t] 52)=X
       have HBx:=Lib.hid (show Blk X W1.heap.size 52 #[.int .i64 ((n:Int)+1),.string cz,.string t] by subst hX;exact Blk.new _ _ _)
       have HEx:=Lib.hid (show Below W0.heap.size W0 X by subst hX;exact ext_alloc hbw _)
       have hhx:W0.heap.size≤W1.heap.size:=hbw.size
       clear hX hbw
       generalize hgx:W1.heap.size=hx at HBx hhx ⊢)
    have HGx:=Lib.hid (HLG.out.ext HEx.out)
    have HXx:=Lib.hid (HX.out.ext HEx.out)
    have HVX:=Lib.hid (HVL.out.ext HEx.out)
    have hw0:=HE0.out.size
    have hnr:¬ ApX gl (.slice A n cr) (.slice (some ⟨gh,0,none⟩) (n+1) ch) w.heap.size:=HNA.out _ (Nat.le_refl _)
    have hnh:¬ ApX gl (.slice A n cr) (.slice (some ⟨gh,0,none⟩) (n+1) ch) hx:=HNA.out _ (by omega)
    have HSX:=Lib.hid (And.intro HXx.out (And.intro HBx.out (And.intro hnr hnh)))
    have HA:=Lib.hid (show ApI2 B C X gl (.slice A n cr) (.slice (some ⟨gh,0,none⟩) (n+1) ch) R (.slice A n cr) n (rcF 0 R) (.slice (some ⟨gh,0,none⟩) (n+1) ch) (n+1) (hcF 0 H) X.drew by
      have h1:=ApI2.start HGx.out
      rw [← HNN.out,HHL.out] at h1
      exact h1.below (ext_refl X).drew)
    have HBB:=Lib.hid (show B≤X.heap.size by have h1:=hBw;have h2:=HE0.out.size;have h3:=HEx.out.size;omega)
    have HCB:=Lib.hid (show C≤X.heap.size by have h1:=hCw;have h2:=HE0.out.size;have h3:=HEx.out.size;omega)
    have HBD:=Lib.hid (show Below X.heap.size X X.drew from (ext_refl X).drew)
    clear hnr hnh e1 q0 q1
    go_wp2
    refine wp_region_L (fun w'=>w'.cell? ⟨w.heap.size,0,none⟩=some (.int .i64 ((n:Int)+1))∧w'.cell? ⟨w.heap.size,1,none⟩=some (.slice Av l.length cv)∧w'.cell? ⟨hx,0,none⟩=some (.int .i64 ((n:Int)+1))∧w'.cell? ⟨hx,1,none⟩=some (.string cz)∧w'.cell? ⟨hx,2,none⟩=some (.string t)∧ExtS (ApX gl (.slice A n cr) (.slice (some ⟨gh,0,none⟩) (n+1) ch)) X w')
      (fun w'=>w'.cell? ⟨gl,0,none⟩=some (.slice A n cr)∧w'.cell? ⟨gl,1,none⟩=some (.slice (some ⟨gh,0,none⟩) (n+1) ch)) [19,22] (by kernel_rfl) ?_
    generalize X.drew=U0 at *
    refine takeF 0 (v:=?_) rfl (by kernel_rfl) (by kernel_rfl) (by kernel_rfl) (by kernel_rfl) (fun _ _ _ h=>h) (Or.inl ⟨by rfl,?_⟩) (aqKeepG HSX.out HA.out.ext) (fun _=>(And.intro (HA.out.log.cell 0) (HA.out.log.cell 1))) ?_
    rotate_left 1
    · (rintro w' ⟨f0,f1,f2,f3,f4,_⟩;go_simp;with_reducible rfl)
    refine takeF 1 (v:=?_) rfl (by kernel_rfl) (by kernel_rfl) (by kernel_rfl) (by kernel_rfl) (fun _ _ _ h=>h) (Or.inl ⟨by rfl,?_⟩) (aqKeepG HSX.out HA.out.ext) (fun _=>(And.intro (HA.out.log.cell 0) (HA.out.log.cell 1))) ?_
    rotate_left 1
    · (rintro w' ⟨f0,f1,f2,f3,f4,_⟩;go_simp;with_reducible rfl)
    refine takeF 2 (v:=?_) rfl (by kernel_rfl) (by kernel_rfl) (by kernel_rfl) (by kernel_rfl) (fun _ _ _ h=>h) (Or.inl ⟨by rfl,?_⟩) (aqKeepG HSX.out HA.out.ext) (fun _=>(And.intro (HA.out.log.cell 0) (HA.out.log.cell 1))) ?_
    rotate_left 1
    · (rintro w' ⟨f0,f1,f2,f3,f4,_⟩;go_simp;with_reducible rfl)
    refine takeF 3 (v:=?_) rfl (by kernel_rfl) (by kernel_rfl) (by kernel_rfl) (by kernel_rfl) (fun _ _ _ h=>h) (Or.inl ⟨by rfl,?_⟩) (aqKeepG HSX.out HA.out.ext) (fun _=>(And.intro (HA.out.log.cell 0) (HA.out.log.cell 1))) ?_
    rotate_left 1
    · (rintro w' ⟨f0,f1,f2,f3,f4,_⟩;go_simp;with_reducible rfl)
    refine takeF 4 (v:=?_) rfl (by kernel_rfl) (by kernel_rfl) (by kernel_rfl) (by kernel_rfl) (fun _ _ _ h=>h) (Or.inl ⟨by rfl,?_⟩) (aqKeepG HSX.out HA.out.ext) (fun _=>(And.intro (HA.out.log.cell 0) (HA.out.log.cell 1))) ?_
    rotate_left 1
    · (rintro w' ⟨f0,f1,f2,f3,f4,_⟩;go_simp;with_reducible rfl)
    refine takeG 5 (v:=?_) rfl (by kernel_rfl) (by kernel_rfl) (by kernel_rfl) (by kernel_rfl) (by kernel_rfl) (by kernel_rfl) (fun _ _ _ h=>h) (Or.inl ⟨by rfl,?_⟩) (aqKeepG HSX.out HA.out.ext) (And.intro (HA.out.log.cell 0) (HA.out.log.cell 1)) ?_
    rotate_left 1
    · (rintro w' ⟨f0,f1⟩;go_simp;with_reducible rfl)
    refine takeF 6 (v:=?_) rfl (by kernel_rfl) (by kernel_rfl) (by kernel_rfl) (by kernel_rfl) (fun _ _ _ h=>h) (Or.inl ⟨by rfl,?_⟩) (aqKeepG HSX.out HA.out.ext) (fun _=>(And.intro (HA.out.log.cell 0) (HA.out.log.cell 1))) ?_
    rotate_left 1
    · (rintro w' ⟨f0,f1,f2,f3,f4,_⟩;go_simp;with_reducible rfl)
    refine takeF 10 (v:=?_) rfl (by kernel_rfl) (by kernel_rfl) (by kernel_rfl) (by kernel_rfl) (fun _ _ _ h=>h) (Or.inl ⟨by rfl,?_⟩) (aqKeepG HSX.out HA.out.ext) (fun _=>(And.intro (HA.out.log.cell 0) (HA.out.log.cell 1))) ?_
    rotate_left 1
    · (rintro w' ⟨f0,f1,f2,f3,f4,_⟩;go_simp;with_reducible rfl)
    refine takeF 11 (v:=?_) rfl (by kernel_rfl) (by kernel_rfl) (by kernel_rfl) (by kernel_rfl) (fun _ _ _ h=>h) (Or.inl ⟨by rfl,?_⟩) (aqKeepG HSX.out HA.out.ext) (fun _=>(And.intro (HA.out.log.cell 0) (HA.out.log.cell 1))) ?_
    rotate_left 1
    · (rintro w' ⟨f0,f1,f2,f3,f4,_⟩;go_simp;with_reducible rfl)
    refine takeF 12 (v:=?_) rfl (by kernel_rfl) (by kernel_rfl) (by kernel_rfl) (by kernel_rfl) (fun _ _ _ h=>h) (Or.inl ⟨by rfl,?_⟩) (aqKeepG HSX.out HA.out.ext) (fun _=>(And.intro (HA.out.log.cell 0) (HA.out.log.cell 1))) ?_
    rotate_left 1
    · (rintro w' ⟨f0,f1,f2,f3,f4,_⟩;go_simp;with_reducible rfl)
    refine takeG 13 (v:=?_) rfl (by kernel_rfl) (by kernel_rfl) (by kernel_rfl) (by kernel_rfl) (by kernel_rfl) (by kernel_rfl) (fun _ _ _ h=>h) (Or.inl ⟨by rfl,?_⟩) (aqKeepG HSX.out HA.out.ext) (And.intro (HA.out.log.cell 0) (HA.out.log.cell 1)) ?_
    rotate_left 1
    · (rintro w' ⟨f0,f1⟩;go_simp;with_reducible rfl)
    refine takeF 14 (v:=?_) rfl (by kernel_rfl) (by kernel_rfl) (by kernel_rfl) (by kernel_rfl) (fun _ _ _ h=>h) (Or.inl ⟨by rfl,?_⟩) (aqKeepG HSX.out HA.out.ext) (fun _=>(And.intro (HA.out.log.cell 0) (HA.out.log.cell 1))) ?_
    rotate_left 1
    · (rintro w' ⟨f0,f1,f2,f3,f4,_⟩;go_simp;with_reducible rfl)
    refine allL [7,15] (by kernel_rfl) (by simp) ?_
    simp only [List.forall_mem_cons,List.not_mem_nil,false_implies,implies_true,and_true]
    refine ⟨?_,?_⟩
    · refine stepL rfl (by rfl) (fun K hK=>?_)
      go_simp
      go_at_call 72
      refine (HOw.out _ (HVX.out.ext HBD.out)).mono ?_
      rintro e V7 ⟨go,d,rfl,-,hd,hch,hbo⟩
      have HA:=Lib.hid (HA.out.below hbo)
      have HGO:=Lib.hid hch
      have HD:=Lib.hid hd
      have HBD:=Lib.hid (ext_call HBD.out hbo)
      clear hbo hch hd
      refine hK _ _ ⟨⟨(aqKeepG HSX.out HA.out.ext),fun _=>(And.intro (HA.out.log.cell 0) (HA.out.log.cell 1))⟩,?_⟩
      clear hK K
      refine allL [8,15] (by kernel_rfl) (by simp) ?_
      simp only [List.forall_mem_cons,List.not_mem_nil,false_implies,implies_true,and_true]
      refine ⟨?_,?_⟩
      · refine stepL rfl (by rfl) (fun K hK=>?_)
        go_simp
        obtain ⟨U8,hU⟩:∃ Z,Z=World.alloc V7 (.cells #[.int .i64 ((n:Int)+1),.slice (some ⟨go,0,none⟩) l.length d] 75):=⟨_,rfl⟩
        have hbo:Below V7.heap.size V7 U8:=by rw [hU];exact ext_new _ _
        have HNB:=Lib.hid (show Blk U8 V7.heap.size 75 #[.int .i64 ((n:Int)+1),.slice (some ⟨go,0,none⟩) l.length d] by rw [hU];exact Blk.new _ _ _)
        have HA:=Lib.hid (HA.out.below hbo)
        have HBD:=Lib.hid (ext_call HBD.out hbo)
        have HGO:=Lib.hid (HGO.out.ext hbo)
        rw [← hU]
        clear hU hbo
        generalize V7.heap.size=nb at HNB ⊢
        refine hK _ _ ⟨⟨(aqKeepG HSX.out HA.out.ext),fun _=>(And.intro (HA.out.log.cell 0) (HA.out.log.cell 1))⟩,?_⟩
        clear hK K
        refine allL [9,15] (by kernel_rfl) (by simp) ?_
        simp only [List.forall_mem_cons,List.not_mem_nil,false_implies,implies_true,and_true]
        refine ⟨?_,?_⟩
        · refine stepL rfl (by rfl) (fun K hK=>?_)
          refine wp_append_own _ (.tmp 37) (.tmp 40) 29 rfl B 75 ir (.agg #[.int .i64 0,.slice none 0 0]) 2 32 Tryz.underlying29 hir hzr0 hzr1 hzr2 rfl (by decide) (.slice A n cr) n (rcF 0 R) (by rfl) HA.out.recs ⟨nb,0,none⟩ 1 1 [.int .i64 ((n:Int)+1),.slice (some ⟨go,0,none⟩) l.length d] (by rfl) rfl (news_blk HNB.out) (by simp [Value.oneCell']) (by unfold maxLen;omega) (by omega) (Nat.le_trans HBB.out HA.out.ext.size) ?_
          intro v9 W9 ho9 hg9 _
          obtain ⟨A9,c9,h9⟩:=own_shape ho9
          subst h9
          have HGO:=Lib.hid (HGO.out.grownT hg9 HA.out.recs (by decide))
          have HA:=Lib.hid (HA.out.app_rec ho9 hg9)
          clear ho9 hg9
          simp only [Act.put,List.setIfInBounds_toArray,List.set_cons_succ,List.set_cons_zero]
          refine hK _ _ ⟨⟨(aqKeepG HSX.out HA.out.ext),fun _=>(And.intro (HA.out.log.cell 0) (HA.out.log.cell 1))⟩,?_⟩
          clear hK K
          refine allL [15] (by kernel_rfl) (by simp) ?_
          simp only [List.forall_mem_cons,List.not_mem_nil,false_implies,implies_true,and_true]
          refine stepL rfl (by rfl) (fun K hK=>?_)
          go_simp
          obtain ⟨U15,hU⟩:∃ Z,Z=World.alloc W9 (.cells #[.int .i64 ((n:Int)+1),.string cz,.string t] 52):=⟨_,rfl⟩
          have hbo:Below W9.heap.size W9 U15:=by rw [hU];exact ext_new _ _
          have HMB:=Lib.hid (show Blk U15 W9.heap.size 52 #[.int .i64 ((n:Int)+1),.string cz,.string t] by rw [hU];exact Blk.new _ _ _)
          have HA:=Lib.hid (HA.out.below hbo)
          have HGO:=Lib.hid (HGO.out.ext hbo)
          rw [← hU]
          clear hU hbo
          generalize W9.heap.size=mb at HMB ⊢
          refine hK _ _ ⟨⟨(aqKeepG HSX.out HA.out.ext),fun _=>(And.intro (HA.out.log.cell 0) (HA.out.log.cell 1))⟩,?_⟩
          clear hK K
          refine allL [16] (by kernel_rfl) (by simp) ?_
          simp only [List.forall_mem_cons,List.not_mem_nil,false_implies,implies_true,and_true]
          refine stepL rfl (by rfl) (fun K hK=>?_)
          refine wp_append_own _ (.tmp 45) (.tmp 47) 110 rfl C 52 ih (.agg #[.int .i64 0,.string ⟨#[]⟩,.string ⟨#[]⟩]) 3 40 Tryz.underlying110 hih hzh0 hzh1 hzh2 rfl (by decide) (.slice (some ⟨gh,0,none⟩) (n+1) ch) (n+1) (hcF 0 H) (by rfl) HA.out.heads ⟨mb,0,none⟩ 1 1 [.int .i64 ((n:Int)+1),.string cz,.string t] (by rfl) rfl (news_blk HMB.out) (by simp [Value.oneCell']) (by unfold maxLen;omega) (by omega) (Nat.le_trans HCB.out HA.out.ext.size) ?_
          intro v16 W16 ho9 hg9 _
          obtain ⟨A16,c16,h9⟩:=own_shape ho9
          subst h9
          have HGO:=Lib.hid (HGO.out.grownT hg9 HA.out.heads (by decide))
          have HA:=Lib.hid (HA.out.app_head ho9 hg9)
          clear ho9 hg9
          simp only [Act.put,List.setIfInBounds_toArray,List.set_cons_succ,List.set_cons_zero]
          refine hK _ _ ⟨⟨(aqKeepG HSX.out HA.out.ext),fun _=>(And.intro (HA.out.log.cell 0) (HA.out.log.cell 1))⟩,?_⟩
          clear hK K
          refine takeF 17 (v:=?_) rfl (by kernel_rfl) (by kernel_rfl) (by kernel_rfl) (by kernel_rfl) (fun _ _ _ h=>h) (Or.inl ⟨by rfl,?_⟩) (aqKeepG HSX.out HA.out.ext) (fun _=>(And.intro (HA.out.log.cell 0) (HA.out.log.cell 1))) ?_
          rotate_left 1
          · (rintro w' ⟨f0,f1,f2,f3,f4,_⟩;go_simp;with_reducible rfl)
          refine takeF 18 (v:=?_) rfl (by kernel_rfl) (by kernel_rfl) (by kernel_rfl) (by kernel_rfl) (fun _ _ _ h=>h) (Or.inl ⟨by rfl,?_⟩) (aqKeepG HSX.out HA.out.ext) (fun _=>(And.intro (HA.out.log.cell 0) (HA.out.log.cell 1))) ?_
          rotate_left 1
          · (rintro w' ⟨f0,f1,f2,f3,f4,_⟩;go_simp;with_reducible rfl)
          have p0:=HA.out.log.cell 0
          have pf0:=HA.out.log.frozen 0
          have pl:=HA.out.log.lt
          refine allL [19] (by kernel_rfl) (by simp) ?_
          simp only [List.forall_mem_cons,List.not_mem_nil,false_implies,implies_true,and_true]
          refine stepL rfl (by rfl) (fun K hK=>?_)
          go_simp
          obtain ⟨U19,hU⟩:∃ Z,Z=World.setCell W16 ⟨gl,0,none⟩ (.slice A9 (n+1) c9):=⟨_,rfl⟩
          rw [← hU]
          have HE19:=Lib.hid (show ExtS (ApX gl (.slice A n cr) (.slice (some ⟨gh,0,none⟩) (n+1) ch)) X U19 by rw [hU];exact HA.out.ext.setG)
          have HL19:=Lib.hid (show Blk U19 gl 112 #[.slice A9 (n+1) c9,.slice (some ⟨gh,0,none⟩) (n+1) ch] by rw [hU];exact HA.out.log.set_ 0 _)
          have HR19:=Lib.hid (show World.ownsRow U19 B 75 2 _ _ _ by rw [hU];exact own_setT HA.out.recs HA.out.log (by decide) _ _)
          have HH19:=Lib.hid (show World.ownsRow U19 C 52 3 _ _ _ by rw [hU];exact own_setT HA.out.heads HA.out.log (by decide) _ _)
          have HC19:=Lib.hid (show ∀ x ∈ R,ChgB U19 x.2.1 x.1 from fun x hx=>by rw [hU];exact (HA.out.chg x hx).setT HA.out.log (by decide) _ _)
          have HGO:=Lib.hid (show ChgB U19 go l by rw [hU];exact HGO.out.setT HA.out.log (by decide) _ _)
          clear hU p0 pf0 pl HA
          refine hK _ _ ⟨⟨aqKeepG HSX.out HE19.out,fun h=>absurd h (by decide)⟩,?_⟩
          clear hK K
          refine takeF 20 (v:=?_) rfl (by kernel_rfl) (by kernel_rfl) (by kernel_rfl) (by kernel_rfl) (fun _ _ _ h=>h) (Or.inl ⟨by rfl,?_⟩) (aqKeepG HSX.out HE19.out) (fun h=>absurd h (by decide)) ?_
          rotate_left 1
          · (rintro w' ⟨f0,f1,f2,f3,f4,_⟩;go_simp;with_reducible rfl)
          refine takeF 21 (v:=?_) rfl (by kernel_rfl) (by kernel_rfl) (by kernel_rfl) (by kernel_rfl) (fun _ _ _ h=>h) (Or.inl ⟨by rfl,?_⟩) (aqKeepG HSX.out HE19.out) (fun h=>absurd h (by decide)) ?_
          rotate_left 1
          · (rintro w' ⟨f0,f1,f2,f3,f4,_⟩;go_simp;with_reducible rfl)
          have p0:=HL19.out.cell 1
          have pf0:=HL19.out.frozen 1
          have pl:=HL19.out.lt
          refine allL [22] (by kernel_rfl) (by simp) ?_
          simp only [List.forall_mem_cons,List.not_mem_nil,false_implies,implies_true,and_true]
          refine stepL rfl (by rfl) (fun K hK=>?_)
          go_simp
          obtain ⟨U22,hU⟩:∃ Z,Z=World.setCell U19 ⟨gl,1,none⟩ (.slice A16 (n+1+1) c16):=⟨_,rfl⟩
          rw [← hU]
          have HE22:=Lib.hid (show ExtS (ApX gl (.slice A n cr) (.slice (some ⟨gh,0,none⟩) (n+1) ch)) X U22 by rw [hU];exact HE19.out.setG)
          have HL22:=Lib.hid (show Blk U22 gl 112 #[.slice A9 (n+1) c9,.slice A16 (n+1+1) c16] by rw [hU];exact HL19.out.set_ 1 _)
          have HR22:=Lib.hid (show World.ownsRow U22 B 75 2 _ _ _ by rw [hU];exact own_setT HR19.out HL19.out (by decide) _ _)
          have HH22:=Lib.hid (show World.ownsRow U22 C 52 3 _ _ _ by rw [hU];exact own_setT HH19.out HL19.out (by decide) _ _)
          have HC22:=Lib.hid (show ∀ x ∈ R,ChgB U22 x.2.1 x.1 from fun x hx=>by rw [hU];exact (HC19.out x hx).setT HL19.out (by decide) _ _)
          have HGO:=Lib.hid (show ChgB U22 go l by rw [hU];exact HGO.out.setT HL19.out (by decide) _ _)
          clear hU p0 pf0 pl
          refine hK _ _ ⟨⟨aqKeepG HSX.out HE22.out,fun h=>absurd h (by decide)⟩,?_⟩
          clear hK K
          refine doneL (by kernel_rfl) ?_ _
          go_wp2
          go_ret
          refine ⟨rfl,_,_,go,d,logG_app HNN.out HHL.out HGx.out HD.out HT.out HCZ.out HL22.out HR22.out HH22.out HC22.out HGO.out,?_⟩
          exact (ExtS.of_ext (ext_call HE0.out HEx.out)).trans HE22.out
        · refine stepL rfl (by rfl) (fun K hK=>?_)
          go_simp
          obtain ⟨U15,hU⟩:∃ Z,Z=World.alloc U8 (.cells #[.int .i64 ((n:Int)+1),.string cz,.string t] 52):=⟨_,rfl⟩
          have hbo:Below U8.heap.size U8 U15:=by rw [hU];exact ext_new _ _
          have HMB:=Lib.hid (show Blk U15 U8.heap.size 52 #[.int .i64 ((n:Int)+1),.string cz,.string t] by rw [hU];exact Blk.new _ _ _)
          have HA:=Lib.hid (HA.out.below hbo)
          have HBD:=Lib.hid (ext_call HBD.out hbo)
          have HGO:=Lib.hid (HGO.out.ext hbo)
          have HNB:=Lib.hid (HNB.out.ext hbo)
          rw [← hU]
          clear hU hbo
          generalize U8.heap.size=mb at HMB ⊢
          refine hK _ _ ⟨⟨(aqKeepG HSX.out HA.out.ext),fun _=>(And.intro (HA.out.log.cell 0) (HA.out.log.cell 1))⟩,?_⟩
          clear hK K
          refine allL [9] (by kernel_rfl) (by simp) ?_
          simp only [List.forall_mem_cons,List.not_mem_nil,false_implies,implies_true,and_true]
          refine stepL rfl (by rfl) (fun K hK=>?_)
          refine wp_append_own _ (.tmp 37) (.tmp 40) 29 rfl B 75 ir (.agg #[.int .i64 0,.slice none 0 0]) 2 32 Tryz.underlying29 hir hzr0 hzr1 hzr2 rfl (by decide) (.slice A n cr) n (rcF 0 R) (by rfl) HA.out.recs ⟨nb,0,none⟩ 1 1 [.int .i64 ((n:Int)+1),.slice (some ⟨go,0,none⟩) l.length d] (by rfl) rfl (news_blk HNB.out) (by simp [Value.oneCell']) (by unfold maxLen;omega) (by omega) (Nat.le_trans HBB.out HA.out.ext.size) ?_
          intro v9 W9 ho9 hg9 _
          obtain ⟨A9,c9,h9⟩:=own_shape ho9
          subst h9
          have HGO:=Lib.hid (HGO.out.grownT hg9 HA.out.recs (by decide))
          have HMB:=Lib.hid (HMB.out.grownT hg9 HA.out.recs (by decide))
          have HA:=Lib.hid (HA.out.app_rec ho9 hg9)
          clear ho9 hg9
          simp only [Act.put,List.setIfInBounds_toArray,List.set_cons_succ,List.set_cons_zero]
          refine hK _ _ ⟨⟨(aqKeepG HSX.out HA.out.ext),fun _=>(And.intro (HA.out.log.cell 0) (HA.out.log.cell 1))⟩,?_⟩
          clear hK K
          refine allL [16] (by kernel_rfl) (by simp) ?_
          simp only [List.forall_mem_cons,List.not_mem_nil,false_implies,implies_true,and_true]
          refine stepL rfl (by rfl) (fun K hK=>?_)
          refine wp_append_own _ (.tmp 45) (.tmp 47) 110 rfl C 52 ih (.agg #[.int .i64 0,.string ⟨#[]⟩,.string ⟨#[]⟩]) 3 40 Tryz.underlying110 hih hzh0 hzh1 hzh2 rfl (by decide) (.slice (some ⟨gh,0,none⟩) (n+1) ch) (n+1) (hcF 0 H) (by rfl) HA.out.heads ⟨mb,0,none⟩ 1 1 [.int .i64 ((n:Int)+1),.string cz,.string t] (by rfl) rfl (news_blk HMB.out) (by simp [Value.oneCell']) (by unfold maxLen;omega) (by omega) (Nat.le_trans HCB.out HA.out.ext.size) ?_
          intro v16 W16 ho9 hg9 _
          obtain ⟨A16,c16,h9⟩:=own_shape ho9
          subst h9
          have HGO:=Lib.hid (HGO.out.grownT hg9 HA.out.heads (by decide))
          have HA:=Lib.hid (HA.out.app_head ho9 hg9)
          clear ho9 hg9
          simp only [Act.put,List.setIfInBounds_toArray,List.set_cons_succ,List.set_cons_zero]
          refine hK _ _ ⟨⟨(aqKeepG HSX.out HA.out.ext),fun _=>(And.intro (HA.out.log.cell 0) (HA.out.log.cell 1))⟩,?_⟩
          clear hK K
          refine takeF 17 (v:=?_) rfl (by kernel_rfl) (by kernel_rfl) (by kernel_rfl) (by kernel_rfl) (fun _ _ _ h=>h) (Or.inl ⟨by rfl,?_⟩) (aqKeepG HSX.out HA.out.ext) (fun _=>(And.intro (HA.out.log.cell 0) (HA.out.log.cell 1))) ?_
          rotate_left 1
          · (rintro w' ⟨f0,f1,f2,f3,f4,_⟩;go_simp;with_reducible rfl)
          refine takeF 18 (v:=?_) rfl (by kernel_rfl) (by kernel_rfl) (by kernel_rfl) (by kernel_rfl) (fun _ _ _ h=>h) (Or.inl ⟨by rfl,?_⟩) (aqKeepG HSX.out HA.out.ext) (fun _=>(And.intro (HA.out.log.cell 0) (HA.out.log.cell 1))) ?_
          rotate_left 1
          · (rintro w' ⟨f0,f1,f2,f3,f4,_⟩;go_simp;with_reducible rfl)
          have p0:=HA.out.log.cell 0
          have pf0:=HA.out.log.frozen 0
          have pl:=HA.out.log.lt
          refine allL [19] (by kernel_rfl) (by simp) ?_
          simp only [List.forall_mem_cons,List.not_mem_nil,false_implies,implies_true,and_true]
          refine stepL rfl (by rfl) (fun K hK=>?_)
          go_simp
          obtain ⟨U19,hU⟩:∃ Z,Z=World.setCell W16 ⟨gl,0,none⟩ (.slice A9 (n+1) c9):=⟨_,rfl⟩
          rw [← hU]
          have HE19:=Lib.hid (show ExtS (ApX gl (.slice A n cr) (.slice (some ⟨gh,0,none⟩) (n+1) ch)) X U19 by rw [hU];exact HA.out.ext.setG)
          have HL19:=Lib.hid (show Blk U19 gl 112 #[.slice A9 (n+1) c9,.slice (some ⟨gh,0,none⟩) (n+1) ch] by rw [hU];exact HA.out.log.set_ 0 _)
          have HR19:=Lib.hid (show World.ownsRow U19 B 75 2 _ _ _ by rw [hU];exact own_setT HA.out.recs HA.out.log (by decide) _ _)
          have HH19:=Lib.hid (show World.ownsRow U19 C 52 3 _ _ _ by rw [hU];exact own_setT HA.out.heads HA.out.log (by decide) _ _)
          have HC19:=Lib.hid (show ∀ x ∈ R,ChgB U19 x.2.1 x.1 from fun x hx=>by rw [hU];exact (HA.out.chg x hx).setT HA.out.log (by decide) _ _)
          have HGO:=Lib.hid (show ChgB U19 go l by rw [hU];exact HGO.out.setT HA.out.log (by decide) _ _)
          clear hU p0 pf0 pl HA
          refine hK _ _ ⟨⟨aqKeepG HSX.out HE19.out,fun h=>absurd h (by decide)⟩,?_⟩
          clear hK K
          refine takeF 20 (v:=?_) rfl (by kernel_rfl) (by kernel_rfl) (by kernel_rfl) (by kernel_rfl) (fun _ _ _ h=>h) (Or.inl ⟨by rfl,?_⟩) (aqKeepG HSX.out HE19.out) (fun h=>absurd h (by decide)) ?_
          rotate_left 1
          · (rintro w' ⟨f0,f1,f2,f3,f4,_⟩;go_simp;with_reducible rfl)
          refine takeF 21 (v:=?_) rfl (by kernel_rfl) (by kernel_rfl) (by kernel_rfl) (by kernel_rfl) (fun _ _ _ h=>h) (Or.inl ⟨by rfl,?_⟩) (aqKeepG HSX.out HE19.out) (fun h=>absurd h (by decide)) ?_
          rotate_left 1
          · (rintro w' ⟨f0,f1,f2,f3,f4,_⟩;go_simp;with_reducible rfl)
          have p0:=HL19.out.cell 1
          have pf0:=HL19.out.frozen 1
          have pl:=HL19.out.lt
          refine allL [22] (by kernel_rfl) (by simp) ?_
          simp only [List.forall_mem_cons,List.not_mem_nil,false_implies,implies_true,and_true]
          refine stepL rfl (by rfl) (fun K hK=>?_)
          go_simp
          obtain ⟨U22,hU⟩:∃ Z,Z=World.setCell U19 ⟨gl,1,none⟩ (.slice A16 (n+1+1) c16):=⟨_,rfl⟩
          rw [← hU]
          have HE22:=Lib.hid (show ExtS (ApX gl (.slice A n cr) (.slice (some ⟨gh,0,none⟩) (n+1) ch)) X U22 by rw [hU];exact HE19.out.setG)
          have HL22:=Lib.hid (show Blk U22 gl 112 #[.slice A9 (n+1) c9,.slice A16 (n+1+1) c16] by rw [hU];exact HL19.out.set_ 1 _)
          have HR22:=Lib.hid (show World.ownsRow U22 B 75 2 _ _ _ by rw [hU];exact own_setT HR19.out HL19.out (by decide) _ _)
          have HH22:=Lib.hid (show World.ownsRow U22 C 52 3 _ _ _ by rw [hU];exact own_setT HH19.out HL19.out (by decide) _ _)
          have HC22:=Lib.hid (show ∀ x ∈ R,ChgB U22 x.2.1 x.1 from fun x hx=>by rw [hU];exact (HC19.out x hx).setT HL19.out (by decide) _ _)
          have HGO:=Lib.hid (show ChgB U22 go l by rw [hU];exact HGO.out.setT HL19.out (by decide) _ _)
          clear hU p0 pf0 pl
          refine hK _ _ ⟨⟨aqKeepG HSX.out HE22.out,fun h=>absurd h (by decide)⟩,?_⟩
          clear hK K
          refine doneL (by kernel_rfl) ?_ _
          go_wp2
          go_ret
          refine ⟨rfl,_,_,go,d,logG_app HNN.out HHL.out HGx.out HD.out HT.out HCZ.out HL22.out HR22.out HH22.out HC22.out HGO.out,?_⟩
          exact (ExtS.of_ext (ext_call HE0.out HEx.out)).trans HE22.out
      · refine stepL rfl (by rfl) (fun K hK=>?_)
        go_simp
        obtain ⟨U15,hU⟩:∃ Z,Z=World.alloc V7 (.cells #[.int .i64 ((n:Int)+1),.string cz,.string t] 52):=⟨_,rfl⟩
        have hbo:Below V7.heap.size V7 U15:=by rw [hU];exact ext_new _ _
        have HMB:=Lib.hid (show Blk U15 V7.heap.size 52 #[.int .i64 ((n:Int)+1),.string cz,.string t] by rw [hU];exact Blk.new _ _ _)
        have HA:=Lib.hid (HA.out.below hbo)
        have HBD:=Lib.hid (ext_call HBD.out hbo)
        have HGO:=Lib.hid (HGO.out.ext hbo)
        rw [← hU]
        clear hU hbo
        generalize V7.heap.size=mb at HMB ⊢
        refine hK _ _ ⟨⟨(aqKeepG HSX.out HA.out.ext),fun _=>(And.intro (HA.out.log.cell 0) (HA.out.log.cell 1))⟩,?_⟩
        clear hK K
        refine allL [8] (by kernel_rfl) (by simp) ?_
        simp only [List.forall_mem_cons,List.not_mem_nil,false_implies,implies_true,and_true]
        refine stepL rfl (by rfl) (fun K hK=>?_)
        go_simp
        obtain ⟨U8,hU⟩:∃ Z,Z=World.alloc U15 (.cells #[.int .i64 ((n:Int)+1),.slice (some ⟨go,0,none⟩) l.length d] 75):=⟨_,rfl⟩
        have hbo:Below U15.heap.size U15 U8:=by rw [hU];exact ext_new _ _
        have HNB:=Lib.hid (show Blk U8 U15.heap.size 75 #[.int .i64 ((n:Int)+1),.slice (some ⟨go,0,none⟩) l.length d] by rw [hU];exact Blk.new _ _ _)
        have HA:=Lib.hid (HA.out.below hbo)
        have HBD:=Lib.hid (ext_call HBD.out hbo)
        have HGO:=Lib.hid (HGO.out.ext hbo)
        have HMB:=Lib.hid (HMB.out.ext hbo)
        rw [← hU]
        clear hU hbo
        generalize U15.heap.size=nb at HNB ⊢
        refine hK _ _ ⟨⟨(aqKeepG HSX.out HA.out.ext),fun _=>(And.intro (HA.out.log.cell 0) (HA.out.log.cell 1))⟩,?_⟩
        clear hK K
        refine allL [9] (by kernel_rfl) (by simp) ?_
        simp only [List.forall_mem_cons,List.not_mem_nil,false_implies,implies_true,and_true]
        refine stepL rfl (by rfl) (fun K hK=>?_)
        refine wp_append_own _ (.tmp 37) (.tmp 40) 29 rfl B 75 ir (.agg #[.int .i64 0,.slice none 0 0]) 2 32 Tryz.underlying29 hir hzr0 hzr1 hzr2 rfl (by decide) (.slice A n cr) n (rcF 0 R) (by rfl) HA.out.recs ⟨nb,0,none⟩ 1 1 [.int .i64 ((n:Int)+1),.slice (some ⟨go,0,none⟩) l.length d] (by rfl) rfl (news_blk HNB.out) (by simp [Value.oneCell']) (by unfold maxLen;omega) (by omega) (Nat.le_trans HBB.out HA.out.ext.size) ?_
        intro v9 W9 ho9 hg9 _
        obtain ⟨A9,c9,h9⟩:=own_shape ho9
        subst h9
        have HGO:=Lib.hid (HGO.out.grownT hg9 HA.out.recs (by decide))
        have HMB:=Lib.hid (HMB.out.grownT hg9 HA.out.recs (by decide))
        have HA:=Lib.hid (HA.out.app_rec ho9 hg9)
        clear ho9 hg9
        simp only [Act.put,List.setIfInBounds_toArray,List.set_cons_succ,List.set_cons_zero]
        refine hK _ _ ⟨⟨(aqKeepG HSX.out HA.out.ext),fun _=>(And.intro (HA.out.log.cell 0) (HA.out.log.cell 1))⟩,?_⟩
        clear hK K
        refine allL [16] (by kernel_rfl) (by simp) ?_
        simp only [List.forall_mem_cons,List.not_mem_nil,false_implies,implies_true,and_true]
        refine stepL rfl (by rfl) (fun K hK=>?_)
        refine wp_append_own _ (.tmp 45) (.tmp 47) 110 rfl C 52 ih (.agg #[.int .i64 0,.string ⟨#[]⟩,.string ⟨#[]⟩]) 3 40 Tryz.underlying110 hih hzh0 hzh1 hzh2 rfl (by decide) (.slice (some ⟨gh,0,none⟩) (n+1) ch) (n+1) (hcF 0 H) (by rfl) HA.out.heads ⟨mb,0,none⟩ 1 1 [.int .i64 ((n:Int)+1),.string cz,.string t] (by rfl) rfl (news_blk HMB.out) (by simp [Value.oneCell']) (by unfold maxLen;omega) (by omega) (Nat.le_trans HCB.out HA.out.ext.size) ?_
        intro v16 W16 ho9 hg9 _
        obtain ⟨A16,c16,h9⟩:=own_shape ho9
        subst h9
        have HGO:=Lib.hid (HGO.out.grownT hg9 HA.out.heads (by decide))
        have HA:=Lib.hid (HA.out.app_head ho9 hg9)
        clear ho9 hg9
        simp only [Act.put,List.setIfInBounds_toArray,List.set_cons_succ,List.set_cons_zero]
        refine hK _ _ ⟨⟨(aqKeepG HSX.out HA.out.ext),fun _=>(And.intro (HA.out.log.cell 0) (HA.out.log.cell 1))⟩,?_⟩
        clear hK K
        refine takeF 17 (v:=?_) rfl (by kernel_rfl) (by kernel_rfl) (by kernel_rfl) (by kernel_rfl) (fun _ _ _ h=>h) (Or.inl ⟨by rfl,?_⟩) (aqKeepG HSX.out HA.out.ext) (fun _=>(And.intro (HA.out.log.cell 0) (HA.out.log.cell 1))) ?_
        rotate_left 1
        · (rintro w' ⟨f0,f1,f2,f3,f4,_⟩;go_simp;with_reducible rfl)
        refine takeF 18 (v:=?_) rfl (by kernel_rfl) (by kernel_rfl) (by kernel_rfl) (by kernel_rfl) (fun _ _ _ h=>h) (Or.inl ⟨by rfl,?_⟩) (aqKeepG HSX.out HA.out.ext) (fun _=>(And.intro (HA.out.log.cell 0) (HA.out.log.cell 1))) ?_
        rotate_left 1
        · (rintro w' ⟨f0,f1,f2,f3,f4,_⟩;go_simp;with_reducible rfl)
        have p0:=HA.out.log.cell 0
        have pf0:=HA.out.log.frozen 0
        have pl:=HA.out.log.lt
        refine allL [19] (by kernel_rfl) (by simp) ?_
        simp only [List.forall_mem_cons,List.not_mem_nil,false_implies,implies_true,and_true]
        refine stepL rfl (by rfl) (fun K hK=>?_)
        go_simp
        obtain ⟨U19,hU⟩:∃ Z,Z=World.setCell W16 ⟨gl,0,none⟩ (.slice A9 (n+1) c9):=⟨_,rfl⟩
        rw [← hU]
        have HE19:=Lib.hid (show ExtS (ApX gl (.slice A n cr) (.slice (some ⟨gh,0,none⟩) (n+1) ch)) X U19 by rw [hU];exact HA.out.ext.setG)
        have HL19:=Lib.hid (show Blk U19 gl 112 #[.slice A9 (n+1) c9,.slice (some ⟨gh,0,none⟩) (n+1) ch] by rw [hU];exact HA.out.log.set_ 0 _)
        have HR19:=Lib.hid (show World.ownsRow U19 B 75 2 _ _ _ by rw [hU];exact own_setT HA.out.recs HA.out.log (by decide) _ _)
        have HH19:=Lib.hid (show World.ownsRow U19 C 52 3 _ _ _ by rw [hU];exact own_setT HA.out.heads HA.out.log (by decide) _ _)
        have HC19:=Lib.hid (show ∀ x ∈ R,ChgB U19 x.2.1 x.1 from fun x hx=>by rw [hU];exact (HA.out.chg x hx).setT HA.out.log (by decide) _ _)
        have HGO:=Lib.hid (show ChgB U19 go l by rw [hU];exact HGO.out.setT HA.out.log (by decide) _ _)
        clear hU p0 pf0 pl HA
        refine hK _ _ ⟨⟨aqKeepG HSX.out HE19.out,fun h=>absurd h (by decide)⟩,?_⟩
        clear hK K
        refine takeF 20 (v:=?_) rfl (by kernel_rfl) (by kernel_rfl) (by kernel_rfl) (by kernel_rfl) (fun _ _ _ h=>h) (Or.inl ⟨by rfl,?_⟩) (aqKeepG HSX.out HE19.out) (fun h=>absurd h (by decide)) ?_
        rotate_left 1
        · (rintro w' ⟨f0,f1,f2,f3,f4,_⟩;go_simp;with_reducible rfl)
        refine takeF 21 (v:=?_) rfl (by kernel_rfl) (by kernel_rfl) (by kernel_rfl) (by kernel_rfl) (fun _ _ _ h=>h) (Or.inl ⟨by rfl,?_⟩) (aqKeepG HSX.out HE19.out) (fun h=>absurd h (by decide)) ?_
        rotate_left 1
        · (rintro w' ⟨f0,f1,f2,f3,f4,_⟩;go_simp;with_reducible rfl)
        have p0:=HL19.out.cell 1
        have pf0:=HL19.out.frozen 1
        have pl:=HL19.out.lt
        refine allL [22] (by kernel_rfl) (by simp) ?_
        simp only [List.forall_mem_cons,List.not_mem_nil,false_implies,implies_true,and_true]
        refine stepL rfl (by rfl) (fun K hK=>?_)
        go_simp
        obtain ⟨U22,hU⟩:∃ Z,Z=World.setCell U19 ⟨gl,1,none⟩ (.slice A16 (n+1+1) c16):=⟨_,rfl⟩
        rw [← hU]
        have HE22:=Lib.hid (show ExtS (ApX gl (.slice A n cr) (.slice (some ⟨gh,0,none⟩) (n+1) ch)) X U22 by rw [hU];exact HE19.out.setG)
        have HL22:=Lib.hid (show Blk U22 gl 112 #[.slice A9 (n+1) c9,.slice A16 (n+1+1) c16] by rw [hU];exact HL19.out.set_ 1 _)
        have HR22:=Lib.hid (show World.ownsRow U22 B 75 2 _ _ _ by rw [hU];exact own_setT HR19.out HL19.out (by decide) _ _)
        have HH22:=Lib.hid (show World.ownsRow U22 C 52 3 _ _ _ by rw [hU];exact own_setT HH19.out HL19.out (by decide) _ _)
        have HC22:=Lib.hid (show ∀ x ∈ R,ChgB U22 x.2.1 x.1 from fun x hx=>by rw [hU];exact (HC19.out x hx).setT HL19.out (by decide) _ _)
        have HGO:=Lib.hid (show ChgB U22 go l by rw [hU];exact HGO.out.setT HL19.out (by decide) _ _)
        clear hU p0 pf0 pl
        refine hK _ _ ⟨⟨aqKeepG HSX.out HE22.out,fun h=>absurd h (by decide)⟩,?_⟩
        clear hK K
        refine doneL (by kernel_rfl) ?_ _
        go_wp2
        go_ret
        refine ⟨rfl,_,_,go,d,logG_app HNN.out HHL.out HGx.out HD.out HT.out HCZ.out HL22.out HR22.out HH22.out HC22.out HGO.out,?_⟩
        exact (ExtS.of_ext (ext_call HE0.out HEx.out)).trans HE22.out
    · refine stepL rfl (by rfl) (fun K hK=>?_)
      go_simp
      obtain ⟨U15,hU⟩:∃ Z,Z=World.alloc U0 (.cells #[.int .i64 ((n:Int)+1),.string cz,.string t] 52):=⟨_,rfl⟩
      have hbo:Below U0.heap.size U0 U15:=by rw [hU];exact ext_new _ _
      have HMB:=Lib.hid (show Blk U15 U0.heap.size 52 #[.int .i64 ((n:Int)+1),.string cz,.string t] by rw [hU];exact Blk.new _ _ _)
      have HA:=Lib.hid (HA.out.below hbo)
      have HBD:=Lib.hid (ext_call HBD.out hbo)
      rw [← hU]
      clear hU hbo
      generalize U0.heap.size=mb at HMB ⊢
      refine hK _ _ ⟨⟨(aqKeepG HSX.out HA.out.ext),fun _=>(And.intro (HA.out.log.cell 0) (HA.out.log.cell 1))⟩,?_⟩
      clear hK K
      refine allL [7] (by kernel_rfl) (by simp) ?_
      simp only [List.forall_mem_cons,List.not_mem_nil,false_implies,implies_true,and_true]
      refine stepL rfl (by rfl) (fun K hK=>?_)
      go_simp
      go_at_call 72
      refine (HOw.out _ (HVX.out.ext HBD.out)).mono ?_
      rintro e V7 ⟨go,d,rfl,-,hd,hch,hbo⟩
      have HA:=Lib.hid (HA.out.below hbo)
      have HGO:=Lib.hid hch
      have HD:=Lib.hid hd
      have HBD:=Lib.hid (ext_call HBD.out hbo)
      have HMB:=Lib.hid (HMB.out.ext hbo)
      clear hbo hch hd
      refine hK _ _ ⟨⟨(aqKeepG HSX.out HA.out.ext),fun _=>(And.intro (HA.out.log.cell 0) (HA.out.log.cell 1))⟩,?_⟩
      clear hK K
      refine allL [8] (by kernel_rfl) (by simp) ?_
      simp only [List.forall_mem_cons,List.not_mem_nil,false_implies,implies_true,and_true]
      refine stepL rfl (by rfl) (fun K hK=>?_)
      go_simp
      obtain ⟨U8,hU⟩:∃ Z,Z=World.alloc V7 (.cells #[.int .i64 ((n:Int)+1),.slice (some ⟨go,0,none⟩) l.length d] 75):=⟨_,rfl⟩
      have hbo:Below V7.heap.size V7 U8:=by rw [hU];exact ext_new _ _
      have HNB:=Lib.hid (show Blk U8 V7.heap.size 75 #[.int .i64 ((n:Int)+1),.slice (some ⟨go,0,none⟩) l.length d] by rw [hU];exact Blk.new _ _ _)
      have HA:=Lib.hid (HA.out.below hbo)
      have HBD:=Lib.hid (ext_call HBD.out hbo)
      have HGO:=Lib.hid (HGO.out.ext hbo)
      have HMB:=Lib.hid (HMB.out.ext hbo)
      rw [← hU]
      clear hU hbo
      generalize V7.heap.size=nb at HNB ⊢
      refine hK _ _ ⟨⟨(aqKeepG HSX.out HA.out.ext),fun _=>(And.intro (HA.out.log.cell 0) (HA.out.log.cell 1))⟩,?_⟩
      clear hK K
      refine allL [9] (by kernel_rfl) (by simp) ?_
      simp only [List.forall_mem_cons,List.not_mem_nil,false_implies,implies_true,and_true]
      refine stepL rfl (by rfl) (fun K hK=>?_)
      refine wp_append_own _ (.tmp 37) (.tmp 40) 29 rfl B 75 ir (.agg #[.int .i64 0,.slice none 0 0]) 2 32 Tryz.underlying29 hir hzr0 hzr1 hzr2 rfl (by decide) (.slice A n cr) n (rcF 0 R) (by rfl) HA.out.recs ⟨nb,0,none⟩ 1 1 [.int .i64 ((n:Int)+1),.slice (some ⟨go,0,none⟩) l.length d] (by rfl) rfl (news_blk HNB.out) (by simp [Value.oneCell']) (by unfold maxLen;omega) (by omega) (Nat.le_trans HBB.out HA.out.ext.size) ?_
      intro v9 W9 ho9 hg9 _
      obtain ⟨A9,c9,h9⟩:=own_shape ho9
      subst h9
      have HGO:=Lib.hid (HGO.out.grownT hg9 HA.out.recs (by decide))
      have HMB:=Lib.hid (HMB.out.grownT hg9 HA.out.recs (by decide))
      have HA:=Lib.hid (HA.out.app_rec ho9 hg9)
      clear ho9 hg9
      simp only [Act.put,List.setIfInBounds_toArray,List.set_cons_succ,List.set_cons_zero]
      refine hK _ _ ⟨⟨(aqKeepG HSX.out HA.out.ext),fun _=>(And.intro (HA.out.log.cell 0) (HA.out.log.cell 1))⟩,?_⟩
      clear hK K
      refine allL [16] (by kernel_rfl) (by simp) ?_
      simp only [List.forall_mem_cons,List.not_mem_nil,false_implies,implies_true,and_true]
      refine stepL rfl (by rfl) (fun K hK=>?_)
      refine wp_append_own _ (.tmp 45) (.tmp 47) 110 rfl C 52 ih (.agg #[.int .i64 0,.string ⟨#[]⟩,.string ⟨#[]⟩]) 3 40 Tryz.underlying110 hih hzh0 hzh1 hzh2 rfl (by decide) (.slice (some ⟨gh,0,none⟩) (n+1) ch) (n+1) (hcF 0 H) (by rfl) HA.out.heads ⟨mb,0,none⟩ 1 1 [.int .i64 ((n:Int)+1),.string cz,.string t] (by rfl) rfl (news_blk HMB.out) (by simp [Value.oneCell']) (by unfold maxLen;omega) (by omega) (Nat.le_trans HCB.out HA.out.ext.size) ?_
      intro v16 W16 ho9 hg9 _
      obtain ⟨A16,c16,h9⟩:=own_shape ho9
      subst h9
      have HGO:=Lib.hid (HGO.out.grownT hg9 HA.out.heads (by decide))
      have HA:=Lib.hid (HA.out.app_head ho9 hg9)
      clear ho9 hg9
      simp only [Act.put,List.setIfInBounds_toArray,List.set_cons_succ,List.set_cons_zero]
      refine hK _ _ ⟨⟨(aqKeepG HSX.out HA.out.ext),fun _=>(And.intro (HA.out.log.cell 0) (HA.out.log.cell 1))⟩,?_⟩
      clear hK K
      refine takeF 17 (v:=?_) rfl (by kernel_rfl) (by kernel_rfl) (by kernel_rfl) (by kernel_rfl) (fun _ _ _ h=>h) (Or.inl ⟨by rfl,?_⟩) (aqKeepG HSX.out HA.out.ext) (fun _=>(And.intro (HA.out.log.cell 0) (HA.out.log.cell 1))) ?_
      rotate_left 1
      · (rintro w' ⟨f0,f1,f2,f3,f4,_⟩;go_simp;with_reducible rfl)
      refine takeF 18 (v:=?_) rfl (by kernel_rfl) (by kernel_rfl) (by kernel_rfl) (by kernel_rfl) (fun _ _ _ h=>h) (Or.inl ⟨by rfl,?_⟩) (aqKeepG HSX.out HA.out.ext) (fun _=>(And.intro (HA.out.log.cell 0) (HA.out.log.cell 1))) ?_
      rotate_left 1
      · (rintro w' ⟨f0,f1,f2,f3,f4,_⟩;go_simp;with_reducible rfl)
      have p0:=HA.out.log.cell 0
      have pf0:=HA.out.log.frozen 0
      have pl:=HA.out.log.lt
      refine allL [19] (by kernel_rfl) (by simp) ?_
      simp only [List.forall_mem_cons,List.not_mem_nil,false_implies,implies_true,and_true]
      refine stepL rfl (by rfl) (fun K hK=>?_)
      go_simp
      obtain ⟨U19,hU⟩:∃ Z,Z=World.setCell W16 ⟨gl,0,none⟩ (.slice A9 (n+1) c9):=⟨_,rfl⟩
      rw [← hU]
      have HE19:=Lib.hid (show ExtS (ApX gl (.slice A n cr) (.slice (some ⟨gh,0,none⟩) (n+1) ch)) X U19 by rw [hU];exact HA.out.ext.setG)
      have HL19:=Lib.hid (show Blk U19 gl 112 #[.slice A9 (n+1) c9,.slice (some ⟨gh,0,none⟩) (n+1) ch] by rw [hU];exact HA.out.log.set_ 0 _)
      have HR19:=Lib.hid (show World.ownsRow U19 B 75 2 _ _ _ by rw [hU];exact own_setT HA.out.recs HA.out.log (by decide) _ _)
      have HH19:=Lib.hid (show World.ownsRow U19 C 52 3 _ _ _ by rw [hU];exact own_setT HA.out.heads HA.out.log (by decide) _ _)
      have HC19:=Lib.hid (show ∀ x ∈ R,ChgB U19 x.2.1 x.1 from fun x hx=>by rw [hU];exact (HA.out.chg x hx).setT HA.out.log (by decide) _ _)
      have HGO:=Lib.hid (show ChgB U19 go l by rw [hU];exact HGO.out.setT HA.out.log (by decide) _ _)
      clear hU p0 pf0 pl HA
      refine hK _ _ ⟨⟨aqKeepG HSX.out HE19.out,fun h=>absurd h (by decide)⟩,?_⟩
      clear hK K
      refine takeF 20 (v:=?_) rfl (by kernel_rfl) (by kernel_rfl) (by kernel_rfl) (by kernel_rfl) (fun _ _ _ h=>h) (Or.inl ⟨by rfl,?_⟩) (aqKeepG HSX.out HE19.out) (fun h=>absurd h (by decide)) ?_
      rotate_left 1
      · (rintro w' ⟨f0,f1,f2,f3,f4,_⟩;go_simp;with_reducible rfl)
      refine takeF 21 (v:=?_) rfl (by kernel_rfl) (by kernel_rfl) (by kernel_rfl) (by kernel_rfl) (fun _ _ _ h=>h) (Or.inl ⟨by rfl,?_⟩) (aqKeepG HSX.out HE19.out) (fun h=>absurd h (by decide)) ?_
      rotate_left 1
      · (rintro w' ⟨f0,f1,f2,f3,f4,_⟩;go_simp;with_reducible rfl)
      have p0:=HL19.out.cell 1
      have pf0:=HL19.out.frozen 1
      have pl:=HL19.out.lt
      refine allL [22] (by kernel_rfl) (by simp) ?_
      simp only [List.forall_mem_cons,List.not_mem_nil,false_implies,implies_true,and_true]
      refine stepL rfl (by rfl) (fun K hK=>?_)
      go_simp
      obtain ⟨U22,hU⟩:∃ Z,Z=World.setCell U19 ⟨gl,1,none⟩ (.slice A16 (n+1+1) c16):=⟨_,rfl⟩
      rw [← hU]
      have HE22:=Lib.hid (show ExtS (ApX gl (.slice A n cr) (.slice (some ⟨gh,0,none⟩) (n+1) ch)) X U22 by rw [hU];exact HE19.out.setG)
      have HL22:=Lib.hid (show Blk U22 gl 112 #[.slice A9 (n+1) c9,.slice A16 (n+1+1) c16] by rw [hU];exact HL19.out.set_ 1 _)
      have HR22:=Lib.hid (show World.ownsRow U22 B 75 2 _ _ _ by rw [hU];exact own_setT HR19.out HL19.out (by decide) _ _)
      have HH22:=Lib.hid (show World.ownsRow U22 C 52 3 _ _ _ by rw [hU];exact own_setT HH19.out HL19.out (by decide) _ _)
      have HC22:=Lib.hid (show ∀ x ∈ R,ChgB U22 x.2.1 x.1 from fun x hx=>by rw [hU];exact (HC19.out x hx).setT HL19.out (by decide) _ _)
      have HGO:=Lib.hid (show ChgB U22 go l by rw [hU];exact HGO.out.setT HL19.out (by decide) _ _)
      clear hU p0 pf0 pl
      refine hK _ _ ⟨⟨aqKeepG HSX.out HE22.out,fun h=>absurd h (by decide)⟩,?_⟩
      clear hK K
      refine doneL (by kernel_rfl) ?_ _
      go_wp2
      go_ret
      refine ⟨rfl,_,_,go,d,logG_app HNN.out HHL.out HGx.out HD.out HT.out HCZ.out HL22.out HR22.out HH22.out HC22.out HGO.out,?_⟩
      exact (ExtS.of_ext (ext_call HE0.out HEx.out)).trans HE22.out
theorem logAppendX (B gl:Nat) (rv hv:Value) (R:List (List ChgT × Nat × Nat)) (H:List (ByteArray × ByteArray)) (l:List ChgT) (v:Value) (t:ByteArray) (ht:t.size=32) (hn:R.length≤60) (w:World) (hBw:B≤w.heap.size) (hL:LogG B w gl rv hv R H) (last:ByteArray × ByteArray) (hlast:H[R.length]? = some last)
    (hvl:ChgsAt w v l) (hl:ChgsOK l) (hF:validF l=true) (hR:RoundOK w) :
    Calls Tryz.prog 40 #[.pointer (some ⟨gl,0,none⟩),.agg #[.int .i64 ((R.length:Int)+1),v],.string t] w
      fun e w'=>e=.returned (.int .i64 0)∧∃ rv2 hv2 g d,LogG B w' gl rv2 hv2 (R++[(l,g,d)]) (H++[(chainF last.1 (encG (encRec ((R.length:Int)+1) l)),t)])∧ExtS (ApX gl rv hv) w w':=
  logAppendY B B gl rv hv R H l v t ht hn w hBw hBw hL last hlast hvl hl hF hR
end
section
open Go.RowKit Go.Shelf
attribute [local go_sem ↓] Go.wp_at_zero Go.wp_at_succ
def stF (Ls:List (List ChgT)):List RowT:=Ls.foldl applyF []
theorem stF_succ {Ls:List (List ChgT)} {k:Nat} {l:List ChgT} (h:Ls[k]? = some l):stF (Ls.take (k+1))=applyF (stF (Ls.take k)) l:=by
  unfold stF
  rw [List.take_add_one,h,List.foldl_append]
  rfl
structure RunG (Ls:List (List ChgT)):Prop where
  step:∀ (i:Nat) (l:List ChgT),Ls[i]? = some l→ChgsOK l∧validF l=true∧(∀ c ∈ l,fillC (stF (Ls.take i)) c=c)∧(stF (Ls.take i)).length≤1000
def RecsL (w:World) (v:Value) (first:Nat) (Ls:List (List ChgT)):Prop:=∃ A c,v=.slice A Ls.length c∧Ls.length≤c∧(0<Ls.length→∃ b,A=some ⟨b,0,none⟩∧∀ (j:Nat) (l:List ChgT),Ls[j]? = some l →
  w.cell? ⟨b,j*2,none⟩=some (.int .i64 ((first:Int)+(j:Int)))∧∃ u,w.cell? ⟨b,j*2+1,none⟩=some u∧ChgsAt w u l)
theorem RecsL.ext {w W:World} {v:Value} {first:Nat} {Ls:List (List ChgT)} (h:RecsL w v first Ls) (k:Below w.heap.size w W):RecsL W v first Ls:=by
  obtain ⟨A,c,rfl,hc,h⟩:=h
  refine ⟨A,c,rfl,hc,fun h0=>?_⟩
  obtain ⟨b,hA,h2⟩:=h h0
  exact ⟨b,hA,fun j l hj=>by obtain ⟨h3,u,h4,h5⟩:=h2 j l hj;exact ⟨cell_ext h3 k,u,cell_ext h4 k,h5.ext k⟩⟩
theorem atS (Ls:List (List ChgT)) (v:Value) (p:Nat) (hp:p≤Ls.length) (hp9:Ls.length≤900) (hR:RunG Ls) (w:World) (hv:RecsL w v 1 Ls) :
    Calls Tryz.prog 19 #[v,.int .i64 (p:Int)] w fun e w'=>∃ gs gm,e=.returned (.tuple #[.pointer (some ⟨gs,0,none⟩),.int .i64 0])∧StateR w' gs gm (p:Int) (stF (Ls.take p))∧w.heap.size≤gs∧w.heap.size≤gm∧Below w.heap.size w w':=by
  have HVV:=Lib.hid hv
  obtain ⟨A,c,rfl,hc,-⟩:=hv
  have HV:=HVV
  clear HVV
  have HRN:=Lib.hid hR
  have p0:(0:Int)≤(p:Int):=by omega
  have p1:(p:Int)≤(Ls.length:Int):=by omega
  have p2:(Ls.length:Int)≤(c:Int):=by omega
  have d1:decide ((p:Int)<0)=false:=decide_eq_false (by omega)
  have d2:decide ((Ls.length:Int)<(p:Int))=false:=decide_eq_false (by omega)
  clear hR
  go_enter Tryz.func19,Tryz.ntmps19
  go_wp2_with fail
  refine (storeNew w).mono ?_
  rintro e W1 ⟨rfl,hw⟩
  have HE1:=Lib.hid (show Below w.heap.size w W1 by rw [← hw];exact ext_alloc (ext_new _ _) _)
  have HS1:=Lib.hid (show StateR W1 (w.heap.size+1) w.heap.size 0 [] by rw [← hw];exact ⟨Blk.new' _ _ _ (by simp),(MapR.new w).ext (ext_new _ _)⟩)
  clear hw
  obtain ⟨gs,hgs⟩:∃ gs,gs=w.heap.size+1:=⟨_,rfl⟩
  obtain ⟨gm,hgm⟩:∃ gm,gm=w.heap.size:=⟨_,rfl⟩
  have HGB:=Lib.hid (show w.heap.size≤gs∧w.heap.size≤gm by omega)
  rw [← hgs,← hgm] at HS1
  rw [← hgs]
  clear hgs hgm
  go_wp2
  go_loopg [8,22] p (fun gk _ iv W=>∃ k:Nat,k+gk=p∧iv=.int .i64 (k:Int)∧StateR W gs gm (k:Int) (stF (Ls.take k))∧Below w.heap.size w W)
  case atStart=>exact ⟨0,by omega,rfl,HS1.out,HE1.out⟩
  case round=>
    obtain ⟨k,hk,rfl,hS,hE⟩:=hrel
    have HS:=Lib.hid hS
    have HE:=Lib.hid hE
    clear hS hE HS1 HE1
    have e2:IntKind.i64.wrap ((k:Int)+1)=(k:Int)+1:=by rw [IntWalk.i64_in _ (by omega)]
    by_cases hlt:k<p
    · obtain ⟨l,hl⟩:∃ l,Ls[k]? = some l:=⟨_,List.getElem?_eq_getElem (by omega)⟩
      have HSU:=Lib.hid (stF_succ hl)
      have HST:=Lib.hid (HRN.out.step k l hl)
      obtain ⟨A',c',hA',_,hcell⟩:=HV.out
      injection hA' with hA1 _ hA3
      subst hA1
      subst hA3
      obtain ⟨b,rfl,hcell2⟩:=hcell (by omega)
      obtain ⟨z0,u,z1,hu⟩:=hcell2 k l hl
      have HU:=Lib.hid (hu.ext HE.out)
      have z0:=cell_ext z0 HE.out
      have z1:=cell_ext z1 HE.out
      rw [show (((1:Nat):Int)+(k:Int))=(k:Int)+1 by omega] at z0
      have q0:(0:Int)≤(k:Int):=by omega
      have q1:(k:Int)<(p:Int):=by omega
      obtain ⟨X,hX⟩:∃ X,X=wr.alloc (.cells #[.int .i64 ((k:Int)+1),u] 75):=⟨_,rfl⟩
      have HX:=Lib.hid hX
      have HEX:=Lib.hid (show Below wr.heap.size wr X by rw [hX];exact ext_new _ _)
      have HBX:=Lib.hid (show Blk X wr.heap.size 75 #[.int .i64 ((k:Int)+1),u] by rw [hX];exact Blk.new _ _ _)
      have HAP:=Lib.hid (applyR (stF (Ls.take k)) l u gs gm (k:Int) (by omega) X (HS.out.ext HEX.out) (HU.out.ext HEX.out) HST.out.1 HST.out.2.2.2 HST.out.2.2.1)
      clear hX hu hcell hcell2 hl
      obtain ⟨Au,cu,rfl,-⟩:=id HU.out
      go_upto_region 7 with (fail)
      rw [← HX.out]
      have x0:=HBX.out.cell 0
      have x1:=HBX.out.cell 1
      go_wp2_with fail
      refine HAP.out.mono ?_
      rintro e W2 (⟨h1,_⟩|⟨_,rfl,hS2,hx2⟩)
      · exact absurd h1 (by rw [HST.out.2.1];decide)
      · have HS2:=Lib.hid hS2
        have HE2:=Lib.hid (show Below w.heap.size w W2 from ExtS.below (ext_call HE.out HEX.out) (S:=fun j=>j=gs∨j=gm) (by rintro j (rfl|rfl);exact HGB.out.1;exact HGB.out.2) (ExtS.of_ext2 hx2 (.inl rfl) (.inr rfl)))
        clear hS2 hx2 x0 x1 z0 z1
        go_wp2
        go_roundg (gk-1)
        case measure=>omega
        case rel=>exact ⟨k+1,by omega,by go_num,by rw [HSU.out];exact HS2.out,HE2.out⟩
    · obtain rfl:k=p:=by omega
      go_wp2
      go_ret2
      exact ⟨gs,gm,rfl,HS.out,HGB.out.1,HGB.out.2,HE.out⟩
def trs (R:List (List ChgT × Nat × Nat)):List (List ChgT):=R.map (·.1)
end
section
open Go.RowKit Go.Shelf
attribute [local go_sem ↓] Go.wp_at_zero Go.wp_at_succ
end
section
open Go.RowKit Go.Shelf
attribute [local go_sem ↓] Go.wp_at_zero Go.wp_at_succ
theorem delR_sub (rs:List RowT) (t k:Int):(delR rs t k).Sublist rs:=by
  unfold delR
  split
  · exact List.eraseIdx_sublist rs _
  · exact List.Sublist.refl _
theorem is_iff (t k:Int) (r:RowT):RowT.is t k r=true↔t=r.t∧k=r.k:=by
  unfold RowT.is
  rw [Bool.and_eq_true,decide_eq_true_eq,decide_eq_true_eq]
theorem Apart.set {r:RowT}:∀ {rs:List RowT} {i:Nat} {x:RowT},Apart rs→rs[i]? = some x→x.t=r.t→x.k=r.k→Apart (rs.set i r)
  | [],_,_,h,hi,_,_=>by simp at hi
  | a::rs,0,x,h,hi,ht,hk=>by
    simp at hi
    subst hi
    unfold Apart at h ⊢
    rw [List.set_cons_zero,List.pairwise_cons]
    rw [List.pairwise_cons] at h
    exact ⟨fun b hb e=>h.1 b hb ⟨ht.trans e.1,hk.trans e.2⟩,h.2⟩
  | a::rs,i+1,x,h,hi,ht,hk=>by
    have hi':rs[i]? = some x:=by simpa using hi
    unfold Apart at h ⊢
    rw [List.set_cons_succ,List.pairwise_cons]
    rw [List.pairwise_cons] at h
    refine ⟨fun b hb e=>?_,Apart.set (rs:=rs) h.2 hi' ht hk⟩
    rcases List.mem_or_eq_of_mem_set hb with hb|rfl
    · exact h.1 b hb e
    · exact h.1 x (List.mem_of_getElem? hi') ⟨e.1.trans ht.symm,e.2.trans hk.symm⟩
theorem Apart.put {rs:List RowT} (h:Apart rs) (r:RowT):Apart (putR rs r):=by
  unfold putR
  split
  · rename_i i hi
    rw [List.findIdx?_eq_some_iff_getElem] at hi
    obtain ⟨hlt,his,_⟩:=hi
    have h2:=(is_iff _ _ _).1 his
    exact h.set (List.getElem?_eq_getElem hlt) h2.1.symm h2.2.symm
  · rename_i hi
    rw [List.findIdx?_eq_none_iff] at hi
    unfold Apart
    rw [List.pairwise_append]
    refine ⟨h,by simp,fun a ha b hb e=>?_⟩
    simp at hb
    subst hb
    have h2:=hi a ha
    have h3:=(is_iff b.t b.k a).2 ⟨e.1.symm,e.2.symm⟩
    rw [h3] at h2
    cases h2
theorem Apart.apply:∀ (l:List ChgT) {rs:List RowT},Apart rs→Apart (applyF rs l)
  | [],_,h=>h
  | c::l,rs,h=>by
    show Apart (applyF (applyC rs c) l)
    refine Apart.apply l ?_
    unfold applyC
    split
    · exact h.put _
    · exact List.Pairwise.sublist (delR_sub _ _ _) h
theorem stF_snoc (Ls:List (List ChgT)) (l:List ChgT):stF (Ls++[l])=applyF (stF Ls) l:=by
  unfold stF
  rw [List.foldl_append]
  rfl
theorem trs_snoc (R:List (List ChgT × Nat × Nat)) (x:List ChgT × Nat × Nat):trs (R++[x])=trs R++[x.1]:=by simp [trs]
theorem trs_length (R:List (List ChgT × Nat × Nat)):(trs R).length=R.length:=by simp [trs]
theorem RunG.nil:RunG (trs []):=⟨fun i l h=>by simp [trs] at h⟩
theorem RunG.snoc {R:List (List ChgT × Nat × Nat)} {rs:List RowT} {l:List ChgT} {g d:Nat} (h:RunG (trs R)) (hr:rs=stF (trs R)) (h1:ChgsOK l) (h2:validF l=true) (h3:∀ c ∈ l,fillC rs c=c) (h4:rs.length≤60):RunG (trs (R++[(l,g,d)])):=⟨fun i m hi=>by
  rw [trs_snoc] at hi ⊢
  by_cases hlt:i<(trs R).length
  · rw [List.getElem?_append_left hlt] at hi
    rw [List.take_append_of_le_length (by omega)]
    exact h.step i m hi
  · have hi2:i=(trs R).length:=by
      have:=(List.getElem?_eq_some_iff.1 hi).1
      simp at this
      omega
    subst hi2
    rw [List.getElem?_append_right (Nat.le_refl _),Nat.sub_self] at hi
    simp at hi
    subst hi
    rw [List.take_append_of_le_length (Nat.le_refl _),List.take_length,← hr]
    exact ⟨h1,h2,h3,by omega⟩⟩
theorem stRootF_size (rs:List RowT):(stRootF rs).size=32:=rootF_size _
end
section
open Go.RowKit
theorem getR_cons (a:RowT) (rs:List RowT) (t k:Int):getR (a::rs) t k=if RowT.is t k a then some a else getR rs t k:=by
  unfold getR
  rw [List.find?_cons]
  cases RowT.is t k a <;> rfl
theorem putR_cons (a r:RowT) (rs:List RowT):putR (a::rs) r=if RowT.is r.t r.k a then r::rs else a::putR rs r:=by
  unfold putR
  rw [List.findIdx?_cons]
  cases RowT.is r.t r.k a with
  | true=>rfl
  | false=>
    cases hf:rs.findIdx? (RowT.is r.t r.k) with
    | none=>simp
    | some i=>simp
theorem delR_cons (a:RowT) (rs:List RowT) (t k:Int):delR (a::rs) t k=if RowT.is t k a then rs else a::delR rs t k:=by
  unfold delR
  rw [List.findIdx?_cons]
  cases RowT.is t k a with
  | true=>rfl
  | false=>
    cases hf:rs.findIdx? (RowT.is t k) with
    | none=>simp
    | some i=>simp
theorem getR_put (r:RowT) (t k:Int):∀ rs:List RowT,getR (putR rs r) t k=if t=r.t∧k=r.k then some r else getR rs t k
  | []=>by
    rw [show putR [] r=[r] from rfl,getR_cons]
    by_cases h:t=r.t∧k=r.k
    · rw [if_pos h,if_pos ((is_iff t k r).2 h)]
    · rw [if_neg h,if_neg (fun e=>h ((is_iff t k r).1 e))]
  | a :: rs => by
    rw [putR_cons,getR_cons a rs]
    by_cases ha:RowT.is r.t r.k a=true
    · rw [if_pos ha,getR_cons]
      have ha2:=(is_iff _ _ _).1 ha
      by_cases h:t=r.t∧k=r.k
      · rw [if_pos h,if_pos ((is_iff t k r).2 h)]
      · rw [if_neg h,if_neg (fun e=>h ((is_iff t k r).1 e)),if_neg (fun e=>h (by
          have e2:=(is_iff t k a).1 e
          exact ⟨e2.1.trans ha2.1.symm,e2.2.trans ha2.2.symm⟩))]
    · rw [if_neg ha,getR_cons,getR_put r t k rs]
      by_cases h:t=r.t∧k=r.k
      · rw [if_pos h,if_neg (fun e=>ha (by
          have e2:=(is_iff t k a).1 e
          exact (is_iff _ _ _).2 ⟨h.1.symm.trans e2.1,h.2.symm.trans e2.2⟩)),if_pos h]
      · rw [if_neg h,if_neg h]
theorem getR_none {rs:List RowT} {t k:Int} (h:∀ b ∈ rs,¬ (t=b.t∧k=b.k)):getR rs t k=none:=by
  unfold getR
  rw [List.find?_eq_none]
  exact fun b hb e=>h b hb ((is_iff t k b).1 e)
theorem getR_del (t' k' t k:Int):∀ rs:List RowT,Apart rs→getR (delR rs t' k') t k=if t=t'∧k=k' then none else getR rs t k
  | [],_=>by
    rw [show delR [] t' k'=[] from rfl]
    show none=_
    split <;> rfl
  | a :: rs, hap => by
    unfold Apart at hap
    rw [List.pairwise_cons] at hap
    rw [delR_cons,getR_cons a rs]
    by_cases ha:RowT.is t' k' a=true
    · rw [if_pos ha]
      have ha2:=(is_iff _ _ _).1 ha
      by_cases h:t=t'∧k=k'
      · rw [if_pos h]
        exact getR_none fun b hb e=>hap.1 b hb ⟨ha2.1.symm.trans (h.1.symm.trans e.1),ha2.2.symm.trans (h.2.symm.trans e.2)⟩
      · rw [if_neg h,if_neg (fun e=>h (by
          have e2:=(is_iff t k a).1 e
          exact ⟨e2.1.trans ha2.1.symm,e2.2.trans ha2.2.symm⟩))]
    · rw [if_neg ha,getR_cons,getR_del t' k' t k rs hap.2]
      by_cases h:t=t'∧k=k'
      · rw [if_pos h,if_neg (fun e=>ha (by
          have e2:=(is_iff t k a).1 e
          exact (is_iff _ _ _).2 ⟨h.1.symm.trans e2.1,h.2.symm.trans e2.2⟩)),if_pos h]
      · rw [if_neg h,if_neg h]
def aftC (c:ChgT):Option RowT:=if c.has then some ⟨c.t,c.k,c.n1,c.n2,c.n3⟩ else none
theorem getR_applyC {rs:List RowT} (hap:Apart rs) (c:ChgT) (t k:Int):getR (applyC rs c) t k=if t=c.t∧k=c.k then aftC c else getR rs t k:=by
  unfold applyC aftC
  cases c.has with
  | true=>
    simp only [if_true]
    rw [getR_put]
  | false=>
    simp only [Bool.false_eq_true,if_false]
    rw [getR_del c.t c.k t k rs hap]
theorem Apart.applyC {rs:List RowT} (h:Apart rs) (c:ChgT):Apart (applyC rs c):=h.apply [c]
def ltC (a b:ChgT):Prop:=a.t<b.t∨(a.t=b.t∧a.k<b.k)
theorem asc_pairwise:∀ (l:List ChgT),(∀ (j:Nat) (a b:ChgT),l[j]? = some a→l[j+1]? = some b→ltC a b)→l.Pairwise ltC
  | [],_=>List.Pairwise.nil
  | [a],_=>by simp
  | a :: b :: l, h => by
    have h1:=asc_pairwise (b::l) (fun j x y hx hy=>h (j+1) x y (by simpa using hx) (by simpa using hy))
    have h2:=h 0 a b (by simp) (by simp)
    rw [List.pairwise_cons]
    refine ⟨fun x hx=>?_,h1⟩
    rcases List.mem_cons.1 hx with rfl|hx
    · exact h2
    · rw [List.pairwise_cons] at h1
      have h3:=h1.1 x hx
      unfold ltC at *
      omega
theorem ChgsOK.pairwise {l:List ChgT} (h:ChgsOK l):l.Pairwise (fun a b=>¬ (a.t=b.t∧a.k=b.k)):=
  (asc_pairwise l h.asc).imp (fun {a b} h e=>by unfold ltC at h;omega)
end
section
open Go.RowKit Go.Shelf
attribute [local go_sem ↓] app_exec app_sem Go.wp_at_zero Go.wp_at_succ
def RowsO (W:World) (v:Value) (l:List RowT):Prop:=∃ A c,v=.slice A l.length c∧(0<l.length→∃ g off,A=some ⟨g,off,none⟩∧g<W.heap.size∧∀ (j:Nat) (r:RowT),l[j]? = some r→∀ i,i<5→W.cell? ⟨g,off+j*5+i,none⟩=(encR r)[i]?)
theorem RowsL.rowsO {W:World} {v:Value} {l:List RowT} (h:RowsL W v l):RowsO W v l:=by
  obtain ⟨A,c,rfl,h⟩:=h
  refine ⟨A,c,rfl,fun h0=>?_⟩
  obtain ⟨g,h1,h2,h3⟩:=h h0
  exact ⟨g,0,h1,h2,fun j r hj i hi=>by rw [Nat.zero_add];exact h3 j r hj i hi⟩
theorem RowsO.nil (W:World) (A:Option Addr) (c:Nat):RowsO W (.slice A 0 c) []:=⟨A,c,rfl,fun h=>absurd h (by simp)⟩
theorem RowsO.ext {w W:World} {v:Value} {l:List RowT} (h:RowsO w v l) (k:Below w.heap.size w W):RowsO W v l:=by
  obtain ⟨A,c,rfl,h⟩:=h
  refine ⟨A,c,rfl,fun h0=>?_⟩
  obtain ⟨g,off,h1,h2,h3⟩:=h h0
  refine ⟨g,off,h1,Nat.lt_of_lt_of_le h2 k.size,fun j r hj i hi=>?_⟩
  have h4:=h3 j r hj i hi
  rw [List.getElem?_eq_getElem (show i<(encR r).length from hi)] at h4 ⊢
  exact cell_ext h4 k
theorem RowsO.take {W:World} {A:Option Addr} {c:Nat} {l:List RowT} (h:RowsO W (.slice A l.length c) l) (k:Nat) (hk:k≤l.length):RowsO W (.slice A k c) (l.take k):=by
  obtain ⟨A',c',hA,h⟩:=h
  injection hA with hA _ hc
  subst hA hc
  have hl:(l.take k).length=k:=by rw [List.length_take];omega
  refine ⟨A,c,by rw [hl],fun h0=>?_⟩
  obtain ⟨g,off,h1,h2,h3⟩:=h (by omega)
  refine ⟨g,off,h1,h2,fun j r hj=>h3 j r ?_⟩
  rw [List.getElem?_take] at hj
  split at hj
  · exact hj
  · cases hj
theorem RowsO.drop {W:World} {A A':Option Addr} {c m c' k:Nat} {l:List RowT} (h:RowsO W (.slice A l.length c) l) (hl:l.length=k+m) (hA:0<m→A'=A.map (·.add (k*5))):RowsO W (.slice A' m c') (l.drop k):=by
  obtain ⟨A2,c2,hA2,h⟩:=h
  injection hA2 with hA2 _ hc
  subst hA2 hc
  have hl2:(l.drop k).length=m:=by rw [List.length_drop];omega
  refine ⟨A',c',by rw [hl2],fun h0=>?_⟩
  obtain ⟨g,off,h1,h2,h3⟩:=h (by omega)
  refine ⟨g,off+k*5,by rw [hA (by omega),h1];simp [Addr.add],h2,fun j r hj i hi=>?_⟩
  rw [List.getElem?_drop] at hj
  have h4:=h3 _ r hj i hi
  rw [show off+k*5+j*5+i=off+(k+j)*5+i by omega]
  exact h4
theorem app_own_at9 {P:Program} {w:World} (base:Nat) (t ty e:TypeId) (i:TypeInfo) (z:Value) (size bytes:Nat) (ht:P.underlying t=some (.slice e)) (hi:P.info? e=some i) (hz:i.zero=some z)
    (hsize:i.size=size) (hby:i.bytes=bytes) (hzs:z.cells.size=size) (hsz:0<size) (v:Value) (n:Nat) (xs:List Value) (hown:w.ownsRow base e size v n xs)
    (a:Addr) (m c:Nat) (news:List Value) (hl:news.length=m*size) (hnews:∀ j u,news[j]? = some u→w.cell? (a.add j)=some u) (h1:∀ u ∈ news,u.oneCell'=true)
    (h63:n+m≤maxLen) (hbytes:(n+m)*bytes≤140737488355328) (hbase:base≤w.heap.size) :
    AppOK P w t ty v (.slice (some a) m c)∧∃ W',appW P w t ty v (.slice (some a) m c)=W'∧∃ v',appV P w t ty v (.slice (some a) m c)=v'∧W'.ownsRow base e size v' (n+m) (xs++news)∧w.grownBy W' v.ownBlock∧(v'.ownBlock=v.ownBlock∨v'.ownBlock=some w.heap.size):=by
  obtain ⟨v',w',hr,h2,h3,_,h5⟩:=Go.run_append_own_at (P:=P) w base t ty e i z size bytes ht hi hz hsize hby hzs hsz v n xs hown a m c news hl hnews h1 h63 hbytes hbase
  refine ⟨⟨v',w',hr⟩,w',?_,v',?_,h2,h3,h5⟩
  · unfold appW;rw [hr]
  · unfold appV;rw [hr]
theorem rc_append2 (l m:List RowT):rc (l++m)=rc l++rc m:=by simp [rc]
theorem appRowsO (W:World) (B:Nat) (hB:B≤W.heap.size) (v:Value) (xs:List RowT) (hown:W.ownsRow B 67 5 v xs.length (rc xs)) (u:Value) (l:List RowT) (hu:RowsO W u l) (hbig:xs.length+l.length≤1000000) :
    AppOK Tryz.prog W 34 34 v u∧∃ W',appW Tryz.prog W 34 34 v u=W'∧∃ v',appV Tryz.prog W 34 34 v u=v'∧W'.ownsRow B 67 5 v' (xs++l).length (rc (xs++l))∧W.grownBy W' v.ownBlock:=by
  obtain ⟨ii,hii,hz0,hz1,hz2⟩:=info_parts rowz_info
  by_cases h0:l=[]
  · subst h0
    obtain ⟨A,c,rfl,-⟩:=hu
    obtain ⟨A2,c2,hv,hc⟩:∃ A c,v=.slice A xs.length c∧xs.length≤c:=by
      rcases hown.2 with ⟨rfl,h⟩|⟨g,cap,cur,rfl,_,_,hle,_⟩
      · exact ⟨none,0,by rw [h],by omega⟩
      · exact ⟨_,_,rfl,hle⟩
    have hr:(Builtin.append_ #[34,34] 34 #[v,.slice A 0 c]).run Tryz.prog W=.ok v W:=by
      rw [hv]
      cases A with
      | none=>exact run_append_nothing W 34 34 34 67 ii Tryz.underlying34 hii A2 xs.length c2 hc (.slice none 0 c) ⟨.inl ⟨_,Tryz.underlying34⟩,fun _=>rfl,rfl,rfl,by simp,by simp⟩
      | some a=>exact run_append_nothing W 34 34 34 67 ii Tryz.underlying34 hii A2 xs.length c2 hc (.slice (some a) 0 c) (Src.ofSlice W Tryz.underlying34 a 0 c [] (by simp) (by simp) (by simp))
    refine ⟨⟨_,_,hr⟩,W,by unfold appW;simp only [List.length_nil];rw [hr],v,by unfold appV;simp only [List.length_nil];rw [hr],by rw [List.append_nil];exact hown,grown_refl W _⟩
  · have hl:0<l.length:=List.length_pos_iff.2 h0
    obtain ⟨A,c,rfl,h⟩:=hu
    obtain ⟨g,off,rfl,hg,hc⟩:=h hl
    have hone:∀ u ∈ rc l,u.oneCell'=true:=by
      intro u hu
      unfold rc at hu
      obtain ⟨r,_,hr⟩:=List.mem_flatMap.1 hu
      exact encR_one r u hr
    obtain ⟨h1,W',h2,v',h3,h4,h5,_⟩:=app_own_at9 (P:=Tryz.prog) (w:=W) B 34 34 67 ii (.agg #[.int .i64 0,.int .i64 0,.int .i64 0,.int .i64 0,.int .i64 0]) 5 40 Tryz.underlying34 hii hz0 hz1 hz2 rfl (by decide) v xs.length (rc xs) hown ⟨g,off,none⟩ l.length c (rc l) (rc_length l) (fun j u hu=>by
      have hjl:=(List.getElem?_eq_some_iff.1 hu).1
      rw [rc_length] at hjl
      obtain ⟨r,hr⟩:∃ r,l[j / 5]? = some r:=⟨_,List.getElem?_eq_getElem (by omega)⟩
      have h6:=hc (j / 5) r hr (j % 5) (Nat.mod_lt _ (by omega))
      have h7:=rc_at l (j / 5) r hr (j % 5) (Nat.mod_lt _ (by omega))
      rw [show j / 5*5+j % 5=j by omega] at h7
      rw [← hu,h7,← h6,Addr.add_lit,show off+j / 5*5+j % 5=off+j by omega]) hone (by unfold maxLen;omega) (by omega) hB
    exact ⟨h1,W',h2,v',h3,by rw [rc_append2,List.length_append];exact h4,h5⟩
def insC (rows:List RowT) (c:ChgT):List RowT:=
  rows.take (placeF rows c.t c.k)++(if c.has then [⟨c.t,c.k,c.n1,c.n2,c.n3⟩] else [])++(rows.drop (placeF rows c.t c.k)).drop (if c.had then 1 else 0)
end
section
open Go.RowKit Go.Shelf
theorem bef_take {rows:List RowT} {t k:Int} {r:RowT} (h:r ∈ rows.take (placeF rows t k)):befK t k r=true:=by
  obtain ⟨i,hi,hr⟩:=List.getElem_of_mem h
  rw [List.length_take] at hi
  rw [List.getElem_take] at hr
  have h1:=List.not_of_lt_findIdx (p:=fun r => !befK t k r) (xs:=rows) (i:=i) (show i<placeF rows t k by omega)
  rw [hr] at h1
  simpa using h1
theorem at_place {rows:List RowT} {t k:Int} {r:RowT} (h:rows[placeF rows t k]? = some r):befK t k r=false:=by
  obtain ⟨hi,hr⟩:=List.getElem?_eq_some_iff.1 h
  have h1:(fun r => !befK t k r) rows[placeF rows t k]=true:=List.findIdx_getElem (p:=fun r => !befK t k r) (xs:=rows) (w:=hi)
  rw [hr] at h1
  simpa using h1
def HadOK (rows:List RowT) (c:ChgT):Prop:=c.had=(getR rows c.t c.k).isSome
def insRest (rows:List RowT) (c:ChgT):List RowT:=(rows.drop (placeF rows c.t c.k)).drop (if c.had then 1 else 0)
theorem aft_rest {rows:List RowT} (hs:SortK rows) {c:ChgT} (hc:HadOK rows c) {r:RowT} (h:r ∈ insRest rows c):c.t<r.t∨(c.t=r.t∧c.k<r.k):=by
  unfold insRest at h
  unfold HadOK at hc
  obtain ⟨i,hi,hr⟩:=List.getElem_of_mem h
  rw [List.length_drop,List.length_drop] at hi
  rw [List.getElem_drop,List.getElem_drop] at hr
  rcases get_place hs c.t c.k with ⟨r0,h0,h1,h2,hg⟩|⟨hg,hno⟩
  · rw [hg] at hc
    simp only [Option.isSome_some] at hc
    simp only [hc,if_true] at hi hr
    have h3:=hs.lt h0 (j:=placeF rows c.t c.k+1+i) (b:=r) (by
      rw [List.getElem?_eq_getElem (by omega)]
      congr 1
      rw [← hr]
      congr 1
      omega) (by omega)
    omega
  · rw [hg] at hc
    simp only [Option.isSome_none] at hc
    simp only [hc,Bool.false_eq_true,if_false] at hi hr
    obtain ⟨r1,hr1⟩:∃ r1,rows[placeF rows c.t c.k]? = some r1:=⟨_,List.getElem?_eq_getElem (by omega)⟩
    have h4:=at_place hr1
    have h5:=hno r1 hr1
    have h6:c.t<r1.t∨(c.t=r1.t∧c.k<r1.k):=by
      rcases Int.lt_trichotomy r1.t c.t with h|h|h
      · rw [befK_iff.2 (.inl h)] at h4;cases h4
      · rcases Int.lt_trichotomy r1.k c.k with h7|h7|h7
        · rw [befK_iff.2 (.inr ⟨h,h7⟩)] at h4;cases h4
        · exact absurd ⟨h,h7⟩ h5
        · exact .inr ⟨h.symm,h7⟩
      · exact .inl h
    have hri:rows[placeF rows c.t c.k+i]? = some r:=by
      rw [List.getElem?_eq_getElem (by omega)]
      congr 1
      simpa only [Nat.zero_add] using hr
    rcases Nat.eq_zero_or_pos i with h|h
    · subst h
      rw [Nat.add_zero,hr1] at hri
      have:=Option.some.inj hri
      subst this
      exact h6
    · have h7:=hs.lt hr1 hri (by omega)
      omega
def insMid (c:ChgT):List RowT:=if c.has then [⟨c.t,c.k,c.n1,c.n2,c.n3⟩] else []
theorem insC_eq (rows:List RowT) (c:ChgT):insC rows c=rows.take (placeF rows c.t c.k)++insMid c++insRest rows c:=rfl
theorem insMid_key {c:ChgT} {r:RowT} (h:r ∈ insMid c):r.t=c.t∧r.k=c.k:=by
  unfold insMid at h
  split at h
  · rw [List.mem_singleton] at h
    subst h
    exact ⟨rfl,rfl⟩
  · cases h
theorem rest_sub (rows:List RowT) (c:ChgT):(insRest rows c).Sublist rows:=(List.drop_sublist _ _).trans (List.drop_sublist _ _)
theorem SortK.ins {rows:List RowT} (hs:SortK rows) {c:ChgT} (hc:HadOK rows c):SortK (insC rows c):=by
  rw [insC_eq]
  unfold SortK
  rw [List.pairwise_append,List.pairwise_append]
  refine ⟨⟨List.Pairwise.sublist (List.take_sublist _ _) hs,?_,fun a ha b hb=>?_⟩,List.Pairwise.sublist (rest_sub rows c) hs,fun a ha b hb=>?_⟩
  · unfold insMid
    split <;> simp
  · have h1:=befK_iff.1 (bef_take ha)
    have h2:=insMid_key hb
    omega
  · have h3:=aft_rest hs hc hb
    rcases List.mem_append.1 ha with ha|ha
    · have h1:=befK_iff.1 (bef_take ha)
      omega
    · have h2:=insMid_key ha
      omega
theorem getR_app (a b:List RowT) (t k:Int):getR (a++b) t k=(getR a t k).or (getR b t k):=List.find?_append
theorem getR_ins {rows:List RowT} (hs:SortK rows) {c:ChgT} (hc:HadOK rows c) (t k:Int):getR (insC rows c) t k=if t=c.t∧k=c.k then aftC c else getR rows t k:=by
  rw [insC_eq,getR_app,getR_app]
  by_cases h:t=c.t∧k=c.k
  · rw [if_pos h]
    obtain ⟨rfl,rfl⟩:=h
    rw [getR_none (rs:=rows.take _) (fun b hb e=>by have:=befK_iff.1 (bef_take hb);omega),getR_none (rs:=insRest rows c) (fun b hb e=>by have:=aft_rest hs hc hb;omega)]
    unfold insMid aftC
    cases c.has with
    | true=>
      simp only [if_true]
      rw [getR_cons,if_pos ((is_iff c.t c.k ⟨c.t,c.k,c.n1,c.n2,c.n3⟩).2 ⟨rfl,rfl⟩)]
      rfl
    | false=>rfl
  · rw [if_neg h,getR_none (rs:=insMid c) (fun b hb e=>h (by have:=insMid_key hb;omega))]
    have hd:getR (insRest rows c) t k=getR (rows.drop (placeF rows c.t c.k)) t k:=by
      unfold insRest
      unfold HadOK at hc
      rcases get_place hs c.t c.k with ⟨r0,h0,h1,h2,hg⟩|⟨hg,hno⟩
      · rw [hg] at hc
        simp only [Option.isSome_some] at hc
        simp only [hc,if_true]
        obtain ⟨hi,hr⟩:=List.getElem?_eq_some_iff.1 h0
        rw [List.drop_drop,List.drop_eq_getElem_cons hi,getR_cons,if_neg]
        intro e
        have e2:=(is_iff _ _ _).1 e
        rw [hr] at e2
        exact h ⟨e2.1.trans h1,e2.2.trans h2⟩
      · rw [hg] at hc
        simp only [Option.isSome_none] at hc
        simp only [hc,Bool.false_eq_true,if_false,List.drop_zero]
    rw [hd]
    conv=>rhs;rw [← List.take_append_drop (placeF rows c.t c.k) rows,getR_app]
    cases getR (rows.take (placeF rows c.t c.k)) t k <;> rfl
theorem ins_len (rows:List RowT) (c:ChgT):(insC rows c).length≤rows.length+1:=by
  rw [insC_eq,List.length_append,List.length_append]
  have h2:(insMid c).length≤1:=by unfold insMid;split <;> simp
  have h3:(rows.take (placeF rows c.t c.k)).length+(insRest rows c).length≤rows.length:=by
    unfold insRest
    rw [List.length_take,List.length_drop,List.length_drop]
    omega
  omega
def insF (rows:List RowT) (l:List ChgT):List RowT:=l.foldl insC rows
theorem insF_take (rows:List RowT) (l:List ChgT) (k:Nat) (c:ChgT) (h:l[k]? = some c):insF rows (l.take (k+1))=insC (insF rows (l.take k)) c:=by
  unfold insF
  rw [List.take_add_one,h]
  simp
theorem insF_len (rows:List RowT):∀ l:List ChgT,(insF rows l).length≤rows.length+l.length:=by
  intro l
  induction l generalizing rows with
  | nil=>simp [insF]
  | cons c l ih=>
    have h1:=ih (insC rows c)
    have h2:=ins_len rows c
    show (insF (insC rows c) l).length≤_
    simp only [List.length_cons]
    omega
structure Mid (rows:List RowT) (l:List ChgT) (k:Nat) (rk:List RowT):Prop where
  eq:rk=insF rows (l.take k)
  sort:SortK rk
  had:∀ j c,k≤j→l[j]? = some c→HadOK rk c
theorem Mid.start {rows:List RowT} {l:List ChgT} (hs:SortK rows) (hh:∀ c ∈ l,HadOK rows c):Mid rows l 0 rows:=⟨by simp [insF],hs,fun j c _ h=>hh c (List.mem_of_getElem? h)⟩
theorem Mid.next {rows:List RowT} {l:List ChgT} {k:Nat} {rk:List RowT} (h:Mid rows l k rk) (hp:l.Pairwise (fun a b=>¬ (a.t=b.t∧a.k=b.k))) {c:ChgT} (hc:l[k]? = some c):Mid rows l (k+1) (insC rk c):=by
  refine ⟨by rw [insF_take rows l k c hc,← h.eq],h.sort.ins (h.had k c (Nat.le_refl _) hc),fun j d hj hd=>?_⟩
  obtain ⟨h1,rfl⟩:=List.getElem?_eq_some_iff.1 hc
  obtain ⟨h2,rfl⟩:=List.getElem?_eq_some_iff.1 hd
  have h3:=List.pairwise_iff_getElem.1 hp k j h1 h2 (by omega)
  unfold HadOK
  rw [getR_ins h.sort (h.had k _ (Nat.le_refl _) hc),if_neg (fun e=>h3 ⟨e.1.symm,e.2.symm⟩)]
  exact h.had j _ (by omega) hd
section
variable {W:World} {g:Nat} {rows:List RowT} {pos:Int}
theorem RowsL.ne {v a b:Value} {t:TypeId} (h:RowsL W v rows) (hb:Blk W g t #[a,b]):∀ g' n c,v=.slice (some ⟨g',0,none⟩) n c→0<rows.length→g'≠g:=by
  intro g' n c hv h0 e
  obtain ⟨A,c2,hv2,h⟩:=h
  obtain ⟨g2,hA,_,hr⟩:=h h0
  rw [hv2] at hv
  injection hv with hv
  rw [hA] at hv
  injection hv with hv
  injection hv with hv
  subst hv e
  obtain ⟨r,hr0⟩:∃ r,rows[0]? = some r:=⟨_,List.getElem?_eq_getElem h0⟩
  have h4:=hr 0 r hr0 4 (by omega)
  have h5:=hb.cell 4
  rw [h5] at h4
  simp [encR] at h4
theorem RowsL.ext2 {v:Value} {W':World} (h:RowsL W v rows) (k:Ext2 g g W W') (hne:∀ g' n c,v=.slice (some ⟨g',0,none⟩) n c→0<rows.length→g'≠g):RowsL W' v rows:=by
  obtain ⟨A,c,rfl,h⟩:=h
  refine ⟨A,c,rfl,fun h0=>?_⟩
  obtain ⟨g2,rfl,hg,hr⟩:=h h0
  have h1:=hne g2 _ _ rfl h0
  exact ⟨g2,rfl,Nat.lt_of_lt_of_le hg k.size,fun i r hi j hj=>(World.cell?_of_block (k.block g2 hg h1 h1)).trans (hr i r hi j hj)⟩
theorem RefS.setP (h:RefS W g rows pos) (p:Int):RefS (W.setCell ⟨g,1,none⟩ (.int .i64 p)) g rows p:=by
  obtain ⟨v,h1,h2,h3⟩:=h
  exact ⟨v,h1.set_ 1 (.int .i64 p),h2.ext2 ((Ext2.refl g g W).setA 1 (.int .i64 p)) (h2.ne h1),h3⟩
theorem Blk.setL {v0 v':Value} {rows':List RowT} (h1:Blk W g 120 #[v0,.int .i64 pos]) (h2:RowsL W v' rows') (h3:CapV v'):RefS (W.setCell ⟨g,0,none⟩ v') g rows' pos:=
  ⟨v',h1.set_ 0 v',h2.ext2 ((Ext2.refl g g W).setA 0 v') (h2.ne h1),h3⟩
end
end
section
open Go.RowKit Go.Shelf
attribute [local go_sem ↓] app_exec app_sem Go.wp_at_zero Go.wp_at_succ
theorem sliceTo (A:Option Addr) (n c k:Nat) (hk:k≤n) (hn:n≤c) (w:World):(Instr.slice 34 (.slice A n c) none (some (.int .i64 (k:Int))) none).run Tryz.prog w=.ok (.slice A k c) w:=by
  have hel:Tryz.prog.elem 34=67:=by kernel_rfl
  have h:=Go.run_slice_h (P:=Tryz.prog) (w:=w) 34 A n c (by rw [hel];exact Tryz.underlying34) .i64 (k:Int) (by omega) (by omega)
  rw [h,hel]
  obtain ⟨ii,hii,_,hz1,_⟩:=info_parts rowz_info
  cases A with
  | none=>simp [sizeOf,typeInfo,hii,hz1,Result.andThen,sliced]
  | some a=>
    have ha:a.add 0=a:=by obtain ⟨b,o,m⟩:=a;cases m <;> rfl
    simp [sizeOf,typeInfo,hii,hz1,Result.andThen,sliced,ha]
theorem ownAtR {W:World} {base e sz n g cap:Nat} {xs:List Value} (h:W.ownsRow base e sz (.slice (some ⟨g,0,none⟩) n cap) n xs) (j:Nat) (u:Value) (hj:xs[j]? = some u):W.cell? ⟨g,j,none⟩=some u:=by
  have h1:=h.cells (g:=g) rfl j u hj
  rwa [Addr.add_mid,Nat.zero_add] at h1
structure SlOK (n c k:Nat):Prop where
  le:k≤n
  cap:n≤c
def slA (A:Option Addr) (c k:Nat):Option Addr:=if c=k then A else A.map (·.add (k*5))
def slN (n k:Nat):Nat:=n-k
theorem slR {A:Option Addr} {n c k:Nat} {w:World} (h:SlOK n c k):(Instr.slice 34 (.slice A n c) (some (.int .i64 (k:Int))) none none).run Tryz.prog w=.ok (.slice (slA A c k) (slN n k) (slN c k)) w:=by
  have hel:Tryz.prog.elem 34=67:=by kernel_rfl
  obtain ⟨h1,h2⟩:=h
  have h:=Go.run_slice_l (P:=Tryz.prog) (w:=w) 34 A n c (by rw [hel];exact Tryz.underlying34) .i64 (k:Int) (by omega) (by omega)
  rw [h,hel]
  obtain ⟨ii,hii,_,hz1,_⟩:=info_parts rowz_info
  simp [sizeOf,typeInfo,hii,hz1,Result.andThen,sliced,slA,slN]
theorem slR1 {A:Option Addr} {n c:Nat} {w:World} (h:SlOK n c 1):(Instr.slice 34 (.slice A n c) (some (.int .i64 1)) none none).run Tryz.prog w=.ok (.slice (slA A c 1) (slN n 1) (slN c 1)) w:=slR (k:=1) h
theorem slT {A:Option Addr} {n c k:Nat} {w:World} (h:SlOK n c k):(Instr.slice 34 (.slice A n c) none (some (.int .i64 (k:Int))) none).run Tryz.prog w=.ok (.slice A k c) w:=sliceTo A n c k h.le h.cap w
theorem slA_of {A:Option Addr} {n c k:Nat} (h:SlOK n c k) (hm:0<slN n k):slA A c k=A.map (·.add (k*5)):=by
  obtain ⟨h1,h2⟩:=h
  unfold slN at hm
  unfold slA
  rw [if_neg (by omega)]
theorem own_rowsL {W:World} {B:Nat} {v:Value} {l:List RowT} (h:W.ownsRow B 67 5 v l.length (rc l)):RowsL W v l∧CapV v:=by
  rcases h.2 with ⟨rfl,h0⟩|⟨g,cap,cur,rfl,_,hg,hle,_⟩
  · exact ⟨⟨none,0,by rw [h0],fun h=>by omega⟩,fun A n c e=>by injection e with _ h2 h3;omega⟩
  · refine ⟨⟨_,cap,rfl,fun h0=>⟨g,rfl,?_,fun j r hj i hi=>?_⟩⟩,fun A n c e=>by injection e with _ h2 h3;omega⟩
    · have h1:0<(rc l).length:=by rw [rc_length];omega
      exact lt_of_cell (ownAtR h 0 _ (List.getElem?_eq_getElem h1))
    · have h1:=rc_at l j r hj i hi
      have h2:i<(encR r).length:=by simp [encR];omega
      rw [List.getElem?_eq_getElem h2] at h1 ⊢
      exact ownAtR h _ _ h1
def befC (c:ChgT):Option RowT:=if c.had then some ⟨c.t,c.k,c.o1,c.o2,c.o3⟩ else none
def BefOK (rows:List RowT) (c:ChgT):Prop:=getR rows c.t c.k=befC c
theorem BefOK.had {rows:List RowT} {c:ChgT} (h:BefOK rows c):HadOK rows c:=by
  unfold BefOK at h
  unfold HadOK
  rw [h]
  unfold befC
  cases c.had <;> rfl
theorem ChgsAt.ext2g {g:Nat} {W W':World} {v:Value} {l:List ChgT} (h:ChgsAt W v l) (k:Ext2 g g W W') (hne:∀ b off c,v=.slice (some ⟨b,off,none⟩) l.length c→b≠g):ChgsAt W' v l:=by
  obtain ⟨A,c,rfl,hc,h⟩:=h
  refine ⟨A,c,rfl,hc,fun h0=>?_⟩
  obtain ⟨b,off,rfl,h2⟩:=h h0
  have h1:=hne b off c rfl
  refine ⟨b,off,rfl,fun j x hj i hi=>?_⟩
  have h3:=h2 j x hj i hi
  have h4:i<x.arr.size:=hi
  rw [Array.getElem?_eq_getElem h4] at h3 ⊢
  exact cell_ext2 h3 k h1 h1
theorem drop_place (rows:List RowT) (c:ChgT) (h:HadOK rows c) (hs:SortK rows) (hh:c.had=true):placeF rows c.t c.k<rows.length:=by
  rcases get_place hs c.t c.k with ⟨r0,h0,_⟩|⟨hg,_⟩
  · exact (List.getElem?_eq_some_iff.1 h0).1
  · unfold HadOK at h
    rw [hg,hh] at h
    cases h
theorem belowG {X Y:World} {e sz n:Nat} {v:Value} {xs:List Value} (h:X.grownBy Y v.ownBlock) (ho:X.ownsRow X.heap.size e sz v n xs):Below X.heap.size X Y:=
  ⟨h.os,by rw [h.tape],h.output,h.size,fun k hk=>h.block k hk (fun e=>by
    rcases ho.2 with ⟨rfl,_⟩|⟨g,cap,cur,rfl,hg,_⟩
    · cases e
    · have e2:some k=some g:=e
      injection e2 with e2
      omega)⟩
theorem belowG2 {X Y Z:World} {e sz n:Nat} {v:Value} {xs:List Value} (h0:Below X.heap.size X Y) (h:Y.grownBy Z v.ownBlock) (ho:Y.ownsRow X.heap.size e sz v n xs):Below X.heap.size X Z:=
  ⟨h.os.trans h0.os,by rw [h.tape];exact h0.tape,h.output.trans h0.output,Nat.le_trans h0.size h.size,fun k hk=>(h.block k (Nat.lt_of_lt_of_le hk h0.size) (fun e=>by
    rcases ho.2 with ⟨rfl,_⟩|⟨g,cap,cur,rfl,hg,_⟩
    · cases e
    · have e2:some k=some g:=e
      injection e2 with e2
      omega)).trans (h0.block k hk)⟩
theorem rows1 (W:World) (r:RowT) {q:Nat} (hq:q=W.heap.size):RowsO (W.alloc (.cells #[.int .i64 r.t,.int .i64 r.k,.int .i64 r.a,.int .i64 r.b,.int .i64 r.c] 67)) (.slice (some ⟨q,0,none⟩) 1 1) [r]:=by
  subst hq
  refine ⟨_,1,rfl,fun _=>⟨W.heap.size,0,rfl,by simp,fun j x hj i hi=>?_⟩⟩
  obtain ⟨rfl,rfl⟩:j=0∧r=x:=by
    cases j with
    | zero=>exact ⟨rfl,by simpa using hj⟩
    | succ j=>simp at hj
  have h1:=(Blk.new W 67 #[.int .i64 r.t,.int .i64 r.k,.int .i64 r.a,.int .i64 r.b,.int .i64 r.c]).cell i
  rw [show 0+0*5+i=i by omega,h1]
  simp [encR]
theorem appR3 (X:World) (a b d L:List RowT) (hL:L=a++b++d) (va vb vd:Value) (ha:RowsO X va a) (hb:RowsO X vb b) (hd:RowsO X vd d) (hbig:a.length+b.length+d.length≤1000000) :
    AppOK Tryz.prog X 34 34 (.slice none 0 0) va∧∃ X1 v1,appW Tryz.prog X 34 34 (.slice none 0 0) va=X1∧appV Tryz.prog X 34 34 (.slice none 0 0) va=v1 ∧
    AppOK Tryz.prog X1 34 34 v1 vb∧∃ X2 v2,appW Tryz.prog X1 34 34 v1 vb=X2∧appV Tryz.prog X1 34 34 v1 vb=v2 ∧
    AppOK Tryz.prog X2 34 34 v2 vd∧∃ X3 v3,appW Tryz.prog X2 34 34 v2 vd=X3∧appV Tryz.prog X2 34 34 v2 vd=v3 ∧
    Below X.heap.size X X3∧RowsL X3 v3 L∧CapV v3∧∃ A3 c3,v3=.slice A3 L.length c3:=by
  obtain ⟨h1,X1,hX1,v1,hv1,ho1,hg1⟩:=appRowsO X X.heap.size (Nat.le_refl _) (.slice none 0 0) [] (World.ownsRow_nil _ _ _ _) va a ha (by simp;omega)
  have hB1:Below X.heap.size X X1:=belowG hg1 (World.ownsRow_nil X X.heap.size 67 5)
  obtain ⟨h2,X2,hX2,v2,hv2,ho2,hg2⟩:=appRowsO X1 X.heap.size hB1.size v1 ([]++a) ho1 vb b (hb.ext hB1) (by simp;omega)
  have hB2:Below X.heap.size X X2:=belowG2 hB1 hg2 ho1
  obtain ⟨h3,X3,hX3,v3,hv3,ho3,hg3⟩:=appRowsO X2 X.heap.size hB2.size v2 ([]++a++b) ho2 vd d (hd.ext hB2) (by simp;omega)
  have hB3:Below X.heap.size X X3:=belowG2 hB2 hg3 ho2
  obtain ⟨h4,h5⟩:=own_rowsL ho3
  rw [List.nil_append,← hL] at h4
  exact ⟨h1,X1,v1,hX1,hv1,h2,X2,v2,hX2,hv2,h3,X3,v3,hX3,hv3,hB3,h4,h5,by obtain ⟨A3,c3,h6,_⟩:=h4;exact ⟨A3,c3,h6⟩⟩
end
section
open Go.RowKit Go.Shelf
def leavesH:Nat→List (ByteArray × ByteArray)→List ByteArray
  | _,[]=>[]
  | i,h::r=>headEnc i h.1 h.2::leavesH (i+1) r
theorem leavesH_length:∀ (H:List (ByteArray × ByteArray)) (i:Nat),(leavesH i H).length=H.length
  | [],_=>rfl
  | h::r,i=>by simp only [leavesH,List.length_cons,leavesH_length r (i+1)]
theorem leavesH_at:∀ (H:List (ByteArray × ByteArray)) (i j:Nat) (x:ByteArray × ByteArray),H[j]? = some x→(leavesH i H)[j]? = some (headEnc (i+j) x.1 x.2)
  | [],i,j,x,h=>by simp at h
  | y::H,i,0,x,h=>by simp at h;subst h;simp [leavesH]
  | y::H,i,j+1,x,h=>by
    have h1:=leavesH_at H (i+1) j x (by simpa using h)
    rw [show i+1+j=i+(j+1) by omega] at h1
    simpa [leavesH] using h1
theorem leavesH_sizes:∀ (H:List (ByteArray × ByteArray)) (i:Nat),(∀ h ∈ H,h.1.size=32∧h.2.size=32)→∀ x ∈ leavesH i H,x.size≤100000
  | [],_,_,x,hx=>by simp [leavesH] at hx
  | h :: r, i, hs, x, hx => by
    simp only [leavesH,List.mem_cons] at hx
    rcases hx with rfl|hx
    · have h1:=hs h (List.mem_cons_self ..)
      rw [headEnc_size i h.1 h.2 h1.1 h1.2]
      omega
    · exact leavesH_sizes r (i+1) (fun y hy=>hs y (List.mem_cons_of_mem _ hy)) x hx
def encH (H:List (ByteArray × ByteArray)) (k:Nat):ByteArray:=(leavesH 0 H).getD k ⟨#[]⟩
theorem encH_eq {H:List (ByteArray × ByteArray)} {k:Nat} {x:ByteArray × ByteArray} (h:H[k]? = some x):encH H k=headEnc k x.1 x.2:=by
  have h1:=leavesH_at H 0 k x h
  rw [Nat.zero_add] at h1
  unfold encH
  rw [List.getD_eq_getElem?_getD,h1]
  rfl
def AllH (B Bs gl:Nat) (rv hv:Value) (R:List (List ChgT × Nat × Nat)) (H:List (ByteArray × ByteArray)) (W:World):Prop:=
  W.cell? ⟨Bs,0,none⟩=some (.pointer (some ⟨gl,0,none⟩))∧LogG B W gl rv hv R H
section
attribute [local go_sem] Oper.semAt_some
theorem allH_in (n:Nat) (hn:1≤n) (l B Bs gl:Nat) (rv hv:Value) (R:List (List ChgT × Nat × Nat)) (H:List (ByteArray × ByteArray)) (hH:H.length≤60) (J:Nat→World→Prop)
    (hC:∀ k W,J k W→AllH B Bs gl rv hv R H W) (hA:∀ k A B,J k A→Below A.heap.size A B→J k B)
    (hY:∀ k xs W1,k<H.length→J k W1→xs=#[.string (encH H k)]→YieldAt Fence.wide (n-1) Tryz.prog l xs W1 fun e W'=>e=.returned (.bool true)∧J (k+1) W')
    (W:World) (h0:J 0 W) :
    CallsIn Fence.wide n Tryz.prog 130 #[.func (.yield l) #[] #[],.pointer (some ⟨Bs,0,none⟩)] W (AllPost H.length J):=by
  have HC:=Lib.hid hC
  have HA:=Lib.hid hA
  have HY:=Lib.hid hY
  have H0:=Lib.hid h0
  obtain ⟨b0,hL0⟩:=hC 0 W h0
  have b1:=hL0.log.cell 1
  obtain ⟨gh,ch,curh,hhv,-,hbh⟩:=own_blk hL0.heads (by have:=hL0.len;omega)
  obtain ⟨N,hN⟩:∃ N,N=H.length:=⟨_,rfl⟩
  have HN:=Lib.hid hN
  rw [← hN] at HY hH hhv ⊢
  subst hhv
  clear hC hA hY h0 hL0 hbh hN
  refine callsIn_of_wp Tryz.func130 rfl trivial ?_ rfl
  simp only [Tryz.ntmps130,List.size_toArray,List.length_cons,List.length_nil,Nat.reduceAdd,Nat.reduceSub,Array.replicate_succ,Array.replicate_zero,List.push_toArray,List.append_toArray,List.nil_append,List.cons_append]
  gi_wp2
  gi_loopw [4,5,6,12] (fun _ _ _ i wr=>∃ k:Nat,k≤N∧i=.int .i64 (k:Int)∧J k wr) (fun _ _ _ i _=>N-(intOf i).toNat)
  case atStart=>exact ⟨0,Nat.zero_le _,rfl,H0.out⟩
  case round=>
    obtain ⟨k,hk,rfl,hJ⟩:=hrel
    have HJ:=Lib.hid hJ
    obtain ⟨-,hL⟩:=HC.out _ _ hJ
    clear hJ H0 b0 b1
    have e2:IntKind.i64.wrap ((k:Int)+1)=(k:Int)+1:=IntWalk.i64_in _ (by omega)
    by_cases hlt:k<N
    · obtain ⟨x,hx⟩:∃ x,H[k]? = some x:=⟨_,List.getElem?_eq_getElem (by rw [← HN.out];exact hlt)⟩
      obtain ⟨q0,q1,q2⟩:=hcF_at H 0 k x hx
      rw [Nat.zero_add] at q0
      have hkc:∀ i u,(hcF 0 H)[i]? = some u→wr.cell? ⟨gh,i,none⟩=some u:=fun i u hu=>by
        have h1:=hL.heads.cells (g:=gh) rfl i u hu
        rw [add_lit0] at h1
        exact h1
      have c0:=hkc _ _ q0
      have c1:=hkc _ _ q1
      have c2:=hkc _ _ q2
      have hsz:=hL.sizes x (List.mem_of_getElem? hx)
      have HE:=Lib.hid (fun W:World=>logEncode k x.1 x.2 (by omega) hsz.1 hsz.2 W)
      rw [← encH_eq hx] at HE
      obtain ⟨xc,xs⟩:=x
      dsimp only at c1 c2 HE
      have p0:(0:Int)≤(k:Int):=by omega
      have p1:(k:Int)<(N:Int):=by omega
      clear q0 q1 q2 hkc hsz hx hL
      gi_wp2_with fail
      refine ⟨trivial,(callsIn_wide.2 (HE.out _)).mono ?_⟩
      rintro e W1 ⟨rfl,hb1⟩
      obtain ⟨fn,tmps,assign,body,hy,hRun⟩:=HY.out k _ W1 hlt (HA.out _ _ _ (HA.out _ _ _ HJ.out (ext_new _ _)) hb1) rfl
      clear hb1 c0 c1 c2
      gi_wp2
      refine hRun.mono ?_
      rintro e W3 ⟨rfl,hJ3⟩
      have HJ3:=Lib.hid hJ3
      clear hJ3 hRun hy
      gi_wp2
      go_roundw
      case rel=>exact ⟨k+1,by omega,by go_num,HJ3.out⟩
      case measure=>simp [intOf];omega
    · have hk2:k=N:=by omega
      subst hk2
      clear hL
      gi_wp2
      refine bodyPost_ret (results_none rfl _ _ _) rfl ⟨⟨_,rfl⟩,HJ.out⟩
theorem allH_seq (n:Nat) (hn:1≤n) (B Bs gl:Nat) (rv hv:Value) (R:List (List ChgT × Nat × Nat)) (H:List (ByteArray × ByteArray)) (hH:H.length≤60) :
    SeqMem n Tryz.prog 130 #[.pointer (some ⟨Bs,0,none⟩)] H.length (AllH B Bs gl rv hv R H) (fun k xs _=>xs=#[.string (encH H k)]):=
  fun l J W hC hA hY h0=>allH_in n hn l B Bs gl rv hv R H hH J hC hA hY W h0
end
section
attribute [local go_sem] run_semAt
attribute [local go_sem high] app_sem
def LvH (w:World) (es:List ByteArray) (gl:Nat) (k:Nat) (W:World):Prop:=
  (∃ v,Boxed W w.heap.size 53 v∧W.ownsRow w.heap.size 9 1 v k ((es.take k).map Value.string)∧True)∧Below w.heap.size w W∧Blk W (w.heap.size+1) 76 #[.pointer (some ⟨gl,0,none⟩)]
theorem LvH.own (w:World) (es:List ByteArray) (gl:Nat) (k B:Nat) (hB:w.heap.size≤B):OwnP B (LvH w es gl k):=
  OwnP.and (Own.from (holdsRow_own w.heap.size w.heap.size 53 9 1 (fun _:Unit=>k) (fun _:Unit=>(es.take k).map Value.string) (fun _ _=>True)) B)
    (OwnP.and (OwnP.below (Nat.le_refl _) hB) OwnP.blk)
theorem leavesX (B gl:Nat) (rv hv:Value) (R:List (List ChgT × Nat × Nat)) (H:List (ByteArray × ByteArray)) (hH:H.length≤60) (w:World) (hL:LogG B w gl rv hv R H) :
    Calls Tryz.prog 42 #[.pointer (some ⟨gl,0,none⟩)] w fun e w'=>∃ v,e=.returned v∧Strs (fun b=>w.heap.size≤b) w' v (leavesH 0 H)∧Below w.heap.size w w':=by
  have HL:=Lib.hid hL
  have hseq:=allH_seq 2 (by omega) B (w.heap.size+1) gl rv hv R H hH
  have HEn:=Lib.hid (show ∀ k,encH H k=(leavesH 0 H).getD k ⟨#[]⟩ from fun _=>rfl)
  have hlen:(leavesH 0 H).length≤60:=by rw [leavesH_length];exact hH
  have hpos:0<(leavesH 0 H).length:=by rw [leavesH_length,hL.len];omega
  rw [← leavesH_length H 0] at hseq
  generalize leavesH 0 H=es at *
  generalize hN:es.length=N at *
  have HN:=Lib.hid hN
  have HSq:=Lib.hid hseq
  clear hL hseq hN
  refine (callsIn_wide (n:=3)).1 (callsIn_of_wp_marks Tryz.func42 rfl trivial (wpIn_wide.2 ?_) rfl)
  simp only [Tryz.ntmps42,List.size_toArray,List.length_cons,List.length_nil,Nat.reduceAdd,Nat.reduceSub,Array.replicate_succ,Array.replicate_zero,List.push_toArray,List.append_toArray,List.nil_append,List.cons_append]
  go_wp2_with (go_at_call 75;refine (all_iter gl _).mono ?_;rintro e W2 ⟨rfl,rfl⟩)
  have hE0:Below w.heap.size w ((w.alloc (.cells #[.slice none 0 0] 53)).alloc (.cells #[.pointer (some ⟨gl,0,none⟩)] 76)):=ext_alloc (ext_new _ _) _
  have hI0:LvH w es gl 0 ((w.alloc (.cells #[.slice none 0 0] 53)).alloc (.cells #[.pointer (some ⟨gl,0,none⟩)] 76)):=
    ⟨⟨_,(Boxed.new _ _ _).alloc _,World.ownsRow_nil _ _ _ _,trivial⟩,hE0,Blk.new' _ _ _ (by simp)⟩
  refine (wpIn_wide (n:=3)).1 ?_
  refine' wpIn_mem_str (by omega) (gf:=130) (lb:=#[.pointer (some ⟨w.heap.size+1,0,none⟩)]) (by simp [Act.eval]) (enters_of Tryz.func130 (by kernel_rfl) rfl)
    _ HSq.out rfl (LvH w es gl) (fun k=>LvH.own w es gl k _ (by simp;omega)) (fun k W h=>⟨h.2.2.cell 0,HL.out.ext h.2.1⟩) hI0 _ ?assign ?body ?done
  case assign=>
    intro l s W K hK
    gi_wp2
    exact hK
  case body=>
    rintro l k s W hk hs hsz ⟨⟨v,hv,hrow,_⟩,hb,hbx⟩
    rw [HEn.out] at hs
    have HS:=Lib.hid hs
    have hz1:w.heap.size≤W.heap.size:=hb.size
    obtain ⟨hok,g3,cap3,W3,hav,haw,hv3,hv4,hr4,hk4,hb4,ho4⟩:=sums_after s hv hrow hz1 (Nat.le_refl _) (by omega)
    have c1':=hv.cell
    have hvl:=hv.lt
    have c3:=hv3.cell
    have f3:=hv3.frozen
    have HV4:=Lib.hid hv4
    have HR4:=Lib.hid hr4
    have HK4:=Lib.hid hk4
    have HB4:=Lib.hid hb4
    have HO4:=Lib.hid ho4
    have HI:=Lib.hid (And.intro hb hbx)
    clear hs hv hrow hb hbx hv3 hv4 hr4 hk4 hb4 ho4
    gi_wp2
    have hE:Below w.heap.size w (W3.setCell ⟨w.heap.size,0,none⟩ (.slice (some ⟨g3,0,none⟩) (k+1) cap3)):=HI.out.1.trans HB4.out
    have hk':k<es.length:=by rw [HN.out];exact hk
    have htk:(es.take (k+1)).map Value.string=(es.take k).map Value.string++[.string s]:=by
      rw [List.take_succ_eq_append_getElem hk',List.map_append,HS.out,List.getD_eq_getElem?_getD,List.getElem?_eq_getElem hk']
      rfl
    exact ⟨HK4.out.from _,⟨_,HV4.out,by rw [htk];exact HR4.out,trivial⟩,hE,HO4.out _ _ _ HI.out.2 (by decide) (by omega)⟩
  case done=>
    rintro D W hD ⟨⟨v,hv,hrow,_⟩,hb,_⟩ hK
    obtain ⟨n',rfl⟩:∃ n',N=n'+1:=⟨N-1,by omega⟩
    obtain ⟨g,cg,rfl⟩:=ownsRow_succ hrow
    have hvc:=hv.cell
    have hvf:=hv.frozen
    have HRow:=Lib.hid hrow
    have HBe:=Lib.hid hb
    have HV:=Lib.hid hv
    clear hrow hb
    go_wp2
    have hDn:D≠w.heap.size:=by simp at hD;omega
    have hgn:g≠w.heap.size:=fun e=>HV.out.not_row (by decide) HRow.out (by rw [e];rfl)
    have hK2:(W.setCell ⟨w.heap.size,0,none⟩ (.slice (some ⟨g,0,none⟩) (n'+1) cg)).heap[D]? = some (.deferred (some [])):=(Below.heap_setCell _ _ _ _ hDn).trans hK
    refine ⟨by simp,.inl ⟨_,_,rfl,run_takeDeferred hK2,?_⟩⟩
    have hB2:=(Blk.set_ (show Blk W w.heap.size 53 #[.slice (some ⟨g,0,none⟩) (n'+1) cg] from HV.out) 0 (.slice (some ⟨g,0,none⟩) (n'+1) cg)).putObj (.deferred none) hDn.symm
    have y0:=hB2.cell 0
    refine ⟨.slice (some ⟨g,0,none⟩) (n'+1) cg,by simp [results,Tryz.results42,go_sem,y0],_,rfl,?_,ext_put (ext_set HBe.out (by simp) _) (by simp at hD;omega) _⟩
    refine ⟨_,cg,by rw [HN.out],?_,fun _=>⟨g,0,rfl,(HRow.out.lt g rfl).1,fun j x hx=>?_⟩⟩
    · rw [HN.out];exact own_cap HRow.out
    · have h1:=HRow.out.cells (g:=g) rfl j (.string x) (by rw [List.take_of_length_le (by rw [HN.out];exact Nat.le_refl _),List.getElem?_map,hx];rfl)
      rw [add_lit0] at h1
      rw [Nat.zero_add]
      have h2:(W.setCell ⟨w.heap.size,0,none⟩ (.slice (some ⟨g,0,none⟩) (n'+1) cg)).cell? ⟨g,j,none⟩=some (.string x):=(World.cell?_of_block (Below.heap_setCell _ _ _ _ hgn)).trans h1
      refine cell_kept h2 (grownBy_putObj' _ D _) (fun r e=>?_)
      injection e with e
      subst e
      exact ⟨_,hK2,rfl⟩
end
def logRootF (H:List (ByteArray × ByteArray)):ByteArray:=rootF (leavesH 0 H)
section
attribute [local go_sem ↓] Go.wp_at_zero Go.wp_at_succ
theorem logRootX (B gl:Nat) (rv hv:Value) (R:List (List ChgT × Nat × Nat)) (H:List (ByteArray × ByteArray)) (hH:H.length≤60) (w:World) (hL:LogG B w gl rv hv R H) (hR:RoundOK w) :
    Calls Tryz.prog 24 #[.pointer (some ⟨gl,0,none⟩)] w fun e w'=>e=.returned (.string (logRootF H))∧Below w.heap.size w w':=by
  have HLv:=Lib.hid (leavesX B gl rv hv R H hH w hL)
  have HR:=Lib.hid hR
  have HSz:=Lib.hid (leavesH_sizes H 0 hL.sizes)
  have HLn:=Lib.hid (show (leavesH 0 H).length≤10000 by rw [leavesH_length];omega)
  unfold logRootF
  clear hL hR
  generalize leavesH 0 H=es at *
  have HRt:=Lib.hid (show ∀ (K:Nat) (v:Value) (W:World),Strs (fun b=>K≤b) W v es→RoundOK W→Calls Tryz.prog 43 #[v] W fun e w'=>e=.returned (.string (rootF es))∧Below W.heap.size W w' from fun K v W h hR=>root_any _ v es W h HLn.out HSz.out hR)
  generalize rootF es=r at *
  go_enter Tryz.func24,Tryz.ntmps24
  go_wp2_with fail
  refine HLv.out.mono ?_
  rintro e W1 ⟨v,rfl,hs1',hb1⟩
  have HS1:=Lib.hid hs1'
  have HB1:=Lib.hid hb1
  clear hs1' hb1
  go_wp2_with fail
  refine (HRt.out _ v W1 HS1.out (HR.out.below HB1.out)).mono ?_
  rintro e W2 ⟨rfl,hb2⟩
  go_wp2
  go_ret
  exact ⟨rfl,ext_call HB1.out hb2⟩
end
end
section
open Go.RowKit Go.Shelf
attribute [local go_sem ↓] Go.wp_at_zero Go.wp_at_succ
end
end Go.Proofs.YtimoapjhepmehaaGreatDoor
