/-
  package predicate: Touches at a query for rows.
-/
import Derived.Test.YtimoapjhepmehaaGreatDoorP30
import Derived.Test.YtimoapjhepmehaaGreatDoorP31
import Derived.Test.YtimoapjhepmehaaGreatDoorP5
import Derived.Test.YtimoapjhepmehaaGreatDoorP35
set_option linter.unusedSimpArgs false
set_option linter.unusedVariables false
namespace Go.Proofs.YtimoapjhepmehaaGreatDoor
open Go.RowKit Go.Shelf
attribute [local go_sem ↓] Go.wp_at_zero Go.wp_at_succ
def tchF (t:Int) (j:Nat) (lo hi:Int) (c:ChgT):Bool:=(scanR t j lo hi (befC c)).isSome || (scanR t j lo hi (aftC c)).isSome
theorem kindZero (w:World):(zeroValue 292).run Tryz.prog w=.ok (.agg #[.nilFunc,.nilFunc]) w:=by kernel_rfl
theorem kindField0 (a b:Nat) (w:World):(Instr.field 292 (.agg #[.func (.func a) #[] #[],.func (.func b) #[] #[]]) 0).run Tryz.prog w=.ok (.func (.func a) #[] #[]) w:=by kernel_rfl
theorem kindField1 (a b:Nat) (w:World):(Instr.field 292 (.agg #[.func (.func a) #[] #[],.func (.func b) #[] #[]]) 1).run Tryz.prog w=.ok (.func (.func b) #[] #[]) w:=by kernel_rfl
set_option maxRecDepth 100000 in
set_option maxHeartbeats 4000000 in
theorem touchesRow (kd t lo hi o:Int) (j b:Nat) (hq:QryT.Ok ⟨kd,t,(j:Int),lo,hi,(b:Int),o⟩) (hkd:kd=1∨kd=2) (c:ChgT) (hc:c.ok) (hct:c.turns=true) (w:World) :
    Calls Tryz.prog 153 #[.agg #[.int .i64 kd,.int .i64 t,.int .i64 (j:Int),.int .i64 lo,.int .i64 hi,.int .i64 (b:Int),.int .i64 o],.agg c.arr] w fun e w'=>e=.returned (.bool (tchF t j lo hi c))∧Below w.heap.size w w':=by
  have hj:j<4:=by have:=hq.j;dsimp only at this;omega
  have hb:b<4:=by rcases hkd with h|h <;> subst h <;> (have h9:=hq.kind;generalize hbb:(b:Int)=bb at h9;cases h9 <;> omega)
  have HQV:=Lib.hid (fun W:World=>queryValid_ok _ hq W)
  have HCV:=Lib.hid (fun W:World=>validChange_any c hc W)
  rw [hct] at HCV
  have HEF:=Lib.hid (fun W:World=>effectOf_any kd t lo hi o j b hj hb c W)
  have HAN:=Lib.hid (fun (pb pa:Option Addr) (old now:Int) (W:World)=>anyE (E:=effArr kd t (j:Int) lo hi (b:Int) o c (.pointer pb) (.pointer pa) old now) effIs W)
  have HTF:=Lib.hid (show tchF t j lo hi c=((scanR t j lo hi (befC c)).isSome || (scanR t j lo hi (aftC c)).isSome) from rfl)
  generalize tchF t j lo hi c=res at *
  generalize scanR t j lo hi (befC c)=sb at *
  generalize scanR t j lo hi (aftC c)=sa at *
  generalize measR b sb=mb at *
  generalize measR b sa=ma at *
  obtain ⟨E,hE⟩:∃ E,E=effArr kd t (j:Int) lo hi (b:Int) o c:=⟨_,rfl⟩
  rw [← hE] at HEF HAN
  clear hE
  obtain ⟨c0,c1,had,o1,o2,o3,has,n1,n2,n3⟩:=c
  dsimp only [ChgT.arr,QryT.arr] at *
  obtain ⟨X,hX⟩:∃ X,X=(w.alloc (.cells #[.int .i64 kd,.int .i64 t,.int .i64 (j:Int),.int .i64 lo,.int .i64 hi,.int .i64 (b:Int),.int .i64 o] 33)).alloc (.cells #[.int .i64 c0,.int .i64 c1,.bool had,.int .i64 o1,.int .i64 o2,.int .i64 o3,.bool has,.int .i64 n1,.int .i64 n2,.int .i64 n3] 72):=⟨_,rfl⟩
  have HE0:=Lib.hid (show Below w.heap.size w X by rw [hX];exact ext_alloc (ext_new _ _) _)
  have HQ0:=Lib.hid (show Blk X w.heap.size 33 #[.int .i64 kd,.int .i64 t,.int .i64 (j:Int),.int .i64 lo,.int .i64 hi,.int .i64 (b:Int),.int .i64 o] by rw [hX];exact (Blk.new _ _ _).alloc _)
  have HC0:=Lib.hid (show Blk X (w.heap.size+1) 72 #[.int .i64 c0,.int .i64 c1,.bool had,.int .i64 o1,.int .i64 o2,.int .i64 o3,.bool has,.int .i64 n1,.int .i64 n2,.int .i64 n3] by rw [hX];exact Blk.new' _ _ _ (by simp))
  have HFX:=Lib.hid (show ∀ Z,Below X.heap.size X Z→(Z.cell? ⟨w.heap.size,0,none⟩=some (.int .i64 kd)∧Z.cell? ⟨w.heap.size,1,none⟩=some (.int .i64 t)∧Z.cell? ⟨w.heap.size,2,none⟩=some (.int .i64 (j:Int))∧Z.cell? ⟨w.heap.size,3,none⟩=some (.int .i64 lo)∧Z.cell? ⟨w.heap.size,4,none⟩=some (.int .i64 hi)∧Z.cell? ⟨w.heap.size,5,none⟩=some (.int .i64 (b:Int))∧Z.cell? ⟨w.heap.size,6,none⟩=some (.int .i64 o)∧Z.cell? ⟨w.heap.size+1,0,none⟩=some (.int .i64 c0)∧Z.cell? ⟨w.heap.size+1,1,none⟩=some (.int .i64 c1)∧Z.cell? ⟨w.heap.size+1,2,none⟩=some (.bool had)∧Z.cell? ⟨w.heap.size+1,3,none⟩=some (.int .i64 o1)∧Z.cell? ⟨w.heap.size+1,4,none⟩=some (.int .i64 o2)∧Z.cell? ⟨w.heap.size+1,5,none⟩=some (.int .i64 o3)∧Z.cell? ⟨w.heap.size+1,6,none⟩=some (.bool has)∧Z.cell? ⟨w.heap.size+1,7,none⟩=some (.int .i64 n1)∧Z.cell? ⟨w.heap.size+1,8,none⟩=some (.int .i64 n2)∧Z.cell? ⟨w.heap.size+1,9,none⟩=some (.int .i64 n3)) from fun Z h=>⟨(HQ0.out.ext h).cell 0,(HQ0.out.ext h).cell 1,(HQ0.out.ext h).cell 2,(HQ0.out.ext h).cell 3,(HQ0.out.ext h).cell 4,(HQ0.out.ext h).cell 5,(HQ0.out.ext h).cell 6,(HC0.out.ext h).cell 0,(HC0.out.ext h).cell 1,(HC0.out.ext h).cell 2,(HC0.out.ext h).cell 3,(HC0.out.ext h).cell 4,(HC0.out.ext h).cell 5,(HC0.out.ext h).cell 6,(HC0.out.ext h).cell 7,(HC0.out.ext h).cell 8,(HC0.out.ext h).cell 9⟩)
  have HB:=Lib.hid (show Below X.heap.size X X.drew from (ext_refl X).drew)
  have HX:=Lib.hid hX
  have HKD:=Lib.hid hkd
  clear hX hq hkd hc hct hj hb
  have hfd:=fun W:World=>kindField0 211 212 W
  go_enter Tryz.func153,Tryz.ntmps153
  go_upto_region 1 with (fail)
  rw [← HX.out]
  refine wp_region_L (fun Z=>Z.cell? ⟨w.heap.size,0,none⟩=some (.int .i64 kd)∧Z.cell? ⟨w.heap.size,1,none⟩=some (.int .i64 t)∧Z.cell? ⟨w.heap.size,2,none⟩=some (.int .i64 (j:Int))∧Z.cell? ⟨w.heap.size,3,none⟩=some (.int .i64 lo)∧Z.cell? ⟨w.heap.size,4,none⟩=some (.int .i64 hi)∧Z.cell? ⟨w.heap.size,5,none⟩=some (.int .i64 (b:Int))∧Z.cell? ⟨w.heap.size,6,none⟩=some (.int .i64 o)∧Z.cell? ⟨w.heap.size+1,0,none⟩=some (.int .i64 c0)∧Z.cell? ⟨w.heap.size+1,1,none⟩=some (.int .i64 c1)∧Z.cell? ⟨w.heap.size+1,2,none⟩=some (.bool had)∧Z.cell? ⟨w.heap.size+1,3,none⟩=some (.int .i64 o1)∧Z.cell? ⟨w.heap.size+1,4,none⟩=some (.int .i64 o2)∧Z.cell? ⟨w.heap.size+1,5,none⟩=some (.int .i64 o3)∧Z.cell? ⟨w.heap.size+1,6,none⟩=some (.bool has)∧Z.cell? ⟨w.heap.size+1,7,none⟩=some (.int .i64 n1)∧Z.cell? ⟨w.heap.size+1,8,none⟩=some (.int .i64 n2)∧Z.cell? ⟨w.heap.size+1,9,none⟩=some (.int .i64 n3)) (fun _=>True) [] (by kernel_rfl) ?_
  refine takeFd 0 (some 5) (v:=?_) rfl rfl (by kernel_rfl) (by kernel_rfl) (by kernel_rfl) (by kernel_rfl) (fun _ _ _ h=>h) (Or.inl ⟨by kernel_rfl,?_⟩) (HFX.out _ HB.out) (fun _=>trivial) ?_
  rotate_left 1
  · (rintro w' ⟨f0,f1,f2,f3,f4,f5,f6,f7,f8,f9,f10,f11,f12,f13,f14,f15,f16⟩;go_simp;with_reducible rfl)
  refine allL [1] (by kernel_rfl) (by simp) ?_
  simp only [List.forall_mem_cons,List.not_mem_nil,false_implies,implies_true,and_true]
  refine stepL rfl (by kernel_rfl) (fun K hK=>?_)
  go_simp
  go_at_call 47
  refine (HQV.out _).mono ?_
  rintro e V1 ⟨rfl,hbv⟩
  have HB:=Lib.hid (ext_call HB.out hbv)
  clear hbv
  refine hK _ _ ⟨(HFX.out _ HB.out),?_⟩
  clear hK K
  refine takeFd 2 (some 7) (v:=?_) rfl rfl (by kernel_rfl) (by kernel_rfl) (by kernel_rfl) (by kernel_rfl) (fun _ _ _ h=>h) (Or.inl ⟨by kernel_rfl,?_⟩) (HFX.out _ HB.out) (fun _=>trivial) ?_
  rotate_left 1
  · (rintro w' ⟨f0,f1,f2,f3,f4,f5,f6,f7,f8,f9,f10,f11,f12,f13,f14,f15,f16⟩;go_simp;with_reducible rfl)
  refine takeFd 3 (some 8) (v:=?_) rfl rfl (by kernel_rfl) (by kernel_rfl) (by kernel_rfl) (by kernel_rfl) (fun _ _ _ h=>h) (Or.inl ⟨by kernel_rfl,?_⟩) (HFX.out _ HB.out) (fun _=>trivial) ?_
  rotate_left 1
  · (rintro w' ⟨f0,f1,f2,f3,f4,f5,f6,f7,f8,f9,f10,f11,f12,f13,f14,f15,f16⟩;go_simp;with_reducible rfl)
  refine allL [4] (by kernel_rfl) (by simp) ?_
  simp only [List.forall_mem_cons,List.not_mem_nil,false_implies,implies_true,and_true]
  refine stepL rfl (by kernel_rfl) (fun K hK=>?_)
  go_simp
  go_at_call 171
  refine (HCV.out _).mono ?_
  rintro e V4 ⟨rfl,hbv⟩
  have HB:=Lib.hid (ext_call HB.out hbv)
  clear hbv
  refine hK _ _ ⟨(HFX.out _ HB.out),?_⟩
  clear hK K
  refine takeFd 5 (some 10) (v:=?_) rfl rfl (by kernel_rfl) (by kernel_rfl) (by kernel_rfl) (by kernel_rfl) (fun _ _ _ h=>h) (Or.inl ⟨by kernel_rfl,?_⟩) (HFX.out _ HB.out) (fun _=>trivial) ?_
  rotate_left 1
  · (rintro w' ⟨f0,f1,f2,f3,f4,f5,f6,f7,f8,f9,f10,f11,f12,f13,f14,f15,f16⟩;go_simp;with_reducible rfl)
  refine takeFd 6 (some 11) (v:=?_) rfl rfl (by kernel_rfl) (by kernel_rfl) (by kernel_rfl) (by kernel_rfl) (fun _ _ _ h=>h) (Or.inl ⟨by kernel_rfl,?_⟩) (HFX.out _ HB.out) (fun _=>trivial) ?_
  rotate_left 1
  · (rintro w' ⟨f0,f1,f2,f3,f4,f5,f6,f7,f8,f9,f10,f11,f12,f13,f14,f15,f16⟩;go_simp;with_reducible rfl)
  refine takeFd 8 (some 13) (v:=?_) rfl rfl (by kernel_rfl) (by kernel_rfl) (by kernel_rfl) (by kernel_rfl) (fun _ _ _ h=>h) (Or.inl ⟨by kernel_rfl,?_⟩) (HFX.out _ HB.out) (fun _=>trivial) ?_
  rotate_left 1
  · (rintro w' ⟨f0,f1,f2,f3,f4,f5,f6,f7,f8,f9,f10,f11,f12,f13,f14,f15,f16⟩;go_simp;with_reducible rfl)
  refine takeFd 9 (some 14) (v:=?_) rfl rfl (by kernel_rfl) (by kernel_rfl) (by kernel_rfl) (by kernel_rfl) (fun _ _ _ h=>h) (Or.inl ⟨by kernel_rfl,?_⟩) (HFX.out _ HB.out) (fun _=>trivial) ?_
  rotate_left 1
  · (rintro w' ⟨f0,f1,f2,f3,f4,f5,f6,f7,f8,f9,f10,f11,f12,f13,f14,f15,f16⟩;go_simp;with_reducible rfl)
  refine takeFd 12 (some 17) (v:=?_) rfl rfl (by kernel_rfl) (by kernel_rfl) (by kernel_rfl) (by kernel_rfl) (fun _ _ _ h=>h) (Or.inl ⟨by kernel_rfl,?_⟩) (HFX.out _ HB.out) (fun _=>trivial) ?_
  rotate_left 1
  · (rintro w' ⟨f0,f1,f2,f3,f4,f5,f6,f7,f8,f9,f10,f11,f12,f13,f14,f15,f16⟩;go_simp;with_reducible rfl)
  refine takeFd 13 (some 18) (v:=?_) rfl rfl (by kernel_rfl) (by kernel_rfl) (by kernel_rfl) (by kernel_rfl) (fun _ _ _ h=>h) (Or.inl ⟨by kernel_rfl,?_⟩) (HFX.out _ HB.out) (fun _=>trivial) ?_
  rotate_left 1
  · (rintro w' ⟨f0,f1,f2,f3,f4,f5,f6,f7,f8,f9,f10,f11,f12,f13,f14,f15,f16⟩;go_simp;with_reducible rfl)
  refine allL [7] (by kernel_rfl) (by simp) ?_
  simp only [List.forall_mem_cons,List.not_mem_nil,false_implies,implies_true,and_true]
  refine stepL rfl (by kernel_rfl) (fun K hK=>?_)
  go_simp
  go_at_call 192
  refine (kindsAny _).mono ?_
  rintro e V7 ⟨g,kv,rfl,hm,hk1,hk2,-,-,hbv⟩
  have HB:=Lib.hid (ext_call HB.out hbv)
  have HM:=Lib.hid hm
  have HKV:=Lib.hid (show getI kv kd=some (.agg #[.func (.func 211) #[] #[],.func (.func 212) #[] #[]]) by rcases HKD.out with h|h <;> rw [h] <;> assumption)
  clear hbv hm hk1 hk2
  refine hK _ _ ⟨(HFX.out _ HB.out),?_⟩
  clear hK K
  refine allL [10,14] (by kernel_rfl) (by simp) ?_
  simp only [List.forall_mem_cons,List.not_mem_nil,false_implies,implies_true,and_true]
  refine ⟨?_,?_⟩
  · refine stepL rfl (by kernel_rfl) (fun K hK=>?_)
    have hlk:=lookup_I (P:=Tryz.prog) Tryz.underlying293 Tryz.underlying3 HM.out kd (kindZero _)
    rw [HKV.out] at hlk
    simp only [Option.getD_some] at hlk
    go_simp
    clear hlk
    refine hK _ _ ⟨(HFX.out _ HB.out),?_⟩
    clear hK K
    refine takeFd 11 (some 16) (v:=?_) rfl rfl (by kernel_rfl) (by kernel_rfl) (by kernel_rfl) (by kernel_rfl) (fun _ _ _ h=>h) (Or.inl ⟨by kernel_rfl,?_⟩) (HFX.out _ HB.out) (fun _=>trivial) ?_
    rotate_left 1
    · (rintro w' ⟨f0,f1,f2,f3,f4,f5,f6,f7,f8,f9,f10,f11,f12,f13,f14,f15,f16⟩;go_simp;with_reducible rfl)
    refine allL [14] (by kernel_rfl) (by simp) ?_
    simp only [List.forall_mem_cons,List.not_mem_nil,false_implies,implies_true,and_true]
    refine stepL rfl (by kernel_rfl) (fun K hK=>?_)
    go_simp
    go_at_call 193
    refine (HEF.out _).mono ?_
    rintro e V14 ⟨pb,pa,rfl,hpb,hpa,hbv⟩
    obtain ⟨pbp,rfl,hsb⟩:=hpb.shape
    obtain ⟨pap,rfl,hsa⟩:=hpa.shape
    have HSB:=Lib.hid (And.intro hsb hsa)
    have HB:=Lib.hid (ext_call HB.out hbv)
    have HM:=Lib.hid (HM.out.ext hbv)
    obtain ⟨E14,hE14⟩:∃ E14,E14=E (.pointer pbp) (.pointer pap) mb ma:=⟨_,rfl⟩
    have HAN:=Lib.hid (fun W:World=>HAN.out pbp pap mb ma W)
    rw [← hE14] at HAN ⊢
    clear hbv hpb hpa hsb hsa hE14
    refine hK _ _ ⟨(HFX.out _ HB.out),?_⟩
    clear hK K
    refine allL [15] (by kernel_rfl) (by simp) ?_
    simp only [List.forall_mem_cons,List.not_mem_nil,false_implies,implies_true,and_true]
    refine stepL rfl (by kernel_rfl) (fun K hK=>?_)
    go_simp
    go_at_call 211
    refine (HAN.out _).mono ?_
    rintro e V15 ⟨rfl,hbv⟩
    rw [HSB.out.1,HSB.out.2,← HTF.out]
    have HB:=Lib.hid (ext_call HB.out hbv)
    clear hbv
    refine hK _ _ ⟨(HFX.out _ HB.out),?_⟩
    clear hK K
    refine takeFd 16 (some 21) (v:=?_) rfl rfl (by kernel_rfl) (by kernel_rfl) (by kernel_rfl) (by kernel_rfl) (fun _ _ _ h=>h) (Or.inl ⟨by kernel_rfl,?_⟩) (HFX.out _ HB.out) (fun _=>trivial) ?_
    rotate_left 1
    · (rintro w' ⟨f0,f1,f2,f3,f4,f5,f6,f7,f8,f9,f10,f11,f12,f13,f14,f15,f16⟩;go_simp;with_reducible rfl)
    refine takeFd 17 (some 4) (v:=?_) rfl rfl (by kernel_rfl) (by kernel_rfl) (by kernel_rfl) (by kernel_rfl) (fun _ _ _ h=>h) (Or.inl ⟨by kernel_rfl,?_⟩) (HFX.out _ HB.out) (fun _=>trivial) ?_
    rotate_left 1
    · (rintro w' ⟨f0,f1,f2,f3,f4,f5,f6,f7,f8,f9,f10,f11,f12,f13,f14,f15,f16⟩;go_simp;with_reducible rfl)
    refine doneL (by kernel_rfl) ?_ _
    go_wp2
    go_ret
    exact ⟨rfl,ext_call HE0.out HB.out⟩
  · refine stepL rfl (by kernel_rfl) (fun K hK=>?_)
    go_simp
    go_at_call 193
    refine (HEF.out _).mono ?_
    rintro e V14 ⟨pb,pa,rfl,hpb,hpa,hbv⟩
    obtain ⟨pbp,rfl,hsb⟩:=hpb.shape
    obtain ⟨pap,rfl,hsa⟩:=hpa.shape
    have HSB:=Lib.hid (And.intro hsb hsa)
    have HB:=Lib.hid (ext_call HB.out hbv)
    have HM:=Lib.hid (HM.out.ext hbv)
    obtain ⟨E14,hE14⟩:∃ E14,E14=E (.pointer pbp) (.pointer pap) mb ma:=⟨_,rfl⟩
    have HAN:=Lib.hid (fun W:World=>HAN.out pbp pap mb ma W)
    rw [← hE14] at HAN ⊢
    clear hbv hpb hpa hsb hsa hE14
    refine hK _ _ ⟨(HFX.out _ HB.out),?_⟩
    clear hK K
    refine allL [10] (by kernel_rfl) (by simp) ?_
    simp only [List.forall_mem_cons,List.not_mem_nil,false_implies,implies_true,and_true]
    refine stepL rfl (by kernel_rfl) (fun K hK=>?_)
    have hlk:=lookup_I (P:=Tryz.prog) Tryz.underlying293 Tryz.underlying3 HM.out kd (kindZero _)
    rw [HKV.out] at hlk
    simp only [Option.getD_some] at hlk
    go_simp
    clear hlk
    refine hK _ _ ⟨(HFX.out _ HB.out),?_⟩
    clear hK K
    refine takeFd 11 (some 16) (v:=?_) rfl rfl (by kernel_rfl) (by kernel_rfl) (by kernel_rfl) (by kernel_rfl) (fun _ _ _ h=>h) (Or.inl ⟨by kernel_rfl,?_⟩) (HFX.out _ HB.out) (fun _=>trivial) ?_
    rotate_left 1
    · (rintro w' ⟨f0,f1,f2,f3,f4,f5,f6,f7,f8,f9,f10,f11,f12,f13,f14,f15,f16⟩;go_simp;with_reducible rfl)
    refine allL [15] (by kernel_rfl) (by simp) ?_
    simp only [List.forall_mem_cons,List.not_mem_nil,false_implies,implies_true,and_true]
    refine stepL rfl (by kernel_rfl) (fun K hK=>?_)
    go_simp
    go_at_call 211
    refine (HAN.out _).mono ?_
    rintro e V15 ⟨rfl,hbv⟩
    rw [HSB.out.1,HSB.out.2,← HTF.out]
    have HB:=Lib.hid (ext_call HB.out hbv)
    clear hbv
    refine hK _ _ ⟨(HFX.out _ HB.out),?_⟩
    clear hK K
    refine takeFd 16 (some 21) (v:=?_) rfl rfl (by kernel_rfl) (by kernel_rfl) (by kernel_rfl) (by kernel_rfl) (fun _ _ _ h=>h) (Or.inl ⟨by kernel_rfl,?_⟩) (HFX.out _ HB.out) (fun _=>trivial) ?_
    rotate_left 1
    · (rintro w' ⟨f0,f1,f2,f3,f4,f5,f6,f7,f8,f9,f10,f11,f12,f13,f14,f15,f16⟩;go_simp;with_reducible rfl)
    refine takeFd 17 (some 4) (v:=?_) rfl rfl (by kernel_rfl) (by kernel_rfl) (by kernel_rfl) (by kernel_rfl) (fun _ _ _ h=>h) (Or.inl ⟨by kernel_rfl,?_⟩) (HFX.out _ HB.out) (fun _=>trivial) ?_
    rotate_left 1
    · (rintro w' ⟨f0,f1,f2,f3,f4,f5,f6,f7,f8,f9,f10,f11,f12,f13,f14,f15,f16⟩;go_simp;with_reducible rfl)
    refine doneL (by kernel_rfl) ?_ _
    go_wp2
    go_ret
    exact ⟨rfl,ext_call HE0.out HB.out⟩
end Go.Proofs.YtimoapjhepmehaaGreatDoor
