/-
  package predicate: Patch at a query for rows.
-/
import Derived.Test.YtimoapjhepmehaaGreatDoorP36
set_option linter.unusedSimpArgs false
set_option linter.unusedVariables false
namespace Go.Proofs.YtimoapjhepmehaaGreatDoor
open Go.RowKit Go.Shelf
attribute [local go_sem ↓] Go.wp_at_zero Go.wp_at_succ
def patF (t:Int) (j:Nat) (lo hi:Int) (l:List RowT) (c:ChgT):List RowT:=if tchF t j lo hi c then (scanR t j lo hi (aftC c)).toList else l
set_option maxRecDepth 100000 in
set_option maxHeartbeats 4000000 in
theorem patchRow (kd t lo hi o:Int) (j b:Nat) (hq:QryT.Ok ⟨kd,t,(j:Int),lo,hi,(b:Int),o⟩) (hkd:kd=1∨kd=2) (c:ChgT) (hc:c.ok) (hct:c.turns=true) (l:List RowT) (hl:l.length≤1000) (hk:tchF t j lo hi c=true→l.length≤1∧∀ r ∈ l,r.t=c.t∧r.k=c.k) (v:Value) (val:Int) (fd:Bool) (w:World) (hv:RowsL w v l) :
    Calls Tryz.prog 154 #[.agg #[.int .i64 kd,.int .i64 t,.int .i64 (j:Int),.int .i64 lo,.int .i64 hi,.int .i64 (b:Int),.int .i64 o],.agg #[v,.int .i64 val,.bool fd],.agg c.arr] w fun e w'=>∃ u,e=.returned (.tuple #[.agg #[u,.int .i64 val,.bool fd],.bool true])∧RowsL w' u (patF t j lo hi l c)∧Below w.heap.size w w':=by
  have hj:j<4:=by have:=hq.j;dsimp only at this;omega
  have hb:b<4:=by rcases hkd with h|h <;> subst h <;> (have h9:=hq.kind;generalize hbb:(b:Int)=bb at h9;cases h9 <;> omega)
  have HTO:=Lib.hid (fun W:World=>touchesRow kd t lo hi o j b hq hkd c hc hct W)
  have HEF:=Lib.hid (fun W:World=>effectOf_any kd t lo hi o j b hj hb c W)
  have HPF:=Lib.hid (show patF t j lo hi l c=if tchF t j lo hi c then (scanR t j lo hi (aftC c)).toList else l from rfl)
  have HPR:=Lib.hid (fun (pb pa:Option Addr) (old now:Int) (sa:Option RowT) (h1:l.length≤1) (h2:∀ r ∈ l,r.t=c.t∧r.k=c.k) (u:Value) (W:World) (h3:RowsL W u l) (h4:PtrR 0 W (.pointer pa) sa)=>patchRowsRow (E:=effArr kd t (j:Int) lo hi (b:Int) o c (.pointer pb) (.pointer pa) old now) hj effIs sa l h1 h2 u val fd W h3 h4)
  have HK:=Lib.hid hk
  generalize patF t j lo hi l c=out at *
  generalize tchF t j lo hi c=tch at *
  generalize scanR t j lo hi (befC c)=sb at *
  generalize scanR t j lo hi (aftC c)=sa at *
  generalize measR b sb=mb at *
  generalize measR b sa=ma at *
  obtain ⟨E,hE⟩:∃ E,E=effArr kd t (j:Int) lo hi (b:Int) o c:=⟨_,rfl⟩
  rw [← hE] at HEF HPR
  clear hE
  obtain ⟨c0,c1,had,o1,o2,o3,has,n1,n2,n3⟩:=c
  dsimp only [ChgT.arr,QryT.arr] at *
  obtain ⟨W0,hW0⟩:∃ W0,W0=(((w.alloc (.cells #[.int .i64 kd,.int .i64 t,.int .i64 (j:Int),.int .i64 lo,.int .i64 hi,.int .i64 (b:Int),.int .i64 o] 33)).alloc (.cells #[v,.int .i64 val,.bool fd] 36)).alloc (.cells #[.int .i64 c0,.int .i64 c1,.bool had,.int .i64 o1,.int .i64 o2,.int .i64 o3,.bool has,.int .i64 n1,.int .i64 n2,.int .i64 n3] 72)).alloc (.cells #[.slice none 0 0,.int .i64 0,.bool false] 36):=⟨_,rfl⟩
  have HE0:=Lib.hid (show Below w.heap.size w W0 by rw [hW0];exact ext_alloc (ext_alloc (ext_alloc (ext_new _ _) _) _) _)
  have HQ0:=Lib.hid (show Blk W0 w.heap.size 33 #[.int .i64 kd,.int .i64 t,.int .i64 (j:Int),.int .i64 lo,.int .i64 hi,.int .i64 (b:Int),.int .i64 o] by rw [hW0];exact (((Blk.new _ _ _).alloc _).alloc _).alloc _)
  have HR0:=Lib.hid (show Blk W0 (w.heap.size+1) 36 #[v,.int .i64 val,.bool fd] by rw [hW0];exact ((Blk.new' _ _ _ (by simp)).alloc _).alloc _)
  have HC0:=Lib.hid (show Blk W0 (w.heap.size+1+1) 72 #[.int .i64 c0,.int .i64 c1,.bool had,.int .i64 o1,.int .i64 o2,.int .i64 o3,.bool has,.int .i64 n1,.int .i64 n2,.int .i64 n3] by rw [hW0];exact (Blk.new' _ _ _ (by simp)).alloc _)
  have HO0:=Lib.hid (show Blk W0 (w.heap.size+1+1+1) 36 #[.slice none 0 0,.int .i64 0,.bool false] by rw [hW0];exact Blk.new' _ _ _ (by simp))
  have HCL:=Lib.hid (cloneRowsG l v (by omega) W0 (hv.ext HE0.out))
  have HW0:=Lib.hid hW0
  have HKD:=Lib.hid hkd
  obtain ⟨A,cc,rfl,-⟩:=hv
  clear hW0 hq hkd hc hct hk hj hb
  have hfd:=fun W:World=>kindField1 211 212 W
  go_enter Tryz.func154,Tryz.ntmps154
  go_upto_region 1 with (fail)
  rw [← HW0.out]
  have r0:=HR0.out.cell 0
  go_wp2_with fail
  refine HCL.out.mono ?_
  rintro e W1 ⟨u,rfl,hu,hb1⟩
  have hR1:=HR0.out.ext hb1
  have HE1:=Lib.hid (ext_call HE0.out hb1)
  obtain ⟨Au,cu,rfl⟩:=own_shape hu
  have r0:=hR1.cell 0
  have f0:=hR1.frozen 0
  obtain ⟨X,hX⟩:∃ X,X=W1.setCell ⟨w.heap.size+1,0,none⟩ (.slice Au l.length cu):=⟨_,rfl⟩
  have HQX:=Lib.hid (show Blk X w.heap.size 33 #[.int .i64 kd,.int .i64 t,.int .i64 (j:Int),.int .i64 lo,.int .i64 hi,.int .i64 (b:Int),.int .i64 o] by rw [hX];exact (HQ0.out.ext hb1).far (p:=⟨w.heap.size+1,0,none⟩) (by simp) _)
  have HRX:=Lib.hid (show Blk X (w.heap.size+1) 36 #[.slice Au l.length cu,.int .i64 val,.bool fd] by rw [hX];exact hR1.set_ 0 _)
  have HCX:=Lib.hid (show Blk X (w.heap.size+1+1) 72 #[.int .i64 c0,.int .i64 c1,.bool had,.int .i64 o1,.int .i64 o2,.int .i64 o3,.bool has,.int .i64 n1,.int .i64 n2,.int .i64 n3] by rw [hX];exact (HC0.out.ext hb1).far (p:=⟨w.heap.size+1,0,none⟩) (by simp) _)
  have HOX:=Lib.hid (show Blk X (w.heap.size+1+1+1) 36 #[.slice none 0 0,.int .i64 0,.bool false] by rw [hX];exact (HO0.out.ext hb1).far (p:=⟨w.heap.size+1,0,none⟩) (by simp <;> omega) _)
  have HEX:=Lib.hid (show Below w.heap.size w X by rw [hX];exact ext_set HE1.out (by simp) _)
  have HLX:=Lib.hid (show RowsL X (.slice Au l.length cu) l by rw [hX];exact (own_rows5 hu).off (b:=w.heap.size+1) (i:=0) r0)
  have HXX:=Lib.hid hX
  clear hu hb1 hR1 hX HR0 HO0 HQ0 HC0 HCL HE0
  go_upto_region 2 with (fail)
  rw [← HXX.out]
  clear r0 f0 HXX
  have q0:=HQX.out.cell 0;have q1:=HQX.out.cell 1;have q2:=HQX.out.cell 2;have q3:=HQX.out.cell 3;have q4:=HQX.out.cell 4;have q5:=HQX.out.cell 5;have q6:=HQX.out.cell 6
  have z0:=HCX.out.cell 0;have z1:=HCX.out.cell 1;have z2:=HCX.out.cell 2;have z3:=HCX.out.cell 3;have z4:=HCX.out.cell 4;have z5:=HCX.out.cell 5;have z6:=HCX.out.cell 6;have z7:=HCX.out.cell 7;have z8:=HCX.out.cell 8;have z9:=HCX.out.cell 9
  go_wp2_with fail
  refine (HTO.out _).mono ?_
  rintro e W2 ⟨rfl,hb2⟩
  have HQ2:=Lib.hid (HQX.out.ext hb2)
  have HR2:=Lib.hid (HRX.out.ext hb2)
  have HC2:=Lib.hid (HCX.out.ext hb2)
  have HO2:=Lib.hid (HOX.out.ext hb2)
  have HL2:=Lib.hid (HLX.out.ext hb2)
  have HE2:=Lib.hid (ext_call HEX.out hb2)
  clear q0 q1 q2 q3 q4 q5 q6 z0 z1 z2 z3 z4 z5 z6 z7 z8 z9 hb2 HQX HRX HCX HOX HLX HEX HTO
  cases tch with
  | false=>
    have HOU:=Lib.hid (show out=l by rw [HPF.out];rfl)
    have r0:=HR2.out.cell 0;have r1:=HR2.out.cell 1;have r2:=HR2.out.cell 2
    have o0:=HO2.out.cell 0;have o1:=HO2.out.cell 1;have o2:=HO2.out.cell 2
    have f0:=HO2.out.frozen 0
    have f1:=HO2.out.frozen 1
    have f2:=HO2.out.frozen 2
    go_wp2
    have hBf:=((HO2.out.set_ 0 (.slice Au l.length cu)).set_ 1 (.int .i64 val)).set_ 2 (.bool fd)
    have y0:=hBf.cell 0;have y1:=hBf.cell 1;have y2:=hBf.cell 2
    refine bodyPost_ret (v:=.tuple #[.agg #[.slice Au l.length cu,.int .i64 val,.bool fd],.bool true]) (by simp [results,Tryz.results154,go_sem,y0,y1,y2]) rfl ⟨_,rfl,?_,ext_set (ext_set (ext_set HE2.out (by simp;omega) _) (by simp;omega) _) (by simp;omega) _⟩
    rw [HOU.out]
    have h1:=HL2.out.off (b:=w.heap.size+1+1+1) (i:=0) (u:=.slice Au l.length cu) o0
    have h2:=h1.off (b:=w.heap.size+1+1+1) (i:=1) (u:=.int .i64 val) ((HO2.out.set_ 0 (.slice Au l.length cu)).cell 0)
    exact h2.off (b:=w.heap.size+1+1+1) (i:=2) (u:=.bool fd) (((HO2.out.set_ 0 (.slice Au l.length cu)).set_ 1 (.int .i64 val)).cell 0)
  | true =>
    have HOU:=Lib.hid (show out=sa.toList by rw [HPF.out];rfl)
    have HFX:=Lib.hid (show ∀ Z,Below W2.heap.size W2 Z→(Z.cell? ⟨w.heap.size,0,none⟩=some (.int .i64 kd)∧Z.cell? ⟨w.heap.size,1,none⟩=some (.int .i64 t)∧Z.cell? ⟨w.heap.size,2,none⟩=some (.int .i64 (j:Int))∧Z.cell? ⟨w.heap.size,3,none⟩=some (.int .i64 lo)∧Z.cell? ⟨w.heap.size,4,none⟩=some (.int .i64 hi)∧Z.cell? ⟨w.heap.size,5,none⟩=some (.int .i64 (b:Int))∧Z.cell? ⟨w.heap.size,6,none⟩=some (.int .i64 o)∧Z.cell? ⟨w.heap.size+1+1,0,none⟩=some (.int .i64 c0)∧Z.cell? ⟨w.heap.size+1+1,1,none⟩=some (.int .i64 c1)∧Z.cell? ⟨w.heap.size+1+1,2,none⟩=some (.bool had)∧Z.cell? ⟨w.heap.size+1+1,3,none⟩=some (.int .i64 o1)∧Z.cell? ⟨w.heap.size+1+1,4,none⟩=some (.int .i64 o2)∧Z.cell? ⟨w.heap.size+1+1,5,none⟩=some (.int .i64 o3)∧Z.cell? ⟨w.heap.size+1+1,6,none⟩=some (.bool has)∧Z.cell? ⟨w.heap.size+1+1,7,none⟩=some (.int .i64 n1)∧Z.cell? ⟨w.heap.size+1+1,8,none⟩=some (.int .i64 n2)∧Z.cell? ⟨w.heap.size+1+1,9,none⟩=some (.int .i64 n3)∧Z.cell? ⟨w.heap.size+1,0,none⟩=some (.slice Au l.length cu)∧Z.cell? ⟨w.heap.size+1,1,none⟩=some (.int .i64 val)∧Z.cell? ⟨w.heap.size+1,2,none⟩=some (.bool fd)) from fun Z h=>⟨(HQ2.out.ext h).cell 0,(HQ2.out.ext h).cell 1,(HQ2.out.ext h).cell 2,(HQ2.out.ext h).cell 3,(HQ2.out.ext h).cell 4,(HQ2.out.ext h).cell 5,(HQ2.out.ext h).cell 6,(HC2.out.ext h).cell 0,(HC2.out.ext h).cell 1,(HC2.out.ext h).cell 2,(HC2.out.ext h).cell 3,(HC2.out.ext h).cell 4,(HC2.out.ext h).cell 5,(HC2.out.ext h).cell 6,(HC2.out.ext h).cell 7,(HC2.out.ext h).cell 8,(HC2.out.ext h).cell 9,(HR2.out.ext h).cell 0,(HR2.out.ext h).cell 1,(HR2.out.ext h).cell 2⟩)
    obtain ⟨D,hD⟩:∃ D,D=W2.drew:=⟨_,rfl⟩
    have HB:=Lib.hid (show Below W2.heap.size W2 D by rw [hD];exact (ext_refl W2).drew)
    go_wp2
    refine wp_region_L (fun Z=>Z.cell? ⟨w.heap.size,0,none⟩=some (.int .i64 kd)∧Z.cell? ⟨w.heap.size,1,none⟩=some (.int .i64 t)∧Z.cell? ⟨w.heap.size,2,none⟩=some (.int .i64 (j:Int))∧Z.cell? ⟨w.heap.size,3,none⟩=some (.int .i64 lo)∧Z.cell? ⟨w.heap.size,4,none⟩=some (.int .i64 hi)∧Z.cell? ⟨w.heap.size,5,none⟩=some (.int .i64 (b:Int))∧Z.cell? ⟨w.heap.size,6,none⟩=some (.int .i64 o)∧Z.cell? ⟨w.heap.size+1+1,0,none⟩=some (.int .i64 c0)∧Z.cell? ⟨w.heap.size+1+1,1,none⟩=some (.int .i64 c1)∧Z.cell? ⟨w.heap.size+1+1,2,none⟩=some (.bool had)∧Z.cell? ⟨w.heap.size+1+1,3,none⟩=some (.int .i64 o1)∧Z.cell? ⟨w.heap.size+1+1,4,none⟩=some (.int .i64 o2)∧Z.cell? ⟨w.heap.size+1+1,5,none⟩=some (.int .i64 o3)∧Z.cell? ⟨w.heap.size+1+1,6,none⟩=some (.bool has)∧Z.cell? ⟨w.heap.size+1+1,7,none⟩=some (.int .i64 n1)∧Z.cell? ⟨w.heap.size+1+1,8,none⟩=some (.int .i64 n2)∧Z.cell? ⟨w.heap.size+1+1,9,none⟩=some (.int .i64 n3)∧Z.cell? ⟨w.heap.size+1,0,none⟩=some (.slice Au l.length cu)∧Z.cell? ⟨w.heap.size+1,1,none⟩=some (.int .i64 val)∧Z.cell? ⟨w.heap.size+1,2,none⟩=some (.bool fd)) (fun _=>True) [] (by kernel_rfl) ?_
    rw [← hD]
    clear hD
    refine takeFd 1 (some 21) (v:=?_) rfl rfl (by kernel_rfl) (by kernel_rfl) (by kernel_rfl) (by kernel_rfl) (fun _ _ _ h=>h) (Or.inl ⟨by kernel_rfl,?_⟩) (HFX.out _ HB.out) (fun _=>trivial) ?_
    rotate_left 1
    · (rintro w' ⟨f0,f1,f2,f3,f4,f5,f6,f7,f8,f9,f10,f11,f12,f13,f14,f15,f16,f17,f18,f19⟩;go_simp;with_reducible rfl)
    refine takeFd 2 (some 22) (v:=?_) rfl rfl (by kernel_rfl) (by kernel_rfl) (by kernel_rfl) (by kernel_rfl) (fun _ _ _ h=>h) (Or.inl ⟨by kernel_rfl,?_⟩) (HFX.out _ HB.out) (fun _=>trivial) ?_
    rotate_left 1
    · (rintro w' ⟨f0,f1,f2,f3,f4,f5,f6,f7,f8,f9,f10,f11,f12,f13,f14,f15,f16,f17,f18,f19⟩;go_simp;with_reducible rfl)
    refine takeFd 5 (some 25) (v:=?_) rfl rfl (by kernel_rfl) (by kernel_rfl) (by kernel_rfl) (by kernel_rfl) (fun _ _ _ h=>h) (Or.inl ⟨by kernel_rfl,?_⟩) (HFX.out _ HB.out) (fun _=>trivial) ?_
    rotate_left 1
    · (rintro w' ⟨f0,f1,f2,f3,f4,f5,f6,f7,f8,f9,f10,f11,f12,f13,f14,f15,f16,f17,f18,f19⟩;go_simp;with_reducible rfl)
    refine takeFd 6 (some 26) (v:=?_) rfl rfl (by kernel_rfl) (by kernel_rfl) (by kernel_rfl) (by kernel_rfl) (fun _ _ _ h=>h) (Or.inl ⟨by kernel_rfl,?_⟩) (HFX.out _ HB.out) (fun _=>trivial) ?_
    rotate_left 1
    · (rintro w' ⟨f0,f1,f2,f3,f4,f5,f6,f7,f8,f9,f10,f11,f12,f13,f14,f15,f16,f17,f18,f19⟩;go_simp;with_reducible rfl)
    refine takeFd 8 (some 28) (v:=?_) rfl rfl (by kernel_rfl) (by kernel_rfl) (by kernel_rfl) (by kernel_rfl) (fun _ _ _ h=>h) (Or.inl ⟨by kernel_rfl,?_⟩) (HFX.out _ HB.out) (fun _=>trivial) ?_
    rotate_left 1
    · (rintro w' ⟨f0,f1,f2,f3,f4,f5,f6,f7,f8,f9,f10,f11,f12,f13,f14,f15,f16,f17,f18,f19⟩;go_simp;with_reducible rfl)
    refine allL [0,13] (by kernel_rfl) (by simp) ?_
    simp only [List.forall_mem_cons,List.not_mem_nil,false_implies,implies_true,and_true]
    refine ⟨?_,?_⟩
    · refine stepL rfl (by kernel_rfl) (fun K hK=>?_)
      go_simp
      go_at_call 192
      refine (kindsAny _).mono ?_
      rintro e V0 ⟨g,kv,rfl,hm,hk1,hk2,-,-,hbv⟩
      have HB:=Lib.hid (ext_call HB.out hbv)
      have HM:=Lib.hid hm
      have HKV:=Lib.hid (show getI kv kd=some (.agg #[.func (.func 211) #[] #[],.func (.func 212) #[] #[]]) by rcases HKD.out with h|h <;> rw [h] <;> assumption)
      clear hbv hm hk1 hk2
      refine hK _ _ ⟨(HFX.out _ HB.out),?_⟩
      clear hK K
      refine allL [3,7,13] (by kernel_rfl) (by simp) ?_
      simp only [List.forall_mem_cons,List.not_mem_nil,false_implies,implies_true,and_true]
      refine ⟨?_,?_,?_⟩
      · refine stepL rfl (by kernel_rfl) (fun K hK=>?_)
        have hlk:=lookup_I (P:=Tryz.prog) Tryz.underlying293 Tryz.underlying3 HM.out kd (kindZero _)
        rw [HKV.out] at hlk
        simp only [Option.getD_some] at hlk
        go_simp
        clear hlk
        refine hK _ _ ⟨(HFX.out _ HB.out),?_⟩
        clear hK K
        refine takeFd 4 (some 24) (v:=?_) rfl rfl (by kernel_rfl) (by kernel_rfl) (by kernel_rfl) (by kernel_rfl) (fun _ _ _ h=>h) (Or.inl ⟨by kernel_rfl,?_⟩) (HFX.out _ HB.out) (fun _=>trivial) ?_
        rotate_left 1
        · (rintro w' ⟨f0,f1,f2,f3,f4,f5,f6,f7,f8,f9,f10,f11,f12,f13,f14,f15,f16,f17,f18,f19⟩;go_simp;with_reducible rfl)
        refine allL [7,13] (by kernel_rfl) (by simp) ?_
        simp only [List.forall_mem_cons,List.not_mem_nil,false_implies,implies_true,and_true]
        refine ⟨?_,?_⟩
        · refine stepL rfl (by kernel_rfl) (fun K hK=>?_)
          go_simp
          go_at_call 193
          refine (HEF.out _).mono ?_
          rintro e V7 ⟨pb,pa,rfl,hpb,hpa,hbv⟩
          obtain ⟨pbp,rfl,hsb⟩:=hpb.shape
          obtain ⟨pap,rfl,hsa⟩:=hpa.shape
          have HB:=Lib.hid (ext_call HB.out hbv)
          have HM:=Lib.hid (HM.out.ext hbv)
          have HPA:=Lib.hid (hpa.mono (Nat.zero_le _))
          have HPR:=Lib.hid (fun h1 h2 u W h3 h4=>HPR.out pbp pap mb ma sa h1 h2 u W h3 h4)
          obtain ⟨E7,hE7⟩:∃ E7,E7=E (.pointer pbp) (.pointer pap) mb ma:=⟨_,rfl⟩
          rw [← hE7] at HPR ⊢
          clear hbv hpb hpa hsb hsa hE7
          refine hK _ _ ⟨(HFX.out _ HB.out),?_⟩
          clear hK K
          refine allL [9,13] (by kernel_rfl) (by simp) ?_
          simp only [List.forall_mem_cons,List.not_mem_nil,false_implies,implies_true,and_true]
          refine ⟨?_,?_⟩
          · refine stepL rfl (by kernel_rfl) (fun K hK=>?_)
            go_simp
            go_at_call 212
            refine (HPR.out (HK.out (by first|rfl|trivial)).1 (HK.out (by first|rfl|trivial)).2 _ _ (HL2.out.ext HB.out) HPA.out).mono ?_
            rintro e V9 ⟨u9,rfl,hu9,hbv⟩
            obtain ⟨A9,c9,rfl,-⟩:=id hu9
            have HB:=Lib.hid (ext_call HB.out hbv)
            have HM:=Lib.hid (HM.out.ext hbv)
            have HPA:=Lib.hid (HPA.out.ext hbv)
            have HRW:=Lib.hid hu9
            clear hbv hu9
            refine hK _ _ ⟨(HFX.out _ HB.out),?_⟩
            clear hK K
            refine takeFd 10 (some 19) (v:=?_) rfl rfl (by kernel_rfl) (by kernel_rfl) (by kernel_rfl) (by kernel_rfl) (fun _ _ _ h=>h) (Or.inl ⟨by kernel_rfl,?_⟩) (HFX.out _ HB.out) (fun _=>trivial) ?_
            rotate_left 1
            · (rintro w' ⟨f0,f1,f2,f3,f4,f5,f6,f7,f8,f9,f10,f11,f12,f13,f14,f15,f16,f17,f18,f19⟩;go_simp;with_reducible rfl)
            refine takeFd 11 (some 30) (v:=?_) rfl rfl (by kernel_rfl) (by kernel_rfl) (by kernel_rfl) (by kernel_rfl) (fun _ _ _ h=>h) (Or.inl ⟨by kernel_rfl,?_⟩) (HFX.out _ HB.out) (fun _=>trivial) ?_
            rotate_left 1
            · (rintro w' ⟨f0,f1,f2,f3,f4,f5,f6,f7,f8,f9,f10,f11,f12,f13,f14,f15,f16,f17,f18,f19⟩;go_simp;with_reducible rfl)
            refine takeFd 12 (some 31) (v:=?_) rfl rfl (by kernel_rfl) (by kernel_rfl) (by kernel_rfl) (by kernel_rfl) (fun _ _ _ h=>h) (Or.inl ⟨by kernel_rfl,?_⟩) (HFX.out _ HB.out) (fun _=>trivial) ?_
            rotate_left 1
            · (rintro w' ⟨f0,f1,f2,f3,f4,f5,f6,f7,f8,f9,f10,f11,f12,f13,f14,f15,f16,f17,f18,f19⟩;go_simp;with_reducible rfl)
            refine allL [13] (by kernel_rfl) (by simp) ?_
            simp only [List.forall_mem_cons,List.not_mem_nil,false_implies,implies_true,and_true]
            refine stepL rfl (by kernel_rfl) (fun K hK=>?_)
            have HBO:=Lib.hid HB.out.size
            obtain ⟨V13,hV13⟩:∃ V13,V13=World.alloc V9 (.cells #[.slice none 0 0,.int .i64 0,.bool false] 36):=⟨_,rfl⟩
            have hbv:Below (World.heap V9).size V9 V13:=by rw [hV13];exact ext_new _ _
            have HB:=Lib.hid (ext_call HB.out hbv)
            have HM:=Lib.hid (HM.out.ext hbv)
            have HPA:=Lib.hid (HPA.out.ext hbv)
            have HRW:=Lib.hid (HRW.out.ext hbv)
            have HBX:=Lib.hid (show Blk V13 (World.heap V9).size 36 #[.slice none 0 0,.int .i64 0,.bool false] by rw [hV13];exact Blk.new _ _ _)
            go_simp
            rw [← hV13]
            obtain ⟨gb,hgb⟩:∃ gb,gb=(World.heap V9).size:=⟨_,rfl⟩
            have HGB:=Lib.hid (show W2.heap.size≤gb by rw [hgb];exact HBO.out)
            rw [← hgb] at HBX ⊢
            clear hgb hV13 hbv
            refine hK _ _ ⟨(HFX.out _ HB.out),?_⟩
            clear hK K
            refine allL [14] (by kernel_rfl) (by simp) ?_
            simp only [List.forall_mem_cons,List.not_mem_nil,false_implies,implies_true,and_true]
            refine stepL rfl (by kernel_rfl) (fun K hK=>?_)
            have x0:=HBX.out.cell 0;have x1:=HBX.out.cell 1;have x2:=HBX.out.cell 2
            have xf0:=HBX.out.frozen 0
            have xf1:=HBX.out.frozen 1
            have xf2:=HBX.out.frozen 2
            obtain ⟨V14,hV14⟩:∃ V14,V14=World.setCell (World.setCell (World.setCell V13 ⟨gb,0,none⟩ (.slice A9 sa.toList.length c9)) ⟨gb,1,none⟩ (.int .i64 val)) ⟨gb,2,none⟩ (.bool fd):=⟨_,rfl⟩
            have HRW:=Lib.hid (show RowsL V14 (.slice A9 sa.toList.length c9) sa.toList by rw [hV14];exact ((HRW.out.off (b:=gb) (i:=0) (u:=.slice A9 sa.toList.length c9) x0).off (b:=gb) (i:=1) (u:=.int .i64 val) ((HBX.out.set_ 0 (.slice A9 sa.toList.length c9)).cell 0)).off (b:=gb) (i:=2) (u:=.bool fd) (((HBX.out.set_ 0 (.slice A9 sa.toList.length c9)).set_ 1 (.int .i64 val)).cell 0))
            have HBX:=Lib.hid (show Blk V14 gb 36 #[.slice A9 sa.toList.length c9,.int .i64 val,.bool fd] by rw [hV14];exact ((HBX.out.set_ 0 _).set_ 1 _).set_ 2 _)
            have HB:=Lib.hid (show Below W2.heap.size W2 V14 by rw [hV14];exact ext_set (ext_set (ext_set HB.out HGB.out _) HGB.out _) HGB.out _)
            go_simp
            rw [← hV14]
            clear hV14 x0 x1 x2 xf0 xf1 xf2
            refine hK _ _ ⟨(HFX.out _ HB.out),?_⟩
            clear hK K
            refine takeFd 15 (some 9) (v:=?_) rfl rfl (by kernel_rfl) (by kernel_rfl) (by kernel_rfl) (by kernel_rfl) (fun _ _ _ h=>h) (Or.inl ⟨by kernel_rfl,?_⟩) (HFX.out _ HB.out) (fun _=>trivial) ?_
            rotate_left 1
            · (rintro w' ⟨f0,f1,f2,f3,f4,f5,f6,f7,f8,f9,f10,f11,f12,f13,f14,f15,f16,f17,f18,f19⟩;go_simp;with_reducible rfl)
            refine doneL (by kernel_rfl) ?_ _
            have HO9:=Lib.hid (HO2.out.ext HB.out)
            have HE9:=Lib.hid (ext_call HE2.out HB.out)
            have x0:=HBX.out.cell 0;have x1:=HBX.out.cell 1;have x2:=HBX.out.cell 2
            have o0:=HO9.out.cell 0;have o1:=HO9.out.cell 1;have o2:=HO9.out.cell 2
            have g0:=HO9.out.frozen 0
            have g1:=HO9.out.frozen 1
            have g2:=HO9.out.frozen 2
            go_wp2
            have hBf:=((HO9.out.set_ 0 (.slice A9 sa.toList.length c9)).set_ 1 (.int .i64 val)).set_ 2 (.bool fd)
            have y0:=hBf.cell 0;have y1:=hBf.cell 1;have y2:=hBf.cell 2
            refine bodyPost_ret (v:=.tuple #[.agg #[.slice A9 sa.toList.length c9,.int .i64 val,.bool fd],.bool true]) (by simp [results,Tryz.results154,go_sem,y0,y1,y2]) rfl ⟨_,rfl,?_,ext_set (ext_set (ext_set HE9.out (by simp;omega) _) (by simp;omega) _) (by simp;omega) _⟩
            rw [HOU.out]
            have h1:=HRW.out.off (b:=w.heap.size+1+1+1) (i:=0) (u:=.slice A9 sa.toList.length c9) o0
            have h2:=h1.off (b:=w.heap.size+1+1+1) (i:=1) (u:=.int .i64 val) ((HO9.out.set_ 0 (.slice A9 sa.toList.length c9)).cell 0)
            exact h2.off (b:=w.heap.size+1+1+1) (i:=2) (u:=.bool fd) (((HO9.out.set_ 0 (.slice A9 sa.toList.length c9)).set_ 1 (.int .i64 val)).cell 0)
          · refine stepL rfl (by kernel_rfl) (fun K hK=>?_)
            have HBO:=Lib.hid HB.out.size
            obtain ⟨V13,hV13⟩:∃ V13,V13=World.alloc V7 (.cells #[.slice none 0 0,.int .i64 0,.bool false] 36):=⟨_,rfl⟩
            have hbv:Below (World.heap V7).size V7 V13:=by rw [hV13];exact ext_new _ _
            have HB:=Lib.hid (ext_call HB.out hbv)
            have HM:=Lib.hid (HM.out.ext hbv)
            have HPA:=Lib.hid (HPA.out.ext hbv)
            have HBX:=Lib.hid (show Blk V13 (World.heap V7).size 36 #[.slice none 0 0,.int .i64 0,.bool false] by rw [hV13];exact Blk.new _ _ _)
            go_simp
            rw [← hV13]
            obtain ⟨gb,hgb⟩:∃ gb,gb=(World.heap V7).size:=⟨_,rfl⟩
            have HGB:=Lib.hid (show W2.heap.size≤gb by rw [hgb];exact HBO.out)
            rw [← hgb] at HBX ⊢
            clear hgb hV13 hbv
            refine hK _ _ ⟨(HFX.out _ HB.out),?_⟩
            clear hK K
            refine allL [9] (by kernel_rfl) (by simp) ?_
            simp only [List.forall_mem_cons,List.not_mem_nil,false_implies,implies_true,and_true]
            refine stepL rfl (by kernel_rfl) (fun K hK=>?_)
            go_simp
            go_at_call 212
            refine (HPR.out (HK.out (by first|rfl|trivial)).1 (HK.out (by first|rfl|trivial)).2 _ _ (HL2.out.ext HB.out) HPA.out).mono ?_
            rintro e V9 ⟨u9,rfl,hu9,hbv⟩
            obtain ⟨A9,c9,rfl,-⟩:=id hu9
            have HB:=Lib.hid (ext_call HB.out hbv)
            have HM:=Lib.hid (HM.out.ext hbv)
            have HPA:=Lib.hid (HPA.out.ext hbv)
            have HBX:=Lib.hid (HBX.out.ext hbv)
            have HRW:=Lib.hid hu9
            clear hbv hu9
            refine hK _ _ ⟨(HFX.out _ HB.out),?_⟩
            clear hK K
            refine takeFd 10 (some 19) (v:=?_) rfl rfl (by kernel_rfl) (by kernel_rfl) (by kernel_rfl) (by kernel_rfl) (fun _ _ _ h=>h) (Or.inl ⟨by kernel_rfl,?_⟩) (HFX.out _ HB.out) (fun _=>trivial) ?_
            rotate_left 1
            · (rintro w' ⟨f0,f1,f2,f3,f4,f5,f6,f7,f8,f9,f10,f11,f12,f13,f14,f15,f16,f17,f18,f19⟩;go_simp;with_reducible rfl)
            refine takeFd 11 (some 30) (v:=?_) rfl rfl (by kernel_rfl) (by kernel_rfl) (by kernel_rfl) (by kernel_rfl) (fun _ _ _ h=>h) (Or.inl ⟨by kernel_rfl,?_⟩) (HFX.out _ HB.out) (fun _=>trivial) ?_
            rotate_left 1
            · (rintro w' ⟨f0,f1,f2,f3,f4,f5,f6,f7,f8,f9,f10,f11,f12,f13,f14,f15,f16,f17,f18,f19⟩;go_simp;with_reducible rfl)
            refine takeFd 12 (some 31) (v:=?_) rfl rfl (by kernel_rfl) (by kernel_rfl) (by kernel_rfl) (by kernel_rfl) (fun _ _ _ h=>h) (Or.inl ⟨by kernel_rfl,?_⟩) (HFX.out _ HB.out) (fun _=>trivial) ?_
            rotate_left 1
            · (rintro w' ⟨f0,f1,f2,f3,f4,f5,f6,f7,f8,f9,f10,f11,f12,f13,f14,f15,f16,f17,f18,f19⟩;go_simp;with_reducible rfl)
            refine allL [14] (by kernel_rfl) (by simp) ?_
            simp only [List.forall_mem_cons,List.not_mem_nil,false_implies,implies_true,and_true]
            refine stepL rfl (by kernel_rfl) (fun K hK=>?_)
            have x0:=HBX.out.cell 0;have x1:=HBX.out.cell 1;have x2:=HBX.out.cell 2
            have xf0:=HBX.out.frozen 0
            have xf1:=HBX.out.frozen 1
            have xf2:=HBX.out.frozen 2
            obtain ⟨V14,hV14⟩:∃ V14,V14=World.setCell (World.setCell (World.setCell V9 ⟨gb,0,none⟩ (.slice A9 sa.toList.length c9)) ⟨gb,1,none⟩ (.int .i64 val)) ⟨gb,2,none⟩ (.bool fd):=⟨_,rfl⟩
            have HRW:=Lib.hid (show RowsL V14 (.slice A9 sa.toList.length c9) sa.toList by rw [hV14];exact ((HRW.out.off (b:=gb) (i:=0) (u:=.slice A9 sa.toList.length c9) x0).off (b:=gb) (i:=1) (u:=.int .i64 val) ((HBX.out.set_ 0 (.slice A9 sa.toList.length c9)).cell 0)).off (b:=gb) (i:=2) (u:=.bool fd) (((HBX.out.set_ 0 (.slice A9 sa.toList.length c9)).set_ 1 (.int .i64 val)).cell 0))
            have HBX:=Lib.hid (show Blk V14 gb 36 #[.slice A9 sa.toList.length c9,.int .i64 val,.bool fd] by rw [hV14];exact ((HBX.out.set_ 0 _).set_ 1 _).set_ 2 _)
            have HB:=Lib.hid (show Below W2.heap.size W2 V14 by rw [hV14];exact ext_set (ext_set (ext_set HB.out HGB.out _) HGB.out _) HGB.out _)
            go_simp
            rw [← hV14]
            clear hV14 x0 x1 x2 xf0 xf1 xf2
            refine hK _ _ ⟨(HFX.out _ HB.out),?_⟩
            clear hK K
            refine takeFd 15 (some 9) (v:=?_) rfl rfl (by kernel_rfl) (by kernel_rfl) (by kernel_rfl) (by kernel_rfl) (fun _ _ _ h=>h) (Or.inl ⟨by kernel_rfl,?_⟩) (HFX.out _ HB.out) (fun _=>trivial) ?_
            rotate_left 1
            · (rintro w' ⟨f0,f1,f2,f3,f4,f5,f6,f7,f8,f9,f10,f11,f12,f13,f14,f15,f16,f17,f18,f19⟩;go_simp;with_reducible rfl)
            refine doneL (by kernel_rfl) ?_ _
            have HO9:=Lib.hid (HO2.out.ext HB.out)
            have HE9:=Lib.hid (ext_call HE2.out HB.out)
            have x0:=HBX.out.cell 0;have x1:=HBX.out.cell 1;have x2:=HBX.out.cell 2
            have o0:=HO9.out.cell 0;have o1:=HO9.out.cell 1;have o2:=HO9.out.cell 2
            have g0:=HO9.out.frozen 0
            have g1:=HO9.out.frozen 1
            have g2:=HO9.out.frozen 2
            go_wp2
            have hBf:=((HO9.out.set_ 0 (.slice A9 sa.toList.length c9)).set_ 1 (.int .i64 val)).set_ 2 (.bool fd)
            have y0:=hBf.cell 0;have y1:=hBf.cell 1;have y2:=hBf.cell 2
            refine bodyPost_ret (v:=.tuple #[.agg #[.slice A9 sa.toList.length c9,.int .i64 val,.bool fd],.bool true]) (by simp [results,Tryz.results154,go_sem,y0,y1,y2]) rfl ⟨_,rfl,?_,ext_set (ext_set (ext_set HE9.out (by simp;omega) _) (by simp;omega) _) (by simp;omega) _⟩
            rw [HOU.out]
            have h1:=HRW.out.off (b:=w.heap.size+1+1+1) (i:=0) (u:=.slice A9 sa.toList.length c9) o0
            have h2:=h1.off (b:=w.heap.size+1+1+1) (i:=1) (u:=.int .i64 val) ((HO9.out.set_ 0 (.slice A9 sa.toList.length c9)).cell 0)
            exact h2.off (b:=w.heap.size+1+1+1) (i:=2) (u:=.bool fd) (((HO9.out.set_ 0 (.slice A9 sa.toList.length c9)).set_ 1 (.int .i64 val)).cell 0)
        · refine stepL rfl (by kernel_rfl) (fun K hK=>?_)
          have HBO:=Lib.hid HB.out.size
          obtain ⟨V13,hV13⟩:∃ V13,V13=World.alloc V0 (.cells #[.slice none 0 0,.int .i64 0,.bool false] 36):=⟨_,rfl⟩
          have hbv:Below (World.heap V0).size V0 V13:=by rw [hV13];exact ext_new _ _
          have HB:=Lib.hid (ext_call HB.out hbv)
          have HM:=Lib.hid (HM.out.ext hbv)
          have HBX:=Lib.hid (show Blk V13 (World.heap V0).size 36 #[.slice none 0 0,.int .i64 0,.bool false] by rw [hV13];exact Blk.new _ _ _)
          go_simp
          rw [← hV13]
          obtain ⟨gb,hgb⟩:∃ gb,gb=(World.heap V0).size:=⟨_,rfl⟩
          have HGB:=Lib.hid (show W2.heap.size≤gb by rw [hgb];exact HBO.out)
          rw [← hgb] at HBX ⊢
          clear hgb hV13 hbv
          refine hK _ _ ⟨(HFX.out _ HB.out),?_⟩
          clear hK K
          refine allL [7] (by kernel_rfl) (by simp) ?_
          simp only [List.forall_mem_cons,List.not_mem_nil,false_implies,implies_true,and_true]
          refine stepL rfl (by kernel_rfl) (fun K hK=>?_)
          go_simp
          go_at_call 193
          refine (HEF.out _).mono ?_
          rintro e V7 ⟨pb,pa,rfl,hpb,hpa,hbv⟩
          obtain ⟨pbp,rfl,hsb⟩:=hpb.shape
          obtain ⟨pap,rfl,hsa⟩:=hpa.shape
          have HB:=Lib.hid (ext_call HB.out hbv)
          have HM:=Lib.hid (HM.out.ext hbv)
          have HBX:=Lib.hid (HBX.out.ext hbv)
          have HPA:=Lib.hid (hpa.mono (Nat.zero_le _))
          have HPR:=Lib.hid (fun h1 h2 u W h3 h4=>HPR.out pbp pap mb ma sa h1 h2 u W h3 h4)
          obtain ⟨E7,hE7⟩:∃ E7,E7=E (.pointer pbp) (.pointer pap) mb ma:=⟨_,rfl⟩
          rw [← hE7] at HPR ⊢
          clear hbv hpb hpa hsb hsa hE7
          refine hK _ _ ⟨(HFX.out _ HB.out),?_⟩
          clear hK K
          refine allL [9] (by kernel_rfl) (by simp) ?_
          simp only [List.forall_mem_cons,List.not_mem_nil,false_implies,implies_true,and_true]
          refine stepL rfl (by kernel_rfl) (fun K hK=>?_)
          go_simp
          go_at_call 212
          refine (HPR.out (HK.out (by first|rfl|trivial)).1 (HK.out (by first|rfl|trivial)).2 _ _ (HL2.out.ext HB.out) HPA.out).mono ?_
          rintro e V9 ⟨u9,rfl,hu9,hbv⟩
          obtain ⟨A9,c9,rfl,-⟩:=id hu9
          have HB:=Lib.hid (ext_call HB.out hbv)
          have HM:=Lib.hid (HM.out.ext hbv)
          have HPA:=Lib.hid (HPA.out.ext hbv)
          have HBX:=Lib.hid (HBX.out.ext hbv)
          have HRW:=Lib.hid hu9
          clear hbv hu9
          refine hK _ _ ⟨(HFX.out _ HB.out),?_⟩
          clear hK K
          refine takeFd 10 (some 19) (v:=?_) rfl rfl (by kernel_rfl) (by kernel_rfl) (by kernel_rfl) (by kernel_rfl) (fun _ _ _ h=>h) (Or.inl ⟨by kernel_rfl,?_⟩) (HFX.out _ HB.out) (fun _=>trivial) ?_
          rotate_left 1
          · (rintro w' ⟨f0,f1,f2,f3,f4,f5,f6,f7,f8,f9,f10,f11,f12,f13,f14,f15,f16,f17,f18,f19⟩;go_simp;with_reducible rfl)
          refine takeFd 11 (some 30) (v:=?_) rfl rfl (by kernel_rfl) (by kernel_rfl) (by kernel_rfl) (by kernel_rfl) (fun _ _ _ h=>h) (Or.inl ⟨by kernel_rfl,?_⟩) (HFX.out _ HB.out) (fun _=>trivial) ?_
          rotate_left 1
          · (rintro w' ⟨f0,f1,f2,f3,f4,f5,f6,f7,f8,f9,f10,f11,f12,f13,f14,f15,f16,f17,f18,f19⟩;go_simp;with_reducible rfl)
          refine takeFd 12 (some 31) (v:=?_) rfl rfl (by kernel_rfl) (by kernel_rfl) (by kernel_rfl) (by kernel_rfl) (fun _ _ _ h=>h) (Or.inl ⟨by kernel_rfl,?_⟩) (HFX.out _ HB.out) (fun _=>trivial) ?_
          rotate_left 1
          · (rintro w' ⟨f0,f1,f2,f3,f4,f5,f6,f7,f8,f9,f10,f11,f12,f13,f14,f15,f16,f17,f18,f19⟩;go_simp;with_reducible rfl)
          refine allL [14] (by kernel_rfl) (by simp) ?_
          simp only [List.forall_mem_cons,List.not_mem_nil,false_implies,implies_true,and_true]
          refine stepL rfl (by kernel_rfl) (fun K hK=>?_)
          have x0:=HBX.out.cell 0;have x1:=HBX.out.cell 1;have x2:=HBX.out.cell 2
          have xf0:=HBX.out.frozen 0
          have xf1:=HBX.out.frozen 1
          have xf2:=HBX.out.frozen 2
          obtain ⟨V14,hV14⟩:∃ V14,V14=World.setCell (World.setCell (World.setCell V9 ⟨gb,0,none⟩ (.slice A9 sa.toList.length c9)) ⟨gb,1,none⟩ (.int .i64 val)) ⟨gb,2,none⟩ (.bool fd):=⟨_,rfl⟩
          have HRW:=Lib.hid (show RowsL V14 (.slice A9 sa.toList.length c9) sa.toList by rw [hV14];exact ((HRW.out.off (b:=gb) (i:=0) (u:=.slice A9 sa.toList.length c9) x0).off (b:=gb) (i:=1) (u:=.int .i64 val) ((HBX.out.set_ 0 (.slice A9 sa.toList.length c9)).cell 0)).off (b:=gb) (i:=2) (u:=.bool fd) (((HBX.out.set_ 0 (.slice A9 sa.toList.length c9)).set_ 1 (.int .i64 val)).cell 0))
          have HBX:=Lib.hid (show Blk V14 gb 36 #[.slice A9 sa.toList.length c9,.int .i64 val,.bool fd] by rw [hV14];exact ((HBX.out.set_ 0 _).set_ 1 _).set_ 2 _)
          have HB:=Lib.hid (show Below W2.heap.size W2 V14 by rw [hV14];exact ext_set (ext_set (ext_set HB.out HGB.out _) HGB.out _) HGB.out _)
          go_simp
          rw [← hV14]
          clear hV14 x0 x1 x2 xf0 xf1 xf2
          refine hK _ _ ⟨(HFX.out _ HB.out),?_⟩
          clear hK K
          refine takeFd 15 (some 9) (v:=?_) rfl rfl (by kernel_rfl) (by kernel_rfl) (by kernel_rfl) (by kernel_rfl) (fun _ _ _ h=>h) (Or.inl ⟨by kernel_rfl,?_⟩) (HFX.out _ HB.out) (fun _=>trivial) ?_
          rotate_left 1
          · (rintro w' ⟨f0,f1,f2,f3,f4,f5,f6,f7,f8,f9,f10,f11,f12,f13,f14,f15,f16,f17,f18,f19⟩;go_simp;with_reducible rfl)
          refine doneL (by kernel_rfl) ?_ _
          have HO9:=Lib.hid (HO2.out.ext HB.out)
          have HE9:=Lib.hid (ext_call HE2.out HB.out)
          have x0:=HBX.out.cell 0;have x1:=HBX.out.cell 1;have x2:=HBX.out.cell 2
          have o0:=HO9.out.cell 0;have o1:=HO9.out.cell 1;have o2:=HO9.out.cell 2
          have g0:=HO9.out.frozen 0
          have g1:=HO9.out.frozen 1
          have g2:=HO9.out.frozen 2
          go_wp2
          have hBf:=((HO9.out.set_ 0 (.slice A9 sa.toList.length c9)).set_ 1 (.int .i64 val)).set_ 2 (.bool fd)
          have y0:=hBf.cell 0;have y1:=hBf.cell 1;have y2:=hBf.cell 2
          refine bodyPost_ret (v:=.tuple #[.agg #[.slice A9 sa.toList.length c9,.int .i64 val,.bool fd],.bool true]) (by simp [results,Tryz.results154,go_sem,y0,y1,y2]) rfl ⟨_,rfl,?_,ext_set (ext_set (ext_set HE9.out (by simp;omega) _) (by simp;omega) _) (by simp;omega) _⟩
          rw [HOU.out]
          have h1:=HRW.out.off (b:=w.heap.size+1+1+1) (i:=0) (u:=.slice A9 sa.toList.length c9) o0
          have h2:=h1.off (b:=w.heap.size+1+1+1) (i:=1) (u:=.int .i64 val) ((HO9.out.set_ 0 (.slice A9 sa.toList.length c9)).cell 0)
          exact h2.off (b:=w.heap.size+1+1+1) (i:=2) (u:=.bool fd) (((HO9.out.set_ 0 (.slice A9 sa.toList.length c9)).set_ 1 (.int .i64 val)).cell 0)
      · refine stepL rfl (by kernel_rfl) (fun K hK=>?_)
        go_simp
        go_at_call 193
        refine (HEF.out _).mono ?_
        rintro e V7 ⟨pb,pa,rfl,hpb,hpa,hbv⟩
        obtain ⟨pbp,rfl,hsb⟩:=hpb.shape
        obtain ⟨pap,rfl,hsa⟩:=hpa.shape
        have HB:=Lib.hid (ext_call HB.out hbv)
        have HM:=Lib.hid (HM.out.ext hbv)
        have HPA:=Lib.hid (hpa.mono (Nat.zero_le _))
        have HPR:=Lib.hid (fun h1 h2 u W h3 h4=>HPR.out pbp pap mb ma sa h1 h2 u W h3 h4)
        obtain ⟨E7,hE7⟩:∃ E7,E7=E (.pointer pbp) (.pointer pap) mb ma:=⟨_,rfl⟩
        rw [← hE7] at HPR ⊢
        clear hbv hpb hpa hsb hsa hE7
        refine hK _ _ ⟨(HFX.out _ HB.out),?_⟩
        clear hK K
        refine allL [3,13] (by kernel_rfl) (by simp) ?_
        simp only [List.forall_mem_cons,List.not_mem_nil,false_implies,implies_true,and_true]
        refine ⟨?_,?_⟩
        · refine stepL rfl (by kernel_rfl) (fun K hK=>?_)
          have hlk:=lookup_I (P:=Tryz.prog) Tryz.underlying293 Tryz.underlying3 HM.out kd (kindZero _)
          rw [HKV.out] at hlk
          simp only [Option.getD_some] at hlk
          go_simp
          clear hlk
          refine hK _ _ ⟨(HFX.out _ HB.out),?_⟩
          clear hK K
          refine takeFd 4 (some 24) (v:=?_) rfl rfl (by kernel_rfl) (by kernel_rfl) (by kernel_rfl) (by kernel_rfl) (fun _ _ _ h=>h) (Or.inl ⟨by kernel_rfl,?_⟩) (HFX.out _ HB.out) (fun _=>trivial) ?_
          rotate_left 1
          · (rintro w' ⟨f0,f1,f2,f3,f4,f5,f6,f7,f8,f9,f10,f11,f12,f13,f14,f15,f16,f17,f18,f19⟩;go_simp;with_reducible rfl)
          refine allL [9,13] (by kernel_rfl) (by simp) ?_
          simp only [List.forall_mem_cons,List.not_mem_nil,false_implies,implies_true,and_true]
          refine ⟨?_,?_⟩
          · refine stepL rfl (by kernel_rfl) (fun K hK=>?_)
            go_simp
            go_at_call 212
            refine (HPR.out (HK.out (by first|rfl|trivial)).1 (HK.out (by first|rfl|trivial)).2 _ _ (HL2.out.ext HB.out) HPA.out).mono ?_
            rintro e V9 ⟨u9,rfl,hu9,hbv⟩
            obtain ⟨A9,c9,rfl,-⟩:=id hu9
            have HB:=Lib.hid (ext_call HB.out hbv)
            have HM:=Lib.hid (HM.out.ext hbv)
            have HPA:=Lib.hid (HPA.out.ext hbv)
            have HRW:=Lib.hid hu9
            clear hbv hu9
            refine hK _ _ ⟨(HFX.out _ HB.out),?_⟩
            clear hK K
            refine takeFd 10 (some 19) (v:=?_) rfl rfl (by kernel_rfl) (by kernel_rfl) (by kernel_rfl) (by kernel_rfl) (fun _ _ _ h=>h) (Or.inl ⟨by kernel_rfl,?_⟩) (HFX.out _ HB.out) (fun _=>trivial) ?_
            rotate_left 1
            · (rintro w' ⟨f0,f1,f2,f3,f4,f5,f6,f7,f8,f9,f10,f11,f12,f13,f14,f15,f16,f17,f18,f19⟩;go_simp;with_reducible rfl)
            refine takeFd 11 (some 30) (v:=?_) rfl rfl (by kernel_rfl) (by kernel_rfl) (by kernel_rfl) (by kernel_rfl) (fun _ _ _ h=>h) (Or.inl ⟨by kernel_rfl,?_⟩) (HFX.out _ HB.out) (fun _=>trivial) ?_
            rotate_left 1
            · (rintro w' ⟨f0,f1,f2,f3,f4,f5,f6,f7,f8,f9,f10,f11,f12,f13,f14,f15,f16,f17,f18,f19⟩;go_simp;with_reducible rfl)
            refine takeFd 12 (some 31) (v:=?_) rfl rfl (by kernel_rfl) (by kernel_rfl) (by kernel_rfl) (by kernel_rfl) (fun _ _ _ h=>h) (Or.inl ⟨by kernel_rfl,?_⟩) (HFX.out _ HB.out) (fun _=>trivial) ?_
            rotate_left 1
            · (rintro w' ⟨f0,f1,f2,f3,f4,f5,f6,f7,f8,f9,f10,f11,f12,f13,f14,f15,f16,f17,f18,f19⟩;go_simp;with_reducible rfl)
            refine allL [13] (by kernel_rfl) (by simp) ?_
            simp only [List.forall_mem_cons,List.not_mem_nil,false_implies,implies_true,and_true]
            refine stepL rfl (by kernel_rfl) (fun K hK=>?_)
            have HBO:=Lib.hid HB.out.size
            obtain ⟨V13,hV13⟩:∃ V13,V13=World.alloc V9 (.cells #[.slice none 0 0,.int .i64 0,.bool false] 36):=⟨_,rfl⟩
            have hbv:Below (World.heap V9).size V9 V13:=by rw [hV13];exact ext_new _ _
            have HB:=Lib.hid (ext_call HB.out hbv)
            have HM:=Lib.hid (HM.out.ext hbv)
            have HPA:=Lib.hid (HPA.out.ext hbv)
            have HRW:=Lib.hid (HRW.out.ext hbv)
            have HBX:=Lib.hid (show Blk V13 (World.heap V9).size 36 #[.slice none 0 0,.int .i64 0,.bool false] by rw [hV13];exact Blk.new _ _ _)
            go_simp
            rw [← hV13]
            obtain ⟨gb,hgb⟩:∃ gb,gb=(World.heap V9).size:=⟨_,rfl⟩
            have HGB:=Lib.hid (show W2.heap.size≤gb by rw [hgb];exact HBO.out)
            rw [← hgb] at HBX ⊢
            clear hgb hV13 hbv
            refine hK _ _ ⟨(HFX.out _ HB.out),?_⟩
            clear hK K
            refine allL [14] (by kernel_rfl) (by simp) ?_
            simp only [List.forall_mem_cons,List.not_mem_nil,false_implies,implies_true,and_true]
            refine stepL rfl (by kernel_rfl) (fun K hK=>?_)
            have x0:=HBX.out.cell 0;have x1:=HBX.out.cell 1;have x2:=HBX.out.cell 2
            have xf0:=HBX.out.frozen 0
            have xf1:=HBX.out.frozen 1
            have xf2:=HBX.out.frozen 2
            obtain ⟨V14,hV14⟩:∃ V14,V14=World.setCell (World.setCell (World.setCell V13 ⟨gb,0,none⟩ (.slice A9 sa.toList.length c9)) ⟨gb,1,none⟩ (.int .i64 val)) ⟨gb,2,none⟩ (.bool fd):=⟨_,rfl⟩
            have HRW:=Lib.hid (show RowsL V14 (.slice A9 sa.toList.length c9) sa.toList by rw [hV14];exact ((HRW.out.off (b:=gb) (i:=0) (u:=.slice A9 sa.toList.length c9) x0).off (b:=gb) (i:=1) (u:=.int .i64 val) ((HBX.out.set_ 0 (.slice A9 sa.toList.length c9)).cell 0)).off (b:=gb) (i:=2) (u:=.bool fd) (((HBX.out.set_ 0 (.slice A9 sa.toList.length c9)).set_ 1 (.int .i64 val)).cell 0))
            have HBX:=Lib.hid (show Blk V14 gb 36 #[.slice A9 sa.toList.length c9,.int .i64 val,.bool fd] by rw [hV14];exact ((HBX.out.set_ 0 _).set_ 1 _).set_ 2 _)
            have HB:=Lib.hid (show Below W2.heap.size W2 V14 by rw [hV14];exact ext_set (ext_set (ext_set HB.out HGB.out _) HGB.out _) HGB.out _)
            go_simp
            rw [← hV14]
            clear hV14 x0 x1 x2 xf0 xf1 xf2
            refine hK _ _ ⟨(HFX.out _ HB.out),?_⟩
            clear hK K
            refine takeFd 15 (some 9) (v:=?_) rfl rfl (by kernel_rfl) (by kernel_rfl) (by kernel_rfl) (by kernel_rfl) (fun _ _ _ h=>h) (Or.inl ⟨by kernel_rfl,?_⟩) (HFX.out _ HB.out) (fun _=>trivial) ?_
            rotate_left 1
            · (rintro w' ⟨f0,f1,f2,f3,f4,f5,f6,f7,f8,f9,f10,f11,f12,f13,f14,f15,f16,f17,f18,f19⟩;go_simp;with_reducible rfl)
            refine doneL (by kernel_rfl) ?_ _
            have HO9:=Lib.hid (HO2.out.ext HB.out)
            have HE9:=Lib.hid (ext_call HE2.out HB.out)
            have x0:=HBX.out.cell 0;have x1:=HBX.out.cell 1;have x2:=HBX.out.cell 2
            have o0:=HO9.out.cell 0;have o1:=HO9.out.cell 1;have o2:=HO9.out.cell 2
            have g0:=HO9.out.frozen 0
            have g1:=HO9.out.frozen 1
            have g2:=HO9.out.frozen 2
            go_wp2
            have hBf:=((HO9.out.set_ 0 (.slice A9 sa.toList.length c9)).set_ 1 (.int .i64 val)).set_ 2 (.bool fd)
            have y0:=hBf.cell 0;have y1:=hBf.cell 1;have y2:=hBf.cell 2
            refine bodyPost_ret (v:=.tuple #[.agg #[.slice A9 sa.toList.length c9,.int .i64 val,.bool fd],.bool true]) (by simp [results,Tryz.results154,go_sem,y0,y1,y2]) rfl ⟨_,rfl,?_,ext_set (ext_set (ext_set HE9.out (by simp;omega) _) (by simp;omega) _) (by simp;omega) _⟩
            rw [HOU.out]
            have h1:=HRW.out.off (b:=w.heap.size+1+1+1) (i:=0) (u:=.slice A9 sa.toList.length c9) o0
            have h2:=h1.off (b:=w.heap.size+1+1+1) (i:=1) (u:=.int .i64 val) ((HO9.out.set_ 0 (.slice A9 sa.toList.length c9)).cell 0)
            exact h2.off (b:=w.heap.size+1+1+1) (i:=2) (u:=.bool fd) (((HO9.out.set_ 0 (.slice A9 sa.toList.length c9)).set_ 1 (.int .i64 val)).cell 0)
          · refine stepL rfl (by kernel_rfl) (fun K hK=>?_)
            have HBO:=Lib.hid HB.out.size
            obtain ⟨V13,hV13⟩:∃ V13,V13=World.alloc V7 (.cells #[.slice none 0 0,.int .i64 0,.bool false] 36):=⟨_,rfl⟩
            have hbv:Below (World.heap V7).size V7 V13:=by rw [hV13];exact ext_new _ _
            have HB:=Lib.hid (ext_call HB.out hbv)
            have HM:=Lib.hid (HM.out.ext hbv)
            have HPA:=Lib.hid (HPA.out.ext hbv)
            have HBX:=Lib.hid (show Blk V13 (World.heap V7).size 36 #[.slice none 0 0,.int .i64 0,.bool false] by rw [hV13];exact Blk.new _ _ _)
            go_simp
            rw [← hV13]
            obtain ⟨gb,hgb⟩:∃ gb,gb=(World.heap V7).size:=⟨_,rfl⟩
            have HGB:=Lib.hid (show W2.heap.size≤gb by rw [hgb];exact HBO.out)
            rw [← hgb] at HBX ⊢
            clear hgb hV13 hbv
            refine hK _ _ ⟨(HFX.out _ HB.out),?_⟩
            clear hK K
            refine allL [9] (by kernel_rfl) (by simp) ?_
            simp only [List.forall_mem_cons,List.not_mem_nil,false_implies,implies_true,and_true]
            refine stepL rfl (by kernel_rfl) (fun K hK=>?_)
            go_simp
            go_at_call 212
            refine (HPR.out (HK.out (by first|rfl|trivial)).1 (HK.out (by first|rfl|trivial)).2 _ _ (HL2.out.ext HB.out) HPA.out).mono ?_
            rintro e V9 ⟨u9,rfl,hu9,hbv⟩
            obtain ⟨A9,c9,rfl,-⟩:=id hu9
            have HB:=Lib.hid (ext_call HB.out hbv)
            have HM:=Lib.hid (HM.out.ext hbv)
            have HPA:=Lib.hid (HPA.out.ext hbv)
            have HBX:=Lib.hid (HBX.out.ext hbv)
            have HRW:=Lib.hid hu9
            clear hbv hu9
            refine hK _ _ ⟨(HFX.out _ HB.out),?_⟩
            clear hK K
            refine takeFd 10 (some 19) (v:=?_) rfl rfl (by kernel_rfl) (by kernel_rfl) (by kernel_rfl) (by kernel_rfl) (fun _ _ _ h=>h) (Or.inl ⟨by kernel_rfl,?_⟩) (HFX.out _ HB.out) (fun _=>trivial) ?_
            rotate_left 1
            · (rintro w' ⟨f0,f1,f2,f3,f4,f5,f6,f7,f8,f9,f10,f11,f12,f13,f14,f15,f16,f17,f18,f19⟩;go_simp;with_reducible rfl)
            refine takeFd 11 (some 30) (v:=?_) rfl rfl (by kernel_rfl) (by kernel_rfl) (by kernel_rfl) (by kernel_rfl) (fun _ _ _ h=>h) (Or.inl ⟨by kernel_rfl,?_⟩) (HFX.out _ HB.out) (fun _=>trivial) ?_
            rotate_left 1
            · (rintro w' ⟨f0,f1,f2,f3,f4,f5,f6,f7,f8,f9,f10,f11,f12,f13,f14,f15,f16,f17,f18,f19⟩;go_simp;with_reducible rfl)
            refine takeFd 12 (some 31) (v:=?_) rfl rfl (by kernel_rfl) (by kernel_rfl) (by kernel_rfl) (by kernel_rfl) (fun _ _ _ h=>h) (Or.inl ⟨by kernel_rfl,?_⟩) (HFX.out _ HB.out) (fun _=>trivial) ?_
            rotate_left 1
            · (rintro w' ⟨f0,f1,f2,f3,f4,f5,f6,f7,f8,f9,f10,f11,f12,f13,f14,f15,f16,f17,f18,f19⟩;go_simp;with_reducible rfl)
            refine allL [14] (by kernel_rfl) (by simp) ?_
            simp only [List.forall_mem_cons,List.not_mem_nil,false_implies,implies_true,and_true]
            refine stepL rfl (by kernel_rfl) (fun K hK=>?_)
            have x0:=HBX.out.cell 0;have x1:=HBX.out.cell 1;have x2:=HBX.out.cell 2
            have xf0:=HBX.out.frozen 0
            have xf1:=HBX.out.frozen 1
            have xf2:=HBX.out.frozen 2
            obtain ⟨V14,hV14⟩:∃ V14,V14=World.setCell (World.setCell (World.setCell V9 ⟨gb,0,none⟩ (.slice A9 sa.toList.length c9)) ⟨gb,1,none⟩ (.int .i64 val)) ⟨gb,2,none⟩ (.bool fd):=⟨_,rfl⟩
            have HRW:=Lib.hid (show RowsL V14 (.slice A9 sa.toList.length c9) sa.toList by rw [hV14];exact ((HRW.out.off (b:=gb) (i:=0) (u:=.slice A9 sa.toList.length c9) x0).off (b:=gb) (i:=1) (u:=.int .i64 val) ((HBX.out.set_ 0 (.slice A9 sa.toList.length c9)).cell 0)).off (b:=gb) (i:=2) (u:=.bool fd) (((HBX.out.set_ 0 (.slice A9 sa.toList.length c9)).set_ 1 (.int .i64 val)).cell 0))
            have HBX:=Lib.hid (show Blk V14 gb 36 #[.slice A9 sa.toList.length c9,.int .i64 val,.bool fd] by rw [hV14];exact ((HBX.out.set_ 0 _).set_ 1 _).set_ 2 _)
            have HB:=Lib.hid (show Below W2.heap.size W2 V14 by rw [hV14];exact ext_set (ext_set (ext_set HB.out HGB.out _) HGB.out _) HGB.out _)
            go_simp
            rw [← hV14]
            clear hV14 x0 x1 x2 xf0 xf1 xf2
            refine hK _ _ ⟨(HFX.out _ HB.out),?_⟩
            clear hK K
            refine takeFd 15 (some 9) (v:=?_) rfl rfl (by kernel_rfl) (by kernel_rfl) (by kernel_rfl) (by kernel_rfl) (fun _ _ _ h=>h) (Or.inl ⟨by kernel_rfl,?_⟩) (HFX.out _ HB.out) (fun _=>trivial) ?_
            rotate_left 1
            · (rintro w' ⟨f0,f1,f2,f3,f4,f5,f6,f7,f8,f9,f10,f11,f12,f13,f14,f15,f16,f17,f18,f19⟩;go_simp;with_reducible rfl)
            refine doneL (by kernel_rfl) ?_ _
            have HO9:=Lib.hid (HO2.out.ext HB.out)
            have HE9:=Lib.hid (ext_call HE2.out HB.out)
            have x0:=HBX.out.cell 0;have x1:=HBX.out.cell 1;have x2:=HBX.out.cell 2
            have o0:=HO9.out.cell 0;have o1:=HO9.out.cell 1;have o2:=HO9.out.cell 2
            have g0:=HO9.out.frozen 0
            have g1:=HO9.out.frozen 1
            have g2:=HO9.out.frozen 2
            go_wp2
            have hBf:=((HO9.out.set_ 0 (.slice A9 sa.toList.length c9)).set_ 1 (.int .i64 val)).set_ 2 (.bool fd)
            have y0:=hBf.cell 0;have y1:=hBf.cell 1;have y2:=hBf.cell 2
            refine bodyPost_ret (v:=.tuple #[.agg #[.slice A9 sa.toList.length c9,.int .i64 val,.bool fd],.bool true]) (by simp [results,Tryz.results154,go_sem,y0,y1,y2]) rfl ⟨_,rfl,?_,ext_set (ext_set (ext_set HE9.out (by simp;omega) _) (by simp;omega) _) (by simp;omega) _⟩
            rw [HOU.out]
            have h1:=HRW.out.off (b:=w.heap.size+1+1+1) (i:=0) (u:=.slice A9 sa.toList.length c9) o0
            have h2:=h1.off (b:=w.heap.size+1+1+1) (i:=1) (u:=.int .i64 val) ((HO9.out.set_ 0 (.slice A9 sa.toList.length c9)).cell 0)
            exact h2.off (b:=w.heap.size+1+1+1) (i:=2) (u:=.bool fd) (((HO9.out.set_ 0 (.slice A9 sa.toList.length c9)).set_ 1 (.int .i64 val)).cell 0)
        · refine stepL rfl (by kernel_rfl) (fun K hK=>?_)
          have HBO:=Lib.hid HB.out.size
          obtain ⟨V13,hV13⟩:∃ V13,V13=World.alloc V7 (.cells #[.slice none 0 0,.int .i64 0,.bool false] 36):=⟨_,rfl⟩
          have hbv:Below (World.heap V7).size V7 V13:=by rw [hV13];exact ext_new _ _
          have HB:=Lib.hid (ext_call HB.out hbv)
          have HM:=Lib.hid (HM.out.ext hbv)
          have HPA:=Lib.hid (HPA.out.ext hbv)
          have HBX:=Lib.hid (show Blk V13 (World.heap V7).size 36 #[.slice none 0 0,.int .i64 0,.bool false] by rw [hV13];exact Blk.new _ _ _)
          go_simp
          rw [← hV13]
          obtain ⟨gb,hgb⟩:∃ gb,gb=(World.heap V7).size:=⟨_,rfl⟩
          have HGB:=Lib.hid (show W2.heap.size≤gb by rw [hgb];exact HBO.out)
          rw [← hgb] at HBX ⊢
          clear hgb hV13 hbv
          refine hK _ _ ⟨(HFX.out _ HB.out),?_⟩
          clear hK K
          refine allL [3] (by kernel_rfl) (by simp) ?_
          simp only [List.forall_mem_cons,List.not_mem_nil,false_implies,implies_true,and_true]
          refine stepL rfl (by kernel_rfl) (fun K hK=>?_)
          have hlk:=lookup_I (P:=Tryz.prog) Tryz.underlying293 Tryz.underlying3 HM.out kd (kindZero _)
          rw [HKV.out] at hlk
          simp only [Option.getD_some] at hlk
          go_simp
          clear hlk
          refine hK _ _ ⟨(HFX.out _ HB.out),?_⟩
          clear hK K
          refine takeFd 4 (some 24) (v:=?_) rfl rfl (by kernel_rfl) (by kernel_rfl) (by kernel_rfl) (by kernel_rfl) (fun _ _ _ h=>h) (Or.inl ⟨by kernel_rfl,?_⟩) (HFX.out _ HB.out) (fun _=>trivial) ?_
          rotate_left 1
          · (rintro w' ⟨f0,f1,f2,f3,f4,f5,f6,f7,f8,f9,f10,f11,f12,f13,f14,f15,f16,f17,f18,f19⟩;go_simp;with_reducible rfl)
          refine allL [9] (by kernel_rfl) (by simp) ?_
          simp only [List.forall_mem_cons,List.not_mem_nil,false_implies,implies_true,and_true]
          refine stepL rfl (by kernel_rfl) (fun K hK=>?_)
          go_simp
          go_at_call 212
          refine (HPR.out (HK.out (by first|rfl|trivial)).1 (HK.out (by first|rfl|trivial)).2 _ _ (HL2.out.ext HB.out) HPA.out).mono ?_
          rintro e V9 ⟨u9,rfl,hu9,hbv⟩
          obtain ⟨A9,c9,rfl,-⟩:=id hu9
          have HB:=Lib.hid (ext_call HB.out hbv)
          have HM:=Lib.hid (HM.out.ext hbv)
          have HPA:=Lib.hid (HPA.out.ext hbv)
          have HBX:=Lib.hid (HBX.out.ext hbv)
          have HRW:=Lib.hid hu9
          clear hbv hu9
          refine hK _ _ ⟨(HFX.out _ HB.out),?_⟩
          clear hK K
          refine takeFd 10 (some 19) (v:=?_) rfl rfl (by kernel_rfl) (by kernel_rfl) (by kernel_rfl) (by kernel_rfl) (fun _ _ _ h=>h) (Or.inl ⟨by kernel_rfl,?_⟩) (HFX.out _ HB.out) (fun _=>trivial) ?_
          rotate_left 1
          · (rintro w' ⟨f0,f1,f2,f3,f4,f5,f6,f7,f8,f9,f10,f11,f12,f13,f14,f15,f16,f17,f18,f19⟩;go_simp;with_reducible rfl)
          refine takeFd 11 (some 30) (v:=?_) rfl rfl (by kernel_rfl) (by kernel_rfl) (by kernel_rfl) (by kernel_rfl) (fun _ _ _ h=>h) (Or.inl ⟨by kernel_rfl,?_⟩) (HFX.out _ HB.out) (fun _=>trivial) ?_
          rotate_left 1
          · (rintro w' ⟨f0,f1,f2,f3,f4,f5,f6,f7,f8,f9,f10,f11,f12,f13,f14,f15,f16,f17,f18,f19⟩;go_simp;with_reducible rfl)
          refine takeFd 12 (some 31) (v:=?_) rfl rfl (by kernel_rfl) (by kernel_rfl) (by kernel_rfl) (by kernel_rfl) (fun _ _ _ h=>h) (Or.inl ⟨by kernel_rfl,?_⟩) (HFX.out _ HB.out) (fun _=>trivial) ?_
          rotate_left 1
          · (rintro w' ⟨f0,f1,f2,f3,f4,f5,f6,f7,f8,f9,f10,f11,f12,f13,f14,f15,f16,f17,f18,f19⟩;go_simp;with_reducible rfl)
          refine allL [14] (by kernel_rfl) (by simp) ?_
          simp only [List.forall_mem_cons,List.not_mem_nil,false_implies,implies_true,and_true]
          refine stepL rfl (by kernel_rfl) (fun K hK=>?_)
          have x0:=HBX.out.cell 0;have x1:=HBX.out.cell 1;have x2:=HBX.out.cell 2
          have xf0:=HBX.out.frozen 0
          have xf1:=HBX.out.frozen 1
          have xf2:=HBX.out.frozen 2
          obtain ⟨V14,hV14⟩:∃ V14,V14=World.setCell (World.setCell (World.setCell V9 ⟨gb,0,none⟩ (.slice A9 sa.toList.length c9)) ⟨gb,1,none⟩ (.int .i64 val)) ⟨gb,2,none⟩ (.bool fd):=⟨_,rfl⟩
          have HRW:=Lib.hid (show RowsL V14 (.slice A9 sa.toList.length c9) sa.toList by rw [hV14];exact ((HRW.out.off (b:=gb) (i:=0) (u:=.slice A9 sa.toList.length c9) x0).off (b:=gb) (i:=1) (u:=.int .i64 val) ((HBX.out.set_ 0 (.slice A9 sa.toList.length c9)).cell 0)).off (b:=gb) (i:=2) (u:=.bool fd) (((HBX.out.set_ 0 (.slice A9 sa.toList.length c9)).set_ 1 (.int .i64 val)).cell 0))
          have HBX:=Lib.hid (show Blk V14 gb 36 #[.slice A9 sa.toList.length c9,.int .i64 val,.bool fd] by rw [hV14];exact ((HBX.out.set_ 0 _).set_ 1 _).set_ 2 _)
          have HB:=Lib.hid (show Below W2.heap.size W2 V14 by rw [hV14];exact ext_set (ext_set (ext_set HB.out HGB.out _) HGB.out _) HGB.out _)
          go_simp
          rw [← hV14]
          clear hV14 x0 x1 x2 xf0 xf1 xf2
          refine hK _ _ ⟨(HFX.out _ HB.out),?_⟩
          clear hK K
          refine takeFd 15 (some 9) (v:=?_) rfl rfl (by kernel_rfl) (by kernel_rfl) (by kernel_rfl) (by kernel_rfl) (fun _ _ _ h=>h) (Or.inl ⟨by kernel_rfl,?_⟩) (HFX.out _ HB.out) (fun _=>trivial) ?_
          rotate_left 1
          · (rintro w' ⟨f0,f1,f2,f3,f4,f5,f6,f7,f8,f9,f10,f11,f12,f13,f14,f15,f16,f17,f18,f19⟩;go_simp;with_reducible rfl)
          refine doneL (by kernel_rfl) ?_ _
          have HO9:=Lib.hid (HO2.out.ext HB.out)
          have HE9:=Lib.hid (ext_call HE2.out HB.out)
          have x0:=HBX.out.cell 0;have x1:=HBX.out.cell 1;have x2:=HBX.out.cell 2
          have o0:=HO9.out.cell 0;have o1:=HO9.out.cell 1;have o2:=HO9.out.cell 2
          have g0:=HO9.out.frozen 0
          have g1:=HO9.out.frozen 1
          have g2:=HO9.out.frozen 2
          go_wp2
          have hBf:=((HO9.out.set_ 0 (.slice A9 sa.toList.length c9)).set_ 1 (.int .i64 val)).set_ 2 (.bool fd)
          have y0:=hBf.cell 0;have y1:=hBf.cell 1;have y2:=hBf.cell 2
          refine bodyPost_ret (v:=.tuple #[.agg #[.slice A9 sa.toList.length c9,.int .i64 val,.bool fd],.bool true]) (by simp [results,Tryz.results154,go_sem,y0,y1,y2]) rfl ⟨_,rfl,?_,ext_set (ext_set (ext_set HE9.out (by simp;omega) _) (by simp;omega) _) (by simp;omega) _⟩
          rw [HOU.out]
          have h1:=HRW.out.off (b:=w.heap.size+1+1+1) (i:=0) (u:=.slice A9 sa.toList.length c9) o0
          have h2:=h1.off (b:=w.heap.size+1+1+1) (i:=1) (u:=.int .i64 val) ((HO9.out.set_ 0 (.slice A9 sa.toList.length c9)).cell 0)
          exact h2.off (b:=w.heap.size+1+1+1) (i:=2) (u:=.bool fd) (((HO9.out.set_ 0 (.slice A9 sa.toList.length c9)).set_ 1 (.int .i64 val)).cell 0)
      · refine stepL rfl (by kernel_rfl) (fun K hK=>?_)
        have HBO:=Lib.hid HB.out.size
        obtain ⟨V13,hV13⟩:∃ V13,V13=World.alloc V0 (.cells #[.slice none 0 0,.int .i64 0,.bool false] 36):=⟨_,rfl⟩
        have hbv:Below (World.heap V0).size V0 V13:=by rw [hV13];exact ext_new _ _
        have HB:=Lib.hid (ext_call HB.out hbv)
        have HM:=Lib.hid (HM.out.ext hbv)
        have HBX:=Lib.hid (show Blk V13 (World.heap V0).size 36 #[.slice none 0 0,.int .i64 0,.bool false] by rw [hV13];exact Blk.new _ _ _)
        go_simp
        rw [← hV13]
        obtain ⟨gb,hgb⟩:∃ gb,gb=(World.heap V0).size:=⟨_,rfl⟩
        have HGB:=Lib.hid (show W2.heap.size≤gb by rw [hgb];exact HBO.out)
        rw [← hgb] at HBX ⊢
        clear hgb hV13 hbv
        refine hK _ _ ⟨(HFX.out _ HB.out),?_⟩
        clear hK K
        refine allL [3,7] (by kernel_rfl) (by simp) ?_
        simp only [List.forall_mem_cons,List.not_mem_nil,false_implies,implies_true,and_true]
        refine ⟨?_,?_⟩
        · refine stepL rfl (by kernel_rfl) (fun K hK=>?_)
          have hlk:=lookup_I (P:=Tryz.prog) Tryz.underlying293 Tryz.underlying3 HM.out kd (kindZero _)
          rw [HKV.out] at hlk
          simp only [Option.getD_some] at hlk
          go_simp
          clear hlk
          refine hK _ _ ⟨(HFX.out _ HB.out),?_⟩
          clear hK K
          refine takeFd 4 (some 24) (v:=?_) rfl rfl (by kernel_rfl) (by kernel_rfl) (by kernel_rfl) (by kernel_rfl) (fun _ _ _ h=>h) (Or.inl ⟨by kernel_rfl,?_⟩) (HFX.out _ HB.out) (fun _=>trivial) ?_
          rotate_left 1
          · (rintro w' ⟨f0,f1,f2,f3,f4,f5,f6,f7,f8,f9,f10,f11,f12,f13,f14,f15,f16,f17,f18,f19⟩;go_simp;with_reducible rfl)
          refine allL [7] (by kernel_rfl) (by simp) ?_
          simp only [List.forall_mem_cons,List.not_mem_nil,false_implies,implies_true,and_true]
          refine stepL rfl (by kernel_rfl) (fun K hK=>?_)
          go_simp
          go_at_call 193
          refine (HEF.out _).mono ?_
          rintro e V7 ⟨pb,pa,rfl,hpb,hpa,hbv⟩
          obtain ⟨pbp,rfl,hsb⟩:=hpb.shape
          obtain ⟨pap,rfl,hsa⟩:=hpa.shape
          have HB:=Lib.hid (ext_call HB.out hbv)
          have HM:=Lib.hid (HM.out.ext hbv)
          have HBX:=Lib.hid (HBX.out.ext hbv)
          have HPA:=Lib.hid (hpa.mono (Nat.zero_le _))
          have HPR:=Lib.hid (fun h1 h2 u W h3 h4=>HPR.out pbp pap mb ma sa h1 h2 u W h3 h4)
          obtain ⟨E7,hE7⟩:∃ E7,E7=E (.pointer pbp) (.pointer pap) mb ma:=⟨_,rfl⟩
          rw [← hE7] at HPR ⊢
          clear hbv hpb hpa hsb hsa hE7
          refine hK _ _ ⟨(HFX.out _ HB.out),?_⟩
          clear hK K
          refine allL [9] (by kernel_rfl) (by simp) ?_
          simp only [List.forall_mem_cons,List.not_mem_nil,false_implies,implies_true,and_true]
          refine stepL rfl (by kernel_rfl) (fun K hK=>?_)
          go_simp
          go_at_call 212
          refine (HPR.out (HK.out (by first|rfl|trivial)).1 (HK.out (by first|rfl|trivial)).2 _ _ (HL2.out.ext HB.out) HPA.out).mono ?_
          rintro e V9 ⟨u9,rfl,hu9,hbv⟩
          obtain ⟨A9,c9,rfl,-⟩:=id hu9
          have HB:=Lib.hid (ext_call HB.out hbv)
          have HM:=Lib.hid (HM.out.ext hbv)
          have HPA:=Lib.hid (HPA.out.ext hbv)
          have HBX:=Lib.hid (HBX.out.ext hbv)
          have HRW:=Lib.hid hu9
          clear hbv hu9
          refine hK _ _ ⟨(HFX.out _ HB.out),?_⟩
          clear hK K
          refine takeFd 10 (some 19) (v:=?_) rfl rfl (by kernel_rfl) (by kernel_rfl) (by kernel_rfl) (by kernel_rfl) (fun _ _ _ h=>h) (Or.inl ⟨by kernel_rfl,?_⟩) (HFX.out _ HB.out) (fun _=>trivial) ?_
          rotate_left 1
          · (rintro w' ⟨f0,f1,f2,f3,f4,f5,f6,f7,f8,f9,f10,f11,f12,f13,f14,f15,f16,f17,f18,f19⟩;go_simp;with_reducible rfl)
          refine takeFd 11 (some 30) (v:=?_) rfl rfl (by kernel_rfl) (by kernel_rfl) (by kernel_rfl) (by kernel_rfl) (fun _ _ _ h=>h) (Or.inl ⟨by kernel_rfl,?_⟩) (HFX.out _ HB.out) (fun _=>trivial) ?_
          rotate_left 1
          · (rintro w' ⟨f0,f1,f2,f3,f4,f5,f6,f7,f8,f9,f10,f11,f12,f13,f14,f15,f16,f17,f18,f19⟩;go_simp;with_reducible rfl)
          refine takeFd 12 (some 31) (v:=?_) rfl rfl (by kernel_rfl) (by kernel_rfl) (by kernel_rfl) (by kernel_rfl) (fun _ _ _ h=>h) (Or.inl ⟨by kernel_rfl,?_⟩) (HFX.out _ HB.out) (fun _=>trivial) ?_
          rotate_left 1
          · (rintro w' ⟨f0,f1,f2,f3,f4,f5,f6,f7,f8,f9,f10,f11,f12,f13,f14,f15,f16,f17,f18,f19⟩;go_simp;with_reducible rfl)
          refine allL [14] (by kernel_rfl) (by simp) ?_
          simp only [List.forall_mem_cons,List.not_mem_nil,false_implies,implies_true,and_true]
          refine stepL rfl (by kernel_rfl) (fun K hK=>?_)
          have x0:=HBX.out.cell 0;have x1:=HBX.out.cell 1;have x2:=HBX.out.cell 2
          have xf0:=HBX.out.frozen 0
          have xf1:=HBX.out.frozen 1
          have xf2:=HBX.out.frozen 2
          obtain ⟨V14,hV14⟩:∃ V14,V14=World.setCell (World.setCell (World.setCell V9 ⟨gb,0,none⟩ (.slice A9 sa.toList.length c9)) ⟨gb,1,none⟩ (.int .i64 val)) ⟨gb,2,none⟩ (.bool fd):=⟨_,rfl⟩
          have HRW:=Lib.hid (show RowsL V14 (.slice A9 sa.toList.length c9) sa.toList by rw [hV14];exact ((HRW.out.off (b:=gb) (i:=0) (u:=.slice A9 sa.toList.length c9) x0).off (b:=gb) (i:=1) (u:=.int .i64 val) ((HBX.out.set_ 0 (.slice A9 sa.toList.length c9)).cell 0)).off (b:=gb) (i:=2) (u:=.bool fd) (((HBX.out.set_ 0 (.slice A9 sa.toList.length c9)).set_ 1 (.int .i64 val)).cell 0))
          have HBX:=Lib.hid (show Blk V14 gb 36 #[.slice A9 sa.toList.length c9,.int .i64 val,.bool fd] by rw [hV14];exact ((HBX.out.set_ 0 _).set_ 1 _).set_ 2 _)
          have HB:=Lib.hid (show Below W2.heap.size W2 V14 by rw [hV14];exact ext_set (ext_set (ext_set HB.out HGB.out _) HGB.out _) HGB.out _)
          go_simp
          rw [← hV14]
          clear hV14 x0 x1 x2 xf0 xf1 xf2
          refine hK _ _ ⟨(HFX.out _ HB.out),?_⟩
          clear hK K
          refine takeFd 15 (some 9) (v:=?_) rfl rfl (by kernel_rfl) (by kernel_rfl) (by kernel_rfl) (by kernel_rfl) (fun _ _ _ h=>h) (Or.inl ⟨by kernel_rfl,?_⟩) (HFX.out _ HB.out) (fun _=>trivial) ?_
          rotate_left 1
          · (rintro w' ⟨f0,f1,f2,f3,f4,f5,f6,f7,f8,f9,f10,f11,f12,f13,f14,f15,f16,f17,f18,f19⟩;go_simp;with_reducible rfl)
          refine doneL (by kernel_rfl) ?_ _
          have HO9:=Lib.hid (HO2.out.ext HB.out)
          have HE9:=Lib.hid (ext_call HE2.out HB.out)
          have x0:=HBX.out.cell 0;have x1:=HBX.out.cell 1;have x2:=HBX.out.cell 2
          have o0:=HO9.out.cell 0;have o1:=HO9.out.cell 1;have o2:=HO9.out.cell 2
          have g0:=HO9.out.frozen 0
          have g1:=HO9.out.frozen 1
          have g2:=HO9.out.frozen 2
          go_wp2
          have hBf:=((HO9.out.set_ 0 (.slice A9 sa.toList.length c9)).set_ 1 (.int .i64 val)).set_ 2 (.bool fd)
          have y0:=hBf.cell 0;have y1:=hBf.cell 1;have y2:=hBf.cell 2
          refine bodyPost_ret (v:=.tuple #[.agg #[.slice A9 sa.toList.length c9,.int .i64 val,.bool fd],.bool true]) (by simp [results,Tryz.results154,go_sem,y0,y1,y2]) rfl ⟨_,rfl,?_,ext_set (ext_set (ext_set HE9.out (by simp;omega) _) (by simp;omega) _) (by simp;omega) _⟩
          rw [HOU.out]
          have h1:=HRW.out.off (b:=w.heap.size+1+1+1) (i:=0) (u:=.slice A9 sa.toList.length c9) o0
          have h2:=h1.off (b:=w.heap.size+1+1+1) (i:=1) (u:=.int .i64 val) ((HO9.out.set_ 0 (.slice A9 sa.toList.length c9)).cell 0)
          exact h2.off (b:=w.heap.size+1+1+1) (i:=2) (u:=.bool fd) (((HO9.out.set_ 0 (.slice A9 sa.toList.length c9)).set_ 1 (.int .i64 val)).cell 0)
        · refine stepL rfl (by kernel_rfl) (fun K hK=>?_)
          go_simp
          go_at_call 193
          refine (HEF.out _).mono ?_
          rintro e V7 ⟨pb,pa,rfl,hpb,hpa,hbv⟩
          obtain ⟨pbp,rfl,hsb⟩:=hpb.shape
          obtain ⟨pap,rfl,hsa⟩:=hpa.shape
          have HB:=Lib.hid (ext_call HB.out hbv)
          have HM:=Lib.hid (HM.out.ext hbv)
          have HBX:=Lib.hid (HBX.out.ext hbv)
          have HPA:=Lib.hid (hpa.mono (Nat.zero_le _))
          have HPR:=Lib.hid (fun h1 h2 u W h3 h4=>HPR.out pbp pap mb ma sa h1 h2 u W h3 h4)
          obtain ⟨E7,hE7⟩:∃ E7,E7=E (.pointer pbp) (.pointer pap) mb ma:=⟨_,rfl⟩
          rw [← hE7] at HPR ⊢
          clear hbv hpb hpa hsb hsa hE7
          refine hK _ _ ⟨(HFX.out _ HB.out),?_⟩
          clear hK K
          refine allL [3] (by kernel_rfl) (by simp) ?_
          simp only [List.forall_mem_cons,List.not_mem_nil,false_implies,implies_true,and_true]
          refine stepL rfl (by kernel_rfl) (fun K hK=>?_)
          have hlk:=lookup_I (P:=Tryz.prog) Tryz.underlying293 Tryz.underlying3 HM.out kd (kindZero _)
          rw [HKV.out] at hlk
          simp only [Option.getD_some] at hlk
          go_simp
          clear hlk
          refine hK _ _ ⟨(HFX.out _ HB.out),?_⟩
          clear hK K
          refine takeFd 4 (some 24) (v:=?_) rfl rfl (by kernel_rfl) (by kernel_rfl) (by kernel_rfl) (by kernel_rfl) (fun _ _ _ h=>h) (Or.inl ⟨by kernel_rfl,?_⟩) (HFX.out _ HB.out) (fun _=>trivial) ?_
          rotate_left 1
          · (rintro w' ⟨f0,f1,f2,f3,f4,f5,f6,f7,f8,f9,f10,f11,f12,f13,f14,f15,f16,f17,f18,f19⟩;go_simp;with_reducible rfl)
          refine allL [9] (by kernel_rfl) (by simp) ?_
          simp only [List.forall_mem_cons,List.not_mem_nil,false_implies,implies_true,and_true]
          refine stepL rfl (by kernel_rfl) (fun K hK=>?_)
          go_simp
          go_at_call 212
          refine (HPR.out (HK.out (by first|rfl|trivial)).1 (HK.out (by first|rfl|trivial)).2 _ _ (HL2.out.ext HB.out) HPA.out).mono ?_
          rintro e V9 ⟨u9,rfl,hu9,hbv⟩
          obtain ⟨A9,c9,rfl,-⟩:=id hu9
          have HB:=Lib.hid (ext_call HB.out hbv)
          have HM:=Lib.hid (HM.out.ext hbv)
          have HPA:=Lib.hid (HPA.out.ext hbv)
          have HBX:=Lib.hid (HBX.out.ext hbv)
          have HRW:=Lib.hid hu9
          clear hbv hu9
          refine hK _ _ ⟨(HFX.out _ HB.out),?_⟩
          clear hK K
          refine takeFd 10 (some 19) (v:=?_) rfl rfl (by kernel_rfl) (by kernel_rfl) (by kernel_rfl) (by kernel_rfl) (fun _ _ _ h=>h) (Or.inl ⟨by kernel_rfl,?_⟩) (HFX.out _ HB.out) (fun _=>trivial) ?_
          rotate_left 1
          · (rintro w' ⟨f0,f1,f2,f3,f4,f5,f6,f7,f8,f9,f10,f11,f12,f13,f14,f15,f16,f17,f18,f19⟩;go_simp;with_reducible rfl)
          refine takeFd 11 (some 30) (v:=?_) rfl rfl (by kernel_rfl) (by kernel_rfl) (by kernel_rfl) (by kernel_rfl) (fun _ _ _ h=>h) (Or.inl ⟨by kernel_rfl,?_⟩) (HFX.out _ HB.out) (fun _=>trivial) ?_
          rotate_left 1
          · (rintro w' ⟨f0,f1,f2,f3,f4,f5,f6,f7,f8,f9,f10,f11,f12,f13,f14,f15,f16,f17,f18,f19⟩;go_simp;with_reducible rfl)
          refine takeFd 12 (some 31) (v:=?_) rfl rfl (by kernel_rfl) (by kernel_rfl) (by kernel_rfl) (by kernel_rfl) (fun _ _ _ h=>h) (Or.inl ⟨by kernel_rfl,?_⟩) (HFX.out _ HB.out) (fun _=>trivial) ?_
          rotate_left 1
          · (rintro w' ⟨f0,f1,f2,f3,f4,f5,f6,f7,f8,f9,f10,f11,f12,f13,f14,f15,f16,f17,f18,f19⟩;go_simp;with_reducible rfl)
          refine allL [14] (by kernel_rfl) (by simp) ?_
          simp only [List.forall_mem_cons,List.not_mem_nil,false_implies,implies_true,and_true]
          refine stepL rfl (by kernel_rfl) (fun K hK=>?_)
          have x0:=HBX.out.cell 0;have x1:=HBX.out.cell 1;have x2:=HBX.out.cell 2
          have xf0:=HBX.out.frozen 0
          have xf1:=HBX.out.frozen 1
          have xf2:=HBX.out.frozen 2
          obtain ⟨V14,hV14⟩:∃ V14,V14=World.setCell (World.setCell (World.setCell V9 ⟨gb,0,none⟩ (.slice A9 sa.toList.length c9)) ⟨gb,1,none⟩ (.int .i64 val)) ⟨gb,2,none⟩ (.bool fd):=⟨_,rfl⟩
          have HRW:=Lib.hid (show RowsL V14 (.slice A9 sa.toList.length c9) sa.toList by rw [hV14];exact ((HRW.out.off (b:=gb) (i:=0) (u:=.slice A9 sa.toList.length c9) x0).off (b:=gb) (i:=1) (u:=.int .i64 val) ((HBX.out.set_ 0 (.slice A9 sa.toList.length c9)).cell 0)).off (b:=gb) (i:=2) (u:=.bool fd) (((HBX.out.set_ 0 (.slice A9 sa.toList.length c9)).set_ 1 (.int .i64 val)).cell 0))
          have HBX:=Lib.hid (show Blk V14 gb 36 #[.slice A9 sa.toList.length c9,.int .i64 val,.bool fd] by rw [hV14];exact ((HBX.out.set_ 0 _).set_ 1 _).set_ 2 _)
          have HB:=Lib.hid (show Below W2.heap.size W2 V14 by rw [hV14];exact ext_set (ext_set (ext_set HB.out HGB.out _) HGB.out _) HGB.out _)
          go_simp
          rw [← hV14]
          clear hV14 x0 x1 x2 xf0 xf1 xf2
          refine hK _ _ ⟨(HFX.out _ HB.out),?_⟩
          clear hK K
          refine takeFd 15 (some 9) (v:=?_) rfl rfl (by kernel_rfl) (by kernel_rfl) (by kernel_rfl) (by kernel_rfl) (fun _ _ _ h=>h) (Or.inl ⟨by kernel_rfl,?_⟩) (HFX.out _ HB.out) (fun _=>trivial) ?_
          rotate_left 1
          · (rintro w' ⟨f0,f1,f2,f3,f4,f5,f6,f7,f8,f9,f10,f11,f12,f13,f14,f15,f16,f17,f18,f19⟩;go_simp;with_reducible rfl)
          refine doneL (by kernel_rfl) ?_ _
          have HO9:=Lib.hid (HO2.out.ext HB.out)
          have HE9:=Lib.hid (ext_call HE2.out HB.out)
          have x0:=HBX.out.cell 0;have x1:=HBX.out.cell 1;have x2:=HBX.out.cell 2
          have o0:=HO9.out.cell 0;have o1:=HO9.out.cell 1;have o2:=HO9.out.cell 2
          have g0:=HO9.out.frozen 0
          have g1:=HO9.out.frozen 1
          have g2:=HO9.out.frozen 2
          go_wp2
          have hBf:=((HO9.out.set_ 0 (.slice A9 sa.toList.length c9)).set_ 1 (.int .i64 val)).set_ 2 (.bool fd)
          have y0:=hBf.cell 0;have y1:=hBf.cell 1;have y2:=hBf.cell 2
          refine bodyPost_ret (v:=.tuple #[.agg #[.slice A9 sa.toList.length c9,.int .i64 val,.bool fd],.bool true]) (by simp [results,Tryz.results154,go_sem,y0,y1,y2]) rfl ⟨_,rfl,?_,ext_set (ext_set (ext_set HE9.out (by simp;omega) _) (by simp;omega) _) (by simp;omega) _⟩
          rw [HOU.out]
          have h1:=HRW.out.off (b:=w.heap.size+1+1+1) (i:=0) (u:=.slice A9 sa.toList.length c9) o0
          have h2:=h1.off (b:=w.heap.size+1+1+1) (i:=1) (u:=.int .i64 val) ((HO9.out.set_ 0 (.slice A9 sa.toList.length c9)).cell 0)
          exact h2.off (b:=w.heap.size+1+1+1) (i:=2) (u:=.bool fd) (((HO9.out.set_ 0 (.slice A9 sa.toList.length c9)).set_ 1 (.int .i64 val)).cell 0)
    · refine stepL rfl (by kernel_rfl) (fun K hK=>?_)
      have HBO:=Lib.hid HB.out.size
      obtain ⟨V13,hV13⟩:∃ V13,V13=World.alloc D (.cells #[.slice none 0 0,.int .i64 0,.bool false] 36):=⟨_,rfl⟩
      have hbv:Below (World.heap D).size D V13:=by rw [hV13];exact ext_new _ _
      have HB:=Lib.hid (ext_call HB.out hbv)
      have HBX:=Lib.hid (show Blk V13 (World.heap D).size 36 #[.slice none 0 0,.int .i64 0,.bool false] by rw [hV13];exact Blk.new _ _ _)
      go_simp
      rw [← hV13]
      obtain ⟨gb,hgb⟩:∃ gb,gb=(World.heap D).size:=⟨_,rfl⟩
      have HGB:=Lib.hid (show W2.heap.size≤gb by rw [hgb];exact HBO.out)
      rw [← hgb] at HBX ⊢
      clear hgb hV13 hbv
      refine hK _ _ ⟨(HFX.out _ HB.out),?_⟩
      clear hK K
      refine allL [0] (by kernel_rfl) (by simp) ?_
      simp only [List.forall_mem_cons,List.not_mem_nil,false_implies,implies_true,and_true]
      refine stepL rfl (by kernel_rfl) (fun K hK=>?_)
      go_simp
      go_at_call 192
      refine (kindsAny _).mono ?_
      rintro e V0 ⟨g,kv,rfl,hm,hk1,hk2,-,-,hbv⟩
      have HB:=Lib.hid (ext_call HB.out hbv)
      have HBX:=Lib.hid (HBX.out.ext hbv)
      have HM:=Lib.hid hm
      have HKV:=Lib.hid (show getI kv kd=some (.agg #[.func (.func 211) #[] #[],.func (.func 212) #[] #[]]) by rcases HKD.out with h|h <;> rw [h] <;> assumption)
      clear hbv hm hk1 hk2
      refine hK _ _ ⟨(HFX.out _ HB.out),?_⟩
      clear hK K
      refine allL [3,7] (by kernel_rfl) (by simp) ?_
      simp only [List.forall_mem_cons,List.not_mem_nil,false_implies,implies_true,and_true]
      refine ⟨?_,?_⟩
      · refine stepL rfl (by kernel_rfl) (fun K hK=>?_)
        have hlk:=lookup_I (P:=Tryz.prog) Tryz.underlying293 Tryz.underlying3 HM.out kd (kindZero _)
        rw [HKV.out] at hlk
        simp only [Option.getD_some] at hlk
        go_simp
        clear hlk
        refine hK _ _ ⟨(HFX.out _ HB.out),?_⟩
        clear hK K
        refine takeFd 4 (some 24) (v:=?_) rfl rfl (by kernel_rfl) (by kernel_rfl) (by kernel_rfl) (by kernel_rfl) (fun _ _ _ h=>h) (Or.inl ⟨by kernel_rfl,?_⟩) (HFX.out _ HB.out) (fun _=>trivial) ?_
        rotate_left 1
        · (rintro w' ⟨f0,f1,f2,f3,f4,f5,f6,f7,f8,f9,f10,f11,f12,f13,f14,f15,f16,f17,f18,f19⟩;go_simp;with_reducible rfl)
        refine allL [7] (by kernel_rfl) (by simp) ?_
        simp only [List.forall_mem_cons,List.not_mem_nil,false_implies,implies_true,and_true]
        refine stepL rfl (by kernel_rfl) (fun K hK=>?_)
        go_simp
        go_at_call 193
        refine (HEF.out _).mono ?_
        rintro e V7 ⟨pb,pa,rfl,hpb,hpa,hbv⟩
        obtain ⟨pbp,rfl,hsb⟩:=hpb.shape
        obtain ⟨pap,rfl,hsa⟩:=hpa.shape
        have HB:=Lib.hid (ext_call HB.out hbv)
        have HM:=Lib.hid (HM.out.ext hbv)
        have HBX:=Lib.hid (HBX.out.ext hbv)
        have HPA:=Lib.hid (hpa.mono (Nat.zero_le _))
        have HPR:=Lib.hid (fun h1 h2 u W h3 h4=>HPR.out pbp pap mb ma sa h1 h2 u W h3 h4)
        obtain ⟨E7,hE7⟩:∃ E7,E7=E (.pointer pbp) (.pointer pap) mb ma:=⟨_,rfl⟩
        rw [← hE7] at HPR ⊢
        clear hbv hpb hpa hsb hsa hE7
        refine hK _ _ ⟨(HFX.out _ HB.out),?_⟩
        clear hK K
        refine allL [9] (by kernel_rfl) (by simp) ?_
        simp only [List.forall_mem_cons,List.not_mem_nil,false_implies,implies_true,and_true]
        refine stepL rfl (by kernel_rfl) (fun K hK=>?_)
        go_simp
        go_at_call 212
        refine (HPR.out (HK.out (by first|rfl|trivial)).1 (HK.out (by first|rfl|trivial)).2 _ _ (HL2.out.ext HB.out) HPA.out).mono ?_
        rintro e V9 ⟨u9,rfl,hu9,hbv⟩
        obtain ⟨A9,c9,rfl,-⟩:=id hu9
        have HB:=Lib.hid (ext_call HB.out hbv)
        have HM:=Lib.hid (HM.out.ext hbv)
        have HPA:=Lib.hid (HPA.out.ext hbv)
        have HBX:=Lib.hid (HBX.out.ext hbv)
        have HRW:=Lib.hid hu9
        clear hbv hu9
        refine hK _ _ ⟨(HFX.out _ HB.out),?_⟩
        clear hK K
        refine takeFd 10 (some 19) (v:=?_) rfl rfl (by kernel_rfl) (by kernel_rfl) (by kernel_rfl) (by kernel_rfl) (fun _ _ _ h=>h) (Or.inl ⟨by kernel_rfl,?_⟩) (HFX.out _ HB.out) (fun _=>trivial) ?_
        rotate_left 1
        · (rintro w' ⟨f0,f1,f2,f3,f4,f5,f6,f7,f8,f9,f10,f11,f12,f13,f14,f15,f16,f17,f18,f19⟩;go_simp;with_reducible rfl)
        refine takeFd 11 (some 30) (v:=?_) rfl rfl (by kernel_rfl) (by kernel_rfl) (by kernel_rfl) (by kernel_rfl) (fun _ _ _ h=>h) (Or.inl ⟨by kernel_rfl,?_⟩) (HFX.out _ HB.out) (fun _=>trivial) ?_
        rotate_left 1
        · (rintro w' ⟨f0,f1,f2,f3,f4,f5,f6,f7,f8,f9,f10,f11,f12,f13,f14,f15,f16,f17,f18,f19⟩;go_simp;with_reducible rfl)
        refine takeFd 12 (some 31) (v:=?_) rfl rfl (by kernel_rfl) (by kernel_rfl) (by kernel_rfl) (by kernel_rfl) (fun _ _ _ h=>h) (Or.inl ⟨by kernel_rfl,?_⟩) (HFX.out _ HB.out) (fun _=>trivial) ?_
        rotate_left 1
        · (rintro w' ⟨f0,f1,f2,f3,f4,f5,f6,f7,f8,f9,f10,f11,f12,f13,f14,f15,f16,f17,f18,f19⟩;go_simp;with_reducible rfl)
        refine allL [14] (by kernel_rfl) (by simp) ?_
        simp only [List.forall_mem_cons,List.not_mem_nil,false_implies,implies_true,and_true]
        refine stepL rfl (by kernel_rfl) (fun K hK=>?_)
        have x0:=HBX.out.cell 0;have x1:=HBX.out.cell 1;have x2:=HBX.out.cell 2
        have xf0:=HBX.out.frozen 0
        have xf1:=HBX.out.frozen 1
        have xf2:=HBX.out.frozen 2
        obtain ⟨V14,hV14⟩:∃ V14,V14=World.setCell (World.setCell (World.setCell V9 ⟨gb,0,none⟩ (.slice A9 sa.toList.length c9)) ⟨gb,1,none⟩ (.int .i64 val)) ⟨gb,2,none⟩ (.bool fd):=⟨_,rfl⟩
        have HRW:=Lib.hid (show RowsL V14 (.slice A9 sa.toList.length c9) sa.toList by rw [hV14];exact ((HRW.out.off (b:=gb) (i:=0) (u:=.slice A9 sa.toList.length c9) x0).off (b:=gb) (i:=1) (u:=.int .i64 val) ((HBX.out.set_ 0 (.slice A9 sa.toList.length c9)).cell 0)).off (b:=gb) (i:=2) (u:=.bool fd) (((HBX.out.set_ 0 (.slice A9 sa.toList.length c9)).set_ 1 (.int .i64 val)).cell 0))
        have HBX:=Lib.hid (show Blk V14 gb 36 #[.slice A9 sa.toList.length c9,.int .i64 val,.bool fd] by rw [hV14];exact ((HBX.out.set_ 0 _).set_ 1 _).set_ 2 _)
        have HB:=Lib.hid (show Below W2.heap.size W2 V14 by rw [hV14];exact ext_set (ext_set (ext_set HB.out HGB.out _) HGB.out _) HGB.out _)
        go_simp
        rw [← hV14]
        clear hV14 x0 x1 x2 xf0 xf1 xf2
        refine hK _ _ ⟨(HFX.out _ HB.out),?_⟩
        clear hK K
        refine takeFd 15 (some 9) (v:=?_) rfl rfl (by kernel_rfl) (by kernel_rfl) (by kernel_rfl) (by kernel_rfl) (fun _ _ _ h=>h) (Or.inl ⟨by kernel_rfl,?_⟩) (HFX.out _ HB.out) (fun _=>trivial) ?_
        rotate_left 1
        · (rintro w' ⟨f0,f1,f2,f3,f4,f5,f6,f7,f8,f9,f10,f11,f12,f13,f14,f15,f16,f17,f18,f19⟩;go_simp;with_reducible rfl)
        refine doneL (by kernel_rfl) ?_ _
        have HO9:=Lib.hid (HO2.out.ext HB.out)
        have HE9:=Lib.hid (ext_call HE2.out HB.out)
        have x0:=HBX.out.cell 0;have x1:=HBX.out.cell 1;have x2:=HBX.out.cell 2
        have o0:=HO9.out.cell 0;have o1:=HO9.out.cell 1;have o2:=HO9.out.cell 2
        have g0:=HO9.out.frozen 0
        have g1:=HO9.out.frozen 1
        have g2:=HO9.out.frozen 2
        go_wp2
        have hBf:=((HO9.out.set_ 0 (.slice A9 sa.toList.length c9)).set_ 1 (.int .i64 val)).set_ 2 (.bool fd)
        have y0:=hBf.cell 0;have y1:=hBf.cell 1;have y2:=hBf.cell 2
        refine bodyPost_ret (v:=.tuple #[.agg #[.slice A9 sa.toList.length c9,.int .i64 val,.bool fd],.bool true]) (by simp [results,Tryz.results154,go_sem,y0,y1,y2]) rfl ⟨_,rfl,?_,ext_set (ext_set (ext_set HE9.out (by simp;omega) _) (by simp;omega) _) (by simp;omega) _⟩
        rw [HOU.out]
        have h1:=HRW.out.off (b:=w.heap.size+1+1+1) (i:=0) (u:=.slice A9 sa.toList.length c9) o0
        have h2:=h1.off (b:=w.heap.size+1+1+1) (i:=1) (u:=.int .i64 val) ((HO9.out.set_ 0 (.slice A9 sa.toList.length c9)).cell 0)
        exact h2.off (b:=w.heap.size+1+1+1) (i:=2) (u:=.bool fd) (((HO9.out.set_ 0 (.slice A9 sa.toList.length c9)).set_ 1 (.int .i64 val)).cell 0)
      · refine stepL rfl (by kernel_rfl) (fun K hK=>?_)
        go_simp
        go_at_call 193
        refine (HEF.out _).mono ?_
        rintro e V7 ⟨pb,pa,rfl,hpb,hpa,hbv⟩
        obtain ⟨pbp,rfl,hsb⟩:=hpb.shape
        obtain ⟨pap,rfl,hsa⟩:=hpa.shape
        have HB:=Lib.hid (ext_call HB.out hbv)
        have HM:=Lib.hid (HM.out.ext hbv)
        have HBX:=Lib.hid (HBX.out.ext hbv)
        have HPA:=Lib.hid (hpa.mono (Nat.zero_le _))
        have HPR:=Lib.hid (fun h1 h2 u W h3 h4=>HPR.out pbp pap mb ma sa h1 h2 u W h3 h4)
        obtain ⟨E7,hE7⟩:∃ E7,E7=E (.pointer pbp) (.pointer pap) mb ma:=⟨_,rfl⟩
        rw [← hE7] at HPR ⊢
        clear hbv hpb hpa hsb hsa hE7
        refine hK _ _ ⟨(HFX.out _ HB.out),?_⟩
        clear hK K
        refine allL [3] (by kernel_rfl) (by simp) ?_
        simp only [List.forall_mem_cons,List.not_mem_nil,false_implies,implies_true,and_true]
        refine stepL rfl (by kernel_rfl) (fun K hK=>?_)
        have hlk:=lookup_I (P:=Tryz.prog) Tryz.underlying293 Tryz.underlying3 HM.out kd (kindZero _)
        rw [HKV.out] at hlk
        simp only [Option.getD_some] at hlk
        go_simp
        clear hlk
        refine hK _ _ ⟨(HFX.out _ HB.out),?_⟩
        clear hK K
        refine takeFd 4 (some 24) (v:=?_) rfl rfl (by kernel_rfl) (by kernel_rfl) (by kernel_rfl) (by kernel_rfl) (fun _ _ _ h=>h) (Or.inl ⟨by kernel_rfl,?_⟩) (HFX.out _ HB.out) (fun _=>trivial) ?_
        rotate_left 1
        · (rintro w' ⟨f0,f1,f2,f3,f4,f5,f6,f7,f8,f9,f10,f11,f12,f13,f14,f15,f16,f17,f18,f19⟩;go_simp;with_reducible rfl)
        refine allL [9] (by kernel_rfl) (by simp) ?_
        simp only [List.forall_mem_cons,List.not_mem_nil,false_implies,implies_true,and_true]
        refine stepL rfl (by kernel_rfl) (fun K hK=>?_)
        go_simp
        go_at_call 212
        refine (HPR.out (HK.out (by first|rfl|trivial)).1 (HK.out (by first|rfl|trivial)).2 _ _ (HL2.out.ext HB.out) HPA.out).mono ?_
        rintro e V9 ⟨u9,rfl,hu9,hbv⟩
        obtain ⟨A9,c9,rfl,-⟩:=id hu9
        have HB:=Lib.hid (ext_call HB.out hbv)
        have HM:=Lib.hid (HM.out.ext hbv)
        have HPA:=Lib.hid (HPA.out.ext hbv)
        have HBX:=Lib.hid (HBX.out.ext hbv)
        have HRW:=Lib.hid hu9
        clear hbv hu9
        refine hK _ _ ⟨(HFX.out _ HB.out),?_⟩
        clear hK K
        refine takeFd 10 (some 19) (v:=?_) rfl rfl (by kernel_rfl) (by kernel_rfl) (by kernel_rfl) (by kernel_rfl) (fun _ _ _ h=>h) (Or.inl ⟨by kernel_rfl,?_⟩) (HFX.out _ HB.out) (fun _=>trivial) ?_
        rotate_left 1
        · (rintro w' ⟨f0,f1,f2,f3,f4,f5,f6,f7,f8,f9,f10,f11,f12,f13,f14,f15,f16,f17,f18,f19⟩;go_simp;with_reducible rfl)
        refine takeFd 11 (some 30) (v:=?_) rfl rfl (by kernel_rfl) (by kernel_rfl) (by kernel_rfl) (by kernel_rfl) (fun _ _ _ h=>h) (Or.inl ⟨by kernel_rfl,?_⟩) (HFX.out _ HB.out) (fun _=>trivial) ?_
        rotate_left 1
        · (rintro w' ⟨f0,f1,f2,f3,f4,f5,f6,f7,f8,f9,f10,f11,f12,f13,f14,f15,f16,f17,f18,f19⟩;go_simp;with_reducible rfl)
        refine takeFd 12 (some 31) (v:=?_) rfl rfl (by kernel_rfl) (by kernel_rfl) (by kernel_rfl) (by kernel_rfl) (fun _ _ _ h=>h) (Or.inl ⟨by kernel_rfl,?_⟩) (HFX.out _ HB.out) (fun _=>trivial) ?_
        rotate_left 1
        · (rintro w' ⟨f0,f1,f2,f3,f4,f5,f6,f7,f8,f9,f10,f11,f12,f13,f14,f15,f16,f17,f18,f19⟩;go_simp;with_reducible rfl)
        refine allL [14] (by kernel_rfl) (by simp) ?_
        simp only [List.forall_mem_cons,List.not_mem_nil,false_implies,implies_true,and_true]
        refine stepL rfl (by kernel_rfl) (fun K hK=>?_)
        have x0:=HBX.out.cell 0;have x1:=HBX.out.cell 1;have x2:=HBX.out.cell 2
        have xf0:=HBX.out.frozen 0
        have xf1:=HBX.out.frozen 1
        have xf2:=HBX.out.frozen 2
        obtain ⟨V14,hV14⟩:∃ V14,V14=World.setCell (World.setCell (World.setCell V9 ⟨gb,0,none⟩ (.slice A9 sa.toList.length c9)) ⟨gb,1,none⟩ (.int .i64 val)) ⟨gb,2,none⟩ (.bool fd):=⟨_,rfl⟩
        have HRW:=Lib.hid (show RowsL V14 (.slice A9 sa.toList.length c9) sa.toList by rw [hV14];exact ((HRW.out.off (b:=gb) (i:=0) (u:=.slice A9 sa.toList.length c9) x0).off (b:=gb) (i:=1) (u:=.int .i64 val) ((HBX.out.set_ 0 (.slice A9 sa.toList.length c9)).cell 0)).off (b:=gb) (i:=2) (u:=.bool fd) (((HBX.out.set_ 0 (.slice A9 sa.toList.length c9)).set_ 1 (.int .i64 val)).cell 0))
        have HBX:=Lib.hid (show Blk V14 gb 36 #[.slice A9 sa.toList.length c9,.int .i64 val,.bool fd] by rw [hV14];exact ((HBX.out.set_ 0 _).set_ 1 _).set_ 2 _)
        have HB:=Lib.hid (show Below W2.heap.size W2 V14 by rw [hV14];exact ext_set (ext_set (ext_set HB.out HGB.out _) HGB.out _) HGB.out _)
        go_simp
        rw [← hV14]
        clear hV14 x0 x1 x2 xf0 xf1 xf2
        refine hK _ _ ⟨(HFX.out _ HB.out),?_⟩
        clear hK K
        refine takeFd 15 (some 9) (v:=?_) rfl rfl (by kernel_rfl) (by kernel_rfl) (by kernel_rfl) (by kernel_rfl) (fun _ _ _ h=>h) (Or.inl ⟨by kernel_rfl,?_⟩) (HFX.out _ HB.out) (fun _=>trivial) ?_
        rotate_left 1
        · (rintro w' ⟨f0,f1,f2,f3,f4,f5,f6,f7,f8,f9,f10,f11,f12,f13,f14,f15,f16,f17,f18,f19⟩;go_simp;with_reducible rfl)
        refine doneL (by kernel_rfl) ?_ _
        have HO9:=Lib.hid (HO2.out.ext HB.out)
        have HE9:=Lib.hid (ext_call HE2.out HB.out)
        have x0:=HBX.out.cell 0;have x1:=HBX.out.cell 1;have x2:=HBX.out.cell 2
        have o0:=HO9.out.cell 0;have o1:=HO9.out.cell 1;have o2:=HO9.out.cell 2
        have g0:=HO9.out.frozen 0
        have g1:=HO9.out.frozen 1
        have g2:=HO9.out.frozen 2
        go_wp2
        have hBf:=((HO9.out.set_ 0 (.slice A9 sa.toList.length c9)).set_ 1 (.int .i64 val)).set_ 2 (.bool fd)
        have y0:=hBf.cell 0;have y1:=hBf.cell 1;have y2:=hBf.cell 2
        refine bodyPost_ret (v:=.tuple #[.agg #[.slice A9 sa.toList.length c9,.int .i64 val,.bool fd],.bool true]) (by simp [results,Tryz.results154,go_sem,y0,y1,y2]) rfl ⟨_,rfl,?_,ext_set (ext_set (ext_set HE9.out (by simp;omega) _) (by simp;omega) _) (by simp;omega) _⟩
        rw [HOU.out]
        have h1:=HRW.out.off (b:=w.heap.size+1+1+1) (i:=0) (u:=.slice A9 sa.toList.length c9) o0
        have h2:=h1.off (b:=w.heap.size+1+1+1) (i:=1) (u:=.int .i64 val) ((HO9.out.set_ 0 (.slice A9 sa.toList.length c9)).cell 0)
        exact h2.off (b:=w.heap.size+1+1+1) (i:=2) (u:=.bool fd) (((HO9.out.set_ 0 (.slice A9 sa.toList.length c9)).set_ 1 (.int .i64 val)).cell 0)
end Go.Proofs.YtimoapjhepmehaaGreatDoor
