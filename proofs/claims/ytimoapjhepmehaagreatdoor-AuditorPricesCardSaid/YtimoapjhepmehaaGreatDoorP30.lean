/-
  package predicate: patchRows where all rows are the change's.
-/
import Derived.Test.YtimoapjhepmehaaGreatDoorP28
import Derived.Test.YtimoapjhepmehaaGreatDoorP29
set_option linter.unusedSimpArgs false
set_option linter.unusedVariables false
set_option maxHeartbeats 4000000
set_option maxRecDepth 100000
namespace Go.Proofs.YtimoapjhepmehaaGreatDoor
open Go.RowKit Go.Shelf
attribute [local go_sem ↓] app_exec app_sem Go.wp_at_zero Go.wp_at_succ
theorem exec_load_row {P:Program} {w:World} {ρ:Operand→Value} {o:Oper} (ty:TypeId) (x:Operand) (ho:o.op=.load ty x) (g:Nat) (hx:ρ x=.pointer (some ⟨g,0,none⟩)) (t:TypeId) (cs:Array Value) (d:TypeDesc) (hg:Blk w g t cs)
    (hu:P.underlying ty=some d) (hd:(match d with | .struct _ | .array _ _=>true|_=>false)=true) (hi:(P.info? ty).map (·.size)=some cs.size):(execOp ρ o).run P w=.ok (.value (.agg cs)) w:=by
  unfold execOp
  simp only [ho,hx,Instr.loadAt,Instr.sureAddr,Sem.run_bind,Sem.run_pure,Result.andThen_ok,run_loadVar_row w g t ty cs (0,0) d hg hu hd hi]
theorem dropFn (be:Nat) (E:Array Value) (j:Int) (c:ChgT) (pb pa:Option Addr) (hE:EffIs E j c pb pa):RowFn (fun W=>Blk W be 297 E) 233 #[.pointer (some ⟨be,0,none⟩)] (fun r=>decide (r.t=c.t) && decide (r.k=c.k)) where
  enters:=enters_of Tryz.func233 (by kernel_rfl) rfl
  keeps:=fun W W' h k=>h.ext k
  tells := fun r w hB => by
    have x7:(w.alloc (.cells #[.int .i64 r.t,.int .i64 r.k,.int .i64 r.a,.int .i64 r.b,.int .i64 r.c] 67)).cell? ⟨be,7,none⟩=some (.int .i64 c.t):=((hB.alloc _).cell 7).trans hE.c7
    have x8:(w.alloc (.cells #[.int .i64 r.t,.int .i64 r.k,.int .i64 r.a,.int .i64 r.b,.int .i64 r.c] 67)).cell? ⟨be,8,none⟩=some (.int .i64 c.k):=((hB.alloc _).cell 8).trans hE.c8
    obtain ⟨r0,r1,r2,r3,r4⟩:=r
    dsimp only at *
    simp only [List.push_toArray,List.append_toArray,List.cons_append,List.nil_append]
    generalize c.t=ct at *
    generalize c.k=ck at *
    clear hE hB
    by_cases h1:r0=ct
    · subst h1
      by_cases h2:r1=ck
      · subst h2
        go_enter Tryz.func233,Tryz.ntmps233
        go_wp2
        go_ret
        exact ⟨by simp,ext_new _ _⟩
      · have b2:(r1 == ck)=false:=by simpa using h2
        go_enter Tryz.func233,Tryz.ntmps233
        go_wp2
        go_ret
        exact ⟨by simp [h2],ext_new _ _⟩
    · have b1:(r0 == ct)=false:=by simpa using h1
      go_enter Tryz.func233,Tryz.ntmps233
      go_wp2
      go_ret
      exact ⟨by simp [h1],ext_new _ _⟩
theorem RowsL.off {W:World} {v u:Value} {l:List RowT} (h:RowsL W v l) {b i:Nat} {A:Option Addr} {n c:Nat} (hx:W.cell? ⟨b,0,none⟩=some (.slice A n c)):RowsL (W.setCell ⟨b,i,none⟩ u) v l:=h.far hx (by intro n h;cases h) i u
theorem patchRowsRow {E:Array Value} {j:Nat} (hj:j<4) {c:ChgT} {pb pa:Option Addr} (hE:EffIs E (j:Int) c pb pa) (sa:Option RowT) (l:List RowT) (hl:l.length≤1) (hk:∀ r ∈ l,r.t=c.t∧r.k=c.k) (v:Value) (val:Int) (fd:Bool) (w:World) (hv:RowsL w v l) (hpa:PtrR 0 w (.pointer pa) sa) :
    Calls Tryz.prog 212 #[.agg E,.agg #[v,.int .i64 val,.bool fd]] w fun e w'=>∃ u,e=.returned (.tuple #[.agg #[u,.int .i64 val,.bool fd],.bool true])∧RowsL w' u sa.toList∧Below w.heap.size w w':=by
  have hmf:∀ (fn:Fn) (first cap:Array Value) (w:World),(Instr.makeFunc fn first cap).run Tryz.prog w=.ok (.func fn first cap) w:=fun _ _ _ _=>rfl
  obtain ⟨W0,hW0⟩:∃ W0,W0=((w.alloc (.cells E 297)).alloc (.cells #[v,.int .i64 val,.bool fd] 36)).alloc (.cells #[.slice none 0 0,.int .i64 0,.bool false] 36):=⟨_,rfl⟩
  have hE0:Below w.heap.size w W0:=by rw [hW0];exact ext_alloc (ext_alloc (ext_new _ _) _) _
  have HE0:=Lib.hid hE0
  have HB0:=Lib.hid (show Blk W0 w.heap.size 297 E by rw [hW0];exact ((Blk.new w 297 E).alloc _).alloc _)
  have HR0:=Lib.hid (show Blk W0 (w.heap.size+1) 36 #[v,.int .i64 val,.bool fd] by rw [hW0];exact (Blk.new' _ _ _ (by simp)).alloc _)
  have HO0:=Lib.hid (show Blk W0 (w.heap.size+1+1) 36 #[.slice none 0 0,.int .i64 0,.bool false] by rw [hW0];exact Blk.new' _ _ _ (by simp))
  have HPA:=Lib.hid hpa
  have HWO:=Lib.hid (withoutRow (dropFn w.heap.size E (j:Int) c pb pa hE) l hl (fun r hr=>by simp [hk r hr]) v W0 HB0.out (hv.ext hE0))
  have HEI:=Lib.hid hE
  have HI:=Lib.hid (eff_size.trans (by rw [← hE.size]))
  have HW0:=Lib.hid hW0
  obtain ⟨A,cc,rfl,-⟩:=hv
  clear hW0 hE0 hpa hE hk
  go_enter Tryz.func212,Tryz.ntmps212
  go_upto_region 1 with (fail)
  rw [← HW0.out]
  have r0:=HR0.out.cell 0
  go_wp2_with fail
  refine HWO.out.mono ?_
  rintro e W1 ⟨u,rfl,hu,hb1⟩
  have hB1:=HB0.out.ext hb1
  have HB1:=Lib.hid hB1
  have hR1:=HR0.out.ext hb1
  have hO1:=HO0.out.ext hb1
  have HE1:=Lib.hid (ext_call HE0.out hb1)
  have HZ0:=Lib.hid (show w.heap.size+1+1<W0.heap.size from HO0.out.lt)
  obtain ⟨Au,cu,rfl⟩:=own_shape hu
  have r0:=hR1.cell 0
  have f0:=hR1.frozen 0
  have x18:W1.cell? ⟨w.heap.size,18,none⟩=some (.pointer pa):=(hB1.cell 18).trans HEI.out.c18
  obtain ⟨X,hX⟩:∃ X,X=W1.setCell ⟨w.heap.size+1,0,none⟩ (.slice Au 0 cu):=⟨_,rfl⟩
  have HUX:=Lib.hid (show X.ownsRow W0.heap.size 67 5 (.slice Au 0 cu) 0 [] by rw [hX];exact own_heap hu (r:=w.heap.size+1) (by have:=HZ0.out;omega) (fun k hk=>Below.heap_setCell _ _ _ _ hk) (by simp [World.setCell]) rfl rfl rfl)
  have HBX:=Lib.hid (show Blk X w.heap.size 297 E by rw [hX];exact hB1.far (p:=⟨w.heap.size+1,0,none⟩) (by simp) _)
  have HRX:=Lib.hid (show Blk X (w.heap.size+1) 36 #[.slice Au 0 cu,.int .i64 val,.bool fd] by rw [hX];exact hR1.set_ 0 _)
  have HOX:=Lib.hid (show Blk X (w.heap.size+1+1) 36 #[.slice none 0 0,.int .i64 0,.bool false] by rw [hX];exact hO1.far (p:=⟨w.heap.size+1,0,none⟩) (by simp) _)
  have HEX:=Lib.hid (show Below w.heap.size w X by rw [hX];exact ext_set HE1.out (by simp) _)
  have HXX:=Lib.hid hX
  have HXZ:=Lib.hid (show W0.heap.size≤X.heap.size by rw [hX];simpa [World.setCell] using hb1.size)
  clear hu hb1 hB1 hR1 hO1 hX HR0 HO0 HB0 HWO HE0 HB1
  go_upto_region 2 with (fail)
  rw [← HXX.out]
  clear r0 f0 x18 HXX
  have x18:X.cell? ⟨w.heap.size,18,none⟩=some (.pointer pa):=(HBX.out.cell 18).trans HEI.out.c18
  have r0:=HRX.out.cell 0;have r1:=HRX.out.cell 1;have r2:=HRX.out.cell 2
  have o0:=HOX.out.cell 0;have o1:=HOX.out.cell 1;have o2:=HOX.out.cell 2
  have f0:=HOX.out.frozen 0
  have f1:=HOX.out.frozen 1
  have f2:=HOX.out.frozen 2
  cases pa with
  | none=>
    have hsa:sa=none:=by
      cases sa with
      | none=>rfl
      | some r=>obtain ⟨g,h1,_⟩:=HPA.out;cases h1
    subst hsa
    go_wp2
    have hBf:=((HOX.out.set_ 0 (.slice Au 0 cu)).set_ 1 (.int .i64 val)).set_ 2 (.bool fd)
    have y0:=hBf.cell 0;have y1:=hBf.cell 1;have y2:=hBf.cell 2
    refine bodyPost_ret (v:=.tuple #[.agg #[.slice Au 0 cu,.int .i64 val,.bool fd],.bool true]) (by simp [results,Tryz.results212,go_sem,y0,y1,y2]) rfl ⟨_,rfl,?_,ext_set (ext_set (ext_set HEX.out (by simp;omega) _) (by simp;omega) _) (by simp;omega) _⟩
    exact ⟨Au,cu,rfl,fun h=>absurd h (by simp)⟩
  | some ap=>
    obtain ⟨r,gp,rfl,rfl,hgp⟩:∃ r gp,sa=some r∧ap=⟨gp,0,none⟩∧Blk w gp 67 #[.int .i64 r.t,.int .i64 r.k,.int .i64 r.a,.int .i64 r.b,.int .i64 r.c]:=by
      cases sa with
      | none=>have h1:(Value.pointer (some ap))=.pointer none:=HPA.out;injection h1 with h1;cases h1
      | some r=>obtain ⟨g,h1,_,h2⟩:=HPA.out;injection h1 with h1;injection h1 with h1;exact ⟨r,g,rfl,h1,h2⟩
    have HGP:=Lib.hid (hgp.ext HEX.out)
    have hgl:gp<w.heap.size:=hgp.lt
    have HBH:=Lib.hid (fun (W:World) (h:Blk W gp 67 #[.int .i64 r.t,.int .i64 r.k,.int .i64 r.a,.int .i64 r.b,.int .i64 r.c])=>behindE hj HEI.out r W h)
    have HSO:=Lib.hid (show ∀ k,(Value.slice Au 0 cu).ownBlock=some k→W0.heap.size≤k from fun k hk=>(HUX.out.lt k hk).1)
    have HFX:=Lib.hid (show ∀ Z,ExtS (fun k=>k=w.heap.size+1∨(Value.slice Au 0 cu).ownBlock=some k) X Z→(Blk Z w.heap.size 297 E∧Z.cell? ⟨w.heap.size,18,none⟩=some (.pointer (some ⟨gp,0,none⟩))∧Z.cell? ⟨gp,0,none⟩=some (.int .i64 r.t)∧Z.cell? ⟨gp,1,none⟩=some (.int .i64 r.k)∧Z.cell? ⟨gp,2,none⟩=some (.int .i64 r.a)∧Z.cell? ⟨gp,3,none⟩=some (.int .i64 r.b)∧Z.cell? ⟨gp,4,none⟩=some (.int .i64 r.c)) from fun Z h=>by
      have hb:=ExtS.blk HBX.out h (by rintro (h|h);omega;have:=HSO.out _ h;have:=HZ0.out;omega)
      have hg:=ExtS.blk HGP.out h (by rintro (h|h);omega;have:=HSO.out _ h;have:=HZ0.out;omega)
      exact ⟨hb,(hb.cell 18).trans HEI.out.c18,hg.cell 0,hg.cell 1,hg.cell 2,hg.cell 3,hg.cell 4⟩)
    have HRS:=Lib.hid (show ∀ Z,ExtS (fun k=>(Value.slice Au 0 cu).ownBlock=some k) X Z→Blk Z (w.heap.size+1) 36 #[.slice Au 0 cu,.int .i64 val,.bool fd] from fun Z h=>ExtS.blk HRX.out h (fun h=>by have:=HSO.out _ h;have:=HZ0.out;omega))
    have HGX:=Lib.hid (show ∀ Z,ExtS (fun k=>(Value.slice Au 0 cu).ownBlock=some k) X Z→Z.cell? ⟨w.heap.size+1,0,none⟩=some (.slice Au 0 cu) from fun Z h=>(HRS.out Z h).cell 0)
    have HB:=Lib.hid (show Below X.heap.size X X.drew from (ext_refl X).drew)
    have HG:=Lib.hid (show ExtS (fun k=>(Value.slice Au 0 cu).ownBlock=some k) X X.drew from ExtS.of_ext HB.out)
    have HGB:=Lib.hid (fun (Z:World) (h:Below X.heap.size X Z)=>HGP.out.ext h)
    have HIN:=Lib.hid (fun (n:Nat) (caps:Array Value) (Z:World) (h:Below X.heap.size X Z)=>insertedNone r n caps W0.heap.size (.slice Au 0 cu) Z (Nat.le_trans HXZ.out h.size) (own_ext HUX.out h))
    have HI':=HI
    obtain ⟨q0,q1,q2,q3,q4⟩:=r
    dsimp only at *
    clear r0 r1 r2 o0 o1 o2 f0 f1 f2
    go_wp2
    clear x18
    refine wp_region_L (fun Z=>Blk Z w.heap.size 297 E∧Z.cell? ⟨w.heap.size,18,none⟩=some (.pointer (some ⟨gp,0,none⟩))∧Z.cell? ⟨gp,0,none⟩=some (.int .i64 q0)∧Z.cell? ⟨gp,1,none⟩=some (.int .i64 q1)∧Z.cell? ⟨gp,2,none⟩=some (.int .i64 q2)∧Z.cell? ⟨gp,3,none⟩=some (.int .i64 q3)∧Z.cell? ⟨gp,4,none⟩=some (.int .i64 q4)) (fun Z=>Z.cell? ⟨w.heap.size+1,0,none⟩=some (.slice Au 0 cu)) [10] (by kernel_rfl) ?_
    refine takeFd 0 (some 14) (v:=?_) rfl rfl (by kernel_rfl) (by kernel_rfl) (by kernel_rfl) (by kernel_rfl) (fun _ _ _ h=>h) (Or.inl ⟨by kernel_rfl,?_⟩) (HFX.out _ (HG.out.mono (fun k h=>.inr h))) (fun _=>(HGX.out _ HG.out)) ?_
    rotate_left 1
    · (rintro w' ⟨fB,f18,f0,f1,f2,f3,f4⟩;go_simp;with_reducible rfl)
    refine takeGd 1 (some 15) (v:=?_) rfl rfl (by kernel_rfl) (by kernel_rfl) (by kernel_rfl) (by kernel_rfl) (by kernel_rfl) (by kernel_rfl) (fun _ _ _ h=>h) (Or.inl ⟨by kernel_rfl,?_⟩) (HFX.out _ (HG.out.mono (fun k h=>.inr h))) (HGX.out _ HG.out) ?_
    rotate_left 1
    · (rintro w' g0;go_simp;with_reducible rfl)
    refine takeFd 2 (some 16) (v:=?_) rfl rfl (by kernel_rfl) (by kernel_rfl) (by kernel_rfl) (by kernel_rfl) (fun _ _ _ h=>h) (Or.inl ⟨by kernel_rfl,?_⟩) (HFX.out _ (HG.out.mono (fun k h=>.inr h))) (fun _=>(HGX.out _ HG.out)) ?_
    rotate_left 1
    · (rintro w' ⟨fB,f18,f0,f1,f2,f3,f4⟩;go_simp;with_reducible rfl)
    refine takeFd 3 (some 17) (v:=?_) rfl rfl (by kernel_rfl) (by kernel_rfl) (by kernel_rfl) (by kernel_rfl) (fun _ _ _ h=>h) (Or.inl ⟨by kernel_rfl,?_⟩) (HFX.out _ (HG.out.mono (fun k h=>.inr h))) (fun _=>(HGX.out _ HG.out)) ?_
    rotate_left 1
    · (rintro w' ⟨fB,f18,f0,f1,f2,f3,f4⟩;go_simp;with_reducible rfl)
    refine takeFd 4 (some 18) (v:=?_) rfl rfl (by kernel_rfl) (by kernel_rfl) (by kernel_rfl) (by kernel_rfl) (fun _ _ _ h=>h) (Or.inl ⟨by kernel_rfl,?_⟩) (HFX.out _ (HG.out.mono (fun k h=>.inr h))) (fun _=>(HGX.out _ HG.out)) ?_
    rotate_left 1
    · (rintro w' ⟨fB,f18,f0,f1,f2,f3,f4⟩;go_simp;with_reducible rfl)
    refine takeFd 5 (some 19) (v:=?_) rfl rfl (by kernel_rfl) (by kernel_rfl) (by kernel_rfl) (by kernel_rfl) (fun _ _ _ h=>h) (Or.inl ⟨by kernel_rfl,?_⟩) (HFX.out _ (HG.out.mono (fun k h=>.inr h))) (fun _=>(HGX.out _ HG.out)) ?_
    rotate_left 1
    · (rintro w' ⟨fB,f18,f0,f1,f2,f3,f4⟩;go_simp;with_reducible rfl)
    refine takeFd 6 (some 20) (v:=?_) rfl rfl (by kernel_rfl) (by kernel_rfl) (by kernel_rfl) (by kernel_rfl) (fun _ _ _ h=>h) (Or.inl ⟨by kernel_rfl,?_⟩) (HFX.out _ (HG.out.mono (fun k h=>.inr h))) (fun _=>(HGX.out _ HG.out)) ?_
    rotate_left 1
    · (rintro w' ⟨fB,_⟩;refine exec_load_row 297 (.tmp 2) ?_ w.heap.size ?_ 297 E _ fB Tryz.underlying297 ?_ HI'.out <;> rfl)
    refine allL [7] (by kernel_rfl) (by simp) ?_
    simp only [List.forall_mem_cons,List.not_mem_nil,false_implies,implies_true,and_true]
    refine stepL rfl (by kernel_rfl) (fun K hK=>?_)
    go_simp
    go_at_call 235
    refine (HBH.out _ (HGB.out _ HB.out)).mono ?_
    rintro e V7 ⟨n,caps,rfl,hbv⟩
    have HB:=Lib.hid (ext_call HB.out hbv)
    have HG:=Lib.hid (HG.out.trans (ExtS.of_ext hbv))
    clear hbv
    refine hK _ _ ⟨⟨(HFX.out _ (HG.out.mono (fun k h=>.inr h))),fun _=>(HGX.out _ HG.out)⟩,?_⟩
    clear hK K
    refine allL [8] (by kernel_rfl) (by simp) ?_
    simp only [List.forall_mem_cons,List.not_mem_nil,false_implies,implies_true,and_true]
    refine stepL rfl (by kernel_rfl) (fun K hK=>?_)
    go_simp
    go_at_call 234
    refine (HIN.out n caps _ HB.out).mono ?_
    rintro e V8 ⟨u2,rfl,hu2,hx8⟩
    have HG:=Lib.hid (HG.out.trans hx8)
    have HU2:=Lib.hid hu2
    obtain ⟨A2,c2,rfl⟩:=own_shape hu2
    clear hu2 hx8
    refine hK _ _ ⟨⟨(HFX.out _ (HG.out.mono (fun k h=>.inr h))),fun _=>(HGX.out _ HG.out)⟩,?_⟩
    clear hK K
    refine takeFd 9 (some 23) (v:=?_) rfl rfl (by kernel_rfl) (by kernel_rfl) (by kernel_rfl) (by kernel_rfl) (fun _ _ _ h=>h) (Or.inl ⟨by kernel_rfl,?_⟩) (HFX.out _ (HG.out.mono (fun k h=>.inr h))) (fun _=>(HGX.out _ HG.out)) ?_
    rotate_left 1
    · (rintro w' ⟨fB,f18,f0,f1,f2,f3,f4⟩;go_simp;with_reducible rfl)
    refine allL [10] (by kernel_rfl) (by simp) ?_
    simp only [List.forall_mem_cons,List.not_mem_nil,false_implies,implies_true,and_true]
    refine stepL rfl (by kernel_rfl) (fun K hK=>?_)
    have s0:=(HRS.out _ HG.out).cell 0
    have sf:=(HRS.out _ HG.out).frozen 0
    go_simp
    have HQ:=Lib.hid ((HG.out.mono (fun k h=>.inr h)).trans (show ExtS (fun k=>k=w.heap.size+1∨(Value.slice Au 0 cu).ownBlock=some k) V8 (V8.setCell ⟨w.heap.size+1,0,none⟩ (.slice A2 1 c2)) from ⟨rfl,rfl,rfl,by simp [World.setCell],fun k _ hn=>Below.heap_setCell _ _ _ _ (fun e=>hn (.inl e))⟩))
    refine hK _ _ ⟨⟨(HFX.out _ HQ.out),fun h=>absurd h (by decide)⟩,?_⟩
    clear hK K s0 sf
    refine doneL (by kernel_rfl) ?_ _
    have hR9:=(HRS.out _ HG.out).set_ 0 (.slice A2 1 c2)
    have hO9:=ExtS.blk HOX.out HQ.out (by rintro (h|h);omega;have:=HSO.out _ h;have:=HZ0.out;omega)
    have HO9:=Lib.hid hO9
    have HE9:=Lib.hid (ExtS.below HEX.out (fun k h=>by rcases h with h|h;omega;have:=HSO.out _ h;have:=HZ0.out;omega) HQ.out)
    have HL9:=Lib.hid ((own_rows5 (l:=[⟨q0,q1,q2,q3,q4⟩]) HU2.out).off (b:=w.heap.size+1) (i:=0) (u:=.slice A2 1 c2) ((HRS.out _ HG.out).cell 0))
    have r0:=hR9.cell 0;have r1:=hR9.cell 1;have r2:=hR9.cell 2
    have o0:=hO9.cell 0;have o1:=hO9.cell 1;have o2:=hO9.cell 2
    have f0:=hO9.frozen 0
    have f1:=hO9.frozen 1
    have f2:=hO9.frozen 2
    clear hR9 hO9
    generalize World.setCell V8 ⟨w.heap.size+1,0,none⟩ (.slice A2 1 c2)=V9 at *
    go_wp2
    have hBf:=((HO9.out.set_ 0 (.slice A2 1 c2)).set_ 1 (.int .i64 val)).set_ 2 (.bool fd)
    have y0:=hBf.cell 0;have y1:=hBf.cell 1;have y2:=hBf.cell 2
    refine bodyPost_ret (v:=.tuple #[.agg #[.slice A2 1 c2,.int .i64 val,.bool fd],.bool true]) (by simp [results,Tryz.results212,go_sem,y0,y1,y2]) rfl ⟨_,rfl,?_,ext_set (ext_set (ext_set HE9.out (by simp;omega) _) (by simp;omega) _) (by simp;omega) _⟩
    have h1:=HL9.out.off (b:=w.heap.size+1+1) (i:=0) (u:=.slice A2 1 c2) o0
    have h2:=h1.off (b:=w.heap.size+1+1) (i:=1) (u:=.int .i64 val) ((HO9.out.set_ 0 (.slice A2 1 c2)).cell 0)
    exact h2.off (b:=w.heap.size+1+1) (i:=2) (u:=.bool fd) (((HO9.out.set_ 0 (.slice A2 1 c2)).set_ 1 (.int .i64 val)).cell 0)
end Go.Proofs.YtimoapjhepmehaaGreatDoor
