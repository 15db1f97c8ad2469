/-
  package cachetierref02: block.
-/
import Derived.Test.YtnajpjnnlocfgaaGreatDoorJ38
import Derived.BigQuiet
import Derived.Deep.RegionHeld3
import Derived.StillTailTactics
import Derived.Deep.DeepAppendRoom
import Derived.ArgAppend
set_option linter.unusedSimpArgs false
set_option linter.unusedVariables false
namespace Go.Proofs.YtnajpjnnlocfgaaGreatDoor
open Go.RowKit Go.Shelf
attribute [local go_sem ↓] app_exec app_sem Go.wp_at_zero Go.wp_at_succ
theorem own_cells2 {W:World} {B e sz n:Nat} {v:Value} {xs:List Value} (h:W.ownsRow B e sz v n xs) (h0:0<n):∃ g cap,v=.slice (some ⟨g,0,none⟩) n cap∧B≤g∧g<W.heap.size∧n≤cap∧∀ (i:Nat) (u:Value),xs[i]? = some u→W.cell? ⟨g,i,none⟩=some u:=by
  obtain ⟨_,h2⟩:=h
  rcases h2 with ⟨_,h3⟩|⟨g,cap,cur,h3,h4,h5,h6,_,h8,h9⟩
  · omega
  refine ⟨g,cap,h3,h4,(Array.getElem?_eq_some_iff.1 h5).1,h6,fun i u hu=>?_⟩
  have hb:Blk W g e cur:=h5
  rw [hb.cell]
  rw [← h9,List.getElem?_take] at hu
  split at hu
  · simpa using hu
  · cases hu
def cellsU (l:List Int):List Value:=l.map (Value.int .u32)
def EW (w W:World) (v:Value) (l:List Int):Prop:=W.ownsRow w.heap.size 187 1 v l.length (cellsU l)∧Below w.heap.size w W
theorem EW.app {w W:World} {v:Value} {l:List Int} (h:EW w W v l) (hn:l.length≤1000000) (x:Int) :
    AppOK Tryz.prog (W.alloc (.cells #[.int .u32 x] 187)) 232 232 v (.slice (some ⟨W.heap.size,0,none⟩) 1 1)∧∃ W',appW Tryz.prog (W.alloc (.cells #[.int .u32 x] 187)) 232 232 v (.slice (some ⟨W.heap.size,0,none⟩) 1 1)=W' ∧
      ∃ v',appV Tryz.prog (W.alloc (.cells #[.int .u32 x] 187)) 232 232 v (.slice (some ⟨W.heap.size,0,none⟩) 1 1)=v'∧EW w W' v' (l++[x])∧(∀ b,b<w.heap.size∨v.ownBlock≠some b→b<W.heap.size→W'.heap[b]? = W.heap[b]?):=by
  obtain ⟨i0,hi,hz0,hz1,hz2⟩:=info_parts u32_info
  have hz:=h.2.size
  obtain ⟨h1,h2,h3⟩:=app_own (P:=Tryz.prog) (w:=W.alloc (.cells #[.int .u32 x] 187)) w.heap.size 232 232 187 i0 (.int .u32 0) 1 4 Tryz.underlying232 hi hz0 hz1 hz2 rfl (by decide) v l.length (cellsU l) (h.1.alloc _) ⟨W.heap.size,0,none⟩ 1 1 [.int .u32 x] rfl (cell_one_new _ _ _) (by simp [Value.oneCell']) (by unfold maxLen;omega) (by omega) (by simp;omega)
  refine ⟨h1,_,rfl,_,rfl,⟨by rw [List.length_append,List.length_singleton,show cellsU (l++[x])=cellsU l++[.int .u32 x] by simp [cellsU]];exact h2,(ext_alloc h.2 _).grown h3 (by simp;omega) (fun g hg=>(h.1.lt g hg).1)⟩,fun b hb hlt=>?_⟩
  refine (h3.block b (by simp;omega) fun e=>?_).trans ((ext_new W _).block b hlt)
  rcases hb with hb|hb
  · have:=(h.1.lt b e.symm).1;omega
  · exact hb e.symm
theorem EW.appD {w W:World} {v:Value} {l:List Int} (h:EW w W v l) (hn:l.length≤1000000) (x:Int) :
    AppOK Tryz.prog (W.alloc (.cells #[.int .u32 x] 187)).drew 232 232 v (.slice (some ⟨W.heap.size,0,none⟩) 1 1)∧∃ W',appW Tryz.prog (W.alloc (.cells #[.int .u32 x] 187)).drew 232 232 v (.slice (some ⟨W.heap.size,0,none⟩) 1 1)=W' ∧
      ∃ v',appV Tryz.prog (W.alloc (.cells #[.int .u32 x] 187)).drew 232 232 v (.slice (some ⟨W.heap.size,0,none⟩) 1 1)=v'∧EW w W' v' (l++[x])∧(∀ b,b<w.heap.size∨v.ownBlock≠some b→b<W.heap.size→W'.heap[b]? = W.heap[b]?):=EW.app (show EW w W.drew v l from ⟨h.1.drew,h.2.drew⟩) hn x
theorem app_keep (W:World) (base g n cap:Nat) (xs:List Value) (hown:W.ownsRow base 187 1 (.slice (some ⟨g,0,none⟩) n cap) n xs) (x:Int) (hn:n≤1000000) (hg:g<W.heap.size) (j:Nat) (u:Value) (hj:xs[j]? = some u) :
    (appW Tryz.prog (W.alloc (.cells #[.int .u32 x] 187)).drew 232 232 (.slice (some ⟨g,0,none⟩) n cap) (.slice (some ⟨W.heap.size,0,none⟩) 1 1)).cell? ⟨g,j,none⟩=some u:=by
  obtain ⟨i0,hi,hz0,hz1,hz2⟩:=info_parts u32_info
  have ho:(W.alloc (.cells #[.int .u32 x] 187)).drew.ownsRow base 187 1 (.slice (some ⟨g,0,none⟩) n cap) n xs:=(hown.alloc _).drew
  have hjl:=(List.getElem?_eq_some_iff.1 hj).1
  by_cases hr:n+1≤cap
  · obtain ⟨w',h1,h2,h3⟩:=run_append_own_spare (P:=Tryz.prog) _ base 232 232 187 i0 1 Tryz.underlying232 hi hz1 g n cap xs ho ⟨W.heap.size,0,none⟩ 1 1 [.int .u32 x] rfl (cell_one_new _ _ _) (by simp [Value.oneCell']) hr
    unfold appW
    rw [h1]
    exact own_cell h2 (by rw [List.getElem?_append_left hjl];exact hj)
  · obtain ⟨v',w',h1,h2,h3⟩:=run_append_arg_grows (P:=Tryz.prog) (w:=(W.alloc (.cells #[.int .u32 x] 187)).drew) 232 232 187 i0 (.int .u32 0) 1 4 Tryz.underlying232 hi hz0 hz1 hz2 rfl (by decide) ⟨g,0,none⟩ n cap xs ho.1 (fun j u hu=>by rw [add_lit0];exact own_cell ho hu) ⟨W.heap.size,0,none⟩ 1 1 [.int .u32 x] rfl (cell_one_new _ _ _) (by omega) (by unfold maxLen;omega) (by omega)
    unfold appW
    rw [h1]
    exact (World.cell?_of_block (a:=⟨g,j,none⟩) (h3.block g (by show g<(W.alloc _).heap.size;rw [World.size_alloc];omega) (by simp))).trans (own_cell ho hj)
theorem app_execB {P:Program} {w:World} {ρ:Operand→Value} {d:Option Tmp} {s x:Operand} {t ty:TypeId} {p:String} {af:Array Edge} {g:Option (Nat × Bool)} (h:AppOK P w t ty (ρ s) (ρ x)) :
    (execOp ρ { dst:=d,op:=.call { callee:=.builtin .append,args:=#[s,x],argTypes:=#[t,t] },type:=ty,pos:=p,after:=af,guard:=g }).run P w=.ok (.value (appV P w t ty (ρ s) (ρ x))) (appW P w t ty (ρ s) (ρ x)):=app_exec h
attribute [local go_sem high] app_execB
theorem own_extB {W W':World} {base n sz:Nat} {e:TypeId} {v:Value} {xs:List Value} (h:W.ownsRow base e sz v n xs) (k:Below W.heap.size W W'):W'.ownsRow base e sz v n xs:=by
  refine ⟨h.1,?_⟩
  rcases h.2 with hn'|⟨g,cap,cur,h1,h2,h3,h4⟩
  · exact .inl hn'
  · exact .inr ⟨g,cap,cur,h1,h2,(k.block g (Array.getElem?_eq_some_iff.1 h3).1).trans h3,h4⟩
theorem EW.ext {w W W':World} {v:Value} {l:List Int} (h:EW w W v l) (k:Below W.heap.size W W'):EW w W' v l:=⟨own_extB h.1 k,ext_call h.2 k⟩
def H8 (W:World) (v:Value) (x:V8):Prop:=∃ g c,v=.slice (some ⟨g,0,none⟩) 8 c∧8≤c∧∀ k,k<8→W.cell? ⟨g,k,none⟩=some (.int .u32 (x.list[k]?.getD 0))
theorem H8.ext {w W:World} {v:Value} {x:V8} (h:H8 w v x) (k:Below w.heap.size w W):H8 W v x:=by
  obtain ⟨g,c,h1,h2,h3⟩:=h
  exact ⟨g,c,h1,h2,fun j hj=>cell_ext (h3 j hj) k⟩
set_option maxHeartbeats 4000000 in
set_option maxRecDepth 100000 in
theorem refBlock (hv : Value) (x : V8) (bb off c : Nat) (bs : List Int) (w : World) (hH : H8 w hv x) (hc : ∀ k, k < 64 → w.cell? ⟨bb, off + k, none⟩ = some (.int .u8 (bs.getD k 0))) :
    Calls Tryz.prog 139 #[hv,.slice (some ⟨bb,off,none⟩) 64 c] w fun e w'=>∃ v',e=.returned v'∧H8 w' v' (blockF x bs)∧Below w.heap.size w w':=by
  have HC:=Lib.hid hc
  have HH:=Lib.hid hH
  obtain ⟨gh,ch,rfl,hch,hcell⟩:=hH
  have HHC:=Lib.hid hcell
  clear hc hcell
  go_enter Tryz.func139,Tryz.ntmps139
  go_wp2
  go_loopw [5,6] (fun wv iv W=>∃ k:Nat,k≤16∧iv=.int .i64 (k:Int)∧EW w W wv (schedTo bs k)) (fun _ iv _=>16-(intOf iv).toNat)
  case atStart=>exact ⟨0,Nat.zero_le _,rfl,World.ownsRow_nil _ _ _ _,ext_refl _⟩
  case round =>
    obtain ⟨k,hk,rfl,hX⟩:=hrel
    have HX:=Lib.hid hX
    clear hX
    by_cases hlt:k<16
    · have c0:=cell_ext (HC.out (4*k) (by omega)) HX.out.2
      have c1:=cell_ext (HC.out (4*k+1) (by omega)) HX.out.2
      have c2:=cell_ext (HC.out (4*k+2) (by omega)) HX.out.2
      have c3:=cell_ext (HC.out (4*k+3) (by omega)) HX.out.2
      have b0:(0:Int)≤4*(k:Int):=by omega
      have b1:(0:Int)≤4*(k:Int)+1:=by omega
      have b2:(0:Int)≤4*(k:Int)+2:=by omega
      have b3:(0:Int)≤4*(k:Int)+3:=by omega
      have d0:4*(k:Int)<64:=by omega
      have d1:4*(k:Int)+1<64:=by omega
      have d2:4*(k:Int)+2<64:=by omega
      have d3:4*(k:Int)+3<64:=by omega
      have t0:(4*(k:Int)).toNat=4*k:=by omega
      have t1:(4*(k:Int)+1).toNat=4*k+1:=by omega
      have t2:(4*(k:Int)+2).toNat=4*k+2:=by omega
      have t3:(4*(k:Int)+3).toNat=4*k+3:=by omega
      have q1:(k:Int)<16:=by omega
      have e0:IntKind.i64.wrap (4*(k:Int))=4*(k:Int):=IntWalk.i64_in _ (by omega)
      have e1:IntKind.i64.wrap (4*(k:Int)+1)=4*(k:Int)+1:=IntWalk.i64_in _ (by omega)
      have e2:IntKind.i64.wrap (4*(k:Int)+2)=4*(k:Int)+2:=IntWalk.i64_in _ (by omega)
      have e3:IntKind.i64.wrap (4*(k:Int)+3)=4*(k:Int)+3:=IntWalk.i64_in _ (by omega)
      obtain ⟨ha,W4,hW4,v4,hv4,h4,-⟩:=HX.out.appD (by rw [schedTo_length];omega) (bits .or .u32 (bits .or .u32 (bits .or .u32 (IntKind.u32.wrap (IntKind.u32.wrap (bs[4*k]?.getD 0)*16777216)) (IntKind.u32.wrap (IntKind.u32.wrap (bs[4*k+1]?.getD 0)*65536))) (IntKind.u32.wrap (IntKind.u32.wrap (bs[4*k+2]?.getD 0)*256))) (IntKind.u32.wrap (bs[4*k+3]?.getD 0)))
      have H4:=Lib.hid (show EW w W4 v4 (schedTo bs (k+1)) by
        rw [show schedTo bs (k+1)=schedTo bs k++[wordF bs k] by simp only [schedTo,if_pos hlt]]
        unfold wordF
        simpa only [IntKind.wrap_u32] using h4)
      clear h4
      go_upto_region 5 with (fail)
      go_region_held3 (fun w'=>w'.cell? ⟨bb,off+4*k,none⟩=some (.int .u8 (bs.getD (4*k) 0))∧w'.cell? ⟨bb,off+(4*k+1),none⟩=some (.int .u8 (bs.getD (4*k+1) 0))∧w'.cell? ⟨bb,off+(4*k+2),none⟩=some (.int .u8 (bs.getD (4*k+2) 0))∧w'.cell? ⟨bb,off+(4*k+3),none⟩=some (.int .u8 (bs.getD (4*k+3) 0)))
        (first|with_reducible assumption|exact ⟨c0,c1,c2,c3⟩|exact ⟨cell_al (w:=wr) c0 _,cell_al (w:=wr) c1 _,cell_al (w:=wr) c2 _,cell_al (w:=wr) c3 _⟩|exact ⟨cell_ext (HC.out (4*k) (by omega)) H4.out.2,cell_ext (HC.out (4*k+1) (by omega)) H4.out.2,cell_ext (HC.out (4*k+2) (by omega)) H4.out.2,cell_ext (HC.out (4*k+3) (by omega)) H4.out.2⟩)
        (first|fail)
      go_wp2
      go_roundw
      case rel=>exact ⟨k+1,by omega,by go_num,H4.out⟩
      case measure=>simp [intOf];omega
    · have HK := Lib.hid (show k = 16 by omega)
      have d1:decide ((k:Int)<16)=false:=decide_eq_false (by omega)
      go_wp2
      have hX16:=HX.out
      rw [HK.out] at hX16
      have H16:=Lib.hid hX16
      clear hX16 d1 hlt hk HX HK
      go_loopw [5,7,8,9] (fun wv iv _ _ W=>∃ k:Nat,16≤k∧k≤64∧iv=.int .i64 (k:Int)∧EW w W wv (schedTo bs k)) (fun _ iv _ _ _=>64-(intOf iv).toNat)
      case atStart=>exact ⟨16,by omega,by omega,rfl,H16.out⟩
      case round =>
        obtain ⟨k,hk0,hk,rfl,hX⟩:=hrel
        clear H16
        have HX:=Lib.hid hX
        by_cases hlt:k<64
        · obtain ⟨l,hl⟩:∃ l,l=schedTo bs k:=⟨_,rfl⟩
          have hll:l.length=k:=by rw [hl,schedTo_length]
          rw [← hl] at hX
          obtain ⟨gw,cw,hsh,hgw,hgw2,hcw,hcells⟩:=own_cells2 hX.1 (by omega)
          rw [hll] at hsh hcw
          subst hsh
          have HCW:=Lib.hid hcells
          have e15:IntKind.i64.wrap ((k:Int)-15)=((k-15:Nat):Int):=by rw [IntWalk.i64_in _ (by omega)];omega
          have e2:IntKind.i64.wrap ((k:Int)-2)=((k-2:Nat):Int):=by rw [IntWalk.i64_in _ (by omega)];omega
          have e16:IntKind.i64.wrap ((k:Int)-16)=((k-16:Nat):Int):=by rw [IntWalk.i64_in _ (by omega)];omega
          have e7:IntKind.i64.wrap ((k:Int)-7)=((k-7:Nat):Int):=by rw [IntWalk.i64_in _ (by omega)];omega
          have p15:((k-15:Nat):Int)<(k:Int):=by omega
          have p2:((k-2:Nat):Int)<(k:Int):=by omega
          have p16:((k-16:Nat):Int)<(k:Int):=by omega
          have p7:((k-7:Nat):Int)<(k:Int):=by omega
          have q15:(0:Int)≤((k-15:Nat):Int):=by omega
          have q2:(0:Int)≤((k-2:Nat):Int):=by omega
          have q16:(0:Int)≤((k-16:Nat):Int):=by omega
          have q7:(0:Int)≤((k-7:Nat):Int):=by omega
          have cell:∀ j,j<k→wr.cell? ⟨gw,j,none⟩=some (.int .u32 (l[j]?.getD 0)):=fun j hj=>hcells j _ (by
            unfold cellsU
            rw [List.getElem?_map,List.getElem?_eq_getElem (by omega)]
            rfl)
          have a15:=cell (k-15) (by omega)
          have a2:=cell (k-2) (by omega)
          have a16:=cell (k-16) (by omega)
          have a7:=cell (k-7) (by omega)
          have HA:=Lib.hid (And.intro a16 a7)
          have HLL:=Lib.hid hll
          have HL:=Lib.hid hl
          have d1:decide ((k:Int)<64)=true:=decide_eq_true (by omega)
          clear hX hcells cell hl
          go_upto_region 9 with (fail)
          go_quiet (first|(go_at_call 179;refine Calls.quiet_of (refRot _ _ ?_ ?_ _) <;> omega))
          go_upto_region 10 with (fail)
          obtain ⟨V,hV⟩:∃ V,V=wr.drewN nq:=⟨_,rfl⟩
          rw [← hV]
          have HEV:=Lib.hid (show Below wr.heap.size wr V by rw [hV];exact ext_drewN (ext_refl _) _)
          have b2:=cell_ext a2 HEV.out
          clear hV a2 a15 a16 a7
          go_quiet (first|(go_at_call 179;refine Calls.quiet_of (refRot _ _ ?_ ?_ _) <;> omega))
          go_upto_region 11 with (fail)
          generalize hx8:bits .xor .u32 (bits .xor .u32 (rotrF (l[k-15]?.getD 0) 7) (rotrF (l[k-15]?.getD 0) 18)) (l[k-15]?.getD 0 / 8)=x8
          generalize hx9:bits .xor .u32 (bits .xor .u32 (rotrF (l[k-2]?.getD 0) 17) (rotrF (l[k-2]?.getD 0) 19)) (l[k-2]?.getD 0 / 1024)=x9
          obtain ⟨V2,hV2⟩:∃ V2,V2=V.drewN nq:=⟨_,rfl⟩
          rw [← hV2]
          have HE2:=Lib.hid (show Below wr.heap.size wr V2 by rw [hV2];exact ext_drewN HEV.out _)
          have a16:=cell_ext HA.out.1 HE2.out
          have a7:=cell_ext HA.out.2 HE2.out
          have HX2:=Lib.hid (HX.out.ext HE2.out)
          rw [← HL.out] at HX2
          clear hV2 b2
          obtain ⟨ha,W4,hW4,v4,hv4,h4,hk4⟩:=HX2.out.appD (by omega) (IntKind.u32.wrap (IntKind.u32.wrap (IntKind.u32.wrap (l[k-16]?.getD 0+x8)+l[k-7]?.getD 0)+x9))
          have h16:=app_keep V2 w.heap.size gw k cw (cellsU l) (by have h9:=HX2.out.1;rw [HLL.out] at h9;exact h9) (IntKind.u32.wrap (IntKind.u32.wrap (IntKind.u32.wrap (l[k-16]?.getD 0+x8)+l[k-7]?.getD 0)+x9)) (by omega) (lt_of_cell a16) (k-16) (.int .u32 (l[k-16]?.getD 0)) (by unfold cellsU;rw [List.getElem?_map,List.getElem?_eq_getElem (by have:=HLL.out;omega)];rfl)
          have h7:=app_keep V2 w.heap.size gw k cw (cellsU l) (by have h9:=HX2.out.1;rw [HLL.out] at h9;exact h9) (IntKind.u32.wrap (IntKind.u32.wrap (IntKind.u32.wrap (l[k-16]?.getD 0+x8)+l[k-7]?.getD 0)+x9)) (by omega) (lt_of_cell a16) (k-7) (.int .u32 (l[k-7]?.getD 0)) (by unfold cellsU;rw [List.getElem?_map,List.getElem?_eq_getElem (by have:=HLL.out;omega)];rfl)
          have H4:=Lib.hid (show EW w W4 v4 (schedTo bs (k+1)) by
            rw [show schedTo bs (k+1)=schedTo bs k++[stepF (schedTo bs k) k] by simp only [schedTo,if_neg (show ¬ k<16 by omega)],← HL.out]
            unfold stepF
            rw [mixed_7_18,mixed_17_19,hx8,hx9]
            simpa only [IntKind.wrap_u32] using h4)
          clear h4 hk4 hx8 hx9
          go_region_held3 (fun w'=>w'.cell? ⟨gw,k-16,none⟩=some (.int .u32 (l[k-16]?.getD 0))∧w'.cell? ⟨gw,k-7,none⟩=some (.int .u32 (l[k-7]?.getD 0)))
            (first|with_reducible assumption|exact ⟨a16,a7⟩|exact ⟨cell_al (w:=V2) a16 _,cell_al (w:=V2) a7 _⟩|exact ⟨h16,h7⟩|(rw [← hW4];exact ⟨h16,h7⟩))
            (first|fail)
          go_wp2
          go_roundw
          case rel=>exact ⟨k+1,by omega,by omega,by go_num,H4.out⟩
          case measure=>simp [intOf];omega
        · have HK := Lib.hid (show k = 64 by omega)
          have d1:decide ((k:Int)<64)=false:=decide_eq_false (by omega)
          obtain ⟨ws,hws⟩:∃ ws,ws=schedTo bs k:=⟨_,rfl⟩
          have hwl:ws.length=64:=by rw [hws,schedTo_length];exact HK.out
          have HWS:=Lib.hid (show ws=schedTo bs 64 by rw [hws,HK.out])
          rw [← hws] at hX
          obtain ⟨gw,cw,hsh,-,hgw2,hcw,hcells⟩:=own_cells2 hX.1 (by omega)
          rw [hwl] at hsh hcw
          subst hsh
          have HCW:=Lib.hid (show ∀ j,j<64→wr.cell? ⟨gw,j,none⟩=some (.int .u32 (ws[j]?.getD 0)) from fun j hj=>hcells j _ (by
            unfold cellsU
            rw [List.getElem?_map,List.getElem?_eq_getElem (by omega)]
            rfl))
          have HE:=Lib.hid hX.2
          have hz:=hX.2.size
          have h8:=HHC.out
          clear hX hcells hws hwl HX
          go_wp2_with fail
          refine (refConsts _).mono ?_
          rintro e W2 ⟨rfl,hk2,hb2⟩
          obtain ⟨gk,hgk⟩:∃ gk,gk=wr.heap.size:=⟨_,rfl⟩
          rw [← hgk] at hk2 ⊢
          have HE2:=Lib.hid (ext_call HE.out hb2)
          have HCW2:=Lib.hid (show ∀ j,j<64→W2.cell? ⟨gw,j,none⟩=some (.int .u32 (ws[j]?.getD 0)) from fun j hj=>cell_ext (HCW.out j hj) hb2)
          have HCK2:=Lib.hid hk2
          obtain ⟨i0,hi,hz0,hz1,hz2⟩:=info_parts u32_info
          obtain ⟨ha,ho3,hg3⟩:=app_own (P:=Tryz.prog) (w:=W2) w.heap.size 232 232 187 i0 (.int .u32 0) 1 4 Tryz.underlying232 hi hz0 hz1 hz2 rfl (by decide) (.slice none 0 0) 0 [] (World.ownsRow_nil _ _ _ _) ⟨gh,0,none⟩ 8 ch (x.list.map (Value.int .u32)) rfl (fun j u hu=>by
            have hj:=(List.getElem?_eq_some_iff.1 hu).1
            rw [List.length_map] at hj
            rw [add_lit0,cell_ext (h8 j hj) HE2.out,← hu,List.getElem?_map,List.getElem?_eq_getElem hj]
            rfl) (by simp [Value.oneCell']) (by unfold maxLen;omega) (by omega) (HE2.out.size)
          obtain ⟨W3,hW3⟩:∃ W3,appW Tryz.prog W2 232 232 (.slice none 0 0) (.slice (some ⟨gh,0,none⟩) 8 ch)=W3:=⟨_,rfl⟩
          obtain ⟨v3,hv3⟩:∃ v3,appV Tryz.prog W2 232 232 (.slice none 0 0) (.slice (some ⟨gh,0,none⟩) 8 ch)=v3:=⟨_,rfl⟩
          rw [hW3,hv3] at ho3
          rw [hW3] at hg3
          have hb3:Below W2.heap.size W2 W3:=(ext_refl W2).grown hg3 (Nat.le_refl _) (fun g hg=>by cases hg)
          have H83:=Lib.hid (show H8 W3 v3 x by
            obtain ⟨g,cap,hsh,-,-,hcap,hcs⟩:=own_cells2 ho3 (by omega)
            refine ⟨g,cap,hsh,hcap,fun j hj=>hcs j _ ?_⟩
            rw [List.nil_append,List.getElem?_map,List.getElem?_eq_getElem (show j<x.list.length from hj)]
            rfl)
          have HE3:=Lib.hid (ext_call HE2.out hb3)
          have HCW3:=Lib.hid (show ∀ j,j<64→W3.cell? ⟨gw,j,none⟩=some (.int .u32 (ws[j]?.getD 0)) from fun j hj=>cell_ext (HCW2.out j hj) hb3)
          have HCK3:=Lib.hid (show ∀ j,j<64→W3.cell? ⟨gk,j,none⟩=some (.int .u32 (kList[j]?.getD 0)) from fun j hj=>cell_ext (HCK2.out j hj) hb3)
          clear hk2 hb2 hgk ho3 hg3 hb3 h8 HCW HCW2 HCK2
          go_wp2
          clear d1 ha hW3 hv3 hlt hk hk0 HK
          go_loopw [11,12,13,14,15,16] (fun vv iv _ _ _ _ W=>∃ k:Nat,k≤64∧iv=.int .i64 (k:Int)∧H8 W vv (vTo x ws k)∧Below W3.heap.size W3 W) (fun _ iv _ _ _ _ _=>64-(intOf iv).toNat)
          case atStart=>exact ⟨0,by omega,rfl,H83.out,ext_refl _⟩
          case round =>
            obtain ⟨k,hk,rfl,h8,hb⟩:=hrel
            obtain ⟨s,hs⟩:∃ s,s=vTo x ws k:=⟨_,rfl⟩
            rw [← hs] at h8
            have HS:=Lib.hid hs
            have HB:=Lib.hid hb
            have H8s:=Lib.hid h8
            obtain ⟨gv,cv,rfl,hcv,hcell⟩:=h8
            clear hs hb H83
            by_cases hlt:k<64
            · have v0:wr.cell? ⟨gv,0,none⟩=some (.int .u32 s.a):=hcell 0 (by omega)
              have v1:wr.cell? ⟨gv,1,none⟩=some (.int .u32 s.b):=hcell 1 (by omega)
              have v2:wr.cell? ⟨gv,2,none⟩=some (.int .u32 s.c):=hcell 2 (by omega)
              have v3:wr.cell? ⟨gv,3,none⟩=some (.int .u32 s.d):=hcell 3 (by omega)
              have v4:wr.cell? ⟨gv,4,none⟩=some (.int .u32 s.e):=hcell 4 (by omega)
              have v5:wr.cell? ⟨gv,5,none⟩=some (.int .u32 s.f):=hcell 5 (by omega)
              have v6:wr.cell? ⟨gv,6,none⟩=some (.int .u32 s.g):=hcell 6 (by omega)
              have v7:wr.cell? ⟨gv,7,none⟩=some (.int .u32 s.h):=hcell 7 (by omega)
              have kc:=cell_ext (HCK3.out k hlt) HB.out
              have wc:=cell_ext (HCW3.out k hlt) HB.out
              obtain ⟨kk,hkk⟩:∃ kk,kk=kList[k]?.getD 0:=⟨_,rfl⟩
              obtain ⟨wk,hwk⟩:∃ wk,wk=ws[k]?.getD 0:=⟨_,rfl⟩
              rw [← hkk] at kc
              rw [← hwk] at wc
              have HKK:=Lib.hid (And.intro hkk hwk)
              have q0:(0:Int)≤(k:Int):=by omega
              have q1:(k:Int)<64:=by omega
              have hnot:=run_notU Tryz.prog
              clear hcell hkk hwk
              go_upto_region 20 with (fail)
              go_quiet (first|(go_at_call 179;refine Calls.quiet_of (refRot _ _ ?_ ?_ _) <;> omega))
              go_upto_region 21 with (fail)
              obtain ⟨V,hV⟩:∃ V,V=wr.drewN nq:=⟨_,rfl⟩
              rw [← hV]
              have HEV:=Lib.hid (show Below wr.heap.size wr V by rw [hV];exact ext_drewN (ext_refl _) _)
              have HH8:=Lib.hid (H8s.out.ext HEV.out)
              clear hV v0 v4 v7 kc wc hnot
              generalize hT:(((s.h+bits .xor .u32 (bits .xor .u32 (rotrF s.e 6) (rotrF s.e 11)) (rotrF s.e 25)+bits .xor .u32 (bits .and .u32 s.e s.f) (bits .and .u32 (bits .xor .u32 (if IntKind.u32.signed=true then -1 else IntKind.u32.max) s.e) s.g)+kk) % 4294967296+wk) % 4294967296)=tv
              have HT:=Lib.hid (show tv=roundT s kk wk by
                rw [← hT,show (if IntKind.u32.signed=true then (-1:Int) else IntKind.u32.max)=IntKind.u32.max from rfl]
                unfold roundT
                rw [mixed_6_11_25]
                simp only [IntKind.wrap_u32]
                omega)
              have b1:=cell_ext v1 HEV.out
              have b2:=cell_ext v2 HEV.out
              clear hT v1 v2 v3 v5 v6
              go_quiet (first|(go_at_call 179;refine Calls.quiet_of (refRot _ _ ?_ ?_ _) <;> omega))
              go_upto_region 22 with (fail)
              generalize hU:((bits .xor .u32 (bits .xor .u32 (rotrF s.a 2) (rotrF s.a 13)) (rotrF s.a 22)+bits .xor .u32 (bits .xor .u32 (bits .and .u32 s.a s.b) (bits .and .u32 s.a s.c)) (bits .and .u32 s.b s.c)) % 4294967296)=uv
              have HU:=Lib.hid (show uv=roundU s by
                rw [← hU]
                unfold roundU
                rw [mixed_2_13_22,IntKind.wrap_u32])
              obtain ⟨V2,hV2⟩:∃ V2,V2=V.drewN nq:=⟨_,rfl⟩
              rw [← hV2]
              have HE2:=Lib.hid (show Below V.heap.size V V2 by rw [hV2];exact ext_drewN (ext_refl _) _)
              have HB2:=Lib.hid (ext_call HB.out (ext_call HEV.out HE2.out))
              obtain ⟨_,_,hsh,-,hcell⟩:=HH8.out.ext HE2.out
              injection hsh with hsh _ _
              injection hsh with hsh
              injection hsh with hsh _ _
              subst hsh
              clear hU hV2 b1 b2
              have v1:V2.cell? ⟨gv,1,none⟩=some (.int .u32 s.b):=hcell 1 (by omega)
              have v2:V2.cell? ⟨gv,2,none⟩=some (.int .u32 s.c):=hcell 2 (by omega)
              have v3:V2.cell? ⟨gv,3,none⟩=some (.int .u32 s.d):=hcell 3 (by omega)
              have v5:V2.cell? ⟨gv,5,none⟩=some (.int .u32 s.f):=hcell 5 (by omega)
              have v6:V2.cell? ⟨gv,6,none⟩=some (.int .u32 s.g):=hcell 6 (by omega)
              clear hcell
              go_still_tail 22,(by kernel_rfl)
              change wpList _ _ _ _ _ V2.drew
              go_wp2
              go_roundw
              case rel=>
                refine ⟨k+1,by omega,by go_num,⟨V2.heap.size,8,rfl,Nat.le_refl _,fun j hj=>?_⟩,Below.drew ?_⟩
                · have hBN:=(Blk.new V2 187 #[.int .u32 ((tv+uv) % 4294967296),.int .u32 s.a,.int .u32 s.b,.int .u32 s.c,.int .u32 ((s.d+tv) % 4294967296),.int .u32 s.e,.int .u32 s.f,.int .u32 s.g]).cell j
                  have he:vTo x ws (k+1)=roundV s kk wk:=by rw [vTo,HS.out,HKK.out.1,HKK.out.2]
                  rw [he]
                  show (World.alloc V2 _).cell? _=_
                  rw [hBN,HT.out,HU.out]
                  match j,hj with
                  | 0,_=>rfl
                  | 1,_=>rfl
                  | 2,_=>rfl
                  | 3,_=>rfl
                  | 4,_=>rfl
                  | 5,_=>rfl
                  | 6,_=>rfl
                  | 7,_=>rfl
                · exact ext_alloc HB2.out _
              case measure=>simp [intOf];omega
            · have HK := Lib.hid (show k = 64 by omega)
              have d1:decide ((k:Int)<64)=false:=decide_eq_false (by omega)
              have HV:=Lib.hid (show addV x s=blockF x bs by rw [HS.out,HK.out,HWS.out];rfl)
              have HEW:=Lib.hid (ext_call HE3.out HB.out)
              have HCX:=Lib.hid (fun j (hj:j<8)=>cell_ext (HHC.out j hj) HEW.out)
              have HCS:=Lib.hid hcell
              clear hcell
              go_wp2
              clear d1 hlt hk HK
              obtain ⟨Z,hZ⟩:∃ Z,Z=wr:=⟨_,rfl⟩
              have hZR:EW Z wr (.slice none 0 0) ((addV x s).list.take 0):=by rw [hZ];exact ⟨World.ownsRow_nil _ _ _ _,ext_refl _⟩
              rw [← hZ] at HCX HCS HEW
              clear hZ
              go_loopw [17,18] (fun ov iv W=>∃ m:Nat,m≤8∧iv=.int .i64 (m:Int)∧EW Z W ov ((addV x s).list.take m)) (fun _ iv _=>8-(intOf iv).toNat)
              case atStart=>exact ⟨0,by omega,rfl,hZR⟩
              case round=>
                clear hZR
                obtain ⟨m,hm,rfl,hX⟩:=hrel
                have HX:=Lib.hid hX
                clear hX
                by_cases hlt:m<8
                · have ch:=cell_ext (HCX.out m hlt) HX.out.2
                  have cv:=cell_ext (HCS.out m hlt) HX.out.2
                  obtain ⟨xv,hxv⟩:∃ xv,xv=x.list[m]?.getD 0:=⟨_,rfl⟩
                  obtain ⟨sv,hsv⟩:∃ sv,sv=s.list[m]?.getD 0:=⟨_,rfl⟩
                  rw [← hxv] at ch
                  rw [← hsv] at cv
                  have q0:(0:Int)≤(m:Int):=by omega
                  have q1:(m:Int)<8:=by omega
                  have hl8:((addV x s).list.take m).length=m:=by rw [List.length_take];show min m 8=m;omega
                  obtain ⟨ha,W4,hW4,v4,hv4,h4,hk4⟩:=HX.out.appD (by omega) (IntKind.u32.wrap (xv+sv))
                  have H4:=Lib.hid (show EW Z W4 v4 ((addV x s).list.take (m+1)) by
                    rw [show (addV x s).list.take (m+1)=(addV x s).list.take m++[IntKind.u32.wrap (xv+sv)] by
                      rw [List.take_succ_eq_append_getElem (show m<(addV x s).list.length from hlt)]
                      congr 2
                      rw [hxv,hsv,IntKind.wrap_u32]
                      match m,hlt with
                      | 0,_=>rfl
                      | 1,_=>rfl
                      | 2,_=>rfl
                      | 3,_=>rfl
                      | 4,_=>rfl
                      | 5,_=>rfl
                      | 6,_=>rfl
                      | 7,_=>rfl]
                    exact h4)
                  have g1:=cell_ext (HCX.out m hlt) H4.out.2
                  have g2:=cell_ext (HCS.out m hlt) H4.out.2
                  rw [← hxv] at g1
                  rw [← hsv] at g2
                  clear h4 hk4 hl8 hxv hsv
                  go_upto_region 27 with (fail)
                  go_region_held3 (fun w'=>w'.cell? ⟨gh,m,none⟩=some (.int .u32 xv)∧w'.cell? ⟨gv,m,none⟩=some (.int .u32 sv))
                    (first|with_reducible assumption|exact ⟨ch,cv⟩|exact ⟨cell_al (w:=wr) ch _,cell_al (w:=wr) cv _⟩|exact ⟨g1,g2⟩)
                    (first|fail)
                  go_wp2
                  go_roundw
                  case rel=>exact ⟨m+1,by omega,by go_num,H4.out⟩
                  case measure=>simp [intOf];omega
                · have HM:=Lib.hid (show m=8 by omega)
                  have d2:decide ((m:Int)<8)=false:=decide_eq_false (by omega)
                  go_wp2
                  go_ret
                  have hXX:=HX.out
                  rw [HM.out,List.take_of_length_le (show (addV x s).list.length≤8 from Nat.le_refl _),HV.out] at hXX
                  obtain ⟨g,cap,hsh,-,-,hcap,hcs⟩:=own_cells2 hXX.1 (by show 0<8;omega)
                  refine ⟨_,rfl,⟨g,cap,hsh,hcap,fun j hj=>hcs j _ ?_⟩,ext_call HEW.out hXX.2⟩
                  unfold cellsU
                  rw [List.getElem?_map,List.getElem?_eq_getElem (show j<(blockF x bs).list.length from hj)]
                  rfl
end Go.Proofs.YtnajpjnnlocfgaaGreatDoor
