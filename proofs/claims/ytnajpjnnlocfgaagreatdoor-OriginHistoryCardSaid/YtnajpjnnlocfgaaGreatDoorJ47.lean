/-
  package cachetierref02: Sum, Leaf, Node.
-/
import Derived.Test.YtnajpjnnlocfgaaGreatDoorJ39
import Derived.Test.YtnajpjnnlocfgaaGreatDoorJ2
set_option linter.unusedSimpArgs false
set_option linter.unusedVariables false
namespace Go.Proofs.YtnajpjnnlocfgaaGreatDoor
open Go.RowKit Go.Shelf
attribute [local go_sem ↓] app_exec app_sem Go.wp_at_zero Go.wp_at_succ
attribute [local go_sem high] app_execB
theorem cell_four_new (w:World) (x y z u:Value) (t:TypeId):∀ j v,[x,y,z,u][j]? = some v→(w.alloc (.cells #[x,y,z,u] t)).cell? ((⟨w.heap.size,0,none⟩:Addr).add j)=some v:=fun j v hv=>by
  rw [add_lit0]
  exact ((Blk.new w t #[x,y,z,u]).cell j).trans (by simpa using hv)
theorem EX.app4 {w W:World} {v:Value} {l:List Int} (h:EX w W v l) (hn:l.length≤1000000) (x y z u:Int) :
    AppOK Tryz.prog (W.alloc (.cells #[.int .u8 x,.int .u8 y,.int .u8 z,.int .u8 u] 5)).drew 174 174 v (.slice (some ⟨W.heap.size,0,none⟩) 4 4)∧∃ W',appW Tryz.prog (W.alloc (.cells #[.int .u8 x,.int .u8 y,.int .u8 z,.int .u8 u] 5)).drew 174 174 v (.slice (some ⟨W.heap.size,0,none⟩) 4 4)=W' ∧
      ∃ v',appV Tryz.prog (W.alloc (.cells #[.int .u8 x,.int .u8 y,.int .u8 z,.int .u8 u] 5)).drew 174 174 v (.slice (some ⟨W.heap.size,0,none⟩) 4 4)=v'∧EX w W' v' (l++[x,y,z,u]):=by
  obtain ⟨i0,hi,hz0,hz1,hz2⟩:=info_parts u8_info
  have hz:=h.2.size
  obtain ⟨h1,h2,h3⟩:=app_own (P:=Tryz.prog) (w:=(W.alloc (.cells #[.int .u8 x,.int .u8 y,.int .u8 z,.int .u8 u] 5)).drew) w.heap.size 174 174 5 i0 (.int .u8 0) 1 1 Tryz.underlying174 hi hz0 hz1 hz2 rfl (by decide) v l.length (cellsU8 l) (h.1.alloc _).drew ⟨W.heap.size,0,none⟩ 4 4 [.int .u8 x,.int .u8 y,.int .u8 z,.int .u8 u] rfl (cell_four_new W _ _ _ _ _) (by simp [Value.oneCell']) (by unfold maxLen;omega) (by omega) (by show w.heap.size≤(W.alloc _).heap.size;simp;omega)
  refine ⟨h1,_,rfl,_,rfl,⟨by rw [List.length_append,show cellsU8 (l++[x,y,z,u])=cellsU8 l++[.int .u8 x,.int .u8 y,.int .u8 z,.int .u8 u] by simp [cellsU8]];exact h2,((ext_alloc h.2 _).drew).grown h3 (by show w.heap.size≤(W.alloc _).heap.size;simp;omega) (fun g hg=>(h.1.lt g hg).1)⟩⟩
theorem EX.str {w W:World} {v:Value} {l:List Int} (h:EX w W v l) (h0:0<l.length):(convert 174 9 v).run Tryz.prog W=.ok (.string (ofBytes l)) W:=by
  obtain ⟨g,cap,rfl,-,-,-,hc⟩:=own_cells2 h.1 h0
  rw [run_convert_bytes_string W 174 9 5 _ _ _ Tryz.underlying174 Tryz.underlying5 Tryz.underlying9]
  refine run_bytesToString W _ _ _ l ?_
  have h9:=run_loadCells_list (P:=Tryz.prog) W ⟨g,0,none⟩ (l.map (Value.int .u8)) (fun j x hx=>by
    rw [add_lit0]
    exact hc j x hx)
  rw [List.length_map] at h9
  exact h9
set_option maxHeartbeats 4000000 in
set_option maxRecDepth 100000 in
theorem refSum (s:ByteArray) (w:World) (hs:s.size≤100000):Calls Tryz.prog 90 #[.string s] w fun e w'=>e=.returned (.string (sumF s))∧Below w.heap.size w w':=by
  obtain ⟨pl,hpl⟩:∃ pl,pl=padded s:=⟨_,rfl⟩
  obtain ⟨N,hN⟩:∃ N,pl.length=64*N:=⟨pl.length / 64,by
    rw [hpl]
    unfold padded zerosN lenBytes
    rw [List.length_append,padTo_length,List.length_map,List.length_range]
    omega⟩
  have hN9:N≤10000:=by
    rw [hpl] at hN
    unfold padded zerosN lenBytes at hN
    rw [List.length_append,padTo_length,List.length_map,List.length_range] at hN
    omega
  have HSUM:=Lib.hid (show sumF s=digF (hashTo pl (ups N N)) by
    unfold sumF
    rw [← hpl,hN,Nat.mul_div_cancel_left _ (by omega)])
  have HPL:=Lib.hid hpl
  have HN:=Lib.hid hN
  clear hpl
  go_enter Tryz.func90,Tryz.ntmps90
  go_wp2_with fail
  obtain ⟨W0,hW0⟩:∃ W0,W0=w.alloc (.cells v0.cells 187):=⟨_,rfl⟩
  have HH0:=Lib.hid (show H8 W0 (.slice (some ⟨w.heap.size,0,none⟩) 8 8) v0 from ⟨_,8,rfl,Nat.le_refl _,fun k hk=>by rw [hW0,(Blk.new w 187 v0.cells).cell k];exact V8.get v0 k hk⟩)
  have HE0:=Lib.hid (show Below w.heap.size w W0 by rw [hW0];exact ext_new _ _)
  refine (refExtended s _ hs).mono ?_
  rintro e W1 ⟨bv,rfl,hX1⟩
  rw [show w.alloc (.cells #[.int .u32 1779033703,.int .u32 3144134277,.int .u32 1013904242,.int .u32 2773480762,.int .u32 1359893119,.int .u32 2600822924,.int .u32 528734635,.int .u32 1541459225] 187)=W0 from hW0.symm] at hX1
  rw [← HPL.out] at hX1
  obtain ⟨A,cp,hsh⟩:=hX1.shape
  rw [hN] at hsh
  have HX1:=Lib.hid hX1
  have HE1:=Lib.hid (ext_call HE0.out hX1.2)
  have HH1:=Lib.hid (HH0.out.ext hX1.2)
  have HCP:=Lib.hid (show 0<N→∃ g,A=some ⟨g,0,none⟩∧64*N≤cp∧∀ (i:Nat) (u:Value),(cellsU8 pl)[i]? = some u→W1.cell? ⟨g,i,none⟩=some u from fun h0=>by
    obtain ⟨g,cap,hs2,-,-,hcap,hcs⟩:=own_cells2 hX1.1 (by omega)
    rw [hN] at hs2 hcap
    rw [hs2] at hsh
    injection hsh with h1 _ h3
    subst h1 h3
    exact ⟨g,rfl,hcap,hcs⟩)
  subst hsh
  clear hX1 hW0 HH0
  go_wp2
  go_loopw [3,5] (fun hv iv W=>∃ k:Nat,k≤N∧iv=.int .i64 (64*(k:Int))∧H8 W hv (hashTo pl (ups N k))∧Below W1.heap.size W1 W) (fun _ iv _=>64*N-(intOf iv).toNat)
  case atStart=>exact ⟨0,by omega,rfl,HH1.out,ext_refl _⟩
  case round =>
    obtain ⟨k,hk,rfl,h8,hb⟩:=hrel
    have H8s:=Lib.hid h8
    have HB:=Lib.hid hb
    clear HH1 h8 hb
    have q0:(0:Int)≤64*(k:Int):=by omega
    have e1:IntKind.i64.wrap (64*(k:Int)+64)=64*(k:Int)+64:=IntWalk.i64_in _ (by omega)
    by_cases hlt:k<N
    · obtain ⟨g,rfl,hcap,hcs⟩:=HCP.out (by omega)
      obtain ⟨st,hst⟩:∃ st,st=hashTo pl (ups N k):=⟨_,rfl⟩
      rw [← hst] at H8s
      have HRB:=Lib.hid (fun (W:World) (v:Value) (c:Nat) (h:Below W1.heap.size W1 W) (h8:H8 W v st)=>refBlock v st g (64*k) c (chunkOf pl k) W h8 (fun j hj=>by
        have h1:=hcs (64*k+j) _ (chunkOf_get pl k j hj (by omega))
        exact cell_ext h1 h))
      have HST:=Lib.hid (show hashTo pl (ups N (k+1))=blockF st (chunkOf pl k) by rw [ups_succ N k hlt,hashTo_snoc,← hst])
      have q1:64*(k:Int)<((64*N:Nat):Int):=by omega
      have q2:64*(k:Int)+64≤((64*N:Nat):Int):=by omega
      have q3:64*(k:Int)+64≤(cp:Int):=by omega
      have q4:64*(k:Int)≤64*(k:Int)+64:=by omega
      have q5:(0:Int)≤64*(k:Int)+64:=by omega
      have t0:(64*(k:Int)).toNat=64*k:=by omega
      have t1:(64*(k:Int)+64).toNat=64*k+64:=by omega
      have t2:64*k+64-64*k=64:=by omega
      clear hcs hst
      obtain ⟨gh,ch,hv3,-,-⟩:=id H8s.out
      subst hv3
      go_wp2_with fail
      refine (HRB.out wr _ _ HB.out H8s.out).mono ?_
      rintro e W2 ⟨v2,rfl,h2,hb2⟩
      have H2:=Lib.hid h2
      have HB2:=Lib.hid (ext_call HB.out hb2)
      clear h2 hb2
      go_wp2
      go_roundw
      case rel=>exact ⟨k+1,by omega,by go_num,by rw [HST.out];exact H2.out,HB2.out⟩
      case measure=>simp [intOf];omega
    · have HK := Lib.hid (show k = N by omega)
      have d1:decide (64*(k:Int)<64*(N:Int))=false:=decide_eq_false (by omega)
      obtain ⟨st,hst⟩:∃ st,st=hashTo pl (ups N N):=⟨_,rfl⟩
      have HST:=Lib.hid hst
      rw [HK.out,← hst] at H8s
      obtain ⟨gh,ch,rfl,hch,hcell⟩:=H8s.out
      have HC:=Lib.hid hcell
      have HE:=Lib.hid (ext_call HE1.out HB.out)
      clear hst hcell HCP
      go_wp2
      clear d1 hlt hk HK q0 e1
      obtain ⟨Z,hZ⟩:∃ Z,Z=wr:=⟨_,rfl⟩
      have hZR:EX Z wr (.slice none 0 0) (outTo st 0):=by rw [hZ];exact ⟨World.ownsRow_nil _ _ _ _,ext_refl _⟩
      rw [← hZ] at HC HE
      clear hZ H8s HB HN hN
      go_loopw [6,7] (fun ov iv W=>∃ m:Nat,m≤8∧iv=.int .i64 (m:Int)∧EX Z W ov (outTo st m)) (fun _ iv _=>8-(intOf iv).toNat)
      case atStart=>exact ⟨0,by omega,rfl,hZR⟩
      case round=>
        clear hZR
        obtain ⟨m,hm,rfl,hX⟩:=hrel
        have HX:=Lib.hid hX
        clear hX
        by_cases hlt:m<8
        · have cv:=cell_ext (HC.out m hlt) HX.out.2
          obtain ⟨xv,hxv⟩:∃ xv,xv=st.list[m]?.getD 0:=⟨_,rfl⟩
          rw [← hxv] at cv
          have HXV:=Lib.hid hxv
          have q0:(0:Int)≤(m:Int):=by omega
          have q1:(m:Int)<8:=by omega
          obtain ⟨ha,W4,hW4,v4,hv4,h4⟩:=HX.out.app4 (by rw [outTo_length];omega) (IntKind.u8.wrap (xv / 16777216)) (IntKind.u8.wrap (xv / 65536)) (IntKind.u8.wrap (xv / 256)) (IntKind.u8.wrap xv)
          have H4:=Lib.hid (show EX Z W4 v4 (outTo st (m+1)) by
            rw [show outTo st (m+1)=outTo st m++[IntKind.u8.wrap (xv / 16777216),IntKind.u8.wrap (xv / 65536),IntKind.u8.wrap (xv / 256),IntKind.u8.wrap xv] by
              rw [hxv]
              show outTo st m++bytesTo (st.list[m]?.getD 0) 4=_
              simp only [IntKind.wrap_u8]
              simp [bytesTo,byteF,List.range_succ]]
            exact h4)
          have cv4:=cell_ext (HC.out m hlt) H4.out.2
          rw [← hxv] at cv4
          clear hxv h4
          go_upto_region 11 with (fail)
          go_region_held3 (fun w'=>w'.cell? ⟨gh,m,none⟩=some (.int .u32 xv))
            (first|with_reducible assumption|exact cv|exact cell_al (w:=wr) cv _|exact cv4|(trace_state;fail))
            (first|fail)
          go_wp2
          go_roundw
          case rel=>exact ⟨m+1,by omega,by go_num,H4.out⟩
          case measure=>simp [intOf];omega
        · have HM:=Lib.hid (show m=8 by omega)
          have d2:decide ((m:Int)<8)=false:=decide_eq_false (by omega)
          have hcv:=HX.out.str (by rw [outTo_length];have:=HM.out;omega)
          go_wp2
          go_ret
          refine ⟨?_,ext_call HE.out HX.out.2⟩
          rw [HSUM.out,← HST.out,HM.out]
          rfl
end Go.Proofs.YtnajpjnnlocfgaaGreatDoor
