/-
  wire.PutInt at any number.
-/
import Derived.Test.YtnajpjnnlocfgaaGreatDoorJ15
import Derived.Test.YtnajpjnnlocfgaaGreatDoorJ13
set_option linter.unusedSimpArgs false
set_option linter.unusedVariables false
set_option maxHeartbeats 4000000
set_option maxRecDepth 100000
namespace Go.Proofs.YtnajpjnnlocfgaaGreatDoor
open Go.RowKit Go.Shelf
def grpB (z:Nat):List Nat:=(List.range (grpL 9 z+1)).map fun k=>if k<grpL 9 z then grpN z k+128 else grpN z k
theorem grpB_length (z:Nat):(grpB z).length=grpL 9 z+1:=by simp [grpB]
theorem grpB_at (z k:Nat) (h:k<grpL 9 z+1):(grpB z)[k]? = some (if k<grpL 9 z then grpN z k+128 else grpN z k):=by
  unfold grpB
  rw [List.getElem?_map,List.getElem?_range h]
  rfl
theorem grpB_take (z k:Nat) (h:k<grpL 9 z+1):(grpB z).take (k+1)=(grpB z).take k++[if k<grpL 9 z then grpN z k+128 else grpN z k]:=by
  rw [List.take_add_one,grpB_at z k h]
  rfl
def bytesI (l:List Nat):List Int:=l.map fun g:Nat=>(g:Int)
def putB (l:List Nat):ByteArray:=(bytesI l).foldl (fun r n=>r.push (UInt8.ofNat n.toNat)) ByteArray.empty
def putF (n:Int):ByteArray:=putB (grpB (encN n))
theorem pushes_size:∀ (l:List Int) (r:ByteArray),(l.foldl (fun r n=>r.push (UInt8.ofNat n.toNat)) r).size=r.size+l.length
  | [],r=>by simp
  | a::l,r=>by
    rw [List.foldl_cons,pushes_size l]
    simp [ByteArray.size_push]
    omega
theorem putF_size (n:Int):(putF n).size≤10:=by
  unfold putF putB
  rw [pushes_size]
  simp [bytesI,grpB_length]
  have:=grpL_le 9 (encN n)
  omega
def putI (z:Nat) (w:World) (k:Nat) (W:World):Prop:=(∃ v,Blk W w.heap.size 174 #[v]∧W.ownsRow (w.heap.size+2) 5 1 v k ((bytesI ((grpB z).take k)).map (Value.int .u8)))∧Below w.heap.size w W∧w.heap.size+2≤W.heap.size
theorem putI_own (z:Nat) (w:World) (k B:Nat) (hB:w.heap.size≤B):OwnP B (putI z w k):=fun _ X Y row hs hg hr=>by
  have hr':∀ r,row=some r→∃ o:Obj,X.heap[r]? = some o∧o.isCells=false:=fun r e=>(hr r e).2
  obtain ⟨⟨v,h1,h2⟩,h3,h4⟩:=hs
  exact ⟨⟨v,blk_kept h1 hg hr',own_keptP h2 hg hr'⟩,OwnP.below (B:=B) (Nat.le_refl _) hB () X Y row h3 hg hr,Nat.le_trans h4 hg.size⟩
theorem putI_S (z:Nat) (w:World) (k:Nat) (A B:World) (h:putI z w k A) (e:ExtS (fun j=>j=w.heap.size+1) A B):putI z w k B:=by
  obtain ⟨⟨v,h1,h2⟩,h3,h4⟩:=h
  exact ⟨⟨v,ExtS.blk h1 e (by omega),own_extS2 h2 e (fun g hg=>by have:=(h2.lt g hg).1;omega)⟩,ExtS.below h3 (by rintro j rfl;omega) e,Nat.le_trans h4 e.size⟩
attribute [local go_sem] Oper.semAt_some
attribute [local go_sem] run_semAt
attribute [local go_sem ↓] app_exec app_sem Go.wp_at_zero Go.wp_at_succ
theorem put_round {w W W3:World} {z k g cv gg cap:Nat} {Av:Option Addr} (hX:ExtS (fun j=>(Value.slice Av k cv).ownBlock=some j) W W3) (hV:Blk W3 w.heap.size 174 #[.slice Av k cv]) (hE:Below w.heap.size w W3)
    (hrow:W3.ownsRow (w.heap.size+2) 5 1 (.slice (some ⟨gg,0,none⟩) (k+1) cap) (k+1) ((bytesI ((grpB z).take k)).map (Value.int .u8)++[.int .u8 (g:Int)])) (hs:w.heap.size+2≤W3.heap.size) (hk:KeepsOthers W W3) (hl:∀ j,(Value.slice Av k cv).ownBlock=some j→w.heap.size+2≤j)
    (ht:(grpB z).take (k+1)=(grpB z).take k++[g]) {B:Nat} :
    KeepsFrom B W (W3.setCell ⟨w.heap.size,0,none⟩ (.slice (some ⟨gg,0,none⟩) (k+1) cap))∧putI z w (k+1) (W3.setCell ⟨w.heap.size,0,none⟩ (.slice (some ⟨gg,0,none⟩) (k+1) cap))∧∀ j,j=w.heap.size+1→j<W.heap.size→(W3.setCell ⟨w.heap.size,0,none⟩ (.slice (some ⟨gg,0,none⟩) (k+1) cap)).heap[j]? = W.heap[j]? := by
  refine ⟨(hk.trans (KeepsOthers.setCell W3 ⟨w.heap.size,0,none⟩ (.slice (some ⟨gg,0,none⟩) (k+1) cap))).from _,⟨⟨_,hV.set_ 0 _,?_⟩,ext_set hE (Nat.le_refl _) _,by simpa [World.setCell] using hs⟩,fun j hj hjs=>?_⟩
  · rw [ht]
    have h9:=own_setbox hrow hV (by decide) (.slice (some ⟨gg,0,none⟩) (k+1) cap)
    simpa [bytesI] using h9
  · rw [Below.heap_setCell _ _ _ _ (show j≠w.heap.size by omega),hX.block j hjs (fun h=>by have:=hl j h;omega)]
theorem putInt_pos (n:Int) (h0:0≤n) (h1:n≤4611686018427387903) (w:World) :
    Calls Tryz.prog 76 #[.int .i64 n] w fun e w'=>e=.returned (.tuple #[.string (putF n),.int .i64 0])∧Below w.heap.size w w':=by
  obtain ⟨ib,hib,hzb0,hzb1,hzb2⟩:=info_parts u8_info
  have hdiv:n / 9223372036854775808=0:=by omega
  obtain ⟨z,hz⟩:∃ z,z=encN n:=⟨_,rfl⟩
  have hz64:z<18446744073709551616:=by rw [hz];unfold encN;split <;> omega
  have hxor:bits BinOp.xor IntKind.u64 (n*2) 0=(z:Int):=by
    obtain ⟨m,rfl⟩:=Int.eq_ofNat_of_zero_le h0
    rw [xor_zero64 m (by omega),hz]
    simp [encN]
  have HZ:=Lib.hid hz
  obtain ⟨L,hL⟩:∃ L,L=grpL 9 z:=⟨_,rfl⟩
  have HL:=Lib.hid hL
  have hL9:L≤9:=by rw [hL];exact grpL_le 9 z
  clear hz hL
  have l1:decide (n < -4611686018427387903)=false:=decide_eq_false (by omega)
  have l2:decide (4611686018427387903<n)=false:=decide_eq_false (by omega)
  refine (callsIn_wide (n:=3)).1 (callsIn_of_wp_marks Tryz.func76 rfl trivial (wpIn_wide.2 ?_) rfl)
  simp only [Tryz.ntmps76,List.size_toArray,List.length_cons,List.length_nil,Nat.reduceAdd,Nat.reduceSub,Array.replicate_succ,Array.replicate_zero,List.push_toArray,List.append_toArray,List.nil_append,List.cons_append]
  go_wp2_with (go_at_call 129;refine (groups_any _ _).mono ?_;rintro e W2 ⟨rfl,rfl⟩)
  have hE0:Below w.heap.size w ((w.alloc (.cells #[.slice none 0 0] 174)).alloc (.cells #[.int .u64 (z:Int)] 223)):=ext_alloc (ext_new _ _) _
  have hI0:putI z w 0 ((w.alloc (.cells #[.slice none 0 0] 174)).alloc (.cells #[.int .u64 (z:Int)] 223)):=⟨⟨_,(Blk.new _ _ _).alloc _,by simpa [bytesI] using World.ownsRow_nil _ _ _ _⟩,hE0,by simp⟩
  have hBz:Blk ((w.alloc (.cells #[.slice none 0 0] 174)).alloc (.cells #[.int .u64 (z:Int)] 223)) (w.heap.size+1) 223 #[.int .u64 (z:Int)]:=Blk.new' _ _ _ (by simp)
  refine (wpIn_wide (n:=3)).1 ?_
  refine' wpIn_wr (by omega) (gf:=173) (lb:=#[.pointer (some ⟨w.heap.size+1,0,none⟩)]) (by simp [Act.eval]) (enters_of Tryz.func173 (by kernel_rfl) rfl)
    (groupsS_seq 2 (by omega) (w.heap.size+1) z L HL.out hz64) (by rintro j rfl;simp) (fun k=>rfl) (putI z w) (fun k=>putI_own z w k _ (by simp;omega)) (fun k A B=>putI_S z w k A B) (fun W k=>hBz.ext k) hI0 _ ?assign ?body ?done
  case assign=>
    intro l k W K hK
    gi_wp2
    exact hK
  case body=>
    rintro l k W hk hsz ⟨⟨v,hv,hrow⟩,hb,hs2⟩
    obtain ⟨Av,cv,rfl⟩:=own_shape hrow
    obtain ⟨g,hg⟩:∃ g,g=grpN z k:=⟨_,rfl⟩
    have hg128:g<128:=by rw [hg];exact Nat.mod_lt _ (by omega)
    have HT:=Lib.hid (show (grpB z).take (k+1)=(grpB z).take k++[if k<L then g+128 else g] by rw [hg,HL.out];exact grpB_take z k (by rw [← HL.out];exact hk))
    rw [← hg]
    clear hg
    obtain ⟨gk,hgk⟩:∃ gk,gk=(if k<L then g+128 else g):=⟨_,rfl⟩
    have HGK:=Lib.hid hgk
    rw [← hgk] at HT
    have hor:=or128 g hg128
    have v0:=hv.cell 0
    have f0:=hv.frozen 0
    have hvl:=hv.lt
    obtain ⟨d3,hrow3,hgr⟩:=app_own (P:=Tryz.prog) (w:=W.alloc (.cells #[.int .u8 (gk:Int)] 5)) (w.heap.size+2) 174 174 5 ib (.int .u8 0) 1 1 Tryz.underlying174 hib hzb0 hzb1 hzb2 rfl (by decide)
      (.slice Av k cv) k _ (own_ext hrow (ext_new W (.cells #[.int .u8 (gk:Int)] 5))) ⟨W.heap.size,0,none⟩ 1 1 [.int .u8 (gk:Int)] rfl (cell_one_new _ _ _) (by simp [Value.oneCell']) (by unfold maxLen;omega) (by omega) (by simp;omega)
    have hE4:ExtS (fun j=>(Value.slice Av k cv).ownBlock=some j) W (appW Tryz.prog (W.alloc (.cells #[.int .u8 (gk:Int)] 5)) 174 174 (.slice Av k cv) (.slice (some ⟨W.heap.size,0,none⟩) 1 1)):=(ExtS.of_ext (ext_new W (.cells #[.int .u8 (gk:Int)] 5))).trans ⟨hgr.os,hgr.tape,hgr.output,hgr.size,fun i hi hn=>hgr.block i hi (fun e=>hn e.symm)⟩
    have hlow:∀ j,(Value.slice Av k cv).ownBlock=some j→w.heap.size+2≤j:=fun j hj=>(hrow.lt j hj).1
    obtain ⟨gg,cap,hv9⟩:=ownsRow_succ hrow3
    rw [hv9] at hrow3
    generalize hW3:appW Tryz.prog (W.alloc (.cells #[.int .u8 (gk:Int)] 5)) 174 174 (.slice Av k cv) (.slice (some ⟨W.heap.size,0,none⟩) 1 1)=W3 at hrow3 hgr hE4
    have HX4:=Lib.hid hE4
    have HV3:=Lib.hid (hv.extS hE4 (fun h=>by have:=hlow _ h;omega))
    have HE3:=Lib.hid (ExtS.below hb (fun j hj=>by have:=hlow j hj;omega) hE4)
    have HROW:=Lib.hid hrow3
    have HSZ:=Lib.hid (show w.heap.size+2≤W3.heap.size from Nat.le_trans hs2 hE4.size)
    have HKEEP:=Lib.hid ((KeepsOthers.alloc W (.cells #[.int .u8 (gk:Int)] 5)).trans (KeepsOthers.of_grownBy hgr (own_isCells (own_ext hrow (ext_new W (.cells #[.int .u8 (gk:Int)] 5))))))
    have HLOW:=Lib.hid hlow
    have v3:=HV3.out.cell 0
    have f3:=HV3.out.frozen 0
    clear hv hrow hb hrow3 hgr hE4 hlow hI0 hE0 hBz
    by_cases hkl:k<L
    · have hd:decide (k=L)=false:=decide_eq_false (by omega)
      rw [show g+128=gk by rw [hgk,if_pos hkl]] at hor
      clear hgk
      gi_wp2
      exact put_round HX4.out HV3.out HE3.out HROW.out HSZ.out HKEEP.out HLOW.out HT.out
    · have hd:decide (k=L)=true:=decide_eq_true (by omega)
      have hgg:gk=g:=by rw [hgk,if_neg hkl]
      clear hgk
      subst hgg
      gi_wp2
      exact put_round HX4.out HV3.out HE3.out HROW.out HSZ.out HKEEP.out HLOW.out HT.out
  case done=>
    rintro D W hD ⟨⟨v,hv,hrow⟩,hb,hs2⟩ hK
    have hlen:(grpB z).length=L+1:=by rw [grpB_length,HL.out]
    rw [List.take_of_length_le (by omega)] at hrow
    obtain ⟨g,cg,rfl⟩:=ownsRow_succ hrow
    have hvc:=hv.cell 0
    have hcv:(convert 174 9 (.slice (some ⟨g,0,none⟩) (L+1) cg)).run Tryz.prog W=.ok (.string (putB (grpB z))) W:=by
      rw [run_convert_bytes_string W 174 9 5 _ (L+1) cg Tryz.underlying174 Tryz.underlying5 Tryz.underlying9]
      have h:=run_loadCells_list (P:=Tryz.prog) W ⟨g,0,none⟩ ((bytesI (grpB z)).map (Value.int .u8)) (fun j x hx=>hrow.cells (g:=g) rfl j x hx)
      rw [List.length_map,show (bytesI (grpB z)).length=L+1 by simp [bytesI,hlen]] at h
      exact run_bytesToString W _ (L+1) cg (bytesI (grpB z)) h
    have HB:=Lib.hid hb
    have hzf:putB (grpB z)=putF n:=by rw [HZ.out];rfl
    obtain ⟨pf,hpf⟩:∃ pf,pf=putF n:=⟨_,rfl⟩
    rw [hzf,← hpf] at hcv
    have HPF:=Lib.hid hpf
    clear hv hrow hb hs2 hzf hpf
    go_wp2
    refine ⟨by simp,.inl ⟨_,_,rfl,run_takeDeferred hK,?_⟩⟩
    refine ⟨_,results_tmp2 rfl _ _ _,?_,?_⟩
    · rw [← HPF.out];rfl
    exact HB.out.grown (grownBy_putObj' W D _) HB.out.size (fun k e=>by injection e with e;simp at hD;omega)
theorem putInt_ngv (n:Int) (h0:n<0) (h1 : -4611686018427387903≤n) (w:World) :
    Calls Tryz.prog 76 #[.int .i64 n] w fun e w'=>e=.returned (.tuple #[.string (putF n),.int .i64 0])∧Below w.heap.size w w':=by
  obtain ⟨ib,hib,hzb0,hzb1,hzb2⟩:=info_parts u8_info
  have hdiv:n / 9223372036854775808 = -1:=by omega
  obtain ⟨z,hz⟩:∃ z,z=encN n:=⟨_,rfl⟩
  have hz64:z<18446744073709551616:=by rw [hz];unfold encN;split <;> omega
  have hxor:bits BinOp.xor IntKind.u64 (IntKind.u64.wrap (IntKind.u64.wrap n*2)) (IntKind.u64.wrap (-1))=(z:Int):=by
    obtain ⟨m,hm⟩:∃ m:Nat,n = -(m:Int)-1:=⟨(-n-1).toNat,by omega⟩
    rw [hm,xor_neg64 m (by omega),hz,hm]
    unfold encN
    rw [if_neg (by omega)]
    omega
  have HZ:=Lib.hid hz
  obtain ⟨L,hL⟩:∃ L,L=grpL 9 z:=⟨_,rfl⟩
  have HL:=Lib.hid hL
  have hL9:L≤9:=by rw [hL];exact grpL_le 9 z
  clear hz hL
  have l1:decide (n < -4611686018427387903)=false:=decide_eq_false (by omega)
  have l2:decide (4611686018427387903<n)=false:=decide_eq_false (by omega)
  refine (callsIn_wide (n:=3)).1 (callsIn_of_wp_marks Tryz.func76 rfl trivial (wpIn_wide.2 ?_) rfl)
  simp only [Tryz.ntmps76,List.size_toArray,List.length_cons,List.length_nil,Nat.reduceAdd,Nat.reduceSub,Array.replicate_succ,Array.replicate_zero,List.push_toArray,List.append_toArray,List.nil_append,List.cons_append]
  go_wp2_with (go_at_call 129;refine (groups_any _ _).mono ?_;rintro e W2 ⟨rfl,rfl⟩)
  have hE0:Below w.heap.size w ((w.alloc (.cells #[.slice none 0 0] 174)).alloc (.cells #[.int .u64 (z:Int)] 223)):=ext_alloc (ext_new _ _) _
  have hI0:putI z w 0 ((w.alloc (.cells #[.slice none 0 0] 174)).alloc (.cells #[.int .u64 (z:Int)] 223)):=⟨⟨_,(Blk.new _ _ _).alloc _,by simpa [bytesI] using World.ownsRow_nil _ _ _ _⟩,hE0,by simp⟩
  have hBz:Blk ((w.alloc (.cells #[.slice none 0 0] 174)).alloc (.cells #[.int .u64 (z:Int)] 223)) (w.heap.size+1) 223 #[.int .u64 (z:Int)]:=Blk.new' _ _ _ (by simp)
  refine (wpIn_wide (n:=3)).1 ?_
  refine' wpIn_wr (by omega) (gf:=173) (lb:=#[.pointer (some ⟨w.heap.size+1,0,none⟩)]) (by simp [Act.eval]) (enters_of Tryz.func173 (by kernel_rfl) rfl)
    (groupsS_seq 2 (by omega) (w.heap.size+1) z L HL.out hz64) (by rintro j rfl;simp) (fun k=>rfl) (putI z w) (fun k=>putI_own z w k _ (by simp;omega)) (fun k A B=>putI_S z w k A B) (fun W k=>hBz.ext k) hI0 _ ?assign ?body ?done
  case assign=>
    intro l k W K hK
    gi_wp2
    exact hK
  case body=>
    rintro l k W hk hsz ⟨⟨v,hv,hrow⟩,hb,hs2⟩
    obtain ⟨Av,cv,rfl⟩:=own_shape hrow
    obtain ⟨g,hg⟩:∃ g,g=grpN z k:=⟨_,rfl⟩
    have hg128:g<128:=by rw [hg];exact Nat.mod_lt _ (by omega)
    have HT:=Lib.hid (show (grpB z).take (k+1)=(grpB z).take k++[if k<L then g+128 else g] by rw [hg,HL.out];exact grpB_take z k (by rw [← HL.out];exact hk))
    rw [← hg]
    clear hg
    obtain ⟨gk,hgk⟩:∃ gk,gk=(if k<L then g+128 else g):=⟨_,rfl⟩
    have HGK:=Lib.hid hgk
    rw [← hgk] at HT
    have hor:=or128 g hg128
    have v0:=hv.cell 0
    have f0:=hv.frozen 0
    have hvl:=hv.lt
    obtain ⟨d3,hrow3,hgr⟩:=app_own (P:=Tryz.prog) (w:=W.alloc (.cells #[.int .u8 (gk:Int)] 5)) (w.heap.size+2) 174 174 5 ib (.int .u8 0) 1 1 Tryz.underlying174 hib hzb0 hzb1 hzb2 rfl (by decide)
      (.slice Av k cv) k _ (own_ext hrow (ext_new W (.cells #[.int .u8 (gk:Int)] 5))) ⟨W.heap.size,0,none⟩ 1 1 [.int .u8 (gk:Int)] rfl (cell_one_new _ _ _) (by simp [Value.oneCell']) (by unfold maxLen;omega) (by omega) (by simp;omega)
    have hE4:ExtS (fun j=>(Value.slice Av k cv).ownBlock=some j) W (appW Tryz.prog (W.alloc (.cells #[.int .u8 (gk:Int)] 5)) 174 174 (.slice Av k cv) (.slice (some ⟨W.heap.size,0,none⟩) 1 1)):=(ExtS.of_ext (ext_new W (.cells #[.int .u8 (gk:Int)] 5))).trans ⟨hgr.os,hgr.tape,hgr.output,hgr.size,fun i hi hn=>hgr.block i hi (fun e=>hn e.symm)⟩
    have hlow:∀ j,(Value.slice Av k cv).ownBlock=some j→w.heap.size+2≤j:=fun j hj=>(hrow.lt j hj).1
    obtain ⟨gg,cap,hv9⟩:=ownsRow_succ hrow3
    rw [hv9] at hrow3
    generalize hW3:appW Tryz.prog (W.alloc (.cells #[.int .u8 (gk:Int)] 5)) 174 174 (.slice Av k cv) (.slice (some ⟨W.heap.size,0,none⟩) 1 1)=W3 at hrow3 hgr hE4
    have HX4:=Lib.hid hE4
    have HV3:=Lib.hid (hv.extS hE4 (fun h=>by have:=hlow _ h;omega))
    have HE3:=Lib.hid (ExtS.below hb (fun j hj=>by have:=hlow j hj;omega) hE4)
    have HROW:=Lib.hid hrow3
    have HSZ:=Lib.hid (show w.heap.size+2≤W3.heap.size from Nat.le_trans hs2 hE4.size)
    have HKEEP:=Lib.hid ((KeepsOthers.alloc W (.cells #[.int .u8 (gk:Int)] 5)).trans (KeepsOthers.of_grownBy hgr (own_isCells (own_ext hrow (ext_new W (.cells #[.int .u8 (gk:Int)] 5))))))
    have HLOW:=Lib.hid hlow
    have v3:=HV3.out.cell 0
    have f3:=HV3.out.frozen 0
    clear hv hrow hb hrow3 hgr hE4 hlow hI0 hE0 hBz
    by_cases hkl:k<L
    · have hd:decide (k=L)=false:=decide_eq_false (by omega)
      rw [show g+128=gk by rw [hgk,if_pos hkl]] at hor
      clear hgk
      gi_wp2
      exact put_round HX4.out HV3.out HE3.out HROW.out HSZ.out HKEEP.out HLOW.out HT.out
    · have hd:decide (k=L)=true:=decide_eq_true (by omega)
      have hgg:gk=g:=by rw [hgk,if_neg hkl]
      clear hgk
      subst hgg
      gi_wp2
      exact put_round HX4.out HV3.out HE3.out HROW.out HSZ.out HKEEP.out HLOW.out HT.out
  case done=>
    rintro D W hD ⟨⟨v,hv,hrow⟩,hb,hs2⟩ hK
    have hlen:(grpB z).length=L+1:=by rw [grpB_length,HL.out]
    rw [List.take_of_length_le (by omega)] at hrow
    obtain ⟨g,cg,rfl⟩:=ownsRow_succ hrow
    have hvc:=hv.cell 0
    have hcv:(convert 174 9 (.slice (some ⟨g,0,none⟩) (L+1) cg)).run Tryz.prog W=.ok (.string (putB (grpB z))) W:=by
      rw [run_convert_bytes_string W 174 9 5 _ (L+1) cg Tryz.underlying174 Tryz.underlying5 Tryz.underlying9]
      have h:=run_loadCells_list (P:=Tryz.prog) W ⟨g,0,none⟩ ((bytesI (grpB z)).map (Value.int .u8)) (fun j x hx=>hrow.cells (g:=g) rfl j x hx)
      rw [List.length_map,show (bytesI (grpB z)).length=L+1 by simp [bytesI,hlen]] at h
      exact run_bytesToString W _ (L+1) cg (bytesI (grpB z)) h
    have HB:=Lib.hid hb
    have hzf:putB (grpB z)=putF n:=by rw [HZ.out];rfl
    obtain ⟨pf,hpf⟩:∃ pf,pf=putF n:=⟨_,rfl⟩
    rw [hzf,← hpf] at hcv
    have HPF:=Lib.hid hpf
    clear hv hrow hb hs2 hzf hpf
    go_wp2
    refine ⟨by simp,.inl ⟨_,_,rfl,run_takeDeferred hK,?_⟩⟩
    refine ⟨_,results_tmp2 rfl _ _ _,?_,?_⟩
    · rw [← HPF.out];rfl
    exact HB.out.grown (grownBy_putObj' W D _) HB.out.size (fun k e=>by injection e with e;simp at hD;omega)
theorem putInt_all (n:Int) (h0 : -4611686018427387903≤n) (h1:n≤4611686018427387903) (w:World) :
    Calls Tryz.prog 76 #[.int .i64 n] w fun e w'=>e=.returned (.tuple #[.string (putF n),.int .i64 0])∧Below w.heap.size w w':=by
  by_cases h:0≤n
  · exact putInt_pos n h h1 w
  · exact putInt_ngv n (by omega) h0 w
end Go.Proofs.YtnajpjnnlocfgaaGreatDoor
