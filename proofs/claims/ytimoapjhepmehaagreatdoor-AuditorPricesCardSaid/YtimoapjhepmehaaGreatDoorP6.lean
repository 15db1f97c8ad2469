/-
  Part 6 of 54: the contracts that the proof of the last part uses; each stands under its own head.
-/
import Derived.Test.YtimoapjhepmehaaGreatDoorP5
import Derived.Test.YtimoapjhepmehaaGreatDoorP4
import Derived.Stop.RegionWithIn
import Derived.Test.YtimoapjhepmehaaGreatDoorP1
import Derived.Lib.SliceRun
import Derived.Deep.RegionHeld3
set_option linter.unusedSimpArgs false
set_option linter.unusedVariables false
set_option maxHeartbeats 4000000
set_option maxRecDepth 100000
namespace Go.Proofs.YtimoapjhepmehaaGreatDoor
section
open Go.RowKit
attribute [local go_sem ↓] Go.wp_at_zero Go.wp_at_succ
end
section
open Go.RowKit Go.Shelf
attribute [local go_sem] Oper.semAt_some
def OrdPost (J:Nat→World→Prop) (e:Ending) (W':World):Prop:=(∃ v,e=.returned v)∧J 16 W'
theorem orders_any (gs:Nat) (w:World) :
    Calls Tryz.prog 125 #[.pointer (some ⟨gs,0,none⟩)] w fun e w'=>
      e=.returned (.func (.func 177) #[] #[.pointer (some ⟨w.heap.size,0,none⟩)])∧w.alloc (.cells #[.pointer (some ⟨gs,0,none⟩)] 63)=w':=by
  have hmf:∀ (fn:Fn) (first cap:Array Value) (w:World),(Instr.makeFunc fn first cap).run Tryz.prog w=.ok (.func fn first cap) w:=fun _ _ _ _=>rfl
  go_enter Tryz.func125,Tryz.ntmps125
  go_wp2
  go_ret
  exact ⟨rfl,rfl⟩
end
section
open Go.RowKit Go.Shelf
attribute [local go_sem] run_semAt
attribute [local go_sem high] app_sem
theorem foldBack_size (l:List ByteArray) (h:∀ p ∈ l,p.size=32) (hne:l≠[]):(foldBack l).size=32:=by
  unfold foldBack
  have hz:(l.getLast?.getD ⟨#[]⟩).size=32:=by
    rw [List.getLast?_eq_some_getLast hne]
    exact h _ (List.getLast_mem hne)
  generalize l.getLast?.getD ⟨#[]⟩=z at *
  generalize l.dropLast=d
  cases d with
  | nil=>exact hz
  | cons x d=>rw [List.foldr_cons];exact nodeF_size _ _
theorem rootF_size (l:List ByteArray):(rootF l).size=32:=by
  unfold rootF
  by_cases h:l=[]
  · rw [if_pos h];exact sumF_size _
  · rw [if_neg h]
    have hok:=stackTo_ok l l.length
    refine foldBack_size _ (fun p hp=>?_) (fun he=>?_)
    · obtain ⟨q,hq,rfl⟩:=List.mem_map.1 hp
      exact (hok.2 q hq).1
    · have h1:=hok.1
      have h2:stackTo l l.length=[]:=by simpa using he
      rw [h2] at h1
      exact h (List.length_eq_zero_iff.1 h1.symm)
theorem byteS_size (n:Nat):(byteS n).size=1:=rfl
theorem OwnP.strs {B:Nat} {S:Nat→Prop} {v:Value} {l:List ByteArray}:OwnP B (fun W=>Strs S W v l):=fun _ X Y row hs hg hr=>by
  obtain ⟨A,c,rfl,hc,h⟩:=hs
  refine ⟨A,c,rfl,hc,fun h0=>?_⟩
  obtain ⟨b,off,hA,hb,hcell⟩:=h h0
  exact ⟨b,off,hA,hb,fun j x hx=>cell_kept (hcell j x hx) hg (fun r e=>(hr r e).2)⟩
theorem undrew {W W':World} (h:Below W.drew.heap.size W.drew W'):Below W.heap.size W W':=⟨h.os,h.tape,h.output,h.size,h.block⟩
theorem own_below {W W':World} {base e size n:Nat} {v:Value} {xs:List Value} (h:W.ownsRow base e size v n xs) (hb:Below W.heap.size W W'):W'.ownsRow base e size v n xs:=
  h.kept (below_grown hb) (by by_cases h:v.ownBlock=none;exact .inl h;exact .inr h)
theorem str_infoS:∃ i,Tryz.prog.info? 9=some i∧i.zero=some (.string ⟨#[]⟩)∧i.size=1∧i.bytes=16:=by
  obtain ⟨is,his,hzs0,hzs1,hzs2⟩:=info_parts str_info
  exact ⟨is,his,hzs0,hzs1,hzs2⟩
theorem sums_after {W:World} {base B k:Nat} {v:Value} {xs:List Value} (s:ByteArray) (hV:Boxed W B 53 v) (hRow:W.ownsRow base 9 1 v k xs) (hb:base≤W.heap.size) (hB:base≤B) (hk:k<1000) :
    AppOK Tryz.prog (W.alloc (.cells #[.string s] 9)) 53 53 v (.slice (some ⟨W.heap.size,0,none⟩) 1 1)∧∃ g cap W3,appV Tryz.prog (W.alloc (.cells #[.string s] 9)) 53 53 v (.slice (some ⟨W.heap.size,0,none⟩) 1 1)=.slice (some ⟨g,0,none⟩) (k+1) cap ∧
      appW Tryz.prog (W.alloc (.cells #[.string s] 9)) 53 53 v (.slice (some ⟨W.heap.size,0,none⟩) 1 1)=W3∧Boxed W3 B 53 v ∧
      Boxed (W3.setCell ⟨B,0,none⟩ (.slice (some ⟨g,0,none⟩) (k+1) cap)) B 53 (.slice (some ⟨g,0,none⟩) (k+1) cap)∧(W3.setCell ⟨B,0,none⟩ (.slice (some ⟨g,0,none⟩) (k+1) cap)).ownsRow base 9 1 (.slice (some ⟨g,0,none⟩) (k+1) cap) (k+1) (xs++[.string s]) ∧
      KeepsOthers W (W3.setCell ⟨B,0,none⟩ (.slice (some ⟨g,0,none⟩) (k+1) cap))∧Below base W (W3.setCell ⟨B,0,none⟩ (.slice (some ⟨g,0,none⟩) (k+1) cap)) ∧
      ∀ b t cs,Blk W b t cs→t≠9→b≠B→Blk (W3.setCell ⟨B,0,none⟩ (.slice (some ⟨g,0,none⟩) (k+1) cap)) b t cs:=by
  obtain ⟨is,his,hzs0,hzs1,hzs2⟩:=str_infoS
  obtain ⟨ha,ho,hg⟩:=app_own (P:=Tryz.prog) (w:=W.alloc (.cells #[.string s] 9)) base 53 53 9 is (.string ⟨#[]⟩) 1 16 Tryz.underlying53 his hzs0 hzs1 hzs2 rfl (by decide) v k xs (hRow.alloc _) ⟨W.heap.size,0,none⟩ 1 1 [.string s] rfl (cell_one_new _ _ _) (by simp [Value.oneCell']) (by unfold maxLen;omega) (by omega) (by simp;omega)
  refine ⟨ha,?_⟩
  generalize appV Tryz.prog (W.alloc (.cells #[.string s] 9)) 53 53 v (.slice (some ⟨W.heap.size,0,none⟩) 1 1)=v' at *
  generalize appW Tryz.prog (W.alloc (.cells #[.string s] 9)) 53 53 v (.slice (some ⟨W.heap.size,0,none⟩) 1 1)=W3 at *
  obtain ⟨g',cap',rfl⟩:=ownsRow_succ ho
  obtain ⟨hv1,hv2,hr2,hk2,hb2⟩:=hV.appended (by decide) hRow hb hB ho hg
  refine ⟨g',cap',W3,rfl,rfl,hv1,hv2,hr2,hk2,hb2,fun b t cs hB' ht hne=>((hB'.alloc _).grown hg (fun e=>?_)).far hne _⟩
  rcases hRow.2 with ⟨rfl,_⟩|⟨g,cap,cur,rfl,_,hgb,_⟩
  · simp [Value.ownBlock] at e
  · obtain rfl:b=g:=by simpa [Value.ownBlock] using e
    unfold Blk at hB'
    rw [hgb] at hB'
    simp at hB'
    exact ht hB'.2.symm
theorem keeps_below {W W':World} (h:Below W.heap.size W W'):KeepsOthers W W':=⟨h.size,fun k _ hk _=>(h.block k (Array.getElem?_eq_some_iff.1 hk).1).trans hk⟩
end
section
open Go.RowKit
attribute [local go_sem ↓] Go.wp_at_zero Go.wp_at_succ
theorem isDig (s:ByteArray) (hs:s.size=32) (w:World):Calls Tryz.prog 68 #[.string s] w fun e w'=>e=.returned (.bool true)∧w=w':=
  (logtree_isDigest s w).mono fun e w' h=>⟨by rw [h.1,hs];rfl,h.2⟩
theorem logValid (p:Nat) (c s:ByteArray) (hp:p≤10000) (hc:c.size=32) (hs:s.size=32) (w:World) :
    Calls Tryz.prog 102 #[.agg #[.int .i64 (p:Int),.string c,.string s]] w fun e w'=>e=.returned (.bool true)∧Below w.heap.size w w':=by
  have HC:=Lib.hid hc
  have HSs:=Lib.hid hs
  clear hc hs
  have q0:(0:Int)≤(p:Int):=by omega
  have q1:(p:Int)≤10000:=by omega
  go_enter Tryz.func102,Tryz.ntmps102
  go_wp2_with (go_at_call 68;first|(refine (isDig c HC.out _).mono ?_;rintro e w' ⟨rfl,rfl⟩)|(refine (isDig s HSs.out _).mono ?_;rintro e w' ⟨rfl,rfl⟩))
  go_ret
  exact ⟨rfl,ext_new _ _⟩
def headEnc (p:Nat) (c s:ByteArray):ByteArray:=(byteS (2*p)++c)++s
theorem headEnc_size (p:Nat) (c s:ByteArray) (hc:c.size=32) (hs:s.size=32):(headEnc p c s).size=65:=by
  unfold headEnc;rw [ByteArray.size_append,ByteArray.size_append,byteS_size,hc,hs]
theorem logEncode (p:Nat) (c s:ByteArray) (hp:p<64) (hc:c.size=32) (hs:s.size=32) (w:World) :
    Calls Tryz.prog 63 #[.agg #[.int .i64 (p:Int),.string c,.string s]] w fun e w'=>e=.returned (.tuple #[.string (headEnc p c s),.int .i64 0])∧Below w.heap.size w w':=by
  have HC:=Lib.hid hc
  have HSs:=Lib.hid hs
  have HB0:=Lib.hid (Blk.new w 52 #[.int .i64 (p:Int),.string c,.string s])
  have HP:=Lib.hid (fun W:World=>putInt_any p hp W)
  have HF:=Lib.hid (show headEnc p c s=(byteS (2*p)++c)++s from rfl)
  generalize headEnc p c s=r at *
  have hsum1:(byteS (2*p)).size+c.size≤9223372036854775807:=by rw [byteS_size];omega
  have hsum2:(byteS (2*p)++c).size+s.size≤9223372036854775807:=by rw [ByteArray.size_append,byteS_size];omega
  generalize byteS (2*p)=b at *
  have hcat1:=fun W:World=>run_string_add_sum (P:=Tryz.prog) (w:=W) b c hsum1
  have hcat2:=fun W:World=>run_string_add_sum (P:=Tryz.prog) (w:=W) (b++c) s hsum2
  clear hc hs
  go_enter Tryz.func63,Tryz.ntmps63
  go_wp2_with fail
  refine (logValid p c s (by omega) HC.out HSs.out _).mono ?_
  rintro e W1 ⟨rfl,hb1⟩
  have HB1:=Lib.hid (HB0.out.ext hb1)
  have HE1:=Lib.hid (ext_call (ext_new w _) hb1)
  have c0:=HB1.out.cell 0;have c1:=HB1.out.cell 1;have c2:=HB1.out.cell 2
  have l1:=HB1.out.lt
  clear hb1
  go_wp2_with fail
  refine (HP.out _).mono ?_
  rintro e W2 ⟨rfl,hb2⟩
  have HB2:=Lib.hid (HB1.out.ext hb2)
  have HE2:=Lib.hid (ext_call HE1.out hb2)
  clear hb2 c0 c1 c2 l1
  have c0:=HB2.out.cell 0;have c1:=HB2.out.cell 1;have c2:=HB2.out.cell 2
  have l1:=HB2.out.lt
  go_wp2
  go_ret2
  exact ⟨by rw [HF.out];rfl,HE2.out⟩
def zeros32:ByteArray:=⟨(Lib.repeatL (⟨#[0]⟩:ByteArray).data.toList 32).toArray⟩
theorem zeros32_size:zeros32.size=32:=by decide
end
section
open Go.RowKit
attribute [local go_sem ↓] Go.wp_at_zero Go.wp_at_succ
theorem chg_info:(Tryz.prog.info? 72).map (fun i=>(i.zero,i.size,i.bytes))=some (some (.agg #[.int .i64 0,.int .i64 0,.bool false,.int .i64 0,.int .i64 0,.int .i64 0,.bool false,.int .i64 0,.int .i64 0,.int .i64 0]),10,80):=by kernel_rfl
end
section
open Go.RowKit
attribute [local go_sem ↓] Go.wp_at_zero Go.wp_at_succ
theorem Ext2.alloc {a b:Nat} {w W:World} (h:Ext2 a b w W) (o:Obj):Ext2 a b w (W.alloc o):=h.ext (ext_new W o)
theorem Ext2.refl (a b:Nat) (w:World):Ext2 a b w w:=.of_ext (ext_refl w)
end
section
open Go.RowKit Go.Shelf
end
end Go.Proofs.YtimoapjhepmehaaGreatDoor
