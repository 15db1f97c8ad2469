/-
  package origin: New; package cachetierlaw27: built: all values are told.
-/
import Derived.Test.YtnajpjnnlocfgaaGreatDoorJ26
import Derived.Test.YtnajpjnnlocfgaaGreatDoorJ9
set_option linter.unusedSimpArgs false
set_option linter.unusedVariables false
namespace Go.Proofs.YtnajpjnnlocfgaaGreatDoor
open Go.RowKit Go.Shelf
theorem HeadsOK.start (z:ByteArray):HeadsOK [] [(z,stRootF [])]:=fun i h hi=>by
  have e:∀ k,stF ((trs []).take k)=[]:=fun k=>by rw [show trs []=[] from rfl,List.take_nil];rfl
  rw [e]
  generalize stRootF []=s at *
  cases i with
  | zero=>simp at hi;subst hi;rfl
  | succ i=>simp at hi
theorem ChainOK.nil (H:List (ByteArray × ByteArray)):ChainOK [] H:=fun i x h k hi _ _=>by simp at hi
set_option maxRecDepth 100000 in
set_option maxHeartbeats 2000000 in
theorem originNewX (w:World) (hR:RoundOK w):Calls Tryz.prog 25 #[] w fun e w'=>∃ gs gl gst gm gp gn hv,e=.returned (.pointer (some ⟨gs,0,none⟩))∧ServX w.heap.size w' gs gl gst gm (srvCells gl gst gp gn) (.slice none 0 0) hv [] [(zeros32,stRootF [])] []∧w.heap.size≤gs∧Below w.heap.size w w'∧(gm≠gn∧w.heap.size≤gn)∧MapI w' gn []∧w'.ownsRow w.heap.size 3 1 (.slice (some ⟨gp,0,none⟩) 1 1) 1 [.int .i64 0]:=by
  have HR:=Lib.hid hR
  clear hR
  have hmm:=@run_makeMap Tryz.prog
  have hrt:=fun (gs gm:Nat) (W:World) (h:StateR W gs gm 0 []) (hR:RoundOK W)=>stateRootS [] (by simp) (by simp) List.Pairwise.nil gs gm 0 W h hR
  have hhd:=HeadsOK.start zeros32
  have hsz:=stRootF_size []
  generalize stRootF []=s at *
  have HRT:=Lib.hid hrt
  have HHD:=Lib.hid hhd
  have HSZ:=Lib.hid hsz
  clear hrt hhd hsz
  go_enter Tryz.func25,Tryz.ntmps25
  go_wp2_with fail
  refine (storeNew w).mono ?_
  rintro e W1 ⟨rfl,hw⟩
  have HE1:=Lib.hid (show Below w.heap.size w W1 by rw [← hw];exact ext_alloc (ext_new _ _) _)
  have HS1:=Lib.hid (show StateR W1 (w.heap.size+1) w.heap.size 0 [] by rw [← hw];exact ⟨Blk.new' _ _ _ (by simp),(MapR.new w).ext (ext_new _ _)⟩)
  clear hw
  go_wp2_with fail
  refine (HRT.out _ _ W1 HS1.out (HR.out.below HE1.out)).mono ?_
  rintro e W2 ⟨rfl,hb2⟩
  have HE2:=Lib.hid (ext_call HE1.out hb2)
  have HS2:=Lib.hid (HS1.out.ext hb2)
  clear hb2 HS1
  go_wp2_with fail
  refine (logNewB s HSZ.out W2).mono ?_
  rintro e W3 ⟨gl,gh,rfl,hl3,hh3,hgl,hgh,hb3⟩
  have HE3:=Lib.hid (ext_call HE2.out hb3)
  have HS3:=Lib.hid (HS2.out.ext hb3)
  have HL3:=Lib.hid (And.intro hl3 hh3)
  have hz2:=HE2.out.size
  have hz3:=HE3.out.size
  clear hb3 hl3 hh3 HS2
  go_wp2
  go_ret
  have e1:=ext_new W3 (.cells #[.int .i64 0] 3)
  have e2:=ext_alloc e1 (.map #[] 0)
  refine ⟨_,gl,w.heap.size+1,w.heap.size,_,_,.slice (some ⟨gh,0,none⟩) 1 1,rfl,⟨Blk.new' _ _ _ (by simp),rfl,rfl,?_,(HS3.out.ext e2).ext (ext_new _ _),by simp,List.Pairwise.nil,by simp,by simp,RunG.nil,rfl,HHD.out,ChainOK.nil _,?_⟩,?_,ext_alloc (ext_call HE3.out e2) _,⟨by simp;omega,by omega⟩,?_,?_⟩
  · have hl4:=(HL3.out.1.ext e2).ext (ext_new _ (.cells (srvCells gl (w.heap.size+1) W3.heap.size (W3.heap.size+1)) 140))
    have hh4:=(HL3.out.2.ext e2).ext (ext_new _ (.cells (srvCells gl (w.heap.size+1) W3.heap.size (W3.heap.size+1)) 140))
    have hlog:LogG w.heap.size (((W3.alloc (.cells #[.int .i64 0] 3)).alloc (.map #[] 0)).alloc (.cells (srvCells gl (w.heap.size+1) W3.heap.size (W3.heap.size+1)) 140)) gl (.slice none 0 0) (.slice (some ⟨gh,0,none⟩) 1 1) [] [(zeros32,s)]:=
      ⟨hl4,World.ownsRow_nil _ _ _ _,⟨rfl,.inr ⟨gh,1,_,rfl,by omega,hh4,Nat.le_refl _,by unfold maxLen;omega,rfl,rfl⟩⟩,by simp,rfl,by intro h hh;simp at hh;subst hh;exact ⟨zeros32_size,HSZ.out⟩⟩
    exact hlog
  · refine ⟨?_,?_,?_⟩ <;> omega
  · try simp
    omega
  · have h9:=(MapI.new (W3.alloc (.cells #[.int .i64 0] 3))).ext (ext_new _ (.cells (srvCells gl (w.heap.size+1) W3.heap.size (W3.heap.size+1)) 140))
    rw [World.size_alloc] at h9
    exact h9
  · exact ⟨rfl,.inr ⟨W3.heap.size,1,_,rfl,by omega,((Blk.new W3 3 #[.int .i64 0]).alloc _).alloc _,Nat.le_refl _,by unfold maxLen;omega,rfl,rfl⟩⟩
section
attribute [local go_sem ↓] Go.wp_at_zero Go.wp_at_succ
end
end Go.Proofs.YtnajpjnnlocfgaaGreatDoor
