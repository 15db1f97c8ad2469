/-
  package store: fits, Apply at any changes.
-/
import Derived.Test.YtnajpjnnlocfgaaGreatDoorJ19
import Derived.Test.YtnajpjnnlocfgaaGreatDoorJ20
set_option linter.unusedSimpArgs false
set_option linter.unusedVariables false
set_option maxHeartbeats 4000000
set_option maxRecDepth 100000
namespace Go.Proofs.YtnajpjnnlocfgaaGreatDoor
open Go.RowKit Go.Shelf
attribute [local go_sem ↓] Go.wp_at_zero Go.wp_at_succ
theorem fitsGno (l:List ChgT) (v:Value) (gs:Nat) (pos:Int) (hp:0≤pos∧pos≤1000) (w:World) (hv:ChgsAt w v l) (hl9:l.length≤1000) (hno:vrecF l=false) :
    Calls Tryz.prog 43 #[.pointer (some ⟨gs,0,none⟩),.agg #[.int .i64 (pos+1),v]] w fun e w'=>e=.returned (.bool false)∧Below w.heap.size w w':=by
  obtain ⟨X,hX⟩:∃ X,X=w.alloc (.cells #[.int .i64 (pos+1),v] 43):=⟨_,rfl⟩
  have HX:=Lib.hid hX
  have HE:=Lib.hid (show Below w.heap.size w X by rw [hX];exact ext_new _ _)
  have HR:=Lib.hid (show Blk X w.heap.size 43 #[.int .i64 (pos+1),v] by rw [hX];exact Blk.new _ _ _)
  have HV:=Lib.hid (fun (W:World) (k:Below w.heap.size w W)=>show Calls Tryz.prog 80 #[.agg #[.int .i64 (pos+1),v]] W fun e w'=>e=.returned (.bool false)∧Below W.heap.size W w' by
    have h9:=validRecord_G (pos+1) ⟨by omega,by omega⟩ l v W (hv.ext k) hl9
    rwa [hno] at h9)
  obtain ⟨A,c,rfl,hc,-⟩:=hv
  clear hX hno
  have a0:=HR.out.cell 0
  have a1:=HR.out.cell 1
  have HK:=Lib.hid (And.intro a0 a1)
  go_enter Tryz.func43,Tryz.ntmps43
  go_upto_region 1 with (fail)
  rw [← HX.out]
  refine wp_region_held_drew (S:=fun w'=>w'.cell? ⟨w.heap.size,0,none⟩=some (.int .i64 (pos+1))∧w'.cell? ⟨w.heap.size,1,none⟩=some (.slice A l.length c)∧Below X.heap.size X w') (by kernel_rfl) (keep2B HK.out (ext_refl X).drew) (fun hHeld=>?_)
  refine wpAnyH_listed (fuel':=14) (listed':=#[false,false,false,false,false,false,false,false,false,false,false,false,false,false]) (by kernel_rfl) (by kernel_rfl) ?_
  refine wpAnyH_hns (by kernel_rfl) (fun HNS=>?_)
  refine wpAnyH_takeZ (i:=0) (v:=?_) HNS rfl (by kernel_rfl) (by kernel_rfl) (fun _ _ _ h=>h) (Or.inl ⟨by rfl,?_⟩) (by assumption) ?_
  rotate_left 1
  · (rintro w' ⟨f0,f1,_⟩;go_simp;try with_reducible rfl)
  try simp only [Act.put,List.getElem_toArray,List.getElem_cons_succ,List.getElem_cons_zero,List.setIfInBounds_toArray,List.set_cons_zero,List.set_cons_succ]
  refine wpAnyH_readyZ (rs:=[1]) (by kernel_rfl) (by simp) ?_
  refine AllReadyH.cons rfl (fun K hK=>?_) AllReadyH.nil
  go_simp
  with_reducible refine (HV.out _ ?_).mono ?_
  · exact HE.out.drew
  rintro e W1 ⟨rfl,hb'⟩
  have hE1:Below X.heap.size X W1:=ext_call (ext_refl X).drew hb'
  refine hK.out _ _ (keep2B HK.out hE1) (fun hHeld=>?_)
  clear hK K
  try simp only [Act.put,List.getElem_toArray,List.getElem_cons_succ,List.getElem_cons_zero,List.setIfInBounds_toArray,List.set_cons_zero,List.set_cons_succ]
  refine wpAnyH_takeZ (i:=2) (v:=?_) HNS rfl (by kernel_rfl) (by kernel_rfl) (fun _ _ _ h=>h) (Or.inl ⟨by rfl,?_⟩) (by assumption) ?_
  rotate_left 1
  · (rintro w' ⟨f0,f1,_⟩;go_simp;try with_reducible rfl)
  try simp only [Act.put,List.getElem_toArray,List.getElem_cons_succ,List.getElem_cons_zero,List.setIfInBounds_toArray,List.set_cons_zero,List.set_cons_succ]
  refine wpAnyH_takeZ (i:=3) (v:=?_) HNS rfl (by kernel_rfl) (by kernel_rfl) (fun _ _ _ h=>h) (Or.inl ⟨by rfl,?_⟩) (by assumption) ?_
  rotate_left 1
  · (rintro w' ⟨f0,f1,_⟩;go_simp;try with_reducible rfl)
  try simp only [Act.put,List.getElem_toArray,List.getElem_cons_succ,List.getElem_cons_zero,List.setIfInBounds_toArray,List.set_cons_zero,List.set_cons_succ]
  refine wpAnyH_takeZ (i:=4) (v:=undef) HNS rfl (by kernel_rfl) (by kernel_rfl) (fun _ _ _ h=>h) (Or.inr ⟨by rfl,rfl⟩) (by assumption) ?_
  try simp only [Act.put,List.getElem_toArray,List.getElem_cons_succ,List.getElem_cons_zero,List.setIfInBounds_toArray,List.set_cons_zero,List.set_cons_succ]
  refine wpAnyH_takeZ (i:=5) (v:=undef) HNS rfl (by kernel_rfl) (by kernel_rfl) (fun _ _ _ h=>h) (Or.inr ⟨by rfl,rfl⟩) (by assumption) ?_
  try simp only [Act.put,List.getElem_toArray,List.getElem_cons_succ,List.getElem_cons_zero,List.setIfInBounds_toArray,List.set_cons_zero,List.set_cons_succ]
  refine wpAnyH_takeZ (i:=6) (v:=undef) HNS rfl (by kernel_rfl) (by kernel_rfl) (fun _ _ _ h=>h) (Or.inr ⟨by rfl,rfl⟩) (by assumption) ?_
  try simp only [Act.put,List.getElem_toArray,List.getElem_cons_succ,List.getElem_cons_zero,List.setIfInBounds_toArray,List.set_cons_zero,List.set_cons_succ]
  refine wpAnyH_takeZ (i:=7) (v:=undef) HNS rfl (by kernel_rfl) (by kernel_rfl) (fun _ _ _ h=>h) (Or.inr ⟨by rfl,rfl⟩) (by assumption) ?_
  try simp only [Act.put,List.getElem_toArray,List.getElem_cons_succ,List.getElem_cons_zero,List.setIfInBounds_toArray,List.set_cons_zero,List.set_cons_succ]
  refine wpAnyH_takeZ (i:=8) (v:=undef) HNS rfl (by kernel_rfl) (by kernel_rfl) (fun _ _ _ h=>h) (Or.inr ⟨by rfl,rfl⟩) (by assumption) ?_
  try simp only [Act.put,List.getElem_toArray,List.getElem_cons_succ,List.getElem_cons_zero,List.setIfInBounds_toArray,List.set_cons_zero,List.set_cons_succ]
  refine wpAnyH_takeZ (i:=9) (v:=undef) HNS rfl (by kernel_rfl) (by kernel_rfl) (fun _ _ _ h=>h) (Or.inr ⟨by rfl,rfl⟩) (by assumption) ?_
  try simp only [Act.put,List.getElem_toArray,List.getElem_cons_succ,List.getElem_cons_zero,List.setIfInBounds_toArray,List.set_cons_zero,List.set_cons_succ]
  refine wpAnyH_takeZ (i:=10) (v:=undef) HNS rfl (by kernel_rfl) (by kernel_rfl) (fun _ _ _ h=>h) (Or.inr ⟨by rfl,rfl⟩) (by assumption) ?_
  try simp only [Act.put,List.getElem_toArray,List.getElem_cons_succ,List.getElem_cons_zero,List.setIfInBounds_toArray,List.set_cons_zero,List.set_cons_succ]
  refine wpAnyH_takeZ (i:=11) (v:=undef) HNS rfl (by kernel_rfl) (by kernel_rfl) (fun _ _ _ h=>h) (Or.inr ⟨by rfl,rfl⟩) (by assumption) ?_
  try simp only [Act.put,List.getElem_toArray,List.getElem_cons_succ,List.getElem_cons_zero,List.setIfInBounds_toArray,List.set_cons_zero,List.set_cons_succ]
  refine wpAnyH_takeZ (i:=12) (v:=undef) HNS rfl (by kernel_rfl) (by kernel_rfl) (fun _ _ _ h=>h) (Or.inr ⟨by rfl,rfl⟩) (by assumption) ?_
  try simp only [Act.put,List.getElem_toArray,List.getElem_cons_succ,List.getElem_cons_zero,List.setIfInBounds_toArray,List.set_cons_zero,List.set_cons_succ]
  refine wpAnyH_takeZ (i:=13) (v:=?_) HNS rfl (by kernel_rfl) (by kernel_rfl) (fun _ _ _ h=>h) (Or.inl ⟨by rfl,?_⟩) (by assumption) ?_
  rotate_left 1
  · (rintro w' ⟨f0,f1,_⟩;go_simp;try with_reducible rfl)
  try simp only [Act.put,List.getElem_toArray,List.getElem_cons_succ,List.getElem_cons_zero,List.setIfInBounds_toArray,List.set_cons_zero,List.set_cons_succ]
  refine wpAnyH_done (by kernel_rfl) ?_ _
  go_wp2
  go_ret
  exact ⟨rfl,ext_call HE.out hE1⟩
theorem applyGno (l:List ChgT) (v:Value) (gs:Nat) (pos:Int) (hp:0≤pos∧pos≤1000) (w:World) (hv:ChgsAt w v l) (hl9:l.length≤1000) (hno:vrecF l=false) :
    Calls Tryz.prog 13 #[.pointer (some ⟨gs,0,none⟩),.agg #[.int .i64 (pos+1),v]] w fun e w'=>e=.returned (.int .i64 40)∧Below w.heap.size w w':=by
  have HE0:=Lib.hid (ext_new w (.cells #[.int .i64 (pos+1),v] 43))
  have HR0:=Lib.hid (Blk.new w 43 #[.int .i64 (pos+1),v])
  have HFT:=Lib.hid (fitsGno l v gs pos hp _ (hv.ext HE0.out) hl9 hno)
  obtain ⟨A,c,rfl,hc,-⟩:=hv
  clear hno
  go_enter Tryz.func13,Tryz.ntmps13
  go_wp2_with fail
  refine HFT.out.mono ?_
  rintro e W1 ⟨rfl,hb1⟩
  have HL1:=Lib.hid (ext_call HE0.out hb1)
  clear hb1
  go_wp2
  go_ret
  exact ⟨rfl,HL1.out⟩
theorem applyG (rs:List RowT) (l:List ChgT) (v:Value) (gs gm:Nat) (pos:Int) (hp:0≤pos∧pos≤1000) (w:World) (hS:StateR w gs gm pos rs) (hv:ChgsAt w v l) (hl9:l.length≤1000) (hsz:rs.length≤1000) (hfit:∀ x ∈ l,fillC rs x=x) :
    Calls Tryz.prog 13 #[.pointer (some ⟨gs,0,none⟩),.agg #[.int .i64 (pos+1),v]] w fun e w'=>(vrecF l=false∧e=.returned (.int .i64 40)∧Below w.heap.size w w')∨(vrecF l=true∧e=.returned (.int .i64 0)∧StateR w' gs gm (pos+1) (applyF rs l)∧Ext2 gs gm w w'):=by
  cases hvr:vrecF l with
  | false=>exact (applyGno l v gs pos hp w hv hl9 hvr).mono fun e w' h=>.inl ⟨rfl,h⟩
  | true=>
    obtain ⟨h1,h2⟩:=(vrecF_iff l).1 hvr
    refine (applyR rs l v gs gm pos hp w hS hv h1 hsz hfit).mono fun e w' h=>?_
    rcases h with ⟨h3,_⟩|⟨_,h3⟩
    · rw [h2] at h3;cases h3
    · exact .inr ⟨rfl,h3⟩
end Go.Proofs.YtnajpjnnlocfgaaGreatDoor
