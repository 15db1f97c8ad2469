/-
  words for the cells of answers, entries, queries and range proofs.
-/
import Derived.Test.YtimoapjhepmehaaGreatDoorP41
set_option linter.unusedSimpArgs false
set_option linter.unusedVariables false
namespace Go.Proofs.YtimoapjhepmehaaGreatDoor
open Go.RowKit Go.Shelf
set_option maxRecDepth 100000 in
set_option maxHeartbeats 1000000 in
theorem blk_set15 {W:World} {g:Nat} {ty:TypeId} {a0 a1 a2 a3 a4 a5 a6 a7 a8 a9 a10 a11 a12 a13 a14 u0 u1 u2 u3 u4 u5 u6 u7 u8 u9 u10 u11 u12 u13 u14:Value} (h:Blk W g ty #[a0,a1,a2,a3,a4,a5,a6,a7,a8,a9,a10,a11,a12,a13,a14]):Blk (World.setCell (World.setCell (World.setCell (World.setCell (World.setCell (World.setCell (World.setCell (World.setCell (World.setCell (World.setCell (World.setCell (World.setCell (World.setCell (World.setCell (World.setCell W ⟨g,0,none⟩ u0) ⟨g,1,none⟩ u1) ⟨g,2,none⟩ u2) ⟨g,3,none⟩ u3) ⟨g,4,none⟩ u4) ⟨g,5,none⟩ u5) ⟨g,6,none⟩ u6) ⟨g,7,none⟩ u7) ⟨g,8,none⟩ u8) ⟨g,9,none⟩ u9) ⟨g,10,none⟩ u10) ⟨g,11,none⟩ u11) ⟨g,12,none⟩ u12) ⟨g,13,none⟩ u13) ⟨g,14,none⟩ u14) g ty #[u0,u1,u2,u3,u4,u5,u6,u7,u8,u9,u10,u11,u12,u13,u14]:=by
  have h9:=((((((((((((((h.set_ 0 u0).set_ 1 u1).set_ 2 u2).set_ 3 u3).set_ 4 u4).set_ 5 u5).set_ 6 u6).set_ 7 u7).set_ 8 u8).set_ 9 u9).set_ 10 u10).set_ 11 u11).set_ 12 u12).set_ 13 u13).set_ 14 u14
  simpa using h9
theorem ext_set15 {w W:World} {g:Nat} {u0 u1 u2 u3 u4 u5 u6 u7 u8 u9 u10 u11 u12 u13 u14:Value} (h:Below w.heap.size w W) (hg:w.heap.size≤g):Below w.heap.size w (World.setCell (World.setCell (World.setCell (World.setCell (World.setCell (World.setCell (World.setCell (World.setCell (World.setCell (World.setCell (World.setCell (World.setCell (World.setCell (World.setCell (World.setCell W ⟨g,0,none⟩ u0) ⟨g,1,none⟩ u1) ⟨g,2,none⟩ u2) ⟨g,3,none⟩ u3) ⟨g,4,none⟩ u4) ⟨g,5,none⟩ u5) ⟨g,6,none⟩ u6) ⟨g,7,none⟩ u7) ⟨g,8,none⟩ u8) ⟨g,9,none⟩ u9) ⟨g,10,none⟩ u10) ⟨g,11,none⟩ u11) ⟨g,12,none⟩ u12) ⟨g,13,none⟩ u13) ⟨g,14,none⟩ u14):=ext_set (ext_set (ext_set (ext_set (ext_set (ext_set (ext_set (ext_set (ext_set (ext_set (ext_set (ext_set (ext_set (ext_set (ext_set h hg _) hg _) hg _) hg _) hg _) hg _) hg _) hg _) hg _) hg _) hg _) hg _) hg _) hg _) hg _
theorem cells10t {w:World} {g:Nat} {t:TypeId} {a0 a1 a2 a3 a4 a5 a6 a7 a8 a9:Value} (h:Blk w g t #[a0,a1,a2,a3,a4,a5,a6,a7,a8,a9]):w.cell? ⟨g,0,none⟩=some a0∧w.cell? ⟨g,1,none⟩=some a1∧w.cell? ⟨g,2,none⟩=some a2∧w.cell? ⟨g,3,none⟩=some a3∧w.cell? ⟨g,4,none⟩=some a4∧w.cell? ⟨g,5,none⟩=some a5∧w.cell? ⟨g,6,none⟩=some a6∧w.cell? ⟨g,7,none⟩=some a7∧w.cell? ⟨g,8,none⟩=some a8∧w.cell? ⟨g,9,none⟩=some a9:=by
  refine ⟨?_,?_,?_,?_,?_,?_,?_,?_,?_,?_⟩ <;> exact h.cell _
theorem cells3 {w:World} {g:Nat} {t:TypeId} {a0 a1 a2:Value} (h:Blk w g t #[a0,a1,a2]):w.cell? ⟨g,0,none⟩=some a0∧w.cell? ⟨g,1,none⟩=some a1∧w.cell? ⟨g,2,none⟩=some a2:=by
  refine ⟨?_,?_,?_⟩ <;> exact h.cell _
theorem blk_mid4 {W:World} {g:Nat} {ty:TypeId} {a0 a1 a2 a3 a4 a5 a6 a7 a8 a9 a10 a11 a12 a13 a14 u0 u1 u2 u3:Value} (h:Blk W g ty #[a0,a1,a2,a3,a4,a5,a6,a7,a8,a9,a10,a11,a12,a13,a14]):Blk (World.setCell (World.setCell (World.setCell (World.setCell W ⟨g,7,none⟩ u0) ⟨g,8,none⟩ u1) ⟨g,9,none⟩ u2) ⟨g,10,none⟩ u3) g ty #[a0,a1,a2,a3,a4,a5,a6,u0,u1,u2,u3,a11,a12,a13,a14]:=by
  have h9:=(((h.set_ 7 u0).set_ 8 u1).set_ 9 u2).set_ 10 u3
  simpa using h9
theorem cells15 {w:World} {g:Nat} {t:TypeId} {a0 a1 a2 a3 a4 a5 a6 a7 a8 a9 a10 a11 a12 a13 a14:Value} (h:Blk w g t #[a0,a1,a2,a3,a4,a5,a6,a7,a8,a9,a10,a11,a12,a13,a14]):w.cell? ⟨g,0,none⟩=some a0∧w.cell? ⟨g,1,none⟩=some a1∧w.cell? ⟨g,2,none⟩=some a2∧w.cell? ⟨g,3,none⟩=some a3∧w.cell? ⟨g,4,none⟩=some a4∧w.cell? ⟨g,5,none⟩=some a5∧w.cell? ⟨g,6,none⟩=some a6∧w.cell? ⟨g,7,none⟩=some a7∧w.cell? ⟨g,8,none⟩=some a8∧w.cell? ⟨g,9,none⟩=some a9∧w.cell? ⟨g,10,none⟩=some a10∧w.cell? ⟨g,11,none⟩=some a11∧w.cell? ⟨g,12,none⟩=some a12∧w.cell? ⟨g,13,none⟩=some a13∧w.cell? ⟨g,14,none⟩=some a14:=by
  refine ⟨?_,?_,?_,?_,?_,?_,?_,?_,?_,?_,?_,?_,?_,?_,?_⟩ <;> exact h.cell _
theorem ext2_set15 (W:World) (g:Nat) (u0 u1 u2 u3 u4 u5 u6 u7 u8 u9 u10 u11 u12 u13 u14:Value):Ext2 g g W (World.setCell (World.setCell (World.setCell (World.setCell (World.setCell (World.setCell (World.setCell (World.setCell (World.setCell (World.setCell (World.setCell (World.setCell (World.setCell (World.setCell (World.setCell W ⟨g,0,none⟩ u0) ⟨g,1,none⟩ u1) ⟨g,2,none⟩ u2) ⟨g,3,none⟩ u3) ⟨g,4,none⟩ u4) ⟨g,5,none⟩ u5) ⟨g,6,none⟩ u6) ⟨g,7,none⟩ u7) ⟨g,8,none⟩ u8) ⟨g,9,none⟩ u9) ⟨g,10,none⟩ u10) ⟨g,11,none⟩ u11) ⟨g,12,none⟩ u12) ⟨g,13,none⟩ u13) ⟨g,14,none⟩ u14):=(((((((((((((((Ext2.refl g g W).setA 0 u0).setA 1 u1).setA 2 u2).setA 3 u3).setA 4 u4).setA 5 u5).setA 6 u6).setA 7 u7).setA 8 u8).setA 9 u9).setA 10 u10).setA 11 u11).setA 12 u12).setA 13 u13).setA 14 u14
theorem ext2_set4 (W:World) (g:Nat) (u0 u1 u2 u3:Value):Ext2 g g W (World.setCell (World.setCell (World.setCell (World.setCell W ⟨g,7,none⟩ u0) ⟨g,8,none⟩ u1) ⟨g,9,none⟩ u2) ⟨g,10,none⟩ u3):=((((Ext2.refl g g W).setA 7 u0).setA 8 u1).setA 9 u2).setA 10 u3
theorem Ext2.of_grown {X W:World} {b:Nat} (h:X.grownBy W (some b)):Ext2 b b X W:=⟨h.os,h.tape,h.output,h.size,fun k hk ha _=>h.block k hk (fun e=>ha (by injection e))⟩
theorem ans_size:(Tryz.prog.info? 39).map (·.size)=some 15:=by kernel_rfl
def noStr (v:Value):Bool:=match v with
  | .string _=>false
  | _=>true
theorem str_neB {W:World} {a b o:Nat} {t:TypeId} {xs:Array Value} {x:ByteArray} (h:Blk W a t xs) (hx:xs.all noStr=true) (k:W.cell? ⟨b,o,none⟩=some (.string x)):b≠a:=by
  rintro rfl
  rw [h.cell o] at k
  rw [Array.all_eq_true] at hx
  obtain ⟨hlt,he⟩:=Array.getElem?_eq_some_iff.1 k
  have h1:=hx o hlt
  rw [he] at h1
  cases h1
theorem entKeep {X W:World} {be:Nat} {a0 a1 a2 a3 a4 a5 a6 a7 a8 a9:Value} (h:Blk X be 87 #[a0,a1,a2,a3,a4,a5,a6,a7,a8,a9]) (k:Below X.heap.size X W) :
    W.cell? ⟨be,0,none⟩=some a0∧W.cell? ⟨be,1,none⟩=some a1∧W.cell? ⟨be,2,none⟩=some a2∧W.cell? ⟨be,3,none⟩=some a3∧W.cell? ⟨be,4,none⟩=some a4∧W.cell? ⟨be,5,none⟩=some a5∧W.cell? ⟨be,6,none⟩=some a6∧W.cell? ⟨be,8,none⟩=some a8∧W.cell? ⟨be,9,none⟩=some a9∧Below X.heap.size X W:=
  ⟨(h.ext k).cell 0,(h.ext k).cell 1,(h.ext k).cell 2,(h.ext k).cell 3,(h.ext k).cell 4,(h.ext k).cell 5,(h.ext k).cell 6,(h.ext k).cell 8,(h.ext k).cell 9,k⟩
theorem entB {X W:World} {be:Nat} {a0 a1 a2 a3 a4 a5 a6 a8 a9:Value} (h:W.cell? ⟨be,0,none⟩=some a0∧W.cell? ⟨be,1,none⟩=some a1∧W.cell? ⟨be,2,none⟩=some a2∧W.cell? ⟨be,3,none⟩=some a3∧W.cell? ⟨be,4,none⟩=some a4∧W.cell? ⟨be,5,none⟩=some a5∧W.cell? ⟨be,6,none⟩=some a6∧W.cell? ⟨be,8,none⟩=some a8∧W.cell? ⟨be,9,none⟩=some a9∧Below X.heap.size X W):Below X.heap.size X W:=
  h.2.2.2.2.2.2.2.2.2
theorem rp2Keep {X W:World} {ba bb:Nat} {a0 a1 a2 a3 a4 a5 a6 a7 a8 b0 b1 b2 b3 b4 b5 b6 b7 b8:Value} (h:Blk X ba 126 #[a0,a1,a2,a3,a4,a5,a6,a7,a8]∧Blk X bb 126 #[b0,b1,b2,b3,b4,b5,b6,b7,b8]) (k:Below X.heap.size X W):W.cell? ⟨ba,0,none⟩=some a0∧W.cell? ⟨ba,1,none⟩=some a1∧W.cell? ⟨ba,2,none⟩=some a2∧W.cell? ⟨ba,3,none⟩=some a3∧W.cell? ⟨ba,4,none⟩=some a4∧W.cell? ⟨ba,5,none⟩=some a5∧W.cell? ⟨ba,6,none⟩=some a6∧W.cell? ⟨ba,7,none⟩=some a7∧W.cell? ⟨ba,8,none⟩=some a8∧W.cell? ⟨bb,0,none⟩=some b0∧W.cell? ⟨bb,1,none⟩=some b1∧W.cell? ⟨bb,2,none⟩=some b2∧W.cell? ⟨bb,3,none⟩=some b3∧W.cell? ⟨bb,4,none⟩=some b4∧W.cell? ⟨bb,5,none⟩=some b5∧W.cell? ⟨bb,6,none⟩=some b6∧W.cell? ⟨bb,7,none⟩=some b7∧W.cell? ⟨bb,8,none⟩=some b8∧Below X.heap.size X W:=
  ⟨(h.1.ext k).cell 0,(h.1.ext k).cell 1,(h.1.ext k).cell 2,(h.1.ext k).cell 3,(h.1.ext k).cell 4,(h.1.ext k).cell 5,(h.1.ext k).cell 6,(h.1.ext k).cell 7,(h.1.ext k).cell 8,(h.2.ext k).cell 0,(h.2.ext k).cell 1,(h.2.ext k).cell 2,(h.2.ext k).cell 3,(h.2.ext k).cell 4,(h.2.ext k).cell 5,(h.2.ext k).cell 6,(h.2.ext k).cell 7,(h.2.ext k).cell 8,k⟩
theorem rp2B {X W:World} {ba bb:Nat} {a0 a1 a2 a3 a4 a5 a6 a7 a8 b0 b1 b2 b3 b4 b5 b6 b7 b8:Value} (h:W.cell? ⟨ba,0,none⟩=some a0∧W.cell? ⟨ba,1,none⟩=some a1∧W.cell? ⟨ba,2,none⟩=some a2∧W.cell? ⟨ba,3,none⟩=some a3∧W.cell? ⟨ba,4,none⟩=some a4∧W.cell? ⟨ba,5,none⟩=some a5∧W.cell? ⟨ba,6,none⟩=some a6∧W.cell? ⟨ba,7,none⟩=some a7∧W.cell? ⟨ba,8,none⟩=some a8∧W.cell? ⟨bb,0,none⟩=some b0∧W.cell? ⟨bb,1,none⟩=some b1∧W.cell? ⟨bb,2,none⟩=some b2∧W.cell? ⟨bb,3,none⟩=some b3∧W.cell? ⟨bb,4,none⟩=some b4∧W.cell? ⟨bb,5,none⟩=some b5∧W.cell? ⟨bb,6,none⟩=some b6∧W.cell? ⟨bb,7,none⟩=some b7∧W.cell? ⟨bb,8,none⟩=some b8∧Below X.heap.size X W):Below X.heap.size X W:=h.2.2.2.2.2.2.2.2.2.2.2.2.2.2.2.2.2.2
theorem an15Keep {X W:World} {ba:Nat} {a0 a1 a2 a3 a4 a5 a6 a7 a8 a9 a10 a11 a12 a13 a14:Value} (h:Blk X ba 39 #[a0,a1,a2,a3,a4,a5,a6,a7,a8,a9,a10,a11,a12,a13,a14]) (k:Below X.heap.size X W):W.cell? ⟨ba,0,none⟩=some a0∧W.cell? ⟨ba,1,none⟩=some a1∧W.cell? ⟨ba,2,none⟩=some a2∧W.cell? ⟨ba,3,none⟩=some a3∧W.cell? ⟨ba,4,none⟩=some a4∧W.cell? ⟨ba,5,none⟩=some a5∧W.cell? ⟨ba,6,none⟩=some a6∧W.cell? ⟨ba,7,none⟩=some a7∧W.cell? ⟨ba,8,none⟩=some a8∧W.cell? ⟨ba,9,none⟩=some a9∧W.cell? ⟨ba,10,none⟩=some a10∧W.cell? ⟨ba,11,none⟩=some a11∧W.cell? ⟨ba,12,none⟩=some a12∧W.cell? ⟨ba,13,none⟩=some a13∧W.cell? ⟨ba,14,none⟩=some a14∧Below X.heap.size X W:=
  ⟨(h.ext k).cell 0,(h.ext k).cell 1,(h.ext k).cell 2,(h.ext k).cell 3,(h.ext k).cell 4,(h.ext k).cell 5,(h.ext k).cell 6,(h.ext k).cell 7,(h.ext k).cell 8,(h.ext k).cell 9,(h.ext k).cell 10,(h.ext k).cell 11,(h.ext k).cell 12,(h.ext k).cell 13,(h.ext k).cell 14,k⟩
theorem an15B {X W:World} {ba:Nat} {a0 a1 a2 a3 a4 a5 a6 a7 a8 a9 a10 a11 a12 a13 a14:Value} (h:W.cell? ⟨ba,0,none⟩=some a0∧W.cell? ⟨ba,1,none⟩=some a1∧W.cell? ⟨ba,2,none⟩=some a2∧W.cell? ⟨ba,3,none⟩=some a3∧W.cell? ⟨ba,4,none⟩=some a4∧W.cell? ⟨ba,5,none⟩=some a5∧W.cell? ⟨ba,6,none⟩=some a6∧W.cell? ⟨ba,7,none⟩=some a7∧W.cell? ⟨ba,8,none⟩=some a8∧W.cell? ⟨ba,9,none⟩=some a9∧W.cell? ⟨ba,10,none⟩=some a10∧W.cell? ⟨ba,11,none⟩=some a11∧W.cell? ⟨ba,12,none⟩=some a12∧W.cell? ⟨ba,13,none⟩=some a13∧W.cell? ⟨ba,14,none⟩=some a14∧Below X.heap.size X W):Below X.heap.size X W:=h.2.2.2.2.2.2.2.2.2.2.2.2.2.2.2
theorem cells7 {w:World} {g:Nat} {t:TypeId} {a0 a1 a2 a3 a4 a5 a6:Value} (h:Blk w g t #[a0,a1,a2,a3,a4,a5,a6]):w.cell? ⟨g,0,none⟩=some a0∧w.cell? ⟨g,1,none⟩=some a1∧w.cell? ⟨g,2,none⟩=some a2∧w.cell? ⟨g,3,none⟩=some a3∧w.cell? ⟨g,4,none⟩=some a4∧w.cell? ⟨g,5,none⟩=some a5∧w.cell? ⟨g,6,none⟩=some a6:=by
  refine ⟨?_,?_,?_,?_,?_,?_,?_⟩ <;> exact h.cell _
theorem q7Keep {X W:World} {g:Nat} {t:TypeId} {a0 a1 a2 a3 a4 a5 a6:Value} (h:Blk X g t #[a0,a1,a2,a3,a4,a5,a6]) (k:Below X.heap.size X W) :
    W.cell? ⟨g,0,none⟩=some a0∧W.cell? ⟨g,1,none⟩=some a1∧W.cell? ⟨g,2,none⟩=some a2∧W.cell? ⟨g,3,none⟩=some a3∧W.cell? ⟨g,4,none⟩=some a4∧W.cell? ⟨g,5,none⟩=some a5∧W.cell? ⟨g,6,none⟩=some a6∧Below X.heap.size X W:=
  ⟨(h.ext k).cell 0,(h.ext k).cell 1,(h.ext k).cell 2,(h.ext k).cell 3,(h.ext k).cell 4,(h.ext k).cell 5,(h.ext k).cell 6,k⟩
theorem q7B {X W:World} {g:Nat} {a0 a1 a2 a3 a4 a5 a6:Value} (h:W.cell? ⟨g,0,none⟩=some a0∧W.cell? ⟨g,1,none⟩=some a1∧W.cell? ⟨g,2,none⟩=some a2∧W.cell? ⟨g,3,none⟩=some a3∧W.cell? ⟨g,4,none⟩=some a4∧W.cell? ⟨g,5,none⟩=some a5∧W.cell? ⟨g,6,none⟩=some a6∧Below X.heap.size X W):Below X.heap.size X W:=h.2.2.2.2.2.2.2
end Go.Proofs.YtimoapjhepmehaaGreatDoor
