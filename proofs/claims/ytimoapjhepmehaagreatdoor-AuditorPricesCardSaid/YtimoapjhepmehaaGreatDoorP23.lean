/-
  package auditor: Show over any heads, the look-up of a head.
-/
import Derived.Test.YtimoapjhepmehaaGreatDoorP22
set_option linter.unusedSimpArgs false
set_option linter.unusedVariables false
set_option maxHeartbeats 4000000
set_option maxRecDepth 100000
namespace Go.Proofs.YtimoapjhepmehaaGreatDoor
open Go.RowKit Go.Shelf
attribute [local go_sem ↓] Go.wp_at_zero Go.wp_at_succ
theorem headZero (w:World):(zeroValue 52).run Tryz.prog w=.ok (.agg #[.int .i64 0,.string ⟨#[]⟩,.string ⟨#[]⟩]) w:=by kernel_rfl
def headV (p:Nat) (x:ByteArray × ByteArray):Value:=.agg #[.int .i64 (p:Int),.string x.1,.string x.2]
theorem audHeads {X W:World} {ga bh:Nat} {a0 a1 a2 h0 h1 h2:Value} (h:Blk X ga 92 #[a0,a1,a2]∧Blk X bh 52 #[h0,h1,h2]) (k:Below X.heap.size X W) :
    W.cell? ⟨ga,0,none⟩=some a0∧W.cell? ⟨ga,1,none⟩=some a1∧W.cell? ⟨bh,0,none⟩=some h0∧W.cell? ⟨bh,1,none⟩=some h1∧W.cell? ⟨bh,2,none⟩=some h2∧Below X.heap.size X W:=
  ⟨(h.1.ext k).cell 0,(h.1.ext k).cell 1,(h.2.ext k).cell 0,(h.2.ext k).cell 1,(h.2.ext k).cell 2,k⟩
theorem audHeadsB {X W:World} {ga bh:Nat} {a0 a1 h0 h1 h2:Value} (h:W.cell? ⟨ga,0,none⟩=some a0∧W.cell? ⟨ga,1,none⟩=some a1∧W.cell? ⟨bh,0,none⟩=some h0∧W.cell? ⟨bh,1,none⟩=some h1∧W.cell? ⟨bh,2,none⟩=some h2∧Below X.heap.size X W):Below X.heap.size X W:=h.2.2.2.2.2
theorem showI1 (ga gm n p:Nat) (kv:List (Int × Value)) (r c1 s1:ByteArray) (v:Value) (w:World) (h:AudI w ga gm (n:Int) r kv) (hk:getI kv (p:Int)=none) (hV:∀ W:World,Below w.heap.size w W→Calls Tryz.prog 33 #[.string r,.int .i64 (n:Int),.agg #[.int .i64 (p:Int),.string c1,.string s1],v] W fun e w'=>e=.returned (.bool true)∧Below W.heap.size W w') :
    Calls Tryz.prog 16 #[.pointer (some ⟨ga,0,none⟩),.agg #[.int .i64 (p:Int),.string c1,.string s1],v] w fun e w'=>e=.returned (.int .i64 0)∧AudI w' ga gm (n:Int) r (setI kv (p:Int) (headV p (c1,s1)))∧Ext2 gm gm w w':=by
  have HVf:=Lib.hid hV
  have HNe:=Lib.hid (show ga≠gm from fun e=>h.ne e.symm)
  have hA1:=h.ext (ext_new w (.cells #[.int .i64 (p:Int),.string c1,.string s1] 52))
  have hlk:=fun o=>lookup_Iok (P:=Tryz.prog) (w:=((w.alloc (.cells #[.int .i64 (p:Int),.string c1,.string s1] 52)).alloc o).drew) Tryz.underlying90 Tryz.underlying3 ((hA1.2.ext (ext_new _ o)).ext (ext_refl _).drew) (p:Int) (headZero _)
  have hlk2:=lookup_Iok (P:=Tryz.prog) (w:=(w.alloc (.cells #[.int .i64 (p:Int),.string c1,.string s1] 52)).drew) Tryz.underlying90 Tryz.underlying3 (hA1.2.ext (ext_refl _).drew) (p:Int) (headZero _)
  rw [hk] at hlk2
  simp only [hk,headV,Option.getD_some,Option.getD_none,Option.isSome_some,Option.isSome_none] at hlk hlk2
  have HA:=Lib.hid h
  have a0:w.cell? ⟨ga,0,none⟩=some (.int .i64 (n:Int)):=h.1.cell 0
  have a1:w.cell? ⟨ga,1,none⟩=some (.string r):=h.1.cell 1
  have a2:w.cell? ⟨ga,2,none⟩=some (.map (some gm)):=h.1.cell 2
  have al:=h.1.lt
  have al1:ga<w.heap.size+1:=by omega
  clear h hA1 hV hk
  go_enter Tryz.func16,Tryz.ntmps16
  go_wp2
  go_region
  all_goals
    go_wp2_with fail
    refine (knownYes (n:Int) (by omega) r _).mono ?_
    rintro e X ⟨rfl,hb1⟩
    have hE0:=(ext_alloc (ext_new w (.cells #[.int .i64 (p:Int),.string c1,.string s1] 52)) (.cells #[.int .i64 0,.string ⟨#[]⟩,.string ⟨#[]⟩] 52)).drew
    have HE1:=Lib.hid (ext_call hE0 hb1)
    have HS1:=Lib.hid (show Blk X ga 92 #[.int .i64 (n:Int),.string r,.map (some gm)]∧Blk X w.heap.size 52 #[.int .i64 (p:Int),.string c1,.string s1] from
      ⟨HA.out.1.ext HE1.out,(((Blk.new w 52 #[.int .i64 (p:Int),.string c1,.string s1]).alloc (.cells #[.int .i64 0,.string ⟨#[]⟩,.string ⟨#[]⟩] 52)).drew).ext hb1⟩)
    have HO1:=Lib.hid (show Blk X (w.heap.size+1) 52 #[.int .i64 0,.string ⟨#[]⟩,.string ⟨#[]⟩] from ((Blk.new' (w.alloc (.cells #[.int .i64 (p:Int),.string c1,.string s1] 52)) 52 #[.int .i64 0,.string ⟨#[]⟩,.string ⟨#[]⟩] (b:=w.heap.size+1) (by simp)).drew).ext hb1)
    have HM1:=Lib.hid (HA.out.2.ext HE1.out)
    clear hlk hlk2 a0 a1 a2 al al1 hb1 hE0
    have HK:=Lib.hid (audHeads HS1.out (ext_refl X))
    go_upto_region 5 with (fail)
    go_region_held3 (fun w'=>w'.cell? ⟨ga,0,none⟩=some (.int .i64 (n:Int))∧w'.cell? ⟨ga,1,none⟩=some (.string r)∧w'.cell? ⟨w.heap.size,0,none⟩=some (.int .i64 (p:Int))∧w'.cell? ⟨w.heap.size,1,none⟩=some (.string c1)∧w'.cell? ⟨w.heap.size,2,none⟩=some (.string s1)∧Below X.heap.size X w')
      (first|with_reducible assumption|exact audHeads HS1.out (by repeat (first|with_reducible refine Below.drew ?_|with_reducible assumption|with_reducible exact ext_refl _)))
      (first|(go_at_call 33;(with_reducible refine (HVf.out _ ?_).mono ?_);(exact ext_call HE1.out (audHeadsB (by assumption)));rintro e Z ⟨rfl,hb'⟩;have hXZ:=ext_call (audHeadsB (by assumption)) hb';clear hb'))
    have HZ:=Lib.hid (ext_call HE1.out hXZ)
    have HSz:=Lib.hid (And.intro (HS1.out.1.ext hXZ) (HS1.out.2.ext hXZ))
    have HMz:=Lib.hid (HM1.out.ext hXZ)
    have HOz:=Lib.hid (HO1.out.ext hXZ)
    clear hXZ
    have b2:Z.cell? ⟨ga,2,none⟩=some (.map (some gm)):=HSz.out.1.cell 2
    have h0:Z.cell? ⟨w.heap.size,0,none⟩=some (.int .i64 (p:Int)):=HSz.out.2.cell 0
    have h1:Z.cell? ⟨w.heap.size,1,none⟩=some (.string c1):=HSz.out.2.cell 1
    have h2:Z.cell? ⟨w.heap.size,2,none⟩=some (.string s1):=HSz.out.2.cell 2
    have o0:=HOz.out.cell 0;have o1:=HOz.out.cell 1;have o2:=HOz.out.cell 2
    obtain ⟨ob,hup,hmap⟩:=update_I (P:=Tryz.prog) (w:=Z.drew) Tryz.underlying90 Tryz.underlying3 (HMz.out.ext (ext_refl Z).drew) (p:Int) (headV p (c1,s1))
    have HUP:=Lib.hid hmap
    unfold headV at hup
    clear hmap
    go_wp2
    go_region
    go_wp2
    go_ret
    refine ⟨rfl,⟨(HSz.out.1.drew).putObj _ HNe.out,HUP.out⟩,?_⟩
    exact ((Ext2.of_ext HZ.out).drewN 1).put _
theorem showI2 (ga gm n p:Nat) (kv:List (Int × Value)) (r c1 s1:ByteArray) (v:Value) (w:World) (h:AudI w ga gm (n:Int) r kv) (hk:getI kv (p:Int)=some (headV p (c1,s1))) (hV:∀ W:World,Below w.heap.size w W→Calls Tryz.prog 33 #[.string r,.int .i64 (n:Int),.agg #[.int .i64 (p:Int),.string c1,.string s1],v] W fun e w'=>e=.returned (.bool true)∧Below W.heap.size W w') :
    Calls Tryz.prog 16 #[.pointer (some ⟨ga,0,none⟩),.agg #[.int .i64 (p:Int),.string c1,.string s1],v] w fun e w'=>e=.returned (.int .i64 0)∧AudI w' ga gm (n:Int) r (setI kv (p:Int) (headV p (c1,s1)))∧Ext2 gm gm w w':=by
  have HVf:=Lib.hid hV
  have HNe:=Lib.hid (show ga≠gm from fun e=>h.ne e.symm)
  have hA1:=h.ext (ext_new w (.cells #[.int .i64 (p:Int),.string c1,.string s1] 52))
  have hlk:=fun o=>lookup_Iok (P:=Tryz.prog) (w:=((w.alloc (.cells #[.int .i64 (p:Int),.string c1,.string s1] 52)).alloc o).drew) Tryz.underlying90 Tryz.underlying3 ((hA1.2.ext (ext_new _ o)).ext (ext_refl _).drew) (p:Int) (headZero _)
  have hlk2:=lookup_Iok (P:=Tryz.prog) (w:=(w.alloc (.cells #[.int .i64 (p:Int),.string c1,.string s1] 52)).drew) Tryz.underlying90 Tryz.underlying3 (hA1.2.ext (ext_refl _).drew) (p:Int) (headZero _)
  rw [hk] at hlk2
  simp only [hk,headV,Option.getD_some,Option.getD_none,Option.isSome_some,Option.isSome_none] at hlk hlk2
  have HA:=Lib.hid h
  have a0:w.cell? ⟨ga,0,none⟩=some (.int .i64 (n:Int)):=h.1.cell 0
  have a1:w.cell? ⟨ga,1,none⟩=some (.string r):=h.1.cell 1
  have a2:w.cell? ⟨ga,2,none⟩=some (.map (some gm)):=h.1.cell 2
  have al:=h.1.lt
  have al1:ga<w.heap.size+1:=by omega
  clear h hA1 hV hk
  go_enter Tryz.func16,Tryz.ntmps16
  go_wp2
  go_region
  all_goals
    go_wp2_with fail
    refine (knownYes (n:Int) (by omega) r _).mono ?_
    rintro e X ⟨rfl,hb1⟩
    have hE0:=(ext_alloc (ext_new w (.cells #[.int .i64 (p:Int),.string c1,.string s1] 52)) (.cells #[.int .i64 (p:Int),.string c1,.string s1] 52)).drew
    have HE1:=Lib.hid (ext_call hE0 hb1)
    have HS1:=Lib.hid (show Blk X ga 92 #[.int .i64 (n:Int),.string r,.map (some gm)]∧Blk X w.heap.size 52 #[.int .i64 (p:Int),.string c1,.string s1] from
      ⟨HA.out.1.ext HE1.out,(((Blk.new w 52 #[.int .i64 (p:Int),.string c1,.string s1]).alloc (.cells #[.int .i64 (p:Int),.string c1,.string s1] 52)).drew).ext hb1⟩)
    have HO1:=Lib.hid (show Blk X (w.heap.size+1) 52 #[.int .i64 (p:Int),.string c1,.string s1] from ((Blk.new' (w.alloc (.cells #[.int .i64 (p:Int),.string c1,.string s1] 52)) 52 #[.int .i64 (p:Int),.string c1,.string s1] (b:=w.heap.size+1) (by simp)).drew).ext hb1)
    have HM1:=Lib.hid (HA.out.2.ext HE1.out)
    clear hlk hlk2 a0 a1 a2 al al1 hb1 hE0
    have HK:=Lib.hid (audHeads HS1.out (ext_refl X))
    go_upto_region 5 with (fail)
    go_region_held3 (fun w'=>w'.cell? ⟨ga,0,none⟩=some (.int .i64 (n:Int))∧w'.cell? ⟨ga,1,none⟩=some (.string r)∧w'.cell? ⟨w.heap.size,0,none⟩=some (.int .i64 (p:Int))∧w'.cell? ⟨w.heap.size,1,none⟩=some (.string c1)∧w'.cell? ⟨w.heap.size,2,none⟩=some (.string s1)∧Below X.heap.size X w')
      (first|with_reducible assumption|exact audHeads HS1.out (by repeat (first|with_reducible refine Below.drew ?_|with_reducible assumption|with_reducible exact ext_refl _)))
      (first|(go_at_call 33;(with_reducible refine (HVf.out _ ?_).mono ?_);(exact ext_call HE1.out (audHeadsB (by assumption)));rintro e Z ⟨rfl,hb'⟩;have hXZ:=ext_call (audHeadsB (by assumption)) hb';clear hb'))
    have HZ:=Lib.hid (ext_call HE1.out hXZ)
    have HSz:=Lib.hid (And.intro (HS1.out.1.ext hXZ) (HS1.out.2.ext hXZ))
    have HMz:=Lib.hid (HM1.out.ext hXZ)
    have HOz:=Lib.hid (HO1.out.ext hXZ)
    clear hXZ
    have b2:Z.cell? ⟨ga,2,none⟩=some (.map (some gm)):=HSz.out.1.cell 2
    have h0:Z.cell? ⟨w.heap.size,0,none⟩=some (.int .i64 (p:Int)):=HSz.out.2.cell 0
    have h1:Z.cell? ⟨w.heap.size,1,none⟩=some (.string c1):=HSz.out.2.cell 1
    have h2:Z.cell? ⟨w.heap.size,2,none⟩=some (.string s1):=HSz.out.2.cell 2
    have o0:=HOz.out.cell 0;have o1:=HOz.out.cell 1;have o2:=HOz.out.cell 2
    obtain ⟨ob,hup,hmap⟩:=update_I (P:=Tryz.prog) (w:=Z.drew) Tryz.underlying90 Tryz.underlying3 (HMz.out.ext (ext_refl Z).drew) (p:Int) (headV p (c1,s1))
    have HUP:=Lib.hid hmap
    unfold headV at hup
    clear hmap
    go_wp2
    go_region
    go_wp2
    go_ret
    refine ⟨rfl,⟨(HSz.out.1.drew).putObj _ HNe.out,HUP.out⟩,?_⟩
    exact ((Ext2.of_ext HZ.out).drewN 1).put _
theorem findI1 (ga gm bx p:Nat) (n:Int) (r:ByteArray) (kv:List (Int × Value)) (w:World) (h:AudI w ga gm n r kv) (hk:getI kv (p:Int)=none) (hb:Blk w bx 43 #[.pointer (some ⟨ga,0,none⟩)]) :
    Calls Tryz.prog 30 #[.int .i64 (p:Int),.pointer (some ⟨bx,0,none⟩)] w fun e w'=>e=.returned (.agg #[.int .i64 (-1),.string ⟨#[]⟩,.string ⟨#[]⟩])∧Below w.heap.size w w':=by
  have HE:=ext_new w (.cells #[.int .i64 0,.string ⟨#[]⟩,.string ⟨#[]⟩] 52)
  have hA:=h.ext HE
  have hB:=hb.ext HE
  have hlk:=lookup_Iok (P:=Tryz.prog) (w:=w.alloc (.cells #[.int .i64 0,.string ⟨#[]⟩,.string ⟨#[]⟩] 52)) Tryz.underlying90 Tryz.underlying3 hA.2 (p:Int) (headZero _)
  rw [hk] at hlk
  simp only [headV,Option.getD_some,Option.getD_none,Option.isSome_some,Option.isSome_none] at hlk
  have hbl:=hb.lt
  have hal:=h.1.lt
  have b00:w.cell? ⟨bx,0,none⟩=some (.pointer (some ⟨ga,0,none⟩)):=hb.cell 0
  have a20:w.cell? ⟨ga,2,none⟩=some (.map (some gm)):=h.1.cell 2
  have HY:=Lib.hid ((Blk.new w 52 #[.int .i64 (-1),.string ⟨#[]⟩,.string ⟨#[]⟩]).alloc (.cells #[.int .i64 0,.string ⟨#[]⟩,.string ⟨#[]⟩] 52))
  clear h hb hA hB HE hk
  go_enter Tryz.func30,Tryz.ntmps30
  go_wp2
  have y0:=HY.out.cell 0;have y1:=HY.out.cell 1;have y2:=HY.out.cell 2
  refine bodyPost_ret (v:=.agg #[.int .i64 (-1),.string ⟨#[]⟩,.string ⟨#[]⟩]) (by simp [results,Tryz.results30,go_sem,y0,y1,y2]) rfl ⟨rfl,?_⟩
  exact ext_alloc (ext_new _ _) _
theorem findI2 (ga gm bx p:Nat) (n:Int) (r:ByteArray) (kv:List (Int × Value)) (c1 s1:ByteArray) (w:World) (h:AudI w ga gm n r kv) (hk:getI kv (p:Int)=some (headV p (c1,s1))) (hb:Blk w bx 43 #[.pointer (some ⟨ga,0,none⟩)]) :
    Calls Tryz.prog 30 #[.int .i64 (p:Int),.pointer (some ⟨bx,0,none⟩)] w fun e w'=>e=.returned (.agg #[.int .i64 (p:Int),.string c1,.string s1])∧Below w.heap.size w w':=by
  have HE:=ext_new w (.cells #[.int .i64 0,.string ⟨#[]⟩,.string ⟨#[]⟩] 52)
  have hA:=h.ext HE
  have hB:=hb.ext HE
  have hlk:=lookup_Iok (P:=Tryz.prog) (w:=w.alloc (.cells #[.int .i64 0,.string ⟨#[]⟩,.string ⟨#[]⟩] 52)) Tryz.underlying90 Tryz.underlying3 hA.2 (p:Int) (headZero _)
  rw [hk] at hlk
  simp only [headV,Option.getD_some,Option.getD_none,Option.isSome_some,Option.isSome_none] at hlk
  have hbl:=hb.lt
  have hal:=h.1.lt
  have b00:w.cell? ⟨bx,0,none⟩=some (.pointer (some ⟨ga,0,none⟩)):=hb.cell 0
  have a20:w.cell? ⟨ga,2,none⟩=some (.map (some gm)):=h.1.cell 2
  have HY:=Lib.hid ((Blk.new w 52 #[.int .i64 (p:Int),.string c1,.string s1]).alloc (.cells #[.int .i64 (p:Int),.string c1,.string s1] 52))
  clear h hb hA hB HE hk
  go_enter Tryz.func30,Tryz.ntmps30
  go_wp2
  have y0:=HY.out.cell 0;have y1:=HY.out.cell 1;have y2:=HY.out.cell 2
  refine bodyPost_ret (v:=.agg #[.int .i64 (p:Int),.string c1,.string s1]) (by simp [results,Tryz.results30,go_sem,y0,y1,y2]) rfl ⟨rfl,?_⟩
  exact ext_alloc (ext_new _ _) _
end Go.Proofs.YtimoapjhepmehaaGreatDoor
