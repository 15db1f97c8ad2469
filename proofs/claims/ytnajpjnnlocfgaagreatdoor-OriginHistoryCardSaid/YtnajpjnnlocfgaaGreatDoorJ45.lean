/-
  package logtree: Head, Prove, Extension, Verify, Follows at any log; package origin: Head, Prove, Extension.
-/
import Derived.Test.YtnajpjnnlocfgaaGreatDoorJ11
import Derived.Test.YtnajpjnnlocfgaaGreatDoorJ18
import Derived.Test.YtnajpjnnlocfgaaGreatDoorJ30
import Derived.Test.YtnajpjnnlocfgaaGreatDoorJ44
set_option linter.unusedSimpArgs false
set_option linter.unusedVariables false
set_option maxHeartbeats 4000000
set_option maxRecDepth 100000
namespace Go.Proofs.YtnajpjnnlocfgaaGreatDoor
open Go.RowKit Go.Shelf
attribute [local go_sem ↓] Go.wp_at_zero Go.wp_at_succ
theorem strs_sliceG {S:Nat→Prop} {w:World} {v:Value} {l:List ByteArray} (h:Strs S w v l):∃ A c,v=.slice A l.length c:=by
  obtain ⟨A,c,rfl,_⟩:=h
  exact ⟨_,_,rfl⟩
def PathG (w:World) (l:List ByteArray) (e:Ending) (w':World):Prop:=∃ A c,e=.returned (.tuple #[.slice A l.length c,.int .i64 0])∧Strs (fun b=>w.heap.size≤b) w' (.slice A l.length c) l∧Below w.heap.size w w'
section
variable {B gl gs:Nat} {rv hv:Value} {R:List (List ChgT × Nat × Nat)} {H:List (ByteArray × ByteArray)}
theorem logHeadG (p:Nat) (x:ByteArray × ByteArray) (hx:H[p]? = some x) (w:World) (hL:LogG B w gl rv hv R H) :
    Calls Tryz.prog 37 #[.pointer (some ⟨gl,0,none⟩),.int .i64 (p:Int)] w fun e w'=>e=.returned (.tuple #[.agg #[.int .i64 (p:Int),.string x.1,.string x.2],.bool true])∧Below w.heap.size w w':=by
  have hp:=(List.getElem?_eq_some_iff.1 hx).1
  obtain ⟨x0,x1,x2⟩:=hcF_at H 0 p x hx
  rw [Nat.zero_add] at x0
  obtain ⟨g,cap,rfl,-,hg,hcap,hc⟩:=own_cells hL.heads (by omega)
  have x0:=hc _ _ x0
  have x1:=hc _ _ x1
  have x2:=hc _ _ x2
  have hB:=hL.log
  have y0:=hB.cell 0;have y1:=hB.cell 1
  have yl:=hB.lt
  have d1:decide ((p:Int)<0)=false:=decide_eq_false (by omega)
  have d2:decide ((H.length:Int)≤(p:Int))=false:=decide_eq_false (by omega)
  have d2':decide (H.length≤p)=false:=decide_eq_false (by omega)
  have p0:(0:Int)≤(p:Int):=by omega
  have p1:(p:Int)<(H.length:Int):=by omega
  obtain ⟨xc,xs⟩:=x
  dsimp only at x1 x2 ⊢
  clear hB hL hc hx
  go_enter Tryz.func37,Tryz.ntmps37
  go_wp2
  refine bodyPost_ret (v:=.tuple #[.agg #[.int .i64 (p:Int),.string xc,.string xs],.bool true]) (by simp [results,Tryz.results37,go_sem]) rfl ⟨rfl,ext_new _ _⟩
theorem logProveG (hH:H.length≤60) (p:Nat) (x:ByteArray × ByteArray) (hx:H[p]? = some x) (w:World) (hL:LogG B w gl rv hv R H) (hR:RoundOK w) :
    Calls Tryz.prog 45 #[.pointer (some ⟨gl,0,none⟩),.int .i64 (p:Int)] w (PathG w (((wayL H.length (leavesH 0 H) p).map (·.1)).reverse)):=by
  have hp:=(List.getElem?_eq_some_iff.1 hx).1
  have HL:=Lib.hid hL
  have HR:=Lib.hid hR
  have HLv:=Lib.hid (fun (W:World) (k:Below w.heap.size w W)=>leavesX B gl rv hv R H (by omega) W (hL.ext k))
  have HPr:=Lib.hid (show ∀ (K:Nat) (v:Value) (W:World),Strs (fun b=>K≤b) W v (leavesH 0 H)→RoundOK W→Calls Tryz.prog 82 #[v,.int .i64 (p:Int)] W (ProofPost W (((wayL H.length (leavesH 0 H) p).map (·.1)).reverse)) from fun K v W h hRW=>by
    have h9:=proof_any (fun b=>b<W.heap.size) v (leavesH 0 H) p W (h.mono (fun b _ hb=>hb)) (by rw [leavesH_length];exact Nat.le_trans hH (by decide)) (by rw [leavesH_length];exact hp) (fun b hb=>hb) (leavesH_sizes H 0 hL.sizes) hRW
    rwa [leavesH_length] at h9)
  have HHd:=Lib.hid (fun (W:World) (k:Below w.heap.size w W)=>logHeadG p x hx W (hL.ext k))
  generalize ((wayL H.length (leavesH 0 H) p).map (·.1)).reverse=pl at *
  generalize leavesH 0 H=es at *
  clear hL hR hx
  obtain ⟨xc,xs⟩:=x
  go_enter Tryz.func45,Tryz.ntmps45
  go_wp2_with fail
  refine (HHd.out _ (ext_refl w)).mono ?_
  rintro e W1 ⟨rfl,hb1⟩
  have HB1:=Lib.hid (ext_alloc hb1 (.cells #[.int .i64 (p:Int),.string xc,.string xs] 30))
  clear hb1
  go_wp2_with fail
  refine (HLv.out _ HB1.out).mono ?_
  rintro e W2 ⟨v,rfl,hs2,hb2⟩
  have HS2:=Lib.hid hs2
  have HB2:=Lib.hid (ext_call HB1.out hb2)
  clear hs2 hb2
  go_wp2_with fail
  refine (HPr.out _ v W2 HS2.out (HR.out.below HB2.out)).mono ?_
  rintro e W3 ⟨v3,rfl,hs3,hb3⟩
  obtain ⟨A,c,rfl⟩:=strs_sliceG hs3
  have HS3:=Lib.hid (hs3.mono (S':=fun b=>w.heap.size≤b) (fun b h _=>Nat.le_trans HB2.out.size h))
  have HB3:=Lib.hid (ext_call HB2.out hb3)
  clear hs3 hb3
  go_wp2
  go_ret2
  exact ⟨A,c,rfl,HS3.out,HB3.out⟩
theorem logExtG (hH:H.length≤60) (p:Nat) (x:ByteArray × ByteArray) (hx:H[p]? = some x) (w:World) (hL:LogG B w gl rv hv R H) (hR:RoundOK w) :
    Calls Tryz.prog 46 #[.pointer (some ⟨gl,0,none⟩),.int .i64 (p:Int)] w (PathG w (extP (leavesH 0 H) (p+1))):=by
  have hp:=(List.getElem?_eq_some_iff.1 hx).1
  have HL:=Lib.hid hL
  have HR:=Lib.hid hR
  have HLv:=Lib.hid (fun (W:World) (k:Below w.heap.size w W)=>leavesX B gl rv hv R H (by omega) W (hL.ext k))
  have HPr:=Lib.hid (show ∀ (K:Nat) (v:Value) (W:World),Strs (fun b=>K≤b) W v (leavesH 0 H)→RoundOK W→Calls Tryz.prog 83 #[v,.int .i64 ((p:Int)+1)] W (ProofPost W (extP (leavesH 0 H) (p+1))) from fun K v W h hRW=>
    ext_any (fun b=>b<W.heap.size) v (leavesH 0 H) (p+1) W (h.mono (fun b _ hb=>hb)) (by rw [leavesH_length];exact Nat.le_trans hH (by decide)) (by omega) (by rw [leavesH_length];omega) (fun b hb=>hb) (leavesH_sizes H 0 hL.sizes) hRW)
  have HHd:=Lib.hid (fun (W:World) (k:Below w.heap.size w W)=>logHeadG p x hx W (hL.ext k))
  generalize extP (leavesH 0 H) (p+1)=pl at *
  generalize leavesH 0 H=es at *
  have e1:IntKind.i64.wrap ((p:Int)+1)=(p:Int)+1:=IntWalk.i64_in _ (by omega)
  clear hL hR hx
  obtain ⟨xc,xs⟩:=x
  go_enter Tryz.func46,Tryz.ntmps46
  go_wp2_with fail
  refine (HHd.out _ (ext_refl w)).mono ?_
  rintro e W1 ⟨rfl,hb1⟩
  have HB1:=Lib.hid (ext_alloc hb1 (.cells #[.int .i64 (p:Int),.string xc,.string xs] 30))
  clear hb1
  go_wp2_with fail
  refine (HLv.out _ HB1.out).mono ?_
  rintro e W2 ⟨v,rfl,hs2,hb2⟩
  have HS2:=Lib.hid hs2
  have HB2:=Lib.hid (ext_call HB1.out hb2)
  clear hs2 hb2
  go_wp2_with fail
  refine (HPr.out _ v W2 HS2.out (HR.out.below HB2.out)).mono ?_
  rintro e W3 ⟨v3,rfl,hs3,hb3⟩
  obtain ⟨A,c,rfl⟩:=strs_sliceG hs3
  have HS3:=Lib.hid (hs3.mono (S':=fun b=>w.heap.size≤b) (fun b h _=>Nat.le_trans HB2.out.size h))
  have HB3:=Lib.hid (ext_call HB2.out hb3)
  clear hs3 hb3
  go_wp2
  go_ret2
  exact ⟨A,c,rfl,HS3.out,HB3.out⟩
theorem logVerifyG (hH:H.length≤60) (hsz:∀ h ∈ H,h.1.size=32∧h.2.size=32) (n p:Nat) (hn:H.length=n+1) (x:ByteArray × ByteArray) (hx:H[p]? = some x) (S:Nat→Prop) (v:Value) (w:World) (hv:Strs S w v (((wayL H.length (leavesH 0 H) p).map (·.1)).reverse)) (hSB:∀ b,S b→b<w.heap.size) (hR:RoundOK w) :
    Calls Tryz.prog 24 #[.string (logRootF H),.int .i64 (n:Int),.agg #[.int .i64 (p:Int),.string x.1,.string x.2],v] w fun e w'=>e=.returned (.bool true)∧Below w.heap.size w w':=by
  have hp:=(List.getElem?_eq_some_iff.1 hx).1
  have hxs:=hsz x (List.mem_of_getElem? hx)
  have HEn:=Lib.hid (fun W:World=>logEncode p x.1 x.2 (by omega) hxs.1 hxs.2 W)
  have HSz:=Lib.hid (show (headEnc p x.1 x.2).size≤500000 by
    have:=leavesH_sizes H 0 hsz (headEnc p x.1 x.2) (List.mem_of_getElem? (by have h9:=leavesH_at H 0 p x hx;rwa [Nat.zero_add] at h9))
    omega)
  have HVe:=Lib.hid (fun (W:World) (h:Below w.heap.size w W)=>show Calls Tryz.prog 63 #[.string (logRootF H),.int .i64 ((n:Int)+1),.int .i64 (p:Int),.string (headEnc p x.1 x.2),v] W fun e w'=>e=.returned (.bool true)∧Below W.heap.size W w' by
    have h9:=verify_any S v (logRootF H) (headEnc p x.1 x.2) (leavesH 0 H) p W (by rw [leavesH_length];exact Nat.le_trans hH (by decide)) (by have h8:=leavesH_at H 0 p x hx;rwa [Nat.zero_add] at h8) (by rw [leavesH_length];exact hv.below h) (fun b hb=>Nat.lt_of_lt_of_le (hSB b hb) h.size) HSz.out (hR.below h)
    have hc:((leavesH 0 H).length:Int)=(n:Int)+1:=by rw [leavesH_length,hn];rfl
    have hr:((rootF (leavesH 0 H)).toList == (logRootF H).toList)=true:=by unfold logRootF;rw [beq_self_eq_true]
    rw [hc,hr] at h9
    exact h9)
  obtain ⟨xc,xs⟩:=x
  dsimp only at HEn HVe ⊢
  generalize headEnc p xc xs=e1 at *
  generalize logRootF H=rt at *
  have HH:=Lib.hid (Blk.new w 30 #[.int .i64 (p:Int),.string xc,.string xs])
  have c0:=HH.out.cell 0;have c1:=HH.out.cell 1;have c2:=HH.out.cell 2
  have e1:IntKind.i64.wrap ((n:Int)+1)=(n:Int)+1:=IntWalk.i64_in _ (by omega)
  have p1:(p:Int)≤(n:Int):=by omega
  have p1':p≤n:=by omega
  have p2:(n:Int)≤10000:=by omega
  obtain ⟨A,c,hvv⟩:=strs_sliceG hv
  obtain ⟨nl,hnl⟩:∃ nl,nl=(((wayL H.length (leavesH 0 H) p).map (·.1)).reverse).length:=⟨_,rfl⟩
  rw [← hnl] at hvv
  subst hvv
  clear hv hR hx hsz hSB hn hxs hnl
  go_enter Tryz.func24,Tryz.ntmps24
  go_wp2_with fail
  refine (HEn.out _).mono ?_
  rintro e W1 ⟨rfl,hb1⟩
  have HB1:=Lib.hid (ext_call (ext_new w _) hb1)
  have HH1:=Lib.hid (HH.out.ext hb1)
  clear hb1 c0 c1 c2
  have d0:=HH1.out.cell 0
  go_wp2_with fail
  refine (HVe.out _ HB1.out).mono ?_
  rintro e W2 ⟨rfl,hb2⟩
  go_wp2
  go_ret
  exact ⟨rfl,ext_call HB1.out hb2⟩
theorem srvHeadG (p:Nat) (x:ByteArray × ByteArray) (hx:H[p]? = some x) (w:World) (h0:w.cell? ⟨gs,0,none⟩=some (.pointer (some ⟨gl,0,none⟩))) (hL:LogG B w gl rv hv R H) :
    Calls Tryz.prog 8 #[.pointer (some ⟨gs,0,none⟩),.int .i64 (p:Int)] w fun e w'=>e=.returned (.tuple #[.agg #[.int .i64 (p:Int),.string x.1,.string x.2],.bool true])∧Below w.heap.size w w':=by
  have hA:=Lib.hid (logHeadG p x hx (w.alloc (.cells #[.int .i64 0,.string ⟨#[]⟩,.string ⟨#[]⟩] 30)) (hL.ext (ext_new _ _)))
  have hsl:=srvLog gs gl (w.alloc (.cells #[.int .i64 0,.string ⟨#[]⟩,.string ⟨#[]⟩] 30)) (cell_ext h0 (ext_new _ _))
  have HN:=Lib.hid (Blk.new w 30 #[.int .i64 0,.string ⟨#[]⟩,.string ⟨#[]⟩])
  clear hL
  obtain ⟨xc,xs⟩:=x
  dsimp only at hA ⊢
  go_enter Tryz.func8,Tryz.ntmps8
  go_wp2_with (go_at_call 35;refine hsl.mono ?_;rintro e w' ⟨rfl,hw'⟩;subst w')
  refine hA.out.mono ?_
  rintro e W2 ⟨rfl,hb2⟩
  have hN2:=HN.out.ext hb2
  have c0:=hN2.cell 0;have c1:=hN2.cell 1;have c2:=hN2.cell 2
  have f0:=hN2.frozen 0
  have f1:=hN2.frozen 1
  have f2:=hN2.frozen 2
  have HE:=Lib.hid (ext_call (ext_new w _) hb2)
  clear hb2
  go_wp2
  obtain ⟨V,hV⟩:∃ V,V=((W2.setCell ⟨w.heap.size,0,none⟩ (.int .i64 (p:Int))).setCell ⟨w.heap.size,1,none⟩ (.string xc)).setCell ⟨w.heap.size,2,none⟩ (.string xs):=⟨_,rfl⟩
  rw [← hV]
  have hN3:Blk V w.heap.size 30 #[.int .i64 (p:Int),.string xc,.string xs]:=by rw [hV];exact ((hN2.set_ 0 _).set_ 1 _).set_ 2 _
  have hE3:Below w.heap.size w V:=by rw [hV];exact ext_set (ext_set (ext_set HE.out (Nat.le_refl _) _) (Nat.le_refl _) _) (Nat.le_refl _) _
  clear hV
  have r0:=hN3.cell 0
  have r1:=hN3.cell 1
  have r2:=hN3.cell 2
  refine bodyPost_ret (v:=.tuple #[.agg #[.int .i64 (p:Int),.string xc,.string xs],.bool true]) (by simp [results,Tryz.results8,go_sem,r0,r1,r2]) rfl ⟨rfl,hE3⟩
theorem srvProveG (hH:H.length≤60) (p:Nat) (x:ByteArray × ByteArray) (hx:H[p]? = some x) (w:World) (h0:w.cell? ⟨gs,0,none⟩=some (.pointer (some ⟨gl,0,none⟩))) (hL:LogG B w gl rv hv R H) (hR:RoundOK w) :
    Calls Tryz.prog 14 #[.pointer (some ⟨gs,0,none⟩),.int .i64 (p:Int)] w (PathG w (((wayL H.length (leavesH 0 H) p).map (·.1)).reverse)):=by
  have hA:=Lib.hid (logProveG hH p x hx w hL hR)
  have hsl:=srvLog gs gl w h0
  generalize ((wayL H.length (leavesH 0 H) p).map (·.1)).reverse=pl at *
  clear hL
  go_enter Tryz.func14,Tryz.ntmps14
  go_wp2_with (go_at_call 35;refine hsl.mono ?_;rintro e w' ⟨rfl,hw'⟩;subst w')
  refine hA.out.mono ?_
  rintro e W2 ⟨A,c,rfl,hs2,hb2⟩
  have HS2:=Lib.hid hs2
  clear hs2
  go_wp2
  go_ret2
  exact ⟨A,c,rfl,HS2.out,hb2⟩
theorem srvExtG (hH:H.length≤60) (p:Nat) (x:ByteArray × ByteArray) (hx:H[p]? = some x) (w:World) (h0:w.cell? ⟨gs,0,none⟩=some (.pointer (some ⟨gl,0,none⟩))) (hL:LogG B w gl rv hv R H) (hR:RoundOK w) :
    Calls Tryz.prog 15 #[.pointer (some ⟨gs,0,none⟩),.int .i64 (p:Int)] w (PathG w (extP (leavesH 0 H) (p+1))):=by
  have hA:=Lib.hid (logExtG hH p x hx w hL hR)
  have hsl:=srvLog gs gl w h0
  generalize extP (leavesH 0 H) (p+1)=pl at *
  clear hL
  go_enter Tryz.func15,Tryz.ntmps15
  go_wp2_with (go_at_call 35;refine hsl.mono ?_;rintro e w' ⟨rfl,hw'⟩;subst w')
  refine hA.out.mono ?_
  rintro e W2 ⟨A,c,rfl,hs2,hb2⟩
  have HS2:=Lib.hid hs2
  clear hs2
  go_wp2
  go_ret2
  exact ⟨A,c,rfl,HS2.out,hb2⟩
end
end Go.Proofs.YtnajpjnnlocfgaaGreatDoor
