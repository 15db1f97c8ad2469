/-
  package auditor: New, Size, Learn over any heads.
-/
import Derived.Test.YtimoapjhepmehaaGreatDoorP21
import Derived.Test.YtimoapjhepmehaaGreatDoorP3
import Derived.Test.YtimoapjhepmehaaGreatDoorP17
import Derived.Deep.RegionHeld3
import Derived.Deep.Cut
set_option linter.unusedSimpArgs false
set_option linter.unusedVariables false
set_option maxHeartbeats 4000000
set_option maxRecDepth 100000
namespace Go.Proofs.YtimoapjhepmehaaGreatDoor
open Go.RowKit Go.Shelf
attribute [local go_sem ↓] Go.wp_at_zero Go.wp_at_succ
theorem leavesT_take:∀ (H:List (ByteArray × ByteArray)) (i k:Nat),leavesH i (H.take k)=(leavesH i H).take k
  | [],i,k=>by simp [leavesH]
  | x::H,i,0=>by simp [leavesH]
  | x::H,i,k+1=>by
    rw [List.take_succ_cons]
    show headEnc i x.1 x.2::leavesH (i+1) (H.take k)=(headEnc i x.1 x.2::leavesH (i+1) H).take (k+1)
    rw [List.take_succ_cons,leavesT_take H (i+1) k]
theorem extT_same {L:List ByteArray} {M:Nat} (h:L.length≤M):extP L M=[]:=by
  have h1:extW L.length L M=[]:=by
    cases hl:L.length with
    | zero=>rfl
    | succ f=>unfold extW;rw [if_pos h]
  unfold extP
  rw [h1]
  rfl
theorem MapI.set {w:World} {g:Nat} {kv:List (Int × Value)} (h:MapI w g kv) (p:Addr) (v:Value) (hne:g≠p.block):MapI (w.setCell p v) g kv:=by
  obtain ⟨es,c,h,e⟩:=h
  exact ⟨es,c,h.set p v hne,e⟩
def AudI (w:World) (ga gm:Nat) (n:Int) (r:ByteArray) (kv:List (Int × Value)):Prop:=Blk w ga 92 #[.int .i64 n,.string r,.map (some gm)]∧MapI w gm kv
theorem AudI.ext {w W:World} {ga gm:Nat} {n:Int} {r:ByteArray} {kv:List (Int × Value)} (h:AudI w ga gm n r kv) (k:Below w.heap.size w W):AudI W ga gm n r kv:=⟨h.1.ext k,h.2.ext k⟩
theorem AudI.ne {w:World} {ga gm:Nat} {n:Int} {r:ByteArray} {kv:List (Int × Value)} (h:AudI w ga gm n r kv):gm≠ga:=fun e=>by
  have h1:=h.1
  obtain ⟨es,c,h2,_⟩:=h.2
  unfold Blk at h1
  unfold MapAt at h2
  rw [e,h1] at h2
  cases h2
theorem audNewI (w:World):Calls Tryz.prog 15 #[] w fun e w'=>e=.returned (.pointer (some ⟨w.heap.size+1,0,none⟩))∧AudI w' (w.heap.size+1) w.heap.size (-1) ⟨#[]⟩ []∧Below w.heap.size w w':=by
  have hmm:=@run_makeMap Tryz.prog
  go_enter Tryz.func15,Tryz.ntmps15
  go_wp2
  go_ret
  exact ⟨rfl,⟨Blk.new' _ _ _ (by simp),(MapI.new w).ext (ext_new _ _)⟩,ext_alloc (ext_new _ _) _⟩
theorem audSizeI (ga gm:Nat) (n:Int) (r:ByteArray) (kv:List (Int × Value)) (w:World) (h:AudI w ga gm n r kv):Calls Tryz.prog 12 #[.pointer (some ⟨ga,0,none⟩)] w fun e w'=>e=.returned (.int .i64 n)∧w=w':=by
  have h0:w.cell? ⟨ga,0,none⟩=some (.int .i64 n):=h.1.cell 0
  clear h
  go_enter Tryz.func12,Tryz.ntmps12
  go_wp2
  go_ret
  exact ⟨rfl,rfl⟩
theorem knownNo (r:ByteArray) (w:World):Calls Tryz.prog 32 #[.agg #[.int .i64 (-1),.string r]] w fun e w'=>e=.returned (.bool false)∧Below w.heap.size w w':=by
  go_enter Tryz.func32,Tryz.ntmps32
  go_wp2
  go_ret
  exact ⟨rfl,ext_new _ _⟩
theorem knownYes (n:Int) (hn:0≤n) (r:ByteArray) (w:World):Calls Tryz.prog 32 #[.agg #[.int .i64 n,.string r]] w fun e w'=>e=.returned (.bool true)∧Below w.heap.size w w':=by
  go_enter Tryz.func32,Tryz.ntmps32
  go_wp2
  go_ret
  exact ⟨by simp [hn],ext_new _ _⟩
theorem contFirst (r r':ByteArray) (n:Int) (A:Option Addr) (c:Nat) (w:World) :
    Calls Tryz.prog 34 #[.agg #[.int .i64 (-1),.string r],.agg #[.int .i64 n,.string r'],.slice A 0 c] w fun e w'=>e=.returned (.bool true)∧Below w.heap.size w w':=by
  have hz:((0:Int) == 0)=true:=rfl
  go_enter Tryz.func34,Tryz.ntmps34
  go_wp2_with (go_at_call 32;refine (knownNo r _).mono ?_;rintro e W1 ⟨rfl,hb1⟩;have HE1:=Lib.hid (ext_call (ext_alloc (ext_new w _) _) hb1);clear hb1)
  go_ret
  exact ⟨rfl,HE1.out⟩
def ExtAns (v:Value) (n n':Int) (r r':ByteArray) (b:Bool) (w:World):Prop:=∀ W:World,Below w.heap.size w W→Calls Tryz.prog 65 #[.string r,.int .i64 (n+1),.string r',.int .i64 (n'+1),v] W fun e w'=>e=.returned (.bool b)∧Below W.heap.size W w'
theorem contAny (r r':ByteArray) (n n':Int) (hn:0≤n∧n≤10000) (hn':0≤n'∧n'≤10000) (A:Option Addr) (k c:Nat) (b:Bool) (w:World) (hX:ExtAns (.slice A k c) n n' r r' b w) :
    Calls Tryz.prog 34 #[.agg #[.int .i64 n,.string r],.agg #[.int .i64 n',.string r'],.slice A k c] w fun e w'=>e=.returned (.bool b)∧Below w.heap.size w w':=by
  have HX:=Lib.hid hX
  have HB:=Lib.hid ((Blk.new w 89 #[.int .i64 n,.string r]).alloc (.cells #[.int .i64 n',.string r'] 89))
  have HC:=Lib.hid (Blk.new' (w.alloc (.cells #[.int .i64 n,.string r] 89)) 89 #[.int .i64 n',.string r'] (b:=w.heap.size+1) (by simp))
  have e1:IntKind.i64.wrap (n+1)=n+1:=IntWalk.i64_in _ (by omega)
  have e2:IntKind.i64.wrap (n'+1)=n'+1:=IntWalk.i64_in _ (by omega)
  unfold ExtAns at HX
  clear hX
  go_enter Tryz.func34,Tryz.ntmps34
  go_wp2_with fail
  refine (knownYes n hn.1 r _).mono ?_
  rintro e W1 ⟨rfl,hb1⟩
  have HE1:=Lib.hid (ext_call (ext_alloc (ext_new w _) _) hb1)
  have b0:W1.cell? ⟨w.heap.size,0,none⟩=some (.int .i64 n):=(HB.out.ext hb1).cell 0
  have b1:W1.cell? ⟨w.heap.size,1,none⟩=some (.string r):=(HB.out.ext hb1).cell 1
  have c0:W1.cell? ⟨w.heap.size+1,0,none⟩=some (.int .i64 n'):=(HC.out.ext hb1).cell 0
  have c1:W1.cell? ⟨w.heap.size+1,1,none⟩=some (.string r'):=(HC.out.ext hb1).cell 1
  clear hb1
  go_wp2_with fail
  refine (HX.out _ HE1.out).mono ?_
  rintro e W2 ⟨rfl,hb2⟩
  have HE2:=Lib.hid (ext_call HE1.out hb2)
  clear hb2 b0 b1 c0 c1
  go_wp2
  go_ret
  exact ⟨rfl,HE2.out⟩
theorem learnI1 (ga gm:Nat) (kv:List (Int × Value)) (r root:ByteArray) (n:Int) (A:Option Addr) (c:Nat) (w:World) (h:AudI w ga gm (-1) r kv) (hr:root.size=32) (hn:0≤n) (hn2:n≤10000) :
    Calls Tryz.prog 17 #[.pointer (some ⟨ga,0,none⟩),.string root,.int .i64 n,.slice A 0 c] w fun e w'=>e=.returned (.int .i64 0)∧AudI w' ga gm n root kv∧Ext2 ga ga w w':=by
  have HNe:=Lib.hid h.ne
  have HA:=Lib.hid h
  have h0:w.cell? ⟨ga,0,none⟩=some (.int .i64 ((-1))):=h.1.cell 0
  have h1:w.cell? ⟨ga,1,none⟩=some (.string r):=h.1.cell 1
  have hl:=h.1.lt
  clear h
  obtain ⟨X,hX⟩:∃ X,X=w.alloc (.cells #[.int .i64 (n),.string root] 89):=⟨_,rfl⟩
  have HN:=Lib.hid (show Blk X w.heap.size 89 #[.int .i64 (n),.string root] by rw [hX];exact Blk.new _ _ _)
  have HEx:=Lib.hid (show Below w.heap.size w X by rw [hX];exact ext_new _ _)
  have HK:=Lib.hid (show X.cell? ⟨ga,0,none⟩=some (.int .i64 ((-1)))∧X.cell? ⟨ga,1,none⟩=some (.string r)∧X.cell? ⟨w.heap.size,0,none⟩=some (.int .i64 (n))∧X.cell? ⟨w.heap.size,1,none⟩=some (.string root)∧Below X.heap.size X X from ⟨(HA.out.1.ext HEx.out).cell 0,(HA.out.1.ext HEx.out).cell 1,HN.out.cell 0,HN.out.cell 1,ext_refl X⟩)
  have HX:=Lib.hid hX
  clear hX
  have hr2:((root.size:Int) == 32)=true:=by rw [hr];rfl
  have d0:decide (n<0)=false:=decide_eq_false (by omega)
  have d1:decide (10000<n)=false:=decide_eq_false (by omega)
  go_enter Tryz.func17,Tryz.ntmps17
  go_upto_region 7 with (fail)
  rw [← HX.out]
  clear h0 h1
  go_region_held3 (fun w'=>w'.cell? ⟨ga,0,none⟩=some (.int .i64 ((-1)))∧w'.cell? ⟨ga,1,none⟩=some (.string r)∧w'.cell? ⟨w.heap.size,0,none⟩=some (.int .i64 (n))∧w'.cell? ⟨w.heap.size,1,none⟩=some (.string root)∧Below X.heap.size X w')
    (first|with_reducible assumption|exact keepC4 HK.out (ext_refl X).drew|exact keepC4 (by assumption) (by assumption))
    (first|(go_at_call 34;(with_reducible refine (contFirst r root n A c _).mono ?_);rintro e W1 ⟨rfl,hb1⟩))
  have hb2:=undrew hb1
  have HE1:=Lib.hid (ext_call HEx.out hb2)
  have HN1:=Lib.hid (HN.out.ext hb2)
  clear hb1 hb2
  have hf0:=(HA.out.1.ext HE1.out).frozen 0
  have hf1:=(HA.out.1.ext HE1.out).frozen 1
  have q0:W1.cell? ⟨ga,0,none⟩=some (.int .i64 (-1)):=(HA.out.1.ext HE1.out).cell 0
  have q1:W1.cell? ⟨ga,1,none⟩=some (.string r):=(HA.out.1.ext HE1.out).cell 1
  have n0':W1.cell? ⟨w.heap.size,0,none⟩=some (.int .i64 (n)):=HN1.out.cell 0
  have n1:W1.cell? ⟨w.heap.size,1,none⟩=some (.string root):=HN1.out.cell 1
  go_wp2
  go_ret
  exact ⟨rfl,⟨((HA.out.1.ext HE1.out).set_ 0 _).set_ 1 _,((HA.out.2.ext HE1.out).set ⟨ga,0,none⟩ _ HNe.out).set ⟨ga,1,none⟩ _ HNe.out⟩,((Ext2.of_ext HE1.out).setA 0 _).setA 1 _⟩
theorem learnI2 (ga gm:Nat) (kv:List (Int × Value)) (r root:ByteArray) (n:Int) (n0:Int) (hn0:0≤n0∧n0≤10000) (A:Option Addr) (k c:Nat) (w:World) (h:AudI w ga gm n0 r kv) (hr:root.size=32) (hn:0≤n) (hn2:n≤10000) (hX:ExtAns (.slice A k c) n0 n r root true w) :
    Calls Tryz.prog 17 #[.pointer (some ⟨ga,0,none⟩),.string root,.int .i64 n,.slice A k c] w fun e w'=>e=.returned (.int .i64 0)∧AudI w' ga gm n root kv∧Ext2 ga ga w w':=by
  have HNe:=Lib.hid h.ne
  have HCg:=Lib.hid (show ∀ W:World,Below w.heap.size w W→Calls Tryz.prog 34 #[.agg #[.int .i64 n0,.string r],.agg #[.int .i64 n,.string root],.slice A k c] W fun e w'=>e=.returned (.bool true)∧Below W.heap.size W w' from fun W h=>contAny r root n0 n hn0 ⟨hn,hn2⟩ A k c true W (fun V g=>hX V (ext_call h g)))
  clear hX
  have HA:=Lib.hid h
  have h0:w.cell? ⟨ga,0,none⟩=some (.int .i64 (n0)):=h.1.cell 0
  have h1:w.cell? ⟨ga,1,none⟩=some (.string r):=h.1.cell 1
  have hl:=h.1.lt
  clear h
  obtain ⟨X,hX⟩:∃ X,X=w.alloc (.cells #[.int .i64 (n),.string root] 89):=⟨_,rfl⟩
  have HN:=Lib.hid (show Blk X w.heap.size 89 #[.int .i64 (n),.string root] by rw [hX];exact Blk.new _ _ _)
  have HEx:=Lib.hid (show Below w.heap.size w X by rw [hX];exact ext_new _ _)
  have HK:=Lib.hid (show X.cell? ⟨ga,0,none⟩=some (.int .i64 (n0))∧X.cell? ⟨ga,1,none⟩=some (.string r)∧X.cell? ⟨w.heap.size,0,none⟩=some (.int .i64 (n))∧X.cell? ⟨w.heap.size,1,none⟩=some (.string root)∧Below X.heap.size X X from ⟨(HA.out.1.ext HEx.out).cell 0,(HA.out.1.ext HEx.out).cell 1,HN.out.cell 0,HN.out.cell 1,ext_refl X⟩)
  have HX:=Lib.hid hX
  clear hX
  have hr2:((root.size:Int) == 32)=true:=by rw [hr];rfl
  have d0:decide (n<0)=false:=decide_eq_false (by omega)
  have d1:decide (10000<n)=false:=decide_eq_false (by omega)
  go_enter Tryz.func17,Tryz.ntmps17
  go_upto_region 7 with (fail)
  rw [← HX.out]
  clear h0 h1
  go_region_held3 (fun w'=>w'.cell? ⟨ga,0,none⟩=some (.int .i64 (n0))∧w'.cell? ⟨ga,1,none⟩=some (.string r)∧w'.cell? ⟨w.heap.size,0,none⟩=some (.int .i64 (n))∧w'.cell? ⟨w.heap.size,1,none⟩=some (.string root)∧Below X.heap.size X w')
    (first|with_reducible assumption|exact keepC4 HK.out (ext_refl X).drew|exact keepC4 (by assumption) (by assumption))
    (first|(go_at_call 34;(with_reducible refine (HCg.out _ ?_).mono ?_);(exact ext_call HEx.out (keepC4B (by assumption)));rintro e W1 ⟨rfl,hb1⟩))
  have hb2:=undrew hb1
  have HE1:=Lib.hid (ext_call HEx.out hb2)
  have HN1:=Lib.hid (HN.out.ext hb2)
  clear hb1 hb2
  have hf0:=(HA.out.1.ext HE1.out).frozen 0
  have hf1:=(HA.out.1.ext HE1.out).frozen 1
  have q0:W1.cell? ⟨ga,0,none⟩=some (.int .i64 n0):=(HA.out.1.ext HE1.out).cell 0
  have q1:W1.cell? ⟨ga,1,none⟩=some (.string r):=(HA.out.1.ext HE1.out).cell 1
  have n0':W1.cell? ⟨w.heap.size,0,none⟩=some (.int .i64 (n)):=HN1.out.cell 0
  have n1:W1.cell? ⟨w.heap.size,1,none⟩=some (.string root):=HN1.out.cell 1
  go_wp2
  go_ret
  exact ⟨rfl,⟨((HA.out.1.ext HE1.out).set_ 0 _).set_ 1 _,((HA.out.2.ext HE1.out).set ⟨ga,0,none⟩ _ HNe.out).set ⟨ga,1,none⟩ _ HNe.out⟩,((Ext2.of_ext HE1.out).setA 0 _).setA 1 _⟩
theorem learnIno (ga gm:Nat) (kv:List (Int × Value)) (r root:ByteArray) (n:Int) (n0:Int) (hn0:0≤n0∧n0≤10000) (A:Option Addr) (k c:Nat) (w:World) (h:AudI w ga gm n0 r kv) (hr:root.size=32) (hn:0≤n) (hn2:n≤10000) (hX:ExtAns (.slice A k c) n0 n r root false w) :
    Calls Tryz.prog 17 #[.pointer (some ⟨ga,0,none⟩),.string root,.int .i64 n,.slice A k c] w fun e w'=>e=.returned (.int .i64 290)∧Below w.heap.size w w':=by
  have HNe:=Lib.hid h.ne
  have HCg:=Lib.hid (show ∀ W:World,Below w.heap.size w W→Calls Tryz.prog 34 #[.agg #[.int .i64 n0,.string r],.agg #[.int .i64 n,.string root],.slice A k c] W fun e w'=>e=.returned (.bool false)∧Below W.heap.size W w' from fun W h=>contAny r root n0 n hn0 ⟨hn,hn2⟩ A k c false W (fun V g=>hX V (ext_call h g)))
  clear hX
  have HA:=Lib.hid h
  have h0:w.cell? ⟨ga,0,none⟩=some (.int .i64 (n0)):=h.1.cell 0
  have h1:w.cell? ⟨ga,1,none⟩=some (.string r):=h.1.cell 1
  have hl:=h.1.lt
  clear h
  obtain ⟨X,hX⟩:∃ X,X=w.alloc (.cells #[.int .i64 (n),.string root] 89):=⟨_,rfl⟩
  have HN:=Lib.hid (show Blk X w.heap.size 89 #[.int .i64 (n),.string root] by rw [hX];exact Blk.new _ _ _)
  have HEx:=Lib.hid (show Below w.heap.size w X by rw [hX];exact ext_new _ _)
  have HK:=Lib.hid (show X.cell? ⟨ga,0,none⟩=some (.int .i64 (n0))∧X.cell? ⟨ga,1,none⟩=some (.string r)∧X.cell? ⟨w.heap.size,0,none⟩=some (.int .i64 (n))∧X.cell? ⟨w.heap.size,1,none⟩=some (.string root)∧Below X.heap.size X X from ⟨(HA.out.1.ext HEx.out).cell 0,(HA.out.1.ext HEx.out).cell 1,HN.out.cell 0,HN.out.cell 1,ext_refl X⟩)
  have HX:=Lib.hid hX
  clear hX
  have hr2:((root.size:Int) == 32)=true:=by rw [hr];rfl
  have d0:decide (n<0)=false:=decide_eq_false (by omega)
  have d1:decide (10000<n)=false:=decide_eq_false (by omega)
  go_enter Tryz.func17,Tryz.ntmps17
  go_upto_region 7 with (fail)
  rw [← HX.out]
  clear h0 h1
  go_region_held3 (fun w'=>w'.cell? ⟨ga,0,none⟩=some (.int .i64 (n0))∧w'.cell? ⟨ga,1,none⟩=some (.string r)∧w'.cell? ⟨w.heap.size,0,none⟩=some (.int .i64 (n))∧w'.cell? ⟨w.heap.size,1,none⟩=some (.string root)∧Below X.heap.size X w')
    (first|with_reducible assumption|exact keepC4 HK.out (ext_refl X).drew|exact keepC4 (by assumption) (by assumption))
    (first|(go_at_call 34;(with_reducible refine (HCg.out _ ?_).mono ?_);(exact ext_call HEx.out (keepC4B (by assumption)));rintro e W1 ⟨rfl,hb1⟩))
  have hb2:=undrew hb1
  have HE1:=Lib.hid (ext_call HEx.out hb2)
  have HN1:=Lib.hid (HN.out.ext hb2)
  clear hb1 hb2
  go_wp2
  go_ret
  exact ⟨rfl,HE1.out⟩
theorem extAnsLog (H:List (ByteArray × ByteArray)) (m n:Nat) (hn:H.length=n+1) (hm:m≤n) (h60:H.length≤60) (S:Nat→Prop) (v:Value) (w:World) (hv:Strs S w v (extP (leavesH 0 H) (m+1))) (hSB:∀ b,S b→b<w.heap.size) (hR:RoundOK w) :
    ExtAns v (m:Int) (n:Int) (logRootF (H.take (m+1))) (logRootF H) true w:=by
  intro W k
  have hst:=hv.below k
  have hSB2:∀ b,S b→b<W.heap.size:=fun b hb=>Nat.lt_of_lt_of_le (hSB b hb) k.size
  have hRW:=hR.below k
  by_cases h:m=n
  · subst h
    have hx0:extP (leavesH 0 H) (m+1)=[]:=extT_same (by rw [leavesH_length];omega)
    rw [hx0] at hst
    have hrr:H.take (m+1)=H:=List.take_of_length_le (by omega)
    rw [hrr]
    have h9:=verExt_same S v (logRootF H) (m+1) (by omega) W hst (by unfold logRootF;exact rootF_size _)
    have e:(((m+1:Nat)):Int)=(m:Int)+1:=by omega
    rw [e] at h9
    exact h9
  · have h9:=verExt_less S v (leavesH 0 H) (m+1) W (by rw [leavesH_length];omega) (by omega) (by rw [leavesH_length];omega) hst hSB2 hRW
    rw [← leavesT_take,leavesH_length,hn] at h9
    have e:(((n+1:Nat)):Int)=(n:Int)+1:=by omega
    have e':(((m+1:Nat)):Int)=(m:Int)+1:=by omega
    rw [e,e'] at h9
    exact h9
end Go.Proofs.YtimoapjhepmehaaGreatDoor
