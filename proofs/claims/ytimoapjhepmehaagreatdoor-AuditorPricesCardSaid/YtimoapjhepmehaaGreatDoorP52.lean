/-
  package cachetierlaw29: sane, by the general contracts.
-/
import Derived.Test.YtimoapjhepmehaaGreatDoorP43
import Derived.Test.YtimoapjhepmehaaGreatDoorP51
set_option linter.unusedSimpArgs false
set_option linter.unusedVariables false
set_option maxHeartbeats 4000000
set_option maxRecDepth 100000
namespace Go.Proofs.YtimoapjhepmehaaGreatDoor
open Go.RowKit Go.Shelf
attribute [local go_sem ↓] Go.wp_at_zero Go.wp_at_succ
theorem showNoI (ga gm:Nat) (r:ByteArray) (p:Nat) (c s:ByteArray) (v:Value) (w:World) (h:AudI w ga gm (-1) r []) :
    Calls Tryz.prog 16 #[.pointer (some ⟨ga,0,none⟩),.agg #[.int .i64 (p:Int),.string c,.string s],v] w fun e w'=>e=.returned (.int .i64 290)∧Below w.heap.size w w':=by
  have hA1:=h.ext (ext_new w (.cells #[.int .i64 (p:Int),.string c,.string s] 52))
  have hlk:=fun o=>lookup_Iok (P:=Tryz.prog) (w:=((w.alloc (.cells #[.int .i64 (p:Int),.string c,.string s] 52)).alloc o).drew) Tryz.underlying90 Tryz.underlying3 ((hA1.2.ext (ext_new _ o)).ext (ext_refl _).drew) (p:Int) (headZero _)
  have hlk2:=lookup_Iok (P:=Tryz.prog) (w:=(w.alloc (.cells #[.int .i64 (p:Int),.string c,.string s] 52)).drew) Tryz.underlying90 Tryz.underlying3 (hA1.2.ext (ext_refl _).drew) (p:Int) (headZero _)
  simp only [getI,Option.getD_none,Option.isSome_none] at hlk hlk2
  have a0:w.cell? ⟨ga,0,none⟩=some (.int .i64 (-1)):=h.1.cell 0
  have a1:w.cell? ⟨ga,1,none⟩=some (.string r):=h.1.cell 1
  have a2:w.cell? ⟨ga,2,none⟩=some (.map (some gm)):=h.1.cell 2
  have al:=h.1.lt
  have al1:ga<w.heap.size+1:=by omega
  clear h hA1
  go_enter Tryz.func16,Tryz.ntmps16
  go_wp2
  go_region
  all_goals
    go_wp2_with (go_at_call 32;refine (knownNo r _).mono ?_;rintro e W1 ⟨rfl,hb1⟩;have HE1:=Lib.hid (ext_call ((ext_alloc (ext_new w _) _).drew) hb1);clear hb1)
    go_ret
    exact ⟨rfl,HE1.out⟩
theorem verExtBack (old root:ByteArray) (A:Option Addr) (n c:Nat) (w:World) :
    Calls Tryz.prog 65 #[.string old,.int .i64 2,.string root,.int .i64 1,.slice A n c] w fun e w'=>e=.returned (.bool false)∧w=w':=by
  go_enter Tryz.func65,Tryz.ntmps65
  go_wp2
  go_ret
  exact ⟨rfl,rfl⟩
def lawC:ChgT:=⟨0,5,false,0,0,0,true,10,20,30⟩
theorem lawC_good:ChgG lawC:=⟨by unfold ChgT.ok lawC;simp,by unfold ChgT.small lawC;simp,by unfold tinyK lawC;simp⟩
theorem lawC_run:RunG [[lawC]]:=⟨fun i l hi=>by
  rcases i with _|i
  · obtain rfl:[lawC]=l:=by simpa using hi
    refine ⟨⟨by simp,fun x hx=>by obtain rfl:=List.mem_singleton.1 hx;exact lawC_good.ok,fun j a b _ hb=>by simp at hb⟩,rfl,fun c hc=>by obtain rfl:=List.mem_singleton.1 hc;rfl,by simp [stF]⟩
  · simp at hi⟩
theorem lawC_all:∀ l ∈ [[lawC]],∀ c ∈ l,ChgG c:=fun l hl c hc=>by
  obtain rfl:=List.mem_singleton.1 hl
  obtain rfl:=List.mem_singleton.1 hc
  exact lawC_good
theorem rowQ (T:Nat) (hT:T≤3) (k:Int) (h1:1≤k) (h2:k≤1000000):QryT.Ok ⟨1,(T:Int),0,k,k,0,0⟩:=
  ⟨⟨by simp,by show (T:Int)≤3;omega⟩,⟨by simp,by simp⟩,by show -1000000000≤k;omega,by show k≤k;omega,by show k≤1000000000;omega,.row _ k h1 h2⟩
theorem lawQ:QryT.Ok ⟨1,((0:Nat):Int),0,5,5,0,0⟩:=rowQ 0 (by omega) 5 (by omega) (by omega)
theorem lawRow:(getR (stF [[lawC]]) 0 5).toList=[⟨0,5,10,20,30⟩]:=rfl
set_option maxHeartbeats 12000000 in
theorem saneG (w:World) (hR:RoundOK w):Calls Tryz.prog 6 #[] w fun e w'=>e=.returned (.bool true)∧Below w.heap.size w w':=by
  obtain ⟨X,hX⟩:∃ X,X=(w.alloc (.cells #[.int .i64 0,.int .i64 5,.bool false,.int .i64 0,.int .i64 0,.int .i64 0,.bool true,.int .i64 10,.int .i64 20,.int .i64 30] 72)).alloc (.cells #[.int .i64 1,.slice (some ⟨w.heap.size,0,none⟩) 1 1] 75):=⟨_,rfl⟩
  have HE0:=Lib.hid (show Below w.heap.size w X by rw [hX];exact ext_alloc (ext_new _ _) _)
  have HV0:=Lib.hid (show RecsL X (.slice (some ⟨w.heap.size+1,0,none⟩) 1 1) 1 [[lawC]] from by
    have h1:Blk X w.heap.size 72 #[.int .i64 0,.int .i64 5,.bool false,.int .i64 0,.int .i64 0,.int .i64 0,.bool true,.int .i64 10,.int .i64 20,.int .i64 30]:=by rw [hX];exact (Blk.new _ _ _).alloc _
    have h2:Blk X (w.heap.size+1) 75 #[.int .i64 1,.slice (some ⟨w.heap.size,0,none⟩) 1 1]:=by rw [hX];exact Blk.new' _ _ _ (by simp)
    refine ⟨_,1,rfl,Nat.le_refl _,fun _=>⟨_,rfl,fun j l hj=>?_⟩⟩
    rcases j with _|j
    · obtain rfl:[lawC]=l:=by simpa using hj
      refine ⟨h2.cell 0,_,h2.cell 1,⟨_,1,rfl,Nat.le_refl _,fun _=>⟨_,0,rfl,fun i x hx q hq=>?_⟩⟩⟩
      rcases i with _|i
      · obtain rfl:lawC=x:=by simpa using hx
        simp only [Nat.zero_mul,Nat.zero_add]
        rw [h1.cell q]
        rfl
      · simp at hx
    · simp at hj)
  have HR:=Lib.hid (hR.below HE0.out)
  have HX:=Lib.hid hX
  clear hX hR
  have HCK:=Lib.hid (fun (u rv lv:Value) (W:World) (ha:AnsQ W (getR (stF [[lawC]]) 0 5).toList (proveF (stF [[lawC]]) 0 0 5 5) 1 [] u rv lv) (hRW:RoundOK W)=>show Calls Tryz.prog 31 #[.agg #[.int .i64 1,.string (headF [[lawC]] 1).1,.string (headF [[lawC]] 1).2],.agg #[.int .i64 1,.string (headF [[lawC]] 1).1,.string (headF [[lawC]] 1).2],.agg (ansArr 0 5 u 0 false 1 1 1 rv lv)] W fun e w'=>e=.returned (.bool true)∧Below W.heap.size W w' from checkL [[lawC]] (by simp) lawC_run lawC_all 1 1 (by omega) (by simp) 0 (by omega) 5 lawQ (by omega) (by omega) u rv lv W ha hRW)
  have HAQ:=Lib.hid (show Calls Tryz.prog 9 #[.slice (some ⟨w.heap.size+1,0,none⟩) 1 1,.int .i64 1,.int .i64 1,.agg #[.int .i64 1,.int .i64 0,.int .i64 0,.int .i64 5,.int .i64 5,.int .i64 0,.int .i64 0]] X fun e w'=>∃ u rv lv,e=.returned (.tuple #[.agg (ansArr 0 5 u 0 false 1 1 1 rv lv),.bool true])∧AnsQ w' (getR (stF [[lawC]]) 0 5).toList (proveF (stF [[lawC]]) 0 0 5 5) 1 [] u rv lv∧Below X.heap.size X w' from answerL [[lawC]] (by simp) lawC_run lawC_all 1 1 (by omega) (by simp) 0 (by omega) 5 lawQ (by omega) (by omega) _ X HV0.out HR.out)
  go_enter Tryz.func6,Tryz.ntmps6
  go_wp2_with fail
  rw [← HX.out]
  refine HAQ.out.mono ?_
  rintro e W1 ⟨u,rv,lv,rfl,han,hb1⟩
  have HAN1:=Lib.hid han
  have hrw:=han.rows
  rw [lawRow] at hrw
  obtain ⟨gr,kr,e1,-,hcr⟩:=hrw.at_ (j:=0) (r:=⟨0,5,10,20,30⟩) rfl
  obtain ⟨-,-,Ar,cr,Al,cl,-,e2,e3⟩:=han.shape
  have HCR:=Lib.hid (show ∀ i,i<5→W1.cell? ⟨gr,i,none⟩=(encR ⟨0,5,10,20,30⟩)[i]? from fun i hi=>by have:=hcr i hi;rwa [Nat.zero_mul,Nat.zero_add] at this)
  subst e1 e2 e3
  have hY:Below X.heap.size X (W1.alloc (.cells #[.int .i64 1,.int .i64 0,.int .i64 0,.int .i64 5,.int .i64 5,.int .i64 0,.int .i64 0,.slice (some ⟨gr,0,none⟩) 1 kr,.int .i64 0,.bool false,.int .i64 1,.int .i64 1,.int .i64 1,.slice Ar 1 cr,.slice Al 0 cl] 39)):=ext_alloc hb1 _
  have HVy:=Lib.hid (HV0.out.ext hY)
  have HNy:=Lib.hid (HAN1.out.ext (ext_new W1 (.cells #[.int .i64 1,.int .i64 0,.int .i64 0,.int .i64 5,.int .i64 5,.int .i64 0,.int .i64 0,.slice (some ⟨gr,0,none⟩) 1 kr,.int .i64 0,.bool false,.int .i64 1,.int .i64 1,.int .i64 1,.slice Ar 1 cr,.slice Al 0 cl] 39)))
  have HCy:=Lib.hid (show ∀ i,i<5→(W1.alloc (.cells #[.int .i64 1,.int .i64 0,.int .i64 0,.int .i64 5,.int .i64 5,.int .i64 0,.int .i64 0,.slice (some ⟨gr,0,none⟩) 1 kr,.int .i64 0,.bool false,.int .i64 1,.int .i64 1,.int .i64 1,.slice Ar 1 cr,.slice Al 0 cl] 39)).cell? ⟨gr,i,none⟩=(encR ⟨0,5,10,20,30⟩)[i]? from fun i hi=>by
    have h1:=HCR.out i hi
    rw [List.getElem?_eq_getElem (show i<(encR ⟨0,5,10,20,30⟩).length from hi)] at h1 ⊢
    exact cell_ext h1 (ext_new _ _))
  have HBy:=Lib.hid (Blk.new W1 39 #[.int .i64 1,.int .i64 0,.int .i64 0,.int .i64 5,.int .i64 5,.int .i64 0,.int .i64 0,.slice (some ⟨gr,0,none⟩) 1 kr,.int .i64 0,.bool false,.int .i64 1,.int .i64 1,.int .i64 1,.slice Ar 1 cr,.slice Al 0 cl])
  have HRy:=Lib.hid (HR.out.below hY)
  have HEy:=Lib.hid (ext_call HE0.out hY)
  clear hb1 hY HAN1 HR HE0 HV0 HX hrw hcr HCR han
  unfold ansArr
  go_wp2_with fail
  generalize World.alloc W1 (.cells #[.int .i64 1,.int .i64 0,.int .i64 0,.int .i64 5,.int .i64 5,.int .i64 0,.int .i64 0,.slice (some ⟨gr,0,none⟩) 1 kr,.int .i64 0,.bool false,.int .i64 1,.int .i64 1,.int .i64 1,.slice Ar 1 cr,.slice Al 0 cl] 39)=Y at *
  generalize W1.heap.size=ba at *
  have HCK:=Lib.hid (fun (W:World) (h:Below Y.heap.size Y W)=>show Calls Tryz.prog 31 #[.agg #[.int .i64 1,.string (headF [[lawC]] 1).1,.string (headF [[lawC]] 1).2],.agg #[.int .i64 1,.string (headF [[lawC]] 1).1,.string (headF [[lawC]] 1).2],.agg #[.int .i64 1,.int .i64 0,.int .i64 0,.int .i64 5,.int .i64 5,.int .i64 0,.int .i64 0,.slice (some ⟨gr,0,none⟩) 1 kr,.int .i64 0,.bool false,.int .i64 1,.int .i64 1,.int .i64 1,.slice Ar 1 cr,.slice Al 0 cl]] W fun e w'=>e=.returned (.bool true)∧Below W.heap.size W w' from HCK.out _ _ _ W (HNy.out.ext h) (HRy.out.below h))
  have HXC:=Lib.hid (fun (W:World) (h:Below Y.heap.size Y W)=>show ∀ i,i<5→W.cell? ⟨gr,i,none⟩=(encR ⟨0,5,10,20,30⟩)[i]? from fun i hi=>by
    have h1:=HCy.out i hi
    rw [List.getElem?_eq_getElem (show i<(encR ⟨0,5,10,20,30⟩).length from hi)] at h1 ⊢
    exact cell_ext h1 h)
  clear HNy HCy
  refine (audNewI Y).mono ?_
  rintro e W2 ⟨rfl,ha2,hb2⟩
  have E2:=Lib.hid hb2
  have A2:=Lib.hid ha2
  clear ha2 hb2
  go_wp2_with fail
  refine (grownF [[lawC]] _ 1 (by simp) (by simp) lawC_run lawC_all W2 (HVy.out.ext E2.out) (HRy.out.below E2.out)).mono ?_
  rintro e W3 ⟨gl,rfl,hl3,hb3⟩
  have E3:=Lib.hid (ext_call E2.out hb3)
  have A3:=Lib.hid (A2.out.ext hb3)
  have L3:=Lib.hid hl3
  clear hb3 hl3 A2
  go_wp2_with fail
  refine (headG 1 (Nat.le_refl _) L3.out).mono ?_
  rintro e W4 ⟨rfl,hb4⟩
  obtain ⟨hd,hhd⟩:∃ hd,hd=headF [[lawC]] 1:=⟨_,rfl⟩
  have HHD:=Lib.hid hhd
  rw [← hhd] at HCK ⊢
  clear hhd
  obtain ⟨hc1,hs1⟩:=hd
  dsimp only at HCK ⊢
  have E4:=Lib.hid (ext_alloc (ext_call E3.out hb4) (.cells #[.int .i64 1,.string hc1,.string hs1] 52))
  have A4:=Lib.hid ((A3.out.ext hb4).ext (ext_new W4 (.cells #[.int .i64 1,.string hc1,.string hs1] 52)))
  have L4:=Lib.hid ((L3.out.ext hb4).ext (ext_new W4 (.cells #[.int .i64 1,.string hc1,.string hs1] 52)))
  clear hb4 A3 L3
  go_wp2_with fail
  refine (proveG 1 (Nat.le_refl _) (by omega) L4.out (HRy.out.below E4.out)).mono ?_
  rintro e W5 ⟨A5,c5,rfl,_,hb5⟩
  generalize (((wayL (1+1) (leavesH 0 (headsF [[lawC]] 1)) 1).map (·.1)).reverse).length=n5 at *
  have E5:=Lib.hid (ext_call E4.out hb5)
  have A5':=Lib.hid (A4.out.ext hb5)
  obtain ⟨h0,h1,h2⟩:=cells3 ((Blk.new W4 52 #[.int .i64 1,.string hc1,.string hs1]).ext hb5)
  clear hb5 A4 L4
  go_wp2_with fail
  refine (showNoI _ _ _ 1 hc1 hs1 (.slice A5 n5 c5) W5 A5'.out).mono ?_
  rintro e W6 ⟨rfl,hb6⟩
  have E6:=Lib.hid (ext_call E5.out hb6)
  have A6:=Lib.hid (A5'.out.ext hb6)
  clear hb6 A5' h0 h1 h2
  obtain ⟨a0,a1,a2,a3,a4,a5,a6,a7,a8,a9,a10,a11,a12,a13,a14⟩:=cells15 (HBy.out.ext E6.out)
  go_wp2_with (go_at_call 12;refine (audSizeI _ _ _ _ _ _ A6.out).mono ?_;rintro e w' ⟨rfl,rfl⟩)
  refine (audCheckI0 _ _ _ _ [] 0 5 1 1 1 (some ⟨gr,0,none⟩) Ar Al 1 kr cr 0 cl W6 A6.out rfl rfl (fun W h=>checkNoG 0 5 1 1 1 (some ⟨gr,0,none⟩) Ar Al 1 kr cr 0 cl W)).mono ?_
  rintro e W7 ⟨rfl,hb7⟩
  have E7:=Lib.hid (ext_alloc (ext_call E6.out hb7) (.cells #[.int .i64 1] 3))
  have hc7:=(Blk.new W7 3 #[.int .i64 1]).cell 0
  clear hb7 A6 a0 a1 a2 a3 a4 a5 a6 a7 a8 a9 a10 a11 a12 a13 a14
  go_wp2_with fail
  refine (informedG [[lawC]] _ 0 1 rfl (by omega) (by omega) lawC_run lawC_all [1] (by simp) (by simp) W7.heap.size 1 _ (HVy.out.ext E7.out) (fun j p hj=>by
    rcases j with _|j
    · obtain rfl:1=p:=by simpa using hj
      exact hc7
    · simp at hj) (HRy.out.below E7.out)).mono ?_
  rintro e W9 ⟨ga,gm,kv,rfl,ha9,hk9,hp9,-,-,hb9⟩
  have HKV:=Lib.hid (show getI kv ((1:Nat):Int)=some (headV 1 (hc1,hs1)) by rw [hp9 1 (by simp),← HHD.out])
  have E9:=Lib.hid (ext_call E7.out hb9)
  have A9:=Lib.hid ha9
  clear hb9 ha9 hc7 hk9 hp9
  generalize logRootF (headsF [[lawC]] 1)=rt at *
  have HAC:=Lib.hid (fun (W:World) (h:Below W9.heap.size W9 W)=>audCheckI ga gm ((1:Nat):Int) rt kv hc1 hs1 hc1 hs1 0 5 1 1 1 (some ⟨gr,0,none⟩) Ar Al 1 kr cr 0 cl true W (A9.out.ext h) HKV.out HKV.out (fun V g=>HCK.out V (ext_call (ext_call E9.out h) g)))
  have HAA:=Lib.hid (fun (W:World) (h:Below W9.heap.size W9 W)=>audAtI ga 0 5 1 1 1 (some ⟨gr,0,none⟩) Ar Al 1 kr cr 0 cl 1 true (by omega) (by omega) W (fun V g=>HAC.out V (ext_call h g)))
  have HSE:=Lib.hid (fun (W:World) (h:Below W9.heap.size W9 W)=>settleI1 ga 0 5 1 1 1 Ar Al kr cr 0 cl ⟨0,5,10,20,30⟩ gr 1 7 2 (by omega) (by omega) (by decide) W (HXC.out W (ext_call E9.out h)) (fun V g=>HAA.out V (ext_call h g)))
  dsimp only [RowT.col] at HSE
  obtain ⟨a0,a1,a2,a3,a4,a5,a6,a7,a8,a9,a10,a11,a12,a13,a14⟩:=cells15 (HBy.out.ext E9.out)
  go_wp2_with fail
  refine (HSE.out _ (ext_refl _)).mono ?_
  rintro e W10 ⟨rfl,hb10⟩
  have E10:=Lib.hid (ext_call E9.out hb10)
  have D10:=Lib.hid hb10
  have A10:=Lib.hid (A9.out.ext hb10)
  clear hb10 a0 a1 a2 a3 a4 a5 a6 a7 a8 a9 a10 a11 a12 a13 a14
  go_wp2_with fail
  refine (grownF [[lawC]] _ 0 (by simp) (by simp) lawC_run lawC_all W10 (HVy.out.ext E10.out) (HRy.out.below E10.out)).mono ?_
  rintro e W11 ⟨g11,rfl,hl11,hb11⟩
  have E11:=Lib.hid (ext_call E10.out hb11)
  have D11:=Lib.hid (ext_call D10.out hb11)
  have A11:=Lib.hid (A10.out.ext hb11)
  have L11:=Lib.hid hl11
  clear hb11 hl11 A10
  go_wp2_with fail
  refine (rootG (by omega) L11.out (HRy.out.below E11.out)).mono ?_
  rintro e W12 ⟨rfl,hb12⟩
  have E12:=Lib.hid (ext_call E11.out hb12)
  have D12:=Lib.hid (ext_call D11.out hb12)
  have A12:=Lib.hid (A11.out.ext hb12)
  clear hb12 A11 L11
  go_wp2_with fail
  refine (learnIno ga gm kv rt (logRootF (headsF [[lawC]] 0)) 0 1 (by omega) none 0 0 W12 A12.out (rootF_size _) (by omega) (by omega) (fun W h=>(verExtBack rt _ none 0 0 W).mono (fun e w' ⟨q1,q2⟩=>⟨q1,q2 ▸ ext_refl _⟩))).mono ?_
  rintro e W13 ⟨rfl,hb13⟩
  have E13:=Lib.hid (ext_call E12.out hb13)
  have D13:=Lib.hid (ext_call D12.out hb13)
  have A13:=Lib.hid (A12.out.ext hb13)
  clear hb13 A12
  obtain ⟨a0,a1,a2,a3,a4,a5,a6,a7,a8,a9,a10,a11,a12,a13,a14⟩:=cells15 (HBy.out.ext E13.out)
  go_wp2_with (go_at_call 12;refine (audSizeI _ _ _ _ _ _ A13.out).mono ?_;rintro e w' ⟨rfl,rfl⟩)
  refine (HAC.out _ D13.out).mono ?_
  rintro e W14 ⟨rfl,hb14⟩
  have E14:=Lib.hid (ext_call E13.out hb14)
  have D14:=Lib.hid (ext_call D13.out hb14)
  clear hb14 A13 a0 a1 a2 a3 a4 a5 a6 a7 a8 a9 a10 a11 a12 a13 a14
  obtain ⟨a0,a1,a2,a3,a4,a5,a6,a7,a8,a9,a10,a11,a12,a13,a14⟩:=cells15 (HBy.out.ext E14.out)
  go_wp2_with fail
  refine (HAA.out _ D14.out).mono ?_
  rintro e W15 ⟨rfl,hb15⟩
  have E15:=Lib.hid (ext_call E14.out hb15)
  clear hb15 a0 a1 a2 a3 a4 a5 a6 a7 a8 a9 a10 a11 a12 a13 a14
  obtain ⟨a0,a1,a2,a3,a4,a5,a6,a7,a8,a9,a10,a11,a12,a13,a14⟩:=cells15 (HBy.out.ext E15.out)
  go_wp2_with fail
  refine (audAtLow _ 0 5 1 1 1 (some ⟨gr,0,none⟩) Ar Al 1 kr cr 0 cl 0 (by omega) W15).mono ?_
  rintro e W16 ⟨rfl,hb16⟩
  have E16:=Lib.hid (ext_call E15.out hb16)
  clear hb16 a0 a1 a2 a3 a4 a5 a6 a7 a8 a9 a10 a11 a12 a13 a14
  go_wp2
  go_ret
  exact ⟨rfl,ext_call HEy.out E16.out⟩
end Go.Proofs.YtimoapjhepmehaaGreatDoor
