/-
  Part 7 of 9: the contracts that the proof of the last part uses; each stands under its own head.
-/
import Derived.Test.YtnajpjnnlocfgaaGreatDoorJ6
import Derived.Test.YtnajpjnnlocfgaaGreatDoorJ4
import Derived.Test.YtnajpjnnlocfgaaGreatDoorJ5
import Derived.Test.YtnajpjnnlocfgaaGreatDoorJ3
import Derived.Test.YtnajpjnnlocfgaaGreatDoorJ1
import Derived.Test.YtnajpjnnlocfgaaGreatDoorJ2
import Derived.Maps.RangeRun
set_option linter.unusedSimpArgs false
set_option linter.unusedVariables false
set_option maxHeartbeats 4000000
set_option maxRecDepth 100000
namespace Go.Proofs.YtnajpjnnlocfgaaGreatDoor
section
open Go.RowKit Go.Shelf
theorem rangesW0 (b n:Nat) (hn:n≤70000) (v:Value) (w0 w:World) (hE:Below w0.heap.size w0 w) (hv:RangesAt false w0 v) (h:WrAt w w0.heap.size b n) :
    Calls Tryz.prog 197 #[.pointer (some ⟨b,0,none⟩),v] w fun e w'=>e=.returned (.tuple #[])∧WrAt w' w0.heap.size b (n+8+544)∧WrKept w0.heap.size b w w':=by
  obtain ⟨g,c,va,zs,rfl,hc,hg,hx⟩:=hv
  obtain ⟨v8,rfl,h8⟩:=hx
  obtain ⟨A,c8,hv8,hc8,hr8⟩:=h8
  rw [sums_length] at hv8 hc8 hr8
  subst hv8
  obtain ⟨ba,oa,rfl,_,hr8⟩:=hr8 (by omega)
  have H8:=Lib.hid hr8
  have HL8:=Lib.hid (sums_length false 16)
  have HS8:=Lib.hid (sums_33 false 16)
  clear hr8
  have HG:=Lib.hid (show HeadB w0 g #[.int .i64 0,.int .i64 0,.int .i64 5,.int .i64 5,.int .i64 0,.int .i64 0,.slice none 0 0,.slice none 0 0,.slice (some ⟨ba,oa,none⟩) 16 c8] from .of2 hg)
  have HE:=Lib.hid hE
  have H:=Lib.hid h
  clear hg hE h
  go_enter Tryz.func197,Tryz.ntmps197
  go_wp2_with fail
  refine (intsNew w0.heap.size b n _ [1] (by decide) (by decide) (by omega) w _ (by rfl) 1 rfl H.out).mono ?_
  rintro e W1 ⟨rfl,h1,k1⟩
  have H1:=Lib.hid h1
  have K1:=Lib.hid k1
  have HE1:=Lib.hid (HE.out.trans k1.1)
  have hh:=HG.out.ext HE1.out
  have q0:=hh.cell 0;have q1:=hh.cell 1;have q2:=hh.cell 2;have q3:=hh.cell 3;have q4:=hh.cell 4;have q5:=hh.cell 5;have q6:=hh.cell 6;have q7:=hh.cell 7;have q8:=hh.cell 8
  clear h1 k1 hh
  go_wp2
  refine wp_loop_rounds 2 ?_
  rw [rounds_succ]
  go_wp2_with fail
  obtain ⟨X,hX⟩:∃ X,X=W1.alloc (.cells #[.int .i64 0,.int .i64 0,.int .i64 5,.int .i64 5,.int .i64 0,.int .i64 0,.slice none 0 0,.slice none 0 0,.slice (some ⟨ba,oa,none⟩) 16 c8] 284):=⟨_,rfl⟩
  rw [← hX]
  have HX:=Lib.hid (show Blk X W1.heap.size 284 #[.int .i64 0,.int .i64 0,.int .i64 5,.int .i64 5,.int .i64 0,.int .i64 0,.slice none 0 0,.slice none 0 0,.slice (some ⟨ba,oa,none⟩) 16 c8] by rw [hX];exact Blk.new _ _ _)
  have H2:=Lib.hid (show WrAt X w0.heap.size b (n+1) by rw [hX];exact H1.out.ext (ext_new _ _))
  have K2:=Lib.hid (show WrKept w0.heap.size b w X by rw [hX];exact K1.out.ext (ext_new _ _) H.out.1)
  have hpX:W1.heap.size+1=X.heap.size:=by rw [hX];simp
  clear hX q0 q1 q2 q3 q4 q5 q6 q7 q8
  generalize W1.heap.size=p at HX hpX ⊢
  refine (intsAt _ X hpX w0.heap.size b (n+1) _ [0,0,5,5,0,0] (by decide) (by decide) (by omega) _ (by rfl) 6 rfl H2.out).mono ?_
  rintro e W3 ⟨rfl,h3,k3⟩
  have H3:=Lib.hid h3
  have K3:=Lib.hid (K2.out.trans k3)
  have HX3:=Lib.hid (k3.blk HX.out (by decide) (H2.out.ne HX.out (by decide)))
  clear h3 k3
  have q0:=HX3.out.cell 0;have q1:=HX3.out.cell 1;have q2:=HX3.out.cell 2;have q3:=HX3.out.cell 3;have q4:=HX3.out.cell 4;have q5:=HX3.out.cell 5;have q6:=HX3.out.cell 6;have q7:=HX3.out.cell 7;have q8:=HX3.out.cell 8
  clear hpX
  have hmf:∀ (fn:Fn) (first cap:Array Value) (w:World),(Instr.makeFunc fn first cap).run Tryz.prog w=.ok (.func fn first cap) w:=fun _ _ _ _=>rfl
  go_wp2_with fail
  refine (putRows0 w0.heap.size b (n+1+6) (by omega) W3 H3.out).mono ?_
  rintro e W5 ⟨rfl,h5,k5⟩
  have H5:=Lib.hid h5
  have K5:=Lib.hid (K3.out.trans k5)
  have HX5:=Lib.hid (k5.blk HX3.out (by decide) (H3.out.ne HX3.out (by decide)))
  clear h5 k5 q0 q1 q2 q3 q4 q5 q6 q7 q8
  have q0:=HX5.out.cell 0;have q1:=HX5.out.cell 1;have q2:=HX5.out.cell 2;have q3:=HX5.out.cell 3;have q4:=HX5.out.cell 4;have q5:=HX5.out.cell 5;have q6:=HX5.out.cell 6;have q7:=HX5.out.cell 7;have q8:=HX5.out.cell 8
  go_wp2
  refine wp_loop_rounds 1 ?_
  rw [rounds_succ]
  go_wp2
  go_region
  go_wp2
  have H6':=Lib.hid (show WrAt W5.drew w0.heap.size b (n+8) from H5.out.ext (ext_refl _).drew)
  have K6':=Lib.hid (show WrKept w0.heap.size b w W5.drew from K5.out.ext (ext_refl _).drew H.out.1)
  clear q0 q1 q2 q3 q4 q5 q6 q7 q8
  go_loopw [9,80] (fun _ i W=>∃ k:Nat,k≤16∧i=.int .i64 k∧WrAt W w0.heap.size b (n+8+34*k)∧WrKept w0.heap.size b w W) (fun _ i _=>16-(intOf i).toNat)
  case atStart=>exact ⟨0,Nat.zero_le _,rfl,H6'.out,K6'.out⟩
  case round=>
    obtain ⟨k,hk,rfl,hA,hK⟩:=hrel
    have HA:=Lib.hid hA
    have HK:=Lib.hid hK
    clear hA hK
    by_cases hlt:k<16
    · obtain ⟨x,hx⟩:∃ x,(sums false 16)[k]? = some x:=⟨_,List.getElem?_eq_getElem (by rw [HL8.out];exact hlt)⟩
      have hx64:x.size=33:=HS8.out x (List.mem_of_getElem? hx)
      have x0:wr.cell? ⟨ba,oa+k,none⟩=some (.string x):=cell_ext (H8.out k x hx) (HE.out.trans HK.out.1)
      have e2:IntKind.i64.wrap ((k:Int)+1)=(k:Int)+1:=by rw [IntWalk.i64_in _ (by omega)]
      have d1:decide ((k:Int)<16)=true:=by simp;omega
      have q0:(0:Int)≤(k:Int):=by omega
      have q1:(k:Int)<16:=by omega
      clear hx
      go_wp2_with fail
      refine (textW w0.heap.size b (n+8+34*k) x (by omega) (by omega) _ HA.out).mono ?_
      rintro e W2 ⟨rfl,h2,k2⟩
      have HA2:=Lib.hid (show WrAt W2 w0.heap.size b (n+8+34*(k+1)) by rw [hx64] at h2;exact (show n+8+34*k+(1+33)=n+8+34*(k+1) by omega) ▸ h2)
      have HK2:=Lib.hid (HK.out.trans k2)
      clear h2 k2 x0
      go_wp2
      go_roundw
      case rel=>exact ⟨k+1,by omega,by go_num,HA2.out,HK2.out⟩
      case measure=>simp [intOf];omega
    · obtain rfl:k=16:=by omega
      go_wp2
      rw [rounds_succ]
      go_wp2
      go_end0
      exact ⟨rfl,HA.out,HK.out⟩
theorem rangesW1 (b n:Nat) (hn:n≤70000) (v:Value) (w0 w:World) (hE:Below w0.heap.size w0 w) (hv:RangesAt true w0 v) (h:WrAt w w0.heap.size b n) :
    Calls Tryz.prog 197 #[.pointer (some ⟨b,0,none⟩),v] w fun e w'=>e=.returned (.tuple #[])∧WrAt w' w0.heap.size b (n+14+544)∧WrKept w0.heap.size b w w':=by
  obtain ⟨g,c,va,zs,rfl,hc,hg,hx⟩:=hv
  obtain ⟨v6,v7,v8,rfl,h6,h7,h8⟩:=hx
  obtain ⟨g1,k1,ws,rfl,hk1,h6⟩:=rows_one h6
  obtain ⟨g2,k2,A0,c0,ys,rfl,hk2,h7⟩:=h7
  have H6:=Lib.hid h6
  have H7:=Lib.hid (show HeadB w0 g2 #[.slice A0 0 c0] from .of2 h7)
  clear h6 h7
  obtain ⟨A,c8,hv8,hc8,hr8⟩:=h8
  rw [sums_length] at hv8 hc8 hr8
  subst hv8
  obtain ⟨ba,oa,rfl,_,hr8⟩:=hr8 (by omega)
  have H8:=Lib.hid hr8
  have HL8:=Lib.hid (sums_length true 16)
  have HS8:=Lib.hid (sums_33 true 16)
  clear hr8
  have HG:=Lib.hid (show HeadB w0 g #[.int .i64 0,.int .i64 0,.int .i64 5,.int .i64 5,.int .i64 1,.int .i64 0,.slice (some ⟨g1,0,none⟩) 1 k1,.slice (some ⟨g2,0,none⟩) 1 k2,.slice (some ⟨ba,oa,none⟩) 16 c8] from .of2 hg)
  have HE:=Lib.hid hE
  have H:=Lib.hid h
  clear hg hE h
  go_enter Tryz.func197,Tryz.ntmps197
  go_wp2_with fail
  refine (intsNew w0.heap.size b n _ [1] (by decide) (by decide) (by omega) w _ (by rfl) 1 rfl H.out).mono ?_
  rintro e W1 ⟨rfl,h1,k1⟩
  have H1:=Lib.hid h1
  have K1:=Lib.hid k1
  have HE1:=Lib.hid (HE.out.trans k1.1)
  have hh:=HG.out.ext HE1.out
  have q0:=hh.cell 0;have q1:=hh.cell 1;have q2:=hh.cell 2;have q3:=hh.cell 3;have q4:=hh.cell 4;have q5:=hh.cell 5;have q6:=hh.cell 6;have q7:=hh.cell 7;have q8:=hh.cell 8
  clear h1 k1 hh
  go_wp2
  refine wp_loop_rounds 2 ?_
  rw [rounds_succ]
  go_wp2_with fail
  obtain ⟨X,hX⟩:∃ X,X=W1.alloc (.cells #[.int .i64 0,.int .i64 0,.int .i64 5,.int .i64 5,.int .i64 1,.int .i64 0,.slice (some ⟨g1,0,none⟩) 1 k1,.slice (some ⟨g2,0,none⟩) 1 k2,.slice (some ⟨ba,oa,none⟩) 16 c8] 284):=⟨_,rfl⟩
  rw [← hX]
  have HX:=Lib.hid (show Blk X W1.heap.size 284 #[.int .i64 0,.int .i64 0,.int .i64 5,.int .i64 5,.int .i64 1,.int .i64 0,.slice (some ⟨g1,0,none⟩) 1 k1,.slice (some ⟨g2,0,none⟩) 1 k2,.slice (some ⟨ba,oa,none⟩) 16 c8] by rw [hX];exact Blk.new _ _ _)
  have H2:=Lib.hid (show WrAt X w0.heap.size b (n+1) by rw [hX];exact H1.out.ext (ext_new _ _))
  have K2:=Lib.hid (show WrKept w0.heap.size b w X by rw [hX];exact K1.out.ext (ext_new _ _) H.out.1)
  have hpX:W1.heap.size+1=X.heap.size:=by rw [hX];simp
  clear hX q0 q1 q2 q3 q4 q5 q6 q7 q8
  generalize W1.heap.size=p at HX hpX ⊢
  refine (intsAt _ X hpX w0.heap.size b (n+1) _ [0,0,5,5,1,0] (by decide) (by decide) (by omega) _ (by rfl) 6 rfl H2.out).mono ?_
  rintro e W3 ⟨rfl,h3,k3⟩
  have H3:=Lib.hid h3
  have K3:=Lib.hid (K2.out.trans k3)
  have HX3:=Lib.hid (k3.blk HX.out (by decide) (H2.out.ne HX.out (by decide)))
  clear h3 k3
  have q0:=HX3.out.cell 0;have q1:=HX3.out.cell 1;have q2:=HX3.out.cell 2;have q3:=HX3.out.cell 3;have q4:=HX3.out.cell 4;have q5:=HX3.out.cell 5;have q6:=HX3.out.cell 6;have q7:=HX3.out.cell 7;have q8:=HX3.out.cell 8
  clear hpX
  have hmf:∀ (fn:Fn) (first cap:Array Value) (w:World),(Instr.makeFunc fn first cap).run Tryz.prog w=.ok (.func fn first cap) w:=fun _ _ _ _=>rfl
  go_wp2_with fail
  refine (putRows1 b (n+1+6) g1 k1 (by omega) hk1 ws w0 W3 (HE.out.trans K3.out.1) H6.out H3.out).mono ?_
  rintro e W4 ⟨rfl,h4,k4⟩
  have H4:=Lib.hid h4
  have K4:=Lib.hid (K3.out.trans k4)
  have HX4:=Lib.hid (k4.blk HX3.out (by decide) (H3.out.ne HX3.out (by decide)))
  have p0:=(H7.out.ext (HE.out.trans K4.out.1)).cell 0
  clear h4 k4 q0 q1 q2 q3 q4 q5 q6 q7 q8
  have q0:=HX4.out.cell 0;have q1:=HX4.out.cell 1;have q2:=HX4.out.cell 2;have q3:=HX4.out.cell 3;have q4:=HX4.out.cell 4;have q5:=HX4.out.cell 5;have q6:=HX4.out.cell 6;have q7:=HX4.out.cell 7;have q8:=HX4.out.cell 8
  go_wp2
  refine wp_loop_rounds 2 ?_
  rw [rounds_succ]
  go_wp2_with fail
  refine (path0W w0.heap.size b (n+1+6+1+5) (by omega) A0 c0 W4 H4.out).mono ?_
  rintro e W5 ⟨rfl,h5,k5⟩
  have H5:=Lib.hid h5
  have K5:=Lib.hid (K4.out.trans k5)
  have HX5:=Lib.hid (k5.blk HX4.out (by decide) (H4.out.ne HX4.out (by decide)))
  clear h5 k5 p0 q0 q1 q2 q3 q4 q5 q6 q7 q8
  have q0:=HX5.out.cell 0;have q1:=HX5.out.cell 1;have q2:=HX5.out.cell 2;have q3:=HX5.out.cell 3;have q4:=HX5.out.cell 4;have q5:=HX5.out.cell 5;have q6:=HX5.out.cell 6;have q7:=HX5.out.cell 7;have q8:=HX5.out.cell 8
  go_wp2
  rw [rounds_succ]
  go_wp2
  go_region
  go_wp2
  have H6':=Lib.hid (show WrAt W5.drew w0.heap.size b (n+14) from H5.out.ext (ext_refl _).drew)
  have K6':=Lib.hid (show WrKept w0.heap.size b w W5.drew from K5.out.ext (ext_refl _).drew H.out.1)
  clear q0 q1 q2 q3 q4 q5 q6 q7 q8
  go_loopw [9,80] (fun _ i W=>∃ k:Nat,k≤16∧i=.int .i64 k∧WrAt W w0.heap.size b (n+14+34*k)∧WrKept w0.heap.size b w W) (fun _ i _=>16-(intOf i).toNat)
  case atStart=>exact ⟨0,Nat.zero_le _,rfl,H6'.out,K6'.out⟩
  case round=>
    obtain ⟨k,hk,rfl,hA,hK⟩:=hrel
    have HA:=Lib.hid hA
    have HK:=Lib.hid hK
    clear hA hK
    by_cases hlt:k<16
    · obtain ⟨x,hx⟩:∃ x,(sums true 16)[k]? = some x:=⟨_,List.getElem?_eq_getElem (by rw [HL8.out];exact hlt)⟩
      have hx64:x.size=33:=HS8.out x (List.mem_of_getElem? hx)
      have x0:wr.cell? ⟨ba,oa+k,none⟩=some (.string x):=cell_ext (H8.out k x hx) (HE.out.trans HK.out.1)
      have e2:IntKind.i64.wrap ((k:Int)+1)=(k:Int)+1:=by rw [IntWalk.i64_in _ (by omega)]
      have d1:decide ((k:Int)<16)=true:=by simp;omega
      have q0:(0:Int)≤(k:Int):=by omega
      have q1:(k:Int)<16:=by omega
      clear hx
      go_wp2_with fail
      refine (textW w0.heap.size b (n+14+34*k) x (by omega) (by omega) _ HA.out).mono ?_
      rintro e W2 ⟨rfl,h2,k2⟩
      have HA2:=Lib.hid (show WrAt W2 w0.heap.size b (n+14+34*(k+1)) by rw [hx64] at h2;exact (show n+14+34*k+(1+33)=n+14+34*(k+1) by omega) ▸ h2)
      have HK2:=Lib.hid (HK.out.trans k2)
      clear h2 k2 x0
      go_wp2
      go_roundw
      case rel=>exact ⟨k+1,by omega,by go_num,HA2.out,HK2.out⟩
      case measure=>simp [intOf];omega
    · obtain rfl:k=16:=by omega
      go_wp2
      rw [rounds_succ]
      go_wp2
      go_end0
      exact ⟨rfl,HA.out,HK.out⟩
end
section
open Go.RowKit Go.Shelf
theorem rangesW (one:Bool) (b n:Nat) (hn:n≤70000) (v:Value) (w0 w:World) (hE:Below w0.heap.size w0 w) (hv:RangesAt one w0 v) (h:WrAt w w0.heap.size b n) :
    Calls Tryz.prog 197 #[.pointer (some ⟨b,0,none⟩),v] w fun e w'=>e=.returned (.tuple #[])∧(∃ k,k≤1000∧WrAt w' w0.heap.size b (n+k))∧WrKept w0.heap.size b w w':=by
  cases one
  · exact (rangesW0 b n hn v w0 w hE hv h).mono fun _ _ ⟨h1,h2,h3⟩=>⟨h1,⟨8+544,by omega,h2⟩,h3⟩
  · exact (rangesW1 b n hn v w0 w hE hv h).mono fun _ _ ⟨h1,h2,h3⟩=>⟨h1,⟨14+544,by omega,h2⟩,h3⟩
theorem entryW (one:Bool) (base:Nat) (hb:base<64) (b n:Nat) (hn:n≤60000) (A:Option Addr) (m c:Nat) (w0 w:World) (hE:Below w0.heap.size w0 w) (hv:RangesAt one w0 (.slice A m c)) (h:WrAt w w0.heap.size b n) :
    Calls Tryz.prog 161 #[.pointer (some ⟨b,0,none⟩),.agg #[.int .i64 1,.int .i64 0,.int .i64 0,.int .i64 5,.int .i64 5,.int .i64 0,.int .i64 0,.int .i64 0,.int .i64 (base:Int),.slice A m c]] w fun e w'=>e=.returned (.tuple #[])∧(∃ k,k≤2000∧WrAt w' w0.heap.size b (n+k))∧WrKept w0.heap.size b w w':=by
  obtain ⟨X,hX⟩:∃ X,X=w.alloc (.cells #[.int .i64 1,.int .i64 0,.int .i64 0,.int .i64 5,.int .i64 5,.int .i64 0,.int .i64 0,.int .i64 0,.int .i64 (base:Int),.slice A m c] 77):=⟨_,rfl⟩
  have HX:=Lib.hid hX
  have HEX:=Lib.hid (show Below w.heap.size w X by rw [hX];exact ext_new _ _)
  have HB:=Lib.hid (show Blk X w.heap.size 77 #[.int .i64 1,.int .i64 0,.int .i64 0,.int .i64 5,.int .i64 5,.int .i64 0,.int .i64 0,.int .i64 0,.int .i64 (base:Int),.slice A m c] by rw [hX];exact Blk.new _ _ _)
  have H:=Lib.hid (h.ext HEX.out)
  have K:=Lib.hid (WrKept.of_ext (b:=b) HEX.out h.1)
  have HE:=Lib.hid hE
  have HV:=Lib.hid hv
  clear hX h hE hv
  have q0:=HB.out.cell 0;have q1:=HB.out.cell 1;have q2:=HB.out.cell 2;have q3:=HB.out.cell 3;have q4:=HB.out.cell 4;have q5:=HB.out.cell 5;have q6:=HB.out.cell 6;have q7:=HB.out.cell 7;have q8:=HB.out.cell 8;have q9:=HB.out.cell 9
  go_enter Tryz.func161,Tryz.ntmps161
  go_upto_region 1 with (fail)
  rw [← HX.out]
  go_wp2_with fail
  refine (queryW w0.heap.size b n (by omega) X H.out).mono ?_
  rintro e W1 ⟨rfl,h1,k1⟩
  have H1:=Lib.hid h1
  have K1:=Lib.hid (K.out.trans k1)
  have HB1:=Lib.hid (k1.blk HB.out (by decide) (H.out.ne HB.out (by decide)))
  clear h1 k1 q0 q1 q2 q3 q4 q5 q6 q7 q8 q9
  have q0:=HB1.out.cell 0;have q1:=HB1.out.cell 1;have q2:=HB1.out.cell 2;have q3:=HB1.out.cell 3;have q4:=HB1.out.cell 4;have q5:=HB1.out.cell 5;have q6:=HB1.out.cell 6;have q7:=HB1.out.cell 7;have q8:=HB1.out.cell 8;have q9:=HB1.out.cell 9
  go_wp2_with fail
  refine (intsNew w0.heap.size b (n+7) _ [0,base] (by simp;exact hb) (by simp) (by omega) W1 _ (by rfl) 2 rfl H1.out).mono ?_
  rintro e W2 ⟨rfl,h2,k2⟩
  have H2:=Lib.hid h2
  have K2:=Lib.hid (K1.out.trans k2)
  have HB2:=Lib.hid (k2.blk HB1.out (by decide) (H1.out.ne HB1.out (by decide)))
  clear h2 k2 q0 q1 q2 q3 q4 q5 q6 q7 q8 q9
  have q0:=HB2.out.cell 0;have q1:=HB2.out.cell 1;have q2:=HB2.out.cell 2;have q3:=HB2.out.cell 3;have q4:=HB2.out.cell 4;have q5:=HB2.out.cell 5;have q6:=HB2.out.cell 6;have q7:=HB2.out.cell 7;have q8:=HB2.out.cell 8;have q9:=HB2.out.cell 9
  go_wp2_with fail
  refine (rangesW one b (n+7+2) (by omega) _ w0 W2 (HE.out.trans K2.out.1) HV.out H2.out).mono ?_
  rintro e W3 ⟨rfl,⟨k,hk,h3⟩,k3⟩
  have H3:=Lib.hid h3
  have K3:=Lib.hid (K2.out.trans k3)
  clear h3 k3 q0 q1 q2 q3 q4 q5 q6 q7 q8 q9
  go_wp2
  go_end0
  exact ⟨rfl,⟨7+2+k,by omega,by have:=H3.out;rwa [show n+7+2+k=n+(7+2+k) by omega] at this⟩,K3.out⟩
theorem validEntry_yes (one:Bool) (base:Nat) (hb:base<64) (A:Option Addr) (m c:Nat) (w:World) (hv:RangesAt one w (.slice A m c)) :
    Calls Tryz.prog 120 #[.agg #[.int .i64 1,.int .i64 0,.int .i64 0,.int .i64 5,.int .i64 5,.int .i64 0,.int .i64 0,.int .i64 0,.int .i64 (base:Int),.slice A m c]] w fun e w'=>e=.returned (.bool true)∧Below w.heap.size w w':=by
  obtain ⟨X,hX⟩:∃ X,X=w.alloc (.cells #[.int .i64 1,.int .i64 0,.int .i64 0,.int .i64 5,.int .i64 5,.int .i64 0,.int .i64 0,.int .i64 0,.int .i64 (base:Int),.slice A m c] 77):=⟨_,rfl⟩
  have HX:=Lib.hid hX
  have HEX:=Lib.hid (show Below w.heap.size w X by rw [hX];exact ext_new _ _)
  have HB:=Lib.hid (show Blk X w.heap.size 77 #[.int .i64 1,.int .i64 0,.int .i64 0,.int .i64 5,.int .i64 5,.int .i64 0,.int .i64 0,.int .i64 0,.int .i64 (base:Int),.slice A m c] by rw [hX];exact Blk.new _ _ _)
  have HV:=Lib.hid (hv.ext HEX.out)
  clear hX hv
  have q0:=HB.out.cell 0;have q1:=HB.out.cell 1;have q2:=HB.out.cell 2;have q3:=HB.out.cell 3;have q4:=HB.out.cell 4;have q5:=HB.out.cell 5;have q6:=HB.out.cell 6;have q7:=HB.out.cell 7;have q8:=HB.out.cell 8;have q9:=HB.out.cell 9
  go_enter Tryz.func120,Tryz.ntmps120
  go_wp2_with fail
  rw [← HX.out]
  refine (queryValid1 X).mono ?_
  rintro e W1 ⟨rfl,hb1⟩
  have HE1:=Lib.hid (ext_call HEX.out hb1)
  have HB1:=Lib.hid (HB.out.ext hb1)
  have HV1:=Lib.hid (HV.out.ext hb1)
  clear hb1 q0 q1 q2 q3 q4 q5 q6 q7 q8 q9
  have q0:=HB1.out.cell 0;have q1:=HB1.out.cell 1;have q2:=HB1.out.cell 2;have q3:=HB1.out.cell 3;have q4:=HB1.out.cell 4;have q5:=HB1.out.cell 5;have q6:=HB1.out.cell 6;have q7:=HB1.out.cell 7;have q8:=HB1.out.cell 8;have q9:=HB1.out.cell 9
  go_wp2_with fail
  refine (transportable_yes one _ W1 HV1.out).mono ?_
  rintro e W2 ⟨rfl,hb2⟩
  have HE2:=Lib.hid (ext_call HE1.out hb2)
  have HB2:=Lib.hid (HB1.out.ext hb2)
  have HV2:=Lib.hid (HV1.out.ext hb2)
  clear hb2 q0 q1 q2 q3 q4 q5 q6 q7 q8 q9
  have q0:=HB2.out.cell 0;have q1:=HB2.out.cell 1;have q2:=HB2.out.cell 2;have q3:=HB2.out.cell 3;have q4:=HB2.out.cell 4;have q5:=HB2.out.cell 5;have q6:=HB2.out.cell 6;have q7:=HB2.out.cell 7;have q8:=HB2.out.cell 8;have q9:=HB2.out.cell 9
  have ql:=HB2.out.lt
  go_wp2_with (go_at_call 117;refine (mw_yes _ _ _ (by omega) (by omega) _).mono ?_;rintro e w' ⟨rfl,hw'⟩;subst w')
  have H3:=Lib.hid (WrAt.new W2)
  have HE3:=Lib.hid (ext_new W2 (.cells #[.pointer none,.slice none 0 0] 259))
  refine (entryW one base hb W2.heap.size 0 (by omega) A m c W2 _ HE3.out HV2.out H3.out).mono ?_
  rintro e W4 ⟨rfl,⟨k,hk,h4⟩,k4⟩
  rw [Nat.zero_add] at h4
  have H4:=Lib.hid h4
  have HE4:=Lib.hid (ext_call HE2.out (HE3.out.trans k4.1))
  have d1:decide ((k:Int)≤60000)=true:=by simp;omega
  clear h4 k4 q0 q1 q2 q3 q4 q5 q6 q7 q8 q9
  go_wp2_with fail
  refine (writerLen W2.heap.size W2.heap.size k W4 H4.out).mono ?_
  rintro e w' ⟨rfl,hw'⟩
  subst w'
  go_wp2
  go_ret
  exact ⟨by simp [d1],HE4.out⟩
end
section
open Go.RowKit Go.Shelf
attribute [local go_sem ↓] Go.wp_at_zero Go.wp_at_succ
theorem keepMiss {X W:World} {b gs:Nat} {lag:Int} (h:X.cell? ⟨b,5,none⟩=some (.int .i64 0)∧X.cell? ⟨b,10,none⟩=some (.int .i64 1)∧X.cell? ⟨b,11,none⟩=some (.int .i64 0)∧X.cell? ⟨b,12,none⟩=some (.int .i64 0)∧X.cell? ⟨b,13,none⟩=some (.int .i64 5)∧X.cell? ⟨b,14,none⟩=some (.int .i64 5)∧X.cell? ⟨b,15,none⟩=some (.int .i64 0)∧X.cell? ⟨b,16,none⟩=some (.int .i64 0)∧X.cell? ⟨gs,3,none⟩=some (.int .i64 lag)) (k:Below X.heap.size X W):W.cell? ⟨b,5,none⟩=some (.int .i64 0)∧W.cell? ⟨b,10,none⟩=some (.int .i64 1)∧W.cell? ⟨b,11,none⟩=some (.int .i64 0)∧W.cell? ⟨b,12,none⟩=some (.int .i64 0)∧W.cell? ⟨b,13,none⟩=some (.int .i64 5)∧W.cell? ⟨b,14,none⟩=some (.int .i64 5)∧W.cell? ⟨b,15,none⟩=some (.int .i64 0)∧W.cell? ⟨b,16,none⟩=some (.int .i64 0)∧W.cell? ⟨gs,3,none⟩=some (.int .i64 lag)∧Below X.heap.size X W:=⟨cell_ext h.1 k,cell_ext h.2.1 k,cell_ext h.2.2.1 k,cell_ext h.2.2.2.1 k,cell_ext h.2.2.2.2.1 k,cell_ext h.2.2.2.2.2.1 k,cell_ext h.2.2.2.2.2.2.1 k,cell_ext h.2.2.2.2.2.2.2.1 k,cell_ext h.2.2.2.2.2.2.2.2 k,k⟩
theorem keepMissE {X W:World} {b gs:Nat} {lag:Int} (h:W.cell? ⟨b,5,none⟩=some (.int .i64 0)∧W.cell? ⟨b,10,none⟩=some (.int .i64 1)∧W.cell? ⟨b,11,none⟩=some (.int .i64 0)∧W.cell? ⟨b,12,none⟩=some (.int .i64 0)∧W.cell? ⟨b,13,none⟩=some (.int .i64 5)∧W.cell? ⟨b,14,none⟩=some (.int .i64 5)∧W.cell? ⟨b,15,none⟩=some (.int .i64 0)∧W.cell? ⟨b,16,none⟩=some (.int .i64 0)∧W.cell? ⟨gs,3,none⟩=some (.int .i64 lag)∧Below X.heap.size X W):Below X.heap.size X W:=h.2.2.2.2.2.2.2.2.2
theorem make_any (one:Bool) (gs gm:Nat) (pos:Int) (w:World) (hS:StateIs w one gs gm pos) (hR:RoundOK w) :
    Calls Tryz.prog 167 #[.pointer (some ⟨gs,0,none⟩),.agg #[.int .i64 1,.int .i64 0,.int .i64 0,.int .i64 5,.int .i64 5,.int .i64 0,.int .i64 0]] w fun e w'=>∃ v,e=.returned (.tuple #[v,.int .i64 0])∧RangesAt one w' v∧Below w.heap.size w w':=by
  cases one
  · exact make0 gs gm pos w hS hR
  · exact make1 gs gm pos w hS hR
theorem RangesAt.setEnt {one:Bool} {W:World} {v:Value} {eb:Nat} {A:Option Addr} {n c:Nat} {q:Int} (h:RangesAt one W v) (hb:Blk W eb 77 #[.int .i64 1,.int .i64 0,.int .i64 0,.int .i64 5,.int .i64 5,.int .i64 0,.int .i64 0,.int .i64 0,.int .i64 q,.slice A n c]) (u:Value):RangesAt one (W.setCell ⟨eb,9,none⟩ u) v:=by
  have hs:∀ (b o:Nat) (x:ByteArray),W.cell? ⟨b,o,none⟩=some (.string x)→b≠eb:=by
    rintro b o x h1 rfl
    rw [hb.cell] at h1
    match o,h1 with
    | 0,h1=>simp at h1
    | 1,h1=>simp at h1
    | 2,h1=>simp at h1
    | 3,h1=>simp at h1
    | 4,h1=>simp at h1
    | 5,h1=>simp at h1
    | 6,h1=>simp at h1
    | 7,h1=>simp at h1
    | 8,h1=>simp at h1
    | 9,h1=>simp at h1
    | (k+10),h1=>simp at h1
  have hst:∀ {T:Nat→Prop} {v:Value} {l:List ByteArray},Strs T W v l→Strs T (W.setCell ⟨eb,9,none⟩ u) v l:=by
    rintro T v l ⟨B,d,rfl,hc,h⟩
    refine ⟨B,d,rfl,hc,fun h0=>?_⟩
    obtain ⟨b,off,hB,hS,hcell⟩:=h h0
    exact ⟨b,off,hB,hS,fun j x hx=>(World.cell?_of_block (Below.heap_setCell W ⟨eb,9,none⟩ u b (hs b _ x (hcell j x hx)))).trans (hcell j x hx)⟩
  obtain ⟨g,c',va,zs,h1,h2,h3,h4⟩:=h
  refine ⟨g,c',va,zs,h1,h2,h3.far (blkNe h3 hb (by decide)) _,?_⟩
  cases one
  · obtain ⟨v8,q1,q2⟩:=h4
    exact ⟨v8,q1,hst q2⟩
  · obtain ⟨v6,v7,v8,q1,q2,⟨g2,c2,A0,c0,ys,p1,p2,p3⟩,q4⟩:=h4
    refine ⟨v6,v7,v8,q1,?_,⟨g2,c2,A0,c0,ys,p1,p2,p3.far (blkNe p3 hb (by decide)) _⟩,hst q4⟩
    rcases q2 with h|⟨r1,g3,c3,ws,r2,r3,r4⟩
    · exact .inl h
    · exact .inr ⟨r1,g3,c3,ws,r2,r3,r4.far (blkNe r4 hb (by decide)) _⟩
attribute [local go_sem ↓] bd_exec bd_sem bs_exec bs_sem
theorem miss_any (one:Bool) (q:Nat) (hq:q=if one then 1 else 0) (lag:Int) (hlag:lag=if one then 0 else 1) (gs gl gst gn gp np cp nm cm no co:Nat) (er sent:Int) (Am Ao:Option Addr) (w:World) (hR:RoundOK w) (hs:SrvAt w gs gl gst gn gp np cp lag er sent Am nm cm Ao no co) (ho:OneRec w gl) :
    Calls Tryz.prog 123 #[.pointer (some ⟨gs,0,none⟩),.agg #[.int .i64 7,.int .i64 2,.int .i64 100,.int .i64 0,.int .i64 0,.int .i64 0,.int .i64 7,.int .i64 0,.int .i64 0,.int .i64 0,.int .i64 1,.int .i64 0,.int .i64 0,.int .i64 5,.int .i64 5,.int .i64 0,.int .i64 0,.int .i64 0,.slice none 0 0,.int .i64 0,.int .i64 0,.int .i64 0,.int .i64 0,.int .i64 0,.int .i64 0,.int .i64 0,.int .i64 0,.int .i64 0,.slice none 0 0,.int .i64 0,.int .i64 0,.int .i64 0,.int .i64 0,.int .i64 0,.int .i64 0,.int .i64 0,.slice none 0 0,.int .i64 0,.bool false,.int .i64 0,.int .i64 0,.int .i64 0,.slice none 0 0,.slice none 0 0,.int .i64 0,.slice none 0 0,.slice none 0 0]] w fun e w'=>∃ g A n1 c1,e=.returned (.slice (some ⟨g,0,none⟩) 1 1)∧Blk w' g 84 #[.int .i64 8,.int .i64 100,.int .i64 2,.int .i64 0,.int .i64 0,.int .i64 0,.int .i64 7,.int .i64 0,.int .i64 0,.int .i64 0,.int .i64 0,.int .i64 0,.int .i64 0,.int .i64 0,.int .i64 0,.int .i64 0,.int .i64 0,.int .i64 0,.slice none 0 0,.int .i64 1,.int .i64 0,.int .i64 0,.int .i64 5,.int .i64 5,.int .i64 0,.int .i64 0,.int .i64 0,.int .i64 (q:Int),.slice A n1 c1,.int .i64 0,.int .i64 0,.int .i64 0,.int .i64 0,.int .i64 0,.int .i64 0,.int .i64 0,.slice none 0 0,.int .i64 0,.bool false,.int .i64 0,.int .i64 0,.int .i64 0,.slice none 0 0,.slice none 0 0,.int .i64 0,.slice none 0 0,.slice none 0 0]∧Below w.heap.size w w':=by
  obtain ⟨va,hva⟩:∃ va:Array Value,va=#[.int .i64 7,.int .i64 2,.int .i64 100,.int .i64 0,.int .i64 0,.int .i64 0,.int .i64 7,.int .i64 0,.int .i64 0,.int .i64 0,.int .i64 1,.int .i64 0,.int .i64 0,.int .i64 5,.int .i64 5,.int .i64 0,.int .i64 0,.int .i64 0,.slice none 0 0,.int .i64 0,.int .i64 0,.int .i64 0,.int .i64 0,.int .i64 0,.int .i64 0,.int .i64 0,.int .i64 0,.int .i64 0,.slice none 0 0,.int .i64 0,.int .i64 0,.int .i64 0,.int .i64 0,.int .i64 0,.int .i64 0,.int .i64 0,.slice none 0 0,.int .i64 0,.bool false,.int .i64 0,.int .i64 0,.int .i64 0,.slice none 0 0,.slice none 0 0,.int .i64 0,.slice none 0 0,.slice none 0 0]:=⟨_,rfl⟩
  obtain ⟨X,hX⟩:∃ X,X=w.alloc (.cells va 84):=⟨_,rfl⟩
  have HX:=Lib.hid hX
  have HE:=Lib.hid (show Below w.heap.size w X by rw [hX];exact ext_new _ _)
  have HB:=Lib.hid (show Blk X w.heap.size 84 va by rw [hX];exact Blk.new _ _ _)
  have HVA:=Lib.hid hva
  have HS:=Lib.hid (hs.ext HE.out)
  have HO:=Lib.hid (ho.ext HE.out)
  have HR:=Lib.hid hR
  have hsx:=hs.ext HE.out
  have s3:X.cell? ⟨gs,3,none⟩=some (.int .i64 lag):=Blk.cell hsx 3
  rw [← hva]
  clear hX hva hs ho hR hsx
  have a5:=(HB.out.cell 5).trans (show _=some (.int .i64 0) by rw [HVA.out];rfl)
  have a10:=(HB.out.cell 10).trans (show _=some (.int .i64 1) by rw [HVA.out];rfl)
  have a11:=(HB.out.cell 11).trans (show _=some (.int .i64 0) by rw [HVA.out];rfl)
  have a12:=(HB.out.cell 12).trans (show _=some (.int .i64 0) by rw [HVA.out];rfl)
  have a13:=(HB.out.cell 13).trans (show _=some (.int .i64 5) by rw [HVA.out];rfl)
  have a14:=(HB.out.cell 14).trans (show _=some (.int .i64 5) by rw [HVA.out];rfl)
  have a15:=(HB.out.cell 15).trans (show _=some (.int .i64 0) by rw [HVA.out];rfl)
  have a16:=(HB.out.cell 16).trans (show _=some (.int .i64 0) by rw [HVA.out];rfl)
  have HK:=Lib.hid (show X.cell? ⟨w.heap.size,5,none⟩=some (.int .i64 0)∧X.cell? ⟨w.heap.size,10,none⟩=some (.int .i64 1)∧X.cell? ⟨w.heap.size,11,none⟩=some (.int .i64 0)∧X.cell? ⟨w.heap.size,12,none⟩=some (.int .i64 0)∧X.cell? ⟨w.heap.size,13,none⟩=some (.int .i64 5)∧X.cell? ⟨w.heap.size,14,none⟩=some (.int .i64 5)∧X.cell? ⟨w.heap.size,15,none⟩=some (.int .i64 0)∧X.cell? ⟨w.heap.size,16,none⟩=some (.int .i64 0)∧X.cell? ⟨gs,3,none⟩=some (.int .i64 lag) from ⟨a5,a10,a11,a12,a13,a14,a15,a16,s3⟩)
  have HP:=Lib.hid (fun (W:World) (k:Below X.heap.size X W)=>srvPosC gs gl W (Blk.cell (HS.out.ext k) 0) (HO.out.ext k))
  have hq64:q<64:=by rw [hq];cases one <;> decide
  have hqi:(q:Int)=if one then 1 else 0:=by rw [hq];cases one <;> rfl
  have hmx:max (IntKind.i64.wrap (1-lag)) 0=(q:Int):=by rw [hqi];subst hlag;cases one <;> decide
  have hmx2:max (1-lag) 0=(q:Int):=by rw [hqi];subst hlag;cases one <;> decide
  have hwr:IntKind.i64.wrap (1-lag)=1-lag:=by subst hlag;cases one <;> decide
  have HQ:=Lib.hid hqi
  clear hlag hq hqi
  go_enter Tryz.func123,Tryz.ntmps123
  go_upto_region 1 with (fail)
  rw [← HX.out]
  go_region_held3 (fun w'=>w'.cell? ⟨w.heap.size,5,none⟩=some (.int .i64 0)∧w'.cell? ⟨w.heap.size,10,none⟩=some (.int .i64 1)∧w'.cell? ⟨w.heap.size,11,none⟩=some (.int .i64 0)∧w'.cell? ⟨w.heap.size,12,none⟩=some (.int .i64 0)∧w'.cell? ⟨w.heap.size,13,none⟩=some (.int .i64 5)∧w'.cell? ⟨w.heap.size,14,none⟩=some (.int .i64 5)∧w'.cell? ⟨w.heap.size,15,none⟩=some (.int .i64 0)∧w'.cell? ⟨w.heap.size,16,none⟩=some (.int .i64 0)∧w'.cell? ⟨gs,3,none⟩=some (.int .i64 lag)∧Below X.heap.size X w')
    (first|with_reducible assumption|exact keepMiss HK.out (by repeat (first|with_reducible refine ext_alloc ?_ _|with_reducible refine Below.drew ?_|with_reducible assumption|with_reducible exact ext_refl _|refine ext_set ?_ (Nat.le_refl _) _)))
    (first|(go_at_call 6;(with_reducible refine (HP.out _ ?_).mono ?_);(exact keepMissE (by assumption));rintro e w9 ⟨rfl,hw9⟩;subst w9))
  all_goals
    clear a5 a10 a11 a12 a13 a14 a15 a16 s3 hmx hmx2 hwr
    obtain ⟨Y,hY⟩:∃ Y,Y=(X.alloc (.cells #[.int .i64 1,.int .i64 0,.int .i64 0,.int .i64 5,.int .i64 5,.int .i64 0,.int .i64 0,.int .i64 0,.int .i64 (q:Int),.slice none 0 0] 77)).drew:=⟨_,rfl⟩
    rw [← hY]
    have HEY:=Lib.hid (show Below X.heap.size X Y by rw [hY];exact (ext_new X _).drew)
    have HN:=Lib.hid (show Blk Y X.heap.size 77 #[.int .i64 1,.int .i64 0,.int .i64 0,.int .i64 5,.int .i64 5,.int .i64 0,.int .i64 0,.int .i64 0,.int .i64 (q:Int),.slice none 0 0] by rw [hY];exact Blk.drew (Blk.new X _ _))
    have hbX:w.heap.size<X.heap.size:=HB.out.lt
    clear hY
    generalize X.heap.size=eb at HN hbX ⊢
    have q8:=HN.out.cell 8
    have HSt:=Lib.hid (show Calls Tryz.prog 9 #[.pointer (some ⟨gs,0,none⟩),.int .i64 (q:Int)] Y fun e w'=>∃ g m,e=.returned (.tuple #[.pointer (some ⟨g,0,none⟩),.bool true])∧StateIs w' one g m (q:Int)∧Below Y.heap.size Y w' by
      rw [HQ.out]
      exact srvState one gs gl Y (Blk.cell (HS.out.ext HEY.out) 0) (HO.out.ext HEY.out))
    go_wp2_with fail
    refine HSt.out.mono ?_
    rintro e W1 ⟨g,m,rfl,hs1,hb1⟩
    have HE1:=Lib.hid (ext_call HEY.out hb1)
    have HN1:=Lib.hid (HN.out.ext hb1)
    have HS1:=Lib.hid hs1
    have HRR:=Lib.hid (HR.out.below (ext_call HE.out HE1.out))
    clear hs1 hb1 q8 HSt
    have HB1:=Lib.hid (HB.out.ext HE1.out)
    have a10:=(HB1.out.cell 10).trans (show _=some (.int .i64 1) by rw [HVA.out];rfl)
    have a11:=(HB1.out.cell 11).trans (show _=some (.int .i64 0) by rw [HVA.out];rfl)
    have a12:=(HB1.out.cell 12).trans (show _=some (.int .i64 0) by rw [HVA.out];rfl)
    have a13:=(HB1.out.cell 13).trans (show _=some (.int .i64 5) by rw [HVA.out];rfl)
    have a14:=(HB1.out.cell 14).trans (show _=some (.int .i64 5) by rw [HVA.out];rfl)
    have a15:=(HB1.out.cell 15).trans (show _=some (.int .i64 0) by rw [HVA.out];rfl)
    have a16:=(HB1.out.cell 16).trans (show _=some (.int .i64 0) by rw [HVA.out];rfl)
    go_wp2_with fail
    refine (make_any one g m _ W1 HS1.out HRR.out).mono ?_
    rintro e W2 ⟨v,rfl,hra,hb2⟩
    have HE2:=Lib.hid (ext_call HE1.out hb2)
    have HN2:=Lib.hid (HN1.out.ext hb2)
    have HRA:=Lib.hid hra
    obtain ⟨gv,cv,_,_,rfl,_⟩:=hra
    clear hb2 a10 a11 a12 a13 a14 a15 a16
    have HU:=Lib.hid (show RangesAt one (W2.setCell ⟨eb,9,none⟩ (.slice (some ⟨gv,0,none⟩) 1 cv)) (.slice (some ⟨gv,0,none⟩) 1 cv) from HRA.out.setEnt HN2.out _)
    have HNU:=Lib.hid (show Blk (W2.setCell ⟨eb,9,none⟩ (.slice (some ⟨gv,0,none⟩) 1 cv)) eb 77 #[.int .i64 1,.int .i64 0,.int .i64 0,.int .i64 5,.int .i64 5,.int .i64 0,.int .i64 0,.int .i64 0,.int .i64 (q:Int),.slice (some ⟨gv,0,none⟩) 1 cv] by have h9:=HN2.out.set_ 9 (.slice (some ⟨gv,0,none⟩) 1 cv);exact h9)
    have HBU:=Lib.hid (show Blk (W2.setCell ⟨eb,9,none⟩ (.slice (some ⟨gv,0,none⟩) 1 cv)) w.heap.size 84 va from (HB.out.ext HE2.out).far (by show w.heap.size≠eb;omega) _)
    have HEU:=Lib.hid (show Below w.heap.size w (W2.setCell ⟨eb,9,none⟩ (.slice (some ⟨gv,0,none⟩) 1 cv)) from ext_set (ext_call HE.out HE2.out) (by show w.heap.size≤eb;omega) _)
    have n9:=HN2.out.cell 9
    have f9:=HN2.out.frozen 9
    have HSW:=Lib.hid (fun U=>show U=W2.setCell ⟨eb,9,none⟩ (.slice (some ⟨gv,0,none⟩) 1 cv)→True from fun _=>trivial)
    go_upto_region 5 with (fail)
    clear n9 f9
    generalize W2.setCell ⟨eb,9,none⟩ (.slice (some ⟨gv,0,none⟩) 1 cv)=U at HU HNU HBU HEU ⊢
    have n0:=HNU.out.cell 0;have n1:=HNU.out.cell 1;have n2:=HNU.out.cell 2;have n3:=HNU.out.cell 3;have n4:=HNU.out.cell 4;have n5:=HNU.out.cell 5;have n6:=HNU.out.cell 6;have n7:=HNU.out.cell 7;have n8:=HNU.out.cell 8;have n9:=HNU.out.cell 9
    go_wp2_with fail
    refine (validEntry_yes one q hq64 _ 1 cv U HU.out).mono ?_
    rintro e Z ⟨rfl,hbz⟩
    have HNZ:=Lib.hid (HNU.out.ext hbz)
    have HBZ:=Lib.hid (HBU.out.ext hbz)
    have HEZ:=Lib.hid (ext_call HEU.out hbz)
    clear hbz n0 n1 n2 n3 n4 n5 n6 n7 n8 n9
    have n0:=HNZ.out.cell 0;have n1:=HNZ.out.cell 1;have n2:=HNZ.out.cell 2;have n3:=HNZ.out.cell 3;have n4:=HNZ.out.cell 4;have n5:=HNZ.out.cell 5;have n6:=HNZ.out.cell 6;have n7:=HNZ.out.cell 7;have n8:=HNZ.out.cell 8;have n9:=HNZ.out.cell 9
    have a1:=(HBZ.out.cell 1).trans (show _=some (.int .i64 2) by rw [HVA.out];rfl)
    have a6:=(HBZ.out.cell 6).trans (show _=some (.int .i64 7) by rw [HVA.out];rfl)
    obtain ⟨oa,hoa⟩:∃ oa:Array Value,oa=#[.int .i64 8,.int .i64 100,.int .i64 2,.int .i64 0,.int .i64 0,.int .i64 0,.int .i64 7,.int .i64 0,.int .i64 0,.int .i64 0,.int .i64 0,.int .i64 0,.int .i64 0,.int .i64 0,.int .i64 0,.int .i64 0,.int .i64 0,.int .i64 0,.slice none 0 0,.int .i64 1,.int .i64 0,.int .i64 0,.int .i64 5,.int .i64 5,.int .i64 0,.int .i64 0,.int .i64 0,.int .i64 (q:Int),.slice (some ⟨gv,0,none⟩) 1 cv,.int .i64 0,.int .i64 0,.int .i64 0,.int .i64 0,.int .i64 0,.int .i64 0,.int .i64 0,.slice none 0 0,.int .i64 0,.bool false,.int .i64 0,.int .i64 0,.int .i64 0,.slice none 0 0,.slice none 0 0,.int .i64 0,.slice none 0 0,.slice none 0 0]:=⟨_,rfl⟩
    have hos:oa.size=47:=by rw [hoa];rfl
    obtain ⟨d1,e1⟩:=bd_of Z (P:=Tryz.prog) (t:=84) (ps:=#[(0,.int .i64 8),(1,.int .i64 100),(2,.int .i64 2),(6,.int .i64 7),(12,.agg #[.int .i64 1,.int .i64 0,.int .i64 0,.int .i64 5,.int .i64 5,.int .i64 0,.int .i64 0,.int .i64 0,.int .i64 (q:Int),.slice (some ⟨gv,0,none⟩) 1 cv])]) (cs:=oa) (by rw [hoa];kernel_rfl)
    obtain ⟨d2,e2⟩:=bs_of Z (msg_slice oa hos)
    have HOA:=Lib.hid hoa
    clear hoa
    go_wp2
    go_ret
    refine ⟨Z.heap.size,some ⟨gv,0,none⟩,1,cv,rfl,?_,ext_alloc HEZ.out _⟩
    have h9:=Blk.new Z 84 oa
    rw [HOA.out] at h9 ⊢
    exact h9
end
section
open Go.RowKit Go.Shelf
attribute [local go_sem ↓] ld_exec ld_sem
theorem recvMiss (one:Bool) (q:Nat) (hq:q=if one then 1 else 0) (lag:Int) (hlag:lag=if one then 0 else 1) (gs gl gst gn gp np cp nm cm no co:Nat) (er sent:Int) (Am Ao:Option Addr) (w:World) (hR:RoundOK w) (hs:SrvAt w gs gl gst gn gp np cp lag er sent Am nm cm Ao no co) (ho:OneRec w gl) :
    Calls Tryz.prog 30 #[.pointer (some ⟨gs,0,none⟩),.agg #[.int .i64 7,.int .i64 2,.int .i64 100,.int .i64 0,.int .i64 0,.int .i64 0,.int .i64 7,.int .i64 0,.int .i64 0,.int .i64 0,.int .i64 1,.int .i64 0,.int .i64 0,.int .i64 5,.int .i64 5,.int .i64 0,.int .i64 0,.int .i64 0,.slice none 0 0,.int .i64 0,.int .i64 0,.int .i64 0,.int .i64 0,.int .i64 0,.int .i64 0,.int .i64 0,.int .i64 0,.int .i64 0,.slice none 0 0,.int .i64 0,.int .i64 0,.int .i64 0,.int .i64 0,.int .i64 0,.int .i64 0,.int .i64 0,.slice none 0 0,.int .i64 0,.bool false,.int .i64 0,.int .i64 0,.int .i64 0,.slice none 0 0,.slice none 0 0,.int .i64 0,.slice none 0 0,.slice none 0 0]] w fun e w'=>∃ g A n1 c1,e=.returned (.slice (some ⟨g,0,none⟩) 1 1)∧Blk w' g 84 #[.int .i64 8,.int .i64 100,.int .i64 2,.int .i64 0,.int .i64 0,.int .i64 0,.int .i64 7,.int .i64 0,.int .i64 0,.int .i64 0,.int .i64 0,.int .i64 0,.int .i64 0,.int .i64 0,.int .i64 0,.int .i64 0,.int .i64 0,.int .i64 0,.slice none 0 0,.int .i64 1,.int .i64 0,.int .i64 0,.int .i64 5,.int .i64 5,.int .i64 0,.int .i64 0,.int .i64 0,.int .i64 (q:Int),.slice A n1 c1,.int .i64 0,.int .i64 0,.int .i64 0,.int .i64 0,.int .i64 0,.int .i64 0,.int .i64 0,.slice none 0 0,.int .i64 0,.bool false,.int .i64 0,.int .i64 0,.int .i64 0,.slice none 0 0,.slice none 0 0,.int .i64 0,.slice none 0 0,.slice none 0 0]∧Below w.heap.size w w':=by
  obtain ⟨va,hva⟩:∃ va:Array Value,va=#[.int .i64 7,.int .i64 2,.int .i64 100,.int .i64 0,.int .i64 0,.int .i64 0,.int .i64 7,.int .i64 0,.int .i64 0,.int .i64 0,.int .i64 1,.int .i64 0,.int .i64 0,.int .i64 5,.int .i64 5,.int .i64 0,.int .i64 0,.int .i64 0,.slice none 0 0,.int .i64 0,.int .i64 0,.int .i64 0,.int .i64 0,.int .i64 0,.int .i64 0,.int .i64 0,.int .i64 0,.int .i64 0,.slice none 0 0,.int .i64 0,.int .i64 0,.int .i64 0,.int .i64 0,.int .i64 0,.int .i64 0,.int .i64 0,.slice none 0 0,.int .i64 0,.bool false,.int .i64 0,.int .i64 0,.int .i64 0,.slice none 0 0,.slice none 0 0,.int .i64 0,.slice none 0 0,.slice none 0 0]:=⟨_,rfl⟩
  obtain ⟨X,hX⟩:∃ X,X=w.alloc (.cells va 84):=⟨_,rfl⟩
  have HX:=Lib.hid hX
  have HE:=Lib.hid (show Below w.heap.size w X by rw [hX];exact ext_new _ _)
  have HB:=Lib.hid (show Blk X w.heap.size 84 va by rw [hX];exact Blk.new _ _ _)
  have HVA:=Lib.hid hva
  have HV:=Lib.hid (show ∀ W,Calls Tryz.prog 70 #[.agg va] W fun e w'=>e=.returned (.bool true)∧Below W.heap.size W w' by rw [hva];intro W;exact validMiss W)
  have HH:=Lib.hid (show ∀ W,Below w.heap.size w W→Calls Tryz.prog 123 #[.pointer (some ⟨gs,0,none⟩),.agg va] W fun e w'=>∃ g A n1 c1,e=.returned (.slice (some ⟨g,0,none⟩) 1 1)∧Blk w' g 84 #[.int .i64 8,.int .i64 100,.int .i64 2,.int .i64 0,.int .i64 0,.int .i64 0,.int .i64 7,.int .i64 0,.int .i64 0,.int .i64 0,.int .i64 0,.int .i64 0,.int .i64 0,.int .i64 0,.int .i64 0,.int .i64 0,.int .i64 0,.int .i64 0,.slice none 0 0,.int .i64 1,.int .i64 0,.int .i64 0,.int .i64 5,.int .i64 5,.int .i64 0,.int .i64 0,.int .i64 0,.int .i64 (q:Int),.slice A n1 c1,.int .i64 0,.int .i64 0,.int .i64 0,.int .i64 0,.int .i64 0,.int .i64 0,.int .i64 0,.slice none 0 0,.int .i64 0,.bool false,.int .i64 0,.int .i64 0,.int .i64 0,.slice none 0 0,.slice none 0 0,.int .i64 0,.slice none 0 0,.slice none 0 0]∧Below W.heap.size W w' by rw [hva];intro W k;exact miss_any one q hq lag hlag gs gl gst gn gp np cp nm cm no co er sent Am Ao W (hR.below k) (hs.ext k) (ho.ext k))
  rw [← hva]
  clear hX hva hq hlag hR hs ho
  have l1:=ld_blk (P:=Tryz.prog) HB.out (show Array.extract va 0 47=va by rw [HVA.out];kernel_rfl) Tryz.underlying84 rfl (by rw [HVA.out];kernel_rfl)
  obtain ⟨l1,e1⟩:=l1
  go_enter Tryz.func30,Tryz.ntmps30
  go_upto_region 1 with (fail)
  rw [← HX.out]
  go_wp2_with fail
  refine (HV.out X).mono ?_
  rintro e Z ⟨rfl,hbz⟩
  have HEZ:=Lib.hid (ext_call HE.out hbz)
  have HBZ:=Lib.hid (HB.out.ext hbz)
  clear hbz l1 e1
  have a2:=(HBZ.out.cell 2).trans (show _=some (.int .i64 100) by rw [HVA.out];rfl)
  have a0:=(HBZ.out.cell 0).trans (show _=some (.int .i64 7) by rw [HVA.out];rfl)
  have HAn:=Lib.hid (fun (W:World) (k:Below Z.heap.size Z W)=>show Calls Tryz.prog 71 #[] W fun e w'=>∃ g,e=.returned (.map (some g))∧w'.cell? ⟨w.heap.size,0,none⟩=some (.int .i64 7)∧(Instr.lookup 152 (.map (some g)) (.int .i64 7) true).run Tryz.prog w'=.ok (.tuple #[.func (.func 123) #[] #[],.bool true]) w'∧Below W.heap.size W w' from (answers_any W).mono fun e w' ⟨g,h1,_,h3,h4⟩=>
      ⟨g,h1,cell_ext (cell_ext a0 k) h4,lookup_Iok (P:=Tryz.prog) (w:=w') Tryz.underlying152 Tryz.underlying3 h3 7 (z:=.nilFunc) (by kernel_rfl),h4⟩)
  go_upto_region 3 with (fail)
  go_region_with (go_at_call 71;refine (HAn.out _ (by first|exact ext_refl Z|exact (ext_refl Z).drew)).mono ?_;rintro e W1 ⟨g,rfl,hk1,hlk,hb1⟩)
  all_goals
    have HE1:=Lib.hid (ext_call HEZ.out (undrew hb1))
    have l1:=ld_blk (P:=Tryz.prog) (HBZ.out.ext (undrew hb1)) (show Array.extract va 0 47=va by rw [HVA.out];kernel_rfl) Tryz.underlying84 rfl (by rw [HVA.out];kernel_rfl)
    obtain ⟨l1,e1⟩:=l1
    clear hb1 hlk hk1 a0 a2
    go_wp2_with fail
    refine (HH.out W1 HE1.out).mono ?_
    rintro e W2 ⟨g1,A1,n1,c1,rfl,hb,hb2⟩
    have HE2:=Lib.hid (ext_call HE1.out hb2)
    clear hb2
    go_wp2
    go_ret
    exact ⟨g1,A1,n1,c1,rfl,hb,HE2.out⟩
end
section
open Go.RowKit Go.Shelf
attribute [local go_sem ↓] ld_exec ld_sem
end
section
open Go.RowKit Go.Shelf
end
section
open Go.RowKit Go.Shelf
theorem own_extS {W W':World} {S:Nat→Prop} {base n sz:Nat} {e:TypeId} {v:Value} {xs:List Value} (h:W.ownsRow base e sz v n xs) (k:ExtS S W W') (hn:∀ (g:Nat) (cs:Array Value),Blk W g e cs→¬ S g):W'.ownsRow base e sz v n xs:=by
  refine ⟨h.1,?_⟩
  rcases h.2 with hn'|⟨g,cap,cur,h1,h2,h3,h4⟩
  · exact .inl hn'
  · exact .inr ⟨g,cap,cur,h1,h2,(k.block g (Array.getElem?_eq_some_iff.1 h3).1 (hn g cur h3)).trans h3,h4⟩
theorem OneRec.srv2 {W W':World} {gs gl gst gn gp np cp nm cm no co:Nat} {lag ep sent:Int} {Am Ao:Option Addr} {kv:List (Int × Value)} (h:OneRec W gl) (hs:SrvAt W gs gl gst gn gp np cp lag ep sent Am nm cm Ao no co) (hm:MapI W gn kv) (k:ExtS (fun j=>j=gs∨j=gn) W W'):OneRec W' gl:=by
  obtain ⟨gr,c,g,d,v,h1,h2,h3,h4⟩:=h.at_
  have n1:¬ (gl=gs∨gl=gn):=by
    rintro (e|e)
    · exact blkNe h1 hs (by decide) e
    · exact MapI.neBlk hm h1 e
  have n2:¬ (gr=gs∨gr=gn):=by
    rintro (e|e)
    · subst e
      have h0:=(h3.cell 0).symm.trans (Blk.cell hs 0)
      cases h0
    · exact MapI.ne hm (h3.cell 0:W.cell? ⟨gr,0,none⟩=some (.int .i64 1)) e
  have n3:¬ (g=gs∨g=gn):=by
    rintro (e|e)
    · subst e
      have h0:=(h4.cell 0).symm.trans (Blk.cell hs 0)
      cases h0
    · exact MapI.ne hm (h4.cell 0:W.cell? ⟨g,0,none⟩=some (.int .i64 0)) e
  exact ⟨gr,c,g,d,v,ExtS.blk h1 k n1,h2,ExtS.headB h3 k n2,ExtS.headB h4 k n3⟩
theorem own_at {W:World} {base e sz n g cap:Nat} {xs:List Value} (h:W.ownsRow base e sz (.slice (some ⟨g,0,none⟩) n cap) n xs) (j:Nat) (u:Value) (hj:xs[j]? = some u):W.cell? ⟨g,j,none⟩=some u:=by
  have h1:=h.cells (g:=g) rfl j u hj
  rwa [Addr.add_mid,Nat.zero_add] at h1
theorem originNew2 (w:World) (hR:RoundOK w):Calls Tryz.prog 25 #[] w fun e w'=>∃ gs gl gst gm gp gn,e=.returned (.pointer (some ⟨gs,0,none⟩))∧Srv0 w' w.heap.size gs gl gst gm gp gn∧gm≠gn∧Below w.heap.size w w':=by
  have HR:=Lib.hid hR
  clear hR
  have hmm:=@run_makeMap Tryz.prog
  go_enter Tryz.func25,Tryz.ntmps25
  go_wp2_with fail
  refine (storeNew w).mono ?_
  rintro e W1 ⟨rfl,hw⟩
  have HE1:=Lib.hid (show Below w.heap.size w W1 by rw [← hw];exact ext_alloc (ext_new _ _) _)
  have HS1:=Lib.hid (show StateIs W1 false (w.heap.size+1) w.heap.size 0 by rw [← hw];exact ⟨Blk.new' _ _ _ (by simp),(MapAt.new w).alloc _⟩)
  clear hw
  go_wp2_with fail
  refine (stateRoot false _ _ 0 W1 HS1.out (HR.out.below HE1.out)).mono ?_
  rintro e W2 ⟨rfl,hb2⟩
  have HE2:=Lib.hid (ext_call HE1.out hb2)
  have HS2:=Lib.hid (HS1.out.ext hb2)
  clear hb2 HS1
  go_wp2_with fail
  refine (logNew (stateF false) (stateF_size _) W2).mono ?_
  rintro e W3 ⟨gl,rfl,hl3,hgl,hb3⟩
  have HE3:=Lib.hid (ext_call HE2.out hb3)
  have HS3:=Lib.hid (HS2.out.ext hb3)
  have HL3:=Lib.hid hl3
  have hz2:=HE2.out.size
  have hz3:=HE3.out.size
  have hm3:w.heap.size<W3.heap.size:=HS3.out.2.lt
  clear hb3 hl3 HS2
  go_wp2
  go_ret
  have hP:=Blk.new W3 3 #[.int .i64 0]
  have e1:=ext_new W3 (.cells #[.int .i64 0] 3)
  have e2:=ext_alloc e1 (.map #[] 0)
  have hN:=MapI.new (W3.alloc (.cells #[.int .i64 0] 3))
  refine ⟨_,gl,_,_,_,_,rfl,⟨Blk.new' _ _ _ (by simp),(HS3.out.ext e2).ext (ext_new _ _),(HL3.out.ext e2).ext (ext_new _ _),(hP.alloc _).alloc _,?_,?_⟩,?_,ext_alloc (ext_call HE3.out e2) _⟩
  · simpa using hN.ext (ext_new _ _)
  · refine ⟨?_,?_,?_,?_,?_,?_⟩ <;> (try simp) <;> omega
  · (try simp);omega
end
section
open Go.RowKit Go.Shelf
attribute [local go_sem ↓] ld_exec ld_sem bd_exec bd_sem Go.wp_at_zero Go.wp_at_succ
theorem nodes02:NodesOK [0,2]:=⟨by decide,by decide,by decide,fun j a b h1 h2=>by
  match j,h1,h2 with
  | 0,h1,h2=>simp at h1 h2;omega
  | 1,h1,h2=>simp at h2
  | (j+2),h1,h2=>simp at h1⟩
set_option maxHeartbeats 8000000 in
theorem sane27 (w:World) (hR:RoundOK w):Calls Tryz.prog 4 #[] w fun e w'=>e=.returned (.bool true)∧Below w.heap.size w w':=by
  have HR:=Lib.hid hR
  clear hR
  go_enter Tryz.func4,Tryz.ntmps4
  go_wp2_with fail
  refine (originNew2 w HR.out).mono ?_
  rintro e W1 ⟨gs,gl,gst,gm,gp,gn,rfl,h0,hgmn,hb1⟩
  have HS1:=Lib.hid (show SrvAt W1 gs gl gst gn gp 1 1 0 0 0 none 0 0 none 0 0 from h0.cells)
  have HT1:=Lib.hid h0.state
  have HL1:=Lib.hid h0.log
  have HP1:=Lib.hid h0.past
  have HM1:=Lib.hid h0.nodes
  have HN1:=Lib.hid h0.new
  have HE1:=Lib.hid hb1
  clear h0 hb1
  go_wp2_with fail
  obtain ⟨W2,hW2⟩:∃ W2,W2=W1.alloc (.cells #[.int .i64 0,.int .i64 5,.bool false,.int .i64 0,.int .i64 0,.int .i64 0,.bool true,.int .i64 1,.int .i64 2,.int .i64 3] 62):=⟨_,rfl⟩
  rw [← hW2]
  have HE2:=Lib.hid (show Below W1.heap.size W1 W2 by rw [hW2];exact ext_new _ _)
  have HB2:=Lib.hid (show Blk W2 W1.heap.size 62 #[.int .i64 0,.int .i64 5,.bool false,.int .i64 0,.int .i64 0,.int .i64 0,.bool true,.int .i64 1,.int .i64 2,.int .i64 3] by rw [hW2];exact Blk.new _ _ _)
  clear hW2
  generalize W1.heap.size=bp at HB2 ⊢
  have HS2:=Lib.hid (HS1.out.ext HE2.out)
  have HT2:=Lib.hid (HT1.out.ext HE2.out)
  have HL2:=Lib.hid (HL1.out.ext HE2.out)
  have HP2:=Lib.hid (HP1.out.ext HE2.out)
  have HM2:=Lib.hid (HM1.out.ext HE2.out)
  have HW2:=Lib.hid (ext_call HE1.out HE2.out)
  have hlog:=HL2.out.choose_spec.1
  have nsl:gs≠gl:=blkNe HS2.out hlog (by decide)
  have nst:gs≠gst:=blkNe HS2.out HT2.out.1 (by decide)
  have nsm:gs≠gm:=blkNeMap HS2.out HT2.out.2
  have npl:gp≠gl:=blkNe HP2.out hlog (by decide)
  have npt:gp≠gst:=blkNe HP2.out HT2.out.1 (by decide)
  have npm:gp≠gm:=blkNeMap HP2.out HT2.out.2
  have nps:gp≠gs:=blkNe HP2.out HS2.out (by decide)
  have npn:gp≠gn:=MapI.neBlk HM2.out HP2.out
  have nsn:gs≠gn:=MapI.neBlk HM2.out HS2.out
  have nln:gl≠gn:=MapI.neBlk HM2.out hlog
  have ntn:gst≠gn:=MapI.neBlk HM2.out HT2.out.1
  have nbl:bp≠gl:=blkNe HB2.out hlog (by decide)
  have nbt:bp≠gst:=blkNe HB2.out HT2.out.1 (by decide)
  have nbm:bp≠gm:=blkNeMap HB2.out HT2.out.2
  have cS:¬ ComS gl gst gm gs:=by rintro (h|h|h);exact nsl h;exact nst h;exact nsm h
  have cP:¬ ComS gl gst gm gp:=by rintro (h|h|h);exact npl h;exact npt h;exact npm h
  have cN:¬ ComS gl gst gm gn:=by rintro (h|h|h);exact nln h.symm;exact ntn h.symm;exact hgmn h.symm
  have cB:¬ ComS gl gst gm bp:=by rintro (h|h|h);exact nbl h;exact nbt h;exact nbm h
  have HC:=Lib.hid (And.intro cS (And.intro cP (And.intro cN cB)))
  have HD:=Lib.hid (And.intro nps (And.intro npn nsn))
  have HN:=Lib.hid HN1.out
  clear hlog nsl nst nsm npl npt npm nps npn nsn nln ntn nbl nbt nbm cS cP cN cB hgmn HN1 HS1 HT1 HL1 HP1 HM1 HE1 HE2
  refine (commit1 w HR.out gs gl gst gm bp 1 zeros32 zeros32_size W2 HW2.out ⟨HN.out.2.1,HN.out.2.2.1,HN.out.2.2.2.1⟩ (Blk.cell HS2.out 0) (Blk.cell HS2.out 1) HC.out.1 HL2.out (.of HB2.out) HT2.out).mono ?_
  rintro e W3 ⟨rfl,ho3,ht3,hx3⟩
  have HS3:=Lib.hid (HS2.out.extS hx3 HC.out.1)
  have HT3:=Lib.hid ht3
  have HO3:=Lib.hid ho3
  have HP3:=Lib.hid (ExtS.blk HP2.out hx3 HC.out.2.1)
  have HM3:=Lib.hid (HM2.out.extS hx3 HC.out.2.2.1)
  have HB3:=Lib.hid (ExtS.blk HB2.out hx3 HC.out.2.2.2)
  have HW3:=Lib.hid (ExtS.below HW2.out (by rintro k (h|h|h) <;> rw [h];exact HN.out.2.1;exact HN.out.2.2.1;exact HN.out.2.2.2.1) hx3)
  clear ho3 ht3 hx3 HS2 HT2 HL2 HP2 HM2 HB2 HW2
  go_wp2_with fail
  obtain ⟨gr,cr,ggr,dgr,vgr,hlg,_⟩:=HO3.out.at_
  refine (commit2 gs gl gst gm bp 1 cr _ _ W3 (Blk.cell HS3.out 0) (Blk.cell HS3.out 1) hlg (.of HB3.out) HT3.out).mono ?_
  rintro e W4 ⟨rfl,hb4⟩
  have HS4:=Lib.hid (HS3.out.ext hb4)
  have HO4:=Lib.hid (HO3.out.ext hb4)
  have HP4:=Lib.hid (HP3.out.ext hb4)
  have HM4:=Lib.hid (HM3.out.ext hb4)
  have HW4:=Lib.hid (ext_call HW3.out hb4)
  clear hb4 hlg HS3 HT3 HO3 HP3 HM3 HB3 HW3 HC
  go_wp2_with fail
  have hnums:NumsAt (W4.alloc (.cells #[.int .i64 0,.int .i64 2] 3)) (.slice (some ⟨W4.heap.size,0,none⟩) 2 2) [0,2]:=⟨some ⟨W4.heap.size,0,none⟩,2,rfl,by decide,fun _=>⟨W4.heap.size,0,rfl,fun j n hj=>by
    have hb:=Blk.new W4 3 #[.int .i64 0,.int .i64 2]
    match j,hj with
    | 0,hj=>simp at hj;subst hj;exact hb.cell 0
    | 1,hj=>simp at hj;subst hj;exact hb.cell 1
    | (q+2),hj=>simp at hj⟩⟩
  refine (members_any [0,2] 1 _ _ hnums nodes02 (by omega) (by omega)).mono ?_
  rintro e W5 ⟨r,rfl,⟨vm,vo,os,rfl,hm5,hn5,hl5,hos5,hlim5⟩,hb5⟩
  have hb5':=ext_call (ext_new W4 _) hb5
  have HS5:=Lib.hid (HS4.out.ext hb5')
  have HO5:=Lib.hid (HO4.out.ext hb5')
  have HP5:=Lib.hid (HP4.out.ext hb5')
  have HM5:=Lib.hid (HM4.out.ext hb5')
  have HW5:=Lib.hid (ext_call HW4.out hb5')
  have HRg:=Lib.hid (setRingYes gs gl gst gn gp 1 1 0 0 0 none 0 0 none 0 0 [] [0,2] os 1 vm vo W5 HS5.out HM5.out hm5 nodes02 hn5 hl5 hos5 hlim5 (by omega) (by omega) (by omega))
  obtain ⟨Avm,cvm,rfl,_⟩:=hm5
  obtain ⟨Avo,cvo,rfl,_⟩:=hn5
  clear hb5 hb5' hnums hl5 hos5 hlim5 HS4 HO4 HP4 HM4 HW4
  go_wp2_with fail
  refine HRg.out.mono ?_
  rintro e W6 ⟨rfl,⟨Am,nm,cm,Ao,no,co,hs6,hm6,hn6⟩,hmp6,hx6⟩
  have HS6:=Lib.hid hs6
  have HO6:=Lib.hid (HO5.out.srv2 HS5.out HM5.out hx6)
  have HP6:=Lib.hid (ExtS.blk HP5.out hx6 (by rintro (h|h);exact HD.out.1 h;exact HD.out.2.1 h))
  have HM6:=Lib.hid (show MapI W6 gn [(0,.bool true),(2,.bool true)] from hmp6)
  have HW6:=Lib.hid (ExtS.below HW5.out (by rintro k (h|h) <;> rw [h];exact HN.out.1;exact HN.out.2.2.2.2.2) hx6)
  clear hs6 hm6 hn6 hmp6 hx6 HRg HS5 HO5 HP5 HM5 HW5
  go_wp2_with fail
  refine (tick1 gs gl gst gn gp 0 1 Am nm cm Ao no co W6 HS6.out HO6.out HP6.out HM6.out).mono ?_
  rintro e W7 ⟨gt,ct,xs,x0,x2,gp7,cp7,rfl,hl7,hxs,hs7,hp7,hx7⟩
  have HLL7:=Lib.hid hl7
  have HXS:=Lib.hid hxs
  have HS7:=Lib.hid hs7
  have HP7:=Lib.hid hp7
  have HX7:=Lib.hid hx7
  clear hl7 hxs hs7 hp7 hx7
  go_wp2_with fail
  refine (tick2 gs gl gst gn gp gp7 cp7 W6.heap.size 0 1 1 1 0 1 0 Am nm cm Ao no co Am nm cm Ao no co W6 W7 HS6.out HO6.out HM6.out HX7.out (Nat.le_refl _) HS7.out HP7.out HX7.out.size).mono ?_
  rintro e W8 ⟨gm8,c8,ys,gp8,cp8,rfl,hm8,hys,hs8,hp8,hx8,hy8⟩
  have HLL8:=Lib.hid (own_extS HLL7.out hy8 (by
    rintro g cs hg (h|h)
    · subst h;exact blkNe hg HS7.out (by decide) rfl
    · subst h;exact (own_blkNe HP7.out hg (by decide)) rfl))
  have HMM8:=Lib.hid hm8
  have HYS:=Lib.hid hys
  have HS8:=Lib.hid hs8
  have HP8:=Lib.hid hp8
  have HX8:=Lib.hid hx8
  have HO8:=Lib.hid (HO6.out.srv HS6.out hx8)
  have HW8:=Lib.hid (ExtS.below HW6.out (by rintro k h;rw [h];exact HN.out.1) hx8)
  clear hm8 hys hs8 hp8 hx8 hy8 HLL7 HS7 HP7 HX7 HS6 HO6 HP6 HM6 HW6 HD
  obtain ⟨va,hva⟩:∃ va:Array Value,va=#[.int .i64 7,.int .i64 2,.int .i64 100,.int .i64 0,.int .i64 0,.int .i64 0,.int .i64 7,.int .i64 0,.int .i64 0,.int .i64 0,.int .i64 1,.int .i64 0,.int .i64 0,.int .i64 5,.int .i64 5,.int .i64 0,.int .i64 0,.int .i64 0,.slice none 0 0,.int .i64 0,.int .i64 0,.int .i64 0,.int .i64 0,.int .i64 0,.int .i64 0,.int .i64 0,.int .i64 0,.int .i64 0,.slice none 0 0,.int .i64 0,.int .i64 0,.int .i64 0,.int .i64 0,.int .i64 0,.int .i64 0,.int .i64 0,.slice none 0 0,.int .i64 0,.bool false,.int .i64 0,.int .i64 0,.int .i64 0,.slice none 0 0,.slice none 0 0,.int .i64 0,.slice none 0 0,.slice none 0 0]:=⟨_,rfl⟩
  obtain ⟨bd1,bd2⟩:=bd_of W8 (P:=Tryz.prog) (t:=84) (ps:=#[(0,.int .i64 7),(1,.int .i64 2),(2,.int .i64 100),(10,.agg #[.int .i64 1,.int .i64 0,.int .i64 0,.int .i64 5,.int .i64 5,.int .i64 0,.int .i64 0]),(6,.int .i64 7)]) (cs:=va) (by rw [hva];kernel_rfl)
  have HZ:=Lib.hid (Blk.new W8 84 #[.int .i64 0,.int .i64 0,.int .i64 0,.int .i64 0,.int .i64 0,.int .i64 0,.int .i64 0,.int .i64 0,.int .i64 0,.int .i64 0,.int .i64 0,.int .i64 0,.int .i64 0,.int .i64 0,.int .i64 0,.int .i64 0,.int .i64 0,.int .i64 0,.slice none 0 0,.int .i64 0,.int .i64 0,.int .i64 0,.int .i64 0,.int .i64 0,.int .i64 0,.int .i64 0,.int .i64 0,.int .i64 0,.slice none 0 0,.int .i64 0,.int .i64 0,.int .i64 0,.int .i64 0,.int .i64 0,.int .i64 0,.int .i64 0,.slice none 0 0,.int .i64 0,.bool false,.int .i64 0,.int .i64 0,.int .i64 0,.slice none 0 0,.slice none 0 0,.int .i64 0,.slice none 0 0,.slice none 0 0])
  have HI:=Lib.hid (show (Tryz.prog.info? 84).map (·.size)=some va.size by rw [hva];kernel_rfl)
  have HSZ:=Lib.hid (show (#[.int .i64 0,.int .i64 0,.int .i64 0,.int .i64 0,.int .i64 0,.int .i64 0,.int .i64 0,.int .i64 0,.int .i64 0,.int .i64 0,.int .i64 0,.int .i64 0,.int .i64 0,.int .i64 0,.int .i64 0,.int .i64 0,.int .i64 0,.int .i64 0,.slice none 0 0,.int .i64 0,.int .i64 0,.int .i64 0,.int .i64 0,.int .i64 0,.int .i64 0,.int .i64 0,.int .i64 0,.int .i64 0,.slice none 0 0,.int .i64 0,.int .i64 0,.int .i64 0,.int .i64 0,.int .i64 0,.int .i64 0,.int .i64 0,.slice none 0 0,.int .i64 0,.bool false,.int .i64 0,.int .i64 0,.int .i64 0,.slice none 0 0,.slice none 0 0,.int .i64 0,.slice none 0 0,.slice none 0 0]:Array Value).size=va.size by rw [hva];rfl)
  have H1:=Lib.hid (show va.all (·.oneCell')=true by rw [hva];simp [Value.oneCell'])
  have HVA:=Lib.hid hva
  clear hva
  go_upto_region 11 with (refine wpList_store_blk rfl 84 (.tmp 10) (.tmp 43) rfl W8.heap.size va rfl rfl 84 #[.int .i64 0,.int .i64 0,.int .i64 0,.int .i64 0,.int .i64 0,.int .i64 0,.int .i64 0,.int .i64 0,.int .i64 0,.int .i64 0,.int .i64 0,.int .i64 0,.int .i64 0,.int .i64 0,.int .i64 0,.int .i64 0,.int .i64 0,.int .i64 0,.slice none 0 0,.int .i64 0,.int .i64 0,.int .i64 0,.int .i64 0,.int .i64 0,.int .i64 0,.int .i64 0,.int .i64 0,.int .i64 0,.slice none 0 0,.int .i64 0,.int .i64 0,.int .i64 0,.int .i64 0,.int .i64 0,.int .i64 0,.int .i64 0,.slice none 0 0,.int .i64 0,.bool false,.int .i64 0,.int .i64 0,.int .i64 0,.slice none 0 0,.slice none 0 0,.int .i64 0,.slice none 0 0,.slice none 0 0] HZ.out HI.out HSZ.out H1.out ?_;intro W9 hB9 hg9;have HB9:=Lib.hid hB9;have HE9:=Lib.hid (show Below W8.heap.size W8 W9 from (ext_new W8 (.cells #[.int .i64 0,.int .i64 0,.int .i64 0,.int .i64 0,.int .i64 0,.int .i64 0,.int .i64 0,.int .i64 0,.int .i64 0,.int .i64 0,.int .i64 0,.int .i64 0,.int .i64 0,.int .i64 0,.int .i64 0,.int .i64 0,.int .i64 0,.int .i64 0,.slice none 0 0,.int .i64 0,.int .i64 0,.int .i64 0,.int .i64 0,.int .i64 0,.int .i64 0,.int .i64 0,.int .i64 0,.int .i64 0,.slice none 0 0,.int .i64 0,.int .i64 0,.int .i64 0,.int .i64 0,.int .i64 0,.int .i64 0,.int .i64 0,.slice none 0 0,.int .i64 0,.bool false,.int .i64 0,.int .i64 0,.int .i64 0,.slice none 0 0,.slice none 0 0,.int .i64 0,.slice none 0 0,.slice none 0 0] 84)).grown hg9 (ext_new W8 (.cells #[.int .i64 0,.int .i64 0,.int .i64 0,.int .i64 0,.int .i64 0,.int .i64 0,.int .i64 0,.int .i64 0,.int .i64 0,.int .i64 0,.int .i64 0,.int .i64 0,.int .i64 0,.int .i64 0,.int .i64 0,.int .i64 0,.int .i64 0,.int .i64 0,.slice none 0 0,.int .i64 0,.int .i64 0,.int .i64 0,.int .i64 0,.int .i64 0,.int .i64 0,.int .i64 0,.int .i64 0,.int .i64 0,.slice none 0 0,.int .i64 0,.int .i64 0,.int .i64 0,.int .i64 0,.int .i64 0,.int .i64 0,.int .i64 0,.slice none 0 0,.int .i64 0,.bool false,.int .i64 0,.int .i64 0,.int .i64 0,.slice none 0 0,.slice none 0 0,.int .i64 0,.slice none 0 0,.slice none 0 0] 84)).size (fun k e=>by injection e with e;omega));clear hB9 hg9)
  clear bd1 bd2 HZ HI HSZ H1
  have HRc:=Lib.hid (show ∀ (one:Bool) (q:Nat) (hq:q=if one then 1 else 0) (lag:Int) (hlag:lag=if one then 0 else 1) (W:World) (hR:RoundOK W) (hs:SrvAt W gs gl gst gn gp8 3 cp8 lag 1 1 Am nm cm Ao no co) (ho:OneRec W gl),
      Calls Tryz.prog 30 #[.pointer (some ⟨gs,0,none⟩),.agg va] W fun e w'=>∃ g A n1 c1,e=.returned (.slice (some ⟨g,0,none⟩) 1 1)∧Blk w' g 84 #[.int .i64 8,.int .i64 100,.int .i64 2,.int .i64 0,.int .i64 0,.int .i64 0,.int .i64 7,.int .i64 0,.int .i64 0,.int .i64 0,.int .i64 0,.int .i64 0,.int .i64 0,.int .i64 0,.int .i64 0,.int .i64 0,.int .i64 0,.int .i64 0,.slice none 0 0,.int .i64 1,.int .i64 0,.int .i64 0,.int .i64 5,.int .i64 5,.int .i64 0,.int .i64 0,.int .i64 0,.int .i64 (q:Int),.slice A n1 c1,.int .i64 0,.int .i64 0,.int .i64 0,.int .i64 0,.int .i64 0,.int .i64 0,.int .i64 0,.slice none 0 0,.int .i64 0,.bool false,.int .i64 0,.int .i64 0,.int .i64 0,.slice none 0 0,.slice none 0 0,.int .i64 0,.slice none 0 0,.slice none 0 0]∧Below W.heap.size W w' by
    rw [HVA.out]
    intro one q hq lag hlag W hR hs ho
    exact recvMiss one q hq lag hlag gs gl gst gn gp8 3 cp8 nm cm no co 1 1 Am Ao W hR hs ho)
  obtain ⟨l1,e1⟩:=ld_blk (P:=Tryz.prog) HB9.out (show Array.extract va 0 47=va by rw [HVA.out];kernel_rfl) Tryz.underlying84 rfl (by rw [HVA.out];kernel_rfl)
  go_wp2_with fail
  refine (HRc.out true 1 rfl 0 rfl W9 (HR.out.below (ext_call HW8.out HE9.out)) (HS8.out.ext HE9.out) (HO8.out.ext HE9.out)).mono ?_
  rintro e W10 ⟨gf,Af,nf,cf,rfl,hf,hb10⟩
  have HE10:=Lib.hid (ext_call HE9.out hb10)
  have HF10:=Lib.hid hf
  have HB10:=Lib.hid (HB9.out.ext hb10)
  clear hf hb10 l1 e1
  have hS10:=HS8.out.ext HE10.out
  go_wp2_with fail
  refine (srvLagOk gs 1 _ (by omega) (by omega) W10 (Blk.cell hS10 3) (Blk.frozen hS10 3)).mono ?_
  rintro e W11 ⟨rfl,hW11⟩
  have hx11:ExtS (fun k=>k=gs) W10 W11:=by rw [← hW11];exact ExtS.set1 _ _ _ _
  have HS11:=Lib.hid (show SrvAt W11 gs gl gst gn gp8 3 cp8 1 1 1 Am nm cm Ao no co by rw [← hW11];exact Blk.set_ hS10 3 _)
  have HO11:=Lib.hid ((HO8.out.ext HE10.out).srv hS10 hx11)
  have HB11:=Lib.hid (ExtS.blk HB10.out hx11 (fun h=>blkNe HB10.out hS10 (by decide) h))
  have HF11:=Lib.hid (ExtS.blk HF10.out hx11 (fun h=>blkNe HF10.out hS10 (by decide) h))
  have HX11:=Lib.hid ((ExtS.of_ext (S:=fun k=>k=gs) HE10.out).trans hx11)
  have HW11:=Lib.hid (ExtS.below (ext_call HW8.out HE10.out) (by rintro k h;rw [h];exact HN.out.1) hx11)
  clear hS10 hW11 hx11
  obtain ⟨l1,e1⟩:=ld_blk (P:=Tryz.prog) HB11.out (show Array.extract va 0 47=va by rw [HVA.out];kernel_rfl) Tryz.underlying84 rfl (by rw [HVA.out];kernel_rfl)
  go_wp2_with fail
  refine (HRc.out false 0 rfl 1 rfl W11 (HR.out.below HW11.out) HS11.out HO11.out).mono ?_
  rintro e W12 ⟨gf2,Af2,nf2,cf2,rfl,hf2,hb12⟩
  have HF12:=Lib.hid (HF11.out.ext hb12)
  have HG12:=Lib.hid hf2
  have HS12:=Lib.hid (HS11.out.ext hb12)
  have HO12:=Lib.hid (HO11.out.ext hb12)
  have HW12:=Lib.hid (ext_call HW11.out hb12)
  have HX12:=Lib.hid (HX11.out.trans (ExtS.of_ext hb12))
  have hgs:∀ (g:Nat) (t:TypeId) (cs:Array Value),Blk W8 g t cs→t≠140→¬ g=gs:=fun g t cs h1 h2 h3=>blkNe h1 HS8.out h2 h3
  have HLL:=Lib.hid (own_extS HLL8.out HX12.out (fun g cs h=>hgs g _ cs h (by decide)))
  have HMM:=Lib.hid (own_extS HMM8.out HX12.out (fun g cs h=>hgs g _ cs h (by decide)))
  have HPP:=Lib.hid (own_extS HP8.out HX12.out (fun g cs h=>hgs g _ cs h (by decide)))
  clear hf2 hb12 l1 e1 hgs HF10 HB10 HB11 HF11 HX11 HW11 HS11 HO11 HX12 HE10 HE9 HB9 HLL8 HMM8 HP8 HS8 HO8 HW8
  have p0:W12.cell? ⟨gs,0,none⟩=some (.pointer (some ⟨gl,0,none⟩)):=Blk.cell HS12.out 0
  have p2:W12.cell? ⟨gs,2,none⟩=some (.slice (some ⟨gp8,0,none⟩) 3 cp8):=Blk.cell HS12.out 2
  have k0:=own_at HPP.out 0 (.int .i64 0) rfl
  have k1:=own_at HPP.out 1 (.int .i64 1) rfl
  have f0:W12.cell? ⟨gf,0,none⟩=some (.int .i64 8):=HF12.out.cell 0
  have f2:W12.cell? ⟨gf,2,none⟩=some (.int .i64 2):=HF12.out.cell 2
  have f6:W12.cell? ⟨gf,6,none⟩=some (.int .i64 7):=HF12.out.cell 6
  have f27:W12.cell? ⟨gf,27,none⟩=some (.int .i64 1):=HF12.out.cell 27
  have g27:W12.cell? ⟨gf2,27,none⟩=some (.int .i64 0):=HG12.out.cell 27
  have l0:=own_at HLL.out 0 (.int .i64 1) (by rw [HXS.out];rfl)
  have l47:=own_at HLL.out 47 (.int .i64 2) (by rw [HXS.out];rfl)
  have l56:=own_at HLL.out 56 (.int .i64 1) (by rw [HXS.out];rfl)
  have l51:=own_at HLL.out 51 (.int .i64 1) (by rw [HXS.out];rfl)
  have l143:=own_at HLL.out 143 (.int .i64 2) (by rw [HXS.out];rfl)
  have m54:=own_at HMM.out 54 (.int .i64 2) (by rw [HYS.out];rfl)
  clear HVA HRc HF12 HG12 HLL HMM HPP HXS HYS HS12 HR HN
  go_upto_region 16 with (fail)
  go_upto_region 17 with (first
    | (go_at_call 6;refine (srvPosC gs gl W12 p0 HO12.out).mono ?_;rintro e w' ⟨rfl,hw'⟩;subst w')
    | (go_at_call 32;refine (srvTime gs 3 cp8 _ (by omega) W12 p2).mono ?_;rintro e w' ⟨rfl,hw'⟩;subst w'))
  go_upto_region 18 with (fail)
  clear l0 l47 l56 l51 l143 m54
  have HP0:=Lib.hid (show Calls Tryz.prog 33 #[.pointer (some ⟨gs,0,none⟩),.int .i64 0] W12 fun e w'=>e=.returned (.int .i64 0)∧W12=w' from srvAtYes gs 3 cp8 0 gp8 0 (by omega) W12 p2 k0)
  have HP1:=Lib.hid (show Calls Tryz.prog 33 #[.pointer (some ⟨gs,0,none⟩),.int .i64 1] W12 fun e w'=>e=.returned (.int .i64 1)∧W12=w' from srvAtYes gs 3 cp8 1 gp8 1 (by omega) W12 p2 k1)
  have HP3:=Lib.hid (show Calls Tryz.prog 33 #[.pointer (some ⟨gs,0,none⟩),.int .i64 3] W12 fun e w'=>e=.returned (.int .i64 (-1))∧W12=w' from srvAtNo gs 3 cp8 _ 3 (by omega) W12 p2)
  clear p0 p2 k0 k1
  go_wp2_with fail
  refine HP0.out.mono ?_
  rintro e w' ⟨rfl,hw'⟩
  subst w'
  clear f0 f2 f6 f27 g27
  go_wp2_with fail
  refine HP1.out.mono ?_
  rintro e w' ⟨rfl,hw'⟩
  subst w'
  go_wp2_with fail
  refine HP3.out.mono ?_
  rintro e w' ⟨rfl,hw'⟩
  subst w'
  go_wp2
  go_ret
  exact ⟨rfl,HW12.out⟩
end
section
open Go.RowKit Go.Shelf
theorem pickF_lt (c n:Int) (hn:0<n):0≤pickF c n∧pickF c n<n:=by
  unfold pickF
  split
  · exact ⟨Int.emod_nonneg _ (by omega),Int.emod_lt_of_pos _ hn⟩
  · exact ⟨Int.emod_nonneg _ (by omega),Int.emod_lt_of_pos _ hn⟩
theorem tdiv_in (c n:Int) (hn:0<n) (hc : -9223372036854775808≤c) (hc2:c≤9223372036854775807) : -9223372036854775808≤c.tdiv n∧c.tdiv n≤9223372036854775807:=by
  rcases Int.le_total 0 c with h|h
  · rw [Int.tdiv_eq_ediv_of_nonneg h]
    have h1:=Int.ediv_nonneg h (Int.le_of_lt hn)
    have h2:=Int.ediv_le_self n h
    omega
  · have h3:c.tdiv n = -((-c) / n):=by rw [← Int.tdiv_eq_ediv_of_nonneg (by omega),Int.neg_tdiv,Int.neg_neg]
    have h1:=Int.ediv_nonneg (show 0 ≤ -c by omega) (Int.le_of_lt hn)
    have h2:=Int.ediv_le_self n (show 0 ≤ -c by omega)
    omega
end
section
open Go.RowKit Go.Shelf
theorem own_base {W:World} {b b' n sz:Nat} {e:TypeId} {v:Value} {xs:List Value} (h:W.ownsRow b e sz v n xs) (hb:b'≤b):W.ownsRow b' e sz v n xs:=by
  refine ⟨h.1,?_⟩
  rcases h.2 with h1|⟨g,cap,cur,h1,h2,h3⟩
  · exact .inl h1
  · exact .inr ⟨g,cap,cur,h1,Nat.le_trans hb h2,h3⟩
theorem own_blk {W:World} {b n sz:Nat} {e:TypeId} {v:Value} {xs:List Value} (h:W.ownsRow b e sz v n xs) (h0:0<n):∃ g cap cur,v=.slice (some ⟨g,0,none⟩) n cap∧b≤g∧Blk W g e cur:=by
  rcases h.2 with ⟨_,h1⟩|⟨g,cap,cur,h1,h2,h3,_⟩
  · omega
  · exact ⟨g,cap,cur,h1,h2,h3⟩
end
section
open Go.RowKit
attribute [local go_sem ↓] app_exec app_sem Go.wp_at_zero Go.wp_at_succ
theorem app3 (W:World) (base:Nat) (hb:base≤W.heap.size) (v:Value) (n:Nat) (xs:List Value) (hown:W.ownsRow base 3 1 v n xs) (hn:n≤3) (b off:Nat) (x y z:Int) (h0:W.cell? ⟨b,off,none⟩=some (.int .i64 x)) (h1:W.cell? ⟨b,off+1,none⟩=some (.int .i64 y)) (h2:W.cell? ⟨b,off+2,none⟩=some (.int .i64 z)) :
    AppOK Tryz.prog W 67 67 v (.slice (some ⟨b,off,none⟩) 3 3)∧(appW Tryz.prog W 67 67 v (.slice (some ⟨b,off,none⟩) 3 3)).ownsRow base 3 1 (appV Tryz.prog W 67 67 v (.slice (some ⟨b,off,none⟩) 3 3)) (n+3) (xs++[.int .i64 x,.int .i64 y,.int .i64 z])∧W.grownBy (appW Tryz.prog W 67 67 v (.slice (some ⟨b,off,none⟩) 3 3)) v.ownBlock:=by
  obtain ⟨ii,hii,hzi0,hzi1,hzi2⟩:=info_parts int_infoP
  refine app_own (P:=Tryz.prog) (w:=W) base 67 67 3 ii (.int .i64 0) 1 8 Tryz.underlying67 hii hzi0 hzi1 hzi2 rfl (by decide) v n xs hown ⟨b,off,none⟩ 3 3 [.int .i64 x,.int .i64 y,.int .i64 z] rfl (fun j u hj=>?_) (by simp [Value.oneCell']) (by unfold maxLen;omega) (by omega) hb
  match j,hj with
  | 0,hj=>simp at hj;subst hj;simpa [Addr.add] using h0
  | 1,hj=>simp at hj;subst hj;simpa [Addr.add] using h1
  | 2,hj=>simp at hj;subst hj;simpa [Addr.add] using h2
theorem own_ints {W:World} {base n:Nat} {v:Value} {l:List Int} (h:W.ownsRow base 3 1 v n (l.map (Value.int .i64))) (h0:0<n):∃ g c,v=.slice (some ⟨g,0,none⟩) n c∧g<W.heap.size∧IntsAt W g 0 l:=by
  obtain ⟨g,cap,cur,rfl,-,hb⟩:=own_blk h h0
  refine ⟨g,cap,rfl,hb.lt,fun j x hx=>?_⟩
  have h1:=h.cells (g:=g) rfl j (.int .i64 x) (by rw [List.getElem?_map,hx];rfl)
  rw [add_lit0] at h1
  rw [Nat.zero_add]
  exact h1
theorem IntsAt.ext {w W:World} {b off:Nat} {l:List Int} (h:IntsAt w b off l) (k:Below w.heap.size w W):IntsAt W b off l:=fun j x hx=>cell_ext (h j x hx) k
def ChgT.small (c:ChgT):Prop:=∀ x ∈ [c.t,c.k,c.o1,c.o2,c.o3,c.n1,c.n2,c.n3],-64≤x∧x<64
def encChg (c:ChgT):List Int:=[c.t,c.k,(if c.had then 1 else 0)+(if c.has then 2 else 0)]++(if c.had then [c.o1,c.o2,c.o3] else [])++(if c.has then [c.n1,c.n2,c.n3] else [])
def encRec (p:Int) (l:List ChgT):List Int:=[p,(l.length:Int)]++l.flatMap encChg
end
section
open Go.RowKit
def RowT.is (t k:Int) (r:RowT):Bool:=decide (t=r.t) && decide (k=r.k)
def getR (rs:List RowT) (t k:Int):Option RowT:=rs.find? (RowT.is t k)
def putR (rs:List RowT) (r:RowT):List RowT:=match rs.findIdx? (RowT.is r.t r.k) with|some i=>rs.set i r|none=>rs++[r]
def delR (rs:List RowT) (t k:Int):List RowT:=match rs.findIdx? (RowT.is t k) with|some i=>rs.eraseIdx i|none=>rs
def RowT.keyV (r:RowT):Value:=.agg #[.int .i64 r.t,.int .i64 r.k]
def MapR (w:World) (g:Nat) (rs:List RowT):Prop:=∃ es c,MapAt w g es c∧(es.toList.map (·.born)).Nodup∧(∀ e ∈ es.toList,e.born<c)∧es.toList.map (fun e=>(e.key,e.val))=rs.map (fun r=>(r.keyV,r.val))
section
variable {w W:World} {g:Nat} {rs:List RowT}
theorem MapR.ext (h:MapR w g rs) (k:Below w.heap.size w W):MapR W g rs:=by
  obtain ⟨es,c,h,h2⟩:=h
  exact ⟨es,c,h.ext k,h2⟩
theorem MapR.lt (h:MapR w g rs):g<w.heap.size:=by
  obtain ⟨es,c,h,_⟩:=h
  exact h.lt
theorem MapR.new (w:World):MapR (w.alloc (.map #[] 0)) w.heap.size []:=⟨#[],0,MapAt.new w,by simp,by simp,rfl⟩
theorem idEq (a b x y:Int) (W:World):(Op.equal 106 (.agg #[.int .i64 a,.int .i64 b]) (.agg #[.int .i64 x,.int .i64 y])).run Tryz.prog W=.ok (decide (a=x) && decide (b=y)) W:=by
  by_cases h1:a=x <;> by_cases h2:b=y <;> (unfold Op.equal Op.maxDepth;simp [go_sem,h1,h2])
theorem idCheck (e:Bool) (a b:Int) (W:World):(Instr.checkKey e 10000 106 (.agg #[.int .i64 a,.int .i64 b])).run Tryz.prog W=.ok () W:=by cases e <;> kernel_rfl
theorem findAsk_id (t k:Int):∀ (rs:List RowT) (es:List MapEntry) (i:Nat),es.map (fun e=>(e.key,e.val))=rs.map (fun r=>(r.keyV,r.val)) →
    (Instr.findAsking 106 (.agg #[.int .i64 t,.int .i64 k]) es i).run Tryz.prog w=.ok ((rs.findIdx? (RowT.is t k)).map fun j=>(i+j,((rs[j]?).map RowT.val).getD undef)) w:=by
  intro rs
  induction rs with
  | nil=>
    intro es i h
    cases es with
    | nil=>simp [Instr.findAsking]
    | cons e r=>cases h
  | cons p r ih=>
    intro es i h
    cases es with
    | nil=>cases h
    | cons e es=>
      simp only [List.map_cons,List.cons.injEq,Prod.mk.injEq] at h
      obtain ⟨⟨hk,hv⟩,ht⟩:=h
      unfold Instr.findAsking
      rw [hk]
      simp only [RowT.keyV,Sem.run_bind,idEq,Result.andThen_ok]
      by_cases hp:(RowT.is t k p)=true
      · have hp':(decide (t=p.t) && decide (k=p.k))=true:=hp
        rw [hp',List.findIdx?_cons,hp]
        simp [hv]
      · have hp':(decide (t=p.t) && decide (k=p.k))=false:=by simpa [RowT.is] using hp
        have hp2:RowT.is t k p=false:=by simpa using hp
        rw [hp',List.findIdx?_cons,hp2]
        simp only [Bool.false_eq_true,if_false,ih es (i+1) ht]
        cases List.findIdx? (RowT.is t k) r with
        | none=>rfl
        | some j=>simp;omega
theorem findKey_id (t k:Int) (rs:List RowT) (es:List MapEntry) (h:es.map (fun e=>(e.key,e.val))=rs.map (fun r=>(r.keyV,r.val))) :
    (Instr.findKey 106 (.agg #[.int .i64 t,.int .i64 k]) es).run Tryz.prog w=.ok ((rs.findIdx? (RowT.is t k)).map fun j=>(j,((rs[j]?).map RowT.val).getD undef)) w:=by
  have h1:=findAsk_id (w:=w) t k rs es 0 h
  simp only [Nat.zero_add] at h1
  cases es with
  | nil=>
    cases rs with
    | nil=>simp [Instr.findKey,run_underlying Tryz.underlying106,Result.andThen,Instr.findNow]
    | cons p r=>cases h
  | cons e es=>
    have hk:∃ x y,e.key=.agg #[.int .i64 x,.int .i64 y]:=by
      cases rs with
      | nil=>cases h
      | cons p r=>simp only [List.map_cons,List.cons.injEq,Prod.mk.injEq] at h;exact ⟨_,_,h.1.1⟩
    obtain ⟨x,y,hk⟩:=hk
    simp only [Instr.findKey,Sem.run_bind,run_underlying Tryz.underlying106,Result.andThen_ok,Instr.findNow,hk,Instr.sameNow]
    exact h1
theorem lookupR (h:MapR w g rs) (t k:Int):(Instr.lookup 95 (.map (some g)) (.agg #[.int .i64 t,.int .i64 k]) true).run Tryz.prog w=.ok (.tuple #[((getR rs t k).map RowT.val).getD (.agg #[.int .i64 0,.int .i64 0,.int .i64 0,.int .i64 0,.int .i64 0]),.bool (getR rs t k).isSome]) w:=by
  obtain ⟨es,c,hm,-,-,e⟩:=h
  have hg:=getM (P:=Tryz.prog) hm
  have hf:=findKey_id (w:=w) t k rs es.toList e
  unfold Instr.lookup
  simp only [Sem.run_bind,run_underlying Tryz.underlying95,Result.andThen_ok,hg,idCheck,hf,Sem.run_pure]
  unfold getR
  cases hc:rs.findIdx? (RowT.is t k) with
  | none=>
    have h1:rs.find? (RowT.is t k)=none:=by
      rw [List.findIdx?_eq_none_iff] at hc
      rw [List.find?_eq_none]
      intro x hx
      simpa using hc x hx
    simp [h1,row_zero,Result.andThen]
  | some i=>
    rw [List.findIdx?_eq_some_iff_getElem] at hc
    obtain ⟨hi,h1,h2⟩:=hc
    have h3:rs.find? (RowT.is t k)=some rs[i]:=by
      rw [List.find?_eq_some_iff_getElem]
      exact ⟨h1,i,hi,rfl,fun j hj=>by simpa using h2 j hj⟩
    simp [h3,hi,Result.andThen]
theorem keyStays (a b:Int) (W:World):(Instr.keyThatStays (.agg #[.int .i64 a,.int .i64 b]) (.agg #[.int .i64 a,.int .i64 b])).run Tryz.prog W=.ok (.agg #[.int .i64 a,.int .i64 b]) W:=by
  simp [Instr.keyThatStays,Instr.sameBits]
theorem map_eraseIdx' {α β:Type} (g:α→β):∀ (l:List α) (i:Nat),(l.eraseIdx i).map g=(l.map g).eraseIdx i
  | [],_=>rfl
  | _::_,0=>rfl
  | x::l,i+1=>by simp only [List.eraseIdx_cons_succ,List.map_cons,map_eraseIdx' g l i]
theorem map_modify_same {α β:Type} (l:List α) (i:Nat) (f:α→α) (g:α→β) (h:∀ x,g (f x)=g x):(l.modify i f).map g=l.map g:=by
  apply List.ext_getElem?
  intro j
  rw [List.getElem?_map,List.getElem?_map,List.getElem?_modify]
  cases l[j]? with
  | none=>rfl
  | some x=>by_cases hij:i=j <;> simp [hij,h]
theorem map_modify_set {α β:Type} (l:List α) (i:Nat) (f:α→α) (g:α→β) (v:β) (h:∀ x,l[i]? = some x→g (f x)=v):(l.modify i f).map g=(l.map g).set i v:=by
  apply List.ext_getElem?
  intro j
  rw [List.getElem?_map,List.getElem?_modify,List.getElem?_set,List.getElem?_map,List.length_map]
  by_cases hij:i=j
  · subst hij
    cases hx:l[i]? with
    | none=>
      have:¬ i<l.length:=by rw [List.getElem?_eq_none_iff] at hx;omega
      simp [this]
    | some x=>
      have:i<l.length:=(List.getElem?_eq_some_iff.1 hx).1
      simp [this,h x hx]
  · simp [hij]
theorem updateR (h:MapR w g rs) (r:RowT):∃ o,(Instr.mapUpdate 95 (.map (some g)) (.agg #[.int .i64 r.t,.int .i64 r.k]) (.agg #[.int .i64 r.t,.int .i64 r.k,.int .i64 r.a,.int .i64 r.b,.int .i64 r.c])).run Tryz.prog w=.ok () (w.putObj g o)∧MapR (w.putObj g o) g (putR rs r):=by
  obtain ⟨es,c,hm,hnd,hlt,e⟩:=h
  have hg:=getM (P:=Tryz.prog) hm
  have hs:=fun o=>setM (P:=Tryz.prog) o hm
  have hf:=findKey_id (w:=w) r.t r.k rs es.toList e
  unfold Instr.mapUpdate putR
  simp only [Sem.run_bind,run_underlying Tryz.underlying95,Result.andThen_ok,hg,idCheck,hf,Sem.run_pure]
  cases hc:rs.findIdx? (RowT.is r.t r.k) with
  | none=>
    simp only [Option.map_none,hs]
    refine ⟨_,rfl,_,_,hm.put _ _,?_,?_,?_⟩
    · simp only [Array.toList_push,List.map_append,List.map_cons,List.map_nil]
      rw [List.nodup_append]
      refine ⟨hnd,by simp,fun a ha b hb=>?_⟩
      simp only [List.mem_map] at ha
      obtain ⟨x,hx,rfl⟩:=ha
      have:=hlt x hx
      simp at hb
      omega
    · intro x hx
      simp only [Array.toList_push,List.mem_append,List.mem_singleton] at hx
      rcases hx with hx|rfl
      · have:=hlt x hx;omega
      · simp
    · simp only [Array.toList_push,List.map_append,List.map_cons,List.map_nil,e]
      rfl
  | some i=>
    rw [List.findIdx?_eq_some_iff_getElem] at hc
    obtain ⟨hi,h1,h2⟩:=hc
    have hlen:es.size=rs.length:=by
      have:=congrArg List.length e
      simpa using this
    have hie:i<es.size:=by omega
    have hk:es[i].key=.agg #[.int .i64 r.t,.int .i64 r.k]:=by
      have h3:=congrArg (fun l=>l[i]?) e
      simp only [List.getElem?_map,List.getElem?_eq_getElem hi,Array.getElem?_toList,Array.getElem?_eq_getElem hie,Option.map_some,Option.some.injEq,Prod.mk.injEq] at h3
      rw [h3.1]
      simp only [RowT.is,Bool.and_eq_true,decide_eq_true_eq] at h1
      rw [RowT.keyV,h1.1,h1.2]
    simp only [Option.map_some,Array.getElem?_eq_getElem hie,Option.getD_some,hk,keyStays,Result.andThen_ok,hs,Sem.run_bind]
    refine ⟨_,rfl,_,_,hm.put _ _,?_,?_,?_⟩
    · rw [Array.toList_modify,map_modify_same]
      · exact hnd
      · intro x;rfl
    · intro x hx
      rw [Array.toList_modify,List.mem_iff_getElem?] at hx
      obtain ⟨j,hj⟩:=hx
      rw [List.getElem?_modify] at hj
      cases hy:es.toList[j]? with
      | none=>rw [hy] at hj;cases hj
      | some y=>
        rw [hy] at hj
        have h4:=hlt y (List.mem_of_getElem? hy)
        simp only [Option.map_eq_map,Option.map_some,Option.some.injEq] at hj
        by_cases hij:i=j
        · rw [if_pos hij] at hj;rw [← hj];exact h4
        · rw [if_neg hij] at hj;rw [← hj];exact h4
    · rw [Array.toList_modify]
      refine (map_modify_set es.toList i _ (fun e=>(e.key,e.val)) (r.keyV,r.val) (fun x hx=>rfl)).trans ?_
      rw [e,List.map_set]
theorem deleteR (h:MapR w g rs) (t k:Int):∃ o,(∀ ty,(Builtin.delete_ #[95,106] ty #[.map (some g),.agg #[.int .i64 t,.int .i64 k]]).run Tryz.prog w=.ok (.tuple #[]) (w.putObj g o))∧MapR (w.putObj g o) g (delR rs t k):=by
  obtain ⟨es,c,hm,hnd,hlt,e⟩:=h
  have hg:=getM (P:=Tryz.prog) hm
  have hs:=fun o=>setM (P:=Tryz.prog) o hm
  have hf:=findKey_id (w:=w) t k rs es.toList e
  unfold Builtin.delete_ delR
  simp only [List.getElem?_toArray,List.getElem?_cons_zero,List.getElem?_cons_succ,Sem.run_bind,run_underlying Tryz.underlying95,Result.andThen_ok,hg,idCheck,hf,Sem.run_pure]
  cases hc:rs.findIdx? (RowT.is t k) with
  | none=>
    simp only [Option.map_none,hs,Sem.run_bind,Sem.run_pure,Result.andThen_ok]
    exact ⟨_,fun _=>rfl,_,_,hm.put _ _,hnd,hlt,e⟩
  | some i=>
    simp only [Option.map_some,hs,Sem.run_bind,Sem.run_pure,Result.andThen_ok]
    refine ⟨_,fun _=>rfl,_,_,hm.put _ _,?_,?_,?_⟩
    · rw [Array.toList_eraseIdxIfInBounds]
      exact hnd.sublist ((List.eraseIdx_sublist _ _).map _)
    · intro x hx
      rw [Array.toList_eraseIdxIfInBounds] at hx
      exact hlt x ((List.eraseIdx_sublist _ _).subset hx)
    · rw [Array.toList_eraseIdxIfInBounds,map_eraseIdx',e,map_eraseIdx']
theorem lenR (h:MapR w g rs) (t:TypeId):(Builtin.len_ #[95] t #[.map (some g)]).run Tryz.prog w=.ok (.int .i64 rs.length) w:=by
  obtain ⟨es,c,hm,-,-,e⟩:=h
  refine len_map Tryz.underlying95 hm t ?_
  have:=congrArg List.length e
  simp at this
  rw [this]
  rfl
end
end
section
open Go.RowKit Go.Shelf
def cc (l:List ChgT):List Value:=l.flatMap fun c=>c.arr.toList
theorem cc_length (l:List ChgT):(cc l).length=l.length*10:=by
  induction l with
  | nil=>rfl
  | cons a r ih=>simp [cc,ChgT.arr] at ih ⊢;omega
theorem cc_one (l:List ChgT):∀ u ∈ cc l,u.oneCell'=true:=by
  intro u hu
  simp only [cc,List.mem_flatMap] at hu
  obtain ⟨x,_,hx⟩:=hu
  simp only [ChgT.arr,List.mem_cons,List.not_mem_nil,or_false] at hx
  rcases hx with rfl|rfl|rfl|rfl|rfl|rfl|rfl|rfl|rfl|rfl <;> rfl
theorem cc_at:∀ (l:List ChgT) (j:Nat) (x:ChgT),l[j]? = some x→∀ i,i<10→(cc l)[j*10+i]? = x.arr[i]?
  | [],j,x,h,i,hi=>by simp at h
  | y::l,0,x,h,i,hi=>by
    simp only [List.getElem?_cons_zero,Option.some.injEq] at h
    subst h
    simp only [cc,List.flatMap_cons,Nat.zero_mul,Nat.zero_add]
    rw [List.getElem?_append_left (show i<y.arr.toList.length from hi)]
    simp
  | y::l,j+1,x,h,i,hi=>by
    have h1:=cc_at l j x (by simpa using h) i hi
    simp only [cc,List.flatMap_cons]
    rw [List.getElem?_append_right (by simp [ChgT.arr];omega)]
    have e:(j+1)*10+i-y.arr.toList.length=j*10+i:=by simp [ChgT.arr];omega
    rw [e]
    exact h1
theorem ChgsAt.cells {w:World} {b off c:Nat} {l:List ChgT} (h:ChgsAt w (.slice (some ⟨b,off,none⟩) l.length c) l):∀ (i:Nat) (u:Value),(cc l)[i]? = some u→w.cell? ⟨b,off+i,none⟩=some u:=by
  intro i u hu
  have hi:i<l.length*10:=by rw [← cc_length];exact (List.getElem?_eq_some_iff.1 hu).1
  have hj:i / 10<l.length:=by omega
  obtain ⟨b',off',c',e,_,h1⟩:=h.at_ (List.getElem?_eq_getElem hj)
  injection e with e _ _
  injection e with e
  injection e with e1 e2
  subst e1 e2
  have h2:=h1 (i % 10) (by omega)
  have h3:=cc_at l (i / 10) _ (List.getElem?_eq_getElem hj) (i % 10) (by omega)
  have e4:i / 10*10+i % 10=i:=by omega
  rw [e4] at h3
  rw [Nat.add_assoc,e4,← h3,hu] at h2
  exact h2
def ChgB (w:World) (g:Nat) (l:List ChgT):Prop:=∃ cur,Blk w g 62 cur∧∀ (j:Nat) (x:ChgT),l[j]? = some x→∀ i,i<10→cur[j*10+i]? = x.arr[i]?
section
variable {w W:World} {g:Nat} {l:List ChgT}
theorem ChgB.lt (h:ChgB w g l):g<w.heap.size:=by obtain ⟨cur,h,_⟩:=h;exact h.lt
theorem ChgB.ext (h:ChgB w g l) (k:Below w.heap.size w W):ChgB W g l:=by obtain ⟨cur,h,h2⟩:=h;exact ⟨cur,h.ext k,h2⟩
theorem ChgB.alloc (h:ChgB w g l) (o:Obj):ChgB (w.alloc o) g l:=h.ext (ext_new w o)
theorem ChgB.far (h:ChgB w g l) {p:Addr} (hp:g≠p.block) (u:Value):ChgB (w.setCell p u) g l:=by obtain ⟨cur,h,h2⟩:=h;exact ⟨cur,h.far hp u,h2⟩
theorem ChgB.drew (h:ChgB w g l):ChgB w.drew g l:=h
theorem ChgB.frozen (h:ChgB w g l) (i:Nat):w.frozen? ⟨g,i,none⟩=false:=by obtain ⟨cur,h,_⟩:=h;exact h.frozen i
theorem ChgB.cell (h:ChgB w g l) {j:Nat} {x:ChgT} (hj:l[j]? = some x) (i:Nat) (hi:i<10):w.cell? ⟨g,j*10+i,none⟩=x.arr[i]? := by
  obtain ⟨cur,h,h2⟩:=h
  rw [h.cell]
  exact h2 j x hj i hi
theorem ChgB.at_ (h:ChgB w g l) {c:Nat} (hc:l.length≤c):ChgsAt w (.slice (some ⟨g,0,none⟩) l.length c) l:=
  ⟨_,c,rfl,hc,fun _=>⟨g,0,rfl,fun j x hj i hi=>by rw [Nat.zero_add];exact h.cell hj i hi⟩⟩
theorem ChgB.fill (h:ChgB w g l) {k:Nat} {x:ChgT} (hk:l[k]? = some x) (had:Bool) (o1 o2 o3:Int) :
    ChgB ((((w.setCell ⟨g,k*10+2,none⟩ (.bool had)).setCell ⟨g,k*10+3,none⟩ (.int .i64 o1)).setCell ⟨g,k*10+4,none⟩ (.int .i64 o2)).setCell ⟨g,k*10+5,none⟩ (.int .i64 o3)) g (l.set k { x with had:=had,o1:=o1,o2:=o2,o3:=o3 }):=by
  obtain ⟨cur,h,h2⟩:=h
  refine ⟨_,(((h.set_ _ _).set_ _ _).set_ _ _).set_ _ _,fun j y hj i hi=>?_⟩
  have hsz:k*10+9<cur.size:=by
    have h3:=h2 k x hk 9 (by omega)
    exact (Array.getElem?_eq_some_iff.1 (h3.trans (Array.getElem?_eq_getElem (show 9<x.arr.size from (by decide:(9:Nat)<10))))).1
  rw [List.getElem?_set] at hj
  simp only [Array.getElem?_setIfInBounds,Array.size_setIfInBounds]
  by_cases hjk:k=j
  · subst hjk
    rw [if_pos rfl,if_pos (List.getElem?_eq_some_iff.1 hk).1] at hj
    injection hj with hj
    subst hj
    have h3:=fun i hi=>h2 k x hk i hi
    have s2:k*10+2<cur.size:=by omega
    have s3:k*10+3<cur.size:=by omega
    have s4:k*10+4<cur.size:=by omega
    have s5:k*10+5<cur.size:=by omega
    match i,hi with
    | 0,_=>have:=h3 0 (by omega);simpa [ChgT.arr] using this
    | 1,_=>have:=h3 1 (by omega);simpa [ChgT.arr] using this
    | 2,_=>simp [ChgT.arr,s2]
    | 3,_=>simp [ChgT.arr,s3]
    | 4,_=>simp [ChgT.arr,s4]
    | 5,_=>simp [ChgT.arr,s5]
    | 6,_=>have:=h3 6 (by omega);simpa [ChgT.arr] using this
    | 7,_=>have:=h3 7 (by omega);simpa [ChgT.arr] using this
    | 8,_=>have:=h3 8 (by omega);simpa [ChgT.arr] using this
    | 9,_=>have:=h3 9 (by omega);simpa [ChgT.arr] using this
    | i+10,h=>omega
  · rw [if_neg hjk] at hj
    rw [if_neg (by omega),if_neg (by omega),if_neg (by omega),if_neg (by omega)]
    exact h2 j y hj i hi
end
theorem cloneChgs (l:List ChgT) (v:Value) (w:World) (hv:ChgsAt w v l) (h0:0<l.length) (h1:l.length≤24):Calls Tryz.prog 99 #[v] w fun e w'=>
    ∃ g c,e=.returned (.slice (some ⟨g,0,none⟩) l.length c)∧w.heap.size≤g∧l.length≤c∧ChgB w' g l∧Below w.heap.size w w':=by
  obtain ⟨n0,hn0⟩:∃ n0,l[0]? = some n0:=⟨_,List.getElem?_eq_getElem h0⟩
  obtain ⟨b,off,c,hA,hc,_⟩:=hv.at_ hn0
  subst hA
  have HV:=Lib.hid hv
  obtain ⟨is,his,hzs0,hzs1,hzs2⟩:=info_parts chg_info
  have hsn:=fun W:World=>Lib.run_eql_slice_nil (P:=Tryz.prog) W 41 62 (some ⟨b,off,none⟩) l.length c 0 0 Tryz.underlying41
  have HOE:=Lib.hid (show (w.alloc (.cells #[] 62)).ownsRow w.heap.size 62 10 (.slice (some ⟨w.heap.size,0,none⟩) 0 0) 0 [] from
    ⟨rfl,.inr ⟨w.heap.size,0,#[],rfl,Nat.le_refl _,World.alloc_heap_new w _,Nat.le_refl _,Nat.zero_le _,rfl,rfl⟩⟩)
  have HNW:=Lib.hid (show ∀ (i:Nat) (u:Value),(cc l)[i]? = some u→(w.alloc (.cells #[] 62)).cell? ((⟨b,off,none⟩:Addr).add i)=some u from fun i u hu=>by
    rw [Addr.add_mid]
    exact (HV.out.ext (ext_new w _)).cells i u hu)
  have hml:=cc_length l
  clear hv hn0
  go_enter Tryz.func99,Tryz.ntmps99
  go_wp2_with (at_builtin;refine wpList_append_own _ rfl (.tmp 5) (.tmp 6) 41 rfl w.heap.size 62 is (.agg #[.int .i64 0,.int .i64 0,.bool false,.int .i64 0,.int .i64 0,.int .i64 0,.bool false,.int .i64 0,.int .i64 0,.int .i64 0]) 10 80 Tryz.underlying41 his hzs0 hzs1 hzs2 rfl (by decide) (.slice (some ⟨w.heap.size,0,none⟩) 0 0) 0 [] rfl HOE.out ⟨b,off,none⟩ l.length c (cc l) rfl hml HNW.out (cc_one l) ?_ ?_ ?_ ?_;(unfold maxLen;omega);omega;(rw [World.size_alloc];omega);intro v6 W6 ho6 hg6 _;obtain ⟨A7,c7,h7⟩:=own_shape ho6;subst h7;have HO6:=Lib.hid ho6;have HG6:=Lib.hid hg6;clear hg6 ho6)
  go_ret
  have ho:=HO6.out
  rw [Nat.zero_add,List.nil_append] at ho
  have HBW:Below w.heap.size w W6:=(ext_new w (.cells #[] 62)).grown HG6.out (ext_new w (.cells #[] 62)).size (fun k e=>by have e2:w.heap.size=k:=Option.some.inj e;omega)
  obtain ⟨_,h2⟩:=ho
  rcases h2 with ⟨_,h3⟩|⟨g,cap,cur,h3,h4,h5,h6,_,h8,h9⟩
  · omega
  injection h3 with h3 _ h10
  subst h3 h10
  refine ⟨g,c7,by simp,h4,by simpa using h6,⟨cur,h5,fun j x hj i hi=>?_⟩,HBW⟩
  have h11:=cc_at l j x hj i hi
  rw [← h11,← h9,List.getElem?_take,if_pos (by have:=(List.getElem?_eq_some_iff.1 hj).1;omega)]
  simp
def StateR (w:World) (gs gm:Nat) (pos:Int) (rs:List RowT):Prop:=Blk w gs 99 #[.map (some gm),.int .i64 pos]∧MapR w gm rs
theorem StateR.ext {w W:World} {gs gm:Nat} {pos:Int} {rs:List RowT} (h:StateR w gs gm pos rs) (k:Below w.heap.size w W):StateR W gs gm pos rs:=⟨h.1.ext k,h.2.ext k⟩
def zeroR:RowT:=⟨0,0,0,0,0⟩
theorem optR (o:Option RowT):(o.map RowT.val).getD (.agg #[.int .i64 0,.int .i64 0,.int .i64 0,.int .i64 0,.int .i64 0])=.agg #[.int .i64 (o.getD zeroR).t,.int .i64 (o.getD zeroR).k,.int .i64 (o.getD zeroR).a,.int .i64 (o.getD zeroR).b,.int .i64 (o.getD zeroR).c]:=by
  cases o <;> rfl
theorem getR_any (gs gm:Nat) (pos:Int) (rs:List RowT) (t k:Int) (w:World) (hS:StateR w gs gm pos rs):Calls Tryz.prog 108 #[.pointer (some ⟨gs,0,none⟩),.int .i64 t,.int .i64 k] w fun e w'=>
    e=.returned (.tuple #[.agg #[.int .i64 ((getR rs t k).getD zeroR).t,.int .i64 ((getR rs t k).getD zeroR).k,.int .i64 ((getR rs t k).getD zeroR).a,.int .i64 ((getR rs t k).getD zeroR).b,.int .i64 ((getR rs t k).getD zeroR).c],.bool (getR rs t k).isSome])∧Below w.heap.size w w':=by
  have HS0:=Lib.hid (StateR.ext hS (ext_new w (.cells #[.int .i64 0,.int .i64 0,.int .i64 0,.int .i64 0,.int .i64 0] 108)))
  clear hS
  have s0:=HS0.out.1.cell 0
  have gl:=HS0.out.1.lt
  have hlk:=lookupR HS0.out.2 t k
  rw [optR] at hlk
  generalize (getR rs t k).getD zeroR=r at *
  generalize (getR rs t k).isSome=had at *
  obtain ⟨r0,r1,r2,r3,r4⟩:=r
  dsimp only at *
  go_enter Tryz.func108,Tryz.ntmps108
  go_wp2
  exact bodyPost_ret (v:=.tuple #[.agg #[.int .i64 r0,.int .i64 r1,.int .i64 r2,.int .i64 r3,.int .i64 r4],.bool had]) (by simp [results,Tryz.results108,go_sem]) rfl ⟨rfl,by repeat (first|with_reducible refine ext_set ?_ (by simp) _|with_reducible refine ext_alloc ?_ _|with_reducible exact ext_refl _)⟩
end
section
open Go.RowKit Go.Shelf
def fillC (rs:List RowT) (x:ChgT):ChgT:={ x with had:=(getR rs x.t x.k).isSome,o1:=((getR rs x.t x.k).getD zeroR).a,o2:=((getR rs x.t x.k).getD zeroR).b,o3:=((getR rs x.t x.k).getD zeroR).c }
def mixC (rs:List RowT) (l:List ChgT) (k:Nat):List ChgT:=(l.take k).map (fillC rs)++l.drop k
theorem mixC_zero (rs:List RowT) (l:List ChgT):mixC rs l 0=l:=by simp [mixC]
theorem mixC_all (rs:List RowT) (l:List ChgT) (k:Nat) (h:l.length≤k):mixC rs l k=l.map (fillC rs):=by simp [mixC,List.take_of_length_le h,List.drop_eq_nil_of_le h]
theorem mixC_at (rs:List RowT) (l:List ChgT) (k:Nat) (x:ChgT) (h:l[k]? = some x):(mixC rs l k)[k]? = some x:=by
  have hk:=(List.getElem?_eq_some_iff.1 h).1
  unfold mixC
  rw [List.getElem?_append_right (by simp;omega)]
  simp only [List.length_map,List.length_take,List.getElem?_drop]
  rw [← h]
  congr 1
  omega
theorem mixC_succ (rs:List RowT) (l:List ChgT) (k:Nat) (x:ChgT) (h:l[k]? = some x):(mixC rs l k).set k (fillC rs x)=mixC rs l (k+1):=by
  have hk:=(List.getElem?_eq_some_iff.1 h).1
  unfold mixC
  rw [List.set_append_right _ _ (by simp;omega)]
  have e:k-(List.map (fillC rs) (l.take k)).length=0:=by simp;omega
  rw [e,List.take_add_one,h,List.drop_eq_getElem_cons hk]
  have h2:l[k]=x:=by rw [List.getElem?_eq_getElem hk] at h;injection h
  simp [List.set]
theorem keepK {X W:World} {p q r:Addr} {x y z:Value} (h:X.cell? p=some x∧X.cell? q=some y∧X.cell? r=some z) (k:Below X.heap.size X W):W.cell? p=some x∧W.cell? q=some y∧W.cell? r=some z∧Below X.heap.size X W:=
  ⟨cell_ext h.1 k,cell_ext h.2.1 k,cell_ext h.2.2 k,k⟩
end
end Go.Proofs.YtnajpjnnlocfgaaGreatDoor
