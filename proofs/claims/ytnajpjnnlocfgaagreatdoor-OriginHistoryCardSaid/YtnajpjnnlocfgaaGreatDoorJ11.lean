/-
  package logtree: all as an iterator, leaves, Root at any log.
-/
import Derived.Test.YtnajpjnnlocfgaaGreatDoorJ9
import Derived.Test.YtnajpjnnlocfgaaGreatDoorJ10
set_option linter.unusedSimpArgs false
set_option linter.unusedVariables false
set_option maxHeartbeats 4000000
set_option maxRecDepth 100000
namespace Go.Proofs.YtnajpjnnlocfgaaGreatDoor
open Go.RowKit Go.Shelf
def leavesH:Nat→List (ByteArray × ByteArray)→List ByteArray
  | _,[]=>[]
  | i,h::r=>headEnc i h.1 h.2::leavesH (i+1) r
theorem leavesH_length:∀ (H:List (ByteArray × ByteArray)) (i:Nat),(leavesH i H).length=H.length
  | [],_=>rfl
  | h::r,i=>by simp only [leavesH,List.length_cons,leavesH_length r (i+1)]
theorem leavesH_at:∀ (H:List (ByteArray × ByteArray)) (i j:Nat) (x:ByteArray × ByteArray),H[j]? = some x→(leavesH i H)[j]? = some (headEnc (i+j) x.1 x.2)
  | [],i,j,x,h=>by simp at h
  | y::H,i,0,x,h=>by simp at h;subst h;simp [leavesH]
  | y::H,i,j+1,x,h=>by
    have h1:=leavesH_at H (i+1) j x (by simpa using h)
    rw [show i+1+j=i+(j+1) by omega] at h1
    simpa [leavesH] using h1
theorem leavesH_sizes:∀ (H:List (ByteArray × ByteArray)) (i:Nat),(∀ h ∈ H,h.1.size=32∧h.2.size=32)→∀ x ∈ leavesH i H,x.size≤100000
  | [],_,_,x,hx=>by simp [leavesH] at hx
  | h :: r, i, hs, x, hx => by
    simp only [leavesH,List.mem_cons] at hx
    rcases hx with rfl|hx
    · have h1:=hs h (List.mem_cons_self ..)
      rw [headEnc_size i h.1 h.2 h1.1 h1.2]
      omega
    · exact leavesH_sizes r (i+1) (fun y hy=>hs y (List.mem_cons_of_mem _ hy)) x hx
def encH (H:List (ByteArray × ByteArray)) (k:Nat):ByteArray:=(leavesH 0 H).getD k ⟨#[]⟩
theorem encH_eq {H:List (ByteArray × ByteArray)} {k:Nat} {x:ByteArray × ByteArray} (h:H[k]? = some x):encH H k=headEnc k x.1 x.2:=by
  have h1:=leavesH_at H 0 k x h
  rw [Nat.zero_add] at h1
  unfold encH
  rw [List.getD_eq_getElem?_getD,h1]
  rfl
def AllH (B Bs gl:Nat) (rv hv:Value) (R:List (List ChgT × Nat × Nat)) (H:List (ByteArray × ByteArray)) (W:World):Prop:=
  W.cell? ⟨Bs,0,none⟩=some (.pointer (some ⟨gl,0,none⟩))∧LogG B W gl rv hv R H
section
attribute [local go_sem] Oper.semAt_some
theorem allH_in (n:Nat) (hn:1≤n) (l B Bs gl:Nat) (rv hv:Value) (R:List (List ChgT × Nat × Nat)) (H:List (ByteArray × ByteArray)) (hH:H.length≤60) (J:Nat→World→Prop)
    (hC:∀ k W,J k W→AllH B Bs gl rv hv R H W) (hA:∀ k A B,J k A→Below A.heap.size A B→J k B)
    (hY:∀ k xs W1,k<H.length→J k W1→xs=#[.string (encH H k)]→YieldAt Fence.wide (n-1) Tryz.prog l xs W1 fun e W'=>e=.returned (.bool true)∧J (k+1) W')
    (W:World) (h0:J 0 W) :
    CallsIn Fence.wide n Tryz.prog 150 #[.func (.yield l) #[] #[],.pointer (some ⟨Bs,0,none⟩)] W (AllPost H.length J):=by
  have HC:=Lib.hid hC
  have HA:=Lib.hid hA
  have HY:=Lib.hid hY
  have H0:=Lib.hid h0
  obtain ⟨b0,hL0⟩:=hC 0 W h0
  have b1:=hL0.log.cell 1
  obtain ⟨gh,ch,curh,hhv,-,hbh⟩:=own_blk hL0.heads (by have:=hL0.len;omega)
  obtain ⟨N,hN⟩:∃ N,N=H.length:=⟨_,rfl⟩
  have HN:=Lib.hid hN
  rw [← hN] at HY hH hhv ⊢
  subst hhv
  clear hC hA hY h0 hL0 hbh hN
  refine callsIn_of_wp Tryz.func150 rfl trivial ?_ rfl
  simp only [Tryz.ntmps150,List.size_toArray,List.length_cons,List.length_nil,Nat.reduceAdd,Nat.reduceSub,Array.replicate_succ,Array.replicate_zero,List.push_toArray,List.append_toArray,List.nil_append,List.cons_append]
  gi_wp2
  gi_loopw [4,5,6,12] (fun _ _ _ i wr=>∃ k:Nat,k≤N∧i=.int .i64 (k:Int)∧J k wr) (fun _ _ _ i _=>N-(intOf i).toNat)
  case atStart=>exact ⟨0,Nat.zero_le _,rfl,H0.out⟩
  case round=>
    obtain ⟨k,hk,rfl,hJ⟩:=hrel
    have HJ:=Lib.hid hJ
    obtain ⟨-,hL⟩:=HC.out _ _ hJ
    clear hJ H0 b0 b1
    have e2:IntKind.i64.wrap ((k:Int)+1)=(k:Int)+1:=IntWalk.i64_in _ (by omega)
    by_cases hlt:k<N
    · obtain ⟨x,hx⟩:∃ x,H[k]? = some x:=⟨_,List.getElem?_eq_getElem (by rw [← HN.out];exact hlt)⟩
      obtain ⟨q0,q1,q2⟩:=hcF_at H 0 k x hx
      rw [Nat.zero_add] at q0
      have hkc:∀ i u,(hcF 0 H)[i]? = some u→wr.cell? ⟨gh,i,none⟩=some u:=fun i u hu=>by
        have h1:=hL.heads.cells (g:=gh) rfl i u hu
        rw [add_lit0] at h1
        exact h1
      have c0:=hkc _ _ q0
      have c1:=hkc _ _ q1
      have c2:=hkc _ _ q2
      have hsz:=hL.sizes x (List.mem_of_getElem? hx)
      have HE:=Lib.hid (fun W:World=>logEncode k x.1 x.2 (by omega) hsz.1 hsz.2 W)
      rw [← encH_eq hx] at HE
      obtain ⟨xc,xs⟩:=x
      dsimp only at c1 c2 HE
      have p0:(0:Int)≤(k:Int):=by omega
      have p1:(k:Int)<(N:Int):=by omega
      clear q0 q1 q2 hkc hsz hx hL
      gi_wp2_with fail
      refine ⟨trivial,(callsIn_wide.2 (HE.out _)).mono ?_⟩
      rintro e W1 ⟨rfl,hb1⟩
      obtain ⟨fn,tmps,assign,body,hy,hRun⟩:=HY.out k _ W1 hlt (HA.out _ _ _ (HA.out _ _ _ HJ.out (ext_new _ _)) hb1) rfl
      clear hb1 c0 c1 c2
      gi_wp2
      refine hRun.mono ?_
      rintro e W3 ⟨rfl,hJ3⟩
      have HJ3:=Lib.hid hJ3
      clear hJ3 hRun hy
      gi_wp2
      go_roundw
      case rel=>exact ⟨k+1,by omega,by go_num,HJ3.out⟩
      case measure=>simp [intOf];omega
    · have hk2:k=N:=by omega
      subst hk2
      clear hL
      gi_wp2
      refine bodyPost_ret (results_none rfl _ _ _) rfl ⟨⟨_,rfl⟩,HJ.out⟩
theorem allH_seq (n:Nat) (hn:1≤n) (B Bs gl:Nat) (rv hv:Value) (R:List (List ChgT × Nat × Nat)) (H:List (ByteArray × ByteArray)) (hH:H.length≤60) :
    SeqMem n Tryz.prog 150 #[.pointer (some ⟨Bs,0,none⟩)] H.length (AllH B Bs gl rv hv R H) (fun k xs _=>xs=#[.string (encH H k)]):=
  fun l J W hC hA hY h0=>allH_in n hn l B Bs gl rv hv R H hH J hC hA hY W h0
end
section
attribute [local go_sem] run_semAt
attribute [local go_sem high] app_sem
def LvH (w:World) (es:List ByteArray) (gl:Nat) (k:Nat) (W:World):Prop:=
  (∃ v,Boxed W w.heap.size 44 v∧W.ownsRow w.heap.size 9 1 v k ((es.take k).map Value.string)∧True)∧Below w.heap.size w W∧Blk W (w.heap.size+1) 47 #[.pointer (some ⟨gl,0,none⟩)]
theorem LvH.own (w:World) (es:List ByteArray) (gl:Nat) (k B:Nat) (hB:w.heap.size≤B):OwnP B (LvH w es gl k):=
  OwnP.and (Own.from (holdsRow_own w.heap.size w.heap.size 44 9 1 (fun _:Unit=>k) (fun _:Unit=>(es.take k).map Value.string) (fun _ _=>True)) B)
    (OwnP.and (OwnP.below (Nat.le_refl _) hB) OwnP.blk)
theorem leavesX (B gl:Nat) (rv hv:Value) (R:List (List ChgT × Nat × Nat)) (H:List (ByteArray × ByteArray)) (hH:H.length≤60) (w:World) (hL:LogG B w gl rv hv R H) :
    Calls Tryz.prog 60 #[.pointer (some ⟨gl,0,none⟩)] w fun e w'=>∃ v,e=.returned v∧Strs (fun b=>w.heap.size≤b) w' v (leavesH 0 H)∧Below w.heap.size w w':=by
  have HL:=Lib.hid hL
  have hseq:=allH_seq 2 (by omega) B (w.heap.size+1) gl rv hv R H hH
  have HEn:=Lib.hid (show ∀ k,encH H k=(leavesH 0 H).getD k ⟨#[]⟩ from fun _=>rfl)
  have hlen:(leavesH 0 H).length≤60:=by rw [leavesH_length];exact hH
  have hpos:0<(leavesH 0 H).length:=by rw [leavesH_length,hL.len];omega
  rw [← leavesH_length H 0] at hseq
  generalize leavesH 0 H=es at *
  generalize hN:es.length=N at *
  have HN:=Lib.hid hN
  have HSq:=Lib.hid hseq
  clear hL hseq hN
  refine (callsIn_wide (n:=3)).1 (callsIn_of_wp_marks Tryz.func60 rfl trivial (wpIn_wide.2 ?_) rfl)
  simp only [Tryz.ntmps60,List.size_toArray,List.length_cons,List.length_nil,Nat.reduceAdd,Nat.reduceSub,Array.replicate_succ,Array.replicate_zero,List.push_toArray,List.append_toArray,List.nil_append,List.cons_append]
  go_wp2_with (go_at_call 107;refine (all_iter gl _).mono ?_;rintro e W2 ⟨rfl,rfl⟩)
  have hE0:Below w.heap.size w ((w.alloc (.cells #[.slice none 0 0] 44)).alloc (.cells #[.pointer (some ⟨gl,0,none⟩)] 47)):=ext_alloc (ext_new _ _) _
  have hI0:LvH w es gl 0 ((w.alloc (.cells #[.slice none 0 0] 44)).alloc (.cells #[.pointer (some ⟨gl,0,none⟩)] 47)):=
    ⟨⟨_,(Boxed.new _ _ _).alloc _,World.ownsRow_nil _ _ _ _,trivial⟩,hE0,Blk.new' _ _ _ (by simp)⟩
  refine (wpIn_wide (n:=3)).1 ?_
  refine' wpIn_mem_str (by omega) (gf:=150) (lb:=#[.pointer (some ⟨w.heap.size+1,0,none⟩)]) (by simp [Act.eval]) (enters_of Tryz.func150 (by kernel_rfl) rfl)
    _ HSq.out rfl (LvH w es gl) (fun k=>LvH.own w es gl k _ (by simp;omega)) (fun k W h=>⟨h.2.2.cell 0,HL.out.ext h.2.1⟩) hI0 _ ?assign ?body ?done
  case assign=>
    intro l s W K hK
    gi_wp2
    exact hK
  case body=>
    rintro l k s W hk hs hsz ⟨⟨v,hv,hrow,_⟩,hb,hbx⟩
    rw [HEn.out] at hs
    have HS:=Lib.hid hs
    have hz1:w.heap.size≤W.heap.size:=hb.size
    obtain ⟨hok,g3,cap3,W3,hav,haw,hv3,hv4,hr4,hk4,hb4,ho4⟩:=sums_after s hv hrow hz1 (Nat.le_refl _) (by omega)
    have c1':=hv.cell
    have hvl:=hv.lt
    have c3:=hv3.cell
    have f3:=hv3.frozen
    have HV4:=Lib.hid hv4
    have HR4:=Lib.hid hr4
    have HK4:=Lib.hid hk4
    have HB4:=Lib.hid hb4
    have HO4:=Lib.hid ho4
    have HI:=Lib.hid (And.intro hb hbx)
    clear hs hv hrow hb hbx hv3 hv4 hr4 hk4 hb4 ho4
    gi_wp2
    have hE:Below w.heap.size w (W3.setCell ⟨w.heap.size,0,none⟩ (.slice (some ⟨g3,0,none⟩) (k+1) cap3)):=HI.out.1.trans HB4.out
    have hk':k<es.length:=by rw [HN.out];exact hk
    have htk:(es.take (k+1)).map Value.string=(es.take k).map Value.string++[.string s]:=by
      rw [List.take_succ_eq_append_getElem hk',List.map_append,HS.out,List.getD_eq_getElem?_getD,List.getElem?_eq_getElem hk']
      rfl
    exact ⟨HK4.out.from _,⟨_,HV4.out,by rw [htk];exact HR4.out,trivial⟩,hE,HO4.out _ _ _ HI.out.2 (by decide) (by omega)⟩
  case done=>
    rintro D W hD ⟨⟨v,hv,hrow,_⟩,hb,_⟩ hK
    obtain ⟨n',rfl⟩:∃ n',N=n'+1:=⟨N-1,by omega⟩
    obtain ⟨g,cg,rfl⟩:=ownsRow_succ hrow
    have hvc:=hv.cell
    have hvf:=hv.frozen
    have HRow:=Lib.hid hrow
    have HBe:=Lib.hid hb
    have HV:=Lib.hid hv
    clear hrow hb
    go_wp2
    have hDn:D≠w.heap.size:=by simp at hD;omega
    have hgn:g≠w.heap.size:=fun e=>HV.out.not_row (by decide) HRow.out (by rw [e];rfl)
    have hK2:(W.setCell ⟨w.heap.size,0,none⟩ (.slice (some ⟨g,0,none⟩) (n'+1) cg)).heap[D]? = some (.deferred (some [])):=(Below.heap_setCell _ _ _ _ hDn).trans hK
    refine ⟨by simp,.inl ⟨_,_,rfl,run_takeDeferred hK2,?_⟩⟩
    have hB2:=(Blk.set_ (show Blk W w.heap.size 44 #[.slice (some ⟨g,0,none⟩) (n'+1) cg] from HV.out) 0 (.slice (some ⟨g,0,none⟩) (n'+1) cg)).putObj (.deferred none) hDn.symm
    have y0:=hB2.cell 0
    refine ⟨.slice (some ⟨g,0,none⟩) (n'+1) cg,by simp [results,Tryz.results60,go_sem,y0],_,rfl,?_,ext_put (ext_set HBe.out (by simp) _) (by simp at hD;omega) _⟩
    refine ⟨_,cg,by rw [HN.out],?_,fun _=>⟨g,0,rfl,(HRow.out.lt g rfl).1,fun j x hx=>?_⟩⟩
    · rw [HN.out];exact own_cap HRow.out
    · have h1:=HRow.out.cells (g:=g) rfl j (.string x) (by rw [List.take_of_length_le (by rw [HN.out];exact Nat.le_refl _),List.getElem?_map,hx];rfl)
      rw [add_lit0] at h1
      rw [Nat.zero_add]
      have h2:(W.setCell ⟨w.heap.size,0,none⟩ (.slice (some ⟨g,0,none⟩) (n'+1) cg)).cell? ⟨g,j,none⟩=some (.string x):=(World.cell?_of_block (Below.heap_setCell _ _ _ _ hgn)).trans h1
      refine cell_kept h2 (grownBy_putObj' _ D _) (fun r e=>?_)
      injection e with e
      subst e
      exact ⟨_,hK2,rfl⟩
end
def logRootF (H:List (ByteArray × ByteArray)):ByteArray:=rootF (leavesH 0 H)
section
attribute [local go_sem ↓] Go.wp_at_zero Go.wp_at_succ
theorem logRootX (B gl:Nat) (rv hv:Value) (R:List (List ChgT × Nat × Nat)) (H:List (ByteArray × ByteArray)) (hH:H.length≤60) (w:World) (hL:LogG B w gl rv hv R H) (hR:RoundOK w) :
    Calls Tryz.prog 21 #[.pointer (some ⟨gl,0,none⟩)] w fun e w'=>e=.returned (.string (logRootF H))∧Below w.heap.size w w':=by
  have HLv:=Lib.hid (leavesX B gl rv hv R H hH w hL)
  have HR:=Lib.hid hR
  have HSz:=Lib.hid (leavesH_sizes H 0 hL.sizes)
  have HLn:=Lib.hid (show (leavesH 0 H).length≤10000 by rw [leavesH_length];omega)
  unfold logRootF
  clear hL hR
  generalize leavesH 0 H=es at *
  have HRt:=Lib.hid (show ∀ (K:Nat) (v:Value) (W:World),Strs (fun b=>K≤b) W v es→RoundOK W→Calls Tryz.prog 39 #[v] W fun e w'=>e=.returned (.string (rootF es))∧Below W.heap.size W w' from fun K v W h hR=>root_any _ v es W h HLn.out HSz.out hR)
  generalize rootF es=r at *
  go_enter Tryz.func21,Tryz.ntmps21
  go_wp2_with fail
  refine HLv.out.mono ?_
  rintro e W1 ⟨v,rfl,hs1',hb1⟩
  have HS1:=Lib.hid hs1'
  have HB1:=Lib.hid hb1
  clear hs1' hb1
  go_wp2_with fail
  refine (HRt.out _ v W1 HS1.out (HR.out.below HB1.out)).mono ?_
  rintro e W2 ⟨rfl,hb2⟩
  go_wp2
  go_ret
  exact ⟨rfl,ext_call HB1.out hb2⟩
theorem srvRootX (B gs gl:Nat) (rv hv:Value) (R:List (List ChgT × Nat × Nat)) (H:List (ByteArray × ByteArray)) (hH:H.length≤60) (w:World) (h0:w.cell? ⟨gs,0,none⟩=some (.pointer (some ⟨gl,0,none⟩))) (hL:LogG B w gl rv hv R H) (hR:RoundOK w) :
    Calls Tryz.prog 22 #[.pointer (some ⟨gs,0,none⟩)] w fun e w'=>e=.returned (.string (logRootF H))∧Below w.heap.size w w':=by
  have HRt:=Lib.hid (logRootX B gl rv hv R H hH w hL hR)
  have hsl:=srvLog gs gl w h0
  go_enter Tryz.func22,Tryz.ntmps22
  go_wp2_with (go_at_call 35;refine hsl.mono ?_;rintro e w' ⟨rfl,hw'⟩;subst w')
  refine HRt.out.mono ?_
  rintro e W2 ⟨rfl,hb2⟩
  go_wp2
  go_ret
  exact ⟨rfl,hb2⟩
end
end Go.Proofs.YtnajpjnnlocfgaaGreatDoor
