/-
  Part 5 of 9: the contracts that the proof of the last part uses; each stands under its own head.
-/
import Derived.Test.YtnajpjnnlocfgaaGreatDoorJ4
import Derived.Test.YtnajpjnnlocfgaaGreatDoorJ3
import Derived.Deep.Upon
import Derived.ArgAppend
import Derived.Test.YtnajpjnnlocfgaaGreatDoorJ2
import Derived.Test.YtnajpjnnlocfgaaGreatDoorJ1
import Derived.Laws.StructEq
import Derived.ChangeKeysEq
import Derived.Deep.RegionHeld3
import Derived.Deep.MidRow
import Derived.BigQuiet
import Derived.Deep.QuietTactic
set_option linter.unusedSimpArgs false
set_option linter.unusedVariables false
set_option maxHeartbeats 4000000
set_option maxRecDepth 100000
namespace Go.Proofs.YtnajpjnnlocfgaaGreatDoor
section
open Go.RowKit Go.Shelf
theorem cells_three_new (w:World) (u v x:Value) (t:TypeId):∀ (j:Nat) (y:Value),[u,v,x][j]? = some y→(w.alloc (.cells #[u,v,x] t)).cell? ((⟨w.heap.size,0,none⟩:Addr).add j)=some y:=by
  intro j y h
  rw [add_lit0]
  have hb:=Blk.new w t #[u,v,x]
  match j,h with
  | 0,h=>simp at h;subst h;exact hb.cell 0
  | 1,h=>simp at h;subst h;exact hb.cell 1
  | 2,h=>simp at h;subst h;exact hb.cell 2
  | (j+3),h=>simp at h
theorem MemsAt.ext2 {W W':World} {g:Nat} {v:Value} {ns:List Nat} (h:MemsAt W v ns) (k:Ext2 g g W W') (hb:Blk W g 69 #[.int .i64 0,.slice none 0 0,.slice none 0 0]):MemsAt W' v ns:=by
  obtain ⟨A,c,rfl,hc,h⟩:=h
  refine ⟨A,c,rfl,hc,fun h0=>?_⟩
  obtain ⟨b,off,hA,hcell⟩:=h h0
  have hne:b≠g:=by
    rintro rfl
    have h3:=(hcell 0 ns[0] (List.getElem?_eq_getElem h0)).2.1
    rw [hb.cell] at h3
    match off,h3 with
    | 0,h3=>simp at h3
    | 1,h3=>simp at h3
    | (q+2),h3=>simp at h3
  exact ⟨b,off,hA,fun j n hn=>⟨cell_ext2 (hcell j n hn).1 k hne hne,cell_ext2 (hcell j n hn).2.1 k hne hne,cell_ext2 (hcell j n hn).2.2 k hne hne⟩⟩
theorem NumsAt.ext2 {W W':World} {g:Nat} {v:Value} {os:List Nat} (h:NumsAt W v os) (hl:4≤os.length) (k:Ext2 g g W W') (hb:Blk W g 69 #[.int .i64 0,.slice none 0 0,.slice none 0 0]):NumsAt W' v os:=by
  obtain ⟨A,c,rfl,hc,h⟩:=h
  refine ⟨A,c,rfl,hc,fun h0=>?_⟩
  obtain ⟨b,off,hA,hcell⟩:=h h0
  have hne:b≠g:=by
    rintro rfl
    have h3:=hcell 3 os[3] (List.getElem?_eq_getElem (by omega))
    rw [hb.cell,Array.getElem?_eq_none (by simp)] at h3
    cases h3
  exact ⟨b,off,hA,fun j n hn=>cell_ext2 (hcell j n hn) k hne hne⟩
theorem members_any (ns:List Nat) (ep:Int) (v:Value) (w:World) (hv:NumsAt w v ns) (hn:NodesOK ns) (h1:1≤ep) (h2:ep≤1000000):Calls Tryz.prog 28 #[.int .i64 ep,v] w fun e w'=>
    ∃ r,e=.returned r∧RingAt w' ns ep r∧Below w.heap.size w w':=by
  obtain ⟨X,hX⟩:∃ X,X=w.alloc (.cells #[.int .i64 0,.slice none 0 0,.slice none 0 0] 69):=⟨_,rfl⟩
  have HE0:=Lib.hid (show Below w.heap.size w X by rw [hX];exact ext_new _ _)
  have HB0:=Lib.hid (show Blk X w.heap.size 69 #[.int .i64 0,.slice none 0 0,.slice none 0 0] by rw [hX];exact Blk.new _ _ _)
  have HX:=Lib.hid hX
  have HV:=Lib.hid (hv.ext HE0.out)
  have HN:=Lib.hid hn
  have hfew:=hn.few
  obtain ⟨A,c,rfl,hc,_⟩:=hv
  clear hX hn
  obtain ⟨is,his,hzs0,hzs1,hzs2⟩:=info_parts mem_info
  go_enter Tryz.func28,Tryz.ntmps28
  go_wp2_with fail
  rw [← HX.out]
  go_loopw [5,6] (fun o i W=>∃ k:Nat,k≤ns.length∧i=.int .i64 k∧W.ownsRow X.heap.size 145 3 o k (mc (ns.take k))∧Below X.heap.size X W) (fun _ i _=>ns.length-(intOf i).toNat)
  case atStart=>exact ⟨0,Nat.zero_le _,rfl,World.ownsRow_nil _ _ _ _,ext_refl X⟩
  case round=>
    obtain ⟨k,hk,rfl,ho,hE⟩:=hrel
    have HO:=Lib.hid ho
    have HE:=Lib.hid hE
    have hxw:=hE.size
    by_cases hlt:k<ns.length
    · obtain ⟨n,hn⟩:∃ n,ns[k]? = some n:=⟨_,List.getElem?_eq_getElem hlt⟩
      obtain ⟨b,off,c',hA,_,c0⟩:=(HV.out.ext HE.out).at_ hn
      injection hA with hA hn' hc'
      subst hA;subst hc'
      clear hn'
      obtain ⟨A3,c3,h3⟩:=own_shape ho
      subst h3
      have HMC:=Lib.hid (show mc (ns.take (k+1))=mc (ns.take k)++[.int .i64 (n:Int),.int .i64 0,.int .i64 1] by rw [List.take_add_one,hn,mc_append];rfl)
      have e2:IntKind.i64.wrap ((k:Int)+1)=(k:Int)+1:=by rw [IntWalk.i64_in _ (by omega)]
      have d1:decide ((k:Int)<(ns.length:Int))=true:=by simp;omega
      have q0:(0:Int)≤(k:Int):=by omega
      have q1:(k:Int)<(ns.length:Int):=by omega
      clear hn ho hE
      go_wp2_with (at_builtin;refine wpList_append_own _ rfl (.tmp 15) (.tmp 21) 66 rfl X.heap.size 145 is (.agg #[.int .i64 0,.int .i64 0,.int .i64 0]) 3 24 Tryz.underlying66 his hzs0 hzs1 hzs2 rfl (by decide) (.slice A3 k c3) k _ rfl (HO.out.alloc _) ⟨wr.heap.size,0,none⟩ 1 1 [.int .i64 (n:Int),.int .i64 0,.int .i64 1] rfl rfl (cells_three_new _ _ _ _ _) ?_ ?_ ?_ ?_ ?_;(simp [Value.oneCell']);(unfold maxLen;omega);omega;(rw [World.size_alloc];omega);intro v6 W6 ho6 hg6 _)
      rw [← HMC.out] at ho6
      have HO6:=Lib.hid ho6
      have HE6:=Lib.hid ((ext_alloc HE.out (.cells #[.int .i64 (n:Int),.int .i64 0,.int .i64 1] 145)).grown hg6 (ext_alloc HE.out (.cells #[.int .i64 (n:Int),.int .i64 0,.int .i64 1] 145)).size (fun q e=>((HO.out.alloc (.cells #[.int .i64 (n:Int),.int .i64 0,.int .i64 1] 145)).lt q e).1))
      clear ho6 hg6
      go_wp2
      go_roundw
      case rel=>exact ⟨k+1,by omega,by go_num,HO6.out,HE6.out⟩
      case measure=>simp [intOf];omega
    · have d1:decide ((k:Int)<(ns.length:Int))=false:=by simp;omega
      obtain rfl:k=ns.length:=by omega
      rw [List.take_length] at ho
      have HM:=Lib.hid (mems_of_own ho rfl)
      clear ho hE
      go_wp2_with fail
      refine (new12_any ns ep u5 wr HM.out HN.out h1 h2).mono ?_
      rintro e W2 ⟨r,rfl,⟨vm,vo,os,rfl,hmm,hno,hrr⟩,hb2⟩
      obtain ⟨Am,cm,rfl,_⟩:=id hmm
      obtain ⟨Ao,co,rfl,_⟩:=id hno
      have hE2:Below w.heap.size w W2:=ext_call (ext_call HE0.out HE.out) hb2
      have hB2:Blk W2 w.heap.size 69 #[.int .i64 0,.slice none 0 0,.slice none 0 0]:=(HB0.out.ext HE.out).ext hb2
      obtain ⟨Z,hZ⟩:∃ Z,Z=W2.alloc (.cells #[.int .i64 ep,.slice Am ns.length cm,.slice Ao os.length co] 69):=⟨_,rfl⟩
      have hZe:Below W2.heap.size W2 Z:=by rw [hZ];exact ext_new _ _
      have hb6:Blk Z w.heap.size 69 #[.int .i64 0,.slice none 0 0,.slice none 0 0]:=hB2.ext hZe
      have hbz:Blk Z W2.heap.size 69 #[.int .i64 ep,.slice Am ns.length cm,.slice Ao os.length co]:=by rw [hZ];exact Blk.new _ _ _
      obtain ⟨x0,x1,x2⟩:=bcells3 hb6
      obtain ⟨z0,z1,z2⟩:=bcells3 hbz
      have g0:=hb6.frozen 0
      have g1:=hb6.frozen 1
      have g2:=hb6.frozen 2
      have HB6:=Lib.hid hb6
      have HR6:=Lib.hid (show (MemsAt Z (.slice Am ns.length cm) ns∧NumsAt Z (.slice Ao os.length co) os)∧os.length=64∧(∀ o ∈ os,o ∈ ns)∧∀ n,(os.count n:Int)≤limF ns.length from ⟨⟨hmm.ext hZe,hno.ext hZe⟩,hrr⟩)
      have HE6:=Lib.hid (ext_call hE2 hZe)
      have hlw:w.heap.size<W2.heap.size:=hB2.lt
      have HZ:=Lib.hid hZ
      clear hb6 hbz hE2 hB2 hmm hno hrr hb2 hZe hZ HM HE HB0 HX
      go_upto_region 7 with (fail)
      rw [← HZ.out]
      go_wp2
      have hk2:Ext2 w.heap.size w.heap.size Z (((Z.setCell ⟨w.heap.size,0,none⟩ (.int .i64 ep)).setCell ⟨w.heap.size,1,none⟩ (.slice Am ns.length cm)).setCell ⟨w.heap.size,2,none⟩ (.slice Ao os.length co)):=
        (((Ext2.of_ext (ext_refl Z)).setA 0 _).setA 1 _).setA 2 _
      have HB8:=Lib.hid (((HB6.out.set_ 0 (.int .i64 ep)).set_ 1 (.slice Am ns.length cm)).set_ 2 (.slice Ao os.length co))
      have HM8:=Lib.hid (HR6.out.1.1.ext2 hk2 HB6.out)
      have HN8:=Lib.hid (HR6.out.1.2.ext2 (by have:=HR6.out.2.1;omega) hk2 HB6.out)
      have HE8:=Lib.hid (Ext2.below HE6.out (Nat.le_refl _) (Nat.le_refl _) hk2)
      generalize ((Z.setCell ⟨w.heap.size,0,none⟩ (.int .i64 ep)).setCell ⟨w.heap.size,1,none⟩ (.slice Am ns.length cm)).setCell ⟨w.heap.size,2,none⟩ (.slice Ao os.length co)=W8 at *
      obtain ⟨y0,y1,y2⟩:=bcells3 (show Blk W8 w.heap.size 69 #[.int .i64 ep,.slice Am ns.length cm,.slice Ao os.length co] from HB8.out)
      refine bodyPost_ret (v:=.agg #[.int .i64 ep,.slice Am ns.length cm,.slice Ao os.length co]) (by simp [results,Tryz.results28,go_sem,y0,y1,y2]) rfl ⟨_,rfl,⟨_,_,os,rfl,HM8.out,HN8.out,HR6.out.2⟩,HE8.out⟩
def pickF (c n:Int):Int:=if c<0 then (-(c+1)) % n else c % n
theorem pick_any (c n:Int) (hn:0<n) (hn2:n≤1000) (hc : -9223372036854775808≤c) (hc2:c≤9223372036854775807) (w:World):Calls Tryz.prog 7 #[.int .i64 c,.int .i64 n] w fun e w'=>e=.returned (.int .i64 (pickF c n))∧w=w':=by
  by_cases h0:c<0
  · have e1:IntKind.i64.wrap (c+1)=c+1:=IntWalk.i64_in _ (by omega)
    have e2:IntKind.i64.wrap (-(c+1)) = -(c+1):=IntWalk.i64_in _ (by omega)
    have hm:0≤(-(c+1)) % n∧(-(c+1)) % n<n:=⟨Int.emod_nonneg _ (by omega),Int.emod_lt_of_pos _ hn⟩
    have HP:=Lib.hid (show pickF c n=(-(c+1)) % n by unfold pickF;rw [if_pos h0])
    have hp0:(0:Int) ≤ -(c+1):=by omega
    go_enter Tryz.func7,Tryz.ntmps7
    go_wp2
    go_ret
    exact ⟨by rw [HP.out];show Ending.returned (Value.int .i64 (-(c+1).tmod n))=_;rw [← Int.neg_tmod,Int.tmod_eq_emod_of_nonneg hp0],rfl⟩
  · have HP:=Lib.hid (show pickF c n=c % n by unfold pickF;rw [if_neg h0])
    have hm:0≤c % n∧c % n<n:=⟨Int.emod_nonneg _ (by omega),Int.emod_lt_of_pos _ hn⟩
    go_enter Tryz.func7,Tryz.ntmps7
    go_wp2
    go_ret
    exact ⟨by rw [HP.out];rfl,rfl⟩
end
section
open Go.RowKit Go.Shelf
structure Srv0 (W:World) (B gs gl gst gm gp gn:Nat):Prop where
  cells:Blk W gs 140 #[.pointer (some ⟨gl,0,none⟩),.pointer (some ⟨gst,0,none⟩),.slice (some ⟨gp,0,none⟩) 1 1,.int .i64 0,.int .i64 0,.slice none 0 0,.slice none 0 0,.map (some gn),.int .i64 0]
  state:StateIs W false gst gm 0
  log:Log0 W gl zeros32 (stateF false)
  past:Blk W gp 3 #[.int .i64 0]
  nodes:MapI W gn []
  new:B≤gs∧B≤gl∧B≤gst∧B≤gm∧B≤gp∧B≤gn
end
section
open Go.RowKit Go.Shelf
end
section
open Go.RowKit Go.Shelf
theorem cloneMems (ns:List Nat) (v:Value) (w:World) (hv:MemsAt w v ns) (h0:0<ns.length) (h1:ns.length≤24):Calls Tryz.prog 112 #[v] w fun e w'=>
    ∃ A n c,e=.returned (.slice A n c)∧MemsAt w' (.slice A n c) ns∧Below w.heap.size w w':=by
  obtain ⟨n0,hn0⟩:∃ n0,ns[0]? = some n0:=⟨_,List.getElem?_eq_getElem h0⟩
  obtain ⟨b,off,c,hA,hc,_⟩:=hv.at_ hn0
  subst hA
  have HV:=Lib.hid hv
  obtain ⟨is,his,hzs0,hzs1,hzs2⟩:=info_parts mem_info
  have hsn:=fun W:World=>Lib.run_eql_slice_nil (P:=Tryz.prog) W 66 145 (some ⟨b,off,none⟩) ns.length c 0 0 Tryz.underlying66
  have HOE:=Lib.hid (show (w.alloc (.cells #[] 145)).ownsRow w.heap.size 145 3 (.slice (some ⟨w.heap.size,0,none⟩) 0 0) 0 [] from
    ⟨rfl,.inr ⟨w.heap.size,0,#[],rfl,Nat.le_refl _,World.alloc_heap_new w _,Nat.le_refl _,Nat.zero_le _,rfl,rfl⟩⟩)
  have HNW:=Lib.hid (show ∀ (i:Nat) (u:Value),(mc ns)[i]? = some u→(w.alloc (.cells #[] 145)).cell? ((⟨b,off,none⟩:Addr).add i)=some u from fun i u hu=>by
    rw [Addr.add_mid]
    exact (HV.out.ext (ext_new w _)).cells i u hu)
  have hml:=mc_length ns
  clear hv hn0
  go_enter Tryz.func112,Tryz.ntmps112
  go_wp2_with (at_builtin;refine wpList_append_own _ rfl (.tmp 5) (.tmp 6) 66 rfl w.heap.size 145 is (.agg #[.int .i64 0,.int .i64 0,.int .i64 0]) 3 24 Tryz.underlying66 his hzs0 hzs1 hzs2 rfl (by decide) (.slice (some ⟨w.heap.size,0,none⟩) 0 0) 0 [] rfl HOE.out ⟨b,off,none⟩ ns.length c (mc ns) rfl hml HNW.out (mc_one ns) ?_ ?_ ?_ ?_;(unfold maxLen;omega);omega;(rw [World.size_alloc];omega);intro v6 W6 ho6 hg6 _;obtain ⟨A7,c7,h7⟩:=own_shape ho6;subst h7;have HO6:=Lib.hid ho6;have HG6:=Lib.hid hg6;clear hg6 ho6)
  go_ret
  have ho:=HO6.out
  rw [Nat.zero_add,List.nil_append] at ho
  have HBW:Below w.heap.size w W6:=(ext_new w (.cells #[] 145)).grown HG6.out (ext_new w (.cells #[] 145)).size (fun k e=>by have e2:w.heap.size=k:=Option.some.inj e;omega)
  exact ⟨A7,ns.length,c7,by simp,mems_of_own ho rfl,HBW⟩
theorem NumsAt.cells {w:World} {b off c:Nat} {os:List Nat} (h:NumsAt w (.slice (some ⟨b,off,none⟩) os.length c) os):∀ (i:Nat) (u:Value),(os.map fun n:Nat=>Value.int .i64 (n:Int))[i]? = some u→w.cell? ⟨b,off+i,none⟩=some u:=by
  intro i u hu
  rw [List.getElem?_map,Option.map_eq_some_iff] at hu
  obtain ⟨n,hn,rfl⟩:=hu
  obtain ⟨b',off',c',hv,_,h1⟩:=h.at_ hn
  injection hv with hv _ _
  injection hv with hv
  injection hv with hb ho _
  subst hb;subst ho
  exact h1
theorem nums_of_own {w:World} {B n:Nat} {v:Value} {os:List Nat} (h:w.ownsRow B 3 1 v n (os.map fun n:Nat=>Value.int .i64 (n:Int))) (hn:n=os.length):NumsAt w v os:=by
  subst hn
  obtain ⟨A,c,rfl⟩:=own_shape h
  refine ⟨A,c,rfl,?_,fun h0=>?_⟩
  · rcases h.2 with ⟨he,h0⟩|⟨g,cap,cur,he,_,_,hle,_⟩
    · omega
    · injection he with _ _ hc
      omega
  · obtain ⟨g,c',hv,_,_⟩:=h.form h0
    injection hv with hv _ hc
    subst hv;subst hc
    refine ⟨g,0,rfl,fun j n hn=>?_⟩
    have:=ownsRow_cells' h j (.int .i64 (n:Int)) (by rw [List.getElem?_map,hn];rfl)
    rwa [Nat.zero_add]
theorem cloneNums (os:List Nat) (v:Value) (w:World) (hv:NumsAt w v os) (h0:0<os.length) (h1:os.length≤1000):Calls Tryz.prog 113 #[v] w fun e w'=>
    ∃ A n c,e=.returned (.slice A n c)∧NumsAt w' (.slice A n c) os∧Below w.heap.size w w':=by
  obtain ⟨n0,hn0⟩:∃ n0,os[0]? = some n0:=⟨_,List.getElem?_eq_getElem h0⟩
  obtain ⟨b,off,c,hA,hc,_⟩:=hv.at_ hn0
  subst hA
  have HV:=Lib.hid hv
  obtain ⟨is,his,hzs0,hzs1,hzs2⟩:=info_parts int_info
  have hsn:=fun W:World=>Lib.run_eql_slice_nil (P:=Tryz.prog) W 67 3 (some ⟨b,off,none⟩) os.length c 0 0 Tryz.underlying67
  have HOE:=Lib.hid (show (w.alloc (.cells #[] 3)).ownsRow w.heap.size 3 1 (.slice (some ⟨w.heap.size,0,none⟩) 0 0) 0 [] from
    ⟨rfl,.inr ⟨w.heap.size,0,#[],rfl,Nat.le_refl _,World.alloc_heap_new w _,Nat.le_refl _,Nat.zero_le _,rfl,rfl⟩⟩)
  have HNW:=Lib.hid (show ∀ (i:Nat) (u:Value),(os.map fun n:Nat=>Value.int .i64 (n:Int))[i]? = some u→(w.alloc (.cells #[] 3)).cell? ((⟨b,off,none⟩:Addr).add i)=some u from fun i u hu=>by
    rw [Addr.add_mid]
    exact (HV.out.ext (ext_new w _)).cells i u hu)
  have hone:∀ u ∈ (os.map fun n:Nat=>Value.int .i64 (n:Int)),u.oneCell'=true:=fun u hu=>by
    obtain ⟨n,_,rfl⟩:=List.mem_map.1 hu
    rfl
  have HON:=Lib.hid hone
  have hml:(os.map fun n:Nat=>Value.int .i64 (n:Int)).length=os.length*1:=by simp
  have HML:=Lib.hid hml
  clear hv hn0 hone hml
  go_enter Tryz.func113,Tryz.ntmps113
  go_wp2_with (at_builtin;refine wpList_append_own _ rfl (.tmp 5) (.tmp 6) 67 rfl w.heap.size 3 is (.int .i64 0) 1 8 Tryz.underlying67 his hzs0 hzs1 hzs2 rfl (by decide) (.slice (some ⟨w.heap.size,0,none⟩) 0 0) 0 [] rfl HOE.out ⟨b,off,none⟩ os.length c (os.map fun n:Nat=>Value.int .i64 (n:Int)) rfl HML.out HNW.out HON.out ?_ ?_ ?_ ?_;(unfold maxLen;omega);omega;(rw [World.size_alloc];omega);intro v6 W6 ho6 hg6 _;obtain ⟨A7,c7,h7⟩:=own_shape ho6;subst h7;have HO6:=Lib.hid ho6;have HG6:=Lib.hid hg6;clear hg6 ho6)
  go_ret
  have ho:=HO6.out
  rw [Nat.zero_add,List.nil_append] at ho
  have HBW:Below w.heap.size w W6:=(ext_new w (.cells #[] 3)).grown HG6.out (ext_new w (.cells #[] 3)).size (fun k e=>by have e2:w.heap.size=k:=Option.some.inj e;omega)
  exact ⟨A7,os.length,c7,by simp,nums_of_own ho rfl,HBW⟩
end
section
open Go.RowKit Go.Shelf
theorem ownRing_any (ns os:List Nat) (ep:Int) (vm vo:Value) (w:World) (hm:MemsAt w vm ns) (hn:NodesOK ns) (ho:NumsAt w vo os) (hl:os.length=64) :
    Calls Tryz.prog 67 #[.agg #[.int .i64 ep,vm,vo]] w fun e w'=>∃ A n c B m d,e=.returned (.agg #[.int .i64 ep,.slice A n c,.slice B m d])∧MemsAt w' (.slice A n c) ns∧NumsAt w' (.slice B m d) os∧Below w.heap.size w w':=by
  obtain ⟨X,hX⟩:∃ X,X=(w.alloc (.cells #[.int .i64 ep,vm,vo] 69)).alloc (.cells #[.int .i64 0,.slice none 0 0,.slice none 0 0] 69):=⟨_,rfl⟩
  have HX:=Lib.hid hX
  have HEX:=Lib.hid (show Below w.heap.size w X by rw [hX];exact ext_alloc (ext_new _ _) _)
  have HB:=Lib.hid (show Blk X w.heap.size 69 #[.int .i64 ep,vm,vo] by rw [hX];exact (Blk.new _ _ _).alloc _)
  have HR:=Lib.hid (show Blk X (w.heap.size+1) 69 #[.int .i64 0,.slice none 0 0,.slice none 0 0] by rw [hX];exact Blk.new' _ _ _ (by simp))
  have HC1:=Lib.hid (fun W (k:Below X.heap.size X W)=>cloneMems ns vm W ((hm.ext HEX.out).ext k) hn.some_ hn.few)
  have HC2:=Lib.hid (fun W (k:Below X.heap.size X W)=>cloneNums os vo W ((ho.ext HEX.out).ext k) (by omega) (by omega))
  have HL:=Lib.hid hl
  obtain ⟨Am,cm,rfl,_⟩:=id hm
  obtain ⟨Ao,co,rfl,_⟩:=id ho
  clear hX hm ho hn hl
  obtain ⟨c0,c1,c2⟩:=bcells3 HB.out
  go_enter Tryz.func67,Tryz.ntmps67
  go_upto_region 1 with (fail)
  rw [← HX.out]
  refine wp_region_noPanic ?_
  go_region_law (first
    | (go_simp;go_at_call 112;(refine (HC1.out _ (by first|exact ext_refl X|exact (ext_refl X).drew)).mono ?_);rintro e W1 ⟨A1,n1,k1,rfl,hm1,hb1⟩;have hE1:Below X.heap.size X W1:=ext_call (by first|exact ext_refl X|exact (ext_refl X).drew) hb1;obtain ⟨d0,d1,d2⟩:=bcells3 (HB.out.ext hE1))
    | (go_simp;go_at_call 113;(refine (HC2.out _ hE1).mono ?_);rintro e W2 ⟨A2,n2,k2,rfl,hm2,hb2⟩;have hE2:Below X.heap.size X W2:=ext_call hE1 hb2;obtain ⟨e0,e1,e2⟩:=bcells3 (HB.out.ext hE2);obtain ⟨x0,x1,x2⟩:=bcells3 (HR.out.ext hE2);have g0:=(HR.out.ext hE2).frozen 0;have g1:=(HR.out.ext hE2).frozen 1;have g2:=(HR.out.ext hE2).frozen 2))
  all_goals
    refine NoPanic.normal ?_
    have hr2:=HR.out.ext hE2
    have hk2:Ext2 (w.heap.size+1) (w.heap.size+1) W2 (((W2.setCell ⟨w.heap.size+1,0,none⟩ (.int .i64 ep)).setCell ⟨w.heap.size+1,1,none⟩ (.slice A1 n1 k1)).setCell ⟨w.heap.size+1,2,none⟩ (.slice A2 n2 k2)):=
      (((Ext2.of_ext (ext_refl W2)).setA 0 _).setA 1 _).setA 2 _
    have HM8:=Lib.hid ((hm1.ext hb2).ext2 hk2 hr2)
    have HN8:=Lib.hid (hm2.ext2 (by have:=HL.out;omega) hk2 hr2)
    have HE8:=Lib.hid (Ext2.below (ext_call HEX.out hE2) (by omega) (by omega) hk2)
    have HB8:=Lib.hid (((hr2.set_ 0 (.int .i64 ep)).set_ 1 (.slice A1 n1 k1)).set_ 2 (.slice A2 n2 k2))
    clear hk2 hr2
    go_wp2
    generalize ((W2.setCell ⟨w.heap.size+1,0,none⟩ (.int .i64 ep)).setCell ⟨w.heap.size+1,1,none⟩ (.slice A1 n1 k1)).setCell ⟨w.heap.size+1,2,none⟩ (.slice A2 n2 k2)=W8 at *
    obtain ⟨y0,y1,y2⟩:=bcells3 (show Blk W8 (w.heap.size+1) 69 #[.int .i64 ep,.slice A1 n1 k1,.slice A2 n2 k2] from HB8.out)
    exact bodyPost_ret (v:=.agg #[.int .i64 ep,.slice A1 n1 k1,.slice A2 n2 k2]) (by simp [results,Tryz.results67,go_sem,y0,y1,y2]) rfl ⟨_,_,_,_,_,_,rfl,HM8.out,HN8.out,HE8.out⟩
end
section
open Go.RowKit Go.Shelf
attribute [local go_sem ↓] Go.wp_at_zero Go.wp_at_succ
theorem validChangeNo (w:World):Calls Tryz.prog 131 #[.agg #[.int .i64 0,.int .i64 5,.bool true,.int .i64 1,.int .i64 2,.int .i64 3,.bool true,.int .i64 1,.int .i64 2,.int .i64 3]] w fun e w'=>e=.returned (.bool false)∧Below w.heap.size w w':=by
  have heq:∀ W:World,(Op.equalIn 10000 60 (.agg #[.int .i64 1,.int .i64 2,.int .i64 3]) (.agg #[.int .i64 1,.int .i64 2,.int .i64 3])).run Tryz.prog W=.ok true W:=fun _=>by kernel_rfl
  go_enter Tryz.func131,Tryz.ntmps131
  go_wp2
  go_ret
  exact ⟨rfl,ext_new _ _⟩
theorem validRecordNo (w:World) (b c:Nat) (hB:HeadB w b #[.int .i64 0,.int .i64 5,.bool true,.int .i64 1,.int .i64 2,.int .i64 3,.bool true,.int .i64 1,.int .i64 2,.int .i64 3]):Calls Tryz.prog 80 #[.agg #[.int .i64 2,.slice (some ⟨b,0,none⟩) 1 c]] w fun e w'=>e=.returned (.bool false)∧Below w.heap.size w w':=by
  have I1:=Lib.hid (show inF 1 10000 [2]=true by simp [inF])
  have I2:=Lib.hid (show inF 1 8 [1]=true by simp [inF])
  have HB0:=Lib.hid (Blk.new w 43 #[.int .i64 2,.slice (some ⟨b,0,none⟩) 1 c])
  have HC0:=Lib.hid hB
  clear hB
  go_enter Tryz.func80,Tryz.ntmps80
  go_wp2_with fail
  refine (within_yes (w.heap.size+1) 0 1 [2] 1 10000 _ (.of_blk (Blk.new' _ _ _ (by simp)) 0 [2] rfl) (by simp) (by simp) I1.out).mono ?_
  rintro e W1 ⟨rfl,hb1⟩
  have hB1:=(HB0.out.alloc _).ext hb1
  have c1:=hB1.cell 1
  have HB1:=Lib.hid hB1
  have HC1:=Lib.hid (((HC0.out.alloc _).alloc _).ext hb1)
  have HL1:=Lib.hid (ext_call (ext_alloc (ext_new w _) _) hb1)
  clear hb1 hB1
  go_wp2_with fail
  refine (within_yes W1.heap.size 0 1 [1] 1 8 _ (.of_blk (Blk.new _ _ _) 0 [1] rfl) (by simp) (by simp) I2.out).mono ?_
  rintro e W2 ⟨rfl,hb2⟩
  have hB2:=(HB1.out.alloc _).ext hb2
  have c1:=hB2.cell 1
  have l1:=hB2.lt
  have hC2:=(HC1.out.alloc _).ext hb2
  have e0:=hC2.cell 0;have e1:=hC2.cell 1;have e2:=hC2.cell 2;have e3:=hC2.cell 3;have e4:=hC2.cell 4;have e5:=hC2.cell 5;have e6:=hC2.cell 6;have e7:=hC2.cell 7;have e8:=hC2.cell 8;have e9:=hC2.cell 9
  have l2:=hC2.lt
  have HL2:=Lib.hid (ext_call (ext_alloc HL1.out _) hb2)
  clear hb2 hB2 hC2
  go_wp2
  refine wp_loop_rounds 2 ?_
  rw [rounds_succ]
  go_wp2_with fail
  refine (validChangeNo _).mono ?_
  rintro e W3 ⟨rfl,hb3⟩
  have HL3:=Lib.hid (ext_call (ext_alloc (ext_alloc HL2.out _) _) hb3)
  clear hb3 e0 e1 e2 e3 e4 e5 e6 e7 e8 e9 c1
  go_wp2
  go_ret
  exact ⟨rfl,HL3.out⟩
theorem keep2B {X W:World} {p q:Addr} {x y:Value} (h:X.cell? p=some x∧X.cell? q=some y) (k:Below X.heap.size X W):W.cell? p=some x∧W.cell? q=some y∧Below X.heap.size X W:=⟨cell_ext h.1 k,cell_ext h.2 k,k⟩
theorem keep2E {X W:World} {p q:Addr} {x y:Value} (h:W.cell? p=some x∧W.cell? q=some y∧Below X.heap.size X W):Below X.heap.size X W:=h.2.2
theorem fitsNo (w:World) (b c gs:Nat) (hB:HeadB w b #[.int .i64 0,.int .i64 5,.bool true,.int .i64 1,.int .i64 2,.int .i64 3,.bool true,.int .i64 1,.int .i64 2,.int .i64 3]):Calls Tryz.prog 43 #[.pointer (some ⟨gs,0,none⟩),.agg #[.int .i64 2,.slice (some ⟨b,0,none⟩) 1 c]] w fun e w'=>e=.returned (.bool false)∧Below w.heap.size w w':=by
  obtain ⟨X,hX⟩:∃ X,X=w.alloc (.cells #[.int .i64 2,.slice (some ⟨b,0,none⟩) 1 c] 43):=⟨_,rfl⟩
  have HX:=Lib.hid hX
  have HE:=Lib.hid (show Below w.heap.size w X by rw [hX];exact ext_new _ _)
  have HR:=Lib.hid (show Blk X w.heap.size 43 #[.int .i64 2,.slice (some ⟨b,0,none⟩) 1 c] by rw [hX];exact Blk.new _ _ _)
  have HV:=Lib.hid (fun (W:World) (k:Below w.heap.size w W)=>validRecordNo W b c (hB.ext k))
  clear hX hB
  have a0:=HR.out.cell 0
  have a1:=HR.out.cell 1
  have HK:=Lib.hid (And.intro a0 a1)
  go_enter Tryz.func43,Tryz.ntmps43
  go_upto_region 1 with (fail)
  rw [← HX.out]
  refine wp_region_held_drew (S:=fun w'=>w'.cell? ⟨w.heap.size,0,none⟩=some (.int .i64 2)∧w'.cell? ⟨w.heap.size,1,none⟩=some (.slice (some ⟨b,0,none⟩) 1 c)∧Below X.heap.size X w') (by kernel_rfl) (keep2B HK.out (ext_refl X).drew) (fun hHeld=>?_)
  refine wpAnyH_take (i:=0) (v:=?_) rfl (by kernel_rfl) (by kernel_rfl) (by kernel_rfl) (fun _ _ _ h=>h) (Or.inl ⟨by rfl,?_⟩) (by assumption) ?_
  rotate_left 1
  · (rintro w' ⟨f0,f1,_⟩;go_simp;try with_reducible rfl)
  try simp only [Act.put,List.getElem_toArray,List.getElem_cons_succ,List.getElem_cons_zero,List.setIfInBounds_toArray,List.set_cons_zero,List.set_cons_succ]
  refine wpAnyH_ready (rs:=[1]) (by kernel_rfl) (by simp) ?_
  refine AllReadyH.cons rfl (fun K hK=>?_) AllReadyH.nil
  go_simp
  with_reducible refine (HV.out _ ?_).mono ?_
  · exact HE.out.drew
  rintro e W1 ⟨rfl,hb'⟩
  have hE1:Below X.heap.size X W1:=ext_call (ext_refl X).drew hb'
  refine hK.out _ _ (keep2B HK.out hE1) (fun hHeld=>?_)
  clear hK K
  try simp only [Act.put,List.getElem_toArray,List.getElem_cons_succ,List.getElem_cons_zero,List.setIfInBounds_toArray,List.set_cons_zero,List.set_cons_succ]
  refine wpAnyH_take (i:=2) (v:=?_) rfl (by kernel_rfl) (by kernel_rfl) (by kernel_rfl) (fun _ _ _ h=>h) (Or.inl ⟨by rfl,?_⟩) (by assumption) ?_
  rotate_left 1
  · (rintro w' ⟨f0,f1,_⟩;go_simp;try with_reducible rfl)
  try simp only [Act.put,List.getElem_toArray,List.getElem_cons_succ,List.getElem_cons_zero,List.setIfInBounds_toArray,List.set_cons_zero,List.set_cons_succ]
  refine wpAnyH_take (i:=3) (v:=?_) rfl (by kernel_rfl) (by kernel_rfl) (by kernel_rfl) (fun _ _ _ h=>h) (Or.inl ⟨by rfl,?_⟩) (by assumption) ?_
  rotate_left 1
  · (rintro w' ⟨f0,f1,_⟩;go_simp;try with_reducible rfl)
  try simp only [Act.put,List.getElem_toArray,List.getElem_cons_succ,List.getElem_cons_zero,List.setIfInBounds_toArray,List.set_cons_zero,List.set_cons_succ]
  refine wpAnyH_take (i:=4) (v:=undef) rfl (by kernel_rfl) (by kernel_rfl) (by kernel_rfl) (fun _ _ _ h=>h) (Or.inr ⟨by rfl,rfl⟩) (by assumption) ?_
  try simp only [Act.put,List.getElem_toArray,List.getElem_cons_succ,List.getElem_cons_zero,List.setIfInBounds_toArray,List.set_cons_zero,List.set_cons_succ]
  refine wpAnyH_take (i:=5) (v:=undef) rfl (by kernel_rfl) (by kernel_rfl) (by kernel_rfl) (fun _ _ _ h=>h) (Or.inr ⟨by rfl,rfl⟩) (by assumption) ?_
  try simp only [Act.put,List.getElem_toArray,List.getElem_cons_succ,List.getElem_cons_zero,List.setIfInBounds_toArray,List.set_cons_zero,List.set_cons_succ]
  refine wpAnyH_take (i:=6) (v:=undef) rfl (by kernel_rfl) (by kernel_rfl) (by kernel_rfl) (fun _ _ _ h=>h) (Or.inr ⟨by rfl,rfl⟩) (by assumption) ?_
  try simp only [Act.put,List.getElem_toArray,List.getElem_cons_succ,List.getElem_cons_zero,List.setIfInBounds_toArray,List.set_cons_zero,List.set_cons_succ]
  refine wpAnyH_take (i:=7) (v:=undef) rfl (by kernel_rfl) (by kernel_rfl) (by kernel_rfl) (fun _ _ _ h=>h) (Or.inr ⟨by rfl,rfl⟩) (by assumption) ?_
  try simp only [Act.put,List.getElem_toArray,List.getElem_cons_succ,List.getElem_cons_zero,List.setIfInBounds_toArray,List.set_cons_zero,List.set_cons_succ]
  refine wpAnyH_take (i:=8) (v:=undef) rfl (by kernel_rfl) (by kernel_rfl) (by kernel_rfl) (fun _ _ _ h=>h) (Or.inr ⟨by rfl,rfl⟩) (by assumption) ?_
  try simp only [Act.put,List.getElem_toArray,List.getElem_cons_succ,List.getElem_cons_zero,List.setIfInBounds_toArray,List.set_cons_zero,List.set_cons_succ]
  refine wpAnyH_take (i:=9) (v:=undef) rfl (by kernel_rfl) (by kernel_rfl) (by kernel_rfl) (fun _ _ _ h=>h) (Or.inr ⟨by rfl,rfl⟩) (by assumption) ?_
  try simp only [Act.put,List.getElem_toArray,List.getElem_cons_succ,List.getElem_cons_zero,List.setIfInBounds_toArray,List.set_cons_zero,List.set_cons_succ]
  refine wpAnyH_take (i:=10) (v:=undef) rfl (by kernel_rfl) (by kernel_rfl) (by kernel_rfl) (fun _ _ _ h=>h) (Or.inr ⟨by rfl,rfl⟩) (by assumption) ?_
  try simp only [Act.put,List.getElem_toArray,List.getElem_cons_succ,List.getElem_cons_zero,List.setIfInBounds_toArray,List.set_cons_zero,List.set_cons_succ]
  refine wpAnyH_take (i:=11) (v:=undef) rfl (by kernel_rfl) (by kernel_rfl) (by kernel_rfl) (fun _ _ _ h=>h) (Or.inr ⟨by rfl,rfl⟩) (by assumption) ?_
  try simp only [Act.put,List.getElem_toArray,List.getElem_cons_succ,List.getElem_cons_zero,List.setIfInBounds_toArray,List.set_cons_zero,List.set_cons_succ]
  refine wpAnyH_take (i:=12) (v:=undef) rfl (by kernel_rfl) (by kernel_rfl) (by kernel_rfl) (fun _ _ _ h=>h) (Or.inr ⟨by rfl,rfl⟩) (by assumption) ?_
  try simp only [Act.put,List.getElem_toArray,List.getElem_cons_succ,List.getElem_cons_zero,List.setIfInBounds_toArray,List.set_cons_zero,List.set_cons_succ]
  refine wpAnyH_take (i:=13) (v:=?_) rfl (by kernel_rfl) (by kernel_rfl) (by kernel_rfl) (fun _ _ _ h=>h) (Or.inl ⟨by rfl,?_⟩) (by assumption) ?_
  rotate_left 1
  · (rintro w' ⟨f0,f1,_⟩;go_simp;try with_reducible rfl)
  try simp only [Act.put,List.getElem_toArray,List.getElem_cons_succ,List.getElem_cons_zero,List.setIfInBounds_toArray,List.set_cons_zero,List.set_cons_succ]
  refine wpAnyH_done (by kernel_rfl) ?_ _
  go_wp2
  go_ret
  exact ⟨rfl,ext_call HE.out hE1⟩
theorem applyNo (w:World) (b c gs:Nat) (hB:HeadB w b #[.int .i64 0,.int .i64 5,.bool true,.int .i64 1,.int .i64 2,.int .i64 3,.bool true,.int .i64 1,.int .i64 2,.int .i64 3]):Calls Tryz.prog 13 #[.pointer (some ⟨gs,0,none⟩),.agg #[.int .i64 2,.slice (some ⟨b,0,none⟩) 1 c]] w fun e w'=>e=.returned (.int .i64 40)∧Below w.heap.size w w':=by
  have HE:=Lib.hid (ext_new w (.cells #[.int .i64 2,.slice (some ⟨b,0,none⟩) 1 c] 43))
  have HF:=Lib.hid (fitsNo _ b c gs (hB.ext HE.out))
  clear hB
  go_enter Tryz.func13,Tryz.ntmps13
  go_wp2_with fail
  refine HF.out.mono ?_
  rintro e W1 ⟨rfl,hb1⟩
  have HE1:=Lib.hid (ext_call HE.out hb1)
  clear hb1
  go_wp2
  go_ret
  exact ⟨rfl,HE1.out⟩
end
section
open Go.RowKit Go.Shelf
structure ExtS (S:Nat→Prop) (w w':World):Prop where
  os:w'.os=w.os
  tape:w'.tape=w.tape
  output:w'.output=w.output
  size:w.heap.size≤w'.heap.size
  block:∀ k,k<w.heap.size→¬ S k→w'.heap[k]? = w.heap[k]?
section
variable {S T:Nat→Prop} {w w' w'':World}
theorem ExtS.of_ext (h:Below w.heap.size w w'):ExtS S w w':=⟨h.os,h.tape,h.output,h.size,fun k hk _=>h.block k hk⟩
theorem ExtS.of_ext2 {a b:Nat} (h:Ext2 a b w w') (ha:S a) (hb:S b):ExtS S w w':=⟨h.os,h.tape,h.output,h.size,fun k hk hn=>h.block k hk (fun e=>hn (e ▸ ha)) (fun e=>hn (e ▸ hb))⟩
theorem ExtS.trans (h:ExtS S w w') (k:ExtS S w' w''):ExtS S w w'':=⟨k.os.trans h.os,k.tape.trans h.tape,k.output.trans h.output,Nat.le_trans h.size k.size,fun i hi hn=>(k.block i (Nat.lt_of_lt_of_le hi h.size) hn).trans (h.block i hi hn)⟩
theorem ExtS.mono (h:ExtS S w w') (hS:∀ k,S k→T k):ExtS T w w':=⟨h.os,h.tape,h.output,h.size,fun k hk hn=>h.block k hk (fun e=>hn (hS k e))⟩
theorem ExtS.blk {g:Nat} {t:TypeId} {cs:Array Value} (h:Blk w g t cs) (k:ExtS S w w') (hn:¬ S g):Blk w' g t cs:=(k.block g h.lt hn).trans h
theorem ExtS.cell {p:Addr} {v:Value} (h:w.cell? p=some v) (k:ExtS S w w') (hn:¬ S p.block):w'.cell? p=some v:=(World.cell?_of_block (k.block p.block (lt_of_cell h) hn)).trans h
theorem ExtS.headB {g:Nat} {cs:Array Value} (h:HeadB w g cs) (k:ExtS S w w') (hn:¬ S g):HeadB w' g cs:=⟨Nat.lt_of_lt_of_le h.lt k.size,fun i hi=>(World.cell?_of_block (k.block g h.lt hn)).trans (h.cells i hi)⟩
theorem ExtS.below {w0:World} (h:Below w0.heap.size w0 w) (hS:∀ k,S k→w0.heap.size≤k) (k:ExtS S w w'):Below w0.heap.size w0 w':=
  ⟨k.os.trans h.os,k.tape.trans h.tape,k.output.trans h.output,Nat.le_trans h.size k.size,fun i hi=>(k.block i (Nat.lt_of_lt_of_le hi h.size) (fun e=>absurd (hS i e) (by omega))).trans (h.block i hi)⟩
end
theorem blkNe {W:World} {a b:Nat} {t u:TypeId} {xs ys:Array Value} (h:Blk W a t xs) (k:Blk W b u ys) (hne:t≠u):a≠b:=by
  rintro rfl
  unfold Blk at h k
  rw [h] at k
  injection k with k
  injection k with _ k
  exact hne k
theorem blkNeMap {W:World} {a g c:Nat} {t:TypeId} {xs:Array Value} {es:Array MapEntry} (h:Blk W a t xs) (k:MapAt W g es c):a≠g:=by
  rintro rfl
  unfold Blk at h
  unfold MapAt at k
  rw [h] at k
  cases k
theorem cellNeMap {W:World} {p:Addr} {v:Value} {g c:Nat} {es:Array MapEntry} (h:W.cell? p=some v) (k:MapAt W g es c):p.block≠g:=by
  intro e
  obtain ⟨o,ho,hc⟩:=cells_of_cell h
  rw [e] at ho
  unfold MapAt at k
  rw [k] at ho
  cases ho
  cases hc
theorem filled0 (gs gl gst gm b c cl:Nat) (A:Option Addr) (v:Value) (w:World) (h0:w.cell? ⟨gs,0,none⟩=some (.pointer (some ⟨gl,0,none⟩))) (h1:w.cell? ⟨gs,1,none⟩=some (.pointer (some ⟨gst,0,none⟩)))
    (hl:Blk w gl 115 #[.slice A 0 cl,v]) (hB:HeadB w b #[.int .i64 0,.int .i64 5,.bool false,.int .i64 0,.int .i64 0,.int .i64 0,.bool true,.int .i64 1,.int .i64 2,.int .i64 3]) (hS:StateIs w false gst gm 0) :
    Calls Tryz.prog 65 #[.pointer (some ⟨gs,0,none⟩),.slice (some ⟨b,0,none⟩) 1 c] w fun e w'=>∃ g d,e=.returned (.agg #[.int .i64 1,.slice (some ⟨g,0,none⟩) 1 d])∧HeadB w' g #[.int .i64 0,.int .i64 5,.bool false,.int .i64 0,.int .i64 0,.int .i64 0,.bool true,.int .i64 1,.int .i64 2,.int .i64 3]∧Below w.heap.size w w':=
  (filled_any false 0 0 0 0 0 gs gl gst b c 0 cl A v (by omega) w h0 h1 hl hB (fun W k=>getNone gst gm 0 W (hS.ext k))).mono fun _ _ ⟨g,d,zs,h1,h2,h3⟩=>⟨g,d,h1,.of2 h2,h3⟩
theorem filled1 (gs gl gst gm b c cl:Nat) (A:Option Addr) (v:Value) (w:World) (h0:w.cell? ⟨gs,0,none⟩=some (.pointer (some ⟨gl,0,none⟩))) (h1:w.cell? ⟨gs,1,none⟩=some (.pointer (some ⟨gst,0,none⟩)))
    (hl:Blk w gl 115 #[.slice A 1 cl,v]) (hB:HeadB w b #[.int .i64 0,.int .i64 5,.bool false,.int .i64 0,.int .i64 0,.int .i64 0,.bool true,.int .i64 1,.int .i64 2,.int .i64 3]) (hS:StateIs w true gst gm 1) :
    Calls Tryz.prog 65 #[.pointer (some ⟨gs,0,none⟩),.slice (some ⟨b,0,none⟩) 1 c] w fun e w'=>∃ g d,e=.returned (.agg #[.int .i64 2,.slice (some ⟨g,0,none⟩) 1 d])∧HeadB w' g #[.int .i64 0,.int .i64 5,.bool true,.int .i64 1,.int .i64 2,.int .i64 3,.bool true,.int .i64 1,.int .i64 2,.int .i64 3]∧Below w.heap.size w w':=
  (filled_any true 0 5 1 2 3 gs gl gst b c 1 cl A v (by omega) w h0 h1 hl hB (fun W k=>getOne gst gm 1 W (hS.ext k))).mono fun _ _ ⟨g,d,zs,h1,h2,h3⟩=>⟨g,d,h1,.of2 h2,h3⟩
theorem commit2 (gs gl gst gm b c cl:Nat) (A:Option Addr) (v:Value) (w:World) (h0:w.cell? ⟨gs,0,none⟩=some (.pointer (some ⟨gl,0,none⟩))) (h1:w.cell? ⟨gs,1,none⟩=some (.pointer (some ⟨gst,0,none⟩)))
    (hl:Blk w gl 115 #[.slice A 1 cl,v]) (hB:HeadB w b #[.int .i64 0,.int .i64 5,.bool false,.int .i64 0,.int .i64 0,.int .i64 0,.bool true,.int .i64 1,.int .i64 2,.int .i64 3]) (hS:StateIs w true gst gm 1) :
    Calls Tryz.prog 26 #[.pointer (some ⟨gs,0,none⟩),.slice (some ⟨b,0,none⟩) 1 c] w fun e w'=>e=.returned (.tuple #[.int .i64 0,.int .i64 270])∧Below w.heap.size w w':=by
  have HF:=Lib.hid (filled1 gs gl gst gm b c cl A v w h0 h1 hl hB hS)
  have H1:=Lib.hid h1
  clear h0 h1 hl hB hS
  go_enter Tryz.func26,Tryz.ntmps26
  go_wp2_with fail
  refine HF.out.mono ?_
  rintro e W1 ⟨g,d,rfl,hg,hb1⟩
  go_wp2
  obtain ⟨X,hX⟩:∃ X,X=W1.alloc (.cells #[.int .i64 2,.slice (some ⟨g,0,none⟩) 1 d] 43):=⟨_,rfl⟩
  rw [← hX]
  have HE:=Lib.hid (show Below w.heap.size w X by rw [hX];exact ext_alloc hb1 _)
  have HR:=Lib.hid (show Blk X W1.heap.size 43 #[.int .i64 2,.slice (some ⟨g,0,none⟩) 1 d] by rw [hX];exact Blk.new _ _ _)
  have HA:=Lib.hid (fun (W:World) (k:Below X.heap.size X W)=>applyNo W g d gst ((show HeadB X g #[.int .i64 0,.int .i64 5,.bool true,.int .i64 1,.int .i64 2,.int .i64 3,.bool true,.int .i64 1,.int .i64 2,.int .i64 3] by rw [hX];exact hg.alloc _).ext k))
  clear hX hg hb1
  have a0:=HR.out.cell 0
  have a1:=HR.out.cell 1
  have s1:=cell_ext H1.out HE.out
  have HK:=Lib.hid (show X.cell? ⟨gs,1,none⟩=some (.pointer (some ⟨gst,0,none⟩))∧X.cell? ⟨W1.heap.size,0,none⟩=some (.int .i64 2)∧X.cell? ⟨W1.heap.size,1,none⟩=some (.slice (some ⟨g,0,none⟩) 1 d) from ⟨s1,a0,a1⟩)
  go_region_held3 (fun w'=>w'.cell? ⟨gs,1,none⟩=some (.pointer (some ⟨gst,0,none⟩))∧w'.cell? ⟨W1.heap.size,0,none⟩=some (.int .i64 2)∧w'.cell? ⟨W1.heap.size,1,none⟩=some (.slice (some ⟨g,0,none⟩) 1 d)∧Below X.heap.size X w')
    (first|with_reducible assumption|exact keep3B HK.out (by repeat (first|with_reducible refine Below.drew ?_|with_reducible assumption|with_reducible exact ext_refl _)))
    (first|(go_at_call 13;(with_reducible refine (HA.out _ ?_).mono ?_);(exact keep3E (by assumption));rintro e W2 ⟨rfl,hb'⟩;have hE2:=ext_call (keep3E (by assumption)) hb'))
  all_goals
    have HE2:=Lib.hid (ext_call HE.out hE2)
    clear hb' hE2 a0 a1 s1
    go_wp2
    go_ret2
    exact ⟨rfl,HE2.out⟩
def ComS (gl gst gm:Nat) (k:Nat):Prop:=k=gl∨k=gst∨k=gm
theorem oneRec_of {W:World} {gl:Nat} {z s c1 t:ByteArray} (h:Log1 W gl z s c1 t) (k:RecsAt W gl):OneRec W gl:=by
  obtain ⟨gh,A,n,c,cap,zs,h1,_,_⟩:=h
  obtain ⟨gr,c',g,d,k1,k2,k3,k4⟩:=k
  have h0:=h1.cell 0
  rw [k1] at h0
  injection h0 with h0
  injection h0 with hA hn hc
  subst hA hn hc
  exact ⟨gr,c',g,d,_,h1,k2,k3,k4⟩
theorem keepS4 {X W:World} {S:Nat→Prop} {p q r s:Addr} {x y z u:Value} (h:X.cell? p=some x∧X.cell? q=some y∧X.cell? r=some z∧X.cell? s=some u∧¬ S p.block∧¬ S q.block∧¬ S r.block∧¬ S s.block) (k:ExtS S X W) :
    W.cell? p=some x∧W.cell? q=some y∧W.cell? r=some z∧W.cell? s=some u∧ExtS S X W:=
  ⟨ExtS.cell h.1 k h.2.2.2.2.1,ExtS.cell h.2.1 k h.2.2.2.2.2.1,ExtS.cell h.2.2.1 k h.2.2.2.2.2.2.1,ExtS.cell h.2.2.2.1 k h.2.2.2.2.2.2.2,k⟩
theorem commit1 (w0:World) (hR:RoundOK w0) (gs gl gst gm b c:Nat) (z:ByteArray) (hz:z.size=32) (w:World) (hE0:Below w0.heap.size w0 w) (hge:w0.heap.size≤gl∧w0.heap.size≤gst∧w0.heap.size≤gm)
    (h0:w.cell? ⟨gs,0,none⟩=some (.pointer (some ⟨gl,0,none⟩))) (h1:w.cell? ⟨gs,1,none⟩=some (.pointer (some ⟨gst,0,none⟩))) (hns:¬ ComS gl gst gm gs)
    (hl:Log0 w gl z (stateF false)) (hB:HeadB w b #[.int .i64 0,.int .i64 5,.bool false,.int .i64 0,.int .i64 0,.int .i64 0,.bool true,.int .i64 1,.int .i64 2,.int .i64 3]) (hS:StateIs w false gst gm 0) :
    Calls Tryz.prog 26 #[.pointer (some ⟨gs,0,none⟩),.slice (some ⟨b,0,none⟩) 1 c] w
      fun e w'=>e=.returned (.tuple #[.int .i64 1,.int .i64 0])∧OneRec w' gl∧StateIs w' true gst gm 1∧ExtS (ComS gl gst gm) w w':=by
  obtain ⟨gh,hlog,hhead⟩:=hl
  have HF:=Lib.hid (filled0 gs gl gst gm b c 0 none _ w h0 h1 hlog hB hS)
  have HE0:=Lib.hid hE0
  have HR:=Lib.hid hR
  have H0:=Lib.hid h0
  have H1:=Lib.hid h1
  have HS:=Lib.hid hS
  have HLG:=Lib.hid hlog
  have HHD:=Lib.hid hhead
  have lgl:=hlog.lt
  have lgst:=hS.1.lt
  have lgm:=hS.2.lt
  have HNS:=Lib.hid hns
  have HGE:=Lib.hid hge
  have ngst:gl≠gst:=blkNe hlog hS.1 (by decide)
  have ngm:gl≠gm:=blkNeMap hlog hS.2
  have nhst:gh≠gst:=blkNe hhead hS.1 (by decide)
  have nhm:gh≠gm:=blkNeMap hhead hS.2
  clear hE0 hR h0 h1 hS hlog hhead hB hns hge
  go_enter Tryz.func26,Tryz.ntmps26
  go_wp2_with fail
  refine HF.out.mono ?_
  rintro e W1 ⟨g,d,rfl,hg,hb1⟩
  go_wp2
  obtain ⟨X,hX⟩:∃ X,X=W1.alloc (.cells #[.int .i64 1,.slice (some ⟨g,0,none⟩) 1 d] 43):=⟨_,rfl⟩
  rw [← hX]
  have HE:=Lib.hid (show Below w.heap.size w X by rw [hX];exact ext_alloc hb1 _)
  have HRX:=Lib.hid (show Blk X W1.heap.size 43 #[.int .i64 1,.slice (some ⟨g,0,none⟩) 1 d] by rw [hX];exact Blk.new _ _ _)
  have HGX:=Lib.hid (show HeadB X g #[.int .i64 0,.int .i64 5,.bool false,.int .i64 0,.int .i64 0,.int .i64 0,.bool true,.int .i64 1,.int .i64 2,.int .i64 3] by rw [hX];exact hg.alloc _)
  have HSX:=Lib.hid (HS.out.ext HE.out)
  have hw1:=hb1.size
  have hgst:g≠gst:=by
    rintro rfl
    have h2:=(HGX.out.cell 0).symm.trans (HSX.out.1.cell 0)
    cases h2
  have hgm:g≠gm:=cellNeMap (p:=⟨g,0,none⟩) (HGX.out.cell 0) HSX.out.2
  clear hX hg hb1
  have HA:=Lib.hid (fun (W:World) (k:Below X.heap.size X W)=>apply_one W g d gst gm (HGX.out.ext k) (HSX.out.ext k))
  have a0:=HRX.out.cell 0
  have a1:=HRX.out.cell 1
  have s0:=cell_ext H0.out HE.out
  have s1:=cell_ext H1.out HE.out
  have hnr:¬ ComS gl gst gm W1.heap.size:=by rintro (h|h|h) <;> omega
  have HK:=Lib.hid (show X.cell? ⟨gs,0,none⟩=some (.pointer (some ⟨gl,0,none⟩))∧X.cell? ⟨gs,1,none⟩=some (.pointer (some ⟨gst,0,none⟩))∧X.cell? ⟨W1.heap.size,0,none⟩=some (.int .i64 1)∧X.cell? ⟨W1.heap.size,1,none⟩=some (.slice (some ⟨g,0,none⟩) 1 d) ∧
    ¬ ComS gl gst gm gs∧¬ ComS gl gst gm gs∧¬ ComS gl gst gm W1.heap.size∧¬ ComS gl gst gm W1.heap.size from ⟨s0,s1,a0,a1,HNS.out,HNS.out,hnr,hnr⟩)
  clear hnr
  go_region_held3 (fun w'=>w'.cell? ⟨gs,0,none⟩=some (.pointer (some ⟨gl,0,none⟩))∧w'.cell? ⟨gs,1,none⟩=some (.pointer (some ⟨gst,0,none⟩))∧w'.cell? ⟨W1.heap.size,0,none⟩=some (.int .i64 1)∧w'.cell? ⟨W1.heap.size,1,none⟩=some (.slice (some ⟨g,0,none⟩) 1 d)∧ExtS (ComS gl gst gm) X w')
    (first|with_reducible assumption|exact keepS4 HK.out (by first|with_reducible assumption|exact ExtS.of_ext (ext_refl X).drew))
    (first|(go_at_call 13;(with_reducible refine (HA.out _ ?_).mono ?_);(exact (ext_refl X).drew);rintro e W2 ⟨rfl,hs2,he2⟩;have hx2:ExtS (ComS gl gst gm) X W2:=(ExtS.of_ext (ext_refl X).drew).trans (ExtS.of_ext2 he2 (.inr (.inl rfl)) (.inr (.inr rfl)))))
  have HS2:=Lib.hid (show StateIs W2 true gst gm 1 from hs2)
  have hXd:Below X.heap.size X X.drew:=(ext_refl X).drew
  have HL2:=Lib.hid (show Log0 W2 gl z (stateF false) from ⟨gh,((HLG.out.ext HE.out).ext hXd).ext2 he2 ngst ngm,((HHD.out.ext HE.out).ext hXd).ext2 he2 nhst nhm⟩)
  have HG2:=Lib.hid (show HeadB W2 g #[.int .i64 0,.int .i64 5,.bool false,.int .i64 0,.int .i64 0,.int .i64 0,.bool true,.int .i64 1,.int .i64 2,.int .i64 3] from (HGX.out.ext hXd).ext2 he2 hgst hgm)
  have HX2:=Lib.hid ((ExtS.of_ext HE.out).trans hx2)
  have HE2:=Lib.hid (show Below w0.heap.size w0 W2 from ExtS.below HE0.out (by rintro k (rfl|rfl|rfl);exact HGE.out.1;exact HGE.out.2.1;exact HGE.out.2.2) HX2.out)
  have HK2:=Lib.hid (keepS4 HK.out hx2)
  clear hs2 he2 hx2 a0 a1 s0 s1 hXd HK
  have s0:=HK2.out.1
  have s1:=HK2.out.2.1
  have a0:=HK2.out.2.2.1
  have a1:=HK2.out.2.2.2.1
  have hnr:¬ ComS gl gst gm W1.heap.size:=by rintro (h|h|h) <;> omega
  have HK:=Lib.hid (show W2.cell? ⟨gs,0,none⟩=some (.pointer (some ⟨gl,0,none⟩))∧W2.cell? ⟨gs,1,none⟩=some (.pointer (some ⟨gst,0,none⟩))∧W2.cell? ⟨W1.heap.size,0,none⟩=some (.int .i64 1)∧W2.cell? ⟨W1.heap.size,1,none⟩=some (.slice (some ⟨g,0,none⟩) 1 d) ∧
    ¬ ComS gl gst gm gs∧¬ ComS gl gst gm gs∧¬ ComS gl gst gm W1.heap.size∧¬ ComS gl gst gm W1.heap.size from ⟨s0,s1,a0,a1,HNS.out,HNS.out,hnr,hnr⟩)
  have HRt:=Lib.hid (fun (W:World) (k:Below W2.heap.size W2 W)=>stateRoot true gst gm 1 W (HS2.out.ext k) (HR.out.below (ext_call HE2.out k)))
  have HAp:=Lib.hid (fun (W:World) (k:Below W2.heap.size W2 W)=>logAppendR gl g d z (stateF false) (stateF true) hz (stateF_size _) (stateF_size _) W (HL2.out.ext k) (HG2.out.ext k) (HR.out.below (ext_call HE2.out k)))
  clear hnr
  go_upto_region 6 with (fail)
  go_region_held3 (fun w'=>w'.cell? ⟨gs,0,none⟩=some (.pointer (some ⟨gl,0,none⟩))∧w'.cell? ⟨gs,1,none⟩=some (.pointer (some ⟨gst,0,none⟩))∧w'.cell? ⟨W1.heap.size,0,none⟩=some (.int .i64 1)∧w'.cell? ⟨W1.heap.size,1,none⟩=some (.slice (some ⟨g,0,none⟩) 1 d)∧ExtS (ComS gl gst gm) W2 w')
    (first|with_reducible assumption|exact keepS4 HK.out (by first|with_reducible assumption|exact ExtS.of_ext (ext_refl W2).drew|exact ExtS.of_ext (by assumption)))
    (first
      | (go_at_call 10;(with_reducible refine (HRt.out _ ?_).mono ?_);(exact (ext_refl W2).drew);rintro e W3 ⟨rfl,hb3⟩;have hE3:Below W2.heap.size W2 W3:=ext_call (ext_refl W2).drew hb3)
      | (go_at_call 19;(with_reducible refine (HAp.out _ ?_).mono ?_);(assumption);rintro e W4 ⟨rfl,hlr,he4⟩;have hx4:ExtS (ComS gl gst gm) W2 W4:=(ExtS.of_ext (by assumption)).trans (ExtS.of_ext2 he4 (.inl rfl) (.inl rfl))))
  have HO4:=Lib.hid (oneRec_of hlr.1 hlr.2)
  have HS4:=Lib.hid (show StateIs W4 true gst gm 1 from ⟨(HS2.out.1.ext hE3).ext2 he4 ngst.symm ngst.symm,(HS2.out.2.ext hE3).ext2 he4 ngm.symm ngm.symm⟩)
  have HX4:=Lib.hid (HX2.out.trans hx4)
  have r0:=(keepS4 HK.out hx4).2.2.1
  clear hlr he4 hx4 hE3 hb3 s0 s1 a0 a1
  go_wp2
  go_ret2
  exact ⟨rfl,HO4.out,HS4.out,HX4.out⟩
end
section
open Go.RowKit Go.Shelf
attribute [local go_sem ↓] Go.wp_at_zero Go.wp_at_succ
def SrvAt (W:World) (gs gl gst gn gp np cp:Nat) (lag ep sent:Int) (Am:Option Addr) (nm cm:Nat) (Ao:Option Addr) (no co:Nat):Prop:=
  Blk W gs 140 #[.pointer (some ⟨gl,0,none⟩),.pointer (some ⟨gst,0,none⟩),.slice (some ⟨gp,0,none⟩) np cp,.int .i64 lag,.int .i64 ep,.slice Am nm cm,.slice Ao no co,.map (some gn),.int .i64 sent]
section
variable {W W':World} {gs gl gst gn gp np cp nm cm no co:Nat} {lag ep sent:Int} {Am Ao:Option Addr}
theorem SrvAt.ext (h:SrvAt W gs gl gst gn gp np cp lag ep sent Am nm cm Ao no co) (k:Below W.heap.size W W'):SrvAt W' gs gl gst gn gp np cp lag ep sent Am nm cm Ao no co:=Blk.ext h k
theorem SrvAt.extS {S:Nat→Prop} (h:SrvAt W gs gl gst gn gp np cp lag ep sent Am nm cm Ao no co) (k:ExtS S W W') (hn:¬ S gs):SrvAt W' gs gl gst gn gp np cp lag ep sent Am nm cm Ao no co:=ExtS.blk h k hn
theorem SrvAt.ne3 {b off:Nat} {x y z:Int} (h:SrvAt W gs gl gst gn gp np cp lag ep sent Am nm cm Ao no co) (h0:W.cell? ⟨b,off,none⟩=some (.int .i64 x)) (h1:W.cell? ⟨b,off+1,none⟩=some (.int .i64 y)) (h2:W.cell? ⟨b,off+2,none⟩=some (.int .i64 z)):b≠gs:=by
  rintro rfl
  unfold SrvAt at h
  rw [h.cell] at h0 h1 h2
  match off,h0,h1,h2 with
  | 0,h0,_,_=>simp at h0
  | 1,h0,_,_=>simp at h0
  | 2,h0,_,_=>simp at h0
  | 3,_,_,h2=>simp at h2
  | 4,_,h1,_=>simp at h1
  | 5,h0,_,_=>simp at h0
  | 6,h0,_,_=>simp at h0
  | 7,h0,_,_=>simp at h0
  | 8,_,h1,_=>simp at h1
  | (q+9),h0,_,_=>simp at h0
end
theorem MapI.ne {W:World} {gn:Nat} {kv:List (Int × Value)} {p:Addr} {v:Value} (h:MapI W gn kv) (hc:W.cell? p=some v):p.block≠gn:=by
  obtain ⟨es,c,h,_⟩:=h
  exact cellNeMap hc h
theorem MapI.neBlk {W:World} {gn g:Nat} {kv:List (Int × Value)} {t:TypeId} {cs:Array Value} (h:MapI W gn kv) (hc:Blk W g t cs):g≠gn:=by
  obtain ⟨es,c,h,_⟩:=h
  exact blkNeMap hc h
theorem MapI.extS {W W':World} {gn:Nat} {kv:List (Int × Value)} {S:Nat→Prop} (h:MapI W gn kv) (k:ExtS S W W') (hn:¬ S gn):MapI W' gn kv:=by
  have hlt:=h.lt
  obtain ⟨es,c,h,e⟩:=h
  exact ⟨es,c,(k.block gn hlt hn).trans h,e⟩
theorem MemsAt.extS {W W':World} {v:Value} {ns:List Nat} {S:Nat→Prop} (h:MemsAt W v ns) (k:ExtS S W W') (hn:∀ (b off:Nat) (x y z:Int),W.cell? ⟨b,off,none⟩=some (.int .i64 x)→W.cell? ⟨b,off+1,none⟩=some (.int .i64 y)→W.cell? ⟨b,off+2,none⟩=some (.int .i64 z)→¬ S b):MemsAt W' v ns:=by
  obtain ⟨A,c,rfl,hc,h⟩:=h
  refine ⟨A,c,rfl,hc,fun h0=>?_⟩
  obtain ⟨b,off,hA,hcell⟩:=h h0
  have h3:=hcell 0 ns[0] (List.getElem?_eq_getElem h0)
  have hne:¬ S b:=hn b _ _ _ _ h3.1 h3.2.1 h3.2.2
  exact ⟨b,off,hA,fun j n hj=>⟨ExtS.cell (hcell j n hj).1 k hne,ExtS.cell (hcell j n hj).2.1 k hne,ExtS.cell (hcell j n hj).2.2 k hne⟩⟩
theorem NumsAt.extS {W W':World} {v:Value} {os:List Nat} {S:Nat→Prop} (h:NumsAt W v os) (hl:3≤os.length) (k:ExtS S W W') (hn:∀ (b off:Nat) (x y z:Int),W.cell? ⟨b,off,none⟩=some (.int .i64 x)→W.cell? ⟨b,off+1,none⟩=some (.int .i64 y)→W.cell? ⟨b,off+2,none⟩=some (.int .i64 z)→¬ S b):NumsAt W' v os:=by
  obtain ⟨A,c,rfl,hc,h⟩:=h
  refine ⟨A,c,rfl,hc,fun h0=>?_⟩
  obtain ⟨b,off,hA,hcell⟩:=h h0
  have hne:¬ S b:=hn b off _ _ _ (hcell 0 os[0] (List.getElem?_eq_getElem (by omega))) (hcell 1 os[1] (List.getElem?_eq_getElem (by omega))) (hcell 2 os[2] (List.getElem?_eq_getElem (by omega)))
  exact ⟨b,off,hA,fun j n hj=>ExtS.cell (hcell j n hj) k hne⟩
def knownI (kv:List (Int × Value)) (ns:List Nat):List (Int × Value):=ns.foldl (fun (kv:List (Int × Value)) (n:Nat)=>setI kv (n:Int) (.bool true)) kv
theorem knownI_succ (kv:List (Int × Value)) (ns:List Nat) (k n:Nat) (h:ns[k]? = some n):knownI kv (ns.take (k+1))=setI (knownI kv (ns.take k)) (n:Int) (.bool true):=by
  unfold knownI
  rw [List.take_add_one,h]
  simp
theorem keepR {X W:World} {gs b:Nat} {ep ep0:Int} {vm vo:Value} (h:X.cell? ⟨b,0,none⟩=some (.int .i64 ep)∧X.cell? ⟨b,1,none⟩=some vm∧X.cell? ⟨b,2,none⟩=some vo∧X.cell? ⟨gs,4,none⟩=some (.int .i64 ep0)) (k:Below X.heap.size X W) :
    W.cell? ⟨b,0,none⟩=some (.int .i64 ep)∧W.cell? ⟨b,1,none⟩=some vm∧W.cell? ⟨b,2,none⟩=some vo∧W.cell? ⟨gs,4,none⟩=some (.int .i64 ep0)∧Below X.heap.size X W:=
  ⟨cell_ext h.1 k,cell_ext h.2.1 k,cell_ext h.2.2.1 k,cell_ext h.2.2.2 k,k⟩
theorem setRingNo (gs:Nat) (ep0:Int) (ns os:List Nat) (ep:Int) (vm vo:Value) (w:World) (h4:w.cell? ⟨gs,4,none⟩=some (.int .i64 ep0)) (hm:MemsAt w vm ns) (hn:NodesOK ns) (ho:NumsAt w vo os) (hl:os.length=64) (hos:∀ o ∈ os,o ∈ ns) (hlim:∀ n,(os.count n:Int)≤limF ns.length) (h1:1≤ep) (h2:ep≤1000000) (hle:ep≤ep0) :
    Calls Tryz.prog 27 #[.pointer (some ⟨gs,0,none⟩),.agg #[.int .i64 ep,vm,vo]] w fun e w'=>e=.returned (.int .i64 270)∧Below w.heap.size w w':=by
  obtain ⟨X,hX⟩:∃ X,X=w.alloc (.cells #[.int .i64 ep,vm,vo] 69):=⟨_,rfl⟩
  have HX:=Lib.hid hX
  have HE:=Lib.hid (show Below w.heap.size w X by rw [hX];exact ext_new _ _)
  have HB:=Lib.hid (show Blk X w.heap.size 69 #[.int .i64 ep,vm,vo] by rw [hX];exact Blk.new _ _ _)
  have HV:=Lib.hid (fun (W:World) (k:Below X.heap.size X W)=>validRing_yes ns os ep vm vo W ((hm.ext HE.out).ext k) hn ((ho.ext HE.out).ext k) hl hos hlim h1 h2)
  have s4:=cell_ext h4 HE.out
  obtain ⟨Am,cm,rfl,_⟩:=id hm
  obtain ⟨Ao,co,rfl,_⟩:=id ho
  clear hX hm hn ho hl hos hlim h1 h2 h4
  obtain ⟨b0,b1,b2⟩:=bcells3 HB.out
  have HK:=Lib.hid (And.intro b0 (And.intro b1 (And.intro b2 s4)))
  go_enter Tryz.func27,Tryz.ntmps27
  go_upto_region 3 with (fail)
  rw [← HX.out]
  go_region_held3 (fun w'=>w'.cell? ⟨w.heap.size,0,none⟩=some (.int .i64 ep)∧w'.cell? ⟨w.heap.size,1,none⟩=some (.slice Am ns.length cm)∧w'.cell? ⟨w.heap.size,2,none⟩=some (.slice Ao os.length co)∧w'.cell? ⟨gs,4,none⟩=some (.int .i64 ep0)∧Below X.heap.size X w')
    (first|with_reducible assumption|exact keepR HK.out (by first|with_reducible assumption|exact (ext_refl X).drew))
    (first|(go_at_call 66;(with_reducible refine (HV.out _ ?_).mono ?_);(first|exact (ext_refl X).drew|assumption);rintro e W1 ⟨rfl,hb'⟩;have hE1:Below X.heap.size X W1:=ext_call (by first|exact (ext_refl X).drew|assumption) hb'))
  all_goals
    have HE1:=Lib.hid (ext_call HE.out hE1)
    clear hb' hE1 b0 b1 b2 s4
    go_wp2
    go_ret
    exact ⟨rfl,HE1.out⟩
theorem setRingYes (gs gl gst gn gp np cp:Nat) (lag sent ep0:Int) (Am0:Option Addr) (nm0 cm0:Nat) (Ao0:Option Addr) (no0 co0:Nat) (kv:List (Int × Value)) (ns os:List Nat) (ep:Int) (vm vo:Value) (w:World) (hs:SrvAt w gs gl gst gn gp np cp lag ep0 sent Am0 nm0 cm0 Ao0 no0 co0) (hmap:MapI w gn kv) (hm:MemsAt w vm ns) (hn:NodesOK ns) (ho:NumsAt w vo os) (hl:os.length=64) (hos:∀ o ∈ os,o ∈ ns) (hlim:∀ n,(os.count n:Int)≤limF ns.length) (h1:1≤ep) (h2:ep≤1000000) (hlt:ep0<ep) :
    Calls Tryz.prog 27 #[.pointer (some ⟨gs,0,none⟩),.agg #[.int .i64 ep,vm,vo]] w fun e w'=>e=.returned (.int .i64 0)∧(∃ Am nm cm Ao no co,SrvAt w' gs gl gst gn gp np cp lag ep sent Am nm cm Ao no co∧MemsAt w' (.slice Am nm cm) ns∧NumsAt w' (.slice Ao no co) os)∧MapI w' gn (knownI kv ns)∧ExtS (fun k=>k=gs∨k=gn) w w':=by
  have h4:w.cell? ⟨gs,4,none⟩=some (.int .i64 ep0):=Blk.cell hs 4
  have hle:¬ ep≤ep0:=by omega
  obtain ⟨X,hX⟩:∃ X,X=w.alloc (.cells #[.int .i64 ep,vm,vo] 69):=⟨_,rfl⟩
  have HX:=Lib.hid hX
  have HE:=Lib.hid (show Below w.heap.size w X by rw [hX];exact ext_new _ _)
  have HB:=Lib.hid (show Blk X w.heap.size 69 #[.int .i64 ep,vm,vo] by rw [hX];exact Blk.new _ _ _)
  have HV:=Lib.hid (fun (W:World) (k:Below X.heap.size X W)=>validRing_yes ns os ep vm vo W ((hm.ext HE.out).ext k) hn ((ho.ext HE.out).ext k) hl hos hlim h1 h2)
  have HOw:=Lib.hid (fun (W:World) (k:Below X.heap.size X W)=>ownRing_any ns os ep vm vo W ((hm.ext HE.out).ext k) hn ((ho.ext HE.out).ext k) hl)
  have HM:=Lib.hid hm
  have HN:=Lib.hid hn
  have HL:=Lib.hid hl
  have HS:=Lib.hid hs
  have HMP:=Lib.hid hmap
  have s4:=cell_ext h4 HE.out
  obtain ⟨Am,cm,rfl,_⟩:=id hm
  obtain ⟨Ao,co,rfl,_⟩:=id ho
  clear hX hm hn ho hl hos hlim h1 h2 h4 hs hmap hlt
  obtain ⟨b0,b1,b2⟩:=bcells3 HB.out
  have HK:=Lib.hid (And.intro b0 (And.intro b1 (And.intro b2 s4)))
  go_enter Tryz.func27,Tryz.ntmps27
  go_upto_region 3 with (fail)
  rw [← HX.out]
  go_region_held3 (fun w'=>w'.cell? ⟨w.heap.size,0,none⟩=some (.int .i64 ep)∧w'.cell? ⟨w.heap.size,1,none⟩=some (.slice Am ns.length cm)∧w'.cell? ⟨w.heap.size,2,none⟩=some (.slice Ao os.length co)∧w'.cell? ⟨gs,4,none⟩=some (.int .i64 ep0)∧Below X.heap.size X w')
    (first|with_reducible assumption|exact keepR HK.out (by first|with_reducible assumption|exact (ext_refl X).drew))
    (first|(go_at_call 66;(with_reducible refine (HV.out _ ?_).mono ?_);(first|exact (ext_refl X).drew|assumption);rintro e W1 ⟨rfl,hb'⟩;have hE1:Below X.heap.size X W1:=ext_call (by first|exact (ext_refl X).drew|assumption) hb'))
  have HE1:=Lib.hid hE1
  clear hb' b0 b1 b2 s4
  obtain ⟨b0,b1,b2⟩:=bcells3 (HB.out.ext HE1.out)
  clear hE1
  go_wp2_with fail
  refine (HOw.out W1 HE1.out).mono ?_
  rintro e W2 ⟨A1,n1,k1,A2,n2,k2,rfl,hm2,hn2,hb2⟩
  have HE2:=Lib.hid (ext_call HE1.out hb2)
  have HM2:=Lib.hid hm2
  have HN2:=Lib.hid hn2
  clear hm2 hn2 hb2 b0 b1 b2
  have HS2:=Lib.hid ((HS.out.ext HE.out).ext HE2.out)
  have HMP2:=Lib.hid ((HMP.out.ext HE.out).ext HE2.out)
  have HMm2:=Lib.hid ((HM.out.ext HE.out).ext HE2.out)
  obtain ⟨b0,b1,b2⟩:=bcells3 (HB.out.ext HE2.out)
  have q4:=Blk.cell HS2.out 4
  have q5:=Blk.cell HS2.out 5
  have q6:=Blk.cell HS2.out 6
  have f4:=Blk.frozen HS2.out 4
  have f5:=Blk.frozen HS2.out 5
  have f6:=Blk.frozen HS2.out 6
  have hgw:w.heap.size≠gs:=by have:=Blk.lt HS.out;omega
  go_wp2_with fail
  obtain ⟨V,hV⟩:∃ V,V=(((W2.setCell ⟨gs,4,none⟩ (.int .i64 ep)).setCell ⟨gs,5,none⟩ (.slice A1 n1 k1)).setCell ⟨gs,6,none⟩ (.slice A2 n2 k2)):=⟨_,rfl⟩
  rw [← hV]
  have hx:Ext2 gs gs W2 V:=by rw [hV];exact (((Ext2.refl gs gs W2).setA 4 _).setA 5 _).setA 6 _
  have hxs':ExtS (fun k=>k=gs) W2 V:=ExtS.of_ext2 hx rfl rfl
  have hxs:ExtS (fun k=>k=gs∨k=gn) W2 V:=ExtS.of_ext2 hx (.inl rfl) (.inl rfl)
  have HSV:=Lib.hid (show SrvAt V gs gl gst gn gp np cp lag ep sent A1 n1 k1 A2 n2 k2 by rw [hV];exact ((Blk.set_ HS2.out 4 (.int .i64 ep)).set_ 5 (.slice A1 n1 k1)).set_ 6 (.slice A2 n2 k2))
  have hgn:gs≠gn:=MapI.neBlk HMP2.out HS2.out
  have hn3:∀ (b off:Nat) (x y z:Int),W2.cell? ⟨b,off,none⟩=some (.int .i64 x)→W2.cell? ⟨b,off+1,none⟩=some (.int .i64 y)→W2.cell? ⟨b,off+2,none⟩=some (.int .i64 z)→¬ (b=gs∨b=gn):=by
    rintro b off x y z h0 h1 h2 (h|h)
    · exact HS2.out.ne3 h0 h1 h2 h
    · exact (MapI.ne HMP2.out h0) h
  have HMV:=Lib.hid (HMm2.out.extS hxs hn3)
  have HM2V:=Lib.hid (HM2.out.extS hxs hn3)
  have HN2V:=Lib.hid (HN2.out.extS (by have:=HL.out;omega) hxs hn3)
  have HMPV:=Lib.hid (HMP2.out.extS hxs' hgn.symm)
  have HXV:=Lib.hid ((ExtS.of_ext (S:=fun k=>k=gs∨k=gn) (ext_call HE.out HE2.out)).trans hxs)
  have HBV:=Lib.hid (show Blk V w.heap.size 69 #[.int .i64 ep,.slice Am ns.length cm,.slice Ao os.length co] from ((HB.out.ext HE2.out)).ext2 hx hgw hgw)
  have hsome:=HN.out.some_
  have hfew:=HN.out.few
  clear hV hx hxs hxs' hn3 b0 b1 b2 q4 q5 q6 f4 f5 f6
  go_loopw [6,32] (fun _ i W=>∃ k:Nat,k≤ns.length∧i=.int .i64 k∧MapI W gn (knownI kv (ns.take k))∧ExtS (fun j=>j=gn) V W) (fun _ i _=>ns.length-(intOf i).toNat)
  case atStart=>exact ⟨0,Nat.zero_le _,rfl,HMPV.out,ExtS.of_ext (ext_refl V)⟩
  case round=>
    obtain ⟨k,hk,rfl,hM,hX⟩:=hrel
    have HMk:=Lib.hid hM
    have HXk:=Lib.hid hX
    clear hM hX
    have hSr:=HSV.out.extS HXk.out hgn
    have s7:=Blk.cell hSr 7
    have sl:=Blk.lt hSr
    clear hSr
    by_cases hlt:k<ns.length
    · obtain ⟨n,hn⟩:∃ n,ns[k]? = some n:=⟨_,List.getElem?_eq_getElem hlt⟩
      have hMw:=HMV.out.extS HXk.out (fun b off x y z h0 _ _=>MapI.ne HMPV.out h0)
      obtain ⟨b,off,c',hA,_,c0,c1,c2⟩:=hMw.at_ hn
      injection hA with hA hn' hc'
      subst hA;subst hc'
      clear hn' hMw
      have e2:IntKind.i64.wrap ((k:Int)+1)=(k:Int)+1:=by rw [IntWalk.i64_in _ (by omega)]
      have d1:decide ((k:Int)<(ns.length:Int))=true:=by simp;omega
      have q0:(0:Int)≤(k:Int):=by omega
      have q1:(k:Int)<(ns.length:Int):=by omega
      have HNX:=Lib.hid (knownI_succ kv ns k n hn)
      obtain ⟨o,hup,hMu⟩:=update_I (P:=Tryz.prog) (w:=(wr.alloc (.cells #[.int .i64 n,.int .i64 0,.int .i64 1] 145)).drew) Tryz.underlying138 Tryz.underlying3 (MapI.drew (HMk.out.ext (ext_new wr _))) (n:Int) (.bool true)
      have HMu:=Lib.hid hMu
      clear hMu hn
      go_upto_region 9 with (fail)
      go_region
      go_wp2
      go_roundw
      case rel=>
        refine ⟨k+1,by omega,by go_num,?_,?_⟩
        · rw [HNX.out];exact HMu.out
        · exact HXk.out.trans (ExtS.of_ext2 (a:=gn) (b:=gn) ((Ext2.of_ext (ext_new wr _).drew).put o) rfl rfl)
      case measure=>simp [intOf];omega
    · obtain rfl:k=ns.length:=by omega
      have d1:decide ((ns.length:Int)<(ns.length:Int))=false:=by simp
      go_wp2
      go_ret
      refine ⟨rfl,⟨A1,n1,k1,A2,n2,k2,HSV.out.extS HXk.out hgn,HM2V.out.extS HXk.out (fun b off x y z h0 _ _=>MapI.ne HMPV.out h0),HN2V.out.extS (by have:=HL.out;omega) HXk.out (fun b off x y z h0 _ _=>MapI.ne HMPV.out h0)⟩,?_,?_⟩
      · have:=HMk.out;rwa [List.take_length] at this
      · exact HXV.out.trans (HXk.out.mono (fun j e=>.inr e))
end
section
open Go.RowKit Go.Shelf
def msgB (tn:Int) (np:Nat) (ep:Int):Array Value:=#[.int .i64 2,.int .i64 100,.int .i64 tn,.int .i64 0,.int .i64 ep,.int .i64 0,.int .i64 0,.int .i64 (np:Int),.int .i64 0,.int .i64 1,.int .i64 0,.int .i64 0,.int .i64 0,.int .i64 0,.int .i64 0,.int .i64 0,.int .i64 0,.int .i64 0,.slice none 0 0,.int .i64 0,.int .i64 0,.int .i64 0,.int .i64 0,.int .i64 0,.int .i64 0,.int .i64 0,.int .i64 0,.int .i64 0,.slice none 0 0,.int .i64 0,.int .i64 0,.int .i64 0,.int .i64 0,.int .i64 0,.int .i64 0,.int .i64 0,.slice none 0 0,.int .i64 0,.bool false,.int .i64 0,.int .i64 0,.int .i64 0,.slice none 0 0,.slice none 0 0,.int .i64 0,.slice none 0 0,.slice none 0 0]
theorem own_setboxI {W:World} {base n sz b i:Nat} {e t:TypeId} {v:Value} {xs:List Value} {cs:Array Value} (h:W.ownsRow base e sz v n xs) (hb:Blk W b t cs) (ht:t≠e) (u:Value):(W.setCell ⟨b,i,none⟩ u).ownsRow base e sz v n xs:=
  h.kept (row:=some b) ⟨rfl,rfl,rfl,by simp [World.setCell],fun k _ hk=>Below.heap_setCell _ _ _ _ (fun e=>hk (by simp [e]))⟩ (by
    rcases h.2 with ⟨rfl,_⟩|⟨g,cap,cur,rfl,_,hgg,_⟩
    · exact .inl rfl
    · refine .inr fun e1=>?_
      have e2:g=b:=by simpa [Value.ownBlock] using e1
      subst e2
      unfold Blk at hb
      rw [hgg] at hb
      injection hb with hb
      injection hb with _ hb _
      exact ht hb.symm)
theorem own_blkNe {W:World} {base n sz g b cap:Nat} {e t:TypeId} {xs:List Value} {cs:Array Value} (h:W.ownsRow base e sz (.slice (some ⟨g,0,none⟩) n cap) n xs) (hb:Blk W b t cs) (ht:t≠e):b≠g:=by
  rintro rfl
  rcases h.2 with ⟨h1,_⟩|⟨g,cap,cur,h1,_,hgg,_⟩
  · cases h1
  · injection h1 with h1
    injection h1 with h1
    injection h1 with h1
    subst h1
    unfold Blk at hb
    rw [hgg] at hb
    injection hb with hb
    injection hb with _ hb _
    exact ht hb.symm
theorem own_mono {W:World} {base base' n sz:Nat} {e:TypeId} {v:Value} {xs:List Value} (h:W.ownsRow base e sz v n xs) (hb:base'≤base):W.ownsRow base' e sz v n xs:=
  ⟨h.1,h.2.elim .inl (fun ⟨g,cap,cur,h1,h2,h3⟩=>.inr ⟨g,cap,cur,h1,Nat.le_trans hb h2,h3⟩)⟩
theorem grown_refl (W:World) (row:Option Nat):W.grownBy W row:=⟨rfl,rfl,rfl,Nat.le_refl _,fun _ _ _=>rfl⟩
def MsgsAt (W:World) (base m:Nat) (x:Value) (r:List Value):Prop:=(m=0∧x=.slice none 0 0∧r=[])∨(0<m∧W.ownsRow base 84 47 x m r∧∀ u ∈ r,u.oneCell'=true)
theorem app_msgs {W:World} {base base2 n m:Nat} {v x:Value} {xs r:List Value} (hown:W.ownsRow base 84 47 v n xs) (hx:MsgsAt W base2 m x r) (hnm:n+m≤1000) (hbase:base≤W.heap.size) :
    AppOK Tryz.prog W 71 71 v x∧(appW Tryz.prog W 71 71 v x).ownsRow base 84 47 (appV Tryz.prog W 71 71 v x) (n+m) (xs++r)∧W.grownBy (appW Tryz.prog W 71 71 v x) v.ownBlock:=by
  obtain ⟨im,him,hzm0,hzm1,hzm2⟩:=info_parts msg_info
  rcases hx with ⟨rfl,rfl,rfl⟩|⟨hm,hx,h1⟩
  · obtain ⟨A,c,hv,hc⟩:∃ A c,v=.slice A n c∧n≤c:=by
      rcases hown.2 with ⟨rfl,rfl⟩|⟨g,cap,cur,rfl,_,_,hle,_⟩
      · exact ⟨_,_,rfl,Nat.le_refl _⟩
      · exact ⟨_,_,rfl,hle⟩
    have hr:(Builtin.append_ #[71,71] 71 #[v,.slice none 0 0]).run Tryz.prog W=.ok v W:=by
      rw [hv]
      exact run_append_nothing W 71 71 71 84 im Tryz.underlying71 him A n c hc (.slice none 0 0) ⟨.inl ⟨_,Tryz.underlying71⟩,fun _=>rfl,rfl,rfl,by simp,by simp⟩
    have h1:appV Tryz.prog W 71 71 v (.slice none 0 0)=v:=by unfold appV;rw [hr]
    have h2:appW Tryz.prog W 71 71 v (.slice none 0 0)=W:=by unfold appW;rw [hr]
    rw [h1,h2,List.append_nil,Nat.add_zero]
    exact ⟨⟨_,_,hr⟩,hown,grown_refl W _⟩
  · obtain ⟨m',rfl⟩:∃ m',m=m'+1:=⟨m-1,by omega⟩
    obtain ⟨g,cap,rfl⟩:=ownsRow_succ hx
    refine app_own (P:=Tryz.prog) (w:=W) base 71 71 84 im _ 47 488 Tryz.underlying71 him hzm0 hzm1 hzm2 rfl (by decide) v n xs hown ⟨g,0,none⟩ (m'+1) cap r hx.1 (hx.cells (g:=g) rfl) h1 (by unfold maxLen;omega) (by omega) hbase
def TickX (mm:Nat) (Rp:Int→List Value→Prop) (np:Nat) (ep:Int) (k n:Nat) (xs:List Value):Prop:=
  (k=0∧n=0∧xs=[])∨((1≤k∧k≤2)∧n=mm+1∧∃ r0,Rp 0 r0∧xs=r0++(msgB 0 np ep).toList) ∨
  (3≤k∧n=2*(mm+1)∧∃ r0 r2,Rp 0 r0∧Rp 2 r2∧xs=r0++(msgB 0 np ep).toList++(r2++(msgB 2 np ep).toList))
theorem app_exec2 {P:Program} {w:World} {ρ:Operand→Value} {d:Option Tmp} {s x:Operand} {t ty:TypeId} {p:String} {af:Array Edge} {g:Option (Nat × Bool)} (h:AppOK P w t ty (ρ s) (ρ x)) :
    (execOp ρ { dst:=d,op:=.call { callee:=.builtin .append,args:=#[s,x],argTypes:=#[t,t] },type:=ty,pos:=p,after:=af,guard:=g }).run P w=.ok (.value (appV P w t ty (ρ s) (ρ x))) (appW P w t ty (ρ s) (ρ x)):=app_exec h
theorem bs_exec2 {P:Program} {w:World} {ρ:Operand→Value} {d:Option Tmp} {ps:Array (Nat × Operand)} {len:Nat} {ty t:TypeId} {p:String} {af:Array Edge} {g:Option (Nat × Bool)} (h:BsAny P ty len (ps.map fun x=>(x.1,ρ x.2))) :
    (execOp ρ { dst:=d,op:=.buildSlice ty len ps,type:=t,pos:=p,after:=af,guard:=g }).run P w=.ok (.value (.slice (some ⟨w.heap.size,0,none⟩) len len)) (w.alloc (bsO P ty len (ps.map fun x=>(x.1,ρ x.2)))):=bs_exec h
theorem bd_exec2 {P:Program} {w:World} {ρ:Operand→Value} {d:Option Tmp} {ps:Array (Nat × Operand)} {ty t:TypeId} {p:String} {af:Array Edge} {g:Option (Nat × Bool)} (h:BdOK P ty (ps.map fun x=>(x.1,ρ x.2))) :
    (execOp ρ { dst:=d,op:=.build ty ps,type:=t,pos:=p,after:=af,guard:=g }).run P w=.ok (.value (bdV P ty (ps.map fun x=>(x.1,ρ x.2)))) w:=bd_exec h
attribute [local go_sem ↓] bd_exec bd_sem bs_exec bs_sem app_exec app_sem Go.wp_at_zero Go.wp_at_succ
attribute [local go_sem high] app_exec2 bs_exec2 bd_exec2
theorem OneRec.srv {W W':World} {gs gl gst gn gp np cp nm cm no co:Nat} {lag ep sent:Int} {Am Ao:Option Addr} (h:OneRec W gl) (hs:SrvAt W gs gl gst gn gp np cp lag ep sent Am nm cm Ao no co) (k:ExtS (fun j=>j=gs) W W'):OneRec W' gl:=by
  obtain ⟨gr,c,g,d,v,h1,h2,h3,h4⟩:=h.at_
  have n1:¬ gl=gs:=blkNe h1 hs (by decide)
  have n2:¬ gr=gs:=by
    rintro rfl
    have h0:=(h3.cell 0).symm.trans (Blk.cell hs 0)
    cases h0
  have n3:¬ g=gs:=by
    rintro rfl
    have h0:=(h4.cell 0).symm.trans (Blk.cell hs 0)
    cases h0
  exact ⟨gr,c,g,d,v,ExtS.blk h1 k n1,h2,ExtS.headB h3 k n2,ExtS.headB h4 k n3⟩
theorem ExtS.set1 (W:World) (g i:Nat) (u:Value):ExtS (fun j=>j=g) W (W.setCell ⟨g,i,none⟩ u):=⟨rfl,rfl,rfl,by simp [World.setCell],fun k _ hn=>Below.heap_setCell _ _ _ _ hn⟩
theorem tick_any (mm:Nat) (hmm:mm≤1) (Rp:Int→List Value→Prop) (gs gl gst gn gp np cp gp' cp' base:Nat) (lag ep sent:Int) (Am:Option Addr) (nm cm:Nat) (Ao:Option Addr) (no co:Nat) (past:List Value) (T:Nat→Prop) (w W1:World)
    (hs:SrvAt w gs gl gst gn gp np cp lag ep sent Am nm cm Ao no co) (ho:OneRec w gl)
    (d3:AppOK Tryz.prog (w.alloc (.cells #[.int .i64 1] 3)) 67 67 (.slice (some ⟨gp,0,none⟩) np cp) (.slice (some ⟨w.heap.size,0,none⟩) 1 1))
    (hv:appV Tryz.prog (w.alloc (.cells #[.int .i64 1] 3)) 67 67 (.slice (some ⟨gp,0,none⟩) np cp) (.slice (some ⟨w.heap.size,0,none⟩) 1 1)=.slice (some ⟨gp',0,none⟩) (np+1) cp')
    (hW1:appW Tryz.prog (w.alloc (.cells #[.int .i64 1] 3)) 67 67 (.slice (some ⟨gp,0,none⟩) np cp) (.slice (some ⟨w.heap.size,0,none⟩) 1 1)=W1)
    (hrow:W1.ownsRow base 3 1 (.slice (some ⟨gp',0,none⟩) (np+1) cp') (np+1) past) (hx1:ExtS T w W1) (hs1:SrvAt W1 gs gl gst gn gp np cp lag ep sent Am nm cm Ao no co) (ho1:OneRec W1 gl) (hm1:MapI W1 gn [(0,.bool true),(2,.bool true)])
    (hnp:1≤np) (hnp2:np≤1000) (hsent:0≤sent) (hsent2:sent≤1000)
    (HC:∀ (tn:Int) (W:World),W.cell? ⟨gs,0,none⟩=some (.pointer (some ⟨gl,0,none⟩))→OneRec W gl→Calls Tryz.prog 69 #[.pointer (some ⟨gs,0,none⟩),.int .i64 tn,.int .i64 (sent+1),.int .i64 1] W
      fun e w'=>∃ A n c r,e=.returned (.slice A n c)∧MsgsAt w' W.heap.size mm (.slice A n c) r∧Rp tn r∧Below W.heap.size W w') :
    Calls Tryz.prog 29 #[.pointer (some ⟨gs,0,none⟩)] w fun e w'=>∃ g c xs,e=.returned (.slice (some ⟨g,0,none⟩) (2*(mm+1)) c)∧w'.ownsRow w.heap.size 84 47 (.slice (some ⟨g,0,none⟩) (2*(mm+1)) c) (2*(mm+1)) xs ∧
      (∃ r0 r2,Rp 0 r0∧Rp 2 r2∧xs=r0++(msgB 0 np ep).toList++(r2++(msgB 2 np ep).toList))∧SrvAt w' gs gl gst gn gp' (np+1) cp' lag ep 1 Am nm cm Ao no co ∧
      w'.ownsRow base 3 1 (.slice (some ⟨gp',0,none⟩) (np+1) cp') (np+1) past∧ExtS (fun k=>k=gs∨T k) w w':=by
  have HO:=Lib.hid ho
  have HS1:=Lib.hid hs1
  have HCo:=Lib.hid HC
  have s0:w.cell? ⟨gs,0,none⟩=some (.pointer (some ⟨gl,0,none⟩)):=Blk.cell hs 0
  have s2:w.cell? ⟨gs,2,none⟩=some (.slice (some ⟨gp,0,none⟩) np cp):=Blk.cell hs 2
  have sl:=Blk.lt hs
  have hlow:decide ((1000000:Int)≤(np:Int)-1)=false:=by simp;omega
  have v2:W1.cell? ⟨gs,2,none⟩=some (.slice (some ⟨gp,0,none⟩) np cp):=Blk.cell hs1 2
  have f2:W1.frozen? ⟨gs,2,none⟩=false:=Blk.frozen hs1 2
  have HROW:=Lib.hid hrow
  have HX1:=Lib.hid hx1
  have HO1:=Lib.hid ho1
  have HM1:=Lib.hid hm1
  have hsz:w.heap.size≤W1.heap.size:=hx1.size
  clear hs ho HC hrow hx1 hs1 ho1 hm1
  go_enter Tryz.func29,Tryz.ntmps29
  go_wp2_with (first|(go_at_call 32;refine (srvTime gs np cp _ (by omega) w s2).mono ?_;rintro e w' ⟨rfl,hw'⟩;subst w')|(go_at_call 6;refine (srvPosC gs gl w s0 HO.out).mono ?_;rintro e w' ⟨rfl,hw'⟩;subst w'))
  obtain ⟨V,hV⟩:∃ V,V=W1.setCell ⟨gs,2,none⟩ (.slice (some ⟨gp',0,none⟩) (np+1) cp'):=⟨_,rfl⟩
  rw [← hV]
  have hxv:ExtS (fun j=>j=gs) W1 V:=by rw [hV];exact ExtS.set1 _ _ _ _
  have HSV:=Lib.hid (show SrvAt V gs gl gst gn gp' (np+1) cp' lag ep sent Am nm cm Ao no co by rw [hV];exact Blk.set_ HS1.out 2 _)
  have HOV:=Lib.hid (HO1.out.srv HS1.out hxv)
  have HMV:=Lib.hid (HM1.out.extS hxv (MapI.neBlk HM1.out HS1.out).symm)
  have HRV:=Lib.hid (show V.ownsRow base 3 1 (.slice (some ⟨gp',0,none⟩) (np+1) cp') (np+1) past by rw [hV];exact own_setboxI HROW.out HS1.out (by decide) _)
  have HXV:=Lib.hid ((HX1.out.mono (T:=fun k=>k=gs∨T k) (fun k h=>.inr h)).trans (hxv.mono (fun k h=>.inl h)))
  have hszV:W1.heap.size=V.heap.size:=by rw [hV];simp [World.setCell]
  clear hV hxv d3 hv hW1 v2 f2 s0 s2 sl
  obtain ⟨im,him,hzm0,hzm1,hzm2⟩:=info_parts msg_info
  obtain ⟨z0,hz0⟩:∃ z0,im.zero=some z0:=⟨_,hzm0⟩
  have HZ0:=Lib.hid (show z0.cells.size=47 by have h:=hzm0.symm.trans hz0;injection h with h;rw [← h];rfl)
  clear hzm0
  go_loopw [4,5,25] (fun v _ i W=>∃ (k n:Nat) (xs:List Value),k≤24∧i=.int .i64 k∧(∃ A c,v=.slice A n c)∧W.ownsRow V.heap.size 84 47 v n xs∧TickX mm Rp np ep k n xs∧Below V.heap.size V W) (fun _ _ i _=>24-(intOf i).toNat)
  case atStart=>exact ⟨0,0,[],Nat.zero_le _,rfl,⟨_,_,rfl⟩,World.ownsRow_nil _ _ _ _,.inl ⟨rfl,rfl,rfl⟩,ext_refl V⟩
  case round =>
    obtain ⟨k,n,xs,hk,rfl,⟨A,c,rfl⟩,hrow,hX,hE⟩:=hrel
    have HR:=Lib.hid hrow
    have HT:=Lib.hid hX
    have HE:=Lib.hid hE
    clear hrow hX hE
    have hSr:=HSV.out.ext HE.out
    have s0:wr.cell? ⟨gs,0,none⟩=some (.pointer (some ⟨gl,0,none⟩)):=Blk.cell hSr 0
    have s7:wr.cell? ⟨gs,7,none⟩=some (.map (some gn)):=Blk.cell hSr 7
    have s6:wr.cell? ⟨gs,8,none⟩=some (.int .i64 sent):=Blk.cell hSr 8
    have sl:=Blk.lt hSr
    have hz:(zeroValue 4).run Tryz.prog wr=.ok (.bool false) wr:=by kernel_rfl
    have hlk:=lookup_I (P:=Tryz.prog) (w:=wr) Tryz.underlying138 Tryz.underlying3 (HMV.out.ext HE.out) (k:Int) hz
    have e2:IntKind.i64.wrap ((k:Int)+1)=(k:Int)+1:=by rw [IntWalk.i64_in _ (by omega)]
    have e3:IntKind.i64.wrap (sent+1)=sent+1:=by rw [IntWalk.i64_in _ (by omega)]
    clear hSr
    by_cases hlt:k<24
    · have d1 : decide ((k : Int) < 24) = true := by simp; omega
      by_cases hin:k=0∨k=2
      · have hget:getI [(0,.bool true),(2,.bool true)] (k:Int)=some (.bool true):=by rcases hin with rfl|rfl <;> rfl
        rw [hget,Option.getD_some] at hlk
        go_wp2_with fail
        refine (HCo.out (k:Int) wr s0 (HOV.out.ext HE.out)).mono ?_
        rintro e W2 ⟨A2,n2,c2,r,rfl,hx,hrp,hb2⟩
        have hn24:n≤4:=by
          rcases HT.out with ⟨_,h,_⟩|⟨_,h,_⟩|⟨_,h,_⟩ <;> omega
        have hzV:V.heap.size≤W2.heap.size:=Nat.le_trans HE.out.size hb2.size
        obtain ⟨d4,hrow4,hgr4⟩:=app_msgs (own_below HR.out hb2) hx (by omega) hzV
        obtain ⟨A4,c4,hv4⟩:=own_shape hrow4
        rw [hv4] at hrow4
        generalize hW4:appW Tryz.prog W2 71 71 (.slice A n c) (.slice A2 n2 c2)=W4 at hrow4 hgr4
        have hE2:Below V.heap.size V W2:=ext_call HE.out hb2
        have hE4:Below V.heap.size V W4:=hE2.grown hgr4 hzV (fun j e=>(HR.out.lt j e).1)
        have HE4:=Lib.hid hE4
        have HR4:=Lib.hid hrow4
        have HRP:=Lib.hid hrp
        have hzV4:V.heap.size≤W4.heap.size:=hE4.size
        have HS4:=Lib.hid (HSV.out.ext hE4)
        clear hx hrp hb2 hrow4 hgr4 hE2 hE4 hlk s0 s6 s7
        have s4:W4.cell? ⟨gs,4,none⟩=some (.int .i64 ep):=Blk.cell HS4.out 4
        have s2:W4.cell? ⟨gs,2,none⟩=some (.slice (some ⟨gp',0,none⟩) (np+1) cp'):=Blk.cell HS4.out 2
        obtain ⟨oa,hoa⟩:∃ oa,oa=msgB (k:Int) np ep:=⟨_,rfl⟩
        have hos:oa.size=47:=by rw [hoa];rfl
        obtain ⟨d5,e5⟩:=bd_of W4 (P:=Tryz.prog) (t:=84) (ps:=#[(0,.int .i64 2),(1,.int .i64 100),(2,.int .i64 k),(9,.int .i64 1),(7,.int .i64 np),(4,.int .i64 ep)]) (cs:=oa) (by rw [hoa];kernel_rfl)
        obtain ⟨d6,e6⟩:=bs_of W4 (msg_slice oa hos)
        have hbn:MsgsAt (W4.alloc (.cells oa 84)).drew W4.heap.size 1 (.slice (some ⟨W4.heap.size,0,none⟩) 1 1) oa.toList:=.inr ⟨by omega,⟨by simp [hos],.inr ⟨W4.heap.size,1,oa,rfl,Nat.le_refl _,World.alloc_heap_new W4 _,by omega,by unfold maxLen;omega,by simp [hos],List.take_of_length_le (by simp [hos])⟩⟩,by rw [hoa];simp [msgB,Value.oneCell']⟩
        have hro:(W4.alloc (.cells oa 84)).drew.ownsRow V.heap.size 84 47 (.slice A4 (n+mm) c4) (n+mm) (xs++r):=own_below HR4.out (ext_new W4 _).drew
        obtain ⟨d7,hrow7,hgr7⟩:=app_msgs hro hbn (by omega) (Nat.le_trans hzV4 (by simp))
        obtain ⟨g7,c7,hv7⟩:=ownsRow_succ hrow7
        rw [hv7] at hrow7
        generalize hW7:appW Tryz.prog (W4.alloc (.cells oa 84)).drew 71 71 (.slice A4 (n+mm) c4) (.slice (some ⟨W4.heap.size,0,none⟩) 1 1)=W7 at hrow7 hgr7
        have d7':AppOK Tryz.prog (W4.drew.alloc (.cells oa 84)) 71 71 (.slice A4 (n+mm) c4) (.slice (some ⟨W4.heap.size,0,none⟩) 1 1):=d7
        have hv7':appV Tryz.prog (W4.drew.alloc (.cells oa 84)) 71 71 (.slice A4 (n+mm) c4) (.slice (some ⟨W4.heap.size,0,none⟩) 1 1)=.slice (some ⟨g7,0,none⟩) (n+mm+1) c7:=hv7
        have hW7':appW Tryz.prog (W4.drew.alloc (.cells oa 84)) 71 71 (.slice A4 (n+mm) c4) (.slice (some ⟨W4.heap.size,0,none⟩) 1 1)=W7:=hW7
        have hE7:Below V.heap.size V W7:=((HE4.out.alloc hzV4 (.cells oa 84)).drew).grown hgr7 (Nat.le_trans hzV4 (by simp)) (fun j e=>(HR4.out.lt j e).1)
        have HE7:=Lib.hid hE7
        have HR7:=Lib.hid hrow7
        have HOA:=Lib.hid hoa
        unfold msgB at hoa
        rw [hoa] at d7 hv7 hW7 d7' hv7' hW7' d6 e6 e5
        have HTm:=Lib.hid (fun (W:World) (h:W.cell? ⟨gs,2,none⟩=some (.slice (some ⟨gp',0,none⟩) (np+1) cp'))=>show Calls Tryz.prog 32 #[.pointer (some ⟨gs,0,none⟩)] W fun e w'=>e=.returned (.int .i64 (np:Int))∧W=w' by
          have h9:=srvTime gs (np+1) cp' _ (by omega) W h
          rwa [show (((np+1:Nat):Int)-1)=(np:Int) by omega] at h9)
        clear hoa hbn hro hrow7 hgr7 hE7
        go_upto_region 11 with (fail)
        go_region_with (go_at_call 32;refine (HTm.out _ ?_).mono ?_;(exact s2);rintro e w' ⟨rfl,hw'⟩;subst w')
        all_goals
          go_wp2
          go_roundw
          case rel=>
            refine ⟨k+1,n+mm+1,xs++r++oa.toList,by omega,by go_num,⟨_,_,rfl⟩,HR7.out,?_,HE7.out⟩
            have hrp:=HRP.out
            rw [HOA.out]
            rcases HT.out with ⟨rfl,rfl,rfl⟩|⟨⟨h1,h2⟩,h3,r0,h4,rfl⟩|⟨h1,h2,h3⟩
            · exact .inr (.inl ⟨⟨by omega,by omega⟩,by omega,r,hrp,by simp⟩)
            · obtain rfl:k=2:=by omega
              exact .inr (.inr ⟨by omega,by omega,r0,r,h4,hrp,by simp⟩)
            · omega
          case measure=>simp [intOf];omega
      · have hget:getI [(0,.bool true),(2,.bool true)] (k:Int)=none:=by
          unfold getI
          have h0:¬ ((0:Int)=(k:Int)):=by omega
          have h2:¬ ((2:Int)=(k:Int)):=by omega
          simp [h0,h2,getI]
        rw [hget,Option.getD_none] at hlk
        go_wp2
        go_roundw
        case rel=>
          refine ⟨k+1,n,xs,by omega,by go_num,⟨_,_,rfl⟩,HR.out,?_,HE.out⟩
          rcases HT.out with ⟨h0,_⟩|⟨⟨h1,h2⟩,h3,h4⟩|⟨h1,h2,h3⟩
          · omega
          · exact .inr (.inl ⟨⟨by omega,by omega⟩,h3,h4⟩)
          · exact .inr (.inr ⟨by omega,h2,h3⟩)
        case measure=>simp [intOf];omega
    · obtain rfl:k=24:=by omega
      have d1:decide ((24:Int)<24)=false:=by simp
      obtain ⟨r0,r2,hn,q0,q2,hxs⟩:∃ r0 r2,n=2*(mm+1)∧Rp 0 r0∧Rp 2 r2∧xs=r0++(msgB 0 np ep).toList++(r2++(msgB 2 np ep).toList):=by
        rcases HT.out with ⟨h0,_⟩|⟨⟨_,h2⟩,_⟩|⟨_,h2,r0,r2,h3,h4,h5⟩
        · cases h0
        · omega
        · exact ⟨r0,r2,h2,h3,h4,h5⟩
      subst hn
      obtain ⟨g,cap,hvv⟩:=ownsRow_succ (k:=2*mm+1) HR.out
      injection hvv with hA _ hc
      subst hA hc
      have HQ:=Lib.hid (show ∃ r0 r2,Rp 0 r0∧Rp 2 r2∧xs=r0++(msgB 0 np ep).toList++(r2++(msgB 2 np ep).toList) from ⟨r0,r2,q0,q2,hxs⟩)
      have HSr:=Lib.hid (HSV.out.ext HE.out)
      have s8:wr.frozen? ⟨gs,8,none⟩=false:=Blk.frozen HSr.out 8
      clear q0 q2 hxs hlk
      go_wp2
      go_ret
      exact ⟨g,c,xs,rfl,own_mono (own_setboxI HR.out HSr.out (by decide) _) (by omega),HQ.out,Blk.set_ HSr.out 8 _,own_setboxI (own_below HRV.out HE.out) HSr.out (by decide) _,
        (HXV.out.trans (ExtS.of_ext HE.out)).trans ((ExtS.set1 _ _ _ _).mono (fun k h=>.inl h))⟩
end
section
open Go.RowKit Go.Shelf
theorem ExtS.trans2 {S T:Nat→Prop} {a b c:World} (h:ExtS S a b) (k:ExtS T b c) (hT:∀ j,j<a.heap.size→T j→S j):ExtS S a c:=
  ⟨k.os.trans h.os,k.tape.trans h.tape,k.output.trans h.output,Nat.le_trans h.size k.size,fun i hi hn=>(k.block i (Nat.lt_of_lt_of_le hi h.size) (fun e=>hn (hT i hi e))).trans (h.block i hi hn)⟩
theorem tick1 (gs gl gst gn gp:Nat) (lag ep:Int) (Am:Option Addr) (nm cm:Nat) (Ao:Option Addr) (no co:Nat) (w:World)
    (hs:SrvAt w gs gl gst gn gp 1 1 lag ep 0 Am nm cm Ao no co) (ho:OneRec w gl) (hp:Blk w gp 3 #[.int .i64 0]) (hm:MapI w gn [(0,.bool true),(2,.bool true)]) :
    Calls Tryz.prog 29 #[.pointer (some ⟨gs,0,none⟩)] w fun e w'=>∃ g c xs x0 x2 gp' cp',e=.returned (.slice (some ⟨g,0,none⟩) 4 c)∧w'.ownsRow w.heap.size 84 47 (.slice (some ⟨g,0,none⟩) 4 c) 4 xs ∧
      xs=(msgR 0 x0).toList++(msgB 0 1 ep).toList++((msgR 2 x2).toList++(msgB 2 1 ep).toList)∧SrvAt w' gs gl gst gn gp' 2 cp' lag ep 1 Am nm cm Ao no co ∧
      w'.ownsRow w.heap.size 3 1 (.slice (some ⟨gp',0,none⟩) 2 cp') 2 [.int .i64 0,.int .i64 1]∧ExtS (fun k=>k=gs) w w':=by
  obtain ⟨ii,hii,hzi0,hzi1,hzi2⟩:=info_parts int_info
  have hpa:=hp.alloc (.cells #[.int .i64 1] 3)
  obtain ⟨v',W1,hr,hrow,hg⟩:=run_append_arg_grows (P:=Tryz.prog) (w:=w.alloc (.cells #[.int .i64 1] 3)) 67 67 3 ii (.int .i64 0) 1 8 Tryz.underlying67 hii hzi0 hzi1 hzi2 rfl (by decide)
    ⟨gp,0,none⟩ 1 1 [.int .i64 0] rfl (fun j u hj=>by
      match j,hj with
      | 0,hj=>simp at hj;subst hj;exact hpa.cell 0
      | (q+1),hj=>simp at hj)
    ⟨w.heap.size,0,none⟩ 1 1 [.int .i64 1] rfl (cell_one_new _ _ _) (by omega) (by unfold maxLen;omega) (by omega)
  obtain ⟨gp',cp',rfl⟩:=ownsRow_succ (k:=1) hrow
  have hv:appV Tryz.prog (w.alloc (.cells #[.int .i64 1] 3)) 67 67 (.slice (some ⟨gp,0,none⟩) 1 1) (.slice (some ⟨w.heap.size,0,none⟩) 1 1)=.slice (some ⟨gp',0,none⟩) 2 cp':=by unfold appV;rw [hr]
  have hW:appW Tryz.prog (w.alloc (.cells #[.int .i64 1] 3)) 67 67 (.slice (some ⟨gp,0,none⟩) 1 1) (.slice (some ⟨w.heap.size,0,none⟩) 1 1)=W1:=by unfold appW;rw [hr]
  have hE1:Below w.heap.size w W1:=(ext_new w (.cells #[.int .i64 1] 3)).grown hg (by simp) (fun k e=>by cases e)
  refine (tick_any 1 (by omega) (fun tn r=>∃ x,r=(msgR tn x).toList) gs gl gst gn gp 1 1 gp' cp' _ lag ep 0 Am nm cm Ao no co _ (fun _=>False) w W1 hs ho ⟨_,_,hr⟩ hv hW hrow (ExtS.of_ext hE1) (hs.ext hE1) (ho.ext hE1) (hm.ext hE1) (by omega) (by omega) (by omega) (by omega) ?_).mono ?_
  · intro tn W h0 hl
    refine (copies1 gs gl tn W h0 hl).mono ?_
    rintro e w' ⟨v,x,rfl,h1,h2⟩
    obtain ⟨g,c,rfl⟩:=ownsRow_succ (k:=0) h1
    exact ⟨_,_,_,_,rfl,.inr ⟨by omega,h1,by simp [msgR,Value.oneCell']⟩,⟨x,rfl⟩,h2⟩
  · rintro e w' ⟨g,c,xs,rfl,h1,⟨r0,r2,⟨x0,rfl⟩,⟨x2,rfl⟩,h2⟩,h3,h4,h5⟩
    exact ⟨g,c,xs,x0,x2,gp',cp',rfl,h1,h2,h3,own_mono h4 (by simp),h5.mono (fun k e=>e.elim id False.elim)⟩
theorem tick2 (gs gl gst gn gp0 gp cp B:Nat) (lag ep:Int) (np0 cp0:Nat) (lag0 ep0 sent0:Int) (Am:Option Addr) (nm cm:Nat) (Ao:Option Addr) (no co:Nat) (Am0:Option Addr) (nm0 cm0:Nat) (Ao0:Option Addr) (no0 co0:Nat) (wc w:World)
    (hsc:SrvAt wc gs gl gst gn gp0 np0 cp0 lag0 ep0 sent0 Am0 nm0 cm0 Ao0 no0 co0) (hoc:OneRec wc gl) (hmc:MapI wc gn [(0,.bool true),(2,.bool true)]) (hx:ExtS (fun k=>k=gs) wc w) (hB:wc.heap.size≤B)
    (hs:SrvAt w gs gl gst gn gp 2 cp lag ep 1 Am nm cm Ao no co) (hp:w.ownsRow B 3 1 (.slice (some ⟨gp,0,none⟩) 2 cp) 2 [.int .i64 0,.int .i64 1]) (hBw:B≤w.heap.size) :
    Calls Tryz.prog 29 #[.pointer (some ⟨gs,0,none⟩)] w fun e w'=>∃ g c xs gp' cp',e=.returned (.slice (some ⟨g,0,none⟩) 2 c)∧w'.ownsRow w.heap.size 84 47 (.slice (some ⟨g,0,none⟩) 2 c) 2 xs ∧
      xs=(msgB 0 2 ep).toList++(msgB 2 2 ep).toList∧SrvAt w' gs gl gst gn gp' 3 cp' lag ep 1 Am nm cm Ao no co ∧
      w'.ownsRow B 3 1 (.slice (some ⟨gp',0,none⟩) 3 cp') 3 [.int .i64 0,.int .i64 1,.int .i64 1]∧ExtS (fun k=>k=gs) wc w'∧ExtS (fun k=>k=gs∨k=gp) w w':=by
  obtain ⟨ii,hii,hzi0,hzi1,hzi2⟩:=info_parts int_info
  have hgn:gs≠gn:=MapI.neBlk hmc hsc
  have hgp:gs≠gp:=own_blkNe hp hs (by decide)
  have hgB:B≤gp:=(hp.lt gp rfl).1
  obtain ⟨d3,hrow,hgr⟩:=app_own (P:=Tryz.prog) (w:=w.alloc (.cells #[.int .i64 1] 3)) B 67 67 3 ii (.int .i64 0) 1 8 Tryz.underlying67 hii hzi0 hzi1 hzi2 rfl (by decide)
    (.slice (some ⟨gp,0,none⟩) 2 cp) 2 [.int .i64 0,.int .i64 1] (own_below hp (ext_new _ _)) ⟨w.heap.size,0,none⟩ 1 1 [.int .i64 1] rfl (cell_one_new _ _ _) (by simp [Value.oneCell']) (by unfold maxLen;omega) (by omega) (by simp;omega)
  obtain ⟨gp',cp',hv⟩:=ownsRow_succ (k:=2) hrow
  rw [hv] at hrow
  generalize hW1:appW Tryz.prog (w.alloc (.cells #[.int .i64 1] 3)) 67 67 (.slice (some ⟨gp,0,none⟩) 2 cp) (.slice (some ⟨w.heap.size,0,none⟩) 1 1)=W1 at hrow hgr
  have sl:=Blk.lt hs
  have hx1:ExtS (fun k=>k=gp) w W1:=⟨hgr.os,hgr.tape,hgr.output,Nat.le_trans (by simp) hgr.size,fun k hk hn=>(hgr.block k (by simp;omega) (fun e=>hn (Option.some.inj e))).trans (Below.heap_alloc w _ k hk)⟩
  have hc1:ExtS (fun k=>k=gs) wc W1:=hx.trans2 hx1 (fun j hj e=>by omega)
  have hcw:ExtS (fun k=>k=gs) wc w:=hx
  refine (tick_any 0 (by omega) (fun tn r=>r=[]) gs gl gst gn gp 2 cp gp' cp' B lag ep 1 Am nm cm Ao no co _ (fun k=>k=gp) w W1 hs (hoc.srv hsc hcw) d3 hv hW1 hrow hx1 (hs.extS hx1 hgp) (hoc.srv hsc hc1) (hmc.extS hc1 hgn.symm) (by omega) (by omega) (by omega) (by omega) ?_).mono ?_
  · intro tn W h0 hl
    refine (copies0 gs gl tn W h0 hl).mono ?_
    rintro e w' ⟨rfl,h2⟩
    exact ⟨_,_,_,_,rfl,.inl ⟨rfl,rfl,rfl⟩,rfl,h2⟩
  · rintro e w' ⟨g,c,xs,rfl,h1,⟨r0,r2,rfl,rfl,h2⟩,h3,h4,h5⟩
    refine ⟨g,c,xs,gp',cp',rfl,h1,by simpa using h2,h3,h4,hx.trans2 h5 (fun j hj e=>?_),h5⟩
    rcases e with e|e
    · exact e
    · omega
end
section
open Go.RowKit Go.Shelf
theorem mwithin (n l h:Int) (w:World):Calls Tryz.prog 117 #[.int .i64 n,.int .i64 l,.int .i64 h] w fun e w'=>e=.returned (.bool (decide (l≤n) && decide (n≤h)))∧w=w':=by
  by_cases h0:l≤n
  · have d0:decide (l≤n)=true:=by simpa using h0
    go_enter Tryz.func117,Tryz.ntmps117
    go_wp2
    go_ret
    exact ⟨by simp [d0],rfl⟩
  · have d0:decide (l≤n)=false:=by simpa using h0
    go_enter Tryz.func117,Tryz.ntmps117
    go_wp2
    go_ret
    exact ⟨by simp [d0],rfl⟩
theorem mw_yes (n l h:Int) (h0:l≤n) (h1:n≤h) (w:World):Calls Tryz.prog 117 #[.int .i64 n,.int .i64 l,.int .i64 h] w fun e w'=>e=.returned (.bool true)∧w=w':=by
  refine (mwithin n l h w).mono ?_
  rintro e w' ⟨rfl,rfl⟩
  exact ⟨by simp [h0,h1],rfl⟩
theorem mw_no (n l h:Int) (h0:n<l∨h<n) (w:World):Calls Tryz.prog 117 #[.int .i64 n,.int .i64 l,.int .i64 h] w fun e w'=>e=.returned (.bool false)∧w=w':=by
  refine (mwithin n l h w).mono ?_
  rintro e w' ⟨rfl,rfl⟩
  refine ⟨?_,rfl⟩
  rcases h0 with h0|h0
  · have:decide (l≤n)=false:=by simp;omega
    simp [this]
  · have:decide (n≤h)=false:=by simp;omega
    simp [this]
theorem sideNode (n:Int) (h0:0≤n) (h1:n≤23) (w:World):Calls Tryz.prog 116 #[.int .i64 n] w fun e w'=>e=.returned (.int .i64 1)∧w=w':=by
  go_enter Tryz.func116,Tryz.ntmps116
  go_wp2_with (go_at_call 117;refine (mw_yes n 0 23 h0 h1 w).mono ?_;rintro e w' ⟨rfl,rfl⟩)
  go_ret
  exact ⟨rfl,rfl⟩
theorem sideOrigin (w:World):Calls Tryz.prog 116 #[.int .i64 100] w fun e w'=>e=.returned (.int .i64 2)∧w=w':=by
  go_enter Tryz.func116,Tryz.ntmps116
  go_wp2_with (go_at_call 117;refine (mw_no 100 0 23 (by omega) w).mono ?_;rintro e w' ⟨rfl,rfl⟩)
  go_ret
  exact ⟨rfl,rfl⟩
theorem eqHead (h0 h1 h2 h3 h4 h5 h6 h7 h8 h9:Int) (W:World):(Op.equalIn 10000 261 (.agg #[.int .i64 h0,.int .i64 h1,.int .i64 h2,.int .i64 h3,.int .i64 h4,.int .i64 h5,.int .i64 h6,.int .i64 h7,.int .i64 h8,.int .i64 h9]) (.agg #[.int .i64 h0,.int .i64 h1,.int .i64 h2,.int .i64 h3,.int .i64 h4,.int .i64 h5,.int .i64 h6,.int .i64 h7,.int .i64 h8,.int .i64 h9])).run Tryz.prog W=.ok true W:=by
  obtain ⟨is,his,_,_,_⟩:=info_parts int_info
  have hc:Tryz.prog.cellsOf 3=1:=by kernel_rfl
  have hl:List.range 10=[0,1,2,3,4,5,6,7,8,9]:=by decide
  have hp:∀ (k:Nat) (a:Array Value) (n:Int),a[k]? = some (.int .i64 n)→(part 3 a k).run Tryz.prog W=.ok (.int .i64 n) W:=fun k a n h=>run_part_plain W (by kernel_rfl) h
  have he:∀ n:Int,(Op.equalIn 9999 3 (.int .i64 n) (.int .i64 n)).run Tryz.prog W=.ok true W:=fun n=>by
    rw [show 9999=9998+1 from rfl,run_equalIn_int (k':=.i64) W 9998 _ _ _ _ Tryz.underlying3];simp
  refine (run_equalIn_array (d:=9999) W #[.int .i64 h0,.int .i64 h1,.int .i64 h2,.int .i64 h3,.int .i64 h4,.int .i64 h5,.int .i64 h6,.int .i64 h7,.int .i64 h8,.int .i64 h9] #[.int .i64 h0,.int .i64 h1,.int .i64 h2,.int .i64 h3,.int .i64 h4,.int .i64 h5,.int .i64 h6,.int .i64 h7,.int .i64 h8,.int .i64 h9] Tryz.underlying261 his).trans ?_
  rw [hc,hl]
  simp [Op.eqItems,hp _ _ h0,hp _ _ h1,hp _ _ h2,hp _ _ h3,hp _ _ h4,hp _ _ h5,hp _ _ h6,hp _ _ h7,hp _ _ h8,hp _ _ h9,he]
theorem header_any (h0 h1 h2 h3 h4 h5 h6 h7 h8 h9 q0 q1 q2 q3 q4 q5 q6:Int) (w:World):Calls Tryz.prog 162 #[.agg #[.int .i64 h0,.int .i64 h1,.int .i64 h2,.int .i64 h3,.int .i64 h4,.int .i64 h5,.int .i64 h6,.int .i64 h7,.int .i64 h8,.int .i64 h9,.int .i64 q0,.int .i64 q1,.int .i64 q2,.int .i64 q3,.int .i64 q4,.int .i64 q5,.int .i64 q6,.int .i64 0,.slice none 0 0,.int .i64 0,.int .i64 0,.int .i64 0,.int .i64 0,.int .i64 0,.int .i64 0,.int .i64 0,.int .i64 0,.int .i64 0,.slice none 0 0,.int .i64 0,.int .i64 0,.int .i64 0,.int .i64 0,.int .i64 0,.int .i64 0,.int .i64 0,.slice none 0 0,.int .i64 0,.bool false,.int .i64 0,.int .i64 0,.int .i64 0,.slice none 0 0,.slice none 0 0,.int .i64 0,.slice none 0 0,.slice none 0 0]] w fun e w'=>e=.returned (.agg #[.int .i64 h0,.int .i64 h1,.int .i64 h2,.int .i64 h3,.int .i64 h4,.int .i64 h5,.int .i64 h6,.int .i64 h7,.int .i64 h8,.int .i64 h9])∧Below w.heap.size w w':=by
  go_enter Tryz.func162,Tryz.ntmps162
  go_wp2
  exact bodyPost_ret (v:=.agg #[.int .i64 h0,.int .i64 h1,.int .i64 h2,.int .i64 h3,.int .i64 h4,.int .i64 h5,.int .i64 h6,.int .i64 h7,.int .i64 h8,.int .i64 h9]) (by simp [results,Tryz.results162,go_sem]) rfl ⟨rfl,ext_alloc (ext_new _ _) _⟩
end
section
open Go.RowKit Go.Shelf
theorem nilChanges (w:World):Calls Tryz.prog 198 #[.slice none 0 0,.slice none 0 0] w fun e w'=>e=.returned (.bool true)∧w=w':=by
  go_enter Tryz.func198,Tryz.ntmps198
  go_wp2
  refine wp_loop_rounds 1 ?_
  rw [rounds_succ]
  go_wp2
  go_ret
  exact ⟨rfl,rfl⟩
theorem nilRows (w:World):Calls Tryz.prog 202 #[.slice none 0 0,.slice none 0 0] w fun e w'=>e=.returned (.bool true)∧w=w':=by
  go_enter Tryz.func202,Tryz.ntmps202
  go_wp2
  refine wp_loop_rounds 1 ?_
  rw [rounds_succ]
  go_wp2
  go_ret
  exact ⟨rfl,rfl⟩
theorem nilMembers (w:World):Calls Tryz.prog 204 #[.slice none 0 0,.slice none 0 0] w fun e w'=>e=.returned (.bool true)∧w=w':=by
  go_enter Tryz.func204,Tryz.ntmps204
  go_wp2
  refine wp_loop_rounds 1 ?_
  rw [rounds_succ]
  go_wp2
  go_ret
  exact ⟨rfl,rfl⟩
theorem nilNumbers (w:World):Calls Tryz.prog 205 #[.slice none 0 0,.slice none 0 0] w fun e w'=>e=.returned (.bool true)∧w=w':=by
  go_enter Tryz.func205,Tryz.ntmps205
  go_wp2
  refine wp_loop_rounds 1 ?_
  rw [rounds_succ]
  go_wp2
  go_ret
  exact ⟨rfl,rfl⟩
theorem nilProofs (w:World):Calls Tryz.prog 199 #[.slice none 0 0,.slice none 0 0,.func (.func 200) #[] #[]] w fun e w'=>e=.returned (.bool true)∧w=w':=by
  go_enter Tryz.func199,Tryz.ntmps199
  go_wp2
  refine wp_loop_rounds 1 ?_
  rw [rounds_succ]
  go_wp2
  go_ret
  exact ⟨rfl,rfl⟩
theorem nilRecs (w:World):Calls Tryz.prog 203 #[.slice none 0 0,.slice none 0 0,.func (.func 163) #[] #[]] w fun e w'=>e=.returned (.bool true)∧w=w':=by
  go_enter Tryz.func203,Tryz.ntmps203
  go_wp2
  refine wp_loop_rounds 1 ?_
  rw [rounds_succ]
  go_wp2
  go_ret
  exact ⟨rfl,rfl⟩
theorem recSame0 (w:World):Calls Tryz.prog 163 #[.agg #[.int .i64 0,.slice none 0 0],.agg #[.int .i64 0,.slice none 0 0]] w fun e w'=>e=.returned (.bool true)∧Below w.heap.size w w':=by
  go_enter Tryz.func163,Tryz.ntmps163
  go_wp2_with (go_at_call 198;refine (nilChanges _).mono ?_;rintro e w' ⟨rfl,rfl⟩)
  go_ret
  exact ⟨rfl,ext_alloc (ext_new _ _) _⟩
theorem ringSame0 (w:World):Calls Tryz.prog 166 #[.agg #[.int .i64 0,.slice none 0 0,.slice none 0 0],.agg #[.int .i64 0,.slice none 0 0,.slice none 0 0]] w fun e w'=>e=.returned (.bool true)∧Below w.heap.size w w':=by
  go_enter Tryz.func166,Tryz.ntmps166
  go_wp2_with (first|(go_at_call 204;refine (nilMembers _).mono ?_;rintro e w' ⟨rfl,rfl⟩)|(go_at_call 205;refine (nilNumbers _).mono ?_;rintro e w' ⟨rfl,rfl⟩))
  go_ret
  exact ⟨rfl,ext_alloc (ext_new _ _) _⟩
theorem qryEq (q0 q1 q2 q3 q4 q5 q6:Int) (W:World):(Op.equalIn 10000 74 (.agg #[.int .i64 q0,.int .i64 q1,.int .i64 q2,.int .i64 q3,.int .i64 q4,.int .i64 q5,.int .i64 q6]) (.agg #[.int .i64 q0,.int .i64 q1,.int .i64 q2,.int .i64 q3,.int .i64 q4,.int .i64 q5,.int .i64 q6])).run Tryz.prog W=.ok true W:=by
  simp [go_sem]
theorem entSame0 (w:World):Calls Tryz.prog 164 #[.agg #[.int .i64 0,.int .i64 0,.int .i64 0,.int .i64 0,.int .i64 0,.int .i64 0,.int .i64 0,.int .i64 0,.int .i64 0,.slice none 0 0],.agg #[.int .i64 0,.int .i64 0,.int .i64 0,.int .i64 0,.int .i64 0,.int .i64 0,.int .i64 0,.int .i64 0,.int .i64 0,.slice none 0 0]] w fun e w'=>e=.returned (.bool true)∧Below w.heap.size w w':=by
  have hq:=qryEq 0 0 0 0 0 0 0
  go_enter Tryz.func164,Tryz.ntmps164
  go_wp2_with (go_at_call 199;refine (nilProofs _).mono ?_;rintro e w' ⟨rfl,rfl⟩)
  go_ret
  exact ⟨rfl,ext_alloc (ext_new _ _) _⟩
theorem ansNums0 (w:World):Calls Tryz.prog 201 #[.agg #[.int .i64 0,.int .i64 0,.int .i64 0,.int .i64 0,.int .i64 0,.int .i64 0,.int .i64 0,.slice none 0 0,.int .i64 0,.bool false,.int .i64 0,.int .i64 0,.int .i64 0,.slice none 0 0,.slice none 0 0]] w fun e w'=>e=.returned (.agg #[.int .i64 0,.int .i64 0,.int .i64 0,.int .i64 0])∧Below w.heap.size w w':=by
  go_enter Tryz.func201,Tryz.ntmps201
  go_wp2
  exact bodyPost_ret (v:=.agg #[.int .i64 0,.int .i64 0,.int .i64 0,.int .i64 0]) (by simp [results,Tryz.results201,go_sem]) rfl ⟨rfl,ext_alloc (ext_new _ _) _⟩
theorem eqFour (W:World):(Op.equalIn 10000 298 (.agg #[.int .i64 0,.int .i64 0,.int .i64 0,.int .i64 0]) (.agg #[.int .i64 0,.int .i64 0,.int .i64 0,.int .i64 0])).run Tryz.prog W=.ok true W:=by kernel_rfl
theorem ansKeep {X W:World} {ba bb:Nat} (h:Blk X ba 82 #[.int .i64 0,.int .i64 0,.int .i64 0,.int .i64 0,.int .i64 0,.int .i64 0,.int .i64 0,.slice none 0 0,.int .i64 0,.bool false,.int .i64 0,.int .i64 0,.int .i64 0,.slice none 0 0,.slice none 0 0]∧Blk X bb 82 #[.int .i64 0,.int .i64 0,.int .i64 0,.int .i64 0,.int .i64 0,.int .i64 0,.int .i64 0,.slice none 0 0,.int .i64 0,.bool false,.int .i64 0,.int .i64 0,.int .i64 0,.slice none 0 0,.slice none 0 0]) (k:Below X.heap.size X W):W.cell? ⟨ba,0,none⟩=some (.int .i64 0)∧W.cell? ⟨ba,1,none⟩=some (.int .i64 0)∧W.cell? ⟨ba,2,none⟩=some (.int .i64 0)∧W.cell? ⟨ba,3,none⟩=some (.int .i64 0)∧W.cell? ⟨ba,4,none⟩=some (.int .i64 0)∧W.cell? ⟨ba,5,none⟩=some (.int .i64 0)∧W.cell? ⟨ba,6,none⟩=some (.int .i64 0)∧W.cell? ⟨ba,7,none⟩=some (.slice none 0 0)∧W.cell? ⟨ba,8,none⟩=some (.int .i64 0)∧W.cell? ⟨ba,9,none⟩=some (.bool false)∧W.cell? ⟨ba,10,none⟩=some (.int .i64 0)∧W.cell? ⟨ba,11,none⟩=some (.int .i64 0)∧W.cell? ⟨ba,12,none⟩=some (.int .i64 0)∧W.cell? ⟨ba,13,none⟩=some (.slice none 0 0)∧W.cell? ⟨ba,14,none⟩=some (.slice none 0 0)∧W.cell? ⟨bb,0,none⟩=some (.int .i64 0)∧W.cell? ⟨bb,1,none⟩=some (.int .i64 0)∧W.cell? ⟨bb,2,none⟩=some (.int .i64 0)∧W.cell? ⟨bb,3,none⟩=some (.int .i64 0)∧W.cell? ⟨bb,4,none⟩=some (.int .i64 0)∧W.cell? ⟨bb,5,none⟩=some (.int .i64 0)∧W.cell? ⟨bb,6,none⟩=some (.int .i64 0)∧W.cell? ⟨bb,7,none⟩=some (.slice none 0 0)∧W.cell? ⟨bb,8,none⟩=some (.int .i64 0)∧W.cell? ⟨bb,9,none⟩=some (.bool false)∧W.cell? ⟨bb,10,none⟩=some (.int .i64 0)∧W.cell? ⟨bb,11,none⟩=some (.int .i64 0)∧W.cell? ⟨bb,12,none⟩=some (.int .i64 0)∧W.cell? ⟨bb,13,none⟩=some (.slice none 0 0)∧W.cell? ⟨bb,14,none⟩=some (.slice none 0 0)∧Below X.heap.size X W:=
  ⟨(h.1.ext k).cell 0,(h.1.ext k).cell 1,(h.1.ext k).cell 2,(h.1.ext k).cell 3,(h.1.ext k).cell 4,(h.1.ext k).cell 5,(h.1.ext k).cell 6,(h.1.ext k).cell 7,(h.1.ext k).cell 8,(h.1.ext k).cell 9,(h.1.ext k).cell 10,(h.1.ext k).cell 11,(h.1.ext k).cell 12,(h.1.ext k).cell 13,(h.1.ext k).cell 14,(h.2.ext k).cell 0,(h.2.ext k).cell 1,(h.2.ext k).cell 2,(h.2.ext k).cell 3,(h.2.ext k).cell 4,(h.2.ext k).cell 5,(h.2.ext k).cell 6,(h.2.ext k).cell 7,(h.2.ext k).cell 8,(h.2.ext k).cell 9,(h.2.ext k).cell 10,(h.2.ext k).cell 11,(h.2.ext k).cell 12,(h.2.ext k).cell 13,(h.2.ext k).cell 14,k⟩
theorem ansKeepB {X W:World} {ba bb:Nat} (h:W.cell? ⟨ba,0,none⟩=some (.int .i64 0)∧W.cell? ⟨ba,1,none⟩=some (.int .i64 0)∧W.cell? ⟨ba,2,none⟩=some (.int .i64 0)∧W.cell? ⟨ba,3,none⟩=some (.int .i64 0)∧W.cell? ⟨ba,4,none⟩=some (.int .i64 0)∧W.cell? ⟨ba,5,none⟩=some (.int .i64 0)∧W.cell? ⟨ba,6,none⟩=some (.int .i64 0)∧W.cell? ⟨ba,7,none⟩=some (.slice none 0 0)∧W.cell? ⟨ba,8,none⟩=some (.int .i64 0)∧W.cell? ⟨ba,9,none⟩=some (.bool false)∧W.cell? ⟨ba,10,none⟩=some (.int .i64 0)∧W.cell? ⟨ba,11,none⟩=some (.int .i64 0)∧W.cell? ⟨ba,12,none⟩=some (.int .i64 0)∧W.cell? ⟨ba,13,none⟩=some (.slice none 0 0)∧W.cell? ⟨ba,14,none⟩=some (.slice none 0 0)∧W.cell? ⟨bb,0,none⟩=some (.int .i64 0)∧W.cell? ⟨bb,1,none⟩=some (.int .i64 0)∧W.cell? ⟨bb,2,none⟩=some (.int .i64 0)∧W.cell? ⟨bb,3,none⟩=some (.int .i64 0)∧W.cell? ⟨bb,4,none⟩=some (.int .i64 0)∧W.cell? ⟨bb,5,none⟩=some (.int .i64 0)∧W.cell? ⟨bb,6,none⟩=some (.int .i64 0)∧W.cell? ⟨bb,7,none⟩=some (.slice none 0 0)∧W.cell? ⟨bb,8,none⟩=some (.int .i64 0)∧W.cell? ⟨bb,9,none⟩=some (.bool false)∧W.cell? ⟨bb,10,none⟩=some (.int .i64 0)∧W.cell? ⟨bb,11,none⟩=some (.int .i64 0)∧W.cell? ⟨bb,12,none⟩=some (.int .i64 0)∧W.cell? ⟨bb,13,none⟩=some (.slice none 0 0)∧W.cell? ⟨bb,14,none⟩=some (.slice none 0 0)∧Below X.heap.size X W):Below X.heap.size X W:=h.2.2.2.2.2.2.2.2.2.2.2.2.2.2.2.2.2.2.2.2.2.2.2.2.2.2.2.2.2.2
theorem ansSame0 (w:World):Calls Tryz.prog 165 #[.agg #[.int .i64 0,.int .i64 0,.int .i64 0,.int .i64 0,.int .i64 0,.int .i64 0,.int .i64 0,.slice none 0 0,.int .i64 0,.bool false,.int .i64 0,.int .i64 0,.int .i64 0,.slice none 0 0,.slice none 0 0],.agg #[.int .i64 0,.int .i64 0,.int .i64 0,.int .i64 0,.int .i64 0,.int .i64 0,.int .i64 0,.slice none 0 0,.int .i64 0,.bool false,.int .i64 0,.int .i64 0,.int .i64 0,.slice none 0 0,.slice none 0 0]] w fun e w'=>e=.returned (.bool true)∧Below w.heap.size w w':=by
  obtain ⟨X,hX⟩:∃ X,X=(w.alloc (.cells #[.int .i64 0,.int .i64 0,.int .i64 0,.int .i64 0,.int .i64 0,.int .i64 0,.int .i64 0,.slice none 0 0,.int .i64 0,.bool false,.int .i64 0,.int .i64 0,.int .i64 0,.slice none 0 0,.slice none 0 0] 82)).alloc (.cells #[.int .i64 0,.int .i64 0,.int .i64 0,.int .i64 0,.int .i64 0,.int .i64 0,.int .i64 0,.slice none 0 0,.int .i64 0,.bool false,.int .i64 0,.int .i64 0,.int .i64 0,.slice none 0 0,.slice none 0 0] 82):=⟨_,rfl⟩
  have hE:Below w.heap.size w X:=by rw [hX];exact ext_alloc (ext_new _ _) _
  have HBB:=Lib.hid (show Blk X w.heap.size 82 #[.int .i64 0,.int .i64 0,.int .i64 0,.int .i64 0,.int .i64 0,.int .i64 0,.int .i64 0,.slice none 0 0,.int .i64 0,.bool false,.int .i64 0,.int .i64 0,.int .i64 0,.slice none 0 0,.slice none 0 0]∧Blk X (w.heap.size+1) 82 #[.int .i64 0,.int .i64 0,.int .i64 0,.int .i64 0,.int .i64 0,.int .i64 0,.int .i64 0,.slice none 0 0,.int .i64 0,.bool false,.int .i64 0,.int .i64 0,.int .i64 0,.slice none 0 0,.slice none 0 0] by rw [hX];exact ⟨(Blk.new _ _ _).alloc _,Blk.new' _ _ _ (by simp)⟩)
  have HE:=Lib.hid hE
  have HX:=Lib.hid hX
  clear hE hX
  have hq:=qryEq 0 0 0 0 0 0 0
  have h4:=eqFour
  go_enter Tryz.func165,Tryz.ntmps165
  go_upto_region 1 with (fail)
  rw [← HX.out]
  obtain ⟨c0,c1,c2,c3,c4,c5,c6,c7,c8,c9,c10,c11,c12,c13,c14,d0,d1,d2,d3,d4,d5,d6,d7,d8,d9,d10,d11,d12,d13,d14,_⟩:=ansKeep HBB.out (ext_refl X)
  go_wp2_with (go_at_call 202;refine (nilRows _).mono ?_;rintro e w' ⟨rfl,rfl⟩)
  go_region_held3 (fun w'=>w'.cell? ⟨w.heap.size,0,none⟩=some (.int .i64 0)∧w'.cell? ⟨w.heap.size,1,none⟩=some (.int .i64 0)∧w'.cell? ⟨w.heap.size,2,none⟩=some (.int .i64 0)∧w'.cell? ⟨w.heap.size,3,none⟩=some (.int .i64 0)∧w'.cell? ⟨w.heap.size,4,none⟩=some (.int .i64 0)∧w'.cell? ⟨w.heap.size,5,none⟩=some (.int .i64 0)∧w'.cell? ⟨w.heap.size,6,none⟩=some (.int .i64 0)∧w'.cell? ⟨w.heap.size,7,none⟩=some (.slice none 0 0)∧w'.cell? ⟨w.heap.size,8,none⟩=some (.int .i64 0)∧w'.cell? ⟨w.heap.size,9,none⟩=some (.bool false)∧w'.cell? ⟨w.heap.size,10,none⟩=some (.int .i64 0)∧w'.cell? ⟨w.heap.size,11,none⟩=some (.int .i64 0)∧w'.cell? ⟨w.heap.size,12,none⟩=some (.int .i64 0)∧w'.cell? ⟨w.heap.size,13,none⟩=some (.slice none 0 0)∧w'.cell? ⟨w.heap.size,14,none⟩=some (.slice none 0 0)∧w'.cell? ⟨w.heap.size+1,0,none⟩=some (.int .i64 0)∧w'.cell? ⟨w.heap.size+1,1,none⟩=some (.int .i64 0)∧w'.cell? ⟨w.heap.size+1,2,none⟩=some (.int .i64 0)∧w'.cell? ⟨w.heap.size+1,3,none⟩=some (.int .i64 0)∧w'.cell? ⟨w.heap.size+1,4,none⟩=some (.int .i64 0)∧w'.cell? ⟨w.heap.size+1,5,none⟩=some (.int .i64 0)∧w'.cell? ⟨w.heap.size+1,6,none⟩=some (.int .i64 0)∧w'.cell? ⟨w.heap.size+1,7,none⟩=some (.slice none 0 0)∧w'.cell? ⟨w.heap.size+1,8,none⟩=some (.int .i64 0)∧w'.cell? ⟨w.heap.size+1,9,none⟩=some (.bool false)∧w'.cell? ⟨w.heap.size+1,10,none⟩=some (.int .i64 0)∧w'.cell? ⟨w.heap.size+1,11,none⟩=some (.int .i64 0)∧w'.cell? ⟨w.heap.size+1,12,none⟩=some (.int .i64 0)∧w'.cell? ⟨w.heap.size+1,13,none⟩=some (.slice none 0 0)∧w'.cell? ⟨w.heap.size+1,14,none⟩=some (.slice none 0 0)∧Below X.heap.size X w')
    (first|with_reducible assumption|exact ansKeep HBB.out (by repeat (first|with_reducible refine ext_alloc ?_ _|with_reducible refine Below.drew ?_|with_reducible refine ext_drewN ?_ _|with_reducible assumption|with_reducible exact ext_refl _)))
    (first
      | (go_at_call 201;(with_reducible refine (ansNums0 _).mono ?_);rintro e Z ⟨rfl,hb'⟩;have hXZ:=ext_call (ansKeepB (by assumption)) hb';clear hb')
      | (go_at_call 199;(with_reducible refine (nilProofs _).mono ?_);rintro e Z ⟨rfl,rfl⟩)
      | (go_at_call 203;(with_reducible refine (nilRecs _).mono ?_);rintro e Z ⟨rfl,rfl⟩))
  all_goals
    have HZ:=Lib.hid (ext_call HE.out (by first|exact hXZ|exact ansKeepB (by assumption)))
    go_wp2
    go_ret
    exact ⟨rfl,HZ.out⟩
end
section
open Go.RowKit Go.Shelf
def LdOK (P:Program) (w:World) (p:Value) (ty:TypeId):Prop:=∃ v,(Instr.loadAt ty p).run P w=.ok v w
def ldV (P:Program) (w:World) (p:Value) (ty:TypeId):Value:=match (Instr.loadAt ty p).run P w with | .ok v _=>v|_=>undef
theorem ld_run {P:Program} {w:World} {p:Value} {ty:TypeId} (h:LdOK P w p ty):(Instr.loadAt ty p).run P w=.ok (ldV P w p ty) w:=by
  obtain ⟨v,h⟩:=h
  unfold ldV
  rw [h]
theorem ld_exec {P:Program} {w:World} {ρ:Operand→Value} {d:Option Tmp} {x:Operand} {ty t:TypeId} {p:String} {af:Array Edge} {g:Option (Nat × Bool)} (h:LdOK P w (ρ x) ty) :
    (execOp ρ { dst:=d,op:=.load ty x,type:=t,pos:=p,after:=af,guard:=g }).run P w=.ok (.value (ldV P w (ρ x) ty)) w:=by
  have h':=ld_run h
  unfold execOp
  simp only [Sem.run_bind,Sem.run_pure,Result.andThen_ok,h']
theorem ld_sem {P:Program} {w:World} {ro:Option Nat} {ρ:Operand→Value} {d:Option Tmp} {x:Operand} {ty t:TypeId} {p:String} {af:Array Edge} {g:Option (Nat × Bool)} (h:LdOK P w (ρ x) ty) :
    (Oper.semAt ro ρ { dst:=d,op:=.load ty x,type:=t,pos:=p,after:=af,guard:=g }).run P w=.ok (.value (ldV P w (ρ x) ty)) w:=by
  rw [Oper.semAt_eq ro ρ _ (by intro c h;cases h)]
  exact ld_exec h
theorem ld_blk {P:Program} {W:World} {b o e:Nat} {t ty:TypeId} {va cs:Array Value} {d:TypeDesc} (h:Blk W b t va) (hcs:va.extract o e=cs) (hu:P.underlying ty=some d) (hd:d.isRow=true) (hi:(P.info? ty).map (·.size)=some cs.size) :
    LdOK P W (.pointer (some ⟨b,o,none⟩)) ty∧ldV P W (.pointer (some ⟨b,o,none⟩)) ty=.agg cs:=by
  have hr:W.rangeAt b o cs.toList:=fun j v hv=>by
    rw [h.cell]
    subst hcs
    simp only [Array.toList_extract,List.extract_eq_take_drop,List.getElem?_take,List.getElem?_drop] at hv
    split at hv
    · simpa using hv
    · cases hv
  have:=run_loadAt_mid (P:=P) W b o ty cs.toList d hr hu hd (by simpa using hi)
  simp only [Array.toArray_toList] at this
  exact ⟨⟨_,this⟩,by unfold ldV;rw [this]⟩
theorem sKeep {X W:World} {A B:Nat} {va qa ra ea aa ga:Array Value} (h:Blk X A 84 va∧Blk X B 84 va) (hm:va.extract 0 47=va) (hqq:va.extract 10 17=qa) (hr:va.extract 17 19=ra) (he:va.extract 19 29=ea) (ha:va.extract 29 44=aa) (hg:va.extract 44 47=ga) (zm:va.size=47) (zq:qa.size=7) (zr:ra.size=2) (ze:ea.size=10) (za:aa.size=15) (zg:ga.size=3) (k:Below X.heap.size X W):(LdOK Tryz.prog W (.pointer (some ⟨A,0,none⟩)) 84∧ldV Tryz.prog W (.pointer (some ⟨A,0,none⟩)) 84=.agg va)∧(LdOK Tryz.prog W (.pointer (some ⟨A,10,none⟩)) 74∧ldV Tryz.prog W (.pointer (some ⟨A,10,none⟩)) 74=.agg qa)∧(LdOK Tryz.prog W (.pointer (some ⟨A,17,none⟩)) 43∧ldV Tryz.prog W (.pointer (some ⟨A,17,none⟩)) 43=.agg ra)∧(LdOK Tryz.prog W (.pointer (some ⟨A,19,none⟩)) 77∧ldV Tryz.prog W (.pointer (some ⟨A,19,none⟩)) 77=.agg ea)∧(LdOK Tryz.prog W (.pointer (some ⟨A,29,none⟩)) 82∧ldV Tryz.prog W (.pointer (some ⟨A,29,none⟩)) 82=.agg aa)∧(LdOK Tryz.prog W (.pointer (some ⟨A,44,none⟩)) 69∧ldV Tryz.prog W (.pointer (some ⟨A,44,none⟩)) 69=.agg ga)∧(LdOK Tryz.prog W (.pointer (some ⟨B,0,none⟩)) 84∧ldV Tryz.prog W (.pointer (some ⟨B,0,none⟩)) 84=.agg va)∧(LdOK Tryz.prog W (.pointer (some ⟨B,10,none⟩)) 74∧ldV Tryz.prog W (.pointer (some ⟨B,10,none⟩)) 74=.agg qa)∧(LdOK Tryz.prog W (.pointer (some ⟨B,17,none⟩)) 43∧ldV Tryz.prog W (.pointer (some ⟨B,17,none⟩)) 43=.agg ra)∧(LdOK Tryz.prog W (.pointer (some ⟨B,19,none⟩)) 77∧ldV Tryz.prog W (.pointer (some ⟨B,19,none⟩)) 77=.agg ea)∧(LdOK Tryz.prog W (.pointer (some ⟨B,29,none⟩)) 82∧ldV Tryz.prog W (.pointer (some ⟨B,29,none⟩)) 82=.agg aa)∧(LdOK Tryz.prog W (.pointer (some ⟨B,44,none⟩)) 69∧ldV Tryz.prog W (.pointer (some ⟨B,44,none⟩)) 69=.agg ga)∧Below X.heap.size X W:=
  ⟨ld_blk (h.1.ext k) hm Tryz.underlying84 rfl (by rw [zm];kernel_rfl),ld_blk (h.1.ext k) hqq Tryz.underlying74 rfl (by rw [zq];kernel_rfl),ld_blk (h.1.ext k) hr Tryz.underlying43 rfl (by rw [zr];kernel_rfl),ld_blk (h.1.ext k) he Tryz.underlying77 rfl (by rw [ze];kernel_rfl),ld_blk (h.1.ext k) ha Tryz.underlying82 rfl (by rw [za];kernel_rfl),ld_blk (h.1.ext k) hg Tryz.underlying69 rfl (by rw [zg];kernel_rfl),ld_blk (h.2.ext k) hm Tryz.underlying84 rfl (by rw [zm];kernel_rfl),ld_blk (h.2.ext k) hqq Tryz.underlying74 rfl (by rw [zq];kernel_rfl),ld_blk (h.2.ext k) hr Tryz.underlying43 rfl (by rw [zr];kernel_rfl),ld_blk (h.2.ext k) he Tryz.underlying77 rfl (by rw [ze];kernel_rfl),ld_blk (h.2.ext k) ha Tryz.underlying82 rfl (by rw [za];kernel_rfl),ld_blk (h.2.ext k) hg Tryz.underlying69 rfl (by rw [zg];kernel_rfl),k⟩
theorem sKeepB {X W:World} {A B:Nat} {va qa ra ea aa ga:Array Value} (h:(LdOK Tryz.prog W (.pointer (some ⟨A,0,none⟩)) 84∧ldV Tryz.prog W (.pointer (some ⟨A,0,none⟩)) 84=.agg va)∧(LdOK Tryz.prog W (.pointer (some ⟨A,10,none⟩)) 74∧ldV Tryz.prog W (.pointer (some ⟨A,10,none⟩)) 74=.agg qa)∧(LdOK Tryz.prog W (.pointer (some ⟨A,17,none⟩)) 43∧ldV Tryz.prog W (.pointer (some ⟨A,17,none⟩)) 43=.agg ra)∧(LdOK Tryz.prog W (.pointer (some ⟨A,19,none⟩)) 77∧ldV Tryz.prog W (.pointer (some ⟨A,19,none⟩)) 77=.agg ea)∧(LdOK Tryz.prog W (.pointer (some ⟨A,29,none⟩)) 82∧ldV Tryz.prog W (.pointer (some ⟨A,29,none⟩)) 82=.agg aa)∧(LdOK Tryz.prog W (.pointer (some ⟨A,44,none⟩)) 69∧ldV Tryz.prog W (.pointer (some ⟨A,44,none⟩)) 69=.agg ga)∧(LdOK Tryz.prog W (.pointer (some ⟨B,0,none⟩)) 84∧ldV Tryz.prog W (.pointer (some ⟨B,0,none⟩)) 84=.agg va)∧(LdOK Tryz.prog W (.pointer (some ⟨B,10,none⟩)) 74∧ldV Tryz.prog W (.pointer (some ⟨B,10,none⟩)) 74=.agg qa)∧(LdOK Tryz.prog W (.pointer (some ⟨B,17,none⟩)) 43∧ldV Tryz.prog W (.pointer (some ⟨B,17,none⟩)) 43=.agg ra)∧(LdOK Tryz.prog W (.pointer (some ⟨B,19,none⟩)) 77∧ldV Tryz.prog W (.pointer (some ⟨B,19,none⟩)) 77=.agg ea)∧(LdOK Tryz.prog W (.pointer (some ⟨B,29,none⟩)) 82∧ldV Tryz.prog W (.pointer (some ⟨B,29,none⟩)) 82=.agg aa)∧(LdOK Tryz.prog W (.pointer (some ⟨B,44,none⟩)) 69∧ldV Tryz.prog W (.pointer (some ⟨B,44,none⟩)) 69=.agg ga)∧Below X.heap.size X W):Below X.heap.size X W:=h.2.2.2.2.2.2.2.2.2.2.2.2
attribute [local go_sem ↓] ld_exec ld_sem
theorem msgSameC (va qa ra ea aa ga:Array Value) (hs:Array Value) (hqq:va.extract 10 17=qa) (hr:va.extract 17 19=ra) (he:va.extract 19 29=ea) (ha:va.extract 29 44=aa) (hg:va.extract 44 47=ga) (zm:va.size=47) (zq:qa.size=7) (zr:ra.size=2) (ze:ea.size=10) (za:aa.size=15) (zg:ga.size=3)
    (HH:∀ W,Calls Tryz.prog 162 #[.agg va] W fun e w'=>e=.returned (.agg hs)∧Below W.heap.size W w')
    (h10:∀ W,(Op.equalIn 10000 261 (.agg hs) (.agg hs)).run Tryz.prog W=.ok true W)
    (hq:∀ W,(Op.equalIn 10000 74 (.agg qa) (.agg qa)).run Tryz.prog W=.ok true W)
    (HR:∀ W,Calls Tryz.prog 163 #[.agg ra,.agg ra] W fun e w'=>e=.returned (.bool true)∧Below W.heap.size W w')
    (HEn:∀ W,Calls Tryz.prog 164 #[.agg ea,.agg ea] W fun e w'=>e=.returned (.bool true)∧Below W.heap.size W w')
    (HA:∀ W,Calls Tryz.prog 165 #[.agg aa,.agg aa] W fun e w'=>e=.returned (.bool true)∧Below W.heap.size W w')
    (HG:∀ W,Calls Tryz.prog 166 #[.agg ga,.agg ga] W fun e w'=>e=.returned (.bool true)∧Below W.heap.size W w')
    (w:World):Calls Tryz.prog 121 #[.agg va,.agg va] w fun e w'=>e=.returned (.bool true)∧Below w.heap.size w w':=by
  have hm:va.extract 0 47=va:=by rw [← zm];simp
  have HH':=Lib.hid HH
  have HR':=Lib.hid HR
  have HEn':=Lib.hid HEn
  have HA':=Lib.hid HA
  have HG':=Lib.hid HG
  obtain ⟨X,hX⟩:∃ X,X=(w.alloc (.cells va 84)).alloc (.cells va 84):=⟨_,rfl⟩
  have HE:=Lib.hid (show Below w.heap.size w X by rw [hX];exact ext_alloc (ext_new _ _) _)
  have HBB:=Lib.hid (show Blk X w.heap.size 84 va∧Blk X (w.heap.size+1) 84 va by rw [hX];exact ⟨(Blk.new _ _ _).alloc _,Blk.new' _ _ _ (by simp)⟩)
  have HK:=Lib.hid (fun W k=>sKeep (W:=W) HBB.out hm hqq hr he ha hg zm zq zr ze za zg k)
  have HX:=Lib.hid hX
  clear hX HH HR HEn HA HG hm hr he ha hg zq zr ze za zg
  go_enter Tryz.func121,Tryz.ntmps121
  go_upto_region 1 with (fail)
  rw [← HX.out]
  go_region_held3 (fun w'=>(LdOK Tryz.prog w' (.pointer (some ⟨w.heap.size,0,none⟩)) 84∧ldV Tryz.prog w' (.pointer (some ⟨w.heap.size,0,none⟩)) 84=.agg va)∧(LdOK Tryz.prog w' (.pointer (some ⟨w.heap.size,10,none⟩)) 74∧ldV Tryz.prog w' (.pointer (some ⟨w.heap.size,10,none⟩)) 74=.agg qa)∧(LdOK Tryz.prog w' (.pointer (some ⟨w.heap.size,17,none⟩)) 43∧ldV Tryz.prog w' (.pointer (some ⟨w.heap.size,17,none⟩)) 43=.agg ra)∧(LdOK Tryz.prog w' (.pointer (some ⟨w.heap.size,19,none⟩)) 77∧ldV Tryz.prog w' (.pointer (some ⟨w.heap.size,19,none⟩)) 77=.agg ea)∧(LdOK Tryz.prog w' (.pointer (some ⟨w.heap.size,29,none⟩)) 82∧ldV Tryz.prog w' (.pointer (some ⟨w.heap.size,29,none⟩)) 82=.agg aa)∧(LdOK Tryz.prog w' (.pointer (some ⟨w.heap.size,44,none⟩)) 69∧ldV Tryz.prog w' (.pointer (some ⟨w.heap.size,44,none⟩)) 69=.agg ga)∧(LdOK Tryz.prog w' (.pointer (some ⟨w.heap.size+1,0,none⟩)) 84∧ldV Tryz.prog w' (.pointer (some ⟨w.heap.size+1,0,none⟩)) 84=.agg va)∧(LdOK Tryz.prog w' (.pointer (some ⟨w.heap.size+1,10,none⟩)) 74∧ldV Tryz.prog w' (.pointer (some ⟨w.heap.size+1,10,none⟩)) 74=.agg qa)∧(LdOK Tryz.prog w' (.pointer (some ⟨w.heap.size+1,17,none⟩)) 43∧ldV Tryz.prog w' (.pointer (some ⟨w.heap.size+1,17,none⟩)) 43=.agg ra)∧(LdOK Tryz.prog w' (.pointer (some ⟨w.heap.size+1,19,none⟩)) 77∧ldV Tryz.prog w' (.pointer (some ⟨w.heap.size+1,19,none⟩)) 77=.agg ea)∧(LdOK Tryz.prog w' (.pointer (some ⟨w.heap.size+1,29,none⟩)) 82∧ldV Tryz.prog w' (.pointer (some ⟨w.heap.size+1,29,none⟩)) 82=.agg aa)∧(LdOK Tryz.prog w' (.pointer (some ⟨w.heap.size+1,44,none⟩)) 69∧ldV Tryz.prog w' (.pointer (some ⟨w.heap.size+1,44,none⟩)) 69=.agg ga)∧Below X.heap.size X w')
    (first|with_reducible assumption|exact HK.out _ (by repeat (first|with_reducible refine ext_alloc ?_ _|with_reducible refine Below.drew ?_|with_reducible refine ext_drewN ?_ _|with_reducible assumption|with_reducible exact ext_refl _)))
    (first
      | (go_at_call 162;(with_reducible refine (HH'.out _).mono ?_);rintro e Z ⟨rfl,hb'⟩;have hXZ:=ext_call (sKeepB (by assumption)) hb';clear hb')
      | (go_at_call 163;(with_reducible refine (HR'.out _).mono ?_);rintro e Z ⟨rfl,hb'⟩;have hXZ:=ext_call (sKeepB (by assumption)) hb';clear hb')
      | (go_at_call 164;(with_reducible refine (HEn'.out _).mono ?_);rintro e Z ⟨rfl,hb'⟩;have hXZ:=ext_call (sKeepB (by assumption)) hb';clear hb')
      | (go_at_call 165;(with_reducible refine (HA'.out _).mono ?_);rintro e Z ⟨rfl,hb'⟩;have hXZ:=ext_call (sKeepB (by assumption)) hb';clear hb')
      | (go_at_call 166;(with_reducible refine (HG'.out _).mono ?_);rintro e Z ⟨rfl,hb'⟩;have hXZ:=ext_call (sKeepB (by assumption)) hb';clear hb'))
  all_goals
    have HZ:=Lib.hid (ext_call HE.out (by first|exact hXZ|exact sKeepB (by assumption)))
    clear hXZ
    go_wp2
    go_ret
    exact ⟨rfl,HZ.out⟩
end
section
open Go.RowKit Go.Shelf
theorem msgSame (h0 h1 h2 h3 h4 h5 h6 h7 h8 h9 q0 q1 q2 q3 q4 q5 q6:Int) (w:World):Calls Tryz.prog 121 #[.agg #[.int .i64 h0,.int .i64 h1,.int .i64 h2,.int .i64 h3,.int .i64 h4,.int .i64 h5,.int .i64 h6,.int .i64 h7,.int .i64 h8,.int .i64 h9,.int .i64 q0,.int .i64 q1,.int .i64 q2,.int .i64 q3,.int .i64 q4,.int .i64 q5,.int .i64 q6,.int .i64 0,.slice none 0 0,.int .i64 0,.int .i64 0,.int .i64 0,.int .i64 0,.int .i64 0,.int .i64 0,.int .i64 0,.int .i64 0,.int .i64 0,.slice none 0 0,.int .i64 0,.int .i64 0,.int .i64 0,.int .i64 0,.int .i64 0,.int .i64 0,.int .i64 0,.slice none 0 0,.int .i64 0,.bool false,.int .i64 0,.int .i64 0,.int .i64 0,.slice none 0 0,.slice none 0 0,.int .i64 0,.slice none 0 0,.slice none 0 0],.agg #[.int .i64 h0,.int .i64 h1,.int .i64 h2,.int .i64 h3,.int .i64 h4,.int .i64 h5,.int .i64 h6,.int .i64 h7,.int .i64 h8,.int .i64 h9,.int .i64 q0,.int .i64 q1,.int .i64 q2,.int .i64 q3,.int .i64 q4,.int .i64 q5,.int .i64 q6,.int .i64 0,.slice none 0 0,.int .i64 0,.int .i64 0,.int .i64 0,.int .i64 0,.int .i64 0,.int .i64 0,.int .i64 0,.int .i64 0,.int .i64 0,.slice none 0 0,.int .i64 0,.int .i64 0,.int .i64 0,.int .i64 0,.int .i64 0,.int .i64 0,.int .i64 0,.slice none 0 0,.int .i64 0,.bool false,.int .i64 0,.int .i64 0,.int .i64 0,.slice none 0 0,.slice none 0 0,.int .i64 0,.slice none 0 0,.slice none 0 0]] w fun e w'=>e=.returned (.bool true)∧Below w.heap.size w w':=by
  have HH:=header_any h0 h1 h2 h3 h4 h5 h6 h7 h8 h9 q0 q1 q2 q3 q4 q5 q6
  obtain ⟨va,hva⟩:∃ va:Array Value,va=#[.int .i64 h0,.int .i64 h1,.int .i64 h2,.int .i64 h3,.int .i64 h4,.int .i64 h5,.int .i64 h6,.int .i64 h7,.int .i64 h8,.int .i64 h9,.int .i64 q0,.int .i64 q1,.int .i64 q2,.int .i64 q3,.int .i64 q4,.int .i64 q5,.int .i64 q6,.int .i64 0,.slice none 0 0,.int .i64 0,.int .i64 0,.int .i64 0,.int .i64 0,.int .i64 0,.int .i64 0,.int .i64 0,.int .i64 0,.int .i64 0,.slice none 0 0,.int .i64 0,.int .i64 0,.int .i64 0,.int .i64 0,.int .i64 0,.int .i64 0,.int .i64 0,.slice none 0 0,.int .i64 0,.bool false,.int .i64 0,.int .i64 0,.int .i64 0,.slice none 0 0,.slice none 0 0,.int .i64 0,.slice none 0 0,.slice none 0 0]:=⟨_,rfl⟩
  rw [← hva] at HH ⊢
  refine msgSameC va #[.int .i64 q0,.int .i64 q1,.int .i64 q2,.int .i64 q3,.int .i64 q4,.int .i64 q5,.int .i64 q6] #[.int .i64 0,.slice none 0 0] #[.int .i64 0,.int .i64 0,.int .i64 0,.int .i64 0,.int .i64 0,.int .i64 0,.int .i64 0,.int .i64 0,.int .i64 0,.slice none 0 0] #[.int .i64 0,.int .i64 0,.int .i64 0,.int .i64 0,.int .i64 0,.int .i64 0,.int .i64 0,.slice none 0 0,.int .i64 0,.bool false,.int .i64 0,.int .i64 0,.int .i64 0,.slice none 0 0,.slice none 0 0] #[.int .i64 0,.slice none 0 0,.slice none 0 0] #[.int .i64 h0,.int .i64 h1,.int .i64 h2,.int .i64 h3,.int .i64 h4,.int .i64 h5,.int .i64 h6,.int .i64 h7,.int .i64 h8,.int .i64 h9] ?_ ?_ ?_ ?_ ?_ ?_ ?_ ?_ ?_ ?_ ?_ HH (eqHead h0 h1 h2 h3 h4 h5 h6 h7 h8 h9) (qryEq q0 q1 q2 q3 q4 q5 q6) recSame0 entSame0 ansSame0 ringSame0 w
  all_goals (try subst hva;kernel_rfl)
end
section
open Go.RowKit
attribute [local go_sem ↓] Go.wp_at_zero Go.wp_at_succ
theorem queryValid1 (w:World):Calls Tryz.prog 118 #[.agg #[.int .i64 1,.int .i64 0,.int .i64 0,.int .i64 5,.int .i64 5,.int .i64 0,.int .i64 0]] w fun e w'=>e=.returned (.bool true)∧Below w.heap.size w w':=by
  go_enter Tryz.func118,Tryz.ntmps118
  go_wp2
  go_ret
  exact ⟨rfl,ext_new _ _⟩
theorem queryValid0 (w:World):Calls Tryz.prog 118 #[.agg #[.int .i64 1,.int .i64 0,.int .i64 0,.int .i64 5,.int .i64 5,.int .i64 0,.int .i64 0]] w fun e w'=>e=.returned (.bool true)∧Below w.heap.size w w':=by
  go_enter Tryz.func118,Tryz.ntmps118
  go_wp2
  go_ret
  exact ⟨rfl,ext_new _ _⟩
theorem queryScan1 (w:World):Calls Tryz.prog 231 #[.agg #[.int .i64 1,.int .i64 0,.int .i64 0,.int .i64 5,.int .i64 5,.int .i64 0,.int .i64 0]] w fun e w'=>e=.returned (.tuple #[.int .i64 0,.int .i64 0,.int .i64 5,.int .i64 5])∧Below w.heap.size w w':=by
  have HB:=Lib.hid (Blk.new w 74 #[.int .i64 1,.int .i64 0,.int .i64 0,.int .i64 5,.int .i64 5,.int .i64 0,.int .i64 0])
  have c0:=HB.out.cell 0;have c1:=HB.out.cell 1;have c2:=HB.out.cell 2;have c3:=HB.out.cell 3;have c4:=HB.out.cell 4;have c5:=HB.out.cell 5;have c6:=HB.out.cell 6
  go_enter Tryz.func231,Tryz.ntmps231
  go_wp2_with fail
  refine (queryValid1 _).mono ?_
  rintro e W1 ⟨rfl,hb1⟩
  have HB1:=Lib.hid (HB.out.ext hb1)
  have HE1:=Lib.hid (ext_call (ext_new w _) hb1)
  clear hb1 c0 c1 c2 c3 c4 c5 c6
  have c0:=HB1.out.cell 0;have c1:=HB1.out.cell 1;have c2:=HB1.out.cell 2;have c3:=HB1.out.cell 3;have c4:=HB1.out.cell 4;have c5:=HB1.out.cell 5;have c6:=HB1.out.cell 6
  go_wp2
  go_quiet (fail)
  go_wp2
  refine bodyPost_ret (v:=.tuple #[.int .i64 0,.int .i64 0,.int .i64 5,.int .i64 5]) (by simp [results,Tryz.results231,go_sem]) rfl ⟨rfl,?_⟩
  exact ext_drewN HE1.out _
theorem queryScan0 (w:World):Calls Tryz.prog 231 #[.agg #[.int .i64 1,.int .i64 0,.int .i64 0,.int .i64 5,.int .i64 5,.int .i64 0,.int .i64 0]] w fun e w'=>e=.returned (.tuple #[.int .i64 0,.int .i64 0,.int .i64 5,.int .i64 5])∧Below w.heap.size w w':=by
  have HB:=Lib.hid (Blk.new w 74 #[.int .i64 1,.int .i64 0,.int .i64 0,.int .i64 5,.int .i64 5,.int .i64 0,.int .i64 0])
  have c0:=HB.out.cell 0;have c1:=HB.out.cell 1;have c2:=HB.out.cell 2;have c3:=HB.out.cell 3;have c4:=HB.out.cell 4;have c5:=HB.out.cell 5;have c6:=HB.out.cell 6
  go_enter Tryz.func231,Tryz.ntmps231
  go_wp2_with fail
  refine (queryValid0 _).mono ?_
  rintro e W1 ⟨rfl,hb1⟩
  have HB1:=Lib.hid (HB.out.ext hb1)
  have HE1:=Lib.hid (ext_call (ext_new w _) hb1)
  clear hb1 c0 c1 c2 c3 c4 c5 c6
  have c0:=HB1.out.cell 0;have c1:=HB1.out.cell 1;have c2:=HB1.out.cell 2;have c3:=HB1.out.cell 3;have c4:=HB1.out.cell 4;have c5:=HB1.out.cell 5;have c6:=HB1.out.cell 6
  go_wp2
  go_quiet (fail)
  go_wp2
  refine bodyPost_ret (v:=.tuple #[.int .i64 0,.int .i64 0,.int .i64 5,.int .i64 5]) (by simp [results,Tryz.results231,go_sem]) rfl ⟨rfl,?_⟩
  exact ext_drewN HE1.out _
theorem proofOf1 (w:World):Calls Tryz.prog 208 #[.agg #[.int .i64 1,.int .i64 0,.int .i64 0,.int .i64 5,.int .i64 5,.int .i64 0,.int .i64 0]] w fun e w'=>e=.returned (.agg #[.int .i64 0,.int .i64 0,.int .i64 5,.int .i64 5])∧Below w.heap.size w w':=by
  have HS:=Lib.hid (Blk.new' (w.alloc (.cells #[.int .i64 1,.int .i64 0,.int .i64 0,.int .i64 5,.int .i64 5,.int .i64 0,.int .i64 0] 74)) 305 #[.int .i64 0,.int .i64 0,.int .i64 0,.int .i64 0] (b:=w.heap.size+1) (by simp))
  go_enter Tryz.func208,Tryz.ntmps208
  go_wp2_with fail
  refine (queryScan1 _).mono ?_
  rintro e W1 ⟨rfl,hb1⟩
  have HS1:=Lib.hid (HS.out.ext hb1)
  have HE1:=Lib.hid (ext_call (ext_alloc (ext_new w _) _) hb1)
  clear hb1
  have c0:=HS1.out.cell 0;have c1:=HS1.out.cell 1;have c2:=HS1.out.cell 2;have c3:=HS1.out.cell 3
  have f0:=HS1.out.frozen 0
  have f1:=HS1.out.frozen 1
  have f2:=HS1.out.frozen 2
  have f3:=HS1.out.frozen 3
  go_wp2
  have hBf:=(((((((HS1.out.set_ 0 (.int .i64 0)).set_ 1 (.int .i64 0)).set_ 2 (.int .i64 5)).set_ 3 (.int .i64 5)).set_ 0 (.int .i64 0)).set_ 1 (.int .i64 0)).set_ 2 (.int .i64 5)).set_ 3 (.int .i64 5)
  have y0:=hBf.cell 0;have y1:=hBf.cell 1;have y2:=hBf.cell 2;have y3:=hBf.cell 3
  refine bodyPost_ret (v:=.agg #[.int .i64 0,.int .i64 0,.int .i64 5,.int .i64 5]) (by simp [results,Tryz.results208,go_sem,y0,y1,y2,y3]) rfl ⟨rfl,?_⟩
  repeat (first|with_reducible exact HE1.out|refine ext_set ?_ (by simp) _)
theorem proofOf0 (w:World):Calls Tryz.prog 208 #[.agg #[.int .i64 1,.int .i64 0,.int .i64 0,.int .i64 5,.int .i64 5,.int .i64 0,.int .i64 0]] w fun e w'=>e=.returned (.agg #[.int .i64 0,.int .i64 0,.int .i64 5,.int .i64 5])∧Below w.heap.size w w':=by
  have HS:=Lib.hid (Blk.new' (w.alloc (.cells #[.int .i64 1,.int .i64 0,.int .i64 0,.int .i64 5,.int .i64 5,.int .i64 0,.int .i64 0] 74)) 305 #[.int .i64 0,.int .i64 0,.int .i64 0,.int .i64 0] (b:=w.heap.size+1) (by simp))
  go_enter Tryz.func208,Tryz.ntmps208
  go_wp2_with fail
  refine (queryScan0 _).mono ?_
  rintro e W1 ⟨rfl,hb1⟩
  have HS1:=Lib.hid (HS.out.ext hb1)
  have HE1:=Lib.hid (ext_call (ext_alloc (ext_new w _) _) hb1)
  clear hb1
  have c0:=HS1.out.cell 0;have c1:=HS1.out.cell 1;have c2:=HS1.out.cell 2;have c3:=HS1.out.cell 3
  have f0:=HS1.out.frozen 0
  have f1:=HS1.out.frozen 1
  have f2:=HS1.out.frozen 2
  have f3:=HS1.out.frozen 3
  go_wp2
  have hBf:=(((((((HS1.out.set_ 0 (.int .i64 0)).set_ 1 (.int .i64 0)).set_ 2 (.int .i64 5)).set_ 3 (.int .i64 5)).set_ 0 (.int .i64 0)).set_ 1 (.int .i64 0)).set_ 2 (.int .i64 5)).set_ 3 (.int .i64 5)
  have y0:=hBf.cell 0;have y1:=hBf.cell 1;have y2:=hBf.cell 2;have y3:=hBf.cell 3
  refine bodyPost_ret (v:=.agg #[.int .i64 0,.int .i64 0,.int .i64 5,.int .i64 5]) (by simp [results,Tryz.results208,go_sem,y0,y1,y2,y3]) rfl ⟨rfl,?_⟩
  repeat (first|with_reducible exact HE1.out|refine ext_set ?_ (by simp) _)
end
section
open Go.RowKit Go.Shelf
theorem side_q (n:Int) (h0:0≤n) (h1:n≤23) (w:World):Calls Tryz.prog 116 #[.int .i64 n] w fun e w'=>e=.returned (.int .i64 1)∧w'=w:=
  (sideNode n h0 h1 w).mono fun _ _ h=>⟨h.1,h.2.symm⟩
theorem sideO_q (w:World):Calls Tryz.prog 116 #[.int .i64 100] w fun e w'=>e=.returned (.int .i64 2)∧w'=w:=
  (sideOrigin w).mono fun _ _ h=>⟨h.1,h.2.symm⟩
theorem mw_qy (n l h:Int) (h0:l≤n) (h1:n≤h) (w:World):Calls Tryz.prog 117 #[.int .i64 n,.int .i64 l,.int .i64 h] w fun e w'=>e=.returned (.bool true)∧w'=w:=
  (mw_yes n l h h0 h1 w).mono fun _ _ h=>⟨h.1,h.2.symm⟩
theorem mw_qn (n l h:Int) (h0:n<l∨h<n) (w:World):Calls Tryz.prog 117 #[.int .i64 n,.int .i64 l,.int .i64 h] w fun e w'=>e=.returned (.bool false)∧w'=w:=
  (mw_no n l h h0 w).mono fun _ _ h=>⟨h.1,h.2.symm⟩
attribute [local go_sem ↓] ld_exec ld_sem bd_exec bd_sem
theorem validMiss (w:World):Calls Tryz.prog 70 #[.agg #[.int .i64 7,.int .i64 2,.int .i64 100,.int .i64 0,.int .i64 0,.int .i64 0,.int .i64 7,.int .i64 0,.int .i64 0,.int .i64 0,.int .i64 1,.int .i64 0,.int .i64 0,.int .i64 5,.int .i64 5,.int .i64 0,.int .i64 0,.int .i64 0,.slice none 0 0,.int .i64 0,.int .i64 0,.int .i64 0,.int .i64 0,.int .i64 0,.int .i64 0,.int .i64 0,.int .i64 0,.int .i64 0,.slice none 0 0,.int .i64 0,.int .i64 0,.int .i64 0,.int .i64 0,.int .i64 0,.int .i64 0,.int .i64 0,.slice none 0 0,.int .i64 0,.bool false,.int .i64 0,.int .i64 0,.int .i64 0,.slice none 0 0,.slice none 0 0,.int .i64 0,.slice none 0 0,.slice none 0 0]] w fun e w'=>e=.returned (.bool true)∧Below w.heap.size w w':=by
  obtain ⟨va,hva⟩:∃ va:Array Value,va=#[.int .i64 7,.int .i64 2,.int .i64 100,.int .i64 0,.int .i64 0,.int .i64 0,.int .i64 7,.int .i64 0,.int .i64 0,.int .i64 0,.int .i64 1,.int .i64 0,.int .i64 0,.int .i64 5,.int .i64 5,.int .i64 0,.int .i64 0,.int .i64 0,.slice none 0 0,.int .i64 0,.int .i64 0,.int .i64 0,.int .i64 0,.int .i64 0,.int .i64 0,.int .i64 0,.int .i64 0,.int .i64 0,.slice none 0 0,.int .i64 0,.int .i64 0,.int .i64 0,.int .i64 0,.int .i64 0,.int .i64 0,.int .i64 0,.slice none 0 0,.int .i64 0,.bool false,.int .i64 0,.int .i64 0,.int .i64 0,.slice none 0 0,.slice none 0 0,.int .i64 0,.slice none 0 0,.slice none 0 0]:=⟨_,rfl⟩
  obtain ⟨oa,hoa⟩:∃ oa:Array Value,oa=#[.int .i64 7,.int .i64 2,.int .i64 100,.int .i64 0,.int .i64 0,.int .i64 0,.int .i64 0,.int .i64 0,.int .i64 0,.int .i64 0,.int .i64 0,.int .i64 0,.int .i64 0,.int .i64 0,.int .i64 0,.int .i64 0,.int .i64 0,.int .i64 0,.slice none 0 0,.int .i64 0,.int .i64 0,.int .i64 0,.int .i64 0,.int .i64 0,.int .i64 0,.int .i64 0,.int .i64 0,.int .i64 0,.slice none 0 0,.int .i64 0,.int .i64 0,.int .i64 0,.int .i64 0,.int .i64 0,.int .i64 0,.int .i64 0,.slice none 0 0,.int .i64 0,.bool false,.int .i64 0,.int .i64 0,.int .i64 0,.slice none 0 0,.slice none 0 0,.int .i64 0,.slice none 0 0,.slice none 0 0]:=⟨_,rfl⟩
  obtain ⟨X0,hX⟩:∃ X,X=w.alloc (.cells va 84):=⟨_,rfl⟩
  have HX:=Lib.hid hX
  have HE:=Lib.hid (show Below w.heap.size w X0 by rw [hX];exact ext_new _ _)
  have HB:=Lib.hid (show Blk X0 w.heap.size 84 va by rw [hX];exact Blk.new _ _ _)
  have K1:=Lib.hid (fun W=>side_q (2) (by omega) (by omega) W)
  have K2:=Lib.hid sideO_q
  have K4:=Lib.hid (fun W=>mw_qy (0) 0 1000000 (by omega) (by omega) W)
  have K6:=Lib.hid (fun W=>mw_qy (7) 1 4611686018427387903 (by omega) (by omega) W)
  have K3:=Lib.hid (fun W=>mw_qn (0) 1 1000000 (by omega) W)
  have K7:=Lib.hid (fun W=>mw_qy (0) 0 1000000 (by omega) (by omega) W)
  have K5:=Lib.hid (fun W=>mw_qy (0) 0 7 (by omega) (by omega) W)
  have HVA:=Lib.hid hva
  have HOA:=Lib.hid hoa
  rw [← hva]
  clear hX hva hoa
  go_enter Tryz.func70,Tryz.ntmps70
  go_upto_region 1 with (fail)
  rw [← HX.out]
  have a1:=(HB.out.cell 1).trans (show _=some (.int .i64 2) by rw [HVA.out];rfl)
  have a2:=(HB.out.cell 2).trans (show _=some (.int .i64 100) by rw [HVA.out];rfl)
  go_quiet (first|(go_at_call 116;with_reducible refine Calls.quiet_of_same (K1.out _))|(go_at_call 116;with_reducible refine Calls.quiet_of_same (K2.out _)))
  clear a1 a2
  obtain ⟨X1,hX1⟩:∃ X1,X1=X0.drewN nq:=⟨_,rfl⟩
  rw [← hX1]
  have HE1:=Lib.hid (show Below X0.heap.size X0 X1 by rw [hX1];exact ext_drewN (ext_refl _) _)
  clear hX1
  obtain ⟨bd1,bd2⟩:=bd_of w (P:=Tryz.prog) (t:=84) (ps:=#[(0,.int .i64 7),(1,.int .i64 2),(2,.int .i64 100)]) (cs:=oa) (by rw [HOA.out];kernel_rfl)
  have a0:=((HB.out.ext HE1.out).cell 0).trans (show _=some (.int .i64 7) by rw [HVA.out];rfl)
  have a1:=((HB.out.ext HE1.out).cell 1).trans (show _=some (.int .i64 2) by rw [HVA.out];rfl)
  have a2:=((HB.out.ext HE1.out).cell 2).trans (show _=some (.int .i64 100) by rw [HVA.out];rfl)
  have HZ:=Lib.hid (Blk.new X1 84 #[.int .i64 0,.int .i64 0,.int .i64 0,.int .i64 0,.int .i64 0,.int .i64 0,.int .i64 0,.int .i64 0,.int .i64 0,.int .i64 0,.int .i64 0,.int .i64 0,.int .i64 0,.int .i64 0,.int .i64 0,.int .i64 0,.int .i64 0,.int .i64 0,.slice none 0 0,.int .i64 0,.int .i64 0,.int .i64 0,.int .i64 0,.int .i64 0,.int .i64 0,.int .i64 0,.int .i64 0,.int .i64 0,.slice none 0 0,.int .i64 0,.int .i64 0,.int .i64 0,.int .i64 0,.int .i64 0,.int .i64 0,.int .i64 0,.slice none 0 0,.int .i64 0,.bool false,.int .i64 0,.int .i64 0,.int .i64 0,.slice none 0 0,.slice none 0 0,.int .i64 0,.slice none 0 0,.slice none 0 0])
  have HI:=Lib.hid (show (Tryz.prog.info? 84).map (·.size)=some oa.size by rw [HOA.out];kernel_rfl)
  have HSZ:=Lib.hid (show (#[.int .i64 0,.int .i64 0,.int .i64 0,.int .i64 0,.int .i64 0,.int .i64 0,.int .i64 0,.int .i64 0,.int .i64 0,.int .i64 0,.int .i64 0,.int .i64 0,.int .i64 0,.int .i64 0,.int .i64 0,.int .i64 0,.int .i64 0,.int .i64 0,.slice none 0 0,.int .i64 0,.int .i64 0,.int .i64 0,.int .i64 0,.int .i64 0,.int .i64 0,.int .i64 0,.int .i64 0,.int .i64 0,.slice none 0 0,.int .i64 0,.int .i64 0,.int .i64 0,.int .i64 0,.int .i64 0,.int .i64 0,.int .i64 0,.slice none 0 0,.int .i64 0,.bool false,.int .i64 0,.int .i64 0,.int .i64 0,.slice none 0 0,.slice none 0 0,.int .i64 0,.slice none 0 0,.slice none 0 0]:Array Value).size=oa.size by rw [HOA.out];rfl)
  have H1:=Lib.hid (show oa.all (·.oneCell')=true by rw [HOA.out];simp [Value.oneCell'])
  go_upto_region 4 with (refine wpList_store_blk rfl 84 (.tmp 7) (.tmp 38) rfl X1.heap.size oa rfl rfl 84 #[.int .i64 0,.int .i64 0,.int .i64 0,.int .i64 0,.int .i64 0,.int .i64 0,.int .i64 0,.int .i64 0,.int .i64 0,.int .i64 0,.int .i64 0,.int .i64 0,.int .i64 0,.int .i64 0,.int .i64 0,.int .i64 0,.int .i64 0,.int .i64 0,.slice none 0 0,.int .i64 0,.int .i64 0,.int .i64 0,.int .i64 0,.int .i64 0,.int .i64 0,.int .i64 0,.int .i64 0,.int .i64 0,.slice none 0 0,.int .i64 0,.int .i64 0,.int .i64 0,.int .i64 0,.int .i64 0,.int .i64 0,.int .i64 0,.slice none 0 0,.int .i64 0,.bool false,.int .i64 0,.int .i64 0,.int .i64 0,.slice none 0 0,.slice none 0 0,.int .i64 0,.slice none 0 0,.slice none 0 0] HZ.out HI.out HSZ.out H1.out ?_;intro X2 hB2 hg2;have HO2:=Lib.hid hB2;have HE2:=Lib.hid ((ext_alloc HE1.out (.cells #[.int .i64 0,.int .i64 0,.int .i64 0,.int .i64 0,.int .i64 0,.int .i64 0,.int .i64 0,.int .i64 0,.int .i64 0,.int .i64 0,.int .i64 0,.int .i64 0,.int .i64 0,.int .i64 0,.int .i64 0,.int .i64 0,.int .i64 0,.int .i64 0,.slice none 0 0,.int .i64 0,.int .i64 0,.int .i64 0,.int .i64 0,.int .i64 0,.int .i64 0,.int .i64 0,.int .i64 0,.int .i64 0,.slice none 0 0,.int .i64 0,.int .i64 0,.int .i64 0,.int .i64 0,.int .i64 0,.int .i64 0,.int .i64 0,.slice none 0 0,.int .i64 0,.bool false,.int .i64 0,.int .i64 0,.int .i64 0,.slice none 0 0,.slice none 0 0,.int .i64 0,.slice none 0 0,.slice none 0 0] 84)).grown hg2 (ext_alloc HE1.out (.cells #[.int .i64 0,.int .i64 0,.int .i64 0,.int .i64 0,.int .i64 0,.int .i64 0,.int .i64 0,.int .i64 0,.int .i64 0,.int .i64 0,.int .i64 0,.int .i64 0,.int .i64 0,.int .i64 0,.int .i64 0,.int .i64 0,.int .i64 0,.int .i64 0,.slice none 0 0,.int .i64 0,.int .i64 0,.int .i64 0,.int .i64 0,.int .i64 0,.int .i64 0,.int .i64 0,.int .i64 0,.int .i64 0,.slice none 0 0,.int .i64 0,.int .i64 0,.int .i64 0,.int .i64 0,.int .i64 0,.int .i64 0,.int .i64 0,.slice none 0 0,.int .i64 0,.bool false,.int .i64 0,.int .i64 0,.int .i64 0,.slice none 0 0,.slice none 0 0,.int .i64 0,.slice none 0 0,.slice none 0 0] 84)).size (fun k e=>by injection e with e;have:=HE1.out.size;omega));clear hB2 hg2)
  clear a0 a1 a2 bd1 bd2 HZ HI HSZ H1
  have HN:=Lib.hid (show X0.heap.size≤X1.heap.size from HE1.out.size)
  have a4:=((HB.out.ext HE2.out).cell 4).trans (show _=some (.int .i64 0) by rw [HVA.out];rfl)
  have a6:=((HB.out.ext HE2.out).cell 6).trans (show _=some (.int .i64 7) by rw [HVA.out];rfl)
  go_quiet (first|(go_at_call 117;with_reducible refine Calls.quiet_of_same (K4.out _))|(go_at_call 117;with_reducible refine Calls.quiet_of_same (K6.out _)))
  clear a4 a6
  obtain ⟨X3,hX3⟩:∃ X3,X3=X2.drewN nq:=⟨_,rfl⟩
  rw [← hX3]
  have HE3:=Lib.hid (show Below X0.heap.size X0 X3 by rw [hX3];exact ext_drewN HE2.out _)
  have HO3:=Lib.hid (show Blk X3 X1.heap.size 84 oa by rw [hX3];exact HO2.out.ext (ext_drewN (ext_refl _) _))
  clear hX3
  go_upto_region 5 with (fail)
  have a3:=((HB.out.ext HE3.out).cell 3).trans (show _=some (.int .i64 0) by rw [HVA.out];rfl)
  have a7:=((HB.out.ext HE3.out).cell 7).trans (show _=some (.int .i64 0) by rw [HVA.out];rfl)
  go_quiet (first|(go_at_call 117;with_reducible refine Calls.quiet_of_same (K3.out _))|(go_at_call 117;with_reducible refine Calls.quiet_of_same (K7.out _)))
  clear a3 a7
  obtain ⟨X4,hX4⟩:∃ X4,X4=X3.drewN nq:=⟨_,rfl⟩
  rw [← hX4]
  have HE4:=Lib.hid (show Below X0.heap.size X0 X4 by rw [hX4];exact ext_drewN HE3.out _)
  have HO4:=Lib.hid (show Blk X4 X1.heap.size 84 oa by rw [hX4];exact HO3.out.ext (ext_drewN (ext_refl _) _))
  clear hX4
  have a5:=((HB.out.ext HE4.out).cell 5).trans (show _=some (.int .i64 0) by rw [HVA.out];rfl)
  have a0:=((HB.out.ext HE4.out).cell 0).trans (show _=some (.int .i64 7) by rw [HVA.out];rfl)
  go_upto_region 31 with (go_at_call 117;with_reducible refine (K5.out _).mono ?_;rintro e w' ⟨rfl,hw5⟩;subst w')
  clear a5 a0
  have a5:=((HB.out.ext HE4.out).cell 5).trans (show _=some (.int .i64 0) by rw [HVA.out];rfl)
  have a6:=((HB.out.ext HE4.out).cell 6).trans (show _=some (.int .i64 7) by rw [HVA.out];rfl)
  have a10:=((HB.out.ext HE4.out).cell 10).trans (show _=some (.int .i64 1) by rw [HVA.out];rfl)
  have a11:=((HB.out.ext HE4.out).cell 11).trans (show _=some (.int .i64 0) by rw [HVA.out];rfl)
  have a12:=((HB.out.ext HE4.out).cell 12).trans (show _=some (.int .i64 0) by rw [HVA.out];rfl)
  have a13:=((HB.out.ext HE4.out).cell 13).trans (show _=some (.int .i64 5) by rw [HVA.out];rfl)
  have a14:=((HB.out.ext HE4.out).cell 14).trans (show _=some (.int .i64 5) by rw [HVA.out];rfl)
  have a15:=((HB.out.ext HE4.out).cell 15).trans (show _=some (.int .i64 0) by rw [HVA.out];rfl)
  have a16:=((HB.out.ext HE4.out).cell 16).trans (show _=some (.int .i64 0) by rw [HVA.out];rfl)
  have c5:=(HO4.out.cell 5).trans (show _=some (.int .i64 0) by rw [HOA.out];rfl)
  have c6:=(HO4.out.cell 6).trans (show _=some (.int .i64 0) by rw [HOA.out];rfl)
  have c10:=(HO4.out.cell 10).trans (show _=some (.int .i64 0) by rw [HOA.out];rfl)
  have c11:=(HO4.out.cell 11).trans (show _=some (.int .i64 0) by rw [HOA.out];rfl)
  have c12:=(HO4.out.cell 12).trans (show _=some (.int .i64 0) by rw [HOA.out];rfl)
  have c13:=(HO4.out.cell 13).trans (show _=some (.int .i64 0) by rw [HOA.out];rfl)
  have c14:=(HO4.out.cell 14).trans (show _=some (.int .i64 0) by rw [HOA.out];rfl)
  have c15:=(HO4.out.cell 15).trans (show _=some (.int .i64 0) by rw [HOA.out];rfl)
  have c16:=(HO4.out.cell 16).trans (show _=some (.int .i64 0) by rw [HOA.out];rfl)
  have g5:=HO4.out.frozen 5
  have g6:=HO4.out.frozen 6
  have g10:=HO4.out.frozen 10
  have g11:=HO4.out.frozen 11
  have g12:=HO4.out.frozen 12
  have g13:=HO4.out.frozen 13
  have g14:=HO4.out.frozen 14
  have g15:=HO4.out.frozen 15
  have g16:=HO4.out.frozen 16
  go_region
  obtain ⟨Y,hY⟩:∃ Y,Y=((((((((((X4).setCell ⟨X1.heap.size,10,none⟩ (.int .i64 1)).setCell ⟨X1.heap.size,11,none⟩ (.int .i64 0)).setCell ⟨X1.heap.size,12,none⟩ (.int .i64 0)).setCell ⟨X1.heap.size,13,none⟩ (.int .i64 5)).setCell ⟨X1.heap.size,14,none⟩ (.int .i64 5)).setCell ⟨X1.heap.size,15,none⟩ (.int .i64 0)).setCell ⟨X1.heap.size,16,none⟩ (.int .i64 0)).setCell ⟨X1.heap.size,5,none⟩ (.int .i64 0)).setCell ⟨X1.heap.size,6,none⟩ (.int .i64 7)).drew:=⟨_,rfl⟩
  rw [← hY]
  have HEY:=Lib.hid (show Below w.heap.size w Y by rw [hY];exact (ext_set (ext_set (ext_set (ext_set (ext_set (ext_set (ext_set (ext_set (ext_set (ext_call HE.out HE4.out) (Nat.le_trans HE.out.size HN.out) _) (Nat.le_trans HE.out.size HN.out) _) (Nat.le_trans HE.out.size HN.out) _) (Nat.le_trans HE.out.size HN.out) _) (Nat.le_trans HE.out.size HN.out) _) (Nat.le_trans HE.out.size HN.out) _) (Nat.le_trans HE.out.size HN.out) _) (Nat.le_trans HE.out.size HN.out) _) (Nat.le_trans HE.out.size HN.out) _).drew)
  have HBY:=Lib.hid (show Blk Y w.heap.size 84 va by rw [hY];exact Blk.drew ((((((((((HB.out.ext HE4.out).far (by have:=HB.out.lt;have:=HN.out;simp;omega) _).far (by have:=HB.out.lt;have:=HN.out;simp;omega) _).far (by have:=HB.out.lt;have:=HN.out;simp;omega) _).far (by have:=HB.out.lt;have:=HN.out;simp;omega) _).far (by have:=HB.out.lt;have:=HN.out;simp;omega) _).far (by have:=HB.out.lt;have:=HN.out;simp;omega) _).far (by have:=HB.out.lt;have:=HN.out;simp;omega) _).far (by have:=HB.out.lt;have:=HN.out;simp;omega) _).far (by have:=HB.out.lt;have:=HN.out;simp;omega) _))
  have HOY:=Lib.hid (show Blk Y X1.heap.size 84 va by rw [hY];have h9:=Blk.drew ((((((((((HO4.out).set_ 10 (.int .i64 1)).set_ 11 (.int .i64 0)).set_ 12 (.int .i64 0)).set_ 13 (.int .i64 5)).set_ 14 (.int .i64 5)).set_ 15 (.int .i64 0)).set_ 16 (.int .i64 0)).set_ 5 (.int .i64 0)).set_ 6 (.int .i64 7));rwa [show (((((((((oa).setIfInBounds 10 (.int .i64 1)).setIfInBounds 11 (.int .i64 0)).setIfInBounds 12 (.int .i64 0)).setIfInBounds 13 (.int .i64 5)).setIfInBounds 14 (.int .i64 5)).setIfInBounds 15 (.int .i64 0)).setIfInBounds 16 (.int .i64 0)).setIfInBounds 5 (.int .i64 0)).setIfInBounds 6 (.int .i64 7)=va by rw [HOA.out,HVA.out];kernel_rfl] at h9)
  clear hY a5 a6 a10 a11 a12 a13 a14 a15 a16 c5 c6 c10 c11 c12 c13 c14 c15 c16 g5 g6 g10 g11 g12 g13 g14 g15 g16
  obtain ⟨l0,e0⟩:=ld_blk (P:=Tryz.prog) (o:=10) (e:=17) HBY.out (show va.extract 10 17=#[.int .i64 1,.int .i64 0,.int .i64 0,.int .i64 5,.int .i64 5,.int .i64 0,.int .i64 0] by rw [HVA.out];kernel_rfl) Tryz.underlying74 rfl (by kernel_rfl)
  go_wp2_with fail
  with_reducible refine (queryValid1 _).mono ?_
  rintro e Z ⟨rfl,hbz⟩
  have HEZ:=Lib.hid (ext_call HEY.out hbz)
  have HBZ:=Lib.hid (HBY.out.ext hbz)
  have HOZ:=Lib.hid (HOY.out.ext hbz)
  clear hbz l0 e0
  have l1:=ld_blk (P:=Tryz.prog) HBZ.out (show Array.extract va 0 47=va by rw [HVA.out];kernel_rfl) Tryz.underlying84 rfl (by rw [HVA.out];kernel_rfl)
  have l2:=ld_blk (P:=Tryz.prog) HOZ.out (show Array.extract va 0 47=va by rw [HVA.out];kernel_rfl) Tryz.underlying84 rfl (by rw [HVA.out];kernel_rfl)
  obtain ⟨l1,e1⟩:=l1
  obtain ⟨l2,e2⟩:=l2
  have HS:=Lib.hid (show ∀ W,Calls Tryz.prog 121 #[.agg va,.agg va] W fun e w'=>e=.returned (.bool true)∧Below W.heap.size W w' by rw [HVA.out];exact msgSame (7) (2) (100) (0) (0) (0) (7) (0) (0) (0) (1) (0) (0) (5) (5) (0) (0))
  go_wp2_with (go_at_call 121;with_reducible refine (HS.out _).mono ?_;rintro e W9 ⟨rfl,hb9⟩;have HE9:=Lib.hid (ext_call HEZ.out hb9);clear hb9)
  go_ret
  exact ⟨rfl,HE9.out⟩
end
end Go.Proofs.YtnajpjnnlocfgaaGreatDoor
