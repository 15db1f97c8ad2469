/-
  Part 6 of 9: the contracts that the proof of the last part uses; each stands under its own head.
-/
import Derived.Test.YtnajpjnnlocfgaaGreatDoorJ5
import Derived.Test.YtnajpjnnlocfgaaGreatDoorJ1
import Derived.Shelf.Strings.BuilderK
import Derived.Lib.FrozenHead2
import Derived.Lib.OthersKept
import Derived.Shelf.RegionOpen
import Derived.LoopN
import Derived.WalkMore
import Derived.Test.YtnajpjnnlocfgaaGreatDoorJ3
import Derived.BigQuiet
import Derived.Deep.RegionHeld3
import Derived.StillTailTactics
import Derived.Deep.QuietTactic
import Derived.BigRegion
set_option linter.unusedSimpArgs false
set_option linter.unusedVariables false
set_option maxHeartbeats 4000000
set_option maxRecDepth 100000
namespace Go.Proofs.YtnajpjnnlocfgaaGreatDoor
section
open Go.RowKit Go.Shelf
theorem answers_any (w:World):Calls Tryz.prog 71 #[] w fun e w'=>∃ g,e=.returned (.map (some g))∧w.heap.size≤g∧MapI w' g [(3,.func (.func 122) #[] #[]),(7,.func (.func 123) #[] #[]),(9,.func (.func 124) #[] #[])]∧Below w.heap.size w w':=by
  have hmm:=@run_makeMap Tryz.prog
  obtain ⟨o1,u1,m1⟩:=update_I (P:=Tryz.prog) (w:=w.alloc (.map #[] 0)) Tryz.underlying152 Tryz.underlying3 (MapI.new w) 3 (.func (.func 122) #[] #[])
  obtain ⟨o2,u2,m2⟩:=update_I (P:=Tryz.prog) (w:=(w.alloc (.map #[] 0)).putObj w.heap.size o1) Tryz.underlying152 Tryz.underlying3 m1 7 (.func (.func 123) #[] #[])
  obtain ⟨o3,u3,m3⟩:=update_I (P:=Tryz.prog) (w:=((w.alloc (.map #[] 0)).putObj w.heap.size o1).putObj w.heap.size o2) Tryz.underlying152 Tryz.underlying3 m2 9 (.func (.func 124) #[] #[])
  have HM:=Lib.hid m3
  clear m1 m2 m3
  go_enter Tryz.func71,Tryz.ntmps71
  go_wp2
  go_ret
  exact ⟨_,rfl,Nat.le_refl _,HM.out,ext_put (ext_put (ext_put (ext_new _ _) (Nat.le_refl _) _) (Nat.le_refl _) _) (Nat.le_refl _) _⟩
end
section
open Go.RowKit Go.Shelf
theorem byte_info:(Tryz.prog.info? 5).map (fun i=>(i.zero,i.size,i.bytes))=some (some (.int .u8 0),1,1):=by kernel_rfl
theorem bld_size:(Tryz.prog.info? 176).map (·.size)=some 2:=by kernel_rfl
theorem bld_lies:liesAt Tryz.prog Tryz.prog.depth 259 (2 / Tryz.prog.cellsOf 259) 0 176 1=true:=by kernel_rfl
def WrAt (w:World) (B b n:Nat):Prop:=B≤w.heap.size∧∃ bs,bs.length=n∧Lib.IsBuilderF 259 5 B b bs w
def WrKept (B b:Nat) (w w':World):Prop:=Below B w w'∧Lib.OthersKept 5 (some b) w w'
theorem others_ext {e:TypeId} {b:Option Nat} {w w':World} (h:Below w.heap.size w w'):Lib.OthersKept e b w w':=fun k o hk _ _=>by
  rw [h.block k (Array.getElem?_eq_some_iff.1 hk).1];exact hk
theorem WrKept.refl (B b:Nat) (w:World):WrKept B b w w:=⟨Below.refl B w,Lib.OthersKept.refl _ _ w⟩
theorem WrKept.trans {B b:Nat} {w w' w'':World} (h:WrKept B b w w') (k:WrKept B b w' w''):WrKept B b w w'':=⟨h.1.trans k.1,h.2.trans k.2⟩
theorem WrKept.of_ext {B b:Nat} {w w':World} (h:Below w.heap.size w w') (hB:B≤w.heap.size):WrKept B b w w':=⟨h.mono hB,others_ext h⟩
theorem WrKept.ext {B b:Nat} {w w' w'':World} (h:WrKept B b w w') (k:Below w'.heap.size w' w'') (hB:B≤w.heap.size):WrKept B b w w'':=h.trans (.of_ext k (Nat.le_trans hB h.1.size))
theorem WrKept.blk {B b g:Nat} {w w':World} {t:TypeId} {cs:Array Value} (h:WrKept B b w w') (hg:Blk w g t cs) (ht:t≠5) (hne:g≠b):Blk w' g t cs:=
  h.2 g _ hg (fun e=>hne (Option.some.inj e)) (fun c fz e=>ht (by injection e))
theorem WrAt.ext {w w':World} {B b n:Nat} (h:WrAt w B b n) (k:Below w.heap.size w w'):WrAt w' B b n:=by
  obtain ⟨hB,bs,hl,hb⟩:=h
  have key:∀ p,Lib.BuilderAtF 259 5 B b p bs w→Lib.BuilderAtF 259 5 B b p bs w':=by
    rintro p ⟨h1,v,h2,h3,h4⟩
    refine ⟨h1,v,by rw [k.block b (Array.getElem?_eq_some_iff.1 h2).1];exact h2,⟨h3.1,?_⟩,h4⟩
    rcases h3.2 with hn|⟨g,cap,cur,fz,hv,hg,hc,rest⟩
    · exact .inl hn
    · exact .inr ⟨g,cap,cur,fz,hv,hg,by rw [k.block g (Array.getElem?_eq_some_iff.1 hc).1];exact hc,rest⟩
  exact ⟨Nat.le_trans hB k.size,bs,hl,hb.elim (fun x=>.inl (key _ x)) (fun x=>.inr (key _ x))⟩
theorem WrAt.new (w:World):WrAt (w.alloc (.cells #[.pointer none,.slice none 0 0] 259)) w.heap.size w.heap.size 0:=
  ⟨by simp,[],rfl,.of (Lib.fresh_isBuilder _ _ w)⟩
theorem cc_used (b:Nat) (w:World) (h0:w.cell? ⟨b,0,none⟩=some (.pointer (some ⟨b,0,none⟩))) :
    Calls Tryz.prog 136 #[.pointer (some ⟨b,0,none⟩)] w fun e w'=>e=.returned (.tuple #[])∧w'=w:=by
  obtain ⟨j,hj,_⟩:=Option.map_eq_some_iff.1 bld_size
  go_enter Tryz.func136,Tryz.ntmps136
  go_wp2
  rw [Lib.run_neq_ptr_same w _ Tryz.underlying173 hj]
  go_wp2
  go_end0
  exact ⟨rfl,rfl⟩
theorem cc_fresh (b:Nat) (w:World) (h0:w.cell? ⟨b,0,none⟩=some (.pointer none)) (hsh:w.shape? b=some (259,2)) (hfz:w.frozen? ⟨b,0,none⟩=false) :
    Calls Tryz.prog 136 #[.pointer (some ⟨b,0,none⟩)] w fun e w'=>e=.returned (.tuple #[])∧w'=w.setCell ⟨b,0,none⟩ (.pointer (some ⟨b,0,none⟩)):=by
  obtain ⟨j,hj,hjs⟩:=Option.map_eq_some_iff.1 bld_size
  go_enter Tryz.func136,Tryz.ntmps136
  go_wp2
  rw [Lib.run_to_unsafe w ⟨b,0,none⟩ Tryz.underlying173 Tryz.underlying275 hj (by rw [hjs];decide) hsh (Nat.zero_lt_succ 1)]
  simp only [Result.andThen]
  rw [Oper.upon_value]
  go_wp2
  rw [run_callFunc_extern Tryz.func177 (by kernel_rfl) (by kernel_rfl) (by kernel_rfl) (e:=Extern.AbiNoEscape.same) (by kernel_rfl)]
  rw [Lib.run_noEscape]
  simp only [Result.andThen]
  rw [Oper.upon_value]
  go_wp2
  rw [Lib.run_from_unsafe w ⟨b,0,none⟩ Tryz.underlying275 Tryz.underlying173 hj hsh bld_lies]
  simp only [Result.andThen]
  rw [Oper.upon_value]
  go_wp2
  go_end0
  exact ⟨rfl,rfl⟩
theorem cc_any (B b:Nat) (bs:List Value) (w:World) (h:Lib.IsBuilderF 259 5 B b bs w) :
    Calls Tryz.prog 136 #[.pointer (some ⟨b,0,none⟩)] w fun e w'=>e=.returned (.tuple #[])∧Lib.BuilderAtF 259 5 B b (.pointer (some ⟨b,0,none⟩)) bs w'∧WrKept B b w w':=by
  rcases h with h|h
  · refine (cc_fresh b w h.cell0 h.shape h.frozen0).mono ?_
    rintro e w' ⟨rfl,rfl⟩
    exact ⟨rfl,h.used _,(Below.refl B w).setCell (p:=⟨b,0,none⟩) h.1 _,(Lib.OthersKept.refl _ _ w).setCell ⟨b,0,none⟩ rfl _⟩
  · refine (cc_used b w h.cell0).mono ?_
    rintro e w' ⟨rfl,rfl⟩
    exact ⟨rfl,h,.refl B b _⟩
theorem writeStr (B b n:Nat) (s:ByteArray) (w:World) (h:WrAt w B b n) (hn:n≤100000) (hs:s.size≤100000) :
    Calls Tryz.prog 87 #[.pointer (some ⟨b,0,none⟩),.string s] w fun e w'=>e=.returned (.tuple #[.int .i64 s.size,.nilIface])∧WrAt w' B b (n+s.size)∧WrKept B b w w':=by
  obtain ⟨i0,hi,hz0,hz1,hz2⟩:=info_parts byte_info
  obtain ⟨hBw,bs,hl,hb⟩:=h
  go_enter Tryz.func87,Tryz.ntmps87
  go_wp2_with (go_at_call 136;refine (cc_any B b bs _ hb).mono ?_)
  rintro e w1 ⟨rfl,h1,hk1⟩
  have hb1:=hk1.1
  obtain ⟨hB,v,hbk,hown,hne⟩:=h1
  have c0:w1.cell? ⟨b,0,none⟩=some (.pointer (some ⟨b,0,none⟩)):=by rw [Lib.cell_of_heap hbk];rfl
  have c1:w1.cell? ⟨b,1,none⟩=some v:=by rw [Lib.cell_of_heap hbk];rfl
  go_wp2_with (at_builtin;refine Lib.wpList_append_own_stringF _ rfl _ _ 174 9 rfl B 5 i0 Tryz.underlying174 Tryz.underlying9 hi hz0 hz1 hz2 _ _ _ rfl hown s rfl ?c3 ?c4 ?c5 ?_)
  case c3=>unfold maxLen;omega
  case c4=>omega
  case c5=>have:=hb1.size;omega
  intro v' w2 hown' hgrow _
  have hlt:b<w1.heap.size:=(Array.getElem?_eq_some_iff.1 hbk).1
  have hb2:w2.heap[b]? = some (.cells #[.pointer (some ⟨b,0,none⟩),v] 259 (0,0)):=by
    rw [hgrow.block b hlt (fun e=>hne e.symm)]
    exact hbk
  have d0:w2.cell? ⟨b,0,none⟩=some (.pointer (some ⟨b,0,none⟩)):=by rw [Lib.cell_of_heap hb2];rfl
  have d1:w2.cell? ⟨b,1,none⟩=some v:=by rw [Lib.cell_of_heap hb2];rfl
  have f1:w2.frozen? ⟨b,1,none⟩=false:=Lib.frozen_of_heap hb2 1
  obtain ⟨ao,n',cap,rfl⟩:∃ ao n' cap,v'=.slice ao n' cap:=by
    rcases hown'.2 with ⟨hv,_⟩|⟨g,cap,cur,fz,hv,_⟩
    · exact ⟨_,_,_,hv⟩
    · exact ⟨_,_,_,hv⟩
  go_wp2
  go_ret2
  have hbn:Below B w1 (w2.setCell ⟨b,1,none⟩ (.slice ao n' cap)):=((Below.refl B w1).grown hgrow (by have:=hb1.size;omega) (fun k hk=>(hown.lt k hk).1)).setCell (p:=⟨b,1,none⟩) hB _
  refine ⟨rfl,⟨Nat.le_trans hBw (Nat.le_trans hb1.size hbn.size),bs++Lib.strCells s,?_,.inr ?_⟩,hk1.trans ⟨hbn,?_⟩⟩
  · simp [hl,Lib.strCells_length]
  · exact Lib.BuilderAtF.put (T:=259) (e:=5) hB hb2 (bs':=bs++Lib.strCells s) (by simpa [Lib.strCells_length,hl] using hown') (by decide)
  · exact ((Lib.OthersKept.refl _ _ w1).grown hgrow (Lib.ownsRowF_kind hown)).setCell ⟨b,1,none⟩ rfl _
theorem writerLen (B b n:Nat) (w:World) (h:WrAt w B b n):Calls Tryz.prog 88 #[.pointer (some ⟨b,0,none⟩)] w fun e w'=>e=.returned (.int .i64 n)∧w=w':=by
  obtain ⟨hBw,bs,rfl,hb⟩:=h
  obtain ⟨p,hB,v,hbk,hown,hne⟩:∃ p,Lib.BuilderAtF 259 5 B b p bs w:=by
    rcases hb with h|h
    · exact ⟨_,h⟩
    · exact ⟨_,h⟩
  obtain ⟨ao,cap,rfl⟩:∃ ao cap,v=.slice ao bs.length cap:=by
    rcases hown.2 with ⟨hv,h0⟩|⟨g,cap,cur,fz,hv,_⟩
    · exact ⟨none,0,by rw [hv,h0]⟩
    · exact ⟨_,_,hv⟩
  have c1:w.cell? ⟨b,1,none⟩=some (.slice ao bs.length cap):=by rw [Lib.cell_of_heap hbk];rfl
  go_enter Tryz.func88,Tryz.ntmps88
  go_wp2
  go_ret
  exact ⟨rfl,rfl⟩
end
section
open Go.RowKit Go.Shelf
theorem WrAt.blk {w:World} {B b n:Nat} (h:WrAt w B b n):∃ p v,w.heap[b]? = some (.cells #[p,v] 259 (0,0)):=by
  obtain ⟨_,bs,_,h|h⟩:=h
  · obtain ⟨_,v,h,_⟩:=h;exact ⟨_,v,h⟩
  · obtain ⟨_,v,h,_⟩:=h;exact ⟨_,v,h⟩
theorem WrAt.ne {w:World} {B b n g:Nat} {t:TypeId} {cs:Array Value} (h:WrAt w B b n) (hg:Blk w g t cs) (ht:t≠259):g≠b:=by
  rintro rfl
  obtain ⟨p,v,hb⟩:=h.blk
  unfold Blk at hg
  rw [hg] at hb
  injection hb with hb
  injection hb with _ hb _
  exact ht hb
theorem putString_any (s:ByteArray) (hs:s.size<64) (w:World) :
    Calls Tryz.prog 239 #[.string s] w fun e w'=>e=.returned (.tuple #[.string (byteS (2*s.size)++s),.int .i64 0])∧Below w.heap.size w w':=by
  have d1:decide ((65536:Int)<(s.size:Int))=false:=decide_eq_false (by omega)
  have d2:(byteS (2*s.size)).size+s.size≤9223372036854775807:=by show 1+s.size≤_;omega
  go_enter Tryz.func239,Tryz.ntmps239
  go_wp2_with (go_at_call 76;refine (putInt_any s.size hs _).mono ?_;rintro e W1 ⟨rfl,hb1⟩)
  go_ret2
  exact ⟨rfl,hb1⟩
theorem textW (B b n:Nat) (s:ByteArray) (hs:s.size<64) (hn:n≤90000) (w:World) (h:WrAt w B b n) :
    Calls Tryz.prog 222 #[.pointer (some ⟨b,0,none⟩),.string s] w fun e w'=>e=.returned (.tuple #[])∧WrAt w' B b (n+(1+s.size))∧WrKept B b w w':=by
  have H:=Lib.hid h
  have hsz:(byteS (2*s.size)++s).size=1+s.size:=by rw [ByteArray.size_append];rfl
  obtain ⟨t,ht⟩:∃ t,t=byteS (2*s.size)++s:=⟨_,rfl⟩
  have HP:=Lib.hid (putString_any s hs)
  rw [← ht] at HP hsz
  clear h ht
  go_enter Tryz.func222,Tryz.ntmps222
  go_wp2_with fail
  refine (HP.out _).mono ?_
  rintro e W1 ⟨rfl,hb1⟩
  have H1:=Lib.hid (H.out.ext hb1)
  have K1:=Lib.hid (WrKept.of_ext (b:=b) hb1 H.out.1)
  clear hb1
  go_wp2_with fail
  refine (writeStr B b n t _ H1.out (by omega) (by omega)).mono ?_
  rintro e W2 ⟨rfl,h2,k2⟩
  have H2:=Lib.hid h2
  have K2:=Lib.hid k2
  clear h2 k2
  go_wp2
  go_end0
  exact ⟨rfl,by rw [← hsz];exact H2.out,K1.out.trans K2.out⟩
theorem intsW (B b n g c:Nat) (ns:List Nat) (hns:∀ x ∈ ns,x<64) (hl:ns.length≤100) (hn:n≤90000) (w:World) (h:WrAt w B b n) (hg:Blk w g 3 (ns.map fun n:Nat=>Value.int .i64 (n:Int)).toArray) :
    Calls Tryz.prog 196 #[.pointer (some ⟨b,0,none⟩),.slice (some ⟨g,0,none⟩) ns.length c] w fun e w'=>e=.returned (.tuple #[])∧WrAt w' B b (n+ns.length)∧WrKept B b w w':=by
  have H:=Lib.hid h
  have HG:=Lib.hid hg
  have HNS:=Lib.hid hns
  clear h hg hns
  go_enter Tryz.func196,Tryz.ntmps196
  go_wp2_with fail
  go_loopw [5,6,7,10] (fun _ _ _ i W=>∃ k:Nat,k≤ns.length∧i=.int .i64 k∧WrAt W B b (n+k)∧WrKept B b w W) (fun _ _ _ i _=>ns.length-(intOf i).toNat)
  case atStart=>exact ⟨0,Nat.zero_le _,rfl,H.out,.refl B b w⟩
  case round=>
    obtain ⟨k,hk,rfl,hA,hK⟩:=hrel
    have HA:=Lib.hid hA
    have HK:=Lib.hid hK
    clear hA hK
    by_cases hlt:k<ns.length
    · obtain ⟨x,hx⟩:∃ x,ns[k]? = some x:=⟨_,List.getElem?_eq_getElem hlt⟩
      have hx64:x<64:=HNS.out x (List.mem_of_getElem? hx)
      have hG:=HK.out.blk HG.out (by decide) (H.out.ne HG.out (by decide))
      have x0:wr.cell? ⟨g,k,none⟩=some (.int .i64 (x:Int)):=by
        refine (hG.cell k).trans ?_
        simp [hx]
      have e2:IntKind.i64.wrap ((k:Int)+1)=(k:Int)+1:=by rw [IntWalk.i64_in _ (by omega)]
      have d1:decide ((k:Int)<(ns.length:Int))=true:=by simp;omega
      have q0:(0:Int)≤(k:Int):=by omega
      have q1:(k:Int)<(ns.length:Int):=by omega
      clear hx hG
      go_wp2_with fail
      refine (putInt_any x hx64 _).mono ?_
      rintro e W1 ⟨rfl,hb1⟩
      have HA1:=Lib.hid (HA.out.ext hb1)
      have HK1:=Lib.hid (HK.out.ext hb1 H.out.1)
      clear hb1 x0
      go_wp2_with fail
      refine (writeStr B b (n+k) (byteS (2*x)) _ HA1.out (by omega) (by show 1≤_;omega)).mono ?_
      rintro e W2 ⟨rfl,h2,k2⟩
      have HA2:=Lib.hid h2
      have HK2:=Lib.hid (HK1.out.trans k2)
      clear h2 k2
      go_wp2
      go_roundw
      case rel=>exact ⟨k+1,by omega,by go_num,HA2.out,HK2.out⟩
      case measure=>simp [intOf];omega
    · obtain rfl:k=ns.length:=by omega
      have d1:decide ((ns.length:Int)<(ns.length:Int))=false:=by simp
      go_wp2
      go_end0
      exact ⟨rfl,HA.out,HK.out⟩
end
section
open Go.RowKit
attribute [local go_sem ↓] Go.wp_at_zero Go.wp_at_succ
theorem prGeq (bl:Nat) (w:World) (h:Blk w bl 3 #[.int .i64 5]):Calls Tryz.prog 229 #[.int .i64 5,.pointer (some ⟨bl,0,none⟩)] w fun e w'=>e=.returned (.bool true)∧w=w':=by
  have c0:=h.cell 0
  clear h
  go_enter Tryz.func229,Tryz.ntmps229
  go_wp2
  go_ret
  exact ⟨rfl,rfl⟩
theorem prGtr (bl:Nat) (w:World) (h:Blk w bl 3 #[.int .i64 5]):Calls Tryz.prog 230 #[.int .i64 5,.pointer (some ⟨bl,0,none⟩)] w fun e w'=>e=.returned (.bool false)∧w=w':=by
  have c0:=h.cell 0
  clear h
  go_enter Tryz.func230,Tryz.ntmps230
  go_wp2
  go_ret
  exact ⟨rfl,rfl⟩
def AtBoxes (f:Nat) (W:World) (bi bc bl:Nat):Prop:=Blk W bi 273 #[.func (.func f) #[] #[.pointer (some ⟨bl,0,none⟩)]]∧Blk W bc 3 #[.int .i64 0]∧Blk W bl 3 #[.int .i64 5]
theorem AtBoxes.ext {f:Nat} {w W:World} {bi bc bl:Nat} (h:AtBoxes f w bi bc bl) (k:Below w.heap.size w W):AtBoxes f W bi bc bl:=⟨h.1.ext k,h.2.1.ext k,h.2.2.ext k⟩
theorem AtBoxes.lo {f:Nat} {W:World} {bi bc bl:Nat} (h:AtBoxes f W bi bc bl):Blk W bl 3 #[.int .i64 5]:=h.2.2
theorem row_value0 (w:World):Calls Tryz.prog 212 #[.agg #[.int .i64 0,.int .i64 5,.int .i64 1,.int .i64 2,.int .i64 3],.int .i64 0] w fun e w'=>e=.returned (.int .i64 5)∧Below w.heap.size w w':=value_row 0 (by omega) w
theorem at_Geq (bi bc bl:Nat) (w:World) (hB:AtBoxes 229 w bi bc bl) :
    Calls Tryz.prog 228 #[.agg #[.int .i64 0,.int .i64 5,.int .i64 1,.int .i64 2,.int .i64 3],.pointer (some ⟨bi,0,none⟩),.pointer (some ⟨bc,0,none⟩)] w fun e w'=>e=.returned (.bool true)∧Below w.heap.size w w':=by
  have HB:=Lib.hid (hB.ext (ext_new w (.cells #[.int .i64 0,.int .i64 5,.int .i64 1,.int .i64 2,.int .i64 3] 108)))
  have HR:=Lib.hid (Blk.new w 108 #[.int .i64 0,.int .i64 5,.int .i64 1,.int .i64 2,.int .i64 3])
  have i0:=HB.out.1.cell 0
  have k0:=HB.out.2.1.cell 0
  have c0:=HR.out.cell 0;have c1:=HR.out.cell 1;have c2:=HR.out.cell 2;have c3:=HR.out.cell 3;have c4:=HR.out.cell 4
  have il:=hB.1.lt
  have kl:=hB.2.1.lt
  clear hB
  go_enter Tryz.func228,Tryz.ntmps228
  go_wp2
  go_region_with (first
    | (go_at_call 212;(with_reducible refine (row_value0 _).mono ?_);rintro e W1 ⟨rfl,hb1⟩;have HB1:=Lib.hid (HB.out.ext (undrew hb1));have HE1:=Lib.hid (ext_call (ext_new w _) (undrew hb1));have hj0:=HB1.out.1.cell 0;clear hb1)
    | (go_at_call 229;(with_reducible refine (prGeq bl _ HB1.out.lo).mono ?_);rintro e W2 ⟨rfl,rfl⟩))
  all_goals
    go_wp2
    go_ret
    exact ⟨rfl,HE1.out⟩
theorem at_Gtr (bi bc bl:Nat) (w:World) (hB:AtBoxes 230 w bi bc bl) :
    Calls Tryz.prog 228 #[.agg #[.int .i64 0,.int .i64 5,.int .i64 1,.int .i64 2,.int .i64 3],.pointer (some ⟨bi,0,none⟩),.pointer (some ⟨bc,0,none⟩)] w fun e w'=>e=.returned (.bool false)∧Below w.heap.size w w':=by
  have HB:=Lib.hid (hB.ext (ext_new w (.cells #[.int .i64 0,.int .i64 5,.int .i64 1,.int .i64 2,.int .i64 3] 108)))
  have HR:=Lib.hid (Blk.new w 108 #[.int .i64 0,.int .i64 5,.int .i64 1,.int .i64 2,.int .i64 3])
  have i0:=HB.out.1.cell 0
  have k0:=HB.out.2.1.cell 0
  have c0:=HR.out.cell 0;have c1:=HR.out.cell 1;have c2:=HR.out.cell 2;have c3:=HR.out.cell 3;have c4:=HR.out.cell 4
  have il:=hB.1.lt
  have kl:=hB.2.1.lt
  clear hB
  go_enter Tryz.func228,Tryz.ntmps228
  go_wp2
  go_region_with (first
    | (go_at_call 212;(with_reducible refine (row_value0 _).mono ?_);rintro e W1 ⟨rfl,hb1⟩;have HB1:=Lib.hid (HB.out.ext (undrew hb1));have HE1:=Lib.hid (ext_call (ext_new w _) (undrew hb1));have hj0:=HB1.out.1.cell 0;clear hb1)
    | (go_at_call 230;(with_reducible refine (prGtr bl _ HB1.out.lo).mono ?_);rintro e W2 ⟨rfl,rfl⟩))
  all_goals
    go_wp2
    go_ret
    exact ⟨rfl,HE1.out⟩
end
section
open Go.RowKit
attribute [local go_sem ↓] Go.wp_at_zero Go.wp_at_succ
theorem idx_Geq (g c bi bc bl:Nat) (zs:Array Value) (w:World) (hg:Blk w g 108 (#[.int .i64 0,.int .i64 5,.int .i64 1,.int .i64 2,.int .i64 3]++zs)) (hB:AtBoxes 229 w bi bc bl) :
    Calls Tryz.prog 194 #[.slice (some ⟨g,0,none⟩) 1 c,.func (.func 228) #[] #[.pointer (some ⟨bi,0,none⟩),.pointer (some ⟨bc,0,none⟩)]] w fun e w'=>e=.returned (.int .i64 0)∧Below w.heap.size w w':=by
  have HB:=Lib.hid hB
  obtain ⟨r0,r1,r2,r3,r4⟩:=row_cells hg
  have gl:=hg.lt
  clear hB hg
  go_enter Tryz.func194,Tryz.ntmps194
  go_wp2
  refine wp_loop_rounds 2 ?_
  rw [rounds_succ]
  go_wp2_with fail
  refine (at_Geq bi bc bl _ HB.out).mono ?_
  rintro e W1 ⟨rfl,hb1⟩
  have HE1:=Lib.hid hb1
  clear hb1
  go_wp2
  go_ret
  exact ⟨rfl,HE1.out⟩
theorem idx_Gtr (g c bi bc bl:Nat) (zs:Array Value) (w:World) (hg:Blk w g 108 (#[.int .i64 0,.int .i64 5,.int .i64 1,.int .i64 2,.int .i64 3]++zs)) (hB:AtBoxes 230 w bi bc bl) :
    Calls Tryz.prog 194 #[.slice (some ⟨g,0,none⟩) 1 c,.func (.func 228) #[] #[.pointer (some ⟨bi,0,none⟩),.pointer (some ⟨bc,0,none⟩)]] w fun e w'=>e=.returned (.int .i64 (-1))∧Below w.heap.size w w':=by
  have HB:=Lib.hid hB
  obtain ⟨r0,r1,r2,r3,r4⟩:=row_cells hg
  have gl:=hg.lt
  clear hB hg
  go_enter Tryz.func194,Tryz.ntmps194
  go_wp2
  refine wp_loop_rounds 2 ?_
  rw [rounds_succ]
  go_wp2_with fail
  refine (at_Gtr bi bc bl _ HB.out).mono ?_
  rintro e W1 ⟨rfl,hb1⟩
  have HE1:=Lib.hid hb1
  clear hb1
  go_wp2
  rw [rounds_succ]
  go_wp2
  go_ret
  exact ⟨rfl,HE1.out⟩
theorem index_Geq (bo bc bl:Nat) (v1 v2:Value) (w:World) (ho:Blk w bo 162 #[v1,v2]) (hr:RowsAt w true v1) (hc:Blk w bc 3 #[.int .i64 0]) (hl:Blk w bl 3 #[.int .i64 5]) :
    Calls Tryz.prog 227 #[.func (.func 229) #[] #[.pointer (some ⟨bl,0,none⟩)],.pointer (some ⟨bo,0,none⟩),.pointer (some ⟨bc,0,none⟩)] w fun e w'=>e=.returned (.int .i64 0)∧Below w.heap.size w w':=by
  have hmf:∀ (fn:Fn) (first cap:Array Value) (w:World),(Instr.makeFunc fn first cap).run Tryz.prog w=.ok (.func fn first cap) w:=fun _ _ _ _=>rfl
  obtain ⟨h,_⟩|⟨_,g,c,zs,rfl,hcap,hg⟩:=hr
  · cases h
  have HB0:=Lib.hid (show AtBoxes 229 (w.alloc (.cells #[.func (.func 229) #[] #[.pointer (some ⟨bl,0,none⟩)]] 273)) w.heap.size bc bl from ⟨Blk.new _ _ _,hc.alloc _,hl.alloc _⟩)
  have HG0:=Lib.hid (hg.ext (ext_new w (.cells #[.func (.func 229) #[] #[.pointer (some ⟨bl,0,none⟩)]] 273)))
  have HO0:=Lib.hid (ho.ext (ext_new w (.cells #[.func (.func 229) #[] #[.pointer (some ⟨bl,0,none⟩)]] 273)))
  have o0:=HO0.out.cell 0
  have ol:=ho.lt
  clear ho hc hl hg hcap
  go_enter Tryz.func227,Tryz.ntmps227
  go_wp2_with fail
  refine (idx_Geq g c w.heap.size bc bl zs _ HG0.out HB0.out).mono ?_
  rintro e W1 ⟨rfl,hb1⟩
  have HE1:=Lib.hid (ext_call (ext_new w _) hb1)
  have hO1:=HO0.out.ext hb1
  have p0:=hO1.cell 0
  clear hb1 o0 hO1
  go_wp2
  go_ret
  exact ⟨rfl,HE1.out⟩
theorem index_Gtr (bo bc bl:Nat) (v1 v2:Value) (w:World) (ho:Blk w bo 162 #[v1,v2]) (hr:RowsAt w true v1) (hc:Blk w bc 3 #[.int .i64 0]) (hl:Blk w bl 3 #[.int .i64 5]) :
    Calls Tryz.prog 227 #[.func (.func 230) #[] #[.pointer (some ⟨bl,0,none⟩)],.pointer (some ⟨bo,0,none⟩),.pointer (some ⟨bc,0,none⟩)] w fun e w'=>e=.returned (.int .i64 1)∧Below w.heap.size w w':=by
  have hmf:∀ (fn:Fn) (first cap:Array Value) (w:World),(Instr.makeFunc fn first cap).run Tryz.prog w=.ok (.func fn first cap) w:=fun _ _ _ _=>rfl
  obtain ⟨h,_⟩|⟨_,g,c,zs,rfl,hcap,hg⟩:=hr
  · cases h
  have HB0:=Lib.hid (show AtBoxes 230 (w.alloc (.cells #[.func (.func 230) #[] #[.pointer (some ⟨bl,0,none⟩)]] 273)) w.heap.size bc bl from ⟨Blk.new _ _ _,hc.alloc _,hl.alloc _⟩)
  have HG0:=Lib.hid (hg.ext (ext_new w (.cells #[.func (.func 230) #[] #[.pointer (some ⟨bl,0,none⟩)]] 273)))
  have HO0:=Lib.hid (ho.ext (ext_new w (.cells #[.func (.func 230) #[] #[.pointer (some ⟨bl,0,none⟩)]] 273)))
  have o0:=HO0.out.cell 0
  have ol:=ho.lt
  clear ho hc hl hg hcap
  go_enter Tryz.func227,Tryz.ntmps227
  go_wp2_with fail
  refine (idx_Gtr g c w.heap.size bc bl zs _ HG0.out HB0.out).mono ?_
  rintro e W1 ⟨rfl,hb1⟩
  have HE1:=Lib.hid (ext_call (ext_new w _) hb1)
  have hO1:=HO0.out.ext hb1
  have p0:=hO1.cell 0
  clear hb1 o0 hO1
  go_wp2
  go_ret
  exact ⟨rfl,HE1.out⟩
theorem idx_none (a:Option Addr) (c:Nat) (f:Value) (w:World) :
    Calls Tryz.prog 194 #[.slice a 0 c,f] w fun e w'=>e=.returned (.int .i64 (-1))∧w=w':=by
  go_enter Tryz.func194,Tryz.ntmps194
  go_wp2
  refine wp_loop_rounds 1 ?_
  rw [rounds_succ]
  go_wp2
  go_ret
  exact ⟨rfl,rfl⟩
theorem index_none (bo bc n bl:Nat) (v2:Value) (w:World) (ho:Blk w bo 162 #[.slice none 0 0,v2]) :
    Calls Tryz.prog 227 #[.func (.func n) #[] #[.pointer (some ⟨bl,0,none⟩)],.pointer (some ⟨bo,0,none⟩),.pointer (some ⟨bc,0,none⟩)] w fun e w'=>e=.returned (.int .i64 0)∧Below w.heap.size w w':=by
  have hmf:∀ (fn:Fn) (first cap:Array Value) (w:World),(Instr.makeFunc fn first cap).run Tryz.prog w=.ok (.func fn first cap) w:=fun _ _ _ _=>rfl
  have hO0:=ho.ext (ext_new w (.cells #[.func (.func n) #[] #[.pointer (some ⟨bl,0,none⟩)]] 273))
  have o0:=hO0.cell 0
  clear ho hO0
  go_enter Tryz.func227,Tryz.ntmps227
  go_wp2_with (go_at_call 194;refine (idx_none _ _ _ _).mono ?_;rintro e w' ⟨rfl,rfl⟩)
  go_ret
  exact ⟨rfl,ext_new _ _⟩
end
section
open Go.RowKit
attribute [local go_sem ↓] Go.wp_at_zero Go.wp_at_succ
theorem keepC1 {X W W':World} {p:Addr} {u:Value} (h:W.cell? p=some u∧Below X.heap.size X W) (hb:Below W.heap.size W W'):W'.cell? p=some u∧Below X.heap.size X W':=⟨cell_ext h.1 hb,ext_call h.2 hb⟩
theorem keepC1B {X W:World} {p:Addr} {u:Value} (h:W.cell? p=some u∧Below X.heap.size X W):Below X.heap.size X W:=h.2
theorem keepC4 {X W W':World} {p q r s:Addr} {u v x y:Value} (h:W.cell? p=some u∧W.cell? q=some v∧W.cell? r=some x∧W.cell? s=some y∧Below X.heap.size X W) (hb:Below W.heap.size W W') :
    W'.cell? p=some u∧W'.cell? q=some v∧W'.cell? r=some x∧W'.cell? s=some y∧Below X.heap.size X W':=⟨cell_ext h.1 hb,cell_ext h.2.1 hb,cell_ext h.2.2.1 hb,cell_ext h.2.2.2.1 hb,ext_call h.2.2.2.2 hb⟩
theorem keepC4B {X W:World} {p q r s:Addr} {u v x y:Value} (h:W.cell? p=some u∧W.cell? q=some v∧W.cell? r=some x∧W.cell? s=some y∧Below X.heap.size X W):Below X.heap.size X W:=h.2.2.2.2
theorem blk_set9 {W:World} {g:Nat} {ty:TypeId} {a0 a1 a2 a3 a4 a5 a6 a7 a8 u0 u1 u2 u3 u4 u5 u6 u7 u8:Value} (h:Blk W g ty #[a0,a1,a2,a3,a4,a5,a6,a7,a8]):Blk (((((((((W.setCell ⟨g,0,none⟩ u0).setCell ⟨g,1,none⟩ u1).setCell ⟨g,2,none⟩ u2).setCell ⟨g,3,none⟩ u3).setCell ⟨g,4,none⟩ u4).setCell ⟨g,5,none⟩ u5).setCell ⟨g,6,none⟩ u6).setCell ⟨g,7,none⟩ u7).setCell ⟨g,8,none⟩ u8) g ty #[u0,u1,u2,u3,u4,u5,u6,u7,u8]:=by
  have h9:=((((((((h.set_ 0 u0).set_ 1 u1).set_ 2 u2).set_ 3 u3).set_ 4 u4).set_ 5 u5).set_ 6 u6).set_ 7 u7).set_ 8 u8
  simpa using h9
theorem ext_set9 {w W:World} {g:Nat} {u0 u1 u2 u3 u4 u5 u6 u7 u8:Value} (h:Below w.heap.size w W) (hg:w.heap.size≤g):Below w.heap.size w (((((((((W.setCell ⟨g,0,none⟩ u0).setCell ⟨g,1,none⟩ u1).setCell ⟨g,2,none⟩ u2).setCell ⟨g,3,none⟩ u3).setCell ⟨g,4,none⟩ u4).setCell ⟨g,5,none⟩ u5).setCell ⟨g,6,none⟩ u6).setCell ⟨g,7,none⟩ u7).setCell ⟨g,8,none⟩ u8):=ext_set (ext_set (ext_set (ext_set (ext_set (ext_set (ext_set (ext_set (ext_set h hg _) hg _) hg _) hg _) hg _) hg _) hg _) hg _) hg _
theorem heap_set9 {W:World} {g k:Nat} {u0 u1 u2 u3 u4 u5 u6 u7 u8:Value} (h:k≠g):(((((((((W.setCell ⟨g,0,none⟩ u0).setCell ⟨g,1,none⟩ u1).setCell ⟨g,2,none⟩ u2).setCell ⟨g,3,none⟩ u3).setCell ⟨g,4,none⟩ u4).setCell ⟨g,5,none⟩ u5).setCell ⟨g,6,none⟩ u6).setCell ⟨g,7,none⟩ u7).setCell ⟨g,8,none⟩ u8).heap[k]? = W.heap[k]? := by
  rw [Below.heap_setCell _ _ _ _ h,Below.heap_setCell _ _ _ _ h,Below.heap_setCell _ _ _ _ h,Below.heap_setCell _ _ _ _ h,Below.heap_setCell _ _ _ _ h,Below.heap_setCell _ _ _ _ h,Below.heap_setCell _ _ _ _ h,Below.heap_setCell _ _ _ _ h,Below.heap_setCell _ _ _ _ h]
theorem existsYes (w:World):Calls Tryz.prog 226 #[.int .i64 0,.int .i64 0] w fun e w'=>e=.returned (.bool true)∧w=w':=by
  go_enter Tryz.func226,Tryz.ntmps226
  go_wp2
  go_ret
  exact ⟨rfl,rfl⟩
theorem strs_slice' {S:Nat→Prop} {w:World} {v:Value} {l:List ByteArray} (h:Strs S w v l):∃ A n c,v=.slice A n c:=by
  obtain ⟨A,c,rfl,_⟩:=h
  exact ⟨_,_,_,rfl⟩
theorem rows_none {W:World} {v:Value} (h:RowsAt W false v):v=.slice none 0 0:=by
  rcases h with ⟨_,h⟩|⟨h,_⟩
  · exact h
  · cases h
theorem rows_one {W:World} {v:Value} (h:RowsAt W true v):∃ g c zs,v=.slice (some ⟨g,0,none⟩) 1 c∧1≤c∧Blk W g 108 (#[.int .i64 0,.int .i64 5,.int .i64 1,.int .i64 2,.int .i64 3]++zs):=by
  rcases h with ⟨h,_⟩|⟨_,h⟩
  · cases h
  · exact h
theorem order0 (gs gm:Nat) (pos:Int) (w:World) (hS:StateIs w false gs gm pos) :
    Calls Tryz.prog 128 #[.pointer (some ⟨gs,0,none⟩),.int .i64 0,.int .i64 0] w fun e w'=>∃ A n c,e=.returned (.agg #[.slice none 0 0,.slice A n c])∧Below w.heap.size w w':=by
  refine (orderOf_any false gs gm 0 pos 0 (by omega) w hS).mono ?_
  rintro e W1 ⟨v1,v2,rfl,ho,hb1⟩
  obtain ⟨A1,n1,c1,A2,n2,c2,rfl,rfl⟩:=order_slices ho
  have h1:=rows_none (v:=.slice A1 n1 c1) (W:=W1) ho.1
  injection h1 with a b c
  subst a b c
  exact ⟨_,_,_,rfl,hb1⟩
theorem order1 (gs gm:Nat) (pos:Int) (w:World) (hS:StateIs w true gs gm pos) :
    Calls Tryz.prog 128 #[.pointer (some ⟨gs,0,none⟩),.int .i64 0,.int .i64 0] w fun e w'=>
      ∃ g k zs A n c,e=.returned (.agg #[.slice (some ⟨g,0,none⟩) 1 k,.slice A n c])∧1≤k∧Blk w' g 108 (#[.int .i64 0,.int .i64 5,.int .i64 1,.int .i64 2,.int .i64 3]++zs)∧Strs (fun _=>True) w' (.slice A n c) [rowEnc]∧Below w.heap.size w w':=by
  refine (orderOf_any true gs gm 0 pos 0 (by omega) w hS).mono ?_
  rintro e W1 ⟨v1,v2,rfl,ho,hb1⟩
  obtain ⟨A1,n1,c1,A2,n2,c2,rfl,rfl⟩:=order_slices ho
  obtain ⟨g,k,zs,h1,h2,h3⟩:=rows_one (v:=.slice A1 n1 c1) (W:=W1) ho.1
  injection h1 with a b c
  subst a b c
  exact ⟨_,_,_,_,_,_,rfl,h2,h3,ho.2,hb1⟩
theorem sumsAny (one:Bool) (gs gm:Nat) (pos:Int) (w:World) (hS:StateIs w one gs gm pos) (hR:RoundOK w) :
    Calls Tryz.prog 40 #[.pointer (some ⟨gs,0,none⟩)] w fun e w'=>∃ A n c,e=.returned (.slice A n c)∧Strs (fun b=>w.heap.size≤b) w' (.slice A n c) (sums one 16)∧Below w.heap.size w w':=by
  refine (summaries_any one gs gm pos w hS hR).mono ?_
  rintro e W1 ⟨v,rfl,hs,hb⟩
  obtain ⟨A,n,c,rfl⟩:=strs_slice' hs
  exact ⟨A,n,c,rfl,hs,hb⟩
theorem prove0 (gs gm:Nat) (pos:Int) (w:World) (hS:StateIs w false gs gm pos) (hR:RoundOK w) :
    Calls Tryz.prog 207 #[.pointer (some ⟨gs,0,none⟩),.int .i64 0,.int .i64 0,.int .i64 5,.int .i64 5] w
      fun e w'=>∃ A n c,e=.returned (.tuple #[.agg #[.int .i64 0,.int .i64 0,.int .i64 5,.int .i64 5,.int .i64 0,.int .i64 0,.slice none 0 0,.slice none 0 0,.slice A n c],.int .i64 0])∧Strs (fun _=>True) w' (.slice A n c) (sums false 16)∧Below w.heap.size w w':=by
  have hmf:∀ (fn:Fn) (first cap:Array Value) (w:World),(Instr.makeFunc fn first cap).run Tryz.prog w=.ok (.func fn first cap) w:=fun _ _ _ _=>rfl
  obtain ⟨W0,hW0⟩:∃ W0,W0=(((w.alloc (.cells #[.int .i64 0] 3)).alloc (.cells #[.int .i64 5] 3)).alloc (.cells #[.int .i64 5] 3)).alloc (.cells #[.int .i64 0,.int .i64 0,.int .i64 0,.int .i64 0,.int .i64 0,.int .i64 0,.slice none 0 0,.slice none 0 0,.slice none 0 0] 284):=⟨_,rfl⟩
  have HE0:=Lib.hid (show Below w.heap.size w W0 by rw [hW0];exact ext_alloc (ext_alloc (ext_alloc (ext_new _ _) _) _) _)
  have HC0:=Lib.hid (show Blk W0 w.heap.size 3 #[.int .i64 0] by rw [hW0];exact (((Blk.new _ _ _).alloc _).alloc _).alloc _)
  have HL0:=Lib.hid (show Blk W0 (w.heap.size+1) 3 #[.int .i64 5] by rw [hW0];exact ((Blk.new' _ _ _ (by simp)).alloc _).alloc _)
  have HH0:=Lib.hid (show Blk W0 (w.heap.size+1+1) 3 #[.int .i64 5] by rw [hW0];exact (Blk.new' _ _ _ (by simp)).alloc _)
  have HP0:=Lib.hid (show Blk W0 (w.heap.size+1+1+1) 284 #[.int .i64 0,.int .i64 0,.int .i64 0,.int .i64 0,.int .i64 0,.int .i64 0,.slice none 0 0,.slice none 0 0,.slice none 0 0] by rw [hW0];exact Blk.new' _ _ _ (by simp))
  have HS:=Lib.hid hS
  have HR:=Lib.hid hR
  have HW0:=Lib.hid hW0
  clear hW0 hS hR
  go_enter Tryz.func207,Tryz.ntmps207
  go_wp2_with (go_at_call 226;refine (existsYes _).mono ?_;rintro e w' ⟨rfl,rfl⟩)
  rw [← HW0.out]
  refine (order0 gs gm pos W0 (HS.out.ext HE0.out)).mono ?_
  rintro e W1 ⟨A,n,c,rfl,hb1⟩
  have HE1:=Lib.hid (ext_call HE0.out hb1)
  have HC1:=Lib.hid (HC0.out.ext hb1)
  have HL1:=Lib.hid (HL0.out.ext hb1)
  have HH1:=Lib.hid (HH0.out.ext hb1)
  have HP1:=Lib.hid (HP0.out.ext hb1)
  clear hb1
  go_wp2_with fail
  refine (index_none W1.heap.size w.heap.size 229 (w.heap.size+1) (.slice A n c) _ (Blk.new _ _ _)).mono ?_
  rintro e X ⟨rfl,hbx⟩
  have hEx:=ext_call (ext_alloc HE1.out _) hbx
  have HCx:=Lib.hid ((HC1.out.alloc _).ext hbx)
  have HLx:=Lib.hid ((HL1.out.alloc _).ext hbx)
  have HHx:=Lib.hid ((HH1.out.alloc _).ext hbx)
  have HPx:=Lib.hid ((HP1.out.alloc _).ext hbx)
  have HOx:=Lib.hid ((Blk.new W1 162 #[.slice none 0 0,.slice A n c]).ext hbx)
  have HBo:=Lib.hid (show w.heap.size+1+1+1<W1.heap.size from HP1.out.lt)
  have HEx:=Lib.hid hEx
  clear hbx hEx HC1 HL1 HH1 HP1 HE1 HC0 HL0 HH0 HP0
  generalize W1.heap.size=bo at *
  have o0:=HOx.out.cell 0
  have hmx:max (-1:Int) 0=0:=by decide
  have hmn:min (IntKind.i64.wrap 1) 0=0:=by decide
  have HK0:=Lib.hid (show X.cell? ⟨bo,0,none⟩=some (.slice none 0 0)∧Below X.heap.size X X from ⟨o0,ext_refl X⟩)
  go_wp2
  go_region_held3 (fun w'=>w'.cell? ⟨bo,0,none⟩=some (.slice none 0 0)∧Below X.heap.size X w')
    (first|exact keepC1 HK0.out (ext_refl X).drew|assumption|exact keepC1 (by assumption) (by assumption))
    (first|(go_at_call 227;(with_reducible refine (index_none bo w.heap.size 230 (w.heap.size+1+1) (.slice A n c) _ ?_).mono ?_);(exact HOx.out.ext (keepC1B (by assumption)));rintro e Y ⟨rfl,hb'⟩))
  have HEy:=Lib.hid (ext_call HEx.out (undrew hb'))
  have HCy:=Lib.hid (HCx.out.ext (undrew hb'))
  have HLy:=Lib.hid (HLx.out.ext (undrew hb'))
  have HHy:=Lib.hid (HHx.out.ext (undrew hb'))
  have HPy:=Lib.hid (HPx.out.ext (undrew hb'))
  have HOy:=Lib.hid (HOx.out.ext (undrew hb'))
  have HSy:=Lib.hid (HS.out.ext HEy.out)
  have HRy:=Lib.hid (HR.out.below HEy.out)
  clear hb' o0 HCx HLx HHx HPx HOx HEx HK0
  have k0:=HCy.out.cell 0
  have l0:=HLy.out.cell 0
  have h0:=HHy.out.cell 0
  have o0:=HOy.out.cell 0
  have HK1:=Lib.hid (show Y.cell? ⟨w.heap.size,0,none⟩=some (.int .i64 0)∧Y.cell? ⟨w.heap.size+1,0,none⟩=some (.int .i64 5)∧Y.cell? ⟨w.heap.size+1+1,0,none⟩=some (.int .i64 5)∧Y.cell? ⟨bo,0,none⟩=some (.slice none 0 0)∧Below Y.heap.size Y Y from ⟨k0,l0,h0,o0,ext_refl Y⟩)
  go_wp2
  go_region_held3 (fun w'=>w'.cell? ⟨w.heap.size,0,none⟩=some (.int .i64 0)∧w'.cell? ⟨w.heap.size+1,0,none⟩=some (.int .i64 5)∧w'.cell? ⟨w.heap.size+1+1,0,none⟩=some (.int .i64 5)∧w'.cell? ⟨bo,0,none⟩=some (.slice none 0 0)∧Below Y.heap.size Y w')
    (first|with_reducible assumption|exact keepC4 HK1.out (by repeat (first|with_reducible refine ext_alloc ?_ _|with_reducible refine Below.drew ?_|with_reducible assumption|with_reducible exact ext_refl _|refine ext_set ?_ (Nat.le_refl _) _)))
    (first|(go_at_call 40;(with_reducible refine (sumsAny false gs gm pos _ ?_ ?_).mono ?_);(exact HSy.out.ext (keepC4B (by assumption)));(exact HRy.out.below (keepC4B (by assumption)));rintro e Z ⟨B,m,d,rfl,hs',hb'⟩;have hYZ:=ext_call (keepC4B (by assumption)) hb';try (have hbx:=(show Blk Z Y.heap.size 284 #[.int .i64 0,.int .i64 0,.int .i64 0,.int .i64 0,.int .i64 0,.int .i64 0,.slice none 0 0,.slice none 0 0,.slice none 0 0] from ((Blk.new Y _ _).drew).ext hb');have bx0:=hbx.cell 0;have bf0:=hbx.frozen 0;have bx1:=hbx.cell 1;have bf1:=hbx.frozen 1;have bx2:=hbx.cell 2;have bf2:=hbx.frozen 2;have bx3:=hbx.cell 3;have bf3:=hbx.frozen 3;have bx4:=hbx.cell 4;have bf4:=hbx.frozen 4;have bx5:=hbx.cell 5;have bf5:=hbx.frozen 5;have bx6:=hbx.cell 6;have bf6:=hbx.frozen 6;have bx7:=hbx.cell 7;have bf7:=hbx.frozen 7;have bx8:=hbx.cell 8;have bf8:=hbx.frozen 8;have HBX:=Lib.hid hbx;clear hbx)))
  all_goals
    first
    | (generalize hV:(World.setCell (World.setCell (World.setCell (World.setCell (World.setCell (World.setCell (World.setCell (World.setCell (World.setCell Z ⟨Y.heap.size,0,none⟩ (.int .i64 0)) ⟨Y.heap.size,1,none⟩ (.int .i64 0)) ⟨Y.heap.size,2,none⟩ (.int .i64 5)) ⟨Y.heap.size,3,none⟩ (.int .i64 5)) ⟨Y.heap.size,4,none⟩ (.int .i64 0)) ⟨Y.heap.size,5,none⟩ (.int .i64 0)) ⟨Y.heap.size,6,none⟩ (.slice none 0 0)) ⟨Y.heap.size,7,none⟩ (.slice none 0 0)) ⟨Y.heap.size,8,none⟩ (.slice B m d))=V
       have HPv:=Lib.hid (show Blk V Y.heap.size 284 #[.int .i64 0,.int .i64 0,.int .i64 5,.int .i64 5,.int .i64 0,.int .i64 0,.slice none 0 0,.slice none 0 0,.slice B m d] by subst hV;exact blk_set9 HBX.out)
       have HEv:=Lib.hid (show Below Y.heap.size Y V by subst hV;exact ext_set9 hYZ (Nat.le_refl _))
       have HSv:=Lib.hid (show Strs (fun b=>w.heap.size+1+1+1<b) V (.slice B m d) (sums false 16) by subst hV;exact (hs'.keep (fun k hk _=>heap_set9 (by simp at hk;omega))).mono (fun _ hk _=>by have:=HPy.out.lt;simp at hk;omega))
       clear bx0 bf0 bx1 bf1 bx2 bf2 bx3 bf3 bx4 bf4 bx5 bf5 bx6 bf6 bx7 bf7 bx8 bf8 hV HBX hb' hs' hYZ
       generalize Y.heap.size=bp at HPv ⊢)
    | (generalize hV:World.alloc Z (.cells #[.int .i64 0,.int .i64 0,.int .i64 5,.int .i64 5,.int .i64 0,.int .i64 0,.slice none 0 0,.slice none 0 0,.slice B m d] 284)=V
       have HPv:=Lib.hid (show Blk V Z.heap.size 284 #[.int .i64 0,.int .i64 0,.int .i64 5,.int .i64 5,.int .i64 0,.int .i64 0,.slice none 0 0,.slice none 0 0,.slice B m d] by subst hV;exact Blk.new _ _ _)
       have HEv:=Lib.hid (show Below Y.heap.size Y V by subst hV;exact ext_alloc hYZ _)
       have HSv:=Lib.hid (show Strs (fun b=>w.heap.size+1+1+1<b) V (.slice B m d) (sums false 16) by subst hV;exact (hs'.below (ext_new _ _)).mono (fun _ hk _=>by have:=HPy.out.lt;simp at hk;omega))
       clear hV hb' hs' hYZ
       generalize Z.heap.size=bp at HPv ⊢)
  all_goals
    have HRv:=Lib.hid (HPy.out.ext HEv.out)
    have HEw:=Lib.hid (ext_call HEy.out HEv.out)
    clear k0 l0 h0 o0 HK1 HCy HLy HHy HPy HOy HSy HRy HEy HEv hmx hmn
    have r0:=HRv.out.cell 0;have r1:=HRv.out.cell 1;have r2:=HRv.out.cell 2;have r3:=HRv.out.cell 3;have r4:=HRv.out.cell 4;have r5:=HRv.out.cell 5;have r6:=HRv.out.cell 6;have r7:=HRv.out.cell 7;have r8:=HRv.out.cell 8
    have q0:=HPv.out.cell 0;have q1:=HPv.out.cell 1;have q2:=HPv.out.cell 2;have q3:=HPv.out.cell 3;have q4:=HPv.out.cell 4;have q5:=HPv.out.cell 5;have q6:=HPv.out.cell 6;have q7:=HPv.out.cell 7;have q8:=HPv.out.cell 8
    have f0:=HRv.out.frozen 0;have f1:=HRv.out.frozen 1;have f2:=HRv.out.frozen 2;have f3:=HRv.out.frozen 3;have f4:=HRv.out.frozen 4;have f5:=HRv.out.frozen 5;have f6:=HRv.out.frozen 6;have f7:=HRv.out.frozen 7;have f8:=HRv.out.frozen 8
    go_wp2
    refine wp_loop_rounds 1 ?_
    rw [rounds_succ]
    go_wp2
    have hBf:=blk_set9 (u0:=.int .i64 0) (u1:=.int .i64 0) (u2:=.int .i64 5) (u3:=.int .i64 5) (u4:=.int .i64 0) (u5:=.int .i64 0) (u6:=.slice none 0 0) (u7:=.slice none 0 0) (u8:=.slice B m d) HRv.out
    have y0:=hBf.cell 0;have y1:=hBf.cell 1;have y2:=hBf.cell 2;have y3:=hBf.cell 3;have y4:=hBf.cell 4;have y5:=hBf.cell 5;have y6:=hBf.cell 6;have y7:=hBf.cell 7;have y8:=hBf.cell 8
    refine bodyPost_ret (v:=.tuple #[.agg #[.int .i64 0,.int .i64 0,.int .i64 5,.int .i64 5,.int .i64 0,.int .i64 0,.slice none 0 0,.slice none 0 0,.slice B m d],.int .i64 0]) (by simp [results,Tryz.results207,go_sem,y0,y1,y2,y3,y4,y5,y6,y7,y8]) rfl ⟨B,m,d,rfl,?_,?_⟩
    · exact (HSv.out.keep (fun k hk _=>heap_set9 (by omega))).mono (fun _ _ _=>trivial)
    · exact ext_set9 HEw.out (by omega)
end
section
open Go.RowKit Go.Shelf
attribute [local go_sem ↓] Go.wp_at_zero Go.wp_at_succ
theorem own_frozen {w:World} {base e n cap g:Nat} {xs:List Value} (h:w.ownsRow base e 1 (.slice (some ⟨g,0,none⟩) n cap) n xs) (i:Nat):w.frozen? ⟨g,i,none⟩=false:=by
  rcases h.2 with ⟨he,_⟩|⟨g',cap',cur,he,_,hg,_⟩
  · cases he
  · injection he with h1 h2 h3
    injection h1 with h1
    injection h1 with h1
    subst h1
    exact Blk.frozen (show Blk w g e cur from hg) i
def ProofPost (w:World) (l:List ByteArray) (e:Ending) (w':World):Prop:=
  ∃ v,e=.returned (.tuple #[v,.int .i64 0])∧Strs (fun b=>w.heap.size≤b) w' v l∧Below w.heap.size w w'
theorem proof1_any (S:Nat→Prop) (v:Value) (x:ByteArray) (w:World) (hv:Strs S w v [x]) :
    Calls Tryz.prog 82 #[v,.int .i64 0] w (ProofPost w []):=by
  obtain ⟨A,c,rfl,hc,_⟩:=hv
  have hc2:1≤c:=by simpa using hc
  clear hc
  go_enter Tryz.func82,Tryz.ntmps82
  go_wp2
  go_step3
  go_wp2
  go_step3
  go_wp2
  refine wp_loop_rounds 1 ?_
  rw [rounds_succ]
  go_wp2_with (go_at_call 132;refine (Tryz.slices_Reverse_string_empty none 0 w).mono ?_;rintro e W3 ⟨rfl,rfl⟩)
  rw [Exit.noGoto_ret]
  go_ret2
  exact ⟨_,rfl,Strs.nil_ _ _,Below.refl _ _⟩
end
section
open Go.RowKit
attribute [local go_sem ↓] Go.wp_at_zero Go.wp_at_succ
def PathsAt (W:World) (v:Value):Prop:=∃ g c A0 c0 ys,v=.slice (some ⟨g,0,none⟩) 1 c∧1≤c∧Blk W g 44 (#[.slice A0 0 c0]++ys)
theorem PathsAt.ext {w W:World} {v:Value} (h:PathsAt w v) (k:Below w.heap.size w W):PathsAt W v:=by
  obtain ⟨g,c,A0,c0,ys,h1,h2,h3⟩:=h
  exact ⟨g,c,A0,c0,ys,h1,h2,h3.ext k⟩
def RP1 (W:World) (va:Array Value):Prop:=∃ v6 v7 v8,va=#[.int .i64 0,.int .i64 0,.int .i64 5,.int .i64 5,.int .i64 1,.int .i64 0,v6,v7,v8]∧RowsAt W true v6∧PathsAt W v7∧Strs (fun _=>True) W v8 (sums true 16)
theorem RP1.ext {w W:World} {va:Array Value} (h:RP1 w va) (k:Below w.heap.size w W):RP1 W va:=by
  obtain ⟨v6,v7,v8,h1,h2,h3,h4⟩:=h
  exact ⟨v6,v7,v8,h1,h2.ext k,h3.ext k,h4.below k⟩
def PrT (w:World) (bp br:Nat) (v8:Value) (T:World):Prop:=∃ g1 k1 zs g2 k2 A0 c0 ys,Blk T bp 284 #[.int .i64 0,.int .i64 0,.int .i64 5,.int .i64 5,.int .i64 1,.int .i64 0,.slice (some ⟨g1,0,none⟩) 1 k1,.slice (some ⟨g2,0,none⟩) 1 k2,v8]∧1≤k1∧1≤k2 ∧
  Blk T g1 108 (#[.int .i64 0,.int .i64 5,.int .i64 1,.int .i64 2,.int .i64 3]++zs)∧Blk T g2 44 (#[.slice A0 0 c0]++ys)∧Blk T br 284 #[.int .i64 0,.int .i64 0,.int .i64 0,.int .i64 0,.int .i64 0,.int .i64 0,.slice none 0 0,.slice none 0 0,.slice none 0 0]∧br<g1∧br<g2∧Strs (fun b=>br<b) T v8 (sums true 16)∧Below w.heap.size w T
theorem rounds_name {P:Program} {c:Code} {Q:Exit→Act→World→Prop} {n:Nat} {a:Act} {W:World} (F:World→Prop) (hF:F W) (h:∀ T,F T→Code.rounds P c Q n a T):Code.rounds P c Q n a W:=h W hF
theorem blk_set67 {W:World} {g:Nat} {ty:TypeId} {a0 a1 a2 a3 a4 a5 a6 a7 a8 u v:Value} (h:Blk W g ty #[a0,a1,a2,a3,a4,a5,a6,a7,a8]):Blk ((W.setCell ⟨g,6,none⟩ u).setCell ⟨g,7,none⟩ v) g ty #[a0,a1,a2,a3,a4,a5,u,v,a8]:=by
  have h9:=(h.set_ 6 u).set_ 7 v
  simpa using h9
theorem path_info:(Tryz.prog.info? 44).map (fun i=>(i.zero,i.size,i.bytes))=some (some (.slice none 0 0),1,24):=by kernel_rfl
theorem prF {X W:World} {bo g bp:Nat} {a b:Value} {zs:Array Value} (h:Blk X bo 162 #[a,b]∧Blk X g 108 (#[.int .i64 0,.int .i64 5,.int .i64 1,.int .i64 2,.int .i64 3]++zs)∧bo≠bp∧g≠bp) (k:Ext2 bp bp X W) :
    W.cell? ⟨bo,0,none⟩=some a∧W.cell? ⟨g,0,none⟩=some (.int .i64 0)∧W.cell? ⟨g,1,none⟩=some (.int .i64 5)∧W.cell? ⟨g,2,none⟩=some (.int .i64 1)∧W.cell? ⟨g,3,none⟩=some (.int .i64 2)∧W.cell? ⟨g,4,none⟩=some (.int .i64 3)∧Ext2 bp bp X W:=by
  obtain ⟨r0,r1,r2,r3,r4⟩:=row_cells (h.2.1.ext2 k h.2.2.2 h.2.2.2)
  exact ⟨(h.1.ext2 k h.2.2.1 h.2.2.1).cell 0,r0,r1,r2,r3,r4,k⟩
theorem prG {X W:World} {bp:Nat} {a0 a1 a2 a3 a4 a5 a8:Value} (h:Blk X bp 284 #[a0,a1,a2,a3,a4,a5,.slice none 0 0,.slice none 0 0,a8]) (k:Below X.heap.size X W):W.cell? ⟨bp,6,none⟩=some (.slice none 0 0)∧W.cell? ⟨bp,7,none⟩=some (.slice none 0 0):=⟨(h.ext k).cell 6,(h.ext k).cell 7⟩
theorem prove1 (gs gm:Nat) (pos:Int) (w:World) (hS:StateIs w true gs gm pos) (hR:RoundOK w) :
    Calls Tryz.prog 207 #[.pointer (some ⟨gs,0,none⟩),.int .i64 0,.int .i64 0,.int .i64 5,.int .i64 5] w
      fun e w'=>∃ va,e=.returned (.tuple #[.agg va,.int .i64 0])∧RP1 w' va∧Below w.heap.size w w':=by
  obtain ⟨ir,hir,hzr0,hzr1,hzr2⟩:=info_parts row_info
  obtain ⟨ip,hip,hzp0,hzp1,hzp2⟩:=info_parts path_info
  have hmf:∀ (fn:Fn) (first cap:Array Value) (w:World),(Instr.makeFunc fn first cap).run Tryz.prog w=.ok (.func fn first cap) w:=fun _ _ _ _=>rfl
  obtain ⟨W0,hW0⟩:∃ W0,W0=(((w.alloc (.cells #[.int .i64 0] 3)).alloc (.cells #[.int .i64 5] 3)).alloc (.cells #[.int .i64 5] 3)).alloc (.cells #[.int .i64 0,.int .i64 0,.int .i64 0,.int .i64 0,.int .i64 0,.int .i64 0,.slice none 0 0,.slice none 0 0,.slice none 0 0] 284):=⟨_,rfl⟩
  have HE0:=Lib.hid (show Below w.heap.size w W0 by rw [hW0];exact ext_alloc (ext_alloc (ext_alloc (ext_new _ _) _) _) _)
  have HC0:=Lib.hid (show Blk W0 w.heap.size 3 #[.int .i64 0] by rw [hW0];exact (((Blk.new _ _ _).alloc _).alloc _).alloc _)
  have HL0:=Lib.hid (show Blk W0 (w.heap.size+1) 3 #[.int .i64 5] by rw [hW0];exact ((Blk.new' _ _ _ (by simp)).alloc _).alloc _)
  have HH0:=Lib.hid (show Blk W0 (w.heap.size+1+1) 3 #[.int .i64 5] by rw [hW0];exact (Blk.new' _ _ _ (by simp)).alloc _)
  have HP0:=Lib.hid (show Blk W0 (w.heap.size+1+1+1) 284 #[.int .i64 0,.int .i64 0,.int .i64 0,.int .i64 0,.int .i64 0,.int .i64 0,.slice none 0 0,.slice none 0 0,.slice none 0 0] by rw [hW0];exact Blk.new' _ _ _ (by simp))
  have HS:=Lib.hid hS
  have HR:=Lib.hid hR
  have HW0:=Lib.hid hW0
  clear hW0 hS hR
  go_enter Tryz.func207,Tryz.ntmps207
  go_wp2_with (go_at_call 226;refine (existsYes _).mono ?_;rintro e w' ⟨rfl,rfl⟩)
  rw [← HW0.out]
  refine (order1 gs gm pos W0 (HS.out.ext HE0.out)).mono ?_
  rintro e W1 ⟨g,k,zs,A,n,c,rfl,hk,hg,ht,hb1⟩
  have HK1':=Lib.hid hk
  have HG1:=Lib.hid hg
  have HT1:=Lib.hid ht
  have HE1:=Lib.hid (ext_call HE0.out hb1)
  have HC1:=Lib.hid (HC0.out.ext hb1)
  have HL1:=Lib.hid (HL0.out.ext hb1)
  have HH1:=Lib.hid (HH0.out.ext hb1)
  have HP1:=Lib.hid (HP0.out.ext hb1)
  clear hb1 hk hg ht
  go_wp2_with fail
  refine (index_Geq W1.heap.size w.heap.size (w.heap.size+1) (.slice (some ⟨g,0,none⟩) 1 k) (.slice A n c) _ (Blk.new _ _ _) (.inr ⟨rfl,g,k,zs,rfl,HK1'.out,HG1.out.alloc _⟩) (HC1.out.alloc _) (HL1.out.alloc _)).mono ?_
  rintro e X ⟨rfl,hbx⟩
  have hEx:=ext_call (ext_alloc HE1.out _) hbx
  have HCx:=Lib.hid ((HC1.out.alloc _).ext hbx)
  have HLx:=Lib.hid ((HL1.out.alloc _).ext hbx)
  have HHx:=Lib.hid ((HH1.out.alloc _).ext hbx)
  have HPx:=Lib.hid ((HP1.out.alloc _).ext hbx)
  have HOx:=Lib.hid ((Blk.new W1 162 #[.slice (some ⟨g,0,none⟩) 1 k,.slice A n c]).ext hbx)
  have HGx:=Lib.hid ((HG1.out.alloc _).ext hbx)
  have HTx:=Lib.hid ((HT1.out.below (ext_new _ _)).below hbx)
  have HBo:=Lib.hid (show w.heap.size+1+1+1<W1.heap.size from HP1.out.lt)
  have HEx:=Lib.hid hEx
  clear hbx hEx HG1 HT1 HC1 HL1 HH1 HP1 HE1 HC0 HL0 HH0 HP0
  generalize W1.heap.size=bo at *
  have o0:=HOx.out.cell 0
  have hmx:max (-1:Int) 0=0:=by decide
  have hmn:min (IntKind.i64.wrap 2) 1=1:=by decide
  have HK0:=Lib.hid (show X.cell? ⟨bo,0,none⟩=some (.slice (some ⟨g,0,none⟩) 1 k)∧Below X.heap.size X X from ⟨o0,ext_refl X⟩)
  go_wp2
  go_region_held3 (fun w'=>w'.cell? ⟨bo,0,none⟩=some (.slice (some ⟨g,0,none⟩) 1 k)∧Below X.heap.size X w')
    (first|exact keepC1 HK0.out (ext_refl X).drew|assumption|exact keepC1 (by assumption) (by assumption))
    (first|(go_at_call 227;(with_reducible refine (index_Gtr bo w.heap.size (w.heap.size+1+1) (.slice (some ⟨g,0,none⟩) 1 k) (.slice A n c) _ ?_ ?_ ?_ ?_).mono ?_);(exact HOx.out.ext (keepC1B (by assumption)));(exact .inr ⟨rfl,g,k,zs,rfl,HK1'.out,HGx.out.ext (keepC1B (by assumption))⟩);(exact HCx.out.ext (keepC1B (by assumption)));(exact HHx.out.ext (keepC1B (by assumption)));rintro e Y ⟨rfl,hb'⟩))
  have HEy:=Lib.hid (ext_call HEx.out (undrew hb'))
  have HCy:=Lib.hid (HCx.out.ext (undrew hb'))
  have HLy:=Lib.hid (HLx.out.ext (undrew hb'))
  have HHy:=Lib.hid (HHx.out.ext (undrew hb'))
  have HPy:=Lib.hid (HPx.out.ext (undrew hb'))
  have HOy:=Lib.hid (HOx.out.ext (undrew hb'))
  have HGy:=Lib.hid (HGx.out.ext (undrew hb'))
  have HTy:=Lib.hid (HTx.out.below (undrew hb'))
  have HSy:=Lib.hid (HS.out.ext HEy.out)
  have HRy:=Lib.hid (HR.out.below HEy.out)
  clear hb' o0 HCx HLx HHx HPx HOx HEx HGx HTx HK0
  have k0:=HCy.out.cell 0
  have l0:=HLy.out.cell 0
  have h0:=HHy.out.cell 0
  have o0:=HOy.out.cell 0
  have HK1:=Lib.hid (show Y.cell? ⟨w.heap.size,0,none⟩=some (.int .i64 0)∧Y.cell? ⟨w.heap.size+1,0,none⟩=some (.int .i64 5)∧Y.cell? ⟨w.heap.size+1+1,0,none⟩=some (.int .i64 5)∧Y.cell? ⟨bo,0,none⟩=some (.slice (some ⟨g,0,none⟩) 1 k)∧Below Y.heap.size Y Y from ⟨k0,l0,h0,o0,ext_refl Y⟩)
  go_wp2
  go_region_held3 (fun w'=>w'.cell? ⟨w.heap.size,0,none⟩=some (.int .i64 0)∧w'.cell? ⟨w.heap.size+1,0,none⟩=some (.int .i64 5)∧w'.cell? ⟨w.heap.size+1+1,0,none⟩=some (.int .i64 5)∧w'.cell? ⟨bo,0,none⟩=some (.slice (some ⟨g,0,none⟩) 1 k)∧Below Y.heap.size Y w')
    (first|with_reducible assumption|exact keepC4 HK1.out (by repeat (first|with_reducible refine ext_alloc ?_ _|with_reducible refine Below.drew ?_|with_reducible assumption|with_reducible exact ext_refl _|refine ext_set ?_ (Nat.le_refl _) _)))
    (first|(go_at_call 40;(with_reducible refine (sumsAny true gs gm pos _ ?_ ?_).mono ?_);(exact HSy.out.ext (keepC4B (by assumption)));(exact HRy.out.below (keepC4B (by assumption)));rintro e Z ⟨B,m,d,rfl,hs',hb'⟩;have hYZ:=ext_call (keepC4B (by assumption)) hb';try (have hbx:=(show Blk Z Y.heap.size 284 #[.int .i64 0,.int .i64 0,.int .i64 0,.int .i64 0,.int .i64 0,.int .i64 0,.slice none 0 0,.slice none 0 0,.slice none 0 0] from ((Blk.new Y _ _).drew).ext hb');have bx0:=hbx.cell 0;have bf0:=hbx.frozen 0;have bx1:=hbx.cell 1;have bf1:=hbx.frozen 1;have bx2:=hbx.cell 2;have bf2:=hbx.frozen 2;have bx3:=hbx.cell 3;have bf3:=hbx.frozen 3;have bx4:=hbx.cell 4;have bf4:=hbx.frozen 4;have bx5:=hbx.cell 5;have bf5:=hbx.frozen 5;have bx6:=hbx.cell 6;have bf6:=hbx.frozen 6;have bx7:=hbx.cell 7;have bf7:=hbx.frozen 7;have bx8:=hbx.cell 8;have bf8:=hbx.frozen 8;have HBX:=Lib.hid hbx;clear hbx)))
  all_goals
    first
    | (generalize hV:(World.setCell (World.setCell (World.setCell (World.setCell (World.setCell (World.setCell (World.setCell (World.setCell (World.setCell Z ⟨Y.heap.size,0,none⟩ (.int .i64 0)) ⟨Y.heap.size,1,none⟩ (.int .i64 0)) ⟨Y.heap.size,2,none⟩ (.int .i64 5)) ⟨Y.heap.size,3,none⟩ (.int .i64 5)) ⟨Y.heap.size,4,none⟩ (.int .i64 1)) ⟨Y.heap.size,5,none⟩ (.int .i64 0)) ⟨Y.heap.size,6,none⟩ (.slice none 0 0)) ⟨Y.heap.size,7,none⟩ (.slice none 0 0)) ⟨Y.heap.size,8,none⟩ (.slice B m d))=V
       have HPv:=Lib.hid (show Blk V Y.heap.size 284 #[.int .i64 0,.int .i64 0,.int .i64 5,.int .i64 5,.int .i64 1,.int .i64 0,.slice none 0 0,.slice none 0 0,.slice B m d] by subst hV;exact blk_set9 HBX.out)
       have HEv:=Lib.hid (show Below Y.heap.size Y V by subst hV;exact ext_set9 hYZ (Nat.le_refl _))
       have HSv:=Lib.hid (show Strs (fun b=>w.heap.size+1+1+1<b∧b≠Y.heap.size) V (.slice B m d) (sums true 16) by subst hV;exact (hs'.keep (fun k hk _=>heap_set9 (by simp at hk;omega))).mono (fun _ hk _=>by have:=HPy.out.lt;simp at hk;omega))
       clear bx0 bf0 bx1 bf1 bx2 bf2 bx3 bf3 bx4 bf4 bx5 bf5 bx6 bf6 bx7 bf7 bx8 bf8 hV HBX hb' hs' hYZ
       generalize hbp:Y.heap.size=bp at HPv HSv ⊢
       have HLe:=Lib.hid (show Y.heap.size≤bp by omega)
       clear hbp)
    | (generalize hV:World.alloc Z (.cells #[.int .i64 0,.int .i64 0,.int .i64 5,.int .i64 5,.int .i64 1,.int .i64 0,.slice none 0 0,.slice none 0 0,.slice B m d] 284)=V
       have HPv:=Lib.hid (show Blk V Z.heap.size 284 #[.int .i64 0,.int .i64 0,.int .i64 5,.int .i64 5,.int .i64 1,.int .i64 0,.slice none 0 0,.slice none 0 0,.slice B m d] by subst hV;exact Blk.new _ _ _)
       have HEv:=Lib.hid (show Below Y.heap.size Y V by subst hV;exact ext_alloc hYZ _)
       have HSv:=Lib.hid (show Strs (fun b=>w.heap.size+1+1+1<b∧b≠Z.heap.size) V (.slice B m d) (sums true 16) by subst hV;exact (hs'.mono (fun b hk hlt=>by have:=HPy.out.lt;simp at hk;omega)).below (ext_new _ _))
       have hle:=hYZ.size
       clear hV hb' hs' hYZ
       generalize hbp:Z.heap.size=bp at HPv HSv ⊢
       have HLe:=Lib.hid (show Y.heap.size≤bp by omega)
       clear hbp hle)
  all_goals
    have HRv:=Lib.hid (HPy.out.ext HEv.out)
    have HOv:=Lib.hid (HOy.out.ext HEv.out)
    have HGv:=Lib.hid (HGy.out.ext HEv.out)
    have HTv:=Lib.hid (HTy.out.below HEv.out)
    have HEw:=Lib.hid (ext_call HEy.out HEv.out)
    have HNe:=Lib.hid (show bo≠bp∧g≠bp∧w.heap.size+1+1+1≠bp by have:=HOy.out.lt;have:=HGy.out.lt;have:=HPy.out.lt;have:=HLe.out;omega)
    have HLw:=Lib.hid (show w.heap.size≤bp by have:=HPy.out.lt;have:=HLe.out;omega)
    clear HLe k0 l0 h0 o0 HK1 HCy HLy HHy HPy HOy HSy HRy HEy HEv HGy HTy hmx hmn
    have o0:=HOv.out.cell 0;have o1:=HOv.out.cell 1
    go_wp2
    refine wp_loop_rounds 2 ?_
    rw [rounds_succ]
    go_wp2_with fail
    refine (proof1_any (fun _=>True) (.slice A n c) rowEnc _ HTv.out).mono ?_
    rintro e U ⟨pv,rfl,hp,hbu⟩
    obtain ⟨A0,c0,hpv,_,_⟩:=hp
    obtain rfl:pv=.slice A0 0 c0:=hpv
    have HPu:=Lib.hid (HPv.out.ext hbu)
    have HRu:=Lib.hid (HRv.out.ext hbu)
    have HOu:=Lib.hid (HOv.out.ext hbu)
    have HGu:=Lib.hid (HGv.out.ext hbu)
    have HSu:=Lib.hid (HSv.out.below hbu)
    have HEu:=Lib.hid (ext_call HEw.out hbu)
    clear hbu HPv HRv HOv HGv HSv HEw HTv o0 o1
    have HSX:=Lib.hid (And.intro HOu.out (And.intro HGu.out (And.intro HNe.out.1 HNe.out.2.1)))
    have p6:=HPu.out.cell 6
    have p7:=HPu.out.cell 7
    have o0:=HOu.out.cell 0;have o1:=HOu.out.cell 1
    obtain ⟨g0,g1,g2,g3,g4⟩:=row_cells HGu.out
    have pf6:=HPu.out.frozen 6
    have pf7:=HPu.out.frozen 7
    have hpl:=HPu.out.lt
    have hol:=HOu.out.lt
    have hgl:=HGu.out.lt
    have hpl1:bp<U.heap.size+1:=by omega
    have hpl2:bp<U.heap.size+1+1:=by omega
    have hpl3:bp<U.heap.size+1+1+1:=by omega
    go_wp2
    refine wp_region_L (fun w'=>w'.cell? ⟨bo,0,none⟩=some (.slice (some ⟨g,0,none⟩) 1 k)∧w'.cell? ⟨g,0,none⟩=some (.int .i64 0)∧w'.cell? ⟨g,1,none⟩=some (.int .i64 5)∧w'.cell? ⟨g,2,none⟩=some (.int .i64 1)∧w'.cell? ⟨g,3,none⟩=some (.int .i64 2)∧w'.cell? ⟨g,4,none⟩=some (.int .i64 3)∧Ext2 bp bp U w')
      (fun w'=>w'.cell? ⟨bp,6,none⟩=some (.slice none 0 0)∧w'.cell? ⟨bp,7,none⟩=some (.slice none 0 0)) [15,17] (by kernel_rfl) ?_
    refine takeF 0 (v:=?_) rfl (by kernel_rfl) (by kernel_rfl) (by kernel_rfl) (by kernel_rfl) (fun _ _ _ h=>h) (Or.inl ⟨by rfl,?_⟩) (prF HSX.out (by repeat (first|with_reducible refine Ext2.alloc ?_ _|with_reducible refine Ext2.drew1 ?_|with_reducible refine Ext2.setA ?_ _ _|with_reducible assumption|with_reducible exact Ext2.refl _ _ _))) (fun _=>(prG HPu.out (by repeat (first|with_reducible refine ext_alloc ?_ _|with_reducible refine Below.drew ?_|with_reducible assumption|with_reducible exact ext_refl _)))) ?_
    rotate_left 1
    · (rintro w' ⟨f0,f1,f2,f3,f4,f5,_⟩;go_simp;with_reducible rfl)
    refine takeG 1 (v:=?_) rfl (by kernel_rfl) (by kernel_rfl) (by kernel_rfl) (by kernel_rfl) (by kernel_rfl) (by kernel_rfl) (fun _ _ _ h=>h) (Or.inl ⟨by rfl,?_⟩) (prF HSX.out (by repeat (first|with_reducible refine Ext2.alloc ?_ _|with_reducible refine Ext2.drew1 ?_|with_reducible refine Ext2.setA ?_ _ _|with_reducible assumption|with_reducible exact Ext2.refl _ _ _))) (prG HPu.out (by repeat (first|with_reducible refine ext_alloc ?_ _|with_reducible refine Below.drew ?_|with_reducible assumption|with_reducible exact ext_refl _))) ?_
    rotate_left 1
    · (rintro w' ⟨f0,f1⟩;go_simp;with_reducible rfl)
    refine takeF 2 (v:=?_) rfl (by kernel_rfl) (by kernel_rfl) (by kernel_rfl) (by kernel_rfl) (fun _ _ _ h=>h) (Or.inl ⟨by rfl,?_⟩) (prF HSX.out (by repeat (first|with_reducible refine Ext2.alloc ?_ _|with_reducible refine Ext2.drew1 ?_|with_reducible refine Ext2.setA ?_ _ _|with_reducible assumption|with_reducible exact Ext2.refl _ _ _))) (fun _=>(prG HPu.out (by repeat (first|with_reducible refine ext_alloc ?_ _|with_reducible refine Below.drew ?_|with_reducible assumption|with_reducible exact ext_refl _)))) ?_
    rotate_left 1
    · (rintro w' ⟨f0,f1,f2,f3,f4,f5,_⟩;go_simp;with_reducible rfl)
    refine takeF 3 (v:=?_) rfl (by kernel_rfl) (by kernel_rfl) (by kernel_rfl) (by kernel_rfl) (fun _ _ _ h=>h) (Or.inl ⟨by rfl,?_⟩) (prF HSX.out (by repeat (first|with_reducible refine Ext2.alloc ?_ _|with_reducible refine Ext2.drew1 ?_|with_reducible refine Ext2.setA ?_ _ _|with_reducible assumption|with_reducible exact Ext2.refl _ _ _))) (fun _=>(prG HPu.out (by repeat (first|with_reducible refine ext_alloc ?_ _|with_reducible refine Below.drew ?_|with_reducible assumption|with_reducible exact ext_refl _)))) ?_
    rotate_left 1
    · (rintro w' ⟨f0,f1,f2,f3,f4,f5,_⟩;go_simp;with_reducible rfl)
    refine takeF 4 (v:=?_) rfl (by kernel_rfl) (by kernel_rfl) (by kernel_rfl) (by kernel_rfl) (fun _ _ _ h=>h) (Or.inl ⟨by rfl,?_⟩) (prF HSX.out (by repeat (first|with_reducible refine Ext2.alloc ?_ _|with_reducible refine Ext2.drew1 ?_|with_reducible refine Ext2.setA ?_ _ _|with_reducible assumption|with_reducible exact Ext2.refl _ _ _))) (fun _=>(prG HPu.out (by repeat (first|with_reducible refine ext_alloc ?_ _|with_reducible refine Below.drew ?_|with_reducible assumption|with_reducible exact ext_refl _)))) ?_
    rotate_left 1
    · (rintro w' ⟨f0,f1,f2,f3,f4,f5,_⟩;go_simp;with_reducible rfl)
    refine takeF 5 (v:=?_) rfl (by kernel_rfl) (by kernel_rfl) (by kernel_rfl) (by kernel_rfl) (fun _ _ _ h=>h) (Or.inl ⟨by rfl,?_⟩) (prF HSX.out (by repeat (first|with_reducible refine Ext2.alloc ?_ _|with_reducible refine Ext2.drew1 ?_|with_reducible refine Ext2.setA ?_ _ _|with_reducible assumption|with_reducible exact Ext2.refl _ _ _))) (fun _=>(prG HPu.out (by repeat (first|with_reducible refine ext_alloc ?_ _|with_reducible refine Below.drew ?_|with_reducible assumption|with_reducible exact ext_refl _)))) ?_
    rotate_left 1
    · (rintro w' ⟨f0,f1,f2,f3,f4,f5,_⟩;go_simp;with_reducible rfl)
    refine takeF 6 (v:=?_) rfl (by kernel_rfl) (by kernel_rfl) (by kernel_rfl) (by kernel_rfl) (fun _ _ _ h=>h) (Or.inl ⟨by rfl,?_⟩) (prF HSX.out (by repeat (first|with_reducible refine Ext2.alloc ?_ _|with_reducible refine Ext2.drew1 ?_|with_reducible refine Ext2.setA ?_ _ _|with_reducible assumption|with_reducible exact Ext2.refl _ _ _))) (fun _=>(prG HPu.out (by repeat (first|with_reducible refine ext_alloc ?_ _|with_reducible refine Below.drew ?_|with_reducible assumption|with_reducible exact ext_refl _)))) ?_
    rotate_left 1
    · (rintro w' ⟨f0,f1,f2,f3,f4,f5,_⟩;go_simp;with_reducible rfl)
    refine takeF 9 (v:=?_) rfl (by kernel_rfl) (by kernel_rfl) (by kernel_rfl) (by kernel_rfl) (fun _ _ _ h=>h) (Or.inl ⟨by rfl,?_⟩) (prF HSX.out (by repeat (first|with_reducible refine Ext2.alloc ?_ _|with_reducible refine Ext2.drew1 ?_|with_reducible refine Ext2.setA ?_ _ _|with_reducible assumption|with_reducible exact Ext2.refl _ _ _))) (fun _=>(prG HPu.out (by repeat (first|with_reducible refine ext_alloc ?_ _|with_reducible refine Below.drew ?_|with_reducible assumption|with_reducible exact ext_refl _)))) ?_
    rotate_left 1
    · (rintro w' ⟨f0,f1,f2,f3,f4,f5,_⟩;go_simp;with_reducible rfl)
    refine takeG 10 (v:=?_) rfl (by kernel_rfl) (by kernel_rfl) (by kernel_rfl) (by kernel_rfl) (by kernel_rfl) (by kernel_rfl) (fun _ _ _ h=>h) (Or.inl ⟨by rfl,?_⟩) (prF HSX.out (by repeat (first|with_reducible refine Ext2.alloc ?_ _|with_reducible refine Ext2.drew1 ?_|with_reducible refine Ext2.setA ?_ _ _|with_reducible assumption|with_reducible exact Ext2.refl _ _ _))) (prG HPu.out (by repeat (first|with_reducible refine ext_alloc ?_ _|with_reducible refine Below.drew ?_|with_reducible assumption|with_reducible exact ext_refl _))) ?_
    rotate_left 1
    · (rintro w' ⟨f0,f1⟩;go_simp;with_reducible rfl)
    refine takeF 11 (v:=?_) rfl (by kernel_rfl) (by kernel_rfl) (by kernel_rfl) (by kernel_rfl) (fun _ _ _ h=>h) (Or.inl ⟨by rfl,?_⟩) (prF HSX.out (by repeat (first|with_reducible refine Ext2.alloc ?_ _|with_reducible refine Ext2.drew1 ?_|with_reducible refine Ext2.setA ?_ _ _|with_reducible assumption|with_reducible exact Ext2.refl _ _ _))) (fun _=>(prG HPu.out (by repeat (first|with_reducible refine ext_alloc ?_ _|with_reducible refine Below.drew ?_|with_reducible assumption|with_reducible exact ext_refl _)))) ?_
    rotate_left 1
    · (rintro w' ⟨f0,f1,f2,f3,f4,f5,_⟩;go_simp;with_reducible rfl)
    refine allL [7,12] (by kernel_rfl) (by simp) ?_
    simp only [List.forall_mem_cons,List.not_mem_nil,false_implies,implies_true,and_true]
    refine ⟨?_,?_⟩
    · refine stepL rfl (by rfl) (fun K hK=>?_)
      go_simp
      refine hK _ _ ⟨⟨(prF HSX.out (by repeat (first|with_reducible refine Ext2.alloc ?_ _|with_reducible refine Ext2.drew1 ?_|with_reducible refine Ext2.setA ?_ _ _|with_reducible assumption|with_reducible exact Ext2.refl _ _ _))),fun _=>(prG HPu.out (by repeat (first|with_reducible refine ext_alloc ?_ _|with_reducible refine Below.drew ?_|with_reducible assumption|with_reducible exact ext_refl _)))⟩,?_⟩
      clear hK K
      refine allL [8,12] (by kernel_rfl) (by simp) ?_
      simp only [List.forall_mem_cons,List.not_mem_nil,false_implies,implies_true,and_true]
      refine ⟨?_,?_⟩
      · refine stepL rfl (by rfl) (fun K hK=>?_)
        go_simp
        refine hK _ _ ⟨⟨(prF HSX.out (by repeat (first|with_reducible refine Ext2.alloc ?_ _|with_reducible refine Ext2.drew1 ?_|with_reducible refine Ext2.setA ?_ _ _|with_reducible assumption|with_reducible exact Ext2.refl _ _ _))),fun _=>(prG HPu.out (by repeat (first|with_reducible refine ext_alloc ?_ _|with_reducible refine Below.drew ?_|with_reducible assumption|with_reducible exact ext_refl _)))⟩,?_⟩
        clear hK K
        refine takeF 14 (v:=?_) rfl (by kernel_rfl) (by kernel_rfl) (by kernel_rfl) (by kernel_rfl) (fun _ _ _ h=>h) (Or.inl ⟨by rfl,?_⟩) (prF HSX.out (by repeat (first|with_reducible refine Ext2.alloc ?_ _|with_reducible refine Ext2.drew1 ?_|with_reducible refine Ext2.setA ?_ _ _|with_reducible assumption|with_reducible exact Ext2.refl _ _ _))) (fun _=>(prG HPu.out (by repeat (first|with_reducible refine ext_alloc ?_ _|with_reducible refine Below.drew ?_|with_reducible assumption|with_reducible exact ext_refl _)))) ?_
        rotate_left 1
        · (rintro w' ⟨f0,f1,f2,f3,f4,f5,_⟩;go_simp;with_reducible rfl)
        refine allL [12] (by kernel_rfl) (by simp) ?_
        simp only [List.forall_mem_cons,List.not_mem_nil,false_implies,implies_true,and_true]
        refine stepL rfl (by rfl) (fun K hK=>?_)
        go_simp
        refine hK _ _ ⟨⟨(prF HSX.out (by repeat (first|with_reducible refine Ext2.alloc ?_ _|with_reducible refine Ext2.drew1 ?_|with_reducible refine Ext2.setA ?_ _ _|with_reducible assumption|with_reducible exact Ext2.refl _ _ _))),fun _=>(prG HPu.out (by repeat (first|with_reducible refine ext_alloc ?_ _|with_reducible refine Below.drew ?_|with_reducible assumption|with_reducible exact ext_refl _)))⟩,?_⟩
        clear hK K
        refine allL [13] (by kernel_rfl) (by simp) ?_
        simp only [List.forall_mem_cons,List.not_mem_nil,false_implies,implies_true,and_true]
        refine stepL rfl (by rfl) (fun K hK=>?_)
        go_simp
        refine hK _ _ ⟨⟨(prF HSX.out (by repeat (first|with_reducible refine Ext2.alloc ?_ _|with_reducible refine Ext2.drew1 ?_|with_reducible refine Ext2.setA ?_ _ _|with_reducible assumption|with_reducible exact Ext2.refl _ _ _))),fun _=>(prG HPu.out (by repeat (first|with_reducible refine ext_alloc ?_ _|with_reducible refine Below.drew ?_|with_reducible assumption|with_reducible exact ext_refl _)))⟩,?_⟩
        clear hK K
        refine allL [15] (by kernel_rfl) (by simp) ?_
        simp only [List.forall_mem_cons,List.not_mem_nil,false_implies,implies_true,and_true]
        refine stepL rfl (by rfl) (fun K hK=>?_)
        go_simp
        refine hK _ _ ⟨⟨(prF HSX.out (by repeat (first|with_reducible refine Ext2.alloc ?_ _|with_reducible refine Ext2.drew1 ?_|with_reducible refine Ext2.setA ?_ _ _|with_reducible assumption|with_reducible exact Ext2.refl _ _ _))),fun h=>absurd h (by decide)⟩,?_⟩
        clear hK K
        refine takeF 16 (v:=?_) rfl (by kernel_rfl) (by kernel_rfl) (by kernel_rfl) (by kernel_rfl) (fun _ _ _ h=>h) (Or.inl ⟨by rfl,?_⟩) (prF HSX.out (by repeat (first|with_reducible refine Ext2.alloc ?_ _|with_reducible refine Ext2.drew1 ?_|with_reducible refine Ext2.setA ?_ _ _|with_reducible assumption|with_reducible exact Ext2.refl _ _ _))) (fun h=>absurd h (by decide)) ?_
        rotate_left 1
        · (rintro w' ⟨f0,f1,f2,f3,f4,f5,_⟩;go_simp;with_reducible rfl)
        refine allL [17] (by kernel_rfl) (by simp) ?_
        simp only [List.forall_mem_cons,List.not_mem_nil,false_implies,implies_true,and_true]
        refine stepL rfl (by rfl) (fun K hK=>?_)
        go_simp
        refine hK _ _ ⟨⟨(prF HSX.out (by repeat (first|with_reducible refine Ext2.alloc ?_ _|with_reducible refine Ext2.drew1 ?_|with_reducible refine Ext2.setA ?_ _ _|with_reducible assumption|with_reducible exact Ext2.refl _ _ _))),fun h=>absurd h (by decide)⟩,?_⟩
        clear hK K
        refine doneL (by kernel_rfl) ?_ _
        go_wp2
        refine rounds_name (PrT w bp (w.heap.size+1+1+1) (.slice B m d)) ?_ ?_
        · unfold PrT
          repeat apply Exists.intro
          refine ⟨?_,?_,?_,?_,?_,?_,?_,?_,?_,?_⟩
          · (repeat (first|with_reducible refine Blk.drew ?_|with_reducible refine Blk.alloc ?_ _));exact blk_set67 HPu.out
          · (first|exact grownCap_ge U 1 0 _|exact grownCap_ge U.drew 1 0 _|exact grownCap_ge U.drew.drew 1 0 _)
          · (first|exact grownCap_ge U 1 0 _|exact grownCap_ge U.drew 1 0 _|exact grownCap_ge U.drew.drew 1 0 _)
          · (repeat (first|with_reducible exact Blk.new' _ _ _ (by simp)|with_reducible refine Blk.drew ?_|with_reducible refine Blk.alloc ?_ _))
          · (repeat (first|with_reducible exact Blk.new' _ _ _ (by simp)|with_reducible refine Blk.drew ?_|with_reducible refine Blk.alloc ?_ _))
          · (repeat (first|with_reducible refine Blk.drew ?_|with_reducible refine Blk.alloc ?_ _));exact (HRu.out.far (p:=⟨bp,6,none⟩) HNe.out.2.2 _).far (p:=⟨bp,7,none⟩) HNe.out.2.2 _
          · (have:=HRu.out.lt;omega)
          · (have:=HRu.out.lt;omega)
          · refine (HSu.out.keep (fun j hj hlt=>Ext2.block (a:=bp) (b:=bp) (by repeat (first|with_reducible refine Ext2.alloc ?_ _|with_reducible refine Ext2.drew1 ?_|with_reducible refine Ext2.setA ?_ _ _|with_reducible assumption|with_reducible exact Ext2.refl _ _ _)) j hlt hj.2 hj.2)).mono (fun _ hj _=>hj.1)
          · exact Ext2.below HEu.out HLw.out HLw.out (by repeat (first|with_reducible refine Ext2.alloc ?_ _|with_reducible refine Ext2.drew1 ?_|with_reducible refine Ext2.setA ?_ _ _|with_reducible assumption|with_reducible exact Ext2.refl _ _ _))
        intro T hT
        clear p6 p7 o0 o1 g0 g1 g2 g3 g4 pf6 pf7 hpl hol hgl hpl1 hpl2 hpl3 HSX HPu HRu HOu HGu HSu HEu HNe HLw hir hzr0 hzr1 hzr2 hip hzp0 hzp1 hzp2
        obtain ⟨g1,k1,zs1,g2,k2,A1,c1,ys,hp,hk1,hk2,hr1,hr2,hrb,hl1,hl2,hst,hbe⟩:=hT
        have HK:=Lib.hid (And.intro hk1 (And.intro hk2 (And.intro hr1 (And.intro hr2 (And.intro hl1 (And.intro hl2 (And.intro hst hbe)))))))
        have HRb:=Lib.hid hrb
        have q0:=hp.cell 0;have q1:=hp.cell 1;have q2:=hp.cell 2;have q3:=hp.cell 3;have q4:=hp.cell 4;have q5:=hp.cell 5;have q6:=hp.cell 6;have q7:=hp.cell 7;have q8:=hp.cell 8
        have r0:=hrb.cell 0;have r1:=hrb.cell 1;have r2:=hrb.cell 2;have r3:=hrb.cell 3;have r4:=hrb.cell 4;have r5:=hrb.cell 5;have r6:=hrb.cell 6;have r7:=hrb.cell 7;have r8:=hrb.cell 8
        have f0:=hrb.frozen 0;have f1:=hrb.frozen 1;have f2:=hrb.frozen 2;have f3:=hrb.frozen 3;have f4:=hrb.frozen 4;have f5:=hrb.frozen 5;have f6:=hrb.frozen 6;have f7:=hrb.frozen 7;have f8:=hrb.frozen 8
        clear hp hk1 hk2 hr1 hr2 hrb hl1 hl2 hst hbe
        rw [rounds_succ]
        go_wp2
        have hBf:=blk_set9 (u0:=.int .i64 0) (u1:=.int .i64 0) (u2:=.int .i64 5) (u3:=.int .i64 5) (u4:=.int .i64 1) (u5:=.int .i64 0) (u6:=.slice (some ⟨g1,0,none⟩) 1 k1) (u7:=.slice (some ⟨g2,0,none⟩) 1 k2) (u8:=.slice B m d) HRb.out
        have y0:=hBf.cell 0;have y1:=hBf.cell 1;have y2:=hBf.cell 2;have y3:=hBf.cell 3;have y4:=hBf.cell 4;have y5:=hBf.cell 5;have y6:=hBf.cell 6;have y7:=hBf.cell 7;have y8:=hBf.cell 8
        refine bodyPost_ret (v:=.tuple #[.agg #[.int .i64 0,.int .i64 0,.int .i64 5,.int .i64 5,.int .i64 1,.int .i64 0,.slice (some ⟨g1,0,none⟩) 1 k1,.slice (some ⟨g2,0,none⟩) 1 k2,.slice B m d],.int .i64 0]) (by simp [results,Tryz.results207,go_sem,y0,y1,y2,y3,y4,y5,y6,y7,y8]) rfl ⟨_,rfl,⟨_,_,_,rfl,.inr ⟨rfl,g1,k1,zs1,rfl,HK.out.1,?_⟩,⟨g2,k2,A1,c1,ys,rfl,HK.out.2.1,?_⟩,?_⟩,?_⟩
        · exact (heap_set9 (by have:=HK.out.2.2.2.2.1;omega)).trans HK.out.2.2.1
        · exact (heap_set9 (by have:=HK.out.2.2.2.2.2.1;omega)).trans HK.out.2.2.2.1
        · exact (HK.out.2.2.2.2.2.2.1.keep (fun j hj _=>heap_set9 (by omega))).mono (fun _ _ _=>trivial)
        · exact ext_set9 HK.out.2.2.2.2.2.2.2 (by omega)
      · refine stepL rfl (by rfl) (fun K hK=>?_)
        go_simp
        refine hK _ _ ⟨⟨(prF HSX.out (by repeat (first|with_reducible refine Ext2.alloc ?_ _|with_reducible refine Ext2.drew1 ?_|with_reducible refine Ext2.setA ?_ _ _|with_reducible assumption|with_reducible exact Ext2.refl _ _ _))),fun _=>(prG HPu.out (by repeat (first|with_reducible refine ext_alloc ?_ _|with_reducible refine Below.drew ?_|with_reducible assumption|with_reducible exact ext_refl _)))⟩,?_⟩
        clear hK K
        refine allL [8] (by kernel_rfl) (by simp) ?_
        simp only [List.forall_mem_cons,List.not_mem_nil,false_implies,implies_true,and_true]
        refine stepL rfl (by rfl) (fun K hK=>?_)
        go_simp
        refine hK _ _ ⟨⟨(prF HSX.out (by repeat (first|with_reducible refine Ext2.alloc ?_ _|with_reducible refine Ext2.drew1 ?_|with_reducible refine Ext2.setA ?_ _ _|with_reducible assumption|with_reducible exact Ext2.refl _ _ _))),fun _=>(prG HPu.out (by repeat (first|with_reducible refine ext_alloc ?_ _|with_reducible refine Below.drew ?_|with_reducible assumption|with_reducible exact ext_refl _)))⟩,?_⟩
        clear hK K
        refine takeF 14 (v:=?_) rfl (by kernel_rfl) (by kernel_rfl) (by kernel_rfl) (by kernel_rfl) (fun _ _ _ h=>h) (Or.inl ⟨by rfl,?_⟩) (prF HSX.out (by repeat (first|with_reducible refine Ext2.alloc ?_ _|with_reducible refine Ext2.drew1 ?_|with_reducible refine Ext2.setA ?_ _ _|with_reducible assumption|with_reducible exact Ext2.refl _ _ _))) (fun _=>(prG HPu.out (by repeat (first|with_reducible refine ext_alloc ?_ _|with_reducible refine Below.drew ?_|with_reducible assumption|with_reducible exact ext_refl _)))) ?_
        rotate_left 1
        · (rintro w' ⟨f0,f1,f2,f3,f4,f5,_⟩;go_simp;with_reducible rfl)
        refine allL [13] (by kernel_rfl) (by simp) ?_
        simp only [List.forall_mem_cons,List.not_mem_nil,false_implies,implies_true,and_true]
        refine stepL rfl (by rfl) (fun K hK=>?_)
        go_simp
        refine hK _ _ ⟨⟨(prF HSX.out (by repeat (first|with_reducible refine Ext2.alloc ?_ _|with_reducible refine Ext2.drew1 ?_|with_reducible refine Ext2.setA ?_ _ _|with_reducible assumption|with_reducible exact Ext2.refl _ _ _))),fun _=>(prG HPu.out (by repeat (first|with_reducible refine ext_alloc ?_ _|with_reducible refine Below.drew ?_|with_reducible assumption|with_reducible exact ext_refl _)))⟩,?_⟩
        clear hK K
        refine allL [15] (by kernel_rfl) (by simp) ?_
        simp only [List.forall_mem_cons,List.not_mem_nil,false_implies,implies_true,and_true]
        refine stepL rfl (by rfl) (fun K hK=>?_)
        go_simp
        refine hK _ _ ⟨⟨(prF HSX.out (by repeat (first|with_reducible refine Ext2.alloc ?_ _|with_reducible refine Ext2.drew1 ?_|with_reducible refine Ext2.setA ?_ _ _|with_reducible assumption|with_reducible exact Ext2.refl _ _ _))),fun h=>absurd h (by decide)⟩,?_⟩
        clear hK K
        refine takeF 16 (v:=?_) rfl (by kernel_rfl) (by kernel_rfl) (by kernel_rfl) (by kernel_rfl) (fun _ _ _ h=>h) (Or.inl ⟨by rfl,?_⟩) (prF HSX.out (by repeat (first|with_reducible refine Ext2.alloc ?_ _|with_reducible refine Ext2.drew1 ?_|with_reducible refine Ext2.setA ?_ _ _|with_reducible assumption|with_reducible exact Ext2.refl _ _ _))) (fun h=>absurd h (by decide)) ?_
        rotate_left 1
        · (rintro w' ⟨f0,f1,f2,f3,f4,f5,_⟩;go_simp;with_reducible rfl)
        refine allL [17] (by kernel_rfl) (by simp) ?_
        simp only [List.forall_mem_cons,List.not_mem_nil,false_implies,implies_true,and_true]
        refine stepL rfl (by rfl) (fun K hK=>?_)
        go_simp
        refine hK _ _ ⟨⟨(prF HSX.out (by repeat (first|with_reducible refine Ext2.alloc ?_ _|with_reducible refine Ext2.drew1 ?_|with_reducible refine Ext2.setA ?_ _ _|with_reducible assumption|with_reducible exact Ext2.refl _ _ _))),fun h=>absurd h (by decide)⟩,?_⟩
        clear hK K
        refine doneL (by kernel_rfl) ?_ _
        go_wp2
        refine rounds_name (PrT w bp (w.heap.size+1+1+1) (.slice B m d)) ?_ ?_
        · unfold PrT
          repeat apply Exists.intro
          refine ⟨?_,?_,?_,?_,?_,?_,?_,?_,?_,?_⟩
          · (repeat (first|with_reducible refine Blk.drew ?_|with_reducible refine Blk.alloc ?_ _));exact blk_set67 HPu.out
          · (first|exact grownCap_ge U 1 0 _|exact grownCap_ge U.drew 1 0 _|exact grownCap_ge U.drew.drew 1 0 _)
          · (first|exact grownCap_ge U 1 0 _|exact grownCap_ge U.drew 1 0 _|exact grownCap_ge U.drew.drew 1 0 _)
          · (repeat (first|with_reducible exact Blk.new' _ _ _ (by simp)|with_reducible refine Blk.drew ?_|with_reducible refine Blk.alloc ?_ _))
          · (repeat (first|with_reducible exact Blk.new' _ _ _ (by simp)|with_reducible refine Blk.drew ?_|with_reducible refine Blk.alloc ?_ _))
          · (repeat (first|with_reducible refine Blk.drew ?_|with_reducible refine Blk.alloc ?_ _));exact (HRu.out.far (p:=⟨bp,6,none⟩) HNe.out.2.2 _).far (p:=⟨bp,7,none⟩) HNe.out.2.2 _
          · (have:=HRu.out.lt;omega)
          · (have:=HRu.out.lt;omega)
          · refine (HSu.out.keep (fun j hj hlt=>Ext2.block (a:=bp) (b:=bp) (by repeat (first|with_reducible refine Ext2.alloc ?_ _|with_reducible refine Ext2.drew1 ?_|with_reducible refine Ext2.setA ?_ _ _|with_reducible assumption|with_reducible exact Ext2.refl _ _ _)) j hlt hj.2 hj.2)).mono (fun _ hj _=>hj.1)
          · exact Ext2.below HEu.out HLw.out HLw.out (by repeat (first|with_reducible refine Ext2.alloc ?_ _|with_reducible refine Ext2.drew1 ?_|with_reducible refine Ext2.setA ?_ _ _|with_reducible assumption|with_reducible exact Ext2.refl _ _ _))
        intro T hT
        clear p6 p7 o0 o1 g0 g1 g2 g3 g4 pf6 pf7 hpl hol hgl hpl1 hpl2 hpl3 HSX HPu HRu HOu HGu HSu HEu HNe HLw hir hzr0 hzr1 hzr2 hip hzp0 hzp1 hzp2
        obtain ⟨g1,k1,zs1,g2,k2,A1,c1,ys,hp,hk1,hk2,hr1,hr2,hrb,hl1,hl2,hst,hbe⟩:=hT
        have HK:=Lib.hid (And.intro hk1 (And.intro hk2 (And.intro hr1 (And.intro hr2 (And.intro hl1 (And.intro hl2 (And.intro hst hbe)))))))
        have HRb:=Lib.hid hrb
        have q0:=hp.cell 0;have q1:=hp.cell 1;have q2:=hp.cell 2;have q3:=hp.cell 3;have q4:=hp.cell 4;have q5:=hp.cell 5;have q6:=hp.cell 6;have q7:=hp.cell 7;have q8:=hp.cell 8
        have r0:=hrb.cell 0;have r1:=hrb.cell 1;have r2:=hrb.cell 2;have r3:=hrb.cell 3;have r4:=hrb.cell 4;have r5:=hrb.cell 5;have r6:=hrb.cell 6;have r7:=hrb.cell 7;have r8:=hrb.cell 8
        have f0:=hrb.frozen 0;have f1:=hrb.frozen 1;have f2:=hrb.frozen 2;have f3:=hrb.frozen 3;have f4:=hrb.frozen 4;have f5:=hrb.frozen 5;have f6:=hrb.frozen 6;have f7:=hrb.frozen 7;have f8:=hrb.frozen 8
        clear hp hk1 hk2 hr1 hr2 hrb hl1 hl2 hst hbe
        rw [rounds_succ]
        go_wp2
        have hBf:=blk_set9 (u0:=.int .i64 0) (u1:=.int .i64 0) (u2:=.int .i64 5) (u3:=.int .i64 5) (u4:=.int .i64 1) (u5:=.int .i64 0) (u6:=.slice (some ⟨g1,0,none⟩) 1 k1) (u7:=.slice (some ⟨g2,0,none⟩) 1 k2) (u8:=.slice B m d) HRb.out
        have y0:=hBf.cell 0;have y1:=hBf.cell 1;have y2:=hBf.cell 2;have y3:=hBf.cell 3;have y4:=hBf.cell 4;have y5:=hBf.cell 5;have y6:=hBf.cell 6;have y7:=hBf.cell 7;have y8:=hBf.cell 8
        refine bodyPost_ret (v:=.tuple #[.agg #[.int .i64 0,.int .i64 0,.int .i64 5,.int .i64 5,.int .i64 1,.int .i64 0,.slice (some ⟨g1,0,none⟩) 1 k1,.slice (some ⟨g2,0,none⟩) 1 k2,.slice B m d],.int .i64 0]) (by simp [results,Tryz.results207,go_sem,y0,y1,y2,y3,y4,y5,y6,y7,y8]) rfl ⟨_,rfl,⟨_,_,_,rfl,.inr ⟨rfl,g1,k1,zs1,rfl,HK.out.1,?_⟩,⟨g2,k2,A1,c1,ys,rfl,HK.out.2.1,?_⟩,?_⟩,?_⟩
        · exact (heap_set9 (by have:=HK.out.2.2.2.2.1;omega)).trans HK.out.2.2.1
        · exact (heap_set9 (by have:=HK.out.2.2.2.2.2.1;omega)).trans HK.out.2.2.2.1
        · exact (HK.out.2.2.2.2.2.2.1.keep (fun j hj _=>heap_set9 (by omega))).mono (fun _ _ _=>trivial)
        · exact ext_set9 HK.out.2.2.2.2.2.2.2 (by omega)
    · refine stepL rfl (by rfl) (fun K hK=>?_)
      go_simp
      refine hK _ _ ⟨⟨(prF HSX.out (by repeat (first|with_reducible refine Ext2.alloc ?_ _|with_reducible refine Ext2.drew1 ?_|with_reducible refine Ext2.setA ?_ _ _|with_reducible assumption|with_reducible exact Ext2.refl _ _ _))),fun _=>(prG HPu.out (by repeat (first|with_reducible refine ext_alloc ?_ _|with_reducible refine Below.drew ?_|with_reducible assumption|with_reducible exact ext_refl _)))⟩,?_⟩
      clear hK K
      refine allL [7] (by kernel_rfl) (by simp) ?_
      simp only [List.forall_mem_cons,List.not_mem_nil,false_implies,implies_true,and_true]
      refine stepL rfl (by rfl) (fun K hK=>?_)
      go_simp
      refine hK _ _ ⟨⟨(prF HSX.out (by repeat (first|with_reducible refine Ext2.alloc ?_ _|with_reducible refine Ext2.drew1 ?_|with_reducible refine Ext2.setA ?_ _ _|with_reducible assumption|with_reducible exact Ext2.refl _ _ _))),fun _=>(prG HPu.out (by repeat (first|with_reducible refine ext_alloc ?_ _|with_reducible refine Below.drew ?_|with_reducible assumption|with_reducible exact ext_refl _)))⟩,?_⟩
      clear hK K
      refine allL [8] (by kernel_rfl) (by simp) ?_
      simp only [List.forall_mem_cons,List.not_mem_nil,false_implies,implies_true,and_true]
      refine stepL rfl (by rfl) (fun K hK=>?_)
      go_simp
      refine hK _ _ ⟨⟨(prF HSX.out (by repeat (first|with_reducible refine Ext2.alloc ?_ _|with_reducible refine Ext2.drew1 ?_|with_reducible refine Ext2.setA ?_ _ _|with_reducible assumption|with_reducible exact Ext2.refl _ _ _))),fun _=>(prG HPu.out (by repeat (first|with_reducible refine ext_alloc ?_ _|with_reducible refine Below.drew ?_|with_reducible assumption|with_reducible exact ext_refl _)))⟩,?_⟩
      clear hK K
      refine takeF 14 (v:=?_) rfl (by kernel_rfl) (by kernel_rfl) (by kernel_rfl) (by kernel_rfl) (fun _ _ _ h=>h) (Or.inl ⟨by rfl,?_⟩) (prF HSX.out (by repeat (first|with_reducible refine Ext2.alloc ?_ _|with_reducible refine Ext2.drew1 ?_|with_reducible refine Ext2.setA ?_ _ _|with_reducible assumption|with_reducible exact Ext2.refl _ _ _))) (fun _=>(prG HPu.out (by repeat (first|with_reducible refine ext_alloc ?_ _|with_reducible refine Below.drew ?_|with_reducible assumption|with_reducible exact ext_refl _)))) ?_
      rotate_left 1
      · (rintro w' ⟨f0,f1,f2,f3,f4,f5,_⟩;go_simp;with_reducible rfl)
      refine allL [13] (by kernel_rfl) (by simp) ?_
      simp only [List.forall_mem_cons,List.not_mem_nil,false_implies,implies_true,and_true]
      refine stepL rfl (by rfl) (fun K hK=>?_)
      go_simp
      refine hK _ _ ⟨⟨(prF HSX.out (by repeat (first|with_reducible refine Ext2.alloc ?_ _|with_reducible refine Ext2.drew1 ?_|with_reducible refine Ext2.setA ?_ _ _|with_reducible assumption|with_reducible exact Ext2.refl _ _ _))),fun _=>(prG HPu.out (by repeat (first|with_reducible refine ext_alloc ?_ _|with_reducible refine Below.drew ?_|with_reducible assumption|with_reducible exact ext_refl _)))⟩,?_⟩
      clear hK K
      refine allL [15] (by kernel_rfl) (by simp) ?_
      simp only [List.forall_mem_cons,List.not_mem_nil,false_implies,implies_true,and_true]
      refine stepL rfl (by rfl) (fun K hK=>?_)
      go_simp
      refine hK _ _ ⟨⟨(prF HSX.out (by repeat (first|with_reducible refine Ext2.alloc ?_ _|with_reducible refine Ext2.drew1 ?_|with_reducible refine Ext2.setA ?_ _ _|with_reducible assumption|with_reducible exact Ext2.refl _ _ _))),fun h=>absurd h (by decide)⟩,?_⟩
      clear hK K
      refine takeF 16 (v:=?_) rfl (by kernel_rfl) (by kernel_rfl) (by kernel_rfl) (by kernel_rfl) (fun _ _ _ h=>h) (Or.inl ⟨by rfl,?_⟩) (prF HSX.out (by repeat (first|with_reducible refine Ext2.alloc ?_ _|with_reducible refine Ext2.drew1 ?_|with_reducible refine Ext2.setA ?_ _ _|with_reducible assumption|with_reducible exact Ext2.refl _ _ _))) (fun h=>absurd h (by decide)) ?_
      rotate_left 1
      · (rintro w' ⟨f0,f1,f2,f3,f4,f5,_⟩;go_simp;with_reducible rfl)
      refine allL [17] (by kernel_rfl) (by simp) ?_
      simp only [List.forall_mem_cons,List.not_mem_nil,false_implies,implies_true,and_true]
      refine stepL rfl (by rfl) (fun K hK=>?_)
      go_simp
      refine hK _ _ ⟨⟨(prF HSX.out (by repeat (first|with_reducible refine Ext2.alloc ?_ _|with_reducible refine Ext2.drew1 ?_|with_reducible refine Ext2.setA ?_ _ _|with_reducible assumption|with_reducible exact Ext2.refl _ _ _))),fun h=>absurd h (by decide)⟩,?_⟩
      clear hK K
      refine doneL (by kernel_rfl) ?_ _
      go_wp2
      refine rounds_name (PrT w bp (w.heap.size+1+1+1) (.slice B m d)) ?_ ?_
      · unfold PrT
        repeat apply Exists.intro
        refine ⟨?_,?_,?_,?_,?_,?_,?_,?_,?_,?_⟩
        · (repeat (first|with_reducible refine Blk.drew ?_|with_reducible refine Blk.alloc ?_ _));exact blk_set67 HPu.out
        · (first|exact grownCap_ge U 1 0 _|exact grownCap_ge U.drew 1 0 _|exact grownCap_ge U.drew.drew 1 0 _)
        · (first|exact grownCap_ge U 1 0 _|exact grownCap_ge U.drew 1 0 _|exact grownCap_ge U.drew.drew 1 0 _)
        · (repeat (first|with_reducible exact Blk.new' _ _ _ (by simp)|with_reducible refine Blk.drew ?_|with_reducible refine Blk.alloc ?_ _))
        · (repeat (first|with_reducible exact Blk.new' _ _ _ (by simp)|with_reducible refine Blk.drew ?_|with_reducible refine Blk.alloc ?_ _))
        · (repeat (first|with_reducible refine Blk.drew ?_|with_reducible refine Blk.alloc ?_ _));exact (HRu.out.far (p:=⟨bp,6,none⟩) HNe.out.2.2 _).far (p:=⟨bp,7,none⟩) HNe.out.2.2 _
        · (have:=HRu.out.lt;omega)
        · (have:=HRu.out.lt;omega)
        · refine (HSu.out.keep (fun j hj hlt=>Ext2.block (a:=bp) (b:=bp) (by repeat (first|with_reducible refine Ext2.alloc ?_ _|with_reducible refine Ext2.drew1 ?_|with_reducible refine Ext2.setA ?_ _ _|with_reducible assumption|with_reducible exact Ext2.refl _ _ _)) j hlt hj.2 hj.2)).mono (fun _ hj _=>hj.1)
        · exact Ext2.below HEu.out HLw.out HLw.out (by repeat (first|with_reducible refine Ext2.alloc ?_ _|with_reducible refine Ext2.drew1 ?_|with_reducible refine Ext2.setA ?_ _ _|with_reducible assumption|with_reducible exact Ext2.refl _ _ _))
      intro T hT
      clear p6 p7 o0 o1 g0 g1 g2 g3 g4 pf6 pf7 hpl hol hgl hpl1 hpl2 hpl3 HSX HPu HRu HOu HGu HSu HEu HNe HLw hir hzr0 hzr1 hzr2 hip hzp0 hzp1 hzp2
      obtain ⟨g1,k1,zs1,g2,k2,A1,c1,ys,hp,hk1,hk2,hr1,hr2,hrb,hl1,hl2,hst,hbe⟩:=hT
      have HK:=Lib.hid (And.intro hk1 (And.intro hk2 (And.intro hr1 (And.intro hr2 (And.intro hl1 (And.intro hl2 (And.intro hst hbe)))))))
      have HRb:=Lib.hid hrb
      have q0:=hp.cell 0;have q1:=hp.cell 1;have q2:=hp.cell 2;have q3:=hp.cell 3;have q4:=hp.cell 4;have q5:=hp.cell 5;have q6:=hp.cell 6;have q7:=hp.cell 7;have q8:=hp.cell 8
      have r0:=hrb.cell 0;have r1:=hrb.cell 1;have r2:=hrb.cell 2;have r3:=hrb.cell 3;have r4:=hrb.cell 4;have r5:=hrb.cell 5;have r6:=hrb.cell 6;have r7:=hrb.cell 7;have r8:=hrb.cell 8
      have f0:=hrb.frozen 0;have f1:=hrb.frozen 1;have f2:=hrb.frozen 2;have f3:=hrb.frozen 3;have f4:=hrb.frozen 4;have f5:=hrb.frozen 5;have f6:=hrb.frozen 6;have f7:=hrb.frozen 7;have f8:=hrb.frozen 8
      clear hp hk1 hk2 hr1 hr2 hrb hl1 hl2 hst hbe
      rw [rounds_succ]
      go_wp2
      have hBf:=blk_set9 (u0:=.int .i64 0) (u1:=.int .i64 0) (u2:=.int .i64 5) (u3:=.int .i64 5) (u4:=.int .i64 1) (u5:=.int .i64 0) (u6:=.slice (some ⟨g1,0,none⟩) 1 k1) (u7:=.slice (some ⟨g2,0,none⟩) 1 k2) (u8:=.slice B m d) HRb.out
      have y0:=hBf.cell 0;have y1:=hBf.cell 1;have y2:=hBf.cell 2;have y3:=hBf.cell 3;have y4:=hBf.cell 4;have y5:=hBf.cell 5;have y6:=hBf.cell 6;have y7:=hBf.cell 7;have y8:=hBf.cell 8
      refine bodyPost_ret (v:=.tuple #[.agg #[.int .i64 0,.int .i64 0,.int .i64 5,.int .i64 5,.int .i64 1,.int .i64 0,.slice (some ⟨g1,0,none⟩) 1 k1,.slice (some ⟨g2,0,none⟩) 1 k2,.slice B m d],.int .i64 0]) (by simp [results,Tryz.results207,go_sem,y0,y1,y2,y3,y4,y5,y6,y7,y8]) rfl ⟨_,rfl,⟨_,_,_,rfl,.inr ⟨rfl,g1,k1,zs1,rfl,HK.out.1,?_⟩,⟨g2,k2,A1,c1,ys,rfl,HK.out.2.1,?_⟩,?_⟩,?_⟩
      · exact (heap_set9 (by have:=HK.out.2.2.2.2.1;omega)).trans HK.out.2.2.1
      · exact (heap_set9 (by have:=HK.out.2.2.2.2.2.1;omega)).trans HK.out.2.2.2.1
      · exact (HK.out.2.2.2.2.2.2.1.keep (fun j hj _=>heap_set9 (by omega))).mono (fun _ _ _=>trivial)
      · exact ext_set9 HK.out.2.2.2.2.2.2.2 (by omega)
end
section
open Go.RowKit
attribute [local go_sem ↓] Go.wp_at_zero Go.wp_at_succ
def RP0 (W:World) (va:Array Value):Prop:=∃ v8,va=#[.int .i64 0,.int .i64 0,.int .i64 5,.int .i64 5,.int .i64 0,.int .i64 0,.slice none 0 0,.slice none 0 0,v8]∧Strs (fun _=>True) W v8 (sums false 16)
theorem RP0.ext {w W:World} {va:Array Value} (h:RP0 w va) (k:Below w.heap.size w W):RP0 W va:=by
  obtain ⟨v8,h1,h2⟩:=h
  exact ⟨v8,h1,h2.below k⟩
theorem RP1.lit {W:World} {va:Array Value} (h:RP1 W va):∃ g1 k1 g2 k2 A n c,va=#[.int .i64 0,.int .i64 0,.int .i64 5,.int .i64 5,.int .i64 1,.int .i64 0,.slice (some ⟨g1,0,none⟩) 1 k1,.slice (some ⟨g2,0,none⟩) 1 k2,.slice A n c]:=by
  obtain ⟨v6,v7,v8,h1,h2,h3,h4⟩:=h
  obtain ⟨A,n,c,rfl⟩:=strs_slice' h4
  obtain ⟨g1,k1,_,rfl,_,_⟩:=rows_one h2
  obtain ⟨g2,k2,_,_,_,rfl,_,_⟩:=h3
  exact ⟨g1,k1,g2,k2,A,n,c,h1⟩
def RPx (one:Bool) (W:World) (va:Array Value):Prop:=match one with
  | true=>RP1 W va
  | false=>RP0 W va
theorem RPx.ext {one:Bool} {w W:World} {va:Array Value} (h:RPx one w va) (k:Below w.heap.size w W):RPx one W va:=by
  cases one
  · exact RP0.ext h k
  · exact RP1.ext h k
def RangesAt (one:Bool) (W:World) (v:Value):Prop:=∃ g c va zs,v=.slice (some ⟨g,0,none⟩) 1 c∧1≤c∧Blk W g 284 (va++zs)∧RPx one W va
theorem RangesAt.ext {one:Bool} {w W:World} {v:Value} (h:RangesAt one w v) (k:Below w.heap.size w W):RangesAt one W v:=by
  obtain ⟨g,c,va,zs,h1,h2,h3,h4⟩:=h
  exact ⟨g,c,va,zs,h1,h2,h3.ext k,h4.ext k⟩
theorem blk_ne {W:World} {a b:Nat} {t u:TypeId} {xs ys:Array Value} (h:Blk W a t xs) (k:Blk W b u ys) (hne:t≠u):a≠b:=by
  rintro rfl
  unfold Blk at h k
  rw [h] at k
  injection k with k
  injection k with _ k
  exact hne k
theorem str_ne {W:World} {a b o:Nat} {t:TypeId} {A:Option Addr} {n c:Nat} {x:ByteArray} (h:Blk W a t #[.slice A n c]) (k:W.cell? ⟨b,o,none⟩=some (.string x)):b≠a:=by
  rintro rfl
  rw [h.cell o] at k
  cases o with
  | zero=>cases k
  | succ o=>cases k
theorem Strs.keep1 {W W':World} {a:Nat} {t:TypeId} {A:Option Addr} {n c:Nat} {v:Value} {l:List ByteArray} {S:Nat→Prop} (h:Strs S W v l) (hb:Blk W a t #[.slice A n c]) (k:Ext2 a a W W'):Strs S W' v l:=by
  obtain ⟨B,d,rfl,hc,h⟩:=h
  refine ⟨B,d,rfl,hc,fun h0=>?_⟩
  obtain ⟨b,off,hB,hS,hcell⟩:=h h0
  exact ⟨b,off,hB,hS,fun j x hx=>cell_ext2 (hcell j x hx) k (str_ne hb (hcell j x hx)) (str_ne hb (hcell j x hx))⟩
theorem RowsAt.keep1 {W W':World} {a:Nat} {t:TypeId} {xs:Array Value} {hit:Bool} {v:Value} (h:RowsAt W hit v) (hb:Blk W a t xs) (ht:108≠t) (k:Ext2 a a W W'):RowsAt W' hit v:=by
  rcases h with h|⟨h1,g,c,zs,h2,h3,h4⟩
  · exact .inl h
  · exact .inr ⟨h1,g,c,zs,h2,h3,h4.ext2 k (blk_ne h4 hb ht) (blk_ne h4 hb ht)⟩
theorem RPx.keep1 {one:Bool} {W W':World} {a:Nat} {t:TypeId} {A:Option Addr} {n c:Nat} {va:Array Value} (h:RPx one W va) (hb:Blk W a t #[.slice A n c]) (h1:108≠t) (h2:44≠t) (k:Ext2 a a W W'):RPx one W' va:=by
  cases one
  · obtain ⟨v8,q1,q2⟩:=h
    exact ⟨v8,q1,q2.keep1 hb k⟩
  · obtain ⟨v6,v7,v8,q1,q2,⟨g,c',A0,c0,ys,p1,p2,p3⟩,q4⟩:=h
    exact ⟨v6,v7,v8,q1,q2.keep1 hb h1 k,⟨g,c',A0,c0,ys,p1,p2,p3.ext2 k (blk_ne p3 hb h2) (blk_ne p3 hb h2)⟩,q4.keep1 hb k⟩
theorem rp_info:(Tryz.prog.info? 284).map (fun i=>(i.zero,i.size,i.bytes))=some (some (.agg #[.int .i64 0,.int .i64 0,.int .i64 0,.int .i64 0,.int .i64 0,.int .i64 0,.slice none 0 0,.slice none 0 0,.slice none 0 0]),9,120):=by kernel_rfl
theorem put1 (bs bo gs gm:Nat) (pos:Int) (w:World) (hS:StateIs w true gs gm pos) (hR:RoundOK w) (hbs:Blk w bs 33 #[.pointer (some ⟨gs,0,none⟩)]) (hbo:Blk w bo 75 #[.slice none 0 0]) :
    Calls Tryz.prog 206 #[.agg #[.int .i64 0,.int .i64 0,.int .i64 5,.int .i64 5],.pointer (some ⟨bs,0,none⟩),.pointer (some ⟨bo,0,none⟩)] w
      fun e w'=>e=.returned (.tuple #[])∧∃ v,RangesAt true w' v∧Blk w' bo 75 #[v]∧Ext2 bo bo w w':=by
  obtain ⟨ir,hir,hzr0,hzr1,hzr2⟩:=info_parts rp_info
  have hE:=ext_new w (.cells #[.int .i64 0,.int .i64 0,.int .i64 5,.int .i64 5] 305)
  have HS:=Lib.hid (hS.ext hE)
  have HR:=Lib.hid (hR.below hE)
  have s0:=(hbs.ext hE).cell 0
  have HO:=Lib.hid (hbo.ext hE)
  have HE:=Lib.hid hE
  have hsl:=hbs.lt
  clear hS hR hbs hbo hE
  go_enter Tryz.func206,Tryz.ntmps206
  go_wp2_with fail
  refine (prove1 gs gm pos _ HS.out HR.out).mono ?_
  rintro e W1 ⟨va,rfl,hrp,hb1⟩
  obtain ⟨g1,k1,g2,k2,A,n,c,rfl⟩:=hrp.lit
  have HO1:=Lib.hid (HO.out.ext hb1)
  have HE1:=Lib.hid (ext_call HE.out hb1)
  have o0:=HO1.out.cell 0
  have f0:=HO1.out.frozen 0
  have ol:=HO1.out.lt
  have ol1:bo<W1.heap.size+1:=by omega
  have ol2:bo<W1.heap.size+1+1:=by omega
  have HP:=Lib.hid (show RPx true W1 #[.int .i64 0,.int .i64 0,.int .i64 5,.int .i64 5,.int .i64 1,.int .i64 0,.slice (some ⟨g1,0,none⟩) 1 k1,.slice (some ⟨g2,0,none⟩) 1 k2,.slice A n c] from hrp)
  clear hb1 hrp s0
  go_wp2
  go_end0
  have hX:Ext2 bo bo W1 ((W1.setCell ⟨bo,0,none⟩ (.slice (some ⟨W1.heap.size+1+1,0,none⟩) 1 ((Question.appendCap 1 0 284).cut (W1.tape W1.drawn (Question.appendCap 1 0 284)))))):=(Ext2.refl _ _ _).setA 0 _
  refine ⟨rfl,.slice (some ⟨W1.heap.size+1+1,0,none⟩) 1 ((Question.appendCap 1 0 284).cut (W1.tape W1.drawn (Question.appendCap 1 0 284))),⟨W1.heap.size+1+1,((Question.appendCap 1 0 284).cut (W1.tape W1.drawn (Question.appendCap 1 0 284))),#[.int .i64 0,.int .i64 0,.int .i64 5,.int .i64 5,.int .i64 1,.int .i64 0,.slice (some ⟨g1,0,none⟩) 1 k1,.slice (some ⟨g2,0,none⟩) 1 k2,.slice A n c],Builtin.zeroCells #[.int .i64 0,.int .i64 0,.int .i64 0,.int .i64 0,.int .i64 0,.int .i64 0,.slice none 0 0,.slice none 0 0,.slice none 0 0] (((Question.appendCap 1 0 284).cut (W1.tape W1.drawn (Question.appendCap 1 0 284)))-1),rfl,?_,?_,?_⟩,?_,?_⟩
  · exact grownCap_ge W1 1 0 _
  · exact (Blk.new' _ _ _ (by simp)).drew
  · exact RPx.ext (RPx.keep1 HP.out HO1.out (by decide) (by decide) hX) ((ext_alloc (ext_alloc (ext_new _ _) _) _).drew)
  · exact (((HO1.out.set_ 0 _).alloc _).alloc _).alloc _
  · exact Ext2.trans (.of_ext HE1.out) (hX.ext ((ext_alloc (ext_alloc (ext_new _ _) _) _).drew))
theorem make1 (gs gm:Nat) (pos:Int) (w:World) (hS:StateIs w true gs gm pos) (hR:RoundOK w) :
    Calls Tryz.prog 167 #[.pointer (some ⟨gs,0,none⟩),.agg #[.int .i64 1,.int .i64 0,.int .i64 0,.int .i64 5,.int .i64 5,.int .i64 0,.int .i64 0]] w fun e w'=>∃ v,e=.returned (.tuple #[v,.int .i64 0])∧RangesAt true w' v∧Below w.heap.size w w':=by
  have hmf:∀ (fn:Fn) (first cap:Array Value) (w:World),(Instr.makeFunc fn first cap).run Tryz.prog w=.ok (.func fn first cap) w:=fun _ _ _ _=>rfl
  have HE0:=Lib.hid (ext_alloc (ext_new w (.cells #[.pointer (some ⟨gs,0,none⟩)] 33)) (.cells #[.int .i64 1,.int .i64 0,.int .i64 0,.int .i64 5,.int .i64 5,.int .i64 0,.int .i64 0] 74))
  have HB0:=Lib.hid ((Blk.new w 33 #[.pointer (some ⟨gs,0,none⟩)]).alloc (.cells #[.int .i64 1,.int .i64 0,.int .i64 0,.int .i64 5,.int .i64 5,.int .i64 0,.int .i64 0] 74))
  have HQ0:=Lib.hid (Blk.new' (w.alloc (.cells #[.pointer (some ⟨gs,0,none⟩)] 33)) 74 #[.int .i64 1,.int .i64 0,.int .i64 0,.int .i64 5,.int .i64 5,.int .i64 0,.int .i64 0] (b:=w.heap.size+1) (by simp))
  have HS:=Lib.hid hS
  have HR:=Lib.hid hR
  clear hS hR
  go_enter Tryz.func167,Tryz.ntmps167
  go_wp2_with fail
  refine (queryValid1 _).mono ?_
  rintro e W1 ⟨rfl,hb1⟩
  have HE1:=Lib.hid (ext_call HE0.out hb1)
  have HB1:=Lib.hid (HB0.out.ext hb1)
  have HQ1:=Lib.hid (HQ0.out.ext hb1)
  have q0:=HQ1.out.cell 0;have q1:=HQ1.out.cell 1;have q2:=HQ1.out.cell 2;have q3:=HQ1.out.cell 3;have q4:=HQ1.out.cell 4;have q5:=HQ1.out.cell 5;have q6:=HQ1.out.cell 6
  have ql:=HQ1.out.lt
  clear hb1 HE0 HB0 HQ0
  go_wp2_with fail
  refine (proofOf1 _).mono ?_
  rintro e W2 ⟨rfl,hb2⟩
  have HE2:=Lib.hid (ext_call (ext_alloc HE1.out _) hb2)
  have HB2:=Lib.hid ((HB1.out.alloc _).ext hb2)
  have HQ2:=Lib.hid ((HQ1.out.alloc _).ext hb2)
  have HO2:=Lib.hid ((Blk.new W1 75 #[.slice none 0 0]).ext hb2)
  have HLo:=Lib.hid (show w.heap.size≤W1.heap.size from HE1.out.size)
  clear hb2 ql HE1 HB1 HQ1 q0 q1 q2 q3 q4 q5 q6
  generalize W1.heap.size=bo at *
  have s0:=HB2.out.cell 0
  have bl:=HB2.out.lt
  go_wp2_with fail
  refine (range_any true gs gm 0 pos 0 5 5 (by omega) _ (HS.out.ext (ext_alloc HE2.out _))).mono ?_
  rintro e W3 ⟨v,rfl,hv,hb3⟩
  obtain ⟨g0,k0,zs,rfl,_,_⟩:=rows_one hv
  have HE3:=Lib.hid (ext_call (ext_alloc HE2.out _) hb3)
  have HB3:=Lib.hid ((HB2.out.alloc _).ext hb3)
  have HQ3:=Lib.hid ((HQ2.out.alloc _).ext hb3)
  have HO3:=Lib.hid ((HO2.out.alloc _).ext hb3)
  have hC3:=(Blk.new W2 305 #[.int .i64 0,.int .i64 0,.int .i64 5,.int .i64 5]).ext hb3
  have c0:=hC3.cell 0;have c1:=hC3.cell 1;have c2:=hC3.cell 2;have c3:=hC3.cell 3
  have cl:=hC3.lt
  clear hb3 HE2 HB2 HQ2 HO2 s0 bl hC3
  go_wp2_with fail
  refine (put1 w.heap.size bo gs gm pos _ (HS.out.ext HE3.out) (HR.out.below HE3.out) HB3.out HO3.out).mono ?_
  rintro e W4 ⟨rfl,v',hra,hbo,hx⟩
  have hQ4:=HQ3.out.ext2 hx (blk_ne HQ3.out HO3.out (by decide)) (blk_ne HQ3.out HO3.out (by decide))
  have HE4:=Lib.hid (Ext2.below HE3.out HLo.out HLo.out hx)
  have k0:=hQ4.cell 0
  have o0:=hbo.cell 0
  have HRa:=Lib.hid hra
  clear hra hbo hx hQ4 c0 c1 c2 c3
  go_wp2
  go_ret2
  exact ⟨_,rfl,HRa.out,HE4.out⟩
theorem put0 (bs bo gs gm:Nat) (pos:Int) (w:World) (hS:StateIs w false gs gm pos) (hR:RoundOK w) (hbs:Blk w bs 33 #[.pointer (some ⟨gs,0,none⟩)]) (hbo:Blk w bo 75 #[.slice none 0 0]) :
    Calls Tryz.prog 206 #[.agg #[.int .i64 0,.int .i64 0,.int .i64 5,.int .i64 5],.pointer (some ⟨bs,0,none⟩),.pointer (some ⟨bo,0,none⟩)] w
      fun e w'=>e=.returned (.tuple #[])∧∃ v,RangesAt false w' v∧Blk w' bo 75 #[v]∧Ext2 bo bo w w':=by
  obtain ⟨ir,hir,hzr0,hzr1,hzr2⟩:=info_parts rp_info
  have hE:=ext_new w (.cells #[.int .i64 0,.int .i64 0,.int .i64 5,.int .i64 5] 305)
  have HS:=Lib.hid (hS.ext hE)
  have HR:=Lib.hid (hR.below hE)
  have s0:=(hbs.ext hE).cell 0
  have HO:=Lib.hid (hbo.ext hE)
  have HE:=Lib.hid hE
  have hsl:=hbs.lt
  clear hS hR hbs hbo hE
  go_enter Tryz.func206,Tryz.ntmps206
  go_wp2_with fail
  refine (prove0 gs gm pos _ HS.out HR.out).mono ?_
  rintro e W1 ⟨A,n,c,rfl,hs1,hb1⟩
  have hrp:RP0 W1 #[.int .i64 0,.int .i64 0,.int .i64 5,.int .i64 5,.int .i64 0,.int .i64 0,.slice none 0 0,.slice none 0 0,.slice A n c]:=⟨_,rfl,hs1⟩
  clear hs1
  have HO1:=Lib.hid (HO.out.ext hb1)
  have HE1:=Lib.hid (ext_call HE.out hb1)
  have o0:=HO1.out.cell 0
  have f0:=HO1.out.frozen 0
  have ol:=HO1.out.lt
  have ol1:bo<W1.heap.size+1:=by omega
  have ol2:bo<W1.heap.size+1+1:=by omega
  have HP:=Lib.hid (show RPx false W1 #[.int .i64 0,.int .i64 0,.int .i64 5,.int .i64 5,.int .i64 0,.int .i64 0,.slice none 0 0,.slice none 0 0,.slice A n c] from hrp)
  clear hb1 hrp s0
  go_wp2
  go_end0
  have hX:Ext2 bo bo W1 ((W1.setCell ⟨bo,0,none⟩ (.slice (some ⟨W1.heap.size+1+1,0,none⟩) 1 ((Question.appendCap 1 0 284).cut (W1.tape W1.drawn (Question.appendCap 1 0 284)))))):=(Ext2.refl _ _ _).setA 0 _
  refine ⟨rfl,.slice (some ⟨W1.heap.size+1+1,0,none⟩) 1 ((Question.appendCap 1 0 284).cut (W1.tape W1.drawn (Question.appendCap 1 0 284))),⟨W1.heap.size+1+1,((Question.appendCap 1 0 284).cut (W1.tape W1.drawn (Question.appendCap 1 0 284))),#[.int .i64 0,.int .i64 0,.int .i64 5,.int .i64 5,.int .i64 0,.int .i64 0,.slice none 0 0,.slice none 0 0,.slice A n c],Builtin.zeroCells #[.int .i64 0,.int .i64 0,.int .i64 0,.int .i64 0,.int .i64 0,.int .i64 0,.slice none 0 0,.slice none 0 0,.slice none 0 0] (((Question.appendCap 1 0 284).cut (W1.tape W1.drawn (Question.appendCap 1 0 284)))-1),rfl,?_,?_,?_⟩,?_,?_⟩
  · exact grownCap_ge W1 1 0 _
  · exact (Blk.new' _ _ _ (by simp)).drew
  · exact RPx.ext (RPx.keep1 HP.out HO1.out (by decide) (by decide) hX) ((ext_alloc (ext_alloc (ext_new _ _) _) _).drew)
  · exact (((HO1.out.set_ 0 _).alloc _).alloc _).alloc _
  · exact Ext2.trans (.of_ext HE1.out) (hX.ext ((ext_alloc (ext_alloc (ext_new _ _) _) _).drew))
theorem make0 (gs gm:Nat) (pos:Int) (w:World) (hS:StateIs w false gs gm pos) (hR:RoundOK w) :
    Calls Tryz.prog 167 #[.pointer (some ⟨gs,0,none⟩),.agg #[.int .i64 1,.int .i64 0,.int .i64 0,.int .i64 5,.int .i64 5,.int .i64 0,.int .i64 0]] w fun e w'=>∃ v,e=.returned (.tuple #[v,.int .i64 0])∧RangesAt false w' v∧Below w.heap.size w w':=by
  have hmf:∀ (fn:Fn) (first cap:Array Value) (w:World),(Instr.makeFunc fn first cap).run Tryz.prog w=.ok (.func fn first cap) w:=fun _ _ _ _=>rfl
  have HE0:=Lib.hid (ext_alloc (ext_new w (.cells #[.pointer (some ⟨gs,0,none⟩)] 33)) (.cells #[.int .i64 1,.int .i64 0,.int .i64 0,.int .i64 5,.int .i64 5,.int .i64 0,.int .i64 0] 74))
  have HB0:=Lib.hid ((Blk.new w 33 #[.pointer (some ⟨gs,0,none⟩)]).alloc (.cells #[.int .i64 1,.int .i64 0,.int .i64 0,.int .i64 5,.int .i64 5,.int .i64 0,.int .i64 0] 74))
  have HQ0:=Lib.hid (Blk.new' (w.alloc (.cells #[.pointer (some ⟨gs,0,none⟩)] 33)) 74 #[.int .i64 1,.int .i64 0,.int .i64 0,.int .i64 5,.int .i64 5,.int .i64 0,.int .i64 0] (b:=w.heap.size+1) (by simp))
  have HS:=Lib.hid hS
  have HR:=Lib.hid hR
  clear hS hR
  go_enter Tryz.func167,Tryz.ntmps167
  go_wp2_with fail
  refine (queryValid0 _).mono ?_
  rintro e W1 ⟨rfl,hb1⟩
  have HE1:=Lib.hid (ext_call HE0.out hb1)
  have HB1:=Lib.hid (HB0.out.ext hb1)
  have HQ1:=Lib.hid (HQ0.out.ext hb1)
  have q0:=HQ1.out.cell 0;have q1:=HQ1.out.cell 1;have q2:=HQ1.out.cell 2;have q3:=HQ1.out.cell 3;have q4:=HQ1.out.cell 4;have q5:=HQ1.out.cell 5;have q6:=HQ1.out.cell 6
  have ql:=HQ1.out.lt
  clear hb1 HE0 HB0 HQ0
  go_wp2_with fail
  refine (proofOf0 _).mono ?_
  rintro e W2 ⟨rfl,hb2⟩
  have HE2:=Lib.hid (ext_call (ext_alloc HE1.out _) hb2)
  have HB2:=Lib.hid ((HB1.out.alloc _).ext hb2)
  have HQ2:=Lib.hid ((HQ1.out.alloc _).ext hb2)
  have HO2:=Lib.hid ((Blk.new W1 75 #[.slice none 0 0]).ext hb2)
  have HLo:=Lib.hid (show w.heap.size≤W1.heap.size from HE1.out.size)
  clear hb2 ql HE1 HB1 HQ1 q0 q1 q2 q3 q4 q5 q6
  generalize W1.heap.size=bo at *
  have s0:=HB2.out.cell 0
  have bl:=HB2.out.lt
  go_wp2_with fail
  refine (range_any false gs gm 0 pos 0 5 5 (by omega) _ (HS.out.ext (ext_alloc HE2.out _))).mono ?_
  rintro e W3 ⟨v,rfl,hv,hb3⟩
  obtain rfl:=rows_none hv
  have HE3:=Lib.hid (ext_call (ext_alloc HE2.out _) hb3)
  have HB3:=Lib.hid ((HB2.out.alloc _).ext hb3)
  have HQ3:=Lib.hid ((HQ2.out.alloc _).ext hb3)
  have HO3:=Lib.hid ((HO2.out.alloc _).ext hb3)
  have hC3:=(Blk.new W2 305 #[.int .i64 0,.int .i64 0,.int .i64 5,.int .i64 5]).ext hb3
  have c0:=hC3.cell 0;have c1:=hC3.cell 1;have c2:=hC3.cell 2;have c3:=hC3.cell 3
  have cl:=hC3.lt
  clear hb3 HE2 HB2 HQ2 HO2 s0 bl hC3
  go_wp2_with fail
  refine (put0 w.heap.size bo gs gm pos _ (HS.out.ext HE3.out) (HR.out.below HE3.out) HB3.out HO3.out).mono ?_
  rintro e W4 ⟨rfl,v',hra,hbo,hx⟩
  have hQ4:=HQ3.out.ext2 hx (blk_ne HQ3.out HO3.out (by decide)) (blk_ne HQ3.out HO3.out (by decide))
  have HE4:=Lib.hid (Ext2.below HE3.out HLo.out HLo.out hx)
  have k0:=hQ4.cell 0
  have o0:=hbo.cell 0
  have HRa:=Lib.hid hra
  clear hra hbo hx hQ4 c0 c1 c2 c3
  go_wp2
  go_ret2
  exact ⟨_,rfl,HRa.out,HE4.out⟩
end
section
open Go.RowKit
attribute [local go_sem ↓] Go.wp_at_zero Go.wp_at_succ
theorem complVal (bp g k:Nat) (v7 v8:Value) (zs:Array Value) (w:World) (hp:Blk w bp 284 #[.int .i64 0,.int .i64 0,.int .i64 5,.int .i64 5,.int .i64 1,.int .i64 0,.slice (some ⟨g,0,none⟩) 1 k,v7,v8]) (hg:Blk w g 108 (#[.int .i64 0,.int .i64 5,.int .i64 1,.int .i64 2,.int .i64 3]++zs)) :
    Calls Tryz.prog 236 #[.int .i64 0,.pointer (some ⟨bp,0,none⟩)] w fun e w'=>e=.returned (.int .i64 5)∧Below w.heap.size w w':=by
  have p1:=hp.cell 1
  have p6:=hp.cell 6
  obtain ⟨r0,r1,r2,r3,r4⟩:=row_cells hg
  clear hp hg
  go_enter Tryz.func236,Tryz.ntmps236
  go_wp2
  go_still_tail 7,(by kernel_rfl)
  change wpList _ _ _ _ _ w.drew
  go_wp2_with (go_at_call 212;refine (row_value0 _).mono ?_;rintro e W1 ⟨rfl,hb1⟩;have HE1:=Lib.hid (undrew hb1);clear hb1)
  go_ret
  exact ⟨rfl,HE1.out⟩
theorem complete0 (A:Option Addr) (n c:Nat) (w:World) :
    Calls Tryz.prog 215 #[.agg #[.int .i64 0,.int .i64 0,.int .i64 5,.int .i64 5,.int .i64 0,.int .i64 0,.slice none 0 0,.slice none 0 0,.slice A n c]] w fun e w'=>e=.returned (.bool true)∧Below w.heap.size w w':=by
  go_enter Tryz.func215,Tryz.ntmps215
  go_wp2_with (go_at_call 226;refine (existsYes _).mono ?_;rintro e w' ⟨rfl,rfl⟩)
  go_ret
  exact ⟨rfl,ext_new _ _⟩
theorem complete1 (g k:Nat) (zs:Array Value) (g2 k2:Nat) (A:Option Addr) (n c:Nat) (w:World) (hg:Blk w g 108 (#[.int .i64 0,.int .i64 5,.int .i64 1,.int .i64 2,.int .i64 3]++zs)) :
    Calls Tryz.prog 215 #[.agg #[.int .i64 0,.int .i64 0,.int .i64 5,.int .i64 5,.int .i64 1,.int .i64 0,.slice (some ⟨g,0,none⟩) 1 k,.slice (some ⟨g2,0,none⟩) 1 k2,.slice A n c]] w fun e w'=>e=.returned (.bool true)∧Below w.heap.size w w':=by
  have hmf:∀ (fn:Fn) (first cap:Array Value) (w:World),(Instr.makeFunc fn first cap).run Tryz.prog w=.ok (.func fn first cap) w:=fun _ _ _ _=>rfl
  have HB0:=Lib.hid (Blk.new w 284 #[.int .i64 0,.int .i64 0,.int .i64 5,.int .i64 5,.int .i64 1,.int .i64 0,.slice (some ⟨g,0,none⟩) 1 k,.slice (some ⟨g2,0,none⟩) 1 k2,.slice A n c])
  have HG0:=Lib.hid (hg.alloc (.cells #[.int .i64 0,.int .i64 0,.int .i64 5,.int .i64 5,.int .i64 1,.int .i64 0,.slice (some ⟨g,0,none⟩) 1 k,.slice (some ⟨g2,0,none⟩) 1 k2,.slice A n c] 284))
  obtain ⟨r0,r1,r2,r3,r4⟩:=row_cells hg
  have gl:=hg.lt
  clear hg
  go_enter Tryz.func215,Tryz.ntmps215
  go_wp2_with (go_at_call 226;refine (existsYes _).mono ?_;rintro e w' ⟨rfl,rfl⟩)
  refine wp_loop_rounds 2 ?_
  rw [rounds_succ]
  go_wp2_with fail
  refine (complVal w.heap.size g k _ _ zs _ (HB0.out.alloc _) (HG0.out.alloc _)).mono ?_
  rintro e W1 ⟨rfl,hb1⟩
  have HE1:=Lib.hid (ext_call (ext_alloc (ext_new w _) _) hb1)
  have HB1:=Lib.hid ((HB0.out.alloc _).ext hb1)
  have HR1:=Lib.hid ((Blk.new' (w.alloc (.cells #[.int .i64 0,.int .i64 0,.int .i64 5,.int .i64 5,.int .i64 1,.int .i64 0,.slice (some ⟨g,0,none⟩) 1 k,.slice (some ⟨g2,0,none⟩) 1 k2,.slice A n c] 284)) 108 #[.int .i64 0,.int .i64 5,.int .i64 1,.int .i64 2,.int .i64 3] (b:=w.heap.size+1) (by simp)).ext hb1)
  have x0:=HR1.out.cell 0;have x1:=HR1.out.cell 1;have x2:=HR1.out.cell 2;have x3:=HR1.out.cell 3;have x4:=HR1.out.cell 4
  clear hb1 r0 r1 r2 r3 r4 gl
  go_wp2_with fail
  refine (valid_row _).mono ?_
  rintro e W2 ⟨rfl,hb2⟩
  have HE2:=Lib.hid (ext_call HE1.out hb2)
  have hB2:=HB1.out.ext hb2
  have hR2:=HR1.out.ext hb2
  clear hb2 x0 x1 x2 x3 x4
  have b0:=hB2.cell 0;have b1:=hB2.cell 1;have b2:=hB2.cell 2;have b3:=hB2.cell 3;have b4:=hB2.cell 4;have b5:=hB2.cell 5
  have x0:=hR2.cell 0;have x1:=hR2.cell 1
  clear hB2 hR2
  go_wp2
  go_quiet (fail)
  go_wp2
  rw [rounds_succ]
  go_wp2
  go_quiet (fail)
  go_wp2
  go_ret
  exact ⟨rfl,ext_drewN (ext_drewN HE2.out _) _⟩
end
section
open Go.RowKit
attribute [local go_sem ↓] Go.wp_at_zero Go.wp_at_succ
theorem rowsOf0 (A:Option Addr) (n c:Nat) (w:World) :
    Calls Tryz.prog 187 #[.agg #[.int .i64 0,.int .i64 0,.int .i64 5,.int .i64 5,.int .i64 0,.int .i64 0,.slice none 0 0,.slice none 0 0,.slice A n c]] w fun e w'=>e=.returned (.tuple #[.slice none 0 0,.bool true])∧Below w.heap.size w w':=by
  have HB:=Lib.hid (Blk.new w 284 #[.int .i64 0,.int .i64 0,.int .i64 5,.int .i64 5,.int .i64 0,.int .i64 0,.slice none 0 0,.slice none 0 0,.slice A n c])
  go_enter Tryz.func187,Tryz.ntmps187
  go_wp2_with fail
  refine (complete0 A n c _).mono ?_
  rintro e W1 ⟨rfl,hb1⟩
  have HE1:=Lib.hid (ext_call (ext_new w _) hb1)
  have hB1:=HB.out.ext hb1
  have b6:=hB1.cell 6
  clear hb1 hB1
  go_wp2
  refine wp_loop_rounds 1 ?_
  rw [rounds_succ]
  go_wp2
  go_ret2
  exact ⟨rfl,HE1.out⟩
theorem rowsOf1 (g k:Nat) (zs:Array Value) (g2 k2:Nat) (A:Option Addr) (n c:Nat) (w:World) (hg:Blk w g 108 (#[.int .i64 0,.int .i64 5,.int .i64 1,.int .i64 2,.int .i64 3]++zs)) :
    Calls Tryz.prog 187 #[.agg #[.int .i64 0,.int .i64 0,.int .i64 5,.int .i64 5,.int .i64 1,.int .i64 0,.slice (some ⟨g,0,none⟩) 1 k,.slice (some ⟨g2,0,none⟩) 1 k2,.slice A n c]] w
      fun e w'=>∃ v,e=.returned (.tuple #[v,.bool true])∧RowsAt w' true v∧Below w.heap.size w w':=by
  obtain ⟨ir,hir,hzr0,hzr1,hzr2⟩:=info_parts row_info
  have HB:=Lib.hid (Blk.new w 284 #[.int .i64 0,.int .i64 0,.int .i64 5,.int .i64 5,.int .i64 1,.int .i64 0,.slice (some ⟨g,0,none⟩) 1 k,.slice (some ⟨g2,0,none⟩) 1 k2,.slice A n c])
  have HG:=Lib.hid (hg.alloc (.cells #[.int .i64 0,.int .i64 0,.int .i64 5,.int .i64 5,.int .i64 1,.int .i64 0,.slice (some ⟨g,0,none⟩) 1 k,.slice (some ⟨g2,0,none⟩) 1 k2,.slice A n c] 284))
  clear hg
  go_enter Tryz.func187,Tryz.ntmps187
  go_wp2_with fail
  refine (complete1 g k zs g2 k2 A n c _ HG.out).mono ?_
  rintro e W1 ⟨rfl,hb1⟩
  have HE1:=Lib.hid (ext_call (ext_new w _) hb1)
  have HB1:=Lib.hid (HB.out.ext hb1)
  have hG1:=HG.out.ext hb1
  have b1:=HB1.out.cell 1
  have b2:=HB1.out.cell 2
  have b3:=HB1.out.cell 3
  have b6:=HB1.out.cell 6
  have bl:=HB1.out.lt
  obtain ⟨r0,r1,r2,r3,r4⟩:=row_cells hG1
  have gl:=hG1.lt
  clear hb1 hG1
  go_wp2
  refine wp_loop_rounds 2 ?_
  rw [rounds_succ]
  go_wp2_with fail
  refine (row_value0 _).mono ?_
  rintro e W2 ⟨rfl,hb2⟩
  have HE2:=Lib.hid (ext_call (ext_alloc HE1.out _) hb2)
  have hB2:=(HB1.out.alloc (.cells #[.int .i64 0,.int .i64 5,.int .i64 1,.int .i64 2,.int .i64 3] 108)).ext hb2
  have hX2:=(Blk.new W1 108 #[.int .i64 0,.int .i64 5,.int .i64 1,.int .i64 2,.int .i64 3]).ext hb2
  clear hb2 r0 r1 r2 r3 r4 b1 b2 b3 b6 gl bl
  have x0:=hX2.cell 0;have x1:=hX2.cell 1;have x2:=hX2.cell 2;have x3:=hX2.cell 3;have x4:=hX2.cell 4
  have b2:=hB2.cell 2
  have b3:=hB2.cell 3
  clear hB2 hX2
  go_wp2
  rw [rounds_succ]
  go_wp2
  go_ret2
  have hcap:1≤((Question.appendCap 1 0 108).cut (W2.tape W2.drawn (Question.appendCap 1 0 108))):=grownCap_ge W2 1 0 108
  exact ⟨_,rfl,.inr ⟨rfl,W2.heap.size+1,_,_,rfl,hcap,(Blk.new' _ _ _ (by simp)).drew⟩,(ext_alloc (ext_alloc HE2.out _) _).drew⟩
end
section
open Go.RowKit Go.Shelf
theorem sums_33 (one:Bool) (k:Nat):∀ x ∈ sums one k,x.size=33:=by
  intro x hx
  obtain ⟨i,_,rfl⟩:=List.mem_map.1 hx
  rw [sumE_size]
theorem longRoot (s:ByteArray) (hs:s.size≤64) (w:World):Calls Tryz.prog 191 #[.string s] w fun e w'=>e=.returned (.bool false)∧w=w':=by
  have d1:decide ((64:Int)<(s.size:Int))=false:=decide_eq_false (by omega)
  go_enter Tryz.func191,Tryz.ntmps191
  go_wp2
  go_ret
  exact ⟨rfl,rfl⟩
theorem indexLong (S:Nat→Prop) (v:Value) (l:List ByteArray) (w:World) (hv:Strs S w v l) (hn:l.length≤100000) (hs:∀ x ∈ l,x.size≤64) :
    Calls Tryz.prog 144 #[v,.func (.func 191) #[] #[]] w fun e w'=>e=.returned (.int .i64 (-1))∧w=w':=by
  have HV:=Lib.hid hv
  have HS:=Lib.hid hs
  obtain ⟨A,c,rfl,hc,_⟩:=hv
  clear hs
  go_enter Tryz.func144,Tryz.ntmps144
  go_wp2
  go_loop [8] (fun i=>∃ k:Nat,k≤l.length∧i=.int .i64 k) (fun i=>l.length-(intOf i).toNat)
  case atStart=>exact ⟨0,Nat.zero_le _,rfl⟩
  case round=>
    obtain ⟨k,hk,rfl⟩:=hrel
    by_cases hlt:k<l.length
    · obtain ⟨b,off,c',hA,_,_,hcell⟩:=HV.out.at_ hlt
      injection hA with hA hn' hc'
      subst hA;subst hc'
      clear hn'
      obtain ⟨x,hx⟩:∃ x,x=l[k]:=⟨_,rfl⟩
      rw [show l.getD k ⟨#[]⟩=x by rw [hx];simp [hlt]] at hcell
      have hx64:x.size≤64:=HS.out x (by rw [hx];exact List.getElem_mem hlt)
      clear hx
      go_wp2_with (go_at_call 191;refine (longRoot _ hx64 _).mono ?_;rintro e w' ⟨rfl,rfl⟩)
      go_round
      case rel=>exact ⟨k+1,by omega,by go_num⟩
      case measure=>simp [intOf];omega
    · go_wp2
      go_ret
      exact ⟨rfl,rfl⟩
theorem containsLong (S:Nat→Prop) (v:Value) (l:List ByteArray) (w:World) (hv:Strs S w v l) (hn:l.length≤100000) (hs:∀ x ∈ l,x.size≤64) :
    Calls Tryz.prog 101 #[v,.func (.func 191) #[] #[]] w fun e w'=>e=.returned (.bool false)∧w=w':=by
  have HC:=Lib.hid (indexLong S v l w hv hn hs)
  obtain ⟨A,c,rfl,hc,_⟩:=hv
  clear hs
  go_enter Tryz.func101,Tryz.ntmps101
  go_wp2_with (go_at_call 144;refine HC.out.mono ?_;rintro e w' ⟨rfl,rfl⟩)
  go_ret
  exact ⟨rfl,rfl⟩
theorem indexNoStr (A:Option Addr) (c:Nat) (f:Value) (w:World) :
    Calls Tryz.prog 144 #[.slice A 0 c,f] w fun e w'=>e=.returned (.int .i64 (-1))∧w=w':=by
  go_enter Tryz.func144,Tryz.ntmps144
  go_wp2
  refine wp_loop_rounds 1 ?_
  rw [rounds_succ]
  go_wp2
  go_ret
  exact ⟨rfl,rfl⟩
theorem containsNoStr (A:Option Addr) (c:Nat) (f:Value) (w:World) :
    Calls Tryz.prog 101 #[.slice A 0 c,f] w fun e w'=>e=.returned (.bool false)∧w=w':=by
  go_enter Tryz.func101,Tryz.ntmps101
  go_wp2_with (go_at_call 144;refine (indexNoStr A c f _).mono ?_;rintro e w' ⟨rfl,rfl⟩)
  go_ret
  exact ⟨rfl,rfl⟩
theorem badPath0 (A:Option Addr) (c:Nat) (w:World) :
    Calls Tryz.prog 189 #[.slice A 0 c] w fun e w'=>e=.returned (.bool false)∧w=w':=by
  go_enter Tryz.func189,Tryz.ntmps189
  go_wp2_with (go_at_call 101;refine (containsNoStr A c _ _).mono ?_;rintro e w' ⟨rfl,rfl⟩)
  go_ret
  exact ⟨rfl,rfl⟩
theorem indexPaths0 (f:Value) (w:World) :
    Calls Tryz.prog 216 #[.slice none 0 0,f] w fun e w'=>e=.returned (.int .i64 (-1))∧w=w':=by
  go_enter Tryz.func216,Tryz.ntmps216
  go_wp2
  refine wp_loop_rounds 1 ?_
  rw [rounds_succ]
  go_wp2
  go_ret
  exact ⟨rfl,rfl⟩
theorem indexPaths1 (g k:Nat) (A:Option Addr) (c:Nat) (w:World) (hk:1≤k) (hg:w.cell? ⟨g,0,none⟩=some (.slice A 0 c)) :
    Calls Tryz.prog 216 #[.slice (some ⟨g,0,none⟩) 1 k,.func (.func 189) #[] #[]] w fun e w'=>e=.returned (.int .i64 (-1))∧w=w':=by
  go_enter Tryz.func216,Tryz.ntmps216
  go_wp2
  refine wp_loop_rounds 2 ?_
  rw [rounds_succ]
  go_wp2_with (go_at_call 189;refine (badPath0 A c _).mono ?_;rintro e w' ⟨rfl,rfl⟩)
  rw [rounds_succ]
  go_wp2
  go_ret
  exact ⟨rfl,rfl⟩
theorem containsPaths0 (f:Value) (w:World) :
    Calls Tryz.prog 188 #[.slice none 0 0,f] w fun e w'=>e=.returned (.bool false)∧w=w':=by
  go_enter Tryz.func188,Tryz.ntmps188
  go_wp2_with (go_at_call 216;refine (indexPaths0 f _).mono ?_;rintro e w' ⟨rfl,rfl⟩)
  go_ret
  exact ⟨rfl,rfl⟩
theorem containsPaths1 (g k:Nat) (A:Option Addr) (c:Nat) (w:World) (hk:1≤k) (hg:w.cell? ⟨g,0,none⟩=some (.slice A 0 c)) :
    Calls Tryz.prog 188 #[.slice (some ⟨g,0,none⟩) 1 k,.func (.func 189) #[] #[]] w fun e w'=>e=.returned (.bool false)∧w=w':=by
  go_enter Tryz.func188,Tryz.ntmps188
  go_wp2_with (go_at_call 216;refine (indexPaths1 g k A c _ hk hg).mono ?_;rintro e w' ⟨rfl,rfl⟩)
  go_ret
  exact ⟨rfl,rfl⟩
theorem fits0 (va:Array Value) (w:World) (h:RP0 w va) :
    Calls Tryz.prog 186 #[.agg va] w fun e w'=>e=.returned (.bool true)∧Below w.heap.size w w':=by
  obtain ⟨v8,rfl,h8⟩:=h
  obtain ⟨A,c,hv,_⟩:=id h8
  rw [sums_length] at hv
  subst hv
  obtain ⟨X,hX⟩:∃ X,X=w.alloc (.cells #[.int .i64 0,.int .i64 0,.int .i64 5,.int .i64 5,.int .i64 0,.int .i64 0,.slice none 0 0,.slice none 0 0,.slice A 16 c] 284):=⟨_,rfl⟩
  have HE:=Lib.hid (show Below w.heap.size w X by rw [hX];exact ext_new _ _)
  have HB:=Lib.hid (show Blk X w.heap.size 284 #[.int .i64 0,.int .i64 0,.int .i64 5,.int .i64 5,.int .i64 0,.int .i64 0,.slice none 0 0,.slice none 0 0,.slice A 16 c] by rw [hX];exact Blk.new _ _ _)
  have HX:=Lib.hid hX
  have H8:=Lib.hid (h8.below HE.out)
  have HS:=Lib.hid (fun x (hx:x ∈ sums false 16)=>show x.size≤64 by rw [sums_33 false 16 x hx];omega)
  clear hX h8
  have b0:=HB.out.cell 0;have b1:=HB.out.cell 1;have b2:=HB.out.cell 2;have b3:=HB.out.cell 3;have b4:=HB.out.cell 4;have b5:=HB.out.cell 5;have b6:=HB.out.cell 6;have b7:=HB.out.cell 7;have b8:=HB.out.cell 8
  go_enter Tryz.func186,Tryz.ntmps186
  go_wp2_with fail
  rw [← HX.out]
  refine (rowsOf0 A 16 c X).mono ?_
  rintro e W1 ⟨rfl,hb1⟩
  have HE1:=Lib.hid (ext_call HE.out hb1)
  have HB1:=Lib.hid (HB.out.ext hb1)
  have H81:=Lib.hid (H8.out.below hb1)
  clear hb1 b0 b1 b2 b3 b4 b5 b6 b7 b8
  have b0:=HB1.out.cell 0;have b1:=HB1.out.cell 1;have b2:=HB1.out.cell 2;have b3:=HB1.out.cell 3;have b4:=HB1.out.cell 4;have b5:=HB1.out.cell 5;have b6:=HB1.out.cell 6;have b7:=HB1.out.cell 7;have b8:=HB1.out.cell 8
  go_wp2_with fail
  refine (containsPaths0 _ W1).mono ?_
  rintro e w' ⟨rfl,hw'⟩
  subst w'
  go_wp2_with fail
  refine (containsLong _ _ (sums false 16) W1 H81.out (by rw [sums_length];omega) HS.out).mono ?_
  rintro e w' ⟨rfl,hw'⟩
  subst w'
  go_wp2
  go_ret
  exact ⟨rfl,HE1.out⟩
theorem fits1 (va:Array Value) (w:World) (h:RP1 w va) :
    Calls Tryz.prog 186 #[.agg va] w fun e w'=>e=.returned (.bool true)∧Below w.heap.size w w':=by
  obtain ⟨v6,v7,v8,rfl,h6,h7,h8⟩:=h
  obtain ⟨g1,k1,zs,rfl,hk1,h6⟩:=rows_one h6
  obtain ⟨g2,k2,A0,c0,ys,rfl,hk2,h7⟩:=h7
  obtain ⟨A,c,hv,_⟩:=id h8
  rw [sums_length] at hv
  subst hv
  obtain ⟨X,hX⟩:∃ X,X=w.alloc (.cells #[.int .i64 0,.int .i64 0,.int .i64 5,.int .i64 5,.int .i64 1,.int .i64 0,.slice (some ⟨g1,0,none⟩) 1 k1,.slice (some ⟨g2,0,none⟩) 1 k2,.slice A 16 c] 284):=⟨_,rfl⟩
  have HE:=Lib.hid (show Below w.heap.size w X by rw [hX];exact ext_new _ _)
  have HB:=Lib.hid (show Blk X w.heap.size 284 #[.int .i64 0,.int .i64 0,.int .i64 5,.int .i64 5,.int .i64 1,.int .i64 0,.slice (some ⟨g1,0,none⟩) 1 k1,.slice (some ⟨g2,0,none⟩) 1 k2,.slice A 16 c] by rw [hX];exact Blk.new _ _ _)
  have HX:=Lib.hid hX
  have H8:=Lib.hid (h8.below HE.out)
  have HS:=Lib.hid (fun x (hx:x ∈ sums true 16)=>show x.size≤64 by rw [sums_33 true 16 x hx];omega)
  have H6:=Lib.hid (h6.ext HE.out)
  have H7:=Lib.hid (h7.ext HE.out)
  clear h6 h7
  clear hX h8
  have b0:=HB.out.cell 0;have b1:=HB.out.cell 1;have b2:=HB.out.cell 2;have b3:=HB.out.cell 3;have b4:=HB.out.cell 4;have b5:=HB.out.cell 5;have b6:=HB.out.cell 6;have b7:=HB.out.cell 7;have b8:=HB.out.cell 8
  go_enter Tryz.func186,Tryz.ntmps186
  go_wp2_with fail
  rw [← HX.out]
  refine (rowsOf1 g1 k1 zs g2 k2 A 16 c X H6.out).mono ?_
  rintro e W1 ⟨v,rfl,hv,hb1⟩
  obtain ⟨g3,k3,_,rfl,_,_⟩:=rows_one hv
  clear hv
  have HE1:=Lib.hid (ext_call HE.out hb1)
  have HB1:=Lib.hid (HB.out.ext hb1)
  have H81:=Lib.hid (H8.out.below hb1)
  have p0:=(show HeadB W1 g2 #[.slice A0 0 c0] from .of2 (H7.out.ext hb1)).cell 0
  clear hb1 b0 b1 b2 b3 b4 b5 b6 b7 b8
  have b0:=HB1.out.cell 0;have b1:=HB1.out.cell 1;have b2:=HB1.out.cell 2;have b3:=HB1.out.cell 3;have b4:=HB1.out.cell 4;have b5:=HB1.out.cell 5;have b6:=HB1.out.cell 6;have b7:=HB1.out.cell 7;have b8:=HB1.out.cell 8
  go_wp2_with fail
  refine (containsPaths1 g2 k2 A0 c0 W1 hk2 p0).mono ?_
  rintro e w' ⟨rfl,hw'⟩
  subst w'
  clear p0
  go_wp2_with fail
  refine (containsLong _ _ (sums true 16) W1 H81.out (by rw [sums_length];omega) HS.out).mono ?_
  rintro e w' ⟨rfl,hw'⟩
  subst w'
  go_wp2
  go_ret
  exact ⟨rfl,HE1.out⟩
@[local go_sem] theorem st_func {a:Addr} {m:Mode} {P:Program} {w:World} (fn:Fn) (first captured:Array Value):(store a (.func fn first captured) m).run P w=stored P w a (.func fn first captured) m:=run_store P w a _ m rfl
def fitsFn (b:Nat):Value:=.func (.func 193) #[] #[.pointer (some ⟨b,0,none⟩)]
theorem RPx.lit9 {one:Bool} {W:World} {va:Array Value} (h:RPx one W va):∃ a0 a1 a2 a3 a4 a5 a6 a7 a8,va=#[a0,a1,a2,a3,a4,a5,a6,a7,a8]:=by
  cases one
  · obtain ⟨_,rfl,_⟩:=h;exact ⟨_,_,_,_,_,_,_,_,_,rfl⟩
  · obtain ⟨_,_,_,rfl,_⟩:=h;exact ⟨_,_,_,_,_,_,_,_,_,rfl⟩
theorem fits_any (one:Bool) (va:Array Value) (w:World) (h:RPx one w va):Calls Tryz.prog 186 #[.agg va] w fun e w'=>e=.returned (.bool true)∧Below w.heap.size w w':=by
  cases one
  · exact fits0 va w h
  · exact fits1 va w h
theorem notFits (one:Bool) (va:Array Value) (b:Nat) (w:World) (h:RPx one w va) (hb:Blk w b 288 #[.func (.func 186) #[] #[]]) :
    Calls Tryz.prog 193 #[.agg va,.pointer (some ⟨b,0,none⟩)] w fun e w'=>e=.returned (.bool false)∧Below w.heap.size w w':=by
  have HF:=Lib.hid (fun W (k:Below w.heap.size w W)=>fits_any one va W (h.ext k))
  obtain ⟨a0,a1,a2,a3,a4,a5,a6,a7,a8,rfl⟩:=h.lit9
  have b0:=hb.cell 0
  have bl:=hb.lt
  have HE:=Lib.hid (ext_new w (.cells #[a0,a1,a2,a3,a4,a5,a6,a7,a8] 284))
  clear h hb
  go_enter Tryz.func193,Tryz.ntmps193
  go_wp2_with fail
  refine (HF.out _ HE.out).mono ?_
  rintro e W1 ⟨rfl,hb1⟩
  have HE1:=Lib.hid (ext_call HE.out hb1)
  clear hb1
  go_wp2
  go_ret
  exact ⟨rfl,HE1.out⟩
theorem indexFits (one:Bool) (va zs:Array Value) (b g c:Nat) (hc:1≤c) (w:World) (h:RPx one w va) (hg:Blk w g 284 (va++zs)) (hb:Blk w b 288 #[.func (.func 186) #[] #[]]) :
    Calls Tryz.prog 217 #[.slice (some ⟨g,0,none⟩) 1 c,fitsFn b] w fun e w'=>e=.returned (.int .i64 (-1))∧Below w.heap.size w w':=by
  have HF:=Lib.hid (notFits one va b w h hb)
  obtain ⟨a0,a1,a2,a3,a4,a5,a6,a7,a8,rfl⟩:=h.lit9
  have hh:HeadB w g #[a0,a1,a2,a3,a4,a5,a6,a7,a8]:=.of2 hg
  have b0:=hh.cell 0
  have b1:=hh.cell 1
  have b2:=hh.cell 2
  have b3:=hh.cell 3
  have b4:=hh.cell 4
  have b5:=hh.cell 5
  have b6:=hh.cell 6
  have b7:=hh.cell 7
  have b8:=hh.cell 8
  clear h hg hb hh
  unfold fitsFn
  go_enter Tryz.func217,Tryz.ntmps217
  go_wp2
  refine wp_loop_rounds 2 ?_
  rw [rounds_succ]
  go_wp2_with fail
  refine HF.out.mono ?_
  rintro e W1 ⟨rfl,hb1⟩
  have HE1:=Lib.hid hb1
  clear hb1 b0 b1 b2 b3 b4 b5 b6 b7 b8
  go_wp2
  rw [rounds_succ]
  go_wp2
  go_ret
  exact ⟨rfl,HE1.out⟩
theorem containsFits (one:Bool) (va zs:Array Value) (b g c:Nat) (hc:1≤c) (w:World) (h:RPx one w va) (hg:Blk w g 284 (va++zs)) (hb:Blk w b 288 #[.func (.func 186) #[] #[]]) :
    Calls Tryz.prog 192 #[.slice (some ⟨g,0,none⟩) 1 c,fitsFn b] w fun e w'=>e=.returned (.bool false)∧Below w.heap.size w w':=by
  have HF:=Lib.hid (indexFits one va zs b g c hc w h hg hb)
  clear h hg hb
  unfold fitsFn at *
  go_enter Tryz.func192,Tryz.ntmps192
  go_wp2_with fail
  refine HF.out.mono ?_
  rintro e W1 ⟨rfl,hb1⟩
  have HE1:=Lib.hid hb1
  clear hb1
  go_wp2
  go_ret
  exact ⟨rfl,HE1.out⟩
theorem transportable_yes (one:Bool) (v:Value) (w:World) (h:RangesAt one w v) :
    Calls Tryz.prog 157 #[v] w fun e w'=>e=.returned (.bool true)∧Below w.heap.size w w':=by
  have hmf:∀ (fn:Fn) (first cap:Array Value) (w:World),(Instr.makeFunc fn first cap).run Tryz.prog w=.ok (.func fn first cap) w:=fun _ _ _ _=>rfl
  obtain ⟨g,c,va,zs,rfl,hc,hg,hv⟩:=h
  have HE:=Lib.hid (ext_new w (.cells #[.func (.func 186) #[] #[]] 288))
  have HC:=Lib.hid (containsFits one va zs w.heap.size g c hc _ (hv.ext HE.out) (hg.ext HE.out) (Blk.new _ _ _))
  unfold fitsFn at HC
  clear hg hv
  go_enter Tryz.func157,Tryz.ntmps157
  go_wp2_with (go_at_call 117;refine (mw_yes _ _ _ (by omega) (by omega) _).mono ?_;rintro e w' ⟨rfl,rfl⟩)
  go_wp2_with fail
  refine HC.out.mono ?_
  rintro e W1 ⟨rfl,hb1⟩
  have HE1:=Lib.hid (ext_call HE.out hb1)
  clear hb1
  go_wp2
  go_ret
  exact ⟨rfl,HE1.out⟩
end
section
open Go.RowKit Go.Shelf
theorem ints_cells (ns:List Nat) (cs:Array Value) (h:cs=(ns.map fun n:Nat=>Value.int .i64 (n:Int)).toArray) {W:World} {g:Nat} (hb:Blk W g 3 cs):Blk W g 3 (ns.map fun n:Nat=>Value.int .i64 (n:Int)).toArray:=h ▸ hb
theorem intsNew (B b n c:Nat) (ns:List Nat) (hns:∀ x ∈ ns,x<64) (hl:ns.length≤100) (hn:n≤90000) (w:World) (cs:Array Value) (hcs:cs=(ns.map fun n:Nat=>Value.int .i64 (n:Int)).toArray) (k:Nat) (hk:k=ns.length) (h:WrAt w B b n) :
    Calls Tryz.prog 196 #[.pointer (some ⟨b,0,none⟩),.slice (some ⟨w.heap.size,0,none⟩) k c] (w.alloc (.cells cs 3)) fun e w'=>e=.returned (.tuple #[])∧WrAt w' B b (n+k)∧WrKept B b w w':=by
  subst hk
  refine (intsW B b n w.heap.size c ns hns hl hn _ (h.ext (ext_new _ _)) (ints_cells ns cs hcs (Blk.new _ _ _))).mono ?_
  rintro e w' ⟨rfl,h1,h2⟩
  exact ⟨rfl,h1,(WrKept.of_ext (ext_new _ _) h.1).trans h2⟩
theorem intsAt (s:Nat) (w:World) (hs:s=w.heap.size) (B b n c:Nat) (ns:List Nat) (hns:∀ x ∈ ns,x<64) (hl:ns.length≤100) (hn:n≤90000) (cs:Array Value) (hcs:cs=(ns.map fun n:Nat=>Value.int .i64 (n:Int)).toArray) (k:Nat) (hk:k=ns.length) (h:WrAt w B b n) :
    Calls Tryz.prog 196 #[.pointer (some ⟨b,0,none⟩),.slice (some ⟨s,0,none⟩) k c] (w.alloc (.cells cs 3)) fun e w'=>e=.returned (.tuple #[])∧WrAt w' B b (n+k)∧WrKept B b w w':=by
  subst hs
  exact intsNew B b n c ns hns hl hn w cs hcs k hk h
theorem queryW (B b n:Nat) (hn:n≤90000) (w:World) (h:WrAt w B b n) :
    Calls Tryz.prog 195 #[.pointer (some ⟨b,0,none⟩),.agg #[.int .i64 1,.int .i64 0,.int .i64 0,.int .i64 5,.int .i64 5,.int .i64 0,.int .i64 0]] w fun e w'=>e=.returned (.tuple #[])∧WrAt w' B b (n+7)∧WrKept B b w w':=by
  obtain ⟨X,hX⟩:∃ X,X=w.alloc (.cells #[.int .i64 1,.int .i64 0,.int .i64 0,.int .i64 5,.int .i64 5,.int .i64 0,.int .i64 0] 74):=⟨_,rfl⟩
  have HX:=Lib.hid hX
  have HE:=Lib.hid (show Below w.heap.size w X by rw [hX];exact ext_new _ _)
  have HB:=Lib.hid (show Blk X w.heap.size 74 #[.int .i64 1,.int .i64 0,.int .i64 0,.int .i64 5,.int .i64 5,.int .i64 0,.int .i64 0] by rw [hX];exact Blk.new _ _ _)
  have H:=Lib.hid h
  clear hX h
  have q0:=HB.out.cell 0;have q1:=HB.out.cell 1;have q2:=HB.out.cell 2;have q3:=HB.out.cell 3;have q4:=HB.out.cell 4;have q5:=HB.out.cell 5;have q6:=HB.out.cell 6
  go_enter Tryz.func195,Tryz.ntmps195
  go_upto_region 1 with (fail)
  rw [← HX.out]
  go_wp2_with fail
  refine (intsNew B b n _ [1,0,0,5,5,0,0] (by decide) (by decide) hn X _ (by rfl) 7 rfl (H.out.ext HE.out)).mono ?_
  rintro e W1 ⟨rfl,h1,k1⟩
  have H1:=Lib.hid h1
  have K1:=Lib.hid ((WrKept.of_ext (b:=b) HE.out H.out.1).trans k1)
  clear h1 k1 q0 q1 q2 q3 q4 q5 q6
  go_wp2
  go_end0
  exact ⟨rfl,H1.out,K1.out⟩
theorem rowW (B b n:Nat) (hn:n≤90000) (w:World) (h:WrAt w B b n) :
    Calls Tryz.prog 219 #[.pointer (some ⟨b,0,none⟩),.agg #[.int .i64 0,.int .i64 5,.int .i64 1,.int .i64 2,.int .i64 3]] w fun e w'=>e=.returned (.tuple #[])∧WrAt w' B b (n+5)∧WrKept B b w w':=by
  obtain ⟨X,hX⟩:∃ X,X=w.alloc (.cells #[.int .i64 0,.int .i64 5,.int .i64 1,.int .i64 2,.int .i64 3] 108):=⟨_,rfl⟩
  have HX:=Lib.hid hX
  have HE:=Lib.hid (show Below w.heap.size w X by rw [hX];exact ext_new _ _)
  have HB:=Lib.hid (show Blk X w.heap.size 108 #[.int .i64 0,.int .i64 5,.int .i64 1,.int .i64 2,.int .i64 3] by rw [hX];exact Blk.new _ _ _)
  have H:=Lib.hid h
  clear hX h
  have q0:=HB.out.cell 0;have q1:=HB.out.cell 1;have q2:=HB.out.cell 2;have q3:=HB.out.cell 3;have q4:=HB.out.cell 4
  go_enter Tryz.func219,Tryz.ntmps219
  go_upto_region 1 with (fail)
  rw [← HX.out]
  go_wp2_with fail
  refine (intsNew B b n _ [0,5,1,2,3] (by decide) (by decide) hn X _ (by rfl) 5 rfl (H.out.ext HE.out)).mono ?_
  rintro e W1 ⟨rfl,h1,k1⟩
  have H1:=Lib.hid h1
  have K1:=Lib.hid ((WrKept.of_ext (b:=b) HE.out H.out.1).trans k1)
  clear h1 k1 q0 q1 q2 q3 q4
  go_wp2
  go_end0
  exact ⟨rfl,H1.out,K1.out⟩
def rowFn (b:Nat):Value:=.func (.func 219) #[.pointer (some ⟨b,0,none⟩)] #[]
theorem putRows0 (B b n:Nat) (hn:n≤90000) (w:World) (h:WrAt w B b n) :
    Calls Tryz.prog 218 #[.pointer (some ⟨b,0,none⟩),.slice none 0 0,rowFn b] w fun e w'=>e=.returned (.tuple #[])∧WrAt w' B b (n+1)∧WrKept B b w w':=by
  have H:=Lib.hid h
  clear h
  unfold rowFn
  go_enter Tryz.func218,Tryz.ntmps218
  go_wp2_with fail
  refine (intsNew B b n _ [0] (by decide) (by decide) hn w _ (by rfl) 1 rfl H.out).mono ?_
  rintro e W1 ⟨rfl,h1,k1⟩
  have H1:=Lib.hid h1
  have K1:=Lib.hid k1
  clear h1 k1
  go_wp2
  refine wp_loop_rounds 1 ?_
  rw [rounds_succ]
  go_wp2
  go_end0
  exact ⟨rfl,H1.out,K1.out⟩
theorem putRows1 (b n g c:Nat) (hn:n≤80000) (hc:1≤c) (zs:Array Value) (w0 w:World) (hE:Below w0.heap.size w0 w) (hg:Blk w0 g 108 (#[.int .i64 0,.int .i64 5,.int .i64 1,.int .i64 2,.int .i64 3]++zs)) (h:WrAt w w0.heap.size b n) :
    Calls Tryz.prog 218 #[.pointer (some ⟨b,0,none⟩),.slice (some ⟨g,0,none⟩) 1 c,rowFn b] w fun e w'=>e=.returned (.tuple #[])∧WrAt w' w0.heap.size b (n+1+5)∧WrKept w0.heap.size b w w':=by
  have H:=Lib.hid h
  have HG:=Lib.hid hg
  have HE:=Lib.hid hE
  clear h hg hE
  unfold rowFn
  go_enter Tryz.func218,Tryz.ntmps218
  go_wp2_with fail
  refine (intsNew w0.heap.size b n _ [1] (by decide) (by decide) (by omega) w _ (by rfl) 1 rfl H.out).mono ?_
  rintro e W1 ⟨rfl,h1,k1⟩
  have H1:=Lib.hid h1
  have K1:=Lib.hid k1
  have hg1:=HG.out.ext (HE.out.trans k1.1)
  have hh:HeadB W1 g #[.int .i64 0,.int .i64 5,.int .i64 1,.int .i64 2,.int .i64 3]:=.of2 hg1
  have q0:=hh.cell 0
  have q1:=hh.cell 1
  have q2:=hh.cell 2
  have q3:=hh.cell 3
  have q4:=hh.cell 4
  clear h1 k1 hg1 hh
  go_wp2
  refine wp_loop_rounds 2 ?_
  rw [rounds_succ]
  go_wp2_with fail
  refine (rowW w0.heap.size b (n+1) (by omega) _ (H1.out.ext (ext_new _ _))).mono ?_
  rintro e W2 ⟨rfl,h2,k2⟩
  have H2:=Lib.hid h2
  have K2:=Lib.hid ((K1.out.ext (ext_new _ _) H.out.1).trans k2)
  clear h2 k2 q0 q1 q2 q3 q4
  go_wp2
  rw [rounds_succ]
  go_wp2
  go_end0
  exact ⟨rfl,H2.out,K2.out⟩
theorem putStrs0 (B b n:Nat) (hn:n≤90000) (A:Option Addr) (c:Nat) (f:Value) (w:World) (h:WrAt w B b n) :
    Calls Tryz.prog 237 #[.pointer (some ⟨b,0,none⟩),.slice A 0 c,f] w fun e w'=>e=.returned (.tuple #[])∧WrAt w' B b (n+1)∧WrKept B b w w':=by
  have H:=Lib.hid h
  clear h
  go_enter Tryz.func237,Tryz.ntmps237
  go_wp2_with fail
  refine (intsNew B b n _ [0] (by decide) (by decide) hn w _ (by rfl) 1 rfl H.out).mono ?_
  rintro e W1 ⟨rfl,h1,k1⟩
  have H1:=Lib.hid h1
  have K1:=Lib.hid k1
  clear h1 k1
  go_wp2
  refine wp_loop_rounds 1 ?_
  rw [rounds_succ]
  go_wp2
  go_end0
  exact ⟨rfl,H1.out,K1.out⟩
theorem path0W (B b n:Nat) (hn:n≤90000) (A:Option Addr) (c:Nat) (w:World) (h:WrAt w B b n) :
    Calls Tryz.prog 220 #[.pointer (some ⟨b,0,none⟩),.slice A 0 c] w fun e w'=>e=.returned (.tuple #[])∧WrAt w' B b (n+1)∧WrKept B b w w':=by
  have hmf:∀ (fn:Fn) (first cap:Array Value) (w:World),(Instr.makeFunc fn first cap).run Tryz.prog w=.ok (.func fn first cap) w:=fun _ _ _ _=>rfl
  have H:=Lib.hid h
  clear h
  go_enter Tryz.func220,Tryz.ntmps220
  go_wp2_with fail
  refine (putStrs0 B b n hn A c _ _ (H.out.ext (ext_new _ _))).mono ?_
  rintro e W1 ⟨rfl,h1,k1⟩
  have H1:=Lib.hid h1
  have K1:=Lib.hid ((WrKept.of_ext (b:=b) (ext_new _ _) H.out.1).trans k1)
  clear h1 k1
  go_wp2
  go_end0
  exact ⟨rfl,H1.out,K1.out⟩
end
end Go.Proofs.YtnajpjnnlocfgaaGreatDoor
