/-
  Part 4 of 54: the contracts that the proof of the last part uses; each stands under its own head.
-/
import Derived.Test.YtimoapjhepmehaaGreatDoorP2
import Derived.Test.YtimoapjhepmehaaGreatDoorP3
import Derived.Deep.RegionLaw
import Derived.Deep.RegionHeld3
set_option linter.unusedSimpArgs false
set_option linter.unusedVariables false
set_option maxHeartbeats 4000000
set_option maxRecDepth 100000
namespace Go.Proofs.YtimoapjhepmehaaGreatDoor
section
open Go.RowKit Go.Shelf
theorem chunk_any (b len cap:Nat) (w:World) :
    Calls Tryz.prog 132 #[.slice (some ⟨b,0,none⟩) len cap,.int .i64 64] w fun e w'=>
      e=.returned (.func (.func 182) #[] #[.pointer (some ⟨w.heap.size,0,none⟩),.pointer (some ⟨w.heap.size+1,0,none⟩)]) ∧
      (w.alloc (.cells #[.slice (some ⟨b,0,none⟩) len cap] 213)).alloc (.cells #[.int .i64 64] 3)=w':=by
  have hmf:∀ (fn:Fn) (first cap:Array Value) (w:World),(Instr.makeFunc fn first cap).run Tryz.prog w=.ok (.func fn first cap) w:=fun _ _ _ _=>rfl
  go_enter Tryz.func132,Tryz.ntmps132
  go_wp2
  go_ret
  exact ⟨rfl,rfl⟩
theorem wpListIn_append_m {F:Fence} {n:Nat} {P:Program} {w:World} {ops:Array Oper} {rest:List Oper} {o:Oper} {a:Act} {Q:Exit→Act→World→Prop} (hgd:o.guard=none) (s x:Operand) (t:TypeId)
    (hop:o.op=.call { callee:=.builtin .append,args:=#[s,x],argTypes:=#[t,t] })
    (base:Nat) (e:TypeId) (i:TypeInfo) (z:Value) (bytes:Nat) (ht:P.underlying t=some (.slice e)) (hi:P.info? e=some i) (hz:i.zero=some z)
    (hsize:i.size=1) (hby:i.bytes=bytes) (hzs:z.cells.size=1)
    (v:Value) (xs:List Value) (hs:a.eval s=v) (hown:OwnC w base v xs) (ad:Addr) (c:Nat) (xv:Value) (hx:a.eval x=.slice (some ad) 1 c) (hc:w.cell? ad=some xv) (h1:xv.oneCell'=true)
    (m:Nat) (hm:xs.length+1=m) (h63:m≤maxLen) (hbytes:m*bytes≤140737488355328) (hbase:base≤w.heap.size)
    (h:∀ g cap w',OwnC w' base (.slice (some ⟨g,0,none⟩) m cap) (xs++[xv])→w.grownBy w' v.ownBlock→wpListIn F n P ops Q rest (a.put o.dst (.slice (some ⟨g,0,none⟩) m cap)) w'):wpListIn F n P ops Q (o::rest) a w:=by
  subst hm
  refine wpListIn_append_c hgd s x t hop base e i z bytes ht hi hz hsize hby hzs v xs hs hown ad c xv hx hc h1 h63 hbytes hbase fun v' w' ho hg=>?_
  have ho':=ho
  obtain ⟨g,cap,rfl,_⟩:=ho
  simp only [List.length_append,List.length_cons,List.length_nil,Nat.zero_add] at ho' ⊢
  exact h g cap w' ho' hg
theorem wpListIn_bytes {F:Fence} {n:Nat} {P:Program} {w:World} {ops:Array Oper} {rest:List Oper} {o:Oper} {a:Act} {Q:Exit→Act→World→Prop} (hgd:o.guard=none) (x:Operand) (src dst e:TypeId)
    (hop:o.op=.convert src dst x) (s:ByteArray) (hx:a.eval x=.string s) {u:TypeDesc} (hs:P.underlying src=some u) (hd:P.underlying dst=some (.slice e)) (he:P.underlying e=some (.int .u8)) (hsz:s.size≤maxLen)
    (h:∀ g cap W',OwnC W' w.heap.size (.slice (some ⟨g,0,none⟩) s.size cap) (s.data.toList.map fun b=>Value.int .u8 b.toNat)→Below w.heap.size w W'→wpListIn F n P ops Q rest (a.put o.dst (.slice (some ⟨g,0,none⟩) s.size cap)) W'):wpListIn F n P ops Q (o::rest) a w:=by
  refine wpListIn_plain hgd fun K hK'=>?_
  have hrun:=Lib.run_convert_string_bytes (P:=P) w src dst e s hs hd he
  unfold Oper.wpIn
  refine ⟨?_,?_⟩
  · simp [Oper.about,hop]
  · rw [Oper.semAt_plain F _ _ (by rw [hop];intro c hc';cases hc')]
    simp [execOp,hop,hx,hrun,Result.andThen]
    exact hK' _ _ (h _ _ _ (ownC_bytes w e s hsz) (below_bytes w e s))
theorem u8_info:(Tryz.prog.info? 5).map (fun i=>(i.zero,i.size,i.bytes))=some (some (.int .u8 0),1,1):=by kernel_rfl
attribute [local go_sem] Oper.semAt_some
def v0:V8:=⟨1779033703,3144134277,1013904242,2773480762,1359893119,2600822924,528734635,1541459225⟩
def zerosN (n:Nat):Nat:=(119-n % 64) % 64
def byteList (s:ByteArray):List Int:=s.data.toList.map fun b=>(b.toNat:Int)
def padTo (s:ByteArray) (k:Nat):List Int:=byteList s++[128]++List.replicate k 0
theorem padTo_succ (s:ByteArray) (k:Nat):padTo s (k+1)=padTo s k++[0]:=by unfold padTo;rw [List.replicate_succ'];simp
theorem byteList_length (s:ByteArray):(byteList s).length=s.size:=by unfold byteList;simp
theorem padTo_length (s:ByteArray) (k:Nat):(padTo s k).length=s.size+1+k:=by unfold padTo;simp [byteList_length];omega
def cellsU8 (l:List Int):List Value:=l.map (Value.int .u8)
theorem cellsU8_length (l:List Int):(cellsU8 l).length=l.length:=by simp [cellsU8]
theorem cellsU8_snoc (l:List Int) (x:Int):cellsU8 l++[.int .u8 x]=cellsU8 (l++[x]):=by simp [cellsU8]
theorem ownC_conv {w W:World} {o:Obj} {v:Value} {s:ByteArray} (h:OwnC W (w.alloc o).heap.size v (s.data.toList.map fun b=>Value.int .u8 b.toNat)):OwnC W (w.heap.size+1) v (cellsU8 (byteList s)):=by
  have e:cellsU8 (byteList s)=(s.data.toList.map fun b=>Value.int .u8 b.toNat):=by simp [cellsU8,byteList]
  rw [e]
  simpa using h
theorem cell_new1 (w:World) (x:Value) (t:TypeId):(w.alloc (.cells #[x] t)).cell? ⟨w.heap.size,0,none⟩=some x:=(Blk.new w t #[x]).cell 0
theorem below_conv {w W:World} {o:Obj} (h:Below (w.alloc o).heap.size (w.alloc o) W):Below w.heap.size w W:=((Below.refl _ _).alloc (Nat.le_refl _) o).trans (h.mono (by simp))
theorem size_conv {w W:World} {o:Obj} (h:Below (w.alloc o).heap.size (w.alloc o) W):w.heap.size+1≤W.heap.size:=by have:=h.size;simpa using this
theorem blk_conv {w W:World} {t:TypeId} {cs:Array Value} (h:Below (w.alloc (.cells cs t)).heap.size (w.alloc (.cells cs t)) W):Blk W w.heap.size t cs:=(Blk.new w t cs).below h (by simp)
def St (w wr:World) (v:Value) (l:List Int):Prop:=OwnC wr (w.heap.size+1) v (cellsU8 l)∧Blk wr w.heap.size 231 v0.cells∧Below w.heap.size w wr
theorem St.step {w W W':World} {v v':Value} {l:List Int} {x:Int} {o:Obj} (h:St w W v l) (ho:OwnC W' (w.heap.size+1) v' (cellsU8 l++[.int .u8 x])) (hg:(W.alloc o).grownBy W' v.ownBlock):St w W' v' (l++[x]):=by
  obtain ⟨h1,h2,h3⟩:=h
  obtain ⟨g,cap,rfl,hb,hlt,_⟩:=h1
  refine ⟨by rw [← cellsU8_snoc];exact ho,(h2.alloc o).grown hg (fun e=>?_),(h3.alloc h3.size o).grown hg ?_ (fun k e=>?_)⟩
  · injection e with e;dsimp only at e;omega
  · simp;have:=h3.size;omega
  · injection e with e;dsimp only at e;omega
def lenV:Value→Nat
  | .slice _ n _=>n
  | _=>0
def lenByte (n m:Nat):Int:=8*(n:Int) / 2 ^ (8*(7-m)) % 256
def lenBytes (n m:Nat):List Int:=(List.range m).map (lenByte n)
theorem lenBytes_succ (n m:Nat):lenBytes n (m+1)=lenBytes n m++[lenByte n m]:=by simp [lenBytes,List.range_succ]
def chunkOf (pl:List Int) (k:Nat):List Int:=(pl.drop (64*k)).take 64
def hashTo (pl:List Int) {N:Nat} (pre:List { k:Nat // k<N }):V8:=pre.foldl (fun v x=>blockF v (chunkOf pl x.1)) v0
theorem hashTo_snoc (pl:List Int) {N:Nat} (pre:List { k:Nat // k<N }) (x:{ k:Nat // k<N }):hashTo pl (pre++[x])=blockF (hashTo pl pre) (chunkOf pl x.1):=by simp [hashTo]
theorem chunkOf_get (pl:List Int) (k j:Nat) (hj:j<64) (h:64*k+j<pl.length):(cellsU8 pl)[64*k+j]? = some (.int .u8 ((chunkOf pl k).getD j 0)):=by
  unfold cellsU8 chunkOf
  rw [List.getElem?_map,List.getElem?_eq_getElem h]
  simp [hj,h]
def padded (s:ByteArray):List Int:=padTo s (zerosN s.size)++lenBytes s.size 8
def sumF (s:ByteArray):ByteArray:=digF (hashTo (padded s) (ups ((padded s).length / 64) ((padded s).length / 64)))
theorem sumF_size (s:ByteArray):(sumF s).size=32:=digF_size _
def SumI (w:World) (B0 g':Nat) (pl:List Int) {N:Nat} (pre:List { k:Nat // k<N }) (W:World):Prop:=
  (Blk W w.heap.size 231 (hashTo pl pre).cells∧RoundOK W∧∀ j u,(cellsU8 pl)[j]? = some u→W.cell? ⟨g',j,none⟩=some u)∧Below w.heap.size w W∧B0≤W.heap.size
theorem SumI.own (w:World) (B0 g':Nat) (pl:List Int) (N B:Nat) (hB:w.heap.size≤B):OwnFrom B (fun (pre:List { k:Nat // k<N }) W=>SumI w B0 g' pl pre W):=
  OwnFrom.and (Own.from (fun _ A B row hs hg hr=>⟨(hg.block _ hs.1.lt (fun e=>by
      obtain ⟨o,ho,hc⟩:=hr _ e.symm
      have h1:=hs.1
      unfold Blk at h1
      rw [h1] at ho
      cases ho
      cases hc)).trans hs.1,fun j v hv=>cell_kept (hs.2.1 j v hv) hg hr,fun j u hu=>cell_kept (hs.2.2 j u hu) hg hr⟩) _) (OwnFrom.and (ownFrom_below (Nat.le_refl _) hB) (fun _ _ _ _ hs hg _=>Nat.le_trans hs hg.size))
theorem sum_in (n:Nat) (hn:3≤n) (s:ByteArray) (w:World) (hs:s.size≤1000000) (hR:RoundOK w) :
    CallsIn Fence.wide n Tryz.prog 78 #[.string s] w fun e w'=>e=.returned (.string (sumF s))∧Below w.heap.size w w':=by
  obtain ⟨i0,hi,hz0,hz1,hz2⟩:=info_parts u8_info
  refine callsIn_of_wp_marks Tryz.func78 rfl trivial ?_ rfl
  simp only [Tryz.ntmps78,List.size_toArray,List.length_cons,List.length_nil,Nat.reduceAdd,Nat.reduceSub,Array.replicate_succ,Array.replicate_zero,List.push_toArray,List.append_toArray,List.nil_append,List.cons_append]
  have HR:=Lib.hid hR
  have hr1:=hR.lt
  clear hR
  gi_wp2_with (first
    | (refine wpListIn_bytes rfl (.tmp 8) 9 213 5 rfl s rfl Tryz.underlying9 Tryz.underlying213 Tryz.underlying5 (by unfold maxLen;omega) ?_;intro g1 cap1 W1 ho1 hb1;have HO1:=Lib.hid (ownC_conv ho1);have HB1:=Lib.hid (below_conv hb1);have HH1:=Lib.hid (show Blk W1 w.heap.size _ v0.cells from blk_conv hb1);have hz1':=size_conv hb1;clear ho1 hb1)
    | (gi_at_builtin;refine wpListIn_append_m rfl (.tmp 9) (.tmp 10) 213 rfl (w.heap.size+1) 5 i0 (.int .u8 0) 1 Tryz.underlying213 hi hz0 hz1 hz2 rfl (.slice (some ⟨g1,0,none⟩) s.size cap1) (cellsU8 (byteList s)) rfl (HO1.out.alloc _) ⟨W1.heap.size,0,none⟩ 1 (.int .u8 128) rfl (cell_new1 _ _ _) rfl (s.size+1) ?_ ?_ ?_ ?_ ?_;(rw [cellsU8_length,byteList_length]);(unfold maxLen;omega);omega;(rw [World.size_alloc];omega);intro g2 cap2 W2 ho2 hg2;have HO2:=Lib.hid ho2;have HG2:=Lib.hid hg2;clear ho2 hg2))
  have hS0:St w W2 (.slice (some ⟨g2,0,none⟩) (s.size+1) cap2) (padTo s 0):=by
    have h:=St.step (x:=128) ⟨HO1.out,HH1.out,HB1.out⟩ HO2.out HG2.out
    simpa [padTo] using h
  clear HO1 HH1 HB1 HO2 HG2 hz1'
  gi_loopw [4] (fun v wr=>∃ k g cap:Nat,k≤zerosN s.size∧v=.slice (some ⟨g,0,none⟩) (s.size+1+k) cap∧St w wr v (padTo s k)) (fun v _=>s.size+1+zerosN s.size-lenV v)
  case atStart=>exact ⟨0,_,_,Nat.zero_le _,rfl,hS0⟩
  case round =>
    clear hS0
    obtain ⟨k,g,cap,hk,rfl,hS⟩:=hrel
    have HS:=Lib.hid hS
    have hzr:=hS.2.2.size
    clear hS
    have hzd:zerosN s.size=(119-s.size % 64) % 64:=rfl
    by_cases hlt:k<zerosN s.size
    · have ht:(((s.size:Int)+1+(k:Int)) % 64 != 56)=true:=by rw [bne_iff_ne];omega
      clear hzd
      gi_wp2_with (gi_at_builtin;refine wpListIn_append_m rfl (.tmp 16) (.tmp 17) 213 rfl (w.heap.size+1) 5 i0 (.int .u8 0) 1 Tryz.underlying213 hi hz0 hz1 hz2 rfl (.slice (some ⟨g,0,none⟩) (s.size+1+k) cap) (cellsU8 (padTo s k)) rfl (HS.out.1.alloc _) ⟨wr.heap.size,0,none⟩ 1 (.int .u8 0) rfl (cell_new1 _ _ _) rfl (s.size+1+(k+1)) ?_ ?_ ?_ ?_ ?_;(rw [cellsU8_length,padTo_length];omega);(unfold maxLen;unfold zerosN at hlt;omega);(unfold zerosN at hlt;omega);(rw [World.size_alloc];have:=HS.out.1;obtain ⟨_,_,_,_,h5,_⟩:=this;omega);intro g2 cap2 W2 ho2 hg2;have HO2:=Lib.hid ho2;have HG2:=Lib.hid hg2;clear ho2 hg2)
      go_roundw
      case rel=>exact ⟨k+1,g2,cap2,by omega,rfl,by rw [padTo_succ];exact St.step HS.out HO2.out HG2.out⟩
      case measure=>simp [lenV];omega
    · have HK := Lib.hid (show k = zerosN s.size by omega)
      have ht:(((s.size:Int)+1+(k:Int)) % 64 != 56)=false:=by
        have:=HK.out
        simp only [bne_eq_false_iff_eq]
        omega
      have hk64:k<64:=by have:=HK.out;omega
      have hmod:(s.size+1+k) % 64=56:=by have:=HK.out;omega
      have HMOD:=Lib.hid hmod
      clear hmod hlt hk hzd
      gi_wp2
      gi_loopw [4,5] (fun v i wr=>∃ m g cap:Nat,m≤8∧i=.int .i64 (7-(m:Int))∧v=.slice (some ⟨g,0,none⟩) (s.size+1+k+m) cap∧St w wr v (padTo s k++lenBytes s.size m)) (fun v _ _=>s.size+1+k+8-lenV v)
      case atStart=>exact ⟨0,_,_,by omega,rfl,rfl,by simpa [lenBytes] using HS.out⟩
      case round=>
        clear HS hzr
        obtain ⟨m,g',cap',hm,rfl,rfl,hS⟩:=hrel
        have HS:=Lib.hid hS
        have hzr:=hS.2.2.size
        clear hS
        by_cases hlt:m<8
        · have q0:(0:Int)≤7-(m:Int):=by omega
          have q1:(m:Int)≤7:=by omega
          gi_wp2_with (gi_at_builtin;refine wpListIn_append_m rfl (.tmp 23) (.tmp 31) 213 rfl (w.heap.size+1) 5 i0 (.int .u8 0) 1 Tryz.underlying213 hi hz0 hz1 hz2 rfl (.slice (some ⟨g',0,none⟩) (s.size+1+k+m) cap') (cellsU8 (padTo s k++lenBytes s.size m)) rfl (HS.out.1.alloc _) ⟨wr.heap.size,0,none⟩ 1 (.int .u8 (lenByte s.size m)) rfl (cell_new1 _ _ _) rfl (s.size+1+k+(m+1)) ?_ ?_ ?_ ?_ ?_;(rw [cellsU8_length,List.length_append,padTo_length];simp [lenBytes];omega);(unfold maxLen;omega);omega;(rw [World.size_alloc];have:=HS.out.1;obtain ⟨_,_,_,_,h5,_⟩:=this;omega);intro g3 cap3 W3 ho3 hg3;have HO3:=Lib.hid ho3;have HG3:=Lib.hid hg3;clear ho3 hg3)
          go_roundw
          case rel=>exact ⟨m+1,g3,cap3,by omega,by go_num,rfl,by rw [lenBytes_succ,← List.append_assoc];exact St.step HS.out HO3.out HG3.out⟩
          case measure=>simp [lenV];omega
        · have HM:=Lib.hid (show m=8 by omega)
          obtain ⟨N,hN⟩:∃ N,s.size+1+k+m=64*N:=⟨(s.size+1+k+m) / 64,by have:=HM.out;have:=HMOD.out;omega⟩
          have hN6:N≤100000:=by have:=HM.out;omega
          rw [hN] at HS ⊢
          have q0:¬ (0:Int)≤7-(m:Int):=by omega
          have q2:decide ((m:Int)≤7)=false:=by simp;omega
          gi_wp2_with fail
          refine ⟨trivial,fun _=>Nat.le_trans (by omega) hn,(callsIn_wide.2 (chunk_any _ _ _ _)).mono ?_⟩
          rintro e w' ⟨rfl,rfl⟩
          gi_wp2_with fail
          obtain ⟨pl,hpl⟩:∃ pl,pl=padTo s k++lenBytes s.size m:=⟨_,rfl⟩
          rw [← hpl] at HS
          have hpll:pl.length=64*N:=by rw [hpl,List.length_append,padTo_length];simp [lenBytes];omega
          obtain ⟨⟨g'',cap'',hgeq,hgb,hglt,hgle,_,hgc,_⟩,hBh,hbw⟩:=HS.out
          injection hgeq with e1 e2 e3
          injection e1 with e1
          injection e1 with e1
          subst e1;subst e3
          clear e2
          have hcap':64*N≤cap':=by rw [← hpll,← cellsU8_length];exact hgle
          have HPL:=Lib.hid hpl
          have HPLL:=Lib.hid hpll
          have HGC:=Lib.hid hgc
          clear hpl hpll hgc
          have hI0:SumI w (wr.heap.size+2) g' pl ([]:List { k:Nat // k<N }) ((wr.alloc (.cells #[.slice (some ⟨g',0,none⟩) (64*N) cap'] 213)).alloc (.cells #[.int .i64 64] 3)):=
            ⟨⟨(hBh.alloc _).alloc _,HR.out.below (((hbw.alloc hbw.size _)).alloc (by simp;omega) _),fun j u hu=>cell_al (cell_al (HGC.out j u hu) _) _⟩,((hbw.alloc hbw.size _)).alloc (by simp;omega) _,by simp⟩
          refine wpIn_rangeFunc_ownF rfl (Nat.le_trans (by omega) hn) (gf:=182) (lb:=#[.pointer (some ⟨wr.heap.size,0,none⟩),.pointer (some ⟨wr.heap.size+1,0,none⟩)]) rfl trivial (enters_of Tryz.func182 (by kernel_rfl) rfl)
            (chunk_stops (n-1) (by omega) wr.heap.size (wr.heap.size+1) (wr.heap.size+2) g' N cap' w.heap.size hcap' (by omega) (by omega) (by omega) (by omega) (by omega) _ (by simp) (cell_al (cell_new1 _ _ _) _) (by have h:=cell_new1 (wr.alloc (.cells #[.slice (some ⟨g',0,none⟩) (64*N) cap'] 213)) (.int .i64 64) 3;rw [World.size_alloc] at h;exact h))
            (fun h k=>KeptB.trans h k) (fun W l o o' hl h _ _ b hb1 _=>World.putObj_heap_other (fun e=>by subst e;simp at hl;omega)) (Below.refl _ _) (fun _=>rfl)
            (fun pre W=>SumI w (wr.heap.size+2) g' pl pre W) (fun _ _ _=>False) (SumI.own w (wr.heap.size+2) g' pl N _ (by simp;omega)) (fun _ _ _ _ _ hs _ _=>hs) hI0
            (fun x=>{ tmps:=#[.string s,undef,.string { data:=#[] },.pointer (some ⟨w.heap.size,0,none⟩),.slice (some ⟨g',0,none⟩) (64*N) cap',.int .i64 (7-(m:Int)),.slice (some ⟨g',64*x.1,none⟩) 64 64,.agg #[.int .u32 1779033703,.int .u32 3144134277,.int .u32 1013904242,.int .u32 2773480762,.int .u32 1359893119,.int .u32 2600822924,.int .u32 528734635,.int .u32 1541459225],.string s,.slice (some ⟨g1,0,none⟩) s.size cap1,.slice (some ⟨W1.heap.size,0,none⟩) 1 1,.slice (some ⟨g2,0,none⟩) (s.size+1) cap2,.slice (some ⟨g,0,none⟩) (s.size+1+k) cap,.int .i64 ((s.size:Int)+1+(k:Int)),.int .i64 (((s.size:Int)+1+(k:Int)) % 64),.bool false,u16,u17,u18,.int .i64 (7-(m:Int)),.bool false,u21,u22,u23,u24,u25,u26,u27,u28,u29,u30,u31,u32,.slice (some ⟨g',0,none⟩) (64*N) cap',.func (.func 182) #[] #[.pointer (some ⟨wr.heap.size,0,none⟩),.pointer (some ⟨wr.heap.size+1,0,none⟩)],.slice (some ⟨g',64*x.1,none⟩) 64 64,undef,undef,undef,undef],defers:=[] }) ?assign ?body ?done ?stop
          case assign=>
            intro l x W K hK
            gi_wp2
            exact hK
          case body=>
            rintro l pre x W ⟨⟨hB,hRo,hc⟩,hb,hsz⟩ hlen
            have hd:1≤n-1-1:=by omega
            have HHC:=Lib.hid (show ∀ j,j<64→W.cell? ⟨g',64*x.1+j,none⟩=some (.int .u8 ((chunkOf pl x.1).getD j 0)) from fun j hj=>hc _ _ (chunkOf_get pl x.1 j hj (by rw [HPLL.out];have:=x.2;omega)))
            have hgw:g'<W.heap.size:=lt_of_cell (HHC.out 0 (by omega))
            have HB:=Lib.hid hB
            have HRo:=Lib.hid hRo
            have HC:=Lib.hid hc
            have HBe:=Lib.hid hb
            clear hB hRo hc hb
            gi_wp2_with fail
            refine ⟨trivial,(CallsIn.inRound l (callsIn_wide.2 (add_any w.heap.size g' (64*x.1) 64 (hashTo pl pre) (chunkOf pl x.1) W hgw HRo.out HB.out HHC.out))).mono ?_⟩
            rintro e W' ⟨rfl,hB',hg'⟩
            gi_wp2
            refine ⟨KeepsOthers.of_grownBy hg' (fun j o e ho=>?_),fun b hb1 hb2=>hg'.block b (by omega) (fun e=>by injection e with e;exact hb2 e),⟨?_,?_,?_⟩,HBe.out.grown hg' HBe.out.size (fun k e=>by injection e with e;omega),Nat.le_trans hsz hg'.size⟩
            · injection e with e
              subst e
              have h1:=HB.out
              unfold Blk at h1
              rw [h1] at ho
              cases ho
              rfl
            · rw [hashTo_snoc];exact hB'
            · exact HRo.out.keep (fun p hp=>World.cell?_of_block (hg'.block p.block (by rw [hp];exact HRo.out.lt) (fun e=>by injection e with e;omega)))
            · exact fun j u hu=>hg'.cell (HC.out j u hu) (fun e=>by injection e with e;dsimp only at e;omega)
          case done=>
            rintro D ys W hD rfl ⟨⟨hB,hRo,hc⟩,hb,hsz⟩ hK
            generalize hvs:hashTo pl (ups N N)=vs at *
            have HVS:=Lib.hid hvs
            clear hvs hc
            have c0:W.cell? ⟨w.heap.size,0,none⟩=some (.int .u32 vs.a):=hB.cell 0
            have c1:W.cell? ⟨w.heap.size,1,none⟩=some (.int .u32 vs.b):=hB.cell 1
            have c2:W.cell? ⟨w.heap.size,2,none⟩=some (.int .u32 vs.c):=hB.cell 2
            have c3:W.cell? ⟨w.heap.size,3,none⟩=some (.int .u32 vs.d):=hB.cell 3
            have c4:W.cell? ⟨w.heap.size,4,none⟩=some (.int .u32 vs.e):=hB.cell 4
            have c5:W.cell? ⟨w.heap.size,5,none⟩=some (.int .u32 vs.f):=hB.cell 5
            have c6:W.cell? ⟨w.heap.size,6,none⟩=some (.int .u32 vs.g):=hB.cell 6
            have c7:W.cell? ⟨w.heap.size,7,none⟩=some (.int .u32 vs.h):=hB.cell 7
            gi_wp2_with fail
            refine ⟨trivial,fun _=>Nat.le_trans (by omega) hn,(callsIn_wide.2 (wdigest_any vs _)).mono ?_⟩
            rintro e W' ⟨rfl,hb'⟩
            gi_wp2_with fail
            have hK':W'.heap[D]? = some (.deferred (some [])):=(hb'.block D (Array.getElem?_eq_some_iff.1 hK).1).trans hK
            have hfin:digF vs=sumF s:=by
              have e1:pl=padded s:=by rw [HPL.out,HK.out,HM.out];rfl
              have e2:N=(padded s).length / 64:=by rw [← e1,HPLL.out];omega
              unfold sumF
              rw [← HVS.out,← e1]
              subst e2
              rw [e1]
            refine ⟨by simp,.inl ⟨_,_,rfl,run_takeDeferred hK',?_⟩⟩
            refine ⟨_,results_tmp rfl _ _ _,by rw [← hfin];rfl,?_⟩
            have hbb:=hb.trans (hb'.mono hb.size)
            exact hbb.grown (grownBy_putObj' W' D _) hbb.size (fun k e=>by injection e with e;simp at hD;omega)
          case stop=>
            rintro D c pre W _ _ h _
            exact h.elim
theorem sum_any (s:ByteArray) (w:World) (hs:s.size≤1000000) (hR:RoundOK w) :
    Calls Tryz.prog 78 #[.string s] w fun e w'=>e=.returned (.string (sumF s))∧Below w.heap.size w w':=
  callsIn_wide.1 (sum_in 3 (Nat.le_refl _) s w hs hR)
end
section
open Go.RowKit
attribute [local go_sem ↓] Go.wp_at_zero Go.wp_at_succ
def catB (xs:List ByteArray):ByteArray:=⟨(Lib.join (xs.map (·.data.toList)) []).toArray⟩
theorem keepM {w W W':World} {p:Addr} {v:Value} (h:W.cell? p=some v∧RoundOK W∧Below w.heap.size w W) (hb:Below W.heap.size W W'):W'.cell? p=some v∧RoundOK W'∧Below w.heap.size w W':=
  ⟨(hb.cell (lt_of_cell h.1)).trans h.1,h.2.1.below hb,h.2.2.trans (hb.mono h.2.2.size)⟩
theorem marked1_any (bk bm c:Nat) (xs:List ByteArray) (mark j:ByteArray) (w:World) (hR:RoundOK w) (hm:w.cell? ⟨bm,0,none⟩=some (.string mark))
    (hc:∀ (i:Nat) x,xs[i]? = some x→w.cell? ⟨bk,0+i,none⟩=some (.string x)) (hbk:bk<w.heap.size) (hn:xs.length≤10) (hcap:xs.length≤c) (hj:catB xs=j) (hjs:j.size≤500000) (hms:mark.size≤1) :
    Calls Tryz.prog 180 #[.slice (some ⟨bk,0,none⟩) xs.length c,.pointer (some ⟨bm,0,none⟩)] w fun e w'=>e=.returned (.string (sumF (mark++j)))∧Below w.heap.size w w':=by
  have HJ:=Lib.hid (show ∀ W:World,(W.cell? ⟨bm,0,none⟩=some (.string mark)∧RoundOK W∧Below w.heap.size w W)→Calls Tryz.prog 181 #[.slice (some ⟨bk,0,none⟩) xs.length c,.string ⟨#[]⟩] W fun e w'=>e=.returned (.string j)∧Below W.heap.size W w' from by
    intro W hW
    refine (Tryz.strings_Join bk 0 c xs ⟨#[]⟩ W (fun i x hx=>(hW.2.2.cell (p:=⟨bk,0+i,none⟩) hbk).trans (hc i x hx)) (Nat.lt_of_lt_of_le hbk hW.2.2.size) (by omega) hcap ?_).mono ?_
    · have:(catB xs).size≤500000:=by rw [hj];exact hjs
      unfold catB at this
      simp only [ByteArray.size_mk',List.size_toArray] at this
      exact Nat.le_trans this (by omega)
    · rintro e w' ⟨rfl,hb⟩
      exact ⟨by rw [← hj];rfl,hb⟩)
  have HS:=Lib.hid (show ∀ (W:World) (t:ByteArray),t.size≤1000000→(W.cell? ⟨bm,0,none⟩=some (.string mark)∧RoundOK W∧Below w.heap.size w W)→Calls Tryz.prog 78 #[.string t] W fun e w'=>e=.returned (.string (sumF t))∧Below W.heap.size W w' from fun W t ht hW=>sum_any t W ht hW.2.1)
  have HR:=Lib.hid hR
  have HC:=Lib.hid hc
  have HJe:=Lib.hid hj
  clear hR hc hj
  have hsz:(mark++j).size≤1000000:=by rw [ByteArray.size_append];omega
  have hsum:mark.size+j.size≤9223372036854775807:=by omega
  have hcat:=fun W:World=>run_string_add_sum (P:=Tryz.prog) (w:=W) mark j hsum
  go_enter Tryz.func180,Tryz.ntmps180
  go_wp2
  go_region_held3 (fun w'=>w'.cell? ⟨bm,0,none⟩=some (.string mark)∧RoundOK w'∧Below w.heap.size w w')
    (first|exact ⟨hm,HR.out,(Below.refl _ _).drew⟩|assumption|exact keepM (by assumption) (by assumption))
    (first|(go_at_call 181;refine (HJ.out _ (by assumption)).mono ?_;rintro e w' ⟨rfl,hb'⟩)|(go_at_call 78;refine (HS.out _ _ hsz (by assumption)).mono ?_;rintro e w' ⟨rfl,hb'⟩))
  go_wp2
  go_ret
  exact ⟨rfl,(show w'.cell? ⟨bm,0,none⟩=some (.string mark)∧RoundOK w'∧Below w.heap.size w w' by assumption).2.2⟩
theorem marked_any (mark:ByteArray) (w:World) :
    Calls Tryz.prog 131 #[.string mark] w fun e w'=>e=.returned (.func (.func 180) #[] #[.pointer (some ⟨w.heap.size,0,none⟩)])∧w.alloc (.cells #[.string mark] 9)=w':=by
  have hmf:∀ (fn:Fn) (first cap:Array Value) (w:World),(Instr.makeFunc fn first cap).run Tryz.prog w=.ok (.func fn first cap) w:=fun _ _ _ _=>rfl
  go_enter Tryz.func131,Tryz.ntmps131
  go_wp2
  go_ret
  exact ⟨rfl,rfl⟩
def leafF (s:ByteArray):ByteArray:=sumF (⟨#[0]⟩++s)
def nodeF (a b:ByteArray):ByteArray:=sumF (⟨#[1]⟩++(a++b))
def chainF (a b:ByteArray):ByteArray:=sumF (⟨#[2]⟩++(a++b))
theorem leafF_size (s:ByteArray):(leafF s).size=32:=sumF_size _
theorem nodeF_size (a b:ByteArray):(nodeF a b).size=32:=sumF_size _
theorem chainF_size (a b:ByteArray):(chainF a b).size=32:=sumF_size _
theorem cat1 (s:ByteArray):catB [s]=s:=by
  unfold catB
  simp [Lib.join]
theorem cat2 (a b:ByteArray):catB [a,b]=a++b:=by
  unfold catB
  have h:=ByteArray.mk_append_mk a.data.toList b.data.toList
  simp only [Array.toArray_toList] at h
  rw [h]
  simp [Lib.join_cons,Lib.joinTail]
theorem leaf_any (s:ByteArray) (w:World) (hR:RoundOK w) (hs:s.size≤500000) :
    Calls Tryz.prog 76 #[.string s] w fun e w'=>e=.returned (.string (leafF s))∧Below w.heap.size w w':=by
  have hB:Blk ((w.alloc (.cells #[.string ⟨#[0]⟩] 9)).alloc (.cells #[.string s] 9)) (w.heap.size+1) 9 #[.string s]:=Blk.new' _ _ _ (by simp)
  have hbl:Below w.heap.size w ((w.alloc (.cells #[.string ⟨#[0]⟩] 9)).alloc (.cells #[.string s] 9)):=((Below.refl _ _).alloc (Nat.le_refl _) _).alloc (by simp) _
  have HM:=Lib.hid (marked1_any (w.heap.size+1) w.heap.size 1 [s] ⟨#[0]⟩ s ((w.alloc (.cells #[.string ⟨#[0]⟩] 9)).alloc (.cells #[.string s] 9)) (hR.below hbl) (cell_al (cell_new1 _ _ _) _) (fun i x hx=>by
      rw [hB.cell (0+i)]
      match i,hx with
      | 0,hx=>simp at hx;subst hx;rfl
      | (i+1),hx=>simp at hx) (by simp) (by simp) (by simp) (cat1 s) hs (by decide))
  clear hR hB
  go_enter Tryz.func76,Tryz.ntmps76
  go_wp2_with (go_at_call 131;refine (marked_any _ _).mono ?_;rintro e w' ⟨rfl,rfl⟩)
  refine HM.out.mono ?_
  rintro e w' ⟨rfl,hb'⟩
  go_wp2
  go_ret
  exact ⟨rfl,hbl.trans (hb'.mono hbl.size)⟩
theorem node_any (a b:ByteArray) (w:World) (hR:RoundOK w) (ha:a.size≤200000) (hb:b.size≤200000) :
    Calls Tryz.prog 77 #[.string a,.string b] w fun e w'=>e=.returned (.string (nodeF a b))∧Below w.heap.size w w':=by
  have hB:Blk ((w.alloc (.cells #[.string ⟨#[1]⟩] 9)).alloc (.cells #[.string a,.string b] 9)) (w.heap.size+1) 9 #[.string a,.string b]:=Blk.new' _ _ _ (by simp)
  have hbl:Below w.heap.size w ((w.alloc (.cells #[.string ⟨#[1]⟩] 9)).alloc (.cells #[.string a,.string b] 9)):=((Below.refl _ _).alloc (Nat.le_refl _) _).alloc (by simp) _
  have HM:=Lib.hid (marked1_any (w.heap.size+1) w.heap.size 2 [a,b] ⟨#[1]⟩ (a++b) ((w.alloc (.cells #[.string ⟨#[1]⟩] 9)).alloc (.cells #[.string a,.string b] 9)) (hR.below hbl) (cell_al (cell_new1 _ _ _) _) (fun i x hx=>by
      rw [hB.cell (0+i)]
      match i,hx with
      | 0,hx=>simp at hx;subst hx;rfl
      | 1,hx=>simp at hx;subst hx;rfl
      | (i+2),hx=>simp at hx) (by simp) (by simp) (by simp) (cat2 a b) (by rw [ByteArray.size_append];omega) (by decide))
  clear hR hB
  go_enter Tryz.func77,Tryz.ntmps77
  go_wp2_with (go_at_call 131;refine (marked_any _ _).mono ?_;rintro e w' ⟨rfl,rfl⟩)
  refine HM.out.mono ?_
  rintro e w' ⟨rfl,hb'⟩
  go_wp2
  go_ret
  exact ⟨rfl,hbl.trans (hb'.mono hbl.size)⟩
theorem chain_any (a b:ByteArray) (w:World) (hR:RoundOK w) (ha:a.size≤200000) (hb:b.size≤200000) :
    Calls Tryz.prog 127 #[.string a,.string b] w fun e w'=>e=.returned (.string (chainF a b))∧Below w.heap.size w w':=by
  have hB:Blk ((w.alloc (.cells #[.string ⟨#[2]⟩] 9)).alloc (.cells #[.string a,.string b] 9)) (w.heap.size+1) 9 #[.string a,.string b]:=Blk.new' _ _ _ (by simp)
  have hbl:Below w.heap.size w ((w.alloc (.cells #[.string ⟨#[2]⟩] 9)).alloc (.cells #[.string a,.string b] 9)):=((Below.refl _ _).alloc (Nat.le_refl _) _).alloc (by simp) _
  have HM:=Lib.hid (marked1_any (w.heap.size+1) w.heap.size 2 [a,b] ⟨#[2]⟩ (a++b) ((w.alloc (.cells #[.string ⟨#[2]⟩] 9)).alloc (.cells #[.string a,.string b] 9)) (hR.below hbl) (cell_al (cell_new1 _ _ _) _) (fun i x hx=>by
      rw [hB.cell (0+i)]
      match i,hx with
      | 0,hx=>simp at hx;subst hx;rfl
      | 1,hx=>simp at hx;subst hx;rfl
      | (i+2),hx=>simp at hx) (by simp) (by simp) (by simp) (cat2 a b) (by rw [ByteArray.size_append];omega) (by decide))
  clear hR hB
  go_enter Tryz.func127,Tryz.ntmps127
  go_wp2_with (go_at_call 131;refine (marked_any _ _).mono ?_;rintro e w' ⟨rfl,rfl⟩)
  refine HM.out.mono ?_
  rintro e w' ⟨rfl,hb'⟩
  go_wp2
  go_ret
  exact ⟨rfl,hbl.trans (hb'.mono hbl.size)⟩
end
section
open Go.RowKit
def leftF (n:Nat):Nat:=2 ^ (Lib.bitLen (n-1)-1)
theorem bitLen_pos (n:Nat) (h:1≤n):1≤Lib.bitLen n:=by
  unfold Lib.bitLen Lib.bitLenAux
  rw [if_neg (by omega)]
  omega
theorem bitLenAux_le (f:Nat):∀ k x:Nat,x<2 ^ k→Lib.bitLenAux f x≤k:=by
  induction f with
  | zero=>intro k x _;exact Nat.zero_le _
  | succ f ih=>
    intro k x h
    unfold Lib.bitLenAux
    by_cases hx:x=0
    · rw [if_pos hx];exact Nat.zero_le _
    · rw [if_neg hx]
      match k,h with
      | 0,h=>simp at h;omega
      | k+1,h=>
        have:=ih k (x / 2) (by rw [Nat.pow_succ] at h;omega)
        omega
theorem wrap_pow (k:Nat) (h:k≤16):wrap64 ((2:Int) ^ k)=((2 ^ k:Nat):Int):=by
  have h1:2 ^ k≤2 ^ 16:=Nat.pow_le_pow_right (by omega) h
  have h2:((2:Int) ^ k)=((2 ^ k:Nat):Int):=by simp
  rw [h2]
  generalize 2 ^ k=m at *
  unfold wrap64
  omega
theorem left_any (n:Nat) (w:World) (h2:2≤n) (hn:n≤100000) :
    Calls Tryz.prog 73 #[.int .i64 (n:Int)] w fun e w'=>e=.returned (.int .i64 (leftF n:Int))∧w=w':=by
  go_enter Tryz.func73,Tryz.ntmps73
  go_wp2_with fail
  refine (Tryz.bits_Len _ _ (by omega) (by omega)).mono ?_
  rintro e w' ⟨rfl,hw⟩
  subst hw
  have e1:((n:Int)-1).toNat=n-1:=by omega
  rw [e1]
  have hp:=bitLen_pos (n-1) (by omega)
  have hl:Lib.bitLen (n-1)≤17:=bitLenAux_le 64 17 (n-1) (by omega)
  generalize hL:Lib.bitLen (n-1)=L at *
  have HL:=Lib.hid hL
  clear hL
  go_wp2
  go_ret
  refine ⟨ret_int ?_,rfl⟩
  unfold leftF
  rw [HL.out]
  exact wrap_pow (L-1) (by omega)
def oddF (s:ByteArray):Bool := !((s.size:Int) == 32)
theorem odd_any (s:ByteArray) (w:World) :
    Calls Tryz.prog 167 #[.string s] w fun e w'=>e=.returned (.bool (oddF s))∧w=w':=by
  go_enter Tryz.func167,Tryz.ntmps167
  go_wp2_with (go_at_call 116;refine (digest_isDigest _ _).mono ?_;rintro e w' ⟨rfl,rfl⟩)
  go_ret
  exact ⟨rfl,rfl⟩
def idxOf {α:Type} (p:α→Bool) (l:List α):Int:=if l.any p then ((l.findIdx p:Nat):Int) else -1
theorem idxOf_yes {α:Type} (p:α→Bool) (l:List α) (k:Nat) (hk:k<l.length) (h:p l[k]=true) (hno:∀ j (hj:j<k),p (l[j]'(by omega))=false):idxOf p l=(k:Int):=by
  unfold idxOf
  rw [if_pos (List.any_eq_true.2 ⟨l[k],List.getElem_mem hk,h⟩)]
  have:l.findIdx p=k:=by
    rw [List.findIdx_eq hk]
    exact ⟨h,fun j hj=>hno j hj⟩
  rw [this]
theorem idxOf_no {α:Type} (p:α→Bool) (l:List α) (hno:∀ j (hj:j<l.length),p l[j]=false):idxOf p l = -1:=by
  unfold idxOf
  rw [if_neg]
  intro h
  obtain ⟨x,hx,hp⟩:=List.any_eq_true.1 h
  obtain ⟨j,hj,rfl⟩:=List.getElem_of_mem hx
  rw [hno j hj] at hp
  cases hp
theorem idxOf_nonneg {α:Type} (p:α→Bool) (l:List α):decide (0≤idxOf p l)=l.any p:=by
  unfold idxOf
  cases h:l.any p <;> simp
theorem indexOdd_any (S:Nat→Prop) (v:Value) (l:List ByteArray) (w:World) (hv:Strs S w v l) (hn:l.length≤100000) :
    Calls Tryz.prog 196 #[v,.func (.func 167) #[] #[]] w fun e w'=>e=.returned (.int .i64 (idxOf oddF l))∧w=w':=by
  have HV:=Lib.hid hv
  obtain ⟨A,c,rfl,hc,_⟩:=hv
  go_enter Tryz.func196,Tryz.ntmps196
  go_wp2
  go_loop [8] (fun i=>∃ k:Nat,k≤l.length∧i=.int .i64 k∧Hid (∀ j (hj:j<l.length),j<k→oddF l[j]=false)) (fun i=>l.length-(intOf i).toNat)
  case atStart=>exact ⟨0,Nat.zero_le _,rfl,fun j _ h=>absurd h (by omega)⟩
  case round=>
    obtain ⟨k,hk,rfl,hno⟩:=hrel
    by_cases hlt:k<l.length
    · obtain ⟨b,off,c',hA,_,_,hcell⟩:=HV.out.at_ hlt
      injection hA with hA hn' hc'
      subst hA;subst hc'
      clear hn'
      obtain ⟨x,hx⟩:∃ x,x=l[k]:=⟨_,rfl⟩
      rw [show l.getD k ⟨#[]⟩=x by rw [hx];simp [hlt]] at hcell
      have HX:=Lib.hid hx
      clear hx
      cases ho:oddF x with
      | true=>
        have HO:=Lib.hid ho
        clear ho
        go_wp2_with (go_at_call 167;refine (odd_any _ _).mono ?_;rw [HO.out];rintro e w' ⟨rfl,rfl⟩)
        go_ret
        exact ⟨ret_int (idxOf_yes oddF l k hlt (by rw [← HX.out];exact HO.out) (fun j hj=>hno.out j (by omega) hj)).symm,rfl⟩
      | false=>
        have HO:=Lib.hid ho
        clear ho
        go_wp2_with (go_at_call 167;refine (odd_any _ _).mono ?_;rw [HO.out];rintro e w' ⟨rfl,rfl⟩)
        go_round
        case rel=>
          refine ⟨k+1,by omega,by go_num,fun j hj hjk=>?_⟩
          by_cases e:j=k
          · subst e;rw [← HX.out];exact HO.out
          · exact hno.out j hj (by omega)
        case measure=>simp [intOf];omega
    · go_wp2
      go_ret
      exact ⟨ret_int (idxOf_no oddF l (fun j hj=>hno.out j hj (by omega))).symm,rfl⟩
theorem containsOdd_any (S:Nat→Prop) (v:Value) (l:List ByteArray) (w:World) (hv:Strs S w v l) (hn:l.length≤100000) :
    Calls Tryz.prog 168 #[v,.func (.func 167) #[] #[]] w fun e w'=>e=.returned (.bool (l.any oddF))∧w=w':=by
  have HC:=Lib.hid (indexOdd_any S v l w hv hn)
  have HD:=Lib.hid (idxOf_nonneg oddF l)
  obtain ⟨A,c,rfl,hc,_⟩:=hv
  generalize idxOf oddF l=i at *
  go_enter Tryz.func168,Tryz.ntmps168
  go_wp2_with fail
  refine HC.out.mono ?_
  rintro e w' ⟨rfl,rfl⟩
  go_wp2
  go_ret
  exact ⟨by rw [← HD.out];rfl,rfl⟩
def allF (l:List ByteArray):Bool := !l.any oddF
theorem all_any (S:Nat→Prop) (v:Value) (l:List ByteArray) (w:World) (hv:Strs S w v l) (hn:l.length≤100000) :
    Calls Tryz.prog 112 #[v] w fun e w'=>e=.returned (.bool (allF l))∧w=w':=by
  have HC:=Lib.hid (containsOdd_any S v l w hv hn)
  obtain ⟨A,c,rfl,hc,_⟩:=hv
  go_enter Tryz.func112,Tryz.ntmps112
  go_wp2_with fail
  refine HC.out.mono ?_
  rintro e w' ⟨rfl,rfl⟩
  go_wp2
  go_ret
  exact ⟨rfl,rfl⟩
end
section
open Go.RowKit
def TakePost (S:Nat→Prop) (w:World) (l:List ByteArray) (e:Ending) (w':World):Prop:=
  ∃ v',e=.returned (.tuple #[.string (l.getLast?.getD ⟨#[]⟩),v',.bool (!l.isEmpty)])∧Strs S w' v' l.dropLast∧Below w.heap.size w w'
theorem take_any (S:Nat→Prop) (v:Value) (l:List ByteArray) (w:World) (hv:Strs S w v l) (hn:l.length≤100000) :
    Calls Tryz.prog 113 #[v] w (TakePost S w l):=by
  have HV:=Lib.hid hv
  by_cases h0:l.length=0
  · obtain rfl:l=[]:=List.eq_nil_of_length_eq_zero h0
    obtain ⟨A,c,rfl,hc,_⟩:=hv
    go_enter Tryz.func113,Tryz.ntmps113
    go_wp2
    go_ret3
    exact ⟨_,rfl,Strs.nil_ S w,Below.refl _ _⟩
  · obtain ⟨b,off,c,rfl,hc,hS,hcell⟩:=hv.at_ (k:=l.length-1) (by omega)
    obtain ⟨n,hn1⟩:∃ n,n=l.length-1:=⟨_,rfl⟩
    have hl:l.length=n+1:=by omega
    rw [← hn1] at hcell
    obtain ⟨x,hx⟩:∃ x,x=l.getD n ⟨#[]⟩:=⟨_,rfl⟩
    rw [← hx] at hcell
    have HX:=Lib.hid hx
    have HL:=Lib.hid hl
    have HN1:=Lib.hid hn1
    rw [hl]
    have hc':n+1≤c:=by omega
    have hn':n+1≤100000:=by omega
    clear hx hl hn1 h0 hc hv
    have t0:(((n:Int)+1) == 0)=false:=by simp;omega
    have q0:(0:Int)≤(n:Int):=by omega
    have q1:(n:Int)<(n:Int)+1:=by omega
    have q2:(n:Int)≤(c:Int):=by omega
    go_enter Tryz.func113,Tryz.ntmps113
    go_wp2
    go_quiet (fail)
    go_wp2
    go_ret3
    refine ⟨.slice (some ⟨b,off,none⟩) n c,?_,?_,below_drewN (Below.refl _ _) _⟩
    · have e1:l.getLast?.getD ⟨#[]⟩=x:=by
        rw [HX.out,List.getLast?_eq_getElem?,HL.out]
        simp
      have e2:l.isEmpty=false:=by
        cases l with
        | nil=>have:=HL.out;simp at this
        | cons a t=>rfl
      rw [e1,e2]
      rfl
    · obtain ⟨A,c2,hA,hc2,hcells⟩:=HV.out
      injection hA with hA _ hcc
      subst hA;subst hcc
      refine ⟨some ⟨b,off,none⟩,c,by rw [List.length_dropLast,HL.out];rfl,by rw [List.length_dropLast,HL.out];omega,fun _=>?_⟩
      obtain ⟨b',off',hb',hS',hcs⟩:=hcells (by rw [HL.out];omega)
      injection hb' with hb'
      injection hb' with h1 h2
      subst h1;subst h2
      refine ⟨b,off,rfl,hS',fun j y hy=>?_⟩
      rw [List.getElem?_dropLast] at hy
      split at hy
      · exact hcs j y hy
      · cases hy
def joinF (root:ByteArray) (first:Bool) (part:ByteArray):ByteArray:=if first then nodeF root part else nodeF part root
theorem joinF_size (root:ByteArray) (first:Bool) (part:ByteArray):(joinF root first part).size=32:=by unfold joinF;split <;> exact nodeF_size _ _
theorem join_any (root part:ByteArray) (first:Bool) (w:World) (hR:RoundOK w) (hr:root.size≤200000) (hp:part.size≤200000) :
    Calls Tryz.prog 115 #[.agg #[.string root,.bool first],.string part] w fun e w'=>e=.returned (.string (joinF root first part))∧Below w.heap.size w w':=by
  have hbl:Below w.heap.size w (w.alloc (.cells #[.string root,.bool first] 203)):=(Below.refl _ _).alloc (Nat.le_refl _) _
  cases first with
  | true=>
    have HN:=Lib.hid (node_any root part _ (hR.below hbl) hr hp)
    clear hR
    go_enter Tryz.func115,Tryz.ntmps115
    go_wp2_with fail
    refine HN.out.mono ?_
    rintro e w' ⟨rfl,hb'⟩
    go_wp2
    go_ret
    exact ⟨rfl,hbl.trans (hb'.mono hbl.size)⟩
  | false=>
    have HN:=Lib.hid (node_any part root _ (hR.below hbl) hp hr)
    clear hR
    go_enter Tryz.func115,Tryz.ntmps115
    go_wp2_with fail
    refine HN.out.mono ?_
    rintro e w' ⟨rfl,hb'⟩
    go_wp2
    go_ret
    exact ⟨rfl,hbl.trans (hb'.mono hbl.size)⟩
end
section
open Go.RowKit Go.Shelf
attribute [local go_sem] Oper.semAt_some
def downs (N:Nat):Nat→List { k:Nat // k<N }
  | 0=>[]
  | k+1=>if h:k<N then downs N k++[⟨N-1-k,by omega⟩] else downs N k
theorem downs_succ (N k:Nat) (h:k<N):downs N (k+1)=downs N k++[⟨N-1-k,by omega⟩]:=by simp [downs,h]
theorem downs_length (N k:Nat) (h:k≤N):(downs N k).length=k:=by
  induction k with
  | zero=>rfl
  | succ k ih=>rw [downs_succ N k (by omega),List.length_append,ih (by omega)];rfl
def BackPost {N:Nat} (J Jx:List { k:Nat // k<N }→World→Prop) (e:Ending) (W':World):Prop:=
  (∃ v,e=.returned v)∧(J (downs N N) W'∨(∃ pre,Jx pre W'))
theorem back1_in (n:Nat) (hn:1≤n) (l Bs n₀ gh:Nat) (A:Option Addr) (c:Nat) (xs:List ByteArray) (hN:xs.length≤1000000) (hs0:Bs<n₀) (hsg:Bs≠gh)
    (J Jx:List { k:Nat // k<xs.length }→World→Prop)
    (hY:∀ pre x W,J pre W→pre.length<xs.length→YieldAt Fence.wide (n-1) Tryz.prog l #[.int .i64 ((x:{ k:Nat // k<xs.length }).1:Int),.string (xs[x.1]'x.2)] W fun e W'=>
      (e=.returned (.bool true)∧J (pre++[x]) W'∧KeptB n₀ gh W W')∨(e=.returned (.bool false)∧Jx (pre++[x]) W'))
    (W:World) (hBs:W.cell? ⟨Bs,0,none⟩=some (.slice A xs.length c)) (hc:0<xs.length→∃ b off,A=some ⟨b,off,none⟩∧b<n₀∧b≠gh∧∀ j x,xs[j]? = some x→W.cell? ⟨b,off+j,none⟩=some (.string x)) (h0:J [] W) :
    CallsIn Fence.wide n Tryz.prog 135 #[.func (.yield l) #[] #[],.pointer (some ⟨Bs,0,none⟩)] W (BackPost J Jx):=by
  have HC:=Lib.hid hc
  clear hc
  refine callsIn_of_wp Tryz.func135 rfl trivial ?_ rfl
  simp only [Tryz.ntmps135,List.size_toArray,List.length_cons,List.length_nil,Nat.reduceAdd,Nat.reduceSub,Array.replicate_succ,Array.replicate_zero,List.push_toArray,List.append_toArray,List.nil_append,List.cons_append]
  gi_wp2
  gi_loopw [3] (fun i wr=>∃ k:Nat,k≤xs.length∧i=.int .i64 ((xs.length:Int)-1-(k:Int))∧J (downs xs.length k) wr∧KeptB n₀ gh W wr)
    (fun i _=>(intOf i+1).toNat)
  case atStart=>exact ⟨0,Nat.zero_le _,by simp,h0,KeptB.refl _ _ _⟩
  case round =>
    obtain ⟨k,hk,rfl,hJs,hnx⟩:=hrel
    have cs:=(hnx.cell (p:=⟨Bs,0,none⟩) hs0 hsg).trans hBs
    by_cases hlt:k<xs.length
    · obtain ⟨b,off,rfl,hb0,hbg,hcell⟩:=HC.out (by omega)
      obtain ⟨q,hq⟩:∃ q,q=xs.length-1-k:=⟨_,rfl⟩
      have hqi:(xs.length:Int)-1-(k:Int)=(q:Int):=by omega
      have hql:q<xs.length:=by omega
      have cx:=(hnx.cell (p:=⟨b,off+q,none⟩) hb0 hbg).trans (hcell q _ (List.getElem?_eq_getElem hql))
      obtain ⟨fn,tmps,assign,body,hy,hR⟩:=hY _ ⟨q,hql⟩ wr hJs (by rw [downs_length _ k hk];exact hlt)
      dsimp only at hy
      have HQ:=Lib.hid hq
      rw [hqi]
      have HQI:=Lib.hid hqi
      obtain ⟨x,hx⟩:∃ x,x=xs[q]:=⟨_,rfl⟩
      rw [← hx] at cx hy
      have HX:=Lib.hid hx
      clear hq hqi hx
      have b0:(0:Int)≤(q:Int):=by omega
      have b1:(q:Int)<(xs.length:Int):=by omega
      gi_wp2
      refine hR.mono ?_
      rintro e W3 (⟨rfl,hJ3,hk3⟩|⟨rfl,hJx3⟩)
      · gi_wp2
        go_roundw
        case rel=>
          refine ⟨k+1,by omega,?_,?_,hnx.trans hk3⟩
          · have:=HQI.out
            have e:(q:Int)-1=(xs.length:Int)-1-((k+1:Nat):Int):=by omega
            rw [← e]
          · rw [downs_succ _ k hlt]
            have e:(⟨q,hql⟩:{ k:Nat // k<xs.length })=⟨xs.length-1-k,by omega⟩:=Subtype.ext HQ.out
            rw [← e]
            exact hJ3
        case measure=>simp [intOf]
      · gi_wp2
        refine bodyPost_ret (results_none rfl _ _ _) rfl ?_
        exact ⟨⟨_,rfl⟩,.inr ⟨_,hJx3⟩⟩
    · have HK:=Lib.hid (show k=xs.length by omega)
      have hneg:¬ (0:Int)≤(xs.length:Int)-1-(k:Int):=by omega
      gi_wp2
      go_end0
      rw [HK.out] at hJs
      exact ⟨⟨_,rfl⟩,.inl hJs⟩
theorem back_stops (n:Nat) (hn:1≤n) (Bs n₀ gh:Nat) (A:Option Addr) (c:Nat) (xs:List ByteArray) (hN:xs.length≤1000000) (hs0:Bs<n₀) (hsg:Bs≠gh) (w:World) (hw:n₀≤w.heap.size)
    (hBs:w.cell? ⟨Bs,0,none⟩=some (.slice A xs.length c)) (hc:0<xs.length→∃ b off,A=some ⟨b,off,none⟩∧b<n₀∧b≠gh∧∀ j x,xs[j]? = some x→w.cell? ⟨b,off+j,none⟩=some (.string x)) :
    SeqStopsK Fence.wide n Tryz.prog 135 #[.pointer (some ⟨Bs,0,none⟩)] (fun x:{ k:Nat // k<xs.length }=>#[Value.int .i64 (x.1:Int),.string (xs[x.1]'x.2)])
      (KeptB n₀ gh) (fun ys=>ys=downs xs.length xs.length) (fun _=>True) xs.length w:=fun l J Jx W hW hJ _ hY h0=>by
  refine (back1_in n hn l Bs n₀ gh A c xs hN hs0 hsg J Jx hY W ((hW.cell (p:=⟨Bs,0,none⟩) (by show Bs<w.heap.size;omega)).trans hBs) (fun h=>?_) h0).mono ?_
  · obtain ⟨b,off,rfl,hb,hg,hcell⟩:=hc h
    exact ⟨b,off,rfl,hb,hg,fun j x hx=>(hW.cell (p:=⟨b,off+j,none⟩) (by show b<w.heap.size;omega)).trans (hcell j x hx)⟩
  · rintro e W' ⟨he,hj|⟨pre,hj⟩⟩
    · exact ⟨he,.inl ⟨_,rfl,hj⟩⟩
    · exact ⟨he,.inr ⟨_,trivial,hj⟩⟩
theorem back_any (n c:Nat) (A:Option Addr) (w:World) :
    Calls Tryz.prog 79 #[.slice A n c] w fun e w'=>
      e=.returned (.func (.func 135) #[] #[.pointer (some ⟨w.heap.size,0,none⟩)])∧w.alloc (.cells #[.slice A n c] 53)=w':=by
  have hmf:∀ (fn:Fn) (first cap:Array Value) (w:World),(Instr.makeFunc fn first cap).run Tryz.prog w=.ok (.func fn first cap) w:=fun _ _ _ _=>rfl
  go_enter Tryz.func79,Tryz.ntmps79
  go_wp2
  go_ret
  exact ⟨rfl,rfl⟩
end
section
open Go.RowKit
def mergeR:Nat→List (Nat × ByteArray)→List (Nat × ByteArray)
  | f+1,(s2,b)::(s1,a)::rest=>if s1=s2 then mergeR f ((2*s2,nodeF a b)::rest) else (s2,b)::(s1,a)::rest
  | _,l=>l
def merged (l:List (Nat × ByteArray)):List (Nat × ByteArray):=(mergeR l.length l.reverse).reverse
theorem merged_step (i:List (Nat × ByteArray)) (s:Nat) (a b:ByteArray):merged (i++[(s,a),(s,b)])=merged (i++[(2*s,nodeF a b)]):=by
  unfold merged
  simp [mergeR]
theorem merged_diff (i:List (Nat × ByteArray)) (s t:Nat) (a b:ByteArray) (h:s≠t):merged (i++[(s,a),(t,b)])=i++[(s,a),(t,b)]:=by
  unfold merged
  simp [mergeR,h]
theorem merged_short (l:List (Nat × ByteArray)) (h:l.length≤1):merged l=l:=by
  match l,h with
  | [],_=>rfl
  | [x],_=>rfl
  | _::_::_,h=>simp at h
def stackTo (l:List ByteArray):Nat→List (Nat × ByteArray)
  | 0=>[]
  | k+1=>merged (stackTo l k++[(1,leafF (l.getD k ⟨#[]⟩))])
def foldBack (l:List ByteArray):ByteArray:=l.dropLast.foldr (fun r out=>nodeF r out) (l.getLast?.getD ⟨#[]⟩)
def rootF (l:List ByteArray):ByteArray:=if l=[] then sumF ⟨#[]⟩ else foldBack ((stackTo l l.length).map (·.2))
def OkSt (m:Nat) (st:List (Nat × ByteArray)):Prop:=(st.map (·.1)).sum=m∧∀ p ∈ st,p.2.size=32∧1≤p.1
theorem mergeR_ok (f:Nat):∀ (l:List (Nat × ByteArray)) (m:Nat),OkSt m l→OkSt m (mergeR f l):=by
  induction f with
  | zero=>intro l m h;unfold mergeR;exact h
  | succ f ih=>
    intro l m h
    match l,h with
    | [],h=>exact h
    | [x],h=>exact h
    | (s2, b) :: (s1, a) :: rest, h =>
      unfold mergeR
      by_cases e:s1=s2
      · rw [if_pos e]
        refine ih _ m ⟨?_,?_⟩
        · have:=h.1
          simp only [List.map_cons,List.sum_cons] at this ⊢
          omega
        · intro p hp
          rcases List.mem_cons.1 hp with rfl|hp
          · have:=(h.2 (s2,b) (by simp)).2
            exact ⟨nodeF_size _ _,by dsimp only at this ⊢;omega⟩
          · exact h.2 p (by simp [hp])
      · rw [if_neg e];exact h
theorem okSt_reverse (m:Nat) (l:List (Nat × ByteArray)) (h:OkSt m l):OkSt m l.reverse:=
  ⟨by rw [List.map_reverse,List.sum_reverse];exact h.1,fun p hp=>h.2 p (by simpa using hp)⟩
theorem merged_ok (m:Nat) (l:List (Nat × ByteArray)) (h:OkSt m l):OkSt m (merged l):=okSt_reverse _ _ (mergeR_ok _ _ _ (okSt_reverse _ _ h))
theorem okSt_push (m:Nat) (l:List (Nat × ByteArray)) (h:OkSt m l) (s:ByteArray):OkSt (m+1) (l++[(1,leafF s)]):=by
  refine ⟨by rw [List.map_append,List.sum_append,h.1];rfl,fun p hp=>?_⟩
  rcases List.mem_append.1 hp with hp|hp
  · exact h.2 p hp
  · simp at hp
    subst hp
    exact ⟨leafF_size _,Nat.le_refl _⟩
theorem stackTo_ok (l:List ByteArray) (k:Nat):OkSt k (stackTo l k):=by
  induction k with
  | zero=>exact ⟨rfl,fun p hp=>by cases hp⟩
  | succ k ih=>exact merged_ok _ _ (okSt_push k _ ih _)
theorem okSt_length (m:Nat) (l:List (Nat × ByteArray)) (h:OkSt m l):l.length≤m:=by
  obtain ⟨h1,h2⟩:=h
  induction l generalizing m with
  | nil=>simp
  | cons x t ih=>
    have:=ih (m:=(t.map (·.1)).sum) rfl (fun p hp=>h2 p (by simp [hp]))
    have hx:=(h2 x (by simp)).2
    simp only [List.map_cons,List.sum_cons] at h1
    simp only [List.length_cons]
    omega
theorem okSt_le (m:Nat) (l:List (Nat × ByteArray)) (h:OkSt m l) (p:Nat × ByteArray) (hp:p ∈ l):p.1≤m:=by
  have h1:=h.1
  clear h
  induction l generalizing m with
  | nil=>cases hp
  | cons x t ih=>
    simp only [List.map_cons,List.sum_cons] at h1
    have hx:x.1≤m:=by omega
    rcases List.mem_cons.1 hp with e|hp
    · rw [e];exact hx
    · have h3:p.1≤(t.map (·.1)).sum:=ih (m:=(t.map (·.1)).sum) hp rfl
      exact Nat.le_trans h3 (by omega)
theorem okSt_merge (m:Nat) (i:List (Nat × ByteArray)) (s:Nat) (a b:ByteArray) (h:OkSt m (i++[(s,a),(s,b)])):OkSt m (i++[(2*s,nodeF a b)]):=by
  refine ⟨?_,fun p hp=>?_⟩
  · have:=h.1
    simp only [List.map_append,List.sum_append,List.map_cons,List.map_nil,List.sum_cons,List.sum_nil] at this ⊢
    omega
  · rcases List.mem_append.1 hp with hp|hp
    · exact h.2 p (by simp [hp])
    · simp at hp
      subst hp
      have:=(h.2 (s,a) (by simp)).2
      exact ⟨nodeF_size _ _,by dsimp only at this ⊢;omega⟩
theorem two_last {α:Type} (l:List α) (h:2≤l.length):∃ i x y,l=i++[x,y]:=by
  refine ⟨l.take (l.length-2),l[l.length-2],l[l.length-1],?_⟩
  have h1:l.drop (l.length-2)=[l[l.length-2],l[l.length-1]]:=by
    rw [List.drop_eq_getElem_cons (by omega),List.drop_eq_getElem_cons (by omega),List.drop_of_length_le (by omega)]
    congr 2
    congr 1
    omega
  rw [← h1,List.take_append_drop]
def RS (w W:World) (wv sv:Value) (xs:List ByteArray) (zs:List Nat):Prop:=
  W.ownsRow w.heap.size 9 1 wv xs.length (xs.map Value.string)∧W.ownsRow w.heap.size 3 1 sv zs.length (zs.map fun z:Nat=>Value.int .i64 (z:Int))∧RoundOK W∧Below w.heap.size w W
theorem own_shape {w:World} {base e size n:Nat} {v:Value} {xs:List Value} (h:w.ownsRow base e size v n xs):∃ A c,v=.slice A n c:=by
  rcases h.2 with ⟨rfl,rfl⟩|⟨g,cap,cur,rfl,_⟩
  · exact ⟨_,_,rfl⟩
  · exact ⟨_,_,rfl⟩
theorem own_ne {w:World} {base base' e e' size size' n n':Nat} {v v':Value} {xs xs':List Value} (h:w.ownsRow base e size v n xs) (h':w.ownsRow base' e' size' v' n' xs') (hne:e≠e'):v.ownBlock=none∨v.ownBlock≠v'.ownBlock:=by
  rcases h.2 with ⟨rfl,_⟩|⟨g,cap,cur,rfl,_,hg,_⟩
  · exact .inl rfl
  · rcases h'.2 with ⟨rfl,_⟩|⟨g',cap',cur',rfl,_,hg',_⟩
    · exact .inr (by simp [Value.ownBlock])
    · refine .inr (fun he=>?_)
      have:g=g':=by simpa [Value.ownBlock] using he
      subst this
      rw [hg] at hg'
      injection hg' with hg'
      injection hg' with _ h2
      exact hne h2
theorem own_cut {w:World} {base e n k cap g:Nat} {xs:List Value} (h:w.ownsRow base e 1 (.slice (some ⟨g,0,none⟩) n cap) n xs) (hk:k≤n):w.ownsRow base e 1 (.slice (some ⟨g,0,none⟩) k cap) k (xs.take k):=by
  obtain ⟨hl,h⟩:=h
  refine ⟨by rw [List.length_take];omega,?_⟩
  rcases h with ⟨he,_⟩|⟨g',cap',cur,he,hb,hg,hle,hm,hs,ht⟩
  · cases he
  · injection he with h1 h2 h3
    injection h1 with h1
    injection h1 with h1
    subst h1;subst h3
    refine .inr ⟨g,cap,cur,rfl,hb,hg,by omega,hm,hs,?_⟩
    rw [← ht,List.take_take]
    congr 1
    omega
theorem own_cell {w:World} {base e n cap g:Nat} {xs:List Value} (h:w.ownsRow base e 1 (.slice (some ⟨g,0,none⟩) n cap) n xs) {k:Nat} {x:Value} (hx:xs[k]? = some x):w.cell? ⟨g,k,none⟩=some x:=by
  have:=h.cells (g:=g) rfl k x hx
  rwa [add_lit0] at this
theorem RS.below {w W W':World} {wv sv:Value} {xs:List ByteArray} {zs:List Nat} (h:RS w W wv sv xs zs) (hb:Below W.heap.size W W'):RS w W' wv sv xs zs:=by
  have hg:W.grownBy W' none:=⟨hb.os,hb.tape,hb.output,hb.size,fun k hk _=>hb.block k hk⟩
  have hno:∀ {v:Value},v.ownBlock=none∨v.ownBlock≠none:=fun {v}=>by cases h:v.ownBlock <;> simp
  exact ⟨h.1.kept hg hno,h.2.1.kept hg hno,h.2.2.1.below hb,h.2.2.2.trans (hb.mono h.2.2.2.size)⟩
theorem RS.appW {w W W':World} {wv wv' sv:Value} {xs ys:List ByteArray} {zs:List Nat} {n:Nat} (hr:1<w.heap.size) (h:RS w W wv sv xs zs) (ho:W'.ownsRow w.heap.size 9 1 wv' n (ys.map Value.string)) (hn:ys.length=n) (hg:W.grownBy W' wv.ownBlock):RS w W' wv' sv ys zs:=by
  subst hn
  have hne:=own_ne h.2.1 h.1 (by decide)
  refine ⟨ho,h.2.1.kept hg hne,h.2.2.1.keep fun p hp=>World.cell?_of_block (hg.block p.block (by rw [hp];exact h.2.2.1.lt) (fun e=>?_)),h.2.2.2.grown hg h.2.2.2.size (fun k e=>(h.1.lt k e).1)⟩
  have h1:=(h.1.lt p.block e.symm).1
  omega
theorem RS.appS {w W W':World} {wv sv sv':Value} {xs:List ByteArray} {zs ys:List Nat} {n:Nat} (hr:1<w.heap.size) (h:RS w W wv sv xs zs) (ho:W'.ownsRow w.heap.size 3 1 sv' n (ys.map fun z:Nat=>Value.int .i64 (z:Int))) (hn:ys.length=n) (hg:W.grownBy W' sv.ownBlock):RS w W' wv sv' xs ys:=by
  subst hn
  have hne:=own_ne h.1 h.2.1 (by decide)
  refine ⟨h.1.kept hg hne,ho,h.2.2.1.keep fun p hp=>World.cell?_of_block (hg.block p.block (by rw [hp];exact h.2.2.1.lt) (fun e=>?_)),h.2.2.2.grown hg h.2.2.2.size (fun k e=>(h.2.1.lt k e).1)⟩
  have h1:=(h.2.1.lt p.block e.symm).1
  omega
theorem RS.alloc {w W:World} {wv sv:Value} {xs:List ByteArray} {zs:List Nat} (h:RS w W wv sv xs zs) (o:Obj):RS w (W.alloc o) wv sv xs zs:=h.below ((Below.refl _ _).alloc (Nat.le_refl _) o)
theorem RS.drew {w W:World} {wv sv:Value} {xs:List ByteArray} {zs:List Nat} (h:RS w W wv sv xs zs):RS w W.drew wv sv xs zs:=h.below (Below.refl _ _).drew
theorem RS.drewN {w W:World} {wv sv:Value} {xs:List ByteArray} {zs:List Nat} (h:RS w W wv sv xs zs) (n:Nat):RS w (W.drewN n) wv sv xs zs:=h.below (below_drewN (Below.refl _ _) n)
theorem str_info:(Tryz.prog.info? 9).map (fun i=>(i.zero,i.size,i.bytes))=some (some (.string ⟨#[]⟩),1,16):=by kernel_rfl
theorem int_info:(Tryz.prog.info? 3).map (fun i=>(i.zero,i.size,i.bytes))=some (some (.int .i64 0),1,8):=by kernel_rfl
end
section
open Go.RowKit Go.Shelf
attribute [local go_sem ↓] Go.wp_at_zero Go.wp_at_succ
attribute [local go_sem] Oper.semAt_some
def RootI (w:World) (st:List (Nat × ByteArray)) (wv sv:Value) (W:World):Prop:=RS w W wv sv (st.map (·.2)) (st.map (·.1))
theorem own_cap {w:World} {base e n cap g:Nat} {xs:List Value} (h:w.ownsRow base e 1 (.slice (some ⟨g,0,none⟩) n cap) n xs):n≤cap:=by
  rcases h.2 with ⟨he,_⟩|⟨g',cap',cur,he,_,_,hle,_⟩
  · cases he
  · injection he with h1 h2 h3
    omega
theorem RS.cutW {w W:World} {sv:Value} {g cap m:Nat} {i:List (Nat × ByteArray)} {p q:Nat × ByteArray} {zs:List Nat} (hm:m=i.length) (h:RS w W (.slice (some ⟨g,0,none⟩) (m+2) cap) sv ((i++[p,q]).map (·.2)) zs):W.ownsRow w.heap.size 9 1 (.slice (some ⟨g,0,none⟩) m cap) m ((i.map (·.2)).map Value.string):=by
  subst hm
  have h1:=h.1
  rw [show ((i++[p,q]).map (·.2)).length=i.length+2 by simp] at h1
  have h2:=own_cut h1 (k:=i.length) (by omega)
  rwa [show (((i++[p,q]).map (·.2)).map Value.string).take i.length=(i.map (·.2)).map Value.string by simp] at h2
theorem RS.cutS {w W:World} {wv:Value} {g cap m:Nat} {i:List (Nat × ByteArray)} {p q:Nat × ByteArray} {xs:List ByteArray} (hm:m=i.length) (h:RS w W wv (.slice (some ⟨g,0,none⟩) (m+2) cap) xs ((i++[p,q]).map (·.1))):W.ownsRow w.heap.size 3 1 (.slice (some ⟨g,0,none⟩) m cap) m ((i.map (·.1)).map fun z:Nat=>Value.int .i64 (z:Int)):=by
  subst hm
  have h1:=h.2.1
  rw [show ((i++[p,q]).map (·.1)).length=i.length+2 by simp] at h1
  have h2:=own_cut h1 (k:=i.length) (by omega)
  rwa [show (((i++[p,q]).map (·.1)).map fun z:Nat=>Value.int .i64 (z:Int)).take i.length=(i.map (·.1)).map fun z:Nat=>Value.int .i64 (z:Int) by simp] at h2
def accB (ys:List ByteArray) (z:ByteArray) {N:Nat} (pre:List { k:Nat // k<N }):ByteArray:=pre.foldl (fun out k=>nodeF (ys.getD k.1 ⟨#[]⟩) out) z
theorem accB_snoc (ys:List ByteArray) (z:ByteArray) {N:Nat} (pre:List { k:Nat // k<N }) (x:{ k:Nat // k<N }):accB ys z (pre++[x])=nodeF (ys.getD x.1 ⟨#[]⟩) (accB ys z pre):=by simp [accB]
theorem accB_size (ys:List ByteArray) {N:Nat} (pre:List { k:Nat // k<N }):∀ z:ByteArray,z.size=32→(accB ys z pre).size=32:=by
  induction pre with
  | nil=>exact fun z h=>h
  | cons x pre ih=>
    intro z _
    have h:=ih (nodeF (ys.getD x.1 ⟨#[]⟩) z) (nodeF_size _ _)
    simpa only [accB,List.foldl_cons] using h
theorem accB_downs (ys:List ByteArray) (z:ByteArray) (k:Nat) (hk:k≤ys.length):accB ys z (downs ys.length k)=(ys.drop (ys.length-k)).foldr (fun r out=>nodeF r out) z:=by
  induction k with
  | zero=>simp [downs,accB]
  | succ k ih=>
    rw [downs_succ _ _ (by omega),accB_snoc,ih (by omega)]
    have h1:ys.length-(k+1)<ys.length:=by omega
    rw [List.drop_eq_getElem_cons h1,List.foldr_cons]
    have h2:ys.length-(k+1)+1=ys.length-k:=by omega
    have h3:ys.length-1-k=ys.length-(k+1):=by omega
    rw [h2]
    simp only [h3]
    rw [List.getD_eq_getElem?_getD,List.getElem?_eq_getElem h1]
    rfl
theorem accB_all (ys:List ByteArray) (z:ByteArray):accB ys z (downs ys.length ys.length)=foldBack (ys++[z]):=by
  rw [accB_downs _ _ _ (Nat.le_refl _)]
  simp [foldBack]
def RootJ (w:World) (B0 g0:Nat) (ys:List ByteArray) (z:ByteArray) {N:Nat} (pre:List { k:Nat // k<N }) (W:World):Prop:=
  (Blk W g0 9 #[.string (accB ys z pre)]∧RoundOK W)∧Below w.heap.size w W∧B0≤W.heap.size
theorem RootJ.own (w:World) (B0 g0:Nat) (ys:List ByteArray) (z:ByteArray) (N B:Nat) (hB:w.heap.size≤B):OwnFrom B (fun (pre:List { k:Nat // k<N }) W=>RootJ w B0 g0 ys z pre W):=
  OwnFrom.and (Own.from (fun _ A B row hs hg hr=>⟨(hg.block _ hs.1.lt (fun e=>by
      obtain ⟨o,ho,hc⟩:=hr _ e.symm
      have h1:=hs.1
      unfold Blk at h1
      rw [h1] at ho
      cases ho
      cases hc)).trans hs.1,fun j v hv=>cell_kept (hs.2 j v hv) hg hr⟩) _) (OwnFrom.and (ownFrom_below (Nat.le_refl _) hB) (fun _ _ _ _ hs hg _=>Nat.le_trans hs hg.size))
theorem step_append_own {P:Program} {ops:Array Oper} {o:Oper} {a:Act} {w:World} {K:Act→World→Prop} {Q:Exit→Act→World→Prop} {E:Prop} (hgd:o.guard=none) (s x:Operand) (t:TypeId)
    (ho:o.op=.call { callee:=.builtin .append,args:=#[s,x],argTypes:=#[t,t] })
    (base:Nat) (e:TypeId) (i:TypeInfo) (z:Value) (size bytes:Nat) (ht:P.underlying t=some (.slice e)) (hi:P.info? e=some i) (hz:i.zero=some z)
    (hsize:i.size=size) (hby:i.bytes=bytes) (hzs:z.cells.size=size) (hsz:0<size)
    (v:Value) (n:Nat) (xs:List Value) (hs:a.eval s=v) (hown:w.ownsRow base e size v n xs)
    (ad:Addr) (m c:Nat) (news:List Value) (hx:a.eval x=.slice (some ad) m c) (hl:news.length=m*size) (hnews:∀ j u,news[j]? = some u→w.cell? (ad.add j)=some u) (h1:∀ u ∈ news,u.oneCell'=true)
    (h63:n+m≤maxLen) (hbytes:(n+m)*bytes≤140737488355328) (hbase:base≤w.heap.size)
    (h:∀ v' w',w'.ownsRow base e size v' (n+m) (xs++news)→w.grownBy w' v.ownBlock→K (a.put o.dst v') w') :
    if Region.wanted o (yielded ops a.tmps)=true then Oper.wp P o a w K Q else E:=by
  rw [if_pos (by simp [Region.wanted,hgd])]
  exact wp_append_own w s x t ho base e i z size bytes ht hi hz hsize hby hzs hsz v n xs hs hown ad m c news hx hl hnews h1 h63 hbytes hbase fun v' w' h2 h3 _=>h v' w' h2 h3
theorem root_any (S:Nat→Prop) (v:Value) (l:List ByteArray) (w:World) (hv:Strs S w v l) (hn:l.length≤10000) (hl:∀ x ∈ l,x.size≤100000) (hR:RoundOK w) :
    Calls Tryz.prog 43 #[v] w fun e w'=>e=.returned (.string (rootF l))∧Below w.heap.size w w':=by
  have HV:=Lib.hid hv
  have HL:=Lib.hid hl
  have HR:=Lib.hid hR
  have hr1:=hR.lt
  obtain ⟨A,c,rfl,hc,_⟩:=hv
  clear hl hR
  obtain ⟨is,his,hzs0,hzs1,hzs2⟩:=info_parts str_info
  obtain ⟨ii,hii,hzi0,hzi1,hzi2⟩:=info_parts int_info
  refine (callsIn_wide (n:=3)).1 (callsIn_of_wp_marks Tryz.func43 rfl trivial (wpIn_wide.2 ?_) rfl)
  simp only [Tryz.ntmps43,List.size_toArray,List.length_cons,List.length_nil,Nat.reduceAdd,Nat.reduceSub,Array.replicate_succ,Array.replicate_zero,List.push_toArray,List.append_toArray,List.nil_append,List.cons_append]
  go_wp2
  go_loopw [3,4,13] (fun wv sv i W=>∃ k:Nat,k≤l.length∧i=.int .i64 k∧RootI w (stackTo l k) wv sv W) (fun _ _ i _=>l.length-(intOf i).toNat)
  case atStart=>exact ⟨0,Nat.zero_le _,rfl,World.ownsRow_nil _ _ _ _,World.ownsRow_nil _ _ _ _,HR.out,Below.refl _ _⟩
  case round =>
    obtain ⟨k,hk,rfl,hI⟩:=hrel
    by_cases hlt:k<l.length
    · obtain ⟨b, off, c', hA, _, hS, hcell⟩ := HV.out.at_ hlt
      injection hA with hA hn' hc'
      subst hA;subst hc'
      clear hn'
      have hbw:Below w.heap.size w wr:=hI.2.2.2
      have cx:=(hbw.cell (p:=⟨b,off+k,none⟩) (lt_of_cell hcell)).trans hcell
      obtain ⟨x,hx⟩:∃ x,x=l.getD k ⟨#[]⟩:=⟨_,rfl⟩
      rw [← hx] at cx
      have hxs:x.size≤500000:=by
        have h:=HL.out l[k] (List.getElem_mem hlt)
        rw [hx]
        simp [hlt]
        omega
      have HX:=Lib.hid hx
      clear hx hcell
      obtain ⟨st,hst⟩:∃ st,st=stackTo l k:=⟨_,rfl⟩
      rw [← hst] at hI
      have HST:=Lib.hid hst
      clear hst
      have hok:OkSt k st:=by rw [HST.out];exact stackTo_ok l k
      have hstl:st.length≤10000:=Nat.le_trans (okSt_length k st hok) (by omega)
      have HOK:=Lib.hid hok
      clear hok
      unfold RootI at hI
      have HI:=Lib.hid hI
      have hz:=hbw.size
      have HLf:=Lib.hid (leaf_any x wr hI.2.2.1 hxs)
      obtain ⟨A3,c3,h3⟩:=own_shape hI.1
      obtain ⟨A4,c4,h4⟩:=own_shape hI.2.1
      rw [List.length_map] at h3 h4
      subst h3;subst h4
      clear hI
      go_wp2_with (first
        | (go_at_call 76;refine HLf.out.mono ?_;rintro e W1 ⟨rfl,hb1⟩;have H1:=Lib.hid (HI.out.below hb1);have hz1:=hb1.size;clear hb1)
        | (at_builtin;refine wpList_append_own _ rfl (.tmp 17) (.tmp 20) 53 rfl w.heap.size 9 is (.string ⟨#[]⟩) 1 16 Tryz.underlying53 his hzs0 hzs1 hzs2 rfl (by decide) (.slice A3 st.length c3) (st.map (·.2)).length _ rfl (H1.out.alloc _).1 ⟨W1.heap.size,0,none⟩ 1 1 [.string (leafF x)] rfl rfl (cell_one_new _ _ _) ?_ ?_ ?_ ?_ ?_;(simp [Value.oneCell']);(rw [List.length_map];unfold maxLen;omega);(rw [List.length_map];omega);(rw [World.size_alloc];omega);intro wv2 W2 ho2 hg2 _;have H2:=Lib.hid (RS.appW (ys:=st.map (·.2)++[leafF x]) hr1 (H1.out.alloc _) (by simpa using ho2) (by simp) hg2);have hz2:=hg2.size;rw [World.size_alloc] at hz2;obtain ⟨A5,c5,h5⟩:=own_shape ho2;clear ho2 hg2;subst h5)
        | (at_builtin;refine wpList_append_own _ rfl (.tmp 22) (.tmp 23) 46 rfl w.heap.size 3 ii (.int .i64 0) 1 8 Tryz.underlying46 hii hzi0 hzi1 hzi2 rfl (by decide) (.slice A4 st.length c4) (st.map (·.1)).length _ rfl (H2.out.alloc _).2.1 ⟨W2.heap.size,0,none⟩ 1 1 [.int .i64 1] rfl rfl (cell_one_new _ _ _) ?_ ?_ ?_ ?_ ?_;(simp [Value.oneCell']);(rw [List.length_map];unfold maxLen;omega);(rw [List.length_map];omega);(rw [World.size_alloc];omega);intro sv2 W3 ho3 hg3 _;have H3:=Lib.hid (RS.appS (ys:=st.map (·.1)++[1]) hr1 (H2.out.alloc _) (by simpa using ho3) (by simp) hg3);obtain ⟨A6,c6,h6⟩:=own_shape ho3;clear ho3 hg3;subst h6))
      have H4:=Lib.hid (show RootI w (st++[(1,leafF x)]) (.slice A5 (st.length+1) c5) (.slice A6 (st.length+1) c6) W3 by
        unfold RootI
        have h:=H3.out
        simp only [List.length_map] at h
        simpa using h)
      have HOK2:=Lib.hid (okSt_push k st HOK.out x)
      clear HI H1 H2 H3 HLf cx
      go_loopw [3,4,7] (fun wv sv i W=>∃ (st':List (Nat × ByteArray)) (q:Nat),i=.int .i64 (q:Int)∧Hid (q=st'.length)∧RootI w st' wv sv W∧Hid (merged st'=merged (st++[(1,leafF x)])∧OkSt (k+1) st')) (fun _ _ i _=>(intOf i).toNat)
      case atStart=>exact ⟨st++[(1,leafF x)],st.length+1,by simp,by simp [Hid],H4.out,rfl,HOK2.out⟩
      case round =>
        obtain ⟨st',q,rfl,hq,hI,hM⟩:=hrel
        have hql:q≤10001:=by rw [hq.out];exact Nat.le_trans (okSt_length _ _ hM.out.2) (by omega)
        by_cases h2:2≤q
        · obtain ⟨i,⟨s1,a⟩,⟨s2,b2⟩,rfl⟩:=two_last st' (by rw [← hq.out];exact h2)
          obtain ⟨m,hm⟩:∃ m,m=i.length:=⟨_,rfl⟩
          obtain rfl:q=m+2:=by have:=hq.out;simp at this;omega
          have HM:=Lib.hid hm
          have ha:a.size=32:=(hM.out.2.2 (s1,a) (by simp)).1
          have hb2:b2.size=32:=(hM.out.2.2 (s2,b2) (by simp)).1
          have hs1:s1≤10001:=Nat.le_trans (okSt_le _ _ hM.out.2 (s1,a) (by simp)) (by omega)
          have hs2:s2≤10001:=Nat.le_trans (okSt_le _ _ hM.out.2 (s2,b2) (by simp)) (by omega)
          have HI:=Lib.hid hI
          unfold RootI at hI
          obtain ⟨gw,cw,hwv,_,hgw⟩:=hI.1.form (by simp)
          obtain ⟨gs,csz,hsv,_,hgs⟩:=hI.2.1.form (by simp)
          have el:((i++[(s1,a),(s2,b2)]).map (·.2)).length=m+2:=by simp [hm]
          have el':((i++[(s1,a),(s2,b2)]).map (·.1)).length=m+2:=by simp [hm]
          rw [el] at hwv
          rw [el'] at hsv
          subst hwv;subst hsv
          have hWo:=hI.1
          have hSo:=hI.2.1
          rw [el] at hWo
          rw [el'] at hSo
          have hcw:m+2≤cw:=own_cap hWo
          have hcs:m+2≤csz:=own_cap hSo
          have ca:wr.cell? ⟨gw,m,none⟩=some (.string a):=own_cell hWo (by simp [hm])
          have cb:wr.cell? ⟨gw,m+1,none⟩=some (.string b2):=own_cell hWo (by simp [hm])
          have c1:wr.cell? ⟨gs,m,none⟩=some (.int .i64 (s1:Int)):=own_cell hSo (by simp [hm])
          have c2:wr.cell? ⟨gs,m+1,none⟩=some (.int .i64 (s2:Int)):=own_cell hSo (by simp [hm])
          have HWo:=Lib.hid hWo
          have HSo:=Lib.hid hSo
          have hz3:=hI.2.2.2.size
          clear hI hWo hSo el el' hm hq
          have hm9:m+2≤10001:=hql
          have hd:decide ((1:Int)<(m:Int)+2)=true:=by simp;omega
          have e1:IntKind.i64.wrap ((m:Int)+2-2)=(m:Int):=by rw [IntWalk.i64_in _ (by omega)];omega
          have e1':IntKind.i64.wrap (m:Int)=(m:Int):=by rw [IntWalk.i64_in _ (by omega)]
          have e2':IntKind.i64.wrap ((m:Int)+1)=(m:Int)+1:=by rw [IntWalk.i64_in _ (by omega)]
          have e2:IntKind.i64.wrap ((m:Int)+2-1)=(m:Int)+1:=by rw [IntWalk.i64_in _ (by omega)];omega
          have q0:(0:Int)≤(m:Int):=by omega
          have q1:(m:Int)<(m:Int)+2:=by omega
          have q2:(0:Int)≤(m:Int)+1:=by omega
          have q3:(m:Int)+1<(m:Int)+2:=by omega
          have t1:((m:Int)+1).toNat=m+1:=by omega
          rw [show ((m+2:Nat):Int)=(m:Int)+2 from rfl]
          by_cases he:s1=s2
          · have hbe:((s1:Int) == (s2:Int))=true:=by simp [he]
            go_wp2
            go_quiet (fail)
            go_wp2
            have HIq:=Lib.hid (RS.drewN HI.out nq)
            have caq:(wr.drewN nq).cell? ⟨gw,m,none⟩=some (.string a):=ca
            have cbq:(wr.drewN nq).cell? ⟨gw,m+1,none⟩=some (.string b2):=cb
            have hzq:w.heap.size≤(wr.drewN nq).heap.size:=hz3
            clear ca cb c1 c2 HWo HSo HI hz3 hgw hgs
            generalize wr.drewN nq=Wq at *
            have HN:=Lib.hid (fun W (h:RoundOK W)=>node_any a b2 W h (by omega) (by omega))
            have q4:(m:Int)≤(cw:Int):=by omega
            have q5:(m:Int)≤(csz:Int):=by omega
            refine wp_region_noPanic ?_
            go_region_law (first
              | (refine step_append_own rfl (.tmp 47) (.tmp 59) 53 rfl w.heap.size 9 is (.string ⟨#[]⟩) 1 16 Tryz.underlying53 his hzs0 hzs1 hzs2 rfl (by decide) (.slice (some ⟨gw,0,none⟩) m cw) m _ (by rfl) (RS.cutW HM.out (H1.out.alloc _)) ⟨W1.heap.size,0,none⟩ 1 1 [.string (nodeF a b2)] (by rfl) rfl (cell_one_new _ _ _) ?_ ?_ ?_ ?_ ?_;(simp [Value.oneCell']);(unfold maxLen;omega);omega;(rw [World.size_alloc];have:Wq.heap.size≤W1.heap.size:=hz1;omega);intro wv2 W2 ho2 hg2;have H2:=Lib.hid (RS.appW (ys:=i.map (·.2)++[nodeF a b2]) hr1 (H1.out.alloc _) (n:=m+1) (by simpa using ho2) (by simp [HM.out]) hg2);have hz2:=hg2.size;rw [World.size_alloc] at hz2;obtain ⟨A5,c5,h5⟩:=own_shape ho2;clear ho2 hg2;subst h5)
              | (go_simp;go_at_call 77;refine (HN.out _ (HIq.out.drew).2.2.1).mono ?_;rintro e W1 ⟨rfl,hb1⟩;have H1:=Lib.hid (RS.below (HIq.out.drew) hb1);have hz1:=hb1.size;clear hb1))
            all_goals
              refine NoPanic.normal ?_
              have c2':W2.cell? ⟨gs,m+1,none⟩=some (.int .i64 (s2:Int)):=by
                have h:=H2.out.2.1
                rw [show ((i++[(s1,a),(s2,b2)]).map (·.1)).length=m+2 by simp [HM.out]] at h
                exact own_cell h (by simp [HM.out])
              have e5:IntKind.i64.wrap (2*(s2:Int))=2*(s2:Int):=by rw [IntWalk.i64_in _ (by omega)]
              have hzq2:w.heap.size≤W2.heap.size:=by
                have:Wq.heap.size≤W1.heap.size:=hz1
                omega
              clear hz1 hz2 H1 HN caq cbq HIq
              go_wp2
              refine wp_region_noPanic ?_
              go_region_law (refine step_append_own rfl (.tmp 64) (.tmp 71) 46 rfl w.heap.size 3 ii (.int .i64 0) 1 8 Tryz.underlying46 hii hzi0 hzi1 hzi2 rfl (by decide) (.slice (some ⟨gs,0,none⟩) m csz) m _ (by rfl) (RS.cutS HM.out (H2.out.alloc _).drew) ⟨W2.heap.size,0,none⟩ 1 1 [.int .i64 (2*(s2:Int))] (by rfl) rfl (show _ from cell_one_new W2 _ _) ?_ ?_ ?_ ?_ ?_;(simp [Value.oneCell']);(unfold maxLen;omega);omega;(show w.heap.size≤(W2.alloc _).heap.size;rw [World.size_alloc];omega);intro sv2 W3 ho3 hg3;have H4:=Lib.hid (RS.appS (ys:=i.map (·.1)++[2*s2]) hr1 (H2.out.alloc _).drew (n:=m+1) (by simpa using ho3) (by simp [HM.out]) hg3);obtain ⟨A6,c6,h6⟩:=own_shape ho3;clear ho3 hg3;subst h6)
              refine NoPanic.normal ?_
              go_wp2
              go_roundw
              case rel=>
                refine ⟨i++[(2*s2,nodeF a b2)],m+1,by go_num,by simp [Hid,HM.out],?_,?_,?_⟩
                · unfold RootI
                  simpa using H4.out
                · rw [← hM.out.1,he]
                  exact (merged_step i s2 a b2).symm
                · have h:=hM.out.2
                  rw [he] at h
                  exact okSt_merge _ i s2 a b2 h
              case measure=>simp [intOf]
          · have hbe:((s1:Int) == (s2:Int))=false:=by simp;omega
            go_wp2
            go_quiet (fail)
            go_wp2
            go_roundw
            case rel=>
              refine ⟨k+1,by omega,by go_num,?_⟩
              have he':stackTo l (k+1)=i++[(s1,a),(s2,b2)]:=by
                show merged (stackTo l k++[(1,leafF (l.getD k ⟨#[]⟩))])=_
                rw [← HST.out,← HX.out,← hM.out.1]
                exact merged_diff i s1 s2 a b2 he
              rw [he']
              exact HI.out.drewN nq
            case measure=>simp [intOf];omega
        · have hd:decide ((1:Int)<(q:Int))=false:=by simp;omega
          unfold RootI at hI
          obtain ⟨A7,c7,h7⟩:=own_shape hI.1
          obtain ⟨A8,c8,h8⟩:=own_shape hI.2.1
          subst h7;subst h8
          have HI:=Lib.hid hI
          clear hI
          go_wp2
          go_quiet (fail)
          go_wp2
          go_roundw
          case rel=>
            refine ⟨k+1,by omega,by go_num,?_⟩
            have he:stackTo l (k+1)=st':=by
              show merged (stackTo l k++[(1,leafF (l.getD k ⟨#[]⟩))])=st'
              rw [← HST.out,← HX.out,← hM.out.1]
              exact merged_short st' (by rw [← hq.out];omega)
            rw [he]
            exact HI.out.drewN nq
          case measure=>simp [intOf];omega
    · have hke : k = l.length := by omega
      obtain ⟨st,hst⟩:∃ st,st=stackTo l k:=⟨_,rfl⟩
      rw [← hst] at hI
      have hok:OkSt k st:=by rw [hst];exact stackTo_ok l k
      have hstl:st.length≤10000:=Nat.le_trans (okSt_length k st hok) (by omega)
      have HOK:=Lib.hid hok
      have HST:=Lib.hid hst
      have HKE:=Lib.hid hke
      clear hok hst
      unfold RootI at hI
      have HI:=Lib.hid hI
      have hz3:=hI.2.2.2.size
      rcases Nat.eq_zero_or_pos st.length with h0|hp
      · obtain ⟨A3,c3,h3⟩:=own_shape hI.1
        rw [List.length_map,h0] at h3
        subst h3
        have HS:=Lib.hid (sum_any ⟨#[]⟩ wr (by decide) hI.2.2.1)
        clear hI
        go_wp2_with (go_at_call 78;refine HS.out.mono ?_;rintro e W1 ⟨rfl,hb1⟩)
        refine ⟨_,results_tmp rfl _ _ _,?_,HI.out.2.2.2.trans (hb1.mono hz3)⟩
        have hl0:l=[]:=by
          have h:=HOK.out.1
          rw [List.eq_nil_of_length_eq_zero h0] at h
          simp at h
          exact List.eq_nil_of_length_eq_zero (by omega)
        rw [rootF,if_pos hl0]
        rfl
      · obtain ⟨ys,z,hys⟩:∃ ys z,st.map (·.2)=ys++[z]:=by
          have hne:st.map (·.2)≠[]:=fun h=>by
            rw [List.map_eq_nil_iff.1 h] at hp
            simp at hp
          exact ⟨_,_,(List.dropLast_concat_getLast hne).symm⟩
        have hsl:(st.map (·.2)).length=ys.length+1:=by rw [hys];simp
        have hys9:ys.length+1≤10000:=by rw [List.length_map] at hsl;omega
        have hszs:∀ y ∈ ys++[z],y.size=32:=fun y hy=>by
          rw [← hys] at hy
          obtain ⟨q,hq,rfl⟩:=List.mem_map.1 hy
          exact (HOK.out.2 q hq).1
        have hz32:z.size=32:=hszs z (by simp)
        have HSZ:=Lib.hid hszs
        have hWo:=hI.1
        rw [hsl,hys] at hWo
        obtain ⟨gw,cw,hwv,_,hgw⟩:=hWo.form (by omega)
        subst hwv
        have hcw:ys.length+1≤cw:=own_cap hWo
        have cz:wr.cell? ⟨gw,ys.length,none⟩=some (.string z):=own_cell hWo (by simp)
        have HC:=Lib.hid (fun (j:Nat) (x:ByteArray) (h:ys[j]? = some x)=>(own_cell hWo (k:=j) (x:=.string x) (by
          rw [List.map_append,List.getElem?_append_left (by rw [List.length_map];exact (List.getElem?_eq_some_iff.1 h).1),List.getElem?_map,h]
          rfl):wr.cell? ⟨gw,j,none⟩=some (.string x)))
        have HYS:=Lib.hid hys
        clear hI hWo hys hsl hszs
        have e1:IntKind.i64.wrap ((ys.length:Int)+1-1)=(ys.length:Int):=by rw [IntWalk.i64_in _ (by omega)];omega
        have e1':IntKind.i64.wrap (ys.length:Int)=(ys.length:Int):=by rw [IntWalk.i64_in _ (by omega)]
        have q0:(0:Int)≤(ys.length:Int):=by omega
        have q1:(ys.length:Int)<(ys.length:Int)+1:=by omega
        have q2:(ys.length:Int)≤(cw:Int):=by omega
        have q3:(((ys.length:Int)+1) == 0)=false:=by simp;omega
        have hnw:=World.new_ne wr ⟨gw,ys.length,none⟩ cz
        go_wp2_with (go_at_call 79;refine (back_any _ _ _ _).mono ?_;rintro e W1 ⟨rfl,rfl⟩)
        have hgl:gw<wr.heap.size:=lt_of_cell cz
        have hI0:RootJ w (wr.heap.size+2) wr.heap.size ys z ([]:List { k:Nat // k<ys.length }) ((wr.alloc (.cells #[.string z] 9)).alloc (.cells #[.slice (some ⟨gw,0,none⟩) ys.length cw] 53)):=
          ⟨⟨(Blk.new _ _ _).alloc _,(HI.out.2.2.1.below ((Below.refl _ _).alloc (Nat.le_refl _) _)).below ((Below.refl _ _).alloc (Nat.le_refl _) _)⟩,((HI.out.2.2.2.alloc hz3 _)).alloc (by simp;omega) _,by simp⟩
        refine (wpIn_wide (n:=3)).1 ?_
        refine' wpIn_rangeFunc_ownF rfl (by omega) (gf:=135) (lb:=#[.pointer (some ⟨wr.heap.size+1,0,none⟩)]) (by simp [Act.eval]) trivial (enters_of Tryz.func135 (by kernel_rfl) rfl)
          (back_stops 2 (by omega) (wr.heap.size+1) (wr.heap.size+2) wr.heap.size (some ⟨gw,0,none⟩) cw ys (by omega) (by omega) (by omega) _ (by simp) (by have h:=cell_new1 (wr.alloc (.cells #[.string z] 9)) (.slice (some ⟨gw,0,none⟩) ys.length cw) 53;rw [World.size_alloc] at h;exact h) (fun _=>⟨gw,0,rfl,by omega,by omega,fun j x hx=>by rw [Nat.zero_add];exact cell_al (cell_al (HC.out j x hx) _) _⟩))
          (fun h k=>KeptB.trans h k) (fun W l o o' hl h _ _ b hb1 _=>World.putObj_heap_other (fun e=>by subst e;simp at hl;omega)) (Below.refl _ _) (fun _=>rfl)
          (fun pre W=>RootJ w (wr.heap.size+2) wr.heap.size ys z pre W) (fun _ _ _=>False) (RootJ.own w (wr.heap.size+2) wr.heap.size ys z ys.length _ (by simp;omega)) (fun _ _ _ _ _ hs _ _=>hs) hI0
          _ ?assign ?body ?done ?stop
        case assign=>
          intro l x W K hK
          gi_wp2
          exact hK
        case body=>
          rintro l' pre x W ⟨⟨hB,hRo⟩,hb,hsz⟩ hlen
          obtain ⟨acc,hacc⟩:∃ acc,acc=accB ys z pre:=⟨_,rfl⟩
          have hac:acc.size=32:=by rw [hacc];exact accB_size ys pre z hz32
          rw [← hacc] at hB
          obtain ⟨y,hy⟩:∃ y,y=ys[x.1]'x.2:=⟨_,rfl⟩
          have hy32:y.size=32:=HSZ.out y (by rw [hy];exact List.mem_append_left _ (List.getElem_mem _))
          have hyD:ys.getD x.1 ⟨#[]⟩=y:=by rw [hy,List.getD_eq_getElem?_getD,List.getElem?_eq_getElem x.2];rfl
          simp only [← hy]
          have HACC:=Lib.hid hacc
          have HYD:=Lib.hid hyD
          have HB:=Lib.hid hB
          have HRo:=Lib.hid hRo
          have HBe:=Lib.hid hb
          have c0:W.cell? ⟨wr.heap.size,0,none⟩=some (.string acc):=hB.cell 0
          clear hacc hy hyD hB hRo hb
          gi_wp2_with fail
          refine ⟨trivial,(CallsIn.inRound l' (callsIn_wide.2 (node_any y acc W HRo.out (by omega) (by omega)))).mono ?_⟩
          rintro e W' ⟨rfl,hb'⟩
          have hB':=HB.out.below hb' HB.out.lt
          have c1:W'.cell? ⟨wr.heap.size,0,none⟩=some (.string acc):=hB'.cell 0
          have f1:W'.frozen? ⟨wr.heap.size,0,none⟩=false:=hB'.frozen 0
          have HB':=Lib.hid hB'
          clear hB'
          gi_wp2
          refine ⟨KeepsOthers.trans ⟨hb'.size,fun k o hk _=>(hb'.block k (Array.getElem?_eq_some_iff.1 hk).1).trans hk⟩ (KeepsOthers.setCell _ _ _),fun b hb1 hb2=>(Below.heap_setCell _ _ _ b hb2).trans (hb'.block b (by omega)),⟨?_,?_⟩,?_,?_⟩
          · rw [accB_snoc,HYD.out,← HACC.out]
            exact HB'.out.set_ 0 _
          · exact (HRo.out.below hb').keep fun p hp=>World.cell?_of_block (Below.heap_setCell _ _ _ _ (by rw [hp];show _≠wr.heap.size;omega))
          · exact (HBe.out.trans (hb'.mono HBe.out.size)).setCell (by show w.heap.size≤wr.heap.size;omega) _
          · exact Nat.le_trans (Nat.le_trans hsz hb'.size) (KeepsOthers.setCell _ _ _).size
        case done=>
          rintro D ys' W hD rfl ⟨⟨hB,hRo⟩,hb,hsz⟩ hK
          have c0:W.cell? ⟨wr.heap.size,0,none⟩=some (.string (accB ys z (downs ys.length ys.length))):=hB.cell 0
          generalize hac:accB ys z (downs ys.length ys.length)=acc at *
          have HAC:=Lib.hid hac
          clear hac
          go_wp2
          refine ⟨by simp,.inl ⟨_,_,rfl,run_takeDeferred hK,?_⟩⟩
          refine ⟨_,results_tmp rfl _ _ _,?_,?_⟩
          · rw [rootF,if_neg ?_]
            · show _=Ending.returned (.string (foldBack ((stackTo l l.length).map (·.2))))
              have e2:stackTo l l.length=st:=by rw [HST.out,HKE.out]
              rw [e2,HYS.out,← accB_all,HAC.out]
              rfl
            · intro h0
              have h1:=okSt_length k st HOK.out
              have h2:k=0:=by rw [HKE.out,h0];rfl
              omega
          · exact hb.grown (grownBy_putObj' W D _) hb.size (fun k e=>by injection e with e;simp at hD;omega)
        case stop=>
          rintro D c pre W _ _ h _
          exact h.elim
end
end Go.Proofs.YtimoapjhepmehaaGreatDoor
