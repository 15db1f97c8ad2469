/-
  A range over an iterator whose k-th value is known, in a box of the round; slices.Backward over sides in this form.
-/
import Derived.Test.YtnajpjnnlocfgaaGreatDoorJ36
import Derived.Test.YtnajpjnnlocfgaaGreatDoorJ1
import Derived.Test.YtnajpjnnlocfgaaGreatDoorJ32
import Derived.Test.YtnajpjnnlocfgaaGreatDoorJ39
set_option linter.unusedSimpArgs false
set_option linter.unusedVariables false
namespace Go.Proofs.YtnajpjnnlocfgaaGreatDoor
open Go.RowKit Go.Shelf
theorem wpIn_mem_box {n:Nat} {P:Program} {g:Operand} {ps:Array Tmp} {assign body:Code} {Q:Exit→Act→World→Prop} {a:Act} {w:World}
    (h1:1≤n) {gf:Nat} {lb:Array Value} (hg:a.eval g=.func (.func gf) #[] lb) (eg:∀ args w,(callFunc gf args).run P w=.ok (.enter gf args) w)
    {N:Nat} {C:World→Prop} {vals:Nat→Array Value} (hseq:SeqMem (n-1) P gf lb N C (fun k xs _=>xs=vals k)) (hps:∀ k,(vals k).size=ps.size)
    (I:Nat→World→Prop) (hI:∀ k,OwnP w.heap.size (I k)) (hC:∀ k W,I k W→C W) (h0:I 0 w) (t:TypeId) (cs:Nat→Array Value) (Fr:Nat→Nat→Act)
    (hassign:∀ (l h k:Nat) (W:World) (K:Act→World→Prop),h=W.heap.size→K (Fr k h) (W.alloc (.cells (cs k) t)) →
      assign.wpIn (Fence.wide.inRound l) (n-1-1) P (Exit.then K (fun _ _ _=>False)) { tmps:=(ps.zip (vals k)).foldl (fun t (p,v)=>t.setIfInBounds p v) a.tmps,defers:=[] } W)
    (hbody:∀ (l h k:Nat) (W:World),k<N→w.heap.size≤W.heap.size→w.heap.size≤h→Blk W h t (cs k)→I k W→body.wpIn (Fence.wide.inRound l) (n-1-1) P (OncePost w.heap.size (I (k+1)) W) (Fr k h) W)
    (hdone:∀ (D:Nat) (W:World),w.heap.size≤D→I N W→W.heap[D]? = some (.deferred (some []))→Q .normal { a with defers:={ target:=.collected D,args:=#[] }::a.defers } W) :
    (Code.rangeFunc g ps assign body).wpIn Fence.wide n P Q a w:=
  wpIn_mem h1 hg eg hseq (fun k xs W h=>by rw [h];exact hps k) I hI hC h0 (fun k a' W=>∃ h,w.heap.size≤h∧a'=Fr k h∧Blk W h t (cs k))
    (fun k a' _ X Y row hs hg hr=>by
      obtain ⟨h,hh,ha,hB⟩:=hs
      exact ⟨h,hh,ha,OwnP.blk (B:=w.heap.size) () X Y row hB hg hr⟩)
    (fun l k xs W K hk hsz hI' hm hK=>by
      subst hm
      exact hassign l W.heap.size k W K rfl (hK _ _ ((KeepsOthers.alloc W _).from _) (OwnFrom.alloc (s:=()) (hI k) _ hI') ⟨_,hsz,rfl,Blk.new _ _ _⟩))
    (fun l k a' W hk hsz hI' hA=>by
      obtain ⟨h,hh,rfl,hB⟩:=hA
      exact hbody l h k W hk hsz hh hB hI') hdone
def sdAt (ys:List (ByteArray × Bool)) (k:Nat):ByteArray × Bool:=ys.getD (ys.length-1-k) (⟨#[]⟩,false)
def sdIx (ys:List (ByteArray × Bool)) (k:Nat):Int:=(ys.length:Int)-1-(k:Int)
def sdVals (ys:List (ByteArray × Bool)) (k:Nat):Array Value:=#[.int .i64 (sdIx ys k),.agg #[.string (sdAt ys k).1,.bool (sdAt ys k).2]]
theorem sdAt_eq {ys:List (ByteArray × Bool)} {k:Nat} (h:k<ys.length):ys[ys.length-1-k]? = some (sdAt ys k):=by
  unfold sdAt
  rw [List.getD_eq_getElem?_getD,List.getElem?_eq_getElem (by omega)]
  rfl
def accM (f:ByteArray × Bool→ByteArray→ByteArray) (ys:List (ByteArray × Bool)) (z:ByteArray) (k:Nat):ByteArray:=(ys.drop (ys.length-k)).foldr f z
theorem accM_zero (f:ByteArray × Bool→ByteArray→ByteArray) (ys:List (ByteArray × Bool)) (z:ByteArray):accM f ys z 0=z:=by simp [accM]
theorem accM_all (f:ByteArray × Bool→ByteArray→ByteArray) (ys:List (ByteArray × Bool)) (z:ByteArray):accM f ys z ys.length=ys.foldr f z:=by simp [accM]
theorem accM_succ (f:ByteArray × Bool→ByteArray→ByteArray) {ys:List (ByteArray × Bool)} {k:Nat} (h:k<ys.length) (z:ByteArray):accM f ys z (k+1)=f (sdAt ys k) (accM f ys z k):=by
  unfold accM
  have h1:ys.length-(k+1)<ys.length:=by omega
  rw [List.drop_eq_getElem_cons h1,List.foldr_cons,show ys.length-(k+1)+1=ys.length-k by omega]
  congr 1
  have h2:=sdAt_eq h
  rw [show ys.length-1-k=ys.length-(k+1) by omega,List.getElem?_eq_getElem h1] at h2
  exact Option.some.inj h2
def BkC (Bs:Nat) (A:Option Addr) (c:Nat) (ys:List (ByteArray × Bool)) (W:World):Prop:=
  W.cell? ⟨Bs,0,none⟩=some (.slice A ys.length c)∧(0<ys.length→∃ b off,A=some ⟨b,off,none⟩∧∀ j x,ys[j]? = some x→SideAt W b (off+j*2) x)
section
attribute [local go_sem ↓] Go.wp_at_zero Go.wp_at_succ
attribute [local go_sem] Oper.semAt_some
set_option maxRecDepth 100000 in
set_option maxHeartbeats 1000000 in
theorem backM_in (n:Nat) (hn:1≤n) (l Bs:Nat) (A:Option Addr) (c:Nat) (ys:List (ByteArray × Bool)) (hN:ys.length≤1000000) (J:Nat→World→Prop) (hC:∀ k W,J k W→BkC Bs A c ys W)
    (hY:∀ k xs W1,k<ys.length→J k W1→xs=sdVals ys k→YieldAt Fence.wide (n-1) Tryz.prog l xs W1 fun e W'=>e=.returned (.bool true)∧J (k+1) W') (W:World) (h0:J 0 W) :
    CallsIn Fence.wide n Tryz.prog 106 #[.func (.yield l) #[] #[],.pointer (some ⟨Bs,0,none⟩)] W fun e W'=>(∃ v,e=.returned v)∧J ys.length W':=by
  have HC:=Lib.hid hC
  have HY:=Lib.hid hY
  have H0:=Lib.hid h0
  have hBs:=(hC 0 W h0).1
  clear hC hY h0
  refine callsIn_of_wp Tryz.func106 rfl trivial ?_ rfl
  simp only [Tryz.ntmps106,List.size_toArray,List.length_cons,List.length_nil,Nat.reduceAdd,Nat.reduceSub,Array.replicate_succ,Array.replicate_zero,List.push_toArray,List.append_toArray,List.nil_append,List.cons_append]
  gi_wp2
  gi_loopw [3] (fun i wr=>∃ k:Nat,k≤ys.length∧i=.int .i64 ((ys.length:Int)-1-(k:Int))∧J k wr) (fun i _=>(intOf i+1).toNat)
  case atStart=>exact ⟨0,Nat.zero_le _,by simp,H0.out⟩
  case round=>
    obtain ⟨k,hk,rfl,hJ⟩:=hrel
    have HJ:=Lib.hid hJ
    obtain ⟨cs,hc⟩:=HC.out _ _ hJ
    clear hJ H0 hBs
    by_cases hlt:k<ys.length
    · obtain ⟨b,off,rfl,hcell⟩:=hc (by omega)
      obtain ⟨q,hq⟩:∃ q,q=ys.length-1-k:=⟨_,rfl⟩
      have hqi:(ys.length:Int)-1-(k:Int)=(q:Int):=by omega
      have hql:q<ys.length:=by omega
      obtain ⟨x,hx⟩:∃ x,x=sdAt ys k:=⟨_,rfl⟩
      have hxq:=sdAt_eq hlt
      rw [← hx,← hq] at hxq
      obtain ⟨cx,cx'⟩:=hcell q x hxq
      obtain ⟨fn,tmps,assign,body,hy,hR⟩:=HY.out k _ wr hlt HJ.out rfl
      unfold sdVals sdIx at hy
      rw [← hx,hqi] at hy
      rw [hqi]
      have HQI:=Lib.hid hqi
      clear hq hqi hx hxq hcell hc
      have b0:(0:Int)≤(q:Int):=by omega
      have b1:(q:Int)<(ys.length:Int):=by omega
      gi_wp2
      refine hR.mono ?_
      rintro e W3 ⟨rfl,hJ3⟩
      have HJ3:=Lib.hid hJ3
      clear hJ3 hR hy
      gi_wp2
      go_roundw
      case rel=>
        refine ⟨k+1,by omega,?_,HJ3.out⟩
        have:=HQI.out
        have e:(q:Int)-1=(ys.length:Int)-1-((k+1:Nat):Int):=by omega
        rw [← e]
      case measure=>simp [intOf]
    · have HK:=Lib.hid (show k=ys.length by omega)
      have hneg:¬ (0:Int)≤(ys.length:Int)-1-(k:Int):=by omega
      gi_wp2
      go_end0
      have h9:=HJ.out
      rw [HK.out] at h9
      exact ⟨⟨_,rfl⟩,h9⟩
end
theorem backM_seq (n:Nat) (hn:1≤n) (Bs:Nat) (A:Option Addr) (c:Nat) (ys:List (ByteArray × Bool)) (hN:ys.length≤1000000) :
    SeqMem n Tryz.prog 106 #[.pointer (some ⟨Bs,0,none⟩)] ys.length (BkC Bs A c ys) (fun k xs _=>xs=sdVals ys k):=
  fun l J W hC _ hY h0=>backM_in n hn l Bs A c ys hN J hC hY W h0
theorem BkC.ext {Bs:Nat} {A:Option Addr} {c:Nat} {ys:List (ByteArray × Bool)} {W W':World} (h:BkC Bs A c ys W) (k:Below W.heap.size W W'):BkC Bs A c ys W':=
  ⟨cell_ext h.1 k,fun h0=>by obtain ⟨b,off,hA,hc⟩:=h.2 h0;exact ⟨b,off,hA,fun j x hx=>⟨cell_ext (hc j x hx).1 k,cell_ext (hc j x hx).2 k⟩⟩⟩
theorem BkC.set {Bs g:Nat} {A:Option Addr} {c:Nat} {ys:List (ByteArray × Bool)} {W:World} (h:BkC Bs A c ys W) (h1:g≠Bs) (h2:∀ b o,A=some ⟨b,o,none⟩→g≠b) (v:Value):BkC Bs A c ys (W.setCell ⟨g,0,none⟩ v):=
  ⟨(World.cell?_setCell_other W _ _ _ (by intro e;injection e with e _ _;exact h1 e)).trans h.1,fun h0=>by
    obtain ⟨b,off,hA,hc⟩:=h.2 h0
    exact ⟨b,off,hA,fun j x hx=>⟨(World.cell?_setCell_other W _ _ _ (by intro e;injection e with e _ _;exact h2 b off hA e)).trans (hc j x hx).1,(World.cell?_setCell_other W _ _ _ (by intro e;injection e with e _ _;exact h2 b off hA e)).trans (hc j x hx).2⟩⟩⟩
theorem OwnP.bkC {B Bs:Nat} {A:Option Addr} {c:Nat} {ys:List (ByteArray × Bool)}:OwnP B (BkC Bs A c ys):=fun _ X Y row hs hg hr=>
  ⟨cell_kept hs.1 hg (fun r e=>(hr r e).2),fun h0=>by obtain ⟨b,off,hA,hc⟩:=hs.2 h0;exact ⟨b,off,hA,fun j x hx=>⟨cell_kept (hc j x hx).1 hg (fun r e=>(hr r e).2),cell_kept (hc j x hx).2 hg (fun r e=>(hr r e).2)⟩⟩⟩
def sdC (xs:List (ByteArray × Bool)):List Value:=xs.flatMap fun x=>[.string x.1,.bool x.2]
theorem sdC_append (xs ys:List (ByteArray × Bool)):sdC (xs++ys)=sdC xs++sdC ys:=List.flatMap_append
theorem sdC_at:∀ (xs:List (ByteArray × Bool)) (j:Nat) (x:ByteArray × Bool),xs[j]? = some x→(sdC xs)[j*2]? = some (.string x.1)∧(sdC xs)[j*2+1]? = some (.bool x.2)
  | [],_,_,h=>by cases h
  | y::ys,0,x,h=>by obtain rfl:y=x:=Option.some.inj h;exact ⟨rfl,rfl⟩
  | y::ys,j+1,x,h=>by
    have h1:=sdC_at ys j x h
    rw [show (j+1)*2=j*2+2 by omega]
    exact h1
theorem bkC_of {B Bs c:Nat} {A:Option Addr} {ys:List (ByteArray × Bool)} {W:World} (h:W.ownsRow B 128 2 (.slice A ys.length c) ys.length (sdC ys)) (hb:W.cell? ⟨Bs,0,none⟩=some (.slice A ys.length c)):BkC Bs A c ys W:=
  ⟨hb,fun h0=>by
    obtain ⟨g,cap,hsh,-,-,-,hc⟩:=own_cells2 h h0
    injection hsh with hA _ _
    refine ⟨g,0,hA,fun j x hx=>?_⟩
    have h1:=sdC_at ys j x hx
    rw [Nat.zero_add]
    exact ⟨hc _ _ h1.1,hc _ _ h1.2⟩⟩
theorem own_lt {B sz n c:Nat} {A:Option Addr} {e:TypeId} {xs:List Value} {W:World} (h:W.ownsRow B e sz (.slice A n c) n xs) (b o:Nat) (hA:A=some ⟨b,o,none⟩):B≤b∧b<W.heap.size:=by
  rcases h.2 with ⟨h1,_⟩|⟨g,cap,cur,h1,h2,h3,_⟩
  · injection h1 with h1 _ _
    rw [hA] at h1
    cases h1
  · injection h1 with h1 _ _
    rw [hA] at h1
    injection h1 with h1
    injection h1 with h1 _ _
    subst h1
    exact ⟨h2,(Array.getElem?_eq_some_iff.1 h3).1⟩
end Go.Proofs.YtnajpjnnlocfgaaGreatDoor
