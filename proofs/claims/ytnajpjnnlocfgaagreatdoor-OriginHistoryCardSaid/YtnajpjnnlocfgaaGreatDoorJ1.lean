/-
  Part 1 of 9: the contracts that the proof of the last part uses; each stands under its own head.
-/
import Derived.WalkKit
import Derived.WalkSpells
import Derived.Below
import Derived.Laws.OwnMore
import Derived.Deep.Draws
import Derived.Laws.Rows
import Derived.Maps.AppendAt
import Derived.Deep.AppendLies
import Derived.Lib.Hide
import Derived.Lib.ConvBytes
import Derived.Test.YtnajpjnnlocfgaaGreatDoorProg
import Derived.WalkLawsBesides
import Derived.Deep.QuietTactic
import Derived.BigQuiet
import Derived.LoopN
import Derived.WalkMore
import Derived.BigRegion
import Derived.StillTailTactics
import Derived.Deep.RegionHeld3
import Derived.Deep.DrawnRows
import Derived.Laws.CopyOwn
import Derived.RangeFuncNested
import Derived.RangeFuncBound
import Derived.RangeFuncCalls
import Derived.RangeFuncLeaves
import Derived.RangeFuncBox
import Derived.Shelf.Abstract
import Derived.Shelf.RegionOpen
import Derived.OwnWalkIn
import Derived.TacticsInMore
import Derived.LoopNIn
import Derived.LoopIn
import Derived.ChangeKeysEq
import Derived.RangeFuncRecord
set_option linter.unusedSimpArgs false
set_option linter.unusedVariables false
set_option maxHeartbeats 4000000
set_option maxRecDepth 100000
namespace Go.Proofs.YtnajpjnnlocfgaaGreatDoor
section
open Go.RowKit
def Blk (w:World) (g:Nat) (t:TypeId) (cs:Array Value):Prop:=w.heap[g]? = some (.cells cs t (0,0))
section
variable {w w':World} {g:Nat} {t:TypeId} {cs:Array Value}
theorem Blk.lt (h:Blk w g t cs):g<w.heap.size:=by
  rcases Nat.lt_or_ge g w.heap.size with hlt|hge
  · exact hlt
  · unfold Blk at h;rw [Array.getElem?_eq_none hge] at h;cases h
theorem Blk.cell (h:Blk w g t cs) (i:Nat):w.cell? ⟨g,i,none⟩=cs[i]? := cell_of_row w g i cs t (0,0) h
theorem Blk.frozen (h:Blk w g t cs) (i:Nat):w.frozen? ⟨g,i,none⟩=false:=by
  unfold Blk at h
  simp [World.frozen?,h]
theorem Blk.new (w:World) (t:TypeId) (cs:Array Value):Blk (w.alloc (.cells cs t)) w.heap.size t cs:=heap_alloc_new w _
theorem Blk.new' (w:World) (t:TypeId) (cs:Array Value) {b:Nat} (h:b=w.heap.size):Blk (w.alloc (.cells cs t)) b t cs:=by subst h;exact heap_alloc_new w _
theorem Blk.drew (h:Blk w g t cs):Blk w.drew g t cs:=h
theorem Blk.drewN (h:Blk w g t cs) (n:Nat):Blk (w.drewN n) g t cs:=h
theorem Blk.alloc (h:Blk w g t cs) (o:Obj):Blk (w.alloc o) g t cs:=(Below.heap_alloc w o g h.lt).trans h
theorem Blk.set_ (h:Blk w g t cs) (i:Nat) (u:Value):Blk (w.setCell ⟨g,i,none⟩ u) g t (cs.setIfInBounds i u):=by
  unfold Blk at h ⊢
  simp [World.setCell,Array.getElem?_modify,h]
theorem Blk.far (h:Blk w g t cs) {p:Addr} (hp:g≠p.block) (u:Value):Blk (w.setCell p u) g t cs:=(Below.heap_setCell w p u g hp).trans h
theorem Blk.row (h:Blk w g t cs) (cs':Array Value):Blk (w.setRow g cs') g t cs':=by
  unfold Blk at h ⊢
  simp [World.setRow,Array.getElem?_modify,h]
theorem Blk.rowFar (h:Blk w g t cs) {g':Nat} (hg:g≠g') (cs':Array Value):Blk (w.setRow g' cs') g t cs:=(setRow_other w g' g cs' hg).trans h
theorem Blk.below {B:Nat} (h:Blk w g t cs) (hb:Below B w w') (hg:g<B):Blk w' g t cs:=(hb.block g hg).trans h
theorem Blk.grown {row:Option Nat} (h:Blk w g t cs) (hb:w.grownBy w' row) (hg:some g≠row):Blk w' g t cs:=(hb.block g h.lt hg).trans h
end
theorem grown_setRow (w:World) (g:Nat) (cs:Array Value):w.grownBy (w.setRow g cs) (some g):=
  ⟨rfl,rfl,rfl,by simp [World.setRow],fun i _ hne=>setRow_other w g i cs (fun e=>hne (by rw [e]))⟩
theorem wpList_store_blk {P:Program} {ops:Array Oper} {rest:List Oper} {o:Oper} {a:Act} {w:World} {Q:Exit→Act→World→Prop} (hgd:o.guard=none) (ty:TypeId) (x y:Operand) (ho:o.op=.store ty x y)
    (g:Nat) (cells:Array Value) (hx:a.eval x=.pointer (some ⟨g,0,none⟩)) (hy:a.eval y=.agg cells)
    (t:TypeId) (old:Array Value) (hg:Blk w g t old) (hi:(P.info? ty).map (·.size)=some cells.size)
    (hold:old.size=cells.size) (h1:cells.all (·.oneCell')=true)
    (h:∀ W',Blk W' g t cells→w.grownBy W' (some g)→wpList P ops Q rest (a.put o.dst undef) W'):wpList P ops Q (o::rest) a w:=
  wpList_store_row hgd ty x y ho g cells hx hy t old hg hi hold h1 (h _ (Blk.row hg cells) (grown_setRow w g cells))
theorem below_drewN {B:Nat} {a w:World} (h:Below B a w) (n:Nat):Below B a (w.drewN n):=⟨h.os,h.tape,h.output,h.size,h.block⟩
theorem lt_of_cell {w:World} {p:Addr} {v:Value} (h:w.cell? p=some v):p.block<w.heap.size:=by
  rcases Nat.lt_or_ge p.block w.heap.size with hlt|hge
  · exact hlt
  · unfold World.cell? at h;rw [Array.getElem?_eq_none hge] at h;cases h
theorem cell_al {w:World} {p:Addr} {v:Value} (h:w.cell? p=some v) (o:Obj):(w.alloc o).cell? p=some v:=
  (World.cell?_of_block (Below.heap_alloc w o p.block (lt_of_cell h))).trans h
theorem frozen_al {w:World} {p:Addr} {v:Value} (h:w.cell? p=some v) (hf:w.frozen? p=false) (o:Obj):(w.alloc o).frozen? p=false:=
  (World.frozen?_of_block (Below.heap_alloc w o p.block (lt_of_cell h))).trans hf
def valAt (w:World) (p:Addr):Value:=(w.cell? p).getD undef
theorem valAt_of {w:World} {p:Addr} {v:Value} (h:w.cell? p=some v):w.cell? p=some (valAt w p):=by unfold valAt;rw [h];rfl
theorem valAt_set {w:World} {p:Addr} {v:Value} (h:w.cell? p=some v) (x:Value):(w.setCell p x).cell? p=some (valAt (w.setCell p x) p):=by
  have h':(w.setCell p x).cell? p=some x:=World.cell?_setCell_same' _ _ _ (by rw [h];rfl)
  exact valAt_of h'
theorem ret_int {k:IntKind} {a b:Int} (h:a=b):Ending.returned (.int k a)=.returned (.int k b):=by rw [h]
end
section
open Go.RowKit
def OwnC (w:World) (base:Nat) (v:Value) (xs:List Value):Prop:=
  ∃ g cap,v=.slice (some ⟨g,0,none⟩) xs.length cap∧base≤g∧g<w.heap.size∧xs.length≤cap∧cap≤maxLen ∧
    (∀ j u,xs[j]? = some u→w.cell? ⟨g,j,none⟩=some u)∧(∀ j,j<cap→(w.cell? ⟨g,j,none⟩).isSome=true∧w.frozen? ⟨g,j,none⟩=false)
theorem add_lit0 (g j:Nat):(⟨g,0,none⟩:Addr).add j=⟨g,j,none⟩:=by unfold Addr.add;split <;> simp_all
theorem OwnC.of_own {w:World} {base e:Nat} {v:Value} {n:Nat} {xs:List Value} (h:w.ownsRow base e 1 v n xs) (hn:0<n):OwnC w base v xs:=by
  obtain ⟨hl,h⟩:=h
  rw [Nat.mul_one] at hl
  rcases h with ⟨_,h0⟩|⟨g,cap,cur,rfl,hb,hg,hle,hm,hs,ht⟩
  · omega
  · rw [Nat.mul_one] at hs ht
    have hlt:g<w.heap.size:=(Array.getElem?_eq_some_iff.1 hg).1
    refine ⟨g,cap,by rw [hl],hb,hlt,by omega,hm,fun j u hu=>?_,fun j hj=>⟨?_,?_⟩⟩
    · rw [cell_of_row w g j cur e (0,0) hg]
      rw [← ht,List.getElem?_take] at hu
      split at hu
      · simpa using hu
      · cases hu
    · rw [cell_of_row w g j cur e (0,0) hg,Array.getElem?_eq_getElem (by omega)];rfl
    · simp [World.frozen?,hg]
theorem OwnC.alloc {w:World} {base:Nat} {v:Value} {xs:List Value} (h:OwnC w base v xs) (o:Obj):OwnC (w.alloc o) base v xs:=by
  obtain ⟨g,cap,rfl,hb,hlt,hle,hm,hc,hf⟩:=h
  have hb':=Below.heap_alloc w o g hlt
  refine ⟨g,cap,rfl,hb,by simp;omega,hle,hm,fun j u hu=>?_,fun j hj=>⟨?_,?_⟩⟩
  · exact (World.cell?_of_block (a:=⟨g,j,none⟩) hb').trans (hc j u hu)
  · rw [World.cell?_of_block (w:=w) (a:=⟨g,j,none⟩) hb'];exact (hf j hj).1
  · rw [World.frozen?_of_block (w:=w) (a:=⟨g,j,none⟩) hb'];exact (hf j hj).2
section
variable {P:Program}
theorem run_append_c {w:World} (base t ty e:TypeId) (i:TypeInfo) (z:Value) (bytes:Nat) (ht:P.underlying t=some (.slice e)) (hi:P.info? e=some i) (hz:i.zero=some z)
    (hsize:i.size=1) (hby:i.bytes=bytes) (hzs:z.cells.size=1)
    (v:Value) (xs:List Value) (hown:OwnC w base v xs) (a:Addr) (c:Nat) (x:Value) (hx:w.cell? a=some x) (h1:x.oneCell'=true)
    (h63:xs.length+1≤maxLen) (hbytes:(xs.length+1)*bytes≤140737488355328) (hbase:base≤w.heap.size) :
    ∃ v' w',(Builtin.append_ #[t,t] ty #[v,.slice (some a) 1 c]).run P w=.ok v' w'∧OwnC w' base v' (xs++[x])∧w.grownBy w' v.ownBlock:=by
  obtain ⟨g,cap,rfl,hb,hlt,hle,hm,hc,hf⟩:=hown
  have hnews:∀ j u,[x][j]? = some u→w.cell? (a.add j)=some u:=by
    intro j u hu
    match j,hu with
    | 0,hu=>simp at hu;subst hu;rw [show a.add 0=a from by unfold Addr.add;simp];exact hx
    | (j+1),hu=>simp at hu
  have h1':∀ u ∈ [x],u.oneCell'=true:=by intro u hu;simp at hu;subst hu;exact h1
  by_cases hroom:xs.length+1≤cap
  · have hr:=run_append_room_cells (P:=P) w t ty e i ht hi g 0 xs.length cap a 1 c [x] (by rw [hsize];rfl) hnews h1' hroom
      (fun j hj=>by simp at hj;subst hj;rw [hsize];simpa using (hf xs.length (by omega)).1) (fun j hj=>by simp at hj;subst hj;rw [hsize];simpa using (hf xs.length (by omega)).2)
    rw [hsize,Nat.mul_one,Nat.zero_add] at hr
    have hset:w.setCells g xs.length [x]=w.setCell ⟨g,xs.length,none⟩ x:=rfl
    rw [hset] at hr
    have hthere:=(hf xs.length (by omega)).1
    have hblk:∀ k,k≠g→(w.setCell ⟨g,xs.length,none⟩ x).heap[k]? = w.heap[k]? := fun k hk=>Below.heap_setCell w ⟨g,xs.length,none⟩ x k hk
    refine ⟨_,_,hr,⟨g,cap,by simp,hb,by simpa [World.setCell] using hlt,by simpa using hroom,hm,fun j u hu=>?_,fun j hj=>⟨?_,?_⟩⟩,⟨rfl,rfl,rfl,by simp [World.setCell],fun k _ hk=>hblk k (fun e=>hk (by rw [e];rfl))⟩⟩
    · by_cases hj:j=xs.length
      · subst hj
        simp at hu
        subst hu
        exact World.cell?_setCell_same' _ _ _ hthere
      · rw [World.cell?_setCell_other w ⟨g,xs.length,none⟩ ⟨g,j,none⟩ x (fun e=>hj (by injection e with _ e;exact e.symm))]
        refine hc j u ?_
        rcases Nat.lt_or_ge j xs.length with h|h
        · rwa [List.getElem?_append_left h] at hu
        · rw [List.getElem?_append_right h] at hu
          match hq:j-xs.length,hu with
          | 0,_=>omega
          | (q+1),hu=>simp at hu
    · by_cases hj':j=xs.length
      · subst hj'
        rw [World.cell?_setCell_same' _ _ _ hthere];rfl
      · rw [World.cell?_setCell_other w ⟨g,xs.length,none⟩ ⟨g,j,none⟩ x (fun e=>hj' (by injection e with _ e;exact e.symm))]
        exact (hf j hj).1
    · rw [World.frozen?_setCell];exact (hf j hj).2
  · obtain ⟨v',w',hr,ho,hgr⟩:=run_append_arg_grows (P:=P) w t ty e i z 1 bytes ht hi hz hsize hby hzs (by omega) ⟨g,0,none⟩ xs.length cap xs (by omega) (fun j u hu=>by rw [add_lit0];exact hc j u hu)
      a 1 c [x] rfl hnews (by omega) h63 hbytes
    have hown:=OwnC.of_own ho (by omega)
    obtain ⟨g',cap',rfl,hb',r⟩:=hown
    exact ⟨_,w',hr,⟨g',cap',rfl,by omega,r⟩,⟨hgr.os,hgr.tape,hgr.output,hgr.size,fun k hk _=>hgr.block k hk (by simp)⟩⟩
end
theorem ownC_bytes (w:World) (e:TypeId) (s:ByteArray) (hs:s.size≤maxLen) :
    OwnC (Lib.bytesWorld w e s) w.heap.size (.slice (some ⟨w.heap.size,0,none⟩) s.size (grownCap w s.size 0 e)) (s.data.toList.map fun b=>Value.int .u8 b.toNat):=by
  have hge:=grownCap_ge w s.size 0 e
  have hmx:=grownCap_le_maxLen w s.size 0 e hs
  have hsz:(Lib.bytesCells w e s).size=grownCap w s.size 0 e:=by
    unfold Lib.bytesCells
    simp
    have:s.data.size=s.size:=rfl
    omega
  have hblk:=Lib.bytesWorld_at_new w e s
  refine ⟨w.heap.size,grownCap w s.size 0 e,by simp,Nat.le_refl _,by rw [Lib.bytesWorld_size];omega,by simpa using hge,hmx,fun j u hu=>?_,fun j hj=>⟨?_,?_⟩⟩
  · rw [cell_of_row _ _ j _ _ _ hblk]
    unfold Lib.bytesCells
    have hj:j<s.data.size:=by
      rcases Nat.lt_or_ge j s.data.size with h|h
      · exact h
      · rw [List.getElem?_eq_none (by simpa using h)] at hu;cases hu
    rw [Array.getElem?_append_left (by simpa using hj)]
    simpa using hu
  · rw [cell_of_row _ _ j _ _ _ hblk,Array.getElem?_eq_getElem (by rw [hsz];exact hj)];rfl
  · simp [World.frozen?,hblk,hsz];omega
theorem below_bytes (w:World) (e:TypeId) (s:ByteArray):Below w.heap.size w (Lib.bytesWorld w e s):=
  ⟨by unfold Lib.bytesWorld World.freeze;simp;rfl,by unfold Lib.bytesWorld World.freeze;simp,by unfold Lib.bytesWorld World.freeze;simp;rfl,by rw [Lib.bytesWorld_size];omega,fun k hk=>Lib.bytesWorld_at_old w e s k hk⟩
end
section
open Go.RowKit
section
variable {w W W':World}
theorem ext_refl (w:World):Below w.heap.size w w:=Below.refl _ _
theorem ext_alloc (h:Below w.heap.size w W) (o:Obj):Below w.heap.size w (W.alloc o):=h.alloc h.size o
theorem ext_new (w:World) (o:Obj):Below w.heap.size w (w.alloc o):=ext_alloc (ext_refl w) o
theorem ext_call (h:Below w.heap.size w W) (k:Below W.heap.size W W'):Below w.heap.size w W':=h.trans (k.mono h.size)
theorem ext_drewN (h:Below w.heap.size w W) (n:Nat):Below w.heap.size w (W.drewN n):=below_drewN h n
theorem ext_set (h:Below w.heap.size w W) {p:Addr} (hp:w.heap.size≤p.block) (v:Value):Below w.heap.size w (W.setCell p v):=h.setCell hp v
theorem Blk.ext {g:Nat} {t:TypeId} {cs:Array Value} (h:Blk W g t cs) (k:Below W.heap.size W W'):Blk W' g t cs:=h.below k h.lt
theorem cell_ext {p:Addr} {v:Value} (h:W.cell? p=some v) (k:Below W.heap.size W W'):W'.cell? p=some v:=(k.cell (lt_of_cell h)).trans h
theorem heap_ext {g:Nat} {o:Obj} (h:W.heap[g]? = some o) (k:Below W.heap.size W W'):W'.heap[g]? = some o:=(k.block g (Array.getElem?_eq_some_iff.1 h).1).trans h
end
end
section
open Go.RowKit
theorem logtree_isDigest (s:ByteArray) (w:World) :
    Calls Tryz.prog 47 #[.string s] w fun e w'=>e=.returned (.bool ((s.size:Int) == 32))∧w=w':=by
  go_enter Tryz.func47,Tryz.ntmps47
  go_wp2
  go_ret
  exact ⟨rfl,rfl⟩
end
section
open Go.RowKit
def IntsAt (w:World) (b off:Nat) (l:List Int):Prop:=∀ j x,l[j]? = some x→w.cell? ⟨b,off+j,none⟩=some (.int .i64 x)
theorem IntsAt.of_blk {w:World} {g:Nat} {t:TypeId} {cs:Array Value} (h:Blk w g t cs) (off:Nat) (l:List Int) (hl:(cs.toList.drop off).take l.length=l.map (Value.int .i64)):IntsAt w g off l:=by
  intro j x hx
  rw [h.cell]
  have h1:(l.map (Value.int .i64))[j]? = some (.int .i64 x):=by rw [List.getElem?_map,hx];rfl
  rw [← hl,List.getElem?_take] at h1
  split at h1
  · rw [List.getElem?_drop] at h1
    simpa using h1
  · cases h1
def inF (lo hi:Int) (l:List Int):Bool:=l.all fun n=>decide (lo≤n) && decide (n≤hi)
theorem within1_in (n lo hi:Int) (bl bh:Nat) (w:World) (hl:w.cell? ⟨bl,0,none⟩=some (.int .i64 lo)) (hh:w.cell? ⟨bh,0,none⟩=some (.int .i64 hi)) (h1:lo≤n) (h2:n≤hi) :
    Calls Tryz.prog 175 #[.int .i64 n,.pointer (some ⟨bl,0,none⟩),.pointer (some ⟨bh,0,none⟩)] w fun e w'=>e=.returned (.bool false)∧w=w':=by
  have d1:decide (n<lo)=false:=decide_eq_false (by omega)
  have d2:decide (hi<n)=false:=decide_eq_false (by omega)
  go_enter Tryz.func175,Tryz.ntmps175
  go_wp2
  go_ret
  exact ⟨rfl,rfl⟩
theorem indexIn_yes (b off c:Nat) (l:List Int) (lo hi:Int) (bl bh:Nat) (w:World) (hl:w.cell? ⟨bl,0,none⟩=some (.int .i64 lo)) (hh:w.cell? ⟨bh,0,none⟩=some (.int .i64 hi)) (hc:IntsAt w b off l) (hn:l.length≤100000) (hin:inF lo hi l=true) :
    Calls Tryz.prog 213 #[.slice (some ⟨b,off,none⟩) l.length c,.func (.func 175) #[] #[.pointer (some ⟨bl,0,none⟩),.pointer (some ⟨bh,0,none⟩)]] w fun e w'=>e=.returned (.int .i64 (-1))∧w=w':=by
  have HC:=Lib.hid hc
  have HI:=Lib.hid (List.all_eq_true.1 hin)
  have HL:=Lib.hid hl
  have HH:=Lib.hid hh
  clear hc hin hl hh
  go_enter Tryz.func213,Tryz.ntmps213
  go_wp2
  go_loop [8] (fun i=>∃ k:Nat,k≤l.length∧i=.int .i64 k) (fun i=>l.length-(intOf i).toNat)
  case atStart=>exact ⟨0,Nat.zero_le _,rfl⟩
  case round=>
    obtain ⟨k,hk,rfl⟩:=hrel
    by_cases hlt:k<l.length
    · have hcell:=HC.out k l[k] (List.getElem?_eq_getElem hlt)
      have hx:=HI.out l[k] (List.getElem_mem hlt)
      obtain ⟨x,hxe⟩:∃ x,x=l[k]:=⟨_,rfl⟩
      rw [← hxe] at hcell hx
      clear hxe
      have hx1:lo≤x:=by simp at hx;exact hx.1
      have hx2:x≤hi:=by simp at hx;exact hx.2
      clear hx
      go_wp2_with (go_at_call 175;refine (within1_in _ _ _ _ _ _ HL.out HH.out hx1 hx2).mono ?_;rintro e w' ⟨rfl,rfl⟩)
      go_round
      case rel=>exact ⟨k+1,by omega,by go_num⟩
      case measure=>simp [intOf];omega
    · go_wp2
      go_ret
      exact ⟨rfl,rfl⟩
theorem within_yes (b off c:Nat) (l:List Int) (lo hi:Int) (w:World) (hc:IntsAt w b off l) (hb:b<w.heap.size) (hn:l.length≤100000) (hin:inF lo hi l=true) :
    Calls Tryz.prog 130 #[.int .i64 lo,.int .i64 hi,.slice (some ⟨b,off,none⟩) l.length c] w fun e w'=>e=.returned (.bool true)∧Below w.heap.size w w':=by
  have hmf:∀ (fn:Fn) (first cap:Array Value) (w:World),(Instr.makeFunc fn first cap).run Tryz.prog w=.ok (.func fn first cap) w:=fun _ _ _ _=>rfl
  have hbl:Below w.heap.size w ((w.alloc (.cells #[.int .i64 lo] 3)).alloc (.cells #[.int .i64 hi] 3)):=((Below.refl _ _).alloc (Nat.le_refl _) _).alloc (by simp) _
  have HI:=Lib.hid (indexIn_yes b off c l lo hi w.heap.size (w.heap.size+1) ((w.alloc (.cells #[.int .i64 lo] 3)).alloc (.cells #[.int .i64 hi] 3)) (cell_al ((Blk.new _ _ _).cell 0) _) ((Blk.new' _ _ _ (by simp)).cell 0) (fun j x hx=>(hbl.cell (p:=⟨b,off+j,none⟩) hb).trans (hc j x hx)) hn hin)
  have HB:=Lib.hid hbl
  clear hc hin hbl
  go_enter Tryz.func130,Tryz.ntmps130
  go_wp2_with (first
    | (go_at_call 174;go_in)
    | (go_at_call 213;refine HI.out.mono ?_;rintro e w' ⟨rfl,rfl⟩))
  go_ret
  exact ⟨rfl,HB.out⟩
structure RowT where
  (t k a b c:Int)
def RowT.arr (r:RowT):Array Value:=#[.int .i64 r.t,.int .i64 r.k,.int .i64 r.a,.int .i64 r.b,.int .i64 r.c]
def RowT.val (r:RowT):Value:=.agg r.arr
def RowT.ok (r:RowT):Prop:=(0≤r.t∧r.t≤3)∧(1≤r.k∧r.k≤1000000)∧(-1000000000≤r.a∧r.a≤1000000000)∧(-1000000000≤r.b∧r.b≤1000000000)∧(-1000000000≤r.c∧r.c≤1000000000)
theorem rowValid_yes (r:RowT) (w:World) (hr:r.ok) :
    Calls Tryz.prog 160 #[.agg #[.int .i64 r.t,.int .i64 r.k,.int .i64 r.a,.int .i64 r.b,.int .i64 r.c]] w fun e w'=>e=.returned (.bool true)∧Below w.heap.size w w':=by
  obtain ⟨t,k,a,b,c⟩:=r
  obtain ⟨⟨h1,h2⟩,⟨h3,h4⟩,⟨h5,h6⟩,⟨h7,h8⟩,⟨h9,h10⟩⟩:=hr
  dsimp only at *
  have i1:inF 0 3 [t]=true:=by simp [inF,h1,h2]
  have i2:inF 1 1000000 [k]=true:=by simp [inF,h3,h4]
  have i3:inF (-1000000000) 1000000000 [a,b,c]=true:=by simp [inF,h5,h6,h7,h8,h9,h10]
  have I1:=Lib.hid i1
  have I2:=Lib.hid i2
  have I3:=Lib.hid i3
  clear i1 i2 i3 h1 h2 h3 h4 h5 h6 h7 h8 h9 h10
  go_enter Tryz.func160,Tryz.ntmps160
  have hB0:Blk (w.alloc (.cells #[.int .i64 t,.int .i64 k,.int .i64 a,.int .i64 b,.int .i64 c] 108)) w.heap.size 108 #[.int .i64 t,.int .i64 k,.int .i64 a,.int .i64 b,.int .i64 c]:=Blk.new _ _ _
  have HB0:=Lib.hid hB0
  clear hB0
  go_wp2_with fail
  refine (within_yes (w.heap.size+1) 0 1 [t] 0 3 _ (.of_blk (Blk.new' _ _ _ (by simp)) 0 [t] rfl) (by simp) (by simp) I1.out).mono ?_
  rintro e W1 ⟨rfl,hb1⟩
  have hB1:=(HB0.out.alloc _).ext hb1
  have c1:=hB1.cell 1
  have HB1:=Lib.hid hB1
  have HL1:=Lib.hid (ext_call (ext_alloc (ext_new w _) _) hb1)
  clear hb1 hB1
  go_wp2_with fail
  refine (within_yes W1.heap.size 0 1 [k] 1 1000000 _ (.of_blk (Blk.new _ _ _) 0 [k] rfl) (by simp) (by simp) I2.out).mono ?_
  rintro e W2 ⟨rfl,hb2⟩
  have HB2:=Lib.hid ((HB1.out.alloc _).ext hb2)
  have HL2:=Lib.hid (ext_call (ext_alloc HL1.out _) hb2)
  clear hb2 c1
  go_wp2_with fail
  refine (within_yes w.heap.size 2 3 [a,b,c] (-1000000000) 1000000000 _ (.of_blk HB2.out 2 [a,b,c] rfl) HB2.out.lt (by simp) I3.out).mono ?_
  rintro e W3 ⟨rfl,hb3⟩
  go_wp2
  go_ret
  exact ⟨rfl,ext_call HL2.out hb3⟩
def RowT.col (r:RowT) (j:Nat):Int:=match j with|0=>r.k|1=>r.a|2=>r.b|3=>r.c|_=>0
theorem rowValue_any (r:RowT) (j:Nat) (hj:j<4) (w:World) :
    Calls Tryz.prog 212 #[.agg #[.int .i64 r.t,.int .i64 r.k,.int .i64 r.a,.int .i64 r.b,.int .i64 r.c],.int .i64 (j:Int)] w fun e w'=>e=.returned (.int .i64 (r.col j))∧Below w.heap.size w w':=by
  obtain ⟨t,k,a,b,c⟩:=r
  match j,hj with
  | 0,_=>
    go_enter Tryz.func212,Tryz.ntmps212
    go_wp2
    go_ret
    exact ⟨rfl,ext_new _ _⟩
  | 1,_=>
    go_enter Tryz.func212,Tryz.ntmps212
    go_wp2
    go_ret
    exact ⟨rfl,ext_new _ _⟩
  | 2,_=>
    go_enter Tryz.func212,Tryz.ntmps212
    go_wp2
    go_ret
    exact ⟨rfl,ext_new _ _⟩
  | 3,_=>
    go_enter Tryz.func212,Tryz.ntmps212
    go_wp2
    go_ret
    exact ⟨rfl,ext_new _ _⟩
theorem row_size:(Tryz.prog.info? 108).map (·.size)=some 5:=by kernel_rfl
theorem row_one (t k a b c:Int):(#[.int .i64 t,.int .i64 k,.int .i64 a,.int .i64 b,.int .i64 c]:Array Value).all (·.oneCell')=true:=by simp [Value.oneCell']
theorem half_yes (t k:Int) (x y:Bool) (o1 o2 o3 n1 n2 n3 a b c:Int) (w:World) :
    Calls Tryz.prog 81 #[.agg #[.int .i64 t,.int .i64 k,.bool x,.int .i64 o1,.int .i64 o2,.int .i64 o3,.bool y,.int .i64 n1,.int .i64 n2,.int .i64 n3],.bool true,.agg #[.int .i64 a,.int .i64 b,.int .i64 c]] w fun e w'=>
      e=.returned (.tuple #[.agg #[.int .i64 t,.int .i64 k,.int .i64 a,.int .i64 b,.int .i64 c],.bool true])∧Below w.heap.size w w':=by
  go_enter Tryz.func81,Tryz.ntmps81
  go_wp2
  refine bodyPost_ret (v:=.tuple #[.agg #[.int .i64 t,.int .i64 k,.int .i64 a,.int .i64 b,.int .i64 c],.bool true]) (by simp [results,Tryz.results81,go_sem]) rfl ⟨rfl,?_⟩
  exact ext_alloc (ext_alloc (ext_new _ _) _) _
theorem half_no (t k:Int) (x y:Bool) (o1 o2 o3 n1 n2 n3 a b c:Int) (w:World) :
    Calls Tryz.prog 81 #[.agg #[.int .i64 t,.int .i64 k,.bool x,.int .i64 o1,.int .i64 o2,.int .i64 o3,.bool y,.int .i64 n1,.int .i64 n2,.int .i64 n3],.bool false,.agg #[.int .i64 a,.int .i64 b,.int .i64 c]] w fun e w'=>
      e=.returned (.tuple #[.agg #[.int .i64 0,.int .i64 0,.int .i64 0,.int .i64 0,.int .i64 0],.bool false])∧Below w.heap.size w w':=by
  go_enter Tryz.func81,Tryz.ntmps81
  go_wp2
  refine bodyPost_ret (v:=.tuple #[.agg #[.int .i64 0,.int .i64 0,.int .i64 0,.int .i64 0,.int .i64 0],.bool false]) (by simp [results,Tryz.results81,go_sem]) rfl ⟨rfl,?_⟩
  exact ext_alloc (ext_alloc (ext_new _ _) _) _
theorem after_put (r:RowT) (w:World) :
    Calls Tryz.prog 44 #[.agg #[.int .i64 r.t,.int .i64 r.k,.bool false,.int .i64 0,.int .i64 0,.int .i64 0,.bool true,.int .i64 r.a,.int .i64 r.b,.int .i64 r.c]] w fun e w'=>
      e=.returned (.tuple #[.agg #[.int .i64 r.t,.int .i64 r.k,.int .i64 r.a,.int .i64 r.b,.int .i64 r.c],.bool true])∧Below w.heap.size w w':=by
  obtain ⟨t,k,a,b,c⟩:=r
  dsimp only
  go_enter Tryz.func44,Tryz.ntmps44
  go_wp2_with fail
  refine (half_yes _ _ _ _ _ _ _ _ _ _ _ _ _ _).mono ?_
  rintro e W1 ⟨rfl,hb1⟩
  have HL1:=Lib.hid (ext_call (ext_alloc (ext_new w _) _) hb1)
  have hB1:=(Blk.new' (w.alloc (.cells #[.int .i64 t,.int .i64 k,.bool false,.int .i64 0,.int .i64 0,.int .i64 0,.bool true,.int .i64 a,.int .i64 b,.int .i64 c] 62)) 108 #[.int .i64 0,.int .i64 0,.int .i64 0,.int .i64 0,.int .i64 0] (b:=w.heap.size+1) (by simp)).ext hb1
  have HB1:=Lib.hid hB1
  have HI:=Lib.hid row_size
  have H1:=Lib.hid (row_one t k a b c)
  clear hB1 hb1
  go_wp2_with (refine wpList_store_blk rfl 108 (.tmp 2) (.tmp 10) rfl (w.heap.size+1) #[.int .i64 t,.int .i64 k,.int .i64 a,.int .i64 b,.int .i64 c] rfl rfl 108 #[.int .i64 0,.int .i64 0,.int .i64 0,.int .i64 0,.int .i64 0] HB1.out HI.out rfl H1.out ?_;intro W2 hB2 hg2)
  have c0:=hB2.cell 0
  have c1:=hB2.cell 1
  have c2:=hB2.cell 2
  have c3:=hB2.cell 3
  have c4:=hB2.cell 4
  refine bodyPost_ret (v:=.tuple #[.agg #[.int .i64 t,.int .i64 k,.int .i64 a,.int .i64 b,.int .i64 c],.bool true]) (by simp [results,Tryz.results44,go_sem,c0,c1,c2,c3,c4]) rfl ⟨rfl,?_⟩
  exact HL1.out.grown hg2 HL1.out.size (fun k e=>by injection e with e;omega)
end
section
open Go.RowKit
def shlU (x y:Int):Int:=IntKind.u32.wrap (x*2 ^ min y.toNat 32)
def shrU (x y:Int):Int:=x / 2 ^ min y.toNat 32
theorem run_shlU (P:Program) (x y:Int) (k:IntKind) (h:0≤y) (w:World):(Op.shift .shl .u32 x k y).run P w=.ok (.int .u32 (shlU x y)) w:=by
  unfold Op.shift;rw [if_neg (by omega)];rfl
theorem u64_wrap_nonneg (x:Int):0≤IntKind.u64.wrap x:=by rw [IntKind.wrap_u64];omega
def rotN (k:Int):Int:=bits .and .u64 (IntKind.u64.wrap k) 31
theorem rotN_nonneg (k:Int):0≤rotN k:=by unfold rotN bits;exact u64_wrap_nonneg _
def rotlF (x k:Int):Int:=bits .or .u32 (shlU x (rotN k)) (shrU x (IntKind.u64.wrap (32-rotN k)))
theorem rotl_any (x k:Int) (w:World) :
    Calls Tryz.prog 184 #[.int .u32 x,.int .i64 k] w fun e w'=>e=.returned (.int .u32 (rotlF x k))∧w=w':=by
  have h1:=run_shlU Tryz.prog x (bits .and .u64 (IntKind.u64.wrap k) 31) .u64 (rotN_nonneg k)
  go_enter Tryz.func184,Tryz.ntmps184
  go_wp2
  go_ret
  exact ⟨rfl,rfl⟩
def mixedF (x:Int) (l:List Int):Int:=l.foldl (fun o n=>bits .xor .u32 o (rotlF x (wrap64 (-n)))) 0
theorem mixedF_snoc (x:Int) (l:List Int) (n:Int):mixedF x (l++[n])=bits .xor .u32 (mixedF x l) (rotlF x (wrap64 (-n))):=by
  simp [mixedF]
theorem mixed_any (x:Int) (b n c:Nat) (zs:List Int) (w:World) (hn:zs.length=n) (h8:n≤8)
    (hc:∀ k,k<n→w.cell? ⟨b,k,none⟩=some (.int .i64 (zs.getD k 0))) :
    Calls Tryz.prog 147 #[.int .u32 x,.slice (some ⟨b,0,none⟩) n c] w fun e w'=>e=.returned (.int .u32 (mixedF x zs))∧w=w':=by
  have HC:=Lib.hid hc;clear hc
  have HN:=Lib.hid hn;clear hn
  go_enter Tryz.func147,Tryz.ntmps147
  go_wp2
  go_loop [5,10] (fun t i=>∃ k:Nat,k≤n∧i=.int .i64 k∧t=.int .u32 (mixedF x (zs.take k))) (fun _ i=>n-(intOf i).toNat)
  case atStart=>exact ⟨0,Nat.zero_le _,rfl,rfl⟩
  case round=>
    obtain ⟨k,hk,rfl,rfl⟩:=hrel
    by_cases hlt:k<n
    · have hcell:=HC.out k hlt
      go_wp2_with (go_at_call 184;refine (rotl_any _ _ _).mono ?_;rintro e w' ⟨rfl,rfl⟩)
      go_round
      case rel=>
        refine ⟨k+1,by omega,by go_num,?_⟩
        have e:zs.take (k+1)=zs.take k++[zs.getD k 0]:=by
          rw [List.take_succ_eq_append_getElem (by rw [HN.out];exact hlt)]
          simp [HN.out,hlt]
        rw [e,mixedF_snoc]
        simp
      case measure=>simp [intOf];omega
    · go_wp2
      go_ret
      have e:zs.take k=zs:=List.take_of_length_le (by rw [HN.out];omega)
      rw [e]
      exact ⟨rfl,rfl⟩
theorem mixed2_any (x y z:Int) (b:Nat) (w:World) (h:Blk w b 3 #[.int .i64 y,.int .i64 z]) :
    Calls Tryz.prog 147 #[.int .u32 x,.slice (some ⟨b,0,none⟩) 2 2] w fun e w'=>e=.returned (.int .u32 (mixedF x [y,z]))∧w=w':=
  mixed_any x b 2 2 [y,z] w rfl (by omega) (fun k hk=>by
    rw [h.cell k]
    match k,hk with
    | 0,_=>rfl
    | 1,_=>rfl)
theorem mixed3_any (x y z u:Int) (b:Nat) (w:World) (h:Blk w b 3 #[.int .i64 y,.int .i64 z,.int .i64 u]) :
    Calls Tryz.prog 147 #[.int .u32 x,.slice (some ⟨b,0,none⟩) 3 3] w fun e w'=>e=.returned (.int .u32 (mixedF x [y,z,u]))∧w=w':=
  mixed_any x b 3 3 [y,z,u] w rfl (by omega) (fun k hk=>by
    rw [h.cell k]
    match k,hk with
    | 0,_=>rfl
    | 1,_=>rfl
    | 2,_=>rfl)
end
section
open Go.RowKit
attribute [local go_sem ↓] Go.wp_at_zero Go.wp_at_succ
def pad64 (l:List Int):Array Value:=((l++List.replicate (64-l.length) 0).map (Value.int .u32)).toArray
def wordF (bs:List Int) (k:Nat):Int:=
  bits .or .u32 (bits .or .u32 (bits .or .u32 (bs[4*k]?.getD 0 % 4294967296*16777216 % 4294967296) (bs[4*k+1]?.getD 0 % 4294967296*65536 % 4294967296))
    (bs[4*k+2]?.getD 0 % 4294967296*256 % 4294967296)) (bs[4*k+3]?.getD 0 % 4294967296)
def stepF (l:List Int) (n:Nat):Int:=
  (((l[n-16]?.getD 0+bits .xor .u32 (mixedF (l[n-15]?.getD 0) [7,18]) (l[n-15]?.getD 0 / 8)) % 4294967296+l[n-7]?.getD 0) % 4294967296 +
    bits .xor .u32 (mixedF (l[n-2]?.getD 0) [17,19]) (l[n-2]?.getD 0 / 1024)) % 4294967296
def schedTo (bs:List Int):Nat→List Int
  | 0=>[]
  | n+1=>schedTo bs n++[if n<16 then wordF bs n else stepF (schedTo bs n) n]
theorem schedTo_length (bs:List Int) (n:Nat):(schedTo bs n).length=n:=by
  induction n with
  | zero=>rfl
  | succ n ih=>simp [schedTo,ih]
theorem pad64_get (bs:List Int) (k j:Nat) (hj:j<k) (hk:k≤64):(pad64 (schedTo bs k))[j]? = some (.int .u32 ((schedTo bs k)[j]?.getD 0)):=by
  unfold pad64
  have h:j<(schedTo bs k).length:=by rw [schedTo_length];exact hj
  simp [List.getElem?_append_left,h]
theorem pad64_size (l:List Int) (h:l.length≤64):(pad64 l).size=64:=by unfold pad64;simp;omega
theorem pad64_one (l:List Int):(pad64 l).all (·.oneCell')=true:=by
  unfold pad64
  rw [Array.all_eq_true_iff_forall_mem]
  intro v hv
  simp only [List.mem_toArray,List.mem_map] at hv
  obtain ⟨x,_,rfl⟩:=hv
  rfl
theorem pad64_set (l:List Int) (x:Int) (h:l.length<64):(pad64 l).setIfInBounds l.length (.int .u32 x)=pad64 (l++[x]):=by
  unfold pad64
  apply Array.ext'
  have e:64-l.length=(64-(l++[x]).length)+1:=by simp;omega
  rw [e,List.replicate_succ]
  simp
theorem S_al {W:World} {a b c:Addr} {va vb:Value}
    (h:W.drew.cell? a=some va∧W.drew.cell? b=some vb∧W.drew.cell? c=some (valAt W.drew c)∧W.drew.frozen? c=false) (o:Obj) :
    (W.alloc o).drew.cell? a=some va∧(W.alloc o).drew.cell? b=some vb∧(W.alloc o).drew.cell? c=some (valAt (W.alloc o).drew c)∧(W.alloc o).drew.frozen? c=false:=
  ⟨cell_al (w:=W) h.1 o,cell_al (w:=W) h.2.1 o,valAt_of (cell_al (w:=W) h.2.2.1 o),frozen_al (w:=W) h.2.2.1 h.2.2.2 o⟩
theorem S_set {W:World} {a b c:Addr} {va vb:Value} (x:Value) (hac:c≠a) (hbc:c≠b)
    (h:W.drew.cell? a=some va∧W.drew.cell? b=some vb∧W.drew.cell? c=some (valAt W.drew c)∧W.drew.frozen? c=false) :
    (W.setCell c x).drew.cell? a=some va∧(W.setCell c x).drew.cell? b=some vb∧(W.setCell c x).drew.cell? c=some (valAt (W.setCell c x).drew c)∧(W.setCell c x).drew.frozen? c=false:=
  ⟨(World.cell?_setCell_other W c a x hac).trans h.1,(World.cell?_setCell_other W c b x hbc).trans h.2.1,valAt_set (w:=W) h.2.2.1 x,by show (W.setCell c x).frozen? c=false;rw [World.frozen?_setCell];exact h.2.2.2⟩
theorem schedule_any (bb off c:Nat) (bs:List Int) (w:World) (hbb:bb<w.heap.size)
    (hc:∀ k,k<64→w.cell? ⟨bb,off+k,none⟩=some (.int .u8 (bs.getD k 0))) :
    Calls Tryz.prog 146 #[.slice (some ⟨bb,off,none⟩) 64 c] w fun e w'=>e=.returned (.agg (pad64 (schedTo bs 64)))∧Below w.heap.size w w':=by
  have HC:=Lib.hid hc;clear hc
  go_enter Tryz.func146,Tryz.ntmps146
  go_wp2
  have hz:Blk (w.alloc (.cells (pad64 []) 242)) w.heap.size 242 (pad64 []):=Blk.new _ _ _
  go_loopw [7] (fun i wr=>∃ k:Nat,k≤16∧i=.int .i64 k∧Blk wr w.heap.size 242 (pad64 (schedTo bs k))∧Below w.heap.size w wr) (fun i _=>16-(intOf i).toNat)
  case atStart=>exact ⟨0,Nat.zero_le _,rfl,hz,(Below.refl _ _).alloc (Nat.le_refl _) _⟩
  case round =>
    obtain ⟨k,hk,rfl,hB,hb⟩:=hrel
    by_cases hlt:k<16
    · have c0:=(hb.cell (p:=⟨bb,off+4*k,none⟩) hbb).trans (HC.out (4*k) (by omega))
      have c1:=(hb.cell (p:=⟨bb,off+(4*k+1),none⟩) hbb).trans (HC.out (4*k+1) (by omega))
      have c2:=(hb.cell (p:=⟨bb,off+(4*k+2),none⟩) hbb).trans (HC.out (4*k+2) (by omega))
      have c3:=(hb.cell (p:=⟨bb,off+(4*k+3),none⟩) hbb).trans (HC.out (4*k+3) (by omega))
      have cs:wr.cell? ⟨w.heap.size,k,none⟩=some (.int .u32 0):=by
        rw [hB.cell k];unfold pad64;simp [schedTo_length,List.getElem?_append_right,List.getElem?_replicate];omega
      have fs:=hB.frozen k
      have b0:(0:Int)≤4*(k:Int):=by omega
      have b1:(0:Int)≤4*(k:Int)+1:=by omega
      have b2:(0:Int)≤4*(k:Int)+2:=by omega
      have b3:(0:Int)≤4*(k:Int)+3:=by omega
      have d0:4*(k:Int)<64:=by omega
      have d1:4*(k:Int)+1<64:=by omega
      have d2:4*(k:Int)+2<64:=by omega
      have d3:4*(k:Int)+3<64:=by omega
      have t0:(4*(k:Int)).toNat=4*k:=by omega
      have t1:(4*(k:Int)+1).toNat=4*k+1:=by omega
      have t2:(4*(k:Int)+2).toNat=4*k+2:=by omega
      have t3:(4*(k:Int)+3).toNat=4*k+3:=by omega
      have q0:(0:Int)≤(k:Int):=by omega
      have q1:(k:Int)<64:=by omega
      have e0:IntKind.i64.wrap (4*(k:Int))=4*(k:Int):=IntWalk.i64_in _ (by omega)
      have e1:IntKind.i64.wrap (4*(k:Int)+1)=4*(k:Int)+1:=IntWalk.i64_in _ (by omega)
      have e2:IntKind.i64.wrap (4*(k:Int)+2)=4*(k:Int)+2:=IntWalk.i64_in _ (by omega)
      have e3:IntKind.i64.wrap (4*(k:Int)+3)=4*(k:Int)+3:=IntWalk.i64_in _ (by omega)
      go_wp2
      go_still_tail 35,(by kernel_rfl)
      change wpList _ _ _ _ _ wr.drew
      go_wp2
      clear e0 e1 e2 e3 t0 t1 t2 t3
      go_roundw
      case rel=>
        refine ⟨k+1,by omega,by go_num,?_,?_⟩
        · have hs:=pad64_set (schedTo bs k) (wordF bs k) (by rw [schedTo_length];omega)
          rw [schedTo_length] at hs
          have he:schedTo bs (k+1)=schedTo bs k++[wordF bs k]:=by simp only [schedTo,if_pos hlt]
          rw [he,← hs]
          exact (hB.set_ k _).drew
        · exact (hb.setCell (p:=⟨w.heap.size,k,none⟩) (Nat.le_refl _) _).drew
      case measure=>simp [intOf];omega
    · have HK := Lib.hid (show k = 16 by omega)
      go_wp2
      clear hlt hk hz
      go_loopw [4] (fun i ws=>∃ k:Nat,16≤k∧k≤64∧i=.int .i64 k∧Blk ws w.heap.size 242 (pad64 (schedTo bs k))∧Below w.heap.size w ws) (fun i _=>64-(intOf i).toNat)
      case atStart=>exact ⟨16,by omega,by omega,rfl,by have h:=HK.out;rw [h] at hB;exact hB,hb⟩
      case round =>
        clear hB hb HK
        obtain ⟨m,hm⟩:∃ m:Nat,m=k:=⟨k,rfl⟩
        clear hm
        obtain ⟨k,hk1,hk2,rfl,hB,hb⟩:=hrel
        by_cases hlt:k<64
        · have g15:=(hB.cell (k-15)).trans (pad64_get bs k (k-15) (by omega) (by omega))
          have g2:=(hB.cell (k-2)).trans (pad64_get bs k (k-2) (by omega) (by omega))
          have g16:=(hB.cell (k-16)).trans (pad64_get bs k (k-16) (by omega) (by omega))
          have g7:=(hB.cell (k-7)).trans (pad64_get bs k (k-7) (by omega) (by omega))
          have b15:(0:Int)≤(k:Int)-15:=by omega
          have b2:(0:Int)≤(k:Int)-2:=by omega
          have b16:(0:Int)≤(k:Int)-16:=by omega
          have b7:(0:Int)≤(k:Int)-7:=by omega
          have d15:(k:Int)-15<64:=by omega
          have d2:(k:Int)-2<64:=by omega
          have d16:(k:Int)-16<64:=by omega
          have d7:(k:Int)-7<64:=by omega
          have b16':(16:Int)≤(k:Int):=by omega
          have b7':(7:Int)≤(k:Int):=by omega
          have d16':(k:Int)<80:=by omega
          have d7':(k:Int)<71:=by omega
          have q1:(k:Int)<64:=by omega
          have q0:(0:Int)≤(k:Int):=by omega
          have t15:((k:Int)-15).toNat=k-15:=by omega
          have t2:((k:Int)-2).toNat=k-2:=by omega
          have t16:((k:Int)-16).toNat=k-16:=by omega
          have t7:((k:Int)-7).toNat=k-7:=by omega
          have e15:IntKind.i64.wrap ((k:Int)-15)=(k:Int)-15:=IntWalk.i64_in _ (by omega)
          have e2:IntKind.i64.wrap ((k:Int)-2)=(k:Int)-2:=IntWalk.i64_in _ (by omega)
          have e16:IntKind.i64.wrap ((k:Int)-16)=(k:Int)-16:=IntWalk.i64_in _ (by omega)
          have e7:IntKind.i64.wrap ((k:Int)-7)=(k:Int)-7:=IntWalk.i64_in _ (by omega)
          go_wp2
          go_quiet (fail)
          go_wp2
          have hk0:(wr.drewN nq).cell? ⟨w.heap.size,k,none⟩=some (.int .u32 0):=by
            show wr.cell? _=_
            rw [hB.cell k];unfold pad64;simp [schedTo_length,List.getElem?_append_right,List.getElem?_replicate];omega
          have hf0:(wr.drewN nq).frozen? ⟨w.heap.size,k,none⟩=false:=hB.frozen k
          have hB':=hB.drewN nq
          have hb':=below_drewN hb nq
          have g16':(wr.drewN nq).cell? ⟨w.heap.size,k-16,none⟩=_:=g16
          have g7':(wr.drewN nq).cell? ⟨w.heap.size,k-7,none⟩=_:=g7
          clear g15 g2 b15 b2 d15 d2 t15 t2 e15 e2 hB hb g16 g7
          generalize wr.drewN nq=W at *
          have hne1:(⟨w.heap.size,k,none⟩:Addr)≠⟨w.heap.size,k-16,none⟩:=fun e=>by injection e with _ e;omega
          have hne2:(⟨w.heap.size,k,none⟩:Addr)≠⟨w.heap.size,k-7,none⟩:=fun e=>by injection e with _ e;omega
          have hv0:=valAt_of hk0
          clear hk0
          go_region_held3 (fun w'=>w'.cell? ⟨w.heap.size,k-16,none⟩=some (.int .u32 ((schedTo bs k)[k-16]?.getD 0))∧w'.cell? ⟨w.heap.size,k-7,none⟩=some (.int .u32 ((schedTo bs k)[k-7]?.getD 0))∧w'.cell? ⟨w.heap.size,k,none⟩=some (valAt w' ⟨w.heap.size,k,none⟩)∧w'.frozen? ⟨w.heap.size,k,none⟩=false)
            (first|exact ⟨g16',g7',hv0,hf0⟩|assumption|exact S_al (by assumption) _|exact S_set _ hne1 hne2 (by assumption))
            (first|(go_at_call 147;refine (mixed2_any _ _ _ _ _ (by first|exact (Blk.new _ _ _).drew|exact (Blk.alloc (Blk.new _ _ _) _).drew|(refine (Blk.new' _ _ _ ?_).drew;simp;done))).mono ?_;rintro e w' ⟨rfl,rfl⟩))
          all_goals
            go_wp2
            go_roundw
            case rel=>
              refine ⟨k+1,by omega,by omega,by go_num,?_,?_⟩
              · have hs:=pad64_set (schedTo bs k) (stepF (schedTo bs k) k) (by rw [schedTo_length];omega)
                rw [schedTo_length] at hs
                have he:schedTo bs (k+1)=schedTo bs k++[stepF (schedTo bs k) k]:=by simp only [schedTo,if_neg (show ¬ k<16 by omega)]
                rw [he,← hs]
                exact (((hB'.alloc _).alloc _).set_ k _).drew
              · exact (((hb'.alloc hb'.size _).alloc (Nat.le_trans hb'.size (by simp)) _).setCell (p:=⟨w.heap.size,k,none⟩) (Nat.le_refl _) _).drew
            case measure=>simp [intOf];omega
        · have HK:=Lib.hid (show k=64 by omega)
          obtain ⟨cs,hcs⟩:∃ cs,cs=pad64 (schedTo bs 64):=⟨_,rfl⟩
          have hB64:Blk wr w.heap.size 242 cs:=by rw [hcs];rw [HK.out] at hB;exact hB
          have HS:=Lib.hid hB64
          have hi:(Tryz.prog.info? 242).map (·.size)=some cs.size:=by rw [hcs,pad64_size _ (by rw [schedTo_length];omega)];kernel_rfl
          have h1:cs.all (·.oneCell')=true:=by rw [hcs];exact pad64_one _
          have HI:=Lib.hid hi
          have H1:=Lib.hid h1
          have HCS:=Lib.hid hcs
          clear hi h1 hB hB64 hcs
          go_wp2_with (first
            | (refine wpList_load_row rfl 242 (.tmp 2) rfl w.heap.size rfl 242 cs (0,0) _ HS.out Tryz.underlying242 rfl HI.out ?_)
            | (refine wpList_store_row rfl 242 (.tmp 2) (.tmp 83) rfl w.heap.size cs rfl rfl 242 cs HS.out HI.out rfl H1.out ?_))
          have hw:wr.setRow w.heap.size cs=wr:=setRow_self _ _ _ _ _ HS.out
          rw [hw]
          exact bodyPost_ret (v:=.agg cs) (results_cell_row rfl _ _ w.heap.size 242 cs (0,0) _ rfl HS.out Tryz.underlying242 rfl HI.out) rfl ⟨by rw [HCS.out],hb⟩
end
section
open Go.RowKit
attribute [local go_sem ↓] Go.wp_at_zero Go.wp_at_succ
def kList:List Int:=[1116352408,1899447441,3049323471,3921009573,961987163,1508970993,2453635748,2870763221,3624381080,310598401,607225278,1426881987,1925078388,2162078206,2614888103,3248222580,3835390401,4022224774,264347078,604807628,770255983,1249150122,1555081692,1996064986,2554220882,2821834349,2952996808,3210313671,3336571891,3584528711,113926993,338241895,666307205,773529912,1294757372,1396182291,1695183700,1986661051,2177026350,2456956037,2730485921,2820302411,3259730800,3345764771,3516065817,3600352804,4094571909,275423344,430227734,506948616,659060556,883997877,958139571,1322822218,1537002063,1747873779,1955562222,2024104815,2227730452,2361852424,2428436474,2756734187,3204031479,3329325298]
def RoundOK (w:World):Prop:=w.rangeAt 0 0 (kList.map (Value.int .u32))
theorem RoundOK.keep {w w':World} (h:RoundOK w) (hk:∀ p:Addr,p.block=0→w'.cell? p=w.cell? p):RoundOK w':=
  fun j v hv=>(hk _ rfl).trans (h j v hv)
theorem RoundOK.lt {w:World} (h:RoundOK w):0<w.heap.size:=lt_of_cell (h 0 _ rfl)
theorem RoundOK.below {w w':World} (h:RoundOK w) (hb:Below w.heap.size w w'):RoundOK w':=
  h.keep fun p hp=>hb.cell (by rw [hp];exact h.lt)
structure V8 where
  a:Int
  b:Int
  c:Int
  d:Int
  e:Int
  f:Int
  g:Int
  h:Int
def V8.cells (v:V8):Array Value:=#[.int .u32 v.a,.int .u32 v.b,.int .u32 v.c,.int .u32 v.d,.int .u32 v.e,.int .u32 v.f,.int .u32 v.g,.int .u32 v.h]
theorem only_of_below {a w:World} (h:Below a.heap.size a w) (row:Option Nat):a.grownBy w row:=⟨h.os,h.tape,h.output,h.size,fun i hi _=>h.block i hi⟩
theorem only_drew {a w:World} {row:Option Nat} (h:a.grownBy w row):a.grownBy w.drew row:=⟨h.os,h.tape,h.output,h.size,h.block⟩
theorem only_setCell {a w:World} {g:Nat} (h:a.grownBy w (some g)) {p:Addr} (hp:p.block=g∨a.heap.size≤p.block) (u:Value):a.grownBy (w.setCell p u) (some g):=
  ⟨h.os,h.tape,h.output,by simpa [World.setCell] using h.size,fun i hi hne=>(Below.heap_setCell w p u i (by
    rintro rfl
    rcases hp with hp|hp
    · exact hne (by rw [hp])
    · omega)).trans (h.block i hi hne)⟩
theorem range_al {w:World} {b o:Nat} {cs:List Value} (h:w.rangeAt b o cs) (ob:Obj):(w.alloc ob).rangeAt b o cs:=World.rangeAt_alloc h ob
theorem range_grown {w w':World} {b o:Nat} {cs:List Value} {row:Option Nat} (h:w.rangeAt b o cs) (hg:w.grownBy w' row) (hne:some b≠row):w'.rangeAt b o cs:=
  fun j v hv=>hg.cell (h j v hv) hne
theorem range_below {w w':World} {b o B:Nat} {cs:List Value} (h:w.rangeAt b o cs) (hg:Below B w w') (hb:b<B):w'.rangeAt b o cs:=
  fun j v hv=>(hg.cell (p:=⟨b,o+j,none⟩) hb).trans (h j v hv)
theorem S4_al {W:World} {a b c d:Addr} {va vb vc vd:Value}
    (h:W.drew.cell? a=some va∧W.drew.cell? b=some vb∧W.drew.cell? c=some vc∧W.drew.cell? d=some vd) (o:Obj) :
    (W.alloc o).drew.cell? a=some va∧(W.alloc o).drew.cell? b=some vb∧(W.alloc o).drew.cell? c=some vc∧(W.alloc o).drew.cell? d=some vd:=
  ⟨cell_al (w:=W) h.1 o,cell_al (w:=W) h.2.1 o,cell_al (w:=W) h.2.2.1 o,cell_al (w:=W) h.2.2.2 o⟩
theorem S2_al {W:World} {a b:Addr} {va vb:Value} (h:W.drew.cell? a=some va∧W.drew.cell? b=some vb) (o:Obj) :
    (W.alloc o).drew.cell? a=some va∧(W.alloc o).drew.cell? b=some vb:=⟨cell_al (w:=W) h.1 o,cell_al (w:=W) h.2 o⟩
def notU (x:Int):Int:=IntKind.u32.wrap ((BitVec.ofInt 32 IntKind.u32.max ^^^ BitVec.ofInt 32 x).toNat:Int)
theorem run_notU (P:Program) (x:Int) (w:World):(Op.unary .xor (.int .u32 x)).run P w=.ok (.int .u32 (notU x)) w:=rfl
def roundT (v:V8) (k wi:Int):Int:=
  IntKind.u32.wrap (IntKind.u32.wrap (IntKind.u32.wrap (IntKind.u32.wrap (v.h+mixedF v.e [6,11,25])+bits .xor .u32 (bits .and .u32 v.e v.f) (bits .and .u32 (bits .xor .u32 IntKind.u32.max v.e) v.g))+k)+wi)
def roundU (v:V8):Int:=
  IntKind.u32.wrap (mixedF v.a [2,13,22]+bits .xor .u32 (bits .xor .u32 (bits .and .u32 v.a v.b) (bits .and .u32 v.a v.c)) (bits .and .u32 v.b v.c))
def roundV (v:V8) (k wi:Int):V8:=
  ⟨(roundT v k wi+roundU v) % 4294967296,v.a,v.b,v.c,(v.d+roundT v k wi) % 4294967296,v.e,v.f,v.g⟩
def vTo (v:V8) (ws:List Int):Nat→V8
  | 0=>v
  | n+1=>roundV (vTo v ws n) (kList[n]?.getD 0) (ws[n]?.getD 0)
def V8.list (v:V8):List Int:=[v.a,v.b,v.c,v.d,v.e,v.f,v.g,v.h]
def arrU (l:List Int):Array Value:=(l.map (Value.int .u32)).toArray
theorem arrU_set (l:List Int) (k:Nat) (x:Int):(arrU l).setIfInBounds k (.int .u32 x)=arrU (l.set k x):=by
  unfold arrU
  apply Array.ext'
  simp [List.map_set]
def addV (v s:V8):V8:=⟨(v.a+s.a) % 4294967296,(v.b+s.b) % 4294967296,(v.c+s.c) % 4294967296,(v.d+s.d) % 4294967296,(v.e+s.e) % 4294967296,(v.f+s.f) % 4294967296,(v.g+s.g) % 4294967296,(v.h+s.h) % 4294967296⟩
def addTo (v s:V8) (k:Nat):List Int:=(List.range 8).map fun j=>if j<k then (v.list[j]?.getD 0+s.list[j]?.getD 0) % 4294967296 else v.list[j]?.getD 0
theorem addTo_zero (v s:V8):addTo v s 0=v.list:=rfl
theorem addTo_all (v s:V8):addTo v s 8=(addV v s).list:=rfl
theorem addTo_get (v s:V8) (k:Nat) (h:k<8):(addTo v s k)[k]? = some (v.list[k]?.getD 0):=by
  match k,h with
  | 0,_=>rfl
  | 1,_=>rfl
  | 2,_=>rfl
  | 3,_=>rfl
  | 4,_=>rfl
  | 5,_=>rfl
  | 6,_=>rfl
  | 7,_=>rfl
theorem addTo_set (v s:V8) (k:Nat) (h:k<8):(addTo v s k).set k ((v.list[k]?.getD 0+s.list[k]?.getD 0) % 4294967296)=addTo v s (k+1):=by
  match k,h with
  | 0,_=>rfl
  | 1,_=>rfl
  | 2,_=>rfl
  | 3,_=>rfl
  | 4,_=>rfl
  | 5,_=>rfl
  | 6,_=>rfl
  | 7,_=>rfl
theorem V8.get (v:V8) (k:Nat) (h:k<8):v.cells[k]? = some (.int .u32 (v.list[k]?.getD 0)):=by
  match k,h with
  | 0,_=>rfl
  | 1,_=>rfl
  | 2,_=>rfl
  | 3,_=>rfl
  | 4,_=>rfl
  | 5,_=>rfl
  | 6,_=>rfl
  | 7,_=>rfl
theorem run_index_arr {P:Program} {t e n:Nat} {cs:Array Value} {i:TypeInfo} (ht:P.underlying t=some (.array n e)) (hi:P.info? e=some i) (hs:i.size=1)
    (ha:∀ w,(isAgg e).run P w=.ok false w) (k:Nat) (hk:k<n) (x:Value) (hx:cs[k]? = some x) (w:World) :
    (Instr.index t (.agg cs) (.int .i64 (k:Int))).run P w=.ok x w:=by
  have h0:(0:Int)≤(k:Int)∧(k:Int)<(n:Int):=by omega
  simp [Instr.index,asIntOf,run_underlying ht,sizeOf,typeInfo,hi,hs,part,ha,hx]
  intro h;omega
theorem u32_info:(Tryz.prog.info? 187).map (fun i=>(i.zero,i.size,i.bytes))=some (some (.int .u32 0),1,4):=by kernel_rfl
theorem run_index64 (cs:Array Value) (k:Nat) (hk:k<64) (x:Value) (hx:cs[k]? = some x) (w:World) :
    (Instr.index 242 (.agg cs) (.int .i64 (k:Int))).run Tryz.prog w=.ok x w:=by
  obtain ⟨i0,hi,_,hs,_⟩:=info_parts u32_info
  exact run_index_arr Tryz.underlying242 hi hs (fun w=>by simp [isAgg,run_underlying Tryz.underlying187]) k hk x hx w
def blockF (v:V8) (bs:List Int):V8:=addV v (vTo v (schedTo bs 64) 64)
theorem add_any (gh bb off c:Nat) (v:V8) (bs:List Int) (w:World) (hbb:bb<w.heap.size) (hR:RoundOK w)
    (hH:Blk w gh 189 v.cells)
    (hc:∀ k,k<64→w.cell? ⟨bb,off+k,none⟩=some (.int .u8 (bs.getD k 0))) :
    Calls Tryz.prog 103 #[.pointer (some ⟨gh,0,none⟩),.slice (some ⟨bb,off,none⟩) 64 c] w fun e w'=>e=.returned (.tuple #[])∧Blk w' gh 189 (blockF v bs).cells∧w.grownBy w' (some gh):=by
  have HC:=Lib.hid hc;clear hc
  go_enter Tryz.func103,Tryz.ntmps103
  go_wp2_with fail
  refine (schedule_any _ _ _ bs _ hbb HC.out).mono ?_
  rintro e w1 ⟨he,hb1⟩
  obtain ⟨cs,hcs⟩:∃ cs,cs=pad64 (schedTo bs 64):=⟨_,rfl⟩
  rw [← hcs] at he
  subst he
  have HSZ:=Lib.hid (show cs.size=64 by rw [hcs];exact pad64_size _ (by rw [schedTo_length];omega))
  have HI:=Lib.hid (show (Tryz.prog.info? 242).map (·.size)=some cs.size by rw [HSZ.out];kernel_rfl)
  have H1:=Lib.hid (show cs.all (·.oneCell')=true by rw [hcs];exact pad64_one _)
  have HCS:=Lib.hid (show ∀ k,k<64→cs[k]? = some (.int .u32 ((schedTo bs 64)[k]?.getD 0)) by intro k hk;rw [hcs];exact pad64_get bs 64 k hk (Nat.le_refl _))
  clear hcs
  obtain ⟨ws,hws⟩:∃ ws,ws=schedTo bs 64:=⟨_,rfl⟩
  rw [← hws] at HCS
  have HWS:=Lib.hid hws
  clear hws
  have HV:=Lib.hid (show (Tryz.prog.info? 189).map (·.size)=some v.cells.size from by kernel_rfl)
  have HR:=Lib.hid hR
  have HH:=Lib.hid hH
  have hgh:=hH.lt
  have hr1:=hR.lt
  obtain ⟨vc,hvc⟩:∃ vc,vc=v.cells:=⟨_,rfl⟩
  rw [← hvc] at HV HH
  have HVC:=Lib.hid hvc
  have HV1:=Lib.hid (show vc.all (·.oneCell')=true by rw [hvc];simp [V8.cells,Value.oneCell'])
  have HV8:=Lib.hid (show 8=vc.size by rw [hvc];rfl)
  obtain ⟨kc,hkc⟩:∃ kc,kc=kList.map (Value.int .u32):=⟨_,rfl⟩
  have HKC:=Lib.hid hkc
  have HRK:=Lib.hid (show w.rangeAt 0 0 kc by rw [hkc];exact hR)
  have HKI:=Lib.hid (show (Tryz.prog.info? 242).map (·.size)=some kc.length by rw [hkc];kernel_rfl)
  clear hvc hR hH hkc
  have hz1:=hb1.size
  go_wp2_with (first
    | (refine wpList_store_blk rfl 242 (.tmp 4) (.tmp 14) rfl w1.heap.size cs rfl rfl 242 _ (Blk.new w1 _ _) HI.out (HSZ.out.symm) H1.out ?_;intro W1 hB1 hg1;have HB1:=Lib.hid hB1;have HG1:=Lib.hid hg1;have hz2:w1.heap.size+1≤W1.heap.size:=(by have:=hg1.size;simpa using this);clear hB1 hg1;have HH1:=Lib.hid (show Blk W1 gh _ vc from ((HH.out.below hb1 hgh).alloc _).grown HG1.out (fun e=>by injection e with e;omega)))
    | (refine wpList_load_row rfl 189 (.tmp 16) rfl gh rfl 189 vc (0,0) _ HH1.out Tryz.underlying189 rfl HV.out ?_)
    | (refine wpList_store_blk rfl 189 (.tmp 5) (.tmp 17) rfl W1.heap.size vc rfl rfl 189 _ (Blk.new W1 _ _) HV.out HV8.out HV1.out ?_;intro W2 hB2 hg2;have HB2:=Lib.hid hB2;have HG2:=Lib.hid hg2;have hz3:W1.heap.size+1≤W2.heap.size:=(by have:=hg2.size;simpa using this);clear hB2 hg2;have HRK2:=Lib.hid (show W2.rangeAt 0 0 kc from range_grown (range_al (range_grown (range_al (range_below HRK.out hb1 hr1) _) HG1.out (fun e=>by injection e with e;omega)) _) HG2.out (fun e=>by injection e with e;omega)))
    | (refine wpList_load_mid rfl 242 (.global 0) rfl 0 0 rfl kc _ HRK2.out Tryz.underlying242 rfl HKI.out ?_))
  have hBw:Blk W2 w1.heap.size 242 cs:=(HB1.out.alloc _).grown HG2.out (fun e=>by injection e with e;omega)
  have hBv:Blk W2 W1.heap.size 189 vc:=HB2.out
  have hBh:Blk W2 gh 189 vc:=(HH1.out.alloc _).grown HG2.out (fun e=>by injection e with e;omega)
  have hb2:Below w.heap.size w W2:=((((hb1.alloc hz1 _).grown HG1.out (by simp;omega) (fun k e=>by injection e with e;omega))).alloc (by omega) _).grown HG2.out (by simp;omega) (fun k e=>by injection e with e;omega)
  have hgw:w.heap.size≤w1.heap.size:=hz1
  have hgv:w1.heap.size<W1.heap.size:=by omega
  clear HB1 HB2 HG1 HG2 HH1 HRK2 HRK hz1 hz2 hz3 hb1 HI H1 HV HV1 HV8
  generalize w1.heap.size=gw at *
  generalize W1.heap.size=gv at *
  clear W1 w1
  have hidx:∀ (k:Nat) (w':World),k<64→(Instr.index 242 (.agg kc.toArray) (.int .i64 (k:Int))).run Tryz.prog w'=.ok (.int .u32 (kList[k]?.getD 0)) w':=by
    intro k w' hk
    have hx:kc.toArray[k]? = some (.int .u32 (kList[k]?.getD 0)):=by
      rw [HKC.out]
      have hl:k<kList.length:=hk
      simp [hl]
    exact run_index64 kc.toArray k hk _ hx w'
  have HIDX:=Lib.hid hidx
  clear hidx
  go_loopw [19] (fun i wr=>∃ k:Nat,k≤64∧i=.int .i64 k∧Blk wr gv 189 (vTo v ws k).cells∧Blk wr gw 242 cs∧Blk wr gh 189 vc∧Below w.heap.size w wr) (fun i _=>64-(intOf i).toNat)
  case atStart=>exact ⟨0,by omega,rfl,by rw [HVC.out] at hBv;exact hBv,hBw,hBh,hb2⟩
  case round =>
    clear hBw hBv hBh hb2
    obtain ⟨k,hk,rfl,hBv,hBw,hBh,hb⟩:=hrel
    generalize hst:vTo v ws k=s at *
    have HST:=Lib.hid hst
    clear hst
    by_cases hlt:k<64
    · have hix:=fun w'=>HIDX.out k w' hlt
      have s0:wr.cell? ⟨gv,0,none⟩=some (.int .u32 s.a):=hBv.cell 0
      have s4:wr.cell? ⟨gv,4,none⟩=some (.int .u32 s.e):=hBv.cell 4
      go_wp2
      go_quiet (fail)
      go_wp2
      have s5:(wr.drewN nq).cell? ⟨gv,5,none⟩=some (.int .u32 s.f):=hBv.cell 5
      have s6:(wr.drewN nq).cell? ⟨gv,6,none⟩=some (.int .u32 s.g):=hBv.cell 6
      have s7:(wr.drewN nq).cell? ⟨gv,7,none⟩=some (.int .u32 s.h):=hBv.cell 7
      have sw:(wr.drewN nq).cell? ⟨gw,k,none⟩=some (.int .u32 (ws[k]?.getD 0)):=by
        show wr.cell? _=_
        rw [hBw.cell k]
        exact HCS.out k hlt
      have hBv':=hBv.drewN nq
      have hBw':=hBw.drewN nq
      have hBh':=hBh.drewN nq
      have hb':=below_drewN hb nq
      have q0:(0:Int)≤(k:Int):=by omega
      have q1:(k:Int)<64:=by omega
      generalize hwk:ws[k]?.getD 0=wk at *
      have HWK:=Lib.hid hwk
      clear s0 s4 hBv hBw hBh hb hwk hix
      generalize wr.drewN nq=Wa at *
      have hnot:=run_notU Tryz.prog
      go_region_held3 (fun w'=>w'.cell? ⟨gv,5,none⟩=some (.int .u32 s.f)∧w'.cell? ⟨gv,6,none⟩=some (.int .u32 s.g)∧w'.cell? ⟨gv,7,none⟩=some (.int .u32 s.h)∧w'.cell? ⟨gw,k,none⟩=some (.int .u32 wk))
        (first|exact ⟨s5,s6,s7,sw⟩|assumption|exact S4_al (by assumption) _)
        (first|(go_at_call 147;refine (mixed3_any _ _ _ _ _ _ (by first|exact (Blk.new _ _ _).drew)).mono ?_;rintro e w' ⟨rfl,rfl⟩))
      go_wp2
      have hBv2:=((hBv'.alloc (.cells #[.int .i64 6,.int .i64 11,.int .i64 25] 3))).drew
      have hBw2:=((hBw'.alloc (.cells #[.int .i64 6,.int .i64 11,.int .i64 25] 3))).drew
      have hBh2:=((hBh'.alloc (.cells #[.int .i64 6,.int .i64 11,.int .i64 25] 3))).drew
      have hb2:=((hb'.alloc hb'.size (.cells #[.int .i64 6,.int .i64 11,.int .i64 25] 3))).drew
      clear s5 s6 s7 sw hBv' hBw' hBh' hb'
      generalize (Wa.alloc (.cells #[.int .i64 6,.int .i64 11,.int .i64 25] 3)).drew=Wb at *
      have s1:Wb.cell? ⟨gv,1,none⟩=some (.int .u32 s.b):=hBv2.cell 1
      have s2:Wb.cell? ⟨gv,2,none⟩=some (.int .u32 s.c):=hBv2.cell 2
      go_region_held3 (fun w'=>w'.cell? ⟨gv,1,none⟩=some (.int .u32 s.b)∧w'.cell? ⟨gv,2,none⟩=some (.int .u32 s.c))
        (first|exact ⟨s1,s2⟩|assumption|exact S2_al (by assumption) _)
        (first|(go_at_call 147;refine (mixed3_any _ _ _ _ _ _ (by first|exact (Blk.new _ _ _).drew)).mono ?_;rintro e w' ⟨rfl,rfl⟩))
      go_wp2
      have hBv3:=((hBv2.alloc (.cells #[.int .i64 2,.int .i64 13,.int .i64 22] 3))).drew
      have hBw3:=((hBw2.alloc (.cells #[.int .i64 2,.int .i64 13,.int .i64 22] 3))).drew
      have hBh3:=((hBh2.alloc (.cells #[.int .i64 2,.int .i64 13,.int .i64 22] 3))).drew
      have hb3:=((hb2.alloc hb2.size (.cells #[.int .i64 2,.int .i64 13,.int .i64 22] 3))).drew
      clear s1 s2 hBv2 hBw2 hBh2 hb2
      generalize (Wb.alloc (.cells #[.int .i64 2,.int .i64 13,.int .i64 22] 3)).drew=Wc at *
      have hT:IntKind.u32.wrap (IntKind.u32.wrap (IntKind.u32.wrap (IntKind.u32.wrap (s.h+mixedF s.e [6,11,25])+bits .xor .u32 (bits .and .u32 s.e s.f) (bits .and .u32 (bits .xor .u32 IntKind.u32.max s.e) s.g))+kList[k]?.getD 0)+wk)=roundT s (kList[k]?.getD 0) wk:=rfl
      have hU:IntKind.u32.wrap (mixedF s.a [2,13,22]+bits .xor .u32 (bits .xor .u32 (bits .and .u32 s.a s.b) (bits .and .u32 s.a s.c)) (bits .and .u32 s.b s.c))=roundU s:=rfl
      simp only [hT,hU]
      clear hT hU
      have hcp:=run_copy_row (P:=Tryz.prog) Wc.drew 232 232 3 187 gv 1 7 7 ⟨gv,0,none⟩ 7 8 s.cells 189 [.int .u32 s.a,.int .u32 s.b,.int .u32 s.c,.int .u32 s.d,.int .u32 s.e,.int .u32 s.f,.int .u32 s.g]
        Tryz.underlying232 (by kernel_rfl) hBv3.drew rfl (fun j x hx=>by
          have h:=hBv3.cell j
          rw [show (⟨gv,0,none⟩:Addr).add j=⟨gv,j,none⟩ from by unfold Addr.add;split <;> simp_all]
          show Wc.cell? _=_
          rw [h]
          match j,hx with
          | 0,hx=>exact hx
          | 1,hx=>exact hx
          | 2,hx=>exact hx
          | 3,hx=>exact hx
          | 4,hx=>exact hx
          | 5,hx=>exact hx
          | 6,hx=>exact hx
          | (n+7),hx=>simp at hx) (by simp [V8.cells]) (by simp [Value.oneCell'])
      go_region
      have hBv4:Blk (Wc.drew.setRow gv (List.take 1 s.cells.toList ++ .int .u32 s.a :: .int .u32 s.b :: .int .u32 s.c :: .int .u32 s.d :: .int .u32 s.e :: .int .u32 s.f :: .int .u32 s.g::List.drop 8 s.cells.toList).toArray) gv 189 #[.int .u32 s.a,.int .u32 s.a,.int .u32 s.b,.int .u32 s.c,.int .u32 s.d,.int .u32 s.e,.int .u32 s.f,.int .u32 s.g]:=Blk.row hBv3.drew _
      have hBw4:Blk (Wc.drew.setRow gv (List.take 1 s.cells.toList ++ .int .u32 s.a :: .int .u32 s.b :: .int .u32 s.c :: .int .u32 s.d :: .int .u32 s.e :: .int .u32 s.f :: .int .u32 s.g::List.drop 8 s.cells.toList).toArray) gw 242 cs:=Blk.rowFar hBw3.drew (by omega) _
      have hBh4:Blk (Wc.drew.setRow gv (List.take 1 s.cells.toList ++ .int .u32 s.a :: .int .u32 s.b :: .int .u32 s.c :: .int .u32 s.d :: .int .u32 s.e :: .int .u32 s.f :: .int .u32 s.g::List.drop 8 s.cells.toList).toArray) gh 189 vc:=Blk.rowFar hBh3.drew (by omega) _
      have hb4:Below w.heap.size w (Wc.drew.setRow gv (List.take 1 s.cells.toList ++ .int .u32 s.a :: .int .u32 s.b :: .int .u32 s.c :: .int .u32 s.d :: .int .u32 s.e :: .int .u32 s.f :: .int .u32 s.g::List.drop 8 s.cells.toList).toArray):=below_setRow hb3.drew (by omega) _
      clear hcp hBv3 hBw3 hBh3 hb3
      generalize Wc.drew.setRow gv (List.take 1 s.cells.toList ++ .int .u32 s.a :: .int .u32 s.b :: .int .u32 s.c :: .int .u32 s.d :: .int .u32 s.e :: .int .u32 s.f :: .int .u32 s.g::List.drop 8 s.cells.toList).toArray=Wd at *
      have c0:Wd.cell? ⟨gv,0,none⟩=some (.int .u32 s.a):=hBv4.cell 0
      have c4:Wd.cell? ⟨gv,4,none⟩=some (.int .u32 s.d):=hBv4.cell 4
      have f0:=hBv4.frozen 0
      have f4:=hBv4.frozen 4
      go_wp2
      go_roundw
      case rel=>
        refine ⟨k+1,by omega,by go_num,?_,?_,?_,?_⟩
        · have he:vTo v ws (k+1)=roundV s (kList[k]?.getD 0) wk:=by rw [vTo,HST.out,HWK.out]
          rw [he]
          exact (hBv4.set_ 0 _).set_ 4 _
        · exact (hBw4.far (p:=⟨gv,0,none⟩) (by show gw≠gv;omega) _).far (p:=⟨gv,4,none⟩) (by show gw≠gv;omega) _
        · exact (hBh4.far (p:=⟨gv,0,none⟩) (by show gh≠gv;omega) _).far (p:=⟨gv,4,none⟩) (by show gh≠gv;omega) _
        · exact (hb4.setCell (p:=⟨gv,0,none⟩) (by show w.heap.size≤gv;omega) _).setCell (p:=⟨gv,4,none⟩) (by show w.heap.size≤gv;omega) _
      case measure=>simp [intOf];omega
    · have HK := Lib.hid (show k = 64 by omega)
      go_wp2
      clear HIDX
      go_loopw [82] (fun i ws=>∃ m:Nat,m≤8∧i=.int .i64 m∧Blk ws gh 189 (arrU (addTo v s m))∧Blk ws gv 189 s.cells∧w.grownBy ws (some gh)) (fun i _=>8-(intOf i).toNat)
      case atStart=>exact ⟨0,by omega,rfl,by rw [HVC.out] at hBh;rw [addTo_zero];exact hBh,hBv,only_of_below hb _⟩
      case round=>
        clear hBv hBw hBh hb
        obtain ⟨m,hm,rfl,hBh,hBv,hg⟩:=hrel
        by_cases hlt':m<8
        · have ch:wr.cell? ⟨gh,m,none⟩=some (.int .u32 (v.list[m]?.getD 0)):=by
            rw [hBh.cell m];unfold arrU;simp [addTo_get v s m hlt']
          have cv:wr.cell? ⟨gv,m,none⟩=some (.int .u32 (s.list[m]?.getD 0)):=(hBv.cell m).trans (V8.get s m hlt')
          have fh:=hBh.frozen m
          have q0:(0:Int)≤(m:Int):=by omega
          have q1:(m:Int)<8:=by omega
          go_wp2
          go_still_tail 11,(by kernel_rfl)
          change wpList _ _ _ _ _ wr.drew
          go_wp2
          go_roundw
          case rel=>
            refine ⟨m+1,by omega,by go_num,?_,?_,?_⟩
            · rw [← addTo_set v s m hlt',← arrU_set]
              exact (hBh.set_ m _).drew
            · exact (hBv.far (p:=⟨gh,m,none⟩) (by show gv≠gh;omega) _).drew
            · exact only_drew (only_setCell hg (p:=⟨gh,m,none⟩) (.inl rfl) _)
          case measure=>simp [intOf];omega
        · have HM:=Lib.hid (show m=8 by omega)
          go_wp2
          go_end0
          refine ⟨rfl,?_,hg⟩
          rw [HM.out,addTo_all] at hBh
          have hs:s=vTo v (schedTo bs 64) 64:=by rw [← HST.out,HWS.out,HK.out]
          unfold blockF
          rw [← hs]
          exact hBh
end
section
open Go.RowKit
attribute [local go_sem ↓] Go.wp_at_zero Go.wp_at_succ
def pad32 (l:List Int):Array Value:=((l++List.replicate (32-l.length) 0).map (Value.int .u8)).toArray
theorem pad32_set (l:List Int) (x:Int) (h:l.length<32):(pad32 l).setIfInBounds l.length (.int .u8 x)=pad32 (l++[x]):=by
  unfold pad32
  apply Array.ext'
  have e:32-l.length=(32-(l++[x]).length)+1:=by simp;omega
  rw [e,List.replicate_succ]
  simp
def byteF (x:Int) (k:Nat):Int:=x / 2 ^ (24-8*k) % 256
def bytesTo (x:Int) (m:Nat):List Int:=(List.range m).map (byteF x)
theorem bytesTo_succ (x:Int) (m:Nat):bytesTo x (m+1)=bytesTo x m++[byteF x m]:=by simp [bytesTo,List.range_succ]
def outTo (v:V8):Nat→List Int
  | 0=>[]
  | n+1=>outTo v n++bytesTo (v.list[n]?.getD 0) 4
theorem outTo_length (v:V8) (n:Nat):(outTo v n).length=4*n:=by
  induction n with
  | zero=>rfl
  | succ n ih=>simp [outTo,ih,bytesTo];omega
def ofBytes (l:List Int):ByteArray:=l.foldl (fun r n=>r.push (UInt8.ofNat n.toNat)) ByteArray.empty
theorem push_size (l:List Int) (s:ByteArray):(l.foldl (fun r n=>r.push (UInt8.ofNat n.toNat)) s).size=s.size+l.length:=by
  induction l generalizing s with
  | nil=>rfl
  | cons n l ih=>rw [List.foldl_cons,ih,ByteArray.size_push,List.length_cons];omega
theorem ofBytes_size (l:List Int):(ofBytes l).size=l.length:=by
  unfold ofBytes
  rw [push_size]
  simp
def digF (v:V8):ByteArray:=ofBytes (outTo v 8)
theorem digF_size (v:V8):(digF v).size=32:=by unfold digF;rw [ofBytes_size,outTo_length]
theorem wdigest_any (v:V8) (w:World) :
    Calls Tryz.prog 104 #[.agg v.cells] w fun e w'=>e=.returned (.string (digF v))∧Below w.heap.size w w':=by
  obtain ⟨vc,hvc⟩:∃ vc,vc=v.cells:=⟨_,rfl⟩
  have HIX:=Lib.hid (show ∀ (k:Nat) (w':World),k<8→(Instr.index 189 (.agg vc) (.int .i64 (k:Int))).run Tryz.prog w'=.ok (.int .u32 (v.list[k]?.getD 0)) w' by
    intro k w' hk
    rw [hvc]
    obtain ⟨i0,hi,_,hs,_⟩:=info_parts u32_info
    exact run_index_arr Tryz.underlying189 hi hs (fun w=>by simp [isAgg,run_underlying Tryz.underlying187]) k hk _ (V8.get v k hk) w')
  have HV:=Lib.hid (show (Tryz.prog.info? 189).map (·.size)=some vc.size by rw [hvc];kernel_rfl)
  have HV1:=Lib.hid (show vc.all (·.oneCell')=true by rw [hvc];simp [V8.cells,Value.oneCell'])
  rw [← hvc]
  clear hvc
  go_enter Tryz.func104,Tryz.ntmps104
  go_wp2_with (refine wpList_load_row rfl 189 (.tmp 1) rfl w.heap.size rfl 189 vc (0,0) _ ((Blk.new w _ _).alloc _) Tryz.underlying189 rfl HV.out ?_)
  have hB0:Blk ((w.alloc (.cells vc 189)).alloc (.cells (pad32 []) 245)) (w.heap.size+1) 245 (pad32 []):=Blk.new' _ _ _ (by simp)
  have hb0:Below w.heap.size w ((w.alloc (.cells vc 189)).alloc (.cells (pad32 []) 245)):=((Below.refl _ _).alloc (Nat.le_refl _) _).alloc (by simp) _
  go_loopw [8] (fun i wr=>∃ k:Nat,k≤8∧i=.int .i64 k∧Blk wr (w.heap.size+1) 245 (pad32 (outTo v k))∧Below w.heap.size w wr) (fun i _=>8-(intOf i).toNat)
  case atStart=>exact ⟨0,by omega,rfl,hB0,hb0⟩
  case round =>
    clear hB0 hb0
    obtain ⟨k,hk,rfl,hB,hb⟩:=hrel
    by_cases hlt:k<8
    · have hix:=fun w'=>HIX.out k w' hlt
      obtain ⟨x,hx⟩:∃ x,x=v.list[k]?.getD 0:=⟨_,rfl⟩
      rw [← hx] at hix
      have HX:=Lib.hid hx
      clear hx
      go_wp2
      obtain ⟨wo,hwo⟩:∃ wo:World,wo=wr:=⟨_,rfl⟩
      rw [← hwo] at hB hb ⊢
      clear hwo wr hix
      go_loopw [12] (fun i ws=>∃ m:Nat,m≤4∧i=.int .i64 m∧Blk ws (w.heap.size+1) 245 (pad32 (outTo v k++bytesTo x m))∧Below w.heap.size w ws) (fun i _=>4-(intOf i).toNat)
      case atStart=>exact ⟨0,by omega,rfl,by simpa [bytesTo] using hB,hb⟩
      case round=>
        clear hB hb
        obtain ⟨m,hm,rfl,hB,hb⟩:=hrel
        by_cases hlt':m<4
        · have hl:(outTo v k++bytesTo x m).length=4*k+m:=by rw [List.length_append,outTo_length];simp [bytesTo]
          have c0:wr.cell? ⟨w.heap.size+1,4*k+m,none⟩=some (.int .u8 0):=by
            rw [hB.cell];unfold pad32;simp only [List.getElem?_toArray,List.getElem?_map];rw [List.getElem?_append_right (by omega)];simp [hl,List.getElem?_replicate];omega
          have f0:=hB.frozen (4*k+m)
          have q0:(0:Int)≤(k:Int):=by omega
          have q1:(k:Int)<8:=by omega
          have q2:(0:Int)≤(m:Int):=by omega
          have q3:(m:Int)<4:=by omega
          have HL:=Lib.hid hl
          clear hl
          go_wp2
          go_roundw
          case rel=>
            have hs:=pad32_set (outTo v k++bytesTo x m) (byteF x m) (by rw [HL.out];omega)
            rw [HL.out] at hs
            refine ⟨m+1,by omega,by go_num,?_,hb.setCell (p:=⟨w.heap.size+1,4*k+m,none⟩) (by show w.heap.size≤w.heap.size+1;omega) _⟩
            rw [bytesTo_succ,← List.append_assoc,← hs]
            exact hB.set_ _ _
          case measure=>simp [intOf];omega
        · have HM:=Lib.hid (show m=4 by omega)
          go_wp2
          go_roundw
          case rel=>
            refine ⟨k+1,by omega,by go_num,?_,hb⟩
            rw [HM.out,HX.out] at hB
            exact hB
          case measure=>simp [intOf];omega
    · have HK:=Lib.hid (show k=8 by omega)
      obtain ⟨ol,hol⟩:∃ ol,ol=outTo v 8:=⟨_,rfl⟩
      have hlen:ol.length=32:=by rw [hol,outTo_length]
      have hcv:(convert 174 9 (.slice (some ⟨w.heap.size+1,0,none⟩) 32 32)).run Tryz.prog wr=.ok (.string (ofBytes ol)) wr:=by
        rw [run_convert_bytes_string wr 174 9 5 _ 32 32 Tryz.underlying174 Tryz.underlying5 Tryz.underlying9]
        refine run_bytesToString wr _ 32 32 ol ?_
        have h:=run_loadCells_list (P:=Tryz.prog) wr ⟨w.heap.size+1,0,none⟩ (ol.map (Value.int .u8)) (fun j x hx=>by
          rw [show (⟨w.heap.size+1,0,none⟩:Addr).add j=⟨w.heap.size+1,j,none⟩ from by unfold Addr.add;split <;> simp_all]
          rw [hB.cell j,HK.out,← hol]
          unfold pad32
          rw [hlen]
          simpa using hx)
        rw [List.length_map,hlen] at h
        exact h
      have HF:=Lib.hid (show ofBytes ol=digF v by rw [hol];rfl)
      clear hol hlen
      generalize ofBytes ol=fin at *
      go_wp2
      go_ret
      exact ⟨by rw [← HF.out];rfl,hb⟩
end
section
open Go.RowKit Go.Shelf
attribute [local go_sem] Oper.semAt_some
def KeptB (n₀ gh:Nat) (W W':World):Prop:=∀ b,b<n₀→b≠gh→W'.heap[b]? = W.heap[b]?
theorem KeptB.refl (n₀ gh:Nat) (W:World):KeptB n₀ gh W W:=fun _ _ _=>rfl
theorem KeptB.trans {n₀ gh:Nat} {A B C:World} (h:KeptB n₀ gh A B) (k:KeptB n₀ gh B C):KeptB n₀ gh A C:=fun b h1 h2=>(k b h1 h2).trans (h b h1 h2)
theorem KeptB.drewN {n₀ gh:Nat} {A B:World} (h:KeptB n₀ gh A B) (m:Nat):KeptB n₀ gh A (B.drewN m):=h
theorem KeptB.cell {n₀ gh:Nat} {A B:World} (h:KeptB n₀ gh A B) {p:Addr} (h1:p.block<n₀) (h2:p.block≠gh):B.cell? p=A.cell? p:=World.cell?_of_block (h p.block h1 h2)
theorem grown_drewN (A:World) (m:Nat) (row:Option Nat):A.grownBy (A.drewN m) row:=⟨rfl,rfl,rfl,Nat.le_refl _,fun _ _ _=>rfl⟩
theorem wpListIn_append_c {F:Fence} {n:Nat} {P:Program} {w:World} {ops:Array Oper} {rest:List Oper} {o:Oper} {a:Act} {Q:Exit→Act→World→Prop} (hgd:o.guard=none) (s x:Operand) (t:TypeId)
    (hop:o.op=.call { callee:=.builtin .append,args:=#[s,x],argTypes:=#[t,t] })
    (base:Nat) (e:TypeId) (i:TypeInfo) (z:Value) (bytes:Nat) (ht:P.underlying t=some (.slice e)) (hi:P.info? e=some i) (hz:i.zero=some z)
    (hsize:i.size=1) (hby:i.bytes=bytes) (hzs:z.cells.size=1)
    (v:Value) (xs:List Value) (hs:a.eval s=v) (hown:OwnC w base v xs) (ad:Addr) (c:Nat) (xv:Value) (hx:a.eval x=.slice (some ad) 1 c) (hc:w.cell? ad=some xv) (h1:xv.oneCell'=true)
    (h63:xs.length+1≤maxLen) (hbytes:(xs.length+1)*bytes≤140737488355328) (hbase:base≤w.heap.size)
    (h:∀ v' w',OwnC w' base v' (xs++[xv])→w.grownBy w' v.ownBlock→wpListIn F n P ops Q rest (a.put o.dst v') w'):wpListIn F n P ops Q (o::rest) a w:=by
  refine wpListIn_plain hgd fun K hK'=>?_
  obtain ⟨v',w',hrun,h2,h3⟩:=run_append_c (P:=P) base t o.type e i z bytes ht hi hz hsize hby hzs v xs hown ad c xv hc h1 h63 hbytes hbase
  unfold Oper.wpIn
  refine ⟨?_,?_⟩
  · simp [Oper.about,hop,resolve,Target.leads,Sem.run_pure]
  · rw [Oper.semAt_plain F _ _ (by rw [hop];intro c hc';cases hc')]
    simp [execOp,hop,resolve,invoke,builtin,hs,hx,hrun,Result.andThen]
    exact hK' _ _ (h v' w' h2 h3)
def ups (N:Nat):Nat→List { k:Nat // k<N }
  | 0=>[]
  | k+1=>if h:k<N then ups N k++[⟨k,h⟩] else ups N k
theorem ups_succ (N k:Nat) (h:k<N):ups N (k+1)=ups N k++[⟨k,h⟩]:=by simp [ups,h]
theorem ups_length (N k:Nat) (h:k≤N):(ups N k).length=k:=by
  induction k with
  | zero=>rfl
  | succ k ih=>rw [ups_succ N k (by omega),List.length_append,ih (by omega)];rfl
theorem chunk1_in (n:Nat) (hn:1≤n) (l Bs Bn n₀ b N cap:Nat) (hcap:64*N≤cap) (hN:N≤1000000) (gh:Nat) (hs0:Bs<n₀) (hn0:Bn<n₀) (hsg:Bs≠gh) (hng:Bn≠gh) (J Jx:List { k:Nat // k<N }→World→Prop)
    (hY:∀ pre x W,J pre W→pre.length<N→YieldAt Fence.wide (n-1) Tryz.prog l #[.slice (some ⟨b,64*x.1,none⟩) 64 64] W fun e W'=>
      (e=.returned (.bool true)∧J (pre++[x]) W'∧KeptB n₀ gh W W')∨(e=.returned (.bool false)∧Jx (pre++[x]) W'))
    (W:World) (hBs:W.cell? ⟨Bs,0,none⟩=some (.slice (some ⟨b,0,none⟩) (64*N) cap)) (hBn:W.cell? ⟨Bn,0,none⟩=some (.int .i64 64)) (h0:J [] W) (hJd:∀ p A m,J p A→J p (A.drewN m)) :
    CallsIn Fence.wide n Tryz.prog 145 #[.func (.yield l) #[] #[],.pointer (some ⟨Bs,0,none⟩),.pointer (some ⟨Bn,0,none⟩)] W fun e W'=>(∃ v,e=.returned v) ∧
      ((∃ ys,ys=ups N N∧J ys W')∨(∃ pre,(∃ k,k≤N∧pre=ups N k)∧Jx pre W')):=by
  refine callsIn_of_wp Tryz.func145 rfl trivial ?_ rfl
  simp only [Tryz.ntmps145,List.size_toArray,List.length_cons,List.length_nil,Nat.reduceAdd,Nat.reduceSub,Array.replicate_succ,Array.replicate_zero,List.push_toArray,List.append_toArray,List.nil_append,List.cons_append]
  gi_wp2
  gi_loopw [4] (fun i wr=>∃ k:Nat,k≤N∧i=.int .i64 (64*(k:Int))∧J (ups N k) wr∧KeptB n₀ gh W wr)
    (fun i _=>64*N-(intOf i).toNat)
  case atStart=>exact ⟨0,Nat.zero_le _,rfl,h0,KeptB.refl _ _ _⟩
  case round=>
    obtain ⟨k,hk,rfl,hJs,hnx⟩:=hrel
    have cs:=(hnx.cell (p:=⟨Bs,0,none⟩) hs0 hsg).trans hBs
    have cn:=(hnx.cell (p:=⟨Bn,0,none⟩) hn0 hng).trans hBn
    by_cases hlt:k<N
    · have b0:(0:Int)≤64*(k:Int):=by omega
      have b1:64*(k:Int)≤64*(N:Int):=by omega
      have b2:64*(k:Int)<64*(N:Int):=by omega
      have t0:(64*(k:Int)).toNat=64*k:=by omega
      have hck:(cap=64*k)=False:=by simp;omega
      have hmn:min (64:Int) ((64*N-64*k:Nat):Int)=64:=by omega
      gi_wp2
      gi_quiet (fail)
      obtain ⟨fn,tmps,assign,body,hy,hR⟩:=hY _ ⟨k,hlt⟩ (wr.drewN nq) (hJd _ _ _ hJs) (by rw [ups_length N k hk];exact hlt)
      dsimp only at hy
      gi_wp2
      refine hR.mono ?_
      rintro e W3 (⟨rfl,hJ3,hk3⟩|⟨rfl,hJx3⟩)
      · have cn3:=(hk3.cell (p:=⟨Bn,0,none⟩) hn0 hng).trans cn
        gi_wp2
        go_roundw
        case rel=>exact ⟨k+1,by omega,by go_num,by rw [ups_succ N k hlt];exact hJ3,(hnx.drewN nq).trans hk3⟩
        case measure=>simp [intOf];omega
      · gi_wp2
        refine bodyPost_ret (results_none rfl _ _ _) rfl ?_
        exact ⟨⟨_,rfl⟩,.inr ⟨_,⟨k+1,by omega,(ups_succ N k hlt).symm⟩,hJx3⟩⟩
    · obtain rfl:k=N:=by omega
      gi_wp2
      go_end0
      exact ⟨⟨_,rfl⟩,.inl ⟨_,rfl,hJs⟩⟩
theorem chunk_stops (n:Nat) (hn:1≤n) (Bs Bn n₀ b N cap gh:Nat) (hcap:64*N≤cap) (hN:N≤1000000) (hs0:Bs<n₀) (hn0:Bn<n₀) (hsg:Bs≠gh) (hng:Bn≠gh) (w:World) (hw:n₀≤w.heap.size)
    (hBs:w.cell? ⟨Bs,0,none⟩=some (.slice (some ⟨b,0,none⟩) (64*N) cap)) (hBn:w.cell? ⟨Bn,0,none⟩=some (.int .i64 64)) :
    SeqStopsK Fence.wide n Tryz.prog 145 #[.pointer (some ⟨Bs,0,none⟩),.pointer (some ⟨Bn,0,none⟩)] (fun x:{ k:Nat // k<N }=>#[Value.slice (some ⟨b,64*x.1,none⟩) 64 64])
      (KeptB n₀ gh) (fun ys=>ys=ups N N) (fun _=>True) N w:=fun l J Jx W hW hJ _ hY h0=>by
  refine (chunk1_in n hn l Bs Bn n₀ b N cap hcap hN gh hs0 hn0 hsg hng J Jx hY W ((hW.cell (p:=⟨Bs,0,none⟩) (by show Bs<w.heap.size;omega)).trans hBs) ((hW.cell (p:=⟨Bn,0,none⟩) (by show Bn<w.heap.size;omega)).trans hBn) h0
    (fun p A m h=>hJ p A _ none h (grown_drewN A m none) (fun r e=>by cases e))).mono ?_
  rintro e W' ⟨he,⟨ys,rfl,hj⟩|⟨pre,_,hj⟩⟩
  · exact ⟨he,.inl ⟨_,rfl,hj⟩⟩
  · exact ⟨he,.inr ⟨_,trivial,hj⟩⟩
end
section
open Go.RowKit Go.Shelf
attribute [local go_sem] Oper.semAt_some
attribute [local go_sem ↓] Go.wp_at_zero Go.wp_at_succ
def OnePost (J Jx:List Unit→World→Prop) (e:Ending) (W':World):Prop:=(∃ v,e=.returned v)∧(J [()] W'∨∃ pre,Jx pre W')
theorem and127 (z:Nat) (hz:z<128):bits BinOp.and IntKind.u64 (z:Int) 127=(z:Int):=by
  have h:∀ z:Fin 128,bits BinOp.and IntKind.u64 ((z.1:Nat):Int) 127=((z.1:Nat):Int):=by decide +kernel
  exact h ⟨z,hz⟩
theorem groups1_in (n:Nat) (hn:1≤n) (l Bz z:Nat) (hz:z<128) (J Jx:List Unit→World→Prop)
    (hY:∀ pre x W,J pre W→pre.length<1→YieldAt Fence.wide (n-1) Tryz.prog l #[.int .u8 (z:Int),.bool true] W fun e W'=>
      (e=.returned (.bool true)∧J (pre++[x]) W'∧True)∨(e=.returned (.bool false)∧Jx (pre++[x]) W'))
    (W:World) (hBz:W.cell? ⟨Bz,0,none⟩=some (.int .u64 (z:Int))) (h0:J [] W) :
    CallsIn Fence.wide n Tryz.prog 173 #[.func (.yield l) #[] #[],.pointer (some ⟨Bz,0,none⟩)] W (OnePost J Jx):=by
  refine callsIn_of_wp Tryz.func173 rfl trivial ?_ rfl
  simp only [Tryz.ntmps173,List.size_toArray,List.length_cons,List.length_nil,Nat.reduceAdd,Nat.reduceSub,Array.replicate_succ,Array.replicate_zero,List.push_toArray,List.append_toArray,List.nil_append,List.cons_append]
  obtain ⟨fn,tmps,assign,body,hy,hR⟩:=hY [] () W h0 (by simp)
  have hz':(z:Int)<128:=by omega
  gi_wp2
  refine wpIn_loop_rounds 1 ?_
  rw [roundsIn_succ]
  have hand:=and127 z hz
  have hmod:(z:Int) % 256=(z:Int):=by omega
  gi_wp2
  refine hR.mono ?_
  rintro e W3 (⟨rfl,hJ3,hk3⟩|⟨rfl,hJx3⟩)
  · gi_wp2
    refine bodyPost_ret (results_none rfl _ _ _) rfl ?_
    exact ⟨⟨_,rfl⟩,.inl hJ3⟩
  · gi_wp2
    refine bodyPost_ret (results_none rfl _ _ _) rfl ?_
    exact ⟨⟨_,rfl⟩,.inr ⟨_,hJx3⟩⟩
theorem groups_stops (n:Nat) (hn:1≤n) (Bz z:Nat) (hz:z<128) (w:World) (hBz:w.cell? ⟨Bz,0,none⟩=some (.int .u64 (z:Int))) :
    SeqStopsK Fence.wide n Tryz.prog 173 #[.pointer (some ⟨Bz,0,none⟩)] (fun _:Unit=>#[.int .u8 (z:Int),.bool true])
      (fun _ _=>True) (fun ys=>ys=[()]) (fun _=>True) 1 w:=fun l J Jx W hW hJ _ hY h0=>by
  refine (groups1_in n hn l Bz z hz J Jx hY W ((hW.cell (p:=⟨Bz,0,none⟩) (lt_of_cell hBz)).trans hBz) h0).mono ?_
  rintro e W' ⟨he,hj|⟨pre,hj⟩⟩
  · exact ⟨he,.inl ⟨_,rfl,hj⟩⟩
  · exact ⟨he,.inr ⟨_,trivial,hj⟩⟩
theorem groups_any (z:Nat) (w:World) :
    Calls Tryz.prog 129 #[.int .u64 (z:Int)] w fun e w'=>
      e=.returned (.func (.func 173) #[] #[.pointer (some ⟨w.heap.size,0,none⟩)])∧w.alloc (.cells #[.int .u64 (z:Int)] 223)=w':=by
  have hmf:∀ (fn:Fn) (first cap:Array Value) (w:World),(Instr.makeFunc fn first cap).run Tryz.prog w=.ok (.func fn first cap) w:=fun _ _ _ _=>rfl
  go_enter Tryz.func129,Tryz.ntmps129
  go_wp2
  go_ret
  exact ⟨rfl,rfl⟩
theorem u8_infoR:(Tryz.prog.info? 5).map (fun i=>(i.zero,i.size,i.bytes))=some (some (.int .u8 0),1,1):=by kernel_rfl
theorem xor0 (n:Nat) (hn:n<64):bits BinOp.xor IntKind.u64 ((n:Int)*2) 0=((2*n:Nat):Int):=by
  have h:∀ z:Fin 64,bits BinOp.xor IntKind.u64 (((z.1:Nat):Int)*2) 0=((2*z.1:Nat):Int):=by decide +kernel
  exact h ⟨n,hn⟩
def byteS (n:Nat):ByteArray:=⟨#[UInt8.ofNat n]⟩
theorem putInt_any (n:Nat) (hn:n<64) (w:World) :
    Calls Tryz.prog 76 #[.int .i64 (n:Int)] w fun e w'=>e=.returned (.tuple #[.string (byteS (2*n)),.int .i64 0])∧Below w.heap.size w w':=by
  have q0:(n:Int)<64:=by omega
  obtain ⟨ib,hib,hzb0,hzb1,hzb2⟩:=info_parts u8_infoR
  have hdiv:(n:Int) / 9223372036854775808=0:=by omega
  obtain ⟨z,hz⟩:∃ z,z=2*n:=⟨_,rfl⟩
  have hxor:bits BinOp.xor IntKind.u64 ((n:Int)*2) 0=(z:Int):=by rw [hz];exact xor0 n hn
  have hz128:z<128:=by omega
  have HZ:=Lib.hid hz
  clear hz
  have l1:decide ((n:Int) < -4611686018427387903)=false:=decide_eq_false (by omega)
  have l2:decide (4611686018427387903<(n:Int))=false:=decide_eq_false (by omega)
  refine (callsIn_wide (n:=3)).1 (callsIn_of_wp_marks Tryz.func76 rfl trivial (wpIn_wide.2 ?_) rfl)
  simp only [Tryz.ntmps76,List.size_toArray,List.length_cons,List.length_nil,Nat.reduceAdd,Nat.reduceSub,Array.replicate_succ,Array.replicate_zero,List.push_toArray,List.append_toArray,List.nil_append,List.cons_append]
  go_wp2_with (go_at_call 129;refine (groups_any _ _).mono ?_;rintro e W2 ⟨rfl,rfl⟩)
  obtain ⟨B,hB⟩:∃ B,B=w.heap.size:=⟨_,rfl⟩
  have hI0:(∃ v,Boxed ((w.alloc (.cells #[.slice none 0 0] 174)).alloc (.cells #[.int .u64 (z:Int)] 223)) w.heap.size 174 v∧((w.alloc (.cells #[.slice none 0 0] 174)).alloc (.cells #[.int .u64 (z:Int)] 223)).ownsRow w.heap.size 5 1 v ([]:List Unit).length (([]:List Unit).map fun _=>Value.int .u8 (z:Int))∧True)∧Below w.heap.size w ((w.alloc (.cells #[.slice none 0 0] 174)).alloc (.cells #[.int .u64 (z:Int)] 223)):=
    ⟨⟨_,(Boxed.new _ _ _).alloc _,World.ownsRow_nil _ _ _ _,trivial⟩,((Below.refl _ _).alloc (Nat.le_refl _) _).alloc (by simp) _⟩
  refine (wpIn_wide (n:=3)).1 ?_
  refine' wpIn_rangeFunc_ownF rfl (by omega) (gf:=173) (lb:=#[.pointer (some ⟨w.heap.size+1,0,none⟩)]) (by simp [Act.eval]) trivial (enters_of Tryz.func173 (by kernel_rfl) rfl)
    (groups_stops 2 (by omega) (w.heap.size+1) z hz128 _ (by have h:=(Boxed.new (w.alloc (.cells #[.slice none 0 0] 174)) 223 (.int .u64 (z:Int))).cell;rw [World.size_alloc] at h;exact h))
    (fun _ _=>trivial) (fun _ _ _ _ _ _ _ _=>trivial) (Below.refl _ _) (fun _=>rfl)
    (fun (pre:List Unit) W=>(∃ v,Boxed W w.heap.size 174 v∧W.ownsRow w.heap.size 5 1 v pre.length (pre.map fun _=>Value.int .u8 (z:Int))∧True)∧Below w.heap.size w W) (fun _ _ _=>False)
    (OwnFrom.and (Own.from (holdsRow_own w.heap.size w.heap.size 174 5 1 (fun pre:List Unit=>pre.length) (fun pre:List Unit=>pre.map fun _=>Value.int .u8 (z:Int)) (fun _ _=>True)) _) (ownFrom_below (Nat.le_refl _) (by simp;omega)))
    (fun _ _ _ _ _ hs _ _=>hs) hI0 _ ?assign ?body ?done ?stop
  case assign=>
    intro l x W K hK
    gi_wp2
    exact hK
  case body=>
    rintro l pre x W ⟨⟨v,hv,hrow,_⟩,hb⟩ hlen
    obtain rfl:pre=[]:=by
      cases pre with
      | nil=>rfl
      | cons a t=>simp at hlen
    have hvc:=hv.cell
    have hbs:=hb.size
    gi_wp2_with (gi_at_builtin;refine wpListIn_append_own _ rfl (.tmp 27) (.tmp 29) 174 rfl w.heap.size 5 ib (.int .u8 0) 1 1 Tryz.underlying174 hib hzb0 hzb1 hzb2 rfl (by decide) _ _ _ rfl (hrow.alloc _) ⟨W.heap.size,0,none⟩ 1 1 [.int .u8 (z:Int)] rfl rfl (cell_one_new _ _ _) (by simp [Value.oneCell']) (by unfold maxLen;simp) (by simp) (by simp;omega) ?_;intro v' w1 hown' hgrow _;obtain ⟨g',cap',rfl⟩:=ownsRow_succ hown';obtain ⟨hv1,hv2,hr2,hk2,hb2⟩:=hv.appended (by decide) hrow hbs (Nat.le_refl _) hown' hgrow;have hc1:=hv1.cell;have hf1:=hv1.frozen)
    exact ⟨hk2,trivial,⟨_,hv2,hr2,trivial⟩,hb.trans hb2⟩
  case done=>
    rintro D ys' W hD rfl ⟨⟨v,hv,hrow,_⟩,hb⟩ hK
    obtain ⟨g,cg,rfl⟩:=ownsRow_succ hrow
    have hvc:=hv.cell
    have hcv:(convert 174 9 (.slice (some ⟨g,0,none⟩) 1 cg)).run Tryz.prog W=.ok (.string (byteS z)) W:=by
      rw [run_convert_bytes_string W 174 9 5 _ 1 cg Tryz.underlying174 Tryz.underlying5 Tryz.underlying9]
      have h:=run_loadCells_list (P:=Tryz.prog) W ⟨g,0,none⟩ ([(z:Int)].map (Value.int .u8)) (fun j x hx=>by
        match j,hx with
        | 0,hx=>simp at hx;subst hx;exact hrow.cells (g:=g) rfl 0 _ rfl)
      exact run_bytesToString W _ 1 cg [(z:Int)] h
    go_wp2
    refine ⟨by simp,.inl ⟨_,_,rfl,run_takeDeferred hK,?_⟩⟩
    refine ⟨_,results_tmp2 rfl _ _ _,?_,?_⟩
    · rw [← HZ.out];rfl
    · exact hb.grown (grownBy_putObj' W D _) hb.size (fun k e=>by injection e with e;simp at hD;omega)
  case stop=>
    rintro D c pre W _ _ h _
    exact h.elim
end
section
open Go.RowKit
attribute [local go_sem ↓] Go.wp_at_zero Go.wp_at_succ
def theRow:RowT:=⟨0,5,1,2,3⟩
theorem theRow_ok:theRow.ok:=by unfold theRow RowT.ok;simp
theorem valid_row (w:World):Calls Tryz.prog 160 #[.agg #[.int .i64 0,.int .i64 5,.int .i64 1,.int .i64 2,.int .i64 3]] w fun e w'=>e=.returned (.bool true)∧Below w.heap.size w w':=rowValid_yes theRow w theRow_ok
theorem sound_no (w:World):Calls Tryz.prog 176 #[.agg #[.int .i64 0,.int .i64 5,.bool false,.int .i64 0,.int .i64 0,.int .i64 0,.bool true,.int .i64 1,.int .i64 2,.int .i64 3],.bool false,.agg #[.int .i64 0,.int .i64 0,.int .i64 0]] w fun e w'=>e=.returned (.bool true)∧Below w.heap.size w w':=by
  have heq:∀ W:World,(Op.equalIn 10000 60 (.agg #[.int .i64 0,.int .i64 0,.int .i64 0]) (.agg #[.int .i64 0,.int .i64 0,.int .i64 0])).run Tryz.prog W=.ok true W:=fun _=>by kernel_rfl
  go_enter Tryz.func176,Tryz.ntmps176
  go_wp2_with (go_at_call 81;refine (half_no _ _ _ _ _ _ _ _ _ _ _ _ _ _).mono ?_;rintro e W1 ⟨rfl,hb1⟩;have hB1:=(((Blk.new' (w.alloc (.cells #[.int .i64 0,.int .i64 5,.bool false,.int .i64 0,.int .i64 0,.int .i64 0,.bool true,.int .i64 1,.int .i64 2,.int .i64 3] 62)) 60 #[.int .i64 0,.int .i64 0,.int .i64 0] (b:=w.heap.size+1) (by simp)))).ext hb1;have c0:=hB1.cell 0;have c1:=hB1.cell 1;have c2:=hB1.cell 2;have l1:=hB1.lt;have HL1:=Lib.hid (ext_call (ext_alloc (ext_new w _) _) hb1);clear hb1 hB1)
  go_ret
  exact ⟨rfl,ext_alloc HL1.out _⟩
theorem sound_yes (w:World):Calls Tryz.prog 176 #[.agg #[.int .i64 0,.int .i64 5,.bool false,.int .i64 0,.int .i64 0,.int .i64 0,.bool true,.int .i64 1,.int .i64 2,.int .i64 3],.bool true,.agg #[.int .i64 1,.int .i64 2,.int .i64 3]] w fun e w'=>e=.returned (.bool true)∧Below w.heap.size w w':=by
  go_enter Tryz.func176,Tryz.ntmps176
  go_wp2_with (first
    | (go_at_call 81;refine (half_yes _ _ _ _ _ _ _ _ _ _ _ _ _ _).mono ?_;rintro e W1 ⟨rfl,hb1⟩;have HL1:=Lib.hid (ext_call (ext_alloc (ext_new w _) _) hb1);clear hb1)
    | (go_at_call 160;refine (valid_row _).mono ?_;rintro e W2 ⟨rfl,hb2⟩;have HL2:=Lib.hid (ext_call (ext_alloc HL1.out _) hb2);clear hb2))
  go_ret
  exact ⟨rfl,HL2.out⟩
theorem validChange (w:World):Calls Tryz.prog 131 #[.agg #[.int .i64 0,.int .i64 5,.bool false,.int .i64 0,.int .i64 0,.int .i64 0,.bool true,.int .i64 1,.int .i64 2,.int .i64 3]] w fun e w'=>e=.returned (.bool true)∧Below w.heap.size w w':=by
  have HB0:=Lib.hid (Blk.new w 62 #[.int .i64 0,.int .i64 5,.bool false,.int .i64 0,.int .i64 0,.int .i64 0,.bool true,.int .i64 1,.int .i64 2,.int .i64 3])
  go_enter Tryz.func131,Tryz.ntmps131
  go_wp2_with fail
  refine (sound_no _).mono ?_
  rintro e W1 ⟨rfl,hb1⟩
  have hB1:=HB0.out.ext hb1
  have c0:=hB1.cell 0
  have c1:=hB1.cell 1
  have c2:=hB1.cell 2
  have c3:=hB1.cell 3
  have c4:=hB1.cell 4
  have c5:=hB1.cell 5
  have c6:=hB1.cell 6
  have c7:=hB1.cell 7
  have c8:=hB1.cell 8
  have c9:=hB1.cell 9
  have HL1:=Lib.hid (ext_call (ext_new w _) hb1)
  clear hb1 hB1
  go_wp2_with fail
  refine (sound_yes _).mono ?_
  rintro e W2 ⟨rfl,hb2⟩
  go_wp2
  go_ret
  exact ⟨rfl,ext_call HL1.out hb2⟩
structure HeadB (w:World) (b:Nat) (cs:Array Value):Prop where
  lt:b<w.heap.size
  cells:∀ i,i<cs.size→w.cell? ⟨b,i,none⟩=cs[i]?
section
variable {w W:World} {b:Nat} {cs zs:Array Value} {t:TypeId}
theorem HeadB.cell (h:HeadB w b cs) (i:Nat) (hi:i<cs.size:=by simp):w.cell? ⟨b,i,none⟩=cs[i]? := h.cells i hi
theorem HeadB.of (h:Blk w b t cs):HeadB w b cs:=⟨h.lt,fun i _=>h.cell i⟩
theorem HeadB.of2 (h:Blk w b t (cs++zs)):HeadB w b cs:=⟨h.lt,fun i hi=>(h.cell i).trans (Array.getElem?_append_left hi)⟩
theorem HeadB.ext (h:HeadB w b cs) (k:Below w.heap.size w W):HeadB W b cs:=⟨Nat.lt_of_lt_of_le h.lt k.size,fun i hi=>(k.cell h.lt).trans (h.cells i hi)⟩
theorem HeadB.far (h:HeadB w b cs) {p:Addr} (hp:b≠p.block) (u:Value):HeadB (w.setCell p u) b cs:=⟨by have:=h.lt;simpa using this,fun i hi=>(World.cell?_of_block (Below.heap_setCell w p u b hp)).trans (h.cells i hi)⟩
theorem HeadB.alloc (h:HeadB w b cs) (o:Obj):HeadB (w.alloc o) b cs:=h.ext (ext_new w o)
end
theorem chg_size:(Tryz.prog.info? 62).map (·.size)=some 10:=by kernel_rfl
theorem chg_one:(#[.int .i64 0,.int .i64 5,.bool false,.int .i64 0,.int .i64 0,.int .i64 0,.bool true,.int .i64 1,.int .i64 2,.int .i64 3]:Array Value).all (·.oneCell')=true:=by simp [Value.oneCell']
theorem validRecord (w:World) (b c:Nat) (hB:HeadB w b #[.int .i64 0,.int .i64 5,.bool false,.int .i64 0,.int .i64 0,.int .i64 0,.bool true,.int .i64 1,.int .i64 2,.int .i64 3]):Calls Tryz.prog 80 #[.agg #[.int .i64 1,.slice (some ⟨b,0,none⟩) 1 c]] w fun e w'=>e=.returned (.bool true)∧Below w.heap.size w w':=by
  have I1:=Lib.hid (show inF 1 10000 [1]=true by simp [inF])
  have I2:=Lib.hid (show inF 1 8 [1]=true by simp [inF])
  have HB0:=Lib.hid (Blk.new w 43 #[.int .i64 1,.slice (some ⟨b,0,none⟩) 1 c])
  have HC0:=Lib.hid hB
  clear hB
  go_enter Tryz.func80,Tryz.ntmps80
  go_wp2_with fail
  refine (within_yes (w.heap.size+1) 0 1 [1] 1 10000 _ (.of_blk (Blk.new' _ _ _ (by simp)) 0 [1] rfl) (by simp) (by simp) I1.out).mono ?_
  rintro e W1 ⟨rfl,hb1⟩
  have hB1:=(HB0.out.alloc _).ext hb1
  have c1:=hB1.cell 1
  have HB1:=Lib.hid hB1
  have HC1:=Lib.hid (((HC0.out.alloc _).alloc _).ext hb1)
  have HL1:=Lib.hid (ext_call (ext_alloc (ext_new w _) _) hb1)
  clear hb1 hB1
  go_wp2_with fail
  refine (within_yes W1.heap.size 0 1 [1] 1 8 _ (.of_blk (Blk.new _ _ _) 0 [1] rfl) (by simp) (by simp) I2.out).mono ?_
  rintro e W2 ⟨rfl,hb2⟩
  have hB2:=(HB1.out.alloc _).ext hb2
  have c1:=hB2.cell 1
  have l1:=hB2.lt
  have hC2:=(HC1.out.alloc _).ext hb2
  have e0:=hC2.cell 0
  have e1:=hC2.cell 1
  have e2:=hC2.cell 2
  have e3:=hC2.cell 3
  have e4:=hC2.cell 4
  have e5:=hC2.cell 5
  have e6:=hC2.cell 6
  have e7:=hC2.cell 7
  have e8:=hC2.cell 8
  have e9:=hC2.cell 9
  have l2:=hC2.lt
  have HL2:=Lib.hid (ext_call (ext_alloc HL1.out _) hb2)
  clear hb2 hB2 hC2
  go_wp2
  refine wp_loop_rounds 2 ?_
  rw [rounds_succ]
  go_wp2_with fail
  refine (validChange _).mono ?_
  rintro e W3 ⟨rfl,hb3⟩
  have hD3:=((Blk.new W2 62 #[.int .i64 (-1),.int .i64 0,.bool false,.int .i64 0,.int .i64 0,.int .i64 0,.bool false,.int .i64 0,.int .i64 0,.int .i64 0]).alloc (.cells #[.int .i64 0,.int .i64 5,.bool false,.int .i64 0,.int .i64 0,.int .i64 0,.bool true,.int .i64 1,.int .i64 2,.int .i64 3] 62)).ext hb3
  have hE3:=(Blk.new' (W2.alloc (.cells #[.int .i64 (-1),.int .i64 0,.bool false,.int .i64 0,.int .i64 0,.int .i64 0,.bool false,.int .i64 0,.int .i64 0,.int .i64 0] 62)) 62 #[.int .i64 0,.int .i64 5,.bool false,.int .i64 0,.int .i64 0,.int .i64 0,.bool true,.int .i64 1,.int .i64 2,.int .i64 3] (b:=W2.heap.size+1) (by simp)).ext hb3
  have d0:=hD3.cell 0
  have d1:=hD3.cell 1
  have f0:=hE3.cell 0
  have f1:=hE3.cell 1
  have f2:=hE3.cell 2
  have f3:=hE3.cell 3
  have f4:=hE3.cell 4
  have f5:=hE3.cell 5
  have f6:=hE3.cell 6
  have f7:=hE3.cell 7
  have f8:=hE3.cell 8
  have f9:=hE3.cell 9
  have HD3:=Lib.hid hD3
  have HL3:=Lib.hid (ext_call (ext_alloc (ext_alloc HL2.out _) _) hb3)
  have HI:=Lib.hid chg_size
  have H1:=Lib.hid chg_one
  have hz2:=HL2.out.size
  clear hb3 hD3 hE3 e0 e1 e2 e3 e4 e5 e6 e7 e8 e9 c1
  go_wp2_with (refine wpList_store_blk rfl 62 (.tmp 3) (.tmp 51) rfl W2.heap.size #[.int .i64 0,.int .i64 5,.bool false,.int .i64 0,.int .i64 0,.int .i64 0,.bool true,.int .i64 1,.int .i64 2,.int .i64 3] rfl rfl 62 #[.int .i64 (-1),.int .i64 0,.bool false,.int .i64 0,.int .i64 0,.int .i64 0,.bool false,.int .i64 0,.int .i64 0,.int .i64 0] HD3.out HI.out rfl H1.out ?_;intro W4 hB4 hg4;have HL4:=Lib.hid (HL3.out.grown hg4 HL3.out.size (fun k e=>by injection e with e;omega));clear hB4 hg4)
  rw [rounds_succ]
  go_wp2
  go_ret
  exact ⟨rfl,HL4.out⟩
def encS (l:List Int):ByteArray:=⟨(l.map fun n=>UInt8.ofNat (2*n.toNat)).toArray⟩
theorem encS_append (l m:List Int):encS l++encS m=encS (l++m):=by
  unfold encS
  rw [ByteArray.mk_append_mk,← List.map_append]
theorem encS_size (l:List Int):(encS l).size=l.length:=by
  unfold encS
  simp only [ByteArray.size_mk',List.size_toArray,List.length_map]
theorem putInt_int (n:Int) (h0:0≤n) (h1:n<64) (w:World) :
    Calls Tryz.prog 76 #[.int .i64 n] w fun e w'=>e=.returned (.tuple #[.string (encS [n]),.int .i64 0])∧Below w.heap.size w w':=by
  obtain ⟨m,rfl⟩:=Int.eq_ofNat_of_zero_le h0
  exact putInt_any m (by omega) w
theorem rowPut_any (b off c:Nat) (l:List Int) (w:World) (hc:IntsAt w b off l) (hb:b<w.heap.size) (hn:l.length≤1000) (hin:∀ x ∈ l,0≤x∧x<64) :
    Calls Tryz.prog 143 #[.slice (some ⟨b,off,none⟩) l.length c] w fun e w'=>e=.returned (.string (encS l))∧Below w.heap.size w w':=by
  have HC:=Lib.hid hc
  have HI:=Lib.hid hin
  clear hc hin
  go_enter Tryz.func143,Tryz.ntmps143
  go_wp2
  go_loopw [3,10] (fun s i wr=>∃ k:Nat,k≤l.length∧i=.int .i64 k∧s=.string (encS (l.take k))∧Below w.heap.size w wr) (fun _ i _=>l.length-(intOf i).toNat)
  case atStart=>exact ⟨0,Nat.zero_le _,rfl,rfl,ext_refl w⟩
  case round=>
    obtain ⟨k,hk,rfl,rfl,hl⟩:=hrel
    by_cases hlt:k<l.length
    · have hcell:=(hl.cell (p:=⟨b,off+k,none⟩) hb).trans (HC.out k l[k] (List.getElem?_eq_getElem hlt))
      have hx:=HI.out l[k] (List.getElem_mem hlt)
      have HS:=Lib.hid (encS_append (l.take k) [l[k]])
      obtain ⟨x,hxe⟩:∃ x,x=l[k]:=⟨_,rfl⟩
      rw [← hxe] at hcell hx HS
      have HT:=Lib.hid (show l.take (k+1)=l.take k++[x] by rw [hxe];exact List.take_succ_eq_append_getElem hlt)
      clear hxe
      obtain ⟨hx1,hx2⟩:=hx
      have hs1:=encS_size (l.take k)
      have hs2:=encS_size [x]
      simp only [List.length_take,List.length_cons,List.length_nil] at hs1 hs2
      have HP:=Lib.hid (fun W:World=>putInt_int x hx1 hx2 W)
      obtain ⟨s1,es1⟩:∃ s1,s1=encS (l.take k):=⟨_,rfl⟩
      obtain ⟨s2,es2⟩:∃ s2,s2=encS [x]:=⟨_,rfl⟩
      rw [← es1] at HS hs1 ⊢
      rw [← es2] at HS hs2 HP
      have hsum:s1.size+s2.size≤9223372036854775807:=by omega
      have hcat:=fun W:World=>run_string_add_sum (P:=Tryz.prog) (w:=W) s1 s2 hsum
      have HL:=Lib.hid hl
      clear es1 es2 hs1 hs2 hl
      go_wp2_with (go_at_call 76;refine (HP.out _).mono ?_;rintro e W1 ⟨rfl,hb1⟩)
      go_roundw
      case rel=>exact ⟨k+1,by omega,by go_num,by rw [HT.out,HS.out],ext_call HL.out hb1⟩
      case measure=>simp [intOf];omega
    · have HK:=Lib.hid (show l.take k=l from List.take_of_length_le (by omega))
      have HL:=Lib.hid hl
      clear hl
      go_wp2
      go_ret
      exact ⟨by rw [HK.out];rfl,HL.out⟩
end
section
open Go.RowKit
attribute [local go_sem ↓] Go.wp_at_zero Go.wp_at_succ
structure ChgT where
  t:Int
  k:Int
  had:Bool
  o1:Int
  o2:Int
  o3:Int
  has:Bool
  n1:Int
  n2:Int
  n3:Int
def ChgT.arr (c:ChgT):Array Value:=#[.int .i64 c.t,.int .i64 c.k,.bool c.had,.int .i64 c.o1,.int .i64 c.o2,.int .i64 c.o3,.bool c.has,.int .i64 c.n1,.int .i64 c.n2,.int .i64 c.n3]
def ChgT.ok (c:ChgT):Prop:=((0≤c.t∧c.t≤3)∧(1≤c.k∧c.k≤1000000))∧(c.had=false→c.o1=0∧c.o2=0∧c.o3=0)∧(c.has=false→c.n1=0∧c.n2=0∧c.n3=0) ∧
  ((-1000000000≤c.o1∧c.o1≤1000000000)∧(-1000000000≤c.o2∧c.o2≤1000000000)∧(-1000000000≤c.o3∧c.o3≤1000000000))∧((-1000000000≤c.n1∧c.n1≤1000000000)∧(-1000000000≤c.n2∧c.n2≤1000000000)∧(-1000000000≤c.n3∧c.n3≤1000000000))
def ChgT.turns (c:ChgT):Bool:=(c.had != c.has) || (c.had && !(decide (c.o1=c.n1) && decide (c.o2=c.n2) && decide (c.o3=c.n3)))
theorem int_infoP:(Tryz.prog.info? 3).map (fun i=>(i.zero,i.size,i.bytes))=some (some (.int .i64 0),1,8):=by kernel_rfl
theorem eq3 (a b c x y z:Int) (W:World):(Op.equalIn 10000 60 (.agg #[.int .i64 a,.int .i64 b,.int .i64 c]) (.agg #[.int .i64 x,.int .i64 y,.int .i64 z])).run Tryz.prog W=.ok (decide (a=x) && decide (b=y) && decide (c=z)) W:=by
  obtain ⟨is,his,_,_,_⟩:=info_parts int_infoP
  have hc:Tryz.prog.cellsOf 3=1:=by kernel_rfl
  have hl:List.range 3=[0,1,2]:=by decide
  have hp:∀ (k:Nat) (a:Array Value) (n:Int),a[k]? = some (.int .i64 n)→(part 3 a k).run Tryz.prog W=.ok (.int .i64 n) W:=fun k a n h=>run_part_plain W (by kernel_rfl) h
  have he:∀ m n:Int,(Op.equalIn 9999 3 (.int .i64 m) (.int .i64 n)).run Tryz.prog W=.ok (m == n) W:=fun m n=>by
    rw [show 9999=9998+1 from rfl,run_equalIn_int (k':=.i64) W 9998 _ _ _ _ Tryz.underlying3]
  refine (run_equalIn_array (d:=9999) W #[.int .i64 a,.int .i64 b,.int .i64 c] #[.int .i64 x,.int .i64 y,.int .i64 z] Tryz.underlying60 his).trans ?_
  rw [hc,hl]
  by_cases h1:a=x <;> by_cases h2:b=y <;> by_cases h3:c=z <;> simp [Op.eqItems,hp 0 _ a,hp 0 _ x,hp 1 _ b,hp 1 _ y,hp 2 _ c,hp 2 _ z,he,h1,h2,h3]
theorem soundNo (c:ChgT) (w:World):Calls Tryz.prog 176 #[.agg #[.int .i64 c.t,.int .i64 c.k,.bool c.had,.int .i64 c.o1,.int .i64 c.o2,.int .i64 c.o3,.bool c.has,.int .i64 c.n1,.int .i64 c.n2,.int .i64 c.n3],.bool false,.agg #[.int .i64 0,.int .i64 0,.int .i64 0]] w fun e w'=>e=.returned (.bool true)∧Below w.heap.size w w':=by
  obtain ⟨t,k,had,o1,o2,o3,has,n1,n2,n3⟩:=c
  have heq:∀ W:World,(Op.equalIn 10000 60 (.agg #[.int .i64 0,.int .i64 0,.int .i64 0]) (.agg #[.int .i64 0,.int .i64 0,.int .i64 0])).run Tryz.prog W=.ok true W:=fun _=>by kernel_rfl
  go_enter Tryz.func176,Tryz.ntmps176
  go_wp2_with (go_at_call 81;refine (half_no _ _ _ _ _ _ _ _ _ _ _ _ _ _).mono ?_;rintro e W1 ⟨rfl,hb1⟩;have hB1:=(((Blk.new' (w.alloc (.cells #[.int .i64 t,.int .i64 k,.bool had,.int .i64 o1,.int .i64 o2,.int .i64 o3,.bool has,.int .i64 n1,.int .i64 n2,.int .i64 n3] 62)) 60 #[.int .i64 0,.int .i64 0,.int .i64 0] (b:=w.heap.size+1) (by simp)))).ext hb1;have c0:=hB1.cell 0;have c1:=hB1.cell 1;have c2:=hB1.cell 2;have l1:=hB1.lt;have HL1:=Lib.hid (ext_call (ext_alloc (ext_new w _) _) hb1);clear hb1 hB1)
  go_ret
  exact ⟨rfl,ext_alloc HL1.out _⟩
theorem soundYes (c:ChgT) (a1 a2 a3:Int) (w:World) (hr:RowT.ok ⟨c.t,c.k,a1,a2,a3⟩):Calls Tryz.prog 176 #[.agg #[.int .i64 c.t,.int .i64 c.k,.bool c.had,.int .i64 c.o1,.int .i64 c.o2,.int .i64 c.o3,.bool c.has,.int .i64 c.n1,.int .i64 c.n2,.int .i64 c.n3],.bool true,.agg #[.int .i64 a1,.int .i64 a2,.int .i64 a3]] w fun e w'=>e=.returned (.bool true)∧Below w.heap.size w w':=by
  obtain ⟨t,k,had,o1,o2,o3,has,n1,n2,n3⟩:=c
  have HR:=Lib.hid (fun W:World=>rowValid_yes ⟨t,k,a1,a2,a3⟩ W hr)
  clear hr
  go_enter Tryz.func176,Tryz.ntmps176
  go_wp2_with (first
    | (go_at_call 81;refine (half_yes _ _ _ _ _ _ _ _ _ _ _ _ _ _).mono ?_;rintro e W1 ⟨rfl,hb1⟩;have HL1:=Lib.hid (ext_call (ext_alloc (ext_new w _) _) hb1);clear hb1)
    | (go_at_call 160;refine (HR.out _).mono ?_;rintro e W2 ⟨rfl,hb2⟩;have HL2:=Lib.hid (ext_call (ext_alloc HL1.out _) hb2);clear hb2))
  go_ret
  exact ⟨rfl,HL2.out⟩
theorem sound_old (c:ChgT) (hc:c.ok) (w:World):Calls Tryz.prog 176 #[.agg #[.int .i64 c.t,.int .i64 c.k,.bool c.had,.int .i64 c.o1,.int .i64 c.o2,.int .i64 c.o3,.bool c.has,.int .i64 c.n1,.int .i64 c.n2,.int .i64 c.n3],.bool c.had,.agg #[.int .i64 c.o1,.int .i64 c.o2,.int .i64 c.o3]] w fun e w'=>e=.returned (.bool true)∧Below w.heap.size w w':=by
  obtain ⟨⟨h1,h2⟩,h3,h4,h5,h6⟩:=hc
  cases hh:c.had
  · obtain ⟨e1,e2,e3⟩:=h3 hh
    have:=soundNo c w
    rw [hh,e1,e2,e3] at this
    rw [e1,e2,e3]
    exact this
  · have:=soundYes c c.o1 c.o2 c.o3 w ⟨h1,h2,h5.1,h5.2.1,h5.2.2⟩
    rw [hh] at this
    exact this
theorem sound_new (c:ChgT) (hc:c.ok) (w:World):Calls Tryz.prog 176 #[.agg #[.int .i64 c.t,.int .i64 c.k,.bool c.had,.int .i64 c.o1,.int .i64 c.o2,.int .i64 c.o3,.bool c.has,.int .i64 c.n1,.int .i64 c.n2,.int .i64 c.n3],.bool c.has,.agg #[.int .i64 c.n1,.int .i64 c.n2,.int .i64 c.n3]] w fun e w'=>e=.returned (.bool true)∧Below w.heap.size w w':=by
  obtain ⟨⟨h1,h2⟩,h3,h4,h5,h6⟩:=hc
  cases hh:c.has
  · obtain ⟨e1,e2,e3⟩:=h4 hh
    have:=soundNo c w
    rw [hh,e1,e2,e3] at this
    rw [e1,e2,e3]
    exact this
  · have:=soundYes c c.n1 c.n2 c.n3 w ⟨h1,h2,h6.1,h6.2.1,h6.2.2⟩
    rw [hh] at this
    exact this
theorem validChange_any (c:ChgT) (hc:c.ok) (w:World):Calls Tryz.prog 131 #[.agg #[.int .i64 c.t,.int .i64 c.k,.bool c.had,.int .i64 c.o1,.int .i64 c.o2,.int .i64 c.o3,.bool c.has,.int .i64 c.n1,.int .i64 c.n2,.int .i64 c.n3]] w fun e w'=>e=.returned (.bool c.turns)∧Below w.heap.size w w':=by
  have HO:=Lib.hid (fun W:World=>sound_old c hc W)
  have HN:=Lib.hid (fun W:World=>sound_new c hc W)
  obtain ⟨b,hb⟩:∃ b,b=c.turns:=⟨_,rfl⟩
  rw [← hb]
  clear hc
  obtain ⟨t,k,had,o1,o2,o3,has,n1,n2,n3⟩:=c
  have heq:=fun W:World=>eq3 o1 o2 o3 n1 n2 n3 W
  have HB0:=Lib.hid (Blk.new w 62 #[.int .i64 t,.int .i64 k,.bool had,.int .i64 o1,.int .i64 o2,.int .i64 o3,.bool has,.int .i64 n1,.int .i64 n2,.int .i64 n3])
  simp only [ChgT.turns] at hb
  dsimp only at HO HN ⊢
  generalize (decide (o1=n1) && decide (o2=n2) && decide (o3=n3))=q at hb heq
  have HT:=Lib.hid (fun W1:World=>fun (hb1:Below (w.alloc (.cells #[.int .i64 t,.int .i64 k,.bool had,.int .i64 o1,.int .i64 o2,.int .i64 o3,.bool has,.int .i64 n1,.int .i64 n2,.int .i64 n3] 62)).heap.size (w.alloc (.cells #[.int .i64 t,.int .i64 k,.bool had,.int .i64 o1,.int .i64 o2,.int .i64 o3,.bool has,.int .i64 n1,.int .i64 n2,.int .i64 n3] 62)) W1)=>And.intro (HB0.out.ext hb1) (ext_call (ext_new w _) hb1))
  cases had <;> cases has <;> cases q <;> simp only [Bool.false_bne,Bool.true_bne,Bool.not_true,Bool.not_false,Bool.or_true,Bool.or_false,Bool.true_or,Bool.false_or,Bool.and_true,Bool.and_false,Bool.false_and,Bool.true_and,bne_self_eq_false] at hb <;> subst hb <;> go_enter Tryz.func131,Tryz.ntmps131 <;> (go_wp2_with fail) <;>
    first
    | (go_ret;exact ⟨rfl,ext_new w _⟩)
    | (refine (HO.out _).mono ?_
       rintro e W1 ⟨rfl,hb1⟩
       have hB1:=(HT.out _ hb1).1
       have c0:=hB1.cell 0;have c1:=hB1.cell 1;have c2:=hB1.cell 2;have c3:=hB1.cell 3;have c4:=hB1.cell 4;have c5:=hB1.cell 5;have c6:=hB1.cell 6;have c7:=hB1.cell 7;have c8:=hB1.cell 8;have c9:=hB1.cell 9
       have HL1:=Lib.hid (HT.out _ hb1).2
       clear hb1 hB1
       go_wp2_with fail
       refine (HN.out _).mono ?_
       rintro e W2 ⟨rfl,hb2⟩
       go_wp2
       go_ret
       exact ⟨rfl,ext_call HL1.out hb2⟩)
end
section
open Go.RowKit
attribute [local go_sem ↓] Go.wp_at_zero Go.wp_at_succ
theorem within1_low (n lo hi:Int) (bl bh:Nat) (w:World) (hl:w.cell? ⟨bl,0,none⟩=some (.int .i64 lo)) (h1:n<lo) :
    Calls Tryz.prog 175 #[.int .i64 n,.pointer (some ⟨bl,0,none⟩),.pointer (some ⟨bh,0,none⟩)] w fun e w'=>e=.returned (.bool true)∧w=w':=by
  have d1:decide (n<lo)=true:=decide_eq_true h1
  go_enter Tryz.func175,Tryz.ntmps175
  go_wp2
  go_ret
  exact ⟨rfl,rfl⟩
theorem indexIn_low (b c:Nat) (n lo hi:Int) (bl bh:Nat) (w:World) (hl:w.cell? ⟨bl,0,none⟩=some (.int .i64 lo)) (hc:w.cell? ⟨b,0,none⟩=some (.int .i64 n)) (h1:n<lo) :
    Calls Tryz.prog 213 #[.slice (some ⟨b,0,none⟩) 1 c,.func (.func 175) #[] #[.pointer (some ⟨bl,0,none⟩),.pointer (some ⟨bh,0,none⟩)]] w fun e w'=>e=.returned (.int .i64 0)∧w=w':=by
  go_enter Tryz.func213,Tryz.ntmps213
  go_wp2
  refine wp_loop_rounds 1 ?_
  rw [rounds_succ]
  go_wp2_with (go_at_call 175;refine (within1_low _ _ hi _ _ _ hl h1).mono ?_;rintro e w' ⟨rfl,rfl⟩)
  go_ret
  exact ⟨rfl,rfl⟩
theorem within_low (b c:Nat) (n lo hi:Int) (w:World) (hc:w.cell? ⟨b,0,none⟩=some (.int .i64 n)) (h1:n<lo) :
    Calls Tryz.prog 130 #[.int .i64 lo,.int .i64 hi,.slice (some ⟨b,0,none⟩) 1 c] w fun e w'=>e=.returned (.bool false)∧Below w.heap.size w w':=by
  have hmf:∀ (fn:Fn) (first cap:Array Value) (w:World),(Instr.makeFunc fn first cap).run Tryz.prog w=.ok (.func fn first cap) w:=fun _ _ _ _=>rfl
  have hbl:Below w.heap.size w ((w.alloc (.cells #[.int .i64 lo] 3)).alloc (.cells #[.int .i64 hi] 3)):=((Below.refl _ _).alloc (Nat.le_refl _) _).alloc (by simp) _
  have HI:=Lib.hid (indexIn_low b c n lo hi w.heap.size (w.heap.size+1) ((w.alloc (.cells #[.int .i64 lo] 3)).alloc (.cells #[.int .i64 hi] 3)) (cell_al ((Blk.new _ _ _).cell 0) _) (cell_ext hc hbl) h1)
  have HB:=Lib.hid hbl
  clear hc h1 hbl
  go_enter Tryz.func130,Tryz.ntmps130
  go_wp2_with (first
    | (go_at_call 174;go_in)
    | (go_at_call 213;refine HI.out.mono ?_;rintro e w' ⟨rfl,rfl⟩))
  go_ret
  exact ⟨rfl,HB.out⟩
def ChgsAt (w:World) (v:Value) (l:List ChgT):Prop:=
  ∃ A c,v=.slice A l.length c∧l.length≤c∧(0<l.length→∃ b off,A=some ⟨b,off,none⟩∧∀ (j:Nat) (x:ChgT),l[j]? = some x→∀ i,i<10→w.cell? ⟨b,off+j*10+i,none⟩=x.arr[i]?)
theorem ChgsAt.ext {w W:World} {v:Value} {l:List ChgT} (h:ChgsAt w v l) (k:Below w.heap.size w W):ChgsAt W v l:=by
  obtain ⟨A,c,rfl,hc,h⟩:=h
  refine ⟨A,c,rfl,hc,fun h0=>?_⟩
  obtain ⟨b,off,hA,hcell⟩:=h h0
  refine ⟨b,off,hA,fun j x hx i hi=>?_⟩
  have h1:=hcell j x hx i hi
  rw [Array.getElem?_eq_getElem (show i<x.arr.size from hi)] at h1 ⊢
  exact cell_ext h1 k
theorem ChgsAt.at_ {w:World} {v:Value} {l:List ChgT} (h:ChgsAt w v l) {j:Nat} {x:ChgT} (hj:l[j]? = some x):∃ b off c,v=.slice (some ⟨b,off,none⟩) l.length c∧l.length≤c∧∀ i,i<10→w.cell? ⟨b,off+j*10+i,none⟩=x.arr[i]? := by
  obtain ⟨A,c,rfl,hc,h⟩:=h
  have hlt:=(List.getElem?_eq_some_iff.1 hj).1
  obtain ⟨b,off,rfl,hcell⟩:=h (by omega)
  exact ⟨b,off,c,rfl,hc,hcell j x hj⟩
structure ChgsOK (l:List ChgT):Prop where
  few:l.length≤8
  ok:∀ x ∈ l,x.ok
  asc:∀ (j:Nat) (a b:ChgT),l[j]? = some a→l[j+1]? = some b→a.t<b.t∨(a.t=b.t∧a.k<b.k)
def validF (l:List ChgT):Bool := !l.isEmpty && l.all ChgT.turns
def noChg:ChgT:=⟨-1,0,false,0,0,0,false,0,0,0⟩
def lastC (l:List ChgT):Nat→ChgT
  | 0=>noChg
  | k+1=>l.getD k noChg
theorem validRecord_any (p:Int) (hp:1≤p∧p≤10000) (l:List ChgT) (v:Value) (w:World) (hv:ChgsAt w v l) (hl:ChgsOK l):Calls Tryz.prog 80 #[.agg #[.int .i64 p,v]] w fun e w'=>e=.returned (.bool (validF l))∧Below w.heap.size w w':=by
  have I1:=Lib.hid (show inF 1 10000 [p]=true by simp [inF,hp.1,hp.2])
  have HV:=Lib.hid hv
  have HL:=Lib.hid hl
  obtain ⟨A,c,rfl,hc,-⟩:=hv
  have HB0:=Lib.hid (Blk.new w 43 #[.int .i64 p,.slice A l.length c])
  have hfew:=hl.few
  clear hl
  go_enter Tryz.func80,Tryz.ntmps80
  go_wp2_with fail
  refine (within_yes (w.heap.size+1) 0 1 [p] 1 10000 _ (.of_blk (Blk.new' _ _ _ (by simp)) 0 [p] rfl) (by simp) (by simp) I1.out).mono ?_
  rintro e W1 ⟨rfl,hb1⟩
  have hB1:=(HB0.out.alloc _).ext hb1
  have c1:=hB1.cell 1
  have HB1:=Lib.hid hB1
  have HL1:=Lib.hid (ext_call (ext_alloc (ext_new w _) _) hb1)
  clear hb1 hB1
  go_wp2_with fail
  by_cases h0:l.length=0
  · refine (within_low W1.heap.size 1 (l.length:Int) 1 8 _ ((Blk.new _ _ _).cell 0) (by omega)).mono ?_
    rintro e W2 ⟨rfl,hb2⟩
    have hF:=Lib.hid (show validF l=false by rw [List.length_eq_zero_iff] at h0;rw [h0];rfl)
    go_wp2
    go_ret
    exact ⟨by rw [hF.out];rfl,ext_call (ext_alloc HL1.out _) hb2⟩
  refine (within_yes W1.heap.size 0 1 [(l.length:Int)] 1 8 _ (.of_blk (Blk.new _ _ _) 0 [(l.length:Int)] rfl) (by simp) (by simp) (by simp [inF];omega)).mono ?_
  rintro e W2 ⟨rfl,hb2⟩
  have hB2:=(HB1.out.alloc _).ext hb2
  have c1:=hB2.cell 1
  have l1:=hB2.lt
  have HL2:=Lib.hid (ext_call (ext_alloc HL1.out _) hb2)
  clear hb2 hB2
  go_wp2
  have HB3:=Lib.hid (Blk.new W2 62 #[.int .i64 (-1),.int .i64 0,.bool false,.int .i64 0,.int .i64 0,.int .i64 0,.bool false,.int .i64 0,.int .i64 0,.int .i64 0])
  have HL3:=Lib.hid (ext_alloc HL2.out (.cells #[.int .i64 (-1),.int .i64 0,.bool false,.int .i64 0,.int .i64 0,.int .i64 0,.bool false,.int .i64 0,.int .i64 0,.int .i64 0] 62))
  have HS:=Lib.hid (HL2.out.size)
  generalize hbl:W2.heap.size=bl at *
  generalize W2.alloc (.cells #[.int .i64 (-1),.int .i64 0,.bool false,.int .i64 0,.int .i64 0,.int .i64 0,.bool false,.int .i64 0,.int .i64 0,.int .i64 0] 62)=W3 at *
  clear c1 l1 HL2 HL1 HB1 HB0
  go_loopw [5,23] (fun _ i W=>∃ k:Nat,k≤l.length∧i=.int .i64 k∧Blk W bl 62 (lastC l k).arr∧(∀ j x,j<k→l[j]? = some x→x.turns=true)∧Below w.heap.size w W) (fun _ i _=>l.length-(intOf i).toNat)
  case atStart=>exact ⟨0,Nat.zero_le _,rfl,HB3.out,fun j x hj=>by omega,HL3.out⟩
  case round=>
    obtain ⟨k,hk,rfl,hb,ht,hE⟩:=hrel
    have HE:=Lib.hid hE
    have HT:=Lib.hid ht
    clear hE ht
    by_cases hlt:k<l.length
    · obtain ⟨x,hx⟩:∃ x,l[k]? = some x:=⟨_,List.getElem?_eq_getElem hlt⟩
      obtain ⟨b,off,c',hA,_,hc9⟩:=(HV.out.ext HE.out).at_ hx
      injection hA with hA hn' hc'
      subst hA;subst hc'
      clear hn'
      have c0:=hc9 0 (by omega)
      have c1:=hc9 1 (by omega)
      have c2:=hc9 2 (by omega)
      have c3:=hc9 3 (by omega)
      have c4:=hc9 4 (by omega)
      have c5:=hc9 5 (by omega)
      have c6:=hc9 6 (by omega)
      have c7:=hc9 7 (by omega)
      have c8:=hc9 8 (by omega)
      have c9:=hc9 9 (by omega)
      have HVC:=Lib.hid (fun W:World=>validChange_any x (HL.out.ok x (List.mem_of_getElem? hx)) W)
      have HX:=Lib.hid hx
      obtain ⟨t,k',had,o1,o2,o3,has,n1,n2,n3⟩:=x
      simp [ChgT.arr] at c0 c1 c2 c3 c4 c5 c6 c7 c8 c9
      have e2:IntKind.i64.wrap ((k:Int)+1)=(k:Int)+1:=by rw [IntWalk.i64_in _ (by omega)]
      have d1:decide ((k:Int)<(l.length:Int))=true:=by simp;omega
      have q0:(0:Int)≤(k:Int):=by omega
      have q1:(k:Int)<(l.length:Int):=by omega
      clear hc9 hx
      have hcmp:¬ t<(lastC l k).t∧¬ (t=(lastC l k).t∧k'≤(lastC l k).k):=by
        cases k with
        | zero=>
          have h1:=(HL.out.ok _ (List.mem_of_getElem? HX.out)).1.1.1
          simp only [lastC,noChg] at h1 ⊢
          omega
        | succ k=>
          have hk':k<l.length:=by omega
          have h1:=HL.out.asc k l[k] _ (List.getElem?_eq_getElem hk') HX.out
          simp only [lastC,List.getD_eq_getElem?_getD,List.getElem?_eq_getElem hk',Option.getD_some] at h1 ⊢
          omega
      have HNX:=Lib.hid (show (lastC l (k+1)).arr=#[.int .i64 t,.int .i64 k',.bool had,.int .i64 o1,.int .i64 o2,.int .i64 o3,.bool has,.int .i64 n1,.int .i64 n2,.int .i64 n3] by simp [lastC,HX.out,ChgT.arr])
      have HTT:=Lib.hid (fun (h:ChgT.turns ⟨t,k',had,o1,o2,o3,has,n1,n2,n3⟩=false)=>show validF l=false by
        have h1:l.all ChgT.turns=false:=by
          rw [List.all_eq_false]
          exact ⟨_,List.mem_of_getElem? HX.out,by simp [h]⟩
        simp [validF,h1])
      have HTN:=Lib.hid (fun (h:ChgT.turns ⟨t,k',had,o1,o2,o3,has,n1,n2,n3⟩=true)=>show ∀ j x,j<k+1→l[j]? = some x→x.turns=true by
        intro j y hj hy
        rcases Nat.lt_succ_iff_lt_or_eq.1 hj with h2|rfl
        · exact HT.out j y h2 hy
        · rw [HX.out] at hy
          injection hy with hy
          rw [← hy]
          exact h)
      clear HT
      obtain ⟨tt,htt⟩:∃ tt,tt=ChgT.turns ⟨t,k',had,o1,o2,o3,has,n1,n2,n3⟩:=⟨_,rfl⟩
      rw [← htt] at HVC HTT HTN
      clear htt HX
      generalize lastC l k=la at *
      obtain ⟨lt,lk,lhad,lo1,lo2,lo3,lhas,ln1,ln2,ln3⟩:=la
      simp only [ChgT.arr] at hb
      simp only at hcmp
      obtain ⟨hc1,hc2⟩:=hcmp
      have hne:bl<wr.heap.size:=hb.lt
      have HB:=Lib.hid hb
      have HX0:=Lib.hid (Blk.new wr 62 #[.int .i64 t,.int .i64 k',.bool had,.int .i64 o1,.int .i64 o2,.int .i64 o3,.bool has,.int .i64 n1,.int .i64 n2,.int .i64 n3])
      clear hb
      go_wp2_with fail
      refine (HVC.out _).mono ?_
      rintro e W4 ⟨rfl,hb4⟩
      have HX4:=Lib.hid (HX0.out.ext hb4)
      have HB4:=Lib.hid ((HB.out.alloc _).ext hb4)
      have HE4:=Lib.hid (ext_call (ext_alloc HE.out _) hb4)
      clear hb4 c0 c1 c2 c3 c4 c5 c6 c7 c8 c9 HX0 HB HE
      cases tt
      · have hF:=Lib.hid (HTT.out rfl)
        clear HTT HTN
        go_wp2
        go_ret
        exact ⟨by rw [hF.out];rfl,HE4.out⟩
      have HTR:=Lib.hid (HTN.out rfl)
      clear HTT HTN
      have hX4:=HX4.out
      have hB4:=HB4.out
      have c0:=hX4.cell 0;have c1:=hX4.cell 1;have c2:=hX4.cell 2;have c3:=hX4.cell 3;have c4:=hX4.cell 4;have c5:=hX4.cell 5;have c6:=hX4.cell 6;have c7:=hX4.cell 7;have c8:=hX4.cell 8;have c9:=hX4.cell 9
      have b0:=hB4.cell 0
      have b1:=hB4.cell 1
      have HI:=Lib.hid chg_size
      clear hX4 hB4
      have d2:decide (t<lt)=false:=by simp;omega
      have hz:(((t == lt) && decide (k'≤lk)):Bool)=false:=by
        by_cases h1:t=lt <;> simp [h1] <;> omega
      have H1:=Lib.hid (show (#[.int .i64 t,.int .i64 k',.bool had,.int .i64 o1,.int .i64 o2,.int .i64 o3,.bool has,.int .i64 n1,.int .i64 n2,.int .i64 n3]:Array Value).all (·.oneCell')=true by simp [Value.oneCell'])
      clear hc1 hc2
      by_cases h1:t=lt
      · subst h1
        have h2:decide (k'≤lk)=false:=by simpa using hz
        clear hz
        go_wp2_with (refine wpList_store_blk rfl 62 (.tmp 3) (.tmp 51) rfl bl #[.int .i64 t,.int .i64 k',.bool had,.int .i64 o1,.int .i64 o2,.int .i64 o3,.bool has,.int .i64 n1,.int .i64 n2,.int .i64 n3] rfl rfl 62 _ HB4.out HI.out rfl H1.out ?_;intro W5 hB5 hg5;have HB5:=Lib.hid hB5;have HE5:=Lib.hid (HE4.out.grown hg5 HE4.out.size (fun j e=>by injection e with e;have:=HS.out;omega));clear hB5 hg5)
        go_roundw
        case rel=>exact ⟨k+1,by omega,by go_num,by rw [HNX.out];exact HB5.out,HTR.out,HE5.out⟩
        case measure=>simp [intOf];omega
      · have h2:decide (t=lt)=false:=by simpa using h1
        have h3:(t == lt)=false:=by simpa using h1
        clear hz
        go_wp2_with (refine wpList_store_blk rfl 62 (.tmp 3) (.tmp 51) rfl bl #[.int .i64 t,.int .i64 k',.bool had,.int .i64 o1,.int .i64 o2,.int .i64 o3,.bool has,.int .i64 n1,.int .i64 n2,.int .i64 n3] rfl rfl 62 _ HB4.out HI.out rfl H1.out ?_;intro W5 hB5 hg5;have HB5:=Lib.hid hB5;have HE5:=Lib.hid (HE4.out.grown hg5 HE4.out.size (fun j e=>by injection e with e;have:=HS.out;omega));clear hB5 hg5)
        go_roundw
        case rel=>exact ⟨k+1,by omega,by go_num,by rw [HNX.out];exact HB5.out,HTR.out,HE5.out⟩
        case measure=>simp [intOf];omega
    · have HF:=Lib.hid (show validF l=true by
        have h1:l.all ChgT.turns=true:=by
          rw [List.all_eq_true]
          intro x hx
          obtain ⟨j,hj⟩:=List.getElem?_of_mem hx
          exact HT.out j x (by have:=(List.getElem?_eq_some_iff.1 hj).1;omega) hj
        have h2:l≠[]:=by intro h;rw [h] at h0;simp at h0
        simp [validF,h1,h2])
      have d1:decide ((k:Int)<(l.length:Int))=false:=by simp;omega
      go_wp2
      go_ret
      exact ⟨by rw [HF.out];rfl,HE.out⟩
end
section
open Go.RowKit Go.Shelf
attribute [local go_sem] Oper.semAt_some
attribute [local go_sem ↓] Go.wp_at_zero Go.wp_at_succ
def encN (n:Int):Nat:=if 0≤n then 2*n.toNat else 2*(-n-1).toNat+1
end
section
open Go.RowKit Go.Shelf
def OncePost (B:Nat) (I1:World→Prop) (W:World):Exit→Act→World→Prop
  | .normal,_,W'=>KeepsFrom B W W'∧I1 W'
  | _,_,_=>False
def OwnP (B:Nat) (I:World→Prop):Prop:=OwnFrom B (fun (_:Unit) W=>I W)
theorem OwnP.and {B:Nat} {I J:World→Prop} (h:OwnP B I) (k:OwnP B J):OwnP B (fun W=>I W∧J W):=OwnFrom.and h k
theorem OwnP.below {B B0:Nat} {w:World} (h:B0≤w.heap.size) (hB:B0≤B):OwnP B (fun W=>Below B0 w W):=
  fun _ _ _ _ hs hg hr=>hs.grown hg (Nat.le_trans h hs.size) (fun k e=>Nat.le_trans hB (hr k e).1)
theorem OwnP.blk {B g:Nat} {t:TypeId} {cs:Array Value}:OwnP B (fun W=>Blk W g t cs):=fun _ X Y row hs hg hr=>
  (hg.block _ hs.lt (fun e=>by
      obtain ⟨_,o,ho,hc⟩:=hr _ e.symm
      have h1:=hs
      unfold Blk at h1
      rw [h1] at ho
      cases ho
      cases hc)).trans hs
theorem OwnP.round {B:Nat}:OwnP B RoundOK:=fun _ X Y row hs hg hr j v hv=>cell_kept (hs j v hv) hg (fun r e=>(hr r e).2)
theorem OwnP.pure {B:Nat} (p:Prop):OwnP B (fun _=>p):=fun _ _ _ _ hs _ _=>hs
end
section
open Go.RowKit
def MapAt (w:World) (g:Nat) (es:Array MapEntry) (c:Nat):Prop:=w.heap[g]? = some (.map es c)
section
variable {P:Program} {w W:World} {g c:Nat} {es:Array MapEntry}
theorem MapAt.ext (h:MapAt w g es c) (k:Below w.heap.size w W):MapAt W g es c:=heap_ext h k
theorem MapAt.lt (h:MapAt w g es c):g<w.heap.size:=(Array.getElem?_eq_some_iff.1 h).1
theorem MapAt.alloc (h:MapAt w g es c) (o:Obj):MapAt (w.alloc o) g es c:=h.ext (ext_new w o)
theorem MapAt.set (h:MapAt w g es c) (p:Addr) (v:Value) (hne:g≠p.block):MapAt (w.setCell p v) g es c:=(Below.heap_setCell w p v g hne).trans h
theorem MapAt.drewN (h:MapAt w g es c) (n:Nat):MapAt (w.drewN n) g es c:=h
theorem MapAt.new (w:World):MapAt (w.alloc (.map #[] 0)) w.heap.size #[] 0:=World.alloc_heap_new w _
theorem MapAt.put (h:MapAt w g es c) (es':Array MapEntry) (c':Nat):MapAt (w.putObj g (.map es' c')) g es' c':=World.putObj_heap_same h.lt
theorem Blk.putObj {t:TypeId} {cs:Array Value} {b:Nat} (h:Blk w b t cs) (o:Obj) (hne:b≠g):Blk (w.putObj g o) b t cs:=(World.putObj_heap_other hne).trans h
theorem ext_put {w0:World} (h:Below w0.heap.size w0 w) (hg:w0.heap.size≤g) (o:Obj):Below w0.heap.size w0 (w.putObj g o):=
  ⟨h.os,h.tape,h.output,by simpa using h.size,fun k hk=>(World.putObj_heap_other (by omega)).trans (h.block k hk)⟩
theorem getM (h:MapAt w g es c):(getObj g).run P w=.ok (.map es c) w:=by unfold MapAt at h;simp [getObj,Sem.run,h]
theorem setM (o:Obj) (h:MapAt w g es c):(setObj g o).run P w=.ok () (w.putObj g o):=by unfold MapAt at h;simp [setObj,Sem.run,h,World.putObj]
theorem findK_nil {K:TypeId} {k:Value} {d:TypeDesc} (hK:P.underlying K=some d):(Instr.findKey K k []).run P w=.ok none w:=by simp [Instr.findKey,run_underlying hK,Result.andThen,Instr.findNow]
theorem lookup_none {T K E:TypeId} {k z:Value} {d:TypeDesc} (hT:P.underlying T=some (.map K E)) (h:MapAt w g #[] c) (hck:(Instr.checkKey true 10000 K k).run P w=.ok () w)
    (hK:P.underlying K=some d) (hz:(zeroValue E).run P w=.ok z w):(Instr.lookup T (.map (some g)) k true).run P w=.ok (.tuple #[z,.bool false]) w:=by
  unfold Instr.lookup
  have hf:(Instr.findKey K k []).run P w=.ok none w:=findK_nil hK
  have hg:=getM (P:=P) h
  simp [run_underlying hT,Result.andThen,hg,hck,hf,hz]
theorem lookup_some {T K E:TypeId} {k v:Value} {i:Nat} (hT:P.underlying T=some (.map K E)) (h:MapAt w g es c) (hck:(Instr.checkKey es.isEmpty 10000 K k).run P w=.ok () w)
    (hf:(Instr.findKey K k es.toList).run P w=.ok (some (i,v)) w):(Instr.lookup T (.map (some g)) k true).run P w=.ok (.tuple #[v,.bool true]) w:=by
  unfold Instr.lookup
  have hg:=getM (P:=P) h
  simp [run_underlying hT,Result.andThen,hg,hck,hf]
theorem update_none {T K E:TypeId} {k v:Value} {d:TypeDesc} (hT:P.underlying T=some (.map K E)) (h:MapAt w g #[] c) (hck:(Instr.checkKey false 10000 K k).run P w=.ok () w)
    (hK:P.underlying K=some d):(Instr.mapUpdate T (.map (some g)) k v).run P w=.ok () (w.putObj g (.map #[⟨k,v,c⟩] (c+1))):=by
  unfold Instr.mapUpdate
  have hf:(Instr.findKey K k []).run P w=.ok none w:=findK_nil hK
  have hg:=getM (P:=P) h
  have hs:=fun o=>setM (P:=P) o h
  simp [run_underlying hT,Result.andThen,hg,hck,hf,hs]
theorem range_map {T K E:TypeId} (hT:P.underlying T=some (.map K E)) (h:MapAt w g es c) :
    (Instr.range T (.map (some g))).run P w=.ok (.pointer (some ⟨w.heap.size,0,none⟩)) (w.alloc (.mapIter (some g) c #[] c)):=by
  unfold Instr.range
  have hg:=getM (P:=P) h
  simp [run_underlying hT,Result.andThen,hg]
theorem run_getObj_iter {r s st:Nat} {m:Option Nat} {seen:Array Nat} (h:w.heap[r]? = some (.mapIter m s seen st)):(getObj r).run P w=.ok (.mapIter m s seen st) w:=by simp [getObj,Sem.run,h]
theorem run_setObj_iter {r s st:Nat} {m:Option Nat} {seen:Array Nat} (h:w.heap[r]? = some (.mapIter m s seen st)) (o:Obj):(setObj r o).run P w=.ok () (w.putObj r o):=by simp [setObj,Sem.run,h,World.putObj]
theorem next_empty {r:Nat} {t:TypeId} (h:MapAt w g #[] c) (hr:w.heap[r]? = some (.mapIter (some g) c #[] c)) :
    (Instr.next (.pointer (some ⟨r,0,none⟩)) false t).run P w=.ok (.tuple #[.bool false]) w:=by
  unfold Instr.next
  have hg:=getM (P:=P) h
  have hi:=run_getObj_iter (P:=P) hr
  simp [Result.andThen,hg,hi,Question.forced]
theorem next_one {r:Nat} {t:TypeId} {k v:Value} (h:MapAt w g #[⟨k,v,0⟩] 1) (hr:w.heap[r]? = some (.mapIter (some g) 1 #[] 1)) :
    (Instr.next (.pointer (some ⟨r,0,none⟩)) false t).run P w=.ok (.tuple #[.bool true,k,v]) (w.putObj r (.mapIter (some g) 1 #[0] 1)):=by
  unfold Instr.next
  have hg:=getM (P:=P) h
  have hi:=run_getObj_iter (P:=P) hr
  have hs:=fun o=>run_setObj_iter (P:=P) hr o
  simp [Result.andThen,hg,hi,hs,Question.forced]
theorem next_over {r:Nat} {t:TypeId} {k v:Value} (h:MapAt w g #[⟨k,v,0⟩] 1) (hr:w.heap[r]? = some (.mapIter (some g) 1 #[0] 1)) :
    (Instr.next (.pointer (some ⟨r,0,none⟩)) false t).run P w=.ok (.tuple #[.bool false]) w:=by
  unfold Instr.next
  have hg:=getM (P:=P) h
  have hi:=run_getObj_iter (P:=P) hr
  simp [Result.andThen,hg,hi,Question.forced]
theorem entry_one {r:Nat} {k v:Value} (h:MapAt w g #[⟨k,v,0⟩] 1) (hr:w.heap[r]? = some (.mapIter (some g) 1 #[0] 1)) :
    (Instr.entry (.pointer (some ⟨r,0,none⟩))).run P w=.ok (.tuple #[k,v]) w:=by
  unfold Instr.entry
  have hg:=getM (P:=P) h
  have hi:=run_getObj_iter (P:=P) hr
  simp [Result.andThen,hg,hi]
theorem len_map {T K E:TypeId} (hT:P.underlying T=some (.map K E)) (h:MapAt w g es c) (t:TypeId) {v:Value} (hv:goInt es.size=v):(Builtin.len_ #[T] t #[.map (some g)]).run P w=.ok v w:=by
  subst hv
  unfold Builtin.len_
  have hg:=getM (P:=P) h
  simp [run_underlying hT,Result.andThen,hg]
end
structure Ext2 (a b:Nat) (w w':World):Prop where
  os:w'.os=w.os
  tape:w'.tape=w.tape
  output:w'.output=w.output
  size:w.heap.size≤w'.heap.size
  block:∀ k,k<w.heap.size→k≠a→k≠b→w'.heap[k]? = w.heap[k]?
section
variable {w0 w w' w'':World} {a b:Nat}
theorem Ext2.of_ext (h:Below w.heap.size w w'):Ext2 a b w w':=⟨h.os,h.tape,h.output,h.size,fun k hk _ _=>h.block k hk⟩
theorem Ext2.trans (h:Ext2 a b w w') (k:Ext2 a b w' w''):Ext2 a b w w'':=⟨k.os.trans h.os,k.tape.trans h.tape,k.output.trans h.output,Nat.le_trans h.size k.size,fun i hi ha hb=>(k.block i (Nat.lt_of_lt_of_le hi h.size) ha hb).trans (h.block i hi ha hb)⟩
theorem Ext2.ext (h:Ext2 a b w w') (k:Below w'.heap.size w' w''):Ext2 a b w w'':=h.trans (.of_ext k)
theorem Ext2.put (h:Ext2 a b w w') (o:Obj):Ext2 a b w (w'.putObj b o):=h.trans ⟨rfl,rfl,rfl,by simp,fun k _ _ hb=>World.putObj_heap_other hb⟩
theorem Ext2.setA (h:Ext2 a b w w') (i:Nat) (v:Value):Ext2 a b w (w'.setCell ⟨a,i,none⟩ v):=h.trans ⟨rfl,rfl,rfl,by simp [World.setCell],fun k _ ha _=>Below.heap_setCell _ _ _ _ ha⟩
theorem Ext2.drewN (h:Ext2 a b w w') (n:Nat):Ext2 a b w (w'.drewN n):=⟨h.os,h.tape,h.output,h.size,h.block⟩
theorem Ext2.below (h:Below w0.heap.size w0 w) (ha:w0.heap.size≤a) (hb:w0.heap.size≤b) (k:Ext2 a b w w'):Below w0.heap.size w0 w':=
  ⟨k.os.trans h.os,by rw [k.tape];exact h.tape,k.output.trans h.output,Nat.le_trans h.size k.size,fun i hi=>(k.block i (Nat.lt_of_lt_of_le hi h.size) (by omega) (by omega)).trans (h.block i hi)⟩
theorem Blk.ext2 {g:Nat} {t:TypeId} {cs:Array Value} (h:Blk w g t cs) (k:Ext2 a b w w') (ha:g≠a) (hb:g≠b):Blk w' g t cs:=(k.block g h.lt ha hb).trans h
theorem MapAt.ext2 {g c:Nat} {es:Array MapEntry} (h:MapAt w g es c) (k:Ext2 a b w w') (ha:g≠a) (hb:g≠b):MapAt w' g es c:=(k.block g h.lt ha hb).trans h
theorem cell_ext2 {p:Addr} {v:Value} (h:w.cell? p=some v) (k:Ext2 a b w w') (ha:p.block≠a) (hb:p.block≠b):w'.cell? p=some v:=(World.cell?_of_block (k.block _ (lt_of_cell h) ha hb)).trans h
end
end
section
open Go.RowKit Go.Shelf
def SeqMem (n:Nat) (P:Program) (g:Nat) (lb:Array Value) (N:Nat) (C:World→Prop) (M:Nat→Array Value→World→Prop):Prop:=
  ∀ (l:Nat) (J:Nat→World→Prop) (W:World),(∀ k W,J k W→C W)→(∀ k A B,J k A→Below A.heap.size A B→J k B) →
    (∀ k xs W1,k<N→J k W1→M k xs W1→YieldAt Fence.wide (n-1) P l xs W1 fun e W'=>e=.returned (.bool true)∧J (k+1) W')→J 0 W →
    CallsIn Fence.wide n P g (#[.func (.yield l) #[] #[]]++lb) W fun e W'=>(∃ v,e=.returned v)∧J N W'
theorem below_grown {A B:World} (h:Below A.heap.size A B):A.grownBy B none:=⟨h.os,h.tape,h.output,h.size,fun k hk _=>h.block k hk⟩
theorem OwnP.abide {B:Nat} {I:World→Prop} (h:OwnP B I) {X Y:World} (hs:I X) (hb:Below X.heap.size X Y):I Y:=h () X Y none hs (below_grown hb) (fun r e=>by cases e)
theorem OwnP.map {B g c:Nat} {es:Array MapEntry} (hg:g<B):OwnP B (fun W=>MapAt W g es c):=fun _ X Y row hs hgr hr=>
  (hgr.block _ hs.lt (fun e=>by have:=(hr _ e.symm).1;omega)).trans hs
theorem wpIn_mem {n:Nat} {P:Program} {g:Operand} {ps:Array Tmp} {assign body:Code} {Q:Exit→Act→World→Prop} {a:Act} {w:World}
    (h1:1≤n) {gf:Nat} {lb:Array Value} (hg:a.eval g=.func (.func gf) #[] lb) (eg:∀ args w,(callFunc gf args).run P w=.ok (.enter gf args) w)
    {N:Nat} {C:World→Prop} {M:Nat→Array Value→World→Prop} (hseq:SeqMem (n-1) P gf lb N C M) (hps:∀ k xs W,M k xs W→xs.size=ps.size)
    (I:Nat→World→Prop) (hI:∀ k,OwnP w.heap.size (I k)) (hC:∀ k W,I k W→C W) (h0:I 0 w)
    (Ax:Nat→Act→World→Prop) (hAx:∀ k a',OwnP w.heap.size (Ax k a'))
    (hassign:∀ (l k:Nat) (xs:Array Value) (W:World) (K:Act→World→Prop),k<N→w.heap.size≤W.heap.size→I k W→M k xs W→(∀ a' W',KeepsFrom w.heap.size W W'→I k W'→Ax k a' W'→K a' W') →
      assign.wpIn (Fence.wide.inRound l) (n-1-1) P (Exit.then K (fun _ _ _=>False)) { tmps:=(ps.zip xs).foldl (fun t (p,v)=>t.setIfInBounds p v) a.tmps,defers:=[] } W)
    (hbody:∀ (l k:Nat) (a':Act) (W:World),k<N→w.heap.size≤W.heap.size→I k W→Ax k a' W→body.wpIn (Fence.wide.inRound l) (n-1-1) P (OncePost w.heap.size (I (k+1)) W) a' W)
    (hdone:∀ (D:Nat) (W:World),w.heap.size≤D→I N W→W.heap[D]? = some (.deferred (some []))→Q .normal { a with defers:={ target:=.collected D,args:=#[] }::a.defers } W) :
    (Code.rangeFunc g ps assign body).wpIn Fence.wide n P Q a w:=by
  refine wpIn_rangeFunc ?_
  intro fn hfn
  obtain ⟨rec,hrec⟩:∃ rec:LoopState→Option Code→Loop,rec=fun st pe=>{ state:=st,pending:=pe,fn,tmps:=a.tmps,params:=ps,assign,body,defers:=w.heap.size }:=⟨_,rfl⟩
  obtain ⟨W1,hW1⟩:∃ W1,(w.alloc (.deferred (some []))).alloc (.loop (rec .ready none))=W1:=⟨_,rfl⟩
  have hL1:W1.heap[w.heap.size+1]? = some (.loop (rec .ready none)):=by
    rw [← hW1,← World.size_alloc w (.deferred (some []))];exact World.alloc_heap_new _ _
  have hD1:W1.heap[w.heap.size]? = some (.deferred (some [])):=by
    rw [← hW1];exact (Below.heap_alloc _ _ _ (by simp)).trans (World.alloc_heap_new w _)
  have hE1:Below w.heap.size w W1:=by rw [← hW1];exact ext_alloc (ext_new _ _) _
  have hs1:w.heap.size+1<W1.heap.size:=(Array.getElem?_eq_some_iff.1 hL1).1
  refine ⟨w.heap.size+1,[{ target:=.collected w.heap.size,args:=#[] }],W1,{ target:=.fn (.func gf) lb,args:=#[.func (.yield (w.heap.size+1)) #[] #[]] },W1,gf,
    #[.func (.yield (w.heap.size+1)) #[] #[]]++lb,W1,?_,?_,fun _ _=>trivial,?_,fun _=>h1,?_⟩
  · rw [← hW1,hrec];exact run_enterLoop_outer _ _ _ _ _
  · simp only [resolve,hg]
    simp [go_sem]
  · simp [invoke,go_sem,eg]
  let J:Nat→World→Prop:=fun k W=>I k W∧w.heap.size+1<W.heap.size∧W.heap[w.heap.size+1]? = some (.loop (rec .ready none))∧W.heap[w.heap.size]? = some (.deferred (some []))
  refine (hseq (w.heap.size+1) J W1 (fun k W h=>hC k W h.1) (fun k A B h hb=>⟨(hI k).abide h.1 hb,Nat.lt_of_lt_of_le h.2.1 hb.size,heap_ext h.2.2.1 hb,heap_ext h.2.2.2 hb⟩) ?_ ⟨(hI 0).abide h0 hE1,hs1,hL1,hD1⟩).mono ?_
  · rintro k xs W hk ⟨hi,hlt,hl,hd⟩ hm
    have hy:=run_yield (P:=P) (args:=xs) hl (by rw [hrec];exact hps k xs W hm)
    rw [hrec] at hy
    refine ⟨fn,_,assign,body,hy,roundIn_of_wpIn hfn (hassign _ k xs W _ hk (by omega) hi hm ?_)⟩
    intro a' Wa hka hia hax
    have hla:=hka.same _ _ (by omega) hl rfl
    have hda:=hka.same _ _ (Nat.le_refl _) hd rfl
    have hlta:w.heap.size+1<Wa.heap.size:=(Array.getElem?_eq_some_iff.1 hla).1
    refine ⟨_,run_beginRound hla (by rw [hrec]),?_⟩
    have hlb:(Wa.putObj (w.heap.size+1) (.loop { rec .ready none with state:=.busy })).heap[w.heap.size+1]? = some (.loop { rec .ready none with state:=.busy }):=World.putObj_heap_same hlta
    have hdb:(Wa.putObj (w.heap.size+1) (.loop { rec .ready none with state:=.busy })).heap[w.heap.size]? = some (.deferred (some [])):=(World.putObj_heap_other (by omega)).trans hda
    refine wpIn_mono (hbody _ k a' _ hk (by simp;omega) (OwnFrom.putObj (s:=()) (hI k) _ hia (by omega) hla rfl) (OwnFrom.putObj (s:=()) (hAx k a') _ hax (by omega) hla rfl)) ?_
    rintro e a3 W3 hp
    cases e with
    | normal=>
      obtain ⟨hk3,hi3⟩:=hp
      have hl3:=hk3.same _ _ (by omega) hlb rfl
      have hd3:=hk3.same _ _ (Nat.le_refl _) hdb rfl
      have hlt3:w.heap.size+1<W3.heap.size:=(Array.getElem?_eq_some_iff.1 hl3).1
      have hr:=run_endRound (P:=P) none hl3
      refine ⟨_,_,hr,rfl,OwnFrom.putObj (s:=()) (hI (k+1)) _ hi3 (by omega) hl3 rfl,by simpa using hlt3,?_,(World.putObj_heap_other (by omega)).trans hd3⟩
      rw [hrec]
      exact World.putObj_heap_same hlt3
    | _=>exact hp.elim
  · rintro e W2 ⟨⟨v,rfl⟩,hi,_,hl,hd⟩
    exact ⟨none,_,by have:=run_endLoop (P:=P) hl (by rw [hrec];simp);rw [hrec] at this;exact this,hdone _ _ (Nat.le_refl _) (OwnFrom.putObj (s:=()) (hI N) _ hi (by omega) hl rfl) ((World.putObj_heap_other (by omega)).trans hd)⟩
end
end Go.Proofs.YtnajpjnnlocfgaaGreatDoor
