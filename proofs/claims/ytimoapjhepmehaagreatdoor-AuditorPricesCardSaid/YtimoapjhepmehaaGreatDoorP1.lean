/-
  Part 1 of 54: the contracts that the proof of the last part uses; each stands under its own head.
-/
import Derived.WalkKit
import Derived.WalkSpells
import Derived.Below
import Derived.Laws.OwnMore
import Derived.Deep.Draws
import Derived.Laws.Rows
import Derived.Maps.AppendAt
import Derived.Deep.AppendLies
import Derived.Lib.Hide
import Derived.Lib.ConvBytes
import Derived.Test.YtimoapjhepmehaaGreatDoorProg
import Derived.WalkLawsBesides
import Derived.Deep.QuietTactic
import Derived.BigQuiet
import Derived.BigRegion
import Derived.StillTailTactics
import Derived.Deep.RegionHeld3
import Derived.Deep.DrawnRows
set_option linter.unusedSimpArgs false
set_option linter.unusedVariables false
set_option maxHeartbeats 4000000
namespace Go.Proofs.YtimoapjhepmehaaGreatDoor
section
open Go.RowKit
def Blk (w:World) (g:Nat) (t:TypeId) (cs:Array Value):Prop:=w.heap[g]? = some (.cells cs t (0,0))
section
variable {w w':World} {g:Nat} {t:TypeId} {cs:Array Value}
theorem Blk.lt (h:Blk w g t cs):g<w.heap.size:=by
  rcases Nat.lt_or_ge g w.heap.size with hlt|hge
  · exact hlt
  · unfold Blk at h;rw [Array.getElem?_eq_none hge] at h;cases h
theorem Blk.cell (h:Blk w g t cs) (i:Nat):w.cell? ⟨g,i,none⟩=cs[i]? := cell_of_row w g i cs t (0,0) h
theorem Blk.frozen (h:Blk w g t cs) (i:Nat):w.frozen? ⟨g,i,none⟩=false:=by
  unfold Blk at h
  simp [World.frozen?,h]
theorem Blk.new (w:World) (t:TypeId) (cs:Array Value):Blk (w.alloc (.cells cs t)) w.heap.size t cs:=heap_alloc_new w _
theorem Blk.new' (w:World) (t:TypeId) (cs:Array Value) {b:Nat} (h:b=w.heap.size):Blk (w.alloc (.cells cs t)) b t cs:=by subst h;exact heap_alloc_new w _
theorem Blk.drew (h:Blk w g t cs):Blk w.drew g t cs:=h
theorem Blk.drewN (h:Blk w g t cs) (n:Nat):Blk (w.drewN n) g t cs:=h
theorem Blk.alloc (h:Blk w g t cs) (o:Obj):Blk (w.alloc o) g t cs:=(Below.heap_alloc w o g h.lt).trans h
theorem Blk.set_ (h:Blk w g t cs) (i:Nat) (u:Value):Blk (w.setCell ⟨g,i,none⟩ u) g t (cs.setIfInBounds i u):=by
  unfold Blk at h ⊢
  simp [World.setCell,Array.getElem?_modify,h]
theorem Blk.far (h:Blk w g t cs) {p:Addr} (hp:g≠p.block) (u:Value):Blk (w.setCell p u) g t cs:=(Below.heap_setCell w p u g hp).trans h
theorem Blk.row (h:Blk w g t cs) (cs':Array Value):Blk (w.setRow g cs') g t cs':=by
  unfold Blk at h ⊢
  simp [World.setRow,Array.getElem?_modify,h]
theorem Blk.rowFar (h:Blk w g t cs) {g':Nat} (hg:g≠g') (cs':Array Value):Blk (w.setRow g' cs') g t cs:=(setRow_other w g' g cs' hg).trans h
theorem Blk.below {B:Nat} (h:Blk w g t cs) (hb:Below B w w') (hg:g<B):Blk w' g t cs:=(hb.block g hg).trans h
theorem Blk.grown {row:Option Nat} (h:Blk w g t cs) (hb:w.grownBy w' row) (hg:some g≠row):Blk w' g t cs:=(hb.block g h.lt hg).trans h
end
theorem grown_setRow (w:World) (g:Nat) (cs:Array Value):w.grownBy (w.setRow g cs) (some g):=
  ⟨rfl,rfl,rfl,by simp [World.setRow],fun i _ hne=>setRow_other w g i cs (fun e=>hne (by rw [e]))⟩
theorem wpList_store_blk {P:Program} {ops:Array Oper} {rest:List Oper} {o:Oper} {a:Act} {w:World} {Q:Exit→Act→World→Prop} (hgd:o.guard=none) (ty:TypeId) (x y:Operand) (ho:o.op=.store ty x y)
    (g:Nat) (cells:Array Value) (hx:a.eval x=.pointer (some ⟨g,0,none⟩)) (hy:a.eval y=.agg cells)
    (t:TypeId) (old:Array Value) (hg:Blk w g t old) (hi:(P.info? ty).map (·.size)=some cells.size)
    (hold:old.size=cells.size) (h1:cells.all (·.oneCell')=true)
    (h:∀ W',Blk W' g t cells→w.grownBy W' (some g)→wpList P ops Q rest (a.put o.dst undef) W'):wpList P ops Q (o::rest) a w:=
  wpList_store_row hgd ty x y ho g cells hx hy t old hg hi hold h1 (h _ (Blk.row hg cells) (grown_setRow w g cells))
theorem below_drewN {B:Nat} {a w:World} (h:Below B a w) (n:Nat):Below B a (w.drewN n):=⟨h.os,h.tape,h.output,h.size,h.block⟩
theorem lt_of_cell {w:World} {p:Addr} {v:Value} (h:w.cell? p=some v):p.block<w.heap.size:=by
  rcases Nat.lt_or_ge p.block w.heap.size with hlt|hge
  · exact hlt
  · unfold World.cell? at h;rw [Array.getElem?_eq_none hge] at h;cases h
theorem cell_al {w:World} {p:Addr} {v:Value} (h:w.cell? p=some v) (o:Obj):(w.alloc o).cell? p=some v:=
  (World.cell?_of_block (Below.heap_alloc w o p.block (lt_of_cell h))).trans h
theorem frozen_al {w:World} {p:Addr} {v:Value} (h:w.cell? p=some v) (hf:w.frozen? p=false) (o:Obj):(w.alloc o).frozen? p=false:=
  (World.frozen?_of_block (Below.heap_alloc w o p.block (lt_of_cell h))).trans hf
def valAt (w:World) (p:Addr):Value:=(w.cell? p).getD undef
theorem valAt_of {w:World} {p:Addr} {v:Value} (h:w.cell? p=some v):w.cell? p=some (valAt w p):=by unfold valAt;rw [h];rfl
theorem valAt_set {w:World} {p:Addr} {v:Value} (h:w.cell? p=some v) (x:Value):(w.setCell p x).cell? p=some (valAt (w.setCell p x) p):=by
  have h':(w.setCell p x).cell? p=some x:=World.cell?_setCell_same' _ _ _ (by rw [h];rfl)
  exact valAt_of h'
theorem ret_int {k:IntKind} {a b:Int} (h:a=b):Ending.returned (.int k a)=.returned (.int k b):=by rw [h]
end
section
open Go.RowKit
def OwnC (w:World) (base:Nat) (v:Value) (xs:List Value):Prop:=
  ∃ g cap,v=.slice (some ⟨g,0,none⟩) xs.length cap∧base≤g∧g<w.heap.size∧xs.length≤cap∧cap≤maxLen ∧
    (∀ j u,xs[j]? = some u→w.cell? ⟨g,j,none⟩=some u)∧(∀ j,j<cap→(w.cell? ⟨g,j,none⟩).isSome=true∧w.frozen? ⟨g,j,none⟩=false)
theorem add_lit0 (g j:Nat):(⟨g,0,none⟩:Addr).add j=⟨g,j,none⟩:=by unfold Addr.add;split <;> simp_all
theorem OwnC.of_own {w:World} {base e:Nat} {v:Value} {n:Nat} {xs:List Value} (h:w.ownsRow base e 1 v n xs) (hn:0<n):OwnC w base v xs:=by
  obtain ⟨hl,h⟩:=h
  rw [Nat.mul_one] at hl
  rcases h with ⟨_,h0⟩|⟨g,cap,cur,rfl,hb,hg,hle,hm,hs,ht⟩
  · omega
  · rw [Nat.mul_one] at hs ht
    have hlt:g<w.heap.size:=(Array.getElem?_eq_some_iff.1 hg).1
    refine ⟨g,cap,by rw [hl],hb,hlt,by omega,hm,fun j u hu=>?_,fun j hj=>⟨?_,?_⟩⟩
    · rw [cell_of_row w g j cur e (0,0) hg]
      rw [← ht,List.getElem?_take] at hu
      split at hu
      · simpa using hu
      · cases hu
    · rw [cell_of_row w g j cur e (0,0) hg,Array.getElem?_eq_getElem (by omega)];rfl
    · simp [World.frozen?,hg]
theorem OwnC.alloc {w:World} {base:Nat} {v:Value} {xs:List Value} (h:OwnC w base v xs) (o:Obj):OwnC (w.alloc o) base v xs:=by
  obtain ⟨g,cap,rfl,hb,hlt,hle,hm,hc,hf⟩:=h
  have hb':=Below.heap_alloc w o g hlt
  refine ⟨g,cap,rfl,hb,by simp;omega,hle,hm,fun j u hu=>?_,fun j hj=>⟨?_,?_⟩⟩
  · exact (World.cell?_of_block (a:=⟨g,j,none⟩) hb').trans (hc j u hu)
  · rw [World.cell?_of_block (w:=w) (a:=⟨g,j,none⟩) hb'];exact (hf j hj).1
  · rw [World.frozen?_of_block (w:=w) (a:=⟨g,j,none⟩) hb'];exact (hf j hj).2
section
variable {P:Program}
theorem run_append_c {w:World} (base t ty e:TypeId) (i:TypeInfo) (z:Value) (bytes:Nat) (ht:P.underlying t=some (.slice e)) (hi:P.info? e=some i) (hz:i.zero=some z)
    (hsize:i.size=1) (hby:i.bytes=bytes) (hzs:z.cells.size=1)
    (v:Value) (xs:List Value) (hown:OwnC w base v xs) (a:Addr) (c:Nat) (x:Value) (hx:w.cell? a=some x) (h1:x.oneCell'=true)
    (h63:xs.length+1≤maxLen) (hbytes:(xs.length+1)*bytes≤140737488355328) (hbase:base≤w.heap.size) :
    ∃ v' w',(Builtin.append_ #[t,t] ty #[v,.slice (some a) 1 c]).run P w=.ok v' w'∧OwnC w' base v' (xs++[x])∧w.grownBy w' v.ownBlock:=by
  obtain ⟨g,cap,rfl,hb,hlt,hle,hm,hc,hf⟩:=hown
  have hnews:∀ j u,[x][j]? = some u→w.cell? (a.add j)=some u:=by
    intro j u hu
    match j,hu with
    | 0,hu=>simp at hu;subst hu;rw [show a.add 0=a from by unfold Addr.add;simp];exact hx
    | (j+1),hu=>simp at hu
  have h1':∀ u ∈ [x],u.oneCell'=true:=by intro u hu;simp at hu;subst hu;exact h1
  by_cases hroom:xs.length+1≤cap
  · have hr:=run_append_room_cells (P:=P) w t ty e i ht hi g 0 xs.length cap a 1 c [x] (by rw [hsize];rfl) hnews h1' hroom
      (fun j hj=>by simp at hj;subst hj;rw [hsize];simpa using (hf xs.length (by omega)).1) (fun j hj=>by simp at hj;subst hj;rw [hsize];simpa using (hf xs.length (by omega)).2)
    rw [hsize,Nat.mul_one,Nat.zero_add] at hr
    have hset:w.setCells g xs.length [x]=w.setCell ⟨g,xs.length,none⟩ x:=rfl
    rw [hset] at hr
    have hthere:=(hf xs.length (by omega)).1
    have hblk:∀ k,k≠g→(w.setCell ⟨g,xs.length,none⟩ x).heap[k]? = w.heap[k]? := fun k hk=>Below.heap_setCell w ⟨g,xs.length,none⟩ x k hk
    refine ⟨_,_,hr,⟨g,cap,by simp,hb,by simpa [World.setCell] using hlt,by simpa using hroom,hm,fun j u hu=>?_,fun j hj=>⟨?_,?_⟩⟩,⟨rfl,rfl,rfl,by simp [World.setCell],fun k _ hk=>hblk k (fun e=>hk (by rw [e];rfl))⟩⟩
    · by_cases hj:j=xs.length
      · subst hj
        simp at hu
        subst hu
        exact World.cell?_setCell_same' _ _ _ hthere
      · rw [World.cell?_setCell_other w ⟨g,xs.length,none⟩ ⟨g,j,none⟩ x (fun e=>hj (by injection e with _ e;exact e.symm))]
        refine hc j u ?_
        rcases Nat.lt_or_ge j xs.length with h|h
        · rwa [List.getElem?_append_left h] at hu
        · rw [List.getElem?_append_right h] at hu
          match hq:j-xs.length,hu with
          | 0,_=>omega
          | (q+1),hu=>simp at hu
    · by_cases hj':j=xs.length
      · subst hj'
        rw [World.cell?_setCell_same' _ _ _ hthere];rfl
      · rw [World.cell?_setCell_other w ⟨g,xs.length,none⟩ ⟨g,j,none⟩ x (fun e=>hj' (by injection e with _ e;exact e.symm))]
        exact (hf j hj).1
    · rw [World.frozen?_setCell];exact (hf j hj).2
  · obtain ⟨v',w',hr,ho,hgr⟩:=run_append_arg_grows (P:=P) w t ty e i z 1 bytes ht hi hz hsize hby hzs (by omega) ⟨g,0,none⟩ xs.length cap xs (by omega) (fun j u hu=>by rw [add_lit0];exact hc j u hu)
      a 1 c [x] rfl hnews (by omega) h63 hbytes
    have hown:=OwnC.of_own ho (by omega)
    obtain ⟨g',cap',rfl,hb',r⟩:=hown
    exact ⟨_,w',hr,⟨g',cap',rfl,by omega,r⟩,⟨hgr.os,hgr.tape,hgr.output,hgr.size,fun k hk _=>hgr.block k hk (by simp)⟩⟩
end
theorem ownC_bytes (w:World) (e:TypeId) (s:ByteArray) (hs:s.size≤maxLen) :
    OwnC (Lib.bytesWorld w e s) w.heap.size (.slice (some ⟨w.heap.size,0,none⟩) s.size (grownCap w s.size 0 e)) (s.data.toList.map fun b=>Value.int .u8 b.toNat):=by
  have hge:=grownCap_ge w s.size 0 e
  have hmx:=grownCap_le_maxLen w s.size 0 e hs
  have hsz:(Lib.bytesCells w e s).size=grownCap w s.size 0 e:=by
    unfold Lib.bytesCells
    simp
    have:s.data.size=s.size:=rfl
    omega
  have hblk:=Lib.bytesWorld_at_new w e s
  refine ⟨w.heap.size,grownCap w s.size 0 e,by simp,Nat.le_refl _,by rw [Lib.bytesWorld_size];omega,by simpa using hge,hmx,fun j u hu=>?_,fun j hj=>⟨?_,?_⟩⟩
  · rw [cell_of_row _ _ j _ _ _ hblk]
    unfold Lib.bytesCells
    have hj:j<s.data.size:=by
      rcases Nat.lt_or_ge j s.data.size with h|h
      · exact h
      · rw [List.getElem?_eq_none (by simpa using h)] at hu;cases hu
    rw [Array.getElem?_append_left (by simpa using hj)]
    simpa using hu
  · rw [cell_of_row _ _ j _ _ _ hblk,Array.getElem?_eq_getElem (by rw [hsz];exact hj)];rfl
  · simp [World.frozen?,hblk,hsz];omega
theorem below_bytes (w:World) (e:TypeId) (s:ByteArray):Below w.heap.size w (Lib.bytesWorld w e s):=
  ⟨by unfold Lib.bytesWorld World.freeze;simp;rfl,by unfold Lib.bytesWorld World.freeze;simp,by unfold Lib.bytesWorld World.freeze;simp;rfl,by rw [Lib.bytesWorld_size];omega,fun k hk=>Lib.bytesWorld_at_old w e s k hk⟩
end
section
open Go.RowKit
theorem digest_isDigest (s:ByteArray) (w:World) :
    Calls Tryz.prog 116 #[.string s] w fun e w'=>e=.returned (.bool ((s.size:Int) == 32))∧w=w':=by
  go_enter Tryz.func116,Tryz.ntmps116
  go_wp2
  go_ret
  exact ⟨rfl,rfl⟩
theorem logtree_isDigest (s:ByteArray) (w:World) :
    Calls Tryz.prog 68 #[.string s] w fun e w'=>e=.returned (.bool ((s.size:Int) == 32))∧w=w':=by
  go_enter Tryz.func68,Tryz.ntmps68
  go_wp2
  go_ret
  exact ⟨rfl,rfl⟩
end
section
open Go.RowKit
def shlU (x y:Int):Int:=IntKind.u32.wrap (x*2 ^ min y.toNat 32)
def shrU (x y:Int):Int:=x / 2 ^ min y.toNat 32
theorem run_shlU (P:Program) (x y:Int) (k:IntKind) (h:0≤y) (w:World):(Op.shift .shl .u32 x k y).run P w=.ok (.int .u32 (shlU x y)) w:=by
  unfold Op.shift;rw [if_neg (by omega)];rfl
theorem u64_wrap_nonneg (x:Int):0≤IntKind.u64.wrap x:=by rw [IntKind.wrap_u64];omega
def rotN (k:Int):Int:=bits .and .u64 (IntKind.u64.wrap k) 31
theorem rotN_nonneg (k:Int):0≤rotN k:=by unfold rotN bits;exact u64_wrap_nonneg _
def rotlF (x k:Int):Int:=bits .or .u32 (shlU x (rotN k)) (shrU x (IntKind.u64.wrap (32-rotN k)))
theorem rotl_any (x k:Int) (w:World) :
    Calls Tryz.prog 202 #[.int .u32 x,.int .i64 k] w fun e w'=>e=.returned (.int .u32 (rotlF x k))∧w=w':=by
  have h1:=run_shlU Tryz.prog x (bits .and .u64 (IntKind.u64.wrap k) 31) .u64 (rotN_nonneg k)
  go_enter Tryz.func202,Tryz.ntmps202
  go_wp2
  go_ret
  exact ⟨rfl,rfl⟩
def mixedF (x:Int) (l:List Int):Int:=l.foldl (fun o n=>bits .xor .u32 o (rotlF x (wrap64 (-n)))) 0
theorem mixedF_snoc (x:Int) (l:List Int) (n:Int):mixedF x (l++[n])=bits .xor .u32 (mixedF x l) (rotlF x (wrap64 (-n))):=by
  simp [mixedF]
theorem mixed_any (x:Int) (b n c:Nat) (zs:List Int) (w:World) (hn:zs.length=n) (h8:n≤8)
    (hc:∀ k,k<n→w.cell? ⟨b,k,none⟩=some (.int .i64 (zs.getD k 0))) :
    Calls Tryz.prog 184 #[.int .u32 x,.slice (some ⟨b,0,none⟩) n c] w fun e w'=>e=.returned (.int .u32 (mixedF x zs))∧w=w':=by
  have HC:=Lib.hid hc;clear hc
  have HN:=Lib.hid hn;clear hn
  go_enter Tryz.func184,Tryz.ntmps184
  go_wp2
  go_loop [5,10] (fun t i=>∃ k:Nat,k≤n∧i=.int .i64 k∧t=.int .u32 (mixedF x (zs.take k))) (fun _ i=>n-(intOf i).toNat)
  case atStart=>exact ⟨0,Nat.zero_le _,rfl,rfl⟩
  case round=>
    obtain ⟨k,hk,rfl,rfl⟩:=hrel
    by_cases hlt:k<n
    · have hcell:=HC.out k hlt
      go_wp2_with (go_at_call 202;refine (rotl_any _ _ _).mono ?_;rintro e w' ⟨rfl,rfl⟩)
      go_round
      case rel=>
        refine ⟨k+1,by omega,by go_num,?_⟩
        have e:zs.take (k+1)=zs.take k++[zs.getD k 0]:=by
          rw [List.take_succ_eq_append_getElem (by rw [HN.out];exact hlt)]
          simp [HN.out,hlt]
        rw [e,mixedF_snoc]
        simp
      case measure=>simp [intOf];omega
    · go_wp2
      go_ret
      have e:zs.take k=zs:=List.take_of_length_le (by rw [HN.out];omega)
      rw [e]
      exact ⟨rfl,rfl⟩
theorem mixed2_any (x y z:Int) (b:Nat) (w:World) (h:Blk w b 3 #[.int .i64 y,.int .i64 z]) :
    Calls Tryz.prog 184 #[.int .u32 x,.slice (some ⟨b,0,none⟩) 2 2] w fun e w'=>e=.returned (.int .u32 (mixedF x [y,z]))∧w=w':=
  mixed_any x b 2 2 [y,z] w rfl (by omega) (fun k hk=>by
    rw [h.cell k]
    match k,hk with
    | 0,_=>rfl
    | 1,_=>rfl)
theorem mixed3_any (x y z u:Int) (b:Nat) (w:World) (h:Blk w b 3 #[.int .i64 y,.int .i64 z,.int .i64 u]) :
    Calls Tryz.prog 184 #[.int .u32 x,.slice (some ⟨b,0,none⟩) 3 3] w fun e w'=>e=.returned (.int .u32 (mixedF x [y,z,u]))∧w=w':=
  mixed_any x b 3 3 [y,z,u] w rfl (by omega) (fun k hk=>by
    rw [h.cell k]
    match k,hk with
    | 0,_=>rfl
    | 1,_=>rfl
    | 2,_=>rfl)
end
section
open Go.RowKit
attribute [local go_sem ↓] Go.wp_at_zero Go.wp_at_succ
def pad64 (l:List Int):Array Value:=((l++List.replicate (64-l.length) 0).map (Value.int .u32)).toArray
def wordF (bs:List Int) (k:Nat):Int:=
  bits .or .u32 (bits .or .u32 (bits .or .u32 (bs[4*k]?.getD 0 % 4294967296*16777216 % 4294967296) (bs[4*k+1]?.getD 0 % 4294967296*65536 % 4294967296))
    (bs[4*k+2]?.getD 0 % 4294967296*256 % 4294967296)) (bs[4*k+3]?.getD 0 % 4294967296)
def stepF (l:List Int) (n:Nat):Int:=
  (((l[n-16]?.getD 0+bits .xor .u32 (mixedF (l[n-15]?.getD 0) [7,18]) (l[n-15]?.getD 0 / 8)) % 4294967296+l[n-7]?.getD 0) % 4294967296 +
    bits .xor .u32 (mixedF (l[n-2]?.getD 0) [17,19]) (l[n-2]?.getD 0 / 1024)) % 4294967296
def schedTo (bs:List Int):Nat→List Int
  | 0=>[]
  | n+1=>schedTo bs n++[if n<16 then wordF bs n else stepF (schedTo bs n) n]
theorem schedTo_length (bs:List Int) (n:Nat):(schedTo bs n).length=n:=by
  induction n with
  | zero=>rfl
  | succ n ih=>simp [schedTo,ih]
theorem pad64_get (bs:List Int) (k j:Nat) (hj:j<k) (hk:k≤64):(pad64 (schedTo bs k))[j]? = some (.int .u32 ((schedTo bs k)[j]?.getD 0)):=by
  unfold pad64
  have h:j<(schedTo bs k).length:=by rw [schedTo_length];exact hj
  simp [List.getElem?_append_left,h]
theorem pad64_size (l:List Int) (h:l.length≤64):(pad64 l).size=64:=by unfold pad64;simp;omega
theorem pad64_one (l:List Int):(pad64 l).all (·.oneCell')=true:=by
  unfold pad64
  rw [Array.all_eq_true_iff_forall_mem]
  intro v hv
  simp only [List.mem_toArray,List.mem_map] at hv
  obtain ⟨x,_,rfl⟩:=hv
  rfl
theorem pad64_set (l:List Int) (x:Int) (h:l.length<64):(pad64 l).setIfInBounds l.length (.int .u32 x)=pad64 (l++[x]):=by
  unfold pad64
  apply Array.ext'
  have e:64-l.length=(64-(l++[x]).length)+1:=by simp;omega
  rw [e,List.replicate_succ]
  simp
theorem S_al {W:World} {a b c:Addr} {va vb:Value}
    (h:W.drew.cell? a=some va∧W.drew.cell? b=some vb∧W.drew.cell? c=some (valAt W.drew c)∧W.drew.frozen? c=false) (o:Obj) :
    (W.alloc o).drew.cell? a=some va∧(W.alloc o).drew.cell? b=some vb∧(W.alloc o).drew.cell? c=some (valAt (W.alloc o).drew c)∧(W.alloc o).drew.frozen? c=false:=
  ⟨cell_al (w:=W) h.1 o,cell_al (w:=W) h.2.1 o,valAt_of (cell_al (w:=W) h.2.2.1 o),frozen_al (w:=W) h.2.2.1 h.2.2.2 o⟩
theorem S_set {W:World} {a b c:Addr} {va vb:Value} (x:Value) (hac:c≠a) (hbc:c≠b)
    (h:W.drew.cell? a=some va∧W.drew.cell? b=some vb∧W.drew.cell? c=some (valAt W.drew c)∧W.drew.frozen? c=false) :
    (W.setCell c x).drew.cell? a=some va∧(W.setCell c x).drew.cell? b=some vb∧(W.setCell c x).drew.cell? c=some (valAt (W.setCell c x).drew c)∧(W.setCell c x).drew.frozen? c=false:=
  ⟨(World.cell?_setCell_other W c a x hac).trans h.1,(World.cell?_setCell_other W c b x hbc).trans h.2.1,valAt_set (w:=W) h.2.2.1 x,by show (W.setCell c x).frozen? c=false;rw [World.frozen?_setCell];exact h.2.2.2⟩
set_option maxRecDepth 100000 in
theorem schedule_any (bb off c:Nat) (bs:List Int) (w:World) (hbb:bb<w.heap.size)
    (hc:∀ k,k<64→w.cell? ⟨bb,off+k,none⟩=some (.int .u8 (bs.getD k 0))) :
    Calls Tryz.prog 183 #[.slice (some ⟨bb,off,none⟩) 64 c] w fun e w'=>e=.returned (.agg (pad64 (schedTo bs 64)))∧Below w.heap.size w w':=by
  have HC:=Lib.hid hc;clear hc
  go_enter Tryz.func183,Tryz.ntmps183
  go_wp2
  have hz:Blk (w.alloc (.cells (pad64 []) 278)) w.heap.size 278 (pad64 []):=Blk.new _ _ _
  go_loopw [7] (fun i wr=>∃ k:Nat,k≤16∧i=.int .i64 k∧Blk wr w.heap.size 278 (pad64 (schedTo bs k))∧Below w.heap.size w wr) (fun i _=>16-(intOf i).toNat)
  case atStart=>exact ⟨0,Nat.zero_le _,rfl,hz,(Below.refl _ _).alloc (Nat.le_refl _) _⟩
  case round =>
    obtain ⟨k,hk,rfl,hB,hb⟩:=hrel
    by_cases hlt:k<16
    · have c0:=(hb.cell (p:=⟨bb,off+4*k,none⟩) hbb).trans (HC.out (4*k) (by omega))
      have c1:=(hb.cell (p:=⟨bb,off+(4*k+1),none⟩) hbb).trans (HC.out (4*k+1) (by omega))
      have c2:=(hb.cell (p:=⟨bb,off+(4*k+2),none⟩) hbb).trans (HC.out (4*k+2) (by omega))
      have c3:=(hb.cell (p:=⟨bb,off+(4*k+3),none⟩) hbb).trans (HC.out (4*k+3) (by omega))
      have cs:wr.cell? ⟨w.heap.size,k,none⟩=some (.int .u32 0):=by
        rw [hB.cell k];unfold pad64;simp [schedTo_length,List.getElem?_append_right,List.getElem?_replicate];omega
      have fs:=hB.frozen k
      have b0:(0:Int)≤4*(k:Int):=by omega
      have b1:(0:Int)≤4*(k:Int)+1:=by omega
      have b2:(0:Int)≤4*(k:Int)+2:=by omega
      have b3:(0:Int)≤4*(k:Int)+3:=by omega
      have d0:4*(k:Int)<64:=by omega
      have d1:4*(k:Int)+1<64:=by omega
      have d2:4*(k:Int)+2<64:=by omega
      have d3:4*(k:Int)+3<64:=by omega
      have t0:(4*(k:Int)).toNat=4*k:=by omega
      have t1:(4*(k:Int)+1).toNat=4*k+1:=by omega
      have t2:(4*(k:Int)+2).toNat=4*k+2:=by omega
      have t3:(4*(k:Int)+3).toNat=4*k+3:=by omega
      have q0:(0:Int)≤(k:Int):=by omega
      have q1:(k:Int)<64:=by omega
      have e0:IntKind.i64.wrap (4*(k:Int))=4*(k:Int):=IntWalk.i64_in _ (by omega)
      have e1:IntKind.i64.wrap (4*(k:Int)+1)=4*(k:Int)+1:=IntWalk.i64_in _ (by omega)
      have e2:IntKind.i64.wrap (4*(k:Int)+2)=4*(k:Int)+2:=IntWalk.i64_in _ (by omega)
      have e3:IntKind.i64.wrap (4*(k:Int)+3)=4*(k:Int)+3:=IntWalk.i64_in _ (by omega)
      go_wp2
      go_still_tail 35,(by kernel_rfl)
      change wpList _ _ _ _ _ wr.drew
      go_wp2
      clear e0 e1 e2 e3 t0 t1 t2 t3
      go_roundw
      case rel=>
        refine ⟨k+1,by omega,by go_num,?_,?_⟩
        · have hs:=pad64_set (schedTo bs k) (wordF bs k) (by rw [schedTo_length];omega)
          rw [schedTo_length] at hs
          have he:schedTo bs (k+1)=schedTo bs k++[wordF bs k]:=by simp only [schedTo,if_pos hlt]
          rw [he,← hs]
          exact (hB.set_ k _).drew
        · exact (hb.setCell (p:=⟨w.heap.size,k,none⟩) (Nat.le_refl _) _).drew
      case measure=>simp [intOf];omega
    · have HK := Lib.hid (show k = 16 by omega)
      go_wp2
      clear hlt hk hz
      go_loopw [4] (fun i ws=>∃ k:Nat,16≤k∧k≤64∧i=.int .i64 k∧Blk ws w.heap.size 278 (pad64 (schedTo bs k))∧Below w.heap.size w ws) (fun i _=>64-(intOf i).toNat)
      case atStart=>exact ⟨16,by omega,by omega,rfl,by have h:=HK.out;rw [h] at hB;exact hB,hb⟩
      case round =>
        clear hB hb HK
        obtain ⟨m,hm⟩:∃ m:Nat,m=k:=⟨k,rfl⟩
        clear hm
        obtain ⟨k,hk1,hk2,rfl,hB,hb⟩:=hrel
        by_cases hlt:k<64
        · have g15:=(hB.cell (k-15)).trans (pad64_get bs k (k-15) (by omega) (by omega))
          have g2:=(hB.cell (k-2)).trans (pad64_get bs k (k-2) (by omega) (by omega))
          have g16:=(hB.cell (k-16)).trans (pad64_get bs k (k-16) (by omega) (by omega))
          have g7:=(hB.cell (k-7)).trans (pad64_get bs k (k-7) (by omega) (by omega))
          have b15:(0:Int)≤(k:Int)-15:=by omega
          have b2:(0:Int)≤(k:Int)-2:=by omega
          have b16:(0:Int)≤(k:Int)-16:=by omega
          have b7:(0:Int)≤(k:Int)-7:=by omega
          have d15:(k:Int)-15<64:=by omega
          have d2:(k:Int)-2<64:=by omega
          have d16:(k:Int)-16<64:=by omega
          have d7:(k:Int)-7<64:=by omega
          have b16':(16:Int)≤(k:Int):=by omega
          have b7':(7:Int)≤(k:Int):=by omega
          have d16':(k:Int)<80:=by omega
          have d7':(k:Int)<71:=by omega
          have q1:(k:Int)<64:=by omega
          have q0:(0:Int)≤(k:Int):=by omega
          have t15:((k:Int)-15).toNat=k-15:=by omega
          have t2:((k:Int)-2).toNat=k-2:=by omega
          have t16:((k:Int)-16).toNat=k-16:=by omega
          have t7:((k:Int)-7).toNat=k-7:=by omega
          have e15:IntKind.i64.wrap ((k:Int)-15)=(k:Int)-15:=IntWalk.i64_in _ (by omega)
          have e2:IntKind.i64.wrap ((k:Int)-2)=(k:Int)-2:=IntWalk.i64_in _ (by omega)
          have e16:IntKind.i64.wrap ((k:Int)-16)=(k:Int)-16:=IntWalk.i64_in _ (by omega)
          have e7:IntKind.i64.wrap ((k:Int)-7)=(k:Int)-7:=IntWalk.i64_in _ (by omega)
          go_wp2
          go_quiet (fail)
          go_wp2
          have hk0:(wr.drewN nq).cell? ⟨w.heap.size,k,none⟩=some (.int .u32 0):=by
            show wr.cell? _=_
            rw [hB.cell k];unfold pad64;simp [schedTo_length,List.getElem?_append_right,List.getElem?_replicate];omega
          have hf0:(wr.drewN nq).frozen? ⟨w.heap.size,k,none⟩=false:=hB.frozen k
          have hB':=hB.drewN nq
          have hb':=below_drewN hb nq
          have g16':(wr.drewN nq).cell? ⟨w.heap.size,k-16,none⟩=_:=g16
          have g7':(wr.drewN nq).cell? ⟨w.heap.size,k-7,none⟩=_:=g7
          clear g15 g2 b15 b2 d15 d2 t15 t2 e15 e2 hB hb g16 g7
          generalize wr.drewN nq=W at *
          have hne1:(⟨w.heap.size,k,none⟩:Addr)≠⟨w.heap.size,k-16,none⟩:=fun e=>by injection e with _ e;omega
          have hne2:(⟨w.heap.size,k,none⟩:Addr)≠⟨w.heap.size,k-7,none⟩:=fun e=>by injection e with _ e;omega
          have hv0:=valAt_of hk0
          clear hk0
          go_region_held3 (fun w'=>w'.cell? ⟨w.heap.size,k-16,none⟩=some (.int .u32 ((schedTo bs k)[k-16]?.getD 0))∧w'.cell? ⟨w.heap.size,k-7,none⟩=some (.int .u32 ((schedTo bs k)[k-7]?.getD 0))∧w'.cell? ⟨w.heap.size,k,none⟩=some (valAt w' ⟨w.heap.size,k,none⟩)∧w'.frozen? ⟨w.heap.size,k,none⟩=false)
            (first|exact ⟨g16',g7',hv0,hf0⟩|assumption|exact S_al (by assumption) _|exact S_set _ hne1 hne2 (by assumption))
            (first|(go_at_call 184;refine (mixed2_any _ _ _ _ _ (by first|exact (Blk.new _ _ _).drew|exact (Blk.alloc (Blk.new _ _ _) _).drew|(refine (Blk.new' _ _ _ ?_).drew;simp;done))).mono ?_;rintro e w' ⟨rfl,rfl⟩))
          all_goals
            go_wp2
            go_roundw
            case rel=>
              refine ⟨k+1,by omega,by omega,by go_num,?_,?_⟩
              · have hs:=pad64_set (schedTo bs k) (stepF (schedTo bs k) k) (by rw [schedTo_length];omega)
                rw [schedTo_length] at hs
                have he:schedTo bs (k+1)=schedTo bs k++[stepF (schedTo bs k) k]:=by simp only [schedTo,if_neg (show ¬ k<16 by omega)]
                rw [he,← hs]
                exact (((hB'.alloc _).alloc _).set_ k _).drew
              · exact (((hb'.alloc hb'.size _).alloc (Nat.le_trans hb'.size (by simp)) _).setCell (p:=⟨w.heap.size,k,none⟩) (Nat.le_refl _) _).drew
            case measure=>simp [intOf];omega
        · have HK:=Lib.hid (show k=64 by omega)
          obtain ⟨cs,hcs⟩:∃ cs,cs=pad64 (schedTo bs 64):=⟨_,rfl⟩
          have hB64:Blk wr w.heap.size 278 cs:=by rw [hcs];rw [HK.out] at hB;exact hB
          have HS:=Lib.hid hB64
          have hi:(Tryz.prog.info? 278).map (·.size)=some cs.size:=by rw [hcs,pad64_size _ (by rw [schedTo_length];omega)];kernel_rfl
          have h1:cs.all (·.oneCell')=true:=by rw [hcs];exact pad64_one _
          have HI:=Lib.hid hi
          have H1:=Lib.hid h1
          have HCS:=Lib.hid hcs
          clear hi h1 hB hB64 hcs
          go_wp2_with (first
            | (refine wpList_load_row rfl 278 (.tmp 2) rfl w.heap.size rfl 278 cs (0,0) _ HS.out Tryz.underlying278 rfl HI.out ?_)
            | (refine wpList_store_row rfl 278 (.tmp 2) (.tmp 83) rfl w.heap.size cs rfl rfl 278 cs HS.out HI.out rfl H1.out ?_))
          have hw:wr.setRow w.heap.size cs=wr:=setRow_self _ _ _ _ _ HS.out
          rw [hw]
          exact bodyPost_ret (v:=.agg cs) (results_cell_row rfl _ _ w.heap.size 278 cs (0,0) _ rfl HS.out Tryz.underlying278 rfl HI.out) rfl ⟨by rw [HCS.out],hb⟩
end
end Go.Proofs.YtimoapjhepmehaaGreatDoor
