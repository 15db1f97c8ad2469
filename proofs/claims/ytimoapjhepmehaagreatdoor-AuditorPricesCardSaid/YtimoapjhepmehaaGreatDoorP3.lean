/-
  Part 3 of 54: the contracts that the proof of the last part uses; each stands under its own head.
-/
import Derived.Test.YtimoapjhepmehaaGreatDoorP1
import Derived.LoopN
import Derived.WalkMore
import Derived.Test.YtimoapjhepmehaaGreatDoorProg
import Derived.RangeFuncRecord
import Derived.Shelf.Strings.Builder1
import Derived.Shelf.Strings.Builder2
import Derived.Shelf.Strings.OnBuilder
import Derived.Shelf.Small.Bits
import Derived.Shelf.Small.Wraps
import Derived.Shelf.Strings.BuilderF
import Derived.Shelf.Strings.BuilderK
import Derived.Shelf.Strings.Builder2Cap
import Derived.Shelf.Strconv.Itoa0
import Derived.Shelf.Strings.Prefix
import Derived.Shelf.Bits.Mul64
import Derived.Shelf.Strings.Repeat
import Derived.Shelf.Slices.Equal
import Derived.Ground.Names2Prog
import Derived.Shelf.Slices.ReverseS
import Derived.Shelf.Slices.SearchI
import Derived.Shelf.Slices.Cells
import Derived.Shelf.Slices.Empties2
import Derived.Ground.SlgnProg
import Derived.Shelf.SlicesE.Reverse
import Derived.Deep.Cut
import Derived.Deep.RegionLaw
import Derived.Deep.RegionHeld3
set_option linter.unusedSimpArgs false
set_option linter.unusedVariables false
set_option maxHeartbeats 4000000
namespace Go.Proofs.YtimoapjhepmehaaGreatDoor
open Go.RowKit
section
variable {w W W':World}
theorem ext_refl (w:World):Below w.heap.size w w:=Below.refl _ _
theorem ext_alloc (h:Below w.heap.size w W) (o:Obj):Below w.heap.size w (W.alloc o):=h.alloc h.size o
theorem ext_new (w:World) (o:Obj):Below w.heap.size w (w.alloc o):=ext_alloc (ext_refl w) o
theorem ext_call (h:Below w.heap.size w W) (k:Below W.heap.size W W'):Below w.heap.size w W':=h.trans (k.mono h.size)
theorem ext_drewN (h:Below w.heap.size w W) (n:Nat):Below w.heap.size w (W.drewN n):=below_drewN h n
theorem ext_set (h:Below w.heap.size w W) {p:Addr} (hp:w.heap.size≤p.block) (v:Value):Below w.heap.size w (W.setCell p v):=h.setCell hp v
theorem Blk.ext {g:Nat} {t:TypeId} {cs:Array Value} (h:Blk W g t cs) (k:Below W.heap.size W W'):Blk W' g t cs:=h.below k h.lt
theorem cell_ext {p:Addr} {v:Value} (h:W.cell? p=some v) (k:Below W.heap.size W W'):W'.cell? p=some v:=(k.cell (lt_of_cell h)).trans h
theorem heap_ext {g:Nat} {o:Obj} (h:W.heap[g]? = some o) (k:Below W.heap.size W W'):W'.heap[g]? = some o:=(k.block g (Array.getElem?_eq_some_iff.1 h).1).trans h
end
end Go.Proofs.YtimoapjhepmehaaGreatDoor
namespace Go.Proofs.YtimoapjhepmehaaGreatDoor
open Go.RowKit
def IntsAt (w:World) (b off:Nat) (l:List Int):Prop:=∀ j x,l[j]? = some x→w.cell? ⟨b,off+j,none⟩=some (.int .i64 x)
theorem IntsAt.of_blk {w:World} {g:Nat} {t:TypeId} {cs:Array Value} (h:Blk w g t cs) (off:Nat) (l:List Int) (hl:(cs.toList.drop off).take l.length=l.map (Value.int .i64)):IntsAt w g off l:=by
  intro j x hx
  rw [h.cell]
  have h1:(l.map (Value.int .i64))[j]? = some (.int .i64 x):=by rw [List.getElem?_map,hx];rfl
  rw [← hl,List.getElem?_take] at h1
  split at h1
  · rw [List.getElem?_drop] at h1
    simpa using h1
  · cases h1
def inF (lo hi:Int) (l:List Int):Bool:=l.all fun n=>decide (lo≤n) && decide (n≤hi)
theorem within1_in (n lo hi:Int) (bl bh:Nat) (w:World) (hl:w.cell? ⟨bl,0,none⟩=some (.int .i64 lo)) (hh:w.cell? ⟨bh,0,none⟩=some (.int .i64 hi)) (h1:lo≤n) (h2:n≤hi) :
    Calls Tryz.prog 198 #[.int .i64 n,.pointer (some ⟨bl,0,none⟩),.pointer (some ⟨bh,0,none⟩)] w fun e w'=>e=.returned (.bool false)∧w=w':=by
  have d1:decide (n<lo)=false:=decide_eq_false (by omega)
  have d2:decide (hi<n)=false:=decide_eq_false (by omega)
  go_enter Tryz.func198,Tryz.ntmps198
  go_wp2
  go_ret
  exact ⟨rfl,rfl⟩
theorem indexIn_yes (b off c:Nat) (l:List Int) (lo hi:Int) (bl bh:Nat) (w:World) (hl:w.cell? ⟨bl,0,none⟩=some (.int .i64 lo)) (hh:w.cell? ⟨bh,0,none⟩=some (.int .i64 hi)) (hc:IntsAt w b off l) (hn:l.length≤100000) (hin:inF lo hi l=true) :
    Calls Tryz.prog 226 #[.slice (some ⟨b,off,none⟩) l.length c,.func (.func 198) #[] #[.pointer (some ⟨bl,0,none⟩),.pointer (some ⟨bh,0,none⟩)]] w fun e w'=>e=.returned (.int .i64 (-1))∧w=w':=by
  have HC:=Lib.hid hc
  have HI:=Lib.hid (List.all_eq_true.1 hin)
  have HL:=Lib.hid hl
  have HH:=Lib.hid hh
  clear hc hin hl hh
  go_enter Tryz.func226,Tryz.ntmps226
  go_wp2
  go_loop [8] (fun i=>∃ k:Nat,k≤l.length∧i=.int .i64 k) (fun i=>l.length-(intOf i).toNat)
  case atStart=>exact ⟨0,Nat.zero_le _,rfl⟩
  case round=>
    obtain ⟨k,hk,rfl⟩:=hrel
    by_cases hlt:k<l.length
    · have hcell:=HC.out k l[k] (List.getElem?_eq_getElem hlt)
      have hx:=HI.out l[k] (List.getElem_mem hlt)
      obtain ⟨x,hxe⟩:∃ x,x=l[k]:=⟨_,rfl⟩
      rw [← hxe] at hcell hx
      clear hxe
      have hx1:lo≤x:=by simp at hx;exact hx.1
      have hx2:x≤hi:=by simp at hx;exact hx.2
      clear hx
      go_wp2_with (go_at_call 198;refine (within1_in _ _ _ _ _ _ HL.out HH.out hx1 hx2).mono ?_;rintro e w' ⟨rfl,rfl⟩)
      go_round
      case rel=>exact ⟨k+1,by omega,by go_num⟩
      case measure=>simp [intOf];omega
    · go_wp2
      go_ret
      exact ⟨rfl,rfl⟩
theorem within_yes (b off c:Nat) (l:List Int) (lo hi:Int) (w:World) (hc:IntsAt w b off l) (hb:b<w.heap.size) (hn:l.length≤100000) (hin:inF lo hi l=true) :
    Calls Tryz.prog 170 #[.int .i64 lo,.int .i64 hi,.slice (some ⟨b,off,none⟩) l.length c] w fun e w'=>e=.returned (.bool true)∧Below w.heap.size w w':=by
  have hmf:∀ (fn:Fn) (first cap:Array Value) (w:World),(Instr.makeFunc fn first cap).run Tryz.prog w=.ok (.func fn first cap) w:=fun _ _ _ _=>rfl
  have hbl:Below w.heap.size w ((w.alloc (.cells #[.int .i64 lo] 3)).alloc (.cells #[.int .i64 hi] 3)):=((Below.refl _ _).alloc (Nat.le_refl _) _).alloc (by simp) _
  have HI:=Lib.hid (indexIn_yes b off c l lo hi w.heap.size (w.heap.size+1) ((w.alloc (.cells #[.int .i64 lo] 3)).alloc (.cells #[.int .i64 hi] 3)) (cell_al ((Blk.new _ _ _).cell 0) _) ((Blk.new' _ _ _ (by simp)).cell 0) (fun j x hx=>(hbl.cell (p:=⟨b,off+j,none⟩) hb).trans (hc j x hx)) hn hin)
  have HB:=Lib.hid hbl
  clear hc hin hbl
  go_enter Tryz.func170,Tryz.ntmps170
  go_wp2_with (first
    | (go_at_call 197;go_in)
    | (go_at_call 226;refine HI.out.mono ?_;rintro e w' ⟨rfl,rfl⟩))
  go_ret
  exact ⟨rfl,HB.out⟩
structure RowT where
  (t k a b c:Int)
def RowT.arr (r:RowT):Array Value:=#[.int .i64 r.t,.int .i64 r.k,.int .i64 r.a,.int .i64 r.b,.int .i64 r.c]
def RowT.val (r:RowT):Value:=.agg r.arr
def RowT.ok (r:RowT):Prop:=(0≤r.t∧r.t≤3)∧(1≤r.k∧r.k≤1000000)∧(-1000000000≤r.a∧r.a≤1000000000)∧(-1000000000≤r.b∧r.b≤1000000000)∧(-1000000000≤r.c∧r.c≤1000000000)
theorem rowValid_yes (r:RowT) (w:World) (hr:r.ok) :
    Calls Tryz.prog 156 #[.agg #[.int .i64 r.t,.int .i64 r.k,.int .i64 r.a,.int .i64 r.b,.int .i64 r.c]] w fun e w'=>e=.returned (.bool true)∧Below w.heap.size w w':=by
  obtain ⟨t,k,a,b,c⟩:=r
  obtain ⟨⟨h1,h2⟩,⟨h3,h4⟩,⟨h5,h6⟩,⟨h7,h8⟩,⟨h9,h10⟩⟩:=hr
  dsimp only at *
  have i1:inF 0 3 [t]=true:=by simp [inF,h1,h2]
  have i2:inF 1 1000000 [k]=true:=by simp [inF,h3,h4]
  have i3:inF (-1000000000) 1000000000 [a,b,c]=true:=by simp [inF,h5,h6,h7,h8,h9,h10]
  have I1:=Lib.hid i1
  have I2:=Lib.hid i2
  have I3:=Lib.hid i3
  clear i1 i2 i3 h1 h2 h3 h4 h5 h6 h7 h8 h9 h10
  go_enter Tryz.func156,Tryz.ntmps156
  have hB0:Blk (w.alloc (.cells #[.int .i64 t,.int .i64 k,.int .i64 a,.int .i64 b,.int .i64 c] 67)) w.heap.size 67 #[.int .i64 t,.int .i64 k,.int .i64 a,.int .i64 b,.int .i64 c]:=Blk.new _ _ _
  have HB0:=Lib.hid hB0
  clear hB0
  go_wp2_with fail
  refine (within_yes (w.heap.size+1) 0 1 [t] 0 3 _ (.of_blk (Blk.new' _ _ _ (by simp)) 0 [t] rfl) (by simp) (by simp) I1.out).mono ?_
  rintro e W1 ⟨rfl,hb1⟩
  have hB1:=(HB0.out.alloc _).ext hb1
  have c1:=hB1.cell 1
  have HB1:=Lib.hid hB1
  have HL1:=Lib.hid (ext_call (ext_alloc (ext_new w _) _) hb1)
  clear hb1 hB1
  go_wp2_with fail
  refine (within_yes W1.heap.size 0 1 [k] 1 1000000 _ (.of_blk (Blk.new _ _ _) 0 [k] rfl) (by simp) (by simp) I2.out).mono ?_
  rintro e W2 ⟨rfl,hb2⟩
  have HB2:=Lib.hid ((HB1.out.alloc _).ext hb2)
  have HL2:=Lib.hid (ext_call (ext_alloc HL1.out _) hb2)
  clear hb2 c1
  go_wp2_with fail
  refine (within_yes w.heap.size 2 3 [a,b,c] (-1000000000) 1000000000 _ (.of_blk HB2.out 2 [a,b,c] rfl) HB2.out.lt (by simp) I3.out).mono ?_
  rintro e W3 ⟨rfl,hb3⟩
  go_wp2
  go_ret
  exact ⟨rfl,ext_call HL2.out hb3⟩
def RowT.col (r:RowT) (j:Nat):Int:=match j with|0=>r.k|1=>r.a|2=>r.b|3=>r.c|_=>0
theorem rowValue_any (r:RowT) (j:Nat) (hj:j<4) (w:World) :
    Calls Tryz.prog 89 #[.agg #[.int .i64 r.t,.int .i64 r.k,.int .i64 r.a,.int .i64 r.b,.int .i64 r.c],.int .i64 (j:Int)] w fun e w'=>e=.returned (.int .i64 (r.col j))∧Below w.heap.size w w':=by
  obtain ⟨t,k,a,b,c⟩:=r
  match j,hj with
  | 0,_=>
    go_enter Tryz.func89,Tryz.ntmps89
    go_wp2
    go_ret
    exact ⟨rfl,ext_new _ _⟩
  | 1,_=>
    go_enter Tryz.func89,Tryz.ntmps89
    go_wp2
    go_ret
    exact ⟨rfl,ext_new _ _⟩
  | 2,_=>
    go_enter Tryz.func89,Tryz.ntmps89
    go_wp2
    go_ret
    exact ⟨rfl,ext_new _ _⟩
  | 3,_=>
    go_enter Tryz.func89,Tryz.ntmps89
    go_wp2
    go_ret
    exact ⟨rfl,ext_new _ _⟩
theorem row_size:(Tryz.prog.info? 67).map (·.size)=some 5:=by kernel_rfl
theorem row_one (t k a b c:Int):(#[.int .i64 t,.int .i64 k,.int .i64 a,.int .i64 b,.int .i64 c]:Array Value).all (·.oneCell')=true:=by simp [Value.oneCell']
theorem half_yes (t k:Int) (x y:Bool) (o1 o2 o3 n1 n2 n3 a b c:Int) (w:World) :
    Calls Tryz.prog 118 #[.agg #[.int .i64 t,.int .i64 k,.bool x,.int .i64 o1,.int .i64 o2,.int .i64 o3,.bool y,.int .i64 n1,.int .i64 n2,.int .i64 n3],.bool true,.agg #[.int .i64 a,.int .i64 b,.int .i64 c]] w fun e w'=>
      e=.returned (.tuple #[.agg #[.int .i64 t,.int .i64 k,.int .i64 a,.int .i64 b,.int .i64 c],.bool true])∧Below w.heap.size w w':=by
  go_enter Tryz.func118,Tryz.ntmps118
  go_wp2
  refine bodyPost_ret (v:=.tuple #[.agg #[.int .i64 t,.int .i64 k,.int .i64 a,.int .i64 b,.int .i64 c],.bool true]) (by simp [results,Tryz.results118,go_sem]) rfl ⟨rfl,?_⟩
  exact ext_alloc (ext_alloc (ext_new _ _) _) _
theorem half_no (t k:Int) (x y:Bool) (o1 o2 o3 n1 n2 n3 a b c:Int) (w:World) :
    Calls Tryz.prog 118 #[.agg #[.int .i64 t,.int .i64 k,.bool x,.int .i64 o1,.int .i64 o2,.int .i64 o3,.bool y,.int .i64 n1,.int .i64 n2,.int .i64 n3],.bool false,.agg #[.int .i64 a,.int .i64 b,.int .i64 c]] w fun e w'=>
      e=.returned (.tuple #[.agg #[.int .i64 0,.int .i64 0,.int .i64 0,.int .i64 0,.int .i64 0],.bool false])∧Below w.heap.size w w':=by
  go_enter Tryz.func118,Tryz.ntmps118
  go_wp2
  refine bodyPost_ret (v:=.tuple #[.agg #[.int .i64 0,.int .i64 0,.int .i64 0,.int .i64 0,.int .i64 0],.bool false]) (by simp [results,Tryz.results118,go_sem]) rfl ⟨rfl,?_⟩
  exact ext_alloc (ext_alloc (ext_new _ _) _) _
end Go.Proofs.YtimoapjhepmehaaGreatDoor
namespace Go.Proofs.YtimoapjhepmehaaGreatDoor
open Go.RowKit
def MapAt (w:World) (g:Nat) (es:Array MapEntry) (c:Nat):Prop:=w.heap[g]? = some (.map es c)
section
variable {P:Program} {w W:World} {g c:Nat} {es:Array MapEntry}
theorem MapAt.ext (h:MapAt w g es c) (k:Below w.heap.size w W):MapAt W g es c:=heap_ext h k
theorem MapAt.lt (h:MapAt w g es c):g<w.heap.size:=(Array.getElem?_eq_some_iff.1 h).1
theorem MapAt.set (h:MapAt w g es c) (p:Addr) (v:Value) (hne:g≠p.block):MapAt (w.setCell p v) g es c:=(Below.heap_setCell w p v g hne).trans h
theorem MapAt.new (w:World):MapAt (w.alloc (.map #[] 0)) w.heap.size #[] 0:=World.alloc_heap_new w _
theorem MapAt.put (h:MapAt w g es c) (es':Array MapEntry) (c':Nat):MapAt (w.putObj g (.map es' c')) g es' c':=World.putObj_heap_same h.lt
theorem Blk.putObj {t:TypeId} {cs:Array Value} {b:Nat} (h:Blk w b t cs) (o:Obj) (hne:b≠g):Blk (w.putObj g o) b t cs:=(World.putObj_heap_other hne).trans h
theorem ext_put {w0:World} (h:Below w0.heap.size w0 w) (hg:w0.heap.size≤g) (o:Obj):Below w0.heap.size w0 (w.putObj g o):=
  ⟨h.os,h.tape,h.output,by simpa using h.size,fun k hk=>(World.putObj_heap_other (by omega)).trans (h.block k hk)⟩
theorem getM (h:MapAt w g es c):(getObj g).run P w=.ok (.map es c) w:=by unfold MapAt at h;simp [getObj,Sem.run,h]
theorem setM (o:Obj) (h:MapAt w g es c):(setObj g o).run P w=.ok () (w.putObj g o):=by unfold MapAt at h;simp [setObj,Sem.run,h,World.putObj]
theorem range_map {T K E:TypeId} (hT:P.underlying T=some (.map K E)) (h:MapAt w g es c) :
    (Instr.range T (.map (some g))).run P w=.ok (.pointer (some ⟨w.heap.size,0,none⟩)) (w.alloc (.mapIter (some g) c #[] c)):=by
  unfold Instr.range
  have hg:=getM (P:=P) h
  simp [run_underlying hT,Result.andThen,hg]
theorem len_map {T K E:TypeId} (hT:P.underlying T=some (.map K E)) (h:MapAt w g es c) (t:TypeId) {v:Value} (hv:goInt es.size=v):(Builtin.len_ #[T] t #[.map (some g)]).run P w=.ok v w:=by
  subst hv
  unfold Builtin.len_
  have hg:=getM (P:=P) h
  simp [run_underlying hT,Result.andThen,hg]
end
structure Ext2 (a b:Nat) (w w':World):Prop where
  os:w'.os=w.os
  tape:w'.tape=w.tape
  output:w'.output=w.output
  size:w.heap.size≤w'.heap.size
  block:∀ k,k<w.heap.size→k≠a→k≠b→w'.heap[k]? = w.heap[k]?
section
variable {w0 w w' w'':World} {a b:Nat}
theorem Ext2.of_ext (h:Below w.heap.size w w'):Ext2 a b w w':=⟨h.os,h.tape,h.output,h.size,fun k hk _ _=>h.block k hk⟩
theorem Ext2.trans (h:Ext2 a b w w') (k:Ext2 a b w' w''):Ext2 a b w w'':=⟨k.os.trans h.os,k.tape.trans h.tape,k.output.trans h.output,Nat.le_trans h.size k.size,fun i hi ha hb=>(k.block i (Nat.lt_of_lt_of_le hi h.size) ha hb).trans (h.block i hi ha hb)⟩
theorem Ext2.ext (h:Ext2 a b w w') (k:Below w'.heap.size w' w''):Ext2 a b w w'':=h.trans (.of_ext k)
theorem Ext2.put (h:Ext2 a b w w') (o:Obj):Ext2 a b w (w'.putObj b o):=h.trans ⟨rfl,rfl,rfl,by simp,fun k _ _ hb=>World.putObj_heap_other hb⟩
theorem Ext2.setA (h:Ext2 a b w w') (i:Nat) (v:Value):Ext2 a b w (w'.setCell ⟨a,i,none⟩ v):=h.trans ⟨rfl,rfl,rfl,by simp [World.setCell],fun k _ ha _=>Below.heap_setCell _ _ _ _ ha⟩
theorem Ext2.drewN (h:Ext2 a b w w') (n:Nat):Ext2 a b w (w'.drewN n):=⟨h.os,h.tape,h.output,h.size,h.block⟩
theorem Ext2.below (h:Below w0.heap.size w0 w) (ha:w0.heap.size≤a) (hb:w0.heap.size≤b) (k:Ext2 a b w w'):Below w0.heap.size w0 w':=
  ⟨k.os.trans h.os,by rw [k.tape];exact h.tape,k.output.trans h.output,Nat.le_trans h.size k.size,fun i hi=>(k.block i (Nat.lt_of_lt_of_le hi h.size) (by omega) (by omega)).trans (h.block i hi)⟩
theorem Blk.ext2 {g:Nat} {t:TypeId} {cs:Array Value} (h:Blk w g t cs) (k:Ext2 a b w w') (ha:g≠a) (hb:g≠b):Blk w' g t cs:=(k.block g h.lt ha hb).trans h
theorem cell_ext2 {p:Addr} {v:Value} (h:w.cell? p=some v) (k:Ext2 a b w w') (ha:p.block≠a) (hb:p.block≠b):w'.cell? p=some v:=(World.cell?_of_block (k.block _ (lt_of_cell h) ha hb)).trans h
end
end Go.Proofs.YtimoapjhepmehaaGreatDoor
namespace Go.Proofs
open Go.Shelf
def Tryz.lays156_ren:Go.Shelf.Ren:=⟨fun|156=>181|165=>121|166=>122|169=>124|240=>175|241=>176|276=>200|277=>201|n=>n,fun|31=>53|9=>9|3=>3|4=>4|0=>0|20=>20|72=>215|76=>219|70=>212|37=>213|75=>218|127=>271|164=>303|5=>5|80=>82|n=>n,fun|n=>n⟩
theorem Tryz.lays156:Go.Proofs.Lays.n156 Tryz.prog Tryz.lays156_ren:={
  mixed:=by kernel_rfl
  f156:=Tryz.func181.trans (congrArg some (by kernel_rfl))
  f165:=Tryz.func121.trans (congrArg some (by kernel_rfl))
  f166:=Tryz.func122.trans (congrArg some (by kernel_rfl))
  f169:=Tryz.func124.trans (congrArg some (by kernel_rfl))
  f240:=Tryz.func175.trans (congrArg some (by kernel_rfl))
  f241:=Tryz.func176.trans (congrArg some (by kernel_rfl))
  f276:=Tryz.func200.trans (congrArg some (by kernel_rfl))
  f277:=Tryz.func201.trans (congrArg some (by kernel_rfl))
  t0:=Tryz.underlying0
  a0:=Tryz.isAgg0
  z0:=Tryz.sizeOf0
  v0:=Tryz.zeroValue0
  t3:=Tryz.underlying3
  a3:=Tryz.isAgg3
  z3:=Tryz.sizeOf3
  v3:=Tryz.zeroValue3
  t4:=Tryz.underlying4
  a4:=Tryz.isAgg4
  z4:=Tryz.sizeOf4
  v4:=Tryz.zeroValue4
  t9:=Tryz.underlying9
  a9:=Tryz.isAgg9
  z9:=Tryz.sizeOf9
  v9:=Tryz.zeroValue9
  t20:=Tryz.underlying20
  a20:=Tryz.isAgg20
  z20:=Tryz.sizeOf20
  v20:=Tryz.zeroValue20
  t31:=Tryz.underlying53
  a31:=Tryz.isAgg53
  z31:=Tryz.sizeOf53
  v31:=Tryz.zeroValue53
  t37:=Tryz.underlying213
  a37:=Tryz.isAgg213
  z37:=Tryz.sizeOf213
  v37:=Tryz.zeroValue213
  t70:=Tryz.underlying212
  a70:=Tryz.isAgg212
  z70:=Tryz.sizeOf212
  v70:=Tryz.zeroValue212
  t72:=Tryz.underlying215
  a72:=Tryz.isAgg215
  z72:=Tryz.sizeOf215
  v72:=Tryz.zeroValue215
  t75:=Tryz.underlying218
  a75:=Tryz.isAgg218
  z75:=Tryz.sizeOf218
  v75:=Tryz.zeroValue218
  t76:=Tryz.underlying219
  a76:=Tryz.isAgg219
  z76:=Tryz.sizeOf219
  v76:=Tryz.zeroValue219
  t127:=Tryz.underlying271
  a127:=Tryz.isAgg271
  z127:=Tryz.sizeOf271
  v127:=Tryz.zeroValue271
  t164:=Tryz.underlying303
  a164:=Tryz.isAgg303
  z164:=Tryz.sizeOf303
  v164:=Tryz.zeroValue303 }
theorem Tryz.Builder_Extra_156:Builder.Extra Tryz.prog Tryz.lays156_ren:={
  sizeBuilder:=by kernel_rfl
  liesBuilder:=by kernel_rfl
  t5:=Tryz.underlying5
  a5:=Tryz.isAgg5
  z5:=Tryz.sizeOf5
  v5:=Tryz.zeroValue5
  infoByte:=by kernel_rfl
  cellsByte:=by kernel_rfl
  sizeByte:=by kernel_rfl
  neB5:=by decide }
open Go.RowKit in
theorem Tryz.strings_Join (bk o c:Nat) (xs:List ByteArray) (sep:ByteArray) (w:World) (hcells:∀ (j:Nat) x,xs[j]? = some x→w.cell? ⟨bk,o+j,none⟩=some (.string x)) (hbk:bk<w.heap.size) (hN:xs.length≤140737488355328) (hcap:xs.length≤c) (hlen:(Lib.join (xs.map (·.data.toList)) sep.data.toList).length≤140737488355328) :
    Calls Tryz.prog 181 #[.slice (some ⟨bk,o,none⟩) xs.length c,.string sep] w fun e w'=>e=.returned (.string ⟨(Lib.join (xs.map (·.data.toList)) sep.data.toList).toArray⟩)∧Below w.heap.size w w':=Any.strings_Join Tryz.lays156 Tryz.Builder_Extra_156 bk o c xs sep w hcells hbk hN hcap hlen
def Tryz.lays125_ren:Go.Shelf.Ren:=⟨fun|125=>129|128=>178|129=>179|n=>n,fun|46=>208|3=>3|51=>229|53=>257|4=>4|5=>5|9=>9|n=>n,fun|n=>n⟩
theorem Tryz.lays125:Go.Proofs.Lays.n125 Tryz.prog Tryz.lays125_ren:={
  mixed:=by kernel_rfl
  f125:=Tryz.func129.trans (congrArg some (by kernel_rfl))
  f128:=Tryz.func178.trans (congrArg some (by kernel_rfl))
  f129:=Tryz.func179.trans (congrArg some (by kernel_rfl))
  t3:=Tryz.underlying3
  a3:=Tryz.isAgg3
  z3:=Tryz.sizeOf3
  v3:=Tryz.zeroValue3
  t4:=Tryz.underlying4
  a4:=Tryz.isAgg4
  z4:=Tryz.sizeOf4
  v4:=Tryz.zeroValue4
  t5:=Tryz.underlying5
  a5:=Tryz.isAgg5
  z5:=Tryz.sizeOf5
  v5:=Tryz.zeroValue5
  t9:=Tryz.underlying9
  a9:=Tryz.isAgg9
  z9:=Tryz.sizeOf9
  v9:=Tryz.zeroValue9
  t46:=Tryz.underlying208
  a46:=Tryz.isAgg208
  z46:=Tryz.sizeOf208
  v46:=Tryz.zeroValue208
  t51:=Tryz.underlying229
  a51:=Tryz.isAgg229
  z51:=Tryz.sizeOf229
  v51:=Tryz.zeroValue229
  t53:=Tryz.underlying257
  a53:=Tryz.isAgg257
  z53:=Tryz.sizeOf257
  v53:=Tryz.zeroValue257 }
theorem Tryz.bits_Len (x:Int) (w:World) (h0:0≤x) (h1:x≤18446744073709551615) :
    Calls Tryz.prog 129 #[.int .u64 x] w fun e w'=>e=.returned (.int .i64 (Lib.bitLen x.toNat))∧w'=w:=Any.bits_Len Tryz.lays125 x w h0 h1
def Tryz.lays122_ren:Go.Shelf.Ren:=⟨fun|122=>141|215=>188|n=>n,fun|3=>3|4=>4|n=>n,fun|n=>n⟩
theorem Tryz.lays122:Go.Proofs.Lays.n122 Tryz.prog Tryz.lays122_ren:={
  mixed:=by kernel_rfl
  f122:=Tryz.func141.trans (congrArg some (by kernel_rfl))
  f215:=Tryz.func188.trans (congrArg some (by kernel_rfl))
  t3:=Tryz.underlying3
  a3:=Tryz.isAgg3
  z3:=Tryz.sizeOf3
  v3:=Tryz.zeroValue3
  t4:=Tryz.underlying4
  a4:=Tryz.isAgg4
  z4:=Tryz.sizeOf4
  v4:=Tryz.zeroValue4 }
open Go.RowKit in
theorem Tryz.cmp_Compare_int (x y:Int) (w:World) :
    Calls Tryz.prog 141 #[.int .i64 x,.int .i64 y] w fun e w'=>e=.returned (.int .i64 (Lib.compareInt x y))∧w'=w:=Any.cmp_Compare_int Tryz.lays122 x y w
def Tryz.lays105_ren:Go.Shelf.Ren:=⟨fun|105=>69|212=>119|99=>120|165=>121|166=>122|170=>123|169=>124|263=>172|264=>173|206=>174|240=>175|241=>176|276=>200|277=>201|n=>n,fun|9=>9|3=>3|4=>4|20=>20|0=>0|46=>208|109=>209|5=>5|72=>215|76=>219|51=>229|146=>267|53=>257|148=>269|70=>212|37=>213|75=>218|127=>271|164=>303|80=>82|n=>n,fun|n=>n⟩
theorem Tryz.lays105:Go.Proofs.Lays.n105 Tryz.prog Tryz.lays105_ren:={
  mixed:=by kernel_rfl
  f99:=Tryz.func120.trans (congrArg some (by kernel_rfl))
  f105:=Tryz.func69.trans (congrArg some (by kernel_rfl))
  f165:=Tryz.func121.trans (congrArg some (by kernel_rfl))
  f166:=Tryz.func122.trans (congrArg some (by kernel_rfl))
  f169:=Tryz.func124.trans (congrArg some (by kernel_rfl))
  f170:=Tryz.func123.trans (congrArg some (by kernel_rfl))
  f206:=Tryz.func174.trans (congrArg some (by kernel_rfl))
  f212:=Tryz.func119.trans (congrArg some (by kernel_rfl))
  f240:=Tryz.func175.trans (congrArg some (by kernel_rfl))
  f241:=Tryz.func176.trans (congrArg some (by kernel_rfl))
  f263:=Tryz.func172.trans (congrArg some (by kernel_rfl))
  f264:=Tryz.func173.trans (congrArg some (by kernel_rfl))
  f276:=Tryz.func200.trans (congrArg some (by kernel_rfl))
  f277:=Tryz.func201.trans (congrArg some (by kernel_rfl))
  t0:=Tryz.underlying0
  a0:=Tryz.isAgg0
  z0:=Tryz.sizeOf0
  v0:=Tryz.zeroValue0
  t3:=Tryz.underlying3
  a3:=Tryz.isAgg3
  z3:=Tryz.sizeOf3
  v3:=Tryz.zeroValue3
  t4:=Tryz.underlying4
  a4:=Tryz.isAgg4
  z4:=Tryz.sizeOf4
  v4:=Tryz.zeroValue4
  t5:=Tryz.underlying5
  a5:=Tryz.isAgg5
  z5:=Tryz.sizeOf5
  v5:=Tryz.zeroValue5
  t9:=Tryz.underlying9
  a9:=Tryz.isAgg9
  z9:=Tryz.sizeOf9
  v9:=Tryz.zeroValue9
  t20:=Tryz.underlying20
  a20:=Tryz.isAgg20
  z20:=Tryz.sizeOf20
  v20:=Tryz.zeroValue20
  t37:=Tryz.underlying213
  a37:=Tryz.isAgg213
  z37:=Tryz.sizeOf213
  v37:=Tryz.zeroValue213
  t46:=Tryz.underlying208
  a46:=Tryz.isAgg208
  z46:=Tryz.sizeOf208
  v46:=Tryz.zeroValue208
  t51:=Tryz.underlying229
  a51:=Tryz.isAgg229
  z51:=Tryz.sizeOf229
  v51:=Tryz.zeroValue229
  t53:=Tryz.underlying257
  a53:=Tryz.isAgg257
  z53:=Tryz.sizeOf257
  v53:=Tryz.zeroValue257
  t70:=Tryz.underlying212
  a70:=Tryz.isAgg212
  z70:=Tryz.sizeOf212
  v70:=Tryz.zeroValue212
  t72:=Tryz.underlying215
  a72:=Tryz.isAgg215
  z72:=Tryz.sizeOf215
  v72:=Tryz.zeroValue215
  t75:=Tryz.underlying218
  a75:=Tryz.isAgg218
  z75:=Tryz.sizeOf218
  v75:=Tryz.zeroValue218
  t76:=Tryz.underlying219
  a76:=Tryz.isAgg219
  z76:=Tryz.sizeOf219
  v76:=Tryz.zeroValue219
  t109:=Tryz.underlying209
  a109:=Tryz.isAgg209
  z109:=Tryz.sizeOf209
  v109:=Tryz.zeroValue209
  t127:=Tryz.underlying271
  a127:=Tryz.isAgg271
  z127:=Tryz.sizeOf271
  v127:=Tryz.zeroValue271
  t146:=Tryz.underlying267
  a146:=Tryz.isAgg267
  z146:=Tryz.sizeOf267
  v146:=Tryz.zeroValue267
  t148:=Tryz.underlying269
  a148:=Tryz.isAgg269
  z148:=Tryz.sizeOf269
  v148:=Tryz.zeroValue269
  t164:=Tryz.underlying303
  a164:=Tryz.isAgg303
  z164:=Tryz.sizeOf303
  v164:=Tryz.zeroValue303 }
theorem Tryz.Builder_Extra_105:Builder.Extra Tryz.prog Tryz.lays105_ren:={
  sizeBuilder:=by kernel_rfl
  liesBuilder:=by kernel_rfl
  t5:=Tryz.underlying5
  a5:=Tryz.isAgg5
  z5:=Tryz.sizeOf5
  v5:=Tryz.zeroValue5
  infoByte:=by kernel_rfl
  cellsByte:=by kernel_rfl
  sizeByte:=by kernel_rfl
  neB5:=by decide }
open Go.RowKit Go.Lib in
theorem Tryz.strings_Repeat_main (s:ByteArray) (c:Nat) (w:World) (hc2:2≤c) (hc:c≤9223372036854775807) (hlen:s.size*c≤140737488355328) (h0:0<s.size) :
    Calls Tryz.prog 69 #[.string s,.int .i64 c] w fun e w'=>e=.returned (.string ⟨(Lib.repeatL s.data.toList c).toArray⟩)∧Below w.heap.size w w':=Any.strings_Repeat_main Tryz.lays105 Tryz.Builder_Extra_105 s c w hc2 hc hlen h0
def Tryz.lays193_ren:Go.Shelf.Ren:=⟨fun|193=>164|n=>n,fun|31=>53|9=>9|4=>4|3=>3|0=>0|n=>n,fun|n=>n⟩
theorem Tryz.lays193:Go.Proofs.Lays.n193 Tryz.prog Tryz.lays193_ren:={
  mixed:=by kernel_rfl
  f193:=Tryz.func164.trans (congrArg some (by kernel_rfl))
  t0:=Tryz.underlying0
  a0:=Tryz.isAgg0
  z0:=Tryz.sizeOf0
  v0:=Tryz.zeroValue0
  t3:=Tryz.underlying3
  a3:=Tryz.isAgg3
  z3:=Tryz.sizeOf3
  v3:=Tryz.zeroValue3
  t4:=Tryz.underlying4
  a4:=Tryz.isAgg4
  z4:=Tryz.sizeOf4
  v4:=Tryz.zeroValue4
  t9:=Tryz.underlying9
  a9:=Tryz.isAgg9
  z9:=Tryz.sizeOf9
  v9:=Tryz.zeroValue9
  t31:=Tryz.underlying53
  a31:=Tryz.isAgg53
  z31:=Tryz.sizeOf53
  v31:=Tryz.zeroValue53 }
open Go.RowKit Go.Lib in
theorem Tryz.slices_Equal_string (b1 o1 n c b2 o2 m d:Nat) (xs ys:List ByteArray) (w:World) (hx:n≤xs.length) (hy:m≤ys.length) (hbig:n≤9223372036854775807) (hbig2:m≤9223372036854775807) (hc1:∀ j,j<xs.length→w.cell? ⟨b1,o1+j,none⟩=some (.string (xs.getD j ByteArray.empty))) (hc2:∀ j,j<ys.length→w.cell? ⟨b2,o2+j,none⟩=some (.string (ys.getD j ByteArray.empty))) :
    Calls Tryz.prog 164 #[.slice (some ⟨b1,o1,none⟩) n c,.slice (some ⟨b2,o2,none⟩) m d] w fun e w'=>e=.returned (.bool (decide (xs.take n=ys.take m)))∧∃ q,w'=w.drewN q:=Any.slices_Equal_string Tryz.lays193 b1 o1 n c b2 o2 m d xs ys w hx hy hbig hbig2 hc1 hc2
open Go.RowKit Go.Lib in
theorem Tryz.slices_Equal_string_empty (a1 a2:Option Addr) (c m d:Nat) (w:World) (hbig2:m≤9223372036854775807) :
    Calls Tryz.prog 164 #[.slice a1 0 c,.slice a2 m d] w fun e w'=>e=.returned (.bool (decide (m=0)))∧w'=w:=Any.slices_Equal_string_empty Tryz.lays193 a1 a2 c m d w hbig2
def Tryz.laysNm217_ren:Go.Shelf.Ren:=⟨fun|17=>74|n=>n,fun|24=>53|9=>9|3=>3|4=>4|0=>0|n=>n,fun|n=>n⟩
theorem Tryz.laysNm217:Go.Proofs.Lays2.n17 Tryz.prog Tryz.laysNm217_ren:={
  mixed:=by kernel_rfl
  f17:=Tryz.func74.trans (congrArg some (by kernel_rfl))
  t0:=Tryz.underlying0
  a0:=Tryz.isAgg0
  z0:=Tryz.sizeOf0
  v0:=Tryz.zeroValue0
  t3:=Tryz.underlying3
  a3:=Tryz.isAgg3
  z3:=Tryz.sizeOf3
  v3:=Tryz.zeroValue3
  t4:=Tryz.underlying4
  a4:=Tryz.isAgg4
  z4:=Tryz.sizeOf4
  v4:=Tryz.zeroValue4
  t9:=Tryz.underlying9
  a9:=Tryz.isAgg9
  z9:=Tryz.sizeOf9
  v9:=Tryz.zeroValue9
  t24:=Tryz.underlying53
  a24:=Tryz.isAgg53
  z24:=Tryz.sizeOf53
  v24:=Tryz.zeroValue53 }
open Go.RowKit Go.Lib Go.Sort in
theorem Tryz.slices_Reverse_string_empty (a:Option Addr) (cap:Nat) (w:World) :
    Calls Tryz.prog 74 #[.slice a 0 cap] w fun e w'=>e=.returned (.tuple #[])∧w'=w:=Any.slices_Reverse_string_empty Tryz.laysNm217 a cap w
open Go.RowKit Go.Lib Go.Sort in
theorem Tryz.slices_Reverse_string_cells (b off n c:Nat) (Sx:Nat→ByteArray) (w:World) (hbig:n≤9223372036854775807) (hc:∀ i,i<n→w.cell? ⟨b,off+i,none⟩=some (.string (Sx i))) (hf:∀ j,j<n→w.frozen? ⟨b,off+j,none⟩=false) :
    Calls Tryz.prog 74 #[.slice (some ⟨b,off,none⟩) n c] w fun e w'=>e=.returned (.tuple #[])∧∃ q,w'=(w.drewN q).setCells b off ((Lib.strsOf Sx n).reverse.map encStr):=Any.slices_Reverse_string_cells Tryz.laysNm217 b off n c Sx w hbig hc hf
end Go.Proofs
namespace Go.Proofs.YtimoapjhepmehaaGreatDoor
open Go.RowKit
def Strs (S:Nat→Prop) (w:World) (v:Value) (l:List ByteArray):Prop:=
  ∃ A c,v=.slice A l.length c∧l.length≤c∧(0<l.length→∃ b off,A=some ⟨b,off,none⟩∧S b∧∀ j x,l[j]? = some x→w.cell? ⟨b,off+j,none⟩=some (.string x))
section
variable {S S':Nat→Prop} {w w':World} {v:Value} {l:List ByteArray}
theorem Strs.keep (h:Strs S w v l) (hk:∀ b,S b→b<w.heap.size→w'.heap[b]? = w.heap[b]?):Strs S w' v l:=by
  obtain ⟨A,c,rfl,hc,h⟩:=h
  refine ⟨A,c,rfl,hc,fun h0=>?_⟩
  obtain ⟨b,off,hA,hS,hcell⟩:=h h0
  refine ⟨b,off,hA,hS,fun j x hx=>?_⟩
  have h1:=hcell j x hx
  exact (World.cell?_of_block (a:=⟨b,off+j,none⟩) (hk b hS (lt_of_cell (p:=⟨b,off+j,none⟩) h1))).trans h1
theorem Strs.below (h:Strs S w v l) (hb:Below w.heap.size w w'):Strs S w' v l:=h.keep fun b _ hlt=>hb.block b hlt
theorem Strs.mono (h:Strs S w v l) (hS:∀ b,S b→b<w.heap.size→S' b):Strs S' w v l:=by
  obtain ⟨A,c,rfl,hc,h⟩:=h
  refine ⟨A,c,rfl,hc,fun h0=>?_⟩
  obtain ⟨b,off,hA,hb,hcell⟩:=h h0
  exact ⟨b,off,hA,hS b hb (by
    have h1:=hcell 0 _ (List.getElem?_eq_getElem h0)
    exact lt_of_cell (p:=⟨b,off+0,none⟩) h1),hcell⟩
theorem Strs.nil_ (S:Nat→Prop) (w:World):Strs S w (.slice none 0 0) []:=⟨none,0,rfl,Nat.le_refl _,fun h=>absurd h (by simp)⟩
theorem Strs.at_ (h:Strs S w v l) {k:Nat} (hk:k<l.length):∃ b off c,v=.slice (some ⟨b,off,none⟩) l.length c∧l.length≤c∧S b∧w.cell? ⟨b,off+k,none⟩=some (.string (l.getD k ⟨#[]⟩)):=by
  obtain ⟨A,c,rfl,hc,h⟩:=h
  obtain ⟨b,off,rfl,hS,hcell⟩:=h (by omega)
  refine ⟨b,off,c,rfl,hc,hS,?_⟩
  rw [hcell k _ (List.getElem?_eq_getElem hk)]
  simp [hk]
end
end Go.Proofs.YtimoapjhepmehaaGreatDoor
namespace Go.Proofs.YtimoapjhepmehaaGreatDoor
open Go.RowKit
def getI:List (Int × Value)→Int→Option Value
  | [],_=>none
  | p::r,k=>if p.1=k then some p.2 else getI r k
def setI:List (Int × Value)→Int→Value→List (Int × Value)
  | [],k,v=>[(k,v)]
  | p::r,k,v=>if p.1=k then (k,v)::r else p::setI r k v
def findI:List (Int × Value)→Int→Nat→Option (Nat × Value)
  | [],_,_=>none
  | p::r,k,i=>if p.1=k then some (i,p.2) else findI r k (i+1)
theorem findI_get (kv:List (Int × Value)) (k:Int):∀ i,(findI kv k i).map (·.2)=getI kv k:=by
  induction kv with
  | nil=>intro i;rfl
  | cons p r ih=>
    intro i
    unfold findI getI
    split
    · rfl
    · exact ih (i+1)
theorem findI_none (kv:List (Int × Value)) (k:Int):∀ i,getI kv k=none→findI kv k i=none:=by
  intro i h
  have h1:=findI_get kv k i
  rw [h] at h1
  cases hf:findI kv k i with
  | none=>rfl
  | some x=>rw [hf] at h1;cases h1
theorem findI_some (kv:List (Int × Value)) (k:Int) (v:Value) (h:getI kv k=some v):∀ i,∃ j,findI kv k i=some (i+j,v)∧kv[j]? = some (k,v)∧∀ u,setI kv k u=kv.set j (k,u):=by
  induction kv with
  | nil=>cases h
  | cons p r ih=>
    intro i
    unfold getI at h
    by_cases hp:p.1=k
    · rw [if_pos hp] at h
      cases h
      exact ⟨0,by simp [findI,hp],by simp [← hp],fun u=>by simp [setI,hp]⟩
    · rw [if_neg hp] at h
      obtain ⟨j,h1,h2,h3⟩:=ih h (i+1)
      exact ⟨j+1,by simp [findI,hp,h1];omega,by simpa using h2,fun u=>by simp [setI,hp,h3]⟩
theorem setI_none (kv:List (Int × Value)) (k:Int) (v:Value) (h:getI kv k=none):setI kv k v=kv++[(k,v)]:=by
  induction kv with
  | nil=>rfl
  | cons p r ih=>
    unfold getI at h
    by_cases hp:p.1=k
    · rw [if_pos hp] at h;cases h
    · rw [if_neg hp] at h
      simp [setI,hp,ih h]
def MapI (w:World) (g:Nat) (kv:List (Int × Value)):Prop:=∃ es c,MapAt w g es c∧es.toList.map (fun e=>(e.key,e.val))=kv.map (fun p=>(Value.int .i64 p.1,p.2))
section
variable {P:Program} {w W:World} {g:Nat} {kv:List (Int × Value)}
theorem MapI.ext (h:MapI w g kv) (k:Below w.heap.size w W):MapI W g kv:=by
  obtain ⟨es,c,h,e⟩:=h
  exact ⟨es,c,h.ext k,e⟩
theorem MapI.new (w:World):MapI (w.alloc (.map #[] 0)) w.heap.size []:=⟨#[],0,MapAt.new w,rfl⟩
theorem findNow_I (kd:IntKind) (k:Int):∀ (kv:List (Int × Value)) (es:List MapEntry) (i:Nat),es.map (fun e=>(e.key,e.val))=kv.map (fun p=>(Value.int .i64 p.1,p.2)) →
    Instr.findNow (.int kd) (.int .i64 k) es i=some (findI kv k i):=by
  intro kv
  induction kv with
  | nil=>
    intro es i h
    cases es with
    | nil=>rfl
    | cons e r=>cases h
  | cons p r ih=>
    intro es i h
    cases es with
    | nil=>cases h
    | cons e es=>
      simp only [List.map_cons,List.cons.injEq,Prod.mk.injEq] at h
      obtain ⟨⟨hk,hv⟩,ht⟩:=h
      unfold Instr.findNow findI
      have hs:Instr.sameNow (.int kd) (.int .i64 k) (.int .i64 p.1)=some (k == p.1):=by simp [Instr.sameNow]
      rw [hk,hs]
      by_cases hp:p.1=k
      · rw [if_pos hp,show (k == p.1)=true by simp [hp]]
        simp [hv]
      · rw [if_neg hp,show (k == p.1)=false by simp;omega]
        exact ih es (i+1) ht
theorem findKey_I {K:TypeId} {kd:IntKind} (hK:P.underlying K=some (.int kd)) (k:Int) (kv:List (Int × Value)) (es:List MapEntry) (h:es.map (fun e=>(e.key,e.val))=kv.map (fun p=>(Value.int .i64 p.1,p.2))) :
    (Instr.findKey K (.int .i64 k) es).run P w=.ok (findI kv k 0) w:=by
  have h1:=findNow_I kd k kv es 0 h
  simp [Instr.findKey,run_underlying hK,Result.andThen,h1]
theorem checkKey_I {K:TypeId} {kd:IntKind} (hK:P.underlying K=some (.int kd)) (k:Int) (b:Bool):(Instr.checkKey b 10000 K (.int .i64 k)).run P w=.ok () w:=by
  unfold Instr.checkKey
  simp [run_underlying hK,Result.andThen]
theorem lookup_I {T K E:TypeId} {kd:IntKind} (hT:P.underlying T=some (.map K E)) (hK:P.underlying K=some (.int kd)) (h:MapI w g kv) (k:Int) {z:Value} (hz:(zeroValue E).run P w=.ok z w) :
    (Instr.lookup T (.map (some g)) (.int .i64 k) false).run P w=.ok ((getI kv k).getD z) w:=by
  obtain ⟨es,c,h,e⟩:=h
  have hg:=getM (P:=P) h
  have hck:=fun b=>checkKey_I (P:=P) (w:=w) hK k b
  have hf:=findKey_I (P:=P) (w:=w) hK k kv es.toList e
  unfold Instr.lookup
  have h1:=findI_get kv k 0
  cases hc:findI kv k 0 with
  | none=>
    rw [hc] at hf h1
    rw [← h1]
    simp [run_underlying hT,Result.andThen,hg,hck,hf,hz]
  | some x=>
    rw [hc] at hf h1
    rw [← h1]
    obtain ⟨i,v⟩:=x
    simp [run_underlying hT,Result.andThen,hg,hck,hf]
theorem lookup_Iok {T K E:TypeId} {kd:IntKind} (hT:P.underlying T=some (.map K E)) (hK:P.underlying K=some (.int kd)) (h:MapI w g kv) (k:Int) {z:Value} (hz:(zeroValue E).run P w=.ok z w) :
    (Instr.lookup T (.map (some g)) (.int .i64 k) true).run P w=.ok (.tuple #[(getI kv k).getD z,.bool (getI kv k).isSome]) w:=by
  obtain ⟨es,c,h,e⟩:=h
  have hg:=getM (P:=P) h
  have hck:=fun b=>checkKey_I (P:=P) (w:=w) hK k b
  have hf:=findKey_I (P:=P) (w:=w) hK k kv es.toList e
  unfold Instr.lookup
  have h1:=findI_get kv k 0
  cases hc:findI kv k 0 with
  | none=>
    rw [hc] at hf h1
    rw [← h1]
    simp [run_underlying hT,Result.andThen,hg,hck,hf,hz]
  | some x=>
    rw [hc] at hf h1
    rw [← h1]
    obtain ⟨i,v⟩:=x
    simp [run_underlying hT,Result.andThen,hg,hck,hf]
theorem update_I {T K E:TypeId} {kd:IntKind} (hT:P.underlying T=some (.map K E)) (hK:P.underlying K=some (.int kd)) (h:MapI w g kv) (k:Int) (v:Value) :
    ∃ o,(Instr.mapUpdate T (.map (some g)) (.int .i64 k) v).run P w=.ok () (w.putObj g o)∧MapI (w.putObj g o) g (setI kv k v):=by
  obtain ⟨es,c,h,e⟩:=h
  have hg:=getM (P:=P) h
  have hck:=checkKey_I (P:=P) (w:=w) hK k false
  have hf:=findKey_I (P:=P) (w:=w) hK k kv es.toList e
  have hs:=fun o=>setM (P:=P) o h
  cases hc:getI kv k with
  | none=>
    rw [findI_none kv k 0 hc] at hf
    refine ⟨.map (es.push ⟨.int .i64 k,v,c⟩) (c+1),?_,_,_,h.put _ _,?_⟩
    · unfold Instr.mapUpdate
      simp [run_underlying hT,Result.andThen,hg,hck,hf,hs]
    · rw [setI_none kv k v hc]
      simp [e]
  | some x=>
    obtain ⟨j,h1,h2,h3⟩:=findI_some kv k x hc 0
    rw [h1] at hf
    rw [Nat.zero_add] at hf
    have hj:(es.toList.map (fun e=>(e.key,e.val)))[j]? = some (.int .i64 k,x):=by rw [e,List.getElem?_map,h2];rfl
    rw [List.getElem?_map,Option.map_eq_some_iff] at hj
    obtain ⟨en,hen,hek⟩:=hj
    have hen':es[j]? = some en:=by simpa using hen
    have hkk:en.key=.int .i64 k:=congrArg Prod.fst hek
    have hsb:Instr.sameBits 10000 (.int .i64 k) (.int .i64 k)=true:=by unfold Instr.sameBits;simp
    refine ⟨.map (es.modify j fun e=>{ e with key:=.int .i64 k,val:=v }) c,?_,_,_,h.put _ _,?_⟩
    · unfold Instr.mapUpdate Instr.keyThatStays
      simp [run_underlying hT,Result.andThen,hg,hck,hf,hs,hen',hkk,hsb]
    · rw [h3]
      apply List.ext_getElem?
      intro i
      have ei:(es.toList.map (fun e=>(e.key,e.val)))[i]? = (kv.map (fun p=>(Value.int .i64 p.1,p.2)))[i]? := by rw [e]
      simp only [List.getElem?_map,Array.toList_modify,List.getElem?_modify,List.getElem?_set] at ei ⊢
      by_cases hij:j=i
      · subst hij
        have hlt:j<kv.length:=(List.getElem?_eq_some_iff.1 h2).1
        simp [hen',hlt]
      · simp [hij] at ei ⊢
        exact ei
end
end Go.Proofs.YtimoapjhepmehaaGreatDoor
namespace Go.Proofs.YtimoapjhepmehaaGreatDoor
open Go.RowKit
structure NodesOK (ns:List Nat):Prop where
  some_:0<ns.length
  few:ns.length≤24
  below:∀ n ∈ ns,n<24
  asc:∀ (j a b:Nat),ns[j]? = some a→ns[j+1]? = some b→a<b
end Go.Proofs.YtimoapjhepmehaaGreatDoor
namespace Go.Proofs.YtimoapjhepmehaaGreatDoor
open Go.RowKit
end Go.Proofs.YtimoapjhepmehaaGreatDoor
namespace Go.Proofs.YtimoapjhepmehaaGreatDoor
end Go.Proofs.YtimoapjhepmehaaGreatDoor
