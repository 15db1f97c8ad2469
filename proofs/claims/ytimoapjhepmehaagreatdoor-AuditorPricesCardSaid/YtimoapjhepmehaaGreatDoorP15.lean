/-
  Part 15 of 54: the contracts that the proof of the last part uses; each stands under its own head.
-/
import Derived.Test.YtimoapjhepmehaaGreatDoorP13
import Derived.Test.YtimoapjhepmehaaGreatDoorP8
import Derived.Test.YtimoapjhepmehaaGreatDoorP3
import Derived.BigQuiet
import Derived.Test.YtimoapjhepmehaaGreatDoorP6
set_option linter.unusedSimpArgs false
set_option linter.unusedVariables false
set_option maxHeartbeats 4000000
set_option maxRecDepth 100000
namespace Go.Proofs.YtimoapjhepmehaaGreatDoor
section
open Go.RowKit Go.Shelf Go.Lib Go.Sort
attribute [local go_sem ↓] Go.wp_at_zero Go.wp_at_succ
theorem rowValueA (r:RowT) (j:Nat) (hj:j<4) (w:World) :
    Calls Tryz.prog 89 #[.agg #[.int .i64 r.t,.int .i64 r.k,.int .i64 r.a,.int .i64 r.b,.int .i64 r.c],.int .i64 (j:Int)] w fun e w'=>e=.returned (.int .i64 (r.col j))∧w'=w.alloc (.cells #[.int .i64 r.t,.int .i64 r.k,.int .i64 r.a,.int .i64 r.b,.int .i64 r.c] 67):=by
  obtain ⟨t,k,a,b,c⟩:=r
  match j,hj with
  | 0,_=>
    go_enter Tryz.func89,Tryz.ntmps89
    go_wp2
    go_ret
    exact ⟨rfl,rfl⟩
  | 1,_=>
    go_enter Tryz.func89,Tryz.ntmps89
    go_wp2
    go_ret
    exact ⟨rfl,rfl⟩
  | 2,_=>
    go_enter Tryz.func89,Tryz.ntmps89
    go_wp2
    go_ret
    exact ⟨rfl,rfl⟩
  | 3,_=>
    go_enter Tryz.func89,Tryz.ntmps89
    go_wp2
    go_ret
    exact ⟨rfl,rfl⟩
def GrowsFrom (X W:World):Prop:=∃ q os,W=grow (X.drewN q) os
section
variable {X W V:World}
theorem GrowsFrom.refl (X:World):GrowsFrom X X:=⟨0,#[],by rw [grow_empty];rfl⟩
theorem GrowsFrom.alloc (h:GrowsFrom X W) (o:Obj):GrowsFrom X (W.alloc o):=by
  obtain ⟨q,os,rfl⟩:=h
  exact ⟨q,os ++ #[o],by rw [alloc_eq_grow,grow_grow]⟩
theorem GrowsFrom.drew (h:GrowsFrom X W):GrowsFrom X W.drew:=by
  obtain ⟨q,os,rfl⟩:=h
  exact ⟨q+1,os,rfl⟩
theorem GrowsFrom.below (h:GrowsFrom X W):Below X.heap.size X W:=by
  obtain ⟨q,os,rfl⟩:=h
  exact ⟨rfl,rfl,rfl,by simp [grow,World.drewN],fun k hk=>by simp only [grow,World.drewN];rw [Array.getElem?_append_left hk]⟩
end
theorem cmpOr2 (b c:Nat) (x y r:Int) (hr:r=if x=0 then y else x) (w:World) (h0:w.cell? ⟨b,0,none⟩=some (.int .i64 x)) (h1:w.cell? ⟨b,1,none⟩=some (.int .i64 y)):Calls Tryz.prog 140 #[.slice (some ⟨b,0,none⟩) 2 c] w fun e w'=>e=.returned (.int .i64 r)∧w=w':=by
  have HR:=Lib.hid hr
  clear hr
  go_enter Tryz.func140,Tryz.ntmps140
  go_wp2
  refine wp_loop_rounds 3 ?_
  rw [rounds_succ]
  by_cases hx:x=0
  · subst hx
    go_wp2
    rw [rounds_succ]
    by_cases hy:y=0
    · subst hy
      go_wp2
      rw [rounds_succ]
      go_wp2
      go_ret
      exact ⟨by rw [HR.out];simp,rfl⟩
    · go_wp2
      go_ret
      exact ⟨by rw [HR.out];simp,rfl⟩
  · go_wp2
    go_ret
    exact ⟨by rw [HR.out];simp [hx],rfl⟩
def cmpR (j:Nat) (x y:RowT):Int:=if compareInt (x.col j) (y.col j)=0 then compareInt x.k y.k else compareInt (x.col j) (y.col j)
def encR (r:RowT):List Value:=[.int .i64 r.t,.int .i64 r.k,.int .i64 r.a,.int .i64 r.b,.int .i64 r.c]
theorem cmpKeep {X V:World} {bc b d:Nat} {j t1 k1 a1 b1 c1 t2 k2 a2 b2 c2:Int} (h:X.cell? ⟨bc,0,none⟩=some (.int .i64 j)∧X.cell? ⟨b,0,none⟩=some (.int .i64 t1)∧X.cell? ⟨b,1,none⟩=some (.int .i64 k1)∧X.cell? ⟨b,2,none⟩=some (.int .i64 a1)∧X.cell? ⟨b,3,none⟩=some (.int .i64 b1)∧X.cell? ⟨b,4,none⟩=some (.int .i64 c1)∧X.cell? ⟨d,0,none⟩=some (.int .i64 t2)∧X.cell? ⟨d,1,none⟩=some (.int .i64 k2)∧X.cell? ⟨d,2,none⟩=some (.int .i64 a2)∧X.cell? ⟨d,3,none⟩=some (.int .i64 b2)∧X.cell? ⟨d,4,none⟩=some (.int .i64 c2)) (k:GrowsFrom X V):V.cell? ⟨bc,0,none⟩=some (.int .i64 j)∧V.cell? ⟨b,0,none⟩=some (.int .i64 t1)∧V.cell? ⟨b,1,none⟩=some (.int .i64 k1)∧V.cell? ⟨b,2,none⟩=some (.int .i64 a1)∧V.cell? ⟨b,3,none⟩=some (.int .i64 b1)∧V.cell? ⟨b,4,none⟩=some (.int .i64 c1)∧V.cell? ⟨d,0,none⟩=some (.int .i64 t2)∧V.cell? ⟨d,1,none⟩=some (.int .i64 k2)∧V.cell? ⟨d,2,none⟩=some (.int .i64 a2)∧V.cell? ⟨d,3,none⟩=some (.int .i64 b2)∧V.cell? ⟨d,4,none⟩=some (.int .i64 c2)∧GrowsFrom X V:=by
  obtain ⟨h0,h1,h2,h3,h4,h5,h6,h7,h8,h9,h10⟩:=h
  have e:=k.below
  exact ⟨cell_ext h0 e,cell_ext h1 e,cell_ext h2 e,cell_ext h3 e,cell_ext h4 e,cell_ext h5 e,cell_ext h6 e,cell_ext h7 e,cell_ext h8 e,cell_ext h9 e,cell_ext h10 e,k⟩
theorem cmpGrow {X V:World} {bc b d:Nat} {j t1 k1 a1 b1 c1 t2 k2 a2 b2 c2:Int} (h:V.cell? ⟨bc,0,none⟩=some (.int .i64 j)∧V.cell? ⟨b,0,none⟩=some (.int .i64 t1)∧V.cell? ⟨b,1,none⟩=some (.int .i64 k1)∧V.cell? ⟨b,2,none⟩=some (.int .i64 a1)∧V.cell? ⟨b,3,none⟩=some (.int .i64 b1)∧V.cell? ⟨b,4,none⟩=some (.int .i64 c1)∧V.cell? ⟨d,0,none⟩=some (.int .i64 t2)∧V.cell? ⟨d,1,none⟩=some (.int .i64 k2)∧V.cell? ⟨d,2,none⟩=some (.int .i64 a2)∧V.cell? ⟨d,3,none⟩=some (.int .i64 b2)∧V.cell? ⟨d,4,none⟩=some (.int .i64 c2)∧GrowsFrom X V):GrowsFrom X V:=h.2.2.2.2.2.2.2.2.2.2.2
theorem cmpRow (x y:RowT) (j:Nat) (hj:j<4) (bc:Nat) (W:World) (hc:W.cell? ⟨bc,0,none⟩=some (.int .i64 (j:Int))) :
    Calls Tryz.prog 139 #[.agg #[.int .i64 x.t,.int .i64 x.k,.int .i64 x.a,.int .i64 x.b,.int .i64 x.c],.agg #[.int .i64 y.t,.int .i64 y.k,.int .i64 y.a,.int .i64 y.b,.int .i64 y.c],.pointer (some ⟨bc,0,none⟩)] W fun e w'=>e=.returned (.int .i64 (cmpR j x y))∧GrowsFrom W w':=by
  have HV1:=Lib.hid (fun W:World=>rowValueA x j hj W)
  have HV2:=Lib.hid (fun W:World=>rowValueA y j hj W)
  have HR:=Lib.hid (show cmpR j x y=if compareInt (x.col j) (y.col j)=0 then compareInt x.k y.k else compareInt (x.col j) (y.col j) from rfl)
  generalize cmpR j x y=r at HR ⊢
  generalize x.col j=v1 at *
  generalize y.col j=v2 at *
  obtain ⟨t1,k1,a1,b1,c1⟩:=x
  obtain ⟨t2,k2,a2,b2,c2⟩:=y
  dsimp only at *
  obtain ⟨X,hX⟩:∃ X,X=(W.alloc (.cells #[.int .i64 t1,.int .i64 k1,.int .i64 a1,.int .i64 b1,.int .i64 c1] 67)).alloc (.cells #[.int .i64 t2,.int .i64 k2,.int .i64 a2,.int .i64 b2,.int .i64 c2] 67):=⟨_,rfl⟩
  have HX:=Lib.hid hX
  have h1:Blk X W.heap.size 67 #[.int .i64 t1,.int .i64 k1,.int .i64 a1,.int .i64 b1,.int .i64 c1]:=by rw [hX];exact (Blk.new _ _ _).alloc _
  have h2:Blk X (W.heap.size+1) 67 #[.int .i64 t2,.int .i64 k2,.int .i64 a2,.int .i64 b2,.int .i64 c2]:=by rw [hX];exact Blk.new' _ _ _ (by simp)
  have hcX:X.cell? ⟨bc,0,none⟩=some (.int .i64 (j:Int)):=by rw [hX];exact cell_ext hc (ext_alloc (ext_new W _) _)
  generalize (j:Int)=j at *
  have HK:=Lib.hid (show X.cell? ⟨bc,0,none⟩=some (.int .i64 j)∧X.cell? ⟨W.heap.size,0,none⟩=some (.int .i64 t1)∧X.cell? ⟨W.heap.size,1,none⟩=some (.int .i64 k1)∧X.cell? ⟨W.heap.size,2,none⟩=some (.int .i64 a1)∧X.cell? ⟨W.heap.size,3,none⟩=some (.int .i64 b1)∧X.cell? ⟨W.heap.size,4,none⟩=some (.int .i64 c1)∧X.cell? ⟨W.heap.size+1,0,none⟩=some (.int .i64 t2)∧X.cell? ⟨W.heap.size+1,1,none⟩=some (.int .i64 k2)∧X.cell? ⟨W.heap.size+1,2,none⟩=some (.int .i64 a2)∧X.cell? ⟨W.heap.size+1,3,none⟩=some (.int .i64 b2)∧X.cell? ⟨W.heap.size+1,4,none⟩=some (.int .i64 c2) from ⟨hcX,h1.cell 0,h1.cell 1,h1.cell 2,h1.cell 3,h1.cell 4,h2.cell 0,h2.cell 1,h2.cell 2,h2.cell 3,h2.cell 4⟩)
  have HG:=Lib.hid (show GrowsFrom W X by rw [hX];exact ((GrowsFrom.refl W).alloc _).alloc _)
  have HCM:=Lib.hid (fun (x y:Int) (W:World)=>Tryz.cmp_Compare_int x y W)
  clear h1 h2 hcX hX hc
  go_enter Tryz.func139,Tryz.ntmps139
  go_upto_region 1 with (fail)
  rw [← HX.out]
  go_region_held3 (fun w'=>w'.cell? ⟨bc,0,none⟩=some (.int .i64 j)∧w'.cell? ⟨W.heap.size,0,none⟩=some (.int .i64 t1)∧w'.cell? ⟨W.heap.size,1,none⟩=some (.int .i64 k1)∧w'.cell? ⟨W.heap.size,2,none⟩=some (.int .i64 a1)∧w'.cell? ⟨W.heap.size,3,none⟩=some (.int .i64 b1)∧w'.cell? ⟨W.heap.size,4,none⟩=some (.int .i64 c1)∧w'.cell? ⟨W.heap.size+1,0,none⟩=some (.int .i64 t2)∧w'.cell? ⟨W.heap.size+1,1,none⟩=some (.int .i64 k2)∧w'.cell? ⟨W.heap.size+1,2,none⟩=some (.int .i64 a2)∧w'.cell? ⟨W.heap.size+1,3,none⟩=some (.int .i64 b2)∧w'.cell? ⟨W.heap.size+1,4,none⟩=some (.int .i64 c2)∧GrowsFrom X w')
    (first|with_reducible assumption|exact cmpKeep HK.out (by repeat (first|with_reducible refine GrowsFrom.alloc ?_ _|with_reducible refine GrowsFrom.drew ?_|with_reducible assumption|with_reducible exact GrowsFrom.refl _|exact cmpGrow (by assumption))))
    (first
      | (go_at_call 89;first|((with_reducible refine (HV1.out _).mono ?_);rintro e w' ⟨rfl,rfl⟩)|((with_reducible refine (HV2.out _).mono ?_);rintro e w' ⟨rfl,rfl⟩))
      | (go_at_call 141;(refine (HCM.out _ _ _).mono ?_);rintro e w' ⟨rfl,rfl⟩)
      | (go_at_call 140;refine (cmpOr2 _ _ (compareInt v1 v2) (compareInt k1 k2) r HR.out _ ?_ ?_).mono ?_;(exact (Blk.new' _ _ _ (by simp)).drew.cell 0);(exact (Blk.new' _ _ _ (by simp)).drew.cell 1);rintro e w' ⟨rfl,rfl⟩))
  go_wp2
  go_ret
  exact ⟨rfl,(((HG.out.alloc _).alloc _).alloc _).drew⟩
end
section
open Go.RowKit Go.Shelf Go.Lib Go.Sort
instance:Inhabited RowT:=⟨zeroR⟩
theorem encR_length (r:RowT):(encR r).length=5:=rfl
theorem encR_one (r:RowT):∀ v ∈ encR r,v.oneCell'=true:=by
  intro v hv
  simp only [encR,List.mem_cons,List.not_mem_nil,or_false] at hv
  rcases hv with rfl|rfl|rfl|rfl|rfl <;> rfl
theorem cmpR_lt (j:Nat) (x y:RowT):ltOf (cmpR j) x y=(decide (x.col j<y.col j) || (decide (x.col j=y.col j) && decide (x.k<y.k))):=by
  unfold ltOf cmpR compareInt
  by_cases h1:x.col j<y.col j
  · have h2:¬ x.col j=y.col j:=by omega
    simp [h1,h2]
  · by_cases h2:x.col j=y.col j
    · by_cases h3:x.k<y.k
      · simp [h2,h3]
      · by_cases h4:y.k<x.k <;> simp [h2,h3,h4]
    · have h3:x.col j > y.col j:=by omega
      simp [h1,h2,h3]
theorem cmpR_swo (j:Nat):SWO (ltOf (cmpR j)) where
  irrefl x:=by rw [cmpR_lt];simp
  trans x y z h1 h2:=by rw [cmpR_lt] at *;simp at *;omega
  ntrans x y z h1 h2:=by rw [cmpR_lt] at *;simp at *;omega
def RowsC (w:World) (g:Nat) (l:List RowT):Prop:=∀ (j:Nat) (r:RowT),l[j]? = some r→∀ i,i<5→w.cell? ⟨g,j*5+i,none⟩=(encR r)[i]?
theorem RowsC.ext {w W:World} {g:Nat} {l:List RowT} (h:RowsC w g l) (k:Below w.heap.size w W):RowsC W g l:=by
  intro j r hj i hi
  have h1:=h j r hj i hi
  rw [List.getElem?_eq_getElem (show i<(encR r).length from hi)] at h1 ⊢
  exact cell_ext h1 k
theorem rowsC_holds {w:World} {g:Nat} {l:List RowT} (h:RowsC w g l) (hf:∀ i,w.frozen? ⟨g,i,none⟩=false):HoldsK encR 5 w g 0 l.toArray:=by
  intro t ht
  rw [size_flatK] at ht
  rw [get_flatK _ _ _ _ ht,Nat.zero_add]
  refine ⟨?_,hf t⟩
  have hj:t / 5<l.length:=by simp at ht;omega
  have h1:=h (t / 5) _ (List.getElem?_eq_getElem hj) (t % 5) (Nat.mod_lt _ (by omega))
  have e:t / 5*5+t % 5=t:=by omega
  rw [e] at h1
  rw [h1]
  have e2:l.toArray[t / 5]! = l[t / 5]:=by rw [getElem!_pos l.toArray (t / 5) (by simpa using hj)];rfl
  rw [e2,List.getElem?_eq_getElem (show t % 5<(encR l[t / 5]).length from Nat.mod_lt _ (by omega)),getElem!_pos (encR l[t / 5]) (t % 5) (Nat.mod_lt _ (by omega))]
  rfl
theorem holds_rowsC {w:World} {g:Nat} {d:Array RowT} (h:HoldsK encR 5 w g 0 d):RowsC w g d.toList:=by
  intro j r hj i hi
  have hlt:=(List.getElem?_eq_some_iff.1 hj).1
  have hlt':j<d.size:=by simpa using hlt
  have h1:=(h (j*5+i) (by rw [size_flatK];omega)).1
  rw [get_flatK _ _ _ _ (by omega),Nat.zero_add] at h1
  have e1:(j*5+i) / 5=j:=by omega
  have e2:(j*5+i) % 5=i:=by omega
  rw [e1,e2] at h1
  rw [h1]
  have e3:d[j]! = r:=by
    rw [getElem!_pos d j hlt']
    have h3:=(List.getElem?_eq_some_iff.1 hj).2
    rw [← h3]
    simp
  rw [e3,List.getElem?_eq_getElem (show i<(encR r).length from hi),getElem!_pos (encR r) i hi]
  rfl
theorem sort_below {w w0:World} {g n:Nat} {d:Array RowT} {os:Array Obj} (h:Below w0.heap.size w0 w) (hg:w0.heap.size≤g):Below w0.heap.size w0 (sortWorldK encR 5 w g 0 n d os):=by
  refine ⟨h.os,h.tape,h.output,?_,fun k hk=>?_⟩
  · have:=h.size
    simp [sortWorldK,grow,putRowK,Sort.ahead]
    omega
  · have hk2:k<w.heap.size:=Nat.lt_of_lt_of_le hk h.size
    rw [← h.block k hk]
    simp only [sortWorldK,grow,putRowK,putRow,mapBlock,Sort.ahead]
    rw [Array.getElem?_append_left (by simpa using hk2),Array.getElem?_modify,if_neg (by omega)]
end
section
open Go.RowKit Go.Shelf
attribute [local go_sem ↓] app_exec app_sem Go.wp_at_zero Go.wp_at_succ
def rc (l:List RowT):List Value:=l.flatMap encR
theorem rc_length (l:List RowT):(rc l).length=l.length*5:=by
  induction l with
  | nil=>rfl
  | cons a r ih=>simp [rc,encR] at ih ⊢;omega
theorem rc_append (l:List RowT) (r:RowT):rc (l++[r])=rc l++encR r:=by simp [rc]
theorem rc_at:∀ (l:List RowT) (j:Nat) (x:RowT),l[j]? = some x→∀ i,i<5→(rc l)[j*5+i]? = (encR x)[i]?
  | [],j,x,h,i,hi=>by simp at h
  | y::l,0,x,h,i,hi=>by
    simp only [List.getElem?_cons_zero,Option.some.injEq] at h
    subst h
    simp only [rc,List.flatMap_cons,Nat.zero_mul,Nat.zero_add]
    rw [List.getElem?_append_left (show i<(encR y).length from hi)]
  | y::l,j+1,x,h,i,hi=>by
    have h1:=rc_at l j x (by simpa using h) i hi
    simp only [rc,List.flatMap_cons]
    rw [List.getElem?_append_right (by simp [encR];omega)]
    have e:(j+1)*5+i-(encR y).length=j*5+i:=by simp [encR];omega
    rw [e]
    exact h1
def RowsL (w:World) (v:Value) (l:List RowT):Prop:=∃ A c,v=.slice A l.length c∧(0<l.length→∃ g,A=some ⟨g,0,none⟩∧g<w.heap.size∧RowsC w g l)
theorem RowsL.ext {w W:World} {v:Value} {l:List RowT} (h:RowsL w v l) (k:Below w.heap.size w W):RowsL W v l:=by
  obtain ⟨A,c,rfl,h⟩:=h
  refine ⟨A,c,rfl,fun h0=>?_⟩
  obtain ⟨g,hA,hg,hr⟩:=h h0
  exact ⟨g,hA,Nat.lt_of_lt_of_le hg k.size,hr.ext k⟩
def hitR (r:RowT) (t:Int) (j:Nat) (lo hi:Int):Bool:=(r.t == t) && decide (lo≤r.col j) && decide (r.col j≤hi)
theorem isInR (r : RowT) (b1 b2 b3 b4 j : Nat) (t lo hi : Int) (hj : j < 4) (w : World) (hB : Boxes w b1 b2 b3 b4 j t lo hi) :
    Calls Tryz.prog 94 #[.agg #[.int .i64 r.t,.int .i64 r.k,.int .i64 r.a,.int .i64 r.b,.int .i64 r.c],.pointer (some ⟨b1,0,none⟩),.pointer (some ⟨b2,0,none⟩),.pointer (some ⟨b3,0,none⟩),.pointer (some ⟨b4,0,none⟩)] w fun e w'=>e=.returned (.bool (hitR r t j lo hi))∧Below w.heap.size w w':=by
  have HV:=Lib.hid (fun W:World=>rowValue_any r j hj W)
  unfold hitR
  generalize r.col j=v at *
  obtain ⟨r0,r1,r2,r3,r4⟩:=r
  dsimp only at *
  have HB:=Lib.hid (hB.ext (ext_new w (.cells #[.int .i64 r0,.int .i64 r1,.int .i64 r2,.int .i64 r3,.int .i64 r4] 67)))
  have HR:=Lib.hid (Blk.new w 67 #[.int .i64 r0,.int .i64 r1,.int .i64 r2,.int .i64 r3,.int .i64 r4])
  clear hB
  have c1:=HB.out.1.cell 0
  go_enter Tryz.func94,Tryz.ntmps94
  go_wp2_with fail
  refine (HV.out _).mono ?_
  rintro e W1 ⟨rfl,hb1⟩
  have hB1:=HB.out.ext hb1
  have a0:=(HR.out.ext hb1).cell 0
  have d2:=hB1.2.1.cell 0
  have d3:=hB1.2.2.1.cell 0
  have d4:=hB1.2.2.2.cell 0
  have HL:=Lib.hid (ext_call (ext_new w _) hb1)
  clear hb1 hB1 c1
  by_cases h1:r0=t
  · subst h1
    by_cases h2:lo≤v
    · go_wp2
      go_ret
      exact ⟨by simp [h2],HL.out⟩
    · go_wp2
      go_ret
      exact ⟨by have h3:¬ lo≤v:=by omega
                simp [h3],HL.out⟩
  · have h1':(r0 == t)=false:=by simpa using h1
    go_wp2
    go_ret
    exact ⟨by simp [h1],HL.out⟩
theorem rowz_info:(Tryz.prog.info? 67).map (fun i=>(i.zero,i.size,i.bytes))=some (some (.agg #[.int .i64 0,.int .i64 0,.int .i64 0,.int .i64 0,.int .i64 0]),5,40):=by kernel_rfl
theorem appRow (W:World) (base:Nat) (hb:base≤W.heap.size) (v:Value) (n:Nat) (xs:List Value) (hown:W.ownsRow base 67 5 v n xs) (hn:n≤1000000) (r:RowT) :
    AppOK Tryz.prog (W.alloc (.cells #[.int .i64 r.t,.int .i64 r.k,.int .i64 r.a,.int .i64 r.b,.int .i64 r.c] 67)) 34 34 v (.slice (some ⟨W.heap.size,0,none⟩) 1 1)∧∃ W',appW Tryz.prog (W.alloc (.cells #[.int .i64 r.t,.int .i64 r.k,.int .i64 r.a,.int .i64 r.b,.int .i64 r.c] 67)) 34 34 v (.slice (some ⟨W.heap.size,0,none⟩) 1 1)=W' ∧
      ∃ v',appV Tryz.prog (W.alloc (.cells #[.int .i64 r.t,.int .i64 r.k,.int .i64 r.a,.int .i64 r.b,.int .i64 r.c] 67)) 34 34 v (.slice (some ⟨W.heap.size,0,none⟩) 1 1)=v'∧W'.ownsRow base 67 5 v' (n+1) (xs++encR r)∧(W.alloc (.cells #[.int .i64 r.t,.int .i64 r.k,.int .i64 r.a,.int .i64 r.b,.int .i64 r.c] 67)).grownBy W' v.ownBlock:=by
  obtain ⟨ii,hii,hzi0,hzi1,hzi2⟩:=info_parts rowz_info
  obtain ⟨h1,h2,h3⟩:=app_own (P:=Tryz.prog) (w:=W.alloc (.cells #[.int .i64 r.t,.int .i64 r.k,.int .i64 r.a,.int .i64 r.b,.int .i64 r.c] 67)) base 34 34 67 ii (.agg #[.int .i64 0,.int .i64 0,.int .i64 0,.int .i64 0,.int .i64 0]) 5 40 Tryz.underlying34 hii hzi0 hzi1 hzi2 rfl (by decide) v n xs (hown.alloc _) ⟨W.heap.size,0,none⟩ 1 1 (encR r) rfl (fun i u hu=>by
    rw [add_lit0]
    have hB:=Blk.new W 67 #[.int .i64 r.t,.int .i64 r.k,.int .i64 r.a,.int .i64 r.b,.int .i64 r.c]
    rw [hB.cell]
    rw [← hu]
    simp [encR]) (encR_one r) (by unfold maxLen;omega) (by omega) (by simp;omega)
  exact ⟨h1,_,rfl,_,rfl,h2,h3⟩
def leftN (it:Nat) (es:Array MapEntry) (W:World):Nat:=match W.heap[it]? with|some (.mapIter _ _ seen _)=>(leftOf es seen).size|_=>0
theorem leftOf_push (es:Array MapEntry) (seen:Array Nat) (e:MapEntry) (he:e ∈ (leftOf es seen).toList):(leftOf es (seen.push e.born)).size<(leftOf es seen).size:=by
  unfold leftOf at *
  simp only [Array.toList_filter,List.mem_filter] at he
  have hsz:∀ p:MapEntry→Bool,(es.filter p).size=es.toList.countP p:=fun p=>by rw [List.countP_eq_length_filter,← Array.toList_filter,Array.length_toList]
  rw [hsz,hsz]
  obtain ⟨h1,h2⟩:=he
  clear hsz
  generalize es.toList=l at *
  induction l with
  | nil=>simp at h1
  | cons x l ih=>
    have hle:∀ m:List MapEntry,m.countP (fun e_1 => !(seen.push e.born).contains e_1.born)≤m.countP (fun e => !seen.contains e.born):=fun m=>List.countP_mono_left (fun y _ hy=>by simp at hy ⊢;exact hy.1)
    rw [List.countP_cons,List.countP_cons]
    rcases List.mem_cons.1 h1 with rfl|h3
    · have h4:=hle l
      have h5:(!(seen.push e.born).contains e.born)=false:=by simp
      simp only [h5,h2,Bool.false_eq_true,if_false,if_true]
      omega
    · have h4:=ih h3
      have h5:((if (!(seen.push e.born).contains x.born)=true then 1 else 0):Nat)≤(if (!seen.contains x.born)=true then 1 else 0):=by
        by_cases h6:seen.contains x.born=true
        · have:(seen.push e.born).contains x.born=true:=by simp at h6 ⊢;exact .inl h6
          rw [h6,this];simp
        · have h7:seen.contains x.born=false:=by simpa using h6
          rw [h7]
          split <;> simp
      omega
theorem entry_row {rs:List RowT} {es:Array MapEntry} (h:es.toList.map (fun e=>(e.key,e.val))=rs.map (fun r=>(r.keyV,r.val))) {e:MapEntry} (he:e ∈ es.toList):∃ r,r ∈ rs∧e.key=r.keyV∧e.val=.agg #[.int .i64 r.t,.int .i64 r.k,.int .i64 r.a,.int .i64 r.b,.int .i64 r.c]:=by
  have h1:(e.key,e.val) ∈ rs.map (fun r=>(r.keyV,r.val)):=by rw [← h];exact List.mem_map.2 ⟨e,he,rfl⟩
  obtain ⟨r,hr,h2⟩:=List.mem_map.1 h1
  injection h2 with h3 h4
  exact ⟨r,hr,h3.symm,h4.symm⟩
end
section
open Go.RowKit Go.Shelf
attribute [local go_sem ↓] app_exec app_sem Go.wp_at_zero Go.wp_at_succ
theorem own_ext {W W':World} {base n sz:Nat} {e:TypeId} {v:Value} {xs:List Value} (h:W.ownsRow base e sz v n xs) (k:Below W.heap.size W W'):W'.ownsRow base e sz v n xs:=by
  refine ⟨h.1,?_⟩
  rcases h.2 with hn'|⟨g,cap,cur,h1,h2,h3,h4⟩
  · exact .inl hn'
  · exact .inr ⟨g,cap,cur,h1,h2,(k.block g (Array.getElem?_eq_some_iff.1 h3).1).trans h3,h4⟩
theorem iter_step {W:World} {it:Nat} {o:Obj} {B n sz:Nat} {e:TypeId} {v:Value} {xs:List Value} (h:W.ownsRow B e sz v n xs) (hB:it<B):(W.putObj it o).ownsRow B e sz v n xs:=by
  refine h.kept (row:=some it) ⟨rfl,rfl,rfl,by simp,fun k _ hk=>World.putObj_heap_other (fun e=>hk (by rw [e]))⟩ ?_
  rcases h.2 with ⟨rfl,_⟩|⟨g,cap,cur,rfl,hg,_⟩
  · exact .inl rfl
  · exact .inr (by simp [Value.ownBlock];omega)
end
section
open Go.RowKit Go.Shelf
attribute [local go_sem ↓] app_exec app_sem Go.wp_at_zero Go.wp_at_succ
def RowT.sm (r:RowT):Prop:=r.ok∧r.t<64∧r.k<64∧∀ x ∈ [r.a,r.b,r.c],-64≤x∧x<64
theorem appStr (W:World) (base:Nat) (hb:base≤W.heap.size) (v:Value) (n:Nat) (xs:List Value) (hown:W.ownsRow base 9 1 v n xs) (hn:n≤1000000) (s:ByteArray) :
    AppOK Tryz.prog (W.alloc (.cells #[.string s] 9)) 53 53 v (.slice (some ⟨W.heap.size,0,none⟩) 1 1)∧∃ W',appW Tryz.prog (W.alloc (.cells #[.string s] 9)) 53 53 v (.slice (some ⟨W.heap.size,0,none⟩) 1 1)=W' ∧
      ∃ v',appV Tryz.prog (W.alloc (.cells #[.string s] 9)) 53 53 v (.slice (some ⟨W.heap.size,0,none⟩) 1 1)=v'∧W'.ownsRow base 9 1 v' (n+1) (xs++[.string s])∧(W.alloc (.cells #[.string s] 9)).grownBy W' v.ownBlock:=by
  obtain ⟨is,his,hzs0,hzs1,hzs2⟩:=str_infoS
  obtain ⟨h1,h2,h3⟩:=app_own (P:=Tryz.prog) (w:=W.alloc (.cells #[.string s] 9)) base 53 53 9 is (.string ⟨#[]⟩) 1 16 Tryz.underlying53 his hzs0 hzs1 hzs2 rfl (by decide) v n xs (hown.alloc _) ⟨W.heap.size,0,none⟩ 1 1 [.string s] rfl (cell_one_new _ _ _) (by simp [Value.oneCell']) (by unfold maxLen;omega) (by omega) (by simp;omega)
  exact ⟨h1,_,rfl,_,rfl,h2,h3⟩
theorem own_strs {W:World} {base n:Nat} {v:Value} {ss:List ByteArray} (h:W.ownsRow base 9 1 v n (ss.map Value.string)) (hn:ss.length=n):Strs (fun _=>True) W v ss:=by
  subst hn
  by_cases h0:0<ss.length
  · obtain ⟨g,cap,cur,rfl,hg,hb⟩:=own_blk h h0
    refine ⟨_,cap,rfl,?_,fun _=>⟨g,0,rfl,trivial,fun j x hx=>?_⟩⟩
    · rcases h.2 with ⟨he,_⟩|⟨g',cap',cur',he,_,_,h6,_⟩
      · cases he
      · injection he with _ _ hc
        omega
    · have h1:=h.cells (g:=g) rfl j (.string x) (by rw [List.getElem?_map,hx];rfl)
      rw [add_lit0] at h1
      rw [Nat.zero_add]
      exact h1
  · have h1:ss=[]:=List.length_eq_zero_iff.1 (by omega)
    subst h1
    obtain ⟨A,c,hsh⟩:=own_shape h
    exact ⟨A,c,hsh,by simp,fun h=>absurd h (by simp)⟩
theorem RowsL.at_ {w:World} {v:Value} {l:List RowT} (h:RowsL w v l) {j:Nat} {r:RowT} (hj:l[j]? = some r):∃ g c,v=.slice (some ⟨g,0,none⟩) l.length c∧g<w.heap.size∧∀ i,i<5→w.cell? ⟨g,j*5+i,none⟩=(encR r)[i]? := by
  obtain ⟨A,c,rfl,h⟩:=h
  have hlt:=(List.getElem?_eq_some_iff.1 hj).1
  obtain ⟨g,rfl,hg,hr⟩:=h (by omega)
  exact ⟨g,c,rfl,hg,hr j r hj⟩
end
section
open Go.RowKit
theorem nodup_lt:∀ (n:Nat) (l:List Nat),l.Nodup→(∀ x ∈ l,x<n)→l.length≤n
  | 0,l,_,h=>by
    cases l with
    | nil=>simp
    | cons a r=>exact absurd (h a (by simp)) (by omega)
  | n + 1, l, hn, h => by
    by_cases hm:n ∈ l
    · have h1:=nodup_lt n (l.erase n) (hn.erase n) (fun x hx=>by
        have h2:=(hn.mem_erase_iff).1 hx
        have h3:=h x h2.2
        have h4:=h2.1
        omega)
      rw [List.length_erase_of_mem hm] at h1
      omega
    · have h1:=nodup_lt n l hn (fun x hx=>by
        have h3:=h x hx
        have h4:x≠n:=fun e=>hm (e ▸ hx)
        omega)
      omega
def keyN (t k:Int):Nat:=(9*t+(k-1)).toNat
def tinyK (t k:Int):Prop:=(0≤t∧t≤2)∧(1≤k∧k≤9)
theorem keyN_lt {t k:Int} (h:tinyK t k):keyN t k<27:=by unfold keyN;obtain ⟨⟨h1,h2⟩,h3,h4⟩:=h;omega
theorem keyN_inj {t k t' k':Int} (h:tinyK t k) (h':tinyK t' k') (e:keyN t k=keyN t' k'):t=t'∧k=k':=by
  unfold keyN at e;obtain ⟨⟨h1,h2⟩,h3,h4⟩:=h;obtain ⟨⟨h5,h6⟩,h7,h8⟩:=h';omega
structure StOK (rs:List RowT):Prop where
  sm:∀ r ∈ rs,r.sm
  tiny:∀ r ∈ rs,tinyK r.t r.k
  apart:(rs.map fun r=>keyN r.t r.k).Nodup
theorem StOK.nil:StOK []:=⟨by simp,by simp,by simp⟩
theorem StOK.few {rs:List RowT} (h:StOK rs):rs.length≤27:=by
  have:=nodup_lt 27 _ h.apart (fun x hx=>by
    obtain ⟨r,hr,rfl⟩:=List.mem_map.1 hx
    exact keyN_lt (h.tiny r hr))
  simpa using this
theorem StOK.del {rs:List RowT} (h:StOK rs) (t k:Int):StOK (delR rs t k):=by
  unfold delR
  split
  · rename_i i _
    have hs:=List.eraseIdx_sublist rs i
    exact ⟨fun r hr=>h.sm r (hs.subset hr),fun r hr=>h.tiny r (hs.subset hr),h.apart.sublist (hs.map _)⟩
  · exact h
theorem StOK.put {rs:List RowT} (h:StOK rs) (r:RowT) (h1:r.sm) (h2:tinyK r.t r.k):StOK (putR rs r):=by
  unfold putR
  split
  · rename_i i hi
    rw [List.findIdx?_eq_some_iff_getElem] at hi
    obtain ⟨hlt,his,_⟩:=hi
    simp only [RowT.is,Bool.and_eq_true,decide_eq_true_eq] at his
    refine ⟨fun x hx=>?_,fun x hx=>?_,?_⟩
    · rcases List.mem_or_eq_of_mem_set hx with hx|rfl
      · exact h.sm x hx
      · exact h1
    · rcases List.mem_or_eq_of_mem_set hx with hx|rfl
      · exact h.tiny x hx
      · exact h2
    · rw [List.map_set]
      have e:(rs.map fun r=>keyN r.t r.k).set i (keyN r.t r.k)=rs.map fun r=>keyN r.t r.k:=by
        apply List.ext_getElem?
        intro j
        rw [List.getElem?_set]
        by_cases hij:i=j
        · subst hij
          rw [if_pos rfl]
          simp [hlt,his.1,his.2]
        · rw [if_neg hij]
      rw [e]
      exact h.apart
  · rename_i hn
    rw [List.findIdx?_eq_none_iff] at hn
    refine ⟨fun x hx=>?_,fun x hx=>?_,?_⟩
    · rcases List.mem_append.1 hx with hx|hx
      · exact h.sm x hx
      · simp at hx;rw [hx];exact h1
    · rcases List.mem_append.1 hx with hx|hx
      · exact h.tiny x hx
      · simp at hx;rw [hx];exact h2
    · rw [List.map_append,List.nodup_append]
      refine ⟨h.apart,by simp,fun a ha b hb=>?_⟩
      obtain ⟨x,hx,rfl⟩:=List.mem_map.1 ha
      simp only [List.map_cons,List.map_nil,List.mem_singleton] at hb
      subst hb
      intro e
      have h3:=keyN_inj (h.tiny x hx) h2 e
      have h4:=hn x hx
      simp [RowT.is,h3.1,h3.2] at h4
structure ChgG (c:ChgT):Prop where
  ok:c.ok
  small:c.small
  tiny:tinyK c.t c.k
theorem ChgG.row {c:ChgT} (h:ChgG c):RowT.sm ⟨c.t,c.k,c.n1,c.n2,c.n3⟩:=by
  have h1:=h.ok
  have h2:=h.small
  have h3:=h.tiny
  unfold ChgT.small at h2
  simp only [List.mem_cons,List.not_mem_nil,or_false,forall_eq_or_imp,forall_eq] at h2
  refine ⟨⟨h1.1.1,h1.1.2,h1.2.2.2.2.1,h1.2.2.2.2.2.1,h1.2.2.2.2.2.2⟩,h2.1.2,h2.2.1.2,?_⟩
  simp only [List.mem_cons,List.not_mem_nil,or_false,forall_eq_or_imp,forall_eq]
  exact ⟨h2.2.2.2.2.2.1,h2.2.2.2.2.2.2.1,h2.2.2.2.2.2.2.2⟩
theorem StOK.apply {l:List ChgT}:∀ {rs:List RowT},StOK rs→(∀ c ∈ l,ChgG c)→StOK (applyF rs l):=by
  induction l with
  | nil=>intro rs h _;exact h
  | cons c l ih=>
    intro rs h hc
    have h1:StOK (applyC rs c):=by
      have h2:=hc c (by simp)
      unfold applyC
      split
      · exact h.put _ h2.row h2.tiny
      · exact h.del _ _
    exact ih h1 (fun d hd=>hc d (by simp [hd]))
theorem getR_mem {rs:List RowT} {t k:Int} {r:RowT} (h:getR rs t k=some r):r ∈ rs:=List.mem_of_find?_eq_some h
theorem ChgG.fill {rs:List RowT} (h:StOK rs) {c:ChgT} (hc:ChgG c):ChgG (fillC rs c):=by
  have h1:=hc.ok
  have h2:=hc.small
  unfold ChgT.small at h2
  simp only [List.mem_cons,List.not_mem_nil,or_false,forall_eq_or_imp,forall_eq] at h2
  cases hg:getR rs c.t c.k with
  | none=>
    refine ⟨?_,?_,hc.tiny⟩
    · simp only [fillC,hg,ChgT.ok,Option.isSome_none,Option.getD_none,zeroR]
      exact ⟨h1.1,fun _=>⟨trivial,trivial,trivial⟩,h1.2.2.1,by omega,h1.2.2.2.2⟩
    · simp only [fillC,hg,ChgT.small,Option.getD_none,zeroR,List.mem_cons,List.not_mem_nil,or_false,forall_eq_or_imp,forall_eq]
      exact ⟨h2.1,h2.2.1,by omega,by omega,by omega,h2.2.2.2.2.2⟩
  | some r=>
    have hr:=h.sm r (getR_mem hg)
    obtain ⟨⟨_,_,q1,q2,q3⟩,_,_,q4⟩:=hr
    simp only [List.mem_cons,List.not_mem_nil,or_false,forall_eq_or_imp,forall_eq] at q4
    refine ⟨?_,?_,hc.tiny⟩
    · simp only [fillC,hg,ChgT.ok,Option.isSome_some,Option.getD_some]
      exact ⟨h1.1,fun h=>(by cases h),h1.2.2.1,⟨q1,q2,q3⟩,h1.2.2.2.2⟩
    · simp only [fillC,hg,ChgT.small,Option.getD_some,List.mem_cons,List.not_mem_nil,or_false,forall_eq_or_imp,forall_eq]
      exact ⟨h2.1,h2.2.1,q4.1,q4.2.1,q4.2.2,h2.2.2.2.2.2⟩
end
section
open Go.RowKit Go.Shelf
attribute [local go_sem ↓] Go.wp_at_zero Go.wp_at_succ
def CapV (v:Value):Prop:=∀ A n c,v=.slice A n c→n≤c
def RefS (W:World) (g:Nat) (rows:List RowT) (pos:Int):Prop:=∃ v,Blk W g 120 #[v,.int .i64 pos]∧RowsL W v rows∧CapV v
theorem RefS.ext {w W:World} {g:Nat} {rows:List RowT} {pos:Int} (h:RefS w g rows pos) (k:Below w.heap.size w W):RefS W g rows pos:=by
  obtain ⟨v,h1,h2,h3⟩:=h
  exact ⟨v,h1.ext k,h2.ext k,h3⟩
def SortK (rows:List RowT):Prop:=rows.Pairwise (fun a b=>a.t<b.t∨(a.t=b.t∧a.k<b.k))
def befK (t k:Int) (r:RowT):Bool:=decide (r.t<t) || (decide (r.t=t) && decide (r.k<k))
theorem befK_iff {t k:Int} {r:RowT}:befK t k r=true↔r.t<t∨(r.t=t∧r.k<k):=by simp [befK]
def placeF (rows:List RowT) (t k:Int):Nat:=rows.findIdx (fun r => !befK t k r)
theorem place_of {rows:List RowT} {t k:Int} {n:Nat} (hn:n≤rows.length) (hb:∀ i r,rows[i]? = some r→i<n→befK t k r=true) (ha:∀ i r,rows[i]? = some r→n≤i→befK t k r=false):placeF rows t k=n:=by
  unfold placeF
  by_cases h:n<rows.length
  · refine (List.findIdx_eq h).2 ⟨by rw [ha n _ (List.getElem?_eq_getElem h) (Nat.le_refl _)];rfl,fun j hj=>?_⟩
    rw [hb j _ (List.getElem?_eq_getElem (by omega)) hj]
    rfl
  · rw [show n=rows.length by omega,List.findIdx_eq_length]
    intro r hr
    obtain ⟨i,hi,hri⟩:=List.getElem_of_mem hr
    rw [hb i r (by rw [List.getElem?_eq_getElem hi,hri]) (by omega)]
    rfl
theorem SortK.lt {rows:List RowT} (h:SortK rows) {i j:Nat} {a b:RowT} (ha:rows[i]? = some a) (hb:rows[j]? = some b) (hij:i<j):a.t<b.t∨(a.t=b.t∧a.k<b.k):=by
  obtain ⟨h1,rfl⟩:=List.getElem?_eq_some_iff.1 ha
  obtain ⟨h2,rfl⟩:=List.getElem?_eq_some_iff.1 hb
  exact List.pairwise_iff_getElem.1 h i j h1 h2 hij
theorem get_place {rows:List RowT} (h:SortK rows) (t k:Int):(∃ r,rows[placeF rows t k]? = some r∧r.t=t∧r.k=k∧getR rows t k=some r)∨(getR rows t k=none∧∀ r,rows[placeF rows t k]? = some r→¬ (r.t=t∧r.k=k)):=by
  cases hg:getR rows t k with
  | none=>
    refine .inr ⟨rfl,fun r hr he=>?_⟩
    have h1:=List.find?_eq_none.1 hg r (List.mem_of_getElem? hr)
    simp [RowT.is,he.1,he.2] at h1
  | some r =>
    refine .inl ⟨r,?_,?_⟩
    · have h1:=List.find?_some hg
      have hm:=List.mem_of_find?_eq_some hg
      simp only [RowT.is,Bool.and_eq_true,decide_eq_true_eq] at h1
      obtain ⟨i,hi,hri⟩:=List.getElem_of_mem hm
      have hgi:rows[i]? = some r:=by rw [List.getElem?_eq_getElem hi,hri]
      have hp:placeF rows t k=i:=place_of (by omega) (fun j a ha hj=>befK_iff.2 (by have:=h.lt ha hgi hj;omega)) (fun j a ha hj=>by
        rw [Bool.eq_false_iff]
        intro hb
        have hb:=befK_iff.1 hb
        rcases Nat.lt_or_ge i j with h2|h2
        · have:=h.lt hgi ha h2;omega
        · have e:j=i:=by omega
          subst e
          rw [hgi] at ha
          have:=Option.some.inj ha
          subst this
          omega)
      rw [hp];exact hgi
    · have h1:=List.find?_some hg
      simp only [RowT.is,Bool.and_eq_true,decide_eq_true_eq] at h1
      exact ⟨h1.1.symm,h1.2.symm,rfl⟩
theorem refNew04 (w:World):Calls Tryz.prog 44 #[] w fun e w'=>e=.returned (.pointer (some ⟨w.heap.size,0,none⟩))∧RefS w' w.heap.size [] 0∧Below w.heap.size w w':=by
  go_enter Tryz.func44,Tryz.ntmps44
  go_wp2
  go_ret
  exact ⟨rfl,⟨_,Blk.new _ _ _,⟨none,0,rfl,fun h=>absurd h (by simp)⟩,fun A n c h=>by injection h with _ h2 h3;omega⟩,ext_new _ _⟩
theorem refPlace (rows:List RowT) (hs:SortK rows) (hl:rows.length≤1000000) (t k pos:Int) (g:Nat) (w:World) (hS:RefS w g rows pos) :
    Calls Tryz.prog 80 #[.pointer (some ⟨g,0,none⟩),.int .i64 t,.int .i64 k] w fun e w'=>e=.returned (.int .i64 (placeF rows t k:Nat))∧w=w':=by
  obtain ⟨v,hb,hr,-⟩:=hS
  have b0:=hb.cell 0
  have HR:=Lib.hid hr
  have HSO:=Lib.hid hs
  obtain ⟨A,c,rfl,-⟩:=hr
  clear hb hs
  go_enter Tryz.func80,Tryz.ntmps80
  go_wp2
  go_loop [7,8,9] (fun lv hv _=>∃ lo hi:Nat,lv=.int .i64 (lo:Int)∧hv=.int .i64 (hi:Int)∧lo≤hi∧hi≤rows.length∧(∀ i r,rows[i]? = some r→i<lo→befK t k r=true)∧(∀ i r,rows[i]? = some r→hi≤i→befK t k r=false)) (fun lv hv _=>(intOf hv).toNat-(intOf lv).toNat)
  case atStart=>exact ⟨0,rows.length,rfl,rfl,Nat.zero_le _,Nat.le_refl _,fun i r _ h=>absurd h (by omega),fun i r hi h=>by have:=(List.getElem?_eq_some_iff.1 hi).1;omega⟩
  case round =>
    obtain ⟨lo,hi,rfl,rfl,hlh,hhl,hlo,hhi⟩:=hrel
    have HLO:=Lib.hid hlo
    have HHI:=Lib.hid hhi
    clear hlo hhi
    by_cases hlt:lo<hi
    · obtain ⟨m, hm⟩ : ∃ m, m = (lo + hi) / 2 := ⟨_, rfl⟩
      obtain ⟨r,hrm⟩:∃ r,rows[m]? = some r:=⟨_,List.getElem?_eq_getElem (by omega)⟩
      obtain ⟨g2,c',hA,_,hc9⟩:=HR.out.at_ hrm
      injection hA with hA _ hc'
      subst hA hc'
      have r0:=hc9 0 (by omega)
      have r1:=hc9 1 (by omega)
      simp only [encR,List.getElem?_cons_zero,List.getElem?_cons_succ,Nat.add_zero] at r0 r1
      have e1:IntKind.i64.wrap ((lo:Int)+(hi:Int))=(lo:Int)+(hi:Int):=IntWalk.i64_in _ (by omega)
      have e2:((lo:Int)+(hi:Int)) / 2=(m:Int):=by omega
      have e3:IntKind.i64.wrap ((m:Int)+1)=(m:Int)+1:=IntWalk.i64_in _ (by omega)
      have q0:(0:Int)≤(m:Int):=by omega
      have q1:(m:Int)<(rows.length:Int):=by omega
      have hml:lo≤m∧m<hi:=by omega
      have HM:=Lib.hid hml
      have HRM:=Lib.hid hrm
      have d1:decide ((lo:Int)<(hi:Int))=true:=decide_eq_true (by omega)
      clear hc9 hrm hm hml
      by_cases ht:r.t<t
      · go_wp2
        go_round
        case rel=>exact ⟨m+1,hi,by go_num,rfl,by have:=HM.out;omega,hhl,fun i a ha hi2=>by
          rcases Nat.lt_or_ge i m with h|h
          · have:=HSO.out.lt ha HRM.out h;exact befK_iff.2 (by omega)
          · have e:i=m:=by omega
            subst e
            rw [HRM.out] at ha
            have:=Option.some.inj ha
            subst this
            exact befK_iff.2 (.inl ht),HHI.out⟩
        case measure=>have:=HM.out;simp [intOf];omega
      · by_cases ht2:r.t=t
        · have b1:(r.t == t)=true:=by simpa using ht2
          by_cases hk:r.k<k
          · have HT:=Lib.hid ht2
            clear ht2
            go_wp2
            go_round
            case rel=>exact ⟨m+1,hi,by go_num,rfl,by have:=HM.out;omega,hhl,fun i a ha hi2=>by
              have ht2:=HT.out
              rcases Nat.lt_or_ge i m with h|h
              · have:=HSO.out.lt ha HRM.out h;exact befK_iff.2 (by omega)
              · have e:i=m:=by omega
                subst e
                rw [HRM.out] at ha
                have:=Option.some.inj ha
                subst this
                exact befK_iff.2 (.inr ⟨ht2,hk⟩),HHI.out⟩
            case measure=>have:=HM.out;simp [intOf];omega
          · have HT:=Lib.hid ht2
            clear ht2
            go_wp2
            go_round
            case rel=>exact ⟨lo,m,rfl,(by first|rfl|rw [e2]),HM.out.1,by have:=HM.out;omega,HLO.out,fun i a ha hi2=>by
              have ht2:=HT.out
              rw [Bool.eq_false_iff]
              intro hb
              have hb:=befK_iff.1 hb
              rcases Nat.lt_or_ge m i with h|h
              · have:=HSO.out.lt HRM.out ha h;omega
              · have e:i=m:=by omega
                subst e
                rw [HRM.out] at ha
                have:=Option.some.inj ha
                subst this
                omega⟩
            case measure=>have:=HM.out;simp [intOf];omega
        · have b1:(r.t == t)=false:=by simpa using ht2
          have HT:=Lib.hid ht2
          clear ht2
          go_wp2
          go_round
          case rel=>exact ⟨lo,m,rfl,(by first|rfl|rw [e2]),HM.out.1,by have:=HM.out;omega,HLO.out,fun i a ha hi2=>by
            have ht2:=HT.out
            rw [Bool.eq_false_iff]
            intro hb
            have hb:=befK_iff.1 hb
            rcases Nat.lt_or_ge m i with h|h
            · have:=HSO.out.lt HRM.out ha h;omega
            · have e:i=m:=by omega
              subst e
              rw [HRM.out] at ha
              have:=Option.some.inj ha
              subst this
              omega⟩
          case measure=>have:=HM.out;simp [intOf];omega
    · have HP:=Lib.hid (show placeF rows t k=lo from place_of (by omega) HLO.out (fun i r hr hi2=>HHI.out i r hr (by omega)))
      have d1:decide ((lo:Int)<(hi:Int))=false:=decide_eq_false (by omega)
      go_wp2
      go_ret
      exact ⟨by rw [HP.out];rfl,rfl⟩
theorem getP {rows:List RowT} (t k:Int):(∃ r,getR rows t k=some r∧r.t=t∧r.k=k)∨getR rows t k=none:=by
  cases h:getR rows t k with
  | none=>exact .inr rfl
  | some r=>
    have h1:=List.find?_some h
    simp only [RowT.is,Bool.and_eq_true,decide_eq_true_eq] at h1
    exact .inl ⟨r,rfl,h1.1.symm,h1.2.symm⟩
theorem refGet (rows:List RowT) (hs:SortK rows) (hl:rows.length≤1000000) (t k pos:Int) (g:Nat) (w:World) (hS:RefS w g rows pos) :
    Calls Tryz.prog 45 #[.pointer (some ⟨g,0,none⟩),.int .i64 t,.int .i64 k] w fun e w'=>
      e=.returned (.tuple #[.agg #[.int .i64 ((getR rows t k).getD zeroR).t,.int .i64 ((getR rows t k).getD zeroR).k,.int .i64 ((getR rows t k).getD zeroR).a,.int .i64 ((getR rows t k).getD zeroR).b,.int .i64 ((getR rows t k).getD zeroR).c],.bool (getR rows t k).isSome])∧Below w.heap.size w w':=by
  have HP:=Lib.hid (refPlace rows hs hl t k pos g _ (hS.ext (ext_new w (.cells #[.int .i64 0,.int .i64 0,.int .i64 0,.int .i64 0,.int .i64 0] 67))))
  have hgp:=get_place hs t k
  have hpl:placeF rows t k≤rows.length:=List.findIdx_le_length
  obtain ⟨v,hb,hr,-⟩:=hS.ext (ext_new w (.cells #[.int .i64 0,.int .i64 0,.int .i64 0,.int .i64 0,.int .i64 0] 67))
  have HB:=Lib.hid hb
  have HX:=Lib.hid (Blk.new w 67 #[.int .i64 0,.int .i64 0,.int .i64 0,.int .i64 0,.int .i64 0])
  have b0:=hb.cell 0
  have gl:=hb.lt
  have HRW:=Lib.hid hr
  obtain ⟨A,c,rfl,-⟩:=hr
  generalize placeF rows t k=m at *
  generalize getR rows t k=G at hgp ⊢
  clear hS hb hs
  go_enter Tryz.func45,Tryz.ntmps45
  go_wp2_with fail
  refine HP.out.mono ?_
  rintro e w' ⟨rfl,hw'⟩
  subst w'
  rcases hgp with ⟨r,hrm,h1,h2,hg⟩|⟨hg,hno⟩
  · have hml:=(List.getElem?_eq_some_iff.1 hrm).1
    obtain ⟨g2,c',hA,hgl,hc9⟩:=HRW.out.at_ hrm
    injection hA with hA _ hc'
    subst hA hc'
    have r0:=hc9 0 (by omega)
    have r1:=hc9 1 (by omega)
    have r2:=hc9 2 (by omega)
    have r3:=hc9 3 (by omega)
    have r4:=hc9 4 (by omega)
    subst hg
    obtain ⟨x0,x1,x2,x3,x4⟩:=r
    dsimp only at h1 h2
    subst h1 h2
    simp only [encR,List.getElem?_cons_zero,List.getElem?_cons_succ,Nat.add_zero] at r0 r1 r2 r3 r4
    have q0:(0:Int)≤(m:Int):=by omega
    have q1:(m:Int)<(rows.length:Int):=by omega
    have z0:=HX.out.cell 0;have z1:=HX.out.cell 1;have z2:=HX.out.cell 2;have z3:=HX.out.cell 3;have z4:=HX.out.cell 4
    have f0:=HX.out.frozen 0;have f1:=HX.out.frozen 1;have f2:=HX.out.frozen 2;have f3:=HX.out.frozen 3;have f4:=HX.out.frozen 4
    clear hc9 hrm hml hgl
    go_wp2
    have hBf:=((((HX.out.set_ 0 (.int .i64 x0)).set_ 1 (.int .i64 x1)).set_ 2 (.int .i64 x2)).set_ 3 (.int .i64 x3)).set_ 4 (.int .i64 x4)
    have y0:=hBf.cell 0;have y1:=hBf.cell 1;have y2:=hBf.cell 2;have y3:=hBf.cell 3;have y4:=hBf.cell 4
    refine bodyPost_ret (v:=.tuple #[.agg #[.int .i64 x0,.int .i64 x1,.int .i64 x2,.int .i64 x3,.int .i64 x4],.bool true]) (by simp [results,Tryz.results45,go_sem,y0,y1,y2,y3,y4]) rfl ⟨rfl,?_⟩
    repeat (first|with_reducible exact ext_new _ _|refine ext_set ?_ (Nat.le_refl _) _)
  · subst hg
    have x0:=HX.out.cell 0;have x1:=HX.out.cell 1;have x2:=HX.out.cell 2;have x3:=HX.out.cell 3;have x4:=HX.out.cell 4
    have f0:=HX.out.frozen 0;have f1:=HX.out.frozen 1;have f2:=HX.out.frozen 2;have f3:=HX.out.frozen 3;have f4:=HX.out.frozen 4
    have hBf:=((((HX.out.set_ 0 (.int .i64 0)).set_ 1 (.int .i64 0)).set_ 2 (.int .i64 0)).set_ 3 (.int .i64 0)).set_ 4 (.int .i64 0)
    by_cases hml:m<rows.length
    · obtain ⟨r,hrm⟩:∃ r,rows[m]? = some r:=⟨_,List.getElem?_eq_getElem hml⟩
      have hnr:=hno r hrm
      obtain ⟨g2,c',hA,hgl,hc9⟩:=HRW.out.at_ hrm
      injection hA with hA _ hc'
      subst hA hc'
      have r0:=hc9 0 (by omega)
      have r1:=hc9 1 (by omega)
      simp only [encR,List.getElem?_cons_zero,List.getElem?_cons_succ,Nat.add_zero] at r0 r1
      have q0:(0:Int)≤(m:Int):=by omega
      have q1:(m:Int)<(rows.length:Int):=by omega
      by_cases ht:r.t=t
      · have hk:r.k≠k:=fun h=>hnr ⟨ht,h⟩
        have d1:(r.t == t)=true:=by simpa using ht
        have d2:(r.k == k)=false:=by simpa using hk
        clear hc9 hrm hml hgl ht hk hnr hno
        go_wp2
        have y0:=hBf.cell 0;have y1:=hBf.cell 1;have y2:=hBf.cell 2;have y3:=hBf.cell 3;have y4:=hBf.cell 4
        refine bodyPost_ret (v:=.tuple #[.agg #[.int .i64 0,.int .i64 0,.int .i64 0,.int .i64 0,.int .i64 0],.bool false]) (by simp [results,Tryz.results45,go_sem,y0,y1,y2,y3,y4]) rfl ⟨rfl,?_⟩
        repeat (first|with_reducible exact ext_new _ _|refine ext_set ?_ (Nat.le_refl _) _)
      · have d1:(r.t == t)=false:=by simpa using ht
        clear hc9 hrm hml hgl ht hnr hno
        go_wp2
        have y0:=hBf.cell 0;have y1:=hBf.cell 1;have y2:=hBf.cell 2;have y3:=hBf.cell 3;have y4:=hBf.cell 4
        refine bodyPost_ret (v:=.tuple #[.agg #[.int .i64 0,.int .i64 0,.int .i64 0,.int .i64 0,.int .i64 0],.bool false]) (by simp [results,Tryz.results45,go_sem,y0,y1,y2,y3,y4]) rfl ⟨rfl,?_⟩
        repeat (first|with_reducible exact ext_new _ _|refine ext_set ?_ (Nat.le_refl _) _)
    · have e:m=rows.length:=by omega
      have d1:decide ((m:Int)<(rows.length:Int))=false:=decide_eq_false (by omega)
      have d2:decide (m<rows.length)=false:=decide_eq_false (by omega)
      clear hml hno e
      go_wp2
      have y0:=hBf.cell 0;have y1:=hBf.cell 1;have y2:=hBf.cell 2;have y3:=hBf.cell 3;have y4:=hBf.cell 4
      refine bodyPost_ret (v:=.tuple #[.agg #[.int .i64 0,.int .i64 0,.int .i64 0,.int .i64 0,.int .i64 0],.bool false]) (by simp [results,Tryz.results45,go_sem,y0,y1,y2,y3,y4]) rfl ⟨rfl,?_⟩
      repeat (first|with_reducible exact ext_new _ _|refine ext_set ?_ (Nat.le_refl _) _)
end
section
open Go.RowKit Go.Shelf
section
attribute [local go_sem] Oper.semAt_some
end
section
attribute [local go_sem] run_semAt
attribute [local go_sem high] app_sem
theorem OwnP.stateR {B gs gm:Nat} {pos:Int} {rs:List RowT} (h:gm<B):OwnP B (fun W=>StateR W gs gm pos rs):=OwnP.and OwnP.blk (fun _ X Y row hs hg hr=>by
  obtain ⟨es,c,hm,h2⟩:=hs
  exact ⟨es,c,OwnP.map (B:=B) h () X Y row hm hg hr,h2⟩)
end
end
section
open Go.RowKit
attribute [local go_sem ↓] Go.wp_at_zero Go.wp_at_succ
theorem encChg_length (c:ChgT):(encChg c).length≤9:=by
  unfold encChg
  cases c.had <;> cases c.has <;> simp
end
section
open Go.RowKit Go.Shelf Go.Lib Go.Sort
def befR (j:Nat) (a b:RowT):Bool := !(ltOf (cmpR j) b a)
theorem befR_iff (j:Nat) (a b:RowT):befR j a b=true↔a.col j<b.col j∨(a.col j=b.col j∧a.k≤b.k):=by
  unfold befR
  rw [cmpR_lt]
  simp
  omega
theorem befR_trans (j:Nat) (a b c:RowT):befR j a b=true→befR j b c=true→befR j a c=true:=by
  rw [befR_iff,befR_iff,befR_iff];omega
theorem befR_total (j:Nat) (a b:RowT):(befR j a b || befR j b a)=true:=by
  rw [Bool.or_eq_true,befR_iff,befR_iff];omega
def Apart (rs:List RowT):Prop:=rs.Pairwise (fun a b=>¬ (a.t=b.t∧a.k=b.k))
theorem Apart.eq:∀ {rs:List RowT},Apart rs→∀ a ∈ rs,∀ b ∈ rs,a.t=b.t→a.k=b.k→a=b
  | [],_,a,ha,_,_,_,_=>by cases ha
  | x :: rs, h, a, ha, b, hb, h1, h2 => by
    rw [Apart,List.pairwise_cons] at h
    rcases List.mem_cons.1 ha with ha1|ha1
    · rcases List.mem_cons.1 hb with hb1|hb1
      · exact ha1.trans hb1.symm
      · subst ha1
        exact absurd ⟨h1,h2⟩ (h.1 b hb1)
    · rcases List.mem_cons.1 hb with hb1|hb1
      · subst hb1
        exact absurd ⟨h1.symm,h2.symm⟩ (h.1 a ha1)
      · exact Apart.eq h.2 a ha1 b hb1 h1 h2
def selF (rs:List RowT) (t:Int) (j:Nat) (lo hi:Int):List RowT:=(rs.filter fun r=>hitR r t j lo hi).mergeSort (befR j)
theorem selF_perm (rs:List RowT) (t:Int) (j:Nat) (lo hi:Int):(selF rs t j lo hi).Perm (rs.filter fun r=>hitR r t j lo hi):=List.mergeSort_perm _ _
theorem selF_sorted (rs:List RowT) (t:Int) (j:Nat) (lo hi:Int):(selF rs t j lo hi).Pairwise (fun a b=>befR j a b=true):=List.pairwise_mergeSort (befR_trans j) (befR_total j) _
theorem selF_mem {rs:List RowT} {t:Int} {j:Nat} {lo hi:Int} {r:RowT}:r ∈ selF rs t j lo hi↔r ∈ rs∧hitR r t j lo hi=true:=by
  rw [(selF_perm rs t j lo hi).mem_iff,List.mem_filter]
theorem selF_length (rs:List RowT) (t:Int) (j:Nat) (lo hi:Int):(selF rs t j lo hi).length≤rs.length:=by
  rw [(selF_perm rs t j lo hi).length_eq]
  exact List.length_filter_le _ _
theorem hitR_t {r:RowT} {t:Int} {j:Nat} {lo hi:Int} (h:hitR r t j lo hi=true):r.t=t:=by
  unfold hitR at h
  simp at h
  exact h.1.1
theorem selF_eq {rs l:List RowT} {t:Int} {j:Nat} {lo hi:Int} (ha:Apart rs) (hp:l.Perm (rs.filter fun r=>hitR r t j lo hi)) (hs:l.Pairwise (fun a b=>befR j a b=true)):l=selF rs t j lo hi:=by
  refine List.Perm.eq_of_pairwise (fun a b h1 h2 h3 h4=>?_) hs (selF_sorted rs t j lo hi) (hp.trans (selF_perm rs t j lo hi).symm)
  have h5:=List.mem_filter.1 (hp.mem_iff.1 h1)
  have h6:=selF_mem.1 h2
  rw [befR_iff] at h3 h4
  refine ha.eq a h5.1 b h6.1 ((hitR_t h5.2).trans (hitR_t h6.2).symm) (by omega)
theorem sortRowsS (l:List RowT) (g c j bc:Nat) (hj:j<4) (w:World) (hbc:w.cell? ⟨bc,0,none⟩=some (.int .i64 (j:Int))) (hne:bc≠g) (hR:RowsC w g l) (hf:∀ i,w.frozen? ⟨g,i,none⟩=false) (hg:g<w.heap.size) (hl:l.length≤1000000) :
    Calls Tryz.prog 138 #[.slice (some ⟨g,0,none⟩) l.length c,.func (.func 139) #[] #[.pointer (some ⟨bc,0,none⟩)]] w fun e w'=>
      (∃ u,e=.returned u)∧∃ l',l'.Perm l∧l'.Pairwise (fun a b=>befR j a b=true)∧RowsC w' g l'∧w.heap.size≤w'.heap.size∧(∀ w0,Below w0.heap.size w0 w→w0.heap.size≤g→Below w0.heap.size w0 w'):=by
  have eg:∀ args w,(callFunc 139 args).run Tryz.prog w=.ok (.enter 139 args) w:=enters_of Tryz.func139 (by kernel_rfl) rfl
  have hcmp:CmpLays Tryz.prog 139 #[.pointer (some ⟨bc,0,none⟩)] encR 5 (cmpR j) g 0 l.toArray.size w:=fun m os dk _ x y=>by
    refine (cmpRow x y j hj bc (sortWorldK encR 5 w g 0 m dk os) ?_).mono fun e w' h=>h
    unfold sortWorldK
    have hb:Below (putRowK encR 5 (Sort.ahead w m) g 0 dk).heap.size (putRowK encR 5 (Sort.ahead w m) g 0 dk) (grow (putRowK encR 5 (Sort.ahead w m) g 0 dk) os):=GrowsFrom.below ⟨0,os,rfl⟩
    refine cell_ext ?_ hb
    rw [cell?_putRowK_other _ _ _ _ _ _ _ (by simpa using hne)]
    exact hbc
  have hcon:=AnyQ.slices_SortFunc Tryz.sortRows 5 Tryz.isAgg67 Tryz.sizeOf67 encR encR_length encR_one (cmpR j) (cmpR_swo j) 139 #[.pointer (some ⟨bc,0,none⟩)] g 0 c l.toArray w eg hcmp (rowsC_holds hR hf) hg (by simp;omega)
  change Calls Tryz.prog 138 _ _ _ at hcon
  refine hcon.mono ?_
  rintro e w' ⟨rfl,d',n,os,hp,hs,rfl⟩
  refine ⟨⟨_,rfl⟩,d'.toList,?_,?_,?_,by simp [sortWorldK,grow,putRowK,Sort.ahead],fun w0 h h0=>sort_below h h0⟩
  · have h1:=hp.2.2
    have hs1:=hp.1
    simp at hs1
    have h2:d'.toList.take l.length=d'.toList:=List.take_of_length_le (by simp [hs1])
    rw [← h2]
    simpa [hs1] using h1
  · have hs1:=hp.1
    simp at hs1
    rw [List.pairwise_iff_getElem]
    intro a b ha hb hab
    have h3:=hs a b (Nat.zero_le _) hab (by simpa [hs1] using hb)
    rw [getElem!_pos d' b (by simpa using hb),getElem!_pos d' a (by simpa using ha)] at h3
    simp [befR,h3]
  · refine holds_rowsC ?_
    unfold sortWorldK
    exact holdsK_grow _ _ _ _ _ _ _ (by simpa [putRowK,Sort.ahead] using hg) (holdsK_putRowK _ _ _ _ _ l.toArray _ (holdsK_ahead _ _ _ _ _ _ _ (rowsC_holds hR hf)) hp.1)
end
section
open Go.RowKit Go.Shelf
attribute [local go_sem ↓] app_exec app_sem Go.wp_at_zero Go.wp_at_succ
def decV:Value→RowT
  | .agg #[.int _ t,.int _ k,.int _ a,.int _ b,.int _ c]=>⟨t,k,a,b,c⟩
  | _=>zeroR
theorem decV_val (r:RowT):decV (.agg #[.int .i64 r.t,.int .i64 r.k,.int .i64 r.a,.int .i64 r.b,.int .i64 r.c])=r:=rfl
def leftR (es:Array MapEntry) (seen:Array Nat) (t:Int) (j:Nat) (lo hi:Int):List RowT:=((leftOf es seen).toList.map fun e=>decV e.val).filter fun r=>hitR r t j lo hi
theorem leftR_start {es:Array MapEntry} {rs:List RowT} {t:Int} {j:Nat} {lo hi:Int} (h:es.toList.map (fun e=>(e.key,e.val))=rs.map (fun r=>(r.keyV,r.val))):([]++leftR es #[] t j lo hi).Perm (rs.filter fun r=>hitR r t j lo hi):=by
  have h1:es.toList.map (fun e=>decV e.val)=rs:=by
    have h2:=congrArg (List.map fun p:Value × Value=>decV p.2) h
    rw [List.map_map,List.map_map] at h2
    have h3:rs.map ((fun p:Value × Value=>decV p.2) ∘ fun r=>(r.keyV,r.val))=rs:=by
      conv=>rhs;rw [← List.map_id rs]
      exact List.map_congr_left fun r _=>decV_val r
    rw [h3] at h2
    exact h2
  have h4:(leftOf es #[]).toList=es.toList:=by simp [leftOf]
  rw [List.nil_append,leftR,h4,h1]
theorem leftR_none {es:Array MapEntry} {seen:Array Nat} {t:Int} {j:Nat} {lo hi:Int} (h:(leftOf es seen).size=0):leftR es seen t j lo hi=[]:=by
  have h1:leftOf es seen=#[]:=Array.eq_empty_of_size_eq_zero h
  rw [leftR,h1]
  rfl
theorem leftOf_perm {es:Array MapEntry} {seen:Array Nat} {e:MapEntry} (hn:(es.toList.map (·.born)).Nodup) (he:e ∈ (leftOf es seen).toList):(leftOf es seen).toList.Perm (e::(leftOf es (seen.push e.born)).toList):=by
  unfold leftOf at *
  rw [Array.toList_filter] at *
  rw [Array.toList_filter]
  generalize es.toList=l at *
  induction l with
  | nil=>simp at he
  | cons x l ih=>
    rw [List.map_cons,List.nodup_cons] at hn
    have hother:∀ y ∈ l,y.born=e.born→¬ e=x:=fun y hy h1 h2=>by subst h2;exact hn.1 (List.mem_map.2 ⟨y,hy,h1⟩)
    by_cases hx:e=x
    · subst hx
      have h1:(!seen.contains e.born)=true:=(List.mem_filter.1 he).2
      rw [List.filter_cons,if_pos h1,List.filter_cons,if_neg (by simp)]
      refine List.Perm.cons e ?_
      rw [List.filter_congr (fun y hy=>?_)]
      have h3:y.born≠e.born:=fun h4=>hother y hy h4 rfl
      simp [h3]
    · have he2:e ∈ l.filter (fun e => !seen.contains e.born):=by
        rw [List.filter_cons] at he
        split at he
        · rcases List.mem_cons.1 he with h|h
          · exact absurd h hx
          · exact h
        · exact he
      have ih2:=ih hn.2 he2
      have hb:x.born≠e.born:=fun h4=>hn.1 (List.mem_map.2 ⟨e,(List.mem_filter.1 he2).1,h4.symm⟩)
      by_cases hc:(!seen.contains x.born)=true
      · have hc2:(!(seen.push e.born).contains x.born)=true:=by simp at hc ⊢;exact ⟨hc,hb⟩
        rw [List.filter_cons,if_pos hc,List.filter_cons,if_pos hc2]
        exact (List.Perm.cons x ih2).trans (List.Perm.swap e x _)
      · have hc2:¬ (!(seen.push e.born).contains x.born)=true:=by
          intro h;apply hc;simp at h ⊢;exact h.1
        rw [List.filter_cons,if_neg hc,List.filter_cons,if_neg hc2]
        exact ih2
theorem leftR_push {es:Array MapEntry} {seen:Array Nat} {e:MapEntry} {r:RowT} {t:Int} {j:Nat} {lo hi:Int} (hn:(es.toList.map (·.born)).Nodup) (he:e ∈ (leftOf es seen).toList) (hv:e.val=.agg #[.int .i64 r.t,.int .i64 r.k,.int .i64 r.a,.int .i64 r.b,.int .i64 r.c]) :
    (leftR es seen t j lo hi).Perm (if hitR r t j lo hi=true then r::leftR es (seen.push e.born) t j lo hi else leftR es (seen.push e.born) t j lo hi):=by
  have h1:=((leftOf_perm hn he).map fun e=>decV e.val).filter fun r=>hitR r t j lo hi
  rw [List.map_cons,hv,decV_val,List.filter_cons] at h1
  exact h1
theorem chosenS (rs:List RowT) (gs gm b1 b2 b3 b4 j:Nat) (pos t lo hi:Int) (hj:j<4) (w:World) (hS:StateR w gs gm pos rs) (hsz:rs.length≤1000) (hap:Apart rs) (hB:Boxes w b1 b2 b3 b4 j t lo hi) :
    Calls Tryz.prog 93 #[.pointer (some ⟨gs,0,none⟩),.int .i64 (j:Int),.func (.func 94) #[] #[.pointer (some ⟨b1,0,none⟩),.pointer (some ⟨b2,0,none⟩),.pointer (some ⟨b3,0,none⟩),.pointer (some ⟨b4,0,none⟩)]] w
      fun e w'=>∃ v,e=.returned v∧RowsL w' v (selF rs t j lo hi)∧Below w.heap.size w w':=by
  obtain ⟨hst,es,c,hm,hnd,hlt,hmap⟩:=hS
  have hes:es.size=rs.length:=by
    have:=congrArg List.length hmap
    simpa using this
  have hmf:∀ (fn:Fn) (first cap:Array Value) (w:World),(Instr.makeFunc fn first cap).run Tryz.prog w=.ok (.func fn first cap) w:=fun _ _ _ _=>rfl
  have hE0:=ext_new w (.cells #[.int .i64 (j:Int)] 3)
  have s0:=(hst.ext hE0).cell 0
  have hrg:=range_map (P:=Tryz.prog) Tryz.underlying99 (hm.ext hE0)
  have HM:=Lib.hid hm
  have HB:=Lib.hid hB
  have HMAP:=Lib.hid hmap
  have HND:=Lib.hid hnd
  have HLT:=Lib.hid hlt
  have HES:=Lib.hid hes
  have HAP:=Lib.hid hap
  have hgm:=hm.lt
  have hgs:=hst.lt
  clear hst hm hnd hlt hmap hB hE0 hap
  go_enter Tryz.func93,Tryz.ntmps93
  go_wp2
  generalize hW1:(w.alloc (.cells #[.int .i64 (j:Int)] 3)).alloc (.mapIter (some gm) c #[] c)=W1
  have HE1:=Lib.hid (show Below w.heap.size w W1 by subst hW1;exact ext_alloc (ext_new _ _) _)
  have HI1:=Lib.hid (show W1.heap[w.heap.size+1]? = some (.mapIter (some gm) c #[] c) by
    subst hW1
    rw [← World.size_alloc w (.cells #[.int .i64 (j:Int)] 3)];exact World.alloc_heap_new _ _)
  have HC1:=Lib.hid (show Blk W1 w.heap.size 3 #[.int .i64 (j:Int)] by subst hW1;exact (Blk.new _ _ _).alloc _)
  have hs1:W1.heap.size=w.heap.size+2:=by subst hW1;simp
  clear hW1 s0 hrg
  go_loopw [7,9] (fun z _ W=>∃ (seen:Array Nat) (l:List RowT),W.ownsRow (w.heap.size+2) 67 5 z l.length (rc l)∧(l++leftR es seen t j lo hi).Perm (rs.filter fun r=>hitR r t j lo hi)∧l.length+(leftOf es seen).size≤es.size∧W.heap[w.heap.size+1]? = some (.mapIter (some gm) c seen c)∧Blk W w.heap.size 3 #[.int .i64 (j:Int)]∧Below w.heap.size w W) (fun _ _ W=>leftN (w.heap.size+1) es W)
  case atStart=>
    exact ⟨#[],[],World.ownsRow_nil _ _ _ _,leftR_start HMAP.out,by simpa [leftOf] using Array.size_filter_le,HI1.out,HC1.out,HE1.out⟩
  case round=>
    obtain ⟨seen,l,ho,hin,hcnt,hit,hcb,hE⟩:=hrel
    have HO:=Lib.hid ho
    have HIN:=Lib.hid hin
    have HCNT:=Lib.hid hcnt
    have HE:=Lib.hid hE
    have HCB:=Lib.hid hcb
    have HIT:=Lib.hid hit
    have hws:=hE.size
    have hsz2:w.heap.size+2≤wr.heap.size:=by have:=(Array.getElem?_eq_some_iff.1 hit).1;omega
    have hmw:=HM.out.ext hE
    rcases run_next_at (P:=Tryz.prog) wr 0 (w.heap.size+1) gm c c seen es c hit hmw HLT.out (Nat.le_refl _) with ⟨h0,hrun⟩|⟨e,he,w1,hw1,hrun⟩
    · have hnx:∀ t,(Instr.next (.pointer (some ⟨w.heap.size+1,0,none⟩)) false t).run Tryz.prog wr=.ok (.tuple #[.bool false]) wr:=fun t=>hrun
      have HIN2:=Lib.hid (show l.Perm (rs.filter fun r=>hitR r t j lo hi) by have h9:=HIN.out;rw [leftR_none h0,List.append_nil] at h9;exact h9)
      clear hin hcnt hE hcb hit hrun hmw h0
      have HLEN:=Lib.hid (show l.length≤rs.length by have:=HCNT.out;have:=HES.out;omega)
      by_cases hl0:l.length=0
      · obtain ⟨A,cc,hsh⟩:=own_shape ho
        subst hsh
        have HL0:=Lib.hid hl0
        rw [hl0] at ho
        clear ho
        rw [hl0]
        go_wp2_with (go_at_call 138;refine (sort_none _ _ _ _).mono ?_;rintro e w' ⟨⟨u,rfl⟩,rfl⟩)
        go_ret
        refine ⟨_,rfl,?_,HE.out⟩
        have hl9:=List.eq_nil_of_length_eq_zero HL0.out
        have hs9:selF rs t j lo hi=[]:=by
          rw [← selF_eq (l:=l) HAP.out HIN2.out (by rw [hl9];exact List.Pairwise.nil)]
          exact hl9
        rw [hs9]
        exact ⟨A,cc,rfl,fun h=>absurd h (by simp)⟩
      · obtain ⟨g,cap,cur,hsh,hg,hblk⟩:=own_blk ho (by omega)
        subst hsh
        have HR:=Lib.hid (show RowsC wr g l from fun jj r hr i hi=>by
          have h1:=rc_at l jj r hr i hi
          rw [List.getElem?_eq_getElem (show i<(encR r).length from hi)] at h1 ⊢
          have h2:=ho.cells (g:=g) rfl _ _ h1
          rw [add_lit0] at h2
          exact h2)
        have HBLK:=Lib.hid hblk
        have HNE:=Lib.hid (show w.heap.size≠g by omega)
        have HGG:=Lib.hid hg
        clear ho hblk hg
        have HL0:=Lib.hid hl0
        clear hl0
        go_wp2_with (go_at_call 138;refine (sortRowsS l g cap j w.heap.size hj wr (HCB.out.cell 0) HNE.out HR.out (fun i=>HBLK.out.frozen i) HBLK.out.lt (by have:=HLEN.out;omega)).mono ?_;rintro e w' ⟨⟨u,rfl⟩,l',hp,hso,hr',hsw,hbw⟩;have HSO:=Lib.hid hso;have HSW:=Lib.hid hsw;clear hsw;have HP:=Lib.hid hp;have HR':=Lib.hid hr';have HBW:=Lib.hid hbw;clear hp hr' hbw hso)
        go_ret
        have hE9:=HBW.out w HE.out (by have:=HGG.out;omega)
        have hlen:=HP.out.length_eq
        have hs9:=selF_eq (l:=l') HAP.out (HP.out.trans HIN2.out) HSO.out
        refine ⟨_,rfl,?_,hE9⟩
        rw [← hs9]
        refine ⟨some ⟨g,0,none⟩,cap,by rw [hlen];rfl,fun _=>⟨g,rfl,?_,HR'.out⟩⟩
        have h9:=HSW.out
        have:=HBLK.out.lt
        omega
    · obtain ⟨r,hr,hkey,hval⟩:=entry_row HMAP.out (by have h1:=he;unfold leftOf at h1;simp at h1;simpa using h1.1:e ∈ es.toList)
      have HR:=Lib.hid hr
      obtain ⟨W1,hW1⟩:∃ W1,W1=w1.putObj (w.heap.size+1) (.mapIter (some gm) c (seen.push e.born) c):=⟨_,rfl⟩
      have hrun':∀ t,(Instr.next (.pointer (some ⟨w.heap.size+1,0,none⟩)) false t).run Tryz.prog wr=.ok (.tuple #[.bool true,r.keyV,.agg #[.int .i64 r.t,.int .i64 r.k,.int .i64 r.a,.int .i64 r.b,.int .i64 r.c]]) W1:=fun t=>by
        rw [hW1,← hkey,← hval]
        exact hrun
      have hE1':Below w.heap.size w w1:=by rcases hw1 with rfl|rfl;exact hE;exact hE.drew
      have ho1:w1.ownsRow (w.heap.size+2) 67 5 u7 l.length (rc l):=by rcases hw1 with rfl|rfl;exact ho;exact ho
      have hi1:w.heap.size+1<w1.heap.size:=by rcases hw1 with rfl|rfl;exact (Array.getElem?_eq_some_iff.1 hit).1;exact (Array.getElem?_eq_some_iff.1 hit).1
      have hc1:Blk w1 w.heap.size 3 #[.int .i64 (j:Int)]:=by rcases hw1 with rfl|rfl;exact hcb;exact hcb
      have HEW:=Lib.hid (show Below w.heap.size w W1 by rw [hW1];exact ext_put hE1' (by omega) _)
      have HOW:=Lib.hid (show W1.ownsRow (w.heap.size+2) 67 5 u7 l.length (rc l) by rw [hW1];exact iter_step ho1 (by omega))
      have HIW:=Lib.hid (show W1.heap[w.heap.size+1]? = some (.mapIter (some gm) c (seen.push e.born) c) by rw [hW1];exact World.putObj_heap_same hi1)
      have HCW:=Lib.hid (show Blk W1 w.heap.size 3 #[.int .i64 (j:Int)] by rw [hW1];exact hc1.putObj _ (by omega))
      have HLF:=Lib.hid (leftOf_push es seen e he)
      have HLP:=Lib.hid (leftR_push (t:=t) (j:=j) (lo:=lo) (hi:=hi) HND.out he hval)
      have hmem:e ∈ es.toList:=by have h1:=he;unfold leftOf at h1;simp at h1;simpa using h1.1
      have hent:=run_entry_at (P:=Tryz.prog) W1 (w.heap.size+1) gm c seen es c e HIW.out (HM.out.ext HEW.out) hmem HND.out
      rw [hkey,hval] at hent
      have HX:=Lib.hid (fun W:World=>isInR r b1 b2 b3 b4 j t lo hi hj W)
      have HRW:=Lib.hid (show leftN (w.heap.size+1) es wr=(leftOf es seen).size by unfold leftN;rw [hit])
      have HRC:=Lib.hid (rc_append l r)
      obtain ⟨r0,r1,r2,r3,r4⟩:=r
      dsimp only at hrun' hent HX
      have hs3:w.heap.size+2≤W1.heap.size:=by have:=(Array.getElem?_eq_some_iff.1 HIW.out).1;omega
      clear ho hin hcnt hE hcb hit hrun hmw hkey hval hE1' ho1 hi1 hc1 hW1 hw1 hmem he hr
      have HBX:=Lib.hid (HB.out.ext HEW.out)
      have HRX:=Lib.hid (Blk.new W1 67 #[.int .i64 r0,.int .i64 r1,.int .i64 r2,.int .i64 r3,.int .i64 r4])
      go_wp2_with fail
      refine (HX.out _ (HBX.out.ext (ext_new _ _))).mono ?_
      rintro e' W3 ⟨rfl,hb3⟩
      have hX3:=HRX.out.ext hb3
      have x0:=hX3.cell 0;have x1:=hX3.cell 1;have x2:=hX3.cell 2;have x3:=hX3.cell 3;have x4:=hX3.cell 4
      have xl:=hX3.lt
      have HE3:=Lib.hid (ext_call (ext_alloc HEW.out (.cells #[.int .i64 r0,.int .i64 r1,.int .i64 r2,.int .i64 r3,.int .i64 r4] 67)) hb3)
      have HI3:=Lib.hid (heap_ext (heap_ext HIW.out (ext_new W1 (.cells #[.int .i64 r0,.int .i64 r1,.int .i64 r2,.int .i64 r3,.int .i64 r4] 67))) hb3)
      have HC3:=Lib.hid ((HCW.out.alloc (.cells #[.int .i64 r0,.int .i64 r1,.int .i64 r2,.int .i64 r3,.int .i64 r4] 67)).ext hb3)
      have HO3:=Lib.hid (own_ext (HOW.out.alloc (.cells #[.int .i64 r0,.int .i64 r1,.int .i64 r2,.int .i64 r3,.int .i64 r4] 67)) hb3)
      have hs4:w.heap.size+2≤W3.heap.size:=by have:=hb3.size;simp at this;omega
      clear hb3 hX3 hrun' hent HBX HRX HIW HCW HOW
      obtain ⟨hb,hbb⟩:∃ hb,hb=hitR ⟨r0,r1,r2,r3,r4⟩ t j lo hi:=⟨_,rfl⟩
      rw [← hbb]
      have HBB:=Lib.hid hbb
      clear hbb
      cases hb with
      | false=>
        go_wp2
        go_roundw
        case rel=>exact ⟨seen.push e.born,l,HO3.out,by have h9:=HLP.out;rw [if_neg (by rw [← HBB.out];decide)] at h9;exact (List.Perm.append_left l h9.symm).trans HIN.out,by have:=HCNT.out;have:=HLF.out;omega,HI3.out,HC3.out,HE3.out⟩
        case measure=>
          have h9:leftN (w.heap.size+1) es W3=(leftOf es (seen.push e.born)).size:=by unfold leftN;rw [HI3.out]
          rw [h9,HRW.out]
          exact HLF.out
      | true=>
        obtain ⟨ha,W4,hW4,v4,hv4,ho4,hg4⟩:=appRow W3 (w.heap.size+2) hs4 u7 l.length (rc l) HO3.out (by have:=HCNT.out;have:=HES.out;omega) ⟨r0,r1,r2,r3,r4⟩
        dsimp only at ha hW4 hv4 hg4
        have HO4:=Lib.hid ho4
        have hown:u7.ownBlock=none∨∃ g,u7.ownBlock=some g∧w.heap.size+2≤g:=by
          rcases HO3.out.2 with ⟨h1,_⟩|⟨g,cap,cur,h1,h2,_⟩
          · exact .inl (by rw [h1];rfl)
          · exact .inr ⟨g,by rw [h1];rfl,h2⟩
        have HE4:=Lib.hid ((ext_alloc HE3.out (.cells #[.int .i64 r0,.int .i64 r1,.int .i64 r2,.int .i64 r3,.int .i64 r4] 67)).grown hg4 (ext_alloc HE3.out (.cells #[.int .i64 r0,.int .i64 r1,.int .i64 r2,.int .i64 r3,.int .i64 r4] 67)).size (fun k e=>by rcases hown with h|⟨g,h,h2⟩ <;> rw [h] at e;cases e;have e2:=Option.some.inj e;omega))
        have HC4:=Lib.hid ((HC3.out.alloc (.cells #[.int .i64 r0,.int .i64 r1,.int .i64 r2,.int .i64 r3,.int .i64 r4] 67)).grown hg4 (by rcases hown with h|⟨g,h,h2⟩ <;> rw [h];simp;intro h3;have h4:=Option.some.inj h3;omega))
        have HI4:=Lib.hid (show W4.heap[w.heap.size+1]? = some (.mapIter (some gm) c (seen.push e.born) c) by
          rw [hg4.block (w.heap.size+1) (by simp;omega) (by rcases hown with h|⟨g,h,h2⟩ <;> rw [h];simp;intro h3;have h4:=Option.some.inj h3;omega)]
          exact heap_ext HI3.out (ext_new W3 _))
        clear ho4 hg4 hown
        go_wp2
        go_roundw
        case rel=>exact ⟨seen.push e.born,l++[⟨r0,r1,r2,r3,r4⟩],by rw [HRC.out,List.length_append];exact HO4.out,by have h9:=HLP.out;rw [if_pos HBB.out.symm] at h9;rw [List.append_assoc,List.singleton_append];exact (List.Perm.append_left l h9.symm).trans HIN.out,by have:=HCNT.out;have:=HLF.out;simp;omega,HI4.out,HC4.out,HE4.out⟩
        case measure=>
          have h9:leftN (w.heap.size+1) es W4=(leftOf es (seen.push e.born)).size:=by unfold leftN;rw [HI4.out]
          rw [h9,HRW.out]
          exact HLF.out
theorem rangeS (rs:List RowT) (gs gm j:Nat) (pos t lo hi:Int) (hj:j<4) (w:World) (hS:StateR w gs gm pos rs) (hsz:rs.length≤1000) (hap:Apart rs) :
    Calls Tryz.prog 51 #[.pointer (some ⟨gs,0,none⟩),.int .i64 t,.int .i64 (j:Int),.int .i64 lo,.int .i64 hi] w
      fun e w'=>∃ v,e=.returned v∧RowsL w' v (selF rs t j lo hi)∧Below w.heap.size w w':=by
  have hmf:∀ (fn:Fn) (first cap:Array Value) (w:World),(Instr.makeFunc fn first cap).run Tryz.prog w=.ok (.func fn first cap) w:=fun _ _ _ _=>rfl
  have HS:=Lib.hid hS
  clear hS
  have l1:decide ((j:Int)<0)=false:=decide_eq_false (by omega)
  have l2:decide (4≤(j:Int))=false:=decide_eq_false (by omega)
  go_enter Tryz.func51,Tryz.ntmps51
  go_wp2_with fail
  generalize hW1:World.alloc (((w.alloc (.cells #[.int .i64 t] 3)).alloc (.cells #[.int .i64 (j:Int)] 3)).alloc (.cells #[.int .i64 lo] 3)) (.cells #[.int .i64 hi] 3)=W1
  have hE1:Below w.heap.size w W1:=by subst hW1;exact ext_alloc (ext_alloc (ext_alloc (ext_new _ _) _) _) _
  have hB1:Boxes W1 (w.heap.size+1) w.heap.size (w.heap.size+1+1) (w.heap.size+1+1+1) j t lo hi:=by
    subst hW1
    exact ⟨((Blk.new' _ _ _ (by simp)).alloc _).alloc _,(((Blk.new' _ _ _ (by simp)).alloc _).alloc _).alloc _,(Blk.new' _ _ _ (by simp)).alloc _,Blk.new' _ _ _ (by simp)⟩
  refine (chosenS rs gs gm _ _ _ _ j pos t lo hi hj W1 (HS.out.ext hE1) hsz hap hB1).mono ?_
  rintro e W2 ⟨v,rfl,hr,hb2⟩
  have HE2:=Lib.hid (ext_call hE1 hb2)
  have HR2:=Lib.hid hr
  clear hW1 hE1 hB1 hb2 hr
  go_wp2
  go_ret
  exact ⟨_,rfl,HR2.out,HE2.out⟩
end
end Go.Proofs.YtimoapjhepmehaaGreatDoor
