/-
  Part 9 of 9: the contracts that the proof of the last part uses; each stands under its own head.
-/
import Derived.Shelf.SlSortCmp.WholeK
import Derived.Ground.SlsfProg
import Derived.Test.YtnajpjnnlocfgaaGreatDoorProg
import Derived.Test.YtnajpjnnlocfgaaGreatDoorJ8
import Derived.Test.YtnajpjnnlocfgaaGreatDoorJ2
import Derived.Test.YtnajpjnnlocfgaaGreatDoorJ3
import Derived.Test.YtnajpjnnlocfgaaGreatDoorJ5
import Derived.Deep.RegionHeld3
import Derived.Test.YtnajpjnnlocfgaaGreatDoorJ7
import Derived.Test.YtnajpjnnlocfgaaGreatDoorJ4
set_option linter.unusedSimpArgs false
set_option linter.unusedVariables false
set_option maxHeartbeats 4000000
set_option maxRecDepth 100000
namespace Go.Proofs
open Go.Shelf
def Tryz.sortRows_ren:Go.Shelf.Ren:=⟨fun|6=>232|15=>105|14=>241|28=>148|29=>149|20=>243|21=>244|22=>245|23=>246|24=>247|25=>248|26=>249|27=>250|46=>251|47=>252|48=>253|49=>254|50=>255|57=>256|n=>n,fun|22=>78|24=>108|25=>328|3=>3|39=>169|0=>0|53=>187|55=>223|4=>4|46=>334|45=>333|50=>338|5=>5|9=>9|66=>340|70=>344|76=>346|77=>347|n=>n,fun|n=>n⟩
theorem Tryz.sortRows:Go.Proofs.SlLaysF0.n6 Tryz.prog Tryz.sortRows_ren:={
  mixed:=by kernel_rfl
  f6:=⟨Tryz.f232.name,by decide,Tryz.func232.trans (congrArg some (by kernel_rfl))⟩
  f14:=⟨Tryz.f241.name,by decide,Tryz.func241.trans (congrArg some (by kernel_rfl))⟩
  f15:=Tryz.func105.trans (congrArg some (by kernel_rfl))
  f20:=⟨Tryz.f243.name,by decide,Tryz.func243.trans (congrArg some (by kernel_rfl))⟩
  f21:=⟨Tryz.f244.name,by decide,Tryz.func244.trans (congrArg some (by kernel_rfl))⟩
  f22:=⟨Tryz.f245.name,by decide,Tryz.func245.trans (congrArg some (by kernel_rfl))⟩
  f23:=⟨Tryz.f246.name,by decide,Tryz.func246.trans (congrArg some (by kernel_rfl))⟩
  f24:=⟨Tryz.f247.name,by decide,Tryz.func247.trans (congrArg some (by kernel_rfl))⟩
  f25:=⟨Tryz.f248.name,by decide,Tryz.func248.trans (congrArg some (by kernel_rfl))⟩
  f26:=⟨Tryz.f249.name,by decide,Tryz.func249.trans (congrArg some (by kernel_rfl))⟩
  f27:=⟨Tryz.f250.name,by decide,Tryz.func250.trans (congrArg some (by kernel_rfl))⟩
  f28:=Tryz.func148.trans (congrArg some (by kernel_rfl))
  f29:=Tryz.func149.trans (congrArg some (by kernel_rfl))
  f46:=⟨Tryz.f251.name,by decide,Tryz.func251.trans (congrArg some (by kernel_rfl))⟩
  f47:=Tryz.func252.trans (congrArg some (by kernel_rfl))
  f48:=Tryz.func253.trans (congrArg some (by kernel_rfl))
  f49:=⟨Tryz.f254.name,by decide,Tryz.func254.trans (congrArg some (by kernel_rfl))⟩
  f50:=⟨Tryz.f255.name,by decide,Tryz.func255.trans (congrArg some (by kernel_rfl))⟩
  f57:=⟨Tryz.f256.name,by decide,Tryz.func256.trans (congrArg some (by kernel_rfl))⟩
  t0:=Tryz.underlying0
  a0:=Tryz.isAgg0
  z0:=Tryz.sizeOf0
  v0:=Tryz.zeroValue0
  t3:=Tryz.underlying3
  a3:=Tryz.isAgg3
  z3:=Tryz.sizeOf3
  v3:=Tryz.zeroValue3
  t4:=Tryz.underlying4
  a4:=Tryz.isAgg4
  z4:=Tryz.sizeOf4
  v4:=Tryz.zeroValue4
  t5:=Tryz.underlying5
  a5:=Tryz.isAgg5
  z5:=Tryz.sizeOf5
  v5:=Tryz.zeroValue5
  t9:=Tryz.underlying9
  a9:=Tryz.isAgg9
  z9:=Tryz.sizeOf9
  v9:=Tryz.zeroValue9
  t22:=Tryz.underlying78
  a22:=Tryz.isAgg78
  z22:=Tryz.sizeOf78
  v22:=Tryz.zeroValue78
  t25:=Tryz.underlying328
  a25:=Tryz.isAgg328
  z25:=Tryz.sizeOf328
  v25:=Tryz.zeroValue328
  t39:=Tryz.underlying169
  a39:=Tryz.isAgg169
  z39:=Tryz.sizeOf169
  v39:=Tryz.zeroValue169
  t45:=Tryz.underlying333
  a45:=Tryz.isAgg333
  z45:=Tryz.sizeOf333
  v45:=Tryz.zeroValue333
  t46:=Tryz.underlying334
  a46:=Tryz.isAgg334
  z46:=Tryz.sizeOf334
  v46:=Tryz.zeroValue334
  t50:=Tryz.underlying338
  a50:=Tryz.isAgg338
  z50:=Tryz.sizeOf338
  v50:=Tryz.zeroValue338
  t53:=Tryz.underlying187
  a53:=Tryz.isAgg187
  z53:=Tryz.sizeOf187
  v53:=Tryz.zeroValue187
  t55:=Tryz.underlying223
  a55:=Tryz.isAgg223
  z55:=Tryz.sizeOf223
  v55:=Tryz.zeroValue223
  t66:=Tryz.underlying340
  a66:=Tryz.isAgg340
  z66:=Tryz.sizeOf340
  v66:=Tryz.zeroValue340
  t70:=Tryz.underlying344
  a70:=Tryz.isAgg344
  z70:=Tryz.sizeOf344
  v70:=Tryz.zeroValue344
  t76:=Tryz.underlying346
  a76:=Tryz.isAgg346
  z76:=Tryz.sizeOf346
  v76:=Tryz.zeroValue346
  t77:=Tryz.underlying347
  a77:=Tryz.isAgg347
  z77:=Tryz.sizeOf347
  v77:=Tryz.zeroValue347 }
end Go.Proofs
namespace Go.Proofs.YtnajpjnnlocfgaaGreatDoor
open Go.RowKit Go.Shelf Go.Lib Go.Sort
attribute [local go_sem ↓] Go.wp_at_zero Go.wp_at_succ
theorem rowValueA (r:RowT) (j:Nat) (hj:j<4) (w:World) :
    Calls Tryz.prog 212 #[.agg #[.int .i64 r.t,.int .i64 r.k,.int .i64 r.a,.int .i64 r.b,.int .i64 r.c],.int .i64 (j:Int)] w fun e w'=>e=.returned (.int .i64 (r.col j))∧w'=w.alloc (.cells #[.int .i64 r.t,.int .i64 r.k,.int .i64 r.a,.int .i64 r.b,.int .i64 r.c] 108):=by
  obtain ⟨t,k,a,b,c⟩:=r
  match j,hj with
  | 0,_=>
    go_enter Tryz.func212,Tryz.ntmps212
    go_wp2
    go_ret
    exact ⟨rfl,rfl⟩
  | 1,_=>
    go_enter Tryz.func212,Tryz.ntmps212
    go_wp2
    go_ret
    exact ⟨rfl,rfl⟩
  | 2,_=>
    go_enter Tryz.func212,Tryz.ntmps212
    go_wp2
    go_ret
    exact ⟨rfl,rfl⟩
  | 3,_=>
    go_enter Tryz.func212,Tryz.ntmps212
    go_wp2
    go_ret
    exact ⟨rfl,rfl⟩
def GrowsFrom (X W:World):Prop:=∃ q os,W=grow (X.drewN q) os
section
variable {X W V:World}
theorem GrowsFrom.refl (X:World):GrowsFrom X X:=⟨0,#[],by rw [grow_empty];rfl⟩
theorem GrowsFrom.alloc (h:GrowsFrom X W) (o:Obj):GrowsFrom X (W.alloc o):=by
  obtain ⟨q,os,rfl⟩:=h
  exact ⟨q,os ++ #[o],by rw [alloc_eq_grow,grow_grow]⟩
theorem GrowsFrom.drew (h:GrowsFrom X W):GrowsFrom X W.drew:=by
  obtain ⟨q,os,rfl⟩:=h
  exact ⟨q+1,os,rfl⟩
theorem GrowsFrom.below (h:GrowsFrom X W):Below X.heap.size X W:=by
  obtain ⟨q,os,rfl⟩:=h
  exact ⟨rfl,rfl,rfl,by simp [grow,World.drewN],fun k hk=>by simp only [grow,World.drewN];rw [Array.getElem?_append_left hk]⟩
end
theorem cmpOr2 (b c:Nat) (x y r:Int) (hr:r=if x=0 then y else x) (w:World) (h0:w.cell? ⟨b,0,none⟩=some (.int .i64 x)) (h1:w.cell? ⟨b,1,none⟩=some (.int .i64 y)):Calls Tryz.prog 234 #[.slice (some ⟨b,0,none⟩) 2 c] w fun e w'=>e=.returned (.int .i64 r)∧w=w':=by
  have HR:=Lib.hid hr
  clear hr
  go_enter Tryz.func234,Tryz.ntmps234
  go_wp2
  refine wp_loop_rounds 3 ?_
  rw [rounds_succ]
  by_cases hx:x=0
  · subst hx
    go_wp2
    rw [rounds_succ]
    by_cases hy:y=0
    · subst hy
      go_wp2
      rw [rounds_succ]
      go_wp2
      go_ret
      exact ⟨by rw [HR.out];simp,rfl⟩
    · go_wp2
      go_ret
      exact ⟨by rw [HR.out];simp,rfl⟩
  · go_wp2
    go_ret
    exact ⟨by rw [HR.out];simp [hx],rfl⟩
def cmpR (j:Nat) (x y:RowT):Int:=if compareInt (x.col j) (y.col j)=0 then compareInt x.k y.k else compareInt (x.col j) (y.col j)
def encR (r:RowT):List Value:=[.int .i64 r.t,.int .i64 r.k,.int .i64 r.a,.int .i64 r.b,.int .i64 r.c]
theorem cmpKeep {X V:World} {bc b d:Nat} {j t1 k1 a1 b1 c1 t2 k2 a2 b2 c2:Int} (h:X.cell? ⟨bc,0,none⟩=some (.int .i64 j)∧X.cell? ⟨b,0,none⟩=some (.int .i64 t1)∧X.cell? ⟨b,1,none⟩=some (.int .i64 k1)∧X.cell? ⟨b,2,none⟩=some (.int .i64 a1)∧X.cell? ⟨b,3,none⟩=some (.int .i64 b1)∧X.cell? ⟨b,4,none⟩=some (.int .i64 c1)∧X.cell? ⟨d,0,none⟩=some (.int .i64 t2)∧X.cell? ⟨d,1,none⟩=some (.int .i64 k2)∧X.cell? ⟨d,2,none⟩=some (.int .i64 a2)∧X.cell? ⟨d,3,none⟩=some (.int .i64 b2)∧X.cell? ⟨d,4,none⟩=some (.int .i64 c2)) (k:GrowsFrom X V):V.cell? ⟨bc,0,none⟩=some (.int .i64 j)∧V.cell? ⟨b,0,none⟩=some (.int .i64 t1)∧V.cell? ⟨b,1,none⟩=some (.int .i64 k1)∧V.cell? ⟨b,2,none⟩=some (.int .i64 a1)∧V.cell? ⟨b,3,none⟩=some (.int .i64 b1)∧V.cell? ⟨b,4,none⟩=some (.int .i64 c1)∧V.cell? ⟨d,0,none⟩=some (.int .i64 t2)∧V.cell? ⟨d,1,none⟩=some (.int .i64 k2)∧V.cell? ⟨d,2,none⟩=some (.int .i64 a2)∧V.cell? ⟨d,3,none⟩=some (.int .i64 b2)∧V.cell? ⟨d,4,none⟩=some (.int .i64 c2)∧GrowsFrom X V:=by
  obtain ⟨h0,h1,h2,h3,h4,h5,h6,h7,h8,h9,h10⟩:=h
  have e:=k.below
  exact ⟨cell_ext h0 e,cell_ext h1 e,cell_ext h2 e,cell_ext h3 e,cell_ext h4 e,cell_ext h5 e,cell_ext h6 e,cell_ext h7 e,cell_ext h8 e,cell_ext h9 e,cell_ext h10 e,k⟩
theorem cmpGrow {X V:World} {bc b d:Nat} {j t1 k1 a1 b1 c1 t2 k2 a2 b2 c2:Int} (h:V.cell? ⟨bc,0,none⟩=some (.int .i64 j)∧V.cell? ⟨b,0,none⟩=some (.int .i64 t1)∧V.cell? ⟨b,1,none⟩=some (.int .i64 k1)∧V.cell? ⟨b,2,none⟩=some (.int .i64 a1)∧V.cell? ⟨b,3,none⟩=some (.int .i64 b1)∧V.cell? ⟨b,4,none⟩=some (.int .i64 c1)∧V.cell? ⟨d,0,none⟩=some (.int .i64 t2)∧V.cell? ⟨d,1,none⟩=some (.int .i64 k2)∧V.cell? ⟨d,2,none⟩=some (.int .i64 a2)∧V.cell? ⟨d,3,none⟩=some (.int .i64 b2)∧V.cell? ⟨d,4,none⟩=some (.int .i64 c2)∧GrowsFrom X V):GrowsFrom X V:=h.2.2.2.2.2.2.2.2.2.2.2
theorem cmpRow (x y:RowT) (j:Nat) (hj:j<4) (bc:Nat) (W:World) (hc:W.cell? ⟨bc,0,none⟩=some (.int .i64 (j:Int))) :
    Calls Tryz.prog 233 #[.agg #[.int .i64 x.t,.int .i64 x.k,.int .i64 x.a,.int .i64 x.b,.int .i64 x.c],.agg #[.int .i64 y.t,.int .i64 y.k,.int .i64 y.a,.int .i64 y.b,.int .i64 y.c],.pointer (some ⟨bc,0,none⟩)] W fun e w'=>e=.returned (.int .i64 (cmpR j x y))∧GrowsFrom W w':=by
  have HV1:=Lib.hid (fun W:World=>rowValueA x j hj W)
  have HV2:=Lib.hid (fun W:World=>rowValueA y j hj W)
  have HR:=Lib.hid (show cmpR j x y=if compareInt (x.col j) (y.col j)=0 then compareInt x.k y.k else compareInt (x.col j) (y.col j) from rfl)
  generalize cmpR j x y=r at HR ⊢
  generalize x.col j=v1 at *
  generalize y.col j=v2 at *
  obtain ⟨t1,k1,a1,b1,c1⟩:=x
  obtain ⟨t2,k2,a2,b2,c2⟩:=y
  dsimp only at *
  obtain ⟨X,hX⟩:∃ X,X=(W.alloc (.cells #[.int .i64 t1,.int .i64 k1,.int .i64 a1,.int .i64 b1,.int .i64 c1] 108)).alloc (.cells #[.int .i64 t2,.int .i64 k2,.int .i64 a2,.int .i64 b2,.int .i64 c2] 108):=⟨_,rfl⟩
  have HX:=Lib.hid hX
  have h1:Blk X W.heap.size 108 #[.int .i64 t1,.int .i64 k1,.int .i64 a1,.int .i64 b1,.int .i64 c1]:=by rw [hX];exact (Blk.new _ _ _).alloc _
  have h2:Blk X (W.heap.size+1) 108 #[.int .i64 t2,.int .i64 k2,.int .i64 a2,.int .i64 b2,.int .i64 c2]:=by rw [hX];exact Blk.new' _ _ _ (by simp)
  have hcX:X.cell? ⟨bc,0,none⟩=some (.int .i64 (j:Int)):=by rw [hX];exact cell_ext hc (ext_alloc (ext_new W _) _)
  generalize (j:Int)=j at *
  have HK:=Lib.hid (show X.cell? ⟨bc,0,none⟩=some (.int .i64 j)∧X.cell? ⟨W.heap.size,0,none⟩=some (.int .i64 t1)∧X.cell? ⟨W.heap.size,1,none⟩=some (.int .i64 k1)∧X.cell? ⟨W.heap.size,2,none⟩=some (.int .i64 a1)∧X.cell? ⟨W.heap.size,3,none⟩=some (.int .i64 b1)∧X.cell? ⟨W.heap.size,4,none⟩=some (.int .i64 c1)∧X.cell? ⟨W.heap.size+1,0,none⟩=some (.int .i64 t2)∧X.cell? ⟨W.heap.size+1,1,none⟩=some (.int .i64 k2)∧X.cell? ⟨W.heap.size+1,2,none⟩=some (.int .i64 a2)∧X.cell? ⟨W.heap.size+1,3,none⟩=some (.int .i64 b2)∧X.cell? ⟨W.heap.size+1,4,none⟩=some (.int .i64 c2) from ⟨hcX,h1.cell 0,h1.cell 1,h1.cell 2,h1.cell 3,h1.cell 4,h2.cell 0,h2.cell 1,h2.cell 2,h2.cell 3,h2.cell 4⟩)
  have HG:=Lib.hid (show GrowsFrom W X by rw [hX];exact ((GrowsFrom.refl W).alloc _).alloc _)
  have HCM:=Lib.hid (fun (x y:Int) (W:World)=>Tryz.cmp_Compare_int x y W)
  clear h1 h2 hcX hX hc
  go_enter Tryz.func233,Tryz.ntmps233
  go_upto_region 1 with (fail)
  rw [← HX.out]
  go_region_held3 (fun w'=>w'.cell? ⟨bc,0,none⟩=some (.int .i64 j)∧w'.cell? ⟨W.heap.size,0,none⟩=some (.int .i64 t1)∧w'.cell? ⟨W.heap.size,1,none⟩=some (.int .i64 k1)∧w'.cell? ⟨W.heap.size,2,none⟩=some (.int .i64 a1)∧w'.cell? ⟨W.heap.size,3,none⟩=some (.int .i64 b1)∧w'.cell? ⟨W.heap.size,4,none⟩=some (.int .i64 c1)∧w'.cell? ⟨W.heap.size+1,0,none⟩=some (.int .i64 t2)∧w'.cell? ⟨W.heap.size+1,1,none⟩=some (.int .i64 k2)∧w'.cell? ⟨W.heap.size+1,2,none⟩=some (.int .i64 a2)∧w'.cell? ⟨W.heap.size+1,3,none⟩=some (.int .i64 b2)∧w'.cell? ⟨W.heap.size+1,4,none⟩=some (.int .i64 c2)∧GrowsFrom X w')
    (first|with_reducible assumption|exact cmpKeep HK.out (by repeat (first|with_reducible refine GrowsFrom.alloc ?_ _|with_reducible refine GrowsFrom.drew ?_|with_reducible assumption|with_reducible exact GrowsFrom.refl _|exact cmpGrow (by assumption))))
    (first
      | (go_at_call 212;first|((with_reducible refine (HV1.out _).mono ?_);rintro e w' ⟨rfl,rfl⟩)|((with_reducible refine (HV2.out _).mono ?_);rintro e w' ⟨rfl,rfl⟩))
      | (go_at_call 235;(refine (HCM.out _ _ _).mono ?_);rintro e w' ⟨rfl,rfl⟩)
      | (go_at_call 234;refine (cmpOr2 _ _ (compareInt v1 v2) (compareInt k1 k2) r HR.out _ ?_ ?_).mono ?_;(exact (Blk.new' _ _ _ (by simp)).drew.cell 0);(exact (Blk.new' _ _ _ (by simp)).drew.cell 1);rintro e w' ⟨rfl,rfl⟩))
  go_wp2
  go_ret
  exact ⟨rfl,(((HG.out.alloc _).alloc _).alloc _).drew⟩
end Go.Proofs.YtnajpjnnlocfgaaGreatDoor
namespace Go.Proofs.YtnajpjnnlocfgaaGreatDoor
open Go.RowKit Go.Shelf Go.Lib Go.Sort
instance:Inhabited RowT:=⟨zeroR⟩
theorem encR_length (r:RowT):(encR r).length=5:=rfl
theorem encR_one (r:RowT):∀ v ∈ encR r,v.oneCell'=true:=by
  intro v hv
  simp only [encR,List.mem_cons,List.not_mem_nil,or_false] at hv
  rcases hv with rfl|rfl|rfl|rfl|rfl <;> rfl
theorem cmpR_lt (j:Nat) (x y:RowT):ltOf (cmpR j) x y=(decide (x.col j<y.col j) || (decide (x.col j=y.col j) && decide (x.k<y.k))):=by
  unfold ltOf cmpR compareInt
  by_cases h1:x.col j<y.col j
  · have h2:¬ x.col j=y.col j:=by omega
    simp [h1,h2]
  · by_cases h2:x.col j=y.col j
    · by_cases h3:x.k<y.k
      · simp [h2,h3]
      · by_cases h4:y.k<x.k <;> simp [h2,h3,h4]
    · have h3:x.col j > y.col j:=by omega
      simp [h1,h2,h3]
theorem cmpR_swo (j:Nat):SWO (ltOf (cmpR j)) where
  irrefl x:=by rw [cmpR_lt];simp
  trans x y z h1 h2:=by rw [cmpR_lt] at *;simp at *;omega
  ntrans x y z h1 h2:=by rw [cmpR_lt] at *;simp at *;omega
def RowsC (w:World) (g:Nat) (l:List RowT):Prop:=∀ (j:Nat) (r:RowT),l[j]? = some r→∀ i,i<5→w.cell? ⟨g,j*5+i,none⟩=(encR r)[i]?
theorem RowsC.ext {w W:World} {g:Nat} {l:List RowT} (h:RowsC w g l) (k:Below w.heap.size w W):RowsC W g l:=by
  intro j r hj i hi
  have h1:=h j r hj i hi
  rw [List.getElem?_eq_getElem (show i<(encR r).length from hi)] at h1 ⊢
  exact cell_ext h1 k
theorem rowsC_holds {w:World} {g:Nat} {l:List RowT} (h:RowsC w g l) (hf:∀ i,w.frozen? ⟨g,i,none⟩=false):HoldsK encR 5 w g 0 l.toArray:=by
  intro t ht
  rw [size_flatK] at ht
  rw [get_flatK _ _ _ _ ht,Nat.zero_add]
  refine ⟨?_,hf t⟩
  have hj:t / 5<l.length:=by simp at ht;omega
  have h1:=h (t / 5) _ (List.getElem?_eq_getElem hj) (t % 5) (Nat.mod_lt _ (by omega))
  have e:t / 5*5+t % 5=t:=by omega
  rw [e] at h1
  rw [h1]
  have e2:l.toArray[t / 5]! = l[t / 5]:=by rw [getElem!_pos l.toArray (t / 5) (by simpa using hj)];rfl
  rw [e2,List.getElem?_eq_getElem (show t % 5<(encR l[t / 5]).length from Nat.mod_lt _ (by omega)),getElem!_pos (encR l[t / 5]) (t % 5) (Nat.mod_lt _ (by omega))]
  rfl
theorem holds_rowsC {w:World} {g:Nat} {d:Array RowT} (h:HoldsK encR 5 w g 0 d):RowsC w g d.toList:=by
  intro j r hj i hi
  have hlt:=(List.getElem?_eq_some_iff.1 hj).1
  have hlt':j<d.size:=by simpa using hlt
  have h1:=(h (j*5+i) (by rw [size_flatK];omega)).1
  rw [get_flatK _ _ _ _ (by omega),Nat.zero_add] at h1
  have e1:(j*5+i) / 5=j:=by omega
  have e2:(j*5+i) % 5=i:=by omega
  rw [e1,e2] at h1
  rw [h1]
  have e3:d[j]! = r:=by
    rw [getElem!_pos d j hlt']
    have h3:=(List.getElem?_eq_some_iff.1 hj).2
    rw [← h3]
    simp
  rw [e3,List.getElem?_eq_getElem (show i<(encR r).length from hi),getElem!_pos (encR r) i hi]
  rfl
theorem sort_below {w w0:World} {g n:Nat} {d:Array RowT} {os:Array Obj} (h:Below w0.heap.size w0 w) (hg:w0.heap.size≤g):Below w0.heap.size w0 (sortWorldK encR 5 w g 0 n d os):=by
  refine ⟨h.os,h.tape,h.output,?_,fun k hk=>?_⟩
  · have:=h.size
    simp [sortWorldK,grow,putRowK,Sort.ahead]
    omega
  · have hk2:k<w.heap.size:=Nat.lt_of_lt_of_le hk h.size
    rw [← h.block k hk]
    simp only [sortWorldK,grow,putRowK,putRow,mapBlock,Sort.ahead]
    rw [Array.getElem?_append_left (by simpa using hk2),Array.getElem?_modify,if_neg (by omega)]
end Go.Proofs.YtnajpjnnlocfgaaGreatDoor
namespace Go.Proofs.YtnajpjnnlocfgaaGreatDoor
open Go.RowKit Go.Shelf
attribute [local go_sem ↓] app_exec app_sem Go.wp_at_zero Go.wp_at_succ
def rc (l:List RowT):List Value:=l.flatMap encR
theorem rc_append (l:List RowT) (r:RowT):rc (l++[r])=rc l++encR r:=by simp [rc]
theorem rc_at:∀ (l:List RowT) (j:Nat) (x:RowT),l[j]? = some x→∀ i,i<5→(rc l)[j*5+i]? = (encR x)[i]?
  | [],j,x,h,i,hi=>by simp at h
  | y::l,0,x,h,i,hi=>by
    simp only [List.getElem?_cons_zero,Option.some.injEq] at h
    subst h
    simp only [rc,List.flatMap_cons,Nat.zero_mul,Nat.zero_add]
    rw [List.getElem?_append_left (show i<(encR y).length from hi)]
  | y::l,j+1,x,h,i,hi=>by
    have h1:=rc_at l j x (by simpa using h) i hi
    simp only [rc,List.flatMap_cons]
    rw [List.getElem?_append_right (by simp [encR];omega)]
    have e:(j+1)*5+i-(encR y).length=j*5+i:=by simp [encR];omega
    rw [e]
    exact h1
def RowsL (w:World) (v:Value) (l:List RowT):Prop:=∃ A c,v=.slice A l.length c∧(0<l.length→∃ g,A=some ⟨g,0,none⟩∧g<w.heap.size∧RowsC w g l)
theorem RowsL.ext {w W:World} {v:Value} {l:List RowT} (h:RowsL w v l) (k:Below w.heap.size w W):RowsL W v l:=by
  obtain ⟨A,c,rfl,h⟩:=h
  refine ⟨A,c,rfl,fun h0=>?_⟩
  obtain ⟨g,hA,hg,hr⟩:=h h0
  exact ⟨g,hA,Nat.lt_of_lt_of_le hg k.size,hr.ext k⟩
def hitR (r:RowT) (t:Int) (j:Nat) (lo hi:Int):Bool:=(r.t == t) && decide (lo≤r.col j) && decide (r.col j≤hi)
theorem isInR (r : RowT) (b1 b2 b3 b4 j : Nat) (t lo hi : Int) (hj : j < 4) (w : World) (hB : Boxes w b1 b2 b3 b4 j t lo hi) :
    Calls Tryz.prog 211 #[.agg #[.int .i64 r.t,.int .i64 r.k,.int .i64 r.a,.int .i64 r.b,.int .i64 r.c],.pointer (some ⟨b1,0,none⟩),.pointer (some ⟨b2,0,none⟩),.pointer (some ⟨b3,0,none⟩),.pointer (some ⟨b4,0,none⟩)] w fun e w'=>e=.returned (.bool (hitR r t j lo hi))∧Below w.heap.size w w':=by
  have HV:=Lib.hid (fun W:World=>rowValue_any r j hj W)
  unfold hitR
  generalize r.col j=v at *
  obtain ⟨r0,r1,r2,r3,r4⟩:=r
  dsimp only at *
  have HB:=Lib.hid (hB.ext (ext_new w (.cells #[.int .i64 r0,.int .i64 r1,.int .i64 r2,.int .i64 r3,.int .i64 r4] 108)))
  have HR:=Lib.hid (Blk.new w 108 #[.int .i64 r0,.int .i64 r1,.int .i64 r2,.int .i64 r3,.int .i64 r4])
  clear hB
  have c1:=HB.out.1.cell 0
  go_enter Tryz.func211,Tryz.ntmps211
  go_wp2_with fail
  refine (HV.out _).mono ?_
  rintro e W1 ⟨rfl,hb1⟩
  have hB1:=HB.out.ext hb1
  have a0:=(HR.out.ext hb1).cell 0
  have d2:=hB1.2.1.cell 0
  have d3:=hB1.2.2.1.cell 0
  have d4:=hB1.2.2.2.cell 0
  have HL:=Lib.hid (ext_call (ext_new w _) hb1)
  clear hb1 hB1 c1
  by_cases h1:r0=t
  · subst h1
    by_cases h2:lo≤v
    · go_wp2
      go_ret
      exact ⟨by simp [h2],HL.out⟩
    · go_wp2
      go_ret
      exact ⟨by have h3:¬ lo≤v:=by omega
                simp [h3],HL.out⟩
  · have h1':(r0 == t)=false:=by simpa using h1
    go_wp2
    go_ret
    exact ⟨by simp [h1],HL.out⟩
theorem rowz_info:(Tryz.prog.info? 108).map (fun i=>(i.zero,i.size,i.bytes))=some (some (.agg #[.int .i64 0,.int .i64 0,.int .i64 0,.int .i64 0,.int .i64 0]),5,40):=by kernel_rfl
theorem appRow (W:World) (base:Nat) (hb:base≤W.heap.size) (v:Value) (n:Nat) (xs:List Value) (hown:W.ownsRow base 108 5 v n xs) (hn:n≤1000000) (r:RowT) :
    AppOK Tryz.prog (W.alloc (.cells #[.int .i64 r.t,.int .i64 r.k,.int .i64 r.a,.int .i64 r.b,.int .i64 r.c] 108)) 78 78 v (.slice (some ⟨W.heap.size,0,none⟩) 1 1)∧∃ W',appW Tryz.prog (W.alloc (.cells #[.int .i64 r.t,.int .i64 r.k,.int .i64 r.a,.int .i64 r.b,.int .i64 r.c] 108)) 78 78 v (.slice (some ⟨W.heap.size,0,none⟩) 1 1)=W' ∧
      ∃ v',appV Tryz.prog (W.alloc (.cells #[.int .i64 r.t,.int .i64 r.k,.int .i64 r.a,.int .i64 r.b,.int .i64 r.c] 108)) 78 78 v (.slice (some ⟨W.heap.size,0,none⟩) 1 1)=v'∧W'.ownsRow base 108 5 v' (n+1) (xs++encR r)∧(W.alloc (.cells #[.int .i64 r.t,.int .i64 r.k,.int .i64 r.a,.int .i64 r.b,.int .i64 r.c] 108)).grownBy W' v.ownBlock:=by
  obtain ⟨ii,hii,hzi0,hzi1,hzi2⟩:=info_parts rowz_info
  obtain ⟨h1,h2,h3⟩:=app_own (P:=Tryz.prog) (w:=W.alloc (.cells #[.int .i64 r.t,.int .i64 r.k,.int .i64 r.a,.int .i64 r.b,.int .i64 r.c] 108)) base 78 78 108 ii (.agg #[.int .i64 0,.int .i64 0,.int .i64 0,.int .i64 0,.int .i64 0]) 5 40 Tryz.underlying78 hii hzi0 hzi1 hzi2 rfl (by decide) v n xs (hown.alloc _) ⟨W.heap.size,0,none⟩ 1 1 (encR r) rfl (fun i u hu=>by
    rw [add_lit0]
    have hB:=Blk.new W 108 #[.int .i64 r.t,.int .i64 r.k,.int .i64 r.a,.int .i64 r.b,.int .i64 r.c]
    rw [hB.cell]
    rw [← hu]
    simp [encR]) (encR_one r) (by unfold maxLen;omega) (by omega) (by simp;omega)
  exact ⟨h1,_,rfl,_,rfl,h2,h3⟩
def leftN (it:Nat) (es:Array MapEntry) (W:World):Nat:=match W.heap[it]? with|some (.mapIter _ _ seen _)=>(leftOf es seen).size|_=>0
theorem leftOf_push (es:Array MapEntry) (seen:Array Nat) (e:MapEntry) (he:e ∈ (leftOf es seen).toList):(leftOf es (seen.push e.born)).size<(leftOf es seen).size:=by
  unfold leftOf at *
  simp only [Array.toList_filter,List.mem_filter] at he
  have hsz:∀ p:MapEntry→Bool,(es.filter p).size=es.toList.countP p:=fun p=>by rw [List.countP_eq_length_filter,← Array.toList_filter,Array.length_toList]
  rw [hsz,hsz]
  obtain ⟨h1,h2⟩:=he
  clear hsz
  generalize es.toList=l at *
  induction l with
  | nil=>simp at h1
  | cons x l ih=>
    have hle:∀ m:List MapEntry,m.countP (fun e_1 => !(seen.push e.born).contains e_1.born)≤m.countP (fun e => !seen.contains e.born):=fun m=>List.countP_mono_left (fun y _ hy=>by simp at hy ⊢;exact hy.1)
    rw [List.countP_cons,List.countP_cons]
    rcases List.mem_cons.1 h1 with rfl|h3
    · have h4:=hle l
      have h5:(!(seen.push e.born).contains e.born)=false:=by simp
      simp only [h5,h2,Bool.false_eq_true,if_false,if_true]
      omega
    · have h4:=ih h3
      have h5:((if (!(seen.push e.born).contains x.born)=true then 1 else 0):Nat)≤(if (!seen.contains x.born)=true then 1 else 0):=by
        by_cases h6:seen.contains x.born=true
        · have:(seen.push e.born).contains x.born=true:=by simp at h6 ⊢;exact .inl h6
          rw [h6,this];simp
        · have h7:seen.contains x.born=false:=by simpa using h6
          rw [h7]
          split <;> simp
      omega
theorem entry_row {rs:List RowT} {es:Array MapEntry} (h:es.toList.map (fun e=>(e.key,e.val))=rs.map (fun r=>(r.keyV,r.val))) {e:MapEntry} (he:e ∈ es.toList):∃ r,r ∈ rs∧e.key=r.keyV∧e.val=.agg #[.int .i64 r.t,.int .i64 r.k,.int .i64 r.a,.int .i64 r.b,.int .i64 r.c]:=by
  have h1:(e.key,e.val) ∈ rs.map (fun r=>(r.keyV,r.val)):=by rw [← h];exact List.mem_map.2 ⟨e,he,rfl⟩
  obtain ⟨r,hr,h2⟩:=List.mem_map.1 h1
  injection h2 with h3 h4
  exact ⟨r,hr,h3.symm,h4.symm⟩
end Go.Proofs.YtnajpjnnlocfgaaGreatDoor
namespace Go.Proofs.YtnajpjnnlocfgaaGreatDoor
open Go.RowKit Go.Shelf
attribute [local go_sem ↓] app_exec app_sem Go.wp_at_zero Go.wp_at_succ
theorem own_ext {W W':World} {base n sz:Nat} {e:TypeId} {v:Value} {xs:List Value} (h:W.ownsRow base e sz v n xs) (k:Below W.heap.size W W'):W'.ownsRow base e sz v n xs:=by
  refine ⟨h.1,?_⟩
  rcases h.2 with hn'|⟨g,cap,cur,h1,h2,h3,h4⟩
  · exact .inl hn'
  · exact .inr ⟨g,cap,cur,h1,h2,(k.block g (Array.getElem?_eq_some_iff.1 h3).1).trans h3,h4⟩
theorem iter_step {W:World} {it:Nat} {o:Obj} {B n sz:Nat} {e:TypeId} {v:Value} {xs:List Value} (h:W.ownsRow B e sz v n xs) (hB:it<B):(W.putObj it o).ownsRow B e sz v n xs:=by
  refine h.kept (row:=some it) ⟨rfl,rfl,rfl,by simp,fun k _ hk=>World.putObj_heap_other (fun e=>hk (by rw [e]))⟩ ?_
  rcases h.2 with ⟨rfl,_⟩|⟨g,cap,cur,rfl,hg,_⟩
  · exact .inl rfl
  · exact .inr (by simp [Value.ownBlock];omega)
end Go.Proofs.YtnajpjnnlocfgaaGreatDoor
namespace Go.Proofs.YtnajpjnnlocfgaaGreatDoor
open Go.RowKit Go.Shelf
attribute [local go_sem ↓] app_exec app_sem Go.wp_at_zero Go.wp_at_succ
def RowT.sm (r:RowT):Prop:=r.ok∧r.t<64∧r.k<64∧∀ x ∈ [r.a,r.b,r.c],-64≤x∧x<64
theorem appStr (W:World) (base:Nat) (hb:base≤W.heap.size) (v:Value) (n:Nat) (xs:List Value) (hown:W.ownsRow base 9 1 v n xs) (hn:n≤1000000) (s:ByteArray) :
    AppOK Tryz.prog (W.alloc (.cells #[.string s] 9)) 44 44 v (.slice (some ⟨W.heap.size,0,none⟩) 1 1)∧∃ W',appW Tryz.prog (W.alloc (.cells #[.string s] 9)) 44 44 v (.slice (some ⟨W.heap.size,0,none⟩) 1 1)=W' ∧
      ∃ v',appV Tryz.prog (W.alloc (.cells #[.string s] 9)) 44 44 v (.slice (some ⟨W.heap.size,0,none⟩) 1 1)=v'∧W'.ownsRow base 9 1 v' (n+1) (xs++[.string s])∧(W.alloc (.cells #[.string s] 9)).grownBy W' v.ownBlock:=by
  obtain ⟨is,his,hzs0,hzs1,hzs2⟩:=str_infoS
  obtain ⟨h1,h2,h3⟩:=app_own (P:=Tryz.prog) (w:=W.alloc (.cells #[.string s] 9)) base 44 44 9 is (.string ⟨#[]⟩) 1 16 Tryz.underlying44 his hzs0 hzs1 hzs2 rfl (by decide) v n xs (hown.alloc _) ⟨W.heap.size,0,none⟩ 1 1 [.string s] rfl (cell_one_new _ _ _) (by simp [Value.oneCell']) (by unfold maxLen;omega) (by omega) (by simp;omega)
  exact ⟨h1,_,rfl,_,rfl,h2,h3⟩
theorem own_strs {W:World} {base n:Nat} {v:Value} {ss:List ByteArray} (h:W.ownsRow base 9 1 v n (ss.map Value.string)) (hn:ss.length=n):Strs (fun _=>True) W v ss:=by
  subst hn
  by_cases h0:0<ss.length
  · obtain ⟨g,cap,cur,rfl,hg,hb⟩:=own_blk h h0
    refine ⟨_,cap,rfl,?_,fun _=>⟨g,0,rfl,trivial,fun j x hx=>?_⟩⟩
    · rcases h.2 with ⟨he,_⟩|⟨g',cap',cur',he,_,_,h6,_⟩
      · cases he
      · injection he with _ _ hc
        omega
    · have h1:=h.cells (g:=g) rfl j (.string x) (by rw [List.getElem?_map,hx];rfl)
      rw [add_lit0] at h1
      rw [Nat.zero_add]
      exact h1
  · have h1:ss=[]:=List.length_eq_zero_iff.1 (by omega)
    subst h1
    obtain ⟨A,c,hsh⟩:=own_shape h
    exact ⟨A,c,hsh,by simp,fun h=>absurd h (by simp)⟩
theorem RowsL.at_ {w:World} {v:Value} {l:List RowT} (h:RowsL w v l) {j:Nat} {r:RowT} (hj:l[j]? = some r):∃ g c,v=.slice (some ⟨g,0,none⟩) l.length c∧g<w.heap.size∧∀ i,i<5→w.cell? ⟨g,j*5+i,none⟩=(encR r)[i]? := by
  obtain ⟨A,c,rfl,h⟩:=h
  have hlt:=(List.getElem?_eq_some_iff.1 hj).1
  obtain ⟨g,rfl,hg,hr⟩:=h (by omega)
  exact ⟨g,c,rfl,hg,hr j r hj⟩
end Go.Proofs.YtnajpjnnlocfgaaGreatDoor
namespace Go.Proofs.YtnajpjnnlocfgaaGreatDoor
open Go.RowKit Go.Shelf
section
attribute [local go_sem] Oper.semAt_some
end
section
attribute [local go_sem] run_semAt
attribute [local go_sem high] app_sem
theorem OwnP.stateR {B gs gm:Nat} {pos:Int} {rs:List RowT} (h:gm<B):OwnP B (fun W=>StateR W gs gm pos rs):=OwnP.and OwnP.blk (fun _ X Y row hs hg hr=>by
  obtain ⟨es,c,hm,h2⟩:=hs
  exact ⟨es,c,OwnP.map (B:=B) h () X Y row hm hg hr,h2⟩)
end
end Go.Proofs.YtnajpjnnlocfgaaGreatDoor
namespace Go.Proofs.YtnajpjnnlocfgaaGreatDoor
open Go.RowKit
attribute [local go_sem ↓] Go.wp_at_zero Go.wp_at_succ
theorem encChg_length (c:ChgT):(encChg c).length≤9:=by
  unfold encChg
  cases c.had <;> cases c.has <;> simp
end Go.Proofs.YtnajpjnnlocfgaaGreatDoor
namespace Go.Proofs.YtnajpjnnlocfgaaGreatDoor
open Go.RowKit
attribute [local go_sem ↓] Go.wp_at_zero Go.wp_at_succ
theorem logOwnG (p:Int) (l:List ChgT) (v:Value) (w:World) (hv:ChgsAt w v l) (h0:0<l.length) (h1:l.length≤8) :
    Calls Tryz.prog 52 #[.agg #[.int .i64 p,v]] w fun e w'=>∃ g d,e=.returned (.agg #[.int .i64 p,.slice (some ⟨g,0,none⟩) l.length d])∧w.heap.size≤g∧l.length≤d∧ChgB w' g l∧Below w.heap.size w w':=by
  have HVV:=Lib.hid hv
  obtain ⟨A,c,rfl,-⟩:=hv
  have HV:=HVV
  clear HVV
  have HX0:=Lib.hid ((Blk.new w 43 #[.int .i64 p,.slice A l.length c]).alloc (.cells #[.int .i64 0,.slice none 0 0] 43))
  have HO0:=Lib.hid (Blk.new' (w.alloc (.cells #[.int .i64 p,.slice A l.length c] 43)) 43 #[.int .i64 0,.slice none 0 0] (b:=w.heap.size+1) (by simp))
  have HB:=Lib.hid (HV.out.ext (ext_alloc (ext_new w (.cells #[.int .i64 p,.slice A l.length c] 43)) (.cells #[.int .i64 0,.slice none 0 0] 43)))
  clear HV
  go_enter Tryz.func52,Tryz.ntmps52
  go_wp2_with fail
  refine (cloneChgs l _ _ HB.out h0 (by omega)).mono ?_
  rintro e W1 ⟨g,d,rfl,hgg,hd,hch,hb1⟩
  have HD:=Lib.hid hd
  clear hd
  have HGG:=Lib.hid hgg
  have HCH:=Lib.hid hch
  clear hgg hch
  have HX1:=Lib.hid (HX0.out.ext hb1)
  have HO1:=Lib.hid (HO0.out.ext hb1)
  have HE1:=Lib.hid (ext_call (ext_alloc (ext_new w _) _) hb1)
  clear hb1
  have x0:=HX1.out.cell 0;have x1:=HX1.out.cell 1
  have o0:=HO1.out.cell 0;have o1:=HO1.out.cell 1
  have f0:=HX1.out.frozen 0
  have f1:=HX1.out.frozen 1
  have g0:=HO1.out.frozen 0
  have g1:=HO1.out.frozen 1
  go_wp2
  have hBf:=((HO1.out.far (p:=⟨w.heap.size,1,none⟩) (by simp) (.slice (some ⟨g,0,none⟩) l.length d)).set_ 0 (.int .i64 p)).set_ 1 (.slice (some ⟨g,0,none⟩) l.length d)
  have y0:=hBf.cell 0;have y1:=hBf.cell 1
  refine bodyPost_ret (v:=.agg #[.int .i64 p,.slice (some ⟨g,0,none⟩) l.length d]) (by simp [results,Tryz.results52,go_sem,y0,y1]) rfl ⟨_,_,rfl,?_,HD.out,?_,?_⟩
  · have:=HGG.out;simp at this;omega
  · have h2:=HGG.out;simp at h2;exact ((HCH.out.far (by simp;omega) _).far (by simp;omega) _).far (by simp;omega) _
  exact ext_set (ext_set (ext_set HE1.out (by simp) _) (by simp) _) (by simp) _
def rcF:Nat→List (List ChgT × Nat × Nat)→List Value
  | _,[]=>[]
  | i,x::r=>.int .i64 ((i:Int)+1) :: .slice (some ⟨x.2.1,0,none⟩) x.1.length x.2.2::rcF (i+1) r
def hcF:Nat→List (ByteArray × ByteArray)→List Value
  | _,[]=>[]
  | i,h::r=>.int .i64 (i:Int) :: .string h.1 :: .string h.2::hcF (i+1) r
theorem rcF_append:∀ (R:List (List ChgT × Nat × Nat)) (i:Nat) (x:List ChgT × Nat × Nat),rcF i (R++[x])=rcF i R++[.int .i64 (((i+R.length:Nat):Int)+1),.slice (some ⟨x.2.1,0,none⟩) x.1.length x.2.2]
  | [],i,x=>by simp [rcF]
  | y::R,i,x=>by
    simp only [List.cons_append,rcF,rcF_append R (i+1) x,List.length_cons]
    rw [show i+1+R.length=i+(R.length+1) by omega]
theorem hcF_append:∀ (H:List (ByteArray × ByteArray)) (i:Nat) (x:ByteArray × ByteArray),hcF i (H++[x])=hcF i H++[.int .i64 ((i+H.length:Nat):Int),.string x.1,.string x.2]
  | [],i,x=>by simp [hcF]
  | y::H,i,x=>by
    simp only [List.cons_append,hcF,hcF_append H (i+1) x,List.length_cons]
    rw [show i+1+H.length=i+(H.length+1) by omega]
theorem rcF_at:∀ (R:List (List ChgT × Nat × Nat)) (i j:Nat) (x:List ChgT × Nat × Nat),R[j]? = some x→(rcF i R)[j*2]? = some (.int .i64 (((i+j:Nat):Int)+1))∧(rcF i R)[j*2+1]? = some (.slice (some ⟨x.2.1,0,none⟩) x.1.length x.2.2)
  | [],i,j,x,h=>by simp at h
  | y::R,i,0,x,h=>by simp at h;subst h;simp [rcF]
  | y::R,i,j+1,x,h=>by
    have h1:=rcF_at R (i+1) j x (by simpa using h)
    rw [show i+1+j=i+(j+1) by omega] at h1
    rw [show (j+1)*2=j*2+2 by omega]
    simpa [rcF] using h1
theorem hcF_at:∀ (H:List (ByteArray × ByteArray)) (i j:Nat) (x:ByteArray × ByteArray),H[j]? = some x→(hcF i H)[j*3]? = some (.int .i64 ((i+j:Nat):Int))∧(hcF i H)[j*3+1]? = some (.string x.1)∧(hcF i H)[j*3+2]? = some (.string x.2)
  | [],i,j,x,h=>by simp at h
  | y::H,i,0,x,h=>by simp at h;subst h;simp [hcF]
  | y::H,i,j+1,x,h=>by
    have h1:=hcF_at H (i+1) j x (by simpa using h)
    rw [show i+1+j=i+(j+1) by omega] at h1
    rw [show (j+1)*3=j*3+3 by omega]
    simpa [hcF] using h1
structure LogG2 (B C:Nat) (w:World) (gl:Nat) (rv hv:Value) (R:List (List ChgT × Nat × Nat)) (H:List (ByteArray × ByteArray)):Prop where
  log:Blk w gl 115 #[rv,hv]
  recs:w.ownsRow B 43 2 rv R.length (rcF 0 R)
  heads:w.ownsRow C 30 3 hv H.length (hcF 0 H)
  chg:∀ x ∈ R,ChgB w x.2.1 x.1∧x.1.length≤x.2.2
  len:H.length=R.length+1
  sizes:∀ h ∈ H,h.1.size=32∧h.2.size=32
theorem LogG2.ext {B C:Nat} {w W:World} {gl:Nat} {rv hv:Value} {R:List (List ChgT × Nat × Nat)} {H:List (ByteArray × ByteArray)} (h:LogG2 B C w gl rv hv R H) (k:Below w.heap.size w W):LogG2 B C W gl rv hv R H:=
  ⟨h.log.ext k,own_ext h.recs k,own_ext h.heads k,fun x hx=>⟨(h.chg x hx).1.ext k,(h.chg x hx).2⟩,h.len,h.sizes⟩
abbrev LogG (B:Nat):=LogG2 B B
theorem LogG.ext {B:Nat} {w W:World} {gl:Nat} {rv hv:Value} {R:List (List ChgT × Nat × Nat)} {H:List (ByteArray × ByteArray)} (h:LogG B w gl rv hv R H) (k:Below w.heap.size w W):LogG B W gl rv hv R H:=LogG2.ext h k
def ApX (gl:Nat) (rv hv:Value) (k:Nat):Prop:=k=gl∨rv.ownBlock=some k∨hv.ownBlock=some k
structure ApI2 (B C:Nat) (X:World) (gl:Nat) (rv hv:Value) (R:List (List ChgT × Nat × Nat)) (rv':Value) (nr:Nat) (rcs:List Value) (hv':Value) (nh:Nat) (hcs:List Value) (U:World):Prop where
  ext:ExtS (ApX gl rv hv) X U
  log:Blk U gl 115 #[rv,hv]
  recs:U.ownsRow B 43 2 rv' nr rcs
  heads:U.ownsRow C 30 3 hv' nh hcs
  chg:∀ x ∈ R,ChgB U x.2.1 x.1
section
variable {B C:Nat} {X U V:World} {gl nr nh:Nat} {rv hv rv' hv':Value} {R:List (List ChgT × Nat × Nat)} {rcs hcs:List Value}
theorem ApI2.start {H:List (ByteArray × ByteArray)} (h:LogG2 B C X gl rv hv R H):ApI2 B C X gl rv hv R rv R.length (rcF 0 R) hv H.length (hcF 0 H) X:=
  ⟨.of_ext (ext_refl X),h.log,h.recs,h.heads,fun x hx=>(h.chg x hx).1⟩
theorem ApI2.below (h:ApI2 B C X gl rv hv R rv' nr rcs hv' nh hcs U) (k:Below U.heap.size U V):ApI2 B C X gl rv hv R rv' nr rcs hv' nh hcs V:=
  ⟨h.ext.trans (.of_ext k),h.log.ext k,own_ext h.recs k,own_ext h.heads k,fun x hx=>(h.chg x hx).ext k⟩
theorem ChgB.grownT {e:TypeId} {sz n:Nat} {g:Nat} {l:List ChgT} {v:Value} {xs:List Value} (h:ChgB U g l) (hg:U.grownBy V v.ownBlock) (ho:U.ownsRow B e sz v n xs) (ht:62≠e):ChgB V g l:=by
  obtain ⟨cur,h,h2⟩:=h
  refine ⟨cur,h.grown hg ?_,h2⟩
  rcases ho.2 with ⟨rfl,_⟩|⟨g',cap,cur',rfl,_,hb,_⟩
  · simp [Value.ownBlock]
  · intro e2
    have e3:g=g':=Option.some.inj e2
    subst e3
    exact blkNe h hb ht rfl
theorem Blk.grownT {t e:TypeId} {sz n g:Nat} {cs:Array Value} {v:Value} {xs:List Value} (h:Blk U g t cs) (hg:U.grownBy V v.ownBlock) (ho:U.ownsRow B e sz v n xs) (ht:t≠e):Blk V g t cs:=by
  refine h.grown hg ?_
  rcases ho.2 with ⟨rfl,_⟩|⟨g',cap,cur',rfl,_,hb,_⟩
  · simp [Value.ownBlock]
  · intro e2
    have e3:g=g':=Option.some.inj e2
    subst e3
    exact blkNe h hb ht rfl
theorem own_grownT {B':Nat} {e e':TypeId} {sz n sz' n':Nat} {v v':Value} {xs xs':List Value} (h:U.ownsRow B e' sz' v' n' xs') (hg:U.grownBy V v.ownBlock) (ho:U.ownsRow B' e sz v n xs) (ht:e'≠e):V.ownsRow B e' sz' v' n' xs':=
  h.kept hg (own_ne h ho ht)
theorem ApI2.app_rec {w1:Value} {n1:Nat} {xs1:List Value} (h:ApI2 B C X gl rv hv R rv nr rcs hv' nh hcs U) (ho:V.ownsRow B 43 2 w1 n1 xs1) (hg:U.grownBy V rv.ownBlock):ApI2 B C X gl rv hv R w1 n1 xs1 hv' nh hcs V:=
  ⟨⟨hg.os.trans h.ext.os,hg.tape.trans h.ext.tape,hg.output.trans h.ext.output,Nat.le_trans h.ext.size hg.size,fun k hk hn=>(hg.block k (Nat.lt_of_lt_of_le hk h.ext.size) (fun e=>hn (.inr (.inl e.symm)))).trans (h.ext.block k hk hn)⟩,
    h.log.grownT hg h.recs (by decide),ho,own_grownT h.heads hg h.recs (by decide),fun x hx=>(h.chg x hx).grownT hg h.recs (by decide)⟩
theorem ApI2.app_head {w1:Value} {n1:Nat} {xs1:List Value} (h:ApI2 B C X gl rv hv R rv' nr rcs hv nh hcs U) (ho:V.ownsRow C 30 3 w1 n1 xs1) (hg:U.grownBy V hv.ownBlock):ApI2 B C X gl rv hv R rv' nr rcs w1 n1 xs1 V:=
  ⟨⟨hg.os.trans h.ext.os,hg.tape.trans h.ext.tape,hg.output.trans h.ext.output,Nat.le_trans h.ext.size hg.size,fun k hk hn=>(hg.block k (Nat.lt_of_lt_of_le hk h.ext.size) (fun e=>hn (.inr (.inr e.symm)))).trans (h.ext.block k hk hn)⟩,
    h.log.grownT hg h.heads (by decide),own_grownT h.recs hg h.heads (by decide),ho,fun x hx=>(h.chg x hx).grownT hg h.heads (by decide)⟩
end
end Go.Proofs.YtnajpjnnlocfgaaGreatDoor
namespace Go.Proofs.YtnajpjnnlocfgaaGreatDoor
open Go.RowKit
attribute [local go_sem ↓] Go.wp_at_zero Go.wp_at_succ
theorem recg_info:(Tryz.prog.info? 43).map (fun i=>(i.zero,i.size,i.bytes))=some (some (.agg #[.int .i64 0,.slice none 0 0]),2,32):=by kernel_rfl
theorem headg_info:(Tryz.prog.info? 30).map (fun i=>(i.zero,i.size,i.bytes))=some (some (.agg #[.int .i64 0,.string ⟨#[]⟩,.string ⟨#[]⟩]),3,40):=by kernel_rfl
theorem agKeep5 {W0 W W':World} {gl gh rb n:Nat} {hv:Value} {c s:ByteArray} {p:Int} {v:Value} (h:W.cell? ⟨gl,1,none⟩=some hv∧W.cell? ⟨gh,n*3,none⟩=some (.int .i64 (n:Int))∧W.cell? ⟨gh,n*3+1,none⟩=some (.string c)∧W.cell? ⟨gh,n*3+2,none⟩=some (.string s) ∧
    W.cell? ⟨rb,0,none⟩=some (.int .i64 p)∧W.cell? ⟨rb,1,none⟩=some v∧Below W0.heap.size W0 W) (hb:Below W.heap.size W W'):W'.cell? ⟨gl,1,none⟩=some hv∧W'.cell? ⟨gh,n*3,none⟩=some (.int .i64 (n:Int))∧W'.cell? ⟨gh,n*3+1,none⟩=some (.string c)∧W'.cell? ⟨gh,n*3+2,none⟩=some (.string s) ∧
    W'.cell? ⟨rb,0,none⟩=some (.int .i64 p)∧W'.cell? ⟨rb,1,none⟩=some v∧Below W0.heap.size W0 W':=
  ⟨cell_ext h.1 hb,cell_ext h.2.1 hb,cell_ext h.2.2.1 hb,cell_ext h.2.2.2.1 hb,cell_ext h.2.2.2.2.1 hb,cell_ext h.2.2.2.2.2.1 hb,ext_call h.2.2.2.2.2.2 hb⟩
theorem agB5 {W0 W:World} {gl gh rb n:Nat} {hv:Value} {c s:ByteArray} {p:Int} {v:Value} (h:W.cell? ⟨gl,1,none⟩=some hv∧W.cell? ⟨gh,n*3,none⟩=some (.int .i64 (n:Int))∧W.cell? ⟨gh,n*3+1,none⟩=some (.string c)∧W.cell? ⟨gh,n*3+2,none⟩=some (.string s) ∧
    W.cell? ⟨rb,0,none⟩=some (.int .i64 p)∧W.cell? ⟨rb,1,none⟩=some v∧Below W0.heap.size W0 W):Below W0.heap.size W0 W:=h.2.2.2.2.2.2
theorem aqKeepG {X W:World} {rb hx:Nat} {S:Nat→Prop} {a b c d e:Value} (h:Blk X rb 43 #[a,b]∧Blk X hx 30 #[c,d,e]∧¬ S rb∧¬ S hx) (k:ExtS S X W) :
    W.cell? ⟨rb,0,none⟩=some a∧W.cell? ⟨rb,1,none⟩=some b∧W.cell? ⟨hx,0,none⟩=some c∧W.cell? ⟨hx,1,none⟩=some d∧W.cell? ⟨hx,2,none⟩=some e∧ExtS S X W:=
  ⟨(ExtS.blk h.1 k h.2.2.1).cell 0,(ExtS.blk h.1 k h.2.2.1).cell 1,(ExtS.blk h.2.1 k h.2.2.2).cell 0,(ExtS.blk h.2.1 k h.2.2.2).cell 1,(ExtS.blk h.2.1 k h.2.2.2).cell 2,k⟩
theorem news_blk {W:World} {g:Nat} {t:TypeId} {cs:Array Value} (h:Blk W g t cs):∀ j u,cs.toList[j]? = some u→W.cell? ((⟨g,0,none⟩:Addr).add j)=some u:=fun j u hu=>by
  rw [add_lit0,h.cell,← hu]
  simp
theorem ExtS.setG {gl:Nat} {rv hv:Value} {X W:World} {i:Nat} {u:Value} (h:ExtS (ApX gl rv hv) X W):ExtS (ApX gl rv hv) X (W.setCell ⟨gl,i,none⟩ u):=
  h.trans ⟨rfl,rfl,rfl,by simp [World.setCell],fun k _ hn=>Below.heap_setCell _ _ _ _ (fun e=>hn (.inl e))⟩
theorem own_setT {W:World} {B g sz n:Nat} {t e:TypeId} {cs:Array Value} {v:Value} {xs:List Value} (h:W.ownsRow B e sz v n xs) (hb:Blk W g t cs) (ht:t≠e) (i:Nat) (u:Value):(W.setCell ⟨g,i,none⟩ u).ownsRow B e sz v n xs:=by
  refine h.kept (row:=some g) ⟨rfl,rfl,rfl,by simp [World.setCell],fun k _ hk=>Below.heap_setCell _ _ _ _ (fun e=>hk (by rw [e]))⟩ ?_
  rcases h.2 with ⟨rfl,_⟩|⟨g',cap,cur,rfl,_,hb',_⟩
  · exact .inl rfl
  · refine .inr fun e2=>?_
    have e3:g'=g:=Option.some.inj e2
    subst e3
    exact blkNe hb hb' ht rfl
theorem ChgB.setT {W:World} {g b:Nat} {t:TypeId} {cs:Array Value} {l:List ChgT} (h:ChgB W b l) (hb:Blk W g t cs) (ht:t≠62) (i:Nat) (u:Value):ChgB (W.setCell ⟨g,i,none⟩ u) b l:=by
  refine h.far (p:=⟨g,i,none⟩) ?_ u
  obtain ⟨cur,hc,_⟩:=h
  intro e
  exact blkNe hb hc ht e.symm
theorem logG_app {X U:World} {B C gl n go d:Nat} {rv hv rv2 hv2:Value} {R:List (List ChgT × Nat × Nat)} {H:List (ByteArray × ByteArray)} {l:List ChgT} {cz t:ByteArray} (hn:n=R.length) (hH:H.length=n+1) (hX:LogG2 B C X gl rv hv R H) (hd:l.length≤d) (ht:t.size=32) (hc:cz.size=32)
    (h1:Blk U gl 115 #[rv2,hv2]) (h2:U.ownsRow B 43 2 rv2 (n+1) (rcF 0 R++[.int .i64 ((n:Int)+1),.slice (some ⟨go,0,none⟩) l.length d])) (h3:U.ownsRow C 30 3 hv2 (n+1+1) (hcF 0 H++[.int .i64 ((n:Int)+1),.string cz,.string t]))
    (h4:∀ x ∈ R,ChgB U x.2.1 x.1) (h5:ChgB U go l):LogG2 B C U gl rv2 hv2 (R++[(l,go,d)]) (H++[(cz,t)]):=by
  refine ⟨h1,?_,?_,fun x hx=>?_,by simp [hX.len],fun h hh=>?_⟩
  · rw [rcF_append,List.length_append,← hn,Nat.zero_add];exact h2
  · rw [hcF_append,List.length_append,hH,Nat.zero_add]
    have e:(((n+1:Nat)):Int)=(n:Int)+1:=by omega
    rw [e];exact h3
  · rcases List.mem_append.1 hx with h|h
    · exact ⟨h4 x h,(hX.chg x h).2⟩
    · simp at h;subst h;exact ⟨h5,hd⟩
  · rcases List.mem_append.1 hh with h6|h6
    · exact hX.sizes h h6
    · simp at h6;subst h6;exact ⟨hc,ht⟩
end Go.Proofs.YtnajpjnnlocfgaaGreatDoor
namespace Go.Proofs.YtnajpjnnlocfgaaGreatDoor
open Go.RowKit
theorem nodup_lt:∀ (n:Nat) (l:List Nat),l.Nodup→(∀ x ∈ l,x<n)→l.length≤n
  | 0,l,_,h=>by
    cases l with
    | nil=>simp
    | cons a r=>exact absurd (h a (by simp)) (by omega)
  | n + 1, l, hn, h => by
    by_cases hm:n ∈ l
    · have h1:=nodup_lt n (l.erase n) (hn.erase n) (fun x hx=>by
        have h2:=(hn.mem_erase_iff).1 hx
        have h3:=h x h2.2
        have h4:=h2.1
        omega)
      rw [List.length_erase_of_mem hm] at h1
      omega
    · have h1:=nodup_lt n l hn (fun x hx=>by
        have h3:=h x hx
        have h4:x≠n:=fun e=>hm (e ▸ hx)
        omega)
      omega
def keyN (t k:Int):Nat:=(9*t+(k-1)).toNat
def tinyK (t k:Int):Prop:=(0≤t∧t≤2)∧(1≤k∧k≤9)
theorem keyN_lt {t k:Int} (h:tinyK t k):keyN t k<27:=by unfold keyN;obtain ⟨⟨h1,h2⟩,h3,h4⟩:=h;omega
theorem keyN_inj {t k t' k':Int} (h:tinyK t k) (h':tinyK t' k') (e:keyN t k=keyN t' k'):t=t'∧k=k':=by
  unfold keyN at e;obtain ⟨⟨h1,h2⟩,h3,h4⟩:=h;obtain ⟨⟨h5,h6⟩,h7,h8⟩:=h';omega
structure StOK (rs:List RowT):Prop where
  sm:∀ r ∈ rs,r.sm
  tiny:∀ r ∈ rs,tinyK r.t r.k
  apart:(rs.map fun r=>keyN r.t r.k).Nodup
theorem StOK.nil:StOK []:=⟨by simp,by simp,by simp⟩
theorem StOK.few {rs:List RowT} (h:StOK rs):rs.length≤27:=by
  have:=nodup_lt 27 _ h.apart (fun x hx=>by
    obtain ⟨r,hr,rfl⟩:=List.mem_map.1 hx
    exact keyN_lt (h.tiny r hr))
  simpa using this
theorem StOK.del {rs:List RowT} (h:StOK rs) (t k:Int):StOK (delR rs t k):=by
  unfold delR
  split
  · rename_i i _
    have hs:=List.eraseIdx_sublist rs i
    exact ⟨fun r hr=>h.sm r (hs.subset hr),fun r hr=>h.tiny r (hs.subset hr),h.apart.sublist (hs.map _)⟩
  · exact h
theorem StOK.put {rs:List RowT} (h:StOK rs) (r:RowT) (h1:r.sm) (h2:tinyK r.t r.k):StOK (putR rs r):=by
  unfold putR
  split
  · rename_i i hi
    rw [List.findIdx?_eq_some_iff_getElem] at hi
    obtain ⟨hlt,his,_⟩:=hi
    simp only [RowT.is,Bool.and_eq_true,decide_eq_true_eq] at his
    refine ⟨fun x hx=>?_,fun x hx=>?_,?_⟩
    · rcases List.mem_or_eq_of_mem_set hx with hx|rfl
      · exact h.sm x hx
      · exact h1
    · rcases List.mem_or_eq_of_mem_set hx with hx|rfl
      · exact h.tiny x hx
      · exact h2
    · rw [List.map_set]
      have e:(rs.map fun r=>keyN r.t r.k).set i (keyN r.t r.k)=rs.map fun r=>keyN r.t r.k:=by
        apply List.ext_getElem?
        intro j
        rw [List.getElem?_set]
        by_cases hij:i=j
        · subst hij
          rw [if_pos rfl]
          simp [hlt,his.1,his.2]
        · rw [if_neg hij]
      rw [e]
      exact h.apart
  · rename_i hn
    rw [List.findIdx?_eq_none_iff] at hn
    refine ⟨fun x hx=>?_,fun x hx=>?_,?_⟩
    · rcases List.mem_append.1 hx with hx|hx
      · exact h.sm x hx
      · simp at hx;rw [hx];exact h1
    · rcases List.mem_append.1 hx with hx|hx
      · exact h.tiny x hx
      · simp at hx;rw [hx];exact h2
    · rw [List.map_append,List.nodup_append]
      refine ⟨h.apart,by simp,fun a ha b hb=>?_⟩
      obtain ⟨x,hx,rfl⟩:=List.mem_map.1 ha
      simp only [List.map_cons,List.map_nil,List.mem_singleton] at hb
      subst hb
      intro e
      have h3:=keyN_inj (h.tiny x hx) h2 e
      have h4:=hn x hx
      simp [RowT.is,h3.1,h3.2] at h4
structure ChgG (c:ChgT):Prop where
  ok:c.ok
  small:c.small
  tiny:tinyK c.t c.k
theorem ChgG.row {c:ChgT} (h:ChgG c):RowT.sm ⟨c.t,c.k,c.n1,c.n2,c.n3⟩:=by
  have h1:=h.ok
  have h2:=h.small
  have h3:=h.tiny
  unfold ChgT.small at h2
  simp only [List.mem_cons,List.not_mem_nil,or_false,forall_eq_or_imp,forall_eq] at h2
  refine ⟨⟨h1.1.1,h1.1.2,h1.2.2.2.2.1,h1.2.2.2.2.2.1,h1.2.2.2.2.2.2⟩,h2.1.2,h2.2.1.2,?_⟩
  simp only [List.mem_cons,List.not_mem_nil,or_false,forall_eq_or_imp,forall_eq]
  exact ⟨h2.2.2.2.2.2.1,h2.2.2.2.2.2.2.1,h2.2.2.2.2.2.2.2⟩
theorem StOK.apply {l:List ChgT}:∀ {rs:List RowT},StOK rs→(∀ c ∈ l,ChgG c)→StOK (applyF rs l):=by
  induction l with
  | nil=>intro rs h _;exact h
  | cons c l ih=>
    intro rs h hc
    have h1:StOK (applyC rs c):=by
      have h2:=hc c (by simp)
      unfold applyC
      split
      · exact h.put _ h2.row h2.tiny
      · exact h.del _ _
    exact ih h1 (fun d hd=>hc d (by simp [hd]))
theorem getR_mem {rs:List RowT} {t k:Int} {r:RowT} (h:getR rs t k=some r):r ∈ rs:=List.mem_of_find?_eq_some h
theorem ChgG.fill {rs:List RowT} (h:StOK rs) {c:ChgT} (hc:ChgG c):ChgG (fillC rs c):=by
  have h1:=hc.ok
  have h2:=hc.small
  unfold ChgT.small at h2
  simp only [List.mem_cons,List.not_mem_nil,or_false,forall_eq_or_imp,forall_eq] at h2
  cases hg:getR rs c.t c.k with
  | none=>
    refine ⟨?_,?_,hc.tiny⟩
    · simp only [fillC,hg,ChgT.ok,Option.isSome_none,Option.getD_none,zeroR]
      exact ⟨h1.1,fun _=>⟨trivial,trivial,trivial⟩,h1.2.2.1,by omega,h1.2.2.2.2⟩
    · simp only [fillC,hg,ChgT.small,Option.getD_none,zeroR,List.mem_cons,List.not_mem_nil,or_false,forall_eq_or_imp,forall_eq]
      exact ⟨h2.1,h2.2.1,by omega,by omega,by omega,h2.2.2.2.2.2⟩
  | some r=>
    have hr:=h.sm r (getR_mem hg)
    obtain ⟨⟨_,_,q1,q2,q3⟩,_,_,q4⟩:=hr
    simp only [List.mem_cons,List.not_mem_nil,or_false,forall_eq_or_imp,forall_eq] at q4
    refine ⟨?_,?_,hc.tiny⟩
    · simp only [fillC,hg,ChgT.ok,Option.isSome_some,Option.getD_some]
      exact ⟨h1.1,fun h=>(by cases h),h1.2.2.1,⟨q1,q2,q3⟩,h1.2.2.2.2⟩
    · simp only [fillC,hg,ChgT.small,Option.getD_some,List.mem_cons,List.not_mem_nil,or_false,forall_eq_or_imp,forall_eq]
      exact ⟨h2.1,h2.2.1,q4.1,q4.2.1,q4.2.2,h2.2.2.2.2.2⟩
theorem fill_fill (rs:List RowT) (c:ChgT):fillC rs (fillC rs c)=fillC rs c:=rfl
end Go.Proofs.YtnajpjnnlocfgaaGreatDoor
namespace Go.Proofs.YtnajpjnnlocfgaaGreatDoor
open Go.RowKit Go.Shelf
attribute [local go_sem ↓] Go.wp_at_zero Go.wp_at_succ
structure GoodL (l:List ChgT):Prop where
  ok:ChgsOK l
  turns:validF l=true
structure ServG (B:Nat) (w:World) (gs gl gst gm:Nat) (cs:Array Value) (rv hv:Value) (R:List (List ChgT × Nat × Nat)) (H:List (ByteArray × ByteArray)) (rs:List RowT):Prop where
  srv:Blk w gs 140 cs
  c0:cs[0]? = some (.pointer (some ⟨gl,0,none⟩))
  c1:cs[1]? = some (.pointer (some ⟨gst,0,none⟩))
  log:LogG B w gl rv hv R H
  st:StateR w gst gm (R.length:Int) rs
  ok:StOK rs
  good:∀ x ∈ R,GoodL x.1
  base:B≤gl∧B≤gst∧B≤gm
structure GenL (l:List ChgT):Prop where
  few:l.length≤6
  gen:∀ c ∈ l,ChgG c
  asc:∀ (j:Nat) (a b:ChgT),l[j]? = some a→l[j+1]? = some b→a.t<b.t∨(a.t=b.t∧a.k<b.k)
theorem GenL.fill {rs:List RowT} {l:List ChgT} (h:GenL l) (hs:StOK rs):ChgsOK (l.map (fillC rs))∧(∀ c ∈ l.map (fillC rs),ChgG c)∧(∀ c ∈ l.map (fillC rs),fillC rs c=c):=by
  have h1:∀ c ∈ l.map (fillC rs),ChgG c:=fun c hc=>by
    obtain ⟨d,hd,rfl⟩:=List.mem_map.1 hc
    exact (h.gen d hd).fill hs
  refine ⟨⟨by have:=h.few;rw [List.length_map];omega,fun c hc=>(h1 c hc).ok,fun j a b ha hb=>?_⟩,h1,fun c hc=>?_⟩
  · rw [List.getElem?_map,Option.map_eq_some_iff] at ha hb
    obtain ⟨x,hx,rfl⟩:=ha
    obtain ⟨y,hy,rfl⟩:=hb
    exact h.asc j x y hx hy
  · obtain ⟨d,hd,rfl⟩:=List.mem_map.1 hc
    exact fill_fill rs d
def StS (gst gm:Nat) (k:Nat):Prop:=k=gst∨k=gm
theorem ChgsAt.extS {w W:World} {v:Value} {l:List ChgT} {gs gm:Nat} {pos:Int} {rs:List RowT} (h:ChgsAt w v l) (hS:StateR w gs gm pos rs) (k:ExtS (StS gs gm) w W):ChgsAt W v l:=
  h.ext2 hS ⟨k.os,k.tape,k.output,k.size,fun j hj h1 h2=>k.block j hj (by rintro (h|h);exact h1 h;exact h2 h)⟩
theorem own_not {W:World} {B sz n g:Nat} {t e:TypeId} {v:Value} {xs:List Value} {cs:Array Value} (h:W.ownsRow B e sz v n xs) (hb:Blk W g t cs) (ht:t≠e):v.ownBlock≠some g:=by
  rcases h.2 with ⟨rfl,_⟩|⟨g',cap,cur,rfl,_,hb',_⟩
  · simp [Value.ownBlock]
  · intro e2
    have e3:g'=g:=Option.some.inj e2
    subst e3
    exact blkNe hb hb' ht rfl
theorem own_notMap {W:World} {B sz n g:Nat} {e:TypeId} {v:Value} {xs:List Value} {rs:List RowT} (h:W.ownsRow B e sz v n xs) (hm:MapR W g rs):v.ownBlock≠some g:=by
  obtain ⟨es,c,hm,_⟩:=hm
  rcases h.2 with ⟨rfl,_⟩|⟨g',cap,cur,rfl,_,hb',_⟩
  · simp [Value.ownBlock]
  · intro e2
    have e3:g'=g:=Option.some.inj e2
    subst e3
    unfold MapAt at hm
    rw [hm] at hb'
    cases hb'
theorem own_extS2 {W W':World} {S:Nat→Prop} {base n sz:Nat} {e:TypeId} {v:Value} {xs:List Value} (h:W.ownsRow base e sz v n xs) (k:ExtS S W W') (hn:∀ g,v.ownBlock=some g→¬ S g):W'.ownsRow base e sz v n xs:=by
  refine ⟨h.1,?_⟩
  rcases h.2 with hn'|⟨g,cap,cur,h1,h2,h3,h4⟩
  · exact .inl hn'
  · exact .inr ⟨g,cap,cur,h1,h2,(k.block g (Array.getElem?_eq_some_iff.1 h3).1 (hn g (by rw [h1];rfl))).trans h3,h4⟩
theorem ChgB.notS {W:World} {g b:Nat} {t:TypeId} {cs:Array Value} {l:List ChgT} (h:ChgB W b l) (hb:Blk W g t cs) (ht:t≠62):b≠g:=by
  obtain ⟨cur,hc,_⟩:=h
  exact fun e=>blkNe hb hc ht e.symm
theorem ChgB.notMap {W:World} {g b:Nat} {l:List ChgT} {rs:List RowT} (h:ChgB W b l) (hm:MapR W g rs):b≠g:=by
  obtain ⟨cur,hc,_⟩:=h
  obtain ⟨es,c,hm,_⟩:=hm
  rintro rfl
  unfold Blk at hc
  unfold MapAt at hm
  rw [hm] at hc
  cases hc
theorem ChgB.extS {W W':World} {S:Nat→Prop} {b:Nat} {l:List ChgT} (h:ChgB W b l) (k:ExtS S W W') (hn:¬ S b):ChgB W' b l:=by
  obtain ⟨cur,hc,h2⟩:=h
  exact ⟨cur,ExtS.blk hc k hn,h2⟩
theorem LogG.keepSt {B:Nat} {W W':World} {gl gst gm:Nat} {pos:Int} {rv hv:Value} {R:List (List ChgT × Nat × Nat)} {H:List (ByteArray × ByteArray)} {rs:List RowT} (h:LogG B W gl rv hv R H) (hs:StateR W gst gm pos rs) (k:ExtS (StS gst gm) W W'):LogG B W' gl rv hv R H:=by
  have hm:∀ {g:Nat} {t:TypeId} {cs:Array Value},Blk W g t cs→t≠99→¬ StS gst gm g:=fun hb ht=>by
    rintro (e|e)
    · exact blkNe hb hs.1 ht e
    · subst e
      obtain ⟨es,c,hm,_⟩:=hs.2
      unfold Blk at hb
      unfold MapAt at hm
      rw [hm] at hb
      cases hb
  refine ⟨ExtS.blk h.log k (hm h.log (by decide)),own_extS2 h.recs k (fun g hg=>?_),own_extS2 h.heads k (fun g hg=>?_),fun x hx=>⟨?_,(h.chg x hx).2⟩,h.len,h.sizes⟩
  · rintro (e|e)
    · subst e;exact own_not h.recs hs.1 (by decide) hg
    · subst e;exact own_notMap h.recs hs.2 hg
  · rintro (e|e)
    · subst e;exact own_not h.heads hs.1 (by decide) hg
    · subst e;exact own_notMap h.heads hs.2 hg
  · refine (h.chg x hx).1.extS k ?_
    rintro (e|e)
    · exact (h.chg x hx).1.notS hs.1 (by decide) e
    · exact (h.chg x hx).1.notMap hs.2 e
theorem StateR.keepLog {B:Nat} {W W':World} {gl gst gm:Nat} {pos:Int} {rv hv:Value} {R:List (List ChgT × Nat × Nat)} {H:List (ByteArray × ByteArray)} {rs:List RowT} (hs:StateR W gst gm pos rs) (h:LogG B W gl rv hv R H) (k:ExtS (ApX gl rv hv) W W'):StateR W' gst gm pos rs:=by
  refine ⟨ExtS.blk hs.1 k ?_,?_⟩
  · rintro (e|e|e)
    · exact blkNe hs.1 h.log (by decide) e
    · exact own_not h.recs hs.1 (by decide) e
    · exact own_not h.heads hs.1 (by decide) e
  · obtain ⟨es,c,hm,h2⟩:=hs.2
    refine ⟨es,c,(k.block gm hm.lt ?_).trans hm,h2⟩
    rintro (e|e|e)
    · subst e
      have hb:=h.log
      unfold Blk at hb
      unfold MapAt at hm
      rw [hm] at hb
      cases hb
    · exact own_notMap h.recs hs.2 e
    · exact own_notMap h.heads hs.2 e
end Go.Proofs.YtnajpjnnlocfgaaGreatDoor
namespace Go.Proofs.YtnajpjnnlocfgaaGreatDoor
open Go.RowKit Go.Shelf
attribute [local go_sem ↓] Go.wp_at_zero Go.wp_at_succ
end Go.Proofs.YtnajpjnnlocfgaaGreatDoor
namespace Go.Proofs.YtnajpjnnlocfgaaGreatDoor
open Go.RowKit Go.Shelf
theorem logNewB (s:ByteArray) (hs:s.size=32) (w:World) :
    Calls Tryz.prog 16 #[.string s] w fun e w'=>∃ gl gh,e=.returned (.tuple #[.pointer (some ⟨gl,0,none⟩),.int .i64 0])∧Blk w' gl 115 #[.slice none 0 0,.slice (some ⟨gh,0,none⟩) 1 1]∧Blk w' gh 30 #[.int .i64 0,.string zeros32,.string s]∧w.heap.size≤gl∧w.heap.size≤gh∧Below w.heap.size w w':=by
  have HSs:=Lib.hid hs
  clear hs
  have HZ:=Lib.hid (show ∀ W:World,Calls Tryz.prog 48 #[.string ⟨#[0]⟩,.int .i64 32] W fun e w'=>e=.returned (.string zeros32)∧Below W.heap.size W w' from fun W=>Tryz.strings_Repeat_main ⟨#[0]⟩ 32 W (by omega) (by omega) (by decide) (by decide))
  generalize zeros32=z at *
  go_enter Tryz.func16,Tryz.ntmps16
  go_wp2_with (first|(go_at_call 47;refine (isDig s HSs.out _).mono ?_;rintro e w' ⟨rfl,rfl⟩)|(go_at_call 48;refine (HZ.out _).mono ?_;rintro e W1 ⟨rfl,hb1⟩;have HB1:=Lib.hid hb1;clear hb1))
  go_ret2
  exact ⟨_,_,rfl,Blk.new' _ _ _ (by simp),(Blk.new' _ _ _ rfl).alloc _,by have:=HB1.out.size;omega,by have:=HB1.out.size;omega,ext_alloc (ext_alloc HB1.out _) _⟩
def srvCells (gl gst gp gn:Nat):Array Value:=#[.pointer (some ⟨gl,0,none⟩),.pointer (some ⟨gst,0,none⟩),.slice (some ⟨gp,0,none⟩) 1 1,.int .i64 0,.int .i64 0,.slice none 0 0,.slice none 0 0,.map (some gn),.int .i64 0]
end Go.Proofs.YtnajpjnnlocfgaaGreatDoor
namespace Go.Proofs.YtnajpjnnlocfgaaGreatDoor
open Go.RowKit Go.Shelf
attribute [local go_sem ↓] app_exec app_sem Go.wp_at_zero Go.wp_at_succ
def TripsAt (w:World) (v:Value) (T:List (Int × Int × Int)):Prop:=
  ∃ A c,v=.slice A T.length c∧(0<T.length→∃ b off,A=some ⟨b,off,none⟩∧∀ (j:Nat) (x:Int × Int × Int),T[j]? = some x →
    w.cell? ⟨b,off+j*3,none⟩=some (.int .i64 x.1)∧w.cell? ⟨b,off+j*3+1,none⟩=some (.int .i64 x.2.1)∧w.cell? ⟨b,off+j*3+2,none⟩=some (.int .i64 x.2.2))
theorem TripsAt.ext {w W:World} {v:Value} {T:List (Int × Int × Int)} (h:TripsAt w v T) (k:Below w.heap.size w W):TripsAt W v T:=by
  obtain ⟨A,c,rfl,h⟩:=h
  refine ⟨A,c,rfl,fun h0=>?_⟩
  obtain ⟨b,off,hA,hc⟩:=h h0
  exact ⟨b,off,hA,fun j x hx=>⟨cell_ext (hc j x hx).1 k,cell_ext (hc j x hx).2.1 k,cell_ext (hc j x hx).2.2 k⟩⟩
def in64 (x:Int):Prop := -9223372036854775808≤x∧x≤9223372036854775807
def In64 (T:List (Int × Int × Int)):Prop:=∀ x ∈ T,in64 x.1∧in64 x.2.1∧in64 x.2.2
def genC0 (t k:Int) (h:Bool):ChgT:=⟨t,k,false,0,0,0,h,0,0,0⟩
theorem genC0_good (t k:Int) (h1:0≤t∧t<3) (h2:0≤k∧k<9):ChgG (genC0 t (1+k) false):=by
  refine ⟨⟨⟨by dsimp only [genC0];omega,by dsimp only [genC0];omega⟩,fun _=>⟨rfl,rfl,rfl⟩,fun _=>⟨rfl,rfl,rfl⟩,by dsimp only [genC0];omega,by dsimp only [genC0];omega⟩,?_,⟨h1.1,by dsimp only [genC0];omega⟩,by dsimp only [genC0];omega,by dsimp only [genC0];omega⟩
  unfold ChgT.small genC0
  simp only [List.mem_cons,List.not_mem_nil,or_false,forall_eq_or_imp,forall_eq]
  omega
def genC1 (t k a b d:Int):ChgT:=⟨t,k,false,0,0,0,true,a,b,d⟩
theorem genC1_good (t k a b d:Int) (h1:0≤t∧t<3) (h2:0≤k∧k<9) (h3:0≤a∧a<10) (h4:0≤b∧b<9) (h5:0≤d∧d<40):ChgG (genC1 t (1+k) a (1+b) (d-20)):=by
  refine ⟨⟨⟨by dsimp only [genC1];omega,by dsimp only [genC1];omega⟩,fun _=>⟨rfl,rfl,rfl⟩,(fun h=>by cases h),by dsimp only [genC1];omega,by dsimp only [genC1];omega⟩,?_,⟨h1.1,by dsimp only [genC1];omega⟩,by dsimp only [genC1];omega,by dsimp only [genC1];omega⟩
  unfold ChgT.small genC1
  simp only [List.mem_cons,List.not_mem_nil,or_false,forall_eq_or_imp,forall_eq]
  omega
def behind (l:List ChgT) (c:ChgT):Bool:=match l.getLast? with|none=>true|some a=>decide (a.t<c.t) || ((a.t == c.t) && decide (a.k<c.k))
theorem GenL.nil:GenL []:=⟨by simp,by simp,by simp⟩
theorem GenL.push {l:List ChgT} (h:GenL l) {c:ChgT} (hc:ChgG c) (hb:behind l c=true) (hf:l.length≤5):GenL (l++[c]):=by
  refine ⟨by simp;omega,fun d hd=>?_,fun j a b ha hbb=>?_⟩
  · simp only [List.mem_append,List.mem_singleton] at hd
    rcases hd with hd|rfl
    · exact h.gen d hd
    · exact hc
  · by_cases hj:j+1<l.length
    · rw [List.getElem?_append_left (by omega)] at ha
      rw [List.getElem?_append_left hj] at hbb
      exact h.asc j a b ha hbb
    · have hj2:j+1=l.length:=by
        have:=(List.getElem?_eq_some_iff.1 hbb).1
        simp at this
        omega
      rw [List.getElem?_append_left (by omega)] at ha
      rw [hj2,List.getElem?_append_right (Nat.le_refl _)] at hbb
      simp at hbb
      subst hbb
      have hl:l.getLast? = some a:=by rw [List.getLast?_eq_getElem?,← ha];congr 1;omega
      unfold behind at hb
      rw [hl] at hb
      simpa using hb
theorem appChg (W:World) (base:Nat) (hb:base≤W.heap.size) (v:Value) (l:List ChgT) (hown:W.ownsRow base 62 10 v l.length (cc l)) (hn:l.length≤1000000) (c:ChgT) :
    AppOK Tryz.prog (W.alloc (.cells c.arr 62)) 41 41 v (.slice (some ⟨W.heap.size,0,none⟩) 1 1)∧∃ W',appW Tryz.prog (W.alloc (.cells c.arr 62)) 41 41 v (.slice (some ⟨W.heap.size,0,none⟩) 1 1)=W' ∧
      ∃ v',appV Tryz.prog (W.alloc (.cells c.arr 62)) 41 41 v (.slice (some ⟨W.heap.size,0,none⟩) 1 1)=v'∧W'.ownsRow base 62 10 v' (l.length+1) (cc (l++[c]))∧(W.alloc (.cells c.arr 62)).grownBy W' v.ownBlock:=by
  obtain ⟨ii,hii,hzi0,hzi1,hzi2⟩:=info_parts chg_info
  have he:cc (l++[c])=cc l++c.arr.toList:=by simp [cc]
  rw [he]
  obtain ⟨h1,h2,h3⟩:=app_own (P:=Tryz.prog) (w:=W.alloc (.cells c.arr 62)) base 41 41 62 ii (.agg #[.int .i64 0,.int .i64 0,.bool false,.int .i64 0,.int .i64 0,.int .i64 0,.bool false,.int .i64 0,.int .i64 0,.int .i64 0]) 10 80 Tryz.underlying41 hii hzi0 hzi1 hzi2 rfl (by decide) v l.length (cc l) (hown.alloc _) ⟨W.heap.size,0,none⟩ 1 1 c.arr.toList rfl (fun i u hu=>by
    rw [add_lit0]
    have hB:=Blk.new W 62 c.arr
    rw [hB.cell]
    rw [← hu]
    simp) (fun u hu=>cc_one [c] u (by simpa [cc] using hu)) (by unfold maxLen;omega) (by omega) (by simp;omega)
  exact ⟨h1,_,rfl,_,rfl,h2,h3⟩
theorem ownChg {W:World} {B:Nat} {v:Value} {l:List ChgT} (h:W.ownsRow B 62 10 v l.length (cc l)) (h0:0<l.length):∃ g c,v=.slice (some ⟨g,0,none⟩) l.length c∧B≤g∧l.length≤c∧ChgB W g l:=by
  obtain ⟨_,h2⟩:=h
  rcases h2 with ⟨_,h3⟩|⟨g,cap,cur,h3,h4,h5,h6,_,h8,h9⟩
  · omega
  refine ⟨g,cap,h3,h4,by simpa using h6,⟨cur,h5,fun j x hj i hi=>?_⟩⟩
  have h11:=cc_at l j x hj i hi
  rw [← h11,← h9,List.getElem?_take,if_pos (by have:=(List.getElem?_eq_some_iff.1 hj).1;omega)]
  simp
theorem own_chgs {W:World} {B:Nat} {v:Value} {l:List ChgT} (h:W.ownsRow B 62 10 v l.length (cc l)) (h0:l.length=0→v=.slice none 0 0):ChgsAt W v l:=by
  by_cases hl:l.length=0
  · rw [h0 hl]
    exact ⟨none,0,by rw [hl],by omega,fun h=>by omega⟩
  · obtain ⟨g,c,rfl,_,hc,hb⟩:=ownChg h (by omega)
    exact hb.at_ hc
theorem own_low {W:World} {B n sz:Nat} {e:TypeId} {v:Value} {xs:List Value} (h:W.ownsRow B e sz v n xs):∀ k,v.ownBlock=some k→B≤k:=by
  intro k hk
  rcases h.2 with ⟨h1,_⟩|⟨g,cap,cur,h1,h2,_⟩
  · rw [h1] at hk;cases hk
  · rw [h1] at hk
    have e2:g=k:=Option.some.inj hk
    omega
theorem keepT {X W:World} {p q r:Addr} {x y z:Value} (h:X.cell? p=some x∧X.cell? q=some y∧X.cell? r=some z) (k:Below X.heap.size X W):W.cell? p=some x∧W.cell? q=some y∧W.cell? r=some z∧Below X.heap.size X W:=
  ⟨cell_ext h.1 k,cell_ext h.2.1 k,cell_ext h.2.2 k,k⟩
theorem changes_any (T : List (Int × Int × Int)) (v : Value) (w : World) (hv : TripsAt w v T) (hT : In64 T) : Calls Tryz.prog 34 #[v] w fun e w' =>
    ∃ u l,e=.returned u∧ChgsAt w' u l∧GenL l∧(l.length=0→u=.slice none 0 0)∧Below w.heap.size w w':=by
  obtain ⟨A,c,rfl,hcell⟩:=hv
  have HC:=Lib.hid hcell
  have HT:=Lib.hid hT
  clear hcell hT
  go_enter Tryz.func34,Tryz.ntmps34
  go_wp2
  go_loopw [3,4,5,6] (fun vo iv _ _ W=>∃ (k:Nat) (l:List ChgT),k≤6∧k≤T.length∧l.length≤k∧iv=.int .i64 k∧W.ownsRow w.heap.size 62 10 vo l.length (cc l)∧GenL l∧(l.length=0→vo=.slice none 0 0)∧Below w.heap.size w W) (fun _ iv _ _ _=>T.length-(intOf iv).toNat)
  case atStart=>exact ⟨0,[],by omega,by omega,by simp,rfl,World.ownsRow_nil _ _ _ _,GenL.nil,fun _=>rfl,Below.refl _ _⟩
  case round =>
    obtain ⟨k,l,hk6,hkT,hlk,rfl,ho,hg,hnil,hE⟩:=hrel
    have HO:=Lib.hid ho
    have HG:=Lib.hid hg
    have HNIL:=Lib.hid hnil
    have HE:=Lib.hid hE
    obtain ⟨Ao,co,rfl⟩:=own_shape ho
    clear ho hg hnil hE
    have e2:IntKind.i64.wrap ((k:Int)+1)=(k:Int)+1:=by rw [IntWalk.i64_in _ (by omega)]
    by_cases hlt:k<T.length
    · by_cases hk : k < 6
      · obtain ⟨b, off, rfl, hc⟩ := HC.out (by omega)
        obtain ⟨x,hx⟩:∃ x,T[k]? = some x:=⟨_,List.getElem?_eq_getElem hlt⟩
        have hxx:=HT.out x (List.mem_of_getElem? hx)
        obtain ⟨y0,y1,y2⟩:=hc k x hx
        obtain ⟨x0,x1,x2⟩:=x
        dsimp only at y0 y1 y2 hxx
        obtain ⟨i0,i1,i2⟩:=hxx
        unfold in64 at i0 i1 i2
        have z0:=cell_ext y0 HE.out
        have z1:=cell_ext y1 HE.out
        have z2:=cell_ext y2 HE.out
        clear y0 y1 y2 hc
        obtain ⟨p0,hp0⟩:∃ p,p=pickF x0 3:=⟨_,rfl⟩
        obtain ⟨p1,hp1⟩:∃ p,p=pickF (x0.tdiv 3) 9:=⟨_,rfl⟩
        obtain ⟨p2,hp2⟩:∃ p,p=pickF x1 4:=⟨_,rfl⟩
        obtain ⟨p3,hp3⟩:∃ p,p=pickF x1 10:=⟨_,rfl⟩
        obtain ⟨p4,hp4⟩:∃ p,p=pickF x2 9:=⟨_,rfl⟩
        obtain ⟨p5,hp5⟩:∃ p,p=pickF (x2.tdiv 9) 40:=⟨_,rfl⟩
        have b0:=pickF_lt x0 3 (by omega)
        have b1:=pickF_lt (x0.tdiv 3) 9 (by omega)
        have b2:=pickF_lt x1 4 (by omega)
        have b3:=pickF_lt x1 10 (by omega)
        have b4:=pickF_lt x2 9 (by omega)
        have b5:=pickF_lt (x2.tdiv 9) 40 (by omega)
        have t3:=tdiv_in x0 3 (by omega) i0.1 i0.2
        have t9:=tdiv_in x2 9 (by omega) i2.1 i2.2
        have K0:=Lib.hid (fun W=>pick_any x0 3 (by omega) (by omega) i0.1 i0.2 W)
        have K1:=Lib.hid (fun W=>pick_any (x0.tdiv 3) 9 (by omega) (by omega) t3.1 t3.2 W)
        have K2:=Lib.hid (fun W=>pick_any x1 4 (by omega) (by omega) i1.1 i1.2 W)
        have K3:=Lib.hid (fun W=>pick_any x1 10 (by omega) (by omega) i1.1 i1.2 W)
        have K4:=Lib.hid (fun W=>pick_any x2 9 (by omega) (by omega) i2.1 i2.2 W)
        have K5:=Lib.hid (fun W=>pick_any (x2.tdiv 9) 40 (by omega) (by omega) t9.1 t9.2 W)
        rw [← hp0] at b0 K0
        rw [← hp1] at b1 K1
        rw [← hp2] at b2 K2
        rw [← hp3] at b3 K3
        rw [← hp4] at b4 K4
        rw [← hp5] at b5 K5
        have w3:IntKind.i64.wrap (x0.tdiv 3)=x0.tdiv 3:=IntWalk.i64_in _ (by omega)
        have w9:IntKind.i64.wrap (x2.tdiv 9)=x2.tdiv 9:=IntWalk.i64_in _ (by omega)
        have v1:IntKind.i64.wrap (1+p1)=1+p1:=IntWalk.i64_in _ (by omega)
        have v4:IntKind.i64.wrap (1+p4)=1+p4:=IntWalk.i64_in _ (by omega)
        have v5:IntKind.i64.wrap (p5-20)=p5-20:=IntWalk.i64_in _ (by omega)
        have G0:=genC0_good p0 p1 b0 b1
        have G1:=genC1_good p0 p1 p3 p4 p5 b0 b1 b3 b4 b5
        have GG:=Lib.hid (And.intro G0 G1)
        clear hp0 hp1 hp2 hp3 hp4 hp5 t3 t9 i0 i1 i2 b0 b1 b3 b4 b5 G0 G1
        have HK:=Lib.hid (show wr.cell? ⟨b,off+k*3,none⟩=some (.int .i64 x0)∧wr.cell? ⟨b,off+k*3+1,none⟩=some (.int .i64 x1)∧wr.cell? ⟨b,off+k*3+2,none⟩=some (.int .i64 x2) from ⟨z0,z1,z2⟩)
        have q0:(0:Int)≤(k:Int):=by omega
        have q1:(k:Int)<(T.length:Int):=by omega
        have q2:(k:Int)<6:=by omega
        obtain ⟨hs,hhs⟩:∃ h:Bool,h=decide (p2 > 0):=⟨_,rfl⟩
        go_upto_region 5 with (fail)
        go_cut [5] from 7 to 104 (fun p W=>∃ bx,p=.pointer (some ⟨bx,0,none⟩)∧wr.heap.size≤bx∧Blk W bx 62 (genC0 p0 (1+p1) hs).arr∧Below wr.heap.size wr W)
        case first=>
          go_region_held3 (fun w'=>w'.cell? ⟨b,off+k*3,none⟩=some (.int .i64 x0)∧w'.cell? ⟨b,off+k*3+1,none⟩=some (.int .i64 x1)∧w'.cell? ⟨b,off+k*3+2,none⟩=some (.int .i64 x2)∧Below wr.heap.size wr w')
            (first|with_reducible assumption|exact keepT HK.out (by repeat (first|with_reducible refine ext_alloc ?_ _|with_reducible refine Below.drew ?_|with_reducible assumption|with_reducible exact ext_refl _|refine ext_set ?_ (Nat.le_refl _) _)))
            (first
              | (go_at_call 7;with_reducible refine (K0.out _).mono ?_;rintro e w' ⟨rfl,hw'⟩;subst w')
              | (go_at_call 7;with_reducible refine (K1.out _).mono ?_;rintro e w' ⟨rfl,hw'⟩;subst w')
              | (go_at_call 7;with_reducible refine (K2.out _).mono ?_;rintro e w' ⟨rfl,hw'⟩;subst w'))
          all_goals
            go_wp2_with fail
            go_meet
            case rel=>exact ⟨_,rfl,by simp,by rw [hhs];first|exact Blk.drew (Blk.new' _ _ _ (by simp))|exact Blk.new' _ _ _ (by simp),by repeat (first|with_reducible refine ext_alloc ?_ _|with_reducible refine Below.drew ?_|with_reducible exact ext_refl _)⟩
        case rest =>
          obtain ⟨bx,rfl,hbx,hB,hE5⟩:=hcut
          have HB:=Lib.hid hB
          have HE5:=Lib.hid hE5
          have a6:wc.cell? ⟨bx,6,none⟩=some (.bool hs):=hB.cell 6
          clear hB hE5 K0 K1 K2 z0 z1 z2 hhs b2
          go_upto_if 40 with (fail)
          go_cut [5] from 7 to 104 (fun p W=>p=.pointer (some ⟨bx,0,none⟩)∧(∃ c,ChgG c∧Blk W bx 62 c.arr)∧Below wr.heap.size wr W)
          case first=>
            cases hs with
            | false=>
              go_wp2
              go_meet
              case rel=>exact ⟨rfl,⟨_,GG.out.1,HB.out⟩,HE5.out⟩
            | true =>
              have y0:=cell_ext HK.out.1 HE5.out
              have y1:=cell_ext HK.out.2.1 HE5.out
              have y2:=cell_ext HK.out.2.2 HE5.out
              have hB:=HB.out
              have a7:wc.cell? ⟨bx,7,none⟩=some (.int .i64 0):=hB.cell 7
              have a8:wc.cell? ⟨bx,8,none⟩=some (.int .i64 0):=hB.cell 8
              have a9:wc.cell? ⟨bx,9,none⟩=some (.int .i64 0):=hB.cell 9
              have f7:=hB.frozen 7
              have f8:=hB.frozen 8
              have f9:=hB.frozen 9
              clear hB
              go_upto_region 7 with (fail)
              go_region_held3 (fun w'=>w'.cell? ⟨b,off+k*3,none⟩=some (.int .i64 x0)∧w'.cell? ⟨b,off+k*3+1,none⟩=some (.int .i64 x1)∧w'.cell? ⟨b,off+k*3+2,none⟩=some (.int .i64 x2)∧Below wr.heap.size wr w')
                (first|with_reducible assumption|exact keepT HK.out (by repeat (first|with_reducible refine ext_alloc ?_ _|with_reducible refine Below.drew ?_|with_reducible exact HE5.out|with_reducible assumption|with_reducible exact ext_refl _|refine ext_set ?_ hbx _)))
                (first
                  | (go_at_call 7;with_reducible refine (K3.out _).mono ?_;rintro e w' ⟨rfl,hw'⟩;subst w')
                  | (go_at_call 7;with_reducible refine (K4.out _).mono ?_;rintro e w' ⟨rfl,hw'⟩;subst w')
                  | (go_at_call 7;with_reducible refine (K5.out _).mono ?_;rintro e w' ⟨rfl,hw'⟩;subst w'))
              all_goals
                go_wp2_with fail
                go_meet
                case rel=>exact ⟨rfl,⟨genC1 p0 (1+p1) p3 (1+p4) (p5-20),GG.out.2,Blk.drew (((HB.out.set_ 7 (.int .i64 p3)).set_ 8 (.int .i64 (1+p4))).set_ 9 (.int .i64 (p5-20)))⟩,Below.drew (ext_set (ext_set (ext_set HE5.out hbx _) hbx _) hbx _)⟩
          case rest =>
            obtain ⟨rfl,⟨d,hd,hB⟩,hE7⟩:=hcut
            have HD:=Lib.hid hd
            have HB7:=Lib.hid hB
            have HE7:=Lib.hid hE7
            have HO7:=Lib.hid (own_ext HO.out hE7)
            have hd0:wc.cell? ⟨bx,0,none⟩=some (.int .i64 d.t):=hB.cell 0
            have hd1:wc.cell? ⟨bx,1,none⟩=some (.int .i64 d.k):=hB.cell 1
            clear hd hB hE7 HB HE5 a6 HO K3 K4 K5 HK GG w3 w9 v1 v4 v5
            go_upto_region 9 with (fail)
            go_cut [100] from 7 to 104 (fun t W=>t=.bool (behind l d)∧Below wc.heap.size wc W)
            case first =>
              by_cases hl0:l.length=0
              · have hl:l=[]:=List.length_eq_zero_iff.1 hl0
                have g0:((l.length:Int) == 0)=true:=by rw [hl0];rfl
                go_quiet (fail)
                go_wp2
                go_meet
                case rel=>exact ⟨by rw [hl];rfl,by repeat (first|with_reducible refine Below.drew ?_|with_reducible refine ext_drewN ?_ _|with_reducible exact ext_refl _)⟩
              · obtain ⟨n,hn⟩:∃ n,l.length=n+1:=⟨l.length-1,by omega⟩
                obtain ⟨a,ha⟩:∃ a,l[n]? = some a:=⟨_,List.getElem?_eq_getElem (by omega)⟩
                obtain ⟨g,cg,hv,hgw,hcl,hgb⟩:=ownChg HO7.out (by omega)
                injection hv with hv _ hv2
                subst hv hv2
                have c0:wc.cell? ⟨g,n*10,none⟩=some (.int .i64 a.t):=hgb.cell ha 0 (by omega)
                have c1:wc.cell? ⟨g,n*10+1,none⟩=some (.int .i64 a.k):=hgb.cell ha 1 (by omega)
                have hl1:(l.length:Int)-1=(n:Int):=by omega
                have hw:IntKind.i64.wrap ((l.length:Int)-1)=(n:Int):=by rw [hl1];exact IntWalk.i64_in _ (by omega)
                have g0:((l.length:Int) == 0)=false:=by rw [beq_eq_false_iff_ne];omega
                have g1:(n:Int)<(l.length:Int):=by omega
                have g2:(0:Int)≤(n:Int):=by omega
                have hbe:behind l d=(decide (a.t<d.t) || ((a.t == d.t) && decide (a.k<d.k))):=by
                  unfold behind
                  rw [List.getLast?_eq_getElem?,show l.length-1=n by omega,ha]
                have HBE:=Lib.hid hbe
                clear hgb hgw hcl hbe hn hl1 hl0
                by_cases d1:a.t<d.t
                · have e1:decide (a.t<d.t)=true:=by simp [d1]
                  go_quiet (fail)
                  go_wp2
                  go_meet
                  case rel=>exact ⟨by rw [HBE.out,e1];rfl,by repeat (first|with_reducible refine Below.drew ?_|with_reducible refine ext_drewN ?_ _|with_reducible exact ext_refl _)⟩
                · have e1:decide (a.t<d.t)=false:=by simp [d1]
                  by_cases d2:a.t=d.t
                  · have e3:(a.t == d.t)=true:=by simp [d2]
                    by_cases d3:a.k<d.k
                    · have e4:decide (a.k<d.k)=true:=by simp [d3]
                      go_quiet (fail)
                      go_wp2
                      go_meet
                      case rel=>exact ⟨by rw [HBE.out,e1,e3,e4];rfl,by repeat (first|with_reducible refine Below.drew ?_|with_reducible refine ext_drewN ?_ _|with_reducible exact ext_refl _)⟩
                    · have e4:decide (a.k<d.k)=false:=by simp [d3]
                      go_quiet (fail)
                      go_wp2
                      go_meet
                      case rel=>exact ⟨by rw [HBE.out,e1,e3,e4];rfl,by repeat (first|with_reducible refine Below.drew ?_|with_reducible refine ext_drewN ?_ _|with_reducible exact ext_refl _)⟩
                  · have e3:(a.t == d.t)=false:=by simp [d2]
                    go_quiet (fail)
                    go_wp2
                    go_meet
                    case rel=>exact ⟨by rw [HBE.out,e1,e3];rfl,by repeat (first|with_reducible refine Below.drew ?_|with_reducible refine ext_drewN ?_ _|with_reducible exact ext_refl _)⟩
            case rest=>
              obtain ⟨rfl,hE8⟩:=hcut
              have HE8:=Lib.hid (ext_call (ext_call HE.out HE7.out) hE8)
              have HB8:=Lib.hid (HB7.out.ext hE8)
              have HO8:=Lib.hid (own_ext HO7.out hE8)
              clear hE8 HE7 HB7 HO7 hd0 hd1
              cases hbe:behind l d with
              | false=>
                go_wp2
                go_roundw
                case rel=>exact ⟨k+1,l,by omega,by omega,by omega,by go_num,HO8.out,HG.out,HNIL.out,HE8.out⟩
                case measure=>simp [intOf];omega
              | true=>
                have HG2:=Lib.hid (HG.out.push HD.out hbe (by omega))
                obtain ⟨happ,W',hW',v',hv',ho',hg'⟩:=appChg wc w.heap.size HE8.out.size _ l HO8.out (by omega) d
                have hown:=own_low HO8.out
                have HEA:=Lib.hid (ext_alloc HE8.out (.cells d.arr 62))
                have HE9:=Lib.hid (HEA.out.grown hg' HEA.out.size hown)
                have HO9:=Lib.hid ho'
                obtain ⟨A9,c9,rfl⟩:=own_shape ho'
                clear hown HEA ho' hg' hbe
                obtain ⟨d0,d1,d2,d3,d4,d5,d6,d7,d8,d9⟩:=d
                dsimp only [ChgT.arr] at happ hW' hv'
                have hB:=HB8.out
                have a0:wc.cell? ⟨bx,0,none⟩=some (.int .i64 d0):=hB.cell 0
                have a1:wc.cell? ⟨bx,1,none⟩=some (.int .i64 d1):=hB.cell 1
                have a2:wc.cell? ⟨bx,2,none⟩=some (.bool d2):=hB.cell 2
                have a3:wc.cell? ⟨bx,3,none⟩=some (.int .i64 d3):=hB.cell 3
                have a4:wc.cell? ⟨bx,4,none⟩=some (.int .i64 d4):=hB.cell 4
                have a5:wc.cell? ⟨bx,5,none⟩=some (.int .i64 d5):=hB.cell 5
                have a6:wc.cell? ⟨bx,6,none⟩=some (.bool d6):=hB.cell 6
                have a7:wc.cell? ⟨bx,7,none⟩=some (.int .i64 d7):=hB.cell 7
                have a8:wc.cell? ⟨bx,8,none⟩=some (.int .i64 d8):=hB.cell 8
                have a9:wc.cell? ⟨bx,9,none⟩=some (.int .i64 d9):=hB.cell 9
                clear hB
                go_wp2
                go_roundw
                case rel=>exact ⟨k+1,l++[⟨d0,d1,d2,d3,d4,d5,d6,d7,d8,d9⟩],by omega,by omega,by simp;omega,by go_num,(by have h9:=HO9.out;rw [show ∀ x:ChgT,(l++[x]).length=l.length+1 from fun _=>by simp];exact h9),HG2.out,fun h=>by simp at h,HE9.out⟩
                case measure=>simp [intOf];omega
      · have d1:decide ((k:Int)<(T.length:Int))=true:=by simp;omega
        have d2:decide ((k:Int)<6)=false:=by simp;omega
        go_wp2
        go_ret
        exact ⟨_,l,rfl,own_chgs HO.out HNIL.out,HG.out,HNIL.out,HE.out⟩
    · have d1:decide ((k:Int)<(T.length:Int))=false:=by simp;omega
      go_wp2
      go_ret
      exact ⟨_,l,rfl,own_chgs HO.out HNIL.out,HG.out,HNIL.out,HE.out⟩
end Go.Proofs.YtnajpjnnlocfgaaGreatDoor
namespace Go.Proofs.YtnajpjnnlocfgaaGreatDoor
open Go.RowKit Go.Shelf
attribute [local go_sem ↓] Go.wp_at_zero Go.wp_at_succ
def TabAt (w:World) (v:Value) (X:List (List (Int × Int × Int))):Prop:=
  ∃ A c,v=.slice A X.length c∧(0<X.length→∃ b off,A=some ⟨b,off,none⟩∧∀ (j:Nat) (T:List (Int × Int × Int)),X[j]? = some T→∃ u,w.cell? ⟨b,off+j,none⟩=some u∧TripsAt w u T)
end Go.Proofs.YtnajpjnnlocfgaaGreatDoor
namespace Go.Proofs.YtnajpjnnlocfgaaGreatDoor
open Go.RowKit Go.Shelf
attribute [local go_sem] Oper.semAt_some
theorem own_cells {W:World} {B e sz n:Nat} {v:Value} {xs:List Value} (h:W.ownsRow B e sz v n xs) (h0:0<n):∃ g cap,v=.slice (some ⟨g,0,none⟩) n cap∧B≤g∧g<W.heap.size∧n≤cap∧∀ (i:Nat) (u:Value),xs[i]? = some u→W.cell? ⟨g,i,none⟩=some u:=by
  obtain ⟨_,h2⟩:=h
  rcases h2 with ⟨_,h3⟩|⟨g,cap,cur,h3,h4,h5,h6,_,h8,h9⟩
  · omega
  refine ⟨g,cap,h3,h4,(Array.getElem?_eq_some_iff.1 h5).1,h6,fun i u hu=>?_⟩
  have hb:Blk W g e cur:=h5
  rw [hb.cell]
  rw [← h9,List.getElem?_take] at hu
  split at hu
  · simpa using hu
  · cases hu
theorem logRecordG (B gl:Nat) (rv hv:Value) (R:List (List ChgT × Nat × Nat)) (H:List (ByteArray × ByteArray)) (w:World) (h:LogG B w gl rv hv R H) (hG:∀ x ∈ R,GoodL x.1) (hR:R.length≤1000) (p:Nat) (hp:1≤p) (y:List ChgT × Nat × Nat) (hy:R[p-1]? = some y) :
    Calls Tryz.prog 79 #[.pointer (some ⟨gl,0,none⟩),.int .i64 (p:Int)] w
    fun e w'=>∃ g d,e=.returned (.tuple #[.agg #[.int .i64 (p:Int),.slice (some ⟨g,0,none⟩) y.1.length d],.bool true])∧w.heap.size≤g∧y.1.length≤d∧ChgB w' g y.1∧Below w.heap.size w w':=by
  have hpl:=(List.getElem?_eq_some_iff.1 hy).1
  obtain ⟨q,rfl⟩:∃ q,p=q+1:=⟨p-1,by omega⟩
  rw [Nat.add_sub_cancel] at hy hpl
  have hmem:=List.mem_of_getElem? hy
  have hc:=h.chg y hmem
  have hg:=hG y hmem
  have hl0:0<y.1.length:=by
    have h1:=hg.turns
    unfold validF at h1
    cases hh:y.1 with
    | nil=>rw [hh] at h1;simp at h1
    | cons a r=>simp
  have hl8:=hg.ok.few
  obtain ⟨gr,cr,rfl,_,hgr,hcr,hcell⟩:=own_cells h.recs (by omega)
  obtain ⟨r0,r1⟩:=rcF_at R 0 q y hy
  have r0:=hcell _ _ r0
  have r1:=hcell _ _ r1
  rw [Nat.zero_add] at r0
  obtain ⟨X,hX⟩:∃ X,X=w.alloc (.cells #[.int .i64 0,.slice none 0 0] 43):=⟨_,rfl⟩
  have HX:=Lib.hid hX
  have HE:=Lib.hid (show Below w.heap.size w X by rw [hX];exact ext_new _ _)
  have HR:=Lib.hid (show Blk X w.heap.size 43 #[.int .i64 0,.slice none 0 0] by rw [hX];exact Blk.new _ _ _)
  have c0:=(h.log.ext HE.out).cell 0
  have r0:=cell_ext r0 HE.out
  have r1:=cell_ext r1 HE.out
  have HC:=Lib.hid (fun W (k:Below X.heap.size X W)=>logOwnG ((q:Int)+1) y.1 (.slice (some ⟨y.2.1,0,none⟩) y.1.length y.2.2) W (((hc.1.ext HE.out).ext k).at_ hc.2) hl0 hl8)
  have hgl:=h.log.lt
  have HLC:=Lib.hid (fun W (k:Below X.heap.size X W)=>logLenC gl R.length cr _ W (cell_ext ((h.log.ext HE.out).cell 0) k))
  have e1:IntKind.i64.wrap (((q+1:Nat):Int)-1)=(q:Int):=by rw [show ((q+1:Nat):Int)-1=(q:Int) by omega];exact IntWalk.i64_in _ (by omega)
  have d1:decide (((q+1:Nat):Int)<1)=false:=by simp;omega
  have d2:decide (((q+1:Nat):Int) > (R.length:Int))=false:=by simp;omega
  have d3:decide ((R.length:Int)<((q+1:Nat):Int))=false:=by simp;omega
  have q0:(0:Int)≤(q:Int):=by omega
  have q1:(q:Int)<(R.length:Int):=by omega
  have e2:((q+1:Nat):Int)=(q:Int)+1:=by omega
  rw [e2] at e1 d1 d2 d3 ⊢
  clear hX h hc hg hy hcell e2 hpl hp hmem hG
  obtain ⟨ly,gy,dy⟩:=y
  dsimp only at *
  go_enter Tryz.func79,Tryz.ntmps79
  go_upto_region 1 with (fail)
  rw [← HX.out]
  go_wp2_with (go_at_call 36;refine (HLC.out _ (ext_refl _)).mono ?_;rintro e w' ⟨rfl,hw'⟩;subst w')
  refine (HC.out X (ext_refl X)).mono ?_
  rintro e W1 ⟨g2,d2',rfl,hgg,hd,hb,hb1⟩
  have HB1:=Lib.hid hb
  have HE1:=Lib.hid (ext_call HE.out hb1)
  have HR1:=Lib.hid (HR.out.ext hb1)
  have hg2:g2≠w.heap.size:=by have:=HR.out.lt;omega
  have hgw:w.heap.size≤g2:=Nat.le_trans HE.out.size hgg
  clear hb hb1 c0 r0 r1
  have z0:=HR1.out.cell 0;have z1:=HR1.out.cell 1
  have f0:=HR1.out.frozen 0
  have f1:=HR1.out.frozen 1
  go_wp2
  have hBf:=(HR1.out.set_ 0 (.int .i64 ((q:Int)+1))).set_ 1 (.slice (some ⟨g2,0,none⟩) ly.length d2')
  have y0:=hBf.cell 0;have y1:=hBf.cell 1
  refine bodyPost_ret (v:=.tuple #[.agg #[.int .i64 ((q:Int)+1),.slice (some ⟨g2,0,none⟩) ly.length d2'],.bool true]) (by simp [results,Tryz.results79,go_sem,y0,y1]) rfl ⟨g2,d2',rfl,hgw,hd,?_,?_⟩
  · exact (HB1.out.far (p:=⟨w.heap.size,0,none⟩) hg2 _).far (p:=⟨w.heap.size,1,none⟩) hg2 _
  · exact ext_set (ext_set HE1.out (Nat.le_refl _) _) (Nat.le_refl _) _
end Go.Proofs.YtnajpjnnlocfgaaGreatDoor
namespace Go.Proofs.YtnajpjnnlocfgaaGreatDoor
open Go.RowKit Go.Shelf
attribute [local go_sem] Oper.semAt_some
structure RecG (B gs gl b1 b2 b3 first last:Nat) (rv hv:Value) (R:List (List ChgT × Nat × Nat)) (H:List (ByteArray × ByteArray)) (W:World):Prop where
  one:Blk W b1 3 #[.int .i64 (first:Int)]
  two:Blk W b2 3 #[.int .i64 (last:Int)]
  srv:Blk W b3 24 #[.pointer (some ⟨gs,0,none⟩)]
  gs:W.cell? ⟨gs,0,none⟩=some (.pointer (some ⟨gl,0,none⟩))
  recs:LogG B W gl rv hv R H
theorem RecG.ext {B gs gl b1 b2 b3 first last:Nat} {rv hv:Value} {R:List (List ChgT × Nat × Nat)} {H:List (ByteArray × ByteArray)} {w W:World} (h:RecG B gs gl b1 b2 b3 first last rv hv R H w) (k:Below w.heap.size w W):RecG B gs gl b1 b2 b3 first last rv hv R H W:=
  ⟨h.one.ext k,h.two.ext k,h.srv.ext k,cell_ext h.gs k,h.recs.ext k⟩
def recN (x:Nat × Nat × Nat × Nat):Array Value:=#[.int .i64 (x.1:Int),.slice (some ⟨x.2.2.1,0,none⟩) x.2.1 x.2.2.2]
structure RecMG (first:Nat) (R:List (List ChgT × Nat × Nat)) (k:Nat) (x:Nat × Nat × Nat × Nat) (W:World):Prop where
  pos:x.1=first+k
  at_:∃ y,R[first+k-1]? = some y∧x.2.1=y.1.length∧ChgB W x.2.2.1 y.1∧y.1.length≤x.2.2.2
def nRec (first last n:Nat):Nat:=min last n+1-first
theorem recordsG_in (n:Nat) (hn:1≤n) (l B gs gl b1 b2 b3 first last:Nat) (hf:1≤first) (hf2:first≤1000) (rv hv:Value) (R:List (List ChgT × Nat × Nat)) (H:List (ByteArray × ByteArray)) (hR:R.length≤1000) (hG:∀ x ∈ R,GoodL x.1)
    (J:Nat→World→Prop) (hC:∀ k W,J k W→RecG B gs gl b1 b2 b3 first last rv hv R H W) (hA:∀ k A B,J k A→Below A.heap.size A B→J k B)
    (hY:∀ k xs W1,k<nRec first last R.length→J k W1→(∃ x,xs=#[.agg (recN x)]∧RecMG first R k x W1)→YieldAt Fence.wide (n-1) Tryz.prog l xs W1 fun e W'=>e=.returned (.bool true)∧J (k+1) W')
    (W:World) (h0:J 0 W) :
    CallsIn Fence.wide n Tryz.prog 78 #[.func (.yield l) #[] #[],.pointer (some ⟨b1,0,none⟩),.pointer (some ⟨b2,0,none⟩),.pointer (some ⟨b3,0,none⟩)] W (RecPost J (nRec first last R.length)):=by
  have HC:=Lib.hid hC
  have HA:=Lib.hid hA
  have HY:=Lib.hid hY
  have H0:=Lib.hid h0
  have R0:=Lib.hid (hC 0 W h0)
  have HG:=Lib.hid hG
  have hmx:max (first:Int) 1=(first:Int):=by omega
  obtain ⟨m,hm⟩:∃ m,m=min last R.length:=⟨_,rfl⟩
  have hmn:min (last:Int) (R.length:Int)=(m:Int):=by omega
  have HN:=Lib.hid (show nRec first last R.length=m+1-first by unfold nRec;rw [hm])
  have hmR:m≤R.length:=by omega
  clear hC hA hY h0 hG hm
  have a1:=R0.out.one.cell 0
  refine callsIn_of_wp Tryz.func78 rfl trivial ?_ rfl
  simp only [Tryz.ntmps78,List.size_toArray,List.length_cons,List.length_nil,Nat.reduceAdd,Nat.reduceSub,Array.replicate_succ,Array.replicate_zero,List.push_toArray,List.append_toArray,List.nil_append,List.cons_append]
  gi_wp2
  gi_loopw [5,6,7] (fun i _ _ wr=>∃ p:Nat,first≤p∧(p=first∨p≤m+1)∧i=.int .i64 (p:Int)∧J (p-first) wr) (fun i _ _ _=>m+1-(intOf i).toNat)
  case atStart=>exact ⟨first,Nat.le_refl _,.inl rfl,rfl,by rw [Nat.sub_self];exact H0.out⟩
  case round=>
    obtain ⟨p,hp1,hp2,rfl,hJ⟩:=hrel
    have HJ:=Lib.hid hJ
    have RJ:=Lib.hid (HC.out _ _ hJ)
    clear hJ R0 H0 a1
    have hLOG:=RJ.out.recs
    obtain ⟨Ar,cr,hrv⟩:=own_shape hLOG.recs
    have HQ:=Lib.hid (fun X (k:Below wr.heap.size wr X)=>srvPos gs gl R.length cr Ar hv X (cell_ext RJ.out.gs k) (by have h9:=(RJ.out.recs.ext k).log;rw [hrv] at h9;exact h9))
    clear hLOG hrv
    have a2:=RJ.out.two.cell 0
    have a3:=RJ.out.srv.cell 0
    have e2:IntKind.i64.wrap ((p:Int)+1)=(p:Int)+1:=IntWalk.i64_in _ (by omega)
    by_cases hlt:p≤m
    · have d1:decide ((p:Int)≤(m:Int))=true:=by simp;omega
      have q1:(p:Int)≤(m:Int):=by omega
      have hpR:p-1<R.length:=by omega
      obtain ⟨y,hy⟩:∃ y,R[p-1]? = some y:=⟨R[p-1],List.getElem?_eq_getElem hpR⟩
      have hy2:R[first+(p-first)-1]? = some y:=by rw [show first+(p-first)-1=p-1 by omega];exact hy
      have hk:p-first<nRec first last R.length:=by rw [HN.out];omega
      have HP:=Lib.hid (show first≤p∧p≤m from ⟨hp1,hlt⟩)
      gi_wp2
      gi_region_with (refine ⟨trivial,(callsIn_wide.2 (HQ.out _ (by first|exact ext_refl wr|exact (ext_refl wr).drew))).mono ?_⟩;rintro e W2 ⟨rfl,hw2⟩;subst W2)
      all_goals
        obtain ⟨V,hV⟩:∃ V,V=wr.drew:=⟨_,rfl⟩
        rw [← hV]
        have HEV:=Lib.hid (show Below wr.heap.size wr V by rw [hV];exact (ext_refl wr).drew)
        have RV:=Lib.hid (RJ.out.ext HEV.out)
        clear hV a2 a3
        have a3:=RV.out.srv.cell 0
        have s0:=RV.out.gs
        gi_wp2_with fail
        refine ⟨trivial,(callsIn_wide.2 (logRecordG B gl rv hv R H V RV.out.recs HG.out hR p (by omega) y hy)).mono ?_⟩
        rintro e W1 ⟨g,d,rfl,_,hd,hg,hb1⟩
        obtain ⟨W2,hW2⟩:∃ W2,W2=W1.alloc (.cells #[.int .i64 (p:Int),.slice (some ⟨g,0,none⟩) y.1.length d] 43):=⟨_,rfl⟩
        have HW2:=Lib.hid hW2
        have HE2:=Lib.hid (show Below wr.heap.size wr W2 by rw [hW2];exact ext_alloc (ext_call HEV.out hb1) _)
        have HG2:=Lib.hid (show ChgB W2 g y.1 by rw [hW2];exact hg.ext (ext_new _ _))
        clear hb1 hg hW2 a3 s0
        obtain ⟨fn,tmps,assign,body,hyy,hRun⟩:=HY.out (p-first) #[.agg #[.int .i64 (p:Int),.slice (some ⟨g,0,none⟩) y.1.length d]] W2 hk (HA.out _ _ _ HJ.out HE2.out) ⟨(p,y.1.length,g,d),rfl,⟨by show p=_;omega,y,hy2,rfl,HG2.out,hd⟩⟩
        gi_wp2_with fail
        rw [← HW2.out,hyy]
        gi_wp2
        refine hRun.mono ?_
        rintro e W3 ⟨rfl,hJ3⟩
        have HJ3:=Lib.hid hJ3
        clear hJ3 hRun hyy HW2
        gi_wp2
        go_roundw
        case rel=>exact ⟨p+1,by have:=HP.out;omega,.inr (by have:=HP.out;omega),by go_num,by rw [show p+1-first=p-first+1 by have:=HP.out;omega];exact HJ3.out⟩
        case measure=>have:=HP.out;simp [intOf];omega
    · have d1:decide ((p:Int)≤(m:Int))=false:=by simp;omega
      have q1:¬ (p:Int)≤(m:Int):=by omega
      have hk:p-first=nRec first last R.length:=by rw [HN.out];omega
      gi_wp2
      gi_region_with (refine ⟨trivial,(callsIn_wide.2 (HQ.out _ (by first|exact ext_refl wr|exact (ext_refl wr).drew))).mono ?_⟩;rintro e W2 ⟨rfl,hw2⟩;subst W2)
      all_goals
        gi_wp2
        refine bodyPost_ret (results_none rfl _ _ _) rfl ⟨⟨_,rfl⟩,?_⟩
        rw [← hk]
        exact HA.out _ _ _ HJ.out (ext_refl wr).drew
theorem recordsG_seq (n:Nat) (hn:1≤n) (B gs gl b1 b2 b3 first last:Nat) (hf:1≤first) (hf2:first≤1000) (rv hv:Value) (R:List (List ChgT × Nat × Nat)) (H:List (ByteArray × ByteArray)) (hR:R.length≤1000) (hG:∀ x ∈ R,GoodL x.1) :
    SeqMem n Tryz.prog 78 #[.pointer (some ⟨b1,0,none⟩),.pointer (some ⟨b2,0,none⟩),.pointer (some ⟨b3,0,none⟩)] (nRec first last R.length) (RecG B gs gl b1 b2 b3 first last rv hv R H) (fun k xs W=>∃ x,xs=#[.agg (recN x)]∧RecMG first R k x W):=
  fun l J W hC hA hY h0=>recordsG_in n hn l B gs gl b1 b2 b3 first last hf hf2 rv hv R H hR hG J hC hA hY W h0
end Go.Proofs.YtnajpjnnlocfgaaGreatDoor
namespace Go.Proofs.YtnajpjnnlocfgaaGreatDoor
open Go.RowKit Go.Shelf
attribute [local go_sem] Oper.semAt_some
attribute [local go_sem ↓] Go.wp_at_zero Go.wp_at_succ
section
variable {X Y:World} {row:Option Nat}
theorem ChgB.kept {g:Nat} {l:List ChgT} (h:ChgB X g l) (hg:X.grownBy Y row) (hr:∀ r,row=some r→∃ o:Obj,X.heap[r]? = some o∧o.isCells=false):ChgB Y g l:=by
  obtain ⟨cur,h1,h2⟩:=h
  exact ⟨cur,blk_kept h1 hg hr,h2⟩
theorem LogG.kept {B gl:Nat} {rv hv:Value} {R:List (List ChgT × Nat × Nat)} {H:List (ByteArray × ByteArray)} (h:LogG B X gl rv hv R H) (hg:X.grownBy Y row) (hr:∀ r,row=some r→∃ o:Obj,X.heap[r]? = some o∧o.isCells=false):LogG B Y gl rv hv R H:=
  ⟨blk_kept h.log hg hr,own_keptP h.recs hg hr,own_keptP h.heads hg hr,fun x hx=>⟨(h.chg x hx).1.kept hg hr,(h.chg x hx).2⟩,h.len,h.sizes⟩
theorem RecG.kept {B gs gl b1 b2 b3 first last:Nat} {rv hv:Value} {R:List (List ChgT × Nat × Nat)} {H:List (ByteArray × ByteArray)} (h:RecG B gs gl b1 b2 b3 first last rv hv R H X) (hg:X.grownBy Y row) (hr:∀ r,row=some r→∃ o:Obj,X.heap[r]? = some o∧o.isCells=false):RecG B gs gl b1 b2 b3 first last rv hv R H Y:=
  ⟨blk_kept h.one hg hr,blk_kept h.two hg hr,blk_kept h.srv hg hr,cell_kept h.gs hg hr,h.recs.kept hg hr⟩
theorem RecMG.kept {first k:Nat} {R:List (List ChgT × Nat × Nat)} {x:Nat × Nat × Nat × Nat} (h:RecMG first R k x X) (hg:X.grownBy Y row) (hr:∀ r,row=some r→∃ o:Obj,X.heap[r]? = some o∧o.isCells=false):RecMG first R k x Y:=by
  obtain ⟨y,h1,h2,h3,h4⟩:=h.at_
  exact ⟨h.pos,y,h1,h2,h3.kept hg hr,h4⟩
end
theorem RecMG.ext {w W:World} {first k:Nat} {R:List (List ChgT × Nat × Nat)} {x:Nat × Nat × Nat × Nat} (h:RecMG first R k x w) (e:Below w.heap.size w W):RecMG first R k x W:=by
  obtain ⟨y,h1,h2,h3,h4⟩:=h.at_
  exact ⟨h.pos,y,h1,h2,h3.ext e,h4⟩
theorem RecMG.ne {W:World} {first k b:Nat} {R:List (List ChgT × Nat × Nat)} {x:Nat × Nat × Nat × Nat} {t:TypeId} {cs:Array Value} (h:RecMG first R k x W) (hb:Blk W b t cs) (ht:62≠t):x.2.2.1≠b:=by
  obtain ⟨y,h1,h2,⟨cur,h3,_⟩,h4⟩:=h.at_
  exact blk_ne h3 hb ht
theorem RecMG.far {W:World} {first k:Nat} {R:List (List ChgT × Nat × Nat)} {x:Nat × Nat × Nat × Nat} (h:RecMG first R k x W) {p:Addr} (hp:x.2.2.1≠p.block) (u:Value):RecMG first R k x (W.setCell p u):=by
  obtain ⟨y,h1,h2,h3,h4⟩:=h.at_
  exact ⟨h.pos,y,h1,h2,h3.far hp u,h4⟩
end Go.Proofs.YtnajpjnnlocfgaaGreatDoor
namespace Go.Proofs.YtnajpjnnlocfgaaGreatDoor
open Go.RowKit Go.Shelf
def msgN (tn:Int) (x:Nat × Nat × Nat × Nat):Array Value:=#[.int .i64 1,.int .i64 100,.int .i64 tn,.int .i64 0,.int .i64 0,.int .i64 0,.int .i64 0,.int .i64 0,.int .i64 0,.int .i64 0,.int .i64 0,.int .i64 0,.int .i64 0,.int .i64 0,.int .i64 0,.int .i64 0,.int .i64 0,.int .i64 (x.1:Int),.slice (some ⟨x.2.2.1,0,none⟩) x.2.1 x.2.2.2,.int .i64 0,.int .i64 0,.int .i64 0,.int .i64 0,.int .i64 0,.int .i64 0,.int .i64 0,.int .i64 0,.int .i64 0,.slice none 0 0,.int .i64 0,.int .i64 0,.int .i64 0,.int .i64 0,.int .i64 0,.int .i64 0,.int .i64 0,.slice none 0 0,.int .i64 0,.bool false,.int .i64 0,.int .i64 0,.int .i64 0,.slice none 0 0,.slice none 0 0,.int .i64 0,.slice none 0 0,.slice none 0 0]
def mcN (tn:Int) (xs:List (Nat × Nat × Nat × Nat)):List Value:=xs.flatMap fun x=>(msgN tn x).toList
theorem Blk.extS {S:Nat→Prop} {W W':World} {g:Nat} {t:TypeId} {cs:Array Value} (h:Blk W g t cs) (k:ExtS S W W') (hn:¬ S g):Blk W' g t cs:=ExtS.blk h k hn
theorem own_isCells {W:World} {B sz n:Nat} {e:TypeId} {v:Value} {xs:List Value} (h:W.ownsRow B e sz v n xs):∀ (j:Nat) (o:Obj),v.ownBlock=some j→W.heap[j]? = some o→o.isCells=true:=by
  intro j o hj ho
  rcases h.2 with ⟨h1,_⟩|⟨g,cap,cur,h1,_,h3,_⟩
  · rw [h1] at hj;cases hj
  · rw [h1] at hj
    have e:g=j:=Option.some.inj hj
    subst e
    rw [h3] at ho
    cases ho
    rfl
theorem RecMG.blk {W:World} {first k:Nat} {R:List (List ChgT × Nat × Nat)} {x:Nat × Nat × Nat × Nat} (h:RecMG first R k x W):∃ cur,Blk W x.2.2.1 62 cur:=by
  obtain ⟨y,h1,h2,⟨cur,h3,_⟩,h4⟩:=h.at_
  exact ⟨cur,h3⟩
theorem RecMG.extS {S:Nat→Prop} {W W':World} {first k:Nat} {R:List (List ChgT × Nat × Nat)} {x:Nat × Nat × Nat × Nat} (h:RecMG first R k x W) (e:ExtS S W W') (hn:¬ S x.2.2.1):RecMG first R k x W':=by
  obtain ⟨y,h1,h2,⟨cur,h3,h4⟩,h5⟩:=h.at_
  exact ⟨h.pos,y,h1,h2,⟨cur,h3.extS e hn,h4⟩,h5⟩
structure CopG (w:World) (bt bo B gs gl b1 b2 b3 first last:Nat) (rv hv:Value) (R:List (List ChgT × Nat × Nat)) (H:List (ByteArray × ByteArray)) (tn:Int) (k:Nat) (W:World):Prop where
  ext:Below w.heap.size w W
  rec_:RecG B gs gl b1 b2 b3 first last rv hv R H W
  to_:Blk W bt 3 #[.int .i64 tn]
  out:∃ v xs,xs.length=k∧Blk W bo 71 #[v]∧W.ownsRow w.heap.size 84 47 v k (mcN tn xs)∧(k=0→v=.slice none 0 0)∧∀ (i:Nat) (x:Nat × Nat × Nat × Nat),xs[i]? = some x→RecMG first R i x W
attribute [local go_sem] run_semAt
attribute [local go_sem ↓] bd_exec bd_sem bs_exec bs_sem app_exec app_sem Go.wp_at_zero Go.wp_at_succ
end Go.Proofs.YtnajpjnnlocfgaaGreatDoor
