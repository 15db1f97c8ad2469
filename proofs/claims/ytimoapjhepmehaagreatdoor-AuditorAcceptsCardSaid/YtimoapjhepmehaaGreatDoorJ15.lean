/- Part 15: contracts that the last part uses. -/
import Derived.Test.YtimoapjhepmehaaGreatDoorJ13
import Derived.Test.YtimoapjhepmehaaGreatDoorJ8
import Derived.BigQuiet
set_option linter.unusedSimpArgs false
set_option linter.unusedVariables false
set_option maxHeartbeats 4000000
set_option maxRecDepth 100000
namespace Go.Proofs.YtimoapjhepmehaaGreatDoor
open Go.IntKind renaming i64->I
open Go.Value renaming int->U,pointer->Yl,agg->Ym,slice->Yn,string->Yr,bool->Ys,tuple->Yt
open Go renaming World->J,Value->Yj,Calls->Yo
open Go.Obj renaming cells->R
open Tryz renaming prog->Yi
open Go.RowKit renaming Below->Yk
open List renaming getElem?_eq_getElem->Yp
open Go.Ending renaming returned->Yq
section
open Go.RowKit Go.Shelf Go.Lib Go.Sort
attribute [local go_sem ↓] Go.wp_at_zero Go.wp_at_succ
theorem Kx(r:AD)(j:Nat)(hj:j<4)(w:J) :
  Yo Yi 89 #[Ym #[U I r.t,U I r.k,U I r.a,U I r.b,U I r.c],U I (j:Int)] w fun e w'=>e=Yq (U I (r.col j))/\w'=w.alloc (R #[U I r.t,U I r.k,U I r.a,U I r.b,U I r.c] 67):=by
 obtain⟨t,k,a,b,c⟩:=r
 match j,hj with
 | 0,_=>
  go_enter Tryz.func89,Tryz.ntmps89;go_wp2;go_ret;exact⟨rfl,rfl⟩
 | 1,_=>
  go_enter Tryz.func89,Tryz.ntmps89;go_wp2;go_ret;exact⟨rfl,rfl⟩
 | 2,_=>
  go_enter Tryz.func89,Tryz.ntmps89;go_wp2;go_ret;exact⟨rfl,rfl⟩
 | 3,_=>
  go_enter Tryz.func89,Tryz.ntmps89;go_wp2;go_ret;exact⟨rfl,rfl⟩
def Ak(X W:J):Prop:=∃ q os,W=grow (X.drewN q) os
section
variable {X W V:J}
theorem Ak.refl(X:J):Ak X X:=⟨0,#[],by rw[grow_empty];rfl⟩
theorem Ak.alloc(h:Ak X W)(o:Obj):Ak X (W.alloc o):=by
 obtain⟨q,os,rfl⟩:=h;exact⟨q,os ++ #[o],by rw[alloc_eq_grow,grow_grow]⟩
theorem Ak.drew(h:Ak X W):Ak X W.drew:=by
 obtain⟨q,os,rfl⟩:=h;exact⟨q+1,os,rfl⟩
theorem Ak.below(h:Ak X W):Yk X.heap.size X W:=by
 obtain⟨q,os,rfl⟩:=h;exact⟨rfl,rfl,rfl,by simp[grow,World.drewN],fun k hk=>by simp only[grow,World.drewN];rw[Array.getElem?_append_left hk]⟩
end
theorem Vz(b c:Nat)(x y r:Int)(hr:r=if x=0 then y else x)(w:J)(h0:w.cell? ⟨b,0,none⟩=some (U I x))(h1:w.cell? ⟨b,1,none⟩=some (U I y)):Yo Yi 140 #[Yn (some ⟨b,0,none⟩) 2 c] w fun e w'=>e=Yq (U I r)/\w=w':=by
 have HR:=Wz hr;clear hr;go_enter Tryz.func140,Tryz.ntmps140;go_wp2;refine wp_loop_rounds 3 ?_;rw[rounds_succ];by_cases hx:x=0
 ·subst hx;go_wp2;rw[rounds_succ];by_cases hy:y=0
  ·subst hy;go_wp2;rw[rounds_succ];go_wp2;go_ret;exact⟨by rw[HR.out];simp,rfl⟩
  go_wp2;go_ret;exact⟨by rw[HR.out];simp,rfl⟩
 go_wp2;go_ret;exact⟨by rw[HR.out];simp[hx],rfl⟩
def L2(j:Nat)(x y:AD):Int:=if compareInt (x.col j) (y.col j)=0 then compareInt x.k y.k else compareInt (x.col j) (y.col j)
def AY(r:AD):List Yj:=[U I r.t,U I r.k,U I r.a,U I r.b,U I r.c]
theorem UX{X V:J}{bc b d:Nat}{j t1 k1 a1 b1 c1 t2 k2 a2 b2 c2:Int}(h:X.cell? ⟨bc,0,none⟩=some (U I j)/\X.cell? ⟨b,0,none⟩=some (U I t1)/\X.cell? ⟨b,1,none⟩=some (U I k1)/\X.cell? ⟨b,2,none⟩=some (U I a1)/\X.cell? ⟨b,3,none⟩=some (U I b1)/\X.cell? ⟨b,4,none⟩=some (U I c1)/\X.cell? ⟨d,0,none⟩=some (U I t2)/\X.cell? ⟨d,1,none⟩=some (U I k2)/\X.cell? ⟨d,2,none⟩=some (U I a2)/\X.cell? ⟨d,3,none⟩=some (U I b2)/\X.cell? ⟨d,4,none⟩=some (U I c2))(k:Ak X V):V.cell? ⟨bc,0,none⟩=some (U I j)/\V.cell? ⟨b,0,none⟩=some (U I t1)/\V.cell? ⟨b,1,none⟩=some (U I k1)/\V.cell? ⟨b,2,none⟩=some (U I a1)/\V.cell? ⟨b,3,none⟩=some (U I b1)/\V.cell? ⟨b,4,none⟩=some (U I c1)/\V.cell? ⟨d,0,none⟩=some (U I t2)/\V.cell? ⟨d,1,none⟩=some (U I k2)/\V.cell? ⟨d,2,none⟩=some (U I a2)/\V.cell? ⟨d,3,none⟩=some (U I b2)/\V.cell? ⟨d,4,none⟩=some (U I c2)/\Ak X V:=by
 obtain⟨h0,h1,h2,h3,h4,h5,h6,h7,h8,h9,h10⟩:=h;have e:=k.below;exact⟨AG h0 e,AG h1 e,AG h2 e,AG h3 e,AG h4 e,AG h5 e,AG h6 e,AG h7 e,AG h8 e,AG h9 e,AG h10 e,k⟩
theorem UY{X V:J}{bc b d:Nat}{j t1 k1 a1 b1 c1 t2 k2 a2 b2 c2:Int}(h:V.cell? ⟨bc,0,none⟩=some (U I j)/\V.cell? ⟨b,0,none⟩=some (U I t1)/\V.cell? ⟨b,1,none⟩=some (U I k1)/\V.cell? ⟨b,2,none⟩=some (U I a1)/\V.cell? ⟨b,3,none⟩=some (U I b1)/\V.cell? ⟨b,4,none⟩=some (U I c1)/\V.cell? ⟨d,0,none⟩=some (U I t2)/\V.cell? ⟨d,1,none⟩=some (U I k2)/\V.cell? ⟨d,2,none⟩=some (U I a2)/\V.cell? ⟨d,3,none⟩=some (U I b2)/\V.cell? ⟨d,4,none⟩=some (U I c2)/\Ak X V):Ak X V:=h.2.2.2.2.2.2.2.2.2.2.2
theorem V2(x y:AD)(j:Nat)(hj:j<4)(bc:Nat)(W:J)(hc:W.cell? ⟨bc,0,none⟩=some (U I (j:Int))) :
  Yo Yi 139 #[Ym #[U I x.t,U I x.k,U I x.a,U I x.b,U I x.c],Ym #[U I y.t,U I y.k,U I y.a,U I y.b,U I y.c],Yl (some ⟨bc,0,none⟩)] W fun e w'=>e=Yq (U I (L2 j x y))/\Ak W w':=by
 have HV1:=Wz (fun W:J=>Kx x j hj W);have HV2:=Wz (fun W:J=>Kx y j hj W);have HR:=Wz (show L2 j x y=if compareInt (x.col j) (y.col j)=0 then compareInt x.k y.k else compareInt (x.col j) (y.col j)from rfl);generalize L2 j x y=r at HR ⊢;generalize x.col j=v1 at *;generalize y.col j=v2 at *;obtain⟨t1,k1,a1,b1,c1⟩:=x;obtain⟨t2,k2,a2,b2,c2⟩:=y;dsimp only at *;obtain⟨X,hX⟩:∃ X,X=(W.alloc (R #[U I t1,U I k1,U I a1,U I b1,U I c1] 67)).alloc (R #[U I t2,U I k2,U I a2,U I b2,U I c2] 67):=⟨_,rfl⟩;have HX:=Wz hX;have h1:Blk X W.heap.size 67 #[U I t1,U I k1,U I a1,U I b1,U I c1]:=by rw[hX];exact(Blk.new _ _ _).alloc _
 have h2:Blk X (W.heap.size+1) 67 #[U I t2,U I k2,U I a2,U I b2,U I c2]:=by rw[hX];exact Blk.new' _ _ _ (by simp)
 have hcX:X.cell? ⟨bc,0,none⟩=some (U I (j:Int)):=by rw[hX];exact AG hc (AB (AC W _) _)
 generalize (j:Int)=j at *;have HK:=Wz (show X.cell? ⟨bc,0,none⟩=some (U I j)/\X.cell? ⟨W.heap.size,0,none⟩=some (U I t1)/\X.cell? ⟨W.heap.size,1,none⟩=some (U I k1)/\X.cell? ⟨W.heap.size,2,none⟩=some (U I a1)/\X.cell? ⟨W.heap.size,3,none⟩=some (U I b1)/\X.cell? ⟨W.heap.size,4,none⟩=some (U I c1)/\X.cell? ⟨W.heap.size+1,0,none⟩=some (U I t2)/\X.cell? ⟨W.heap.size+1,1,none⟩=some (U I k2)/\X.cell? ⟨W.heap.size+1,2,none⟩=some (U I a2)/\X.cell? ⟨W.heap.size+1,3,none⟩=some (U I b2)/\X.cell? ⟨W.heap.size+1,4,none⟩=some (U I c2)from⟨hcX,h1.cell 0,h1.cell 1,h1.cell 2,h1.cell 3,h1.cell 4,h2.cell 0,h2.cell 1,h2.cell 2,h2.cell 3,h2.cell 4⟩);have HG:=Wz (show Ak W X by rw[hX];exact((Ak.refl W).alloc _).alloc _);have HCM:=Wz (fun(x y:Int)(W:J)=>Tryz.cmp_Compare_int x y W);clear h1 h2 hcX hX hc;go_enter Tryz.func139,Tryz.ntmps139;go_upto_region 1 with(fail)
 rw[<- HX.out];go_region_held3 (fun w'=>w'.cell? ⟨bc,0,none⟩=some (U I j)/\w'.cell? ⟨W.heap.size,0,none⟩=some (U I t1)/\w'.cell? ⟨W.heap.size,1,none⟩=some (U I k1)/\w'.cell? ⟨W.heap.size,2,none⟩=some (U I a1)/\w'.cell? ⟨W.heap.size,3,none⟩=some (U I b1)/\w'.cell? ⟨W.heap.size,4,none⟩=some (U I c1)/\w'.cell? ⟨W.heap.size+1,0,none⟩=some (U I t2)/\w'.cell? ⟨W.heap.size+1,1,none⟩=some (U I k2)/\w'.cell? ⟨W.heap.size+1,2,none⟩=some (U I a2)/\w'.cell? ⟨W.heap.size+1,3,none⟩=some (U I b2)/\w'.cell? ⟨W.heap.size+1,4,none⟩=some (U I c2)/\Ak X w')
  (first|with_reducible assumption|exact UX HK.out (by repeat (first|with_reducible refine Ak.alloc ?_ _|with_reducible refine Ak.drew ?_|with_reducible assumption|with_reducible exact Ak.refl _|exact UY (by assumption))))
  (first
   |(go_at_call 89;first|((with_reducible refine(HV1.out _).mono ?_);rintro e w' ⟨rfl,rfl⟩)|((with_reducible refine(HV2.out _).mono ?_);rintro e w' ⟨rfl,rfl⟩))
   |(go_at_call 141;(refine(HCM.out _ _ _).mono ?_);rintro e w' ⟨rfl,rfl⟩)
   |(go_at_call 140;refine(Vz _ _ (compareInt v1 v2) (compareInt k1 k2) r HR.out _ ?_ ?_).mono ?_;(exact(Blk.new' _ _ _ (by simp)).drew.cell 0);(exact(Blk.new' _ _ _ (by simp)).drew.cell 1);rintro e w' ⟨rfl,rfl⟩))
 go_wp2;go_ret;exact⟨rfl,(((HG.out.alloc _).alloc _).alloc _).drew⟩
end
section
open Go.RowKit Go.Shelf Go.Lib Go.Sort
instance:Inhabited AD:=⟨CB⟩
theorem NC(r:AD):(AY r).length=5:=rfl
theorem G7(r:AD):∀ v ∈ AY r,v.oneCell'=true:=by
 intro v hv;simp only[AY,List.mem_cons,List.not_mem_nil,or_false]at hv;rcases hv with rfl|rfl|rfl|rfl|rfl <;> rfl
theorem JA(j:Nat)(x y:AD):ltOf (L2 j) x y=(decide (x.col j<y.col j) || (decide (x.col j=y.col j) && decide (x.k<y.k))):=by
 unfold ltOf L2 compareInt;by_cases h1:x.col j<y.col j
 ·have h2:¬ x.col j=y.col j:=by omega
  simp[h1,h2]
 by_cases h2:x.col j=y.col j
 ·by_cases h3:x.k<y.k
  ·simp[h2,h3]
  by_cases h4:y.k<x.k <;> simp[h2,h3,h4]
 have h3:x.col j > y.col j:=by omega
 simp[h1,h2,h3]
theorem Sv(j:Nat):SWO (ltOf (L2 j)) where
 irrefl x:=by rw[JA];simp
 trans x y z h1 h2:=by rw[JA]at *;simp at *;omega
 ntrans x y z h1 h2:=by rw[JA]at *;simp at *;omega
def Eg(w:J)(g:Nat)(l:List AD):Prop:=∀(j:Nat) (r:AD),l[j]? = some r->∀ i,i<5->w.cell? ⟨g,j*5+i,none⟩=(AY r)[i]?
theorem Eg.ext{w W:J}{g:Nat}{l:List AD}(h:Eg w g l)(k:Yk w.heap.size w W):Eg W g l:=by
 intro j r hj i hi;have h1:=h j r hj i hi;rw[Yp (show i<(AY r).length from hi)]at h1 ⊢;exact AG h1 k
theorem Ie{w:J}{g:Nat}{l:List AD}(h:Eg w g l)(hf:∀ i,w.frozen? ⟨g,i,none⟩=false):HoldsK AY 5 w g 0 l.toArray:=by
 intro t ht;rw[size_flatK]at ht;rw[get_flatK _ _ _ _ ht,Nat.zero_add];refine⟨?_,hf t⟩;have hj:t / 5<l.length:=by simp at ht;omega
 have h1:=h (t / 5) _ (Yp hj) (t % 5) (Nat.mod_lt _ (by omega));have e:t / 5*5+t % 5=t:=by omega
 rw[e]at h1;rw[h1];have e2:l.toArray[t / 5]! = l[t / 5]:=by rw[getElem!_pos l.toArray (t / 5) (by simpa using hj)];rfl
 rw[e2,Yp (show t % 5<(AY l[t / 5]).length from Nat.mod_lt _ (by omega)),getElem!_pos (AY l[t / 5]) (t % 5) (Nat.mod_lt _ (by omega))];rfl
theorem ND{w:J}{g:Nat}{d:Array AD}(h:HoldsK AY 5 w g 0 d):Eg w g d.toList:=by
 intro j r hj i hi;have hlt:=(List.getElem?_eq_some_iff.1 hj).1;have hlt':j<d.size:=by simpa using hlt
 have h1:=(h (j*5+i) (by rw[size_flatK];omega)).1;rw[get_flatK _ _ _ _ (by omega),Nat.zero_add]at h1;have e1:(j*5+i) / 5=j:=by omega
 have e2:(j*5+i) % 5=i:=by omega
 rw[e1,e2]at h1;rw[h1];have e3:d[j]! = r:=by
  rw[getElem!_pos d j hlt'];have h3:=(List.getElem?_eq_some_iff.1 hj).2;rw[<- h3];simp
 rw[e3,Yp (show i<(AY r).length from hi),getElem!_pos (AY r) i hi];rfl
theorem Ol{w w0:J}{g n:Nat}{d:Array AD}{os:Array Obj}(h:Yk w0.heap.size w0 w)(hg:w0.heap.size<=g):Yk w0.heap.size w0 (sortWorldK AY 5 w g 0 n d os):=by
 refine⟨h.os,h.tape,h.output,?_,fun k hk=>?_⟩
 ·have:=h.size;simp[sortWorldK,grow,putRowK,Sort.ahead];omega
 have hk2:k<w.heap.size:=Nat.lt_of_lt_of_le hk h.size;rw[<- h.block k hk];simp only[sortWorldK,grow,putRowK,putRow,mapBlock,Sort.ahead];rw[Array.getElem?_append_left (by simpa using hk2),Array.getElem?_modify,if_neg (by omega)]
end
section
open Go.RowKit Go.Shelf
attribute [local go_sem ↓] AQ AU Go.wp_at_zero Go.wp_at_succ
def rc(l:List AD):List Yj:=l.flatMap AY
theorem DX(l:List AD):(rc l).length=l.length*5:=by
 induction l with
 | nil=>rfl
 | cons a r ih=>simp[rc,AY]at ih ⊢;omega
theorem H6(l:List AD)(r:AD):rc (l++[r])=rc l++AY r:=by simp[rc]
theorem Ky:∀(l:List AD) (j:Nat) (x:AD),l[j]? = some x->∀ i,i<5->(rc l)[j*5+i]? = (AY x)[i]?
 | [],j,x,h,i,hi=>by simp at h
 | y::l,0,x,h,i,hi=>by
  simp only[List.getElem?_cons_zero,Option.some.injEq]at h;subst h;simp only[rc,List.flatMap_cons,Nat.zero_mul,Nat.zero_add];rw[List.getElem?_append_left (show i<(AY y).length from hi)]
 | y::l,j+1,x,h,i,hi=>by
  have h1:=Ky l j x (by simpa using h) i hi;simp only[rc,List.flatMap_cons];rw[List.getElem?_append_right (by simp[AY];omega)];have e:(j+1)*5+i-(AY y).length=j*5+i:=by simp[AY];omega
  rw[e];exact h1
def AR(w:J)(v:Yj)(l:List AD):Prop:=∃ A c,v=Yn A l.length c/\(0<l.length->∃ g,A=some ⟨g,0,none⟩/\g<w.heap.size/\Eg w g l)
theorem AR.ext{w W:J}{v:Yj}{l:List AD}(h:AR w v l)(k:Yk w.heap.size w W):AR W v l:=by
 obtain⟨A,c,rfl,h⟩:=h;refine⟨A,c,rfl,fun h0=>?_⟩;obtain⟨g,hA,hg,hr⟩:=h h0;exact⟨g,hA,Nat.lt_of_lt_of_le hg k.size,hr.ext k⟩
def Di(r:AD)(t:Int)(j:Nat)(lo hi:Int):Bool:=(r.t == t) && decide (lo<=r.col j) && decide (r.col j<=hi)
theorem isInR(r : AD)(b1 b2 b3 b4 j : Nat)(t lo hi : Int)(hj : j < 4)(w : J)(hB : Km w b1 b2 b3 b4 j t lo hi) :
  Yo Yi 94 #[Ym #[U I r.t,U I r.k,U I r.a,U I r.b,U I r.c],Yl (some ⟨b1,0,none⟩),Yl (some ⟨b2,0,none⟩),Yl (some ⟨b3,0,none⟩),Yl (some ⟨b4,0,none⟩)] w fun e w'=>e=Yq (Ys (Di r t j lo hi))/\Yk w.heap.size w w':=by
 have HV:=Wz (fun W:J=>BL r j hj W);unfold Di;generalize r.col j=v at *;obtain⟨r0,r1,r2,r3,r4⟩:=r;dsimp only at *;have HB:=Wz (hB.ext (AC w (R #[U I r0,U I r1,U I r2,U I r3,U I r4] 67)));have HR:=Wz (Blk.new w 67 #[U I r0,U I r1,U I r2,U I r3,U I r4]);clear hB;have c1:=HB.out.1.cell 0;go_enter Tryz.func94,Tryz.ntmps94;go_wp2_with fail
 refine(HV.out _).mono ?_;rintro e W1 ⟨rfl,hb1⟩;have hB1:=HB.out.ext hb1;have a0:=(HR.out.ext hb1).cell 0;have d2:=hB1.2.1.cell 0;have d3:=hB1.2.2.1.cell 0;have d4:=hB1.2.2.2.cell 0;have HL:=Wz (AA (AC w _) hb1);clear hb1 hB1 c1;by_cases h1:r0=t
 ·subst h1;by_cases h2:lo<=v
  ·go_wp2;go_ret;exact⟨by simp[h2],HL.out⟩
  go_wp2;go_ret
  exact⟨by have h3:¬ lo<=v:=by omega
           simp[h3],HL.out⟩
 have h1':(r0 == t)=false:=by simpa using h1
 go_wp2;go_ret;exact⟨by simp[h1],HL.out⟩
theorem Eh:(Tryz.prog.info? 67).map (fun i=>(i.zero,i.size,i.bytes))=some (some (Ym #[U I 0,U I 0,U I 0,U I 0,U I 0]),5,40):=by kernel_rfl
theorem Sw(W:J)(base:Nat)(hb:base<=W.heap.size)(v:Yj)(n:Nat)(xs:List Yj)(hown:W.ownsRow base 67 5 v n xs)(hn:n<=1000000)(r:AD) :
  CU Yi (W.alloc (R #[U I r.t,U I r.k,U I r.a,U I r.b,U I r.c] 67)) 34 34 v (Yn (some ⟨W.heap.size,0,none⟩) 1 1)/\∃ W',appW Yi (W.alloc (R #[U I r.t,U I r.k,U I r.a,U I r.b,U I r.c] 67)) 34 34 v (Yn (some ⟨W.heap.size,0,none⟩) 1 1)=W' /\
   ∃ v',CV Yi (W.alloc (R #[U I r.t,U I r.k,U I r.a,U I r.b,U I r.c] 67)) 34 34 v (Yn (some ⟨W.heap.size,0,none⟩) 1 1)=v'/\W'.ownsRow base 67 5 v' (n+1) (xs++AY r)/\(W.alloc (R #[U I r.t,U I r.k,U I r.a,U I r.b,U I r.c] 67)).grownBy W' v.ownBlock:=by
 obtain⟨ii,hii,hzi0,hzi1,hzi2⟩:=info_parts Eh;obtain⟨h1,h2,h3⟩:=Du (P:=Yi) (w:=W.alloc (R #[U I r.t,U I r.k,U I r.a,U I r.b,U I r.c] 67)) base 34 34 67 ii (Ym #[U I 0,U I 0,U I 0,U I 0,U I 0]) 5 40 Tryz.underlying34 hii hzi0 hzi1 hzi2 rfl (by decide) v n xs (hown.alloc _) ⟨W.heap.size,0,none⟩ 1 1 (AY r) rfl (fun i u hu=>by
  rw[Bb];have hB:=Blk.new W 67 #[U I r.t,U I r.k,U I r.a,U I r.b,U I r.c];rw[hB.cell];rw[<- hu];simp[AY]) (G7 r) (by unfold maxLen;omega) (by omega) (by simp;omega)
 exact⟨h1,_,rfl,_,rfl,h2,h3⟩
def Jf(it:Nat)(es:Array MapEntry)(W:J):Nat:=match W.heap[it]? with|some (.mapIter _ _ seen _)=>(leftOf es seen).size|_=>0
theorem NF(es:Array MapEntry)(seen:Array Nat)(e:MapEntry)(he:e ∈ (leftOf es seen).toList):(leftOf es (seen.push e.born)).size<(leftOf es seen).size:=by
 unfold leftOf at *;simp only[Array.toList_filter,List.mem_filter]at he;have hsz:∀ p:MapEntry->Bool,(es.filter p).size=es.toList.countP p:=fun p=>by rw[List.countP_eq_length_filter,<- Array.toList_filter,Array.length_toList]
 rw[hsz,hsz];obtain⟨h1,h2⟩:=he;clear hsz;generalize es.toList=l at *
 induction l with
 | nil=>simp at h1
 | cons x l ih=>
  have hle:∀ m:List MapEntry,m.countP (fun e_1 => !(seen.push e.born).contains e_1.born)<=m.countP (fun e => !seen.contains e.born):=fun m=>List.countP_mono_left (fun y _ hy=>by simp at hy ⊢;exact hy.1);rw[List.countP_cons,List.countP_cons];rcases List.mem_cons.1 h1 with rfl|h3
  ·have h4:=hle l;have h5:(!(seen.push e.born).contains e.born)=false:=by simp
   simp only[h5,h2,Bool.false_eq_true,if_false,if_true];omega
  have h4:=ih h3;have h5:((if (!(seen.push e.born).contains x.born)=true then 1 else 0):Nat)<=(if (!seen.contains x.born)=true then 1 else 0):=by
   by_cases h6:seen.contains x.born=true
   ·have:(seen.push e.born).contains x.born=true:=by simp at h6 ⊢;exact .inl h6
    rw[h6,this];simp
   have h7:seen.contains x.born=false:=by simpa using h6
   rw[h7];split <;> simp
  omega
theorem RB{rs:List AD}{es:Array MapEntry}(h:es.toList.map (fun e=>(e.key,e.val))=rs.map (fun r=>(r.keyV,r.val))){e:MapEntry}(he:e ∈ es.toList):∃ r,r ∈ rs/\e.key=r.keyV/\e.val=Ym #[U I r.t,U I r.k,U I r.a,U I r.b,U I r.c]:=by
 have h1:(e.key,e.val) ∈ rs.map (fun r=>(r.keyV,r.val)):=by rw[<- h];exact List.mem_map.2 ⟨e,he,rfl⟩
 obtain⟨r,hr,h2⟩:=List.mem_map.1 h1;injection h2 with h3 h4
 exact⟨r,hr,h3.symm,h4.symm⟩
end
section
open Go.RowKit Go.Shelf
attribute [local go_sem ↓] AQ AU Go.wp_at_zero Go.wp_at_succ
theorem AK{W W':J}{base n sz:Nat}{e:TypeId}{v:Yj}{xs:List Yj}(h:W.ownsRow base e sz v n xs)(k:Yk W.heap.size W W'):W'.ownsRow base e sz v n xs:=by
 refine⟨h.1,?_⟩;rcases h.2 with hn'|⟨g,cap,cur,h1,h2,h3,h4⟩
 ·exact .inl hn'
 exact .inr ⟨g,cap,cur,h1,h2,(k.block g (Array.getElem?_eq_some_iff.1 h3).1).trans h3,h4⟩
theorem RC{W:J}{it:Nat}{o:Obj}{B n sz:Nat}{e:TypeId}{v:Yj}{xs:List Yj}(h:W.ownsRow B e sz v n xs)(hB:it<B):(W.putObj it o).ownsRow B e sz v n xs:=by
 refine h.kept (row:=some it) ⟨rfl,rfl,rfl,by simp,fun k _ hk=>World.putObj_heap_other (fun e=>hk (by rw[e]))⟩ ?_;rcases h.2 with⟨rfl,_⟩|⟨g,cap,cur,rfl,hg,_⟩
 ·exact .inl rfl
 exact .inr (by simp[Value.ownBlock];omega)
end
section
open Go.RowKit Go.Shelf
attribute [local go_sem ↓] AQ AU Go.wp_at_zero Go.wp_at_succ
def AD.sm(r:AD):Prop:=r.ok/\r.t<64/\r.k<64/\∀ x ∈ [r.a,r.b,r.c],-64<=x/\x<64
theorem H8(W:J)(base:Nat)(hb:base<=W.heap.size)(v:Yj)(n:Nat)(xs:List Yj)(hown:W.ownsRow base 9 1 v n xs)(hn:n<=1000000)(s:ByteArray) :
  CU Yi (W.alloc (R #[Yr s] 9)) 53 53 v (Yn (some ⟨W.heap.size,0,none⟩) 1 1)/\∃ W',appW Yi (W.alloc (R #[Yr s] 9)) 53 53 v (Yn (some ⟨W.heap.size,0,none⟩) 1 1)=W' /\
   ∃ v',CV Yi (W.alloc (R #[Yr s] 9)) 53 53 v (Yn (some ⟨W.heap.size,0,none⟩) 1 1)=v'/\W'.ownsRow base 9 1 v' (n+1) (xs++[Yr s])/\(W.alloc (R #[Yr s] 9)).grownBy W' v.ownBlock:=by
 obtain⟨is,his,hzs0,hzs1,hzs2⟩:=Ko;obtain⟨h1,h2,h3⟩:=Du (P:=Yi) (w:=W.alloc (R #[Yr s] 9)) base 53 53 9 is (Yr ⟨#[]⟩) 1 16 Tryz.underlying53 his hzs0 hzs1 hzs2 rfl (by decide) v n xs (hown.alloc _) ⟨W.heap.size,0,none⟩ 1 1 [Yr s] rfl (cell_one_new _ _ _) (by simp[Value.oneCell']) (by unfold maxLen;omega) (by omega) (by simp;omega);exact⟨h1,_,rfl,_,rfl,h2,h3⟩
theorem Sy{W:J}{base n:Nat}{v:Yj}{ss:List ByteArray}(h:W.ownsRow base 9 1 v n (ss.map Value.string))(hn:ss.length=n):AW (fun _=>True) W v ss:=by
 subst hn;by_cases h0:0<ss.length
 ·obtain⟨g,cap,cur,rfl,hg,hb⟩:=Ex h h0;refine⟨_,cap,rfl,?_,fun _=>⟨g,0,rfl,trivial,fun j x hx=>?_⟩⟩
  ·rcases h.2 with⟨he,_⟩|⟨g',cap',cur',he,_,_,h6,_⟩
   ·cases he
   injection he with _ _ hc
   omega
  have h1:=h.cells (g:=g) rfl j (Yr x) (by rw[List.getElem?_map,hx];rfl);rw[Bb]at h1;rw[Nat.zero_add];exact h1
 have h1:ss=[]:=List.length_eq_zero_iff.1 (by omega);subst h1;obtain⟨A,c,hsh⟩:=AI h;exact⟨A,c,hsh,by simp,fun h=>absurd h (by simp)⟩
theorem AR.at_{w:J}{v:Yj}{l:List AD}(h:AR w v l){j:Nat}{r:AD}(hj:l[j]? = some r):∃ g c,v=Yn (some ⟨g,0,none⟩) l.length c/\g<w.heap.size/\∀ i,i<5->w.cell? ⟨g,j*5+i,none⟩=(AY r)[i]? := by
 obtain⟨A,c,rfl,h⟩:=h;have hlt:=(List.getElem?_eq_some_iff.1 hj).1;obtain⟨g,rfl,hg,hr⟩:=h (by omega);exact⟨g,c,rfl,hg,hr j r hj⟩
end
section
open Go.RowKit
theorem G8:∀(n:Nat) (l:List Nat),l.Nodup->(∀ x ∈ l,x<n)->l.length<=n
 | 0,l,_,h=>by
  cases l with
  | nil=>simp
  | cons a r=>exact absurd (h a (by simp)) (by omega)
 | n + 1, l, hn, h => by
  by_cases hm:n ∈ l
  ·have h1:=G8 n (l.erase n) (hn.erase n) (fun x hx=>by
    have h2:=(hn.mem_erase_iff).1 hx;have h3:=h x h2.2;have h4:=h2.1;omega)
   rw[List.length_erase_of_mem hm]at h1;omega
  have h1:=G8 n l hn (fun x hx=>by
   have h3:=h x hx;have h4:x≠n:=fun e=>hm (e ▸ hx);omega)
  omega
def KR(t k:Int):Nat:=(9*t+(k-1)).toNat
def Jg(t k:Int):Prop:=(0<=t/\t<=2)/\(1<=k/\k<=9)
theorem P9{t k:Int}(h:Jg t k):KR t k<27:=by unfold KR;obtain⟨⟨h1,h2⟩,h3,h4⟩:=h;omega
theorem NG{t k t' k':Int}(h:Jg t k)(h':Jg t' k')(e:KR t k=KR t' k'):t=t'/\k=k':=by
 unfold KR at e;obtain⟨⟨h1,h2⟩,h3,h4⟩:=h;obtain⟨⟨h5,h6⟩,h7,h8⟩:=h';omega
structure D5 (rs:List AD):Prop where
 sm:∀ r ∈ rs,r.sm
 tiny:∀ r ∈ rs,Jg r.t r.k
 apart:(rs.map fun r=>KR r.t r.k).Nodup
theorem D5.nil:D5 []:=⟨by simp,by simp,by simp⟩
theorem D5.few{rs:List AD}(h:D5 rs):rs.length<=27:=by
 have:=G8 27 _ h.apart (fun x hx=>by
  obtain⟨r,hr,rfl⟩:=List.mem_map.1 hx;exact P9 (h.tiny r hr))
 simpa using this
theorem D5.del{rs:List AD}(h:D5 rs)(t k:Int):D5 (Iy rs t k):=by
 unfold Iy;split
 ·rename_i i _
  have hs:=List.eraseIdx_sublist rs i;exact⟨fun r hr=>h.sm r (hs.subset hr),fun r hr=>h.tiny r (hs.subset hr),h.apart.sublist (hs.map _)⟩
 exact h
theorem D5.put{rs:List AD}(h:D5 rs)(r:AD)(h1:r.sm)(h2:Jg r.t r.k):D5 (Ix rs r):=by
 unfold Ix;split
 ·rename_i i hi
  rw[List.findIdx?_eq_some_iff_getElem]at hi;obtain⟨hlt,his,_⟩:=hi;simp only[AD.is,Bool.and_eq_true,decide_eq_true_eq]at his;refine⟨fun x hx=>?_,fun x hx=>?_,?_⟩
  ·rcases List.mem_or_eq_of_mem_set hx with hx|rfl
   ·exact h.sm x hx
   exact h1
  ·rcases List.mem_or_eq_of_mem_set hx with hx|rfl
   ·exact h.tiny x hx
   exact h2
  rw[List.map_set];have e:(rs.map fun r=>KR r.t r.k).set i (KR r.t r.k)=rs.map fun r=>KR r.t r.k:=by
   apply List.ext_getElem?;intro j;rw[List.getElem?_set];by_cases hij:i=j
   ·subst hij;rw[if_pos rfl];simp[hlt,his.1,his.2]
   rw[if_neg hij]
  rw[e];exact h.apart
 rename_i hn
 rw[List.findIdx?_eq_none_iff]at hn;refine⟨fun x hx=>?_,fun x hx=>?_,?_⟩
 ·rcases List.mem_append.1 hx with hx|hx
  ·exact h.sm x hx
  simp at hx;rw[hx];exact h1
 ·rcases List.mem_append.1 hx with hx|hx
  ·exact h.tiny x hx
  simp at hx;rw[hx];exact h2
 rw[List.map_append,List.nodup_append];refine⟨h.apart,by simp,fun a ha b hb=>?_⟩;obtain⟨x,hx,rfl⟩:=List.mem_map.1 ha;simp only[List.map_cons,List.map_nil,List.mem_singleton]at hb;subst hb;intro e;have h3:=NG (h.tiny x hx) h2 e;have h4:=hn x hx;simp[AD.is,h3.1,h3.2]at h4
structure Dw (c:AH):Prop where
 ok:c.ok
 small:c.small
 tiny:Jg c.t c.k
theorem Dw.row{c:AH}(h:Dw c):AD.sm ⟨c.t,c.k,c.n1,c.n2,c.n3⟩:=by
 have h1:=h.ok;have h2:=h.small;have h3:=h.tiny;unfold AH.small at h2;simp only[List.mem_cons,List.not_mem_nil,or_false,forall_eq_or_imp,forall_eq]at h2;refine⟨⟨h1.1.1,h1.1.2,h1.2.2.2.2.1,h1.2.2.2.2.2.1,h1.2.2.2.2.2.2⟩,h2.1.2,h2.2.1.2,?_⟩;simp only[List.mem_cons,List.not_mem_nil,or_false,forall_eq_or_imp,forall_eq];exact⟨h2.2.2.2.2.2.1,h2.2.2.2.2.2.2.1,h2.2.2.2.2.2.2.2⟩
theorem D5.apply{l:List AH}:∀ {rs:List AD},D5 rs->(∀ c ∈ l,Dw c)->D5 (Bm rs l):=by
 induction l with
 | nil=>intro rs h _;exact h
 | cons c l ih=>
  intro rs h hc;have h1:D5 (applyC rs c):=by
   have h2:=hc c (by simp);unfold applyC;split
   ·exact h.put _ h2.row h2.tiny
   exact h.del _ _
  exact ih h1 (fun d hd=>hc d (by simp[hd]))
theorem NH{rs:List AD}{t k:Int}{r:AD}(h:BP rs t k=some r):r ∈ rs:=List.mem_of_find?_eq_some h
theorem Dw.fill{rs:List AD}(h:D5 rs){c:AH}(hc:Dw c):Dw (Cx rs c):=by
 have h1:=hc.ok;have h2:=hc.small;unfold AH.small at h2;simp only[List.mem_cons,List.not_mem_nil,or_false,forall_eq_or_imp,forall_eq]at h2
 cases hg:BP rs c.t c.k with
 | none=>
  refine⟨?_,?_,hc.tiny⟩
  ·simp only[Cx,hg,AH.ok,Option.isSome_none,Option.getD_none,CB];exact⟨h1.1,fun _=>⟨trivial,trivial,trivial⟩,h1.2.2.1,by omega,h1.2.2.2.2⟩
  simp only[Cx,hg,AH.small,Option.getD_none,CB,List.mem_cons,List.not_mem_nil,or_false,forall_eq_or_imp,forall_eq];exact⟨h2.1,h2.2.1,by omega,by omega,by omega,h2.2.2.2.2.2⟩
 | some r=>
  have hr:=h.sm r (NH hg);obtain⟨⟨_,_,q1,q2,q3⟩,_,_,q4⟩:=hr;simp only[List.mem_cons,List.not_mem_nil,or_false,forall_eq_or_imp,forall_eq]at q4;refine⟨?_,?_,hc.tiny⟩
  ·simp only[Cx,hg,AH.ok,Option.isSome_some,Option.getD_some];exact⟨h1.1,fun h=>(by cases h),h1.2.2.1,⟨q1,q2,q3⟩,h1.2.2.2.2⟩
  simp only[Cx,hg,AH.small,Option.getD_some,List.mem_cons,List.not_mem_nil,or_false,forall_eq_or_imp,forall_eq];exact⟨h2.1,h2.2.1,q4.1,q4.2.1,q4.2.2,h2.2.2.2.2.2⟩
end
section
open Go.RowKit Go.Shelf
attribute [local go_sem ↓] Go.wp_at_zero Go.wp_at_succ
def Ga(v:Yj):Prop:=∀ A n c,v=Yn A n c->n<=c
def DF(W:J)(g:Nat)(rows:List AD)(pos:Int):Prop:=∃ v,Blk W g 120 #[v,U I pos]/\AR W v rows/\Ga v
theorem DF.ext{w W:J}{g:Nat}{rows:List AD}{pos:Int}(h:DF w g rows pos)(k:Yk w.heap.size w W):DF W g rows pos:=by
 obtain⟨v,h1,h2,h3⟩:=h;exact⟨v,h1.ext k,h2.ext k,h3⟩
def Ds(rows:List AD):Prop:=rows.Pairwise (fun a b=>a.t<b.t∨(a.t=b.t/\a.k<b.k))
def I0(t k:Int)(r:AD):Bool:=decide (r.t<t) || (decide (r.t=t) && decide (r.k<k))
theorem CH{t k:Int}{r:AD}:I0 t k r=true↔r.t<t∨(r.t=t/\r.k<k):=by simp[I0]
def BV(rows:List AD)(t k:Int):Nat:=rows.findIdx (fun r => !I0 t k r)
theorem NI{rows:List AD}{t k:Int}{n:Nat}(hn:n<=rows.length)(hb:∀ i r,rows[i]? = some r->i<n->I0 t k r=true)(ha:∀ i r,rows[i]? = some r->n<=i->I0 t k r=false):BV rows t k=n:=by
 unfold BV;by_cases h:n<rows.length
 ·refine(List.findIdx_eq h).2 ⟨by rw[ha n _ (Yp h) (Nat.le_refl _)];rfl,fun j hj=>?_⟩;rw[hb j _ (Yp (by omega)) hj];rfl
 rw[show n=rows.length by omega,List.findIdx_eq_length];intro r hr;obtain⟨i,hi,hri⟩:=List.getElem_of_mem hr;rw[hb i r (by rw[Yp hi,hri]) (by omega)];rfl
theorem Ds.lt{rows:List AD}(h:Ds rows){i j:Nat}{a b:AD}(ha:rows[i]? = some a)(hb:rows[j]? = some b)(hij:i<j):a.t<b.t∨(a.t=b.t/\a.k<b.k):=by
 obtain⟨h1,rfl⟩:=List.getElem?_eq_some_iff.1 ha;obtain⟨h2,rfl⟩:=List.getElem?_eq_some_iff.1 hb;exact List.pairwise_iff_getElem.1 h i j h1 h2 hij
theorem Fz{rows:List AD}(h:Ds rows)(t k:Int):(∃ r,rows[BV rows t k]? = some r/\r.t=t/\r.k=k/\BP rows t k=some r)∨(BP rows t k=none/\∀ r,rows[BV rows t k]? = some r->¬ (r.t=t/\r.k=k)):=by
 cases hg:BP rows t k with
 | none=>
  refine .inr ⟨rfl,fun r hr he=>?_⟩;have h1:=List.find?_eq_none.1 hg r (List.mem_of_getElem? hr);simp[AD.is,he.1,he.2]at h1
 | some r =>
  refine .inl ⟨r,?_,?_⟩
  ·have h1:=List.find?_some hg;have hm:=List.mem_of_find?_eq_some hg;simp only[AD.is,Bool.and_eq_true,decide_eq_true_eq]at h1;obtain⟨i,hi,hri⟩:=List.getElem_of_mem hm;have hgi:rows[i]? = some r:=by rw[Yp hi,hri]
   have hp:BV rows t k=i:=NI (by omega) (fun j a ha hj=>CH.2 (by have:=h.lt ha hgi hj;omega)) (fun j a ha hj=>by
    rw[Bool.eq_false_iff];intro hb;have hb:=CH.1 hb;rcases Nat.lt_or_ge i j with h2|h2
    ·have:=h.lt hgi ha h2;omega
    have e:j=i:=by omega
    subst e;rw[hgi]at ha;have:=Option.some.inj ha;subst this;omega)
   rw[hp];exact hgi
  have h1:=List.find?_some hg;simp only[AD.is,Bool.and_eq_true,decide_eq_true_eq]at h1;exact⟨h1.1.symm,h1.2.symm,rfl⟩
theorem Sz(w:J):Yo Yi 44 #[] w fun e w'=>e=Yq (Yl (some ⟨w.heap.size,0,none⟩))/\DF w' w.heap.size [] 0/\Yk w.heap.size w w':=by
 go_enter Tryz.func44,Tryz.ntmps44;go_wp2;go_ret;exact⟨rfl,⟨_,Blk.new _ _ _,⟨none,0,rfl,fun h=>absurd h (by simp)⟩,fun A n c h=>by injection h with _ h2 h3;omega⟩,AC _ _⟩
theorem NJ(rows:List AD)(hs:Ds rows)(hl:rows.length<=1000000)(t k pos:Int)(g:Nat)(w:J)(hS:DF w g rows pos) :
  Yo Yi 80 #[Yl (some ⟨g,0,none⟩),U I t,U I k] w fun e w'=>e=Yq (U I (BV rows t k:Nat))/\w=w':=by
 obtain⟨v,hb,hr,-⟩:=hS;have b0:=hb.cell 0;have HR:=Wz hr;have HSO:=Wz hs;obtain⟨A,c,rfl,-⟩:=hr;clear hb hs;go_enter Tryz.func80,Tryz.ntmps80;go_wp2;go_loop [7,8,9] (fun lv hv _=>∃ lo hi:Nat,lv=U I (lo:Int)/\hv=U I (hi:Int)/\lo<=hi/\hi<=rows.length/\(∀ i r,rows[i]? = some r->i<lo->I0 t k r=true)/\(∀ i r,rows[i]? = some r->hi<=i->I0 t k r=false)) (fun lv hv _=>(intOf hv).toNat-(intOf lv).toNat)
 case atStart=>exact⟨0,rows.length,rfl,rfl,Nat.zero_le _,Nat.le_refl _,fun i r _ h=>absurd h (by omega),fun i r hi h=>by have:=(List.getElem?_eq_some_iff.1 hi).1;omega⟩
 obtain⟨lo,hi,rfl,rfl,hlh,hhl,hlo,hhi⟩:=hrel;have HLO:=Wz hlo;have HHI:=Wz hhi;clear hlo hhi;by_cases hlt:lo<hi
 ·obtain⟨m, hm⟩ : ∃ m, m = (lo + hi) / 2 := ⟨_, rfl⟩;obtain⟨r,hrm⟩:∃ r,rows[m]? = some r:=⟨_,Yp (by omega)⟩;obtain⟨g2,c',hA,_,hc9⟩:=HR.out.at_ hrm;injection hA with hA _ hc'
  subst hA hc';have r0:=hc9 0 (by omega);have r1:=hc9 1 (by omega);simp only[AY,List.getElem?_cons_zero,List.getElem?_cons_succ,Nat.add_zero]at r0 r1;have e1:IntKind.i64.wrap ((lo:Int)+(hi:Int))=(lo:Int)+(hi:Int):=IntWalk.i64_in _ (by omega);have e2:((lo:Int)+(hi:Int)) / 2=(m:Int):=by omega
  have e3:IntKind.i64.wrap ((m:Int)+1)=(m:Int)+1:=IntWalk.i64_in _ (by omega);have q0:(0:Int)<=(m:Int):=by omega
  have q1:(m:Int)<(rows.length:Int):=by omega
  have hml:lo<=m/\m<hi:=by omega
  have HM:=Wz hml;have HRM:=Wz hrm;have d1:decide ((lo:Int)<(hi:Int))=true:=decide_eq_true (by omega);clear hc9 hrm hm hml;by_cases ht:r.t<t
  ·go_wp2;go_round
   case rel=>exact⟨m+1,hi,by go_num,rfl,by have:=HM.out;omega,hhl,fun i a ha hi2=>by
    rcases Nat.lt_or_ge i m with h|h
    ·have:=HSO.out.lt ha HRM.out h;exact CH.2 (by omega)
    have e:i=m:=by omega
    subst e;rw[HRM.out]at ha;have:=Option.some.inj ha;subst this;exact CH.2 (.inl ht),HHI.out⟩
   have:=HM.out;simp[intOf];omega
  by_cases ht2:r.t=t
  ·have b1:(r.t == t)=true:=by simpa using ht2
   by_cases hk:r.k<k
   ·have HT:=Wz ht2;clear ht2;go_wp2;go_round
    case rel=>exact⟨m+1,hi,by go_num,rfl,by have:=HM.out;omega,hhl,fun i a ha hi2=>by
     have ht2:=HT.out;rcases Nat.lt_or_ge i m with h|h
     ·have:=HSO.out.lt ha HRM.out h;exact CH.2 (by omega)
     have e:i=m:=by omega
     subst e;rw[HRM.out]at ha;have:=Option.some.inj ha;subst this;exact CH.2 (.inr ⟨ht2,hk⟩),HHI.out⟩
    have:=HM.out;simp[intOf];omega
   have HT:=Wz ht2;clear ht2;go_wp2;go_round
   case rel=>exact⟨lo,m,rfl,(by first|rfl|rw[e2]),HM.out.1,by have:=HM.out;omega,HLO.out,fun i a ha hi2=>by
    have ht2:=HT.out;rw[Bool.eq_false_iff];intro hb;have hb:=CH.1 hb;rcases Nat.lt_or_ge m i with h|h
    ·have:=HSO.out.lt HRM.out ha h;omega
    have e:i=m:=by omega
    subst e;rw[HRM.out]at ha;have:=Option.some.inj ha;subst this;omega⟩
   have:=HM.out;simp[intOf];omega
  have b1:(r.t == t)=false:=by simpa using ht2
  have HT:=Wz ht2;clear ht2;go_wp2;go_round
  case rel=>exact⟨lo,m,rfl,(by first|rfl|rw[e2]),HM.out.1,by have:=HM.out;omega,HLO.out,fun i a ha hi2=>by
   have ht2:=HT.out;rw[Bool.eq_false_iff];intro hb;have hb:=CH.1 hb;rcases Nat.lt_or_ge m i with h|h
   ·have:=HSO.out.lt HRM.out ha h;omega
   have e:i=m:=by omega
   subst e;rw[HRM.out]at ha;have:=Option.some.inj ha;subst this;omega⟩
  have:=HM.out;simp[intOf];omega
 have HP:=Wz (show BV rows t k=lo from NI (by omega) HLO.out (fun i r hr hi2=>HHI.out i r hr (by omega)));have d1:decide ((lo:Int)<(hi:Int))=false:=decide_eq_false (by omega);go_wp2;go_ret;exact⟨by rw[HP.out];rfl,rfl⟩
theorem getP{rows:List AD}(t k:Int):(∃ r,BP rows t k=some r/\r.t=t/\r.k=k)∨BP rows t k=none:=by
 cases h:BP rows t k with
 | none=>exact .inr rfl
 | some r=>
  have h1:=List.find?_some h;simp only[AD.is,Bool.and_eq_true,decide_eq_true_eq]at h1;exact .inl ⟨r,rfl,h1.1.symm,h1.2.symm⟩
theorem S0(rows:List AD)(hs:Ds rows)(hl:rows.length<=1000000)(t k pos:Int)(g:Nat)(w:J)(hS:DF w g rows pos) :
  Yo Yi 45 #[Yl (some ⟨g,0,none⟩),U I t,U I k] w fun e w'=>
   e=Yq (Yt #[Ym #[U I ((BP rows t k).getD CB).t,U I ((BP rows t k).getD CB).k,U I ((BP rows t k).getD CB).a,U I ((BP rows t k).getD CB).b,U I ((BP rows t k).getD CB).c],Ys (BP rows t k).isSome])/\Yk w.heap.size w w':=by
 have HP:=Wz (NJ rows hs hl t k pos g _ (hS.ext (AC w (R #[U I 0,U I 0,U I 0,U I 0,U I 0] 67))));have hgp:=Fz hs t k;have hpl:BV rows t k<=rows.length:=List.findIdx_le_length;obtain⟨v,hb,hr,-⟩:=hS.ext (AC w (R #[U I 0,U I 0,U I 0,U I 0,U I 0] 67));have HB:=Wz hb;have HX:=Wz (Blk.new w 67 #[U I 0,U I 0,U I 0,U I 0,U I 0]);have b0:=hb.cell 0;have gl:=hb.lt;have HRW:=Wz hr;obtain⟨A,c,rfl,-⟩:=hr;generalize BV rows t k=m at *;generalize BP rows t k=G at hgp ⊢;clear hS hb hs;go_enter Tryz.func45,Tryz.ntmps45;go_wp2_with fail
 refine HP.out.mono ?_;rintro e w' ⟨rfl,hw'⟩;subst w';rcases hgp with⟨r,hrm,h1,h2,hg⟩|⟨hg,hno⟩
 ·have hml:=(List.getElem?_eq_some_iff.1 hrm).1;obtain⟨g2,c',hA,hgl,hc9⟩:=HRW.out.at_ hrm;injection hA with hA _ hc'
  subst hA hc';have r0:=hc9 0 (by omega);have r1:=hc9 1 (by omega);have r2:=hc9 2 (by omega);have r3:=hc9 3 (by omega);have r4:=hc9 4 (by omega);subst hg;obtain⟨x0,x1,x2,x3,x4⟩:=r;dsimp only at h1 h2;subst h1 h2;simp only[AY,List.getElem?_cons_zero,List.getElem?_cons_succ,Nat.add_zero]at r0 r1 r2 r3 r4;have q0:(0:Int)<=(m:Int):=by omega
  have q1:(m:Int)<(rows.length:Int):=by omega
  have z0:=HX.out.cell 0;have z1:=HX.out.cell 1;have z2:=HX.out.cell 2;have z3:=HX.out.cell 3;have z4:=HX.out.cell 4;have f0:=HX.out.frozen 0;have f1:=HX.out.frozen 1;have f2:=HX.out.frozen 2;have f3:=HX.out.frozen 3;have f4:=HX.out.frozen 4;clear hc9 hrm hml hgl;go_wp2;have hBf:=((((HX.out.set_ 0 (U I x0)).set_ 1 (U I x1)).set_ 2 (U I x2)).set_ 3 (U I x3)).set_ 4 (U I x4);have y0:=hBf.cell 0;have y1:=hBf.cell 1;have y2:=hBf.cell 2;have y3:=hBf.cell 3;have y4:=hBf.cell 4;refine bodyPost_ret (v:=Yt #[Ym #[U I x0,U I x1,U I x2,U I x3,U I x4],Ys true]) (by simp[results,Tryz.results45,go_sem,y0,y1,y2,y3,y4]) rfl ⟨rfl,?_⟩
  repeat (first|with_reducible exact AC _ _|refine AE ?_ (Nat.le_refl _) _)
 subst hg;have x0:=HX.out.cell 0;have x1:=HX.out.cell 1;have x2:=HX.out.cell 2;have x3:=HX.out.cell 3;have x4:=HX.out.cell 4;have f0:=HX.out.frozen 0;have f1:=HX.out.frozen 1;have f2:=HX.out.frozen 2;have f3:=HX.out.frozen 3;have f4:=HX.out.frozen 4;have hBf:=((((HX.out.set_ 0 (U I 0)).set_ 1 (U I 0)).set_ 2 (U I 0)).set_ 3 (U I 0)).set_ 4 (U I 0);by_cases hml:m<rows.length
 ·obtain⟨r,hrm⟩:∃ r,rows[m]? = some r:=⟨_,Yp hml⟩;have hnr:=hno r hrm;obtain⟨g2,c',hA,hgl,hc9⟩:=HRW.out.at_ hrm;injection hA with hA _ hc'
  subst hA hc';have r0:=hc9 0 (by omega);have r1:=hc9 1 (by omega);simp only[AY,List.getElem?_cons_zero,List.getElem?_cons_succ,Nat.add_zero]at r0 r1;have q0:(0:Int)<=(m:Int):=by omega
  have q1:(m:Int)<(rows.length:Int):=by omega
  by_cases ht:r.t=t
  ·have hk:r.k≠k:=fun h=>hnr ⟨ht,h⟩;have d1:(r.t == t)=true:=by simpa using ht
   have d2:(r.k == k)=false:=by simpa using hk
   clear hc9 hrm hml hgl ht hk hnr hno;go_wp2;have y0:=hBf.cell 0;have y1:=hBf.cell 1;have y2:=hBf.cell 2;have y3:=hBf.cell 3;have y4:=hBf.cell 4;refine bodyPost_ret (v:=Yt #[Ym #[U I 0,U I 0,U I 0,U I 0,U I 0],Ys false]) (by simp[results,Tryz.results45,go_sem,y0,y1,y2,y3,y4]) rfl ⟨rfl,?_⟩
   repeat (first|with_reducible exact AC _ _|refine AE ?_ (Nat.le_refl _) _)
  have d1:(r.t == t)=false:=by simpa using ht
  clear hc9 hrm hml hgl ht hnr hno;go_wp2;have y0:=hBf.cell 0;have y1:=hBf.cell 1;have y2:=hBf.cell 2;have y3:=hBf.cell 3;have y4:=hBf.cell 4;refine bodyPost_ret (v:=Yt #[Ym #[U I 0,U I 0,U I 0,U I 0,U I 0],Ys false]) (by simp[results,Tryz.results45,go_sem,y0,y1,y2,y3,y4]) rfl ⟨rfl,?_⟩
  repeat (first|with_reducible exact AC _ _|refine AE ?_ (Nat.le_refl _) _)
 have e:m=rows.length:=by omega
 have d1:decide ((m:Int)<(rows.length:Int))=false:=decide_eq_false (by omega);have d2:decide (m<rows.length)=false:=decide_eq_false (by omega);clear hml hno e;go_wp2;have y0:=hBf.cell 0;have y1:=hBf.cell 1;have y2:=hBf.cell 2;have y3:=hBf.cell 3;have y4:=hBf.cell 4;refine bodyPost_ret (v:=Yt #[Ym #[U I 0,U I 0,U I 0,U I 0,U I 0],Ys false]) (by simp[results,Tryz.results45,go_sem,y0,y1,y2,y3,y4]) rfl ⟨rfl,?_⟩
 repeat (first|with_reducible exact AC _ _|refine AE ?_ (Nat.le_refl _) _)
end
section
open Go.RowKit Go.Shelf
section
attribute [local go_sem] Oper.semAt_some
end
section
attribute [local go_sem] Cm
attribute [local go_sem high] AU
theorem As.stateR{B gs gm:Nat}{pos:Int}{rs:List AD}(h:gm<B):As B (fun W=>BA W gs gm pos rs):=As.and As.blk (fun _ X Y row hs hg hr=>by
 obtain⟨es,c,hm,h2⟩:=hs;exact⟨es,c,As.map (B:=B) h () X Y row hm hg hr,h2⟩)
end
end
section
open Go.RowKit
attribute [local go_sem ↓] Go.wp_at_zero Go.wp_at_succ
theorem KS(c:AH):(B5 c).length<=9:=by
 unfold B5;cases c.had <;> cases c.has <;> simp
end
section
open Go.RowKit Go.Shelf Go.Lib Go.Sort
def I4(j:Nat)(a b:AD):Bool := !(ltOf (L2 j) b a)
theorem D6(j:Nat)(a b:AD):I4 j a b=true↔a.col j<b.col j∨(a.col j=b.col j/\a.k<=b.k):=by
 unfold I4;rw[JA];simp;omega
theorem Om(j:Nat)(a b c:AD):I4 j a b=true->I4 j b c=true->I4 j a c=true:=by
 rw[D6,D6,D6];omega
theorem On(j:Nat)(a b:AD):(I4 j a b || I4 j b a)=true:=by
 rw[Bool.or_eq_true,D6,D6];omega
def A0(rs:List AD):Prop:=rs.Pairwise (fun a b=>¬ (a.t=b.t/\a.k=b.k))
theorem A0.eq:∀ {rs:List AD},A0 rs->∀ a ∈ rs,∀ b ∈ rs,a.t=b.t->a.k=b.k->a=b
 | [],_,a,ha,_,_,_,_=>by cases ha
 | x :: rs, h, a, ha, b, hb, h1, h2 => by
  rw[A0,List.pairwise_cons]at h;rcases List.mem_cons.1 ha with ha1|ha1
  ·rcases List.mem_cons.1 hb with hb1|hb1
   ·exact ha1.trans hb1.symm
   subst ha1;exact absurd ⟨h1,h2⟩ (h.1 b hb1)
  rcases List.mem_cons.1 hb with hb1|hb1
  ·subst hb1;exact absurd ⟨h1.symm,h2.symm⟩ (h.1 a ha1)
  exact A0.eq h.2 a ha1 b hb1 h1 h2
def C6(rs:List AD)(t:Int)(j:Nat)(lo hi:Int):List AD:=(rs.filter fun r=>Di r t j lo hi).mergeSort (I4 j)
theorem Ei(rs:List AD)(t:Int)(j:Nat)(lo hi:Int):(C6 rs t j lo hi).Perm (rs.filter fun r=>Di r t j lo hi):=List.mergeSort_perm _ _
theorem Fc(rs:List AD)(t:Int)(j:Nat)(lo hi:Int):(C6 rs t j lo hi).Pairwise (fun a b=>I4 j a b=true):=List.pairwise_mergeSort (Om j) (On j) _
theorem D7{rs:List AD}{t:Int}{j:Nat}{lo hi:Int}{r:AD}:r ∈ C6 rs t j lo hi↔r ∈ rs/\Di r t j lo hi=true:=by
 rw[(Ei rs t j lo hi).mem_iff,List.mem_filter]
theorem Be(rs:List AD)(t:Int)(j:Nat)(lo hi:Int):(C6 rs t j lo hi).length<=rs.length:=by
 rw[(Ei rs t j lo hi).length_eq];exact List.length_filter_le _ _
theorem Jh{r:AD}{t:Int}{j:Nat}{lo hi:Int}(h:Di r t j lo hi=true):r.t=t:=by
 unfold Di at h;simp at h;exact h.1.1
theorem JB{rs l:List AD}{t:Int}{j:Nat}{lo hi:Int}(ha:A0 rs)(hp:l.Perm (rs.filter fun r=>Di r t j lo hi))(hs:l.Pairwise (fun a b=>I4 j a b=true)):l=C6 rs t j lo hi:=by
 refine List.Perm.eq_of_pairwise (fun a b h1 h2 h3 h4=>?_) hs (Fc rs t j lo hi) (hp.trans (Ei rs t j lo hi).symm);have h5:=List.mem_filter.1 (hp.mem_iff.1 h1);have h6:=D7.1 h2;rw[D6]at h3 h4;refine ha.eq a h5.1 b h6.1 ((Jh h5.2).trans (Jh h6.2).symm) (by omega)
theorem RD(l:List AD)(g c j bc:Nat)(hj:j<4)(w:J)(hbc:w.cell? ⟨bc,0,none⟩=some (U I (j:Int)))(hne:bc≠g)(hR:Eg w g l)(hf:∀ i,w.frozen? ⟨g,i,none⟩=false)(hg:g<w.heap.size)(hl:l.length<=1000000) :
  Yo Yi 138 #[Yn (some ⟨g,0,none⟩) l.length c,.func (.func 139) #[] #[Yl (some ⟨bc,0,none⟩)]] w fun e w'=>
   (∃ u,e=Yq u)/\∃ l',l'.Perm l/\l'.Pairwise (fun a b=>I4 j a b=true)/\Eg w' g l'/\w.heap.size<=w'.heap.size/\(∀ w0,Yk w0.heap.size w0 w->w0.heap.size<=g->Yk w0.heap.size w0 w'):=by
 have eg:∀ args w,(callFunc 139 args).run Yi w=.ok (.enter 139 args) w:=enters_of Tryz.func139 (by kernel_rfl) rfl;have hcmp:CmpLays Yi 139 #[Yl (some ⟨bc,0,none⟩)] AY 5 (L2 j) g 0 l.toArray.size w:=fun m os dk _ x y=>by
  refine(V2 x y j hj bc (sortWorldK AY 5 w g 0 m dk os) ?_).mono fun e w' h=>h;unfold sortWorldK;have hb:Yk (putRowK AY 5 (Sort.ahead w m) g 0 dk).heap.size (putRowK AY 5 (Sort.ahead w m) g 0 dk) (grow (putRowK AY 5 (Sort.ahead w m) g 0 dk) os):=Ak.below ⟨0,os,rfl⟩;refine AG ?_ hb;rw[cell?_putRowK_other _ _ _ _ _ _ _ (by simpa using hne)];exact hbc
 have hcon:=AnyQ.slices_SortFunc Tryz.sortRows 5 Tryz.isAgg67 Tryz.sizeOf67 AY NC G7 (L2 j) (Sv j) 139 #[Yl (some ⟨bc,0,none⟩)] g 0 c l.toArray w eg hcmp (Ie hR hf) hg (by simp;omega);change Yo Yi 138 _ _ _ at hcon;refine hcon.mono ?_;rintro e w' ⟨rfl,d',n,os,hp,hs,rfl⟩;refine⟨⟨_,rfl⟩,d'.toList,?_,?_,?_,by simp[sortWorldK,grow,putRowK,Sort.ahead],fun w0 h h0=>Ol h h0⟩
 ·have h1:=hp.2.2;have hs1:=hp.1;simp at hs1;have h2:d'.toList.take l.length=d'.toList:=List.take_of_length_le (by simp[hs1]);rw[<- h2];simpa[hs1]using h1
 ·have hs1:=hp.1;simp at hs1;rw[List.pairwise_iff_getElem];intro a b ha hb hab;have h3:=hs a b (Nat.zero_le _) hab (by simpa[hs1]using hb);rw[getElem!_pos d' b (by simpa using hb),getElem!_pos d' a (by simpa using ha)]at h3;simp[I4,h3]
 refine ND ?_;unfold sortWorldK;exact holdsK_grow _ _ _ _ _ _ _ (by simpa[putRowK,Sort.ahead]using hg) (holdsK_putRowK _ _ _ _ _ l.toArray _ (holdsK_ahead _ _ _ _ _ _ _ (Ie hR hf)) hp.1)
end
section
open Go.RowKit Go.Shelf
attribute [local go_sem ↓] AQ AU Go.wp_at_zero Go.wp_at_succ
def RE:Yj->AD
 | Ym #[.int _ t,.int _ k,.int _ a,.int _ b,.int _ c]=>⟨t,k,a,b,c⟩
 | _=>CB
theorem NK(r:AD):RE (Ym #[U I r.t,U I r.k,U I r.a,U I r.b,U I r.c])=r:=rfl
def Ig(es:Array MapEntry)(seen:Array Nat)(t:Int)(j:Nat)(lo hi:Int):List AD:=((leftOf es seen).toList.map fun e=>RE e.val).filter fun r=>Di r t j lo hi
theorem NL{es:Array MapEntry}{rs:List AD}{t:Int}{j:Nat}{lo hi:Int}(h:es.toList.map (fun e=>(e.key,e.val))=rs.map (fun r=>(r.keyV,r.val))):([]++Ig es #[] t j lo hi).Perm (rs.filter fun r=>Di r t j lo hi):=by
 have h1:es.toList.map (fun e=>RE e.val)=rs:=by
  have h2:=congrArg (List.map fun p:Yj × Yj=>RE p.2) h;rw[List.map_map,List.map_map]at h2;have h3:rs.map ((fun p:Yj × Yj=>RE p.2) ∘ fun r=>(r.keyV,r.val))=rs:=by
   conv=>rhs;rw[<- List.map_id rs]
   exact List.map_congr_left fun r _=>NK r
  rw[h3]at h2;exact h2
 have h4:(leftOf es #[]).toList=es.toList:=by simp[leftOf]
 rw[List.nil_append,Ig,h4,h1]
theorem Oo{es:Array MapEntry}{seen:Array Nat}{t:Int}{j:Nat}{lo hi:Int}(h:(leftOf es seen).size=0):Ig es seen t j lo hi=[]:=by
 have h1:leftOf es seen=#[]:=Array.eq_empty_of_size_eq_zero h;rw[Ig,h1];rfl
theorem NM{es:Array MapEntry}{seen:Array Nat}{e:MapEntry}(hn:(es.toList.map (·.born)).Nodup)(he:e ∈ (leftOf es seen).toList):(leftOf es seen).toList.Perm (e::(leftOf es (seen.push e.born)).toList):=by
 unfold leftOf at *;rw[Array.toList_filter]at *;rw[Array.toList_filter];generalize es.toList=l at *
 induction l with
 | nil=>simp at he
 | cons x l ih=>
  rw[List.map_cons,List.nodup_cons]at hn;have hother:∀ y ∈ l,y.born=e.born->¬ e=x:=fun y hy h1 h2=>by subst h2;exact hn.1 (List.mem_map.2 ⟨y,hy,h1⟩)
  by_cases hx:e=x
  ·subst hx;have h1:(!seen.contains e.born)=true:=(List.mem_filter.1 he).2;rw[List.filter_cons,if_pos h1,List.filter_cons,if_neg (by simp)];refine List.Perm.cons e ?_;rw[List.filter_congr (fun y hy=>?_)];have h3:y.born≠e.born:=fun h4=>hother y hy h4 rfl;simp[h3]
  have he2:e ∈ l.filter (fun e => !seen.contains e.born):=by
   rw[List.filter_cons]at he;split at he
   ·rcases List.mem_cons.1 he with h|h
    ·exact absurd h hx
    exact h
   exact he
  have ih2:=ih hn.2 he2;have hb:x.born≠e.born:=fun h4=>hn.1 (List.mem_map.2 ⟨e,(List.mem_filter.1 he2).1,h4.symm⟩);by_cases hc:(!seen.contains x.born)=true
  ·have hc2:(!(seen.push e.born).contains x.born)=true:=by simp at hc ⊢;exact⟨hc,hb⟩
   rw[List.filter_cons,if_pos hc,List.filter_cons,if_pos hc2];exact(List.Perm.cons x ih2).trans (List.Perm.swap e x _)
  have hc2:¬ (!(seen.push e.born).contains x.born)=true:=by
   intro h;apply hc;simp at h ⊢;exact h.1
  rw[List.filter_cons,if_neg hc,List.filter_cons,if_neg hc2];exact ih2
theorem Oq{es:Array MapEntry}{seen:Array Nat}{e:MapEntry}{r:AD}{t:Int}{j:Nat}{lo hi:Int}(hn:(es.toList.map (·.born)).Nodup)(he:e ∈ (leftOf es seen).toList)(hv:e.val=Ym #[U I r.t,U I r.k,U I r.a,U I r.b,U I r.c]) :
  (Ig es seen t j lo hi).Perm (if Di r t j lo hi=true then r::Ig es (seen.push e.born) t j lo hi else Ig es (seen.push e.born) t j lo hi):=by
 have h1:=((NM hn he).map fun e=>RE e.val).filter fun r=>Di r t j lo hi;rw[List.map_cons,hv,NK,List.filter_cons]at h1;exact h1
theorem UZ(rs:List AD)(gs gm b1 b2 b3 b4 j:Nat)(pos t lo hi:Int)(hj:j<4)(w:J)(hS:BA w gs gm pos rs)(hsz:rs.length<=1000)(hap:A0 rs)(hB:Km w b1 b2 b3 b4 j t lo hi) :
  Yo Yi 93 #[Yl (some ⟨gs,0,none⟩),U I (j:Int),.func (.func 94) #[] #[Yl (some ⟨b1,0,none⟩),Yl (some ⟨b2,0,none⟩),Yl (some ⟨b3,0,none⟩),Yl (some ⟨b4,0,none⟩)]] w
   fun e w'=>∃ v,e=Yq v/\AR w' v (C6 rs t j lo hi)/\Yk w.heap.size w w':=by
 obtain⟨hst,es,c,hm,hnd,hlt,hmap⟩:=hS;have hes:es.size=rs.length:=by
  have:=congrArg List.length hmap;simpa using this
 have hmf:∀(fn:Fn) (first cap:Array Yj) (w:J),(Instr.makeFunc fn first cap).run Yi w=.ok (.func fn first cap) w:=fun _ _ _ _=>rfl;have hE0:=AC w (R #[U I (j:Int)] 3);have s0:=(hst.ext hE0).cell 0;have hrg:=Qq (P:=Yi) Tryz.underlying99 (hm.ext hE0);have HM:=Wz hm;have HB:=Wz hB;have HMAP:=Wz hmap;have HND:=Wz hnd;have HLT:=Wz hlt;have HES:=Wz hes;have HAP:=Wz hap;have hgm:=hm.lt;have hgs:=hst.lt;clear hst hm hnd hlt hmap hB hE0 hap;go_enter Tryz.func93,Tryz.ntmps93;go_wp2;generalize hW1:(w.alloc (R #[U I (j:Int)] 3)).alloc (.mapIter (some gm) c #[] c)=W1;have HE1:=Wz (show Yk w.heap.size w W1 by subst hW1;exact AB (AC _ _) _);have HI1:=Wz (show W1.heap[w.heap.size+1]? = some (.mapIter (some gm) c #[] c)by
  subst hW1;rw[<- World.size_alloc w (R #[U I (j:Int)] 3)];exact World.alloc_heap_new _ _)
 have HC1:=Wz (show Blk W1 w.heap.size 3 #[U I (j:Int)]by subst hW1;exact(Blk.new _ _ _).alloc _);have hs1:W1.heap.size=w.heap.size+2:=by subst hW1;simp
 clear hW1 s0 hrg;go_loopw [7,9] (fun z _ W=>∃(seen:Array Nat) (l:List AD),W.ownsRow (w.heap.size+2) 67 5 z l.length (rc l)/\(l++Ig es seen t j lo hi).Perm (rs.filter fun r=>Di r t j lo hi)/\l.length+(leftOf es seen).size<=es.size/\W.heap[w.heap.size+1]? = some (.mapIter (some gm) c seen c)/\Blk W w.heap.size 3 #[U I (j:Int)]/\Yk w.heap.size w W) (fun _ _ W=>Jf (w.heap.size+1) es W)
 case atStart=>
  exact⟨#[],[],World.ownsRow_nil _ _ _ _,NL HMAP.out,by simpa[leftOf]using Array.size_filter_le,HI1.out,HC1.out,HE1.out⟩
 obtain⟨seen,l,ho,hin,hcnt,hit,hcb,hE⟩:=hrel;have HO:=Wz ho;have HIN:=Wz hin;have HCNT:=Wz hcnt;have HE:=Wz hE;have HCB:=Wz hcb;have HIT:=Wz hit;have hws:=hE.size;have hsz2:w.heap.size+2<=wr.heap.size:=by have:=(Array.getElem?_eq_some_iff.1 hit).1;omega
 have hmw:=HM.out.ext hE;rcases run_next_at (P:=Yi) wr 0 (w.heap.size+1) gm c c seen es c hit hmw HLT.out (Nat.le_refl _)with⟨h0,hrun⟩|⟨e,he,w1,hw1,hrun⟩
 ·have hnx:∀ t,(Instr.next (Yl (some ⟨w.heap.size+1,0,none⟩)) false t).run Yi wr=.ok (Yt #[Ys false]) wr:=fun t=>hrun;have HIN2:=Wz (show l.Perm (rs.filter fun r=>Di r t j lo hi)by have h9:=HIN.out;rw[Oo h0,List.append_nil]at h9;exact h9);clear hin hcnt hE hcb hit hrun hmw h0;have HLEN:=Wz (show l.length<=rs.length by have:=HCNT.out;have:=HES.out;omega);by_cases hl0:l.length=0
  ·obtain⟨A,cc,hsh⟩:=AI ho;subst hsh;have HL0:=Wz hl0;rw[hl0]at ho;clear ho;rw[hl0];go_wp2_with (go_at_call 138;refine(Q4 _ _ _ _).mono ?_;rintro e w' ⟨⟨u,rfl⟩,rfl⟩)
   go_ret;refine⟨_,rfl,?_,HE.out⟩;have hl9:=List.eq_nil_of_length_eq_zero HL0.out;have hs9:C6 rs t j lo hi=[]:=by
    rw[<- JB (l:=l) HAP.out HIN2.out (by rw[hl9];exact List.Pairwise.nil)];exact hl9
   rw[hs9];exact⟨A,cc,rfl,fun h=>absurd h (by simp)⟩
  obtain⟨g,cap,cur,hsh,hg,hblk⟩:=Ex ho (by omega);subst hsh;have HR:=Wz (show Eg wr g l from fun jj r hr i hi=>by
   have h1:=Ky l jj r hr i hi;rw[Yp (show i<(AY r).length from hi)]at h1 ⊢;have h2:=ho.cells (g:=g) rfl _ _ h1;rw[Bb]at h2;exact h2)
  have HBLK:=Wz hblk;have HNE:=Wz (show w.heap.size≠g by omega);have HGG:=Wz hg;clear ho hblk hg;have HL0:=Wz hl0;clear hl0;go_wp2_with (go_at_call 138;refine(RD l g cap j w.heap.size hj wr (HCB.out.cell 0) HNE.out HR.out (fun i=>HBLK.out.frozen i) HBLK.out.lt (by have:=HLEN.out;omega)).mono ?_;rintro e w' ⟨⟨u,rfl⟩,l',hp,hso,hr',hsw,hbw⟩;have HSO:=Wz hso;have HSW:=Wz hsw;clear hsw;have HP:=Wz hp;have HR':=Wz hr';have HBW:=Wz hbw;clear hp hr' hbw hso)
  go_ret;have hE9:=HBW.out w HE.out (by have:=HGG.out;omega);have hlen:=HP.out.length_eq;have hs9:=JB (l:=l') HAP.out (HP.out.trans HIN2.out) HSO.out;refine⟨_,rfl,?_,hE9⟩;rw[<- hs9];refine⟨some ⟨g,0,none⟩,cap,by rw[hlen];rfl,fun _=>⟨g,rfl,?_,HR'.out⟩⟩;have h9:=HSW.out;have:=HBLK.out.lt;omega
 obtain⟨r,hr,hkey,hval⟩:=RB HMAP.out (by have h1:=he;unfold leftOf at h1;simp at h1;simpa using h1.1:e ∈ es.toList);have HR:=Wz hr;obtain⟨W1,hW1⟩:∃ W1,W1=w1.putObj (w.heap.size+1) (.mapIter (some gm) c (seen.push e.born) c):=⟨_,rfl⟩;have hrun':∀ t,(Instr.next (Yl (some ⟨w.heap.size+1,0,none⟩)) false t).run Yi wr=.ok (Yt #[Ys true,r.keyV,Ym #[U I r.t,U I r.k,U I r.a,U I r.b,U I r.c]]) W1:=fun t=>by
  rw[hW1,<- hkey,<- hval];exact hrun
 have hE1':Yk w.heap.size w w1:=by rcases hw1 with rfl|rfl;exact hE;exact hE.drew
 have ho1:w1.ownsRow (w.heap.size+2) 67 5 u7 l.length (rc l):=by rcases hw1 with rfl|rfl;exact ho;exact ho
 have hi1:w.heap.size+1<w1.heap.size:=by rcases hw1 with rfl|rfl;exact(Array.getElem?_eq_some_iff.1 hit).1;exact(Array.getElem?_eq_some_iff.1 hit).1
 have hc1:Blk w1 w.heap.size 3 #[U I (j:Int)]:=by rcases hw1 with rfl|rfl;exact hcb;exact hcb
 have HEW:=Wz (show Yk w.heap.size w W1 by rw[hW1];exact DA hE1' (by omega) _);have HOW:=Wz (show W1.ownsRow (w.heap.size+2) 67 5 u7 l.length (rc l)by rw[hW1];exact RC ho1 (by omega));have HIW:=Wz (show W1.heap[w.heap.size+1]? = some (.mapIter (some gm) c (seen.push e.born) c)by rw[hW1];exact World.putObj_heap_same hi1);have HCW:=Wz (show Blk W1 w.heap.size 3 #[U I (j:Int)]by rw[hW1];exact hc1.putObj _ (by omega));have HLF:=Wz (NF es seen e he);have HLP:=Wz (Oq (t:=t) (j:=j) (lo:=lo) (hi:=hi) HND.out he hval);have hmem:e ∈ es.toList:=by have h1:=he;unfold leftOf at h1;simp at h1;simpa using h1.1
 have hent:=run_entry_at (P:=Yi) W1 (w.heap.size+1) gm c seen es c e HIW.out (HM.out.ext HEW.out) hmem HND.out;rw[hkey,hval]at hent;have HX:=Wz (fun W:J=>isInR r b1 b2 b3 b4 j t lo hi hj W);have HRW:=Wz (show Jf (w.heap.size+1) es wr=(leftOf es seen).size by unfold Jf;rw[hit]);have HRC:=Wz (H6 l r);obtain⟨r0,r1,r2,r3,r4⟩:=r;dsimp only at hrun' hent HX;have hs3:w.heap.size+2<=W1.heap.size:=by have:=(Array.getElem?_eq_some_iff.1 HIW.out).1;omega
 clear ho hin hcnt hE hcb hit hrun hmw hkey hval hE1' ho1 hi1 hc1 hW1 hw1 hmem he hr;have HBX:=Wz (HB.out.ext HEW.out);have HRX:=Wz (Blk.new W1 67 #[U I r0,U I r1,U I r2,U I r3,U I r4]);go_wp2_with fail
 refine(HX.out _ (HBX.out.ext (AC _ _))).mono ?_;rintro e' W3 ⟨rfl,hb3⟩;have hX3:=HRX.out.ext hb3;have x0:=hX3.cell 0;have x1:=hX3.cell 1;have x2:=hX3.cell 2;have x3:=hX3.cell 3;have x4:=hX3.cell 4;have xl:=hX3.lt;have HE3:=Wz (AA (AB HEW.out (R #[U I r0,U I r1,U I r2,U I r3,U I r4] 67)) hb3);have HI3:=Wz (EX (EX HIW.out (AC W1 (R #[U I r0,U I r1,U I r2,U I r3,U I r4] 67))) hb3);have HC3:=Wz ((HCW.out.alloc (R #[U I r0,U I r1,U I r2,U I r3,U I r4] 67)).ext hb3);have HO3:=Wz (AK (HOW.out.alloc (R #[U I r0,U I r1,U I r2,U I r3,U I r4] 67)) hb3);have hs4:w.heap.size+2<=W3.heap.size:=by have:=hb3.size;simp at this;omega
 clear hb3 hX3 hrun' hent HBX HRX HIW HCW HOW;obtain⟨hb,hbb⟩:∃ hb,hb=Di ⟨r0,r1,r2,r3,r4⟩ t j lo hi:=⟨_,rfl⟩;rw[<- hbb];have HBB:=Wz hbb;clear hbb
 cases hb with
 | false=>
  go_wp2;go_roundw
  case rel=>exact⟨seen.push e.born,l,HO3.out,by have h9:=HLP.out;rw[if_neg (by rw[<- HBB.out];decide)]at h9;exact(List.Perm.append_left l h9.symm).trans HIN.out,by have:=HCNT.out;have:=HLF.out;omega,HI3.out,HC3.out,HE3.out⟩
  have h9:Jf (w.heap.size+1) es W3=(leftOf es (seen.push e.born)).size:=by unfold Jf;rw[HI3.out]
  rw[h9,HRW.out];exact HLF.out
 | true=>
  obtain⟨ha,W4,hW4,v4,hv4,ho4,hg4⟩:=Sw W3 (w.heap.size+2) hs4 u7 l.length (rc l) HO3.out (by have:=HCNT.out;have:=HES.out;omega) ⟨r0,r1,r2,r3,r4⟩;dsimp only at ha hW4 hv4 hg4;have HO4:=Wz ho4;have hown:u7.ownBlock=none∨∃ g,u7.ownBlock=some g/\w.heap.size+2<=g:=by
   rcases HO3.out.2 with⟨h1,_⟩|⟨g,cap,cur,h1,h2,_⟩
   ·exact .inl (by rw[h1];rfl)
   exact .inr ⟨g,by rw[h1];rfl,h2⟩
  have HE4:=Wz ((AB HE3.out (R #[U I r0,U I r1,U I r2,U I r3,U I r4] 67)).grown hg4 (AB HE3.out (R #[U I r0,U I r1,U I r2,U I r3,U I r4] 67)).size (fun k e=>by rcases hown with h|⟨g,h,h2⟩ <;> rw[h]at e;cases e;have e2:=Option.some.inj e;omega));have HC4:=Wz ((HC3.out.alloc (R #[U I r0,U I r1,U I r2,U I r3,U I r4] 67)).grown hg4 (by rcases hown with h|⟨g,h,h2⟩ <;> rw[h];simp;intro h3;have h4:=Option.some.inj h3;omega));have HI4:=Wz (show W4.heap[w.heap.size+1]? = some (.mapIter (some gm) c (seen.push e.born) c)by
   rw[hg4.block (w.heap.size+1) (by simp;omega) (by rcases hown with h|⟨g,h,h2⟩ <;> rw[h];simp;intro h3;have h4:=Option.some.inj h3;omega)];exact EX HI3.out (AC W3 _))
  clear ho4 hg4 hown;go_wp2;go_roundw
  case rel=>exact⟨seen.push e.born,l++[⟨r0,r1,r2,r3,r4⟩],by rw[HRC.out,List.length_append];exact HO4.out,by have h9:=HLP.out;rw[if_pos HBB.out.symm]at h9;rw[List.append_assoc,List.singleton_append];exact(List.Perm.append_left l h9.symm).trans HIN.out,by have:=HCNT.out;have:=HLF.out;simp;omega,HI4.out,HC4.out,HE4.out⟩
  have h9:Jf (w.heap.size+1) es W4=(leftOf es (seen.push e.born)).size:=by unfold Jf;rw[HI4.out]
  rw[h9,HRW.out];exact HLF.out
theorem S1(rs:List AD)(gs gm j:Nat)(pos t lo hi:Int)(hj:j<4)(w:J)(hS:BA w gs gm pos rs)(hsz:rs.length<=1000)(hap:A0 rs) :
  Yo Yi 51 #[Yl (some ⟨gs,0,none⟩),U I t,U I (j:Int),U I lo,U I hi] w
   fun e w'=>∃ v,e=Yq v/\AR w' v (C6 rs t j lo hi)/\Yk w.heap.size w w':=by
 have hmf:∀(fn:Fn) (first cap:Array Yj) (w:J),(Instr.makeFunc fn first cap).run Yi w=.ok (.func fn first cap) w:=fun _ _ _ _=>rfl;have HS:=Wz hS;clear hS;have l1:decide ((j:Int)<0)=false:=decide_eq_false (by omega);have l2:decide (4<=(j:Int))=false:=decide_eq_false (by omega);go_enter Tryz.func51,Tryz.ntmps51;go_wp2_with fail
 generalize hW1:World.alloc (((w.alloc (R #[U I t] 3)).alloc (R #[U I (j:Int)] 3)).alloc (R #[U I lo] 3)) (R #[U I hi] 3)=W1;have hE1:Yk w.heap.size w W1:=by subst hW1;exact AB (AB (AB (AC _ _) _) _) _
 have hB1:Km W1 (w.heap.size+1) w.heap.size (w.heap.size+1+1) (w.heap.size+1+1+1) j t lo hi:=by
  subst hW1;exact⟨((Blk.new' _ _ _ (by simp)).alloc _).alloc _,(((Blk.new' _ _ _ (by simp)).alloc _).alloc _).alloc _,(Blk.new' _ _ _ (by simp)).alloc _,Blk.new' _ _ _ (by simp)⟩
 refine(UZ rs gs gm _ _ _ _ j pos t lo hi hj W1 (HS.out.ext hE1) hsz hap hB1).mono ?_;rintro e W2 ⟨v,rfl,hr,hb2⟩;have HE2:=Wz (AA hE1 hb2);have HR2:=Wz hr;clear hW1 hE1 hB1 hb2 hr;go_wp2;go_ret;exact⟨_,rfl,HR2.out,HE2.out⟩
end
end Go.Proofs.YtimoapjhepmehaaGreatDoor
