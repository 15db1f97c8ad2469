/- Part 27: contracts that the last part uses. -/
import Derived.Test.YtimoapjhepmehaaGreatDoorJ25
import Derived.Test.YtimoapjhepmehaaGreatDoorJ23
import Derived.Test.YtimoapjhepmehaaGreatDoorJ26
import Derived.Test.YtimoapjhepmehaaGreatDoorJ19
import Derived.Deep.RegionHeld3
import Derived.Laws.StructEq
set_option linter.unusedSimpArgs false
set_option linter.unusedVariables false
set_option maxHeartbeats 4000000
set_option maxRecDepth 100000
namespace Go.Proofs.YtimoapjhepmehaaGreatDoor
open Go.IntKind renaming i64->I
open Go.Value renaming int->U,bool->J,slice->R,agg->bZ,tuple->cD
open Go.World renaming setCell->bS
open Go renaming World->bT,Value->bW,Calls->cC
open Go.RowKit renaming Below->bU
open Go.Obj renaming cells->bV
open Tryz renaming prog->bX
open Go.Ending renaming returned->cB
open Go.IntWalk renaming i64_in->cE
open List renaming getElem?_eq_getElem->cF
section
open Go.RowKit Go.Shelf
attribute [local go_sem ↓] Go.wp_at_zero Go.wp_at_succ
end
section
open Go.RowKit Go.Shelf
attribute [local go_sem ↓] Go.wp_at_zero Go.wp_at_succ
end
section
open Go.RowKit Go.Shelf
attribute [local go_sem ↓] Go.wp_at_zero Go.wp_at_succ
end
section
open Go.RowKit Go.Shelf
attribute [local go_sem ↓] Go.wp_at_zero Go.wp_at_succ
end
section
open Go.RowKit Go.Shelf
theorem Rf{w V:bT}{B f:Nat}{lv u:bW}{Ls:List (List AH)}(hO:En w lv f Ls)(hE:bU w.heap.size w V)(h0:0<Ls.length)(hu:∀ b off c,lv=R (some ⟨b,off,none⟩) Ls.length c->V.ownsRow B 75 2 u Ls.length (BD w b off (Ls.length*2))):Bt V u f Ls:=by
 obtain⟨A,c,rfl,hc⟩:=hO;obtain⟨b,off,rfl,hcell⟩:=hc h0;obtain⟨g,cap,rfl,_,_,hcap,hx⟩:=Bj (hu b off c rfl) h0;refine⟨_,cap,rfl,hcap,fun _=>⟨g,rfl,fun j l hj=>?_⟩⟩;obtain⟨h1,x,h2,h3⟩:=hcell j l hj;have hjl:=(List.getElem?_eq_some_iff.1 hj).1;refine⟨hx (j*2) _ ?_,x,hx (j*2+1) _ ?_,h3.ext hE⟩
 ·rw[BN (by omega),h1];rfl
 rw[BN (by omega),<- Nat.add_assoc,h2];rfl
theorem PU(Ls:List (List AH))(f:Nat)(v:bW)(hl:Ls.length<=1000)(w:bT)(hv:En w v f Ls):cC bX 55 #[v] w fun e w'=>∃ u xs,e=cB u/\w'.ownsRow w.heap.size 75 2 u Ls.length xs/\(0<Ls.length->∀ b off c,v=R (some ⟨b,off,none⟩) Ls.length c->xs=BD w b off (Ls.length*2))/\bU w.heap.size w w':=by
 by_cases h0:0<Ls.length
 ·obtain⟨g,off,c,rfl,hf⟩:=hv.full h0;refine(Rc g off Ls.length c h0 (by omega) w hf).mono ?_;rintro e w' ⟨u,rfl,⟨g2,k,rfl,_,_,_,h4,_⟩,hb⟩;exact⟨_,_,rfl,h4,fun _ b o c' h=>by injection h with h _ _;injection h with h;injection h with h1 h2;subst h1 h2;rfl,hb⟩
 have hn:Ls=[]:=List.length_eq_zero_iff.1 (by omega);subst hn;obtain⟨A,c,rfl,_⟩:=hv;refine(PR A c w).mono ?_;rintro e w' ⟨u,rfl,h1,hb⟩;exact⟨u,[],rfl,h1,fun h=>absurd h (by simp),hb⟩
theorem II:(Tryz.prog.info? 39).map (·.size)=some 15:=by kernel_rfl
end
section
open Go.RowKit Go.Shelf
theorem IJ{W:bT}{g:Nat}{ty:TypeId}{a0 a1 a2 a3 a4 a5 a6 a7 a8 a9 a10 a11 a12 a13 a14 u0 u1 u2 u3 u4 u5 u6 u7 u8 u9 u10 u11 u12 u13 u14:bW}(h:Blk W g ty #[a0,a1,a2,a3,a4,a5,a6,a7,a8,a9,a10,a11,a12,a13,a14]):Blk (bS (bS (bS (bS (bS (bS (bS (bS (bS (bS (bS (bS (bS (bS (bS W ⟨g,0,none⟩ u0) ⟨g,1,none⟩ u1) ⟨g,2,none⟩ u2) ⟨g,3,none⟩ u3) ⟨g,4,none⟩ u4) ⟨g,5,none⟩ u5) ⟨g,6,none⟩ u6) ⟨g,7,none⟩ u7) ⟨g,8,none⟩ u8) ⟨g,9,none⟩ u9) ⟨g,10,none⟩ u10) ⟨g,11,none⟩ u11) ⟨g,12,none⟩ u12) ⟨g,13,none⟩ u13) ⟨g,14,none⟩ u14) g ty #[u0,u1,u2,u3,u4,u5,u6,u7,u8,u9,u10,u11,u12,u13,u14]:=by
 have h9:=((((((((((((((h.set_ 0 u0).set_ 1 u1).set_ 2 u2).set_ 3 u3).set_ 4 u4).set_ 5 u5).set_ 6 u6).set_ 7 u7).set_ 8 u8).set_ 9 u9).set_ 10 u10).set_ 11 u11).set_ 12 u12).set_ 13 u13).set_ 14 u14;simpa using h9
theorem IK{w W:bT}{g:Nat}{u0 u1 u2 u3 u4 u5 u6 u7 u8 u9 u10 u11 u12 u13 u14:bW}(h:bU w.heap.size w W)(hg:w.heap.size<=g):bU w.heap.size w (bS (bS (bS (bS (bS (bS (bS (bS (bS (bS (bS (bS (bS (bS (bS W ⟨g,0,none⟩ u0) ⟨g,1,none⟩ u1) ⟨g,2,none⟩ u2) ⟨g,3,none⟩ u3) ⟨g,4,none⟩ u4) ⟨g,5,none⟩ u5) ⟨g,6,none⟩ u6) ⟨g,7,none⟩ u7) ⟨g,8,none⟩ u8) ⟨g,9,none⟩ u9) ⟨g,10,none⟩ u10) ⟨g,11,none⟩ u11) ⟨g,12,none⟩ u12) ⟨g,13,none⟩ u13) ⟨g,14,none⟩ u14):=AE (AE (AE (AE (AE (AE (AE (AE (AE (AE (AE (AE (AE (AE (AE h hg _) hg _) hg _) hg _) hg _) hg _) hg _) hg _) hg _) hg _) hg _) hg _) hg _) hg _) hg _
theorem Ns{w:bT}{g:Nat}{t:TypeId}{a0 a1 a2 a3 a4 a5 a6 a7 a8 a9:bW}(h:Blk w g t #[a0,a1,a2,a3,a4,a5,a6,a7,a8,a9]):w.cell? ⟨g,0,none⟩=some a0/\w.cell? ⟨g,1,none⟩=some a1/\w.cell? ⟨g,2,none⟩=some a2/\w.cell? ⟨g,3,none⟩=some a3/\w.cell? ⟨g,4,none⟩=some a4/\w.cell? ⟨g,5,none⟩=some a5/\w.cell? ⟨g,6,none⟩=some a6/\w.cell? ⟨g,7,none⟩=some a7/\w.cell? ⟨g,8,none⟩=some a8/\w.cell? ⟨g,9,none⟩=some a9:=by
 refine⟨?_,?_,?_,?_,?_,?_,?_,?_,?_,?_⟩ <;> exact h.cell _
theorem TX{w:bT}{g:Nat}{t:TypeId}{a0 a1 a2:bW}(h:Blk w g t #[a0,a1,a2]):w.cell? ⟨g,0,none⟩=some a0/\w.cell? ⟨g,1,none⟩=some a1/\w.cell? ⟨g,2,none⟩=some a2:=by
 refine⟨?_,?_,?_⟩ <;> exact h.cell _
theorem TY{W:bT}{g:Nat}{ty:TypeId}{a0 a1 a2 a3 a4 a5 a6 a7 a8 a9 a10 a11 a12 a13 a14 u0 u1 u2 u3:bW}(h:Blk W g ty #[a0,a1,a2,a3,a4,a5,a6,a7,a8,a9,a10,a11,a12,a13,a14]):Blk (bS (bS (bS (bS W ⟨g,7,none⟩ u0) ⟨g,8,none⟩ u1) ⟨g,9,none⟩ u2) ⟨g,10,none⟩ u3) g ty #[a0,a1,a2,a3,a4,a5,a6,u0,u1,u2,u3,a11,a12,a13,a14]:=by
 have h9:=(((h.set_ 7 u0).set_ 8 u1).set_ 9 u2).set_ 10 u3;simpa using h9
theorem CR{w:bT}{g:Nat}{t:TypeId}{a0 a1 a2 a3 a4 a5 a6 a7 a8 a9 a10 a11 a12 a13 a14:bW}(h:Blk w g t #[a0,a1,a2,a3,a4,a5,a6,a7,a8,a9,a10,a11,a12,a13,a14]):w.cell? ⟨g,0,none⟩=some a0/\w.cell? ⟨g,1,none⟩=some a1/\w.cell? ⟨g,2,none⟩=some a2/\w.cell? ⟨g,3,none⟩=some a3/\w.cell? ⟨g,4,none⟩=some a4/\w.cell? ⟨g,5,none⟩=some a5/\w.cell? ⟨g,6,none⟩=some a6/\w.cell? ⟨g,7,none⟩=some a7/\w.cell? ⟨g,8,none⟩=some a8/\w.cell? ⟨g,9,none⟩=some a9/\w.cell? ⟨g,10,none⟩=some a10/\w.cell? ⟨g,11,none⟩=some a11/\w.cell? ⟨g,12,none⟩=some a12/\w.cell? ⟨g,13,none⟩=some a13/\w.cell? ⟨g,14,none⟩=some a14:=by
 refine⟨?_,?_,?_,?_,?_,?_,?_,?_,?_,?_,?_,?_,?_,?_,?_⟩ <;> exact h.cell _
theorem EH(W:bT)(g:Nat)(u0 u1 u2 u3 u4 u5 u6 u7 u8 u9 u10 u11 u12 u13 u14:bW):Ah g g W (bS (bS (bS (bS (bS (bS (bS (bS (bS (bS (bS (bS (bS (bS (bS W ⟨g,0,none⟩ u0) ⟨g,1,none⟩ u1) ⟨g,2,none⟩ u2) ⟨g,3,none⟩ u3) ⟨g,4,none⟩ u4) ⟨g,5,none⟩ u5) ⟨g,6,none⟩ u6) ⟨g,7,none⟩ u7) ⟨g,8,none⟩ u8) ⟨g,9,none⟩ u9) ⟨g,10,none⟩ u10) ⟨g,11,none⟩ u11) ⟨g,12,none⟩ u12) ⟨g,13,none⟩ u13) ⟨g,14,none⟩ u14):=(((((((((((((((Ah.refl g g W).setA 0 u0).setA 1 u1).setA 2 u2).setA 3 u3).setA 4 u4).setA 5 u5).setA 6 u6).setA 7 u7).setA 8 u8).setA 9 u9).setA 10 u10).setA 11 u11).setA 12 u12).setA 13 u13).setA 14 u14
theorem Rg(W:bT)(g:Nat)(u0 u1 u2 u3:bW):Ah g g W (bS (bS (bS (bS W ⟨g,7,none⟩ u0) ⟨g,8,none⟩ u1) ⟨g,9,none⟩ u2) ⟨g,10,none⟩ u3):=((((Ah.refl g g W).setA 7 u0).setA 8 u1).setA 9 u2).setA 10 u3
theorem Ah.of_grown{X W:bT}{b:Nat}(h:X.grownBy W (some b)):Ah b b X W:=⟨h.os,h.tape,h.output,h.size,fun k hk ha _=>h.block k hk (fun e=>ha (by injection e))⟩
def Vo(v:bW):Bool:=match v with
 | .string _=>false
 | _=>true
theorem Us{W:bT}{a b o:Nat}{t:TypeId}{xs:Array bW}{x:ByteArray}(h:Blk W a t xs)(hx:xs.all Vo=true)(k:W.cell? ⟨b,o,none⟩=some (.string x)):b≠a:=by
 rintro rfl;rw[h.cell o]at k;rw[Array.all_eq_true]at hx;obtain⟨hlt,he⟩:=Array.getElem?_eq_some_iff.1 k;have h1:=hx o hlt;rw[he]at h1;cases h1
theorem Ut{X W:bT}{be:Nat}{a0 a1 a2 a3 a4 a5 a6 a7 a8 a9:bW}(h:Blk X be 87 #[a0,a1,a2,a3,a4,a5,a6,a7,a8,a9])(k:bU X.heap.size X W) :
  W.cell? ⟨be,0,none⟩=some a0/\W.cell? ⟨be,1,none⟩=some a1/\W.cell? ⟨be,2,none⟩=some a2/\W.cell? ⟨be,3,none⟩=some a3/\W.cell? ⟨be,4,none⟩=some a4/\W.cell? ⟨be,5,none⟩=some a5/\W.cell? ⟨be,6,none⟩=some a6/\W.cell? ⟨be,8,none⟩=some a8/\W.cell? ⟨be,9,none⟩=some a9/\bU X.heap.size X W:=
 ⟨(h.ext k).cell 0,(h.ext k).cell 1,(h.ext k).cell 2,(h.ext k).cell 3,(h.ext k).cell 4,(h.ext k).cell 5,(h.ext k).cell 6,(h.ext k).cell 8,(h.ext k).cell 9,k⟩
theorem Uu{X W:bT}{be:Nat}{a0 a1 a2 a3 a4 a5 a6 a8 a9:bW}(h:W.cell? ⟨be,0,none⟩=some a0/\W.cell? ⟨be,1,none⟩=some a1/\W.cell? ⟨be,2,none⟩=some a2/\W.cell? ⟨be,3,none⟩=some a3/\W.cell? ⟨be,4,none⟩=some a4/\W.cell? ⟨be,5,none⟩=some a5/\W.cell? ⟨be,6,none⟩=some a6/\W.cell? ⟨be,8,none⟩=some a8/\W.cell? ⟨be,9,none⟩=some a9/\bU X.heap.size X W):bU X.heap.size X W:=
 h.2.2.2.2.2.2.2.2.2
theorem QJ{X W:bT}{ba bb:Nat}{a0 a1 a2 a3 a4 a5 a6 a7 a8 b0 b1 b2 b3 b4 b5 b6 b7 b8:bW}(h:Blk X ba 126 #[a0,a1,a2,a3,a4,a5,a6,a7,a8]/\Blk X bb 126 #[b0,b1,b2,b3,b4,b5,b6,b7,b8])(k:bU X.heap.size X W):W.cell? ⟨ba,0,none⟩=some a0/\W.cell? ⟨ba,1,none⟩=some a1/\W.cell? ⟨ba,2,none⟩=some a2/\W.cell? ⟨ba,3,none⟩=some a3/\W.cell? ⟨ba,4,none⟩=some a4/\W.cell? ⟨ba,5,none⟩=some a5/\W.cell? ⟨ba,6,none⟩=some a6/\W.cell? ⟨ba,7,none⟩=some a7/\W.cell? ⟨ba,8,none⟩=some a8/\W.cell? ⟨bb,0,none⟩=some b0/\W.cell? ⟨bb,1,none⟩=some b1/\W.cell? ⟨bb,2,none⟩=some b2/\W.cell? ⟨bb,3,none⟩=some b3/\W.cell? ⟨bb,4,none⟩=some b4/\W.cell? ⟨bb,5,none⟩=some b5/\W.cell? ⟨bb,6,none⟩=some b6/\W.cell? ⟨bb,7,none⟩=some b7/\W.cell? ⟨bb,8,none⟩=some b8/\bU X.heap.size X W:=
 ⟨(h.1.ext k).cell 0,(h.1.ext k).cell 1,(h.1.ext k).cell 2,(h.1.ext k).cell 3,(h.1.ext k).cell 4,(h.1.ext k).cell 5,(h.1.ext k).cell 6,(h.1.ext k).cell 7,(h.1.ext k).cell 8,(h.2.ext k).cell 0,(h.2.ext k).cell 1,(h.2.ext k).cell 2,(h.2.ext k).cell 3,(h.2.ext k).cell 4,(h.2.ext k).cell 5,(h.2.ext k).cell 6,(h.2.ext k).cell 7,(h.2.ext k).cell 8,k⟩
theorem TZ{X W:bT}{ba bb:Nat}{a0 a1 a2 a3 a4 a5 a6 a7 a8 b0 b1 b2 b3 b4 b5 b6 b7 b8:bW}(h:W.cell? ⟨ba,0,none⟩=some a0/\W.cell? ⟨ba,1,none⟩=some a1/\W.cell? ⟨ba,2,none⟩=some a2/\W.cell? ⟨ba,3,none⟩=some a3/\W.cell? ⟨ba,4,none⟩=some a4/\W.cell? ⟨ba,5,none⟩=some a5/\W.cell? ⟨ba,6,none⟩=some a6/\W.cell? ⟨ba,7,none⟩=some a7/\W.cell? ⟨ba,8,none⟩=some a8/\W.cell? ⟨bb,0,none⟩=some b0/\W.cell? ⟨bb,1,none⟩=some b1/\W.cell? ⟨bb,2,none⟩=some b2/\W.cell? ⟨bb,3,none⟩=some b3/\W.cell? ⟨bb,4,none⟩=some b4/\W.cell? ⟨bb,5,none⟩=some b5/\W.cell? ⟨bb,6,none⟩=some b6/\W.cell? ⟨bb,7,none⟩=some b7/\W.cell? ⟨bb,8,none⟩=some b8/\bU X.heap.size X W):bU X.heap.size X W:=h.2.2.2.2.2.2.2.2.2.2.2.2.2.2.2.2.2.2
theorem Hl{X W:bT}{ba:Nat}{a0 a1 a2 a3 a4 a5 a6 a7 a8 a9 a10 a11 a12 a13 a14:bW}(h:Blk X ba 39 #[a0,a1,a2,a3,a4,a5,a6,a7,a8,a9,a10,a11,a12,a13,a14])(k:bU X.heap.size X W):W.cell? ⟨ba,0,none⟩=some a0/\W.cell? ⟨ba,1,none⟩=some a1/\W.cell? ⟨ba,2,none⟩=some a2/\W.cell? ⟨ba,3,none⟩=some a3/\W.cell? ⟨ba,4,none⟩=some a4/\W.cell? ⟨ba,5,none⟩=some a5/\W.cell? ⟨ba,6,none⟩=some a6/\W.cell? ⟨ba,7,none⟩=some a7/\W.cell? ⟨ba,8,none⟩=some a8/\W.cell? ⟨ba,9,none⟩=some a9/\W.cell? ⟨ba,10,none⟩=some a10/\W.cell? ⟨ba,11,none⟩=some a11/\W.cell? ⟨ba,12,none⟩=some a12/\W.cell? ⟨ba,13,none⟩=some a13/\W.cell? ⟨ba,14,none⟩=some a14/\bU X.heap.size X W:=
 ⟨(h.ext k).cell 0,(h.ext k).cell 1,(h.ext k).cell 2,(h.ext k).cell 3,(h.ext k).cell 4,(h.ext k).cell 5,(h.ext k).cell 6,(h.ext k).cell 7,(h.ext k).cell 8,(h.ext k).cell 9,(h.ext k).cell 10,(h.ext k).cell 11,(h.ext k).cell 12,(h.ext k).cell 13,(h.ext k).cell 14,k⟩
theorem FN{X W:bT}{ba:Nat}{a0 a1 a2 a3 a4 a5 a6 a7 a8 a9 a10 a11 a12 a13 a14:bW}(h:W.cell? ⟨ba,0,none⟩=some a0/\W.cell? ⟨ba,1,none⟩=some a1/\W.cell? ⟨ba,2,none⟩=some a2/\W.cell? ⟨ba,3,none⟩=some a3/\W.cell? ⟨ba,4,none⟩=some a4/\W.cell? ⟨ba,5,none⟩=some a5/\W.cell? ⟨ba,6,none⟩=some a6/\W.cell? ⟨ba,7,none⟩=some a7/\W.cell? ⟨ba,8,none⟩=some a8/\W.cell? ⟨ba,9,none⟩=some a9/\W.cell? ⟨ba,10,none⟩=some a10/\W.cell? ⟨ba,11,none⟩=some a11/\W.cell? ⟨ba,12,none⟩=some a12/\W.cell? ⟨ba,13,none⟩=some a13/\W.cell? ⟨ba,14,none⟩=some a14/\bU X.heap.size X W):bU X.heap.size X W:=h.2.2.2.2.2.2.2.2.2.2.2.2.2.2.2
theorem WO{w:bT}{g:Nat}{t:TypeId}{a0 a1 a2 a3 a4 a5 a6:bW}(h:Blk w g t #[a0,a1,a2,a3,a4,a5,a6]):w.cell? ⟨g,0,none⟩=some a0/\w.cell? ⟨g,1,none⟩=some a1/\w.cell? ⟨g,2,none⟩=some a2/\w.cell? ⟨g,3,none⟩=some a3/\w.cell? ⟨g,4,none⟩=some a4/\w.cell? ⟨g,5,none⟩=some a5/\w.cell? ⟨g,6,none⟩=some a6:=by
 refine⟨?_,?_,?_,?_,?_,?_,?_⟩ <;> exact h.cell _
theorem Ta{X W:bT}{g:Nat}{t:TypeId}{a0 a1 a2 a3 a4 a5 a6:bW}(h:Blk X g t #[a0,a1,a2,a3,a4,a5,a6])(k:bU X.heap.size X W) :
  W.cell? ⟨g,0,none⟩=some a0/\W.cell? ⟨g,1,none⟩=some a1/\W.cell? ⟨g,2,none⟩=some a2/\W.cell? ⟨g,3,none⟩=some a3/\W.cell? ⟨g,4,none⟩=some a4/\W.cell? ⟨g,5,none⟩=some a5/\W.cell? ⟨g,6,none⟩=some a6/\bU X.heap.size X W:=
 ⟨(h.ext k).cell 0,(h.ext k).cell 1,(h.ext k).cell 2,(h.ext k).cell 3,(h.ext k).cell 4,(h.ext k).cell 5,(h.ext k).cell 6,k⟩
theorem q7B{X W:bT}{g:Nat}{a0 a1 a2 a3 a4 a5 a6:bW}(h:W.cell? ⟨g,0,none⟩=some a0/\W.cell? ⟨g,1,none⟩=some a1/\W.cell? ⟨g,2,none⟩=some a2/\W.cell? ⟨g,3,none⟩=some a3/\W.cell? ⟨g,4,none⟩=some a4/\W.cell? ⟨g,5,none⟩=some a5/\W.cell? ⟨g,6,none⟩=some a6/\bU X.heap.size X W):bU X.heap.size X W:=h.2.2.2.2.2.2.2
end
section
open Go.RowKit Go.Shelf
attribute [local go_sem ↓] Go.wp_at_zero Go.wp_at_succ
structure Nt (E:Array bW) (j o:Int) (c:AH) (pb pa:Option Addr) (old now:Int):Prop extends Eo E j c pb pa where
 c6:E[6]? = some (U I o)
 c19:E[19]? = some (U I old)
 c20:E[20]? = some (U I now)
theorem Nu{kd t j lo hi b o:Int}{c:AH}{pb pa:Option Addr}{old now:Int}:Nt (Bp kd t j lo hi b o c (.pointer pb) (.pointer pa) old now) j o c pb pa old now:=⟨Nq,rfl,rfl,rfl⟩
theorem PV{E:Array bW}{j:Int}{c:AH}{pb pa:Option Addr}(hE:Eo E j c pb pa)(w:bT):cC bX 213 #[.agg E] w fun e w'=>e=cB (J (pb.isSome != pa.isSome))/\bU w.heap.size w w':=by
 have HB:=Wz (Blk.new w 297 E);have x17:(w.alloc (.cells E 297)).cell? ⟨w.heap.size,17,none⟩=some (.pointer pb):=(HB.out.cell 17).trans hE.c17;have x18:(w.alloc (.cells E 297)).cell? ⟨w.heap.size,18,none⟩=some (.pointer pa):=(HB.out.cell 18).trans hE.c18;clear hE;cases pb <;> cases pa
 all_goals
  go_enter Tryz.func213,Tryz.ntmps213;go_wp2;go_ret;exact⟨rfl,AC _ _⟩
theorem WQ{E:Array bW}{j o:Int}{c:AH}{pb pa:Option Addr}{old now:Int}(hE:Nt E j o c pb pa old now)(w:bT):cC bX 215 #[.agg E] w fun e w'=>e=cB (J (decide (old≠now)))/\bU w.heap.size w w':=by
 have HB:=Wz (Blk.new w 297 E);have x19:(w.alloc (.cells E 297)).cell? ⟨w.heap.size,19,none⟩=some (U I old):=(HB.out.cell 19).trans hE.c19;have x20:(w.alloc (.cells E 297)).cell? ⟨w.heap.size,20,none⟩=some (U I now):=(HB.out.cell 20).trans hE.c20;clear hE;by_cases h:old=now
 ·subst h;go_enter Tryz.func215,Tryz.ntmps215;go_wp2;go_ret;exact⟨by simp,AC _ _⟩
 go_enter Tryz.func215,Tryz.ntmps215;go_wp2;go_ret;exact⟨by simp[h],AC _ _⟩
theorem WR{E:Array bW}{j o:Int}{c:AH}{pb pa:Option Addr}{old now:Int}(hE:Nt E j o c pb pa old now)(w:bT):cC bX 217 #[.agg E] w fun e w'=>e=cB (J ((pb.isSome != pa.isSome) || decide (old≠now)))/\bU w.heap.size w w':=by
 have HB:=Wz (Blk.new w 297 E);have HI:=Wz (Dk.trans (by rw[<- hE.size]));have HAN:=Wz (fun W:bT=>PV hE.toEo W);have x19:(w.alloc (.cells E 297)).cell? ⟨w.heap.size,19,none⟩=some (U I old):=(HB.out.cell 19).trans hE.c19;have x20:(w.alloc (.cells E 297)).cell? ⟨w.heap.size,20,none⟩=some (U I now):=(HB.out.cell 20).trans hE.c20;clear hE;generalize (pb.isSome != pa.isSome)=any at *;go_enter Tryz.func217,Tryz.ntmps217;go_wp2_with (refine wpList_load_row rfl 297 (.tmp 1) rfl w.heap.size rfl 297 E (0,0) _ HB.out Tryz.underlying297 rfl HI.out ?_)
 refine(HAN.out _).mono ?_;rintro e W2 ⟨rfl,hb2⟩;have x19':=AG x19 hb2;have x20':=AG x20 hb2;have hE2:=AA (AC w (.cells E 297)) hb2
 cases any with
 | true=>
  go_wp2;go_ret;exact⟨by simp,hE2⟩
 | false=>
  by_cases h:old=now
  ·subst h;go_wp2;go_ret;exact⟨by simp,hE2⟩
  have h1:(old == now)=false:=by simpa using h
  go_wp2;go_ret;exact⟨by simp[h],hE2⟩
theorem WS{E:Array bW}{j o:Int}{c:AH}{pb pa:Option Addr}{old now:Int}(hE:Nt E j o c pb pa old now)(w:bT):cC bX 220 #[.agg E] w fun e w'=>e=cB (J ((pb.isSome != pa.isSome) || decide (old≠now)))/\bU w.heap.size w w':=by
 have HB:=Wz (Blk.new w 297 E);have HI:=Wz (Dk.trans (by rw[<- hE.size]));have HAN:=Wz (fun W:bT=>PV hE.toEo W);have x19:(w.alloc (.cells E 297)).cell? ⟨w.heap.size,19,none⟩=some (U I old):=(HB.out.cell 19).trans hE.c19;have x20:(w.alloc (.cells E 297)).cell? ⟨w.heap.size,20,none⟩=some (U I now):=(HB.out.cell 20).trans hE.c20;clear hE;generalize (pb.isSome != pa.isSome)=any at *;go_enter Tryz.func220,Tryz.ntmps220;go_wp2_with (refine wpList_load_row rfl 297 (.tmp 1) rfl w.heap.size rfl 297 E (0,0) _ HB.out Tryz.underlying297 rfl HI.out ?_)
 refine(HAN.out _).mono ?_;rintro e W2 ⟨rfl,hb2⟩;have x19':=AG x19 hb2;have x20':=AG x20 hb2;have hE2:=AA (AC w (.cells E 297)) hb2
 cases any with
 | true=>
  go_wp2;go_ret;exact⟨by simp,hE2⟩
 | false=>
  by_cases h:old=now
  ·subst h;go_wp2;go_ret;exact⟨by simp,hE2⟩
  have h1:(old == now)=false:=by simpa using h
  go_wp2;go_ret;exact⟨by simp[h],hE2⟩
theorem Uv{E:Array bW}{j o:Int}{c:AH}{pb pa:Option Addr}{old now:Int}(hE:Nt E j o c pb pa old now)(w:bT):cC bX 222 #[.agg E] w fun e w'=>e=cB (J ((pb.isSome || pa.isSome) || decide (c.t=o)))/\bU w.heap.size w w':=by
 have HB:=Wz (Blk.new w 297 E);have HI:=Wz (Dk.trans (by rw[<- hE.size]));have HAN:=Wz (fun W:bT=>anyE hE.toEo W);have x7:(w.alloc (.cells E 297)).cell? ⟨w.heap.size,7,none⟩=some (U I c.t):=(HB.out.cell 7).trans hE.c7;have x6:(w.alloc (.cells E 297)).cell? ⟨w.heap.size,6,none⟩=some (U I o):=(HB.out.cell 6).trans hE.c6;clear hE;generalize c.t=ct at *;generalize (pb.isSome || pa.isSome)=any at *;go_enter Tryz.func222,Tryz.ntmps222;go_wp2_with (refine wpList_load_row rfl 297 (.tmp 1) rfl w.heap.size rfl 297 E (0,0) _ HB.out Tryz.underlying297 rfl HI.out ?_)
 refine(HAN.out _).mono ?_;rintro e W2 ⟨rfl,hb2⟩;have x7':=AG x7 hb2;have x6':=AG x6 hb2;have hE2:=AA (AC w (.cells E 297)) hb2
 cases any with
 | true=>
  go_wp2;go_ret;exact⟨by simp,hE2⟩
 | false=>
  by_cases h:ct=o
  ·subst h;go_wp2;go_ret;exact⟨by simp,hE2⟩
  have h1:(ct == o)=false:=by simpa using h
  go_wp2;go_ret;exact⟨by simp[h],hE2⟩
theorem Uw(a b:Int)(w:bT):cC bX 219 #[U I a,U I b] w fun e w'=>e=cB (J (decide (a<b)))/\w=w':=by
 go_enter Tryz.func219,Tryz.ntmps219;go_wp2;go_ret;exact⟨rfl,rfl⟩
theorem Ux(a b:Int)(w:bT):cC bX 221 #[U I a,U I b] w fun e w'=>e=cB (J (decide (b<a)))/\w=w':=by
 go_enter Tryz.func221,Tryz.ntmps221;go_wp2;go_ret;exact⟨rfl,rfl⟩
def Uy(s:Bool)(val:Int):Int:=wrap64 (if s then val+1 else val-1)
theorem Rh{E:Array bW}{j o:Int}{c:AH}{pb pa:Option Addr}{old now:Int}(hE:Nt E j o c pb pa old now)(A:Option Addr)(n cc:Nat)(val:Int)(fd:Bool)(w:bT):cC bX 214 #[.agg E,bZ #[R A n cc,U I val,J fd]] w fun e w'=>e=cB (cD #[bZ #[R A n cc,U I (Uy pa.isSome val),J fd],J true])/\bU w.heap.size w w':=by
 have HB:=Wz (((Blk.new w 297 E).alloc (bV #[R A n cc,U I val,J fd] 36)).alloc (bV #[R none 0 0,U I 0,J false] 36));have x18:(((w.alloc (.cells E 297)).alloc (bV #[R A n cc,U I val,J fd] 36)).alloc (bV #[R none 0 0,U I 0,J false] 36)).cell? ⟨w.heap.size,18,none⟩=some (.pointer pa):=(HB.out.cell 18).trans hE.c18;clear hE
 cases pa with
 | none=>
  rw[show Uy (Option.isSome (none)) val=wrap64 (val-1)from rfl];go_enter Tryz.func214,Tryz.ntmps214;go_wp2;have hY:=Blk.new' ((w.alloc (.cells E 297)).alloc (bV #[R A n cc,U I (wrap64 (val-1)),J fd] 36)) 36 #[R A n cc,U I (wrap64 (val-1)),J fd] (b:=w.heap.size+1+1) (by simp);have z0:=hY.cell 0;have z1:=hY.cell 1;have z2:=hY.cell 2;refine bodyPost_ret (v:=cD #[bZ #[R A n cc,U I (wrap64 (val-1)),J fd],J true]) (by simp[results,Tryz.results214,go_sem,z0,z1,z2]) rfl ⟨rfl,AB (AB (AC _ _) _) _⟩
 | some p=>
  rw[show Uy (Option.isSome (some p)) val=wrap64 (val+1)from rfl];go_enter Tryz.func214,Tryz.ntmps214;go_wp2;have hY:=Blk.new' ((w.alloc (.cells E 297)).alloc (bV #[R A n cc,U I (wrap64 (val+1)),J fd] 36)) 36 #[R A n cc,U I (wrap64 (val+1)),J fd] (b:=w.heap.size+1+1) (by simp);have z0:=hY.cell 0;have z1:=hY.cell 1;have z2:=hY.cell 2;refine bodyPost_ret (v:=cD #[bZ #[R A n cc,U I (wrap64 (val+1)),J fd],J true]) (by simp[results,Tryz.results214,go_sem,z0,z1,z2]) rfl ⟨rfl,AB (AB (AC _ _) _) _⟩
theorem Uz{E:Array bW}{j o:Int}{c:AH}{pb pa:Option Addr}{old now:Int}(hE:Nt E j o c pb pa old now)(A:Option Addr)(n cc:Nat)(val:Int)(fd:Bool)(w:bT):cC bX 216 #[.agg E,bZ #[R A n cc,U I val,J fd]] w fun e w'=>e=cB (cD #[bZ #[R A n cc,U I (wrap64 (val+wrap64 (now-old))),J fd],J true])/\bU w.heap.size w w':=by
 have HB:=Wz (((Blk.new w 297 E).alloc (bV #[R A n cc,U I val,J fd] 36)).alloc (bV #[R none 0 0,U I 0,J false] 36));have x19:(((w.alloc (.cells E 297)).alloc (bV #[R A n cc,U I val,J fd] 36)).alloc (bV #[R none 0 0,U I 0,J false] 36)).cell? ⟨w.heap.size,19,none⟩=some (U I old):=(HB.out.cell 19).trans hE.c19;have x20:(((w.alloc (.cells E 297)).alloc (bV #[R A n cc,U I val,J fd] 36)).alloc (bV #[R none 0 0,U I 0,J false] 36)).cell? ⟨w.heap.size,20,none⟩=some (U I now):=(HB.out.cell 20).trans hE.c20;clear hE;go_enter Tryz.func216,Tryz.ntmps216;go_wp2;have hY:=Blk.new' ((w.alloc (.cells E 297)).alloc (bV #[R A n cc,U I (wrap64 (val+wrap64 (now-old))),J fd] 36)) 36 #[R A n cc,U I (wrap64 (val+wrap64 (now-old))),J fd] (b:=w.heap.size+1+1) (by simp);have z0:=hY.cell 0;have z1:=hY.cell 1;have z2:=hY.cell 2;refine bodyPost_ret (v:=cD #[bZ #[R A n cc,U I (wrap64 (val+wrap64 (now-old))),J fd],J true]) (by simp[results,Tryz.results216,go_sem,z0,z1,z2]) rfl ⟨rfl,AB (AB (AC _ _) _) _⟩
def Fo(lt:Int->Int->Bool)(sb sa:Bool)(old now val:Int)(fd:Bool):(Int × Bool) × Bool:=
 if sb && (!fd || !lt val old)then((now,fd),sa && fd && !lt val now)
 else if sa then((if !fd || lt now val then now else val,true),true)else((val,fd),true)
theorem QK(fn:Nat)(lt:Int->Int->Bool)(en:∀ args w,(callFunc fn args).run bX w=.ok (.enter fn args) w)(hlt:∀(a b:Int) (W:bT),cC bX fn #[U I a,U I b] W fun e W'=>e=cB (J (lt a b))/\W=W')
  {E:Array bW} {j o:Int} {c:AH} {pb pa:Option Addr} {old now:Int} (hE:Nt E j o c pb pa old now) (A:Option Addr) (n cc:Nat) (val:Int) (fd:Bool) (bx:Nat) (w:bT) (hb:Blk w bx 166 #[.func (.func fn) #[] #[]]) :
  cC bX 236 #[.agg E,bZ #[R A n cc,U I val,J fd],.pointer (some ⟨bx,0,none⟩)] w fun e w'=>e=cB (cD #[bZ #[R A n cc,U I (Fo lt pb.isSome pa.isSome old now val fd).1.1,J (Fo lt pb.isSome pa.isSome old now val fd).1.2],J (Fo lt pb.isSome pa.isSome old now val fd).2])/\bU w.heap.size w w':=by
 have HB:=Wz (((Blk.new w 297 E).alloc (bV #[R A n cc,U I val,J fd] 36)).alloc (bV #[R none 0 0,U I 0,J false] 36));have x17:(((w.alloc (.cells E 297)).alloc (bV #[R A n cc,U I val,J fd] 36)).alloc (bV #[R none 0 0,U I 0,J false] 36)).cell? ⟨w.heap.size,17,none⟩=some (.pointer pb):=(HB.out.cell 17).trans hE.c17;have x18:(((w.alloc (.cells E 297)).alloc (bV #[R A n cc,U I val,J fd] 36)).alloc (bV #[R none 0 0,U I 0,J false] 36)).cell? ⟨w.heap.size,18,none⟩=some (.pointer pa):=(HB.out.cell 18).trans hE.c18;have x19:(((w.alloc (.cells E 297)).alloc (bV #[R A n cc,U I val,J fd] 36)).alloc (bV #[R none 0 0,U I 0,J false] 36)).cell? ⟨w.heap.size,19,none⟩=some (U I old):=(HB.out.cell 19).trans hE.c19;have x20:(((w.alloc (.cells E 297)).alloc (bV #[R A n cc,U I val,J fd] 36)).alloc (bV #[R none 0 0,U I 0,J false] 36)).cell? ⟨w.heap.size,20,none⟩=some (U I now):=(HB.out.cell 20).trans hE.c20;have HLT:=Wz hlt;have b0:=hb.cell 0;have bl:=hb.lt;have bl1:bx<w.heap.size+1:=by omega
 have bl2:bx<w.heap.size+1+1:=by omega
 have HX:=Wz (show Fo lt pb.isSome pa.isSome old now val fd=if pb.isSome && (!fd || !lt val old)then((now,fd),pa.isSome && fd && !lt val now)else if pa.isSome then((if !fd || lt now val then now else val,true),true)else((val,fd),true)from rfl);generalize Fo lt pb.isSome pa.isSome old now val fd=rr at *;obtain⟨⟨rv,rf⟩,ok⟩:=rr;dsimp only at *;have HL1:=Wz (show ∃ l,lt val old=l from⟨_,rfl⟩);have HL2:=Wz (show ∃ l,lt val now=l from⟨_,rfl⟩);have HL3:=Wz (show ∃ l,lt now val=l from⟨_,rfl⟩);clear hlt hb hE HB
 cases pb with
 | none =>
  cases pa with
  | none=>
   obtain⟨rfl,rfl,rfl⟩:val=rv/\fd=rf/\true=ok:=by have:=HX.out;simp at this;simp[this]
   go_enter Tryz.func236,Tryz.ntmps236;go_wp2;have hY:=Blk.new' ((w.alloc (.cells E 297)).alloc (bV #[R A n cc,U I (val),J fd] 36)) 36 #[R A n cc,U I (val),J fd] (b:=w.heap.size+1+1) (by simp);have z0:=hY.cell 0;have z1:=hY.cell 1;have z2:=hY.cell 2;refine bodyPost_ret (v:=cD #[bZ #[R A n cc,U I (val),J fd],J true]) (by simp[results,Tryz.results236,go_sem,z0,z1,z2]) rfl ⟨rfl,AB (AB (AC _ _) _) _⟩
  | some p=>
   cases fd with
   | false=>
    obtain⟨rfl,rfl,rfl⟩:now=rv/\true=rf/\true=ok:=by have:=HX.out;simp at this;simp[this]
    go_enter Tryz.func236,Tryz.ntmps236;go_wp2;have hY:=Blk.new' ((w.alloc (.cells E 297)).alloc (bV #[R A n cc,U I (now),J true] 36)) 36 #[R A n cc,U I (now),J true] (b:=w.heap.size+1+1) (by simp);have z0:=hY.cell 0;have z1:=hY.cell 1;have z2:=hY.cell 2;refine bodyPost_ret (v:=cD #[bZ #[R A n cc,U I (now),J true],J true]) (by simp[results,Tryz.results236,go_sem,z0,z1,z2]) rfl ⟨rfl,AB (AB (AC _ _) _) _⟩
   | true=>
    obtain⟨l3,hl3⟩:=HL3.out;have HK3:=Wz hl3;clear hl3
    cases l3 with
    | true=>
     obtain⟨rfl,rfl,rfl⟩:now=rv/\true=rf/\true=ok:=by have:=HX.out;simp[HK3.out]at this;simp[this]
     go_enter Tryz.func236,Tryz.ntmps236;go_wp2_with fail
     refine(HLT.out (now) (val) _).mono ?_;rintro e w' ⟨rfl,rfl⟩;rw[HK3.out];go_wp2;have hY:=Blk.new' ((w.alloc (.cells E 297)).alloc (bV #[R A n cc,U I (now),J true] 36)) 36 #[R A n cc,U I (now),J true] (b:=w.heap.size+1+1) (by simp);have z0:=hY.cell 0;have z1:=hY.cell 1;have z2:=hY.cell 2;refine bodyPost_ret (v:=cD #[bZ #[R A n cc,U I (now),J true],J true]) (by simp[results,Tryz.results236,go_sem,z0,z1,z2]) rfl ⟨rfl,AB (AB (AC _ _) _) _⟩
    | false=>
     obtain⟨rfl,rfl,rfl⟩:val=rv/\true=rf/\true=ok:=by have:=HX.out;simp[HK3.out]at this;simp[this]
     go_enter Tryz.func236,Tryz.ntmps236;go_wp2_with fail
     refine(HLT.out (now) (val) _).mono ?_;rintro e w' ⟨rfl,rfl⟩;rw[HK3.out];go_wp2;have hY:=Blk.new' ((w.alloc (.cells E 297)).alloc (bV #[R A n cc,U I (val),J true] 36)) 36 #[R A n cc,U I (val),J true] (b:=w.heap.size+1+1) (by simp);have z0:=hY.cell 0;have z1:=hY.cell 1;have z2:=hY.cell 2;refine bodyPost_ret (v:=cD #[bZ #[R A n cc,U I (val),J true],J true]) (by simp[results,Tryz.results236,go_sem,z0,z1,z2]) rfl ⟨rfl,AB (AB (AC _ _) _) _⟩
 | some p =>
  cases fd with
  | false=>
   cases pa with
   | none=>
    obtain⟨rfl,rfl,rfl⟩:now=rv/\false=rf/\false=ok:=by have:=HX.out;simp at this;simp[this]
    go_enter Tryz.func236,Tryz.ntmps236;go_wp2;have hY:=Blk.new' ((w.alloc (.cells E 297)).alloc (bV #[R A n cc,U I (now),J false] 36)) 36 #[R A n cc,U I (now),J false] (b:=w.heap.size+1+1) (by simp);have z0:=hY.cell 0;have z1:=hY.cell 1;have z2:=hY.cell 2;refine bodyPost_ret (v:=cD #[bZ #[R A n cc,U I (now),J false],J false]) (by simp[results,Tryz.results236,go_sem,z0,z1,z2]) rfl ⟨rfl,AB (AB (AC _ _) _) _⟩
   | some p2=>
    obtain⟨rfl,rfl,rfl⟩:now=rv/\false=rf/\false=ok:=by have:=HX.out;simp at this;simp[this]
    go_enter Tryz.func236,Tryz.ntmps236;go_wp2;have hY:=Blk.new' ((w.alloc (.cells E 297)).alloc (bV #[R A n cc,U I (now),J false] 36)) 36 #[R A n cc,U I (now),J false] (b:=w.heap.size+1+1) (by simp);have z0:=hY.cell 0;have z1:=hY.cell 1;have z2:=hY.cell 2;refine bodyPost_ret (v:=cD #[bZ #[R A n cc,U I (now),J false],J false]) (by simp[results,Tryz.results236,go_sem,z0,z1,z2]) rfl ⟨rfl,AB (AB (AC _ _) _) _⟩
  | true =>
   obtain⟨l1,hl1⟩:=HL1.out;have HK1:=Wz hl1;clear hl1
   cases l1 with
   | false=>
    cases pa with
    | none=>
     obtain⟨rfl,rfl,rfl⟩:now=rv/\true=rf/\false=ok:=by have:=HX.out;simp[HK1.out]at this;simp[this]
     go_enter Tryz.func236,Tryz.ntmps236;go_wp2_with fail
     refine(HLT.out (val) (old) _).mono ?_;rintro e w' ⟨rfl,rfl⟩;rw[HK1.out];go_wp2;have hY:=Blk.new' ((w.alloc (.cells E 297)).alloc (bV #[R A n cc,U I (now),J true] 36)) 36 #[R A n cc,U I (now),J true] (b:=w.heap.size+1+1) (by simp);have z0:=hY.cell 0;have z1:=hY.cell 1;have z2:=hY.cell 2;refine bodyPost_ret (v:=cD #[bZ #[R A n cc,U I (now),J true],J false]) (by simp[results,Tryz.results236,go_sem,z0,z1,z2]) rfl ⟨rfl,AB (AB (AC _ _) _) _⟩
    | some p2=>
     obtain⟨l2,hl2⟩:=HL2.out;have HK2:=Wz hl2;clear hl2
     cases l2 with
     | true=>
      obtain⟨rfl,rfl,rfl⟩:now=rv/\true=rf/\false=ok:=by have:=HX.out;simp[HK1.out,HK2.out]at this;simp[this]
      go_enter Tryz.func236,Tryz.ntmps236;go_wp2_with fail
      refine(HLT.out (val) (old) _).mono ?_;rintro e w' ⟨rfl,rfl⟩;rw[HK1.out];go_wp2_with fail
      refine(HLT.out (val) (now) _).mono ?_;rintro e w' ⟨rfl,rfl⟩;rw[HK2.out];go_wp2;have hY:=Blk.new' ((w.alloc (.cells E 297)).alloc (bV #[R A n cc,U I (now),J true] 36)) 36 #[R A n cc,U I (now),J true] (b:=w.heap.size+1+1) (by simp);have z0:=hY.cell 0;have z1:=hY.cell 1;have z2:=hY.cell 2;refine bodyPost_ret (v:=cD #[bZ #[R A n cc,U I (now),J true],J false]) (by simp[results,Tryz.results236,go_sem,z0,z1,z2]) rfl ⟨rfl,AB (AB (AC _ _) _) _⟩
     | false=>
      obtain⟨rfl,rfl,rfl⟩:now=rv/\true=rf/\true=ok:=by have:=HX.out;simp[HK1.out,HK2.out]at this;simp[this]
      go_enter Tryz.func236,Tryz.ntmps236;go_wp2_with fail
      refine(HLT.out (val) (old) _).mono ?_;rintro e w' ⟨rfl,rfl⟩;rw[HK1.out];go_wp2_with fail
      refine(HLT.out (val) (now) _).mono ?_;rintro e w' ⟨rfl,rfl⟩;rw[HK2.out];go_wp2;have hY:=Blk.new' ((w.alloc (.cells E 297)).alloc (bV #[R A n cc,U I (now),J true] 36)) 36 #[R A n cc,U I (now),J true] (b:=w.heap.size+1+1) (by simp);have z0:=hY.cell 0;have z1:=hY.cell 1;have z2:=hY.cell 2;refine bodyPost_ret (v:=cD #[bZ #[R A n cc,U I (now),J true],J true]) (by simp[results,Tryz.results236,go_sem,z0,z1,z2]) rfl ⟨rfl,AB (AB (AC _ _) _) _⟩
   | true =>
    cases pa with
    | none=>
     obtain⟨rfl,rfl,rfl⟩:val=rv/\true=rf/\true=ok:=by have:=HX.out;simp[HK1.out]at this;simp[this]
     go_enter Tryz.func236,Tryz.ntmps236;go_wp2_with fail
     refine(HLT.out (val) (old) _).mono ?_;rintro e w' ⟨rfl,rfl⟩;rw[HK1.out];go_wp2;have hY:=Blk.new' ((w.alloc (.cells E 297)).alloc (bV #[R A n cc,U I (val),J true] 36)) 36 #[R A n cc,U I (val),J true] (b:=w.heap.size+1+1) (by simp);have z0:=hY.cell 0;have z1:=hY.cell 1;have z2:=hY.cell 2;refine bodyPost_ret (v:=cD #[bZ #[R A n cc,U I (val),J true],J true]) (by simp[results,Tryz.results236,go_sem,z0,z1,z2]) rfl ⟨rfl,AB (AB (AC _ _) _) _⟩
    | some p2=>
     obtain⟨l3,hl3⟩:=HL3.out;have HK3:=Wz hl3;clear hl3
     cases l3 with
     | true=>
      obtain⟨rfl,rfl,rfl⟩:now=rv/\true=rf/\true=ok:=by have:=HX.out;simp[HK1.out,HK3.out]at this;simp[this]
      go_enter Tryz.func236,Tryz.ntmps236;go_wp2_with fail
      refine(HLT.out (val) (old) _).mono ?_;rintro e w' ⟨rfl,rfl⟩;rw[HK1.out];go_wp2_with fail
      refine(HLT.out (now) (val) _).mono ?_;rintro e w' ⟨rfl,rfl⟩;rw[HK3.out];go_wp2;have hY:=Blk.new' ((w.alloc (.cells E 297)).alloc (bV #[R A n cc,U I (now),J true] 36)) 36 #[R A n cc,U I (now),J true] (b:=w.heap.size+1+1) (by simp);have z0:=hY.cell 0;have z1:=hY.cell 1;have z2:=hY.cell 2;refine bodyPost_ret (v:=cD #[bZ #[R A n cc,U I (now),J true],J true]) (by simp[results,Tryz.results236,go_sem,z0,z1,z2]) rfl ⟨rfl,AB (AB (AC _ _) _) _⟩
     | false=>
      obtain⟨rfl,rfl,rfl⟩:val=rv/\true=rf/\true=ok:=by have:=HX.out;simp[HK1.out,HK3.out]at this;simp[this]
      go_enter Tryz.func236,Tryz.ntmps236;go_wp2_with fail
      refine(HLT.out (val) (old) _).mono ?_;rintro e w' ⟨rfl,rfl⟩;rw[HK1.out];go_wp2_with fail
      refine(HLT.out (now) (val) _).mono ?_;rintro e w' ⟨rfl,rfl⟩;rw[HK3.out];go_wp2;have hY:=Blk.new' ((w.alloc (.cells E 297)).alloc (bV #[R A n cc,U I (val),J true] 36)) 36 #[R A n cc,U I (val),J true] (b:=w.heap.size+1+1) (by simp);have z0:=hY.cell 0;have z1:=hY.cell 1;have z2:=hY.cell 2;refine bodyPost_ret (v:=cD #[bZ #[R A n cc,U I (val),J true],J true]) (by simp[results,Tryz.results236,go_sem,z0,z1,z2]) rfl ⟨rfl,AB (AB (AC _ _) _) _⟩
end
section
open Go.RowKit Go.Shelf
section
attribute [local go_sem ↓] Go.wp_at_zero Go.wp_at_succ
theorem WT(x:AD)(W:bT):(Op.equal 67 (.agg x.arr) (.agg x.arr)).run bX W=.ok true W:=by
 unfold Op.equal Op.maxDepth AD.arr;simp[go_sem,eq3s]
theorem WU(x:AD)(W:bT):(Op.equalIn 10000 67 (.agg x.arr) (.agg x.arr)).run bX W=.ok true W:=WT x W
theorem eq6s(a b c d e f:Int)(W:bT):(Op.equalIn 10000 118 (bZ #[U I a,U I b,U I c,U I d,U I e,U I f]) (bZ #[U I a,U I b,U I c,U I d,U I e,U I f])).run bX W=.ok true W:=by
 obtain⟨is,his,_⟩:=Option.map_eq_some_iff.1 Kz;have hc:Tryz.prog.cellsOf 3=1:=by kernel_rfl
 have hl:List.range 6=[0,1,2,3,4,5]:=by decide
 have hp:∀(k:Nat) (a:Array bW) (n:Int),a[k]? = some (U I n)->(part 3 a k).run bX W=.ok (U I n) W:=fun k a n h=>run_part_plain W (by kernel_rfl) h;have he:∀ m n:Int,(Op.equalIn 9999 3 (U I m) (U I n)).run bX W=.ok (m == n) W:=fun m n=>by
  rw[show 9999=9998+1 from rfl,run_equalIn_int (k':=.i64) W 9998 _ _ _ _ Tryz.underlying3]
 refine(run_equalIn_array (d:=9999) W #[U I a,U I b,U I c,U I d,U I e,U I f] #[U I a,U I b,U I c,U I d,U I e,U I f] Tryz.underlying118 his).trans ?_;rw[hc,hl];simp[Op.eqItems,hp 0 _ a,hp 1 _ b,hp 2 _ c,hp 3 _ d,hp 4 _ e,hp 5 _ f,he]
theorem QL(S T:Nat->Prop)(l:List ByteArray)(va vb:bW)(hl:l.length<=1000)(w:bT)(ha:AW S w va l)(hb:AW T w vb l) :
  cC bX 164 #[va,vb] w fun e w'=>e=cB (J true)/\bU w.heap.size w w':=by
 obtain⟨A,c,rfl,-,h1⟩:=ha;obtain⟨B,d,rfl,-,h2⟩:=hb;by_cases h0:0<l.length
 ·obtain⟨b,o,rfl,-,k1⟩:=h1 h0;obtain⟨b',o',rfl,-,k2⟩:=h2 h0;refine(Tryz.slices_Equal_string b o l.length c b' o' l.length d l l w (Nat.le_refl _) (Nat.le_refl _) (by omega) (by omega) (fun j hj=>?_) (fun j hj=>?_)).mono ?_
  ·rw[k1 j _ (cF hj),List.getD_eq_getElem?_getD,cF hj];rfl
  ·rw[k2 j _ (cF hj),List.getD_eq_getElem?_getD,cF hj];rfl
  rintro e w' ⟨rfl,q,rfl⟩;exact⟨by simp,Af (AF _) _⟩
 have hn:l.length=0:=by omega
 rw[hn];refine(Tryz.slices_Equal_string_empty A B c 0 d w (by omega)).mono ?_;rintro e w' ⟨rfl,rfl⟩;exact⟨by simp,AF _⟩
theorem WV(S T:Nat->Prop)(l:List ByteArray)(va vb:bW)(hl:l.length<=1000)(w:bT)(ha:AW S w va l)(hb:AW T w vb l) :
  cC bX 163 #[va,vb] w fun e w'=>e=cB (J true)/\bU w.heap.size w w':=by
 have HQ:=Wz (QL S T l va vb hl w ha hb);obtain⟨A,c,rfl,-⟩:=ha;obtain⟨B,d,rfl,-⟩:=hb;go_enter Tryz.func163,Tryz.ntmps163;go_wp2_with fail
 refine HQ.out.mono ?_;rintro e W1 ⟨rfl,hb1⟩;have HE1:=Wz hb1;clear hb1;go_wp2;go_ret;exact⟨rfl,HE1.out⟩
theorem Tb(S T:Nat->Prop)(ps:List (List ByteArray))(hl:ps.length<=1000)(hps:∀ p ∈ ps,p.length<=1000)(va vb:bW)(w:bT)(ha:DI S w va ps)(hb:DI T w vb ps) :
  cC bX 195 #[va,vb,.func (.func 163) #[] #[]] w fun e w'=>e=cB (J true)/\bU w.heap.size w w':=by
 obtain⟨A,c,rfl,h1⟩:=ha;obtain⟨B,d,rfl,h2⟩:=hb;have H1:=Wz h1;have H2:=Wz h2;clear h1 h2;go_enter Tryz.func195,Tryz.ntmps195;go_wp2;go_loopw [7,8,9,17] (fun _ _ _ iv W=>∃ k:Nat,k<=ps.length/\iv=U I (k:Int)/\bU w.heap.size w W) (fun _ _ _ iv _=>ps.length-(intOf iv).toNat)
 case atStart=>exact⟨0,Nat.zero_le _,rfl,AF _⟩
 case round=>
  obtain⟨k,hk,rfl,hE⟩:=hrel;have HE:=Wz hE;clear hE;by_cases hlt:k<ps.length
  ·obtain⟨p,hp⟩:∃ p,ps[k]? = some p:=⟨_,cF hlt⟩;obtain⟨g,rfl,hg,-,q1⟩:=H1.out (by omega);obtain⟨g',rfl,hg',-,q2⟩:=H2.out (by omega);obtain⟨u,hu,su⟩:=q1 k p hp;obtain⟨u',hu',su'⟩:=q2 k p hp;have hu:=AG hu HE.out;have hu':=AG hu' HE.out;have HS:=Wz (fun(W:bT)(h:bU w.heap.size w W)=>WV S T p u u' (hps p (List.mem_of_getElem? hp)) W (su.below h) (su'.below h));obtain⟨Au,cu,rfl,-⟩:=id su;obtain⟨Au',cu',rfl,-⟩:=id su';have x0:(0:Int)<=(k:Int):=by omega
   have x1:(k:Int)<(ps.length:Int):=by omega
   have d1:decide ((k:Int)<(ps.length:Int))=true:=decide_eq_true x1;have e2:IntKind.i64.wrap ((k:Int)+1)=(k:Int)+1:=cE _ (by omega);clear q1 q2 su su' hp hg hg';go_wp2_with (go_at_call 163;refine(HS.out _ HE.out).mono ?_;rintro e W2 ⟨rfl,hb2⟩;have HE2:=Wz (AA HE.out hb2);clear hb2)
   go_roundw
   case rel=>exact⟨k+1,by omega,by go_num,HE2.out⟩
   simp[intOf];omega
  have d1:decide ((k:Int)<(ps.length:Int))=false:=decide_eq_false (by omega);go_wp2;go_ret;exact⟨rfl,HE.out⟩
theorem Nv(S T:Nat->Prop)(ps:List (List ByteArray))(hl:ps.length<=1000)(hps:∀ p ∈ ps,p.length<=1000)(va vb:bW)(w:bT)(ha:DI S w va ps)(hb:DI T w vb ps) :
  cC bX 162 #[va,vb,.func (.func 163) #[] #[]] w fun e w'=>e=cB (J true)/\bU w.heap.size w w':=by
 have HE:=Wz (Tb S T ps hl hps va vb w ha hb);obtain⟨A,c,rfl,-⟩:=ha;obtain⟨B,d,rfl,-⟩:=hb;go_enter Tryz.func162,Tryz.ntmps162;go_wp2_with (go_at_call 195;refine HE.out.mono ?_;rintro e W2 ⟨rfl,hb2⟩;have HE2:=Wz hb2;clear hb2)
 go_ret;exact⟨rfl,HE2.out⟩
end
section
attribute [local go_sem ↓] Dv FZ Go.wp_at_zero Go.wp_at_succ
theorem QM(l:List AD)(va vb:bW)(w:bT)(ha:AR w va l)(hb:AR w vb l)(hl:l.length<=1000) :
  cC bX 159 #[va,vb] w fun e w'=>e=cB (J true)/\bU w.heap.size w w':=by
 have HA:=Wz ha;have HB:=Wz hb;obtain⟨Aa,ca,rfl,_⟩:=ha;obtain⟨Ab,cb,rfl,_⟩:=hb;go_enter Tryz.func159,Tryz.ntmps159;go_wp2;go_loopw [5,13] (fun _ i W=>∃ k:Nat,k<=l.length/\i=U I k/\bU w.heap.size w W) (fun _ i _=>l.length-(intOf i).toNat)
 case atStart=>exact⟨0,Nat.zero_le _,rfl,by first|exact AF w|exact(AF w).drew⟩
 case round=>
  obtain⟨k,hk,rfl,hE⟩:=hrel;have HE:=Wz hE;clear hE;have e2:IntKind.i64.wrap ((k:Int)+1)=(k:Int)+1:=by rw[cE _ (by omega)]
  by_cases hlt:k<l.length
  ·have d1:decide ((k:Int)<(l.length:Int))=true:=by simp;omega
   obtain⟨x,hx⟩:∃ x,l[k]? = some x:=⟨_,cF hlt⟩;obtain⟨b1,c1,hA1,_,hcell1⟩:=(HA.out.ext HE.out).at_ hx;injection hA1 with hA1 _ hA3
   subst hA1;subst hA3;obtain⟨b2,c2,hB1,_,hcell2⟩:=(HB.out.ext HE.out).at_ hx;injection hB1 with hB1 _ hB3
   subst hB1;subst hB3;have hc1:∀ i,i<x.arr.size->wr.drew.cell? ⟨b1,k*5+i,none⟩=x.arr[i]? := fun i hi=>(hcell1 i hi).trans (by simp[AY,AD.arr]);have hc2:∀ i,i<x.arr.size->wr.drew.cell? ⟨b2,k*5+i,none⟩=x.arr[i]? := fun i hi=>(hcell2 i hi).trans (by simp[AY,AD.arr]);obtain⟨p1,r1⟩:=L7 (P:=bX) (W:=wr.drew) (ty:=67) (cs:=x.arr) hc1 Tryz.underlying67 rfl (by kernel_rfl);obtain⟨p2,r2⟩:=L7 (P:=bX) (W:=wr.drew) (ty:=67) (cs:=x.arr) hc2 Tryz.underlying67 rfl (by kernel_rfl);have hq:=WU x;have q0:(0:Int)<=(k:Int):=by omega
   have q1:(k:Int)<(l.length:Int):=by omega
   clear hcell1 hcell2 hc1 hc2 hx;go_wp2;go_region;go_wp2;go_roundw
   case rel=>exact⟨k+1,by omega,by go_num,HE.out.drew⟩
   simp[intOf];omega
  have d1:decide ((k:Int)<(l.length:Int))=false:=by simp;omega
  go_wp2;go_ret;exact⟨rfl,HE.out⟩
end
section
attribute [local go_sem ↓] Go.wp_at_zero Go.wp_at_succ
theorem U1(f:Nat)(Ls:List (List AH))(hl:Ls.length<=1000)(hls:∀ L ∈ Ls,L.length<=1000)(va vb:bW)(w:bT)(ha:Bt w va f Ls)(hb:Bt w vb f Ls) :
  cC bX 165 #[va,vb,.func (.func 111) #[] #[]] w fun e w'=>e=cB (J true)/\bU w.heap.size w w':=by
 obtain⟨A,c,rfl,-,h1⟩:=ha;obtain⟨B,d,rfl,-,h2⟩:=hb;have H1:=Wz h1;have H2:=Wz h2;clear h1 h2;go_enter Tryz.func165,Tryz.ntmps165;go_wp2;go_loopw [7,8,9,17] (fun _ _ _ iv W=>∃ k:Nat,k<=Ls.length/\iv=U I (k:Int)/\bU w.heap.size w W) (fun _ _ _ iv _=>Ls.length-(intOf iv).toNat)
 case atStart=>exact⟨0,Nat.zero_le _,rfl,AF _⟩
 case round=>
  obtain⟨k,hk,rfl,hE⟩:=hrel;have HE:=Wz hE;clear hE;by_cases hlt:k<Ls.length
  ·obtain⟨L,hL⟩:∃ L,Ls[k]? = some L:=⟨_,cF hlt⟩;obtain⟨g,rfl,q1⟩:=H1.out (by omega);obtain⟨g',rfl,q2⟩:=H2.out (by omega);obtain⟨z0,u,hu,su⟩:=q1 k L hL;obtain⟨z0',u',hu',su'⟩:=q2 k L hL;have z0:=AG z0 HE.out;have z0':=AG z0' HE.out;have hu:=AG hu HE.out;have hu':=AG hu' HE.out;have HS:=Wz (fun(W:bT)(h:bU w.heap.size w W)=>Un ((f:Int)+(k:Int)) L u u' W (su.ext h) (su'.ext h) (hls L (List.mem_of_getElem? hL)));obtain⟨Au,cu,rfl,-⟩:=id su;obtain⟨Au',cu',rfl,-⟩:=id su';obtain⟨ps,hps⟩:∃ ps,ps=(f:Int)+(k:Int):=⟨_,rfl⟩;rw[<- hps]at z0 z0' HS;have x0:(0:Int)<=(k:Int):=by omega
   have x1:(k:Int)<(Ls.length:Int):=by omega
   have d1:decide ((k:Int)<(Ls.length:Int))=true:=decide_eq_true x1;have e2:IntKind.i64.wrap ((k:Int)+1)=(k:Int)+1:=cE _ (by omega);have gl':=AZ (p:=⟨g',k*2,none⟩) z0';have gl1:g'<wr.heap.size+1:=Nat.lt_succ_of_lt gl';have HX:=Wz (AB (AB HE.out (bV #[U I ps,R Au L.length cu] 75)) (bV #[U I ps,R Au' L.length cu'] 75));clear q1 q2 su su' hL hps;go_wp2_with (go_at_call 111;refine(HS.out _ HX.out).mono ?_;rintro e W2 ⟨rfl,hb2⟩;have HE2:=Wz (AA HX.out hb2);clear hb2)
   go_roundw
   case rel=>exact⟨k+1,by omega,by go_num,HE2.out⟩
   simp[intOf];omega
  have d1:decide ((k:Int)<(Ls.length:Int))=false:=decide_eq_false (by omega);go_wp2;go_ret;exact⟨rfl,HE.out⟩
theorem PW(f:Nat)(Ls:List (List AH))(hl:Ls.length<=1000)(hls:∀ L ∈ Ls,L.length<=1000)(va vb:bW)(w:bT)(ha:Bt w va f Ls)(hb:Bt w vb f Ls) :
  cC bX 110 #[va,vb,.func (.func 111) #[] #[]] w fun e w'=>e=cB (J true)/\bU w.heap.size w w':=by
 have HE:=Wz (U1 f Ls hl hls va vb w ha hb);obtain⟨A,c,rfl,-⟩:=ha;obtain⟨B,d,rfl,-⟩:=hb;go_enter Tryz.func110,Tryz.ntmps110;go_wp2_with (go_at_call 165;refine HE.out.mono ?_;rintro e W2 ⟨rfl,hb2⟩;have HE2:=Wz hb2;clear hb2)
 go_ret;exact⟨rfl,HE2.out⟩
theorem Ri(t jj lo hi n f:Int)(A1 A2 A3:Option Addr)(l1 l2 l3 c1 c2 c3:Nat)(w:bT) :
  cC bX 161 #[bZ #[U I t,U I jj,U I lo,U I hi,U I n,U I f,R A1 l1 c1,R A2 l2 c2,R A3 l3 c3]] w fun e w'=>e=cB (bZ #[U I t,U I jj,U I lo,U I hi,U I n,U I f])/\bU w.heap.size w w':=by
 have HB:=Wz (Blk.new' (w.alloc (bV #[U I t,U I jj,U I lo,U I hi,U I n,U I f,R A1 l1 c1,R A2 l2 c2,R A3 l3 c3] 126)) 118 #[U I t,U I jj,U I lo,U I hi,U I n,U I f] (b:=w.heap.size+1) (by simp));go_enter Tryz.func161,Tryz.ntmps161;go_wp2;have y0:=HB.out.cell 0;have y1:=HB.out.cell 1;have y2:=HB.out.cell 2;have y3:=HB.out.cell 3;have y4:=HB.out.cell 4;have y5:=HB.out.cell 5;refine bodyPost_ret (v:=bZ #[U I t,U I jj,U I lo,U I hi,U I n,U I f]) (by simp[results,Tryz.results161,go_sem,y0,y1,y2,y3,y4,y5]) rfl ⟨rfl,?_⟩;exact AB (AC _ _) _
theorem U2(p:RPT)(hr:p.rows.length<=1000)(hp:p.paths.length<=1000)(hps:∀ x ∈ p.paths,x.length<=1000)(hro:p.roots.length<=1000)(a b d a' b' d':bW)(w:bT)(h1:RPS (fun _=>True) w p a b d)(h2:RPS (fun _=>True) w p a' b' d') :
  cC bX 109 #[.agg (p.nums a b d),.agg (p.nums a' b' d')] w fun e w'=>e=cB (J true)/\bU w.heap.size w w':=by
 have HP:=Wz (fun(W:bT)(h:bU w.heap.size w W)=>Nv (fun _=>True) (fun _=>True) p.paths hp hps b b' W ((h1.ext h).paths) ((h2.ext h).paths));have HQ:=Wz (fun(W:bT)(h:bU w.heap.size w W)=>QM p.rows a a' W ((h1.ext h).rows.rowsL) ((h2.ext h).rows.rowsL) hr);have HO:=Wz (fun(W:bT)(h:bU w.heap.size w W)=>QL (fun _=>True) (fun _=>True) p.roots d d' hro W ((h1.ext h).roots) ((h2.ext h).roots));obtain⟨A1,c1,ha,-⟩:=h1.rows;obtain⟨A2,c2,hb,-⟩:=h1.paths;obtain⟨A3,c3,hd,-⟩:=h1.roots;obtain⟨B1,d1,ha',-⟩:=h2.rows;obtain⟨B2,d2,hb',-⟩:=h2.paths;obtain⟨B3,d3,hd',-⟩:=h2.roots;obtain⟨t,jj,lo,hi,n,f,rows,paths,roots⟩:=p;dsimp only[RPT.nums]at *;generalize rows.length=l1 at *;generalize paths.length=l2 at *;generalize roots.length=l3 at *;subst ha hb hd ha' hb' hd';clear h1 h2 hr hp hps hro;obtain⟨X,hX⟩:∃ X,X=(w.alloc (bV #[U I t,U I jj,U I lo,U I hi,U I n,U I f,R A1 l1 c1,R A2 l2 c2,R A3 l3 c3] 126)).alloc (bV #[U I t,U I jj,U I lo,U I hi,U I n,U I f,R B1 l1 d1,R B2 l2 d2,R B3 l3 d3] 126):=⟨_,rfl⟩;have hE:bU w.heap.size w X:=by rw[hX];exact AB (AC _ _) _
 have HBB:=Wz (show Blk X w.heap.size 126 #[U I t,U I jj,U I lo,U I hi,U I n,U I f,R A1 l1 c1,R A2 l2 c2,R A3 l3 c3]/\Blk X (w.heap.size+1) 126 #[U I t,U I jj,U I lo,U I hi,U I n,U I f,R B1 l1 d1,R B2 l2 d2,R B3 l3 d3]by rw[hX];exact⟨(Blk.new _ _ _).alloc _,Blk.new' _ _ _ (by simp)⟩);have HE:=Wz hE;have HX:=Wz hX;clear hE hX;go_enter Tryz.func109,Tryz.ntmps109;go_wp2_with fail
 rw[<- HX.out];refine(HP.out _ HE.out).mono ?_;rintro e W1 ⟨rfl,hb1⟩;have HB1:=Wz (show Blk W1 w.heap.size 126 #[U I t,U I jj,U I lo,U I hi,U I n,U I f,R A1 l1 c1,R A2 l2 c2,R A3 l3 c3]/\Blk W1 (w.heap.size+1) 126 #[U I t,U I jj,U I lo,U I hi,U I n,U I f,R B1 l1 d1,R B2 l2 d2,R B3 l3 d3]from⟨HBB.out.1.ext hb1,HBB.out.2.ext hb1⟩);have HE1:=Wz (AA HE.out hb1);clear hb1 HBB HX HE HP;generalize W1=X at *;have hq:=eq6s t jj lo hi n f;have HK:=Wz (QJ HB1.out (AF X));obtain⟨e0,e1,e2,e3,e4,e5,e6,e7,e8,k0,k1,k2,k3,k4,k5,k6,k7,k8,_⟩:=HK.out;go_wp2;go_region_held3 (fun w'=>w'.cell? ⟨w.heap.size,0,none⟩=some (U I t)/\w'.cell? ⟨w.heap.size,1,none⟩=some (U I jj)/\w'.cell? ⟨w.heap.size,2,none⟩=some (U I lo)/\w'.cell? ⟨w.heap.size,3,none⟩=some (U I hi)/\w'.cell? ⟨w.heap.size,4,none⟩=some (U I n)/\w'.cell? ⟨w.heap.size,5,none⟩=some (U I f)/\w'.cell? ⟨w.heap.size,6,none⟩=some (R A1 l1 c1)/\w'.cell? ⟨w.heap.size,7,none⟩=some (R A2 l2 c2)/\w'.cell? ⟨w.heap.size,8,none⟩=some (R A3 l3 c3)/\w'.cell? ⟨w.heap.size+1,0,none⟩=some (U I t)/\w'.cell? ⟨w.heap.size+1,1,none⟩=some (U I jj)/\w'.cell? ⟨w.heap.size+1,2,none⟩=some (U I lo)/\w'.cell? ⟨w.heap.size+1,3,none⟩=some (U I hi)/\w'.cell? ⟨w.heap.size+1,4,none⟩=some (U I n)/\w'.cell? ⟨w.heap.size+1,5,none⟩=some (U I f)/\w'.cell? ⟨w.heap.size+1,6,none⟩=some (R B1 l1 d1)/\w'.cell? ⟨w.heap.size+1,7,none⟩=some (R B2 l2 d2)/\w'.cell? ⟨w.heap.size+1,8,none⟩=some (R B3 l3 d3)/\bU X.heap.size X w')
  (first|with_reducible assumption|exact QJ HB1.out (by repeat (first|with_reducible refine AB ?_ _|with_reducible refine Below.drew ?_|with_reducible refine Af ?_ _|with_reducible assumption|with_reducible exact AF _)))
  (first
   |(go_at_call 161;(with_reducible refine(Ri _ _ _ _ _ _ _ _ _ _ _ _ _ _ _ _).mono ?_);rintro e Z ⟨rfl,hb'⟩;have hXZ:=AA (TZ (by assumption)) hb';clear hb')
   |(go_at_call 159;(with_reducible refine(HQ.out _ ?_).mono ?_);(exact AA HE1.out (TZ (by assumption)));rintro e Z ⟨rfl,hb'⟩;have hXZ:=AA (TZ (by assumption)) hb';clear hb')
   |(go_at_call 164;(with_reducible refine(HO.out _ ?_).mono ?_);(exact AA HE1.out (TZ (by assumption)));rintro e Z ⟨rfl,hb'⟩;have hXZ:=AA (TZ (by assumption)) hb';clear hb'))
 all_goals
  have HZ:=Wz (AA HE1.out hXZ);clear hXZ e0 e1 e2 e3 e4 e5 e6 e7 e8 k0 k1 k2 k3 k4 k5 k6 k7 k8 hq;go_wp2;go_ret;exact⟨rfl,HZ.out⟩
theorem Rj(l:List AD)(hl:l.length<=1000)(va vb:bW)(val:Int)(fd:Bool)(w:bT)(h1:AR w va l)(h2:AR w vb l) :
  cC bX 107 #[bZ #[va,U I val,J fd],bZ #[vb,U I val,J fd]] w fun e w'=>e=cB (J true)/\bU w.heap.size w w':=by
 have HR:=Wz (fun(W:bT)(h:bU w.heap.size w W)=>QM l va vb W (h1.ext h) (h2.ext h) hl);obtain⟨A,c,rfl,-⟩:=h1;obtain⟨B,d,rfl,-⟩:=h2;have HE:=Wz (AB (AC w (bV #[R A l.length c,U I val,J fd] 36)) (bV #[R B l.length d,U I val,J fd] 36));have hbb:(fd == fd)=true:=by simp
 go_enter Tryz.func107,Tryz.ntmps107;go_wp2_with fail
 refine(HR.out _ HE.out).mono ?_;rintro e W1 ⟨rfl,hb1⟩;have HE1:=Wz (AA HE.out hb1);clear hb1;go_wp2;go_ret;exact⟨rfl,HE1.out⟩
end
end
section
open Go.RowKit Go.Shelf
attribute [local go_sem ↓] Go.wp_at_zero Go.wp_at_succ
theorem MR(c n:Int)(hn:0<n)(h:Co c):Co (c.tdiv n):=by
 unfold Co at *;rcases Int.le_total 0 c with h0|h0
 ·rw[Int.tdiv_eq_ediv_of_nonneg h0];have h1:=Int.ediv_nonneg h0 (Int.le_of_lt hn);have h2:=Int.ediv_le_self n h0;omega
 have h3:c.tdiv n = -((-c) / n):=by rw[<- Int.tdiv_eq_ediv_of_nonneg (by omega),Int.neg_tdiv,Int.neg_neg]
 have h1:=Int.ediv_nonneg (show 0 <= -c by omega) (Int.le_of_lt hn);have h2:=Int.ediv_le_self n (show 0 <= -c by omega);omega
theorem FD(c n:Int)(hn:0<n)(hn2:n<=1000000000)(hc:Co c):∃ k:Nat,(k:Int)<n/\∀ w:bT,cC bX 28 #[U I c,U I n] w fun e w'=>e=cB (U I (k:Int))/\w=w':=by
 unfold Co at hc;by_cases h0:c<0
 ·have e1:IntKind.i64.wrap (c+1)=c+1:=cE _ (by omega);have e2:IntKind.i64.wrap (-(c+1)) = -(c+1):=cE _ (by omega);have hm:0<=(-(c+1)) % n/\(-(c+1)) % n<n:=⟨Int.emod_nonneg _ (by omega),Int.emod_lt_of_pos _ hn⟩;have hp0:(0:Int) <= -(c+1):=by omega
  obtain⟨k,hk⟩:=Int.eq_ofNat_of_zero_le hm.1;refine⟨k,by rw[<- hk];exact hm.2,fun w=>?_⟩;have HK:=Wz hk;clear hk;go_enter Tryz.func28,Tryz.ntmps28;go_wp2;go_ret;exact⟨by rw[<- HK.out];show Ending.returned (Value.int .i64 (-(c+1).tmod n))=_;rw[<- Int.neg_tmod,Int.tmod_eq_emod_of_nonneg hp0],rfl⟩
 have hm:0<=c % n/\c % n<n:=⟨Int.emod_nonneg _ (by omega),Int.emod_lt_of_pos _ hn⟩;obtain⟨k,hk⟩:=Int.eq_ofNat_of_zero_le hm.1;refine⟨k,by rw[<- hk];exact hm.2,fun w=>?_⟩;have HK:=Wz hk;clear hk;go_enter Tryz.func28,Tryz.ntmps28;go_wp2;go_ret;exact⟨by rw[<- HK.out];rfl,rfl⟩
theorem Nw{X W:bT}{g:Nat}{t:TypeId}{a b c d e:bW}(h:Blk X g t #[a,b,c,d,e])(k:bU X.heap.size X W):W.cell? ⟨g,0,none⟩=some a/\W.cell? ⟨g,1,none⟩=some b/\W.cell? ⟨g,2,none⟩=some c/\W.cell? ⟨g,3,none⟩=some d/\W.cell? ⟨g,4,none⟩=some e/\bU X.heap.size X W:=
 ⟨(h.ext k).cell 0,(h.ext k).cell 1,(h.ext k).cell 2,(h.ext k).cell 3,(h.ext k).cell 4,k⟩
theorem CS{W:bT}{g k:Nat}{t:TypeId}{cs:Array bW}(h:Blk W k t cs)(hn:k≠g)(i:Nat)(v:bW):Blk (W.setCell ⟨g,i,none⟩ v) k t cs:=by
 unfold Blk at *;rw[Below.heap_setCell _ _ _ _ hn];exact h
theorem DP{W:bT}{g:Nat}{ty:TypeId}{a0 a1 a2 a3 a4 a5 a6 u0 u1 u2 u3 u4 u5 u6:bW}(h:Blk W g ty #[a0,a1,a2,a3,a4,a5,a6]):Blk (bS (bS (bS (bS (bS (bS (bS W ⟨g,0,none⟩ u0) ⟨g,1,none⟩ u1) ⟨g,2,none⟩ u2) ⟨g,3,none⟩ u3) ⟨g,4,none⟩ u4) ⟨g,5,none⟩ u5) ⟨g,6,none⟩ u6) g ty #[u0,u1,u2,u3,u4,u5,u6]:=by
 have h9:=((((((h.set_ 0 u0).set_ 1 u1).set_ 2 u2).set_ 3 u3).set_ 4 u4).set_ 5 u5).set_ 6 u6;simpa using h9
theorem DQ:(Tryz.prog.info? 33).map (·.size)=some 7:=by kernel_rfl
set_option maxHeartbeats 8000000 in
theorem U3(x0 x1 x2 x3 x4:Int)(i0:Co x0)(i1:Co x1)(i2:Co x2)(i3:Co x3)(i4:Co x4):∃(kd t lo hi o:Int) (j b:Nat),BU.Ok ⟨kd,t,(j:Int),lo,hi,(b:Int),o⟩ /\
  ∀ w:bT,cC bX 10 #[bZ #[U I x0,U I x1,U I x2,U I x3,U I x4]] w fun e w'=>e=cB (bZ #[U I kd,U I t,U I (j:Int),U I lo,U I hi,U I (b:Int),U I o])/\bU w.heap.size w w':=by
 have j0:=MR x0 7 (by omega) i0;have j1:=MR x1 9 (by omega) i1;have j2:=MR x4 3 (by omega) i4;have j3:=MR x4 9 (by omega) i4;obtain⟨k0,hb_k0,hp_k0⟩:=FD x0 7 (by omega) (by omega) i0;have HP_k0:=Wz hp_k0;obtain⟨t0,hb_t0,hp_t0⟩:=FD (x0.tdiv 7) 3 (by omega) (by omega) j0;have HP_t0:=Wz hp_t0;obtain⟨r0,hb_r0,hp_r0⟩:=FD x1 9 (by omega) (by omega) i1;have HP_r0:=Wz hp_r0;obtain⟨c0,hb_c0,hp_c0⟩:=FD (x1.tdiv 9) 4 (by omega) (by omega) j1;have HP_c0:=Wz hp_c0;obtain⟨l0,hb_l0,hp_l0⟩:=FD x2 14 (by omega) (by omega) i2;have HP_l0:=Wz hp_l0;obtain⟨h0,hb_h0,hp_h0⟩:=FD x3 14 (by omega) (by omega) i3;have HP_h0:=Wz hp_h0;obtain⟨b0,hb_b0,hp_b0⟩:=FD x4 3 (by omega) (by omega) i4;have HP_b0:=Wz hp_b0;obtain⟨o0,hb_o0,hp_o0⟩:=FD (x4.tdiv 3) 3 (by omega) (by omega) j2;have HP_o0:=Wz hp_o0;obtain⟨g0,hb_g0,hp_g0⟩:=FD (x4.tdiv 9) 3 (by omega) (by omega) j3;have HP_g0:=Wz hp_g0;clear hp_k0 hp_t0 hp_r0 hp_c0 hp_l0 hp_h0 hp_b0 hp_o0 hp_g0;have w0:IntKind.i64.wrap (x0.tdiv 7)=x0.tdiv 7:=cE _ (by unfold Co at j0;omega);have w1:IntKind.i64.wrap (x1.tdiv 9)=x1.tdiv 9:=cE _ (by unfold Co at j1;omega);have w2:IntKind.i64.wrap (x4.tdiv 3)=x4.tdiv 3:=cE _ (by unfold Co at j2;omega);have w3:IntKind.i64.wrap (x4.tdiv 9)=x4.tdiv 9:=cE _ (by unfold Co at j3;omega);obtain⟨kd,h_kd⟩:∃ v:Int,v=1+(k0:Int):=⟨_,rfl⟩;have v_kd:IntKind.i64.wrap (1+(k0:Int))=kd:=by rw[cE _ (by omega),h_kd]
 obtain⟨kr,h_kr⟩:∃ v:Int,v=1+(r0:Int):=⟨_,rfl⟩;have v_kr:IntKind.i64.wrap (1+(r0:Int))=kr:=by rw[cE _ (by omega),h_kr]
 obtain⟨lo,h_lo⟩:∃ v:Int,v=(l0:Int)-2:=⟨_,rfl⟩;have v_lo:IntKind.i64.wrap ((l0:Int)-2)=lo:=by rw[cE _ (by omega),h_lo]
 obtain⟨hi,h_hi⟩:∃ v:Int,v=lo+(h0:Int):=⟨_,rfl⟩;have v_hi:IntKind.i64.wrap (lo+(h0:Int))=hi:=by rw[cE _ (by omega),h_hi]
 obtain⟨lm,h_lm⟩:∃ v:Int,v=lo*3:=⟨_,rfl⟩;have v_lm:IntKind.i64.wrap (lo*3)=lm:=by rw[cE _ (by omega),h_lm]
 obtain⟨hm,h_hm⟩:∃ v:Int,v=hi*3:=⟨_,rfl⟩;have v_hm:IntKind.i64.wrap (hi*3)=hm:=by rw[cE _ (by omega),h_hm]
 obtain⟨l3,h_l3⟩:∃ v:Int,v=lm-20:=⟨_,rfl⟩;have v_l3:IntKind.i64.wrap (lm-20)=l3:=by rw[cE _ (by omega),h_l3]
 obtain⟨h3,h_h3⟩:∃ v:Int,v=hm-20:=⟨_,rfl⟩;have v_h3:IntKind.i64.wrap (hm-20)=h3:=by rw[cE _ (by omega),h_h3]
 obtain⟨kb,h_kb⟩:∃ v:Int,v=1+(b0:Int):=⟨_,rfl⟩;have v_kb:IntKind.i64.wrap (1+(b0:Int))=kb:=by rw[cE _ (by omega),h_kb]
 refine⟨kd,(t0:Int),if kd=1 then kr else if c0=3 then l3 else lo,if kd=1 then kr else if c0=3 then h3 else hi,if kd=7 then(o0:Int)else 0,if kd=1 then 0 else c0,if kd<4 then 0 else if kd=7/\0<g0 then 2 else 1+b0,?_,fun w=>?_⟩
 ·refine⟨by dsimp only;omega,by dsimp only;split <;> omega,by dsimp only;(repeat' split) <;> omega,by dsimp only;(repeat' split) <;> omega,by dsimp only;(repeat' split) <;> omega,?_⟩;have hk:kd=1∨kd=2∨kd=3∨kd=4∨kd=5∨kd=6∨kd=7:=by omega
  rcases hk with h|h|h|h|h|h|h
  all_goals
   rw[h];simp only[Int.reduceEq,Int.reduceLT,if_true,if_false,false_and,true_and]
  ·exact .row _ _ (by omega) (by omega)
  ·exact .range _ _ _ _
  ·exact .count _ _ _ _
  ·exact .sum _ _ _ _ _ (by omega) (by omega)
  ·exact .min _ _ _ _ _ (by omega) (by omega)
  ·exact .max _ _ _ _ _ (by omega) (by omega)
  exact .join _ _ _ _ _ _ (by split <;> omega) (by split <;> omega) (by omega) (by omega)
 have hcl:kd=1∨(2<=kd/\kd<=3)∨(4<=kd/\kd<=6)∨kd=7:=by omega
 have HB:=Wz (show(0:Int)<=g0/\c0<4 by omega);have h_kb':((1+b0:Nat):Int)=kb:=by omega
 clear i0 i1 i2 i3 i4 j0 j1 j2 j3 h_kd h_kr h_lo h_hi h_lm h_hm h_l3 h_h3 h_kb;obtain⟨W0,hW0⟩:∃ W0,W0=(w.alloc (bV #[U I x0,U I x1,U I x2,U I x3,U I x4] 24)).alloc (bV #[U I 0,U I 0,U I 0,U I 0,U I 0,U I 0,U I 0] 33):=⟨_,rfl⟩;have HE0:=Wz (show bU w.heap.size w W0 by rw[hW0];exact AB (AC _ _) _);have HX0:=Wz (show Blk W0 w.heap.size 24 #[U I x0,U I x1,U I x2,U I x3,U I x4]by rw[hW0];exact(Blk.new _ _ _).alloc _);have HR0:=Wz (show Blk W0 (w.heap.size+1) 33 #[U I 0,U I 0,U I 0,U I 0,U I 0,U I 0,U I 0]by rw[hW0];exact Blk.new' _ _ _ (by simp));have HW0:=Wz hW0;clear hW0;go_enter Tryz.func10,Tryz.ntmps10;go_wp2_with fail
 rw[<- HW0.out];have HK:=Wz (Nw HX0.out (AF W0));obtain⟨a0,a1,a2,a3,a4,-⟩:=HK.out;go_upto_region 1 with(fail)
 refine(fun(HS:Go.RowKit.Hid ?TT)=>?leaf) (Wz ?rest)
 case leaf=>
  go_region_held3 (fun w'=>w'.cell? ⟨w.heap.size,0,none⟩=some (U I x0)/\w'.cell? ⟨w.heap.size,1,none⟩=some (U I x1)/\w'.cell? ⟨w.heap.size,2,none⟩=some (U I x2)/\w'.cell? ⟨w.heap.size,3,none⟩=some (U I x3)/\w'.cell? ⟨w.heap.size,4,none⟩=some (U I x4)/\bU W0.heap.size W0 w')
   (first|with_reducible assumption|exact Nw HX0.out (by repeat (first|with_reducible refine AB ?_ _|with_reducible refine Below.drew ?_|with_reducible assumption|with_reducible exact AF _|refine AE ?_ (Nat.le_refl _) _)))
   (first
    |(go_at_call 28;(with_reducible refine(HP_k0.out _).mono ?_);rintro e w' ⟨rfl,hw'⟩;subst w')
    |(go_at_call 28;(with_reducible refine(HP_t0.out _).mono ?_);rintro e w' ⟨rfl,hw'⟩;subst w'))
  all_goals exact HS.out
 case rest=>
  obtain⟨V,hV⟩:∃ V,V=(W0.alloc (bV #[U I kd,U I (t0:Int),U I 0,U I 0,U I 0,U I 0,U I 0] 33)).drew:=⟨_,rfl⟩;have hEV:bU W0.heap.size W0 V:=by rw[hV];exact(AC _ _).drew
  have hQ:Blk V W0.heap.size 33 #[U I kd,U I (t0:Int),U I 0,U I 0,U I 0,U I 0,U I 0]:=by rw[hV];exact(Blk.new _ _ _).drew
  rw[<- hV];have hX:=HX0.out.ext hEV;have hR:=HR0.out.ext hEV;have n1:w.heap.size≠W0.heap.size:=by have:=HX0.out.lt;omega
  have n2:w.heap.size+1≠W0.heap.size:=by have:=HR0.out.lt;omega
  have n3:=n1.symm;have n4:=n2.symm;have nl:w.heap.size<=W0.heap.size:=HE0.out.size;have HEV:=Wz (AA HE0.out hEV);clear hV hEV HX0 HR0 HE0 HW0 HK a0 a1 a2 a3 a4 HP_k0 HP_t0;generalize W0.heap.size=gq at *;have q0:=hQ.cell 0;have q1:=hQ.cell 1;have q2:=hQ.cell 2;have q3:=hQ.cell 3;have q4:=hQ.cell 4;have q5:=hQ.cell 5;have q6:=hQ.cell 6;have r_0:=hR.cell 0;have r_1:=hR.cell 1;have r_2:=hR.cell 2;have r_3:=hR.cell 3;have r_4:=hR.cell 4;have r_5:=hR.cell 5;have r_6:=hR.cell 6;have a0:=hX.cell 0;have a1:=hX.cell 1;have a2:=hX.cell 2;have a3:=hX.cell 3;have a4:=hX.cell 4;have fq:=fun i=>hQ.frozen i;have fr:=fun i=>hR.frozen i;have HRR:=Wz hR;have HXQ:=Wz hX;have HQQ:=Wz hQ;clear hQ hR hX;have hcl2:kd=1∨2<=kd:=by omega
  rcases hcl2 with h|h2
  ·subst h;go_wp2_with (go_at_call 28;(with_reducible refine(HP_r0.out _).mono ?_);rintro e w' ⟨rfl,hw'⟩;subst w')
   refine bodyPost_ret (results_cell_row Tryz.results10 _ _ (w.heap.size+1) 33 _ (0,0) _ rfl (DP (by repeat (first|with_reducible exact HRR.out|with_reducible refine CS ?_ n2 _ _|with_reducible refine Blk.drew ?_))) Tryz.underlying33 rfl DQ) rfl ⟨?_,by repeat (first|with_reducible exact HEV.out|refine AE ?_ (by first|omega|(simp only[];omega)|exact Nat.le_succ _|exact nl) _|with_reducible refine Below.drew ?_)⟩;rfl
  have z1:(kd == (1:Int))=false:=by rw[beq_eq_false_iff_ne];omega
  go_wp2_with (first|(go_at_call 28;(with_reducible refine(HP_c0.out _).mono ?_);rintro e w' ⟨rfl,hw'⟩;subst w')|(go_at_call 28;(with_reducible refine(HP_l0.out _).mono ?_);rintro e w' ⟨rfl,hw'⟩;subst w'))
  refine(fun(HS:Go.RowKit.Hid ?TU)=>?leafB) (Wz ?restB)
  case leafB=>
   go_region_with (go_at_call 28;(with_reducible refine(HP_h0.out _).mono ?_);rintro e w' ⟨rfl,hw'⟩;subst w')
   all_goals exact HS.out
  have hQ8:Blk ((((V.setCell ⟨gq,2,none⟩ (U I (c0:Int))).setCell ⟨gq,3,none⟩ (U I lo)).setCell ⟨gq,4,none⟩ (U I hi)).drew) gq 33 #[U I kd,U I (t0:Int),U I (c0:Int),U I lo,U I hi,U I 0,U I 0]:=by
   have h9:=(((HQQ.out.set_ 2 (U I (c0:Int))).set_ 3 (U I lo)).set_ 4 (U I hi)).drew;simpa using h9
  have hR8:Blk ((((V.setCell ⟨gq,2,none⟩ (U I (c0:Int))).setCell ⟨gq,3,none⟩ (U I lo)).setCell ⟨gq,4,none⟩ (U I hi)).drew) (w.heap.size+1) 33 #[U I 0,U I 0,U I 0,U I 0,U I 0,U I 0,U I 0]:=by
   repeat (first|with_reducible exact HRR.out|with_reducible refine CS ?_ n2 _ _|with_reducible refine Blk.drew ?_)
  have hX8:Blk ((((V.setCell ⟨gq,2,none⟩ (U I (c0:Int))).setCell ⟨gq,3,none⟩ (U I lo)).setCell ⟨gq,4,none⟩ (U I hi)).drew) w.heap.size 24 #[U I x0,U I x1,U I x2,U I x3,U I x4]:=by
   repeat (first|with_reducible exact HXQ.out|with_reducible refine CS ?_ n1 _ _|with_reducible refine Blk.drew ?_)
  have hE8:bU w.heap.size w ((((V.setCell ⟨gq,2,none⟩ (U I (c0:Int))).setCell ⟨gq,3,none⟩ (U I lo)).setCell ⟨gq,4,none⟩ (U I hi)).drew):=by
   repeat (first|with_reducible exact HEV.out|refine AE ?_ nl _|with_reducible refine Below.drew ?_)
  generalize ((((V.setCell ⟨gq,2,none⟩ (U I (c0:Int))).setCell ⟨gq,3,none⟩ (U I lo)).setCell ⟨gq,4,none⟩ (U I hi)).drew)=V8 at *;clear HEV HRR HXQ HQQ fq fr q0 q1 q2 q3 q4 q5 q6 r_0 r_1 r_2 r_3 r_4 r_5 r_6 a0 a1 a2 a3 a4;have HEV:=Wz hE8;have HRR:=Wz hR8;clear hE8;have q0:=hQ8.cell 0;have q1:=hQ8.cell 1;have q2:=hQ8.cell 2;have q3:=hQ8.cell 3;have q4:=hQ8.cell 4;have q5:=hQ8.cell 5;have q6:=hQ8.cell 6;have r_0:=hR8.cell 0;have r_1:=hR8.cell 1;have r_2:=hR8.cell 2;have r_3:=hR8.cell 3;have r_4:=hR8.cell 4;have r_5:=hR8.cell 5;have r_6:=hR8.cell 6;have a0:=hX8.cell 0;have a1:=hX8.cell 1;have a2:=hX8.cell 2;have a3:=hX8.cell 3;have a4:=hX8.cell 4;have fq:=fun i=>hQ8.frozen i;have fr:=fun i=>hR8.frozen i;have HQ8:=Wz hQ8;have HX8:=Wz hX8;clear hQ8 hR8 hX8;replace hcl:(2<=kd/\kd<=3)∨(4<=kd/\kd<=6)∨kd=7:=by omega
  rcases hcl with h|h|h
  ·have z4:decide (4<=kd)=false:=decide_eq_false (by omega);have z7:(kd == (7:Int))=false:=by rw[beq_eq_false_iff_ne];omega
   by_cases hc:c0=3
   ·have zc:((c0:Int) == (3:Int))=true:=by rw[beq_iff_eq];omega
    go_wp2_with fail
    refine bodyPost_ret (results_cell_row Tryz.results10 _ _ (w.heap.size+1) 33 _ (0,0) _ rfl (DP (by repeat (first|with_reducible exact HRR.out|with_reducible refine CS ?_ n2 _ _|with_reducible refine Blk.drew ?_))) Tryz.underlying33 rfl DQ) rfl ⟨?_,by repeat (first|with_reducible exact HEV.out|refine AE ?_ (by first|omega|(simp only[];omega)|exact Nat.le_succ _|exact nl) _|with_reducible refine Below.drew ?_)⟩;simp only[if_neg (show ¬ kd=1 by omega),if_pos hc,if_neg (show ¬ kd=7 by omega),if_pos (show kd<4 by omega)]
   have zc:((c0:Int) == (3:Int))=false:=by rw[beq_eq_false_iff_ne];omega
   go_wp2_with fail
   refine bodyPost_ret (results_cell_row Tryz.results10 _ _ (w.heap.size+1) 33 _ (0,0) _ rfl (DP (by repeat (first|with_reducible exact HRR.out|with_reducible refine CS ?_ n2 _ _|with_reducible refine Blk.drew ?_))) Tryz.underlying33 rfl DQ) rfl ⟨?_,by repeat (first|with_reducible exact HEV.out|refine AE ?_ (by first|omega|(simp only[];omega)|exact Nat.le_succ _|exact nl) _|with_reducible refine Below.drew ?_)⟩;simp only[if_neg (show ¬ kd=1 by omega),if_neg hc,if_neg (show ¬ kd=7 by omega),if_pos (show kd<4 by omega)]
  ·have z4:decide (4<=kd)=true:=decide_eq_true (by omega);have z7:(kd == (7:Int))=false:=by rw[beq_eq_false_iff_ne];omega
   by_cases hc:c0=3
   ·have zc:((c0:Int) == (3:Int))=true:=by rw[beq_iff_eq];omega
    go_wp2_with (go_at_call 28;(with_reducible refine(HP_b0.out _).mono ?_);rintro e w' ⟨rfl,hw'⟩;subst w')
    refine bodyPost_ret (results_cell_row Tryz.results10 _ _ (w.heap.size+1) 33 _ (0,0) _ rfl (DP (by repeat (first|with_reducible exact HRR.out|with_reducible refine CS ?_ n2 _ _|with_reducible refine Blk.drew ?_))) Tryz.underlying33 rfl DQ) rfl ⟨?_,by repeat (first|with_reducible exact HEV.out|refine AE ?_ (by first|omega|(simp only[];omega)|exact Nat.le_succ _|exact nl) _|with_reducible refine Below.drew ?_)⟩;simp only[if_neg (show ¬ kd=1 by omega),if_pos hc,if_neg (show ¬ kd=7 by omega),if_neg (show ¬ kd<4 by omega),if_neg (show ¬ (kd=7/\0<g0)from fun k=>by omega),h_kb']
   have zc:((c0:Int) == (3:Int))=false:=by rw[beq_eq_false_iff_ne];omega
   go_wp2_with (go_at_call 28;(with_reducible refine(HP_b0.out _).mono ?_);rintro e w' ⟨rfl,hw'⟩;subst w')
   refine bodyPost_ret (results_cell_row Tryz.results10 _ _ (w.heap.size+1) 33 _ (0,0) _ rfl (DP (by repeat (first|with_reducible exact HRR.out|with_reducible refine CS ?_ n2 _ _|with_reducible refine Blk.drew ?_))) Tryz.underlying33 rfl DQ) rfl ⟨?_,by repeat (first|with_reducible exact HEV.out|refine AE ?_ (by first|omega|(simp only[];omega)|exact Nat.le_succ _|exact nl) _|with_reducible refine Below.drew ?_)⟩;simp only[if_neg (show ¬ kd=1 by omega),if_neg hc,if_neg (show ¬ kd=7 by omega),if_neg (show ¬ kd<4 by omega),if_neg (show ¬ (kd=7/\0<g0)from fun k=>by omega),h_kb']
  subst h;clear z1 h2;obtain⟨gz,hgz⟩:∃ gz:Int,gz=(g0:Int):=⟨_,rfl⟩;rw[<- hgz]at HP_g0;by_cases hc:c0=3
  ·have zc:((c0:Int) == (3:Int))=true:=by rw[beq_iff_eq];omega
   go_upto_if 65 with(go_at_call 28;(with_reducible refine(HP_b0.out _).mono ?_);rintro e w' ⟨rfl,hw'⟩;subst w')
   have hQ9:Blk (((V8.setCell ⟨gq,3,none⟩ (U I l3)).setCell ⟨gq,4,none⟩ (U I h3)).setCell ⟨gq,5,none⟩ (U I kb)) gq 33 #[U I 7,U I (t0:Int),U I (c0:Int),U I l3,U I h3,U I kb,U I 0]:=by
    have h9:=(((HQ8.out.set_ 3 (U I l3)).set_ 4 (U I h3)).set_ 5 (U I kb));simpa using h9
   have hR9:Blk (((V8.setCell ⟨gq,3,none⟩ (U I l3)).setCell ⟨gq,4,none⟩ (U I h3)).setCell ⟨gq,5,none⟩ (U I kb)) (w.heap.size+1) 33 #[U I 0,U I 0,U I 0,U I 0,U I 0,U I 0,U I 0]:=by
    repeat (first|with_reducible exact HRR.out|with_reducible refine CS ?_ n2 _ _)
   have hX9:Blk (((V8.setCell ⟨gq,3,none⟩ (U I l3)).setCell ⟨gq,4,none⟩ (U I h3)).setCell ⟨gq,5,none⟩ (U I kb)) w.heap.size 24 #[U I x0,U I x1,U I x2,U I x3,U I x4]:=by
    repeat (first|with_reducible exact HX8.out|with_reducible refine CS ?_ n1 _ _)
   have hE9:bU w.heap.size w (((V8.setCell ⟨gq,3,none⟩ (U I l3)).setCell ⟨gq,4,none⟩ (U I h3)).setCell ⟨gq,5,none⟩ (U I kb)):=by
    repeat (first|with_reducible exact HEV.out|refine AE ?_ nl _)
   generalize (((V8.setCell ⟨gq,3,none⟩ (U I l3)).setCell ⟨gq,4,none⟩ (U I h3)).setCell ⟨gq,5,none⟩ (U I kb))=V9 at *;clear HEV HRR HX8 HQ8 fq fr q0 q1 q2 q3 q4 q5 q6 r_0 r_1 r_2 r_3 r_4 r_5 r_6 a0 a1 a2 a3 a4;have HEV:=Wz hE9;have HRR:=Wz hR9;clear hE9;have q0:=hQ9.cell 0;have q1:=hQ9.cell 1;have q2:=hQ9.cell 2;have q3:=hQ9.cell 3;have q4:=hQ9.cell 4;have q5:=hQ9.cell 5;have q6:=hQ9.cell 6;have r_0:=hR9.cell 0;have r_1:=hR9.cell 1;have r_2:=hR9.cell 2;have r_3:=hR9.cell 3;have r_4:=hR9.cell 4;have r_5:=hR9.cell 5;have r_6:=hR9.cell 6;have a0:=hX9.cell 0;have a1:=hX9.cell 1;have a2:=hX9.cell 2;have a3:=hX9.cell 3;have a4:=hX9.cell 4;have fq:=fun i=>hQ9.frozen i;have fr:=fun i=>hR9.frozen i;clear hQ9 hR9 hX9;by_cases hg:0<g0
   ·have zg:decide ((0:Int)<gz)=true:=decide_eq_true (by omega);have zg2:0<gz:=by omega
    clear hgz;go_wp2_with (first|(go_at_call 28;(with_reducible refine(HP_o0.out _).mono ?_);rintro e w' ⟨rfl,hw'⟩;subst w')|(go_at_call 28;(with_reducible refine(HP_g0.out _).mono ?_);rintro e w' ⟨rfl,hw'⟩;subst w'))
    refine bodyPost_ret (results_cell_row Tryz.results10 _ _ (w.heap.size+1) 33 _ (0,0) _ rfl (DP (by repeat (first|with_reducible exact HRR.out|with_reducible refine CS ?_ n2 _ _|with_reducible refine Blk.drew ?_))) Tryz.underlying33 rfl DQ) rfl ⟨?_,by repeat (first|with_reducible exact HEV.out|refine AE ?_ (by first|omega|(simp only[];omega)|exact Nat.le_succ _|exact nl) _|with_reducible refine Below.drew ?_)⟩
    first|simp[hc,hg]|simp[hc,hg,h_kb']|simp only[if_neg (show ¬ (7:Int)=1 by omega),if_pos hc,if_pos (show(7:Int)=7 from rfl),if_neg (show ¬ (7:Int)<4 by omega),if_pos (show(7:Int)=7/\0<g0 from⟨rfl,hg⟩)]
   have zg:decide ((0:Int)<gz)=false:=decide_eq_false (by omega);have zg2:¬ 0<gz:=by omega
   clear hgz;go_wp2_with (first|(go_at_call 28;(with_reducible refine(HP_o0.out _).mono ?_);rintro e w' ⟨rfl,hw'⟩;subst w')|(go_at_call 28;(with_reducible refine(HP_g0.out _).mono ?_);rintro e w' ⟨rfl,hw'⟩;subst w'))
   refine bodyPost_ret (results_cell_row Tryz.results10 _ _ (w.heap.size+1) 33 _ (0,0) _ rfl (DP (by repeat (first|with_reducible exact HRR.out|with_reducible refine CS ?_ n2 _ _|with_reducible refine Blk.drew ?_))) Tryz.underlying33 rfl DQ) rfl ⟨?_,by repeat (first|with_reducible exact HEV.out|refine AE ?_ (by first|omega|(simp only[];omega)|exact Nat.le_succ _|exact nl) _|with_reducible refine Below.drew ?_)⟩
   first|simp[hc,hg]|simp[hc,hg,h_kb']|simp only[if_neg (show ¬ (7:Int)=1 by omega),if_pos hc,if_pos (show(7:Int)=7 from rfl),if_neg (show ¬ (7:Int)<4 by omega),if_neg (show ¬ ((7:Int)=7/\0<g0)from fun k=>hg k.2)]
  have zc:((c0:Int) == (3:Int))=false:=by rw[beq_eq_false_iff_ne];omega
  go_upto_if 65 with(go_at_call 28;(with_reducible refine(HP_b0.out _).mono ?_);rintro e w' ⟨rfl,hw'⟩;subst w')
  have hQ9:Blk (V8.setCell ⟨gq,5,none⟩ (U I kb)) gq 33 #[U I 7,U I (t0:Int),U I (c0:Int),U I lo,U I hi,U I kb,U I 0]:=by
   have h9:=(HQ8.out.set_ 5 (U I kb));simpa using h9
  have hR9:Blk (V8.setCell ⟨gq,5,none⟩ (U I kb)) (w.heap.size+1) 33 #[U I 0,U I 0,U I 0,U I 0,U I 0,U I 0,U I 0]:=by
   repeat (first|with_reducible exact HRR.out|with_reducible refine CS ?_ n2 _ _)
  have hX9:Blk (V8.setCell ⟨gq,5,none⟩ (U I kb)) w.heap.size 24 #[U I x0,U I x1,U I x2,U I x3,U I x4]:=by
   repeat (first|with_reducible exact HX8.out|with_reducible refine CS ?_ n1 _ _)
  have hE9:bU w.heap.size w (V8.setCell ⟨gq,5,none⟩ (U I kb)):=by
   repeat (first|with_reducible exact HEV.out|refine AE ?_ nl _)
  generalize (V8.setCell ⟨gq,5,none⟩ (U I kb))=V9 at *;clear HEV HRR HX8 HQ8 fq fr q0 q1 q2 q3 q4 q5 q6 r_0 r_1 r_2 r_3 r_4 r_5 r_6 a0 a1 a2 a3 a4;have HEV:=Wz hE9;have HRR:=Wz hR9;clear hE9;have q0:=hQ9.cell 0;have q1:=hQ9.cell 1;have q2:=hQ9.cell 2;have q3:=hQ9.cell 3;have q4:=hQ9.cell 4;have q5:=hQ9.cell 5;have q6:=hQ9.cell 6;have r_0:=hR9.cell 0;have r_1:=hR9.cell 1;have r_2:=hR9.cell 2;have r_3:=hR9.cell 3;have r_4:=hR9.cell 4;have r_5:=hR9.cell 5;have r_6:=hR9.cell 6;have a0:=hX9.cell 0;have a1:=hX9.cell 1;have a2:=hX9.cell 2;have a3:=hX9.cell 3;have a4:=hX9.cell 4;have fq:=fun i=>hQ9.frozen i;have fr:=fun i=>hR9.frozen i;clear hQ9 hR9 hX9;by_cases hg:0<g0
  ·have zg:decide ((0:Int)<gz)=true:=decide_eq_true (by omega);have zg2:0<gz:=by omega
   clear hgz;go_wp2_with (first|(go_at_call 28;(with_reducible refine(HP_o0.out _).mono ?_);rintro e w' ⟨rfl,hw'⟩;subst w')|(go_at_call 28;(with_reducible refine(HP_g0.out _).mono ?_);rintro e w' ⟨rfl,hw'⟩;subst w'))
   refine bodyPost_ret (results_cell_row Tryz.results10 _ _ (w.heap.size+1) 33 _ (0,0) _ rfl (DP (by repeat (first|with_reducible exact HRR.out|with_reducible refine CS ?_ n2 _ _|with_reducible refine Blk.drew ?_))) Tryz.underlying33 rfl DQ) rfl ⟨?_,by repeat (first|with_reducible exact HEV.out|refine AE ?_ (by first|omega|(simp only[];omega)|exact Nat.le_succ _|exact nl) _|with_reducible refine Below.drew ?_)⟩
   first|simp[hc,hg]|simp[hc,hg,h_kb']|simp only[if_neg (show ¬ (7:Int)=1 by omega),if_neg hc,if_pos (show(7:Int)=7 from rfl),if_neg (show ¬ (7:Int)<4 by omega),if_pos (show(7:Int)=7/\0<g0 from⟨rfl,hg⟩)]
  have zg:decide ((0:Int)<gz)=false:=decide_eq_false (by omega);have zg2:¬ 0<gz:=by omega
  clear hgz;go_wp2_with (first|(go_at_call 28;(with_reducible refine(HP_o0.out _).mono ?_);rintro e w' ⟨rfl,hw'⟩;subst w')|(go_at_call 28;(with_reducible refine(HP_g0.out _).mono ?_);rintro e w' ⟨rfl,hw'⟩;subst w'))
  refine bodyPost_ret (results_cell_row Tryz.results10 _ _ (w.heap.size+1) 33 _ (0,0) _ rfl (DP (by repeat (first|with_reducible exact HRR.out|with_reducible refine CS ?_ n2 _ _|with_reducible refine Blk.drew ?_))) Tryz.underlying33 rfl DQ) rfl ⟨?_,by repeat (first|with_reducible exact HEV.out|refine AE ?_ (by first|omega|(simp only[];omega)|exact Nat.le_succ _|exact nl) _|with_reducible refine Below.drew ?_)⟩
  first|simp[hc,hg]|simp[hc,hg,h_kb']|simp only[if_neg (show ¬ (7:Int)=1 by omega),if_neg hc,if_pos (show(7:Int)=7 from rfl),if_neg (show ¬ (7:Int)<4 by omega),if_neg (show ¬ ((7:Int)=7/\0<g0)from fun k=>hg k.2)]
end
end Go.Proofs.YtimoapjhepmehaaGreatDoor
