/- Part 13: contracts that the last part uses. -/
import Derived.Test.YtimoapjhepmehaaGreatDoorJ11
import Derived.BigQuiet
import Derived.Test.YtimoapjhepmehaaGreatDoorJ12
set_option linter.unusedSimpArgs false
set_option linter.unusedVariables false
set_option maxHeartbeats 4000000
set_option maxRecDepth 100000
namespace Go.Proofs.YtimoapjhepmehaaGreatDoor
open Go.IntKind renaming i64->I
open Go.Value renaming int->U,bool->J,slice->YK,agg->YM
open Go renaming World->R,Value->YJ
open Go.Obj renaming cells->YI
open Go.RowKit renaming Below->YL
open Tryz renaming prog->YN
open Go.IntWalk renaming i64_in->YP
open List renaming getElem?_eq_getElem->YQ
section
open Go.RowKit Go.Shelf
attribute [local go_sem ↓] Dv FZ Dd FY
end
section
open Go.RowKit Go.Shelf
end
section
open Go.RowKit Go.Shelf
attribute [local go_sem ↓] Go.wp_at_zero Go.wp_at_succ
attribute [local go_sem ↓] Dd FY Fx Lx
end
section
open Go.RowKit Go.Shelf
attribute [local go_sem ↓] Dv FZ
end
section
open Go.RowKit Go.Shelf
attribute [local go_sem ↓] Dv FZ
end
section
open Go.RowKit Go.Shelf
theorem So{W W':R}{S:Nat->Prop}{base n sz:Nat}{e:TypeId}{v:YJ}{xs:List YJ}(h:W.ownsRow base e sz v n xs)(k:AS S W W')(hn:∀(g:Nat) (cs:Array YJ),Blk W g e cs->¬ S g):W'.ownsRow base e sz v n xs:=by
 refine⟨h.1,?_⟩;rcases h.2 with hn'|⟨g,cap,cur,h1,h2,h3,h4⟩
 ·exact .inl hn'
 exact .inr ⟨g,cap,cur,h1,h2,(k.block g (Array.getElem?_eq_some_iff.1 h3).1 (hn g cur h3)).trans h3,h4⟩
end
section
open Go.RowKit Go.Shelf
attribute [local go_sem ↓] Dv FZ Dd FY Go.wp_at_zero Go.wp_at_succ
end
section
open Go.RowKit Go.Shelf
abbrev nc(os:List Nat):List YJ:=os.map fun n:Nat=>Value.int .i64 (n:Int)
theorem M8{W W':R}{g b n sz:Nat}{e t:TypeId}{v:YJ}{xs:List YJ}{cs:Array YJ}(h:W.ownsRow b e sz v n xs)(k:Ah g g W W')(hg:Blk W g t cs)(ht:t≠e):W'.ownsRow b e sz v n xs:=
 So h (S:=fun j=>j=g) (AS.of_ext2 k rfl rfl) (fun g' cs' h' e'=>by subst e';exact Fb hg h' ht rfl)
theorem Ex{W:R}{b n sz:Nat}{e:TypeId}{v:YJ}{xs:List YJ}(h:W.ownsRow b e sz v n xs)(h0:0<n):∃ g cap cur,v=YK (some ⟨g,0,none⟩) n cap/\b<=g/\Blk W g e cur:=by
 rcases h.2 with⟨_,h1⟩|⟨g,cap,cur,h1,h2,h3,_⟩
 ·omega
 exact⟨g,cap,cur,h1,h2,h3⟩
end
section
open Go.RowKit
attribute [local go_sem ↓] AQ AU Go.wp_at_zero Go.wp_at_succ
theorem UV(W:R)(base:Nat)(hb:base<=W.heap.size)(v:YJ)(n:Nat)(xs:List YJ)(hown:W.ownsRow base 3 1 v n xs)(hn:n<=3)(b off:Nat)(x y z:Int)(h0:W.cell? ⟨b,off,none⟩=some (U I x))(h1:W.cell? ⟨b,off+1,none⟩=some (U I y))(h2:W.cell? ⟨b,off+2,none⟩=some (U I z)) :
  CU YN W 46 46 v (YK (some ⟨b,off,none⟩) 3 3)/\(appW YN W 46 46 v (YK (some ⟨b,off,none⟩) 3 3)).ownsRow base 3 1 (CV YN W 46 46 v (YK (some ⟨b,off,none⟩) 3 3)) (n+3) (xs++[U I x,U I y,U I z])/\W.grownBy (appW YN W 46 46 v (YK (some ⟨b,off,none⟩) 3 3)) v.ownBlock:=by
 obtain⟨ii,hii,hzi0,hzi1,hzi2⟩:=info_parts Kl;refine Du (P:=YN) (w:=W) base 46 46 3 ii (U I 0) 1 8 Tryz.underlying46 hii hzi0 hzi1 hzi2 rfl (by decide) v n xs hown ⟨b,off,none⟩ 3 3 [U I x,U I y,U I z] rfl (fun j u hj=>?_) (by simp[Value.oneCell']) (by unfold maxLen;omega) (by omega) hb
 match j,hj with
 | 0,hj=>simp at hj;subst hj;simpa[Addr.add]using h0
 | 1,hj=>simp at hj;subst hj;simpa[Addr.add]using h1
 | 2,hj=>simp at hj;subst hj;simpa[Addr.add]using h2
theorem Jb{W:R}{base n:Nat}{v:YJ}{l:List Int}(h:W.ownsRow base 3 1 v n (l.map (Value.int .i64)))(h0:0<n):∃ g c,v=YK (some ⟨g,0,none⟩) n c/\g<W.heap.size/\Cd W g 0 l:=by
 obtain⟨g,cap,cur,rfl,-,hb⟩:=Ex h h0;refine⟨g,cap,rfl,hb.lt,fun j x hx=>?_⟩;have h1:=h.cells (g:=g) rfl j (U I x) (by rw[List.getElem?_map,hx];rfl);rw[Bb]at h1;rw[Nat.zero_add];exact h1
theorem Cd.ext{w W:R}{b off:Nat}{l:List Int}(h:Cd w b off l)(k:YL w.heap.size w W):Cd W b off l:=fun j x hx=>AG (h j x hx) k
def AH.small(c:AH):Prop:=∀ x ∈ [c.t,c.k,c.o1,c.o2,c.o3,c.n1,c.n2,c.n3],-64<=x/\x<64
def B5(c:AH):List Int:=[c.t,c.k,(if c.had then 1 else 0)+(if c.has then 2 else 0)]++(if c.had then [c.o1,c.o2,c.o3]else [])++(if c.has then [c.n1,c.n2,c.n3]else [])
def Bw(p:Int)(l:List AH):List Int:=[p,(l.length:Int)]++l.flatMap B5
end
section
open Go.RowKit Go.Shelf
def cc(l:List AH):List YJ:=l.flatMap fun c=>c.arr.toList
theorem Dy(l:List AH):(cc l).length=l.length*10:=by
 induction l with
 | nil=>rfl
 | cons a r ih=>simp[cc,AH.arr]at ih ⊢;omega
theorem Of(l:List AH):∀ u ∈ cc l,u.oneCell'=true:=by
 intro u hu;simp only[cc,List.mem_flatMap]at hu;obtain⟨x,_,hx⟩:=hu;simp only[AH.arr,List.mem_cons,List.not_mem_nil,or_false]at hx;rcases hx with rfl|rfl|rfl|rfl|rfl|rfl|rfl|rfl|rfl|rfl <;> rfl
theorem Ks:∀(l:List AH) (j:Nat) (x:AH),l[j]? = some x->∀ i,i<10->(cc l)[j*10+i]? = x.arr[i]?
 | [],j,x,h,i,hi=>by simp at h
 | y::l,0,x,h,i,hi=>by
  simp only[List.getElem?_cons_zero,Option.some.injEq]at h;subst h;simp only[cc,List.flatMap_cons,Nat.zero_mul,Nat.zero_add];rw[List.getElem?_append_left (show i<y.arr.toList.length from hi)];simp
 | y::l,j+1,x,h,i,hi=>by
  have h1:=Ks l j x (by simpa using h) i hi;simp only[cc,List.flatMap_cons];rw[List.getElem?_append_right (by simp[AH.arr];omega)];have e:(j+1)*10+i-y.arr.toList.length=j*10+i:=by simp[AH.arr];omega
  rw[e];exact h1
theorem Ae.cells{w:R}{b off c:Nat}{l:List AH}(h:Ae w (YK (some ⟨b,off,none⟩) l.length c) l):∀(i:Nat) (u:YJ),(cc l)[i]? = some u->w.cell? ⟨b,off+i,none⟩=some u:=by
 intro i u hu;have hi:i<l.length*10:=by rw[<- Dy];exact(List.getElem?_eq_some_iff.1 hu).1
 have hj:i / 10<l.length:=by omega
 obtain⟨b',off',c',e,_,h1⟩:=h.at_ (YQ hj);injection e with e _ _
 injection e with e
 injection e with e1 e2
 subst e1 e2;have h2:=h1 (i % 10) (by omega);have h3:=Ks l (i / 10) _ (YQ hj) (i % 10) (by omega);have e4:i / 10*10+i % 10=i:=by omega
 rw[e4]at h3;rw[Nat.add_assoc,e4,<- h3,hu]at h2;exact h2
def BZ(w:R)(g:Nat)(l:List AH):Prop:=∃ cur,Blk w g 72 cur/\∀(j:Nat) (x:AH),l[j]? = some x->∀ i,i<10->cur[j*10+i]? = x.arr[i]?
section
variable {w W:R} {g:Nat} {l:List AH}
theorem BZ.ext(h:BZ w g l)(k:YL w.heap.size w W):BZ W g l:=by obtain⟨cur,h,h2⟩:=h;exact⟨cur,h.ext k,h2⟩
theorem BZ.far(h:BZ w g l){p:Addr}(hp:g≠p.block)(u:YJ):BZ (w.setCell p u) g l:=by obtain⟨cur,h,h2⟩:=h;exact⟨cur,h.far hp u,h2⟩
theorem BZ.cell(h:BZ w g l){j:Nat}{x:AH}(hj:l[j]? = some x)(i:Nat)(hi:i<10):w.cell? ⟨g,j*10+i,none⟩=x.arr[i]? := by
 obtain⟨cur,h,h2⟩:=h;rw[h.cell];exact h2 j x hj i hi
theorem BZ.at_(h:BZ w g l){c:Nat}(hc:l.length<=c):Ae w (YK (some ⟨g,0,none⟩) l.length c) l:=
 ⟨_,c,rfl,hc,fun _=>⟨g,0,rfl,fun j x hj i hi=>by rw[Nat.zero_add];exact h.cell hj i hi⟩⟩
end
theorem Q8(l:List AH)(v:YJ)(w:R)(hv:Ae w v l)(h0:0<l.length)(h1:l.length<=24):Calls YN 128 #[v] w fun e w'=>
  ∃ g c,e=.returned (YK (some ⟨g,0,none⟩) l.length c)/\w.heap.size<=g/\l.length<=c/\BZ w' g l/\YL w.heap.size w w':=by
 obtain⟨n0,hn0⟩:∃ n0,l[0]? = some n0:=⟨_,YQ h0⟩;obtain⟨b,off,c,hA,hc,_⟩:=hv.at_ hn0;subst hA;have HV:=Wz hv;obtain⟨is,his,hzs0,hzs1,hzs2⟩:=info_parts G2;have hsn:=fun W:R=>Lib.run_eql_slice_nil (P:=YN) W 73 72 (some ⟨b,off,none⟩) l.length c 0 0 Tryz.underlying73;have HOE:=Wz (show(w.alloc (YI #[] 72)).ownsRow w.heap.size 72 10 (YK (some ⟨w.heap.size,0,none⟩) 0 0) 0 []from
  ⟨rfl,.inr ⟨w.heap.size,0,#[],rfl,Nat.le_refl _,World.alloc_heap_new w _,Nat.le_refl _,Nat.zero_le _,rfl,rfl⟩⟩)
 have HNW:=Wz (show ∀(i:Nat) (u:YJ),(cc l)[i]? = some u->(w.alloc (YI #[] 72)).cell? ((⟨b,off,none⟩:Addr).add i)=some u from fun i u hu=>by
  rw[Addr.add_mid];exact(HV.out.ext (AC w _)).cells i u hu)
 have hml:=Dy l;clear hv hn0;go_enter Tryz.func128,Tryz.ntmps128;go_wp2_with (at_builtin;refine wpList_append_own _ rfl (.tmp 5) (.tmp 6) 73 rfl w.heap.size 72 is (YM #[U I 0,U I 0,J false,U I 0,U I 0,U I 0,J false,U I 0,U I 0,U I 0]) 10 80 Tryz.underlying73 his hzs0 hzs1 hzs2 rfl (by decide) (YK (some ⟨w.heap.size,0,none⟩) 0 0) 0 [] rfl HOE.out ⟨b,off,none⟩ l.length c (cc l) rfl hml HNW.out (Of l) ?_ ?_ ?_ ?_;(unfold maxLen;omega);omega;(rw[World.size_alloc];omega);intro v6 W6 ho6 hg6 _;obtain⟨A7,c7,h7⟩:=AI ho6;subst h7;have HO6:=Wz ho6;have HG6:=Wz hg6;clear hg6 ho6)
 go_ret;have ho:=HO6.out;rw[Nat.zero_add,List.nil_append]at ho;have HBW:YL w.heap.size w W6:=(AC w (YI #[] 72)).grown HG6.out (AC w (YI #[] 72)).size (fun k e=>by have e2:w.heap.size=k:=Option.some.inj e;omega);obtain⟨_,h2⟩:=ho;rcases h2 with⟨_,h3⟩|⟨g,cap,cur,h3,h4,h5,h6,_,h8,h9⟩
 ·omega
 injection h3 with h3 _ h10
 subst h3 h10;refine⟨g,c7,by simp,h4,by simpa using h6,⟨cur,h5,fun j x hj i hi=>?_⟩,HBW⟩;have h11:=Ks l j x hj i hi;rw[<- h11,<- h9,List.getElem?_take,if_pos (by have:=(List.getElem?_eq_some_iff.1 hj).1;omega)];simp
def BA(w:R)(gs gm:Nat)(pos:Int)(rs:List AD):Prop:=Blk w gs 103 #[.map (some gm),U I pos]/\FQ w gm rs
theorem BA.ext{w W:R}{gs gm:Nat}{pos:Int}{rs:List AD}(h:BA w gs gm pos rs)(k:YL w.heap.size w W):BA W gs gm pos rs:=⟨h.1.ext k,h.2.ext k⟩
def CB:AD:=⟨0,0,0,0,0⟩
theorem optR(o:Option AD):(o.map AD.val).getD (YM #[U I 0,U I 0,U I 0,U I 0,U I 0])=YM #[U I (o.getD CB).t,U I (o.getD CB).k,U I (o.getD CB).a,U I (o.getD CB).b,U I (o.getD CB).c]:=by
 cases o <;> rfl
end
section
open Go.RowKit Go.Shelf
def Cx(rs:List AD)(x:AH):AH:={ x with had:=(BP rs x.t x.k).isSome,o1:=((BP rs x.t x.k).getD CB).a,o2:=((BP rs x.t x.k).getD CB).b,o3:=((BP rs x.t x.k).getD CB).c }
theorem Vi{X W:R}{p q r:Addr}{x y z:YJ}(h:X.cell? p=some x/\X.cell? q=some y/\X.cell? r=some z)(k:YL X.heap.size X W):W.cell? p=some x/\W.cell? q=some y/\W.cell? r=some z/\YL X.heap.size X W:=
 ⟨AG h.1 k,AG h.2.1 k,AG h.2.2 k,k⟩
end
section
open Go.RowKit Go.Shelf
attribute [local go_sem ↓] Go.wp_at_zero Go.wp_at_succ
theorem fitsR(rs:List AD)(l:List AH)(v:YJ)(gs gm:Nat)(pos:Int)(hp:0<=pos/\pos<=1000)(w:R)(hS:BA w gs gm pos rs)(hv:Ae w v l)(hl:B4 l)(hsz:rs.length<=1000)(hfit:∀ x ∈ l,Cx rs x=x) :
  Calls YN 66 #[.pointer (some ⟨gs,0,none⟩),YM #[U I (pos+1),v]] w fun e w'=>e=.returned (J (BI l))/\YL w.heap.size w w':=by
 obtain⟨X,hX⟩:∃ X,X=w.alloc (YI #[U I (pos+1),v] 75):=⟨_,rfl⟩;have HX:=Wz hX;have HE:=Wz (show YL w.heap.size w X by rw[hX];exact AC _ _);have HR:=Wz (show Blk X w.heap.size 75 #[U I (pos+1),v]by rw[hX];exact Blk.new _ _ _);have HV:=Wz (fun(W:R)(k:YL w.heap.size w W)=>FK (pos+1) ⟨by omega,by omega⟩ l v W (hv.ext k) hl);have HVL:=Wz hv;have HS:=Wz hS;have HF:=Wz hfit;have HLL:=Wz hl;obtain⟨A,c,rfl,hc,-⟩:=hv;have hfew:=hl.few;clear hX hS hfit hl;have a0:=HR.out.cell 0;have a1:=HR.out.cell 1;have HK:=Wz (And.intro a0 a1);generalize hvl:BI l=b at HV ⊢;have HVB:=Wz hvl;clear hvl;go_enter Tryz.func66,Tryz.ntmps66;go_upto_region 1 with(fail)
 rw[<- HX.out];cases b
 ·skip
  refine wp_region_held_drew (S:=fun w'=>w'.cell? ⟨w.heap.size,0,none⟩=some (U I (pos+1))/\w'.cell? ⟨w.heap.size,1,none⟩=some (YK A l.length c)/\YL X.heap.size X w') (by kernel_rfl) (Sj HK.out (AF X).drew) (fun hHeld=>?_);refine KO (fuel':=14) (listed':=#[false,false,false,false,false,false,false,false,false,false,false,false,false,false]) (by kernel_rfl) (by kernel_rfl) ?_;refine Od (by kernel_rfl) (fun HNS=>?_);refine BG (i:=0) (v:=?_) HNS rfl (by kernel_rfl) (by kernel_rfl) (fun _ _ _ h=>h) (Or.inl ⟨by rfl,?_⟩) (by assumption) ?_;rotate_left 1
  ·(rintro w' ⟨f0,f1,_⟩;go_simp;try with_reducible rfl)
  try simp only[Act.put,List.getElem_toArray,List.getElem_cons_succ,List.getElem_cons_zero,List.setIfInBounds_toArray,List.set_cons_zero,List.set_cons_succ]
  refine KP (rs:=[1]) (by kernel_rfl) (by simp) ?_;refine AllReadyH.cons rfl (fun K hK=>?_) AllReadyH.nil;go_simp
  with_reducible refine(HV.out _ ?_).mono ?_
  ·exact HE.out.drew
  rintro e W1 ⟨rfl,hb'⟩;have hE1:YL X.heap.size X W1:=AA (AF X).drew hb';refine hK.out _ _ (Sj HK.out hE1) (fun hHeld=>?_);clear hK K
  try simp only[Act.put,List.getElem_toArray,List.getElem_cons_succ,List.getElem_cons_zero,List.setIfInBounds_toArray,List.set_cons_zero,List.set_cons_succ]
  refine BG (i:=2) (v:=?_) HNS rfl (by kernel_rfl) (by kernel_rfl) (fun _ _ _ h=>h) (Or.inl ⟨by rfl,?_⟩) (by assumption) ?_;rotate_left 1
  ·(rintro w' ⟨f0,f1,_⟩;go_simp;try with_reducible rfl)
  try simp only[Act.put,List.getElem_toArray,List.getElem_cons_succ,List.getElem_cons_zero,List.setIfInBounds_toArray,List.set_cons_zero,List.set_cons_succ]
  refine BG (i:=3) (v:=?_) HNS rfl (by kernel_rfl) (by kernel_rfl) (fun _ _ _ h=>h) (Or.inl ⟨by rfl,?_⟩) (by assumption) ?_;rotate_left 1
  ·(rintro w' ⟨f0,f1,_⟩;go_simp;try with_reducible rfl)
  try simp only[Act.put,List.getElem_toArray,List.getElem_cons_succ,List.getElem_cons_zero,List.setIfInBounds_toArray,List.set_cons_zero,List.set_cons_succ]
  refine BG (i:=4) (v:=undef) HNS rfl (by kernel_rfl) (by kernel_rfl) (fun _ _ _ h=>h) (Or.inr ⟨by rfl,rfl⟩) (by assumption) ?_
  try simp only[Act.put,List.getElem_toArray,List.getElem_cons_succ,List.getElem_cons_zero,List.setIfInBounds_toArray,List.set_cons_zero,List.set_cons_succ]
  refine BG (i:=5) (v:=undef) HNS rfl (by kernel_rfl) (by kernel_rfl) (fun _ _ _ h=>h) (Or.inr ⟨by rfl,rfl⟩) (by assumption) ?_
  try simp only[Act.put,List.getElem_toArray,List.getElem_cons_succ,List.getElem_cons_zero,List.setIfInBounds_toArray,List.set_cons_zero,List.set_cons_succ]
  refine BG (i:=6) (v:=undef) HNS rfl (by kernel_rfl) (by kernel_rfl) (fun _ _ _ h=>h) (Or.inr ⟨by rfl,rfl⟩) (by assumption) ?_
  try simp only[Act.put,List.getElem_toArray,List.getElem_cons_succ,List.getElem_cons_zero,List.setIfInBounds_toArray,List.set_cons_zero,List.set_cons_succ]
  refine BG (i:=7) (v:=undef) HNS rfl (by kernel_rfl) (by kernel_rfl) (fun _ _ _ h=>h) (Or.inr ⟨by rfl,rfl⟩) (by assumption) ?_
  try simp only[Act.put,List.getElem_toArray,List.getElem_cons_succ,List.getElem_cons_zero,List.setIfInBounds_toArray,List.set_cons_zero,List.set_cons_succ]
  refine BG (i:=8) (v:=undef) HNS rfl (by kernel_rfl) (by kernel_rfl) (fun _ _ _ h=>h) (Or.inr ⟨by rfl,rfl⟩) (by assumption) ?_
  try simp only[Act.put,List.getElem_toArray,List.getElem_cons_succ,List.getElem_cons_zero,List.setIfInBounds_toArray,List.set_cons_zero,List.set_cons_succ]
  refine BG (i:=9) (v:=undef) HNS rfl (by kernel_rfl) (by kernel_rfl) (fun _ _ _ h=>h) (Or.inr ⟨by rfl,rfl⟩) (by assumption) ?_
  try simp only[Act.put,List.getElem_toArray,List.getElem_cons_succ,List.getElem_cons_zero,List.setIfInBounds_toArray,List.set_cons_zero,List.set_cons_succ]
  refine BG (i:=10) (v:=undef) HNS rfl (by kernel_rfl) (by kernel_rfl) (fun _ _ _ h=>h) (Or.inr ⟨by rfl,rfl⟩) (by assumption) ?_
  try simp only[Act.put,List.getElem_toArray,List.getElem_cons_succ,List.getElem_cons_zero,List.setIfInBounds_toArray,List.set_cons_zero,List.set_cons_succ]
  refine BG (i:=11) (v:=undef) HNS rfl (by kernel_rfl) (by kernel_rfl) (fun _ _ _ h=>h) (Or.inr ⟨by rfl,rfl⟩) (by assumption) ?_
  try simp only[Act.put,List.getElem_toArray,List.getElem_cons_succ,List.getElem_cons_zero,List.setIfInBounds_toArray,List.set_cons_zero,List.set_cons_succ]
  refine BG (i:=12) (v:=undef) HNS rfl (by kernel_rfl) (by kernel_rfl) (fun _ _ _ h=>h) (Or.inr ⟨by rfl,rfl⟩) (by assumption) ?_
  try simp only[Act.put,List.getElem_toArray,List.getElem_cons_succ,List.getElem_cons_zero,List.setIfInBounds_toArray,List.set_cons_zero,List.set_cons_succ]
  refine BG (i:=13) (v:=?_) HNS rfl (by kernel_rfl) (by kernel_rfl) (fun _ _ _ h=>h) (Or.inl ⟨by rfl,?_⟩) (by assumption) ?_;rotate_left 1
  ·(rintro w' ⟨f0,f1,_⟩;go_simp;try with_reducible rfl)
  try simp only[Act.put,List.getElem_toArray,List.getElem_cons_succ,List.getElem_cons_zero,List.setIfInBounds_toArray,List.set_cons_zero,List.set_cons_succ]
  refine wpAnyH_done (by kernel_rfl) ?_ _;go_wp2;go_ret;exact⟨rfl,AA HE.out hE1⟩
 have hs1:=(HS.out.ext HE.out).1.cell 1;have HK3:=Wz (show X.cell? ⟨w.heap.size,0,none⟩=some (U I (pos+1))/\X.cell? ⟨w.heap.size,1,none⟩=some (YK A l.length c)/\X.cell? ⟨gs,1,none⟩=some (U I pos)from⟨a0,a1,hs1⟩);have e1:IntKind.i64.wrap (pos+1)=pos+1:=YP _ (by omega);go_region_held3 (fun w'=>w'.cell? ⟨w.heap.size,0,none⟩=some (U I (pos+1))/\w'.cell? ⟨w.heap.size,1,none⟩=some (YK A l.length c)/\w'.cell? ⟨gs,1,none⟩=some (U I pos)/\YL X.heap.size X w')
  (first|with_reducible assumption|exact Vi HK3.out (AF X).drew|exact Vi HK3.out (AA (Ob (by assumption)) (by assumption)))
  (first|(go_at_call 117;(with_reducible refine(HV.out _ ?_).mono ?_);(exact AA HE.out (Ob (by assumption)));rintro e w' ⟨rfl,hb'⟩))
 have hE1:YL X.heap.size X w':=Ob (by assumption);have HE1:=Wz (AA HE.out hE1);have HR1:=Wz (HR.out.ext hE1);have b1:=HR1.out.cell 1;have hS1:=HS.out.ext HE1.out;have g0:=hS1.1.cell 0;have gl:=hS1.1.lt;have bl:=HR1.out.lt;have hlen:=lenR hS1.2 3;clear hE1 hS1 a0 a1 hs1;go_wp2;clear b1 g0 hlen;generalize w'=W1 at *;go_loopw [5,7,8,9,33,37] (fun z _ _ _ i _ W=>∃(k:Nat) (s:Int),k<=l.length/\i=U I k/\z=U I s/\(rs.length:Int)-k<=s/\s<=rs.length+k/\YL w.heap.size w W) (fun _ _ _ _ i _ _=>l.length-(intOf i).toNat)
 case atStart=>exact⟨0,rs.length,Nat.zero_le _,rfl,rfl,by omega,by omega,HE1.out⟩
 obtain⟨k,s,hk,rfl,rfl,hs1,hs2,hE⟩:=hrel;have HEW:=Wz hE;clear hE;by_cases hlt:k<l.length
 ·obtain⟨x,hx⟩:∃ x,l[k]? = some x:=⟨_,YQ hlt⟩;obtain⟨b,off,c',hA,_,hc9⟩:=(HVL.out.ext HEW.out).at_ hx;injection hA with hA hn' hc'
  subst hA;subst hc';clear hn';have c0:=hc9 0 (by omega);have c1:=hc9 1 (by omega);have c2:=hc9 2 (by omega);have c3:=hc9 3 (by omega);have c4:=hc9 4 (by omega);have c5:=hc9 5 (by omega);have c6:=hc9 6 (by omega);have c7:=hc9 7 (by omega);have c8:=hc9 8 (by omega);have c9:=hc9 9 (by omega);have hfx:=HF.out x (List.mem_of_getElem? hx);obtain⟨t,kk,had,o1,o2,o3,has,n1,n2,n3⟩:=x;simp only[Cx,AH.mk.injEq,true_and,and_true]at hfx;obtain⟨f1,f2,f3,f4⟩:=hfx;simp[AH.arr]at c0 c1 c2 c3 c4 c5 c6 c7 c8 c9;have HSW:=Wz (HS.out.ext HEW.out);have g0:=HSW.out.1.cell 0;have gl:=HSW.out.1.lt;have hlk:=fun o=>P4 ((HSW.out.2.ext (AC wr (YI #[U I t,U I kk,J had,U I o1,U I o2,U I o3,J has,U I n1,U I n2,U I n3] 72))).ext (AC _ o).drew) t kk;have hlk2:=P4 (HSW.out.2.ext (AC wr (YI #[U I t,U I kk,J had,U I o1,U I o2,U I o3,J has,U I n1,U I n2,U I n3] 72)).drew) t kk;simp only[optR,f1,f2,f3,f4]at hlk hlk2;generalize ((BP rs t kk).getD CB).t=r0 at hlk hlk2;generalize ((BP rs t kk).getD CB).k=r1 at hlk hlk2;have heq:=fun W:R=>eq3 o1 o2 o3 o1 o2 o3 W;simp only[decide_true,Bool.and_self]at heq;have e2:IntKind.i64.wrap ((k:Int)+1)=(k:Int)+1:=by rw[YP _ (by omega)]
  have e3:IntKind.i64.wrap (s+1)=s+1:=by rw[YP _ (by omega)]
  have e4:IntKind.i64.wrap (s-1)=s-1:=by rw[YP _ (by omega)]
  have e5:IntKind.i64.wrap (s-1+1)=s:=by rw[YP _ (by omega)];omega
  have d1:decide ((k:Int)<(l.length:Int))=true:=by simp;omega
  have q0:(0:Int)<=(k:Int):=by omega
  have q1:(k:Int)<(l.length:Int):=by omega
  clear hc9 hx f1 f2 f3 f4;go_upto_region 7 with(fail)
  go_region;have HBX:=Wz (((Blk.new wr 72 #[U I t,U I kk,J had,U I o1,U I o2,U I o3,J has,U I n1,U I n2,U I n3]).alloc (YI #[U I r0,U I r1,U I o1,U I o2,U I o3] 67)).drew);have HRX:=Wz ((Blk.new' (wr.alloc (YI #[U I t,U I kk,J had,U I o1,U I o2,U I o3,J has,U I n1,U I n2,U I n3] 72)) 67 #[U I r0,U I r1,U I o1,U I o2,U I o3] (b:=wr.heap.size+1) (by simp)).drew);have HEX:=Wz ((AB (AB HEW.out (YI #[U I t,U I kk,J had,U I o1,U I o2,U I o3,J has,U I n1,U I n2,U I n3] 72)) (YI #[U I r0,U I r1,U I o1,U I o2,U I o3] 67)).drew);generalize ((wr.alloc (YI #[U I t,U I kk,J had,U I o1,U I o2,U I o3,J has,U I n1,U I n2,U I n3] 72)).alloc (YI #[U I r0,U I r1,U I o1,U I o2,U I o3] 67)).drew=W5 at HBX HRX HEX ⊢;generalize wr.heap.size+1=br at HRX ⊢;generalize wr.heap.size=bx at HBX ⊢;have hbx:=HBX.out;have hrx:=HRX.out;have v2:=hbx.cell 2;have v3:=hbx.cell 3;have v4:=hbx.cell 4;have v5:=hbx.cell 5;have v6:=hbx.cell 6;have u2:=hrx.cell 2;have u3:=hrx.cell 3;have u4:=hrx.cell 4;clear c0 c1 c2 c3 c4 c5 c6 c7 c8 c9 hlk hlk2 g0 gl hbx hrx HSW;cases had <;> cases has <;> (go_wp2) <;> go_roundw
  case rel=>exact⟨k+1,_,by omega,by go_num,rfl,by omega,by omega,HEX.out⟩
  case measure=>simp[intOf];omega
  case rel=>exact⟨k+1,_,by omega,by go_num,rfl,by omega,by omega,HEX.out⟩
  case measure=>simp[intOf];omega
  case rel=>exact⟨k+1,_,by omega,by go_num,rfl,by omega,by omega,HEX.out⟩
  case measure=>simp[intOf];omega
  case rel=>exact⟨k+1,_,by omega,by go_num,rfl,by omega,by omega,HEX.out⟩
  simp[intOf];omega
 have d1:decide ((k:Int)<(l.length:Int))=false:=by simp;omega
 have d2:decide (s<=2000)=true:=by simp;omega
 go_wp2;go_ret;exact⟨rfl,HEW.out⟩
end
section
open Go.RowKit Go.Shelf
attribute [local go_sem ↓] Go.wp_at_zero Go.wp_at_succ
theorem Kt(r:AD)(had:Bool)(o1 o2 o3:Int)(w:R) :
  Calls YN 67 #[YM #[U I r.t,U I r.k,J had,U I o1,U I o2,U I o3,J true,U I r.a,U I r.b,U I r.c]] w fun e w'=>
   e=.returned (.tuple #[YM #[U I r.t,U I r.k,U I r.a,U I r.b,U I r.c],J true])/\YL w.heap.size w w':=by
 obtain⟨t,k,a,b,c⟩:=r;dsimp only;go_enter Tryz.func67,Tryz.ntmps67;go_wp2_with fail
 refine(JK _ _ _ _ _ _ _ _ _ _ _ _ _ _).mono ?_;rintro e W1 ⟨rfl,hb1⟩;have HL1:=Wz (AA (AB (AC w _) _) hb1);have hB1:=(Blk.new' (w.alloc (YI #[U I t,U I k,J had,U I o1,U I o2,U I o3,J true,U I a,U I b,U I c] 72)) 67 #[U I 0,U I 0,U I 0,U I 0,U I 0] (b:=w.heap.size+1) (by simp)).ext hb1;have HB1:=Wz hB1;have HI:=Wz Gn;have H1:=Wz (I6 t k a b c);clear hB1 hb1;go_wp2_with (refine AX rfl 67 (.tmp 2) (.tmp 10) rfl (w.heap.size+1) #[U I t,U I k,U I a,U I b,U I c] rfl rfl 67 #[U I 0,U I 0,U I 0,U I 0,U I 0] HB1.out HI.out rfl H1.out ?_;intro W2 hB2 hg2)
 have c0:=hB2.cell 0;have c1:=hB2.cell 1;have c2:=hB2.cell 2;have c3:=hB2.cell 3;have c4:=hB2.cell 4;refine bodyPost_ret (v:=.tuple #[YM #[U I t,U I k,U I a,U I b,U I c],J true]) (by simp[results,Tryz.results67,go_sem,c0,c1,c2,c3,c4]) rfl ⟨rfl,?_⟩;exact HL1.out.grown hg2 HL1.out.size (fun k e=>by injection e with e;omega)
theorem M9(r:AD)(had:Bool)(o1 o2 o3:Int)(w:R) :
  Calls YN 67 #[YM #[U I r.t,U I r.k,J had,U I o1,U I o2,U I o3,J false,U I r.a,U I r.b,U I r.c]] w fun e w'=>
   e=.returned (.tuple #[YM #[U I 0,U I 0,U I 0,U I 0,U I 0],J false])/\YL w.heap.size w w':=by
 obtain⟨t,k,a,b,c⟩:=r;dsimp only;go_enter Tryz.func67,Tryz.ntmps67;go_wp2_with fail
 refine(Li _ _ _ _ _ _ _ _ _ _ _ _ _ _).mono ?_;rintro e W1 ⟨rfl,hb1⟩;have HL1:=Wz (AA (AB (AC w _) _) hb1);have hB1:=(Blk.new' (w.alloc (YI #[U I t,U I k,J had,U I o1,U I o2,U I o3,J false,U I a,U I b,U I c] 72)) 67 #[U I 0,U I 0,U I 0,U I 0,U I 0] (b:=w.heap.size+1) (by simp)).ext hb1;have HB1:=Wz hB1;have HI:=Wz Gn;have H1:=Wz (I6 0 0 0 0 0);clear hB1 hb1;go_wp2_with (refine AX rfl 67 (.tmp 2) (.tmp 10) rfl (w.heap.size+1) #[U I 0,U I 0,U I 0,U I 0,U I 0] rfl rfl 67 #[U I 0,U I 0,U I 0,U I 0,U I 0] HB1.out HI.out rfl H1.out ?_;intro W2 hB2 hg2)
 have c0:=hB2.cell 0;have c1:=hB2.cell 1;have c2:=hB2.cell 2;have c3:=hB2.cell 3;have c4:=hB2.cell 4;refine bodyPost_ret (v:=.tuple #[YM #[U I 0,U I 0,U I 0,U I 0,U I 0],J false]) (by simp[results,Tryz.results67,go_sem,c0,c1,c2,c3,c4]) rfl ⟨rfl,?_⟩;exact HL1.out.grown hg2 HL1.out.size (fun k e=>by injection e with e;omega)
def applyC(rs:List AD)(x:AH):List AD:=if x.has then Ix rs ⟨x.t,x.k,x.n1,x.n2,x.n3⟩else Iy rs x.t x.k
def Bm(rs:List AD)(l:List AH):List AD:=l.foldl applyC rs
theorem NA(rs:List AD)(l:List AH)(k:Nat)(x:AH)(h:l[k]? = some x):Bm rs (l.take (k+1))=applyC (Bm rs (l.take k)) x:=by
 unfold Bm;rw[List.take_add_one,h];simp
theorem Ae.ne{w:R}{b off c gs gm:Nat}{pos:Int}{l:List AH}{rs:List AD}(h:Ae w (YK (some ⟨b,off,none⟩) l.length c) l)(h0:0<l.length)(hS:BA w gs gm pos rs):b≠gs/\b≠gm:=by
 obtain⟨b',off',c',e,_,h1⟩:=h.at_ (YQ h0);injection e with e _ _
 injection e with e
 injection e with e1 e2
 subst e1 e2;have h2:=h1 9 (by omega);rw[Nat.zero_mul,Nat.add_zero]at h2;constructor
 ·rintro rfl;rw[hS.1.cell]at h2;simp[AH.arr]at h2
 rintro rfl;obtain⟨es,c2,hm,_⟩:=hS.2;unfold Br at hm;simp[World.cell?,hm,AH.arr]at h2
theorem Ae.ext2{w W:R}{v:YJ}{l:List AH}{gs gm:Nat}{pos:Int}{rs:List AD}(h:Ae w v l)(hS:BA w gs gm pos rs)(k:Ah gs gm w W):Ae W v l:=by
 have h':=h;obtain⟨A,c,rfl,hc,h⟩:=h;refine⟨A,c,rfl,hc,fun h0=>?_⟩;obtain⟨b,off,rfl,hcell⟩:=h h0;obtain⟨n1,n2⟩:=Ae.ne h' h0 hS;refine⟨b,off,rfl,fun j x hx i hi=>?_⟩;have h1:=hcell j x hx i hi;rw[Array.getElem?_eq_getElem (show i<x.arr.size from hi)]at h1 ⊢;exact EY h1 k n1 n2
theorem Sp(rs:List AD)(l:List AH)(v:YJ)(gs gm:Nat)(pos:Int)(hp:0<=pos/\pos<=1000)(w:R)(hS:BA w gs gm pos rs)(hv:Ae w v l)(hl:B4 l)(hsz:rs.length<=1000)(hfit:∀ x ∈ l,Cx rs x=x) :
  Calls YN 37 #[.pointer (some ⟨gs,0,none⟩),YM #[U I (pos+1),v]] w fun e w'=>(BI l=false/\e=.returned (U I 40)/\YL w.heap.size w w')∨(BI l=true/\e=.returned (U I 0)/\BA w' gs gm (pos+1) (Bm rs l)/\Ah gs gm w w'):=by
 have HE0:=Wz (AC w (YI #[U I (pos+1),v] 75));have HS0:=Wz (hS.ext HE0.out);have HR0:=Wz (Blk.new w 75 #[U I (pos+1),v]);have HFT:=Wz (fitsR rs l v gs gm pos hp _ HS0.out (hv.ext HE0.out) hl hsz hfit);have HVL:=Wz hv;have HS:=Wz hS;have hne:gs≠gm:=by
  rintro rfl;have h1:=hS.1;obtain⟨es,c2,h2,_⟩:=hS.2;unfold Blk at h1;unfold Br at h2;rw[h1]at h2;cases h2
 have hgs:=hS.1.lt;have hgm:=hS.2.lt;have hfew:=hl.few;obtain⟨A,c,rfl,hc,-⟩:=hv;clear hS hl hfit;go_enter Tryz.func37,Tryz.ntmps37;go_wp2_with fail
 refine HFT.out.mono ?_;rintro e W1 ⟨rfl,hb1⟩;generalize hvf:BI l=b;have HVF:=Wz hvf;clear hvf;cases b
 ·have HL1:=Wz (AA HE0.out hb1);clear hb1;go_wp2;go_ret;exact .inl ⟨HVF.out,rfl,HL1.out⟩
 have HR1:=Wz (HR0.out.ext hb1);have HS1:=Wz (HS0.out.ext hb1);have HL1:=Wz (Ah.of_ext (a:=gs) (b:=gm) (AA HE0.out hb1));have a1:=HR1.out.cell 1;have al:=HR1.out.lt;clear hb1 HR0 HS0 HFT HE0;go_wp2;clear a1 al;go_loopw [6,7,8,9,21,30] (fun _ _ _ _ i _ W=>∃ k:Nat,k<=l.length/\i=U I k/\BA W gs gm pos (Bm rs (l.take k))/\Blk W w.heap.size 75 #[U I (pos+1),YK A l.length c]/\Ah gs gm w W) (fun _ _ _ _ i _ _=>l.length-(intOf i).toNat)
 case atStart=>exact⟨0,Nat.zero_le _,rfl,by rw[List.take_zero];exact HS1.out,HR1.out,HL1.out⟩
 obtain⟨k,hk,rfl,hst,hrb,hE⟩:=hrel;have HST:=Wz hst;have HRB:=Wz hrb;have HE:=Wz hE;clear hst hrb hE HS1 HR1 HL1;by_cases hlt:k<l.length
 ·obtain⟨x,hx⟩:∃ x,l[k]? = some x:=⟨_,YQ hlt⟩;have HX:=Wz (NA rs l k x hx);obtain⟨b,off,c',hA,_,hc9⟩:=(HVL.out.ext2 HS.out HE.out).at_ hx;injection hA with hA hn' hc'
  subst hA;subst hc';clear hn';have c0:=hc9 0 (by omega);have c1:=hc9 1 (by omega);have c2:=hc9 2 (by omega);have c3:=hc9 3 (by omega);have c4:=hc9 4 (by omega);have c5:=hc9 5 (by omega);have c6:=hc9 6 (by omega);have c7:=hc9 7 (by omega);have c8:=hc9 8 (by omega);have c9:=hc9 9 (by omega);obtain⟨t,kk,had,o1,o2,o3,has,n1,n2,n3⟩:=x;simp[AH.arr]at c0 c1 c2 c3 c4 c5 c6 c7 c8 c9;have e2:IntKind.i64.wrap ((k:Int)+1)=(k:Int)+1:=by rw[YP _ (by omega)]
  have d1:decide ((k:Int)<(l.length:Int))=true:=by simp;omega
  have q0:(0:Int)<=(k:Int):=by omega
  have q1:(k:Int)<(l.length:Int):=by omega
  have hws:=HE.out.size;clear hc9 hx;have HKB:=Wz (Blk.new' (wr.alloc (YI #[U I t,U I kk,J had,U I o1,U I o2,U I o3,J has,U I n1,U I n2,U I n3] 72)) 105 #[U I t,U I kk] (b:=wr.heap.size+1) (by simp));cases has
  ·have HAF:=Wz (fun W:R=>M9 ⟨t,kk,n1,n2,n3⟩ had o1 o2 o3 W);dsimp only at HAF;go_wp2_with fail
   refine(HAF.out _).mono ?_;rintro e W2 ⟨rfl,hb2⟩;have hK2:=HKB.out.ext hb2;have HS2:=Wz (((HST.out.ext (AC _ _)).ext (AC _ _)).ext hb2);have HR2:=Wz (((HRB.out.alloc _).alloc _).ext hb2);have HL2:=Wz ((((HE.out.ext (AC _ _)).ext (AC _ _)).ext hb2));clear hb2 c0 c1 c2 c3 c4 c5 c6 c7 c8 c9;have k0:=hK2.cell 0;have k1:=hK2.cell 1;have kl:=hK2.lt;have s0:=HS2.out.1.cell 0;have gl:=HS2.out.1.lt;obtain⟨o,hdel,hmp⟩:=UQ (HS2.out.2.ext (AC W2 (YI #[U I 0,U I 0,U I 0,U I 0,U I 0] 67)).drew) t kk;clear hK2;go_wp2;go_region;generalize hW3:World.putObj (W2.alloc (YI #[U I 0,U I 0,U I 0,U I 0,U I 0] 67)).drew gm o=W3 at *;have HS3:=Wz (show BA W3 gs gm pos (Bm rs (l.take (k+1)))by
    rw[HX.out];refine⟨?_,hmp⟩;rw[<- hW3];exact(HS2.out.1.alloc _).drew.putObj _ hne)
   have HR3:=Wz (show Blk W3 w.heap.size 75 #[U I (pos+1),YK (some ⟨b,off,none⟩) l.length c]by
    rw[<- hW3];exact(HR2.out.alloc _).drew.putObj _ (by omega))
   have HE3:=Wz (show Ah gs gm w W3 by rw[<- hW3];exact((HL2.out.ext (AC _ _)).drewN 1).put _);clear hW3 hmp hdel s0 k0 k1;go_wp2;go_roundw
   case rel=>exact⟨k+1,by omega,by go_num,HS3.out,HR3.out,HE3.out⟩
   simp[intOf];omega
  have HAF:=Wz (fun W:R=>Kt ⟨t,kk,n1,n2,n3⟩ had o1 o2 o3 W);dsimp only at HAF;go_wp2_with fail
  refine(HAF.out _).mono ?_;rintro e W2 ⟨rfl,hb2⟩;have hK2:=HKB.out.ext hb2;have HS2:=Wz (((HST.out.ext (AC _ _)).ext (AC _ _)).ext hb2);have HR2:=Wz (((HRB.out.alloc _).alloc _).ext hb2);have HL2:=Wz ((((HE.out.ext (AC _ _)).ext (AC _ _)).ext hb2));clear hb2 c0 c1 c2 c3 c4 c5 c6 c7 c8 c9;have k0:=hK2.cell 0;have k1:=hK2.cell 1;have kl:=hK2.lt;have s0:=HS2.out.1.cell 0;have gl:=HS2.out.1.lt;obtain⟨o,hup,hmp⟩:=UP (HS2.out.2.ext (AC W2 (YI #[U I t,U I kk,U I n1,U I n2,U I n3] 67)).drew) ⟨t,kk,n1,n2,n3⟩;dsimp only at hup;clear hK2;go_wp2;go_region;generalize hW3:World.putObj (W2.alloc (YI #[U I t,U I kk,U I n1,U I n2,U I n3] 67)).drew gm o=W3 at *;have HS3:=Wz (show BA W3 gs gm pos (Bm rs (l.take (k+1)))by
   rw[HX.out];refine⟨?_,hmp⟩;rw[<- hW3];exact(HS2.out.1.alloc _).drew.putObj _ hne)
  have HR3:=Wz (show Blk W3 w.heap.size 75 #[U I (pos+1),YK (some ⟨b,off,none⟩) l.length c]by
   rw[<- hW3];exact(HR2.out.alloc _).drew.putObj _ (by omega))
  have HE3:=Wz (show Ah gs gm w W3 by rw[<- hW3];exact((HL2.out.ext (AC _ _)).drewN 1).put _);clear hW3 hmp hup s0 k0 k1;go_wp2;go_roundw
  case rel=>exact⟨k+1,by omega,by go_num,HS3.out,HR3.out,HE3.out⟩
  simp[intOf];omega
 have d1:decide ((k:Int)<(l.length:Int))=false:=by simp;omega
 have hRB:=HRB.out;have a0:=hRB.cell 0;have al:=hRB.lt;have hST:=HST.out;have q1:=hST.1.cell 1;have f1:=hST.1.frozen 1;have gl:=hST.1.lt;have HTK:=Wz (show l.take k=l from List.take_of_length_le (by omega));clear hRB hST;go_wp2;go_ret;exact .inr ⟨HVF.out,rfl,⟨HST.out.1.set_ 1 _,by have h9:=HST.out.2;rw[HTK.out]at h9;obtain⟨es,c9,hm,h9⟩:=h9;exact⟨es,c9,hm.set _ _ hne.symm,h9⟩⟩,HE.out.setA _ _⟩
end
end Go.Proofs.YtimoapjhepmehaaGreatDoor
