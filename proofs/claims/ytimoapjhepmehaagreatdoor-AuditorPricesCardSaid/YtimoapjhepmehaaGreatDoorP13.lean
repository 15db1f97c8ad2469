/-
  Part 13 of 54: the contracts that the proof of the last part uses; each stands under its own head.
-/
import Derived.Test.YtimoapjhepmehaaGreatDoorP10
import Derived.Test.YtimoapjhepmehaaGreatDoorP11
import Derived.Test.YtimoapjhepmehaaGreatDoorP5
import Derived.BigQuiet
import Derived.Test.YtimoapjhepmehaaGreatDoorP12
import Derived.Test.YtimoapjhepmehaaGreatDoorP9
set_option linter.unusedSimpArgs false
set_option linter.unusedVariables false
set_option maxHeartbeats 4000000
set_option maxRecDepth 100000
namespace Go.Proofs.YtimoapjhepmehaaGreatDoor
section
open Go.RowKit Go.Shelf
attribute [local go_sem ↓] ld_exec ld_sem bd_exec bd_sem
end
section
open Go.RowKit Go.Shelf
end
section
open Go.RowKit Go.Shelf
attribute [local go_sem ↓] Go.wp_at_zero Go.wp_at_succ
attribute [local go_sem ↓] bd_exec bd_sem bs_exec bs_sem
end
section
open Go.RowKit Go.Shelf
attribute [local go_sem ↓] ld_exec ld_sem
end
section
open Go.RowKit Go.Shelf
attribute [local go_sem ↓] ld_exec ld_sem
end
section
open Go.RowKit Go.Shelf
theorem own_extS {W W':World} {S:Nat→Prop} {base n sz:Nat} {e:TypeId} {v:Value} {xs:List Value} (h:W.ownsRow base e sz v n xs) (k:ExtS S W W') (hn:∀ (g:Nat) (cs:Array Value),Blk W g e cs→¬ S g):W'.ownsRow base e sz v n xs:=by
  refine ⟨h.1,?_⟩
  rcases h.2 with hn'|⟨g,cap,cur,h1,h2,h3,h4⟩
  · exact .inl hn'
  · exact .inr ⟨g,cap,cur,h1,h2,(k.block g (Array.getElem?_eq_some_iff.1 h3).1 (hn g cur h3)).trans h3,h4⟩
end
section
open Go.RowKit Go.Shelf
attribute [local go_sem ↓] ld_exec ld_sem bd_exec bd_sem Go.wp_at_zero Go.wp_at_succ
end
section
open Go.RowKit Go.Shelf
theorem own_ext2 {W W':World} {g b n sz:Nat} {e t:TypeId} {v:Value} {xs:List Value} {cs:Array Value} (h:W.ownsRow b e sz v n xs) (k:Ext2 g g W W') (hg:Blk W g t cs) (ht:t≠e):W'.ownsRow b e sz v n xs:=
  own_extS h (S:=fun j=>j=g) (ExtS.of_ext2 k rfl rfl) (fun g' cs' h' e'=>by subst e';exact blkNe hg h' ht rfl)
theorem own_blk {W:World} {b n sz:Nat} {e:TypeId} {v:Value} {xs:List Value} (h:W.ownsRow b e sz v n xs) (h0:0<n):∃ g cap cur,v=.slice (some ⟨g,0,none⟩) n cap∧b≤g∧Blk W g e cur:=by
  rcases h.2 with ⟨_,h1⟩|⟨g,cap,cur,h1,h2,h3,_⟩
  · omega
  · exact ⟨g,cap,cur,h1,h2,h3⟩
end
section
open Go.RowKit
attribute [local go_sem ↓] app_exec app_sem Go.wp_at_zero Go.wp_at_succ
theorem app3 (W:World) (base:Nat) (hb:base≤W.heap.size) (v:Value) (n:Nat) (xs:List Value) (hown:W.ownsRow base 3 1 v n xs) (hn:n≤3) (b off:Nat) (x y z:Int) (h0:W.cell? ⟨b,off,none⟩=some (.int .i64 x)) (h1:W.cell? ⟨b,off+1,none⟩=some (.int .i64 y)) (h2:W.cell? ⟨b,off+2,none⟩=some (.int .i64 z)) :
    AppOK Tryz.prog W 46 46 v (.slice (some ⟨b,off,none⟩) 3 3)∧(appW Tryz.prog W 46 46 v (.slice (some ⟨b,off,none⟩) 3 3)).ownsRow base 3 1 (appV Tryz.prog W 46 46 v (.slice (some ⟨b,off,none⟩) 3 3)) (n+3) (xs++[.int .i64 x,.int .i64 y,.int .i64 z])∧W.grownBy (appW Tryz.prog W 46 46 v (.slice (some ⟨b,off,none⟩) 3 3)) v.ownBlock:=by
  obtain ⟨ii,hii,hzi0,hzi1,hzi2⟩:=info_parts int_infoP
  refine app_own (P:=Tryz.prog) (w:=W) base 46 46 3 ii (.int .i64 0) 1 8 Tryz.underlying46 hii hzi0 hzi1 hzi2 rfl (by decide) v n xs hown ⟨b,off,none⟩ 3 3 [.int .i64 x,.int .i64 y,.int .i64 z] rfl (fun j u hj=>?_) (by simp [Value.oneCell']) (by unfold maxLen;omega) (by omega) hb
  match j,hj with
  | 0,hj=>simp at hj;subst hj;simpa [Addr.add] using h0
  | 1,hj=>simp at hj;subst hj;simpa [Addr.add] using h1
  | 2,hj=>simp at hj;subst hj;simpa [Addr.add] using h2
theorem own_ints {W:World} {base n:Nat} {v:Value} {l:List Int} (h:W.ownsRow base 3 1 v n (l.map (Value.int .i64))) (h0:0<n):∃ g c,v=.slice (some ⟨g,0,none⟩) n c∧g<W.heap.size∧IntsAt W g 0 l:=by
  obtain ⟨g,cap,cur,rfl,-,hb⟩:=own_blk h h0
  refine ⟨g,cap,rfl,hb.lt,fun j x hx=>?_⟩
  have h1:=h.cells (g:=g) rfl j (.int .i64 x) (by rw [List.getElem?_map,hx];rfl)
  rw [add_lit0] at h1
  rw [Nat.zero_add]
  exact h1
theorem IntsAt.ext {w W:World} {b off:Nat} {l:List Int} (h:IntsAt w b off l) (k:Below w.heap.size w W):IntsAt W b off l:=fun j x hx=>cell_ext (h j x hx) k
def ChgT.small (c:ChgT):Prop:=∀ x ∈ [c.t,c.k,c.o1,c.o2,c.o3,c.n1,c.n2,c.n3],-64≤x∧x<64
def encChg (c:ChgT):List Int:=[c.t,c.k,(if c.had then 1 else 0)+(if c.has then 2 else 0)]++(if c.had then [c.o1,c.o2,c.o3] else [])++(if c.has then [c.n1,c.n2,c.n3] else [])
def encRec (p:Int) (l:List ChgT):List Int:=[p,(l.length:Int)]++l.flatMap encChg
end
section
open Go.RowKit Go.Shelf
def cc (l:List ChgT):List Value:=l.flatMap fun c=>c.arr.toList
theorem cc_length (l:List ChgT):(cc l).length=l.length*10:=by
  induction l with
  | nil=>rfl
  | cons a r ih=>simp [cc,ChgT.arr] at ih ⊢;omega
theorem cc_one (l:List ChgT):∀ u ∈ cc l,u.oneCell'=true:=by
  intro u hu
  simp only [cc,List.mem_flatMap] at hu
  obtain ⟨x,_,hx⟩:=hu
  simp only [ChgT.arr,List.mem_cons,List.not_mem_nil,or_false] at hx
  rcases hx with rfl|rfl|rfl|rfl|rfl|rfl|rfl|rfl|rfl|rfl <;> rfl
theorem cc_at:∀ (l:List ChgT) (j:Nat) (x:ChgT),l[j]? = some x→∀ i,i<10→(cc l)[j*10+i]? = x.arr[i]?
  | [],j,x,h,i,hi=>by simp at h
  | y::l,0,x,h,i,hi=>by
    simp only [List.getElem?_cons_zero,Option.some.injEq] at h
    subst h
    simp only [cc,List.flatMap_cons,Nat.zero_mul,Nat.zero_add]
    rw [List.getElem?_append_left (show i<y.arr.toList.length from hi)]
    simp
  | y::l,j+1,x,h,i,hi=>by
    have h1:=cc_at l j x (by simpa using h) i hi
    simp only [cc,List.flatMap_cons]
    rw [List.getElem?_append_right (by simp [ChgT.arr];omega)]
    have e:(j+1)*10+i-y.arr.toList.length=j*10+i:=by simp [ChgT.arr];omega
    rw [e]
    exact h1
theorem ChgsAt.cells {w:World} {b off c:Nat} {l:List ChgT} (h:ChgsAt w (.slice (some ⟨b,off,none⟩) l.length c) l):∀ (i:Nat) (u:Value),(cc l)[i]? = some u→w.cell? ⟨b,off+i,none⟩=some u:=by
  intro i u hu
  have hi:i<l.length*10:=by rw [← cc_length];exact (List.getElem?_eq_some_iff.1 hu).1
  have hj:i / 10<l.length:=by omega
  obtain ⟨b',off',c',e,_,h1⟩:=h.at_ (List.getElem?_eq_getElem hj)
  injection e with e _ _
  injection e with e
  injection e with e1 e2
  subst e1 e2
  have h2:=h1 (i % 10) (by omega)
  have h3:=cc_at l (i / 10) _ (List.getElem?_eq_getElem hj) (i % 10) (by omega)
  have e4:i / 10*10+i % 10=i:=by omega
  rw [e4] at h3
  rw [Nat.add_assoc,e4,← h3,hu] at h2
  exact h2
def ChgB (w:World) (g:Nat) (l:List ChgT):Prop:=∃ cur,Blk w g 72 cur∧∀ (j:Nat) (x:ChgT),l[j]? = some x→∀ i,i<10→cur[j*10+i]? = x.arr[i]?
section
variable {w W:World} {g:Nat} {l:List ChgT}
theorem ChgB.ext (h:ChgB w g l) (k:Below w.heap.size w W):ChgB W g l:=by obtain ⟨cur,h,h2⟩:=h;exact ⟨cur,h.ext k,h2⟩
theorem ChgB.far (h:ChgB w g l) {p:Addr} (hp:g≠p.block) (u:Value):ChgB (w.setCell p u) g l:=by obtain ⟨cur,h,h2⟩:=h;exact ⟨cur,h.far hp u,h2⟩
theorem ChgB.cell (h:ChgB w g l) {j:Nat} {x:ChgT} (hj:l[j]? = some x) (i:Nat) (hi:i<10):w.cell? ⟨g,j*10+i,none⟩=x.arr[i]? := by
  obtain ⟨cur,h,h2⟩:=h
  rw [h.cell]
  exact h2 j x hj i hi
theorem ChgB.at_ (h:ChgB w g l) {c:Nat} (hc:l.length≤c):ChgsAt w (.slice (some ⟨g,0,none⟩) l.length c) l:=
  ⟨_,c,rfl,hc,fun _=>⟨g,0,rfl,fun j x hj i hi=>by rw [Nat.zero_add];exact h.cell hj i hi⟩⟩
end
theorem cloneChgs (l:List ChgT) (v:Value) (w:World) (hv:ChgsAt w v l) (h0:0<l.length) (h1:l.length≤24):Calls Tryz.prog 128 #[v] w fun e w'=>
    ∃ g c,e=.returned (.slice (some ⟨g,0,none⟩) l.length c)∧w.heap.size≤g∧l.length≤c∧ChgB w' g l∧Below w.heap.size w w':=by
  obtain ⟨n0,hn0⟩:∃ n0,l[0]? = some n0:=⟨_,List.getElem?_eq_getElem h0⟩
  obtain ⟨b,off,c,hA,hc,_⟩:=hv.at_ hn0
  subst hA
  have HV:=Lib.hid hv
  obtain ⟨is,his,hzs0,hzs1,hzs2⟩:=info_parts chg_info
  have hsn:=fun W:World=>Lib.run_eql_slice_nil (P:=Tryz.prog) W 73 72 (some ⟨b,off,none⟩) l.length c 0 0 Tryz.underlying73
  have HOE:=Lib.hid (show (w.alloc (.cells #[] 72)).ownsRow w.heap.size 72 10 (.slice (some ⟨w.heap.size,0,none⟩) 0 0) 0 [] from
    ⟨rfl,.inr ⟨w.heap.size,0,#[],rfl,Nat.le_refl _,World.alloc_heap_new w _,Nat.le_refl _,Nat.zero_le _,rfl,rfl⟩⟩)
  have HNW:=Lib.hid (show ∀ (i:Nat) (u:Value),(cc l)[i]? = some u→(w.alloc (.cells #[] 72)).cell? ((⟨b,off,none⟩:Addr).add i)=some u from fun i u hu=>by
    rw [Addr.add_mid]
    exact (HV.out.ext (ext_new w _)).cells i u hu)
  have hml:=cc_length l
  clear hv hn0
  go_enter Tryz.func128,Tryz.ntmps128
  go_wp2_with (at_builtin;refine wpList_append_own _ rfl (.tmp 5) (.tmp 6) 73 rfl w.heap.size 72 is (.agg #[.int .i64 0,.int .i64 0,.bool false,.int .i64 0,.int .i64 0,.int .i64 0,.bool false,.int .i64 0,.int .i64 0,.int .i64 0]) 10 80 Tryz.underlying73 his hzs0 hzs1 hzs2 rfl (by decide) (.slice (some ⟨w.heap.size,0,none⟩) 0 0) 0 [] rfl HOE.out ⟨b,off,none⟩ l.length c (cc l) rfl hml HNW.out (cc_one l) ?_ ?_ ?_ ?_;(unfold maxLen;omega);omega;(rw [World.size_alloc];omega);intro v6 W6 ho6 hg6 _;obtain ⟨A7,c7,h7⟩:=own_shape ho6;subst h7;have HO6:=Lib.hid ho6;have HG6:=Lib.hid hg6;clear hg6 ho6)
  go_ret
  have ho:=HO6.out
  rw [Nat.zero_add,List.nil_append] at ho
  have HBW:Below w.heap.size w W6:=(ext_new w (.cells #[] 72)).grown HG6.out (ext_new w (.cells #[] 72)).size (fun k e=>by have e2:w.heap.size=k:=Option.some.inj e;omega)
  obtain ⟨_,h2⟩:=ho
  rcases h2 with ⟨_,h3⟩|⟨g,cap,cur,h3,h4,h5,h6,_,h8,h9⟩
  · omega
  injection h3 with h3 _ h10
  subst h3 h10
  refine ⟨g,c7,by simp,h4,by simpa using h6,⟨cur,h5,fun j x hj i hi=>?_⟩,HBW⟩
  have h11:=cc_at l j x hj i hi
  rw [← h11,← h9,List.getElem?_take,if_pos (by have:=(List.getElem?_eq_some_iff.1 hj).1;omega)]
  simp
def StateR (w:World) (gs gm:Nat) (pos:Int) (rs:List RowT):Prop:=Blk w gs 103 #[.map (some gm),.int .i64 pos]∧MapR w gm rs
theorem StateR.ext {w W:World} {gs gm:Nat} {pos:Int} {rs:List RowT} (h:StateR w gs gm pos rs) (k:Below w.heap.size w W):StateR W gs gm pos rs:=⟨h.1.ext k,h.2.ext k⟩
def zeroR:RowT:=⟨0,0,0,0,0⟩
theorem optR (o:Option RowT):(o.map RowT.val).getD (.agg #[.int .i64 0,.int .i64 0,.int .i64 0,.int .i64 0,.int .i64 0])=.agg #[.int .i64 (o.getD zeroR).t,.int .i64 (o.getD zeroR).k,.int .i64 (o.getD zeroR).a,.int .i64 (o.getD zeroR).b,.int .i64 (o.getD zeroR).c]:=by
  cases o <;> rfl
theorem getR_any (gs gm:Nat) (pos:Int) (rs:List RowT) (t k:Int) (w:World) (hS:StateR w gs gm pos rs):Calls Tryz.prog 20 #[.pointer (some ⟨gs,0,none⟩),.int .i64 t,.int .i64 k] w fun e w'=>
    e=.returned (.tuple #[.agg #[.int .i64 ((getR rs t k).getD zeroR).t,.int .i64 ((getR rs t k).getD zeroR).k,.int .i64 ((getR rs t k).getD zeroR).a,.int .i64 ((getR rs t k).getD zeroR).b,.int .i64 ((getR rs t k).getD zeroR).c],.bool (getR rs t k).isSome])∧Below w.heap.size w w':=by
  have HS0:=Lib.hid (StateR.ext hS (ext_new w (.cells #[.int .i64 0,.int .i64 0,.int .i64 0,.int .i64 0,.int .i64 0] 67)))
  clear hS
  have s0:=HS0.out.1.cell 0
  have gl:=HS0.out.1.lt
  have hlk:=lookupR HS0.out.2 t k
  rw [optR] at hlk
  generalize (getR rs t k).getD zeroR=r at *
  generalize (getR rs t k).isSome=had at *
  obtain ⟨r0,r1,r2,r3,r4⟩:=r
  dsimp only at *
  go_enter Tryz.func20,Tryz.ntmps20
  go_wp2
  exact bodyPost_ret (v:=.tuple #[.agg #[.int .i64 r0,.int .i64 r1,.int .i64 r2,.int .i64 r3,.int .i64 r4],.bool had]) (by simp [results,Tryz.results20,go_sem]) rfl ⟨rfl,by repeat (first|with_reducible refine ext_set ?_ (by simp) _|with_reducible refine ext_alloc ?_ _|with_reducible exact ext_refl _)⟩
end
section
open Go.RowKit Go.Shelf
def fillC (rs:List RowT) (x:ChgT):ChgT:={ x with had:=(getR rs x.t x.k).isSome,o1:=((getR rs x.t x.k).getD zeroR).a,o2:=((getR rs x.t x.k).getD zeroR).b,o3:=((getR rs x.t x.k).getD zeroR).c }
theorem keepK {X W:World} {p q r:Addr} {x y z:Value} (h:X.cell? p=some x∧X.cell? q=some y∧X.cell? r=some z) (k:Below X.heap.size X W):W.cell? p=some x∧W.cell? q=some y∧W.cell? r=some z∧Below X.heap.size X W:=
  ⟨cell_ext h.1 k,cell_ext h.2.1 k,cell_ext h.2.2 k,k⟩
end
section
open Go.RowKit Go.Shelf
attribute [local go_sem ↓] Go.wp_at_zero Go.wp_at_succ
theorem fitsR (rs:List RowT) (l:List ChgT) (v:Value) (gs gm:Nat) (pos:Int) (hp:0≤pos∧pos≤1000) (w:World) (hS:StateR w gs gm pos rs) (hv:ChgsAt w v l) (hl:ChgsOK l) (hsz:rs.length≤1000) (hfit:∀ x ∈ l,fillC rs x=x) :
    Calls Tryz.prog 66 #[.pointer (some ⟨gs,0,none⟩),.agg #[.int .i64 (pos+1),v]] w fun e w'=>e=.returned (.bool (validF l))∧Below w.heap.size w w':=by
  obtain ⟨X,hX⟩:∃ X,X=w.alloc (.cells #[.int .i64 (pos+1),v] 75):=⟨_,rfl⟩
  have HX:=Lib.hid hX
  have HE:=Lib.hid (show Below w.heap.size w X by rw [hX];exact ext_new _ _)
  have HR:=Lib.hid (show Blk X w.heap.size 75 #[.int .i64 (pos+1),v] by rw [hX];exact Blk.new _ _ _)
  have HV:=Lib.hid (fun (W:World) (k:Below w.heap.size w W)=>validRecord_any (pos+1) ⟨by omega,by omega⟩ l v W (hv.ext k) hl)
  have HVL:=Lib.hid hv
  have HS:=Lib.hid hS
  have HF:=Lib.hid hfit
  have HLL:=Lib.hid hl
  obtain ⟨A,c,rfl,hc,-⟩:=hv
  have hfew:=hl.few
  clear hX hS hfit hl
  have a0:=HR.out.cell 0
  have a1:=HR.out.cell 1
  have HK:=Lib.hid (And.intro a0 a1)
  generalize hvl:validF l=b at HV ⊢
  have HVB:=Lib.hid hvl
  clear hvl
  go_enter Tryz.func66,Tryz.ntmps66
  go_upto_region 1 with (fail)
  rw [← HX.out]
  cases b
  · skip
    refine wp_region_held_drew (S:=fun w'=>w'.cell? ⟨w.heap.size,0,none⟩=some (.int .i64 (pos+1))∧w'.cell? ⟨w.heap.size,1,none⟩=some (.slice A l.length c)∧Below X.heap.size X w') (by kernel_rfl) (keep2B HK.out (ext_refl X).drew) (fun hHeld=>?_)
    refine wpAnyH_listed (fuel':=14) (listed':=#[false,false,false,false,false,false,false,false,false,false,false,false,false,false]) (by kernel_rfl) (by kernel_rfl) ?_
    refine wpAnyH_hns (by kernel_rfl) (fun HNS=>?_)
    refine wpAnyH_takeZ (i:=0) (v:=?_) HNS rfl (by kernel_rfl) (by kernel_rfl) (fun _ _ _ h=>h) (Or.inl ⟨by rfl,?_⟩) (by assumption) ?_
    rotate_left 1
    · (rintro w' ⟨f0,f1,_⟩;go_simp;try with_reducible rfl)
    try simp only [Act.put,List.getElem_toArray,List.getElem_cons_succ,List.getElem_cons_zero,List.setIfInBounds_toArray,List.set_cons_zero,List.set_cons_succ]
    refine wpAnyH_readyZ (rs:=[1]) (by kernel_rfl) (by simp) ?_
    refine AllReadyH.cons rfl (fun K hK=>?_) AllReadyH.nil
    go_simp
    with_reducible refine (HV.out _ ?_).mono ?_
    · exact HE.out.drew
    rintro e W1 ⟨rfl,hb'⟩
    have hE1:Below X.heap.size X W1:=ext_call (ext_refl X).drew hb'
    refine hK.out _ _ (keep2B HK.out hE1) (fun hHeld=>?_)
    clear hK K
    try simp only [Act.put,List.getElem_toArray,List.getElem_cons_succ,List.getElem_cons_zero,List.setIfInBounds_toArray,List.set_cons_zero,List.set_cons_succ]
    refine wpAnyH_takeZ (i:=2) (v:=?_) HNS rfl (by kernel_rfl) (by kernel_rfl) (fun _ _ _ h=>h) (Or.inl ⟨by rfl,?_⟩) (by assumption) ?_
    rotate_left 1
    · (rintro w' ⟨f0,f1,_⟩;go_simp;try with_reducible rfl)
    try simp only [Act.put,List.getElem_toArray,List.getElem_cons_succ,List.getElem_cons_zero,List.setIfInBounds_toArray,List.set_cons_zero,List.set_cons_succ]
    refine wpAnyH_takeZ (i:=3) (v:=?_) HNS rfl (by kernel_rfl) (by kernel_rfl) (fun _ _ _ h=>h) (Or.inl ⟨by rfl,?_⟩) (by assumption) ?_
    rotate_left 1
    · (rintro w' ⟨f0,f1,_⟩;go_simp;try with_reducible rfl)
    try simp only [Act.put,List.getElem_toArray,List.getElem_cons_succ,List.getElem_cons_zero,List.setIfInBounds_toArray,List.set_cons_zero,List.set_cons_succ]
    refine wpAnyH_takeZ (i:=4) (v:=undef) HNS rfl (by kernel_rfl) (by kernel_rfl) (fun _ _ _ h=>h) (Or.inr ⟨by rfl,rfl⟩) (by assumption) ?_
    try simp only [Act.put,List.getElem_toArray,List.getElem_cons_succ,List.getElem_cons_zero,List.setIfInBounds_toArray,List.set_cons_zero,List.set_cons_succ]
    refine wpAnyH_takeZ (i:=5) (v:=undef) HNS rfl (by kernel_rfl) (by kernel_rfl) (fun _ _ _ h=>h) (Or.inr ⟨by rfl,rfl⟩) (by assumption) ?_
    try simp only [Act.put,List.getElem_toArray,List.getElem_cons_succ,List.getElem_cons_zero,List.setIfInBounds_toArray,List.set_cons_zero,List.set_cons_succ]
    refine wpAnyH_takeZ (i:=6) (v:=undef) HNS rfl (by kernel_rfl) (by kernel_rfl) (fun _ _ _ h=>h) (Or.inr ⟨by rfl,rfl⟩) (by assumption) ?_
    try simp only [Act.put,List.getElem_toArray,List.getElem_cons_succ,List.getElem_cons_zero,List.setIfInBounds_toArray,List.set_cons_zero,List.set_cons_succ]
    refine wpAnyH_takeZ (i:=7) (v:=undef) HNS rfl (by kernel_rfl) (by kernel_rfl) (fun _ _ _ h=>h) (Or.inr ⟨by rfl,rfl⟩) (by assumption) ?_
    try simp only [Act.put,List.getElem_toArray,List.getElem_cons_succ,List.getElem_cons_zero,List.setIfInBounds_toArray,List.set_cons_zero,List.set_cons_succ]
    refine wpAnyH_takeZ (i:=8) (v:=undef) HNS rfl (by kernel_rfl) (by kernel_rfl) (fun _ _ _ h=>h) (Or.inr ⟨by rfl,rfl⟩) (by assumption) ?_
    try simp only [Act.put,List.getElem_toArray,List.getElem_cons_succ,List.getElem_cons_zero,List.setIfInBounds_toArray,List.set_cons_zero,List.set_cons_succ]
    refine wpAnyH_takeZ (i:=9) (v:=undef) HNS rfl (by kernel_rfl) (by kernel_rfl) (fun _ _ _ h=>h) (Or.inr ⟨by rfl,rfl⟩) (by assumption) ?_
    try simp only [Act.put,List.getElem_toArray,List.getElem_cons_succ,List.getElem_cons_zero,List.setIfInBounds_toArray,List.set_cons_zero,List.set_cons_succ]
    refine wpAnyH_takeZ (i:=10) (v:=undef) HNS rfl (by kernel_rfl) (by kernel_rfl) (fun _ _ _ h=>h) (Or.inr ⟨by rfl,rfl⟩) (by assumption) ?_
    try simp only [Act.put,List.getElem_toArray,List.getElem_cons_succ,List.getElem_cons_zero,List.setIfInBounds_toArray,List.set_cons_zero,List.set_cons_succ]
    refine wpAnyH_takeZ (i:=11) (v:=undef) HNS rfl (by kernel_rfl) (by kernel_rfl) (fun _ _ _ h=>h) (Or.inr ⟨by rfl,rfl⟩) (by assumption) ?_
    try simp only [Act.put,List.getElem_toArray,List.getElem_cons_succ,List.getElem_cons_zero,List.setIfInBounds_toArray,List.set_cons_zero,List.set_cons_succ]
    refine wpAnyH_takeZ (i:=12) (v:=undef) HNS rfl (by kernel_rfl) (by kernel_rfl) (fun _ _ _ h=>h) (Or.inr ⟨by rfl,rfl⟩) (by assumption) ?_
    try simp only [Act.put,List.getElem_toArray,List.getElem_cons_succ,List.getElem_cons_zero,List.setIfInBounds_toArray,List.set_cons_zero,List.set_cons_succ]
    refine wpAnyH_takeZ (i:=13) (v:=?_) HNS rfl (by kernel_rfl) (by kernel_rfl) (fun _ _ _ h=>h) (Or.inl ⟨by rfl,?_⟩) (by assumption) ?_
    rotate_left 1
    · (rintro w' ⟨f0,f1,_⟩;go_simp;try with_reducible rfl)
    try simp only [Act.put,List.getElem_toArray,List.getElem_cons_succ,List.getElem_cons_zero,List.setIfInBounds_toArray,List.set_cons_zero,List.set_cons_succ]
    refine wpAnyH_done (by kernel_rfl) ?_ _
    go_wp2
    go_ret
    exact ⟨rfl,ext_call HE.out hE1⟩
  have hs1:=(HS.out.ext HE.out).1.cell 1
  have HK3:=Lib.hid (show X.cell? ⟨w.heap.size,0,none⟩=some (.int .i64 (pos+1))∧X.cell? ⟨w.heap.size,1,none⟩=some (.slice A l.length c)∧X.cell? ⟨gs,1,none⟩=some (.int .i64 pos) from ⟨a0,a1,hs1⟩)
  have e1:IntKind.i64.wrap (pos+1)=pos+1:=IntWalk.i64_in _ (by omega)
  go_region_held3 (fun w'=>w'.cell? ⟨w.heap.size,0,none⟩=some (.int .i64 (pos+1))∧w'.cell? ⟨w.heap.size,1,none⟩=some (.slice A l.length c)∧w'.cell? ⟨gs,1,none⟩=some (.int .i64 pos)∧Below X.heap.size X w')
    (first|with_reducible assumption|exact keepK HK3.out (ext_refl X).drew|exact keepK HK3.out (ext_call (keep3E (by assumption)) (by assumption)))
    (first|(go_at_call 117;(with_reducible refine (HV.out _ ?_).mono ?_);(exact ext_call HE.out (keep3E (by assumption)));rintro e w' ⟨rfl,hb'⟩))
  have hE1:Below X.heap.size X w':=keep3E (by assumption)
  have HE1:=Lib.hid (ext_call HE.out hE1)
  have HR1:=Lib.hid (HR.out.ext hE1)
  have b1:=HR1.out.cell 1
  have hS1:=HS.out.ext HE1.out
  have g0:=hS1.1.cell 0
  have gl:=hS1.1.lt
  have bl:=HR1.out.lt
  have hlen:=lenR hS1.2 3
  clear hE1 hS1 a0 a1 hs1
  go_wp2
  clear b1 g0 hlen
  generalize w'=W1 at *
  go_loopw [5,7,8,9,33,37] (fun z _ _ _ i _ W=>∃ (k:Nat) (s:Int),k≤l.length∧i=.int .i64 k∧z=.int .i64 s∧(rs.length:Int)-k≤s∧s≤rs.length+k∧Below w.heap.size w W) (fun _ _ _ _ i _ _=>l.length-(intOf i).toNat)
  case atStart=>exact ⟨0,rs.length,Nat.zero_le _,rfl,rfl,by omega,by omega,HE1.out⟩
  case round=>
    obtain ⟨k,s,hk,rfl,rfl,hs1,hs2,hE⟩:=hrel
    have HEW:=Lib.hid hE
    clear hE
    by_cases hlt:k<l.length
    · obtain ⟨x,hx⟩:∃ x,l[k]? = some x:=⟨_,List.getElem?_eq_getElem hlt⟩
      obtain ⟨b,off,c',hA,_,hc9⟩:=(HVL.out.ext HEW.out).at_ hx
      injection hA with hA hn' hc'
      subst hA;subst hc'
      clear hn'
      have c0:=hc9 0 (by omega)
      have c1:=hc9 1 (by omega)
      have c2:=hc9 2 (by omega)
      have c3:=hc9 3 (by omega)
      have c4:=hc9 4 (by omega)
      have c5:=hc9 5 (by omega)
      have c6:=hc9 6 (by omega)
      have c7:=hc9 7 (by omega)
      have c8:=hc9 8 (by omega)
      have c9:=hc9 9 (by omega)
      have hfx:=HF.out x (List.mem_of_getElem? hx)
      obtain ⟨t,kk,had,o1,o2,o3,has,n1,n2,n3⟩:=x
      simp only [fillC,ChgT.mk.injEq,true_and,and_true] at hfx
      obtain ⟨f1,f2,f3,f4⟩:=hfx
      simp [ChgT.arr] at c0 c1 c2 c3 c4 c5 c6 c7 c8 c9
      have HSW:=Lib.hid (HS.out.ext HEW.out)
      have g0:=HSW.out.1.cell 0
      have gl:=HSW.out.1.lt
      have hlk:=fun o=>lookupR ((HSW.out.2.ext (ext_new wr (.cells #[.int .i64 t,.int .i64 kk,.bool had,.int .i64 o1,.int .i64 o2,.int .i64 o3,.bool has,.int .i64 n1,.int .i64 n2,.int .i64 n3] 72))).ext (ext_new _ o).drew) t kk
      have hlk2:=lookupR (HSW.out.2.ext (ext_new wr (.cells #[.int .i64 t,.int .i64 kk,.bool had,.int .i64 o1,.int .i64 o2,.int .i64 o3,.bool has,.int .i64 n1,.int .i64 n2,.int .i64 n3] 72)).drew) t kk
      simp only [optR,f1,f2,f3,f4] at hlk hlk2
      generalize ((getR rs t kk).getD zeroR).t=r0 at hlk hlk2
      generalize ((getR rs t kk).getD zeroR).k=r1 at hlk hlk2
      have heq:=fun W:World=>eq3 o1 o2 o3 o1 o2 o3 W
      simp only [decide_true,Bool.and_self] at heq
      have e2:IntKind.i64.wrap ((k:Int)+1)=(k:Int)+1:=by rw [IntWalk.i64_in _ (by omega)]
      have e3:IntKind.i64.wrap (s+1)=s+1:=by rw [IntWalk.i64_in _ (by omega)]
      have e4:IntKind.i64.wrap (s-1)=s-1:=by rw [IntWalk.i64_in _ (by omega)]
      have e5:IntKind.i64.wrap (s-1+1)=s:=by rw [IntWalk.i64_in _ (by omega)];omega
      have d1:decide ((k:Int)<(l.length:Int))=true:=by simp;omega
      have q0:(0:Int)≤(k:Int):=by omega
      have q1:(k:Int)<(l.length:Int):=by omega
      clear hc9 hx f1 f2 f3 f4
      go_upto_region 7 with (fail)
      go_region
      have HBX:=Lib.hid (((Blk.new wr 72 #[.int .i64 t,.int .i64 kk,.bool had,.int .i64 o1,.int .i64 o2,.int .i64 o3,.bool has,.int .i64 n1,.int .i64 n2,.int .i64 n3]).alloc (.cells #[.int .i64 r0,.int .i64 r1,.int .i64 o1,.int .i64 o2,.int .i64 o3] 67)).drew)
      have HRX:=Lib.hid ((Blk.new' (wr.alloc (.cells #[.int .i64 t,.int .i64 kk,.bool had,.int .i64 o1,.int .i64 o2,.int .i64 o3,.bool has,.int .i64 n1,.int .i64 n2,.int .i64 n3] 72)) 67 #[.int .i64 r0,.int .i64 r1,.int .i64 o1,.int .i64 o2,.int .i64 o3] (b:=wr.heap.size+1) (by simp)).drew)
      have HEX:=Lib.hid ((ext_alloc (ext_alloc HEW.out (.cells #[.int .i64 t,.int .i64 kk,.bool had,.int .i64 o1,.int .i64 o2,.int .i64 o3,.bool has,.int .i64 n1,.int .i64 n2,.int .i64 n3] 72)) (.cells #[.int .i64 r0,.int .i64 r1,.int .i64 o1,.int .i64 o2,.int .i64 o3] 67)).drew)
      generalize ((wr.alloc (.cells #[.int .i64 t,.int .i64 kk,.bool had,.int .i64 o1,.int .i64 o2,.int .i64 o3,.bool has,.int .i64 n1,.int .i64 n2,.int .i64 n3] 72)).alloc (.cells #[.int .i64 r0,.int .i64 r1,.int .i64 o1,.int .i64 o2,.int .i64 o3] 67)).drew=W5 at HBX HRX HEX ⊢
      generalize wr.heap.size+1=br at HRX ⊢
      generalize wr.heap.size=bx at HBX ⊢
      have hbx:=HBX.out
      have hrx:=HRX.out
      have v2:=hbx.cell 2
      have v3:=hbx.cell 3
      have v4:=hbx.cell 4
      have v5:=hbx.cell 5
      have v6:=hbx.cell 6
      have u2:=hrx.cell 2
      have u3:=hrx.cell 3
      have u4:=hrx.cell 4
      clear c0 c1 c2 c3 c4 c5 c6 c7 c8 c9 hlk hlk2 g0 gl hbx hrx HSW
      cases had <;> cases has <;> (go_wp2) <;> go_roundw
      case rel=>exact ⟨k+1,_,by omega,by go_num,rfl,by omega,by omega,HEX.out⟩
      case measure=>simp [intOf];omega
      case rel=>exact ⟨k+1,_,by omega,by go_num,rfl,by omega,by omega,HEX.out⟩
      case measure=>simp [intOf];omega
      case rel=>exact ⟨k+1,_,by omega,by go_num,rfl,by omega,by omega,HEX.out⟩
      case measure=>simp [intOf];omega
      case rel=>exact ⟨k+1,_,by omega,by go_num,rfl,by omega,by omega,HEX.out⟩
      case measure=>simp [intOf];omega
    · have d1:decide ((k:Int)<(l.length:Int))=false:=by simp;omega
      have d2:decide (s≤2000)=true:=by simp;omega
      go_wp2
      go_ret
      exact ⟨rfl,HEW.out⟩
end
section
open Go.RowKit Go.Shelf
attribute [local go_sem ↓] Go.wp_at_zero Go.wp_at_succ
theorem after_yes (r:RowT) (had:Bool) (o1 o2 o3:Int) (w:World) :
    Calls Tryz.prog 67 #[.agg #[.int .i64 r.t,.int .i64 r.k,.bool had,.int .i64 o1,.int .i64 o2,.int .i64 o3,.bool true,.int .i64 r.a,.int .i64 r.b,.int .i64 r.c]] w fun e w'=>
      e=.returned (.tuple #[.agg #[.int .i64 r.t,.int .i64 r.k,.int .i64 r.a,.int .i64 r.b,.int .i64 r.c],.bool true])∧Below w.heap.size w w':=by
  obtain ⟨t,k,a,b,c⟩:=r
  dsimp only
  go_enter Tryz.func67,Tryz.ntmps67
  go_wp2_with fail
  refine (half_yes _ _ _ _ _ _ _ _ _ _ _ _ _ _).mono ?_
  rintro e W1 ⟨rfl,hb1⟩
  have HL1:=Lib.hid (ext_call (ext_alloc (ext_new w _) _) hb1)
  have hB1:=(Blk.new' (w.alloc (.cells #[.int .i64 t,.int .i64 k,.bool had,.int .i64 o1,.int .i64 o2,.int .i64 o3,.bool true,.int .i64 a,.int .i64 b,.int .i64 c] 72)) 67 #[.int .i64 0,.int .i64 0,.int .i64 0,.int .i64 0,.int .i64 0] (b:=w.heap.size+1) (by simp)).ext hb1
  have HB1:=Lib.hid hB1
  have HI:=Lib.hid row_size
  have H1:=Lib.hid (row_one t k a b c)
  clear hB1 hb1
  go_wp2_with (refine wpList_store_blk rfl 67 (.tmp 2) (.tmp 10) rfl (w.heap.size+1) #[.int .i64 t,.int .i64 k,.int .i64 a,.int .i64 b,.int .i64 c] rfl rfl 67 #[.int .i64 0,.int .i64 0,.int .i64 0,.int .i64 0,.int .i64 0] HB1.out HI.out rfl H1.out ?_;intro W2 hB2 hg2)
  have c0:=hB2.cell 0
  have c1:=hB2.cell 1
  have c2:=hB2.cell 2
  have c3:=hB2.cell 3
  have c4:=hB2.cell 4
  refine bodyPost_ret (v:=.tuple #[.agg #[.int .i64 t,.int .i64 k,.int .i64 a,.int .i64 b,.int .i64 c],.bool true]) (by simp [results,Tryz.results67,go_sem,c0,c1,c2,c3,c4]) rfl ⟨rfl,?_⟩
  exact HL1.out.grown hg2 HL1.out.size (fun k e=>by injection e with e;omega)
theorem after_no (r:RowT) (had:Bool) (o1 o2 o3:Int) (w:World) :
    Calls Tryz.prog 67 #[.agg #[.int .i64 r.t,.int .i64 r.k,.bool had,.int .i64 o1,.int .i64 o2,.int .i64 o3,.bool false,.int .i64 r.a,.int .i64 r.b,.int .i64 r.c]] w fun e w'=>
      e=.returned (.tuple #[.agg #[.int .i64 0,.int .i64 0,.int .i64 0,.int .i64 0,.int .i64 0],.bool false])∧Below w.heap.size w w':=by
  obtain ⟨t,k,a,b,c⟩:=r
  dsimp only
  go_enter Tryz.func67,Tryz.ntmps67
  go_wp2_with fail
  refine (half_no _ _ _ _ _ _ _ _ _ _ _ _ _ _).mono ?_
  rintro e W1 ⟨rfl,hb1⟩
  have HL1:=Lib.hid (ext_call (ext_alloc (ext_new w _) _) hb1)
  have hB1:=(Blk.new' (w.alloc (.cells #[.int .i64 t,.int .i64 k,.bool had,.int .i64 o1,.int .i64 o2,.int .i64 o3,.bool false,.int .i64 a,.int .i64 b,.int .i64 c] 72)) 67 #[.int .i64 0,.int .i64 0,.int .i64 0,.int .i64 0,.int .i64 0] (b:=w.heap.size+1) (by simp)).ext hb1
  have HB1:=Lib.hid hB1
  have HI:=Lib.hid row_size
  have H1:=Lib.hid (row_one 0 0 0 0 0)
  clear hB1 hb1
  go_wp2_with (refine wpList_store_blk rfl 67 (.tmp 2) (.tmp 10) rfl (w.heap.size+1) #[.int .i64 0,.int .i64 0,.int .i64 0,.int .i64 0,.int .i64 0] rfl rfl 67 #[.int .i64 0,.int .i64 0,.int .i64 0,.int .i64 0,.int .i64 0] HB1.out HI.out rfl H1.out ?_;intro W2 hB2 hg2)
  have c0:=hB2.cell 0
  have c1:=hB2.cell 1
  have c2:=hB2.cell 2
  have c3:=hB2.cell 3
  have c4:=hB2.cell 4
  refine bodyPost_ret (v:=.tuple #[.agg #[.int .i64 0,.int .i64 0,.int .i64 0,.int .i64 0,.int .i64 0],.bool false]) (by simp [results,Tryz.results67,go_sem,c0,c1,c2,c3,c4]) rfl ⟨rfl,?_⟩
  exact HL1.out.grown hg2 HL1.out.size (fun k e=>by injection e with e;omega)
def applyC (rs:List RowT) (x:ChgT):List RowT:=if x.has then putR rs ⟨x.t,x.k,x.n1,x.n2,x.n3⟩ else delR rs x.t x.k
def applyF (rs:List RowT) (l:List ChgT):List RowT:=l.foldl applyC rs
theorem applyF_succ (rs:List RowT) (l:List ChgT) (k:Nat) (x:ChgT) (h:l[k]? = some x):applyF rs (l.take (k+1))=applyC (applyF rs (l.take k)) x:=by
  unfold applyF
  rw [List.take_add_one,h]
  simp
theorem ChgsAt.ne {w:World} {b off c gs gm:Nat} {pos:Int} {l:List ChgT} {rs:List RowT} (h:ChgsAt w (.slice (some ⟨b,off,none⟩) l.length c) l) (h0:0<l.length) (hS:StateR w gs gm pos rs):b≠gs∧b≠gm:=by
  obtain ⟨b',off',c',e,_,h1⟩:=h.at_ (List.getElem?_eq_getElem h0)
  injection e with e _ _
  injection e with e
  injection e with e1 e2
  subst e1 e2
  have h2:=h1 9 (by omega)
  rw [Nat.zero_mul,Nat.add_zero] at h2
  constructor
  · rintro rfl
    rw [hS.1.cell] at h2
    simp [ChgT.arr] at h2
  · rintro rfl
    obtain ⟨es,c2,hm,_⟩:=hS.2
    unfold MapAt at hm
    simp [World.cell?,hm,ChgT.arr] at h2
theorem ChgsAt.ext2 {w W:World} {v:Value} {l:List ChgT} {gs gm:Nat} {pos:Int} {rs:List RowT} (h:ChgsAt w v l) (hS:StateR w gs gm pos rs) (k:Ext2 gs gm w W):ChgsAt W v l:=by
  have h':=h
  obtain ⟨A,c,rfl,hc,h⟩:=h
  refine ⟨A,c,rfl,hc,fun h0=>?_⟩
  obtain ⟨b,off,rfl,hcell⟩:=h h0
  obtain ⟨n1,n2⟩:=ChgsAt.ne h' h0 hS
  refine ⟨b,off,rfl,fun j x hx i hi=>?_⟩
  have h1:=hcell j x hx i hi
  rw [Array.getElem?_eq_getElem (show i<x.arr.size from hi)] at h1 ⊢
  exact cell_ext2 h1 k n1 n2
theorem applyR (rs:List RowT) (l:List ChgT) (v:Value) (gs gm:Nat) (pos:Int) (hp:0≤pos∧pos≤1000) (w:World) (hS:StateR w gs gm pos rs) (hv:ChgsAt w v l) (hl:ChgsOK l) (hsz:rs.length≤1000) (hfit:∀ x ∈ l,fillC rs x=x) :
    Calls Tryz.prog 37 #[.pointer (some ⟨gs,0,none⟩),.agg #[.int .i64 (pos+1),v]] w fun e w'=>(validF l=false∧e=.returned (.int .i64 40)∧Below w.heap.size w w')∨(validF l=true∧e=.returned (.int .i64 0)∧StateR w' gs gm (pos+1) (applyF rs l)∧Ext2 gs gm w w'):=by
  have HE0:=Lib.hid (ext_new w (.cells #[.int .i64 (pos+1),v] 75))
  have HS0:=Lib.hid (hS.ext HE0.out)
  have HR0:=Lib.hid (Blk.new w 75 #[.int .i64 (pos+1),v])
  have HFT:=Lib.hid (fitsR rs l v gs gm pos hp _ HS0.out (hv.ext HE0.out) hl hsz hfit)
  have HVL:=Lib.hid hv
  have HS:=Lib.hid hS
  have hne:gs≠gm:=by
    rintro rfl
    have h1:=hS.1
    obtain ⟨es,c2,h2,_⟩:=hS.2
    unfold Blk at h1
    unfold MapAt at h2
    rw [h1] at h2
    cases h2
  have hgs:=hS.1.lt
  have hgm:=hS.2.lt
  have hfew:=hl.few
  obtain ⟨A,c,rfl,hc,-⟩:=hv
  clear hS hl hfit
  go_enter Tryz.func37,Tryz.ntmps37
  go_wp2_with fail
  refine HFT.out.mono ?_
  rintro e W1 ⟨rfl,hb1⟩
  generalize hvf:validF l=b
  have HVF:=Lib.hid hvf
  clear hvf
  cases b
  · have HL1:=Lib.hid (ext_call HE0.out hb1)
    clear hb1
    go_wp2
    go_ret
    exact .inl ⟨HVF.out,rfl,HL1.out⟩
  have HR1:=Lib.hid (HR0.out.ext hb1)
  have HS1:=Lib.hid (HS0.out.ext hb1)
  have HL1:=Lib.hid (Ext2.of_ext (a:=gs) (b:=gm) (ext_call HE0.out hb1))
  have a1:=HR1.out.cell 1
  have al:=HR1.out.lt
  clear hb1 HR0 HS0 HFT HE0
  go_wp2
  clear a1 al
  go_loopw [6,7,8,9,21,30] (fun _ _ _ _ i _ W=>∃ k:Nat,k≤l.length∧i=.int .i64 k∧StateR W gs gm pos (applyF rs (l.take k))∧Blk W w.heap.size 75 #[.int .i64 (pos+1),.slice A l.length c]∧Ext2 gs gm w W) (fun _ _ _ _ i _ _=>l.length-(intOf i).toNat)
  case atStart=>exact ⟨0,Nat.zero_le _,rfl,by rw [List.take_zero];exact HS1.out,HR1.out,HL1.out⟩
  case round=>
    obtain ⟨k,hk,rfl,hst,hrb,hE⟩:=hrel
    have HST:=Lib.hid hst
    have HRB:=Lib.hid hrb
    have HE:=Lib.hid hE
    clear hst hrb hE HS1 HR1 HL1
    by_cases hlt:k<l.length
    · obtain ⟨x,hx⟩:∃ x,l[k]? = some x:=⟨_,List.getElem?_eq_getElem hlt⟩
      have HX:=Lib.hid (applyF_succ rs l k x hx)
      obtain ⟨b,off,c',hA,_,hc9⟩:=(HVL.out.ext2 HS.out HE.out).at_ hx
      injection hA with hA hn' hc'
      subst hA;subst hc'
      clear hn'
      have c0:=hc9 0 (by omega)
      have c1:=hc9 1 (by omega)
      have c2:=hc9 2 (by omega)
      have c3:=hc9 3 (by omega)
      have c4:=hc9 4 (by omega)
      have c5:=hc9 5 (by omega)
      have c6:=hc9 6 (by omega)
      have c7:=hc9 7 (by omega)
      have c8:=hc9 8 (by omega)
      have c9:=hc9 9 (by omega)
      obtain ⟨t,kk,had,o1,o2,o3,has,n1,n2,n3⟩:=x
      simp [ChgT.arr] at c0 c1 c2 c3 c4 c5 c6 c7 c8 c9
      have e2:IntKind.i64.wrap ((k:Int)+1)=(k:Int)+1:=by rw [IntWalk.i64_in _ (by omega)]
      have d1:decide ((k:Int)<(l.length:Int))=true:=by simp;omega
      have q0:(0:Int)≤(k:Int):=by omega
      have q1:(k:Int)<(l.length:Int):=by omega
      have hws:=HE.out.size
      clear hc9 hx
      have HKB:=Lib.hid (Blk.new' (wr.alloc (.cells #[.int .i64 t,.int .i64 kk,.bool had,.int .i64 o1,.int .i64 o2,.int .i64 o3,.bool has,.int .i64 n1,.int .i64 n2,.int .i64 n3] 72)) 105 #[.int .i64 t,.int .i64 kk] (b:=wr.heap.size+1) (by simp))
      cases has
      · have HAF:=Lib.hid (fun W:World=>after_no ⟨t,kk,n1,n2,n3⟩ had o1 o2 o3 W)
        dsimp only at HAF
        go_wp2_with fail
        refine (HAF.out _).mono ?_
        rintro e W2 ⟨rfl,hb2⟩
        have hK2:=HKB.out.ext hb2
        have HS2:=Lib.hid (((HST.out.ext (ext_new _ _)).ext (ext_new _ _)).ext hb2)
        have HR2:=Lib.hid (((HRB.out.alloc _).alloc _).ext hb2)
        have HL2:=Lib.hid ((((HE.out.ext (ext_new _ _)).ext (ext_new _ _)).ext hb2))
        clear hb2 c0 c1 c2 c3 c4 c5 c6 c7 c8 c9
        have k0:=hK2.cell 0;have k1:=hK2.cell 1
        have kl:=hK2.lt
        have s0:=HS2.out.1.cell 0
        have gl:=HS2.out.1.lt
        obtain ⟨o,hdel,hmp⟩:=deleteR (HS2.out.2.ext (ext_new W2 (.cells #[.int .i64 0,.int .i64 0,.int .i64 0,.int .i64 0,.int .i64 0] 67)).drew) t kk
        clear hK2
        go_wp2
        go_region
        generalize hW3:World.putObj (W2.alloc (.cells #[.int .i64 0,.int .i64 0,.int .i64 0,.int .i64 0,.int .i64 0] 67)).drew gm o=W3 at *
        have HS3:=Lib.hid (show StateR W3 gs gm pos (applyF rs (l.take (k+1))) by
          rw [HX.out]
          refine ⟨?_,hmp⟩
          rw [← hW3]
          exact (HS2.out.1.alloc _).drew.putObj _ hne)
        have HR3:=Lib.hid (show Blk W3 w.heap.size 75 #[.int .i64 (pos+1),.slice (some ⟨b,off,none⟩) l.length c] by
          rw [← hW3]
          exact (HR2.out.alloc _).drew.putObj _ (by omega))
        have HE3:=Lib.hid (show Ext2 gs gm w W3 by rw [← hW3];exact ((HL2.out.ext (ext_new _ _)).drewN 1).put _)
        clear hW3 hmp hdel s0 k0 k1
        go_wp2
        go_roundw
        case rel=>exact ⟨k+1,by omega,by go_num,HS3.out,HR3.out,HE3.out⟩
        case measure=>simp [intOf];omega
      · have HAF:=Lib.hid (fun W:World=>after_yes ⟨t,kk,n1,n2,n3⟩ had o1 o2 o3 W)
        dsimp only at HAF
        go_wp2_with fail
        refine (HAF.out _).mono ?_
        rintro e W2 ⟨rfl,hb2⟩
        have hK2:=HKB.out.ext hb2
        have HS2:=Lib.hid (((HST.out.ext (ext_new _ _)).ext (ext_new _ _)).ext hb2)
        have HR2:=Lib.hid (((HRB.out.alloc _).alloc _).ext hb2)
        have HL2:=Lib.hid ((((HE.out.ext (ext_new _ _)).ext (ext_new _ _)).ext hb2))
        clear hb2 c0 c1 c2 c3 c4 c5 c6 c7 c8 c9
        have k0:=hK2.cell 0;have k1:=hK2.cell 1
        have kl:=hK2.lt
        have s0:=HS2.out.1.cell 0
        have gl:=HS2.out.1.lt
        obtain ⟨o,hup,hmp⟩:=updateR (HS2.out.2.ext (ext_new W2 (.cells #[.int .i64 t,.int .i64 kk,.int .i64 n1,.int .i64 n2,.int .i64 n3] 67)).drew) ⟨t,kk,n1,n2,n3⟩
        dsimp only at hup
        clear hK2
        go_wp2
        go_region
        generalize hW3:World.putObj (W2.alloc (.cells #[.int .i64 t,.int .i64 kk,.int .i64 n1,.int .i64 n2,.int .i64 n3] 67)).drew gm o=W3 at *
        have HS3:=Lib.hid (show StateR W3 gs gm pos (applyF rs (l.take (k+1))) by
          rw [HX.out]
          refine ⟨?_,hmp⟩
          rw [← hW3]
          exact (HS2.out.1.alloc _).drew.putObj _ hne)
        have HR3:=Lib.hid (show Blk W3 w.heap.size 75 #[.int .i64 (pos+1),.slice (some ⟨b,off,none⟩) l.length c] by
          rw [← hW3]
          exact (HR2.out.alloc _).drew.putObj _ (by omega))
        have HE3:=Lib.hid (show Ext2 gs gm w W3 by rw [← hW3];exact ((HL2.out.ext (ext_new _ _)).drewN 1).put _)
        clear hW3 hmp hup s0 k0 k1
        go_wp2
        go_roundw
        case rel=>exact ⟨k+1,by omega,by go_num,HS3.out,HR3.out,HE3.out⟩
        case measure=>simp [intOf];omega
    · have d1:decide ((k:Int)<(l.length:Int))=false:=by simp;omega
      have hRB:=HRB.out
      have a0:=hRB.cell 0
      have al:=hRB.lt
      have hST:=HST.out
      have q1:=hST.1.cell 1
      have f1:=hST.1.frozen 1
      have gl:=hST.1.lt
      have HTK:=Lib.hid (show l.take k=l from List.take_of_length_le (by omega))
      clear hRB hST
      go_wp2
      go_ret
      exact .inr ⟨HVF.out,rfl,⟨HST.out.1.set_ 1 _,by have h9:=HST.out.2;rw [HTK.out] at h9;obtain ⟨es,c9,hm,h9⟩:=h9;exact ⟨es,c9,hm.set _ _ hne.symm,h9⟩⟩,HE.out.setA _ _⟩
end
end Go.Proofs.YtimoapjhepmehaaGreatDoor
