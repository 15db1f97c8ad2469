/-
  Part 21 of 54: the contracts that the proof of the last part uses; each stands under its own head.
-/
import Derived.Test.YtimoapjhepmehaaGreatDoorP19
import Derived.Test.YtimoapjhepmehaaGreatDoorP18
import Derived.Test.YtimoapjhepmehaaGreatDoorP16
import Derived.Test.YtimoapjhepmehaaGreatDoorP20
import Derived.BigQuiet
import Derived.Deep.Cut
import Derived.Deep.CutRange
import Derived.Deep.CutBlock
import Derived.Deep.Light
set_option linter.unusedSimpArgs false
set_option linter.unusedVariables false
set_option maxHeartbeats 4000000
set_option maxRecDepth 100000
namespace Go.Proofs.YtimoapjhepmehaaGreatDoor
section
open Go.RowKit Go.Shelf
theorem logC_parts {rs:List RowT} {t k a b d:Int} {s:Bool} {G:Option RowT} {r:RowT} {h:Bool} (hG:G=getR rs t k) (hr:r=G.getD zeroR) (hh:h=G.isSome) :
    ((logC rs t k a b d s).t=t∧(logC rs t k a b d s).k=k∧(logC rs t k a b d s).had=h∧(logC rs t k a b d s).o1=r.a∧(logC rs t k a b d s).o2=r.b∧(logC rs t k a b d s).o3=r.c∧(logC rs t k a b d s).has=(!h || s)) ∧
    ((!h || s)=true→(logC rs t k a b d s).n1=a∧(logC rs t k a b d s).n2=b∧(logC rs t k a b d s).n3=d)∧((!h || s)=false→(logC rs t k a b d s).n1=0∧(logC rs t k a b d s).n2=0∧(logC rs t k a b d s).n3=0):=by
  subst hG
  cases hg:getR rs t k with
  | none=>
    rw [hg] at hr hh
    subst hr hh
    rw [logC_none hg]
    simp [zeroR]
  | some q=>
    rw [hg] at hr hh
    subst hr hh
    cases s with
    | false=>rw [logC_del hg];simp
    | true=>rw [logC_put hg];simp
def SexAt (w:World) (v:Value) (T:List (Nat→Int)):Prop:=
  ∃ A c,v=.slice A T.length c∧(0<T.length→∃ b off,A=some ⟨b,off,none⟩∧∀ (j:Nat) (x:Nat→Int),T[j]? = some x→∀ i,i<6→w.cell? ⟨b,off+j*6+i,none⟩=some (.int .i64 (x i)))
theorem SexAt.ext {w W:World} {v:Value} {T:List (Nat→Int)} (h:SexAt w v T) (k:Below w.heap.size w W):SexAt W v T:=by
  obtain ⟨A,c,rfl,h⟩:=h
  refine ⟨A,c,rfl,fun h0=>?_⟩
  obtain ⟨b,off,hA,hc⟩:=h h0
  exact ⟨b,off,hA,fun j x hx i hi=>cell_ext (hc j x hx i hi) k⟩
def Sex64 (T:List (Nat→Int)):Prop:=∀ x ∈ T,∀ i,i<6→in64 (x i)
structure LgI (B gs:Nat) (W:World) (ov:Value) (R:List (List ChgT × Nat × Nat)) (rows:List RowT):Prop where
  st:RefS W gs rows (R.length:Int)
  own:W.ownsRow B 75 2 ov R.length (rcF 0 R)
  chg:∀ x ∈ R,ChgB W x.2.1 x.1∧x.1.length≤x.2.2
  agree:Agree rows (stF (trs R))
  ok:StOK (stF (trs R))
  run:RunG (trs R)
  gen:∀ x ∈ R,∀ c ∈ x.1,ChgG c
section
variable {B gs:Nat} {W V:World} {ov:Value} {R:List (List ChgT × Nat × Nat)} {rows:List RowT}
theorem LgI.ext (h:LgI B gs W ov R rows) (k:Below W.heap.size W V):LgI B gs V ov R rows:=
  ⟨h.st.ext k,own_ext h.own k,fun x hx=>⟨(h.chg x hx).1.ext k,(h.chg x hx).2⟩,h.agree,h.ok,h.run,h.gen⟩
theorem LgI.start (h:RefS W gs [] 0):LgI B gs W (.slice none 0 0) [] []:=
  ⟨h,World.ownsRow_nil _ _ _ _,by simp,Agree.nil,StOK.nil,RunG.nil,by simp⟩
theorem ChgB.ext2T {g:Nat} {t:TypeId} {cs:Array Value} {b:Nat} {l:List ChgT} (h:ChgB W b l) (k:Ext2 g g W V) (hg:Blk W g t cs) (ht:t≠72):ChgB V b l:=by
  obtain ⟨cur,h1,h2⟩:=h
  exact ⟨cur,h1.ext2 k (fun e=>blkNe h1 hg ht.symm e) (fun e=>blkNe h1 hg ht.symm e),h2⟩
theorem RefS.grown {n:Nat} {pos:Int} (h:RefS W gs rows pos) (hg:W.grownBy V ov.ownBlock) (ho:W.ownsRow B 75 2 ov n (rcF 0 R)) (hn:n=R.length) (h0:n=0→ov=.slice none 0 0):RefS V gs rows pos:=by
  obtain ⟨v,h1,h2,h3⟩:=h
  refine ⟨v,h1.grownT hg ho (by decide),?_,h3⟩
  obtain ⟨A,c,rfl,h4⟩:=h2
  refine ⟨A,c,rfl,fun hr=>?_⟩
  obtain ⟨g2,rfl,hg2,h5⟩:=h4 hr
  have hne:some g2≠ov.ownBlock:=by
    intro e
    have hn0:0<n:=by
      rcases Nat.eq_zero_or_pos n with h6|h6
      · rw [h0 h6] at e;cases e
      · exact h6
    obtain ⟨g,cap,rfl,_,_,_,hc⟩:=own_cells ho hn0
    have e2:g2=g:=Option.some.inj e
    subst e2
    obtain ⟨x,hx⟩:∃ x,R[0]? = some x:=⟨_,List.getElem?_eq_getElem (by omega)⟩
    obtain ⟨r,hr0⟩:∃ r,rows[0]? = some r:=⟨_,List.getElem?_eq_getElem hr⟩
    have h7:=hc _ _ (rcF_at R 0 0 x hx).2
    have h8:=h5 0 r hr0 1 (by omega)
    simp only [Nat.zero_mul,Nat.zero_add] at h7 h8
    rw [h7] at h8
    simp [encR] at h8
  exact ⟨g2,rfl,Nat.lt_of_lt_of_le hg2 hg.size,fun j r hj i hi=>(World.cell?_of_block (hg.block g2 hg2 hne)).trans (h5 j r hj i hi)⟩
theorem LgI.push {X U:World} {ov2:Value} {l:List ChgT} {q d:Nat} (h:LgI B gs W ov R rows) (hnil:R.length=0→ov=.slice none 0 0) (hS:RefS X gs (insF rows l) ((R.length:Int)+1)) (hx:Ext2 gs gs W X) (hU:Below X.heap.size X U) (hq:ChgB U q l) (hd:l.length≤d)
    (hL:LgL (stF (trs R)) l) (h0:0<l.length) (h8:l.length≤8) (ho:V.ownsRow B 75 2 ov2 (R.length+1) (rcF 0 R++[.int .i64 ((R.length:Int)+1),.slice (some ⟨q,0,none⟩) l.length d])) (hg:U.grownBy V ov.ownBlock) :
    LgI B gs V ov2 (R++[(l,q,d)]) (insF rows l):=by
  obtain ⟨sv,hsb,-⟩:=h.st
  have hoX:X.ownsRow B 75 2 ov R.length (rcF 0 R):=own_ext2 h.own hx hsb (by decide)
  have hoU:=own_ext hoX hU
  have hcU:∀ x ∈ R,ChgB U x.2.1 x.1:=fun x hx2=>((h.chg x hx2).1.ext2T hx hsb (by decide)).ext hU
  have hpw:=(hL.ok h8).pairwise
  have hag:Agree (insF rows l) (applyF (stF (trs R)) l):=h.agree.ins l (fun c hc=>(BefOK.of_fill h.agree (hL.fill c hc)).had) hpw
  have hst:stF (trs (R++[(l,q,d)]))=applyF (stF (trs R)) l:=by rw [trs_snoc,stF_snoc]
  refine ⟨?_,?_,fun x hx2=>?_,by rw [hst];exact hag,by rw [hst];exact h.ok.apply hL.gen,h.run.snoc rfl (hL.ok h8) (hL.valid h0) hL.fill (Nat.le_trans h.ok.few (by decide)),fun x hx2 c hc=>?_⟩
  · rw [List.length_append,List.length_singleton]
    exact (hS.ext hU).grown hg hoU rfl hnil
  · rw [rcF_append,List.length_append,List.length_singleton,Nat.zero_add]
    exact ho
  · rcases List.mem_append.1 hx2 with h1|h1
    · exact ⟨(hcU x h1).grownT hg hoU (by decide),(h.chg x h1).2⟩
    · simp at h1
      subst h1
      exact ⟨hq.grownT hg hoU (by decide),hd⟩
  · rcases List.mem_append.1 hx2 with h1|h1
    · exact h.gen x h1 c hc
    · simp at h1
      subst h1
      exact hL.gen c hc
theorem LgI.recs (h:LgI B gs W ov R rows):RecsL W ov 1 (trs R):=by
  rcases Nat.eq_zero_or_pos R.length with h0|h0
  · obtain ⟨A,c,hv⟩:=own_shape h.own
    exact ⟨A,c,by rw [trs_length];exact hv,by rw [trs_length,h0];omega,fun h1=>by rw [trs_length] at h1;omega⟩
  · obtain ⟨g,cap,rfl,_,_,hcap,hc⟩:=own_cells h.own h0
    refine ⟨_,cap,by rw [trs_length],by rw [trs_length];exact hcap,fun _=>⟨g,rfl,fun j l hj=>?_⟩⟩
    unfold trs at hj
    rw [List.getElem?_map,Option.map_eq_some_iff] at hj
    obtain ⟨x,hx,rfl⟩:=hj
    obtain ⟨h1,h2⟩:=rcF_at R 0 j x hx
    refine ⟨?_,_,hc _ _ h2,((h.chg x (List.mem_of_getElem? hx)).1).at_ (h.chg x (List.mem_of_getElem? hx)).2⟩
    rw [hc _ _ h1,Nat.zero_add,Int.add_comm]
    rfl
end
structure LgK (Y:World) (W:World) (rs:List RowT) (lv:Value) (l:List ChgT):Prop where
  ext:Below Y.heap.size Y W
  own:W.ownsRow Y.heap.size 72 10 lv l.length (cc l)
  nil:l.length=0→lv=.slice none 0 0
  lg:LgL rs l
theorem LgK.chgs {Y U W:World} {rs:List RowT} {lv:Value} {l:List ChgT} (h:LgK Y U rs lv l) (e:Below U.heap.size U W):ChgsAt W lv l:=(own_chgs h.own h.nil).ext e
theorem RefS.lt {W:World} {g:Nat} {rows:List RowT} {pos:Int} (h:RefS W g rows pos):g<W.heap.size:=by obtain ⟨v,h1,_⟩:=h;exact h1.lt
theorem Blk.ext2g {w W:World} {g b:Nat} {t:TypeId} {cs:Array Value} (h:Blk w b t cs) (k:Ext2 g g w W) (hg:g<b):Blk W b t cs:=h.ext2 k (by omega) (by omega)
theorem LgI.apply {B gs:Nat} {W Y:World} {ov lv:Value} {R:List (List ChgT × Nat × Nat)} {rows rs:List RowT} {l:List ChgT} (h:LgI B gs W ov R rows) (hL:LgL rs l) (ho:W.ownsRow Y.heap.size 72 10 lv l.length (cc l)) (hn:l.length=0→lv=.slice none 0 0) (h0:0<l.length) (h8:l.length≤3) (hrs:rs=stF (trs R)) (hR:R.length≤1000) (hg:gs<Y.heap.size) :
    ∀ X:World,Below W.heap.size W X→Calls Tryz.prog 46 #[.pointer (some ⟨gs,0,none⟩),.agg #[.int .i64 ((R.length:Int)+1),lv]] X fun e w'=>e=.returned (.int .i64 0)∧RefS w' gs (insF rows l) ((R.length:Int)+1)∧Ext2 gs gs X w':=by
  intro X hX
  subst hrs
  have hf:=agree_rows h.agree h.ok
  refine refApply rows h.agree.sort (R.length:Int) (by omega) l (hL.ok (by omega)) (hL.valid h0) (fun c hc=>BefOK.of_fill h.agree (hL.fill c hc)) (by omega) gs lv X (h.st.ext hX) ((own_chgs ho hn).ext hX) (fun b off c hv e=>?_)
  subst e
  have h9:=own_low ho b (by rw [hv];rfl)
  omega
theorem own_ext2T {W X V:World} {B sz n gs:Nat} {v:Value} {xs:List Value} {rows:List RowT} {pos:Int} (h:W.ownsRow B 75 sz v n xs) (hS:RefS W gs rows pos) (e:Below W.heap.size W X) (k:Ext2 gs gs X V):V.ownsRow B 75 sz v n xs:=by
  obtain ⟨sv,hb,-⟩:=hS
  exact own_ext2 (own_ext h e) k (hb.ext e) (by decide)
theorem appRec (W:World) (base:Nat) (hb:base≤W.heap.size) (v:Value) (R:List (List ChgT × Nat × Nat)) (hown:W.ownsRow base 75 2 v R.length (rcF 0 R)) (hn:R.length≤1000000) (p:Int) (A:Option Addr) (n c:Nat) :
    AppOK Tryz.prog (W.alloc (.cells #[.int .i64 p,.slice A n c] 75)) 29 29 v (.slice (some ⟨W.heap.size,0,none⟩) 1 1)∧∃ W',appW Tryz.prog (W.alloc (.cells #[.int .i64 p,.slice A n c] 75)) 29 29 v (.slice (some ⟨W.heap.size,0,none⟩) 1 1)=W' ∧
      ∃ v',appV Tryz.prog (W.alloc (.cells #[.int .i64 p,.slice A n c] 75)) 29 29 v (.slice (some ⟨W.heap.size,0,none⟩) 1 1)=v'∧W'.ownsRow base 75 2 v' (R.length+1) (rcF 0 R++[.int .i64 p,.slice A n c])∧(W.alloc (.cells #[.int .i64 p,.slice A n c] 75)).grownBy W' v.ownBlock∧∃ A' c',v'=.slice A' (R.length+1) c':=by
  obtain ⟨ii,hii,hzi0,hzi1,hzi2⟩:=info_parts recg_info
  obtain ⟨h1,h2,h3⟩:=app_own (P:=Tryz.prog) (w:=W.alloc (.cells #[.int .i64 p,.slice A n c] 75)) base 29 29 75 ii (.agg #[.int .i64 0,.slice none 0 0]) 2 32 Tryz.underlying29 hii hzi0 hzi1 hzi2 rfl (by decide) v R.length (rcF 0 R) (hown.alloc _) ⟨W.heap.size,0,none⟩ 1 1 [.int .i64 p,.slice A n c] rfl (news_blk (Blk.new W 75 _)) (by simp [Value.oneCell']) (by unfold maxLen;omega) (by omega) (by simp;omega)
  exact ⟨h1,_,rfl,_,rfl,h2,h3,own_shape h2⟩
theorem arr_of {d:ChgT} {t k o1 o2 o3 x y z:Int} {h s:Bool} (h1:d.t=t∧d.k=k∧d.had=h∧d.o1=o1∧d.o2=o2∧d.o3=o3∧d.has=s) (h2:d.n1=x∧d.n2=y∧d.n3=z):d.arr=#[.int .i64 t,.int .i64 k,.bool h,.int .i64 o1,.int .i64 o2,.int .i64 o3,.bool s,.int .i64 x,.int .i64 y,.int .i64 z]:=by
  obtain ⟨rfl,rfl,rfl,rfl,rfl,rfl,rfl⟩:=h1
  obtain ⟨rfl,rfl,rfl⟩:=h2
  rfl
theorem keyIn_take {l:List ChgT} (d:ChgT) {j:Nat} {y:ChgT} (h:l[j]? = some y):keyIn (l.take (j+1)) d=(keyIn (l.take j) d || (decide (y.t=d.t) && decide (y.k=d.k))):=by
  unfold keyIn
  rw [List.take_add_one,h,List.any_append]
  simp
theorem drew_alloc (w:World) (o:Obj):w.drew.alloc o=(w.alloc o).drew:=rfl
theorem ChgsAt.cap {w:World} {A:Option Addr} {n c:Nat} {l:List ChgT} (h:ChgsAt w (.slice A n c) l):l.length≤c:=by
  obtain ⟨A9,c9,h9,h8,_⟩:=h
  injection h9 with _ _ h9
  omega
theorem cells10 {w:World} {g:Nat} {d:ChgT} (h:Blk w g 72 d.arr):∀ Z,Below w.heap.size w Z→Z.cell? ⟨g,0,none⟩=some (.int .i64 d.t)∧Z.cell? ⟨g,1,none⟩=some (.int .i64 d.k)∧Z.cell? ⟨g,2,none⟩=some (.bool d.had)∧Z.cell? ⟨g,3,none⟩=some (.int .i64 d.o1)∧Z.cell? ⟨g,4,none⟩=some (.int .i64 d.o2)∧Z.cell? ⟨g,5,none⟩=some (.int .i64 d.o3)∧Z.cell? ⟨g,6,none⟩=some (.bool d.has)∧Z.cell? ⟨g,7,none⟩=some (.int .i64 d.n1)∧Z.cell? ⟨g,8,none⟩=some (.int .i64 d.n2)∧Z.cell? ⟨g,9,none⟩=some (.int .i64 d.n3)∧Below w.heap.size w Z:=fun Z k=>
  have b:=h.ext k
  ⟨b.cell 0,b.cell 1,b.cell 2,b.cell 3,b.cell 4,b.cell 5,b.cell 6,b.cell 7,b.cell 8,b.cell 9,k⟩
end
section
open Go.RowKit Go.Shelf
section
attribute [local go_sem ↓] Go.wp_at_zero Go.wp_at_succ
end
end
section
open Go.RowKit Go.Shelf
section
variable {B gs gl gst gm:Nat} {cs:Array Value} {rv hv:Value} {R:List (List ChgT × Nat × Nat)} {H:List (ByteArray × ByteArray)} {rs:List RowT} {w:World}
end
end
section
open Go.RowKit Go.Shelf
attribute [local go_sem ↓] Go.wp_at_zero Go.wp_at_succ
theorem strs_sliceG {S:Nat→Prop} {w:World} {v:Value} {l:List ByteArray} (h:Strs S w v l):∃ A c,v=.slice A l.length c:=by
  obtain ⟨A,c,rfl,_⟩:=h
  exact ⟨_,_,rfl⟩
def PathG (w:World) (l:List ByteArray) (e:Ending) (w':World):Prop:=∃ A c,e=.returned (.tuple #[.slice A l.length c,.int .i64 0])∧Strs (fun b=>w.heap.size≤b) w' (.slice A l.length c) l∧Below w.heap.size w w'
section
variable {B gl gs:Nat} {rv hv:Value} {R:List (List ChgT × Nat × Nat)} {H:List (ByteArray × ByteArray)}
theorem logHeadG (p:Nat) (x:ByteArray × ByteArray) (hx:H[p]? = some x) (w:World) (hL:LogG B w gl rv hv R H) :
    Calls Tryz.prog 22 #[.pointer (some ⟨gl,0,none⟩),.int .i64 (p:Int)] w fun e w'=>e=.returned (.tuple #[.agg #[.int .i64 (p:Int),.string x.1,.string x.2],.bool true])∧Below w.heap.size w w':=by
  have hp:=(List.getElem?_eq_some_iff.1 hx).1
  obtain ⟨x0,x1,x2⟩:=hcF_at H 0 p x hx
  rw [Nat.zero_add] at x0
  obtain ⟨g,cap,rfl,-,hg,hcap,hc⟩:=own_cells hL.heads (by omega)
  have x0:=hc _ _ x0
  have x1:=hc _ _ x1
  have x2:=hc _ _ x2
  have hB:=hL.log
  have y0:=hB.cell 0;have y1:=hB.cell 1
  have yl:=hB.lt
  have d1:decide ((p:Int)<0)=false:=decide_eq_false (by omega)
  have d2:decide ((H.length:Int)≤(p:Int))=false:=decide_eq_false (by omega)
  have d2':decide (H.length≤p)=false:=decide_eq_false (by omega)
  have p0:(0:Int)≤(p:Int):=by omega
  have p1:(p:Int)<(H.length:Int):=by omega
  obtain ⟨xc,xs⟩:=x
  dsimp only at x1 x2 ⊢
  clear hB hL hc hx
  go_enter Tryz.func22,Tryz.ntmps22
  go_wp2
  refine bodyPost_ret (v:=.tuple #[.agg #[.int .i64 (p:Int),.string xc,.string xs],.bool true]) (by simp [results,Tryz.results22,go_sem]) rfl ⟨rfl,ext_new _ _⟩
theorem logProveG (hH:H.length≤60) (p:Nat) (x:ByteArray × ByteArray) (hx:H[p]? = some x) (w:World) (hL:LogG B w gl rv hv R H) (hR:RoundOK w) :
    Calls Tryz.prog 23 #[.pointer (some ⟨gl,0,none⟩),.int .i64 (p:Int)] w (PathG w (((wayL H.length (leavesH 0 H) p).map (·.1)).reverse)):=by
  have hp:=(List.getElem?_eq_some_iff.1 hx).1
  have HL:=Lib.hid hL
  have HR:=Lib.hid hR
  have HLv:=Lib.hid (fun (W:World) (k:Below w.heap.size w W)=>leavesX B gl rv hv R H (by omega) W (hL.ext k))
  have HPr:=Lib.hid (show ∀ (K:Nat) (v:Value) (W:World),Strs (fun b=>K≤b) W v (leavesH 0 H)→RoundOK W→Calls Tryz.prog 41 #[v,.int .i64 (p:Int)] W (ProofPost W (((wayL H.length (leavesH 0 H) p).map (·.1)).reverse)) from fun K v W h hRW=>by
    have h9:=proof_any (fun b=>b<W.heap.size) v (leavesH 0 H) p W (h.mono (fun b _ hb=>hb)) (by rw [leavesH_length];exact Nat.le_trans hH (by decide)) (by rw [leavesH_length];exact hp) (fun b hb=>hb) (leavesH_sizes H 0 hL.sizes) hRW
    rwa [leavesH_length] at h9)
  have HHd:=Lib.hid (fun (W:World) (k:Below w.heap.size w W)=>logHeadG p x hx W (hL.ext k))
  generalize ((wayL H.length (leavesH 0 H) p).map (·.1)).reverse=pl at *
  generalize leavesH 0 H=es at *
  clear hL hR hx
  obtain ⟨xc,xs⟩:=x
  go_enter Tryz.func23,Tryz.ntmps23
  go_wp2_with fail
  refine (HHd.out _ (ext_refl w)).mono ?_
  rintro e W1 ⟨rfl,hb1⟩
  have HB1:=Lib.hid (ext_alloc hb1 (.cells #[.int .i64 (p:Int),.string xc,.string xs] 52))
  clear hb1
  go_wp2_with fail
  refine (HLv.out _ HB1.out).mono ?_
  rintro e W2 ⟨v,rfl,hs2,hb2⟩
  have HS2:=Lib.hid hs2
  have HB2:=Lib.hid (ext_call HB1.out hb2)
  clear hs2 hb2
  go_wp2_with fail
  refine (HPr.out _ v W2 HS2.out (HR.out.below HB2.out)).mono ?_
  rintro e W3 ⟨v3,rfl,hs3,hb3⟩
  obtain ⟨A,c,rfl⟩:=strs_sliceG hs3
  have HS3:=Lib.hid (hs3.mono (S':=fun b=>w.heap.size≤b) (fun b h _=>Nat.le_trans HB2.out.size h))
  have HB3:=Lib.hid (ext_call HB2.out hb3)
  clear hs3 hb3
  go_wp2
  go_ret2
  exact ⟨A,c,rfl,HS3.out,HB3.out⟩
theorem logExtG (hH:H.length≤60) (p:Nat) (x:ByteArray × ByteArray) (hx:H[p]? = some x) (w:World) (hL:LogG B w gl rv hv R H) (hR:RoundOK w) :
    Calls Tryz.prog 29 #[.pointer (some ⟨gl,0,none⟩),.int .i64 (p:Int)] w (PathG w (extP (leavesH 0 H) (p+1))):=by
  have hp:=(List.getElem?_eq_some_iff.1 hx).1
  have HL:=Lib.hid hL
  have HR:=Lib.hid hR
  have HLv:=Lib.hid (fun (W:World) (k:Below w.heap.size w W)=>leavesX B gl rv hv R H (by omega) W (hL.ext k))
  have HPr:=Lib.hid (show ∀ (K:Nat) (v:Value) (W:World),Strs (fun b=>K≤b) W v (leavesH 0 H)→RoundOK W→Calls Tryz.prog 57 #[v,.int .i64 ((p:Int)+1)] W (ProofPost W (extP (leavesH 0 H) (p+1))) from fun K v W h hRW=>
    ext_any (fun b=>b<W.heap.size) v (leavesH 0 H) (p+1) W (h.mono (fun b _ hb=>hb)) (by rw [leavesH_length];exact Nat.le_trans hH (by decide)) (by omega) (by rw [leavesH_length];omega) (fun b hb=>hb) (leavesH_sizes H 0 hL.sizes) hRW)
  have HHd:=Lib.hid (fun (W:World) (k:Below w.heap.size w W)=>logHeadG p x hx W (hL.ext k))
  generalize extP (leavesH 0 H) (p+1)=pl at *
  generalize leavesH 0 H=es at *
  have e1:IntKind.i64.wrap ((p:Int)+1)=(p:Int)+1:=IntWalk.i64_in _ (by omega)
  clear hL hR hx
  obtain ⟨xc,xs⟩:=x
  go_enter Tryz.func29,Tryz.ntmps29
  go_wp2_with fail
  refine (HHd.out _ (ext_refl w)).mono ?_
  rintro e W1 ⟨rfl,hb1⟩
  have HB1:=Lib.hid (ext_alloc hb1 (.cells #[.int .i64 (p:Int),.string xc,.string xs] 52))
  clear hb1
  go_wp2_with fail
  refine (HLv.out _ HB1.out).mono ?_
  rintro e W2 ⟨v,rfl,hs2,hb2⟩
  have HS2:=Lib.hid hs2
  have HB2:=Lib.hid (ext_call HB1.out hb2)
  clear hs2 hb2
  go_wp2_with fail
  refine (HPr.out _ v W2 HS2.out (HR.out.below HB2.out)).mono ?_
  rintro e W3 ⟨v3,rfl,hs3,hb3⟩
  obtain ⟨A,c,rfl⟩:=strs_sliceG hs3
  have HS3:=Lib.hid (hs3.mono (S':=fun b=>w.heap.size≤b) (fun b h _=>Nat.le_trans HB2.out.size h))
  have HB3:=Lib.hid (ext_call HB2.out hb3)
  clear hs3 hb3
  go_wp2
  go_ret2
  exact ⟨A,c,rfl,HS3.out,HB3.out⟩
theorem logVerifyG (hH:H.length≤60) (hsz:∀ h ∈ H,h.1.size=32∧h.2.size=32) (n p:Nat) (hn:H.length=n+1) (x:ByteArray × ByteArray) (hx:H[p]? = some x) (S:Nat→Prop) (v:Value) (w:World) (hv:Strs S w v (((wayL H.length (leavesH 0 H) p).map (·.1)).reverse)) (hSB:∀ b,S b→b<w.heap.size) (hR:RoundOK w) :
    Calls Tryz.prog 33 #[.string (logRootF H),.int .i64 (n:Int),.agg #[.int .i64 (p:Int),.string x.1,.string x.2],v] w fun e w'=>e=.returned (.bool true)∧Below w.heap.size w w':=by
  have hp:=(List.getElem?_eq_some_iff.1 hx).1
  have hxs:=hsz x (List.mem_of_getElem? hx)
  have HEn:=Lib.hid (fun W:World=>logEncode p x.1 x.2 (by omega) hxs.1 hxs.2 W)
  have HSz:=Lib.hid (show (headEnc p x.1 x.2).size≤500000 by
    have:=leavesH_sizes H 0 hsz (headEnc p x.1 x.2) (List.mem_of_getElem? (by have h9:=leavesH_at H 0 p x hx;rwa [Nat.zero_add] at h9))
    omega)
  have HVe:=Lib.hid (fun (W:World) (h:Below w.heap.size w W)=>show Calls Tryz.prog 64 #[.string (logRootF H),.int .i64 ((n:Int)+1),.int .i64 (p:Int),.string (headEnc p x.1 x.2),v] W fun e w'=>e=.returned (.bool true)∧Below W.heap.size W w' by
    have h9:=verify_any S v (logRootF H) (headEnc p x.1 x.2) (leavesH 0 H) p W (by rw [leavesH_length];exact Nat.le_trans hH (by decide)) (by have h8:=leavesH_at H 0 p x hx;rwa [Nat.zero_add] at h8) (by rw [leavesH_length];exact hv.below h) (fun b hb=>Nat.lt_of_lt_of_le (hSB b hb) h.size) HSz.out (hR.below h)
    have hc:((leavesH 0 H).length:Int)=(n:Int)+1:=by rw [leavesH_length,hn];rfl
    have hr:((rootF (leavesH 0 H)).toList == (logRootF H).toList)=true:=by unfold logRootF;rw [beq_self_eq_true]
    rw [hc,hr] at h9
    exact h9)
  obtain ⟨xc,xs⟩:=x
  dsimp only at HEn HVe ⊢
  generalize headEnc p xc xs=e1 at *
  generalize logRootF H=rt at *
  have HH:=Lib.hid (Blk.new w 52 #[.int .i64 (p:Int),.string xc,.string xs])
  have c0:=HH.out.cell 0;have c1:=HH.out.cell 1;have c2:=HH.out.cell 2
  have e1:IntKind.i64.wrap ((n:Int)+1)=(n:Int)+1:=IntWalk.i64_in _ (by omega)
  have p1:(p:Int)≤(n:Int):=by omega
  have p1':p≤n:=by omega
  have p2:(n:Int)≤10000:=by omega
  obtain ⟨A,c,hvv⟩:=strs_sliceG hv
  obtain ⟨nl,hnl⟩:∃ nl,nl=(((wayL H.length (leavesH 0 H) p).map (·.1)).reverse).length:=⟨_,rfl⟩
  rw [← hnl] at hvv
  subst hvv
  clear hv hR hx hsz hSB hn hxs hnl
  go_enter Tryz.func33,Tryz.ntmps33
  go_wp2_with fail
  refine (HEn.out _).mono ?_
  rintro e W1 ⟨rfl,hb1⟩
  have HB1:=Lib.hid (ext_call (ext_new w _) hb1)
  have HH1:=Lib.hid (HH.out.ext hb1)
  clear hb1 c0 c1 c2
  have d0:=HH1.out.cell 0
  go_wp2_with fail
  refine (HVe.out _ HB1.out).mono ?_
  rintro e W2 ⟨rfl,hb2⟩
  go_wp2
  go_ret
  exact ⟨rfl,ext_call HB1.out hb2⟩
end
end
section
open Go.RowKit Go.Shelf
attribute [local go_sem ↓] Go.wp_at_zero Go.wp_at_succ
def chainK (p:Nat) (c:ByteArray) (Ls:List (List ChgT)):Nat→ByteArray
  | 0=>c
  | k+1=>chainF (chainK p c Ls k) (encG (encRec (((p+k:Nat):Int)+1) (Ls.getD k [])))
theorem chainK_size (p:Nat) (c:ByteArray) (Ls:List (List ChgT)) (hc:c.size=32):∀ k,(chainK p c Ls k).size=32
  | 0=>hc
  | _+1=>chainF_size _ _
theorem followsG (Ls:List (List ChgT)) (u:Value) (p q:Nat) (hq:q=p+Ls.length) (h60:q≤60) (ca sa cb sb:ByteArray) (hca:ca.size=32) (hsa:sa.size=32) (hcb:cb.size=32) (hsb:sb.size=32) (hch:cb=chainK p ca Ls Ls.length) (hst:Ls.length=0→sa=sb)
    (hG:∀ l ∈ Ls,ChgsOK l∧validF l=true) (w:World) (hu:RecsL w u (p+1) Ls) (hR:RoundOK w) :
    Calls Tryz.prog 58 #[.agg #[.int .i64 (p:Int),.string ca,.string sa],u,.agg #[.int .i64 (q:Int),.string cb,.string sb]] w fun e w'=>e=.returned (.bool true)∧Below w.heap.size w w':=by
  have HVA:=Lib.hid (fun W:World=>logValid p ca sa (by omega) hca hsa W)
  have HVB:=Lib.hid (fun W:World=>logValid q cb sb (by omega) hcb hsb W)
  have HA0:=Lib.hid ((Blk.new w 52 #[.int .i64 (p:Int),.string ca,.string sa]).alloc (.cells #[.int .i64 (q:Int),.string cb,.string sb] 52))
  have HB0:=Lib.hid (Blk.new' (w.alloc (.cells #[.int .i64 (p:Int),.string ca,.string sa] 52)) 52 #[.int .i64 (q:Int),.string cb,.string sb] (b:=w.heap.size+1) (by simp))
  have HU:=Lib.hid hu
  have HR:=Lib.hid hR
  have HG:=Lib.hid hG
  have HST:=Lib.hid hst
  have HCH:=Lib.hid hch
  have HQ:=Lib.hid hq
  have HSZ:=Lib.hid (And.intro hca (And.intro hsa hsb))
  obtain ⟨A,c,rfl,hc,-⟩:=hu
  obtain ⟨n,hn⟩:∃ n,n=Ls.length:=⟨_,rfl⟩
  have HN:=Lib.hid hn
  rw [← hn] at hc ⊢
  have HQ2:=Lib.hid (show q=p+n by rw [hq,hn])
  clear hca hsa hcb hsb hch hst hG hR hq hn
  go_enter Tryz.func58,Tryz.ntmps58
  go_wp2
  go_step3
  go_wp2_with fail
  refine (HVA.out _).mono ?_
  rintro e W1 ⟨rfl,hb1⟩
  have HA1:=Lib.hid (HA0.out.ext hb1)
  have HB1:=Lib.hid (HB0.out.ext hb1)
  have HE1:=Lib.hid (ext_call (ext_alloc (ext_new w _) _) hb1)
  have c0:=HB1.out.cell 0;have c1:=HB1.out.cell 1;have c2:=HB1.out.cell 2
  clear hb1
  go_wp2_with fail
  refine (HVB.out _).mono ?_
  rintro e W2 ⟨rfl,hb2⟩
  have HA2:=Lib.hid (HA1.out.ext hb2)
  have HB2:=Lib.hid (HB1.out.ext hb2)
  have HE2:=Lib.hid (ext_call HE1.out hb2)
  clear hb2 c0 c1 c2
  obtain ⟨ga,hga⟩:∃ ga,ga=w.heap.size:=⟨_,rfl⟩
  obtain ⟨gb,hgb⟩:∃ gb,gb=w.heap.size+1:=⟨_,rfl⟩
  rw [← hga] at HA2
  rw [← hgb] at HB2
  rw [← hgb,← hga]
  have HGA:=Lib.hid (show w.heap.size≤ga∧gb≠ga by omega)
  clear hga hgb HA0 HB0 HA1 HB1 HE1
  go_wp2
  go_step3
  go_wp2
  go_loopw [7,9,10,11,20] (fun bv _ _ _ iv W=>∃ k:Nat,k≤n∧iv=.int .i64 (k:Int)∧bv=.bool true∧Blk W ga 52 #[.int .i64 ((p+k:Nat):Int),.string (chainK p ca Ls k),.string (if k=0 then sa else sb)]∧Blk W gb 52 #[.int .i64 (q:Int),.string cb,.string sb]∧Below w.heap.size w W) (fun _ _ _ _ iv _=>n-(intOf iv).toNat)
  case atStart=>exact ⟨0,Nat.zero_le _,rfl,rfl,HA2.out,HB2.out,HE2.out⟩
  case round=>
    obtain ⟨k,hk,rfl,rfl,hA,hB,hE⟩:=hrel
    obtain ⟨ch,hchk⟩:∃ ch,ch=chainK p ca Ls k:=⟨_,rfl⟩
    obtain ⟨st,hstk⟩:∃ st,st=(if k=0 then sa else sb):=⟨_,rfl⟩
    obtain ⟨m,hm⟩:∃ m,m=p+k:=⟨_,rfl⟩
    have hch32:ch.size=32:=by rw [hchk];exact chainK_size p ca Ls HSZ.out.1 k
    have hst32:st.size=32:=by rw [hstk];split;exact HSZ.out.2.1;exact HSZ.out.2.2
    rw [← hchk,← hstk,← hm] at hA
    have HA:=Lib.hid hA
    have HB:=Lib.hid hB
    have HE:=Lib.hid hE
    have HM:=Lib.hid hm
    have HCK:=Lib.hid hchk
    have HSK:=Lib.hid hstk
    clear hA hB hE hm hchk hstk HA2 HB2 HE2
    by_cases hlt:k<n
    · obtain ⟨l,hl⟩:∃ l,Ls[k]? = some l:=⟨_,List.getElem?_eq_getElem (by rw [← HN.out];exact hlt)⟩
      have hgl:=HG.out l (List.mem_of_getElem? hl)
      obtain ⟨A',c',hA',_,hcell⟩:=HU.out
      injection hA' with h1 _ h3
      subst h1 h3
      obtain ⟨b,rfl,hcell2⟩:=hcell (by rw [← HN.out];omega)
      obtain ⟨z0,u2,z1,hu2⟩:=hcell2 k l hl
      have z0:=cell_ext z0 HE.out
      have z1:=cell_ext z1 HE.out
      rw [show (((p+1:Nat):Int)+(k:Int))=(m:Int)+1 by have:=HM.out;omega] at z0
      have HNX:=Lib.hid (fun (W:World) (h:Below wr.heap.size wr W)=>logNextX m (by have:=HM.out;have:=HQ2.out;omega) l u2 ch st sb hch32 hst32 HSZ.out.2.2 W ((hu2.ext HE.out).ext h) hgl.1 hgl.2 ((HR.out.below HE.out).below h))
      have HCN:=Lib.hid (show chainK p ca Ls (k+1)=chainF ch (encG (encRec ((m:Int)+1) l)) by
        show chainF (chainK p ca Ls k) _=_
        rw [← HCK.out,HM.out,List.getD_eq_getElem?_getD,hl]
        rfl)
      generalize chainF ch (encG (encRec ((m:Int)+1) l))=cn at *
      obtain ⟨Au,cu,rfl,-⟩:=hu2
      have q0:(0:Int)≤(k:Int):=by omega
      have q1:(k:Int)<(n:Int):=by omega
      have d1:decide ((k:Int)<(n:Int))=true:=decide_eq_true (by omega)
      have hk60:k<60:=by have:=HQ2.out;omega
      have e2:IntKind.i64.wrap ((k:Int)+1)=(k:Int)+1:=IntWalk.i64_in _ (by omega)
      have HAl:=Lib.hid (HA.out.alloc (.cells #[.int .i64 ((m:Int)+1),.slice Au l.length cu] 75))
      have HBl:=Lib.hid (HB.out.alloc (.cells #[.int .i64 ((m:Int)+1),.slice Au l.length cu] 75))
      have a0:=HAl.out.cell 0;have a1:=HAl.out.cell 1;have a2:=HAl.out.cell 2
      have b0:=HBl.out.cell 0;have b1:=HBl.out.cell 1;have b2:=HBl.out.cell 2
      clear hcell hcell2 hl hgl
      go_wp2_with fail
      refine (HNX.out _ (ext_new wr _)).mono ?_
      rintro e W3 ⟨rfl,hb3⟩
      have hA3:=HAl.out.ext hb3
      have hB3:=HBl.out.ext hb3
      have HE3:=Lib.hid (ext_call (ext_alloc HE.out _) hb3)
      have hA4:=hA3.alloc (.cells #[.int .i64 ((m:Int)+1),.string cn,.string sb] 52)
      have HA4:=Lib.hid hA4
      have HB4:=Lib.hid (hB3.alloc (.cells #[.int .i64 ((m:Int)+1),.string cn,.string sb] 52))
      clear a0 a1 a2 b0 b1 b2 hb3 hA3 hB3 z0 z1
      have a0:=hA4.cell 0;have a1:=hA4.cell 1;have a2:=hA4.cell 2
      have f0:=hA4.frozen 0
      have f1:=hA4.frozen 1
      have f2:=hA4.frozen 2
      clear hA4
      go_wp2
      go_roundw
      case rel=>
        refine ⟨k+1,by omega,by go_num,rfl,?_,?_,?_⟩
        · rw [HCN.out,if_neg (Nat.succ_ne_zero k),show (((p+(k+1):Nat)):Int)=(m:Int)+1 by have:=HM.out;omega]
          exact ((HA4.out.set_ 0 _).set_ 1 _).set_ 2 _
        · exact ((HB4.out.far (p:=⟨ga,0,none⟩) HGA.out.2 _).far (p:=⟨ga,1,none⟩) HGA.out.2 _).far (p:=⟨ga,2,none⟩) HGA.out.2 _
        · exact ext_set (ext_set (ext_set (ext_alloc HE3.out _) HGA.out.1 _) HGA.out.1 _) HGA.out.1 _
      case measure=>simp [intOf];omega
    · have hkn:k=n:=by omega
      have hmq:m=q:=by have:=HM.out;have:=HQ2.out;omega
      have hcc:ch=cb:=by rw [HCK.out,hkn,HN.out];exact HCH.out.symm
      have hss:st=sb:=by
        rw [HSK.out]
        split
        · exact HST.out (by rw [← HN.out];omega)
        · rfl
      subst hmq hcc hss
      have d1:decide ((k:Int)<(n:Int))=false:=decide_eq_false (by omega)
      have a0:=HA.out.cell 0;have a1:=HA.out.cell 1;have a2:=HA.out.cell 2
      have b0:=HB.out.cell 0;have b1:=HB.out.cell 1;have b2:=HB.out.cell 2
      go_wp2
      rw [Exit.noGoto_ret]
      go_ret
      exact ⟨rfl,HE.out⟩
end
section
open Go.RowKit Go.Shelf
attribute [local go_sem ↓] Go.wp_at_zero Go.wp_at_succ
def headF (Ls:List (List ChgT)) (k:Nat):ByteArray × ByteArray:=(chainK 0 zeros32 Ls k,stRootF (stF (Ls.take k)))
def headsF (Ls:List (List ChgT)) (k:Nat):List (ByteArray × ByteArray):=(List.range (k+1)).map (headF Ls)
theorem headsF_length (Ls:List (List ChgT)) (k:Nat):(headsF Ls k).length=k+1:=by simp [headsF]
theorem headsF_at (Ls:List (List ChgT)) (k i:Nat) (h:i≤k):(headsF Ls k)[i]? = some (headF Ls i):=by
  unfold headsF
  rw [List.getElem?_map,List.getElem?_range (by omega)]
  rfl
theorem headsF_zero (Ls:List (List ChgT)):headsF Ls 0=[(zeros32,stRootF [])]:=by
  unfold headsF headF
  rw [show List.range (0+1)=[0] from rfl,List.map_singleton,List.take_zero]
  unfold chainK stF
  rw [List.foldl_nil]
theorem headsF_succ (Ls:List (List ChgT)) (k:Nat):headsF Ls (k+1)=headsF Ls k++[headF Ls (k+1)]:=by
  unfold headsF
  rw [List.range_succ,List.map_append]
  rfl
theorem headsF_take (Ls:List (List ChgT)) (k m:Nat) (h:m≤k):(headsF Ls k).take (m+1)=headsF Ls m:=by
  unfold headsF
  rw [← List.map_take,List.take_range,Nat.min_eq_left (by omega)]
theorem headF_sizes (Ls:List (List ChgT)) (k:Nat):(headF Ls k).1.size=32∧(headF Ls k).2.size=32:=by
  unfold headF
  dsimp only
  exact ⟨chainK_size 0 zeros32 Ls zeros32_size k,stRootF_size (stF (Ls.take k))⟩
theorem headsF_sizes (Ls:List (List ChgT)) (k:Nat):∀ h ∈ headsF Ls k,h.1.size=32∧h.2.size=32:=by
  intro h hh
  unfold headsF at hh
  obtain ⟨i,_,rfl⟩:=List.mem_map.1 hh
  exact headF_sizes Ls i
theorem chainK_succ (p:Nat) (c:ByteArray) (Ls:List (List ChgT)) (k:Nat):chainK p c Ls (k+1)=chainF (chainK p c Ls k) (encG (encRec (((p+k:Nat):Int)+1) (Ls.getD k []))):=by rw [chainK]
theorem headsF_step {Ls:List (List ChgT)} {k:Nat} {l:List ChgT} (hl:Ls[k]? = some l):headsF Ls k++[(chainF (headF Ls k).1 (encG (encRec ((k:Int)+1) l)),stRootF (applyF (stF (Ls.take k)) l))]=headsF Ls (k+1):=by
  have h1:headF Ls (k+1)=(chainF (headF Ls k).1 (encG (encRec ((k:Int)+1) l)),stRootF (applyF (stF (Ls.take k)) l)):=by
    unfold headF
    rw [stF_succ hl,chainK_succ,List.getD_eq_getElem?_getD,hl,Nat.zero_add,Option.getD_some]
  rw [headsF_succ,h1]
def LogF (B:Nat) (W:World) (gl:Nat) (Ls:List (List ChgT)) (k:Nat):Prop:=∃ rv hv R,LogG B W gl rv hv R (headsF Ls k)∧trs R=Ls.take k∧R.length=k∧B≤gl
theorem LogF.ext {B gl k:Nat} {w W:World} {Ls:List (List ChgT)} (h:LogF B w gl Ls k) (e:Below w.heap.size w W):LogF B W gl Ls k:=by
  obtain ⟨rv,hv,R,h1,h2⟩:=h
  exact ⟨rv,hv,R,h1.ext e,h2⟩
theorem RunG.rows {Ls:List (List ChgT)} (h:RunG Ls) (hg:∀ l ∈ Ls,∀ c ∈ l,ChgG c) (k:Nat):StOK (stF (Ls.take k))∧Apart (stF (Ls.take k))∧(∀ r ∈ stF (Ls.take k),r.ok)∧(stF (Ls.take k)).length≤27:=by
  have h1:StOK (stF (Ls.take k))∧Apart (stF (Ls.take k)):=by
    induction k with
    | zero=>exact ⟨StOK.nil,List.Pairwise.nil⟩
    | succ k ih=>
      rcases Nat.lt_or_ge k Ls.length with h2|h2
      · obtain ⟨l,hl⟩:∃ l,Ls[k]? = some l:=⟨_,List.getElem?_eq_getElem h2⟩
        rw [stF_succ hl]
        exact ⟨ih.1.apply (hg l (List.mem_of_getElem? hl)),ih.2.apply l⟩
      · rw [List.take_of_length_le (by omega)] at ih ⊢
        exact ih
  exact ⟨h1.1,h1.2,fun r hr=>(h1.1.sm r hr).1,h1.1.few⟩
theorem log0F (B:Nat) (W:World) (gl gh:Nat) (s:ByteArray) (hs:s.size=32) (h1:Blk W gl 112 #[.slice none 0 0,.slice (some ⟨gh,0,none⟩) 1 1]) (h2:Blk W gh 52 #[.int .i64 0,.string zeros32,.string s]) (hB:B≤gh):LogG B W gl (.slice none 0 0) (.slice (some ⟨gh,0,none⟩) 1 1) [] [(zeros32,s)]:=
  ⟨h1,World.ownsRow_nil _ _ _ _,⟨rfl,.inr ⟨gh,1,_,rfl,hB,h2,Nat.le_refl _,by unfold maxLen;omega,rfl,rfl⟩⟩,by simp,rfl,by intro h hh;simp at hh;subst hh;exact ⟨zeros32_size,hs⟩⟩
theorem grownF (Ls:List (List ChgT)) (v:Value) (n:Nat) (hn:n≤Ls.length) (hL:Ls.length≤16) (hG:RunG Ls) (hC:∀ l ∈ Ls,∀ c ∈ l,ChgG c) (w:World) (hv:RecsL w v 1 Ls) (hR:RoundOK w) :
    Calls Tryz.prog 21 #[v,.int .i64 (n:Int)] w fun e w'=>∃ gl,e=.returned (.pointer (some ⟨gl,0,none⟩))∧LogF w.heap.size w' gl Ls n∧Below w.heap.size w w':=by
  have HV:=Lib.hid hv
  have HR:=Lib.hid hR
  have HG:=Lib.hid hG
  have HRW:=Lib.hid (hG.rows hC)
  obtain ⟨A,c,rfl,hlc,-⟩:=hv
  clear hR hG hC
  go_enter Tryz.func21,Tryz.ntmps21
  go_wp2_with fail
  refine (storeNew w).mono ?_
  rintro e W1 ⟨rfl,hw⟩
  have HE1:=Lib.hid (show Below w.heap.size w W1 by rw [← hw];exact ext_alloc (ext_new _ _) _)
  have HS1:=Lib.hid (show StateR W1 (w.heap.size+1) w.heap.size 0 [] by rw [← hw];exact ⟨Blk.new' _ _ _ (by simp),(MapR.new w).ext (ext_new _ _)⟩)
  obtain ⟨gs,hgs⟩:∃ gs,gs=w.heap.size+1:=⟨_,rfl⟩
  obtain ⟨gm,hgm⟩:∃ gm,gm=w.heap.size:=⟨_,rfl⟩
  have HGB:=Lib.hid (show w.heap.size≤gs∧w.heap.size≤gm by omega)
  rw [← hgs,← hgm] at HS1
  rw [← hgs]
  clear hw hgs hgm
  go_wp2_with fail
  refine (stateRootS [] (by simp) (by simp) List.Pairwise.nil gs gm 0 W1 HS1.out (HR.out.below HE1.out)).mono ?_
  rintro e W2 ⟨rfl,hb2⟩
  have HE2:=Lib.hid (ext_call HE1.out hb2)
  have HS2:=Lib.hid (HS1.out.ext hb2)
  clear hb2 HS1
  go_wp2_with fail
  refine (logNewB (stRootF []) (stRootF_size _) W2).mono ?_
  rintro e W3 ⟨gl,gh,rfl,hl3,hh3,hgl,hgh,hb3⟩
  have HE3:=Lib.hid (ext_call HE2.out hb3)
  have HS3:=Lib.hid (HS2.out.ext hb3)
  have hz2:=HE2.out.size
  have HL3:=Lib.hid (show LogF w.heap.size W3 gl Ls 0 from by
    refine ⟨.slice none 0 0,.slice (some ⟨gh,0,none⟩) 1 1,[],?_,rfl,rfl,by omega⟩
    rw [headsF_zero]
    exact log0F w.heap.size W3 gl gh (stRootF []) (stRootF_size _) hl3 hh3 (by omega))
  clear hb3 hl3 hh3 hgl hgh hz2 HS2
  go_wp2
  go_loopw [8] (fun iv W=>∃ k:Nat,k≤n∧iv=.int .i64 (k:Int)∧StateR W gs gm (k:Int) (stF (Ls.take k))∧LogF w.heap.size W gl Ls k∧Below w.heap.size w W) (fun iv _=>n-(intOf iv).toNat)
  case atStart=>exact ⟨0,Nat.zero_le _,rfl,HS3.out,HL3.out,HE3.out⟩
  case round =>
    obtain ⟨k,hk,rfl,hS,hLg,hE⟩:=hrel
    have HS:=Lib.hid hS
    have HLg:=Lib.hid hLg
    have HE:=Lib.hid hE
    clear hS hLg hE HS3 HL3 HE3
    by_cases hlt:k<n
    · obtain ⟨l,hl⟩:∃ l,Ls[k]? = some l:=⟨_,List.getElem?_eq_getElem (by omega)⟩
      have HSU:=Lib.hid (stF_succ hl)
      have HST:=Lib.hid (HG.out.step k l hl)
      have HR1:=Lib.hid (show (∀ r ∈ applyF (stF (Ls.take k)) l,r.ok)∧(applyF (stF (Ls.take k)) l).length≤60∧Apart (applyF (stF (Ls.take k)) l) by
        have h9:=HRW.out (k+1)
        rw [stF_succ hl] at h9
        exact ⟨h9.2.2.1,by omega,h9.2.1⟩)
      have HHD:=Lib.hid (headsF_step hl)
      have HTK:=Lib.hid (show Ls.take (k+1)=Ls.take k++[l] by rw [List.take_add_one,hl];rfl)
      obtain ⟨A',c',hA',_,hcell⟩:=HV.out
      injection hA' with hA1 _ hA3
      subst hA1
      subst hA3
      obtain ⟨b,rfl,hcell2⟩:=hcell (by omega)
      obtain ⟨z0,u,z1,hu⟩:=hcell2 k l hl
      rw [show (((1:Nat):Int)+(k:Int))=(k:Int)+1 by omega] at z0
      have HU0:=Lib.hid hu
      have HZ:=Lib.hid (And.intro z0 z1)
      have z0:=cell_ext z0 HE.out
      have z1:=cell_ext z1 HE.out
      have q0:(0:Int)≤(k:Int):=by omega
      have q1:(k:Int)<(Ls.length:Int):=by omega
      have q2:decide ((k:Int)<(n:Int))=true:=decide_eq_true (by omega)
      have q3:decide ((k:Int)<(Ls.length:Int))=true:=decide_eq_true (by omega)
      have e2:IntKind.i64.wrap ((k:Int)+1)=(k:Int)+1:=IntWalk.i64_in _ (by omega)
      have HAP:=Lib.hid (applyR (stF (Ls.take k)) l u gs gm (k:Int) (by omega) wr HS.out (hu.ext HE.out) HST.out.1 HST.out.2.2.2 HST.out.2.2.1)
      obtain ⟨Au,cu,hue,-⟩:=id hu
      subst hue
      clear hcell hcell2 hu hl
      go_wp2_with fail
      refine HAP.out.mono ?_
      rintro e W2 (⟨h1,_⟩|⟨_,rfl,hS2,hx2⟩)
      · exact absurd h1 (by rw [HST.out.2.1];decide)
      · have hxs:ExtS (StS gs gm) wr W2:=ExtS.of_ext2 hx2 (.inl rfl) (.inr rfl)
        have HE2:=Lib.hid (show Below w.heap.size w W2 from ExtS.below HE.out (by rintro j (rfl|rfl);exact HGB.out.1;exact HGB.out.2) hxs)
        obtain ⟨rv,hvv,R,hLG,htr,hRl,hglB⟩:=HLg.out
        have HLG2:=Lib.hid (hLG.keepSt HS.out hxs)
        have HS2:=Lib.hid hS2
        have HTR:=Lib.hid (And.intro htr (And.intro hRl hglB))
        have hz2:=HE2.out.size
        have HRt:=Lib.hid (fun (W:World) (e:Below W2.heap.size W2 W)=>stateRootS (applyF (stF (Ls.take k)) l) HR1.out.1 HR1.out.2.1 HR1.out.2.2 gs gm ((k:Int)+1) W (HS2.out.ext e) (HR.out.below (ext_call HE2.out e)))
        have HAp:=Lib.hid (fun (t:ByteArray) (ht:t.size=32) (W:World) (e:Below W2.heap.size W2 W)=>show Calls Tryz.prog 40 #[.pointer (some ⟨gl,0,none⟩),.agg #[.int .i64 ((k:Int)+1),.slice Au l.length cu],.string t] W fun e w'=>e=.returned (.int .i64 0)∧(∃ rv2 hv2 g d,LogG w.heap.size w' gl rv2 hv2 (R++[(l,g,d)]) (headsF Ls k++[(chainF (headF Ls k).1 (encG (encRec ((k:Int)+1) l)),t)]))∧ExtS (ApX gl rv hvv) W w' from by
          have h9:=logAppendX w.heap.size gl rv hvv R (headsF Ls k) l (.slice Au l.length cu) t ht (by omega) W (Nat.le_trans HE2.out.size e.size) (HLG2.out.ext e) (headF Ls k) (by rw [hRl];exact headsF_at Ls k k (Nat.le_refl _)) (HU0.out.ext (ext_call HE2.out e)) HST.out.1 HST.out.2.1 (HR.out.below (ext_call HE2.out e))
          rw [hRl] at h9
          exact h9.mono fun e w' ⟨h1,rv2,hv2,g,d,h2,h3⟩=>⟨h1,⟨rv2,hv2,g,d,h2⟩,h3⟩)
        have hblt:b<w.heap.size:=lt_of_cell HZ.out.1
        have HNB:=Lib.hid (show ¬ ApX gl rv hvv b by
          rintro (h|h|h)
          · omega
          · have:=(hLG.recs.lt b h).1;omega
          · have:=(hLG.heads.lt b h).1;omega)
        have HKP:=Lib.hid (show ∀ W:World,ExtS (ApX gl rv hvv) W2 W→W.cell? ⟨b,k*2,none⟩=some (.int .i64 ((k:Int)+1))∧W.cell? ⟨b,k*2+1,none⟩=some (.slice Au l.length cu)∧ExtS (ApX gl rv hvv) W2 W from fun W e=>⟨(World.cell?_of_block (e.block b (by omega) HNB.out)).trans (cell_ext HZ.out.1 HE2.out),(World.cell?_of_block (e.block b (by omega) HNB.out)).trans (cell_ext HZ.out.2 HE2.out),e⟩)
        clear hS2 hx2 hxs hLG htr hRl hglB z0 z1 hblt
        obtain ⟨z0,z1,-⟩:=HKP.out W2 (ExtS.of_ext (ext_refl _))
        go_upto_region 7 with (fail)
        go_region_held3 (fun w'=>w'.cell? ⟨b,k*2,none⟩=some (.int .i64 ((k:Int)+1))∧w'.cell? ⟨b,k*2+1,none⟩=some (.slice Au l.length cu)∧ExtS (ApX gl rv hvv) W2 w')
          (first|with_reducible assumption|exact HKP.out _ (by first|with_reducible assumption|exact ExtS.of_ext (ext_refl W2).drew|exact ExtS.of_ext (by assumption)))
          (first
            | (go_at_call 39;(with_reducible refine (HRt.out _ ?_).mono ?_);(exact (ext_refl W2).drew);rintro e W3 ⟨rfl,hb3⟩;have ht:=stRootF_size (applyF (stF (Ls.take k)) l);have hE3:Below W2.heap.size W2 W3:=ext_call (ext_refl W2).drew hb3)
            | (go_at_call 40;(with_reducible refine (HAp.out _ ?_ _ ?_).mono ?_);(assumption);(assumption);rintro e W4 ⟨rfl,hlr,he4⟩;have hx4:ExtS (ApX gl rv hvv) W2 W4:=(ExtS.of_ext (by assumption)).trans he4))
        have HLR:=Lib.hid hlr
        have HX4:=Lib.hid hx4
        clear hlr he4 hx4 hE3 hb3 z0 z1
        go_wp2
        go_roundw
        case rel=>
          refine ⟨k+1,by omega,by go_num,?_,?_,?_⟩
          · have h9:=HS2.out.keepLog HLG2.out HX4.out
            rw [HSU.out]
            simpa using h9
          · obtain ⟨rv2,hv2,g,d,h4⟩:=HLR.out
            rw [HHD.out] at h4
            exact ⟨rv2,hv2,_,h4,by rw [trs_snoc,HTR.out.1,HTK.out],by rw [List.length_append,HTR.out.2.1];rfl,HTR.out.2.2⟩
          · refine ExtS.below HE2.out ?_ HX4.out
            rintro j (h|h|h)
            · rw [h];exact HTR.out.2.2
            · exact (HLG2.out.recs.lt j h).1
            · exact (HLG2.out.heads.lt j h).1
        case measure=>simp [intOf];omega
    · obtain rfl:k=n:=by omega
      have q2:decide ((k:Int)<(k:Int))=false:=decide_eq_false (by omega)
      go_wp2
      go_ret
      exact ⟨gl,rfl,HLg.out,HE.out⟩
end
section
open Go.RowKit Go.Shelf
attribute [local go_sem ↓] app_exec app_sem Go.wp_at_zero Go.wp_at_succ
attribute [local go_sem high] slCR slCT
def blkOf (n:Nat):Code→Option Code
  | .block m c=>if m=n then some (.block m c) else blkOf n c
  | .seq a b=>match blkOf n a with|some c=>some c|none=>blkOf n b
  | .loop c=>blkOf n c
  | .cond _ a b=>match blkOf n a with|some c=>some c|none=>blkOf n b
  | .scope c=>blkOf n c
  | _=>none
noncomputable def blkLog:Code:=(Tryz.f25.body.bind (blkOf 3)).getD .skip
set_option maxRecDepth 1000000 in
set_option maxHeartbeats 8000000 in
theorem logRound {K : Act → World → Prop} {Q' : Exit → Act → World → Prop} {c1 c2 c3 c8 c9 c10 c11 c12 c13 c14 c15 c16 c17 c18 c19 c20 c21 c22 c23 c24 c25 c26 c27 c28 c29 c30 c31 c32 c33 c34 c35 c36 c37 c38 c39 c40 c41 c42 c43 c44 c45 c46 c47 c48 c49 c50 c51 c52 c53 c54 c55 c56 c57 c58 c59 c60 c61 c62 c63 c64 c65 c66 c67 c68 c69 c70 c71 c72 c73 c74 c75 c76 c77 c78 c79 c80 c81 c82 c83 c84 c85 c86 c87 c88 c89 c90 c91 c92 c93 c94 c95 c96 c97 c98 c99 c100 c101 c102 c103 c104 c105 c106 c107 c108 c109 c110 c111 c112 c113 c114 c115 c116 c117 c118 c119 c120 c121 c122 c123 c124 c125 c126 c127 c128 c129 c130 c131 c132 c133 c134 c135 c136 c137 c138 c139 c140 c141 c142 c143 c144 c145 c146 c147 c148 c149 c150 c151 c152 c153 c154 c155 c156 c157 c158 c159 c160 c161 c162 c163 c164 c165 c166 c167 c168 c169 c170 c171 c172 c173 c174 c175 c176 c177 c178 c179 c180 c181 c182 c183 c184 c185 c186 c187 c188 c189 c190 c191 c192 c193 c194 c195 c196 c197 c198 c199 c200 c201 c202 c203 c204 c205 c206 c207 c208 c209 c210 c211 c212 c213 c214 c215 c216 : Value} {b off cT i tl k lc n0 oc gs : Nat} {lA oA : Option Addr} {l : List ChgT} {x : Nat → Int} {w Y wr : World} {rows rs : List RowT} {R : List (List ChgT × Nat × Nat)}
    (hQ:∀ (c:_) (a:Act) (d:Option Tmp) (v:Value) (w:World),Q' (.panic c) (a.put d v) w→Q' (.panic c) a w) (hX:(∀ i,i<6→in64 (x i))∧∀ m,m<6→w.cell? ⟨b,off+i*6+m,none⟩=some (.int .i64 (x m))) (hi:i<tl) (hE:Below w.heap.size w Y) (hI:LgI w.heap.size gs Y (.slice oA n0 oc) R rows) (hn0:n0=R.length) (hrs:rs=stF (trs R)) (hK:LgK Y wr rs (.slice lA l.length lc) l) (hk:k<3) (hlk:l.length≤k)
    (hend:∀ (l':List ChgT) (lv':Value) (W:World),l'.length≤k+1→LgK Y W rs lv' l'→∀ (u8 u9 u10 u11 u12 u13 u14 u15 u29 u30 u31 u32 u33 u34 u35 u36 u37 u38 u39 u40 u41 u42 u43 u44 u45 u46 u47 u48 u49 u50 u51 u52 u53 u54 u55 u56 u57 u58 u59 u60 u61 u62 u63 u64 u65 u66 u67 u68 u69 u70 u71 u72 u73 u74 u75 u76 u77 u78 u79 u80 u81 u82 u83 u84 u85 u86 u87 u88 u89 u90 u91 u92 u93 u94 u95 u96 u97 u98 u99 u100 u101 u102 u103 u104 u105 u106 u107 u108 u109 u110 u111 u112 u113 u114 u115 u116 u117 u118 u119 u120 u121 u122 u123 u124 u125 u126 u127 u128 u129 u130 u131 u132 u133 u134 u135 u136 u137 u138 u139 u140 u141 u142 u143 u144 u145 u146 u147 u148 u149 u150 u151 u152 u153 u154 u155 u156 u157 u158 u159 u160 u161 u162 u163 u164 u165 u166 u167 u168 u169 u170 u171 u172 u173 u174 u175 u176 u177 u178 u179 u180 u181 u182 u183 u184 u185 u186 u187 u188 u189 u190 u191 u192 u193 u194 u195 u196 u197 u198 u199:Value),K ⟨#[.slice (some ⟨b,off,none⟩) tl cT,c1,c2,c3,.pointer (some ⟨gs,0,none⟩),.int .i64 (i:Int),lv',.int .i64 (k:Int),u8,u9,u10,u11,u12,u13,u14,u15,c16,c17,c18,c19,c20,c21,c22,c23,c24,c25,c26,c27,c28,u29,u30,u31,u32,u33,u34,u35,u36,u37,u38,u39,u40,u41,u42,u43,u44,u45,u46,u47,u48,u49,u50,u51,u52,u53,u54,u55,u56,u57,u58,u59,u60,u61,u62,u63,u64,u65,u66,u67,u68,u69,u70,u71,u72,u73,u74,u75,u76,u77,u78,u79,u80,u81,u82,u83,u84,u85,u86,u87,u88,u89,u90,u91,u92,u93,u94,u95,u96,u97,u98,u99,u100,u101,u102,u103,u104,u105,u106,u107,u108,u109,u110,u111,u112,u113,u114,u115,u116,u117,u118,u119,u120,u121,u122,u123,u124,u125,u126,u127,u128,u129,u130,u131,u132,u133,u134,u135,u136,u137,u138,u139,u140,u141,u142,u143,u144,u145,u146,u147,u148,u149,u150,u151,u152,u153,u154,u155,u156,u157,u158,u159,u160,u161,u162,u163,u164,u165,u166,u167,u168,u169,u170,u171,u172,u173,u174,u175,u176,u177,u178,u179,u180,u181,u182,u183,u184,u185,u186,u187,u188,u189,u190,u191,u192,u193,u194,u195,u196,u197,u198,u199,c200,c201,c202,c203,c204,c205,c206,c207,c208,c209,c210,c211,c212,c213,c214,c215,c216],[]⟩ W):Code.wp Tryz.prog blkLog (Exit.then K Q') ⟨#[.slice (some ⟨b,off,none⟩) tl cT,c1,c2,c3,.pointer (some ⟨gs,0,none⟩),.int .i64 (i:Int),.slice lA l.length lc,.int .i64 (k:Int),c8,c9,c10,c11,c12,c13,c14,c15,c16,c17,c18,c19,c20,c21,c22,c23,c24,c25,c26,c27,c28,c29,c30,c31,c32,c33,c34,c35,c36,c37,c38,c39,c40,c41,c42,c43,c44,c45,c46,c47,c48,c49,c50,c51,c52,c53,c54,c55,c56,c57,c58,c59,c60,c61,c62,c63,c64,c65,c66,c67,c68,c69,c70,c71,c72,c73,c74,c75,c76,c77,c78,c79,c80,c81,c82,c83,c84,c85,c86,c87,c88,c89,c90,c91,c92,c93,c94,c95,c96,c97,c98,c99,c100,c101,c102,c103,c104,c105,c106,c107,c108,c109,c110,c111,c112,c113,c114,c115,c116,c117,c118,c119,c120,c121,c122,c123,c124,c125,c126,c127,c128,c129,c130,c131,c132,c133,c134,c135,c136,c137,c138,c139,c140,c141,c142,c143,c144,c145,c146,c147,c148,c149,c150,c151,c152,c153,c154,c155,c156,c157,c158,c159,c160,c161,c162,c163,c164,c165,c166,c167,c168,c169,c170,c171,c172,c173,c174,c175,c176,c177,c178,c179,c180,c181,c182,c183,c184,c185,c186,c187,c188,c189,c190,c191,c192,c193,c194,c195,c196,c197,c198,c199,c200,c201,c202,c203,c204,c205,c206,c207,c208,c209,c210,c211,c212,c213,c214,c215,c216],[]⟩ wr:=by
  have HX:=Lib.hid hX
  have HE:=Lib.hid hE
  have HI:=Lib.hid hI
  have HN0:=Lib.hid hn0
  have HRS:=Lib.hid hrs
  have HK:=Lib.hid hK
  have hq0:(0:Int)≤(i:Int):=by omega
  have hq1:(i:Int)<(tl:Int):=by omega
  clear hX hE hI hn0 hrs hK hi
  conv=>arg 2;whnf
  have hkl:=hk
  obtain ⟨m2,hm2⟩:∃ m,m=2*k:=⟨_,rfl⟩
  have w2:IntKind.i64.wrap (2*(k:Int))=(m2:Int):=by rw [hm2,IntWalk.i64_in _ (by omega)];omega
  have w3:IntKind.i64.wrap ((m2:Int)+1)=((m2+1:Nat):Int):=by rw [IntWalk.i64_in _ (by omega)];omega
  have hEr:=ext_call HE.out HK.out.ext
  have z0:=cell_ext (HX.out.2 m2 (by omega)) hEr
  have z1:=cell_ext (HX.out.2 (m2+1) (by omega)) hEr
  have i0:=HX.out.1 m2 (by omega)
  have i1:=HX.out.1 (m2+1) (by omega)
  obtain ⟨xn,hxn⟩:∃ z,z=x m2:=⟨_,rfl⟩
  obtain ⟨xm,hxm⟩:∃ z,z=x (m2+1):=⟨_,rfl⟩
  rw [← hxn] at z0 i0
  rw [← hxm] at z1 i1
  unfold in64 at i0 i1
  have j0:(0:Int)≤(m2:Int):=by omega
  have j1:(m2:Int)<6:=by omega
  have j2:(0:Int)≤((m2+1:Nat):Int):=by omega
  have j3:((m2+1:Nat):Int)<6:=by omega
  obtain ⟨m3,hm3⟩:∃ m,m=m2+1:=⟨_,rfl⟩
  rw [← hm3] at w3 z1 j2 j3
  clear hxn hxm hm2 hm3 hEr
  go_upto_if 37 with (fail)
  go_cut [8] from 37 to 40 (fun p W=>wr=W∧∃ n:Int,p=.int .i64 n∧0≤n∧n≤9223372036854775807)
  case first=>
    by_cases hng:xn<0
    · have a1:IntKind.i64.wrap (xn+1)=xn+1:=IntWalk.i64_in _ (by omega)
      have a2:IntKind.i64.wrap (-(xn+1)) = -(xn+1):=IntWalk.i64_in _ (by omega)
      go_wp2
      go_meet
      case rel=>exact ⟨rfl,_,rfl,by omega,by omega⟩
    · go_wp2
      go_meet
      case rel=>exact ⟨rfl,_,rfl,by omega,by omega⟩
  case rest =>
    obtain ⟨hw8,n,rfl,hn0,hn1⟩:=hcut
    subst hw8
    clear z0 i0
    go_upto_if 50 with (fail)
    go_cut [9] from 50 to 53 (fun p W=>wr=W∧∃ m:Int,p=.int .i64 m∧0≤m∧m≤9223372036854775807)
    case first=>
      by_cases hng:xm<0
      · have a1:IntKind.i64.wrap (xm+1)=xm+1:=IntWalk.i64_in _ (by omega)
        have a2:IntKind.i64.wrap (-(xm+1)) = -(xm+1):=IntWalk.i64_in _ (by omega)
        go_wp2
        go_meet
        case rel=>exact ⟨rfl,_,rfl,by omega,by omega⟩
      · go_wp2
        go_meet
        case rel=>exact ⟨rfl,_,rfl,by omega,by omega⟩
    case rest =>
      obtain ⟨hw9,m,rfl,hm0,hm1⟩:=hcut
      subst hw9
      clear z1 i1 w2 w3 j0 j1 j2 j3
      obtain ⟨p0,hp0⟩:∃ p,n % 3=p:=⟨_,rfl⟩
      obtain ⟨pd,hpd⟩:∃ p,n / 3=p:=⟨_,rfl⟩
      obtain ⟨p1,hp1⟩:∃ p,pd % 9=p:=⟨_,rfl⟩
      obtain ⟨p5,hp5⟩:∃ p,n % 5=p:=⟨_,rfl⟩
      obtain ⟨q4,hq4⟩:∃ p,m % 4=p:=⟨_,rfl⟩
      obtain ⟨qa,hqa⟩:∃ p,m / 4=p:=⟨_,rfl⟩
      obtain ⟨qb,hqb⟩:∃ p,m / 40=p:=⟨_,rfl⟩
      obtain ⟨qd,hqd⟩:∃ p,m / 400=p:=⟨_,rfl⟩
      obtain ⟨ra,hra⟩:∃ p,qa % 10=p:=⟨_,rfl⟩
      obtain ⟨rb,hrb⟩:∃ p,qb % 9=p:=⟨_,rfl⟩
      obtain ⟨rd,hrd⟩:∃ p,qd % 40=p:=⟨_,rfl⟩
      have g0:0≤pd:=by omega
      have g1:0≤qa:=by omega
      have g2:0≤qb:=by omega
      have g3:0≤qd:=by omega
      have c0:0≤p0∧p0<3:=by omega
      have c1:0≤p1∧p1<9:=by omega
      have c2:0≤ra∧ra<10:=by omega
      have c3:0≤rb∧rb<9:=by omega
      have c4:0≤rd∧rd<40:=by omega
      have v0:IntKind.i64.wrap pd=pd:=IntWalk.i64_in _ (by omega)
      have v2:IntKind.i64.wrap qa=qa:=IntWalk.i64_in _ (by omega)
      have v3:IntKind.i64.wrap qb=qb:=IntWalk.i64_in _ (by omega)
      have v4:IntKind.i64.wrap qd=qd:=IntWalk.i64_in _ (by omega)
      have v5:IntKind.i64.wrap (1+rb)=1+rb:=IntWalk.i64_in _ (by omega)
      have v6:IntKind.i64.wrap (rd-20)=rd-20:=IntWalk.i64_in _ (by omega)
      have HIr:=Lib.hid (HI.out.ext HK.out.ext)
      have HST:=Lib.hid (show RefS wr gs rows (n0:Int) by rw [HN0.out];exact HIr.out.st)
      have hstok:StOK rs:=by rw [HRS.out];exact HI.out.ok
      have hag:=HI.out.agree
      rw [← HRS.out] at hag
      obtain ⟨kk,hkk⟩:∃ z,z=1+p1:=⟨_,rfl⟩
      obtain ⟨st,hst⟩:∃ z:Bool,decide (0<q4)=z:=⟨_,rfl⟩
      have HLC:=Lib.hid (show ChgG (logC rs p0 kk ra (1+rb) (rd-20) st) by rw [hkk];exact logC_good hstok c0 c1 c2 c3 c4)
      have HG:=fun (W:World) (hW:RefS W gs rows n0)=>refGet rows hag.sort (by have:=agree_rows hag hstok;omega) p0 kk n0 gs W hW
      rw [hag.eq] at HG
      have v1:IntKind.i64.wrap (1+p1)=kk:=by rw [hkk];exact IntWalk.i64_in _ (by omega)
      obtain ⟨G,hG⟩:∃ G,G=getR rs p0 kk:=⟨_,rfl⟩
      rw [← hG] at HG
      obtain ⟨r,hr⟩:∃ r,r=G.getD zeroR:=⟨_,rfl⟩
      obtain ⟨hd,hhd⟩:∃ z,z=G.isSome:=⟨_,rfl⟩
      rw [← hr,← hhd] at HG
      obtain ⟨d,hd0⟩:∃ d,d=logC rs p0 kk ra (1+rb) (rd-20) st:=⟨_,rfl⟩
      obtain ⟨hs,hhs⟩:∃ z,z=(!hd || st):=⟨_,rfl⟩
      have HHS:=Lib.hid hhs
      have HD:=Lib.hid (show ChgG d∧fillC rs d=d∧(d.had=true∨d.has=true)∧(d.t=p0∧d.k=kk∧d.had=hd∧d.o1=r.a∧d.o2=r.b∧d.o3=r.c∧d.has=hs)∧(hs=true→d.n1=ra∧d.n2=1+rb∧d.n3=rd-20)∧(hs=false→d.n1=0∧d.n2=0∧d.n3=0) from by
        rw [hd0,hhs]
        exact ⟨HLC.out,logC_fill _ _ _ _ _ _ _,logC_any _ _ _ _ _ _ _,logC_parts hG hr hhd⟩)
      have HG:=Lib.hid HG
      have HX0:=Lib.hid (Blk.new wr 72 #[.int .i64 p0,.int .i64 kk,.bool false,.int .i64 0,.int .i64 0,.int .i64 0,.bool false,.int .i64 0,.int .i64 0,.int .i64 0])
      obtain ⟨r0,r1,o1,o2,o3⟩:=r
      dsimp only at HG HD
      have hw0:wr.heap.size=wr.heap.size:=rfl
      clear c0 c1 c2 c3 c4 hag hstok hG hr hhd hd0 hw0 hkk hhs
      go_wp2_with fail
      refine (HG.out _ (HST.out.ext (ext_new wr _))).mono ?_
      rintro e W2 ⟨rfl,hb2⟩
      have HX2:=Lib.hid (HX0.out.ext hb2)
      have HE2:=Lib.hid (ext_call (ext_new wr _) hb2)
      have hlx:=HX2.out.lt
      obtain ⟨bx,hbx⟩:∃ bx,bx=wr.heap.size:=⟨_,rfl⟩
      have HBX:=Lib.hid (Nat.le_of_eq hbx.symm)
      rw [← hbx] at HX2 hlx
      rw [← hbx]
      clear hb2 hbx
      have x0:=HX2.out.cell 0;have x1:=HX2.out.cell 1;have x2:=HX2.out.cell 2;have x3:=HX2.out.cell 3;have x4:=HX2.out.cell 4;have x5:=HX2.out.cell 5;have x6:=HX2.out.cell 6;have x7:=HX2.out.cell 7;have x8:=HX2.out.cell 8;have x9:=HX2.out.cell 9
      have f2:=HX2.out.frozen 2;have f3:=HX2.out.frozen 3;have f4:=HX2.out.frozen 4;have f5:=HX2.out.frozen 5;have f6:=HX2.out.frozen 6
      go_upto_region 20 with (fail)
      go_cut [10] from 75 to 82 (fun p W=>p=.pointer (some ⟨bx,0,none⟩)∧Blk W bx 72 #[.int .i64 p0,.int .i64 kk,.bool hd,.int .i64 o1,.int .i64 o2,.int .i64 o3,.bool hs,.int .i64 0,.int .i64 0,.int .i64 0]∧Below wr.heap.size wr W)
      case first=>
        cases hd with
        | false=>
          go_wp2
          go_meet
          case rel=>exact ⟨rfl,by rw [HHS.out];exact (((((HX2.out.set_ 2 (.bool false)).set_ 3 (.int .i64 o1)).set_ 4 (.int .i64 o2)).set_ 5 (.int .i64 o3)).set_ 6 (.bool true)).alloc _,ext_alloc (ext_set (ext_set (ext_set (ext_set (ext_set HE2.out HBX.out _) HBX.out _) HBX.out _) HBX.out _) HBX.out _) _⟩
        | true=>
          go_wp2
          go_meet
          case rel=>exact ⟨rfl,by rw [HHS.out];exact (((((HX2.out.set_ 2 (.bool true)).set_ 3 (.int .i64 o1)).set_ 4 (.int .i64 o2)).set_ 5 (.int .i64 o3)).set_ 6 (.bool st)).alloc _,ext_alloc (ext_set (ext_set (ext_set (ext_set (ext_set HE2.out HBX.out _) HBX.out _) HBX.out _) HBX.out _) HBX.out _) _⟩
      case rest =>
        obtain ⟨rfl,hB3,hE3⟩:=hcut
        have HB3:=Lib.hid hB3
        have HE3:=Lib.hid hE3
        have a6:wc.cell? ⟨bx,6,none⟩=some (.bool hs):=hB3.cell 6
        clear hB3 hE3 HX2 HE2 x0 x1 x2 x3 x4 x5 x6 x7 x8 x9 f2 f3 f4 f5 f6 hlx hst hq4 HG HX0
        go_upto_if 84 with (fail)
        go_cut [10] from 85 to 97 (fun p W=>p=.pointer (some ⟨bx,0,none⟩)∧Blk W bx 72 d.arr∧Below wr.heap.size wr W)
        case first=>
          cases hs with
          | false=>
            go_wp2
            go_meet
            case rel=>exact ⟨rfl,by rw [arr_of HD.out.2.2.2.1 (HD.out.2.2.2.2.2 (by first|rfl|trivial))];exact HB3.out,HE3.out⟩
          | true=>
            have a7:wc.cell? ⟨bx,7,none⟩=some (.int .i64 0):=HB3.out.cell 7
            have a8:wc.cell? ⟨bx,8,none⟩=some (.int .i64 0):=HB3.out.cell 8
            have a9:wc.cell? ⟨bx,9,none⟩=some (.int .i64 0):=HB3.out.cell 9
            have f7:=HB3.out.frozen 7
            have f8:=HB3.out.frozen 8
            have f9:=HB3.out.frozen 9
            go_wp2
            go_meet
            case rel=>exact ⟨rfl,by rw [arr_of HD.out.2.2.2.1 (HD.out.2.2.2.2.1 (by first|rfl|trivial))];exact (((HB3.out.set_ 7 (.int .i64 ra)).set_ 8 (.int .i64 (1+rb))).set_ 9 (.int .i64 (rd-20))),ext_set (ext_set (ext_set HE3.out HBX.out _) HBX.out _) HBX.out _⟩
        case rest =>
          obtain ⟨rfl,hB4,hE4⟩:=hcut
          have HB4:=Lib.hid hB4
          have HE4:=Lib.hid hE4
          have HO4:=Lib.hid (own_ext HK.out.own hE4)
          have HDG:=Lib.hid (And.intro HD.out.1 (And.intro HD.out.2.1 HD.out.2.2.1))
          clear hB4 hE4 HB3 HE3 a6 HD HHS HLC hqa hqb hqd hra hrb hrd hp0 hpd hp1 v0 v1 v2 v3 v4 v5 v6 g0 g1 g2 g3
          obtain ⟨V,hV⟩:∃ V,V=wc:=⟨_,rfl⟩
          rw [← hV] at HB4 HE4 HO4 ⊢
          clear hV
          go_wp2
          go_loopw [13,14] (fun kv jv W=>∃ j:Nat,j≤l.length∧jv=.int .i64 (j:Int)∧kv=.bool (keyIn (l.take j) d)∧Below V.heap.size V W) (fun _ jv _=>l.length-(intOf jv).toNat)
          case atStart=>exact ⟨0,Nat.zero_le _,rfl,rfl,ext_refl _⟩
          case round =>
            obtain ⟨j,hj,rfl,rfl,hEj⟩:=hrel
            have HEj:=Lib.hid hEj
            have HBj:=Lib.hid (HB4.out.ext hEj)
            have e3:IntKind.i64.wrap ((j:Int)+1)=(j:Int)+1:=IntWalk.i64_in _ (by omega)
            clear hEj
            by_cases hjl:j<l.length
            · obtain ⟨y,hy⟩:∃ y,l[j]? = some y:=⟨_,List.getElem?_eq_getElem hjl⟩
              obtain ⟨g,cg,hv,-,-,hgb⟩:=ownChg HO4.out (by omega)
              injection hv with hv _ hv2
              subst hv hv2
              have y0:wr.cell? ⟨g,j*10,none⟩=some (.int .i64 y.t):=cell_ext (hgb.cell hy 0 (by omega)) HEj.out
              have y1:wr.cell? ⟨g,j*10+1,none⟩=some (.int .i64 y.k):=cell_ext (hgb.cell hy 1 (by omega)) HEj.out
              have b0:wr.cell? ⟨bx,0,none⟩=some (.int .i64 d.t):=HBj.out.cell 0
              have b1:wr.cell? ⟨bx,1,none⟩=some (.int .i64 d.k):=HBj.out.cell 1
              have hks:=keyIn_take d hy
              obtain ⟨kb,hkb⟩:∃ kb,kb=keyIn (l.take j) d:=⟨_,rfl⟩
              rw [← hkb] at hks ⊢
              have HKS:=Lib.hid hks
              have q0:(0:Int)≤(j:Int):=by omega
              have q1:(j:Int)<(l.length:Int):=by omega
              have q2:decide ((j:Int)<(l.length:Int))=true:=decide_eq_true q1
              clear hy hgb hks hkb
              cases kb with
              | true=>
                go_wp2
                go_quiet (fail)
                go_wp2
                go_roundw
                case rel=>exact ⟨j+1,by omega,by go_num,by rw [HKS.out];rfl,ext_drewN HEj.out _⟩
                case measure=>simp [intOf];omega
              | false=>
                by_cases h1:y.t=d.t
                · have d1:(y.t == d.t)=true:=by simpa using h1
                  have HS1:=Lib.hid (decide_eq_true h1)
                  clear h1
                  by_cases h2:y.k=d.k
                  · have d2:(y.k == d.k)=true:=by simpa using h2
                    have HS2:=Lib.hid (decide_eq_true h2)
                    clear h2
                    go_wp2
                    go_quiet (fail)
                    go_wp2
                    go_roundw
                    case rel=>exact ⟨j+1,by omega,by go_num,by rw [HKS.out,HS1.out,HS2.out];rfl,ext_drewN HEj.out _⟩
                    case measure=>simp [intOf];omega
                  · have d2:(y.k == d.k)=false:=by simpa using h2
                    have HS2:=Lib.hid (decide_eq_false h2)
                    clear h2
                    go_wp2
                    go_quiet (fail)
                    go_wp2
                    go_roundw
                    case rel=>exact ⟨j+1,by omega,by go_num,by rw [HKS.out,HS1.out,HS2.out];rfl,ext_drewN HEj.out _⟩
                    case measure=>simp [intOf];omega
                · have d1:(y.t == d.t)=false:=by simpa using h1
                  have HS1:=Lib.hid (decide_eq_false h1)
                  clear h1
                  go_wp2
                  go_quiet (fail)
                  go_wp2
                  go_roundw
                  case rel=>exact ⟨j+1,by omega,by go_num,by rw [HKS.out,HS1.out];rfl,ext_drewN HEj.out _⟩
                  case measure=>simp [intOf];omega
            · have hjl2 : j = l.length := by omega
              have q2:decide ((j:Int)<(l.length:Int))=false:=decide_eq_false (by omega)
              obtain ⟨kn,hkn⟩:∃ kn,kn=keyIn l d:=⟨_,rfl⟩
              rw [show keyIn (l.take j) d=kn by rw [hjl2,List.take_length,hkn]]
              have HKN:=Lib.hid hkn
              clear hjl2 hkn e3
              have HBz:=Lib.hid (HB4.out.ext HEj.out)
              go_upto_region 28 with (fail)
              go_cut [149] from 125 to 149 (fun t W=>wr=W∧∃ sk:Bool,t=.bool sk∧(sk=false→kn=false∧d.turns=true))
              case first =>
                have b2:wr.cell? ⟨bx,2,none⟩=some (.bool d.had):=HBz.out.cell 2
                have b6:wr.cell? ⟨bx,6,none⟩=some (.bool d.has):=HBz.out.cell 6
                cases kn with
                | true=>
                  go_wp2
                  go_meet
                  case rel=>exact ⟨rfl,true,rfl,fun h=>by cases h⟩
                | false =>
                  have b3:wr.cell? ⟨bx,3,none⟩=some (.int .i64 d.o1):=HBz.out.cell 3
                  have b4:wr.cell? ⟨bx,4,none⟩=some (.int .i64 d.o2):=HBz.out.cell 4
                  have b5:wr.cell? ⟨bx,5,none⟩=some (.int .i64 d.o3):=HBz.out.cell 5
                  have b7:wr.cell? ⟨bx,7,none⟩=some (.int .i64 d.n1):=HBz.out.cell 7
                  have b8:wr.cell? ⟨bx,8,none⟩=some (.int .i64 d.n2):=HBz.out.cell 8
                  have b9:wr.cell? ⟨bx,9,none⟩=some (.int .i64 d.n3):=HBz.out.cell 9
                  have heq:=fun W:World=>eq3 d.o1 d.o2 d.o3 d.n1 d.n2 d.n3 W
                  obtain ⟨eb,heb⟩:∃ eb,eb=(decide (d.o1=d.n1) && decide (d.o2=d.n2) && decide (d.o3=d.n3)):=⟨_,rfl⟩
                  rw [← heb] at heq
                  have HTN:=Lib.hid (show ∀ h s:Bool,d.had=h→d.has=s→(h && s && eb)=false→d.turns=true from fun h s e1 e2 e3=>turns_of HDG.out.2.2 (by rw [e1,e2,← heb];exact e3))
                  obtain ⟨hh,hhh⟩:∃ z,z=d.had:=⟨_,rfl⟩
                  obtain ⟨ha,hha⟩:∃ z,z=d.has:=⟨_,rfl⟩
                  rw [← hhh] at b2
                  rw [← hha] at b6
                  have HHH:=Lib.hid (And.intro hhh.symm hha.symm)
                  clear heb hhh hha
                  generalize d.o1=w1 at *
                  generalize d.o2=w2 at *
                  generalize d.o3=w3 at *
                  generalize d.n1=w4 at *
                  generalize d.n2=w5 at *
                  generalize d.n3=w6 at *
                  cases hh with
                  | false=>
                    by_cases hk0:(0:Int)<(k:Int)
                    · by_cases h5:p5=0
                      · have d5:(p5 == 0)=true:=by simpa using h5
                        clear h5
                        go_wp2
                        go_meet
                        case rel=>exact ⟨rfl,true,rfl,fun h=>by cases h⟩
                      · have d5:(p5 == 0)=false:=by simpa using h5
                        clear h5
                        go_wp2
                        go_meet
                        case rel=>exact ⟨rfl,false,rfl,fun _=>⟨by first|rfl|trivial,HTN.out _ _ HHH.out.1 HHH.out.2 rfl⟩⟩
                    · go_wp2
                      go_meet
                      case rel=>exact ⟨rfl,false,rfl,fun _=>⟨by first|rfl|trivial,HTN.out _ _ HHH.out.1 HHH.out.2 rfl⟩⟩
                  | true =>
                    cases ha with
                    | false=>
                      by_cases hk0:(0:Int)<(k:Int)
                      · by_cases h5:p5=0
                        · have d5:(p5 == 0)=true:=by simpa using h5
                          clear h5
                          go_wp2
                          go_meet
                          case rel=>exact ⟨rfl,true,rfl,fun h=>by cases h⟩
                        · have d5:(p5 == 0)=false:=by simpa using h5
                          clear h5
                          go_wp2
                          go_meet
                          case rel=>exact ⟨rfl,false,rfl,fun _=>⟨by first|rfl|trivial,HTN.out _ _ HHH.out.1 HHH.out.2 rfl⟩⟩
                      · go_wp2
                        go_meet
                        case rel=>exact ⟨rfl,false,rfl,fun _=>⟨by first|rfl|trivial,HTN.out _ _ HHH.out.1 HHH.out.2 rfl⟩⟩
                    | true =>
                      cases eb with
                      | true=>
                        go_wp2
                        go_meet
                        case rel=>exact ⟨rfl,true,rfl,fun h=>by cases h⟩
                      | false=>
                        by_cases hk0:(0:Int)<(k:Int)
                        · by_cases h5:p5=0
                          · have d5:(p5 == 0)=true:=by simpa using h5
                            clear h5
                            go_wp2
                            go_meet
                            case rel=>exact ⟨rfl,true,rfl,fun h=>by cases h⟩
                          · have d5:(p5 == 0)=false:=by simpa using h5
                            clear h5
                            go_wp2
                            go_meet
                            case rel=>exact ⟨rfl,false,rfl,fun _=>⟨by first|rfl|trivial,HTN.out _ _ HHH.out.1 HHH.out.2 rfl⟩⟩
                        · go_wp2
                          go_meet
                          case rel=>exact ⟨rfl,false,rfl,fun _=>⟨by first|rfl|trivial,HTN.out _ _ HHH.out.1 HHH.out.2 rfl⟩⟩
              case rest =>
                obtain ⟨hw0,sk,rfl,hsk⟩:=hcut
                subst hw0
                have HKz:=Lib.hid (show LgK Y wr rs (.slice lA l.length lc) l from ⟨ext_call HK.out.ext (ext_call HE4.out HEj.out),own_ext HO4.out HEj.out,HK.out.nil,HK.out.lg⟩)
                cases sk with
                | true=>
                  go_wp2
                  exact hend _ _ _ (by omega) HKz.out _ _ _ _ _ _ _ _ _ _ _ _ _ _ _ _ _ _ _ _ _ _ _ _ _ _ _ _ _ _ _ _ _ _ _ _ _ _ _ _ _ _ _ _ _ _ _ _ _ _ _ _ _ _ _ _ _ _ _ _ _ _ _ _ _ _ _ _ _ _ _ _ _ _ _ _ _ _ _ _ _ _ _ _ _ _ _ _ _ _ _ _ _ _ _ _ _ _ _ _ _ _ _ _ _ _ _ _ _ _ _ _ _ _ _ _ _ _ _ _ _ _ _ _ _ _ _ _ _ _ _ _ _ _ _ _ _ _ _ _ _ _ _ _ _ _ _ _ _ _ _ _ _ _ _ _ _ _ _ _ _ _ _ _ _ _ _ _ _ _ _ _ _ _ _ _ _ _ _
                | false =>
                  have HSK:=Lib.hid (hsk rfl)
                  have HKN2:=Lib.hid (show keyIn l d=false by rw [← HKN.out];exact HSK.out.1)
                  obtain ⟨U,hU⟩:∃ U,U=wr:=⟨_,rfl⟩
                  rw [← hU] at HBz HKz ⊢
                  clear hU hsk HB4 HE4 HO4 HEj HBj hp5
                  go_wp2
                  go_loopw [15] (fun jv W=>∃ j:Nat,j≤l.length∧jv=.int .i64 (j:Int)∧(∀ x ∈ l.drop j,ltC d x)∧Below U.heap.size U W) (fun jv _=>(intOf jv).toNat)
                  case atStart=>exact ⟨l.length,Nat.le_refl _,rfl,by simp,ext_refl _⟩
                  case round =>
                    obtain ⟨j,hj,rfl,hgt,hEj⟩:=hrel
                    have HGT:=Lib.hid hgt
                    have HEj:=Lib.hid hEj
                    have HBj:=Lib.hid (HBz.out.ext hEj)
                    clear hgt hEj
                    go_upto_region 30 with (fail)
                    go_cut [186] from 152 to 186 (fun t W=>∃ tb:Bool,t=.bool tb∧(tb=true→∃ m y,j=m+1∧l[m]? = some y∧ltC d y)∧(tb=false→∀ m y,j=m+1→l[m]? = some y→ltC y d)∧Below U.heap.size U W)
                    case first =>
                      by_cases hj0:j=0
                      · subst hj0
                        go_quiet (fail)
                        go_wp2
                        go_meet
                        case rel=>exact ⟨false,rfl,(fun h=>by cases h),(fun _ m y h=>by omega),ext_drewN HEj.out _⟩
                      · obtain ⟨m,hm⟩:∃ m,j=m+1:=⟨j-1,by omega⟩
                        obtain ⟨y,hy⟩:∃ y,l[m]? = some y:=⟨_,List.getElem?_eq_getElem (by omega)⟩
                        obtain ⟨g,cg,hv,-,-,hgb⟩:=ownChg HKz.out.own (by omega)
                        injection hv with hv _ hv2
                        subst hv hv2
                        have y0:wr.cell? ⟨g,m*10,none⟩=some (.int .i64 y.t):=cell_ext (hgb.cell hy 0 (by omega)) HEj.out
                        have y1:wr.cell? ⟨g,m*10+1,none⟩=some (.int .i64 y.k):=cell_ext (hgb.cell hy 1 (by omega)) HEj.out
                        have b0:wr.cell? ⟨bx,0,none⟩=some (.int .i64 d.t):=HBj.out.cell 0
                        have b1:wr.cell? ⟨bx,1,none⟩=some (.int .i64 d.k):=HBj.out.cell 1
                        have hnk:¬ (y.t=d.t∧y.k=d.k):=fun e=>by
                          have h9:=keyIn_iff.2 ⟨y,List.mem_of_getElem? hy,e⟩
                          rw [HKN2.out] at h9
                          cases h9
                        have HY:=Lib.hid hy
                        have HM:=Lib.hid hm
                        have hj1:(0:Int)<(j:Int):=by omega
                        have hj2:decide ((0:Int)<(j:Int))=true:=decide_eq_true hj1
                        have hj3:0<j:=by omega
                        have hj4:decide (0<j)=true:=decide_eq_true hj3
                        have e3:IntKind.i64.wrap ((j:Int)-1)=(m:Int):=by rw [IntWalk.i64_in _ (by omega)];omega
                        have q0:(0:Int)≤(m:Int):=by omega
                        have q1:(m:Int)<(l.length:Int):=by omega
                        clear hy hgb hm hj0
                        by_cases h1:d.t<y.t
                        · have d1:decide (d.t<y.t)=true:=decide_eq_true h1
                          clear hnk
                          go_quiet (fail)
                          go_wp2
                          go_meet
                          case rel=>exact ⟨true,rfl,(fun _=>⟨m,y,HM.out,HY.out,.inl h1⟩),(fun h=>by cases h),ext_drewN HEj.out _⟩
                        · have d1:decide (d.t<y.t)=false:=decide_eq_false h1
                          by_cases h2:y.t=d.t
                          · have d2:(y.t == d.t)=true:=by simpa using h2
                            by_cases h3:d.k<y.k
                            · have d3:decide (d.k<y.k)=true:=decide_eq_true h3
                              have HL:=Lib.hid (show ltC d y from .inr ⟨h2.symm,h3⟩)
                              clear hnk h1 h2 h3
                              go_quiet (fail)
                              go_wp2
                              go_meet
                              case rel=>exact ⟨true,rfl,(fun _=>⟨m,y,HM.out,HY.out,HL.out⟩),(fun h=>by cases h),ext_drewN HEj.out _⟩
                            · have d3:decide (d.k<y.k)=false:=decide_eq_false h3
                              have HL:=Lib.hid (show ltC y d from .inr ⟨h2,by omega⟩)
                              clear hnk h1 h2 h3
                              go_quiet (fail)
                              go_wp2
                              go_meet
                              case rel=>exact ⟨false,rfl,(fun h=>by cases h),(fun _ m' y' h1 h2=>by
                                have e:m'=m:=by have:=HM.out;omega
                                subst e
                                rw [HY.out] at h2
                                have:=Option.some.inj h2
                                subst this
                                exact HL.out),ext_drewN HEj.out _⟩
                          · have d2:(y.t == d.t)=false:=by simpa using h2
                            have HL:=Lib.hid (show ltC y d from .inl (by omega))
                            clear hnk h1 h2
                            go_quiet (fail)
                            go_wp2
                            go_meet
                            case rel=>exact ⟨false,rfl,(fun h=>by cases h),(fun _ m' y' h1 h2=>by
                              have e:m'=m:=by have:=HM.out;omega
                              subst e
                              rw [HY.out] at h2
                              have:=Option.some.inj h2
                              subst this
                              exact HL.out),ext_drewN HEj.out _⟩
                    case rest=>
                      obtain ⟨tb,rfl,ht1,ht2,hEc⟩:=hcut
                      cases tb with
                      | true=>
                        obtain ⟨m,y,hm,hy,hly⟩:=ht1 rfl
                        have HLY:=Lib.hid (And.intro hm (And.intro hy hly))
                        have HEc:=Lib.hid hEc
                        have e3:IntKind.i64.wrap ((j:Int)-1)=(m:Int):=by rw [IntWalk.i64_in _ (by omega)];omega
                        clear ht1 ht2 hm hy hly hEc
                        go_wp2
                        go_roundw
                        case rel=>exact ⟨m,by have:=HLY.out.1;omega,rfl,(fun x hx=>by
                          obtain ⟨h1,h2⟩:=List.getElem?_eq_some_iff.1 HLY.out.2.1
                          rw [List.drop_eq_getElem_cons h1] at hx
                          rcases List.mem_cons.1 hx with h|h
                          · rw [h,h2];exact HLY.out.2.2
                          · exact HGT.out x (by rw [HLY.out.1];exact h)),HEc.out⟩
                        case measure=>have:=HLY.out.1;simp [intOf];omega
                      | false=>
                        have hlt:=asc_take hj HKz.out.lg.asc (ht2 rfl)
                        have HIN:=Lib.hid (HKz.out.lg.ins HDG.out.1 HSK.out.2 HDG.out.2.1 hlt HGT.out)
                        have HEc:=Lib.hid hEc
                        have HBc:=Lib.hid (HBz.out.ext hEc)
                        clear ht1 ht2 hlt hEc HBj
                        go_upto_region 32 with (fail)
                        have hca:=HKz.out.chgs HEc.out
                        have hcp:l.length≤lc:=hca.cap
                        have hl16:l.length≤1000:=by omega
                        have sl1:SlOK l.length lc j:=⟨hj,hcp⟩
                        obtain ⟨ok1,X1,hX1,v1,hw1,ok2,X2,hX2,v2,hw2,ho2,hB2,⟨q,dd,hv2⟩,hB1⟩:=insChg wc.drew l lA lc (hca.ext (ext_refl wc).drew) j hj hcp hl16 d
                        subst hv2
                        have HO2:=Lib.hid ho2
                        have HB2:=Lib.hid (show Below wc.heap.size wc X2 from ext_call (ext_refl wc).drew hB2)
                        have HB1:=Lib.hid (show Below wc.heap.size wc X1 from ext_call (ext_refl wc).drew hB1)
                        have HFX:=Lib.hid (cells10 HBc.out)
                        clear hca hcp ho2 hB2 hB1
                        obtain ⟨d0,d1,d2,d3,d4,d5,d6,d7,d8,d9⟩:=d
                        dsimp only [ChgT.arr] at ok1 hX1 hw1 HFX
                        rw [drew_alloc] at ok1 hX1 hw1
                        have hsz:wc.drew.heap.size=wc.heap.size:=rfl
                        rw [hsz] at ok1 hX1 hw1
                        clear hsz
                        refine wp_region_L (fun w'=>w'.cell? ⟨bx,0,none⟩=some (.int .i64 d0)∧w'.cell? ⟨bx,1,none⟩=some (.int .i64 d1)∧w'.cell? ⟨bx,2,none⟩=some (.bool d2)∧w'.cell? ⟨bx,3,none⟩=some (.int .i64 d3)∧w'.cell? ⟨bx,4,none⟩=some (.int .i64 d4)∧w'.cell? ⟨bx,5,none⟩=some (.int .i64 d5)∧w'.cell? ⟨bx,6,none⟩=some (.bool d6)∧w'.cell? ⟨bx,7,none⟩=some (.int .i64 d7)∧w'.cell? ⟨bx,8,none⟩=some (.int .i64 d8)∧w'.cell? ⟨bx,9,none⟩=some (.int .i64 d9)∧Below wc.heap.size wc w') (fun _=>True) [] (by kernel_rfl) ?_
                        refine takeF 0 (v:=?_) rfl (by kernel_rfl) (by kernel_rfl) (by kernel_rfl) (by kernel_rfl) (fun _ _ _ h=>hQ _ _ _ _ _ h) (Or.inl ⟨by rfl,?_⟩) (HFX.out _ ((ext_refl wc).drew)) (fun _=>trivial) ?_
                        rotate_left 1
                        · (rintro w' ⟨f0,f1,f2,f3,f4,f5,f6,f7,f8,f9,_⟩;go_simp;with_reducible rfl)
                        refine takeF 1 (v:=?_) rfl (by kernel_rfl) (by kernel_rfl) (by kernel_rfl) (by kernel_rfl) (fun _ _ _ h=>hQ _ _ _ _ _ h) (Or.inl ⟨by rfl,?_⟩) (HFX.out _ ((ext_refl wc).drew)) (fun _=>trivial) ?_
                        rotate_left 1
                        · (rintro w' ⟨f0,f1,f2,f3,f4,f5,f6,f7,f8,f9,_⟩;go_simp;with_reducible rfl)
                        refine takeF 2 (v:=?_) rfl (by kernel_rfl) (by kernel_rfl) (by kernel_rfl) (by kernel_rfl) (fun _ _ _ h=>hQ _ _ _ _ _ h) (Or.inl ⟨by rfl,?_⟩) (HFX.out _ ((ext_refl wc).drew)) (fun _=>trivial) ?_
                        rotate_left 1
                        · (rintro w' ⟨f0,f1,f2,f3,f4,f5,f6,f7,f8,f9,_⟩;go_simp;with_reducible rfl)
                        refine takeF 3 (v:=?_) rfl (by kernel_rfl) (by kernel_rfl) (by kernel_rfl) (by kernel_rfl) (fun _ _ _ h=>hQ _ _ _ _ _ h) (Or.inl ⟨by rfl,?_⟩) (HFX.out _ ((ext_refl wc).drew)) (fun _=>trivial) ?_
                        rotate_left 1
                        · (rintro w' ⟨f0,f1,f2,f3,f4,f5,f6,f7,f8,f9,_⟩;go_simp;with_reducible rfl)
                        refine takeF 4 (v:=?_) rfl (by kernel_rfl) (by kernel_rfl) (by kernel_rfl) (by kernel_rfl) (fun _ _ _ h=>hQ _ _ _ _ _ h) (Or.inl ⟨by rfl,?_⟩) (HFX.out _ ((ext_refl wc).drew)) (fun _=>trivial) ?_
                        rotate_left 1
                        · (rintro w' ⟨f0,f1,f2,f3,f4,f5,f6,f7,f8,f9,_⟩;go_simp;with_reducible rfl)
                        refine takeF 6 (v:=?_) rfl (by kernel_rfl) (by kernel_rfl) (by kernel_rfl) (by kernel_rfl) (fun _ _ _ h=>hQ _ _ _ _ _ h) (Or.inl ⟨by rfl,?_⟩) (HFX.out _ ((ext_refl wc).drew)) (fun _=>trivial) ?_
                        rotate_left 1
                        · (rintro w' ⟨f0,f1,f2,f3,f4,f5,f6,f7,f8,f9,_⟩;go_simp;with_reducible rfl)
                        refine takeF 7 (v:=?_) rfl (by kernel_rfl) (by kernel_rfl) (by kernel_rfl) (by kernel_rfl) (fun _ _ _ h=>hQ _ _ _ _ _ h) (Or.inl ⟨by rfl,?_⟩) (HFX.out _ ((ext_refl wc).drew)) (fun _=>trivial) ?_
                        rotate_left 1
                        · (rintro w' ⟨f0,f1,f2,f3,f4,f5,f6,f7,f8,f9,_⟩;go_simp;with_reducible rfl)
                        refine takeF 8 (v:=?_) rfl (by kernel_rfl) (by kernel_rfl) (by kernel_rfl) (by kernel_rfl) (fun _ _ _ h=>hQ _ _ _ _ _ h) (Or.inl ⟨by rfl,?_⟩) (HFX.out _ ((ext_refl wc).drew)) (fun _=>trivial) ?_
                        rotate_left 1
                        · (rintro w' ⟨f0,f1,f2,f3,f4,f5,f6,f7,f8,f9,_⟩;go_simp;with_reducible rfl)
                        refine allL [5] (by kernel_rfl) (by simp) ?_
                        simp only [List.forall_mem_cons,List.not_mem_nil,false_implies,implies_true,and_true]
                        refine stepL rfl (by rfl) (fun K hK=>?_)
                        have HKK:=Lib.hid hK
                        clear hK
                        go_simp
                        refine HKK.out _ _ (And.intro (HFX.out _ ((Below.drew (ext_new wc _)))) ?_)
                        clear HKK K
                        refine allL [9] (by kernel_rfl) (by simp) ?_
                        simp only [List.forall_mem_cons,List.not_mem_nil,false_implies,implies_true,and_true]
                        refine stepL rfl (by rfl) (fun K hK=>?_)
                        have HKK:=Lib.hid hK
                        clear hK
                        go_simp
                        refine HKK.out _ _ (And.intro (HFX.out _ (HB1.out)) ?_)
                        clear HKK K
                        refine allL [10] (by kernel_rfl) (by simp) ?_
                        simp only [List.forall_mem_cons,List.not_mem_nil,false_implies,implies_true,and_true]
                        refine stepL rfl (by rfl) (fun K hK=>?_)
                        have HKK:=Lib.hid hK
                        clear hK
                        go_simp
                        refine HKK.out _ _ (And.intro (HFX.out _ (HB2.out)) ?_)
                        clear HKK K
                        refine takeF 11 (v:=?_) rfl (by kernel_rfl) (by kernel_rfl) (by kernel_rfl) (by kernel_rfl) (fun _ _ _ h=>hQ _ _ _ _ _ h) (Or.inl ⟨by rfl,?_⟩) (HFX.out _ (HB2.out)) (fun _=>trivial) ?_
                        rotate_left 1
                        · (rintro w' ⟨f0,f1,f2,f3,f4,f5,f6,f7,f8,f9,_⟩;go_simp;with_reducible rfl)
                        refine doneL (by kernel_rfl) ?_ _
                        go_wp2
                        exact hend _ _ _ (by rw [ins_length _ _ hj];omega) ⟨ext_call (ext_call HKz.out.ext HEc.out) HB2.out,by rw [ins_length _ _ hj];exact own_monoR HO2.out (ext_call HKz.out.ext HEc.out).size,fun h=>by rw [ins_length _ _ hj] at h;omega,HIN.out⟩ _ _ _ _ _ _ _ _ _ _ _ _ _ _ _ _ _ _ _ _ _ _ _ _ _ _ _ _ _ _ _ _ _ _ _ _ _ _ _ _ _ _ _ _ _ _ _ _ _ _ _ _ _ _ _ _ _ _ _ _ _ _ _ _ _ _ _ _ _ _ _ _ _ _ _ _ _ _ _ _ _ _ _ _ _ _ _ _ _ _ _ _ _ _ _ _ _ _ _ _ _ _ _ _ _ _ _ _ _ _ _ _ _ _ _ _ _ _ _ _ _ _ _ _ _ _ _ _ _ _ _ _ _ _ _ _ _ _ _ _ _ _ _ _ _ _ _ _ _ _ _ _ _ _ _ _ _ _ _ _ _ _ _ _ _ _ _ _ _ _ _ _ _ _ _ _ _ _ _
end
section
open Go.RowKit Go.Shelf
attribute [local go_sem ↓] app_exec app_sem Go.wp_at_zero Go.wp_at_succ
set_option maxHeartbeats 8000000 in
theorem refLog (T:List (Nat→Int)) (hT16:T.length≤16) (v:Value) (w:World) (hv:SexAt w v T) (hT:Sex64 T):Calls Tryz.prog 25 #[v] w fun e w'=>
    ∃ u R,e=.returned u∧RecsL w' u 1 (trs R)∧R.length≤T.length∧RunG (trs R)∧(∀ x ∈ R,∀ c ∈ x.1,ChgG c)∧Below w.heap.size w w':=by
  have HSX:=Lib.hid hv
  obtain ⟨A,c,rfl,hcell⟩:=hv
  have HC:=Lib.hid hcell
  have HT:=Lib.hid hT
  clear hcell hT
  go_enter Tryz.func25,Tryz.ntmps25
  go_wp2_with fail
  refine (refNew04 w).mono ?_
  rintro e W1 ⟨rfl,hs1,hb1⟩
  obtain ⟨gs,hgs⟩:∃ gs,gs=w.heap.size:=⟨_,rfl⟩
  rw [← hgs] at hs1
  rw [← hgs]
  have HGS:=Lib.hid (Nat.le_of_eq hgs.symm)
  have HI1:=Lib.hid (LgI.start (B:=w.heap.size) hs1)
  have HE1:=Lib.hid hb1
  clear hs1 hb1 hgs
  go_wp2
  go_loopw [3,5,6,7,8,9,10,11,12,13,14,15,16,17] (fun ov iv _ _ _ _ _ _ _ _ _ _ _ _ W=>∃ (i:Nat) (R:List (List ChgT × Nat × Nat)) (rows:List RowT),i≤T.length∧R.length≤i∧iv=.int .i64 (i:Int)∧(R.length=0→ov=.slice none 0 0)∧LgI w.heap.size gs W ov R rows∧Below w.heap.size w W) (fun _ iv _ _ _ _ _ _ _ _ _ _ _ _ _=>T.length-(intOf iv).toNat)
  case atStart=>exact ⟨0,[],[],Nat.zero_le _,Nat.le_refl _,rfl,fun _=>rfl,HI1.out,HE1.out⟩
  case round =>
    obtain ⟨i,R,rows,hi,hRi,rfl,hnil,hI,hE⟩:=hrel
    have HNIL:=Lib.hid hnil
    have HI:=Lib.hid hI
    have HE:=Lib.hid hE
    obtain ⟨oA,oc,hov⟩:=own_shape hI.own
    obtain ⟨n0,hn0⟩:∃ n,n=R.length:=⟨_,rfl⟩
    have HN0:=Lib.hid hn0
    rw [← hn0] at hov hRi
    subst hov
    clear hnil hI hE HI1 HE1 hn0
    have e9:IntKind.i64.wrap ((i:Int)+1)=(i:Int)+1:=IntWalk.i64_in _ (by omega)
    by_cases hlt:i<T.length
    · obtain ⟨x,hx⟩:∃ x,T[i]? = some x:=⟨_,List.getElem?_eq_getElem hlt⟩
      obtain ⟨b,off,rfl,hcell⟩:=HC.out (by omega)
      have HX:=Lib.hid (And.intro (HT.out x (List.mem_of_getElem? hx)) (hcell i x hx))
      have hq0:(0:Int)≤(i:Int):=by omega
      have hq1:(i:Int)<(T.length:Int):=by omega
      obtain ⟨Y,hY⟩:∃ Y,Y=wr:=⟨_,rfl⟩
      rw [← hY] at HI HE
      obtain ⟨rs,hrs⟩:∃ rs,rs=stF (trs R):=⟨_,rfl⟩
      have HRS:=Lib.hid hrs
      have HK0:=Lib.hid (show LgK Y wr rs (.slice none 0 0) [] from ⟨by rw [hY];exact ext_refl _,World.ownsRow_nil _ _ _ _,fun _=>rfl,LgL.nil _⟩)
      clear hcell hx hY hrs
      go_wp2
      go_loopw [6,7,8,9,10,11,12,13,14,15] (fun lv kv _ _ _ _ _ _ _ _ W=>∃ (k:Nat) (l:List ChgT),k≤3∧l.length≤k∧kv=.int .i64 (k:Int)∧LgK Y W rs lv l) (fun _ kv _ _ _ _ _ _ _ _ _=>3-(intOf kv).toNat)
      case atStart=>exact ⟨0,[],by omega,by simp,rfl,HK0.out⟩
      case round=>
        obtain ⟨k,l,hk3,hlk,rfl,hK⟩:=hrel
        have HK:=Lib.hid hK
        obtain ⟨lA,lc,hlv⟩:=own_shape hK.own
        subst hlv
        clear hK HK0
        have e2:IntKind.i64.wrap ((k:Int)+1)=(k:Int)+1:=IntWalk.i64_in _ (by omega)
        by_cases hkl:k<3
        · go_upto_block 3 with (fail)
          refine logRound ?hq HX.out hlt HE.out HI.out HN0.out HRS.out HK.out hkl hlk ?_
          case hq=>
            intro c a d v w h
            dsimp (config:={ zetaDelta:=true }) only at h ⊢
            cases d with
            | none=>exact h
            | some d=>exact h
          intro l2 lv2 W5 hl2 hK2 u8 u9 u10 u11 u12 u13 u14 u15 u29 u30 u31 u32 u33 u34 u35 u36 u37 u38 u39 u40 u41 u42 u43 u44 u45 u46 u47 u48 u49 u50 u51 u52 u53 u54 u55 u56 u57 u58 u59 u60 u61 u62 u63 u64 u65 u66 u67 u68 u69 u70 u71 u72 u73 u74 u75 u76 u77 u78 u79 u80 u81 u82 u83 u84 u85 u86 u87 u88 u89 u90 u91 u92 u93 u94 u95 u96 u97 u98 u99 u100 u101 u102 u103 u104 u105 u106 u107 u108 u109 u110 u111 u112 u113 u114 u115 u116 u117 u118 u119 u120 u121 u122 u123 u124 u125 u126 u127 u128 u129 u130 u131 u132 u133 u134 u135 u136 u137 u138 u139 u140 u141 u142 u143 u144 u145 u146 u147 u148 u149 u150 u151 u152 u153 u154 u155 u156 u157 u158 u159 u160 u161 u162 u163 u164 u165 u166 u167 u168 u169 u170 u171 u172 u173 u174 u175 u176 u177 u178 u179 u180 u181 u182 u183 u184 u185 u186 u187 u188 u189 u190 u191 u192 u193 u194 u195 u196 u197 u198 u199
          have HK2:=Lib.hid hK2
          obtain ⟨A2,d2,hlv2⟩:=own_shape hK2.own
          subst hlv2
          clear hK2 HK HX
          go_wp2
          go_roundw
          case rel=>exact ⟨k+1,l2,by omega,hl2,by go_num,HK2.out⟩
          case measure=>simp [intOf];omega
        · have HIK:=Lib.hid (HI.out.ext HK.out.ext)
          have HSTP:=Lib.hid (show RefS wr gs rows (n0:Int) by rw [HN0.out];exact HIK.out.st)
          have HER:=Lib.hid (ext_call HE.out HK.out.ext)
          have hn16:n0≤16:=by omega
          have hl3:l.length≤3:=by omega
          have ep:IntKind.i64.wrap ((n0:Int)+1)=(n0:Int)+1:=IntWalk.i64_in _ (by omega)
          obtain ⟨sv,hsb,-⟩:=id HSTP.out
          have s1:=hsb.cell 1
          have hgl:=hsb.lt
          clear hsb e2
          obtain ⟨nl,hnl⟩:∃ nl,nl=l.length:=⟨_,rfl⟩
          have HNL:=Lib.hid hnl
          rw [← hnl] at hl3 ⊢
          clear hnl
          have HX0:=Lib.hid (Blk.new wr 75 #[.int .i64 ((n0:Int)+1),.slice lA nl lc])
          have HEA:=Lib.hid (ext_new wr (.cells #[.int .i64 ((n0:Int)+1),.slice lA nl lc] 75))
          by_cases hl0:nl=0
          · subst hl0
            go_wp2_with fail
            refine (refApplyNo (n0:Int) (by omega) rows gs lA lc _ (HSTP.out.ext HEA.out)).mono ?_
            rintro e W3 ⟨rfl,hb3⟩
            have HE3:=Lib.hid (ext_call HEA.out hb3)
            clear hb3
            go_wp2
            go_roundw
            case rel=>exact ⟨i+1,R,rows,by omega,by have:=HN0.out;omega,by go_num,HNIL.out,HIK.out.ext HE3.out,ext_call HER.out HE3.out⟩
            case measure=>simp [intOf];omega
          · have HLG:=Lib.hid HK.out.lg
            have HAP:=Lib.hid (LgI.apply HIK.out HLG.out HK.out.own HK.out.nil (by have:=HNL.out;omega) (by have:=HNL.out;omega) HRS.out (by have:=HN0.out;omega) HI.out.st.lt)
            rw [← HN0.out,← HNL.out] at HAP
            go_wp2_with fail
            refine (HAP.out _ HEA.out).mono ?_
            rintro e W3 ⟨rfl,hS3,hx3⟩
            have HX3:=Lib.hid (HX0.out.ext2g hx3 hgl)
            have HS3:=Lib.hid hS3
            have HE3:=Lib.hid (show Below w.heap.size w W3 from Ext2.below (ext_call HER.out HEA.out) HGS.out HGS.out hx3)
            have hq3:=Lib.hid ((Ext2.of_ext (a:=gs) (b:=gs) HEA.out).trans hx3)
            have hlx:=HX3.out.lt
            have HX9:=Lib.hid hx3
            have x0:=HX3.out.cell 0;have x1:=HX3.out.cell 1
            clear hS3 hx3
            obtain ⟨q,cq,hvq,-,hlc,hgb⟩:=ownChg HK.out.own (by have:=HNL.out;omega)
            injection hvq with hvq hnq hcq
            subst hvq hcq
            clear hnq
            have HQ3:=Lib.hid (show ChgB W3 q l from by
              obtain ⟨sv',hsb',-⟩:=HSTP.out
              exact (hgb.ext HEA.out).ext2T (Ext2.trans (Ext2.of_ext (ext_refl _)) HX9.out) (hsb'.ext HEA.out) (by decide))
            have HLC:=Lib.hid hlc
            obtain ⟨happ,W4,hW4,v4,hv4,ho4,hg4,v4A,v4c,hv4s⟩:=appRec W3 w.heap.size HE3.out.size (.slice oA n0 oc) R (own_ext2T HIK.out.own HSTP.out HEA.out HX9.out) (by have:=HN0.out;omega) ((n0:Int)+1) (some ⟨q,0,none⟩) nl lc
            have HPU:=Lib.hid (show LgI w.heap.size gs W4 v4 (R++[(l,q,lc)]) (insF rows l) from LgI.push HIK.out HNIL.out (by have h9:=HS3.out;rw [HN0.out] at h9;exact h9) hq3.out (ext_new W3 _) (HQ3.out.ext (ext_new W3 _)) HLC.out (by have h9:=HLG.out;rw [HRS.out] at h9;exact h9) (by have:=HNL.out;omega) (by have:=HNL.out;omega) (by have h9:=ho4;rw [HNL.out,HN0.out] at h9;exact h9) hg4)
            have HE4:=Lib.hid (show Below w.heap.size w W4 from (ext_alloc HE3.out (.cells #[.int .i64 ((n0:Int)+1),.slice (some ⟨q,0,none⟩) nl lc] 75)).grown hg4 (ext_alloc HE3.out _).size (own_low (own_ext2T HIK.out.own HSTP.out HEA.out HX9.out)))
            clear ho4 hg4 hlc hgb
            subst hv4s
            go_wp2
            go_roundw
            case rel=>exact ⟨i+1,R++[(l,q,lc)],insF rows l,by omega,by rw [List.length_append,List.length_singleton];have:=HN0.out;omega,by go_num,(fun h=>by rw [List.length_append,List.length_singleton] at h;omega),HPU.out,HE4.out⟩
            case measure=>simp [intOf];omega
    · go_wp2
      go_ret
      exact ⟨_,R,rfl,HI.out.recs,by have:=HN0.out;omega,HI.out.run,HI.out.gen,HE.out⟩
end
end Go.Proofs.YtimoapjhepmehaaGreatDoor
