/-
  Part 16 of 54: the contracts that the proof of the last part uses; each stands under its own head.
-/
import Derived.Test.YtimoapjhepmehaaGreatDoorP15
import Derived.Test.YtimoapjhepmehaaGreatDoorP9
import Derived.Deep.RegionHeld3
import Derived.Test.YtimoapjhepmehaaGreatDoorP10
import Derived.ChangeKeysEq
import Derived.Laws.Bits64b
import Derived.Test.YtimoapjhepmehaaGreatDoorP6
set_option linter.unusedSimpArgs false
set_option linter.unusedVariables false
set_option maxHeartbeats 4000000
set_option maxRecDepth 100000
namespace Go.Proofs.YtimoapjhepmehaaGreatDoor
section
open Go.RowKit
attribute [local go_sem ↓] Go.wp_at_zero Go.wp_at_succ
theorem logOwnG (p:Int) (l:List ChgT) (v:Value) (w:World) (hv:ChgsAt w v l) (h0:0<l.length) (h1:l.length≤8) :
    Calls Tryz.prog 72 #[.agg #[.int .i64 p,v]] w fun e w'=>∃ g d,e=.returned (.agg #[.int .i64 p,.slice (some ⟨g,0,none⟩) l.length d])∧w.heap.size≤g∧l.length≤d∧ChgB w' g l∧Below w.heap.size w w':=by
  have HVV:=Lib.hid hv
  obtain ⟨A,c,rfl,-⟩:=hv
  have HV:=HVV
  clear HVV
  have HX0:=Lib.hid ((Blk.new w 75 #[.int .i64 p,.slice A l.length c]).alloc (.cells #[.int .i64 0,.slice none 0 0] 75))
  have HO0:=Lib.hid (Blk.new' (w.alloc (.cells #[.int .i64 p,.slice A l.length c] 75)) 75 #[.int .i64 0,.slice none 0 0] (b:=w.heap.size+1) (by simp))
  have HB:=Lib.hid (HV.out.ext (ext_alloc (ext_new w (.cells #[.int .i64 p,.slice A l.length c] 75)) (.cells #[.int .i64 0,.slice none 0 0] 75)))
  clear HV
  go_enter Tryz.func72,Tryz.ntmps72
  go_wp2_with fail
  refine (cloneChgs l _ _ HB.out h0 (by omega)).mono ?_
  rintro e W1 ⟨g,d,rfl,hgg,hd,hch,hb1⟩
  have HD:=Lib.hid hd
  clear hd
  have HGG:=Lib.hid hgg
  have HCH:=Lib.hid hch
  clear hgg hch
  have HX1:=Lib.hid (HX0.out.ext hb1)
  have HO1:=Lib.hid (HO0.out.ext hb1)
  have HE1:=Lib.hid (ext_call (ext_alloc (ext_new w _) _) hb1)
  clear hb1
  have x0:=HX1.out.cell 0;have x1:=HX1.out.cell 1
  have o0:=HO1.out.cell 0;have o1:=HO1.out.cell 1
  have f0:=HX1.out.frozen 0
  have f1:=HX1.out.frozen 1
  have g0:=HO1.out.frozen 0
  have g1:=HO1.out.frozen 1
  go_wp2
  have hBf:=((HO1.out.far (p:=⟨w.heap.size,1,none⟩) (by simp) (.slice (some ⟨g,0,none⟩) l.length d)).set_ 0 (.int .i64 p)).set_ 1 (.slice (some ⟨g,0,none⟩) l.length d)
  have y0:=hBf.cell 0;have y1:=hBf.cell 1
  refine bodyPost_ret (v:=.agg #[.int .i64 p,.slice (some ⟨g,0,none⟩) l.length d]) (by simp [results,Tryz.results72,go_sem,y0,y1]) rfl ⟨_,_,rfl,?_,HD.out,?_,?_⟩
  · have:=HGG.out;simp at this;omega
  · have h2:=HGG.out;simp at h2;exact ((HCH.out.far (by simp;omega) _).far (by simp;omega) _).far (by simp;omega) _
  exact ext_set (ext_set (ext_set HE1.out (by simp) _) (by simp) _) (by simp) _
def rcF:Nat→List (List ChgT × Nat × Nat)→List Value
  | _,[]=>[]
  | i,x::r=>.int .i64 ((i:Int)+1) :: .slice (some ⟨x.2.1,0,none⟩) x.1.length x.2.2::rcF (i+1) r
def hcF:Nat→List (ByteArray × ByteArray)→List Value
  | _,[]=>[]
  | i,h::r=>.int .i64 (i:Int) :: .string h.1 :: .string h.2::hcF (i+1) r
theorem rcF_append:∀ (R:List (List ChgT × Nat × Nat)) (i:Nat) (x:List ChgT × Nat × Nat),rcF i (R++[x])=rcF i R++[.int .i64 (((i+R.length:Nat):Int)+1),.slice (some ⟨x.2.1,0,none⟩) x.1.length x.2.2]
  | [],i,x=>by simp [rcF]
  | y::R,i,x=>by
    simp only [List.cons_append,rcF,rcF_append R (i+1) x,List.length_cons]
    rw [show i+1+R.length=i+(R.length+1) by omega]
theorem hcF_append:∀ (H:List (ByteArray × ByteArray)) (i:Nat) (x:ByteArray × ByteArray),hcF i (H++[x])=hcF i H++[.int .i64 ((i+H.length:Nat):Int),.string x.1,.string x.2]
  | [],i,x=>by simp [hcF]
  | y::H,i,x=>by
    simp only [List.cons_append,hcF,hcF_append H (i+1) x,List.length_cons]
    rw [show i+1+H.length=i+(H.length+1) by omega]
theorem rcF_at:∀ (R:List (List ChgT × Nat × Nat)) (i j:Nat) (x:List ChgT × Nat × Nat),R[j]? = some x→(rcF i R)[j*2]? = some (.int .i64 (((i+j:Nat):Int)+1))∧(rcF i R)[j*2+1]? = some (.slice (some ⟨x.2.1,0,none⟩) x.1.length x.2.2)
  | [],i,j,x,h=>by simp at h
  | y::R,i,0,x,h=>by simp at h;subst h;simp [rcF]
  | y::R,i,j+1,x,h=>by
    have h1:=rcF_at R (i+1) j x (by simpa using h)
    rw [show i+1+j=i+(j+1) by omega] at h1
    rw [show (j+1)*2=j*2+2 by omega]
    simpa [rcF] using h1
theorem hcF_at:∀ (H:List (ByteArray × ByteArray)) (i j:Nat) (x:ByteArray × ByteArray),H[j]? = some x→(hcF i H)[j*3]? = some (.int .i64 ((i+j:Nat):Int))∧(hcF i H)[j*3+1]? = some (.string x.1)∧(hcF i H)[j*3+2]? = some (.string x.2)
  | [],i,j,x,h=>by simp at h
  | y::H,i,0,x,h=>by simp at h;subst h;simp [hcF]
  | y::H,i,j+1,x,h=>by
    have h1:=hcF_at H (i+1) j x (by simpa using h)
    rw [show i+1+j=i+(j+1) by omega] at h1
    rw [show (j+1)*3=j*3+3 by omega]
    simpa [hcF] using h1
structure LogG2 (B C:Nat) (w:World) (gl:Nat) (rv hv:Value) (R:List (List ChgT × Nat × Nat)) (H:List (ByteArray × ByteArray)):Prop where
  log:Blk w gl 112 #[rv,hv]
  recs:w.ownsRow B 75 2 rv R.length (rcF 0 R)
  heads:w.ownsRow C 52 3 hv H.length (hcF 0 H)
  chg:∀ x ∈ R,ChgB w x.2.1 x.1∧x.1.length≤x.2.2
  len:H.length=R.length+1
  sizes:∀ h ∈ H,h.1.size=32∧h.2.size=32
theorem LogG2.ext {B C:Nat} {w W:World} {gl:Nat} {rv hv:Value} {R:List (List ChgT × Nat × Nat)} {H:List (ByteArray × ByteArray)} (h:LogG2 B C w gl rv hv R H) (k:Below w.heap.size w W):LogG2 B C W gl rv hv R H:=
  ⟨h.log.ext k,own_ext h.recs k,own_ext h.heads k,fun x hx=>⟨(h.chg x hx).1.ext k,(h.chg x hx).2⟩,h.len,h.sizes⟩
abbrev LogG (B:Nat):=LogG2 B B
theorem LogG.ext {B:Nat} {w W:World} {gl:Nat} {rv hv:Value} {R:List (List ChgT × Nat × Nat)} {H:List (ByteArray × ByteArray)} (h:LogG B w gl rv hv R H) (k:Below w.heap.size w W):LogG B W gl rv hv R H:=LogG2.ext h k
def ApX (gl:Nat) (rv hv:Value) (k:Nat):Prop:=k=gl∨rv.ownBlock=some k∨hv.ownBlock=some k
structure ApI2 (B C:Nat) (X:World) (gl:Nat) (rv hv:Value) (R:List (List ChgT × Nat × Nat)) (rv':Value) (nr:Nat) (rcs:List Value) (hv':Value) (nh:Nat) (hcs:List Value) (U:World):Prop where
  ext:ExtS (ApX gl rv hv) X U
  log:Blk U gl 112 #[rv,hv]
  recs:U.ownsRow B 75 2 rv' nr rcs
  heads:U.ownsRow C 52 3 hv' nh hcs
  chg:∀ x ∈ R,ChgB U x.2.1 x.1
section
variable {B C:Nat} {X U V:World} {gl nr nh:Nat} {rv hv rv' hv':Value} {R:List (List ChgT × Nat × Nat)} {rcs hcs:List Value}
theorem ApI2.start {H:List (ByteArray × ByteArray)} (h:LogG2 B C X gl rv hv R H):ApI2 B C X gl rv hv R rv R.length (rcF 0 R) hv H.length (hcF 0 H) X:=
  ⟨.of_ext (ext_refl X),h.log,h.recs,h.heads,fun x hx=>(h.chg x hx).1⟩
theorem ApI2.below (h:ApI2 B C X gl rv hv R rv' nr rcs hv' nh hcs U) (k:Below U.heap.size U V):ApI2 B C X gl rv hv R rv' nr rcs hv' nh hcs V:=
  ⟨h.ext.trans (.of_ext k),h.log.ext k,own_ext h.recs k,own_ext h.heads k,fun x hx=>(h.chg x hx).ext k⟩
theorem ChgB.grownT {e:TypeId} {sz n:Nat} {g:Nat} {l:List ChgT} {v:Value} {xs:List Value} (h:ChgB U g l) (hg:U.grownBy V v.ownBlock) (ho:U.ownsRow B e sz v n xs) (ht:72≠e):ChgB V g l:=by
  obtain ⟨cur,h,h2⟩:=h
  refine ⟨cur,h.grown hg ?_,h2⟩
  rcases ho.2 with ⟨rfl,_⟩|⟨g',cap,cur',rfl,_,hb,_⟩
  · simp [Value.ownBlock]
  · intro e2
    have e3:g=g':=Option.some.inj e2
    subst e3
    exact blkNe h hb ht rfl
theorem Blk.grownT {t e:TypeId} {sz n g:Nat} {cs:Array Value} {v:Value} {xs:List Value} (h:Blk U g t cs) (hg:U.grownBy V v.ownBlock) (ho:U.ownsRow B e sz v n xs) (ht:t≠e):Blk V g t cs:=by
  refine h.grown hg ?_
  rcases ho.2 with ⟨rfl,_⟩|⟨g',cap,cur',rfl,_,hb,_⟩
  · simp [Value.ownBlock]
  · intro e2
    have e3:g=g':=Option.some.inj e2
    subst e3
    exact blkNe h hb ht rfl
theorem own_grownT {B':Nat} {e e':TypeId} {sz n sz' n':Nat} {v v':Value} {xs xs':List Value} (h:U.ownsRow B e' sz' v' n' xs') (hg:U.grownBy V v.ownBlock) (ho:U.ownsRow B' e sz v n xs) (ht:e'≠e):V.ownsRow B e' sz' v' n' xs':=
  h.kept hg (own_ne h ho ht)
theorem ApI2.app_rec {w1:Value} {n1:Nat} {xs1:List Value} (h:ApI2 B C X gl rv hv R rv nr rcs hv' nh hcs U) (ho:V.ownsRow B 75 2 w1 n1 xs1) (hg:U.grownBy V rv.ownBlock):ApI2 B C X gl rv hv R w1 n1 xs1 hv' nh hcs V:=
  ⟨⟨hg.os.trans h.ext.os,hg.tape.trans h.ext.tape,hg.output.trans h.ext.output,Nat.le_trans h.ext.size hg.size,fun k hk hn=>(hg.block k (Nat.lt_of_lt_of_le hk h.ext.size) (fun e=>hn (.inr (.inl e.symm)))).trans (h.ext.block k hk hn)⟩,
    h.log.grownT hg h.recs (by decide),ho,own_grownT h.heads hg h.recs (by decide),fun x hx=>(h.chg x hx).grownT hg h.recs (by decide)⟩
theorem ApI2.app_head {w1:Value} {n1:Nat} {xs1:List Value} (h:ApI2 B C X gl rv hv R rv' nr rcs hv nh hcs U) (ho:V.ownsRow C 52 3 w1 n1 xs1) (hg:U.grownBy V hv.ownBlock):ApI2 B C X gl rv hv R rv' nr rcs w1 n1 xs1 V:=
  ⟨⟨hg.os.trans h.ext.os,hg.tape.trans h.ext.tape,hg.output.trans h.ext.output,Nat.le_trans h.ext.size hg.size,fun k hk hn=>(hg.block k (Nat.lt_of_lt_of_le hk h.ext.size) (fun e=>hn (.inr (.inr e.symm)))).trans (h.ext.block k hk hn)⟩,
    h.log.grownT hg h.heads (by decide),own_grownT h.recs hg h.heads (by decide),ho,fun x hx=>(h.chg x hx).grownT hg h.heads (by decide)⟩
end
end
section
open Go.RowKit
attribute [local go_sem ↓] Go.wp_at_zero Go.wp_at_succ
theorem recg_info:(Tryz.prog.info? 75).map (fun i=>(i.zero,i.size,i.bytes))=some (some (.agg #[.int .i64 0,.slice none 0 0]),2,32):=by kernel_rfl
theorem headg_info:(Tryz.prog.info? 52).map (fun i=>(i.zero,i.size,i.bytes))=some (some (.agg #[.int .i64 0,.string ⟨#[]⟩,.string ⟨#[]⟩]),3,40):=by kernel_rfl
theorem agKeep5 {W0 W W':World} {gl gh rb n:Nat} {hv:Value} {c s:ByteArray} {p:Int} {v:Value} (h:W.cell? ⟨gl,1,none⟩=some hv∧W.cell? ⟨gh,n*3,none⟩=some (.int .i64 (n:Int))∧W.cell? ⟨gh,n*3+1,none⟩=some (.string c)∧W.cell? ⟨gh,n*3+2,none⟩=some (.string s) ∧
    W.cell? ⟨rb,0,none⟩=some (.int .i64 p)∧W.cell? ⟨rb,1,none⟩=some v∧Below W0.heap.size W0 W) (hb:Below W.heap.size W W'):W'.cell? ⟨gl,1,none⟩=some hv∧W'.cell? ⟨gh,n*3,none⟩=some (.int .i64 (n:Int))∧W'.cell? ⟨gh,n*3+1,none⟩=some (.string c)∧W'.cell? ⟨gh,n*3+2,none⟩=some (.string s) ∧
    W'.cell? ⟨rb,0,none⟩=some (.int .i64 p)∧W'.cell? ⟨rb,1,none⟩=some v∧Below W0.heap.size W0 W':=
  ⟨cell_ext h.1 hb,cell_ext h.2.1 hb,cell_ext h.2.2.1 hb,cell_ext h.2.2.2.1 hb,cell_ext h.2.2.2.2.1 hb,cell_ext h.2.2.2.2.2.1 hb,ext_call h.2.2.2.2.2.2 hb⟩
theorem agB5 {W0 W:World} {gl gh rb n:Nat} {hv:Value} {c s:ByteArray} {p:Int} {v:Value} (h:W.cell? ⟨gl,1,none⟩=some hv∧W.cell? ⟨gh,n*3,none⟩=some (.int .i64 (n:Int))∧W.cell? ⟨gh,n*3+1,none⟩=some (.string c)∧W.cell? ⟨gh,n*3+2,none⟩=some (.string s) ∧
    W.cell? ⟨rb,0,none⟩=some (.int .i64 p)∧W.cell? ⟨rb,1,none⟩=some v∧Below W0.heap.size W0 W):Below W0.heap.size W0 W:=h.2.2.2.2.2.2
theorem aqKeepG {X W:World} {rb hx:Nat} {S:Nat→Prop} {a b c d e:Value} (h:Blk X rb 75 #[a,b]∧Blk X hx 52 #[c,d,e]∧¬ S rb∧¬ S hx) (k:ExtS S X W) :
    W.cell? ⟨rb,0,none⟩=some a∧W.cell? ⟨rb,1,none⟩=some b∧W.cell? ⟨hx,0,none⟩=some c∧W.cell? ⟨hx,1,none⟩=some d∧W.cell? ⟨hx,2,none⟩=some e∧ExtS S X W:=
  ⟨(ExtS.blk h.1 k h.2.2.1).cell 0,(ExtS.blk h.1 k h.2.2.1).cell 1,(ExtS.blk h.2.1 k h.2.2.2).cell 0,(ExtS.blk h.2.1 k h.2.2.2).cell 1,(ExtS.blk h.2.1 k h.2.2.2).cell 2,k⟩
theorem news_blk {W:World} {g:Nat} {t:TypeId} {cs:Array Value} (h:Blk W g t cs):∀ j u,cs.toList[j]? = some u→W.cell? ((⟨g,0,none⟩:Addr).add j)=some u:=fun j u hu=>by
  rw [add_lit0,h.cell,← hu]
  simp
theorem ExtS.setG {gl:Nat} {rv hv:Value} {X W:World} {i:Nat} {u:Value} (h:ExtS (ApX gl rv hv) X W):ExtS (ApX gl rv hv) X (W.setCell ⟨gl,i,none⟩ u):=
  h.trans ⟨rfl,rfl,rfl,by simp [World.setCell],fun k _ hn=>Below.heap_setCell _ _ _ _ (fun e=>hn (.inl e))⟩
theorem own_setT {W:World} {B g sz n:Nat} {t e:TypeId} {cs:Array Value} {v:Value} {xs:List Value} (h:W.ownsRow B e sz v n xs) (hb:Blk W g t cs) (ht:t≠e) (i:Nat) (u:Value):(W.setCell ⟨g,i,none⟩ u).ownsRow B e sz v n xs:=by
  refine h.kept (row:=some g) ⟨rfl,rfl,rfl,by simp [World.setCell],fun k _ hk=>Below.heap_setCell _ _ _ _ (fun e=>hk (by rw [e]))⟩ ?_
  rcases h.2 with ⟨rfl,_⟩|⟨g',cap,cur,rfl,_,hb',_⟩
  · exact .inl rfl
  · refine .inr fun e2=>?_
    have e3:g'=g:=Option.some.inj e2
    subst e3
    exact blkNe hb hb' ht rfl
theorem ChgB.setT {W:World} {g b:Nat} {t:TypeId} {cs:Array Value} {l:List ChgT} (h:ChgB W b l) (hb:Blk W g t cs) (ht:t≠72) (i:Nat) (u:Value):ChgB (W.setCell ⟨g,i,none⟩ u) b l:=by
  refine h.far (p:=⟨g,i,none⟩) ?_ u
  obtain ⟨cur,hc,_⟩:=h
  intro e
  exact blkNe hb hc ht e.symm
theorem logG_app {X U:World} {B C gl n go d:Nat} {rv hv rv2 hv2:Value} {R:List (List ChgT × Nat × Nat)} {H:List (ByteArray × ByteArray)} {l:List ChgT} {cz t:ByteArray} (hn:n=R.length) (hH:H.length=n+1) (hX:LogG2 B C X gl rv hv R H) (hd:l.length≤d) (ht:t.size=32) (hc:cz.size=32)
    (h1:Blk U gl 112 #[rv2,hv2]) (h2:U.ownsRow B 75 2 rv2 (n+1) (rcF 0 R++[.int .i64 ((n:Int)+1),.slice (some ⟨go,0,none⟩) l.length d])) (h3:U.ownsRow C 52 3 hv2 (n+1+1) (hcF 0 H++[.int .i64 ((n:Int)+1),.string cz,.string t]))
    (h4:∀ x ∈ R,ChgB U x.2.1 x.1) (h5:ChgB U go l):LogG2 B C U gl rv2 hv2 (R++[(l,go,d)]) (H++[(cz,t)]):=by
  refine ⟨h1,?_,?_,fun x hx=>?_,by simp [hX.len],fun h hh=>?_⟩
  · rw [rcF_append,List.length_append,← hn,Nat.zero_add];exact h2
  · rw [hcF_append,List.length_append,hH,Nat.zero_add]
    have e:(((n+1:Nat)):Int)=(n:Int)+1:=by omega
    rw [e];exact h3
  · rcases List.mem_append.1 hx with h|h
    · exact ⟨h4 x h,(hX.chg x h).2⟩
    · simp at h;subst h;exact ⟨h5,hd⟩
  · rcases List.mem_append.1 hh with h6|h6
    · exact hX.sizes h h6
    · simp at h6;subst h6;exact ⟨hc,ht⟩
end
section
open Go.RowKit Go.Shelf
attribute [local go_sem ↓] Go.wp_at_zero Go.wp_at_succ
structure GoodL (l:List ChgT):Prop where
  ok:ChgsOK l
  turns:validF l=true
structure GenL (l:List ChgT):Prop where
  few:l.length≤6
  gen:∀ c ∈ l,ChgG c
  asc:∀ (j:Nat) (a b:ChgT),l[j]? = some a→l[j+1]? = some b→a.t<b.t∨(a.t=b.t∧a.k<b.k)
def StS (gst gm:Nat) (k:Nat):Prop:=k=gst∨k=gm
theorem own_not {W:World} {B sz n g:Nat} {t e:TypeId} {v:Value} {xs:List Value} {cs:Array Value} (h:W.ownsRow B e sz v n xs) (hb:Blk W g t cs) (ht:t≠e):v.ownBlock≠some g:=by
  rcases h.2 with ⟨rfl,_⟩|⟨g',cap,cur,rfl,_,hb',_⟩
  · simp [Value.ownBlock]
  · intro e2
    have e3:g'=g:=Option.some.inj e2
    subst e3
    exact blkNe hb hb' ht rfl
theorem own_notMap {W:World} {B sz n g:Nat} {e:TypeId} {v:Value} {xs:List Value} {rs:List RowT} (h:W.ownsRow B e sz v n xs) (hm:MapR W g rs):v.ownBlock≠some g:=by
  obtain ⟨es,c,hm,_⟩:=hm
  rcases h.2 with ⟨rfl,_⟩|⟨g',cap,cur,rfl,_,hb',_⟩
  · simp [Value.ownBlock]
  · intro e2
    have e3:g'=g:=Option.some.inj e2
    subst e3
    unfold MapAt at hm
    rw [hm] at hb'
    cases hb'
theorem own_extS2 {W W':World} {S:Nat→Prop} {base n sz:Nat} {e:TypeId} {v:Value} {xs:List Value} (h:W.ownsRow base e sz v n xs) (k:ExtS S W W') (hn:∀ g,v.ownBlock=some g→¬ S g):W'.ownsRow base e sz v n xs:=by
  refine ⟨h.1,?_⟩
  rcases h.2 with hn'|⟨g,cap,cur,h1,h2,h3,h4⟩
  · exact .inl hn'
  · exact .inr ⟨g,cap,cur,h1,h2,(k.block g (Array.getElem?_eq_some_iff.1 h3).1 (hn g (by rw [h1];rfl))).trans h3,h4⟩
theorem ChgB.notS {W:World} {g b:Nat} {t:TypeId} {cs:Array Value} {l:List ChgT} (h:ChgB W b l) (hb:Blk W g t cs) (ht:t≠72):b≠g:=by
  obtain ⟨cur,hc,_⟩:=h
  exact fun e=>blkNe hb hc ht e.symm
theorem ChgB.notMap {W:World} {g b:Nat} {l:List ChgT} {rs:List RowT} (h:ChgB W b l) (hm:MapR W g rs):b≠g:=by
  obtain ⟨cur,hc,_⟩:=h
  obtain ⟨es,c,hm,_⟩:=hm
  rintro rfl
  unfold Blk at hc
  unfold MapAt at hm
  rw [hm] at hc
  cases hc
theorem ChgB.extS {W W':World} {S:Nat→Prop} {b:Nat} {l:List ChgT} (h:ChgB W b l) (k:ExtS S W W') (hn:¬ S b):ChgB W' b l:=by
  obtain ⟨cur,hc,h2⟩:=h
  exact ⟨cur,ExtS.blk hc k hn,h2⟩
theorem LogG.keepSt {B:Nat} {W W':World} {gl gst gm:Nat} {pos:Int} {rv hv:Value} {R:List (List ChgT × Nat × Nat)} {H:List (ByteArray × ByteArray)} {rs:List RowT} (h:LogG B W gl rv hv R H) (hs:StateR W gst gm pos rs) (k:ExtS (StS gst gm) W W'):LogG B W' gl rv hv R H:=by
  have hm:∀ {g:Nat} {t:TypeId} {cs:Array Value},Blk W g t cs→t≠103→¬ StS gst gm g:=fun hb ht=>by
    rintro (e|e)
    · exact blkNe hb hs.1 ht e
    · subst e
      obtain ⟨es,c,hm,_⟩:=hs.2
      unfold Blk at hb
      unfold MapAt at hm
      rw [hm] at hb
      cases hb
  refine ⟨ExtS.blk h.log k (hm h.log (by decide)),own_extS2 h.recs k (fun g hg=>?_),own_extS2 h.heads k (fun g hg=>?_),fun x hx=>⟨?_,(h.chg x hx).2⟩,h.len,h.sizes⟩
  · rintro (e|e)
    · subst e;exact own_not h.recs hs.1 (by decide) hg
    · subst e;exact own_notMap h.recs hs.2 hg
  · rintro (e|e)
    · subst e;exact own_not h.heads hs.1 (by decide) hg
    · subst e;exact own_notMap h.heads hs.2 hg
  · refine (h.chg x hx).1.extS k ?_
    rintro (e|e)
    · exact (h.chg x hx).1.notS hs.1 (by decide) e
    · exact (h.chg x hx).1.notMap hs.2 e
theorem StateR.keepLog {B:Nat} {W W':World} {gl gst gm:Nat} {pos:Int} {rv hv:Value} {R:List (List ChgT × Nat × Nat)} {H:List (ByteArray × ByteArray)} {rs:List RowT} (hs:StateR W gst gm pos rs) (h:LogG B W gl rv hv R H) (k:ExtS (ApX gl rv hv) W W'):StateR W' gst gm pos rs:=by
  refine ⟨ExtS.blk hs.1 k ?_,?_⟩
  · rintro (e|e|e)
    · exact blkNe hs.1 h.log (by decide) e
    · exact own_not h.recs hs.1 (by decide) e
    · exact own_not h.heads hs.1 (by decide) e
  · obtain ⟨es,c,hm,h2⟩:=hs.2
    refine ⟨es,c,(k.block gm hm.lt ?_).trans hm,h2⟩
    rintro (e|e|e)
    · subst e
      have hb:=h.log
      unfold Blk at hb
      unfold MapAt at hm
      rw [hm] at hb
      cases hb
    · exact own_notMap h.recs hs.2 e
    · exact own_notMap h.heads hs.2 e
end
section
open Go.RowKit Go.Shelf
attribute [local go_sem ↓] Go.wp_at_zero Go.wp_at_succ
end
section
open Go.RowKit Go.Shelf
theorem logNewB (s:ByteArray) (hs:s.size=32) (w:World) :
    Calls Tryz.prog 38 #[.string s] w fun e w'=>∃ gl gh,e=.returned (.tuple #[.pointer (some ⟨gl,0,none⟩),.int .i64 0])∧Blk w' gl 112 #[.slice none 0 0,.slice (some ⟨gh,0,none⟩) 1 1]∧Blk w' gh 52 #[.int .i64 0,.string zeros32,.string s]∧w.heap.size≤gl∧w.heap.size≤gh∧Below w.heap.size w w':=by
  have HSs:=Lib.hid hs
  clear hs
  have HZ:=Lib.hid (show ∀ W:World,Calls Tryz.prog 69 #[.string ⟨#[0]⟩,.int .i64 32] W fun e w'=>e=.returned (.string zeros32)∧Below W.heap.size W w' from fun W=>Tryz.strings_Repeat_main ⟨#[0]⟩ 32 W (by omega) (by omega) (by decide) (by decide))
  generalize zeros32=z at *
  go_enter Tryz.func38,Tryz.ntmps38
  go_wp2_with (first|(go_at_call 68;refine (isDig s HSs.out _).mono ?_;rintro e w' ⟨rfl,rfl⟩)|(go_at_call 69;refine (HZ.out _).mono ?_;rintro e W1 ⟨rfl,hb1⟩;have HB1:=Lib.hid hb1;clear hb1))
  go_ret2
  exact ⟨_,_,rfl,Blk.new' _ _ _ (by simp),(Blk.new' _ _ _ rfl).alloc _,by have:=HB1.out.size;omega,by have:=HB1.out.size;omega,ext_alloc (ext_alloc HB1.out _) _⟩
end
section
open Go.RowKit Go.Shelf
attribute [local go_sem ↓] app_exec app_sem Go.wp_at_zero Go.wp_at_succ
def in64 (x:Int):Prop := -9223372036854775808≤x∧x≤9223372036854775807
def genC0 (t k:Int) (h:Bool):ChgT:=⟨t,k,false,0,0,0,h,0,0,0⟩
theorem genC0_good (t k:Int) (h1:0≤t∧t<3) (h2:0≤k∧k<9):ChgG (genC0 t (1+k) false):=by
  refine ⟨⟨⟨by dsimp only [genC0];omega,by dsimp only [genC0];omega⟩,fun _=>⟨rfl,rfl,rfl⟩,fun _=>⟨rfl,rfl,rfl⟩,by dsimp only [genC0];omega,by dsimp only [genC0];omega⟩,?_,⟨h1.1,by dsimp only [genC0];omega⟩,by dsimp only [genC0];omega,by dsimp only [genC0];omega⟩
  unfold ChgT.small genC0
  simp only [List.mem_cons,List.not_mem_nil,or_false,forall_eq_or_imp,forall_eq]
  omega
def genC1 (t k a b d:Int):ChgT:=⟨t,k,false,0,0,0,true,a,b,d⟩
theorem genC1_good (t k a b d:Int) (h1:0≤t∧t<3) (h2:0≤k∧k<9) (h3:0≤a∧a<10) (h4:0≤b∧b<9) (h5:0≤d∧d<40):ChgG (genC1 t (1+k) a (1+b) (d-20)):=by
  refine ⟨⟨⟨by dsimp only [genC1];omega,by dsimp only [genC1];omega⟩,fun _=>⟨rfl,rfl,rfl⟩,(fun h=>by cases h),by dsimp only [genC1];omega,by dsimp only [genC1];omega⟩,?_,⟨h1.1,by dsimp only [genC1];omega⟩,by dsimp only [genC1];omega,by dsimp only [genC1];omega⟩
  unfold ChgT.small genC1
  simp only [List.mem_cons,List.not_mem_nil,or_false,forall_eq_or_imp,forall_eq]
  omega
theorem ownChg {W:World} {B:Nat} {v:Value} {l:List ChgT} (h:W.ownsRow B 72 10 v l.length (cc l)) (h0:0<l.length):∃ g c,v=.slice (some ⟨g,0,none⟩) l.length c∧B≤g∧l.length≤c∧ChgB W g l:=by
  obtain ⟨_,h2⟩:=h
  rcases h2 with ⟨_,h3⟩|⟨g,cap,cur,h3,h4,h5,h6,_,h8,h9⟩
  · omega
  refine ⟨g,cap,h3,h4,by simpa using h6,⟨cur,h5,fun j x hj i hi=>?_⟩⟩
  have h11:=cc_at l j x hj i hi
  rw [← h11,← h9,List.getElem?_take,if_pos (by have:=(List.getElem?_eq_some_iff.1 hj).1;omega)]
  simp
theorem own_chgs {W:World} {B:Nat} {v:Value} {l:List ChgT} (h:W.ownsRow B 72 10 v l.length (cc l)) (h0:l.length=0→v=.slice none 0 0):ChgsAt W v l:=by
  by_cases hl:l.length=0
  · rw [h0 hl]
    exact ⟨none,0,by rw [hl],by omega,fun h=>by omega⟩
  · obtain ⟨g,c,rfl,_,hc,hb⟩:=ownChg h (by omega)
    exact hb.at_ hc
theorem own_low {W:World} {B n sz:Nat} {e:TypeId} {v:Value} {xs:List Value} (h:W.ownsRow B e sz v n xs):∀ k,v.ownBlock=some k→B≤k:=by
  intro k hk
  rcases h.2 with ⟨h1,_⟩|⟨g,cap,cur,h1,h2,_⟩
  · rw [h1] at hk;cases hk
  · rw [h1] at hk
    have e2:g=k:=Option.some.inj hk
    omega
end
section
open Go.RowKit Go.Shelf
attribute [local go_sem ↓] Go.wp_at_zero Go.wp_at_succ
end
section
open Go.RowKit Go.Shelf
attribute [local go_sem] Oper.semAt_some
theorem own_cells {W:World} {B e sz n:Nat} {v:Value} {xs:List Value} (h:W.ownsRow B e sz v n xs) (h0:0<n):∃ g cap,v=.slice (some ⟨g,0,none⟩) n cap∧B≤g∧g<W.heap.size∧n≤cap∧∀ (i:Nat) (u:Value),xs[i]? = some u→W.cell? ⟨g,i,none⟩=some u:=by
  obtain ⟨_,h2⟩:=h
  rcases h2 with ⟨_,h3⟩|⟨g,cap,cur,h3,h4,h5,h6,_,h8,h9⟩
  · omega
  refine ⟨g,cap,h3,h4,(Array.getElem?_eq_some_iff.1 h5).1,h6,fun i u hu=>?_⟩
  have hb:Blk W g e cur:=h5
  rw [hb.cell]
  rw [← h9,List.getElem?_take] at hu
  split at hu
  · simpa using hu
  · cases hu
end
section
open Go.RowKit Go.Shelf
attribute [local go_sem] Oper.semAt_some
structure RecMG (first:Nat) (R:List (List ChgT × Nat × Nat)) (k:Nat) (x:Nat × Nat × Nat × Nat) (W:World):Prop where
  pos:x.1=first+k
  at_:∃ y,R[first+k-1]? = some y∧x.2.1=y.1.length∧ChgB W x.2.2.1 y.1∧y.1.length≤x.2.2.2
end
section
open Go.RowKit Go.Shelf
attribute [local go_sem] Oper.semAt_some
attribute [local go_sem ↓] Go.wp_at_zero Go.wp_at_succ
section
variable {X Y:World} {row:Option Nat}
end
end
section
open Go.RowKit Go.Shelf
theorem Blk.extS {S:Nat→Prop} {W W':World} {g:Nat} {t:TypeId} {cs:Array Value} (h:Blk W g t cs) (k:ExtS S W W') (hn:¬ S g):Blk W' g t cs:=ExtS.blk h k hn
theorem own_isCells {W:World} {B sz n:Nat} {e:TypeId} {v:Value} {xs:List Value} (h:W.ownsRow B e sz v n xs):∀ (j:Nat) (o:Obj),v.ownBlock=some j→W.heap[j]? = some o→o.isCells=true:=by
  intro j o hj ho
  rcases h.2 with ⟨h1,_⟩|⟨g,cap,cur,h1,_,h3,_⟩
  · rw [h1] at hj;cases hj
  · rw [h1] at hj
    have e:g=j:=Option.some.inj hj
    subst e
    rw [h3] at ho
    cases ho
    rfl
attribute [local go_sem] run_semAt
attribute [local go_sem ↓] bd_exec bd_sem bs_exec bs_sem app_exec app_sem Go.wp_at_zero Go.wp_at_succ
end
section
open Go.RowKit Go.Shelf
theorem int_size1:(Tryz.prog.info? 3).map (·.size)=some 1:=by kernel_rfl
theorem eq3s (a b c:Int) (W:World):(Op.equalIn 9999 62 (.agg #[.int .i64 a,.int .i64 b,.int .i64 c]) (.agg #[.int .i64 a,.int .i64 b,.int .i64 c])).run Tryz.prog W=.ok true W:=by
  obtain ⟨is,his,_⟩:=Option.map_eq_some_iff.1 int_size1
  have hc:Tryz.prog.cellsOf 3=1:=by kernel_rfl
  have hl:List.range 3=[0,1,2]:=by decide
  have hp:∀ (k:Nat) (a:Array Value) (n:Int),a[k]? = some (.int .i64 n)→(part 3 a k).run Tryz.prog W=.ok (.int .i64 n) W:=fun k a n h=>run_part_plain W (by kernel_rfl) h
  have he:∀ m n:Int,(Op.equalIn 9998 3 (.int .i64 m) (.int .i64 n)).run Tryz.prog W=.ok (m == n) W:=fun m n=>by
    rw [show 9998=9997+1 from rfl,run_equalIn_int (k':=.i64) W 9997 _ _ _ _ Tryz.underlying3]
  refine (run_equalIn_array (d:=9998) W #[.int .i64 a,.int .i64 b,.int .i64 c] #[.int .i64 a,.int .i64 b,.int .i64 c] Tryz.underlying62 his).trans ?_
  rw [hc,hl]
  simp [Op.eqItems,hp 0 _ a,hp 1 _ b,hp 2 _ c,he]
theorem chgEqT (x:ChgT) (W:World):(Op.equal 72 (.agg x.arr) (.agg x.arr)).run Tryz.prog W=.ok true W:=by
  unfold Op.equal Op.maxDepth ChgT.arr
  simp [go_sem,eq3s]
theorem chgEqI (x:ChgT) (W:World):(Op.equalIn 10000 72 (.agg x.arr) (.agg x.arr)).run Tryz.prog W=.ok true W:=chgEqT x W
theorem ld_rng {P:Program} {W:World} {b o:Nat} {ty:TypeId} {cs:Array Value} {d:TypeDesc} (h:∀ i,i<cs.size→W.cell? ⟨b,o+i,none⟩=cs[i]?) (hu:P.underlying ty=some d) (hd:d.isRow=true) (hi:(P.info? ty).map (·.size)=some cs.size) :
    LdOK P W (.pointer (some ⟨b,o,none⟩)) ty∧ldV P W (.pointer (some ⟨b,o,none⟩)) ty=.agg cs:=by
  have hr:W.rangeAt b o cs.toList:=fun j v hv=>by
    have hj:j<cs.size:=by have:=(List.getElem?_eq_some_iff.1 hv).1;simpa using this
    rw [h j hj]
    simpa using hv
  have:=run_loadAt_mid (P:=P) W b o ty cs.toList d hr hu hd (by simpa using hi)
  simp only [Array.toArray_toList] at this
  exact ⟨⟨_,this⟩,by unfold ldV;rw [this]⟩
attribute [local go_sem ↓] ld_exec ld_sem
end
section
open Go.RowKit Go.Shelf
theorem recC_info:(Tryz.prog.info? 75).map (fun i=>(i.zero,i.size,i.bytes))=some (some (.agg #[.int .i64 0,.slice none 0 0]),2,32):=by kernel_rfl
attribute [local go_sem] run_semAt
attribute [local go_sem ↓] app_exec app_sem Go.wp_at_zero Go.wp_at_succ
end
section
open Go.RowKit Go.Shelf
def SeqWr (n:Nat) (P:Program) (g:Nat) (lb:Array Value) (N:Nat) (S:Nat→Prop) (C:World→Prop) (vals:Nat→Array Value):Prop:=
  ∀ (l:Nat) (J:Nat→World→Prop) (W:World),(∀ k A B,J k A→ExtS S A B→J k B) →
    (∀ k W1,k<N→J k W1→YieldAt Fence.wide (n-1) P l (vals k) W1 fun e W'=>e=.returned (.bool true)∧J (k+1) W'∧∀ j,S j→j<W1.heap.size→W'.heap[j]? = W1.heap[j]?)→J 0 W→C W →
    CallsIn Fence.wide n P g (#[.func (.yield l) #[] #[]]++lb) W fun e W'=>(∃ v,e=.returned v)∧J N W'
def WrPost (B:Nat) (S:Nat→Prop) (I1:World→Prop) (W:World):Exit→Act→World→Prop
  | .normal,_,W'=>KeepsFrom B W W'∧I1 W'∧∀ j,S j→j<W.heap.size→W'.heap[j]? = W.heap[j]?
  | _,_,_=>False
theorem wpIn_wr {n:Nat} {P:Program} {g:Operand} {ps:Array Tmp} {assign body:Code} {Q:Exit→Act→World→Prop} {a:Act} {w:World}
    (h1:1≤n) {gf:Nat} {lb:Array Value} (hg:a.eval g=.func (.func gf) #[] lb) (eg:∀ args w,(callFunc gf args).run P w=.ok (.enter gf args) w)
    {N:Nat} {S:Nat→Prop} {C:World→Prop} {vals:Nat→Array Value} (hseq:SeqWr (n-1) P gf lb N S C vals) (hS:∀ j,S j→j<w.heap.size) (hps:∀ k,(vals k).size=ps.size)
    (I:Nat→World→Prop) (hI:∀ k,OwnP w.heap.size (I k)) (hIS:∀ k A B,I k A→ExtS S A B→I k B) (hCw:∀ W,Below w.heap.size w W→C W) (h0:I 0 w)
    (Fr:Nat→Act)
    (hassign:∀ (l k:Nat) (W:World) (K:Act→World→Prop),K (Fr k) W →
      assign.wpIn (Fence.wide.inRound l) (n-1-1) P (Exit.then K (fun _ _ _=>False)) { tmps:=(ps.zip (vals k)).foldl (fun t (p,v)=>t.setIfInBounds p v) a.tmps,defers:=[] } W)
    (hbody:∀ (l k:Nat) (W:World),k<N→w.heap.size≤W.heap.size→I k W→body.wpIn (Fence.wide.inRound l) (n-1-1) P (WrPost w.heap.size S (I (k+1)) W) (Fr k) W)
    (hdone:∀ (D:Nat) (W:World),w.heap.size≤D→I N W→W.heap[D]? = some (.deferred (some []))→Q .normal { a with defers:={ target:=.collected D,args:=#[] }::a.defers } W) :
    (Code.rangeFunc g ps assign body).wpIn Fence.wide n P Q a w:=by
  refine wpIn_rangeFunc ?_
  intro fn hfn
  obtain ⟨rec,hrec⟩:∃ rec:LoopState→Option Code→Loop,rec=fun st pe=>{ state:=st,pending:=pe,fn,tmps:=a.tmps,params:=ps,assign,body,defers:=w.heap.size }:=⟨_,rfl⟩
  obtain ⟨W1,hW1⟩:∃ W1,(w.alloc (.deferred (some []))).alloc (.loop (rec .ready none))=W1:=⟨_,rfl⟩
  have hL1:W1.heap[w.heap.size+1]? = some (.loop (rec .ready none)):=by
    rw [← hW1,← World.size_alloc w (.deferred (some []))];exact World.alloc_heap_new _ _
  have hD1:W1.heap[w.heap.size]? = some (.deferred (some [])):=by
    rw [← hW1];exact (Below.heap_alloc _ _ _ (by simp)).trans (World.alloc_heap_new w _)
  have hE1:Below w.heap.size w W1:=by rw [← hW1];exact ext_alloc (ext_new _ _) _
  have hs1:w.heap.size+1<W1.heap.size:=(Array.getElem?_eq_some_iff.1 hL1).1
  refine ⟨w.heap.size+1,[{ target:=.collected w.heap.size,args:=#[] }],W1,{ target:=.fn (.func gf) lb,args:=#[.func (.yield (w.heap.size+1)) #[] #[]] },W1,gf,
    #[.func (.yield (w.heap.size+1)) #[] #[]]++lb,W1,?_,?_,fun _ _=>trivial,?_,fun _=>h1,?_⟩
  · rw [← hW1,hrec];exact run_enterLoop_outer _ _ _ _ _
  · simp only [resolve,hg]
    simp [go_sem]
  · simp [invoke,go_sem,eg]
  let J:Nat→World→Prop:=fun k W=>I k W∧w.heap.size+1<W.heap.size∧W.heap[w.heap.size+1]? = some (.loop (rec .ready none))∧W.heap[w.heap.size]? = some (.deferred (some []))
  have hnS:∀ j,w.heap.size≤j→¬ S j:=fun j hj h=>by have:=hS j h;omega
  refine (hseq (w.heap.size+1) J W1 (fun k A B h hb=>⟨hIS k A B h.1 hb,Nat.lt_of_lt_of_le h.2.1 hb.size,(hb.block _ h.2.1 (hnS _ (by omega))).trans h.2.2.1,(hb.block _ (by have:=h.2.1;omega) (hnS _ (by omega))).trans h.2.2.2⟩) ?_ ⟨(hI 0).abide h0 hE1,hs1,hL1,hD1⟩ (hCw W1 hE1)).mono ?_
  · rintro k W hk ⟨hi,hlt,hl,hd⟩
    have hy:=run_yield (P:=P) (args:=vals k) hl (by rw [hrec];exact hps k)
    rw [hrec] at hy
    refine ⟨fn,_,assign,body,hy,roundIn_of_wpIn hfn (hassign _ k W _ ?_)⟩
    refine ⟨_,run_beginRound hl (by rw [hrec]),?_⟩
    have hlb:(W.putObj (w.heap.size+1) (.loop { rec .ready none with state:=.busy })).heap[w.heap.size+1]? = some (.loop { rec .ready none with state:=.busy }):=World.putObj_heap_same hlt
    have hdb:(W.putObj (w.heap.size+1) (.loop { rec .ready none with state:=.busy })).heap[w.heap.size]? = some (.deferred (some [])):=(World.putObj_heap_other (by omega)).trans hd
    refine wpIn_mono (hbody _ k _ hk (by simp;omega) (OwnFrom.putObj (s:=()) (hI k) _ hi (by omega) hl rfl)) ?_
    rintro e a3 W3 hp
    cases e with
    | normal=>
      obtain ⟨hk3,hi3,hS3⟩:=hp
      have hl3:=hk3.same _ _ (by omega) hlb rfl
      have hd3:=hk3.same _ _ (Nat.le_refl _) hdb rfl
      have hlt3:w.heap.size+1<W3.heap.size:=(Array.getElem?_eq_some_iff.1 hl3).1
      have hr:=run_endRound (P:=P) none hl3
      refine ⟨_,_,hr,rfl,⟨OwnFrom.putObj (s:=()) (hI (k+1)) _ hi3 (by omega) hl3 rfl,by simpa using hlt3,?_,(World.putObj_heap_other (by omega)).trans hd3⟩,fun j hj hjs=>?_⟩
      · rw [hrec]
        exact World.putObj_heap_same hlt3
      · have hne:w.heap.size+1≠j:=fun e=>hnS j (by omega) hj
        rw [World.putObj_heap_other hne.symm,hS3 j hj (by simpa using hjs),World.putObj_heap_other hne.symm]
    | _=>exact hp.elim
  · rintro e W2 ⟨⟨v,rfl⟩,hi,_,hl,hd⟩
    exact ⟨none,_,by have:=run_endLoop (P:=P) hl (by rw [hrec];simp);rw [hrec] at this;exact this,hdone _ _ (Nat.le_refl _) (OwnFrom.putObj (s:=()) (hI N) _ hi (by omega) hl rfl) ((World.putObj_heap_other (by omega)).trans hd)⟩
def grpN (z:Nat):Nat→Nat:=fun k=>z / 128 ^ k % 128
def grpL:Nat→Nat→Nat
  | 0,_=>0
  | f+1,z=>if z<128 then 0 else grpL f (z / 128)+1
theorem grpL_lt (f z k:Nat) (h:z<128 ^ (f+1)):k<grpL f z↔128≤z / 128 ^ k∧k<grpL f z:=by
  induction f generalizing z k with
  | zero=>simp [grpL]
  | succ f ih=>
    unfold grpL
    by_cases hz:z<128
    · rw [if_pos hz];omega
    · rw [if_neg hz]
      cases k with
      | zero=>simp;omega
      | succ k=>
        have h1:z / 128<128 ^ (f+1):=by
          rw [Nat.div_lt_iff_lt_mul (by omega)]
          rw [Nat.pow_succ] at h
          exact h
        have h2:=ih (z / 128) k h1
        rw [Nat.pow_succ',← Nat.div_div_eq_div_mul]
        omega
theorem grpL_end (f z:Nat) (h:z<128 ^ (f+1)):z / 128 ^ grpL f z<128:=by
  induction f generalizing z with
  | zero=>simpa [grpL] using h
  | succ f ih=>
    unfold grpL
    by_cases hz:z<128
    · rw [if_pos hz];simpa using hz
    · rw [if_neg hz]
      have h1:z / 128<128 ^ (f+1):=by
        rw [Nat.div_lt_iff_lt_mul (by omega)]
        rw [Nat.pow_succ] at h
        exact h
      rw [Nat.pow_succ',← Nat.div_div_eq_div_mul]
      exact ih _ h1
theorem grpL_le (f z:Nat):grpL f z≤f:=by
  induction f generalizing z with
  | zero=>simp [grpL]
  | succ f ih=>
    unfold grpL
    split
    · omega
    · have:=ih (z / 128);omega
end
section
open Go.RowKit Go.Shelf
def cellN (W:World) (b:Nat):Nat:=match W.cell? ⟨b,0,none⟩ with|some (.int _ n)=>n.toNat|_=>0
theorem and127_nat (z:Nat) (hz:z<18446744073709551616):bits BinOp.and IntKind.u64 (z:Int) 127=((z % 128:Nat):Int):=by
  have h:=bits_and_u64_nat z 127 hz (by omega)
  rw [show ((127:Nat):Int)=127 from rfl] at h
  rw [h]
  congr 1
  exact Nat.and_two_pow_sub_one_eq_mod z 7
theorem or128 (g:Nat) (hg:g<128):bits BinOp.or IntKind.u8 (g:Int) 128=((g+128:Nat):Int):=by
  have h:∀ z:Fin 128,bits BinOp.or IntKind.u8 ((z.1:Nat):Int) 128=((z.1+128:Nat):Int):=by decide +kernel
  exact h ⟨g,hg⟩
theorem xor_zero64 (m:Nat) (hm:m<4611686018427387904):bits BinOp.xor IntKind.u64 ((m:Int)*2) 0=((2*m:Nat):Int):=by
  have h:=bits_xor_u64_nat (2*m) 0 (by omega) (by omega)
  rw [Nat.xor_zero] at h
  rw [← h]
  congr 1
  omega
theorem xor_ones (a:Nat) (ha:a<18446744073709551616):a ^^^ 18446744073709551615=18446744073709551615-a:=by
  have h:(BitVec.ofNat 64 a ^^^ BitVec.allOnes 64).toNat=(~~~ BitVec.ofNat 64 a).toNat:=by rw [BitVec.xor_allOnes]
  rw [BitVec.toNat_xor,BitVec.toNat_not,BitVec.toNat_ofNat,BitVec.toNat_allOnes,Nat.mod_eq_of_lt (by omega)] at h
  simpa using h
theorem xor_neg64 (m:Nat) (hm:m<4611686018427387904):bits BinOp.xor IntKind.u64 (IntKind.u64.wrap (IntKind.u64.wrap (-(m:Int)-1)*2)) (IntKind.u64.wrap (-1))=((2*m+1:Nat):Int):=by
  have h1:IntKind.u64.wrap (IntKind.u64.wrap (-(m:Int)-1)*2)=((18446744073709551614-2*m:Nat):Int):=by
    rw [IntKind.wrap_u64,IntKind.wrap_u64]
    omega
  have h2:IntKind.u64.wrap (-1)=((18446744073709551615:Nat):Int):=by rw [IntKind.wrap_u64];omega
  rw [h1,h2,bits_xor_u64_nat _ _ (by omega) (by omega),xor_ones _ (by omega)]
  congr 1
  omega
theorem shr7_exec {w:World} {ρ:Operand→Value} {d:Option Tmp} {x:Operand} {t u:TypeId} {p:String} {af:Array Edge} {g:Option (Nat × Bool)} {z:Nat} (h:ρ x=.int .u64 (z:Int)) (hc:ρ (.const (.int .u64 7))=.int .u64 7) (hz:z<18446744073709551616) :
    (execOp ρ { dst:=d,op:=.binOp .shr 257 x (.const (.int .u64 7)) u,type:=t,pos:=p,after:=af,guard:=g }).run Tryz.prog w=.ok (.value (.int .u64 ((z:Int) / 128))) w:=by
  unfold execOp
  simp only [Sem.run_bind,Sem.run_pure,Result.andThen_ok,h,hc]
  have e1:(0:Int)≤(z:Int):=by omega
  have e2:(z:Int)≤18446744073709551615:=by omega
  go_simp
theorem shr7_sem {w:World} {ro:Option Nat} {ρ:Operand→Value} {d:Option Tmp} {x:Operand} {t u:TypeId} {p:String} {af:Array Edge} {g:Option (Nat × Bool)} {z:Nat} (h:ρ x=.int .u64 (z:Int)) (hc:ρ (.const (.int .u64 7))=.int .u64 7) (hz:z<18446744073709551616) :
    (Oper.semAt ro ρ { dst:=d,op:=.binOp .shr 257 x (.const (.int .u64 7)) u,type:=t,pos:=p,after:=af,guard:=g }).run Tryz.prog w=.ok (.value (.int .u64 ((z:Int) / 128))) w:=by
  rw [Oper.semAt_eq ro ρ _ (by intro c h;cases h)]
  exact shr7_exec h hc hz
attribute [local go_sem] Oper.semAt_some
attribute [local go_sem ↓] Go.wp_at_zero Go.wp_at_succ
theorem groupsS_seq (n:Nat) (hn:1≤n) (Bz z L:Nat) (hL:L=grpL 9 z) (hz:z<18446744073709551616) :
    SeqWr n Tryz.prog 194 #[.pointer (some ⟨Bz,0,none⟩)] (L+1) (fun j=>j=Bz) (fun W=>Blk W Bz 257 #[.int .u64 (z:Int)]) (fun k=>#[.int .u8 (grpN z k:Int),.bool (decide (k=L))]):=by
  intro l J W hA hY h0 hC
  have HA:=Lib.hid hA
  have HY:=Lib.hid hY
  have H0:=Lib.hid h0
  have HC:=Lib.hid hC
  have hze:z<128 ^ (9+1):=by omega
  have HLT:=Lib.hid (fun k=>grpL_lt 9 z k hze)
  have HEND:=Lib.hid (grpL_end 9 z hze)
  rw [← hL] at HLT HEND
  clear hA hY h0 hC hL hze
  refine callsIn_of_wp Tryz.func194 rfl trivial ?_ rfl
  simp only [Tryz.ntmps194,List.size_toArray,List.length_cons,List.length_nil,Nat.reduceAdd,Nat.reduceSub,Array.replicate_succ,Array.replicate_zero,List.push_toArray,List.append_toArray,List.nil_append,List.cons_append]
  gi_wp2
  gi_loopw [3] (fun _ wr=>∃ k:Nat,k≤L∧J k wr∧Blk wr Bz 257 #[.int .u64 ((z / 128 ^ k:Nat):Int)]) (fun _ W=>cellN W Bz)
  case atStart=>exact ⟨0,Nat.zero_le _,H0.out,by simpa using HC.out⟩
  case round=>
    obtain ⟨k,hk,hJ,hB⟩:=hrel
    obtain ⟨zk,hzk⟩:∃ zk,zk=z / 128 ^ k:=⟨_,rfl⟩
    rw [← hzk] at hB
    have HZK:=Lib.hid hzk
    have hzk64:zk<18446744073709551616:=by rw [hzk];exact Nat.lt_of_le_of_lt (Nat.div_le_self _ _) hz
    have HJ:=Lib.hid hJ
    have HB:=Lib.hid hB
    have b0:=hB.cell 0
    have bf:=hB.frozen 0
    have bl:=hB.lt
    have hand:=and127_nat zk hzk64
    obtain ⟨g,hg⟩:∃ g,g=zk % 128:=⟨_,rfl⟩
    rw [← hg] at hand
    have hg128:g<128:=by omega
    have HG:=Lib.hid (show grpN z k=g by rw [hg,hzk];rfl)
    have hmod:(g:Int) % 256=(g:Int):=by omega
    have HM:=Lib.hid (show cellN wr Bz=zk by unfold cellN;rw [hB.cell];rfl)
    clear hJ hB hzk hg H0 HC
    by_cases hlast:zk<128
    · have hkL:k=L:=by
        have h9:=HLT.out k
        rw [← HZK.out] at h9
        omega
      have d1:decide ((zk:Int)<128)=true:=decide_eq_true (by omega)
      have q1:(zk:Int)<128:=by omega
      have hkl:decide (k=L)=true:=decide_eq_true hkL
      obtain ⟨fn,tmps,assign,body,hy,hR⟩:=HY.out k wr (by omega) HJ.out
      rw [HG.out,hkl] at hy
      gi_wp2
      refine hR.mono ?_
      rintro e W3 ⟨rfl,hJ3,hS3⟩
      have HJ3:=Lib.hid hJ3
      clear hJ3 hR hy hS3
      gi_wp2
      refine bodyPost_ret (results_none rfl _ _ _) rfl ⟨⟨_,rfl⟩,?_⟩
      rw [← hkL]
      exact HJ3.out
    · have hkL:k<L:=by
        rcases Nat.lt_or_ge k L with h|h
        · exact h
        · have h9:=HEND.out
          rw [show L=k by omega,← HZK.out] at h9
          omega
      have d1:decide ((zk:Int)<128)=false:=decide_eq_false (by omega)
      have q1:¬ (zk:Int)<128:=by omega
      have hkl:decide (k=L)=false:=decide_eq_false (by omega)
      obtain ⟨fn,tmps,assign,body,hy,hR⟩:=HY.out k wr (by omega) HJ.out
      rw [HG.out,hkl] at hy
      gi_wp2
      refine hR.mono ?_
      rintro e W3 ⟨rfl,hJ3,hS3⟩
      have HJ3:=Lib.hid hJ3
      have HB3:=Lib.hid (show Blk W3 Bz 257 #[.int .u64 (zk:Int)] from (hS3 Bz rfl HB.out.lt).trans HB.out)
      clear hJ3 hR hy hS3 b0 bf bl
      have b0:=HB3.out.cell 0
      have bf:=HB3.out.frozen 0
      have bl:=HB3.out.lt
      have hsr:∀ ρ:Operand→Value,ρ (.tmp 16)=.int .u64 (zk:Int)→ρ (.const (.int .u64 7))=.int .u64 7→(Oper.semAt Fence.wide.round ρ { dst:=some 17,op:=.binOp .shr 257 (.tmp 16) (.const (.int .u64 7)) 208,type:=257,pos:= "wire.go:18",after:=#[{ on:=0,ground:=.data }],guard:=none }).run Tryz.prog W3=.ok (.value (.int .u64 ((zk:Int) / 128))) W3:=fun ρ h1 h2=>shr7_sem h1 h2 hzk64
      gi_wp2
      go_roundw
      case rel=>
        refine ⟨k+1,by omega,HA.out _ _ _ HJ3.out (ExtS.set1 _ _ _ _),?_⟩
        have h9:=HB3.out.set_ 0 (.int .u64 ((zk:Int) / 128))
        rw [show z / 128 ^ (k+1)=zk / 128 by rw [Nat.pow_succ,← Nat.div_div_eq_div_mul,← HZK.out]]
        exact h9
      case measure=>
        rw [HM.out]
        have h9:=(HB3.out.set_ 0 (.int .u64 ((zk:Int) / 128))).cell 0
        unfold cellN
        rw [h9]
        show ((zk:Int) / 128).toNat<zk
        omega
end
section
open Go.RowKit Go.Shelf
def grpB (z:Nat):List Nat:=(List.range (grpL 9 z+1)).map fun k=>if k<grpL 9 z then grpN z k+128 else grpN z k
theorem grpB_length (z:Nat):(grpB z).length=grpL 9 z+1:=by simp [grpB]
theorem grpB_at (z k:Nat) (h:k<grpL 9 z+1):(grpB z)[k]? = some (if k<grpL 9 z then grpN z k+128 else grpN z k):=by
  unfold grpB
  rw [List.getElem?_map,List.getElem?_range h]
  rfl
theorem grpB_take (z k:Nat) (h:k<grpL 9 z+1):(grpB z).take (k+1)=(grpB z).take k++[if k<grpL 9 z then grpN z k+128 else grpN z k]:=by
  rw [List.take_add_one,grpB_at z k h]
  rfl
def bytesI (l:List Nat):List Int:=l.map fun g:Nat=>(g:Int)
def putB (l:List Nat):ByteArray:=(bytesI l).foldl (fun r n=>r.push (UInt8.ofNat n.toNat)) ByteArray.empty
def putF (n:Int):ByteArray:=putB (grpB (encN n))
theorem pushes_size:∀ (l:List Int) (r:ByteArray),(l.foldl (fun r n=>r.push (UInt8.ofNat n.toNat)) r).size=r.size+l.length
  | [],r=>by simp
  | a::l,r=>by
    rw [List.foldl_cons,pushes_size l]
    simp [ByteArray.size_push]
    omega
theorem putF_size (n:Int):(putF n).size≤10:=by
  unfold putF putB
  rw [pushes_size]
  simp [bytesI,grpB_length]
  have:=grpL_le 9 (encN n)
  omega
def putI (z:Nat) (w:World) (k:Nat) (W:World):Prop:=(∃ v,Blk W w.heap.size 213 #[v]∧W.ownsRow (w.heap.size+2) 5 1 v k ((bytesI ((grpB z).take k)).map (Value.int .u8)))∧Below w.heap.size w W∧w.heap.size+2≤W.heap.size
theorem putI_own (z:Nat) (w:World) (k B:Nat) (hB:w.heap.size≤B):OwnP B (putI z w k):=fun _ X Y row hs hg hr=>by
  have hr':∀ r,row=some r→∃ o:Obj,X.heap[r]? = some o∧o.isCells=false:=fun r e=>(hr r e).2
  obtain ⟨⟨v,h1,h2⟩,h3,h4⟩:=hs
  exact ⟨⟨v,blk_kept h1 hg hr',own_keptP h2 hg hr'⟩,OwnP.below (B:=B) (Nat.le_refl _) hB () X Y row h3 hg hr,Nat.le_trans h4 hg.size⟩
theorem putI_S (z:Nat) (w:World) (k:Nat) (A B:World) (h:putI z w k A) (e:ExtS (fun j=>j=w.heap.size+1) A B):putI z w k B:=by
  obtain ⟨⟨v,h1,h2⟩,h3,h4⟩:=h
  exact ⟨⟨v,ExtS.blk h1 e (by omega),own_extS2 h2 e (fun g hg=>by have:=(h2.lt g hg).1;omega)⟩,ExtS.below h3 (by rintro j rfl;omega) e,Nat.le_trans h4 e.size⟩
attribute [local go_sem] Oper.semAt_some
attribute [local go_sem] run_semAt
attribute [local go_sem ↓] app_exec app_sem Go.wp_at_zero Go.wp_at_succ
theorem put_round {w W W3:World} {z k g cv gg cap:Nat} {Av:Option Addr} (hX:ExtS (fun j=>(Value.slice Av k cv).ownBlock=some j) W W3) (hV:Blk W3 w.heap.size 213 #[.slice Av k cv]) (hE:Below w.heap.size w W3)
    (hrow:W3.ownsRow (w.heap.size+2) 5 1 (.slice (some ⟨gg,0,none⟩) (k+1) cap) (k+1) ((bytesI ((grpB z).take k)).map (Value.int .u8)++[.int .u8 (g:Int)])) (hs:w.heap.size+2≤W3.heap.size) (hk:KeepsOthers W W3) (hl:∀ j,(Value.slice Av k cv).ownBlock=some j→w.heap.size+2≤j)
    (ht:(grpB z).take (k+1)=(grpB z).take k++[g]) {B:Nat} :
    KeepsFrom B W (W3.setCell ⟨w.heap.size,0,none⟩ (.slice (some ⟨gg,0,none⟩) (k+1) cap))∧putI z w (k+1) (W3.setCell ⟨w.heap.size,0,none⟩ (.slice (some ⟨gg,0,none⟩) (k+1) cap))∧∀ j,j=w.heap.size+1→j<W.heap.size→(W3.setCell ⟨w.heap.size,0,none⟩ (.slice (some ⟨gg,0,none⟩) (k+1) cap)).heap[j]? = W.heap[j]? := by
  refine ⟨(hk.trans (KeepsOthers.setCell W3 ⟨w.heap.size,0,none⟩ (.slice (some ⟨gg,0,none⟩) (k+1) cap))).from _,⟨⟨_,hV.set_ 0 _,?_⟩,ext_set hE (Nat.le_refl _) _,by simpa [World.setCell] using hs⟩,fun j hj hjs=>?_⟩
  · rw [ht]
    have h9:=own_setbox hrow hV (by decide) (.slice (some ⟨gg,0,none⟩) (k+1) cap)
    simpa [bytesI] using h9
  · rw [Below.heap_setCell _ _ _ _ (show j≠w.heap.size by omega),hX.block j hjs (fun h=>by have:=hl j h;omega)]
theorem putInt_pos (n:Int) (h0:0≤n) (h1:n≤4611686018427387903) (w:World) :
    Calls Tryz.prog 104 #[.int .i64 n] w fun e w'=>e=.returned (.tuple #[.string (putF n),.int .i64 0])∧Below w.heap.size w w':=by
  obtain ⟨ib,hib,hzb0,hzb1,hzb2⟩:=info_parts u8_info
  have hdiv:n / 9223372036854775808=0:=by omega
  obtain ⟨z,hz⟩:∃ z,z=encN n:=⟨_,rfl⟩
  have hz64:z<18446744073709551616:=by rw [hz];unfold encN;split <;> omega
  have hxor:bits BinOp.xor IntKind.u64 (n*2) 0=(z:Int):=by
    obtain ⟨m,rfl⟩:=Int.eq_ofNat_of_zero_le h0
    rw [xor_zero64 m (by omega),hz]
    simp [encN]
  have HZ:=Lib.hid hz
  obtain ⟨L,hL⟩:∃ L,L=grpL 9 z:=⟨_,rfl⟩
  have HL:=Lib.hid hL
  have hL9:L≤9:=by rw [hL];exact grpL_le 9 z
  clear hz hL
  have l1:decide (n < -4611686018427387903)=false:=decide_eq_false (by omega)
  have l2:decide (4611686018427387903<n)=false:=decide_eq_false (by omega)
  refine (callsIn_wide (n:=3)).1 (callsIn_of_wp_marks Tryz.func104 rfl trivial (wpIn_wide.2 ?_) rfl)
  simp only [Tryz.ntmps104,List.size_toArray,List.length_cons,List.length_nil,Nat.reduceAdd,Nat.reduceSub,Array.replicate_succ,Array.replicate_zero,List.push_toArray,List.append_toArray,List.nil_append,List.cons_append]
  go_wp2_with (go_at_call 157;refine (groups_any _ _).mono ?_;rintro e W2 ⟨rfl,rfl⟩)
  have hE0:Below w.heap.size w ((w.alloc (.cells #[.slice none 0 0] 213)).alloc (.cells #[.int .u64 (z:Int)] 257)):=ext_alloc (ext_new _ _) _
  have hI0:putI z w 0 ((w.alloc (.cells #[.slice none 0 0] 213)).alloc (.cells #[.int .u64 (z:Int)] 257)):=⟨⟨_,(Blk.new _ _ _).alloc _,by simpa [bytesI] using World.ownsRow_nil _ _ _ _⟩,hE0,by simp⟩
  have hBz:Blk ((w.alloc (.cells #[.slice none 0 0] 213)).alloc (.cells #[.int .u64 (z:Int)] 257)) (w.heap.size+1) 257 #[.int .u64 (z:Int)]:=Blk.new' _ _ _ (by simp)
  refine (wpIn_wide (n:=3)).1 ?_
  refine' wpIn_wr (by omega) (gf:=194) (lb:=#[.pointer (some ⟨w.heap.size+1,0,none⟩)]) (by simp [Act.eval]) (enters_of Tryz.func194 (by kernel_rfl) rfl)
    (groupsS_seq 2 (by omega) (w.heap.size+1) z L HL.out hz64) (by rintro j rfl;simp) (fun k=>rfl) (putI z w) (fun k=>putI_own z w k _ (by simp;omega)) (fun k A B=>putI_S z w k A B) (fun W k=>hBz.ext k) hI0 _ ?assign ?body ?done
  case assign=>
    intro l k W K hK
    gi_wp2
    exact hK
  case body=>
    rintro l k W hk hsz ⟨⟨v,hv,hrow⟩,hb,hs2⟩
    obtain ⟨Av,cv,rfl⟩:=own_shape hrow
    obtain ⟨g,hg⟩:∃ g,g=grpN z k:=⟨_,rfl⟩
    have hg128:g<128:=by rw [hg];exact Nat.mod_lt _ (by omega)
    have HT:=Lib.hid (show (grpB z).take (k+1)=(grpB z).take k++[if k<L then g+128 else g] by rw [hg,HL.out];exact grpB_take z k (by rw [← HL.out];exact hk))
    rw [← hg]
    clear hg
    obtain ⟨gk,hgk⟩:∃ gk,gk=(if k<L then g+128 else g):=⟨_,rfl⟩
    have HGK:=Lib.hid hgk
    rw [← hgk] at HT
    have hor:=or128 g hg128
    have v0:=hv.cell 0
    have f0:=hv.frozen 0
    have hvl:=hv.lt
    obtain ⟨d3,hrow3,hgr⟩:=app_own (P:=Tryz.prog) (w:=W.alloc (.cells #[.int .u8 (gk:Int)] 5)) (w.heap.size+2) 213 213 5 ib (.int .u8 0) 1 1 Tryz.underlying213 hib hzb0 hzb1 hzb2 rfl (by decide)
      (.slice Av k cv) k _ (own_ext hrow (ext_new W (.cells #[.int .u8 (gk:Int)] 5))) ⟨W.heap.size,0,none⟩ 1 1 [.int .u8 (gk:Int)] rfl (cell_one_new _ _ _) (by simp [Value.oneCell']) (by unfold maxLen;omega) (by omega) (by simp;omega)
    have hE4:ExtS (fun j=>(Value.slice Av k cv).ownBlock=some j) W (appW Tryz.prog (W.alloc (.cells #[.int .u8 (gk:Int)] 5)) 213 213 (.slice Av k cv) (.slice (some ⟨W.heap.size,0,none⟩) 1 1)):=(ExtS.of_ext (ext_new W (.cells #[.int .u8 (gk:Int)] 5))).trans ⟨hgr.os,hgr.tape,hgr.output,hgr.size,fun i hi hn=>hgr.block i hi (fun e=>hn e.symm)⟩
    have hlow:∀ j,(Value.slice Av k cv).ownBlock=some j→w.heap.size+2≤j:=fun j hj=>(hrow.lt j hj).1
    obtain ⟨gg,cap,hv9⟩:=ownsRow_succ hrow3
    rw [hv9] at hrow3
    generalize hW3:appW Tryz.prog (W.alloc (.cells #[.int .u8 (gk:Int)] 5)) 213 213 (.slice Av k cv) (.slice (some ⟨W.heap.size,0,none⟩) 1 1)=W3 at hrow3 hgr hE4
    have HX4:=Lib.hid hE4
    have HV3:=Lib.hid (hv.extS hE4 (fun h=>by have:=hlow _ h;omega))
    have HE3:=Lib.hid (ExtS.below hb (fun j hj=>by have:=hlow j hj;omega) hE4)
    have HROW:=Lib.hid hrow3
    have HSZ:=Lib.hid (show w.heap.size+2≤W3.heap.size from Nat.le_trans hs2 hE4.size)
    have HKEEP:=Lib.hid ((KeepsOthers.alloc W (.cells #[.int .u8 (gk:Int)] 5)).trans (KeepsOthers.of_grownBy hgr (own_isCells (own_ext hrow (ext_new W (.cells #[.int .u8 (gk:Int)] 5))))))
    have HLOW:=Lib.hid hlow
    have v3:=HV3.out.cell 0
    have f3:=HV3.out.frozen 0
    clear hv hrow hb hrow3 hgr hE4 hlow hI0 hE0 hBz
    by_cases hkl:k<L
    · have hd:decide (k=L)=false:=decide_eq_false (by omega)
      rw [show g+128=gk by rw [hgk,if_pos hkl]] at hor
      clear hgk
      gi_wp2
      exact put_round HX4.out HV3.out HE3.out HROW.out HSZ.out HKEEP.out HLOW.out HT.out
    · have hd:decide (k=L)=true:=decide_eq_true (by omega)
      have hgg:gk=g:=by rw [hgk,if_neg hkl]
      clear hgk
      subst hgg
      gi_wp2
      exact put_round HX4.out HV3.out HE3.out HROW.out HSZ.out HKEEP.out HLOW.out HT.out
  case done=>
    rintro D W hD ⟨⟨v,hv,hrow⟩,hb,hs2⟩ hK
    have hlen:(grpB z).length=L+1:=by rw [grpB_length,HL.out]
    rw [List.take_of_length_le (by omega)] at hrow
    obtain ⟨g,cg,rfl⟩:=ownsRow_succ hrow
    have hvc:=hv.cell 0
    have hcv:(convert 213 9 (.slice (some ⟨g,0,none⟩) (L+1) cg)).run Tryz.prog W=.ok (.string (putB (grpB z))) W:=by
      rw [run_convert_bytes_string W 213 9 5 _ (L+1) cg Tryz.underlying213 Tryz.underlying5 Tryz.underlying9]
      have h:=run_loadCells_list (P:=Tryz.prog) W ⟨g,0,none⟩ ((bytesI (grpB z)).map (Value.int .u8)) (fun j x hx=>hrow.cells (g:=g) rfl j x hx)
      rw [List.length_map,show (bytesI (grpB z)).length=L+1 by simp [bytesI,hlen]] at h
      exact run_bytesToString W _ (L+1) cg (bytesI (grpB z)) h
    have HB:=Lib.hid hb
    have hzf:putB (grpB z)=putF n:=by rw [HZ.out];rfl
    obtain ⟨pf,hpf⟩:∃ pf,pf=putF n:=⟨_,rfl⟩
    rw [hzf,← hpf] at hcv
    have HPF:=Lib.hid hpf
    clear hv hrow hb hs2 hzf hpf
    go_wp2
    refine ⟨by simp,.inl ⟨_,_,rfl,run_takeDeferred hK,?_⟩⟩
    refine ⟨_,results_tmp2 rfl _ _ _,?_,?_⟩
    · rw [← HPF.out];rfl
    exact HB.out.grown (grownBy_putObj' W D _) HB.out.size (fun k e=>by injection e with e;simp at hD;omega)
theorem putInt_ngv (n:Int) (h0:n<0) (h1 : -4611686018427387903≤n) (w:World) :
    Calls Tryz.prog 104 #[.int .i64 n] w fun e w'=>e=.returned (.tuple #[.string (putF n),.int .i64 0])∧Below w.heap.size w w':=by
  obtain ⟨ib,hib,hzb0,hzb1,hzb2⟩:=info_parts u8_info
  have hdiv:n / 9223372036854775808 = -1:=by omega
  obtain ⟨z,hz⟩:∃ z,z=encN n:=⟨_,rfl⟩
  have hz64:z<18446744073709551616:=by rw [hz];unfold encN;split <;> omega
  have hxor:bits BinOp.xor IntKind.u64 (IntKind.u64.wrap (IntKind.u64.wrap n*2)) (IntKind.u64.wrap (-1))=(z:Int):=by
    obtain ⟨m,hm⟩:∃ m:Nat,n = -(m:Int)-1:=⟨(-n-1).toNat,by omega⟩
    rw [hm,xor_neg64 m (by omega),hz,hm]
    unfold encN
    rw [if_neg (by omega)]
    omega
  have HZ:=Lib.hid hz
  obtain ⟨L,hL⟩:∃ L,L=grpL 9 z:=⟨_,rfl⟩
  have HL:=Lib.hid hL
  have hL9:L≤9:=by rw [hL];exact grpL_le 9 z
  clear hz hL
  have l1:decide (n < -4611686018427387903)=false:=decide_eq_false (by omega)
  have l2:decide (4611686018427387903<n)=false:=decide_eq_false (by omega)
  refine (callsIn_wide (n:=3)).1 (callsIn_of_wp_marks Tryz.func104 rfl trivial (wpIn_wide.2 ?_) rfl)
  simp only [Tryz.ntmps104,List.size_toArray,List.length_cons,List.length_nil,Nat.reduceAdd,Nat.reduceSub,Array.replicate_succ,Array.replicate_zero,List.push_toArray,List.append_toArray,List.nil_append,List.cons_append]
  go_wp2_with (go_at_call 157;refine (groups_any _ _).mono ?_;rintro e W2 ⟨rfl,rfl⟩)
  have hE0:Below w.heap.size w ((w.alloc (.cells #[.slice none 0 0] 213)).alloc (.cells #[.int .u64 (z:Int)] 257)):=ext_alloc (ext_new _ _) _
  have hI0:putI z w 0 ((w.alloc (.cells #[.slice none 0 0] 213)).alloc (.cells #[.int .u64 (z:Int)] 257)):=⟨⟨_,(Blk.new _ _ _).alloc _,by simpa [bytesI] using World.ownsRow_nil _ _ _ _⟩,hE0,by simp⟩
  have hBz:Blk ((w.alloc (.cells #[.slice none 0 0] 213)).alloc (.cells #[.int .u64 (z:Int)] 257)) (w.heap.size+1) 257 #[.int .u64 (z:Int)]:=Blk.new' _ _ _ (by simp)
  refine (wpIn_wide (n:=3)).1 ?_
  refine' wpIn_wr (by omega) (gf:=194) (lb:=#[.pointer (some ⟨w.heap.size+1,0,none⟩)]) (by simp [Act.eval]) (enters_of Tryz.func194 (by kernel_rfl) rfl)
    (groupsS_seq 2 (by omega) (w.heap.size+1) z L HL.out hz64) (by rintro j rfl;simp) (fun k=>rfl) (putI z w) (fun k=>putI_own z w k _ (by simp;omega)) (fun k A B=>putI_S z w k A B) (fun W k=>hBz.ext k) hI0 _ ?assign ?body ?done
  case assign=>
    intro l k W K hK
    gi_wp2
    exact hK
  case body=>
    rintro l k W hk hsz ⟨⟨v,hv,hrow⟩,hb,hs2⟩
    obtain ⟨Av,cv,rfl⟩:=own_shape hrow
    obtain ⟨g,hg⟩:∃ g,g=grpN z k:=⟨_,rfl⟩
    have hg128:g<128:=by rw [hg];exact Nat.mod_lt _ (by omega)
    have HT:=Lib.hid (show (grpB z).take (k+1)=(grpB z).take k++[if k<L then g+128 else g] by rw [hg,HL.out];exact grpB_take z k (by rw [← HL.out];exact hk))
    rw [← hg]
    clear hg
    obtain ⟨gk,hgk⟩:∃ gk,gk=(if k<L then g+128 else g):=⟨_,rfl⟩
    have HGK:=Lib.hid hgk
    rw [← hgk] at HT
    have hor:=or128 g hg128
    have v0:=hv.cell 0
    have f0:=hv.frozen 0
    have hvl:=hv.lt
    obtain ⟨d3,hrow3,hgr⟩:=app_own (P:=Tryz.prog) (w:=W.alloc (.cells #[.int .u8 (gk:Int)] 5)) (w.heap.size+2) 213 213 5 ib (.int .u8 0) 1 1 Tryz.underlying213 hib hzb0 hzb1 hzb2 rfl (by decide)
      (.slice Av k cv) k _ (own_ext hrow (ext_new W (.cells #[.int .u8 (gk:Int)] 5))) ⟨W.heap.size,0,none⟩ 1 1 [.int .u8 (gk:Int)] rfl (cell_one_new _ _ _) (by simp [Value.oneCell']) (by unfold maxLen;omega) (by omega) (by simp;omega)
    have hE4:ExtS (fun j=>(Value.slice Av k cv).ownBlock=some j) W (appW Tryz.prog (W.alloc (.cells #[.int .u8 (gk:Int)] 5)) 213 213 (.slice Av k cv) (.slice (some ⟨W.heap.size,0,none⟩) 1 1)):=(ExtS.of_ext (ext_new W (.cells #[.int .u8 (gk:Int)] 5))).trans ⟨hgr.os,hgr.tape,hgr.output,hgr.size,fun i hi hn=>hgr.block i hi (fun e=>hn e.symm)⟩
    have hlow:∀ j,(Value.slice Av k cv).ownBlock=some j→w.heap.size+2≤j:=fun j hj=>(hrow.lt j hj).1
    obtain ⟨gg,cap,hv9⟩:=ownsRow_succ hrow3
    rw [hv9] at hrow3
    generalize hW3:appW Tryz.prog (W.alloc (.cells #[.int .u8 (gk:Int)] 5)) 213 213 (.slice Av k cv) (.slice (some ⟨W.heap.size,0,none⟩) 1 1)=W3 at hrow3 hgr hE4
    have HX4:=Lib.hid hE4
    have HV3:=Lib.hid (hv.extS hE4 (fun h=>by have:=hlow _ h;omega))
    have HE3:=Lib.hid (ExtS.below hb (fun j hj=>by have:=hlow j hj;omega) hE4)
    have HROW:=Lib.hid hrow3
    have HSZ:=Lib.hid (show w.heap.size+2≤W3.heap.size from Nat.le_trans hs2 hE4.size)
    have HKEEP:=Lib.hid ((KeepsOthers.alloc W (.cells #[.int .u8 (gk:Int)] 5)).trans (KeepsOthers.of_grownBy hgr (own_isCells (own_ext hrow (ext_new W (.cells #[.int .u8 (gk:Int)] 5))))))
    have HLOW:=Lib.hid hlow
    have v3:=HV3.out.cell 0
    have f3:=HV3.out.frozen 0
    clear hv hrow hb hrow3 hgr hE4 hlow hI0 hE0 hBz
    by_cases hkl:k<L
    · have hd:decide (k=L)=false:=decide_eq_false (by omega)
      rw [show g+128=gk by rw [hgk,if_pos hkl]] at hor
      clear hgk
      gi_wp2
      exact put_round HX4.out HV3.out HE3.out HROW.out HSZ.out HKEEP.out HLOW.out HT.out
    · have hd:decide (k=L)=true:=decide_eq_true (by omega)
      have hgg:gk=g:=by rw [hgk,if_neg hkl]
      clear hgk
      subst hgg
      gi_wp2
      exact put_round HX4.out HV3.out HE3.out HROW.out HSZ.out HKEEP.out HLOW.out HT.out
  case done=>
    rintro D W hD ⟨⟨v,hv,hrow⟩,hb,hs2⟩ hK
    have hlen:(grpB z).length=L+1:=by rw [grpB_length,HL.out]
    rw [List.take_of_length_le (by omega)] at hrow
    obtain ⟨g,cg,rfl⟩:=ownsRow_succ hrow
    have hvc:=hv.cell 0
    have hcv:(convert 213 9 (.slice (some ⟨g,0,none⟩) (L+1) cg)).run Tryz.prog W=.ok (.string (putB (grpB z))) W:=by
      rw [run_convert_bytes_string W 213 9 5 _ (L+1) cg Tryz.underlying213 Tryz.underlying5 Tryz.underlying9]
      have h:=run_loadCells_list (P:=Tryz.prog) W ⟨g,0,none⟩ ((bytesI (grpB z)).map (Value.int .u8)) (fun j x hx=>hrow.cells (g:=g) rfl j x hx)
      rw [List.length_map,show (bytesI (grpB z)).length=L+1 by simp [bytesI,hlen]] at h
      exact run_bytesToString W _ (L+1) cg (bytesI (grpB z)) h
    have HB:=Lib.hid hb
    have hzf:putB (grpB z)=putF n:=by rw [HZ.out];rfl
    obtain ⟨pf,hpf⟩:∃ pf,pf=putF n:=⟨_,rfl⟩
    rw [hzf,← hpf] at hcv
    have HPF:=Lib.hid hpf
    clear hv hrow hb hs2 hzf hpf
    go_wp2
    refine ⟨by simp,.inl ⟨_,_,rfl,run_takeDeferred hK,?_⟩⟩
    refine ⟨_,results_tmp2 rfl _ _ _,?_,?_⟩
    · rw [← HPF.out];rfl
    exact HB.out.grown (grownBy_putObj' W D _) HB.out.size (fun k e=>by injection e with e;simp at hD;omega)
theorem putInt_all (n:Int) (h0 : -4611686018427387903≤n) (h1:n≤4611686018427387903) (w:World) :
    Calls Tryz.prog 104 #[.int .i64 n] w fun e w'=>e=.returned (.tuple #[.string (putF n),.int .i64 0])∧Below w.heap.size w w':=by
  by_cases h:0≤n
  · exact putInt_pos n h h1 w
  · exact putInt_ngv n (by omega) h0 w
end
section
open Go.RowKit
attribute [local go_sem ↓] app_exec app_sem Go.wp_at_zero Go.wp_at_succ
def encG:List Int→ByteArray
  | []=>⟨#[]⟩
  | n::l=>putF n++encG l
theorem encG_append (l m:List Int):encG l++encG m=encG (l++m):=by
  induction l with
  | nil=>exact ByteArray.empty_append
  | cons a l ih=>
    show (putF a++encG l)++encG m=putF a++encG (l++m)
    rw [ByteArray.append_assoc,ih]
theorem encG_one (n:Int):encG [n]=putF n:=ByteArray.append_empty
theorem encG_le (l:List Int):(encG l).size≤10*l.length:=by
  induction l with
  | nil=>exact Nat.zero_le _
  | cons a l ih=>
    show (putF a++encG l).size≤_
    rw [ByteArray.size_append,List.length_cons]
    have:=putF_size a
    omega
theorem putInt_enc (n:Int) (h0 : -4611686018427387903≤n) (h1:n≤4611686018427387903) (w:World) :
    Calls Tryz.prog 104 #[.int .i64 n] w fun e w'=>e=.returned (.tuple #[.string (encG [n]),.int .i64 0])∧Below w.heap.size w w':=by
  rw [encG_one]
  exact putInt_all n h0 h1 w
def ChgT.mid (c:ChgT):Prop:=∀ x ∈ [c.t,c.k,c.o1,c.o2,c.o3,c.n1,c.n2,c.n3],-4611686018427387903≤x∧x≤4611686018427387903
theorem ChgT.ok.mid {c:ChgT} (h:c.ok):c.mid:=by
  obtain ⟨h1,h2,h3,h4,h5⟩:=h
  intro x hx
  simp only [List.mem_cons,List.not_mem_nil,or_false] at hx
  omega
theorem rowPut_G (b off c:Nat) (l:List Int) (w:World) (hc:IntsAt w b off l) (hb:b<w.heap.size) (hn:l.length≤1000) (hin:∀ x ∈ l,-4611686018427387903≤x∧x≤4611686018427387903) :
    Calls Tryz.prog 158 #[.slice (some ⟨b,off,none⟩) l.length c] w fun e w'=>e=.returned (.string (encG l))∧Below w.heap.size w w':=by
  have HC:=Lib.hid hc
  have HI:=Lib.hid hin
  clear hc hin
  go_enter Tryz.func158,Tryz.ntmps158
  go_wp2
  go_loopw [3,10] (fun s i wr=>∃ k:Nat,k≤l.length∧i=.int .i64 k∧s=.string (encG (l.take k))∧Below w.heap.size w wr) (fun _ i _=>l.length-(intOf i).toNat)
  case atStart=>exact ⟨0,Nat.zero_le _,rfl,rfl,ext_refl w⟩
  case round=>
    obtain ⟨k,hk,rfl,rfl,hl⟩:=hrel
    by_cases hlt:k<l.length
    · have hcell:=(hl.cell (p:=⟨b,off+k,none⟩) hb).trans (HC.out k l[k] (List.getElem?_eq_getElem hlt))
      have hx:=HI.out l[k] (List.getElem_mem hlt)
      have HS:=Lib.hid (encG_append (l.take k) [l[k]])
      obtain ⟨x,hxe⟩:∃ x,x=l[k]:=⟨_,rfl⟩
      rw [← hxe] at hcell hx HS
      have HT:=Lib.hid (show l.take (k+1)=l.take k++[x] by rw [hxe];exact List.take_succ_eq_append_getElem hlt)
      clear hxe
      obtain ⟨hx1,hx2⟩:=hx
      have hs1:=encG_le (l.take k)
      have hs2:=encG_le [x]
      simp only [List.length_take,List.length_cons,List.length_nil] at hs1 hs2
      have HP:=Lib.hid (fun W:World=>putInt_enc x hx1 hx2 W)
      obtain ⟨s1,es1⟩:∃ s1,s1=encG (l.take k):=⟨_,rfl⟩
      obtain ⟨s2,es2⟩:∃ s2,s2=encG [x]:=⟨_,rfl⟩
      rw [← es1] at HS hs1 ⊢
      rw [← es2] at HS hs2 HP
      have hsum:s1.size+s2.size≤9223372036854775807:=by omega
      have hcat:=fun W:World=>run_string_add_sum (P:=Tryz.prog) (w:=W) s1 s2 hsum
      have HL:=Lib.hid hl
      clear es1 es2 hs1 hs2 hl
      go_wp2_with (go_at_call 104;refine (HP.out _).mono ?_;rintro e W1 ⟨rfl,hb1⟩)
      go_roundw
      case rel=>exact ⟨k+1,by omega,by go_num,by rw [HT.out,HS.out],ext_call HL.out hb1⟩
      case measure=>simp [intOf];omega
    · have HK:=Lib.hid (show l.take k=l from List.take_of_length_le (by omega))
      have HL:=Lib.hid hl
      clear hl
      go_wp2
      go_ret
      exact ⟨by rw [HK.out];rfl,HL.out⟩
theorem rowEncode_G (r:RowT) (hr:r.ok) (w:World):Calls Tryz.prog 105 #[.agg #[.int .i64 r.t,.int .i64 r.k,.int .i64 r.a,.int .i64 r.b,.int .i64 r.c]] w fun e w'=>e=.returned (.tuple #[.string (encG [r.t,r.k,r.a,r.b,r.c]),.int .i64 0])∧Below w.heap.size w w':=by
  have HV:=Lib.hid (fun W:World=>rowValid_yes r W hr)
  have HS:=Lib.hid (show ∀ x ∈ [r.t,r.k],-4611686018427387903≤x∧x≤4611686018427387903 by intro x hx;have:=hr.1;have:=hr.2.1;simp at hx;omega)
  have HS2:=Lib.hid (show ∀ x ∈ [r.a,r.b,r.c],-4611686018427387903≤x∧x≤4611686018427387903 by intro x hx;obtain ⟨_,_,h3,h4,h5⟩:=hr;simp at hx;omega)
  obtain ⟨t,k,a,b,c⟩:=r
  clear hr
  dsimp only at *
  have HB0:=Lib.hid (Blk.new w 67 #[.int .i64 t,.int .i64 k,.int .i64 a,.int .i64 b,.int .i64 c])
  go_enter Tryz.func105,Tryz.ntmps105
  go_wp2_with (go_at_call 156;refine (HV.out _).mono ?_;rintro e W1 ⟨rfl,hb1⟩;have hB1:=HB0.out.ext hb1;have c0:=hB1.cell 0;have c1:=hB1.cell 1;have l1:=hB1.lt;have HL1:=Lib.hid (ext_call (ext_new w _) hb1);have HB1:=Lib.hid hB1;clear hb1 hB1)
  have hsum:(encG [t,k]).size+(encG [a,b,c]).size≤9223372036854775807:=by have h1:=encG_le [t,k];have h2:=encG_le [a,b,c];simp at h1 h2;omega
  have HA:=Lib.hid (encG_append [t,k] [a,b,c])
  have HP1:=Lib.hid (show ∀ W:World,Blk W W1.heap.size 3 #[.int .i64 t,.int .i64 k]→Calls Tryz.prog 158 #[.slice (some ⟨W1.heap.size,0,none⟩) 2 2] W fun e w'=>e=.returned (.string (encG [t,k]))∧Below W.heap.size W w' from fun W h=>rowPut_G W1.heap.size 0 2 [t,k] W (.of_blk h 0 [t,k] rfl) h.lt (by simp) HS.out)
  have HP2:=Lib.hid (show ∀ W:World,Blk W w.heap.size 67 #[.int .i64 t,.int .i64 k,.int .i64 a,.int .i64 b,.int .i64 c]→Calls Tryz.prog 158 #[.slice (some ⟨w.heap.size,2,none⟩) 3 3] W fun e w'=>e=.returned (.string (encG [a,b,c]))∧Below W.heap.size W w' from fun W h=>rowPut_G w.heap.size 2 3 [a,b,c] W (.of_blk h 2 [a,b,c] rfl) h.lt (by simp) HS2.out)
  generalize encG [t,k]=s1 at *
  generalize encG [a,b,c]=s2 at *
  have hcat:=fun W:World=>run_string_add_sum (P:=Tryz.prog) (w:=W) s1 s2 hsum
  go_region_held3 (fun w'=>w'.cell? ⟨w.heap.size,0,none⟩=some (.int .i64 t)∧w'.cell? ⟨w.heap.size,1,none⟩=some (.int .i64 k)∧Blk w' w.heap.size 67 #[.int .i64 t,.int .i64 k,.int .i64 a,.int .i64 b,.int .i64 c]∧Below w.heap.size w w')
    (first|exact ⟨c0,c1,HB1.out,HL1.out.drew⟩|assumption|exact encAl (w:=w) ⟨c0,c1,HB1.out,HL1.out⟩ _|exact encKeep (by assumption) (by assumption))
    (first|(go_at_call 158;(with_reducible refine (HP1.out _ ?_).mono ?_);(exact Blk.new W1 _ _);rintro e w' ⟨rfl,hb'⟩)|(go_at_call 158;(with_reducible refine (HP2.out _ ?_).mono ?_);(exact encB (by assumption));rintro e w' ⟨rfl,hb'⟩))
  go_wp2
  go_ret2
  exact ⟨by rw [show encG [t,k,a,b,c]=s1++s2 from HA.out.symm];rfl,encL (by assumption)⟩
theorem encRecord_G (p:Int) (hp:1≤p∧p≤10000) (l:List ChgT) (v:Value) (w:World) (hv:ChgsAt w v l) (hl:ChgsOK l) (hF:validF l=true):Calls Tryz.prog 126 #[.agg #[.int .i64 p,v]] w fun e w'=>e=.returned (.tuple #[.string (encG (encRec p l)),.int .i64 0])∧Below w.heap.size w w':=by
  have HVR:=Lib.hid (fun (W:World) (k:Below w.heap.size w W)=>validRecord_any p ⟨hp.1,by omega⟩ l v W (hv.ext k) hl)
  rw [hF] at HVR
  have HV:=Lib.hid hv
  have HL:=Lib.hid hl
  have HS:=Lib.hid (fun (x:ChgT) (hx:x ∈ l)=>(hl.ok x hx).mid)
  obtain ⟨A,c,rfl,hc,-⟩:=hv
  have HB0:=Lib.hid (Blk.new w 75 #[.int .i64 p,.slice A l.length c])
  have hfew:=hl.few
  have hp63:=hp
  have HFF:=Lib.hid (show l.all ChgT.turns=true by unfold validF at hF;simp at hF;simpa using hF.2)
  clear hl hF hp
  go_enter Tryz.func126,Tryz.ntmps126
  go_wp2_with fail
  refine (HVR.out _ (ext_new w _)).mono ?_
  rintro e W1 ⟨rfl,hb1⟩
  have hB1:=HB0.out.ext hb1
  have c0:=hB1.cell 0
  have c1:=hB1.cell 1
  have l1:=hB1.lt
  have HB1:=Lib.hid hB1
  have HL1:=Lib.hid (ext_call (ext_new w _) hb1)
  clear hb1 hB1 HVR HB0
  go_wp2_with fail
  refine (rowPut_G W1.heap.size 0 2 [p,(l.length:Int)] _ (.of_blk (Blk.new _ _ _) 0 [p,(l.length:Int)] rfl) (by simp) (by simp) (by intro x hx;simp at hx;omega)).mono ?_
  rintro e W2 ⟨rfl,hb2⟩
  have hB2:=(HB1.out.alloc _).ext hb2
  have c1:=hB2.cell 1
  have l1:=hB2.lt
  have HL2:=Lib.hid (ext_call (ext_alloc HL1.out _) hb2)
  clear hb2 hB2 c0 HB1 HL1
  go_wp2
  clear c1 l1
  go_loopw [4,6,7,8,22] (fun s _ _ _ i W=>∃ k:Nat,k≤l.length∧i=.int .i64 k∧s=.string (encG ([p,(l.length:Int)]++(l.take k).flatMap encChg))∧((l.take k).flatMap encChg).length≤9*k∧Below w.heap.size w W) (fun _ _ _ _ i _=>l.length-(intOf i).toNat)
  case atStart=>exact ⟨0,Nat.zero_le _,rfl,by simp,by simp,HL2.out⟩
  case round=>
    obtain ⟨k,hk,rfl,rfl,hsz9,hE⟩:=hrel
    have HE:=Lib.hid hE
    clear hE
    by_cases hlt:k<l.length
    · obtain ⟨x,hx⟩:∃ x,l[k]? = some x:=⟨_,List.getElem?_eq_getElem hlt⟩
      obtain ⟨b,off,c',hA,_,hc9⟩:=(HV.out.ext HE.out).at_ hx
      injection hA with hA hn' hc'
      subst hA;subst hc'
      clear hn'
      have hsm:=HS.out x (List.mem_of_getElem? hx)
      have HT:=Lib.hid (show (l.take (k+1)).flatMap encChg=(l.take k).flatMap encChg++encChg x by
        have h1:l.take (k+1)=l.take k++[x]:=by rw [List.take_add_one,hx];rfl
        rw [h1,List.flatMap_append];simp)
      have htu:x.turns=true:=List.all_eq_true.1 (show l.all ChgT.turns=true from HFF.out) x (List.mem_of_getElem? hx)
      obtain ⟨t,k',had,o1,o2,o3,has,n1,n2,n3⟩:=x
      have c0:wr.cell? ⟨b,off+k*10,none⟩=some (.int .i64 t):=hc9 0 (by omega)
      have c1:wr.cell? ⟨b,off+k*10+1,none⟩=some (.int .i64 k'):=hc9 1 (by omega)
      have c2:wr.cell? ⟨b,off+k*10+2,none⟩=some (.bool had):=hc9 2 (by omega)
      have c3:wr.cell? ⟨b,off+k*10+3,none⟩=some (.int .i64 o1):=hc9 3 (by omega)
      have c4:wr.cell? ⟨b,off+k*10+4,none⟩=some (.int .i64 o2):=hc9 4 (by omega)
      have c5:wr.cell? ⟨b,off+k*10+5,none⟩=some (.int .i64 o3):=hc9 5 (by omega)
      have c6:wr.cell? ⟨b,off+k*10+6,none⟩=some (.bool has):=hc9 6 (by omega)
      have c7:wr.cell? ⟨b,off+k*10+7,none⟩=some (.int .i64 n1):=hc9 7 (by omega)
      have c8:wr.cell? ⟨b,off+k*10+8,none⟩=some (.int .i64 n2):=hc9 8 (by omega)
      have c9:wr.cell? ⟨b,off+k*10+9,none⟩=some (.int .i64 n3):=hc9 9 (by omega)
      have HSM:=Lib.hid hsm
      have e2:IntKind.i64.wrap ((k:Int)+1)=(k:Int)+1:=by rw [IntWalk.i64_in _ (by omega)]
      have d1:decide ((k:Int)<(l.length:Int))=true:=by simp;omega
      have q0:(0:Int)≤(k:Int):=by omega
      have q1:(k:Int)<(l.length:Int):=by omega
      clear hc9 hx hsm
      have HSS:=Lib.hid hsz9
      clear hsz9
      generalize (l.take k).flatMap encChg=ll at *
      cases had <;> cases has
      · simp [ChgT.turns] at htu
      · skip
        have HB0:=Lib.hid (Blk.new wr 72 #[.int .i64 t,.int .i64 k',.bool false,.int .i64 o1,.int .i64 o2,.int .i64 o3,.bool true,.int .i64 n1,.int .i64 n2,.int .i64 n3])
        have HE0:=Lib.hid (ext_alloc HE.out (.cells #[.int .i64 t,.int .i64 k',.bool false,.int .i64 o1,.int .i64 o2,.int .i64 o3,.bool true,.int .i64 n1,.int .i64 n2,.int .i64 n3] 72))
        have hsz:(wr.alloc (.cells #[.int .i64 t,.int .i64 k',.bool false,.int .i64 o1,.int .i64 o2,.int .i64 o3,.bool true,.int .i64 n1,.int .i64 n2,.int .i64 n3] 72)).heap.size=wr.heap.size+1:=by simp
        have hws:=HE.out.size
        obtain ⟨a1,w1,g1⟩:=app3 (wr.alloc (.cells #[.int .i64 t,.int .i64 k',.bool false,.int .i64 o1,.int .i64 o2,.int .i64 o3,.bool true,.int .i64 n1,.int .i64 n2,.int .i64 n3] 72)) (wr.heap.size+1) (by omega) (.slice none 0 0) 0 [] (World.ownsRow_nil (wr.alloc (.cells #[.int .i64 t,.int .i64 k',.bool false,.int .i64 o1,.int .i64 o2,.int .i64 o3,.bool true,.int .i64 n1,.int .i64 n2,.int .i64 n3] 72)) (wr.heap.size+1) 3 1) (by omega) wr.heap.size 7 n1 n2 n3 (HB0.out.cell 7) (HB0.out.cell 8) (HB0.out.cell 9)
        obtain ⟨X1,hX1⟩:∃ X,appW Tryz.prog (wr.alloc (.cells #[.int .i64 t,.int .i64 k',.bool false,.int .i64 o1,.int .i64 o2,.int .i64 o3,.bool true,.int .i64 n1,.int .i64 n2,.int .i64 n3] 72)) 46 46 (.slice none 0 0) (.slice (some ⟨wr.heap.size,7,none⟩) 3 3)=X:=⟨_,rfl⟩
        obtain ⟨v1,hv1⟩:∃ u,appV Tryz.prog (wr.alloc (.cells #[.int .i64 t,.int .i64 k',.bool false,.int .i64 o1,.int .i64 o2,.int .i64 o3,.bool true,.int .i64 n1,.int .i64 n2,.int .i64 n3] 72)) 46 46 (.slice none 0 0) (.slice (some ⟨wr.heap.size,7,none⟩) 3 3)=u:=⟨_,rfl⟩
        rw [hX1,hv1] at w1
        rw [hX1] at g1
        have z1:=g1.size
        have HB1:=Lib.hid (HB0.out.grown g1 (by simp [Value.ownBlock]))
        have HE1:=Lib.hid (HE0.out.grown g1 HE0.out.size (fun j e=>by simp [Value.ownBlock] at e))
        obtain ⟨g,cg,hvg,hg0,hi0⟩:=own_ints (l:=[n1,n2,n3]) w1 (by omega)
        have HI0:=Lib.hid hi0
        have HG0:=Lib.hid hg0
        have hbz:=HB1.out
        have HEZ:=Lib.hid HE1.out
        have b0:=hbz.cell 0
        have b1:=hbz.cell 1
        have l3:=hbz.lt
        clear hbz w1 g1 z1 HB0 HE0 hsz hws HB1 HE1
        rw [hvg] at hv1
        clear hvg hi0 hg0
        go_wp2_with fail
        clear b0 b1 l3 c0 c1 c2 c3 c4 c5 c6 c7 c8 c9 hX1 hv1 a1
        refine (rowPut_G X1.heap.size 0 3 [t,k',2] _ (.of_blk (Blk.new _ _ _) 0 [t,k',2] rfl) (by simp) (by simp) (by have h1:=HSM.out;intro x hx;simp [ChgT.mid] at h1 hx;omega)).mono ?_
        rintro e W4 ⟨rfl,hb4⟩
        have HI:=Lib.hid (((IntsAt.ext HI0.out (ext_new _ _)).ext hb4))
        have HE4:=Lib.hid (ext_call (ext_alloc HEZ.out _) hb4)
        have l4:g<W4.heap.size:=by have:=hb4.size;have:=HG0.out;simp at *;omega
        clear hb4 HI0 HG0 HEZ
        go_wp2_with fail
        refine (rowPut_G g 0 cg [n1,n2,n3] _ HI.out l4 (by simp) (by have h1:=HSM.out;intro x hx;simp [ChgT.mid] at h1 hx;omega)).mono ?_
        rintro e W5 ⟨rfl,hb5⟩
        have HE5:=Lib.hid (ext_call HE4.out hb5)
        clear hb5 HI HE4 l4
        have HA1:=Lib.hid (encG_append [t,k',2] [n1,n2,n3])
        have HA2:=Lib.hid (encG_append (p::(l.length:Int)::ll) ([t,k',2]++[n1,n2,n3]))
        have hs1:=encG_le [t,k',2]
        have hs2:=encG_le [n1,n2,n3]
        have hs3:=encG_le (p::(l.length:Int)::ll)
        have hss:=HSS.out
        simp only [List.length_cons,List.length_nil,List.length_append] at hs1 hs2 hs3
        have HFIN:=Lib.hid (show encG ((p::(l.length:Int)::ll)++([t,k',2]++[n1,n2,n3]))=encG ([p,(l.length:Int)]++(ll++encChg ⟨t,k',false,o1,o2,o3,true,n1,n2,n3⟩)) from congrArg encG (by simp [encChg]))
        have hlen:(encChg ⟨t,k',false,o1,o2,o3,true,n1,n2,n3⟩).length≤9:=by simp [encChg]
        have HLN:=Lib.hid hlen
        rw [← HA2.out,← HA1.out] at HFIN
        generalize encG [t,k',2]=s1 at *
        generalize encG [n1,n2,n3]=s2 at *
        generalize encG (p::(l.length:Int)::ll)=s3 at *
        have hs12:(s1++s2).size=s1.size+s2.size:=ByteArray.size_append
        have hsum1:s1.size+s2.size≤9223372036854775807:=by omega
        have hsum2:s3.size+(s1++s2).size≤9223372036854775807:=by omega
        have hcat1:=fun W:World=>run_string_add_sum (P:=Tryz.prog) (w:=W) s1 s2 hsum1
        have hcat2:=fun W:World=>run_string_add_sum (P:=Tryz.prog) (w:=W) s3 (s1++s2) hsum2
        clear hs1 hs2 hs3 hs12 hss hlen
        go_wp2
        go_roundw
        case rel=>exact ⟨k+1,by omega,by go_num,by rw [HT.out,← HFIN.out],by rw [HT.out,List.length_append];have:=HLN.out;have:=HSS.out;omega,HE5.out⟩
        case measure=>simp [intOf];omega
      · skip
        have HB0:=Lib.hid (Blk.new wr 72 #[.int .i64 t,.int .i64 k',.bool true,.int .i64 o1,.int .i64 o2,.int .i64 o3,.bool false,.int .i64 n1,.int .i64 n2,.int .i64 n3])
        have HE0:=Lib.hid (ext_alloc HE.out (.cells #[.int .i64 t,.int .i64 k',.bool true,.int .i64 o1,.int .i64 o2,.int .i64 o3,.bool false,.int .i64 n1,.int .i64 n2,.int .i64 n3] 72))
        have hsz:(wr.alloc (.cells #[.int .i64 t,.int .i64 k',.bool true,.int .i64 o1,.int .i64 o2,.int .i64 o3,.bool false,.int .i64 n1,.int .i64 n2,.int .i64 n3] 72)).heap.size=wr.heap.size+1:=by simp
        have hws:=HE.out.size
        obtain ⟨a1,w1,g1⟩:=app3 (wr.alloc (.cells #[.int .i64 t,.int .i64 k',.bool true,.int .i64 o1,.int .i64 o2,.int .i64 o3,.bool false,.int .i64 n1,.int .i64 n2,.int .i64 n3] 72)) (wr.heap.size+1) (by omega) (.slice none 0 0) 0 [] (World.ownsRow_nil (wr.alloc (.cells #[.int .i64 t,.int .i64 k',.bool true,.int .i64 o1,.int .i64 o2,.int .i64 o3,.bool false,.int .i64 n1,.int .i64 n2,.int .i64 n3] 72)) (wr.heap.size+1) 3 1) (by omega) wr.heap.size 3 o1 o2 o3 (HB0.out.cell 3) (HB0.out.cell 4) (HB0.out.cell 5)
        obtain ⟨X1,hX1⟩:∃ X,appW Tryz.prog (wr.alloc (.cells #[.int .i64 t,.int .i64 k',.bool true,.int .i64 o1,.int .i64 o2,.int .i64 o3,.bool false,.int .i64 n1,.int .i64 n2,.int .i64 n3] 72)) 46 46 (.slice none 0 0) (.slice (some ⟨wr.heap.size,3,none⟩) 3 3)=X:=⟨_,rfl⟩
        obtain ⟨v1,hv1⟩:∃ u,appV Tryz.prog (wr.alloc (.cells #[.int .i64 t,.int .i64 k',.bool true,.int .i64 o1,.int .i64 o2,.int .i64 o3,.bool false,.int .i64 n1,.int .i64 n2,.int .i64 n3] 72)) 46 46 (.slice none 0 0) (.slice (some ⟨wr.heap.size,3,none⟩) 3 3)=u:=⟨_,rfl⟩
        rw [hX1,hv1] at w1
        rw [hX1] at g1
        have z1:=g1.size
        have HB1:=Lib.hid (HB0.out.grown g1 (by simp [Value.ownBlock]))
        have HE1:=Lib.hid (HE0.out.grown g1 HE0.out.size (fun j e=>by simp [Value.ownBlock] at e))
        obtain ⟨g,cg,hvg,hg0,hi0⟩:=own_ints (l:=[o1,o2,o3]) w1 (by omega)
        have HI0:=Lib.hid hi0
        have HG0:=Lib.hid hg0
        have hbz:=HB1.out
        have HEZ:=Lib.hid HE1.out
        have m6:=hbz.cell 6
        have b0:=hbz.cell 0
        have b1:=hbz.cell 1
        have l3:=hbz.lt
        clear hbz w1 g1 z1 HB0 HE0 hsz hws HB1 HE1
        rw [hvg] at hv1
        clear hvg hi0 hg0
        go_wp2_with fail
        clear b0 b1 l3 c0 c1 c2 c3 c4 c5 c6 c7 c8 c9 hX1 hv1 a1
        refine (rowPut_G X1.heap.size 0 3 [t,k',1] _ (.of_blk (Blk.new _ _ _) 0 [t,k',1] rfl) (by simp) (by simp) (by have h1:=HSM.out;intro x hx;simp [ChgT.mid] at h1 hx;omega)).mono ?_
        rintro e W4 ⟨rfl,hb4⟩
        have HI:=Lib.hid (((IntsAt.ext HI0.out (ext_new _ _)).ext hb4))
        have HE4:=Lib.hid (ext_call (ext_alloc HEZ.out _) hb4)
        have l4:g<W4.heap.size:=by have:=hb4.size;have:=HG0.out;simp at *;omega
        clear hb4 HI0 HG0 HEZ
        go_wp2_with fail
        refine (rowPut_G g 0 cg [o1,o2,o3] _ HI.out l4 (by simp) (by have h1:=HSM.out;intro x hx;simp [ChgT.mid] at h1 hx;omega)).mono ?_
        rintro e W5 ⟨rfl,hb5⟩
        have HE5:=Lib.hid (ext_call HE4.out hb5)
        clear hb5 HI HE4 l4
        have HA1:=Lib.hid (encG_append [t,k',1] [o1,o2,o3])
        have HA2:=Lib.hid (encG_append (p::(l.length:Int)::ll) ([t,k',1]++[o1,o2,o3]))
        have hs1:=encG_le [t,k',1]
        have hs2:=encG_le [o1,o2,o3]
        have hs3:=encG_le (p::(l.length:Int)::ll)
        have hss:=HSS.out
        simp only [List.length_cons,List.length_nil,List.length_append] at hs1 hs2 hs3
        have HFIN:=Lib.hid (show encG ((p::(l.length:Int)::ll)++([t,k',1]++[o1,o2,o3]))=encG ([p,(l.length:Int)]++(ll++encChg ⟨t,k',true,o1,o2,o3,false,n1,n2,n3⟩)) from congrArg encG (by simp [encChg]))
        have hlen:(encChg ⟨t,k',true,o1,o2,o3,false,n1,n2,n3⟩).length≤9:=by simp [encChg]
        have HLN:=Lib.hid hlen
        rw [← HA2.out,← HA1.out] at HFIN
        generalize encG [t,k',1]=s1 at *
        generalize encG [o1,o2,o3]=s2 at *
        generalize encG (p::(l.length:Int)::ll)=s3 at *
        have hs12:(s1++s2).size=s1.size+s2.size:=ByteArray.size_append
        have hsum1:s1.size+s2.size≤9223372036854775807:=by omega
        have hsum2:s3.size+(s1++s2).size≤9223372036854775807:=by omega
        have hcat1:=fun W:World=>run_string_add_sum (P:=Tryz.prog) (w:=W) s1 s2 hsum1
        have hcat2:=fun W:World=>run_string_add_sum (P:=Tryz.prog) (w:=W) s3 (s1++s2) hsum2
        clear hs1 hs2 hs3 hs12 hss hlen
        go_wp2
        go_roundw
        case rel=>exact ⟨k+1,by omega,by go_num,by rw [HT.out,← HFIN.out],by rw [HT.out,List.length_append];have:=HLN.out;have:=HSS.out;omega,HE5.out⟩
        case measure=>simp [intOf];omega
      · skip
        have HB0:=Lib.hid (Blk.new wr 72 #[.int .i64 t,.int .i64 k',.bool true,.int .i64 o1,.int .i64 o2,.int .i64 o3,.bool true,.int .i64 n1,.int .i64 n2,.int .i64 n3])
        have HE0:=Lib.hid (ext_alloc HE.out (.cells #[.int .i64 t,.int .i64 k',.bool true,.int .i64 o1,.int .i64 o2,.int .i64 o3,.bool true,.int .i64 n1,.int .i64 n2,.int .i64 n3] 72))
        have hsz:(wr.alloc (.cells #[.int .i64 t,.int .i64 k',.bool true,.int .i64 o1,.int .i64 o2,.int .i64 o3,.bool true,.int .i64 n1,.int .i64 n2,.int .i64 n3] 72)).heap.size=wr.heap.size+1:=by simp
        have hws:=HE.out.size
        obtain ⟨a1,w1,g1⟩:=app3 (wr.alloc (.cells #[.int .i64 t,.int .i64 k',.bool true,.int .i64 o1,.int .i64 o2,.int .i64 o3,.bool true,.int .i64 n1,.int .i64 n2,.int .i64 n3] 72)) (wr.heap.size+1) (by omega) (.slice none 0 0) 0 [] (World.ownsRow_nil (wr.alloc (.cells #[.int .i64 t,.int .i64 k',.bool true,.int .i64 o1,.int .i64 o2,.int .i64 o3,.bool true,.int .i64 n1,.int .i64 n2,.int .i64 n3] 72)) (wr.heap.size+1) 3 1) (by omega) wr.heap.size 3 o1 o2 o3 (HB0.out.cell 3) (HB0.out.cell 4) (HB0.out.cell 5)
        obtain ⟨X1,hX1⟩:∃ X,appW Tryz.prog (wr.alloc (.cells #[.int .i64 t,.int .i64 k',.bool true,.int .i64 o1,.int .i64 o2,.int .i64 o3,.bool true,.int .i64 n1,.int .i64 n2,.int .i64 n3] 72)) 46 46 (.slice none 0 0) (.slice (some ⟨wr.heap.size,3,none⟩) 3 3)=X:=⟨_,rfl⟩
        obtain ⟨v1,hv1⟩:∃ u,appV Tryz.prog (wr.alloc (.cells #[.int .i64 t,.int .i64 k',.bool true,.int .i64 o1,.int .i64 o2,.int .i64 o3,.bool true,.int .i64 n1,.int .i64 n2,.int .i64 n3] 72)) 46 46 (.slice none 0 0) (.slice (some ⟨wr.heap.size,3,none⟩) 3 3)=u:=⟨_,rfl⟩
        rw [hX1,hv1] at w1
        rw [hX1] at g1
        have z1:=g1.size
        have HB1:=Lib.hid (HB0.out.grown g1 (by simp [Value.ownBlock]))
        have HE1:=Lib.hid (HE0.out.grown g1 HE0.out.size (fun j e=>by simp [Value.ownBlock] at e))
        obtain ⟨a2,w2,g2⟩:=app3 X1 (wr.heap.size+1) (by omega) v1 3 [.int .i64 o1,.int .i64 o2,.int .i64 o3] w1 (by omega) wr.heap.size 7 n1 n2 n3 (HB1.out.cell 7) (HB1.out.cell 8) (HB1.out.cell 9)
        obtain ⟨X2,hX2⟩:∃ X,appW Tryz.prog X1 46 46 v1 (.slice (some ⟨wr.heap.size,7,none⟩) 3 3)=X:=⟨_,rfl⟩
        obtain ⟨v2,hv2⟩:∃ u,appV Tryz.prog X1 46 46 v1 (.slice (some ⟨wr.heap.size,7,none⟩) 3 3)=u:=⟨_,rfl⟩
        rw [hX2,hv2] at w2
        rw [hX2] at g2
        have z2:=g2.size
        obtain ⟨gv,cv,curv,hvv,hgv,-⟩:=own_blk w1 (by omega)
        have HB2:=Lib.hid (HB1.out.grown g2 (by rw [hvv];simp [Value.ownBlock];omega))
        have HE2:=Lib.hid (HE1.out.grown g2 HE1.out.size (fun j e=>by rw [hvv] at e;simp [Value.ownBlock] at e;omega))
        obtain ⟨g,cg,hvg,hg0,hi0⟩:=own_ints (l:=[o1,o2,o3,n1,n2,n3]) w2 (by omega)
        have HI0:=Lib.hid hi0
        have HG0:=Lib.hid hg0
        have hbz:=HB2.out
        have HEZ:=Lib.hid HE2.out
        have hmz:=HB1.out
        have l2:=hmz.lt
        have m4:=hmz.cell 4
        have m5:=hmz.cell 5
        have m6:=hmz.cell 6
        have m7:=hmz.cell 7
        have m8:=hmz.cell 8
        have m9:=hmz.cell 9
        clear hmz
        have b0:=hbz.cell 0
        have b1:=hbz.cell 1
        have l3:=hbz.lt
        clear hbz w1 g1 z1 w2 g2 z2 HB0 HE0 hsz hws HB1 HE1 HB2 HE2
        clear hvv hgv
        rw [hvg] at hv2
        clear hvg hi0 hg0
        go_wp2_with fail
        clear b0 b1 l3 c0 c1 c2 c3 c4 c5 c6 c7 c8 c9 hX1 hv1 a1 hX2 hv2 a2
        refine (rowPut_G X2.heap.size 0 3 [t,k',3] _ (.of_blk (Blk.new _ _ _) 0 [t,k',3] rfl) (by simp) (by simp) (by have h1:=HSM.out;intro x hx;simp [ChgT.mid] at h1 hx;omega)).mono ?_
        rintro e W4 ⟨rfl,hb4⟩
        have HI:=Lib.hid (((IntsAt.ext HI0.out (ext_new _ _)).ext hb4))
        have HE4:=Lib.hid (ext_call (ext_alloc HEZ.out _) hb4)
        have l4:g<W4.heap.size:=by have:=hb4.size;have:=HG0.out;simp at *;omega
        clear hb4 HI0 HG0 HEZ
        go_wp2_with fail
        refine (rowPut_G g 0 cg [o1,o2,o3,n1,n2,n3] _ HI.out l4 (by simp) (by have h1:=HSM.out;intro x hx;simp [ChgT.mid] at h1 hx;omega)).mono ?_
        rintro e W5 ⟨rfl,hb5⟩
        have HE5:=Lib.hid (ext_call HE4.out hb5)
        clear hb5 HI HE4 l4
        have HA1:=Lib.hid (encG_append [t,k',3] [o1,o2,o3,n1,n2,n3])
        have HA2:=Lib.hid (encG_append (p::(l.length:Int)::ll) ([t,k',3]++[o1,o2,o3,n1,n2,n3]))
        have hs1:=encG_le [t,k',3]
        have hs2:=encG_le [o1,o2,o3,n1,n2,n3]
        have hs3:=encG_le (p::(l.length:Int)::ll)
        have hss:=HSS.out
        simp only [List.length_cons,List.length_nil,List.length_append] at hs1 hs2 hs3
        have HFIN:=Lib.hid (show encG ((p::(l.length:Int)::ll)++([t,k',3]++[o1,o2,o3,n1,n2,n3]))=encG ([p,(l.length:Int)]++(ll++encChg ⟨t,k',true,o1,o2,o3,true,n1,n2,n3⟩)) from congrArg encG (by simp [encChg]))
        have hlen:(encChg ⟨t,k',true,o1,o2,o3,true,n1,n2,n3⟩).length≤9:=by simp [encChg]
        have HLN:=Lib.hid hlen
        rw [← HA2.out,← HA1.out] at HFIN
        generalize encG [t,k',3]=s1 at *
        generalize encG [o1,o2,o3,n1,n2,n3]=s2 at *
        generalize encG (p::(l.length:Int)::ll)=s3 at *
        have hs12:(s1++s2).size=s1.size+s2.size:=ByteArray.size_append
        have hsum1:s1.size+s2.size≤9223372036854775807:=by omega
        have hsum2:s3.size+(s1++s2).size≤9223372036854775807:=by omega
        have hcat1:=fun W:World=>run_string_add_sum (P:=Tryz.prog) (w:=W) s1 s2 hsum1
        have hcat2:=fun W:World=>run_string_add_sum (P:=Tryz.prog) (w:=W) s3 (s1++s2) hsum2
        clear hs1 hs2 hs3 hs12 hss hlen
        go_wp2
        go_roundw
        case rel=>exact ⟨k+1,by omega,by go_num,by rw [HT.out,← HFIN.out],by rw [HT.out,List.length_append];have:=HLN.out;have:=HSS.out;omega,HE5.out⟩
        case measure=>simp [intOf];omega
    · have d1:decide ((k:Int)<(l.length:Int))=false:=by simp;omega
      have HK:=Lib.hid (show l.take k=l from List.take_of_length_le (by omega))
      go_wp2
      go_ret2
      exact ⟨by rw [encRec,HK.out];rfl,HE.out⟩
end
section
open Go.RowKit Go.Shelf
attribute [local go_sem ↓] app_exec app_sem Go.wp_at_zero Go.wp_at_succ
def encRowF (r:RowT):ByteArray:=encG [r.t,r.k,r.a,r.b,r.c]
def ordS (rs:List RowT) (t:Int) (j:Nat):List ByteArray:=(selF rs t j (-1000000000) 1000000000).map encRowF
theorem ordS_size (rs:List RowT) (t:Int) (j:Nat):∀ s ∈ ordS rs t j,s.size≤50:=by
  intro s hs
  obtain ⟨r,_,rfl⟩:=List.mem_map.1 hs
  unfold encRowF
  have:=encG_le [r.t,r.k,r.a,r.b,r.c]
  simpa using this
theorem ordS_length (rs:List RowT) (t:Int) (j:Nat):(ordS rs t j).length≤rs.length:=by
  unfold ordS
  rw [List.length_map]
  exact selF_length _ _ _ _ _
theorem RowsL.far {W:World} {v:Value} {l:List RowT} (h:RowsL W v l) {b:Nat} {x:Value} (hx:W.cell? ⟨b,0,none⟩=some x) (hn:∀ n,x ≠ .int .i64 n) (i:Nat) (u:Value):RowsL (W.setCell ⟨b,i,none⟩ u) v l:=by
  obtain ⟨A,c,rfl,h⟩:=h
  refine ⟨A,c,rfl,fun h0=>?_⟩
  obtain ⟨g,hA,hg,hr⟩:=h h0
  have hne:b≠g:=by
    rintro rfl
    have h1:=hr 0 _ (List.getElem?_eq_getElem h0) 0 (by omega)
    rw [Nat.zero_mul,Nat.zero_add] at h1
    rw [h1] at hx
    exact hn _ (Option.some.inj hx).symm
  refine ⟨g,hA,by simpa [World.setCell] using hg,fun j r hj k hk=>?_⟩
  rw [World.cell?_setCell_far _ _ _ _ hne]
  exact hr j r hj k hk
def OrderS (rs:List RowT) (t:Int) (j:Nat) (W:World) (v1 v2:Value):Prop:=RowsL W v1 (selF rs t j (-1000000000) 1000000000)∧Strs (fun _=>True) W v2 (ordS rs t j)
theorem orderS (rs:List RowT) (hrs:∀ r ∈ rs,r.ok) (gs gm j:Nat) (pos t:Int) (hj:j<4) (w:World) (hS:StateR w gs gm pos rs) (hsz:rs.length≤1000) (hap:Apart rs) :
    Calls Tryz.prog 85 #[.pointer (some ⟨gs,0,none⟩),.int .i64 t,.int .i64 (j:Int)] w
      fun e w'=>∃ v1 v2,e=.returned (.agg #[v1,v2])∧OrderS rs t j w' v1 v2∧Below w.heap.size w w':=by
  have HS:=Lib.hid hS
  have HRS:=Lib.hid hrs
  clear hS hrs
  go_enter Tryz.func85,Tryz.ntmps85
  go_wp2_with fail
  refine (rangeS rs gs gm j pos t _ _ hj _ (HS.out.ext (ext_new _ _)) hsz hap).mono ?_
  rintro e W1 ⟨v,rfl,hl1,hb1⟩
  have hin:∀ r ∈ selF rs t j (-1000000000) 1000000000,r ∈ rs:=fun r hr=>(selF_mem.1 hr).1
  have hlen:=selF_length rs t j (-1000000000) 1000000000
  obtain ⟨l,hl9⟩:∃ l,l=selF rs t j (-1000000000) 1000000000:=⟨_,rfl⟩
  rw [← hl9] at hl1 hin hlen
  have HL9:=Lib.hid hl9
  clear hl9
  have HB1:=Lib.hid ((Blk.new w 168 #[.slice none 0 0,.slice none 0 0]).ext hb1)
  have HE1:=Lib.hid (ext_call (ext_new w (.cells #[.slice none 0 0,.slice none 0 0] 168)) hb1)
  have HL1:=Lib.hid hl1
  have HSM:=Lib.hid (fun (r:RowT) (hr:r ∈ l)=>HRS.out r (hin r hr))
  have hle:=hlen
  have hwl:w.heap.size<W1.heap.size:=HB1.out.lt
  obtain ⟨A,cl,rfl,-⟩:=hl1
  clear hb1 hin hlen
  go_wp2
  obtain ⟨X,hX⟩:∃ X,X=W1.alloc (.cells #[.slice A l.length cl,.slice none 0 0] 168):=⟨_,rfl⟩
  rw [← hX]
  have HOX:=Lib.hid (show Blk X W1.heap.size 168 #[.slice A l.length cl,.slice none 0 0] by rw [hX];exact Blk.new _ _ _)
  have HEX:=Lib.hid (show Below W1.heap.size W1 X by rw [hX];exact ext_new _ _)
  clear hX
  go_loopw [9,10,11,20,24] (fun _ _ _ i _ W=>∃ (k:Nat) (ev:Value),k≤l.length∧i=.int .i64 k∧Blk W W1.heap.size 168 #[.slice A l.length cl,ev]∧W.ownsRow (W1.heap.size+1) 9 1 ev k (((l.take k).map encRowF).map Value.string)∧Below W1.heap.size W1 W) (fun _ _ _ i _ _=>l.length-(intOf i).toNat)
  case atStart=>exact ⟨0,.slice none 0 0,Nat.zero_le _,rfl,HOX.out,World.ownsRow_nil _ _ _ _,HEX.out⟩
  case round=>
    obtain ⟨k,ev,hk,rfl,hob1,hown,hE⟩:=hrel
    have HOB:=Lib.hid hob1
    have HOW:=Lib.hid hown
    have HE:=Lib.hid hE
    have hbl:=hob1.lt
    clear hob1 hown hE
    by_cases hlt:k<l.length
    · obtain ⟨r,hr⟩:∃ r,l[k]? = some r:=⟨_,List.getElem?_eq_getElem hlt⟩
      obtain ⟨g,c',hA,hg,hc9⟩:=(HL1.out.ext HE.out).at_ hr
      injection hA with hA hn' hc'
      subst hA;subst hc'
      clear hn'
      have hsm:=HSM.out r (List.mem_of_getElem? hr)
      have HENC:=Lib.hid (fun W:World=>rowEncode_G r hsm W)
      have c0:=hc9 0 (by omega)
      have c1:=hc9 1 (by omega)
      have c2:=hc9 2 (by omega)
      have c3:=hc9 3 (by omega)
      have c4:=hc9 4 (by omega)
      have htk:=List.take_add_one (i:=k) (l:=l)
      rw [hr] at htk
      have HTK:=Lib.hid htk
      obtain ⟨s,hs9⟩:∃ s,s=encRowF r:=⟨_,rfl⟩
      have HS9:=Lib.hid hs9
      unfold encRowF at hs9
      rw [← hs9] at HENC
      obtain ⟨r0,r1,r2,r3,r4⟩:=r
      simp only [encR,List.getElem?_cons_zero,List.getElem?_cons_succ,Nat.add_zero] at c0 c1 c2 c3 c4
      have e2:IntKind.i64.wrap ((k:Int)+1)=(k:Int)+1:=by rw [IntWalk.i64_in _ (by omega)]
      have d1:decide ((k:Int)<(l.length:Int))=true:=by simp;omega
      have q0:(0:Int)≤(k:Int):=by omega
      have q1:(k:Int)<(l.length:Int):=by omega
      clear hc9 hr hsm hg hs9 htk
      go_wp2_with fail
      refine (HENC.out _).mono ?_
      rintro e W2 ⟨rfl,hb2⟩
      have HE2:=Lib.hid (ext_call (ext_alloc HE.out (.cells #[.int .i64 r0,.int .i64 r1,.int .i64 r2,.int .i64 r3,.int .i64 r4] 67)) hb2)
      have HO2:=Lib.hid ((HOB.out.alloc (.cells #[.int .i64 r0,.int .i64 r1,.int .i64 r2,.int .i64 r3,.int .i64 r4] 67)).ext hb2)
      have HW2:=Lib.hid (own_ext (HOW.out.alloc (.cells #[.int .i64 r0,.int .i64 r1,.int .i64 r2,.int .i64 r3,.int .i64 r4] 67)) hb2)
      clear hb2 c0 c1 c2 c3 c4
      have o1:=HO2.out.cell 1
      have ol:=HO2.out.lt
      obtain ⟨ha,W4,hW4,v4,hv4,ho4,hg4⟩:=appStr W2 (W1.heap.size+1) (by omega) ev k (((l.take k).map encRowF).map Value.string) HW2.out (by omega) s
      have hown:ev.ownBlock=none∨∃ g,ev.ownBlock=some g∧W1.heap.size+1≤g:=by
        rcases HW2.out.2 with ⟨h1,_⟩|⟨g,cap,cur,h1,h2,_⟩
        · exact .inl (by rw [h1];rfl)
        · exact .inr ⟨g,by rw [h1];rfl,h2⟩
      have HO4:=Lib.hid ((HO2.out.alloc (.cells #[.string s] 9)).grown hg4 (by rcases hown with h|⟨g,h,h2⟩ <;> rw [h];simp;intro h3;have h4:=Option.some.inj h3;omega))
      have HE4:=Lib.hid ((ext_alloc HE2.out (.cells #[.string s] 9)).grown hg4 (ext_alloc HE2.out (.cells #[.string s] 9)).size (fun k e=>by rcases hown with h|⟨g,h,h2⟩ <;> rw [h] at e;cases e;have e2:=Option.some.inj e;omega))
      obtain ⟨A4,c4,hsh4⟩:=own_shape ho4
      subst hsh4
      have HW4:=Lib.hid ho4
      have p1:=HO4.out.cell 1
      have f1:=HO4.out.frozen 1
      have pl:=HO4.out.lt
      clear ho4 hg4 hown
      go_wp2
      go_roundw
      case rel=>
        refine ⟨k+1,.slice A4 (k+1) c4,by omega,by go_num,HO4.out.set_ 1 _,?_,ext_set HE4.out (Nat.le_refl _) _⟩
        · rw [HTK.out,List.map_append,List.map_append]
          show World.ownsRow _ _ _ _ _ _ (_++[Value.string (encRowF _)])
          rw [← HS9.out]
          refine HW4.out.kept (row:=some W1.heap.size) ⟨rfl,rfl,rfl,by simp [World.setCell],fun k _ hk=>Below.heap_setCell _ _ _ _ (fun e=>hk (by rw [e]))⟩ ?_
          rcases HW4.out.2 with ⟨h1,_⟩|⟨g,cap,cur,h1,h2,_⟩
          · exact .inl (by rw [h1];rfl)
          · exact .inr (by rw [h1];simp [Value.ownBlock];omega)
      case measure=>simp [intOf];omega
    · have d1:decide ((k:Int)<(l.length:Int))=false:=by simp;omega
      have hkl:k=l.length:=by omega
      subst hkl
      obtain ⟨A4,c4,hsh4⟩:=own_shape HOW.out
      subst hsh4
      have hBW:=HB1.out.ext HE.out
      have hOB:=HOB.out
      have q0:=hBW.cell 0
      have q1:=hBW.cell 1
      have qf0:=hBW.frozen 0
      have qf1:=hBW.frozen 1
      have p0:=hOB.cell 0
      have p1:=hOB.cell 1
      have HBW:=Lib.hid hBW
      clear hBW hOB
      go_wp2
      have hBf:=(HBW.out.set_ 0 (.slice A l.length cl)).set_ 1 (.slice A4 l.length c4)
      have y0:=hBf.cell 0;have y1:=hBf.cell 1
      refine bodyPost_ret (v:=.agg #[.slice A l.length cl,.slice A4 l.length c4]) (by simp [results,Tryz.results85,go_sem,y0,y1]) rfl ⟨_,_,rfl,⟨?_,?_⟩,ext_set (ext_set (ext_call HE1.out HE.out) (Nat.le_refl _) _) (Nat.le_refl _) _⟩
      · rw [← HL9.out]
        exact ((HL1.out.ext HE.out).far q0 (by intro n h;cases h) 0 (.slice A l.length cl)).far ((HBW.out.set_ 0 (.slice A l.length cl)).cell 0) (by intro n h;cases h) 1 _
      rw [ordS,← HL9.out]
      refine own_strs (base:=W1.heap.size+1) (n:=l.length) ?_ (by simp)
      have hk2:∀ (W:World) (i:Nat) (u:Value),W.ownsRow (W1.heap.size+1) 9 1 (.slice A4 l.length c4) l.length ((l.map encRowF).map Value.string)→(W.setCell ⟨w.heap.size,i,none⟩ u).ownsRow (W1.heap.size+1) 9 1 (.slice A4 l.length c4) l.length ((l.map encRowF).map Value.string):=fun W i u h=>by
        refine h.kept (row:=some w.heap.size) ⟨rfl,rfl,rfl,by simp [World.setCell],fun k _ hk=>Below.heap_setCell _ _ _ _ (fun e=>hk (by rw [e]))⟩ ?_
        rcases h.2 with ⟨h1,_⟩|⟨g,cap,cur,h1,h2,_⟩
        · exact .inl (by rw [h1];rfl)
        · exact .inr (by rw [h1];simp [Value.ownBlock];omega)
      have h9:=HOW.out
      rw [List.take_length] at h9
      exact hk2 _ _ _ (hk2 _ _ _ h9)
end
section
open Go.RowKit Go.Shelf
section
attribute [local go_sem] Oper.semAt_some
def OrdCS (rs:List RowT) (Bs gs gm:Nat) (pos:Int) (W:World):Prop:=W.cell? ⟨Bs,0,none⟩=some (.pointer (some ⟨gs,0,none⟩))∧StateR W gs gm pos rs
def OrdMS (rs:List RowT) (k:Nat) (xs:Array Value) (W:World):Prop:=∃ v1 v2,xs=#[.agg #[v1,v2]]∧OrderS rs ((k / 4:Nat):Int) (k % 4) W v1 v2
theorem ordersS_in (n:Nat) (hn:1≤n) (rs:List RowT) (hrs:∀ r ∈ rs,r.ok) (hsz:rs.length≤1000) (hap:Apart rs) (l Bs gs gm:Nat) (pos:Int) (J:Nat→World→Prop) (hC:∀ k W,J k W→OrdCS rs Bs gs gm pos W) (hA:∀ k A B,J k A→Below A.heap.size A B→J k B)
    (hY:∀ k xs W1,k<16→J k W1→OrdMS rs k xs W1→YieldAt Fence.wide (n-1) Tryz.prog l xs W1 fun e W'=>e=.returned (.bool true)∧J (k+1) W')
    (W:World) (h0:J 0 W) :
    CallsIn Fence.wide n Tryz.prog 177 #[.func (.yield l) #[] #[],.pointer (some ⟨Bs,0,none⟩)] W (OrdPost J):=by
  have HC:=Lib.hid hC
  have HA:=Lib.hid hA
  have HY:=Lib.hid hY
  clear hC hA hY
  refine callsIn_of_wp Tryz.func177 rfl trivial ?_ rfl
  simp only [Tryz.ntmps177,List.size_toArray,List.length_cons,List.length_nil,Nat.reduceAdd,Nat.reduceSub,Array.replicate_succ,Array.replicate_zero,List.push_toArray,List.append_toArray,List.nil_append,List.cons_append]
  gi_wp2
  gi_loopw [5] (fun i wr=>∃ t:Nat,t≤4∧i=.int .i64 (t:Int)∧J (4*t) wr) (fun i _=>(4-intOf i).toNat)
  case atStart=>exact ⟨0,Nat.zero_le _,by simp,h0⟩
  case round=>
    obtain ⟨t,ht,rfl,hJt⟩:=hrel
    by_cases hlt:t<4
    · have hlt':(t:Int)<4:=by omega
      gi_wp2
      gi_loopw [8] (fun i wr=>∃ c:Nat,c≤4∧i=.int .i64 (c:Int)∧J (4*t+c) wr) (fun i _=>(4-intOf i).toNat)
      case atStart=>exact ⟨0,Nat.zero_le _,by simp,hJt⟩
      case round=>
        obtain ⟨c,hc,rfl,hJc⟩:=hrel
        by_cases hlc:c<4
        · have hlc':(c:Int)<4:=by omega
          have HJc:=Lib.hid hJc
          have cs:=(HC.out _ _ hJc).1
          clear hJc
          gi_wp2_with fail
          refine ⟨trivial,(callsIn_wide.2 (orderS rs hrs gs gm c pos (t:Int) hlc wr (HC.out _ _ HJc.out).2 hsz hap)).mono ?_⟩
          rintro e W1 ⟨v1,v2,rfl,hO1,hb1⟩
          obtain ⟨fn,tmps,assign,body,hy,hR⟩:=HY.out (4*t+c) #[.agg #[v1,v2]] W1 (by omega) (HA.out _ _ _ HJc.out hb1) ⟨v1,v2,rfl,by rw [show (4*t+c) / 4=t by omega,show (4*t+c) % 4=c by omega];exact hO1⟩
          clear hO1 hb1 cs
          gi_wp2
          refine hR.mono ?_
          rintro e W3 ⟨rfl,hJ3⟩
          have HJ3:=Lib.hid hJ3
          clear hJ3
          gi_wp2
          go_roundw
          case rel=>exact ⟨c+1,by omega,by go_num,HJ3.out⟩
          case measure=>simp [intOf];omega
        · have hlc':¬ (c:Int)<4:=by omega
          have HJt:=Lib.hid (show J (4*(t+1)) wr by rw [show 4*(t+1)=4*t+c by omega];exact hJc)
          clear hJc
          gi_wp2
          go_roundw
          case rel=>exact ⟨t+1,by omega,by go_num,HJt.out⟩
          case measure=>simp [intOf];omega
    · have hlt':¬ (t:Int)<4:=by omega
      have HJt:=Lib.hid (show J 16 wr by rw [show 16=4*t by omega];exact hJt)
      clear hJt
      gi_wp2
      go_end0
      exact ⟨⟨_,rfl⟩,HJt.out⟩
theorem ordersS_seq (n:Nat) (hn:1≤n) (rs:List RowT) (hrs:∀ r ∈ rs,r.ok) (hsz:rs.length≤1000) (hap:Apart rs) (Bs gs gm:Nat) (pos:Int) :
    SeqMem n Tryz.prog 177 #[.pointer (some ⟨Bs,0,none⟩)] 16 (OrdCS rs Bs gs gm pos) (OrdMS rs):=
  fun l J W hC hA hY h0=>ordersS_in n hn rs hrs hsz hap l Bs gs gm pos J hC hA hY W h0
end
section
attribute [local go_sem] run_semAt
attribute [local go_sem high] app_sem
theorem OwnP.rowsL {B:Nat} {v:Value} {l:List RowT}:OwnP B (fun W=>RowsL W v l):=fun _ X Y row hs hg hr=>by
  obtain ⟨A,c,rfl,h⟩:=hs
  refine ⟨A,c,rfl,fun h0=>?_⟩
  obtain ⟨g,hA,hlt,hc⟩:=h h0
  refine ⟨g,hA,Nat.lt_of_lt_of_le hlt hg.size,fun j r hj i hi=>?_⟩
  have h1:=hc j r hj i hi
  rw [List.getElem?_eq_getElem (show i<(encR r).length from hi)] at h1 ⊢
  exact cell_kept h1 hg (fun r e=>(hr r e).2)
theorem OwnP.orderS {B:Nat} {rs:List RowT} {t:Int} {j:Nat} {v1 v2:Value}:OwnP B (fun W=>OrderS rs t j W v1 v2):=OwnP.and OwnP.rowsL OwnP.strs
theorem orderS_slices {rs:List RowT} {t:Int} {j:Nat} {W:World} {v1 v2:Value} (h:OrderS rs t j W v1 v2):∃ A1 n1 c1 A2 n2 c2,v1=.slice A1 n1 c1∧v2=.slice A2 n2 c2:=by
  obtain ⟨⟨A,c,rfl,_⟩,⟨A2,c2,rfl,_⟩⟩:=h
  exact ⟨_,_,_,_,_,_,rfl,rfl⟩
def sumF1 (rs:List RowT) (k:Nat):ByteArray:=byteS (2*(ordS rs ((k / 4:Nat):Int) (k % 4)).length)++rootF (ordS rs ((k / 4:Nat):Int) (k % 4))
def sumsF (rs:List RowT):List ByteArray:=(List.range 16).map (sumF1 rs)
def stRootF (rs:List RowT):ByteArray:=rootF (sumsF rs)
theorem sumF1_size (rs:List RowT) (k:Nat):(sumF1 rs k).size≤40:=by
  unfold sumF1
  rw [ByteArray.size_append,rootF_size,byteS_size]
  omega
def SumsS (rs:List RowT) (w:World) (gs gm:Nat) (pos:Int) (k:Nat) (W:World):Prop:=
  (∃ L:List ByteArray,L=(List.range k).map (sumF1 rs)∧∃ v,Boxed W w.heap.size 53 v∧W.ownsRow w.heap.size 9 1 v k (L.map Value.string)∧True)∧Below w.heap.size w W∧Blk W (w.heap.size+1) 63 #[.pointer (some ⟨gs,0,none⟩)]∧StateR W gs gm pos rs∧RoundOK W
theorem SumsS.own (rs:List RowT) (w:World) (gs gm:Nat) (pos:Int) (k B:Nat) (hB:w.heap.size≤B) (hg:gm<B):OwnP B (SumsS rs w gs gm pos k):=
  OwnP.and (fun _ X Y row hs h1 h2=>by
      obtain ⟨L,hL,hv⟩:=hs
      exact ⟨L,hL,(Own.from (holdsRow_own w.heap.size w.heap.size 53 9 1 (fun _:Unit=>k) (fun _:Unit=>L.map Value.string) (fun _ _=>True)) B) () X Y row hv h1 h2⟩)
    (OwnP.and (OwnP.below (Nat.le_refl _) hB) (OwnP.and OwnP.blk (OwnP.and (OwnP.stateR hg) OwnP.round)))
theorem sumsS_round {rs:List RowT} {w W W1 W2 W':World} {gs gm k B:Nat} {pos:Int} {v:Value} (hS:StateR w gs gm pos rs) (hR:RoundOK w) (hI:Below w.heap.size w W1∧Blk W1 (w.heap.size+1) 63 #[.pointer (some ⟨gs,0,none⟩)]∧StateR W1 gs gm pos rs∧RoundOK W1)
    (h1:Below W.heap.size W W1) (h2:Below W1.heap.size W1 W2) (hk:KeepsOthers W2 W') (hb:Below w.heap.size W2 W') (L:List ByteArray) (hL:L=(List.range (k+1)).map (sumF1 rs)) (hv:Boxed W' w.heap.size 53 v) (hr:W'.ownsRow w.heap.size 9 1 v (k+1) (L.map Value.string))
    (ho:Blk W' (w.heap.size+1) 63 #[.pointer (some ⟨gs,0,none⟩)]):KeepsFrom B W W'∧SumsS rs w gs gm pos (k+1) W':=by
  have hE:Below w.heap.size w W':=(ext_call hI.1 h2).trans hb
  exact ⟨(((keeps_below h1).trans (keeps_below h2)).trans hk).from _,⟨L,hL,v,hv,hr,trivial⟩,hE,ho,hS.ext hE,hR.below hE⟩
theorem summariesS (rs:List RowT) (hrs:∀ r ∈ rs,r.ok) (hsz:rs.length≤60) (hap:Apart rs) (gs gm:Nat) (pos:Int) (w:World) (hS:StateR w gs gm pos rs) (hR:RoundOK w) :
    Calls Tryz.prog 70 #[.pointer (some ⟨gs,0,none⟩)] w fun e w'=>∃ v,e=.returned v∧Strs (fun b=>w.heap.size≤b) w' v (sumsF rs)∧Below w.heap.size w w':=by
  have HS:=Lib.hid hS
  have HR:=Lib.hid hR
  have hgm:=hS.2.lt
  obtain ⟨is,his,hzs0,hzs1,hzs2⟩:=info_parts str_info
  clear hS hR
  refine (callsIn_wide (n:=3)).1 (callsIn_of_wp_marks Tryz.func70 rfl trivial (wpIn_wide.2 ?_) rfl)
  simp only [Tryz.ntmps70,List.size_toArray,List.length_cons,List.length_nil,Nat.reduceAdd,Nat.reduceSub,Array.replicate_succ,Array.replicate_zero,List.push_toArray,List.append_toArray,List.nil_append,List.cons_append]
  go_wp2_with (go_at_call 125;refine (orders_any gs _).mono ?_;rintro e W2 ⟨rfl,rfl⟩)
  have hE0:Below w.heap.size w ((w.alloc (.cells #[.slice none 0 0] 53)).alloc (.cells #[.pointer (some ⟨gs,0,none⟩)] 63)):=ext_alloc (ext_new _ _) _
  have hI0:SumsS rs w gs gm pos 0 ((w.alloc (.cells #[.slice none 0 0] 53)).alloc (.cells #[.pointer (some ⟨gs,0,none⟩)] 63)):=
    ⟨⟨[],rfl,_,(Boxed.new _ _ _).alloc _,World.ownsRow_nil _ _ _ _,trivial⟩,hE0,Blk.new' _ _ _ (by simp),HS.out.ext hE0,HR.out.below hE0⟩
  refine (wpIn_wide (n:=3)).1 ?_
  refine' wpIn_mem_box2 (by omega) (gf:=177) (lb:=#[.pointer (some ⟨w.heap.size+1,0,none⟩)]) (by simp [Act.eval]) (enters_of Tryz.func177 (by kernel_rfl) rfl)
    (M:=fun k v1 v2 W=>OrderS rs ((k / 4:Nat):Int) (k % 4) W v1 v2) (ordersS_seq 2 (by omega) rs hrs (by omega) hap (w.heap.size+1) gs gm pos) rfl
    (SumsS rs w gs gm pos) (fun k=>SumsS.own rs w gs gm pos k _ (by simp;omega) (by simp;omega)) (fun k W h=>⟨h.2.2.1.cell 0,h.2.2.2.1⟩) hI0 (fun k v1 v2=>OwnP.orderS) (fun k v1 v2 W h=>orderS_slices h) 168 _ ?assign ?body ?done
  case assign=>
    intro l h A1 n1 c1 A2 n2 c2 W K hh hK
    gi_wp2
    rw [← hh]
    exact hK
  case body=>
    rintro l h k A1 n1 c1 A n0 c W hk hsz' hh hB ⟨-,hstr⟩ ⟨⟨L,hLl,v,hv,hrow,_⟩,hb,hcs,hst,hro⟩
    have hSUM:sumF1 rs k=byteS (2*(ordS rs ((k / 4:Nat):Int) (k % 4)).length)++rootF (ordS rs ((k / 4:Nat):Int) (k % 4)):=rfl
    have hsl:=ordS_length rs ((k / 4:Nat):Int) (k % 4)
    have hss:=ordS_size rs ((k / 4:Nat):Int) (k % 4)
    obtain ⟨ss,hss9⟩:∃ ss,ss=ordS rs ((k / 4:Nat):Int) (k % 4):=⟨_,rfl⟩
    rw [← hss9] at hstr hSUM hsl hss
    clear hss9
    have HStr:=Lib.hid hstr
    have hE1:ss.length<64:=by omega
    have HEl:=Lib.hid (show ∀ x ∈ ss,x.size≤100000 by intro x hx;have:=hss x hx;omega)
    have HLL:=Lib.hid hLl
    have HLen:=Lib.hid (show L.length=k by rw [hLl];simp)
    obtain rfl:n0=ss.length:=by
      obtain ⟨A',c',h',_⟩:=hstr
      injection h'
    obtain ⟨n,hn⟩:∃ n,n=ss.length:=⟨_,rfl⟩
    rw [← hn] at HStr hE1 hB hSUM ⊢
    have HSUM:=Lib.hid hSUM
    clear hSUM
    have HN:=Lib.hid hn
    clear hn hstr hsl hss hLl
    have HB:=Lib.hid hB
    have HV:=Lib.hid hv
    have HRow:=Lib.hid hrow
    have HI:=Lib.hid (And.intro hb (And.intro hcs (And.intro hst hro)))
    have h0:=hB.cell 0
    have h1:=hB.cell 1
    have hl:=hB.lt
    clear hB hv hrow hb hcs hst hro
    gi_wp2_with fail
    refine ⟨trivial,(CallsIn.inRound l (callsIn_wide.2 (putInt_any n (by omega) W))).mono ?_⟩
    rintro e W1 ⟨rfl,hb1⟩
    have HB1:=Lib.hid (HB.out.ext hb1)
    have HV1:=Lib.hid (HV.out.kept (below_grown hb1) (by simp))
    have HRow1:=Lib.hid (own_below HRow.out hb1)
    have HI1:=Lib.hid (show Below w.heap.size w W1∧Blk W1 (w.heap.size+1) 63 #[.pointer (some ⟨gs,0,none⟩)]∧StateR W1 gs gm pos rs∧RoundOK W1 from ⟨ext_call HI.out.1 hb1,HI.out.2.1.ext hb1,HI.out.2.2.1.ext hb1,HI.out.2.2.2.below hb1⟩)
    have HK1:=Lib.hid hb1
    have HRoot:=Lib.hid (show ∀ X:World,Below W1.heap.size W1 X→Calls Tryz.prog 43 #[.slice A n c] X fun e w'=>e=.returned (.string (rootF ss))∧Below X.heap.size X w' from
      fun X hX=>root_any (fun _=>True) _ _ X ((HStr.out.below HK1.out).below hX) (by rw [← HN.out];omega) HEl.out (HI1.out.2.2.2.below hX))
    have hrz:=rootF_size ss
    generalize rootF ss=rt at *
    have hb9:=byteS_size (2*n)
    have hsum:(byteS (2*n)).size+rt.size≤9223372036854775807:=by rw [byteS_size];omega
    generalize byteS (2*n)=s1 at *
    have HSUM2:=Lib.hid HSUM.out
    have hcat:=fun W:World=>run_string_add_sum (P:=Tryz.prog) (w:=W) s1 rt hsum
    have HT40:=Lib.hid (show (s1++rt).size≤40 by rw [ByteArray.size_append];omega)
    clear h0 h1 hl hb1 hrz
    have h1:=HB1.out.cell 1
    have hl:=HB1.out.lt
    have hv:=HV1.out.cell
    have hvf:=HV1.out.frozen
    have hvl:=HV1.out.lt
    gi_wp2
    have hz1:w.heap.size≤W1.heap.size:=HI1.out.1.size
    gi_region_with (refine ⟨trivial,(CallsIn.inRound l (callsIn_wide.2 (HRoot.out _ ?_))).mono ?_⟩;(exact (ext_refl _).drew);rintro e W2 ⟨rfl,hb2⟩;obtain ⟨hok,g3,cap3,W3,hav,haw,hv3,hv4,hr4,hk4,hb4,ho4⟩:=sums_after (s1++rt) (HV1.out.kept (below_grown (undrew hb2)) (by simp)) (own_below HRow1.out (undrew hb2)) (Nat.le_trans hz1 (undrew hb2).size) (Nat.le_refl _) (Nat.lt_trans hk (by decide));have c2:=(cell_ext hv (undrew hb2));have hvl2:w.heap.size<W2.heap.size:=lt_of_cell c2;have c3:=hv3.cell;have f3:=hv3.frozen;have HV4:=Lib.hid hv4;have HR4:=Lib.hid hr4;have HK4:=Lib.hid hk4;have HB4:=Lib.hid hb4;have HO4:=Lib.hid ho4;have HB2:=Lib.hid (undrew hb2);clear hb2 hv3 hv4 hr4 hk4 hb4 ho4)
    all_goals
      refine sumsS_round HS.out HR.out HI1.out HK1.out HB2.out HK4.out HB4.out (L++[s1++rt]) (by rw [List.range_succ,List.map_append,← HLL.out,List.map_singleton,HSUM.out]) HV4.out ?_ (HO4.out _ _ _ (HI1.out.2.1.ext HB2.out) (by decide) (by omega))
      rw [List.map_append]
      exact HR4.out
  case done=>
    rintro D W hD ⟨⟨L,hLl,v,hv,hrow,_⟩,hb,hcs,hst,hro⟩ hK
    obtain rfl:L=sumsF rs:=hLl
    have hLl:(sumsF rs).length=16:=by simp [sumsF]
    have HLL:=Lib.hid hLl
    clear hLl
    have hvc:=hv.cell
    have HRow:=Lib.hid hrow
    have HBe:=Lib.hid hb
    clear hrow hb hcs hst hro
    go_wp2
    refine ⟨by simp,.inl ⟨_,_,rfl,run_takeDeferred hK,?_⟩⟩
    refine ⟨_,results_tmp rfl _ _ _,_,rfl,?_,?_⟩
    · obtain ⟨g,cap,rfl⟩:=ownsRow_succ HRow.out
      refine ⟨_,cap,by rw [HLL.out];rfl,?_,fun _=>⟨g,0,rfl,?_,fun j x hx=>?_⟩⟩
      · rw [HLL.out];exact own_cap HRow.out
      · exact (HRow.out.lt g rfl).1
      · have h1:=HRow.out.cells (g:=g) rfl j (.string x) (by rw [List.getElem?_map,hx];rfl)
        rw [add_lit0] at h1
        rw [Nat.zero_add]
        refine cell_kept h1 (grownBy_putObj' W D _) (fun r e=>?_)
        injection e with e
        subst e
        exact ⟨_,hK,rfl⟩
    · exact ext_put HBe.out (by simp at hD;omega) _
end
theorem stateRootS (rs:List RowT) (hrs:∀ r ∈ rs,r.ok) (hsz:rs.length≤60) (hap:Apart rs) (gs gm:Nat) (pos:Int) (w:World) (hS:StateR w gs gm pos rs) (hR:RoundOK w) :
    Calls Tryz.prog 39 #[.pointer (some ⟨gs,0,none⟩)] w fun e w'=>e=.returned (.string (stRootF rs))∧Below w.heap.size w w':=by
  have HS:=Lib.hid (summariesS rs hrs hsz hap gs gm pos w hS hR)
  have HR:=Lib.hid hR
  obtain ⟨sf,hsf⟩:∃ sf,sf=stRootF rs:=⟨_,rfl⟩
  obtain ⟨L,hL⟩:∃ L,L=sumsF rs:=⟨_,rfl⟩
  have HL1:=Lib.hid (show L.length≤10000 by rw [hL];simp [sumsF])
  have HL2:=Lib.hid (show ∀ x ∈ L,x.size≤100000 by rw [hL];intro x hx;obtain ⟨k,_,rfl⟩:=List.mem_map.1 hx;have:=sumF1_size rs k;omega)
  have HSF:=Lib.hid (show rootF L=sf by rw [hL,hsf];rfl)
  rw [← hsf]
  rw [← hL] at HS
  clear hS hR hrs hsz hsf hL
  go_enter Tryz.func39,Tryz.ntmps39
  go_wp2_with fail
  refine HS.out.mono ?_
  rintro e W1 ⟨v,rfl,hs1,hb1⟩
  have hrt:=root_any _ v _ W1 hs1 HL1.out HL2.out (HR.out.below hb1)
  rw [HSF.out] at hrt
  have HRT:=Lib.hid hrt
  have HB1:=Lib.hid hb1
  clear hrt
  clear hs1 hb1
  go_wp2_with fail
  refine HRT.out.mono ?_
  rintro e W2 ⟨rfl,hb2⟩
  go_wp2
  go_ret
  exact ⟨rfl,ext_call HB1.out hb2⟩
end
end Go.Proofs.YtimoapjhepmehaaGreatDoor
