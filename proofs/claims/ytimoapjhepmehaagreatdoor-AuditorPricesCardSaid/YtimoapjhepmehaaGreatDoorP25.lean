/-
  package proof: Make at any valid query and any state.
-/
import Derived.Test.YtimoapjhepmehaaGreatDoorP17
set_option linter.unusedSimpArgs false
set_option linter.unusedVariables false
set_option maxHeartbeats 4000000
set_option maxRecDepth 100000
namespace Go.Proofs.YtimoapjhepmehaaGreatDoor
open Go.RowKit Go.Shelf
attribute [local go_sem ↓] app_exec app_sem Go.wp_at_zero Go.wp_at_succ
theorem app_own_at {P:Program} {w:World} (base:Nat) (t ty e:TypeId) (i:TypeInfo) (z:Value) (size bytes:Nat) (ht:P.underlying t=some (.slice e)) (hi:P.info? e=some i) (hz:i.zero=some z)
    (hsize:i.size=size) (hby:i.bytes=bytes) (hzs:z.cells.size=size) (hsz:0<size) (v:Value) (n:Nat) (xs:List Value) (hown:w.ownsRow base e size v n xs)
    (a:Addr) (m c:Nat) (news:List Value) (hl:news.length=m*size) (hnews:∀ j u,news[j]? = some u→w.cell? (a.add j)=some u) (h1:∀ u ∈ news,u.oneCell'=true)
    (h63:n+m≤maxLen) (hbytes:(n+m)*bytes≤140737488355328) (hbase:base≤w.heap.size) :
    AppOK P w t ty v (.slice (some a) m c)∧∃ W',appW P w t ty v (.slice (some a) m c)=W'∧∃ v',appV P w t ty v (.slice (some a) m c)=v'∧W'.ownsRow base e size v' (n+m) (xs++news)∧w.grownBy W' v.ownBlock∧(v'.ownBlock=v.ownBlock∨v'.ownBlock=some w.heap.size):=by
  obtain ⟨v',w',hr,h2,h3,_,h5⟩:=Go.run_append_own_at (P:=P) w base t ty e i z size bytes ht hi hz hsize hby hzs hsz v n xs hown a m c news hl hnews h1 h63 hbytes hbase
  refine ⟨⟨v',w',hr⟩,w',?_,v',?_,h2,h3,h5⟩
  · unfold appW;rw [hr]
  · unfold appV;rw [hr]
theorem blk_neG {W:World} {a b:Nat} {t u:TypeId} {xs ys:Array Value} (h:Blk W a t xs) (k:Blk W b u ys) (hne:t≠u):a≠b:=by
  rintro rfl
  unfold Blk at h k
  rw [h] at k
  injection k with k
  injection k with _ k
  exact hne k
def rpC (ys:List (RPT × Value × Value × Value)):List Value:=ys.flatMap fun y=>(y.1.nums y.2.1 y.2.2.1 y.2.2.2).toList
theorem rpC_append (ys:List (RPT × Value × Value × Value)) (y:RPT × Value × Value × Value):rpC (ys++[y])=rpC ys++(y.1.nums y.2.1 y.2.2.1 y.2.2.2).toList:=by simp [rpC]
theorem rpC_length (ys:List (RPT × Value × Value × Value)):(rpC ys).length=ys.length*9:=by
  induction ys with
  | nil=>rfl
  | cons y r ih=>simp [rpC,RPT.nums] at ih ⊢;omega
theorem rpC_at:∀ (ys:List (RPT × Value × Value × Value)) (i:Nat) (y:RPT × Value × Value × Value),ys[i]? = some y→∀ k,k<9→(rpC ys)[i*9+k]? = (y.1.nums y.2.1 y.2.2.1 y.2.2.2)[k]?
  | [],i,y,h,k,hk=>by simp at h
  | x::ys,0,y,h,k,hk=>by
    simp only [List.getElem?_cons_zero,Option.some.injEq] at h
    subst h
    simp only [rpC,List.flatMap_cons,Nat.zero_mul,Nat.zero_add]
    rw [List.getElem?_append_left (show k<(x.1.nums x.2.1 x.2.2.1 x.2.2.2).toList.length from hk)]
    simp
  | x::ys,i+1,y,h,k,hk=>by
    have h1:=rpC_at ys i y (by simpa using h) k hk
    simp only [rpC,List.flatMap_cons]
    rw [List.getElem?_append_right (by simp [RPT.nums];omega)]
    have e:(i+1)*9+k-(x.1.nums x.2.1 x.2.2.1 x.2.2.2).toList.length=i*9+k:=by simp [RPT.nums];omega
    rw [e]
    exact h1
def RPsS (S:Nat→Prop) (W:World) (v:Value) (l:List RPT):Prop:=∃ A c,v=.slice A l.length c∧(0<l.length→∃ g,A=some ⟨g,0,none⟩∧g<W.heap.size∧S g∧∀ (i:Nat) (p:RPT),l[i]? = some p→∃ a b d,RPS S W p a b d∧∀ k,k<9→W.cell? ⟨g,i*9+k,none⟩=(p.nums a b d)[k]?)
theorem RPsS.keep {S:Nat→Prop} {w W:World} {v:Value} {l:List RPT} (h:RPsS S w v l) (hk:∀ b,S b→b<w.heap.size→W.heap[b]? = w.heap[b]?) (hs:w.heap.size≤W.heap.size):RPsS S W v l:=by
  obtain ⟨A,c,rfl,h⟩:=h
  refine ⟨A,c,rfl,fun h0=>?_⟩
  obtain ⟨g,h1,h2,h3,h4⟩:=h h0
  refine ⟨g,h1,Nat.lt_of_lt_of_le h2 hs,h3,fun i p hi=>?_⟩
  obtain ⟨a,b,d,h5,h6⟩:=h4 i p hi
  exact ⟨a,b,d,h5.keep hk hs,fun k hk9=>by rw [cell_heap (hk g h3 h2)];exact h6 k hk9⟩
theorem RPsS.mono {S T:Nat→Prop} {w:World} {v:Value} {l:List RPT} (h:RPsS S w v l) (hk:∀ b,S b→b<w.heap.size→T b):RPsS T w v l:=by
  obtain ⟨A,c,rfl,h⟩:=h
  refine ⟨A,c,rfl,fun h0=>?_⟩
  obtain ⟨g,h1,h2,h3,h4⟩:=h h0
  refine ⟨g,h1,h2,hk g h3 h2,fun i p hi=>?_⟩
  obtain ⟨a,b,d,h5,h6⟩:=h4 i p hi
  exact ⟨a,b,d,h5.mono hk,h6⟩
theorem RPsS.ext {S:Nat→Prop} {w W:World} {v:Value} {l:List RPT} (h:RPsS S w v l) (k:Below w.heap.size w W):RPsS S W v l:=h.keep (fun b _ hl=>k.block b hl) k.size
structure OutI (B bo:Nat) (W:World) (ov:Value) (ys:List (RPT × Value × Value × Value)):Prop where
  box:Blk W bo 37 #[ov]
  own:W.ownsRow B 126 9 ov ys.length (rpC ys)
  each:∀ y ∈ ys,RPS (fun b=>B≤b∧ov.ownBlock≠some b) W y.1 y.2.1 y.2.2.1 y.2.2.2
theorem OutI.ext {B bo:Nat} {w W:World} {ov:Value} {ys:List (RPT × Value × Value × Value)} (h:OutI B bo w ov ys) (k:Below w.heap.size w W):OutI B bo W ov ys:=⟨h.box.ext k,own_ext h.own k,fun y hy=>(h.each y hy).ext k⟩
theorem OutI.list {B bo:Nat} {W:World} {ov:Value} {ys:List (RPT × Value × Value × Value)} (h:OutI B bo W ov ys):RPsS (fun b=>B≤b) W ov (ys.map (·.1)):=by
  obtain ⟨A,c,rfl⟩:=own_shape h.own
  refine ⟨A,c,by rw [List.length_map],fun h0=>?_⟩
  rw [List.length_map] at h0
  obtain ⟨g,cap,hv,hB,hg,_,hc⟩:=own_cells h.own h0
  injection hv with hA _ _
  refine ⟨g,hA,hg,hB,fun i p hi=>?_⟩
  rw [List.getElem?_map,Option.map_eq_some_iff] at hi
  obtain ⟨y,hy,rfl⟩:=hi
  refine ⟨_,_,_,(h.each y (List.mem_of_getElem? hy)).mono (fun b hb _=>hb.1),fun k hk=>?_⟩
  rw [← rpC_at ys i y hy k hk,hc (i*9+k) _ (List.getElem?_eq_getElem (by rw [rpC_length];have:=(List.getElem?_eq_some_iff.1 hy).1;omega))]
  exact (List.getElem?_eq_getElem _).symm
theorem rpg_info:(Tryz.prog.info? 126).map (fun i=>(i.zero,i.size,i.bytes))=some (some (.agg #[.int .i64 0,.int .i64 0,.int .i64 0,.int .i64 0,.int .i64 0,.int .i64 0,.slice none 0 0,.slice none 0 0,.slice none 0 0]),9,120):=by kernel_rfl
def OutX (bo:Nat) (ov:Value) (k:Nat):Prop:=k=bo∨ov.ownBlock=some k
theorem OutI.put {B bo:Nat} {X V U:World} {ov v4:Value} {ys:List (RPT × Value × Value × Value)} {y:RPT × Value × Value × Value} (h:OutI B bo X ov ys) (hbo:bo<B) (hy:RPS (fun b=>B≤b∧ov.ownBlock≠some b) X y.1 y.2.1 y.2.2.1 y.2.2.2) (hbx:Below X.heap.size X V) (hg:V.grownBy U ov.ownBlock)
    (ho:U.ownsRow B 126 9 v4 (ys.length+1) (rpC ys++(y.1.nums y.2.1 y.2.2.1 y.2.2.2).toList)) (hf:v4.ownBlock=ov.ownBlock∨v4.ownBlock=some V.heap.size):OutI B bo (U.setCell ⟨bo,0,none⟩ v4) v4 (ys++[y])∧ExtS (OutX bo ov) X (U.setCell ⟨bo,0,none⟩ v4):=by
  have hV:=h.ext hbx
  have hne:ov.ownBlock≠some bo:=fun e=>by have:=(h.own.lt bo e).1;omega
  have hne4:v4.ownBlock≠some bo:=fun e=>by have:=(ho.lt bo e).1;omega
  have hheap:∀ b,b<V.heap.size→ov.ownBlock≠some b→b≠bo→(U.setCell ⟨bo,0,none⟩ v4).heap[b]? = V.heap[b]? := fun b hb h1 h2=>by
    rw [Below.heap_setCell _ _ _ _ h2]
    exact hg.block b hb (fun e=>h1 e.symm)
  have hsz:V.heap.size≤(U.setCell ⟨bo,0,none⟩ v4).heap.size:=by simpa [World.setCell] using hg.size
  refine ⟨⟨?_,?_,fun z hz=>?_⟩,?_⟩
  · have h9:=(hV.box.grown hg (by intro e;exact hne e.symm)).set_ 0 v4
    simpa using h9
  · rw [List.length_append,rpC_append]
    exact own_heap ho hbo (fun k hk=>Below.heap_setCell _ _ _ _ hk) (by simp [World.setCell]) rfl rfl rfl
  · have hz2:RPS (fun b=>B≤b∧ov.ownBlock≠some b) V z.1 z.2.1 z.2.2.1 z.2.2.2:=by
      rcases List.mem_append.1 hz with hz|hz
      · exact hV.each z hz
      · simp at hz
        subst hz
        exact hy.ext hbx
    refine ((hz2.mono (T:=fun b=>(B≤b∧ov.ownBlock≠some b)∧b<V.heap.size) (fun b hb hl=>⟨hb,hl⟩)).keep (fun b hb hl=>hheap b hl hb.1.2 (by omega)) hsz).mono (fun b hb _=>⟨hb.1.1,?_⟩)
    rcases hf with e|e
    · rw [e];exact hb.1.2
    · rw [e];intro e2;have:=Option.some.inj e2;omega
  · refine ⟨hg.os.trans hbx.os,hg.tape.trans hbx.tape,hg.output.trans hbx.output,Nat.le_trans hbx.size hsz,fun k hk hn=>?_⟩
    rw [hheap k (Nat.lt_of_lt_of_le hk hbx.size) (fun e=>hn (.inr e)) (fun e=>hn (.inl e))]
    exact hbx.block k hk
theorem makePut (rs:List RowT) (hrs:∀ r ∈ rs,r.ok) (hsz:rs.length≤60) (hap:Apart rs) (gs gm:Nat) (pos t lo hi:Int) (j:Nat) (ht:0≤t∧t≤3) (hj:j<4) (hlh:lo≤hi) (B bs bo:Nat) (ov:Value) (ys:List (RPT × Value × Value × Value)) (hn:ys.length≤1000) (w:World)
    (hS:StateR w gs gm pos rs) (hR:RoundOK w) (hbs:w.cell? ⟨bs,0,none⟩=some (.pointer (some ⟨gs,0,none⟩))) (hO:OutI B bo w ov ys) (hbo:bo<B) (hB:B≤w.heap.size) :
    Calls Tryz.prog 48 #[.agg #[.int .i64 t,.int .i64 (j:Int),.int .i64 lo,.int .i64 hi],.pointer (some ⟨bs,0,none⟩),.pointer (some ⟨bo,0,none⟩)] w
      fun e w'=>e=.returned (.tuple #[])∧∃ ov2 a b c,OutI B bo w' ov2 (ys++[(proveF rs t j lo hi,a,b,c)])∧ExtS (OutX bo ov) w w':=by
  obtain ⟨ii,hii,hzi0,hzi1,hzi2⟩:=info_parts rpg_info
  obtain ⟨Ao,co,hov⟩:=own_shape hO.own
  subst hov
  have hob:=hO.own.lt
  have hbl:=hO.box.lt
  obtain ⟨W0,hW0⟩:∃ W0,W0=w.alloc (.cells #[.int .i64 t,.int .i64 (j:Int),.int .i64 lo,.int .i64 hi] 123):=⟨_,rfl⟩
  have HE0:=Lib.hid (show Below w.heap.size w W0 by rw [hW0];exact ext_new _ _)
  have HB0:=Lib.hid (show Blk W0 w.heap.size 123 #[.int .i64 t,.int .i64 (j:Int),.int .i64 lo,.int .i64 hi] by rw [hW0];exact Blk.new _ _ _)
  have HO:=Lib.hid hO
  have HPR:=Lib.hid (proveS rs hrs hsz hap gs gm pos t lo hi j ht hj hlh W0 (hS.ext HE0.out) (hR.below HE0.out))
  have HW0:=Lib.hid hW0
  have s0:=cell_ext hbs HE0.out
  have hbsl:bs<w.heap.size:=lt_of_cell hbs
  have c0:=HB0.out.cell 0;have c1:=HB0.out.cell 1;have c2:=HB0.out.cell 2;have c3:=HB0.out.cell 3
  generalize proveF rs t j lo hi=q at *
  have HOB:=Lib.hid hob
  clear hW0 hS hR hrs hap hO hbs hob
  go_enter Tryz.func48,Tryz.ntmps48
  go_upto_region 1 with (fail)
  rw [← HW0.out]
  go_wp2_with fail
  refine HPR.out.mono ?_
  rintro e W1 ⟨va,rfl,⟨a,b,c,rfl,hq⟩,hb1⟩
  have HQ:=Lib.hid (show RPS (fun x=>B≤x∧(Value.slice Ao ys.length co).ownBlock≠some x) W1 q a b c from hq.mono (fun x hx _=>by
    have h1:=HE0.out.size
    exact ⟨by omega,fun e=>by have:=(HOB.out x e).2;omega⟩))
  have HE1:=Lib.hid (ext_call HE0.out hb1)
  obtain ⟨Aa,ca,rfl,-⟩:=hq.rows
  obtain ⟨Ab,cb,rfl,-⟩:=hq.paths
  obtain ⟨Ac,cc,rfl,-⟩:=hq.roots
  clear hb1 hq c0 c1 c2 c3 s0
  dsimp only [RPT.nums]
  obtain ⟨X,hX⟩:∃ X,X=W1.alloc (.cells #[.int .i64 q.t,.int .i64 q.j,.int .i64 q.lo,.int .i64 q.hi,.int .i64 q.n,.int .i64 q.f,.slice Aa q.rows.length ca,.slice Ab q.paths.length cb,.slice Ac q.roots.length cc] 126):=⟨_,rfl⟩
  have HEX:=Lib.hid (show Below w.heap.size w X by rw [hX];exact ext_alloc HE1.out _)
  have HE1X:=Lib.hid (show Below W1.heap.size W1 X by rw [hX];exact ext_new _ _)
  have HQX:=Lib.hid (HQ.out.ext HE1X.out)
  have HYX:=Lib.hid (show Blk X W1.heap.size 126 #[.int .i64 q.t,.int .i64 q.j,.int .i64 q.lo,.int .i64 q.hi,.int .i64 q.n,.int .i64 q.f,.slice Aa q.rows.length ca,.slice Ab q.paths.length cb,.slice Ac q.roots.length cc] by rw [hX];exact Blk.new _ _ _)
  have hwx:=HEX.out.size
  obtain ⟨ha,W4,hW4,v4,hv4,ho4,hg4,hf4⟩:=app_own_at (P:=Tryz.prog) (w:=X.alloc (.cells #[.int .i64 q.t,.int .i64 q.j,.int .i64 q.lo,.int .i64 q.hi,.int .i64 q.n,.int .i64 q.f,.slice Aa q.rows.length ca,.slice Ab q.paths.length cb,.slice Ac q.roots.length cc] 126)) B 37 37 126 ii (.agg #[.int .i64 0,.int .i64 0,.int .i64 0,.int .i64 0,.int .i64 0,.int .i64 0,.slice none 0 0,.slice none 0 0,.slice none 0 0]) 9 120 Tryz.underlying37 hii hzi0 hzi1 hzi2 rfl (by decide) (.slice Ao ys.length co) ys.length (rpC ys) ((own_ext HO.out.own HEX.out).alloc _) ⟨X.heap.size,0,none⟩ 1 1
    [.int .i64 q.t,.int .i64 q.j,.int .i64 q.lo,.int .i64 q.hi,.int .i64 q.n,.int .i64 q.f,.slice Aa q.rows.length ca,.slice Ab q.paths.length cb,.slice Ac q.roots.length cc] rfl (news_blk (Blk.new X 126 _)) (by simp [Value.oneCell']) (by unfold maxLen;omega) (by omega) (by simp;omega)
  obtain ⟨A4,c4,h4s⟩:=own_shape ho4
  subst h4s
  have HPT:=Lib.hid (OutI.put (y:=(q,.slice Aa q.rows.length ca,.slice Ab q.paths.length cb,.slice Ac q.roots.length cc)) (HO.out.ext HEX.out) hbo HQX.out (ext_new X _) hg4 ho4 hf4)
  have hO4:=((HO.out.box.ext HEX.out).alloc (.cells #[.int .i64 q.t,.int .i64 q.j,.int .i64 q.lo,.int .i64 q.hi,.int .i64 q.n,.int .i64 q.f,.slice Aa q.rows.length ca,.slice Ab q.paths.length cb,.slice Ac q.roots.length cc] 126)).grown hg4 (fun e=>by have:=(HOB.out bo e.symm).1;omega)
  have o0:=(HO.out.box.ext HEX.out).cell 0
  have p0:=hO4.cell 0
  have pf:=hO4.frozen 0
  have pl:=hO4.lt
  have HFX:=Lib.hid HEX.out
  have HXX:=Lib.hid hX
  clear hO4 ho4 hg4 hf4 hX
  go_upto_region 2 with (fail)
  rw [← HXX.out]
  generalize W1.heap.size=by1 at *
  have y0:=HYX.out.cell 0;have y1:=HYX.out.cell 1;have y2:=HYX.out.cell 2;have y3:=HYX.out.cell 3;have y4:=HYX.out.cell 4;have y5:=HYX.out.cell 5;have y6:=HYX.out.cell 6;have y7:=HYX.out.cell 7;have y8:=HYX.out.cell 8
  go_wp2
  go_end0
  exact ⟨rfl,_,_,_,_,HPT.out.1,(ExtS.of_ext HFX.out).trans HPT.out.2⟩
theorem makeG (q:QryT) (hq:q.Ok) (hk:q.kind≠7) (j:Nat) (hj:j<4) (hqj:q.j=(j:Int)) (rs:List RowT) (hrs:∀ r ∈ rs,r.ok) (hsz:rs.length≤60) (hap:Apart rs) (gs gm:Nat) (pos:Int) (w:World) (hS:StateR w gs gm pos rs) (hR:RoundOK w) :
    Calls Tryz.prog 26 #[.pointer (some ⟨gs,0,none⟩),.agg q.arr] w fun e w'=>∃ v,e=.returned (.tuple #[v,.int .i64 0])∧RPsS (fun _=>True) w' v [proveF rs q.t j q.lo q.hi]∧(∀ A n c,v=.slice A n c→n≤c)∧Below w.heap.size w w':=by
  have hmf:∀ (fn:Fn) (first cap:Array Value) (w:World),(Instr.makeFunc fn first cap).run Tryz.prog w=.ok (.func fn first cap) w:=fun _ _ _ _=>rfl
  have HQV:=Lib.hid (fun W:World=>queryValid_ok q hq W)
  have HOF:=Lib.hid (fun W:World=>proofOf_ok q hq W)
  have HMP:=Lib.hid (fun (bs bo:Nat) (W:World)=>makePut rs hrs hsz hap gs gm pos q.t q.lo q.hi j hq.t hj hq.lh (bo+1) bs bo (.slice none 0 0) [] (by simp) W)
  have HRG:=Lib.hid (fun (W:World) (h:StateR W gs gm pos rs)=>rangeS rs gs gm j pos q.t q.lo q.hi hj W h (by omega) hap)
  have hsl:=Nat.le_trans (selF_length rs q.t j q.lo q.hi) hsz
  generalize proveF rs q.t j q.lo q.hi=p at *
  generalize selF rs q.t j q.lo q.hi=sl at *
  obtain ⟨kd,t,jj,lo,hi,by_,o⟩:=q
  dsimp only [QryT.arr] at *
  subst hqj
  have d7:(kd == 7)=false:=by simpa using hk
  have HE0:=Lib.hid (ext_alloc (ext_new w (.cells #[.pointer (some ⟨gs,0,none⟩)] 63)) (.cells #[.int .i64 kd,.int .i64 t,.int .i64 (j:Int),.int .i64 lo,.int .i64 hi,.int .i64 by_,.int .i64 o] 33))
  have HB0:=Lib.hid ((Blk.new w 63 #[.pointer (some ⟨gs,0,none⟩)]).alloc (.cells #[.int .i64 kd,.int .i64 t,.int .i64 (j:Int),.int .i64 lo,.int .i64 hi,.int .i64 by_,.int .i64 o] 33))
  have HQ0:=Lib.hid (Blk.new' (w.alloc (.cells #[.pointer (some ⟨gs,0,none⟩)] 63)) 33 #[.int .i64 kd,.int .i64 t,.int .i64 (j:Int),.int .i64 lo,.int .i64 hi,.int .i64 by_,.int .i64 o] (b:=w.heap.size+1) (by simp))
  have HS:=Lib.hid hS
  have HR:=Lib.hid hR
  clear hS hR hq hrs hap
  go_enter Tryz.func26,Tryz.ntmps26
  go_wp2_with fail
  refine (HQV.out _).mono ?_
  rintro e W1 ⟨rfl,hb1⟩
  have HE1:=Lib.hid (ext_call HE0.out hb1)
  have HB1:=Lib.hid (HB0.out.ext hb1)
  have HQ1:=Lib.hid (HQ0.out.ext hb1)
  have q0:=HQ1.out.cell 0;have q1:=HQ1.out.cell 1;have q2:=HQ1.out.cell 2;have q3:=HQ1.out.cell 3;have q4:=HQ1.out.cell 4;have q5:=HQ1.out.cell 5;have q6:=HQ1.out.cell 6
  have ql:=HQ1.out.lt
  clear hb1 HE0 HB0 HQ0
  go_wp2_with fail
  refine (HOF.out _).mono ?_
  rintro e W2 ⟨rfl,hb2⟩
  have HE2:=Lib.hid (ext_call (ext_alloc HE1.out (.cells #[.slice none 0 0] 37)) hb2)
  have HB2:=Lib.hid ((HB1.out.alloc (.cells #[.slice none 0 0] 37)).ext hb2)
  have HQ2:=Lib.hid ((HQ1.out.alloc (.cells #[.slice none 0 0] 37)).ext hb2)
  have HO2:=Lib.hid ((Blk.new W1 37 #[.slice none 0 0]).ext hb2)
  have HLo:=Lib.hid (show w.heap.size≤W1.heap.size from HE1.out.size)
  have HBS:=Lib.hid (show W1.heap.size+1≤W2.heap.size from HO2.out.lt)
  clear hb2 ql HE1 HB1 HQ1 q0 q1 q2 q3 q4 q5 q6
  generalize W1.heap.size=bo at *
  have s0:=HB2.out.cell 0
  have bl:=HB2.out.lt
  go_wp2_with fail
  refine (HRG.out _ (HS.out.ext (ext_alloc HE2.out _))).mono ?_
  rintro e W3 ⟨v,rfl,hv,hb3⟩
  obtain ⟨Av,cv,rfl,-⟩:=hv
  have HE3:=Lib.hid (ext_call (ext_alloc HE2.out (.cells #[.int .i64 t,.int .i64 (j:Int),.int .i64 lo,.int .i64 hi] 123)) hb3)
  have HB3:=Lib.hid ((HB2.out.alloc (.cells #[.int .i64 t,.int .i64 (j:Int),.int .i64 lo,.int .i64 hi] 123)).ext hb3)
  have HQ3:=Lib.hid ((HQ2.out.alloc (.cells #[.int .i64 t,.int .i64 (j:Int),.int .i64 lo,.int .i64 hi] 123)).ext hb3)
  have HO3:=Lib.hid ((HO2.out.alloc (.cells #[.int .i64 t,.int .i64 (j:Int),.int .i64 lo,.int .i64 hi] 123)).ext hb3)
  have hC3:=(Blk.new W2 123 #[.int .i64 t,.int .i64 (j:Int),.int .i64 lo,.int .i64 hi]).ext hb3
  have c0:=hC3.cell 0;have c1:=hC3.cell 1;have c2:=hC3.cell 2;have c3:=hC3.cell 3
  have cl:=hC3.lt
  have HZ3:=Lib.hid (show bo+1≤W3.heap.size from by have:=HBS.out;omega)
  have dl:decide ((100:Int)<(sl.length:Int))=false:=decide_eq_false (by omega)
  clear hb3 HE2 HB2 HQ2 HO2 s0 bl hC3
  go_wp2_with fail
  refine (HMP.out w.heap.size bo _ (HS.out.ext HE3.out) (HR.out.below HE3.out) (HB3.out.cell 0) ⟨HO3.out,World.ownsRow_nil _ _ _ _,by simp⟩ (by omega) HZ3.out).mono ?_
  rintro e W4 ⟨rfl,v',a,b,c,hO4,hx4⟩
  have hE4:Below w.heap.size w W4:=ExtS.below HE3.out (fun k hk=>by
    rcases hk with rfl|hk
    · exact HLo.out
    · cases hk) hx4
  have hQ4:Blk W4 (w.heap.size+1) 33 #[.int .i64 kd,.int .i64 t,.int .i64 (j:Int),.int .i64 lo,.int .i64 hi,.int .i64 by_,.int .i64 o]:=HQ3.out.extS hx4 (fun h=>by
    rcases h with h|h
    · exact blk_neG HQ3.out HO3.out (by decide) h
    · cases h)
  have k0:=hQ4.cell 0
  have o0:=hO4.box.cell 0
  have HL:=Lib.hid hO4.list
  have HOW:=Lib.hid hO4.own
  obtain ⟨A9,c9,rfl⟩:=own_shape hO4.own
  have HCP:=Lib.hid (show ∀ A n c9',Value.slice A9 1 c9=.slice A n c9'→n≤c9' from fun A n c9' h=>by
    obtain ⟨g,cap,h1,_,_,h2,_⟩:=own_cells HOW.out (by simp)
    have h1:Value.slice A9 1 c9=.slice (some ⟨g,0,none⟩) 1 cap:=h1
    rw [h1] at h
    injection h with _ h3 h4
    subst h3 h4
    exact h2)
  have HE4:=Lib.hid hE4
  clear hO4 hx4 hE4 hQ4 c0 c1 c2 c3
  go_wp2
  go_ret2
  exact ⟨_,rfl,HL.out.mono (fun _ _ _=>trivial),HCP.out,HE4.out⟩
end Go.Proofs.YtimoapjhepmehaaGreatDoor
