/-
  an answer's parts stay where a block of zeros changes; package cachetierlaw29: answer at a query for a row.
-/
import Derived.Test.YtimoapjhepmehaaGreatDoorP44
import Derived.Test.YtimoapjhepmehaaGreatDoorP45
import Derived.Test.YtimoapjhepmehaaGreatDoorP18
import Derived.Test.YtimoapjhepmehaaGreatDoorP21
import Derived.Deep.RegionHeld3
set_option linter.unusedSimpArgs false
set_option linter.unusedVariables false
namespace Go.Proofs.YtimoapjhepmehaaGreatDoor
open Go.RowKit Go.Shelf
section
variable {S:Nat→Prop} {W V:World} {v:Value} {z:Nat}
theorem zb_bool {i:Nat} {b:Bool} (h:(#[.int .i64 0,.int .i64 0,.int .i64 0,.int .i64 0,.int .i64 0,.int .i64 0,.int .i64 0,.slice none 0 0,.int .i64 0,.bool false,.int .i64 0,.int .i64 0,.int .i64 0,.slice none 0 0,.slice none 0 0]:Array Value)[i]? = some (.bool b)):i=9:=by
  have hlt:=(Array.getElem?_eq_some_iff.1 h).1
  have h15:i<15:=hlt
  rcases i with _|_|_|_|_|_|_|_|_|_|_|_|_|_|_|i <;> first|rfl|omega|(simp at h)
theorem Strs.zeroS {l:List ByteArray} (h:Strs S W v l) (hz:Blk W z 39 #[.int .i64 0,.int .i64 0,.int .i64 0,.int .i64 0,.int .i64 0,.int .i64 0,.int .i64 0,.slice none 0 0,.int .i64 0,.bool false,.int .i64 0,.int .i64 0,.int .i64 0,.slice none 0 0,.slice none 0 0]):Strs (fun b=>b≠z) W v l:=by
  obtain ⟨A,c,rfl,hc,h⟩:=h
  refine ⟨A,c,rfl,hc,fun h0=>?_⟩
  obtain ⟨b,off,e,hS,hcell⟩:=h h0
  exact ⟨b,off,e,str_neB hz (by simp [noStr]) (hcell 0 _ (List.getElem?_eq_getElem h0)),hcell⟩
theorem RowsS.zeroS {l:List RowT} (h:RowsS S W v l) (hk:∀ r ∈ l,r.k≠0) (hz:Blk W z 39 #[.int .i64 0,.int .i64 0,.int .i64 0,.int .i64 0,.int .i64 0,.int .i64 0,.int .i64 0,.slice none 0 0,.int .i64 0,.bool false,.int .i64 0,.int .i64 0,.int .i64 0,.slice none 0 0,.slice none 0 0]):RowsS (fun b=>b≠z) W v l:=by
  obtain ⟨A,c,rfl,h⟩:=h
  refine ⟨A,c,rfl,fun h0=>?_⟩
  obtain ⟨g,h1,h2,_,h3⟩:=h h0
  refine ⟨g,h1,h2,?_,h3⟩
  rintro rfl
  have h4:=h3 0 _ (List.getElem?_eq_getElem h0) 1 (by omega)
  rw [Nat.zero_mul,Nat.zero_add,hz.cell 1] at h4
  simp only [encR,List.getElem?_toArray,List.getElem?_cons_succ,List.getElem?_cons_zero,Option.some.injEq,Value.int.injEq,true_and] at h4
  exact hk _ (List.getElem_mem h0) h4.symm
theorem PathsS.zeroS {ps:List (List ByteArray)} (h:PathsS S W v ps) (hz:Blk W z 39 #[.int .i64 0,.int .i64 0,.int .i64 0,.int .i64 0,.int .i64 0,.int .i64 0,.int .i64 0,.slice none 0 0,.int .i64 0,.bool false,.int .i64 0,.int .i64 0,.int .i64 0,.slice none 0 0,.slice none 0 0]):PathsS (fun b=>b≠z) W v ps:=by
  obtain ⟨A,c,rfl,h⟩:=h
  refine ⟨A,c,rfl,fun h0=>?_⟩
  obtain ⟨g,h1,h2,_,h3⟩:=h h0
  refine ⟨g,h1,h2,?_,fun j p hj=>by obtain ⟨u,h5,h6⟩:=h3 j p hj;exact ⟨u,h5,h6.zeroS hz⟩⟩
  rintro rfl
  obtain ⟨u,h5,A6,c6,h6,_⟩:=h3 0 _ (List.getElem?_eq_getElem h0)
  rw [hz.cell 0,h6] at h5
  simp at h5
theorem RPS.zeroS {p:RPT} {a b d:Value} (h:RPS S W p a b d) (hk:∀ r ∈ p.rows,r.k≠0) (hz:Blk W z 39 #[.int .i64 0,.int .i64 0,.int .i64 0,.int .i64 0,.int .i64 0,.int .i64 0,.int .i64 0,.slice none 0 0,.int .i64 0,.bool false,.int .i64 0,.int .i64 0,.int .i64 0,.slice none 0 0,.slice none 0 0]):RPS (fun b=>b≠z) W p a b d:=⟨h.rows.zeroS hk hz,h.paths.zeroS hz,h.roots.zeroS hz⟩
theorem RPsS.zero {p:RPT} (h:RPsS (fun _=>True) W v [p]) (hk:∀ r ∈ p.rows,r.k≠0) (hz:Blk W z 39 #[.int .i64 0,.int .i64 0,.int .i64 0,.int .i64 0,.int .i64 0,.int .i64 0,.int .i64 0,.slice none 0 0,.int .i64 0,.bool false,.int .i64 0,.int .i64 0,.int .i64 0,.slice none 0 0,.slice none 0 0]) (k:Ext2 z z W V):RPsS (fun _=>True) V v [p]:=by
  obtain ⟨g,c,a,b,d,rfl,hs,hg⟩:=h.one
  obtain ⟨A1,c1,ha,-⟩:=hs.rows
  have h6:=hg 6 (by omega)
  have hgz:g≠z:=by
    rintro rfl
    rw [hz.cell 6,ha] at h6
    simp [RPT.nums] at h6
  have hgl:g<W.heap.size:=by
    have h7:(p.nums a b d)[6]? = some a:=rfl
    rw [h7] at h6
    exact lt_of_cell (p:=⟨g,6,none⟩) h6
  refine ⟨_,c,rfl,fun _=>⟨g,rfl,Nat.lt_of_lt_of_le hgl k.size,trivial,fun i q hi=>?_⟩⟩
  rcases i with _|i
  · obtain rfl:p=q:=by simpa using hi
    refine ⟨a,b,d,((hs.zeroS hk hz).keep (fun b hb hl=>k.block b hl hb hb) k.size).mono (fun _ _ _=>trivial),fun j hj=>?_⟩
    rw [Nat.zero_mul,Nat.zero_add,cell_heap (k.block g hgl hgz hgz)]
    exact hg j hj
  · simp at hi
theorem ChgsAt.zero {l:List ChgT} (h:ChgsAt W v l) (hz:Blk W z 39 #[.int .i64 0,.int .i64 0,.int .i64 0,.int .i64 0,.int .i64 0,.int .i64 0,.int .i64 0,.slice none 0 0,.int .i64 0,.bool false,.int .i64 0,.int .i64 0,.int .i64 0,.slice none 0 0,.slice none 0 0]) (k:Ext2 z z W V):ChgsAt V v l:=by
  obtain ⟨A,c,rfl,hc,h⟩:=h
  refine ⟨A,c,rfl,hc,fun h0=>?_⟩
  obtain ⟨b,off,hA,h1⟩:=h h0
  have hx:=List.getElem?_eq_getElem h0
  have hbz:b≠z:=by
    rintro rfl
    have h2:=h1 0 _ hx 2 (by omega)
    have h6:=h1 0 _ hx 6 (by omega)
    rw [hz.cell] at h2 h6
    have e2:=zb_bool (h2.trans rfl)
    have e6:=zb_bool (h6.trans rfl)
    omega
  refine ⟨b,off,hA,fun j x hj i hi=>?_⟩
  have h3:=h1 j x hj i hi
  have h4:i<x.arr.size:=by simpa [ChgT.arr] using hi
  rw [Array.getElem?_eq_getElem h4] at h3 ⊢
  exact cell_ext2 h3 k hbz hbz
theorem RecsL.zero {f:Nat} {Ls:List (List ChgT)} (h:RecsL W v f Ls) (hz:Blk W z 39 #[.int .i64 0,.int .i64 0,.int .i64 0,.int .i64 0,.int .i64 0,.int .i64 0,.int .i64 0,.slice none 0 0,.int .i64 0,.bool false,.int .i64 0,.int .i64 0,.int .i64 0,.slice none 0 0,.slice none 0 0]) (k:Ext2 z z W V):RecsL V v f Ls:=by
  obtain ⟨A,c,rfl,hc,h⟩:=h
  refine ⟨A,c,rfl,hc,fun h0=>?_⟩
  obtain ⟨b,hA,h1⟩:=h h0
  have hbz:b≠z:=by
    rintro rfl
    obtain ⟨_,u,h2,A2,c2,h3,_⟩:=h1 0 _ (List.getElem?_eq_getElem h0)
    rw [hz.cell,h3] at h2
    simp at h2
  refine ⟨b,hA,fun j l hj=>?_⟩
  obtain ⟨h2,u,h3,h4⟩:=h1 j l hj
  exact ⟨cell_ext2 h2 k hbz hbz,u,cell_ext2 h3 k hbz hbz,h4.zero hz k⟩
end
structure AnsQ (W:World) (rows:List RowT) (p:RPT) (base:Nat) (Ls:List (List ChgT)) (u rv lv:Value):Prop where
  rows:RowsL W u rows
  rps:RPsS (fun _=>True) W rv [p]
  cap:CapV rv
  recs:RecsL W lv (base+1) Ls
theorem AnsQ.ext {W V:World} {rows:List RowT} {p:RPT} {base:Nat} {Ls:List (List ChgT)} {u rv lv:Value} (h:AnsQ W rows p base Ls u rv lv) (k:Below W.heap.size W V):AnsQ V rows p base Ls u rv lv:=⟨h.rows.ext k,h.rps.ext k,h.cap,h.recs.ext k⟩
theorem AnsQ.zero {W V:World} {rows:List RowT} {p:RPT} {base:Nat} {Ls:List (List ChgT)} {u rv lv:Value} {z:Nat} (h:AnsQ W rows p base Ls u rv lv) (h1:∀ r ∈ rows,r.k≠0) (h2:∀ r ∈ p.rows,r.k≠0) (hz:Blk W z 39 #[.int .i64 0,.int .i64 0,.int .i64 0,.int .i64 0,.int .i64 0,.int .i64 0,.int .i64 0,.slice none 0 0,.int .i64 0,.bool false,.int .i64 0,.int .i64 0,.int .i64 0,.slice none 0 0,.slice none 0 0]) (k:Ext2 z z W V):AnsQ V rows p base Ls u rv lv:=
  ⟨h.rows.zero h1 hz rfl k,h.rps.zero h2 hz k,h.cap,h.recs.zero hz k⟩
theorem AnsQ.shape {W:World} {rows:List RowT} {p:RPT} {base:Nat} {Ls:List (List ChgT)} {u rv lv:Value} (h:AnsQ W rows p base Ls u rv lv):∃ A a B b C c,u=.slice A rows.length a∧rv=.slice B 1 b∧lv=.slice C Ls.length c:=by
  obtain ⟨A,a,h1,_⟩:=h.rows
  obtain ⟨B,b,h2,_⟩:=h.rps
  obtain ⟨C,c,h3,_⟩:=h.recs
  exact ⟨A,a,B,b,C,c,h1,h2,h3⟩
def slA2 (A:Option Addr) (c a:Nat):Option Addr:=if c=a then A else A.map (·.add (a*2))
theorem slRec (A:Option Addr) (n c a b:Nat) (h1:a≤b) (h2:b≤c) (w:World):(Instr.slice 29 (.slice A n c) (some (.int .i64 (a:Int))) (some (.int .i64 (b:Int))) none).run Tryz.prog w=.ok (.slice (slA2 A c a) (b-a) (c-a)) w:=by
  have hel:Tryz.prog.elem 29=75:=by kernel_rfl
  have h:=Go.run_slice_lh (P:=Tryz.prog) (w:=w) 29 A n c (by rw [hel];exact Tryz.underlying29) .i64 .i64 (a:Int) (b:Int) (by omega) (by omega) (by omega)
  rw [h,hel]
  obtain ⟨ii,hii,_,hz1,_⟩:=info_parts recg_info
  simp [sizeOf,typeInfo,hii,hz1,Result.andThen,sliced,slA2]
theorem recsCut {W:World} {A:Option Addr} {c:Nat} {Ls:List (List ChgT)} (h:RecsL W (.slice A Ls.length c) 1 Ls) (a b:Nat) (h1:a≤b) (h2:b≤Ls.length):RecsO W (.slice (slA2 A c a) (b-a) (c-a)) (a+1) ((Ls.take b).drop a):=by
  have hlen:((Ls.take b).drop a).length=b-a:=by rw [List.length_drop,List.length_take];omega
  obtain ⟨A',c',e,hc,h⟩:=h
  injection e with e1 _ e3
  subst e1 e3
  refine ⟨_,_,by rw [hlen],fun h0=>?_⟩
  rw [hlen] at h0
  obtain ⟨g,rfl,hg⟩:=h (by omega)
  refine ⟨g,a*2,?_,fun j l hj=>?_⟩
  · unfold slA2
    rw [if_neg (by omega)]
    simp [Addr.add]
    intro h;omega
  · have hl:Ls[a+j]? = some l:=by
      rw [List.getElem?_drop,List.getElem?_take] at hj
      split at hj
      · exact hj
      · cases hj
    obtain ⟨q1,u,q2,q3⟩:=hg (a+j) l hl
    refine ⟨?_,u,?_,q3⟩
    · rw [show a*2+j*2=(a+j)*2 by omega,q1]
      congr 2
      omega
    · rw [show a*2+j*2+1=(a+j)*2+1 by omega,q2]
section
attribute [local go_sem ↓] Go.wp_at_zero Go.wp_at_succ
set_option maxRecDepth 100000 in
set_option maxHeartbeats 8000000 in
theorem answerQ (Ls:List (List ChgT)) (hL16:Ls.length≤16) (hG:RunG Ls) (hC:∀ l ∈ Ls,∀ c ∈ l,ChgG c) (base un:Nat) (hbu:base≤un) (hun:un≤Ls.length) (t k:Int) (hq:QryT.Ok ⟨1,t,0,k,k,0,0⟩) (hk1:1≤k)
    (hch:∀ L ∈ (Ls.take un).drop base,L.length≤8∧∀ c ∈ L,c.ok∧c.turns=true) (hcp:CompP (proveF (stF (Ls.take base)) t 0 k k) 0) (hlen:(rowsP (proveF (stF (Ls.take base)) t 0 k k) 0).length≤100) (hone:OneK t k (rowsP (proveF (stF (Ls.take base)) t 0 k k) 0)) (v:Value) (w:World) (hv:RecsL w v 1 Ls) (hR:RoundOK w) :
    Calls Tryz.prog 9 #[v,.int .i64 (base:Int),.int .i64 (un:Int),.agg #[.int .i64 1,.int .i64 t,.int .i64 0,.int .i64 k,.int .i64 k,.int .i64 0,.int .i64 0]] w fun e w'=>∃ u rv lv,e=.returned (.tuple #[.agg (ansArr t k u 0 false (sinceF t k base ((Ls.take un).drop base) (un-base):Int) (un:Int) (base:Int) rv lv),.bool true])∧AnsQ w' (replF t k (rowsP (proveF (stF (Ls.take base)) t 0 k k) 0) ((Ls.take un).drop base)) (proveF (stF (Ls.take base)) t 0 k k) base ((Ls.take un).drop base) u rv lv∧Below w.heap.size w w':=by
  have hdl:((Ls.take un).drop base).length=un-base:=by rw [List.length_drop,List.length_take];omega
  have hrw:=hG.rows hC base
  have HAT:=Lib.hid (fun (W:World) (h:Below w.heap.size w W)=>atS Ls v base (by omega) (by omega) hG W (hv.ext h))
  have HMK:=Lib.hid (fun (gs gm:Nat) (W:World) (h1:StateR W gs gm (base:Int) (stF (Ls.take base))) (h2:Below w.heap.size w W)=>show Calls Tryz.prog 26 #[.pointer (some ⟨gs,0,none⟩),.agg #[.int .i64 1,.int .i64 t,.int .i64 0,.int .i64 k,.int .i64 k,.int .i64 0,.int .i64 0]] W fun e w'=>∃ v,e=.returned (.tuple #[v,.int .i64 0])∧RPsS (fun _=>True) w' v [proveF (stF (Ls.take base)) t 0 k k]∧(∀ A n c,v=.slice A n c→n≤c)∧Below W.heap.size W w' from makeG ⟨1,t,0,k,k,0,0⟩ hq (by show (1:Int)≠7;decide) 0 (by omega) rfl (stF (Ls.take base)) hrw.2.2.1 (by have:=hrw.2.2.2;omega) hrw.2.1 gs gm (base:Int) W h1 (hR.below h2))
  have HBQ:=Lib.hid (fun (rv lv:Value) (W:World) (h1:RPsS (fun _=>True) W rv [proveF (stF (Ls.take base)) t 0 k k]) (h2:CapV rv) (h3:RecsO W lv (base+1) ((Ls.take un).drop base))=>show Calls Tryz.prog 27 #[.agg #[.int .i64 1,.int .i64 t,.int .i64 0,.int .i64 k,.int .i64 k,.int .i64 0,.int .i64 0,.int .i64 0,.int .i64 (base:Int),rv],lv] W fun e w'=>∃ u rv' lv',e=.returned (.tuple #[.agg (ansArr t k u 0 false (sinceF t k base ((Ls.take un).drop base) (un-base):Int) (un:Int) (base:Int) rv' lv'),.bool true])∧AnsQ w' (replF t k (rowsP (proveF (stF (Ls.take base)) t 0 k k) 0) ((Ls.take un).drop base)) (proveF (stF (Ls.take base)) t 0 k k) base ((Ls.take un).drop base) u rv' lv'∧Below W.heap.size W w' from by
    have h9:=buildQ t k hq hk1 ((Ls.take un).drop base) (by omega) base (by omega) hch _ hcp rfl rfl rfl rfl hlen hone rv lv W h1 h2 h3
    rw [hdl,show ((base:Int)+((un-base:Nat):Int))=(un:Int) by omega] at h9
    exact h9.mono (fun e w' ⟨u,a,b,q1,q2,q3,q4,q5,q6⟩=>⟨u,a,b,q1,⟨q2,q3,q4,q5⟩,q6⟩))
  have HKR:=Lib.hid (show ∀ r ∈ replF t k (rowsP (proveF (stF (Ls.take base)) t 0 k k) 0) ((Ls.take un).drop base),r.k≠0 from fun r hr=>by have:=(hone.repl ((Ls.take un).drop base)).2 r hr;omega)
  have HKP:=Lib.hid (show ∀ r ∈ (proveF (stF (Ls.take base)) t 0 k k).rows,r.k≠0 from fun r hr=>by have:=(hcp.ok r hr).1.2.1;omega)
  obtain ⟨A,c,rfl,hcc,-⟩:=id hv
  have HCUT:=Lib.hid (fun (W:World) (h:Below w.heap.size w W)=>recsCut (hv.ext h) base un hbu hun)
  have hsl:=fun W:World=>slRec A Ls.length c base un hbu (by omega) W
  obtain ⟨ac,hac⟩:∃ ac,ac=slA2 A c base:=⟨_,rfl⟩
  obtain ⟨nl,hnl⟩:∃ nl,nl=un-base:=⟨_,rfl⟩
  obtain ⟨kc,hkc⟩:∃ kc,kc=c-base:=⟨_,rfl⟩
  rw [← hac,← hnl,← hkc] at HCUT
  rw [← hac,← hnl,← hkc] at hsl
  rw [← hnl] at HBQ hdl ⊢
  obtain ⟨Lc,hLc⟩:∃ Lc,Lc=(Ls.take un).drop base:=⟨_,rfl⟩
  rw [← hLc] at HBQ HKR HCUT hdl ⊢
  obtain ⟨sv,hsv⟩:∃ sv:Int,sv=(sinceF t k base Lc nl:Int):=⟨_,rfl⟩
  rw [← hsv] at HBQ ⊢
  obtain ⟨out,hout⟩:∃ out,out=replF t k (rowsP (proveF (stF (Ls.take base)) t 0 k k) 0) Lc:=⟨_,rfl⟩
  rw [← hout] at HBQ HKR ⊢
  obtain ⟨pp,hpp⟩:∃ pp,pp=proveF (stF (Ls.take base)) t 0 k k:=⟨_,rfl⟩
  rw [← hpp] at HBQ HKP HMK ⊢
  obtain ⟨rs,hrs⟩:∃ rs,rs=stF (Ls.take base):=⟨_,rfl⟩
  rw [← hrs] at HAT HMK
  have HDL:=Lib.hid hdl
  obtain ⟨nu,hnu⟩:∃ nu,nu=out.length:=⟨_,rfl⟩
  have HNU:=Lib.hid hnu
  clear hnu
  clear hG hC hbu hun hq hk1 hch hcp hlen hone hv hR hrw hL16 hcc hac hnl hkc hLc hsv hout hpp hrs hdl
  obtain ⟨W0,hW0⟩:∃ W0,W0=(w.alloc (.cells #[.int .i64 1,.int .i64 t,.int .i64 0,.int .i64 k,.int .i64 k,.int .i64 0,.int .i64 0] 33)).alloc (.cells #[.int .i64 0,.int .i64 0,.int .i64 0,.int .i64 0,.int .i64 0,.int .i64 0,.int .i64 0,.slice none 0 0,.int .i64 0,.bool false,.int .i64 0,.int .i64 0,.int .i64 0,.slice none 0 0,.slice none 0 0] 39):=⟨_,rfl⟩
  have HE0:=Lib.hid (show Below w.heap.size w W0 by rw [hW0];exact ext_alloc (ext_new _ _) _)
  have HQ0:=Lib.hid (show Blk W0 w.heap.size 33 #[.int .i64 1,.int .i64 t,.int .i64 0,.int .i64 k,.int .i64 k,.int .i64 0,.int .i64 0] by rw [hW0];exact (Blk.new _ _ _).alloc _)
  have HB0:=Lib.hid (show Blk W0 (w.heap.size+1) 39 #[.int .i64 0,.int .i64 0,.int .i64 0,.int .i64 0,.int .i64 0,.int .i64 0,.int .i64 0,.slice none 0 0,.int .i64 0,.bool false,.int .i64 0,.int .i64 0,.int .i64 0,.slice none 0 0,.slice none 0 0] by rw [hW0];exact Blk.new' _ _ _ (by simp))
  have HW0:=Lib.hid hW0
  clear hW0
  go_enter Tryz.func9,Tryz.ntmps9
  go_wp2_with fail
  rw [← HW0.out]
  refine (HAT.out _ HE0.out).mono ?_
  rintro e W1 ⟨gs,gm,rfl,hs,-,-,hb1⟩
  have HS1:=Lib.hid hs
  have HE1:=Lib.hid (ext_call HE0.out hb1)
  have HQ1:=Lib.hid (HQ0.out.ext hb1)
  have HB1:=Lib.hid (HB0.out.ext hb1)
  obtain ⟨q0,q1,q2,q3,q4,q5,q6⟩:=cells7 HQ1.out
  clear hb1 hs HW0 HE0 HQ0 HB0 HAT
  go_wp2_with fail
  refine (HMK.out gs gm W1 HS1.out HE1.out).mono ?_
  rintro e Y ⟨rv,rfl,hra,hca,hb2⟩
  obtain ⟨Ra,ra,rfl,-⟩:=id hra
  rw [show ([pp]:List RPT).length=1 from rfl] at hra hca ⊢
  have HEy:=Lib.hid (ext_call HE1.out hb2)
  have HQy:=Lib.hid (HQ1.out.ext hb2)
  have HBy:=Lib.hid (HB1.out.ext hb2)
  have HBu:=Lib.hid (fun (W:World) (h:Below Y.heap.size Y W)=>HBQ.out (.slice Ra 1 ra) (.slice ac nl kc) W (hra.ext h) hca (HCUT.out W (ext_call HEy.out h)))
  clear hb2 hra hca q0 q1 q2 q3 q4 q5 q6 HE1 HQ1 HB1 HS1 HMK HBQ HCUT
  have HK:=Lib.hid (q7Keep HQy.out (ext_refl Y))
  go_upto_region 3 with (fail)
  go_region_held3 (fun w'=>w'.cell? ⟨w.heap.size,0,none⟩=some (.int .i64 1)∧w'.cell? ⟨w.heap.size,1,none⟩=some (.int .i64 t)∧w'.cell? ⟨w.heap.size,2,none⟩=some (.int .i64 0)∧w'.cell? ⟨w.heap.size,3,none⟩=some (.int .i64 k)∧w'.cell? ⟨w.heap.size,4,none⟩=some (.int .i64 k)∧w'.cell? ⟨w.heap.size,5,none⟩=some (.int .i64 0)∧w'.cell? ⟨w.heap.size,6,none⟩=some (.int .i64 0)∧Below Y.heap.size Y w')
    (first|with_reducible assumption|exact q7Keep HQy.out (by repeat (first|with_reducible refine ext_alloc ?_ _|with_reducible refine Below.drew ?_|with_reducible assumption|with_reducible exact ext_refl _|refine ext_set ?_ (Nat.le_refl _) _)))
    (first|(go_at_call 27;(with_reducible refine (HBu.out _ ?_).mono ?_);(exact q7B (by assumption));rintro e Z ⟨u5,rv5,lv5,rfl,han,hb'⟩;obtain ⟨Au,cu,Ar,cr,Al,cl,rfl,rfl,rfl⟩:=han.shape;rw [HDL.out,← HNU.out] at han ⊢;have hYZ:=ext_call (q7B (by assumption)) hb';unfold ansArr;try (have hbx:=(show Blk Z Y.heap.size 39 #[.int .i64 0,.int .i64 0,.int .i64 0,.int .i64 0,.int .i64 0,.int .i64 0,.int .i64 0,.slice none 0 0,.int .i64 0,.bool false,.int .i64 0,.int .i64 0,.int .i64 0,.slice none 0 0,.slice none 0 0] from ((Blk.new Y _ _).drew).ext hb');have bx0:=hbx.cell 0;have bf0:=hbx.frozen 0;have bx1:=hbx.cell 1;have bf1:=hbx.frozen 1;have bx2:=hbx.cell 2;have bf2:=hbx.frozen 2;have bx3:=hbx.cell 3;have bf3:=hbx.frozen 3;have bx4:=hbx.cell 4;have bf4:=hbx.frozen 4;have bx5:=hbx.cell 5;have bf5:=hbx.frozen 5;have bx6:=hbx.cell 6;have bf6:=hbx.frozen 6;have bx7:=hbx.cell 7;have bf7:=hbx.frozen 7;have bx8:=hbx.cell 8;have bf8:=hbx.frozen 8;have bx9:=hbx.cell 9;have bf9:=hbx.frozen 9;have bx10:=hbx.cell 10;have bf10:=hbx.frozen 10;have bx11:=hbx.cell 11;have bf11:=hbx.frozen 11;have bx12:=hbx.cell 12;have bf12:=hbx.frozen 12;have bx13:=hbx.cell 13;have bf13:=hbx.frozen 13;have bx14:=hbx.cell 14;have bf14:=hbx.frozen 14;have HBX:=Lib.hid hbx;clear hbx)))
  all_goals
    first
    | (generalize hV:(World.setCell (World.setCell (World.setCell (World.setCell (World.setCell (World.setCell (World.setCell (World.setCell (World.setCell (World.setCell (World.setCell (World.setCell (World.setCell (World.setCell (World.setCell (Z) ⟨Y.heap.size,0,none⟩ (.int .i64 1)) ⟨Y.heap.size,1,none⟩ (.int .i64 t)) ⟨Y.heap.size,2,none⟩ (.int .i64 0)) ⟨Y.heap.size,3,none⟩ (.int .i64 k)) ⟨Y.heap.size,4,none⟩ (.int .i64 k)) ⟨Y.heap.size,5,none⟩ (.int .i64 0)) ⟨Y.heap.size,6,none⟩ (.int .i64 0)) ⟨Y.heap.size,7,none⟩ (.slice Au nu cu)) ⟨Y.heap.size,8,none⟩ (.int .i64 0)) ⟨Y.heap.size,9,none⟩ (.bool false)) ⟨Y.heap.size,10,none⟩ (.int .i64 sv)) ⟨Y.heap.size,11,none⟩ (.int .i64 (un:Int))) ⟨Y.heap.size,12,none⟩ (.int .i64 (base:Int))) ⟨Y.heap.size,13,none⟩ (.slice Ar 1 cr)) ⟨Y.heap.size,14,none⟩ (.slice Al nl cl))=V
       have HPv:=Lib.hid (show Blk V Y.heap.size 39 #[.int .i64 1,.int .i64 t,.int .i64 0,.int .i64 k,.int .i64 k,.int .i64 0,.int .i64 0,.slice Au nu cu,.int .i64 0,.bool false,.int .i64 sv,.int .i64 (un:Int),.int .i64 (base:Int),.slice Ar 1 cr,.slice Al nl cl] by subst hV;exact blk_set15 HBX.out)
       have HEv:=Lib.hid (show Below Y.heap.size Y V by subst hV;exact ext_set15 hYZ (Nat.le_refl _))
       have HAv:=Lib.hid (show AnsQ V out pp base Lc (.slice Au nu cu) (.slice Ar 1 cr) (.slice Al nl cl) by subst hV;exact han.zero HKR.out HKP.out HBX.out (ext2_set15 _ _ _ _ _ _ _ _ _ _ _ _ _ _ _ _ _))
       clear bx0 bf0 bx1 bf1 bx2 bf2 bx3 bf3 bx4 bf4 bx5 bf5 bx6 bf6 bx7 bf7 bx8 bf8 bx9 bf9 bx10 bf10 bx11 bf11 bx12 bf12 bx13 bf13 bx14 bf14
       clear hV HBX hYZ han hb'
       generalize hbq:Y.heap.size=bq at HPv ⊢
       clear hbq)
    | (generalize hV:World.alloc Z (.cells #[.int .i64 1,.int .i64 t,.int .i64 0,.int .i64 k,.int .i64 k,.int .i64 0,.int .i64 0,.slice Au nu cu,.int .i64 0,.bool false,.int .i64 sv,.int .i64 (un:Int),.int .i64 (base:Int),.slice Ar 1 cr,.slice Al nl cl] 39)=V
       have HPv:=Lib.hid (show Blk V Z.heap.size 39 #[.int .i64 1,.int .i64 t,.int .i64 0,.int .i64 k,.int .i64 k,.int .i64 0,.int .i64 0,.slice Au nu cu,.int .i64 0,.bool false,.int .i64 sv,.int .i64 (un:Int),.int .i64 (base:Int),.slice Ar 1 cr,.slice Al nl cl] by subst hV;exact Blk.new _ _ _)
       have HEv:=Lib.hid (show Below Y.heap.size Y V by subst hV;exact ext_alloc hYZ _)
       have HAv:=Lib.hid (show AnsQ V out pp base Lc (.slice Au nu cu) (.slice Ar 1 cr) (.slice Al nl cl) by subst hV;exact han.ext (ext_new _ _))
       clear hV hYZ han hb'
       generalize hbq:Z.heap.size=bq at HPv ⊢
       clear hbq)
  all_goals
    have HRv:=Lib.hid (HBy.out.ext HEv.out)
    have HEw:=Lib.hid (ext_call HEy.out HEv.out)
    have HI:=Lib.hid ans_size
    have H1:=Lib.hid (show (#[.int .i64 1,.int .i64 t,.int .i64 0,.int .i64 k,.int .i64 k,.int .i64 0,.int .i64 0,.slice Au nu cu,.int .i64 0,.bool false,.int .i64 sv,.int .i64 (un:Int),.int .i64 (base:Int),.slice Ar 1 cr,.slice Al nl cl]:Array Value).all (·.oneCell')=true by simp [Value.oneCell'])
    clear HBy HEy HQy HEv HK HBu
    go_upto_region 4 with (fail)
    go_wp2_with (first
      | (refine wpList_load_row rfl 39 (.tmp 14) rfl bq rfl 39 #[.int .i64 1,.int .i64 t,.int .i64 0,.int .i64 k,.int .i64 k,.int .i64 0,.int .i64 0,.slice Au nu cu,.int .i64 0,.bool false,.int .i64 sv,.int .i64 (un:Int),.int .i64 (base:Int),.slice Ar 1 cr,.slice Al nl cl] (0,0) _ HPv.out Tryz.underlying39 rfl HI.out ?_)
      | (refine wpList_store_blk rfl 39 (.tmp 8) (.tmp 40) rfl (w.heap.size+1) #[.int .i64 1,.int .i64 t,.int .i64 0,.int .i64 k,.int .i64 k,.int .i64 0,.int .i64 0,.slice Au nu cu,.int .i64 0,.bool false,.int .i64 sv,.int .i64 (un:Int),.int .i64 (base:Int),.slice Ar 1 cr,.slice Al nl cl] rfl rfl 39 #[.int .i64 0,.int .i64 0,.int .i64 0,.int .i64 0,.int .i64 0,.int .i64 0,.int .i64 0,.slice none 0 0,.int .i64 0,.bool false,.int .i64 0,.int .i64 0,.int .i64 0,.slice none 0 0,.slice none 0 0] HRv.out HI.out rfl H1.out ?_;intro X hbx hgx))
    have hX:=Ext2.of_grown hgx
    obtain ⟨y0,y1,y2,y3,y4,y5,y6,y7,y8,y9,y10,y11,y12,y13,y14⟩:=cells15 hbx
    refine bodyPost_ret (v:=.tuple #[.agg #[.int .i64 1,.int .i64 t,.int .i64 0,.int .i64 k,.int .i64 k,.int .i64 0,.int .i64 0,.slice Au nu cu,.int .i64 0,.bool false,.int .i64 sv,.int .i64 (un:Int),.int .i64 (base:Int),.slice Ar 1 cr,.slice Al nl cl],.bool true]) (by simp [results,Tryz.results9,go_sem,y0,y1,y2,y3,y4,y5,y6,y7,y8,y9,y10,y11,y12,y13,y14]) rfl ⟨_,_,_,rfl,?_,?_⟩
    · exact HAv.out.zero HKR.out HKP.out HRv.out hX
    · exact Ext2.below HEw.out (by omega) (by omega) hX
end
end Go.Proofs.YtimoapjhepmehaaGreatDoor
