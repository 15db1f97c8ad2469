/-
  package proof: Build at a query for a row.
-/
import Derived.Test.YtimoapjhepmehaaGreatDoorP41
import Derived.Test.YtimoapjhepmehaaGreatDoorP42
import Derived.Deep.RegionHeld3
import Derived.Deep.Cut
set_option linter.unusedSimpArgs false
set_option linter.unusedVariables false
namespace Go.Proofs.YtimoapjhepmehaaGreatDoor
open Go.RowKit Go.Shelf
attribute [local go_sem ↓] Go.wp_at_zero Go.wp_at_succ
theorem own_ext2U {W V:World} {B g sz n:Nat} {t e:TypeId} {cs:Array Value} {v:Value} {xs:List Value} (h:W.ownsRow B e sz v n xs) (hb:Blk W g t cs) (ht:t≠e) (k:Ext2 g g W V):V.ownsRow B e sz v n xs:=by
  refine h.kept (row:=some g) ⟨k.os,k.tape,k.output,k.size,fun i hi hn=>k.block i hi (fun e=>hn (by rw [e])) (fun e=>hn (by rw [e]))⟩ ?_
  rcases h.2 with ⟨rfl,_⟩|⟨g',cap,cur,rfl,_,hgg,_⟩
  · exact .inl rfl
  · refine .inr fun e1=>?_
    have e2:g'=g:=by simpa [Value.ownBlock] using e1
    subst e2
    unfold Blk at hb
    rw [hgg] at hb
    injection hb with hb
    injection hb with _ hb _
    exact ht hb.symm
theorem RowsL.far1 {W:World} {v:Value} {l:List RowT} (h:RowsL W v l) (hl:l.length≤1) {b i:Nat} (hi:5≤i) (u:Value):RowsL (W.setCell ⟨b,i,none⟩ u) v l:=by
  obtain ⟨A,c,rfl,h⟩:=h
  refine ⟨A,c,rfl,fun h0=>?_⟩
  obtain ⟨g,h1,h2,h3⟩:=h h0
  refine ⟨g,h1,by simpa [World.setCell] using h2,fun j r hj k hk=>?_⟩
  have hj0:j=0:=by have:=(List.getElem?_eq_some_iff.1 hj).1;omega
  subst hj0
  rw [World.cell?_setCell_other _ _ _ _ (by simp <;> omega)]
  exact h3 0 r hj k hk
theorem RowsL.zero {W V:World} {v:Value} {l:List RowT} (h:RowsL W v l) (hk:∀ r ∈ l,r.k≠0) {z:Nat} {t:TypeId} {cs:Array Value} (hz:Blk W z t cs) (hc:cs[1]? = some (.int .i64 0)) (k:Ext2 z z W V):RowsL V v l:=by
  obtain ⟨A,c,rfl,h⟩:=h
  refine ⟨A,c,rfl,fun h0=>?_⟩
  obtain ⟨g,h1,h2,h3⟩:=h h0
  have hne:g≠z:=by
    rintro rfl
    have h4:=h3 0 _ (List.getElem?_eq_getElem h0) 1 (by omega)
    rw [Nat.zero_mul,Nat.zero_add,hz.cell 1,hc] at h4
    simp only [encR,List.getElem?_cons_succ,List.getElem?_cons_zero,Option.some.injEq,Value.int.injEq,true_and] at h4
    exact hk _ (List.getElem_mem h0) h4.symm
  exact ⟨g,h1,Nat.lt_of_lt_of_le h2 k.size,h3.heap (k.block g h2 hne hne)⟩
theorem cellsFrom_ext {w W:World} {b off n:Nat} (hf:Full w b off n) (h:Below w.heap.size w W):cellsFrom W b off n=cellsFrom w b off n:=by
  apply List.ext_getElem?
  intro i
  by_cases hi:i<n
  · rw [cellsFrom_at hi,cellsFrom_at hi]
    obtain ⟨x,hx,_⟩:=hf i hi
    rw [hx,cell_ext hx h]
  · rw [List.getElem?_eq_none (by rw [cellsFrom_length];omega),List.getElem?_eq_none (by rw [cellsFrom_length];omega)]
set_option maxRecDepth 100000 in
set_option maxHeartbeats 8000000 in
theorem buildQ (t k:Int) (hq:QryT.Ok ⟨1,t,0,k,k,0,0⟩) (hk1:1≤k) (Ls:List (List ChgT)) (hLs:Ls.length≤64) (base:Nat) (hbase:base≤1000) (hG:∀ L ∈ Ls,L.length≤8∧∀ c ∈ L,c.ok∧c.turns=true) (p:RPT) (hp:CompP p 0) (hpt:p.t=t) (hpj:p.j=0) (hpl:p.lo=k) (hph:p.hi=k) (hlen:(rowsP p 0).length≤100) (hone:OneK t k (rowsP p 0)) (rv lv:Value) (w:World) (hrv:RPsS (fun _=>True) w rv [p]) (hcap:CapV rv) (hlv:RecsO w lv (base+1) Ls) :
    Calls Tryz.prog 27 #[.agg #[.int .i64 1,.int .i64 t,.int .i64 0,.int .i64 k,.int .i64 k,.int .i64 0,.int .i64 0,.int .i64 0,.int .i64 (base:Int),rv],lv] w fun e w'=>∃ u rv' lv',e=.returned (.tuple #[.agg (ansArr t k u 0 false (sinceF t k base Ls Ls.length:Int) ((base:Int)+(Ls.length:Int)) (base:Int) rv' lv'),.bool true])∧RowsL w' u (replF t k (rowsP p 0) Ls)∧RPsS (fun _=>True) w' rv' [p]∧CapV rv'∧RecsL w' lv' (base+1) Ls∧Below w.heap.size w w':=by
  have HST:=Lib.hid (fun (W:World) (h:RPsS (fun _=>True) W rv [p])=>startG ⟨1,t,0,k,k,0,0⟩ hq (by show (1:Int)≠7;decide) p 0 hp hpt hpj hpl hph hlen ⟨rowsP p 0,0,false⟩ (fromRows _ hq (.inl rfl) _ (by omega)) rv W h hcap)
  have HRP:=Lib.hid (fun (u v:Value) (W:World) (h1:RowsL W u (rowsP p 0)) (h2:RecsO W v (base+1) Ls)=>replayQ t k hq Ls (by omega) base hbase hG (rowsP p 0) hone u v 0 false W h1 h2)
  have HON:=Lib.hid (hone.repl Ls)
  obtain ⟨out,hout⟩:∃ out,out=replF t k (rowsP p 0) Ls:=⟨_,rfl⟩
  obtain ⟨sv,hsv⟩:∃ sv:Int,sv=(sinceF t k base Ls Ls.length:Int):=⟨_,rfl⟩
  obtain ⟨rows,hrows⟩:∃ rows,rows=rowsP p 0:=⟨_,rfl⟩
  rw [← hrows] at HST
  rw [← hout,← hsv,← hrows] at HRP
  rw [← hout] at HON
  rw [← hout,← hsv]
  have HRV:=Lib.hid hrv
  have HLV:=Lib.hid (fun (W:World) (h:Below w.heap.size w W)=>hlv.ext h)
  obtain ⟨g,c,a,b,d,rfl,hs,hg⟩:=hrv.one
  have hg9:∀ k,k<9→∃ x,w.cell? ⟨g,k,none⟩=some x∧(p.nums a b d)[k]? = some x:=fun k hk=>by
    have h1:=hg k hk
    have h2:k<(p.nums a b d).size:=by unfold RPT.nums;simp;omega
    rw [Array.getElem?_eq_getElem h2] at h1
    exact ⟨_,h1,Array.getElem?_eq_getElem h2⟩
  have HCP:=Lib.hid (fun (W:World) (h:Below w.heap.size w W)=>(cloneRPsO p g c a b d W (hs.ext h) (fun k hk=>by obtain ⟨x,h1,h2⟩:=hg9 k hk;rw [h2];exact cell_ext h1 h)).mono (fun e w' ⟨u,h1,h2,h3⟩=>show ∃ A m u,e=Ending.returned u∧u=Value.slice A 1 m∧(∃ B,w'.ownsRow B 126 9 u 1 (p.nums a b d).toList)∧Below W.heap.size W w' from by
    obtain ⟨A,m,e1⟩:=own_shape h2
    exact ⟨A,m,u,h1,e1,⟨_,h2⟩,h3⟩))
  have HSX:=Lib.hid (fun (V:World) (B:Nat) (u:Value) (h:Below w.heap.size w V) (h2:V.ownsRow B 126 9 u 1 (p.nums a b d).toList)=>rps_own h2 (hs.ext h))
  obtain ⟨A',c',rfl,-⟩:=id hlv
  have HCR:=Lib.hid (fun (W:World) (h:Below w.heap.size w W)=>(cloneRecsO Ls (base+1) (.slice A' Ls.length c') (by omega) W (hlv.ext h)).mono (fun e w' ⟨u,xs,h1,h2,h3,h4⟩=>show ∃ A m xs u,e=Ending.returned u∧u=Value.slice A Ls.length m∧(∃ B,w'.ownsRow B 75 2 u Ls.length xs)∧(∀ (V:World) (B:Nat),V.ownsRow B 75 2 u Ls.length xs→Below w.heap.size w V→RecsL V u (base+1) Ls)∧Below W.heap.size W w' from by
    obtain ⟨A,m,e1⟩:=own_shape h2
    refine ⟨A,m,xs,u,h1,e1,⟨_,h2⟩,fun V B hV hE=>?_,h4⟩
    by_cases h0:0<Ls.length
    · refine recsL_own (B:=B) hlv hE h0 (fun b off c e=>?_)
      obtain ⟨g2,o2,c2,e2,hf⟩:=hlv.full h0
      rw [e] at e2
      injection e2 with e2 _ _
      injection e2 with e2
      injection e2 with e3 e4
      subst e3 e4
      rw [h3 h0 b off c e,cellsFrom_ext hf h] at hV
      exact hV
    · have hnil:Ls=[]:=List.length_eq_zero_iff.1 (by omega)
      subst hnil
      subst e1
      exact ⟨A,m,rfl,Nat.zero_le _,fun h=>absurd h (by simp)⟩))
  obtain ⟨n,hn⟩:∃ n,n=Ls.length:=⟨_,rfl⟩
  have hn64:n≤64:=by omega
  obtain ⟨un,hun⟩:∃ un:Int,un=(base:Int)+(n:Int):=⟨_,rfl⟩
  rw [← hn] at HCR HLV ⊢
  rw [← hun]
  have hwu:IntKind.i64.wrap ((base:Int)+(n:Int))=un:=by rw [IntWalk.i64_in _ (by omega),hun]
  have dn:decide ((64:Int)<(n:Int))=false:=decide_eq_false (by omega)
  have HN:=Lib.hid hn
  clear hq hG hp hpt hpj hpl hph hlen hone hrv hcap hlv hs hg hg9 hout hsv hrows hn hun
  obtain ⟨W0,hW0⟩:∃ W0,W0=(w.alloc (.cells #[.int .i64 1,.int .i64 t,.int .i64 0,.int .i64 k,.int .i64 k,.int .i64 0,.int .i64 0,.int .i64 0,.int .i64 (base:Int),.slice (some ⟨g,0,none⟩) 1 c] 87)).alloc (.cells #[.int .i64 0,.int .i64 0,.int .i64 0,.int .i64 0,.int .i64 0,.int .i64 0,.int .i64 0,.slice none 0 0,.int .i64 0,.bool false,.int .i64 0,.int .i64 0,.int .i64 0,.slice none 0 0,.slice none 0 0] 39):=⟨_,rfl⟩
  have hE0:Below w.heap.size w W0:=by rw [hW0];exact ext_alloc (ext_new _ _) _
  have HB0:=Lib.hid (show Blk W0 w.heap.size 87 #[.int .i64 1,.int .i64 t,.int .i64 0,.int .i64 k,.int .i64 k,.int .i64 0,.int .i64 0,.int .i64 0,.int .i64 (base:Int),.slice (some ⟨g,0,none⟩) 1 c] by rw [hW0];exact (Blk.new _ _ _).alloc _)
  have HR0:=Lib.hid (show Blk W0 (w.heap.size+1) 39 #[.int .i64 0,.int .i64 0,.int .i64 0,.int .i64 0,.int .i64 0,.int .i64 0,.int .i64 0,.slice none 0 0,.int .i64 0,.bool false,.int .i64 0,.int .i64 0,.int .i64 0,.slice none 0 0,.slice none 0 0] by rw [hW0];exact Blk.new' _ _ _ (by simp))
  have HE0:=Lib.hid hE0
  have HW0:=Lib.hid hW0
  have HV0:=Lib.hid (show RPsS (fun _=>True) W0 (.slice (some ⟨g,0,none⟩) 1 c) [p] from HRV.out.ext hE0)
  clear hW0 hE0 HRV
  go_enter Tryz.func27,Tryz.ntmps27
  go_wp2_with fail
  rw [← HW0.out]
  refine (HST.out _ HV0.out).mono ?_
  rintro e W1 ⟨u1,rfl,hu1,hb1⟩
  obtain ⟨A1,c1,rfl,-⟩:=id hu1
  have HVy:=Lib.hid (hu1.ext (ext_new W1 (.cells #[.slice A1 rows.length c1,.int .i64 0,.bool false] 36)))
  have HE1:=Lib.hid (ext_call HE0.out hb1)
  have HB1:=Lib.hid (HB0.out.ext hb1)
  have HR1:=Lib.hid (HR0.out.ext hb1)
  clear hb1 hu1 HW0 HE0 HB0 HR0 HV0 HST
  go_wp2_with fail
  have HEy:=Lib.hid (ext_alloc HE1.out (.cells #[.slice A1 rows.length c1,.int .i64 0,.bool false] 36))
  have HBy:=Lib.hid (HB1.out.alloc (.cells #[.slice A1 rows.length c1,.int .i64 0,.bool false] 36))
  have HRy:=Lib.hid (HR1.out.alloc (.cells #[.slice A1 rows.length c1,.int .i64 0,.bool false] 36))
  have HSy:=Lib.hid (Blk.new W1 36 #[.slice A1 rows.length c1,.int .i64 0,.bool false])
  clear HE1 HB1 HR1
  generalize World.alloc W1 (.cells #[.slice A1 rows.length c1,.int .i64 0,.bool false] 36)=Y at *
  generalize W1.heap.size=bs at *
  obtain ⟨e0,e1,e2,e3,e4,e5,e6,e7,e8,e9⟩:=cells10t HBy.out
  have HCP:=Lib.hid (fun (W:World) (h:Below Y.heap.size Y W)=>HCP.out W (ext_call HEy.out h))
  have HCR:=Lib.hid (fun (W:World) (h:Below Y.heap.size Y W)=>HCR.out W (ext_call HEy.out h))
  go_region_held3 (fun w'=>w'.cell? ⟨w.heap.size,0,none⟩=some (.int .i64 1)∧w'.cell? ⟨w.heap.size,1,none⟩=some (.int .i64 t)∧w'.cell? ⟨w.heap.size,2,none⟩=some (.int .i64 0)∧w'.cell? ⟨w.heap.size,3,none⟩=some (.int .i64 k)∧w'.cell? ⟨w.heap.size,4,none⟩=some (.int .i64 k)∧w'.cell? ⟨w.heap.size,5,none⟩=some (.int .i64 0)∧w'.cell? ⟨w.heap.size,6,none⟩=some (.int .i64 0)∧w'.cell? ⟨w.heap.size,8,none⟩=some (.int .i64 (base:Int))∧w'.cell? ⟨w.heap.size,9,none⟩=some (.slice (some ⟨g,0,none⟩) 1 c)∧Below Y.heap.size Y w')
    (first|with_reducible assumption|exact entKeep HBy.out (by repeat (first|with_reducible refine ext_alloc ?_ _|with_reducible refine Below.drew ?_|with_reducible assumption|with_reducible exact ext_refl _|refine ext_set ?_ (by first|exact Nat.le_refl _|exact hyz) _)))
    (first
      | (go_at_call 54;(with_reducible refine (HCP.out _ ?_).mono ?_);(exact entB (by assumption));rintro e Z ⟨Ar,cr,ur,rfl,rfl,⟨B1,hg'⟩,hb'⟩;have hYZ:=ext_call (entB (by assumption)) hb';have hyz:=hYZ.size;try (have hbz:=(show Blk Z Y.heap.size 39 #[.int .i64 0,.int .i64 0,.int .i64 0,.int .i64 0,.int .i64 0,.int .i64 0,.int .i64 0,.slice none 0 0,.int .i64 0,.bool false,.int .i64 0,.int .i64 0,.int .i64 0,.slice none 0 0,.slice none 0 0] from ((Blk.new Y _ _).drew).ext hb')))
      | (go_at_call 55;(with_reducible refine (HCR.out _ ?_).mono ?_);(exact entB (by assumption));rintro e Z2 ⟨Al,cl,xs,ul,rfl,rfl,⟨B2,hl2⟩,hxs,hb2⟩;have hYZ2:=ext_call (entB (by assumption)) hb2;(first|(have hg2:=own_ext hg' hb2)|(have hg2:=own_ext (own_ext hg' (ext_new _ _)) hb2));(first|(have hbx:=(show Blk Z2 Y.heap.size 39 #[.int .i64 0,.int .i64 0,.int .i64 0,.int .i64 0,.int .i64 0,.int .i64 0,.int .i64 0,.slice none 0 0,.int .i64 0,.bool false,.int .i64 0,.int .i64 0,.int .i64 0,.slice none 0 0,.slice none 0 0] from hbz.ext hb2);have bx0:=hbx.cell 0;have bf0:=hbx.frozen 0;have bx1:=hbx.cell 1;have bf1:=hbx.frozen 1;have bx2:=hbx.cell 2;have bf2:=hbx.frozen 2;have bx3:=hbx.cell 3;have bf3:=hbx.frozen 3;have bx4:=hbx.cell 4;have bf4:=hbx.frozen 4;have bx5:=hbx.cell 5;have bf5:=hbx.frozen 5;have bx6:=hbx.cell 6;have bf6:=hbx.frozen 6;have bx7:=hbx.cell 7;have bf7:=hbx.frozen 7;have bx8:=hbx.cell 8;have bf8:=hbx.frozen 8;have bx9:=hbx.cell 9;have bf9:=hbx.frozen 9;have bx10:=hbx.cell 10;have bf10:=hbx.frozen 10;have bx11:=hbx.cell 11;have bf11:=hbx.frozen 11;have bx12:=hbx.cell 12;have bf12:=hbx.frozen 12;have bx13:=hbx.cell 13;have bf13:=hbx.frozen 13;have bx14:=hbx.cell 14;have bf14:=hbx.frozen 14;have HBX:=Lib.hid hbx;clear hbx)|(have hbx:=(show Blk Z2 Z.heap.size 39 #[.int .i64 0,.int .i64 0,.int .i64 0,.int .i64 0,.int .i64 0,.int .i64 0,.int .i64 0,.slice none 0 0,.int .i64 0,.bool false,.int .i64 0,.int .i64 0,.int .i64 0,.slice none 0 0,.slice none 0 0] from (Blk.new Z _ _).ext hb2);have bx0:=hbx.cell 0;have bf0:=hbx.frozen 0;have bx1:=hbx.cell 1;have bf1:=hbx.frozen 1;have bx2:=hbx.cell 2;have bf2:=hbx.frozen 2;have bx3:=hbx.cell 3;have bf3:=hbx.frozen 3;have bx4:=hbx.cell 4;have bf4:=hbx.frozen 4;have bx5:=hbx.cell 5;have bf5:=hbx.frozen 5;have bx6:=hbx.cell 6;have bf6:=hbx.frozen 6;have bx7:=hbx.cell 7;have bf7:=hbx.frozen 7;have bx8:=hbx.cell 8;have bf8:=hbx.frozen 8;have bx9:=hbx.cell 9;have bf9:=hbx.frozen 9;have bx10:=hbx.cell 10;have bf10:=hbx.frozen 10;have bx11:=hbx.cell 11;have bf11:=hbx.frozen 11;have bx12:=hbx.cell 12;have bf12:=hbx.frozen 12;have bx13:=hbx.cell 13;have bf13:=hbx.frozen 13;have bx14:=hbx.cell 14;have bf14:=hbx.frozen 14;have HBX:=Lib.hid hbx;clear hbx)|skip)))
  all_goals
    first
    | (generalize hV:(World.setCell (World.setCell (World.setCell (World.setCell (World.setCell (World.setCell (World.setCell (World.setCell (World.setCell (World.setCell (World.setCell (World.setCell (World.setCell (World.setCell (World.setCell (Z2) ⟨Y.heap.size,0,none⟩ (.int .i64 1)) ⟨Y.heap.size,1,none⟩ (.int .i64 t)) ⟨Y.heap.size,2,none⟩ (.int .i64 0)) ⟨Y.heap.size,3,none⟩ (.int .i64 k)) ⟨Y.heap.size,4,none⟩ (.int .i64 k)) ⟨Y.heap.size,5,none⟩ (.int .i64 0)) ⟨Y.heap.size,6,none⟩ (.int .i64 0)) ⟨Y.heap.size,7,none⟩ (.slice none 0 0)) ⟨Y.heap.size,8,none⟩ (.int .i64 0)) ⟨Y.heap.size,9,none⟩ (.bool false)) ⟨Y.heap.size,10,none⟩ (.int .i64 0)) ⟨Y.heap.size,11,none⟩ (.int .i64 un)) ⟨Y.heap.size,12,none⟩ (.int .i64 (base:Int))) ⟨Y.heap.size,13,none⟩ (.slice Ar 1 cr)) ⟨Y.heap.size,14,none⟩ (.slice Al n cl))=V
       have HPv:=Lib.hid (show Blk V Y.heap.size 39 #[.int .i64 1,.int .i64 t,.int .i64 0,.int .i64 k,.int .i64 k,.int .i64 0,.int .i64 0,.slice none 0 0,.int .i64 0,.bool false,.int .i64 0,.int .i64 un,.int .i64 (base:Int),.slice Ar 1 cr,.slice Al n cl] by subst hV;exact blk_set15 HBX.out)
       have HEv:=Lib.hid (show Below Y.heap.size Y V by subst hV;exact ext_set15 hYZ2 (Nat.le_refl _))
       have HGv:=Lib.hid (show V.ownsRow B1 126 9 (.slice Ar 1 cr) 1 (p.nums a b d).toList∧V.ownsRow B2 75 2 (.slice Al n cl) n xs by subst hV;exact ⟨own_ext2U hg2 HBX.out (by decide) (ext2_set15 _ _ _ _ _ _ _ _ _ _ _ _ _ _ _ _ _),own_ext2U hl2 HBX.out (by decide) (ext2_set15 _ _ _ _ _ _ _ _ _ _ _ _ _ _ _ _ _)⟩)
       clear bx0 bf0 bx1 bf1 bx2 bf2 bx3 bf3 bx4 bf4 bx5 bf5 bx6 bf6 bx7 bf7 bx8 bf8 bx9 bf9 bx10 bf10 bx11 bf11 bx12 bf12 bx13 bf13 bx14 bf14
       clear hV HBX hYZ2 hg2 hl2 hb2 hYZ hyz hg' hb' hbz
       generalize hbq:Y.heap.size=bq at HPv ⊢
       have HLq:=Lib.hid (show Y.heap.size≤bq by omega)
       clear hbq)
    | (generalize hV:(World.setCell (World.setCell (World.setCell (World.setCell (World.setCell (World.setCell (World.setCell (World.setCell (World.setCell (World.setCell (World.setCell (World.setCell (World.setCell (World.setCell (World.setCell (Z2) ⟨Z.heap.size,0,none⟩ (.int .i64 1)) ⟨Z.heap.size,1,none⟩ (.int .i64 t)) ⟨Z.heap.size,2,none⟩ (.int .i64 0)) ⟨Z.heap.size,3,none⟩ (.int .i64 k)) ⟨Z.heap.size,4,none⟩ (.int .i64 k)) ⟨Z.heap.size,5,none⟩ (.int .i64 0)) ⟨Z.heap.size,6,none⟩ (.int .i64 0)) ⟨Z.heap.size,7,none⟩ (.slice none 0 0)) ⟨Z.heap.size,8,none⟩ (.int .i64 0)) ⟨Z.heap.size,9,none⟩ (.bool false)) ⟨Z.heap.size,10,none⟩ (.int .i64 0)) ⟨Z.heap.size,11,none⟩ (.int .i64 un)) ⟨Z.heap.size,12,none⟩ (.int .i64 (base:Int))) ⟨Z.heap.size,13,none⟩ (.slice Ar 1 cr)) ⟨Z.heap.size,14,none⟩ (.slice Al n cl))=V
       have HPv:=Lib.hid (show Blk V Z.heap.size 39 #[.int .i64 1,.int .i64 t,.int .i64 0,.int .i64 k,.int .i64 k,.int .i64 0,.int .i64 0,.slice none 0 0,.int .i64 0,.bool false,.int .i64 0,.int .i64 un,.int .i64 (base:Int),.slice Ar 1 cr,.slice Al n cl] by subst hV;exact blk_set15 HBX.out)
       have HEv:=Lib.hid (show Below Y.heap.size Y V by subst hV;exact ext_set15 hYZ2 hyz)
       have HGv:=Lib.hid (show V.ownsRow B1 126 9 (.slice Ar 1 cr) 1 (p.nums a b d).toList∧V.ownsRow B2 75 2 (.slice Al n cl) n xs by subst hV;exact ⟨own_ext2U hg2 HBX.out (by decide) (ext2_set15 _ _ _ _ _ _ _ _ _ _ _ _ _ _ _ _ _),own_ext2U hl2 HBX.out (by decide) (ext2_set15 _ _ _ _ _ _ _ _ _ _ _ _ _ _ _ _ _)⟩)
       clear bx0 bf0 bx1 bf1 bx2 bf2 bx3 bf3 bx4 bf4 bx5 bf5 bx6 bf6 bx7 bf7 bx8 bf8 bx9 bf9 bx10 bf10 bx11 bf11 bx12 bf12 bx13 bf13 bx14 bf14
       clear hV HBX hYZ2 hg2 hl2 hb2 hYZ hg' hb'
       generalize hbq:Z.heap.size=bq at HPv ⊢
       have HLq:=Lib.hid (show Y.heap.size≤bq by omega)
       clear hbq hyz)
    | (generalize hV:World.alloc Z2 (.cells #[.int .i64 1,.int .i64 t,.int .i64 0,.int .i64 k,.int .i64 k,.int .i64 0,.int .i64 0,.slice none 0 0,.int .i64 0,.bool false,.int .i64 0,.int .i64 un,.int .i64 (base:Int),.slice Ar 1 cr,.slice Al n cl] 39)=V
       have HPv:=Lib.hid (show Blk V Z2.heap.size 39 #[.int .i64 1,.int .i64 t,.int .i64 0,.int .i64 k,.int .i64 k,.int .i64 0,.int .i64 0,.slice none 0 0,.int .i64 0,.bool false,.int .i64 0,.int .i64 un,.int .i64 (base:Int),.slice Ar 1 cr,.slice Al n cl] by subst hV;exact Blk.new _ _ _)
       have HEv:=Lib.hid (show Below Y.heap.size Y V by subst hV;exact ext_alloc hYZ2 _)
       have HGv:=Lib.hid (show V.ownsRow B1 126 9 (.slice Ar 1 cr) 1 (p.nums a b d).toList∧V.ownsRow B2 75 2 (.slice Al n cl) n xs by subst hV;exact ⟨own_ext hg2 (ext_new _ _),own_ext hl2 (ext_new _ _)⟩)
       have hyz2:=hYZ2.size
       clear hV hYZ2 hg2 hl2 hb2 hYZ hyz hg' hb'
       generalize hbq:Z2.heap.size=bq at HPv ⊢
       have HLq:=Lib.hid (show Y.heap.size≤bq by omega)
       clear hbq hyz2)
  all_goals
    have HXS:=Lib.hid hxs
    have HLw:=Lib.hid (show w.heap.size≤bq∧w.heap.size+1≠bq by have:=HEy.out.size;have:=HRy.out.lt;have:=HLq.out;omega)
    have HBv:=Lib.hid (HBy.out.ext HEv.out)
    have HRv:=Lib.hid (HRy.out.ext HEv.out)
    have HSv:=Lib.hid (HSy.out.ext HEv.out)
    have HEw:=Lib.hid (ext_call HEy.out HEv.out)
    clear e0 e1 e2 e3 e4 e5 e6 e7 e8 e9 HLq hxs HCP HCR hwu dn
    obtain ⟨e0,e1,e2,e3,e4,e5,e6,e7,e8,e9⟩:=cells10t HBv.out
    obtain ⟨s0,s1,s2⟩:=cells3 HSv.out
    go_wp2_with fail
    refine (HRP.out _ _ _ (HVy.out.ext HEv.out) (HLV.out _ HEw.out)).mono ?_
    rintro e U ⟨u5,rfl,hu5,hbu⟩
    obtain ⟨Au,cu,rfl,-⟩:=id hu5
    have HUu:=Lib.hid hu5
    obtain ⟨m,hm⟩:∃ m,m=out.length:=⟨_,rfl⟩
    rw [← hm] at HUu ⊢
    have HPu:=Lib.hid (HPv.out.ext hbu)
    have HRu:=Lib.hid (HRv.out.ext hbu)
    have HGu:=Lib.hid (And.intro (own_ext HGv.out.1 hbu) (own_ext HGv.out.2 hbu))
    have HEu:=Lib.hid (ext_call HEw.out hbu)
    clear hm hu5 hbu e0 e1 e2 e3 e4 e5 e6 e7 e8 e9 s0 s1 s2 HBv HRv HSv HEw HPv HGv HBy HRy HSy HEy HEv HVy HRP HLV
    have HI:=Lib.hid ans_size
    have H1:=Lib.hid (show (#[.int .i64 1,.int .i64 t,.int .i64 0,.int .i64 k,.int .i64 k,.int .i64 0,.int .i64 0,.slice Au m cu,.int .i64 0,.bool false,.int .i64 sv,.int .i64 un,.int .i64 (base:Int),.slice Ar 1 cr,.slice Al n cl]:Array Value).all (·.oneCell')=true by simp [Value.oneCell'])
    have p7:U.cell? ⟨bq,7,none⟩=some (.slice none 0 0):=HPu.out.cell 7
    have p8:U.cell? ⟨bq,8,none⟩=some (.int .i64 0):=HPu.out.cell 8
    have p9:U.cell? ⟨bq,9,none⟩=some (.bool false):=HPu.out.cell 9
    have p10:U.cell? ⟨bq,10,none⟩=some (.int .i64 0):=HPu.out.cell 10
    have pf7:=HPu.out.frozen 7;have pf8:=HPu.out.frozen 8;have pf9:=HPu.out.frozen 9;have pf10:=HPu.out.frozen 10
    go_upto_region 8 with (fail)
    clear p7 p8 p9 p10 pf7 pf8 pf9 pf10
    generalize hX4:(World.setCell (World.setCell (World.setCell (World.setCell (U) ⟨bq,7,none⟩ (.slice Au m cu)) ⟨bq,8,none⟩ (.int .i64 0)) ⟨bq,9,none⟩ (.bool false)) ⟨bq,10,none⟩ (.int .i64 sv))=X4
    have hX4':Ext2 bq bq U X4:=by subst hX4;exact ext2_set4 _ _ _ _ _ _
    have HPx:=Lib.hid (show Blk X4 bq 39 #[.int .i64 1,.int .i64 t,.int .i64 0,.int .i64 k,.int .i64 k,.int .i64 0,.int .i64 0,.slice Au m cu,.int .i64 0,.bool false,.int .i64 sv,.int .i64 un,.int .i64 (base:Int),.slice Ar 1 cr,.slice Al n cl] by subst hX4;exact blk_mid4 HPu.out)
    have HUx:=Lib.hid (show RowsL X4 (.slice Au m cu) out by subst hX4;exact (((HUu.out.far1 HON.out.1 (by omega) _).far1 HON.out.1 (by omega) _).far1 HON.out.1 (by omega) _).far1 HON.out.1 (by omega) _)
    have HRx:=Lib.hid (HRu.out.ext2 hX4' HLw.out.2 HLw.out.2)
    have HGx:=Lib.hid (And.intro (own_ext2U HGu.out.1 HPu.out (by decide) hX4') (own_ext2U HGu.out.2 HPu.out (by decide) hX4'))
    have HEx:=Lib.hid (Ext2.below HEu.out HLw.out.1 HLw.out.1 hX4')
    clear hX4 hX4' HPu HRu HGu HEu HUu
    go_wp2_with (first
      | (refine wpList_load_row rfl 39 (.tmp 8) rfl bq rfl 39 #[.int .i64 1,.int .i64 t,.int .i64 0,.int .i64 k,.int .i64 k,.int .i64 0,.int .i64 0,.slice Au m cu,.int .i64 0,.bool false,.int .i64 sv,.int .i64 un,.int .i64 (base:Int),.slice Ar 1 cr,.slice Al n cl] (0,0) _ HPx.out Tryz.underlying39 rfl HI.out ?_)
      | (refine wpList_store_blk rfl 39 (.tmp 4) (.tmp 56) rfl (w.heap.size+1) #[.int .i64 1,.int .i64 t,.int .i64 0,.int .i64 k,.int .i64 k,.int .i64 0,.int .i64 0,.slice Au m cu,.int .i64 0,.bool false,.int .i64 sv,.int .i64 un,.int .i64 (base:Int),.slice Ar 1 cr,.slice Al n cl] rfl rfl 39 #[.int .i64 0,.int .i64 0,.int .i64 0,.int .i64 0,.int .i64 0,.int .i64 0,.int .i64 0,.slice none 0 0,.int .i64 0,.bool false,.int .i64 0,.int .i64 0,.int .i64 0,.slice none 0 0,.slice none 0 0] HRx.out HI.out rfl H1.out ?_;intro X hbx hgx))
    have hX:=Ext2.of_grown hgx
    obtain ⟨y0,y1,y2,y3,y4,y5,y6,y7,y8,y9,y10,y11,y12,y13,y14⟩:=cells15 hbx
    have hEX:Below w.heap.size w X:=Ext2.below HEx.out (by omega) (by omega) hX
    have h13:=HSX.out X B1 _ hEX (own_ext2U HGx.out.1 HRx.out (by decide) hX)
    have h14:=HXS.out X B2 (own_ext2U HGx.out.2 HRx.out (by decide) hX) hEX
    refine bodyPost_ret (v:=.tuple #[.agg #[.int .i64 1,.int .i64 t,.int .i64 0,.int .i64 k,.int .i64 k,.int .i64 0,.int .i64 0,.slice Au m cu,.int .i64 0,.bool false,.int .i64 sv,.int .i64 un,.int .i64 (base:Int),.slice Ar 1 cr,.slice Al n cl],.bool true]) (by simp [results,Tryz.results27,go_sem,y0,y1,y2,y3,y4,y5,y6,y7,y8,y9,y10,y11,y12,y13,y14]) rfl ⟨_,_,_,rfl,?_,h13.1,h13.2,h14,hEX⟩
    exact HUx.out.zero (fun r hr=>by have:=(HON.out.2 r hr).2;omega) HRx.out rfl hX
end Go.Proofs.YtimoapjhepmehaaGreatDoor
