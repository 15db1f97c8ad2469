/-
  slices.Clone at rows, at range proofs and at records: a block of the same cells.
-/
import Derived.Test.YtimoapjhepmehaaGreatDoorP25
import Derived.Test.YtimoapjhepmehaaGreatDoorP15
import Derived.Test.YtimoapjhepmehaaGreatDoorP16
import Derived.Test.YtimoapjhepmehaaGreatDoorP18
set_option linter.unusedSimpArgs false
set_option linter.unusedVariables false
set_option maxHeartbeats 4000000
set_option maxRecDepth 100000
namespace Go.Proofs.YtimoapjhepmehaaGreatDoor
open Go.RowKit Go.Shelf
attribute [local go_sem ↓] Go.wp_at_zero Go.wp_at_succ
def cellsFrom (w:World) (b off n:Nat):List Value:=(List.range n).map fun i=>(w.cell? ⟨b,off+i,none⟩).getD undef
theorem cellsFrom_length (w:World) (b off n:Nat):(cellsFrom w b off n).length=n:=by simp [cellsFrom]
theorem cellsFrom_at {w:World} {b off n i:Nat} (h:i<n):(cellsFrom w b off n)[i]? = some ((w.cell? ⟨b,off+i,none⟩).getD undef):=by
  unfold cellsFrom
  rw [List.getElem?_map,List.getElem?_range h]
  rfl
def Full (w:World) (b off n:Nat):Prop:=∀ i,i<n→∃ u,w.cell? ⟨b,off+i,none⟩=some u∧u.oneCell'=true
theorem Full.one {w:World} {b off n:Nat} (h:Full w b off n):∀ u ∈ cellsFrom w b off n,u.oneCell'=true:=by
  intro u hu
  unfold cellsFrom at hu
  obtain ⟨i,hi,rfl⟩:=List.mem_map.1 hu
  obtain ⟨v,h1,h2⟩:=h i (List.mem_range.1 hi)
  rw [h1]
  exact h2
theorem Full.news {w W:World} {b off n:Nat} (h:Full w b off n) (k:Below w.heap.size w W):∀ (i:Nat) (u:Value),(cellsFrom w b off n)[i]? = some u→W.cell? ((⟨b,off,none⟩:Addr).add i)=some u:=by
  intro i u hu
  have hi:i<n:=by have:=(List.getElem?_eq_some_iff.1 hu).1;rwa [cellsFrom_length] at this
  obtain ⟨v,h1,_⟩:=h i hi
  rw [cellsFrom_at hi,h1] at hu
  rw [Addr.add_mid,cell_ext h1 k]
  exact hu
def CloneAt (w w':World) (u:Value) (b off n sz:Nat) (t:TypeId):Prop:=∃ g k,u=.slice (some ⟨g,0,none⟩) n k∧w.heap.size≤g∧g<w'.heap.size∧n≤k∧w'.ownsRow w.heap.size t sz u n (cellsFrom w b off (n*sz))∧∀ i,i<n*sz→w'.cell? ⟨g,i,none⟩=w.cell? ⟨b,off+i,none⟩
theorem cloneRows (b off n c:Nat) (hn:0<n) (hn2:n≤100000) (w:World) (hf:Full w b off (n*5)):Calls Tryz.prog 100 #[.slice (some ⟨b,off,none⟩) n c] w fun e w'=>
    ∃ u,e=.returned u∧CloneAt w w' u b off n 5 67∧Below w.heap.size w w':=by
  obtain ⟨is,his,hzs0,hzs1,hzs2⟩:=info_parts rowz_info
  have hsn:=fun W:World=>Lib.run_eql_slice_nil (P:=Tryz.prog) W 34 67 (some ⟨b,off,none⟩) n c 0 0 Tryz.underlying34
  have HOE:=Lib.hid (show (w.alloc (.cells #[] 67)).ownsRow w.heap.size 67 5 (.slice (some ⟨w.heap.size,0,none⟩) 0 0) 0 [] from
    ⟨rfl,.inr ⟨w.heap.size,0,#[],rfl,Nat.le_refl _,World.alloc_heap_new w _,Nat.le_refl _,Nat.zero_le _,rfl,rfl⟩⟩)
  have HNW:=Lib.hid (hf.news (ext_new w (.cells #[] 67)))
  have hml:=cellsFrom_length w b off (n*5)
  have hone:=hf.one
  have HF:=Lib.hid hf
  obtain ⟨xs,hxs⟩:∃ xs,xs=cellsFrom w b off (n*5):=⟨_,rfl⟩
  have HXS:=Lib.hid hxs
  rw [← hxs] at HNW hml hone
  clear hf hxs
  go_enter Tryz.func100,Tryz.ntmps100
  go_wp2_with (at_builtin;refine wpList_append_own _ rfl (.tmp 5) (.tmp 6) 34 rfl w.heap.size 67 is (.agg #[.int .i64 0,.int .i64 0,.int .i64 0,.int .i64 0,.int .i64 0]) 5 40 Tryz.underlying34 his hzs0 hzs1 hzs2 rfl (by decide) (.slice (some ⟨w.heap.size,0,none⟩) 0 0) 0 [] rfl HOE.out ⟨b,off,none⟩ n c xs rfl hml HNW.out hone ?_ ?_ ?_ ?_;(unfold maxLen;omega);omega;(rw [World.size_alloc];omega);intro v6 W6 ho6 hg6 _;obtain ⟨A7,c7,h7⟩:=own_shape ho6;subst h7;have HO6:=Lib.hid ho6;have HG6:=Lib.hid hg6;clear hg6 ho6)
  go_ret
  have ho:=HO6.out
  rw [Nat.zero_add,List.nil_append] at ho
  have HBW:Below w.heap.size w W6:=(ext_new w (.cells #[] 67)).grown HG6.out (ext_new w (.cells #[] 67)).size (fun k e=>by have e2:w.heap.size=k:=Option.some.inj e;omega)
  obtain ⟨g,k,h1,h2,h3,h4,h5⟩:=own_cells ho hn
  injection h1 with h1 _ h6
  subst h1 h6
  refine ⟨_,rfl,⟨g,c7,rfl,h2,h3,h4,by rw [← HXS.out];exact ho,fun i hi=>?_⟩,HBW⟩
  obtain ⟨v,h7,_⟩:=HF.out i hi
  have h8:=h5 i v (by rw [HXS.out,cellsFrom_at hi,h7];rfl)
  rw [h8,h7]
theorem cloneRows0 (A:Option Addr) (c:Nat) (w:World):Calls Tryz.prog 100 #[.slice A 0 c] w fun e w'=>∃ u,e=.returned u∧w'.ownsRow w.heap.size 67 5 u 0 []∧Below w.heap.size w w':=by
  cases A with
  | none=>
    have hsn:=fun W:World=>Lib.run_eql_slice_nil (P:=Tryz.prog) W 34 67 none 0 c 0 0 Tryz.underlying34
    go_enter Tryz.func100,Tryz.ntmps100
    go_wp2
    go_ret
    exact ⟨_,rfl,World.ownsRow_nil _ _ _ _,ext_refl _⟩
  | some a=>
    have hsn:=fun W:World=>Lib.run_eql_slice_nil (P:=Tryz.prog) W 34 67 (some a) 0 c 0 0 Tryz.underlying34
    go_enter Tryz.func100,Tryz.ntmps100
    go_wp2
    go_ret
    exact ⟨_,rfl,⟨rfl,.inr ⟨w.heap.size,0,#[],rfl,Nat.le_refl _,World.alloc_heap_new w _,Nat.le_refl _,Nat.zero_le _,rfl,rfl⟩⟩,ext_new _ _⟩
theorem cloneRPs (b off n c:Nat) (hn:0<n) (hn2:n≤100000) (w:World) (hf:Full w b off (n*9)):Calls Tryz.prog 54 #[.slice (some ⟨b,off,none⟩) n c] w fun e w'=>
    ∃ u,e=.returned u∧CloneAt w w' u b off n 9 126∧Below w.heap.size w w':=by
  obtain ⟨is,his,hzs0,hzs1,hzs2⟩:=info_parts rpg_info
  have hsn:=fun W:World=>Lib.run_eql_slice_nil (P:=Tryz.prog) W 37 126 (some ⟨b,off,none⟩) n c 0 0 Tryz.underlying37
  have HOE:=Lib.hid (show (w.alloc (.cells #[] 126)).ownsRow w.heap.size 126 9 (.slice (some ⟨w.heap.size,0,none⟩) 0 0) 0 [] from
    ⟨rfl,.inr ⟨w.heap.size,0,#[],rfl,Nat.le_refl _,World.alloc_heap_new w _,Nat.le_refl _,Nat.zero_le _,rfl,rfl⟩⟩)
  have HNW:=Lib.hid (hf.news (ext_new w (.cells #[] 126)))
  have hml:=cellsFrom_length w b off (n*9)
  have hone:=hf.one
  have HF:=Lib.hid hf
  obtain ⟨xs,hxs⟩:∃ xs,xs=cellsFrom w b off (n*9):=⟨_,rfl⟩
  have HXS:=Lib.hid hxs
  rw [← hxs] at HNW hml hone
  clear hf hxs
  go_enter Tryz.func54,Tryz.ntmps54
  go_wp2_with (at_builtin;refine wpList_append_own _ rfl (.tmp 5) (.tmp 6) 37 rfl w.heap.size 126 is (.agg #[.int .i64 0,.int .i64 0,.int .i64 0,.int .i64 0,.int .i64 0,.int .i64 0,.slice none 0 0,.slice none 0 0,.slice none 0 0]) 9 120 Tryz.underlying37 his hzs0 hzs1 hzs2 rfl (by decide) (.slice (some ⟨w.heap.size,0,none⟩) 0 0) 0 [] rfl HOE.out ⟨b,off,none⟩ n c xs rfl hml HNW.out hone ?_ ?_ ?_ ?_;(unfold maxLen;omega);omega;(rw [World.size_alloc];omega);intro v6 W6 ho6 hg6 _;obtain ⟨A7,c7,h7⟩:=own_shape ho6;subst h7;have HO6:=Lib.hid ho6;have HG6:=Lib.hid hg6;clear hg6 ho6)
  go_ret
  have ho:=HO6.out
  rw [Nat.zero_add,List.nil_append] at ho
  have HBW:Below w.heap.size w W6:=(ext_new w (.cells #[] 126)).grown HG6.out (ext_new w (.cells #[] 126)).size (fun k e=>by have e2:w.heap.size=k:=Option.some.inj e;omega)
  obtain ⟨g,k,h1,h2,h3,h4,h5⟩:=own_cells ho hn
  injection h1 with h1 _ h6
  subst h1 h6
  refine ⟨_,rfl,⟨g,c7,rfl,h2,h3,h4,by rw [← HXS.out];exact ho,fun i hi=>?_⟩,HBW⟩
  obtain ⟨v,h7,_⟩:=HF.out i hi
  have h8:=h5 i v (by rw [HXS.out,cellsFrom_at hi,h7];rfl)
  rw [h8,h7]
theorem cloneRecs (b off n c:Nat) (hn:0<n) (hn2:n≤100000) (w:World) (hf:Full w b off (n*2)):Calls Tryz.prog 55 #[.slice (some ⟨b,off,none⟩) n c] w fun e w'=>
    ∃ u,e=.returned u∧CloneAt w w' u b off n 2 75∧Below w.heap.size w w':=by
  obtain ⟨is,his,hzs0,hzs1,hzs2⟩:=info_parts recC_info
  have hsn:=fun W:World=>Lib.run_eql_slice_nil (P:=Tryz.prog) W 29 75 (some ⟨b,off,none⟩) n c 0 0 Tryz.underlying29
  have HOE:=Lib.hid (show (w.alloc (.cells #[] 75)).ownsRow w.heap.size 75 2 (.slice (some ⟨w.heap.size,0,none⟩) 0 0) 0 [] from
    ⟨rfl,.inr ⟨w.heap.size,0,#[],rfl,Nat.le_refl _,World.alloc_heap_new w _,Nat.le_refl _,Nat.zero_le _,rfl,rfl⟩⟩)
  have HNW:=Lib.hid (hf.news (ext_new w (.cells #[] 75)))
  have hml:=cellsFrom_length w b off (n*2)
  have hone:=hf.one
  have HF:=Lib.hid hf
  obtain ⟨xs,hxs⟩:∃ xs,xs=cellsFrom w b off (n*2):=⟨_,rfl⟩
  have HXS:=Lib.hid hxs
  rw [← hxs] at HNW hml hone
  clear hf hxs
  go_enter Tryz.func55,Tryz.ntmps55
  go_wp2_with (at_builtin;refine wpList_append_own _ rfl (.tmp 5) (.tmp 6) 29 rfl w.heap.size 75 is (.agg #[.int .i64 0,.slice none 0 0]) 2 32 Tryz.underlying29 his hzs0 hzs1 hzs2 rfl (by decide) (.slice (some ⟨w.heap.size,0,none⟩) 0 0) 0 [] rfl HOE.out ⟨b,off,none⟩ n c xs rfl hml HNW.out hone ?_ ?_ ?_ ?_;(unfold maxLen;omega);omega;(rw [World.size_alloc];omega);intro v6 W6 ho6 hg6 _;obtain ⟨A7,c7,h7⟩:=own_shape ho6;subst h7;have HO6:=Lib.hid ho6;have HG6:=Lib.hid hg6;clear hg6 ho6)
  go_ret
  have ho:=HO6.out
  rw [Nat.zero_add,List.nil_append] at ho
  have HBW:Below w.heap.size w W6:=(ext_new w (.cells #[] 75)).grown HG6.out (ext_new w (.cells #[] 75)).size (fun k e=>by have e2:w.heap.size=k:=Option.some.inj e;omega)
  obtain ⟨g,k,h1,h2,h3,h4,h5⟩:=own_cells ho hn
  injection h1 with h1 _ h6
  subst h1 h6
  refine ⟨_,rfl,⟨g,c7,rfl,h2,h3,h4,by rw [← HXS.out];exact ho,fun i hi=>?_⟩,HBW⟩
  obtain ⟨v,h7,_⟩:=HF.out i hi
  have h8:=h5 i v (by rw [HXS.out,cellsFrom_at hi,h7];rfl)
  rw [h8,h7]
theorem cloneRecs0 (A:Option Addr) (c:Nat) (w:World):Calls Tryz.prog 55 #[.slice A 0 c] w fun e w'=>∃ u,e=.returned u∧w'.ownsRow w.heap.size 75 2 u 0 []∧Below w.heap.size w w':=by
  cases A with
  | none=>
    have hsn:=fun W:World=>Lib.run_eql_slice_nil (P:=Tryz.prog) W 29 75 none 0 c 0 0 Tryz.underlying29
    go_enter Tryz.func55,Tryz.ntmps55
    go_wp2
    go_ret
    exact ⟨_,rfl,World.ownsRow_nil _ _ _ _,ext_refl _⟩
  | some a=>
    have hsn:=fun W:World=>Lib.run_eql_slice_nil (P:=Tryz.prog) W 29 75 (some a) 0 c 0 0 Tryz.underlying29
    go_enter Tryz.func55,Tryz.ntmps55
    go_wp2
    go_ret
    exact ⟨_,rfl,⟨rfl,.inr ⟨w.heap.size,0,#[],rfl,Nat.le_refl _,World.alloc_heap_new w _,Nat.le_refl _,Nat.zero_le _,rfl,rfl⟩⟩,ext_new _ _⟩
theorem RowsL.full {W:World} {v:Value} {l:List RowT} (h:RowsL W v l) (h0:0<l.length):∃ g c,v=.slice (some ⟨g,0,none⟩) l.length c∧Full W g 0 (l.length*5)∧cellsFrom W g 0 (l.length*5)=rc l:=by
  obtain ⟨A,c,rfl,h⟩:=h
  obtain ⟨g,rfl,hg,hc⟩:=h h0
  have hcell:∀ i,i<l.length*5→W.cell? ⟨g,i,none⟩=(rc l)[i]? := fun i hi=>by
    have h1:i / 5<l.length:=by omega
    have h2:=hc (i / 5) _ (List.getElem?_eq_getElem h1) (i % 5) (by omega)
    rw [show i / 5*5+i % 5=i by omega] at h2
    rw [h2,← rc_at l (i / 5) _ (List.getElem?_eq_getElem h1) (i % 5) (by omega),show i / 5*5+i % 5=i by omega]
  refine ⟨g,c,rfl,fun i hi=>?_,?_⟩
  · rw [Nat.zero_add,hcell i hi]
    have h1:i<(rc l).length:=by rw [rc_length];exact hi
    refine ⟨_,List.getElem?_eq_getElem h1,?_⟩
    have h3:=List.getElem_mem h1
    unfold rc at h3
    obtain ⟨r,_,hr⟩:=List.mem_flatMap.1 h3
    exact encR_one r _ hr
  · apply List.ext_getElem?
    intro i
    by_cases hi:i<l.length*5
    · rw [cellsFrom_at hi,Nat.zero_add,hcell i hi,List.getElem?_eq_getElem (by rw [rc_length];exact hi)]
      rfl
    · rw [List.getElem?_eq_none (by rw [cellsFrom_length];omega),List.getElem?_eq_none (by rw [rc_length];omega)]
theorem cloneRowsG (l:List RowT) (v:Value) (hl:l.length≤100000) (w:World) (hv:RowsL w v l):Calls Tryz.prog 100 #[v] w fun e w'=>∃ u,e=.returned u∧w'.ownsRow w.heap.size 67 5 u l.length (rc l)∧Below w.heap.size w w':=by
  by_cases h0:0<l.length
  · obtain ⟨g,c,rfl,hf,hc⟩:=hv.full h0
    refine (cloneRows g 0 l.length c h0 hl w hf).mono ?_
    rintro e w' ⟨u,rfl,⟨_,_,_,_,_,_,h5,_⟩,hb⟩
    rw [hc] at h5
    exact ⟨u,rfl,h5,hb⟩
  · have hn:l=[]:=List.length_eq_zero_iff.1 (by omega)
    subst hn
    obtain ⟨A,c,rfl,_⟩:=hv
    exact (cloneRows0 A c w)
theorem own_rows5 {W:World} {B:Nat} {v:Value} {l:List RowT} (h:W.ownsRow B 67 5 v l.length (rc l)):RowsL W v l:=(rowsS_own h).rowsL
theorem ChgsAt.slice {W:World} {u:Value} {l:List ChgT} (h:ChgsAt W u l):∃ A c,u=.slice A l.length c:=by
  obtain ⟨A,c,h1,_⟩:=h
  exact ⟨A,c,h1⟩
def RecsO (w:World) (v:Value) (first:Nat) (Ls:List (List ChgT)):Prop:=∃ A c,v=.slice A Ls.length c∧(0<Ls.length→∃ b off,A=some ⟨b,off,none⟩∧∀ (j:Nat) (l:List ChgT),Ls[j]? = some l →
  w.cell? ⟨b,off+j*2,none⟩=some (.int .i64 ((first:Int)+(j:Int)))∧∃ u,w.cell? ⟨b,off+j*2+1,none⟩=some u∧ChgsAt w u l)
theorem RecsO.ext {w W:World} {v:Value} {first:Nat} {Ls:List (List ChgT)} (h:RecsO w v first Ls) (k:Below w.heap.size w W):RecsO W v first Ls:=by
  obtain ⟨A,c,rfl,h⟩:=h
  refine ⟨A,c,rfl,fun h0=>?_⟩
  obtain ⟨b,off,hA,h2⟩:=h h0
  exact ⟨b,off,hA,fun j l hj=>by obtain ⟨h3,u,h4,h5⟩:=h2 j l hj;exact ⟨cell_ext h3 k,u,cell_ext h4 k,h5.ext k⟩⟩
theorem RecsL.off {w:World} {v:Value} {first:Nat} {Ls:List (List ChgT)} (h:RecsL w v first Ls):RecsO w v first Ls:=by
  obtain ⟨A,c,rfl,_,h⟩:=h
  refine ⟨A,c,rfl,fun h0=>?_⟩
  obtain ⟨b,hA,h2⟩:=h h0
  exact ⟨b,0,hA,fun j l hj=>by simp only [Nat.zero_add];exact h2 j l hj⟩
theorem RecsO.full {W:World} {v:Value} {f:Nat} {Ls:List (List ChgT)} (h:RecsO W v f Ls) (h0:0<Ls.length):∃ g off c,v=.slice (some ⟨g,off,none⟩) Ls.length c∧Full W g off (Ls.length*2):=by
  obtain ⟨A,c,rfl,h⟩:=h
  obtain ⟨g,off,rfl,hc⟩:=h h0
  refine ⟨g,off,c,rfl,fun i hi=>?_⟩
  obtain ⟨h1,u,h2,h3⟩:=hc (i / 2) _ (List.getElem?_eq_getElem (by omega))
  obtain ⟨A,c',rfl⟩:=h3.slice
  rcases Nat.mod_two_eq_zero_or_one i with h4|h4
  · rw [show off+i=off+i / 2*2 by omega]
    exact ⟨_,h1,rfl⟩
  · rw [show off+i=off+i / 2*2+1 by omega]
    exact ⟨_,h2,rfl⟩
end Go.Proofs.YtimoapjhepmehaaGreatDoor
