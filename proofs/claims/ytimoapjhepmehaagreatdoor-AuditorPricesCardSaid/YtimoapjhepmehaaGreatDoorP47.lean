/-
  package statetree: Same; package eval: Same; package proof: Same at two answers with the same contents.
-/
import Derived.Test.YtimoapjhepmehaaGreatDoorP41
import Derived.Test.YtimoapjhepmehaaGreatDoorP19
import Derived.Test.YtimoapjhepmehaaGreatDoorP42
import Derived.Test.YtimoapjhepmehaaGreatDoorP3
import Derived.Deep.RegionHeld3
import Derived.Laws.StructEq
set_option linter.unusedSimpArgs false
set_option linter.unusedVariables false
set_option maxHeartbeats 4000000
set_option maxRecDepth 100000
namespace Go.Proofs.YtimoapjhepmehaaGreatDoor
open Go.RowKit Go.Shelf
section
attribute [local go_sem ↓] Go.wp_at_zero Go.wp_at_succ
theorem rowEqT (x:RowT) (W:World):(Op.equal 67 (.agg x.arr) (.agg x.arr)).run Tryz.prog W=.ok true W:=by
  unfold Op.equal Op.maxDepth RowT.arr
  simp [go_sem,eq3s]
theorem rowEqI (x:RowT) (W:World):(Op.equalIn 10000 67 (.agg x.arr) (.agg x.arr)).run Tryz.prog W=.ok true W:=rowEqT x W
theorem eq6s (a b c d e f:Int) (W:World):(Op.equalIn 10000 118 (.agg #[.int .i64 a,.int .i64 b,.int .i64 c,.int .i64 d,.int .i64 e,.int .i64 f]) (.agg #[.int .i64 a,.int .i64 b,.int .i64 c,.int .i64 d,.int .i64 e,.int .i64 f])).run Tryz.prog W=.ok true W:=by
  obtain ⟨is,his,_⟩:=Option.map_eq_some_iff.1 int_size1
  have hc:Tryz.prog.cellsOf 3=1:=by kernel_rfl
  have hl:List.range 6=[0,1,2,3,4,5]:=by decide
  have hp:∀ (k:Nat) (a:Array Value) (n:Int),a[k]? = some (.int .i64 n)→(part 3 a k).run Tryz.prog W=.ok (.int .i64 n) W:=fun k a n h=>run_part_plain W (by kernel_rfl) h
  have he:∀ m n:Int,(Op.equalIn 9999 3 (.int .i64 m) (.int .i64 n)).run Tryz.prog W=.ok (m == n) W:=fun m n=>by
    rw [show 9999=9998+1 from rfl,run_equalIn_int (k':=.i64) W 9998 _ _ _ _ Tryz.underlying3]
  refine (run_equalIn_array (d:=9999) W #[.int .i64 a,.int .i64 b,.int .i64 c,.int .i64 d,.int .i64 e,.int .i64 f] #[.int .i64 a,.int .i64 b,.int .i64 c,.int .i64 d,.int .i64 e,.int .i64 f] Tryz.underlying118 his).trans ?_
  rw [hc,hl]
  simp [Op.eqItems,hp 0 _ a,hp 1 _ b,hp 2 _ c,hp 3 _ d,hp 4 _ e,hp 5 _ f,he]
theorem eqStrsG (S T:Nat→Prop) (l:List ByteArray) (va vb:Value) (hl:l.length≤1000) (w:World) (ha:Strs S w va l) (hb:Strs T w vb l) :
    Calls Tryz.prog 164 #[va,vb] w fun e w'=>e=.returned (.bool true)∧Below w.heap.size w w':=by
  obtain ⟨A,c,rfl,-,h1⟩:=ha
  obtain ⟨B,d,rfl,-,h2⟩:=hb
  by_cases h0:0<l.length
  · obtain ⟨b,o,rfl,-,k1⟩:=h1 h0
    obtain ⟨b',o',rfl,-,k2⟩:=h2 h0
    refine (Tryz.slices_Equal_string b o l.length c b' o' l.length d l l w (Nat.le_refl _) (Nat.le_refl _) (by omega) (by omega) (fun j hj=>?_) (fun j hj=>?_)).mono ?_
    · rw [k1 j _ (List.getElem?_eq_getElem hj),List.getD_eq_getElem?_getD,List.getElem?_eq_getElem hj];rfl
    · rw [k2 j _ (List.getElem?_eq_getElem hj),List.getD_eq_getElem?_getD,List.getElem?_eq_getElem hj];rfl
    rintro e w' ⟨rfl,q,rfl⟩
    exact ⟨by simp,ext_drewN (ext_refl _) _⟩
  · have hn:l.length=0:=by omega
    rw [hn]
    refine (Tryz.slices_Equal_string_empty A B c 0 d w (by omega)).mono ?_
    rintro e w' ⟨rfl,rfl⟩
    exact ⟨by simp,ext_refl _⟩
theorem same2G (S T:Nat→Prop) (l:List ByteArray) (va vb:Value) (hl:l.length≤1000) (w:World) (ha:Strs S w va l) (hb:Strs T w vb l) :
    Calls Tryz.prog 163 #[va,vb] w fun e w'=>e=.returned (.bool true)∧Below w.heap.size w w':=by
  have HQ:=Lib.hid (eqStrsG S T l va vb hl w ha hb)
  obtain ⟨A,c,rfl,-⟩:=ha
  obtain ⟨B,d,rfl,-⟩:=hb
  go_enter Tryz.func163,Tryz.ntmps163
  go_wp2_with fail
  refine HQ.out.mono ?_
  rintro e W1 ⟨rfl,hb1⟩
  have HE1:=Lib.hid hb1
  clear hb1
  go_wp2
  go_ret
  exact ⟨rfl,HE1.out⟩
theorem eqPathsG (S T:Nat→Prop) (ps:List (List ByteArray)) (hl:ps.length≤1000) (hps:∀ p ∈ ps,p.length≤1000) (va vb:Value) (w:World) (ha:PathsS S w va ps) (hb:PathsS T w vb ps) :
    Calls Tryz.prog 195 #[va,vb,.func (.func 163) #[] #[]] w fun e w'=>e=.returned (.bool true)∧Below w.heap.size w w':=by
  obtain ⟨A,c,rfl,h1⟩:=ha
  obtain ⟨B,d,rfl,h2⟩:=hb
  have H1:=Lib.hid h1
  have H2:=Lib.hid h2
  clear h1 h2
  go_enter Tryz.func195,Tryz.ntmps195
  go_wp2
  go_loopw [7,8,9,17] (fun _ _ _ iv W=>∃ k:Nat,k≤ps.length∧iv=.int .i64 (k:Int)∧Below w.heap.size w W) (fun _ _ _ iv _=>ps.length-(intOf iv).toNat)
  case atStart=>exact ⟨0,Nat.zero_le _,rfl,ext_refl _⟩
  case round=>
    obtain ⟨k,hk,rfl,hE⟩:=hrel
    have HE:=Lib.hid hE
    clear hE
    by_cases hlt:k<ps.length
    · obtain ⟨p,hp⟩:∃ p,ps[k]? = some p:=⟨_,List.getElem?_eq_getElem hlt⟩
      obtain ⟨g,rfl,hg,-,q1⟩:=H1.out (by omega)
      obtain ⟨g',rfl,hg',-,q2⟩:=H2.out (by omega)
      obtain ⟨u,hu,su⟩:=q1 k p hp
      obtain ⟨u',hu',su'⟩:=q2 k p hp
      have hu:=cell_ext hu HE.out
      have hu':=cell_ext hu' HE.out
      have HS:=Lib.hid (fun (W:World) (h:Below w.heap.size w W)=>same2G S T p u u' (hps p (List.mem_of_getElem? hp)) W (su.below h) (su'.below h))
      obtain ⟨Au,cu,rfl,-⟩:=id su
      obtain ⟨Au',cu',rfl,-⟩:=id su'
      have x0:(0:Int)≤(k:Int):=by omega
      have x1:(k:Int)<(ps.length:Int):=by omega
      have d1:decide ((k:Int)<(ps.length:Int))=true:=decide_eq_true x1
      have e2:IntKind.i64.wrap ((k:Int)+1)=(k:Int)+1:=IntWalk.i64_in _ (by omega)
      clear q1 q2 su su' hp hg hg'
      go_wp2_with (go_at_call 163;refine (HS.out _ HE.out).mono ?_;rintro e W2 ⟨rfl,hb2⟩;have HE2:=Lib.hid (ext_call HE.out hb2);clear hb2)
      go_roundw
      case rel=>exact ⟨k+1,by omega,by go_num,HE2.out⟩
      case measure=>simp [intOf];omega
    · have d1:decide ((k:Int)<(ps.length:Int))=false:=decide_eq_false (by omega)
      go_wp2
      go_ret
      exact ⟨rfl,HE.out⟩
theorem alikePathsG (S T:Nat→Prop) (ps:List (List ByteArray)) (hl:ps.length≤1000) (hps:∀ p ∈ ps,p.length≤1000) (va vb:Value) (w:World) (ha:PathsS S w va ps) (hb:PathsS T w vb ps) :
    Calls Tryz.prog 162 #[va,vb,.func (.func 163) #[] #[]] w fun e w'=>e=.returned (.bool true)∧Below w.heap.size w w':=by
  have HE:=Lib.hid (eqPathsG S T ps hl hps va vb w ha hb)
  obtain ⟨A,c,rfl,-⟩:=ha
  obtain ⟨B,d,rfl,-⟩:=hb
  go_enter Tryz.func162,Tryz.ntmps162
  go_wp2_with (go_at_call 195;refine HE.out.mono ?_;rintro e W2 ⟨rfl,hb2⟩;have HE2:=Lib.hid hb2;clear hb2)
  go_ret
  exact ⟨rfl,HE2.out⟩
end
section
attribute [local go_sem ↓] ld_exec ld_sem Go.wp_at_zero Go.wp_at_succ
theorem eqRowsG (l:List RowT) (va vb:Value) (w:World) (ha:RowsL w va l) (hb:RowsL w vb l) (hl:l.length≤1000) :
    Calls Tryz.prog 159 #[va,vb] w fun e w'=>e=.returned (.bool true)∧Below w.heap.size w w':=by
  have HA:=Lib.hid ha
  have HB:=Lib.hid hb
  obtain ⟨Aa,ca,rfl,_⟩:=ha
  obtain ⟨Ab,cb,rfl,_⟩:=hb
  go_enter Tryz.func159,Tryz.ntmps159
  go_wp2
  go_loopw [5,13] (fun _ i W=>∃ k:Nat,k≤l.length∧i=.int .i64 k∧Below w.heap.size w W) (fun _ i _=>l.length-(intOf i).toNat)
  case atStart=>exact ⟨0,Nat.zero_le _,rfl,by first|exact ext_refl w|exact (ext_refl w).drew⟩
  case round=>
    obtain ⟨k,hk,rfl,hE⟩:=hrel
    have HE:=Lib.hid hE
    clear hE
    have e2:IntKind.i64.wrap ((k:Int)+1)=(k:Int)+1:=by rw [IntWalk.i64_in _ (by omega)]
    by_cases hlt:k<l.length
    · have d1:decide ((k:Int)<(l.length:Int))=true:=by simp;omega
      obtain ⟨x,hx⟩:∃ x,l[k]? = some x:=⟨_,List.getElem?_eq_getElem hlt⟩
      obtain ⟨b1,c1,hA1,_,hcell1⟩:=(HA.out.ext HE.out).at_ hx
      injection hA1 with hA1 _ hA3
      subst hA1
      subst hA3
      obtain ⟨b2,c2,hB1,_,hcell2⟩:=(HB.out.ext HE.out).at_ hx
      injection hB1 with hB1 _ hB3
      subst hB1
      subst hB3
      have hc1:∀ i,i<x.arr.size→wr.drew.cell? ⟨b1,k*5+i,none⟩=x.arr[i]? := fun i hi=>(hcell1 i hi).trans (by simp [encR,RowT.arr])
      have hc2:∀ i,i<x.arr.size→wr.drew.cell? ⟨b2,k*5+i,none⟩=x.arr[i]? := fun i hi=>(hcell2 i hi).trans (by simp [encR,RowT.arr])
      obtain ⟨p1,r1⟩:=ld_rng (P:=Tryz.prog) (W:=wr.drew) (ty:=67) (cs:=x.arr) hc1 Tryz.underlying67 rfl (by kernel_rfl)
      obtain ⟨p2,r2⟩:=ld_rng (P:=Tryz.prog) (W:=wr.drew) (ty:=67) (cs:=x.arr) hc2 Tryz.underlying67 rfl (by kernel_rfl)
      have hq:=rowEqI x
      have q0:(0:Int)≤(k:Int):=by omega
      have q1:(k:Int)<(l.length:Int):=by omega
      clear hcell1 hcell2 hc1 hc2 hx
      go_wp2
      go_region
      go_wp2
      go_roundw
      case rel=>exact ⟨k+1,by omega,by go_num,HE.out.drew⟩
      case measure=>simp [intOf];omega
    · have d1:decide ((k:Int)<(l.length:Int))=false:=by simp;omega
      go_wp2
      go_ret
      exact ⟨rfl,HE.out⟩
end
section
attribute [local go_sem ↓] Go.wp_at_zero Go.wp_at_succ
theorem eqRecsG (f:Nat) (Ls:List (List ChgT)) (hl:Ls.length≤1000) (hls:∀ L ∈ Ls,L.length≤1000) (va vb:Value) (w:World) (ha:RecsL w va f Ls) (hb:RecsL w vb f Ls) :
    Calls Tryz.prog 165 #[va,vb,.func (.func 111) #[] #[]] w fun e w'=>e=.returned (.bool true)∧Below w.heap.size w w':=by
  obtain ⟨A,c,rfl,-,h1⟩:=ha
  obtain ⟨B,d,rfl,-,h2⟩:=hb
  have H1:=Lib.hid h1
  have H2:=Lib.hid h2
  clear h1 h2
  go_enter Tryz.func165,Tryz.ntmps165
  go_wp2
  go_loopw [7,8,9,17] (fun _ _ _ iv W=>∃ k:Nat,k≤Ls.length∧iv=.int .i64 (k:Int)∧Below w.heap.size w W) (fun _ _ _ iv _=>Ls.length-(intOf iv).toNat)
  case atStart=>exact ⟨0,Nat.zero_le _,rfl,ext_refl _⟩
  case round=>
    obtain ⟨k,hk,rfl,hE⟩:=hrel
    have HE:=Lib.hid hE
    clear hE
    by_cases hlt:k<Ls.length
    · obtain ⟨L,hL⟩:∃ L,Ls[k]? = some L:=⟨_,List.getElem?_eq_getElem hlt⟩
      obtain ⟨g,rfl,q1⟩:=H1.out (by omega)
      obtain ⟨g',rfl,q2⟩:=H2.out (by omega)
      obtain ⟨z0,u,hu,su⟩:=q1 k L hL
      obtain ⟨z0',u',hu',su'⟩:=q2 k L hL
      have z0:=cell_ext z0 HE.out
      have z0':=cell_ext z0' HE.out
      have hu:=cell_ext hu HE.out
      have hu':=cell_ext hu' HE.out
      have HS:=Lib.hid (fun (W:World) (h:Below w.heap.size w W)=>rowSame ((f:Int)+(k:Int)) L u u' W (su.ext h) (su'.ext h) (hls L (List.mem_of_getElem? hL)))
      obtain ⟨Au,cu,rfl,-⟩:=id su
      obtain ⟨Au',cu',rfl,-⟩:=id su'
      obtain ⟨ps,hps⟩:∃ ps,ps=(f:Int)+(k:Int):=⟨_,rfl⟩
      rw [← hps] at z0 z0' HS
      have x0:(0:Int)≤(k:Int):=by omega
      have x1:(k:Int)<(Ls.length:Int):=by omega
      have d1:decide ((k:Int)<(Ls.length:Int))=true:=decide_eq_true x1
      have e2:IntKind.i64.wrap ((k:Int)+1)=(k:Int)+1:=IntWalk.i64_in _ (by omega)
      have gl':=lt_of_cell (p:=⟨g',k*2,none⟩) z0'
      have gl1:g'<wr.heap.size+1:=Nat.lt_succ_of_lt gl'
      have HX:=Lib.hid (ext_alloc (ext_alloc HE.out (.cells #[.int .i64 ps,.slice Au L.length cu] 75)) (.cells #[.int .i64 ps,.slice Au' L.length cu'] 75))
      clear q1 q2 su su' hL hps
      go_wp2_with (go_at_call 111;refine (HS.out _ HX.out).mono ?_;rintro e W2 ⟨rfl,hb2⟩;have HE2:=Lib.hid (ext_call HX.out hb2);clear hb2)
      go_roundw
      case rel=>exact ⟨k+1,by omega,by go_num,HE2.out⟩
      case measure=>simp [intOf];omega
    · have d1:decide ((k:Int)<(Ls.length:Int))=false:=decide_eq_false (by omega)
      go_wp2
      go_ret
      exact ⟨rfl,HE.out⟩
theorem alikeRecsG (f:Nat) (Ls:List (List ChgT)) (hl:Ls.length≤1000) (hls:∀ L ∈ Ls,L.length≤1000) (va vb:Value) (w:World) (ha:RecsL w va f Ls) (hb:RecsL w vb f Ls) :
    Calls Tryz.prog 110 #[va,vb,.func (.func 111) #[] #[]] w fun e w'=>e=.returned (.bool true)∧Below w.heap.size w w':=by
  have HE:=Lib.hid (eqRecsG f Ls hl hls va vb w ha hb)
  obtain ⟨A,c,rfl,-⟩:=ha
  obtain ⟨B,d,rfl,-⟩:=hb
  go_enter Tryz.func110,Tryz.ntmps110
  go_wp2_with (go_at_call 165;refine HE.out.mono ?_;rintro e W2 ⟨rfl,hb2⟩;have HE2:=Lib.hid hb2;clear hb2)
  go_ret
  exact ⟨rfl,HE2.out⟩
theorem sameNumsG (t jj lo hi n f:Int) (A1 A2 A3:Option Addr) (l1 l2 l3 c1 c2 c3:Nat) (w:World) :
    Calls Tryz.prog 161 #[.agg #[.int .i64 t,.int .i64 jj,.int .i64 lo,.int .i64 hi,.int .i64 n,.int .i64 f,.slice A1 l1 c1,.slice A2 l2 c2,.slice A3 l3 c3]] w fun e w'=>e=.returned (.agg #[.int .i64 t,.int .i64 jj,.int .i64 lo,.int .i64 hi,.int .i64 n,.int .i64 f])∧Below w.heap.size w w':=by
  have HB:=Lib.hid (Blk.new' (w.alloc (.cells #[.int .i64 t,.int .i64 jj,.int .i64 lo,.int .i64 hi,.int .i64 n,.int .i64 f,.slice A1 l1 c1,.slice A2 l2 c2,.slice A3 l3 c3] 126)) 118 #[.int .i64 t,.int .i64 jj,.int .i64 lo,.int .i64 hi,.int .i64 n,.int .i64 f] (b:=w.heap.size+1) (by simp))
  go_enter Tryz.func161,Tryz.ntmps161
  go_wp2
  have y0:=HB.out.cell 0;have y1:=HB.out.cell 1;have y2:=HB.out.cell 2;have y3:=HB.out.cell 3;have y4:=HB.out.cell 4;have y5:=HB.out.cell 5
  refine bodyPost_ret (v:=.agg #[.int .i64 t,.int .i64 jj,.int .i64 lo,.int .i64 hi,.int .i64 n,.int .i64 f]) (by simp [results,Tryz.results161,go_sem,y0,y1,y2,y3,y4,y5]) rfl ⟨rfl,?_⟩
  exact ext_alloc (ext_new _ _) _
theorem stSameG (p:RPT) (hr:p.rows.length≤1000) (hp:p.paths.length≤1000) (hps:∀ x ∈ p.paths,x.length≤1000) (hro:p.roots.length≤1000) (a b d a' b' d':Value) (w:World) (h1:RPS (fun _=>True) w p a b d) (h2:RPS (fun _=>True) w p a' b' d') :
    Calls Tryz.prog 109 #[.agg (p.nums a b d),.agg (p.nums a' b' d')] w fun e w'=>e=.returned (.bool true)∧Below w.heap.size w w':=by
  have HP:=Lib.hid (fun (W:World) (h:Below w.heap.size w W)=>alikePathsG (fun _=>True) (fun _=>True) p.paths hp hps b b' W ((h1.ext h).paths) ((h2.ext h).paths))
  have HQ:=Lib.hid (fun (W:World) (h:Below w.heap.size w W)=>eqRowsG p.rows a a' W ((h1.ext h).rows.rowsL) ((h2.ext h).rows.rowsL) hr)
  have HO:=Lib.hid (fun (W:World) (h:Below w.heap.size w W)=>eqStrsG (fun _=>True) (fun _=>True) p.roots d d' hro W ((h1.ext h).roots) ((h2.ext h).roots))
  obtain ⟨A1,c1,ha,-⟩:=h1.rows
  obtain ⟨A2,c2,hb,-⟩:=h1.paths
  obtain ⟨A3,c3,hd,-⟩:=h1.roots
  obtain ⟨B1,d1,ha',-⟩:=h2.rows
  obtain ⟨B2,d2,hb',-⟩:=h2.paths
  obtain ⟨B3,d3,hd',-⟩:=h2.roots
  obtain ⟨t,jj,lo,hi,n,f,rows,paths,roots⟩:=p
  dsimp only [RPT.nums] at *
  generalize rows.length=l1 at *
  generalize paths.length=l2 at *
  generalize roots.length=l3 at *
  subst ha hb hd ha' hb' hd'
  clear h1 h2 hr hp hps hro
  obtain ⟨X,hX⟩:∃ X,X=(w.alloc (.cells #[.int .i64 t,.int .i64 jj,.int .i64 lo,.int .i64 hi,.int .i64 n,.int .i64 f,.slice A1 l1 c1,.slice A2 l2 c2,.slice A3 l3 c3] 126)).alloc (.cells #[.int .i64 t,.int .i64 jj,.int .i64 lo,.int .i64 hi,.int .i64 n,.int .i64 f,.slice B1 l1 d1,.slice B2 l2 d2,.slice B3 l3 d3] 126):=⟨_,rfl⟩
  have hE:Below w.heap.size w X:=by rw [hX];exact ext_alloc (ext_new _ _) _
  have HBB:=Lib.hid (show Blk X w.heap.size 126 #[.int .i64 t,.int .i64 jj,.int .i64 lo,.int .i64 hi,.int .i64 n,.int .i64 f,.slice A1 l1 c1,.slice A2 l2 c2,.slice A3 l3 c3]∧Blk X (w.heap.size+1) 126 #[.int .i64 t,.int .i64 jj,.int .i64 lo,.int .i64 hi,.int .i64 n,.int .i64 f,.slice B1 l1 d1,.slice B2 l2 d2,.slice B3 l3 d3] by rw [hX];exact ⟨(Blk.new _ _ _).alloc _,Blk.new' _ _ _ (by simp)⟩)
  have HE:=Lib.hid hE
  have HX:=Lib.hid hX
  clear hE hX
  go_enter Tryz.func109,Tryz.ntmps109
  go_wp2_with fail
  rw [← HX.out]
  refine (HP.out _ HE.out).mono ?_
  rintro e W1 ⟨rfl,hb1⟩
  have HB1:=Lib.hid (show Blk W1 w.heap.size 126 #[.int .i64 t,.int .i64 jj,.int .i64 lo,.int .i64 hi,.int .i64 n,.int .i64 f,.slice A1 l1 c1,.slice A2 l2 c2,.slice A3 l3 c3]∧Blk W1 (w.heap.size+1) 126 #[.int .i64 t,.int .i64 jj,.int .i64 lo,.int .i64 hi,.int .i64 n,.int .i64 f,.slice B1 l1 d1,.slice B2 l2 d2,.slice B3 l3 d3] from ⟨HBB.out.1.ext hb1,HBB.out.2.ext hb1⟩)
  have HE1:=Lib.hid (ext_call HE.out hb1)
  clear hb1 HBB HX HE HP
  generalize W1=X at *
  have hq:=eq6s t jj lo hi n f
  have HK:=Lib.hid (rp2Keep HB1.out (ext_refl X))
  obtain ⟨e0,e1,e2,e3,e4,e5,e6,e7,e8,k0,k1,k2,k3,k4,k5,k6,k7,k8,_⟩:=HK.out
  go_wp2
  go_region_held3 (fun w'=>w'.cell? ⟨w.heap.size,0,none⟩=some (.int .i64 t)∧w'.cell? ⟨w.heap.size,1,none⟩=some (.int .i64 jj)∧w'.cell? ⟨w.heap.size,2,none⟩=some (.int .i64 lo)∧w'.cell? ⟨w.heap.size,3,none⟩=some (.int .i64 hi)∧w'.cell? ⟨w.heap.size,4,none⟩=some (.int .i64 n)∧w'.cell? ⟨w.heap.size,5,none⟩=some (.int .i64 f)∧w'.cell? ⟨w.heap.size,6,none⟩=some (.slice A1 l1 c1)∧w'.cell? ⟨w.heap.size,7,none⟩=some (.slice A2 l2 c2)∧w'.cell? ⟨w.heap.size,8,none⟩=some (.slice A3 l3 c3)∧w'.cell? ⟨w.heap.size+1,0,none⟩=some (.int .i64 t)∧w'.cell? ⟨w.heap.size+1,1,none⟩=some (.int .i64 jj)∧w'.cell? ⟨w.heap.size+1,2,none⟩=some (.int .i64 lo)∧w'.cell? ⟨w.heap.size+1,3,none⟩=some (.int .i64 hi)∧w'.cell? ⟨w.heap.size+1,4,none⟩=some (.int .i64 n)∧w'.cell? ⟨w.heap.size+1,5,none⟩=some (.int .i64 f)∧w'.cell? ⟨w.heap.size+1,6,none⟩=some (.slice B1 l1 d1)∧w'.cell? ⟨w.heap.size+1,7,none⟩=some (.slice B2 l2 d2)∧w'.cell? ⟨w.heap.size+1,8,none⟩=some (.slice B3 l3 d3)∧Below X.heap.size X w')
    (first|with_reducible assumption|exact rp2Keep HB1.out (by repeat (first|with_reducible refine ext_alloc ?_ _|with_reducible refine Below.drew ?_|with_reducible refine ext_drewN ?_ _|with_reducible assumption|with_reducible exact ext_refl _)))
    (first
      | (go_at_call 161;(with_reducible refine (sameNumsG _ _ _ _ _ _ _ _ _ _ _ _ _ _ _ _).mono ?_);rintro e Z ⟨rfl,hb'⟩;have hXZ:=ext_call (rp2B (by assumption)) hb';clear hb')
      | (go_at_call 159;(with_reducible refine (HQ.out _ ?_).mono ?_);(exact ext_call HE1.out (rp2B (by assumption)));rintro e Z ⟨rfl,hb'⟩;have hXZ:=ext_call (rp2B (by assumption)) hb';clear hb')
      | (go_at_call 164;(with_reducible refine (HO.out _ ?_).mono ?_);(exact ext_call HE1.out (rp2B (by assumption)));rintro e Z ⟨rfl,hb'⟩;have hXZ:=ext_call (rp2B (by assumption)) hb';clear hb'))
  all_goals
    have HZ:=Lib.hid (ext_call HE1.out hXZ)
    clear hXZ e0 e1 e2 e3 e4 e5 e6 e7 e8 k0 k1 k2 k3 k4 k5 k6 k7 k8 hq
    go_wp2
    go_ret
    exact ⟨rfl,HZ.out⟩
theorem eqRPsG (p:RPT) (hr:p.rows.length≤1000) (hp:p.paths.length≤1000) (hps:∀ x ∈ p.paths,x.length≤1000) (hro:p.roots.length≤1000) (va vb:Value) (w:World) (h1:RPsS (fun _=>True) w va [p]) (h2:RPsS (fun _=>True) w vb [p]) :
    Calls Tryz.prog 160 #[va,vb,.func (.func 109) #[] #[]] w fun e w'=>e=.returned (.bool true)∧Below w.heap.size w w':=by
  obtain ⟨g,c,a,b,d,rfl,s1,g1⟩:=h1.one
  obtain ⟨g',c',a',b',d',rfl,s2,g2⟩:=h2.one
  have HS:=Lib.hid (fun (W:World) (h:Below w.heap.size w W)=>stSameG p hr hp hps hro a b d a' b' d' W (s1.ext h) (s2.ext h))
  obtain ⟨A1,c1,ha,-⟩:=s1.rows
  obtain ⟨A2,c2,hb,-⟩:=s1.paths
  obtain ⟨A3,c3,hd,-⟩:=s1.roots
  obtain ⟨B1,d1,ha',-⟩:=s2.rows
  obtain ⟨B2,d2,hb',-⟩:=s2.paths
  obtain ⟨B3,d3,hd',-⟩:=s2.roots
  obtain ⟨t,jj,lo,hi,n,f,rows,paths,roots⟩:=p
  dsimp only [RPT.nums] at *
  generalize rows.length=l1 at *
  generalize paths.length=l2 at *
  generalize roots.length=l3 at *
  subst ha hb hd ha' hb' hd'
  have q0:=g1 0 (by omega)
  have q1:=g1 1 (by omega)
  have q2:=g1 2 (by omega)
  have q3:=g1 3 (by omega)
  have q4:=g1 4 (by omega)
  have q5:=g1 5 (by omega)
  have q6:=g1 6 (by omega)
  have q7:=g1 7 (by omega)
  have q8:=g1 8 (by omega)
  have s0:=g2 0 (by omega)
  have s1':=g2 1 (by omega)
  have s2':=g2 2 (by omega)
  have s3:=g2 3 (by omega)
  have s4:=g2 4 (by omega)
  have s5:=g2 5 (by omega)
  have s6:=g2 6 (by omega)
  have s7:=g2 7 (by omega)
  have s8:=g2 8 (by omega)
  simp only [List.getElem?_toArray,List.getElem?_cons_zero,List.getElem?_cons_succ] at q0 q1 q2 q3 q4 q5 q6 q7 q8 s0 s1' s2' s3 s4 s5 s6 s7 s8
  have gl:=lt_of_cell (p:=⟨g,0,none⟩) q0
  have gl':=lt_of_cell (p:=⟨g',0,none⟩) s0
  have gl1:g'<w.heap.size+1:=Nat.lt_succ_of_lt gl'
  have HE:=Lib.hid (ext_alloc (ext_new w (.cells #[.int .i64 t,.int .i64 jj,.int .i64 lo,.int .i64 hi,.int .i64 n,.int .i64 f,.slice A1 l1 c1,.slice A2 l2 c2,.slice A3 l3 c3] 126)) (.cells #[.int .i64 t,.int .i64 jj,.int .i64 lo,.int .i64 hi,.int .i64 n,.int .i64 f,.slice B1 l1 d1,.slice B2 l2 d2,.slice B3 l3 d3] 126))
  clear h1 h2 s1 s2 g1 g2 hr hp hps hro
  go_enter Tryz.func160,Tryz.ntmps160
  go_wp2
  refine wp_loop_rounds 2 ?_
  rw [rounds_succ]
  go_wp2_with fail
  refine (HS.out _ HE.out).mono ?_
  rintro e W1 ⟨rfl,hb1⟩
  have HE1:=Lib.hid (ext_call HE.out hb1)
  clear hb1 q0 q1 q2 q3 q4 q5 q6 q7 q8 s0 s1' s2' s3 s4 s5 s6 s7 s8 gl gl' gl1
  go_wp2
  rw [rounds_succ]
  go_wp2
  go_ret
  exact ⟨rfl,HE1.out⟩
theorem alikeRPsG (p:RPT) (hr:p.rows.length≤1000) (hp:p.paths.length≤1000) (hps:∀ x ∈ p.paths,x.length≤1000) (hro:p.roots.length≤1000) (va vb:Value) (w:World) (h1:RPsS (fun _=>True) w va [p]) (h2:RPsS (fun _=>True) w vb [p]) :
    Calls Tryz.prog 108 #[va,vb,.func (.func 109) #[] #[]] w fun e w'=>e=.returned (.bool true)∧Below w.heap.size w w':=by
  have HE:=Lib.hid (eqRPsG p hr hp hps hro va vb w h1 h2)
  obtain ⟨A,c,rfl,-⟩:=h1
  obtain ⟨B,d,rfl,-⟩:=h2
  go_enter Tryz.func108,Tryz.ntmps108
  go_wp2_with fail
  refine HE.out.mono ?_
  rintro e W1 ⟨rfl,hb1⟩
  have HE1:=Lib.hid hb1
  clear hb1
  go_wp2
  go_ret
  exact ⟨rfl,HE1.out⟩
theorem evalSameG (l:List RowT) (hl:l.length≤1000) (va vb:Value) (val:Int) (fd:Bool) (w:World) (h1:RowsL w va l) (h2:RowsL w vb l) :
    Calls Tryz.prog 107 #[.agg #[va,.int .i64 val,.bool fd],.agg #[vb,.int .i64 val,.bool fd]] w fun e w'=>e=.returned (.bool true)∧Below w.heap.size w w':=by
  have HR:=Lib.hid (fun (W:World) (h:Below w.heap.size w W)=>eqRowsG l va vb W (h1.ext h) (h2.ext h) hl)
  obtain ⟨A,c,rfl,-⟩:=h1
  obtain ⟨B,d,rfl,-⟩:=h2
  have HE:=Lib.hid (ext_alloc (ext_new w (.cells #[.slice A l.length c,.int .i64 val,.bool fd] 36)) (.cells #[.slice B l.length d,.int .i64 val,.bool fd] 36))
  have hbb:(fd == fd)=true:=by simp
  go_enter Tryz.func107,Tryz.ntmps107
  go_wp2_with fail
  refine (HR.out _ HE.out).mono ?_
  rintro e W1 ⟨rfl,hb1⟩
  have HE1:=Lib.hid (ext_call HE.out hb1)
  clear hb1
  go_wp2
  go_ret
  exact ⟨rfl,HE1.out⟩
theorem proofSameG (t k si un ba:Int) (l:List RowT) (hl:l.length≤1000) (p:RPT) (hr:p.rows.length≤1000) (hp:p.paths.length≤1000) (hps:∀ x ∈ p.paths,x.length≤1000) (hro:p.roots.length≤1000) (f:Nat) (Ls:List (List ChgT)) (hLs:Ls.length≤1000) (hLl:∀ L ∈ Ls,L.length≤1000)
    (u v rv rv' lv lv':Value) (w:World) (hu:RowsL w u l) (hv:RowsL w v l) (h1:RPsS (fun _=>True) w rv [p]) (h2:RPsS (fun _=>True) w rv' [p]) (g1:RecsL w lv f Ls) (g2:RecsL w lv' f Ls) :
    Calls Tryz.prog 62 #[.agg (ansArr t k u 0 false si un ba rv lv),.agg (ansArr t k v 0 false si un ba rv' lv')] w fun e w'=>e=.returned (.bool true)∧Below w.heap.size w w':=by
  have HS:=Lib.hid (fun (W:World) (h:Below w.heap.size w W)=>evalSameG l hl u v 0 false W (hu.ext h) (hv.ext h))
  have HRp:=Lib.hid (fun (W:World) (h:Below w.heap.size w W)=>alikeRPsG p hr hp hps hro rv rv' W (h1.ext h) (h2.ext h))
  have HLp:=Lib.hid (fun (W:World) (h:Below w.heap.size w W)=>alikeRecsG f Ls hLs hLl lv lv' W (g1.ext h) (g2.ext h))
  obtain ⟨Aa,ca,rfl,-⟩:=hu
  obtain ⟨Ab,cb,rfl,-⟩:=hv
  obtain ⟨Ra,ra,rfl,-⟩:=h1
  obtain ⟨Rb,rb,rfl,-⟩:=h2
  obtain ⟨La,la,rfl,-⟩:=g1
  obtain ⟨Lb,lb,rfl,-⟩:=g2
  unfold ansArr
  generalize l.length=nu at *
  generalize Ls.length=nl at *
  rw [show ([p]:List RPT).length=1 from rfl] at *
  obtain ⟨X,hX⟩:∃ X,X=(w.alloc (.cells #[.int .i64 1,.int .i64 t,.int .i64 0,.int .i64 k,.int .i64 k,.int .i64 0,.int .i64 0,.slice Aa nu ca,.int .i64 0,.bool false,.int .i64 si,.int .i64 un,.int .i64 ba,.slice Ra 1 ra,.slice La nl la] 39)).alloc (.cells #[.int .i64 1,.int .i64 t,.int .i64 0,.int .i64 k,.int .i64 k,.int .i64 0,.int .i64 0,.slice Ab nu cb,.int .i64 0,.bool false,.int .i64 si,.int .i64 un,.int .i64 ba,.slice Rb 1 rb,.slice Lb nl lb] 39):=⟨_,rfl⟩
  have hE:Below w.heap.size w X:=by rw [hX];exact ext_alloc (ext_new _ _) _
  have HBa:=Lib.hid (show Blk X w.heap.size 39 #[.int .i64 1,.int .i64 t,.int .i64 0,.int .i64 k,.int .i64 k,.int .i64 0,.int .i64 0,.slice Aa nu ca,.int .i64 0,.bool false,.int .i64 si,.int .i64 un,.int .i64 ba,.slice Ra 1 ra,.slice La nl la] by rw [hX];exact (Blk.new _ _ _).alloc _)
  have HBb:=Lib.hid (show Blk X (w.heap.size+1) 39 #[.int .i64 1,.int .i64 t,.int .i64 0,.int .i64 k,.int .i64 k,.int .i64 0,.int .i64 0,.slice Ab nu cb,.int .i64 0,.bool false,.int .i64 si,.int .i64 un,.int .i64 ba,.slice Rb 1 rb,.slice Lb nl lb] by rw [hX];exact Blk.new' _ _ _ (by simp))
  have HE:=Lib.hid hE
  have HX:=Lib.hid hX
  clear hE hX hl hr hp hps hro hLs hLl
  go_enter Tryz.func62,Tryz.ntmps62
  go_wp2_with fail
  rw [← HX.out]
  refine (HS.out _ HE.out).mono ?_
  rintro e W1 ⟨rfl,hb1⟩
  have HE1:=Lib.hid hb1
  have a13:=(HBa.out.ext hb1).cell 13
  have b13:=(HBb.out.ext hb1).cell 13
  clear hb1
  go_wp2_with fail
  refine (HRp.out _ (ext_call HE.out HE1.out)).mono ?_
  rintro e W2 ⟨rfl,hb2⟩
  have HE2:=Lib.hid (ext_call HE1.out hb2)
  have a14:=(HBa.out.ext HE2.out).cell 14
  have b14:=(HBb.out.ext HE2.out).cell 14
  clear hb2 a13 b13
  go_wp2_with (go_at_call 110;refine (HLp.out _ (ext_call HE.out HE2.out)).mono ?_;rintro e W3 ⟨rfl,hb3⟩;have HE3:=Lib.hid (ext_call HE2.out hb3);clear hb3)
  go_ret
  exact ⟨rfl,ext_call HE.out HE3.out⟩
end
end Go.Proofs.YtimoapjhepmehaaGreatDoor
