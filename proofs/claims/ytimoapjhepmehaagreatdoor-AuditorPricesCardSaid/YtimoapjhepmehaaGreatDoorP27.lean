/-
  slices.DeleteFunc, Insert at at most one row; package predicate: without, inserted, behind.
-/
import Derived.Test.YtimoapjhepmehaaGreatDoorP24
import Derived.Test.YtimoapjhepmehaaGreatDoorP26
import Derived.Test.YtimoapjhepmehaaGreatDoorP17
import Derived.Test.YtimoapjhepmehaaGreatDoorP16
import Derived.LoopN
import Derived.Laws.IdiomCopy
set_option linter.unusedSimpArgs false
set_option linter.unusedVariables false
set_option maxHeartbeats 4000000
set_option maxRecDepth 100000
namespace Go.Proofs.YtimoapjhepmehaaGreatDoor
open Go.RowKit Go.Shelf
attribute [local go_sem ↓] app_exec app_sem Go.wp_at_zero Go.wp_at_succ
theorem zeroRowV (w:World):(zeroValue 67).run Tryz.prog w=.ok (.agg #[.int .i64 0,.int .i64 0,.int .i64 0,.int .i64 0,.int .i64 0]) w:=by kernel_rfl
theorem clearRow (g c:Nat) (cur:Array Value) (W:World) (hB:Blk W g 67 cur) (hs:5≤cur.size) (ty:TypeId) :
    (Builtin.clear_ #[34] ty #[.slice (some ⟨g,0,none⟩) 1 c]).run Tryz.prog W=.ok (.tuple #[]) (W.setCells g 0 [.int .i64 0,.int .i64 0,.int .i64 0,.int .i64 0,.int .i64 0]):=by
  have hst:=run_storeCells_cells (P:=Tryz.prog) g 0 [.int .i64 0,.int .i64 0,.int .i64 0,.int .i64 0,.int .i64 0] 0 W (fun j hj=>by
    rw [Nat.add_zero,Nat.zero_add,hB.cell j,Array.getElem?_eq_getElem (by simp at hj;omega)]
    rfl) (fun j hj=>hB.frozen _) (by simp [Value.oneCell'])
  have hzc:(Builtin.zeroCells (Value.agg #[.int .i64 0,.int .i64 0,.int .i64 0,.int .i64 0,.int .i64 0]).cells 1).toList=[.int .i64 0,.int .i64 0,.int .i64 0,.int .i64 0,.int .i64 0]:=by simp [Builtin.zeroCells,Value.cells,show Array.range 5=#[0,1,2,3,4] from rfl]
  simp [Builtin.clear_,run_underlying Tryz.underlying34,zeroRowV,hzc,hst]
theorem indexNone (A:Option Addr) (c n:Nat) (caps:Array Value) (w:World):Calls Tryz.prog 87 #[.slice A 0 c,.func (.func n) #[] caps] w fun e w'=>e=.returned (.int .i64 (-1))∧w=w':=by
  go_enter Tryz.func87,Tryz.ntmps87
  go_wp2
  refine wp_loop_rounds 1 ?_
  rw [rounds_succ]
  go_wp2
  go_ret
  exact ⟨rfl,rfl⟩
theorem deleteNone (A:Option Addr) (c n:Nat) (caps:Array Value) (w:World):Calls Tryz.prog 239 #[.slice A 0 c,.func (.func n) #[] caps] w fun e w'=>e=.returned (.slice A 0 c)∧w=w':=by
  go_enter Tryz.func239,Tryz.ntmps239
  go_wp2_with (go_at_call 87;refine (indexNone _ _ _ _ _).mono ?_;rintro e w' ⟨rfl,rfl⟩)
  go_ret
  exact ⟨rfl,rfl⟩
theorem deleteOne {I:World→Prop} {fn:Nat} {caps:Array Value} {p:RowT→Bool} (hf:RowFn I fn caps p) (r:RowT) (hp:p r=true) (w0:World) (v:Value) (w:World) (hI:I w) (hE:Below w0.heap.size w0 w) (hv:w.ownsRow w0.heap.size 67 5 v 1 (rc [r])) :
    Calls Tryz.prog 239 #[v,.func (.func fn) #[] caps] w fun e w'=>∃ u,e=.returned u∧w'.ownsRow w0.heap.size 67 5 u 0 []∧Below w0.heap.size w0 w':=by
  have hl:=own_rows5 (l:=[r]) hv
  have HIX:=Lib.hid (indexRows hf [r] v w hl hI (by simp))
  have hix:idxZ p [r]=0:=by simp [idxZ,hp]
  rw [hix] at HIX
  rcases hv.2 with ⟨_,h⟩|⟨g,cap,cur,rfl,hg,hb,hn,hcap,hsz,htk⟩
  · omega
  have HB:=Lib.hid (show Blk w g 67 cur from hb)
  have HE:=Lib.hid hE
  have hc1:(1:Int)≤(cap:Int):=by omega
  have hcz:¬ (cap:Int)<0:=by omega
  have HG:=Lib.hid hg
  have HCP:=Lib.hid hcap
  have HSZ:=Lib.hid hsz
  have hcs:5≤cur.size:=by omega
  clear hf hl hv hI hE hix hb htk hg hcap
  go_enter Tryz.func239,Tryz.ntmps239
  go_wp2_with fail
  refine HIX.out.mono ?_
  rintro e W1 ⟨rfl,hb1⟩
  have HB1:=Lib.hid (HB.out.ext hb1)
  have HE1:=Lib.hid (ext_call HE.out hb1)
  have hcl:=fun ty=>clearRow g cap cur W1 HB1.out hcs ty
  clear hb1
  go_wp2
  refine wp_loop_rounds 1 ?_
  rw [rounds_succ]
  go_wp2_with (simp only [hcl])
  go_ret
  have hB2:Blk (W1.setCells g 0 [.int .i64 0,.int .i64 0,.int .i64 0,.int .i64 0,.int .i64 0]) g 67 (((((cur.setIfInBounds 0 (.int .i64 0)).setIfInBounds 1 (.int .i64 0)).setIfInBounds 2 (.int .i64 0)).setIfInBounds 3 (.int .i64 0)).setIfInBounds 4 (.int .i64 0)):=((((HB1.out.set_ 0 _).set_ 1 _).set_ 2 _).set_ 3 _).set_ 4 _
  refine ⟨_,rfl,⟨rfl,.inr ⟨g,cap,_,rfl,HG.out,hB2,by omega,HCP.out,by simpa using HSZ.out,by simp⟩⟩,?_⟩
  exact ext_set (ext_set (ext_set (ext_set (ext_set HE1.out HG.out _) HG.out _) HG.out _) HG.out _) HG.out _
theorem withoutRow {I:World→Prop} {fn:Nat} {caps:Array Value} {p:RowT→Bool} (hf:RowFn I fn caps p) (l:List RowT) (hl:l.length≤1) (hp:∀ r ∈ l,p r=true) (v:Value) (w:World) (hI:I w) (hv:RowsL w v l) :
    Calls Tryz.prog 232 #[v,.func (.func fn) #[] caps] w fun e w'=>∃ u,e=.returned u∧w'.ownsRow w.heap.size 67 5 u 0 []∧Below w.heap.size w w':=by
  have HCL:=Lib.hid (cloneRowsG l v (by omega) w hv)
  have HF:=Lib.hid hf
  have HI:=Lib.hid hI
  have HP:=Lib.hid hp
  obtain ⟨A,c,rfl,-⟩:=hv
  clear hf hI hp
  go_enter Tryz.func232,Tryz.ntmps232
  go_wp2_with fail
  refine HCL.out.mono ?_
  rintro e W1 ⟨u,rfl,hu,hb1⟩
  have HU:=Lib.hid hu
  have HE1:=Lib.hid hb1
  obtain ⟨Au,cu,rfl⟩:=own_shape hu
  clear hu hb1
  rcases l with _|⟨r,l⟩
  · go_wp2_with (go_at_call 239;refine (deleteNone _ _ _ _ _).mono ?_;rintro e w' ⟨rfl,rfl⟩)
    go_ret
    exact ⟨_,rfl,HU.out,HE1.out⟩
  · obtain rfl:l=[]:=by simpa using hl
    go_wp2_with fail
    refine (deleteOne HF.out r (HP.out r (by simp)) w _ W1 (HF.out.keeps _ _ HI.out HE1.out) HE1.out HU.out).mono ?_
    rintro e W2 ⟨u2,rfl,hu2,hb2⟩
    have HU2:=Lib.hid hu2
    have HE2:=Lib.hid hb2
    obtain ⟨A2,c2,rfl⟩:=own_shape hu2
    clear hu2 hb2
    go_wp2
    go_ret
    exact ⟨_,rfl,HU2.out,HE2.out⟩
theorem insertNone (r:RowT) (gx B:Nat) (v:Value) (w:World) (hB:B≤w.heap.size) (hv:w.ownsRow B 67 5 v 0 []) (hx:Blk w gx 67 #[.int .i64 r.t,.int .i64 r.k,.int .i64 r.a,.int .i64 r.b,.int .i64 r.c]) :
    Calls Tryz.prog 240 #[v,.int .i64 0,.slice (some ⟨gx,0,none⟩) 1 1] w fun e w'=>∃ u,e=.returned u∧w'.ownsRow B 67 5 u 1 (rc [r])∧ExtS (fun k=>v.ownBlock=some k) w w':=by
  obtain ⟨ii,hii,hzi0,hzi1,hzi2⟩:=info_parts rowz_info
  obtain ⟨h1,W4,hW4,v4,hv4,ho4,hg4,-⟩:=app_own_at (P:=Tryz.prog) (w:=w) B 34 34 67 ii (.agg #[.int .i64 0,.int .i64 0,.int .i64 0,.int .i64 0,.int .i64 0]) 5 40 Tryz.underlying34 hii hzi0 hzi1 hzi2 rfl (by decide) v 0 [] hv ⟨gx,0,none⟩ 1 1 (encR r) rfl (fun i u hu=>by
    rw [add_lit0,hx.cell,← hu]
    simp [encR]) (encR_one r) (by unfold maxLen;omega) (by omega) hB
  have HO4:=Lib.hid (show W4.ownsRow B 67 5 v4 1 (rc [r]) by simpa [rc] using ho4)
  have HE4:=Lib.hid (show ExtS (fun k=>v.ownBlock=some k) w W4 from ⟨hg4.os,hg4.tape,hg4.output,hg4.size,fun k hk hn=>hg4.block k hk (fun e=>hn e.symm)⟩)
  obtain ⟨A,c,rfl⟩:=own_shape hv
  obtain ⟨A4,c4,rfl⟩:=own_shape ho4
  clear hv hx ho4 hg4
  cases A with
  | none=>
    go_enter Tryz.func240,Tryz.ntmps240
    go_wp2
    go_ret
    exact ⟨_,rfl,HO4.out,HE4.out⟩
  | some a=>
    go_enter Tryz.func240,Tryz.ntmps240
    go_wp2
    go_ret
    exact ⟨_,rfl,HO4.out,HE4.out⟩
theorem insertedNone (r:RowT) (n:Nat) (caps:Array Value) (B:Nat) (v:Value) (w:World) (hB:B≤w.heap.size) (hv:w.ownsRow B 67 5 v 0 []) :
    Calls Tryz.prog 234 #[v,.agg #[.int .i64 r.t,.int .i64 r.k,.int .i64 r.a,.int .i64 r.b,.int .i64 r.c],.func (.func n) #[] caps] w fun e w'=>∃ u,e=.returned u∧w'.ownsRow B 67 5 u 1 (rc [r])∧ExtS (fun k=>v.ownBlock=some k) w w':=by
  have HV:=Lib.hid hv
  obtain ⟨A,c,rfl⟩:=own_shape hv
  have hw1:((-1:Int)<0):=by decide
  clear hv
  go_enter Tryz.func234,Tryz.ntmps234
  go_wp2_with (go_at_call 87;refine (indexNone _ _ _ _ _).mono ?_;rintro e w' ⟨rfl,rfl⟩)
  refine (insertNone r (w.heap.size+1) B _ _ (by simp;omega) ((HV.out.alloc _).alloc _) (Blk.new' _ _ _ (by simp))).mono ?_
  rintro e W1 ⟨u,rfl,hu,hx1⟩
  have HU:=Lib.hid hu
  have HX1:=Lib.hid ((ExtS.of_ext (ext_alloc (ext_new _ _) _)).trans hx1)
  obtain ⟨Au,cu,rfl⟩:=own_shape hu
  clear hu hx1
  go_wp2
  go_ret
  exact ⟨_,rfl,HU.out,HX1.out⟩
end Go.Proofs.YtimoapjhepmehaaGreatDoor
