/-
  The statement on OriginHistory: for every table of rows of three integers and every two integers the law returns true. Condition: the package variable digest.round reads as the program's own initialisers lay it (the card ties it to the text).
-/
import Derived.Test.YtnajpjnnlocfgaaGreatDoorJ53
import Derived.Test.YtnajpjnnlocfgaaGreatDoorCards
import Derived.Test.YtnajpjnnlocfgaaGreatDoorTie
import Derived.ProofKit
import Derived.LaidMore
import Derived.OpenShut
import Derived.Deep.Slices
import Derived.Stop.Joined
import Derived.Lib.LaidTab
import Derived.Lib.SmallJoins
import Derived.SliceStrings
import Derived.SevenTiedAt
set_option linter.unusedSimpArgs false
set_option linter.unusedVariables false
namespace Go.Proofs.YtnajpjnnlocfgaaGreatDoor
open Go.ChangeShapes Go.WideShapes Go.ChangeAt Go.WideMaps Go.WideElems Go.RowKit Go.Joins Go.Deep
open Go.ChangeMaps (open_string shut_string)
theorem ownKnob_none:ownKnob Tryz.prog.godebug=none:=by kernel_rfl
theorem laidOut_ok:laidOutB Tryz.prog=true:=by kernel_rfl
theorem gRound:Tryz.prog.globalNamed "cachetier/digest.round" = some 0:=by kernel_rfl
theorem gRoundType:(Tryz.prog.globals[0]?).map (·.type)=some 242:=by kernel_rfl
theorem cells_round:Tryz.prog.cellsOf 242=64:=by kernel_rfl
theorem cells_u32:Tryz.prog.cellsOf 187=1:=by kernel_rfl
theorem cells_3:Tryz.prog.cellsOf 60=3:=by kernel_rfl
theorem cells_i:Tryz.prog.cellsOf 3=1:=by kernel_rfl
theorem cells_s:Tryz.prog.cellsOf 89=1:=by kernel_rfl
section
variable {H:Type} {enc:TypeId × Value→H} {W:World} {fuel:Nat}
theorem list3 {α:Type}:∀ (l:List α),l.length=3→∃ a b c,l=[a,b,c]
  | [a,b,c],_=>⟨a,b,c,rfl⟩
  | [],h=>by simp at h
  | [a],h=>by simp at h
  | [a,b],h=>by simp at h
  | a::b::c::d::l,h=>by simp at h
theorem three_of {cs:List Value} {x:DataW H × List MemPlace} (hf:DataW.trod enc Tryz.prog W 0 (fun _=>true) true fuel 60 cs=some x) :
    ∃ a b c:Int,cs=[.int .i64 a,.int .i64 b,.int .i64 c]∧in64 a∧in64 b∧in64 c:=by
  obtain ⟨xs,m,rfl,_,hl,hxl,hel⟩:=DataW.trod_array Tryz.underlying60 hf
  rw [cells_3] at hl
  obtain ⟨c0,c1,c2,rfl⟩:=list3 cs hl
  have one:∀ i,i<3→∃ n:Int,(([c0,c1,c2].drop (i*1)).take 1)=[.int .i64 n]∧in64 n:=by
    intro i hi
    have h1:=hel i hi
    rw [cells_i,List.getElem?_eq_getElem (by omega)] at h1
    obtain ⟨n,hn,_,hw⟩:=DataW.trod_int Tryz.underlying3 h1
    exact ⟨n,hn,bounds_i64 hw⟩
  obtain ⟨a,ha,wa⟩:=one 0 (by omega)
  obtain ⟨b,hb,wb⟩:=one 1 (by omega)
  obtain ⟨c,hc,wc⟩:=one 2 (by omega)
  simp at ha hb hc
  subst ha;subst hb;subst hc
  exact ⟨a,b,c,rfl,wa,wb,wc⟩
theorem trips_of {u:Value} {x:DataW H × List MemPlace} (hf:DataW.trod enc Tryz.prog W 0 (fun _=>true) true fuel 89 [u]=some x):∃ T,TripsAt W u T∧In64 T:=by
  rcases open_slice Tryz.underlying89 hf with ⟨hcs,_⟩|⟨a,len,cap,m,n,D,Pl,hcs,_,hl,hm,hmm,_,hel⟩
  · simp at hcs
    subst hcs
    exact ⟨[],⟨none,0,rfl,fun h=>absurd h (by simp)⟩,fun x hx=>by cases hx⟩
  · simp at hcs
    subst hcs
    simp only [if_true] at hmm
    rw [cells_3] at hel
    have each:∀ j,j<len→∃ t:Int × Int × Int,(W.cell? (a.add (j*3))=some (.int .i64 t.1)∧W.cell? ((a.add (j*3)).add 1)=some (.int .i64 t.2.1)∧W.cell? ((a.add (j*3)).add 2)=some (.int .i64 t.2.2))∧in64 t.1∧in64 t.2.1∧in64 t.2.2:=by
      intro j hj
      obtain ⟨cs',h1,h2⟩:=hel j (by omega)
      obtain ⟨y0,y1,y2,rfl,w0,w1,w2⟩:=three_of h2
      obtain ⟨_,_,hc⟩:=World.cells?_some h1
      exact ⟨(y0,y1,y2),⟨by simpa [Addr.add] using hc 0 (by omega),by simpa using hc 1 (by omega),by simpa using hc 2 (by omega)⟩,w0,w1,w2⟩
    obtain ⟨f,hf⟩:=choose_lt each
    refine ⟨(List.range len).map f,⟨some a,cap,by simp,fun h0=>?_⟩,fun x hx=>?_⟩
    · simp at h0
      obtain ⟨b,off,spot⟩:=a
      have hspot:spot=none:=by simpa [Addr.add] using World.cell?_spot (hf 0 h0).1.1
      subst hspot
      refine ⟨b,off,rfl,fun j x hx=>?_⟩
      rw [List.getElem?_map,Option.map_eq_some_iff] at hx
      obtain ⟨i,hi,rfl⟩:=hx
      have hlt:=(List.getElem?_eq_some_iff.1 hi).1
      rw [List.length_range] at hlt
      rw [List.getElem?_range hlt] at hi
      injection hi with hi
      subst hi
      have h9:=(hf _ hlt).1
      simp only [Addr.add_mid] at h9
      exact h9
    · simp only [List.mem_map,List.mem_range] at hx
      obtain ⟨j,hj,rfl⟩:=hx
      exact (hf j hj).2
theorem tab_of {u:Value} {x:DataW H × List MemPlace} (hf:DataW.trod enc Tryz.prog W 0 (fun _=>true) true fuel 22 [u]=some x):∃ X,TabAt W u X∧∀ T ∈ X,In64 T:=by
  rcases open_slice1 Tryz.underlying22 cells_s hf with ⟨hcs,_⟩|⟨a,len,cap,m,n,V,D,Pl,hcs,_,hl,hm,hmm,_,hel⟩
  · simp at hcs
    subst hcs
    exact ⟨[],⟨none,0,rfl,fun h=>absurd h (by simp)⟩,fun x hx=>by cases hx⟩
  · simp at hcs
    subst hcs
    simp only [if_true] at hmm
    have each:∀ j,j<len→∃ T:List (Int × Int × Int),(∃ u,W.cell? (a.add j)=some u∧TripsAt W u T)∧In64 T:=by
      intro j hj
      obtain ⟨h1,h2⟩:=hel j (by omega)
      obtain ⟨T,hT,wT⟩:=trips_of h2
      exact ⟨T,⟨_,h1,hT⟩,wT⟩
    obtain ⟨f,hf⟩:=choose_lt each
    refine ⟨(List.range len).map f,⟨some a,cap,by simp,fun h0=>?_⟩,fun x hx=>?_⟩
    · simp at h0
      obtain ⟨b,off,spot⟩:=a
      have hspot:spot=none:=by
        obtain ⟨u,hu,_⟩:=(hf 0 h0).1
        simpa [Addr.add] using World.cell?_spot hu
      subst hspot
      refine ⟨b,off,rfl,fun j x hx=>?_⟩
      rw [List.getElem?_map,Option.map_eq_some_iff] at hx
      obtain ⟨i,hi,rfl⟩:=hx
      have hlt:=(List.getElem?_eq_some_iff.1 hi).1
      rw [List.length_range] at hlt
      rw [List.getElem?_range hlt] at hi
      injection hi with hi
      subst hi
      have h9:=(hf _ hlt).1
      simp only [Addr.add_mid] at h9
      exact h9
    · simp only [List.mem_map,List.mem_range] at hx
      obtain ⟨j,hj,rfl⟩:=hx
      exact (hf j hj).2
end
theorem round_of_laid {W:World} (h:laidMetH Tryz.prog Rows.originHistoryRow.laid W):RoundOK W:=by
  rw [MakeChecks.laidMetH_plain _ _ _ (by kernel_rfl)] at h
  have ht:Lib.TabIs Tryz.prog W "cachetier/digest.round" .u32 kList:=
    Lib.tabIs_of_head (rest:=[]) gRound gRoundType Tryz.underlying242 Tryz.underlying187 cells_u32 cells_round h
  intro j v hv
  rw [List.getElem?_map,Option.map_eq_some_iff] at hv
  obtain ⟨z,hz,rfl⟩:=hv
  have hj:=(List.getElem?_eq_some_iff.1 hz).1
  have h1:=ht.cell gRound j hj
  rw [List.getD_eq_getElem?_getD,hz] at h1
  rw [Nat.zero_add]
  exact h1
theorem door_met (os:Os) (args:Array Value):laidMetH Tryz.prog Rows.originHistoryRow.laid ((World.doorLaid Tryz.prog 33 os).forCall (fun _ _=>0) ⟨#[],args,[]⟩).memory:=
  laidMetH_of_parts3 (fuel:=8) (laidMet_of_run' 8 (by kernel_rfl) (by kernel_rfl)) (by kernel_rfl) (by kernel_rfl)
set_option maxRecDepth 100000 in
theorem history_lifted (os:Os) (started:os.Started) (H:Type) (enc:TypeId × Value→H) :
    ReturnsInHanded {} Tryz.checked os 3 .any (fun w args=>(Rows.originHistorySpec.pre enc Tryz.prog Tryz.f3 [] false w args∧laidMetH Tryz.prog Rows.originHistoryRow.laid w)∧sizedMet enc Tryz.prog Tryz.f3 (OpenSpec.ofChange Rows.originHistorySpec) false w args)
      (Rows.originHistorySpec.post enc Tryz.prog Tryz.f3 false true false false):=by
  refine returnsInHanded_of_change_and (C:=Tryz.checked) (X:=fun w _=>laidMetH Tryz.prog Rows.originHistoryRow.laid w) (fun _ _ _ hh h=>h.of_heap hh) ownKnob_none started (by kernel_rfl) Tryz.func3
    (ChangeSpec.witness_shaped (enc:=enc) (C:=Tryz.checked) (os:=os) (X:=fun w _=>laidMetH Tryz.prog Rows.originHistoryRow.laid w) false (World.doorLaid Tryz.prog 33 os) #[.slice none 0 0,.int .i64 0,.int .i64 0] 8 rfl (World.shaped_of_RefB (by kernel_rfl) (by kernel_rfl)) (by kernel_rfl) (by kernel_rfl) (by kernel_rfl) (door_met os _)) ?_
  intro W base args ds gs before hval0 hW _ _ hL _
  have hval:∀ (j:Nat) t v,Tryz.f3.params[j]? = some t→args[j]? = some v→Value.okWide Tryz.prog W .any base t v:=hval0
  have hW':=hW
  obtain ⟨p,q,hA0,hV,rfl,hfz,hnd⟩:=hW
  have hA:DataW.TrodAll enc Tryz.prog W 0 (fun _=>true) true Tryz.f3.params.toList args.toList ds p:=hA0
  rw [Tryz.params3] at hA hval
  obtain ⟨v0,v1,v2,d0,d1,d2,p0,p1,p2,rfl,rfl,hp,h0,h1,h2⟩:=trodAll_three hA
  obtain ⟨rfl,rfl⟩:=trodVars_none hV
  clear hA0 hval0
  have hlt:∀ x ∈ p,x.block<W.heap.size:=fun x hx=>by simpa using hW'.lt x (List.mem_append_left _ hx)
  have hlt0:∀ x ∈ p0,x.block<W.heap.size:=fun x hx=>hlt x (by rw [hp];simp [hx])
  have hlt1:∀ x ∈ p1,x.block<W.heap.size:=fun x hx=>hlt x (by rw [hp];simp [hx])
  have hlt2:∀ x ∈ p2,x.block<W.heap.size:=fun x hx=>hlt x (by rw [hp];simp [hx])
  have hargs:∀ W':World,Below W.heap.size W W'→DataW.TrodAll enc Tryz.prog W' 0 (fun b=>decide (b<W.heap.size)) true [22,3,3] [v0,v1,v2] [d0,d1,d2] (p0++(p1++p2)):=fun W' hb=>
    trodAll_mk3 (Below.trod laidOut_ok (by kernel_rfl) (of_decide_eq_true (by kernel_rfl)) h0 hb hlt0) (Below.trod laidOut_ok (by kernel_rfl) (of_decide_eq_true (by kernel_rfl)) h1 hb hlt1)
      (Below.trod laidOut_ok (by kernel_rfl) (of_decide_eq_true (by kernel_rfl)) h2 hb hlt2)
  have hwalk:Calls Tryz.prog 3 #[v0,v1,v2] W fun e W'=>e=.returned (.bool true)∧Below W.heap.size W W':=by
    obtain ⟨n1,rfl,_,_,w1⟩:=open_int Tryz.underlying3 (hval 1 3 v1 rfl rfl) h1
    obtain ⟨n2,rfl,_,_,w2⟩:=open_int Tryz.underlying3 (hval 2 3 v2 rfl rfl) h2
    obtain ⟨a0,ln,cp,rfl⟩:=okWide_slice Tryz.underlying22 (hval 0 22 v0 rfl rfl)
    obtain ⟨fuel,hf⟩:=h0
    obtain ⟨X,hX,wX⟩:=tab_of hf
    exact history27 X _ n1 n2 (bounds_i64 w1).1 (bounds_i64 w1).2 (bounds_i64 w2).1 (bounds_i64 w2).2 W hX wX (round_of_laid hL)
  refine hwalk.mono fun e W' ⟨he,hb⟩=>?_
  subst he
  refine ⟨_,rfl,_,_,_,[],p0++(p1++p2),[],hW',?_,?_,?_,hb.frame _,fun h=>by cases h⟩
  · exact trodAll_mk1 (shut_bool Tryz.underlying4 true)
  · exact hargs W' hb
  · rfl
theorem history_said:Rows.OriginHistorySaid:=
  OpenClaim.holds_of_wide 3 Tryz.f3 rfl rfl rfl rfl rfl rfl rfl ⟨rfl,rfl,rfl,rfl,rfl⟩ rfl rfl rfl rfl rfl (by kernel_rfl) Tryz.func3 (by kernel_rfl)
    (of_decide_eq_true (by kernel_rfl)) (by unfold Func.isWrapper;first|(rw [if_pos (by decide +kernel)];kernel_rfl)|(rw [if_neg (by decide +kernel)];exact ⟨rfl,rfl⟩))
    (fun os started H enc _=>history_lifted os started H enc)
theorem history_plain (f:FuncId) (fn:Func) (hf:Tryz.pinned.checked.prog.funcNamed "cachetier/cachetierlaw27.OriginHistory" = some f) (hfn:Tryz.pinned.checked.prog.funcs[f]? = some fn) :
    false=Tryz.pinned.checked.prog.looks []∧∀ (j:Nat) t,fn.params[j]? = some t→Tryz.pinned.checked.prog.wantsStandIn t=false:=by
  obtain rfl:f=3:=Option.some.inj ((show Tryz.prog.funcNamed "cachetier/cachetierlaw27.OriginHistory" = some 3 by kernel_rfl).symm.trans hf) |>.symm
  obtain rfl:fn=Tryz.f3:=(Option.some.inj (Tryz.func3.symm.trans hfn)).symm
  refine ⟨by kernel_rfl,fun j t ht=>?_⟩
  rw [Tryz.params3] at ht
  have hm:t ∈ [22,3,3]:=by simpa using Array.mem_of_getElem? ht
  have hall:([22,3,3].all fun u => !Tryz.prog.wantsStandIn u)=true:=by kernel_rfl
  exact (show Tryz.prog.wantsStandIn t=false by simpa using List.all_eq_true.1 hall t hm)
theorem originHistory_holds:Rows.OriginHistoryCardSaid:=
  Claim7.holds_tied_plain_at .later [] _ _ _ _ history_said (fun _ h=>by cases h) (by kernel_rfl) (fun _ h=>by cases h) originHistory_row_tie rfl ⟨rfl,rfl⟩ (by kernel_rfl) rfl history_plain (by kernel_rfl)
end Go.Proofs.YtnajpjnnlocfgaaGreatDoor
