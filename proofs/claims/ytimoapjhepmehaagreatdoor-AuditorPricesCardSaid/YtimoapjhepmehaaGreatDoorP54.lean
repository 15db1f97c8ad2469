/-
  The statement on AuditorPrices: for every table of rows of six integers, every row, every three positions, every column and every quantity the law returns true, and its arguments read as before. Condition: the two listed package variables read as the program's own initialisers lay them (the card ties them to the text).
-/
import Derived.Test.YtimoapjhepmehaaGreatDoorP53
import Derived.Test.YtimoapjhepmehaaGreatDoorCards
import Derived.Test.YtimoapjhepmehaaGreatDoorTie
import Derived.ProofKit
import Derived.LaidMore
import Derived.OpenShut
import Derived.Deep.Slices
import Derived.Carry
import Derived.Stop.Joined
import Derived.Lib.LaidTab
import Derived.Lib.SmallJoins
import Derived.SliceStrings
import Derived.SevenTiedAt
set_option linter.unusedSimpArgs false
set_option linter.unusedVariables false
set_option maxRecDepth 100000
namespace Go.Proofs.YtimoapjhepmehaaGreatDoor
open Go.ChangeShapes Go.WideShapes Go.ChangeAt Go.WideMaps Go.WideElems Go.RowKit Go.Joins Go.Deep
open Go.ChangeMaps (open_string shut_string)
theorem ownKnob_none:ownKnob Tryz.prog.godebug=none:=by kernel_rfl
theorem laidOut_ok:laidOutB Tryz.prog=true:=by kernel_rfl
theorem gRound:Tryz.prog.globalNamed "cachetier/digest.round" = some 1:=by kernel_rfl
theorem gRoundType:(Tryz.prog.globals[1]?).map (·.type)=some 278:=by kernel_rfl
theorem cells_round:Tryz.prog.cellsOf 278=64:=by kernel_rfl
theorem cells_u32:Tryz.prog.cellsOf 229=1:=by kernel_rfl
theorem cells_6:Tryz.prog.cellsOf 118=6:=by kernel_rfl
theorem cells_3:Tryz.prog.cellsOf 62=3:=by kernel_rfl
theorem cells_2:Tryz.prog.cellsOf 61=2:=by kernel_rfl
theorem cells_i:Tryz.prog.cellsOf 3=1:=by kernel_rfl
section
variable {H:Type} {enc:TypeId × Value→H} {P:Program} {w:World} {base:Nat} {spare:Nat→Bool} {held:Bool}
theorem trodAll_five {t t' t'' t3 t4:TypeId} {args:Array Value} {ds:List (DataW H)} {ps:List MemPlace} (h:DataW.TrodAll enc P w base spare held [t,t',t'',t3,t4] args.toList ds ps) :
    ∃ v v' v'' v3 v4 d d' d'' d3 d4 p p' p'' p3 p4,args=#[v,v',v'',v3,v4]∧ds=[d,d',d'',d3,d4]∧ps=p++(p'++(p''++(p3++p4)))∧DataW.Trod enc P w base spare held t v d p∧DataW.Trod enc P w base spare held t' v' d' p'∧DataW.Trod enc P w base spare held t'' v'' d'' p''∧DataW.Trod enc P w base spare held t3 v3 d3 p3∧DataW.Trod enc P w base spare held t4 v4 d4 p4:=by
  obtain ⟨v,vs,d,ds',p,q,hargs,rfl,rfl,hd,hrest⟩:=trodAll_cons h
  obtain ⟨v',vs',d',ds'',p',q',rfl,rfl,rfl,hd',hrest'⟩:=trodAll_cons hrest
  obtain ⟨v'',vs'',d'',ds''',p'',q'',rfl,rfl,rfl,hd'',hrest''⟩:=trodAll_cons hrest'
  obtain ⟨v3,vs3,d3,ds3,p3,q3,rfl,rfl,rfl,hd3,hrest3⟩:=trodAll_cons hrest''
  obtain ⟨v4,vs4,d4,ds4,p4,q4,rfl,rfl,rfl,hd4,hrest4⟩:=trodAll_cons hrest3
  obtain ⟨rfl,rfl,rfl⟩:=trodAll_nil hrest4
  exact ⟨v,v',v'',v3,v4,d,d',d'',d3,d4,p,p',p'',p3,p4,by cases args;simp_all,rfl,by simp,hd,hd',hd'',hd3,hd4⟩
theorem trodAll_mk5 {t t' t'' t3 t4:TypeId} {v v' v'' v3 v4:Value} {d d' d'' d3 d4:DataW H} {p p' p'' p3 p4:List MemPlace} (h:DataW.Trod enc P w base spare held t v d p) (h':DataW.Trod enc P w base spare held t' v' d' p')
    (h'':DataW.Trod enc P w base spare held t'' v'' d'' p'') (h3:DataW.Trod enc P w base spare held t3 v3 d3 p3) (h4:DataW.Trod enc P w base spare held t4 v4 d4 p4):DataW.TrodAll enc P w base spare held [t,t',t'',t3,t4] [v,v',v'',v3,v4] [d,d',d'',d3,d4] (p++(p'++(p''++(p3++p4)))):=⟨p,p'++(p''++(p3++p4)),h,trodAll_mk4 h' h'' h3 h4,rfl⟩
theorem okWide_array {r:Reach} {b0 n:Nat} {t e:TypeId} {v:Value} (ht:P.underlying t=some (.array n e)) (h:Value.okWide P w r b0 t v):∃ cs,v=.agg cs∧cs.size=P.cellsOf t:=by
  simp only [Value.okWide,ht] at h
  obtain ⟨cs,h1,h2,_⟩:=h
  exact ⟨cs,h1,h2⟩
end
section
variable {H:Type} {enc:TypeId × Value→H} {W:World} {fuel:Nat}
theorem ints_of {t:TypeId} {n:Nat} (ht:Tryz.prog.underlying t=some (.array n 3)) (hc:Tryz.prog.cellsOf t=n) {cs:List Value} {x:DataW H × List MemPlace} (hf:DataW.trod enc Tryz.prog W 0 (fun _=>true) true fuel t cs=some x) :
    ∃ y:Nat→Int,∀ i,i<n→cs[i]? = some (.int .i64 (y i))∧in64 (y i):=by
  obtain ⟨xs,m,rfl,_,hl,hxl,hel⟩:=DataW.trod_array ht hf
  rw [hc] at hl
  refine choose_lt (α:=Int) (p:=fun i k=>cs[i]? = some (.int .i64 k)∧in64 k) (fun i hi=>?_)
  have h1:=hel i hi
  rw [cells_i,List.getElem?_eq_getElem (by omega)] at h1
  obtain ⟨k,hk,_,hw⟩:=DataW.trod_int Tryz.underlying3 h1
  refine ⟨k,?_,bounds_i64 hw⟩
  have h2:=congrArg (fun l:List Value=>l[0]?) hk
  simpa [List.getElem?_take,List.getElem?_drop] using h2
theorem agg_of {r:Reach} {b0:Nat} {t:TypeId} {n:Nat} (ht:Tryz.prog.underlying t=some (.array n 3)) (hc:Tryz.prog.cellsOf t=n) {v:Value} {d:DataW H} {p:List MemPlace} (hv:Value.okWide Tryz.prog W r b0 t v) (h:DataW.Trod enc Tryz.prog W 0 (fun _=>true) true t v d p) :
    ∃ y:Nat→Int,v=.agg ((List.range n).map (fun i=>Value.int .i64 (y i))).toArray∧∀ i,i<n→in64 (y i):=by
  obtain ⟨cs,rfl,hsz⟩:=okWide_array (P:=Tryz.prog) (w:=W) (r:=r) (b0:=b0) (n:=n) (t:=t) (e:=3) (v:=v) ht hv
  obtain ⟨fuel,hf⟩:=h
  obtain ⟨y,hy⟩:=ints_of ht hc hf
  have hcs:cs=((List.range n).map (fun i=>Value.int .i64 (y i))).toArray:=by
    apply Array.ext'
    apply List.ext_getElem?
    intro i
    rw [hc] at hsz
    by_cases hi:i<n
    · have h1:cs.toList[i]? = some (.int .i64 (y i)):=(hy i hi).1
      rw [h1,List.toList_toArray,List.getElem?_map,List.getElem?_range hi]
      rfl
    · rw [List.getElem?_eq_none (by simp;omega),List.getElem?_eq_none (by simp;omega)]
  exact ⟨y,congrArg Value.agg hcs,fun i hi=>(hy i hi).2⟩
theorem sex_of {u:Value} {x:DataW H × List MemPlace} (hf:DataW.trod enc Tryz.prog W 0 (fun _=>true) true fuel 22 [u]=some x):∃ T,SexAt W u T∧CapV u∧Sex64 T∧T.length≤9223372036854775807:=by
  rcases open_slice Tryz.underlying22 hf with ⟨hcs,_⟩|⟨a,len,cap,m,n,D,Pl,hcs,_,hl,hm,hmm,_,hel⟩
  · simp at hcs
    subst hcs
    exact ⟨[],⟨none,0,rfl,fun h=>absurd h (by simp)⟩,(fun A n c e=>by injection e with _ e1 e2;omega),(fun x hx=>by cases hx),(by simp)⟩
  · simp at hcs
    subst hcs
    simp only [if_true] at hmm
    rw [cells_6] at hel
    have each:∀ j,j<len→∃ y:Nat→Int,∀ i,i<6→W.cell? ((a.add (j*6)).add i)=some (.int .i64 (y i))∧in64 (y i):=by
      intro j hj
      obtain ⟨cs',h1,h2⟩:=hel j (by omega)
      obtain ⟨y,hy⟩:=ints_of Tryz.underlying118 cells_6 h2
      obtain ⟨_,_,hc⟩:=World.cells?_some h1
      exact ⟨y,fun i hi=>⟨(hc i hi).trans (hy i hi).1,(hy i hi).2⟩⟩
    obtain ⟨f,hf⟩:=choose_lt each
    refine ⟨(List.range len).map f,⟨some a,cap,by simp,fun h0=>?_⟩,(fun A n c e=>by injection e with _ e1 e2;omega),fun x hx=>?_,(by rw [List.length_map,List.length_range];unfold maxLen at hm;omega)⟩
    · simp at h0
      obtain ⟨b,off,spot⟩:=a
      have hspot:spot=none:=by simpa [Addr.add] using World.cell?_spot (hf 0 h0 0 (by omega)).1
      subst hspot
      refine ⟨b,off,rfl,fun j x hx i hi=>?_⟩
      rw [List.getElem?_map,Option.map_eq_some_iff] at hx
      obtain ⟨q,hq,rfl⟩:=hx
      have hlt:=(List.getElem?_eq_some_iff.1 hq).1
      rw [List.length_range] at hlt
      rw [List.getElem?_range hlt] at hq
      injection hq with hq
      subst hq
      have h9:=(hf _ hlt i hi).1
      simp only [Addr.add_mid] at h9
      exact h9
    · simp only [List.mem_map,List.mem_range] at hx
      obtain ⟨j,hj,rfl⟩:=hx
      exact fun i hi=>(hf j hj i hi).2
end
theorem round_of_laid {W:World} (h:laidMetH Tryz.prog Rows.auditorPricesRow.laid W):RoundOK W:=by
  rw [MakeChecks.laidMetH_plain _ _ _ (by kernel_rfl)] at h
  have ht:Lib.TabIs Tryz.prog W "cachetier/digest.round" .u32 kList:=
    Lib.tabIs_of_head (rest:=[("cachetier/proof.errMisfit",Rows.laid_cachetier_proof_errMisfit)]) gRound gRoundType Tryz.underlying278 Tryz.underlying229 cells_u32 cells_round h
  intro j v hv
  rw [List.getElem?_map,Option.map_eq_some_iff] at hv
  obtain ⟨z,hz,rfl⟩:=hv
  have hj:=(List.getElem?_eq_some_iff.1 hz).1
  have h1:=ht.cell gRound j hj
  rw [List.getD_eq_getElem?_getD,hz] at h1
  rw [Nat.zero_add]
  exact h1
theorem door_met (os:Os) (args:Array Value):laidMetH Tryz.prog Rows.auditorPricesRow.laid ((World.doorLaid Tryz.prog 33 os).forCall (fun _ _=>0) ⟨#[],args,[]⟩).memory:=
  laidMetH_of_parts3 (fuel:=8) (laidMet_of_run' 8 (by kernel_rfl) (by kernel_rfl)) (by kernel_rfl) (by kernel_rfl)
theorem prices_lifted (os:Os) (started:os.Started) (H:Type) (enc:TypeId × Value→H) :
    ReturnsInHanded {} Tryz.checked os 5 .any (fun w args=>(Rows.auditorPricesSpec.pre enc Tryz.prog Tryz.f5 [] false w args∧laidMetH Tryz.prog Rows.auditorPricesRow.laid w)∧sizedMet enc Tryz.prog Tryz.f5 (OpenSpec.ofChange Rows.auditorPricesSpec) false w args)
      (Rows.auditorPricesSpec.post enc Tryz.prog Tryz.f5 false true false false):=by
  refine returnsInHanded_of_change_and (C:=Tryz.checked) (X:=fun w _=>laidMetH Tryz.prog Rows.auditorPricesRow.laid w) (fun _ _ _ hh h=>h.of_heap hh) ownKnob_none started (by kernel_rfl) Tryz.func5
    (ChangeSpec.witness_shaped (enc:=enc) (C:=Tryz.checked) (os:=os) (X:=fun w _=>laidMetH Tryz.prog Rows.auditorPricesRow.laid w) false (World.doorLaid Tryz.prog 33 os) #[.slice none 0 0,.agg #[.int .i64 0,.int .i64 0],.agg #[.int .i64 0,.int .i64 0,.int .i64 0],.int .i64 0,.int .i64 0] 8 rfl (World.shaped_of_RefB (by kernel_rfl) (by kernel_rfl)) (by kernel_rfl) (by kernel_rfl) (by kernel_rfl) (door_met os _)) ?_
  intro W base args ds gs before hval0 hW _ _ hL _
  have hval:∀ (j:Nat) t v,Tryz.f5.params[j]? = some t→args[j]? = some v→Value.okWide Tryz.prog W .any base t v:=hval0
  have hW':=hW
  obtain ⟨p,q,hA0,hV,rfl,hfz,hnd⟩:=hW
  have hA:DataW.TrodAll enc Tryz.prog W 0 (fun _=>true) true Tryz.f5.params.toList args.toList ds p:=hA0
  rw [Tryz.params5] at hA hval
  obtain ⟨v0,v1,v2,v3,v4,d0,d1,d2,d3,d4,p0,p1,p2,p3,p4,rfl,rfl,hp,h0,h1,h2,h3,h4⟩:=trodAll_five hA
  obtain ⟨rfl,rfl⟩:=trodVars_none hV
  clear hA0 hval0
  have hlt:∀ x ∈ p,x.block<W.heap.size:=fun x hx=>by simpa using hW'.lt x (List.mem_append_left _ hx)
  have hlt0:∀ x ∈ p0,x.block<W.heap.size:=fun x hx=>hlt x (by rw [hp];simp [hx])
  have hlt1:∀ x ∈ p1,x.block<W.heap.size:=fun x hx=>hlt x (by rw [hp];simp [hx])
  have hlt2:∀ x ∈ p2,x.block<W.heap.size:=fun x hx=>hlt x (by rw [hp];simp [hx])
  have hlt3:∀ x ∈ p3,x.block<W.heap.size:=fun x hx=>hlt x (by rw [hp];simp [hx])
  have hlt4:∀ x ∈ p4,x.block<W.heap.size:=fun x hx=>hlt x (by rw [hp];simp [hx])
  have hargs:∀ W':World,Below W.heap.size W W'→DataW.TrodAll enc Tryz.prog W' 0 (fun b=>decide (b<W.heap.size)) true [22,61,62,3,3] [v0,v1,v2,v3,v4] [d0,d1,d2,d3,d4] (p0++(p1++(p2++(p3++p4)))):=fun W' hb=>
    trodAll_mk5 (Below.trod laidOut_ok (by kernel_rfl) (of_decide_eq_true (by kernel_rfl)) h0 hb hlt0) (Below.trod laidOut_ok (by kernel_rfl) (of_decide_eq_true (by kernel_rfl)) h1 hb hlt1) (Below.trod laidOut_ok (by kernel_rfl) (of_decide_eq_true (by kernel_rfl)) h2 hb hlt2) (Below.trod laidOut_ok (by kernel_rfl) (of_decide_eq_true (by kernel_rfl)) h3 hb hlt3) (Below.trod laidOut_ok (by kernel_rfl) (of_decide_eq_true (by kernel_rfl)) h4 hb hlt4)
  have hwalk:Calls Tryz.prog 5 #[v0,v1,v2,v3,v4] W fun e W'=>e=.returned (.bool true)∧Below W.heap.size W W':=by
    obtain ⟨y1,rfl,w1⟩:=agg_of Tryz.underlying61 cells_2 (hval 1 61 v1 rfl rfl) h1
    obtain ⟨y2,rfl,w2⟩:=agg_of Tryz.underlying62 cells_3 (hval 2 62 v2 rfl rfl) h2
    obtain ⟨n3,rfl,_,_,w3⟩:=open_int Tryz.underlying3 (hval 3 3 v3 rfl rfl) h3
    obtain ⟨n4,rfl,_,_,w4⟩:=open_int Tryz.underlying3 (hval 4 3 v4 rfl rfl) h4
    obtain ⟨a0,len,cap,rfl⟩:=okWide_slice Tryz.underlying22 (hval 0 22 v0 rfl rfl)
    obtain ⟨fuel,hf⟩:=h0
    obtain ⟨T,hT,hcap,wT,hbig⟩:=sex_of hf
    exact pricesW T _ (y1 0) (y1 1) (y2 0) (y2 1) (y2 2) n3 n4 W hT hcap wT hbig (w1 0 (by omega)) (w1 1 (by omega)) (w2 0 (by omega)) (w2 1 (by omega)) (w2 2 (by omega)) (bounds_i64 w3) (bounds_i64 w4) (round_of_laid hL)
  refine hwalk.mono fun e W' ⟨he,hb⟩=>?_
  subst he
  refine ⟨_,rfl,_,_,_,[],p0++(p1++(p2++(p3++p4))),[],hW',?_,?_,?_,hb.frame _,fun h=>by cases h⟩
  · exact trodAll_mk1 (shut_bool Tryz.underlying4 true)
  · exact hargs W' hb
  · rfl
theorem prices_said:Rows.AuditorPricesSaid:=
  OpenClaim.holds_of_wide 5 Tryz.f5 rfl rfl rfl rfl rfl rfl rfl ⟨rfl,rfl,rfl,rfl,rfl⟩ rfl rfl rfl rfl rfl (by kernel_rfl) Tryz.func5 (by kernel_rfl)
    (of_decide_eq_true (by kernel_rfl)) (by unfold Func.isWrapper;first|(rw [if_pos (by decide +kernel)];kernel_rfl)|(rw [if_neg (by decide +kernel)];exact ⟨rfl,rfl⟩))
    (fun os started H enc _=>prices_lifted os started H enc)
theorem prices_plain (f:FuncId) (fn:Func) (hf:Tryz.pinned.checked.prog.funcNamed "cachetier/cachetierlaw29.AuditorPrices" = some f) (hfn:Tryz.pinned.checked.prog.funcs[f]? = some fn) :
    true=Tryz.pinned.checked.prog.looks []∧∀ (j:Nat) t,fn.params[j]? = some t→Tryz.pinned.checked.prog.wantsStandIn t=false:=by
  obtain rfl:f=5:=Option.some.inj ((show Tryz.prog.funcNamed "cachetier/cachetierlaw29.AuditorPrices" = some 5 by kernel_rfl).symm.trans hf) |>.symm
  obtain rfl:fn=Tryz.f5:=(Option.some.inj (Tryz.func5.symm.trans hfn)).symm
  refine ⟨by kernel_rfl,fun j t ht=>?_⟩
  rw [Tryz.params5] at ht
  have hm:t ∈ [22,61,62,3,3]:=by simpa using Array.mem_of_getElem? ht
  have hall:([22,61,62,3,3].all fun u => !Tryz.prog.wantsStandIn u)=true:=by kernel_rfl
  exact (show Tryz.prog.wantsStandIn t=false by simpa using List.all_eq_true.1 hall t hm)
theorem auditorPrices_holds:Rows.AuditorPricesCardSaid:=
  Claim7.holds_tied_plain_at .later [] _ _ _ _ prices_said (fun _ h=>by cases h) (by kernel_rfl) (fun _ h=>by cases h) auditorPrices_row_tie rfl ⟨rfl,rfl⟩ (by kernel_rfl) rfl prices_plain (by kernel_rfl)
end Go.Proofs.YtimoapjhepmehaaGreatDoor
