/- Part 45: contracts that the last part uses. -/
import Derived.Test.YtimoapjhepmehaaGreatDoorJ44
import Derived.Test.YtimoapjhepmehaaGreatDoorCards
import Derived.Test.YtimoapjhepmehaaGreatDoorTie
import Derived.ProofKit
import Derived.LaidMore
import Derived.OpenShut
import Derived.Deep.Slices
import Derived.Carry
import Derived.Stop.Joined
import Derived.Stop.LaidErr
import Derived.LaidLaws
import Derived.Lib.LaidTab
import Derived.Lib.SmallJoins
import Derived.SliceStrings
import Derived.SevenTiedAt
set_option linter.unusedSimpArgs false
set_option linter.unusedVariables false
set_option maxRecDepth 100000
namespace Go.Proofs.YtimoapjhepmehaaGreatDoor
open Go.ChangeShapes Go.WideShapes Go.ChangeAt Go.WideMaps Go.WideElems Go.RowKit Go.Joins Go.Deep
open Go.ChangeMaps (open_string shut_string)
theorem MZ:ownKnob Tryz.prog.godebug=none:=by kernel_rfl
theorem Gj:laidOutB Tryz.prog=true:=by kernel_rfl
theorem UE:Tryz.prog.globalNamed "cachetier/digest.round" = some 1:=by kernel_rfl
theorem Pt:(Tryz.prog.globals[1]?).map (·.type)=some 278:=by kernel_rfl
theorem OC:Tryz.prog.cellsOf 278=64:=by kernel_rfl
theorem R8:Tryz.prog.cellsOf 229=1:=by kernel_rfl
theorem Qc:Tryz.prog.cellsOf 118=6:=by kernel_rfl
theorem Vc:Tryz.prog.cellsOf 24=5:=by kernel_rfl
theorem Vd:Tryz.prog.cellsOf 3=1:=by kernel_rfl
theorem Ve:Tryz.prog.cellsOf 27=11:=by kernel_rfl
section
variable {H:Type} {enc:TypeId × Value->H} {W:World} {fuel:Nat}
theorem Qd{t:TypeId}{n:Nat}(ht:Tryz.prog.underlying t=some (.array n 3))(hc:Tryz.prog.cellsOf t=n){cs:List Value}{x:DataW H × List MemPlace}(hf:DataW.trod enc Tryz.prog W 0 (fun _=>true) true fuel t cs=some x) :
  ∃ y:Nat->Int,∀ i,i<n->cs[i]? = some (.int .i64 (y i))/\Co (y i):=by
 obtain⟨xs,m,rfl,_,hl,hxl,hel⟩:=DataW.trod_array ht hf
 rw[hc]at hl
 refine choose_lt (α:=Int) (p:=fun i k=>cs[i]? = some (.int .i64 k)/\Co k) (fun i hi=>?_)
 have h1:=hel i hi
 rw[Vd,List.getElem?_eq_getElem (by omega)]at h1
 obtain⟨k,hk,_,hw⟩:=DataW.trod_int Tryz.underlying3 h1
 refine⟨k,?_,bounds_i64 hw⟩
 have h2:=congrArg (fun l:List Value=>l[0]?) hk
 simpa[List.getElem?_take,List.getElem?_drop]using h2
theorem Wx{u:Value}{x:DataW H × List MemPlace}(hf:DataW.trod enc Tryz.prog W 0 (fun _=>true) true fuel 22 [u]=some x):∃ T,Fk W u T/\Ga u/\Nf T/\T.length<=9223372036854775807:=by
 rcases open_slice Tryz.underlying22 hf with⟨hcs,_⟩|⟨a,len,cap,m,n,D,Pl,hcs,_,hl,hm,hmm,_,hel⟩
 ·simp at hcs
  subst hcs
  exact⟨[],⟨none,0,rfl,fun h=>absurd h (by simp)⟩,(fun A n c e=>by injection e with _ e1 e2;omega),(fun x hx=>by cases hx),(by simp)⟩
 simp at hcs
 subst hcs
 simp only[if_true]at hmm
 rw[Qc]at hel
 have each:∀ j,j<len->∃ y:Nat->Int,∀ i,i<6->W.cell? ((a.add (j*6)).add i)=some (.int .i64 (y i))/\Co (y i):=by
  intro j hj
  obtain⟨cs',h1,h2⟩:=hel j (by omega)
  obtain⟨y,hy⟩:=Qd Tryz.underlying118 Qc h2
  obtain⟨_,_,hc⟩:=World.cells?_some h1
  exact⟨y,fun i hi=>⟨(hc i hi).trans (hy i hi).1,(hy i hi).2⟩⟩
 obtain⟨f,hf⟩:=choose_lt each
 refine⟨(List.range len).map f,⟨some a,cap,by simp,fun h0=>?_⟩,(fun A n c e=>by injection e with _ e1 e2;omega),fun x hx=>?_,(by rw[List.length_map,List.length_range];unfold maxLen at hm;omega)⟩
 ·simp at h0
  obtain⟨b,off,spot⟩:=a
  have hspot:spot=none:=by simpa[Addr.add]using World.cell?_spot (hf 0 h0 0 (by omega)).1
  subst hspot
  refine⟨b,off,rfl,fun j x hx i hi=>?_⟩
  rw[List.getElem?_map,Option.map_eq_some_iff]at hx
  obtain⟨q,hq,rfl⟩:=hx
  have hlt:=(List.getElem?_eq_some_iff.1 hq).1
  rw[List.length_range]at hlt
  rw[List.getElem?_range hlt]at hq
  injection hq with hq
  subst hq
  have h9:=(hf _ hlt i hi).1
  simp only[Addr.add_mid]at h9
  exact h9
 simp only[List.mem_map,List.mem_range]at hx
 obtain⟨j,hj,rfl⟩:=hx
 exact fun i hi=>(hf j hj i hi).2
end
section
variable {H:Type} {enc:TypeId × Value->H} {W:World} {fuel:Nat}
theorem KH{t e:TypeId}(ht:Tryz.prog.underlying t=some (.slice e)){u:Value}{x:DataW H × List MemPlace}(hf:DataW.trod enc Tryz.prog W 0 (fun _=>true) true fuel t [u]=some x):∃ A n c,u=.slice A n c:=by
 rcases open_slice ht hf with⟨hcs,_⟩|⟨a,len,cap,m,n,D,Pl,hcs,_⟩
 ·simp at hcs
  exact⟨_,_,_,hcs⟩
 simp at hcs
 exact⟨_,_,_,hcs⟩
theorem UF{u:Value}{x:DataW H × List MemPlace}(hf:DataW.trod enc Tryz.prog W 0 (fun _=>true) true fuel 3 [u]=some x):∃ k,u=.int .i64 k/\Co k:=by
 obtain⟨k,hk,_,hw⟩:=DataW.trod_int Tryz.underlying3 hf
 exact⟨k,by simpa using hk,bounds_i64 hw⟩
theorem Vf{l:List Value}{x:DataW H × List MemPlace}(h:DataW.trod enc Tryz.prog W 0 (fun _=>true) true fuel 27 l=some x) :
  ∃(T:List (Nat->Int)) (u:Value) (A1:Option Addr) (n1 c1:Nat) (A2:Option Addr) (n2 c2:Nat) (y:Nat->Int) (b un:Int) (A3:Option Addr) (n3 c3:Nat),l=[u,.slice A1 n1 c1,.slice A2 n2 c2,.int .i64 (y 0),.int .i64 (y 1),.int .i64 (y 2),.int .i64 (y 3),.int .i64 (y 4),.int .i64 b,.int .i64 un,.slice A3 n3 c3] /\
   Fk W u T/\Ga u/\Nf T/\T.length<=9223372036854775807/\(∀ i,i<5->Co (y i))/\Co b/\Co un:=by
 obtain⟨xs,m,rfl,_,hl,hxl,hf⟩:=DataW.trod_struct Tryz.underlying27 h
 rw[Ve]at hl
 have hxl:xs.length=7:=hxl
 obtain⟨a0,a1,a2,a3,a4,a5,a6,a7,a8,a9,a10,rfl⟩:∃ a0 a1 a2 a3 a4 a5 a6 a7 a8 a9 a10,l=[a0,a1,a2,a3,a4,a5,a6,a7,a8,a9,a10]:=by
  match l,hl with
  | [a0,a1,a2,a3,a4,a5,a6,a7,a8,a9,a10],_=>exact⟨a0,a1,a2,a3,a4,a5,a6,a7,a8,a9,a10,rfl⟩
 have hx:∀ i,i<7->∃ z,xs[i]? = some z:=fun i hi=>⟨_,List.getElem?_eq_getElem (by omega)⟩
 obtain⟨z0,h0⟩:=hx 0 (by omega)
 obtain⟨z1,h1⟩:=hx 1 (by omega)
 obtain⟨z2,h2⟩:=hx 2 (by omega)
 obtain⟨z3,h3⟩:=hx 3 (by omega)
 obtain⟨z4,h4⟩:=hx 4 (by omega)
 obtain⟨z5,h5⟩:=hx 5 (by omega)
 obtain⟨z6,h6⟩:=hx 6 (by omega)
 have g0:DataW.trod enc Tryz.prog W 0 (fun _=>true) true m 22 [a0]=some z0:=h0 ▸ hf 0 _ rfl
 have g1:DataW.trod enc Tryz.prog W 0 (fun _=>true) true m 22 [a1]=some z1:=h1 ▸ hf 1 _ rfl
 have g2:DataW.trod enc Tryz.prog W 0 (fun _=>true) true m 23 [a2]=some z2:=h2 ▸ hf 2 _ rfl
 have g3:DataW.trod enc Tryz.prog W 0 (fun _=>true) true m 24 [a3,a4,a5,a6,a7]=some z3:=h3 ▸ hf 3 _ rfl
 have g4:DataW.trod enc Tryz.prog W 0 (fun _=>true) true m 3 [a8]=some z4:=h4 ▸ hf 4 _ rfl
 have g5:DataW.trod enc Tryz.prog W 0 (fun _=>true) true m 3 [a9]=some z5:=h5 ▸ hf 5 _ rfl
 have g6:DataW.trod enc Tryz.prog W 0 (fun _=>true) true m 25 [a10]=some z6:=h6 ▸ hf 6 _ rfl
 obtain⟨T,q1,q2,q3,q4⟩:=Wx g0
 obtain⟨A1,n1,c1,rfl⟩:=KH Tryz.underlying22 g1
 obtain⟨A2,n2,c2,rfl⟩:=KH Tryz.underlying23 g2
 obtain⟨A3,n3,c3,rfl⟩:=KH Tryz.underlying25 g6
 obtain⟨y,hy⟩:=Qd Tryz.underlying24 Vc g3
 obtain⟨b,rfl,wb⟩:=UF g4
 obtain⟨un,rfl,wu⟩:=UF g5
 have e0:a3=.int .i64 (y 0):=by simpa using (hy 0 (by omega)).1
 have e1:a4=.int .i64 (y 1):=by simpa using (hy 1 (by omega)).1
 have e2:a5=.int .i64 (y 2):=by simpa using (hy 2 (by omega)).1
 have e3:a6=.int .i64 (y 3):=by simpa using (hy 3 (by omega)).1
 have e4:a7=.int .i64 (y 4):=by simpa using (hy 4 (by omega)).1
 subst e0 e1 e2 e3 e4
 exact⟨T,a0,A1,n1,c1,A2,n2,c2,y,b,un,A3,n3,c3,rfl,q1,q2,q3,q4,fun i hi=>(hy i hi).2,wb,wu⟩
end
theorem Kd{W:World}(h:laidMetH Tryz.prog Rows.auditorAcceptsRow.laid W):AJ W:=by
 rw[MakeChecks.laidMetH_plain _ _ _ (by kernel_rfl)]at h
 have ht:Lib.TabIs Tryz.prog W "cachetier/digest.round" .u32 GB:=
  Lib.tabIs_of_head (rest:=[("cachetier/proof.errMisfit",Rows.laid_cachetier_proof_errMisfit)]) UE Pt Tryz.underlying278 Tryz.underlying229 R8 OC h
 intro j v hv
 rw[List.getElem?_map,Option.map_eq_some_iff]at hv
 obtain⟨z,hz,rfl⟩:=hv
 have hj:=(List.getElem?_eq_some_iff.1 hz).1
 have h1:=ht.cell UE j hj
 rw[List.getD_eq_getElem?_getD,hz]at h1
 rw[Nat.zero_add]
 exact h1
theorem gMis:Tryz.prog.globalNamed "cachetier/proof.errMisfit" = some 0:=by kernel_rfl
theorem UG:(Tryz.prog.globals[0]?).map (·.type)=some 218:=by kernel_rfl
theorem Qe: "*" ++ "errors.errorString" = "*errors.errorString" := by decide
theorem Wy(u:TypeId)(h:Tryz.prog.typeName? 3 u=some "*errors.errorString"):u=358:=
 typeName_ptr_named (nm:= "errors.errorString") (by rw[Qe];kernel_rfl) (by kernel_rfl) (by decide) u (by rw[Qe];exact h)
theorem UH:Tryz.prog.cellsOf 384=1:=by kernel_rfl
theorem Vg:Tryz.prog.cellsOf 9=1:=by kernel_rfl
theorem KI{W:World}(h:laidMetH Tryz.prog Rows.auditorAcceptsRow.laid W):C3 W:=by
 rw[MakeChecks.laidMetH_plain _ _ _ (by kernel_rfl)]at h
 have h2:laidMet Tryz.prog [("cachetier/proof.errMisfit",Rows.laid_cachetier_proof_errMisfit)] W:=laidMet.tail h
 obtain⟨a,s,hv,-⟩:=laid_sentinel h2 gMis UG Tryz.underlying218 Wy Tryz.underlying358 Tryz.underlying384 rfl rfl Tryz.underlying9 UH Vg
 exact⟨a,by simpa using World.var?_cell gMis hv 0⟩
theorem UI(os:Os)(args:Array Value):laidMetH Tryz.prog Rows.auditorAcceptsRow.laid ((World.doorLaid Tryz.prog 33 os).forCall (fun _ _=>0) ⟨#[],args,[]⟩).memory:=
 laidMetH_of_parts3 (fuel:=8) (laidMet_of_run' 8 (by kernel_rfl) (by kernel_rfl)) (by kernel_rfl) (by kernel_rfl)
theorem KJ(os:Os)(started:os.Started)(H:Type)(enc:TypeId × Value->H) :
  ReturnsInHanded {} Tryz.checked os 3 .any (fun w args=>(Rows.auditorAcceptsSpec.pre enc Tryz.prog Tryz.f3 [] false w args/\laidMetH Tryz.prog Rows.auditorAcceptsRow.laid w)/\sizedMet enc Tryz.prog Tryz.f3 (OpenSpec.ofChange Rows.auditorAcceptsSpec) false w args)
   (Rows.auditorAcceptsSpec.post enc Tryz.prog Tryz.f3 false true false false):=by
 refine returnsInHanded_of_change_and (C:=Tryz.checked) (X:=fun w _=>laidMetH Tryz.prog Rows.auditorAcceptsRow.laid w) (fun _ _ _ hh h=>h.of_heap hh) MZ started (by kernel_rfl) Tryz.func3
  (ChangeSpec.witness_shaped (enc:=enc) (C:=Tryz.checked) (os:=os) (X:=fun w _=>laidMetH Tryz.prog Rows.auditorAcceptsRow.laid w) false (World.doorLaid Tryz.prog 33 os) #[.agg #[.slice none 0 0,.slice none 0 0,.slice none 0 0,.int .i64 0,.int .i64 0,.int .i64 0,.int .i64 0,.int .i64 0,.int .i64 0,.int .i64 0,.slice none 0 0],.int .i64 0,.int .i64 0] 8 rfl (World.shaped_of_RefB (by kernel_rfl) (by kernel_rfl)) (by kernel_rfl) (by kernel_rfl) (by kernel_rfl) (UI os _)) ?_
 intro W base args ds gs before hval0 hW _ _ hL _
 have hval:∀(j:Nat) t v,Tryz.f3.params[j]? = some t->args[j]? = some v->Value.okWide Tryz.prog W .any base t v:=hval0
 have hW':=hW
 obtain⟨p,q,hA0,hV,rfl,hfz,hnd⟩:=hW
 have hA:DataW.TrodAll enc Tryz.prog W 0 (fun _=>true) true Tryz.f3.params.toList args.toList ds p:=hA0
 rw[Tryz.params3]at hA hval
 obtain⟨v0,v1,v2,d0,d1,d2,p0,p1,p2,rfl,rfl,hp,h0,h1,h2⟩:=trodAll_three hA
 obtain⟨rfl,rfl⟩:=trodVars_none hV
 clear hA0 hval0
 have hlt:∀ x ∈ p,x.block<W.heap.size:=fun x hx=>by simpa using hW'.lt x (List.mem_append_left _ hx)
 have hlt0:∀ x ∈ p0,x.block<W.heap.size:=fun x hx=>hlt x (by rw[hp];simp[hx])
 have hlt1:∀ x ∈ p1,x.block<W.heap.size:=fun x hx=>hlt x (by rw[hp];simp[hx])
 have hlt2:∀ x ∈ p2,x.block<W.heap.size:=fun x hx=>hlt x (by rw[hp];simp[hx])
 have hargs:∀ W':World,Below W.heap.size W W'->DataW.TrodAll enc Tryz.prog W' 0 (fun b=>decide (b<W.heap.size)) true [27,3,3] [v0,v1,v2] [d0,d1,d2] (p0++(p1++p2)):=fun W' hb=>
  trodAll_mk3 (Below.trod Gj (by kernel_rfl) (of_decide_eq_true (by kernel_rfl)) h0 hb hlt0) (Below.trod Gj (by kernel_rfl) (of_decide_eq_true (by kernel_rfl)) h1 hb hlt1) (Below.trod Gj (by kernel_rfl) (of_decide_eq_true (by kernel_rfl)) h2 hb hlt2)
 have hwalk:Calls Tryz.prog 3 #[v0,v1,v2] W fun e W'=>e=.returned (.bool true)/\Below W.heap.size W W':=by
  obtain⟨n1,rfl,_,_,w1⟩:=open_int Tryz.underlying3 (hval 1 3 v1 rfl rfl) h1
  obtain⟨n2,rfl,_,_,w2⟩:=open_int Tryz.underlying3 (hval 2 3 v2 rfl rfl) h2
  obtain⟨cs,rfl,_⟩:=okWide_struct Tryz.underlying27 (hval 0 27 v0 rfl rfl)
  obtain⟨fuel,hf⟩:=h0
  obtain⟨l⟩:=cs
  obtain⟨T,u,A1,m1,c1,A2,m2,c2,y,b,un,A3,m3,c3,rfl,hT,hcap,wT,hbig,wy,wb,wu⟩:=Vf (l:=l) hf
  exact UD T u A1 A2 A3 m1 c1 m2 c2 m3 c3 (y 0) (y 1) (y 2) (y 3) (y 4) b un n1 n2 W hT hcap wT hbig (wy 0 (by omega)) (wy 1 (by omega)) (wy 2 (by omega)) (wy 3 (by omega)) (wy 4 (by omega)) wb wu (bounds_i64 w1) (bounds_i64 w2) (Kd hL) (KI hL)
 refine hwalk.mono fun e W' ⟨he,hb⟩=>?_
 subst he
 refine⟨_,rfl,_,_,_,[],p0++(p1++p2),[],hW',?_,?_,?_,hb.frame _,fun h=>by cases h⟩
 ·exact trodAll_mk1 (shut_bool Tryz.underlying4 true)
 ·exact hargs W' hb
 rfl
theorem Ma:Rows.AuditorAcceptsSaid:=
 OpenClaim.holds_of_wide 3 Tryz.f3 rfl rfl rfl rfl rfl rfl rfl ⟨rfl,rfl,rfl,rfl,rfl⟩ rfl rfl rfl rfl rfl (by kernel_rfl) Tryz.func3 (by kernel_rfl)
  (of_decide_eq_true (by kernel_rfl)) (by unfold Func.isWrapper;first|(rw[if_pos (by decide +kernel)];kernel_rfl)|(rw[if_neg (by decide +kernel)];exact⟨rfl,rfl⟩))
  (fun os started H enc _=>KJ os started H enc)
theorem Ke(f:FuncId)(fn:Func)(hf:Tryz.pinned.checked.prog.funcNamed "cachetier/cachetierlaw29.AuditorAccepts" = some f) (hfn:Tryz.pinned.checked.prog.funcs[f]? = some fn) :
  true=Tryz.pinned.checked.prog.looks []/\∀(j:Nat) t,fn.params[j]? = some t->Tryz.pinned.checked.prog.wantsStandIn t=false:=by
 obtain rfl:f=3:=Option.some.inj ((show Tryz.prog.funcNamed "cachetier/cachetierlaw29.AuditorAccepts" = some 3 by kernel_rfl).symm.trans hf) |>.symm
 obtain rfl:fn=Tryz.f3:=(Option.some.inj (Tryz.func3.symm.trans hfn)).symm
 refine⟨by kernel_rfl,fun j t ht=>?_⟩
 rw[Tryz.params3]at ht
 have hm:t ∈ [27,3,3]:=by simpa using Array.mem_of_getElem? ht
 have hall:([27,3,3].all fun u => !Tryz.prog.wantsStandIn u)=true:=by kernel_rfl
 exact(show Tryz.prog.wantsStandIn t=false by simpa using List.all_eq_true.1 hall t hm)
theorem auditorAccepts_holds:Rows.AuditorAcceptsCardSaid:=
 Claim7.holds_tied_plain_at .later [] _ _ _ _ Ma (fun _ h=>by cases h) (by kernel_rfl) (fun _ h=>by cases h) auditorAccepts_row_tie rfl ⟨rfl,rfl⟩ (by kernel_rfl) rfl Ke (by kernel_rfl)
end Go.Proofs.YtimoapjhepmehaaGreatDoor
