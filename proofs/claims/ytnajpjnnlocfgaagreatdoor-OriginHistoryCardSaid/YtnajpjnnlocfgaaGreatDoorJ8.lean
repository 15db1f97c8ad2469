/-
  Part 8 of 9: the contracts that the proof of the last part uses; each stands under its own head.
-/
import Derived.Test.YtnajpjnnlocfgaaGreatDoorJ1
import Derived.Deep.RegionHeld
import Derived.Test.YtnajpjnnlocfgaaGreatDoorJ7
import Derived.Test.YtnajpjnnlocfgaaGreatDoorJ5
set_option linter.unusedSimpArgs false
set_option linter.unusedVariables false
set_option maxHeartbeats 4000000
set_option maxRecDepth 100000
namespace Go.Proofs.YtnajpjnnlocfgaaGreatDoor
section
open Go.RowKit
theorem wpAnyH_listed {P:Program} {md:Region.Mode} {ops:Array Oper} {Q:Exit→Act→World→Prop} {S:World→Prop} {fuel fuel':Nat} {listed listed':Array Bool} {a:Act} {w:World} (hf:fuel=fuel') (hl:listed=listed') (H:wpAnyH P md ops Q S fuel' listed' a w):wpAnyH P md ops Q S fuel listed a w:=by
  subst hf hl
  exact H
def freeZ (md:Region.Mode) (ops:Array Oper) (oi:Oper) (i:Nat):Nat→List Oper→List Bool→Bool
  | _,[],_=>true
  | j,o::os,bs=>(bs.headD true || (j == i || (o.after.any (fun e=>Region.binds md e && e.on == i) || oi.apart ops o))) && freeZ md ops oi i (j+1) os bs.tail
theorem freeZ_at {md:Region.Mode} {ops:Array Oper} {oi:Oper} {i:Nat}:∀ (os:List Oper) (bs:List Bool) (j0:Nat),freeZ md ops oi i j0 os bs=true→∀ (k:Nat) (o:Oper),os[k]? = some o →
    ((bs[k]?).getD true || (j0+k == i || (o.after.any (fun e=>Region.binds md e && e.on == i) || oi.apart ops o)))=true
  | [],_,_,_,k,o,h=>by simp at h
  | x :: os, bs, j0, hf, k, o, h => by
    simp only [freeZ,Bool.and_eq_true] at hf
    cases k with
    | zero=>
      simp only [List.getElem?_cons_zero,Option.some.injEq] at h
      subst h
      have h1:=hf.1
      cases bs with
      | nil=>simp
      | cons b bs=>simpa using h1
    | succ k=>
      have h1:=freeZ_at os bs.tail (j0+1) hf.2 k o (by simpa using h)
      have e:j0+1+k=j0+(k+1):=by omega
      rw [e] at h1
      cases bs with
      | nil=>simp
      | cons b bs=>simpa using h1
def readyOne (md:Region.Mode) (listed:List Bool) (oi:Oper) (i:Nat):Bool:=
  !(listed[i]?).getD true && oi.after.all fun e => !Region.binds md e || (listed[e.on]?).getD false
def readyZ (md:Region.Mode) (listed:List Bool):Nat→List Oper→List Bool→List Nat
  | _,[],_=>[]
  | j,o::os,bs=>bif !bs.headD true && o.after.all (fun e => !Region.binds md e || (listed[e.on]?).getD false) then j::readyZ md listed (j+1) os bs.tail else readyZ md listed (j+1) os bs.tail
theorem getD_list (l:Array Bool) (i:Nat) (d:Bool):l.getD i d=(l.toList[i]?).getD d:=by
  rw [Array.getD_eq_getD_getElem?,← Array.getElem?_toList]
theorem readyZ_filter (md:Region.Mode) (listed:Array Bool):∀ (os:List Oper) (bs:List Bool) (j0:Nat) (ops:Array Oper),(∀ k,ops[j0+k]? = os[k]?)→(∀ k,(listed.toList[j0+k]?).getD true=(bs[k]?).getD true) →
    (List.range' j0 os.length).filter (fun i => !listed.getD i true && ((ops[i]?).map (·.after.all fun e => !Region.binds md e || listed.getD e.on false)).getD false)=readyZ md listed.toList j0 os bs
  | [],_,_,_,_,_=>by simp [readyZ]
  | o :: os, bs, j0, ops, h1, h2 => by
    have e1:=h1 0
    have e2:=h2 0
    have ih:=readyZ_filter md listed os bs.tail (j0+1) ops (fun k=>by have:=h1 (k+1);simpa [Nat.add_assoc,Nat.add_comm 1 k] using this) (fun k=>by
      have:=h2 (k+1)
      cases bs <;> simpa [Nat.add_assoc,Nat.add_comm 1 k] using this)
    have e3:listed.getD j0 true=bs.headD true:=by
      rw [getD_list]
      cases bs <;> simpa using e2
    rw [List.length_cons,List.range'_succ,List.filter_cons,ih]
    simp only [Nat.add_zero,List.getElem?_cons_zero] at e1
    simp only [e1,e3,Option.map_some,Option.getD_some,readyZ,getD_list]
    cases (!bs.headD true && o.after.all fun e => !Region.binds md e || (listed.toList[e.on]?).getD false) <;> rfl
theorem ready_Z {md:Region.Mode} {ops:List Oper} {listed:List Bool}:Region.ready md ops.toArray listed.toArray=readyZ md listed 0 ops listed:=by
  rw [Region.ready,List.range_eq_range']
  exact readyZ_filter md listed.toArray ops listed 0 ops.toArray (by simp) (by simp)
theorem wpAnyH_hns {P:Program} {md:Region.Mode} {ops:Array Oper} {Q:Exit→Act→World→Prop} {S:World→Prop} {fuel:Nat} {listed:Array Bool} {a:Act} {w:World} (hs:Region.noSelect ops=true) (h:RowKit.Hid (Region.noSelect ops=true)→wpAnyH P md ops Q S fuel listed a w):wpAnyH P md ops Q S fuel listed a w:=h (Lib.hid hs)
theorem wpAnyH_takeZ {P:Program} {md:Region.Mode} {ops:List Oper} {Q:Exit→Act→World→Prop} {S:World→Prop} {i:Nat} {oi:Oper} {v:Value} {fuel:Nat} {listed:List Bool} {a:Act} {w:World} (hs:RowKit.Hid (Region.noSelect ops.toArray=true)) (hi:ops[i]? = some oi)
    (hf:freeZ md ops.toArray oi i 0 ops listed=true) (hr:readyOne md listed oi i=true)
    (hQ:∀ c a w,Q (.panic c) (a.put oi.dst v) w→Q (.panic c) a w) (hy:YieldsIf P ops.toArray S oi v a) (hS:S w)
    (h:wpAnyH P md ops.toArray Q S fuel (listed.set i true).toArray (a.put oi.dst v) w):wpAnyH P md ops.toArray Q S (fuel+1) listed.toArray a w:=by
  refine wpAnyH_take (i:=i) (by simpa using hi) hs.out ?_ ?_ hQ hy hS (by simpa using h)
  · simp only [Region.free,List.getElem?_toArray,hi,List.all_eq_true,List.mem_range,List.size_toArray]
    intro j hj
    have h1:=freeZ_at ops listed 0 hf j ops[j] (List.getElem?_eq_getElem hj)
    rw [getD_list,List.getElem?_eq_getElem hj]
    simp only [Nat.zero_add] at h1
    simp only [Bool.or_eq_true] at h1 ⊢
    rcases h1 with h1|h1|h1
    · exact .inl (.inr h1)
    · exact .inl (.inl h1)
    · exact .inr h1
  · simp only [List.contains_iff_mem,Region.ready,List.mem_filter,List.mem_range,List.size_toArray]
    refine ⟨(List.getElem?_eq_some_iff.1 hi).1,?_⟩
    simp only [readyOne] at hr
    simp only [getD_list,List.getElem?_toArray,hi,Option.map_some,Option.getD_some]
    exact hr
theorem wpAnyH_readyZ {P:Program} {md:Region.Mode} {ops:List Oper} {Q:Exit→Act→World→Prop} {S:World→Prop} {rs:List Nat} {fuel:Nat} {listed:List Bool} {a:Act} {w:World} (hr:readyZ md listed 0 ops listed=rs) (hne:rs≠[])
    (h:AllReadyH P md ops.toArray Q S fuel listed.toArray a w rs):wpAnyH P md ops.toArray Q S (fuel+1) listed.toArray a w:=wpAnyH_ready (ready_Z.trans hr) hne h
end
section
open Go.RowKit Go.Shelf
attribute [local go_sem ↓] Go.wp_at_zero Go.wp_at_succ
theorem fitsR (rs:List RowT) (l:List ChgT) (v:Value) (gs gm:Nat) (pos:Int) (hp:0≤pos∧pos≤1000) (w:World) (hS:StateR w gs gm pos rs) (hv:ChgsAt w v l) (hl:ChgsOK l) (hsz:rs.length≤1000) (hfit:∀ x ∈ l,fillC rs x=x) :
    Calls Tryz.prog 43 #[.pointer (some ⟨gs,0,none⟩),.agg #[.int .i64 (pos+1),v]] w fun e w'=>e=.returned (.bool (validF l))∧Below w.heap.size w w':=by
  obtain ⟨X,hX⟩:∃ X,X=w.alloc (.cells #[.int .i64 (pos+1),v] 43):=⟨_,rfl⟩
  have HX:=Lib.hid hX
  have HE:=Lib.hid (show Below w.heap.size w X by rw [hX];exact ext_new _ _)
  have HR:=Lib.hid (show Blk X w.heap.size 43 #[.int .i64 (pos+1),v] by rw [hX];exact Blk.new _ _ _)
  have HV:=Lib.hid (fun (W:World) (k:Below w.heap.size w W)=>validRecord_any (pos+1) ⟨by omega,by omega⟩ l v W (hv.ext k) hl)
  have HVL:=Lib.hid hv
  have HS:=Lib.hid hS
  have HF:=Lib.hid hfit
  have HLL:=Lib.hid hl
  obtain ⟨A,c,rfl,hc,-⟩:=hv
  have hfew:=hl.few
  clear hX hS hfit hl
  have a0:=HR.out.cell 0
  have a1:=HR.out.cell 1
  have HK:=Lib.hid (And.intro a0 a1)
  generalize hvl:validF l=b at HV ⊢
  have HVB:=Lib.hid hvl
  clear hvl
  go_enter Tryz.func43,Tryz.ntmps43
  go_upto_region 1 with (fail)
  rw [← HX.out]
  cases b
  · skip
    refine wp_region_held_drew (S:=fun w'=>w'.cell? ⟨w.heap.size,0,none⟩=some (.int .i64 (pos+1))∧w'.cell? ⟨w.heap.size,1,none⟩=some (.slice A l.length c)∧Below X.heap.size X w') (by kernel_rfl) (keep2B HK.out (ext_refl X).drew) (fun hHeld=>?_)
    refine wpAnyH_listed (fuel':=14) (listed':=#[false,false,false,false,false,false,false,false,false,false,false,false,false,false]) (by kernel_rfl) (by kernel_rfl) ?_
    refine wpAnyH_hns (by kernel_rfl) (fun HNS=>?_)
    refine wpAnyH_takeZ (i:=0) (v:=?_) HNS rfl (by kernel_rfl) (by kernel_rfl) (fun _ _ _ h=>h) (Or.inl ⟨by rfl,?_⟩) (by assumption) ?_
    rotate_left 1
    · (rintro w' ⟨f0,f1,_⟩;go_simp;try with_reducible rfl)
    try simp only [Act.put,List.getElem_toArray,List.getElem_cons_succ,List.getElem_cons_zero,List.setIfInBounds_toArray,List.set_cons_zero,List.set_cons_succ]
    refine wpAnyH_readyZ (rs:=[1]) (by kernel_rfl) (by simp) ?_
    refine AllReadyH.cons rfl (fun K hK=>?_) AllReadyH.nil
    go_simp
    with_reducible refine (HV.out _ ?_).mono ?_
    · exact HE.out.drew
    rintro e W1 ⟨rfl,hb'⟩
    have hE1:Below X.heap.size X W1:=ext_call (ext_refl X).drew hb'
    refine hK.out _ _ (keep2B HK.out hE1) (fun hHeld=>?_)
    clear hK K
    try simp only [Act.put,List.getElem_toArray,List.getElem_cons_succ,List.getElem_cons_zero,List.setIfInBounds_toArray,List.set_cons_zero,List.set_cons_succ]
    refine wpAnyH_takeZ (i:=2) (v:=?_) HNS rfl (by kernel_rfl) (by kernel_rfl) (fun _ _ _ h=>h) (Or.inl ⟨by rfl,?_⟩) (by assumption) ?_
    rotate_left 1
    · (rintro w' ⟨f0,f1,_⟩;go_simp;try with_reducible rfl)
    try simp only [Act.put,List.getElem_toArray,List.getElem_cons_succ,List.getElem_cons_zero,List.setIfInBounds_toArray,List.set_cons_zero,List.set_cons_succ]
    refine wpAnyH_takeZ (i:=3) (v:=?_) HNS rfl (by kernel_rfl) (by kernel_rfl) (fun _ _ _ h=>h) (Or.inl ⟨by rfl,?_⟩) (by assumption) ?_
    rotate_left 1
    · (rintro w' ⟨f0,f1,_⟩;go_simp;try with_reducible rfl)
    try simp only [Act.put,List.getElem_toArray,List.getElem_cons_succ,List.getElem_cons_zero,List.setIfInBounds_toArray,List.set_cons_zero,List.set_cons_succ]
    refine wpAnyH_takeZ (i:=4) (v:=undef) HNS rfl (by kernel_rfl) (by kernel_rfl) (fun _ _ _ h=>h) (Or.inr ⟨by rfl,rfl⟩) (by assumption) ?_
    try simp only [Act.put,List.getElem_toArray,List.getElem_cons_succ,List.getElem_cons_zero,List.setIfInBounds_toArray,List.set_cons_zero,List.set_cons_succ]
    refine wpAnyH_takeZ (i:=5) (v:=undef) HNS rfl (by kernel_rfl) (by kernel_rfl) (fun _ _ _ h=>h) (Or.inr ⟨by rfl,rfl⟩) (by assumption) ?_
    try simp only [Act.put,List.getElem_toArray,List.getElem_cons_succ,List.getElem_cons_zero,List.setIfInBounds_toArray,List.set_cons_zero,List.set_cons_succ]
    refine wpAnyH_takeZ (i:=6) (v:=undef) HNS rfl (by kernel_rfl) (by kernel_rfl) (fun _ _ _ h=>h) (Or.inr ⟨by rfl,rfl⟩) (by assumption) ?_
    try simp only [Act.put,List.getElem_toArray,List.getElem_cons_succ,List.getElem_cons_zero,List.setIfInBounds_toArray,List.set_cons_zero,List.set_cons_succ]
    refine wpAnyH_takeZ (i:=7) (v:=undef) HNS rfl (by kernel_rfl) (by kernel_rfl) (fun _ _ _ h=>h) (Or.inr ⟨by rfl,rfl⟩) (by assumption) ?_
    try simp only [Act.put,List.getElem_toArray,List.getElem_cons_succ,List.getElem_cons_zero,List.setIfInBounds_toArray,List.set_cons_zero,List.set_cons_succ]
    refine wpAnyH_takeZ (i:=8) (v:=undef) HNS rfl (by kernel_rfl) (by kernel_rfl) (fun _ _ _ h=>h) (Or.inr ⟨by rfl,rfl⟩) (by assumption) ?_
    try simp only [Act.put,List.getElem_toArray,List.getElem_cons_succ,List.getElem_cons_zero,List.setIfInBounds_toArray,List.set_cons_zero,List.set_cons_succ]
    refine wpAnyH_takeZ (i:=9) (v:=undef) HNS rfl (by kernel_rfl) (by kernel_rfl) (fun _ _ _ h=>h) (Or.inr ⟨by rfl,rfl⟩) (by assumption) ?_
    try simp only [Act.put,List.getElem_toArray,List.getElem_cons_succ,List.getElem_cons_zero,List.setIfInBounds_toArray,List.set_cons_zero,List.set_cons_succ]
    refine wpAnyH_takeZ (i:=10) (v:=undef) HNS rfl (by kernel_rfl) (by kernel_rfl) (fun _ _ _ h=>h) (Or.inr ⟨by rfl,rfl⟩) (by assumption) ?_
    try simp only [Act.put,List.getElem_toArray,List.getElem_cons_succ,List.getElem_cons_zero,List.setIfInBounds_toArray,List.set_cons_zero,List.set_cons_succ]
    refine wpAnyH_takeZ (i:=11) (v:=undef) HNS rfl (by kernel_rfl) (by kernel_rfl) (fun _ _ _ h=>h) (Or.inr ⟨by rfl,rfl⟩) (by assumption) ?_
    try simp only [Act.put,List.getElem_toArray,List.getElem_cons_succ,List.getElem_cons_zero,List.setIfInBounds_toArray,List.set_cons_zero,List.set_cons_succ]
    refine wpAnyH_takeZ (i:=12) (v:=undef) HNS rfl (by kernel_rfl) (by kernel_rfl) (fun _ _ _ h=>h) (Or.inr ⟨by rfl,rfl⟩) (by assumption) ?_
    try simp only [Act.put,List.getElem_toArray,List.getElem_cons_succ,List.getElem_cons_zero,List.setIfInBounds_toArray,List.set_cons_zero,List.set_cons_succ]
    refine wpAnyH_takeZ (i:=13) (v:=?_) HNS rfl (by kernel_rfl) (by kernel_rfl) (fun _ _ _ h=>h) (Or.inl ⟨by rfl,?_⟩) (by assumption) ?_
    rotate_left 1
    · (rintro w' ⟨f0,f1,_⟩;go_simp;try with_reducible rfl)
    try simp only [Act.put,List.getElem_toArray,List.getElem_cons_succ,List.getElem_cons_zero,List.setIfInBounds_toArray,List.set_cons_zero,List.set_cons_succ]
    refine wpAnyH_done (by kernel_rfl) ?_ _
    go_wp2
    go_ret
    exact ⟨rfl,ext_call HE.out hE1⟩
  have hs1:=(HS.out.ext HE.out).1.cell 1
  have HK3:=Lib.hid (show X.cell? ⟨w.heap.size,0,none⟩=some (.int .i64 (pos+1))∧X.cell? ⟨w.heap.size,1,none⟩=some (.slice A l.length c)∧X.cell? ⟨gs,1,none⟩=some (.int .i64 pos) from ⟨a0,a1,hs1⟩)
  have e1:IntKind.i64.wrap (pos+1)=pos+1:=IntWalk.i64_in _ (by omega)
  go_region_held3 (fun w'=>w'.cell? ⟨w.heap.size,0,none⟩=some (.int .i64 (pos+1))∧w'.cell? ⟨w.heap.size,1,none⟩=some (.slice A l.length c)∧w'.cell? ⟨gs,1,none⟩=some (.int .i64 pos)∧Below X.heap.size X w')
    (first|with_reducible assumption|exact keepK HK3.out (ext_refl X).drew|exact keepK HK3.out (ext_call (keep3E (by assumption)) (by assumption)))
    (first|(go_at_call 80;(with_reducible refine (HV.out _ ?_).mono ?_);(exact ext_call HE.out (keep3E (by assumption)));rintro e w' ⟨rfl,hb'⟩))
  have hE1:Below X.heap.size X w':=keep3E (by assumption)
  have HE1:=Lib.hid (ext_call HE.out hE1)
  have HR1:=Lib.hid (HR.out.ext hE1)
  have b1:=HR1.out.cell 1
  have hS1:=HS.out.ext HE1.out
  have g0:=hS1.1.cell 0
  have gl:=hS1.1.lt
  have bl:=HR1.out.lt
  have hlen:=lenR hS1.2 3
  clear hE1 hS1 a0 a1 hs1
  go_wp2
  clear b1 g0 hlen
  generalize w'=W1 at *
  go_loopw [5,7,8,9,33,37] (fun z _ _ _ i _ W=>∃ (k:Nat) (s:Int),k≤l.length∧i=.int .i64 k∧z=.int .i64 s∧(rs.length:Int)-k≤s∧s≤rs.length+k∧Below w.heap.size w W) (fun _ _ _ _ i _ _=>l.length-(intOf i).toNat)
  case atStart=>exact ⟨0,rs.length,Nat.zero_le _,rfl,rfl,by omega,by omega,HE1.out⟩
  case round=>
    obtain ⟨k,s,hk,rfl,rfl,hs1,hs2,hE⟩:=hrel
    have HEW:=Lib.hid hE
    clear hE
    by_cases hlt:k<l.length
    · obtain ⟨x,hx⟩:∃ x,l[k]? = some x:=⟨_,List.getElem?_eq_getElem hlt⟩
      obtain ⟨b,off,c',hA,_,hc9⟩:=(HVL.out.ext HEW.out).at_ hx
      injection hA with hA hn' hc'
      subst hA;subst hc'
      clear hn'
      have c0:=hc9 0 (by omega)
      have c1:=hc9 1 (by omega)
      have c2:=hc9 2 (by omega)
      have c3:=hc9 3 (by omega)
      have c4:=hc9 4 (by omega)
      have c5:=hc9 5 (by omega)
      have c6:=hc9 6 (by omega)
      have c7:=hc9 7 (by omega)
      have c8:=hc9 8 (by omega)
      have c9:=hc9 9 (by omega)
      have hfx:=HF.out x (List.mem_of_getElem? hx)
      obtain ⟨t,kk,had,o1,o2,o3,has,n1,n2,n3⟩:=x
      simp only [fillC,ChgT.mk.injEq,true_and,and_true] at hfx
      obtain ⟨f1,f2,f3,f4⟩:=hfx
      simp [ChgT.arr] at c0 c1 c2 c3 c4 c5 c6 c7 c8 c9
      have HSW:=Lib.hid (HS.out.ext HEW.out)
      have g0:=HSW.out.1.cell 0
      have gl:=HSW.out.1.lt
      have hlk:=fun o=>lookupR ((HSW.out.2.ext (ext_new wr (.cells #[.int .i64 t,.int .i64 kk,.bool had,.int .i64 o1,.int .i64 o2,.int .i64 o3,.bool has,.int .i64 n1,.int .i64 n2,.int .i64 n3] 62))).ext (ext_new _ o).drew) t kk
      have hlk2:=lookupR (HSW.out.2.ext (ext_new wr (.cells #[.int .i64 t,.int .i64 kk,.bool had,.int .i64 o1,.int .i64 o2,.int .i64 o3,.bool has,.int .i64 n1,.int .i64 n2,.int .i64 n3] 62)).drew) t kk
      simp only [optR,f1,f2,f3,f4] at hlk hlk2
      generalize ((getR rs t kk).getD zeroR).t=r0 at hlk hlk2
      generalize ((getR rs t kk).getD zeroR).k=r1 at hlk hlk2
      have heq:=fun W:World=>eq3 o1 o2 o3 o1 o2 o3 W
      simp only [decide_true,Bool.and_self] at heq
      have e2:IntKind.i64.wrap ((k:Int)+1)=(k:Int)+1:=by rw [IntWalk.i64_in _ (by omega)]
      have e3:IntKind.i64.wrap (s+1)=s+1:=by rw [IntWalk.i64_in _ (by omega)]
      have e4:IntKind.i64.wrap (s-1)=s-1:=by rw [IntWalk.i64_in _ (by omega)]
      have e5:IntKind.i64.wrap (s-1+1)=s:=by rw [IntWalk.i64_in _ (by omega)];omega
      have d1:decide ((k:Int)<(l.length:Int))=true:=by simp;omega
      have q0:(0:Int)≤(k:Int):=by omega
      have q1:(k:Int)<(l.length:Int):=by omega
      clear hc9 hx f1 f2 f3 f4
      go_upto_region 7 with (fail)
      go_region
      have HBX:=Lib.hid (((Blk.new wr 62 #[.int .i64 t,.int .i64 kk,.bool had,.int .i64 o1,.int .i64 o2,.int .i64 o3,.bool has,.int .i64 n1,.int .i64 n2,.int .i64 n3]).alloc (.cells #[.int .i64 r0,.int .i64 r1,.int .i64 o1,.int .i64 o2,.int .i64 o3] 108)).drew)
      have HRX:=Lib.hid ((Blk.new' (wr.alloc (.cells #[.int .i64 t,.int .i64 kk,.bool had,.int .i64 o1,.int .i64 o2,.int .i64 o3,.bool has,.int .i64 n1,.int .i64 n2,.int .i64 n3] 62)) 108 #[.int .i64 r0,.int .i64 r1,.int .i64 o1,.int .i64 o2,.int .i64 o3] (b:=wr.heap.size+1) (by simp)).drew)
      have HEX:=Lib.hid ((ext_alloc (ext_alloc HEW.out (.cells #[.int .i64 t,.int .i64 kk,.bool had,.int .i64 o1,.int .i64 o2,.int .i64 o3,.bool has,.int .i64 n1,.int .i64 n2,.int .i64 n3] 62)) (.cells #[.int .i64 r0,.int .i64 r1,.int .i64 o1,.int .i64 o2,.int .i64 o3] 108)).drew)
      generalize ((wr.alloc (.cells #[.int .i64 t,.int .i64 kk,.bool had,.int .i64 o1,.int .i64 o2,.int .i64 o3,.bool has,.int .i64 n1,.int .i64 n2,.int .i64 n3] 62)).alloc (.cells #[.int .i64 r0,.int .i64 r1,.int .i64 o1,.int .i64 o2,.int .i64 o3] 108)).drew=W5 at HBX HRX HEX ⊢
      generalize wr.heap.size+1=br at HRX ⊢
      generalize wr.heap.size=bx at HBX ⊢
      have hbx:=HBX.out
      have hrx:=HRX.out
      have v2:=hbx.cell 2
      have v3:=hbx.cell 3
      have v4:=hbx.cell 4
      have v5:=hbx.cell 5
      have v6:=hbx.cell 6
      have u2:=hrx.cell 2
      have u3:=hrx.cell 3
      have u4:=hrx.cell 4
      clear c0 c1 c2 c3 c4 c5 c6 c7 c8 c9 hlk hlk2 g0 gl hbx hrx HSW
      cases had <;> cases has <;> (go_wp2) <;> go_roundw
      case rel=>exact ⟨k+1,_,by omega,by go_num,rfl,by omega,by omega,HEX.out⟩
      case measure=>simp [intOf];omega
      case rel=>exact ⟨k+1,_,by omega,by go_num,rfl,by omega,by omega,HEX.out⟩
      case measure=>simp [intOf];omega
      case rel=>exact ⟨k+1,_,by omega,by go_num,rfl,by omega,by omega,HEX.out⟩
      case measure=>simp [intOf];omega
      case rel=>exact ⟨k+1,_,by omega,by go_num,rfl,by omega,by omega,HEX.out⟩
      case measure=>simp [intOf];omega
    · have d1:decide ((k:Int)<(l.length:Int))=false:=by simp;omega
      have d2:decide (s≤2000)=true:=by simp;omega
      go_wp2
      go_ret
      exact ⟨rfl,HEW.out⟩
end
section
open Go.RowKit Go.Shelf
attribute [local go_sem ↓] Go.wp_at_zero Go.wp_at_succ
theorem after_yes (r:RowT) (had:Bool) (o1 o2 o3:Int) (w:World) :
    Calls Tryz.prog 44 #[.agg #[.int .i64 r.t,.int .i64 r.k,.bool had,.int .i64 o1,.int .i64 o2,.int .i64 o3,.bool true,.int .i64 r.a,.int .i64 r.b,.int .i64 r.c]] w fun e w'=>
      e=.returned (.tuple #[.agg #[.int .i64 r.t,.int .i64 r.k,.int .i64 r.a,.int .i64 r.b,.int .i64 r.c],.bool true])∧Below w.heap.size w w':=by
  obtain ⟨t,k,a,b,c⟩:=r
  dsimp only
  go_enter Tryz.func44,Tryz.ntmps44
  go_wp2_with fail
  refine (half_yes _ _ _ _ _ _ _ _ _ _ _ _ _ _).mono ?_
  rintro e W1 ⟨rfl,hb1⟩
  have HL1:=Lib.hid (ext_call (ext_alloc (ext_new w _) _) hb1)
  have hB1:=(Blk.new' (w.alloc (.cells #[.int .i64 t,.int .i64 k,.bool had,.int .i64 o1,.int .i64 o2,.int .i64 o3,.bool true,.int .i64 a,.int .i64 b,.int .i64 c] 62)) 108 #[.int .i64 0,.int .i64 0,.int .i64 0,.int .i64 0,.int .i64 0] (b:=w.heap.size+1) (by simp)).ext hb1
  have HB1:=Lib.hid hB1
  have HI:=Lib.hid row_size
  have H1:=Lib.hid (row_one t k a b c)
  clear hB1 hb1
  go_wp2_with (refine wpList_store_blk rfl 108 (.tmp 2) (.tmp 10) rfl (w.heap.size+1) #[.int .i64 t,.int .i64 k,.int .i64 a,.int .i64 b,.int .i64 c] rfl rfl 108 #[.int .i64 0,.int .i64 0,.int .i64 0,.int .i64 0,.int .i64 0] HB1.out HI.out rfl H1.out ?_;intro W2 hB2 hg2)
  have c0:=hB2.cell 0
  have c1:=hB2.cell 1
  have c2:=hB2.cell 2
  have c3:=hB2.cell 3
  have c4:=hB2.cell 4
  refine bodyPost_ret (v:=.tuple #[.agg #[.int .i64 t,.int .i64 k,.int .i64 a,.int .i64 b,.int .i64 c],.bool true]) (by simp [results,Tryz.results44,go_sem,c0,c1,c2,c3,c4]) rfl ⟨rfl,?_⟩
  exact HL1.out.grown hg2 HL1.out.size (fun k e=>by injection e with e;omega)
theorem after_no (r:RowT) (had:Bool) (o1 o2 o3:Int) (w:World) :
    Calls Tryz.prog 44 #[.agg #[.int .i64 r.t,.int .i64 r.k,.bool had,.int .i64 o1,.int .i64 o2,.int .i64 o3,.bool false,.int .i64 r.a,.int .i64 r.b,.int .i64 r.c]] w fun e w'=>
      e=.returned (.tuple #[.agg #[.int .i64 0,.int .i64 0,.int .i64 0,.int .i64 0,.int .i64 0],.bool false])∧Below w.heap.size w w':=by
  obtain ⟨t,k,a,b,c⟩:=r
  dsimp only
  go_enter Tryz.func44,Tryz.ntmps44
  go_wp2_with fail
  refine (half_no _ _ _ _ _ _ _ _ _ _ _ _ _ _).mono ?_
  rintro e W1 ⟨rfl,hb1⟩
  have HL1:=Lib.hid (ext_call (ext_alloc (ext_new w _) _) hb1)
  have hB1:=(Blk.new' (w.alloc (.cells #[.int .i64 t,.int .i64 k,.bool had,.int .i64 o1,.int .i64 o2,.int .i64 o3,.bool false,.int .i64 a,.int .i64 b,.int .i64 c] 62)) 108 #[.int .i64 0,.int .i64 0,.int .i64 0,.int .i64 0,.int .i64 0] (b:=w.heap.size+1) (by simp)).ext hb1
  have HB1:=Lib.hid hB1
  have HI:=Lib.hid row_size
  have H1:=Lib.hid (row_one 0 0 0 0 0)
  clear hB1 hb1
  go_wp2_with (refine wpList_store_blk rfl 108 (.tmp 2) (.tmp 10) rfl (w.heap.size+1) #[.int .i64 0,.int .i64 0,.int .i64 0,.int .i64 0,.int .i64 0] rfl rfl 108 #[.int .i64 0,.int .i64 0,.int .i64 0,.int .i64 0,.int .i64 0] HB1.out HI.out rfl H1.out ?_;intro W2 hB2 hg2)
  have c0:=hB2.cell 0
  have c1:=hB2.cell 1
  have c2:=hB2.cell 2
  have c3:=hB2.cell 3
  have c4:=hB2.cell 4
  refine bodyPost_ret (v:=.tuple #[.agg #[.int .i64 0,.int .i64 0,.int .i64 0,.int .i64 0,.int .i64 0],.bool false]) (by simp [results,Tryz.results44,go_sem,c0,c1,c2,c3,c4]) rfl ⟨rfl,?_⟩
  exact HL1.out.grown hg2 HL1.out.size (fun k e=>by injection e with e;omega)
def applyC (rs:List RowT) (x:ChgT):List RowT:=if x.has then putR rs ⟨x.t,x.k,x.n1,x.n2,x.n3⟩ else delR rs x.t x.k
def applyF (rs:List RowT) (l:List ChgT):List RowT:=l.foldl applyC rs
theorem applyF_succ (rs:List RowT) (l:List ChgT) (k:Nat) (x:ChgT) (h:l[k]? = some x):applyF rs (l.take (k+1))=applyC (applyF rs (l.take k)) x:=by
  unfold applyF
  rw [List.take_add_one,h]
  simp
theorem ChgsAt.ne {w:World} {b off c gs gm:Nat} {pos:Int} {l:List ChgT} {rs:List RowT} (h:ChgsAt w (.slice (some ⟨b,off,none⟩) l.length c) l) (h0:0<l.length) (hS:StateR w gs gm pos rs):b≠gs∧b≠gm:=by
  obtain ⟨b',off',c',e,_,h1⟩:=h.at_ (List.getElem?_eq_getElem h0)
  injection e with e _ _
  injection e with e
  injection e with e1 e2
  subst e1 e2
  have h2:=h1 9 (by omega)
  rw [Nat.zero_mul,Nat.add_zero] at h2
  constructor
  · rintro rfl
    rw [hS.1.cell] at h2
    simp [ChgT.arr] at h2
  · rintro rfl
    obtain ⟨es,c2,hm,_⟩:=hS.2
    unfold MapAt at hm
    simp [World.cell?,hm,ChgT.arr] at h2
theorem ChgsAt.ext2 {w W:World} {v:Value} {l:List ChgT} {gs gm:Nat} {pos:Int} {rs:List RowT} (h:ChgsAt w v l) (hS:StateR w gs gm pos rs) (k:Ext2 gs gm w W):ChgsAt W v l:=by
  have h':=h
  obtain ⟨A,c,rfl,hc,h⟩:=h
  refine ⟨A,c,rfl,hc,fun h0=>?_⟩
  obtain ⟨b,off,rfl,hcell⟩:=h h0
  obtain ⟨n1,n2⟩:=ChgsAt.ne h' h0 hS
  refine ⟨b,off,rfl,fun j x hx i hi=>?_⟩
  have h1:=hcell j x hx i hi
  rw [Array.getElem?_eq_getElem (show i<x.arr.size from hi)] at h1 ⊢
  exact cell_ext2 h1 k n1 n2
theorem applyR (rs:List RowT) (l:List ChgT) (v:Value) (gs gm:Nat) (pos:Int) (hp:0≤pos∧pos≤1000) (w:World) (hS:StateR w gs gm pos rs) (hv:ChgsAt w v l) (hl:ChgsOK l) (hsz:rs.length≤1000) (hfit:∀ x ∈ l,fillC rs x=x) :
    Calls Tryz.prog 13 #[.pointer (some ⟨gs,0,none⟩),.agg #[.int .i64 (pos+1),v]] w fun e w'=>(validF l=false∧e=.returned (.int .i64 40)∧Below w.heap.size w w')∨(validF l=true∧e=.returned (.int .i64 0)∧StateR w' gs gm (pos+1) (applyF rs l)∧Ext2 gs gm w w'):=by
  have HE0:=Lib.hid (ext_new w (.cells #[.int .i64 (pos+1),v] 43))
  have HS0:=Lib.hid (hS.ext HE0.out)
  have HR0:=Lib.hid (Blk.new w 43 #[.int .i64 (pos+1),v])
  have HFT:=Lib.hid (fitsR rs l v gs gm pos hp _ HS0.out (hv.ext HE0.out) hl hsz hfit)
  have HVL:=Lib.hid hv
  have HS:=Lib.hid hS
  have hne:gs≠gm:=by
    rintro rfl
    have h1:=hS.1
    obtain ⟨es,c2,h2,_⟩:=hS.2
    unfold Blk at h1
    unfold MapAt at h2
    rw [h1] at h2
    cases h2
  have hgs:=hS.1.lt
  have hgm:=hS.2.lt
  have hfew:=hl.few
  obtain ⟨A,c,rfl,hc,-⟩:=hv
  clear hS hl hfit
  go_enter Tryz.func13,Tryz.ntmps13
  go_wp2_with fail
  refine HFT.out.mono ?_
  rintro e W1 ⟨rfl,hb1⟩
  generalize hvf:validF l=b
  have HVF:=Lib.hid hvf
  clear hvf
  cases b
  · have HL1:=Lib.hid (ext_call HE0.out hb1)
    clear hb1
    go_wp2
    go_ret
    exact .inl ⟨HVF.out,rfl,HL1.out⟩
  have HR1:=Lib.hid (HR0.out.ext hb1)
  have HS1:=Lib.hid (HS0.out.ext hb1)
  have HL1:=Lib.hid (Ext2.of_ext (a:=gs) (b:=gm) (ext_call HE0.out hb1))
  have a1:=HR1.out.cell 1
  have al:=HR1.out.lt
  clear hb1 HR0 HS0 HFT HE0
  go_wp2
  clear a1 al
  go_loopw [6,7,8,9,21,30] (fun _ _ _ _ i _ W=>∃ k:Nat,k≤l.length∧i=.int .i64 k∧StateR W gs gm pos (applyF rs (l.take k))∧Blk W w.heap.size 43 #[.int .i64 (pos+1),.slice A l.length c]∧Ext2 gs gm w W) (fun _ _ _ _ i _ _=>l.length-(intOf i).toNat)
  case atStart=>exact ⟨0,Nat.zero_le _,rfl,by rw [List.take_zero];exact HS1.out,HR1.out,HL1.out⟩
  case round=>
    obtain ⟨k,hk,rfl,hst,hrb,hE⟩:=hrel
    have HST:=Lib.hid hst
    have HRB:=Lib.hid hrb
    have HE:=Lib.hid hE
    clear hst hrb hE HS1 HR1 HL1
    by_cases hlt:k<l.length
    · obtain ⟨x,hx⟩:∃ x,l[k]? = some x:=⟨_,List.getElem?_eq_getElem hlt⟩
      have HX:=Lib.hid (applyF_succ rs l k x hx)
      obtain ⟨b,off,c',hA,_,hc9⟩:=(HVL.out.ext2 HS.out HE.out).at_ hx
      injection hA with hA hn' hc'
      subst hA;subst hc'
      clear hn'
      have c0:=hc9 0 (by omega)
      have c1:=hc9 1 (by omega)
      have c2:=hc9 2 (by omega)
      have c3:=hc9 3 (by omega)
      have c4:=hc9 4 (by omega)
      have c5:=hc9 5 (by omega)
      have c6:=hc9 6 (by omega)
      have c7:=hc9 7 (by omega)
      have c8:=hc9 8 (by omega)
      have c9:=hc9 9 (by omega)
      obtain ⟨t,kk,had,o1,o2,o3,has,n1,n2,n3⟩:=x
      simp [ChgT.arr] at c0 c1 c2 c3 c4 c5 c6 c7 c8 c9
      have e2:IntKind.i64.wrap ((k:Int)+1)=(k:Int)+1:=by rw [IntWalk.i64_in _ (by omega)]
      have d1:decide ((k:Int)<(l.length:Int))=true:=by simp;omega
      have q0:(0:Int)≤(k:Int):=by omega
      have q1:(k:Int)<(l.length:Int):=by omega
      have hws:=HE.out.size
      clear hc9 hx
      have HKB:=Lib.hid (Blk.new' (wr.alloc (.cells #[.int .i64 t,.int .i64 kk,.bool had,.int .i64 o1,.int .i64 o2,.int .i64 o3,.bool has,.int .i64 n1,.int .i64 n2,.int .i64 n3] 62)) 106 #[.int .i64 t,.int .i64 kk] (b:=wr.heap.size+1) (by simp))
      cases has
      · have HAF:=Lib.hid (fun W:World=>after_no ⟨t,kk,n1,n2,n3⟩ had o1 o2 o3 W)
        dsimp only at HAF
        go_wp2_with fail
        refine (HAF.out _).mono ?_
        rintro e W2 ⟨rfl,hb2⟩
        have hK2:=HKB.out.ext hb2
        have HS2:=Lib.hid (((HST.out.ext (ext_new _ _)).ext (ext_new _ _)).ext hb2)
        have HR2:=Lib.hid (((HRB.out.alloc _).alloc _).ext hb2)
        have HL2:=Lib.hid ((((HE.out.ext (ext_new _ _)).ext (ext_new _ _)).ext hb2))
        clear hb2 c0 c1 c2 c3 c4 c5 c6 c7 c8 c9
        have k0:=hK2.cell 0;have k1:=hK2.cell 1
        have kl:=hK2.lt
        have s0:=HS2.out.1.cell 0
        have gl:=HS2.out.1.lt
        obtain ⟨o,hdel,hmp⟩:=deleteR (HS2.out.2.ext (ext_new W2 (.cells #[.int .i64 0,.int .i64 0,.int .i64 0,.int .i64 0,.int .i64 0] 108)).drew) t kk
        clear hK2
        go_wp2
        go_region
        generalize hW3:World.putObj (W2.alloc (.cells #[.int .i64 0,.int .i64 0,.int .i64 0,.int .i64 0,.int .i64 0] 108)).drew gm o=W3 at *
        have HS3:=Lib.hid (show StateR W3 gs gm pos (applyF rs (l.take (k+1))) by
          rw [HX.out]
          refine ⟨?_,hmp⟩
          rw [← hW3]
          exact (HS2.out.1.alloc _).drew.putObj _ hne)
        have HR3:=Lib.hid (show Blk W3 w.heap.size 43 #[.int .i64 (pos+1),.slice (some ⟨b,off,none⟩) l.length c] by
          rw [← hW3]
          exact (HR2.out.alloc _).drew.putObj _ (by omega))
        have HE3:=Lib.hid (show Ext2 gs gm w W3 by rw [← hW3];exact ((HL2.out.ext (ext_new _ _)).drewN 1).put _)
        clear hW3 hmp hdel s0 k0 k1
        go_wp2
        go_roundw
        case rel=>exact ⟨k+1,by omega,by go_num,HS3.out,HR3.out,HE3.out⟩
        case measure=>simp [intOf];omega
      · have HAF:=Lib.hid (fun W:World=>after_yes ⟨t,kk,n1,n2,n3⟩ had o1 o2 o3 W)
        dsimp only at HAF
        go_wp2_with fail
        refine (HAF.out _).mono ?_
        rintro e W2 ⟨rfl,hb2⟩
        have hK2:=HKB.out.ext hb2
        have HS2:=Lib.hid (((HST.out.ext (ext_new _ _)).ext (ext_new _ _)).ext hb2)
        have HR2:=Lib.hid (((HRB.out.alloc _).alloc _).ext hb2)
        have HL2:=Lib.hid ((((HE.out.ext (ext_new _ _)).ext (ext_new _ _)).ext hb2))
        clear hb2 c0 c1 c2 c3 c4 c5 c6 c7 c8 c9
        have k0:=hK2.cell 0;have k1:=hK2.cell 1
        have kl:=hK2.lt
        have s0:=HS2.out.1.cell 0
        have gl:=HS2.out.1.lt
        obtain ⟨o,hup,hmp⟩:=updateR (HS2.out.2.ext (ext_new W2 (.cells #[.int .i64 t,.int .i64 kk,.int .i64 n1,.int .i64 n2,.int .i64 n3] 108)).drew) ⟨t,kk,n1,n2,n3⟩
        dsimp only at hup
        clear hK2
        go_wp2
        go_region
        generalize hW3:World.putObj (W2.alloc (.cells #[.int .i64 t,.int .i64 kk,.int .i64 n1,.int .i64 n2,.int .i64 n3] 108)).drew gm o=W3 at *
        have HS3:=Lib.hid (show StateR W3 gs gm pos (applyF rs (l.take (k+1))) by
          rw [HX.out]
          refine ⟨?_,hmp⟩
          rw [← hW3]
          exact (HS2.out.1.alloc _).drew.putObj _ hne)
        have HR3:=Lib.hid (show Blk W3 w.heap.size 43 #[.int .i64 (pos+1),.slice (some ⟨b,off,none⟩) l.length c] by
          rw [← hW3]
          exact (HR2.out.alloc _).drew.putObj _ (by omega))
        have HE3:=Lib.hid (show Ext2 gs gm w W3 by rw [← hW3];exact ((HL2.out.ext (ext_new _ _)).drewN 1).put _)
        clear hW3 hmp hup s0 k0 k1
        go_wp2
        go_roundw
        case rel=>exact ⟨k+1,by omega,by go_num,HS3.out,HR3.out,HE3.out⟩
        case measure=>simp [intOf];omega
    · have d1:decide ((k:Int)<(l.length:Int))=false:=by simp;omega
      have hRB:=HRB.out
      have a0:=hRB.cell 0
      have al:=hRB.lt
      have hST:=HST.out
      have q1:=hST.1.cell 1
      have f1:=hST.1.frozen 1
      have gl:=hST.1.lt
      have HTK:=Lib.hid (show l.take k=l from List.take_of_length_le (by omega))
      clear hRB hST
      go_wp2
      go_ret
      exact .inr ⟨HVF.out,rfl,⟨HST.out.1.set_ 1 _,by have h9:=HST.out.2;rw [HTK.out] at h9;obtain ⟨es,c9,hm,h9⟩:=h9;exact ⟨es,c9,hm.set _ _ hne.symm,h9⟩⟩,HE.out.setA _ _⟩
end
end Go.Proofs.YtnajpjnnlocfgaaGreatDoor
