/-
  Part 9 of 54: the contracts that the proof of the last part uses; each stands under its own head.
-/
import Derived.Test.YtimoapjhepmehaaGreatDoorP6
import Derived.BigRegion
import Derived.Deep.RegionHeld3
import Derived.Test.YtimoapjhepmehaaGreatDoorP5
import Derived.Great.BuildSlice
import Derived.Test.YtimoapjhepmehaaGreatDoorP3
import Derived.Test.YtimoapjhepmehaaGreatDoorP2
import Derived.Deep.RegionHeld
import Derived.Test.YtimoapjhepmehaaGreatDoorP4
import Derived.BigQuiet
set_option linter.unusedSimpArgs false
set_option linter.unusedVariables false
namespace Go.Proofs.YtimoapjhepmehaaGreatDoor
section
open Go.RowKit Go.Shelf
end
section
open Go.RowKit Go.Shelf
theorem keep3E {X W:World} {p q r:Addr} {x y z:Value} (h:W.cell? p=some x∧W.cell? q=some y∧W.cell? r=some z∧Below X.heap.size X W):Below X.heap.size X W:=h.2.2.2
end
section
open Go.RowKit Go.Shelf
attribute [local go_sem] Oper.semAt_some
structure OneRec (W:World) (gl:Nat):Prop where
  at_:∃ gr c g d v,Blk W gl 112 #[.slice (some ⟨gr,0,none⟩) 1 c,v]∧1≤c∧HeadB W gr #[.int .i64 1,.slice (some ⟨g,0,none⟩) 1 d]∧HeadB W g #[.int .i64 0,.int .i64 5,.bool false,.int .i64 0,.int .i64 0,.int .i64 0,.bool true,.int .i64 10,.int .i64 20,.int .i64 30]
end
section
open Go.RowKit Go.Shelf
attribute [local go_sem] Oper.semAt_some
attribute [local go_sem ↓] Go.wp_at_zero Go.wp_at_succ
theorem blk_kept {X Y:World} {row:Option Nat} {b:Nat} {t:TypeId} {cs:Array Value} (h:Blk X b t cs) (hg:X.grownBy Y row) (hr:∀ r,row=some r→∃ o:Obj,X.heap[r]? = some o∧o.isCells=false):Blk Y b t cs:=
  OwnP.blk (B:=0) () X Y row h hg (fun r e=>⟨Nat.zero_le _,hr r e⟩)
end
section
open Go.RowKit Go.Shelf
def BsOK (P:Program) (t:TypeId) (len:Nat) (ps:Array (Nat × Value)) (cs:Array Value) (e:TypeId):Prop:=∀ w:World,(Instr.buildSlice t len ps).run P w=.ok (.slice (some ⟨w.heap.size,0,none⟩) len len) (w.alloc (.cells cs e))
def BsAny (P:Program) (t:TypeId) (len:Nat) (ps:Array (Nat × Value)):Prop:=∃ cs e,BsOK P t len ps cs e
open Classical in
noncomputable def bsO (P:Program) (t:TypeId) (len:Nat) (ps:Array (Nat × Value)):Obj:=if h:BsAny P t len ps then .cells h.choose h.choose_spec.choose else .deferred none
theorem bs_run {P:Program} {w:World} {t:TypeId} {len:Nat} {ps:Array (Nat × Value)} (h:BsAny P t len ps):(Instr.buildSlice t len ps).run P w=.ok (.slice (some ⟨w.heap.size,0,none⟩) len len) (w.alloc (bsO P t len ps)):=by
  unfold bsO
  rw [dif_pos h]
  exact h.choose_spec.choose_spec w
theorem bs_exec {P:Program} {w:World} {ρ:Operand→Value} {d:Option Tmp} {ps:Array (Nat × Operand)} {len:Nat} {ty t:TypeId} {p:String} {af:Array Edge} {g:Option (Nat × Bool)} (h:BsAny P ty len (ps.map fun x=>(x.1,ρ x.2))) :
    (execOp ρ { dst:=d,op:=.buildSlice ty len ps,type:=t,pos:=p,after:=af,guard:=g }).run P w=.ok (.value (.slice (some ⟨w.heap.size,0,none⟩) len len)) (w.alloc (bsO P ty len (ps.map fun x=>(x.1,ρ x.2)))):=by
  have h':=bs_run (w:=w) h
  unfold execOp
  simp only [Sem.run_bind,Sem.run_pure,Result.andThen_ok,h']
theorem bs_sem {P:Program} {w:World} {ro:Option Nat} {ρ:Operand→Value} {d:Option Tmp} {ps:Array (Nat × Operand)} {len:Nat} {ty t:TypeId} {p:String} {af:Array Edge} {g:Option (Nat × Bool)} (h:BsAny P ty len (ps.map fun x=>(x.1,ρ x.2))) :
    (Oper.semAt ro ρ { dst:=d,op:=.buildSlice ty len ps,type:=t,pos:=p,after:=af,guard:=g }).run P w=.ok (.value (.slice (some ⟨w.heap.size,0,none⟩) len len)) (w.alloc (bsO P ty len (ps.map fun x=>(x.1,ρ x.2)))):=by
  rw [Oper.semAt_eq ro ρ _ (by intro c h;cases h)]
  exact bs_exec h
theorem own_keptP {X Y:World} {row:Option Nat} {base n sz:Nat} {e:TypeId} {v:Value} {xs:List Value} (h:X.ownsRow base e sz v n xs) (hg:X.grownBy Y row) (hr:∀ r,row=some r→∃ o:Obj,X.heap[r]? = some o∧o.isCells=false):Y.ownsRow base e sz v n xs:=
  h.kept hg (by
    rcases h.2 with ⟨rfl,_⟩|⟨g,cap,cur,rfl,_,hgg,_⟩
    · exact .inl rfl
    · refine .inr fun e=>?_
      obtain ⟨o,ho,hc⟩:=hr _ e.symm
      rw [hgg] at ho
      cases ho
      cases hc)
theorem own_setbox {W:World} {base n sz b:Nat} {e t:TypeId} {v:Value} {xs:List Value} {cs:Array Value} (h:W.ownsRow base e sz v n xs) (hb:Blk W b t cs) (ht:t≠e) (u:Value):(W.setCell ⟨b,0,none⟩ u).ownsRow base e sz v n xs:=
  h.kept (row:=some b) ⟨rfl,rfl,rfl,by simp [World.setCell],fun k _ hk=>Below.heap_setCell _ _ _ _ (fun e=>hk (by simp [e]))⟩ (by
    rcases h.2 with ⟨rfl,_⟩|⟨g,cap,cur,rfl,_,hgg,_⟩
    · exact .inl rfl
    · refine .inr fun e1=>?_
      have e2:g=b:=by simpa [Value.ownBlock] using e1
      subst e2
      unfold Blk at hb
      rw [hgg] at hb
      injection hb with hb
      injection hb with _ hb _
      exact ht hb.symm)
attribute [local go_sem] run_semAt
attribute [local go_sem ↓] bd_exec bd_sem bs_exec bs_sem app_exec app_sem Go.wp_at_zero Go.wp_at_succ
end
section
open Go.RowKit Go.Shelf
attribute [local go_sem ↓] Go.wp_at_zero Go.wp_at_succ
theorem keep2B {X W:World} {p q:Addr} {x y:Value} (h:X.cell? p=some x∧X.cell? q=some y) (k:Below X.heap.size X W):W.cell? p=some x∧W.cell? q=some y∧Below X.heap.size X W:=⟨cell_ext h.1 k,cell_ext h.2 k,k⟩
end
section
open Go.RowKit Go.Shelf
structure ExtS (S:Nat→Prop) (w w':World):Prop where
  os:w'.os=w.os
  tape:w'.tape=w.tape
  output:w'.output=w.output
  size:w.heap.size≤w'.heap.size
  block:∀ k,k<w.heap.size→¬ S k→w'.heap[k]? = w.heap[k]?
section
variable {S T:Nat→Prop} {w w' w'':World}
theorem ExtS.of_ext (h:Below w.heap.size w w'):ExtS S w w':=⟨h.os,h.tape,h.output,h.size,fun k hk _=>h.block k hk⟩
theorem ExtS.of_ext2 {a b:Nat} (h:Ext2 a b w w') (ha:S a) (hb:S b):ExtS S w w':=⟨h.os,h.tape,h.output,h.size,fun k hk hn=>h.block k hk (fun e=>hn (e ▸ ha)) (fun e=>hn (e ▸ hb))⟩
theorem ExtS.trans (h:ExtS S w w') (k:ExtS S w' w''):ExtS S w w'':=⟨k.os.trans h.os,k.tape.trans h.tape,k.output.trans h.output,Nat.le_trans h.size k.size,fun i hi hn=>(k.block i (Nat.lt_of_lt_of_le hi h.size) hn).trans (h.block i hi hn)⟩
theorem ExtS.mono (h:ExtS S w w') (hS:∀ k,S k→T k):ExtS T w w':=⟨h.os,h.tape,h.output,h.size,fun k hk hn=>h.block k hk (fun e=>hn (hS k e))⟩
theorem ExtS.blk {g:Nat} {t:TypeId} {cs:Array Value} (h:Blk w g t cs) (k:ExtS S w w') (hn:¬ S g):Blk w' g t cs:=(k.block g h.lt hn).trans h
theorem ExtS.cell {p:Addr} {v:Value} (h:w.cell? p=some v) (k:ExtS S w w') (hn:¬ S p.block):w'.cell? p=some v:=(World.cell?_of_block (k.block p.block (lt_of_cell h) hn)).trans h
theorem ExtS.below {w0:World} (h:Below w0.heap.size w0 w) (hS:∀ k,S k→w0.heap.size≤k) (k:ExtS S w w'):Below w0.heap.size w0 w':=
  ⟨k.os.trans h.os,k.tape.trans h.tape,k.output.trans h.output,Nat.le_trans h.size k.size,fun i hi=>(k.block i (Nat.lt_of_lt_of_le hi h.size) (fun e=>absurd (hS i e) (by omega))).trans (h.block i hi)⟩
end
theorem blkNe {W:World} {a b:Nat} {t u:TypeId} {xs ys:Array Value} (h:Blk W a t xs) (k:Blk W b u ys) (hne:t≠u):a≠b:=by
  rintro rfl
  unfold Blk at h k
  rw [h] at k
  injection k with k
  injection k with _ k
  exact hne k
end
section
open Go.RowKit
theorem wpAnyH_listed {P:Program} {md:Region.Mode} {ops:Array Oper} {Q:Exit→Act→World→Prop} {S:World→Prop} {fuel fuel':Nat} {listed listed':Array Bool} {a:Act} {w:World} (hf:fuel=fuel') (hl:listed=listed') (H:wpAnyH P md ops Q S fuel' listed' a w):wpAnyH P md ops Q S fuel listed a w:=by
  subst hf hl
  exact H
def freeZ (md:Region.Mode) (ops:Array Oper) (oi:Oper) (i:Nat):Nat→List Oper→List Bool→Bool
  | _,[],_=>true
  | j,o::os,bs=>(bs.headD true || (j == i || (o.after.any (fun e=>Region.binds md e && e.on == i) || oi.apart ops o))) && freeZ md ops oi i (j+1) os bs.tail
theorem freeZ_at {md:Region.Mode} {ops:Array Oper} {oi:Oper} {i:Nat}:∀ (os:List Oper) (bs:List Bool) (j0:Nat),freeZ md ops oi i j0 os bs=true→∀ (k:Nat) (o:Oper),os[k]? = some o →
    ((bs[k]?).getD true || (j0+k == i || (o.after.any (fun e=>Region.binds md e && e.on == i) || oi.apart ops o)))=true
  | [],_,_,_,k,o,h=>by simp at h
  | x :: os, bs, j0, hf, k, o, h => by
    simp only [freeZ,Bool.and_eq_true] at hf
    cases k with
    | zero=>
      simp only [List.getElem?_cons_zero,Option.some.injEq] at h
      subst h
      have h1:=hf.1
      cases bs with
      | nil=>simp
      | cons b bs=>simpa using h1
    | succ k=>
      have h1:=freeZ_at os bs.tail (j0+1) hf.2 k o (by simpa using h)
      have e:j0+1+k=j0+(k+1):=by omega
      rw [e] at h1
      cases bs with
      | nil=>simp
      | cons b bs=>simpa using h1
def readyOne (md:Region.Mode) (listed:List Bool) (oi:Oper) (i:Nat):Bool:=
  !(listed[i]?).getD true && oi.after.all fun e => !Region.binds md e || (listed[e.on]?).getD false
def readyZ (md:Region.Mode) (listed:List Bool):Nat→List Oper→List Bool→List Nat
  | _,[],_=>[]
  | j,o::os,bs=>bif !bs.headD true && o.after.all (fun e => !Region.binds md e || (listed[e.on]?).getD false) then j::readyZ md listed (j+1) os bs.tail else readyZ md listed (j+1) os bs.tail
theorem getD_list (l:Array Bool) (i:Nat) (d:Bool):l.getD i d=(l.toList[i]?).getD d:=by
  rw [Array.getD_eq_getD_getElem?,← Array.getElem?_toList]
theorem readyZ_filter (md:Region.Mode) (listed:Array Bool):∀ (os:List Oper) (bs:List Bool) (j0:Nat) (ops:Array Oper),(∀ k,ops[j0+k]? = os[k]?)→(∀ k,(listed.toList[j0+k]?).getD true=(bs[k]?).getD true) →
    (List.range' j0 os.length).filter (fun i => !listed.getD i true && ((ops[i]?).map (·.after.all fun e => !Region.binds md e || listed.getD e.on false)).getD false)=readyZ md listed.toList j0 os bs
  | [],_,_,_,_,_=>by simp [readyZ]
  | o :: os, bs, j0, ops, h1, h2 => by
    have e1:=h1 0
    have e2:=h2 0
    have ih:=readyZ_filter md listed os bs.tail (j0+1) ops (fun k=>by have:=h1 (k+1);simpa [Nat.add_assoc,Nat.add_comm 1 k] using this) (fun k=>by
      have:=h2 (k+1)
      cases bs <;> simpa [Nat.add_assoc,Nat.add_comm 1 k] using this)
    have e3:listed.getD j0 true=bs.headD true:=by
      rw [getD_list]
      cases bs <;> simpa using e2
    rw [List.length_cons,List.range'_succ,List.filter_cons,ih]
    simp only [Nat.add_zero,List.getElem?_cons_zero] at e1
    simp only [e1,e3,Option.map_some,Option.getD_some,readyZ,getD_list]
    cases (!bs.headD true && o.after.all fun e => !Region.binds md e || (listed.toList[e.on]?).getD false) <;> rfl
theorem ready_Z {md:Region.Mode} {ops:List Oper} {listed:List Bool}:Region.ready md ops.toArray listed.toArray=readyZ md listed 0 ops listed:=by
  rw [Region.ready,List.range_eq_range']
  exact readyZ_filter md listed.toArray ops listed 0 ops.toArray (by simp) (by simp)
theorem wpAnyH_hns {P:Program} {md:Region.Mode} {ops:Array Oper} {Q:Exit→Act→World→Prop} {S:World→Prop} {fuel:Nat} {listed:Array Bool} {a:Act} {w:World} (hs:Region.noSelect ops=true) (h:RowKit.Hid (Region.noSelect ops=true)→wpAnyH P md ops Q S fuel listed a w):wpAnyH P md ops Q S fuel listed a w:=h (Lib.hid hs)
theorem wpAnyH_takeZ {P:Program} {md:Region.Mode} {ops:List Oper} {Q:Exit→Act→World→Prop} {S:World→Prop} {i:Nat} {oi:Oper} {v:Value} {fuel:Nat} {listed:List Bool} {a:Act} {w:World} (hs:RowKit.Hid (Region.noSelect ops.toArray=true)) (hi:ops[i]? = some oi)
    (hf:freeZ md ops.toArray oi i 0 ops listed=true) (hr:readyOne md listed oi i=true)
    (hQ:∀ c a w,Q (.panic c) (a.put oi.dst v) w→Q (.panic c) a w) (hy:YieldsIf P ops.toArray S oi v a) (hS:S w)
    (h:wpAnyH P md ops.toArray Q S fuel (listed.set i true).toArray (a.put oi.dst v) w):wpAnyH P md ops.toArray Q S (fuel+1) listed.toArray a w:=by
  refine wpAnyH_take (i:=i) (by simpa using hi) hs.out ?_ ?_ hQ hy hS (by simpa using h)
  · simp only [Region.free,List.getElem?_toArray,hi,List.all_eq_true,List.mem_range,List.size_toArray]
    intro j hj
    have h1:=freeZ_at ops listed 0 hf j ops[j] (List.getElem?_eq_getElem hj)
    rw [getD_list,List.getElem?_eq_getElem hj]
    simp only [Nat.zero_add] at h1
    simp only [Bool.or_eq_true] at h1 ⊢
    rcases h1 with h1|h1|h1
    · exact .inl (.inr h1)
    · exact .inl (.inl h1)
    · exact .inr h1
  · simp only [List.contains_iff_mem,Region.ready,List.mem_filter,List.mem_range,List.size_toArray]
    refine ⟨(List.getElem?_eq_some_iff.1 hi).1,?_⟩
    simp only [readyOne] at hr
    simp only [getD_list,List.getElem?_toArray,hi,Option.map_some,Option.getD_some]
    exact hr
theorem wpAnyH_readyZ {P:Program} {md:Region.Mode} {ops:List Oper} {Q:Exit→Act→World→Prop} {S:World→Prop} {rs:List Nat} {fuel:Nat} {listed:List Bool} {a:Act} {w:World} (hr:readyZ md listed 0 ops listed=rs) (hne:rs≠[])
    (h:AllReadyH P md ops.toArray Q S fuel listed.toArray a w rs):wpAnyH P md ops.toArray Q S (fuel+1) listed.toArray a w:=wpAnyH_ready (ready_Z.trans hr) hne h
end
section
open Go.RowKit Go.Shelf
attribute [local go_sem ↓] Go.wp_at_zero Go.wp_at_succ
end
section
open Go.RowKit Go.Shelf
attribute [local go_sem ↓] app_exec app_sem Go.wp_at_zero Go.wp_at_succ
end
end Go.Proofs.YtimoapjhepmehaaGreatDoor
