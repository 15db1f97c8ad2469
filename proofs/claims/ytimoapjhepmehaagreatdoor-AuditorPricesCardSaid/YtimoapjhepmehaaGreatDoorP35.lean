/-
  package proof: the reader and Start at one range proof, any query but a join.
-/
import Derived.Test.YtimoapjhepmehaaGreatDoorP34
import Derived.Test.YtimoapjhepmehaaGreatDoorP26
import Derived.Defers
import Derived.Recover
set_option linter.unusedSimpArgs false
set_option linter.unusedVariables false
set_option maxHeartbeats 4000000
set_option maxRecDepth 100000
namespace Go.Proofs.YtimoapjhepmehaaGreatDoor
open Go.RowKit Go.Shelf
attribute [local go_sem ↓] Go.wp_at_zero Go.wp_at_succ
structure ResT where
  rows:List RowT
  val:Int
  found:Bool
theorem checkYesG (w:World):Calls Tryz.prog 97 #[.bool true] w fun e w'=>e=.returned (.tuple #[])∧w=w':=by
  go_enter Tryz.func97,Tryz.ntmps97
  go_wp2
  go_end0
  exact ⟨rfl,rfl⟩
theorem scanEq (a b c d:Int) (W:World):(Op.equalIn 10000 123 (.agg #[.int .i64 a,.int .i64 b,.int .i64 c,.int .i64 d]) (.agg #[.int .i64 a,.int .i64 b,.int .i64 c,.int .i64 d])).run Tryz.prog W=.ok true W:=by
  simp [go_sem]
theorem startDoneG (bk bo:Nat) (w:World) (hk:w.cell? ⟨bk,0,none⟩=some (.bool true)) :
    CallsD Tryz.prog 95 #[.pointer (some ⟨bk,0,none⟩),.pointer (some ⟨bo,0,none⟩)] .returning w fun e u' w'=>u'=.returning∧(e=.returned (.tuple #[])∧w'=w):=by
  go_enter_d Tryz.func95,Tryz.ntmps95
  go_wp2
  go_end0
  exact ⟨rfl,rfl⟩
theorem caughtIdleG (bk:Nat) (w:World) :
    CallsD Tryz.prog 96 #[.pointer (some ⟨bk,0,none⟩)] .returning w fun e u' w'=>e=.returned (.tuple #[])∧u'=.returning∧w'=w:=by
  have hta:∀ w:World,(Instr.typeAssert .nilIface 20 218 true).run Tryz.prog w=.ok (.tuple #[.nilIface,.bool false]) w:=fun _=>by kernel_rfl
  refine callsD_of_wpS Tryz.func96 rfl fun c₀ cs hu=>?_
  have hn:Tryz.f96.ntmps=17:=Tryz.ntmps96
  rw [hn]
  simp only [List.size_toArray,List.length_cons,List.length_nil,Nat.reduceAdd,Nat.reduceSub,Array.replicate_succ,Array.replicate_zero,List.push_toArray,List.append_toArray,List.nil_append,List.cons_append]
  apply wpS_seq
  apply wpS_region
  simp [wpOpsS,go_sem,recoverD,hu,hta,Exit.thenS]
  clear hta hn
  refine wpS_of_wp ?_
  go_wp2
  cases c₀
  simp_all [bodyPostS,results,Tryz.results96]
theorem RPsS.one {W:World} {v:Value} {p:RPT} (h:RPsS (fun _=>True) W v [p]):∃ g c a b d,v=.slice (some ⟨g,0,none⟩) 1 c∧RPS (fun _=>True) W p a b d∧∀ k,k<9→W.cell? ⟨g,k,none⟩=(p.nums a b d)[k]? := by
  obtain ⟨A,c,rfl,h⟩:=h
  obtain ⟨g,rfl,_,_,h2⟩:=h (by simp)
  obtain ⟨a,b,d,h3,h4⟩:=h2 0 p rfl
  exact ⟨g,c,a,b,d,rfl,h3,fun k hk=>by have:=h4 k hk;simpa using this⟩
theorem readG (p:RPT) (j:Nat) (hp:CompP p j) (pr g c:Nat) (a b d:Value) (w:World) (hr:Blk w pr 183 #[.slice (some ⟨g,0,none⟩) 1 c]) (hc:1≤c) (hg:∀ k,k<9→w.cell? ⟨g,k,none⟩=(p.nums a b d)[k]?) (hs:RPS (fun _=>True) w p a b d) :
    Calls Tryz.prog 98 #[.pointer (some ⟨pr,0,none⟩),.agg #[.int .i64 p.t,.int .i64 p.j,.int .i64 p.lo,.int .i64 p.hi]] w
      fun e w'=>∃ v B m,e=.returned v∧RowsL w' v (rowsP p j)∧Blk w' pr 183 #[.slice B 0 m]∧Ext2 pr pr w w':=by
  have HRO:=Lib.hid (fun (W:World) (h:RowsL W a p.rows)=>rowsOfG p j hp a b d W h)
  have HFA:=Lib.hid (show ∀ u:Value,RowsL (w.setCell ⟨pr,0,none⟩ u) a p.rows from fun u=>hs.rows.rowsL.far (hr.cell 0) (by intro n h;cases h) 0 u)
  generalize rowsP p j=out at *
  have hgl:g<w.heap.size:=lt_of_cell (hg 0 (by omega))
  obtain ⟨Aa,ca,ha,-⟩:=hs.rows
  obtain ⟨Ab,cb,hb,-⟩:=hs.paths
  obtain ⟨Ad,cd,hd,-⟩:=hs.roots
  obtain ⟨t,jj,lo,hi,n,f,l,ps,rts⟩:=p
  dsimp only [RPT.nums] at *
  subst ha hb hd
  have p0:=hr.cell 0
  have f0:=hr.frozen 0
  have pl:=hr.lt
  have pl1:pr<w.heap.size+1:=by omega
  have gl1:g<w.heap.size+1:=by omega
  have hci:(1:Int)≤(c:Int):=by omega
  have q0:=hg 0 (by omega)
  have q1:=hg 1 (by omega)
  have q2:=hg 2 (by omega)
  have q3:=hg 3 (by omega)
  have q4:=hg 4 (by omega)
  have q5:=hg 5 (by omega)
  have q6:=hg 6 (by omega)
  have q7:=hg 7 (by omega)
  have q8:=hg 8 (by omega)
  simp only [List.getElem?_toArray,List.getElem?_cons_zero,List.getElem?_cons_succ] at q0 q1 q2 q3 q4 q5 q6 q7 q8
  have hse:=fun W:World=>scanEq t jj lo hi W
  have HR:=Lib.hid hr
  clear hr hg hs hp
  by_cases hc1:c=1
  all_goals
    first
    | subst hc1
    | (have hc2:(1:Int)<(c:Int):=by omega
       have hc3:1<c:=by omega)
    go_enter Tryz.func98,Tryz.ntmps98
    go_wp2_with (go_at_call 97;refine (checkYesG _).mono ?_;rintro e w' ⟨rfl,rfl⟩)
    refine (HRO.out _ (((HFA.out _).ext (ext_alloc (ext_new _ _) _)))).mono ?_
    rintro e W2 ⟨v,rfl,hv,hb2⟩
    obtain ⟨Av,cv,rfl,-⟩:=id hv
    have HE2:=Lib.hid (Ext2.ext (((((Ext2.refl pr pr w).setA 0 _).alloc _).alloc _)) hb2)
    have HP2:=Lib.hid ((((HR.out.set_ 0 _).alloc _).alloc _).ext hb2)
    have HV:=Lib.hid hv
    clear hv hb2 p0 q0 q1 q2 q3 q4 q5 q6 q7 q8
    go_wp2_with (go_at_call 97;refine (checkYesG _).mono ?_;rintro e w' ⟨rfl,rfl⟩)
    go_ret
    exact ⟨_,_,_,rfl,HV.out.rowsL,HP2.out,HE2.out⟩
end Go.Proofs.YtimoapjhepmehaaGreatDoor
