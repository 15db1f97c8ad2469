/-
  Part 2 of 9: the contracts that the proof of the last part uses; each stands under its own head.
-/
import Derived.Test.YtnajpjnnlocfgaaGreatDoorJ1
import Derived.Deep.RegionHeld3
import Derived.StillTailTactics
import Derived.BigRegion
import Derived.Shelf.Strings.Builder1
import Derived.Shelf.Strings.Builder2
import Derived.Shelf.Strings.OnBuilder
import Derived.Shelf.Small.Bits
import Derived.Shelf.Small.Wraps
import Derived.Shelf.Strings.BuilderF
import Derived.Shelf.Strings.BuilderK
import Derived.Shelf.Strings.Builder2Cap
import Derived.Shelf.Strconv.Itoa0
import Derived.Shelf.Strings.Prefix
import Derived.Shelf.Bits.Mul64
import Derived.Shelf.Strings.Repeat
import Derived.Shelf.Slices.Equal
import Derived.Ground.Names2Prog
import Derived.Shelf.Slices.ReverseS
import Derived.Shelf.Slices.Clone
import Derived.Shelf.Slices.SearchI
import Derived.Shelf.Slices.Cells
import Derived.Shelf.Slices.Empties2
import Derived.Ground.SlgnProg
import Derived.Shelf.SlicesE.Reverse
import Derived.Shelf.SlicesE.Clone
import Derived.Test.YtnajpjnnlocfgaaGreatDoorProg
import Derived.Deep.RegionWith
set_option linter.unusedSimpArgs false
set_option linter.unusedVariables false
set_option maxHeartbeats 4000000
set_option maxRecDepth 100000
namespace Go.Proofs.YtnajpjnnlocfgaaGreatDoor
open Go.RowKit Go.Shelf
theorem wpIn_mem_box2 {n:Nat} {P:Program} {g:Operand} {ps:Array Tmp} {assign body:Code} {Q:Exit→Act→World→Prop} {a:Act} {w:World}
    (h1:1≤n) {gf:Nat} {lb:Array Value} (hg:a.eval g=.func (.func gf) #[] lb) (eg:∀ args w,(callFunc gf args).run P w=.ok (.enter gf args) w)
    {N:Nat} {C:World→Prop} {M:Nat→Value→Value→World→Prop} (hseq:SeqMem (n-1) P gf lb N C (fun k xs W=>∃ v1 v2,xs=#[.agg #[v1,v2]]∧M k v1 v2 W)) (hps:ps.size=1)
    (I:Nat→World→Prop) (hI:∀ k,OwnP w.heap.size (I k)) (hC:∀ k W,I k W→C W) (h0:I 0 w) (hM:∀ k v1 v2,OwnP w.heap.size (M k v1 v2))
    (hMs:∀ k v1 v2 W,M k v1 v2 W→∃ A1 n1 c1 A2 n2 c2,v1=.slice A1 n1 c1∧v2=.slice A2 n2 c2) (t:TypeId) (Fr:Nat→Option Addr→Nat→Nat→Option Addr→Nat→Nat→Act)
    (hassign:∀ (l h:Nat) (A1:Option Addr) (n1 c1:Nat) (A2:Option Addr) (n2 c2:Nat) (W:World) (K:Act→World→Prop),h=W.heap.size→K (Fr h A1 n1 c1 A2 n2 c2) (W.alloc (.cells #[.slice A1 n1 c1,.slice A2 n2 c2] t)) →
      assign.wpIn (Fence.wide.inRound l) (n-1-1) P (Exit.then K (fun _ _ _=>False)) { tmps:=(ps.zip #[.agg #[.slice A1 n1 c1,.slice A2 n2 c2]]).foldl (fun t (p,v)=>t.setIfInBounds p v) a.tmps,defers:=[] } W)
    (hbody:∀ (l h k:Nat) (A1:Option Addr) (n1 c1:Nat) (A2:Option Addr) (n2 c2:Nat) (W:World),k<N→w.heap.size≤W.heap.size→w.heap.size≤h→Blk W h t #[.slice A1 n1 c1,.slice A2 n2 c2]→M k (.slice A1 n1 c1) (.slice A2 n2 c2) W→I k W →
      body.wpIn (Fence.wide.inRound l) (n-1-1) P (OncePost w.heap.size (I (k+1)) W) (Fr h A1 n1 c1 A2 n2 c2) W)
    (hdone:∀ (D:Nat) (W:World),w.heap.size≤D→I N W→W.heap[D]? = some (.deferred (some []))→Q .normal { a with defers:={ target:=.collected D,args:=#[] }::a.defers } W) :
    (Code.rangeFunc g ps assign body).wpIn Fence.wide n P Q a w:=
  wpIn_mem h1 hg eg hseq (fun k xs W h=>by obtain ⟨v1,v2,rfl,_⟩:=h;rw [hps];rfl) I hI hC h0 (fun k a' W=>∃ h A1 n1 c1 A2 n2 c2,w.heap.size≤h∧a'=Fr h A1 n1 c1 A2 n2 c2∧Blk W h t #[.slice A1 n1 c1,.slice A2 n2 c2]∧M k (.slice A1 n1 c1) (.slice A2 n2 c2) W)
    (fun k a' _ X Y row hs hg hr=>by
      obtain ⟨h,A1,n1,c1,A2,n2,c2,hh,ha,hB,hm⟩:=hs
      exact ⟨h,A1,n1,c1,A2,n2,c2,hh,ha,OwnP.blk (B:=w.heap.size) () X Y row hB hg hr,hM k _ _ () X Y row hm hg hr⟩)
    (fun l k xs W K hk hsz hI' hm hK=>by
      obtain ⟨v1,v2,rfl,hm⟩:=hm
      obtain ⟨A1,n1,c1,A2,n2,c2,rfl,rfl⟩:=hMs k v1 v2 W hm
      exact hassign l W.heap.size A1 n1 c1 A2 n2 c2 W K rfl (hK _ _ ((KeepsOthers.alloc W _).from _) (OwnFrom.alloc (s:=()) (hI k) _ hI') ⟨_,A1,n1,c1,A2,n2,c2,hsz,rfl,Blk.new _ _ _,OwnFrom.alloc (s:=()) (hM k _ _) _ hm⟩))
    (fun l k a' W hk hsz hI' hA=>by
      obtain ⟨h,A1,n1,c1,A2,n2,c2,hh,rfl,hB,hm⟩:=hA
      exact hbody l h k A1 n1 c1 A2 n2 c2 W hk hsz hh hB hm hI') hdone
def AppOK (P:Program) (w:World) (t ty:TypeId) (v x:Value):Prop:=∃ v' w',(Builtin.append_ #[t,t] ty #[v,x]).run P w=.ok v' w'
def appV (P:Program) (w:World) (t ty:TypeId) (v x:Value):Value:=match (Builtin.append_ #[t,t] ty #[v,x]).run P w with | .ok v' _=>v'|_=>undef
def appW (P:Program) (w:World) (t ty:TypeId) (v x:Value):World:=match (Builtin.append_ #[t,t] ty #[v,x]).run P w with | .ok _ w'=>w'|_=>w
theorem app_run {P:Program} {w:World} {t ty:TypeId} {v x:Value} (h:AppOK P w t ty v x):(Builtin.append_ #[t,t] ty #[v,x]).run P w=.ok (appV P w t ty v x) (appW P w t ty v x):=by
  obtain ⟨v',w',h⟩:=h
  unfold appV appW
  rw [h]
theorem app_exec {P:Program} {w:World} {ρ:Operand→Value} {d:Option Tmp} {s x:Operand} {t ty:TypeId} {p:String} {af:Array Edge} {g:Option (Nat × Bool)} (h:AppOK P w t ty (ρ s) (ρ x)) :
    (execOp ρ { dst:=d,op:=.call { callee:=.builtin .append,args:=#[s,x],argTypes:=#[t,t] },type:=ty,pos:=p,after:=af,guard:=g }).run P w=.ok (.value (appV P w t ty (ρ s) (ρ x))) (appW P w t ty (ρ s) (ρ x)):=by
  have h':=app_run h
  unfold execOp
  simp only [resolve,invoke,builtin,Sem.run_bind,Sem.run_pure,Result.andThen_ok,List.map_toArray,List.map_cons,List.map_nil,h']
theorem app_sem {P:Program} {w:World} {ro:Option Nat} {ρ:Operand→Value} {d:Option Tmp} {s x:Operand} {t ty:TypeId} {p:String} {af:Array Edge} {g:Option (Nat × Bool)} (h:AppOK P w t ty (ρ s) (ρ x)) :
    (Oper.semAt ro ρ { dst:=d,op:=.call { callee:=.builtin .append,args:=#[s,x],argTypes:=#[t,t] },type:=ty,pos:=p,after:=af,guard:=g }).run P w=.ok (.value (appV P w t ty (ρ s) (ρ x))) (appW P w t ty (ρ s) (ρ x)):=by
  rw [Oper.semAt_eq ro ρ _ (by intro c h;cases h)]
  exact app_exec h
theorem run_semAt {P:Program} {w:World} {l:Nat} {ρ:Operand→Value} {o:Oper} (h:∀ c,o.op ≠ .defer c):(Oper.semAt (some l) ρ o).run P w=(execOp ρ o).run P w:=by rw [Oper.semAt_eq _ ρ o h]
theorem app_own {P:Program} {w:World} (base:Nat) (t ty e:TypeId) (i:TypeInfo) (z:Value) (size bytes:Nat) (ht:P.underlying t=some (.slice e)) (hi:P.info? e=some i) (hz:i.zero=some z)
    (hsize:i.size=size) (hby:i.bytes=bytes) (hzs:z.cells.size=size) (hsz:0<size)
    (v:Value) (n:Nat) (xs:List Value) (hown:w.ownsRow base e size v n xs)
    (a:Addr) (m c:Nat) (news:List Value) (hl:news.length=m*size) (hnews:∀ j u,news[j]? = some u→w.cell? (a.add j)=some u) (h1:∀ u ∈ news,u.oneCell'=true)
    (h63:n+m≤maxLen) (hbytes:(n+m)*bytes≤140737488355328) (hbase:base≤w.heap.size) :
    AppOK P w t ty v (.slice (some a) m c)∧(appW P w t ty v (.slice (some a) m c)).ownsRow base e size (appV P w t ty v (.slice (some a) m c)) (n+m) (xs++news)∧w.grownBy (appW P w t ty v (.slice (some a) m c)) v.ownBlock:=by
  obtain ⟨v',w',hr,ho,hg,_⟩:=run_append_own (P:=P) (w:=w) base t ty e i z size bytes ht hi hz hsize hby hzs hsz v n xs hown a m c news hl hnews h1 h63 hbytes hbase
  have hv:appV P w t ty v (.slice (some a) m c)=v':=by unfold appV;rw [hr]
  have hw:appW P w t ty v (.slice (some a) m c)=w':=by unfold appW;rw [hr]
  rw [hv,hw]
  exact ⟨⟨_,_,hr⟩,ho,hg⟩
end Go.Proofs.YtnajpjnnlocfgaaGreatDoor
namespace Go.Proofs.YtnajpjnnlocfgaaGreatDoor
open Go.RowKit
attribute [local go_sem ↓] Go.wp_at_zero Go.wp_at_succ
def StateAt (w:World) (gs gm:Nat) (es:Array MapEntry) (c:Nat) (pos:Int):Prop:=Blk w gs 99 #[.map (some gm),.int .i64 pos]∧MapAt w gm es c
section
variable {w W:World} {gs gm c:Nat} {es:Array MapEntry} {pos:Int}
theorem StateAt.ext (h:StateAt w gs gm es c pos) (k:Below w.heap.size w W):StateAt W gs gm es c pos:=⟨h.1.ext k,h.2.ext k⟩
theorem StateAt.alloc (h:StateAt w gs gm es c pos) (o:Obj):StateAt (w.alloc o) gs gm es c pos:=⟨h.1.alloc o,h.2.alloc o⟩
end
def theEntry:MapEntry:=⟨.agg #[.int .i64 0,.int .i64 5],.agg #[.int .i64 0,.int .i64 5,.int .i64 1,.int .i64 2,.int .i64 3],0⟩
theorem id_check (b:Bool) (w:World):(Instr.checkKey b 10000 106 (.agg #[.int .i64 0,.int .i64 5])).run Tryz.prog w=.ok () w:=by cases b <;> kernel_rfl
theorem row_zero (w:World):(zeroValue 108).run Tryz.prog w=.ok (.agg #[.int .i64 0,.int .i64 0,.int .i64 0,.int .i64 0,.int .i64 0]) w:=by kernel_rfl
theorem storeNew (w:World):Calls Tryz.prog 64 #[] w fun e w'=>e=.returned (.pointer (some ⟨w.heap.size+1,0,none⟩))∧(w.alloc (.map #[] 0)).alloc (.cells #[.map (some w.heap.size),.int .i64 0] 99)=w':=by
  have hmm:=@run_makeMap Tryz.prog
  go_enter Tryz.func64,Tryz.ntmps64
  go_wp2
  go_ret
  exact ⟨rfl,rfl⟩
def Abide (I:World→Prop):Prop:=∀ W W':World,I W→Below W.heap.size W W'→I W'
theorem keep3 {I:World→Prop} (hI:Abide I) {W W':World} {p q r:Addr} {x y z:Value} (h:W.cell? p=some x∧W.cell? q=some y∧W.cell? r=some z∧I W) (hb:Below W.heap.size W W'):W'.cell? p=some x∧W'.cell? q=some y∧W'.cell? r=some z∧I W':=
  ⟨cell_ext h.1 hb,cell_ext h.2.1 hb,cell_ext h.2.2.1 hb,hI W W' h.2.2.2 hb⟩
def FitsI (w:World) (b gs gm:Nat) (W:World):Prop:=HeadB W b #[.int .i64 0,.int .i64 5,.bool false,.int .i64 0,.int .i64 0,.int .i64 0,.bool true,.int .i64 1,.int .i64 2,.int .i64 3]∧StateAt W gs gm #[] 0 0∧Below w.heap.size w W
theorem FitsI.b {w W:World} {b gs gm:Nat} {p q r:Addr} {x y z:Value} (h:W.cell? p=some x∧W.cell? q=some y∧W.cell? r=some z∧FitsI w b gs gm W):HeadB W b #[.int .i64 0,.int .i64 5,.bool false,.int .i64 0,.int .i64 0,.int .i64 0,.bool true,.int .i64 1,.int .i64 2,.int .i64 3]:=h.2.2.2.1
theorem FitsI.abide (w:World) (b gs gm:Nat):Abide (FitsI w b gs gm):=fun _ _ h k=>⟨h.1.ext k,h.2.1.ext k,ext_call h.2.2 k⟩
theorem fits_yes (w:World) (b c gs gm:Nat) (hB:HeadB w b #[.int .i64 0,.int .i64 5,.bool false,.int .i64 0,.int .i64 0,.int .i64 0,.bool true,.int .i64 1,.int .i64 2,.int .i64 3]) (hS:StateAt w gs gm #[] 0 0):Calls Tryz.prog 43 #[.pointer (some ⟨gs,0,none⟩),.agg #[.int .i64 1,.slice (some ⟨b,0,none⟩) 1 c]] w fun e w'=>e=.returned (.bool true)∧Below w.heap.size w w':=by
  have HS0:=Lib.hid (hS.alloc (.cells #[.int .i64 1,.slice (some ⟨b,0,none⟩) 1 c] 43))
  have HC0:=Lib.hid (hB.alloc (.cells #[.int .i64 1,.slice (some ⟨b,0,none⟩) 1 c] 43))
  have HR0:=Lib.hid (Blk.new w 43 #[.int .i64 1,.slice (some ⟨b,0,none⟩) 1 c])
  have HV:=Lib.hid (fun (W:World) (h:HeadB W b #[.int .i64 0,.int .i64 5,.bool false,.int .i64 0,.int .i64 0,.int .i64 0,.bool true,.int .i64 1,.int .i64 2,.int .i64 3])=>validRecord W b c h)
  clear hB hS
  have a0:=HR0.out.cell 0
  have a1:=HR0.out.cell 1
  have s1:=HS0.out.1.cell 1
  have HF0:=Lib.hid (show FitsI w b gs gm (w.alloc (.cells #[.int .i64 1,.slice (some ⟨b,0,none⟩) 1 c] 43)) from ⟨HC0.out,HS0.out,ext_new w _⟩)
  have hAb:=Lib.hid (FitsI.abide w b gs gm)
  have hwr:IntKind.i64.wrap 1=1:=by decide
  go_enter Tryz.func43,Tryz.ntmps43
  go_wp2
  go_region_held3 (fun w'=>w'.cell? ⟨w.heap.size,0,none⟩=some (.int .i64 1)∧w'.cell? ⟨w.heap.size,1,none⟩=some (.slice (some ⟨b,0,none⟩) 1 c)∧w'.cell? ⟨gs,1,none⟩=some (.int .i64 0)∧FitsI w b gs gm w')
    (first|exact ⟨a0,a1,s1,hAb.out _ _ HF0.out (ext_refl _).drew⟩|assumption|exact keep3 hAb.out (by assumption) (by assumption))
    (first|(go_at_call 80;(with_reducible refine (HV.out _ ?_).mono ?_);(exact FitsI.b (by assumption));rintro e w' ⟨rfl,hb'⟩))
  have hall:w'.cell? ⟨w.heap.size,0,none⟩=some (.int .i64 1)∧w'.cell? ⟨w.heap.size,1,none⟩=some (.slice (some ⟨b,0,none⟩) 1 c)∧w'.cell? ⟨gs,1,none⟩=some (.int .i64 0)∧FitsI w b gs gm w':=by assumption
  have hF:FitsI w b gs gm w':=hall.2.2.2
  have b1:=hall.2.1
  have g0:=hF.2.1.1.cell 0
  have hlen:=len_map (P:=Tryz.prog) Tryz.underlying95 hF.2.1.2 3 (v:=.int .i64 0) rfl
  have e0:=hF.1.cell 0
  have e1:=hF.1.cell 1
  have e2:=hF.1.cell 2
  have e3:=hF.1.cell 3
  have e4:=hF.1.cell 4
  have e5:=hF.1.cell 5
  have e6:=hF.1.cell 6
  have e7:=hF.1.cell 7
  have e8:=hF.1.cell 8
  have e9:=hF.1.cell 9
  have HF:=Lib.hid hF
  have gl:=hF.2.1.1.lt
  have bl:=hF.1.lt
  clear hall hF a0 a1 s1
  go_wp2
  refine wp_loop_rounds 2 ?_
  rw [rounds_succ]
  have hlk:=fun o=>lookup_none (P:=Tryz.prog) (k:=.agg #[.int .i64 0,.int .i64 5]) (w:=((w'.alloc (.cells #[.int .i64 0,.int .i64 5,.bool false,.int .i64 0,.int .i64 0,.int .i64 0,.bool true,.int .i64 1,.int .i64 2,.int .i64 3] 62)).alloc o).drew) Tryz.underlying95 ((HF.out.2.1.2.alloc (.cells #[.int .i64 0,.int .i64 5,.bool false,.int .i64 0,.int .i64 0,.int .i64 0,.bool true,.int .i64 1,.int .i64 2,.int .i64 3] 62)).alloc o) (id_check true _) Tryz.underlying106 (row_zero _)
  have hlk2:=lookup_none (P:=Tryz.prog) (k:=.agg #[.int .i64 0,.int .i64 5]) (w:=(w'.alloc (.cells #[.int .i64 0,.int .i64 5,.bool false,.int .i64 0,.int .i64 0,.int .i64 0,.bool true,.int .i64 1,.int .i64 2,.int .i64 3] 62)).drew) Tryz.underlying95 (HF.out.2.1.2.alloc (.cells #[.int .i64 0,.int .i64 5,.bool false,.int .i64 0,.int .i64 0,.int .i64 0,.bool true,.int .i64 1,.int .i64 2,.int .i64 3] 62)) (id_check true _) Tryz.underlying106 (row_zero _)
  go_wp2
  go_region
  go_wp2
  rw [rounds_succ]
  go_wp2
  go_ret
  exact ⟨rfl,(ext_alloc (ext_alloc HF.out.2.2 _) _).drew⟩
theorem after_row (w:World):Calls Tryz.prog 44 #[.agg #[.int .i64 0,.int .i64 5,.bool false,.int .i64 0,.int .i64 0,.int .i64 0,.bool true,.int .i64 1,.int .i64 2,.int .i64 3]] w fun e w'=>e=.returned (.tuple #[.agg #[.int .i64 0,.int .i64 5,.int .i64 1,.int .i64 2,.int .i64 3],.bool true])∧Below w.heap.size w w':=after_put theRow w
theorem apply_one (w:World) (b c gs gm:Nat) (hB:HeadB w b #[.int .i64 0,.int .i64 5,.bool false,.int .i64 0,.int .i64 0,.int .i64 0,.bool true,.int .i64 1,.int .i64 2,.int .i64 3]) (hS:StateAt w gs gm #[] 0 0):Calls Tryz.prog 13 #[.pointer (some ⟨gs,0,none⟩),.agg #[.int .i64 1,.slice (some ⟨b,0,none⟩) 1 c]] w fun e w'=>e=.returned (.int .i64 0)∧StateAt w' gs gm #[theEntry] 1 1∧Ext2 gs gm w w':=by
  have HS0:=Lib.hid (hS.alloc (.cells #[.int .i64 1,.slice (some ⟨b,0,none⟩) 1 c] 43))
  have HC0:=Lib.hid (hB.alloc (.cells #[.int .i64 1,.slice (some ⟨b,0,none⟩) 1 c] 43))
  have HR0:=Lib.hid (Blk.new w 43 #[.int .i64 1,.slice (some ⟨b,0,none⟩) 1 c])
  have hne:gs≠gm:=by
    rintro rfl
    have h1:=hS.1
    have h2:=hS.2
    unfold Blk at h1
    unfold MapAt at h2
    rw [h1] at h2
    cases h2
  have hgs:=hS.1.lt
  have hgm:=hS.2.lt
  clear hB hS
  go_enter Tryz.func13,Tryz.ntmps13
  go_wp2_with fail
  refine (fits_yes _ b c gs gm HC0.out HS0.out).mono ?_
  rintro e W1 ⟨rfl,hb1⟩
  have hR1:=HR0.out.ext hb1
  have hC1:=HC0.out.ext hb1
  have HS1:=Lib.hid (HS0.out.ext hb1)
  have a1:=hR1.cell 1
  have e0:=hC1.cell 0;have e1:=hC1.cell 1;have e2:=hC1.cell 2;have e3:=hC1.cell 3;have e4:=hC1.cell 4;have e5:=hC1.cell 5;have e6:=hC1.cell 6;have e7:=hC1.cell 7;have e8:=hC1.cell 8;have e9:=hC1.cell 9
  have HR1:=Lib.hid hR1
  have HL1:=Lib.hid (ext_call (ext_new w _) hb1)
  have bl:=hC1.lt
  clear hb1 hR1 hC1
  go_wp2
  refine wp_loop_rounds 2 ?_
  rw [rounds_succ]
  go_wp2_with fail
  refine (after_row _).mono ?_
  rintro e W2 ⟨rfl,hb2⟩
  have hK2:=(Blk.new' (W1.alloc (.cells #[.int .i64 0,.int .i64 5,.bool false,.int .i64 0,.int .i64 0,.int .i64 0,.bool true,.int .i64 1,.int .i64 2,.int .i64 3] 62)) 106 #[.int .i64 0,.int .i64 5] (b:=W1.heap.size+1) (by simp)).ext hb2
  have HS2:=Lib.hid (((HS1.out.alloc _).alloc _).ext hb2)
  have HR2:=Lib.hid (((HR1.out.alloc _).alloc _).ext hb2)
  have HL2:=Lib.hid (ext_call (ext_alloc (ext_alloc HL1.out _) _) hb2)
  clear hb2 e0 e1 e2 e3 e4 e5 e6 e7 e8 e9 a1
  have k0:=hK2.cell 0;have k1:=hK2.cell 1
  have kl:=hK2.lt
  have s0:=HS2.out.1.cell 0
  have gl:=HS2.out.1.lt
  have hup:=update_none (P:=Tryz.prog) (k:=.agg #[.int .i64 0,.int .i64 5]) (v:=.agg #[.int .i64 0,.int .i64 5,.int .i64 1,.int .i64 2,.int .i64 3]) (w:=(W2.alloc (.cells #[.int .i64 0,.int .i64 5,.int .i64 1,.int .i64 2,.int .i64 3] 108)).drew) Tryz.underlying95 (HS2.out.2.alloc (.cells #[.int .i64 0,.int .i64 5,.int .i64 1,.int .i64 2,.int .i64 3] 108)) (id_check false _) Tryz.underlying106
  go_wp2
  go_region
  generalize hW3:World.putObj (W2.alloc (.cells #[.int .i64 0,.int .i64 5,.int .i64 1,.int .i64 2,.int .i64 3] 108)).drew gm (.map #[⟨.agg #[.int .i64 0,.int .i64 5],.agg #[.int .i64 0,.int .i64 5,.int .i64 1,.int .i64 2,.int .i64 3],0⟩] 1)=W3
  have hS3:StateAt W3 gs gm #[theEntry] 1 0:=by
    subst hW3
    exact ⟨(HS2.out.1.alloc _).drew.putObj _ hne,((HS2.out.2.alloc _).drewN 1).put _ _⟩
  have hR3:Blk W3 w.heap.size 43 #[.int .i64 1,.slice (some ⟨b,0,none⟩) 1 c]:=by
    subst hW3
    exact (HR2.out.alloc _).drew.putObj _ (by omega)
  have HE3:=Lib.hid (show Ext2 gs gm w W3 by subst hW3;exact (((Ext2.of_ext HL2.out).ext (ext_new _ _)).drewN 1).put _)
  have a0:=hR3.cell 0
  have q1:=hS3.1.cell 1
  have f1:=hS3.1.frozen 1
  have HS3:=Lib.hid hS3
  clear hW3 hS3 hR3 hup s0 k0 k1
  go_wp2
  rw [rounds_succ]
  go_wp2
  go_ret
  exact ⟨rfl,⟨HS3.out.1.set_ 1 _,HS3.out.2.set _ _ hne.symm⟩,HE3.out.setA _ _⟩
def LogAt (w:World) (b g c:Nat):Prop:=HeadB w g #[.int .i64 1,.slice (some ⟨b,0,none⟩) 1 c]∧HeadB w b #[.int .i64 0,.int .i64 5,.bool false,.int .i64 0,.int .i64 0,.int .i64 0,.bool true,.int .i64 1,.int .i64 2,.int .i64 3]
theorem LogAt.ext {w W:World} {b g c:Nat} (h:LogAt w b g c) (k:Below w.heap.size w W):LogAt W b g c:=⟨h.1.ext k,h.2.ext k⟩
theorem storeAt1 (w:World) (b g c d:Nat) (hd:1≤d) (hL:LogAt w b g c):Calls Tryz.prog 38 #[.slice (some ⟨g,0,none⟩) 1 d,.int .i64 1] w fun e w'=>e=.returned (.tuple #[.pointer (some ⟨w.heap.size+1,0,none⟩),.int .i64 0])∧StateAt w' (w.heap.size+1) w.heap.size #[theEntry] 1 1∧Below w.heap.size w w':=by
  have HL:=Lib.hid hL
  clear hL
  go_enter Tryz.func38,Tryz.ntmps38
  go_wp2_with fail
  refine (storeNew _).mono ?_
  rintro e W1 ⟨rfl,hW1⟩
  have HS1:=Lib.hid (show StateAt W1 (w.heap.size+1) w.heap.size #[] 0 0 by subst hW1;exact ⟨Blk.new' _ _ _ (by simp),(MapAt.new w).alloc _⟩)
  have HE1:=Lib.hid (show Below w.heap.size w W1 by subst hW1;exact ext_alloc (ext_new _ _) _)
  have HL1:=Lib.hid (HL.out.ext HE1.out)
  have r0:=HL1.out.1.cell 0;have r1:=HL1.out.1.cell 1
  have gl:=HL1.out.1.lt
  clear hW1
  go_wp2
  refine wp_loop_rounds 2 ?_
  rw [rounds_succ]
  go_wp2_with fail
  refine (apply_one _ b c _ _ (HL1.out.2.alloc _) (HS1.out.alloc _)).mono ?_
  rintro e W2 ⟨rfl,hs2,he2⟩
  have HS2:=Lib.hid hs2
  have HE2:=Lib.hid (he2.below (ext_alloc HE1.out _) (by omega) (by omega))
  clear hs2 he2 r0 r1
  go_wp2
  rw [rounds_succ]
  go_wp2
  go_ret2
  exact ⟨rfl,HS2.out,HE2.out⟩
end Go.Proofs.YtnajpjnnlocfgaaGreatDoor
namespace Go.Proofs
open Go.Shelf
def Tryz.lays156_ren:Go.Shelf.Ren:=⟨fun|156=>170|165=>86|166=>87|169=>89|240=>136|241=>137|276=>177|277=>178|n=>n,fun|31=>44|9=>9|3=>3|4=>4|0=>0|20=>20|72=>176|76=>180|70=>173|37=>174|75=>179|127=>231|164=>275|5=>5|80=>55|n=>n,fun|n=>n⟩
theorem Tryz.lays156:Go.Proofs.Lays.n156 Tryz.prog Tryz.lays156_ren:={
  mixed:=by kernel_rfl
  f156:=Tryz.func170.trans (congrArg some (by kernel_rfl))
  f165:=Tryz.func86.trans (congrArg some (by kernel_rfl))
  f166:=Tryz.func87.trans (congrArg some (by kernel_rfl))
  f169:=Tryz.func89.trans (congrArg some (by kernel_rfl))
  f240:=Tryz.func136.trans (congrArg some (by kernel_rfl))
  f241:=Tryz.func137.trans (congrArg some (by kernel_rfl))
  f276:=Tryz.func177.trans (congrArg some (by kernel_rfl))
  f277:=Tryz.func178.trans (congrArg some (by kernel_rfl))
  t0:=Tryz.underlying0
  a0:=Tryz.isAgg0
  z0:=Tryz.sizeOf0
  v0:=Tryz.zeroValue0
  t3:=Tryz.underlying3
  a3:=Tryz.isAgg3
  z3:=Tryz.sizeOf3
  v3:=Tryz.zeroValue3
  t4:=Tryz.underlying4
  a4:=Tryz.isAgg4
  z4:=Tryz.sizeOf4
  v4:=Tryz.zeroValue4
  t9:=Tryz.underlying9
  a9:=Tryz.isAgg9
  z9:=Tryz.sizeOf9
  v9:=Tryz.zeroValue9
  t20:=Tryz.underlying20
  a20:=Tryz.isAgg20
  z20:=Tryz.sizeOf20
  v20:=Tryz.zeroValue20
  t31:=Tryz.underlying44
  a31:=Tryz.isAgg44
  z31:=Tryz.sizeOf44
  v31:=Tryz.zeroValue44
  t37:=Tryz.underlying174
  a37:=Tryz.isAgg174
  z37:=Tryz.sizeOf174
  v37:=Tryz.zeroValue174
  t70:=Tryz.underlying173
  a70:=Tryz.isAgg173
  z70:=Tryz.sizeOf173
  v70:=Tryz.zeroValue173
  t72:=Tryz.underlying176
  a72:=Tryz.isAgg176
  z72:=Tryz.sizeOf176
  v72:=Tryz.zeroValue176
  t75:=Tryz.underlying179
  a75:=Tryz.isAgg179
  z75:=Tryz.sizeOf179
  v75:=Tryz.zeroValue179
  t76:=Tryz.underlying180
  a76:=Tryz.isAgg180
  z76:=Tryz.sizeOf180
  v76:=Tryz.zeroValue180
  t127:=Tryz.underlying231
  a127:=Tryz.isAgg231
  z127:=Tryz.sizeOf231
  v127:=Tryz.zeroValue231
  t164:=Tryz.underlying275
  a164:=Tryz.isAgg275
  z164:=Tryz.sizeOf275
  v164:=Tryz.zeroValue275 }
theorem Tryz.Builder_Extra_156:Builder.Extra Tryz.prog Tryz.lays156_ren:={
  sizeBuilder:=by kernel_rfl
  liesBuilder:=by kernel_rfl
  t5:=Tryz.underlying5
  a5:=Tryz.isAgg5
  z5:=Tryz.sizeOf5
  v5:=Tryz.zeroValue5
  infoByte:=by kernel_rfl
  cellsByte:=by kernel_rfl
  sizeByte:=by kernel_rfl
  neB5:=by decide }
open Go.RowKit in
theorem Tryz.strings_Join (bk o c:Nat) (xs:List ByteArray) (sep:ByteArray) (w:World) (hcells:∀ (j:Nat) x,xs[j]? = some x→w.cell? ⟨bk,o+j,none⟩=some (.string x)) (hbk:bk<w.heap.size) (hN:xs.length≤140737488355328) (hcap:xs.length≤c) (hlen:(Lib.join (xs.map (·.data.toList)) sep.data.toList).length≤140737488355328) :
    Calls Tryz.prog 170 #[.slice (some ⟨bk,o,none⟩) xs.length c,.string sep] w fun e w'=>e=.returned (.string ⟨(Lib.join (xs.map (·.data.toList)) sep.data.toList).toArray⟩)∧Below w.heap.size w w':=Any.strings_Join Tryz.lays156 Tryz.Builder_Extra_156 bk o c xs sep w hcells hbk hN hcap hlen
def Tryz.lays125_ren:Go.Shelf.Ren:=⟨fun|125=>105|128=>148|129=>149|n=>n,fun|46=>169|3=>3|51=>187|53=>223|4=>4|5=>5|9=>9|n=>n,fun|n=>n⟩
theorem Tryz.lays125:Go.Proofs.Lays.n125 Tryz.prog Tryz.lays125_ren:={
  mixed:=by kernel_rfl
  f125:=Tryz.func105.trans (congrArg some (by kernel_rfl))
  f128:=Tryz.func148.trans (congrArg some (by kernel_rfl))
  f129:=Tryz.func149.trans (congrArg some (by kernel_rfl))
  t3:=Tryz.underlying3
  a3:=Tryz.isAgg3
  z3:=Tryz.sizeOf3
  v3:=Tryz.zeroValue3
  t4:=Tryz.underlying4
  a4:=Tryz.isAgg4
  z4:=Tryz.sizeOf4
  v4:=Tryz.zeroValue4
  t5:=Tryz.underlying5
  a5:=Tryz.isAgg5
  z5:=Tryz.sizeOf5
  v5:=Tryz.zeroValue5
  t9:=Tryz.underlying9
  a9:=Tryz.isAgg9
  z9:=Tryz.sizeOf9
  v9:=Tryz.zeroValue9
  t46:=Tryz.underlying169
  a46:=Tryz.isAgg169
  z46:=Tryz.sizeOf169
  v46:=Tryz.zeroValue169
  t51:=Tryz.underlying187
  a51:=Tryz.isAgg187
  z51:=Tryz.sizeOf187
  v51:=Tryz.zeroValue187
  t53:=Tryz.underlying223
  a53:=Tryz.isAgg223
  z53:=Tryz.sizeOf223
  v53:=Tryz.zeroValue223 }
theorem Tryz.bits_Len (x:Int) (w:World) (h0:0≤x) (h1:x≤18446744073709551615) :
    Calls Tryz.prog 105 #[.int .u64 x] w fun e w'=>e=.returned (.int .i64 (Lib.bitLen x.toNat))∧w'=w:=Any.bits_Len Tryz.lays125 x w h0 h1
def Tryz.lays122_ren:Go.Shelf.Ren:=⟨fun|122=>235|215=>242|n=>n,fun|3=>3|4=>4|n=>n,fun|n=>n⟩
theorem Tryz.lays122:Go.Proofs.Lays.n122 Tryz.prog Tryz.lays122_ren:={
  mixed:=by kernel_rfl
  f122:=Tryz.func235.trans (congrArg some (by kernel_rfl))
  f215:=Tryz.func242.trans (congrArg some (by kernel_rfl))
  t3:=Tryz.underlying3
  a3:=Tryz.isAgg3
  z3:=Tryz.sizeOf3
  v3:=Tryz.zeroValue3
  t4:=Tryz.underlying4
  a4:=Tryz.isAgg4
  z4:=Tryz.sizeOf4
  v4:=Tryz.zeroValue4 }
open Go.RowKit in
theorem Tryz.cmp_Compare_int (x y:Int) (w:World) :
    Calls Tryz.prog 235 #[.int .i64 x,.int .i64 y] w fun e w'=>e=.returned (.int .i64 (Lib.compareInt x y))∧w'=w:=Any.cmp_Compare_int Tryz.lays122 x y w
def Tryz.lays105_ren:Go.Shelf.Ren:=⟨fun|105=>48|212=>84|99=>85|165=>86|166=>87|170=>88|169=>89|263=>133|264=>134|206=>135|240=>136|241=>137|276=>177|277=>178|n=>n,fun|9=>9|3=>3|4=>4|20=>20|0=>0|46=>169|109=>170|5=>5|72=>176|76=>180|51=>187|146=>227|53=>223|148=>229|70=>173|37=>174|75=>179|127=>231|164=>275|80=>55|n=>n,fun|n=>n⟩
theorem Tryz.lays105:Go.Proofs.Lays.n105 Tryz.prog Tryz.lays105_ren:={
  mixed:=by kernel_rfl
  f99:=Tryz.func85.trans (congrArg some (by kernel_rfl))
  f105:=Tryz.func48.trans (congrArg some (by kernel_rfl))
  f165:=Tryz.func86.trans (congrArg some (by kernel_rfl))
  f166:=Tryz.func87.trans (congrArg some (by kernel_rfl))
  f169:=Tryz.func89.trans (congrArg some (by kernel_rfl))
  f170:=Tryz.func88.trans (congrArg some (by kernel_rfl))
  f206:=Tryz.func135.trans (congrArg some (by kernel_rfl))
  f212:=Tryz.func84.trans (congrArg some (by kernel_rfl))
  f240:=Tryz.func136.trans (congrArg some (by kernel_rfl))
  f241:=Tryz.func137.trans (congrArg some (by kernel_rfl))
  f263:=Tryz.func133.trans (congrArg some (by kernel_rfl))
  f264:=Tryz.func134.trans (congrArg some (by kernel_rfl))
  f276:=Tryz.func177.trans (congrArg some (by kernel_rfl))
  f277:=Tryz.func178.trans (congrArg some (by kernel_rfl))
  t0:=Tryz.underlying0
  a0:=Tryz.isAgg0
  z0:=Tryz.sizeOf0
  v0:=Tryz.zeroValue0
  t3:=Tryz.underlying3
  a3:=Tryz.isAgg3
  z3:=Tryz.sizeOf3
  v3:=Tryz.zeroValue3
  t4:=Tryz.underlying4
  a4:=Tryz.isAgg4
  z4:=Tryz.sizeOf4
  v4:=Tryz.zeroValue4
  t5:=Tryz.underlying5
  a5:=Tryz.isAgg5
  z5:=Tryz.sizeOf5
  v5:=Tryz.zeroValue5
  t9:=Tryz.underlying9
  a9:=Tryz.isAgg9
  z9:=Tryz.sizeOf9
  v9:=Tryz.zeroValue9
  t20:=Tryz.underlying20
  a20:=Tryz.isAgg20
  z20:=Tryz.sizeOf20
  v20:=Tryz.zeroValue20
  t37:=Tryz.underlying174
  a37:=Tryz.isAgg174
  z37:=Tryz.sizeOf174
  v37:=Tryz.zeroValue174
  t46:=Tryz.underlying169
  a46:=Tryz.isAgg169
  z46:=Tryz.sizeOf169
  v46:=Tryz.zeroValue169
  t51:=Tryz.underlying187
  a51:=Tryz.isAgg187
  z51:=Tryz.sizeOf187
  v51:=Tryz.zeroValue187
  t53:=Tryz.underlying223
  a53:=Tryz.isAgg223
  z53:=Tryz.sizeOf223
  v53:=Tryz.zeroValue223
  t70:=Tryz.underlying173
  a70:=Tryz.isAgg173
  z70:=Tryz.sizeOf173
  v70:=Tryz.zeroValue173
  t72:=Tryz.underlying176
  a72:=Tryz.isAgg176
  z72:=Tryz.sizeOf176
  v72:=Tryz.zeroValue176
  t75:=Tryz.underlying179
  a75:=Tryz.isAgg179
  z75:=Tryz.sizeOf179
  v75:=Tryz.zeroValue179
  t76:=Tryz.underlying180
  a76:=Tryz.isAgg180
  z76:=Tryz.sizeOf180
  v76:=Tryz.zeroValue180
  t109:=Tryz.underlying170
  a109:=Tryz.isAgg170
  z109:=Tryz.sizeOf170
  v109:=Tryz.zeroValue170
  t127:=Tryz.underlying231
  a127:=Tryz.isAgg231
  z127:=Tryz.sizeOf231
  v127:=Tryz.zeroValue231
  t146:=Tryz.underlying227
  a146:=Tryz.isAgg227
  z146:=Tryz.sizeOf227
  v146:=Tryz.zeroValue227
  t148:=Tryz.underlying229
  a148:=Tryz.isAgg229
  z148:=Tryz.sizeOf229
  v148:=Tryz.zeroValue229
  t164:=Tryz.underlying275
  a164:=Tryz.isAgg275
  z164:=Tryz.sizeOf275
  v164:=Tryz.zeroValue275 }
theorem Tryz.Builder_Extra_105:Builder.Extra Tryz.prog Tryz.lays105_ren:={
  sizeBuilder:=by kernel_rfl
  liesBuilder:=by kernel_rfl
  t5:=Tryz.underlying5
  a5:=Tryz.isAgg5
  z5:=Tryz.sizeOf5
  v5:=Tryz.zeroValue5
  infoByte:=by kernel_rfl
  cellsByte:=by kernel_rfl
  sizeByte:=by kernel_rfl
  neB5:=by decide }
open Go.RowKit Go.Lib in
theorem Tryz.strings_Repeat_main (s:ByteArray) (c:Nat) (w:World) (hc2:2≤c) (hc:c≤9223372036854775807) (hlen:s.size*c≤140737488355328) (h0:0<s.size) :
    Calls Tryz.prog 48 #[.string s,.int .i64 c] w fun e w'=>e=.returned (.string ⟨(Lib.repeatL s.data.toList c).toArray⟩)∧Below w.heap.size w w':=Any.strings_Repeat_main Tryz.lays105 Tryz.Builder_Extra_105 s c w hc2 hc hlen h0
def Tryz.laysNm217_ren:Go.Shelf.Ren:=⟨fun|17=>132|n=>n,fun|24=>44|9=>9|3=>3|4=>4|0=>0|n=>n,fun|n=>n⟩
theorem Tryz.laysNm217:Go.Proofs.Lays2.n17 Tryz.prog Tryz.laysNm217_ren:={
  mixed:=by kernel_rfl
  f17:=Tryz.func132.trans (congrArg some (by kernel_rfl))
  t0:=Tryz.underlying0
  a0:=Tryz.isAgg0
  z0:=Tryz.sizeOf0
  v0:=Tryz.zeroValue0
  t3:=Tryz.underlying3
  a3:=Tryz.isAgg3
  z3:=Tryz.sizeOf3
  v3:=Tryz.zeroValue3
  t4:=Tryz.underlying4
  a4:=Tryz.isAgg4
  z4:=Tryz.sizeOf4
  v4:=Tryz.zeroValue4
  t9:=Tryz.underlying9
  a9:=Tryz.isAgg9
  z9:=Tryz.sizeOf9
  v9:=Tryz.zeroValue9
  t24:=Tryz.underlying44
  a24:=Tryz.isAgg44
  z24:=Tryz.sizeOf44
  v24:=Tryz.zeroValue44 }
open Go.RowKit Go.Lib Go.Sort in
theorem Tryz.slices_Reverse_string_empty (a:Option Addr) (cap:Nat) (w:World) :
    Calls Tryz.prog 132 #[.slice a 0 cap] w fun e w'=>e=.returned (.tuple #[])∧w'=w:=Any.slices_Reverse_string_empty Tryz.laysNm217 a cap w
open Go.RowKit Go.Lib Go.Sort in
theorem Tryz.slices_Reverse_string_cells (b off n c:Nat) (Sx:Nat→ByteArray) (w:World) (hbig:n≤9223372036854775807) (hc:∀ i,i<n→w.cell? ⟨b,off+i,none⟩=some (.string (Sx i))) (hf:∀ j,j<n→w.frozen? ⟨b,off+j,none⟩=false) :
    Calls Tryz.prog 132 #[.slice (some ⟨b,off,none⟩) n c] w fun e w'=>e=.returned (.tuple #[])∧∃ q,w'=(w.drewN q).setCells b off ((Lib.strsOf Sx n).reverse.map encStr):=Any.slices_Reverse_string_cells Tryz.laysNm217 b off n c Sx w hbig hc hf
end Go.Proofs
namespace Go.Proofs.YtnajpjnnlocfgaaGreatDoor
open Go.RowKit
attribute [local go_sem ↓] Go.wp_at_zero Go.wp_at_succ
theorem ins_none (a:Option Addr) (c:Nat) (f:Value) (w:World):Calls Tryz.prog 243 #[.slice a 0 c,.int .i64 0,.int .i64 0,f] w fun e w'=>(∃ u,e=.returned u)∧w=w':=by
  go_enter Tryz.func243,Tryz.ntmps243
  go_wp2
  refine wp_loop_rounds 1 ?_
  rw [rounds_succ]
  go_wp2
  go_end0
  exact ⟨⟨_,rfl⟩,rfl⟩
theorem ins_one (a:Option Addr) (c:Nat) (f:Value) (w:World):Calls Tryz.prog 243 #[.slice a 1 c,.int .i64 0,.int .i64 1,f] w fun e w'=>(∃ u,e=.returned u)∧w=w':=by
  go_enter Tryz.func243,Tryz.ntmps243
  go_wp2
  refine wp_loop_rounds 1 ?_
  rw [rounds_succ]
  go_wp2
  go_end0
  exact ⟨⟨_,rfl⟩,rfl⟩
theorem pdq_none (a:Option Addr) (c:Nat) (n:Int) (f:Value) (w:World):Calls Tryz.prog 241 #[.slice a 0 c,.int .i64 0,.int .i64 0,.int .i64 n,f] w fun e w'=>(∃ u,e=.returned u)∧w=w':=by
  go_enter Tryz.func241,Tryz.ntmps241
  go_wp2
  refine wp_loop_rounds 1 ?_
  rw [rounds_succ]
  go_wp2_with (go_at_call 243;refine (ins_none _ _ _ _).mono ?_;rintro e w' ⟨⟨u,rfl⟩,rfl⟩)
  refine bodyPost_ret (results_none rfl _ _ _) rfl ?_
  exact ⟨⟨_,rfl⟩,rfl⟩
theorem pdq_one (a:Option Addr) (c:Nat) (n:Int) (f:Value) (w:World):Calls Tryz.prog 241 #[.slice a 1 c,.int .i64 0,.int .i64 1,.int .i64 n,f] w fun e w'=>(∃ u,e=.returned u)∧w=w':=by
  go_enter Tryz.func241,Tryz.ntmps241
  go_wp2
  refine wp_loop_rounds 1 ?_
  rw [rounds_succ]
  go_wp2_with (go_at_call 243;refine (ins_one _ _ _ _).mono ?_;rintro e w' ⟨⟨u,rfl⟩,rfl⟩)
  refine bodyPost_ret (results_none rfl _ _ _) rfl ?_
  exact ⟨⟨_,rfl⟩,rfl⟩
theorem sort_none (a:Option Addr) (c:Nat) (f:Value) (w:World):Calls Tryz.prog 232 #[.slice a 0 c,f] w fun e w'=>(∃ u,e=.returned u)∧w=w':=by
  go_enter Tryz.func232,Tryz.ntmps232
  go_wp2_with (first
    | (go_at_call 105;refine (Tryz.bits_Len _ _ (by omega) (by omega)).mono ?_;rintro e w' ⟨rfl,rfl⟩)
    | (go_at_call 241;refine (pdq_none _ _ _ _ _).mono ?_;rintro e w' ⟨⟨u,rfl⟩,rfl⟩))
  go_end0
  exact ⟨⟨_,rfl⟩,rfl⟩
theorem sort_one (a:Option Addr) (c:Nat) (f:Value) (w:World):Calls Tryz.prog 232 #[.slice a 1 c,f] w fun e w'=>(∃ u,e=.returned u)∧w=w':=by
  go_enter Tryz.func232,Tryz.ntmps232
  go_wp2_with (first
    | (go_at_call 105;refine (Tryz.bits_Len _ _ (by omega) (by omega)).mono ?_;rintro e w' ⟨rfl,rfl⟩)
    | (go_at_call 241;refine (pdq_one _ _ _ _ _).mono ?_;rintro e w' ⟨⟨u,rfl⟩,rfl⟩))
  go_end0
  exact ⟨⟨_,rfl⟩,rfl⟩
def hitF (t:Int) (j:Nat) (lo hi:Int):Bool:=((0:Int) == t) && decide (lo≤theRow.col j) && decide (theRow.col j≤hi)
theorem value_row (j:Nat) (hj:j<4) (w:World):Calls Tryz.prog 212 #[.agg #[.int .i64 0,.int .i64 5,.int .i64 1,.int .i64 2,.int .i64 3],.int .i64 (j:Int)] w fun e w'=>e=.returned (.int .i64 (theRow.col j))∧Below w.heap.size w w':=rowValue_any theRow j hj w
def Boxes (w:World) (b1 b2 b3 b4:Nat) (j:Nat) (t lo hi:Int):Prop:=Blk w b1 3 #[.int .i64 (j:Int)]∧Blk w b2 3 #[.int .i64 t]∧Blk w b3 3 #[.int .i64 lo]∧Blk w b4 3 #[.int .i64 hi]
theorem Boxes.ext {w W:World} {b1 b2 b3 b4 j:Nat} {t lo hi:Int} (h:Boxes w b1 b2 b3 b4 j t lo hi) (k:Below w.heap.size w W):Boxes W b1 b2 b3 b4 j t lo hi:=⟨h.1.ext k,h.2.1.ext k,h.2.2.1.ext k,h.2.2.2.ext k⟩
theorem isIn (b1 b2 b3 b4 j:Nat) (t lo hi:Int) (hj:j<4) (w:World) (hB:Boxes w b1 b2 b3 b4 j t lo hi) :
    Calls Tryz.prog 211 #[.agg #[.int .i64 0,.int .i64 5,.int .i64 1,.int .i64 2,.int .i64 3],.pointer (some ⟨b1,0,none⟩),.pointer (some ⟨b2,0,none⟩),.pointer (some ⟨b3,0,none⟩),.pointer (some ⟨b4,0,none⟩)] w fun e w'=>e=.returned (.bool (hitF t j lo hi))∧Below w.heap.size w w':=by
  have HB:=Lib.hid (hB.ext (ext_new w (.cells #[.int .i64 0,.int .i64 5,.int .i64 1,.int .i64 2,.int .i64 3] 108)))
  have HR:=Lib.hid (Blk.new w 108 #[.int .i64 0,.int .i64 5,.int .i64 1,.int .i64 2,.int .i64 3])
  clear hB
  have c1:=HB.out.1.cell 0
  unfold hitF
  have HV:=Lib.hid (fun W:World=>value_row j hj W)
  generalize theRow.col j=v at *
  go_enter Tryz.func211,Tryz.ntmps211
  go_wp2_with fail
  refine (HV.out _).mono ?_
  rintro e W1 ⟨rfl,hb1⟩
  have hB1:=HB.out.ext hb1
  have a0:=(HR.out.ext hb1).cell 0
  have d2:=hB1.2.1.cell 0
  have d3:=hB1.2.2.1.cell 0
  have d4:=hB1.2.2.2.cell 0
  have HL:=Lib.hid (ext_call (ext_new w _) hb1)
  clear hb1 hB1 c1
  by_cases h1:(0:Int)=t
  · subst h1
    by_cases h2:lo≤v
    · go_wp2
      go_ret
      exact ⟨by simp [h2],HL.out⟩
    · go_wp2
      go_ret
      exact ⟨by have h3:¬ lo≤v:=by omega
                simp [h3],HL.out⟩
  · have h1':((0:Int) == t)=false:=by simpa using h1
    go_wp2
    go_ret
    exact ⟨by simp [h1],HL.out⟩
theorem chosen_none (gs gm:Nat) (c:Nat) (pos col:Int) (f:Value) (w:World) (hS:StateAt w gs gm #[] c pos) :
    Calls Tryz.prog 210 #[.pointer (some ⟨gs,0,none⟩),.int .i64 col,f] w fun e w'=>e=.returned (.slice none 0 0)∧Below w.heap.size w w':=by
  have hS0:=hS.alloc (.cells #[.int .i64 col] 3)
  have s0:=hS0.1.cell 0
  have hrg:=range_map (P:=Tryz.prog) Tryz.underlying95 hS0.2
  have hnx:=fun t=>next_empty (P:=Tryz.prog) (t:=t) (r:=w.heap.size+1) ((hS0.alloc (.mapIter (some gm) c #[] c)).2) (by rw [← World.size_alloc w (.cells #[.int .i64 col] 3)];exact World.alloc_heap_new _ _)
  have hmf:∀ (fn:Fn) (first cap:Array Value) (w:World),(Instr.makeFunc fn first cap).run Tryz.prog w=.ok (.func fn first cap) w:=fun _ _ _ _=>rfl
  clear hS hS0
  go_enter Tryz.func210,Tryz.ntmps210
  go_wp2
  refine wp_loop_rounds 1 ?_
  rw [rounds_succ]
  go_wp2_with (go_at_call 232;refine (sort_none _ _ _ _).mono ?_;rintro e w' ⟨⟨u,rfl⟩,rfl⟩)
  go_ret
  exact ⟨rfl,ext_alloc (ext_new _ _) _⟩
theorem row_info:(Tryz.prog.info? 108).map (fun i=>(i.zero,i.size,i.bytes))=some (some (.agg #[.int .i64 0,.int .i64 0,.int .i64 0,.int .i64 0,.int .i64 0]),5,40):=by kernel_rfl
def RowsAt (w:World) (hit:Bool) (v:Value):Prop:=(hit=false∧v=.slice none 0 0)∨(hit=true∧∃ g c zs,v=.slice (some ⟨g,0,none⟩) 1 c∧1≤c∧Blk w g 108 (#[.int .i64 0,.int .i64 5,.int .i64 1,.int .i64 2,.int .i64 3]++zs))
theorem RowsAt.ext {w W:World} {hit:Bool} {v:Value} (h:RowsAt w hit v) (k:Below w.heap.size w W):RowsAt W hit v:=by
  rcases h with h|⟨h1,g,c,zs,h2,h3,h4⟩
  · exact .inl h
  · exact .inr ⟨h1,g,c,zs,h2,h3,h4.ext k⟩
theorem chosen_one (gs gm b1 b2 b3 b4 j:Nat) (pos col t lo hi:Int) (hj:j<4) (w:World) (hS:StateAt w gs gm #[theEntry] 1 pos) (hB:Boxes w b1 b2 b3 b4 j t lo hi) :
    Calls Tryz.prog 210 #[.pointer (some ⟨gs,0,none⟩),.int .i64 col,.func (.func 211) #[] #[.pointer (some ⟨b1,0,none⟩),.pointer (some ⟨b2,0,none⟩),.pointer (some ⟨b3,0,none⟩),.pointer (some ⟨b4,0,none⟩)]] w
      fun e w'=>∃ v,e=.returned v∧RowsAt w' (hitF t j lo hi) v∧Below w.heap.size w w':=by
  have hS0:=hS.alloc (.cells #[.int .i64 col] 3)
  have s0:=hS0.1.cell 0
  have hrg:=range_map (P:=Tryz.prog) Tryz.underlying95 hS0.2
  have hmf:∀ (fn:Fn) (first cap:Array Value) (w:World),(Instr.makeFunc fn first cap).run Tryz.prog w=.ok (.func fn first cap) w:=fun _ _ _ _=>rfl
  have HS:=Lib.hid hS
  have HB:=Lib.hid hB
  have HX:=Lib.hid (fun (W:World) (h:Boxes W b1 b2 b3 b4 j t lo hi)=>isIn b1 b2 b3 b4 j t lo hi hj W h)
  clear hS hS0 hB
  generalize hitF t j lo hi=hit at *
  obtain ⟨ii,hii,hzi0,hzi1,hzi2⟩:=info_parts row_info
  go_enter Tryz.func210,Tryz.ntmps210
  go_wp2
  generalize hW1:(w.alloc (.cells #[.int .i64 col] 3)).alloc (.mapIter (some gm) 1 #[] 1)=W1
  have hE1:Below w.heap.size w W1:=by subst hW1;exact ext_alloc (ext_new _ _) _
  have hI1:W1.heap[w.heap.size+1]? = some (.mapIter (some gm) 1 #[] 1):=by
    subst hW1
    rw [← World.size_alloc w (.cells #[.int .i64 col] 3)];exact World.alloc_heap_new _ _
  have hgm:=HS.out.2.lt
  have hgs:=HS.out.1.lt
  have hS1:=HS.out.ext hE1
  have hnx:=fun t=>next_one (P:=Tryz.prog) (t:=t) (k:=.agg #[.int .i64 0,.int .i64 5]) (v:=.agg #[.int .i64 0,.int .i64 5,.int .i64 1,.int .i64 2,.int .i64 3]) hS1.2 hI1
  generalize hW2:W1.putObj (w.heap.size+1) (.mapIter (some gm) 1 #[0] 1)=W2 at hnx
  have hE2:Below w.heap.size w W2:=by subst hW2;exact ext_put hE1 (by omega) _
  have hI2:W2.heap[w.heap.size+1]? = some (.mapIter (some gm) 1 #[0] 1):=by
    subst hW2
    exact World.putObj_heap_same (Array.getElem?_eq_some_iff.1 hI1).1
  have hS2:=HS.out.ext hE2
  have hent:=entry_one (P:=Tryz.prog) (k:=.agg #[.int .i64 0,.int .i64 5]) (v:=.agg #[.int .i64 0,.int .i64 5,.int .i64 1,.int .i64 2,.int .i64 3]) hS2.2 hI2
  have HB2:=Lib.hid (HB.out.ext hE2)
  have HE2:=Lib.hid hE2
  have HI2:=Lib.hid hI2
  have HS2:=Lib.hid hS2
  clear hW1 hW2 hE1 hE2 hI1 hI2 hS1 hS2 s0 hrg
  refine wp_loop_rounds 2 ?_
  rw [rounds_succ]
  go_wp2_with fail
  refine (HX.out _ (HB2.out.ext (ext_new _ _))).mono ?_
  rintro e W3 ⟨rfl,hb3⟩
  have hX3:=(Blk.new W2 108 #[.int .i64 0,.int .i64 5,.int .i64 1,.int .i64 2,.int .i64 3]).ext hb3
  have x0:=hX3.cell 0;have x1:=hX3.cell 1;have x2:=hX3.cell 2;have x3:=hX3.cell 3;have x4:=hX3.cell 4
  have xl:=hX3.lt
  have HE3:=Lib.hid (ext_call (ext_alloc HE2.out _) hb3)
  have HI3:=Lib.hid (heap_ext (heap_ext HI2.out (ext_new _ _)) hb3)
  have HS3:=Lib.hid (((HS2.out.alloc _)).ext hb3)
  clear hb3 hX3
  cases hit with
  | false=>
    have hnx:=fun t=>next_over (P:=Tryz.prog) (t:=t) (k:=.agg #[.int .i64 0,.int .i64 5]) (v:=.agg #[.int .i64 0,.int .i64 5,.int .i64 1,.int .i64 2,.int .i64 3]) HS3.out.2 HI3.out
    go_wp2
    rw [rounds_succ]
    go_wp2_with (go_at_call 232;refine (sort_none _ _ _ _).mono ?_;rintro e w' ⟨⟨u,rfl⟩,rfl⟩)
    go_ret
    exact ⟨_,rfl,.inl ⟨rfl,rfl⟩,HE3.out⟩
  | true=>
    go_wp2
    have hcap:1≤(Question.appendCap 1 0 108).cut (W3.tape W3.drawn (Question.appendCap 1 0 108)):=grownCap_ge W3 1 0 108
    revert hcap
    generalize (Question.appendCap 1 0 108).cut (W3.tape W3.drawn (Question.appendCap 1 0 108))=cap
    intro hcap
    generalize hW4:((W3.alloc (.cells #[.int .i64 0,.int .i64 5,.int .i64 1,.int .i64 2,.int .i64 3] 108)).alloc (.cells (#[.int .i64 0,.int .i64 5,.int .i64 1,.int .i64 2,.int .i64 3]++Builtin.zeroCells #[.int .i64 0,.int .i64 0,.int .i64 0,.int .i64 0,.int .i64 0] (cap-1)) 108)).drew=W4
    have hE34:Below W3.heap.size W3 W4:=by subst hW4;exact (ext_alloc (ext_new _ _) _).drew
    have HR4:=Lib.hid (show Blk W4 (W3.heap.size+1) 108 (#[.int .i64 0,.int .i64 5,.int .i64 1,.int .i64 2,.int .i64 3]++Builtin.zeroCells #[.int .i64 0,.int .i64 0,.int .i64 0,.int .i64 0,.int .i64 0] (cap-1)) by subst hW4;exact (Blk.new' _ _ _ (by simp)).drew)
    have HE4:=Lib.hid (ext_call HE3.out hE34)
    have hnx:=fun t=>next_over (P:=Tryz.prog) (t:=t) (k:=.agg #[.int .i64 0,.int .i64 5]) (v:=.agg #[.int .i64 0,.int .i64 5,.int .i64 1,.int .i64 2,.int .i64 3]) (HS3.out.ext hE34).2 (heap_ext HI3.out hE34)
    clear hW4 hE34 x0 x1 x2 x3 x4
    rw [rounds_succ]
    go_wp2_with (go_at_call 232;refine (sort_one _ _ _ _).mono ?_;rintro e w' ⟨⟨u,rfl⟩,rfl⟩)
    go_ret
    exact ⟨_,rfl,.inr ⟨rfl,_,_,_,rfl,hcap,HR4.out⟩,HE4.out⟩
def StateIs (w:World) (one:Bool) (gs gm:Nat) (pos:Int):Prop:=StateAt w gs gm (if one then #[theEntry] else #[]) (if one then 1 else 0) pos
theorem StateIs.ext {w W:World} {one:Bool} {gs gm:Nat} {pos:Int} (h:StateIs w one gs gm pos) (k:Below w.heap.size w W):StateIs W one gs gm pos:=StateAt.ext h k
theorem range_any (one:Bool) (gs gm j:Nat) (pos t lo hi:Int) (hj:j<4) (w:World) (hS:StateIs w one gs gm pos) :
    Calls Tryz.prog 171 #[.pointer (some ⟨gs,0,none⟩),.int .i64 t,.int .i64 (j:Int),.int .i64 lo,.int .i64 hi] w
      fun e w'=>∃ v,e=.returned v∧RowsAt w' (one && hitF t j lo hi) v∧Below w.heap.size w w':=by
  have hmf:∀ (fn:Fn) (first cap:Array Value) (w:World),(Instr.makeFunc fn first cap).run Tryz.prog w=.ok (.func fn first cap) w:=fun _ _ _ _=>rfl
  have HS:=Lib.hid hS
  clear hS
  have l1:decide ((j:Int)<0)=false:=decide_eq_false (by omega)
  have l2:decide (4≤(j:Int))=false:=decide_eq_false (by omega)
  go_enter Tryz.func171,Tryz.ntmps171
  go_wp2_with fail
  generalize hW1:World.alloc (((w.alloc (.cells #[.int .i64 t] 3)).alloc (.cells #[.int .i64 (j:Int)] 3)).alloc (.cells #[.int .i64 lo] 3)) (.cells #[.int .i64 hi] 3)=W1
  have hE1:Below w.heap.size w W1:=by subst hW1;exact ext_alloc (ext_alloc (ext_alloc (ext_new _ _) _) _) _
  have hB1:Boxes W1 (w.heap.size+1) w.heap.size (w.heap.size+1+1) (w.heap.size+1+1+1) j t lo hi:=by
    subst hW1
    exact ⟨((Blk.new' _ _ _ (by simp)).alloc _).alloc _,(((Blk.new' _ _ _ (by simp)).alloc _).alloc _).alloc _,(Blk.new' _ _ _ (by simp)).alloc _,Blk.new' _ _ _ (by simp)⟩
  cases one with
  | false=>
    refine (chosen_none gs gm _ pos _ _ W1 (HS.out.ext hE1)).mono ?_
    rintro e W2 ⟨rfl,hb2⟩
    have HE2:=Lib.hid (ext_call hE1 hb2)
    clear hW1 hE1 hB1 hb2
    go_wp2
    go_ret
    exact ⟨_,rfl,.inl ⟨rfl,rfl⟩,HE2.out⟩
  | true=>
    refine (chosen_one gs gm _ _ _ _ j pos _ t lo hi hj W1 (HS.out.ext hE1) hB1).mono ?_
    rintro e W2 ⟨v,rfl,hr2,hb2⟩
    have HE2:=Lib.hid (ext_call hE1 hb2)
    have HR2:=Lib.hid hr2
    clear hW1 hE1 hB1 hb2 hr2
    go_wp2
    go_ret
    exact ⟨_,rfl,HR2.out,HE2.out⟩
end Go.Proofs.YtnajpjnnlocfgaaGreatDoor
namespace Go.Proofs.YtnajpjnnlocfgaaGreatDoor
open Go.RowKit
attribute [local go_sem ↓] Go.wp_at_zero Go.wp_at_succ
theorem encKeep {w W W':World} {b:Nat} {t:TypeId} {cs:Array Value} {u v:Value} (h:W.cell? ⟨b,0,none⟩=some u∧W.cell? ⟨b,1,none⟩=some v∧Blk W b t cs∧Below w.heap.size w W) (hb:Below W.heap.size W W'):W'.cell? ⟨b,0,none⟩=some u∧W'.cell? ⟨b,1,none⟩=some v∧Blk W' b t cs∧Below w.heap.size w W':=
  ⟨cell_ext h.1 hb,cell_ext h.2.1 hb,h.2.2.1.ext hb,ext_call h.2.2.2 hb⟩
theorem encB {w W:World} {b:Nat} {t:TypeId} {cs:Array Value} {u v:Value} (h:W.cell? ⟨b,0,none⟩=some u∧W.cell? ⟨b,1,none⟩=some v∧Blk W b t cs∧Below w.heap.size w W):Blk W b t cs:=h.2.2.1
theorem encL {w W:World} {b:Nat} {t:TypeId} {cs:Array Value} {u v:Value} (h:W.cell? ⟨b,0,none⟩=some u∧W.cell? ⟨b,1,none⟩=some v∧Blk W b t cs∧Below w.heap.size w W):Below w.heap.size w W:=h.2.2.2
theorem int_infoV:(Tryz.prog.info? 3).map (fun i=>(i.zero,i.size,i.bytes))=some (some (.int .i64 0),1,8):=by kernel_rfl
theorem encAl {w W:World} {b:Nat} {t:TypeId} {cs:Array Value} {u v:Value} (h:W.cell? ⟨b,0,none⟩=some u∧W.cell? ⟨b,1,none⟩=some v∧Blk W b t cs∧Below w.heap.size w W) (o:Obj):(W.alloc o).drew.cell? ⟨b,0,none⟩=some u∧(W.alloc o).drew.cell? ⟨b,1,none⟩=some v∧Blk (W.alloc o).drew b t cs∧Below w.heap.size w (W.alloc o).drew:=
  encKeep h (ext_new W o).drew
theorem rowEncode (w:World):Calls Tryz.prog 172 #[.agg #[.int .i64 0,.int .i64 5,.int .i64 1,.int .i64 2,.int .i64 3]] w fun e w'=>e=.returned (.tuple #[.string (encS [0,5,1,2,3]),.int .i64 0])∧Below w.heap.size w w':=by
  have HB0:=Lib.hid (Blk.new w 108 #[.int .i64 0,.int .i64 5,.int .i64 1,.int .i64 2,.int .i64 3])
  go_enter Tryz.func172,Tryz.ntmps172
  go_wp2_with (go_at_call 160;refine (valid_row _).mono ?_;rintro e W1 ⟨rfl,hb1⟩;have hB1:=HB0.out.ext hb1;have c0:=hB1.cell 0;have c1:=hB1.cell 1;have l1:=hB1.lt;have HL1:=Lib.hid (ext_call (ext_new w _) hb1);have HB1:=Lib.hid hB1;clear hb1 hB1)
  have hsum:(encS [0,5]).size+(encS [1,2,3]).size≤9223372036854775807:=by rw [encS_size,encS_size];simp
  have HA:=Lib.hid (encS_append [0,5] [1,2,3])
  have HP1:=Lib.hid (show ∀ W:World,Blk W W1.heap.size 3 #[.int .i64 0,.int .i64 5]→Calls Tryz.prog 143 #[.slice (some ⟨W1.heap.size,0,none⟩) 2 2] W fun e w'=>e=.returned (.string (encS [0,5]))∧Below W.heap.size W w' from fun W h=>rowPut_any W1.heap.size 0 2 [0,5] W (.of_blk h 0 [0,5] rfl) h.lt (by simp) (by simp))
  have HP2:=Lib.hid (show ∀ W:World,Blk W w.heap.size 108 #[.int .i64 0,.int .i64 5,.int .i64 1,.int .i64 2,.int .i64 3]→Calls Tryz.prog 143 #[.slice (some ⟨w.heap.size,2,none⟩) 3 3] W fun e w'=>e=.returned (.string (encS [1,2,3]))∧Below W.heap.size W w' from fun W h=>rowPut_any w.heap.size 2 3 [1,2,3] W (.of_blk h 2 [1,2,3] rfl) h.lt (by simp) (by simp))
  generalize encS [0,5]=s1 at *
  generalize encS [1,2,3]=s2 at *
  have hcat:=fun W:World=>run_string_add_sum (P:=Tryz.prog) (w:=W) s1 s2 hsum
  go_region_held3 (fun w'=>w'.cell? ⟨w.heap.size,0,none⟩=some (.int .i64 0)∧w'.cell? ⟨w.heap.size,1,none⟩=some (.int .i64 5)∧Blk w' w.heap.size 108 #[.int .i64 0,.int .i64 5,.int .i64 1,.int .i64 2,.int .i64 3]∧Below w.heap.size w w')
    (first|exact ⟨c0,c1,HB1.out,HL1.out.drew⟩|assumption|exact encAl (w:=w) ⟨c0,c1,HB1.out,HL1.out⟩ _|exact encKeep (by assumption) (by assumption))
    (first|(go_at_call 143;(with_reducible refine (HP1.out _ ?_).mono ?_);(exact Blk.new W1 _ _);rintro e w' ⟨rfl,hb'⟩)|(go_at_call 143;(with_reducible refine (HP2.out _ ?_).mono ?_);(exact encB (by assumption));rintro e w' ⟨rfl,hb'⟩))
  go_wp2
  go_ret2
  exact ⟨by rw [show encS [0,5,1,2,3]=s1++s2 from HA.out.symm];rfl,encL (by assumption)⟩
theorem encRecord (w:World) (b c:Nat) (hB:HeadB w b #[.int .i64 0,.int .i64 5,.bool false,.int .i64 0,.int .i64 0,.int .i64 0,.bool true,.int .i64 1,.int .i64 2,.int .i64 3]):Calls Tryz.prog 97 #[.agg #[.int .i64 1,.slice (some ⟨b,0,none⟩) 1 c]] w fun e w'=>e=.returned (.tuple #[.string (encS [1,1,0,5,2,1,2,3]),.int .i64 0])∧Below w.heap.size w w':=by
  obtain ⟨ii,hii,hzi0,hzi1,hzi2⟩:=info_parts int_infoV
  have HB0:=Lib.hid (Blk.new w 43 #[.int .i64 1,.slice (some ⟨b,0,none⟩) 1 c])
  have HC0:=Lib.hid (hB.alloc (.cells #[.int .i64 1,.slice (some ⟨b,0,none⟩) 1 c] 43))
  clear hB
  go_enter Tryz.func97,Tryz.ntmps97
  go_wp2_with fail
  refine (validRecord _ b c HC0.out).mono ?_
  rintro e W1 ⟨rfl,hb1⟩
  have hB1:=HB0.out.ext hb1
  have c0:=hB1.cell 0
  have c1:=hB1.cell 1
  have HB1:=Lib.hid hB1
  have HC1:=Lib.hid (HC0.out.ext hb1)
  have HL1:=Lib.hid (ext_call (ext_new w _) hb1)
  clear hb1 hB1
  go_wp2_with fail
  refine (rowPut_any W1.heap.size 0 2 [1,1] _ (.of_blk (Blk.new _ _ _) 0 [1,1] rfl) (by simp) (by simp) (by simp)).mono ?_
  rintro e W2 ⟨rfl,hb2⟩
  have hB2:=(HB1.out.alloc _).ext hb2
  have c1:=hB2.cell 1
  have hC2:=(HC1.out.alloc _).ext hb2
  have e0:=hC2.cell 0
  have e1:=hC2.cell 1
  have e2:=hC2.cell 2
  have e3:=hC2.cell 3
  have e4:=hC2.cell 4
  have e5:=hC2.cell 5
  have e6:=hC2.cell 6
  have e7:=hC2.cell 7
  have e8:=hC2.cell 8
  have e9:=hC2.cell 9
  have HL2:=Lib.hid (ext_call (ext_alloc HL1.out _) hb2)
  clear hb2 hB2 hC2 c0
  go_wp2
  refine wp_loop_rounds 2 ?_
  rw [rounds_succ]
  go_wp2_with fail
  generalize (Question.appendCap 3 0 3).cut (W2.tape W2.drawn (Question.appendCap 3 0 3))=cap
  clear e0 e1 e2 e3 e4 e5 e6 e7 e8 e9 c1
  refine (rowPut_any (W2.heap.size+1+1) 0 3 [0,5,2] _ (.of_blk (Blk.new' _ _ _ (by simp)).drew 0 [0,5,2] rfl) (by simp) (by simp) (by simp)).mono ?_
  rintro e W3 ⟨rfl,hb3⟩
  have HV3:=Lib.hid (((Blk.new' (W2.alloc (.cells #[.int .i64 0,.int .i64 5,.bool false,.int .i64 0,.int .i64 0,.int .i64 0,.bool true,.int .i64 1,.int .i64 2,.int .i64 3] 62)) 3 (#[.int .i64 1,.int .i64 2,.int .i64 3]++Builtin.zeroCells #[.int .i64 0] (cap-3)) (b:=W2.heap.size+1) (by simp)).alloc (.cells #[.int .i64 0,.int .i64 5,.int .i64 2] 3)).drew.ext hb3)
  have HL3:=Lib.hid (ext_call (ext_alloc (ext_alloc (ext_alloc HL2.out _) _) _).drew hb3)
  clear hb3
  go_wp2_with fail
  refine (rowPut_any (W2.heap.size+1) 0 cap [1,2,3] _ (.of_blk HV3.out 0 [1,2,3] (by simp)) HV3.out.lt (by simp) (by simp)).mono ?_
  rintro e W4 ⟨rfl,hb4⟩
  have HL4:=Lib.hid (ext_call HL3.out hb4)
  clear hb4
  have HA1:=Lib.hid (encS_append [0,5,2] [1,2,3])
  have HA2:=Lib.hid (encS_append [1,1] ([0,5,2]++[1,2,3]))
  have hs1:=encS_size [0,5,2]
  have hs2:=encS_size [1,2,3]
  have hs3:=encS_size [1,1]
  simp only [List.length_cons,List.length_nil] at hs1 hs2 hs3
  generalize encS [0,5,2]=s1 at *
  generalize encS [1,2,3]=s2 at *
  generalize encS [1,1]=s3 at *
  have hs12:(s1++s2).size=6:=by rw [ByteArray.size_append];omega
  have hsum1:s1.size+s2.size≤9223372036854775807:=by omega
  have hsum2:s3.size+(s1++s2).size≤9223372036854775807:=by omega
  have hcat1:=fun W:World=>run_string_add_sum (P:=Tryz.prog) (w:=W) s1 s2 hsum1
  have hcat2:=fun W:World=>run_string_add_sum (P:=Tryz.prog) (w:=W) s3 (s1++s2) hsum2
  clear hs1 hs2 hs3 hs12
  go_wp2
  rw [rounds_succ]
  go_wp2
  go_ret2
  exact ⟨by rw [show encS [1,1,0,5,2,1,2,3]=s3++(s1++s2) from by rw [HA1.out,HA2.out];rfl];rfl,HL4.out⟩
end Go.Proofs.YtnajpjnnlocfgaaGreatDoor
namespace Go.Proofs.YtnajpjnnlocfgaaGreatDoor
open Go.RowKit Go.Shelf
theorem chunk_any (b len cap:Nat) (w:World) :
    Calls Tryz.prog 102 #[.slice (some ⟨b,0,none⟩) len cap,.int .i64 64] w fun e w'=>
      e=.returned (.func (.func 145) #[] #[.pointer (some ⟨w.heap.size,0,none⟩),.pointer (some ⟨w.heap.size+1,0,none⟩)]) ∧
      (w.alloc (.cells #[.slice (some ⟨b,0,none⟩) len cap] 174)).alloc (.cells #[.int .i64 64] 3)=w':=by
  have hmf:∀ (fn:Fn) (first cap:Array Value) (w:World),(Instr.makeFunc fn first cap).run Tryz.prog w=.ok (.func fn first cap) w:=fun _ _ _ _=>rfl
  go_enter Tryz.func102,Tryz.ntmps102
  go_wp2
  go_ret
  exact ⟨rfl,rfl⟩
theorem wpListIn_append_m {F:Fence} {n:Nat} {P:Program} {w:World} {ops:Array Oper} {rest:List Oper} {o:Oper} {a:Act} {Q:Exit→Act→World→Prop} (hgd:o.guard=none) (s x:Operand) (t:TypeId)
    (hop:o.op=.call { callee:=.builtin .append,args:=#[s,x],argTypes:=#[t,t] })
    (base:Nat) (e:TypeId) (i:TypeInfo) (z:Value) (bytes:Nat) (ht:P.underlying t=some (.slice e)) (hi:P.info? e=some i) (hz:i.zero=some z)
    (hsize:i.size=1) (hby:i.bytes=bytes) (hzs:z.cells.size=1)
    (v:Value) (xs:List Value) (hs:a.eval s=v) (hown:OwnC w base v xs) (ad:Addr) (c:Nat) (xv:Value) (hx:a.eval x=.slice (some ad) 1 c) (hc:w.cell? ad=some xv) (h1:xv.oneCell'=true)
    (m:Nat) (hm:xs.length+1=m) (h63:m≤maxLen) (hbytes:m*bytes≤140737488355328) (hbase:base≤w.heap.size)
    (h:∀ g cap w',OwnC w' base (.slice (some ⟨g,0,none⟩) m cap) (xs++[xv])→w.grownBy w' v.ownBlock→wpListIn F n P ops Q rest (a.put o.dst (.slice (some ⟨g,0,none⟩) m cap)) w'):wpListIn F n P ops Q (o::rest) a w:=by
  subst hm
  refine wpListIn_append_c hgd s x t hop base e i z bytes ht hi hz hsize hby hzs v xs hs hown ad c xv hx hc h1 h63 hbytes hbase fun v' w' ho hg=>?_
  have ho':=ho
  obtain ⟨g,cap,rfl,_⟩:=ho
  simp only [List.length_append,List.length_cons,List.length_nil,Nat.zero_add] at ho' ⊢
  exact h g cap w' ho' hg
theorem wpListIn_bytes {F:Fence} {n:Nat} {P:Program} {w:World} {ops:Array Oper} {rest:List Oper} {o:Oper} {a:Act} {Q:Exit→Act→World→Prop} (hgd:o.guard=none) (x:Operand) (src dst e:TypeId)
    (hop:o.op=.convert src dst x) (s:ByteArray) (hx:a.eval x=.string s) {u:TypeDesc} (hs:P.underlying src=some u) (hd:P.underlying dst=some (.slice e)) (he:P.underlying e=some (.int .u8)) (hsz:s.size≤maxLen)
    (h:∀ g cap W',OwnC W' w.heap.size (.slice (some ⟨g,0,none⟩) s.size cap) (s.data.toList.map fun b=>Value.int .u8 b.toNat)→Below w.heap.size w W'→wpListIn F n P ops Q rest (a.put o.dst (.slice (some ⟨g,0,none⟩) s.size cap)) W'):wpListIn F n P ops Q (o::rest) a w:=by
  refine wpListIn_plain hgd fun K hK'=>?_
  have hrun:=Lib.run_convert_string_bytes (P:=P) w src dst e s hs hd he
  unfold Oper.wpIn
  refine ⟨?_,?_⟩
  · simp [Oper.about,hop]
  · rw [Oper.semAt_plain F _ _ (by rw [hop];intro c hc';cases hc')]
    simp [execOp,hop,hx,hrun,Result.andThen]
    exact hK' _ _ (h _ _ _ (ownC_bytes w e s hsz) (below_bytes w e s))
theorem u8_info:(Tryz.prog.info? 5).map (fun i=>(i.zero,i.size,i.bytes))=some (some (.int .u8 0),1,1):=by kernel_rfl
attribute [local go_sem] Oper.semAt_some
def v0:V8:=⟨1779033703,3144134277,1013904242,2773480762,1359893119,2600822924,528734635,1541459225⟩
def zerosN (n:Nat):Nat:=(119-n % 64) % 64
def byteList (s:ByteArray):List Int:=s.data.toList.map fun b=>(b.toNat:Int)
def padTo (s:ByteArray) (k:Nat):List Int:=byteList s++[128]++List.replicate k 0
theorem padTo_succ (s:ByteArray) (k:Nat):padTo s (k+1)=padTo s k++[0]:=by unfold padTo;rw [List.replicate_succ'];simp
theorem byteList_length (s:ByteArray):(byteList s).length=s.size:=by unfold byteList;simp
theorem padTo_length (s:ByteArray) (k:Nat):(padTo s k).length=s.size+1+k:=by unfold padTo;simp [byteList_length];omega
def cellsU8 (l:List Int):List Value:=l.map (Value.int .u8)
theorem cellsU8_length (l:List Int):(cellsU8 l).length=l.length:=by simp [cellsU8]
theorem cellsU8_snoc (l:List Int) (x:Int):cellsU8 l++[.int .u8 x]=cellsU8 (l++[x]):=by simp [cellsU8]
theorem ownC_conv {w W:World} {o:Obj} {v:Value} {s:ByteArray} (h:OwnC W (w.alloc o).heap.size v (s.data.toList.map fun b=>Value.int .u8 b.toNat)):OwnC W (w.heap.size+1) v (cellsU8 (byteList s)):=by
  have e:cellsU8 (byteList s)=(s.data.toList.map fun b=>Value.int .u8 b.toNat):=by simp [cellsU8,byteList]
  rw [e]
  simpa using h
theorem cell_new1 (w:World) (x:Value) (t:TypeId):(w.alloc (.cells #[x] t)).cell? ⟨w.heap.size,0,none⟩=some x:=(Blk.new w t #[x]).cell 0
theorem below_conv {w W:World} {o:Obj} (h:Below (w.alloc o).heap.size (w.alloc o) W):Below w.heap.size w W:=((Below.refl _ _).alloc (Nat.le_refl _) o).trans (h.mono (by simp))
theorem size_conv {w W:World} {o:Obj} (h:Below (w.alloc o).heap.size (w.alloc o) W):w.heap.size+1≤W.heap.size:=by have:=h.size;simpa using this
theorem blk_conv {w W:World} {t:TypeId} {cs:Array Value} (h:Below (w.alloc (.cells cs t)).heap.size (w.alloc (.cells cs t)) W):Blk W w.heap.size t cs:=(Blk.new w t cs).below h (by simp)
def St (w wr:World) (v:Value) (l:List Int):Prop:=OwnC wr (w.heap.size+1) v (cellsU8 l)∧Blk wr w.heap.size 189 v0.cells∧Below w.heap.size w wr
theorem St.step {w W W':World} {v v':Value} {l:List Int} {x:Int} {o:Obj} (h:St w W v l) (ho:OwnC W' (w.heap.size+1) v' (cellsU8 l++[.int .u8 x])) (hg:(W.alloc o).grownBy W' v.ownBlock):St w W' v' (l++[x]):=by
  obtain ⟨h1,h2,h3⟩:=h
  obtain ⟨g,cap,rfl,hb,hlt,_⟩:=h1
  refine ⟨by rw [← cellsU8_snoc];exact ho,(h2.alloc o).grown hg (fun e=>?_),(h3.alloc h3.size o).grown hg ?_ (fun k e=>?_)⟩
  · injection e with e;dsimp only at e;omega
  · simp;have:=h3.size;omega
  · injection e with e;dsimp only at e;omega
def lenV:Value→Nat
  | .slice _ n _=>n
  | _=>0
def lenByte (n m:Nat):Int:=8*(n:Int) / 2 ^ (8*(7-m)) % 256
def lenBytes (n m:Nat):List Int:=(List.range m).map (lenByte n)
theorem lenBytes_succ (n m:Nat):lenBytes n (m+1)=lenBytes n m++[lenByte n m]:=by simp [lenBytes,List.range_succ]
def chunkOf (pl:List Int) (k:Nat):List Int:=(pl.drop (64*k)).take 64
def hashTo (pl:List Int) {N:Nat} (pre:List { k:Nat // k<N }):V8:=pre.foldl (fun v x=>blockF v (chunkOf pl x.1)) v0
theorem hashTo_snoc (pl:List Int) {N:Nat} (pre:List { k:Nat // k<N }) (x:{ k:Nat // k<N }):hashTo pl (pre++[x])=blockF (hashTo pl pre) (chunkOf pl x.1):=by simp [hashTo]
theorem chunkOf_get (pl:List Int) (k j:Nat) (hj:j<64) (h:64*k+j<pl.length):(cellsU8 pl)[64*k+j]? = some (.int .u8 ((chunkOf pl k).getD j 0)):=by
  unfold cellsU8 chunkOf
  rw [List.getElem?_map,List.getElem?_eq_getElem h]
  simp [hj,h]
def padded (s:ByteArray):List Int:=padTo s (zerosN s.size)++lenBytes s.size 8
def sumF (s:ByteArray):ByteArray:=digF (hashTo (padded s) (ups ((padded s).length / 64) ((padded s).length / 64)))
theorem sumF_size (s:ByteArray):(sumF s).size=32:=digF_size _
def SumI (w:World) (B0 g':Nat) (pl:List Int) {N:Nat} (pre:List { k:Nat // k<N }) (W:World):Prop:=
  (Blk W w.heap.size 189 (hashTo pl pre).cells∧RoundOK W∧∀ j u,(cellsU8 pl)[j]? = some u→W.cell? ⟨g',j,none⟩=some u)∧Below w.heap.size w W∧B0≤W.heap.size
theorem SumI.own (w:World) (B0 g':Nat) (pl:List Int) (N B:Nat) (hB:w.heap.size≤B):OwnFrom B (fun (pre:List { k:Nat // k<N }) W=>SumI w B0 g' pl pre W):=
  OwnFrom.and (Own.from (fun _ A B row hs hg hr=>⟨(hg.block _ hs.1.lt (fun e=>by
      obtain ⟨o,ho,hc⟩:=hr _ e.symm
      have h1:=hs.1
      unfold Blk at h1
      rw [h1] at ho
      cases ho
      cases hc)).trans hs.1,fun j v hv=>cell_kept (hs.2.1 j v hv) hg hr,fun j u hu=>cell_kept (hs.2.2 j u hu) hg hr⟩) _) (OwnFrom.and (ownFrom_below (Nat.le_refl _) hB) (fun _ _ _ _ hs hg _=>Nat.le_trans hs hg.size))
theorem sum_in (n:Nat) (hn:3≤n) (s:ByteArray) (w:World) (hs:s.size≤1000000) (hR:RoundOK w) :
    CallsIn Fence.wide n Tryz.prog 55 #[.string s] w fun e w'=>e=.returned (.string (sumF s))∧Below w.heap.size w w':=by
  obtain ⟨i0,hi,hz0,hz1,hz2⟩:=info_parts u8_info
  refine callsIn_of_wp_marks Tryz.func55 rfl trivial ?_ rfl
  simp only [Tryz.ntmps55,List.size_toArray,List.length_cons,List.length_nil,Nat.reduceAdd,Nat.reduceSub,Array.replicate_succ,Array.replicate_zero,List.push_toArray,List.append_toArray,List.nil_append,List.cons_append]
  have HR:=Lib.hid hR
  have hr1:=hR.lt
  clear hR
  gi_wp2_with (first
    | (refine wpListIn_bytes rfl (.tmp 8) 9 174 5 rfl s rfl Tryz.underlying9 Tryz.underlying174 Tryz.underlying5 (by unfold maxLen;omega) ?_;intro g1 cap1 W1 ho1 hb1;have HO1:=Lib.hid (ownC_conv ho1);have HB1:=Lib.hid (below_conv hb1);have HH1:=Lib.hid (show Blk W1 w.heap.size _ v0.cells from blk_conv hb1);have hz1':=size_conv hb1;clear ho1 hb1)
    | (gi_at_builtin;refine wpListIn_append_m rfl (.tmp 9) (.tmp 10) 174 rfl (w.heap.size+1) 5 i0 (.int .u8 0) 1 Tryz.underlying174 hi hz0 hz1 hz2 rfl (.slice (some ⟨g1,0,none⟩) s.size cap1) (cellsU8 (byteList s)) rfl (HO1.out.alloc _) ⟨W1.heap.size,0,none⟩ 1 (.int .u8 128) rfl (cell_new1 _ _ _) rfl (s.size+1) ?_ ?_ ?_ ?_ ?_;(rw [cellsU8_length,byteList_length]);(unfold maxLen;omega);omega;(rw [World.size_alloc];omega);intro g2 cap2 W2 ho2 hg2;have HO2:=Lib.hid ho2;have HG2:=Lib.hid hg2;clear ho2 hg2))
  have hS0:St w W2 (.slice (some ⟨g2,0,none⟩) (s.size+1) cap2) (padTo s 0):=by
    have h:=St.step (x:=128) ⟨HO1.out,HH1.out,HB1.out⟩ HO2.out HG2.out
    simpa [padTo] using h
  clear HO1 HH1 HB1 HO2 HG2 hz1'
  gi_loopw [4] (fun v wr=>∃ k g cap:Nat,k≤zerosN s.size∧v=.slice (some ⟨g,0,none⟩) (s.size+1+k) cap∧St w wr v (padTo s k)) (fun v _=>s.size+1+zerosN s.size-lenV v)
  case atStart=>exact ⟨0,_,_,Nat.zero_le _,rfl,hS0⟩
  case round =>
    clear hS0
    obtain ⟨k,g,cap,hk,rfl,hS⟩:=hrel
    have HS:=Lib.hid hS
    have hzr:=hS.2.2.size
    clear hS
    have hzd:zerosN s.size=(119-s.size % 64) % 64:=rfl
    by_cases hlt:k<zerosN s.size
    · have ht:(((s.size:Int)+1+(k:Int)) % 64 != 56)=true:=by rw [bne_iff_ne];omega
      clear hzd
      gi_wp2_with (gi_at_builtin;refine wpListIn_append_m rfl (.tmp 16) (.tmp 17) 174 rfl (w.heap.size+1) 5 i0 (.int .u8 0) 1 Tryz.underlying174 hi hz0 hz1 hz2 rfl (.slice (some ⟨g,0,none⟩) (s.size+1+k) cap) (cellsU8 (padTo s k)) rfl (HS.out.1.alloc _) ⟨wr.heap.size,0,none⟩ 1 (.int .u8 0) rfl (cell_new1 _ _ _) rfl (s.size+1+(k+1)) ?_ ?_ ?_ ?_ ?_;(rw [cellsU8_length,padTo_length];omega);(unfold maxLen;unfold zerosN at hlt;omega);(unfold zerosN at hlt;omega);(rw [World.size_alloc];have:=HS.out.1;obtain ⟨_,_,_,_,h5,_⟩:=this;omega);intro g2 cap2 W2 ho2 hg2;have HO2:=Lib.hid ho2;have HG2:=Lib.hid hg2;clear ho2 hg2)
      go_roundw
      case rel=>exact ⟨k+1,g2,cap2,by omega,rfl,by rw [padTo_succ];exact St.step HS.out HO2.out HG2.out⟩
      case measure=>simp [lenV];omega
    · have HK := Lib.hid (show k = zerosN s.size by omega)
      have ht:(((s.size:Int)+1+(k:Int)) % 64 != 56)=false:=by
        have:=HK.out
        simp only [bne_eq_false_iff_eq]
        omega
      have hk64:k<64:=by have:=HK.out;omega
      have hmod:(s.size+1+k) % 64=56:=by have:=HK.out;omega
      have HMOD:=Lib.hid hmod
      clear hmod hlt hk hzd
      gi_wp2
      gi_loopw [4,5] (fun v i wr=>∃ m g cap:Nat,m≤8∧i=.int .i64 (7-(m:Int))∧v=.slice (some ⟨g,0,none⟩) (s.size+1+k+m) cap∧St w wr v (padTo s k++lenBytes s.size m)) (fun v _ _=>s.size+1+k+8-lenV v)
      case atStart=>exact ⟨0,_,_,by omega,rfl,rfl,by simpa [lenBytes] using HS.out⟩
      case round=>
        clear HS hzr
        obtain ⟨m,g',cap',hm,rfl,rfl,hS⟩:=hrel
        have HS:=Lib.hid hS
        have hzr:=hS.2.2.size
        clear hS
        by_cases hlt:m<8
        · have q0:(0:Int)≤7-(m:Int):=by omega
          have q1:(m:Int)≤7:=by omega
          gi_wp2_with (gi_at_builtin;refine wpListIn_append_m rfl (.tmp 23) (.tmp 31) 174 rfl (w.heap.size+1) 5 i0 (.int .u8 0) 1 Tryz.underlying174 hi hz0 hz1 hz2 rfl (.slice (some ⟨g',0,none⟩) (s.size+1+k+m) cap') (cellsU8 (padTo s k++lenBytes s.size m)) rfl (HS.out.1.alloc _) ⟨wr.heap.size,0,none⟩ 1 (.int .u8 (lenByte s.size m)) rfl (cell_new1 _ _ _) rfl (s.size+1+k+(m+1)) ?_ ?_ ?_ ?_ ?_;(rw [cellsU8_length,List.length_append,padTo_length];simp [lenBytes];omega);(unfold maxLen;omega);omega;(rw [World.size_alloc];have:=HS.out.1;obtain ⟨_,_,_,_,h5,_⟩:=this;omega);intro g3 cap3 W3 ho3 hg3;have HO3:=Lib.hid ho3;have HG3:=Lib.hid hg3;clear ho3 hg3)
          go_roundw
          case rel=>exact ⟨m+1,g3,cap3,by omega,by go_num,rfl,by rw [lenBytes_succ,← List.append_assoc];exact St.step HS.out HO3.out HG3.out⟩
          case measure=>simp [lenV];omega
        · have HM:=Lib.hid (show m=8 by omega)
          obtain ⟨N,hN⟩:∃ N,s.size+1+k+m=64*N:=⟨(s.size+1+k+m) / 64,by have:=HM.out;have:=HMOD.out;omega⟩
          have hN6:N≤100000:=by have:=HM.out;omega
          rw [hN] at HS ⊢
          have q0:¬ (0:Int)≤7-(m:Int):=by omega
          have q2:decide ((m:Int)≤7)=false:=by simp;omega
          gi_wp2_with fail
          refine ⟨trivial,fun _=>Nat.le_trans (by omega) hn,(callsIn_wide.2 (chunk_any _ _ _ _)).mono ?_⟩
          rintro e w' ⟨rfl,rfl⟩
          gi_wp2_with fail
          obtain ⟨pl,hpl⟩:∃ pl,pl=padTo s k++lenBytes s.size m:=⟨_,rfl⟩
          rw [← hpl] at HS
          have hpll:pl.length=64*N:=by rw [hpl,List.length_append,padTo_length];simp [lenBytes];omega
          obtain ⟨⟨g'',cap'',hgeq,hgb,hglt,hgle,_,hgc,_⟩,hBh,hbw⟩:=HS.out
          injection hgeq with e1 e2 e3
          injection e1 with e1
          injection e1 with e1
          subst e1;subst e3
          clear e2
          have hcap':64*N≤cap':=by rw [← hpll,← cellsU8_length];exact hgle
          have HPL:=Lib.hid hpl
          have HPLL:=Lib.hid hpll
          have HGC:=Lib.hid hgc
          clear hpl hpll hgc
          have hI0:SumI w (wr.heap.size+2) g' pl ([]:List { k:Nat // k<N }) ((wr.alloc (.cells #[.slice (some ⟨g',0,none⟩) (64*N) cap'] 174)).alloc (.cells #[.int .i64 64] 3)):=
            ⟨⟨(hBh.alloc _).alloc _,HR.out.below (((hbw.alloc hbw.size _)).alloc (by simp;omega) _),fun j u hu=>cell_al (cell_al (HGC.out j u hu) _) _⟩,((hbw.alloc hbw.size _)).alloc (by simp;omega) _,by simp⟩
          refine wpIn_rangeFunc_ownF rfl (Nat.le_trans (by omega) hn) (gf:=145) (lb:=#[.pointer (some ⟨wr.heap.size,0,none⟩),.pointer (some ⟨wr.heap.size+1,0,none⟩)]) rfl trivial (enters_of Tryz.func145 (by kernel_rfl) rfl)
            (chunk_stops (n-1) (by omega) wr.heap.size (wr.heap.size+1) (wr.heap.size+2) g' N cap' w.heap.size hcap' (by omega) (by omega) (by omega) (by omega) (by omega) _ (by simp) (cell_al (cell_new1 _ _ _) _) (by have h:=cell_new1 (wr.alloc (.cells #[.slice (some ⟨g',0,none⟩) (64*N) cap'] 174)) (.int .i64 64) 3;rw [World.size_alloc] at h;exact h))
            (fun h k=>KeptB.trans h k) (fun W l o o' hl h _ _ b hb1 _=>World.putObj_heap_other (fun e=>by subst e;simp at hl;omega)) (Below.refl _ _) (fun _=>rfl)
            (fun pre W=>SumI w (wr.heap.size+2) g' pl pre W) (fun _ _ _=>False) (SumI.own w (wr.heap.size+2) g' pl N _ (by simp;omega)) (fun _ _ _ _ _ hs _ _=>hs) hI0
            (fun x=>{ tmps:=#[.string s,undef,.string { data:=#[] },.pointer (some ⟨w.heap.size,0,none⟩),.slice (some ⟨g',0,none⟩) (64*N) cap',.int .i64 (7-(m:Int)),.slice (some ⟨g',64*x.1,none⟩) 64 64,.agg #[.int .u32 1779033703,.int .u32 3144134277,.int .u32 1013904242,.int .u32 2773480762,.int .u32 1359893119,.int .u32 2600822924,.int .u32 528734635,.int .u32 1541459225],.string s,.slice (some ⟨g1,0,none⟩) s.size cap1,.slice (some ⟨W1.heap.size,0,none⟩) 1 1,.slice (some ⟨g2,0,none⟩) (s.size+1) cap2,.slice (some ⟨g,0,none⟩) (s.size+1+k) cap,.int .i64 ((s.size:Int)+1+(k:Int)),.int .i64 (((s.size:Int)+1+(k:Int)) % 64),.bool false,u16,u17,u18,.int .i64 (7-(m:Int)),.bool false,u21,u22,u23,u24,u25,u26,u27,u28,u29,u30,u31,u32,.slice (some ⟨g',0,none⟩) (64*N) cap',.func (.func 145) #[] #[.pointer (some ⟨wr.heap.size,0,none⟩),.pointer (some ⟨wr.heap.size+1,0,none⟩)],.slice (some ⟨g',64*x.1,none⟩) 64 64,undef,undef,undef,undef],defers:=[] }) ?assign ?body ?done ?stop
          case assign=>
            intro l x W K hK
            gi_wp2
            exact hK
          case body=>
            rintro l pre x W ⟨⟨hB,hRo,hc⟩,hb,hsz⟩ hlen
            have hd:1≤n-1-1:=by omega
            have HHC:=Lib.hid (show ∀ j,j<64→W.cell? ⟨g',64*x.1+j,none⟩=some (.int .u8 ((chunkOf pl x.1).getD j 0)) from fun j hj=>hc _ _ (chunkOf_get pl x.1 j hj (by rw [HPLL.out];have:=x.2;omega)))
            have hgw:g'<W.heap.size:=lt_of_cell (HHC.out 0 (by omega))
            have HB:=Lib.hid hB
            have HRo:=Lib.hid hRo
            have HC:=Lib.hid hc
            have HBe:=Lib.hid hb
            clear hB hRo hc hb
            gi_wp2_with fail
            refine ⟨trivial,(CallsIn.inRound l (callsIn_wide.2 (add_any w.heap.size g' (64*x.1) 64 (hashTo pl pre) (chunkOf pl x.1) W hgw HRo.out HB.out HHC.out))).mono ?_⟩
            rintro e W' ⟨rfl,hB',hg'⟩
            gi_wp2
            refine ⟨KeepsOthers.of_grownBy hg' (fun j o e ho=>?_),fun b hb1 hb2=>hg'.block b (by omega) (fun e=>by injection e with e;exact hb2 e),⟨?_,?_,?_⟩,HBe.out.grown hg' HBe.out.size (fun k e=>by injection e with e;omega),Nat.le_trans hsz hg'.size⟩
            · injection e with e
              subst e
              have h1:=HB.out
              unfold Blk at h1
              rw [h1] at ho
              cases ho
              rfl
            · rw [hashTo_snoc];exact hB'
            · exact HRo.out.keep (fun p hp=>World.cell?_of_block (hg'.block p.block (by rw [hp];exact HRo.out.lt) (fun e=>by injection e with e;omega)))
            · exact fun j u hu=>hg'.cell (HC.out j u hu) (fun e=>by injection e with e;dsimp only at e;omega)
          case done=>
            rintro D ys W hD rfl ⟨⟨hB,hRo,hc⟩,hb,hsz⟩ hK
            generalize hvs:hashTo pl (ups N N)=vs at *
            have HVS:=Lib.hid hvs
            clear hvs hc
            have c0:W.cell? ⟨w.heap.size,0,none⟩=some (.int .u32 vs.a):=hB.cell 0
            have c1:W.cell? ⟨w.heap.size,1,none⟩=some (.int .u32 vs.b):=hB.cell 1
            have c2:W.cell? ⟨w.heap.size,2,none⟩=some (.int .u32 vs.c):=hB.cell 2
            have c3:W.cell? ⟨w.heap.size,3,none⟩=some (.int .u32 vs.d):=hB.cell 3
            have c4:W.cell? ⟨w.heap.size,4,none⟩=some (.int .u32 vs.e):=hB.cell 4
            have c5:W.cell? ⟨w.heap.size,5,none⟩=some (.int .u32 vs.f):=hB.cell 5
            have c6:W.cell? ⟨w.heap.size,6,none⟩=some (.int .u32 vs.g):=hB.cell 6
            have c7:W.cell? ⟨w.heap.size,7,none⟩=some (.int .u32 vs.h):=hB.cell 7
            gi_wp2_with fail
            refine ⟨trivial,fun _=>Nat.le_trans (by omega) hn,(callsIn_wide.2 (wdigest_any vs _)).mono ?_⟩
            rintro e W' ⟨rfl,hb'⟩
            gi_wp2_with fail
            have hK':W'.heap[D]? = some (.deferred (some [])):=(hb'.block D (Array.getElem?_eq_some_iff.1 hK).1).trans hK
            have hfin:digF vs=sumF s:=by
              have e1:pl=padded s:=by rw [HPL.out,HK.out,HM.out];rfl
              have e2:N=(padded s).length / 64:=by rw [← e1,HPLL.out];omega
              unfold sumF
              rw [← HVS.out,← e1]
              subst e2
              rw [e1]
            refine ⟨by simp,.inl ⟨_,_,rfl,run_takeDeferred hK',?_⟩⟩
            refine ⟨_,results_tmp rfl _ _ _,by rw [← hfin];rfl,?_⟩
            have hbb:=hb.trans (hb'.mono hb.size)
            exact hbb.grown (grownBy_putObj' W' D _) hbb.size (fun k e=>by injection e with e;simp at hD;omega)
          case stop=>
            rintro D c pre W _ _ h _
            exact h.elim
theorem sum_any (s:ByteArray) (w:World) (hs:s.size≤1000000) (hR:RoundOK w) :
    Calls Tryz.prog 55 #[.string s] w fun e w'=>e=.returned (.string (sumF s))∧Below w.heap.size w w':=
  callsIn_wide.1 (sum_in 3 (Nat.le_refl _) s w hs hR)
end Go.Proofs.YtnajpjnnlocfgaaGreatDoor
namespace Go.Proofs.YtnajpjnnlocfgaaGreatDoor
open Go.RowKit
attribute [local go_sem ↓] Go.wp_at_zero Go.wp_at_succ
def catB (xs:List ByteArray):ByteArray:=⟨(Lib.join (xs.map (·.data.toList)) []).toArray⟩
theorem keepM {w W W':World} {p:Addr} {v:Value} (h:W.cell? p=some v∧RoundOK W∧Below w.heap.size w W) (hb:Below W.heap.size W W'):W'.cell? p=some v∧RoundOK W'∧Below w.heap.size w W':=
  ⟨(hb.cell (lt_of_cell h.1)).trans h.1,h.2.1.below hb,h.2.2.trans (hb.mono h.2.2.size)⟩
theorem marked1_any (bk bm c:Nat) (xs:List ByteArray) (mark j:ByteArray) (w:World) (hR:RoundOK w) (hm:w.cell? ⟨bm,0,none⟩=some (.string mark))
    (hc:∀ (i:Nat) x,xs[i]? = some x→w.cell? ⟨bk,0+i,none⟩=some (.string x)) (hbk:bk<w.heap.size) (hn:xs.length≤10) (hcap:xs.length≤c) (hj:catB xs=j) (hjs:j.size≤500000) (hms:mark.size≤1) :
    Calls Tryz.prog 169 #[.slice (some ⟨bk,0,none⟩) xs.length c,.pointer (some ⟨bm,0,none⟩)] w fun e w'=>e=.returned (.string (sumF (mark++j)))∧Below w.heap.size w w':=by
  have HJ:=Lib.hid (show ∀ W:World,(W.cell? ⟨bm,0,none⟩=some (.string mark)∧RoundOK W∧Below w.heap.size w W)→Calls Tryz.prog 170 #[.slice (some ⟨bk,0,none⟩) xs.length c,.string ⟨#[]⟩] W fun e w'=>e=.returned (.string j)∧Below W.heap.size W w' from by
    intro W hW
    refine (Tryz.strings_Join bk 0 c xs ⟨#[]⟩ W (fun i x hx=>(hW.2.2.cell (p:=⟨bk,0+i,none⟩) hbk).trans (hc i x hx)) (Nat.lt_of_lt_of_le hbk hW.2.2.size) (by omega) hcap ?_).mono ?_
    · have:(catB xs).size≤500000:=by rw [hj];exact hjs
      unfold catB at this
      simp only [ByteArray.size_mk',List.size_toArray] at this
      exact Nat.le_trans this (by omega)
    · rintro e w' ⟨rfl,hb⟩
      exact ⟨by rw [← hj];rfl,hb⟩)
  have HS:=Lib.hid (show ∀ (W:World) (t:ByteArray),t.size≤1000000→(W.cell? ⟨bm,0,none⟩=some (.string mark)∧RoundOK W∧Below w.heap.size w W)→Calls Tryz.prog 55 #[.string t] W fun e w'=>e=.returned (.string (sumF t))∧Below W.heap.size W w' from fun W t ht hW=>sum_any t W ht hW.2.1)
  have HR:=Lib.hid hR
  have HC:=Lib.hid hc
  have HJe:=Lib.hid hj
  clear hR hc hj
  have hsz:(mark++j).size≤1000000:=by rw [ByteArray.size_append];omega
  have hsum:mark.size+j.size≤9223372036854775807:=by omega
  have hcat:=fun W:World=>run_string_add_sum (P:=Tryz.prog) (w:=W) mark j hsum
  go_enter Tryz.func169,Tryz.ntmps169
  go_wp2
  go_region_held3 (fun w'=>w'.cell? ⟨bm,0,none⟩=some (.string mark)∧RoundOK w'∧Below w.heap.size w w')
    (first|exact ⟨hm,HR.out,(Below.refl _ _).drew⟩|assumption|exact keepM (by assumption) (by assumption))
    (first|(go_at_call 170;refine (HJ.out _ (by assumption)).mono ?_;rintro e w' ⟨rfl,hb'⟩)|(go_at_call 55;refine (HS.out _ _ hsz (by assumption)).mono ?_;rintro e w' ⟨rfl,hb'⟩))
  go_wp2
  go_ret
  exact ⟨rfl,(show w'.cell? ⟨bm,0,none⟩=some (.string mark)∧RoundOK w'∧Below w.heap.size w w' by assumption).2.2⟩
theorem marked_any (mark:ByteArray) (w:World) :
    Calls Tryz.prog 125 #[.string mark] w fun e w'=>e=.returned (.func (.func 169) #[] #[.pointer (some ⟨w.heap.size,0,none⟩)])∧w.alloc (.cells #[.string mark] 9)=w':=by
  have hmf:∀ (fn:Fn) (first cap:Array Value) (w:World),(Instr.makeFunc fn first cap).run Tryz.prog w=.ok (.func fn first cap) w:=fun _ _ _ _=>rfl
  go_enter Tryz.func125,Tryz.ntmps125
  go_wp2
  go_ret
  exact ⟨rfl,rfl⟩
def leafF (s:ByteArray):ByteArray:=sumF (⟨#[0]⟩++s)
def nodeF (a b:ByteArray):ByteArray:=sumF (⟨#[1]⟩++(a++b))
def chainF (a b:ByteArray):ByteArray:=sumF (⟨#[2]⟩++(a++b))
theorem leafF_size (s:ByteArray):(leafF s).size=32:=sumF_size _
theorem nodeF_size (a b:ByteArray):(nodeF a b).size=32:=sumF_size _
theorem chainF_size (a b:ByteArray):(chainF a b).size=32:=sumF_size _
theorem cat1 (s:ByteArray):catB [s]=s:=by
  unfold catB
  simp [Lib.join]
theorem cat2 (a b:ByteArray):catB [a,b]=a++b:=by
  unfold catB
  have h:=ByteArray.mk_append_mk a.data.toList b.data.toList
  simp only [Array.toArray_toList] at h
  rw [h]
  simp [Lib.join_cons,Lib.joinTail]
theorem leaf_any (s:ByteArray) (w:World) (hR:RoundOK w) (hs:s.size≤500000) :
    Calls Tryz.prog 72 #[.string s] w fun e w'=>e=.returned (.string (leafF s))∧Below w.heap.size w w':=by
  have hB:Blk ((w.alloc (.cells #[.string ⟨#[0]⟩] 9)).alloc (.cells #[.string s] 9)) (w.heap.size+1) 9 #[.string s]:=Blk.new' _ _ _ (by simp)
  have hbl:Below w.heap.size w ((w.alloc (.cells #[.string ⟨#[0]⟩] 9)).alloc (.cells #[.string s] 9)):=((Below.refl _ _).alloc (Nat.le_refl _) _).alloc (by simp) _
  have HM:=Lib.hid (marked1_any (w.heap.size+1) w.heap.size 1 [s] ⟨#[0]⟩ s ((w.alloc (.cells #[.string ⟨#[0]⟩] 9)).alloc (.cells #[.string s] 9)) (hR.below hbl) (cell_al (cell_new1 _ _ _) _) (fun i x hx=>by
      rw [hB.cell (0+i)]
      match i,hx with
      | 0,hx=>simp at hx;subst hx;rfl
      | (i+1),hx=>simp at hx) (by simp) (by simp) (by simp) (cat1 s) hs (by decide))
  clear hR hB
  go_enter Tryz.func72,Tryz.ntmps72
  go_wp2_with (go_at_call 125;refine (marked_any _ _).mono ?_;rintro e w' ⟨rfl,rfl⟩)
  refine HM.out.mono ?_
  rintro e w' ⟨rfl,hb'⟩
  go_wp2
  go_ret
  exact ⟨rfl,hbl.trans (hb'.mono hbl.size)⟩
theorem node_any (a b:ByteArray) (w:World) (hR:RoundOK w) (ha:a.size≤200000) (hb:b.size≤200000) :
    Calls Tryz.prog 73 #[.string a,.string b] w fun e w'=>e=.returned (.string (nodeF a b))∧Below w.heap.size w w':=by
  have hB:Blk ((w.alloc (.cells #[.string ⟨#[1]⟩] 9)).alloc (.cells #[.string a,.string b] 9)) (w.heap.size+1) 9 #[.string a,.string b]:=Blk.new' _ _ _ (by simp)
  have hbl:Below w.heap.size w ((w.alloc (.cells #[.string ⟨#[1]⟩] 9)).alloc (.cells #[.string a,.string b] 9)):=((Below.refl _ _).alloc (Nat.le_refl _) _).alloc (by simp) _
  have HM:=Lib.hid (marked1_any (w.heap.size+1) w.heap.size 2 [a,b] ⟨#[1]⟩ (a++b) ((w.alloc (.cells #[.string ⟨#[1]⟩] 9)).alloc (.cells #[.string a,.string b] 9)) (hR.below hbl) (cell_al (cell_new1 _ _ _) _) (fun i x hx=>by
      rw [hB.cell (0+i)]
      match i,hx with
      | 0,hx=>simp at hx;subst hx;rfl
      | 1,hx=>simp at hx;subst hx;rfl
      | (i+2),hx=>simp at hx) (by simp) (by simp) (by simp) (cat2 a b) (by rw [ByteArray.size_append];omega) (by decide))
  clear hR hB
  go_enter Tryz.func73,Tryz.ntmps73
  go_wp2_with (go_at_call 125;refine (marked_any _ _).mono ?_;rintro e w' ⟨rfl,rfl⟩)
  refine HM.out.mono ?_
  rintro e w' ⟨rfl,hb'⟩
  go_wp2
  go_ret
  exact ⟨rfl,hbl.trans (hb'.mono hbl.size)⟩
theorem chain_any (a b:ByteArray) (w:World) (hR:RoundOK w) (ha:a.size≤200000) (hb:b.size≤200000) :
    Calls Tryz.prog 98 #[.string a,.string b] w fun e w'=>e=.returned (.string (chainF a b))∧Below w.heap.size w w':=by
  have hB:Blk ((w.alloc (.cells #[.string ⟨#[2]⟩] 9)).alloc (.cells #[.string a,.string b] 9)) (w.heap.size+1) 9 #[.string a,.string b]:=Blk.new' _ _ _ (by simp)
  have hbl:Below w.heap.size w ((w.alloc (.cells #[.string ⟨#[2]⟩] 9)).alloc (.cells #[.string a,.string b] 9)):=((Below.refl _ _).alloc (Nat.le_refl _) _).alloc (by simp) _
  have HM:=Lib.hid (marked1_any (w.heap.size+1) w.heap.size 2 [a,b] ⟨#[2]⟩ (a++b) ((w.alloc (.cells #[.string ⟨#[2]⟩] 9)).alloc (.cells #[.string a,.string b] 9)) (hR.below hbl) (cell_al (cell_new1 _ _ _) _) (fun i x hx=>by
      rw [hB.cell (0+i)]
      match i,hx with
      | 0,hx=>simp at hx;subst hx;rfl
      | 1,hx=>simp at hx;subst hx;rfl
      | (i+2),hx=>simp at hx) (by simp) (by simp) (by simp) (cat2 a b) (by rw [ByteArray.size_append];omega) (by decide))
  clear hR hB
  go_enter Tryz.func98,Tryz.ntmps98
  go_wp2_with (go_at_call 125;refine (marked_any _ _).mono ?_;rintro e w' ⟨rfl,rfl⟩)
  refine HM.out.mono ?_
  rintro e w' ⟨rfl,hb'⟩
  go_wp2
  go_ret
  exact ⟨rfl,hbl.trans (hb'.mono hbl.size)⟩
end Go.Proofs.YtnajpjnnlocfgaaGreatDoor
namespace Go.Proofs.YtnajpjnnlocfgaaGreatDoor
open Go.RowKit
def Strs (S:Nat→Prop) (w:World) (v:Value) (l:List ByteArray):Prop:=
  ∃ A c,v=.slice A l.length c∧l.length≤c∧(0<l.length→∃ b off,A=some ⟨b,off,none⟩∧S b∧∀ j x,l[j]? = some x→w.cell? ⟨b,off+j,none⟩=some (.string x))
section
variable {S S':Nat→Prop} {w w':World} {v:Value} {l:List ByteArray}
theorem Strs.keep (h:Strs S w v l) (hk:∀ b,S b→b<w.heap.size→w'.heap[b]? = w.heap[b]?):Strs S w' v l:=by
  obtain ⟨A,c,rfl,hc,h⟩:=h
  refine ⟨A,c,rfl,hc,fun h0=>?_⟩
  obtain ⟨b,off,hA,hS,hcell⟩:=h h0
  refine ⟨b,off,hA,hS,fun j x hx=>?_⟩
  have h1:=hcell j x hx
  exact (World.cell?_of_block (a:=⟨b,off+j,none⟩) (hk b hS (lt_of_cell (p:=⟨b,off+j,none⟩) h1))).trans h1
theorem Strs.below (h:Strs S w v l) (hb:Below w.heap.size w w'):Strs S w' v l:=h.keep fun b _ hlt=>hb.block b hlt
theorem Strs.mono (h:Strs S w v l) (hS:∀ b,S b→b<w.heap.size→S' b):Strs S' w v l:=by
  obtain ⟨A,c,rfl,hc,h⟩:=h
  refine ⟨A,c,rfl,hc,fun h0=>?_⟩
  obtain ⟨b,off,hA,hb,hcell⟩:=h h0
  exact ⟨b,off,hA,hS b hb (by
    have h1:=hcell 0 _ (List.getElem?_eq_getElem h0)
    exact lt_of_cell (p:=⟨b,off+0,none⟩) h1),hcell⟩
theorem Strs.nil_ (S:Nat→Prop) (w:World):Strs S w (.slice none 0 0) []:=⟨none,0,rfl,Nat.le_refl _,fun h=>absurd h (by simp)⟩
theorem Strs.at_ (h:Strs S w v l) {k:Nat} (hk:k<l.length):∃ b off c,v=.slice (some ⟨b,off,none⟩) l.length c∧l.length≤c∧S b∧w.cell? ⟨b,off+k,none⟩=some (.string (l.getD k ⟨#[]⟩)):=by
  obtain ⟨A,c,rfl,hc,h⟩:=h
  obtain ⟨b,off,rfl,hS,hcell⟩:=h (by omega)
  refine ⟨b,off,c,rfl,hc,hS,?_⟩
  rw [hcell k _ (List.getElem?_eq_getElem hk)]
  simp [hk]
end
end Go.Proofs.YtnajpjnnlocfgaaGreatDoor
namespace Go.Proofs.YtnajpjnnlocfgaaGreatDoor
open Go.RowKit
def leftF (n:Nat):Nat:=2 ^ (Lib.bitLen (n-1)-1)
theorem bitLen_pos (n:Nat) (h:1≤n):1≤Lib.bitLen n:=by
  unfold Lib.bitLen Lib.bitLenAux
  rw [if_neg (by omega)]
  omega
theorem bitLenAux_le (f:Nat):∀ k x:Nat,x<2 ^ k→Lib.bitLenAux f x≤k:=by
  induction f with
  | zero=>intro k x _;exact Nat.zero_le _
  | succ f ih=>
    intro k x h
    unfold Lib.bitLenAux
    by_cases hx:x=0
    · rw [if_pos hx];exact Nat.zero_le _
    · rw [if_neg hx]
      match k,h with
      | 0,h=>simp at h;omega
      | k+1,h=>
        have:=ih k (x / 2) (by rw [Nat.pow_succ] at h;omega)
        omega
theorem wrap_pow (k:Nat) (h:k≤16):wrap64 ((2:Int) ^ k)=((2 ^ k:Nat):Int):=by
  have h1:2 ^ k≤2 ^ 16:=Nat.pow_le_pow_right (by omega) h
  have h2:((2:Int) ^ k)=((2 ^ k:Nat):Int):=by simp
  rw [h2]
  generalize 2 ^ k=m at *
  unfold wrap64
  omega
theorem left_any (n:Nat) (w:World) (h2:2≤n) (hn:n≤100000) :
    Calls Tryz.prog 57 #[.int .i64 (n:Int)] w fun e w'=>e=.returned (.int .i64 (leftF n:Int))∧w=w':=by
  go_enter Tryz.func57,Tryz.ntmps57
  go_wp2_with fail
  refine (Tryz.bits_Len _ _ (by omega) (by omega)).mono ?_
  rintro e w' ⟨rfl,hw⟩
  subst hw
  have e1:((n:Int)-1).toNat=n-1:=by omega
  rw [e1]
  have hp:=bitLen_pos (n-1) (by omega)
  have hl:Lib.bitLen (n-1)≤17:=bitLenAux_le 64 17 (n-1) (by omega)
  generalize hL:Lib.bitLen (n-1)=L at *
  have HL:=Lib.hid hL
  clear hL
  go_wp2
  go_ret
  refine ⟨ret_int ?_,rfl⟩
  unfold leftF
  rw [HL.out]
  exact wrap_pow (L-1) (by omega)
def oddF (s:ByteArray):Bool := !((s.size:Int) == 32)
def idxOf {α:Type} (p:α→Bool) (l:List α):Int:=if l.any p then ((l.findIdx p:Nat):Int) else -1
theorem idxOf_yes {α:Type} (p:α→Bool) (l:List α) (k:Nat) (hk:k<l.length) (h:p l[k]=true) (hno:∀ j (hj:j<k),p (l[j]'(by omega))=false):idxOf p l=(k:Int):=by
  unfold idxOf
  rw [if_pos (List.any_eq_true.2 ⟨l[k],List.getElem_mem hk,h⟩)]
  have:l.findIdx p=k:=by
    rw [List.findIdx_eq hk]
    exact ⟨h,fun j hj=>hno j hj⟩
  rw [this]
theorem idxOf_no {α:Type} (p:α→Bool) (l:List α) (hno:∀ j (hj:j<l.length),p l[j]=false):idxOf p l = -1:=by
  unfold idxOf
  rw [if_neg]
  intro h
  obtain ⟨x,hx,hp⟩:=List.any_eq_true.1 h
  obtain ⟨j,hj,rfl⟩:=List.getElem_of_mem hx
  rw [hno j hj] at hp
  cases hp
theorem idxOf_nonneg {α:Type} (p:α→Bool) (l:List α):decide (0≤idxOf p l)=l.any p:=by
  unfold idxOf
  cases h:l.any p <;> simp
def allF (l:List ByteArray):Bool := !l.any oddF
end Go.Proofs.YtnajpjnnlocfgaaGreatDoor
namespace Go.Proofs.YtnajpjnnlocfgaaGreatDoor
open Go.RowKit
end Go.Proofs.YtnajpjnnlocfgaaGreatDoor
namespace Go.Proofs.YtnajpjnnlocfgaaGreatDoor
open Go.RowKit Go.Shelf
attribute [local go_sem] Oper.semAt_some
def downs (N:Nat):Nat→List { k:Nat // k<N }
  | 0=>[]
  | k+1=>if h:k<N then downs N k++[⟨N-1-k,by omega⟩] else downs N k
theorem downs_succ (N k:Nat) (h:k<N):downs N (k+1)=downs N k++[⟨N-1-k,by omega⟩]:=by simp [downs,h]
theorem downs_length (N k:Nat) (h:k≤N):(downs N k).length=k:=by
  induction k with
  | zero=>rfl
  | succ k ih=>rw [downs_succ N k (by omega),List.length_append,ih (by omega)];rfl
def BackPost {N:Nat} (J Jx:List { k:Nat // k<N }→World→Prop) (e:Ending) (W':World):Prop:=
  (∃ v,e=.returned v)∧(J (downs N N) W'∨(∃ pre,Jx pre W'))
theorem back1_in (n:Nat) (hn:1≤n) (l Bs n₀ gh:Nat) (A:Option Addr) (c:Nat) (xs:List ByteArray) (hN:xs.length≤1000000) (hs0:Bs<n₀) (hsg:Bs≠gh)
    (J Jx:List { k:Nat // k<xs.length }→World→Prop)
    (hY:∀ pre x W,J pre W→pre.length<xs.length→YieldAt Fence.wide (n-1) Tryz.prog l #[.int .i64 ((x:{ k:Nat // k<xs.length }).1:Int),.string (xs[x.1]'x.2)] W fun e W'=>
      (e=.returned (.bool true)∧J (pre++[x]) W'∧KeptB n₀ gh W W')∨(e=.returned (.bool false)∧Jx (pre++[x]) W'))
    (W:World) (hBs:W.cell? ⟨Bs,0,none⟩=some (.slice A xs.length c)) (hc:0<xs.length→∃ b off,A=some ⟨b,off,none⟩∧b<n₀∧b≠gh∧∀ j x,xs[j]? = some x→W.cell? ⟨b,off+j,none⟩=some (.string x)) (h0:J [] W) :
    CallsIn Fence.wide n Tryz.prog 126 #[.func (.yield l) #[] #[],.pointer (some ⟨Bs,0,none⟩)] W (BackPost J Jx):=by
  have HC:=Lib.hid hc
  clear hc
  refine callsIn_of_wp Tryz.func126 rfl trivial ?_ rfl
  simp only [Tryz.ntmps126,List.size_toArray,List.length_cons,List.length_nil,Nat.reduceAdd,Nat.reduceSub,Array.replicate_succ,Array.replicate_zero,List.push_toArray,List.append_toArray,List.nil_append,List.cons_append]
  gi_wp2
  gi_loopw [3] (fun i wr=>∃ k:Nat,k≤xs.length∧i=.int .i64 ((xs.length:Int)-1-(k:Int))∧J (downs xs.length k) wr∧KeptB n₀ gh W wr)
    (fun i _=>(intOf i+1).toNat)
  case atStart=>exact ⟨0,Nat.zero_le _,by simp,h0,KeptB.refl _ _ _⟩
  case round =>
    obtain ⟨k,hk,rfl,hJs,hnx⟩:=hrel
    have cs:=(hnx.cell (p:=⟨Bs,0,none⟩) hs0 hsg).trans hBs
    by_cases hlt:k<xs.length
    · obtain ⟨b,off,rfl,hb0,hbg,hcell⟩:=HC.out (by omega)
      obtain ⟨q,hq⟩:∃ q,q=xs.length-1-k:=⟨_,rfl⟩
      have hqi:(xs.length:Int)-1-(k:Int)=(q:Int):=by omega
      have hql:q<xs.length:=by omega
      have cx:=(hnx.cell (p:=⟨b,off+q,none⟩) hb0 hbg).trans (hcell q _ (List.getElem?_eq_getElem hql))
      obtain ⟨fn,tmps,assign,body,hy,hR⟩:=hY _ ⟨q,hql⟩ wr hJs (by rw [downs_length _ k hk];exact hlt)
      dsimp only at hy
      have HQ:=Lib.hid hq
      rw [hqi]
      have HQI:=Lib.hid hqi
      obtain ⟨x,hx⟩:∃ x,x=xs[q]:=⟨_,rfl⟩
      rw [← hx] at cx hy
      have HX:=Lib.hid hx
      clear hq hqi hx
      have b0:(0:Int)≤(q:Int):=by omega
      have b1:(q:Int)<(xs.length:Int):=by omega
      gi_wp2
      refine hR.mono ?_
      rintro e W3 (⟨rfl,hJ3,hk3⟩|⟨rfl,hJx3⟩)
      · gi_wp2
        go_roundw
        case rel=>
          refine ⟨k+1,by omega,?_,?_,hnx.trans hk3⟩
          · have:=HQI.out
            have e:(q:Int)-1=(xs.length:Int)-1-((k+1:Nat):Int):=by omega
            rw [← e]
          · rw [downs_succ _ k hlt]
            have e:(⟨q,hql⟩:{ k:Nat // k<xs.length })=⟨xs.length-1-k,by omega⟩:=Subtype.ext HQ.out
            rw [← e]
            exact hJ3
        case measure=>simp [intOf]
      · gi_wp2
        refine bodyPost_ret (results_none rfl _ _ _) rfl ?_
        exact ⟨⟨_,rfl⟩,.inr ⟨_,hJx3⟩⟩
    · have HK:=Lib.hid (show k=xs.length by omega)
      have hneg:¬ (0:Int)≤(xs.length:Int)-1-(k:Int):=by omega
      gi_wp2
      go_end0
      rw [HK.out] at hJs
      exact ⟨⟨_,rfl⟩,.inl hJs⟩
theorem back_stops (n:Nat) (hn:1≤n) (Bs n₀ gh:Nat) (A:Option Addr) (c:Nat) (xs:List ByteArray) (hN:xs.length≤1000000) (hs0:Bs<n₀) (hsg:Bs≠gh) (w:World) (hw:n₀≤w.heap.size)
    (hBs:w.cell? ⟨Bs,0,none⟩=some (.slice A xs.length c)) (hc:0<xs.length→∃ b off,A=some ⟨b,off,none⟩∧b<n₀∧b≠gh∧∀ j x,xs[j]? = some x→w.cell? ⟨b,off+j,none⟩=some (.string x)) :
    SeqStopsK Fence.wide n Tryz.prog 126 #[.pointer (some ⟨Bs,0,none⟩)] (fun x:{ k:Nat // k<xs.length }=>#[Value.int .i64 (x.1:Int),.string (xs[x.1]'x.2)])
      (KeptB n₀ gh) (fun ys=>ys=downs xs.length xs.length) (fun _=>True) xs.length w:=fun l J Jx W hW hJ _ hY h0=>by
  refine (back1_in n hn l Bs n₀ gh A c xs hN hs0 hsg J Jx hY W ((hW.cell (p:=⟨Bs,0,none⟩) (by show Bs<w.heap.size;omega)).trans hBs) (fun h=>?_) h0).mono ?_
  · obtain ⟨b,off,rfl,hb,hg,hcell⟩:=hc h
    exact ⟨b,off,rfl,hb,hg,fun j x hx=>(hW.cell (p:=⟨b,off+j,none⟩) (by show b<w.heap.size;omega)).trans (hcell j x hx)⟩
  · rintro e W' ⟨he,hj|⟨pre,hj⟩⟩
    · exact ⟨he,.inl ⟨_,rfl,hj⟩⟩
    · exact ⟨he,.inr ⟨_,trivial,hj⟩⟩
theorem back_any (n c:Nat) (A:Option Addr) (w:World) :
    Calls Tryz.prog 74 #[.slice A n c] w fun e w'=>
      e=.returned (.func (.func 126) #[] #[.pointer (some ⟨w.heap.size,0,none⟩)])∧w.alloc (.cells #[.slice A n c] 44)=w':=by
  have hmf:∀ (fn:Fn) (first cap:Array Value) (w:World),(Instr.makeFunc fn first cap).run Tryz.prog w=.ok (.func fn first cap) w:=fun _ _ _ _=>rfl
  go_enter Tryz.func74,Tryz.ntmps74
  go_wp2
  go_ret
  exact ⟨rfl,rfl⟩
end Go.Proofs.YtnajpjnnlocfgaaGreatDoor
namespace Go.Proofs.YtnajpjnnlocfgaaGreatDoor
open Go.RowKit
def mergeR:Nat→List (Nat × ByteArray)→List (Nat × ByteArray)
  | f+1,(s2,b)::(s1,a)::rest=>if s1=s2 then mergeR f ((2*s2,nodeF a b)::rest) else (s2,b)::(s1,a)::rest
  | _,l=>l
def merged (l:List (Nat × ByteArray)):List (Nat × ByteArray):=(mergeR l.length l.reverse).reverse
theorem merged_step (i:List (Nat × ByteArray)) (s:Nat) (a b:ByteArray):merged (i++[(s,a),(s,b)])=merged (i++[(2*s,nodeF a b)]):=by
  unfold merged
  simp [mergeR]
theorem merged_diff (i:List (Nat × ByteArray)) (s t:Nat) (a b:ByteArray) (h:s≠t):merged (i++[(s,a),(t,b)])=i++[(s,a),(t,b)]:=by
  unfold merged
  simp [mergeR,h]
theorem merged_short (l:List (Nat × ByteArray)) (h:l.length≤1):merged l=l:=by
  match l,h with
  | [],_=>rfl
  | [x],_=>rfl
  | _::_::_,h=>simp at h
def stackTo (l:List ByteArray):Nat→List (Nat × ByteArray)
  | 0=>[]
  | k+1=>merged (stackTo l k++[(1,leafF (l.getD k ⟨#[]⟩))])
def foldBack (l:List ByteArray):ByteArray:=l.dropLast.foldr (fun r out=>nodeF r out) (l.getLast?.getD ⟨#[]⟩)
def rootF (l:List ByteArray):ByteArray:=if l=[] then sumF ⟨#[]⟩ else foldBack ((stackTo l l.length).map (·.2))
def OkSt (m:Nat) (st:List (Nat × ByteArray)):Prop:=(st.map (·.1)).sum=m∧∀ p ∈ st,p.2.size=32∧1≤p.1
theorem mergeR_ok (f:Nat):∀ (l:List (Nat × ByteArray)) (m:Nat),OkSt m l→OkSt m (mergeR f l):=by
  induction f with
  | zero=>intro l m h;unfold mergeR;exact h
  | succ f ih=>
    intro l m h
    match l,h with
    | [],h=>exact h
    | [x],h=>exact h
    | (s2, b) :: (s1, a) :: rest, h =>
      unfold mergeR
      by_cases e:s1=s2
      · rw [if_pos e]
        refine ih _ m ⟨?_,?_⟩
        · have:=h.1
          simp only [List.map_cons,List.sum_cons] at this ⊢
          omega
        · intro p hp
          rcases List.mem_cons.1 hp with rfl|hp
          · have:=(h.2 (s2,b) (by simp)).2
            exact ⟨nodeF_size _ _,by dsimp only at this ⊢;omega⟩
          · exact h.2 p (by simp [hp])
      · rw [if_neg e];exact h
theorem okSt_reverse (m:Nat) (l:List (Nat × ByteArray)) (h:OkSt m l):OkSt m l.reverse:=
  ⟨by rw [List.map_reverse,List.sum_reverse];exact h.1,fun p hp=>h.2 p (by simpa using hp)⟩
theorem merged_ok (m:Nat) (l:List (Nat × ByteArray)) (h:OkSt m l):OkSt m (merged l):=okSt_reverse _ _ (mergeR_ok _ _ _ (okSt_reverse _ _ h))
theorem okSt_push (m:Nat) (l:List (Nat × ByteArray)) (h:OkSt m l) (s:ByteArray):OkSt (m+1) (l++[(1,leafF s)]):=by
  refine ⟨by rw [List.map_append,List.sum_append,h.1];rfl,fun p hp=>?_⟩
  rcases List.mem_append.1 hp with hp|hp
  · exact h.2 p hp
  · simp at hp
    subst hp
    exact ⟨leafF_size _,Nat.le_refl _⟩
theorem stackTo_ok (l:List ByteArray) (k:Nat):OkSt k (stackTo l k):=by
  induction k with
  | zero=>exact ⟨rfl,fun p hp=>by cases hp⟩
  | succ k ih=>exact merged_ok _ _ (okSt_push k _ ih _)
theorem okSt_length (m:Nat) (l:List (Nat × ByteArray)) (h:OkSt m l):l.length≤m:=by
  obtain ⟨h1,h2⟩:=h
  induction l generalizing m with
  | nil=>simp
  | cons x t ih=>
    have:=ih (m:=(t.map (·.1)).sum) rfl (fun p hp=>h2 p (by simp [hp]))
    have hx:=(h2 x (by simp)).2
    simp only [List.map_cons,List.sum_cons] at h1
    simp only [List.length_cons]
    omega
theorem okSt_le (m:Nat) (l:List (Nat × ByteArray)) (h:OkSt m l) (p:Nat × ByteArray) (hp:p ∈ l):p.1≤m:=by
  have h1:=h.1
  clear h
  induction l generalizing m with
  | nil=>cases hp
  | cons x t ih=>
    simp only [List.map_cons,List.sum_cons] at h1
    have hx:x.1≤m:=by omega
    rcases List.mem_cons.1 hp with e|hp
    · rw [e];exact hx
    · have h3:p.1≤(t.map (·.1)).sum:=ih (m:=(t.map (·.1)).sum) hp rfl
      exact Nat.le_trans h3 (by omega)
theorem okSt_merge (m:Nat) (i:List (Nat × ByteArray)) (s:Nat) (a b:ByteArray) (h:OkSt m (i++[(s,a),(s,b)])):OkSt m (i++[(2*s,nodeF a b)]):=by
  refine ⟨?_,fun p hp=>?_⟩
  · have:=h.1
    simp only [List.map_append,List.sum_append,List.map_cons,List.map_nil,List.sum_cons,List.sum_nil] at this ⊢
    omega
  · rcases List.mem_append.1 hp with hp|hp
    · exact h.2 p (by simp [hp])
    · simp at hp
      subst hp
      have:=(h.2 (s,a) (by simp)).2
      exact ⟨nodeF_size _ _,by dsimp only at this ⊢;omega⟩
theorem two_last {α:Type} (l:List α) (h:2≤l.length):∃ i x y,l=i++[x,y]:=by
  refine ⟨l.take (l.length-2),l[l.length-2],l[l.length-1],?_⟩
  have h1:l.drop (l.length-2)=[l[l.length-2],l[l.length-1]]:=by
    rw [List.drop_eq_getElem_cons (by omega),List.drop_eq_getElem_cons (by omega),List.drop_of_length_le (by omega)]
    congr 2
    congr 1
    omega
  rw [← h1,List.take_append_drop]
def RS (w W:World) (wv sv:Value) (xs:List ByteArray) (zs:List Nat):Prop:=
  W.ownsRow w.heap.size 9 1 wv xs.length (xs.map Value.string)∧W.ownsRow w.heap.size 3 1 sv zs.length (zs.map fun z:Nat=>Value.int .i64 (z:Int))∧RoundOK W∧Below w.heap.size w W
theorem own_shape {w:World} {base e size n:Nat} {v:Value} {xs:List Value} (h:w.ownsRow base e size v n xs):∃ A c,v=.slice A n c:=by
  rcases h.2 with ⟨rfl,rfl⟩|⟨g,cap,cur,rfl,_⟩
  · exact ⟨_,_,rfl⟩
  · exact ⟨_,_,rfl⟩
theorem own_ne {w:World} {base base' e e' size size' n n':Nat} {v v':Value} {xs xs':List Value} (h:w.ownsRow base e size v n xs) (h':w.ownsRow base' e' size' v' n' xs') (hne:e≠e'):v.ownBlock=none∨v.ownBlock≠v'.ownBlock:=by
  rcases h.2 with ⟨rfl,_⟩|⟨g,cap,cur,rfl,_,hg,_⟩
  · exact .inl rfl
  · rcases h'.2 with ⟨rfl,_⟩|⟨g',cap',cur',rfl,_,hg',_⟩
    · exact .inr (by simp [Value.ownBlock])
    · refine .inr (fun he=>?_)
      have:g=g':=by simpa [Value.ownBlock] using he
      subst this
      rw [hg] at hg'
      injection hg' with hg'
      injection hg' with _ h2
      exact hne h2
theorem own_cut {w:World} {base e n k cap g:Nat} {xs:List Value} (h:w.ownsRow base e 1 (.slice (some ⟨g,0,none⟩) n cap) n xs) (hk:k≤n):w.ownsRow base e 1 (.slice (some ⟨g,0,none⟩) k cap) k (xs.take k):=by
  obtain ⟨hl,h⟩:=h
  refine ⟨by rw [List.length_take];omega,?_⟩
  rcases h with ⟨he,_⟩|⟨g',cap',cur,he,hb,hg,hle,hm,hs,ht⟩
  · cases he
  · injection he with h1 h2 h3
    injection h1 with h1
    injection h1 with h1
    subst h1;subst h3
    refine .inr ⟨g,cap,cur,rfl,hb,hg,by omega,hm,hs,?_⟩
    rw [← ht,List.take_take]
    congr 1
    omega
theorem own_cell {w:World} {base e n cap g:Nat} {xs:List Value} (h:w.ownsRow base e 1 (.slice (some ⟨g,0,none⟩) n cap) n xs) {k:Nat} {x:Value} (hx:xs[k]? = some x):w.cell? ⟨g,k,none⟩=some x:=by
  have:=h.cells (g:=g) rfl k x hx
  rwa [add_lit0] at this
theorem RS.below {w W W':World} {wv sv:Value} {xs:List ByteArray} {zs:List Nat} (h:RS w W wv sv xs zs) (hb:Below W.heap.size W W'):RS w W' wv sv xs zs:=by
  have hg:W.grownBy W' none:=⟨hb.os,hb.tape,hb.output,hb.size,fun k hk _=>hb.block k hk⟩
  have hno:∀ {v:Value},v.ownBlock=none∨v.ownBlock≠none:=fun {v}=>by cases h:v.ownBlock <;> simp
  exact ⟨h.1.kept hg hno,h.2.1.kept hg hno,h.2.2.1.below hb,h.2.2.2.trans (hb.mono h.2.2.2.size)⟩
theorem RS.appW {w W W':World} {wv wv' sv:Value} {xs ys:List ByteArray} {zs:List Nat} {n:Nat} (hr:0<w.heap.size) (h:RS w W wv sv xs zs) (ho:W'.ownsRow w.heap.size 9 1 wv' n (ys.map Value.string)) (hn:ys.length=n) (hg:W.grownBy W' wv.ownBlock):RS w W' wv' sv ys zs:=by
  subst hn
  have hne:=own_ne h.2.1 h.1 (by decide)
  refine ⟨ho,h.2.1.kept hg hne,h.2.2.1.keep fun p hp=>World.cell?_of_block (hg.block p.block (by rw [hp];exact h.2.2.1.lt) (fun e=>?_)),h.2.2.2.grown hg h.2.2.2.size (fun k e=>(h.1.lt k e).1)⟩
  have h1:=(h.1.lt p.block e.symm).1
  omega
theorem RS.appS {w W W':World} {wv sv sv':Value} {xs:List ByteArray} {zs ys:List Nat} {n:Nat} (hr:0<w.heap.size) (h:RS w W wv sv xs zs) (ho:W'.ownsRow w.heap.size 3 1 sv' n (ys.map fun z:Nat=>Value.int .i64 (z:Int))) (hn:ys.length=n) (hg:W.grownBy W' sv.ownBlock):RS w W' wv sv' xs ys:=by
  subst hn
  have hne:=own_ne h.1 h.2.1 (by decide)
  refine ⟨h.1.kept hg hne,ho,h.2.2.1.keep fun p hp=>World.cell?_of_block (hg.block p.block (by rw [hp];exact h.2.2.1.lt) (fun e=>?_)),h.2.2.2.grown hg h.2.2.2.size (fun k e=>(h.2.1.lt k e).1)⟩
  have h1:=(h.2.1.lt p.block e.symm).1
  omega
theorem RS.alloc {w W:World} {wv sv:Value} {xs:List ByteArray} {zs:List Nat} (h:RS w W wv sv xs zs) (o:Obj):RS w (W.alloc o) wv sv xs zs:=h.below ((Below.refl _ _).alloc (Nat.le_refl _) o)
theorem RS.drew {w W:World} {wv sv:Value} {xs:List ByteArray} {zs:List Nat} (h:RS w W wv sv xs zs):RS w W.drew wv sv xs zs:=h.below (Below.refl _ _).drew
theorem RS.drewN {w W:World} {wv sv:Value} {xs:List ByteArray} {zs:List Nat} (h:RS w W wv sv xs zs) (n:Nat):RS w (W.drewN n) wv sv xs zs:=h.below (below_drewN (Below.refl _ _) n)
theorem str_info:(Tryz.prog.info? 9).map (fun i=>(i.zero,i.size,i.bytes))=some (some (.string ⟨#[]⟩),1,16):=by kernel_rfl
theorem int_info:(Tryz.prog.info? 3).map (fun i=>(i.zero,i.size,i.bytes))=some (some (.int .i64 0),1,8):=by kernel_rfl
end Go.Proofs.YtnajpjnnlocfgaaGreatDoor
