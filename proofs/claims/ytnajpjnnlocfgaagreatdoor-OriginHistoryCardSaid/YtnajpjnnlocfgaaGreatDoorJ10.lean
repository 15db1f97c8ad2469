/-
  package logtree: all as an iterator, leaves.
-/
import Derived.Test.YtnajpjnnlocfgaaGreatDoorJ3
set_option linter.unusedSimpArgs false
set_option linter.unusedVariables false
namespace Go.Proofs.YtnajpjnnlocfgaaGreatDoor
open Go.RowKit Go.Shelf
attribute [local go_sem] run_semAt
attribute [local go_sem high] app_sem
theorem wpIn_mem_str {n:Nat} {P:Program} {g:Operand} {ps:Array Tmp} {assign body:Code} {Q:Exit→Act→World→Prop} {a:Act} {w:World}
    (h1:1≤n) {gf:Nat} {lb:Array Value} (hg:a.eval g=.func (.func gf) #[] lb) (eg:∀ args w,(callFunc gf args).run P w=.ok (.enter gf args) w)
    {N:Nat} {C:World→Prop} (enc:Nat→ByteArray) (hseq:SeqMem (n-1) P gf lb N C (fun k xs _=>xs=#[.string (enc k)])) (hps:ps.size=1)
    (I:Nat→World→Prop) (hI:∀ k,OwnP w.heap.size (I k)) (hC:∀ k W,I k W→C W) (h0:I 0 w) (Fr:ByteArray→Act)
    (hassign:∀ (l:Nat) (s:ByteArray) (W:World) (K:Act→World→Prop),K (Fr s) W →
      assign.wpIn (Fence.wide.inRound l) (n-1-1) P (Exit.then K (fun _ _ _=>False)) { tmps:=(ps.zip #[.string s]).foldl (fun t (p,v)=>t.setIfInBounds p v) a.tmps,defers:=[] } W)
    (hbody:∀ (l k:Nat) (s:ByteArray) (W:World),k<N→s=enc k→w.heap.size≤W.heap.size→I k W→body.wpIn (Fence.wide.inRound l) (n-1-1) P (OncePost w.heap.size (I (k+1)) W) (Fr s) W)
    (hdone:∀ (D:Nat) (W:World),w.heap.size≤D→I N W→W.heap[D]? = some (.deferred (some []))→Q .normal { a with defers:={ target:=.collected D,args:=#[] }::a.defers } W) :
    (Code.rangeFunc g ps assign body).wpIn Fence.wide n P Q a w:=
  wpIn_mem h1 hg eg hseq (fun k xs W h=>by rw [h,hps];rfl) I hI hC h0 (fun k a' _=>a'=Fr (enc k)) (fun _ _=>OwnP.pure _)
    (fun l k xs W K _ _ hI' hm hK=>by subst hm;exact hassign l (enc k) W K (hK _ _ (KeepsFrom.refl _ _) hI' rfl))
    (fun l k a' W hk hsz hI' hA=>by subst hA;exact hbody l k (enc k) W hk rfl hsz hI') hdone
def AllPost (N:Nat) (J:Nat→World→Prop) (e:Ending) (W':World):Prop:=(∃ v,e=.returned v)∧J N W'
set_option maxHeartbeats 400000 in
theorem all_iter (gl:Nat) (w:World) :
    Calls Tryz.prog 107 #[.pointer (some ⟨gl,0,none⟩)] w fun e w'=>
      e=.returned (.func (.func 150) #[] #[.pointer (some ⟨w.heap.size,0,none⟩)])∧w.alloc (.cells #[.pointer (some ⟨gl,0,none⟩)] 47)=w':=by
  have hmf:∀ (fn:Fn) (first cap:Array Value) (w:World),(Instr.makeFunc fn first cap).run Tryz.prog w=.ok (.func fn first cap) w:=fun _ _ _ _=>rfl
  go_enter Tryz.func107,Tryz.ntmps107
  go_wp2
  go_ret
  exact ⟨rfl,rfl⟩
end Go.Proofs.YtnajpjnnlocfgaaGreatDoor
