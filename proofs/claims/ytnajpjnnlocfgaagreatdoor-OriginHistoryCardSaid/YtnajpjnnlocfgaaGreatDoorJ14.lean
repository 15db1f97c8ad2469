/-
  A range over an iterator of N rounds that writes into blocks of its own; wire.groups and PutInt at any number.
-/
import Derived.Test.YtnajpjnnlocfgaaGreatDoorJ13
import Derived.Laws.Bits64b
set_option linter.unusedSimpArgs false
set_option linter.unusedVariables false
namespace Go.Proofs.YtnajpjnnlocfgaaGreatDoor
open Go.RowKit Go.Shelf
def SeqWr (n:Nat) (P:Program) (g:Nat) (lb:Array Value) (N:Nat) (S:Nat→Prop) (C:World→Prop) (vals:Nat→Array Value):Prop:=
  ∀ (l:Nat) (J:Nat→World→Prop) (W:World),(∀ k A B,J k A→ExtS S A B→J k B) →
    (∀ k W1,k<N→J k W1→YieldAt Fence.wide (n-1) P l (vals k) W1 fun e W'=>e=.returned (.bool true)∧J (k+1) W'∧∀ j,S j→j<W1.heap.size→W'.heap[j]? = W1.heap[j]?)→J 0 W→C W →
    CallsIn Fence.wide n P g (#[.func (.yield l) #[] #[]]++lb) W fun e W'=>(∃ v,e=.returned v)∧J N W'
def WrPost (B:Nat) (S:Nat→Prop) (I1:World→Prop) (W:World):Exit→Act→World→Prop
  | .normal,_,W'=>KeepsFrom B W W'∧I1 W'∧∀ j,S j→j<W.heap.size→W'.heap[j]? = W.heap[j]?
  | _,_,_=>False
theorem wpIn_wr {n:Nat} {P:Program} {g:Operand} {ps:Array Tmp} {assign body:Code} {Q:Exit→Act→World→Prop} {a:Act} {w:World}
    (h1:1≤n) {gf:Nat} {lb:Array Value} (hg:a.eval g=.func (.func gf) #[] lb) (eg:∀ args w,(callFunc gf args).run P w=.ok (.enter gf args) w)
    {N:Nat} {S:Nat→Prop} {C:World→Prop} {vals:Nat→Array Value} (hseq:SeqWr (n-1) P gf lb N S C vals) (hS:∀ j,S j→j<w.heap.size) (hps:∀ k,(vals k).size=ps.size)
    (I:Nat→World→Prop) (hI:∀ k,OwnP w.heap.size (I k)) (hIS:∀ k A B,I k A→ExtS S A B→I k B) (hCw:∀ W,Below w.heap.size w W→C W) (h0:I 0 w)
    (Fr:Nat→Act)
    (hassign:∀ (l k:Nat) (W:World) (K:Act→World→Prop),K (Fr k) W →
      assign.wpIn (Fence.wide.inRound l) (n-1-1) P (Exit.then K (fun _ _ _=>False)) { tmps:=(ps.zip (vals k)).foldl (fun t (p,v)=>t.setIfInBounds p v) a.tmps,defers:=[] } W)
    (hbody:∀ (l k:Nat) (W:World),k<N→w.heap.size≤W.heap.size→I k W→body.wpIn (Fence.wide.inRound l) (n-1-1) P (WrPost w.heap.size S (I (k+1)) W) (Fr k) W)
    (hdone:∀ (D:Nat) (W:World),w.heap.size≤D→I N W→W.heap[D]? = some (.deferred (some []))→Q .normal { a with defers:={ target:=.collected D,args:=#[] }::a.defers } W) :
    (Code.rangeFunc g ps assign body).wpIn Fence.wide n P Q a w:=by
  refine wpIn_rangeFunc ?_
  intro fn hfn
  obtain ⟨rec,hrec⟩:∃ rec:LoopState→Option Code→Loop,rec=fun st pe=>{ state:=st,pending:=pe,fn,tmps:=a.tmps,params:=ps,assign,body,defers:=w.heap.size }:=⟨_,rfl⟩
  obtain ⟨W1,hW1⟩:∃ W1,(w.alloc (.deferred (some []))).alloc (.loop (rec .ready none))=W1:=⟨_,rfl⟩
  have hL1:W1.heap[w.heap.size+1]? = some (.loop (rec .ready none)):=by
    rw [← hW1,← World.size_alloc w (.deferred (some []))];exact World.alloc_heap_new _ _
  have hD1:W1.heap[w.heap.size]? = some (.deferred (some [])):=by
    rw [← hW1];exact (Below.heap_alloc _ _ _ (by simp)).trans (World.alloc_heap_new w _)
  have hE1:Below w.heap.size w W1:=by rw [← hW1];exact ext_alloc (ext_new _ _) _
  have hs1:w.heap.size+1<W1.heap.size:=(Array.getElem?_eq_some_iff.1 hL1).1
  refine ⟨w.heap.size+1,[{ target:=.collected w.heap.size,args:=#[] }],W1,{ target:=.fn (.func gf) lb,args:=#[.func (.yield (w.heap.size+1)) #[] #[]] },W1,gf,
    #[.func (.yield (w.heap.size+1)) #[] #[]]++lb,W1,?_,?_,fun _ _=>trivial,?_,fun _=>h1,?_⟩
  · rw [← hW1,hrec];exact run_enterLoop_outer _ _ _ _ _
  · simp only [resolve,hg]
    simp [go_sem]
  · simp [invoke,go_sem,eg]
  let J:Nat→World→Prop:=fun k W=>I k W∧w.heap.size+1<W.heap.size∧W.heap[w.heap.size+1]? = some (.loop (rec .ready none))∧W.heap[w.heap.size]? = some (.deferred (some []))
  have hnS:∀ j,w.heap.size≤j→¬ S j:=fun j hj h=>by have:=hS j h;omega
  refine (hseq (w.heap.size+1) J W1 (fun k A B h hb=>⟨hIS k A B h.1 hb,Nat.lt_of_lt_of_le h.2.1 hb.size,(hb.block _ h.2.1 (hnS _ (by omega))).trans h.2.2.1,(hb.block _ (by have:=h.2.1;omega) (hnS _ (by omega))).trans h.2.2.2⟩) ?_ ⟨(hI 0).abide h0 hE1,hs1,hL1,hD1⟩ (hCw W1 hE1)).mono ?_
  · rintro k W hk ⟨hi,hlt,hl,hd⟩
    have hy:=run_yield (P:=P) (args:=vals k) hl (by rw [hrec];exact hps k)
    rw [hrec] at hy
    refine ⟨fn,_,assign,body,hy,roundIn_of_wpIn hfn (hassign _ k W _ ?_)⟩
    refine ⟨_,run_beginRound hl (by rw [hrec]),?_⟩
    have hlb:(W.putObj (w.heap.size+1) (.loop { rec .ready none with state:=.busy })).heap[w.heap.size+1]? = some (.loop { rec .ready none with state:=.busy }):=World.putObj_heap_same hlt
    have hdb:(W.putObj (w.heap.size+1) (.loop { rec .ready none with state:=.busy })).heap[w.heap.size]? = some (.deferred (some [])):=(World.putObj_heap_other (by omega)).trans hd
    refine wpIn_mono (hbody _ k _ hk (by simp;omega) (OwnFrom.putObj (s:=()) (hI k) _ hi (by omega) hl rfl)) ?_
    rintro e a3 W3 hp
    cases e with
    | normal=>
      obtain ⟨hk3,hi3,hS3⟩:=hp
      have hl3:=hk3.same _ _ (by omega) hlb rfl
      have hd3:=hk3.same _ _ (Nat.le_refl _) hdb rfl
      have hlt3:w.heap.size+1<W3.heap.size:=(Array.getElem?_eq_some_iff.1 hl3).1
      have hr:=run_endRound (P:=P) none hl3
      refine ⟨_,_,hr,rfl,⟨OwnFrom.putObj (s:=()) (hI (k+1)) _ hi3 (by omega) hl3 rfl,by simpa using hlt3,?_,(World.putObj_heap_other (by omega)).trans hd3⟩,fun j hj hjs=>?_⟩
      · rw [hrec]
        exact World.putObj_heap_same hlt3
      · have hne:w.heap.size+1≠j:=fun e=>hnS j (by omega) hj
        rw [World.putObj_heap_other hne.symm,hS3 j hj (by simpa using hjs),World.putObj_heap_other hne.symm]
    | _=>exact hp.elim
  · rintro e W2 ⟨⟨v,rfl⟩,hi,_,hl,hd⟩
    exact ⟨none,_,by have:=run_endLoop (P:=P) hl (by rw [hrec];simp);rw [hrec] at this;exact this,hdone _ _ (Nat.le_refl _) (OwnFrom.putObj (s:=()) (hI N) _ hi (by omega) hl rfl) ((World.putObj_heap_other (by omega)).trans hd)⟩
def grpN (z:Nat):Nat→Nat:=fun k=>z / 128 ^ k % 128
def grpL:Nat→Nat→Nat
  | 0,_=>0
  | f+1,z=>if z<128 then 0 else grpL f (z / 128)+1
theorem grpL_lt (f z k:Nat) (h:z<128 ^ (f+1)):k<grpL f z↔128≤z / 128 ^ k∧k<grpL f z:=by
  induction f generalizing z k with
  | zero=>simp [grpL]
  | succ f ih=>
    unfold grpL
    by_cases hz:z<128
    · rw [if_pos hz];omega
    · rw [if_neg hz]
      cases k with
      | zero=>simp;omega
      | succ k=>
        have h1:z / 128<128 ^ (f+1):=by
          rw [Nat.div_lt_iff_lt_mul (by omega)]
          rw [Nat.pow_succ] at h
          exact h
        have h2:=ih (z / 128) k h1
        rw [Nat.pow_succ',← Nat.div_div_eq_div_mul]
        omega
theorem grpL_end (f z:Nat) (h:z<128 ^ (f+1)):z / 128 ^ grpL f z<128:=by
  induction f generalizing z with
  | zero=>simpa [grpL] using h
  | succ f ih=>
    unfold grpL
    by_cases hz:z<128
    · rw [if_pos hz];simpa using hz
    · rw [if_neg hz]
      have h1:z / 128<128 ^ (f+1):=by
        rw [Nat.div_lt_iff_lt_mul (by omega)]
        rw [Nat.pow_succ] at h
        exact h
      rw [Nat.pow_succ',← Nat.div_div_eq_div_mul]
      exact ih _ h1
theorem grpL_le (f z:Nat):grpL f z≤f:=by
  induction f generalizing z with
  | zero=>simp [grpL]
  | succ f ih=>
    unfold grpL
    split
    · omega
    · have:=ih (z / 128);omega
end Go.Proofs.YtnajpjnnlocfgaaGreatDoor
