/-
  package logtree: all as an iterator, leaves.
-/
import Derived.Test.YtbgfmbmcabekeaaGreatDoorJ5
set_option linter.unusedSimpArgs false
set_option linter.unusedVariables false

namespace Go.Proofs.YtbgfmbmcabekeaaGreatDoor
open Go.RowKit Go.Shelf
attribute [local go_sem] run_semAt
attribute [local go_sem high] app_sem

theorem wpIn_mem_str {n : Nat} {P : Program} {g : Operand} {ps : Array Tmp} {assign body : Code} {Q : Exit → Act → World → Prop} {a : Act} {w : World}
    (h1 : 1 ≤ n) {gf : Nat} {lb : Array Value} (hg : a.eval g = .func (.func gf) #[] lb) (eg : ∀ args w, (callFunc gf args).run P w = .ok (.enter gf args) w)
    {N : Nat} {C : World → Prop} (enc : Nat → ByteArray) (hseq : SeqMem (n - 1) P gf lb N C (fun k xs _ => xs = #[.string (enc k)])) (hps : ps.size = 1)
    (I : Nat → World → Prop) (hI : ∀ k, OwnP w.heap.size (I k)) (hC : ∀ k W, I k W → C W) (h0 : I 0 w) (Fr : ByteArray → Act)
    (hassign : ∀ (l : Nat) (s : ByteArray) (W : World) (K : Act → World → Prop), K (Fr s) W →
      assign.wpIn (Fence.wide.inRound l) (n - 1 - 1) P (Exit.then K (fun _ _ _ => False)) { tmps := (ps.zip #[.string s]).foldl (fun t (p, v) => t.setIfInBounds p v) a.tmps, defers := [] } W)
    (hbody : ∀ (l k : Nat) (s : ByteArray) (W : World), k < N → s = enc k → w.heap.size ≤ W.heap.size → I k W → body.wpIn (Fence.wide.inRound l) (n - 1 - 1) P (OncePost w.heap.size (I (k + 1)) W) (Fr s) W)
    (hdone : ∀ (D : Nat) (W : World), w.heap.size ≤ D → I N W → W.heap[D]? = some (.deferred (some [])) → Q .normal { a with defers := { target := .collected D, args := #[] } :: a.defers } W) :
    (Code.rangeFunc g ps assign body).wpIn Fence.wide n P Q a w :=
  wpIn_mem h1 hg eg hseq (fun k xs W h => by rw [h, hps]; rfl) I hI hC h0 (fun k a' _ => a' = Fr (enc k)) (fun _ _ => OwnP.pure _)
    (fun l k xs W K _ _ hI' hm hK => by subst hm; exact hassign l (enc k) W K (hK _ _ (KeepsFrom.refl _ _) hI' rfl))
    (fun l k a' W hk hsz hI' hA => by subst hA; exact hbody l k (enc k) W hk rfl hsz hI') hdone

/-- a log with its blocks named -/
def LogB (W : World) (one : Bool) (gl gh : Nat) (A : Option Addr) (n c cap : Nat) (zs : Array Value) (z s0 c1 s1 : ByteArray) : Prop :=
  if one then Blk W gl 144 #[.slice A n c, .slice (some ⟨gh, 0, none⟩) 2 cap] ∧ Blk W gh 86 (#[.int .i64 0, .string z, .string s0, .int .i64 1, .string c1, .string s1] ++ zs)
  else Blk W gl 144 #[.slice A n c, .slice (some ⟨gh, 0, none⟩) 1 cap] ∧ Blk W gh 86 (#[.int .i64 0, .string z, .string s0])
theorem LogB.ext {w W : World} {one : Bool} {gl gh n c cap : Nat} {A : Option Addr} {zs : Array Value} {z s0 c1 s1 : ByteArray} (h : LogB w one gl gh A n c cap zs z s0 c1 s1) (k : Below w.heap.size w W) : LogB W one gl gh A n c cap zs z s0 c1 s1 := by
  unfold LogB at *
  cases one
  · exact ⟨h.1.ext k, h.2.ext k⟩
  · exact ⟨h.1.ext k, h.2.ext k⟩
theorem LogB.own {B : Nat} {one : Bool} {gl gh n c cap : Nat} {A : Option Addr} {zs : Array Value} {z s0 c1 s1 : ByteArray} : OwnP B (fun W => LogB W one gl gh A n c cap zs z s0 c1 s1) := by
  unfold LogB
  cases one
  · exact OwnP.and OwnP.blk OwnP.blk
  · exact OwnP.and OwnP.blk OwnP.blk
def AllPost (N : Nat) (J : Nat → World → Prop) (e : Ending) (W' : World) : Prop := (∃ v, e = .returned v) ∧ J N W'

set_option maxHeartbeats 400000 in
theorem all_iter (gl : Nat) (w : World) :
    Calls Tryz.prog 142 #[.pointer (some ⟨gl, 0, none⟩)] w fun e w' =>
      e = .returned (.func (.func 183) #[] #[.pointer (some ⟨w.heap.size, 0, none⟩)]) ∧ w.alloc (.cells #[.pointer (some ⟨gl, 0, none⟩)] 96) = w' := by
  have hmf : ∀ (fn : Fn) (first cap : Array Value) (w : World), (Instr.makeFunc fn first cap).run Tryz.prog w = .ok (.func fn first cap) w := fun _ _ _ _ => rfl
  go_enter Tryz.func142, Tryz.ntmps142
  go_wp2
  go_ret
  exact ⟨rfl, rfl⟩

/-- what is known between two rounds -/
def LvI (es : List ByteArray) (one : Bool) (w : World) (gl gh : Nat) (A : Option Addr) (m c cap : Nat) (zs : Array Value) (z s0 c1 s1 : ByteArray) (k : Nat) (W : World) : Prop :=
  (∃ v, Boxed W w.heap.size 89 v ∧ W.ownsRow w.heap.size 9 1 v k ((es.take k).map Value.string) ∧ True) ∧ Below w.heap.size w W ∧ Blk W (w.heap.size + 1) 96 #[.pointer (some ⟨gl, 0, none⟩)] ∧ LogB W one gl gh A m c cap zs z s0 c1 s1
theorem LvI.own (es : List ByteArray) (one : Bool) (w : World) (gl gh : Nat) (A : Option Addr) (m c cap : Nat) (zs : Array Value) (z s0 c1 s1 : ByteArray) (k B : Nat) (hB : w.heap.size ≤ B) : OwnP B (LvI es one w gl gh A m c cap zs z s0 c1 s1 k) :=
  OwnP.and (Own.from (holdsRow_own w.heap.size w.heap.size 89 9 1 (fun _ : Unit => k) (fun _ : Unit => (es.take k).map Value.string) (fun _ _ => True)) B)
    (OwnP.and (OwnP.below (Nat.le_refl _) hB) (OwnP.and OwnP.blk LogB.own))

end Go.Proofs.YtbgfmbmcabekeaaGreatDoor
