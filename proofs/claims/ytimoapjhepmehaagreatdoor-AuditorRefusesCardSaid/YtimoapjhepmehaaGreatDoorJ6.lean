/-
  Part 6 of 17: the contracts that the proof of the last part uses; each stands under its own head.
-/
import Derived.Test.YtimoapjhepmehaaGreatDoorJ2
import Derived.Test.YtimoapjhepmehaaGreatDoorJ3
import Derived.Test.YtimoapjhepmehaaGreatDoorJ4
import Derived.Test.YtimoapjhepmehaaGreatDoorJ5
import Derived.Stop.RegionWithIn
set_option linter.unusedSimpArgs false
set_option linter.unusedVariables false

/-
  A range over an iterator that comes to one round: one law.
-/
namespace Go.Proofs.YtimoapjhepmehaaGreatDoor
open Go.RowKit Go.Shelf

/-- an iterator that hands out one row of values, once -/
def SeqOnce (n : Nat) (P : Program) (g : Nat) (lb vals : Array Value) (w : World) : Prop :=
  SeqStopsK Fence.wide n P g lb (fun _ : Unit => vals) (fun _ _ => True) (fun ys => ys = [()]) (fun _ => True) 1 w

def OncePost (B : Nat) (I1 : World → Prop) (W : World) : Exit → Act → World → Prop
  | .normal, _, W' => KeepsFrom B W W' ∧ I1 W'
  | _, _, _ => False

def pick2 (I0 I1 : World → Prop) : List Unit → World → Prop
  | [], W => I0 W
  | _ :: _, W => I1 W

def OwnP (B : Nat) (I : World → Prop) : Prop := OwnFrom B (fun (_ : Unit) W => I W)
theorem OwnP.and {B : Nat} {I J : World → Prop} (h : OwnP B I) (k : OwnP B J) : OwnP B (fun W => I W ∧ J W) := OwnFrom.and h k
theorem OwnP.below {B B0 : Nat} {w : World} (h : B0 ≤ w.heap.size) (hB : B0 ≤ B) : OwnP B (fun W => Below B0 w W) :=
  fun _ _ _ _ hs hg hr => hs.grown hg (Nat.le_trans h hs.size) (fun k e => Nat.le_trans hB (hr k e).1)
theorem OwnP.blk {B g : Nat} {t : TypeId} {cs : Array Value} : OwnP B (fun W => Blk W g t cs) := fun _ X Y row hs hg hr =>
  (hg.block _ hs.lt (fun e => by
      obtain ⟨_, o, ho, hc⟩ := hr _ e.symm
      have h1 := hs
      unfold Blk at h1
      rw [h1] at ho
      cases ho
      cases hc)).trans hs
theorem OwnP.round {B : Nat} : OwnP B RoundOK := fun _ X Y row hs hg hr j v hv => cell_kept (hs j v hv) hg (fun r e => (hr r e).2)
theorem OwnP.pure {B : Nat} (p : Prop) : OwnP B (fun _ => p) := fun _ _ _ _ hs _ _ => hs
theorem OwnP.cell {B : Nat} {p : Addr} {v : Value} : OwnP B (fun W => W.cell? p = some v) := fun _ X Y row hs hg hr => cell_kept hs hg (fun r e => (hr r e).2)

theorem wpIn_once {n : Nat} {P : Program} {g : Operand} {ps : Array Tmp} {assign body : Code} {Q : Exit → Act → World → Prop} {a : Act} {w : World}
    (h1 : 1 ≤ n) {gf : Nat} {lb : Array Value} (hg : a.eval g = .func (.func gf) #[] lb) (eg : ∀ args w, (callFunc gf args).run P w = .ok (.enter gf args) w)
    {vals : Array Value} (hseq : SeqOnce (n - 1) P gf lb vals w) (hps : vals.size = ps.size)
    (I0 I1 : World → Prop) (hI0 : OwnP w.heap.size I0) (hI1 : OwnP w.heap.size I1) (h0 : I0 w)
    (Ax : Act → World → Prop) (hAx : ∀ a', OwnP w.heap.size (Ax a'))
    (hassign : ∀ (I : World → Prop), OwnP w.heap.size I → ∀ (l : Nat) (W : World) (K : Act → World → Prop), w.heap.size ≤ W.heap.size → I W → (∀ a' W', KeepsFrom w.heap.size W W' → I W' → Ax a' W' → K a' W') →
      assign.wpIn (Fence.wide.inRound l) (n - 1 - 1) P (Exit.then K (fun _ _ _ => False)) { tmps := (ps.zip vals).foldl (fun t (p, v) => t.setIfInBounds p v) a.tmps, defers := [] } W)
    (hbody : ∀ (l : Nat) (a' : Act) (W : World), w.heap.size ≤ W.heap.size → I0 W → Ax a' W → body.wpIn (Fence.wide.inRound l) (n - 1 - 1) P (OncePost w.heap.size I1 W) a' W)
    (hdone : ∀ (D : Nat) (W : World), w.heap.size ≤ D → I1 W → W.heap[D]? = some (.deferred (some [])) → Q .normal { a with defers := { target := .collected D, args := #[] } :: a.defers } W) :
    (Code.rangeFunc g ps assign body).wpIn Fence.wide n P Q a w := by
  have hIs : ∀ s : List Unit, OwnP w.heap.size (fun W => pick2 I0 I1 s W ∧ w.heap.size ≤ W.heap.size) := fun s _ X Y row hs hg hr =>
    match s, hs with
    | [], hs => ⟨hI0 () X Y row hs.1 hg hr, Nat.le_trans hs.2 hg.size⟩
    | _ :: _, hs => ⟨hI1 () X Y row hs.1 hg hr, Nat.le_trans hs.2 hg.size⟩
  refine wpIn_rangeFunc_ownH (F := Fence.wide) rfl h1 hg trivial eg hseq (fun _ _ => trivial) (fun _ _ _ _ _ _ _ _ => trivial) (Below.refl _ _) (fun _ => hps) (fun pre W => pick2 I0 I1 pre W ∧ w.heap.size ≤ W.heap.size) (fun _ _ _ => False)
    (fun s X Y row hs hg hr => hIs s () X Y row hs hg hr) (fun _ _ _ _ _ hs _ _ => hs) ⟨h0, Nat.le_refl _⟩ (fun _ a' W => Ax a' W) (fun _ a' => hAx a') ?_ ?_ ?_ ?_
  · intro l pre x W K hI hK
    exact hassign _ (hIs pre) l W K hI.2 hI (fun a' W' hk h0' hx => hK a' W' hk trivial h0' hx)
  · intro l pre x a' W _ _ hI hx hlen
    match pre, hI, hlen with
    | [], hI, _ =>
      refine wpIn_mono (hbody l a' W hI.2 hI.1 hx) ?_
      rintro e a3 W3 hp
      cases e with
      | normal => exact ⟨hp.1, trivial, hp.2, Nat.le_trans hI.2 hp.1.size⟩
      | _ => exact hp.elim
    | _ :: _, _, hlen => simp at hlen
  · intro D xs W hD hS hI hK
    subst hS
    exact hdone D W hD hI.1 hK
  · intro D c pre W _ _ h _
    exact h.elim

/-- the loop's variables are slots -/
theorem wpIn_once_plain {n : Nat} {P : Program} {g : Operand} {ps : Array Tmp} {assign body : Code} {Q : Exit → Act → World → Prop} {a : Act} {w : World}
    (h1 : 1 ≤ n) {gf : Nat} {lb : Array Value} (hg : a.eval g = .func (.func gf) #[] lb) (eg : ∀ args w, (callFunc gf args).run P w = .ok (.enter gf args) w)
    {vals : Array Value} (hseq : SeqOnce (n - 1) P gf lb vals w) (hps : vals.size = ps.size)
    (I0 I1 : World → Prop) (hI0 : OwnP w.heap.size I0) (hI1 : OwnP w.heap.size I1) (h0 : I0 w) (Fr : Act)
    (hassign : ∀ (l : Nat) (W : World) (K : Act → World → Prop), K Fr W →
      assign.wpIn (Fence.wide.inRound l) (n - 1 - 1) P (Exit.then K (fun _ _ _ => False)) { tmps := (ps.zip vals).foldl (fun t (p, v) => t.setIfInBounds p v) a.tmps, defers := [] } W)
    (hbody : ∀ (l : Nat) (W : World), w.heap.size ≤ W.heap.size → I0 W → body.wpIn (Fence.wide.inRound l) (n - 1 - 1) P (OncePost w.heap.size I1 W) Fr W)
    (hdone : ∀ (D : Nat) (W : World), w.heap.size ≤ D → I1 W → W.heap[D]? = some (.deferred (some [])) → Q .normal { a with defers := { target := .collected D, args := #[] } :: a.defers } W) :
    (Code.rangeFunc g ps assign body).wpIn Fence.wide n P Q a w :=
  wpIn_once h1 hg eg hseq hps I0 I1 hI0 hI1 h0 (fun a' _ => a' = Fr) (fun _ => OwnP.pure _) (fun I _ l W K _ hI hK => hassign l W K (hK _ _ (KeepsFrom.refl _ _) hI rfl))
    (fun l a' W hsz hI ha => by subst ha; exact hbody l W hsz hI) hdone

/-- the loop's variable is a box of t, which the round makes -/
theorem wpIn_once_box {n : Nat} {P : Program} {g : Operand} {ps : Array Tmp} {assign body : Code} {Q : Exit → Act → World → Prop} {a : Act} {w : World}
    (h1 : 1 ≤ n) {gf : Nat} {lb : Array Value} (hg : a.eval g = .func (.func gf) #[] lb) (eg : ∀ args w, (callFunc gf args).run P w = .ok (.enter gf args) w)
    {vals : Array Value} (hseq : SeqOnce (n - 1) P gf lb vals w) (hps : vals.size = ps.size)
    (I0 I1 : World → Prop) (hI0 : OwnP w.heap.size I0) (hI1 : OwnP w.heap.size I1) (h0 : I0 w) (t : TypeId) (cs : Array Value) (Fr : Nat → Act)
    (hassign : ∀ (l h : Nat) (W : World) (K : Act → World → Prop), h = W.heap.size → K (Fr h) (W.alloc (.cells cs t)) →
      assign.wpIn (Fence.wide.inRound l) (n - 1 - 1) P (Exit.then K (fun _ _ _ => False)) { tmps := (ps.zip vals).foldl (fun t (p, v) => t.setIfInBounds p v) a.tmps, defers := [] } W)
    (hbody : ∀ (l h : Nat) (W : World), w.heap.size ≤ W.heap.size → w.heap.size ≤ h → Blk W h t cs → I0 W → body.wpIn (Fence.wide.inRound l) (n - 1 - 1) P (OncePost w.heap.size I1 W) (Fr h) W)
    (hdone : ∀ (D : Nat) (W : World), w.heap.size ≤ D → I1 W → W.heap[D]? = some (.deferred (some [])) → Q .normal { a with defers := { target := .collected D, args := #[] } :: a.defers } W) :
    (Code.rangeFunc g ps assign body).wpIn Fence.wide n P Q a w :=
  wpIn_once h1 hg eg hseq hps I0 I1 hI0 hI1 h0 (fun a' W => ∃ h, w.heap.size ≤ h ∧ a' = Fr h ∧ Blk W h t cs)
    (fun a' _ X Y row hs hg hr => by
      obtain ⟨h, hh, ha, hB⟩ := hs
      exact ⟨h, hh, ha, OwnP.blk (B := w.heap.size) () X Y row hB hg hr⟩)
    (fun I hO l W K hsz hI hK => hassign l W.heap.size W K rfl (hK _ _ ((KeepsOthers.alloc W _).from _) (OwnFrom.alloc (s := ()) hO _ hI) ⟨_, hsz, rfl, Blk.new _ _ _⟩))
    (fun l a' W hsz hI hA => by
      obtain ⟨h, hh, rfl, hB⟩ := hA
      exact hbody l h W hsz hh hB hI) hdone

end Go.Proofs.YtimoapjhepmehaaGreatDoor

/-
  A range over an iterator of N rounds whose values may lie in memory that the iterator makes: one law.
-/
namespace Go.Proofs.YtimoapjhepmehaaGreatDoor
open Go.RowKit Go.Shelf

/-- an iterator of N rounds: C is what it reads, M k says of the k-th values where they lie -/
def SeqMem (n : Nat) (P : Program) (g : Nat) (lb : Array Value) (N : Nat) (C : World → Prop) (M : Nat → Array Value → World → Prop) : Prop :=
  ∀ (l : Nat) (J : Nat → World → Prop) (W : World), (∀ k W, J k W → C W) → (∀ k A B, J k A → Below A.heap.size A B → J k B) →
    (∀ k xs W1, k < N → J k W1 → M k xs W1 → YieldAt Fence.wide (n - 1) P l xs W1 fun e W' => e = .returned (.bool true) ∧ J (k + 1) W') → J 0 W →
    CallsIn Fence.wide n P g (#[.func (.yield l) #[] #[]] ++ lb) W fun e W' => (∃ v, e = .returned v) ∧ J N W'

theorem below_grown {A B : World} (h : Below A.heap.size A B) : A.grownBy B none := ⟨h.os, h.tape, h.output, h.size, fun k hk _ => h.block k hk⟩
theorem OwnP.abide {B : Nat} {I : World → Prop} (h : OwnP B I) {X Y : World} (hs : I X) (hb : Below X.heap.size X Y) : I Y := h () X Y none hs (below_grown hb) (fun r e => by cases e)
theorem OwnP.map {B g c : Nat} {es : Array MapEntry} (hg : g < B) : OwnP B (fun W => MapAt W g es c) := fun _ X Y row hs hgr hr =>
  (hgr.block _ hs.lt (fun e => by have := (hr _ e.symm).1; omega)).trans hs

theorem wpIn_mem {n : Nat} {P : Program} {g : Operand} {ps : Array Tmp} {assign body : Code} {Q : Exit → Act → World → Prop} {a : Act} {w : World}
    (h1 : 1 ≤ n) {gf : Nat} {lb : Array Value} (hg : a.eval g = .func (.func gf) #[] lb) (eg : ∀ args w, (callFunc gf args).run P w = .ok (.enter gf args) w)
    {N : Nat} {C : World → Prop} {M : Nat → Array Value → World → Prop} (hseq : SeqMem (n - 1) P gf lb N C M) (hps : ∀ k xs W, M k xs W → xs.size = ps.size)
    (I : Nat → World → Prop) (hI : ∀ k, OwnP w.heap.size (I k)) (hC : ∀ k W, I k W → C W) (h0 : I 0 w)
    (Ax : Nat → Act → World → Prop) (hAx : ∀ k a', OwnP w.heap.size (Ax k a'))
    (hassign : ∀ (l k : Nat) (xs : Array Value) (W : World) (K : Act → World → Prop), k < N → w.heap.size ≤ W.heap.size → I k W → M k xs W → (∀ a' W', KeepsFrom w.heap.size W W' → I k W' → Ax k a' W' → K a' W') →
      assign.wpIn (Fence.wide.inRound l) (n - 1 - 1) P (Exit.then K (fun _ _ _ => False)) { tmps := (ps.zip xs).foldl (fun t (p, v) => t.setIfInBounds p v) a.tmps, defers := [] } W)
    (hbody : ∀ (l k : Nat) (a' : Act) (W : World), k < N → w.heap.size ≤ W.heap.size → I k W → Ax k a' W → body.wpIn (Fence.wide.inRound l) (n - 1 - 1) P (OncePost w.heap.size (I (k + 1)) W) a' W)
    (hdone : ∀ (D : Nat) (W : World), w.heap.size ≤ D → I N W → W.heap[D]? = some (.deferred (some [])) → Q .normal { a with defers := { target := .collected D, args := #[] } :: a.defers } W) :
    (Code.rangeFunc g ps assign body).wpIn Fence.wide n P Q a w := by
  refine wpIn_rangeFunc ?_
  intro fn hfn
  obtain ⟨rec, hrec⟩ : ∃ rec : LoopState → Option Code → Loop, rec = fun st pe => { state := st, pending := pe, fn, tmps := a.tmps, params := ps, assign, body, defers := w.heap.size } := ⟨_, rfl⟩
  obtain ⟨W1, hW1⟩ : ∃ W1, (w.alloc (.deferred (some []))).alloc (.loop (rec .ready none)) = W1 := ⟨_, rfl⟩
  have hL1 : W1.heap[w.heap.size + 1]? = some (.loop (rec .ready none)) := by
    rw [← hW1, ← World.size_alloc w (.deferred (some []))]; exact World.alloc_heap_new _ _
  have hD1 : W1.heap[w.heap.size]? = some (.deferred (some [])) := by
    rw [← hW1]; exact (Below.heap_alloc _ _ _ (by simp)).trans (World.alloc_heap_new w _)
  have hE1 : Below w.heap.size w W1 := by rw [← hW1]; exact ext_alloc (ext_new _ _) _
  have hs1 : w.heap.size + 1 < W1.heap.size := (Array.getElem?_eq_some_iff.1 hL1).1
  refine ⟨w.heap.size + 1, [{ target := .collected w.heap.size, args := #[] }], W1, { target := .fn (.func gf) lb, args := #[.func (.yield (w.heap.size + 1)) #[] #[]] }, W1, gf,
    #[.func (.yield (w.heap.size + 1)) #[] #[]] ++ lb, W1, ?_, ?_, fun _ _ => trivial, ?_, fun _ => h1, ?_⟩
  · rw [← hW1, hrec]; exact run_enterLoop_outer _ _ _ _ _
  · simp only [resolve, hg]
    simp [go_sem]
  · simp [invoke, go_sem, eg]
  let J : Nat → World → Prop := fun k W => I k W ∧ w.heap.size + 1 < W.heap.size ∧ W.heap[w.heap.size + 1]? = some (.loop (rec .ready none)) ∧ W.heap[w.heap.size]? = some (.deferred (some []))
  refine (hseq (w.heap.size + 1) J W1 (fun k W h => hC k W h.1) (fun k A B h hb => ⟨(hI k).abide h.1 hb, Nat.lt_of_lt_of_le h.2.1 hb.size, heap_ext h.2.2.1 hb, heap_ext h.2.2.2 hb⟩) ?_ ⟨(hI 0).abide h0 hE1, hs1, hL1, hD1⟩).mono ?_
  · rintro k xs W hk ⟨hi, hlt, hl, hd⟩ hm
    have hy := run_yield (P := P) (args := xs) hl (by rw [hrec]; exact hps k xs W hm)
    rw [hrec] at hy
    refine ⟨fn, _, assign, body, hy, roundIn_of_wpIn hfn (hassign _ k xs W _ hk (by omega) hi hm ?_)⟩
    intro a' Wa hka hia hax
    have hla := hka.same _ _ (by omega) hl rfl
    have hda := hka.same _ _ (Nat.le_refl _) hd rfl
    have hlta : w.heap.size + 1 < Wa.heap.size := (Array.getElem?_eq_some_iff.1 hla).1
    refine ⟨_, run_beginRound hla (by rw [hrec]), ?_⟩
    have hlb : (Wa.putObj (w.heap.size + 1) (.loop { rec .ready none with state := .busy })).heap[w.heap.size + 1]? = some (.loop { rec .ready none with state := .busy }) := World.putObj_heap_same hlta
    have hdb : (Wa.putObj (w.heap.size + 1) (.loop { rec .ready none with state := .busy })).heap[w.heap.size]? = some (.deferred (some [])) := (World.putObj_heap_other (by omega)).trans hda
    refine wpIn_mono (hbody _ k a' _ hk (by simp; omega) (OwnFrom.putObj (s := ()) (hI k) _ hia (by omega) hla rfl) (OwnFrom.putObj (s := ()) (hAx k a') _ hax (by omega) hla rfl)) ?_
    rintro e a3 W3 hp
    cases e with
    | normal =>
      obtain ⟨hk3, hi3⟩ := hp
      have hl3 := hk3.same _ _ (by omega) hlb rfl
      have hd3 := hk3.same _ _ (Nat.le_refl _) hdb rfl
      have hlt3 : w.heap.size + 1 < W3.heap.size := (Array.getElem?_eq_some_iff.1 hl3).1
      have hr := run_endRound (P := P) none hl3
      refine ⟨_, _, hr, rfl, OwnFrom.putObj (s := ()) (hI (k + 1)) _ hi3 (by omega) hl3 rfl, by simpa using hlt3, ?_, (World.putObj_heap_other (by omega)).trans hd3⟩
      rw [hrec]
      exact World.putObj_heap_same hlt3
    | _ => exact hp.elim
  · rintro e W2 ⟨⟨v, rfl⟩, hi, _, hl, hd⟩
    exact ⟨none, _, by have := run_endLoop (P := P) hl (by rw [hrec]; simp); rw [hrec] at this; exact this, hdone _ _ (Nat.le_refl _) (OwnFrom.putObj (s := ()) (hI N) _ hi (by omega) hl rfl) ((World.putObj_heap_other (by omega)).trans hd)⟩

end Go.Proofs.YtimoapjhepmehaaGreatDoor

/-
  package statetree: orderOf, orders, summaries, Root, at a state of no row and of the law's own row.
-/
namespace Go.Proofs.YtimoapjhepmehaaGreatDoor
open Go.RowKit
attribute [local go_sem ↓] Go.wp_at_zero Go.wp_at_succ

def rowEnc : ByteArray := encS [0, 5, 10, 20, 30]
theorem rowEnc_size : rowEnc.size = 5 := by unfold rowEnc; rw [encS_size]; rfl
theorem rowEncode' (w : World) : Calls Tryz.prog 105 #[.agg #[.int .i64 0, .int .i64 5, .int .i64 10, .int .i64 20, .int .i64 30]] w fun e w' => e = .returned (.tuple #[.string rowEnc, .int .i64 0]) ∧ Below w.heap.size w w' := rowEncode w
/-- the rows of an order, and their encodings -/
def ents (hit : Bool) : List ByteArray := if hit then [rowEnc] else []
def OrderAt (w : World) (hit : Bool) (v1 v2 : Value) : Prop := RowsAt w hit v1 ∧ Strs (fun _ => True) w v2 (ents hit)
theorem OrderAt.ext {w W : World} {hit : Bool} {v1 v2 : Value} (h : OrderAt w hit v1 v2) (k : Below w.heap.size w W) : OrderAt W hit v1 v2 := ⟨h.1.ext k, h.2.below k⟩
theorem hitF_all (t : Int) (j : Nat) (hj : j < 4) : hitF t j (-1000000000) 1000000000 = ((0 : Int) == t) := by
  have h : ∀ j : Fin 4, decide ((-1000000000 : Int) ≤ theRow.col j.1) = true ∧ decide (theRow.col j.1 ≤ (1000000000 : Int)) = true := by decide
  unfold hitF
  rw [(h ⟨j, hj⟩).1, (h ⟨j, hj⟩).2]
  simp

theorem row_cells {w : World} {g : Nat} {zs : Array Value} (h : Blk w g 67 (#[.int .i64 0, .int .i64 5, .int .i64 10, .int .i64 20, .int .i64 30] ++ zs)) : w.cell? ⟨g, 0, none⟩ = some (.int .i64 0) ∧ w.cell? ⟨g, 1, none⟩ = some (.int .i64 5) ∧ w.cell? ⟨g, 2, none⟩ = some (.int .i64 10) ∧ w.cell? ⟨g, 3, none⟩ = some (.int .i64 20) ∧ w.cell? ⟨g, 4, none⟩ = some (.int .i64 30) :=
  ⟨(h.cell 0).trans (by simp [Array.getElem?_append]), (h.cell 1).trans (by simp [Array.getElem?_append]), (h.cell 2).trans (by simp [Array.getElem?_append]), (h.cell 3).trans (by simp [Array.getElem?_append]), (h.cell 4).trans (by simp [Array.getElem?_append])⟩
theorem strs_one {w : World} {g c : Nat} {x : ByteArray} (hc : 1 ≤ c) (h : w.cell? ⟨g, 0, none⟩ = some (.string x)) : Strs (fun _ => True) w (.slice (some ⟨g, 0, none⟩) 1 c) [x] :=
  ⟨_, c, rfl, hc, fun _ => ⟨g, 0, rfl, trivial, fun j y hy => by
    match j, hy with
    | 0, hy => simp at hy; subst hy; exact h⟩⟩

set_option maxRecDepth 100000 in
set_option maxHeartbeats 1000000 in
theorem orderOf_any (one : Bool) (gs gm j : Nat) (pos t : Int) (hj : j < 4) (w : World) (hS : StateIs w one gs gm pos) :
    Calls Tryz.prog 85 #[.pointer (some ⟨gs, 0, none⟩), .int .i64 t, .int .i64 (j : Int)] w
      fun e w' => ∃ v1 v2, e = .returned (.agg #[v1, v2]) ∧ OrderAt w' (one && ((0 : Int) == t)) v1 v2 ∧ Below w.heap.size w w' := by
  have HS := Lib.hid hS
  clear hS
  obtain ⟨hit, hhit⟩ : ∃ hit, hit = (one && ((0 : Int) == t)) := ⟨_, rfl⟩
  rw [← hhit]
  have HH := Lib.hid (show (one && hitF t j (-1000000000) 1000000000) = hit by rw [hitF_all t j hj, hhit])
  clear hhit
  obtain ⟨is, his, hzs0, hzs1, hzs2⟩ := info_parts str_info
  go_enter Tryz.func85, Tryz.ntmps85
  go_wp2_with fail
  refine (range_any one gs gm j pos t _ _ hj _ (HS.out.ext (ext_new _ _))).mono ?_
  rintro e W1 ⟨v, rfl, hr1, hb1⟩
  rw [HH.out] at hr1
  have HB1 := Lib.hid ((Blk.new w 168 #[.slice none 0 0, .slice none 0 0]).ext hb1)
  have HE1 := Lib.hid (ext_call (ext_new w (.cells #[.slice none 0 0, .slice none 0 0] 168)) hb1)
  have b0 := HB1.out.cell 0
  have b1 := HB1.out.cell 1
  have f0 := HB1.out.frozen 0
  have f1 := HB1.out.frozen 1
  have bl := HB1.out.lt
  clear hb1
  rcases hr1 with ⟨rfl, rfl⟩ | ⟨rfl, g, c, zs, rfl, hc, hB⟩
  · go_wp2
    refine wp_loop_rounds 1 ?_
    rw [rounds_succ]
    go_wp2
    have hBf := ((HB1.out.set_ 0 (.slice none 0 0)).set_ 1 (.slice none 0 0)).alloc (.cells #[.slice none 0 0, .slice none 0 0] 168)
    have y0 := hBf.cell 0; have y1 := hBf.cell 1
    refine bodyPost_ret (v := .agg #[.slice none 0 0, .slice none 0 0]) (by simp [results, Tryz.results85, go_sem, y0, y1]) rfl ⟨_, _, rfl, ⟨.inl ⟨rfl, rfl⟩, Strs.nil_ _ _⟩, ?_⟩
    exact ext_alloc (ext_set (ext_set HE1.out (by simp) _) (by simp) _) _
  · have HX := Lib.hid hB
    obtain ⟨x0, x1, x2, x3, x4⟩ := row_cells hB
    have xl := hB.lt
    clear hB
    go_wp2
    refine wp_loop_rounds 2 ?_
    rw [rounds_succ]
    go_wp2_with fail
    refine (rowEncode' _).mono ?_
    rintro e W2 ⟨rfl, hb2⟩
    have HB2 := Lib.hid (((HB1.out.alloc _).alloc _).ext hb2)
    have HX2 := Lib.hid (((HX.out.alloc _).alloc _).ext hb2)
    have HO2 := Lib.hid (((Blk.new W1 168 #[.slice (some ⟨g, 0, none⟩) 1 c, .slice none 0 0]).alloc _).ext hb2)
    have HE2 := Lib.hid (ext_call (ext_alloc (ext_alloc HE1.out _) _) hb2)
    clear hb2 b0 b1 f0 f1 bl x0 x1 x2 x3 x4 xl
    have o0 := HO2.out.cell 0
    have o1 := HO2.out.cell 1
    have f1 := HO2.out.frozen 1
    have ol := HO2.out.lt
    go_wp2
    have hcap : 1 ≤ (Question.appendCap 1 0 9).cut (W2.tape W2.drawn (Question.appendCap 1 0 9)) := grownCap_ge W2 1 0 9
    revert hcap
    generalize (Question.appendCap 1 0 9).cut (W2.tape W2.drawn (Question.appendCap 1 0 9)) = cap
    intro hcap
    have hlt := HE1.out.size
    have hgl := HX2.out.lt
    have hbl := HB1.out.lt
    have hne : g ≠ W1.heap.size := by have := HX.out.lt; omega
    generalize hW3 : World.drew (World.alloc (World.alloc (W2.setCell ⟨W1.heap.size, 1, none⟩ (.slice (some ⟨W2.heap.size + 1, 0, none⟩) 1 cap)) (.cells #[.string rowEnc] 9)) (.cells (#[.string rowEnc] ++ Builtin.zeroCells #[.string ⟨#[]⟩] (cap - 1)) 9)) = W3
    have HO3 := Lib.hid (show Blk W3 W1.heap.size 168 #[.slice (some ⟨g, 0, none⟩) 1 c, .slice (some ⟨W2.heap.size + 1, 0, none⟩) 1 cap] by subst hW3; exact (((HO2.out.set_ 1 _).alloc _).alloc _).drew)
    have HB3 := Lib.hid (show Blk W3 w.heap.size 168 #[.slice none 0 0, .slice none 0 0] by subst hW3; exact (((HB2.out.far (by show _ ≠ W1.heap.size; omega) _).alloc _).alloc _).drew)
    have HX3 := Lib.hid (show Blk W3 g 67 (#[.int .i64 0, .int .i64 5, .int .i64 10, .int .i64 20, .int .i64 30] ++ zs) by subst hW3; exact (((HX2.out.far (by show _ ≠ W1.heap.size; exact hne) _).alloc _).alloc _).drew)
    have HN3 := Lib.hid (show Blk W3 (W2.heap.size + 1) 9 (#[.string rowEnc] ++ Builtin.zeroCells #[.string ⟨#[]⟩] (cap - 1)) by subst hW3; exact (Blk.new' _ _ _ (by simp)).drew)
    have HE3 := Lib.hid (show Below w.heap.size w W3 by subst hW3; exact (ext_alloc (ext_alloc (ext_set HE2.out (by show _ ≤ W1.heap.size; omega) _) _) _).drew)
    clear hW3 o0 o1 f1 ol hne
    have p0 := HO3.out.cell 0
    have p1 := HO3.out.cell 1
    have pl := HO3.out.lt
    have q0 := HB3.out.cell 0
    have q1 := HB3.out.cell 1
    have f0 := HB3.out.frozen 0
    have f1 := HB3.out.frozen 1
    rw [rounds_succ]
    go_wp2
    have hBf := (HB3.out.set_ 0 (.slice (some ⟨g, 0, none⟩) 1 c)).set_ 1 (.slice (some ⟨W2.heap.size + 1, 0, none⟩) 1 cap)
    have y0 := hBf.cell 0; have y1 := hBf.cell 1
    have hne : g ≠ w.heap.size := by
      rintro rfl
      have h1 := HX3.out
      have h2 := HB3.out
      unfold Blk at h1 h2
      have h3 := h2.symm.trans h1
      simp at h3
    refine bodyPost_ret (v := .agg #[.slice (some ⟨g, 0, none⟩) 1 c, .slice (some ⟨W2.heap.size + 1, 0, none⟩) 1 cap]) (by simp [results, Tryz.results85, go_sem, y0, y1]) rfl ⟨_, _, rfl, ⟨.inr ⟨rfl, _, _, _, rfl, hc, (HX3.out.far hne _).far hne _⟩, ?_⟩, ?_⟩
    · have hn : W2.heap.size + 1 ≠ w.heap.size := by have := HO2.out.lt; omega
      exact strs_one hcap ((((HN3.out.far hn _).far hn _).cell 0).trans (by simp [Array.getElem?_append]))
    · exact ext_set (ext_set HE3.out (by simp) _) (by simp) _

end Go.Proofs.YtimoapjhepmehaaGreatDoor

/-
  statetree.orders as an iterator of 16 rounds.
-/
namespace Go.Proofs.YtimoapjhepmehaaGreatDoor
open Go.RowKit Go.Shelf
attribute [local go_sem] Oper.semAt_some

/-- what the iterator reads -/
def OrdC (one : Bool) (Bs gs gm : Nat) (pos : Int) (W : World) : Prop := W.cell? ⟨Bs, 0, none⟩ = some (.pointer (some ⟨gs, 0, none⟩)) ∧ StateIs W one gs gm pos
/-- what it hands out -/
def OrdM (one : Bool) (k : Nat) (xs : Array Value) (W : World) : Prop := ∃ v1 v2, xs = #[.agg #[v1, v2]] ∧ OrderAt W (one && decide (k < 4)) v1 v2

theorem hit_eq (one : Bool) (t c : Nat) (hc : c < 4) : (one && ((0 : Int) == (t : Int))) = (one && decide (4 * t + c < 4)) := by
  congr 1
  by_cases h : t = 0
  · subst h; simp [hc]
  · have h1 : ¬ (4 * t + c < 4) := by omega
    have h2 : ¬ ((0 : Int) = (t : Int)) := by omega
    simp [h1, h2]

def OrdPost (J : Nat → World → Prop) (e : Ending) (W' : World) : Prop := (∃ v, e = .returned v) ∧ J 16 W'

set_option maxRecDepth 100000 in
set_option maxHeartbeats 1000000 in
theorem orders_in (n : Nat) (hn : 1 ≤ n) (one : Bool) (l Bs gs gm : Nat) (pos : Int) (J : Nat → World → Prop) (hC : ∀ k W, J k W → OrdC one Bs gs gm pos W) (hA : ∀ k A B, J k A → Below A.heap.size A B → J k B)
    (hY : ∀ k xs W1, k < 16 → J k W1 → OrdM one k xs W1 → YieldAt Fence.wide (n - 1) Tryz.prog l xs W1 fun e W' => e = .returned (.bool true) ∧ J (k + 1) W')
    (W : World) (h0 : J 0 W) :
    CallsIn Fence.wide n Tryz.prog 177 #[.func (.yield l) #[] #[], .pointer (some ⟨Bs, 0, none⟩)] W (OrdPost J) := by
  have HC := Lib.hid hC
  have HA := Lib.hid hA
  have HY := Lib.hid hY
  clear hC hA hY
  refine callsIn_of_wp Tryz.func177 rfl trivial ?_ rfl
  simp only [Tryz.ntmps177, List.size_toArray, List.length_cons, List.length_nil, Nat.reduceAdd, Nat.reduceSub, Array.replicate_succ, Array.replicate_zero, List.push_toArray, List.append_toArray, List.nil_append, List.cons_append]
  gi_wp2
  gi_loopw [5] (fun i wr => ∃ t : Nat, t ≤ 4 ∧ i = .int .i64 (t : Int) ∧ J (4 * t) wr) (fun i _ => (4 - intOf i).toNat)
  case atStart => exact ⟨0, Nat.zero_le _, by simp, h0⟩
  case round =>
    obtain ⟨t, ht, rfl, hJt⟩ := hrel
    by_cases hlt : t < 4
    · have hlt' : (t : Int) < 4 := by omega
      gi_wp2
      gi_loopw [8] (fun i wr => ∃ c : Nat, c ≤ 4 ∧ i = .int .i64 (c : Int) ∧ J (4 * t + c) wr) (fun i _ => (4 - intOf i).toNat)
      case atStart => exact ⟨0, Nat.zero_le _, by simp, hJt⟩
      case round =>
        obtain ⟨c, hc, rfl, hJc⟩ := hrel
        by_cases hlc : c < 4
        · have hlc' : (c : Int) < 4 := by omega
          have HJc := Lib.hid hJc
          have cs := (HC.out _ _ hJc).1
          clear hJc
          gi_wp2_with fail
          refine ⟨trivial, (callsIn_wide.2 (orderOf_any one gs gm c pos (t : Int) hlc wr (HC.out _ _ HJc.out).2)).mono ?_⟩
          rintro e W1 ⟨v1, v2, rfl, hO1, hb1⟩
          rw [hit_eq one t c hlc] at hO1
          obtain ⟨fn, tmps, assign, body, hy, hR⟩ := HY.out (4 * t + c) #[.agg #[v1, v2]] W1 (by omega) (HA.out _ _ _ HJc.out hb1) ⟨v1, v2, rfl, hO1⟩
          clear hO1 hb1 cs
          gi_wp2
          refine hR.mono ?_
          rintro e W3 ⟨rfl, hJ3⟩
          have HJ3 := Lib.hid hJ3
          clear hJ3
          gi_wp2
          go_roundw
          case rel => exact ⟨c + 1, by omega, by go_num, HJ3.out⟩
          case measure => simp [intOf]; omega
        · have hlc' : ¬ (c : Int) < 4 := by omega
          have HJt := Lib.hid (show J (4 * (t + 1)) wr by rw [show 4 * (t + 1) = 4 * t + c by omega]; exact hJc)
          clear hJc
          gi_wp2
          go_roundw
          case rel => exact ⟨t + 1, by omega, by go_num, HJt.out⟩
          case measure => simp [intOf]; omega
    · have hlt' : ¬ (t : Int) < 4 := by omega
      have HJt := Lib.hid (show J 16 wr by rw [show 16 = 4 * t by omega]; exact hJt)
      clear hJt
      gi_wp2
      go_end0
      exact ⟨⟨_, rfl⟩, HJt.out⟩

theorem orders_seq (n : Nat) (hn : 1 ≤ n) (one : Bool) (Bs gs gm : Nat) (pos : Int) :
    SeqMem n Tryz.prog 177 #[.pointer (some ⟨Bs, 0, none⟩)] 16 (OrdC one Bs gs gm pos) (OrdM one) :=
  fun l J W hC hA hY h0 => orders_in n hn one l Bs gs gm pos J hC hA hY W h0

set_option maxHeartbeats 400000 in
theorem orders_any (gs : Nat) (w : World) :
    Calls Tryz.prog 125 #[.pointer (some ⟨gs, 0, none⟩)] w fun e w' =>
      e = .returned (.func (.func 177) #[] #[.pointer (some ⟨w.heap.size, 0, none⟩)]) ∧ w.alloc (.cells #[.pointer (some ⟨gs, 0, none⟩)] 63) = w' := by
  have hmf : ∀ (fn : Fn) (first cap : Array Value) (w : World), (Instr.makeFunc fn first cap).run Tryz.prog w = .ok (.func fn first cap) w := fun _ _ _ _ => rfl
  go_enter Tryz.func125, Tryz.ntmps125
  go_wp2
  go_ret
  exact ⟨rfl, rfl⟩

end Go.Proofs.YtimoapjhepmehaaGreatDoor

/-
  A range over an iterator whose value is a struct of two cells, in a box of the round; an append as a rule for the walk.
-/
namespace Go.Proofs.YtimoapjhepmehaaGreatDoor
open Go.RowKit Go.Shelf

theorem wpIn_mem_box2 {n : Nat} {P : Program} {g : Operand} {ps : Array Tmp} {assign body : Code} {Q : Exit → Act → World → Prop} {a : Act} {w : World}
    (h1 : 1 ≤ n) {gf : Nat} {lb : Array Value} (hg : a.eval g = .func (.func gf) #[] lb) (eg : ∀ args w, (callFunc gf args).run P w = .ok (.enter gf args) w)
    {N : Nat} {C : World → Prop} {M : Nat → Value → Value → World → Prop} (hseq : SeqMem (n - 1) P gf lb N C (fun k xs W => ∃ v1 v2, xs = #[.agg #[v1, v2]] ∧ M k v1 v2 W)) (hps : ps.size = 1)
    (I : Nat → World → Prop) (hI : ∀ k, OwnP w.heap.size (I k)) (hC : ∀ k W, I k W → C W) (h0 : I 0 w) (hM : ∀ k v1 v2, OwnP w.heap.size (M k v1 v2))
    (hMs : ∀ k v1 v2 W, M k v1 v2 W → ∃ A1 n1 c1 A2 n2 c2, v1 = .slice A1 n1 c1 ∧ v2 = .slice A2 n2 c2) (t : TypeId) (Fr : Nat → Option Addr → Nat → Nat → Option Addr → Nat → Nat → Act)
    (hassign : ∀ (l h : Nat) (A1 : Option Addr) (n1 c1 : Nat) (A2 : Option Addr) (n2 c2 : Nat) (W : World) (K : Act → World → Prop), h = W.heap.size → K (Fr h A1 n1 c1 A2 n2 c2) (W.alloc (.cells #[.slice A1 n1 c1, .slice A2 n2 c2] t)) →
      assign.wpIn (Fence.wide.inRound l) (n - 1 - 1) P (Exit.then K (fun _ _ _ => False)) { tmps := (ps.zip #[.agg #[.slice A1 n1 c1, .slice A2 n2 c2]]).foldl (fun t (p, v) => t.setIfInBounds p v) a.tmps, defers := [] } W)
    (hbody : ∀ (l h k : Nat) (A1 : Option Addr) (n1 c1 : Nat) (A2 : Option Addr) (n2 c2 : Nat) (W : World), k < N → w.heap.size ≤ W.heap.size → w.heap.size ≤ h → Blk W h t #[.slice A1 n1 c1, .slice A2 n2 c2] → M k (.slice A1 n1 c1) (.slice A2 n2 c2) W → I k W →
      body.wpIn (Fence.wide.inRound l) (n - 1 - 1) P (OncePost w.heap.size (I (k + 1)) W) (Fr h A1 n1 c1 A2 n2 c2) W)
    (hdone : ∀ (D : Nat) (W : World), w.heap.size ≤ D → I N W → W.heap[D]? = some (.deferred (some [])) → Q .normal { a with defers := { target := .collected D, args := #[] } :: a.defers } W) :
    (Code.rangeFunc g ps assign body).wpIn Fence.wide n P Q a w :=
  wpIn_mem h1 hg eg hseq (fun k xs W h => by obtain ⟨v1, v2, rfl, _⟩ := h; rw [hps]; rfl) I hI hC h0 (fun k a' W => ∃ h A1 n1 c1 A2 n2 c2, w.heap.size ≤ h ∧ a' = Fr h A1 n1 c1 A2 n2 c2 ∧ Blk W h t #[.slice A1 n1 c1, .slice A2 n2 c2] ∧ M k (.slice A1 n1 c1) (.slice A2 n2 c2) W)
    (fun k a' _ X Y row hs hg hr => by
      obtain ⟨h, A1, n1, c1, A2, n2, c2, hh, ha, hB, hm⟩ := hs
      exact ⟨h, A1, n1, c1, A2, n2, c2, hh, ha, OwnP.blk (B := w.heap.size) () X Y row hB hg hr, hM k _ _ () X Y row hm hg hr⟩)
    (fun l k xs W K hk hsz hI' hm hK => by
      obtain ⟨v1, v2, rfl, hm⟩ := hm
      obtain ⟨A1, n1, c1, A2, n2, c2, rfl, rfl⟩ := hMs k v1 v2 W hm
      exact hassign l W.heap.size A1 n1 c1 A2 n2 c2 W K rfl (hK _ _ ((KeepsOthers.alloc W _).from _) (OwnFrom.alloc (s := ()) (hI k) _ hI') ⟨_, A1, n1, c1, A2, n2, c2, hsz, rfl, Blk.new _ _ _, OwnFrom.alloc (s := ()) (hM k _ _) _ hm⟩))
    (fun l k a' W hk hsz hI' hA => by
      obtain ⟨h, A1, n1, c1, A2, n2, c2, hh, rfl, hB, hm⟩ := hA
      exact hbody l h k A1 n1 c1 A2 n2 c2 W hk hsz hh hB hm hI') hdone

/-- an append that runs -/
def AppOK (P : Program) (w : World) (t ty : TypeId) (v x : Value) : Prop := ∃ v' w', (Builtin.append_ #[t, t] ty #[v, x]).run P w = .ok v' w'
def appV (P : Program) (w : World) (t ty : TypeId) (v x : Value) : Value := match (Builtin.append_ #[t, t] ty #[v, x]).run P w with | .ok v' _ => v' | _ => undef
def appW (P : Program) (w : World) (t ty : TypeId) (v x : Value) : World := match (Builtin.append_ #[t, t] ty #[v, x]).run P w with | .ok _ w' => w' | _ => w
theorem app_run {P : Program} {w : World} {t ty : TypeId} {v x : Value} (h : AppOK P w t ty v x) : (Builtin.append_ #[t, t] ty #[v, x]).run P w = .ok (appV P w t ty v x) (appW P w t ty v x) := by
  obtain ⟨v', w', h⟩ := h
  unfold appV appW
  rw [h]
theorem app_exec {P : Program} {w : World} {ρ : Operand → Value} {d : Option Tmp} {s x : Operand} {t ty : TypeId} {p : String} {af : Array Edge} {g : Option (Nat × Bool)} (h : AppOK P w t ty (ρ s) (ρ x)) :
    (execOp ρ { dst := d, op := .call { callee := .builtin .append, args := #[s, x], argTypes := #[t, t] }, type := ty, pos := p, after := af, guard := g }).run P w = .ok (.value (appV P w t ty (ρ s) (ρ x))) (appW P w t ty (ρ s) (ρ x)) := by
  have h' := app_run h
  unfold execOp
  simp only [resolve, invoke, builtin, Sem.run_bind, Sem.run_pure, Result.andThen_ok, List.map_toArray, List.map_cons, List.map_nil, h']
theorem app_sem {P : Program} {w : World} {ro : Option Nat} {ρ : Operand → Value} {d : Option Tmp} {s x : Operand} {t ty : TypeId} {p : String} {af : Array Edge} {g : Option (Nat × Bool)} (h : AppOK P w t ty (ρ s) (ρ x)) :
    (Oper.semAt ro ρ { dst := d, op := .call { callee := .builtin .append, args := #[s, x], argTypes := #[t, t] }, type := ty, pos := p, after := af, guard := g }).run P w = .ok (.value (appV P w t ty (ρ s) (ρ x))) (appW P w t ty (ρ s) (ρ x)) := by
  rw [Oper.semAt_eq ro ρ _ (by intro c h; cases h)]
  exact app_exec h
theorem run_semAt {P : Program} {w : World} {l : Nat} {ρ : Operand → Value} {o : Oper} (h : ∀ c, o.op ≠ .defer c) : (Oper.semAt (some l) ρ o).run P w = (execOp ρ o).run P w := by rw [Oper.semAt_eq _ ρ o h]
theorem app_own {P : Program} {w : World} (base : Nat) (t ty e : TypeId) (i : TypeInfo) (z : Value) (size bytes : Nat) (ht : P.underlying t = some (.slice e)) (hi : P.info? e = some i) (hz : i.zero = some z)
    (hsize : i.size = size) (hby : i.bytes = bytes) (hzs : z.cells.size = size) (hsz : 0 < size)
    (v : Value) (n : Nat) (xs : List Value) (hown : w.ownsRow base e size v n xs)
    (a : Addr) (m c : Nat) (news : List Value) (hl : news.length = m * size) (hnews : ∀ j u, news[j]? = some u → w.cell? (a.add j) = some u) (h1 : ∀ u ∈ news, u.oneCell' = true)
    (h63 : n + m ≤ maxLen) (hbytes : (n + m) * bytes ≤ 140737488355328) (hbase : base ≤ w.heap.size) :
    AppOK P w t ty v (.slice (some a) m c) ∧ (appW P w t ty v (.slice (some a) m c)).ownsRow base e size (appV P w t ty v (.slice (some a) m c)) (n + m) (xs ++ news) ∧ w.grownBy (appW P w t ty v (.slice (some a) m c)) v.ownBlock := by
  obtain ⟨v', w', hr, ho, hg, _⟩ := run_append_own (P := P) (w := w) base t ty e i z size bytes ht hi hz hsize hby hzs hsz v n xs hown a m c news hl hnews h1 h63 hbytes hbase
  have hv : appV P w t ty v (.slice (some a) m c) = v' := by unfold appV; rw [hr]
  have hw : appW P w t ty v (.slice (some a) m c) = w' := by unfold appW; rw [hr]
  rw [hv, hw]
  exact ⟨⟨_, _, hr⟩, ho, hg⟩

end Go.Proofs.YtimoapjhepmehaaGreatDoor

/-
  statetree.summaries, statetree.Root.
-/
namespace Go.Proofs.YtimoapjhepmehaaGreatDoor
open Go.RowKit Go.Shelf
attribute [local go_sem] run_semAt
attribute [local go_sem high] app_sem

def sumE (hit : Bool) : ByteArray := byteS (2 * (ents hit).length) ++ rootF (ents hit)
def sums (one : Bool) (k : Nat) : List ByteArray := (List.range k).map fun i => sumE (one && decide (i < 4))
theorem sums_succ (one : Bool) (k : Nat) : sums one (k + 1) = sums one k ++ [sumE (one && decide (k < 4))] := by simp [sums, List.range_succ]
theorem sums_length (one : Bool) (k : Nat) : (sums one k).length = k := by simp [sums]
theorem ents_length (hit : Bool) : (ents hit).length ≤ 1 := by cases hit <;> simp [ents]

theorem foldBack_size (l : List ByteArray) (h : ∀ p ∈ l, p.size = 32) (hne : l ≠ []) : (foldBack l).size = 32 := by
  unfold foldBack
  have hz : (l.getLast?.getD ⟨#[]⟩).size = 32 := by
    rw [List.getLast?_eq_some_getLast hne]
    exact h _ (List.getLast_mem hne)
  generalize l.getLast?.getD ⟨#[]⟩ = z at *
  generalize l.dropLast = d
  cases d with
  | nil => exact hz
  | cons x d => rw [List.foldr_cons]; exact nodeF_size _ _
theorem rootF_size (l : List ByteArray) : (rootF l).size = 32 := by
  unfold rootF
  by_cases h : l = []
  · rw [if_pos h]; exact sumF_size _
  · rw [if_neg h]
    have hok := stackTo_ok l l.length
    refine foldBack_size _ (fun p hp => ?_) (fun he => ?_)
    · obtain ⟨q, hq, rfl⟩ := List.mem_map.1 hp
      exact (hok.2 q hq).1
    · have h1 := hok.1
      have h2 : stackTo l l.length = [] := by simpa using he
      rw [h2] at h1
      exact h (List.length_eq_zero_iff.1 h1.symm)
theorem byteS_size (n : Nat) : (byteS n).size = 1 := rfl

theorem OwnP.rows {B : Nat} {hit : Bool} {v : Value} : OwnP B (fun W => RowsAt W hit v) := fun _ X Y row hs hg hr => by
  rcases hs with h | ⟨h1, g, c, zs, h2, h3, h4⟩
  · exact .inl h
  · exact .inr ⟨h1, g, c, zs, h2, h3, OwnP.blk (B := B) () X Y row h4 hg hr⟩
theorem OwnP.strs {B : Nat} {S : Nat → Prop} {v : Value} {l : List ByteArray} : OwnP B (fun W => Strs S W v l) := fun _ X Y row hs hg hr => by
  obtain ⟨A, c, rfl, hc, h⟩ := hs
  refine ⟨A, c, rfl, hc, fun h0 => ?_⟩
  obtain ⟨b, off, hA, hb, hcell⟩ := h h0
  exact ⟨b, off, hA, hb, fun j x hx => cell_kept (hcell j x hx) hg (fun r e => (hr r e).2)⟩
theorem OwnP.state {B gs gm : Nat} {one : Bool} {pos : Int} (h : gm < B) : OwnP B (fun W => StateIs W one gs gm pos) := OwnP.and OwnP.blk (OwnP.map h)

theorem order_slices {W : World} {hit : Bool} {v1 v2 : Value} (h : OrderAt W hit v1 v2) : ∃ A1 n1 c1 A2 n2 c2, v1 = .slice A1 n1 c1 ∧ v2 = .slice A2 n2 c2 := by
  obtain ⟨h1, A, c, rfl, _⟩ := h
  rcases h1 with ⟨_, rfl⟩ | ⟨_, g, c', zs, rfl, _⟩
  · exact ⟨_, _, _, _, _, _, rfl, rfl⟩
  · exact ⟨_, _, _, _, _, _, rfl, rfl⟩

theorem undrew {W W' : World} (h : Below W.drew.heap.size W.drew W') : Below W.heap.size W W' := ⟨h.os, h.tape, h.output, h.size, h.block⟩
theorem own_below {W W' : World} {base e size n : Nat} {v : Value} {xs : List Value} (h : W.ownsRow base e size v n xs) (hb : Below W.heap.size W W') : W'.ownsRow base e size v n xs :=
  h.kept (below_grown hb) (by by_cases h : v.ownBlock = none; exact .inl h; exact .inr h)
theorem str_infoS : ∃ i, Tryz.prog.info? 9 = some i ∧ i.zero = some (.string ⟨#[]⟩) ∧ i.size = 1 ∧ i.bytes = 16 := by
  obtain ⟨is, his, hzs0, hzs1, hzs2⟩ := info_parts str_info
  exact ⟨is, his, hzs0, hzs1, hzs2⟩

/-- what the append of a round leaves -/
theorem sums_after {W : World} {base B k : Nat} {v : Value} {xs : List Value} (s : ByteArray) (hV : Boxed W B 53 v) (hRow : W.ownsRow base 9 1 v k xs) (hb : base ≤ W.heap.size) (hB : base ≤ B) (hk : k < 1000) :
    AppOK Tryz.prog (W.alloc (.cells #[.string s] 9)) 53 53 v (.slice (some ⟨W.heap.size, 0, none⟩) 1 1) ∧ ∃ g cap W3, appV Tryz.prog (W.alloc (.cells #[.string s] 9)) 53 53 v (.slice (some ⟨W.heap.size, 0, none⟩) 1 1) = .slice (some ⟨g, 0, none⟩) (k + 1) cap ∧
      appW Tryz.prog (W.alloc (.cells #[.string s] 9)) 53 53 v (.slice (some ⟨W.heap.size, 0, none⟩) 1 1) = W3 ∧ Boxed W3 B 53 v ∧
      Boxed (W3.setCell ⟨B, 0, none⟩ (.slice (some ⟨g, 0, none⟩) (k + 1) cap)) B 53 (.slice (some ⟨g, 0, none⟩) (k + 1) cap) ∧ (W3.setCell ⟨B, 0, none⟩ (.slice (some ⟨g, 0, none⟩) (k + 1) cap)).ownsRow base 9 1 (.slice (some ⟨g, 0, none⟩) (k + 1) cap) (k + 1) (xs ++ [.string s]) ∧
      KeepsOthers W (W3.setCell ⟨B, 0, none⟩ (.slice (some ⟨g, 0, none⟩) (k + 1) cap)) ∧ Below base W (W3.setCell ⟨B, 0, none⟩ (.slice (some ⟨g, 0, none⟩) (k + 1) cap)) ∧
      ∀ b t cs, Blk W b t cs → t ≠ 9 → b ≠ B → Blk (W3.setCell ⟨B, 0, none⟩ (.slice (some ⟨g, 0, none⟩) (k + 1) cap)) b t cs := by
  obtain ⟨is, his, hzs0, hzs1, hzs2⟩ := str_infoS
  obtain ⟨ha, ho, hg⟩ := app_own (P := Tryz.prog) (w := W.alloc (.cells #[.string s] 9)) base 53 53 9 is (.string ⟨#[]⟩) 1 16 Tryz.underlying53 his hzs0 hzs1 hzs2 rfl (by decide) v k xs (hRow.alloc _) ⟨W.heap.size, 0, none⟩ 1 1 [.string s] rfl (cell_one_new _ _ _) (by simp [Value.oneCell']) (by unfold maxLen; omega) (by omega) (by simp; omega)
  refine ⟨ha, ?_⟩
  generalize appV Tryz.prog (W.alloc (.cells #[.string s] 9)) 53 53 v (.slice (some ⟨W.heap.size, 0, none⟩) 1 1) = v' at *
  generalize appW Tryz.prog (W.alloc (.cells #[.string s] 9)) 53 53 v (.slice (some ⟨W.heap.size, 0, none⟩) 1 1) = W3 at *
  obtain ⟨g', cap', rfl⟩ := ownsRow_succ ho
  obtain ⟨hv1, hv2, hr2, hk2, hb2⟩ := hV.appended (by decide) hRow hb hB ho hg
  refine ⟨g', cap', W3, rfl, rfl, hv1, hv2, hr2, hk2, hb2, fun b t cs hB' ht hne => ((hB'.alloc _).grown hg (fun e => ?_)).far hne _⟩
  rcases hRow.2 with ⟨rfl, _⟩ | ⟨g, cap, cur, rfl, _, hgb, _⟩
  · simp [Value.ownBlock] at e
  · obtain rfl : b = g := by simpa [Value.ownBlock] using e
    unfold Blk at hB'
    rw [hgb] at hB'
    simp at hB'
    exact ht hB'.2.symm

/-- what is known between two rounds -/
def SumsI (one : Bool) (w : World) (gs gm : Nat) (pos : Int) (k : Nat) (W : World) : Prop :=
  (∃ v, Boxed W w.heap.size 53 v ∧ W.ownsRow w.heap.size 9 1 v k ((sums one k).map Value.string) ∧ True) ∧ Below w.heap.size w W ∧ Blk W (w.heap.size + 1) 63 #[.pointer (some ⟨gs, 0, none⟩)] ∧ StateIs W one gs gm pos ∧ RoundOK W
theorem SumsI.own (one : Bool) (w : World) (gs gm : Nat) (pos : Int) (k B : Nat) (hB : w.heap.size ≤ B) (hg : gm < B) : OwnP B (SumsI one w gs gm pos k) :=
  OwnP.and (Own.from (holdsRow_own w.heap.size w.heap.size 53 9 1 (fun _ : Unit => k) (fun _ : Unit => (sums one k).map Value.string) (fun _ _ => True)) B)
    (OwnP.and (OwnP.below (Nat.le_refl _) hB) (OwnP.and OwnP.blk (OwnP.and (OwnP.state hg) OwnP.round)))

theorem keeps_below {W W' : World} (h : Below W.heap.size W W') : KeepsOthers W W' := ⟨h.size, fun k _ hk _ => (h.block k (Array.getElem?_eq_some_iff.1 hk).1).trans hk⟩
theorem sums_round {one : Bool} {w W W1 W2 W' : World} {gs gm k B : Nat} {pos : Int} {v : Value} (hS : StateIs w one gs gm pos) (hR : RoundOK w) (hI : Below w.heap.size w W1 ∧ Blk W1 (w.heap.size + 1) 63 #[.pointer (some ⟨gs, 0, none⟩)] ∧ StateIs W1 one gs gm pos ∧ RoundOK W1)
    (h1 : Below W.heap.size W W1) (h2 : Below W1.heap.size W1 W2) (hk : KeepsOthers W2 W') (hb : Below w.heap.size W2 W') (hv : Boxed W' w.heap.size 53 v) (hr : W'.ownsRow w.heap.size 9 1 v (k + 1) ((sums one (k + 1)).map Value.string))
    (ho : Blk W' (w.heap.size + 1) 63 #[.pointer (some ⟨gs, 0, none⟩)]) : KeepsFrom B W W' ∧ SumsI one w gs gm pos (k + 1) W' := by
  have hE : Below w.heap.size w W' := (ext_call hI.1 h2).trans hb
  exact ⟨(((keeps_below h1).trans (keeps_below h2)).trans hk).from _, ⟨v, hv, hr, trivial⟩, hE, ho, hS.ext hE, hR.below hE⟩

set_option maxHeartbeats 1000000 in
set_option maxRecDepth 100000 in
theorem summaries_any (one : Bool) (gs gm : Nat) (pos : Int) (w : World) (hS : StateIs w one gs gm pos) (hR : RoundOK w) :
    Calls Tryz.prog 70 #[.pointer (some ⟨gs, 0, none⟩)] w fun e w' => ∃ v, e = .returned v ∧ Strs (fun b => w.heap.size ≤ b) w' v (sums one 16) ∧ Below w.heap.size w w' := by
  have HS := Lib.hid hS
  have HR := Lib.hid hR
  have hgm := hS.2.lt
  obtain ⟨is, his, hzs0, hzs1, hzs2⟩ := info_parts str_info
  clear hS hR
  refine (callsIn_wide (n := 3)).1 (callsIn_of_wp_marks Tryz.func70 rfl trivial (wpIn_wide.2 ?_) rfl)
  simp only [Tryz.ntmps70, List.size_toArray, List.length_cons, List.length_nil, Nat.reduceAdd, Nat.reduceSub, Array.replicate_succ, Array.replicate_zero, List.push_toArray, List.append_toArray, List.nil_append, List.cons_append]
  go_wp2_with (go_at_call 125; refine (orders_any gs _).mono ?_; rintro e W2 ⟨rfl, rfl⟩)
  have hE0 : Below w.heap.size w ((w.alloc (.cells #[.slice none 0 0] 53)).alloc (.cells #[.pointer (some ⟨gs, 0, none⟩)] 63)) := ext_alloc (ext_new _ _) _
  have hI0 : SumsI one w gs gm pos 0 ((w.alloc (.cells #[.slice none 0 0] 53)).alloc (.cells #[.pointer (some ⟨gs, 0, none⟩)] 63)) :=
    ⟨⟨_, (Boxed.new _ _ _).alloc _, World.ownsRow_nil _ _ _ _, trivial⟩, hE0, Blk.new' _ _ _ (by simp), HS.out.ext hE0, HR.out.below hE0⟩
  refine (wpIn_wide (n := 3)).1 ?_
  refine' wpIn_mem_box2 (by omega) (gf := 177) (lb := #[.pointer (some ⟨w.heap.size + 1, 0, none⟩)]) (by simp [Act.eval]) (enters_of Tryz.func177 (by kernel_rfl) rfl)
    (M := fun k v1 v2 W => OrderAt W (one && decide (k < 4)) v1 v2) (orders_seq 2 (by omega) one (w.heap.size + 1) gs gm pos) rfl
    (SumsI one w gs gm pos) (fun k => SumsI.own one w gs gm pos k _ (by simp; omega) (by simp; omega)) (fun k W h => ⟨h.2.2.1.cell 0, h.2.2.2.1⟩) hI0 (fun k v1 v2 => OwnP.and OwnP.rows OwnP.strs) (fun k v1 v2 W h => order_slices h) 168 _ ?assign ?body ?done
  case assign =>
    intro l h A1 n1 c1 A2 n2 c2 W K hh hK
    gi_wp2
    rw [← hh]
    exact hK
  case body =>
    rintro l h k A1 n1 c1 A n0 c W hk hsz hh hB ⟨hrows, hstr⟩ ⟨⟨v, hv, hrow, _⟩, hb, hcs, hst, hro⟩
    obtain ⟨hit, hhit⟩ : ∃ hit, hit = (one && decide (k < 4)) := ⟨_, rfl⟩
    have HSu := Lib.hid (show sums one (k + 1) = sums one k ++ [sumE hit] by rw [sums_succ, hhit])
    rw [← hhit] at hrows hstr
    clear hhit hrows
    have HStr := Lib.hid hstr
    have hE1 := ents_length hit
    have HEl := Lib.hid (show ∀ x ∈ ents hit, x.size ≤ 100000 by intro x hx; cases hit <;> simp [ents] at hx; rw [hx, rowEnc_size]; omega)
    obtain rfl : n0 = (ents hit).length := by
      obtain ⟨A', c', h', _⟩ := hstr
      injection h'
    obtain ⟨n, hn⟩ : ∃ n, n = (ents hit).length := ⟨_, rfl⟩
    have HSe := Lib.hid (show sumE hit = byteS (2 * n) ++ rootF (ents hit) by rw [hn]; rfl)
    rw [← hn] at HStr hE1 hB ⊢
    have HN := Lib.hid hn
    clear hn hstr
    have HB := Lib.hid hB
    have HV := Lib.hid hv
    have HRow := Lib.hid hrow
    have HI := Lib.hid (And.intro hb (And.intro hcs (And.intro hst hro)))
    have h0 := hB.cell 0
    have h1 := hB.cell 1
    have hl := hB.lt
    clear hB hv hrow hb hcs hst hro
    gi_wp2_with fail
    refine ⟨trivial, (CallsIn.inRound l (callsIn_wide.2 (putInt_any n (by omega) W))).mono ?_⟩
    rintro e W1 ⟨rfl, hb1⟩
    have HB1 := Lib.hid (HB.out.ext hb1)
    have HV1 := Lib.hid (HV.out.kept (below_grown hb1) (by simp))
    have HRow1 := Lib.hid (own_below HRow.out hb1)
    have HI1 := Lib.hid (show Below w.heap.size w W1 ∧ Blk W1 (w.heap.size + 1) 63 #[.pointer (some ⟨gs, 0, none⟩)] ∧ StateIs W1 one gs gm pos ∧ RoundOK W1 from ⟨ext_call HI.out.1 hb1, HI.out.2.1.ext hb1, HI.out.2.2.1.ext hb1, HI.out.2.2.2.below hb1⟩)
    have HK1 := Lib.hid hb1
    have HRoot := Lib.hid (show ∀ X : World, Below W1.heap.size W1 X → Calls Tryz.prog 43 #[.slice A n c] X fun e w' => e = .returned (.string (rootF (ents hit))) ∧ Below X.heap.size X w' from
      fun X hX => root_any (fun _ => True) _ _ X ((HStr.out.below HK1.out).below hX) (by rw [← HN.out]; omega) HEl.out (HI1.out.2.2.2.below hX))
    have hrs := rootF_size (ents hit)
    generalize rootF (ents hit) = rt at *
    have hsum : (byteS (2 * n)).size + rt.size ≤ 9223372036854775807 := by rw [byteS_size]; omega
    generalize byteS (2 * n) = s1 at *
    have hcat := fun W : World => run_string_add_sum (P := Tryz.prog) (w := W) s1 rt hsum
    clear h0 h1 hl hb1 hrs
    have h1 := HB1.out.cell 1
    have hl := HB1.out.lt
    have hv := HV1.out.cell
    have hvf := HV1.out.frozen
    have hvl := HV1.out.lt
    gi_wp2
    have hz1 : w.heap.size ≤ W1.heap.size := HI1.out.1.size
    gi_region_with (refine ⟨trivial, (CallsIn.inRound l (callsIn_wide.2 (HRoot.out _ ?_))).mono ?_⟩; (exact (ext_refl _).drew); rintro e W2 ⟨rfl, hb2⟩; obtain ⟨hok, g3, cap3, W3, hav, haw, hv3, hv4, hr4, hk4, hb4, ho4⟩ := sums_after (s1 ++ rt) (HV1.out.kept (below_grown (undrew hb2)) (by simp)) (own_below HRow1.out (undrew hb2)) (Nat.le_trans hz1 (undrew hb2).size) (Nat.le_refl _) (Nat.lt_trans hk (by decide)); have c2 := (cell_ext hv (undrew hb2)); have hvl2 : w.heap.size < W2.heap.size := lt_of_cell c2; have c3 := hv3.cell; have f3 := hv3.frozen; have HV4 := Lib.hid hv4; have HR4 := Lib.hid hr4; have HK4 := Lib.hid hk4; have HB4 := Lib.hid hb4; have HO4 := Lib.hid ho4; have HB2 := Lib.hid (undrew hb2); clear hb2 hv3 hv4 hr4 hk4 hb4 ho4)
    all_goals
      refine sums_round HS.out HR.out HI1.out HK1.out HB2.out HK4.out HB4.out HV4.out ?_ (HO4.out _ _ _ (HI1.out.2.1.ext HB2.out) (by decide) (by omega))
      rw [HSu.out, HSe.out, List.map_append]
      exact HR4.out
  case done =>
    rintro D W hD ⟨⟨v, hv, hrow, _⟩, hb, hcs, hst, hro⟩ hK
    have hvc := hv.cell
    have HRow := Lib.hid hrow
    have HBe := Lib.hid hb
    clear hrow hb hcs hst hro
    go_wp2
    refine ⟨by simp, .inl ⟨_, _, rfl, run_takeDeferred hK, ?_⟩⟩
    refine ⟨_, results_tmp rfl _ _ _, _, rfl, ?_, ?_⟩
    · obtain ⟨g, cap, rfl⟩ := ownsRow_succ HRow.out
      refine ⟨_, cap, rfl, ?_, fun _ => ⟨g, 0, rfl, ?_, fun j x hx => ?_⟩⟩
      · rw [sums_length]; exact own_cap HRow.out
      · exact (HRow.out.lt g rfl).1
      · have h1 := HRow.out.cells (g := g) rfl j (.string x) (by rw [List.getElem?_map, hx]; rfl)
        rw [add_lit0] at h1
        rw [Nat.zero_add]
        refine cell_kept h1 (grownBy_putObj' W D _) (fun r e => ?_)
        injection e with e
        subst e
        exact ⟨_, hK, rfl⟩
    · exact ext_put HBe.out (by simp at hD; omega) _

theorem sumE_size (hit : Bool) : (sumE hit).size = 33 := by unfold sumE; rw [ByteArray.size_append, byteS_size, rootF_size]
theorem sums_sizes (one : Bool) (k : Nat) : ∀ x ∈ sums one k, x.size ≤ 100000 := by
  intro x hx
  obtain ⟨i, _, rfl⟩ := List.mem_map.1 hx
  rw [sumE_size]; omega
/-- the root of a state of no row, of the law's own row -/
def stateF (one : Bool) : ByteArray := rootF (sums one 16)
theorem stateF_size (one : Bool) : (stateF one).size = 32 := rootF_size _

set_option maxHeartbeats 400000 in
theorem stateRoot (one : Bool) (gs gm : Nat) (pos : Int) (w : World) (hS : StateIs w one gs gm pos) (hR : RoundOK w) :
    Calls Tryz.prog 39 #[.pointer (some ⟨gs, 0, none⟩)] w fun e w' => e = .returned (.string (stateF one)) ∧ Below w.heap.size w w' := by
  have HS := Lib.hid hS
  have HR := Lib.hid hR
  clear hS hR
  have HF := Lib.hid (show rootF (sums one 16) = stateF one from rfl)
  generalize stateF one = sf at *
  go_enter Tryz.func39, Tryz.ntmps39
  go_wp2_with fail
  refine (summaries_any one gs gm pos w HS.out HR.out).mono ?_
  rintro e W1 ⟨v, rfl, hs1, hb1⟩
  have HS1 := Lib.hid hs1
  have HB1 := Lib.hid hb1
  clear hs1 hb1
  go_wp2_with fail
  refine (root_any _ v _ W1 HS1.out (by rw [sums_length]; omega) (sums_sizes one 16) (HR.out.below HB1.out)).mono ?_
  rw [HF.out]
  rintro e W2 ⟨rfl, hb2⟩
  go_wp2
  go_ret
  exact ⟨rfl, ext_call HB1.out hb2⟩

end Go.Proofs.YtimoapjhepmehaaGreatDoor
