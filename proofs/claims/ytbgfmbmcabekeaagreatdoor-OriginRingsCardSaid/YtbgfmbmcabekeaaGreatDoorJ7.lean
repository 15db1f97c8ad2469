/-
  Part 7 of 18: the contracts that the proof of the last part uses; each stands under its own head.
-/
import Derived.Test.YtbgfmbmcabekeaaGreatDoorJ6
import Derived.OrdersHeld
import Derived.Deep.RegionHeld3
set_option linter.unusedSimpArgs false
set_option linter.unusedVariables false

/-
  A region that draws its order: operations that read cells which no operation ahead of the region's own last stores changes may be taken first.
-/
namespace Go.Proofs.YtbgfmbmcabekeaaGreatDoor
open Go.RowKit

/-- no operation of st has come up -/
def clr (st : List Nat) (listed : Array Bool) : Bool := st.all fun j => !(listed.getD j true)
theorem clr_mono {st : List Nat} {listed : Array Bool} {i : Nat} (h : clr st (listed.setIfInBounds i true) = true) : clr st listed = true := by
  unfold clr at *
  rw [List.all_eq_true] at *
  intro k hk
  have h1 := h k hk
  by_cases hki : i = k
  · subst hki
    rcases Nat.lt_or_ge i listed.size with h' | h'
    · simp [h'] at h1
    · rw [Array.setIfInBounds_eq_of_size_le h'] at h1; exact h1
  · rw [getD_set_ne true hki] at h1; exact h1
theorem clr_set {st : List Nat} {listed : Array Bool} {j : Nat} (hj : j ∉ st) (h : clr st listed = true) : clr st (listed.setIfInBounds j true) = true := by
  unfold clr at *
  rw [List.all_eq_true] at *
  intro k hk
  have hne : ¬ j = k := fun e => hj (by rw [e]; exact hk)
  rw [getD_set_ne true hne]
  exact h k hk

section
variable {P : Program} {ops : Array Oper} {Q : Exit → Act → World → Prop} {md : Region.Mode} {F G : World → Prop} {st : List Nat}

/-- whatever order is picked; F holds behind every operation, G as long as no operation of st has come up -/
def wpAnyL (P : Program) (md : Region.Mode) (ops : Array Oper) (Q : Exit → Act → World → Prop) (F G : World → Prop) (st : List Nat) : Nat → Array Bool → Act → World → Prop
  | 0, listed, a, w => Region.ready md ops listed = [] ∧ Q .normal a w
  | fuel + 1, listed, a, w =>
    (Region.ready md ops listed = [] → Q .normal a w) ∧
    ∀ i ∈ Region.ready md ops listed, wpOp P ops Q i (fun a' w' => (F w' ∧ (clr st (listed.setIfInBounds i true) = true → G w')) ∧ wpAnyL P md ops Q F G st fuel (listed.setIfInBounds i true) a' w') a w

theorem wpAny_of_L : ∀ (fuel : Nat) (listed : Array Bool) (a : Act) (w : World), wpAnyL P md ops Q F G st fuel listed a w → wpAny P md ops Q fuel listed a w
  | 0, _, _, _, h => h
  | fuel + 1, _, _, _, h => ⟨h.1, fun i hi => wpOp_mono (fun a' w' h' => wpAny_of_L fuel _ a' w' h'.2) (h.2 i hi)⟩

theorem wp_region_L {id : Nat} {a : Act} {w : World} (F G : World → Prop) (st : List Nat) (hm : P.follows .mixedOrders = true)
    (h : wpAnyL P .any ops Q F G st ops.size (Array.replicate ops.size false) a w.drew) : (Code.region id ops true).wp P Q a w :=
  wp_region_any hm (wpAny_of_L _ _ _ _ h)

/-- T is what the operation i leans on: it holds now, and behind each operation that may come ahead of i -/
theorem wpAnyL_first {i : Nat} {oi : Oper} {v : Value} (T : World → Prop) (inv : Array Bool → Prop) (hi : ops[i]? = some oi) (hno : i ∉ st) (hsel : ∀ (j : Nat) (o : Oper) cs b, ops[j]? = some o → o.op ≠ .select cs b)
    (hQ : ∀ c a w, Q (.panic c) (a.put oi.dst v) w → Q (.panic c) a w)
    (hT : ∀ listed j oj w', inv listed → ops[j]? = some oj → (∀ e ∈ oj.after, Region.binds md e = true → e.on ≠ i) → F w' ∧ (clr st (listed.setIfInBounds j true) = true → G w') → T w' ∧ inv (listed.setIfInBounds j true)) :
    ∀ (fuel : Nat) (listed : Array Bool) (a : Act) (w : World),
      (∀ j oj, ops[j]? = some oj → j ≠ i → listed.getD j true = false → (∀ e ∈ oj.after, Region.binds md e = true → e.on ≠ i) → oi.apart ops oj = true) →
      i ∈ Region.ready md ops listed → YieldsIf P ops T oi v a → T w → inv listed → F w → (clr st listed = true → G w) →
      wpAnyL P md ops Q F G st fuel (listed.setIfInBounds i true) (a.put oi.dst v) w → wpAnyL P md ops Q F G st (fuel + 1) listed a w := by
  intro fuel
  induction fuel with
  | zero =>
    intro listed a w _ hr hy hS _ hF hG H
    refine ⟨fun h => (by rw [h] at hr; cases hr), fun j hj => ?_⟩
    by_cases hji : j = i
    · subst hji; exact hy.wpOp hi hS ⟨⟨hF, fun h => hG (clr_mono h)⟩, H⟩
    · have := ready_mono hj hji
      rw [H.1] at this
      cases this
  | succ fuel ih =>
    intro listed a w hfree hr hy hS hV hF hG H
    refine ⟨fun h => (by rw [h] at hr; cases hr), fun j hj => ?_⟩
    by_cases hji : j = i
    · subst hji; exact hy.wpOp hi hS ⟨⟨hF, fun h => hG (clr_mono h)⟩, H⟩
    · have h1 := H.2 j (ready_mono hj hji)
      obtain ⟨hjun, oj, hoj, hall⟩ := mem_ready.1 hj
      have hun : listed.getD i false = false := by
        have h0 := (mem_ready.1 hr).1
        rcases Nat.lt_or_ge i listed.size with h' | h'
        · simpa [h'] using h0
        · simp [Array.getElem?_eq_none h']
      have hnot : ∀ e ∈ oj.after, Region.binds md e = true → e.on ≠ i := fun e he hb heq => by
        have h1 := hall e he hb
        rw [heq, hun] at h1
        cases h1
      have h2 := wpOp_putIf hoj (hfree j oj hoj hji hjun hnot) (fun cs b => hsel i oi cs b hi) (fun cs b => hsel j oj cs b hoj) hQ hy h1
      have hfree' : ∀ k ok, ops[k]? = some ok → k ≠ i → (listed.setIfInBounds j true).getD k true = false →
          (∀ e ∈ ok.after, Region.binds md e = true → e.on ≠ i) → oi.apart ops ok = true := fun k ok hk hki hun hno => by
        refine hfree k ok hk hki ?_ hno
        by_cases hjk : j = k
        · subst hjk; exact hjun
        · rw [getD_set_ne true hjk] at hun; exact hun
      have hcond : ∀ w', F w' ∧ (clr st ((listed.setIfInBounds i true).setIfInBounds j true) = true → G w') → ¬ (i ∈ st) → F w' ∧ (clr st (listed.setIfInBounds j true) = true → G w') := fun w' h hn =>
        ⟨h.1, fun hc => h.2 (by rw [Array.setIfInBounds_comm _ _ (Ne.symm hji)]; exact clr_set hn hc)⟩
      refine wpOp_mono (fun a' w' h3 => ?_) h2
      have hc := hcond w' h3.2.1 hno
      have hT' := hT listed j oj w' hV hoj hnot hc
      refine ⟨hc, ih (listed.setIfInBounds j true) a' w' hfree' (ready_mono hr (Ne.symm hji)) h3.1 hT'.1 hT'.2 hc.1 hc.2 ?_⟩
      rw [Array.setIfInBounds_comm _ _ hji]
      exact h3.2.2

/-- does every operation of st wait for i? -/
def waitB (md : Region.Mode) (ops : Array Oper) (st : List Nat) (i : Nat) : Bool := st.all fun j => match ops[j]? with | none => true | some o => o.after.any fun e => Region.binds md e && e.on == i
theorem waitB_spec {st : List Nat} {i : Nat} (h : waitB md ops st i = true) : ∀ j, j ∈ st → ∀ oj, ops[j]? = some oj → ∃ e ∈ oj.after, Region.binds md e = true ∧ e.on = i := by
  intro j hj oj ho
  have h1 := List.all_eq_true.1 h j hj
  simp only [ho] at h1
  obtain ⟨k, hk, h2⟩ := Array.any_eq_true.1 h1
  simp only [Bool.and_eq_true, beq_iff_eq] at h2
  exact ⟨_, Array.getElem_mem hk, h2.1, h2.2⟩

/-- take i first: what it reads is G's -/
theorem takeG (i : Nat) {oi : Oper} {v : Value} {fuel : Nat} {listed : Array Bool} {a : Act} {w : World} (hi : ops[i]? = some oi) (hno : st.contains i = false)
    (hs : Region.noSelect ops = true) (hf : Region.free md ops listed i = true) (hr : (Region.ready md ops listed).contains i = true) (hw : waitB md ops st i = true) (hc : clr st listed = true)
    (hQ : ∀ c a w, Q (.panic c) (a.put oi.dst v) w → Q (.panic c) a w) (hy : YieldsIf P ops G oi v a) (hF : F w) (hG : G w)
    (h : wpAnyL P md ops Q F G st fuel (listed.setIfInBounds i true) (a.put oi.dst v) w) : wpAnyL P md ops Q F G st (fuel + 1) listed a w :=
  wpAnyL_first G (fun l => clr st l = true) hi (by simpa using hno) (Region.noSelect_spec hs) hQ
    (fun listed j oj w' hV ho hn hc => by
      have hj : j ∉ st := fun hj => by
        obtain ⟨e, he, hb, hon⟩ := waitB_spec hw j hj oj ho
        exact hn e he hb hon
      have := clr_set hj hV
      exact ⟨hc.2 this, this⟩) fuel listed a w (Region.free_spec hi hf) (by simpa using hr) hy hG hc hF (fun _ => hG) h

/-- take i first: what it reads is F's -/
theorem takeF (i : Nat) {oi : Oper} {v : Value} {fuel : Nat} {listed : Array Bool} {a : Act} {w : World} (hi : ops[i]? = some oi) (hno : st.contains i = false)
    (hs : Region.noSelect ops = true) (hf : Region.free md ops listed i = true) (hr : (Region.ready md ops listed).contains i = true)
    (hQ : ∀ c a w, Q (.panic c) (a.put oi.dst v) w → Q (.panic c) a w) (hy : YieldsIf P ops F oi v a) (hF : F w) (hG : clr st listed = true → G w)
    (h : wpAnyL P md ops Q F G st fuel (listed.setIfInBounds i true) (a.put oi.dst v) w) : wpAnyL P md ops Q F G st (fuel + 1) listed a w :=
  wpAnyL_first F (fun _ => True) hi (by simpa using hno) (Region.noSelect_spec hs) hQ (fun listed j oj w' _ _ _ hc => ⟨hc.1, trivial⟩) fuel listed a w (Region.free_spec hi hf) (by simpa using hr) hy hF trivial hF hG h

theorem allL (rs : List Nat) {fuel : Nat} {listed : Array Bool} {a : Act} {w : World} (hr : Region.ready md ops listed = rs) (hne : rs ≠ [])
    (h : ∀ i ∈ rs, wpOp P ops Q i (fun a' w' => (F w' ∧ (clr st (listed.setIfInBounds i true) = true → G w')) ∧ wpAnyL P md ops Q F G st fuel (listed.setIfInBounds i true) a' w') a w) : wpAnyL P md ops Q F G st (fuel + 1) listed a w :=
  ⟨fun h0 => absurd (hr ▸ h0) hne, hr ▸ h⟩
theorem doneL {listed : Array Bool} {a : Act} {w : World} (hr : Region.ready md ops listed = []) (h : Q .normal a w) : ∀ fuel, wpAnyL P md ops Q F G st fuel listed a w
  | 0 => ⟨hr, h⟩
  | _ + 1 => ⟨fun _ => h, by rw [hr]; simp⟩
theorem stepL {i : Nat} {o : Oper} {K : Act → World → Prop} {a : Act} {w : World} (ho : ops[i]? = some o) (hw : Region.wanted o (yielded ops a.tmps) = true)
    (h : ∀ K' : Act → World → Prop, (∀ a w, K a w → K' a w) → Oper.wp P o a w K' Q) : wpOp P ops Q i K a w := by
  unfold wpOp
  simp only [ho, hw, if_true]
  exact .inl (h K fun _ _ h => h)
end

end Go.Proofs.YtbgfmbmcabekeaaGreatDoor

/-
  package logtree: Append.
-/
namespace Go.Proofs.YtbgfmbmcabekeaaGreatDoor
open Go.RowKit
attribute [local go_sem ↓] Go.wp_at_zero Go.wp_at_succ

theorem rec_info : (Tryz.prog.info? 46).map (fun i => (i.zero, i.size, i.bytes)) = some (some (.agg #[.int .i64 0, .slice none 0 0]), 2, 32) := by kernel_rfl
theorem head_info : (Tryz.prog.info? 86).map (fun i => (i.zero, i.size, i.bytes)) = some (some (.agg #[.int .i64 0, .string ⟨#[]⟩, .string ⟨#[]⟩]), 3, 40) := by kernel_rfl

theorem agKeep {X W : World} {gl gh : Nat} (h : Blk X gl 144 #[.slice none 0 0, .slice (some ⟨gh, 0, none⟩) 1 1]) (k : Below X.heap.size X W) : W.cell? ⟨gl, 0, none⟩ = some (.slice none 0 0) ∧ W.cell? ⟨gl, 1, none⟩ = some (.slice (some ⟨gh, 0, none⟩) 1 1) := ⟨(h.ext k).cell 0, (h.ext k).cell 1⟩

theorem blk_set2 {W : World} {g : Nat} {ty : TypeId} {a b u v : Value} (h : Blk W g ty #[a, b]) : Blk ((W.setCell ⟨g, 0, none⟩ u).setCell ⟨g, 1, none⟩ v) g ty #[u, v] := (h.set_ 0 u).set_ 1 v
theorem log1_of {W : World} {gl gh k c cap : Nat} {A : Option Addr} {z s cz t : ByteArray} {zs : Array Value} (h1 : Blk W gl 144 #[.slice A k c, .slice (some ⟨gh, 0, none⟩) 2 cap]) (hc : 2 ≤ cap)
    (h2 : Blk W gh 86 (#[.int .i64 0, .string z, .string s] ++ (#[.int .i64 1, .string cz, .string t] ++ zs))) : Log1 W gl z s cz t :=
  ⟨gh, A, k, c, cap, zs, h1, hc, by rw [← Array.append_assoc] at h2; exact h2⟩

/-- the record of a log of one record, in memory -/
def RecsAt (w : World) (gl : Nat) : Prop := ∃ gr c g d, w.cell? ⟨gl, 0, none⟩ = some (.slice (some ⟨gr, 0, none⟩) 1 c) ∧ 1 ≤ c ∧ HeadB w gr #[.int .i64 1, .slice (some ⟨g, 0, none⟩) 1 d] ∧ HeadB w g #[.int .i64 0, .int .i64 5, .bool false, .int .i64 0, .int .i64 0, .int .i64 0, .bool true, .int .i64 1, .int .i64 2, .int .i64 3]
theorem RecsAt.ext {w W : World} {gl : Nat} (h : RecsAt w gl) (k : Below w.heap.size w W) : RecsAt W gl := by
  obtain ⟨gr, c, g, d, h1, h2, h3, h4⟩ := h
  exact ⟨gr, c, g, d, cell_ext h1 k, h2, h3.ext k, h4.ext k⟩
theorem HeadB.ext2 {w W : World} {b a a' : Nat} {cs : Array Value} (h : HeadB w b cs) (k : Ext2 a a' w W) (h1 : b ≠ a) (h2 : b ≠ a') : HeadB W b cs :=
  ⟨Nat.lt_of_lt_of_le h.lt k.size, fun i hi => (World.cell?_of_block (k.block b h.lt h1 h2)).trans (h.cells i hi)⟩
theorem logR_of {W : World} {gl gh gr g d c cap : Nat} {z s cz t : ByteArray} {zs rs : Array Value} (h1 : Blk W gl 144 #[.slice (some ⟨gr, 0, none⟩) 1 c, .slice (some ⟨gh, 0, none⟩) 2 cap]) (hc : 2 ≤ cap)
    (h2 : Blk W gh 86 (#[.int .i64 0, .string z, .string s] ++ (#[.int .i64 1, .string cz, .string t] ++ zs)))
    (hr : Blk W gr 46 (#[.int .i64 1, .slice (some ⟨g, 0, none⟩) 1 d] ++ rs)) (hc1 : 1 ≤ c) (hg : HeadB W g #[.int .i64 0, .int .i64 5, .bool false, .int .i64 0, .int .i64 0, .int .i64 0, .bool true, .int .i64 1, .int .i64 2, .int .i64 3]) : Log1 W gl z s cz t ∧ RecsAt W gl :=
  ⟨log1_of h1 hc h2, gr, c, g, d, h1.cell 0, hc1, .of2 hr, hg⟩

/-- facts of the log's blocks, kept by whatever leaves W0's blocks -/
def ApS (W0 : World) (gl gh rb b c : Nat) (z s : ByteArray) (W : World) : Prop :=
  W.cell? ⟨gl, 1, none⟩ = some (.slice (some ⟨gh, 0, none⟩) 1 1) ∧ W.cell? ⟨gh, 0, none⟩ = some (.int .i64 0) ∧ W.cell? ⟨gh, 1, none⟩ = some (.string z) ∧ W.cell? ⟨gh, 2, none⟩ = some (.string s) ∧
  W.cell? ⟨rb, 0, none⟩ = some (.int .i64 1) ∧ W.cell? ⟨rb, 1, none⟩ = some (.slice (some ⟨b, 0, none⟩) 1 c) ∧ Below W0.heap.size W0 W
theorem apKeep {W0 W W' : World} {gl gh rb b c : Nat} {z s : ByteArray} (h : W.cell? ⟨gl, 1, none⟩ = some (.slice (some ⟨gh, 0, none⟩) 1 1) ∧ W.cell? ⟨gh, 0, none⟩ = some (.int .i64 0) ∧ W.cell? ⟨gh, 1, none⟩ = some (.string z) ∧ W.cell? ⟨gh, 2, none⟩ = some (.string s) ∧
  W.cell? ⟨rb, 0, none⟩ = some (.int .i64 1) ∧ W.cell? ⟨rb, 1, none⟩ = some (.slice (some ⟨b, 0, none⟩) 1 c) ∧ Below W0.heap.size W0 W) (hb : Below W.heap.size W W') : W'.cell? ⟨gl, 1, none⟩ = some (.slice (some ⟨gh, 0, none⟩) 1 1) ∧ W'.cell? ⟨gh, 0, none⟩ = some (.int .i64 0) ∧ W'.cell? ⟨gh, 1, none⟩ = some (.string z) ∧ W'.cell? ⟨gh, 2, none⟩ = some (.string s) ∧
  W'.cell? ⟨rb, 0, none⟩ = some (.int .i64 1) ∧ W'.cell? ⟨rb, 1, none⟩ = some (.slice (some ⟨b, 0, none⟩) 1 c) ∧ Below W0.heap.size W0 W' :=
  ⟨cell_ext h.1 hb, cell_ext h.2.1 hb, cell_ext h.2.2.1 hb, cell_ext h.2.2.2.1 hb, cell_ext h.2.2.2.2.1 hb, cell_ext h.2.2.2.2.2.1 hb, ext_call h.2.2.2.2.2.2 hb⟩
theorem apB {W0 W : World} {gl gh rb b c : Nat} {z s : ByteArray} (h : W.cell? ⟨gl, 1, none⟩ = some (.slice (some ⟨gh, 0, none⟩) 1 1) ∧ W.cell? ⟨gh, 0, none⟩ = some (.int .i64 0) ∧ W.cell? ⟨gh, 1, none⟩ = some (.string z) ∧ W.cell? ⟨gh, 2, none⟩ = some (.string s) ∧
  W.cell? ⟨rb, 0, none⟩ = some (.int .i64 1) ∧ W.cell? ⟨rb, 1, none⟩ = some (.slice (some ⟨b, 0, none⟩) 1 c) ∧ Below W0.heap.size W0 W) : Below W0.heap.size W0 W := h.2.2.2.2.2.2

theorem Ext2.alloc {a b : Nat} {w W : World} (h : Ext2 a b w W) (o : Obj) : Ext2 a b w (W.alloc o) := h.ext (ext_new W o)
theorem Ext2.drew1 {a b : Nat} {w W : World} (h : Ext2 a b w W) : Ext2 a b w W.drew := h.drewN 1
theorem Ext2.refl (a b : Nat) (w : World) : Ext2 a b w w := .of_ext (ext_refl w)
theorem aqKeep {X W : World} {gl rb hx b c : Nat} {cz t : ByteArray} (h : Blk X rb 46 #[.int .i64 1, .slice (some ⟨b, 0, none⟩) 1 c] ∧ Blk X hx 86 #[.int .i64 1, .string cz, .string t] ∧ rb ≠ gl ∧ hx ≠ gl) (k : Ext2 gl gl X W) :
    W.cell? ⟨rb, 0, none⟩ = some (.int .i64 1) ∧ W.cell? ⟨rb, 1, none⟩ = some (.slice (some ⟨b, 0, none⟩) 1 c) ∧ W.cell? ⟨hx, 0, none⟩ = some (.int .i64 1) ∧ W.cell? ⟨hx, 1, none⟩ = some (.string cz) ∧ W.cell? ⟨hx, 2, none⟩ = some (.string t) ∧ Ext2 gl gl X W :=
  ⟨(h.1.ext2 k h.2.2.1 h.2.2.1).cell 0, (h.1.ext2 k h.2.2.1 h.2.2.1).cell 1, (h.2.1.ext2 k h.2.2.2 h.2.2.2).cell 0, (h.2.1.ext2 k h.2.2.2 h.2.2.2).cell 1, (h.2.1.ext2 k h.2.2.2 h.2.2.2).cell 2, k⟩

set_option maxRecDepth 100000 in
set_option maxHeartbeats 4000000 in
theorem logAppendR (gl b c : Nat) (z s t : ByteArray) (hz : z.size = 32) (hs : s.size = 32) (ht : t.size = 32) (w : World) (hL : Log0 w gl z s) (hB : HeadB w b #[.int .i64 0, .int .i64 5, .bool false, .int .i64 0, .int .i64 0, .int .i64 0, .bool true, .int .i64 1, .int .i64 2, .int .i64 3]) (hR : RoundOK w) :
    Calls Tryz.prog 41 #[.pointer (some ⟨gl, 0, none⟩), .agg #[.int .i64 1, .slice (some ⟨b, 0, none⟩) 1 c], .string t] w
      fun e w' => e = .returned (.int .i64 0) ∧ (Log1 w' gl z s (chainF z recEnc) t ∧ RecsAt w' gl) ∧ Ext2 gl gl w w' := by
  obtain ⟨ir, hir, hzr0, hzr1, hzr2⟩ := info_parts rec_info
  obtain ⟨ih, hih, hzh0, hzh1, hzh2⟩ := info_parts head_info
  have HNx := Lib.hid (fun (W : World) (h : HeadB W b #[.int .i64 0, .int .i64 5, .bool false, .int .i64 0, .int .i64 0, .int .i64 0, .bool true, .int .i64 1, .int .i64 2, .int .i64 3]) (hR : RoundOK W) => logNext z s t hz hs ht b c W h hR)
  have HOw := Lib.hid (fun (W : World) (h : HeadB W b #[.int .i64 0, .int .i64 5, .bool false, .int .i64 0, .int .i64 0, .int .i64 0, .bool true, .int .i64 1, .int .i64 2, .int .i64 3]) => logOwn b c W h)
  generalize chainF z recEnc = cz at *
  have HR := Lib.hid (hR.below (ext_new w (.cells #[.int .i64 1, .slice (some ⟨b, 0, none⟩) 1 c] 46)))
  have HB := Lib.hid (hB.ext (ext_new w (.cells #[.int .i64 1, .slice (some ⟨b, 0, none⟩) 1 c] 46)))
  have HX := Lib.hid (Blk.new w 46 #[.int .i64 1, .slice (some ⟨b, 0, none⟩) 1 c])
  obtain ⟨gh, hg, hh⟩ := hL.ext (ext_new w (.cells #[.int .i64 1, .slice (some ⟨b, 0, none⟩) 1 c] 46))
  have hgl := hL.choose_spec.1.lt
  have HG := Lib.hid hg
  have HH := Lib.hid hh
  obtain ⟨W0, hW0⟩ : ∃ W0, W0 = w.alloc (.cells #[.int .i64 1, .slice (some ⟨b, 0, none⟩) 1 c] 46) := ⟨_, rfl⟩
  have HE0 := Lib.hid (show Below w.heap.size w W0 by rw [hW0]; exact ext_new _ _)
  rw [← hW0] at HR HB HX HG HH
  have HW0 := Lib.hid hW0
  clear hz hs ht hL hB hR hg hh hW0
  have g0 := HG.out.cell 0; have g1 := HG.out.cell 1
  have h0 := HH.out.cell 0; have h1 := HH.out.cell 1; have h2 := HH.out.cell 2
  have x0 := HX.out.cell 0; have x1 := HX.out.cell 1
  go_enter Tryz.func41, Tryz.ntmps41
  go_wp2_with fail
  rw [← HW0.out]
  have hwr0 : IntKind.i64.wrap 0 = 0 := by decide
  have HS0 := Lib.hid (show W0.cell? ⟨gl, 1, none⟩ = some (.slice (some ⟨gh, 0, none⟩) 1 1) ∧ W0.cell? ⟨gh, 0, none⟩ = some (.int .i64 0) ∧ W0.cell? ⟨gh, 1, none⟩ = some (.string z) ∧ W0.cell? ⟨gh, 2, none⟩ = some (.string s) ∧ W0.cell? ⟨w.heap.size, 0, none⟩ = some (.int .i64 1) ∧ W0.cell? ⟨w.heap.size, 1, none⟩ = some (.slice (some ⟨b, 0, none⟩) 1 c) ∧ Below W0.heap.size W0 W0 from ⟨g1, h0, h1, h2, x0, x1, ext_refl _⟩)
  go_region_held3 (fun w' => w'.cell? ⟨gl, 1, none⟩ = some (.slice (some ⟨gh, 0, none⟩) 1 1) ∧ w'.cell? ⟨gh, 0, none⟩ = some (.int .i64 0) ∧ w'.cell? ⟨gh, 1, none⟩ = some (.string z) ∧ w'.cell? ⟨gh, 2, none⟩ = some (.string s) ∧ w'.cell? ⟨w.heap.size, 0, none⟩ = some (.int .i64 1) ∧ w'.cell? ⟨w.heap.size, 1, none⟩ = some (.slice (some ⟨b, 0, none⟩) 1 c) ∧ Below W0.heap.size W0 w')
    (first | exact apKeep HS0.out (ext_refl W0).drew | assumption | exact apKeep HS0.out hbw | exact apKeep HS0.out (ext_alloc hbw _) | exact apKeep HS0.out (ext_alloc hbw _).drew | exact apKeep HS0.out (ext_new _ _).drew | exact apKeep HS0.out (ext_new _ _) | exact apKeep HS0.out (ext_set (ext_set (ext_set hbw (Nat.le_refl _) _) (Nat.le_refl _) _) (Nat.le_refl _) _))
    (first | (go_at_call 75; (with_reducible refine (HNx.out _ ?_ ?_).mono ?_); (exact HB.out.ext (apB (by assumption))); (exact HR.out.below (apB (by assumption))); rintro e W1 ⟨rfl, hb'⟩; have hbw := ext_call (apB (by assumption)) hb'; try (have hbx := (show Blk W1 W0.heap.size 86 #[.int .i64 0, .string ⟨#[]⟩, .string ⟨#[]⟩] from ((Blk.new W0 _ _).drew).ext hb'); have bx0 := hbx.cell 0; have bx1 := hbx.cell 1; have bx2 := hbx.cell 2; have bf0 := hbx.frozen 0; have bf1 := hbx.frozen 1; have bf2 := hbx.frozen 2; have HBX := Lib.hid hbx; clear hbx)))
  all_goals
    clear hb' hwr0 g0 g1 h0 h1 h2 x0 x1
    first
    | (generalize hX : World.setCell (World.setCell (World.setCell W1 ⟨W0.heap.size, 0, none⟩ (.int .i64 1)) ⟨W0.heap.size, 1, none⟩ (.string cz)) ⟨W0.heap.size, 2, none⟩ (.string t) = X
       have HBx := Lib.hid (show Blk X W0.heap.size 86 #[.int .i64 1, .string cz, .string t] by subst hX; exact ((HBX.out.set_ 0 _).set_ 1 _).set_ 2 _)
       have HEx := Lib.hid (show Below W0.heap.size W0 X by subst hX; exact ext_set (ext_set (ext_set hbw (Nat.le_refl _) _) (Nat.le_refl _) _) (Nat.le_refl _) _)
       have hne : W0.heap.size ≠ gl := by have := HG.out.lt; omega
       clear bx0 bx1 bx2 bf0 bf1 bf2 hX hbw HBX
       generalize W0.heap.size = hx at HBx hne ⊢)
    | (generalize hX : World.alloc W1 (.cells #[.int .i64 1, .string cz, .string t] 86) = X
       have HBx := Lib.hid (show Blk X W1.heap.size 86 #[.int .i64 1, .string cz, .string t] by subst hX; exact Blk.new _ _ _)
       have HEx := Lib.hid (show Below W0.heap.size W0 X by subst hX; exact ext_alloc hbw _)
       have hne : W1.heap.size ≠ gl := by have := HG.out.lt; have := hbw.size; omega
       clear hX hbw
       generalize W1.heap.size = hx at HBx hne ⊢)
    have HGx := Lib.hid (HG.out.ext HEx.out)
    have HHx := Lib.hid (HH.out.ext HEx.out)
    have HXx := Lib.hid (HX.out.ext HEx.out)
    have HCx := Lib.hid (HB.out.ext HEx.out)
    have hrb : w.heap.size ≠ gl := by omega
    have HSX := Lib.hid (And.intro HXx.out (And.intro HBx.out (And.intro hrb hne)))
    have g0 := HGx.out.cell 0; have g1 := HGx.out.cell 1
    have h0 := HHx.out.cell 0; have h1 := HHx.out.cell 1; have h2 := HHx.out.cell 2
    have gf0 := HGx.out.frozen 0
    have gf1 := HGx.out.frozen 1
    have gll := HGx.out.lt
    have ghl := HHx.out.lt
    have hnc : Builtin.nextslicecap 2 1 = 2 := by decide
    have hbt : Tryz.t86.bytes = 40 := by kernel_rfl
    go_wp2
    refine wp_region_L (fun w' => w'.cell? ⟨w.heap.size, 0, none⟩ = some (.int .i64 1) ∧ w'.cell? ⟨w.heap.size, 1, none⟩ = some (.slice (some ⟨b, 0, none⟩) 1 c) ∧ w'.cell? ⟨hx, 0, none⟩ = some (.int .i64 1) ∧ w'.cell? ⟨hx, 1, none⟩ = some (.string cz) ∧ w'.cell? ⟨hx, 2, none⟩ = some (.string t) ∧ Ext2 gl gl X w')
      (fun w' => w'.cell? ⟨gl, 0, none⟩ = some (.slice none 0 0) ∧ w'.cell? ⟨gl, 1, none⟩ = some (.slice (some ⟨gh, 0, none⟩) 1 1)) [19, 22] (by kernel_rfl) ?_
    -- REGION
    refine takeF 0 (v := ?_) rfl (by kernel_rfl) (by kernel_rfl) (by kernel_rfl) (by kernel_rfl) (fun _ _ _ h => h) (Or.inl ⟨by rfl, ?_⟩) (aqKeep HSX.out (by repeat (first | with_reducible refine Ext2.alloc ?_ _ | with_reducible refine Ext2.drew1 ?_ | with_reducible refine Ext2.setA ?_ _ _ | with_reducible assumption | with_reducible exact Ext2.refl _ _ _))) (fun _ => (agKeep HGx.out (by repeat (first | with_reducible refine ext_alloc ?_ _ | with_reducible refine Below.drew ?_ | with_reducible assumption | with_reducible exact ext_refl _)))) ?_
    rotate_left 1
    · (rintro w' ⟨f0, f1, f2, f3, f4, _⟩; go_simp; with_reducible rfl)
    refine takeF 1 (v := ?_) rfl (by kernel_rfl) (by kernel_rfl) (by kernel_rfl) (by kernel_rfl) (fun _ _ _ h => h) (Or.inl ⟨by rfl, ?_⟩) (aqKeep HSX.out (by repeat (first | with_reducible refine Ext2.alloc ?_ _ | with_reducible refine Ext2.drew1 ?_ | with_reducible refine Ext2.setA ?_ _ _ | with_reducible assumption | with_reducible exact Ext2.refl _ _ _))) (fun _ => (agKeep HGx.out (by repeat (first | with_reducible refine ext_alloc ?_ _ | with_reducible refine Below.drew ?_ | with_reducible assumption | with_reducible exact ext_refl _)))) ?_
    rotate_left 1
    · (rintro w' ⟨f0, f1, f2, f3, f4, _⟩; go_simp; with_reducible rfl)
    refine takeF 2 (v := ?_) rfl (by kernel_rfl) (by kernel_rfl) (by kernel_rfl) (by kernel_rfl) (fun _ _ _ h => h) (Or.inl ⟨by rfl, ?_⟩) (aqKeep HSX.out (by repeat (first | with_reducible refine Ext2.alloc ?_ _ | with_reducible refine Ext2.drew1 ?_ | with_reducible refine Ext2.setA ?_ _ _ | with_reducible assumption | with_reducible exact Ext2.refl _ _ _))) (fun _ => (agKeep HGx.out (by repeat (first | with_reducible refine ext_alloc ?_ _ | with_reducible refine Below.drew ?_ | with_reducible assumption | with_reducible exact ext_refl _)))) ?_
    rotate_left 1
    · (rintro w' ⟨f0, f1, f2, f3, f4, _⟩; go_simp; with_reducible rfl)
    refine takeF 3 (v := ?_) rfl (by kernel_rfl) (by kernel_rfl) (by kernel_rfl) (by kernel_rfl) (fun _ _ _ h => h) (Or.inl ⟨by rfl, ?_⟩) (aqKeep HSX.out (by repeat (first | with_reducible refine Ext2.alloc ?_ _ | with_reducible refine Ext2.drew1 ?_ | with_reducible refine Ext2.setA ?_ _ _ | with_reducible assumption | with_reducible exact Ext2.refl _ _ _))) (fun _ => (agKeep HGx.out (by repeat (first | with_reducible refine ext_alloc ?_ _ | with_reducible refine Below.drew ?_ | with_reducible assumption | with_reducible exact ext_refl _)))) ?_
    rotate_left 1
    · (rintro w' ⟨f0, f1, f2, f3, f4, _⟩; go_simp; with_reducible rfl)
    refine takeF 4 (v := ?_) rfl (by kernel_rfl) (by kernel_rfl) (by kernel_rfl) (by kernel_rfl) (fun _ _ _ h => h) (Or.inl ⟨by rfl, ?_⟩) (aqKeep HSX.out (by repeat (first | with_reducible refine Ext2.alloc ?_ _ | with_reducible refine Ext2.drew1 ?_ | with_reducible refine Ext2.setA ?_ _ _ | with_reducible assumption | with_reducible exact Ext2.refl _ _ _))) (fun _ => (agKeep HGx.out (by repeat (first | with_reducible refine ext_alloc ?_ _ | with_reducible refine Below.drew ?_ | with_reducible assumption | with_reducible exact ext_refl _)))) ?_
    rotate_left 1
    · (rintro w' ⟨f0, f1, f2, f3, f4, _⟩; go_simp; with_reducible rfl)
    refine takeG 5 (v := ?_) rfl (by kernel_rfl) (by kernel_rfl) (by kernel_rfl) (by kernel_rfl) (by kernel_rfl) (by kernel_rfl) (fun _ _ _ h => h) (Or.inl ⟨by rfl, ?_⟩) (aqKeep HSX.out (by repeat (first | with_reducible refine Ext2.alloc ?_ _ | with_reducible refine Ext2.drew1 ?_ | with_reducible refine Ext2.setA ?_ _ _ | with_reducible assumption | with_reducible exact Ext2.refl _ _ _))) (agKeep HGx.out (by repeat (first | with_reducible refine ext_alloc ?_ _ | with_reducible refine Below.drew ?_ | with_reducible assumption | with_reducible exact ext_refl _))) ?_
    rotate_left 1
    · (rintro w' ⟨f0, f1⟩; go_simp; with_reducible rfl)
    refine takeF 6 (v := ?_) rfl (by kernel_rfl) (by kernel_rfl) (by kernel_rfl) (by kernel_rfl) (fun _ _ _ h => h) (Or.inl ⟨by rfl, ?_⟩) (aqKeep HSX.out (by repeat (first | with_reducible refine Ext2.alloc ?_ _ | with_reducible refine Ext2.drew1 ?_ | with_reducible refine Ext2.setA ?_ _ _ | with_reducible assumption | with_reducible exact Ext2.refl _ _ _))) (fun _ => (agKeep HGx.out (by repeat (first | with_reducible refine ext_alloc ?_ _ | with_reducible refine Below.drew ?_ | with_reducible assumption | with_reducible exact ext_refl _)))) ?_
    rotate_left 1
    · (rintro w' ⟨f0, f1, f2, f3, f4, _⟩; go_simp; with_reducible rfl)
    refine takeF 10 (v := ?_) rfl (by kernel_rfl) (by kernel_rfl) (by kernel_rfl) (by kernel_rfl) (fun _ _ _ h => h) (Or.inl ⟨by rfl, ?_⟩) (aqKeep HSX.out (by repeat (first | with_reducible refine Ext2.alloc ?_ _ | with_reducible refine Ext2.drew1 ?_ | with_reducible refine Ext2.setA ?_ _ _ | with_reducible assumption | with_reducible exact Ext2.refl _ _ _))) (fun _ => (agKeep HGx.out (by repeat (first | with_reducible refine ext_alloc ?_ _ | with_reducible refine Below.drew ?_ | with_reducible assumption | with_reducible exact ext_refl _)))) ?_
    rotate_left 1
    · (rintro w' ⟨f0, f1, f2, f3, f4, _⟩; go_simp; with_reducible rfl)
    refine takeF 11 (v := ?_) rfl (by kernel_rfl) (by kernel_rfl) (by kernel_rfl) (by kernel_rfl) (fun _ _ _ h => h) (Or.inl ⟨by rfl, ?_⟩) (aqKeep HSX.out (by repeat (first | with_reducible refine Ext2.alloc ?_ _ | with_reducible refine Ext2.drew1 ?_ | with_reducible refine Ext2.setA ?_ _ _ | with_reducible assumption | with_reducible exact Ext2.refl _ _ _))) (fun _ => (agKeep HGx.out (by repeat (first | with_reducible refine ext_alloc ?_ _ | with_reducible refine Below.drew ?_ | with_reducible assumption | with_reducible exact ext_refl _)))) ?_
    rotate_left 1
    · (rintro w' ⟨f0, f1, f2, f3, f4, _⟩; go_simp; with_reducible rfl)
    refine takeF 12 (v := ?_) rfl (by kernel_rfl) (by kernel_rfl) (by kernel_rfl) (by kernel_rfl) (fun _ _ _ h => h) (Or.inl ⟨by rfl, ?_⟩) (aqKeep HSX.out (by repeat (first | with_reducible refine Ext2.alloc ?_ _ | with_reducible refine Ext2.drew1 ?_ | with_reducible refine Ext2.setA ?_ _ _ | with_reducible assumption | with_reducible exact Ext2.refl _ _ _))) (fun _ => (agKeep HGx.out (by repeat (first | with_reducible refine ext_alloc ?_ _ | with_reducible refine Below.drew ?_ | with_reducible assumption | with_reducible exact ext_refl _)))) ?_
    rotate_left 1
    · (rintro w' ⟨f0, f1, f2, f3, f4, _⟩; go_simp; with_reducible rfl)
    refine takeG 13 (v := ?_) rfl (by kernel_rfl) (by kernel_rfl) (by kernel_rfl) (by kernel_rfl) (by kernel_rfl) (by kernel_rfl) (fun _ _ _ h => h) (Or.inl ⟨by rfl, ?_⟩) (aqKeep HSX.out (by repeat (first | with_reducible refine Ext2.alloc ?_ _ | with_reducible refine Ext2.drew1 ?_ | with_reducible refine Ext2.setA ?_ _ _ | with_reducible assumption | with_reducible exact Ext2.refl _ _ _))) (agKeep HGx.out (by repeat (first | with_reducible refine ext_alloc ?_ _ | with_reducible refine Below.drew ?_ | with_reducible assumption | with_reducible exact ext_refl _))) ?_
    rotate_left 1
    · (rintro w' ⟨f0, f1⟩; go_simp; with_reducible rfl)
    refine takeF 14 (v := ?_) rfl (by kernel_rfl) (by kernel_rfl) (by kernel_rfl) (by kernel_rfl) (fun _ _ _ h => h) (Or.inl ⟨by rfl, ?_⟩) (aqKeep HSX.out (by repeat (first | with_reducible refine Ext2.alloc ?_ _ | with_reducible refine Ext2.drew1 ?_ | with_reducible refine Ext2.setA ?_ _ _ | with_reducible assumption | with_reducible exact Ext2.refl _ _ _))) (fun _ => (agKeep HGx.out (by repeat (first | with_reducible refine ext_alloc ?_ _ | with_reducible refine Below.drew ?_ | with_reducible assumption | with_reducible exact ext_refl _)))) ?_
    rotate_left 1
    · (rintro w' ⟨f0, f1, f2, f3, f4, _⟩; go_simp; with_reducible rfl)
    refine allL [7, 15] (by kernel_rfl) (by simp) ?_
    simp only [List.forall_mem_cons, List.not_mem_nil, false_implies, implies_true, and_true]
    refine ⟨?_, ?_⟩
    · refine stepL rfl (by rfl) (fun K hK => ?_)
      go_simp
      go_at_call 76
      refine (HOw.out _ (HCx.out.ext (by repeat (first | with_reducible refine ext_alloc ?_ _ | with_reducible refine Below.drew ?_ | with_reducible assumption | with_reducible exact ext_refl _)))).mono ?_
      rintro e V ⟨go, d, rfl, hgo, hch, hbo⟩
      have HGO := Lib.hid (show go ≠ gl by have h2 := Nat.le_trans (show X.heap.size ≤ _ from (show Below X.heap.size X _ from (by repeat (first | with_reducible refine ext_alloc ?_ _ | with_reducible refine Below.drew ?_ | with_reducible assumption | with_reducible exact ext_refl _))).size) hgo; have h3 := HGx.out.lt; omega)
      have HCH := Lib.hid hch
      clear hgo hch
      have hbX : Below X.heap.size X V := ext_call (by repeat (first | with_reducible refine ext_alloc ?_ _ | with_reducible refine Below.drew ?_ | with_reducible assumption | with_reducible exact ext_refl _)) hbo
      have hv2 : Ext2 gl gl X V := .of_ext hbX
      have hv0 := (HGx.out.ext hbX).cell 0; have hv1 := (HGx.out.ext hbX).cell 1; have vh0 := (HHx.out.ext hbX).cell 0; have vh1 := (HHx.out.ext hbX).cell 1; have vh2 := (HHx.out.ext hbX).cell 2
      have vf0 := (HGx.out.ext hbX).frozen 0; have vf1 := (HGx.out.ext hbX).frozen 1; have vgl := (HGx.out.ext hbX).lt; have vhl := (HHx.out.ext hbX).lt
      have vgl1 : gl < V.heap.size + 1 := by omega
      have vgl2 : gl < V.heap.size + 1 + 1 := by omega
      have vgl3 : gl < V.heap.size + 1 + 1 + 1 := by omega
      have vhl1 : gh < V.heap.size + 1 := by omega
      have vhl2 : gh < V.heap.size + 1 + 1 := by omega
      try (have hnb := (show Blk V X.heap.size 86 #[.int .i64 1, .string cz, .string t] from ((Blk.new X _ _).drew).ext hbo); have nb0 := hnb.cell 0; have nb1 := hnb.cell 1; have nb2 := hnb.cell 2; have nbl := hnb.lt; have nbl1 : X.heap.size < V.heap.size + 1 := (by omega); have nbl2 : X.heap.size < V.heap.size + 1 + 1 := (by omega); clear hnb)
      clear hbo
      refine hK _ _ ⟨⟨aqKeep HSX.out hv2, fun _ => agKeep HGx.out hbX⟩, ?_⟩
      clear hK K
      refine allL [8, 15] (by kernel_rfl) (by simp) ?_
      simp only [List.forall_mem_cons, List.not_mem_nil, false_implies, implies_true, and_true]
      refine ⟨?_, ?_⟩
      · refine stepL rfl (by rfl) (fun K hK => ?_)
        go_simp
        refine hK _ _ ⟨⟨(aqKeep HSX.out (by repeat (first | with_reducible refine Ext2.alloc ?_ _ | with_reducible refine Ext2.drew1 ?_ | with_reducible refine Ext2.setA ?_ _ _ | with_reducible assumption | with_reducible exact Ext2.refl _ _ _))), fun _ => (agKeep HGx.out (by repeat (first | with_reducible refine ext_alloc ?_ _ | with_reducible refine Below.drew ?_ | with_reducible assumption | with_reducible exact ext_refl _)))⟩, ?_⟩
        clear hK K
        refine allL [9, 15] (by kernel_rfl) (by simp) ?_
        simp only [List.forall_mem_cons, List.not_mem_nil, false_implies, implies_true, and_true]
        refine ⟨?_, ?_⟩
        · refine stepL rfl (by rfl) (fun K hK => ?_)
          go_simp
          refine hK _ _ ⟨⟨(aqKeep HSX.out (by repeat (first | with_reducible refine Ext2.alloc ?_ _ | with_reducible refine Ext2.drew1 ?_ | with_reducible refine Ext2.setA ?_ _ _ | with_reducible assumption | with_reducible exact Ext2.refl _ _ _))), fun _ => (agKeep HGx.out (by repeat (first | with_reducible refine ext_alloc ?_ _ | with_reducible refine Below.drew ?_ | with_reducible assumption | with_reducible exact ext_refl _)))⟩, ?_⟩
          clear hK K
          refine allL [15] (by kernel_rfl) (by simp) ?_
          simp only [List.forall_mem_cons, List.not_mem_nil, false_implies, implies_true, and_true]
          refine stepL rfl (by rfl) (fun K hK => ?_)
          go_simp
          refine hK _ _ ⟨⟨(aqKeep HSX.out (by repeat (first | with_reducible refine Ext2.alloc ?_ _ | with_reducible refine Ext2.drew1 ?_ | with_reducible refine Ext2.setA ?_ _ _ | with_reducible assumption | with_reducible exact Ext2.refl _ _ _))), fun _ => (agKeep HGx.out (by repeat (first | with_reducible refine ext_alloc ?_ _ | with_reducible refine Below.drew ?_ | with_reducible assumption | with_reducible exact ext_refl _)))⟩, ?_⟩
          clear hK K
          refine allL [16] (by kernel_rfl) (by simp) ?_
          simp only [List.forall_mem_cons, List.not_mem_nil, false_implies, implies_true, and_true]
          refine stepL rfl (by rfl) (fun K hK => ?_)
          go_simp
          refine hK _ _ ⟨⟨(aqKeep HSX.out (by repeat (first | with_reducible refine Ext2.alloc ?_ _ | with_reducible refine Ext2.drew1 ?_ | with_reducible refine Ext2.setA ?_ _ _ | with_reducible assumption | with_reducible exact Ext2.refl _ _ _))), fun _ => (agKeep HGx.out (by repeat (first | with_reducible refine ext_alloc ?_ _ | with_reducible refine Below.drew ?_ | with_reducible assumption | with_reducible exact ext_refl _)))⟩, ?_⟩
          clear hK K
          refine takeF 17 (v := ?_) rfl (by kernel_rfl) (by kernel_rfl) (by kernel_rfl) (by kernel_rfl) (fun _ _ _ h => h) (Or.inl ⟨by rfl, ?_⟩) (aqKeep HSX.out (by repeat (first | with_reducible refine Ext2.alloc ?_ _ | with_reducible refine Ext2.drew1 ?_ | with_reducible refine Ext2.setA ?_ _ _ | with_reducible assumption | with_reducible exact Ext2.refl _ _ _))) (fun _ => (agKeep HGx.out (by repeat (first | with_reducible refine ext_alloc ?_ _ | with_reducible refine Below.drew ?_ | with_reducible assumption | with_reducible exact ext_refl _)))) ?_
          rotate_left 1
          · (rintro w' ⟨f0, f1, f2, f3, f4, _⟩; go_simp; with_reducible rfl)
          refine takeF 18 (v := ?_) rfl (by kernel_rfl) (by kernel_rfl) (by kernel_rfl) (by kernel_rfl) (fun _ _ _ h => h) (Or.inl ⟨by rfl, ?_⟩) (aqKeep HSX.out (by repeat (first | with_reducible refine Ext2.alloc ?_ _ | with_reducible refine Ext2.drew1 ?_ | with_reducible refine Ext2.setA ?_ _ _ | with_reducible assumption | with_reducible exact Ext2.refl _ _ _))) (fun _ => (agKeep HGx.out (by repeat (first | with_reducible refine ext_alloc ?_ _ | with_reducible refine Below.drew ?_ | with_reducible assumption | with_reducible exact ext_refl _)))) ?_
          rotate_left 1
          · (rintro w' ⟨f0, f1, f2, f3, f4, _⟩; go_simp; with_reducible rfl)
          refine allL [19] (by kernel_rfl) (by simp) ?_
          simp only [List.forall_mem_cons, List.not_mem_nil, false_implies, implies_true, and_true]
          refine stepL rfl (by rfl) (fun K hK => ?_)
          go_simp
          refine hK _ _ ⟨⟨(aqKeep HSX.out (by repeat (first | with_reducible refine Ext2.alloc ?_ _ | with_reducible refine Ext2.drew1 ?_ | with_reducible refine Ext2.setA ?_ _ _ | with_reducible assumption | with_reducible exact Ext2.refl _ _ _))), fun h => absurd h (by decide)⟩, ?_⟩
          clear hK K
          refine takeF 20 (v := ?_) rfl (by kernel_rfl) (by kernel_rfl) (by kernel_rfl) (by kernel_rfl) (fun _ _ _ h => h) (Or.inl ⟨by rfl, ?_⟩) (aqKeep HSX.out (by repeat (first | with_reducible refine Ext2.alloc ?_ _ | with_reducible refine Ext2.drew1 ?_ | with_reducible refine Ext2.setA ?_ _ _ | with_reducible assumption | with_reducible exact Ext2.refl _ _ _))) (fun h => absurd h (by decide)) ?_
          rotate_left 1
          · (rintro w' ⟨f0, f1, f2, f3, f4, _⟩; go_simp; with_reducible rfl)
          refine takeF 21 (v := ?_) rfl (by kernel_rfl) (by kernel_rfl) (by kernel_rfl) (by kernel_rfl) (fun _ _ _ h => h) (Or.inl ⟨by rfl, ?_⟩) (aqKeep HSX.out (by repeat (first | with_reducible refine Ext2.alloc ?_ _ | with_reducible refine Ext2.drew1 ?_ | with_reducible refine Ext2.setA ?_ _ _ | with_reducible assumption | with_reducible exact Ext2.refl _ _ _))) (fun h => absurd h (by decide)) ?_
          rotate_left 1
          · (rintro w' ⟨f0, f1, f2, f3, f4, _⟩; go_simp; with_reducible rfl)
          refine allL [22] (by kernel_rfl) (by simp) ?_
          simp only [List.forall_mem_cons, List.not_mem_nil, false_implies, implies_true, and_true]
          refine stepL rfl (by rfl) (fun K hK => ?_)
          go_simp
          refine hK _ _ ⟨⟨(aqKeep HSX.out (by repeat (first | with_reducible refine Ext2.alloc ?_ _ | with_reducible refine Ext2.drew1 ?_ | with_reducible refine Ext2.setA ?_ _ _ | with_reducible assumption | with_reducible exact Ext2.refl _ _ _))), fun h => absurd h (by decide)⟩, ?_⟩
          clear hK K
          refine doneL (by kernel_rfl) ?_ _
          go_wp2
          go_ret
          refine ⟨rfl, logR_of (by (repeat (first | with_reducible refine Blk.drew ?_ | with_reducible refine Blk.alloc ?_ _)); exact blk_set2 (HGx.out.ext hbX)) (by first | exact grownCap_ge V.drew 2 1 _ | exact grownCap_ge V 2 1 _) (by (repeat (with_reducible refine Blk.drew ?_)); exact Blk.new' _ _ _ (by simp)) (by (repeat (first | with_reducible refine Blk.drew ?_ | exact Blk.new' _ _ _ (by simp; done) | with_reducible refine Blk.alloc ?_ _)); done) (by first | exact grownCap_ge V.drew 1 0 _ | exact grownCap_ge V 1 0 _ | exact grownCap_ge _ 1 0 _) (HCH.out.ext2 (a := gl) (a' := gl) (by (repeat (first | with_reducible refine Ext2.alloc ?_ _ | with_reducible refine Ext2.drew1 ?_ | with_reducible refine Ext2.setA ?_ _ _ | with_reducible exact Ext2.refl _ _ _))) HGO.out HGO.out), ?_⟩
          refine (Ext2.of_ext (ext_call HE0.out HEx.out)).trans ?_
          repeat (first | with_reducible refine Ext2.alloc ?_ _ | with_reducible refine Ext2.drew1 ?_ | with_reducible refine Ext2.setA ?_ _ _ | with_reducible assumption)
        · refine stepL rfl (by rfl) (fun K hK => ?_)
          go_simp
          refine hK _ _ ⟨⟨(aqKeep HSX.out (by repeat (first | with_reducible refine Ext2.alloc ?_ _ | with_reducible refine Ext2.drew1 ?_ | with_reducible refine Ext2.setA ?_ _ _ | with_reducible assumption | with_reducible exact Ext2.refl _ _ _))), fun _ => (agKeep HGx.out (by repeat (first | with_reducible refine ext_alloc ?_ _ | with_reducible refine Below.drew ?_ | with_reducible assumption | with_reducible exact ext_refl _)))⟩, ?_⟩
          clear hK K
          refine allL [9] (by kernel_rfl) (by simp) ?_
          simp only [List.forall_mem_cons, List.not_mem_nil, false_implies, implies_true, and_true]
          refine stepL rfl (by rfl) (fun K hK => ?_)
          go_simp
          refine hK _ _ ⟨⟨(aqKeep HSX.out (by repeat (first | with_reducible refine Ext2.alloc ?_ _ | with_reducible refine Ext2.drew1 ?_ | with_reducible refine Ext2.setA ?_ _ _ | with_reducible assumption | with_reducible exact Ext2.refl _ _ _))), fun _ => (agKeep HGx.out (by repeat (first | with_reducible refine ext_alloc ?_ _ | with_reducible refine Below.drew ?_ | with_reducible assumption | with_reducible exact ext_refl _)))⟩, ?_⟩
          clear hK K
          refine allL [16] (by kernel_rfl) (by simp) ?_
          simp only [List.forall_mem_cons, List.not_mem_nil, false_implies, implies_true, and_true]
          refine stepL rfl (by rfl) (fun K hK => ?_)
          go_simp
          refine hK _ _ ⟨⟨(aqKeep HSX.out (by repeat (first | with_reducible refine Ext2.alloc ?_ _ | with_reducible refine Ext2.drew1 ?_ | with_reducible refine Ext2.setA ?_ _ _ | with_reducible assumption | with_reducible exact Ext2.refl _ _ _))), fun _ => (agKeep HGx.out (by repeat (first | with_reducible refine ext_alloc ?_ _ | with_reducible refine Below.drew ?_ | with_reducible assumption | with_reducible exact ext_refl _)))⟩, ?_⟩
          clear hK K
          refine takeF 17 (v := ?_) rfl (by kernel_rfl) (by kernel_rfl) (by kernel_rfl) (by kernel_rfl) (fun _ _ _ h => h) (Or.inl ⟨by rfl, ?_⟩) (aqKeep HSX.out (by repeat (first | with_reducible refine Ext2.alloc ?_ _ | with_reducible refine Ext2.drew1 ?_ | with_reducible refine Ext2.setA ?_ _ _ | with_reducible assumption | with_reducible exact Ext2.refl _ _ _))) (fun _ => (agKeep HGx.out (by repeat (first | with_reducible refine ext_alloc ?_ _ | with_reducible refine Below.drew ?_ | with_reducible assumption | with_reducible exact ext_refl _)))) ?_
          rotate_left 1
          · (rintro w' ⟨f0, f1, f2, f3, f4, _⟩; go_simp; with_reducible rfl)
          refine takeF 18 (v := ?_) rfl (by kernel_rfl) (by kernel_rfl) (by kernel_rfl) (by kernel_rfl) (fun _ _ _ h => h) (Or.inl ⟨by rfl, ?_⟩) (aqKeep HSX.out (by repeat (first | with_reducible refine Ext2.alloc ?_ _ | with_reducible refine Ext2.drew1 ?_ | with_reducible refine Ext2.setA ?_ _ _ | with_reducible assumption | with_reducible exact Ext2.refl _ _ _))) (fun _ => (agKeep HGx.out (by repeat (first | with_reducible refine ext_alloc ?_ _ | with_reducible refine Below.drew ?_ | with_reducible assumption | with_reducible exact ext_refl _)))) ?_
          rotate_left 1
          · (rintro w' ⟨f0, f1, f2, f3, f4, _⟩; go_simp; with_reducible rfl)
          refine allL [19] (by kernel_rfl) (by simp) ?_
          simp only [List.forall_mem_cons, List.not_mem_nil, false_implies, implies_true, and_true]
          refine stepL rfl (by rfl) (fun K hK => ?_)
          go_simp
          refine hK _ _ ⟨⟨(aqKeep HSX.out (by repeat (first | with_reducible refine Ext2.alloc ?_ _ | with_reducible refine Ext2.drew1 ?_ | with_reducible refine Ext2.setA ?_ _ _ | with_reducible assumption | with_reducible exact Ext2.refl _ _ _))), fun h => absurd h (by decide)⟩, ?_⟩
          clear hK K
          refine takeF 20 (v := ?_) rfl (by kernel_rfl) (by kernel_rfl) (by kernel_rfl) (by kernel_rfl) (fun _ _ _ h => h) (Or.inl ⟨by rfl, ?_⟩) (aqKeep HSX.out (by repeat (first | with_reducible refine Ext2.alloc ?_ _ | with_reducible refine Ext2.drew1 ?_ | with_reducible refine Ext2.setA ?_ _ _ | with_reducible assumption | with_reducible exact Ext2.refl _ _ _))) (fun h => absurd h (by decide)) ?_
          rotate_left 1
          · (rintro w' ⟨f0, f1, f2, f3, f4, _⟩; go_simp; with_reducible rfl)
          refine takeF 21 (v := ?_) rfl (by kernel_rfl) (by kernel_rfl) (by kernel_rfl) (by kernel_rfl) (fun _ _ _ h => h) (Or.inl ⟨by rfl, ?_⟩) (aqKeep HSX.out (by repeat (first | with_reducible refine Ext2.alloc ?_ _ | with_reducible refine Ext2.drew1 ?_ | with_reducible refine Ext2.setA ?_ _ _ | with_reducible assumption | with_reducible exact Ext2.refl _ _ _))) (fun h => absurd h (by decide)) ?_
          rotate_left 1
          · (rintro w' ⟨f0, f1, f2, f3, f4, _⟩; go_simp; with_reducible rfl)
          refine allL [22] (by kernel_rfl) (by simp) ?_
          simp only [List.forall_mem_cons, List.not_mem_nil, false_implies, implies_true, and_true]
          refine stepL rfl (by rfl) (fun K hK => ?_)
          go_simp
          refine hK _ _ ⟨⟨(aqKeep HSX.out (by repeat (first | with_reducible refine Ext2.alloc ?_ _ | with_reducible refine Ext2.drew1 ?_ | with_reducible refine Ext2.setA ?_ _ _ | with_reducible assumption | with_reducible exact Ext2.refl _ _ _))), fun h => absurd h (by decide)⟩, ?_⟩
          clear hK K
          refine doneL (by kernel_rfl) ?_ _
          go_wp2
          go_ret
          refine ⟨rfl, logR_of (by (repeat (first | with_reducible refine Blk.drew ?_ | with_reducible refine Blk.alloc ?_ _)); exact blk_set2 (HGx.out.ext hbX)) (by first | exact grownCap_ge V.drew 2 1 _ | exact grownCap_ge V 2 1 _) (by (repeat (with_reducible refine Blk.drew ?_)); exact Blk.new' _ _ _ (by simp)) (by (repeat (first | with_reducible refine Blk.drew ?_ | exact Blk.new' _ _ _ (by simp; done) | with_reducible refine Blk.alloc ?_ _)); done) (by first | exact grownCap_ge V.drew 1 0 _ | exact grownCap_ge V 1 0 _ | exact grownCap_ge _ 1 0 _) (HCH.out.ext2 (a := gl) (a' := gl) (by (repeat (first | with_reducible refine Ext2.alloc ?_ _ | with_reducible refine Ext2.drew1 ?_ | with_reducible refine Ext2.setA ?_ _ _ | with_reducible exact Ext2.refl _ _ _))) HGO.out HGO.out), ?_⟩
          refine (Ext2.of_ext (ext_call HE0.out HEx.out)).trans ?_
          repeat (first | with_reducible refine Ext2.alloc ?_ _ | with_reducible refine Ext2.drew1 ?_ | with_reducible refine Ext2.setA ?_ _ _ | with_reducible assumption)
      · refine stepL rfl (by rfl) (fun K hK => ?_)
        go_simp
        refine hK _ _ ⟨⟨(aqKeep HSX.out (by repeat (first | with_reducible refine Ext2.alloc ?_ _ | with_reducible refine Ext2.drew1 ?_ | with_reducible refine Ext2.setA ?_ _ _ | with_reducible assumption | with_reducible exact Ext2.refl _ _ _))), fun _ => (agKeep HGx.out (by repeat (first | with_reducible refine ext_alloc ?_ _ | with_reducible refine Below.drew ?_ | with_reducible assumption | with_reducible exact ext_refl _)))⟩, ?_⟩
        clear hK K
        refine allL [8] (by kernel_rfl) (by simp) ?_
        simp only [List.forall_mem_cons, List.not_mem_nil, false_implies, implies_true, and_true]
        refine stepL rfl (by rfl) (fun K hK => ?_)
        go_simp
        refine hK _ _ ⟨⟨(aqKeep HSX.out (by repeat (first | with_reducible refine Ext2.alloc ?_ _ | with_reducible refine Ext2.drew1 ?_ | with_reducible refine Ext2.setA ?_ _ _ | with_reducible assumption | with_reducible exact Ext2.refl _ _ _))), fun _ => (agKeep HGx.out (by repeat (first | with_reducible refine ext_alloc ?_ _ | with_reducible refine Below.drew ?_ | with_reducible assumption | with_reducible exact ext_refl _)))⟩, ?_⟩
        clear hK K
        refine allL [9] (by kernel_rfl) (by simp) ?_
        simp only [List.forall_mem_cons, List.not_mem_nil, false_implies, implies_true, and_true]
        refine stepL rfl (by rfl) (fun K hK => ?_)
        go_simp
        refine hK _ _ ⟨⟨(aqKeep HSX.out (by repeat (first | with_reducible refine Ext2.alloc ?_ _ | with_reducible refine Ext2.drew1 ?_ | with_reducible refine Ext2.setA ?_ _ _ | with_reducible assumption | with_reducible exact Ext2.refl _ _ _))), fun _ => (agKeep HGx.out (by repeat (first | with_reducible refine ext_alloc ?_ _ | with_reducible refine Below.drew ?_ | with_reducible assumption | with_reducible exact ext_refl _)))⟩, ?_⟩
        clear hK K
        refine allL [16] (by kernel_rfl) (by simp) ?_
        simp only [List.forall_mem_cons, List.not_mem_nil, false_implies, implies_true, and_true]
        refine stepL rfl (by rfl) (fun K hK => ?_)
        go_simp
        refine hK _ _ ⟨⟨(aqKeep HSX.out (by repeat (first | with_reducible refine Ext2.alloc ?_ _ | with_reducible refine Ext2.drew1 ?_ | with_reducible refine Ext2.setA ?_ _ _ | with_reducible assumption | with_reducible exact Ext2.refl _ _ _))), fun _ => (agKeep HGx.out (by repeat (first | with_reducible refine ext_alloc ?_ _ | with_reducible refine Below.drew ?_ | with_reducible assumption | with_reducible exact ext_refl _)))⟩, ?_⟩
        clear hK K
        refine takeF 17 (v := ?_) rfl (by kernel_rfl) (by kernel_rfl) (by kernel_rfl) (by kernel_rfl) (fun _ _ _ h => h) (Or.inl ⟨by rfl, ?_⟩) (aqKeep HSX.out (by repeat (first | with_reducible refine Ext2.alloc ?_ _ | with_reducible refine Ext2.drew1 ?_ | with_reducible refine Ext2.setA ?_ _ _ | with_reducible assumption | with_reducible exact Ext2.refl _ _ _))) (fun _ => (agKeep HGx.out (by repeat (first | with_reducible refine ext_alloc ?_ _ | with_reducible refine Below.drew ?_ | with_reducible assumption | with_reducible exact ext_refl _)))) ?_
        rotate_left 1
        · (rintro w' ⟨f0, f1, f2, f3, f4, _⟩; go_simp; with_reducible rfl)
        refine takeF 18 (v := ?_) rfl (by kernel_rfl) (by kernel_rfl) (by kernel_rfl) (by kernel_rfl) (fun _ _ _ h => h) (Or.inl ⟨by rfl, ?_⟩) (aqKeep HSX.out (by repeat (first | with_reducible refine Ext2.alloc ?_ _ | with_reducible refine Ext2.drew1 ?_ | with_reducible refine Ext2.setA ?_ _ _ | with_reducible assumption | with_reducible exact Ext2.refl _ _ _))) (fun _ => (agKeep HGx.out (by repeat (first | with_reducible refine ext_alloc ?_ _ | with_reducible refine Below.drew ?_ | with_reducible assumption | with_reducible exact ext_refl _)))) ?_
        rotate_left 1
        · (rintro w' ⟨f0, f1, f2, f3, f4, _⟩; go_simp; with_reducible rfl)
        refine allL [19] (by kernel_rfl) (by simp) ?_
        simp only [List.forall_mem_cons, List.not_mem_nil, false_implies, implies_true, and_true]
        refine stepL rfl (by rfl) (fun K hK => ?_)
        go_simp
        refine hK _ _ ⟨⟨(aqKeep HSX.out (by repeat (first | with_reducible refine Ext2.alloc ?_ _ | with_reducible refine Ext2.drew1 ?_ | with_reducible refine Ext2.setA ?_ _ _ | with_reducible assumption | with_reducible exact Ext2.refl _ _ _))), fun h => absurd h (by decide)⟩, ?_⟩
        clear hK K
        refine takeF 20 (v := ?_) rfl (by kernel_rfl) (by kernel_rfl) (by kernel_rfl) (by kernel_rfl) (fun _ _ _ h => h) (Or.inl ⟨by rfl, ?_⟩) (aqKeep HSX.out (by repeat (first | with_reducible refine Ext2.alloc ?_ _ | with_reducible refine Ext2.drew1 ?_ | with_reducible refine Ext2.setA ?_ _ _ | with_reducible assumption | with_reducible exact Ext2.refl _ _ _))) (fun h => absurd h (by decide)) ?_
        rotate_left 1
        · (rintro w' ⟨f0, f1, f2, f3, f4, _⟩; go_simp; with_reducible rfl)
        refine takeF 21 (v := ?_) rfl (by kernel_rfl) (by kernel_rfl) (by kernel_rfl) (by kernel_rfl) (fun _ _ _ h => h) (Or.inl ⟨by rfl, ?_⟩) (aqKeep HSX.out (by repeat (first | with_reducible refine Ext2.alloc ?_ _ | with_reducible refine Ext2.drew1 ?_ | with_reducible refine Ext2.setA ?_ _ _ | with_reducible assumption | with_reducible exact Ext2.refl _ _ _))) (fun h => absurd h (by decide)) ?_
        rotate_left 1
        · (rintro w' ⟨f0, f1, f2, f3, f4, _⟩; go_simp; with_reducible rfl)
        refine allL [22] (by kernel_rfl) (by simp) ?_
        simp only [List.forall_mem_cons, List.not_mem_nil, false_implies, implies_true, and_true]
        refine stepL rfl (by rfl) (fun K hK => ?_)
        go_simp
        refine hK _ _ ⟨⟨(aqKeep HSX.out (by repeat (first | with_reducible refine Ext2.alloc ?_ _ | with_reducible refine Ext2.drew1 ?_ | with_reducible refine Ext2.setA ?_ _ _ | with_reducible assumption | with_reducible exact Ext2.refl _ _ _))), fun h => absurd h (by decide)⟩, ?_⟩
        clear hK K
        refine doneL (by kernel_rfl) ?_ _
        go_wp2
        go_ret
        refine ⟨rfl, logR_of (by (repeat (first | with_reducible refine Blk.drew ?_ | with_reducible refine Blk.alloc ?_ _)); exact blk_set2 (HGx.out.ext hbX)) (by first | exact grownCap_ge V.drew 2 1 _ | exact grownCap_ge V 2 1 _) (by (repeat (with_reducible refine Blk.drew ?_)); exact Blk.new' _ _ _ (by simp)) (by (repeat (first | with_reducible refine Blk.drew ?_ | exact Blk.new' _ _ _ (by simp; done) | with_reducible refine Blk.alloc ?_ _)); done) (by first | exact grownCap_ge V.drew 1 0 _ | exact grownCap_ge V 1 0 _ | exact grownCap_ge _ 1 0 _) (HCH.out.ext2 (a := gl) (a' := gl) (by (repeat (first | with_reducible refine Ext2.alloc ?_ _ | with_reducible refine Ext2.drew1 ?_ | with_reducible refine Ext2.setA ?_ _ _ | with_reducible exact Ext2.refl _ _ _))) HGO.out HGO.out), ?_⟩
        refine (Ext2.of_ext (ext_call HE0.out HEx.out)).trans ?_
        repeat (first | with_reducible refine Ext2.alloc ?_ _ | with_reducible refine Ext2.drew1 ?_ | with_reducible refine Ext2.setA ?_ _ _ | with_reducible assumption)
    · refine stepL rfl (by rfl) (fun K hK => ?_)
      go_simp
      refine hK _ _ ⟨⟨(aqKeep HSX.out (by repeat (first | with_reducible refine Ext2.alloc ?_ _ | with_reducible refine Ext2.drew1 ?_ | with_reducible refine Ext2.setA ?_ _ _ | with_reducible assumption | with_reducible exact Ext2.refl _ _ _))), fun _ => (agKeep HGx.out (by repeat (first | with_reducible refine ext_alloc ?_ _ | with_reducible refine Below.drew ?_ | with_reducible assumption | with_reducible exact ext_refl _)))⟩, ?_⟩
      clear hK K
      refine allL [7] (by kernel_rfl) (by simp) ?_
      simp only [List.forall_mem_cons, List.not_mem_nil, false_implies, implies_true, and_true]
      refine stepL rfl (by rfl) (fun K hK => ?_)
      go_simp
      go_at_call 76
      refine (HOw.out _ (HCx.out.ext (by repeat (first | with_reducible refine ext_alloc ?_ _ | with_reducible refine Below.drew ?_ | with_reducible assumption | with_reducible exact ext_refl _)))).mono ?_
      rintro e V ⟨go, d, rfl, hgo, hch, hbo⟩
      have HGO := Lib.hid (show go ≠ gl by have h2 := Nat.le_trans (show X.heap.size ≤ _ from (show Below X.heap.size X _ from (by repeat (first | with_reducible refine ext_alloc ?_ _ | with_reducible refine Below.drew ?_ | with_reducible assumption | with_reducible exact ext_refl _))).size) hgo; have h3 := HGx.out.lt; omega)
      have HCH := Lib.hid hch
      clear hgo hch
      have hbX : Below X.heap.size X V := ext_call (by repeat (first | with_reducible refine ext_alloc ?_ _ | with_reducible refine Below.drew ?_ | with_reducible assumption | with_reducible exact ext_refl _)) hbo
      have hv2 : Ext2 gl gl X V := .of_ext hbX
      have hv0 := (HGx.out.ext hbX).cell 0; have hv1 := (HGx.out.ext hbX).cell 1; have vh0 := (HHx.out.ext hbX).cell 0; have vh1 := (HHx.out.ext hbX).cell 1; have vh2 := (HHx.out.ext hbX).cell 2
      have vf0 := (HGx.out.ext hbX).frozen 0; have vf1 := (HGx.out.ext hbX).frozen 1; have vgl := (HGx.out.ext hbX).lt; have vhl := (HHx.out.ext hbX).lt
      have vgl1 : gl < V.heap.size + 1 := by omega
      have vgl2 : gl < V.heap.size + 1 + 1 := by omega
      have vgl3 : gl < V.heap.size + 1 + 1 + 1 := by omega
      have vhl1 : gh < V.heap.size + 1 := by omega
      have vhl2 : gh < V.heap.size + 1 + 1 := by omega
      try (have hnb := (show Blk V X.heap.size 86 #[.int .i64 1, .string cz, .string t] from ((Blk.new X _ _).drew).ext hbo); have nb0 := hnb.cell 0; have nb1 := hnb.cell 1; have nb2 := hnb.cell 2; have nbl := hnb.lt; have nbl1 : X.heap.size < V.heap.size + 1 := (by omega); have nbl2 : X.heap.size < V.heap.size + 1 + 1 := (by omega); clear hnb)
      clear hbo
      refine hK _ _ ⟨⟨aqKeep HSX.out hv2, fun _ => agKeep HGx.out hbX⟩, ?_⟩
      clear hK K
      refine allL [8] (by kernel_rfl) (by simp) ?_
      simp only [List.forall_mem_cons, List.not_mem_nil, false_implies, implies_true, and_true]
      refine stepL rfl (by rfl) (fun K hK => ?_)
      go_simp
      refine hK _ _ ⟨⟨(aqKeep HSX.out (by repeat (first | with_reducible refine Ext2.alloc ?_ _ | with_reducible refine Ext2.drew1 ?_ | with_reducible refine Ext2.setA ?_ _ _ | with_reducible assumption | with_reducible exact Ext2.refl _ _ _))), fun _ => (agKeep HGx.out (by repeat (first | with_reducible refine ext_alloc ?_ _ | with_reducible refine Below.drew ?_ | with_reducible assumption | with_reducible exact ext_refl _)))⟩, ?_⟩
      clear hK K
      refine allL [9] (by kernel_rfl) (by simp) ?_
      simp only [List.forall_mem_cons, List.not_mem_nil, false_implies, implies_true, and_true]
      refine stepL rfl (by rfl) (fun K hK => ?_)
      go_simp
      refine hK _ _ ⟨⟨(aqKeep HSX.out (by repeat (first | with_reducible refine Ext2.alloc ?_ _ | with_reducible refine Ext2.drew1 ?_ | with_reducible refine Ext2.setA ?_ _ _ | with_reducible assumption | with_reducible exact Ext2.refl _ _ _))), fun _ => (agKeep HGx.out (by repeat (first | with_reducible refine ext_alloc ?_ _ | with_reducible refine Below.drew ?_ | with_reducible assumption | with_reducible exact ext_refl _)))⟩, ?_⟩
      clear hK K
      refine allL [16] (by kernel_rfl) (by simp) ?_
      simp only [List.forall_mem_cons, List.not_mem_nil, false_implies, implies_true, and_true]
      refine stepL rfl (by rfl) (fun K hK => ?_)
      go_simp
      refine hK _ _ ⟨⟨(aqKeep HSX.out (by repeat (first | with_reducible refine Ext2.alloc ?_ _ | with_reducible refine Ext2.drew1 ?_ | with_reducible refine Ext2.setA ?_ _ _ | with_reducible assumption | with_reducible exact Ext2.refl _ _ _))), fun _ => (agKeep HGx.out (by repeat (first | with_reducible refine ext_alloc ?_ _ | with_reducible refine Below.drew ?_ | with_reducible assumption | with_reducible exact ext_refl _)))⟩, ?_⟩
      clear hK K
      refine takeF 17 (v := ?_) rfl (by kernel_rfl) (by kernel_rfl) (by kernel_rfl) (by kernel_rfl) (fun _ _ _ h => h) (Or.inl ⟨by rfl, ?_⟩) (aqKeep HSX.out (by repeat (first | with_reducible refine Ext2.alloc ?_ _ | with_reducible refine Ext2.drew1 ?_ | with_reducible refine Ext2.setA ?_ _ _ | with_reducible assumption | with_reducible exact Ext2.refl _ _ _))) (fun _ => (agKeep HGx.out (by repeat (first | with_reducible refine ext_alloc ?_ _ | with_reducible refine Below.drew ?_ | with_reducible assumption | with_reducible exact ext_refl _)))) ?_
      rotate_left 1
      · (rintro w' ⟨f0, f1, f2, f3, f4, _⟩; go_simp; with_reducible rfl)
      refine takeF 18 (v := ?_) rfl (by kernel_rfl) (by kernel_rfl) (by kernel_rfl) (by kernel_rfl) (fun _ _ _ h => h) (Or.inl ⟨by rfl, ?_⟩) (aqKeep HSX.out (by repeat (first | with_reducible refine Ext2.alloc ?_ _ | with_reducible refine Ext2.drew1 ?_ | with_reducible refine Ext2.setA ?_ _ _ | with_reducible assumption | with_reducible exact Ext2.refl _ _ _))) (fun _ => (agKeep HGx.out (by repeat (first | with_reducible refine ext_alloc ?_ _ | with_reducible refine Below.drew ?_ | with_reducible assumption | with_reducible exact ext_refl _)))) ?_
      rotate_left 1
      · (rintro w' ⟨f0, f1, f2, f3, f4, _⟩; go_simp; with_reducible rfl)
      refine allL [19] (by kernel_rfl) (by simp) ?_
      simp only [List.forall_mem_cons, List.not_mem_nil, false_implies, implies_true, and_true]
      refine stepL rfl (by rfl) (fun K hK => ?_)
      go_simp
      refine hK _ _ ⟨⟨(aqKeep HSX.out (by repeat (first | with_reducible refine Ext2.alloc ?_ _ | with_reducible refine Ext2.drew1 ?_ | with_reducible refine Ext2.setA ?_ _ _ | with_reducible assumption | with_reducible exact Ext2.refl _ _ _))), fun h => absurd h (by decide)⟩, ?_⟩
      clear hK K
      refine takeF 20 (v := ?_) rfl (by kernel_rfl) (by kernel_rfl) (by kernel_rfl) (by kernel_rfl) (fun _ _ _ h => h) (Or.inl ⟨by rfl, ?_⟩) (aqKeep HSX.out (by repeat (first | with_reducible refine Ext2.alloc ?_ _ | with_reducible refine Ext2.drew1 ?_ | with_reducible refine Ext2.setA ?_ _ _ | with_reducible assumption | with_reducible exact Ext2.refl _ _ _))) (fun h => absurd h (by decide)) ?_
      rotate_left 1
      · (rintro w' ⟨f0, f1, f2, f3, f4, _⟩; go_simp; with_reducible rfl)
      refine takeF 21 (v := ?_) rfl (by kernel_rfl) (by kernel_rfl) (by kernel_rfl) (by kernel_rfl) (fun _ _ _ h => h) (Or.inl ⟨by rfl, ?_⟩) (aqKeep HSX.out (by repeat (first | with_reducible refine Ext2.alloc ?_ _ | with_reducible refine Ext2.drew1 ?_ | with_reducible refine Ext2.setA ?_ _ _ | with_reducible assumption | with_reducible exact Ext2.refl _ _ _))) (fun h => absurd h (by decide)) ?_
      rotate_left 1
      · (rintro w' ⟨f0, f1, f2, f3, f4, _⟩; go_simp; with_reducible rfl)
      refine allL [22] (by kernel_rfl) (by simp) ?_
      simp only [List.forall_mem_cons, List.not_mem_nil, false_implies, implies_true, and_true]
      refine stepL rfl (by rfl) (fun K hK => ?_)
      go_simp
      refine hK _ _ ⟨⟨(aqKeep HSX.out (by repeat (first | with_reducible refine Ext2.alloc ?_ _ | with_reducible refine Ext2.drew1 ?_ | with_reducible refine Ext2.setA ?_ _ _ | with_reducible assumption | with_reducible exact Ext2.refl _ _ _))), fun h => absurd h (by decide)⟩, ?_⟩
      clear hK K
      refine doneL (by kernel_rfl) ?_ _
      go_wp2
      go_ret
      refine ⟨rfl, logR_of (by (repeat (first | with_reducible refine Blk.drew ?_ | with_reducible refine Blk.alloc ?_ _)); exact blk_set2 (HGx.out.ext hbX)) (by first | exact grownCap_ge V.drew 2 1 _ | exact grownCap_ge V 2 1 _) (by (repeat (with_reducible refine Blk.drew ?_)); exact Blk.new' _ _ _ (by simp)) (by (repeat (first | with_reducible refine Blk.drew ?_ | exact Blk.new' _ _ _ (by simp; done) | with_reducible refine Blk.alloc ?_ _)); done) (by first | exact grownCap_ge V.drew 1 0 _ | exact grownCap_ge V 1 0 _ | exact grownCap_ge _ 1 0 _) (HCH.out.ext2 (a := gl) (a' := gl) (by (repeat (first | with_reducible refine Ext2.alloc ?_ _ | with_reducible refine Ext2.drew1 ?_ | with_reducible refine Ext2.setA ?_ _ _ | with_reducible exact Ext2.refl _ _ _))) HGO.out HGO.out), ?_⟩
      refine (Ext2.of_ext (ext_call HE0.out HEx.out)).trans ?_
      repeat (first | with_reducible refine Ext2.alloc ?_ _ | with_reducible refine Ext2.drew1 ?_ | with_reducible refine Ext2.setA ?_ _ _ | with_reducible assumption)

theorem logAppend (gl b c : Nat) (z s t : ByteArray) (hz : z.size = 32) (hs : s.size = 32) (ht : t.size = 32) (w : World) (hL : Log0 w gl z s) (hB : HeadB w b #[.int .i64 0, .int .i64 5, .bool false, .int .i64 0, .int .i64 0, .int .i64 0, .bool true, .int .i64 1, .int .i64 2, .int .i64 3]) (hR : RoundOK w) :
    Calls Tryz.prog 41 #[.pointer (some ⟨gl, 0, none⟩), .agg #[.int .i64 1, .slice (some ⟨b, 0, none⟩) 1 c], .string t] w
      fun e w' => e = .returned (.int .i64 0) ∧ Log1 w' gl z s (chainF z recEnc) t ∧ Ext2 gl gl w w' :=
  (logAppendR gl b c z s t hz hs ht w hL hB hR).mono fun _ _ h => ⟨h.1, h.2.1.1, h.2.2⟩

end Go.Proofs.YtbgfmbmcabekeaaGreatDoor
