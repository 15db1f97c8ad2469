/-
  Part 7 of 17: the contracts that the proof of the last part uses; each stands under its own head.
-/
import Derived.Test.YtimoapjhepmehaaGreatDoorJ6
import Derived.BigQuiet
import Derived.Deep.RegionHeld3
import Derived.OrdersHeld
import Derived.Test.YtimoapjhepmehaaGreatDoorJ1
set_option linter.unusedSimpArgs false
set_option linter.unusedVariables false

/-
  package statetree: the index functions of Prove.
-/
namespace Go.Proofs.YtimoapjhepmehaaGreatDoor
open Go.RowKit
attribute [local go_sem ↓] Go.wp_at_zero Go.wp_at_succ

theorem prGeq (bl : Nat) (w : World) (h : Blk w bl 3 #[.int .i64 5]) : Calls Tryz.prog 90 #[.int .i64 5, .pointer (some ⟨bl, 0, none⟩)] w fun e w' => e = .returned (.bool true) ∧ w = w' := by
  have c0 := h.cell 0
  clear h
  go_enter Tryz.func90, Tryz.ntmps90
  go_wp2
  go_ret
  exact ⟨rfl, rfl⟩
theorem prGtr (bl : Nat) (w : World) (h : Blk w bl 3 #[.int .i64 5]) : Calls Tryz.prog 91 #[.int .i64 5, .pointer (some ⟨bl, 0, none⟩)] w fun e w' => e = .returned (.bool false) ∧ w = w' := by
  have c0 := h.cell 0
  clear h
  go_enter Tryz.func91, Tryz.ntmps91
  go_wp2
  go_ret
  exact ⟨rfl, rfl⟩

/-- the boxes of the innermost closure -/
def AtBoxes (f : Nat) (W : World) (bi bc bl : Nat) : Prop := Blk W bi 170 #[.func (.func f) #[] #[.pointer (some ⟨bl, 0, none⟩)]] ∧ Blk W bc 3 #[.int .i64 0] ∧ Blk W bl 3 #[.int .i64 5]
theorem AtBoxes.ext {f : Nat} {w W : World} {bi bc bl : Nat} (h : AtBoxes f w bi bc bl) (k : Below w.heap.size w W) : AtBoxes f W bi bc bl := ⟨h.1.ext k, h.2.1.ext k, h.2.2.ext k⟩
theorem AtBoxes.lo {f : Nat} {W : World} {bi bc bl : Nat} (h : AtBoxes f W bi bc bl) : Blk W bl 3 #[.int .i64 5] := h.2.2
theorem row_value0 (w : World) : Calls Tryz.prog 89 #[.agg #[.int .i64 0, .int .i64 5, .int .i64 10, .int .i64 20, .int .i64 30], .int .i64 0] w fun e w' => e = .returned (.int .i64 5) ∧ Below w.heap.size w w' := value_row 0 (by omega) w

set_option maxRecDepth 100000 in
set_option maxHeartbeats 1000000 in
theorem at_Geq (bi bc bl : Nat) (w : World) (hB : AtBoxes 90 w bi bc bl) :
    Calls Tryz.prog 88 #[.agg #[.int .i64 0, .int .i64 5, .int .i64 10, .int .i64 20, .int .i64 30], .pointer (some ⟨bi, 0, none⟩), .pointer (some ⟨bc, 0, none⟩)] w fun e w' => e = .returned (.bool true) ∧ Below w.heap.size w w' := by
  have HB := Lib.hid (hB.ext (ext_new w (.cells #[.int .i64 0, .int .i64 5, .int .i64 10, .int .i64 20, .int .i64 30] 67)))
  have HR := Lib.hid (Blk.new w 67 #[.int .i64 0, .int .i64 5, .int .i64 10, .int .i64 20, .int .i64 30])
  have i0 := HB.out.1.cell 0
  have k0 := HB.out.2.1.cell 0
  have c0 := HR.out.cell 0; have c1 := HR.out.cell 1; have c2 := HR.out.cell 2; have c3 := HR.out.cell 3; have c4 := HR.out.cell 4
  have il := hB.1.lt
  have kl := hB.2.1.lt
  clear hB
  go_enter Tryz.func88, Tryz.ntmps88
  go_wp2
  go_region_with (first
    | (go_at_call 89; (with_reducible refine (row_value0 _).mono ?_); rintro e W1 ⟨rfl, hb1⟩; have HB1 := Lib.hid (HB.out.ext (undrew hb1)); have HE1 := Lib.hid (ext_call (ext_new w _) (undrew hb1)); have hj0 := HB1.out.1.cell 0; clear hb1)
    | (go_at_call 90; (with_reducible refine (prGeq bl _ HB1.out.lo).mono ?_); rintro e W2 ⟨rfl, rfl⟩))
  all_goals
    go_wp2
    go_ret
    exact ⟨rfl, HE1.out⟩

set_option maxRecDepth 100000 in
set_option maxHeartbeats 1000000 in
theorem at_Gtr (bi bc bl : Nat) (w : World) (hB : AtBoxes 91 w bi bc bl) :
    Calls Tryz.prog 88 #[.agg #[.int .i64 0, .int .i64 5, .int .i64 10, .int .i64 20, .int .i64 30], .pointer (some ⟨bi, 0, none⟩), .pointer (some ⟨bc, 0, none⟩)] w fun e w' => e = .returned (.bool false) ∧ Below w.heap.size w w' := by
  have HB := Lib.hid (hB.ext (ext_new w (.cells #[.int .i64 0, .int .i64 5, .int .i64 10, .int .i64 20, .int .i64 30] 67)))
  have HR := Lib.hid (Blk.new w 67 #[.int .i64 0, .int .i64 5, .int .i64 10, .int .i64 20, .int .i64 30])
  have i0 := HB.out.1.cell 0
  have k0 := HB.out.2.1.cell 0
  have c0 := HR.out.cell 0; have c1 := HR.out.cell 1; have c2 := HR.out.cell 2; have c3 := HR.out.cell 3; have c4 := HR.out.cell 4
  have il := hB.1.lt
  have kl := hB.2.1.lt
  clear hB
  go_enter Tryz.func88, Tryz.ntmps88
  go_wp2
  go_region_with (first
    | (go_at_call 89; (with_reducible refine (row_value0 _).mono ?_); rintro e W1 ⟨rfl, hb1⟩; have HB1 := Lib.hid (HB.out.ext (undrew hb1)); have HE1 := Lib.hid (ext_call (ext_new w _) (undrew hb1)); have hj0 := HB1.out.1.cell 0; clear hb1)
    | (go_at_call 91; (with_reducible refine (prGtr bl _ HB1.out.lo).mono ?_); rintro e W2 ⟨rfl, rfl⟩))
  all_goals
    go_wp2
    go_ret
    exact ⟨rfl, HE1.out⟩

end Go.Proofs.YtimoapjhepmehaaGreatDoor

/-
  package statetree: the index function of Prove; IndexFunc over the rows.
-/
namespace Go.Proofs.YtimoapjhepmehaaGreatDoor
open Go.RowKit
attribute [local go_sem ↓] Go.wp_at_zero Go.wp_at_succ

set_option maxRecDepth 100000 in
set_option maxHeartbeats 1000000 in
theorem idx_Geq (g c bi bc bl : Nat) (zs : Array Value) (w : World) (hg : Blk w g 67 (#[.int .i64 0, .int .i64 5, .int .i64 10, .int .i64 20, .int .i64 30] ++ zs)) (hB : AtBoxes 90 w bi bc bl) :
    Calls Tryz.prog 87 #[.slice (some ⟨g, 0, none⟩) 1 c, .func (.func 88) #[] #[.pointer (some ⟨bi, 0, none⟩), .pointer (some ⟨bc, 0, none⟩)]] w fun e w' => e = .returned (.int .i64 0) ∧ Below w.heap.size w w' := by
  have HB := Lib.hid hB
  obtain ⟨r0, r1, r2, r3, r4⟩ := row_cells hg
  have gl := hg.lt
  clear hB hg
  go_enter Tryz.func87, Tryz.ntmps87
  go_wp2
  refine wp_loop_rounds 2 ?_
  rw [rounds_succ]
  go_wp2_with fail
  refine (at_Geq bi bc bl _ HB.out).mono ?_
  rintro e W1 ⟨rfl, hb1⟩
  have HE1 := Lib.hid hb1
  clear hb1
  go_wp2
  go_ret
  exact ⟨rfl, HE1.out⟩

set_option maxRecDepth 100000 in
set_option maxHeartbeats 1000000 in
theorem idx_Gtr (g c bi bc bl : Nat) (zs : Array Value) (w : World) (hg : Blk w g 67 (#[.int .i64 0, .int .i64 5, .int .i64 10, .int .i64 20, .int .i64 30] ++ zs)) (hB : AtBoxes 91 w bi bc bl) :
    Calls Tryz.prog 87 #[.slice (some ⟨g, 0, none⟩) 1 c, .func (.func 88) #[] #[.pointer (some ⟨bi, 0, none⟩), .pointer (some ⟨bc, 0, none⟩)]] w fun e w' => e = .returned (.int .i64 (-1)) ∧ Below w.heap.size w w' := by
  have HB := Lib.hid hB
  obtain ⟨r0, r1, r2, r3, r4⟩ := row_cells hg
  have gl := hg.lt
  clear hB hg
  go_enter Tryz.func87, Tryz.ntmps87
  go_wp2
  refine wp_loop_rounds 2 ?_
  rw [rounds_succ]
  go_wp2_with fail
  refine (at_Gtr bi bc bl _ HB.out).mono ?_
  rintro e W1 ⟨rfl, hb1⟩
  have HE1 := Lib.hid hb1
  clear hb1
  go_wp2
  rw [rounds_succ]
  go_wp2
  go_ret
  exact ⟨rfl, HE1.out⟩

set_option maxRecDepth 100000 in
set_option maxHeartbeats 1000000 in
theorem index_Geq (bo bc bl : Nat) (v1 v2 : Value) (w : World) (ho : Blk w bo 168 #[v1, v2]) (hr : RowsAt w true v1) (hc : Blk w bc 3 #[.int .i64 0]) (hl : Blk w bl 3 #[.int .i64 5]) :
    Calls Tryz.prog 86 #[.func (.func 90) #[] #[.pointer (some ⟨bl, 0, none⟩)], .pointer (some ⟨bo, 0, none⟩), .pointer (some ⟨bc, 0, none⟩)] w fun e w' => e = .returned (.int .i64 0) ∧ Below w.heap.size w w' := by
  have hmf : ∀ (fn : Fn) (first cap : Array Value) (w : World), (Instr.makeFunc fn first cap).run Tryz.prog w = .ok (.func fn first cap) w := fun _ _ _ _ => rfl
  obtain ⟨h, _⟩ | ⟨_, g, c, zs, rfl, hcap, hg⟩ := hr
  · cases h
  have HB0 := Lib.hid (show AtBoxes 90 (w.alloc (.cells #[.func (.func 90) #[] #[.pointer (some ⟨bl, 0, none⟩)]] 170)) w.heap.size bc bl from ⟨Blk.new _ _ _, hc.alloc _, hl.alloc _⟩)
  have HG0 := Lib.hid (hg.ext (ext_new w (.cells #[.func (.func 90) #[] #[.pointer (some ⟨bl, 0, none⟩)]] 170)))
  have HO0 := Lib.hid (ho.ext (ext_new w (.cells #[.func (.func 90) #[] #[.pointer (some ⟨bl, 0, none⟩)]] 170)))
  have o0 := HO0.out.cell 0
  have ol := ho.lt
  clear ho hc hl hg hcap
  go_enter Tryz.func86, Tryz.ntmps86
  go_wp2_with fail
  refine (idx_Geq g c w.heap.size bc bl zs _ HG0.out HB0.out).mono ?_
  rintro e W1 ⟨rfl, hb1⟩
  have HE1 := Lib.hid (ext_call (ext_new w _) hb1)
  have hO1 := HO0.out.ext hb1
  have p0 := hO1.cell 0
  clear hb1 o0 hO1
  go_wp2
  go_ret
  exact ⟨rfl, HE1.out⟩

set_option maxRecDepth 100000 in
set_option maxHeartbeats 1000000 in
theorem index_Gtr (bo bc bl : Nat) (v1 v2 : Value) (w : World) (ho : Blk w bo 168 #[v1, v2]) (hr : RowsAt w true v1) (hc : Blk w bc 3 #[.int .i64 0]) (hl : Blk w bl 3 #[.int .i64 5]) :
    Calls Tryz.prog 86 #[.func (.func 91) #[] #[.pointer (some ⟨bl, 0, none⟩)], .pointer (some ⟨bo, 0, none⟩), .pointer (some ⟨bc, 0, none⟩)] w fun e w' => e = .returned (.int .i64 1) ∧ Below w.heap.size w w' := by
  have hmf : ∀ (fn : Fn) (first cap : Array Value) (w : World), (Instr.makeFunc fn first cap).run Tryz.prog w = .ok (.func fn first cap) w := fun _ _ _ _ => rfl
  obtain ⟨h, _⟩ | ⟨_, g, c, zs, rfl, hcap, hg⟩ := hr
  · cases h
  have HB0 := Lib.hid (show AtBoxes 91 (w.alloc (.cells #[.func (.func 91) #[] #[.pointer (some ⟨bl, 0, none⟩)]] 170)) w.heap.size bc bl from ⟨Blk.new _ _ _, hc.alloc _, hl.alloc _⟩)
  have HG0 := Lib.hid (hg.ext (ext_new w (.cells #[.func (.func 91) #[] #[.pointer (some ⟨bl, 0, none⟩)]] 170)))
  have HO0 := Lib.hid (ho.ext (ext_new w (.cells #[.func (.func 91) #[] #[.pointer (some ⟨bl, 0, none⟩)]] 170)))
  have o0 := HO0.out.cell 0
  have ol := ho.lt
  clear ho hc hl hg hcap
  go_enter Tryz.func86, Tryz.ntmps86
  go_wp2_with fail
  refine (idx_Gtr g c w.heap.size bc bl zs _ HG0.out HB0.out).mono ?_
  rintro e W1 ⟨rfl, hb1⟩
  have HE1 := Lib.hid (ext_call (ext_new w _) hb1)
  have hO1 := HO0.out.ext hb1
  have p0 := hO1.cell 0
  clear hb1 o0 hO1
  go_wp2
  go_ret
  exact ⟨rfl, HE1.out⟩

set_option maxRecDepth 100000 in
set_option maxHeartbeats 1000000 in
theorem idx_none (a : Option Addr) (c : Nat) (f : Value) (w : World) :
    Calls Tryz.prog 87 #[.slice a 0 c, f] w fun e w' => e = .returned (.int .i64 (-1)) ∧ w = w' := by
  go_enter Tryz.func87, Tryz.ntmps87
  go_wp2
  refine wp_loop_rounds 1 ?_
  rw [rounds_succ]
  go_wp2
  go_ret
  exact ⟨rfl, rfl⟩

set_option maxRecDepth 100000 in
set_option maxHeartbeats 1000000 in
theorem index_none (bo bc n bl : Nat) (v2 : Value) (w : World) (ho : Blk w bo 168 #[.slice none 0 0, v2]) :
    Calls Tryz.prog 86 #[.func (.func n) #[] #[.pointer (some ⟨bl, 0, none⟩)], .pointer (some ⟨bo, 0, none⟩), .pointer (some ⟨bc, 0, none⟩)] w fun e w' => e = .returned (.int .i64 0) ∧ Below w.heap.size w w' := by
  have hmf : ∀ (fn : Fn) (first cap : Array Value) (w : World), (Instr.makeFunc fn first cap).run Tryz.prog w = .ok (.func fn first cap) w := fun _ _ _ _ => rfl
  have hO0 := ho.ext (ext_new w (.cells #[.func (.func n) #[] #[.pointer (some ⟨bl, 0, none⟩)]] 170))
  have o0 := hO0.cell 0
  clear ho hO0
  go_enter Tryz.func86, Tryz.ntmps86
  go_wp2_with (go_at_call 87; refine (idx_none _ _ _ _).mono ?_; rintro e w' ⟨rfl, rfl⟩)
  go_ret
  exact ⟨rfl, ext_new _ _⟩

end Go.Proofs.YtimoapjhepmehaaGreatDoor

/-
  A region that draws its order: operations that read cells which no operation ahead of the region's own last stores changes may be taken first.
-/
namespace Go.Proofs.YtimoapjhepmehaaGreatDoor
open Go.RowKit

/-- no operation of st has come up -/
def clr (st : List Nat) (listed : Array Bool) : Bool := st.all fun j => !(listed.getD j true)
theorem clr_mono {st : List Nat} {listed : Array Bool} {i : Nat} (h : clr st (listed.setIfInBounds i true) = true) : clr st listed = true := by
  unfold clr at *
  rw [List.all_eq_true] at *
  intro k hk
  have h1 := h k hk
  by_cases hki : i = k
  · subst hki
    rcases Nat.lt_or_ge i listed.size with h' | h'
    · simp [h'] at h1
    · rw [Array.setIfInBounds_eq_of_size_le h'] at h1; exact h1
  · rw [getD_set_ne true hki] at h1; exact h1
theorem clr_set {st : List Nat} {listed : Array Bool} {j : Nat} (hj : j ∉ st) (h : clr st listed = true) : clr st (listed.setIfInBounds j true) = true := by
  unfold clr at *
  rw [List.all_eq_true] at *
  intro k hk
  have hne : ¬ j = k := fun e => hj (by rw [e]; exact hk)
  rw [getD_set_ne true hne]
  exact h k hk

section
variable {P : Program} {ops : Array Oper} {Q : Exit → Act → World → Prop} {md : Region.Mode} {F G : World → Prop} {st : List Nat}

/-- whatever order is picked; F holds behind every operation, G as long as no operation of st has come up -/
def wpAnyL (P : Program) (md : Region.Mode) (ops : Array Oper) (Q : Exit → Act → World → Prop) (F G : World → Prop) (st : List Nat) : Nat → Array Bool → Act → World → Prop
  | 0, listed, a, w => Region.ready md ops listed = [] ∧ Q .normal a w
  | fuel + 1, listed, a, w =>
    (Region.ready md ops listed = [] → Q .normal a w) ∧
    ∀ i ∈ Region.ready md ops listed, wpOp P ops Q i (fun a' w' => (F w' ∧ (clr st (listed.setIfInBounds i true) = true → G w')) ∧ wpAnyL P md ops Q F G st fuel (listed.setIfInBounds i true) a' w') a w

theorem wpAny_of_L : ∀ (fuel : Nat) (listed : Array Bool) (a : Act) (w : World), wpAnyL P md ops Q F G st fuel listed a w → wpAny P md ops Q fuel listed a w
  | 0, _, _, _, h => h
  | fuel + 1, _, _, _, h => ⟨h.1, fun i hi => wpOp_mono (fun a' w' h' => wpAny_of_L fuel _ a' w' h'.2) (h.2 i hi)⟩

theorem wp_region_L {id : Nat} {a : Act} {w : World} (F G : World → Prop) (st : List Nat) (hm : P.follows .mixedOrders = true)
    (h : wpAnyL P .any ops Q F G st ops.size (Array.replicate ops.size false) a w.drew) : (Code.region id ops true).wp P Q a w :=
  wp_region_any hm (wpAny_of_L _ _ _ _ h)

/-- T is what the operation i leans on: it holds now, and behind each operation that may come ahead of i -/
theorem wpAnyL_first {i : Nat} {oi : Oper} {v : Value} (T : World → Prop) (inv : Array Bool → Prop) (hi : ops[i]? = some oi) (hno : i ∉ st) (hsel : ∀ (j : Nat) (o : Oper) cs b, ops[j]? = some o → o.op ≠ .select cs b)
    (hQ : ∀ c a w, Q (.panic c) (a.put oi.dst v) w → Q (.panic c) a w)
    (hT : ∀ listed j oj w', inv listed → ops[j]? = some oj → (∀ e ∈ oj.after, Region.binds md e = true → e.on ≠ i) → F w' ∧ (clr st (listed.setIfInBounds j true) = true → G w') → T w' ∧ inv (listed.setIfInBounds j true)) :
    ∀ (fuel : Nat) (listed : Array Bool) (a : Act) (w : World),
      (∀ j oj, ops[j]? = some oj → j ≠ i → listed.getD j true = false → (∀ e ∈ oj.after, Region.binds md e = true → e.on ≠ i) → oi.apart ops oj = true) →
      i ∈ Region.ready md ops listed → YieldsIf P ops T oi v a → T w → inv listed → F w → (clr st listed = true → G w) →
      wpAnyL P md ops Q F G st fuel (listed.setIfInBounds i true) (a.put oi.dst v) w → wpAnyL P md ops Q F G st (fuel + 1) listed a w := by
  intro fuel
  induction fuel with
  | zero =>
    intro listed a w _ hr hy hS _ hF hG H
    refine ⟨fun h => (by rw [h] at hr; cases hr), fun j hj => ?_⟩
    by_cases hji : j = i
    · subst hji; exact hy.wpOp hi hS ⟨⟨hF, fun h => hG (clr_mono h)⟩, H⟩
    · have := ready_mono hj hji
      rw [H.1] at this
      cases this
  | succ fuel ih =>
    intro listed a w hfree hr hy hS hV hF hG H
    refine ⟨fun h => (by rw [h] at hr; cases hr), fun j hj => ?_⟩
    by_cases hji : j = i
    · subst hji; exact hy.wpOp hi hS ⟨⟨hF, fun h => hG (clr_mono h)⟩, H⟩
    · have h1 := H.2 j (ready_mono hj hji)
      obtain ⟨hjun, oj, hoj, hall⟩ := mem_ready.1 hj
      have hun : listed.getD i false = false := by
        have h0 := (mem_ready.1 hr).1
        rcases Nat.lt_or_ge i listed.size with h' | h'
        · simpa [h'] using h0
        · simp [Array.getElem?_eq_none h']
      have hnot : ∀ e ∈ oj.after, Region.binds md e = true → e.on ≠ i := fun e he hb heq => by
        have h1 := hall e he hb
        rw [heq, hun] at h1
        cases h1
      have h2 := wpOp_putIf hoj (hfree j oj hoj hji hjun hnot) (fun cs b => hsel i oi cs b hi) (fun cs b => hsel j oj cs b hoj) hQ hy h1
      have hfree' : ∀ k ok, ops[k]? = some ok → k ≠ i → (listed.setIfInBounds j true).getD k true = false →
          (∀ e ∈ ok.after, Region.binds md e = true → e.on ≠ i) → oi.apart ops ok = true := fun k ok hk hki hun hno => by
        refine hfree k ok hk hki ?_ hno
        by_cases hjk : j = k
        · subst hjk; exact hjun
        · rw [getD_set_ne true hjk] at hun; exact hun
      have hcond : ∀ w', F w' ∧ (clr st ((listed.setIfInBounds i true).setIfInBounds j true) = true → G w') → ¬ (i ∈ st) → F w' ∧ (clr st (listed.setIfInBounds j true) = true → G w') := fun w' h hn =>
        ⟨h.1, fun hc => h.2 (by rw [Array.setIfInBounds_comm _ _ (Ne.symm hji)]; exact clr_set hn hc)⟩
      refine wpOp_mono (fun a' w' h3 => ?_) h2
      have hc := hcond w' h3.2.1 hno
      have hT' := hT listed j oj w' hV hoj hnot hc
      refine ⟨hc, ih (listed.setIfInBounds j true) a' w' hfree' (ready_mono hr (Ne.symm hji)) h3.1 hT'.1 hT'.2 hc.1 hc.2 ?_⟩
      rw [Array.setIfInBounds_comm _ _ hji]
      exact h3.2.2

/-- does every operation of st wait for i? -/
def waitB (md : Region.Mode) (ops : Array Oper) (st : List Nat) (i : Nat) : Bool := st.all fun j => match ops[j]? with | none => true | some o => o.after.any fun e => Region.binds md e && e.on == i
theorem waitB_spec {st : List Nat} {i : Nat} (h : waitB md ops st i = true) : ∀ j, j ∈ st → ∀ oj, ops[j]? = some oj → ∃ e ∈ oj.after, Region.binds md e = true ∧ e.on = i := by
  intro j hj oj ho
  have h1 := List.all_eq_true.1 h j hj
  simp only [ho] at h1
  obtain ⟨k, hk, h2⟩ := Array.any_eq_true.1 h1
  simp only [Bool.and_eq_true, beq_iff_eq] at h2
  exact ⟨_, Array.getElem_mem hk, h2.1, h2.2⟩

/-- take i first: what it reads is G's -/
theorem takeG (i : Nat) {oi : Oper} {v : Value} {fuel : Nat} {listed : Array Bool} {a : Act} {w : World} (hi : ops[i]? = some oi) (hno : st.contains i = false)
    (hs : Region.noSelect ops = true) (hf : Region.free md ops listed i = true) (hr : (Region.ready md ops listed).contains i = true) (hw : waitB md ops st i = true) (hc : clr st listed = true)
    (hQ : ∀ c a w, Q (.panic c) (a.put oi.dst v) w → Q (.panic c) a w) (hy : YieldsIf P ops G oi v a) (hF : F w) (hG : G w)
    (h : wpAnyL P md ops Q F G st fuel (listed.setIfInBounds i true) (a.put oi.dst v) w) : wpAnyL P md ops Q F G st (fuel + 1) listed a w :=
  wpAnyL_first G (fun l => clr st l = true) hi (by simpa using hno) (Region.noSelect_spec hs) hQ
    (fun listed j oj w' hV ho hn hc => by
      have hj : j ∉ st := fun hj => by
        obtain ⟨e, he, hb, hon⟩ := waitB_spec hw j hj oj ho
        exact hn e he hb hon
      have := clr_set hj hV
      exact ⟨hc.2 this, this⟩) fuel listed a w (Region.free_spec hi hf) (by simpa using hr) hy hG hc hF (fun _ => hG) h

/-- take i first: what it reads is F's -/
theorem takeF (i : Nat) {oi : Oper} {v : Value} {fuel : Nat} {listed : Array Bool} {a : Act} {w : World} (hi : ops[i]? = some oi) (hno : st.contains i = false)
    (hs : Region.noSelect ops = true) (hf : Region.free md ops listed i = true) (hr : (Region.ready md ops listed).contains i = true)
    (hQ : ∀ c a w, Q (.panic c) (a.put oi.dst v) w → Q (.panic c) a w) (hy : YieldsIf P ops F oi v a) (hF : F w) (hG : clr st listed = true → G w)
    (h : wpAnyL P md ops Q F G st fuel (listed.setIfInBounds i true) (a.put oi.dst v) w) : wpAnyL P md ops Q F G st (fuel + 1) listed a w :=
  wpAnyL_first F (fun _ => True) hi (by simpa using hno) (Region.noSelect_spec hs) hQ (fun listed j oj w' _ _ _ hc => ⟨hc.1, trivial⟩) fuel listed a w (Region.free_spec hi hf) (by simpa using hr) hy hF trivial hF hG h

theorem allL (rs : List Nat) {fuel : Nat} {listed : Array Bool} {a : Act} {w : World} (hr : Region.ready md ops listed = rs) (hne : rs ≠ [])
    (h : ∀ i ∈ rs, wpOp P ops Q i (fun a' w' => (F w' ∧ (clr st (listed.setIfInBounds i true) = true → G w')) ∧ wpAnyL P md ops Q F G st fuel (listed.setIfInBounds i true) a' w') a w) : wpAnyL P md ops Q F G st (fuel + 1) listed a w :=
  ⟨fun h0 => absurd (hr ▸ h0) hne, hr ▸ h⟩
theorem doneL {listed : Array Bool} {a : Act} {w : World} (hr : Region.ready md ops listed = []) (h : Q .normal a w) : ∀ fuel, wpAnyL P md ops Q F G st fuel listed a w
  | 0 => ⟨hr, h⟩
  | _ + 1 => ⟨fun _ => h, by rw [hr]; simp⟩
theorem stepL {i : Nat} {o : Oper} {K : Act → World → Prop} {a : Act} {w : World} (ho : ops[i]? = some o) (hw : Region.wanted o (yielded ops a.tmps) = true)
    (h : ∀ K' : Act → World → Prop, (∀ a w, K a w → K' a w) → Oper.wp P o a w K' Q) : wpOp P ops Q i K a w := by
  unfold wpOp
  simp only [ho, hw, if_true]
  exact .inl (h K fun _ _ h => h)
end

end Go.Proofs.YtimoapjhepmehaaGreatDoor

/-
  package statetree: Prove.
-/
namespace Go.Proofs.YtimoapjhepmehaaGreatDoor
open Go.RowKit
attribute [local go_sem ↓] Go.wp_at_zero Go.wp_at_succ

theorem keepC1 {X W W' : World} {p : Addr} {u : Value} (h : W.cell? p = some u ∧ Below X.heap.size X W) (hb : Below W.heap.size W W') : W'.cell? p = some u ∧ Below X.heap.size X W' := ⟨cell_ext h.1 hb, ext_call h.2 hb⟩
theorem keepC1B {X W : World} {p : Addr} {u : Value} (h : W.cell? p = some u ∧ Below X.heap.size X W) : Below X.heap.size X W := h.2
theorem keepC4 {X W W' : World} {p q r s : Addr} {u v x y : Value} (h : W.cell? p = some u ∧ W.cell? q = some v ∧ W.cell? r = some x ∧ W.cell? s = some y ∧ Below X.heap.size X W) (hb : Below W.heap.size W W') :
    W'.cell? p = some u ∧ W'.cell? q = some v ∧ W'.cell? r = some x ∧ W'.cell? s = some y ∧ Below X.heap.size X W' := ⟨cell_ext h.1 hb, cell_ext h.2.1 hb, cell_ext h.2.2.1 hb, cell_ext h.2.2.2.1 hb, ext_call h.2.2.2.2 hb⟩
theorem keepC4B {X W : World} {p q r s : Addr} {u v x y : Value} (h : W.cell? p = some u ∧ W.cell? q = some v ∧ W.cell? r = some x ∧ W.cell? s = some y ∧ Below X.heap.size X W) : Below X.heap.size X W := h.2.2.2.2

theorem blk_set9 {W : World} {g : Nat} {ty : TypeId} {a0 a1 a2 a3 a4 a5 a6 a7 a8 u0 u1 u2 u3 u4 u5 u6 u7 u8 : Value} (h : Blk W g ty #[a0, a1, a2, a3, a4, a5, a6, a7, a8]) : Blk (((((((((W.setCell ⟨g, 0, none⟩ u0).setCell ⟨g, 1, none⟩ u1).setCell ⟨g, 2, none⟩ u2).setCell ⟨g, 3, none⟩ u3).setCell ⟨g, 4, none⟩ u4).setCell ⟨g, 5, none⟩ u5).setCell ⟨g, 6, none⟩ u6).setCell ⟨g, 7, none⟩ u7).setCell ⟨g, 8, none⟩ u8) g ty #[u0, u1, u2, u3, u4, u5, u6, u7, u8] := by
  have h9 := ((((((((h.set_ 0 u0).set_ 1 u1).set_ 2 u2).set_ 3 u3).set_ 4 u4).set_ 5 u5).set_ 6 u6).set_ 7 u7).set_ 8 u8
  simpa using h9
theorem ext_set9 {w W : World} {g : Nat} {u0 u1 u2 u3 u4 u5 u6 u7 u8 : Value} (h : Below w.heap.size w W) (hg : w.heap.size ≤ g) : Below w.heap.size w (((((((((W.setCell ⟨g, 0, none⟩ u0).setCell ⟨g, 1, none⟩ u1).setCell ⟨g, 2, none⟩ u2).setCell ⟨g, 3, none⟩ u3).setCell ⟨g, 4, none⟩ u4).setCell ⟨g, 5, none⟩ u5).setCell ⟨g, 6, none⟩ u6).setCell ⟨g, 7, none⟩ u7).setCell ⟨g, 8, none⟩ u8) := ext_set (ext_set (ext_set (ext_set (ext_set (ext_set (ext_set (ext_set (ext_set h hg _) hg _) hg _) hg _) hg _) hg _) hg _) hg _) hg _
theorem heap_set9 {W : World} {g k : Nat} {u0 u1 u2 u3 u4 u5 u6 u7 u8 : Value} (h : k ≠ g) : (((((((((W.setCell ⟨g, 0, none⟩ u0).setCell ⟨g, 1, none⟩ u1).setCell ⟨g, 2, none⟩ u2).setCell ⟨g, 3, none⟩ u3).setCell ⟨g, 4, none⟩ u4).setCell ⟨g, 5, none⟩ u5).setCell ⟨g, 6, none⟩ u6).setCell ⟨g, 7, none⟩ u7).setCell ⟨g, 8, none⟩ u8).heap[k]? = W.heap[k]? := by
  rw [Below.heap_setCell _ _ _ _ h, Below.heap_setCell _ _ _ _ h, Below.heap_setCell _ _ _ _ h, Below.heap_setCell _ _ _ _ h, Below.heap_setCell _ _ _ _ h, Below.heap_setCell _ _ _ _ h, Below.heap_setCell _ _ _ _ h, Below.heap_setCell _ _ _ _ h, Below.heap_setCell _ _ _ _ h]
theorem existsYes (w : World) : Calls Tryz.prog 84 #[.int .i64 0, .int .i64 0] w fun e w' => e = .returned (.bool true) ∧ w = w' := by
  go_enter Tryz.func84, Tryz.ntmps84
  go_wp2
  go_ret
  exact ⟨rfl, rfl⟩

theorem strs_slice' {S : Nat → Prop} {w : World} {v : Value} {l : List ByteArray} (h : Strs S w v l) : ∃ A n c, v = .slice A n c := by
  obtain ⟨A, c, rfl, _⟩ := h
  exact ⟨_, _, _, rfl⟩
theorem rows_none {W : World} {v : Value} (h : RowsAt W false v) : v = .slice none 0 0 := by
  rcases h with ⟨_, h⟩ | ⟨h, _⟩
  · exact h
  · cases h
theorem rows_one {W : World} {v : Value} (h : RowsAt W true v) : ∃ g c zs, v = .slice (some ⟨g, 0, none⟩) 1 c ∧ 1 ≤ c ∧ Blk W g 67 (#[.int .i64 0, .int .i64 5, .int .i64 10, .int .i64 20, .int .i64 30] ++ zs) := by
  rcases h with ⟨h, _⟩ | ⟨_, h⟩
  · cases h
  · exact h
theorem order0 (gs gm : Nat) (pos : Int) (w : World) (hS : StateIs w false gs gm pos) :
    Calls Tryz.prog 85 #[.pointer (some ⟨gs, 0, none⟩), .int .i64 0, .int .i64 0] w fun e w' => ∃ A n c, e = .returned (.agg #[.slice none 0 0, .slice A n c]) ∧ Below w.heap.size w w' := by
  refine (orderOf_any false gs gm 0 pos 0 (by omega) w hS).mono ?_
  rintro e W1 ⟨v1, v2, rfl, ho, hb1⟩
  obtain ⟨A1, n1, c1, A2, n2, c2, rfl, rfl⟩ := order_slices ho
  have h1 := rows_none (v := .slice A1 n1 c1) (W := W1) ho.1
  injection h1 with a b c
  subst a b c
  exact ⟨_, _, _, rfl, hb1⟩
theorem order1 (gs gm : Nat) (pos : Int) (w : World) (hS : StateIs w true gs gm pos) :
    Calls Tryz.prog 85 #[.pointer (some ⟨gs, 0, none⟩), .int .i64 0, .int .i64 0] w fun e w' =>
      ∃ g k zs A n c, e = .returned (.agg #[.slice (some ⟨g, 0, none⟩) 1 k, .slice A n c]) ∧ 1 ≤ k ∧ Blk w' g 67 (#[.int .i64 0, .int .i64 5, .int .i64 10, .int .i64 20, .int .i64 30] ++ zs) ∧ Strs (fun _ => True) w' (.slice A n c) [rowEnc] ∧ Below w.heap.size w w' := by
  refine (orderOf_any true gs gm 0 pos 0 (by omega) w hS).mono ?_
  rintro e W1 ⟨v1, v2, rfl, ho, hb1⟩
  obtain ⟨A1, n1, c1, A2, n2, c2, rfl, rfl⟩ := order_slices ho
  obtain ⟨g, k, zs, h1, h2, h3⟩ := rows_one (v := .slice A1 n1 c1) (W := W1) ho.1
  injection h1 with a b c
  subst a b c
  exact ⟨_, _, _, _, _, _, rfl, h2, h3, ho.2, hb1⟩

theorem sumsAny (one : Bool) (gs gm : Nat) (pos : Int) (w : World) (hS : StateIs w one gs gm pos) (hR : RoundOK w) :
    Calls Tryz.prog 70 #[.pointer (some ⟨gs, 0, none⟩)] w fun e w' => ∃ A n c, e = .returned (.slice A n c) ∧ Strs (fun b => w.heap.size ≤ b) w' (.slice A n c) (sums one 16) ∧ Below w.heap.size w w' := by
  refine (summaries_any one gs gm pos w hS hR).mono ?_
  rintro e W1 ⟨v, rfl, hs, hb⟩
  obtain ⟨A, n, c, rfl⟩ := strs_slice' hs
  exact ⟨A, n, c, rfl, hs, hb⟩

set_option maxRecDepth 100000 in
set_option maxHeartbeats 1000000 in
theorem prove0 (gs gm : Nat) (pos : Int) (w : World) (hS : StateIs w false gs gm pos) (hR : RoundOK w) :
    Calls Tryz.prog 49 #[.pointer (some ⟨gs, 0, none⟩), .int .i64 0, .int .i64 0, .int .i64 0, .int .i64 0] w
      fun e w' => ∃ A n c, e = .returned (.tuple #[.agg #[.int .i64 0, .int .i64 0, .int .i64 0, .int .i64 0, .int .i64 0, .int .i64 0, .slice none 0 0, .slice none 0 0, .slice A n c], .int .i64 0]) ∧ Strs (fun _ => True) w' (.slice A n c) (sums false 16) ∧ Below w.heap.size w w' := by
  have hmf : ∀ (fn : Fn) (first cap : Array Value) (w : World), (Instr.makeFunc fn first cap).run Tryz.prog w = .ok (.func fn first cap) w := fun _ _ _ _ => rfl
  obtain ⟨W0, hW0⟩ : ∃ W0, W0 = (((w.alloc (.cells #[.int .i64 0] 3)).alloc (.cells #[.int .i64 0] 3)).alloc (.cells #[.int .i64 0] 3)).alloc (.cells #[.int .i64 0, .int .i64 0, .int .i64 0, .int .i64 0, .int .i64 0, .int .i64 0, .slice none 0 0, .slice none 0 0, .slice none 0 0] 126) := ⟨_, rfl⟩
  have HE0 := Lib.hid (show Below w.heap.size w W0 by rw [hW0]; exact ext_alloc (ext_alloc (ext_alloc (ext_new _ _) _) _) _)
  have HC0 := Lib.hid (show Blk W0 w.heap.size 3 #[.int .i64 0] by rw [hW0]; exact (((Blk.new _ _ _).alloc _).alloc _).alloc _)
  have HL0 := Lib.hid (show Blk W0 (w.heap.size + 1) 3 #[.int .i64 0] by rw [hW0]; exact ((Blk.new' _ _ _ (by simp)).alloc _).alloc _)
  have HH0 := Lib.hid (show Blk W0 (w.heap.size + 1 + 1) 3 #[.int .i64 0] by rw [hW0]; exact (Blk.new' _ _ _ (by simp)).alloc _)
  have HP0 := Lib.hid (show Blk W0 (w.heap.size + 1 + 1 + 1) 126 #[.int .i64 0, .int .i64 0, .int .i64 0, .int .i64 0, .int .i64 0, .int .i64 0, .slice none 0 0, .slice none 0 0, .slice none 0 0] by rw [hW0]; exact Blk.new' _ _ _ (by simp))
  have HS := Lib.hid hS
  have HR := Lib.hid hR
  have HW0 := Lib.hid hW0
  clear hW0 hS hR
  go_enter Tryz.func49, Tryz.ntmps49
  go_wp2_with (go_at_call 84; refine (existsYes _).mono ?_; rintro e w' ⟨rfl, rfl⟩)
  rw [← HW0.out]
  refine (order0 gs gm pos W0 (HS.out.ext HE0.out)).mono ?_
  rintro e W1 ⟨A, n, c, rfl, hb1⟩
  have HE1 := Lib.hid (ext_call HE0.out hb1)
  have HC1 := Lib.hid (HC0.out.ext hb1)
  have HL1 := Lib.hid (HL0.out.ext hb1)
  have HH1 := Lib.hid (HH0.out.ext hb1)
  have HP1 := Lib.hid (HP0.out.ext hb1)
  clear hb1
  go_wp2_with fail
  refine (index_none W1.heap.size w.heap.size 90 (w.heap.size + 1) (.slice A n c) _ (Blk.new _ _ _)).mono ?_
  rintro e X ⟨rfl, hbx⟩
  have hEx := ext_call (ext_alloc HE1.out _) hbx
  have HCx := Lib.hid ((HC1.out.alloc _).ext hbx)
  have HLx := Lib.hid ((HL1.out.alloc _).ext hbx)
  have HHx := Lib.hid ((HH1.out.alloc _).ext hbx)
  have HPx := Lib.hid ((HP1.out.alloc _).ext hbx)
  have HOx := Lib.hid ((Blk.new W1 168 #[.slice none 0 0, .slice A n c]).ext hbx)
  have HBo := Lib.hid (show w.heap.size + 1 + 1 + 1 < W1.heap.size from HP1.out.lt)
  have HEx := Lib.hid hEx
  clear hbx hEx HC1 HL1 HH1 HP1 HE1 HC0 HL0 HH0 HP0
  generalize W1.heap.size = bo at *
  have o0 := HOx.out.cell 0
  have hmx : max (-1 : Int) 0 = 0 := by decide
  have hmn : min (IntKind.i64.wrap 1) 0 = 0 := by decide
  have HK0 := Lib.hid (show X.cell? ⟨bo, 0, none⟩ = some (.slice none 0 0) ∧ Below X.heap.size X X from ⟨o0, ext_refl X⟩)
  go_wp2
  go_region_held3 (fun w' => w'.cell? ⟨bo, 0, none⟩ = some (.slice none 0 0) ∧ Below X.heap.size X w')
    (first | exact keepC1 HK0.out (ext_refl X).drew | assumption | exact keepC1 (by assumption) (by assumption))
    (first | (go_at_call 86; (with_reducible refine (index_none bo w.heap.size 91 (w.heap.size + 1 + 1) (.slice A n c) _ ?_).mono ?_); (exact HOx.out.ext (keepC1B (by assumption))); rintro e Y ⟨rfl, hb'⟩))
  have HEy := Lib.hid (ext_call HEx.out (undrew hb'))
  have HCy := Lib.hid (HCx.out.ext (undrew hb'))
  have HLy := Lib.hid (HLx.out.ext (undrew hb'))
  have HHy := Lib.hid (HHx.out.ext (undrew hb'))
  have HPy := Lib.hid (HPx.out.ext (undrew hb'))
  have HOy := Lib.hid (HOx.out.ext (undrew hb'))
  have HSy := Lib.hid (HS.out.ext HEy.out)
  have HRy := Lib.hid (HR.out.below HEy.out)
  clear hb' o0 HCx HLx HHx HPx HOx HEx HK0
  have k0 := HCy.out.cell 0
  have l0 := HLy.out.cell 0
  have h0 := HHy.out.cell 0
  have o0 := HOy.out.cell 0
  have HK1 := Lib.hid (show Y.cell? ⟨w.heap.size, 0, none⟩ = some (.int .i64 0) ∧ Y.cell? ⟨w.heap.size + 1, 0, none⟩ = some (.int .i64 0) ∧ Y.cell? ⟨w.heap.size + 1 + 1, 0, none⟩ = some (.int .i64 0) ∧ Y.cell? ⟨bo, 0, none⟩ = some (.slice none 0 0) ∧ Below Y.heap.size Y Y from ⟨k0, l0, h0, o0, ext_refl Y⟩)
  go_wp2
  go_region_held3 (fun w' => w'.cell? ⟨w.heap.size, 0, none⟩ = some (.int .i64 0) ∧ w'.cell? ⟨w.heap.size + 1, 0, none⟩ = some (.int .i64 0) ∧ w'.cell? ⟨w.heap.size + 1 + 1, 0, none⟩ = some (.int .i64 0) ∧ w'.cell? ⟨bo, 0, none⟩ = some (.slice none 0 0) ∧ Below Y.heap.size Y w')
    (first | with_reducible assumption | exact keepC4 HK1.out (by repeat (first | with_reducible refine ext_alloc ?_ _ | with_reducible refine Below.drew ?_ | with_reducible assumption | with_reducible exact ext_refl _ | refine ext_set ?_ (Nat.le_refl _) _)))
    (first | (go_at_call 70; (with_reducible refine (sumsAny false gs gm pos _ ?_ ?_).mono ?_); (exact HSy.out.ext (keepC4B (by assumption))); (exact HRy.out.below (keepC4B (by assumption))); rintro e Z ⟨B, m, d, rfl, hs', hb'⟩; have hYZ := ext_call (keepC4B (by assumption)) hb'; try (have hbx := (show Blk Z Y.heap.size 126 #[.int .i64 0, .int .i64 0, .int .i64 0, .int .i64 0, .int .i64 0, .int .i64 0, .slice none 0 0, .slice none 0 0, .slice none 0 0] from ((Blk.new Y _ _).drew).ext hb'); have bx0 := hbx.cell 0; have bf0 := hbx.frozen 0; have bx1 := hbx.cell 1; have bf1 := hbx.frozen 1; have bx2 := hbx.cell 2; have bf2 := hbx.frozen 2; have bx3 := hbx.cell 3; have bf3 := hbx.frozen 3; have bx4 := hbx.cell 4; have bf4 := hbx.frozen 4; have bx5 := hbx.cell 5; have bf5 := hbx.frozen 5; have bx6 := hbx.cell 6; have bf6 := hbx.frozen 6; have bx7 := hbx.cell 7; have bf7 := hbx.frozen 7; have bx8 := hbx.cell 8; have bf8 := hbx.frozen 8; have HBX := Lib.hid hbx; clear hbx)))
  all_goals
    first
    | (generalize hV : (World.setCell (World.setCell (World.setCell (World.setCell (World.setCell (World.setCell (World.setCell (World.setCell (World.setCell Z ⟨Y.heap.size, 0, none⟩ (.int .i64 0)) ⟨Y.heap.size, 1, none⟩ (.int .i64 0)) ⟨Y.heap.size, 2, none⟩ (.int .i64 0)) ⟨Y.heap.size, 3, none⟩ (.int .i64 0)) ⟨Y.heap.size, 4, none⟩ (.int .i64 0)) ⟨Y.heap.size, 5, none⟩ (.int .i64 0)) ⟨Y.heap.size, 6, none⟩ (.slice none 0 0)) ⟨Y.heap.size, 7, none⟩ (.slice none 0 0)) ⟨Y.heap.size, 8, none⟩ (.slice B m d)) = V
       have HPv := Lib.hid (show Blk V Y.heap.size 126 #[.int .i64 0, .int .i64 0, .int .i64 0, .int .i64 0, .int .i64 0, .int .i64 0, .slice none 0 0, .slice none 0 0, .slice B m d] by subst hV; exact blk_set9 HBX.out)
       have HEv := Lib.hid (show Below Y.heap.size Y V by subst hV; exact ext_set9 hYZ (Nat.le_refl _))
       have HSv := Lib.hid (show Strs (fun b => w.heap.size + 1 + 1 + 1 < b) V (.slice B m d) (sums false 16) by subst hV; exact (hs'.keep (fun k hk _ => heap_set9 (by simp at hk; omega))).mono (fun _ hk _ => by have := HPy.out.lt; simp at hk; omega))
       clear bx0 bf0 bx1 bf1 bx2 bf2 bx3 bf3 bx4 bf4 bx5 bf5 bx6 bf6 bx7 bf7 bx8 bf8 hV HBX hb' hs' hYZ
       generalize Y.heap.size = bp at HPv ⊢)
    | (generalize hV : World.alloc Z (.cells #[.int .i64 0, .int .i64 0, .int .i64 0, .int .i64 0, .int .i64 0, .int .i64 0, .slice none 0 0, .slice none 0 0, .slice B m d] 126) = V
       have HPv := Lib.hid (show Blk V Z.heap.size 126 #[.int .i64 0, .int .i64 0, .int .i64 0, .int .i64 0, .int .i64 0, .int .i64 0, .slice none 0 0, .slice none 0 0, .slice B m d] by subst hV; exact Blk.new _ _ _)
       have HEv := Lib.hid (show Below Y.heap.size Y V by subst hV; exact ext_alloc hYZ _)
       have HSv := Lib.hid (show Strs (fun b => w.heap.size + 1 + 1 + 1 < b) V (.slice B m d) (sums false 16) by subst hV; exact (hs'.below (ext_new _ _)).mono (fun _ hk _ => by have := HPy.out.lt; simp at hk; omega))
       clear hV hb' hs' hYZ
       generalize Z.heap.size = bp at HPv ⊢)
  all_goals
    have HRv := Lib.hid (HPy.out.ext HEv.out)
    have HEw := Lib.hid (ext_call HEy.out HEv.out)
    clear k0 l0 h0 o0 HK1 HCy HLy HHy HPy HOy HSy HRy HEy HEv hmx hmn
    have r0 := HRv.out.cell 0; have r1 := HRv.out.cell 1; have r2 := HRv.out.cell 2; have r3 := HRv.out.cell 3; have r4 := HRv.out.cell 4; have r5 := HRv.out.cell 5; have r6 := HRv.out.cell 6; have r7 := HRv.out.cell 7; have r8 := HRv.out.cell 8
    have q0 := HPv.out.cell 0; have q1 := HPv.out.cell 1; have q2 := HPv.out.cell 2; have q3 := HPv.out.cell 3; have q4 := HPv.out.cell 4; have q5 := HPv.out.cell 5; have q6 := HPv.out.cell 6; have q7 := HPv.out.cell 7; have q8 := HPv.out.cell 8
    have f0 := HRv.out.frozen 0; have f1 := HRv.out.frozen 1; have f2 := HRv.out.frozen 2; have f3 := HRv.out.frozen 3; have f4 := HRv.out.frozen 4; have f5 := HRv.out.frozen 5; have f6 := HRv.out.frozen 6; have f7 := HRv.out.frozen 7; have f8 := HRv.out.frozen 8
    go_wp2
    refine wp_loop_rounds 1 ?_
    rw [rounds_succ]
    go_wp2
    have hBf := blk_set9 (u0 := .int .i64 0) (u1 := .int .i64 0) (u2 := .int .i64 0) (u3 := .int .i64 0) (u4 := .int .i64 0) (u5 := .int .i64 0) (u6 := .slice none 0 0) (u7 := .slice none 0 0) (u8 := .slice B m d) HRv.out
    have y0 := hBf.cell 0; have y1 := hBf.cell 1; have y2 := hBf.cell 2; have y3 := hBf.cell 3; have y4 := hBf.cell 4; have y5 := hBf.cell 5; have y6 := hBf.cell 6; have y7 := hBf.cell 7; have y8 := hBf.cell 8
    refine bodyPost_ret (v := .tuple #[.agg #[.int .i64 0, .int .i64 0, .int .i64 0, .int .i64 0, .int .i64 0, .int .i64 0, .slice none 0 0, .slice none 0 0, .slice B m d], .int .i64 0]) (by simp [results, Tryz.results49, go_sem, y0, y1, y2, y3, y4, y5, y6, y7, y8]) rfl ⟨B, m, d, rfl, ?_, ?_⟩
    · exact (HSv.out.keep (fun k hk _ => heap_set9 (by omega))).mono (fun _ _ _ => trivial)
    · exact ext_set9 HEw.out (by omega)

end Go.Proofs.YtimoapjhepmehaaGreatDoor

/-
  package logtree: valid, Encode, Next, New, own, Head.
-/
namespace Go.Proofs.YtimoapjhepmehaaGreatDoor
open Go.RowKit
attribute [local go_sem ↓] Go.wp_at_zero Go.wp_at_succ

theorem isDig (s : ByteArray) (hs : s.size = 32) (w : World) : Calls Tryz.prog 68 #[.string s] w fun e w' => e = .returned (.bool true) ∧ w = w' :=
  (logtree_isDigest s w).mono fun e w' h => ⟨by rw [h.1, hs]; rfl, h.2⟩

set_option maxRecDepth 100000 in
set_option maxHeartbeats 400000 in
theorem logValid (p : Nat) (c s : ByteArray) (hp : p ≤ 10000) (hc : c.size = 32) (hs : s.size = 32) (w : World) :
    Calls Tryz.prog 102 #[.agg #[.int .i64 (p : Int), .string c, .string s]] w fun e w' => e = .returned (.bool true) ∧ Below w.heap.size w w' := by
  have HC := Lib.hid hc
  have HSs := Lib.hid hs
  clear hc hs
  have q0 : (0 : Int) ≤ (p : Int) := by omega
  have q1 : (p : Int) ≤ 10000 := by omega
  go_enter Tryz.func102, Tryz.ntmps102
  go_wp2_with (go_at_call 68; first | (refine (isDig c HC.out _).mono ?_; rintro e w' ⟨rfl, rfl⟩) | (refine (isDig s HSs.out _).mono ?_; rintro e w' ⟨rfl, rfl⟩))
  go_ret
  exact ⟨rfl, ext_new _ _⟩

def headEnc (p : Nat) (c s : ByteArray) : ByteArray := (byteS (2 * p) ++ c) ++ s
theorem headEnc_size (p : Nat) (c s : ByteArray) (hc : c.size = 32) (hs : s.size = 32) : (headEnc p c s).size = 65 := by
  unfold headEnc; rw [ByteArray.size_append, ByteArray.size_append, byteS_size, hc, hs]

set_option maxRecDepth 100000 in
set_option maxHeartbeats 400000 in
theorem logEncode (p : Nat) (c s : ByteArray) (hp : p < 64) (hc : c.size = 32) (hs : s.size = 32) (w : World) :
    Calls Tryz.prog 63 #[.agg #[.int .i64 (p : Int), .string c, .string s]] w fun e w' => e = .returned (.tuple #[.string (headEnc p c s), .int .i64 0]) ∧ Below w.heap.size w w' := by
  have HC := Lib.hid hc
  have HSs := Lib.hid hs
  have HB0 := Lib.hid (Blk.new w 52 #[.int .i64 (p : Int), .string c, .string s])
  have HP := Lib.hid (fun W : World => putInt_any p hp W)
  have HF := Lib.hid (show headEnc p c s = (byteS (2 * p) ++ c) ++ s from rfl)
  generalize headEnc p c s = r at *
  have hsum1 : (byteS (2 * p)).size + c.size ≤ 9223372036854775807 := by rw [byteS_size]; omega
  have hsum2 : (byteS (2 * p) ++ c).size + s.size ≤ 9223372036854775807 := by rw [ByteArray.size_append, byteS_size]; omega
  generalize byteS (2 * p) = b at *
  have hcat1 := fun W : World => run_string_add_sum (P := Tryz.prog) (w := W) b c hsum1
  have hcat2 := fun W : World => run_string_add_sum (P := Tryz.prog) (w := W) (b ++ c) s hsum2
  clear hc hs
  go_enter Tryz.func63, Tryz.ntmps63
  go_wp2_with fail
  refine (logValid p c s (by omega) HC.out HSs.out _).mono ?_
  rintro e W1 ⟨rfl, hb1⟩
  have HB1 := Lib.hid (HB0.out.ext hb1)
  have HE1 := Lib.hid (ext_call (ext_new w _) hb1)
  have c0 := HB1.out.cell 0; have c1 := HB1.out.cell 1; have c2 := HB1.out.cell 2
  have l1 := HB1.out.lt
  clear hb1
  go_wp2_with fail
  refine (HP.out _).mono ?_
  rintro e W2 ⟨rfl, hb2⟩
  have HB2 := Lib.hid (HB1.out.ext hb2)
  have HE2 := Lib.hid (ext_call HE1.out hb2)
  clear hb2 c0 c1 c2 l1
  have c0 := HB2.out.cell 0; have c1 := HB2.out.cell 1; have c2 := HB2.out.cell 2
  have l1 := HB2.out.lt
  go_wp2
  go_ret2
  exact ⟨by rw [HF.out]; rfl, HE2.out⟩

def zeros32 : ByteArray := ⟨(Lib.repeatL (⟨#[0]⟩ : ByteArray).data.toList 32).toArray⟩
theorem zeros32_size : zeros32.size = 32 := by decide

/-- a log of no record: its own block, its heads' block -/
def Log0 (w : World) (gl : Nat) (z s : ByteArray) : Prop := ∃ gh, Blk w gl 112 #[.slice none 0 0, .slice (some ⟨gh, 0, none⟩) 1 1] ∧ Blk w gh 52 #[.int .i64 0, .string z, .string s]
theorem Log0.ext {w W : World} {gl : Nat} {z s : ByteArray} (h : Log0 w gl z s) (k : Below w.heap.size w W) : Log0 W gl z s := by
  obtain ⟨gh, h1, h2⟩ := h
  exact ⟨gh, h1.ext k, h2.ext k⟩

set_option maxRecDepth 100000 in
set_option maxHeartbeats 400000 in
theorem logNew (s : ByteArray) (hs : s.size = 32) (w : World) :
    Calls Tryz.prog 38 #[.string s] w fun e w' => ∃ gl, e = .returned (.tuple #[.pointer (some ⟨gl, 0, none⟩), .int .i64 0]) ∧ Log0 w' gl zeros32 s ∧ w.heap.size ≤ gl ∧ Below w.heap.size w w' := by
  have HSs := Lib.hid hs
  clear hs
  have HZ := Lib.hid (show ∀ W : World, Calls Tryz.prog 69 #[.string ⟨#[0]⟩, .int .i64 32] W fun e w' => e = .returned (.string zeros32) ∧ Below W.heap.size W w' from fun W => Tryz.strings_Repeat_main ⟨#[0]⟩ 32 W (by omega) (by omega) (by decide) (by decide))
  generalize zeros32 = z at *
  go_enter Tryz.func38, Tryz.ntmps38
  go_wp2_with (first | (go_at_call 68; refine (isDig s HSs.out _).mono ?_; rintro e w' ⟨rfl, rfl⟩) | (go_at_call 69; refine (HZ.out _).mono ?_; rintro e W1 ⟨rfl, hb1⟩; have HB1 := Lib.hid hb1; clear hb1))
  go_ret2
  exact ⟨_, rfl, ⟨_, Blk.new' _ _ _ (by simp), (Blk.new' _ _ _ rfl).alloc _⟩, by have := HB1.out.size; omega, ext_alloc (ext_alloc HB1.out _) _⟩

end Go.Proofs.YtimoapjhepmehaaGreatDoor
