/-
  Part 4 of 18: the contracts that the proof of the last part uses; each stands under its own head.
-/
import Derived.Test.YtbgfmbmcabekeaaGreatDoorJ2
import Derived.Test.YtbgfmbmcabekeaaGreatDoorJ3
import Derived.Deep.RegionHeld3
import Derived.Deep.RegionWith
import Derived.BigRegion
set_option linter.unusedSimpArgs false
set_option linter.unusedVariables false

/-
  package store: chosen, Range, at a state of no row and of the law's own row; the sort of at most one row.
-/
namespace Go.Proofs.YtbgfmbmcabekeaaGreatDoor
open Go.RowKit
attribute [local go_sem ↓] Go.wp_at_zero Go.wp_at_succ

set_option maxRecDepth 100000 in
set_option maxHeartbeats 400000 in
theorem ins_none (a : Option Addr) (c : Nat) (f : Value) (w : World) : Calls Tryz.prog 218 #[.slice a 0 c, .int .i64 0, .int .i64 0, f] w fun e w' => (∃ u, e = .returned u) ∧ w = w' := by
  go_enter Tryz.func218, Tryz.ntmps218
  go_wp2
  refine wp_loop_rounds 1 ?_
  rw [rounds_succ]
  go_wp2
  go_end0
  exact ⟨⟨_, rfl⟩, rfl⟩

set_option maxRecDepth 100000 in
set_option maxHeartbeats 400000 in
theorem ins_one (a : Option Addr) (c : Nat) (f : Value) (w : World) : Calls Tryz.prog 218 #[.slice a 1 c, .int .i64 0, .int .i64 1, f] w fun e w' => (∃ u, e = .returned u) ∧ w = w' := by
  go_enter Tryz.func218, Tryz.ntmps218
  go_wp2
  refine wp_loop_rounds 1 ?_
  rw [rounds_succ]
  go_wp2
  go_end0
  exact ⟨⟨_, rfl⟩, rfl⟩

set_option maxRecDepth 100000 in
set_option maxHeartbeats 400000 in
theorem pdq_none (a : Option Addr) (c : Nat) (n : Int) (f : Value) (w : World) : Calls Tryz.prog 216 #[.slice a 0 c, .int .i64 0, .int .i64 0, .int .i64 n, f] w fun e w' => (∃ u, e = .returned u) ∧ w = w' := by
  go_enter Tryz.func216, Tryz.ntmps216
  go_wp2
  refine wp_loop_rounds 1 ?_
  rw [rounds_succ]
  go_wp2_with (go_at_call 218; refine (ins_none _ _ _ _).mono ?_; rintro e w' ⟨⟨u, rfl⟩, rfl⟩)
  refine bodyPost_ret (results_none rfl _ _ _) rfl ?_
  exact ⟨⟨_, rfl⟩, rfl⟩

set_option maxRecDepth 100000 in
set_option maxHeartbeats 400000 in
theorem pdq_one (a : Option Addr) (c : Nat) (n : Int) (f : Value) (w : World) : Calls Tryz.prog 216 #[.slice a 1 c, .int .i64 0, .int .i64 1, .int .i64 n, f] w fun e w' => (∃ u, e = .returned u) ∧ w = w' := by
  go_enter Tryz.func216, Tryz.ntmps216
  go_wp2
  refine wp_loop_rounds 1 ?_
  rw [rounds_succ]
  go_wp2_with (go_at_call 218; refine (ins_one _ _ _ _).mono ?_; rintro e w' ⟨⟨u, rfl⟩, rfl⟩)
  refine bodyPost_ret (results_none rfl _ _ _) rfl ?_
  exact ⟨⟨_, rfl⟩, rfl⟩

set_option maxRecDepth 100000 in
set_option maxHeartbeats 400000 in
theorem sort_none (a : Option Addr) (c : Nat) (f : Value) (w : World) : Calls Tryz.prog 212 #[.slice a 0 c, f] w fun e w' => (∃ u, e = .returned u) ∧ w = w' := by
  go_enter Tryz.func212, Tryz.ntmps212
  go_wp2_with (first
    | (go_at_call 192; refine (Tryz.bits_Len _ _ (by omega) (by omega)).mono ?_; rintro e w' ⟨rfl, rfl⟩)
    | (go_at_call 216; refine (pdq_none _ _ _ _ _).mono ?_; rintro e w' ⟨⟨u, rfl⟩, rfl⟩))
  go_end0
  exact ⟨⟨_, rfl⟩, rfl⟩

set_option maxRecDepth 100000 in
set_option maxHeartbeats 400000 in
theorem sort_one (a : Option Addr) (c : Nat) (f : Value) (w : World) : Calls Tryz.prog 212 #[.slice a 1 c, f] w fun e w' => (∃ u, e = .returned u) ∧ w = w' := by
  go_enter Tryz.func212, Tryz.ntmps212
  go_wp2_with (first
    | (go_at_call 192; refine (Tryz.bits_Len _ _ (by omega) (by omega)).mono ?_; rintro e w' ⟨rfl, rfl⟩)
    | (go_at_call 216; refine (pdq_one _ _ _ _ _).mono ?_; rintro e w' ⟨⟨u, rfl⟩, rfl⟩))
  go_end0
  exact ⟨⟨_, rfl⟩, rfl⟩

/-- is the law's row in a range? -/
def hitF (t : Int) (j : Nat) (lo hi : Int) : Bool := ((0 : Int) == t) && decide (lo ≤ theRow.col j) && decide (theRow.col j ≤ hi)
theorem value_row (j : Nat) (hj : j < 4) (w : World) : Calls Tryz.prog 166 #[.agg #[.int .i64 0, .int .i64 5, .int .i64 1, .int .i64 2, .int .i64 3], .int .i64 (j : Int)] w fun e w' => e = .returned (.int .i64 (theRow.col j)) ∧ Below w.heap.size w w' := rowValue_any theRow j hj w

/-- the boxes of Range's closure -/
def Boxes (w : World) (b1 b2 b3 b4 : Nat) (j : Nat) (t lo hi : Int) : Prop := Blk w b1 3 #[.int .i64 (j : Int)] ∧ Blk w b2 3 #[.int .i64 t] ∧ Blk w b3 3 #[.int .i64 lo] ∧ Blk w b4 3 #[.int .i64 hi]
theorem Boxes.ext {w W : World} {b1 b2 b3 b4 j : Nat} {t lo hi : Int} (h : Boxes w b1 b2 b3 b4 j t lo hi) (k : Below w.heap.size w W) : Boxes W b1 b2 b3 b4 j t lo hi := ⟨h.1.ext k, h.2.1.ext k, h.2.2.1.ext k, h.2.2.2.ext k⟩

set_option maxRecDepth 100000 in
set_option maxHeartbeats 400000 in
theorem isIn (b1 b2 b3 b4 j : Nat) (t lo hi : Int) (hj : j < 4) (w : World) (hB : Boxes w b1 b2 b3 b4 j t lo hi) :
    Calls Tryz.prog 208 #[.agg #[.int .i64 0, .int .i64 5, .int .i64 1, .int .i64 2, .int .i64 3], .pointer (some ⟨b1, 0, none⟩), .pointer (some ⟨b2, 0, none⟩), .pointer (some ⟨b3, 0, none⟩), .pointer (some ⟨b4, 0, none⟩)] w fun e w' => e = .returned (.bool (hitF t j lo hi)) ∧ Below w.heap.size w w' := by
  have HB := Lib.hid (hB.ext (ext_new w (.cells #[.int .i64 0, .int .i64 5, .int .i64 1, .int .i64 2, .int .i64 3] 77)))
  have HR := Lib.hid (Blk.new w 77 #[.int .i64 0, .int .i64 5, .int .i64 1, .int .i64 2, .int .i64 3])
  clear hB
  have c1 := HB.out.1.cell 0
  unfold hitF
  have HV := Lib.hid (fun W : World => value_row j hj W)
  generalize theRow.col j = v at *
  go_enter Tryz.func208, Tryz.ntmps208
  go_wp2_with fail
  refine (HV.out _).mono ?_
  rintro e W1 ⟨rfl, hb1⟩
  have hB1 := HB.out.ext hb1
  have a0 := (HR.out.ext hb1).cell 0
  have d2 := hB1.2.1.cell 0
  have d3 := hB1.2.2.1.cell 0
  have d4 := hB1.2.2.2.cell 0
  have HL := Lib.hid (ext_call (ext_new w _) hb1)
  clear hb1 hB1 c1
  by_cases h1 : (0 : Int) = t
  · subst h1
    by_cases h2 : lo ≤ v
    · go_wp2
      go_ret
      exact ⟨by simp [h2], HL.out⟩
    · go_wp2
      go_ret
      exact ⟨by have h3 : ¬ lo ≤ v := by omega
                simp [h3], HL.out⟩
  · have h1' : ((0 : Int) == t) = false := by simpa using h1
    go_wp2
    go_ret
    exact ⟨by simp [h1], HL.out⟩

set_option maxRecDepth 100000 in
set_option maxHeartbeats 1000000 in
theorem chosen_none (gs gm : Nat) (c : Nat) (pos col : Int) (f : Value) (w : World) (hS : StateAt w gs gm #[] c pos) :
    Calls Tryz.prog 207 #[.pointer (some ⟨gs, 0, none⟩), .int .i64 col, f] w fun e w' => e = .returned (.slice none 0 0) ∧ Below w.heap.size w w' := by
  have hS0 := hS.alloc (.cells #[.int .i64 col] 3)
  have s0 := hS0.1.cell 0
  have hrg := range_map (P := Tryz.prog) Tryz.underlying130 hS0.2
  have hnx := fun t => next_empty (P := Tryz.prog) (t := t) (r := w.heap.size + 1) ((hS0.alloc (.mapIter (some gm) c #[] c)).2) (by rw [← World.size_alloc w (.cells #[.int .i64 col] 3)]; exact World.alloc_heap_new _ _)
  have hmf : ∀ (fn : Fn) (first cap : Array Value) (w : World), (Instr.makeFunc fn first cap).run Tryz.prog w = .ok (.func fn first cap) w := fun _ _ _ _ => rfl
  clear hS hS0
  go_enter Tryz.func207, Tryz.ntmps207
  go_wp2
  refine wp_loop_rounds 1 ?_
  rw [rounds_succ]
  go_wp2_with (go_at_call 212; refine (sort_none _ _ _ _).mono ?_; rintro e w' ⟨⟨u, rfl⟩, rfl⟩)
  go_ret
  exact ⟨rfl, ext_alloc (ext_new _ _) _⟩

theorem row_info : (Tryz.prog.info? 77).map (fun i => (i.zero, i.size, i.bytes)) = some (some (.agg #[.int .i64 0, .int .i64 0, .int .i64 0, .int .i64 0, .int .i64 0]), 5, 40) := by kernel_rfl

/-- the rows of a result: none, or the law's own row -/
def RowsAt (w : World) (hit : Bool) (v : Value) : Prop := (hit = false ∧ v = .slice none 0 0) ∨ (hit = true ∧ ∃ g c zs, v = .slice (some ⟨g, 0, none⟩) 1 c ∧ 1 ≤ c ∧ Blk w g 77 (#[.int .i64 0, .int .i64 5, .int .i64 1, .int .i64 2, .int .i64 3] ++ zs))
theorem RowsAt.ext {w W : World} {hit : Bool} {v : Value} (h : RowsAt w hit v) (k : Below w.heap.size w W) : RowsAt W hit v := by
  rcases h with h | ⟨h1, g, c, zs, h2, h3, h4⟩
  · exact .inl h
  · exact .inr ⟨h1, g, c, zs, h2, h3, h4.ext k⟩

set_option maxRecDepth 100000 in
set_option maxHeartbeats 1000000 in
theorem chosen_one (gs gm b1 b2 b3 b4 j : Nat) (pos col t lo hi : Int) (hj : j < 4) (w : World) (hS : StateAt w gs gm #[theEntry] 1 pos) (hB : Boxes w b1 b2 b3 b4 j t lo hi) :
    Calls Tryz.prog 207 #[.pointer (some ⟨gs, 0, none⟩), .int .i64 col, .func (.func 208) #[] #[.pointer (some ⟨b1, 0, none⟩), .pointer (some ⟨b2, 0, none⟩), .pointer (some ⟨b3, 0, none⟩), .pointer (some ⟨b4, 0, none⟩)]] w
      fun e w' => ∃ v, e = .returned v ∧ RowsAt w' (hitF t j lo hi) v ∧ Below w.heap.size w w' := by
  have hS0 := hS.alloc (.cells #[.int .i64 col] 3)
  have s0 := hS0.1.cell 0
  have hrg := range_map (P := Tryz.prog) Tryz.underlying130 hS0.2
  have hmf : ∀ (fn : Fn) (first cap : Array Value) (w : World), (Instr.makeFunc fn first cap).run Tryz.prog w = .ok (.func fn first cap) w := fun _ _ _ _ => rfl
  have HS := Lib.hid hS
  have HB := Lib.hid hB
  have HX := Lib.hid (fun (W : World) (h : Boxes W b1 b2 b3 b4 j t lo hi) => isIn b1 b2 b3 b4 j t lo hi hj W h)
  clear hS hS0 hB
  generalize hitF t j lo hi = hit at *
  obtain ⟨ii, hii, hzi0, hzi1, hzi2⟩ := info_parts row_info
  go_enter Tryz.func207, Tryz.ntmps207
  go_wp2
  generalize hW1 : (w.alloc (.cells #[.int .i64 col] 3)).alloc (.mapIter (some gm) 1 #[] 1) = W1
  have hE1 : Below w.heap.size w W1 := by subst hW1; exact ext_alloc (ext_new _ _) _
  have hI1 : W1.heap[w.heap.size + 1]? = some (.mapIter (some gm) 1 #[] 1) := by
    subst hW1
    rw [← World.size_alloc w (.cells #[.int .i64 col] 3)]; exact World.alloc_heap_new _ _
  have hgm := HS.out.2.lt
  have hgs := HS.out.1.lt
  have hS1 := HS.out.ext hE1
  have hnx := fun t => next_one (P := Tryz.prog) (t := t) (k := .agg #[.int .i64 0, .int .i64 5]) (v := .agg #[.int .i64 0, .int .i64 5, .int .i64 1, .int .i64 2, .int .i64 3]) hS1.2 hI1
  generalize hW2 : W1.putObj (w.heap.size + 1) (.mapIter (some gm) 1 #[0] 1) = W2 at hnx
  have hE2 : Below w.heap.size w W2 := by subst hW2; exact ext_put hE1 (by omega) _
  have hI2 : W2.heap[w.heap.size + 1]? = some (.mapIter (some gm) 1 #[0] 1) := by
    subst hW2
    exact World.putObj_heap_same (Array.getElem?_eq_some_iff.1 hI1).1
  have hS2 := HS.out.ext hE2
  have hent := entry_one (P := Tryz.prog) (k := .agg #[.int .i64 0, .int .i64 5]) (v := .agg #[.int .i64 0, .int .i64 5, .int .i64 1, .int .i64 2, .int .i64 3]) hS2.2 hI2
  have HB2 := Lib.hid (HB.out.ext hE2)
  have HE2 := Lib.hid hE2
  have HI2 := Lib.hid hI2
  have HS2 := Lib.hid hS2
  clear hW1 hW2 hE1 hE2 hI1 hI2 hS1 hS2 s0 hrg
  refine wp_loop_rounds 2 ?_
  rw [rounds_succ]
  go_wp2_with fail
  refine (HX.out _ (HB2.out.ext (ext_new _ _))).mono ?_
  rintro e W3 ⟨rfl, hb3⟩
  have hX3 := (Blk.new W2 77 #[.int .i64 0, .int .i64 5, .int .i64 1, .int .i64 2, .int .i64 3]).ext hb3
  have x0 := hX3.cell 0; have x1 := hX3.cell 1; have x2 := hX3.cell 2; have x3 := hX3.cell 3; have x4 := hX3.cell 4
  have xl := hX3.lt
  have HE3 := Lib.hid (ext_call (ext_alloc HE2.out _) hb3)
  have HI3 := Lib.hid (heap_ext (heap_ext HI2.out (ext_new _ _)) hb3)
  have HS3 := Lib.hid (((HS2.out.alloc _)).ext hb3)
  clear hb3 hX3
  cases hit with
  | false =>
    have hnx := fun t => next_over (P := Tryz.prog) (t := t) (k := .agg #[.int .i64 0, .int .i64 5]) (v := .agg #[.int .i64 0, .int .i64 5, .int .i64 1, .int .i64 2, .int .i64 3]) HS3.out.2 HI3.out
    go_wp2
    rw [rounds_succ]
    go_wp2_with (go_at_call 212; refine (sort_none _ _ _ _).mono ?_; rintro e w' ⟨⟨u, rfl⟩, rfl⟩)
    go_ret
    exact ⟨_, rfl, .inl ⟨rfl, rfl⟩, HE3.out⟩
  | true =>
    go_wp2
    have hcap : 1 ≤ (Question.appendCap 1 0 77).cut (W3.tape W3.drawn (Question.appendCap 1 0 77)) := grownCap_ge W3 1 0 77
    revert hcap
    generalize (Question.appendCap 1 0 77).cut (W3.tape W3.drawn (Question.appendCap 1 0 77)) = cap
    intro hcap
    generalize hW4 : ((W3.alloc (.cells #[.int .i64 0, .int .i64 5, .int .i64 1, .int .i64 2, .int .i64 3] 77)).alloc (.cells (#[.int .i64 0, .int .i64 5, .int .i64 1, .int .i64 2, .int .i64 3] ++ Builtin.zeroCells #[.int .i64 0, .int .i64 0, .int .i64 0, .int .i64 0, .int .i64 0] (cap - 1)) 77)).drew = W4
    have hE34 : Below W3.heap.size W3 W4 := by subst hW4; exact (ext_alloc (ext_new _ _) _).drew
    have HR4 := Lib.hid (show Blk W4 (W3.heap.size + 1) 77 (#[.int .i64 0, .int .i64 5, .int .i64 1, .int .i64 2, .int .i64 3] ++ Builtin.zeroCells #[.int .i64 0, .int .i64 0, .int .i64 0, .int .i64 0, .int .i64 0] (cap - 1)) by subst hW4; exact (Blk.new' _ _ _ (by simp)).drew)
    have HE4 := Lib.hid (ext_call HE3.out hE34)
    have hnx := fun t => next_over (P := Tryz.prog) (t := t) (k := .agg #[.int .i64 0, .int .i64 5]) (v := .agg #[.int .i64 0, .int .i64 5, .int .i64 1, .int .i64 2, .int .i64 3]) (HS3.out.ext hE34).2 (heap_ext HI3.out hE34)
    clear hW4 hE34 x0 x1 x2 x3 x4
    rw [rounds_succ]
    go_wp2_with (go_at_call 212; refine (sort_one _ _ _ _).mono ?_; rintro e w' ⟨⟨u, rfl⟩, rfl⟩)
    go_ret
    exact ⟨_, rfl, .inr ⟨rfl, _, _, _, rfl, hcap, HR4.out⟩, HE4.out⟩

/-- a state of no row, or of the law's own row -/
def StateIs (w : World) (one : Bool) (gs gm : Nat) (pos : Int) : Prop := StateAt w gs gm (if one then #[theEntry] else #[]) (if one then 1 else 0) pos
theorem StateIs.ext {w W : World} {one : Bool} {gs gm : Nat} {pos : Int} (h : StateIs w one gs gm pos) (k : Below w.heap.size w W) : StateIs W one gs gm pos := StateAt.ext h k

set_option maxRecDepth 100000 in
set_option maxHeartbeats 1000000 in
theorem range_any (one : Bool) (gs gm j : Nat) (pos t lo hi : Int) (hj : j < 4) (w : World) (hS : StateIs w one gs gm pos) :
    Calls Tryz.prog 181 #[.pointer (some ⟨gs, 0, none⟩), .int .i64 t, .int .i64 (j : Int), .int .i64 lo, .int .i64 hi] w
      fun e w' => ∃ v, e = .returned v ∧ RowsAt w' (one && hitF t j lo hi) v ∧ Below w.heap.size w w' := by
  have hmf : ∀ (fn : Fn) (first cap : Array Value) (w : World), (Instr.makeFunc fn first cap).run Tryz.prog w = .ok (.func fn first cap) w := fun _ _ _ _ => rfl
  have HS := Lib.hid hS
  clear hS
  have l1 : decide ((j : Int) < 0) = false := decide_eq_false (by omega)
  have l2 : decide (4 ≤ (j : Int)) = false := decide_eq_false (by omega)
  go_enter Tryz.func181, Tryz.ntmps181
  go_wp2_with fail
  generalize hW1 : World.alloc (((w.alloc (.cells #[.int .i64 t] 3)).alloc (.cells #[.int .i64 (j : Int)] 3)).alloc (.cells #[.int .i64 lo] 3)) (.cells #[.int .i64 hi] 3) = W1
  have hE1 : Below w.heap.size w W1 := by subst hW1; exact ext_alloc (ext_alloc (ext_alloc (ext_new _ _) _) _) _
  have hB1 : Boxes W1 (w.heap.size + 1) w.heap.size (w.heap.size + 1 + 1) (w.heap.size + 1 + 1 + 1) j t lo hi := by
    subst hW1
    exact ⟨((Blk.new' _ _ _ (by simp)).alloc _).alloc _, (((Blk.new' _ _ _ (by simp)).alloc _).alloc _).alloc _, (Blk.new' _ _ _ (by simp)).alloc _, Blk.new' _ _ _ (by simp)⟩
  cases one with
  | false =>
    refine (chosen_none gs gm _ pos _ _ W1 (HS.out.ext hE1)).mono ?_
    rintro e W2 ⟨rfl, hb2⟩
    have HE2 := Lib.hid (ext_call hE1 hb2)
    clear hW1 hE1 hB1 hb2
    go_wp2
    go_ret
    exact ⟨_, rfl, .inl ⟨rfl, rfl⟩, HE2.out⟩
  | true =>
    refine (chosen_one gs gm _ _ _ _ j pos _ t lo hi hj W1 (HS.out.ext hE1) hB1).mono ?_
    rintro e W2 ⟨v, rfl, hr2, hb2⟩
    have HE2 := Lib.hid (ext_call hE1 hb2)
    have HR2 := Lib.hid hr2
    clear hW1 hE1 hB1 hb2 hr2
    go_wp2
    go_ret
    exact ⟨_, rfl, HR2.out, HE2.out⟩

end Go.Proofs.YtbgfmbmcabekeaaGreatDoor

/-
  package row: Encode, EncodeRecord, at the law's own row.
-/
namespace Go.Proofs.YtbgfmbmcabekeaaGreatDoor
open Go.RowKit
attribute [local go_sem ↓] Go.wp_at_zero Go.wp_at_succ

theorem encKeep {w W W' : World} {b : Nat} {t : TypeId} {cs : Array Value} {u v : Value} (h : W.cell? ⟨b, 0, none⟩ = some u ∧ W.cell? ⟨b, 1, none⟩ = some v ∧ Blk W b t cs ∧ Below w.heap.size w W) (hb : Below W.heap.size W W') : W'.cell? ⟨b, 0, none⟩ = some u ∧ W'.cell? ⟨b, 1, none⟩ = some v ∧ Blk W' b t cs ∧ Below w.heap.size w W' :=
  ⟨cell_ext h.1 hb, cell_ext h.2.1 hb, h.2.2.1.ext hb, ext_call h.2.2.2 hb⟩
theorem encB {w W : World} {b : Nat} {t : TypeId} {cs : Array Value} {u v : Value} (h : W.cell? ⟨b, 0, none⟩ = some u ∧ W.cell? ⟨b, 1, none⟩ = some v ∧ Blk W b t cs ∧ Below w.heap.size w W) : Blk W b t cs := h.2.2.1
theorem encL {w W : World} {b : Nat} {t : TypeId} {cs : Array Value} {u v : Value} (h : W.cell? ⟨b, 0, none⟩ = some u ∧ W.cell? ⟨b, 1, none⟩ = some v ∧ Blk W b t cs ∧ Below w.heap.size w W) : Below w.heap.size w W := h.2.2.2
theorem int_infoV : (Tryz.prog.info? 3).map (fun i => (i.zero, i.size, i.bytes)) = some (some (.int .i64 0), 1, 8) := by kernel_rfl
theorem encAl {w W : World} {b : Nat} {t : TypeId} {cs : Array Value} {u v : Value} (h : W.cell? ⟨b, 0, none⟩ = some u ∧ W.cell? ⟨b, 1, none⟩ = some v ∧ Blk W b t cs ∧ Below w.heap.size w W) (o : Obj) : (W.alloc o).drew.cell? ⟨b, 0, none⟩ = some u ∧ (W.alloc o).drew.cell? ⟨b, 1, none⟩ = some v ∧ Blk (W.alloc o).drew b t cs ∧ Below w.heap.size w (W.alloc o).drew :=
  encKeep h (ext_new W o).drew

set_option maxRecDepth 100000 in
set_option maxHeartbeats 1000000 in
theorem rowEncode (w : World) : Calls Tryz.prog 190 #[.agg #[.int .i64 0, .int .i64 5, .int .i64 1, .int .i64 2, .int .i64 3]] w fun e w' => e = .returned (.tuple #[.string (encS [0, 5, 1, 2, 3]), .int .i64 0]) ∧ Below w.heap.size w w' := by
  have HB0 := Lib.hid (Blk.new w 77 #[.int .i64 0, .int .i64 5, .int .i64 1, .int .i64 2, .int .i64 3])
  go_enter Tryz.func190, Tryz.ntmps190
  go_wp2_with (go_at_call 83; refine (valid_row _).mono ?_; rintro e W1 ⟨rfl, hb1⟩; have hB1 := HB0.out.ext hb1; have c0 := hB1.cell 0; have c1 := hB1.cell 1; have l1 := hB1.lt; have HL1 := Lib.hid (ext_call (ext_new w _) hb1); have HB1 := Lib.hid hB1; clear hb1 hB1)
  have hsum : (encS [0, 5]).size + (encS [1, 2, 3]).size ≤ 9223372036854775807 := by rw [encS_size, encS_size]; simp
  have HA := Lib.hid (encS_append [0, 5] [1, 2, 3])
  have HP1 := Lib.hid (show ∀ W : World, Blk W W1.heap.size 3 #[.int .i64 0, .int .i64 5] → Calls Tryz.prog 163 #[.slice (some ⟨W1.heap.size, 0, none⟩) 2 2] W fun e w' => e = .returned (.string (encS [0, 5])) ∧ Below W.heap.size W w' from fun W h => rowPut_any W1.heap.size 0 2 [0, 5] W (.of_blk h 0 [0, 5] rfl) h.lt (by simp) (by simp))
  have HP2 := Lib.hid (show ∀ W : World, Blk W w.heap.size 77 #[.int .i64 0, .int .i64 5, .int .i64 1, .int .i64 2, .int .i64 3] → Calls Tryz.prog 163 #[.slice (some ⟨w.heap.size, 2, none⟩) 3 3] W fun e w' => e = .returned (.string (encS [1, 2, 3])) ∧ Below W.heap.size W w' from fun W h => rowPut_any w.heap.size 2 3 [1, 2, 3] W (.of_blk h 2 [1, 2, 3] rfl) h.lt (by simp) (by simp))
  generalize encS [0, 5] = s1 at *
  generalize encS [1, 2, 3] = s2 at *
  have hcat := fun W : World => run_string_add_sum (P := Tryz.prog) (w := W) s1 s2 hsum
  go_region_held3 (fun w' => w'.cell? ⟨w.heap.size, 0, none⟩ = some (.int .i64 0) ∧ w'.cell? ⟨w.heap.size, 1, none⟩ = some (.int .i64 5) ∧ Blk w' w.heap.size 77 #[.int .i64 0, .int .i64 5, .int .i64 1, .int .i64 2, .int .i64 3] ∧ Below w.heap.size w w')
    (first | exact ⟨c0, c1, HB1.out, HL1.out.drew⟩ | assumption | exact encAl (w := w) ⟨c0, c1, HB1.out, HL1.out⟩ _ | exact encKeep (by assumption) (by assumption))
    (first | (go_at_call 163; (with_reducible refine (HP1.out _ ?_).mono ?_); (exact Blk.new W1 _ _); rintro e w' ⟨rfl, hb'⟩) | (go_at_call 163; (with_reducible refine (HP2.out _ ?_).mono ?_); (exact encB (by assumption)); rintro e w' ⟨rfl, hb'⟩))
  go_wp2
  go_ret2
  exact ⟨by rw [show encS [0, 5, 1, 2, 3] = s1 ++ s2 from HA.out.symm]; rfl, encL (by assumption)⟩

set_option maxRecDepth 100000 in
set_option maxHeartbeats 1000000 in
theorem encRecord (w : World) (b c : Nat) (hB : HeadB w b #[.int .i64 0, .int .i64 5, .bool false, .int .i64 0, .int .i64 0, .int .i64 0, .bool true, .int .i64 1, .int .i64 2, .int .i64 3]) : Calls Tryz.prog 114 #[.agg #[.int .i64 1, .slice (some ⟨b, 0, none⟩) 1 c]] w fun e w' => e = .returned (.tuple #[.string (encS [1, 1, 0, 5, 2, 1, 2, 3]), .int .i64 0]) ∧ Below w.heap.size w w' := by
  obtain ⟨ii, hii, hzi0, hzi1, hzi2⟩ := info_parts int_infoV
  have HB0 := Lib.hid (Blk.new w 46 #[.int .i64 1, .slice (some ⟨b, 0, none⟩) 1 c])
  have HC0 := Lib.hid (hB.alloc (.cells #[.int .i64 1, .slice (some ⟨b, 0, none⟩) 1 c] 46))
  clear hB
  go_enter Tryz.func114, Tryz.ntmps114
  go_wp2_with fail
  refine (validRecord _ b c HC0.out).mono ?_
  rintro e W1 ⟨rfl, hb1⟩
  have hB1 := HB0.out.ext hb1
  have c0 := hB1.cell 0
  have c1 := hB1.cell 1
  have HB1 := Lib.hid hB1
  have HC1 := Lib.hid (HC0.out.ext hb1)
  have HL1 := Lib.hid (ext_call (ext_new w _) hb1)
  clear hb1 hB1
  go_wp2_with fail
  refine (rowPut_any W1.heap.size 0 2 [1, 1] _ (.of_blk (Blk.new _ _ _) 0 [1, 1] rfl) (by simp) (by simp) (by simp)).mono ?_
  rintro e W2 ⟨rfl, hb2⟩
  have hB2 := (HB1.out.alloc _).ext hb2
  have c1 := hB2.cell 1
  have hC2 := (HC1.out.alloc _).ext hb2
  have e0 := hC2.cell 0
  have e1 := hC2.cell 1
  have e2 := hC2.cell 2
  have e3 := hC2.cell 3
  have e4 := hC2.cell 4
  have e5 := hC2.cell 5
  have e6 := hC2.cell 6
  have e7 := hC2.cell 7
  have e8 := hC2.cell 8
  have e9 := hC2.cell 9
  have HL2 := Lib.hid (ext_call (ext_alloc HL1.out _) hb2)
  clear hb2 hB2 hC2 c0
  go_wp2
  refine wp_loop_rounds 2 ?_
  rw [rounds_succ]
  go_wp2_with fail
  generalize (Question.appendCap 3 0 3).cut (W2.tape W2.drawn (Question.appendCap 3 0 3)) = cap
  clear e0 e1 e2 e3 e4 e5 e6 e7 e8 e9 c1
  refine (rowPut_any (W2.heap.size + 1 + 1) 0 3 [0, 5, 2] _ (.of_blk (Blk.new' _ _ _ (by simp)).drew 0 [0, 5, 2] rfl) (by simp) (by simp) (by simp)).mono ?_
  rintro e W3 ⟨rfl, hb3⟩
  have HV3 := Lib.hid (((Blk.new' (W2.alloc (.cells #[.int .i64 0, .int .i64 5, .bool false, .int .i64 0, .int .i64 0, .int .i64 0, .bool true, .int .i64 1, .int .i64 2, .int .i64 3] 75)) 3 (#[.int .i64 1, .int .i64 2, .int .i64 3] ++ Builtin.zeroCells #[.int .i64 0] (cap - 3)) (b := W2.heap.size + 1) (by simp)).alloc (.cells #[.int .i64 0, .int .i64 5, .int .i64 2] 3)).drew.ext hb3)
  have HL3 := Lib.hid (ext_call (ext_alloc (ext_alloc (ext_alloc HL2.out _) _) _).drew hb3)
  clear hb3
  go_wp2_with fail
  refine (rowPut_any (W2.heap.size + 1) 0 cap [1, 2, 3] _ (.of_blk HV3.out 0 [1, 2, 3] (by simp)) HV3.out.lt (by simp) (by simp)).mono ?_
  rintro e W4 ⟨rfl, hb4⟩
  have HL4 := Lib.hid (ext_call HL3.out hb4)
  clear hb4
  have HA1 := Lib.hid (encS_append [0, 5, 2] [1, 2, 3])
  have HA2 := Lib.hid (encS_append [1, 1] ([0, 5, 2] ++ [1, 2, 3]))
  have hs1 := encS_size [0, 5, 2]
  have hs2 := encS_size [1, 2, 3]
  have hs3 := encS_size [1, 1]
  simp only [List.length_cons, List.length_nil] at hs1 hs2 hs3
  generalize encS [0, 5, 2] = s1 at *
  generalize encS [1, 2, 3] = s2 at *
  generalize encS [1, 1] = s3 at *
  have hs12 : (s1 ++ s2).size = 6 := by rw [ByteArray.size_append]; omega
  have hsum1 : s1.size + s2.size ≤ 9223372036854775807 := by omega
  have hsum2 : s3.size + (s1 ++ s2).size ≤ 9223372036854775807 := by omega
  have hcat1 := fun W : World => run_string_add_sum (P := Tryz.prog) (w := W) s1 s2 hsum1
  have hcat2 := fun W : World => run_string_add_sum (P := Tryz.prog) (w := W) s3 (s1 ++ s2) hsum2
  clear hs1 hs2 hs3 hs12
  go_wp2
  rw [rounds_succ]
  go_wp2
  go_ret2
  exact ⟨by rw [show encS [1, 1, 0, 5, 2, 1, 2, 3] = s3 ++ (s1 ++ s2) from by rw [HA1.out, HA2.out]; rfl]; rfl, HL4.out⟩

end Go.Proofs.YtbgfmbmcabekeaaGreatDoor

/-
  digest.Sum.
-/
namespace Go.Proofs.YtbgfmbmcabekeaaGreatDoor
open Go.RowKit Go.Shelf

set_option maxHeartbeats 400000 in
theorem chunk_any (b len cap : Nat) (w : World) :
    Calls Tryz.prog 144 #[.slice (some ⟨b, 0, none⟩) len cap, .int .i64 64] w fun e w' =>
      e = .returned (.func (.func 187) #[] #[.pointer (some ⟨w.heap.size, 0, none⟩), .pointer (some ⟨w.heap.size + 1, 0, none⟩)]) ∧
      (w.alloc (.cells #[.slice (some ⟨b, 0, none⟩) len cap] 161)).alloc (.cells #[.int .i64 64] 3) = w' := by
  have hmf : ∀ (fn : Fn) (first cap : Array Value) (w : World), (Instr.makeFunc fn first cap).run Tryz.prog w = .ok (.func fn first cap) w := fun _ _ _ _ => rfl
  go_enter Tryz.func144, Tryz.ntmps144
  go_wp2
  go_ret
  exact ⟨rfl, rfl⟩

/-- append of one element, in a fence; the new value written out, its length as the caller says it -/
theorem wpListIn_append_m {F : Fence} {n : Nat} {P : Program} {w : World} {ops : Array Oper} {rest : List Oper} {o : Oper} {a : Act} {Q : Exit → Act → World → Prop} (hgd : o.guard = none) (s x : Operand) (t : TypeId)
    (hop : o.op = .call { callee := .builtin .append, args := #[s, x], argTypes := #[t, t] })
    (base : Nat) (e : TypeId) (i : TypeInfo) (z : Value) (bytes : Nat) (ht : P.underlying t = some (.slice e)) (hi : P.info? e = some i) (hz : i.zero = some z)
    (hsize : i.size = 1) (hby : i.bytes = bytes) (hzs : z.cells.size = 1)
    (v : Value) (xs : List Value) (hs : a.eval s = v) (hown : OwnC w base v xs) (ad : Addr) (c : Nat) (xv : Value) (hx : a.eval x = .slice (some ad) 1 c) (hc : w.cell? ad = some xv) (h1 : xv.oneCell' = true)
    (m : Nat) (hm : xs.length + 1 = m) (h63 : m ≤ maxLen) (hbytes : m * bytes ≤ 140737488355328) (hbase : base ≤ w.heap.size)
    (h : ∀ g cap w', OwnC w' base (.slice (some ⟨g, 0, none⟩) m cap) (xs ++ [xv]) → w.grownBy w' v.ownBlock → wpListIn F n P ops Q rest (a.put o.dst (.slice (some ⟨g, 0, none⟩) m cap)) w') : wpListIn F n P ops Q (o :: rest) a w := by
  subst hm
  refine wpListIn_append_c hgd s x t hop base e i z bytes ht hi hz hsize hby hzs v xs hs hown ad c xv hx hc h1 h63 hbytes hbase fun v' w' ho hg => ?_
  have ho' := ho
  obtain ⟨g, cap, rfl, _⟩ := ho
  simp only [List.length_append, List.length_cons, List.length_nil, Nat.zero_add] at ho' ⊢
  exact h g cap w' ho' hg
theorem wpListIn_bytes {F : Fence} {n : Nat} {P : Program} {w : World} {ops : Array Oper} {rest : List Oper} {o : Oper} {a : Act} {Q : Exit → Act → World → Prop} (hgd : o.guard = none) (x : Operand) (src dst e : TypeId)
    (hop : o.op = .convert src dst x) (s : ByteArray) (hx : a.eval x = .string s) {u : TypeDesc} (hs : P.underlying src = some u) (hd : P.underlying dst = some (.slice e)) (he : P.underlying e = some (.int .u8)) (hsz : s.size ≤ maxLen)
    (h : ∀ g cap W', OwnC W' w.heap.size (.slice (some ⟨g, 0, none⟩) s.size cap) (s.data.toList.map fun b => Value.int .u8 b.toNat) → Below w.heap.size w W' → wpListIn F n P ops Q rest (a.put o.dst (.slice (some ⟨g, 0, none⟩) s.size cap)) W') : wpListIn F n P ops Q (o :: rest) a w := by
  refine wpListIn_plain hgd fun K hK' => ?_
  have hrun := Lib.run_convert_string_bytes (P := P) w src dst e s hs hd he
  unfold Oper.wpIn
  refine ⟨?_, ?_⟩
  · simp [Oper.about, hop]
  · rw [Oper.semAt_plain F _ _ (by rw [hop]; intro c hc'; cases hc')]
    simp [execOp, hop, hx, hrun, Result.andThen]
    exact hK' _ _ (h _ _ _ (ownC_bytes w e s hsz) (below_bytes w e s))
theorem u8_info : (Tryz.prog.info? 5).map (fun i => (i.zero, i.size, i.bytes)) = some (some (.int .u8 0), 1, 1) := by kernel_rfl
attribute [local go_sem] Oper.semAt_some

/-- the words at the beginning -/
def v0 : V8 := ⟨1779033703, 3144134277, 1013904242, 2773480762, 1359893119, 2600822924, 528734635, 1541459225⟩
/-- how many zeros are appended -/
def zerosN (n : Nat) : Nat := (119 - n % 64) % 64
def byteList (s : ByteArray) : List Int := s.data.toList.map fun b => (b.toNat : Int)
def padTo (s : ByteArray) (k : Nat) : List Int := byteList s ++ [128] ++ List.replicate k 0
theorem padTo_succ (s : ByteArray) (k : Nat) : padTo s (k + 1) = padTo s k ++ [0] := by unfold padTo; rw [List.replicate_succ']; simp
theorem byteList_length (s : ByteArray) : (byteList s).length = s.size := by unfold byteList; simp
theorem padTo_length (s : ByteArray) (k : Nat) : (padTo s k).length = s.size + 1 + k := by unfold padTo; simp [byteList_length]; omega
def cellsU8 (l : List Int) : List Value := l.map (Value.int .u8)
theorem cellsU8_length (l : List Int) : (cellsU8 l).length = l.length := by simp [cellsU8]
theorem cellsU8_snoc (l : List Int) (x : Int) : cellsU8 l ++ [.int .u8 x] = cellsU8 (l ++ [x]) := by simp [cellsU8]

theorem ownC_conv {w W : World} {o : Obj} {v : Value} {s : ByteArray} (h : OwnC W (w.alloc o).heap.size v (s.data.toList.map fun b => Value.int .u8 b.toNat)) : OwnC W (w.heap.size + 1) v (cellsU8 (byteList s)) := by
  have e : cellsU8 (byteList s) = (s.data.toList.map fun b => Value.int .u8 b.toNat) := by simp [cellsU8, byteList]
  rw [e]
  simpa using h
theorem cell_new1 (w : World) (x : Value) (t : TypeId) : (w.alloc (.cells #[x] t)).cell? ⟨w.heap.size, 0, none⟩ = some x := (Blk.new w t #[x]).cell 0
theorem below_conv {w W : World} {o : Obj} (h : Below (w.alloc o).heap.size (w.alloc o) W) : Below w.heap.size w W := ((Below.refl _ _).alloc (Nat.le_refl _) o).trans (h.mono (by simp))
theorem size_conv {w W : World} {o : Obj} (h : Below (w.alloc o).heap.size (w.alloc o) W) : w.heap.size + 1 ≤ W.heap.size := by have := h.size; simpa using this
theorem blk_conv {w W : World} {t : TypeId} {cs : Array Value} (h : Below (w.alloc (.cells cs t)).heap.size (w.alloc (.cells cs t)) W) : Blk W w.heap.size t cs := (Blk.new w t cs).below h (by simp)

/-- what is known while the bytes are collected -/
def St (w wr : World) (v : Value) (l : List Int) : Prop := OwnC wr (w.heap.size + 1) v (cellsU8 l) ∧ Blk wr w.heap.size 237 v0.cells ∧ Below w.heap.size w wr
theorem St.step {w W W' : World} {v v' : Value} {l : List Int} {x : Int} {o : Obj} (h : St w W v l) (ho : OwnC W' (w.heap.size + 1) v' (cellsU8 l ++ [.int .u8 x])) (hg : (W.alloc o).grownBy W' v.ownBlock) : St w W' v' (l ++ [x]) := by
  obtain ⟨h1, h2, h3⟩ := h
  obtain ⟨g, cap, rfl, hb, hlt, _⟩ := h1
  refine ⟨by rw [← cellsU8_snoc]; exact ho, (h2.alloc o).grown hg (fun e => ?_), (h3.alloc h3.size o).grown hg ?_ (fun k e => ?_)⟩
  · injection e with e; dsimp only at e; omega
  · simp; have := h3.size; omega
  · injection e with e; dsimp only at e; omega
def lenV : Value → Nat
  | .slice _ n _ => n
  | _ => 0
def lenByte (n m : Nat) : Int := 8 * (n : Int) / 2 ^ (8 * (7 - m)) % 256
def lenBytes (n m : Nat) : List Int := (List.range m).map (lenByte n)
theorem lenBytes_succ (n m : Nat) : lenBytes n (m + 1) = lenBytes n m ++ [lenByte n m] := by simp [lenBytes, List.range_succ]

def chunkOf (pl : List Int) (k : Nat) : List Int := (pl.drop (64 * k)).take 64
def hashTo (pl : List Int) {N : Nat} (pre : List { k : Nat // k < N }) : V8 := pre.foldl (fun v x => blockF v (chunkOf pl x.1)) v0
theorem hashTo_snoc (pl : List Int) {N : Nat} (pre : List { k : Nat // k < N }) (x : { k : Nat // k < N }) : hashTo pl (pre ++ [x]) = blockF (hashTo pl pre) (chunkOf pl x.1) := by simp [hashTo]
theorem chunkOf_get (pl : List Int) (k j : Nat) (hj : j < 64) (h : 64 * k + j < pl.length) : (cellsU8 pl)[64 * k + j]? = some (.int .u8 ((chunkOf pl k).getD j 0)) := by
  unfold cellsU8 chunkOf
  rw [List.getElem?_map, List.getElem?_eq_getElem h]
  simp [hj, h]
/-- the bytes that are digested, in blocks of 64 -/
def padded (s : ByteArray) : List Int := padTo s (zerosN s.size) ++ lenBytes s.size 8
/-- the digest of a string -/
def sumF (s : ByteArray) : ByteArray := digF (hashTo (padded s) (ups ((padded s).length / 64) ((padded s).length / 64)))
theorem sumF_size (s : ByteArray) : (sumF s).size = 32 := digF_size _
/-- what is known between two rounds over the chunks -/
def SumI (w : World) (B0 g' : Nat) (pl : List Int) {N : Nat} (pre : List { k : Nat // k < N }) (W : World) : Prop :=
  (Blk W w.heap.size 237 (hashTo pl pre).cells ∧ RoundOK W ∧ ∀ j u, (cellsU8 pl)[j]? = some u → W.cell? ⟨g', j, none⟩ = some u) ∧ Below w.heap.size w W ∧ B0 ≤ W.heap.size
theorem SumI.own (w : World) (B0 g' : Nat) (pl : List Int) (N B : Nat) (hB : w.heap.size ≤ B) : OwnFrom B (fun (pre : List { k : Nat // k < N }) W => SumI w B0 g' pl pre W) :=
  OwnFrom.and (Own.from (fun _ A B row hs hg hr => ⟨(hg.block _ hs.1.lt (fun e => by
      obtain ⟨o, ho, hc⟩ := hr _ e.symm
      have h1 := hs.1
      unfold Blk at h1
      rw [h1] at ho
      cases ho
      cases hc)).trans hs.1, fun j v hv => cell_kept (hs.2.1 j v hv) hg hr, fun j u hu => cell_kept (hs.2.2 j u hu) hg hr⟩) _) (OwnFrom.and (ownFrom_below (Nat.le_refl _) hB) (fun _ _ _ _ hs hg _ => Nat.le_trans hs hg.size))

set_option maxHeartbeats 1000000 in
set_option maxRecDepth 100000 in
theorem sum_in (n : Nat) (hn : 3 ≤ n) (s : ByteArray) (w : World) (hs : s.size ≤ 1000000) (hR : RoundOK w) :
    CallsIn Fence.wide n Tryz.prog 100 #[.string s] w fun e w' => e = .returned (.string (sumF s)) ∧ Below w.heap.size w w' := by
  obtain ⟨i0, hi, hz0, hz1, hz2⟩ := info_parts u8_info
  refine callsIn_of_wp_marks Tryz.func100 rfl trivial ?_ rfl
  simp only [Tryz.ntmps100, List.size_toArray, List.length_cons, List.length_nil, Nat.reduceAdd, Nat.reduceSub, Array.replicate_succ, Array.replicate_zero, List.push_toArray, List.append_toArray, List.nil_append, List.cons_append]
  have HR := Lib.hid hR
  have hr1 := hR.lt
  clear hR
  gi_wp2_with (first
    | (refine wpListIn_bytes rfl (.tmp 8) 9 161 5 rfl s rfl Tryz.underlying9 Tryz.underlying161 Tryz.underlying5 (by unfold maxLen; omega) ?_; intro g1 cap1 W1 ho1 hb1; have HO1 := Lib.hid (ownC_conv ho1); have HB1 := Lib.hid (below_conv hb1); have HH1 := Lib.hid (show Blk W1 w.heap.size _ v0.cells from blk_conv hb1); have hz1' := size_conv hb1; clear ho1 hb1)
    | (gi_at_builtin; refine wpListIn_append_m rfl (.tmp 9) (.tmp 10) 161 rfl (w.heap.size + 1) 5 i0 (.int .u8 0) 1 Tryz.underlying161 hi hz0 hz1 hz2 rfl (.slice (some ⟨g1, 0, none⟩) s.size cap1) (cellsU8 (byteList s)) rfl (HO1.out.alloc _) ⟨W1.heap.size, 0, none⟩ 1 (.int .u8 128) rfl (cell_new1 _ _ _) rfl (s.size + 1) ?_ ?_ ?_ ?_ ?_; (rw [cellsU8_length, byteList_length]); (unfold maxLen; omega); omega; (rw [World.size_alloc]; omega); intro g2 cap2 W2 ho2 hg2; have HO2 := Lib.hid ho2; have HG2 := Lib.hid hg2; clear ho2 hg2))
  have hS0 : St w W2 (.slice (some ⟨g2, 0, none⟩) (s.size + 1) cap2) (padTo s 0) := by
    have h := St.step (x := 128) ⟨HO1.out, HH1.out, HB1.out⟩ HO2.out HG2.out
    simpa [padTo] using h
  clear HO1 HH1 HB1 HO2 HG2 hz1'
  gi_loopw [4] (fun v wr => ∃ k g cap : Nat, k ≤ zerosN s.size ∧ v = .slice (some ⟨g, 0, none⟩) (s.size + 1 + k) cap ∧ St w wr v (padTo s k)) (fun v _ => s.size + 1 + zerosN s.size - lenV v)
  case atStart => exact ⟨0, _, _, Nat.zero_le _, rfl, hS0⟩
  case round =>
    clear hS0
    obtain ⟨k, g, cap, hk, rfl, hS⟩ := hrel
    have HS := Lib.hid hS
    have hzr := hS.2.2.size
    clear hS
    have hzd : zerosN s.size = (119 - s.size % 64) % 64 := rfl
    by_cases hlt : k < zerosN s.size
    · have ht : (((s.size : Int) + 1 + (k : Int)) % 64 != 56) = true := by rw [bne_iff_ne]; omega
      clear hzd
      gi_wp2_with (gi_at_builtin; refine wpListIn_append_m rfl (.tmp 16) (.tmp 17) 161 rfl (w.heap.size + 1) 5 i0 (.int .u8 0) 1 Tryz.underlying161 hi hz0 hz1 hz2 rfl (.slice (some ⟨g, 0, none⟩) (s.size + 1 + k) cap) (cellsU8 (padTo s k)) rfl (HS.out.1.alloc _) ⟨wr.heap.size, 0, none⟩ 1 (.int .u8 0) rfl (cell_new1 _ _ _) rfl (s.size + 1 + (k + 1)) ?_ ?_ ?_ ?_ ?_; (rw [cellsU8_length, padTo_length]; omega); (unfold maxLen; unfold zerosN at hlt; omega); (unfold zerosN at hlt; omega); (rw [World.size_alloc]; have := HS.out.1; obtain ⟨_, _, _, _, h5, _⟩ := this; omega); intro g2 cap2 W2 ho2 hg2; have HO2 := Lib.hid ho2; have HG2 := Lib.hid hg2; clear ho2 hg2)
      go_roundw
      case rel => exact ⟨k + 1, g2, cap2, by omega, rfl, by rw [padTo_succ]; exact St.step HS.out HO2.out HG2.out⟩
      case measure => simp [lenV]; omega
    · have HK := Lib.hid (show k = zerosN s.size by omega)
      have ht : (((s.size : Int) + 1 + (k : Int)) % 64 != 56) = false := by
        have := HK.out
        simp only [bne_eq_false_iff_eq]
        omega
      have hk64 : k < 64 := by have := HK.out; omega
      have hmod : (s.size + 1 + k) % 64 = 56 := by have := HK.out; omega
      have HMOD := Lib.hid hmod
      clear hmod hlt hk hzd
      gi_wp2
      gi_loopw [4, 5] (fun v i wr => ∃ m g cap : Nat, m ≤ 8 ∧ i = .int .i64 (7 - (m : Int)) ∧ v = .slice (some ⟨g, 0, none⟩) (s.size + 1 + k + m) cap ∧ St w wr v (padTo s k ++ lenBytes s.size m)) (fun v _ _ => s.size + 1 + k + 8 - lenV v)
      case atStart => exact ⟨0, _, _, by omega, rfl, rfl, by simpa [lenBytes] using HS.out⟩
      case round =>
        clear HS hzr
        obtain ⟨m, g', cap', hm, rfl, rfl, hS⟩ := hrel
        have HS := Lib.hid hS
        have hzr := hS.2.2.size
        clear hS
        by_cases hlt : m < 8
        · have q0 : (0 : Int) ≤ 7 - (m : Int) := by omega
          have q1 : (m : Int) ≤ 7 := by omega
          gi_wp2_with (gi_at_builtin; refine wpListIn_append_m rfl (.tmp 23) (.tmp 31) 161 rfl (w.heap.size + 1) 5 i0 (.int .u8 0) 1 Tryz.underlying161 hi hz0 hz1 hz2 rfl (.slice (some ⟨g', 0, none⟩) (s.size + 1 + k + m) cap') (cellsU8 (padTo s k ++ lenBytes s.size m)) rfl (HS.out.1.alloc _) ⟨wr.heap.size, 0, none⟩ 1 (.int .u8 (lenByte s.size m)) rfl (cell_new1 _ _ _) rfl (s.size + 1 + k + (m + 1)) ?_ ?_ ?_ ?_ ?_; (rw [cellsU8_length, List.length_append, padTo_length]; simp [lenBytes]; omega); (unfold maxLen; omega); omega; (rw [World.size_alloc]; have := HS.out.1; obtain ⟨_, _, _, _, h5, _⟩ := this; omega); intro g3 cap3 W3 ho3 hg3; have HO3 := Lib.hid ho3; have HG3 := Lib.hid hg3; clear ho3 hg3)
          go_roundw
          case rel => exact ⟨m + 1, g3, cap3, by omega, by go_num, rfl, by rw [lenBytes_succ, ← List.append_assoc]; exact St.step HS.out HO3.out HG3.out⟩
          case measure => simp [lenV]; omega
        · have HM := Lib.hid (show m = 8 by omega)
          obtain ⟨N, hN⟩ : ∃ N, s.size + 1 + k + m = 64 * N := ⟨(s.size + 1 + k + m) / 64, by have := HM.out; have := HMOD.out; omega⟩
          have hN6 : N ≤ 100000 := by have := HM.out; omega
          rw [hN] at HS ⊢
          have q0 : ¬ (0 : Int) ≤ 7 - (m : Int) := by omega
          have q2 : decide ((m : Int) ≤ 7) = false := by simp; omega
          gi_wp2_with fail
          refine ⟨trivial, fun _ => Nat.le_trans (by omega) hn, (callsIn_wide.2 (chunk_any _ _ _ _)).mono ?_⟩
          rintro e w' ⟨rfl, rfl⟩
          gi_wp2_with fail
          obtain ⟨pl, hpl⟩ : ∃ pl, pl = padTo s k ++ lenBytes s.size m := ⟨_, rfl⟩
          rw [← hpl] at HS
          have hpll : pl.length = 64 * N := by rw [hpl, List.length_append, padTo_length]; simp [lenBytes]; omega
          obtain ⟨⟨g'', cap'', hgeq, hgb, hglt, hgle, _, hgc, _⟩, hBh, hbw⟩ := HS.out
          injection hgeq with e1 e2 e3
          injection e1 with e1
          injection e1 with e1
          subst e1; subst e3
          clear e2
          have hcap' : 64 * N ≤ cap' := by rw [← hpll, ← cellsU8_length]; exact hgle
          have HPL := Lib.hid hpl
          have HPLL := Lib.hid hpll
          have HGC := Lib.hid hgc
          clear hpl hpll hgc
          have hI0 : SumI w (wr.heap.size + 2) g' pl ([] : List { k : Nat // k < N }) ((wr.alloc (.cells #[.slice (some ⟨g', 0, none⟩) (64 * N) cap'] 161)).alloc (.cells #[.int .i64 64] 3)) :=
            ⟨⟨(hBh.alloc _).alloc _, HR.out.below (((hbw.alloc hbw.size _)).alloc (by simp; omega) _), fun j u hu => cell_al (cell_al (HGC.out j u hu) _) _⟩, ((hbw.alloc hbw.size _)).alloc (by simp; omega) _, by simp⟩
          refine wpIn_rangeFunc_ownF rfl (Nat.le_trans (by omega) hn) (gf := 187) (lb := #[.pointer (some ⟨wr.heap.size, 0, none⟩), .pointer (some ⟨wr.heap.size + 1, 0, none⟩)]) rfl trivial (enters_of Tryz.func187 (by kernel_rfl) rfl)
            (chunk_stops (n - 1) (by omega) wr.heap.size (wr.heap.size + 1) (wr.heap.size + 2) g' N cap' w.heap.size hcap' (by omega) (by omega) (by omega) (by omega) (by omega) _ (by simp) (cell_al (cell_new1 _ _ _) _) (by have h := cell_new1 (wr.alloc (.cells #[.slice (some ⟨g', 0, none⟩) (64 * N) cap'] 161)) (.int .i64 64) 3; rw [World.size_alloc] at h; exact h))
            (fun h k => KeptB.trans h k) (fun W l o o' hl h _ _ b hb1 _ => World.putObj_heap_other (fun e => by subst e; simp at hl; omega)) (Below.refl _ _) (fun _ => rfl)
            (fun pre W => SumI w (wr.heap.size + 2) g' pl pre W) (fun _ _ _ => False) (SumI.own w (wr.heap.size + 2) g' pl N _ (by simp; omega)) (fun _ _ _ _ _ hs _ _ => hs) hI0
            (fun x => { tmps := #[.string s, undef, .string { data := #[] }, .pointer (some ⟨w.heap.size, 0, none⟩), .slice (some ⟨g', 0, none⟩) (64 * N) cap', .int .i64 (7 - (m : Int)), .slice (some ⟨g', 64 * x.1, none⟩) 64 64, .agg #[.int .u32 1779033703, .int .u32 3144134277, .int .u32 1013904242, .int .u32 2773480762, .int .u32 1359893119, .int .u32 2600822924, .int .u32 528734635, .int .u32 1541459225], .string s, .slice (some ⟨g1, 0, none⟩) s.size cap1, .slice (some ⟨W1.heap.size, 0, none⟩) 1 1, .slice (some ⟨g2, 0, none⟩) (s.size + 1) cap2, .slice (some ⟨g, 0, none⟩) (s.size + 1 + k) cap, .int .i64 ((s.size : Int) + 1 + (k : Int)), .int .i64 (((s.size : Int) + 1 + (k : Int)) % 64), .bool false, u16, u17, u18, .int .i64 (7 - (m : Int)), .bool false, u21, u22, u23, u24, u25, u26, u27, u28, u29, u30, u31, u32, .slice (some ⟨g', 0, none⟩) (64 * N) cap', .func (.func 187) #[] #[.pointer (some ⟨wr.heap.size, 0, none⟩), .pointer (some ⟨wr.heap.size + 1, 0, none⟩)], .slice (some ⟨g', 64 * x.1, none⟩) 64 64, undef, undef, undef, undef], defers := [] }) ?assign ?body ?done ?stop
          case assign =>
            intro l x W K hK
            gi_wp2
            exact hK
          case body =>
            rintro l pre x W ⟨⟨hB, hRo, hc⟩, hb, hsz⟩ hlen
            have hd : 1 ≤ n - 1 - 1 := by omega
            have HHC := Lib.hid (show ∀ j, j < 64 → W.cell? ⟨g', 64 * x.1 + j, none⟩ = some (.int .u8 ((chunkOf pl x.1).getD j 0)) from fun j hj => hc _ _ (chunkOf_get pl x.1 j hj (by rw [HPLL.out]; have := x.2; omega)))
            have hgw : g' < W.heap.size := lt_of_cell (HHC.out 0 (by omega))
            have HB := Lib.hid hB
            have HRo := Lib.hid hRo
            have HC := Lib.hid hc
            have HBe := Lib.hid hb
            clear hB hRo hc hb
            gi_wp2_with fail
            refine ⟨trivial, (CallsIn.inRound l (callsIn_wide.2 (add_any w.heap.size g' (64 * x.1) 64 (hashTo pl pre) (chunkOf pl x.1) W hgw HRo.out HB.out HHC.out))).mono ?_⟩
            rintro e W' ⟨rfl, hB', hg'⟩
            gi_wp2
            refine ⟨KeepsOthers.of_grownBy hg' (fun j o e ho => ?_), fun b hb1 hb2 => hg'.block b (by omega) (fun e => by injection e with e; exact hb2 e), ⟨?_, ?_, ?_⟩, HBe.out.grown hg' HBe.out.size (fun k e => by injection e with e; omega), Nat.le_trans hsz hg'.size⟩
            · injection e with e
              subst e
              have h1 := HB.out
              unfold Blk at h1
              rw [h1] at ho
              cases ho
              rfl
            · rw [hashTo_snoc]; exact hB'
            · exact HRo.out.keep (fun p hp => World.cell?_of_block (hg'.block p.block (by rw [hp]; exact HRo.out.lt) (fun e => by injection e with e; omega)))
            · exact fun j u hu => hg'.cell (HC.out j u hu) (fun e => by injection e with e; dsimp only at e; omega)
          case done =>
            rintro D ys W hD rfl ⟨⟨hB, hRo, hc⟩, hb, hsz⟩ hK
            generalize hvs : hashTo pl (ups N N) = vs at *
            have HVS := Lib.hid hvs
            clear hvs hc
            have c0 : W.cell? ⟨w.heap.size, 0, none⟩ = some (.int .u32 vs.a) := hB.cell 0
            have c1 : W.cell? ⟨w.heap.size, 1, none⟩ = some (.int .u32 vs.b) := hB.cell 1
            have c2 : W.cell? ⟨w.heap.size, 2, none⟩ = some (.int .u32 vs.c) := hB.cell 2
            have c3 : W.cell? ⟨w.heap.size, 3, none⟩ = some (.int .u32 vs.d) := hB.cell 3
            have c4 : W.cell? ⟨w.heap.size, 4, none⟩ = some (.int .u32 vs.e) := hB.cell 4
            have c5 : W.cell? ⟨w.heap.size, 5, none⟩ = some (.int .u32 vs.f) := hB.cell 5
            have c6 : W.cell? ⟨w.heap.size, 6, none⟩ = some (.int .u32 vs.g) := hB.cell 6
            have c7 : W.cell? ⟨w.heap.size, 7, none⟩ = some (.int .u32 vs.h) := hB.cell 7
            gi_wp2_with fail
            refine ⟨trivial, fun _ => Nat.le_trans (by omega) hn, (callsIn_wide.2 (wdigest_any vs _)).mono ?_⟩
            rintro e W' ⟨rfl, hb'⟩
            gi_wp2_with fail
            have hK' : W'.heap[D]? = some (.deferred (some [])) := (hb'.block D (Array.getElem?_eq_some_iff.1 hK).1).trans hK
            have hfin : digF vs = sumF s := by
              have e1 : pl = padded s := by rw [HPL.out, HK.out, HM.out]; rfl
              have e2 : N = (padded s).length / 64 := by rw [← e1, HPLL.out]; omega
              unfold sumF
              rw [← HVS.out, ← e1]
              subst e2
              rw [e1]
            refine ⟨by simp, .inl ⟨_, _, rfl, run_takeDeferred hK', ?_⟩⟩
            refine ⟨_, results_tmp rfl _ _ _, by rw [← hfin]; rfl, ?_⟩
            have hbb := hb.trans (hb'.mono hb.size)
            exact hbb.grown (grownBy_putObj' W' D _) hbb.size (fun k e => by injection e with e; simp at hD; omega)
          case stop =>
            rintro D c pre W _ _ h _
            exact h.elim

/-- digest.Sum -/
theorem sum_any (s : ByteArray) (w : World) (hs : s.size ≤ 1000000) (hR : RoundOK w) :
    Calls Tryz.prog 100 #[.string s] w fun e w' => e = .returned (.string (sumF s)) ∧ Below w.heap.size w w' :=
  callsIn_wide.1 (sum_in 3 (Nat.le_refl _) s w hs hR)

end Go.Proofs.YtbgfmbmcabekeaaGreatDoor

/-
  Leaf, Node, Chain: digests of strings behind a mark.
-/
namespace Go.Proofs.YtbgfmbmcabekeaaGreatDoor
open Go.RowKit
attribute [local go_sem ↓] Go.wp_at_zero Go.wp_at_succ

/-- what holds on the way: the mark's cell, the table, and that what was there is there -/
def catB (xs : List ByteArray) : ByteArray := ⟨(Lib.join (xs.map (·.data.toList)) []).toArray⟩
theorem keepM {w W W' : World} {p : Addr} {v : Value} (h : W.cell? p = some v ∧ RoundOK W ∧ Below w.heap.size w W) (hb : Below W.heap.size W W') : W'.cell? p = some v ∧ RoundOK W' ∧ Below w.heap.size w W' :=
  ⟨(hb.cell (lt_of_cell h.1)).trans h.1, h.2.1.below hb, h.2.2.trans (hb.mono h.2.2.size)⟩

set_option maxHeartbeats 400000 in
theorem marked1_any (bk bm c : Nat) (xs : List ByteArray) (mark j : ByteArray) (w : World) (hR : RoundOK w) (hm : w.cell? ⟨bm, 0, none⟩ = some (.string mark))
    (hc : ∀ (i : Nat) x, xs[i]? = some x → w.cell? ⟨bk, 0 + i, none⟩ = some (.string x)) (hbk : bk < w.heap.size) (hn : xs.length ≤ 10) (hcap : xs.length ≤ c) (hj : catB xs = j) (hjs : j.size ≤ 500000) (hms : mark.size ≤ 1) :
    Calls Tryz.prog 185 #[.slice (some ⟨bk, 0, none⟩) xs.length c, .pointer (some ⟨bm, 0, none⟩)] w fun e w' => e = .returned (.string (sumF (mark ++ j))) ∧ Below w.heap.size w w' := by
  have HJ := Lib.hid (show ∀ W : World, (W.cell? ⟨bm, 0, none⟩ = some (.string mark) ∧ RoundOK W ∧ Below w.heap.size w W) → Calls Tryz.prog 186 #[.slice (some ⟨bk, 0, none⟩) xs.length c, .string ⟨#[]⟩] W fun e w' => e = .returned (.string j) ∧ Below W.heap.size W w' from by
    intro W hW
    refine (Tryz.strings_Join bk 0 c xs ⟨#[]⟩ W (fun i x hx => (hW.2.2.cell (p := ⟨bk, 0 + i, none⟩) hbk).trans (hc i x hx)) (Nat.lt_of_lt_of_le hbk hW.2.2.size) (by omega) hcap ?_).mono ?_
    · have : (catB xs).size ≤ 500000 := by rw [hj]; exact hjs
      unfold catB at this
      simp only [ByteArray.size_mk', List.size_toArray] at this
      exact Nat.le_trans this (by omega)
    · rintro e w' ⟨rfl, hb⟩
      exact ⟨by rw [← hj]; rfl, hb⟩)
  have HS := Lib.hid (show ∀ (W : World) (t : ByteArray), t.size ≤ 1000000 → (W.cell? ⟨bm, 0, none⟩ = some (.string mark) ∧ RoundOK W ∧ Below w.heap.size w W) → Calls Tryz.prog 100 #[.string t] W fun e w' => e = .returned (.string (sumF t)) ∧ Below W.heap.size W w' from fun W t ht hW => sum_any t W ht hW.2.1)
  have HR := Lib.hid hR
  have HC := Lib.hid hc
  have HJe := Lib.hid hj
  clear hR hc hj
  have hsz : (mark ++ j).size ≤ 1000000 := by rw [ByteArray.size_append]; omega
  have hsum : mark.size + j.size ≤ 9223372036854775807 := by omega
  have hcat := fun W : World => run_string_add_sum (P := Tryz.prog) (w := W) mark j hsum
  go_enter Tryz.func185, Tryz.ntmps185
  go_wp2
  go_region_held3 (fun w' => w'.cell? ⟨bm, 0, none⟩ = some (.string mark) ∧ RoundOK w' ∧ Below w.heap.size w w')
    (first | exact ⟨hm, HR.out, (Below.refl _ _).drew⟩ | assumption | exact keepM (by assumption) (by assumption))
    (first | (go_at_call 186; refine (HJ.out _ (by assumption)).mono ?_; rintro e w' ⟨rfl, hb'⟩) | (go_at_call 100; refine (HS.out _ _ hsz (by assumption)).mono ?_; rintro e w' ⟨rfl, hb'⟩))
  go_wp2
  go_ret
  exact ⟨rfl, (show w'.cell? ⟨bm, 0, none⟩ = some (.string mark) ∧ RoundOK w' ∧ Below w.heap.size w w' by assumption).2.2⟩

set_option maxHeartbeats 400000 in
theorem marked_any (mark : ByteArray) (w : World) :
    Calls Tryz.prog 143 #[.string mark] w fun e w' => e = .returned (.func (.func 185) #[] #[.pointer (some ⟨w.heap.size, 0, none⟩)]) ∧ w.alloc (.cells #[.string mark] 9) = w' := by
  have hmf : ∀ (fn : Fn) (first cap : Array Value) (w : World), (Instr.makeFunc fn first cap).run Tryz.prog w = .ok (.func fn first cap) w := fun _ _ _ _ => rfl
  go_enter Tryz.func143, Tryz.ntmps143
  go_wp2
  go_ret
  exact ⟨rfl, rfl⟩

def leafF (s : ByteArray) : ByteArray := sumF (⟨#[0]⟩ ++ s)
def nodeF (a b : ByteArray) : ByteArray := sumF (⟨#[1]⟩ ++ (a ++ b))
def chainF (a b : ByteArray) : ByteArray := sumF (⟨#[2]⟩ ++ (a ++ b))
theorem leafF_size (s : ByteArray) : (leafF s).size = 32 := sumF_size _
theorem nodeF_size (a b : ByteArray) : (nodeF a b).size = 32 := sumF_size _
theorem chainF_size (a b : ByteArray) : (chainF a b).size = 32 := sumF_size _
theorem cat1 (s : ByteArray) : catB [s] = s := by
  unfold catB
  simp [Lib.join]
theorem cat2 (a b : ByteArray) : catB [a, b] = a ++ b := by
  unfold catB
  have h := ByteArray.mk_append_mk a.data.toList b.data.toList
  simp only [Array.toArray_toList] at h
  rw [h]
  simp [Lib.join_cons, Lib.joinTail]

set_option maxHeartbeats 400000 in
theorem leaf_any (s : ByteArray) (w : World) (hR : RoundOK w) (hs : s.size ≤ 500000) :
    Calls Tryz.prog 98 #[.string s] w fun e w' => e = .returned (.string (leafF s)) ∧ Below w.heap.size w w' := by
  have hB : Blk ((w.alloc (.cells #[.string ⟨#[0]⟩] 9)).alloc (.cells #[.string s] 9)) (w.heap.size + 1) 9 #[.string s] := Blk.new' _ _ _ (by simp)
  have hbl : Below w.heap.size w ((w.alloc (.cells #[.string ⟨#[0]⟩] 9)).alloc (.cells #[.string s] 9)) := ((Below.refl _ _).alloc (Nat.le_refl _) _).alloc (by simp) _
  have HM := Lib.hid (marked1_any (w.heap.size + 1) w.heap.size 1 [s] ⟨#[0]⟩ s ((w.alloc (.cells #[.string ⟨#[0]⟩] 9)).alloc (.cells #[.string s] 9)) (hR.below hbl) (cell_al (cell_new1 _ _ _) _) (fun i x hx => by
      rw [hB.cell (0 + i)]
      match i, hx with
      | 0, hx => simp at hx; subst hx; rfl
      | (i + 1), hx => simp at hx) (by simp) (by simp) (by simp) (cat1 s) hs (by decide))
  clear hR hB
  go_enter Tryz.func98, Tryz.ntmps98
  go_wp2_with (go_at_call 143; refine (marked_any _ _).mono ?_; rintro e w' ⟨rfl, rfl⟩)
  refine HM.out.mono ?_
  rintro e w' ⟨rfl, hb'⟩
  go_wp2
  go_ret
  exact ⟨rfl, hbl.trans (hb'.mono hbl.size)⟩

set_option maxHeartbeats 400000 in
theorem node_any (a b : ByteArray) (w : World) (hR : RoundOK w) (ha : a.size ≤ 200000) (hb : b.size ≤ 200000) :
    Calls Tryz.prog 99 #[.string a, .string b] w fun e w' => e = .returned (.string (nodeF a b)) ∧ Below w.heap.size w w' := by
  have hB : Blk ((w.alloc (.cells #[.string ⟨#[1]⟩] 9)).alloc (.cells #[.string a, .string b] 9)) (w.heap.size + 1) 9 #[.string a, .string b] := Blk.new' _ _ _ (by simp)
  have hbl : Below w.heap.size w ((w.alloc (.cells #[.string ⟨#[1]⟩] 9)).alloc (.cells #[.string a, .string b] 9)) := ((Below.refl _ _).alloc (Nat.le_refl _) _).alloc (by simp) _
  have HM := Lib.hid (marked1_any (w.heap.size + 1) w.heap.size 2 [a, b] ⟨#[1]⟩ (a ++ b) ((w.alloc (.cells #[.string ⟨#[1]⟩] 9)).alloc (.cells #[.string a, .string b] 9)) (hR.below hbl) (cell_al (cell_new1 _ _ _) _) (fun i x hx => by
      rw [hB.cell (0 + i)]
      match i, hx with
      | 0, hx => simp at hx; subst hx; rfl
      | 1, hx => simp at hx; subst hx; rfl
      | (i + 2), hx => simp at hx) (by simp) (by simp) (by simp) (cat2 a b) (by rw [ByteArray.size_append]; omega) (by decide))
  clear hR hB
  go_enter Tryz.func99, Tryz.ntmps99
  go_wp2_with (go_at_call 143; refine (marked_any _ _).mono ?_; rintro e w' ⟨rfl, rfl⟩)
  refine HM.out.mono ?_
  rintro e w' ⟨rfl, hb'⟩
  go_wp2
  go_ret
  exact ⟨rfl, hbl.trans (hb'.mono hbl.size)⟩

set_option maxHeartbeats 400000 in
theorem chain_any (a b : ByteArray) (w : World) (hR : RoundOK w) (ha : a.size ≤ 200000) (hb : b.size ≤ 200000) :
    Calls Tryz.prog 116 #[.string a, .string b] w fun e w' => e = .returned (.string (chainF a b)) ∧ Below w.heap.size w w' := by
  have hB : Blk ((w.alloc (.cells #[.string ⟨#[2]⟩] 9)).alloc (.cells #[.string a, .string b] 9)) (w.heap.size + 1) 9 #[.string a, .string b] := Blk.new' _ _ _ (by simp)
  have hbl : Below w.heap.size w ((w.alloc (.cells #[.string ⟨#[2]⟩] 9)).alloc (.cells #[.string a, .string b] 9)) := ((Below.refl _ _).alloc (Nat.le_refl _) _).alloc (by simp) _
  have HM := Lib.hid (marked1_any (w.heap.size + 1) w.heap.size 2 [a, b] ⟨#[2]⟩ (a ++ b) ((w.alloc (.cells #[.string ⟨#[2]⟩] 9)).alloc (.cells #[.string a, .string b] 9)) (hR.below hbl) (cell_al (cell_new1 _ _ _) _) (fun i x hx => by
      rw [hB.cell (0 + i)]
      match i, hx with
      | 0, hx => simp at hx; subst hx; rfl
      | 1, hx => simp at hx; subst hx; rfl
      | (i + 2), hx => simp at hx) (by simp) (by simp) (by simp) (cat2 a b) (by rw [ByteArray.size_append]; omega) (by decide))
  clear hR hB
  go_enter Tryz.func116, Tryz.ntmps116
  go_wp2_with (go_at_call 143; refine (marked_any _ _).mono ?_; rintro e w' ⟨rfl, rfl⟩)
  refine HM.out.mono ?_
  rintro e w' ⟨rfl, hb'⟩
  go_wp2
  go_ret
  exact ⟨rfl, hbl.trans (hb'.mono hbl.size)⟩

end Go.Proofs.YtbgfmbmcabekeaaGreatDoor
