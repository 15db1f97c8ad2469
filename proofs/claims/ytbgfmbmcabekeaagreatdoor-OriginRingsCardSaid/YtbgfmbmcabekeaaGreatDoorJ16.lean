/-
  Part 16 of 18: the contracts that the proof of the last part uses; each stands under its own head.
-/
import Derived.Test.YtbgfmbmcabekeaaGreatDoorJ15
import Derived.Test.YtbgfmbmcabekeaaGreatDoorJ13
import Derived.Test.YtbgfmbmcabekeaaGreatDoorJ8
import Derived.Test.YtbgfmbmcabekeaaGreatDoorJ11
set_option linter.unusedSimpArgs false
set_option linter.unusedVariables false

/-
  package message: entry (writer), ValidEntry, at the law's own entries.
-/
namespace Go.Proofs.YtbgfmbmcabekeaaGreatDoor
open Go.RowKit Go.Shelf

theorem rangesW (one : Bool) (b n : Nat) (hn : n ≤ 70000) (v : Value) (w0 w : World) (hE : Below w0.heap.size w0 w) (hv : RangesAt one w0 v) (h : WrAt w w0.heap.size b n) :
    Calls Tryz.prog 132 #[.pointer (some ⟨b, 0, none⟩), v] w fun e w' => e = .returned (.tuple #[]) ∧ (∃ k, k ≤ 1000 ∧ WrAt w' w0.heap.size b (n + k)) ∧ WrKept w0.heap.size b w w' := by
  cases one
  · exact (rangesW0 b n hn v w0 w hE hv h).mono fun _ _ ⟨h1, h2, h3⟩ => ⟨h1, ⟨8 + 544, by omega, h2⟩, h3⟩
  · exact (rangesW1 b n hn v w0 w hE hv h).mono fun _ _ ⟨h1, h2, h3⟩ => ⟨h1, ⟨14 + 544, by omega, h2⟩, h3⟩

set_option maxRecDepth 100000 in
set_option maxHeartbeats 1000000 in
theorem entryW (one : Bool) (base : Nat) (hb : base < 64) (b n : Nat) (hn : n ≤ 60000) (A : Option Addr) (m c : Nat) (w0 w : World) (hE : Below w0.heap.size w0 w) (hv : RangesAt one w0 (.slice A m c)) (h : WrAt w w0.heap.size b n) :
    Calls Tryz.prog 84 #[.pointer (some ⟨b, 0, none⟩), .agg #[.int .i64 1, .int .i64 0, .int .i64 0, .int .i64 5, .int .i64 5, .int .i64 0, .int .i64 0, .int .i64 0, .int .i64 (base : Int), .slice A m c]] w fun e w' => e = .returned (.tuple #[]) ∧ (∃ k, k ≤ 2000 ∧ WrAt w' w0.heap.size b (n + k)) ∧ WrKept w0.heap.size b w w' := by
  obtain ⟨X, hX⟩ : ∃ X, X = w.alloc (.cells #[.int .i64 1, .int .i64 0, .int .i64 0, .int .i64 5, .int .i64 5, .int .i64 0, .int .i64 0, .int .i64 0, .int .i64 (base : Int), .slice A m c] 49) := ⟨_, rfl⟩
  have HX := Lib.hid hX
  have HEX := Lib.hid (show Below w.heap.size w X by rw [hX]; exact ext_new _ _)
  have HB := Lib.hid (show Blk X w.heap.size 49 #[.int .i64 1, .int .i64 0, .int .i64 0, .int .i64 5, .int .i64 5, .int .i64 0, .int .i64 0, .int .i64 0, .int .i64 (base : Int), .slice A m c] by rw [hX]; exact Blk.new _ _ _)
  have H := Lib.hid (h.ext HEX.out)
  have K := Lib.hid (WrKept.of_ext (b := b) HEX.out h.1)
  have HE := Lib.hid hE
  have HV := Lib.hid hv
  clear hX h hE hv
  have q0 := HB.out.cell 0; have q1 := HB.out.cell 1; have q2 := HB.out.cell 2; have q3 := HB.out.cell 3; have q4 := HB.out.cell 4; have q5 := HB.out.cell 5; have q6 := HB.out.cell 6; have q7 := HB.out.cell 7; have q8 := HB.out.cell 8; have q9 := HB.out.cell 9
  go_enter Tryz.func84, Tryz.ntmps84
  go_upto_region 1 with (fail)
  rw [← HX.out]
  go_wp2_with fail
  refine (queryW w0.heap.size b n (by omega) X H.out).mono ?_
  rintro e W1 ⟨rfl, h1, k1⟩
  have H1 := Lib.hid h1
  have K1 := Lib.hid (K.out.trans k1)
  have HB1 := Lib.hid (k1.blk HB.out (by decide) (H.out.ne HB.out (by decide)))
  clear h1 k1 q0 q1 q2 q3 q4 q5 q6 q7 q8 q9
  have q0 := HB1.out.cell 0; have q1 := HB1.out.cell 1; have q2 := HB1.out.cell 2; have q3 := HB1.out.cell 3; have q4 := HB1.out.cell 4; have q5 := HB1.out.cell 5; have q6 := HB1.out.cell 6; have q7 := HB1.out.cell 7; have q8 := HB1.out.cell 8; have q9 := HB1.out.cell 9
  go_wp2_with fail
  refine (intsNew w0.heap.size b (n + 7) _ [0, base] (by simp; exact hb) (by simp) (by omega) W1 _ (by rfl) 2 rfl H1.out).mono ?_
  rintro e W2 ⟨rfl, h2, k2⟩
  have H2 := Lib.hid h2
  have K2 := Lib.hid (K1.out.trans k2)
  have HB2 := Lib.hid (k2.blk HB1.out (by decide) (H1.out.ne HB1.out (by decide)))
  clear h2 k2 q0 q1 q2 q3 q4 q5 q6 q7 q8 q9
  have q0 := HB2.out.cell 0; have q1 := HB2.out.cell 1; have q2 := HB2.out.cell 2; have q3 := HB2.out.cell 3; have q4 := HB2.out.cell 4; have q5 := HB2.out.cell 5; have q6 := HB2.out.cell 6; have q7 := HB2.out.cell 7; have q8 := HB2.out.cell 8; have q9 := HB2.out.cell 9
  go_wp2_with fail
  refine (rangesW one b (n + 7 + 2) (by omega) _ w0 W2 (HE.out.trans K2.out.1) HV.out H2.out).mono ?_
  rintro e W3 ⟨rfl, ⟨k, hk, h3⟩, k3⟩
  have H3 := Lib.hid h3
  have K3 := Lib.hid (K2.out.trans k3)
  clear h3 k3 q0 q1 q2 q3 q4 q5 q6 q7 q8 q9
  go_wp2
  go_end0
  exact ⟨rfl, ⟨7 + 2 + k, by omega, by have := H3.out; rwa [show n + 7 + 2 + k = n + (7 + 2 + k) by omega] at this⟩, K3.out⟩

set_option maxRecDepth 100000 in
set_option maxHeartbeats 2000000 in
theorem validEntry_yes (one : Bool) (base : Nat) (hb : base < 64) (A : Option Addr) (m c : Nat) (w : World) (hv : RangesAt one w (.slice A m c)) :
    Calls Tryz.prog 50 #[.agg #[.int .i64 1, .int .i64 0, .int .i64 0, .int .i64 5, .int .i64 5, .int .i64 0, .int .i64 0, .int .i64 0, .int .i64 (base : Int), .slice A m c]] w fun e w' => e = .returned (.bool true) ∧ Below w.heap.size w w' := by
  obtain ⟨X, hX⟩ : ∃ X, X = w.alloc (.cells #[.int .i64 1, .int .i64 0, .int .i64 0, .int .i64 5, .int .i64 5, .int .i64 0, .int .i64 0, .int .i64 0, .int .i64 (base : Int), .slice A m c] 49) := ⟨_, rfl⟩
  have HX := Lib.hid hX
  have HEX := Lib.hid (show Below w.heap.size w X by rw [hX]; exact ext_new _ _)
  have HB := Lib.hid (show Blk X w.heap.size 49 #[.int .i64 1, .int .i64 0, .int .i64 0, .int .i64 5, .int .i64 5, .int .i64 0, .int .i64 0, .int .i64 0, .int .i64 (base : Int), .slice A m c] by rw [hX]; exact Blk.new _ _ _)
  have HV := Lib.hid (hv.ext HEX.out)
  clear hX hv
  have q0 := HB.out.cell 0; have q1 := HB.out.cell 1; have q2 := HB.out.cell 2; have q3 := HB.out.cell 3; have q4 := HB.out.cell 4; have q5 := HB.out.cell 5; have q6 := HB.out.cell 6; have q7 := HB.out.cell 7; have q8 := HB.out.cell 8; have q9 := HB.out.cell 9
  go_enter Tryz.func50, Tryz.ntmps50
  go_wp2_with fail
  rw [← HX.out]
  refine (queryValid1 X).mono ?_
  rintro e W1 ⟨rfl, hb1⟩
  have HE1 := Lib.hid (ext_call HEX.out hb1)
  have HB1 := Lib.hid (HB.out.ext hb1)
  have HV1 := Lib.hid (HV.out.ext hb1)
  clear hb1 q0 q1 q2 q3 q4 q5 q6 q7 q8 q9
  have q0 := HB1.out.cell 0; have q1 := HB1.out.cell 1; have q2 := HB1.out.cell 2; have q3 := HB1.out.cell 3; have q4 := HB1.out.cell 4; have q5 := HB1.out.cell 5; have q6 := HB1.out.cell 6; have q7 := HB1.out.cell 7; have q8 := HB1.out.cell 8; have q9 := HB1.out.cell 9
  go_wp2_with fail
  refine (transportable_yes one _ W1 HV1.out).mono ?_
  rintro e W2 ⟨rfl, hb2⟩
  have HE2 := Lib.hid (ext_call HE1.out hb2)
  have HB2 := Lib.hid (HB1.out.ext hb2)
  have HV2 := Lib.hid (HV1.out.ext hb2)
  clear hb2 q0 q1 q2 q3 q4 q5 q6 q7 q8 q9
  have q0 := HB2.out.cell 0; have q1 := HB2.out.cell 1; have q2 := HB2.out.cell 2; have q3 := HB2.out.cell 3; have q4 := HB2.out.cell 4; have q5 := HB2.out.cell 5; have q6 := HB2.out.cell 6; have q7 := HB2.out.cell 7; have q8 := HB2.out.cell 8; have q9 := HB2.out.cell 9
  have ql := HB2.out.lt
  go_wp2_with (go_at_call 46; refine (mw_yes _ _ _ (by omega) (by omega) _).mono ?_; rintro e w' ⟨rfl, hw'⟩; subst w')
  have H3 := Lib.hid (WrAt.new W2)
  have HE3 := Lib.hid (ext_new W2 (.cells #[.pointer none, .slice none 0 0] 165))
  refine (entryW one base hb W2.heap.size 0 (by omega) A m c W2 _ HE3.out HV2.out H3.out).mono ?_
  rintro e W4 ⟨rfl, ⟨k, hk, h4⟩, k4⟩
  rw [Nat.zero_add] at h4
  have H4 := Lib.hid h4
  have HE4 := Lib.hid (ext_call HE2.out (HE3.out.trans k4.1))
  have d1 : decide ((k : Int) ≤ 60000) = true := by simp; omega
  clear h4 k4 q0 q1 q2 q3 q4 q5 q6 q7 q8 q9
  go_wp2_with fail
  refine (writerLen W2.heap.size W2.heap.size k W4 H4.out).mono ?_
  rintro e w' ⟨rfl, hw'⟩
  subst w'
  go_wp2
  go_ret
  exact ⟨by simp [d1], HE4.out⟩

end Go.Proofs.YtbgfmbmcabekeaaGreatDoor

/-
  package origin: miss, at the law's own message.
-/
namespace Go.Proofs.YtbgfmbmcabekeaaGreatDoor
open Go.RowKit Go.Shelf
attribute [local go_sem ↓] Go.wp_at_zero Go.wp_at_succ

theorem keepMiss {X W : World} {b gs : Nat} {lag : Int} (h : X.cell? ⟨b, 5, none⟩ = some (.int .i64 0) ∧ X.cell? ⟨b, 10, none⟩ = some (.int .i64 1) ∧ X.cell? ⟨b, 11, none⟩ = some (.int .i64 0) ∧ X.cell? ⟨b, 12, none⟩ = some (.int .i64 0) ∧ X.cell? ⟨b, 13, none⟩ = some (.int .i64 5) ∧ X.cell? ⟨b, 14, none⟩ = some (.int .i64 5) ∧ X.cell? ⟨b, 15, none⟩ = some (.int .i64 0) ∧ X.cell? ⟨b, 16, none⟩ = some (.int .i64 0) ∧ X.cell? ⟨gs, 3, none⟩ = some (.int .i64 lag)) (k : Below X.heap.size X W) : W.cell? ⟨b, 5, none⟩ = some (.int .i64 0) ∧ W.cell? ⟨b, 10, none⟩ = some (.int .i64 1) ∧ W.cell? ⟨b, 11, none⟩ = some (.int .i64 0) ∧ W.cell? ⟨b, 12, none⟩ = some (.int .i64 0) ∧ W.cell? ⟨b, 13, none⟩ = some (.int .i64 5) ∧ W.cell? ⟨b, 14, none⟩ = some (.int .i64 5) ∧ W.cell? ⟨b, 15, none⟩ = some (.int .i64 0) ∧ W.cell? ⟨b, 16, none⟩ = some (.int .i64 0) ∧ W.cell? ⟨gs, 3, none⟩ = some (.int .i64 lag) ∧ Below X.heap.size X W := ⟨cell_ext h.1 k, cell_ext h.2.1 k, cell_ext h.2.2.1 k, cell_ext h.2.2.2.1 k, cell_ext h.2.2.2.2.1 k, cell_ext h.2.2.2.2.2.1 k, cell_ext h.2.2.2.2.2.2.1 k, cell_ext h.2.2.2.2.2.2.2.1 k, cell_ext h.2.2.2.2.2.2.2.2 k, k⟩
theorem keepMissE {X W : World} {b gs : Nat} {lag : Int} (h : W.cell? ⟨b, 5, none⟩ = some (.int .i64 0) ∧ W.cell? ⟨b, 10, none⟩ = some (.int .i64 1) ∧ W.cell? ⟨b, 11, none⟩ = some (.int .i64 0) ∧ W.cell? ⟨b, 12, none⟩ = some (.int .i64 0) ∧ W.cell? ⟨b, 13, none⟩ = some (.int .i64 5) ∧ W.cell? ⟨b, 14, none⟩ = some (.int .i64 5) ∧ W.cell? ⟨b, 15, none⟩ = some (.int .i64 0) ∧ W.cell? ⟨b, 16, none⟩ = some (.int .i64 0) ∧ W.cell? ⟨gs, 3, none⟩ = some (.int .i64 lag) ∧ Below X.heap.size X W) : Below X.heap.size X W := h.2.2.2.2.2.2.2.2.2

theorem make_any (one : Bool) (gs gm : Nat) (pos : Int) (w : World) (hS : StateIs w one gs gm pos) (hR : RoundOK w) :
    Calls Tryz.prog 141 #[.pointer (some ⟨gs, 0, none⟩), .agg #[.int .i64 1, .int .i64 0, .int .i64 0, .int .i64 5, .int .i64 5, .int .i64 0, .int .i64 0]] w fun e w' => ∃ v, e = .returned (.tuple #[v, .int .i64 0]) ∧ RangesAt one w' v ∧ Below w.heap.size w w' := by
  cases one
  · exact make0 gs gm pos w hS hR
  · exact make1 gs gm pos w hS hR
theorem RangesAt.setEnt {one : Bool} {W : World} {v : Value} {eb : Nat} {A : Option Addr} {n c : Nat} {q : Int} (h : RangesAt one W v) (hb : Blk W eb 49 #[.int .i64 1, .int .i64 0, .int .i64 0, .int .i64 5, .int .i64 5, .int .i64 0, .int .i64 0, .int .i64 0, .int .i64 q, .slice A n c]) (u : Value) : RangesAt one (W.setCell ⟨eb, 9, none⟩ u) v := by
  have hs : ∀ (b o : Nat) (x : ByteArray), W.cell? ⟨b, o, none⟩ = some (.string x) → b ≠ eb := by
    rintro b o x h1 rfl
    rw [hb.cell] at h1
    match o, h1 with
    | 0, h1 => simp at h1
    | 1, h1 => simp at h1
    | 2, h1 => simp at h1
    | 3, h1 => simp at h1
    | 4, h1 => simp at h1
    | 5, h1 => simp at h1
    | 6, h1 => simp at h1
    | 7, h1 => simp at h1
    | 8, h1 => simp at h1
    | 9, h1 => simp at h1
    | (k + 10), h1 => simp at h1
  have hst : ∀ {T : Nat → Prop} {v : Value} {l : List ByteArray}, Strs T W v l → Strs T (W.setCell ⟨eb, 9, none⟩ u) v l := by
    rintro T v l ⟨B, d, rfl, hc, h⟩
    refine ⟨B, d, rfl, hc, fun h0 => ?_⟩
    obtain ⟨b, off, hB, hS, hcell⟩ := h h0
    exact ⟨b, off, hB, hS, fun j x hx => (World.cell?_of_block (Below.heap_setCell W ⟨eb, 9, none⟩ u b (hs b _ x (hcell j x hx)))).trans (hcell j x hx)⟩
  obtain ⟨g, c', va, zs, h1, h2, h3, h4⟩ := h
  refine ⟨g, c', va, zs, h1, h2, h3.far (blkNe h3 hb (by decide)) _, ?_⟩
  cases one
  · obtain ⟨v8, q1, q2⟩ := h4
    exact ⟨v8, q1, hst q2⟩
  · obtain ⟨v6, v7, v8, q1, q2, ⟨g2, c2, A0, c0, ys, p1, p2, p3⟩, q4⟩ := h4
    refine ⟨v6, v7, v8, q1, ?_, ⟨g2, c2, A0, c0, ys, p1, p2, p3.far (blkNe p3 hb (by decide)) _⟩, hst q4⟩
    rcases q2 with h | ⟨r1, g3, c3, ws, r2, r3, r4⟩
    · exact .inl h
    · exact .inr ⟨r1, g3, c3, ws, r2, r3, r4.far (blkNe r4 hb (by decide)) _⟩

attribute [local go_sem ↓] bd_exec bd_sem bs_exec bs_sem
set_option maxRecDepth 100000 in
set_option maxHeartbeats 4000000 in
theorem miss_any (one : Bool) (q : Nat) (hq : q = if one then 1 else 0) (lag : Int) (hlag : lag = if one then 0 else 1) (gs gl gst gn gp np cp nm cm no co : Nat) (er sent : Int) (Am Ao : Option Addr) (w : World) (hR : RoundOK w) (hs : SrvAt w gs gl gst gn gp np cp lag er sent Am nm cm Ao no co) (ho : OneRec w gl) :
    Calls Tryz.prog 92 #[.pointer (some ⟨gs, 0, none⟩), .agg #[.int .i64 7, .int .i64 2, .int .i64 100, .int .i64 0, .int .i64 0, .int .i64 0, .int .i64 7, .int .i64 0, .int .i64 0, .int .i64 0, .int .i64 1, .int .i64 0, .int .i64 0, .int .i64 5, .int .i64 5, .int .i64 0, .int .i64 0, .int .i64 0, .slice none 0 0, .int .i64 0, .int .i64 0, .int .i64 0, .int .i64 0, .int .i64 0, .int .i64 0, .int .i64 0, .int .i64 0, .int .i64 0, .slice none 0 0, .int .i64 0, .int .i64 0, .int .i64 0, .int .i64 0, .int .i64 0, .int .i64 0, .int .i64 0, .slice none 0 0, .int .i64 0, .bool false, .int .i64 0, .int .i64 0, .int .i64 0, .slice none 0 0, .slice none 0 0, .int .i64 0, .slice none 0 0, .slice none 0 0]] w fun e w' => ∃ g A n1 c1, e = .returned (.slice (some ⟨g, 0, none⟩) 1 1) ∧ Blk w' g 57 #[.int .i64 8, .int .i64 100, .int .i64 2, .int .i64 0, .int .i64 0, .int .i64 0, .int .i64 7, .int .i64 0, .int .i64 0, .int .i64 0, .int .i64 0, .int .i64 0, .int .i64 0, .int .i64 0, .int .i64 0, .int .i64 0, .int .i64 0, .int .i64 0, .slice none 0 0, .int .i64 1, .int .i64 0, .int .i64 0, .int .i64 5, .int .i64 5, .int .i64 0, .int .i64 0, .int .i64 0, .int .i64 (q : Int), .slice A n1 c1, .int .i64 0, .int .i64 0, .int .i64 0, .int .i64 0, .int .i64 0, .int .i64 0, .int .i64 0, .slice none 0 0, .int .i64 0, .bool false, .int .i64 0, .int .i64 0, .int .i64 0, .slice none 0 0, .slice none 0 0, .int .i64 0, .slice none 0 0, .slice none 0 0] ∧ Below w.heap.size w w' := by
  obtain ⟨va, hva⟩ : ∃ va : Array Value, va = #[.int .i64 7, .int .i64 2, .int .i64 100, .int .i64 0, .int .i64 0, .int .i64 0, .int .i64 7, .int .i64 0, .int .i64 0, .int .i64 0, .int .i64 1, .int .i64 0, .int .i64 0, .int .i64 5, .int .i64 5, .int .i64 0, .int .i64 0, .int .i64 0, .slice none 0 0, .int .i64 0, .int .i64 0, .int .i64 0, .int .i64 0, .int .i64 0, .int .i64 0, .int .i64 0, .int .i64 0, .int .i64 0, .slice none 0 0, .int .i64 0, .int .i64 0, .int .i64 0, .int .i64 0, .int .i64 0, .int .i64 0, .int .i64 0, .slice none 0 0, .int .i64 0, .bool false, .int .i64 0, .int .i64 0, .int .i64 0, .slice none 0 0, .slice none 0 0, .int .i64 0, .slice none 0 0, .slice none 0 0] := ⟨_, rfl⟩
  obtain ⟨X, hX⟩ : ∃ X, X = w.alloc (.cells va 57) := ⟨_, rfl⟩
  have HX := Lib.hid hX
  have HE := Lib.hid (show Below w.heap.size w X by rw [hX]; exact ext_new _ _)
  have HB := Lib.hid (show Blk X w.heap.size 57 va by rw [hX]; exact Blk.new _ _ _)
  have HVA := Lib.hid hva
  have HS := Lib.hid (hs.ext HE.out)
  have HO := Lib.hid (ho.ext HE.out)
  have HR := Lib.hid hR
  have hsx := hs.ext HE.out
  have s3 : X.cell? ⟨gs, 3, none⟩ = some (.int .i64 lag) := Blk.cell hsx 3
  rw [← hva]
  clear hX hva hs ho hR hsx
  have a5 := (HB.out.cell 5).trans (show _ = some (.int .i64 0) by rw [HVA.out]; rfl)
  have a10 := (HB.out.cell 10).trans (show _ = some (.int .i64 1) by rw [HVA.out]; rfl)
  have a11 := (HB.out.cell 11).trans (show _ = some (.int .i64 0) by rw [HVA.out]; rfl)
  have a12 := (HB.out.cell 12).trans (show _ = some (.int .i64 0) by rw [HVA.out]; rfl)
  have a13 := (HB.out.cell 13).trans (show _ = some (.int .i64 5) by rw [HVA.out]; rfl)
  have a14 := (HB.out.cell 14).trans (show _ = some (.int .i64 5) by rw [HVA.out]; rfl)
  have a15 := (HB.out.cell 15).trans (show _ = some (.int .i64 0) by rw [HVA.out]; rfl)
  have a16 := (HB.out.cell 16).trans (show _ = some (.int .i64 0) by rw [HVA.out]; rfl)
  have HK := Lib.hid (show X.cell? ⟨w.heap.size, 5, none⟩ = some (.int .i64 0) ∧ X.cell? ⟨w.heap.size, 10, none⟩ = some (.int .i64 1) ∧ X.cell? ⟨w.heap.size, 11, none⟩ = some (.int .i64 0) ∧ X.cell? ⟨w.heap.size, 12, none⟩ = some (.int .i64 0) ∧ X.cell? ⟨w.heap.size, 13, none⟩ = some (.int .i64 5) ∧ X.cell? ⟨w.heap.size, 14, none⟩ = some (.int .i64 5) ∧ X.cell? ⟨w.heap.size, 15, none⟩ = some (.int .i64 0) ∧ X.cell? ⟨w.heap.size, 16, none⟩ = some (.int .i64 0) ∧ X.cell? ⟨gs, 3, none⟩ = some (.int .i64 lag) from ⟨a5, a10, a11, a12, a13, a14, a15, a16, s3⟩)
  have HP := Lib.hid (fun (W : World) (k : Below X.heap.size X W) => srvPosC gs gl W (Blk.cell (HS.out.ext k) 0) (HO.out.ext k))
  have hq64 : q < 64 := by rw [hq]; cases one <;> decide
  have hqi : (q : Int) = if one then 1 else 0 := by rw [hq]; cases one <;> rfl
  have hmx : max (IntKind.i64.wrap (1 - lag)) 0 = (q : Int) := by rw [hqi]; subst hlag; cases one <;> decide
  have hmx2 : max (1 - lag) 0 = (q : Int) := by rw [hqi]; subst hlag; cases one <;> decide
  have hwr : IntKind.i64.wrap (1 - lag) = 1 - lag := by subst hlag; cases one <;> decide
  have HQ := Lib.hid hqi
  clear hlag hq hqi
  go_enter Tryz.func92, Tryz.ntmps92
  go_upto_region 1 with (fail)
  rw [← HX.out]
  go_region_held3 (fun w' => w'.cell? ⟨w.heap.size, 5, none⟩ = some (.int .i64 0) ∧ w'.cell? ⟨w.heap.size, 10, none⟩ = some (.int .i64 1) ∧ w'.cell? ⟨w.heap.size, 11, none⟩ = some (.int .i64 0) ∧ w'.cell? ⟨w.heap.size, 12, none⟩ = some (.int .i64 0) ∧ w'.cell? ⟨w.heap.size, 13, none⟩ = some (.int .i64 5) ∧ w'.cell? ⟨w.heap.size, 14, none⟩ = some (.int .i64 5) ∧ w'.cell? ⟨w.heap.size, 15, none⟩ = some (.int .i64 0) ∧ w'.cell? ⟨w.heap.size, 16, none⟩ = some (.int .i64 0) ∧ w'.cell? ⟨gs, 3, none⟩ = some (.int .i64 lag) ∧ Below X.heap.size X w')
    (first | with_reducible assumption | exact keepMiss HK.out (by repeat (first | with_reducible refine ext_alloc ?_ _ | with_reducible refine Below.drew ?_ | with_reducible assumption | with_reducible exact ext_refl _ | refine ext_set ?_ (Nat.le_refl _) _)))
    (first | (go_at_call 16; (with_reducible refine (HP.out _ ?_).mono ?_); (exact keepMissE (by assumption)); rintro e w9 ⟨rfl, hw9⟩; subst w9))
  all_goals
    clear a5 a10 a11 a12 a13 a14 a15 a16 s3 hmx hmx2 hwr
    obtain ⟨Y, hY⟩ : ∃ Y, Y = (X.alloc (.cells #[.int .i64 1, .int .i64 0, .int .i64 0, .int .i64 5, .int .i64 5, .int .i64 0, .int .i64 0, .int .i64 0, .int .i64 (q : Int), .slice none 0 0] 49)).drew := ⟨_, rfl⟩
    rw [← hY]
    have HEY := Lib.hid (show Below X.heap.size X Y by rw [hY]; exact (ext_new X _).drew)
    have HN := Lib.hid (show Blk Y X.heap.size 49 #[.int .i64 1, .int .i64 0, .int .i64 0, .int .i64 5, .int .i64 5, .int .i64 0, .int .i64 0, .int .i64 0, .int .i64 (q : Int), .slice none 0 0] by rw [hY]; exact Blk.drew (Blk.new X _ _))
    have hbX : w.heap.size < X.heap.size := HB.out.lt
    clear hY
    generalize X.heap.size = eb at HN hbX ⊢
    have q8 := HN.out.cell 8
    have HSt := Lib.hid (show Calls Tryz.prog 25 #[.pointer (some ⟨gs, 0, none⟩), .int .i64 (q : Int)] Y fun e w' => ∃ g m, e = .returned (.tuple #[.pointer (some ⟨g, 0, none⟩), .bool true]) ∧ StateIs w' one g m (q : Int) ∧ Below Y.heap.size Y w' by
      rw [HQ.out]
      exact srvState one gs gl Y (Blk.cell (HS.out.ext HEY.out) 0) (HO.out.ext HEY.out))
    go_wp2_with fail
    refine HSt.out.mono ?_
    rintro e W1 ⟨g, m, rfl, hs1, hb1⟩
    have HE1 := Lib.hid (ext_call HEY.out hb1)
    have HN1 := Lib.hid (HN.out.ext hb1)
    have HS1 := Lib.hid hs1
    have HRR := Lib.hid (HR.out.below (ext_call HE.out HE1.out))
    clear hs1 hb1 q8 HSt
    have HB1 := Lib.hid (HB.out.ext HE1.out)
    have a10 := (HB1.out.cell 10).trans (show _ = some (.int .i64 1) by rw [HVA.out]; rfl)
    have a11 := (HB1.out.cell 11).trans (show _ = some (.int .i64 0) by rw [HVA.out]; rfl)
    have a12 := (HB1.out.cell 12).trans (show _ = some (.int .i64 0) by rw [HVA.out]; rfl)
    have a13 := (HB1.out.cell 13).trans (show _ = some (.int .i64 5) by rw [HVA.out]; rfl)
    have a14 := (HB1.out.cell 14).trans (show _ = some (.int .i64 5) by rw [HVA.out]; rfl)
    have a15 := (HB1.out.cell 15).trans (show _ = some (.int .i64 0) by rw [HVA.out]; rfl)
    have a16 := (HB1.out.cell 16).trans (show _ = some (.int .i64 0) by rw [HVA.out]; rfl)
    go_wp2_with fail
    refine (make_any one g m _ W1 HS1.out HRR.out).mono ?_
    rintro e W2 ⟨v, rfl, hra, hb2⟩
    have HE2 := Lib.hid (ext_call HE1.out hb2)
    have HN2 := Lib.hid (HN1.out.ext hb2)
    have HRA := Lib.hid hra
    obtain ⟨gv, cv, _, _, rfl, _⟩ := hra
    clear hb2 a10 a11 a12 a13 a14 a15 a16
    have HU := Lib.hid (show RangesAt one (W2.setCell ⟨eb, 9, none⟩ (.slice (some ⟨gv, 0, none⟩) 1 cv)) (.slice (some ⟨gv, 0, none⟩) 1 cv) from HRA.out.setEnt HN2.out _)
    have HNU := Lib.hid (show Blk (W2.setCell ⟨eb, 9, none⟩ (.slice (some ⟨gv, 0, none⟩) 1 cv)) eb 49 #[.int .i64 1, .int .i64 0, .int .i64 0, .int .i64 5, .int .i64 5, .int .i64 0, .int .i64 0, .int .i64 0, .int .i64 (q : Int), .slice (some ⟨gv, 0, none⟩) 1 cv] by have h9 := HN2.out.set_ 9 (.slice (some ⟨gv, 0, none⟩) 1 cv); exact h9)
    have HBU := Lib.hid (show Blk (W2.setCell ⟨eb, 9, none⟩ (.slice (some ⟨gv, 0, none⟩) 1 cv)) w.heap.size 57 va from (HB.out.ext HE2.out).far (by show w.heap.size ≠ eb; omega) _)
    have HEU := Lib.hid (show Below w.heap.size w (W2.setCell ⟨eb, 9, none⟩ (.slice (some ⟨gv, 0, none⟩) 1 cv)) from ext_set (ext_call HE.out HE2.out) (by show w.heap.size ≤ eb; omega) _)
    have n9 := HN2.out.cell 9
    have f9 := HN2.out.frozen 9
    have HSW := Lib.hid (fun U => show U = W2.setCell ⟨eb, 9, none⟩ (.slice (some ⟨gv, 0, none⟩) 1 cv) → True from fun _ => trivial)
    go_upto_region 5 with (fail)
    clear n9 f9
    generalize W2.setCell ⟨eb, 9, none⟩ (.slice (some ⟨gv, 0, none⟩) 1 cv) = U at HU HNU HBU HEU ⊢
    have n0 := HNU.out.cell 0; have n1 := HNU.out.cell 1; have n2 := HNU.out.cell 2; have n3 := HNU.out.cell 3; have n4 := HNU.out.cell 4; have n5 := HNU.out.cell 5; have n6 := HNU.out.cell 6; have n7 := HNU.out.cell 7; have n8 := HNU.out.cell 8; have n9 := HNU.out.cell 9
    go_wp2_with fail
    refine (validEntry_yes one q hq64 _ 1 cv U HU.out).mono ?_
    rintro e Z ⟨rfl, hbz⟩
    have HNZ := Lib.hid (HNU.out.ext hbz)
    have HBZ := Lib.hid (HBU.out.ext hbz)
    have HEZ := Lib.hid (ext_call HEU.out hbz)
    clear hbz n0 n1 n2 n3 n4 n5 n6 n7 n8 n9
    have n0 := HNZ.out.cell 0; have n1 := HNZ.out.cell 1; have n2 := HNZ.out.cell 2; have n3 := HNZ.out.cell 3; have n4 := HNZ.out.cell 4; have n5 := HNZ.out.cell 5; have n6 := HNZ.out.cell 6; have n7 := HNZ.out.cell 7; have n8 := HNZ.out.cell 8; have n9 := HNZ.out.cell 9
    have a1 := (HBZ.out.cell 1).trans (show _ = some (.int .i64 2) by rw [HVA.out]; rfl)
    have a6 := (HBZ.out.cell 6).trans (show _ = some (.int .i64 7) by rw [HVA.out]; rfl)
    obtain ⟨oa, hoa⟩ : ∃ oa : Array Value, oa = #[.int .i64 8, .int .i64 100, .int .i64 2, .int .i64 0, .int .i64 0, .int .i64 0, .int .i64 7, .int .i64 0, .int .i64 0, .int .i64 0, .int .i64 0, .int .i64 0, .int .i64 0, .int .i64 0, .int .i64 0, .int .i64 0, .int .i64 0, .int .i64 0, .slice none 0 0, .int .i64 1, .int .i64 0, .int .i64 0, .int .i64 5, .int .i64 5, .int .i64 0, .int .i64 0, .int .i64 0, .int .i64 (q : Int), .slice (some ⟨gv, 0, none⟩) 1 cv, .int .i64 0, .int .i64 0, .int .i64 0, .int .i64 0, .int .i64 0, .int .i64 0, .int .i64 0, .slice none 0 0, .int .i64 0, .bool false, .int .i64 0, .int .i64 0, .int .i64 0, .slice none 0 0, .slice none 0 0, .int .i64 0, .slice none 0 0, .slice none 0 0] := ⟨_, rfl⟩
    have hos : oa.size = 47 := by rw [hoa]; rfl
    obtain ⟨d1, e1⟩ := bd_of Z (P := Tryz.prog) (t := 57) (ps := #[(0, .int .i64 8), (1, .int .i64 100), (2, .int .i64 2), (6, .int .i64 7), (12, .agg #[.int .i64 1, .int .i64 0, .int .i64 0, .int .i64 5, .int .i64 5, .int .i64 0, .int .i64 0, .int .i64 0, .int .i64 (q : Int), .slice (some ⟨gv, 0, none⟩) 1 cv])]) (cs := oa) (by rw [hoa]; kernel_rfl)
    obtain ⟨d2, e2⟩ := bs_of Z (msg_slice oa hos)
    have HOA := Lib.hid hoa
    clear hoa
    go_wp2
    go_ret
    refine ⟨Z.heap.size, some ⟨gv, 0, none⟩, 1, cv, rfl, ?_, ext_alloc HEZ.out _⟩
    have h9 := Blk.new Z 57 oa
    rw [HOA.out] at h9 ⊢
    exact h9

end Go.Proofs.YtbgfmbmcabekeaaGreatDoor

/-
  package origin: Receive of the law's miss.
-/
namespace Go.Proofs.YtbgfmbmcabekeaaGreatDoor
open Go.RowKit Go.Shelf
attribute [local go_sem ↓] ld_exec ld_sem
set_option maxRecDepth 100000 in
set_option maxHeartbeats 4000000 in
theorem recvMiss (one : Bool) (q : Nat) (hq : q = if one then 1 else 0) (lag : Int) (hlag : lag = if one then 0 else 1) (gs gl gst gn gp np cp nm cm no co : Nat) (er sent : Int) (Am Ao : Option Addr) (w : World) (hR : RoundOK w) (hs : SrvAt w gs gl gst gn gp np cp lag er sent Am nm cm Ao no co) (ho : OneRec w gl) :
    Calls Tryz.prog 20 #[.pointer (some ⟨gs, 0, none⟩), .agg #[.int .i64 7, .int .i64 2, .int .i64 100, .int .i64 0, .int .i64 0, .int .i64 0, .int .i64 7, .int .i64 0, .int .i64 0, .int .i64 0, .int .i64 1, .int .i64 0, .int .i64 0, .int .i64 5, .int .i64 5, .int .i64 0, .int .i64 0, .int .i64 0, .slice none 0 0, .int .i64 0, .int .i64 0, .int .i64 0, .int .i64 0, .int .i64 0, .int .i64 0, .int .i64 0, .int .i64 0, .int .i64 0, .slice none 0 0, .int .i64 0, .int .i64 0, .int .i64 0, .int .i64 0, .int .i64 0, .int .i64 0, .int .i64 0, .slice none 0 0, .int .i64 0, .bool false, .int .i64 0, .int .i64 0, .int .i64 0, .slice none 0 0, .slice none 0 0, .int .i64 0, .slice none 0 0, .slice none 0 0]] w fun e w' => ∃ g A n1 c1, e = .returned (.slice (some ⟨g, 0, none⟩) 1 1) ∧ Blk w' g 57 #[.int .i64 8, .int .i64 100, .int .i64 2, .int .i64 0, .int .i64 0, .int .i64 0, .int .i64 7, .int .i64 0, .int .i64 0, .int .i64 0, .int .i64 0, .int .i64 0, .int .i64 0, .int .i64 0, .int .i64 0, .int .i64 0, .int .i64 0, .int .i64 0, .slice none 0 0, .int .i64 1, .int .i64 0, .int .i64 0, .int .i64 5, .int .i64 5, .int .i64 0, .int .i64 0, .int .i64 0, .int .i64 (q : Int), .slice A n1 c1, .int .i64 0, .int .i64 0, .int .i64 0, .int .i64 0, .int .i64 0, .int .i64 0, .int .i64 0, .slice none 0 0, .int .i64 0, .bool false, .int .i64 0, .int .i64 0, .int .i64 0, .slice none 0 0, .slice none 0 0, .int .i64 0, .slice none 0 0, .slice none 0 0] ∧ Below w.heap.size w w' := by
  obtain ⟨va, hva⟩ : ∃ va : Array Value, va = #[.int .i64 7, .int .i64 2, .int .i64 100, .int .i64 0, .int .i64 0, .int .i64 0, .int .i64 7, .int .i64 0, .int .i64 0, .int .i64 0, .int .i64 1, .int .i64 0, .int .i64 0, .int .i64 5, .int .i64 5, .int .i64 0, .int .i64 0, .int .i64 0, .slice none 0 0, .int .i64 0, .int .i64 0, .int .i64 0, .int .i64 0, .int .i64 0, .int .i64 0, .int .i64 0, .int .i64 0, .int .i64 0, .slice none 0 0, .int .i64 0, .int .i64 0, .int .i64 0, .int .i64 0, .int .i64 0, .int .i64 0, .int .i64 0, .slice none 0 0, .int .i64 0, .bool false, .int .i64 0, .int .i64 0, .int .i64 0, .slice none 0 0, .slice none 0 0, .int .i64 0, .slice none 0 0, .slice none 0 0] := ⟨_, rfl⟩
  obtain ⟨X, hX⟩ : ∃ X, X = w.alloc (.cells va 57) := ⟨_, rfl⟩
  have HX := Lib.hid hX
  have HE := Lib.hid (show Below w.heap.size w X by rw [hX]; exact ext_new _ _)
  have HB := Lib.hid (show Blk X w.heap.size 57 va by rw [hX]; exact Blk.new _ _ _)
  have HVA := Lib.hid hva
  have HV := Lib.hid (show ∀ W, Calls Tryz.prog 17 #[.agg va] W fun e w' => e = .returned (.bool true) ∧ Below W.heap.size W w' by rw [hva]; intro W; exact validMiss W)
  have HH := Lib.hid (show ∀ W, Below w.heap.size w W → Calls Tryz.prog 92 #[.pointer (some ⟨gs, 0, none⟩), .agg va] W fun e w' => ∃ g A n1 c1, e = .returned (.slice (some ⟨g, 0, none⟩) 1 1) ∧ Blk w' g 57 #[.int .i64 8, .int .i64 100, .int .i64 2, .int .i64 0, .int .i64 0, .int .i64 0, .int .i64 7, .int .i64 0, .int .i64 0, .int .i64 0, .int .i64 0, .int .i64 0, .int .i64 0, .int .i64 0, .int .i64 0, .int .i64 0, .int .i64 0, .int .i64 0, .slice none 0 0, .int .i64 1, .int .i64 0, .int .i64 0, .int .i64 5, .int .i64 5, .int .i64 0, .int .i64 0, .int .i64 0, .int .i64 (q : Int), .slice A n1 c1, .int .i64 0, .int .i64 0, .int .i64 0, .int .i64 0, .int .i64 0, .int .i64 0, .int .i64 0, .slice none 0 0, .int .i64 0, .bool false, .int .i64 0, .int .i64 0, .int .i64 0, .slice none 0 0, .slice none 0 0, .int .i64 0, .slice none 0 0, .slice none 0 0] ∧ Below W.heap.size W w' by rw [hva]; intro W k; exact miss_any one q hq lag hlag gs gl gst gn gp np cp nm cm no co er sent Am Ao W (hR.below k) (hs.ext k) (ho.ext k))
  rw [← hva]
  clear hX hva hq hlag hR hs ho
  have l1 := ld_blk (P := Tryz.prog) HB.out (show Array.extract va 0 47 = va by rw [HVA.out]; kernel_rfl) Tryz.underlying57 rfl (by rw [HVA.out]; kernel_rfl)
  obtain ⟨l1, e1⟩ := l1
  go_enter Tryz.func20, Tryz.ntmps20
  go_upto_region 1 with (fail)
  rw [← HX.out]
  go_wp2_with fail
  refine (HV.out X).mono ?_
  rintro e Z ⟨rfl, hbz⟩
  have HEZ := Lib.hid (ext_call HE.out hbz)
  have HBZ := Lib.hid (HB.out.ext hbz)
  clear hbz l1 e1
  have a2 := (HBZ.out.cell 2).trans (show _ = some (.int .i64 100) by rw [HVA.out]; rfl)
  have a0 := (HBZ.out.cell 0).trans (show _ = some (.int .i64 7) by rw [HVA.out]; rfl)
  have HAn := Lib.hid (fun (W : World) (k : Below Z.heap.size Z W) => show Calls Tryz.prog 52 #[] W fun e w' => ∃ g, e = .returned (.map (some g)) ∧ w'.cell? ⟨w.heap.size, 0, none⟩ = some (.int .i64 7) ∧ (Instr.lookup 119 (.map (some g)) (.int .i64 7) true).run Tryz.prog w' = .ok (.tuple #[.func (.func 92) #[] #[], .bool true]) w' ∧ Below W.heap.size W w' from (answers_any W).mono fun e w' ⟨g, h1, _, h3, h4⟩ =>
      ⟨g, h1, cell_ext (cell_ext a0 k) h4, lookup_Iok (P := Tryz.prog) (w := w') Tryz.underlying119 Tryz.underlying3 h3 7 (z := .nilFunc) (by kernel_rfl), h4⟩)
  go_upto_region 3 with (fail)
  go_region_with (go_at_call 52; refine (HAn.out _ (by first | exact ext_refl Z | exact (ext_refl Z).drew)).mono ?_; rintro e W1 ⟨g, rfl, hk1, hlk, hb1⟩)
  all_goals
    have HE1 := Lib.hid (ext_call HEZ.out (undrew hb1))
    have l1 := ld_blk (P := Tryz.prog) (HBZ.out.ext (undrew hb1)) (show Array.extract va 0 47 = va by rw [HVA.out]; kernel_rfl) Tryz.underlying57 rfl (by rw [HVA.out]; kernel_rfl)
    obtain ⟨l1, e1⟩ := l1
    clear hb1 hlk hk1 a0 a2
    go_wp2_with fail
    refine (HH.out W1 HE1.out).mono ?_
    rintro e W2 ⟨g1, A1, n1, c1, rfl, hb, hb2⟩
    have HE2 := Lib.hid (ext_call HE1.out hb2)
    clear hb2
    go_wp2
    go_ret
    exact ⟨g1, A1, n1, c1, rfl, hb, HE2.out⟩

end Go.Proofs.YtbgfmbmcabekeaaGreatDoor

/-
  package origin: Receive of a message that wants a ring.
-/
namespace Go.Proofs.YtbgfmbmcabekeaaGreatDoor
open Go.RowKit Go.Shelf
attribute [local go_sem ↓] ld_exec ld_sem
set_option maxRecDepth 100000 in
set_option maxHeartbeats 4000000 in
theorem recvWantNo (n ep : Int) (hn0 : 0 ≤ n) (hn1 : n ≤ 23) (he0 : 0 ≤ ep) (he1 : ep ≤ 1000000) (gs : Nat) (er : Int) (w : World) (h4 : w.cell? ⟨gs, 4, none⟩ = some (.int .i64 er)) (hle : er ≤ ep) :
    Calls Tryz.prog 20 #[.pointer (some ⟨gs, 0, none⟩), .agg #[.int .i64 9, .int .i64 n, .int .i64 100, .int .i64 0, .int .i64 ep, .int .i64 0, .int .i64 0, .int .i64 0, .int .i64 0, .int .i64 0, .int .i64 0, .int .i64 0, .int .i64 0, .int .i64 0, .int .i64 0, .int .i64 0, .int .i64 0, .int .i64 0, .slice none 0 0, .int .i64 0, .int .i64 0, .int .i64 0, .int .i64 0, .int .i64 0, .int .i64 0, .int .i64 0, .int .i64 0, .int .i64 0, .slice none 0 0, .int .i64 0, .int .i64 0, .int .i64 0, .int .i64 0, .int .i64 0, .int .i64 0, .int .i64 0, .slice none 0 0, .int .i64 0, .bool false, .int .i64 0, .int .i64 0, .int .i64 0, .slice none 0 0, .slice none 0 0, .int .i64 0, .slice none 0 0, .slice none 0 0]] w fun e w' => e = .returned (.slice none 0 0) ∧ Below w.heap.size w w' := by
  obtain ⟨va, hva⟩ : ∃ va : Array Value, va = #[.int .i64 9, .int .i64 n, .int .i64 100, .int .i64 0, .int .i64 ep, .int .i64 0, .int .i64 0, .int .i64 0, .int .i64 0, .int .i64 0, .int .i64 0, .int .i64 0, .int .i64 0, .int .i64 0, .int .i64 0, .int .i64 0, .int .i64 0, .int .i64 0, .slice none 0 0, .int .i64 0, .int .i64 0, .int .i64 0, .int .i64 0, .int .i64 0, .int .i64 0, .int .i64 0, .int .i64 0, .int .i64 0, .slice none 0 0, .int .i64 0, .int .i64 0, .int .i64 0, .int .i64 0, .int .i64 0, .int .i64 0, .int .i64 0, .slice none 0 0, .int .i64 0, .bool false, .int .i64 0, .int .i64 0, .int .i64 0, .slice none 0 0, .slice none 0 0, .int .i64 0, .slice none 0 0, .slice none 0 0] := ⟨_, rfl⟩
  obtain ⟨X, hX⟩ : ∃ X, X = w.alloc (.cells va 57) := ⟨_, rfl⟩
  have HX := Lib.hid hX
  have HE := Lib.hid (show Below w.heap.size w X by rw [hX]; exact ext_new _ _)
  have HB := Lib.hid (show Blk X w.heap.size 57 va by rw [hX]; exact Blk.new _ _ _)
  have HVA := Lib.hid hva
  have HV := Lib.hid (show ∀ W, Calls Tryz.prog 17 #[.agg va] W fun e w' => e = .returned (.bool true) ∧ Below W.heap.size W w' by rw [hva]; intro W; exact validWant n ep hn0 hn1 he0 he1 W)
  have HH := Lib.hid (show ∀ W, Below w.heap.size w W → Calls Tryz.prog 93 #[.pointer (some ⟨gs, 0, none⟩), .agg va] W fun e w' => e = .returned (.slice none 0 0) ∧ Below W.heap.size W w' by rw [hva]; intro W k; exact wantNo n ep gs er W (cell_ext h4 k) hle)
  rw [← hva]
  clear hX hva
  have l1 := ld_blk (P := Tryz.prog) HB.out (show Array.extract va 0 47 = va by rw [HVA.out]; kernel_rfl) Tryz.underlying57 rfl (by rw [HVA.out]; kernel_rfl)
  obtain ⟨l1, e1⟩ := l1
  go_enter Tryz.func20, Tryz.ntmps20
  go_upto_region 1 with (fail)
  rw [← HX.out]
  go_wp2_with fail
  refine (HV.out X).mono ?_
  rintro e Z ⟨rfl, hbz⟩
  have HEZ := Lib.hid (ext_call HE.out hbz)
  have HBZ := Lib.hid (HB.out.ext hbz)
  clear hbz l1 e1
  have a2 := (HBZ.out.cell 2).trans (show _ = some (.int .i64 100) by rw [HVA.out]; rfl)
  have a0 := (HBZ.out.cell 0).trans (show _ = some (.int .i64 9) by rw [HVA.out]; rfl)
  have HAn := Lib.hid (fun (W : World) (k : Below Z.heap.size Z W) => show Calls Tryz.prog 52 #[] W fun e w' => ∃ g, e = .returned (.map (some g)) ∧ w'.cell? ⟨w.heap.size, 0, none⟩ = some (.int .i64 9) ∧ (Instr.lookup 119 (.map (some g)) (.int .i64 9) true).run Tryz.prog w' = .ok (.tuple #[.func (.func 93) #[] #[], .bool true]) w' ∧ Below W.heap.size W w' from (answers_any W).mono fun e w' ⟨g, h1, _, h3, h4⟩ =>
      ⟨g, h1, cell_ext (cell_ext a0 k) h4, lookup_Iok (P := Tryz.prog) (w := w') Tryz.underlying119 Tryz.underlying3 h3 9 (z := .nilFunc) (by kernel_rfl), h4⟩)
  go_upto_region 3 with (fail)
  go_region_with (go_at_call 52; refine (HAn.out _ (by first | exact ext_refl Z | exact (ext_refl Z).drew)).mono ?_; rintro e W1 ⟨g, rfl, hk1, hlk, hb1⟩)
  all_goals
    have HE1 := Lib.hid (ext_call HEZ.out (undrew hb1))
    have l1 := ld_blk (P := Tryz.prog) (HBZ.out.ext (undrew hb1)) (show Array.extract va 0 47 = va by rw [HVA.out]; kernel_rfl) Tryz.underlying57 rfl (by rw [HVA.out]; kernel_rfl)
    obtain ⟨l1, e1⟩ := l1
    clear hb1 hlk hk1 a0 a2
    go_wp2_with fail
    refine (HH.out W1 HE1.out).mono ?_
    rintro e W2 ⟨rfl, hb2⟩
    have HE2 := Lib.hid (ext_call HE1.out hb2)
    clear hb2
    go_wp2
    go_ret
    exact ⟨rfl, HE2.out⟩

set_option maxRecDepth 100000 in
set_option maxHeartbeats 4000000 in
theorem recvWantYes (n ep : Int) (hn0 : 0 ≤ n) (hn1 : n ≤ 23) (he0 : 0 ≤ ep) (he1 : ep ≤ 1000000) (gs gl gst gn gp np cp nm cm no co : Nat) (lag er sent : Int) (Am Ao : Option Addr) (ns os : List Nat) (w : World) (hs : SrvAt w gs gl gst gn gp np cp lag er sent Am nm cm Ao no co) (hm : MemsAt w (.slice Am nm cm) ns) (hn : NodesOK ns) (ho : NumsAt w (.slice Ao no co) os) (hl : os.length = 64) (hle : ¬ er ≤ ep) :
    Calls Tryz.prog 20 #[.pointer (some ⟨gs, 0, none⟩), .agg #[.int .i64 9, .int .i64 n, .int .i64 100, .int .i64 0, .int .i64 ep, .int .i64 0, .int .i64 0, .int .i64 0, .int .i64 0, .int .i64 0, .int .i64 0, .int .i64 0, .int .i64 0, .int .i64 0, .int .i64 0, .int .i64 0, .int .i64 0, .int .i64 0, .slice none 0 0, .int .i64 0, .int .i64 0, .int .i64 0, .int .i64 0, .int .i64 0, .int .i64 0, .int .i64 0, .int .i64 0, .int .i64 0, .slice none 0 0, .int .i64 0, .int .i64 0, .int .i64 0, .int .i64 0, .int .i64 0, .int .i64 0, .int .i64 0, .slice none 0 0, .int .i64 0, .bool false, .int .i64 0, .int .i64 0, .int .i64 0, .slice none 0 0, .slice none 0 0, .int .i64 0, .slice none 0 0, .slice none 0 0]] w fun e w' => ∃ g A1 n1 k1 A2 n2 k2, e = .returned (.slice (some ⟨g, 0, none⟩) 1 1) ∧ Blk w' g 57 #[.int .i64 10, .int .i64 100, .int .i64 n, .int .i64 0, .int .i64 0, .int .i64 0, .int .i64 0, .int .i64 0, .int .i64 0, .int .i64 0, .int .i64 0, .int .i64 0, .int .i64 0, .int .i64 0, .int .i64 0, .int .i64 0, .int .i64 0, .int .i64 0, .slice none 0 0, .int .i64 0, .int .i64 0, .int .i64 0, .int .i64 0, .int .i64 0, .int .i64 0, .int .i64 0, .int .i64 0, .int .i64 0, .slice none 0 0, .int .i64 0, .int .i64 0, .int .i64 0, .int .i64 0, .int .i64 0, .int .i64 0, .int .i64 0, .slice none 0 0, .int .i64 0, .bool false, .int .i64 0, .int .i64 0, .int .i64 0, .slice none 0 0, .slice none 0 0, .int .i64 er, .slice A1 n1 k1, .slice A2 n2 k2] ∧ MemsAt w' (.slice A1 n1 k1) ns ∧ NumsAt w' (.slice A2 n2 k2) os ∧ Below w.heap.size w w' := by
  obtain ⟨va, hva⟩ : ∃ va : Array Value, va = #[.int .i64 9, .int .i64 n, .int .i64 100, .int .i64 0, .int .i64 ep, .int .i64 0, .int .i64 0, .int .i64 0, .int .i64 0, .int .i64 0, .int .i64 0, .int .i64 0, .int .i64 0, .int .i64 0, .int .i64 0, .int .i64 0, .int .i64 0, .int .i64 0, .slice none 0 0, .int .i64 0, .int .i64 0, .int .i64 0, .int .i64 0, .int .i64 0, .int .i64 0, .int .i64 0, .int .i64 0, .int .i64 0, .slice none 0 0, .int .i64 0, .int .i64 0, .int .i64 0, .int .i64 0, .int .i64 0, .int .i64 0, .int .i64 0, .slice none 0 0, .int .i64 0, .bool false, .int .i64 0, .int .i64 0, .int .i64 0, .slice none 0 0, .slice none 0 0, .int .i64 0, .slice none 0 0, .slice none 0 0] := ⟨_, rfl⟩
  obtain ⟨X, hX⟩ : ∃ X, X = w.alloc (.cells va 57) := ⟨_, rfl⟩
  have HX := Lib.hid hX
  have HE := Lib.hid (show Below w.heap.size w X by rw [hX]; exact ext_new _ _)
  have HB := Lib.hid (show Blk X w.heap.size 57 va by rw [hX]; exact Blk.new _ _ _)
  have HVA := Lib.hid hva
  have HV := Lib.hid (show ∀ W, Calls Tryz.prog 17 #[.agg va] W fun e w' => e = .returned (.bool true) ∧ Below W.heap.size W w' by rw [hva]; intro W; exact validWant n ep hn0 hn1 he0 he1 W)
  have HH := Lib.hid (show ∀ W, Below w.heap.size w W → Calls Tryz.prog 93 #[.pointer (some ⟨gs, 0, none⟩), .agg va] W fun e w' => ∃ g A1 n1 k1 A2 n2 k2, e = .returned (.slice (some ⟨g, 0, none⟩) 1 1) ∧ Blk w' g 57 #[.int .i64 10, .int .i64 100, .int .i64 n, .int .i64 0, .int .i64 0, .int .i64 0, .int .i64 0, .int .i64 0, .int .i64 0, .int .i64 0, .int .i64 0, .int .i64 0, .int .i64 0, .int .i64 0, .int .i64 0, .int .i64 0, .int .i64 0, .int .i64 0, .slice none 0 0, .int .i64 0, .int .i64 0, .int .i64 0, .int .i64 0, .int .i64 0, .int .i64 0, .int .i64 0, .int .i64 0, .int .i64 0, .slice none 0 0, .int .i64 0, .int .i64 0, .int .i64 0, .int .i64 0, .int .i64 0, .int .i64 0, .int .i64 0, .slice none 0 0, .int .i64 0, .bool false, .int .i64 0, .int .i64 0, .int .i64 0, .slice none 0 0, .slice none 0 0, .int .i64 er, .slice A1 n1 k1, .slice A2 n2 k2] ∧ MemsAt w' (.slice A1 n1 k1) ns ∧ NumsAt w' (.slice A2 n2 k2) os ∧ Below W.heap.size W w' by rw [hva]; intro W k; exact wantYes n ep gs gl gst gn gp np cp nm cm no co lag er sent Am Ao ns os W (hs.ext k) (hm.ext k) hn (ho.ext k) hl hle)
  rw [← hva]
  clear hX hva
  have l1 := ld_blk (P := Tryz.prog) HB.out (show Array.extract va 0 47 = va by rw [HVA.out]; kernel_rfl) Tryz.underlying57 rfl (by rw [HVA.out]; kernel_rfl)
  obtain ⟨l1, e1⟩ := l1
  go_enter Tryz.func20, Tryz.ntmps20
  go_upto_region 1 with (fail)
  rw [← HX.out]
  go_wp2_with fail
  refine (HV.out X).mono ?_
  rintro e Z ⟨rfl, hbz⟩
  have HEZ := Lib.hid (ext_call HE.out hbz)
  have HBZ := Lib.hid (HB.out.ext hbz)
  clear hbz l1 e1
  have a2 := (HBZ.out.cell 2).trans (show _ = some (.int .i64 100) by rw [HVA.out]; rfl)
  have a0 := (HBZ.out.cell 0).trans (show _ = some (.int .i64 9) by rw [HVA.out]; rfl)
  have HAn := Lib.hid (fun (W : World) (k : Below Z.heap.size Z W) => show Calls Tryz.prog 52 #[] W fun e w' => ∃ g, e = .returned (.map (some g)) ∧ w'.cell? ⟨w.heap.size, 0, none⟩ = some (.int .i64 9) ∧ (Instr.lookup 119 (.map (some g)) (.int .i64 9) true).run Tryz.prog w' = .ok (.tuple #[.func (.func 93) #[] #[], .bool true]) w' ∧ Below W.heap.size W w' from (answers_any W).mono fun e w' ⟨g, h1, _, h3, h4⟩ =>
      ⟨g, h1, cell_ext (cell_ext a0 k) h4, lookup_Iok (P := Tryz.prog) (w := w') Tryz.underlying119 Tryz.underlying3 h3 9 (z := .nilFunc) (by kernel_rfl), h4⟩)
  go_upto_region 3 with (fail)
  go_region_with (go_at_call 52; refine (HAn.out _ (by first | exact ext_refl Z | exact (ext_refl Z).drew)).mono ?_; rintro e W1 ⟨g, rfl, hk1, hlk, hb1⟩)
  all_goals
    have HE1 := Lib.hid (ext_call HEZ.out (undrew hb1))
    have l1 := ld_blk (P := Tryz.prog) (HBZ.out.ext (undrew hb1)) (show Array.extract va 0 47 = va by rw [HVA.out]; kernel_rfl) Tryz.underlying57 rfl (by rw [HVA.out]; kernel_rfl)
    obtain ⟨l1, e1⟩ := l1
    clear hb1 hlk hk1 a0 a2
    go_wp2_with fail
    refine (HH.out W1 HE1.out).mono ?_
    rintro e W2 ⟨g1, A1, n1, k1, A2, n2, k2, rfl, hb, hm9, hn9, hb2⟩
    have HE2 := Lib.hid (ext_call HE1.out hb2)
    clear hb2
    go_wp2
    go_ret
    exact ⟨g1, A1, n1, k1, A2, n2, k2, rfl, hb, hm9, hn9, HE2.out⟩

end Go.Proofs.YtbgfmbmcabekeaaGreatDoor

/-
  package cachetierref12: SameInts, Same at equal rings.
-/
namespace Go.Proofs.YtbgfmbmcabekeaaGreatDoor
open Go.RowKit Go.Shelf

set_option maxRecDepth 100000 in
set_option maxHeartbeats 1000000 in
theorem sameInts_yes (os : List Nat) (a b : Value) (w : World) (ha : NumsAt w a os) (hb : NumsAt w b os) (hl : os.length ≤ 1000) : Calls Tryz.prog 60 #[a, b] w fun e w' => e = .returned (.bool true) ∧ Below w.heap.size w w' := by
  have HA := Lib.hid ha
  have HB := Lib.hid hb
  obtain ⟨A1, c1, rfl, _⟩ := ha
  obtain ⟨A2, c2, rfl, _⟩ := hb
  go_enter Tryz.func60, Tryz.ntmps60
  go_wp2_with fail
  go_loopw [5] (fun i W => ∃ k : Nat, k ≤ os.length ∧ i = .int .i64 k ∧ Below w.heap.size w W) (fun i _ => os.length - (intOf i).toNat)
  case atStart => exact ⟨0, Nat.zero_le _, rfl, ext_refl w⟩
  case round =>
    obtain ⟨k, hk, rfl, hE⟩ := hrel
    have HE := Lib.hid hE
    clear hE
    by_cases hlt : k < os.length
    · obtain ⟨n, hn⟩ : ∃ n, os[k]? = some n := ⟨_, List.getElem?_eq_getElem hlt⟩
      obtain ⟨b1, o1, d1, hA1, _, x0⟩ := (HA.out.ext HE.out).at_ hn
      obtain ⟨b2, o2, d2, hA2, _, y0⟩ := (HB.out.ext HE.out).at_ hn
      injection hA1 with hA1 _ hc1
      injection hA2 with hA2 _ hc2
      subst hA1; subst hc1; subst hA2; subst hc2
      have e2 : IntKind.i64.wrap ((k : Int) + 1) = (k : Int) + 1 := by rw [IntWalk.i64_in _ (by omega)]
      have d1 : decide ((k : Int) < (os.length : Int)) = true := by simp; omega
      have q0 : (0 : Int) ≤ (k : Int) := by omega
      have q1 : (k : Int) < (os.length : Int) := by omega
      clear hn
      go_wp2_with fail
      go_quiet (fail)
      go_wp2
      go_roundw
      case rel => exact ⟨k + 1, by omega, by go_num, ext_drewN HE.out nq⟩
      case measure => simp [intOf]; omega
    · have d1 : decide ((k : Int) < (os.length : Int)) = false := by simp; omega
      go_wp2
      go_ret
      exact ⟨rfl, HE.out⟩

set_option maxRecDepth 100000 in
set_option maxHeartbeats 2000000 in
theorem same12_yes (ns os : List Nat) (ep : Int) (vm vo vm' vo' : Value) (w : World) (hm : MemsAt w vm ns) (hm' : MemsAt w vm' ns) (ho : NumsAt w vo os) (ho' : NumsAt w vo' os) (hl : os.length ≤ 1000) (hn : ns.length ≤ 24) :
    Calls Tryz.prog 29 #[.agg #[.int .i64 ep, vm, vo], .agg #[.int .i64 ep, vm', vo']] w fun e w' => e = .returned (.bool true) ∧ Below w.heap.size w w' := by
  obtain ⟨X, hX⟩ : ∃ X, X = (w.alloc (.cells #[.int .i64 ep, vm, vo] 30)).alloc (.cells #[.int .i64 ep, vm', vo'] 30) := ⟨_, rfl⟩
  have HX := Lib.hid hX
  have HEX := Lib.hid (show Below w.heap.size w X by rw [hX]; exact ext_alloc (ext_new _ _) _)
  have HB := Lib.hid (show Blk X w.heap.size 30 #[.int .i64 ep, vm, vo] by rw [hX]; exact (Blk.new _ _ _).alloc _)
  have HR := Lib.hid (show Blk X (w.heap.size + 1) 30 #[.int .i64 ep, vm', vo'] by rw [hX]; exact Blk.new' _ _ _ (by simp))
  have HM := Lib.hid (hm.ext HEX.out)
  have HM' := Lib.hid (hm'.ext HEX.out)
  have HSI := Lib.hid (fun W (k : Below X.heap.size X W) => sameInts_yes os vo vo' W ((ho.ext HEX.out).ext k) ((ho'.ext HEX.out).ext k) hl)
  obtain ⟨Am, cm, rfl, _⟩ := hm
  obtain ⟨Am', cm', rfl, _⟩ := hm'
  obtain ⟨Ao, co, rfl, _⟩ := ho
  obtain ⟨Ao', co', rfl, _⟩ := ho'
  clear hX
  obtain ⟨x0, x1, x2⟩ := bcells3 HB.out
  obtain ⟨y0, y1, y2⟩ := bcells3 HR.out
  go_enter Tryz.func29, Tryz.ntmps29
  go_upto_region 1 with (fail)
  rw [← HX.out]
  go_wp2_with fail
  refine (HSI.out X (ext_refl X)).mono ?_
  rintro e W1 ⟨rfl, hb1⟩
  have HE1 := Lib.hid hb1
  clear hb1 x0 x1 x2 y0 y1 y2
  go_wp2_with fail
  go_loopw [5] (fun i W => ∃ k : Nat, k ≤ ns.length ∧ i = .int .i64 k ∧ Below X.heap.size X W) (fun i _ => ns.length - (intOf i).toNat)
  case atStart => exact ⟨0, Nat.zero_le _, rfl, HE1.out⟩
  case round =>
    obtain ⟨k, hk, rfl, hE⟩ := hrel
    have HE := Lib.hid hE
    clear hE
    obtain ⟨x0, x1, x2⟩ := bcells3 (HB.out.ext HE.out)
    obtain ⟨y0, y1, y2⟩ := bcells3 (HR.out.ext HE.out)
    by_cases hlt : k < ns.length
    · obtain ⟨n, hn⟩ : ∃ n, ns[k]? = some n := ⟨_, List.getElem?_eq_getElem hlt⟩
      obtain ⟨b1, o1, d1, hA1, _, u0, u1, u2⟩ := (HM.out.ext HE.out).at_ hn
      obtain ⟨b2, o2, d2, hA2, _, v0, v1, v2⟩ := (HM'.out.ext HE.out).at_ hn
      injection hA1 with hA1 _ hc1
      injection hA2 with hA2 _ hc2
      subst hA1; subst hc1; subst hA2; subst hc2
      have e2 : IntKind.i64.wrap ((k : Int) + 1) = (k : Int) + 1 := by rw [IntWalk.i64_in _ (by omega)]
      have d1 : decide ((k : Int) < (ns.length : Int)) = true := by simp; omega
      have q0 : (0 : Int) ≤ (k : Int) := by omega
      have q1 : (k : Int) < (ns.length : Int) := by omega
      clear hn
      go_wp2_with fail
      go_quiet (fail)
      go_wp2
      go_roundw
      case rel => exact ⟨k + 1, by omega, by go_num, ext_drewN HE.out nq⟩
      case measure => simp [intOf]; omega
    · have d1 : decide ((k : Int) < (ns.length : Int)) = false := by simp; omega
      go_wp2
      go_ret
      exact ⟨rfl, ext_call HEX.out HE.out⟩

end Go.Proofs.YtbgfmbmcabekeaaGreatDoor

/-
  Memory words for sane of cachetierlaw27; origin.New once more, with its maps told apart.
-/
namespace Go.Proofs.YtbgfmbmcabekeaaGreatDoor
open Go.RowKit Go.Shelf

theorem own_extS {W W' : World} {S : Nat → Prop} {base n sz : Nat} {e : TypeId} {v : Value} {xs : List Value} (h : W.ownsRow base e sz v n xs) (k : ExtS S W W') (hn : ∀ (g : Nat) (cs : Array Value), Blk W g e cs → ¬ S g) : W'.ownsRow base e sz v n xs := by
  refine ⟨h.1, ?_⟩
  rcases h.2 with hn' | ⟨g, cap, cur, h1, h2, h3, h4⟩
  · exact .inl hn'
  · exact .inr ⟨g, cap, cur, h1, h2, (k.block g (Array.getElem?_eq_some_iff.1 h3).1 (hn g cur h3)).trans h3, h4⟩
theorem OneRec.srv2 {W W' : World} {gs gl gst gn gp np cp nm cm no co : Nat} {lag ep sent : Int} {Am Ao : Option Addr} {kv : List (Int × Value)} (h : OneRec W gl) (hs : SrvAt W gs gl gst gn gp np cp lag ep sent Am nm cm Ao no co) (hm : MapI W gn kv) (k : ExtS (fun j => j = gs ∨ j = gn) W W') : OneRec W' gl := by
  obtain ⟨gr, c, g, d, v, h1, h2, h3, h4⟩ := h.at_
  have n1 : ¬ (gl = gs ∨ gl = gn) := by
    rintro (e | e)
    · exact blkNe h1 hs (by decide) e
    · exact MapI.neBlk hm h1 e
  have n2 : ¬ (gr = gs ∨ gr = gn) := by
    rintro (e | e)
    · subst e
      have h0 := (h3.cell 0).symm.trans (Blk.cell hs 0)
      cases h0
    · exact MapI.ne hm (h3.cell 0 : W.cell? ⟨gr, 0, none⟩ = some (.int .i64 1)) e
  have n3 : ¬ (g = gs ∨ g = gn) := by
    rintro (e | e)
    · subst e
      have h0 := (h4.cell 0).symm.trans (Blk.cell hs 0)
      cases h0
    · exact MapI.ne hm (h4.cell 0 : W.cell? ⟨g, 0, none⟩ = some (.int .i64 0)) e
  exact ⟨gr, c, g, d, v, ExtS.blk h1 k n1, h2, ExtS.headB h3 k n2, ExtS.headB h4 k n3⟩
theorem own_at {W : World} {base e sz n g cap : Nat} {xs : List Value} (h : W.ownsRow base e sz (.slice (some ⟨g, 0, none⟩) n cap) n xs) (j : Nat) (u : Value) (hj : xs[j]? = some u) : W.cell? ⟨g, j, none⟩ = some u := by
  have h1 := h.cells (g := g) rfl j u hj
  rwa [Addr.add_mid, Nat.zero_add] at h1

set_option maxRecDepth 100000 in
set_option maxHeartbeats 2000000 in
theorem originNew2 (w : World) (hR : RoundOK w) : Calls Tryz.prog 8 #[] w fun e w' => ∃ gs gl gst gm gp gn, e = .returned (.pointer (some ⟨gs, 0, none⟩)) ∧ Srv0 w' w.heap.size gs gl gst gm gp gn ∧ gm ≠ gn ∧ Below w.heap.size w w' := by
  have HR := Lib.hid hR
  clear hR
  have hmm := @run_makeMap Tryz.prog
  go_enter Tryz.func8, Tryz.ntmps8
  go_wp2_with fail
  refine (storeNew w).mono ?_
  rintro e W1 ⟨rfl, hw⟩
  have HE1 := Lib.hid (show Below w.heap.size w W1 by rw [← hw]; exact ext_alloc (ext_new _ _) _)
  have HS1 := Lib.hid (show StateIs W1 false (w.heap.size + 1) w.heap.size 0 by rw [← hw]; exact ⟨Blk.new' _ _ _ (by simp), (MapAt.new w).alloc _⟩)
  clear hw
  go_wp2_with fail
  refine (stateRoot false _ _ 0 W1 HS1.out (HR.out.below HE1.out)).mono ?_
  rintro e W2 ⟨rfl, hb2⟩
  have HE2 := Lib.hid (ext_call HE1.out hb2)
  have HS2 := Lib.hid (HS1.out.ext hb2)
  clear hb2 HS1
  go_wp2_with fail
  refine (logNew (stateF false) (stateF_size _) W2).mono ?_
  rintro e W3 ⟨gl, rfl, hl3, hgl, hb3⟩
  have HE3 := Lib.hid (ext_call HE2.out hb3)
  have HS3 := Lib.hid (HS2.out.ext hb3)
  have HL3 := Lib.hid hl3
  have hz2 := HE2.out.size
  have hz3 := HE3.out.size
  have hm3 : w.heap.size < W3.heap.size := HS3.out.2.lt
  clear hb3 hl3 HS2
  go_wp2
  go_ret
  have hP := Blk.new W3 3 #[.int .i64 0]
  have e1 := ext_new W3 (.cells #[.int .i64 0] 3)
  have e2 := ext_alloc e1 (.map #[] 0)
  have hN := MapI.new (W3.alloc (.cells #[.int .i64 0] 3))
  refine ⟨_, gl, _, _, _, _, rfl, ⟨Blk.new' _ _ _ (by simp), (HS3.out.ext e2).ext (ext_new _ _), (HL3.out.ext e2).ext (ext_new _ _), (hP.alloc _).alloc _, ?_, ?_⟩, ?_, ext_alloc (ext_call HE3.out e2) _⟩
  · simpa using hN.ext (ext_new _ _)
  · refine ⟨?_, ?_, ?_, ?_, ?_, ?_⟩ <;> (try simp) <;> omega
  · (try simp); omega

end Go.Proofs.YtbgfmbmcabekeaaGreatDoor

/-
  package cachetierlaw27: sane.
-/
namespace Go.Proofs.YtbgfmbmcabekeaaGreatDoor
open Go.RowKit Go.Shelf
attribute [local go_sem ↓] ld_exec ld_sem bd_exec bd_sem Go.wp_at_zero Go.wp_at_succ

theorem nodes02 : NodesOK [0, 2] := ⟨by decide, by decide, by decide, fun j a b h1 h2 => by
  match j, h1, h2 with
  | 0, h1, h2 => simp at h1 h2; omega
  | 1, h1, h2 => simp at h2
  | (j + 2), h1, h2 => simp at h1⟩

set_option maxRecDepth 100000 in
set_option maxHeartbeats 8000000 in
theorem sane27 (w : World) (hR : RoundOK w) : Calls Tryz.prog 7 #[] w fun e w' => e = .returned (.bool true) ∧ Below w.heap.size w w' := by
  have HR := Lib.hid hR
  clear hR
  go_enter Tryz.func7, Tryz.ntmps7
  go_wp2_with fail
  refine (originNew2 w HR.out).mono ?_
  rintro e W1 ⟨gs, gl, gst, gm, gp, gn, rfl, h0, hgmn, hb1⟩
  have HS1 := Lib.hid (show SrvAt W1 gs gl gst gn gp 1 1 0 0 0 none 0 0 none 0 0 from h0.cells)
  have HT1 := Lib.hid h0.state
  have HL1 := Lib.hid h0.log
  have HP1 := Lib.hid h0.past
  have HM1 := Lib.hid h0.nodes
  have HN1 := Lib.hid h0.new
  have HE1 := Lib.hid hb1
  clear h0 hb1
  go_wp2_with fail
  obtain ⟨W2, hW2⟩ : ∃ W2, W2 = W1.alloc (.cells #[.int .i64 0, .int .i64 5, .bool false, .int .i64 0, .int .i64 0, .int .i64 0, .bool true, .int .i64 1, .int .i64 2, .int .i64 3] 75) := ⟨_, rfl⟩
  rw [← hW2]
  have HE2 := Lib.hid (show Below W1.heap.size W1 W2 by rw [hW2]; exact ext_new _ _)
  have HB2 := Lib.hid (show Blk W2 W1.heap.size 75 #[.int .i64 0, .int .i64 5, .bool false, .int .i64 0, .int .i64 0, .int .i64 0, .bool true, .int .i64 1, .int .i64 2, .int .i64 3] by rw [hW2]; exact Blk.new _ _ _)
  clear hW2
  generalize W1.heap.size = bp at HB2 ⊢
  have HS2 := Lib.hid (HS1.out.ext HE2.out)
  have HT2 := Lib.hid (HT1.out.ext HE2.out)
  have HL2 := Lib.hid (HL1.out.ext HE2.out)
  have HP2 := Lib.hid (HP1.out.ext HE2.out)
  have HM2 := Lib.hid (HM1.out.ext HE2.out)
  have HW2 := Lib.hid (ext_call HE1.out HE2.out)
  have hlog := HL2.out.choose_spec.1
  have nsl : gs ≠ gl := blkNe HS2.out hlog (by decide)
  have nst : gs ≠ gst := blkNe HS2.out HT2.out.1 (by decide)
  have nsm : gs ≠ gm := blkNeMap HS2.out HT2.out.2
  have npl : gp ≠ gl := blkNe HP2.out hlog (by decide)
  have npt : gp ≠ gst := blkNe HP2.out HT2.out.1 (by decide)
  have npm : gp ≠ gm := blkNeMap HP2.out HT2.out.2
  have nps : gp ≠ gs := blkNe HP2.out HS2.out (by decide)
  have npn : gp ≠ gn := MapI.neBlk HM2.out HP2.out
  have nsn : gs ≠ gn := MapI.neBlk HM2.out HS2.out
  have nln : gl ≠ gn := MapI.neBlk HM2.out hlog
  have ntn : gst ≠ gn := MapI.neBlk HM2.out HT2.out.1
  have nbl : bp ≠ gl := blkNe HB2.out hlog (by decide)
  have nbt : bp ≠ gst := blkNe HB2.out HT2.out.1 (by decide)
  have nbm : bp ≠ gm := blkNeMap HB2.out HT2.out.2
  have cS : ¬ ComS gl gst gm gs := by rintro (h | h | h); exact nsl h; exact nst h; exact nsm h
  have cP : ¬ ComS gl gst gm gp := by rintro (h | h | h); exact npl h; exact npt h; exact npm h
  have cN : ¬ ComS gl gst gm gn := by rintro (h | h | h); exact nln h.symm; exact ntn h.symm; exact hgmn h.symm
  have cB : ¬ ComS gl gst gm bp := by rintro (h | h | h); exact nbl h; exact nbt h; exact nbm h
  have HC := Lib.hid (And.intro cS (And.intro cP (And.intro cN cB)))
  have HD := Lib.hid (And.intro nps (And.intro npn nsn))
  have HN := Lib.hid HN1.out
  clear hlog nsl nst nsm npl npt npm nps npn nsn nln ntn nbl nbt nbm cS cP cN cB hgmn HN1 HS1 HT1 HL1 HP1 HM1 HE1 HE2
  refine (commit1 w HR.out gs gl gst gm bp 1 zeros32 zeros32_size W2 HW2.out ⟨HN.out.2.1, HN.out.2.2.1, HN.out.2.2.2.1⟩ (Blk.cell HS2.out 0) (Blk.cell HS2.out 1) HC.out.1 HL2.out (.of HB2.out) HT2.out).mono ?_
  rintro e W3 ⟨rfl, ho3, ht3, hx3⟩
  have HS3 := Lib.hid (HS2.out.extS hx3 HC.out.1)
  have HT3 := Lib.hid ht3
  have HO3 := Lib.hid ho3
  have HP3 := Lib.hid (ExtS.blk HP2.out hx3 HC.out.2.1)
  have HM3 := Lib.hid (HM2.out.extS hx3 HC.out.2.2.1)
  have HB3 := Lib.hid (ExtS.blk HB2.out hx3 HC.out.2.2.2)
  have HW3 := Lib.hid (ExtS.below HW2.out (by rintro k (h | h | h) <;> rw [h]; exact HN.out.2.1; exact HN.out.2.2.1; exact HN.out.2.2.2.1) hx3)
  clear ho3 ht3 hx3 HS2 HT2 HL2 HP2 HM2 HB2 HW2
  go_wp2_with fail
  obtain ⟨gr, cr, ggr, dgr, vgr, hlg, _⟩ := HO3.out.at_
  refine (commit2 gs gl gst gm bp 1 cr _ _ W3 (Blk.cell HS3.out 0) (Blk.cell HS3.out 1) hlg (.of HB3.out) HT3.out).mono ?_
  rintro e W4 ⟨rfl, hb4⟩
  have HS4 := Lib.hid (HS3.out.ext hb4)
  have HO4 := Lib.hid (HO3.out.ext hb4)
  have HP4 := Lib.hid (HP3.out.ext hb4)
  have HM4 := Lib.hid (HM3.out.ext hb4)
  have HW4 := Lib.hid (ext_call HW3.out hb4)
  clear hb4 hlg HS3 HT3 HO3 HP3 HM3 HB3 HW3 HC
  go_wp2_with fail
  have hnums : NumsAt (W4.alloc (.cells #[.int .i64 0, .int .i64 2] 3)) (.slice (some ⟨W4.heap.size, 0, none⟩) 2 2) [0, 2] := ⟨some ⟨W4.heap.size, 0, none⟩, 2, rfl, by decide, fun _ => ⟨W4.heap.size, 0, rfl, fun j n hj => by
    have hb := Blk.new W4 3 #[.int .i64 0, .int .i64 2]
    match j, hj with
    | 0, hj => simp at hj; subst hj; exact hb.cell 0
    | 1, hj => simp at hj; subst hj; exact hb.cell 1
    | (q + 2), hj => simp at hj⟩⟩
  refine (members_any [0, 2] 1 _ _ hnums nodes02 (by omega) (by omega)).mono ?_
  rintro e W5 ⟨r, rfl, ⟨vm, vo, os, rfl, hm5, hn5, hl5, hos5, hlim5⟩, hb5⟩
  have hb5' := ext_call (ext_new W4 _) hb5
  have HS5 := Lib.hid (HS4.out.ext hb5')
  have HO5 := Lib.hid (HO4.out.ext hb5')
  have HP5 := Lib.hid (HP4.out.ext hb5')
  have HM5 := Lib.hid (HM4.out.ext hb5')
  have HW5 := Lib.hid (ext_call HW4.out hb5')
  have HRg := Lib.hid (setRingYes gs gl gst gn gp 1 1 0 0 0 none 0 0 none 0 0 [] [0, 2] os 1 vm vo W5 HS5.out HM5.out hm5 nodes02 hn5 hl5 hos5 hlim5 (by omega) (by omega) (by omega))
  obtain ⟨Avm, cvm, rfl, _⟩ := hm5
  obtain ⟨Avo, cvo, rfl, _⟩ := hn5
  clear hb5 hb5' hnums hl5 hos5 hlim5 HS4 HO4 HP4 HM4 HW4
  go_wp2_with fail
  refine HRg.out.mono ?_
  rintro e W6 ⟨rfl, ⟨Am, nm, cm, Ao, no, co, hs6, hm6, hn6⟩, hmp6, hx6⟩
  have HS6 := Lib.hid hs6
  have HO6 := Lib.hid (HO5.out.srv2 HS5.out HM5.out hx6)
  have HP6 := Lib.hid (ExtS.blk HP5.out hx6 (by rintro (h | h); exact HD.out.1 h; exact HD.out.2.1 h))
  have HM6 := Lib.hid (show MapI W6 gn [(0, .bool true), (2, .bool true)] from hmp6)
  have HW6 := Lib.hid (ExtS.below HW5.out (by rintro k (h | h) <;> rw [h]; exact HN.out.1; exact HN.out.2.2.2.2.2) hx6)
  clear hs6 hm6 hn6 hmp6 hx6 HRg HS5 HO5 HP5 HM5 HW5
  go_wp2_with fail
  refine (tick1 gs gl gst gn gp 0 1 Am nm cm Ao no co W6 HS6.out HO6.out HP6.out HM6.out).mono ?_
  rintro e W7 ⟨gt, ct, xs, x0, x2, gp7, cp7, rfl, hl7, hxs, hs7, hp7, hx7⟩
  have HLL7 := Lib.hid hl7
  have HXS := Lib.hid hxs
  have HS7 := Lib.hid hs7
  have HP7 := Lib.hid hp7
  have HX7 := Lib.hid hx7
  clear hl7 hxs hs7 hp7 hx7
  go_wp2_with fail
  refine (tick2 gs gl gst gn gp gp7 cp7 W6.heap.size 0 1 1 1 0 1 0 Am nm cm Ao no co Am nm cm Ao no co W6 W7 HS6.out HO6.out HM6.out HX7.out (Nat.le_refl _) HS7.out HP7.out HX7.out.size).mono ?_
  rintro e W8 ⟨gm8, c8, ys, gp8, cp8, rfl, hm8, hys, hs8, hp8, hx8, hy8⟩
  have HLL8 := Lib.hid (own_extS HLL7.out hy8 (by
    rintro g cs hg (h | h)
    · subst h; exact blkNe hg HS7.out (by decide) rfl
    · subst h; exact (own_blkNe HP7.out hg (by decide)) rfl))
  have HMM8 := Lib.hid hm8
  have HYS := Lib.hid hys
  have HS8 := Lib.hid hs8
  have HP8 := Lib.hid hp8
  have HX8 := Lib.hid hx8
  have HO8 := Lib.hid (HO6.out.srv HS6.out hx8)
  have HW8 := Lib.hid (ExtS.below HW6.out (by rintro k h; rw [h]; exact HN.out.1) hx8)
  clear hm8 hys hs8 hp8 hx8 hy8 HLL7 HS7 HP7 HX7 HS6 HO6 HP6 HM6 HW6 HD
  obtain ⟨va, hva⟩ : ∃ va : Array Value, va = #[.int .i64 7, .int .i64 2, .int .i64 100, .int .i64 0, .int .i64 0, .int .i64 0, .int .i64 7, .int .i64 0, .int .i64 0, .int .i64 0, .int .i64 1, .int .i64 0, .int .i64 0, .int .i64 5, .int .i64 5, .int .i64 0, .int .i64 0, .int .i64 0, .slice none 0 0, .int .i64 0, .int .i64 0, .int .i64 0, .int .i64 0, .int .i64 0, .int .i64 0, .int .i64 0, .int .i64 0, .int .i64 0, .slice none 0 0, .int .i64 0, .int .i64 0, .int .i64 0, .int .i64 0, .int .i64 0, .int .i64 0, .int .i64 0, .slice none 0 0, .int .i64 0, .bool false, .int .i64 0, .int .i64 0, .int .i64 0, .slice none 0 0, .slice none 0 0, .int .i64 0, .slice none 0 0, .slice none 0 0] := ⟨_, rfl⟩
  obtain ⟨bd1, bd2⟩ := bd_of W8 (P := Tryz.prog) (t := 57) (ps := #[(0, .int .i64 7), (1, .int .i64 2), (2, .int .i64 100), (10, .agg #[.int .i64 1, .int .i64 0, .int .i64 0, .int .i64 5, .int .i64 5, .int .i64 0, .int .i64 0]), (6, .int .i64 7)]) (cs := va) (by rw [hva]; kernel_rfl)
  have HZ := Lib.hid (Blk.new W8 57 #[.int .i64 0, .int .i64 0, .int .i64 0, .int .i64 0, .int .i64 0, .int .i64 0, .int .i64 0, .int .i64 0, .int .i64 0, .int .i64 0, .int .i64 0, .int .i64 0, .int .i64 0, .int .i64 0, .int .i64 0, .int .i64 0, .int .i64 0, .int .i64 0, .slice none 0 0, .int .i64 0, .int .i64 0, .int .i64 0, .int .i64 0, .int .i64 0, .int .i64 0, .int .i64 0, .int .i64 0, .int .i64 0, .slice none 0 0, .int .i64 0, .int .i64 0, .int .i64 0, .int .i64 0, .int .i64 0, .int .i64 0, .int .i64 0, .slice none 0 0, .int .i64 0, .bool false, .int .i64 0, .int .i64 0, .int .i64 0, .slice none 0 0, .slice none 0 0, .int .i64 0, .slice none 0 0, .slice none 0 0])
  have HI := Lib.hid (show (Tryz.prog.info? 57).map (·.size) = some va.size by rw [hva]; kernel_rfl)
  have HSZ := Lib.hid (show (#[.int .i64 0, .int .i64 0, .int .i64 0, .int .i64 0, .int .i64 0, .int .i64 0, .int .i64 0, .int .i64 0, .int .i64 0, .int .i64 0, .int .i64 0, .int .i64 0, .int .i64 0, .int .i64 0, .int .i64 0, .int .i64 0, .int .i64 0, .int .i64 0, .slice none 0 0, .int .i64 0, .int .i64 0, .int .i64 0, .int .i64 0, .int .i64 0, .int .i64 0, .int .i64 0, .int .i64 0, .int .i64 0, .slice none 0 0, .int .i64 0, .int .i64 0, .int .i64 0, .int .i64 0, .int .i64 0, .int .i64 0, .int .i64 0, .slice none 0 0, .int .i64 0, .bool false, .int .i64 0, .int .i64 0, .int .i64 0, .slice none 0 0, .slice none 0 0, .int .i64 0, .slice none 0 0, .slice none 0 0] : Array Value).size = va.size by rw [hva]; rfl)
  have H1 := Lib.hid (show va.all (·.oneCell') = true by rw [hva]; simp [Value.oneCell'])
  have HVA := Lib.hid hva
  clear hva
  go_upto_region 11 with (refine wpList_store_blk rfl 57 (.tmp 10) (.tmp 43) rfl W8.heap.size va rfl rfl 57 #[.int .i64 0, .int .i64 0, .int .i64 0, .int .i64 0, .int .i64 0, .int .i64 0, .int .i64 0, .int .i64 0, .int .i64 0, .int .i64 0, .int .i64 0, .int .i64 0, .int .i64 0, .int .i64 0, .int .i64 0, .int .i64 0, .int .i64 0, .int .i64 0, .slice none 0 0, .int .i64 0, .int .i64 0, .int .i64 0, .int .i64 0, .int .i64 0, .int .i64 0, .int .i64 0, .int .i64 0, .int .i64 0, .slice none 0 0, .int .i64 0, .int .i64 0, .int .i64 0, .int .i64 0, .int .i64 0, .int .i64 0, .int .i64 0, .slice none 0 0, .int .i64 0, .bool false, .int .i64 0, .int .i64 0, .int .i64 0, .slice none 0 0, .slice none 0 0, .int .i64 0, .slice none 0 0, .slice none 0 0] HZ.out HI.out HSZ.out H1.out ?_; intro W9 hB9 hg9; have HB9 := Lib.hid hB9; have HE9 := Lib.hid (show Below W8.heap.size W8 W9 from (ext_new W8 (.cells #[.int .i64 0, .int .i64 0, .int .i64 0, .int .i64 0, .int .i64 0, .int .i64 0, .int .i64 0, .int .i64 0, .int .i64 0, .int .i64 0, .int .i64 0, .int .i64 0, .int .i64 0, .int .i64 0, .int .i64 0, .int .i64 0, .int .i64 0, .int .i64 0, .slice none 0 0, .int .i64 0, .int .i64 0, .int .i64 0, .int .i64 0, .int .i64 0, .int .i64 0, .int .i64 0, .int .i64 0, .int .i64 0, .slice none 0 0, .int .i64 0, .int .i64 0, .int .i64 0, .int .i64 0, .int .i64 0, .int .i64 0, .int .i64 0, .slice none 0 0, .int .i64 0, .bool false, .int .i64 0, .int .i64 0, .int .i64 0, .slice none 0 0, .slice none 0 0, .int .i64 0, .slice none 0 0, .slice none 0 0] 57)).grown hg9 (ext_new W8 (.cells #[.int .i64 0, .int .i64 0, .int .i64 0, .int .i64 0, .int .i64 0, .int .i64 0, .int .i64 0, .int .i64 0, .int .i64 0, .int .i64 0, .int .i64 0, .int .i64 0, .int .i64 0, .int .i64 0, .int .i64 0, .int .i64 0, .int .i64 0, .int .i64 0, .slice none 0 0, .int .i64 0, .int .i64 0, .int .i64 0, .int .i64 0, .int .i64 0, .int .i64 0, .int .i64 0, .int .i64 0, .int .i64 0, .slice none 0 0, .int .i64 0, .int .i64 0, .int .i64 0, .int .i64 0, .int .i64 0, .int .i64 0, .int .i64 0, .slice none 0 0, .int .i64 0, .bool false, .int .i64 0, .int .i64 0, .int .i64 0, .slice none 0 0, .slice none 0 0, .int .i64 0, .slice none 0 0, .slice none 0 0] 57)).size (fun k e => by injection e with e; omega)); clear hB9 hg9)
  clear bd1 bd2 HZ HI HSZ H1
  have HRc := Lib.hid (show ∀ (one : Bool) (q : Nat) (hq : q = if one then 1 else 0) (lag : Int) (hlag : lag = if one then 0 else 1) (W : World) (hR : RoundOK W) (hs : SrvAt W gs gl gst gn gp8 3 cp8 lag 1 1 Am nm cm Ao no co) (ho : OneRec W gl),
      Calls Tryz.prog 20 #[.pointer (some ⟨gs, 0, none⟩), .agg va] W fun e w' => ∃ g A n1 c1, e = .returned (.slice (some ⟨g, 0, none⟩) 1 1) ∧ Blk w' g 57 #[.int .i64 8, .int .i64 100, .int .i64 2, .int .i64 0, .int .i64 0, .int .i64 0, .int .i64 7, .int .i64 0, .int .i64 0, .int .i64 0, .int .i64 0, .int .i64 0, .int .i64 0, .int .i64 0, .int .i64 0, .int .i64 0, .int .i64 0, .int .i64 0, .slice none 0 0, .int .i64 1, .int .i64 0, .int .i64 0, .int .i64 5, .int .i64 5, .int .i64 0, .int .i64 0, .int .i64 0, .int .i64 (q : Int), .slice A n1 c1, .int .i64 0, .int .i64 0, .int .i64 0, .int .i64 0, .int .i64 0, .int .i64 0, .int .i64 0, .slice none 0 0, .int .i64 0, .bool false, .int .i64 0, .int .i64 0, .int .i64 0, .slice none 0 0, .slice none 0 0, .int .i64 0, .slice none 0 0, .slice none 0 0] ∧ Below W.heap.size W w' by
    rw [HVA.out]
    intro one q hq lag hlag W hR hs ho
    exact recvMiss one q hq lag hlag gs gl gst gn gp8 3 cp8 nm cm no co 1 1 Am Ao W hR hs ho)
  obtain ⟨l1, e1⟩ := ld_blk (P := Tryz.prog) HB9.out (show Array.extract va 0 47 = va by rw [HVA.out]; kernel_rfl) Tryz.underlying57 rfl (by rw [HVA.out]; kernel_rfl)
  go_wp2_with fail
  refine (HRc.out true 1 rfl 0 rfl W9 (HR.out.below (ext_call HW8.out HE9.out)) (HS8.out.ext HE9.out) (HO8.out.ext HE9.out)).mono ?_
  rintro e W10 ⟨gf, Af, nf, cf, rfl, hf, hb10⟩
  have HE10 := Lib.hid (ext_call HE9.out hb10)
  have HF10 := Lib.hid hf
  have HB10 := Lib.hid (HB9.out.ext hb10)
  clear hf hb10 l1 e1
  have hS10 := HS8.out.ext HE10.out
  go_wp2_with fail
  refine (srvLagOk gs 1 _ (by omega) (by omega) W10 (Blk.cell hS10 3) (Blk.frozen hS10 3)).mono ?_
  rintro e W11 ⟨rfl, hW11⟩
  have hx11 : ExtS (fun k => k = gs) W10 W11 := by rw [← hW11]; exact ExtS.set1 _ _ _ _
  have HS11 := Lib.hid (show SrvAt W11 gs gl gst gn gp8 3 cp8 1 1 1 Am nm cm Ao no co by rw [← hW11]; exact Blk.set_ hS10 3 _)
  have HO11 := Lib.hid ((HO8.out.ext HE10.out).srv hS10 hx11)
  have HB11 := Lib.hid (ExtS.blk HB10.out hx11 (fun h => blkNe HB10.out hS10 (by decide) h))
  have HF11 := Lib.hid (ExtS.blk HF10.out hx11 (fun h => blkNe HF10.out hS10 (by decide) h))
  have HX11 := Lib.hid ((ExtS.of_ext (S := fun k => k = gs) HE10.out).trans hx11)
  have HW11 := Lib.hid (ExtS.below (ext_call HW8.out HE10.out) (by rintro k h; rw [h]; exact HN.out.1) hx11)
  clear hS10 hW11 hx11
  obtain ⟨l1, e1⟩ := ld_blk (P := Tryz.prog) HB11.out (show Array.extract va 0 47 = va by rw [HVA.out]; kernel_rfl) Tryz.underlying57 rfl (by rw [HVA.out]; kernel_rfl)
  go_wp2_with fail
  refine (HRc.out false 0 rfl 1 rfl W11 (HR.out.below HW11.out) HS11.out HO11.out).mono ?_
  rintro e W12 ⟨gf2, Af2, nf2, cf2, rfl, hf2, hb12⟩
  have HF12 := Lib.hid (HF11.out.ext hb12)
  have HG12 := Lib.hid hf2
  have HS12 := Lib.hid (HS11.out.ext hb12)
  have HO12 := Lib.hid (HO11.out.ext hb12)
  have HW12 := Lib.hid (ext_call HW11.out hb12)
  have HX12 := Lib.hid (HX11.out.trans (ExtS.of_ext hb12))
  have hgs : ∀ (g : Nat) (t : TypeId) (cs : Array Value), Blk W8 g t cs → t ≠ 101 → ¬ g = gs := fun g t cs h1 h2 h3 => blkNe h1 HS8.out h2 h3
  have HLL := Lib.hid (own_extS HLL8.out HX12.out (fun g cs h => hgs g _ cs h (by decide)))
  have HMM := Lib.hid (own_extS HMM8.out HX12.out (fun g cs h => hgs g _ cs h (by decide)))
  have HPP := Lib.hid (own_extS HP8.out HX12.out (fun g cs h => hgs g _ cs h (by decide)))
  clear hf2 hb12 l1 e1 hgs HF10 HB10 HB11 HF11 HX11 HW11 HS11 HO11 HX12 HE10 HE9 HB9 HLL8 HMM8 HP8 HS8 HO8 HW8
  have p0 : W12.cell? ⟨gs, 0, none⟩ = some (.pointer (some ⟨gl, 0, none⟩)) := Blk.cell HS12.out 0
  have p2 : W12.cell? ⟨gs, 2, none⟩ = some (.slice (some ⟨gp8, 0, none⟩) 3 cp8) := Blk.cell HS12.out 2
  have k0 := own_at HPP.out 0 (.int .i64 0) rfl
  have k1 := own_at HPP.out 1 (.int .i64 1) rfl
  have f0 : W12.cell? ⟨gf, 0, none⟩ = some (.int .i64 8) := HF12.out.cell 0
  have f2 : W12.cell? ⟨gf, 2, none⟩ = some (.int .i64 2) := HF12.out.cell 2
  have f6 : W12.cell? ⟨gf, 6, none⟩ = some (.int .i64 7) := HF12.out.cell 6
  have f27 : W12.cell? ⟨gf, 27, none⟩ = some (.int .i64 1) := HF12.out.cell 27
  have g27 : W12.cell? ⟨gf2, 27, none⟩ = some (.int .i64 0) := HG12.out.cell 27
  have l0 := own_at HLL.out 0 (.int .i64 1) (by rw [HXS.out]; rfl)
  have l47 := own_at HLL.out 47 (.int .i64 2) (by rw [HXS.out]; rfl)
  have l56 := own_at HLL.out 56 (.int .i64 1) (by rw [HXS.out]; rfl)
  have l51 := own_at HLL.out 51 (.int .i64 1) (by rw [HXS.out]; rfl)
  have l143 := own_at HLL.out 143 (.int .i64 2) (by rw [HXS.out]; rfl)
  have m54 := own_at HMM.out 54 (.int .i64 2) (by rw [HYS.out]; rfl)
  clear HVA HRc HF12 HG12 HLL HMM HPP HXS HYS HS12 HR HN
  go_upto_region 16 with (fail)
  go_upto_region 17 with (first
    | (go_at_call 16; refine (srvPosC gs gl W12 p0 HO12.out).mono ?_; rintro e w' ⟨rfl, hw'⟩; subst w')
    | (go_at_call 14; refine (srvTime gs 3 cp8 _ (by omega) W12 p2).mono ?_; rintro e w' ⟨rfl, hw'⟩; subst w'))
  go_upto_region 18 with (fail)
  clear l0 l47 l56 l51 l143 m54
  have HP0 := Lib.hid (show Calls Tryz.prog 15 #[.pointer (some ⟨gs, 0, none⟩), .int .i64 0] W12 fun e w' => e = .returned (.int .i64 0) ∧ W12 = w' from srvAtYes gs 3 cp8 0 gp8 0 (by omega) W12 p2 k0)
  have HP1 := Lib.hid (show Calls Tryz.prog 15 #[.pointer (some ⟨gs, 0, none⟩), .int .i64 1] W12 fun e w' => e = .returned (.int .i64 1) ∧ W12 = w' from srvAtYes gs 3 cp8 1 gp8 1 (by omega) W12 p2 k1)
  have HP3 := Lib.hid (show Calls Tryz.prog 15 #[.pointer (some ⟨gs, 0, none⟩), .int .i64 3] W12 fun e w' => e = .returned (.int .i64 (-1)) ∧ W12 = w' from srvAtNo gs 3 cp8 _ 3 (by omega) W12 p2)
  clear p0 p2 k0 k1
  go_wp2_with fail
  refine HP0.out.mono ?_
  rintro e w' ⟨rfl, hw'⟩
  subst w'
  clear f0 f2 f6 f27 g27
  go_wp2_with fail
  refine HP1.out.mono ?_
  rintro e w' ⟨rfl, hw'⟩
  subst w'
  go_wp2_with fail
  refine HP3.out.mono ?_
  rintro e w' ⟨rfl, hw'⟩
  subst w'
  go_wp2
  go_ret
  exact ⟨rfl, HW12.out⟩

end Go.Proofs.YtbgfmbmcabekeaaGreatDoor
