/-
  Part 10 of 17: the contracts that the proof of the last part uses; each stands under its own head.
-/
import Derived.Test.YtimoapjhepmehaaGreatDoorJ8
import Derived.BigQuiet
import Derived.Deep.QuietTactic
import Derived.Test.YtimoapjhepmehaaGreatDoorJ9
import Derived.StillTailTactics
import Derived.Lib.SliceRun
set_option linter.unusedSimpArgs false
set_option linter.unusedVariables false

/-
  package query: Valid, Scan at the law's two queries; proof.of.
-/
namespace Go.Proofs.YtimoapjhepmehaaGreatDoor
open Go.RowKit
attribute [local go_sem ↓] Go.wp_at_zero Go.wp_at_succ

set_option maxRecDepth 100000 in
set_option maxHeartbeats 1000000 in
theorem queryValid1 (w : World) : Calls Tryz.prog 47 #[.agg #[.int .i64 1, .int .i64 0, .int .i64 0, .int .i64 5, .int .i64 5, .int .i64 0, .int .i64 0]] w fun e w' => e = .returned (.bool true) ∧ Below w.heap.size w w' := by
  go_enter Tryz.func47, Tryz.ntmps47
  go_wp2
  go_ret
  exact ⟨rfl, ext_new _ _⟩

set_option maxRecDepth 100000 in
set_option maxHeartbeats 1000000 in
theorem queryValid0 (w : World) : Calls Tryz.prog 47 #[.agg #[.int .i64 3, .int .i64 0, .int .i64 0, .int .i64 0, .int .i64 0, .int .i64 0, .int .i64 0]] w fun e w' => e = .returned (.bool true) ∧ Below w.heap.size w w' := by
  go_enter Tryz.func47, Tryz.ntmps47
  go_wp2
  go_ret
  exact ⟨rfl, ext_new _ _⟩

set_option maxRecDepth 100000 in
set_option maxHeartbeats 1000000 in
theorem queryScan1 (w : World) : Calls Tryz.prog 92 #[.agg #[.int .i64 1, .int .i64 0, .int .i64 0, .int .i64 5, .int .i64 5, .int .i64 0, .int .i64 0]] w fun e w' => e = .returned (.tuple #[.int .i64 0, .int .i64 0, .int .i64 5, .int .i64 5]) ∧ Below w.heap.size w w' := by
  have HB := Lib.hid (Blk.new w 33 #[.int .i64 1, .int .i64 0, .int .i64 0, .int .i64 5, .int .i64 5, .int .i64 0, .int .i64 0])
  have c0 := HB.out.cell 0; have c1 := HB.out.cell 1; have c2 := HB.out.cell 2; have c3 := HB.out.cell 3; have c4 := HB.out.cell 4; have c5 := HB.out.cell 5; have c6 := HB.out.cell 6
  go_enter Tryz.func92, Tryz.ntmps92
  go_wp2_with fail
  refine (queryValid1 _).mono ?_
  rintro e W1 ⟨rfl, hb1⟩
  have HB1 := Lib.hid (HB.out.ext hb1)
  have HE1 := Lib.hid (ext_call (ext_new w _) hb1)
  clear hb1 c0 c1 c2 c3 c4 c5 c6
  have c0 := HB1.out.cell 0; have c1 := HB1.out.cell 1; have c2 := HB1.out.cell 2; have c3 := HB1.out.cell 3; have c4 := HB1.out.cell 4; have c5 := HB1.out.cell 5; have c6 := HB1.out.cell 6
  go_wp2
  go_quiet (fail)
  go_wp2
  refine bodyPost_ret (v := .tuple #[.int .i64 0, .int .i64 0, .int .i64 5, .int .i64 5]) (by simp [results, Tryz.results92, go_sem]) rfl ⟨rfl, ?_⟩
  exact ext_drewN HE1.out _

set_option maxRecDepth 100000 in
set_option maxHeartbeats 1000000 in
theorem queryScan0 (w : World) : Calls Tryz.prog 92 #[.agg #[.int .i64 3, .int .i64 0, .int .i64 0, .int .i64 0, .int .i64 0, .int .i64 0, .int .i64 0]] w fun e w' => e = .returned (.tuple #[.int .i64 0, .int .i64 0, .int .i64 0, .int .i64 0]) ∧ Below w.heap.size w w' := by
  have HB := Lib.hid (Blk.new w 33 #[.int .i64 3, .int .i64 0, .int .i64 0, .int .i64 0, .int .i64 0, .int .i64 0, .int .i64 0])
  have c0 := HB.out.cell 0; have c1 := HB.out.cell 1; have c2 := HB.out.cell 2; have c3 := HB.out.cell 3; have c4 := HB.out.cell 4; have c5 := HB.out.cell 5; have c6 := HB.out.cell 6
  go_enter Tryz.func92, Tryz.ntmps92
  go_wp2_with fail
  refine (queryValid0 _).mono ?_
  rintro e W1 ⟨rfl, hb1⟩
  have HB1 := Lib.hid (HB.out.ext hb1)
  have HE1 := Lib.hid (ext_call (ext_new w _) hb1)
  clear hb1 c0 c1 c2 c3 c4 c5 c6
  have c0 := HB1.out.cell 0; have c1 := HB1.out.cell 1; have c2 := HB1.out.cell 2; have c3 := HB1.out.cell 3; have c4 := HB1.out.cell 4; have c5 := HB1.out.cell 5; have c6 := HB1.out.cell 6
  go_wp2
  go_quiet (fail)
  go_wp2
  refine bodyPost_ret (v := .tuple #[.int .i64 0, .int .i64 0, .int .i64 0, .int .i64 0]) (by simp [results, Tryz.results92, go_sem]) rfl ⟨rfl, ?_⟩
  exact ext_drewN HE1.out _

set_option maxRecDepth 100000 in
set_option maxHeartbeats 1000000 in
theorem proofOf1 (w : World) : Calls Tryz.prog 50 #[.agg #[.int .i64 1, .int .i64 0, .int .i64 0, .int .i64 5, .int .i64 5, .int .i64 0, .int .i64 0]] w fun e w' => e = .returned (.agg #[.int .i64 0, .int .i64 0, .int .i64 5, .int .i64 5]) ∧ Below w.heap.size w w' := by
  have HS := Lib.hid (Blk.new' (w.alloc (.cells #[.int .i64 1, .int .i64 0, .int .i64 0, .int .i64 5, .int .i64 5, .int .i64 0, .int .i64 0] 33)) 123 #[.int .i64 0, .int .i64 0, .int .i64 0, .int .i64 0] (b := w.heap.size + 1) (by simp))
  go_enter Tryz.func50, Tryz.ntmps50
  go_wp2_with fail
  refine (queryScan1 _).mono ?_
  rintro e W1 ⟨rfl, hb1⟩
  have HS1 := Lib.hid (HS.out.ext hb1)
  have HE1 := Lib.hid (ext_call (ext_alloc (ext_new w _) _) hb1)
  clear hb1
  have c0 := HS1.out.cell 0; have c1 := HS1.out.cell 1; have c2 := HS1.out.cell 2; have c3 := HS1.out.cell 3
  have f0 := HS1.out.frozen 0
  have f1 := HS1.out.frozen 1
  have f2 := HS1.out.frozen 2
  have f3 := HS1.out.frozen 3
  go_wp2
  have hBf := (((((((HS1.out.set_ 0 (.int .i64 0)).set_ 1 (.int .i64 0)).set_ 2 (.int .i64 5)).set_ 3 (.int .i64 5)).set_ 0 (.int .i64 0)).set_ 1 (.int .i64 0)).set_ 2 (.int .i64 5)).set_ 3 (.int .i64 5)
  have y0 := hBf.cell 0; have y1 := hBf.cell 1; have y2 := hBf.cell 2; have y3 := hBf.cell 3
  refine bodyPost_ret (v := .agg #[.int .i64 0, .int .i64 0, .int .i64 5, .int .i64 5]) (by simp [results, Tryz.results50, go_sem, y0, y1, y2, y3]) rfl ⟨rfl, ?_⟩
  repeat (first | with_reducible exact HE1.out | refine ext_set ?_ (by simp) _)

set_option maxRecDepth 100000 in
set_option maxHeartbeats 1000000 in
theorem proofOf0 (w : World) : Calls Tryz.prog 50 #[.agg #[.int .i64 3, .int .i64 0, .int .i64 0, .int .i64 0, .int .i64 0, .int .i64 0, .int .i64 0]] w fun e w' => e = .returned (.agg #[.int .i64 0, .int .i64 0, .int .i64 0, .int .i64 0]) ∧ Below w.heap.size w w' := by
  have HS := Lib.hid (Blk.new' (w.alloc (.cells #[.int .i64 3, .int .i64 0, .int .i64 0, .int .i64 0, .int .i64 0, .int .i64 0, .int .i64 0] 33)) 123 #[.int .i64 0, .int .i64 0, .int .i64 0, .int .i64 0] (b := w.heap.size + 1) (by simp))
  go_enter Tryz.func50, Tryz.ntmps50
  go_wp2_with fail
  refine (queryScan0 _).mono ?_
  rintro e W1 ⟨rfl, hb1⟩
  have HS1 := Lib.hid (HS.out.ext hb1)
  have HE1 := Lib.hid (ext_call (ext_alloc (ext_new w _) _) hb1)
  clear hb1
  have c0 := HS1.out.cell 0; have c1 := HS1.out.cell 1; have c2 := HS1.out.cell 2; have c3 := HS1.out.cell 3
  have f0 := HS1.out.frozen 0
  have f1 := HS1.out.frozen 1
  have f2 := HS1.out.frozen 2
  have f3 := HS1.out.frozen 3
  go_wp2
  have hBf := (((((((HS1.out.set_ 0 (.int .i64 0)).set_ 1 (.int .i64 0)).set_ 2 (.int .i64 0)).set_ 3 (.int .i64 0)).set_ 0 (.int .i64 0)).set_ 1 (.int .i64 0)).set_ 2 (.int .i64 0)).set_ 3 (.int .i64 0)
  have y0 := hBf.cell 0; have y1 := hBf.cell 1; have y2 := hBf.cell 2; have y3 := hBf.cell 3
  refine bodyPost_ret (v := .agg #[.int .i64 0, .int .i64 0, .int .i64 0, .int .i64 0]) (by simp [results, Tryz.results50, go_sem, y0, y1, y2, y3]) rfl ⟨rfl, ?_⟩
  repeat (first | with_reducible exact HE1.out | refine ext_set ?_ (by simp) _)

end Go.Proofs.YtimoapjhepmehaaGreatDoor

/-
  package proof: Make.
-/
namespace Go.Proofs.YtimoapjhepmehaaGreatDoor
open Go.RowKit
attribute [local go_sem ↓] Go.wp_at_zero Go.wp_at_succ

def RP0 (W : World) (va : Array Value) : Prop := ∃ v8, va = #[.int .i64 0, .int .i64 0, .int .i64 0, .int .i64 0, .int .i64 0, .int .i64 0, .slice none 0 0, .slice none 0 0, v8] ∧ Strs (fun _ => True) W v8 (sums false 16)
theorem RP0.ext {w W : World} {va : Array Value} (h : RP0 w va) (k : Below w.heap.size w W) : RP0 W va := by
  obtain ⟨v8, h1, h2⟩ := h
  exact ⟨v8, h1, h2.below k⟩
theorem RP0.lit {W : World} {va : Array Value} (h : RP0 W va) : ∃ A n c, va = #[.int .i64 0, .int .i64 0, .int .i64 0, .int .i64 0, .int .i64 0, .int .i64 0, .slice none 0 0, .slice none 0 0, .slice A n c] := by
  obtain ⟨v8, h1, h2⟩ := h
  obtain ⟨A, n, c, rfl⟩ := strs_slice' h2
  exact ⟨A, n, c, h1⟩
theorem RP1.lit {W : World} {va : Array Value} (h : RP1 W va) : ∃ g1 k1 g2 k2 A n c, va = #[.int .i64 0, .int .i64 0, .int .i64 5, .int .i64 5, .int .i64 1, .int .i64 0, .slice (some ⟨g1, 0, none⟩) 1 k1, .slice (some ⟨g2, 0, none⟩) 1 k2, .slice A n c] := by
  obtain ⟨v6, v7, v8, h1, h2, h3, h4⟩ := h
  obtain ⟨A, n, c, rfl⟩ := strs_slice' h4
  obtain ⟨g1, k1, _, rfl, _, _⟩ := rows_one h2
  obtain ⟨g2, k2, _, _, _, rfl, _, _⟩ := h3
  exact ⟨g1, k1, g2, k2, A, n, c, h1⟩
def RPx (one : Bool) (W : World) (va : Array Value) : Prop := match one with
  | true => RP1 W va
  | false => RP0 W va
theorem RPx.ext {one : Bool} {w W : World} {va : Array Value} (h : RPx one w va) (k : Below w.heap.size w W) : RPx one W va := by
  cases one
  · exact RP0.ext h k
  · exact RP1.ext h k
/-- the list of one proof -/
def RangesAt (one : Bool) (W : World) (v : Value) : Prop := ∃ g c va zs, v = .slice (some ⟨g, 0, none⟩) 1 c ∧ 1 ≤ c ∧ Blk W g 126 (va ++ zs) ∧ RPx one W va
theorem RangesAt.ext {one : Bool} {w W : World} {v : Value} (h : RangesAt one w v) (k : Below w.heap.size w W) : RangesAt one W v := by
  obtain ⟨g, c, va, zs, h1, h2, h3, h4⟩ := h
  exact ⟨g, c, va, zs, h1, h2, h3.ext k, h4.ext k⟩
theorem blk_ne {W : World} {a b : Nat} {t u : TypeId} {xs ys : Array Value} (h : Blk W a t xs) (k : Blk W b u ys) (hne : t ≠ u) : a ≠ b := by
  rintro rfl
  unfold Blk at h k
  rw [h] at k
  injection k with k
  injection k with _ k
  exact hne k
theorem str_ne {W : World} {a b o : Nat} {t : TypeId} {A : Option Addr} {n c : Nat} {x : ByteArray} (h : Blk W a t #[.slice A n c]) (k : W.cell? ⟨b, o, none⟩ = some (.string x)) : b ≠ a := by
  rintro rfl
  rw [h.cell o] at k
  cases o with
  | zero => cases k
  | succ o => cases k
theorem Strs.keep1 {W W' : World} {a : Nat} {t : TypeId} {A : Option Addr} {n c : Nat} {v : Value} {l : List ByteArray} {S : Nat → Prop} (h : Strs S W v l) (hb : Blk W a t #[.slice A n c]) (k : Ext2 a a W W') : Strs S W' v l := by
  obtain ⟨B, d, rfl, hc, h⟩ := h
  refine ⟨B, d, rfl, hc, fun h0 => ?_⟩
  obtain ⟨b, off, hB, hS, hcell⟩ := h h0
  exact ⟨b, off, hB, hS, fun j x hx => cell_ext2 (hcell j x hx) k (str_ne hb (hcell j x hx)) (str_ne hb (hcell j x hx))⟩
theorem RowsAt.keep1 {W W' : World} {a : Nat} {t : TypeId} {xs : Array Value} {hit : Bool} {v : Value} (h : RowsAt W hit v) (hb : Blk W a t xs) (ht : 67 ≠ t) (k : Ext2 a a W W') : RowsAt W' hit v := by
  rcases h with h | ⟨h1, g, c, zs, h2, h3, h4⟩
  · exact .inl h
  · exact .inr ⟨h1, g, c, zs, h2, h3, h4.ext2 k (blk_ne h4 hb ht) (blk_ne h4 hb ht)⟩
theorem RPx.keep1 {one : Bool} {W W' : World} {a : Nat} {t : TypeId} {A : Option Addr} {n c : Nat} {va : Array Value} (h : RPx one W va) (hb : Blk W a t #[.slice A n c]) (h1 : 67 ≠ t) (h2 : 53 ≠ t) (k : Ext2 a a W W') : RPx one W' va := by
  cases one
  · obtain ⟨v8, q1, q2⟩ := h
    exact ⟨v8, q1, q2.keep1 hb k⟩
  · obtain ⟨v6, v7, v8, q1, q2, ⟨g, c', A0, c0, ys, p1, p2, p3⟩, q4⟩ := h
    exact ⟨v6, v7, v8, q1, q2.keep1 hb h1 k, ⟨g, c', A0, c0, ys, p1, p2, p3.ext2 k (blk_ne p3 hb h2) (blk_ne p3 hb h2)⟩, q4.keep1 hb k⟩
theorem rp_info : (Tryz.prog.info? 126).map (fun i => (i.zero, i.size, i.bytes)) = some (some (.agg #[.int .i64 0, .int .i64 0, .int .i64 0, .int .i64 0, .int .i64 0, .int .i64 0, .slice none 0 0, .slice none 0 0, .slice none 0 0]), 9, 120) := by kernel_rfl

set_option maxRecDepth 100000 in
set_option maxHeartbeats 1000000 in
theorem put1 (bs bo gs gm : Nat) (pos : Int) (w : World) (hS : StateIs w true gs gm pos) (hR : RoundOK w) (hbs : Blk w bs 63 #[.pointer (some ⟨gs, 0, none⟩)]) (hbo : Blk w bo 37 #[.slice none 0 0]) :
    Calls Tryz.prog 48 #[.agg #[.int .i64 0, .int .i64 0, .int .i64 5, .int .i64 5], .pointer (some ⟨bs, 0, none⟩), .pointer (some ⟨bo, 0, none⟩)] w
      fun e w' => e = .returned (.tuple #[]) ∧ ∃ v, RangesAt true w' v ∧ Blk w' bo 37 #[v] ∧ Ext2 bo bo w w' := by
  obtain ⟨ir, hir, hzr0, hzr1, hzr2⟩ := info_parts rp_info
  have hE := ext_new w (.cells #[.int .i64 0, .int .i64 0, .int .i64 5, .int .i64 5] 123)
  have HS := Lib.hid (hS.ext hE)
  have HR := Lib.hid (hR.below hE)
  have s0 := (hbs.ext hE).cell 0
  have HO := Lib.hid (hbo.ext hE)
  have HE := Lib.hid hE
  have hsl := hbs.lt
  clear hS hR hbs hbo hE
  go_enter Tryz.func48, Tryz.ntmps48
  go_wp2_with fail
  refine (prove1 gs gm pos _ HS.out HR.out).mono ?_
  rintro e W1 ⟨va, rfl, hrp, hb1⟩
  obtain ⟨g1, k1, g2, k2, A, n, c, rfl⟩ := hrp.lit
  have HO1 := Lib.hid (HO.out.ext hb1)
  have HE1 := Lib.hid (ext_call HE.out hb1)
  have o0 := HO1.out.cell 0
  have f0 := HO1.out.frozen 0
  have ol := HO1.out.lt
  have ol1 : bo < W1.heap.size + 1 := by omega
  have ol2 : bo < W1.heap.size + 1 + 1 := by omega
  have HP := Lib.hid (show RPx true W1 #[.int .i64 0, .int .i64 0, .int .i64 5, .int .i64 5, .int .i64 1, .int .i64 0, .slice (some ⟨g1, 0, none⟩) 1 k1, .slice (some ⟨g2, 0, none⟩) 1 k2, .slice A n c] from hrp)
  clear hb1 hrp s0
  go_wp2
  go_end0
  have hX : Ext2 bo bo W1 ((W1.setCell ⟨bo, 0, none⟩ (.slice (some ⟨W1.heap.size + 1 + 1, 0, none⟩) 1 ((Question.appendCap 1 0 126).cut (W1.tape W1.drawn (Question.appendCap 1 0 126)))))) := (Ext2.refl _ _ _).setA 0 _
  refine ⟨rfl, .slice (some ⟨W1.heap.size + 1 + 1, 0, none⟩) 1 ((Question.appendCap 1 0 126).cut (W1.tape W1.drawn (Question.appendCap 1 0 126))), ⟨W1.heap.size + 1 + 1, ((Question.appendCap 1 0 126).cut (W1.tape W1.drawn (Question.appendCap 1 0 126))), #[.int .i64 0, .int .i64 0, .int .i64 5, .int .i64 5, .int .i64 1, .int .i64 0, .slice (some ⟨g1, 0, none⟩) 1 k1, .slice (some ⟨g2, 0, none⟩) 1 k2, .slice A n c], Builtin.zeroCells #[.int .i64 0, .int .i64 0, .int .i64 0, .int .i64 0, .int .i64 0, .int .i64 0, .slice none 0 0, .slice none 0 0, .slice none 0 0] (((Question.appendCap 1 0 126).cut (W1.tape W1.drawn (Question.appendCap 1 0 126))) - 1), rfl, ?_, ?_, ?_⟩, ?_, ?_⟩
  · exact grownCap_ge W1 1 0 _
  · exact (Blk.new' _ _ _ (by simp)).drew
  · exact RPx.ext (RPx.keep1 HP.out HO1.out (by decide) (by decide) hX) ((ext_alloc (ext_alloc (ext_new _ _) _) _).drew)
  · exact (((HO1.out.set_ 0 _).alloc _).alloc _).alloc _
  · exact Ext2.trans (.of_ext HE1.out) (hX.ext ((ext_alloc (ext_alloc (ext_new _ _) _) _).drew))

set_option maxRecDepth 100000 in
set_option maxHeartbeats 1000000 in
theorem make1 (gs gm : Nat) (pos : Int) (w : World) (hS : StateIs w true gs gm pos) (hR : RoundOK w) :
    Calls Tryz.prog 26 #[.pointer (some ⟨gs, 0, none⟩), .agg #[.int .i64 1, .int .i64 0, .int .i64 0, .int .i64 5, .int .i64 5, .int .i64 0, .int .i64 0]] w fun e w' => ∃ v, e = .returned (.tuple #[v, .int .i64 0]) ∧ RangesAt true w' v ∧ Below w.heap.size w w' := by
  have hmf : ∀ (fn : Fn) (first cap : Array Value) (w : World), (Instr.makeFunc fn first cap).run Tryz.prog w = .ok (.func fn first cap) w := fun _ _ _ _ => rfl
  have HE0 := Lib.hid (ext_alloc (ext_new w (.cells #[.pointer (some ⟨gs, 0, none⟩)] 63)) (.cells #[.int .i64 1, .int .i64 0, .int .i64 0, .int .i64 5, .int .i64 5, .int .i64 0, .int .i64 0] 33))
  have HB0 := Lib.hid ((Blk.new w 63 #[.pointer (some ⟨gs, 0, none⟩)]).alloc (.cells #[.int .i64 1, .int .i64 0, .int .i64 0, .int .i64 5, .int .i64 5, .int .i64 0, .int .i64 0] 33))
  have HQ0 := Lib.hid (Blk.new' (w.alloc (.cells #[.pointer (some ⟨gs, 0, none⟩)] 63)) 33 #[.int .i64 1, .int .i64 0, .int .i64 0, .int .i64 5, .int .i64 5, .int .i64 0, .int .i64 0] (b := w.heap.size + 1) (by simp))
  have HS := Lib.hid hS
  have HR := Lib.hid hR
  clear hS hR
  go_enter Tryz.func26, Tryz.ntmps26
  go_wp2_with fail
  refine (queryValid1 _).mono ?_
  rintro e W1 ⟨rfl, hb1⟩
  have HE1 := Lib.hid (ext_call HE0.out hb1)
  have HB1 := Lib.hid (HB0.out.ext hb1)
  have HQ1 := Lib.hid (HQ0.out.ext hb1)
  have q0 := HQ1.out.cell 0; have q1 := HQ1.out.cell 1; have q2 := HQ1.out.cell 2; have q3 := HQ1.out.cell 3; have q4 := HQ1.out.cell 4; have q5 := HQ1.out.cell 5; have q6 := HQ1.out.cell 6
  have ql := HQ1.out.lt
  clear hb1 HE0 HB0 HQ0
  go_wp2_with fail
  refine (proofOf1 _).mono ?_
  rintro e W2 ⟨rfl, hb2⟩
  have HE2 := Lib.hid (ext_call (ext_alloc HE1.out _) hb2)
  have HB2 := Lib.hid ((HB1.out.alloc _).ext hb2)
  have HQ2 := Lib.hid ((HQ1.out.alloc _).ext hb2)
  have HO2 := Lib.hid ((Blk.new W1 37 #[.slice none 0 0]).ext hb2)
  have HLo := Lib.hid (show w.heap.size ≤ W1.heap.size from HE1.out.size)
  clear hb2 ql HE1 HB1 HQ1 q0 q1 q2 q3 q4 q5 q6
  generalize W1.heap.size = bo at *
  have s0 := HB2.out.cell 0
  have bl := HB2.out.lt
  go_wp2_with fail
  refine (range_any true gs gm 0 pos 0 5 5 (by omega) _ (HS.out.ext (ext_alloc HE2.out _))).mono ?_
  rintro e W3 ⟨v, rfl, hv, hb3⟩
  obtain ⟨g0, k0, zs, rfl, _, _⟩ := rows_one hv
  have HE3 := Lib.hid (ext_call (ext_alloc HE2.out _) hb3)
  have HB3 := Lib.hid ((HB2.out.alloc _).ext hb3)
  have HQ3 := Lib.hid ((HQ2.out.alloc _).ext hb3)
  have HO3 := Lib.hid ((HO2.out.alloc _).ext hb3)
  have hC3 := (Blk.new W2 123 #[.int .i64 0, .int .i64 0, .int .i64 5, .int .i64 5]).ext hb3
  have c0 := hC3.cell 0; have c1 := hC3.cell 1; have c2 := hC3.cell 2; have c3 := hC3.cell 3
  have cl := hC3.lt
  clear hb3 HE2 HB2 HQ2 HO2 s0 bl hC3
  go_wp2_with fail
  refine (put1 w.heap.size bo gs gm pos _ (HS.out.ext HE3.out) (HR.out.below HE3.out) HB3.out HO3.out).mono ?_
  rintro e W4 ⟨rfl, v', hra, hbo, hx⟩
  have hQ4 := HQ3.out.ext2 hx (blk_ne HQ3.out HO3.out (by decide)) (blk_ne HQ3.out HO3.out (by decide))
  have HE4 := Lib.hid (Ext2.below HE3.out HLo.out HLo.out hx)
  have k0 := hQ4.cell 0
  have o0 := hbo.cell 0
  have HRa := Lib.hid hra
  clear hra hbo hx hQ4 c0 c1 c2 c3
  go_wp2
  go_ret2
  exact ⟨_, rfl, HRa.out, HE4.out⟩

set_option maxRecDepth 100000 in
set_option maxHeartbeats 1000000 in
theorem put0 (bs bo gs gm : Nat) (pos : Int) (w : World) (hS : StateIs w false gs gm pos) (hR : RoundOK w) (hbs : Blk w bs 63 #[.pointer (some ⟨gs, 0, none⟩)]) (hbo : Blk w bo 37 #[.slice none 0 0]) :
    Calls Tryz.prog 48 #[.agg #[.int .i64 0, .int .i64 0, .int .i64 0, .int .i64 0], .pointer (some ⟨bs, 0, none⟩), .pointer (some ⟨bo, 0, none⟩)] w
      fun e w' => e = .returned (.tuple #[]) ∧ ∃ v, RangesAt false w' v ∧ Blk w' bo 37 #[v] ∧ Ext2 bo bo w w' := by
  obtain ⟨ir, hir, hzr0, hzr1, hzr2⟩ := info_parts rp_info
  have hE := ext_new w (.cells #[.int .i64 0, .int .i64 0, .int .i64 0, .int .i64 0] 123)
  have HS := Lib.hid (hS.ext hE)
  have HR := Lib.hid (hR.below hE)
  have s0 := (hbs.ext hE).cell 0
  have HO := Lib.hid (hbo.ext hE)
  have HE := Lib.hid hE
  have hsl := hbs.lt
  clear hS hR hbs hbo hE
  go_enter Tryz.func48, Tryz.ntmps48
  go_wp2_with fail
  refine (prove0 gs gm pos _ HS.out HR.out).mono ?_
  rintro e W1 ⟨A, n, c, rfl, hs1, hb1⟩
  have hrp : RP0 W1 #[.int .i64 0, .int .i64 0, .int .i64 0, .int .i64 0, .int .i64 0, .int .i64 0, .slice none 0 0, .slice none 0 0, .slice A n c] := ⟨_, rfl, hs1⟩
  clear hs1
  have HO1 := Lib.hid (HO.out.ext hb1)
  have HE1 := Lib.hid (ext_call HE.out hb1)
  have o0 := HO1.out.cell 0
  have f0 := HO1.out.frozen 0
  have ol := HO1.out.lt
  have ol1 : bo < W1.heap.size + 1 := by omega
  have ol2 : bo < W1.heap.size + 1 + 1 := by omega
  have HP := Lib.hid (show RPx false W1 #[.int .i64 0, .int .i64 0, .int .i64 0, .int .i64 0, .int .i64 0, .int .i64 0, .slice none 0 0, .slice none 0 0, .slice A n c] from hrp)
  clear hb1 hrp s0
  go_wp2
  go_end0
  have hX : Ext2 bo bo W1 ((W1.setCell ⟨bo, 0, none⟩ (.slice (some ⟨W1.heap.size + 1 + 1, 0, none⟩) 1 ((Question.appendCap 1 0 126).cut (W1.tape W1.drawn (Question.appendCap 1 0 126)))))) := (Ext2.refl _ _ _).setA 0 _
  refine ⟨rfl, .slice (some ⟨W1.heap.size + 1 + 1, 0, none⟩) 1 ((Question.appendCap 1 0 126).cut (W1.tape W1.drawn (Question.appendCap 1 0 126))), ⟨W1.heap.size + 1 + 1, ((Question.appendCap 1 0 126).cut (W1.tape W1.drawn (Question.appendCap 1 0 126))), #[.int .i64 0, .int .i64 0, .int .i64 0, .int .i64 0, .int .i64 0, .int .i64 0, .slice none 0 0, .slice none 0 0, .slice A n c], Builtin.zeroCells #[.int .i64 0, .int .i64 0, .int .i64 0, .int .i64 0, .int .i64 0, .int .i64 0, .slice none 0 0, .slice none 0 0, .slice none 0 0] (((Question.appendCap 1 0 126).cut (W1.tape W1.drawn (Question.appendCap 1 0 126))) - 1), rfl, ?_, ?_, ?_⟩, ?_, ?_⟩
  · exact grownCap_ge W1 1 0 _
  · exact (Blk.new' _ _ _ (by simp)).drew
  · exact RPx.ext (RPx.keep1 HP.out HO1.out (by decide) (by decide) hX) ((ext_alloc (ext_alloc (ext_new _ _) _) _).drew)
  · exact (((HO1.out.set_ 0 _).alloc _).alloc _).alloc _
  · exact Ext2.trans (.of_ext HE1.out) (hX.ext ((ext_alloc (ext_alloc (ext_new _ _) _) _).drew))

set_option maxRecDepth 100000 in
set_option maxHeartbeats 1000000 in
theorem make0 (gs gm : Nat) (pos : Int) (w : World) (hS : StateIs w false gs gm pos) (hR : RoundOK w) :
    Calls Tryz.prog 26 #[.pointer (some ⟨gs, 0, none⟩), .agg #[.int .i64 3, .int .i64 0, .int .i64 0, .int .i64 0, .int .i64 0, .int .i64 0, .int .i64 0]] w fun e w' => ∃ v, e = .returned (.tuple #[v, .int .i64 0]) ∧ RangesAt false w' v ∧ Below w.heap.size w w' := by
  have hmf : ∀ (fn : Fn) (first cap : Array Value) (w : World), (Instr.makeFunc fn first cap).run Tryz.prog w = .ok (.func fn first cap) w := fun _ _ _ _ => rfl
  have HE0 := Lib.hid (ext_alloc (ext_new w (.cells #[.pointer (some ⟨gs, 0, none⟩)] 63)) (.cells #[.int .i64 3, .int .i64 0, .int .i64 0, .int .i64 0, .int .i64 0, .int .i64 0, .int .i64 0] 33))
  have HB0 := Lib.hid ((Blk.new w 63 #[.pointer (some ⟨gs, 0, none⟩)]).alloc (.cells #[.int .i64 3, .int .i64 0, .int .i64 0, .int .i64 0, .int .i64 0, .int .i64 0, .int .i64 0] 33))
  have HQ0 := Lib.hid (Blk.new' (w.alloc (.cells #[.pointer (some ⟨gs, 0, none⟩)] 63)) 33 #[.int .i64 3, .int .i64 0, .int .i64 0, .int .i64 0, .int .i64 0, .int .i64 0, .int .i64 0] (b := w.heap.size + 1) (by simp))
  have HS := Lib.hid hS
  have HR := Lib.hid hR
  clear hS hR
  go_enter Tryz.func26, Tryz.ntmps26
  go_wp2_with fail
  refine (queryValid0 _).mono ?_
  rintro e W1 ⟨rfl, hb1⟩
  have HE1 := Lib.hid (ext_call HE0.out hb1)
  have HB1 := Lib.hid (HB0.out.ext hb1)
  have HQ1 := Lib.hid (HQ0.out.ext hb1)
  have q0 := HQ1.out.cell 0; have q1 := HQ1.out.cell 1; have q2 := HQ1.out.cell 2; have q3 := HQ1.out.cell 3; have q4 := HQ1.out.cell 4; have q5 := HQ1.out.cell 5; have q6 := HQ1.out.cell 6
  have ql := HQ1.out.lt
  clear hb1 HE0 HB0 HQ0
  go_wp2_with fail
  refine (proofOf0 _).mono ?_
  rintro e W2 ⟨rfl, hb2⟩
  have HE2 := Lib.hid (ext_call (ext_alloc HE1.out _) hb2)
  have HB2 := Lib.hid ((HB1.out.alloc _).ext hb2)
  have HQ2 := Lib.hid ((HQ1.out.alloc _).ext hb2)
  have HO2 := Lib.hid ((Blk.new W1 37 #[.slice none 0 0]).ext hb2)
  have HLo := Lib.hid (show w.heap.size ≤ W1.heap.size from HE1.out.size)
  clear hb2 ql HE1 HB1 HQ1 q0 q1 q2 q3 q4 q5 q6
  generalize W1.heap.size = bo at *
  have s0 := HB2.out.cell 0
  have bl := HB2.out.lt
  go_wp2_with fail
  refine (range_any false gs gm 0 pos 0 0 0 (by omega) _ (HS.out.ext (ext_alloc HE2.out _))).mono ?_
  rintro e W3 ⟨v, rfl, hv, hb3⟩
  obtain rfl := rows_none hv
  have HE3 := Lib.hid (ext_call (ext_alloc HE2.out _) hb3)
  have HB3 := Lib.hid ((HB2.out.alloc _).ext hb3)
  have HQ3 := Lib.hid ((HQ2.out.alloc _).ext hb3)
  have HO3 := Lib.hid ((HO2.out.alloc _).ext hb3)
  have hC3 := (Blk.new W2 123 #[.int .i64 0, .int .i64 0, .int .i64 0, .int .i64 0]).ext hb3
  have c0 := hC3.cell 0; have c1 := hC3.cell 1; have c2 := hC3.cell 2; have c3 := hC3.cell 3
  have cl := hC3.lt
  clear hb3 HE2 HB2 HQ2 HO2 s0 bl hC3
  go_wp2_with fail
  refine (put0 w.heap.size bo gs gm pos _ (HS.out.ext HE3.out) (HR.out.below HE3.out) HB3.out HO3.out).mono ?_
  rintro e W4 ⟨rfl, v', hra, hbo, hx⟩
  have hQ4 := HQ3.out.ext2 hx (blk_ne HQ3.out HO3.out (by decide)) (blk_ne HQ3.out HO3.out (by decide))
  have HE4 := Lib.hid (Ext2.below HE3.out HLo.out HLo.out hx)
  have k0 := hQ4.cell 0
  have o0 := hbo.cell 0
  have HRa := Lib.hid hra
  clear hra hbo hx hQ4 c0 c1 c2 c3
  go_wp2
  go_ret2
  exact ⟨_, rfl, HRa.out, HE4.out⟩

end Go.Proofs.YtimoapjhepmehaaGreatDoor

/-
  package statetree: complete.
-/
namespace Go.Proofs.YtimoapjhepmehaaGreatDoor
open Go.RowKit
attribute [local go_sem ↓] Go.wp_at_zero Go.wp_at_succ

set_option maxRecDepth 100000 in
set_option maxHeartbeats 1000000 in
theorem complVal (bp g k : Nat) (v7 v8 : Value) (zs : Array Value) (w : World) (hp : Blk w bp 126 #[.int .i64 0, .int .i64 0, .int .i64 5, .int .i64 5, .int .i64 1, .int .i64 0, .slice (some ⟨g, 0, none⟩) 1 k, v7, v8]) (hg : Blk w g 67 (#[.int .i64 0, .int .i64 5, .int .i64 10, .int .i64 20, .int .i64 30] ++ zs)) :
    Calls Tryz.prog 155 #[.int .i64 0, .pointer (some ⟨bp, 0, none⟩)] w fun e w' => e = .returned (.int .i64 5) ∧ Below w.heap.size w w' := by
  have p1 := hp.cell 1
  have p6 := hp.cell 6
  obtain ⟨r0, r1, r2, r3, r4⟩ := row_cells hg
  clear hp hg
  go_enter Tryz.func155, Tryz.ntmps155
  go_wp2
  go_still_tail 7, (by kernel_rfl)
  change wpList _ _ _ _ _ w.drew
  go_wp2_with (go_at_call 89; refine (row_value0 _).mono ?_; rintro e W1 ⟨rfl, hb1⟩; have HE1 := Lib.hid (undrew hb1); clear hb1)
  go_ret
  exact ⟨rfl, HE1.out⟩

set_option maxRecDepth 100000 in
set_option maxHeartbeats 1000000 in
theorem complete0 (A : Option Addr) (n c : Nat) (w : World) :
    Calls Tryz.prog 103 #[.agg #[.int .i64 0, .int .i64 0, .int .i64 0, .int .i64 0, .int .i64 0, .int .i64 0, .slice none 0 0, .slice none 0 0, .slice A n c]] w fun e w' => e = .returned (.bool true) ∧ Below w.heap.size w w' := by
  go_enter Tryz.func103, Tryz.ntmps103
  go_wp2_with (go_at_call 84; refine (existsYes _).mono ?_; rintro e w' ⟨rfl, rfl⟩)
  go_ret
  exact ⟨rfl, ext_new _ _⟩

set_option maxRecDepth 100000 in
set_option maxHeartbeats 2000000 in
theorem complete1 (g k : Nat) (zs : Array Value) (g2 k2 : Nat) (A : Option Addr) (n c : Nat) (w : World) (hg : Blk w g 67 (#[.int .i64 0, .int .i64 5, .int .i64 10, .int .i64 20, .int .i64 30] ++ zs)) :
    Calls Tryz.prog 103 #[.agg #[.int .i64 0, .int .i64 0, .int .i64 5, .int .i64 5, .int .i64 1, .int .i64 0, .slice (some ⟨g, 0, none⟩) 1 k, .slice (some ⟨g2, 0, none⟩) 1 k2, .slice A n c]] w fun e w' => e = .returned (.bool true) ∧ Below w.heap.size w w' := by
  have hmf : ∀ (fn : Fn) (first cap : Array Value) (w : World), (Instr.makeFunc fn first cap).run Tryz.prog w = .ok (.func fn first cap) w := fun _ _ _ _ => rfl
  have HB0 := Lib.hid (Blk.new w 126 #[.int .i64 0, .int .i64 0, .int .i64 5, .int .i64 5, .int .i64 1, .int .i64 0, .slice (some ⟨g, 0, none⟩) 1 k, .slice (some ⟨g2, 0, none⟩) 1 k2, .slice A n c])
  have HG0 := Lib.hid (hg.alloc (.cells #[.int .i64 0, .int .i64 0, .int .i64 5, .int .i64 5, .int .i64 1, .int .i64 0, .slice (some ⟨g, 0, none⟩) 1 k, .slice (some ⟨g2, 0, none⟩) 1 k2, .slice A n c] 126))
  obtain ⟨r0, r1, r2, r3, r4⟩ := row_cells hg
  have gl := hg.lt
  clear hg
  go_enter Tryz.func103, Tryz.ntmps103
  go_wp2_with (go_at_call 84; refine (existsYes _).mono ?_; rintro e w' ⟨rfl, rfl⟩)
  refine wp_loop_rounds 2 ?_
  rw [rounds_succ]
  go_wp2_with fail
  refine (complVal w.heap.size g k _ _ zs _ (HB0.out.alloc _) (HG0.out.alloc _)).mono ?_
  rintro e W1 ⟨rfl, hb1⟩
  have HE1 := Lib.hid (ext_call (ext_alloc (ext_new w _) _) hb1)
  have HB1 := Lib.hid ((HB0.out.alloc _).ext hb1)
  have HR1 := Lib.hid ((Blk.new' (w.alloc (.cells #[.int .i64 0, .int .i64 0, .int .i64 5, .int .i64 5, .int .i64 1, .int .i64 0, .slice (some ⟨g, 0, none⟩) 1 k, .slice (some ⟨g2, 0, none⟩) 1 k2, .slice A n c] 126)) 67 #[.int .i64 0, .int .i64 5, .int .i64 10, .int .i64 20, .int .i64 30] (b := w.heap.size + 1) (by simp)).ext hb1)
  have x0 := HR1.out.cell 0; have x1 := HR1.out.cell 1; have x2 := HR1.out.cell 2; have x3 := HR1.out.cell 3; have x4 := HR1.out.cell 4
  clear hb1 r0 r1 r2 r3 r4 gl
  go_wp2_with fail
  refine (valid_row _).mono ?_
  rintro e W2 ⟨rfl, hb2⟩
  have HE2 := Lib.hid (ext_call HE1.out hb2)
  have hB2 := HB1.out.ext hb2
  have hR2 := HR1.out.ext hb2
  clear hb2 x0 x1 x2 x3 x4
  have b0 := hB2.cell 0; have b1 := hB2.cell 1; have b2 := hB2.cell 2; have b3 := hB2.cell 3; have b4 := hB2.cell 4; have b5 := hB2.cell 5
  have x0 := hR2.cell 0; have x1 := hR2.cell 1
  clear hB2 hR2
  go_wp2
  go_quiet (fail)
  go_wp2
  rw [rounds_succ]
  go_wp2
  go_quiet (fail)
  go_wp2
  go_ret
  exact ⟨rfl, ext_drewN (ext_drewN HE2.out _) _⟩

end Go.Proofs.YtimoapjhepmehaaGreatDoor

/-
  package statetree: Rows; package proof: check, the reader.
-/
namespace Go.Proofs.YtimoapjhepmehaaGreatDoor
open Go.RowKit
attribute [local go_sem ↓] Go.wp_at_zero Go.wp_at_succ

theorem cells9 {w : World} {g : Nat} {t : TypeId} {a0 a1 a2 a3 a4 a5 a6 a7 a8 : Value} {zs : Array Value} (h : Blk w g t (#[a0, a1, a2, a3, a4, a5, a6, a7, a8] ++ zs)) : w.cell? ⟨g, 0, none⟩ = some a0 ∧ w.cell? ⟨g, 1, none⟩ = some a1 ∧ w.cell? ⟨g, 2, none⟩ = some a2 ∧ w.cell? ⟨g, 3, none⟩ = some a3 ∧ w.cell? ⟨g, 4, none⟩ = some a4 ∧ w.cell? ⟨g, 5, none⟩ = some a5 ∧ w.cell? ⟨g, 6, none⟩ = some a6 ∧ w.cell? ⟨g, 7, none⟩ = some a7 ∧ w.cell? ⟨g, 8, none⟩ = some a8 := by
  refine ⟨?_, ?_, ?_, ?_, ?_, ?_, ?_, ?_, ?_⟩ <;> exact (h.cell _).trans (by simp [Array.getElem?_append])

theorem RP1.row {W : World} {g1 k1 : Nat} {u7 u8 : Value} (h : RP1 W #[.int .i64 0, .int .i64 0, .int .i64 5, .int .i64 5, .int .i64 1, .int .i64 0, .slice (some ⟨g1, 0, none⟩) 1 k1, u7, u8]) : ∃ zs, Blk W g1 67 (#[.int .i64 0, .int .i64 5, .int .i64 10, .int .i64 20, .int .i64 30] ++ zs) := by
  obtain ⟨v6, v7, v8, hva, hrow, _, _⟩ := h
  simp only [Array.mk.injEq, List.cons.injEq, true_and, and_true] at hva
  obtain ⟨rfl, rfl, rfl⟩ := hva
  obtain ⟨g, k, zs, h1, _, h3⟩ := rows_one hrow
  injection h1 with h1
  injection h1 with h1
  injection h1 with h1
  subst h1
  exact ⟨zs, h3⟩
theorem check_yes (w : World) : Calls Tryz.prog 97 #[.bool true] w fun e w' => e = .returned (.tuple #[]) ∧ w = w' := by
  go_enter Tryz.func97, Tryz.ntmps97
  go_wp2
  go_end0
  exact ⟨rfl, rfl⟩

set_option maxRecDepth 100000 in
set_option maxHeartbeats 1000000 in
theorem rowsOf0 (A : Option Addr) (n c : Nat) (w : World) :
    Calls Tryz.prog 143 #[.agg #[.int .i64 0, .int .i64 0, .int .i64 0, .int .i64 0, .int .i64 0, .int .i64 0, .slice none 0 0, .slice none 0 0, .slice A n c]] w fun e w' => e = .returned (.tuple #[.slice none 0 0, .bool true]) ∧ Below w.heap.size w w' := by
  have HB := Lib.hid (Blk.new w 126 #[.int .i64 0, .int .i64 0, .int .i64 0, .int .i64 0, .int .i64 0, .int .i64 0, .slice none 0 0, .slice none 0 0, .slice A n c])
  go_enter Tryz.func143, Tryz.ntmps143
  go_wp2_with fail
  refine (complete0 A n c _).mono ?_
  rintro e W1 ⟨rfl, hb1⟩
  have HE1 := Lib.hid (ext_call (ext_new w _) hb1)
  have hB1 := HB.out.ext hb1
  have b6 := hB1.cell 6
  clear hb1 hB1
  go_wp2
  refine wp_loop_rounds 1 ?_
  rw [rounds_succ]
  go_wp2
  go_ret2
  exact ⟨rfl, HE1.out⟩

set_option maxRecDepth 100000 in
set_option maxHeartbeats 1000000 in
theorem rowsOf1 (g k : Nat) (zs : Array Value) (g2 k2 : Nat) (A : Option Addr) (n c : Nat) (w : World) (hg : Blk w g 67 (#[.int .i64 0, .int .i64 5, .int .i64 10, .int .i64 20, .int .i64 30] ++ zs)) :
    Calls Tryz.prog 143 #[.agg #[.int .i64 0, .int .i64 0, .int .i64 5, .int .i64 5, .int .i64 1, .int .i64 0, .slice (some ⟨g, 0, none⟩) 1 k, .slice (some ⟨g2, 0, none⟩) 1 k2, .slice A n c]] w
      fun e w' => ∃ v, e = .returned (.tuple #[v, .bool true]) ∧ RowsAt w' true v ∧ Below w.heap.size w w' := by
  obtain ⟨ir, hir, hzr0, hzr1, hzr2⟩ := info_parts row_info
  have HB := Lib.hid (Blk.new w 126 #[.int .i64 0, .int .i64 0, .int .i64 5, .int .i64 5, .int .i64 1, .int .i64 0, .slice (some ⟨g, 0, none⟩) 1 k, .slice (some ⟨g2, 0, none⟩) 1 k2, .slice A n c])
  have HG := Lib.hid (hg.alloc (.cells #[.int .i64 0, .int .i64 0, .int .i64 5, .int .i64 5, .int .i64 1, .int .i64 0, .slice (some ⟨g, 0, none⟩) 1 k, .slice (some ⟨g2, 0, none⟩) 1 k2, .slice A n c] 126))
  clear hg
  go_enter Tryz.func143, Tryz.ntmps143
  go_wp2_with fail
  refine (complete1 g k zs g2 k2 A n c _ HG.out).mono ?_
  rintro e W1 ⟨rfl, hb1⟩
  have HE1 := Lib.hid (ext_call (ext_new w _) hb1)
  have HB1 := Lib.hid (HB.out.ext hb1)
  have hG1 := HG.out.ext hb1
  have b1 := HB1.out.cell 1
  have b2 := HB1.out.cell 2
  have b3 := HB1.out.cell 3
  have b6 := HB1.out.cell 6
  have bl := HB1.out.lt
  obtain ⟨r0, r1, r2, r3, r4⟩ := row_cells hG1
  have gl := hG1.lt
  clear hb1 hG1
  go_wp2
  refine wp_loop_rounds 2 ?_
  rw [rounds_succ]
  go_wp2_with fail
  refine (row_value0 _).mono ?_
  rintro e W2 ⟨rfl, hb2⟩
  have HE2 := Lib.hid (ext_call (ext_alloc HE1.out _) hb2)
  have hB2 := (HB1.out.alloc (.cells #[.int .i64 0, .int .i64 5, .int .i64 10, .int .i64 20, .int .i64 30] 67)).ext hb2
  have hX2 := (Blk.new W1 67 #[.int .i64 0, .int .i64 5, .int .i64 10, .int .i64 20, .int .i64 30]).ext hb2
  clear hb2 r0 r1 r2 r3 r4 b1 b2 b3 b6 gl bl
  have x0 := hX2.cell 0; have x1 := hX2.cell 1; have x2 := hX2.cell 2; have x3 := hX2.cell 3; have x4 := hX2.cell 4
  have b2 := hB2.cell 2
  have b3 := hB2.cell 3
  clear hB2 hX2
  go_wp2
  rw [rounds_succ]
  go_wp2
  go_ret2
  have hcap : 1 ≤ ((Question.appendCap 1 0 67).cut (W2.tape W2.drawn (Question.appendCap 1 0 67))) := grownCap_ge W2 1 0 67
  exact ⟨_, rfl, .inr ⟨rfl, W2.heap.size + 1, _, _, rfl, hcap, (Blk.new' _ _ _ (by simp)).drew⟩, (ext_alloc (ext_alloc HE2.out _) _).drew⟩

set_option maxRecDepth 100000 in
set_option maxHeartbeats 1000000 in
theorem read1 (pr g c : Nat) (g1 k1 g2 k2 : Nat) (A : Option Addr) (n d : Nat) (zs : Array Value) (w : World) (hp : Blk w pr 183 #[.slice (some ⟨g, 0, none⟩) 1 c]) (hc : 1 ≤ c) (hg : Blk w g 126 (#[.int .i64 0, .int .i64 0, .int .i64 5, .int .i64 5, .int .i64 1, .int .i64 0, .slice (some ⟨g1, 0, none⟩) 1 k1, .slice (some ⟨g2, 0, none⟩) 1 k2, .slice A n d] ++ zs)) (hra : RPx true w #[.int .i64 0, .int .i64 0, .int .i64 5, .int .i64 5, .int .i64 1, .int .i64 0, .slice (some ⟨g1, 0, none⟩) 1 k1, .slice (some ⟨g2, 0, none⟩) 1 k2, .slice A n d]) :
    Calls Tryz.prog 98 #[.pointer (some ⟨pr, 0, none⟩), .agg #[.int .i64 0, .int .i64 0, .int .i64 5, .int .i64 5]] w
      fun e w' => ∃ v B m, e = .returned v ∧ RowsAt w' true v ∧ Blk w' pr 183 #[.slice B 0 m] ∧ Ext2 pr pr w w' := by
  obtain ⟨q0, q1, q2, q3, q4, q5, q6, q7, q8⟩ := cells9 hg
  have gl := hg.lt
  have p0 := hp.cell 0
  have f0 := hp.frozen 0
  have pl := hp.lt
  have pl1 : pr < w.heap.size + 1 := by omega
  have gl1 : g < w.heap.size + 1 := by omega
  have hi : (1 : Int) ≤ (c : Int) := by omega
  have HP := Lib.hid hp
  obtain ⟨ys, hg1⟩ := RP1.row hra
  have HG := Lib.hid hg1
  have hne : g1 ≠ pr := blk_ne hg1 hp (by decide)
  have HNe := Lib.hid hne
  clear hra hg1 hg hne
  clear hp
  by_cases hc1 : c = 1
  all_goals
    first
    | subst hc1
    | (have hc2 : (1 : Int) < (c : Int) := by omega
       have hc3 : 1 < c := by omega)
    go_enter Tryz.func98, Tryz.ntmps98
    go_wp2_with (go_at_call 97; refine (check_yes _).mono ?_; rintro e w' ⟨rfl, rfl⟩)
    refine (rowsOf1 g1 k1 ys g2 k2 A n d _ (((HG.out.far (p := ⟨pr, 0, none⟩) HNe.out _).alloc _).alloc _)).mono ?_
    rintro e W2 ⟨v, rfl, hv, hb2⟩
    obtain ⟨g0, k0, us, rfl, _, _⟩ := rows_one hv
    have hE2 := Ext2.ext (((((Ext2.refl pr pr w).setA 0 _).alloc _).alloc _)) hb2
    have hP2 := (((HP.out.set_ 0 _).alloc _).alloc _).ext hb2
    have HE2 := Lib.hid hE2
    have HP2 := Lib.hid hP2
    have HV := Lib.hid hv
    clear hE2 hP2 hv hb2 p0 q0 q1 q2 q3 q4 q5 q6 q7 q8
    go_wp2_with (go_at_call 97; refine (check_yes _).mono ?_; rintro e w' ⟨rfl, rfl⟩)
    go_ret
    exact ⟨_, _, _, rfl, HV.out, HP2.out, HE2.out⟩

set_option maxRecDepth 100000 in
set_option maxHeartbeats 1000000 in
theorem read0 (pr g c : Nat) (A : Option Addr) (n d : Nat) (zs : Array Value) (w : World) (hp : Blk w pr 183 #[.slice (some ⟨g, 0, none⟩) 1 c]) (hc : 1 ≤ c) (hg : Blk w g 126 (#[.int .i64 0, .int .i64 0, .int .i64 0, .int .i64 0, .int .i64 0, .int .i64 0, .slice none 0 0, .slice none 0 0, .slice A n d] ++ zs)) (hra : RPx false w #[.int .i64 0, .int .i64 0, .int .i64 0, .int .i64 0, .int .i64 0, .int .i64 0, .slice none 0 0, .slice none 0 0, .slice A n d]) :
    Calls Tryz.prog 98 #[.pointer (some ⟨pr, 0, none⟩), .agg #[.int .i64 0, .int .i64 0, .int .i64 0, .int .i64 0]] w
      fun e w' => ∃ v B m, e = .returned v ∧ RowsAt w' false v ∧ Blk w' pr 183 #[.slice B 0 m] ∧ Ext2 pr pr w w' := by
  obtain ⟨q0, q1, q2, q3, q4, q5, q6, q7, q8⟩ := cells9 hg
  have gl := hg.lt
  have p0 := hp.cell 0
  have f0 := hp.frozen 0
  have pl := hp.lt
  have pl1 : pr < w.heap.size + 1 := by omega
  have gl1 : g < w.heap.size + 1 := by omega
  have hi : (1 : Int) ≤ (c : Int) := by omega
  have HP := Lib.hid hp
  clear hra hg
  clear hp
  by_cases hc1 : c = 1
  all_goals
    first
    | subst hc1
    | (have hc2 : (1 : Int) < (c : Int) := by omega
       have hc3 : 1 < c := by omega)
    go_enter Tryz.func98, Tryz.ntmps98
    go_wp2_with (go_at_call 97; refine (check_yes _).mono ?_; rintro e w' ⟨rfl, rfl⟩)
    refine (rowsOf0 A n d _).mono ?_
    rintro e W2 ⟨rfl, hb2⟩
    have hv : RowsAt W2 false (.slice none 0 0) := .inl ⟨rfl, rfl⟩
    have hE2 := Ext2.ext (((((Ext2.refl pr pr w).setA 0 _).alloc _).alloc _)) hb2
    have hP2 := (((HP.out.set_ 0 _).alloc _).alloc _).ext hb2
    have HE2 := Lib.hid hE2
    have HP2 := Lib.hid hP2
    have HV := Lib.hid hv
    clear hE2 hP2 hv hb2 p0 q0 q1 q2 q3 q4 q5 q6 q7 q8
    go_wp2_with (go_at_call 97; refine (check_yes _).mono ?_; rintro e w' ⟨rfl, rfl⟩)
    go_ret
    exact ⟨_, _, _, rfl, HV.out, HP2.out, HE2.out⟩

end Go.Proofs.YtimoapjhepmehaaGreatDoor

/-
  package eval: From at the law's two queries; slices.Clone of rows.
-/
namespace Go.Proofs.YtimoapjhepmehaaGreatDoor
open Go.RowKit
attribute [local go_sem ↓] Go.wp_at_zero Go.wp_at_succ

set_option maxRecDepth 100000 in
set_option maxHeartbeats 1000000 in
theorem cloneRows0 (w : World) : Calls Tryz.prog 100 #[.slice none 0 0] w fun e w' => e = .returned (.slice none 0 0) ∧ w = w' := by
  have hsn := fun W : World => Lib.run_eql_slice_nil (P := Tryz.prog) W 34 67 none 0 0 0 0 Tryz.underlying34
  go_enter Tryz.func100, Tryz.ntmps100
  go_wp2
  go_ret
  exact ⟨rfl, rfl⟩

set_option maxRecDepth 100000 in
set_option maxHeartbeats 1000000 in
theorem cloneRows1 (g k : Nat) (zs : Array Value) (w : World) (hg : Blk w g 67 (#[.int .i64 0, .int .i64 5, .int .i64 10, .int .i64 20, .int .i64 30] ++ zs)) :
    Calls Tryz.prog 100 #[.slice (some ⟨g, 0, none⟩) 1 k] w fun e w' => ∃ v, e = .returned v ∧ RowsAt w' true v ∧ Below w.heap.size w w' := by
  obtain ⟨ii, hii, hzi0, hzi1, hzi2⟩ := info_parts row_info
  obtain ⟨r0, r1, r2, r3, r4⟩ := row_cells hg
  have gl := hg.lt
  clear hg
  have hsn := fun W : World => Lib.run_eql_slice_nil (P := Tryz.prog) W 34 67 (some ⟨g, 0, none⟩) 1 k 0 0 Tryz.underlying34
  go_enter Tryz.func100, Tryz.ntmps100
  go_wp2
  go_ret
  exact ⟨_, rfl, .inr ⟨rfl, w.heap.size + 1, _, _, rfl, grownCap_ge w 1 0 _, (Blk.new' _ _ _ (by simp)).drew⟩, (ext_alloc (ext_new _ _) _).drew⟩

set_option maxRecDepth 100000 in
set_option maxHeartbeats 1000000 in
theorem from1 (g k : Nat) (zs : Array Value) (w : World) (hg : Blk w g 67 (#[.int .i64 0, .int .i64 5, .int .i64 10, .int .i64 20, .int .i64 30] ++ zs)) (v3 : Value) :
    Calls Tryz.prog 99 #[.agg #[.int .i64 1, .int .i64 0, .int .i64 0, .int .i64 5, .int .i64 5, .int .i64 0, .int .i64 0], .slice (some ⟨g, 0, none⟩) 1 k, v3] w fun e w' => ∃ v, e = .returned (.agg #[v, .int .i64 0, .bool false]) ∧ RowsAt w' true v ∧ Below w.heap.size w w' := by
  have HE0 := Lib.hid (ext_alloc (ext_new w (.cells #[.int .i64 1, .int .i64 0, .int .i64 0, .int .i64 5, .int .i64 5, .int .i64 0, .int .i64 0] 33)) (.cells #[.slice none 0 0, .int .i64 0, .bool false] 36))
  have HQ0 := Lib.hid ((Blk.new w 33 #[.int .i64 1, .int .i64 0, .int .i64 0, .int .i64 5, .int .i64 5, .int .i64 0, .int .i64 0]).alloc (.cells #[.slice none 0 0, .int .i64 0, .bool false] 36))
  have HR0 := Lib.hid (Blk.new' (w.alloc (.cells #[.int .i64 1, .int .i64 0, .int .i64 0, .int .i64 5, .int .i64 5, .int .i64 0, .int .i64 0] 33)) 36 #[.slice none 0 0, .int .i64 0, .bool false] (b := w.heap.size + 1) (by simp))
  have HG := Lib.hid hg
  clear hg
  go_enter Tryz.func99, Tryz.ntmps99
  go_wp2_with fail
  refine (queryValid1 _).mono ?_
  rintro e W1 ⟨rfl, hb1⟩
  have HE1 := Lib.hid (ext_call HE0.out hb1)
  have hQ1 := HQ0.out.ext hb1
  have HR1 := Lib.hid (HR0.out.ext hb1)
  have q0 := hQ1.cell 0
  have ql := hQ1.lt
  clear hb1 hQ1 HE0 HQ0 HR0
  go_wp2_with fail
  refine (cloneRows1 g k zs _ (HG.out.ext (ext_alloc HE1.out _))).mono ?_
  rintro e W2 ⟨v, rfl, hv, hb2⟩
  have HE2 := Lib.hid (ext_call (ext_alloc HE1.out _) hb2)
  have HR2 := Lib.hid ((HR1.out.alloc _).ext hb2)
  obtain ⟨g', k', us, rfl, hk', hg'⟩ := rows_one hv
  have HG2 := Lib.hid hg'
  have HK := Lib.hid hk'
  have hlt := HR2.out.lt
  have hlr : w.heap.size + 1 ≠ g' := blk_ne HR2.out hg' (by decide)
  have HN := Lib.hid hlr
  clear hb2 hv hg' hk' q0 ql hlr
  have r0 := HR2.out.cell 0; have r1 := HR2.out.cell 1; have r2 := HR2.out.cell 2
  have f0 := HR2.out.frozen 0
  have f1 := HR2.out.frozen 1
  have f2 := HR2.out.frozen 2
  go_wp2
  have hBf := ((HR2.out.set_ 0 (.slice (some ⟨g', 0, none⟩) 1 k')).set_ 1 (.int .i64 0)).set_ 2 (.bool false)
  have y0 := hBf.cell 0; have y1 := hBf.cell 1; have y2 := hBf.cell 2
  refine bodyPost_ret (v := .agg #[.slice (some ⟨g', 0, none⟩) 1 k', .int .i64 0, .bool false]) (by simp [results, Tryz.results99, go_sem, y0, y1, y2]) rfl ⟨_, rfl, .inr ⟨rfl, g', k', us, rfl, HK.out, ?_⟩, ?_⟩
  · exact ((HG2.out.far (p := ⟨_, 0, none⟩) HN.out.symm _).far (p := ⟨_, 1, none⟩) HN.out.symm _).far (p := ⟨_, 2, none⟩) HN.out.symm _
  · exact ext_set (ext_set (ext_set HE2.out (by simp) _) (by simp) _) (by simp) _

set_option maxRecDepth 100000 in
set_option maxHeartbeats 1000000 in
theorem foldNone (f : Value) (w : World) :
    Calls Tryz.prog 144 #[.slice none 0 0, .agg #[.slice none 0 0, .int .i64 0, .bool false], f] w fun e w' => e = .returned (.agg #[.slice none 0 0, .int .i64 0, .bool false]) ∧ Below w.heap.size w w' := by
  have HB := Lib.hid (Blk.new' (w.alloc (.cells #[.slice none 0 0, .int .i64 0, .bool false] 36)) 36 #[.slice none 0 0, .int .i64 0, .bool false] (b := w.heap.size + 1) (by simp))
  go_enter Tryz.func144, Tryz.ntmps144
  go_wp2
  refine wp_loop_rounds 1 ?_
  rw [rounds_succ]
  go_wp2
  have y0 := HB.out.cell 0; have y1 := HB.out.cell 1; have y2 := HB.out.cell 2
  refine bodyPost_ret (v := .agg #[.slice none 0 0, .int .i64 0, .bool false]) (by simp [results, Tryz.results144, go_sem, y0, y1, y2]) rfl ⟨rfl, ?_⟩
  exact ext_alloc (ext_new _ _) _

set_option maxRecDepth 100000 in
set_option maxHeartbeats 1000000 in
theorem from0 (w : World) (v3 : Value) :
    Calls Tryz.prog 99 #[.agg #[.int .i64 3, .int .i64 0, .int .i64 0, .int .i64 0, .int .i64 0, .int .i64 0, .int .i64 0], .slice none 0 0, v3] w fun e w' => e = .returned (.agg #[.slice none 0 0, .int .i64 0, .bool false]) ∧ Below w.heap.size w w' := by
  have HE0 := Lib.hid (ext_alloc (ext_new w (.cells #[.int .i64 3, .int .i64 0, .int .i64 0, .int .i64 0, .int .i64 0, .int .i64 0, .int .i64 0] 33)) (.cells #[.slice none 0 0, .int .i64 0, .bool false] 36))
  have HQ0 := Lib.hid ((Blk.new w 33 #[.int .i64 3, .int .i64 0, .int .i64 0, .int .i64 0, .int .i64 0, .int .i64 0, .int .i64 0]).alloc (.cells #[.slice none 0 0, .int .i64 0, .bool false] 36))
  have HR0 := Lib.hid (Blk.new' (w.alloc (.cells #[.int .i64 3, .int .i64 0, .int .i64 0, .int .i64 0, .int .i64 0, .int .i64 0, .int .i64 0] 33)) 36 #[.slice none 0 0, .int .i64 0, .bool false] (b := w.heap.size + 1) (by simp))
  go_enter Tryz.func99, Tryz.ntmps99
  go_wp2_with fail
  refine (queryValid0 _).mono ?_
  rintro e W1 ⟨rfl, hb1⟩
  have HE1 := Lib.hid (ext_call HE0.out hb1)
  have hQ1 := HQ0.out.ext hb1
  have HR1 := Lib.hid (HR0.out.ext hb1)
  have q0 := hQ1.cell 0
  have ql := hQ1.lt
  clear hb1 hQ1 HE0 HQ0 HR0
  go_wp2_with fail
  refine (foldNone _ _).mono ?_
  rintro e W2 ⟨rfl, hb2⟩
  have HE2 := Lib.hid (ext_call (ext_alloc HE1.out _) hb2)
  have HR2 := Lib.hid ((HR1.out.alloc _).ext hb2)
  clear hb2 q0 ql
  have r0 := HR2.out.cell 0; have r1 := HR2.out.cell 1; have r2 := HR2.out.cell 2
  have f0 := HR2.out.frozen 0
  have f1 := HR2.out.frozen 1
  have f2 := HR2.out.frozen 2
  go_wp2
  have hBf := ((HR2.out.set_ 0 (.slice none 0 0)).set_ 1 (.int .i64 0)).set_ 2 (.bool false)
  have y0 := hBf.cell 0; have y1 := hBf.cell 1; have y2 := hBf.cell 2
  refine bodyPost_ret (v := .agg #[.slice none 0 0, .int .i64 0, .bool false]) (by simp [results, Tryz.results99, go_sem, y0, y1, y2]) rfl ⟨rfl, ?_⟩
  exact ext_set (ext_set (ext_set HE2.out (by simp) _) (by simp) _) (by simp) _

end Go.Proofs.YtimoapjhepmehaaGreatDoor
