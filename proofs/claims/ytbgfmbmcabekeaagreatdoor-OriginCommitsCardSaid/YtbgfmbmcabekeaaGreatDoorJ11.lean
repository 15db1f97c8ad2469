/-
  Part 11 of 17: the contracts that the proof of the last part uses; each stands under its own head.
-/
import Derived.Test.YtbgfmbmcabekeaaGreatDoorJ10
import Derived.Test.YtbgfmbmcabekeaaGreatDoorJ9
import Derived.StillTailTactics
import Derived.BigQuiet
import Derived.Deep.QuietTactic
import Derived.BigRegion
import Derived.Test.YtbgfmbmcabekeaaGreatDoorJ6
set_option linter.unusedSimpArgs false
set_option linter.unusedVariables false

/-
  package proof: Make.
-/
namespace Go.Proofs.YtbgfmbmcabekeaaGreatDoor
open Go.RowKit
attribute [local go_sem ↓] Go.wp_at_zero Go.wp_at_succ

def RP0 (W : World) (va : Array Value) : Prop := ∃ v8, va = #[.int .i64 0, .int .i64 0, .int .i64 5, .int .i64 5, .int .i64 0, .int .i64 0, .slice none 0 0, .slice none 0 0, v8] ∧ Strs (fun _ => True) W v8 (sums false 16)
theorem RP0.ext {w W : World} {va : Array Value} (h : RP0 w va) (k : Below w.heap.size w W) : RP0 W va := by
  obtain ⟨v8, h1, h2⟩ := h
  exact ⟨v8, h1, h2.below k⟩
theorem RP0.lit {W : World} {va : Array Value} (h : RP0 W va) : ∃ A n c, va = #[.int .i64 0, .int .i64 0, .int .i64 5, .int .i64 5, .int .i64 0, .int .i64 0, .slice none 0 0, .slice none 0 0, .slice A n c] := by
  obtain ⟨v8, h1, h2⟩ := h
  obtain ⟨A, n, c, rfl⟩ := strs_slice' h2
  exact ⟨A, n, c, h1⟩
theorem RP1.lit {W : World} {va : Array Value} (h : RP1 W va) : ∃ g1 k1 g2 k2 A n c, va = #[.int .i64 0, .int .i64 0, .int .i64 5, .int .i64 5, .int .i64 1, .int .i64 0, .slice (some ⟨g1, 0, none⟩) 1 k1, .slice (some ⟨g2, 0, none⟩) 1 k2, .slice A n c] := by
  obtain ⟨v6, v7, v8, h1, h2, h3, h4⟩ := h
  obtain ⟨A, n, c, rfl⟩ := strs_slice' h4
  obtain ⟨g1, k1, _, rfl, _, _⟩ := rows_one h2
  obtain ⟨g2, k2, _, _, _, rfl, _, _⟩ := h3
  exact ⟨g1, k1, g2, k2, A, n, c, h1⟩
def RPx (one : Bool) (W : World) (va : Array Value) : Prop := match one with
  | true => RP1 W va
  | false => RP0 W va
theorem RPx.ext {one : Bool} {w W : World} {va : Array Value} (h : RPx one w va) (k : Below w.heap.size w W) : RPx one W va := by
  cases one
  · exact RP0.ext h k
  · exact RP1.ext h k
/-- the list of one proof -/
def RangesAt (one : Bool) (W : World) (v : Value) : Prop := ∃ g c va zs, v = .slice (some ⟨g, 0, none⟩) 1 c ∧ 1 ≤ c ∧ Blk W g 207 (va ++ zs) ∧ RPx one W va
theorem RangesAt.ext {one : Bool} {w W : World} {v : Value} (h : RangesAt one w v) (k : Below w.heap.size w W) : RangesAt one W v := by
  obtain ⟨g, c, va, zs, h1, h2, h3, h4⟩ := h
  exact ⟨g, c, va, zs, h1, h2, h3.ext k, h4.ext k⟩
theorem blk_ne {W : World} {a b : Nat} {t u : TypeId} {xs ys : Array Value} (h : Blk W a t xs) (k : Blk W b u ys) (hne : t ≠ u) : a ≠ b := by
  rintro rfl
  unfold Blk at h k
  rw [h] at k
  injection k with k
  injection k with _ k
  exact hne k
theorem str_ne {W : World} {a b o : Nat} {t : TypeId} {A : Option Addr} {n c : Nat} {x : ByteArray} (h : Blk W a t #[.slice A n c]) (k : W.cell? ⟨b, o, none⟩ = some (.string x)) : b ≠ a := by
  rintro rfl
  rw [h.cell o] at k
  cases o with
  | zero => cases k
  | succ o => cases k
theorem Strs.keep1 {W W' : World} {a : Nat} {t : TypeId} {A : Option Addr} {n c : Nat} {v : Value} {l : List ByteArray} {S : Nat → Prop} (h : Strs S W v l) (hb : Blk W a t #[.slice A n c]) (k : Ext2 a a W W') : Strs S W' v l := by
  obtain ⟨B, d, rfl, hc, h⟩ := h
  refine ⟨B, d, rfl, hc, fun h0 => ?_⟩
  obtain ⟨b, off, hB, hS, hcell⟩ := h h0
  exact ⟨b, off, hB, hS, fun j x hx => cell_ext2 (hcell j x hx) k (str_ne hb (hcell j x hx)) (str_ne hb (hcell j x hx))⟩
theorem RowsAt.keep1 {W W' : World} {a : Nat} {t : TypeId} {xs : Array Value} {hit : Bool} {v : Value} (h : RowsAt W hit v) (hb : Blk W a t xs) (ht : 77 ≠ t) (k : Ext2 a a W W') : RowsAt W' hit v := by
  rcases h with h | ⟨h1, g, c, zs, h2, h3, h4⟩
  · exact .inl h
  · exact .inr ⟨h1, g, c, zs, h2, h3, h4.ext2 k (blk_ne h4 hb ht) (blk_ne h4 hb ht)⟩
theorem RPx.keep1 {one : Bool} {W W' : World} {a : Nat} {t : TypeId} {A : Option Addr} {n c : Nat} {va : Array Value} (h : RPx one W va) (hb : Blk W a t #[.slice A n c]) (h1 : 77 ≠ t) (h2 : 89 ≠ t) (k : Ext2 a a W W') : RPx one W' va := by
  cases one
  · obtain ⟨v8, q1, q2⟩ := h
    exact ⟨v8, q1, q2.keep1 hb k⟩
  · obtain ⟨v6, v7, v8, q1, q2, ⟨g, c', A0, c0, ys, p1, p2, p3⟩, q4⟩ := h
    exact ⟨v6, v7, v8, q1, q2.keep1 hb h1 k, ⟨g, c', A0, c0, ys, p1, p2, p3.ext2 k (blk_ne p3 hb h2) (blk_ne p3 hb h2)⟩, q4.keep1 hb k⟩
theorem rp_info : (Tryz.prog.info? 207).map (fun i => (i.zero, i.size, i.bytes)) = some (some (.agg #[.int .i64 0, .int .i64 0, .int .i64 0, .int .i64 0, .int .i64 0, .int .i64 0, .slice none 0 0, .slice none 0 0, .slice none 0 0]), 9, 120) := by kernel_rfl

set_option maxRecDepth 100000 in
set_option maxHeartbeats 1000000 in
theorem put1 (bs bo gs gm : Nat) (pos : Int) (w : World) (hS : StateIs w true gs gm pos) (hR : RoundOK w) (hbs : Blk w bs 69 #[.pointer (some ⟨gs, 0, none⟩)]) (hbo : Blk w bo 47 #[.slice none 0 0]) :
    Calls Tryz.prog 178 #[.agg #[.int .i64 0, .int .i64 0, .int .i64 5, .int .i64 5], .pointer (some ⟨bs, 0, none⟩), .pointer (some ⟨bo, 0, none⟩)] w
      fun e w' => e = .returned (.tuple #[]) ∧ ∃ v, RangesAt true w' v ∧ Blk w' bo 47 #[v] ∧ Ext2 bo bo w w' := by
  obtain ⟨ir, hir, hzr0, hzr1, hzr2⟩ := info_parts rp_info
  have hE := ext_new w (.cells #[.int .i64 0, .int .i64 0, .int .i64 5, .int .i64 5] 276)
  have HS := Lib.hid (hS.ext hE)
  have HR := Lib.hid (hR.below hE)
  have s0 := (hbs.ext hE).cell 0
  have HO := Lib.hid (hbo.ext hE)
  have HE := Lib.hid hE
  have hsl := hbs.lt
  clear hS hR hbs hbo hE
  go_enter Tryz.func178, Tryz.ntmps178
  go_wp2_with fail
  refine (prove1 gs gm pos _ HS.out HR.out).mono ?_
  rintro e W1 ⟨va, rfl, hrp, hb1⟩
  obtain ⟨g1, k1, g2, k2, A, n, c, rfl⟩ := hrp.lit
  have HO1 := Lib.hid (HO.out.ext hb1)
  have HE1 := Lib.hid (ext_call HE.out hb1)
  have o0 := HO1.out.cell 0
  have f0 := HO1.out.frozen 0
  have ol := HO1.out.lt
  have ol1 : bo < W1.heap.size + 1 := by omega
  have ol2 : bo < W1.heap.size + 1 + 1 := by omega
  have HP := Lib.hid (show RPx true W1 #[.int .i64 0, .int .i64 0, .int .i64 5, .int .i64 5, .int .i64 1, .int .i64 0, .slice (some ⟨g1, 0, none⟩) 1 k1, .slice (some ⟨g2, 0, none⟩) 1 k2, .slice A n c] from hrp)
  clear hb1 hrp s0
  go_wp2
  go_end0
  have hX : Ext2 bo bo W1 ((W1.setCell ⟨bo, 0, none⟩ (.slice (some ⟨W1.heap.size + 1 + 1, 0, none⟩) 1 ((Question.appendCap 1 0 207).cut (W1.tape W1.drawn (Question.appendCap 1 0 207)))))) := (Ext2.refl _ _ _).setA 0 _
  refine ⟨rfl, .slice (some ⟨W1.heap.size + 1 + 1, 0, none⟩) 1 ((Question.appendCap 1 0 207).cut (W1.tape W1.drawn (Question.appendCap 1 0 207))), ⟨W1.heap.size + 1 + 1, ((Question.appendCap 1 0 207).cut (W1.tape W1.drawn (Question.appendCap 1 0 207))), #[.int .i64 0, .int .i64 0, .int .i64 5, .int .i64 5, .int .i64 1, .int .i64 0, .slice (some ⟨g1, 0, none⟩) 1 k1, .slice (some ⟨g2, 0, none⟩) 1 k2, .slice A n c], Builtin.zeroCells #[.int .i64 0, .int .i64 0, .int .i64 0, .int .i64 0, .int .i64 0, .int .i64 0, .slice none 0 0, .slice none 0 0, .slice none 0 0] (((Question.appendCap 1 0 207).cut (W1.tape W1.drawn (Question.appendCap 1 0 207))) - 1), rfl, ?_, ?_, ?_⟩, ?_, ?_⟩
  · exact grownCap_ge W1 1 0 _
  · exact (Blk.new' _ _ _ (by simp)).drew
  · exact RPx.ext (RPx.keep1 HP.out HO1.out (by decide) (by decide) hX) ((ext_alloc (ext_alloc (ext_new _ _) _) _).drew)
  · exact (((HO1.out.set_ 0 _).alloc _).alloc _).alloc _
  · exact Ext2.trans (.of_ext HE1.out) (hX.ext ((ext_alloc (ext_alloc (ext_new _ _) _) _).drew))

set_option maxRecDepth 100000 in
set_option maxHeartbeats 1000000 in
theorem make1 (gs gm : Nat) (pos : Int) (w : World) (hS : StateIs w true gs gm pos) (hR : RoundOK w) :
    Calls Tryz.prog 141 #[.pointer (some ⟨gs, 0, none⟩), .agg #[.int .i64 1, .int .i64 0, .int .i64 0, .int .i64 5, .int .i64 5, .int .i64 0, .int .i64 0]] w fun e w' => ∃ v, e = .returned (.tuple #[v, .int .i64 0]) ∧ RangesAt true w' v ∧ Below w.heap.size w w' := by
  have hmf : ∀ (fn : Fn) (first cap : Array Value) (w : World), (Instr.makeFunc fn first cap).run Tryz.prog w = .ok (.func fn first cap) w := fun _ _ _ _ => rfl
  have HE0 := Lib.hid (ext_alloc (ext_new w (.cells #[.pointer (some ⟨gs, 0, none⟩)] 69)) (.cells #[.int .i64 1, .int .i64 0, .int .i64 0, .int .i64 5, .int .i64 5, .int .i64 0, .int .i64 0] 44))
  have HB0 := Lib.hid ((Blk.new w 69 #[.pointer (some ⟨gs, 0, none⟩)]).alloc (.cells #[.int .i64 1, .int .i64 0, .int .i64 0, .int .i64 5, .int .i64 5, .int .i64 0, .int .i64 0] 44))
  have HQ0 := Lib.hid (Blk.new' (w.alloc (.cells #[.pointer (some ⟨gs, 0, none⟩)] 69)) 44 #[.int .i64 1, .int .i64 0, .int .i64 0, .int .i64 5, .int .i64 5, .int .i64 0, .int .i64 0] (b := w.heap.size + 1) (by simp))
  have HS := Lib.hid hS
  have HR := Lib.hid hR
  clear hS hR
  go_enter Tryz.func141, Tryz.ntmps141
  go_wp2_with fail
  refine (queryValid1 _).mono ?_
  rintro e W1 ⟨rfl, hb1⟩
  have HE1 := Lib.hid (ext_call HE0.out hb1)
  have HB1 := Lib.hid (HB0.out.ext hb1)
  have HQ1 := Lib.hid (HQ0.out.ext hb1)
  have q0 := HQ1.out.cell 0; have q1 := HQ1.out.cell 1; have q2 := HQ1.out.cell 2; have q3 := HQ1.out.cell 3; have q4 := HQ1.out.cell 4; have q5 := HQ1.out.cell 5; have q6 := HQ1.out.cell 6
  have ql := HQ1.out.lt
  clear hb1 HE0 HB0 HQ0
  go_wp2_with fail
  refine (proofOf1 _).mono ?_
  rintro e W2 ⟨rfl, hb2⟩
  have HE2 := Lib.hid (ext_call (ext_alloc HE1.out _) hb2)
  have HB2 := Lib.hid ((HB1.out.alloc _).ext hb2)
  have HQ2 := Lib.hid ((HQ1.out.alloc _).ext hb2)
  have HO2 := Lib.hid ((Blk.new W1 47 #[.slice none 0 0]).ext hb2)
  have HLo := Lib.hid (show w.heap.size ≤ W1.heap.size from HE1.out.size)
  clear hb2 ql HE1 HB1 HQ1 q0 q1 q2 q3 q4 q5 q6
  generalize W1.heap.size = bo at *
  have s0 := HB2.out.cell 0
  have bl := HB2.out.lt
  go_wp2_with fail
  refine (range_any true gs gm 0 pos 0 5 5 (by omega) _ (HS.out.ext (ext_alloc HE2.out _))).mono ?_
  rintro e W3 ⟨v, rfl, hv, hb3⟩
  obtain ⟨g0, k0, zs, rfl, _, _⟩ := rows_one hv
  have HE3 := Lib.hid (ext_call (ext_alloc HE2.out _) hb3)
  have HB3 := Lib.hid ((HB2.out.alloc _).ext hb3)
  have HQ3 := Lib.hid ((HQ2.out.alloc _).ext hb3)
  have HO3 := Lib.hid ((HO2.out.alloc _).ext hb3)
  have hC3 := (Blk.new W2 276 #[.int .i64 0, .int .i64 0, .int .i64 5, .int .i64 5]).ext hb3
  have c0 := hC3.cell 0; have c1 := hC3.cell 1; have c2 := hC3.cell 2; have c3 := hC3.cell 3
  have cl := hC3.lt
  clear hb3 HE2 HB2 HQ2 HO2 s0 bl hC3
  go_wp2_with fail
  refine (put1 w.heap.size bo gs gm pos _ (HS.out.ext HE3.out) (HR.out.below HE3.out) HB3.out HO3.out).mono ?_
  rintro e W4 ⟨rfl, v', hra, hbo, hx⟩
  have hQ4 := HQ3.out.ext2 hx (blk_ne HQ3.out HO3.out (by decide)) (blk_ne HQ3.out HO3.out (by decide))
  have HE4 := Lib.hid (Ext2.below HE3.out HLo.out HLo.out hx)
  have k0 := hQ4.cell 0
  have o0 := hbo.cell 0
  have HRa := Lib.hid hra
  clear hra hbo hx hQ4 c0 c1 c2 c3
  go_wp2
  go_ret2
  exact ⟨_, rfl, HRa.out, HE4.out⟩

set_option maxRecDepth 100000 in
set_option maxHeartbeats 1000000 in
theorem put0 (bs bo gs gm : Nat) (pos : Int) (w : World) (hS : StateIs w false gs gm pos) (hR : RoundOK w) (hbs : Blk w bs 69 #[.pointer (some ⟨gs, 0, none⟩)]) (hbo : Blk w bo 47 #[.slice none 0 0]) :
    Calls Tryz.prog 178 #[.agg #[.int .i64 0, .int .i64 0, .int .i64 5, .int .i64 5], .pointer (some ⟨bs, 0, none⟩), .pointer (some ⟨bo, 0, none⟩)] w
      fun e w' => e = .returned (.tuple #[]) ∧ ∃ v, RangesAt false w' v ∧ Blk w' bo 47 #[v] ∧ Ext2 bo bo w w' := by
  obtain ⟨ir, hir, hzr0, hzr1, hzr2⟩ := info_parts rp_info
  have hE := ext_new w (.cells #[.int .i64 0, .int .i64 0, .int .i64 5, .int .i64 5] 276)
  have HS := Lib.hid (hS.ext hE)
  have HR := Lib.hid (hR.below hE)
  have s0 := (hbs.ext hE).cell 0
  have HO := Lib.hid (hbo.ext hE)
  have HE := Lib.hid hE
  have hsl := hbs.lt
  clear hS hR hbs hbo hE
  go_enter Tryz.func178, Tryz.ntmps178
  go_wp2_with fail
  refine (prove0 gs gm pos _ HS.out HR.out).mono ?_
  rintro e W1 ⟨A, n, c, rfl, hs1, hb1⟩
  have hrp : RP0 W1 #[.int .i64 0, .int .i64 0, .int .i64 5, .int .i64 5, .int .i64 0, .int .i64 0, .slice none 0 0, .slice none 0 0, .slice A n c] := ⟨_, rfl, hs1⟩
  clear hs1
  have HO1 := Lib.hid (HO.out.ext hb1)
  have HE1 := Lib.hid (ext_call HE.out hb1)
  have o0 := HO1.out.cell 0
  have f0 := HO1.out.frozen 0
  have ol := HO1.out.lt
  have ol1 : bo < W1.heap.size + 1 := by omega
  have ol2 : bo < W1.heap.size + 1 + 1 := by omega
  have HP := Lib.hid (show RPx false W1 #[.int .i64 0, .int .i64 0, .int .i64 5, .int .i64 5, .int .i64 0, .int .i64 0, .slice none 0 0, .slice none 0 0, .slice A n c] from hrp)
  clear hb1 hrp s0
  go_wp2
  go_end0
  have hX : Ext2 bo bo W1 ((W1.setCell ⟨bo, 0, none⟩ (.slice (some ⟨W1.heap.size + 1 + 1, 0, none⟩) 1 ((Question.appendCap 1 0 207).cut (W1.tape W1.drawn (Question.appendCap 1 0 207)))))) := (Ext2.refl _ _ _).setA 0 _
  refine ⟨rfl, .slice (some ⟨W1.heap.size + 1 + 1, 0, none⟩) 1 ((Question.appendCap 1 0 207).cut (W1.tape W1.drawn (Question.appendCap 1 0 207))), ⟨W1.heap.size + 1 + 1, ((Question.appendCap 1 0 207).cut (W1.tape W1.drawn (Question.appendCap 1 0 207))), #[.int .i64 0, .int .i64 0, .int .i64 5, .int .i64 5, .int .i64 0, .int .i64 0, .slice none 0 0, .slice none 0 0, .slice A n c], Builtin.zeroCells #[.int .i64 0, .int .i64 0, .int .i64 0, .int .i64 0, .int .i64 0, .int .i64 0, .slice none 0 0, .slice none 0 0, .slice none 0 0] (((Question.appendCap 1 0 207).cut (W1.tape W1.drawn (Question.appendCap 1 0 207))) - 1), rfl, ?_, ?_, ?_⟩, ?_, ?_⟩
  · exact grownCap_ge W1 1 0 _
  · exact (Blk.new' _ _ _ (by simp)).drew
  · exact RPx.ext (RPx.keep1 HP.out HO1.out (by decide) (by decide) hX) ((ext_alloc (ext_alloc (ext_new _ _) _) _).drew)
  · exact (((HO1.out.set_ 0 _).alloc _).alloc _).alloc _
  · exact Ext2.trans (.of_ext HE1.out) (hX.ext ((ext_alloc (ext_alloc (ext_new _ _) _) _).drew))

set_option maxRecDepth 100000 in
set_option maxHeartbeats 1000000 in
theorem make0 (gs gm : Nat) (pos : Int) (w : World) (hS : StateIs w false gs gm pos) (hR : RoundOK w) :
    Calls Tryz.prog 141 #[.pointer (some ⟨gs, 0, none⟩), .agg #[.int .i64 1, .int .i64 0, .int .i64 0, .int .i64 5, .int .i64 5, .int .i64 0, .int .i64 0]] w fun e w' => ∃ v, e = .returned (.tuple #[v, .int .i64 0]) ∧ RangesAt false w' v ∧ Below w.heap.size w w' := by
  have hmf : ∀ (fn : Fn) (first cap : Array Value) (w : World), (Instr.makeFunc fn first cap).run Tryz.prog w = .ok (.func fn first cap) w := fun _ _ _ _ => rfl
  have HE0 := Lib.hid (ext_alloc (ext_new w (.cells #[.pointer (some ⟨gs, 0, none⟩)] 69)) (.cells #[.int .i64 1, .int .i64 0, .int .i64 0, .int .i64 5, .int .i64 5, .int .i64 0, .int .i64 0] 44))
  have HB0 := Lib.hid ((Blk.new w 69 #[.pointer (some ⟨gs, 0, none⟩)]).alloc (.cells #[.int .i64 1, .int .i64 0, .int .i64 0, .int .i64 5, .int .i64 5, .int .i64 0, .int .i64 0] 44))
  have HQ0 := Lib.hid (Blk.new' (w.alloc (.cells #[.pointer (some ⟨gs, 0, none⟩)] 69)) 44 #[.int .i64 1, .int .i64 0, .int .i64 0, .int .i64 5, .int .i64 5, .int .i64 0, .int .i64 0] (b := w.heap.size + 1) (by simp))
  have HS := Lib.hid hS
  have HR := Lib.hid hR
  clear hS hR
  go_enter Tryz.func141, Tryz.ntmps141
  go_wp2_with fail
  refine (queryValid0 _).mono ?_
  rintro e W1 ⟨rfl, hb1⟩
  have HE1 := Lib.hid (ext_call HE0.out hb1)
  have HB1 := Lib.hid (HB0.out.ext hb1)
  have HQ1 := Lib.hid (HQ0.out.ext hb1)
  have q0 := HQ1.out.cell 0; have q1 := HQ1.out.cell 1; have q2 := HQ1.out.cell 2; have q3 := HQ1.out.cell 3; have q4 := HQ1.out.cell 4; have q5 := HQ1.out.cell 5; have q6 := HQ1.out.cell 6
  have ql := HQ1.out.lt
  clear hb1 HE0 HB0 HQ0
  go_wp2_with fail
  refine (proofOf0 _).mono ?_
  rintro e W2 ⟨rfl, hb2⟩
  have HE2 := Lib.hid (ext_call (ext_alloc HE1.out _) hb2)
  have HB2 := Lib.hid ((HB1.out.alloc _).ext hb2)
  have HQ2 := Lib.hid ((HQ1.out.alloc _).ext hb2)
  have HO2 := Lib.hid ((Blk.new W1 47 #[.slice none 0 0]).ext hb2)
  have HLo := Lib.hid (show w.heap.size ≤ W1.heap.size from HE1.out.size)
  clear hb2 ql HE1 HB1 HQ1 q0 q1 q2 q3 q4 q5 q6
  generalize W1.heap.size = bo at *
  have s0 := HB2.out.cell 0
  have bl := HB2.out.lt
  go_wp2_with fail
  refine (range_any false gs gm 0 pos 0 5 5 (by omega) _ (HS.out.ext (ext_alloc HE2.out _))).mono ?_
  rintro e W3 ⟨v, rfl, hv, hb3⟩
  obtain rfl := rows_none hv
  have HE3 := Lib.hid (ext_call (ext_alloc HE2.out _) hb3)
  have HB3 := Lib.hid ((HB2.out.alloc _).ext hb3)
  have HQ3 := Lib.hid ((HQ2.out.alloc _).ext hb3)
  have HO3 := Lib.hid ((HO2.out.alloc _).ext hb3)
  have hC3 := (Blk.new W2 276 #[.int .i64 0, .int .i64 0, .int .i64 5, .int .i64 5]).ext hb3
  have c0 := hC3.cell 0; have c1 := hC3.cell 1; have c2 := hC3.cell 2; have c3 := hC3.cell 3
  have cl := hC3.lt
  clear hb3 HE2 HB2 HQ2 HO2 s0 bl hC3
  go_wp2_with fail
  refine (put0 w.heap.size bo gs gm pos _ (HS.out.ext HE3.out) (HR.out.below HE3.out) HB3.out HO3.out).mono ?_
  rintro e W4 ⟨rfl, v', hra, hbo, hx⟩
  have hQ4 := HQ3.out.ext2 hx (blk_ne HQ3.out HO3.out (by decide)) (blk_ne HQ3.out HO3.out (by decide))
  have HE4 := Lib.hid (Ext2.below HE3.out HLo.out HLo.out hx)
  have k0 := hQ4.cell 0
  have o0 := hbo.cell 0
  have HRa := Lib.hid hra
  clear hra hbo hx hQ4 c0 c1 c2 c3
  go_wp2
  go_ret2
  exact ⟨_, rfl, HRa.out, HE4.out⟩

end Go.Proofs.YtbgfmbmcabekeaaGreatDoor

/-
  package statetree: complete.
-/
namespace Go.Proofs.YtbgfmbmcabekeaaGreatDoor
open Go.RowKit
attribute [local go_sem ↓] Go.wp_at_zero Go.wp_at_succ

set_option maxRecDepth 100000 in
set_option maxHeartbeats 1000000 in
theorem complVal (bp g k : Nat) (v7 v8 : Value) (zs : Array Value) (w : World) (hp : Blk w bp 207 #[.int .i64 0, .int .i64 0, .int .i64 5, .int .i64 5, .int .i64 1, .int .i64 0, .slice (some ⟨g, 0, none⟩) 1 k, v7, v8]) (hg : Blk w g 77 (#[.int .i64 0, .int .i64 5, .int .i64 1, .int .i64 2, .int .i64 3] ++ zs)) :
    Calls Tryz.prog 197 #[.int .i64 0, .pointer (some ⟨bp, 0, none⟩)] w fun e w' => e = .returned (.int .i64 5) ∧ Below w.heap.size w w' := by
  have p1 := hp.cell 1
  have p6 := hp.cell 6
  obtain ⟨r0, r1, r2, r3, r4⟩ := row_cells hg
  clear hp hg
  go_enter Tryz.func197, Tryz.ntmps197
  go_wp2
  go_still_tail 7, (by kernel_rfl)
  change wpList _ _ _ _ _ w.drew
  go_wp2_with (go_at_call 166; refine (row_value0 _).mono ?_; rintro e W1 ⟨rfl, hb1⟩; have HE1 := Lib.hid (undrew hb1); clear hb1)
  go_ret
  exact ⟨rfl, HE1.out⟩

set_option maxRecDepth 100000 in
set_option maxHeartbeats 1000000 in
theorem complete0 (A : Option Addr) (n c : Nat) (w : World) :
    Calls Tryz.prog 165 #[.agg #[.int .i64 0, .int .i64 0, .int .i64 5, .int .i64 5, .int .i64 0, .int .i64 0, .slice none 0 0, .slice none 0 0, .slice A n c]] w fun e w' => e = .returned (.bool true) ∧ Below w.heap.size w w' := by
  go_enter Tryz.func165, Tryz.ntmps165
  go_wp2_with (go_at_call 196; refine (existsYes _).mono ?_; rintro e w' ⟨rfl, rfl⟩)
  go_ret
  exact ⟨rfl, ext_new _ _⟩

set_option maxRecDepth 100000 in
set_option maxHeartbeats 2000000 in
theorem complete1 (g k : Nat) (zs : Array Value) (g2 k2 : Nat) (A : Option Addr) (n c : Nat) (w : World) (hg : Blk w g 77 (#[.int .i64 0, .int .i64 5, .int .i64 1, .int .i64 2, .int .i64 3] ++ zs)) :
    Calls Tryz.prog 165 #[.agg #[.int .i64 0, .int .i64 0, .int .i64 5, .int .i64 5, .int .i64 1, .int .i64 0, .slice (some ⟨g, 0, none⟩) 1 k, .slice (some ⟨g2, 0, none⟩) 1 k2, .slice A n c]] w fun e w' => e = .returned (.bool true) ∧ Below w.heap.size w w' := by
  have hmf : ∀ (fn : Fn) (first cap : Array Value) (w : World), (Instr.makeFunc fn first cap).run Tryz.prog w = .ok (.func fn first cap) w := fun _ _ _ _ => rfl
  have HB0 := Lib.hid (Blk.new w 207 #[.int .i64 0, .int .i64 0, .int .i64 5, .int .i64 5, .int .i64 1, .int .i64 0, .slice (some ⟨g, 0, none⟩) 1 k, .slice (some ⟨g2, 0, none⟩) 1 k2, .slice A n c])
  have HG0 := Lib.hid (hg.alloc (.cells #[.int .i64 0, .int .i64 0, .int .i64 5, .int .i64 5, .int .i64 1, .int .i64 0, .slice (some ⟨g, 0, none⟩) 1 k, .slice (some ⟨g2, 0, none⟩) 1 k2, .slice A n c] 207))
  obtain ⟨r0, r1, r2, r3, r4⟩ := row_cells hg
  have gl := hg.lt
  clear hg
  go_enter Tryz.func165, Tryz.ntmps165
  go_wp2_with (go_at_call 196; refine (existsYes _).mono ?_; rintro e w' ⟨rfl, rfl⟩)
  refine wp_loop_rounds 2 ?_
  rw [rounds_succ]
  go_wp2_with fail
  refine (complVal w.heap.size g k _ _ zs _ (HB0.out.alloc _) (HG0.out.alloc _)).mono ?_
  rintro e W1 ⟨rfl, hb1⟩
  have HE1 := Lib.hid (ext_call (ext_alloc (ext_new w _) _) hb1)
  have HB1 := Lib.hid ((HB0.out.alloc _).ext hb1)
  have HR1 := Lib.hid ((Blk.new' (w.alloc (.cells #[.int .i64 0, .int .i64 0, .int .i64 5, .int .i64 5, .int .i64 1, .int .i64 0, .slice (some ⟨g, 0, none⟩) 1 k, .slice (some ⟨g2, 0, none⟩) 1 k2, .slice A n c] 207)) 77 #[.int .i64 0, .int .i64 5, .int .i64 1, .int .i64 2, .int .i64 3] (b := w.heap.size + 1) (by simp)).ext hb1)
  have x0 := HR1.out.cell 0; have x1 := HR1.out.cell 1; have x2 := HR1.out.cell 2; have x3 := HR1.out.cell 3; have x4 := HR1.out.cell 4
  clear hb1 r0 r1 r2 r3 r4 gl
  go_wp2_with fail
  refine (valid_row _).mono ?_
  rintro e W2 ⟨rfl, hb2⟩
  have HE2 := Lib.hid (ext_call HE1.out hb2)
  have hB2 := HB1.out.ext hb2
  have hR2 := HR1.out.ext hb2
  clear hb2 x0 x1 x2 x3 x4
  have b0 := hB2.cell 0; have b1 := hB2.cell 1; have b2 := hB2.cell 2; have b3 := hB2.cell 3; have b4 := hB2.cell 4; have b5 := hB2.cell 5
  have x0 := hR2.cell 0; have x1 := hR2.cell 1
  clear hB2 hR2
  go_wp2
  go_quiet (fail)
  go_wp2
  rw [rounds_succ]
  go_wp2
  go_quiet (fail)
  go_wp2
  go_ret
  exact ⟨rfl, ext_drewN (ext_drewN HE2.out _) _⟩

end Go.Proofs.YtbgfmbmcabekeaaGreatDoor

/-
  package statetree: Rows; package proof: check, the reader.
-/
namespace Go.Proofs.YtbgfmbmcabekeaaGreatDoor
open Go.RowKit
attribute [local go_sem ↓] Go.wp_at_zero Go.wp_at_succ

theorem RP1.row {W : World} {g1 k1 : Nat} {u7 u8 : Value} (h : RP1 W #[.int .i64 0, .int .i64 0, .int .i64 5, .int .i64 5, .int .i64 1, .int .i64 0, .slice (some ⟨g1, 0, none⟩) 1 k1, u7, u8]) : ∃ zs, Blk W g1 77 (#[.int .i64 0, .int .i64 5, .int .i64 1, .int .i64 2, .int .i64 3] ++ zs) := by
  obtain ⟨v6, v7, v8, hva, hrow, _, _⟩ := h
  simp only [Array.mk.injEq, List.cons.injEq, true_and, and_true] at hva
  obtain ⟨rfl, rfl, rfl⟩ := hva
  obtain ⟨g, k, zs, h1, _, h3⟩ := rows_one hrow
  injection h1 with h1
  injection h1 with h1
  injection h1 with h1
  subst h1
  exact ⟨zs, h3⟩
set_option maxRecDepth 100000 in
set_option maxHeartbeats 1000000 in
theorem rowsOf0 (A : Option Addr) (n c : Nat) (w : World) :
    Calls Tryz.prog 121 #[.agg #[.int .i64 0, .int .i64 0, .int .i64 5, .int .i64 5, .int .i64 0, .int .i64 0, .slice none 0 0, .slice none 0 0, .slice A n c]] w fun e w' => e = .returned (.tuple #[.slice none 0 0, .bool true]) ∧ Below w.heap.size w w' := by
  have HB := Lib.hid (Blk.new w 207 #[.int .i64 0, .int .i64 0, .int .i64 5, .int .i64 5, .int .i64 0, .int .i64 0, .slice none 0 0, .slice none 0 0, .slice A n c])
  go_enter Tryz.func121, Tryz.ntmps121
  go_wp2_with fail
  refine (complete0 A n c _).mono ?_
  rintro e W1 ⟨rfl, hb1⟩
  have HE1 := Lib.hid (ext_call (ext_new w _) hb1)
  have hB1 := HB.out.ext hb1
  have b6 := hB1.cell 6
  clear hb1 hB1
  go_wp2
  refine wp_loop_rounds 1 ?_
  rw [rounds_succ]
  go_wp2
  go_ret2
  exact ⟨rfl, HE1.out⟩

set_option maxRecDepth 100000 in
set_option maxHeartbeats 1000000 in
theorem rowsOf1 (g k : Nat) (zs : Array Value) (g2 k2 : Nat) (A : Option Addr) (n c : Nat) (w : World) (hg : Blk w g 77 (#[.int .i64 0, .int .i64 5, .int .i64 1, .int .i64 2, .int .i64 3] ++ zs)) :
    Calls Tryz.prog 121 #[.agg #[.int .i64 0, .int .i64 0, .int .i64 5, .int .i64 5, .int .i64 1, .int .i64 0, .slice (some ⟨g, 0, none⟩) 1 k, .slice (some ⟨g2, 0, none⟩) 1 k2, .slice A n c]] w
      fun e w' => ∃ v, e = .returned (.tuple #[v, .bool true]) ∧ RowsAt w' true v ∧ Below w.heap.size w w' := by
  obtain ⟨ir, hir, hzr0, hzr1, hzr2⟩ := info_parts row_info
  have HB := Lib.hid (Blk.new w 207 #[.int .i64 0, .int .i64 0, .int .i64 5, .int .i64 5, .int .i64 1, .int .i64 0, .slice (some ⟨g, 0, none⟩) 1 k, .slice (some ⟨g2, 0, none⟩) 1 k2, .slice A n c])
  have HG := Lib.hid (hg.alloc (.cells #[.int .i64 0, .int .i64 0, .int .i64 5, .int .i64 5, .int .i64 1, .int .i64 0, .slice (some ⟨g, 0, none⟩) 1 k, .slice (some ⟨g2, 0, none⟩) 1 k2, .slice A n c] 207))
  clear hg
  go_enter Tryz.func121, Tryz.ntmps121
  go_wp2_with fail
  refine (complete1 g k zs g2 k2 A n c _ HG.out).mono ?_
  rintro e W1 ⟨rfl, hb1⟩
  have HE1 := Lib.hid (ext_call (ext_new w _) hb1)
  have HB1 := Lib.hid (HB.out.ext hb1)
  have hG1 := HG.out.ext hb1
  have b1 := HB1.out.cell 1
  have b2 := HB1.out.cell 2
  have b3 := HB1.out.cell 3
  have b6 := HB1.out.cell 6
  have bl := HB1.out.lt
  obtain ⟨r0, r1, r2, r3, r4⟩ := row_cells hG1
  have gl := hG1.lt
  clear hb1 hG1
  go_wp2
  refine wp_loop_rounds 2 ?_
  rw [rounds_succ]
  go_wp2_with fail
  refine (row_value0 _).mono ?_
  rintro e W2 ⟨rfl, hb2⟩
  have HE2 := Lib.hid (ext_call (ext_alloc HE1.out _) hb2)
  have hB2 := (HB1.out.alloc (.cells #[.int .i64 0, .int .i64 5, .int .i64 1, .int .i64 2, .int .i64 3] 77)).ext hb2
  have hX2 := (Blk.new W1 77 #[.int .i64 0, .int .i64 5, .int .i64 1, .int .i64 2, .int .i64 3]).ext hb2
  clear hb2 r0 r1 r2 r3 r4 b1 b2 b3 b6 gl bl
  have x0 := hX2.cell 0; have x1 := hX2.cell 1; have x2 := hX2.cell 2; have x3 := hX2.cell 3; have x4 := hX2.cell 4
  have b2 := hB2.cell 2
  have b3 := hB2.cell 3
  clear hB2 hX2
  go_wp2
  rw [rounds_succ]
  go_wp2
  go_ret2
  have hcap : 1 ≤ ((Question.appendCap 1 0 77).cut (W2.tape W2.drawn (Question.appendCap 1 0 77))) := grownCap_ge W2 1 0 77
  exact ⟨_, rfl, .inr ⟨rfl, W2.heap.size + 1, _, _, rfl, hcap, (Blk.new' _ _ _ (by simp)).drew⟩, (ext_alloc (ext_alloc HE2.out _) _).drew⟩

end Go.Proofs.YtbgfmbmcabekeaaGreatDoor

/-
  package message: transportable at the law's two lists of proofs.
-/
namespace Go.Proofs.YtbgfmbmcabekeaaGreatDoor
open Go.RowKit Go.Shelf

theorem sums_33 (one : Bool) (k : Nat) : ∀ x ∈ sums one k, x.size = 33 := by
  intro x hx
  obtain ⟨i, _, rfl⟩ := List.mem_map.1 hx
  rw [sumE_size]

set_option maxHeartbeats 400000 in
theorem longRoot (s : ByteArray) (hs : s.size ≤ 64) (w : World) : Calls Tryz.prog 126 #[.string s] w fun e w' => e = .returned (.bool false) ∧ w = w' := by
  have d1 : decide ((64 : Int) < (s.size : Int)) = false := decide_eq_false (by omega)
  go_enter Tryz.func126, Tryz.ntmps126
  go_wp2
  go_ret
  exact ⟨rfl, rfl⟩

set_option maxHeartbeats 400000 in
theorem indexLong (S : Nat → Prop) (v : Value) (l : List ByteArray) (w : World) (hv : Strs S w v l) (hn : l.length ≤ 100000) (hs : ∀ x ∈ l, x.size ≤ 64) :
    Calls Tryz.prog 168 #[v, .func (.func 126) #[] #[]] w fun e w' => e = .returned (.int .i64 (-1)) ∧ w = w' := by
  have HV := Lib.hid hv
  have HS := Lib.hid hs
  obtain ⟨A, c, rfl, hc, _⟩ := hv
  clear hs
  go_enter Tryz.func168, Tryz.ntmps168
  go_wp2
  go_loop [8] (fun i => ∃ k : Nat, k ≤ l.length ∧ i = .int .i64 k) (fun i => l.length - (intOf i).toNat)
  case atStart => exact ⟨0, Nat.zero_le _, rfl⟩
  case round =>
    obtain ⟨k, hk, rfl⟩ := hrel
    by_cases hlt : k < l.length
    · obtain ⟨b, off, c', hA, _, _, hcell⟩ := HV.out.at_ hlt
      injection hA with hA hn' hc'
      subst hA; subst hc'
      clear hn'
      obtain ⟨x, hx⟩ : ∃ x, x = l[k] := ⟨_, rfl⟩
      rw [show l.getD k ⟨#[]⟩ = x by rw [hx]; simp [hlt]] at hcell
      have hx64 : x.size ≤ 64 := HS.out x (by rw [hx]; exact List.getElem_mem hlt)
      clear hx
      go_wp2_with (go_at_call 126; refine (longRoot _ hx64 _).mono ?_; rintro e w' ⟨rfl, rfl⟩)
      go_round
      case rel => exact ⟨k + 1, by omega, by go_num⟩
      case measure => simp [intOf]; omega
    · go_wp2
      go_ret
      exact ⟨rfl, rfl⟩

set_option maxHeartbeats 400000 in
theorem containsLong (S : Nat → Prop) (v : Value) (l : List ByteArray) (w : World) (hv : Strs S w v l) (hn : l.length ≤ 100000) (hs : ∀ x ∈ l, x.size ≤ 64) :
    Calls Tryz.prog 124 #[v, .func (.func 126) #[] #[]] w fun e w' => e = .returned (.bool false) ∧ w = w' := by
  have HC := Lib.hid (indexLong S v l w hv hn hs)
  obtain ⟨A, c, rfl, hc, _⟩ := hv
  clear hs
  go_enter Tryz.func124, Tryz.ntmps124
  go_wp2_with (go_at_call 168; refine HC.out.mono ?_; rintro e w' ⟨rfl, rfl⟩)
  go_ret
  exact ⟨rfl, rfl⟩

set_option maxHeartbeats 400000 in
theorem indexNoStr (A : Option Addr) (c : Nat) (f : Value) (w : World) :
    Calls Tryz.prog 168 #[.slice A 0 c, f] w fun e w' => e = .returned (.int .i64 (-1)) ∧ w = w' := by
  go_enter Tryz.func168, Tryz.ntmps168
  go_wp2
  refine wp_loop_rounds 1 ?_
  rw [rounds_succ]
  go_wp2
  go_ret
  exact ⟨rfl, rfl⟩
set_option maxHeartbeats 400000 in
theorem containsNoStr (A : Option Addr) (c : Nat) (f : Value) (w : World) :
    Calls Tryz.prog 124 #[.slice A 0 c, f] w fun e w' => e = .returned (.bool false) ∧ w = w' := by
  go_enter Tryz.func124, Tryz.ntmps124
  go_wp2_with (go_at_call 168; refine (indexNoStr A c f _).mono ?_; rintro e w' ⟨rfl, rfl⟩)
  go_ret
  exact ⟨rfl, rfl⟩
set_option maxHeartbeats 400000 in
theorem badPath0 (A : Option Addr) (c : Nat) (w : World) :
    Calls Tryz.prog 123 #[.slice A 0 c] w fun e w' => e = .returned (.bool false) ∧ w = w' := by
  go_enter Tryz.func123, Tryz.ntmps123
  go_wp2_with (go_at_call 124; refine (containsNoStr A c _ _).mono ?_; rintro e w' ⟨rfl, rfl⟩)
  go_ret
  exact ⟨rfl, rfl⟩
set_option maxHeartbeats 400000 in
theorem indexPaths0 (f : Value) (w : World) :
    Calls Tryz.prog 167 #[.slice none 0 0, f] w fun e w' => e = .returned (.int .i64 (-1)) ∧ w = w' := by
  go_enter Tryz.func167, Tryz.ntmps167
  go_wp2
  refine wp_loop_rounds 1 ?_
  rw [rounds_succ]
  go_wp2
  go_ret
  exact ⟨rfl, rfl⟩
set_option maxHeartbeats 400000 in
theorem indexPaths1 (g k : Nat) (A : Option Addr) (c : Nat) (w : World) (hk : 1 ≤ k) (hg : w.cell? ⟨g, 0, none⟩ = some (.slice A 0 c)) :
    Calls Tryz.prog 167 #[.slice (some ⟨g, 0, none⟩) 1 k, .func (.func 123) #[] #[]] w fun e w' => e = .returned (.int .i64 (-1)) ∧ w = w' := by
  go_enter Tryz.func167, Tryz.ntmps167
  go_wp2
  refine wp_loop_rounds 2 ?_
  rw [rounds_succ]
  go_wp2_with (go_at_call 123; refine (badPath0 A c _).mono ?_; rintro e w' ⟨rfl, rfl⟩)
  rw [rounds_succ]
  go_wp2
  go_ret
  exact ⟨rfl, rfl⟩
set_option maxHeartbeats 400000 in
theorem containsPaths0 (f : Value) (w : World) :
    Calls Tryz.prog 122 #[.slice none 0 0, f] w fun e w' => e = .returned (.bool false) ∧ w = w' := by
  go_enter Tryz.func122, Tryz.ntmps122
  go_wp2_with (go_at_call 167; refine (indexPaths0 f _).mono ?_; rintro e w' ⟨rfl, rfl⟩)
  go_ret
  exact ⟨rfl, rfl⟩
set_option maxHeartbeats 400000 in
theorem containsPaths1 (g k : Nat) (A : Option Addr) (c : Nat) (w : World) (hk : 1 ≤ k) (hg : w.cell? ⟨g, 0, none⟩ = some (.slice A 0 c)) :
    Calls Tryz.prog 122 #[.slice (some ⟨g, 0, none⟩) 1 k, .func (.func 123) #[] #[]] w fun e w' => e = .returned (.bool false) ∧ w = w' := by
  go_enter Tryz.func122, Tryz.ntmps122
  go_wp2_with (go_at_call 167; refine (indexPaths1 g k A c _ hk hg).mono ?_; rintro e w' ⟨rfl, rfl⟩)
  go_ret
  exact ⟨rfl, rfl⟩

set_option maxRecDepth 100000 in
set_option maxHeartbeats 1000000 in
theorem fits0 (va : Array Value) (w : World) (h : RP0 w va) :
    Calls Tryz.prog 120 #[.agg va] w fun e w' => e = .returned (.bool true) ∧ Below w.heap.size w w' := by
  obtain ⟨v8, rfl, h8⟩ := h
  obtain ⟨A, c, hv, _⟩ := id h8
  rw [sums_length] at hv
  subst hv
  obtain ⟨X, hX⟩ : ∃ X, X = w.alloc (.cells #[.int .i64 0, .int .i64 0, .int .i64 5, .int .i64 5, .int .i64 0, .int .i64 0, .slice none 0 0, .slice none 0 0, .slice A 16 c] 207) := ⟨_, rfl⟩
  have HE := Lib.hid (show Below w.heap.size w X by rw [hX]; exact ext_new _ _)
  have HB := Lib.hid (show Blk X w.heap.size 207 #[.int .i64 0, .int .i64 0, .int .i64 5, .int .i64 5, .int .i64 0, .int .i64 0, .slice none 0 0, .slice none 0 0, .slice A 16 c] by rw [hX]; exact Blk.new _ _ _)
  have HX := Lib.hid hX
  have H8 := Lib.hid (h8.below HE.out)
  have HS := Lib.hid (fun x (hx : x ∈ sums false 16) => show x.size ≤ 64 by rw [sums_33 false 16 x hx]; omega)
  clear hX h8
  have b0 := HB.out.cell 0; have b1 := HB.out.cell 1; have b2 := HB.out.cell 2; have b3 := HB.out.cell 3; have b4 := HB.out.cell 4; have b5 := HB.out.cell 5; have b6 := HB.out.cell 6; have b7 := HB.out.cell 7; have b8 := HB.out.cell 8
  go_enter Tryz.func120, Tryz.ntmps120
  go_wp2_with fail
  rw [← HX.out]
  refine (rowsOf0 A 16 c X).mono ?_
  rintro e W1 ⟨rfl, hb1⟩
  have HE1 := Lib.hid (ext_call HE.out hb1)
  have HB1 := Lib.hid (HB.out.ext hb1)
  have H81 := Lib.hid (H8.out.below hb1)
  clear hb1 b0 b1 b2 b3 b4 b5 b6 b7 b8
  have b0 := HB1.out.cell 0; have b1 := HB1.out.cell 1; have b2 := HB1.out.cell 2; have b3 := HB1.out.cell 3; have b4 := HB1.out.cell 4; have b5 := HB1.out.cell 5; have b6 := HB1.out.cell 6; have b7 := HB1.out.cell 7; have b8 := HB1.out.cell 8
  go_wp2_with fail
  refine (containsPaths0 _ W1).mono ?_
  rintro e w' ⟨rfl, hw'⟩
  subst w'
  go_wp2_with fail
  refine (containsLong _ _ (sums false 16) W1 H81.out (by rw [sums_length]; omega) HS.out).mono ?_
  rintro e w' ⟨rfl, hw'⟩
  subst w'
  go_wp2
  go_ret
  exact ⟨rfl, HE1.out⟩

set_option maxRecDepth 100000 in
set_option maxHeartbeats 1000000 in
theorem fits1 (va : Array Value) (w : World) (h : RP1 w va) :
    Calls Tryz.prog 120 #[.agg va] w fun e w' => e = .returned (.bool true) ∧ Below w.heap.size w w' := by
  obtain ⟨v6, v7, v8, rfl, h6, h7, h8⟩ := h
  obtain ⟨g1, k1, zs, rfl, hk1, h6⟩ := rows_one h6
  obtain ⟨g2, k2, A0, c0, ys, rfl, hk2, h7⟩ := h7
  obtain ⟨A, c, hv, _⟩ := id h8
  rw [sums_length] at hv
  subst hv
  obtain ⟨X, hX⟩ : ∃ X, X = w.alloc (.cells #[.int .i64 0, .int .i64 0, .int .i64 5, .int .i64 5, .int .i64 1, .int .i64 0, .slice (some ⟨g1, 0, none⟩) 1 k1, .slice (some ⟨g2, 0, none⟩) 1 k2, .slice A 16 c] 207) := ⟨_, rfl⟩
  have HE := Lib.hid (show Below w.heap.size w X by rw [hX]; exact ext_new _ _)
  have HB := Lib.hid (show Blk X w.heap.size 207 #[.int .i64 0, .int .i64 0, .int .i64 5, .int .i64 5, .int .i64 1, .int .i64 0, .slice (some ⟨g1, 0, none⟩) 1 k1, .slice (some ⟨g2, 0, none⟩) 1 k2, .slice A 16 c] by rw [hX]; exact Blk.new _ _ _)
  have HX := Lib.hid hX
  have H8 := Lib.hid (h8.below HE.out)
  have HS := Lib.hid (fun x (hx : x ∈ sums true 16) => show x.size ≤ 64 by rw [sums_33 true 16 x hx]; omega)
  have H6 := Lib.hid (h6.ext HE.out)
  have H7 := Lib.hid (h7.ext HE.out)
  clear h6 h7
  clear hX h8
  have b0 := HB.out.cell 0; have b1 := HB.out.cell 1; have b2 := HB.out.cell 2; have b3 := HB.out.cell 3; have b4 := HB.out.cell 4; have b5 := HB.out.cell 5; have b6 := HB.out.cell 6; have b7 := HB.out.cell 7; have b8 := HB.out.cell 8
  go_enter Tryz.func120, Tryz.ntmps120
  go_wp2_with fail
  rw [← HX.out]
  refine (rowsOf1 g1 k1 zs g2 k2 A 16 c X H6.out).mono ?_
  rintro e W1 ⟨v, rfl, hv, hb1⟩
  obtain ⟨g3, k3, _, rfl, _, _⟩ := rows_one hv
  clear hv
  have HE1 := Lib.hid (ext_call HE.out hb1)
  have HB1 := Lib.hid (HB.out.ext hb1)
  have H81 := Lib.hid (H8.out.below hb1)
  have p0 := (show HeadB W1 g2 #[.slice A0 0 c0] from .of2 (H7.out.ext hb1)).cell 0
  clear hb1 b0 b1 b2 b3 b4 b5 b6 b7 b8
  have b0 := HB1.out.cell 0; have b1 := HB1.out.cell 1; have b2 := HB1.out.cell 2; have b3 := HB1.out.cell 3; have b4 := HB1.out.cell 4; have b5 := HB1.out.cell 5; have b6 := HB1.out.cell 6; have b7 := HB1.out.cell 7; have b8 := HB1.out.cell 8
  go_wp2_with fail
  refine (containsPaths1 g2 k2 A0 c0 W1 hk2 p0).mono ?_
  rintro e w' ⟨rfl, hw'⟩
  subst w'
  clear p0
  go_wp2_with fail
  refine (containsLong _ _ (sums true 16) W1 H81.out (by rw [sums_length]; omega) HS.out).mono ?_
  rintro e w' ⟨rfl, hw'⟩
  subst w'
  go_wp2
  go_ret
  exact ⟨rfl, HE1.out⟩

@[local go_sem] theorem st_func {a : Addr} {m : Mode} {P : Program} {w : World} (fn : Fn) (first captured : Array Value) : (store a (.func fn first captured) m).run P w = stored P w a (.func fn first captured) m := run_store P w a _ m rfl
def fitsFn (b : Nat) : Value := .func (.func 128) #[] #[.pointer (some ⟨b, 0, none⟩)]
theorem RPx.lit9 {one : Bool} {W : World} {va : Array Value} (h : RPx one W va) : ∃ a0 a1 a2 a3 a4 a5 a6 a7 a8, va = #[a0, a1, a2, a3, a4, a5, a6, a7, a8] := by
  cases one
  · obtain ⟨_, rfl, _⟩ := h; exact ⟨_, _, _, _, _, _, _, _, _, rfl⟩
  · obtain ⟨_, _, _, rfl, _⟩ := h; exact ⟨_, _, _, _, _, _, _, _, _, rfl⟩
theorem fits_any (one : Bool) (va : Array Value) (w : World) (h : RPx one w va) : Calls Tryz.prog 120 #[.agg va] w fun e w' => e = .returned (.bool true) ∧ Below w.heap.size w w' := by
  cases one
  · exact fits0 va w h
  · exact fits1 va w h
set_option maxRecDepth 100000 in
set_option maxHeartbeats 1000000 in
theorem notFits (one : Bool) (va : Array Value) (b : Nat) (w : World) (h : RPx one w va) (hb : Blk w b 213 #[.func (.func 120) #[] #[]]) :
    Calls Tryz.prog 128 #[.agg va, .pointer (some ⟨b, 0, none⟩)] w fun e w' => e = .returned (.bool false) ∧ Below w.heap.size w w' := by
  have HF := Lib.hid (fun W (k : Below w.heap.size w W) => fits_any one va W (h.ext k))
  obtain ⟨a0, a1, a2, a3, a4, a5, a6, a7, a8, rfl⟩ := h.lit9
  have b0 := hb.cell 0
  have bl := hb.lt
  have HE := Lib.hid (ext_new w (.cells #[a0, a1, a2, a3, a4, a5, a6, a7, a8] 207))
  clear h hb
  go_enter Tryz.func128, Tryz.ntmps128
  go_wp2_with fail
  refine (HF.out _ HE.out).mono ?_
  rintro e W1 ⟨rfl, hb1⟩
  have HE1 := Lib.hid (ext_call HE.out hb1)
  clear hb1
  go_wp2
  go_ret
  exact ⟨rfl, HE1.out⟩

set_option maxRecDepth 100000 in
set_option maxHeartbeats 1000000 in
theorem indexFits (one : Bool) (va zs : Array Value) (b g c : Nat) (hc : 1 ≤ c) (w : World) (h : RPx one w va) (hg : Blk w g 207 (va ++ zs)) (hb : Blk w b 213 #[.func (.func 120) #[] #[]]) :
    Calls Tryz.prog 169 #[.slice (some ⟨g, 0, none⟩) 1 c, fitsFn b] w fun e w' => e = .returned (.int .i64 (-1)) ∧ Below w.heap.size w w' := by
  have HF := Lib.hid (notFits one va b w h hb)
  obtain ⟨a0, a1, a2, a3, a4, a5, a6, a7, a8, rfl⟩ := h.lit9
  have hh : HeadB w g #[a0, a1, a2, a3, a4, a5, a6, a7, a8] := .of2 hg
  have b0 := hh.cell 0
  have b1 := hh.cell 1
  have b2 := hh.cell 2
  have b3 := hh.cell 3
  have b4 := hh.cell 4
  have b5 := hh.cell 5
  have b6 := hh.cell 6
  have b7 := hh.cell 7
  have b8 := hh.cell 8
  clear h hg hb hh
  unfold fitsFn
  go_enter Tryz.func169, Tryz.ntmps169
  go_wp2
  refine wp_loop_rounds 2 ?_
  rw [rounds_succ]
  go_wp2_with fail
  refine HF.out.mono ?_
  rintro e W1 ⟨rfl, hb1⟩
  have HE1 := Lib.hid hb1
  clear hb1 b0 b1 b2 b3 b4 b5 b6 b7 b8
  go_wp2
  rw [rounds_succ]
  go_wp2
  go_ret
  exact ⟨rfl, HE1.out⟩

set_option maxRecDepth 100000 in
set_option maxHeartbeats 1000000 in
theorem containsFits (one : Bool) (va zs : Array Value) (b g c : Nat) (hc : 1 ≤ c) (w : World) (h : RPx one w va) (hg : Blk w g 207 (va ++ zs)) (hb : Blk w b 213 #[.func (.func 120) #[] #[]]) :
    Calls Tryz.prog 127 #[.slice (some ⟨g, 0, none⟩) 1 c, fitsFn b] w fun e w' => e = .returned (.bool false) ∧ Below w.heap.size w w' := by
  have HF := Lib.hid (indexFits one va zs b g c hc w h hg hb)
  clear h hg hb
  unfold fitsFn at *
  go_enter Tryz.func127, Tryz.ntmps127
  go_wp2_with fail
  refine HF.out.mono ?_
  rintro e W1 ⟨rfl, hb1⟩
  have HE1 := Lib.hid hb1
  clear hb1
  go_wp2
  go_ret
  exact ⟨rfl, HE1.out⟩

set_option maxRecDepth 100000 in
set_option maxHeartbeats 1000000 in
theorem transportable_yes (one : Bool) (v : Value) (w : World) (h : RangesAt one w v) :
    Calls Tryz.prog 80 #[v] w fun e w' => e = .returned (.bool true) ∧ Below w.heap.size w w' := by
  have hmf : ∀ (fn : Fn) (first cap : Array Value) (w : World), (Instr.makeFunc fn first cap).run Tryz.prog w = .ok (.func fn first cap) w := fun _ _ _ _ => rfl
  obtain ⟨g, c, va, zs, rfl, hc, hg, hv⟩ := h
  have HE := Lib.hid (ext_new w (.cells #[.func (.func 120) #[] #[]] 213))
  have HC := Lib.hid (containsFits one va zs w.heap.size g c hc _ (hv.ext HE.out) (hg.ext HE.out) (Blk.new _ _ _))
  unfold fitsFn at HC
  clear hg hv
  go_enter Tryz.func80, Tryz.ntmps80
  go_wp2_with (go_at_call 46; refine (mw_yes _ _ _ (by omega) (by omega) _).mono ?_; rintro e w' ⟨rfl, rfl⟩)
  go_wp2_with fail
  refine HC.out.mono ?_
  rintro e W1 ⟨rfl, hb1⟩
  have HE1 := Lib.hid (ext_call HE.out hb1)
  clear hb1
  go_wp2
  go_ret
  exact ⟨rfl, HE1.out⟩

end Go.Proofs.YtbgfmbmcabekeaaGreatDoor

/-
  package message: query, row, put, path, ranges, entry (writers), at the law's own entries.
-/
namespace Go.Proofs.YtbgfmbmcabekeaaGreatDoor
open Go.RowKit Go.Shelf

theorem ints_cells (ns : List Nat) (cs : Array Value) (h : cs = (ns.map fun n : Nat => Value.int .i64 (n : Int)).toArray) {W : World} {g : Nat} (hb : Blk W g 3 cs) : Blk W g 3 (ns.map fun n : Nat => Value.int .i64 (n : Int)).toArray := h ▸ hb

/-- ints at a slice just made -/
theorem intsNew (B b n c : Nat) (ns : List Nat) (hns : ∀ x ∈ ns, x < 64) (hl : ns.length ≤ 100) (hn : n ≤ 90000) (w : World) (cs : Array Value) (hcs : cs = (ns.map fun n : Nat => Value.int .i64 (n : Int)).toArray) (k : Nat) (hk : k = ns.length) (h : WrAt w B b n) :
    Calls Tryz.prog 131 #[.pointer (some ⟨b, 0, none⟩), .slice (some ⟨w.heap.size, 0, none⟩) k c] (w.alloc (.cells cs 3)) fun e w' => e = .returned (.tuple #[]) ∧ WrAt w' B b (n + k) ∧ WrKept B b w w' := by
  subst hk
  refine (intsW B b n w.heap.size c ns hns hl hn _ (h.ext (ext_new _ _)) (ints_cells ns cs hcs (Blk.new _ _ _))).mono ?_
  rintro e w' ⟨rfl, h1, h2⟩
  exact ⟨rfl, h1, (WrKept.of_ext (ext_new _ _) h.1).trans h2⟩

theorem intsAt (s : Nat) (w : World) (hs : s = w.heap.size) (B b n c : Nat) (ns : List Nat) (hns : ∀ x ∈ ns, x < 64) (hl : ns.length ≤ 100) (hn : n ≤ 90000) (cs : Array Value) (hcs : cs = (ns.map fun n : Nat => Value.int .i64 (n : Int)).toArray) (k : Nat) (hk : k = ns.length) (h : WrAt w B b n) :
    Calls Tryz.prog 131 #[.pointer (some ⟨b, 0, none⟩), .slice (some ⟨s, 0, none⟩) k c] (w.alloc (.cells cs 3)) fun e w' => e = .returned (.tuple #[]) ∧ WrAt w' B b (n + k) ∧ WrKept B b w w' := by
  subst hs
  exact intsNew B b n c ns hns hl hn w cs hcs k hk h

set_option maxRecDepth 100000 in
set_option maxHeartbeats 1000000 in
theorem queryW (B b n : Nat) (hn : n ≤ 90000) (w : World) (h : WrAt w B b n) :
    Calls Tryz.prog 130 #[.pointer (some ⟨b, 0, none⟩), .agg #[.int .i64 1, .int .i64 0, .int .i64 0, .int .i64 5, .int .i64 5, .int .i64 0, .int .i64 0]] w fun e w' => e = .returned (.tuple #[]) ∧ WrAt w' B b (n + 7) ∧ WrKept B b w w' := by
  obtain ⟨X, hX⟩ : ∃ X, X = w.alloc (.cells #[.int .i64 1, .int .i64 0, .int .i64 0, .int .i64 5, .int .i64 5, .int .i64 0, .int .i64 0] 44) := ⟨_, rfl⟩
  have HX := Lib.hid hX
  have HE := Lib.hid (show Below w.heap.size w X by rw [hX]; exact ext_new _ _)
  have HB := Lib.hid (show Blk X w.heap.size 44 #[.int .i64 1, .int .i64 0, .int .i64 0, .int .i64 5, .int .i64 5, .int .i64 0, .int .i64 0] by rw [hX]; exact Blk.new _ _ _)
  have H := Lib.hid h
  clear hX h
  have q0 := HB.out.cell 0; have q1 := HB.out.cell 1; have q2 := HB.out.cell 2; have q3 := HB.out.cell 3; have q4 := HB.out.cell 4; have q5 := HB.out.cell 5; have q6 := HB.out.cell 6
  go_enter Tryz.func130, Tryz.ntmps130
  go_upto_region 1 with (fail)
  rw [← HX.out]
  go_wp2_with fail
  refine (intsNew B b n _ [1, 0, 0, 5, 5, 0, 0] (by decide) (by decide) hn X _ (by rfl) 7 rfl (H.out.ext HE.out)).mono ?_
  rintro e W1 ⟨rfl, h1, k1⟩
  have H1 := Lib.hid h1
  have K1 := Lib.hid ((WrKept.of_ext (b := b) HE.out H.out.1).trans k1)
  clear h1 k1 q0 q1 q2 q3 q4 q5 q6
  go_wp2
  go_end0
  exact ⟨rfl, H1.out, K1.out⟩

set_option maxRecDepth 100000 in
set_option maxHeartbeats 1000000 in
theorem rowW (B b n : Nat) (hn : n ≤ 90000) (w : World) (h : WrAt w B b n) :
    Calls Tryz.prog 171 #[.pointer (some ⟨b, 0, none⟩), .agg #[.int .i64 0, .int .i64 5, .int .i64 1, .int .i64 2, .int .i64 3]] w fun e w' => e = .returned (.tuple #[]) ∧ WrAt w' B b (n + 5) ∧ WrKept B b w w' := by
  obtain ⟨X, hX⟩ : ∃ X, X = w.alloc (.cells #[.int .i64 0, .int .i64 5, .int .i64 1, .int .i64 2, .int .i64 3] 77) := ⟨_, rfl⟩
  have HX := Lib.hid hX
  have HE := Lib.hid (show Below w.heap.size w X by rw [hX]; exact ext_new _ _)
  have HB := Lib.hid (show Blk X w.heap.size 77 #[.int .i64 0, .int .i64 5, .int .i64 1, .int .i64 2, .int .i64 3] by rw [hX]; exact Blk.new _ _ _)
  have H := Lib.hid h
  clear hX h
  have q0 := HB.out.cell 0; have q1 := HB.out.cell 1; have q2 := HB.out.cell 2; have q3 := HB.out.cell 3; have q4 := HB.out.cell 4
  go_enter Tryz.func171, Tryz.ntmps171
  go_upto_region 1 with (fail)
  rw [← HX.out]
  go_wp2_with fail
  refine (intsNew B b n _ [0, 5, 1, 2, 3] (by decide) (by decide) hn X _ (by rfl) 5 rfl (H.out.ext HE.out)).mono ?_
  rintro e W1 ⟨rfl, h1, k1⟩
  have H1 := Lib.hid h1
  have K1 := Lib.hid ((WrKept.of_ext (b := b) HE.out H.out.1).trans k1)
  clear h1 k1 q0 q1 q2 q3 q4
  go_wp2
  go_end0
  exact ⟨rfl, H1.out, K1.out⟩

/-- the method value w.row -/
def rowFn (b : Nat) : Value := .func (.func 171) #[.pointer (some ⟨b, 0, none⟩)] #[]
set_option maxRecDepth 100000 in
set_option maxHeartbeats 1000000 in
theorem putRows0 (B b n : Nat) (hn : n ≤ 90000) (w : World) (h : WrAt w B b n) :
    Calls Tryz.prog 170 #[.pointer (some ⟨b, 0, none⟩), .slice none 0 0, rowFn b] w fun e w' => e = .returned (.tuple #[]) ∧ WrAt w' B b (n + 1) ∧ WrKept B b w w' := by
  have H := Lib.hid h
  clear h
  unfold rowFn
  go_enter Tryz.func170, Tryz.ntmps170
  go_wp2_with fail
  refine (intsNew B b n _ [0] (by decide) (by decide) hn w _ (by rfl) 1 rfl H.out).mono ?_
  rintro e W1 ⟨rfl, h1, k1⟩
  have H1 := Lib.hid h1
  have K1 := Lib.hid k1
  clear h1 k1
  go_wp2
  refine wp_loop_rounds 1 ?_
  rw [rounds_succ]
  go_wp2
  go_end0
  exact ⟨rfl, H1.out, K1.out⟩
set_option maxRecDepth 100000 in
set_option maxHeartbeats 1000000 in
theorem putRows1 (b n g c : Nat) (hn : n ≤ 80000) (hc : 1 ≤ c) (zs : Array Value) (w0 w : World) (hE : Below w0.heap.size w0 w) (hg : Blk w0 g 77 (#[.int .i64 0, .int .i64 5, .int .i64 1, .int .i64 2, .int .i64 3] ++ zs)) (h : WrAt w w0.heap.size b n) :
    Calls Tryz.prog 170 #[.pointer (some ⟨b, 0, none⟩), .slice (some ⟨g, 0, none⟩) 1 c, rowFn b] w fun e w' => e = .returned (.tuple #[]) ∧ WrAt w' w0.heap.size b (n + 1 + 5) ∧ WrKept w0.heap.size b w w' := by
  have H := Lib.hid h
  have HG := Lib.hid hg
  have HE := Lib.hid hE
  clear h hg hE
  unfold rowFn
  go_enter Tryz.func170, Tryz.ntmps170
  go_wp2_with fail
  refine (intsNew w0.heap.size b n _ [1] (by decide) (by decide) (by omega) w _ (by rfl) 1 rfl H.out).mono ?_
  rintro e W1 ⟨rfl, h1, k1⟩
  have H1 := Lib.hid h1
  have K1 := Lib.hid k1
  have hg1 := HG.out.ext (HE.out.trans k1.1)
  have hh : HeadB W1 g #[.int .i64 0, .int .i64 5, .int .i64 1, .int .i64 2, .int .i64 3] := .of2 hg1
  have q0 := hh.cell 0
  have q1 := hh.cell 1
  have q2 := hh.cell 2
  have q3 := hh.cell 3
  have q4 := hh.cell 4
  clear h1 k1 hg1 hh
  go_wp2
  refine wp_loop_rounds 2 ?_
  rw [rounds_succ]
  go_wp2_with fail
  refine (rowW w0.heap.size b (n + 1) (by omega) _ (H1.out.ext (ext_new _ _))).mono ?_
  rintro e W2 ⟨rfl, h2, k2⟩
  have H2 := Lib.hid h2
  have K2 := Lib.hid ((K1.out.ext (ext_new _ _) H.out.1).trans k2)
  clear h2 k2 q0 q1 q2 q3 q4
  go_wp2
  rw [rounds_succ]
  go_wp2
  go_end0
  exact ⟨rfl, H2.out, K2.out⟩

set_option maxRecDepth 100000 in
set_option maxHeartbeats 1000000 in
theorem putStrs0 (B b n : Nat) (hn : n ≤ 90000) (A : Option Addr) (c : Nat) (f : Value) (w : World) (h : WrAt w B b n) :
    Calls Tryz.prog 198 #[.pointer (some ⟨b, 0, none⟩), .slice A 0 c, f] w fun e w' => e = .returned (.tuple #[]) ∧ WrAt w' B b (n + 1) ∧ WrKept B b w w' := by
  have H := Lib.hid h
  clear h
  go_enter Tryz.func198, Tryz.ntmps198
  go_wp2_with fail
  refine (intsNew B b n _ [0] (by decide) (by decide) hn w _ (by rfl) 1 rfl H.out).mono ?_
  rintro e W1 ⟨rfl, h1, k1⟩
  have H1 := Lib.hid h1
  have K1 := Lib.hid k1
  clear h1 k1
  go_wp2
  refine wp_loop_rounds 1 ?_
  rw [rounds_succ]
  go_wp2
  go_end0
  exact ⟨rfl, H1.out, K1.out⟩

set_option maxRecDepth 100000 in
set_option maxHeartbeats 1000000 in
theorem path0W (B b n : Nat) (hn : n ≤ 90000) (A : Option Addr) (c : Nat) (w : World) (h : WrAt w B b n) :
    Calls Tryz.prog 172 #[.pointer (some ⟨b, 0, none⟩), .slice A 0 c] w fun e w' => e = .returned (.tuple #[]) ∧ WrAt w' B b (n + 1) ∧ WrKept B b w w' := by
  have hmf : ∀ (fn : Fn) (first cap : Array Value) (w : World), (Instr.makeFunc fn first cap).run Tryz.prog w = .ok (.func fn first cap) w := fun _ _ _ _ => rfl
  have H := Lib.hid h
  clear h
  go_enter Tryz.func172, Tryz.ntmps172
  go_wp2_with fail
  refine (putStrs0 B b n hn A c _ _ (H.out.ext (ext_new _ _))).mono ?_
  rintro e W1 ⟨rfl, h1, k1⟩
  have H1 := Lib.hid h1
  have K1 := Lib.hid ((WrKept.of_ext (b := b) (ext_new _ _) H.out.1).trans k1)
  clear h1 k1
  go_wp2
  go_end0
  exact ⟨rfl, H1.out, K1.out⟩

end Go.Proofs.YtbgfmbmcabekeaaGreatDoor

/-
  package message: ranges, entry (writers), ValidEntry, at the law's own entries.
-/
namespace Go.Proofs.YtbgfmbmcabekeaaGreatDoor
open Go.RowKit Go.Shelf

set_option maxRecDepth 100000 in
set_option maxHeartbeats 2000000 in
theorem rangesW0 (b n : Nat) (hn : n ≤ 70000) (v : Value) (w0 w : World) (hE : Below w0.heap.size w0 w) (hv : RangesAt false w0 v) (h : WrAt w w0.heap.size b n) :
    Calls Tryz.prog 132 #[.pointer (some ⟨b, 0, none⟩), v] w fun e w' => e = .returned (.tuple #[]) ∧ WrAt w' w0.heap.size b (n + 8 + 544) ∧ WrKept w0.heap.size b w w' := by
  obtain ⟨g, c, va, zs, rfl, hc, hg, hx⟩ := hv
  obtain ⟨v8, rfl, h8⟩ := hx
  obtain ⟨A, c8, hv8, hc8, hr8⟩ := h8
  rw [sums_length] at hv8 hc8 hr8
  subst hv8
  obtain ⟨ba, oa, rfl, _, hr8⟩ := hr8 (by omega)
  have H8 := Lib.hid hr8
  have HL8 := Lib.hid (sums_length false 16)
  have HS8 := Lib.hid (sums_33 false 16)
  clear hr8
  have HG := Lib.hid (show HeadB w0 g #[.int .i64 0, .int .i64 0, .int .i64 5, .int .i64 5, .int .i64 0, .int .i64 0, .slice none 0 0, .slice none 0 0, .slice (some ⟨ba, oa, none⟩) 16 c8] from .of2 hg)
  have HE := Lib.hid hE
  have H := Lib.hid h
  clear hg hE h
  go_enter Tryz.func132, Tryz.ntmps132
  go_wp2_with fail
  refine (intsNew w0.heap.size b n _ [1] (by decide) (by decide) (by omega) w _ (by rfl) 1 rfl H.out).mono ?_
  rintro e W1 ⟨rfl, h1, k1⟩
  have H1 := Lib.hid h1
  have K1 := Lib.hid k1
  have HE1 := Lib.hid (HE.out.trans k1.1)
  have hh := HG.out.ext HE1.out
  have q0 := hh.cell 0; have q1 := hh.cell 1; have q2 := hh.cell 2; have q3 := hh.cell 3; have q4 := hh.cell 4; have q5 := hh.cell 5; have q6 := hh.cell 6; have q7 := hh.cell 7; have q8 := hh.cell 8
  clear h1 k1 hh
  go_wp2
  refine wp_loop_rounds 2 ?_
  rw [rounds_succ]
  go_wp2_with fail
  obtain ⟨X, hX⟩ : ∃ X, X = W1.alloc (.cells #[.int .i64 0, .int .i64 0, .int .i64 5, .int .i64 5, .int .i64 0, .int .i64 0, .slice none 0 0, .slice none 0 0, .slice (some ⟨ba, oa, none⟩) 16 c8] 207) := ⟨_, rfl⟩
  rw [← hX]
  have HX := Lib.hid (show Blk X W1.heap.size 207 #[.int .i64 0, .int .i64 0, .int .i64 5, .int .i64 5, .int .i64 0, .int .i64 0, .slice none 0 0, .slice none 0 0, .slice (some ⟨ba, oa, none⟩) 16 c8] by rw [hX]; exact Blk.new _ _ _)
  have H2 := Lib.hid (show WrAt X w0.heap.size b (n + 1) by rw [hX]; exact H1.out.ext (ext_new _ _))
  have K2 := Lib.hid (show WrKept w0.heap.size b w X by rw [hX]; exact K1.out.ext (ext_new _ _) H.out.1)
  have hpX : W1.heap.size + 1 = X.heap.size := by rw [hX]; simp
  clear hX q0 q1 q2 q3 q4 q5 q6 q7 q8
  generalize W1.heap.size = p at HX hpX ⊢
  refine (intsAt _ X hpX w0.heap.size b (n + 1) _ [0, 0, 5, 5, 0, 0] (by decide) (by decide) (by omega) _ (by rfl) 6 rfl H2.out).mono ?_
  rintro e W3 ⟨rfl, h3, k3⟩
  have H3 := Lib.hid h3
  have K3 := Lib.hid (K2.out.trans k3)
  have HX3 := Lib.hid (k3.blk HX.out (by decide) (H2.out.ne HX.out (by decide)))
  clear h3 k3
  have q0 := HX3.out.cell 0; have q1 := HX3.out.cell 1; have q2 := HX3.out.cell 2; have q3 := HX3.out.cell 3; have q4 := HX3.out.cell 4; have q5 := HX3.out.cell 5; have q6 := HX3.out.cell 6; have q7 := HX3.out.cell 7; have q8 := HX3.out.cell 8
  clear hpX
  have hmf : ∀ (fn : Fn) (first cap : Array Value) (w : World), (Instr.makeFunc fn first cap).run Tryz.prog w = .ok (.func fn first cap) w := fun _ _ _ _ => rfl
  go_wp2_with fail
  refine (putRows0 w0.heap.size b (n + 1 + 6) (by omega) W3 H3.out).mono ?_
  rintro e W5 ⟨rfl, h5, k5⟩
  have H5 := Lib.hid h5
  have K5 := Lib.hid (K3.out.trans k5)
  have HX5 := Lib.hid (k5.blk HX3.out (by decide) (H3.out.ne HX3.out (by decide)))
  clear h5 k5 q0 q1 q2 q3 q4 q5 q6 q7 q8
  have q0 := HX5.out.cell 0; have q1 := HX5.out.cell 1; have q2 := HX5.out.cell 2; have q3 := HX5.out.cell 3; have q4 := HX5.out.cell 4; have q5 := HX5.out.cell 5; have q6 := HX5.out.cell 6; have q7 := HX5.out.cell 7; have q8 := HX5.out.cell 8
  go_wp2
  refine wp_loop_rounds 1 ?_
  rw [rounds_succ]
  go_wp2
  go_region
  go_wp2
  have H6' := Lib.hid (show WrAt W5.drew w0.heap.size b (n + 8) from H5.out.ext (ext_refl _).drew)
  have K6' := Lib.hid (show WrKept w0.heap.size b w W5.drew from K5.out.ext (ext_refl _).drew H.out.1)
  clear q0 q1 q2 q3 q4 q5 q6 q7 q8
  go_loopw [9, 80] (fun _ i W => ∃ k : Nat, k ≤ 16 ∧ i = .int .i64 k ∧ WrAt W w0.heap.size b (n + 8 + 34 * k) ∧ WrKept w0.heap.size b w W) (fun _ i _ => 16 - (intOf i).toNat)
  case atStart => exact ⟨0, Nat.zero_le _, rfl, H6'.out, K6'.out⟩
  case round =>
    obtain ⟨k, hk, rfl, hA, hK⟩ := hrel
    have HA := Lib.hid hA
    have HK := Lib.hid hK
    clear hA hK
    by_cases hlt : k < 16
    · obtain ⟨x, hx⟩ : ∃ x, (sums false 16)[k]? = some x := ⟨_, List.getElem?_eq_getElem (by rw [HL8.out]; exact hlt)⟩
      have hx64 : x.size = 33 := HS8.out x (List.mem_of_getElem? hx)
      have x0 : wr.cell? ⟨ba, oa + k, none⟩ = some (.string x) := cell_ext (H8.out k x hx) (HE.out.trans HK.out.1)
      have e2 : IntKind.i64.wrap ((k : Int) + 1) = (k : Int) + 1 := by rw [IntWalk.i64_in _ (by omega)]
      have d1 : decide ((k : Int) < 16) = true := by simp; omega
      have q0 : (0 : Int) ≤ (k : Int) := by omega
      have q1 : (k : Int) < 16 := by omega
      clear hx
      go_wp2_with fail
      refine (textW w0.heap.size b (n + 8 + 34 * k) x (by omega) (by omega) _ HA.out).mono ?_
      rintro e W2 ⟨rfl, h2, k2⟩
      have HA2 := Lib.hid (show WrAt W2 w0.heap.size b (n + 8 + 34 * (k + 1)) by rw [hx64] at h2; exact (show n + 8 + 34 * k + (1 + 33) = n + 8 + 34 * (k + 1) by omega) ▸ h2)
      have HK2 := Lib.hid (HK.out.trans k2)
      clear h2 k2 x0
      go_wp2
      go_roundw
      case rel => exact ⟨k + 1, by omega, by go_num, HA2.out, HK2.out⟩
      case measure => simp [intOf]; omega
    · obtain rfl : k = 16 := by omega
      go_wp2
      rw [rounds_succ]
      go_wp2
      go_end0
      exact ⟨rfl, HA.out, HK.out⟩

set_option maxRecDepth 100000 in
set_option maxHeartbeats 2000000 in
theorem rangesW1 (b n : Nat) (hn : n ≤ 70000) (v : Value) (w0 w : World) (hE : Below w0.heap.size w0 w) (hv : RangesAt true w0 v) (h : WrAt w w0.heap.size b n) :
    Calls Tryz.prog 132 #[.pointer (some ⟨b, 0, none⟩), v] w fun e w' => e = .returned (.tuple #[]) ∧ WrAt w' w0.heap.size b (n + 14 + 544) ∧ WrKept w0.heap.size b w w' := by
  obtain ⟨g, c, va, zs, rfl, hc, hg, hx⟩ := hv
  obtain ⟨v6, v7, v8, rfl, h6, h7, h8⟩ := hx
  obtain ⟨g1, k1, ws, rfl, hk1, h6⟩ := rows_one h6
  obtain ⟨g2, k2, A0, c0, ys, rfl, hk2, h7⟩ := h7
  have H6 := Lib.hid h6
  have H7 := Lib.hid (show HeadB w0 g2 #[.slice A0 0 c0] from .of2 h7)
  clear h6 h7
  obtain ⟨A, c8, hv8, hc8, hr8⟩ := h8
  rw [sums_length] at hv8 hc8 hr8
  subst hv8
  obtain ⟨ba, oa, rfl, _, hr8⟩ := hr8 (by omega)
  have H8 := Lib.hid hr8
  have HL8 := Lib.hid (sums_length true 16)
  have HS8 := Lib.hid (sums_33 true 16)
  clear hr8
  have HG := Lib.hid (show HeadB w0 g #[.int .i64 0, .int .i64 0, .int .i64 5, .int .i64 5, .int .i64 1, .int .i64 0, .slice (some ⟨g1, 0, none⟩) 1 k1, .slice (some ⟨g2, 0, none⟩) 1 k2, .slice (some ⟨ba, oa, none⟩) 16 c8] from .of2 hg)
  have HE := Lib.hid hE
  have H := Lib.hid h
  clear hg hE h
  go_enter Tryz.func132, Tryz.ntmps132
  go_wp2_with fail
  refine (intsNew w0.heap.size b n _ [1] (by decide) (by decide) (by omega) w _ (by rfl) 1 rfl H.out).mono ?_
  rintro e W1 ⟨rfl, h1, k1⟩
  have H1 := Lib.hid h1
  have K1 := Lib.hid k1
  have HE1 := Lib.hid (HE.out.trans k1.1)
  have hh := HG.out.ext HE1.out
  have q0 := hh.cell 0; have q1 := hh.cell 1; have q2 := hh.cell 2; have q3 := hh.cell 3; have q4 := hh.cell 4; have q5 := hh.cell 5; have q6 := hh.cell 6; have q7 := hh.cell 7; have q8 := hh.cell 8
  clear h1 k1 hh
  go_wp2
  refine wp_loop_rounds 2 ?_
  rw [rounds_succ]
  go_wp2_with fail
  obtain ⟨X, hX⟩ : ∃ X, X = W1.alloc (.cells #[.int .i64 0, .int .i64 0, .int .i64 5, .int .i64 5, .int .i64 1, .int .i64 0, .slice (some ⟨g1, 0, none⟩) 1 k1, .slice (some ⟨g2, 0, none⟩) 1 k2, .slice (some ⟨ba, oa, none⟩) 16 c8] 207) := ⟨_, rfl⟩
  rw [← hX]
  have HX := Lib.hid (show Blk X W1.heap.size 207 #[.int .i64 0, .int .i64 0, .int .i64 5, .int .i64 5, .int .i64 1, .int .i64 0, .slice (some ⟨g1, 0, none⟩) 1 k1, .slice (some ⟨g2, 0, none⟩) 1 k2, .slice (some ⟨ba, oa, none⟩) 16 c8] by rw [hX]; exact Blk.new _ _ _)
  have H2 := Lib.hid (show WrAt X w0.heap.size b (n + 1) by rw [hX]; exact H1.out.ext (ext_new _ _))
  have K2 := Lib.hid (show WrKept w0.heap.size b w X by rw [hX]; exact K1.out.ext (ext_new _ _) H.out.1)
  have hpX : W1.heap.size + 1 = X.heap.size := by rw [hX]; simp
  clear hX q0 q1 q2 q3 q4 q5 q6 q7 q8
  generalize W1.heap.size = p at HX hpX ⊢
  refine (intsAt _ X hpX w0.heap.size b (n + 1) _ [0, 0, 5, 5, 1, 0] (by decide) (by decide) (by omega) _ (by rfl) 6 rfl H2.out).mono ?_
  rintro e W3 ⟨rfl, h3, k3⟩
  have H3 := Lib.hid h3
  have K3 := Lib.hid (K2.out.trans k3)
  have HX3 := Lib.hid (k3.blk HX.out (by decide) (H2.out.ne HX.out (by decide)))
  clear h3 k3
  have q0 := HX3.out.cell 0; have q1 := HX3.out.cell 1; have q2 := HX3.out.cell 2; have q3 := HX3.out.cell 3; have q4 := HX3.out.cell 4; have q5 := HX3.out.cell 5; have q6 := HX3.out.cell 6; have q7 := HX3.out.cell 7; have q8 := HX3.out.cell 8
  clear hpX
  have hmf : ∀ (fn : Fn) (first cap : Array Value) (w : World), (Instr.makeFunc fn first cap).run Tryz.prog w = .ok (.func fn first cap) w := fun _ _ _ _ => rfl
  go_wp2_with fail
  refine (putRows1 b (n + 1 + 6) g1 k1 (by omega) hk1 ws w0 W3 (HE.out.trans K3.out.1) H6.out H3.out).mono ?_
  rintro e W4 ⟨rfl, h4, k4⟩
  have H4 := Lib.hid h4
  have K4 := Lib.hid (K3.out.trans k4)
  have HX4 := Lib.hid (k4.blk HX3.out (by decide) (H3.out.ne HX3.out (by decide)))
  have p0 := (H7.out.ext (HE.out.trans K4.out.1)).cell 0
  clear h4 k4 q0 q1 q2 q3 q4 q5 q6 q7 q8
  have q0 := HX4.out.cell 0; have q1 := HX4.out.cell 1; have q2 := HX4.out.cell 2; have q3 := HX4.out.cell 3; have q4 := HX4.out.cell 4; have q5 := HX4.out.cell 5; have q6 := HX4.out.cell 6; have q7 := HX4.out.cell 7; have q8 := HX4.out.cell 8
  go_wp2
  refine wp_loop_rounds 2 ?_
  rw [rounds_succ]
  go_wp2_with fail
  refine (path0W w0.heap.size b (n + 1 + 6 + 1 + 5) (by omega) A0 c0 W4 H4.out).mono ?_
  rintro e W5 ⟨rfl, h5, k5⟩
  have H5 := Lib.hid h5
  have K5 := Lib.hid (K4.out.trans k5)
  have HX5 := Lib.hid (k5.blk HX4.out (by decide) (H4.out.ne HX4.out (by decide)))
  clear h5 k5 p0 q0 q1 q2 q3 q4 q5 q6 q7 q8
  have q0 := HX5.out.cell 0; have q1 := HX5.out.cell 1; have q2 := HX5.out.cell 2; have q3 := HX5.out.cell 3; have q4 := HX5.out.cell 4; have q5 := HX5.out.cell 5; have q6 := HX5.out.cell 6; have q7 := HX5.out.cell 7; have q8 := HX5.out.cell 8
  go_wp2
  rw [rounds_succ]
  go_wp2
  go_region
  go_wp2
  have H6' := Lib.hid (show WrAt W5.drew w0.heap.size b (n + 14) from H5.out.ext (ext_refl _).drew)
  have K6' := Lib.hid (show WrKept w0.heap.size b w W5.drew from K5.out.ext (ext_refl _).drew H.out.1)
  clear q0 q1 q2 q3 q4 q5 q6 q7 q8
  go_loopw [9, 80] (fun _ i W => ∃ k : Nat, k ≤ 16 ∧ i = .int .i64 k ∧ WrAt W w0.heap.size b (n + 14 + 34 * k) ∧ WrKept w0.heap.size b w W) (fun _ i _ => 16 - (intOf i).toNat)
  case atStart => exact ⟨0, Nat.zero_le _, rfl, H6'.out, K6'.out⟩
  case round =>
    obtain ⟨k, hk, rfl, hA, hK⟩ := hrel
    have HA := Lib.hid hA
    have HK := Lib.hid hK
    clear hA hK
    by_cases hlt : k < 16
    · obtain ⟨x, hx⟩ : ∃ x, (sums true 16)[k]? = some x := ⟨_, List.getElem?_eq_getElem (by rw [HL8.out]; exact hlt)⟩
      have hx64 : x.size = 33 := HS8.out x (List.mem_of_getElem? hx)
      have x0 : wr.cell? ⟨ba, oa + k, none⟩ = some (.string x) := cell_ext (H8.out k x hx) (HE.out.trans HK.out.1)
      have e2 : IntKind.i64.wrap ((k : Int) + 1) = (k : Int) + 1 := by rw [IntWalk.i64_in _ (by omega)]
      have d1 : decide ((k : Int) < 16) = true := by simp; omega
      have q0 : (0 : Int) ≤ (k : Int) := by omega
      have q1 : (k : Int) < 16 := by omega
      clear hx
      go_wp2_with fail
      refine (textW w0.heap.size b (n + 14 + 34 * k) x (by omega) (by omega) _ HA.out).mono ?_
      rintro e W2 ⟨rfl, h2, k2⟩
      have HA2 := Lib.hid (show WrAt W2 w0.heap.size b (n + 14 + 34 * (k + 1)) by rw [hx64] at h2; exact (show n + 14 + 34 * k + (1 + 33) = n + 14 + 34 * (k + 1) by omega) ▸ h2)
      have HK2 := Lib.hid (HK.out.trans k2)
      clear h2 k2 x0
      go_wp2
      go_roundw
      case rel => exact ⟨k + 1, by omega, by go_num, HA2.out, HK2.out⟩
      case measure => simp [intOf]; omega
    · obtain rfl : k = 16 := by omega
      go_wp2
      rw [rounds_succ]
      go_wp2
      go_end0
      exact ⟨rfl, HA.out, HK.out⟩

end Go.Proofs.YtbgfmbmcabekeaaGreatDoor

/-
  package message: entry (writer), ValidEntry, at the law's own entries.
-/
namespace Go.Proofs.YtbgfmbmcabekeaaGreatDoor
open Go.RowKit Go.Shelf

theorem rangesW (one : Bool) (b n : Nat) (hn : n ≤ 70000) (v : Value) (w0 w : World) (hE : Below w0.heap.size w0 w) (hv : RangesAt one w0 v) (h : WrAt w w0.heap.size b n) :
    Calls Tryz.prog 132 #[.pointer (some ⟨b, 0, none⟩), v] w fun e w' => e = .returned (.tuple #[]) ∧ (∃ k, k ≤ 1000 ∧ WrAt w' w0.heap.size b (n + k)) ∧ WrKept w0.heap.size b w w' := by
  cases one
  · exact (rangesW0 b n hn v w0 w hE hv h).mono fun _ _ ⟨h1, h2, h3⟩ => ⟨h1, ⟨8 + 544, by omega, h2⟩, h3⟩
  · exact (rangesW1 b n hn v w0 w hE hv h).mono fun _ _ ⟨h1, h2, h3⟩ => ⟨h1, ⟨14 + 544, by omega, h2⟩, h3⟩

set_option maxRecDepth 100000 in
set_option maxHeartbeats 1000000 in
theorem entryW (one : Bool) (base : Nat) (hb : base < 64) (b n : Nat) (hn : n ≤ 60000) (A : Option Addr) (m c : Nat) (w0 w : World) (hE : Below w0.heap.size w0 w) (hv : RangesAt one w0 (.slice A m c)) (h : WrAt w w0.heap.size b n) :
    Calls Tryz.prog 84 #[.pointer (some ⟨b, 0, none⟩), .agg #[.int .i64 1, .int .i64 0, .int .i64 0, .int .i64 5, .int .i64 5, .int .i64 0, .int .i64 0, .int .i64 0, .int .i64 (base : Int), .slice A m c]] w fun e w' => e = .returned (.tuple #[]) ∧ (∃ k, k ≤ 2000 ∧ WrAt w' w0.heap.size b (n + k)) ∧ WrKept w0.heap.size b w w' := by
  obtain ⟨X, hX⟩ : ∃ X, X = w.alloc (.cells #[.int .i64 1, .int .i64 0, .int .i64 0, .int .i64 5, .int .i64 5, .int .i64 0, .int .i64 0, .int .i64 0, .int .i64 (base : Int), .slice A m c] 49) := ⟨_, rfl⟩
  have HX := Lib.hid hX
  have HEX := Lib.hid (show Below w.heap.size w X by rw [hX]; exact ext_new _ _)
  have HB := Lib.hid (show Blk X w.heap.size 49 #[.int .i64 1, .int .i64 0, .int .i64 0, .int .i64 5, .int .i64 5, .int .i64 0, .int .i64 0, .int .i64 0, .int .i64 (base : Int), .slice A m c] by rw [hX]; exact Blk.new _ _ _)
  have H := Lib.hid (h.ext HEX.out)
  have K := Lib.hid (WrKept.of_ext (b := b) HEX.out h.1)
  have HE := Lib.hid hE
  have HV := Lib.hid hv
  clear hX h hE hv
  have q0 := HB.out.cell 0; have q1 := HB.out.cell 1; have q2 := HB.out.cell 2; have q3 := HB.out.cell 3; have q4 := HB.out.cell 4; have q5 := HB.out.cell 5; have q6 := HB.out.cell 6; have q7 := HB.out.cell 7; have q8 := HB.out.cell 8; have q9 := HB.out.cell 9
  go_enter Tryz.func84, Tryz.ntmps84
  go_upto_region 1 with (fail)
  rw [← HX.out]
  go_wp2_with fail
  refine (queryW w0.heap.size b n (by omega) X H.out).mono ?_
  rintro e W1 ⟨rfl, h1, k1⟩
  have H1 := Lib.hid h1
  have K1 := Lib.hid (K.out.trans k1)
  have HB1 := Lib.hid (k1.blk HB.out (by decide) (H.out.ne HB.out (by decide)))
  clear h1 k1 q0 q1 q2 q3 q4 q5 q6 q7 q8 q9
  have q0 := HB1.out.cell 0; have q1 := HB1.out.cell 1; have q2 := HB1.out.cell 2; have q3 := HB1.out.cell 3; have q4 := HB1.out.cell 4; have q5 := HB1.out.cell 5; have q6 := HB1.out.cell 6; have q7 := HB1.out.cell 7; have q8 := HB1.out.cell 8; have q9 := HB1.out.cell 9
  go_wp2_with fail
  refine (intsNew w0.heap.size b (n + 7) _ [0, base] (by simp; exact hb) (by simp) (by omega) W1 _ (by rfl) 2 rfl H1.out).mono ?_
  rintro e W2 ⟨rfl, h2, k2⟩
  have H2 := Lib.hid h2
  have K2 := Lib.hid (K1.out.trans k2)
  have HB2 := Lib.hid (k2.blk HB1.out (by decide) (H1.out.ne HB1.out (by decide)))
  clear h2 k2 q0 q1 q2 q3 q4 q5 q6 q7 q8 q9
  have q0 := HB2.out.cell 0; have q1 := HB2.out.cell 1; have q2 := HB2.out.cell 2; have q3 := HB2.out.cell 3; have q4 := HB2.out.cell 4; have q5 := HB2.out.cell 5; have q6 := HB2.out.cell 6; have q7 := HB2.out.cell 7; have q8 := HB2.out.cell 8; have q9 := HB2.out.cell 9
  go_wp2_with fail
  refine (rangesW one b (n + 7 + 2) (by omega) _ w0 W2 (HE.out.trans K2.out.1) HV.out H2.out).mono ?_
  rintro e W3 ⟨rfl, ⟨k, hk, h3⟩, k3⟩
  have H3 := Lib.hid h3
  have K3 := Lib.hid (K2.out.trans k3)
  clear h3 k3 q0 q1 q2 q3 q4 q5 q6 q7 q8 q9
  go_wp2
  go_end0
  exact ⟨rfl, ⟨7 + 2 + k, by omega, by have := H3.out; rwa [show n + 7 + 2 + k = n + (7 + 2 + k) by omega] at this⟩, K3.out⟩

set_option maxRecDepth 100000 in
set_option maxHeartbeats 2000000 in
theorem validEntry_yes (one : Bool) (base : Nat) (hb : base < 64) (A : Option Addr) (m c : Nat) (w : World) (hv : RangesAt one w (.slice A m c)) :
    Calls Tryz.prog 50 #[.agg #[.int .i64 1, .int .i64 0, .int .i64 0, .int .i64 5, .int .i64 5, .int .i64 0, .int .i64 0, .int .i64 0, .int .i64 (base : Int), .slice A m c]] w fun e w' => e = .returned (.bool true) ∧ Below w.heap.size w w' := by
  obtain ⟨X, hX⟩ : ∃ X, X = w.alloc (.cells #[.int .i64 1, .int .i64 0, .int .i64 0, .int .i64 5, .int .i64 5, .int .i64 0, .int .i64 0, .int .i64 0, .int .i64 (base : Int), .slice A m c] 49) := ⟨_, rfl⟩
  have HX := Lib.hid hX
  have HEX := Lib.hid (show Below w.heap.size w X by rw [hX]; exact ext_new _ _)
  have HB := Lib.hid (show Blk X w.heap.size 49 #[.int .i64 1, .int .i64 0, .int .i64 0, .int .i64 5, .int .i64 5, .int .i64 0, .int .i64 0, .int .i64 0, .int .i64 (base : Int), .slice A m c] by rw [hX]; exact Blk.new _ _ _)
  have HV := Lib.hid (hv.ext HEX.out)
  clear hX hv
  have q0 := HB.out.cell 0; have q1 := HB.out.cell 1; have q2 := HB.out.cell 2; have q3 := HB.out.cell 3; have q4 := HB.out.cell 4; have q5 := HB.out.cell 5; have q6 := HB.out.cell 6; have q7 := HB.out.cell 7; have q8 := HB.out.cell 8; have q9 := HB.out.cell 9
  go_enter Tryz.func50, Tryz.ntmps50
  go_wp2_with fail
  rw [← HX.out]
  refine (queryValid1 X).mono ?_
  rintro e W1 ⟨rfl, hb1⟩
  have HE1 := Lib.hid (ext_call HEX.out hb1)
  have HB1 := Lib.hid (HB.out.ext hb1)
  have HV1 := Lib.hid (HV.out.ext hb1)
  clear hb1 q0 q1 q2 q3 q4 q5 q6 q7 q8 q9
  have q0 := HB1.out.cell 0; have q1 := HB1.out.cell 1; have q2 := HB1.out.cell 2; have q3 := HB1.out.cell 3; have q4 := HB1.out.cell 4; have q5 := HB1.out.cell 5; have q6 := HB1.out.cell 6; have q7 := HB1.out.cell 7; have q8 := HB1.out.cell 8; have q9 := HB1.out.cell 9
  go_wp2_with fail
  refine (transportable_yes one _ W1 HV1.out).mono ?_
  rintro e W2 ⟨rfl, hb2⟩
  have HE2 := Lib.hid (ext_call HE1.out hb2)
  have HB2 := Lib.hid (HB1.out.ext hb2)
  have HV2 := Lib.hid (HV1.out.ext hb2)
  clear hb2 q0 q1 q2 q3 q4 q5 q6 q7 q8 q9
  have q0 := HB2.out.cell 0; have q1 := HB2.out.cell 1; have q2 := HB2.out.cell 2; have q3 := HB2.out.cell 3; have q4 := HB2.out.cell 4; have q5 := HB2.out.cell 5; have q6 := HB2.out.cell 6; have q7 := HB2.out.cell 7; have q8 := HB2.out.cell 8; have q9 := HB2.out.cell 9
  have ql := HB2.out.lt
  go_wp2_with (go_at_call 46; refine (mw_yes _ _ _ (by omega) (by omega) _).mono ?_; rintro e w' ⟨rfl, hw'⟩; subst w')
  have H3 := Lib.hid (WrAt.new W2)
  have HE3 := Lib.hid (ext_new W2 (.cells #[.pointer none, .slice none 0 0] 165))
  refine (entryW one base hb W2.heap.size 0 (by omega) A m c W2 _ HE3.out HV2.out H3.out).mono ?_
  rintro e W4 ⟨rfl, ⟨k, hk, h4⟩, k4⟩
  rw [Nat.zero_add] at h4
  have H4 := Lib.hid h4
  have HE4 := Lib.hid (ext_call HE2.out (HE3.out.trans k4.1))
  have d1 : decide ((k : Int) ≤ 60000) = true := by simp; omega
  clear h4 k4 q0 q1 q2 q3 q4 q5 q6 q7 q8 q9
  go_wp2_with fail
  refine (writerLen W2.heap.size W2.heap.size k W4 H4.out).mono ?_
  rintro e w' ⟨rfl, hw'⟩
  subst w'
  go_wp2
  go_ret
  exact ⟨by simp [d1], HE4.out⟩

end Go.Proofs.YtbgfmbmcabekeaaGreatDoor

/-
  package origin: miss, at the law's own message.
-/
namespace Go.Proofs.YtbgfmbmcabekeaaGreatDoor
open Go.RowKit Go.Shelf
attribute [local go_sem ↓] Go.wp_at_zero Go.wp_at_succ

theorem keepMiss {X W : World} {b gs : Nat} {lag : Int} (h : X.cell? ⟨b, 5, none⟩ = some (.int .i64 0) ∧ X.cell? ⟨b, 10, none⟩ = some (.int .i64 1) ∧ X.cell? ⟨b, 11, none⟩ = some (.int .i64 0) ∧ X.cell? ⟨b, 12, none⟩ = some (.int .i64 0) ∧ X.cell? ⟨b, 13, none⟩ = some (.int .i64 5) ∧ X.cell? ⟨b, 14, none⟩ = some (.int .i64 5) ∧ X.cell? ⟨b, 15, none⟩ = some (.int .i64 0) ∧ X.cell? ⟨b, 16, none⟩ = some (.int .i64 0) ∧ X.cell? ⟨gs, 3, none⟩ = some (.int .i64 lag)) (k : Below X.heap.size X W) : W.cell? ⟨b, 5, none⟩ = some (.int .i64 0) ∧ W.cell? ⟨b, 10, none⟩ = some (.int .i64 1) ∧ W.cell? ⟨b, 11, none⟩ = some (.int .i64 0) ∧ W.cell? ⟨b, 12, none⟩ = some (.int .i64 0) ∧ W.cell? ⟨b, 13, none⟩ = some (.int .i64 5) ∧ W.cell? ⟨b, 14, none⟩ = some (.int .i64 5) ∧ W.cell? ⟨b, 15, none⟩ = some (.int .i64 0) ∧ W.cell? ⟨b, 16, none⟩ = some (.int .i64 0) ∧ W.cell? ⟨gs, 3, none⟩ = some (.int .i64 lag) ∧ Below X.heap.size X W := ⟨cell_ext h.1 k, cell_ext h.2.1 k, cell_ext h.2.2.1 k, cell_ext h.2.2.2.1 k, cell_ext h.2.2.2.2.1 k, cell_ext h.2.2.2.2.2.1 k, cell_ext h.2.2.2.2.2.2.1 k, cell_ext h.2.2.2.2.2.2.2.1 k, cell_ext h.2.2.2.2.2.2.2.2 k, k⟩
theorem keepMissE {X W : World} {b gs : Nat} {lag : Int} (h : W.cell? ⟨b, 5, none⟩ = some (.int .i64 0) ∧ W.cell? ⟨b, 10, none⟩ = some (.int .i64 1) ∧ W.cell? ⟨b, 11, none⟩ = some (.int .i64 0) ∧ W.cell? ⟨b, 12, none⟩ = some (.int .i64 0) ∧ W.cell? ⟨b, 13, none⟩ = some (.int .i64 5) ∧ W.cell? ⟨b, 14, none⟩ = some (.int .i64 5) ∧ W.cell? ⟨b, 15, none⟩ = some (.int .i64 0) ∧ W.cell? ⟨b, 16, none⟩ = some (.int .i64 0) ∧ W.cell? ⟨gs, 3, none⟩ = some (.int .i64 lag) ∧ Below X.heap.size X W) : Below X.heap.size X W := h.2.2.2.2.2.2.2.2.2

theorem make_any (one : Bool) (gs gm : Nat) (pos : Int) (w : World) (hS : StateIs w one gs gm pos) (hR : RoundOK w) :
    Calls Tryz.prog 141 #[.pointer (some ⟨gs, 0, none⟩), .agg #[.int .i64 1, .int .i64 0, .int .i64 0, .int .i64 5, .int .i64 5, .int .i64 0, .int .i64 0]] w fun e w' => ∃ v, e = .returned (.tuple #[v, .int .i64 0]) ∧ RangesAt one w' v ∧ Below w.heap.size w w' := by
  cases one
  · exact make0 gs gm pos w hS hR
  · exact make1 gs gm pos w hS hR
theorem RangesAt.setEnt {one : Bool} {W : World} {v : Value} {eb : Nat} {A : Option Addr} {n c : Nat} {q : Int} (h : RangesAt one W v) (hb : Blk W eb 49 #[.int .i64 1, .int .i64 0, .int .i64 0, .int .i64 5, .int .i64 5, .int .i64 0, .int .i64 0, .int .i64 0, .int .i64 q, .slice A n c]) (u : Value) : RangesAt one (W.setCell ⟨eb, 9, none⟩ u) v := by
  have hs : ∀ (b o : Nat) (x : ByteArray), W.cell? ⟨b, o, none⟩ = some (.string x) → b ≠ eb := by
    rintro b o x h1 rfl
    rw [hb.cell] at h1
    match o, h1 with
    | 0, h1 => simp at h1
    | 1, h1 => simp at h1
    | 2, h1 => simp at h1
    | 3, h1 => simp at h1
    | 4, h1 => simp at h1
    | 5, h1 => simp at h1
    | 6, h1 => simp at h1
    | 7, h1 => simp at h1
    | 8, h1 => simp at h1
    | 9, h1 => simp at h1
    | (k + 10), h1 => simp at h1
  have hst : ∀ {T : Nat → Prop} {v : Value} {l : List ByteArray}, Strs T W v l → Strs T (W.setCell ⟨eb, 9, none⟩ u) v l := by
    rintro T v l ⟨B, d, rfl, hc, h⟩
    refine ⟨B, d, rfl, hc, fun h0 => ?_⟩
    obtain ⟨b, off, hB, hS, hcell⟩ := h h0
    exact ⟨b, off, hB, hS, fun j x hx => (World.cell?_of_block (Below.heap_setCell W ⟨eb, 9, none⟩ u b (hs b _ x (hcell j x hx)))).trans (hcell j x hx)⟩
  obtain ⟨g, c', va, zs, h1, h2, h3, h4⟩ := h
  refine ⟨g, c', va, zs, h1, h2, h3.far (blkNe h3 hb (by decide)) _, ?_⟩
  cases one
  · obtain ⟨v8, q1, q2⟩ := h4
    exact ⟨v8, q1, hst q2⟩
  · obtain ⟨v6, v7, v8, q1, q2, ⟨g2, c2, A0, c0, ys, p1, p2, p3⟩, q4⟩ := h4
    refine ⟨v6, v7, v8, q1, ?_, ⟨g2, c2, A0, c0, ys, p1, p2, p3.far (blkNe p3 hb (by decide)) _⟩, hst q4⟩
    rcases q2 with h | ⟨r1, g3, c3, ws, r2, r3, r4⟩
    · exact .inl h
    · exact .inr ⟨r1, g3, c3, ws, r2, r3, r4.far (blkNe r4 hb (by decide)) _⟩

attribute [local go_sem ↓] bd_exec bd_sem bs_exec bs_sem
set_option maxRecDepth 100000 in
set_option maxHeartbeats 4000000 in
theorem miss_any (one : Bool) (q : Nat) (hq : q = if one then 1 else 0) (lag : Int) (hlag : lag = if one then 0 else 1) (gs gl gst gn gp np cp nm cm no co : Nat) (er sent : Int) (Am Ao : Option Addr) (w : World) (hR : RoundOK w) (hs : SrvAt w gs gl gst gn gp np cp lag er sent Am nm cm Ao no co) (ho : OneRec w gl) :
    Calls Tryz.prog 92 #[.pointer (some ⟨gs, 0, none⟩), .agg #[.int .i64 7, .int .i64 2, .int .i64 100, .int .i64 0, .int .i64 0, .int .i64 0, .int .i64 7, .int .i64 0, .int .i64 0, .int .i64 0, .int .i64 1, .int .i64 0, .int .i64 0, .int .i64 5, .int .i64 5, .int .i64 0, .int .i64 0, .int .i64 0, .slice none 0 0, .int .i64 0, .int .i64 0, .int .i64 0, .int .i64 0, .int .i64 0, .int .i64 0, .int .i64 0, .int .i64 0, .int .i64 0, .slice none 0 0, .int .i64 0, .int .i64 0, .int .i64 0, .int .i64 0, .int .i64 0, .int .i64 0, .int .i64 0, .slice none 0 0, .int .i64 0, .bool false, .int .i64 0, .int .i64 0, .int .i64 0, .slice none 0 0, .slice none 0 0, .int .i64 0, .slice none 0 0, .slice none 0 0]] w fun e w' => ∃ g A n1 c1, e = .returned (.slice (some ⟨g, 0, none⟩) 1 1) ∧ Blk w' g 57 #[.int .i64 8, .int .i64 100, .int .i64 2, .int .i64 0, .int .i64 0, .int .i64 0, .int .i64 7, .int .i64 0, .int .i64 0, .int .i64 0, .int .i64 0, .int .i64 0, .int .i64 0, .int .i64 0, .int .i64 0, .int .i64 0, .int .i64 0, .int .i64 0, .slice none 0 0, .int .i64 1, .int .i64 0, .int .i64 0, .int .i64 5, .int .i64 5, .int .i64 0, .int .i64 0, .int .i64 0, .int .i64 (q : Int), .slice A n1 c1, .int .i64 0, .int .i64 0, .int .i64 0, .int .i64 0, .int .i64 0, .int .i64 0, .int .i64 0, .slice none 0 0, .int .i64 0, .bool false, .int .i64 0, .int .i64 0, .int .i64 0, .slice none 0 0, .slice none 0 0, .int .i64 0, .slice none 0 0, .slice none 0 0] ∧ Below w.heap.size w w' := by
  obtain ⟨va, hva⟩ : ∃ va : Array Value, va = #[.int .i64 7, .int .i64 2, .int .i64 100, .int .i64 0, .int .i64 0, .int .i64 0, .int .i64 7, .int .i64 0, .int .i64 0, .int .i64 0, .int .i64 1, .int .i64 0, .int .i64 0, .int .i64 5, .int .i64 5, .int .i64 0, .int .i64 0, .int .i64 0, .slice none 0 0, .int .i64 0, .int .i64 0, .int .i64 0, .int .i64 0, .int .i64 0, .int .i64 0, .int .i64 0, .int .i64 0, .int .i64 0, .slice none 0 0, .int .i64 0, .int .i64 0, .int .i64 0, .int .i64 0, .int .i64 0, .int .i64 0, .int .i64 0, .slice none 0 0, .int .i64 0, .bool false, .int .i64 0, .int .i64 0, .int .i64 0, .slice none 0 0, .slice none 0 0, .int .i64 0, .slice none 0 0, .slice none 0 0] := ⟨_, rfl⟩
  obtain ⟨X, hX⟩ : ∃ X, X = w.alloc (.cells va 57) := ⟨_, rfl⟩
  have HX := Lib.hid hX
  have HE := Lib.hid (show Below w.heap.size w X by rw [hX]; exact ext_new _ _)
  have HB := Lib.hid (show Blk X w.heap.size 57 va by rw [hX]; exact Blk.new _ _ _)
  have HVA := Lib.hid hva
  have HS := Lib.hid (hs.ext HE.out)
  have HO := Lib.hid (ho.ext HE.out)
  have HR := Lib.hid hR
  have hsx := hs.ext HE.out
  have s3 : X.cell? ⟨gs, 3, none⟩ = some (.int .i64 lag) := Blk.cell hsx 3
  rw [← hva]
  clear hX hva hs ho hR hsx
  have a5 := (HB.out.cell 5).trans (show _ = some (.int .i64 0) by rw [HVA.out]; rfl)
  have a10 := (HB.out.cell 10).trans (show _ = some (.int .i64 1) by rw [HVA.out]; rfl)
  have a11 := (HB.out.cell 11).trans (show _ = some (.int .i64 0) by rw [HVA.out]; rfl)
  have a12 := (HB.out.cell 12).trans (show _ = some (.int .i64 0) by rw [HVA.out]; rfl)
  have a13 := (HB.out.cell 13).trans (show _ = some (.int .i64 5) by rw [HVA.out]; rfl)
  have a14 := (HB.out.cell 14).trans (show _ = some (.int .i64 5) by rw [HVA.out]; rfl)
  have a15 := (HB.out.cell 15).trans (show _ = some (.int .i64 0) by rw [HVA.out]; rfl)
  have a16 := (HB.out.cell 16).trans (show _ = some (.int .i64 0) by rw [HVA.out]; rfl)
  have HK := Lib.hid (show X.cell? ⟨w.heap.size, 5, none⟩ = some (.int .i64 0) ∧ X.cell? ⟨w.heap.size, 10, none⟩ = some (.int .i64 1) ∧ X.cell? ⟨w.heap.size, 11, none⟩ = some (.int .i64 0) ∧ X.cell? ⟨w.heap.size, 12, none⟩ = some (.int .i64 0) ∧ X.cell? ⟨w.heap.size, 13, none⟩ = some (.int .i64 5) ∧ X.cell? ⟨w.heap.size, 14, none⟩ = some (.int .i64 5) ∧ X.cell? ⟨w.heap.size, 15, none⟩ = some (.int .i64 0) ∧ X.cell? ⟨w.heap.size, 16, none⟩ = some (.int .i64 0) ∧ X.cell? ⟨gs, 3, none⟩ = some (.int .i64 lag) from ⟨a5, a10, a11, a12, a13, a14, a15, a16, s3⟩)
  have HP := Lib.hid (fun (W : World) (k : Below X.heap.size X W) => srvPosC gs gl W (Blk.cell (HS.out.ext k) 0) (HO.out.ext k))
  have hq64 : q < 64 := by rw [hq]; cases one <;> decide
  have hqi : (q : Int) = if one then 1 else 0 := by rw [hq]; cases one <;> rfl
  have hmx : max (IntKind.i64.wrap (1 - lag)) 0 = (q : Int) := by rw [hqi]; subst hlag; cases one <;> decide
  have hmx2 : max (1 - lag) 0 = (q : Int) := by rw [hqi]; subst hlag; cases one <;> decide
  have hwr : IntKind.i64.wrap (1 - lag) = 1 - lag := by subst hlag; cases one <;> decide
  have HQ := Lib.hid hqi
  clear hlag hq hqi
  go_enter Tryz.func92, Tryz.ntmps92
  go_upto_region 1 with (fail)
  rw [← HX.out]
  go_region_held3 (fun w' => w'.cell? ⟨w.heap.size, 5, none⟩ = some (.int .i64 0) ∧ w'.cell? ⟨w.heap.size, 10, none⟩ = some (.int .i64 1) ∧ w'.cell? ⟨w.heap.size, 11, none⟩ = some (.int .i64 0) ∧ w'.cell? ⟨w.heap.size, 12, none⟩ = some (.int .i64 0) ∧ w'.cell? ⟨w.heap.size, 13, none⟩ = some (.int .i64 5) ∧ w'.cell? ⟨w.heap.size, 14, none⟩ = some (.int .i64 5) ∧ w'.cell? ⟨w.heap.size, 15, none⟩ = some (.int .i64 0) ∧ w'.cell? ⟨w.heap.size, 16, none⟩ = some (.int .i64 0) ∧ w'.cell? ⟨gs, 3, none⟩ = some (.int .i64 lag) ∧ Below X.heap.size X w')
    (first | with_reducible assumption | exact keepMiss HK.out (by repeat (first | with_reducible refine ext_alloc ?_ _ | with_reducible refine Below.drew ?_ | with_reducible assumption | with_reducible exact ext_refl _ | refine ext_set ?_ (Nat.le_refl _) _)))
    (first | (go_at_call 16; (with_reducible refine (HP.out _ ?_).mono ?_); (exact keepMissE (by assumption)); rintro e w9 ⟨rfl, hw9⟩; subst w9))
  all_goals
    clear a5 a10 a11 a12 a13 a14 a15 a16 s3 hmx hmx2 hwr
    obtain ⟨Y, hY⟩ : ∃ Y, Y = (X.alloc (.cells #[.int .i64 1, .int .i64 0, .int .i64 0, .int .i64 5, .int .i64 5, .int .i64 0, .int .i64 0, .int .i64 0, .int .i64 (q : Int), .slice none 0 0] 49)).drew := ⟨_, rfl⟩
    rw [← hY]
    have HEY := Lib.hid (show Below X.heap.size X Y by rw [hY]; exact (ext_new X _).drew)
    have HN := Lib.hid (show Blk Y X.heap.size 49 #[.int .i64 1, .int .i64 0, .int .i64 0, .int .i64 5, .int .i64 5, .int .i64 0, .int .i64 0, .int .i64 0, .int .i64 (q : Int), .slice none 0 0] by rw [hY]; exact Blk.drew (Blk.new X _ _))
    have hbX : w.heap.size < X.heap.size := HB.out.lt
    clear hY
    generalize X.heap.size = eb at HN hbX ⊢
    have q8 := HN.out.cell 8
    have HSt := Lib.hid (show Calls Tryz.prog 25 #[.pointer (some ⟨gs, 0, none⟩), .int .i64 (q : Int)] Y fun e w' => ∃ g m, e = .returned (.tuple #[.pointer (some ⟨g, 0, none⟩), .bool true]) ∧ StateIs w' one g m (q : Int) ∧ Below Y.heap.size Y w' by
      rw [HQ.out]
      exact srvState one gs gl Y (Blk.cell (HS.out.ext HEY.out) 0) (HO.out.ext HEY.out))
    go_wp2_with fail
    refine HSt.out.mono ?_
    rintro e W1 ⟨g, m, rfl, hs1, hb1⟩
    have HE1 := Lib.hid (ext_call HEY.out hb1)
    have HN1 := Lib.hid (HN.out.ext hb1)
    have HS1 := Lib.hid hs1
    have HRR := Lib.hid (HR.out.below (ext_call HE.out HE1.out))
    clear hs1 hb1 q8 HSt
    have HB1 := Lib.hid (HB.out.ext HE1.out)
    have a10 := (HB1.out.cell 10).trans (show _ = some (.int .i64 1) by rw [HVA.out]; rfl)
    have a11 := (HB1.out.cell 11).trans (show _ = some (.int .i64 0) by rw [HVA.out]; rfl)
    have a12 := (HB1.out.cell 12).trans (show _ = some (.int .i64 0) by rw [HVA.out]; rfl)
    have a13 := (HB1.out.cell 13).trans (show _ = some (.int .i64 5) by rw [HVA.out]; rfl)
    have a14 := (HB1.out.cell 14).trans (show _ = some (.int .i64 5) by rw [HVA.out]; rfl)
    have a15 := (HB1.out.cell 15).trans (show _ = some (.int .i64 0) by rw [HVA.out]; rfl)
    have a16 := (HB1.out.cell 16).trans (show _ = some (.int .i64 0) by rw [HVA.out]; rfl)
    go_wp2_with fail
    refine (make_any one g m _ W1 HS1.out HRR.out).mono ?_
    rintro e W2 ⟨v, rfl, hra, hb2⟩
    have HE2 := Lib.hid (ext_call HE1.out hb2)
    have HN2 := Lib.hid (HN1.out.ext hb2)
    have HRA := Lib.hid hra
    obtain ⟨gv, cv, _, _, rfl, _⟩ := hra
    clear hb2 a10 a11 a12 a13 a14 a15 a16
    have HU := Lib.hid (show RangesAt one (W2.setCell ⟨eb, 9, none⟩ (.slice (some ⟨gv, 0, none⟩) 1 cv)) (.slice (some ⟨gv, 0, none⟩) 1 cv) from HRA.out.setEnt HN2.out _)
    have HNU := Lib.hid (show Blk (W2.setCell ⟨eb, 9, none⟩ (.slice (some ⟨gv, 0, none⟩) 1 cv)) eb 49 #[.int .i64 1, .int .i64 0, .int .i64 0, .int .i64 5, .int .i64 5, .int .i64 0, .int .i64 0, .int .i64 0, .int .i64 (q : Int), .slice (some ⟨gv, 0, none⟩) 1 cv] by have h9 := HN2.out.set_ 9 (.slice (some ⟨gv, 0, none⟩) 1 cv); exact h9)
    have HBU := Lib.hid (show Blk (W2.setCell ⟨eb, 9, none⟩ (.slice (some ⟨gv, 0, none⟩) 1 cv)) w.heap.size 57 va from (HB.out.ext HE2.out).far (by show w.heap.size ≠ eb; omega) _)
    have HEU := Lib.hid (show Below w.heap.size w (W2.setCell ⟨eb, 9, none⟩ (.slice (some ⟨gv, 0, none⟩) 1 cv)) from ext_set (ext_call HE.out HE2.out) (by show w.heap.size ≤ eb; omega) _)
    have n9 := HN2.out.cell 9
    have f9 := HN2.out.frozen 9
    have HSW := Lib.hid (fun U => show U = W2.setCell ⟨eb, 9, none⟩ (.slice (some ⟨gv, 0, none⟩) 1 cv) → True from fun _ => trivial)
    go_upto_region 5 with (fail)
    clear n9 f9
    generalize W2.setCell ⟨eb, 9, none⟩ (.slice (some ⟨gv, 0, none⟩) 1 cv) = U at HU HNU HBU HEU ⊢
    have n0 := HNU.out.cell 0; have n1 := HNU.out.cell 1; have n2 := HNU.out.cell 2; have n3 := HNU.out.cell 3; have n4 := HNU.out.cell 4; have n5 := HNU.out.cell 5; have n6 := HNU.out.cell 6; have n7 := HNU.out.cell 7; have n8 := HNU.out.cell 8; have n9 := HNU.out.cell 9
    go_wp2_with fail
    refine (validEntry_yes one q hq64 _ 1 cv U HU.out).mono ?_
    rintro e Z ⟨rfl, hbz⟩
    have HNZ := Lib.hid (HNU.out.ext hbz)
    have HBZ := Lib.hid (HBU.out.ext hbz)
    have HEZ := Lib.hid (ext_call HEU.out hbz)
    clear hbz n0 n1 n2 n3 n4 n5 n6 n7 n8 n9
    have n0 := HNZ.out.cell 0; have n1 := HNZ.out.cell 1; have n2 := HNZ.out.cell 2; have n3 := HNZ.out.cell 3; have n4 := HNZ.out.cell 4; have n5 := HNZ.out.cell 5; have n6 := HNZ.out.cell 6; have n7 := HNZ.out.cell 7; have n8 := HNZ.out.cell 8; have n9 := HNZ.out.cell 9
    have a1 := (HBZ.out.cell 1).trans (show _ = some (.int .i64 2) by rw [HVA.out]; rfl)
    have a6 := (HBZ.out.cell 6).trans (show _ = some (.int .i64 7) by rw [HVA.out]; rfl)
    obtain ⟨oa, hoa⟩ : ∃ oa : Array Value, oa = #[.int .i64 8, .int .i64 100, .int .i64 2, .int .i64 0, .int .i64 0, .int .i64 0, .int .i64 7, .int .i64 0, .int .i64 0, .int .i64 0, .int .i64 0, .int .i64 0, .int .i64 0, .int .i64 0, .int .i64 0, .int .i64 0, .int .i64 0, .int .i64 0, .slice none 0 0, .int .i64 1, .int .i64 0, .int .i64 0, .int .i64 5, .int .i64 5, .int .i64 0, .int .i64 0, .int .i64 0, .int .i64 (q : Int), .slice (some ⟨gv, 0, none⟩) 1 cv, .int .i64 0, .int .i64 0, .int .i64 0, .int .i64 0, .int .i64 0, .int .i64 0, .int .i64 0, .slice none 0 0, .int .i64 0, .bool false, .int .i64 0, .int .i64 0, .int .i64 0, .slice none 0 0, .slice none 0 0, .int .i64 0, .slice none 0 0, .slice none 0 0] := ⟨_, rfl⟩
    have hos : oa.size = 47 := by rw [hoa]; rfl
    obtain ⟨d1, e1⟩ := bd_of Z (P := Tryz.prog) (t := 57) (ps := #[(0, .int .i64 8), (1, .int .i64 100), (2, .int .i64 2), (6, .int .i64 7), (12, .agg #[.int .i64 1, .int .i64 0, .int .i64 0, .int .i64 5, .int .i64 5, .int .i64 0, .int .i64 0, .int .i64 0, .int .i64 (q : Int), .slice (some ⟨gv, 0, none⟩) 1 cv])]) (cs := oa) (by rw [hoa]; kernel_rfl)
    obtain ⟨d2, e2⟩ := bs_of Z (msg_slice oa hos)
    have HOA := Lib.hid hoa
    clear hoa
    go_wp2
    go_ret
    refine ⟨Z.heap.size, some ⟨gv, 0, none⟩, 1, cv, rfl, ?_, ext_alloc HEZ.out _⟩
    have h9 := Blk.new Z 57 oa
    rw [HOA.out] at h9 ⊢
    exact h9

end Go.Proofs.YtbgfmbmcabekeaaGreatDoor
