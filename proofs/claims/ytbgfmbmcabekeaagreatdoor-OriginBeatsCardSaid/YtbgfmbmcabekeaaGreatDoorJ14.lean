/-
  Part 14 of 17: the contracts that the proof of the last part uses; each stands under its own head.
-/
import Derived.Shelf.SlSortCmp.WholeK
import Derived.Ground.SlsfProg
import Derived.Test.YtbgfmbmcabekeaaGreatDoorProg
import Derived.Test.YtbgfmbmcabekeaaGreatDoorJ13
import Derived.Test.YtbgfmbmcabekeaaGreatDoorJ3
import Derived.Test.YtbgfmbmcabekeaaGreatDoorJ5
import Derived.Test.YtbgfmbmcabekeaaGreatDoorJ8
set_option linter.unusedSimpArgs false
set_option linter.unusedVariables false

/-
  DERIVED: THE SHELF's CONTRACTS AT THIS DUMP, IN PLAIN WORDS (tools/lay-plain.mjs out of 'TryzSortShelf.lean', which tools/lay-shelf.mjs wrote): THE SAME DECLARATIONS UNDER THE SAME NAMES: 'import', 'namespace', 'open', 'def', 'theorem' AND NOTHING ELSE: no command of the shelf's: FOR A HAND-IN. Each laying: the table of numbers ('.._ren') and one theorem, a field a fact of the dump's own or the kernel's comparison; each contract: ONE APPLICATION.
-/
namespace Go.Proofs
open Go.Shelf
def Tryz.sortRows_ren : Go.Shelf.Ren := ⟨fun | 6 => 212 | 15 => 192 | 14 => 216 | 28 => 210 | 29 => 211 | 20 => 218 | 21 => 219 | 22 => 220 | 23 => 221 | 24 => 222 | 25 => 223 | 26 => 224 | 27 => 225 | 46 => 226 | 47 => 227 | 48 => 228 | 49 => 229 | 50 => 230 | 57 => 231 | n => n, fun | 22 => 50 | 24 => 77 | 25 => 310 | 3 => 3 | 39 => 190 | 0 => 0 | 53 => 235 | 55 => 248 | 4 => 4 | 46 => 314 | 45 => 313 | 50 => 318 | 5 => 5 | 9 => 9 | 66 => 320 | 70 => 324 | 76 => 326 | 77 => 327 | n => n, fun | n => n⟩
theorem Tryz.sortRows : Go.Proofs.SlLaysF0.n6 Tryz.prog Tryz.sortRows_ren := {
  mixed := by kernel_rfl
  f6 := ⟨Tryz.f212.name, by decide, Tryz.func212.trans (congrArg some (by kernel_rfl))⟩
  f14 := ⟨Tryz.f216.name, by decide, Tryz.func216.trans (congrArg some (by kernel_rfl))⟩
  f15 := Tryz.func192.trans (congrArg some (by kernel_rfl))
  f20 := ⟨Tryz.f218.name, by decide, Tryz.func218.trans (congrArg some (by kernel_rfl))⟩
  f21 := ⟨Tryz.f219.name, by decide, Tryz.func219.trans (congrArg some (by kernel_rfl))⟩
  f22 := ⟨Tryz.f220.name, by decide, Tryz.func220.trans (congrArg some (by kernel_rfl))⟩
  f23 := ⟨Tryz.f221.name, by decide, Tryz.func221.trans (congrArg some (by kernel_rfl))⟩
  f24 := ⟨Tryz.f222.name, by decide, Tryz.func222.trans (congrArg some (by kernel_rfl))⟩
  f25 := ⟨Tryz.f223.name, by decide, Tryz.func223.trans (congrArg some (by kernel_rfl))⟩
  f26 := ⟨Tryz.f224.name, by decide, Tryz.func224.trans (congrArg some (by kernel_rfl))⟩
  f27 := ⟨Tryz.f225.name, by decide, Tryz.func225.trans (congrArg some (by kernel_rfl))⟩
  f28 := Tryz.func210.trans (congrArg some (by kernel_rfl))
  f29 := Tryz.func211.trans (congrArg some (by kernel_rfl))
  f46 := ⟨Tryz.f226.name, by decide, Tryz.func226.trans (congrArg some (by kernel_rfl))⟩
  f47 := Tryz.func227.trans (congrArg some (by kernel_rfl))
  f48 := Tryz.func228.trans (congrArg some (by kernel_rfl))
  f49 := ⟨Tryz.f229.name, by decide, Tryz.func229.trans (congrArg some (by kernel_rfl))⟩
  f50 := ⟨Tryz.f230.name, by decide, Tryz.func230.trans (congrArg some (by kernel_rfl))⟩
  f57 := ⟨Tryz.f231.name, by decide, Tryz.func231.trans (congrArg some (by kernel_rfl))⟩
  t0 := Tryz.underlying0
  a0 := Tryz.isAgg0
  z0 := Tryz.sizeOf0
  v0 := Tryz.zeroValue0
  t3 := Tryz.underlying3
  a3 := Tryz.isAgg3
  z3 := Tryz.sizeOf3
  v3 := Tryz.zeroValue3
  t4 := Tryz.underlying4
  a4 := Tryz.isAgg4
  z4 := Tryz.sizeOf4
  v4 := Tryz.zeroValue4
  t5 := Tryz.underlying5
  a5 := Tryz.isAgg5
  z5 := Tryz.sizeOf5
  v5 := Tryz.zeroValue5
  t9 := Tryz.underlying9
  a9 := Tryz.isAgg9
  z9 := Tryz.sizeOf9
  v9 := Tryz.zeroValue9
  t22 := Tryz.underlying50
  a22 := Tryz.isAgg50
  z22 := Tryz.sizeOf50
  v22 := Tryz.zeroValue50
  t25 := Tryz.underlying310
  a25 := Tryz.isAgg310
  z25 := Tryz.sizeOf310
  v25 := Tryz.zeroValue310
  t39 := Tryz.underlying190
  a39 := Tryz.isAgg190
  z39 := Tryz.sizeOf190
  v39 := Tryz.zeroValue190
  t45 := Tryz.underlying313
  a45 := Tryz.isAgg313
  z45 := Tryz.sizeOf313
  v45 := Tryz.zeroValue313
  t46 := Tryz.underlying314
  a46 := Tryz.isAgg314
  z46 := Tryz.sizeOf314
  v46 := Tryz.zeroValue314
  t50 := Tryz.underlying318
  a50 := Tryz.isAgg318
  z50 := Tryz.sizeOf318
  v50 := Tryz.zeroValue318
  t53 := Tryz.underlying235
  a53 := Tryz.isAgg235
  z53 := Tryz.sizeOf235
  v53 := Tryz.zeroValue235
  t55 := Tryz.underlying248
  a55 := Tryz.isAgg248
  z55 := Tryz.sizeOf248
  v55 := Tryz.zeroValue248
  t66 := Tryz.underlying320
  a66 := Tryz.isAgg320
  z66 := Tryz.sizeOf320
  v66 := Tryz.zeroValue320
  t70 := Tryz.underlying324
  a70 := Tryz.isAgg324
  z70 := Tryz.sizeOf324
  v70 := Tryz.zeroValue324
  t76 := Tryz.underlying326
  a76 := Tryz.isAgg326
  z76 := Tryz.sizeOf326
  v76 := Tryz.zeroValue326
  t77 := Tryz.underlying327
  a77 := Tryz.isAgg327
  z77 := Tryz.sizeOf327
  v77 := Tryz.zeroValue327 }
end Go.Proofs

/-
  package store: the comparison by which chosen sorts; slices.SortFunc at rows.
-/
namespace Go.Proofs.YtbgfmbmcabekeaaGreatDoor
open Go.RowKit Go.Shelf Go.Lib Go.Sort
attribute [local go_sem ↓] Go.wp_at_zero Go.wp_at_succ

set_option maxHeartbeats 400000 in
theorem rowValueA (r : RowT) (j : Nat) (hj : j < 4) (w : World) :
    Calls Tryz.prog 166 #[.agg #[.int .i64 r.t, .int .i64 r.k, .int .i64 r.a, .int .i64 r.b, .int .i64 r.c], .int .i64 (j : Int)] w fun e w' => e = .returned (.int .i64 (r.col j)) ∧ w' = w.alloc (.cells #[.int .i64 r.t, .int .i64 r.k, .int .i64 r.a, .int .i64 r.b, .int .i64 r.c] 77) := by
  obtain ⟨t, k, a, b, c⟩ := r
  match j, hj with
  | 0, _ =>
    go_enter Tryz.func166, Tryz.ntmps166
    go_wp2
    go_ret
    exact ⟨rfl, rfl⟩
  | 1, _ =>
    go_enter Tryz.func166, Tryz.ntmps166
    go_wp2
    go_ret
    exact ⟨rfl, rfl⟩
  | 2, _ =>
    go_enter Tryz.func166, Tryz.ntmps166
    go_wp2
    go_ret
    exact ⟨rfl, rfl⟩
  | 3, _ =>
    go_enter Tryz.func166, Tryz.ntmps166
    go_wp2
    go_ret
    exact ⟨rfl, rfl⟩

/-- draws and new blocks, no more -/
def GrowsFrom (X W : World) : Prop := ∃ q os, W = grow (X.drewN q) os
section
variable {X W V : World}
theorem GrowsFrom.refl (X : World) : GrowsFrom X X := ⟨0, #[], by rw [grow_empty]; rfl⟩
theorem GrowsFrom.alloc (h : GrowsFrom X W) (o : Obj) : GrowsFrom X (W.alloc o) := by
  obtain ⟨q, os, rfl⟩ := h
  exact ⟨q, os ++ #[o], by rw [alloc_eq_grow, grow_grow]⟩
theorem GrowsFrom.drew (h : GrowsFrom X W) : GrowsFrom X W.drew := by
  obtain ⟨q, os, rfl⟩ := h
  exact ⟨q + 1, os, rfl⟩
theorem GrowsFrom.below (h : GrowsFrom X W) : Below X.heap.size X W := by
  obtain ⟨q, os, rfl⟩ := h
  exact ⟨rfl, rfl, rfl, by simp [grow, World.drewN], fun k hk => by simp only [grow, World.drewN]; rw [Array.getElem?_append_left hk]⟩
end

set_option maxHeartbeats 1000000 in
theorem cmpOr2 (b c : Nat) (x y r : Int) (hr : r = if x = 0 then y else x) (w : World) (h0 : w.cell? ⟨b, 0, none⟩ = some (.int .i64 x)) (h1 : w.cell? ⟨b, 1, none⟩ = some (.int .i64 y)) : Calls Tryz.prog 214 #[.slice (some ⟨b, 0, none⟩) 2 c] w fun e w' => e = .returned (.int .i64 r) ∧ w = w' := by
  have HR := Lib.hid hr
  clear hr
  go_enter Tryz.func214, Tryz.ntmps214
  go_wp2
  refine wp_loop_rounds 3 ?_
  rw [rounds_succ]
  by_cases hx : x = 0
  · subst hx
    go_wp2
    rw [rounds_succ]
    by_cases hy : y = 0
    · subst hy
      go_wp2
      rw [rounds_succ]
      go_wp2
      go_ret
      exact ⟨by rw [HR.out]; simp, rfl⟩
    · go_wp2
      go_ret
      exact ⟨by rw [HR.out]; simp, rfl⟩
  · go_wp2
    go_ret
    exact ⟨by rw [HR.out]; simp [hx], rfl⟩

/-- how two rows compare: by a column, then by their keys -/
def cmpR (j : Nat) (x y : RowT) : Int := if compareInt (x.col j) (y.col j) = 0 then compareInt x.k y.k else compareInt (x.col j) (y.col j)
def encR (r : RowT) : List Value := [.int .i64 r.t, .int .i64 r.k, .int .i64 r.a, .int .i64 r.b, .int .i64 r.c]

theorem cmpKeep {X V : World} {bc b d : Nat} {j t1 k1 a1 b1 c1 t2 k2 a2 b2 c2 : Int} (h : X.cell? ⟨bc, 0, none⟩ = some (.int .i64 j) ∧ X.cell? ⟨b, 0, none⟩ = some (.int .i64 t1) ∧ X.cell? ⟨b, 1, none⟩ = some (.int .i64 k1) ∧ X.cell? ⟨b, 2, none⟩ = some (.int .i64 a1) ∧ X.cell? ⟨b, 3, none⟩ = some (.int .i64 b1) ∧ X.cell? ⟨b, 4, none⟩ = some (.int .i64 c1) ∧ X.cell? ⟨d, 0, none⟩ = some (.int .i64 t2) ∧ X.cell? ⟨d, 1, none⟩ = some (.int .i64 k2) ∧ X.cell? ⟨d, 2, none⟩ = some (.int .i64 a2) ∧ X.cell? ⟨d, 3, none⟩ = some (.int .i64 b2) ∧ X.cell? ⟨d, 4, none⟩ = some (.int .i64 c2)) (k : GrowsFrom X V) : V.cell? ⟨bc, 0, none⟩ = some (.int .i64 j) ∧ V.cell? ⟨b, 0, none⟩ = some (.int .i64 t1) ∧ V.cell? ⟨b, 1, none⟩ = some (.int .i64 k1) ∧ V.cell? ⟨b, 2, none⟩ = some (.int .i64 a1) ∧ V.cell? ⟨b, 3, none⟩ = some (.int .i64 b1) ∧ V.cell? ⟨b, 4, none⟩ = some (.int .i64 c1) ∧ V.cell? ⟨d, 0, none⟩ = some (.int .i64 t2) ∧ V.cell? ⟨d, 1, none⟩ = some (.int .i64 k2) ∧ V.cell? ⟨d, 2, none⟩ = some (.int .i64 a2) ∧ V.cell? ⟨d, 3, none⟩ = some (.int .i64 b2) ∧ V.cell? ⟨d, 4, none⟩ = some (.int .i64 c2) ∧ GrowsFrom X V := by
  obtain ⟨h0, h1, h2, h3, h4, h5, h6, h7, h8, h9, h10⟩ := h
  have e := k.below
  exact ⟨cell_ext h0 e, cell_ext h1 e, cell_ext h2 e, cell_ext h3 e, cell_ext h4 e, cell_ext h5 e, cell_ext h6 e, cell_ext h7 e, cell_ext h8 e, cell_ext h9 e, cell_ext h10 e, k⟩
theorem cmpGrow {X V : World} {bc b d : Nat} {j t1 k1 a1 b1 c1 t2 k2 a2 b2 c2 : Int} (h : V.cell? ⟨bc, 0, none⟩ = some (.int .i64 j) ∧ V.cell? ⟨b, 0, none⟩ = some (.int .i64 t1) ∧ V.cell? ⟨b, 1, none⟩ = some (.int .i64 k1) ∧ V.cell? ⟨b, 2, none⟩ = some (.int .i64 a1) ∧ V.cell? ⟨b, 3, none⟩ = some (.int .i64 b1) ∧ V.cell? ⟨b, 4, none⟩ = some (.int .i64 c1) ∧ V.cell? ⟨d, 0, none⟩ = some (.int .i64 t2) ∧ V.cell? ⟨d, 1, none⟩ = some (.int .i64 k2) ∧ V.cell? ⟨d, 2, none⟩ = some (.int .i64 a2) ∧ V.cell? ⟨d, 3, none⟩ = some (.int .i64 b2) ∧ V.cell? ⟨d, 4, none⟩ = some (.int .i64 c2) ∧ GrowsFrom X V) : GrowsFrom X V := h.2.2.2.2.2.2.2.2.2.2.2

set_option maxRecDepth 100000 in
set_option maxHeartbeats 4000000 in
theorem cmpRow (x y : RowT) (j : Nat) (hj : j < 4) (bc : Nat) (W : World) (hc : W.cell? ⟨bc, 0, none⟩ = some (.int .i64 (j : Int))) :
    Calls Tryz.prog 213 #[.agg #[.int .i64 x.t, .int .i64 x.k, .int .i64 x.a, .int .i64 x.b, .int .i64 x.c], .agg #[.int .i64 y.t, .int .i64 y.k, .int .i64 y.a, .int .i64 y.b, .int .i64 y.c], .pointer (some ⟨bc, 0, none⟩)] W fun e w' => e = .returned (.int .i64 (cmpR j x y)) ∧ GrowsFrom W w' := by
  have HV1 := Lib.hid (fun W : World => rowValueA x j hj W)
  have HV2 := Lib.hid (fun W : World => rowValueA y j hj W)
  have HR := Lib.hid (show cmpR j x y = if compareInt (x.col j) (y.col j) = 0 then compareInt x.k y.k else compareInt (x.col j) (y.col j) from rfl)
  generalize cmpR j x y = r at HR ⊢
  generalize x.col j = v1 at *
  generalize y.col j = v2 at *
  obtain ⟨t1, k1, a1, b1, c1⟩ := x
  obtain ⟨t2, k2, a2, b2, c2⟩ := y
  dsimp only at *
  obtain ⟨X, hX⟩ : ∃ X, X = (W.alloc (.cells #[.int .i64 t1, .int .i64 k1, .int .i64 a1, .int .i64 b1, .int .i64 c1] 77)).alloc (.cells #[.int .i64 t2, .int .i64 k2, .int .i64 a2, .int .i64 b2, .int .i64 c2] 77) := ⟨_, rfl⟩
  have HX := Lib.hid hX
  have h1 : Blk X W.heap.size 77 #[.int .i64 t1, .int .i64 k1, .int .i64 a1, .int .i64 b1, .int .i64 c1] := by rw [hX]; exact (Blk.new _ _ _).alloc _
  have h2 : Blk X (W.heap.size + 1) 77 #[.int .i64 t2, .int .i64 k2, .int .i64 a2, .int .i64 b2, .int .i64 c2] := by rw [hX]; exact Blk.new' _ _ _ (by simp)
  have hcX : X.cell? ⟨bc, 0, none⟩ = some (.int .i64 (j : Int)) := by rw [hX]; exact cell_ext hc (ext_alloc (ext_new W _) _)
  generalize (j : Int) = j at *
  have HK := Lib.hid (show X.cell? ⟨bc, 0, none⟩ = some (.int .i64 j) ∧ X.cell? ⟨W.heap.size, 0, none⟩ = some (.int .i64 t1) ∧ X.cell? ⟨W.heap.size, 1, none⟩ = some (.int .i64 k1) ∧ X.cell? ⟨W.heap.size, 2, none⟩ = some (.int .i64 a1) ∧ X.cell? ⟨W.heap.size, 3, none⟩ = some (.int .i64 b1) ∧ X.cell? ⟨W.heap.size, 4, none⟩ = some (.int .i64 c1) ∧ X.cell? ⟨W.heap.size + 1, 0, none⟩ = some (.int .i64 t2) ∧ X.cell? ⟨W.heap.size + 1, 1, none⟩ = some (.int .i64 k2) ∧ X.cell? ⟨W.heap.size + 1, 2, none⟩ = some (.int .i64 a2) ∧ X.cell? ⟨W.heap.size + 1, 3, none⟩ = some (.int .i64 b2) ∧ X.cell? ⟨W.heap.size + 1, 4, none⟩ = some (.int .i64 c2) from ⟨hcX, h1.cell 0, h1.cell 1, h1.cell 2, h1.cell 3, h1.cell 4, h2.cell 0, h2.cell 1, h2.cell 2, h2.cell 3, h2.cell 4⟩)
  have HG := Lib.hid (show GrowsFrom W X by rw [hX]; exact ((GrowsFrom.refl W).alloc _).alloc _)
  have HCM := Lib.hid (fun (x y : Int) (W : World) => Tryz.cmp_Compare_int x y W)
  clear h1 h2 hcX hX hc
  go_enter Tryz.func213, Tryz.ntmps213
  go_upto_region 1 with (fail)
  rw [← HX.out]
  go_region_held3 (fun w' => w'.cell? ⟨bc, 0, none⟩ = some (.int .i64 j) ∧ w'.cell? ⟨W.heap.size, 0, none⟩ = some (.int .i64 t1) ∧ w'.cell? ⟨W.heap.size, 1, none⟩ = some (.int .i64 k1) ∧ w'.cell? ⟨W.heap.size, 2, none⟩ = some (.int .i64 a1) ∧ w'.cell? ⟨W.heap.size, 3, none⟩ = some (.int .i64 b1) ∧ w'.cell? ⟨W.heap.size, 4, none⟩ = some (.int .i64 c1) ∧ w'.cell? ⟨W.heap.size + 1, 0, none⟩ = some (.int .i64 t2) ∧ w'.cell? ⟨W.heap.size + 1, 1, none⟩ = some (.int .i64 k2) ∧ w'.cell? ⟨W.heap.size + 1, 2, none⟩ = some (.int .i64 a2) ∧ w'.cell? ⟨W.heap.size + 1, 3, none⟩ = some (.int .i64 b2) ∧ w'.cell? ⟨W.heap.size + 1, 4, none⟩ = some (.int .i64 c2) ∧ GrowsFrom X w')
    (first | with_reducible assumption | exact cmpKeep HK.out (by repeat (first | with_reducible refine GrowsFrom.alloc ?_ _ | with_reducible refine GrowsFrom.drew ?_ | with_reducible assumption | with_reducible exact GrowsFrom.refl _ | exact cmpGrow (by assumption))))
    (first
      | (go_at_call 166; first | ((with_reducible refine (HV1.out _).mono ?_); rintro e w' ⟨rfl, rfl⟩) | ((with_reducible refine (HV2.out _).mono ?_); rintro e w' ⟨rfl, rfl⟩))
      | (go_at_call 215; (refine (HCM.out _ _ _).mono ?_); rintro e w' ⟨rfl, rfl⟩)
      | (go_at_call 214; refine (cmpOr2 _ _ (compareInt v1 v2) (compareInt k1 k2) r HR.out _ ?_ ?_).mono ?_; (exact (Blk.new' _ _ _ (by simp)).drew.cell 0); (exact (Blk.new' _ _ _ (by simp)).drew.cell 1); rintro e w' ⟨rfl, rfl⟩))
  go_wp2
  go_ret
  exact ⟨rfl, (((HG.out.alloc _).alloc _).alloc _).drew⟩

end Go.Proofs.YtbgfmbmcabekeaaGreatDoor

/-
  slices.SortFunc at rows: a permutation of them.
-/
namespace Go.Proofs.YtbgfmbmcabekeaaGreatDoor
open Go.RowKit Go.Shelf Go.Lib Go.Sort

instance : Inhabited RowT := ⟨zeroR⟩
theorem encR_length (r : RowT) : (encR r).length = 5 := rfl
theorem encR_one (r : RowT) : ∀ v ∈ encR r, v.oneCell' = true := by
  intro v hv
  simp only [encR, List.mem_cons, List.not_mem_nil, or_false] at hv
  rcases hv with rfl | rfl | rfl | rfl | rfl <;> rfl
theorem cmpR_lt (j : Nat) (x y : RowT) : ltOf (cmpR j) x y = (decide (x.col j < y.col j) || (decide (x.col j = y.col j) && decide (x.k < y.k))) := by
  unfold ltOf cmpR compareInt
  by_cases h1 : x.col j < y.col j
  · have h2 : ¬ x.col j = y.col j := by omega
    simp [h1, h2]
  · by_cases h2 : x.col j = y.col j
    · by_cases h3 : x.k < y.k
      · simp [h2, h3]
      · by_cases h4 : y.k < x.k <;> simp [h2, h3, h4]
    · have h3 : x.col j > y.col j := by omega
      simp [h1, h2, h3]
theorem cmpR_swo (j : Nat) : SWO (ltOf (cmpR j)) where
  irrefl x := by rw [cmpR_lt]; simp
  trans x y z h1 h2 := by rw [cmpR_lt] at *; simp at *; omega
  ntrans x y z h1 h2 := by rw [cmpR_lt] at *; simp at *; omega

/-- the cells of rows in a block -/
def RowsC (w : World) (g : Nat) (l : List RowT) : Prop := ∀ (j : Nat) (r : RowT), l[j]? = some r → ∀ i, i < 5 → w.cell? ⟨g, j * 5 + i, none⟩ = (encR r)[i]?
theorem RowsC.ext {w W : World} {g : Nat} {l : List RowT} (h : RowsC w g l) (k : Below w.heap.size w W) : RowsC W g l := by
  intro j r hj i hi
  have h1 := h j r hj i hi
  rw [List.getElem?_eq_getElem (show i < (encR r).length from hi)] at h1 ⊢
  exact cell_ext h1 k

theorem rowsC_holds {w : World} {g : Nat} {l : List RowT} (h : RowsC w g l) (hf : ∀ i, w.frozen? ⟨g, i, none⟩ = false) : HoldsK encR 5 w g 0 l.toArray := by
  intro t ht
  rw [size_flatK] at ht
  rw [get_flatK _ _ _ _ ht, Nat.zero_add]
  refine ⟨?_, hf t⟩
  have hj : t / 5 < l.length := by simp at ht; omega
  have h1 := h (t / 5) _ (List.getElem?_eq_getElem hj) (t % 5) (Nat.mod_lt _ (by omega))
  have e : t / 5 * 5 + t % 5 = t := by omega
  rw [e] at h1
  rw [h1]
  have e2 : l.toArray[t / 5]! = l[t / 5] := by rw [getElem!_pos l.toArray (t / 5) (by simpa using hj)]; rfl
  rw [e2, List.getElem?_eq_getElem (show t % 5 < (encR l[t / 5]).length from Nat.mod_lt _ (by omega)), getElem!_pos (encR l[t / 5]) (t % 5) (Nat.mod_lt _ (by omega))]
  rfl
theorem holds_rowsC {w : World} {g : Nat} {d : Array RowT} (h : HoldsK encR 5 w g 0 d) : RowsC w g d.toList := by
  intro j r hj i hi
  have hlt := (List.getElem?_eq_some_iff.1 hj).1
  have hlt' : j < d.size := by simpa using hlt
  have h1 := (h (j * 5 + i) (by rw [size_flatK]; omega)).1
  rw [get_flatK _ _ _ _ (by omega), Nat.zero_add] at h1
  have e1 : (j * 5 + i) / 5 = j := by omega
  have e2 : (j * 5 + i) % 5 = i := by omega
  rw [e1, e2] at h1
  rw [h1]
  have e3 : d[j]! = r := by
    rw [getElem!_pos d j hlt']
    have h3 := (List.getElem?_eq_some_iff.1 hj).2
    rw [← h3]
    simp
  rw [e3, List.getElem?_eq_getElem (show i < (encR r).length from hi), getElem!_pos (encR r) i hi]
  rfl
theorem sort_below {w w0 : World} {g n : Nat} {d : Array RowT} {os : Array Obj} (h : Below w0.heap.size w0 w) (hg : w0.heap.size ≤ g) : Below w0.heap.size w0 (sortWorldK encR 5 w g 0 n d os) := by
  refine ⟨h.os, h.tape, h.output, ?_, fun k hk => ?_⟩
  · have := h.size
    simp [sortWorldK, grow, putRowK, Sort.ahead]
    omega
  · have hk2 : k < w.heap.size := Nat.lt_of_lt_of_le hk h.size
    rw [← h.block k hk]
    simp only [sortWorldK, grow, putRowK, putRow, mapBlock, Sort.ahead]
    rw [Array.getElem?_append_left (by simpa using hk2), Array.getElem?_modify, if_neg (by omega)]

set_option maxRecDepth 100000 in
set_option maxHeartbeats 2000000 in
theorem sortRows_any (l : List RowT) (g c j bc : Nat) (hj : j < 4) (w : World) (hbc : w.cell? ⟨bc, 0, none⟩ = some (.int .i64 (j : Int))) (hne : bc ≠ g) (hR : RowsC w g l) (hf : ∀ i, w.frozen? ⟨g, i, none⟩ = false) (hg : g < w.heap.size) (hl : l.length ≤ 1000000) :
    Calls Tryz.prog 212 #[.slice (some ⟨g, 0, none⟩) l.length c, .func (.func 213) #[] #[.pointer (some ⟨bc, 0, none⟩)]] w fun e w' =>
      (∃ u, e = .returned u) ∧ ∃ l', l'.Perm l ∧ RowsC w' g l' ∧ w.heap.size ≤ w'.heap.size ∧ (∀ w0, Below w0.heap.size w0 w → w0.heap.size ≤ g → Below w0.heap.size w0 w') := by
  have eg : ∀ args w, (callFunc 213 args).run Tryz.prog w = .ok (.enter 213 args) w := enters_of Tryz.func213 (by kernel_rfl) rfl
  have hcmp : CmpLays Tryz.prog 213 #[.pointer (some ⟨bc, 0, none⟩)] encR 5 (cmpR j) g 0 l.toArray.size w := fun m os dk _ x y => by
    refine (cmpRow x y j hj bc (sortWorldK encR 5 w g 0 m dk os) ?_).mono fun e w' h => h
    unfold sortWorldK
    have hb : Below (putRowK encR 5 (Sort.ahead w m) g 0 dk).heap.size (putRowK encR 5 (Sort.ahead w m) g 0 dk) (grow (putRowK encR 5 (Sort.ahead w m) g 0 dk) os) := GrowsFrom.below ⟨0, os, rfl⟩
    refine cell_ext ?_ hb
    rw [cell?_putRowK_other _ _ _ _ _ _ _ (by simpa using hne)]
    exact hbc
  have hcon := AnyQ.slices_SortFunc Tryz.sortRows 5 Tryz.isAgg77 Tryz.sizeOf77 encR encR_length encR_one (cmpR j) (cmpR_swo j) 213 #[.pointer (some ⟨bc, 0, none⟩)] g 0 c l.toArray w eg hcmp (rowsC_holds hR hf) hg (by simp; omega)
  change Calls Tryz.prog 212 _ _ _ at hcon
  refine hcon.mono ?_
  rintro e w' ⟨rfl, d', n, os, hp, hs, rfl⟩
  refine ⟨⟨_, rfl⟩, d'.toList, ?_, ?_, by simp [sortWorldK, grow, putRowK, Sort.ahead], fun w0 h h0 => sort_below h h0⟩
  · have h1 := hp.2.2
    have hs1 := hp.1
    simp at hs1
    have h2 : d'.toList.take l.length = d'.toList := List.take_of_length_le (by simp [hs1])
    rw [← h2]
    simpa [hs1] using h1
  · refine holds_rowsC ?_
    unfold sortWorldK
    exact holdsK_grow _ _ _ _ _ _ _ (by simpa [putRowK, Sort.ahead] using hg) (holdsK_putRowK _ _ _ _ _ l.toArray _ (holdsK_ahead _ _ _ _ _ _ _ (rowsC_holds hR hf)) hp.1)

end Go.Proofs.YtbgfmbmcabekeaaGreatDoor

/-
  package store: Range at any state: rows of the state.
-/
namespace Go.Proofs.YtbgfmbmcabekeaaGreatDoor
open Go.RowKit Go.Shelf
attribute [local go_sem ↓] app_exec app_sem Go.wp_at_zero Go.wp_at_succ

/-- the cells of rows -/
def rc (l : List RowT) : List Value := l.flatMap encR
theorem rc_append (l : List RowT) (r : RowT) : rc (l ++ [r]) = rc l ++ encR r := by simp [rc]
theorem rc_at : ∀ (l : List RowT) (j : Nat) (x : RowT), l[j]? = some x → ∀ i, i < 5 → (rc l)[j * 5 + i]? = (encR x)[i]?
  | [], j, x, h, i, hi => by simp at h
  | y :: l, 0, x, h, i, hi => by
    simp only [List.getElem?_cons_zero, Option.some.injEq] at h
    subst h
    simp only [rc, List.flatMap_cons, Nat.zero_mul, Nat.zero_add]
    rw [List.getElem?_append_left (show i < (encR y).length from hi)]
  | y :: l, j + 1, x, h, i, hi => by
    have h1 := rc_at l j x (by simpa using h) i hi
    simp only [rc, List.flatMap_cons]
    rw [List.getElem?_append_right (by simp [encR]; omega)]
    have e : (j + 1) * 5 + i - (encR y).length = j * 5 + i := by simp [encR]; omega
    rw [e]
    exact h1

/-- a list of rows in memory -/
def RowsL (w : World) (v : Value) (l : List RowT) : Prop := ∃ A c, v = .slice A l.length c ∧ (0 < l.length → ∃ g, A = some ⟨g, 0, none⟩ ∧ g < w.heap.size ∧ RowsC w g l)
theorem RowsL.ext {w W : World} {v : Value} {l : List RowT} (h : RowsL w v l) (k : Below w.heap.size w W) : RowsL W v l := by
  obtain ⟨A, c, rfl, h⟩ := h
  refine ⟨A, c, rfl, fun h0 => ?_⟩
  obtain ⟨g, hA, hg, hr⟩ := h h0
  exact ⟨g, hA, Nat.lt_of_lt_of_le hg k.size, hr.ext k⟩

/-- is a row in a range? -/
def hitR (r : RowT) (t : Int) (j : Nat) (lo hi : Int) : Bool := (r.t == t) && decide (lo ≤ r.col j) && decide (r.col j ≤ hi)

set_option maxRecDepth 100000 in
set_option maxHeartbeats 400000 in
theorem isInR (r : RowT) (b1 b2 b3 b4 j : Nat) (t lo hi : Int) (hj : j < 4) (w : World) (hB : Boxes w b1 b2 b3 b4 j t lo hi) :
    Calls Tryz.prog 208 #[.agg #[.int .i64 r.t, .int .i64 r.k, .int .i64 r.a, .int .i64 r.b, .int .i64 r.c], .pointer (some ⟨b1, 0, none⟩), .pointer (some ⟨b2, 0, none⟩), .pointer (some ⟨b3, 0, none⟩), .pointer (some ⟨b4, 0, none⟩)] w fun e w' => e = .returned (.bool (hitR r t j lo hi)) ∧ Below w.heap.size w w' := by
  have HV := Lib.hid (fun W : World => rowValue_any r j hj W)
  unfold hitR
  generalize r.col j = v at *
  obtain ⟨r0, r1, r2, r3, r4⟩ := r
  dsimp only at *
  have HB := Lib.hid (hB.ext (ext_new w (.cells #[.int .i64 r0, .int .i64 r1, .int .i64 r2, .int .i64 r3, .int .i64 r4] 77)))
  have HR := Lib.hid (Blk.new w 77 #[.int .i64 r0, .int .i64 r1, .int .i64 r2, .int .i64 r3, .int .i64 r4])
  clear hB
  have c1 := HB.out.1.cell 0
  go_enter Tryz.func208, Tryz.ntmps208
  go_wp2_with fail
  refine (HV.out _).mono ?_
  rintro e W1 ⟨rfl, hb1⟩
  have hB1 := HB.out.ext hb1
  have a0 := (HR.out.ext hb1).cell 0
  have d2 := hB1.2.1.cell 0
  have d3 := hB1.2.2.1.cell 0
  have d4 := hB1.2.2.2.cell 0
  have HL := Lib.hid (ext_call (ext_new w _) hb1)
  clear hb1 hB1 c1
  by_cases h1 : r0 = t
  · subst h1
    by_cases h2 : lo ≤ v
    · go_wp2
      go_ret
      exact ⟨by simp [h2], HL.out⟩
    · go_wp2
      go_ret
      exact ⟨by have h3 : ¬ lo ≤ v := by omega
                simp [h3], HL.out⟩
  · have h1' : (r0 == t) = false := by simpa using h1
    go_wp2
    go_ret
    exact ⟨by simp [h1], HL.out⟩

theorem rowz_info : (Tryz.prog.info? 77).map (fun i => (i.zero, i.size, i.bytes)) = some (some (.agg #[.int .i64 0, .int .i64 0, .int .i64 0, .int .i64 0, .int .i64 0]), 5, 40) := by kernel_rfl
/-- a row appended to own rows -/
theorem appRow (W : World) (base : Nat) (hb : base ≤ W.heap.size) (v : Value) (n : Nat) (xs : List Value) (hown : W.ownsRow base 77 5 v n xs) (hn : n ≤ 1000000) (r : RowT) :
    AppOK Tryz.prog (W.alloc (.cells #[.int .i64 r.t, .int .i64 r.k, .int .i64 r.a, .int .i64 r.b, .int .i64 r.c] 77)) 50 50 v (.slice (some ⟨W.heap.size, 0, none⟩) 1 1) ∧ ∃ W', appW Tryz.prog (W.alloc (.cells #[.int .i64 r.t, .int .i64 r.k, .int .i64 r.a, .int .i64 r.b, .int .i64 r.c] 77)) 50 50 v (.slice (some ⟨W.heap.size, 0, none⟩) 1 1) = W' ∧
      ∃ v', appV Tryz.prog (W.alloc (.cells #[.int .i64 r.t, .int .i64 r.k, .int .i64 r.a, .int .i64 r.b, .int .i64 r.c] 77)) 50 50 v (.slice (some ⟨W.heap.size, 0, none⟩) 1 1) = v' ∧ W'.ownsRow base 77 5 v' (n + 1) (xs ++ encR r) ∧ (W.alloc (.cells #[.int .i64 r.t, .int .i64 r.k, .int .i64 r.a, .int .i64 r.b, .int .i64 r.c] 77)).grownBy W' v.ownBlock := by
  obtain ⟨ii, hii, hzi0, hzi1, hzi2⟩ := info_parts rowz_info
  obtain ⟨h1, h2, h3⟩ := app_own (P := Tryz.prog) (w := W.alloc (.cells #[.int .i64 r.t, .int .i64 r.k, .int .i64 r.a, .int .i64 r.b, .int .i64 r.c] 77)) base 50 50 77 ii (.agg #[.int .i64 0, .int .i64 0, .int .i64 0, .int .i64 0, .int .i64 0]) 5 40 Tryz.underlying50 hii hzi0 hzi1 hzi2 rfl (by decide) v n xs (hown.alloc _) ⟨W.heap.size, 0, none⟩ 1 1 (encR r) rfl (fun i u hu => by
    rw [add_lit0]
    have hB := Blk.new W 77 #[.int .i64 r.t, .int .i64 r.k, .int .i64 r.a, .int .i64 r.b, .int .i64 r.c]
    rw [hB.cell]
    rw [← hu]
    simp [encR]) (encR_one r) (by unfold maxLen; omega) (by omega) (by simp; omega)
  exact ⟨h1, _, rfl, _, rfl, h2, h3⟩

/-- how many entries are left of an iteration -/
def leftN (it : Nat) (es : Array MapEntry) (W : World) : Nat := match W.heap[it]? with | some (.mapIter _ _ seen _) => (leftOf es seen).size | _ => 0
theorem leftOf_push (es : Array MapEntry) (seen : Array Nat) (e : MapEntry) (he : e ∈ (leftOf es seen).toList) : (leftOf es (seen.push e.born)).size < (leftOf es seen).size := by
  unfold leftOf at *
  simp only [Array.toList_filter, List.mem_filter] at he
  have hsz : ∀ p : MapEntry → Bool, (es.filter p).size = es.toList.countP p := fun p => by rw [List.countP_eq_length_filter, ← Array.toList_filter, Array.length_toList]
  rw [hsz, hsz]
  obtain ⟨h1, h2⟩ := he
  clear hsz
  generalize es.toList = l at *
  induction l with
  | nil => simp at h1
  | cons x l ih =>
    have hle : ∀ m : List MapEntry, m.countP (fun e_1 => !(seen.push e.born).contains e_1.born) ≤ m.countP (fun e => !seen.contains e.born) := fun m => List.countP_mono_left (fun y _ hy => by simp at hy ⊢; exact hy.1)
    rw [List.countP_cons, List.countP_cons]
    rcases List.mem_cons.1 h1 with rfl | h3
    · have h4 := hle l
      have h5 : (!(seen.push e.born).contains e.born) = false := by simp
      simp only [h5, h2, Bool.false_eq_true, if_false, if_true]
      omega
    · have h4 := ih h3
      have h5 : ((if (!(seen.push e.born).contains x.born) = true then 1 else 0) : Nat) ≤ (if (!seen.contains x.born) = true then 1 else 0) := by
        by_cases h6 : seen.contains x.born = true
        · have : (seen.push e.born).contains x.born = true := by simp at h6 ⊢; exact .inl h6
          rw [h6, this]; simp
        · have h7 : seen.contains x.born = false := by simpa using h6
          rw [h7]
          split <;> simp
      omega
theorem entry_row {rs : List RowT} {es : Array MapEntry} (h : es.toList.map (fun e => (e.key, e.val)) = rs.map (fun r => (r.keyV, r.val))) {e : MapEntry} (he : e ∈ es.toList) : ∃ r, r ∈ rs ∧ e.key = r.keyV ∧ e.val = .agg #[.int .i64 r.t, .int .i64 r.k, .int .i64 r.a, .int .i64 r.b, .int .i64 r.c] := by
  have h1 : (e.key, e.val) ∈ rs.map (fun r => (r.keyV, r.val)) := by rw [← h]; exact List.mem_map.2 ⟨e, he, rfl⟩
  obtain ⟨r, hr, h2⟩ := List.mem_map.1 h1
  injection h2 with h3 h4
  exact ⟨r, hr, h3.symm, h4.symm⟩

end Go.Proofs.YtbgfmbmcabekeaaGreatDoor

/-
  package store: chosen and Range at any state: rows of the state, in some order.
-/
namespace Go.Proofs.YtbgfmbmcabekeaaGreatDoor
open Go.RowKit Go.Shelf
attribute [local go_sem ↓] app_exec app_sem Go.wp_at_zero Go.wp_at_succ

theorem own_ext {W W' : World} {base n sz : Nat} {e : TypeId} {v : Value} {xs : List Value} (h : W.ownsRow base e sz v n xs) (k : Below W.heap.size W W') : W'.ownsRow base e sz v n xs := by
  refine ⟨h.1, ?_⟩
  rcases h.2 with hn' | ⟨g, cap, cur, h1, h2, h3, h4⟩
  · exact .inl hn'
  · exact .inr ⟨g, cap, cur, h1, h2, (k.block g (Array.getElem?_eq_some_iff.1 h3).1).trans h3, h4⟩
/-- the iterator's block changes, no other -/
theorem iter_step {W : World} {it : Nat} {o : Obj} {B n sz : Nat} {e : TypeId} {v : Value} {xs : List Value} (h : W.ownsRow B e sz v n xs) (hB : it < B) : (W.putObj it o).ownsRow B e sz v n xs := by
  refine h.kept (row := some it) ⟨rfl, rfl, rfl, by simp, fun k _ hk => World.putObj_heap_other (fun e => hk (by rw [e]))⟩ ?_
  rcases h.2 with ⟨rfl, _⟩ | ⟨g, cap, cur, rfl, hg, _⟩
  · exact .inl rfl
  · exact .inr (by simp [Value.ownBlock]; omega)

set_option maxRecDepth 100000 in
set_option maxHeartbeats 4000000 in
theorem chosenR (rs : List RowT) (gs gm b1 b2 b3 b4 j : Nat) (pos t lo hi : Int) (hj : j < 4) (w : World) (hS : StateR w gs gm pos rs) (hsz : rs.length ≤ 1000) (hB : Boxes w b1 b2 b3 b4 j t lo hi) :
    Calls Tryz.prog 207 #[.pointer (some ⟨gs, 0, none⟩), .int .i64 (j : Int), .func (.func 208) #[] #[.pointer (some ⟨b1, 0, none⟩), .pointer (some ⟨b2, 0, none⟩), .pointer (some ⟨b3, 0, none⟩), .pointer (some ⟨b4, 0, none⟩)]] w
      fun e w' => ∃ v l, e = .returned v ∧ RowsL w' v l ∧ (∀ r ∈ l, r ∈ rs) ∧ l.length ≤ rs.length ∧ Below w.heap.size w w' := by
  obtain ⟨hst, es, c, hm, hnd, hlt, hmap⟩ := hS
  have hes : es.size = rs.length := by
    have := congrArg List.length hmap
    simpa using this
  have hmf : ∀ (fn : Fn) (first cap : Array Value) (w : World), (Instr.makeFunc fn first cap).run Tryz.prog w = .ok (.func fn first cap) w := fun _ _ _ _ => rfl
  have hE0 := ext_new w (.cells #[.int .i64 (j : Int)] 3)
  have s0 := (hst.ext hE0).cell 0
  have hrg := range_map (P := Tryz.prog) Tryz.underlying130 (hm.ext hE0)
  have HM := Lib.hid hm
  have HB := Lib.hid hB
  have HMAP := Lib.hid hmap
  have HND := Lib.hid hnd
  have HLT := Lib.hid hlt
  have HES := Lib.hid hes
  have hgm := hm.lt
  have hgs := hst.lt
  clear hst hm hnd hlt hmap hB hE0
  go_enter Tryz.func207, Tryz.ntmps207
  go_wp2
  generalize hW1 : (w.alloc (.cells #[.int .i64 (j : Int)] 3)).alloc (.mapIter (some gm) c #[] c) = W1
  have HE1 := Lib.hid (show Below w.heap.size w W1 by subst hW1; exact ext_alloc (ext_new _ _) _)
  have HI1 := Lib.hid (show W1.heap[w.heap.size + 1]? = some (.mapIter (some gm) c #[] c) by
    subst hW1
    rw [← World.size_alloc w (.cells #[.int .i64 (j : Int)] 3)]; exact World.alloc_heap_new _ _)
  have HC1 := Lib.hid (show Blk W1 w.heap.size 3 #[.int .i64 (j : Int)] by subst hW1; exact (Blk.new _ _ _).alloc _)
  have hs1 : W1.heap.size = w.heap.size + 2 := by subst hW1; simp
  clear hW1 s0 hrg
  go_loopw [7, 9] (fun z _ W => ∃ (seen : Array Nat) (l : List RowT), W.ownsRow (w.heap.size + 2) 77 5 z l.length (rc l) ∧ (∀ r ∈ l, r ∈ rs) ∧ l.length + (leftOf es seen).size ≤ es.size ∧ W.heap[w.heap.size + 1]? = some (.mapIter (some gm) c seen c) ∧ Blk W w.heap.size 3 #[.int .i64 (j : Int)] ∧ Below w.heap.size w W) (fun _ _ W => leftN (w.heap.size + 1) es W)
  case atStart =>
    exact ⟨#[], [], World.ownsRow_nil _ _ _ _, by simp, by simpa [leftOf] using Array.size_filter_le, HI1.out, HC1.out, HE1.out⟩
  case round =>
    obtain ⟨seen, l, ho, hin, hcnt, hit, hcb, hE⟩ := hrel
    have HO := Lib.hid ho
    have HIN := Lib.hid hin
    have HCNT := Lib.hid hcnt
    have HE := Lib.hid hE
    have HCB := Lib.hid hcb
    have HIT := Lib.hid hit
    have hws := hE.size
    have hsz2 : w.heap.size + 2 ≤ wr.heap.size := by have := (Array.getElem?_eq_some_iff.1 hit).1; omega
    have hmw := HM.out.ext hE
    rcases run_next_at (P := Tryz.prog) wr 0 (w.heap.size + 1) gm c c seen es c hit hmw HLT.out (Nat.le_refl _) with ⟨h0, hrun⟩ | ⟨e, he, w1, hw1, hrun⟩
    · have hnx : ∀ t, (Instr.next (.pointer (some ⟨w.heap.size + 1, 0, none⟩)) false t).run Tryz.prog wr = .ok (.tuple #[.bool false]) wr := fun t => hrun
      clear hin hcnt hE hcb hit hrun hmw h0
      have HLEN := Lib.hid (show l.length ≤ rs.length by have := HCNT.out; have := HES.out; omega)
      by_cases hl0 : l.length = 0
      · obtain ⟨A, cc, hsh⟩ := own_shape ho
        subst hsh
        have HL0 := Lib.hid hl0
        rw [hl0] at ho
        clear ho
        rw [hl0]
        go_wp2_with (go_at_call 212; refine (sort_none _ _ _ _).mono ?_; rintro e w' ⟨⟨u, rfl⟩, rfl⟩)
        go_ret
        exact ⟨_, l, rfl, ⟨A, cc, by rw [HL0.out]; rfl, fun h => by have := HL0.out; omega⟩, HIN.out, HLEN.out, HE.out⟩
      · obtain ⟨g, cap, cur, hsh, hg, hblk⟩ := own_blk ho (by omega)
        subst hsh
        have HR := Lib.hid (show RowsC wr g l from fun jj r hr i hi => by
          have h1 := rc_at l jj r hr i hi
          rw [List.getElem?_eq_getElem (show i < (encR r).length from hi)] at h1 ⊢
          have h2 := ho.cells (g := g) rfl _ _ h1
          rw [add_lit0] at h2
          exact h2)
        have HBLK := Lib.hid hblk
        have HNE := Lib.hid (show w.heap.size ≠ g by omega)
        have HGG := Lib.hid hg
        clear ho hblk hg
        have HL0 := Lib.hid hl0
        clear hl0
        go_wp2_with (go_at_call 212; refine (sortRows_any l g cap j w.heap.size hj wr (HCB.out.cell 0) HNE.out HR.out (fun i => HBLK.out.frozen i) HBLK.out.lt (by have := HLEN.out; omega)).mono ?_; rintro e w' ⟨⟨u, rfl⟩, l', hp, hr', hsw, hbw⟩; have HSW := Lib.hid hsw; clear hsw; have HP := Lib.hid hp; have HR' := Lib.hid hr'; have HBW := Lib.hid hbw; clear hp hr' hbw)
        go_ret
        have hE9 := HBW.out w HE.out (by have := HGG.out; omega)
        have hlen := HP.out.length_eq
        refine ⟨_, l', rfl, ⟨some ⟨g, 0, none⟩, cap, by rw [hlen]; rfl, fun _ => ⟨g, rfl, ?_, HR'.out⟩⟩, fun r hr => HIN.out r (HP.out.mem_iff.1 hr), by rw [hlen]; exact HLEN.out, hE9⟩
        have h9 := HSW.out
        have := HBLK.out.lt
        omega
    · obtain ⟨r, hr, hkey, hval⟩ := entry_row HMAP.out (by have h1 := he; unfold leftOf at h1; simp at h1; simpa using h1.1 : e ∈ es.toList)
      have HR := Lib.hid hr
      obtain ⟨W1, hW1⟩ : ∃ W1, W1 = w1.putObj (w.heap.size + 1) (.mapIter (some gm) c (seen.push e.born) c) := ⟨_, rfl⟩
      have hrun' : ∀ t, (Instr.next (.pointer (some ⟨w.heap.size + 1, 0, none⟩)) false t).run Tryz.prog wr = .ok (.tuple #[.bool true, r.keyV, .agg #[.int .i64 r.t, .int .i64 r.k, .int .i64 r.a, .int .i64 r.b, .int .i64 r.c]]) W1 := fun t => by
        rw [hW1, ← hkey, ← hval]
        exact hrun
      have hE1' : Below w.heap.size w w1 := by rcases hw1 with rfl | rfl; exact hE; exact hE.drew
      have ho1 : w1.ownsRow (w.heap.size + 2) 77 5 u7 l.length (rc l) := by rcases hw1 with rfl | rfl; exact ho; exact ho
      have hi1 : w.heap.size + 1 < w1.heap.size := by rcases hw1 with rfl | rfl; exact (Array.getElem?_eq_some_iff.1 hit).1; exact (Array.getElem?_eq_some_iff.1 hit).1
      have hc1 : Blk w1 w.heap.size 3 #[.int .i64 (j : Int)] := by rcases hw1 with rfl | rfl; exact hcb; exact hcb
      have HEW := Lib.hid (show Below w.heap.size w W1 by rw [hW1]; exact ext_put hE1' (by omega) _)
      have HOW := Lib.hid (show W1.ownsRow (w.heap.size + 2) 77 5 u7 l.length (rc l) by rw [hW1]; exact iter_step ho1 (by omega))
      have HIW := Lib.hid (show W1.heap[w.heap.size + 1]? = some (.mapIter (some gm) c (seen.push e.born) c) by rw [hW1]; exact World.putObj_heap_same hi1)
      have HCW := Lib.hid (show Blk W1 w.heap.size 3 #[.int .i64 (j : Int)] by rw [hW1]; exact hc1.putObj _ (by omega))
      have HLF := Lib.hid (leftOf_push es seen e he)
      have hmem : e ∈ es.toList := by have h1 := he; unfold leftOf at h1; simp at h1; simpa using h1.1
      have hent := run_entry_at (P := Tryz.prog) W1 (w.heap.size + 1) gm c seen es c e HIW.out (HM.out.ext HEW.out) hmem HND.out
      rw [hkey, hval] at hent
      have HX := Lib.hid (fun W : World => isInR r b1 b2 b3 b4 j t lo hi hj W)
      have HRW := Lib.hid (show leftN (w.heap.size + 1) es wr = (leftOf es seen).size by unfold leftN; rw [hit])
      have HRC := Lib.hid (rc_append l r)
      obtain ⟨r0, r1, r2, r3, r4⟩ := r
      dsimp only at hrun' hent HX
      have hs3 : w.heap.size + 2 ≤ W1.heap.size := by have := (Array.getElem?_eq_some_iff.1 HIW.out).1; omega
      clear ho hin hcnt hE hcb hit hrun hmw hkey hval hE1' ho1 hi1 hc1 hW1 hw1 hmem he hr
      have HBX := Lib.hid (HB.out.ext HEW.out)
      have HRX := Lib.hid (Blk.new W1 77 #[.int .i64 r0, .int .i64 r1, .int .i64 r2, .int .i64 r3, .int .i64 r4])
      go_wp2_with fail
      refine (HX.out _ (HBX.out.ext (ext_new _ _))).mono ?_
      rintro e' W3 ⟨rfl, hb3⟩
      have hX3 := HRX.out.ext hb3
      have x0 := hX3.cell 0; have x1 := hX3.cell 1; have x2 := hX3.cell 2; have x3 := hX3.cell 3; have x4 := hX3.cell 4
      have xl := hX3.lt
      have HE3 := Lib.hid (ext_call (ext_alloc HEW.out (.cells #[.int .i64 r0, .int .i64 r1, .int .i64 r2, .int .i64 r3, .int .i64 r4] 77)) hb3)
      have HI3 := Lib.hid (heap_ext (heap_ext HIW.out (ext_new W1 (.cells #[.int .i64 r0, .int .i64 r1, .int .i64 r2, .int .i64 r3, .int .i64 r4] 77))) hb3)
      have HC3 := Lib.hid ((HCW.out.alloc (.cells #[.int .i64 r0, .int .i64 r1, .int .i64 r2, .int .i64 r3, .int .i64 r4] 77)).ext hb3)
      have HO3 := Lib.hid (own_ext (HOW.out.alloc (.cells #[.int .i64 r0, .int .i64 r1, .int .i64 r2, .int .i64 r3, .int .i64 r4] 77)) hb3)
      have hs4 : w.heap.size + 2 ≤ W3.heap.size := by have := hb3.size; simp at this; omega
      clear hb3 hX3 hrun' hent HBX HRX HIW HCW HOW
      generalize hitR _ t j lo hi = hb
      cases hb with
      | false =>
        go_wp2
        go_roundw
        case rel => exact ⟨seen.push e.born, l, HO3.out, HIN.out, by have := HCNT.out; have := HLF.out; omega, HI3.out, HC3.out, HE3.out⟩
        case measure =>
          have h9 : leftN (w.heap.size + 1) es W3 = (leftOf es (seen.push e.born)).size := by unfold leftN; rw [HI3.out]
          rw [h9, HRW.out]
          exact HLF.out
      | true =>
        obtain ⟨ha, W4, hW4, v4, hv4, ho4, hg4⟩ := appRow W3 (w.heap.size + 2) hs4 u7 l.length (rc l) HO3.out (by have := HCNT.out; have := HES.out; omega) ⟨r0, r1, r2, r3, r4⟩
        dsimp only at ha hW4 hv4 hg4
        have HO4 := Lib.hid ho4
        have hown : u7.ownBlock = none ∨ ∃ g, u7.ownBlock = some g ∧ w.heap.size + 2 ≤ g := by
          rcases HO3.out.2 with ⟨h1, _⟩ | ⟨g, cap, cur, h1, h2, _⟩
          · exact .inl (by rw [h1]; rfl)
          · exact .inr ⟨g, by rw [h1]; rfl, h2⟩
        have HE4 := Lib.hid ((ext_alloc HE3.out (.cells #[.int .i64 r0, .int .i64 r1, .int .i64 r2, .int .i64 r3, .int .i64 r4] 77)).grown hg4 (ext_alloc HE3.out (.cells #[.int .i64 r0, .int .i64 r1, .int .i64 r2, .int .i64 r3, .int .i64 r4] 77)).size (fun k e => by rcases hown with h | ⟨g, h, h2⟩ <;> rw [h] at e; cases e; have e2 := Option.some.inj e; omega))
        have HC4 := Lib.hid ((HC3.out.alloc (.cells #[.int .i64 r0, .int .i64 r1, .int .i64 r2, .int .i64 r3, .int .i64 r4] 77)).grown hg4 (by rcases hown with h | ⟨g, h, h2⟩ <;> rw [h]; simp; intro h3; have h4 := Option.some.inj h3; omega))
        have HI4 := Lib.hid (show W4.heap[w.heap.size + 1]? = some (.mapIter (some gm) c (seen.push e.born) c) by
          rw [hg4.block (w.heap.size + 1) (by simp; omega) (by rcases hown with h | ⟨g, h, h2⟩ <;> rw [h]; simp; intro h3; have h4 := Option.some.inj h3; omega)]
          exact heap_ext HI3.out (ext_new W3 _))
        clear ho4 hg4 hown
        go_wp2
        go_roundw
        case rel => exact ⟨seen.push e.born, l ++ [⟨r0, r1, r2, r3, r4⟩], by rw [HRC.out, List.length_append]; exact HO4.out, by intro y hy; rcases List.mem_append.1 hy with h | h; exact HIN.out y h; simp at h; rw [h]; exact HR.out, by have := HCNT.out; have := HLF.out; simp; omega, HI4.out, HC4.out, HE4.out⟩
        case measure =>
          have h9 : leftN (w.heap.size + 1) es W4 = (leftOf es (seen.push e.born)).size := by unfold leftN; rw [HI4.out]
          rw [h9, HRW.out]
          exact HLF.out

set_option maxRecDepth 100000 in
set_option maxHeartbeats 1000000 in
theorem rangeR (rs : List RowT) (gs gm j : Nat) (pos t lo hi : Int) (hj : j < 4) (w : World) (hS : StateR w gs gm pos rs) (hsz : rs.length ≤ 1000) :
    Calls Tryz.prog 181 #[.pointer (some ⟨gs, 0, none⟩), .int .i64 t, .int .i64 (j : Int), .int .i64 lo, .int .i64 hi] w
      fun e w' => ∃ v l, e = .returned v ∧ RowsL w' v l ∧ (∀ r ∈ l, r ∈ rs) ∧ l.length ≤ rs.length ∧ Below w.heap.size w w' := by
  have hmf : ∀ (fn : Fn) (first cap : Array Value) (w : World), (Instr.makeFunc fn first cap).run Tryz.prog w = .ok (.func fn first cap) w := fun _ _ _ _ => rfl
  have HS := Lib.hid hS
  clear hS
  have l1 : decide ((j : Int) < 0) = false := decide_eq_false (by omega)
  have l2 : decide (4 ≤ (j : Int)) = false := decide_eq_false (by omega)
  go_enter Tryz.func181, Tryz.ntmps181
  go_wp2_with fail
  generalize hW1 : World.alloc (((w.alloc (.cells #[.int .i64 t] 3)).alloc (.cells #[.int .i64 (j : Int)] 3)).alloc (.cells #[.int .i64 lo] 3)) (.cells #[.int .i64 hi] 3) = W1
  have hE1 : Below w.heap.size w W1 := by subst hW1; exact ext_alloc (ext_alloc (ext_alloc (ext_new _ _) _) _) _
  have hB1 : Boxes W1 (w.heap.size + 1) w.heap.size (w.heap.size + 1 + 1) (w.heap.size + 1 + 1 + 1) j t lo hi := by
    subst hW1
    exact ⟨((Blk.new' _ _ _ (by simp)).alloc _).alloc _, (((Blk.new' _ _ _ (by simp)).alloc _).alloc _).alloc _, (Blk.new' _ _ _ (by simp)).alloc _, Blk.new' _ _ _ (by simp)⟩
  refine (chosenR rs gs gm _ _ _ _ j pos t lo hi hj W1 (HS.out.ext hE1) hsz hB1).mono ?_
  rintro e W2 ⟨v, l, rfl, hr, hin, hlen, hb2⟩
  have HE2 := Lib.hid (ext_call hE1 hb2)
  have HR2 := Lib.hid (And.intro hr (And.intro hin hlen))
  clear hW1 hE1 hB1 hb2 hr hin hlen
  go_wp2
  go_ret
  exact ⟨_, l, rfl, HR2.out.1, HR2.out.2.1, HR2.out.2.2, HE2.out⟩

end Go.Proofs.YtbgfmbmcabekeaaGreatDoor

/-
  package statetree: orderOf at any state of small rows.
-/
namespace Go.Proofs.YtbgfmbmcabekeaaGreatDoor
open Go.RowKit Go.Shelf
attribute [local go_sem ↓] app_exec app_sem Go.wp_at_zero Go.wp_at_succ

/-- a valid row of small numbers -/
def RowT.sm (r : RowT) : Prop := r.ok ∧ r.t < 64 ∧ r.k < 64 ∧ ∀ x ∈ [r.a, r.b, r.c], -64 ≤ x ∧ x < 64
/-- a string appended to own strings -/
theorem appStr (W : World) (base : Nat) (hb : base ≤ W.heap.size) (v : Value) (n : Nat) (xs : List Value) (hown : W.ownsRow base 9 1 v n xs) (hn : n ≤ 1000000) (s : ByteArray) :
    AppOK Tryz.prog (W.alloc (.cells #[.string s] 9)) 89 89 v (.slice (some ⟨W.heap.size, 0, none⟩) 1 1) ∧ ∃ W', appW Tryz.prog (W.alloc (.cells #[.string s] 9)) 89 89 v (.slice (some ⟨W.heap.size, 0, none⟩) 1 1) = W' ∧
      ∃ v', appV Tryz.prog (W.alloc (.cells #[.string s] 9)) 89 89 v (.slice (some ⟨W.heap.size, 0, none⟩) 1 1) = v' ∧ W'.ownsRow base 9 1 v' (n + 1) (xs ++ [.string s]) ∧ (W.alloc (.cells #[.string s] 9)).grownBy W' v.ownBlock := by
  obtain ⟨is, his, hzs0, hzs1, hzs2⟩ := str_infoS
  obtain ⟨h1, h2, h3⟩ := app_own (P := Tryz.prog) (w := W.alloc (.cells #[.string s] 9)) base 89 89 9 is (.string ⟨#[]⟩) 1 16 Tryz.underlying89 his hzs0 hzs1 hzs2 rfl (by decide) v n xs (hown.alloc _) ⟨W.heap.size, 0, none⟩ 1 1 [.string s] rfl (cell_one_new _ _ _) (by simp [Value.oneCell']) (by unfold maxLen; omega) (by omega) (by simp; omega)
  exact ⟨h1, _, rfl, _, rfl, h2, h3⟩
/-- own strings as a list of strings -/
theorem own_strs {W : World} {base n : Nat} {v : Value} {ss : List ByteArray} (h : W.ownsRow base 9 1 v n (ss.map Value.string)) (hn : ss.length = n) : Strs (fun _ => True) W v ss := by
  subst hn
  by_cases h0 : 0 < ss.length
  · obtain ⟨g, cap, cur, rfl, hg, hb⟩ := own_blk h h0
    refine ⟨_, cap, rfl, ?_, fun _ => ⟨g, 0, rfl, trivial, fun j x hx => ?_⟩⟩
    · rcases h.2 with ⟨he, _⟩ | ⟨g', cap', cur', he, _, _, h6, _⟩
      · cases he
      · injection he with _ _ hc
        omega
    · have h1 := h.cells (g := g) rfl j (.string x) (by rw [List.getElem?_map, hx]; rfl)
      rw [add_lit0] at h1
      rw [Nat.zero_add]
      exact h1
  · have h1 : ss = [] := List.length_eq_zero_iff.1 (by omega)
    subst h1
    obtain ⟨A, c, hsh⟩ := own_shape h
    exact ⟨A, c, hsh, by simp, fun h => absurd h (by simp)⟩
theorem RowsL.at_ {w : World} {v : Value} {l : List RowT} (h : RowsL w v l) {j : Nat} {r : RowT} (hj : l[j]? = some r) : ∃ g c, v = .slice (some ⟨g, 0, none⟩) l.length c ∧ g < w.heap.size ∧ ∀ i, i < 5 → w.cell? ⟨g, j * 5 + i, none⟩ = (encR r)[i]? := by
  obtain ⟨A, c, rfl, h⟩ := h
  have hlt := (List.getElem?_eq_some_iff.1 hj).1
  obtain ⟨g, rfl, hg, hr⟩ := h (by omega)
  exact ⟨g, c, rfl, hg, hr j r hj⟩

/-- an order: its rows, and at most N encodings -/
def OrderG (N : Nat) (W : World) (v1 v2 : Value) : Prop := (∃ A n c, v1 = .slice A n c) ∧ ∃ ss : List ByteArray, Strs (fun _ => True) W v2 ss ∧ ss.length ≤ N ∧ ∀ s ∈ ss, s.size ≤ 5

set_option maxRecDepth 100000 in
set_option maxHeartbeats 4000000 in
theorem orderR (rs : List RowT) (hrs : ∀ r ∈ rs, r.sm) (gs gm j : Nat) (pos t : Int) (hj : j < 4) (w : World) (hS : StateR w gs gm pos rs) (hsz : rs.length ≤ 1000) :
    Calls Tryz.prog 149 #[.pointer (some ⟨gs, 0, none⟩), .int .i64 t, .int .i64 (j : Int)] w
      fun e w' => ∃ v1 v2, e = .returned (.agg #[v1, v2]) ∧ OrderG rs.length w' v1 v2 ∧ Below w.heap.size w w' := by
  have HS := Lib.hid hS
  have HRS := Lib.hid hrs
  clear hS hrs
  go_enter Tryz.func149, Tryz.ntmps149
  go_wp2_with fail
  refine (rangeR rs gs gm j pos t _ _ hj _ (HS.out.ext (ext_new _ _)) hsz).mono ?_
  rintro e W1 ⟨v, l, rfl, hl1, hin, hlen, hb1⟩
  have HB1 := Lib.hid ((Blk.new w 184 #[.slice none 0 0, .slice none 0 0]).ext hb1)
  have HE1 := Lib.hid (ext_call (ext_new w (.cells #[.slice none 0 0, .slice none 0 0] 184)) hb1)
  have HL1 := Lib.hid hl1
  have HSM := Lib.hid (fun (r : RowT) (hr : r ∈ l) => HRS.out r (hin r hr))
  have hle := hlen
  have hwl : w.heap.size < W1.heap.size := HB1.out.lt
  obtain ⟨A, cl, rfl, -⟩ := hl1
  clear hb1 hin hlen
  go_wp2
  obtain ⟨X, hX⟩ : ∃ X, X = W1.alloc (.cells #[.slice A l.length cl, .slice none 0 0] 184) := ⟨_, rfl⟩
  rw [← hX]
  have HOX := Lib.hid (show Blk X W1.heap.size 184 #[.slice A l.length cl, .slice none 0 0] by rw [hX]; exact Blk.new _ _ _)
  have HEX := Lib.hid (show Below W1.heap.size W1 X by rw [hX]; exact ext_new _ _)
  clear hX
  go_loopw [9, 10, 11, 20, 24] (fun _ _ _ i _ W => ∃ (k : Nat) (ss : List ByteArray) (ev : Value), k ≤ l.length ∧ i = .int .i64 k ∧ ss.length = k ∧ (∀ s ∈ ss, s.size ≤ 5) ∧ Blk W W1.heap.size 184 #[.slice A l.length cl, ev] ∧ W.ownsRow (W1.heap.size + 1) 9 1 ev k (ss.map Value.string) ∧ Below W1.heap.size W1 W) (fun _ _ _ i _ _ => l.length - (intOf i).toNat)
  case atStart => exact ⟨0, [], .slice none 0 0, Nat.zero_le _, rfl, rfl, by simp, HOX.out, World.ownsRow_nil _ _ _ _, HEX.out⟩
  case round =>
    obtain ⟨k, ss, ev, hk, rfl, hss, hsz5, hob1, hown, hE⟩ := hrel
    have HOB := Lib.hid hob1
    have HOW := Lib.hid hown
    have HE := Lib.hid hE
    have HSS := Lib.hid (And.intro hss hsz5)
    have hbl := hob1.lt
    clear hob1 hown hE hss hsz5
    by_cases hlt : k < l.length
    · obtain ⟨r, hr⟩ : ∃ r, l[k]? = some r := ⟨_, List.getElem?_eq_getElem hlt⟩
      obtain ⟨g, c', hA, hg, hc9⟩ := (HL1.out.ext HE.out).at_ hr
      injection hA with hA hn' hc'
      subst hA; subst hc'
      clear hn'
      have hsm := HSM.out r (List.mem_of_getElem? hr)
      have HENC := Lib.hid (fun W : World => rowEncode_any r hsm.1 hsm.2.1 hsm.2.2.1 hsm.2.2.2 W)
      have c0 := hc9 0 (by omega)
      have c1 := hc9 1 (by omega)
      have c2 := hc9 2 (by omega)
      have c3 := hc9 3 (by omega)
      have c4 := hc9 4 (by omega)
      have hes := encZ_size [r.t, r.k, r.a, r.b, r.c]
      generalize encZ [r.t, r.k, r.a, r.b, r.c] = s at HENC hes
      have HSZ := Lib.hid (show s.size ≤ 5 by rw [hes]; simp)
      obtain ⟨r0, r1, r2, r3, r4⟩ := r
      simp only [encR, List.getElem?_cons_zero, List.getElem?_cons_succ, Nat.add_zero] at c0 c1 c2 c3 c4
      have e2 : IntKind.i64.wrap ((k : Int) + 1) = (k : Int) + 1 := by rw [IntWalk.i64_in _ (by omega)]
      have d1 : decide ((k : Int) < (l.length : Int)) = true := by simp; omega
      have q0 : (0 : Int) ≤ (k : Int) := by omega
      have q1 : (k : Int) < (l.length : Int) := by omega
      clear hc9 hr hsm hes hg
      go_wp2_with fail
      refine (HENC.out _).mono ?_
      rintro e W2 ⟨rfl, hb2⟩
      have HE2 := Lib.hid (ext_call (ext_alloc HE.out (.cells #[.int .i64 r0, .int .i64 r1, .int .i64 r2, .int .i64 r3, .int .i64 r4] 77)) hb2)
      have HO2 := Lib.hid ((HOB.out.alloc (.cells #[.int .i64 r0, .int .i64 r1, .int .i64 r2, .int .i64 r3, .int .i64 r4] 77)).ext hb2)
      have HW2 := Lib.hid (own_ext (HOW.out.alloc (.cells #[.int .i64 r0, .int .i64 r1, .int .i64 r2, .int .i64 r3, .int .i64 r4] 77)) hb2)
      clear hb2 c0 c1 c2 c3 c4
      have o1 := HO2.out.cell 1
      have ol := HO2.out.lt
      obtain ⟨ha, W4, hW4, v4, hv4, ho4, hg4⟩ := appStr W2 (W1.heap.size + 1) (by omega) ev k (ss.map Value.string) HW2.out (by omega) s
      have hown : ev.ownBlock = none ∨ ∃ g, ev.ownBlock = some g ∧ W1.heap.size + 1 ≤ g := by
        rcases HW2.out.2 with ⟨h1, _⟩ | ⟨g, cap, cur, h1, h2, _⟩
        · exact .inl (by rw [h1]; rfl)
        · exact .inr ⟨g, by rw [h1]; rfl, h2⟩
      have HO4 := Lib.hid ((HO2.out.alloc (.cells #[.string s] 9)).grown hg4 (by rcases hown with h | ⟨g, h, h2⟩ <;> rw [h]; simp; intro h3; have h4 := Option.some.inj h3; omega))
      have HE4 := Lib.hid ((ext_alloc HE2.out (.cells #[.string s] 9)).grown hg4 (ext_alloc HE2.out (.cells #[.string s] 9)).size (fun k e => by rcases hown with h | ⟨g, h, h2⟩ <;> rw [h] at e; cases e; have e2 := Option.some.inj e; omega))
      obtain ⟨A4, c4, hsh4⟩ := own_shape ho4
      subst hsh4
      have HW4 := Lib.hid ho4
      have p1 := HO4.out.cell 1
      have f1 := HO4.out.frozen 1
      have pl := HO4.out.lt
      clear ho4 hg4 hown
      go_wp2
      go_roundw
      case rel =>
        refine ⟨k + 1, ss ++ [s], .slice A4 (k + 1) c4, by omega, by go_num, by rw [List.length_append, HSS.out.1]; rfl, ?_, HO4.out.set_ 1 _, ?_, ext_set HE4.out (Nat.le_refl _) _⟩
        · intro y hy
          rcases List.mem_append.1 hy with h | h
          · exact HSS.out.2 y h
          · simp at h; rw [h]; exact HSZ.out
        · rw [List.map_append]
          refine HW4.out.kept (row := some W1.heap.size) ⟨rfl, rfl, rfl, by simp [World.setCell], fun k _ hk => Below.heap_setCell _ _ _ _ (fun e => hk (by rw [e]))⟩ ?_
          rcases HW4.out.2 with ⟨h1, _⟩ | ⟨g, cap, cur, h1, h2, _⟩
          · exact .inl (by rw [h1]; rfl)
          · exact .inr (by rw [h1]; simp [Value.ownBlock]; omega)
      case measure => simp [intOf]; omega
    · have d1 : decide ((k : Int) < (l.length : Int)) = false := by simp; omega
      have hkl : k = l.length := by omega
      subst hkl
      obtain ⟨A4, c4, hsh4⟩ := own_shape HOW.out
      subst hsh4
      have hBW := HB1.out.ext HE.out
      have hOB := HOB.out
      have q0 := hBW.cell 0
      have q1 := hBW.cell 1
      have qf0 := hBW.frozen 0
      have qf1 := hBW.frozen 1
      have p0 := hOB.cell 0
      have p1 := hOB.cell 1
      have HBW := Lib.hid hBW
      clear hBW hOB
      go_wp2
      have hBf := (HBW.out.set_ 0 (.slice A l.length cl)).set_ 1 (.slice A4 l.length c4)
      have y0 := hBf.cell 0; have y1 := hBf.cell 1
      have hss := HSS.out
      refine bodyPost_ret (v := .agg #[.slice A l.length cl, .slice A4 l.length c4]) (by simp [results, Tryz.results149, go_sem, y0, y1]) rfl ⟨_, _, rfl, ⟨⟨_, _, _, rfl⟩, ss, ?_, by omega, hss.2⟩, ext_set (ext_set (ext_call HE1.out HE.out) (Nat.le_refl _) _) (Nat.le_refl _) _⟩
      refine own_strs (base := W1.heap.size + 1) (n := l.length) ?_ hss.1
      have hk2 : ∀ (W : World) (i : Nat) (u : Value), W.ownsRow (W1.heap.size + 1) 9 1 (.slice A4 l.length c4) l.length (ss.map Value.string) → (W.setCell ⟨w.heap.size, i, none⟩ u).ownsRow (W1.heap.size + 1) 9 1 (.slice A4 l.length c4) l.length (ss.map Value.string) := fun W i u h => by
        refine h.kept (row := some w.heap.size) ⟨rfl, rfl, rfl, by simp [World.setCell], fun k _ hk => Below.heap_setCell _ _ _ _ (fun e => hk (by rw [e]))⟩ ?_
        rcases h.2 with ⟨h1, _⟩ | ⟨g, cap, cur, h1, h2, _⟩
        · exact .inl (by rw [h1]; rfl)
        · exact .inr (by rw [h1]; simp [Value.ownBlock]; omega)
      exact hk2 _ _ _ (hk2 _ _ _ HOW.out)

end Go.Proofs.YtbgfmbmcabekeaaGreatDoor

/-
  statetree.orders, summaries, Root at any state of at most 60 small rows: some digest.
-/
namespace Go.Proofs.YtbgfmbmcabekeaaGreatDoor
open Go.RowKit Go.Shelf

section
attribute [local go_sem] Oper.semAt_some
/-- what the iterator reads -/
def OrdCR (rs : List RowT) (Bs gs gm : Nat) (pos : Int) (W : World) : Prop := W.cell? ⟨Bs, 0, none⟩ = some (.pointer (some ⟨gs, 0, none⟩)) ∧ StateR W gs gm pos rs
/-- what it hands out -/
def OrdMR (N : Nat) (_ : Nat) (xs : Array Value) (W : World) : Prop := ∃ v1 v2, xs = #[.agg #[v1, v2]] ∧ OrderG N W v1 v2


set_option maxRecDepth 100000 in
set_option maxHeartbeats 1000000 in
theorem ordersR_in (n : Nat) (hn : 1 ≤ n) (rs : List RowT) (hrs : ∀ r ∈ rs, r.sm) (hsz : rs.length ≤ 1000) (l Bs gs gm : Nat) (pos : Int) (J : Nat → World → Prop) (hC : ∀ k W, J k W → OrdCR rs Bs gs gm pos W) (hA : ∀ k A B, J k A → Below A.heap.size A B → J k B)
    (hY : ∀ k xs W1, k < 16 → J k W1 → OrdMR rs.length k xs W1 → YieldAt Fence.wide (n - 1) Tryz.prog l xs W1 fun e W' => e = .returned (.bool true) ∧ J (k + 1) W')
    (W : World) (h0 : J 0 W) :
    CallsIn Fence.wide n Tryz.prog 148 #[.func (.yield l) #[] #[], .pointer (some ⟨Bs, 0, none⟩)] W (OrdPost J) := by
  have HC := Lib.hid hC
  have HA := Lib.hid hA
  have HY := Lib.hid hY
  clear hC hA hY
  refine callsIn_of_wp Tryz.func148 rfl trivial ?_ rfl
  simp only [Tryz.ntmps148, List.size_toArray, List.length_cons, List.length_nil, Nat.reduceAdd, Nat.reduceSub, Array.replicate_succ, Array.replicate_zero, List.push_toArray, List.append_toArray, List.nil_append, List.cons_append]
  gi_wp2
  gi_loopw [5] (fun i wr => ∃ t : Nat, t ≤ 4 ∧ i = .int .i64 (t : Int) ∧ J (4 * t) wr) (fun i _ => (4 - intOf i).toNat)
  case atStart => exact ⟨0, Nat.zero_le _, by simp, h0⟩
  case round =>
    obtain ⟨t, ht, rfl, hJt⟩ := hrel
    by_cases hlt : t < 4
    · have hlt' : (t : Int) < 4 := by omega
      gi_wp2
      gi_loopw [8] (fun i wr => ∃ c : Nat, c ≤ 4 ∧ i = .int .i64 (c : Int) ∧ J (4 * t + c) wr) (fun i _ => (4 - intOf i).toNat)
      case atStart => exact ⟨0, Nat.zero_le _, by simp, hJt⟩
      case round =>
        obtain ⟨c, hc, rfl, hJc⟩ := hrel
        by_cases hlc : c < 4
        · have hlc' : (c : Int) < 4 := by omega
          have HJc := Lib.hid hJc
          have cs := (HC.out _ _ hJc).1
          clear hJc
          gi_wp2_with fail
          refine ⟨trivial, (callsIn_wide.2 (orderR rs hrs gs gm c pos (t : Int) hlc wr (HC.out _ _ HJc.out).2 hsz)).mono ?_⟩
          rintro e W1 ⟨v1, v2, rfl, hO1, hb1⟩
          obtain ⟨fn, tmps, assign, body, hy, hR⟩ := HY.out (4 * t + c) #[.agg #[v1, v2]] W1 (by omega) (HA.out _ _ _ HJc.out hb1) ⟨v1, v2, rfl, hO1⟩
          clear hO1 hb1 cs
          gi_wp2
          refine hR.mono ?_
          rintro e W3 ⟨rfl, hJ3⟩
          have HJ3 := Lib.hid hJ3
          clear hJ3
          gi_wp2
          go_roundw
          case rel => exact ⟨c + 1, by omega, by go_num, HJ3.out⟩
          case measure => simp [intOf]; omega
        · have hlc' : ¬ (c : Int) < 4 := by omega
          have HJt := Lib.hid (show J (4 * (t + 1)) wr by rw [show 4 * (t + 1) = 4 * t + c by omega]; exact hJc)
          clear hJc
          gi_wp2
          go_roundw
          case rel => exact ⟨t + 1, by omega, by go_num, HJt.out⟩
          case measure => simp [intOf]; omega
    · have hlt' : ¬ (t : Int) < 4 := by omega
      have HJt := Lib.hid (show J 16 wr by rw [show 16 = 4 * t by omega]; exact hJt)
      clear hJt
      gi_wp2
      go_end0
      exact ⟨⟨_, rfl⟩, HJt.out⟩

theorem ordersR_seq (n : Nat) (hn : 1 ≤ n) (rs : List RowT) (hrs : ∀ r ∈ rs, r.sm) (hsz : rs.length ≤ 1000) (Bs gs gm : Nat) (pos : Int) :
    SeqMem n Tryz.prog 148 #[.pointer (some ⟨Bs, 0, none⟩)] 16 (OrdCR rs Bs gs gm pos) (OrdMR rs.length) :=
  fun l J W hC hA hY h0 => ordersR_in n hn rs hrs hsz l Bs gs gm pos J hC hA hY W h0

end

section
attribute [local go_sem] run_semAt
attribute [local go_sem high] app_sem

theorem OwnP.orderG {B N : Nat} {v1 v2 : Value} : OwnP B (fun W => OrderG N W v1 v2) := fun _ X Y row hs hg hr => by
  obtain ⟨h1, ss, h2, h3⟩ := hs
  exact ⟨h1, ss, OwnP.strs (B := B) () X Y row h2 hg hr, h3⟩
theorem orderG_slices {N : Nat} {W : World} {v1 v2 : Value} (h : OrderG N W v1 v2) : ∃ A1 n1 c1 A2 n2 c2, v1 = .slice A1 n1 c1 ∧ v2 = .slice A2 n2 c2 := by
  obtain ⟨⟨A, n, c, rfl⟩, ss, ⟨A2, c2, rfl, _⟩, _⟩ := h
  exact ⟨_, _, _, _, _, _, rfl, rfl⟩
theorem OwnP.stateR {B gs gm : Nat} {pos : Int} {rs : List RowT} (h : gm < B) : OwnP B (fun W => StateR W gs gm pos rs) := OwnP.and OwnP.blk (fun _ X Y row hs hg hr => by
  obtain ⟨es, c, hm, h2⟩ := hs
  exact ⟨es, c, OwnP.map (B := B) h () X Y row hm hg hr, h2⟩)
/-- what is known between two rounds -/
def SumsR (rs : List RowT) (w : World) (gs gm : Nat) (pos : Int) (k : Nat) (W : World) : Prop :=
  (∃ L : List ByteArray, (L.length = k ∧ ∀ s ∈ L, s.size ≤ 40) ∧ ∃ v, Boxed W w.heap.size 89 v ∧ W.ownsRow w.heap.size 9 1 v k (L.map Value.string) ∧ True) ∧ Below w.heap.size w W ∧ Blk W (w.heap.size + 1) 69 #[.pointer (some ⟨gs, 0, none⟩)] ∧ StateR W gs gm pos rs ∧ RoundOK W
theorem SumsR.own (rs : List RowT) (w : World) (gs gm : Nat) (pos : Int) (k B : Nat) (hB : w.heap.size ≤ B) (hg : gm < B) : OwnP B (SumsR rs w gs gm pos k) :=
  OwnP.and (fun _ X Y row hs h1 h2 => by
      obtain ⟨L, hL, hv⟩ := hs
      exact ⟨L, hL, (Own.from (holdsRow_own w.heap.size w.heap.size 89 9 1 (fun _ : Unit => k) (fun _ : Unit => L.map Value.string) (fun _ _ => True)) B) () X Y row hv h1 h2⟩)
    (OwnP.and (OwnP.below (Nat.le_refl _) hB) (OwnP.and OwnP.blk (OwnP.and (OwnP.stateR hg) OwnP.round)))
theorem sumsR_round {rs : List RowT} {w W W1 W2 W' : World} {gs gm k B : Nat} {pos : Int} {v : Value} (hS : StateR w gs gm pos rs) (hR : RoundOK w) (hI : Below w.heap.size w W1 ∧ Blk W1 (w.heap.size + 1) 69 #[.pointer (some ⟨gs, 0, none⟩)] ∧ StateR W1 gs gm pos rs ∧ RoundOK W1)
    (h1 : Below W.heap.size W W1) (h2 : Below W1.heap.size W1 W2) (hk : KeepsOthers W2 W') (hb : Below w.heap.size W2 W') (L : List ByteArray) (hL : L.length = k + 1) (hLs : ∀ s ∈ L, s.size ≤ 40) (hv : Boxed W' w.heap.size 89 v) (hr : W'.ownsRow w.heap.size 9 1 v (k + 1) (L.map Value.string))
    (ho : Blk W' (w.heap.size + 1) 69 #[.pointer (some ⟨gs, 0, none⟩)]) : KeepsFrom B W W' ∧ SumsR rs w gs gm pos (k + 1) W' := by
  have hE : Below w.heap.size w W' := (ext_call hI.1 h2).trans hb
  exact ⟨(((keeps_below h1).trans (keeps_below h2)).trans hk).from _, ⟨L, ⟨hL, hLs⟩, v, hv, hr, trivial⟩, hE, ho, hS.ext hE, hR.below hE⟩

set_option maxHeartbeats 1000000 in
set_option maxRecDepth 100000 in
theorem summariesR (rs : List RowT) (hrs : ∀ r ∈ rs, r.sm) (hsz : rs.length ≤ 60) (gs gm : Nat) (pos : Int) (w : World) (hS : StateR w gs gm pos rs) (hR : RoundOK w) :
    Calls Tryz.prog 59 #[.pointer (some ⟨gs, 0, none⟩)] w fun e w' => ∃ v L, e = .returned v ∧ Strs (fun b => w.heap.size ≤ b) w' v L ∧ L.length = 16 ∧ (∀ s ∈ L, s.size ≤ 40) ∧ Below w.heap.size w w' := by
  have HS := Lib.hid hS
  have HR := Lib.hid hR
  have hgm := hS.2.lt
  obtain ⟨is, his, hzs0, hzs1, hzs2⟩ := info_parts str_info
  clear hS hR
  refine (callsIn_wide (n := 3)).1 (callsIn_of_wp_marks Tryz.func59 rfl trivial (wpIn_wide.2 ?_) rfl)
  simp only [Tryz.ntmps59, List.size_toArray, List.length_cons, List.length_nil, Nat.reduceAdd, Nat.reduceSub, Array.replicate_succ, Array.replicate_zero, List.push_toArray, List.append_toArray, List.nil_append, List.cons_append]
  go_wp2_with (go_at_call 102; refine (orders_any gs _).mono ?_; rintro e W2 ⟨rfl, rfl⟩)
  have hE0 : Below w.heap.size w ((w.alloc (.cells #[.slice none 0 0] 89)).alloc (.cells #[.pointer (some ⟨gs, 0, none⟩)] 69)) := ext_alloc (ext_new _ _) _
  have hI0 : SumsR rs w gs gm pos 0 ((w.alloc (.cells #[.slice none 0 0] 89)).alloc (.cells #[.pointer (some ⟨gs, 0, none⟩)] 69)) :=
    ⟨⟨[], ⟨rfl, by simp⟩, _, (Boxed.new _ _ _).alloc _, World.ownsRow_nil _ _ _ _, trivial⟩, hE0, Blk.new' _ _ _ (by simp), HS.out.ext hE0, HR.out.below hE0⟩
  refine (wpIn_wide (n := 3)).1 ?_
  refine' wpIn_mem_box2 (by omega) (gf := 148) (lb := #[.pointer (some ⟨w.heap.size + 1, 0, none⟩)]) (by simp [Act.eval]) (enters_of Tryz.func148 (by kernel_rfl) rfl)
    (M := fun _ v1 v2 W => OrderG rs.length W v1 v2) (ordersR_seq 2 (by omega) rs hrs (by omega) (w.heap.size + 1) gs gm pos) rfl
    (SumsR rs w gs gm pos) (fun k => SumsR.own rs w gs gm pos k _ (by simp; omega) (by simp; omega)) (fun k W h => ⟨h.2.2.1.cell 0, h.2.2.2.1⟩) hI0 (fun k v1 v2 => OwnP.orderG) (fun k v1 v2 W h => orderG_slices h) 184 _ ?assign ?body ?done
  case assign =>
    intro l h A1 n1 c1 A2 n2 c2 W K hh hK
    gi_wp2
    rw [← hh]
    exact hK
  case body =>
    rintro l h k A1 n1 c1 A n0 c W hk hsz' hh hB ⟨-, ss, hstr, hsl, hss⟩ ⟨⟨L, ⟨hLl, hLs⟩, v, hv, hrow, _⟩, hb, hcs, hst, hro⟩
    have HStr := Lib.hid hstr
    have hE1 : ss.length < 64 := by omega
    have HEl := Lib.hid (show ∀ x ∈ ss, x.size ≤ 100000 by intro x hx; have := hss x hx; omega)
    have HLL := Lib.hid (And.intro hLl hLs)
    obtain rfl : n0 = ss.length := by
      obtain ⟨A', c', h', _⟩ := hstr
      injection h'
    obtain ⟨n, hn⟩ : ∃ n, n = ss.length := ⟨_, rfl⟩
    rw [← hn] at HStr hE1 hB ⊢
    have HN := Lib.hid hn
    clear hn hstr hsl hss hLl hLs
    have HB := Lib.hid hB
    have HV := Lib.hid hv
    have HRow := Lib.hid hrow
    have HI := Lib.hid (And.intro hb (And.intro hcs (And.intro hst hro)))
    have h0 := hB.cell 0
    have h1 := hB.cell 1
    have hl := hB.lt
    clear hB hv hrow hb hcs hst hro
    gi_wp2_with fail
    refine ⟨trivial, (CallsIn.inRound l (callsIn_wide.2 (putInt_any n (by omega) W))).mono ?_⟩
    rintro e W1 ⟨rfl, hb1⟩
    have HB1 := Lib.hid (HB.out.ext hb1)
    have HV1 := Lib.hid (HV.out.kept (below_grown hb1) (by simp))
    have HRow1 := Lib.hid (own_below HRow.out hb1)
    have HI1 := Lib.hid (show Below w.heap.size w W1 ∧ Blk W1 (w.heap.size + 1) 69 #[.pointer (some ⟨gs, 0, none⟩)] ∧ StateR W1 gs gm pos rs ∧ RoundOK W1 from ⟨ext_call HI.out.1 hb1, HI.out.2.1.ext hb1, HI.out.2.2.1.ext hb1, HI.out.2.2.2.below hb1⟩)
    have HK1 := Lib.hid hb1
    have HRoot := Lib.hid (show ∀ X : World, Below W1.heap.size W1 X → Calls Tryz.prog 58 #[.slice A n c] X fun e w' => e = .returned (.string (rootF ss)) ∧ Below X.heap.size X w' from
      fun X hX => root_any (fun _ => True) _ _ X ((HStr.out.below HK1.out).below hX) (by rw [← HN.out]; omega) HEl.out (HI1.out.2.2.2.below hX))
    have hrz := rootF_size ss
    generalize rootF ss = rt at *
    have hb9 := byteS_size (2 * n)
    have hsum : (byteS (2 * n)).size + rt.size ≤ 9223372036854775807 := by rw [byteS_size]; omega
    generalize byteS (2 * n) = s1 at *
    have hcat := fun W : World => run_string_add_sum (P := Tryz.prog) (w := W) s1 rt hsum
    have HT40 := Lib.hid (show (s1 ++ rt).size ≤ 40 by rw [ByteArray.size_append]; omega)
    clear h0 h1 hl hb1 hrz
    have h1 := HB1.out.cell 1
    have hl := HB1.out.lt
    have hv := HV1.out.cell
    have hvf := HV1.out.frozen
    have hvl := HV1.out.lt
    gi_wp2
    have hz1 : w.heap.size ≤ W1.heap.size := HI1.out.1.size
    gi_region_with (refine ⟨trivial, (CallsIn.inRound l (callsIn_wide.2 (HRoot.out _ ?_))).mono ?_⟩; (exact (ext_refl _).drew); rintro e W2 ⟨rfl, hb2⟩; obtain ⟨hok, g3, cap3, W3, hav, haw, hv3, hv4, hr4, hk4, hb4, ho4⟩ := sums_after (s1 ++ rt) (HV1.out.kept (below_grown (undrew hb2)) (by simp)) (own_below HRow1.out (undrew hb2)) (Nat.le_trans hz1 (undrew hb2).size) (Nat.le_refl _) (Nat.lt_trans hk (by decide)); have c2 := (cell_ext hv (undrew hb2)); have hvl2 : w.heap.size < W2.heap.size := lt_of_cell c2; have c3 := hv3.cell; have f3 := hv3.frozen; have HV4 := Lib.hid hv4; have HR4 := Lib.hid hr4; have HK4 := Lib.hid hk4; have HB4 := Lib.hid hb4; have HO4 := Lib.hid ho4; have HB2 := Lib.hid (undrew hb2); clear hb2 hv3 hv4 hr4 hk4 hb4 ho4)
    all_goals
      refine sumsR_round HS.out HR.out HI1.out HK1.out HB2.out HK4.out HB4.out (L ++ [s1 ++ rt]) (by rw [List.length_append, HLL.out.1]; rfl) (by intro y hy; rcases List.mem_append.1 hy with h | h; exact HLL.out.2 y h; simp at h; rw [h]; exact HT40.out) HV4.out ?_ (HO4.out _ _ _ (HI1.out.2.1.ext HB2.out) (by decide) (by omega))
      rw [List.map_append]
      exact HR4.out
  case done =>
    rintro D W hD ⟨⟨L, ⟨hLl, hLs⟩, v, hv, hrow, _⟩, hb, hcs, hst, hro⟩ hK
    have HLL := Lib.hid (And.intro hLl hLs)
    clear hLl hLs
    have hvc := hv.cell
    have HRow := Lib.hid hrow
    have HBe := Lib.hid hb
    clear hrow hb hcs hst hro
    go_wp2
    refine ⟨by simp, .inl ⟨_, _, rfl, run_takeDeferred hK, ?_⟩⟩
    refine ⟨_, results_tmp rfl _ _ _, _, L, rfl, ?_, HLL.out.1, HLL.out.2, ?_⟩
    · obtain ⟨g, cap, rfl⟩ := ownsRow_succ HRow.out
      refine ⟨_, cap, by rw [HLL.out.1]; rfl, ?_, fun _ => ⟨g, 0, rfl, ?_, fun j x hx => ?_⟩⟩
      · rw [HLL.out.1]; exact own_cap HRow.out
      · exact (HRow.out.lt g rfl).1
      · have h1 := HRow.out.cells (g := g) rfl j (.string x) (by rw [List.getElem?_map, hx]; rfl)
        rw [add_lit0] at h1
        rw [Nat.zero_add]
        refine cell_kept h1 (grownBy_putObj' W D _) (fun r e => ?_)
        injection e with e
        subst e
        exact ⟨_, hK, rfl⟩
    · exact ext_put HBe.out (by simp at hD; omega) _

end

set_option maxHeartbeats 400000 in
theorem stateRootR (rs : List RowT) (hrs : ∀ r ∈ rs, r.sm) (hsz : rs.length ≤ 60) (gs gm : Nat) (pos : Int) (w : World) (hS : StateR w gs gm pos rs) (hR : RoundOK w) :
    Calls Tryz.prog 26 #[.pointer (some ⟨gs, 0, none⟩)] w fun e w' => ∃ s : ByteArray, e = .returned (.string s) ∧ s.size = 32 ∧ Below w.heap.size w w' := by
  have HS := Lib.hid (summariesR rs hrs hsz gs gm pos w hS hR)
  have HR := Lib.hid hR
  clear hS hR hrs hsz
  go_enter Tryz.func26, Tryz.ntmps26
  go_wp2_with fail
  refine HS.out.mono ?_
  rintro e W1 ⟨v, L, rfl, hs1, hl1, hz1, hb1⟩
  have HRT := Lib.hid (root_any _ v _ W1 hs1 (by omega) (fun x hx => by have := hz1 x hx; omega) (HR.out.below hb1))
  have HZ := Lib.hid (rootF_size L)
  have HB1 := Lib.hid hb1
  generalize rootF L = sf at HRT HZ
  clear hs1 hb1 hl1 hz1
  go_wp2_with fail
  refine HRT.out.mono ?_
  rintro e W2 ⟨rfl, hb2⟩
  go_wp2
  go_ret
  exact ⟨sf, rfl, HZ.out, ext_call HB1.out hb2⟩

end Go.Proofs.YtbgfmbmcabekeaaGreatDoor

/-
  package logtree: Next at any small valid changes.
-/
namespace Go.Proofs.YtbgfmbmcabekeaaGreatDoor
open Go.RowKit
attribute [local go_sem ↓] Go.wp_at_zero Go.wp_at_succ

theorem encChg_length (c : ChgT) : (encChg c).length ≤ 9 := by
  unfold encChg
  cases c.had <;> cases c.has <;> simp
theorem encRec_size (p : Int) (l : List ChgT) (h : l.length ≤ 8) : (encZ (encRec p l)).size ≤ 100 := by
  rw [encZ_size, encRec, List.length_append]
  have h2 : ∀ l : List ChgT, (l.flatMap encChg).length ≤ 9 * l.length := fun l => by
    induction l with
    | nil => simp
    | cons a r ih =>
      rw [List.flatMap_cons, List.length_append, List.length_cons]
      have := encChg_length a
      omega
  have := h2 l
  simp only [List.length_cons, List.length_nil]
  omega

set_option maxRecDepth 100000 in
set_option maxHeartbeats 1000000 in
theorem logNextR (n : Nat) (hn : n ≤ 60) (l : List ChgT) (v : Value) (z s t : ByteArray) (hz : z.size = 32) (hs : s.size = 32) (ht : t.size = 32) (w : World) (hv : ChgsAt w v l) (hl : ChgsOK l) (hsm : ∀ x ∈ l, x.small) (hF : validF l = true) (hR : RoundOK w) :
    Calls Tryz.prog 75 #[.agg #[.int .i64 (n : Int), .string z, .string s], .agg #[.int .i64 ((n : Int) + 1), v], .string t] w
      fun e w' => e = .returned (.tuple #[.agg #[.int .i64 ((n : Int) + 1), .string (chainF z (encZ (encRec ((n : Int) + 1) l))), .string t], .int .i64 0]) ∧ Below w.heap.size w w' := by
  have HZs := Lib.hid hz
  have HSs := Lib.hid hs
  have HTs := Lib.hid ht
  have HR := Lib.hid hR
  have hrs := encRec_size ((n : Int) + 1) l hl.few
  have HCh := Lib.hid (show ∀ W : World, RoundOK W → Calls Tryz.prog 116 #[.string z, .string (encZ (encRec ((n : Int) + 1) l))] W fun e w' => e = .returned (.string (chainF z (encZ (encRec ((n : Int) + 1) l)))) ∧ Below W.heap.size W w' from fun W h => chain_any z (encZ (encRec ((n : Int) + 1) l)) W h (by omega) (by omega))
  have HEr := Lib.hid (fun (W : World) (h : Below w.heap.size w W) => encRecord_any ((n : Int) + 1) ⟨by omega, by omega⟩ l v W (hv.ext h) hl hsm hF)
  obtain ⟨A, c, rfl, -⟩ := hv
  generalize chainF z (encZ (encRec ((n : Int) + 1) l)) = cz at *
  generalize encZ (encRec ((n : Int) + 1) l) = re at *
  have e1 : IntKind.i64.wrap ((n : Int) + 1) = (n : Int) + 1 := by rw [IntWalk.i64_in _ (by omega)]
  obtain ⟨W0, hW0⟩ : ∃ W0, W0 = ((w.alloc (.cells #[.int .i64 (n : Int), .string z, .string s] 86)).alloc (.cells #[.int .i64 ((n : Int) + 1), .slice A l.length c] 46)).alloc (.cells #[.int .i64 0, .string ⟨#[]⟩, .string ⟨#[]⟩] 86) := ⟨_, rfl⟩
  have HE0 := Lib.hid (show Below w.heap.size w W0 by rw [hW0]; exact ext_alloc (ext_alloc (ext_new _ _) _) _)
  have HH0 := Lib.hid (show Blk W0 w.heap.size 86 #[.int .i64 (n : Int), .string z, .string s] by rw [hW0]; exact ((Blk.new _ _ _).alloc _).alloc _)
  have HR0 := Lib.hid (show Blk W0 (w.heap.size + 1) 46 #[.int .i64 ((n : Int) + 1), .slice A l.length c] by rw [hW0]; exact (Blk.new' _ _ _ (by simp)).alloc _)
  have HO0 := Lib.hid (show Blk W0 (w.heap.size + 1 + 1) 86 #[.int .i64 0, .string ⟨#[]⟩, .string ⟨#[]⟩] by rw [hW0]; exact Blk.new' _ _ _ (by simp))
  have HW0 := Lib.hid hW0
  clear hz hs ht hR hW0 hrs hl hsm hF
  go_enter Tryz.func75, Tryz.ntmps75
  go_wp2_with fail
  rw [← HW0.out]
  refine (HEr.out _ HE0.out).mono ?_
  rintro e W1 ⟨rfl, hb1⟩
  have HH1 := Lib.hid (HH0.out.ext hb1)
  have HR1 := Lib.hid (HR0.out.ext hb1)
  have HO1 := Lib.hid (HO0.out.ext hb1)
  have HE1 := Lib.hid (ext_call HE0.out hb1)
  have c0 := HH1.out.cell 0; have c1 := HH1.out.cell 1; have c2 := HH1.out.cell 2
  clear hb1
  go_wp2_with fail
  refine (logValid n z s (by omega) HZs.out HSs.out _).mono ?_
  rintro e W2 ⟨rfl, hb2⟩
  have HH2 := Lib.hid (HH1.out.ext hb2)
  have HR2 := Lib.hid (HR1.out.ext hb2)
  have HO2 := Lib.hid (HO1.out.ext hb2)
  have HE2 := Lib.hid (ext_call HE1.out hb2)
  clear hb2 c0 c1 c2
  have c0 := HH2.out.cell 0; have c1 := HH2.out.cell 1; have c2 := HH2.out.cell 2
  have r0 := HR2.out.cell 0; have r1 := HR2.out.cell 1
  have o0 := HO2.out.cell 0; have o1 := HO2.out.cell 1; have o2 := HO2.out.cell 2
  have f0 := HO2.out.frozen 0
  have f1 := HO2.out.frozen 1
  have f2 := HO2.out.frozen 2
  go_wp2_with (go_at_call 65; refine (isDig t HTs.out _).mono ?_; rintro e w' ⟨rfl, rfl⟩)
  go_region_with (go_at_call 116; refine (HCh.out _ ?_).mono ?_; (exact (HR.out.below HE2.out.drew)); rintro e W3 ⟨rfl, hb3⟩; have HH3 := Lib.hid (HH2.out.ext (undrew hb3)); have HR3 := Lib.hid (HR2.out.ext (undrew hb3)); have HO3 := Lib.hid (HO2.out.ext (undrew hb3)); have HE3 := Lib.hid (ext_call HE2.out (undrew hb3)); clear hb3; have cc0 := HH3.out.cell 0; have cc1 := HH3.out.cell 1; have cc2 := HH3.out.cell 2; have rr0 := HR3.out.cell 0; have rr1 := HR3.out.cell 1; have oo0 := HO3.out.cell 0; have oo1 := HO3.out.cell 1; have oo2 := HO3.out.cell 2; have ff0 := HO3.out.frozen 0; have ff1 := HO3.out.frozen 1; have ff2 := HO3.out.frozen 2)
  all_goals
    go_wp2
    have hBf := ((HO3.out.set_ 0 (.int .i64 ((n : Int) + 1))).set_ 1 (.string cz)).set_ 2 (.string t)
    have y0 := hBf.cell 0; have y1 := hBf.cell 1; have y2 := hBf.cell 2
    refine bodyPost_ret (v := .tuple #[.agg #[.int .i64 ((n : Int) + 1), .string cz, .string t], .int .i64 0]) (by simp [results, Tryz.results75, go_sem, y0, y1, y2]) rfl ⟨rfl, ?_⟩
    exact ext_set (ext_set (ext_set HE3.out (by simp; omega) _) (by simp; omega) _) (by simp; omega) _

end Go.Proofs.YtbgfmbmcabekeaaGreatDoor

/-
  package logtree: own; what a log is, in memory.
-/
namespace Go.Proofs.YtbgfmbmcabekeaaGreatDoor
open Go.RowKit
attribute [local go_sem ↓] Go.wp_at_zero Go.wp_at_succ

set_option maxRecDepth 100000 in
set_option maxHeartbeats 1000000 in
theorem logOwnG (p : Int) (l : List ChgT) (v : Value) (w : World) (hv : ChgsAt w v l) (h0 : 0 < l.length) (h1 : l.length ≤ 8) :
    Calls Tryz.prog 76 #[.agg #[.int .i64 p, v]] w fun e w' => ∃ g d, e = .returned (.agg #[.int .i64 p, .slice (some ⟨g, 0, none⟩) l.length d]) ∧ w.heap.size ≤ g ∧ l.length ≤ d ∧ ChgB w' g l ∧ Below w.heap.size w w' := by
  have HVV := Lib.hid hv
  obtain ⟨A, c, rfl, -⟩ := hv
  have HV := HVV
  clear HVV
  have HX0 := Lib.hid ((Blk.new w 46 #[.int .i64 p, .slice A l.length c]).alloc (.cells #[.int .i64 0, .slice none 0 0] 46))
  have HO0 := Lib.hid (Blk.new' (w.alloc (.cells #[.int .i64 p, .slice A l.length c] 46)) 46 #[.int .i64 0, .slice none 0 0] (b := w.heap.size + 1) (by simp))
  have HB := Lib.hid (HV.out.ext (ext_alloc (ext_new w (.cells #[.int .i64 p, .slice A l.length c] 46)) (.cells #[.int .i64 0, .slice none 0 0] 46)))
  clear HV
  go_enter Tryz.func76, Tryz.ntmps76
  go_wp2_with fail
  refine (cloneChgs l _ _ HB.out h0 (by omega)).mono ?_
  rintro e W1 ⟨g, d, rfl, hgg, hd, hch, hb1⟩
  have HD := Lib.hid hd
  clear hd
  have HGG := Lib.hid hgg
  have HCH := Lib.hid hch
  clear hgg hch
  have HX1 := Lib.hid (HX0.out.ext hb1)
  have HO1 := Lib.hid (HO0.out.ext hb1)
  have HE1 := Lib.hid (ext_call (ext_alloc (ext_new w _) _) hb1)
  clear hb1
  have x0 := HX1.out.cell 0; have x1 := HX1.out.cell 1
  have o0 := HO1.out.cell 0; have o1 := HO1.out.cell 1
  have f0 := HX1.out.frozen 0
  have f1 := HX1.out.frozen 1
  have g0 := HO1.out.frozen 0
  have g1 := HO1.out.frozen 1
  go_wp2
  have hBf := ((HO1.out.far (p := ⟨w.heap.size, 1, none⟩) (by simp) (.slice (some ⟨g, 0, none⟩) l.length d)).set_ 0 (.int .i64 p)).set_ 1 (.slice (some ⟨g, 0, none⟩) l.length d)
  have y0 := hBf.cell 0; have y1 := hBf.cell 1
  refine bodyPost_ret (v := .agg #[.int .i64 p, .slice (some ⟨g, 0, none⟩) l.length d]) (by simp [results, Tryz.results76, go_sem, y0, y1]) rfl ⟨_, _, rfl, ?_, HD.out, ?_, ?_⟩
  · have := HGG.out; simp at this; omega
  · have h2 := HGG.out; simp at h2; exact ((HCH.out.far (by simp; omega) _).far (by simp; omega) _).far (by simp; omega) _
  exact ext_set (ext_set (ext_set HE1.out (by simp) _) (by simp) _) (by simp) _

/-- the cells of records, of heads -/
def rcF : Nat → List (List ChgT × Nat × Nat) → List Value
  | _, [] => []
  | i, x :: r => .int .i64 ((i : Int) + 1) :: .slice (some ⟨x.2.1, 0, none⟩) x.1.length x.2.2 :: rcF (i + 1) r
def hcF : Nat → List (ByteArray × ByteArray) → List Value
  | _, [] => []
  | i, h :: r => .int .i64 (i : Int) :: .string h.1 :: .string h.2 :: hcF (i + 1) r
theorem rcF_append : ∀ (R : List (List ChgT × Nat × Nat)) (i : Nat) (x : List ChgT × Nat × Nat), rcF i (R ++ [x]) = rcF i R ++ [.int .i64 (((i + R.length : Nat) : Int) + 1), .slice (some ⟨x.2.1, 0, none⟩) x.1.length x.2.2]
  | [], i, x => by simp [rcF]
  | y :: R, i, x => by
    simp only [List.cons_append, rcF, rcF_append R (i + 1) x, List.length_cons]
    rw [show i + 1 + R.length = i + (R.length + 1) by omega]
theorem hcF_append : ∀ (H : List (ByteArray × ByteArray)) (i : Nat) (x : ByteArray × ByteArray), hcF i (H ++ [x]) = hcF i H ++ [.int .i64 ((i + H.length : Nat) : Int), .string x.1, .string x.2]
  | [], i, x => by simp [hcF]
  | y :: H, i, x => by
    simp only [List.cons_append, hcF, hcF_append H (i + 1) x, List.length_cons]
    rw [show i + 1 + H.length = i + (H.length + 1) by omega]
theorem rcF_at : ∀ (R : List (List ChgT × Nat × Nat)) (i j : Nat) (x : List ChgT × Nat × Nat), R[j]? = some x → (rcF i R)[j * 2]? = some (.int .i64 (((i + j : Nat) : Int) + 1)) ∧ (rcF i R)[j * 2 + 1]? = some (.slice (some ⟨x.2.1, 0, none⟩) x.1.length x.2.2)
  | [], i, j, x, h => by simp at h
  | y :: R, i, 0, x, h => by simp at h; subst h; simp [rcF]
  | y :: R, i, j + 1, x, h => by
    have h1 := rcF_at R (i + 1) j x (by simpa using h)
    rw [show i + 1 + j = i + (j + 1) by omega] at h1
    rw [show (j + 1) * 2 = j * 2 + 2 by omega]
    simpa [rcF] using h1
theorem hcF_at : ∀ (H : List (ByteArray × ByteArray)) (i j : Nat) (x : ByteArray × ByteArray), H[j]? = some x → (hcF i H)[j * 3]? = some (.int .i64 ((i + j : Nat) : Int)) ∧ (hcF i H)[j * 3 + 1]? = some (.string x.1) ∧ (hcF i H)[j * 3 + 2]? = some (.string x.2)
  | [], i, j, x, h => by simp at h
  | y :: H, i, 0, x, h => by simp at h; subst h; simp [hcF]
  | y :: H, i, j + 1, x, h => by
    have h1 := hcF_at H (i + 1) j x (by simpa using h)
    rw [show i + 1 + j = i + (j + 1) by omega] at h1
    rw [show (j + 1) * 3 = j * 3 + 3 by omega]
    simpa [hcF] using h1
/-- a log of these records, with these heads -/
structure LogG (B : Nat) (w : World) (gl : Nat) (rv hv : Value) (R : List (List ChgT × Nat × Nat)) (H : List (ByteArray × ByteArray)) : Prop where
  log : Blk w gl 144 #[rv, hv]
  recs : w.ownsRow B 46 2 rv R.length (rcF 0 R)
  heads : w.ownsRow B 86 3 hv H.length (hcF 0 H)
  chg : ∀ x ∈ R, ChgB w x.2.1 x.1 ∧ x.1.length ≤ x.2.2
  len : H.length = R.length + 1
  sizes : ∀ h ∈ H, h.1.size = 32 ∧ h.2.size = 32
theorem LogG.ext {B : Nat} {w W : World} {gl : Nat} {rv hv : Value} {R : List (List ChgT × Nat × Nat)} {H : List (ByteArray × ByteArray)} (h : LogG B w gl rv hv R H) (k : Below w.heap.size w W) : LogG B W gl rv hv R H :=
  ⟨h.log.ext k, own_ext h.recs k, own_ext h.heads k, fun x hx => ⟨(h.chg x hx).1.ext k, (h.chg x hx).2⟩, h.len, h.sizes⟩

/-- the blocks that an append to a log may change -/
def ApX (gl : Nat) (rv hv : Value) (k : Nat) : Prop := k = gl ∨ rv.ownBlock = some k ∨ hv.ownBlock = some k
/-- what holds while a log is appended to: X is the world ahead of it -/
structure ApI (B : Nat) (X : World) (gl : Nat) (rv hv : Value) (R : List (List ChgT × Nat × Nat)) (rv' : Value) (nr : Nat) (rcs : List Value) (hv' : Value) (nh : Nat) (hcs : List Value) (U : World) : Prop where
  ext : ExtS (ApX gl rv hv) X U
  log : Blk U gl 144 #[rv, hv]
  recs : U.ownsRow B 46 2 rv' nr rcs
  heads : U.ownsRow B 86 3 hv' nh hcs
  chg : ∀ x ∈ R, ChgB U x.2.1 x.1
section
variable {B : Nat} {X U V : World} {gl nr nh : Nat} {rv hv rv' hv' : Value} {R : List (List ChgT × Nat × Nat)} {rcs hcs : List Value}
theorem ApI.start {H : List (ByteArray × ByteArray)} (h : LogG B X gl rv hv R H) : ApI B X gl rv hv R rv R.length (rcF 0 R) hv H.length (hcF 0 H) X :=
  ⟨.of_ext (ext_refl X), h.log, h.recs, h.heads, fun x hx => (h.chg x hx).1⟩
theorem ApI.below (h : ApI B X gl rv hv R rv' nr rcs hv' nh hcs U) (k : Below U.heap.size U V) : ApI B X gl rv hv R rv' nr rcs hv' nh hcs V :=
  ⟨h.ext.trans (.of_ext k), h.log.ext k, own_ext h.recs k, own_ext h.heads k, fun x hx => (h.chg x hx).ext k⟩
theorem ChgB.grownT {e : TypeId} {sz n : Nat} {g : Nat} {l : List ChgT} {v : Value} {xs : List Value} (h : ChgB U g l) (hg : U.grownBy V v.ownBlock) (ho : U.ownsRow B e sz v n xs) (ht : 75 ≠ e) : ChgB V g l := by
  obtain ⟨cur, h, h2⟩ := h
  refine ⟨cur, h.grown hg ?_, h2⟩
  rcases ho.2 with ⟨rfl, _⟩ | ⟨g', cap, cur', rfl, _, hb, _⟩
  · simp [Value.ownBlock]
  · intro e2
    have e3 : g = g' := Option.some.inj e2
    subst e3
    exact blkNe h hb ht rfl
theorem Blk.grownT {t e : TypeId} {sz n g : Nat} {cs : Array Value} {v : Value} {xs : List Value} (h : Blk U g t cs) (hg : U.grownBy V v.ownBlock) (ho : U.ownsRow B e sz v n xs) (ht : t ≠ e) : Blk V g t cs := by
  refine h.grown hg ?_
  rcases ho.2 with ⟨rfl, _⟩ | ⟨g', cap, cur', rfl, _, hb, _⟩
  · simp [Value.ownBlock]
  · intro e2
    have e3 : g = g' := Option.some.inj e2
    subst e3
    exact blkNe h hb ht rfl
theorem own_grownT {e e' : TypeId} {sz n sz' n' : Nat} {v v' : Value} {xs xs' : List Value} (h : U.ownsRow B e' sz' v' n' xs') (hg : U.grownBy V v.ownBlock) (ho : U.ownsRow B e sz v n xs) (ht : e' ≠ e) : V.ownsRow B e' sz' v' n' xs' :=
  h.kept hg (own_ne h ho ht)
theorem ApI.app_rec {w1 : Value} {n1 : Nat} {xs1 : List Value} (h : ApI B X gl rv hv R rv nr rcs hv' nh hcs U) (ho : V.ownsRow B 46 2 w1 n1 xs1) (hg : U.grownBy V rv.ownBlock) : ApI B X gl rv hv R w1 n1 xs1 hv' nh hcs V :=
  ⟨⟨hg.os.trans h.ext.os, hg.tape.trans h.ext.tape, hg.output.trans h.ext.output, Nat.le_trans h.ext.size hg.size, fun k hk hn => (hg.block k (Nat.lt_of_lt_of_le hk h.ext.size) (fun e => hn (.inr (.inl e.symm)))).trans (h.ext.block k hk hn)⟩,
    h.log.grownT hg h.recs (by decide), ho, own_grownT h.heads hg h.recs (by decide), fun x hx => (h.chg x hx).grownT hg h.recs (by decide)⟩
theorem ApI.app_head {w1 : Value} {n1 : Nat} {xs1 : List Value} (h : ApI B X gl rv hv R rv' nr rcs hv nh hcs U) (ho : V.ownsRow B 86 3 w1 n1 xs1) (hg : U.grownBy V hv.ownBlock) : ApI B X gl rv hv R rv' nr rcs w1 n1 xs1 V :=
  ⟨⟨hg.os.trans h.ext.os, hg.tape.trans h.ext.tape, hg.output.trans h.ext.output, Nat.le_trans h.ext.size hg.size, fun k hk hn => (hg.block k (Nat.lt_of_lt_of_le hk h.ext.size) (fun e => hn (.inr (.inr e.symm)))).trans (h.ext.block k hk hn)⟩,
    h.log.grownT hg h.heads (by decide), own_grownT h.recs hg h.heads (by decide), ho, fun x hx => (h.chg x hx).grownT hg h.heads (by decide)⟩
end

end Go.Proofs.YtbgfmbmcabekeaaGreatDoor
