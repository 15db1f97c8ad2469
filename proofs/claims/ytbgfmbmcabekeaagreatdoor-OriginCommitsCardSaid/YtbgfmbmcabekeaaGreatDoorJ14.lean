/-
  Part 14 of 17: the contracts that the proof of the last part uses; each stands under its own head.
-/
import Derived.Shelf.SlSortCmp.WholeK
import Derived.Ground.SlsfProg
import Derived.Test.YtbgfmbmcabekeaaGreatDoorProg
import Derived.Test.YtbgfmbmcabekeaaGreatDoorJ13
import Derived.Test.YtbgfmbmcabekeaaGreatDoorJ3
import Derived.Test.YtbgfmbmcabekeaaGreatDoorJ5
import Derived.Test.YtbgfmbmcabekeaaGreatDoorJ8
set_option linter.unusedSimpArgs false
set_option linter.unusedVariables false

/-
  DERIVED: THE SHELF's CONTRACTS AT THIS DUMP, IN PLAIN WORDS (tools/lay-plain.mjs out of 'TryzSortShelf.lean', which tools/lay-shelf.mjs wrote): THE SAME DECLARATIONS UNDER THE SAME NAMES: 'import', 'namespace', 'open', 'def', 'theorem' AND NOTHING ELSE: no command of the shelf's: FOR A HAND-IN. Each laying: the table of numbers ('.._ren') and one theorem, a field a fact of the dump's own or the kernel's comparison; each contract: ONE APPLICATION.
-/
namespace Go.Proofs
open Go.Shelf
def Tryz.sortRows_ren : Go.Shelf.Ren := ⟨fun | 6 => 212 | 15 => 192 | 14 => 216 | 28 => 210 | 29 => 211 | 20 => 218 | 21 => 219 | 22 => 220 | 23 => 221 | 24 => 222 | 25 => 223 | 26 => 224 | 27 => 225 | 46 => 226 | 47 => 227 | 48 => 228 | 49 => 229 | 50 => 230 | 57 => 231 | n => n, fun | 22 => 50 | 24 => 77 | 25 => 310 | 3 => 3 | 39 => 190 | 0 => 0 | 53 => 235 | 55 => 248 | 4 => 4 | 46 => 314 | 45 => 313 | 50 => 318 | 5 => 5 | 9 => 9 | 66 => 320 | 70 => 324 | 76 => 326 | 77 => 327 | n => n, fun | n => n⟩
theorem Tryz.sortRows : Go.Proofs.SlLaysF0.n6 Tryz.prog Tryz.sortRows_ren := {
  mixed := by kernel_rfl
  f6 := ⟨Tryz.f212.name, by decide, Tryz.func212.trans (congrArg some (by kernel_rfl))⟩
  f14 := ⟨Tryz.f216.name, by decide, Tryz.func216.trans (congrArg some (by kernel_rfl))⟩
  f15 := Tryz.func192.trans (congrArg some (by kernel_rfl))
  f20 := ⟨Tryz.f218.name, by decide, Tryz.func218.trans (congrArg some (by kernel_rfl))⟩
  f21 := ⟨Tryz.f219.name, by decide, Tryz.func219.trans (congrArg some (by kernel_rfl))⟩
  f22 := ⟨Tryz.f220.name, by decide, Tryz.func220.trans (congrArg some (by kernel_rfl))⟩
  f23 := ⟨Tryz.f221.name, by decide, Tryz.func221.trans (congrArg some (by kernel_rfl))⟩
  f24 := ⟨Tryz.f222.name, by decide, Tryz.func222.trans (congrArg some (by kernel_rfl))⟩
  f25 := ⟨Tryz.f223.name, by decide, Tryz.func223.trans (congrArg some (by kernel_rfl))⟩
  f26 := ⟨Tryz.f224.name, by decide, Tryz.func224.trans (congrArg some (by kernel_rfl))⟩
  f27 := ⟨Tryz.f225.name, by decide, Tryz.func225.trans (congrArg some (by kernel_rfl))⟩
  f28 := Tryz.func210.trans (congrArg some (by kernel_rfl))
  f29 := Tryz.func211.trans (congrArg some (by kernel_rfl))
  f46 := ⟨Tryz.f226.name, by decide, Tryz.func226.trans (congrArg some (by kernel_rfl))⟩
  f47 := Tryz.func227.trans (congrArg some (by kernel_rfl))
  f48 := Tryz.func228.trans (congrArg some (by kernel_rfl))
  f49 := ⟨Tryz.f229.name, by decide, Tryz.func229.trans (congrArg some (by kernel_rfl))⟩
  f50 := ⟨Tryz.f230.name, by decide, Tryz.func230.trans (congrArg some (by kernel_rfl))⟩
  f57 := ⟨Tryz.f231.name, by decide, Tryz.func231.trans (congrArg some (by kernel_rfl))⟩
  t0 := Tryz.underlying0
  a0 := Tryz.isAgg0
  z0 := Tryz.sizeOf0
  v0 := Tryz.zeroValue0
  t3 := Tryz.underlying3
  a3 := Tryz.isAgg3
  z3 := Tryz.sizeOf3
  v3 := Tryz.zeroValue3
  t4 := Tryz.underlying4
  a4 := Tryz.isAgg4
  z4 := Tryz.sizeOf4
  v4 := Tryz.zeroValue4
  t5 := Tryz.underlying5
  a5 := Tryz.isAgg5
  z5 := Tryz.sizeOf5
  v5 := Tryz.zeroValue5
  t9 := Tryz.underlying9
  a9 := Tryz.isAgg9
  z9 := Tryz.sizeOf9
  v9 := Tryz.zeroValue9
  t22 := Tryz.underlying50
  a22 := Tryz.isAgg50
  z22 := Tryz.sizeOf50
  v22 := Tryz.zeroValue50
  t25 := Tryz.underlying310
  a25 := Tryz.isAgg310
  z25 := Tryz.sizeOf310
  v25 := Tryz.zeroValue310
  t39 := Tryz.underlying190
  a39 := Tryz.isAgg190
  z39 := Tryz.sizeOf190
  v39 := Tryz.zeroValue190
  t45 := Tryz.underlying313
  a45 := Tryz.isAgg313
  z45 := Tryz.sizeOf313
  v45 := Tryz.zeroValue313
  t46 := Tryz.underlying314
  a46 := Tryz.isAgg314
  z46 := Tryz.sizeOf314
  v46 := Tryz.zeroValue314
  t50 := Tryz.underlying318
  a50 := Tryz.isAgg318
  z50 := Tryz.sizeOf318
  v50 := Tryz.zeroValue318
  t53 := Tryz.underlying235
  a53 := Tryz.isAgg235
  z53 := Tryz.sizeOf235
  v53 := Tryz.zeroValue235
  t55 := Tryz.underlying248
  a55 := Tryz.isAgg248
  z55 := Tryz.sizeOf248
  v55 := Tryz.zeroValue248
  t66 := Tryz.underlying320
  a66 := Tryz.isAgg320
  z66 := Tryz.sizeOf320
  v66 := Tryz.zeroValue320
  t70 := Tryz.underlying324
  a70 := Tryz.isAgg324
  z70 := Tryz.sizeOf324
  v70 := Tryz.zeroValue324
  t76 := Tryz.underlying326
  a76 := Tryz.isAgg326
  z76 := Tryz.sizeOf326
  v76 := Tryz.zeroValue326
  t77 := Tryz.underlying327
  a77 := Tryz.isAgg327
  z77 := Tryz.sizeOf327
  v77 := Tryz.zeroValue327 }
end Go.Proofs

/-
  package store: the comparison by which chosen sorts; slices.SortFunc at rows.
-/
namespace Go.Proofs.YtbgfmbmcabekeaaGreatDoor
open Go.RowKit Go.Shelf Go.Lib Go.Sort
attribute [local go_sem ↓] Go.wp_at_zero Go.wp_at_succ

set_option maxHeartbeats 400000 in
theorem rowValueA (r : RowT) (j : Nat) (hj : j < 4) (w : World) :
    Calls Tryz.prog 166 #[.agg #[.int .i64 r.t, .int .i64 r.k, .int .i64 r.a, .int .i64 r.b, .int .i64 r.c], .int .i64 (j : Int)] w fun e w' => e = .returned (.int .i64 (r.col j)) ∧ w' = w.alloc (.cells #[.int .i64 r.t, .int .i64 r.k, .int .i64 r.a, .int .i64 r.b, .int .i64 r.c] 77) := by
  obtain ⟨t, k, a, b, c⟩ := r
  match j, hj with
  | 0, _ =>
    go_enter Tryz.func166, Tryz.ntmps166
    go_wp2
    go_ret
    exact ⟨rfl, rfl⟩
  | 1, _ =>
    go_enter Tryz.func166, Tryz.ntmps166
    go_wp2
    go_ret
    exact ⟨rfl, rfl⟩
  | 2, _ =>
    go_enter Tryz.func166, Tryz.ntmps166
    go_wp2
    go_ret
    exact ⟨rfl, rfl⟩
  | 3, _ =>
    go_enter Tryz.func166, Tryz.ntmps166
    go_wp2
    go_ret
    exact ⟨rfl, rfl⟩

/-- draws and new blocks, no more -/
def GrowsFrom (X W : World) : Prop := ∃ q os, W = grow (X.drewN q) os
section
variable {X W V : World}
theorem GrowsFrom.refl (X : World) : GrowsFrom X X := ⟨0, #[], by rw [grow_empty]; rfl⟩
theorem GrowsFrom.alloc (h : GrowsFrom X W) (o : Obj) : GrowsFrom X (W.alloc o) := by
  obtain ⟨q, os, rfl⟩ := h
  exact ⟨q, os ++ #[o], by rw [alloc_eq_grow, grow_grow]⟩
theorem GrowsFrom.drew (h : GrowsFrom X W) : GrowsFrom X W.drew := by
  obtain ⟨q, os, rfl⟩ := h
  exact ⟨q + 1, os, rfl⟩
theorem GrowsFrom.below (h : GrowsFrom X W) : Below X.heap.size X W := by
  obtain ⟨q, os, rfl⟩ := h
  exact ⟨rfl, rfl, rfl, by simp [grow, World.drewN], fun k hk => by simp only [grow, World.drewN]; rw [Array.getElem?_append_left hk]⟩
end

set_option maxHeartbeats 1000000 in
theorem cmpOr2 (b c : Nat) (x y r : Int) (hr : r = if x = 0 then y else x) (w : World) (h0 : w.cell? ⟨b, 0, none⟩ = some (.int .i64 x)) (h1 : w.cell? ⟨b, 1, none⟩ = some (.int .i64 y)) : Calls Tryz.prog 214 #[.slice (some ⟨b, 0, none⟩) 2 c] w fun e w' => e = .returned (.int .i64 r) ∧ w = w' := by
  have HR := Lib.hid hr
  clear hr
  go_enter Tryz.func214, Tryz.ntmps214
  go_wp2
  refine wp_loop_rounds 3 ?_
  rw [rounds_succ]
  by_cases hx : x = 0
  · subst hx
    go_wp2
    rw [rounds_succ]
    by_cases hy : y = 0
    · subst hy
      go_wp2
      rw [rounds_succ]
      go_wp2
      go_ret
      exact ⟨by rw [HR.out]; simp, rfl⟩
    · go_wp2
      go_ret
      exact ⟨by rw [HR.out]; simp, rfl⟩
  · go_wp2
    go_ret
    exact ⟨by rw [HR.out]; simp [hx], rfl⟩

/-- how two rows compare: by a column, then by their keys -/
def cmpR (j : Nat) (x y : RowT) : Int := if compareInt (x.col j) (y.col j) = 0 then compareInt x.k y.k else compareInt (x.col j) (y.col j)
def encR (r : RowT) : List Value := [.int .i64 r.t, .int .i64 r.k, .int .i64 r.a, .int .i64 r.b, .int .i64 r.c]

theorem cmpKeep {X V : World} {bc b d : Nat} {j t1 k1 a1 b1 c1 t2 k2 a2 b2 c2 : Int} (h : X.cell? ⟨bc, 0, none⟩ = some (.int .i64 j) ∧ X.cell? ⟨b, 0, none⟩ = some (.int .i64 t1) ∧ X.cell? ⟨b, 1, none⟩ = some (.int .i64 k1) ∧ X.cell? ⟨b, 2, none⟩ = some (.int .i64 a1) ∧ X.cell? ⟨b, 3, none⟩ = some (.int .i64 b1) ∧ X.cell? ⟨b, 4, none⟩ = some (.int .i64 c1) ∧ X.cell? ⟨d, 0, none⟩ = some (.int .i64 t2) ∧ X.cell? ⟨d, 1, none⟩ = some (.int .i64 k2) ∧ X.cell? ⟨d, 2, none⟩ = some (.int .i64 a2) ∧ X.cell? ⟨d, 3, none⟩ = some (.int .i64 b2) ∧ X.cell? ⟨d, 4, none⟩ = some (.int .i64 c2)) (k : GrowsFrom X V) : V.cell? ⟨bc, 0, none⟩ = some (.int .i64 j) ∧ V.cell? ⟨b, 0, none⟩ = some (.int .i64 t1) ∧ V.cell? ⟨b, 1, none⟩ = some (.int .i64 k1) ∧ V.cell? ⟨b, 2, none⟩ = some (.int .i64 a1) ∧ V.cell? ⟨b, 3, none⟩ = some (.int .i64 b1) ∧ V.cell? ⟨b, 4, none⟩ = some (.int .i64 c1) ∧ V.cell? ⟨d, 0, none⟩ = some (.int .i64 t2) ∧ V.cell? ⟨d, 1, none⟩ = some (.int .i64 k2) ∧ V.cell? ⟨d, 2, none⟩ = some (.int .i64 a2) ∧ V.cell? ⟨d, 3, none⟩ = some (.int .i64 b2) ∧ V.cell? ⟨d, 4, none⟩ = some (.int .i64 c2) ∧ GrowsFrom X V := by
  obtain ⟨h0, h1, h2, h3, h4, h5, h6, h7, h8, h9, h10⟩ := h
  have e := k.below
  exact ⟨cell_ext h0 e, cell_ext h1 e, cell_ext h2 e, cell_ext h3 e, cell_ext h4 e, cell_ext h5 e, cell_ext h6 e, cell_ext h7 e, cell_ext h8 e, cell_ext h9 e, cell_ext h10 e, k⟩
theorem cmpGrow {X V : World} {bc b d : Nat} {j t1 k1 a1 b1 c1 t2 k2 a2 b2 c2 : Int} (h : V.cell? ⟨bc, 0, none⟩ = some (.int .i64 j) ∧ V.cell? ⟨b, 0, none⟩ = some (.int .i64 t1) ∧ V.cell? ⟨b, 1, none⟩ = some (.int .i64 k1) ∧ V.cell? ⟨b, 2, none⟩ = some (.int .i64 a1) ∧ V.cell? ⟨b, 3, none⟩ = some (.int .i64 b1) ∧ V.cell? ⟨b, 4, none⟩ = some (.int .i64 c1) ∧ V.cell? ⟨d, 0, none⟩ = some (.int .i64 t2) ∧ V.cell? ⟨d, 1, none⟩ = some (.int .i64 k2) ∧ V.cell? ⟨d, 2, none⟩ = some (.int .i64 a2) ∧ V.cell? ⟨d, 3, none⟩ = some (.int .i64 b2) ∧ V.cell? ⟨d, 4, none⟩ = some (.int .i64 c2) ∧ GrowsFrom X V) : GrowsFrom X V := h.2.2.2.2.2.2.2.2.2.2.2

set_option maxRecDepth 100000 in
set_option maxHeartbeats 4000000 in
theorem cmpRow (x y : RowT) (j : Nat) (hj : j < 4) (bc : Nat) (W : World) (hc : W.cell? ⟨bc, 0, none⟩ = some (.int .i64 (j : Int))) :
    Calls Tryz.prog 213 #[.agg #[.int .i64 x.t, .int .i64 x.k, .int .i64 x.a, .int .i64 x.b, .int .i64 x.c], .agg #[.int .i64 y.t, .int .i64 y.k, .int .i64 y.a, .int .i64 y.b, .int .i64 y.c], .pointer (some ⟨bc, 0, none⟩)] W fun e w' => e = .returned (.int .i64 (cmpR j x y)) ∧ GrowsFrom W w' := by
  have HV1 := Lib.hid (fun W : World => rowValueA x j hj W)
  have HV2 := Lib.hid (fun W : World => rowValueA y j hj W)
  have HR := Lib.hid (show cmpR j x y = if compareInt (x.col j) (y.col j) = 0 then compareInt x.k y.k else compareInt (x.col j) (y.col j) from rfl)
  generalize cmpR j x y = r at HR ⊢
  generalize x.col j = v1 at *
  generalize y.col j = v2 at *
  obtain ⟨t1, k1, a1, b1, c1⟩ := x
  obtain ⟨t2, k2, a2, b2, c2⟩ := y
  dsimp only at *
  obtain ⟨X, hX⟩ : ∃ X, X = (W.alloc (.cells #[.int .i64 t1, .int .i64 k1, .int .i64 a1, .int .i64 b1, .int .i64 c1] 77)).alloc (.cells #[.int .i64 t2, .int .i64 k2, .int .i64 a2, .int .i64 b2, .int .i64 c2] 77) := ⟨_, rfl⟩
  have HX := Lib.hid hX
  have h1 : Blk X W.heap.size 77 #[.int .i64 t1, .int .i64 k1, .int .i64 a1, .int .i64 b1, .int .i64 c1] := by rw [hX]; exact (Blk.new _ _ _).alloc _
  have h2 : Blk X (W.heap.size + 1) 77 #[.int .i64 t2, .int .i64 k2, .int .i64 a2, .int .i64 b2, .int .i64 c2] := by rw [hX]; exact Blk.new' _ _ _ (by simp)
  have hcX : X.cell? ⟨bc, 0, none⟩ = some (.int .i64 (j : Int)) := by rw [hX]; exact cell_ext hc (ext_alloc (ext_new W _) _)
  generalize (j : Int) = j at *
  have HK := Lib.hid (show X.cell? ⟨bc, 0, none⟩ = some (.int .i64 j) ∧ X.cell? ⟨W.heap.size, 0, none⟩ = some (.int .i64 t1) ∧ X.cell? ⟨W.heap.size, 1, none⟩ = some (.int .i64 k1) ∧ X.cell? ⟨W.heap.size, 2, none⟩ = some (.int .i64 a1) ∧ X.cell? ⟨W.heap.size, 3, none⟩ = some (.int .i64 b1) ∧ X.cell? ⟨W.heap.size, 4, none⟩ = some (.int .i64 c1) ∧ X.cell? ⟨W.heap.size + 1, 0, none⟩ = some (.int .i64 t2) ∧ X.cell? ⟨W.heap.size + 1, 1, none⟩ = some (.int .i64 k2) ∧ X.cell? ⟨W.heap.size + 1, 2, none⟩ = some (.int .i64 a2) ∧ X.cell? ⟨W.heap.size + 1, 3, none⟩ = some (.int .i64 b2) ∧ X.cell? ⟨W.heap.size + 1, 4, none⟩ = some (.int .i64 c2) from ⟨hcX, h1.cell 0, h1.cell 1, h1.cell 2, h1.cell 3, h1.cell 4, h2.cell 0, h2.cell 1, h2.cell 2, h2.cell 3, h2.cell 4⟩)
  have HG := Lib.hid (show GrowsFrom W X by rw [hX]; exact ((GrowsFrom.refl W).alloc _).alloc _)
  have HCM := Lib.hid (fun (x y : Int) (W : World) => Tryz.cmp_Compare_int x y W)
  clear h1 h2 hcX hX hc
  go_enter Tryz.func213, Tryz.ntmps213
  go_upto_region 1 with (fail)
  rw [← HX.out]
  go_region_held3 (fun w' => w'.cell? ⟨bc, 0, none⟩ = some (.int .i64 j) ∧ w'.cell? ⟨W.heap.size, 0, none⟩ = some (.int .i64 t1) ∧ w'.cell? ⟨W.heap.size, 1, none⟩ = some (.int .i64 k1) ∧ w'.cell? ⟨W.heap.size, 2, none⟩ = some (.int .i64 a1) ∧ w'.cell? ⟨W.heap.size, 3, none⟩ = some (.int .i64 b1) ∧ w'.cell? ⟨W.heap.size, 4, none⟩ = some (.int .i64 c1) ∧ w'.cell? ⟨W.heap.size + 1, 0, none⟩ = some (.int .i64 t2) ∧ w'.cell? ⟨W.heap.size + 1, 1, none⟩ = some (.int .i64 k2) ∧ w'.cell? ⟨W.heap.size + 1, 2, none⟩ = some (.int .i64 a2) ∧ w'.cell? ⟨W.heap.size + 1, 3, none⟩ = some (.int .i64 b2) ∧ w'.cell? ⟨W.heap.size + 1, 4, none⟩ = some (.int .i64 c2) ∧ GrowsFrom X w')
    (first | with_reducible assumption | exact cmpKeep HK.out (by repeat (first | with_reducible refine GrowsFrom.alloc ?_ _ | with_reducible refine GrowsFrom.drew ?_ | with_reducible assumption | with_reducible exact GrowsFrom.refl _ | exact cmpGrow (by assumption))))
    (first
      | (go_at_call 166; first | ((with_reducible refine (HV1.out _).mono ?_); rintro e w' ⟨rfl, rfl⟩) | ((with_reducible refine (HV2.out _).mono ?_); rintro e w' ⟨rfl, rfl⟩))
      | (go_at_call 215; (refine (HCM.out _ _ _).mono ?_); rintro e w' ⟨rfl, rfl⟩)
      | (go_at_call 214; refine (cmpOr2 _ _ (compareInt v1 v2) (compareInt k1 k2) r HR.out _ ?_ ?_).mono ?_; (exact (Blk.new' _ _ _ (by simp)).drew.cell 0); (exact (Blk.new' _ _ _ (by simp)).drew.cell 1); rintro e w' ⟨rfl, rfl⟩))
  go_wp2
  go_ret
  exact ⟨rfl, (((HG.out.alloc _).alloc _).alloc _).drew⟩

end Go.Proofs.YtbgfmbmcabekeaaGreatDoor

/-
  slices.SortFunc at rows: a permutation of them.
-/
namespace Go.Proofs.YtbgfmbmcabekeaaGreatDoor
open Go.RowKit Go.Shelf Go.Lib Go.Sort

instance : Inhabited RowT := ⟨zeroR⟩
theorem encR_length (r : RowT) : (encR r).length = 5 := rfl
theorem encR_one (r : RowT) : ∀ v ∈ encR r, v.oneCell' = true := by
  intro v hv
  simp only [encR, List.mem_cons, List.not_mem_nil, or_false] at hv
  rcases hv with rfl | rfl | rfl | rfl | rfl <;> rfl
theorem cmpR_lt (j : Nat) (x y : RowT) : ltOf (cmpR j) x y = (decide (x.col j < y.col j) || (decide (x.col j = y.col j) && decide (x.k < y.k))) := by
  unfold ltOf cmpR compareInt
  by_cases h1 : x.col j < y.col j
  · have h2 : ¬ x.col j = y.col j := by omega
    simp [h1, h2]
  · by_cases h2 : x.col j = y.col j
    · by_cases h3 : x.k < y.k
      · simp [h2, h3]
      · by_cases h4 : y.k < x.k <;> simp [h2, h3, h4]
    · have h3 : x.col j > y.col j := by omega
      simp [h1, h2, h3]
theorem cmpR_swo (j : Nat) : SWO (ltOf (cmpR j)) where
  irrefl x := by rw [cmpR_lt]; simp
  trans x y z h1 h2 := by rw [cmpR_lt] at *; simp at *; omega
  ntrans x y z h1 h2 := by rw [cmpR_lt] at *; simp at *; omega

/-- the cells of rows in a block -/
def RowsC (w : World) (g : Nat) (l : List RowT) : Prop := ∀ (j : Nat) (r : RowT), l[j]? = some r → ∀ i, i < 5 → w.cell? ⟨g, j * 5 + i, none⟩ = (encR r)[i]?
theorem RowsC.ext {w W : World} {g : Nat} {l : List RowT} (h : RowsC w g l) (k : Below w.heap.size w W) : RowsC W g l := by
  intro j r hj i hi
  have h1 := h j r hj i hi
  rw [List.getElem?_eq_getElem (show i < (encR r).length from hi)] at h1 ⊢
  exact cell_ext h1 k

theorem rowsC_holds {w : World} {g : Nat} {l : List RowT} (h : RowsC w g l) (hf : ∀ i, w.frozen? ⟨g, i, none⟩ = false) : HoldsK encR 5 w g 0 l.toArray := by
  intro t ht
  rw [size_flatK] at ht
  rw [get_flatK _ _ _ _ ht, Nat.zero_add]
  refine ⟨?_, hf t⟩
  have hj : t / 5 < l.length := by simp at ht; omega
  have h1 := h (t / 5) _ (List.getElem?_eq_getElem hj) (t % 5) (Nat.mod_lt _ (by omega))
  have e : t / 5 * 5 + t % 5 = t := by omega
  rw [e] at h1
  rw [h1]
  have e2 : l.toArray[t / 5]! = l[t / 5] := by rw [getElem!_pos l.toArray (t / 5) (by simpa using hj)]; rfl
  rw [e2, List.getElem?_eq_getElem (show t % 5 < (encR l[t / 5]).length from Nat.mod_lt _ (by omega)), getElem!_pos (encR l[t / 5]) (t % 5) (Nat.mod_lt _ (by omega))]
  rfl
theorem holds_rowsC {w : World} {g : Nat} {d : Array RowT} (h : HoldsK encR 5 w g 0 d) : RowsC w g d.toList := by
  intro j r hj i hi
  have hlt := (List.getElem?_eq_some_iff.1 hj).1
  have hlt' : j < d.size := by simpa using hlt
  have h1 := (h (j * 5 + i) (by rw [size_flatK]; omega)).1
  rw [get_flatK _ _ _ _ (by omega), Nat.zero_add] at h1
  have e1 : (j * 5 + i) / 5 = j := by omega
  have e2 : (j * 5 + i) % 5 = i := by omega
  rw [e1, e2] at h1
  rw [h1]
  have e3 : d[j]! = r := by
    rw [getElem!_pos d j hlt']
    have h3 := (List.getElem?_eq_some_iff.1 hj).2
    rw [← h3]
    simp
  rw [e3, List.getElem?_eq_getElem (show i < (encR r).length from hi), getElem!_pos (encR r) i hi]
  rfl
theorem sort_below {w w0 : World} {g n : Nat} {d : Array RowT} {os : Array Obj} (h : Below w0.heap.size w0 w) (hg : w0.heap.size ≤ g) : Below w0.heap.size w0 (sortWorldK encR 5 w g 0 n d os) := by
  refine ⟨h.os, h.tape, h.output, ?_, fun k hk => ?_⟩
  · have := h.size
    simp [sortWorldK, grow, putRowK, Sort.ahead]
    omega
  · have hk2 : k < w.heap.size := Nat.lt_of_lt_of_le hk h.size
    rw [← h.block k hk]
    simp only [sortWorldK, grow, putRowK, putRow, mapBlock, Sort.ahead]
    rw [Array.getElem?_append_left (by simpa using hk2), Array.getElem?_modify, if_neg (by omega)]

end Go.Proofs.YtbgfmbmcabekeaaGreatDoor

/-
  package store: Range at any state: rows of the state.
-/
namespace Go.Proofs.YtbgfmbmcabekeaaGreatDoor
open Go.RowKit Go.Shelf
attribute [local go_sem ↓] app_exec app_sem Go.wp_at_zero Go.wp_at_succ

/-- the cells of rows -/
def rc (l : List RowT) : List Value := l.flatMap encR
theorem rc_append (l : List RowT) (r : RowT) : rc (l ++ [r]) = rc l ++ encR r := by simp [rc]
theorem rc_at : ∀ (l : List RowT) (j : Nat) (x : RowT), l[j]? = some x → ∀ i, i < 5 → (rc l)[j * 5 + i]? = (encR x)[i]?
  | [], j, x, h, i, hi => by simp at h
  | y :: l, 0, x, h, i, hi => by
    simp only [List.getElem?_cons_zero, Option.some.injEq] at h
    subst h
    simp only [rc, List.flatMap_cons, Nat.zero_mul, Nat.zero_add]
    rw [List.getElem?_append_left (show i < (encR y).length from hi)]
  | y :: l, j + 1, x, h, i, hi => by
    have h1 := rc_at l j x (by simpa using h) i hi
    simp only [rc, List.flatMap_cons]
    rw [List.getElem?_append_right (by simp [encR]; omega)]
    have e : (j + 1) * 5 + i - (encR y).length = j * 5 + i := by simp [encR]; omega
    rw [e]
    exact h1

/-- a list of rows in memory -/
def RowsL (w : World) (v : Value) (l : List RowT) : Prop := ∃ A c, v = .slice A l.length c ∧ (0 < l.length → ∃ g, A = some ⟨g, 0, none⟩ ∧ g < w.heap.size ∧ RowsC w g l)
theorem RowsL.ext {w W : World} {v : Value} {l : List RowT} (h : RowsL w v l) (k : Below w.heap.size w W) : RowsL W v l := by
  obtain ⟨A, c, rfl, h⟩ := h
  refine ⟨A, c, rfl, fun h0 => ?_⟩
  obtain ⟨g, hA, hg, hr⟩ := h h0
  exact ⟨g, hA, Nat.lt_of_lt_of_le hg k.size, hr.ext k⟩

/-- is a row in a range? -/
def hitR (r : RowT) (t : Int) (j : Nat) (lo hi : Int) : Bool := (r.t == t) && decide (lo ≤ r.col j) && decide (r.col j ≤ hi)

set_option maxRecDepth 100000 in
set_option maxHeartbeats 400000 in
theorem isInR (r : RowT) (b1 b2 b3 b4 j : Nat) (t lo hi : Int) (hj : j < 4) (w : World) (hB : Boxes w b1 b2 b3 b4 j t lo hi) :
    Calls Tryz.prog 208 #[.agg #[.int .i64 r.t, .int .i64 r.k, .int .i64 r.a, .int .i64 r.b, .int .i64 r.c], .pointer (some ⟨b1, 0, none⟩), .pointer (some ⟨b2, 0, none⟩), .pointer (some ⟨b3, 0, none⟩), .pointer (some ⟨b4, 0, none⟩)] w fun e w' => e = .returned (.bool (hitR r t j lo hi)) ∧ Below w.heap.size w w' := by
  have HV := Lib.hid (fun W : World => rowValue_any r j hj W)
  unfold hitR
  generalize r.col j = v at *
  obtain ⟨r0, r1, r2, r3, r4⟩ := r
  dsimp only at *
  have HB := Lib.hid (hB.ext (ext_new w (.cells #[.int .i64 r0, .int .i64 r1, .int .i64 r2, .int .i64 r3, .int .i64 r4] 77)))
  have HR := Lib.hid (Blk.new w 77 #[.int .i64 r0, .int .i64 r1, .int .i64 r2, .int .i64 r3, .int .i64 r4])
  clear hB
  have c1 := HB.out.1.cell 0
  go_enter Tryz.func208, Tryz.ntmps208
  go_wp2_with fail
  refine (HV.out _).mono ?_
  rintro e W1 ⟨rfl, hb1⟩
  have hB1 := HB.out.ext hb1
  have a0 := (HR.out.ext hb1).cell 0
  have d2 := hB1.2.1.cell 0
  have d3 := hB1.2.2.1.cell 0
  have d4 := hB1.2.2.2.cell 0
  have HL := Lib.hid (ext_call (ext_new w _) hb1)
  clear hb1 hB1 c1
  by_cases h1 : r0 = t
  · subst h1
    by_cases h2 : lo ≤ v
    · go_wp2
      go_ret
      exact ⟨by simp [h2], HL.out⟩
    · go_wp2
      go_ret
      exact ⟨by have h3 : ¬ lo ≤ v := by omega
                simp [h3], HL.out⟩
  · have h1' : (r0 == t) = false := by simpa using h1
    go_wp2
    go_ret
    exact ⟨by simp [h1], HL.out⟩

theorem rowz_info : (Tryz.prog.info? 77).map (fun i => (i.zero, i.size, i.bytes)) = some (some (.agg #[.int .i64 0, .int .i64 0, .int .i64 0, .int .i64 0, .int .i64 0]), 5, 40) := by kernel_rfl
/-- a row appended to own rows -/
theorem appRow (W : World) (base : Nat) (hb : base ≤ W.heap.size) (v : Value) (n : Nat) (xs : List Value) (hown : W.ownsRow base 77 5 v n xs) (hn : n ≤ 1000000) (r : RowT) :
    AppOK Tryz.prog (W.alloc (.cells #[.int .i64 r.t, .int .i64 r.k, .int .i64 r.a, .int .i64 r.b, .int .i64 r.c] 77)) 50 50 v (.slice (some ⟨W.heap.size, 0, none⟩) 1 1) ∧ ∃ W', appW Tryz.prog (W.alloc (.cells #[.int .i64 r.t, .int .i64 r.k, .int .i64 r.a, .int .i64 r.b, .int .i64 r.c] 77)) 50 50 v (.slice (some ⟨W.heap.size, 0, none⟩) 1 1) = W' ∧
      ∃ v', appV Tryz.prog (W.alloc (.cells #[.int .i64 r.t, .int .i64 r.k, .int .i64 r.a, .int .i64 r.b, .int .i64 r.c] 77)) 50 50 v (.slice (some ⟨W.heap.size, 0, none⟩) 1 1) = v' ∧ W'.ownsRow base 77 5 v' (n + 1) (xs ++ encR r) ∧ (W.alloc (.cells #[.int .i64 r.t, .int .i64 r.k, .int .i64 r.a, .int .i64 r.b, .int .i64 r.c] 77)).grownBy W' v.ownBlock := by
  obtain ⟨ii, hii, hzi0, hzi1, hzi2⟩ := info_parts rowz_info
  obtain ⟨h1, h2, h3⟩ := app_own (P := Tryz.prog) (w := W.alloc (.cells #[.int .i64 r.t, .int .i64 r.k, .int .i64 r.a, .int .i64 r.b, .int .i64 r.c] 77)) base 50 50 77 ii (.agg #[.int .i64 0, .int .i64 0, .int .i64 0, .int .i64 0, .int .i64 0]) 5 40 Tryz.underlying50 hii hzi0 hzi1 hzi2 rfl (by decide) v n xs (hown.alloc _) ⟨W.heap.size, 0, none⟩ 1 1 (encR r) rfl (fun i u hu => by
    rw [add_lit0]
    have hB := Blk.new W 77 #[.int .i64 r.t, .int .i64 r.k, .int .i64 r.a, .int .i64 r.b, .int .i64 r.c]
    rw [hB.cell]
    rw [← hu]
    simp [encR]) (encR_one r) (by unfold maxLen; omega) (by omega) (by simp; omega)
  exact ⟨h1, _, rfl, _, rfl, h2, h3⟩

/-- how many entries are left of an iteration -/
def leftN (it : Nat) (es : Array MapEntry) (W : World) : Nat := match W.heap[it]? with | some (.mapIter _ _ seen _) => (leftOf es seen).size | _ => 0
theorem leftOf_push (es : Array MapEntry) (seen : Array Nat) (e : MapEntry) (he : e ∈ (leftOf es seen).toList) : (leftOf es (seen.push e.born)).size < (leftOf es seen).size := by
  unfold leftOf at *
  simp only [Array.toList_filter, List.mem_filter] at he
  have hsz : ∀ p : MapEntry → Bool, (es.filter p).size = es.toList.countP p := fun p => by rw [List.countP_eq_length_filter, ← Array.toList_filter, Array.length_toList]
  rw [hsz, hsz]
  obtain ⟨h1, h2⟩ := he
  clear hsz
  generalize es.toList = l at *
  induction l with
  | nil => simp at h1
  | cons x l ih =>
    have hle : ∀ m : List MapEntry, m.countP (fun e_1 => !(seen.push e.born).contains e_1.born) ≤ m.countP (fun e => !seen.contains e.born) := fun m => List.countP_mono_left (fun y _ hy => by simp at hy ⊢; exact hy.1)
    rw [List.countP_cons, List.countP_cons]
    rcases List.mem_cons.1 h1 with rfl | h3
    · have h4 := hle l
      have h5 : (!(seen.push e.born).contains e.born) = false := by simp
      simp only [h5, h2, Bool.false_eq_true, if_false, if_true]
      omega
    · have h4 := ih h3
      have h5 : ((if (!(seen.push e.born).contains x.born) = true then 1 else 0) : Nat) ≤ (if (!seen.contains x.born) = true then 1 else 0) := by
        by_cases h6 : seen.contains x.born = true
        · have : (seen.push e.born).contains x.born = true := by simp at h6 ⊢; exact .inl h6
          rw [h6, this]; simp
        · have h7 : seen.contains x.born = false := by simpa using h6
          rw [h7]
          split <;> simp
      omega
theorem entry_row {rs : List RowT} {es : Array MapEntry} (h : es.toList.map (fun e => (e.key, e.val)) = rs.map (fun r => (r.keyV, r.val))) {e : MapEntry} (he : e ∈ es.toList) : ∃ r, r ∈ rs ∧ e.key = r.keyV ∧ e.val = .agg #[.int .i64 r.t, .int .i64 r.k, .int .i64 r.a, .int .i64 r.b, .int .i64 r.c] := by
  have h1 : (e.key, e.val) ∈ rs.map (fun r => (r.keyV, r.val)) := by rw [← h]; exact List.mem_map.2 ⟨e, he, rfl⟩
  obtain ⟨r, hr, h2⟩ := List.mem_map.1 h1
  injection h2 with h3 h4
  exact ⟨r, hr, h3.symm, h4.symm⟩

end Go.Proofs.YtbgfmbmcabekeaaGreatDoor

/-
  package store: chosen and Range at any state: rows of the state, in some order.
-/
namespace Go.Proofs.YtbgfmbmcabekeaaGreatDoor
open Go.RowKit Go.Shelf
attribute [local go_sem ↓] app_exec app_sem Go.wp_at_zero Go.wp_at_succ

theorem own_ext {W W' : World} {base n sz : Nat} {e : TypeId} {v : Value} {xs : List Value} (h : W.ownsRow base e sz v n xs) (k : Below W.heap.size W W') : W'.ownsRow base e sz v n xs := by
  refine ⟨h.1, ?_⟩
  rcases h.2 with hn' | ⟨g, cap, cur, h1, h2, h3, h4⟩
  · exact .inl hn'
  · exact .inr ⟨g, cap, cur, h1, h2, (k.block g (Array.getElem?_eq_some_iff.1 h3).1).trans h3, h4⟩
/-- the iterator's block changes, no other -/
theorem iter_step {W : World} {it : Nat} {o : Obj} {B n sz : Nat} {e : TypeId} {v : Value} {xs : List Value} (h : W.ownsRow B e sz v n xs) (hB : it < B) : (W.putObj it o).ownsRow B e sz v n xs := by
  refine h.kept (row := some it) ⟨rfl, rfl, rfl, by simp, fun k _ hk => World.putObj_heap_other (fun e => hk (by rw [e]))⟩ ?_
  rcases h.2 with ⟨rfl, _⟩ | ⟨g, cap, cur, rfl, hg, _⟩
  · exact .inl rfl
  · exact .inr (by simp [Value.ownBlock]; omega)

end Go.Proofs.YtbgfmbmcabekeaaGreatDoor

/-
  package statetree: orderOf at any state of small rows.
-/
namespace Go.Proofs.YtbgfmbmcabekeaaGreatDoor
open Go.RowKit Go.Shelf
attribute [local go_sem ↓] app_exec app_sem Go.wp_at_zero Go.wp_at_succ

/-- a valid row of small numbers -/
def RowT.sm (r : RowT) : Prop := r.ok ∧ r.t < 64 ∧ r.k < 64 ∧ ∀ x ∈ [r.a, r.b, r.c], -64 ≤ x ∧ x < 64
/-- a string appended to own strings -/
theorem appStr (W : World) (base : Nat) (hb : base ≤ W.heap.size) (v : Value) (n : Nat) (xs : List Value) (hown : W.ownsRow base 9 1 v n xs) (hn : n ≤ 1000000) (s : ByteArray) :
    AppOK Tryz.prog (W.alloc (.cells #[.string s] 9)) 89 89 v (.slice (some ⟨W.heap.size, 0, none⟩) 1 1) ∧ ∃ W', appW Tryz.prog (W.alloc (.cells #[.string s] 9)) 89 89 v (.slice (some ⟨W.heap.size, 0, none⟩) 1 1) = W' ∧
      ∃ v', appV Tryz.prog (W.alloc (.cells #[.string s] 9)) 89 89 v (.slice (some ⟨W.heap.size, 0, none⟩) 1 1) = v' ∧ W'.ownsRow base 9 1 v' (n + 1) (xs ++ [.string s]) ∧ (W.alloc (.cells #[.string s] 9)).grownBy W' v.ownBlock := by
  obtain ⟨is, his, hzs0, hzs1, hzs2⟩ := str_infoS
  obtain ⟨h1, h2, h3⟩ := app_own (P := Tryz.prog) (w := W.alloc (.cells #[.string s] 9)) base 89 89 9 is (.string ⟨#[]⟩) 1 16 Tryz.underlying89 his hzs0 hzs1 hzs2 rfl (by decide) v n xs (hown.alloc _) ⟨W.heap.size, 0, none⟩ 1 1 [.string s] rfl (cell_one_new _ _ _) (by simp [Value.oneCell']) (by unfold maxLen; omega) (by omega) (by simp; omega)
  exact ⟨h1, _, rfl, _, rfl, h2, h3⟩
/-- own strings as a list of strings -/
theorem own_strs {W : World} {base n : Nat} {v : Value} {ss : List ByteArray} (h : W.ownsRow base 9 1 v n (ss.map Value.string)) (hn : ss.length = n) : Strs (fun _ => True) W v ss := by
  subst hn
  by_cases h0 : 0 < ss.length
  · obtain ⟨g, cap, cur, rfl, hg, hb⟩ := own_blk h h0
    refine ⟨_, cap, rfl, ?_, fun _ => ⟨g, 0, rfl, trivial, fun j x hx => ?_⟩⟩
    · rcases h.2 with ⟨he, _⟩ | ⟨g', cap', cur', he, _, _, h6, _⟩
      · cases he
      · injection he with _ _ hc
        omega
    · have h1 := h.cells (g := g) rfl j (.string x) (by rw [List.getElem?_map, hx]; rfl)
      rw [add_lit0] at h1
      rw [Nat.zero_add]
      exact h1
  · have h1 : ss = [] := List.length_eq_zero_iff.1 (by omega)
    subst h1
    obtain ⟨A, c, hsh⟩ := own_shape h
    exact ⟨A, c, hsh, by simp, fun h => absurd h (by simp)⟩
theorem RowsL.at_ {w : World} {v : Value} {l : List RowT} (h : RowsL w v l) {j : Nat} {r : RowT} (hj : l[j]? = some r) : ∃ g c, v = .slice (some ⟨g, 0, none⟩) l.length c ∧ g < w.heap.size ∧ ∀ i, i < 5 → w.cell? ⟨g, j * 5 + i, none⟩ = (encR r)[i]? := by
  obtain ⟨A, c, rfl, h⟩ := h
  have hlt := (List.getElem?_eq_some_iff.1 hj).1
  obtain ⟨g, rfl, hg, hr⟩ := h (by omega)
  exact ⟨g, c, rfl, hg, hr j r hj⟩

end Go.Proofs.YtbgfmbmcabekeaaGreatDoor

/-
  statetree.orders, summaries, Root at any state of at most 60 small rows: some digest.
-/
namespace Go.Proofs.YtbgfmbmcabekeaaGreatDoor
open Go.RowKit Go.Shelf

section
attribute [local go_sem] Oper.semAt_some
end

section
attribute [local go_sem] run_semAt
attribute [local go_sem high] app_sem

theorem OwnP.stateR {B gs gm : Nat} {pos : Int} {rs : List RowT} (h : gm < B) : OwnP B (fun W => StateR W gs gm pos rs) := OwnP.and OwnP.blk (fun _ X Y row hs hg hr => by
  obtain ⟨es, c, hm, h2⟩ := hs
  exact ⟨es, c, OwnP.map (B := B) h () X Y row hm hg hr, h2⟩)
/-- what is known between two rounds -/
def SumsR (rs : List RowT) (w : World) (gs gm : Nat) (pos : Int) (k : Nat) (W : World) : Prop :=
  (∃ L : List ByteArray, (L.length = k ∧ ∀ s ∈ L, s.size ≤ 40) ∧ ∃ v, Boxed W w.heap.size 89 v ∧ W.ownsRow w.heap.size 9 1 v k (L.map Value.string) ∧ True) ∧ Below w.heap.size w W ∧ Blk W (w.heap.size + 1) 69 #[.pointer (some ⟨gs, 0, none⟩)] ∧ StateR W gs gm pos rs ∧ RoundOK W
theorem SumsR.own (rs : List RowT) (w : World) (gs gm : Nat) (pos : Int) (k B : Nat) (hB : w.heap.size ≤ B) (hg : gm < B) : OwnP B (SumsR rs w gs gm pos k) :=
  OwnP.and (fun _ X Y row hs h1 h2 => by
      obtain ⟨L, hL, hv⟩ := hs
      exact ⟨L, hL, (Own.from (holdsRow_own w.heap.size w.heap.size 89 9 1 (fun _ : Unit => k) (fun _ : Unit => L.map Value.string) (fun _ _ => True)) B) () X Y row hv h1 h2⟩)
    (OwnP.and (OwnP.below (Nat.le_refl _) hB) (OwnP.and OwnP.blk (OwnP.and (OwnP.stateR hg) OwnP.round)))
end

end Go.Proofs.YtbgfmbmcabekeaaGreatDoor

/-
  package logtree: Next at any small valid changes.
-/
namespace Go.Proofs.YtbgfmbmcabekeaaGreatDoor
open Go.RowKit
attribute [local go_sem ↓] Go.wp_at_zero Go.wp_at_succ

theorem encChg_length (c : ChgT) : (encChg c).length ≤ 9 := by
  unfold encChg
  cases c.had <;> cases c.has <;> simp
end Go.Proofs.YtbgfmbmcabekeaaGreatDoor

/-
  package logtree: own; what a log is, in memory.
-/
namespace Go.Proofs.YtbgfmbmcabekeaaGreatDoor
open Go.RowKit
attribute [local go_sem ↓] Go.wp_at_zero Go.wp_at_succ

set_option maxRecDepth 100000 in
set_option maxHeartbeats 1000000 in
theorem logOwnG (p : Int) (l : List ChgT) (v : Value) (w : World) (hv : ChgsAt w v l) (h0 : 0 < l.length) (h1 : l.length ≤ 8) :
    Calls Tryz.prog 76 #[.agg #[.int .i64 p, v]] w fun e w' => ∃ g d, e = .returned (.agg #[.int .i64 p, .slice (some ⟨g, 0, none⟩) l.length d]) ∧ w.heap.size ≤ g ∧ l.length ≤ d ∧ ChgB w' g l ∧ Below w.heap.size w w' := by
  have HVV := Lib.hid hv
  obtain ⟨A, c, rfl, -⟩ := hv
  have HV := HVV
  clear HVV
  have HX0 := Lib.hid ((Blk.new w 46 #[.int .i64 p, .slice A l.length c]).alloc (.cells #[.int .i64 0, .slice none 0 0] 46))
  have HO0 := Lib.hid (Blk.new' (w.alloc (.cells #[.int .i64 p, .slice A l.length c] 46)) 46 #[.int .i64 0, .slice none 0 0] (b := w.heap.size + 1) (by simp))
  have HB := Lib.hid (HV.out.ext (ext_alloc (ext_new w (.cells #[.int .i64 p, .slice A l.length c] 46)) (.cells #[.int .i64 0, .slice none 0 0] 46)))
  clear HV
  go_enter Tryz.func76, Tryz.ntmps76
  go_wp2_with fail
  refine (cloneChgs l _ _ HB.out h0 (by omega)).mono ?_
  rintro e W1 ⟨g, d, rfl, hgg, hd, hch, hb1⟩
  have HD := Lib.hid hd
  clear hd
  have HGG := Lib.hid hgg
  have HCH := Lib.hid hch
  clear hgg hch
  have HX1 := Lib.hid (HX0.out.ext hb1)
  have HO1 := Lib.hid (HO0.out.ext hb1)
  have HE1 := Lib.hid (ext_call (ext_alloc (ext_new w _) _) hb1)
  clear hb1
  have x0 := HX1.out.cell 0; have x1 := HX1.out.cell 1
  have o0 := HO1.out.cell 0; have o1 := HO1.out.cell 1
  have f0 := HX1.out.frozen 0
  have f1 := HX1.out.frozen 1
  have g0 := HO1.out.frozen 0
  have g1 := HO1.out.frozen 1
  go_wp2
  have hBf := ((HO1.out.far (p := ⟨w.heap.size, 1, none⟩) (by simp) (.slice (some ⟨g, 0, none⟩) l.length d)).set_ 0 (.int .i64 p)).set_ 1 (.slice (some ⟨g, 0, none⟩) l.length d)
  have y0 := hBf.cell 0; have y1 := hBf.cell 1
  refine bodyPost_ret (v := .agg #[.int .i64 p, .slice (some ⟨g, 0, none⟩) l.length d]) (by simp [results, Tryz.results76, go_sem, y0, y1]) rfl ⟨_, _, rfl, ?_, HD.out, ?_, ?_⟩
  · have := HGG.out; simp at this; omega
  · have h2 := HGG.out; simp at h2; exact ((HCH.out.far (by simp; omega) _).far (by simp; omega) _).far (by simp; omega) _
  exact ext_set (ext_set (ext_set HE1.out (by simp) _) (by simp) _) (by simp) _

/-- the cells of records, of heads -/
def rcF : Nat → List (List ChgT × Nat × Nat) → List Value
  | _, [] => []
  | i, x :: r => .int .i64 ((i : Int) + 1) :: .slice (some ⟨x.2.1, 0, none⟩) x.1.length x.2.2 :: rcF (i + 1) r
def hcF : Nat → List (ByteArray × ByteArray) → List Value
  | _, [] => []
  | i, h :: r => .int .i64 (i : Int) :: .string h.1 :: .string h.2 :: hcF (i + 1) r
theorem rcF_append : ∀ (R : List (List ChgT × Nat × Nat)) (i : Nat) (x : List ChgT × Nat × Nat), rcF i (R ++ [x]) = rcF i R ++ [.int .i64 (((i + R.length : Nat) : Int) + 1), .slice (some ⟨x.2.1, 0, none⟩) x.1.length x.2.2]
  | [], i, x => by simp [rcF]
  | y :: R, i, x => by
    simp only [List.cons_append, rcF, rcF_append R (i + 1) x, List.length_cons]
    rw [show i + 1 + R.length = i + (R.length + 1) by omega]
theorem hcF_append : ∀ (H : List (ByteArray × ByteArray)) (i : Nat) (x : ByteArray × ByteArray), hcF i (H ++ [x]) = hcF i H ++ [.int .i64 ((i + H.length : Nat) : Int), .string x.1, .string x.2]
  | [], i, x => by simp [hcF]
  | y :: H, i, x => by
    simp only [List.cons_append, hcF, hcF_append H (i + 1) x, List.length_cons]
    rw [show i + 1 + H.length = i + (H.length + 1) by omega]
theorem rcF_at : ∀ (R : List (List ChgT × Nat × Nat)) (i j : Nat) (x : List ChgT × Nat × Nat), R[j]? = some x → (rcF i R)[j * 2]? = some (.int .i64 (((i + j : Nat) : Int) + 1)) ∧ (rcF i R)[j * 2 + 1]? = some (.slice (some ⟨x.2.1, 0, none⟩) x.1.length x.2.2)
  | [], i, j, x, h => by simp at h
  | y :: R, i, 0, x, h => by simp at h; subst h; simp [rcF]
  | y :: R, i, j + 1, x, h => by
    have h1 := rcF_at R (i + 1) j x (by simpa using h)
    rw [show i + 1 + j = i + (j + 1) by omega] at h1
    rw [show (j + 1) * 2 = j * 2 + 2 by omega]
    simpa [rcF] using h1
theorem hcF_at : ∀ (H : List (ByteArray × ByteArray)) (i j : Nat) (x : ByteArray × ByteArray), H[j]? = some x → (hcF i H)[j * 3]? = some (.int .i64 ((i + j : Nat) : Int)) ∧ (hcF i H)[j * 3 + 1]? = some (.string x.1) ∧ (hcF i H)[j * 3 + 2]? = some (.string x.2)
  | [], i, j, x, h => by simp at h
  | y :: H, i, 0, x, h => by simp at h; subst h; simp [hcF]
  | y :: H, i, j + 1, x, h => by
    have h1 := hcF_at H (i + 1) j x (by simpa using h)
    rw [show i + 1 + j = i + (j + 1) by omega] at h1
    rw [show (j + 1) * 3 = j * 3 + 3 by omega]
    simpa [hcF] using h1
/-- a log of these records, with these heads -/
structure LogG (B : Nat) (w : World) (gl : Nat) (rv hv : Value) (R : List (List ChgT × Nat × Nat)) (H : List (ByteArray × ByteArray)) : Prop where
  log : Blk w gl 144 #[rv, hv]
  recs : w.ownsRow B 46 2 rv R.length (rcF 0 R)
  heads : w.ownsRow B 86 3 hv H.length (hcF 0 H)
  chg : ∀ x ∈ R, ChgB w x.2.1 x.1 ∧ x.1.length ≤ x.2.2
  len : H.length = R.length + 1
  sizes : ∀ h ∈ H, h.1.size = 32 ∧ h.2.size = 32
theorem LogG.ext {B : Nat} {w W : World} {gl : Nat} {rv hv : Value} {R : List (List ChgT × Nat × Nat)} {H : List (ByteArray × ByteArray)} (h : LogG B w gl rv hv R H) (k : Below w.heap.size w W) : LogG B W gl rv hv R H :=
  ⟨h.log.ext k, own_ext h.recs k, own_ext h.heads k, fun x hx => ⟨(h.chg x hx).1.ext k, (h.chg x hx).2⟩, h.len, h.sizes⟩

/-- the blocks that an append to a log may change -/
def ApX (gl : Nat) (rv hv : Value) (k : Nat) : Prop := k = gl ∨ rv.ownBlock = some k ∨ hv.ownBlock = some k
/-- what holds while a log is appended to: X is the world ahead of it -/
structure ApI (B : Nat) (X : World) (gl : Nat) (rv hv : Value) (R : List (List ChgT × Nat × Nat)) (rv' : Value) (nr : Nat) (rcs : List Value) (hv' : Value) (nh : Nat) (hcs : List Value) (U : World) : Prop where
  ext : ExtS (ApX gl rv hv) X U
  log : Blk U gl 144 #[rv, hv]
  recs : U.ownsRow B 46 2 rv' nr rcs
  heads : U.ownsRow B 86 3 hv' nh hcs
  chg : ∀ x ∈ R, ChgB U x.2.1 x.1
section
variable {B : Nat} {X U V : World} {gl nr nh : Nat} {rv hv rv' hv' : Value} {R : List (List ChgT × Nat × Nat)} {rcs hcs : List Value}
theorem ApI.start {H : List (ByteArray × ByteArray)} (h : LogG B X gl rv hv R H) : ApI B X gl rv hv R rv R.length (rcF 0 R) hv H.length (hcF 0 H) X :=
  ⟨.of_ext (ext_refl X), h.log, h.recs, h.heads, fun x hx => (h.chg x hx).1⟩
theorem ApI.below (h : ApI B X gl rv hv R rv' nr rcs hv' nh hcs U) (k : Below U.heap.size U V) : ApI B X gl rv hv R rv' nr rcs hv' nh hcs V :=
  ⟨h.ext.trans (.of_ext k), h.log.ext k, own_ext h.recs k, own_ext h.heads k, fun x hx => (h.chg x hx).ext k⟩
theorem ChgB.grownT {e : TypeId} {sz n : Nat} {g : Nat} {l : List ChgT} {v : Value} {xs : List Value} (h : ChgB U g l) (hg : U.grownBy V v.ownBlock) (ho : U.ownsRow B e sz v n xs) (ht : 75 ≠ e) : ChgB V g l := by
  obtain ⟨cur, h, h2⟩ := h
  refine ⟨cur, h.grown hg ?_, h2⟩
  rcases ho.2 with ⟨rfl, _⟩ | ⟨g', cap, cur', rfl, _, hb, _⟩
  · simp [Value.ownBlock]
  · intro e2
    have e3 : g = g' := Option.some.inj e2
    subst e3
    exact blkNe h hb ht rfl
theorem Blk.grownT {t e : TypeId} {sz n g : Nat} {cs : Array Value} {v : Value} {xs : List Value} (h : Blk U g t cs) (hg : U.grownBy V v.ownBlock) (ho : U.ownsRow B e sz v n xs) (ht : t ≠ e) : Blk V g t cs := by
  refine h.grown hg ?_
  rcases ho.2 with ⟨rfl, _⟩ | ⟨g', cap, cur', rfl, _, hb, _⟩
  · simp [Value.ownBlock]
  · intro e2
    have e3 : g = g' := Option.some.inj e2
    subst e3
    exact blkNe h hb ht rfl
theorem own_grownT {e e' : TypeId} {sz n sz' n' : Nat} {v v' : Value} {xs xs' : List Value} (h : U.ownsRow B e' sz' v' n' xs') (hg : U.grownBy V v.ownBlock) (ho : U.ownsRow B e sz v n xs) (ht : e' ≠ e) : V.ownsRow B e' sz' v' n' xs' :=
  h.kept hg (own_ne h ho ht)
theorem ApI.app_rec {w1 : Value} {n1 : Nat} {xs1 : List Value} (h : ApI B X gl rv hv R rv nr rcs hv' nh hcs U) (ho : V.ownsRow B 46 2 w1 n1 xs1) (hg : U.grownBy V rv.ownBlock) : ApI B X gl rv hv R w1 n1 xs1 hv' nh hcs V :=
  ⟨⟨hg.os.trans h.ext.os, hg.tape.trans h.ext.tape, hg.output.trans h.ext.output, Nat.le_trans h.ext.size hg.size, fun k hk hn => (hg.block k (Nat.lt_of_lt_of_le hk h.ext.size) (fun e => hn (.inr (.inl e.symm)))).trans (h.ext.block k hk hn)⟩,
    h.log.grownT hg h.recs (by decide), ho, own_grownT h.heads hg h.recs (by decide), fun x hx => (h.chg x hx).grownT hg h.recs (by decide)⟩
theorem ApI.app_head {w1 : Value} {n1 : Nat} {xs1 : List Value} (h : ApI B X gl rv hv R rv' nr rcs hv nh hcs U) (ho : V.ownsRow B 86 3 w1 n1 xs1) (hg : U.grownBy V hv.ownBlock) : ApI B X gl rv hv R rv' nr rcs w1 n1 xs1 V :=
  ⟨⟨hg.os.trans h.ext.os, hg.tape.trans h.ext.tape, hg.output.trans h.ext.output, Nat.le_trans h.ext.size hg.size, fun k hk hn => (hg.block k (Nat.lt_of_lt_of_le hk h.ext.size) (fun e => hn (.inr (.inr e.symm)))).trans (h.ext.block k hk hn)⟩,
    h.log.grownT hg h.heads (by decide), own_grownT h.recs hg h.heads (by decide), ho, fun x hx => (h.chg x hx).grownT hg h.heads (by decide)⟩
end

end Go.Proofs.YtbgfmbmcabekeaaGreatDoor
