/-
  Part 6 of 17: the contracts that the proof of the last part uses; each stands under its own head.
-/
import Derived.Test.YtbgfmbmcabekeaaGreatDoorJ5
import Derived.BigRegion
import Derived.Deep.RegionHeld3
import Derived.Test.YtbgfmbmcabekeaaGreatDoorJ2
import Derived.Great.BuildSlice
import Derived.Test.YtbgfmbmcabekeaaGreatDoorJ1
import Derived.LoopN
import Derived.WalkMore
import Derived.Lib.ConvBytes
import Derived.Laws.Closers25
import Derived.Test.YtbgfmbmcabekeaaGreatDoorJ4
import Derived.Laws.CopyOwn
set_option linter.unusedSimpArgs false
set_option linter.unusedVariables false

/-
  package origin: Position, Time, SetLag, PositionAt, and the calls at a nil server; package logtree: Len.
-/
namespace Go.Proofs.YtbgfmbmcabekeaaGreatDoor
open Go.RowKit Go.Shelf

set_option maxHeartbeats 400000 in
theorem logLen (gl n c : Nat) (A : Option Addr) (v : Value) (w : World) (h : Blk w gl 144 #[.slice A n c, v]) : Calls Tryz.prog 44 #[.pointer (some ⟨gl, 0, none⟩)] w fun e w' => e = .returned (.int .i64 (n : Int)) ∧ w = w' := by
  have h0 : w.cell? ⟨gl, 0, none⟩ = some (.slice A n c) := h.cell 0
  clear h
  go_enter Tryz.func44, Tryz.ntmps44
  go_wp2
  go_ret
  exact ⟨rfl, rfl⟩
set_option maxHeartbeats 400000 in
theorem srvLog (gs gl : Nat) (w : World) (h : w.cell? ⟨gs, 0, none⟩ = some (.pointer (some ⟨gl, 0, none⟩))) : Calls Tryz.prog 43 #[.pointer (some ⟨gs, 0, none⟩)] w fun e w' => e = .returned (.pointer (some ⟨gl, 0, none⟩)) ∧ w = w' := by
  go_enter Tryz.func43, Tryz.ntmps43
  go_wp2
  go_ret
  exact ⟨rfl, rfl⟩
set_option maxHeartbeats 400000 in
theorem srvPos (gs gl n c : Nat) (A : Option Addr) (v : Value) (w : World) (h : w.cell? ⟨gs, 0, none⟩ = some (.pointer (some ⟨gl, 0, none⟩))) (hl : Blk w gl 144 #[.slice A n c, v]) :
    Calls Tryz.prog 16 #[.pointer (some ⟨gs, 0, none⟩)] w fun e w' => e = .returned (.int .i64 (n : Int)) ∧ w = w' := by
  go_enter Tryz.func16, Tryz.ntmps16
  go_wp2_with (first | (go_at_call 43; refine (srvLog gs gl w h).mono ?_; rintro e w' ⟨rfl, rfl⟩) | (go_at_call 44; refine (logLen gl n c A v w hl).mono ?_; rintro e w' ⟨rfl, rfl⟩))
  go_ret
  exact ⟨rfl, rfl⟩
set_option maxHeartbeats 400000 in
theorem srvTime (gs n c : Nat) (A : Option Addr) (hn : n ≤ 1000000) (w : World) (h : w.cell? ⟨gs, 2, none⟩ = some (.slice A n c)) : Calls Tryz.prog 14 #[.pointer (some ⟨gs, 0, none⟩)] w fun e w' => e = .returned (.int .i64 ((n : Int) - 1)) ∧ w = w' := by
  have e1 : IntKind.i64.wrap ((n : Int) - 1) = (n : Int) - 1 := IntWalk.i64_in _ (by omega)
  go_enter Tryz.func14, Tryz.ntmps14
  go_wp2
  go_ret
  exact ⟨rfl, rfl⟩
set_option maxHeartbeats 400000 in
theorem srvLagOk (gs : Nat) (n : Int) (u : Value) (h0 : 0 ≤ n) (hn : n ≤ 10000) (w : World) (h : w.cell? ⟨gs, 3, none⟩ = some u) (hf : w.frozen? ⟨gs, 3, none⟩ = false) :
    Calls Tryz.prog 33 #[.pointer (some ⟨gs, 0, none⟩), .int .i64 n] w fun e w' => e = .returned (.int .i64 0) ∧ w.setCell ⟨gs, 3, none⟩ (.int .i64 n) = w' := by
  go_enter Tryz.func33, Tryz.ntmps33
  go_wp2
  go_ret
  exact ⟨rfl, rfl⟩
set_option maxHeartbeats 400000 in
theorem srvAtNo (gs n c : Nat) (A : Option Addr) (t : Int) (ht : t < 0 ∨ (n : Int) ≤ t) (w : World) (h : w.cell? ⟨gs, 2, none⟩ = some (.slice A n c)) : Calls Tryz.prog 15 #[.pointer (some ⟨gs, 0, none⟩), .int .i64 t] w fun e w' => e = .returned (.int .i64 (-1)) ∧ w = w' := by
  by_cases h0 : t < 0
  · go_enter Tryz.func15, Tryz.ntmps15
    go_wp2
    go_ret
    exact ⟨rfl, rfl⟩
  · have h1 : (n : Int) ≤ t := by omega
    go_enter Tryz.func15, Tryz.ntmps15
    go_wp2
    go_ret
    exact ⟨rfl, rfl⟩
set_option maxHeartbeats 400000 in
theorem srvAtYes (gs n c k gp : Nat) (p : Int) (hk : k < n) (w : World) (h : w.cell? ⟨gs, 2, none⟩ = some (.slice (some ⟨gp, 0, none⟩) n c)) (hp : w.cell? ⟨gp, k, none⟩ = some (.int .i64 p)) :
    Calls Tryz.prog 15 #[.pointer (some ⟨gs, 0, none⟩), .int .i64 (k : Int)] w fun e w' => e = .returned (.int .i64 p) ∧ w = w' := by
  have q0 : (0 : Int) ≤ (k : Int) := by omega
  have q1 : (k : Int) < (n : Int) := by omega
  have d1 : decide ((n : Int) ≤ (k : Int)) = false := by simp; omega
  go_enter Tryz.func15, Tryz.ntmps15
  go_wp2
  go_ret
  exact ⟨rfl, rfl⟩

end Go.Proofs.YtbgfmbmcabekeaaGreatDoor

/-
  package store: Get at no row and at the law's row; package origin: filled.
-/
namespace Go.Proofs.YtbgfmbmcabekeaaGreatDoor
open Go.RowKit Go.Shelf

set_option maxRecDepth 100000 in
set_option maxHeartbeats 1000000 in
theorem getNone (gs gm : Nat) (pos : Int) (w : World) (hS : StateIs w false gs gm pos) : Calls Tryz.prog 27 #[.pointer (some ⟨gs, 0, none⟩), .int .i64 0, .int .i64 5] w fun e w' => e = .returned (.tuple #[.agg #[.int .i64 0, .int .i64 0, .int .i64 0, .int .i64 0, .int .i64 0], .bool false]) ∧ Below w.heap.size w w' := by
  have HS0 := Lib.hid (StateIs.ext hS (ext_new w (.cells #[.int .i64 0, .int .i64 0, .int .i64 0, .int .i64 0, .int .i64 0] 77)))
  clear hS
  have s0 := HS0.out.1.cell 0
  have gl := HS0.out.1.lt
  have hlk := lookup_none (P := Tryz.prog) (k := .agg #[.int .i64 0, .int .i64 5]) (w := w.alloc (.cells #[.int .i64 0, .int .i64 0, .int .i64 0, .int .i64 0, .int .i64 0] 77)) Tryz.underlying130 HS0.out.2 (id_check true _) Tryz.underlying136 (row_zero _)
  go_enter Tryz.func27, Tryz.ntmps27
  go_wp2
  exact bodyPost_ret (v := .tuple #[.agg #[.int .i64 0, .int .i64 0, .int .i64 0, .int .i64 0, .int .i64 0], .bool false]) (by simp [results, Tryz.results27, go_sem]) rfl ⟨rfl, by repeat (first | with_reducible refine ext_set ?_ (by simp) _ | with_reducible refine ext_alloc ?_ _ | with_reducible exact ext_refl _)⟩

set_option maxRecDepth 100000 in
set_option maxHeartbeats 1000000 in
theorem getOne (gs gm : Nat) (pos : Int) (w : World) (hS : StateIs w true gs gm pos) : Calls Tryz.prog 27 #[.pointer (some ⟨gs, 0, none⟩), .int .i64 0, .int .i64 5] w fun e w' => e = .returned (.tuple #[.agg #[.int .i64 0, .int .i64 5, .int .i64 1, .int .i64 2, .int .i64 3], .bool true]) ∧ Below w.heap.size w w' := by
  have HS0 := Lib.hid (StateIs.ext hS (ext_new w (.cells #[.int .i64 0, .int .i64 0, .int .i64 0, .int .i64 0, .int .i64 0] 77)))
  clear hS
  have s0 := HS0.out.1.cell 0
  have gl := HS0.out.1.lt
  have hlk := lookup_some (P := Tryz.prog) (k := .agg #[.int .i64 0, .int .i64 5]) (v := .agg #[.int .i64 0, .int .i64 5, .int .i64 1, .int .i64 2, .int .i64 3]) (i := 0) (w := w.alloc (.cells #[.int .i64 0, .int .i64 0, .int .i64 0, .int .i64 0, .int .i64 0] 77)) Tryz.underlying130 HS0.out.2 (id_check false _) (by kernel_rfl)
  go_enter Tryz.func27, Tryz.ntmps27
  go_wp2
  exact bodyPost_ret (v := .tuple #[.agg #[.int .i64 0, .int .i64 5, .int .i64 1, .int .i64 2, .int .i64 3], .bool true]) (by simp [results, Tryz.results27, go_sem]) rfl ⟨rfl, by repeat (first | with_reducible refine ext_set ?_ (by simp) _ | with_reducible refine ext_alloc ?_ _ | with_reducible exact ext_refl _)⟩

end Go.Proofs.YtbgfmbmcabekeaaGreatDoor

/-
  package origin: filled.
-/
namespace Go.Proofs.YtbgfmbmcabekeaaGreatDoor
open Go.RowKit Go.Shelf

def BelowI (X : World) (W : World) : Prop := Below X.heap.size X W
theorem BelowI.abide (X : World) : Abide (BelowI X) := fun _ _ h k => ext_call h k
theorem BelowI.of {X W : World} (h : Below X.heap.size X W) : BelowI X W := h

theorem keep3B {X W : World} {p q r : Addr} {x y z : Value} (h : X.cell? p = some x ∧ X.cell? q = some y ∧ X.cell? r = some z) (k : Below X.heap.size X W) : W.cell? p = some x ∧ W.cell? q = some y ∧ W.cell? r = some z ∧ Below X.heap.size X W :=
  ⟨cell_ext h.1 k, cell_ext h.2.1 k, cell_ext h.2.2 k, k⟩
theorem blk_head4 {W : World} {g : Nat} {t : TypeId} {a0 a1 a2 a3 a4 a5 a6 a7 a8 a9 u2 u3 u4 u5 : Value} {zs : Array Value} (h : Blk W g t (#[a0, a1, a2, a3, a4, a5, a6, a7, a8, a9] ++ zs)) :
    Blk ((((W.setCell ⟨g, 2, none⟩ u2).setCell ⟨g, 3, none⟩ u3).setCell ⟨g, 4, none⟩ u4).setCell ⟨g, 5, none⟩ u5) g t (#[a0, a1, u2, u3, u4, u5, a6, a7, a8, a9] ++ zs) := by
  have h1 := (((h.set_ 2 u2).set_ 3 u3).set_ 4 u4).set_ 5 u5
  simpa [Array.setIfInBounds_append] using h1
theorem keep3E {X W : World} {p q r : Addr} {x y z : Value} (h : W.cell? p = some x ∧ W.cell? q = some y ∧ W.cell? r = some z ∧ Below X.heap.size X W) : Below X.heap.size X W := h.2.2.2

set_option maxRecDepth 100000 in
set_option maxHeartbeats 2000000 in
theorem filled_any (had : Bool) (r0 r1 o0 o1 o2 : Int) (gs gl gst b c n cl : Nat) (A : Option Addr) (v : Value) (hn : n ≤ 1000) (w : World) (h0 : w.cell? ⟨gs, 0, none⟩ = some (.pointer (some ⟨gl, 0, none⟩))) (h1 : w.cell? ⟨gs, 1, none⟩ = some (.pointer (some ⟨gst, 0, none⟩)))
    (hl : Blk w gl 144 #[.slice A n cl, v]) (hB : HeadB w b #[.int .i64 0, .int .i64 5, .bool false, .int .i64 0, .int .i64 0, .int .i64 0, .bool true, .int .i64 1, .int .i64 2, .int .i64 3])
    (hG : ∀ W, Below w.heap.size w W → Calls Tryz.prog 27 #[.pointer (some ⟨gst, 0, none⟩), .int .i64 0, .int .i64 5] W fun e w' => e = .returned (.tuple #[.agg #[.int .i64 r0, .int .i64 r1, .int .i64 o0, .int .i64 o1, .int .i64 o2], .bool had]) ∧ Below W.heap.size W w') :
    Calls Tryz.prog 39 #[.pointer (some ⟨gs, 0, none⟩), .slice (some ⟨b, 0, none⟩) 1 c] w fun e w' => ∃ g d zs, e = .returned (.agg #[.int .i64 ((n : Int) + 1), .slice (some ⟨g, 0, none⟩) 1 d]) ∧
      Blk w' g 75 (#[.int .i64 0, .int .i64 5, .bool had, .int .i64 o0, .int .i64 o1, .int .i64 o2, .bool true, .int .i64 1, .int .i64 2, .int .i64 3] ++ zs) ∧ Below w.heap.size w w' := by
  have e1 : IntKind.i64.wrap ((n : Int) + 1) = (n : Int) + 1 := IntWalk.i64_in _ (by omega)
  obtain ⟨W0, hW0⟩ : ∃ W0, W0 = w.alloc (.cells #[.int .i64 0, .slice none 0 0] 46) := ⟨_, rfl⟩
  have HE0 := Lib.hid (show Below w.heap.size w W0 by rw [hW0]; exact ext_new _ _)
  have HR0 := Lib.hid (show Blk W0 w.heap.size 46 #[.int .i64 0, .slice none 0 0] by rw [hW0]; exact Blk.new _ _ _)
  have HW0 := Lib.hid hW0
  have H0 := Lib.hid (cell_ext h0 HE0.out)
  have H1 := Lib.hid (cell_ext h1 HE0.out)
  have HL := Lib.hid (hl.ext HE0.out)
  have HB := Lib.hid (hB.ext HE0.out)
  have HG := Lib.hid hG
  clear hW0 h0 h1 hl hB hG
  go_enter Tryz.func39, Tryz.ntmps39
  go_upto_region 1 with (fail)
  rw [← HW0.out]
  go_wp2_with fail
  refine (srvPos gs gl n cl A v W0 H0.out HL.out).mono ?_
  rintro e w' ⟨rfl, hw'⟩
  subst w'
  go_wp2_with fail
  refine (cloneChgB b c W0 HB.out).mono ?_
  rintro e W1 ⟨g, d, zs, rfl, hg, hb, hb1⟩
  have HG1 := Lib.hid hb
  have HE1 := Lib.hid hb1
  have hge := hg
  clear hb hb1 hg
  go_wp2
  obtain ⟨X, hX⟩ : ∃ X, X = W1.alloc (.cells #[.int .i64 ((n : Int) + 1), .slice (some ⟨g, 0, none⟩) 1 d] 46) := ⟨_, rfl⟩
  rw [← hX]
  have HRX := Lib.hid (show Blk X W1.heap.size 46 #[.int .i64 ((n : Int) + 1), .slice (some ⟨g, 0, none⟩) 1 d] by rw [hX]; exact Blk.new _ _ _)
  have HGX := Lib.hid (show Blk X g 75 (#[.int .i64 0, .int .i64 5, .bool false, .int .i64 0, .int .i64 0, .int .i64 0, .bool true, .int .i64 1, .int .i64 2, .int .i64 3] ++ zs) by rw [hX]; exact HG1.out.alloc _)
  have HEX := Lib.hid (show Below w.heap.size w X by rw [hX]; exact ext_alloc (ext_call HE0.out HE1.out) _)
  have HXW := Lib.hid (show Below W0.heap.size W0 X by rw [hX]; exact ext_alloc HE1.out _)
  have h0X := cell_ext H0.out (show Below W0.heap.size W0 X by rw [hX]; exact ext_alloc HE1.out _)
  have h1X := cell_ext H1.out (show Below W0.heap.size W0 X by rw [hX]; exact ext_alloc HE1.out _)
  have hgX : g < W1.heap.size := HG1.out.lt
  clear hX HG1 HE1
  have x0 := HRX.out.cell 0
  have x1 := HRX.out.cell 1
  have HHX : HeadB X g #[.int .i64 0, .int .i64 5, .bool false, .int .i64 0, .int .i64 0, .int .i64 0, .bool true, .int .i64 1, .int .i64 2, .int .i64 3] := .of2 HGX.out
  have c0 := HHX.cell 0
  have c1 := HHX.cell 1
  have HK := Lib.hid (show X.cell? ⟨gs, 1, none⟩ = some (.pointer (some ⟨gst, 0, none⟩)) ∧ X.cell? ⟨g, 0, none⟩ = some (.int .i64 0) ∧ X.cell? ⟨g, 1, none⟩ = some (.int .i64 5) from ⟨h1X, c0, c1⟩)
  refine wp_loop_rounds 2 ?_
  rw [rounds_succ]
  go_upto_region 6 with (fail)
  go_region_held3 (fun w' => w'.cell? ⟨gs, 1, none⟩ = some (.pointer (some ⟨gst, 0, none⟩)) ∧ w'.cell? ⟨g, 0, none⟩ = some (.int .i64 0) ∧ w'.cell? ⟨g, 1, none⟩ = some (.int .i64 5) ∧ Below X.heap.size X w')
    (first | with_reducible assumption | exact keep3B HK.out (by repeat (first | with_reducible refine ext_alloc ?_ _ | with_reducible refine Below.drew ?_ | with_reducible assumption | with_reducible exact ext_refl _ | refine ext_set ?_ (Nat.le_refl _) _)))
    (first | (go_at_call 27; (with_reducible refine (HG.out _ ?_).mono ?_); (exact ext_call HEX.out (keep3E (by assumption))); rintro e Z ⟨rfl, hb'⟩; have hXZ := ext_call (keep3E (by assumption)) hb'; try (have hbx := (show Blk Z X.heap.size 77 #[.int .i64 0, .int .i64 0, .int .i64 0, .int .i64 0, .int .i64 0] from ((Blk.new X _ _).drew).ext hb'); have bx0 := hbx.cell 0; have bf0 := hbx.frozen 0; have bx1 := hbx.cell 1; have bf1 := hbx.frozen 1; have bx2 := hbx.cell 2; have bf2 := hbx.frozen 2; have bx3 := hbx.cell 3; have bf3 := hbx.frozen 3; have bx4 := hbx.cell 4; have bf4 := hbx.frozen 4; have HBX := Lib.hid hbx; clear hbx)))
  all_goals
    clear h0X h1X x0 x1 c0 c1 HHX
    first
    | (generalize hV : (World.setCell (World.setCell (World.setCell (World.setCell (World.setCell Z ⟨X.heap.size, 0, none⟩ (.int .i64 r0)) ⟨X.heap.size, 1, none⟩ (.int .i64 r1)) ⟨X.heap.size, 2, none⟩ (.int .i64 o0)) ⟨X.heap.size, 3, none⟩ (.int .i64 o1)) ⟨X.heap.size, 4, none⟩ (.int .i64 o2)) = V
       have HBv := Lib.hid (show Blk V X.heap.size 77 #[.int .i64 r0, .int .i64 r1, .int .i64 o0, .int .i64 o1, .int .i64 o2] by subst hV; exact (((((HBX.out.set_ 0 _).set_ 1 _).set_ 2 _).set_ 3 _).set_ 4 _))
       have HEv := Lib.hid (show Below X.heap.size X V by subst hV; exact (ext_set (ext_set (ext_set (ext_set (ext_set hXZ (Nat.le_refl _) _) (Nat.le_refl _) _) (Nat.le_refl _) _) (Nat.le_refl _) _) (Nat.le_refl _) _))
       clear bx0 bf0 bx1 bf1 bx2 bf2 bx3 bf3 bx4 bf4 hV HBX hb' hXZ
       obtain ⟨rb, hrr⟩ : ∃ rb, rb = X.heap.size := ⟨_, rfl⟩
       rw [← hrr] at HBv ⊢
       have hrb : X.heap.size ≤ rb := by omega)
    | (generalize hV : World.alloc Z (.cells #[.int .i64 r0, .int .i64 r1, .int .i64 o0, .int .i64 o1, .int .i64 o2] 77) = V
       have HBv := Lib.hid (show Blk V Z.heap.size 77 #[.int .i64 r0, .int .i64 r1, .int .i64 o0, .int .i64 o1, .int .i64 o2] by subst hV; exact Blk.new _ _ _)
       have HEv := Lib.hid (show Below X.heap.size X V by subst hV; exact ext_alloc hXZ _)
       have hrb : X.heap.size ≤ Z.heap.size := hXZ.size
       clear hV hb' hXZ
       generalize hrr : Z.heap.size = rb at HBv hrb ⊢)
    clear hrr
    have hxg : g < X.heap.size := HGX.out.lt
    have hne : ¬ rb = g := by omega
    have hne' : ¬ g = rb := by omega
    clear hxg
    have HGv := Lib.hid (HGX.out.ext HEv.out)
    have HRv := Lib.hid (HRX.out.ext HEv.out)
    have hgh : HeadB V g #[.int .i64 0, .int .i64 5, .bool false, .int .i64 0, .int .i64 0, .int .i64 0, .bool true, .int .i64 1, .int .i64 2, .int .i64 3] := .of2 HGv.out
    have c2 := hgh.cell 2
    have c3 := hgh.cell 3
    have c4 := hgh.cell 4
    have c5 := hgh.cell 5
    have f2 := HGv.out.frozen 2
    have f3 := HGv.out.frozen 3
    have f4 := HGv.out.frozen 4
    have f5 := HGv.out.frozen 5
    have y2 := HBv.out.cell 2
    have y3 := HBv.out.cell 3
    have y4 := HBv.out.cell 4
    clear hgh
    go_upto_region 7 with (fail)
    go_region
    have hg1 : w.heap.size < W0.heap.size := HR0.out.lt
    have hg2 : W1.heap.size ≠ g := by omega
    have hg3 : w.heap.size ≠ g := by omega
    have HGu := Lib.hid (Blk.drew (blk_head4 (u2 := .bool had) (u3 := .int .i64 o0) (u4 := .int .i64 o1) (u5 := .int .i64 o2) HGv.out))
    have HRu := Lib.hid (Blk.drew ((((HRv.out.far hg2 (.bool had) (p := ⟨g, 2, none⟩)).far hg2 (.int .i64 o0) (p := ⟨g, 3, none⟩)).far hg2 (.int .i64 o1) (p := ⟨g, 4, none⟩)).far hg2 (.int .i64 o2) (p := ⟨g, 5, none⟩)))
    generalize hU : ((((V.setCell ⟨g, 2, none⟩ (.bool had)).setCell ⟨g, 3, none⟩ (.int .i64 o0)).setCell ⟨g, 4, none⟩ (.int .i64 o1)).setCell ⟨g, 5, none⟩ (.int .i64 o2)).drew = U at HGu HRu ⊢
    have HEu := Lib.hid (show Below w.heap.size w U by rw [← hU]; exact (ext_set (ext_set (ext_set (ext_set (ext_call HEX.out HEv.out) (Nat.le_of_lt (Nat.lt_of_lt_of_le hg1 hge)) _) (Nat.le_of_lt (Nat.lt_of_lt_of_le hg1 hge)) _) (Nat.le_of_lt (Nat.lt_of_lt_of_le hg1 hge)) _) (Nat.le_of_lt (Nat.lt_of_lt_of_le hg1 hge)) _).drew)
    have HZu := Lib.hid (show Blk U w.heap.size 46 #[.int .i64 0, .slice none 0 0] by
      have h1 : Blk X w.heap.size 46 #[.int .i64 0, .slice none 0 0] := HR0.out.ext (HXW.out)
      rw [← hU]
      exact Blk.drew ((((h1.ext HEv.out).far hg3 (.bool had) (p := ⟨g, 2, none⟩)).far hg3 (.int .i64 o0) (p := ⟨g, 3, none⟩)).far hg3 (.int .i64 o1) (p := ⟨g, 4, none⟩) |>.far hg3 (.int .i64 o2) (p := ⟨g, 5, none⟩)))
    clear hU c2 c3 c4 c5 f2 f3 f4 f5 y2 y3 y4
    have x0 := HRu.out.cell 0
    have x1 := HRu.out.cell 1
    have z0 := HZu.out.cell 0
    have z1 := HZu.out.cell 1
    have zf0 := HZu.out.frozen 0
    have zf1 := HZu.out.frozen 1
    go_wp2
    rw [rounds_succ]
    go_wp2
    have hBf := (HZu.out.set_ 0 (.int .i64 ((n : Int) + 1))).set_ 1 (.slice (some ⟨g, 0, none⟩) 1 d)
    have y0 := hBf.cell 0; have y1 := hBf.cell 1
    refine bodyPost_ret (v := .agg #[.int .i64 ((n : Int) + 1), .slice (some ⟨g, 0, none⟩) 1 d]) (by simp [results, Tryz.results39, go_sem, y0, y1]) rfl ⟨g, d, zs, rfl, ?_, ?_⟩
    · exact (HGu.out.far hg3.symm (p := ⟨w.heap.size, 0, none⟩) _).far hg3.symm (p := ⟨w.heap.size, 1, none⟩) _
    · exact ext_set (ext_set HEu.out (Nat.le_refl _) _) (Nat.le_refl _) _

end Go.Proofs.YtbgfmbmcabekeaaGreatDoor

/-
  package logtree: Record; package origin: records as an iterator of one round and of none.
-/
namespace Go.Proofs.YtbgfmbmcabekeaaGreatDoor
open Go.RowKit Go.Shelf
attribute [local go_sem] Oper.semAt_some

set_option maxHeartbeats 400000 in
theorem logLenC (gl n c : Nat) (A : Option Addr) (w : World) (h0 : w.cell? ⟨gl, 0, none⟩ = some (.slice A n c)) : Calls Tryz.prog 44 #[.pointer (some ⟨gl, 0, none⟩)] w fun e w' => e = .returned (.int .i64 (n : Int)) ∧ w = w' := by
  go_enter Tryz.func44, Tryz.ntmps44
  go_wp2
  go_ret
  exact ⟨rfl, rfl⟩

/-- a log of one record at gl -/
structure OneRec (W : World) (gl : Nat) : Prop where
  at_ : ∃ gr c g d v, Blk W gl 144 #[.slice (some ⟨gr, 0, none⟩) 1 c, v] ∧ 1 ≤ c ∧ HeadB W gr #[.int .i64 1, .slice (some ⟨g, 0, none⟩) 1 d] ∧ HeadB W g #[.int .i64 0, .int .i64 5, .bool false, .int .i64 0, .int .i64 0, .int .i64 0, .bool true, .int .i64 1, .int .i64 2, .int .i64 3]
theorem OneRec.ext {w W : World} {gl : Nat} (h : OneRec w gl) (k : Below w.heap.size w W) : OneRec W gl := by
  obtain ⟨gr, c, g, d, v, h1, h2, h3, h4⟩ := h.at_
  exact ⟨gr, c, g, d, v, h1.ext k, h2, h3.ext k, h4.ext k⟩

set_option maxRecDepth 100000 in
set_option maxHeartbeats 1000000 in
theorem logRecord (gl : Nat) (w : World) (h : OneRec w gl) : Calls Tryz.prog 96 #[.pointer (some ⟨gl, 0, none⟩), .int .i64 1] w
    fun e w' => ∃ g d, e = .returned (.tuple #[.agg #[.int .i64 1, .slice (some ⟨g, 0, none⟩) 1 d], .bool true]) ∧ HeadB w' g #[.int .i64 0, .int .i64 5, .bool false, .int .i64 0, .int .i64 0, .int .i64 0, .bool true, .int .i64 1, .int .i64 2, .int .i64 3] ∧ Below w.heap.size w w' := by
  obtain ⟨gr, c, g, d, v, h1, hc, h3, h4⟩ := h.at_
  obtain ⟨X, hX⟩ : ∃ X, X = w.alloc (.cells #[.int .i64 0, .slice none 0 0] 46) := ⟨_, rfl⟩
  have HX := Lib.hid hX
  have HE := Lib.hid (show Below w.heap.size w X by rw [hX]; exact ext_new _ _)
  have HR := Lib.hid (show Blk X w.heap.size 46 #[.int .i64 0, .slice none 0 0] by rw [hX]; exact Blk.new _ _ _)
  have c0 := (h1.ext HE.out).cell 0
  have r0 := (h3.ext HE.out).cell 0
  have r1 := (h3.ext HE.out).cell 1
  have HC := Lib.hid (h4.ext HE.out)
  have hgl := h1.lt
  have hgr := h3.lt
  clear hX h1 h3 h4 h
  go_enter Tryz.func96, Tryz.ntmps96
  go_upto_region 1 with (fail)
  rw [← HX.out]
  go_wp2_with (go_at_call 44; refine (logLenC gl 1 c _ _ c0).mono ?_; rintro e w' ⟨rfl, hw'⟩; subst w')
  refine (logOwn g d X HC.out).mono ?_
  rintro e W1 ⟨g2, d2, rfl, _, hb, hb1⟩
  have HB1 := Lib.hid hb
  have HE1 := Lib.hid (ext_call HE.out hb1)
  have HR1 := Lib.hid (HR.out.ext hb1)
  have hg2 : g2 ≠ w.heap.size := by
    rintro rfl
    have h0 := (hb.cell 0).symm.trans (HR.out.ext hb1 |>.cell 0)
    have h2 := (hb.cell 2).symm.trans (HR.out.ext hb1 |>.cell 2)
    cases h2
  clear hb hb1 c0 r0 r1
  have z0 := HR1.out.cell 0; have z1 := HR1.out.cell 1
  have f0 := HR1.out.frozen 0
  have f1 := HR1.out.frozen 1
  go_wp2
  have hBf := (HR1.out.set_ 0 (.int .i64 1)).set_ 1 (.slice (some ⟨g2, 0, none⟩) 1 d2)
  have y0 := hBf.cell 0; have y1 := hBf.cell 1
  refine bodyPost_ret (v := .tuple #[.agg #[.int .i64 1, .slice (some ⟨g2, 0, none⟩) 1 d2], .bool true]) (by simp [results, Tryz.results96, go_sem, y0, y1]) rfl ⟨g2, d2, rfl, ?_, ?_⟩
  · exact (HB1.out.far (p := ⟨w.heap.size, 0, none⟩) hg2 _).far (p := ⟨w.heap.size, 1, none⟩) hg2 _
  · exact ext_set (ext_set HE1.out (Nat.le_refl _) _) (Nat.le_refl _) _

/-- what the iterator of records reads -/
structure RecC (gs gl b1 b2 b3 : Nat) (first last : Int) (W : World) : Prop where
  one : Blk W b1 3 #[.int .i64 first]
  two : Blk W b2 3 #[.int .i64 last]
  srv : Blk W b3 25 #[.pointer (some ⟨gs, 0, none⟩)]
  log : W.cell? ⟨gs, 0, none⟩ = some (.pointer (some ⟨gl, 0, none⟩))
  recs : OneRec W gl
theorem RecC.ext {gs gl b1 b2 b3 : Nat} {first last : Int} {w W : World} (h : RecC gs gl b1 b2 b3 first last w) (k : Below w.heap.size w W) : RecC gs gl b1 b2 b3 first last W :=
  ⟨h.one.ext k, h.two.ext k, h.srv.ext k, cell_ext h.log k, h.recs.ext k⟩
/-- a record's value: where its changes lie, and their capacity -/
def recV (x : Nat × Nat) : Array Value := #[.int .i64 1, .slice (some ⟨x.1, 0, none⟩) 1 x.2]
def RecM (_ : Nat) (x : Nat × Nat) (W : World) : Prop := HeadB W x.1 #[.int .i64 0, .int .i64 5, .bool false, .int .i64 0, .int .i64 0, .int .i64 0, .bool true, .int .i64 1, .int .i64 2, .int .i64 3]

theorem srvPosC (gs gl : Nat) (w : World) (h : w.cell? ⟨gs, 0, none⟩ = some (.pointer (some ⟨gl, 0, none⟩))) (hl : OneRec w gl) :
    Calls Tryz.prog 16 #[.pointer (some ⟨gs, 0, none⟩)] w fun e w' => e = .returned (.int .i64 1) ∧ w' = w := by
  obtain ⟨gr, c, g, d, v, h1, _⟩ := hl.at_
  exact (srvPos gs gl 1 c _ v w h h1).mono fun _ _ ⟨a, b⟩ => ⟨a, b.symm⟩

def RecPost (J : Nat → World → Prop) (N : Nat) (e : Ending) (W' : World) : Prop := (∃ v, e = .returned v) ∧ J N W'

set_option maxRecDepth 100000 in
set_option maxHeartbeats 1000000 in
theorem records1_in (n : Nat) (hn : 1 ≤ n) (l gs gl b1 b2 b3 : Nat) (J : Nat → World → Prop) (hC : ∀ k W, J k W → RecC gs gl b1 b2 b3 1 1 W) (hA : ∀ k A B, J k A → Below A.heap.size A B → J k B)
    (hY : ∀ k xs W1, k < 1 → J k W1 → (∃ x, xs = #[.agg (recV x)] ∧ RecM k x W1) → YieldAt Fence.wide (n - 1) Tryz.prog l xs W1 fun e W' => e = .returned (.bool true) ∧ J (k + 1) W')
    (W : World) (h0 : J 0 W) :
    CallsIn Fence.wide n Tryz.prog 95 #[.func (.yield l) #[] #[], .pointer (some ⟨b1, 0, none⟩), .pointer (some ⟨b2, 0, none⟩), .pointer (some ⟨b3, 0, none⟩)] W (RecPost J 1) := by
  have HC := Lib.hid hC
  have HA := Lib.hid hA
  have HY := Lib.hid hY
  have H0 := Lib.hid h0
  have R0 := Lib.hid (hC 0 W h0)
  clear hC hA hY h0
  have hmx : max (1 : Int) 1 = 1 := by decide
  have hmn : min (1 : Int) 1 = 1 := by decide
  have a1 := R0.out.one.cell 0
  have a2 := R0.out.two.cell 0
  have a3 := R0.out.srv.cell 0
  refine callsIn_of_wp Tryz.func95 rfl trivial ?_ rfl
  simp only [Tryz.ntmps95, List.size_toArray, List.length_cons, List.length_nil, Nat.reduceAdd, Nat.reduceSub, Array.replicate_succ, Array.replicate_zero, List.push_toArray, List.append_toArray, List.nil_append, List.cons_append]
  gi_wp2
  refine wpIn_loop_rounds 2 ?_
  rw [roundsIn_succ]
  gi_wp2
  have HQ := Lib.hid (fun X (k : Below W.heap.size W X) => srvPosC gs gl X (cell_ext R0.out.log k) (R0.out.recs.ext k))
  gi_region_with (refine ⟨trivial, (callsIn_wide.2 (HQ.out _ (by first | exact ext_refl W | exact (ext_refl W).drew))).mono ?_⟩; rintro e W2 ⟨rfl, hw2⟩; subst W2)
  all_goals
    obtain ⟨V, hV⟩ : ∃ V, V = W.drew := ⟨_, rfl⟩
    rw [← hV]
    have HEV := Lib.hid (show Below W.heap.size W V by rw [hV]; exact (ext_refl W).drew)
    have RV := Lib.hid (R0.out.ext HEV.out)
    clear hV a1 a2 a3
    have a3 := RV.out.srv.cell 0
    have s0 := RV.out.log
    gi_wp2_with fail
    refine ⟨trivial, (callsIn_wide.2 (logRecord gl V RV.out.recs)).mono ?_⟩
    rintro e W1 ⟨g, d, rfl, hg, hb1⟩
    obtain ⟨W2, hW2⟩ : ∃ W2, W2 = W1.alloc (.cells #[.int .i64 1, .slice (some ⟨g, 0, none⟩) 1 d] 46) := ⟨_, rfl⟩
    have HW2 := Lib.hid hW2
    have HE2 := Lib.hid (show Below W.heap.size W W2 by rw [hW2]; exact ext_alloc (ext_call HEV.out hb1) _)
    have HG2 := Lib.hid (show HeadB W2 g #[.int .i64 0, .int .i64 5, .bool false, .int .i64 0, .int .i64 0, .int .i64 0, .bool true, .int .i64 1, .int .i64 2, .int .i64 3] by rw [hW2]; exact hg.alloc _)
    clear hb1 hg hW2 a3 s0
    obtain ⟨fn, tmps, assign, body, hy, hR⟩ := HY.out 0 #[.agg #[.int .i64 1, .slice (some ⟨g, 0, none⟩) 1 d]] W2 (by omega) (HA.out _ _ _ H0.out HE2.out) ⟨(g, d), rfl, HG2.out⟩
    gi_wp2_with fail
    rw [← HW2.out, hy]
    gi_wp2
    refine hR.mono ?_
    rintro e W3 ⟨rfl, hJ3⟩
    have HJ3 := Lib.hid hJ3
    have R3 := Lib.hid (HC.out _ _ hJ3)
    clear hJ3 hR hy HW2
    have a1 := R3.out.one.cell 0
    have a2 := R3.out.two.cell 0
    have a3 := R3.out.srv.cell 0
    have HQ3 := Lib.hid (fun X (k : Below W3.heap.size W3 X) => srvPosC gs gl X (cell_ext R3.out.log k) (R3.out.recs.ext k))
    gi_wp2
    rw [roundsIn_succ]
    gi_wp2
    gi_region_with (refine ⟨trivial, (callsIn_wide.2 (HQ3.out _ (by first | exact ext_refl W3 | exact (ext_refl W3).drew))).mono ?_⟩; rintro e W4 ⟨rfl, hw4⟩; subst W4)
    all_goals
      gi_wp2
      refine bodyPost_ret (results_none rfl _ _ _) rfl ⟨⟨_, rfl⟩, ?_⟩
      exact HA.out _ _ _ HJ3.out (ext_refl W3).drew

set_option maxRecDepth 100000 in
set_option maxHeartbeats 1000000 in
theorem records0_in (n : Nat) (hn : 1 ≤ n) (l gs gl b1 b2 b3 : Nat) (J : Nat → World → Prop) (hC : ∀ k W, J k W → RecC gs gl b1 b2 b3 2 1 W) (hA : ∀ k A B, J k A → Below A.heap.size A B → J k B) (W : World) (h0 : J 0 W) :
    CallsIn Fence.wide n Tryz.prog 95 #[.func (.yield l) #[] #[], .pointer (some ⟨b1, 0, none⟩), .pointer (some ⟨b2, 0, none⟩), .pointer (some ⟨b3, 0, none⟩)] W (RecPost J 0) := by
  have HA := Lib.hid hA
  have H0 := Lib.hid h0
  have R0 := Lib.hid (hC 0 W h0)
  clear hC hA h0
  have hmx : max (2 : Int) 1 = 2 := by decide
  have hmn : min (1 : Int) 1 = 1 := by decide
  have a1 := R0.out.one.cell 0
  have a2 := R0.out.two.cell 0
  have a3 := R0.out.srv.cell 0
  have HQ := Lib.hid (fun X (k : Below W.heap.size W X) => srvPosC gs gl X (cell_ext R0.out.log k) (R0.out.recs.ext k))
  refine callsIn_of_wp Tryz.func95 rfl trivial ?_ rfl
  simp only [Tryz.ntmps95, List.size_toArray, List.length_cons, List.length_nil, Nat.reduceAdd, Nat.reduceSub, Array.replicate_succ, Array.replicate_zero, List.push_toArray, List.append_toArray, List.nil_append, List.cons_append]
  gi_wp2
  refine wpIn_loop_rounds 1 ?_
  rw [roundsIn_succ]
  gi_wp2
  gi_region_with (refine ⟨trivial, (callsIn_wide.2 (HQ.out _ (by first | exact ext_refl W | exact (ext_refl W).drew))).mono ?_⟩; rintro e W4 ⟨rfl, hw4⟩; subst W4)
  all_goals
    gi_wp2
    refine bodyPost_ret (results_none rfl _ _ _) rfl ⟨⟨_, rfl⟩, ?_⟩
    exact HA.out _ _ _ H0.out (ext_refl W).drew

theorem records1_seq (n : Nat) (hn : 1 ≤ n) (gs gl b1 b2 b3 : Nat) :
    SeqMem n Tryz.prog 95 #[.pointer (some ⟨b1, 0, none⟩), .pointer (some ⟨b2, 0, none⟩), .pointer (some ⟨b3, 0, none⟩)] 1 (RecC gs gl b1 b2 b3 1 1) (fun k xs W => ∃ x, xs = #[.agg (recV x)] ∧ RecM k x W) :=
  fun l J W hC hA hY h0 => records1_in n hn l gs gl b1 b2 b3 J hC hA hY W h0
theorem records0_seq (n : Nat) (hn : 1 ≤ n) (gs gl b1 b2 b3 : Nat) :
    SeqMem n Tryz.prog 95 #[.pointer (some ⟨b1, 0, none⟩), .pointer (some ⟨b2, 0, none⟩), .pointer (some ⟨b3, 0, none⟩)] 0 (RecC gs gl b1 b2 b3 2 1) (fun k xs W => ∃ x, xs = #[.agg (recV x)] ∧ RecM k x W) :=
  fun l J W hC hA _ h0 => records0_in n hn l gs gl b1 b2 b3 J hC hA W h0

set_option maxHeartbeats 400000 in
theorem records_any (gs : Nat) (first last : Int) (w : World) :
    Calls Tryz.prog 54 #[.pointer (some ⟨gs, 0, none⟩), .int .i64 first, .int .i64 last] w fun e w' =>
      e = .returned (.func (.func 95) #[] #[.pointer (some ⟨w.heap.size + 1, 0, none⟩), .pointer (some ⟨w.heap.size + 1 + 1, 0, none⟩), .pointer (some ⟨w.heap.size, 0, none⟩)]) ∧
      ((w.alloc (.cells #[.pointer (some ⟨gs, 0, none⟩)] 25)).alloc (.cells #[.int .i64 first] 3)).alloc (.cells #[.int .i64 last] 3) = w' := by
  have hmf : ∀ (fn : Fn) (first cap : Array Value) (w : World), (Instr.makeFunc fn first cap).run Tryz.prog w = .ok (.func fn first cap) w := fun _ _ _ _ => rfl
  go_enter Tryz.func54, Tryz.ntmps54
  go_wp2
  go_ret
  exact ⟨rfl, rfl⟩

/-- a range over an iterator of structs: the value in a box of the round -/
theorem wpIn_mem_boxA {α : Type} {n : Nat} {P : Program} {g : Operand} {ps : Array Tmp} {assign body : Code} {Q : Exit → Act → World → Prop} {a : Act} {w : World}
    (h1 : 1 ≤ n) {gf : Nat} {lb : Array Value} (hg : a.eval g = .func (.func gf) #[] lb) (eg : ∀ args w, (callFunc gf args).run P w = .ok (.enter gf args) w)
    {N : Nat} {C : World → Prop} {M : Nat → α → World → Prop} (sh : α → Array Value) (hseq : SeqMem (n - 1) P gf lb N C (fun k xs W => ∃ x, xs = #[.agg (sh x)] ∧ M k x W)) (hps : ps.size = 1)
    (I : Nat → World → Prop) (hI : ∀ k, OwnP w.heap.size (I k)) (hC : ∀ k W, I k W → C W) (h0 : I 0 w) (hM : ∀ k x, OwnP w.heap.size (M k x))
    (t : TypeId) (Fr : Nat → α → Act)
    (hassign : ∀ (l h : Nat) (x : α) (W : World) (K : Act → World → Prop), h = W.heap.size → K (Fr h x) (W.alloc (.cells (sh x) t)) →
      assign.wpIn (Fence.wide.inRound l) (n - 1 - 1) P (Exit.then K (fun _ _ _ => False)) { tmps := (ps.zip #[.agg (sh x)]).foldl (fun t (p, v) => t.setIfInBounds p v) a.tmps, defers := [] } W)
    (hbody : ∀ (l h k : Nat) (x : α) (W : World), k < N → w.heap.size ≤ W.heap.size → w.heap.size ≤ h → Blk W h t (sh x) → M k x W → I k W →
      body.wpIn (Fence.wide.inRound l) (n - 1 - 1) P (OncePost w.heap.size (I (k + 1)) W) (Fr h x) W)
    (hdone : ∀ (D : Nat) (W : World), w.heap.size ≤ D → I N W → W.heap[D]? = some (.deferred (some [])) → Q .normal { a with defers := { target := .collected D, args := #[] } :: a.defers } W) :
    (Code.rangeFunc g ps assign body).wpIn Fence.wide n P Q a w :=
  wpIn_mem h1 hg eg hseq (fun k xs W h => by obtain ⟨x, rfl, _⟩ := h; rw [hps]; rfl) I hI hC h0 (fun k a' W => ∃ h x, w.heap.size ≤ h ∧ a' = Fr h x ∧ Blk W h t (sh x) ∧ M k x W)
    (fun k a' _ X Y row hs hg hr => by
      obtain ⟨h, x, hh, ha, hB, hm⟩ := hs
      exact ⟨h, x, hh, ha, OwnP.blk (B := w.heap.size) () X Y row hB hg hr, hM k _ () X Y row hm hg hr⟩)
    (fun l k xs W K hk hsz hI' hm hK => by
      obtain ⟨x, rfl, hm⟩ := hm
      exact hassign l W.heap.size x W K rfl (hK _ _ ((KeepsOthers.alloc W _).from _) (OwnFrom.alloc (s := ()) (hI k) _ hI') ⟨_, x, hsz, rfl, Blk.new _ _ _, OwnFrom.alloc (s := ()) (hM k _) _ hm⟩))
    (fun l k a' W hk hsz hI' hA => by
      obtain ⟨h, x, hh, rfl, hB, hm⟩ := hA
      exact hbody l h k x W hk hsz hh hB hm hI') hdone

end Go.Proofs.YtbgfmbmcabekeaaGreatDoor

/-
  package slices: AppendSeq, Collect of one record; package origin: Records, State; package store: At at the position 0.
-/
namespace Go.Proofs.YtbgfmbmcabekeaaGreatDoor
open Go.RowKit Go.Shelf
attribute [local go_sem] Oper.semAt_some
attribute [local go_sem ↓] Go.wp_at_zero Go.wp_at_succ

theorem headB_kept {X Y : World} {row : Option Nat} {b : Nat} {cs : Array Value} (h : HeadB X b cs) (hg : X.grownBy Y row) (hr : ∀ r, row = some r → ∃ o : Obj, X.heap[r]? = some o ∧ o.isCells = false) : HeadB Y b cs :=
  ⟨Nat.lt_of_lt_of_le h.lt hg.size, fun i hi => by
    rw [Array.getElem?_eq_getElem hi]
    exact cell_kept ((h.cells i hi).trans (Array.getElem?_eq_getElem hi)) hg hr⟩
theorem blk_kept {X Y : World} {row : Option Nat} {b : Nat} {t : TypeId} {cs : Array Value} (h : Blk X b t cs) (hg : X.grownBy Y row) (hr : ∀ r, row = some r → ∃ o : Obj, X.heap[r]? = some o ∧ o.isCells = false) : Blk Y b t cs :=
  OwnP.blk (B := 0) () X Y row h hg (fun r e => ⟨Nat.zero_le _, hr r e⟩)
theorem OneRec.kept {X Y : World} {row : Option Nat} {gl : Nat} (h : OneRec X gl) (hg : X.grownBy Y row) (hr : ∀ r, row = some r → ∃ o : Obj, X.heap[r]? = some o ∧ o.isCells = false) : OneRec Y gl := by
  obtain ⟨gr, c, g, d, v, h1, h2, h3, h4⟩ := h.at_
  exact ⟨gr, c, g, d, v, blk_kept h1 hg hr, h2, headB_kept h3 hg hr, headB_kept h4 hg hr⟩
theorem RecC.kept {X Y : World} {row : Option Nat} {gs gl b1 b2 b3 : Nat} {first last : Int} (h : RecC gs gl b1 b2 b3 first last X) (hg : X.grownBy Y row) (hr : ∀ r, row = some r → ∃ o : Obj, X.heap[r]? = some o ∧ o.isCells = false) : RecC gs gl b1 b2 b3 first last Y :=
  ⟨blk_kept h.one hg hr, blk_kept h.two hg hr, blk_kept h.srv hg hr, cell_kept h.log hg hr, h.recs.kept hg hr⟩

/-- what is known of the collected list -/
def ColI (w : World) (bs gs gl b1 b2 b3 : Nat) : Nat → World → Prop
  | 0, W => Below w.heap.size w W ∧ RecC gs gl b1 b2 b3 1 1 W ∧ Blk W bs 53 #[.slice none 0 0]
  | _ + 1, W => Below w.heap.size w W ∧ RecC gs gl b1 b2 b3 1 1 W ∧ ∃ g c b d, Blk W bs 53 #[.slice (some ⟨g, 0, none⟩) 1 c] ∧ 1 ≤ c ∧ LogAt W b g d
theorem ColI.own (w : World) (bs gs gl b1 b2 b3 k B : Nat) (hB : w.heap.size ≤ B) : OwnP B (ColI w bs gs gl b1 b2 b3 k) := fun _ X Y row hs hg hr => by
  have hr' : ∀ r, row = some r → ∃ o : Obj, X.heap[r]? = some o ∧ o.isCells = false := fun r e => (hr r e).2
  cases k with
  | zero => exact ⟨OwnP.below (B := B) (Nat.le_refl _) hB () X Y row hs.1 hg hr, hs.2.1.kept hg hr', blk_kept hs.2.2 hg hr'⟩
  | succ k =>
    obtain ⟨h1, h2, g, c, b, d, h3, h4, h5, h6⟩ := hs
    exact ⟨OwnP.below (B := B) (Nat.le_refl _) hB () X Y row h1 hg hr, h2.kept hg hr', g, c, b, d, blk_kept h3 hg hr', h4, headB_kept h5 hg hr', headB_kept h6 hg hr'⟩

set_option maxRecDepth 100000 in
set_option maxHeartbeats 2000000 in
theorem appendSeq1 (gs gl b1 b2 b3 : Nat) (w : World) (hC : RecC gs gl b1 b2 b3 1 1 w) :
    Calls Tryz.prog 94 #[.slice none 0 0, .func (.func 95) #[] #[.pointer (some ⟨b1, 0, none⟩), .pointer (some ⟨b2, 0, none⟩), .pointer (some ⟨b3, 0, none⟩)]] w
      fun e w' => ∃ g c b d, e = .returned (.slice (some ⟨g, 0, none⟩) 1 c) ∧ 1 ≤ c ∧ LogAt w' b g d ∧ Below w.heap.size w w' := by
  refine (callsIn_wide (n := 3)).1 (callsIn_of_wp_marks Tryz.func94 rfl trivial (wpIn_wide.2 ?_) rfl)
  simp only [Tryz.ntmps94, List.size_toArray, List.length_cons, List.length_nil, Nat.reduceAdd, Nat.reduceSub, Array.replicate_succ, Array.replicate_zero, List.push_toArray, List.append_toArray, List.nil_append, List.cons_append]
  go_wp2_with fail
  have hE0 := ext_new w (.cells #[.slice none 0 0] 53)
  have hI0 : ColI w w.heap.size gs gl b1 b2 b3 0 (w.alloc (.cells #[.slice none 0 0] 53)) := ⟨hE0, hC.ext hE0, Blk.new _ _ _⟩
  refine (wpIn_wide (n := 3)).1 ?_
  refine' wpIn_mem_boxA (by omega) (gf := 95) (lb := #[.pointer (some ⟨b1, 0, none⟩), .pointer (some ⟨b2, 0, none⟩), .pointer (some ⟨b3, 0, none⟩)]) (by simp [Act.eval]) (enters_of Tryz.func95 (by kernel_rfl) rfl)
    recV (records1_seq 2 (by omega) gs gl b1 b2 b3) rfl
    (ColI w w.heap.size gs gl b1 b2 b3) (fun k => ColI.own w w.heap.size gs gl b1 b2 b3 k _ (by simp)) (fun k W h => by cases k <;> exact h.2.1) hI0 (fun k x _ X Y row hs hg hr => headB_kept hs hg (fun r e => (hr r e).2)) 46 _ ?assign ?body ?done
  case assign =>
    intro l h x W K hh hK
    unfold recV at hK ⊢
    gi_wp2
    rw [← hh]
    exact hK
  case body =>
    rintro l h k ⟨x1, x2⟩ W hk hsz hh hB hm hI
    obtain rfl : k = 0 := by omega
    obtain ⟨hE, hR, hV⟩ := hI
    have HB := Lib.hid hB
    have HM := Lib.hid hm
    have HE := Lib.hid hE
    have HR := Lib.hid hR
    have HV := Lib.hid hV
    unfold recV at hB
    have h0 := hB.cell 0
    have h1 := hB.cell 1
    have v0 := hV.cell 0
    have f0 := hV.frozen 0
    have hl := hB.lt
    have hl2 := hV.lt
    have hnc : Builtin.nextslicecap 1 0 = 1 := by decide
    have hbt : Tryz.t46.bytes = 32 := by kernel_rfl
    clear hB hm hE hR hV
    gi_wp2
    have hx1 : x1 ≠ w.heap.size := by
      rintro rfl
      have h2 := (HM.out.cell 0).symm.trans v0
      cases h2
    have hEW : Below w.heap.size w ((((W.setCell ⟨w.heap.size, 0, none⟩ (.slice (some ⟨W.heap.size + 1, 0, none⟩) 1 ((Question.appendCap 1 0 46).cut (W.tape W.drawn (Question.appendCap 1 0 46))))).alloc (.cells #[.int .i64 1, .slice (some ⟨x1, 0, none⟩) 1 x2] 46)).alloc
        (.cells (#[.int .i64 1, .slice (some ⟨x1, 0, none⟩) 1 x2] ++ Builtin.zeroCells #[.int .i64 0, .slice none 0 0] ((Question.appendCap 1 0 46).cut (W.tape W.drawn (Question.appendCap 1 0 46)) - 1)) 46)).drew) :=
      (ext_alloc (ext_alloc (ext_set HE.out (Nat.le_refl _) _) _) _).drew
    have hk := ((((KeepsOthers.setCell W ⟨w.heap.size, 0, none⟩ (.slice (some ⟨W.heap.size + 1, 0, none⟩) 1 ((Question.appendCap 1 0 46).cut (W.tape W.drawn (Question.appendCap 1 0 46))))).trans (KeepsOthers.alloc _ (.cells #[.int .i64 1, .slice (some ⟨x1, 0, none⟩) 1 x2] 46))).trans (KeepsOthers.alloc _ (.cells (#[.int .i64 1, .slice (some ⟨x1, 0, none⟩) 1 x2] ++ Builtin.zeroCells #[.int .i64 0, .slice none 0 0] (((Question.appendCap 1 0 46).cut (W.tape W.drawn (Question.appendCap 1 0 46))) - 1)) 46))).trans (KeepsOthers.drew _)).from (w.heap.size + 1)
    have hv1 := (((HV.out.set_ 0 (.slice (some ⟨W.heap.size + 1, 0, none⟩) 1 ((Question.appendCap 1 0 46).cut (W.tape W.drawn (Question.appendCap 1 0 46))))).alloc (.cells #[.int .i64 1, .slice (some ⟨x1, 0, none⟩) 1 x2] 46)).alloc (.cells (#[.int .i64 1, .slice (some ⟨x1, 0, none⟩) 1 x2] ++ Builtin.zeroCells #[.int .i64 0, .slice none 0 0] (((Question.appendCap 1 0 46).cut (W.tape W.drawn (Question.appendCap 1 0 46))) - 1)) 46)).drew
    have hb := Blk.drew (Blk.new' ((W.setCell ⟨w.heap.size, 0, none⟩ (.slice (some ⟨W.heap.size + 1, 0, none⟩) 1 ((Question.appendCap 1 0 46).cut (W.tape W.drawn (Question.appendCap 1 0 46))))).alloc (.cells #[.int .i64 1, .slice (some ⟨x1, 0, none⟩) 1 x2] 46)) 46 (#[.int .i64 1, .slice (some ⟨x1, 0, none⟩) 1 x2] ++ Builtin.zeroCells #[.int .i64 0, .slice none 0 0] (((Question.appendCap 1 0 46).cut (W.tape W.drawn (Question.appendCap 1 0 46))) - 1)) (b := W.heap.size + 1) (by simp))
    have hm1 := (((HM.out.far (p := ⟨w.heap.size, 0, none⟩) hx1 (.slice (some ⟨W.heap.size + 1, 0, none⟩) 1 ((Question.appendCap 1 0 46).cut (W.tape W.drawn (Question.appendCap 1 0 46))))).alloc (.cells #[.int .i64 1, .slice (some ⟨x1, 0, none⟩) 1 x2] 46)).alloc (.cells (#[.int .i64 1, .slice (some ⟨x1, 0, none⟩) 1 x2] ++ Builtin.zeroCells #[.int .i64 0, .slice none 0 0] (((Question.appendCap 1 0 46).cut (W.tape W.drawn (Question.appendCap 1 0 46))) - 1)) 46)).ext (ext_refl _).drew
    exact ⟨hk, hEW, hC.ext hEW, W.heap.size + 1, _, x1, x2, hv1, grownCap_ge W 1 0 _, .of2 hb, hm1⟩
  case done =>
    rintro D W hD ⟨hE, hR, g, c, b, d, h3, h4, h5⟩ hK
    have v0 := h3.cell 0
    have HE := Lib.hid hE
    have HL := Lib.hid h5
    clear hE hR h3 h5
    go_wp2
    refine ⟨by simp, .inl ⟨_, _, rfl, run_takeDeferred hK, ?_⟩⟩
    have hg := grownBy_putObj' W D (.deferred none)
    have hr : ∀ r, some D = some r → ∃ o : Obj, W.heap[r]? = some o ∧ o.isCells = false := fun r e => by injection e with e; subst e; exact ⟨_, hK, rfl⟩
    refine ⟨_, results_tmp rfl _ _ _, g, c, b, d, rfl, h4, ?_, ?_⟩
    · exact ⟨headB_kept HL.out.1 (grownBy_putObj' W D _) hr, headB_kept HL.out.2 (grownBy_putObj' W D _) hr⟩
    · exact ext_put HE.out (by simp at hD; omega) _

set_option maxRecDepth 100000 in
set_option maxHeartbeats 1000000 in
theorem collect1 (gs gl b1 b2 b3 : Nat) (w : World) (hC : RecC gs gl b1 b2 b3 1 1 w) :
    Calls Tryz.prog 53 #[.func (.func 95) #[] #[.pointer (some ⟨b1, 0, none⟩), .pointer (some ⟨b2, 0, none⟩), .pointer (some ⟨b3, 0, none⟩)]] w
      fun e w' => ∃ g c b d, e = .returned (.slice (some ⟨g, 0, none⟩) 1 c) ∧ 1 ≤ c ∧ LogAt w' b g d ∧ Below w.heap.size w w' := by
  have HA := Lib.hid (appendSeq1 gs gl b1 b2 b3 w hC)
  go_enter Tryz.func53, Tryz.ntmps53
  go_wp2_with fail
  refine HA.out.mono ?_
  rintro e W1 ⟨g, c, b, d, rfl, h1, h2, h3⟩
  have H2 := Lib.hid h2
  have H3 := Lib.hid h3
  clear h2 h3
  go_wp2
  go_ret
  exact ⟨g, c, b, d, rfl, h1, H2.out, H3.out⟩

set_option maxRecDepth 100000 in
set_option maxHeartbeats 1000000 in
theorem records11 (gs gl : Nat) (w : World) (h0 : w.cell? ⟨gs, 0, none⟩ = some (.pointer (some ⟨gl, 0, none⟩))) (hl : OneRec w gl) :
    Calls Tryz.prog 21 #[.pointer (some ⟨gs, 0, none⟩), .int .i64 1, .int .i64 1] w
      fun e w' => ∃ g c b d, e = .returned (.slice (some ⟨g, 0, none⟩) 1 c) ∧ 1 ≤ c ∧ LogAt w' b g d ∧ Below w.heap.size w w' := by
  obtain ⟨X, hX⟩ : ∃ X, X = ((w.alloc (.cells #[.pointer (some ⟨gs, 0, none⟩)] 25)).alloc (.cells #[.int .i64 1] 3)).alloc (.cells #[.int .i64 1] 3) := ⟨_, rfl⟩
  have HE := Lib.hid (show Below w.heap.size w X by rw [hX]; exact ext_alloc (ext_alloc (ext_new _ _) _) _)
  have HC := Lib.hid (show RecC gs gl (w.heap.size + 1) (w.heap.size + 1 + 1) w.heap.size 1 1 X from
    ⟨by rw [hX]; exact (Blk.new' _ _ _ (by simp)).alloc _, by rw [hX]; exact Blk.new' _ _ _ (by simp), by rw [hX]; exact ((Blk.new _ _ _).alloc _).alloc _, cell_ext h0 HE.out, hl.ext HE.out⟩)
  have HX := Lib.hid hX
  clear hX h0 hl
  go_enter Tryz.func21, Tryz.ntmps21
  go_wp2_with fail
  refine (records_any gs 1 1 w).mono ?_
  rintro e w' ⟨rfl, hw'⟩
  rw [← HX.out] at hw'
  subst w'
  go_wp2_with fail
  refine (collect1 gs gl _ _ _ X HC.out).mono ?_
  rintro e W1 ⟨g, c, b, d, rfl, h1, h2, h3⟩
  have H2 := Lib.hid h2
  have H3 := Lib.hid (ext_call HE.out h3)
  clear h2 h3
  go_wp2
  go_ret
  exact ⟨g, c, b, d, rfl, h1, H2.out, H3.out⟩

set_option maxRecDepth 100000 in
set_option maxHeartbeats 1000000 in
theorem storeAt0L (g c : Nat) (hc : 1 ≤ c) (w : World) : Calls Tryz.prog 57 #[.slice (some ⟨g, 0, none⟩) 1 c, .int .i64 0] w fun e w' => e = .returned (.tuple #[.pointer (some ⟨w.heap.size + 1, 0, none⟩), .int .i64 0]) ∧ StateAt w' (w.heap.size + 1) w.heap.size #[] 0 0 ∧ Below w.heap.size w w' := by
  go_enter Tryz.func57, Tryz.ntmps57
  go_wp2_with fail
  refine (storeNew _).mono ?_
  rintro e W1 ⟨rfl, rfl⟩
  go_wp2
  refine wp_loop_rounds 1 ?_
  rw [rounds_succ]
  go_wp2
  go_ret2
  exact ⟨rfl, ⟨Blk.new' _ _ _ (by simp), (MapAt.new w).alloc _⟩, ext_alloc (ext_new _ _) _⟩

set_option maxRecDepth 100000 in
set_option maxHeartbeats 1000000 in
theorem srvState (one : Bool) (gs gl : Nat) (w : World) (h0 : w.cell? ⟨gs, 0, none⟩ = some (.pointer (some ⟨gl, 0, none⟩))) (hl : OneRec w gl) :
    Calls Tryz.prog 25 #[.pointer (some ⟨gs, 0, none⟩), .int .i64 (if one then 1 else 0)] w
      fun e w' => ∃ g m, e = .returned (.tuple #[.pointer (some ⟨g, 0, none⟩), .bool true]) ∧ StateIs w' one g m (if one then 1 else 0) ∧ Below w.heap.size w w' := by
  have HP := Lib.hid (srvPosC gs gl w h0 hl)
  have HR := Lib.hid (records11 gs gl w h0 hl)
  clear h0 hl
  have HA := Lib.hid (show ∀ (W : World) (g c b d : Nat), 1 ≤ c → LogAt W b g d → Calls Tryz.prog 57 #[.slice (some ⟨g, 0, none⟩) 1 c, .int .i64 (if one then 1 else 0)] W fun e w' =>
      ∃ g m, e = .returned (.tuple #[.pointer (some ⟨g, 0, none⟩), .int .i64 0]) ∧ StateIs w' one g m (if one then 1 else 0) ∧ Below W.heap.size W w' by
    intro W g c b d hc hL
    cases one
    · exact (storeAt0L g c hc W).mono fun _ _ ⟨h1, h2, h3⟩ => ⟨_, _, h1, h2, h3⟩
    · exact (storeAt1 W b g d c hc hL).mono fun _ _ ⟨h1, h2, h3⟩ => ⟨_, _, h1, h2, h3⟩)
  generalize (if one then (1 : Int) else 0) = q at HA ⊢
  go_enter Tryz.func25, Tryz.ntmps25
  go_wp2_with fail
  refine HP.out.mono ?_
  rintro e w' ⟨rfl, hw'⟩
  subst w'
  go_wp2_with fail
  refine HR.out.mono ?_
  rintro e W1 ⟨g, c, b, d, rfl, hc, hL, hb1⟩
  have HL := Lib.hid hL
  have HE1 := Lib.hid hb1
  clear hL hb1
  go_wp2_with fail
  refine (HA.out W1 g c b d hc HL.out).mono ?_
  rintro e W2 ⟨gg, m, rfl, hS, hb2⟩
  have HS := Lib.hid hS
  have HE2 := Lib.hid (ext_call HE1.out hb2)
  clear hS hb2
  go_wp2
  go_ret2
  exact ⟨gg, m, rfl, HS.out, HE2.out⟩

end Go.Proofs.YtbgfmbmcabekeaaGreatDoor

/-
  A struct literal as a rule for the walk.
-/
namespace Go.Proofs.YtbgfmbmcabekeaaGreatDoor
open Go.RowKit Go.Shelf

/-- a struct literal that runs -/
def BdOK (P : Program) (t : TypeId) (ps : Array (Nat × Value)) : Prop := ∃ v, ∀ w, (Instr.build t ps).run P w = .ok v w
open Classical in
noncomputable def bdV (P : Program) (t : TypeId) (ps : Array (Nat × Value)) : Value := if h : BdOK P t ps then h.choose else undef
theorem bd_run {P : Program} {w : World} {t : TypeId} {ps : Array (Nat × Value)} (h : BdOK P t ps) : (Instr.build t ps).run P w = .ok (bdV P t ps) w := by
  unfold bdV
  rw [dif_pos h]
  exact h.choose_spec w
theorem bd_of (W : World) {P : Program} {t : TypeId} {ps : Array (Nat × Value)} {cs : Array Value} (h : P.built t ps.toList = some cs) : BdOK P t ps ∧ bdV P t ps = .agg cs := by
  have hr : ∀ w, (Instr.build t ps).run P w = .ok (.agg cs) w := fun w => run_build w t ps cs h
  have hb : BdOK P t ps := ⟨_, hr⟩
  refine ⟨hb, ?_⟩
  have h1 := bd_run (w := W) hb
  rw [hr] at h1
  injection h1 with h1
  exact h1.symm
theorem bd_exec {P : Program} {w : World} {ρ : Operand → Value} {d : Option Tmp} {ps : Array (Nat × Operand)} {ty t : TypeId} {p : String} {af : Array Edge} {g : Option (Nat × Bool)} (h : BdOK P ty (ps.map fun x => (x.1, ρ x.2))) :
    (execOp ρ { dst := d, op := .build ty ps, type := t, pos := p, after := af, guard := g }).run P w = .ok (.value (bdV P ty (ps.map fun x => (x.1, ρ x.2)))) w := by
  have h' := bd_run (w := w) h
  unfold execOp
  simp only [Sem.run_bind, Sem.run_pure, Result.andThen_ok, h']
theorem bd_sem {P : Program} {w : World} {ro : Option Nat} {ρ : Operand → Value} {d : Option Tmp} {ps : Array (Nat × Operand)} {ty t : TypeId} {p : String} {af : Array Edge} {g : Option (Nat × Bool)} (h : BdOK P ty (ps.map fun x => (x.1, ρ x.2))) :
    (Oper.semAt ro ρ { dst := d, op := .build ty ps, type := t, pos := p, after := af, guard := g }).run P w = .ok (.value (bdV P ty (ps.map fun x => (x.1, ρ x.2)))) w := by
  rw [Oper.semAt_eq ro ρ _ (by intro c h; cases h)]
  exact bd_exec h

end Go.Proofs.YtbgfmbmcabekeaaGreatDoor

/-
  A slice literal as a rule for the walk; package origin: copies.
-/
namespace Go.Proofs.YtbgfmbmcabekeaaGreatDoor
open Go.RowKit Go.Shelf

/-- a slice literal that runs -/
def BsOK (P : Program) (t : TypeId) (len : Nat) (ps : Array (Nat × Value)) (cs : Array Value) (e : TypeId) : Prop := ∀ w : World, (Instr.buildSlice t len ps).run P w = .ok (.slice (some ⟨w.heap.size, 0, none⟩) len len) (w.alloc (.cells cs e))
def BsAny (P : Program) (t : TypeId) (len : Nat) (ps : Array (Nat × Value)) : Prop := ∃ cs e, BsOK P t len ps cs e
open Classical in
noncomputable def bsO (P : Program) (t : TypeId) (len : Nat) (ps : Array (Nat × Value)) : Obj := if h : BsAny P t len ps then .cells h.choose h.choose_spec.choose else .deferred none
theorem bs_run {P : Program} {w : World} {t : TypeId} {len : Nat} {ps : Array (Nat × Value)} (h : BsAny P t len ps) : (Instr.buildSlice t len ps).run P w = .ok (.slice (some ⟨w.heap.size, 0, none⟩) len len) (w.alloc (bsO P t len ps)) := by
  unfold bsO
  rw [dif_pos h]
  exact h.choose_spec.choose_spec w
theorem bs_of (W : World) {P : Program} {t e : TypeId} {len : Nat} {ps : Array (Nat × Value)} {cs : Array Value} (h : BsOK P t len ps cs e) : BsAny P t len ps ∧ bsO P t len ps = .cells cs e := by
  have hb : BsAny P t len ps := ⟨cs, e, h⟩
  refine ⟨hb, ?_⟩
  have h1 := bs_run (w := W) hb
  rw [h W] at h1
  injection h1 with _ h1
  have h2 := congrArg World.heap h1
  have h3 : (W.heap.push (.cells cs e))[W.heap.size]? = (W.heap.push (bsO P t len ps))[W.heap.size]? := congrArg (fun a : Array Obj => a[W.heap.size]?) h2
  simpa using h3.symm
theorem bs_exec {P : Program} {w : World} {ρ : Operand → Value} {d : Option Tmp} {ps : Array (Nat × Operand)} {len : Nat} {ty t : TypeId} {p : String} {af : Array Edge} {g : Option (Nat × Bool)} (h : BsAny P ty len (ps.map fun x => (x.1, ρ x.2))) :
    (execOp ρ { dst := d, op := .buildSlice ty len ps, type := t, pos := p, after := af, guard := g }).run P w = .ok (.value (.slice (some ⟨w.heap.size, 0, none⟩) len len)) (w.alloc (bsO P ty len (ps.map fun x => (x.1, ρ x.2)))) := by
  have h' := bs_run (w := w) h
  unfold execOp
  simp only [Sem.run_bind, Sem.run_pure, Result.andThen_ok, h']
theorem bs_sem {P : Program} {w : World} {ro : Option Nat} {ρ : Operand → Value} {d : Option Tmp} {ps : Array (Nat × Operand)} {len : Nat} {ty t : TypeId} {p : String} {af : Array Edge} {g : Option (Nat × Bool)} (h : BsAny P ty len (ps.map fun x => (x.1, ρ x.2))) :
    (Oper.semAt ro ρ { dst := d, op := .buildSlice ty len ps, type := t, pos := p, after := af, guard := g }).run P w = .ok (.value (.slice (some ⟨w.heap.size, 0, none⟩) len len)) (w.alloc (bsO P ty len (ps.map fun x => (x.1, ρ x.2)))) := by
  rw [Oper.semAt_eq ro ρ _ (by intro c h; cases h)]
  exact bs_exec h

theorem msg_info : (Tryz.prog.info? 57).map (fun i => (i.zero, i.size, i.bytes)) = some (some (.agg #[.int .i64 0, .int .i64 0, .int .i64 0, .int .i64 0, .int .i64 0, .int .i64 0, .int .i64 0, .int .i64 0, .int .i64 0, .int .i64 0, .int .i64 0, .int .i64 0, .int .i64 0, .int .i64 0, .int .i64 0, .int .i64 0, .int .i64 0, .int .i64 0, .slice none 0 0, .int .i64 0, .int .i64 0, .int .i64 0, .int .i64 0, .int .i64 0, .int .i64 0, .int .i64 0, .int .i64 0, .int .i64 0, .slice none 0 0, .int .i64 0, .int .i64 0, .int .i64 0, .int .i64 0, .int .i64 0, .int .i64 0, .int .i64 0, .slice none 0 0, .int .i64 0, .bool false, .int .i64 0, .int .i64 0, .int .i64 0, .slice none 0 0, .slice none 0 0, .int .i64 0, .slice none 0 0, .slice none 0 0]), 47, 488) := by kernel_rfl
theorem msg_slice (oa : Array Value) (hs : oa.size = 47) : BsOK Tryz.prog 39 1 #[(0, .agg oa)] oa 57 := by
  obtain ⟨im, him, hz0, hz1, hz2⟩ := info_parts msg_info
  obtain ⟨z0, hz⟩ : ∃ z0, im.zero = some z0 := ⟨_, hz0⟩
  intro w
  refine run_buildSlice w 39 57 1 #[(0, .agg oa)] oa im z0 Tryz.underlying39 him hz (by rw [hz1]; decide) (by rw [hz1]; decide) ?_
  rw [hz1]
  have h := Great.fill_whole (s := 47) (by decide) [.agg oa] ((Array.range (1 * 47)).map (z0.cells[· % z0.cells.size]!)) (by simp [Value.cells, hs]) (by simp)
  simp [Value.cells] at h ⊢
  exact h

/-- the message with a record to a node -/
def msgR (tn : Int) (x : Nat × Nat) : Array Value := #[.int .i64 1, .int .i64 100, .int .i64 tn, .int .i64 0, .int .i64 0, .int .i64 0, .int .i64 0, .int .i64 0, .int .i64 0, .int .i64 0, .int .i64 0, .int .i64 0, .int .i64 0, .int .i64 0, .int .i64 0, .int .i64 0, .int .i64 0, .int .i64 1, .slice (some ⟨x.1, 0, none⟩) 1 x.2, .int .i64 0, .int .i64 0, .int .i64 0, .int .i64 0, .int .i64 0, .int .i64 0, .int .i64 0, .int .i64 0, .int .i64 0, .slice none 0 0, .int .i64 0, .int .i64 0, .int .i64 0, .int .i64 0, .int .i64 0, .int .i64 0, .int .i64 0, .slice none 0 0, .int .i64 0, .bool false, .int .i64 0, .int .i64 0, .int .i64 0, .slice none 0 0, .slice none 0 0, .int .i64 0, .slice none 0 0, .slice none 0 0]

theorem own_keptP {X Y : World} {row : Option Nat} {base n sz : Nat} {e : TypeId} {v : Value} {xs : List Value} (h : X.ownsRow base e sz v n xs) (hg : X.grownBy Y row) (hr : ∀ r, row = some r → ∃ o : Obj, X.heap[r]? = some o ∧ o.isCells = false) : Y.ownsRow base e sz v n xs :=
  h.kept hg (by
    rcases h.2 with ⟨rfl, _⟩ | ⟨g, cap, cur, rfl, _, hgg, _⟩
    · exact .inl rfl
    · refine .inr fun e => ?_
      obtain ⟨o, ho, hc⟩ := hr _ e.symm
      rw [hgg] at ho
      cases ho
      cases hc)

theorem own_setbox {W : World} {base n sz b : Nat} {e t : TypeId} {v : Value} {xs : List Value} {cs : Array Value} (h : W.ownsRow base e sz v n xs) (hb : Blk W b t cs) (ht : t ≠ e) (u : Value) : (W.setCell ⟨b, 0, none⟩ u).ownsRow base e sz v n xs :=
  h.kept (row := some b) ⟨rfl, rfl, rfl, by simp [World.setCell], fun k _ hk => Below.heap_setCell _ _ _ _ (fun e => hk (by simp [e]))⟩ (by
    rcases h.2 with ⟨rfl, _⟩ | ⟨g, cap, cur, rfl, _, hgg, _⟩
    · exact .inl rfl
    · refine .inr fun e1 => ?_
      have e2 : g = b := by simpa [Value.ownBlock] using e1
      subst e2
      unfold Blk at hb
      rw [hgg] at hb
      injection hb with hb
      injection hb with _ hb _
      exact ht hb.symm)

/-- what is known of the copies -/
def CopI (w : World) (bt bo gs gl b1 b2 b3 : Nat) (first tn : Int) : Nat → World → Prop
  | 0, W => Below w.heap.size w W ∧ RecC gs gl b1 b2 b3 first 1 W ∧ Blk W bo 39 #[.slice none 0 0] ∧ Blk W bt 3 #[.int .i64 tn]
  | _ + 1, W => Below w.heap.size w W ∧ RecC gs gl b1 b2 b3 first 1 W ∧ ∃ v x, Blk W bo 39 #[v] ∧ W.ownsRow w.heap.size 57 47 v 1 (msgR tn x).toList
theorem CopI.own (w : World) (bt bo gs gl b1 b2 b3 : Nat) (first tn : Int) (k B : Nat) (hB : w.heap.size ≤ B) : OwnP B (CopI w bt bo gs gl b1 b2 b3 first tn k) := fun _ X Y row hs hg hr => by
  have hr' : ∀ r, row = some r → ∃ o : Obj, X.heap[r]? = some o ∧ o.isCells = false := fun r e => (hr r e).2
  cases k with
  | zero => exact ⟨OwnP.below (B := B) (Nat.le_refl _) hB () X Y row hs.1 hg hr, hs.2.1.kept hg hr', blk_kept hs.2.2.1 hg hr', blk_kept hs.2.2.2 hg hr'⟩
  | succ k =>
    obtain ⟨h1, h2, v, x, h3, h4⟩ := hs
    exact ⟨OwnP.below (B := B) (Nat.le_refl _) hB () X Y row h1 hg hr, h2.kept hg hr', v, x, blk_kept h3 hg hr', own_keptP h4 hg hr'⟩

attribute [local go_sem] run_semAt
attribute [local go_sem ↓] bd_exec bd_sem bs_exec bs_sem app_exec app_sem Go.wp_at_zero Go.wp_at_succ
set_option maxRecDepth 100000 in
set_option maxHeartbeats 4000000 in
theorem copies1 (gs gl : Nat) (tn : Int) (w : World) (h0 : w.cell? ⟨gs, 0, none⟩ = some (.pointer (some ⟨gl, 0, none⟩))) (hl : OneRec w gl) :
    Calls Tryz.prog 42 #[.pointer (some ⟨gs, 0, none⟩), .int .i64 tn, .int .i64 1, .int .i64 1] w
      fun e w' => ∃ v x, e = .returned v ∧ w'.ownsRow w.heap.size 57 47 v 1 (msgR tn x).toList ∧ Below w.heap.size w w' := by
  obtain ⟨im, him, hzm0, hzm1, hzm2⟩ := info_parts msg_info
  obtain ⟨z0, hz0⟩ : ∃ z0, im.zero = some z0 := ⟨_, hzm0⟩
  obtain ⟨X, hX⟩ : ∃ X, X = ((((w.alloc (.cells #[.int .i64 tn] 3)).alloc (.cells #[.slice none 0 0] 39)).alloc (.cells #[.pointer (some ⟨gs, 0, none⟩)] 25)).alloc (.cells #[.int .i64 1] 3)).alloc (.cells #[.int .i64 1] 3) := ⟨_, rfl⟩
  have HE := Lib.hid (show Below w.heap.size w X by rw [hX]; exact ext_alloc (ext_alloc (ext_alloc (ext_alloc (ext_new _ _) _) _) _) _)
  have HT := Lib.hid (show Blk X w.heap.size 3 #[.int .i64 tn] by rw [hX]; exact ((((Blk.new _ _ _).alloc _).alloc _).alloc _).alloc _)
  have HO := Lib.hid (show Blk X (w.heap.size + 1) 39 #[.slice none 0 0] by rw [hX]; exact (((Blk.new' _ _ _ (by simp)).alloc _).alloc _).alloc _)
  have HC := Lib.hid (show RecC gs gl (w.heap.size + 1 + 1 + 1) (w.heap.size + 1 + 1 + 1 + 1) (w.heap.size + 1 + 1) 1 1 X from
    ⟨by rw [hX]; exact (Blk.new' _ _ _ (by simp)).alloc _, by rw [hX]; exact Blk.new' _ _ _ (by simp), by rw [hX]; exact ((Blk.new' _ _ _ (by simp)).alloc _).alloc _, cell_ext h0 HE.out, hl.ext HE.out⟩)
  have hxs : w.heap.size ≤ X.heap.size := HE.out.size
  have HX := Lib.hid hX
  have H0 := Lib.hid h0
  have HL := Lib.hid hl
  clear hX h0 hl
  refine (callsIn_wide (n := 3)).1 (callsIn_of_wp_marks Tryz.func42 rfl trivial (wpIn_wide.2 ?_) rfl)
  simp only [Tryz.ntmps42, List.size_toArray, List.length_cons, List.length_nil, Nat.reduceAdd, Nat.reduceSub, Array.replicate_succ, Array.replicate_zero, List.push_toArray, List.append_toArray, List.nil_append, List.cons_append]
  go_wp2_with fail
  refine (records_any gs 1 1 _).mono ?_
  rintro e w' ⟨he, hw'⟩
  simp only [World.size_alloc] at he hw'
  subst he
  rw [← HX.out] at hw'
  subst w'
  go_wp2_with fail
  refine (wpIn_wide (n := 3)).1 ?_
  refine' wpIn_mem_boxA (by omega) (gf := 95) (lb := #[.pointer (some ⟨w.heap.size + 1 + 1 + 1, 0, none⟩), .pointer (some ⟨w.heap.size + 1 + 1 + 1 + 1, 0, none⟩), .pointer (some ⟨w.heap.size + 1 + 1, 0, none⟩)]) (by simp [Act.eval]) (enters_of Tryz.func95 (by kernel_rfl) rfl)
    recV (records1_seq 2 (by omega) gs gl _ _ _) rfl
    (CopI w w.heap.size (w.heap.size + 1) gs gl _ _ _ 1 tn) (fun k => CopI.own w w.heap.size (w.heap.size + 1) gs gl _ _ _ 1 tn k _ hxs) (fun k W h => by cases k <;> exact h.2.1) ⟨HE.out, HC.out, HO.out, HT.out⟩ (fun k x _ X Y row hs hg hr => headB_kept hs hg (fun r e => (hr r e).2)) 46 _ ?assign ?body ?done
  case assign =>
    intro l h x W K hh hK
    unfold recV at hK ⊢
    gi_wp2
    rw [← hh]
    exact hK
  case body =>
    rintro l h k x W hk hsz hh hB hm hI
    obtain rfl : k = 0 := by omega
    obtain ⟨hE, hR, hV, hT⟩ := hI
    have HB := Lib.hid hB
    have HEW := Lib.hid hE
    have HRW := Lib.hid hR
    have HV := Lib.hid hV
    have HM := Lib.hid (show msgR tn x = msgR tn x from rfl)
    unfold recV at hB
    have h0 := hB.cell 0
    have h1 := hB.cell 1
    have v0 := hV.cell 0
    have f0 := hV.frozen 0
    have t0 := hT.cell 0
    obtain ⟨oa, hoa⟩ : ∃ oa, oa = msgR tn x := ⟨_, rfl⟩
    have hos : oa.size = 47 := by rw [hoa]; rfl
    obtain ⟨d1, e1⟩ := bd_of W (P := Tryz.prog) (t := 57) (ps := #[(0, .int .i64 1), (1, .int .i64 100), (2, .int .i64 tn), (11, .agg #[.int .i64 1, .slice (some ⟨x.1, 0, none⟩) 1 x.2])]) (cs := oa) (by rw [hoa]; kernel_rfl)
    obtain ⟨d2, e2⟩ := bs_of W (msg_slice oa hos)
    obtain ⟨d3, hrow, hgr⟩ := app_own (P := Tryz.prog) (w := W.alloc (.cells oa 57)) w.heap.size 39 39 57 im z0 47 488 Tryz.underlying39 him hz0 hzm1 hzm2 (by have h := hzm0.symm.trans hz0; injection h with h; rw [← h]; rfl) (by decide)
      (.slice none 0 0) 0 [] (World.ownsRow_nil _ _ _ _) ⟨W.heap.size, 0, none⟩ 1 1 oa.toList (by simp [hos]) (fun j u hj => by
        rw [Addr.add_mid, Nat.zero_add]
        exact ((Blk.new W 57 oa).cell j).trans (by simpa using hj)) (by rw [hoa]; simp [msgR, Value.oneCell']) (by unfold maxLen; omega) (by omega) (by simp; exact Nat.le_trans (Nat.le_trans HE.out.size hsz) (Nat.le_succ _))
    have HOA := Lib.hid hoa
    have hl := hB.lt
    have hl2 := hV.lt
    obtain ⟨g, cap, hv⟩ := ownsRow_succ hrow
    rw [hv] at hrow
    generalize hW3 : appW Tryz.prog (W.alloc (.cells oa 57)) 39 39 (.slice none 0 0) (.slice (some ⟨W.heap.size, 0, none⟩) 1 1) = W3 at hrow hgr
    have hE3 : Below W.heap.size W W3 := (ext_new W (.cells oa 57)).grown hgr (ext_new W (.cells oa 57)).size (fun k e => by cases e)
    have HV3 := Lib.hid (HV.out.ext hE3)
    have HE3 := Lib.hid hE3
    have HROW := Lib.hid hrow
    have HGR := Lib.hid hgr
    have v3 := HV3.out.cell 0
    have f3 := HV3.out.frozen 0
    clear hB hm hE hR hV hT hoa hrow hgr hE3 HM
    gi_wp2
    have hE' : Below w.heap.size w (W3.setCell ⟨w.heap.size + 1, 0, none⟩ (.slice (some ⟨g, 0, none⟩) 1 cap)) := ext_set (ext_call HEW.out HE3.out) (Nat.le_succ _) _
    have hR3 := HRW.out.ext HE3.out
    refine ⟨(((KeepsOthers.alloc W (.cells oa 57)).trans (KeepsOthers.of_grownBy HGR.out (fun j o e => by cases e))).trans (KeepsOthers.setCell W3 ⟨w.heap.size + 1, 0, none⟩ (.slice (some ⟨g, 0, none⟩) 1 cap))).from _, hE',
      ⟨hR3.one.far (by show (w.heap.size + 1 + 1 + 1 : Nat) ≠ w.heap.size + 1; omega) _, hR3.two.far (by show (w.heap.size + 1 + 1 + 1 + 1 : Nat) ≠ w.heap.size + 1; omega) _, hR3.srv.far (by show (w.heap.size + 1 + 1 : Nat) ≠ w.heap.size + 1; omega) _, cell_ext H0.out hE', HL.out.ext hE'⟩, .slice (some ⟨g, 0, none⟩) 1 cap, x, HV3.out.set_ 0 _, ?_⟩
    have h9 := own_setbox HROW.out HV3.out (by decide) (.slice (some ⟨g, 0, none⟩) 1 cap)
    rw [HOA.out] at h9
    exact h9
  case done =>
    rintro D W hD ⟨hE, hR, v, x, hv, hown⟩ hK
    obtain ⟨g, cap, rfl⟩ := ownsRow_succ hown
    have v0 := hv.cell 0
    have f0 := hv.frozen 0
    have HE2 := Lib.hid hE
    have HV := Lib.hid hv
    have HOWN := Lib.hid hown
    clear hE hR hv hown
    go_wp2
    have hDne : D ≠ w.heap.size + 1 := by
      rintro rfl
      have h1 := HV.out
      unfold Blk at h1
      rw [hK] at h1
      cases h1
    have hK' : (W.setCell ⟨w.heap.size + 1, 0, none⟩ (.slice (some ⟨g, 0, none⟩) 1 cap)).heap[D]? = some (.deferred (some [])) := (Below.heap_setCell W ⟨w.heap.size + 1, 0, none⟩ _ D hDne).trans hK
    refine ⟨by simp, .inl ⟨_, _, rfl, run_takeDeferred hK', ?_⟩⟩
    have hr9 : ∀ r, some D = some r → ∃ o : Obj, (W.setCell ⟨w.heap.size + 1, 0, none⟩ (.slice (some ⟨g, 0, none⟩) 1 cap)).heap[r]? = some o ∧ o.isCells = false := fun r e => by injection e with e; subst e; exact ⟨_, hK', rfl⟩
    have own9 := own_keptP (own_setbox HOWN.out HV.out (by decide) (.slice (some ⟨g, 0, none⟩) 1 cap)) (grownBy_putObj' _ D (.deferred none)) hr9
    have y0 := ((HV.out.set_ 0 (.slice (some ⟨g, 0, none⟩) 1 cap)).putObj (.deferred none) hDne.symm).cell 0
    refine ⟨.slice (some ⟨g, 0, none⟩) 1 cap, by simp [results, Tryz.results42, go_sem, y0], _, x, rfl, own9, ?_⟩
    exact ext_put (ext_set HE2.out (Nat.le_succ _) _) (Nat.le_trans hxs hD) _

set_option maxRecDepth 100000 in
set_option maxHeartbeats 4000000 in
theorem copies0 (gs gl : Nat) (tn : Int) (w : World) (h0 : w.cell? ⟨gs, 0, none⟩ = some (.pointer (some ⟨gl, 0, none⟩))) (hl : OneRec w gl) :
    Calls Tryz.prog 42 #[.pointer (some ⟨gs, 0, none⟩), .int .i64 tn, .int .i64 2, .int .i64 1] w
      fun e w' => e = .returned (.slice none 0 0) ∧ Below w.heap.size w w' := by
  obtain ⟨X, hX⟩ : ∃ X, X = ((((w.alloc (.cells #[.int .i64 tn] 3)).alloc (.cells #[.slice none 0 0] 39)).alloc (.cells #[.pointer (some ⟨gs, 0, none⟩)] 25)).alloc (.cells #[.int .i64 2] 3)).alloc (.cells #[.int .i64 1] 3) := ⟨_, rfl⟩
  have HE := Lib.hid (show Below w.heap.size w X by rw [hX]; exact ext_alloc (ext_alloc (ext_alloc (ext_alloc (ext_new _ _) _) _) _) _)
  have HT := Lib.hid (show Blk X w.heap.size 3 #[.int .i64 tn] by rw [hX]; exact ((((Blk.new _ _ _).alloc _).alloc _).alloc _).alloc _)
  have HO := Lib.hid (show Blk X (w.heap.size + 1) 39 #[.slice none 0 0] by rw [hX]; exact (((Blk.new' _ _ _ (by simp)).alloc _).alloc _).alloc _)
  have HC := Lib.hid (show RecC gs gl (w.heap.size + 1 + 1 + 1) (w.heap.size + 1 + 1 + 1 + 1) (w.heap.size + 1 + 1) 2 1 X from
    ⟨by rw [hX]; exact (Blk.new' _ _ _ (by simp)).alloc _, by rw [hX]; exact Blk.new' _ _ _ (by simp), by rw [hX]; exact ((Blk.new' _ _ _ (by simp)).alloc _).alloc _, cell_ext h0 HE.out, hl.ext HE.out⟩)
  have hxs : w.heap.size ≤ X.heap.size := HE.out.size
  have HX := Lib.hid hX
  clear hX h0 hl
  refine (callsIn_wide (n := 3)).1 (callsIn_of_wp_marks Tryz.func42 rfl trivial (wpIn_wide.2 ?_) rfl)
  simp only [Tryz.ntmps42, List.size_toArray, List.length_cons, List.length_nil, Nat.reduceAdd, Nat.reduceSub, Array.replicate_succ, Array.replicate_zero, List.push_toArray, List.append_toArray, List.nil_append, List.cons_append]
  go_wp2_with fail
  refine (records_any gs 2 1 _).mono ?_
  rintro e w' ⟨he, hw'⟩
  simp only [World.size_alloc] at he hw'
  subst he
  rw [← HX.out] at hw'
  subst w'
  go_wp2_with fail
  refine (wpIn_wide (n := 3)).1 ?_
  refine' wpIn_mem_boxA (by omega) (gf := 95) (lb := #[.pointer (some ⟨w.heap.size + 1 + 1 + 1, 0, none⟩), .pointer (some ⟨w.heap.size + 1 + 1 + 1 + 1, 0, none⟩), .pointer (some ⟨w.heap.size + 1 + 1, 0, none⟩)]) (by simp [Act.eval]) (enters_of Tryz.func95 (by kernel_rfl) rfl)
    recV (records0_seq 2 (by omega) gs gl _ _ _) rfl
    (CopI w w.heap.size (w.heap.size + 1) gs gl _ _ _ 2 tn) (fun k => CopI.own w w.heap.size (w.heap.size + 1) gs gl _ _ _ 2 tn k _ hxs) (fun k W h => by cases k <;> exact h.2.1) ⟨HE.out, HC.out, HO.out, HT.out⟩ (fun k x _ X Y row hs hg hr => headB_kept hs hg (fun r e => (hr r e).2)) 46 _ ?assign ?body ?done
  case assign =>
    intro l h x W K hh hK
    unfold recV at hK ⊢
    gi_wp2
    rw [← hh]
    exact hK
  case body =>
    rintro l h k x W hk
    exact absurd hk (by omega)
  case done =>
    rintro D W hD ⟨hE, hR, hv, hT⟩ hK
    have v0 := hv.cell 0
    have f0 := hv.frozen 0
    have HE2 := Lib.hid hE
    have HV := Lib.hid hv
    clear hE hR hv hT
    go_wp2
    have hDne : D ≠ w.heap.size + 1 := by
      rintro rfl
      have h1 := HV.out
      unfold Blk at h1
      rw [hK] at h1
      cases h1
    have hK' : (W.setCell ⟨w.heap.size + 1, 0, none⟩ (.slice none 0 0)).heap[D]? = some (.deferred (some [])) := (Below.heap_setCell W ⟨w.heap.size + 1, 0, none⟩ _ D hDne).trans hK
    refine ⟨by simp, .inl ⟨_, _, rfl, run_takeDeferred hK', ?_⟩⟩
    have y0 := ((HV.out.set_ 0 (.slice none 0 0)).putObj (.deferred none) hDne.symm).cell 0
    refine ⟨.slice none 0 0, by simp [results, Tryz.results42, go_sem, y0], rfl, ?_⟩
    exact ext_put (ext_set HE2.out (Nat.le_succ _) _) (Nat.le_trans hxs hD) _

end Go.Proofs.YtbgfmbmcabekeaaGreatDoor

/-
  package cachetierref01: Sum (some number); package cachetierref12: Digits, Point, within.
-/
namespace Go.Proofs.YtbgfmbmcabekeaaGreatDoor
open Go.RowKit

set_option maxHeartbeats 1000000 in
theorem crc_any (s : ByteArray) (w : World) (hs : s.size ≤ 100000) : Calls Tryz.prog 193 #[.string s] w fun e w' => (∃ z : Int, e = .returned (.int .i64 z)) ∧ w = w' := by
  go_enter Tryz.func193, Tryz.ntmps193
  go_wp2
  go_loop [3, 4, 5, 6] (fun r i _ _ => ∃ k : Nat, k ≤ s.size ∧ i = .int .i64 k ∧ ∃ z : Int, r = .int .u32 z) (fun _ i _ _ => s.size - (intOf i).toNat)
  case atStart => exact ⟨0, Nat.zero_le _, rfl, _, rfl⟩
  case round =>
    obtain ⟨k, hk, rfl, z, rfl⟩ := hrel
    by_cases hlt : k < s.size
    · have d1 : decide ((k : Int) < (s.size : Int)) = true := by simp; omega
      have q0 : (0 : Int) ≤ (k : Int) := by omega
      have q1 : (k : Int) < (s.size : Int) := by omega
      have e2 : IntKind.i64.wrap ((k : Int) + 1) = (k : Int) + 1 := by rw [IntWalk.i64_in _ (by omega)]
      go_wp2
      go_loop [3, 5, 6] (fun r i _ => ∃ q : Nat, q ≤ 8 ∧ i = .int .i64 q ∧ ∃ z : Int, r = .int .u32 z) (fun _ i _ => 8 - (intOf i).toNat)
      case atStart => exact ⟨0, by omega, rfl, _, rfl⟩
      case round =>
        obtain ⟨q, hq, rfl, y, rfl⟩ := hrel
        by_cases hq8 : q < 8
        · have d2 : decide ((q : Int) < 8) = true := by simp; omega
          have e3 : IntKind.i64.wrap ((q : Int) + 1) = (q : Int) + 1 := by rw [IntWalk.i64_in _ (by omega)]
          go_wp2
          all_goals go_round
          all_goals first | exact ⟨q + 1, by omega, by go_num, _, rfl⟩ | (simp [intOf]; omega)
        · have d2 : decide ((q : Int) < 8) = false := by simp; omega
          go_wp2
          go_round
          case rel => exact ⟨k + 1, by omega, by go_num, _, rfl⟩
          case measure => simp [intOf]; omega
    · have d1 : decide ((k : Int) < (s.size : Int)) = false := by simp; omega
      go_wp2
      go_ret
      exact ⟨⟨_, rfl⟩, rfl⟩

set_option maxHeartbeats 400000 in
theorem point12_any (s : ByteArray) (w : World) (hs : s.size ≤ 100000) : Calls Tryz.prog 155 #[.string s] w fun e w' => (∃ z : Int, e = .returned (.int .i64 z)) ∧ w = w' := by
  go_enter Tryz.func155, Tryz.ntmps155
  go_wp2_with (go_at_call 193; refine (crc_any s w hs).mono ?_; rintro e w' ⟨⟨z, rfl⟩, rfl⟩)
  go_ret
  exact ⟨⟨z, rfl⟩, rfl⟩

end Go.Proofs.YtbgfmbmcabekeaaGreatDoor

/-
  package cachetierref12: Digits at a number below 100.
-/
namespace Go.Proofs.YtbgfmbmcabekeaaGreatDoor
open Go.RowKit

/-- a string of one byte -/
def digitS (x : Int) : ByteArray := ByteArray.empty.push (UInt8.ofNat x.toNat)
theorem digitS_size (x : Int) : (digitS x).size = 1 := rfl
theorem digit_conv (x : Int) (w : World) : (convert 161 9 (.slice (some ⟨w.heap.size, 0, none⟩) 1 1)).run Tryz.prog (w.alloc (.cells #[.int .u8 x] 5)) = .ok (.string (digitS x)) (w.alloc (.cells #[.int .u8 x] 5)) := by
  rw [run_convert_bytes_string _ 161 9 5 _ 1 1 Tryz.underlying161 Tryz.underlying5 Tryz.underlying9]
  have h := run_loadCells_list (P := Tryz.prog) (w.alloc (.cells #[.int .u8 x] 5)) ⟨w.heap.size, 0, none⟩ ([x].map (Value.int .u8)) (fun j y hy => by
    match j, hy with
    | 0, hy => simp at hy; subst hy; exact cell_one_new w _ 5 0 _ rfl)
  exact run_bytesToString _ _ 1 1 [x] h

set_option maxRecDepth 100000 in
set_option maxHeartbeats 2000000 in
theorem digits_any (n : Nat) (hn : n < 100) (w : World) : Calls Tryz.prog 156 #[.int .i64 n] w fun e w' => (∃ s : ByteArray, e = .returned (.string s) ∧ s.size ≤ 2) ∧ Below w.heap.size w w' := by
  go_enter Tryz.func156, Tryz.ntmps156
  go_wp2
  go_loopw [0, 3] (fun m t W => ∃ (q : Nat) (s : ByteArray), m = .int .i64 q ∧ t = .string s ∧ Hid (s.size ≤ 2 ∧ (s.size = 0 → q < 100) ∧ (s.size = 1 → q < 10) ∧ (s.size = 2 → q = 0)) ∧ Below w.heap.size w W) (fun _ t _ => 3 - (match t with | .string s => s.size | _ => 0))
  case atStart => exact ⟨n, ⟨#[]⟩, rfl, rfl, ⟨by decide, fun _ => hn, (fun h => absurd h (by decide)), (fun h => absurd h (by decide))⟩, ext_refl w⟩
  case round =>
    obtain ⟨q, s, rfl, rfl, hq, hE⟩ := hrel
    have HE := Lib.hid hE
    clear hE
    have hcv := digit_conv (48 + (q : Int) % 10) wr
    have HU := Lib.hid (digitS_size (48 + (q : Int) % 10))
    generalize digitS (48 + (q : Int) % 10) = u at *
    have hq100 : q < 100 := by
      obtain ⟨h1, h2, h3, h4⟩ := hq.out
      rcases Nat.lt_or_ge s.size 1 with h | h
      · exact h2 (by omega)
      · rcases Nat.lt_or_ge s.size 2 with h' | h'
        · have := h3 (by omega); omega
        · have := h4 (by omega); omega
    have HW := Lib.hid (show wrap64 ((q : Int) / 10) = ((q / 10 : Nat) : Int) by rw [IntWalk.wrap64_in _ (by omega)]; omega)
    have HQ := Lib.hid hq100
    clear hq100
    by_cases hs : s = ⟨#[]⟩
    · subst hs
      have HUT := Lib.hid (show (u ++ ⟨#[]⟩ : ByteArray).size = 1 by rw [ByteArray.size_append, HU.out]; rfl)
      have hul : u.size ≤ 1 := by rw [HU.out]; exact Nat.le_refl _
      go_wp2
      go_roundw
      case rel =>
        have hq1 := HQ.out
        exact ⟨q / 10, u ++ ⟨#[]⟩, by rw [HW.out], rfl, ⟨by rw [HUT.out]; decide, (fun _ => by omega), (fun _ => by omega), (fun h => by rw [HUT.out] at h; cases h)⟩, ext_alloc HE.out _⟩
      case measure => show 3 - (u ++ ⟨#[]⟩ : ByteArray).size < 3 - 0; rw [HUT.out]; decide
    · have hs0 : s.size ≠ 0 := fun h => hs (ByteArray.ext (Array.eq_empty_of_size_eq_zero h))
      have hse : s.toList.isEmpty = false := by
        rw [← decide_eq_emptyBytes]
        exact decide_eq_false hs
      have hsl : ¬ s.toList = [] := fun h => by rw [h] at hse; cases hse
      have HSS := Lib.hid hs0
      clear hs hs0
      by_cases hq0 : q = 0
      · subst hq0
        clear hcv
        go_wp2
        go_ret
        exact ⟨⟨s, rfl, hq.out.1⟩, HE.out⟩
      · have hqi : (0 : Int) < (q : Int) := by omega
        have hsz : u.size + s.size ≤ 3 := by have := hq.out.1; have := HU.out; omega
        have hus : (u ++ s).size = 2 ∧ q / 10 = 0 := by
          rw [ByteArray.size_append, HU.out]
          obtain ⟨h1, h2, h3, h4⟩ := hq.out
          have h0 := HSS.out
          rcases Nat.lt_or_ge s.size 2 with h' | h'
          · have := h3 (by omega); omega
          · have := h4 (by omega); omega
        have HUS := Lib.hid hus
        have HS1 := Lib.hid (show s.size = 1 by
          have h := hus.1
          rw [ByteArray.size_append, HU.out] at h
          omega)
        clear hq0 hus
        go_wp2
        go_roundw
        case rel => exact ⟨q / 10, u ++ s, by rw [HW.out], rfl, ⟨by rw [HUS.out.1]; exact Nat.le_refl _, (fun h => by rw [HUS.out.1] at h; cases h), (fun h => by rw [HUS.out.1] at h; cases h), (fun _ => HUS.out.2)⟩, ext_alloc HE.out _⟩
        case measure =>
          show 3 - (u ++ s).size < 3 - s.size
          rw [HUS.out.1, HS1.out]
          decide

end Go.Proofs.YtbgfmbmcabekeaaGreatDoor

/-
  Laws: copy between rows of elements of several cells; an insertion into an own row of spots.
-/
namespace Go.Proofs.YtbgfmbmcabekeaaGreatDoor
open Go.RowKit

section
variable {P : Program}
theorem run_copy_rowN (w : World) (dT sT ty elem : TypeId) (sz : Nat) (g o dLen dCap : Nat) (a : Addr) (sLen sCap : Nat) (cur : Array Value) (t : TypeId) (cs : List Value)
    (hu : P.underlying dT = some (.slice elem)) (hs : (P.info? elem).map (·.size) = some sz)
    (hg : w.heap[g]? = some (.cells cur t (0, 0))) (hn : cs.length = Nat.min sLen dLen * sz)
    (hsrc : ∀ j v, cs[j]? = some v → w.cell? (a.add j) = some v) (hfit : o + cs.length ≤ cur.size) (h1 : ∀ v ∈ cs, v.oneCell' = true) :
    (Builtin.copy_ #[dT, sT] ty #[.slice (some ⟨g, o, none⟩) dLen dCap, .slice (some a) sLen sCap]).run P w =
      .ok (goInt (Nat.min sLen dLen)) (w.setRow g (cur.toList.take o ++ cs ++ cur.toList.drop (o + cs.length)).toArray) := by
  have hl := run_loadCells_list (P := P) w a cs hsrc
  have hst := run_storeCells_at P g o t cs 0 cur w hg (by simpa using hfit) h1
  cases hq : P.info? elem with
  | none => simp [hq] at hs
  | some i =>
    have hi : i.size = sz := by simpa [hq] using hs
    simp [Builtin.copy_, run_underlying hu, Builtin.lenOf, Builtin.firstCells, sizeOf, typeInfo, hq, hi, ← hn, hl, hst]

theorem run_copy_0 (w : World) (dT sT ty elem : TypeId) (dp : Option Addr) (dCap : Nat) (a : Addr) (sLen sCap : Nat) (hu : P.underlying dT = some (.slice elem)) (hs : ((P.info? elem).map (·.size)).isSome = true) :
    (Builtin.copy_ #[dT, sT] ty #[.slice dp 0 dCap, .slice (some a) sLen sCap]).run P w = .ok (goInt 0) w := by
  cases hq : P.info? elem with
  | none => simp [hq] at hs
  | some i =>
    have hl := run_loadCells_list (P := P) w a [] (fun j v h => by simp at h)
    have hl0 : (loadCells a 0).run P w = .ok #[] w := by simpa using hl
    cases dp <;> simp [Builtin.copy_, run_underlying hu, Builtin.lenOf, Builtin.firstCells, sizeOf, typeInfo, hq, storeCells, hl0, Result.andThen]
end

theorem ownsRow_cells' {w : World} {B e sz g n cap : Nat} {ys : List Value} (h : w.ownsRow B e sz (.slice (some ⟨g, 0, none⟩) n cap) n ys) : ∀ j v, ys[j]? = some v → w.cell? ⟨g, j, none⟩ = some v := by
  intro j v hv
  have := h.cells (g := g) rfl j v hv
  rwa [add_lit0] at this

/-- the cells of spots -/
def pc (xs : List (Int × Nat)) : List Value := xs.flatMap fun x => [Value.int .i64 x.1, Value.int .i64 (x.2 : Int)]
theorem pc_length (xs : List (Int × Nat)) : (pc xs).length = xs.length * 2 := by
  induction xs with
  | nil => rfl
  | cons a r ih => simp [pc] at ih ⊢; omega
theorem pc_append (xs ys : List (Int × Nat)) : pc (xs ++ ys) = pc xs ++ pc ys := by simp [pc]
theorem pc_one (xs : List (Int × Nat)) : ∀ u ∈ pc xs, u.oneCell' = true := by
  intro u hu
  unfold pc at hu
  obtain ⟨x, _, hx⟩ := List.mem_flatMap.1 hu
  simp at hx
  rcases hx with rfl | rfl <;> rfl
theorem pc_get (xs : List (Int × Nat)) : ∀ (k : Nat) (x : Int × Nat), xs[k]? = some x → (pc xs)[k * 2]? = some (.int .i64 x.1) ∧ (pc xs)[k * 2 + 1]? = some (.int .i64 (x.2 : Int)) := by
  induction xs with
  | nil => intro k x h; simp at h
  | cons a r ih =>
    intro k x h
    cases k with
    | zero => simp at h; subst h; exact ⟨rfl, rfl⟩
    | succ k =>
      have h' := ih k x (by simpa using h)
      have e1 : (k + 1) * 2 = k * 2 + 2 := by omega
      rw [e1]
      exact h'

/-- an own row of spots -/
def SpotRow (w : World) (B g cap : Nat) (xs : List (Int × Nat)) : Prop := w.ownsRow B 255 2 (.slice (some ⟨g, 0, none⟩) xs.length cap) xs.length (pc xs)
theorem SpotRow.block {w : World} {B g cap : Nat} {xs : List (Int × Nat)} (h : SpotRow w B g cap xs) : B ≤ g ∧ ∃ cur, w.heap[g]? = some (.cells cur 255 (0, 0)) ∧ xs.length ≤ cap ∧ cap ≤ maxLen ∧ cur.size = cap * 2 ∧ cur.toList.take (xs.length * 2) = pc xs := by
  rcases h.2 with ⟨he, _⟩ | ⟨g', cap', cur, he, hb, hg, h1, h2, h3, h4⟩
  · cases he
  · injection he with ha _ hc
    injection ha with ha
    injection ha with ha
    subst ha; subst hc
    exact ⟨hb, cur, hg, h1, h2, h3, h4⟩
theorem SpotRow.mk' {w : World} {B g cap : Nat} {xs : List (Int × Nat)} {cur : Array Value} (hb : B ≤ g) (hg : w.heap[g]? = some (.cells cur 255 (0, 0))) (h1 : xs.length ≤ cap) (h2 : cap ≤ maxLen) (h3 : cur.size = cap * 2)
    (h4 : cur.toList.take (xs.length * 2) = pc xs) : SpotRow w B g cap xs := ⟨pc_length xs, .inr ⟨g, cap, cur, rfl, hb, hg, h1, h2, h3, h4⟩⟩
theorem SpotRow.cell {w : World} {B g cap : Nat} {xs : List (Int × Nat)} (h : SpotRow w B g cap xs) {k : Nat} {x : Int × Nat} (hx : xs[k]? = some x) :
    w.cell? ⟨g, k * 2, none⟩ = some (.int .i64 x.1) ∧ w.cell? ⟨g, k * 2 + 1, none⟩ = some (.int .i64 (x.2 : Int)) := by
  have hc := ownsRow_cells' h
  obtain ⟨h1, h2⟩ := pc_get xs k x hx
  exact ⟨hc _ _ h1, hc _ _ h2⟩
theorem SpotRow.frozen {w : World} {B g cap : Nat} {xs : List (Int × Nat)} (h : SpotRow w B g cap xs) (k : Nat) : w.frozen? ⟨g, k, none⟩ = false := by
  obtain ⟨_, cur, hg, _⟩ := h.block
  simp [World.frozen?, hg]

/-- copy(out[q+1:], out[q:]) -/
theorem SpotRow.shift {w : World} {B g cap : Nat} {xs : List (Int × Nat)} {n q : Nat} (h : SpotRow w B g cap xs) (hn : xs.length = n + 1) (hq : q < n) :
    ∃ w2, (Builtin.copy_ #[250, 250] 3 #[.slice (some ⟨g, (q + 1) * 2, none⟩) (n + 1 - (q + 1)) (cap - (q + 1)), .slice (some ⟨g, q * 2, none⟩) (n + 1 - q) (cap - q)]).run Tryz.prog w = .ok (goInt ((n - q : Nat) : Int)) w2 ∧
      SpotRow w2 B g cap (xs.take (q + 1) ++ (xs.drop q).take (n - q)) ∧ w.grownBy w2 (some g) := by
  obtain ⟨hb, cur, hg, h1, h2, h3, h4⟩ := h.block
  have hcs : (pc ((xs.drop q).take (n - q))).length = (n - q) * 2 := by rw [pc_length]; simp; omega
  have hmin : Nat.min (n + 1 - q) (n + 1 - (q + 1)) = n - q := by simp [Nat.min_def]; omega
  have hrun := run_copy_rowN (P := Tryz.prog) w 250 250 3 255 2 g ((q + 1) * 2) (n + 1 - (q + 1)) (cap - (q + 1)) ⟨g, q * 2, none⟩ (n + 1 - q) (cap - q) cur 255
    (pc ((xs.drop q).take (n - q))) Tryz.underlying250 (by kernel_rfl) hg (by rw [hcs, hmin]) (fun j v hv => by
      have hj : j < (n - q) * 2 := by rw [← hcs]; exact (List.getElem?_eq_some_iff.1 hv).1
      have hv2 : (pc xs)[q * 2 + j]? = some v := by
        have e : pc xs = pc (xs.take q) ++ (pc ((xs.drop q).take (n - q)) ++ pc ((xs.drop q).drop (n - q))) := by
          rw [← pc_append, ← pc_append, List.take_append_drop, List.take_append_drop]
        rw [e, List.getElem?_append_right (by rw [pc_length]; simp; omega), pc_length, List.getElem?_append_left (by rw [hcs]; simp; omega)]
        rw [← hv]
        congr 1
        simp
        omega
      have := ownsRow_cells' h _ _ hv2
      rw [Addr.add_mid]
      exact this) (by rw [hcs, h3]; omega) (pc_one _)
  rw [hmin, hcs] at hrun
  refine ⟨_, hrun, SpotRow.mk' hb (setRow_heap w g cur _ _ _ hg) (by rw [List.length_append, List.length_take, List.length_take, List.length_drop]; omega) h2 ?_ ?_, ⟨rfl, rfl, rfl, (by unfold World.setRow; simp), fun k _ hk => setRow_other w g k _ (fun e => hk (by rw [e]))⟩⟩
  · simp [hcs, h3]; omega
  · have hlen : (xs.take (q + 1) ++ (xs.drop q).take (n - q)).length = n + 1 := by simp; omega
    rw [hlen, pc_append]
    have e1 : cur.toList.take ((q + 1) * 2) = pc (xs.take (q + 1)) := by
      have : cur.toList.take ((q + 1) * 2) = (cur.toList.take (xs.length * 2)).take ((q + 1) * 2) := by rw [List.take_take, Nat.min_eq_left (by omega)]
      rw [this, h4]
      have e : pc xs = pc (xs.take (q + 1)) ++ pc (xs.drop (q + 1)) := by rw [← pc_append, List.take_append_drop]
      rw [e, List.take_append_of_le_length (by rw [pc_length]; simp; omega), List.take_of_length_le (by rw [pc_length]; simp; omega)]
    simp only [List.toList_toArray, e1]
    rw [List.take_append_of_le_length (by rw [List.length_append, pc_length, hcs]; simp; omega), List.take_of_length_le (by rw [List.length_append, pc_length, hcs]; simp; omega)]

theorem pc_set (xs : List (Int × Nat)) : ∀ (k : Nat) (x : Int × Nat), pc (xs.set k x) = ((pc xs).set (k * 2) (.int .i64 x.1)).set (k * 2 + 1) (.int .i64 (x.2 : Int)) := by
  induction xs with
  | nil => intro k x; simp [pc]
  | cons a r ih =>
    intro k x
    cases k with
    | zero => rfl
    | succ k =>
      have e1 : (k + 1) * 2 = k * 2 + 2 := by omega
      rw [e1]
      show [Value.int .i64 a.1, Value.int .i64 (a.2 : Int)] ++ pc (r.set k x) = _
      rw [ih]
      rfl
/-- out[k] = x -/
theorem SpotRow.put {w : World} {B g cap : Nat} {xs : List (Int × Nat)} (h : SpotRow w B g cap xs) {k : Nat} (hk : k < xs.length) (x : Int × Nat) :
    SpotRow ((w.setCell ⟨g, k * 2, none⟩ (.int .i64 x.1)).setCell ⟨g, k * 2 + 1, none⟩ (.int .i64 (x.2 : Int))) B g cap (xs.set k x) := by
  obtain ⟨hb, cur, hg, h1, h2, h3, h4⟩ := h.block
  rw [setCell_eq_setRow w g (k * 2) cur _ _ _ hg]
  have hg2 := setRow_heap w g cur (cur.setIfInBounds (k * 2) (.int .i64 x.1)) _ _ hg
  rw [setCell_eq_setRow _ g (k * 2 + 1) _ _ _ _ hg2, setRow_setRow]
  refine SpotRow.mk' hb (setRow_heap w g cur _ _ _ hg) (by rw [List.length_set]; exact h1) h2 (by simp [h3]) ?_
  rw [List.length_set, pc_set, ← h4]
  apply List.ext_getElem?
  intro i
  simp only [Array.toList_setIfInBounds, List.getElem?_take, List.getElem?_set, List.length_set, List.length_take]
  by_cases hi : i < xs.length * 2
  · by_cases h5 : k * 2 + 1 = i
    · have : i < cur.toList.length := by simp [h3]; omega
      have hc : i < cur.size := this
      have hm : i < min (xs.length * 2) cur.size := by omega
      simp [hi, h5, hc, hm]
    · by_cases h6 : k * 2 = i
      · have : i < cur.toList.length := by simp [h3]; omega
        have hc : i < cur.size := this
        have hm : i < min (xs.length * 2) cur.size := by omega
        simp [hi, h5, h6, hc, hm]
      · simp [hi, h5, h6]
  · have h5 : ¬ (k * 2 + 1 = i) := by omega
    have h6 : ¬ (k * 2 = i) := by omega
    simp [hi, h5, h6]

/-- what an insertion leaves -/
theorem insert_last (xs : List (Int × Nat)) (x : Int × Nat) : (xs ++ [x]).set xs.length x = xs.take xs.length ++ x :: xs.drop xs.length := by
  simp [List.set_append]
theorem insert_mid (xs : List (Int × Nat)) (x : Int × Nat) (q : Nat) (hq : q < xs.length) : ((xs ++ [x]).take (q + 1) ++ ((xs ++ [x]).drop q).take (xs.length - q)).set q x = xs.take q ++ x :: xs.drop q := by
  have e1 : (xs ++ [x]).take (q + 1) = xs.take (q + 1) := List.take_append_of_le_length (by omega)
  have e2 : ((xs ++ [x]).drop q).take (xs.length - q) = xs.drop q := by
    rw [List.drop_append_of_le_length (by omega), List.take_append_of_le_length (by simp), List.take_of_length_le (by simp)]
  rw [e1, e2]
  have e3 : xs.take (q + 1) = xs.take q ++ [xs[q]] := by rw [List.take_add_one, List.getElem?_eq_getElem hq]; rfl
  have hl : (xs.take q).length = q := by simp; omega
  rw [e3, List.append_assoc, List.set_append_right _ _ (by omega), hl]
  simp

end Go.Proofs.YtbgfmbmcabekeaaGreatDoor
