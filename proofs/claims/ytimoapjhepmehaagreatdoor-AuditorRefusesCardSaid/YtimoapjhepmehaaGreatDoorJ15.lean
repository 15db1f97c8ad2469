/-
  Part 15 of 17: the contracts that the proof of the last part uses; each stands under its own head.
-/
import Derived.Test.YtimoapjhepmehaaGreatDoorJ14
import Derived.Deep.Cut
set_option linter.unusedSimpArgs false
set_option linter.unusedVariables false

/-
  package auditor: At, Check and Settle at nil, Show.
-/
namespace Go.Proofs.YtimoapjhepmehaaGreatDoor
open Go.RowKit
attribute [local go_sem ↓] Go.wp_at_zero Go.wp_at_succ

theorem audCheckNil (g d : Nat) (B : Option Addr) (m : Nat) (w : World) : Calls Tryz.prog 13 #[.pointer none, .agg #[.int .i64 3, .int .i64 0, .int .i64 0, .int .i64 0, .int .i64 0, .int .i64 0, .int .i64 0, .slice none 0 0, .int .i64 0, .bool false, .int .i64 0, .int .i64 0, .int .i64 0, .slice (some ⟨g, 0, none⟩) 1 d, .slice B 0 m]] w fun e w' => e = .returned (.bool false) ∧ Below w.heap.size w w' := by
  go_enter Tryz.func13, Tryz.ntmps13
  go_wp2
  go_ret
  exact ⟨rfl, ext_alloc (ext_new _ _) _⟩

set_option maxRecDepth 100000 in
set_option maxHeartbeats 1000000 in
theorem audAtNil (g d : Nat) (B : Option Addr) (m : Nat) (w : World) : Calls Tryz.prog 14 #[.pointer none, .agg #[.int .i64 3, .int .i64 0, .int .i64 0, .int .i64 0, .int .i64 0, .int .i64 0, .int .i64 0, .slice none 0 0, .int .i64 0, .bool false, .int .i64 0, .int .i64 0, .int .i64 0, .slice (some ⟨g, 0, none⟩) 1 d, .slice B 0 m], .int .i64 0] w fun e w' => e = .returned (.bool false) ∧ Below w.heap.size w w' := by
  go_enter Tryz.func14, Tryz.ntmps14
  go_wp2_with fail
  refine (audCheckNil g d B m _).mono ?_
  rintro e W1 ⟨rfl, hb1⟩
  have HE1 := Lib.hid (ext_call (ext_new w _) hb1)
  clear hb1
  go_wp2
  go_ret
  exact ⟨rfl, HE1.out⟩

set_option maxRecDepth 100000 in
set_option maxHeartbeats 1000000 in
theorem audAtNo0 (ga gm c : Nat) (n : Int) (r : ByteArray) (g d : Nat) (B : Option Addr) (m : Nat) (w : World) (h : AudAt w ga gm n r #[] c) (ha : AnsAt false w #[.int .i64 3, .int .i64 0, .int .i64 0, .int .i64 0, .int .i64 0, .int .i64 0, .int .i64 0, .slice none 0 0, .int .i64 0, .bool false, .int .i64 0, .int .i64 0, .int .i64 0, .slice (some ⟨g, 0, none⟩) 1 d, .slice B 0 m]) :
    Calls Tryz.prog 14 #[.pointer (some ⟨ga, 0, none⟩), .agg #[.int .i64 3, .int .i64 0, .int .i64 0, .int .i64 0, .int .i64 0, .int .i64 0, .int .i64 0, .slice none 0 0, .int .i64 0, .bool false, .int .i64 0, .int .i64 0, .int .i64 0, .slice (some ⟨g, 0, none⟩) 1 d, .slice B 0 m], .int .i64 0] w fun e w' => e = .returned (.bool false) ∧ Below w.heap.size w w' := by
  have HE := Lib.hid (ext_new w (.cells #[.int .i64 3, .int .i64 0, .int .i64 0, .int .i64 0, .int .i64 0, .int .i64 0, .int .i64 0, .slice none 0 0, .int .i64 0, .bool false, .int .i64 0, .int .i64 0, .int .i64 0, .slice (some ⟨g, 0, none⟩) 1 d, .slice B 0 m] 39))
  have HC := Lib.hid (audCheckNo0 ga gm c n r g d B m _ (h.ext HE.out) (ha.ext HE.out))
  clear h ha
  go_enter Tryz.func14, Tryz.ntmps14
  go_wp2_with fail
  refine HC.out.mono ?_
  rintro e W1 ⟨rfl, hb1⟩
  have HE1 := Lib.hid (ext_call HE.out hb1)
  clear hb1
  go_wp2
  go_ret
  exact ⟨rfl, HE1.out⟩

set_option maxRecDepth 100000 in
set_option maxHeartbeats 1000000 in
theorem audAtEarly (v : Value) (gr kr g d : Nat) (B : Option Addr) (m : Nat) (p : Option Addr) (w : World) :
    Calls Tryz.prog 14 #[.pointer p, .agg #[.int .i64 1, .int .i64 0, .int .i64 0, .int .i64 5, .int .i64 5, .int .i64 0, .int .i64 0, .slice (some ⟨gr, 0, none⟩) 1 kr, .int .i64 0, .bool false, .int .i64 1, .int .i64 1, .int .i64 1, .slice (some ⟨g, 0, none⟩) 1 d, .slice B 0 m], .int .i64 0] w fun e w' => e = .returned (.bool false) ∧ Below w.heap.size w w' := by
  go_enter Tryz.func14, Tryz.ntmps14
  go_wp2
  go_ret
  exact ⟨rfl, ext_new _ _⟩

set_option maxRecDepth 100000 in
set_option maxHeartbeats 1000000 in
theorem audAtYes (ga gm c : Nat) (n : Int) (r c1 s1 : ByteArray) (gr kr g d : Nat) (B : Option Addr) (m : Nat) (w : World) (h : AudAt w ga gm n r #[audEntry c1 s1] c) (hc1 : c1.size = 32) (hs1 : s1 = stateF true) (ha : Ans1 w gr kr g d B m) (hR : RoundOK w) :
    Calls Tryz.prog 14 #[.pointer (some ⟨ga, 0, none⟩), .agg #[.int .i64 1, .int .i64 0, .int .i64 0, .int .i64 5, .int .i64 5, .int .i64 0, .int .i64 0, .slice (some ⟨gr, 0, none⟩) 1 kr, .int .i64 0, .bool false, .int .i64 1, .int .i64 1, .int .i64 1, .slice (some ⟨g, 0, none⟩) 1 d, .slice B 0 m], .int .i64 1] w fun e w' => e = .returned (.bool true) ∧ Below w.heap.size w w' := by
  have HE := Lib.hid (ext_new w (.cells #[.int .i64 1, .int .i64 0, .int .i64 0, .int .i64 5, .int .i64 5, .int .i64 0, .int .i64 0, .slice (some ⟨gr, 0, none⟩) 1 kr, .int .i64 0, .bool false, .int .i64 1, .int .i64 1, .int .i64 1, .slice (some ⟨g, 0, none⟩) 1 d, .slice B 0 m] 39))
  have HC := Lib.hid (audCheckYes ga gm c n r c1 s1 gr kr g d B m _ (h.ext HE.out) hc1 hs1 (ha.ext HE.out) (hR.below HE.out))
  clear h ha hR hc1 hs1
  go_enter Tryz.func14, Tryz.ntmps14
  go_wp2_with fail
  refine HC.out.mono ?_
  rintro e W1 ⟨rfl, hb1⟩
  have HE1 := Lib.hid (ext_call HE.out hb1)
  clear hb1
  go_wp2
  go_ret
  exact ⟨rfl, HE1.out⟩

theorem showNil (p : Int) (c s : ByteArray) (v : Value) (w : World) : Calls Tryz.prog 16 #[.pointer none, .agg #[.int .i64 p, .string c, .string s], v] w fun e w' => e = .returned (.int .i64 1) ∧ Below w.heap.size w w' := by
  go_enter Tryz.func16, Tryz.ntmps16
  go_wp2
  go_ret
  exact ⟨rfl, ext_new _ _⟩

set_option maxRecDepth 100000 in
set_option maxHeartbeats 1000000 in
theorem showNo (ga gm k : Nat) (r : ByteArray) (p : Int) (c s : ByteArray) (v : Value) (w : World) (h : AudAt w ga gm (-1) r #[] k) :
    Calls Tryz.prog 16 #[.pointer (some ⟨ga, 0, none⟩), .agg #[.int .i64 p, .string c, .string s], v] w fun e w' => e = .returned (.int .i64 290) ∧ Below w.heap.size w w' := by
  have hA1 := h.ext (ext_new w (.cells #[.int .i64 p, .string c, .string s] 52))
  have hlk := fun o => lookup_none (P := Tryz.prog) (k := .int .i64 p) (w := ((w.alloc (.cells #[.int .i64 p, .string c, .string s] 52)).alloc o).drew) Tryz.underlying90 (hA1.2.alloc o) (int_check p true _) Tryz.underlying3 (head_zero _)
  have hlk2 := lookup_none (P := Tryz.prog) (k := .int .i64 p) (w := (w.alloc (.cells #[.int .i64 p, .string c, .string s] 52)).drew) Tryz.underlying90 hA1.2 (int_check p true _) Tryz.underlying3 (head_zero _)
  have a0 : w.cell? ⟨ga, 0, none⟩ = some (.int .i64 (-1)) := h.1.cell 0
  have a1 : w.cell? ⟨ga, 1, none⟩ = some (.string r) := h.1.cell 1
  have a2 : w.cell? ⟨ga, 2, none⟩ = some (.map (some gm)) := h.1.cell 2
  have al := h.1.lt
  have al1 : ga < w.heap.size + 1 := by omega
  clear h hA1
  go_enter Tryz.func16, Tryz.ntmps16
  go_wp2
  go_region
  all_goals
    go_wp2_with (go_at_call 32; refine (known_no r _).mono ?_; rintro e W1 ⟨rfl, hb1⟩; have HE1 := Lib.hid (ext_call ((ext_alloc (ext_new w _) _).drew) hb1); clear hb1)
    go_ret
    exact ⟨rfl, HE1.out⟩

end Go.Proofs.YtimoapjhepmehaaGreatDoor

/-
  package auditor: Show with a root; Settle.
-/
namespace Go.Proofs.YtimoapjhepmehaaGreatDoor
open Go.RowKit
attribute [local go_sem ↓] Go.wp_at_zero Go.wp_at_succ

theorem showKeep {X W : World} {ga bh : Nat} {a0 a1 a2 h0 h1 h2 : Value} (h : Blk X ga 92 #[a0, a1, a2] ∧ Blk X bh 52 #[h0, h1, h2]) (k : Below X.heap.size X W) :
    W.cell? ⟨ga, 0, none⟩ = some a0 ∧ W.cell? ⟨ga, 1, none⟩ = some a1 ∧ W.cell? ⟨bh, 0, none⟩ = some h0 ∧ W.cell? ⟨bh, 1, none⟩ = some h1 ∧ W.cell? ⟨bh, 2, none⟩ = some h2 ∧ Below X.heap.size X W :=
  ⟨(h.1.ext k).cell 0, (h.1.ext k).cell 1, (h.2.ext k).cell 0, (h.2.ext k).cell 1, (h.2.ext k).cell 2, k⟩
theorem showB {X W : World} {ga bh : Nat} {a0 a1 h0 h1 h2 : Value} (h : W.cell? ⟨ga, 0, none⟩ = some a0 ∧ W.cell? ⟨ga, 1, none⟩ = some a1 ∧ W.cell? ⟨bh, 0, none⟩ = some h0 ∧ W.cell? ⟨bh, 1, none⟩ = some h1 ∧ W.cell? ⟨bh, 2, none⟩ = some h2 ∧ Below X.heap.size X W) : Below X.heap.size X W := h.2.2.2.2.2

set_option maxRecDepth 100000 in
set_option maxHeartbeats 2000000 in
theorem showYes (S : Nat → Prop) (ga gm : Nat) (r c1 s1 d : ByteArray) (v : Value) (hc1 : c1.size = 32) (hs1 : s1.size = 32) (hd : d.size = 32) (w : World) (h : AudAt w ga gm 1 r #[] 0) (hv : Strs S w v [d]) (hR : RoundOK w) (heq : nodeF d (leafF (headEnc 1 c1 s1)) = r) :
    Calls Tryz.prog 16 #[.pointer (some ⟨ga, 0, none⟩), .agg #[.int .i64 1, .string c1, .string s1], v] w fun e w' => e = .returned (.int .i64 0) ∧ AudAt w' ga gm 1 r #[audEntry c1 s1] 1 ∧ Ext2 gm gm w w' := by
  have HVf := Lib.hid (show ∀ W : World, Below w.heap.size w W → Calls Tryz.prog 33 #[.string r, .int .i64 1, .agg #[.int .i64 1, .string c1, .string s1], v] W fun e w' => e = .returned (.bool true) ∧ Below W.heap.size W w' from
    fun W k => (logVerify S v r c1 s1 d hc1 hs1 hd W (hv.below k) (hR.below k)).mono (fun e w' ⟨p, q⟩ => ⟨by rw [p, heq]; simp, q⟩))
  have HNe := Lib.hid (show ga ≠ gm from fun e => by
    have h1 := h.1
    have h2 := h.2
    unfold Blk at h1
    unfold MapAt at h2
    rw [← e, h1] at h2
    cases h2)
  have hA1 := h.ext (ext_new w (.cells #[.int .i64 1, .string c1, .string s1] 52))
  have hlk := fun o => lookup_none (P := Tryz.prog) (k := .int .i64 1) (w := ((w.alloc (.cells #[.int .i64 1, .string c1, .string s1] 52)).alloc o).drew) Tryz.underlying90 (hA1.2.alloc o) (int_check 1 true _) Tryz.underlying3 (head_zero _)
  have hlk2 := lookup_none (P := Tryz.prog) (k := .int .i64 1) (w := (w.alloc (.cells #[.int .i64 1, .string c1, .string s1] 52)).drew) Tryz.underlying90 hA1.2 (int_check 1 true _) Tryz.underlying3 (head_zero _)
  have HA := Lib.hid h
  have a0 : w.cell? ⟨ga, 0, none⟩ = some (.int .i64 1) := h.1.cell 0
  have a1 : w.cell? ⟨ga, 1, none⟩ = some (.string r) := h.1.cell 1
  have a2 : w.cell? ⟨ga, 2, none⟩ = some (.map (some gm)) := h.1.cell 2
  have al := h.1.lt
  have al1 : ga < w.heap.size + 1 := by omega
  clear h hA1 hv hR heq hc1 hs1 hd
  go_enter Tryz.func16, Tryz.ntmps16
  go_wp2
  go_region
  all_goals
    go_wp2_with fail
    refine (known_yes 1 (by omega) r _).mono ?_
    rintro e X ⟨rfl, hb1⟩
    have hE0 := (ext_alloc (ext_new w (.cells #[.int .i64 1, .string c1, .string s1] 52)) (.cells #[.int .i64 0, .string ⟨#[]⟩, .string ⟨#[]⟩] 52)).drew
    have HE1 := Lib.hid (ext_call hE0 hb1)
    have HS1 := Lib.hid (show Blk X ga 92 #[.int .i64 1, .string r, .map (some gm)] ∧ Blk X w.heap.size 52 #[.int .i64 1, .string c1, .string s1] from
      ⟨HA.out.1.ext HE1.out, (((Blk.new w 52 #[.int .i64 1, .string c1, .string s1]).alloc (.cells #[.int .i64 0, .string ⟨#[]⟩, .string ⟨#[]⟩] 52)).drew).ext hb1⟩)
    have HM1 := Lib.hid (HA.out.2.ext HE1.out)
    clear hlk hlk2 a0 a1 a2 al al1 hb1 hE0
    have HK := Lib.hid (showKeep HS1.out (ext_refl X))
    go_upto_region 5 with (fail)
    go_region_held3 (fun w' => w'.cell? ⟨ga, 0, none⟩ = some (.int .i64 1) ∧ w'.cell? ⟨ga, 1, none⟩ = some (.string r) ∧ w'.cell? ⟨w.heap.size, 0, none⟩ = some (.int .i64 1) ∧ w'.cell? ⟨w.heap.size, 1, none⟩ = some (.string c1) ∧ w'.cell? ⟨w.heap.size, 2, none⟩ = some (.string s1) ∧ Below X.heap.size X w')
      (first | with_reducible assumption | exact showKeep HS1.out (by repeat (first | with_reducible refine Below.drew ?_ | with_reducible assumption | with_reducible exact ext_refl _)))
      (first | (go_at_call 33; (with_reducible refine (HVf.out _ ?_).mono ?_); (exact ext_call HE1.out (showB (by assumption))); rintro e Z ⟨rfl, hb'⟩; have hXZ := ext_call (showB (by assumption)) hb'; clear hb'))
    have HZ := Lib.hid (ext_call HE1.out hXZ)
    have HSz := Lib.hid (And.intro (HS1.out.1.ext hXZ) (HS1.out.2.ext hXZ))
    have HMz := Lib.hid (HM1.out.ext hXZ)
    clear hXZ
    have b2 : Z.cell? ⟨ga, 2, none⟩ = some (.map (some gm)) := HSz.out.1.cell 2
    have h0 : Z.cell? ⟨w.heap.size, 0, none⟩ = some (.int .i64 1) := HSz.out.2.cell 0
    have h1 : Z.cell? ⟨w.heap.size, 1, none⟩ = some (.string c1) := HSz.out.2.cell 1
    have h2 : Z.cell? ⟨w.heap.size, 2, none⟩ = some (.string s1) := HSz.out.2.cell 2
    have hup := update_none (P := Tryz.prog) (k := .int .i64 1) (v := .agg #[.int .i64 1, .string c1, .string s1]) (w := Z.drew) Tryz.underlying90 (HMz.out.drewN 1) (int_check 1 false _) Tryz.underlying3
    go_wp2
    go_region
    go_wp2
    go_ret
    refine ⟨rfl, ⟨(HSz.out.1.drew).putObj _ HNe.out, (HMz.out.drewN 1).put _ _⟩, ?_⟩
    exact ((Ext2.of_ext HZ.out).drewN 1).put _

theorem settleIn (n lo hi : Int) (h1 : lo ≤ n) (h2 : n ≤ hi) (w : World) : Calls Tryz.prog 35 #[.int .i64 n, .int .i64 lo, .int .i64 hi] w fun e w' => e = .returned (.bool true) ∧ w = w' := by
  go_enter Tryz.func35, Tryz.ntmps35
  go_wp2
  go_ret
  exact ⟨by simp [h1, h2], rfl⟩

set_option maxRecDepth 100000 in
set_option maxHeartbeats 1000000 in
theorem settleNil (g d : Nat) (B : Option Addr) (m : Nat) (w : World) : Calls Tryz.prog 18 #[.pointer none, .agg #[.int .i64 3, .int .i64 0, .int .i64 0, .int .i64 0, .int .i64 0, .int .i64 0, .int .i64 0, .slice none 0 0, .int .i64 0, .bool false, .int .i64 0, .int .i64 0, .int .i64 0, .slice (some ⟨g, 0, none⟩) 1 d, .slice B 0 m], .int .i64 0, .int .i64 1, .int .i64 1] w fun e w' => e = .returned (.tuple #[.int .i64 0, .bool false]) ∧ Below w.heap.size w w' := by
  go_enter Tryz.func18, Tryz.ntmps18
  go_wp2
  go_ret2
  exact ⟨rfl, ext_new _ _⟩

set_option maxRecDepth 100000 in
set_option maxHeartbeats 1000000 in
theorem settleYes (ga gm c : Nat) (n : Int) (r c1 s1 : ByteArray) (gr kr g d : Nat) (B : Option Addr) (m : Nat) (w : World) (h : AudAt w ga gm n r #[audEntry c1 s1] c) (hc1 : c1.size = 32) (hs1 : s1 = stateF true) (ha : Ans1 w gr kr g d B m) (hR : RoundOK w) :
    Calls Tryz.prog 18 #[.pointer (some ⟨ga, 0, none⟩), .agg #[.int .i64 1, .int .i64 0, .int .i64 0, .int .i64 5, .int .i64 5, .int .i64 0, .int .i64 0, .slice (some ⟨gr, 0, none⟩) 1 kr, .int .i64 0, .bool false, .int .i64 1, .int .i64 1, .int .i64 1, .slice (some ⟨g, 0, none⟩) 1 d, .slice B 0 m], .int .i64 1, .int .i64 2, .int .i64 7] w fun e w' => e = .returned (.tuple #[.int .i64 140, .bool true]) ∧ Below w.heap.size w w' := by
  have HE := Lib.hid (ext_new w (.cells #[.int .i64 1, .int .i64 0, .int .i64 0, .int .i64 5, .int .i64 5, .int .i64 0, .int .i64 0, .slice (some ⟨gr, 0, none⟩) 1 kr, .int .i64 0, .bool false, .int .i64 1, .int .i64 1, .int .i64 1, .slice (some ⟨g, 0, none⟩) 1 d, .slice B 0 m] 39))
  have HB := Lib.hid (Blk.new w 39 #[.int .i64 1, .int .i64 0, .int .i64 0, .int .i64 5, .int .i64 5, .int .i64 0, .int .i64 0, .slice (some ⟨gr, 0, none⟩) 1 kr, .int .i64 0, .bool false, .int .i64 1, .int .i64 1, .int .i64 1, .slice (some ⟨g, 0, none⟩) 1 d, .slice B 0 m])
  have HC := Lib.hid (audAtYes ga gm c n r c1 s1 gr kr g d B m _ (h.ext HE.out) hc1 hs1 (ha.ext HE.out) (hR.below HE.out))
  obtain ⟨zs, _, _, hz, _⟩ := ha.ext HE.out
  have HZ := Lib.hid hz
  clear h ha hR hc1 hs1 hz
  go_enter Tryz.func18, Tryz.ntmps18
  go_wp2_with (first
    | (go_at_call 35; refine (settleIn _ _ _ (by omega) (by omega) _).mono ?_; rintro e w' ⟨rfl, rfl⟩)
    | (go_at_call 14; refine HC.out.mono ?_; rintro e W1 ⟨rfl, hb1⟩; have HE1 := Lib.hid (ext_call HE.out hb1); have p7 : W1.cell? ⟨w.heap.size, 7, none⟩ = some (.slice (some ⟨gr, 0, none⟩) 1 kr) := (HB.out.ext hb1).cell 7; obtain ⟨r0, r1, r2, r3, r4⟩ := row_cells (HZ.out.ext hb1); clear hb1))
  go_ret2
  exact ⟨rfl, HE1.out⟩

end Go.Proofs.YtimoapjhepmehaaGreatDoor

/-
  package cachetierlaw29: answer.
-/
namespace Go.Proofs.YtimoapjhepmehaaGreatDoor
open Go.RowKit
attribute [local go_sem ↓] Go.wp_at_zero Go.wp_at_succ

theorem cells7 {w : World} {g : Nat} {t : TypeId} {a0 a1 a2 a3 a4 a5 a6 : Value} (h : Blk w g t #[a0, a1, a2, a3, a4, a5, a6]) : w.cell? ⟨g, 0, none⟩ = some a0 ∧ w.cell? ⟨g, 1, none⟩ = some a1 ∧ w.cell? ⟨g, 2, none⟩ = some a2 ∧ w.cell? ⟨g, 3, none⟩ = some a3 ∧ w.cell? ⟨g, 4, none⟩ = some a4 ∧ w.cell? ⟨g, 5, none⟩ = some a5 ∧ w.cell? ⟨g, 6, none⟩ = some a6 := by
  refine ⟨?_, ?_, ?_, ?_, ?_, ?_, ?_⟩ <;> exact h.cell _
theorem q7Keep {X W : World} {g : Nat} {t : TypeId} {a0 a1 a2 a3 a4 a5 a6 : Value} (h : Blk X g t #[a0, a1, a2, a3, a4, a5, a6]) (k : Below X.heap.size X W) :
    W.cell? ⟨g, 0, none⟩ = some a0 ∧ W.cell? ⟨g, 1, none⟩ = some a1 ∧ W.cell? ⟨g, 2, none⟩ = some a2 ∧ W.cell? ⟨g, 3, none⟩ = some a3 ∧ W.cell? ⟨g, 4, none⟩ = some a4 ∧ W.cell? ⟨g, 5, none⟩ = some a5 ∧ W.cell? ⟨g, 6, none⟩ = some a6 ∧ Below X.heap.size X W :=
  ⟨(h.ext k).cell 0, (h.ext k).cell 1, (h.ext k).cell 2, (h.ext k).cell 3, (h.ext k).cell 4, (h.ext k).cell 5, (h.ext k).cell 6, k⟩
theorem q7B {X W : World} {g : Nat} {a0 a1 a2 a3 a4 a5 a6 : Value} (h : W.cell? ⟨g, 0, none⟩ = some a0 ∧ W.cell? ⟨g, 1, none⟩ = some a1 ∧ W.cell? ⟨g, 2, none⟩ = some a2 ∧ W.cell? ⟨g, 3, none⟩ = some a3 ∧ W.cell? ⟨g, 4, none⟩ = some a4 ∧ W.cell? ⟨g, 5, none⟩ = some a5 ∧ W.cell? ⟨g, 6, none⟩ = some a6 ∧ Below X.heap.size X W) : Below X.heap.size X W := h.2.2.2.2.2.2.2
theorem AnsAt.keepB {one : Bool} {W W' : World} {a : Nat} {xs va : Array Value} (h : AnsAt one W va) (hb : Blk W a 39 xs) (hx : xs.all noStr = true) (k : Ext2 a a W W') : AnsAt one W' va := by
  cases one
  · obtain ⟨v, g, c, vr, us, B, d, h1, h2, h3, h4, h5⟩ := h
    exact ⟨v, g, c, vr, us, B, d, h1, h2.keep1 hb (by decide) k, h3, h4.ext2 k (blk_ne h4 hb (by decide)) (blk_ne h4 hb (by decide)), h5.keepB hb hx (by decide) (by decide) k⟩
  · obtain ⟨v, g, c, vr, us, B, d, h1, h2, h3, h4, h5⟩ := h
    exact ⟨v, g, c, vr, us, B, d, h1, h2.keep1 hb (by decide) k, h3, h4.ext2 k (blk_ne h4 hb (by decide)) (blk_ne h4 hb (by decide)), h5.keepB hb hx (by decide) (by decide) k⟩
theorem AnsAt.lit0 {W : World} {va : Array Value} (h : AnsAt false W va) : ∃ g d B m, va = #[.int .i64 3, .int .i64 0, .int .i64 0, .int .i64 0, .int .i64 0, .int .i64 0, .int .i64 0, .slice none 0 0, .int .i64 0, .bool false, .int .i64 0, .int .i64 0, .int .i64 0, .slice (some ⟨g, 0, none⟩) 1 d, .slice B 0 m] := by
  obtain ⟨v, g, c, vr, us, B, d, rfl, hv, _, _, _⟩ := h
  obtain rfl := rows_none hv
  exact ⟨g, c, B, d, rfl⟩

set_option maxRecDepth 100000 in
set_option maxHeartbeats 4000000 in
theorem answer1 (b g0 c0 : Nat) (w : World) (hL : LogAt w b g0 c0) (hR : RoundOK w) :
    Calls Tryz.prog 9 #[.slice (some ⟨g0, 0, none⟩) 1 1, .int .i64 1, .int .i64 1, .agg #[.int .i64 1, .int .i64 0, .int .i64 0, .int .i64 5, .int .i64 5, .int .i64 0, .int .i64 0]] w fun e w' => ∃ va, e = .returned (.tuple #[.agg va, .bool true]) ∧ AnsAt true w' va ∧ Below w.heap.size w w' := by
  obtain ⟨W0, hW0⟩ : ∃ W0, W0 = (w.alloc (.cells #[.int .i64 1, .int .i64 0, .int .i64 0, .int .i64 5, .int .i64 5, .int .i64 0, .int .i64 0] 33)).alloc (.cells #[.int .i64 0, .int .i64 0, .int .i64 0, .int .i64 0, .int .i64 0, .int .i64 0, .int .i64 0, .slice none 0 0, .int .i64 0, .bool false, .int .i64 0, .int .i64 0, .int .i64 0, .slice none 0 0, .slice none 0 0] 39) := ⟨_, rfl⟩
  have HE0 := Lib.hid (show Below w.heap.size w W0 by rw [hW0]; exact ext_alloc (ext_new _ _) _)
  have HQ0 := Lib.hid (show Blk W0 w.heap.size 33 #[.int .i64 1, .int .i64 0, .int .i64 0, .int .i64 5, .int .i64 5, .int .i64 0, .int .i64 0] by rw [hW0]; exact (Blk.new _ _ _).alloc _)
  have HB0 := Lib.hid (show Blk W0 (w.heap.size + 1) 39 #[.int .i64 0, .int .i64 0, .int .i64 0, .int .i64 0, .int .i64 0, .int .i64 0, .int .i64 0, .slice none 0 0, .int .i64 0, .bool false, .int .i64 0, .int .i64 0, .int .i64 0, .slice none 0 0, .slice none 0 0] by rw [hW0]; exact Blk.new' _ _ _ (by simp))
  have HR := Lib.hid hR
  have HW0 := Lib.hid hW0
  clear hW0 hR
  go_enter Tryz.func9, Tryz.ntmps9
  go_wp2_with fail
  rw [← HW0.out]
  refine (storeAt1 _ b g0 c0 1 (by omega) (hL.ext HE0.out)).mono ?_
  rintro e W1 ⟨rfl, hs, hb1⟩
  have HS1 := Lib.hid (show StateIs W1 true (W0.heap.size + 1) W0.heap.size 1 from hs)
  have HE1 := Lib.hid (ext_call HE0.out hb1)
  have HQ1 := Lib.hid (HQ0.out.ext hb1)
  have HB1 := Lib.hid (HB0.out.ext hb1)
  obtain ⟨q0, q1, q2, q3, q4, q5, q6⟩ := cells7 HQ1.out
  clear hb1 hs hL HW0 HE0 HQ0 HB0
  generalize W0.heap.size = gm at *
  go_wp2_with fail
  refine (make1 (gm + 1) gm 1 W1 HS1.out (HR.out.below HE1.out)).mono ?_
  rintro e Y ⟨v, rfl, hra, hb2⟩
  obtain ⟨gR, cR, vr, us, rfl, hcR, hgR, hrp⟩ := hra
  obtain ⟨g1, k1, g2, k2, A, n, l, rfl⟩ := RP1.lit hrp
  have HEy := Lib.hid (ext_call HE1.out hb2)
  have HQy := Lib.hid (HQ1.out.ext hb2)
  have HBy := Lib.hid (HB1.out.ext hb2)
  have HBu := Lib.hid (show ∀ W : World, Below Y.heap.size Y W → Calls Tryz.prog 27 #[.agg #[.int .i64 1, .int .i64 0, .int .i64 0, .int .i64 5, .int .i64 5, .int .i64 0, .int .i64 0, .int .i64 0, .int .i64 1, .slice (some ⟨gR, 0, none⟩) 1 cR], .slice (some ⟨g0, 0, none⟩) 0 0] W fun e w' => ∃ va, e = .returned (.tuple #[.agg va, .bool true]) ∧ AnsAt true w' va ∧ Below W.heap.size W w' from
    fun W h => build1 gR cR g1 k1 g2 k2 A n l us (some ⟨g0, 0, none⟩) 0 W hcR (hgR.ext h) (RPx.ext (one := true) hrp h))
  clear hb2 hcR hgR hrp q0 q1 q2 q3 q4 q5 q6 HE1 HQ1 HB1 HS1
  have HK := Lib.hid (q7Keep HQy.out (ext_refl Y))
  go_upto_region 3 with (fail)
  go_region_held3 (fun w' => w'.cell? ⟨w.heap.size, 0, none⟩ = some (.int .i64 1) ∧ w'.cell? ⟨w.heap.size, 1, none⟩ = some (.int .i64 0) ∧ w'.cell? ⟨w.heap.size, 2, none⟩ = some (.int .i64 0) ∧ w'.cell? ⟨w.heap.size, 3, none⟩ = some (.int .i64 5) ∧ w'.cell? ⟨w.heap.size, 4, none⟩ = some (.int .i64 5) ∧ w'.cell? ⟨w.heap.size, 5, none⟩ = some (.int .i64 0) ∧ w'.cell? ⟨w.heap.size, 6, none⟩ = some (.int .i64 0) ∧ Below Y.heap.size Y w')
    (first | with_reducible assumption | exact q7Keep HQy.out (by repeat (first | with_reducible refine ext_alloc ?_ _ | with_reducible refine Below.drew ?_ | with_reducible assumption | with_reducible exact ext_refl _ | refine ext_set ?_ (Nat.le_refl _) _)))
    (first | (go_at_call 27; (with_reducible refine (HBu.out _ ?_).mono ?_); (exact q7B (by assumption)); rintro e Z ⟨va, rfl, han, hb'⟩; obtain ⟨gr, kr, g, d, B, m, rfl, _⟩ := han.lit; have hYZ := ext_call (q7B (by assumption)) hb'; try (have hbx := (show Blk Z Y.heap.size 39 #[.int .i64 0, .int .i64 0, .int .i64 0, .int .i64 0, .int .i64 0, .int .i64 0, .int .i64 0, .slice none 0 0, .int .i64 0, .bool false, .int .i64 0, .int .i64 0, .int .i64 0, .slice none 0 0, .slice none 0 0] from ((Blk.new Y _ _).drew).ext hb'); have bx0 := hbx.cell 0; have bf0 := hbx.frozen 0; have bx1 := hbx.cell 1; have bf1 := hbx.frozen 1; have bx2 := hbx.cell 2; have bf2 := hbx.frozen 2; have bx3 := hbx.cell 3; have bf3 := hbx.frozen 3; have bx4 := hbx.cell 4; have bf4 := hbx.frozen 4; have bx5 := hbx.cell 5; have bf5 := hbx.frozen 5; have bx6 := hbx.cell 6; have bf6 := hbx.frozen 6; have bx7 := hbx.cell 7; have bf7 := hbx.frozen 7; have bx8 := hbx.cell 8; have bf8 := hbx.frozen 8; have bx9 := hbx.cell 9; have bf9 := hbx.frozen 9; have bx10 := hbx.cell 10; have bf10 := hbx.frozen 10; have bx11 := hbx.cell 11; have bf11 := hbx.frozen 11; have bx12 := hbx.cell 12; have bf12 := hbx.frozen 12; have bx13 := hbx.cell 13; have bf13 := hbx.frozen 13; have bx14 := hbx.cell 14; have bf14 := hbx.frozen 14; have HBX := Lib.hid hbx; clear hbx)))
  all_goals
    first
    | (generalize hV : (World.setCell (World.setCell (World.setCell (World.setCell (World.setCell (World.setCell (World.setCell (World.setCell (World.setCell (World.setCell (World.setCell (World.setCell (World.setCell (World.setCell (World.setCell Z ⟨Y.heap.size, 0, none⟩ (.int .i64 1)) ⟨Y.heap.size, 1, none⟩ (.int .i64 0)) ⟨Y.heap.size, 2, none⟩ (.int .i64 0)) ⟨Y.heap.size, 3, none⟩ (.int .i64 5)) ⟨Y.heap.size, 4, none⟩ (.int .i64 5)) ⟨Y.heap.size, 5, none⟩ (.int .i64 0)) ⟨Y.heap.size, 6, none⟩ (.int .i64 0)) ⟨Y.heap.size, 7, none⟩ (.slice (some ⟨gr, 0, none⟩) 1 kr)) ⟨Y.heap.size, 8, none⟩ (.int .i64 0)) ⟨Y.heap.size, 9, none⟩ (.bool false)) ⟨Y.heap.size, 10, none⟩ (.int .i64 1)) ⟨Y.heap.size, 11, none⟩ (.int .i64 1)) ⟨Y.heap.size, 12, none⟩ (.int .i64 1)) ⟨Y.heap.size, 13, none⟩ (.slice (some ⟨g, 0, none⟩) 1 d)) ⟨Y.heap.size, 14, none⟩ (.slice B 0 m)) = V
       have HPv := Lib.hid (show Blk V Y.heap.size 39 #[.int .i64 1, .int .i64 0, .int .i64 0, .int .i64 5, .int .i64 5, .int .i64 0, .int .i64 0, .slice (some ⟨gr, 0, none⟩) 1 kr, .int .i64 0, .bool false, .int .i64 1, .int .i64 1, .int .i64 1, .slice (some ⟨g, 0, none⟩) 1 d, .slice B 0 m] by subst hV; exact blk_set15 HBX.out)
       have HEv := Lib.hid (show Below Y.heap.size Y V by subst hV; exact ext_set15 hYZ (Nat.le_refl _))
       have HAv := Lib.hid (show AnsAt true V #[.int .i64 1, .int .i64 0, .int .i64 0, .int .i64 5, .int .i64 5, .int .i64 0, .int .i64 0, .slice (some ⟨gr, 0, none⟩) 1 kr, .int .i64 0, .bool false, .int .i64 1, .int .i64 1, .int .i64 1, .slice (some ⟨g, 0, none⟩) 1 d, .slice B 0 m] by subst hV; exact han.keepB HBX.out (by simp [noStr]) (ext2_set15 _ _ _ _ _ _ _ _ _ _ _ _ _ _ _ _ _))
       clear bx0 bf0 bx1 bf1 bx2 bf2 bx3 bf3 bx4 bf4 bx5 bf5 bx6 bf6 bx7 bf7 bx8 bf8 bx9 bf9 bx10 bf10 bx11 bf11 bx12 bf12 bx13 bf13 bx14 bf14
       clear hV HBX hYZ han hb'
       generalize hbq : Y.heap.size = bq at HPv ⊢
       clear hbq)
    | (generalize hV : World.alloc Z (.cells #[.int .i64 1, .int .i64 0, .int .i64 0, .int .i64 5, .int .i64 5, .int .i64 0, .int .i64 0, .slice (some ⟨gr, 0, none⟩) 1 kr, .int .i64 0, .bool false, .int .i64 1, .int .i64 1, .int .i64 1, .slice (some ⟨g, 0, none⟩) 1 d, .slice B 0 m] 39) = V
       have HPv := Lib.hid (show Blk V Z.heap.size 39 #[.int .i64 1, .int .i64 0, .int .i64 0, .int .i64 5, .int .i64 5, .int .i64 0, .int .i64 0, .slice (some ⟨gr, 0, none⟩) 1 kr, .int .i64 0, .bool false, .int .i64 1, .int .i64 1, .int .i64 1, .slice (some ⟨g, 0, none⟩) 1 d, .slice B 0 m] by subst hV; exact Blk.new _ _ _)
       have HEv := Lib.hid (show Below Y.heap.size Y V by subst hV; exact ext_alloc hYZ _)
       have HAv := Lib.hid (show AnsAt true V #[.int .i64 1, .int .i64 0, .int .i64 0, .int .i64 5, .int .i64 5, .int .i64 0, .int .i64 0, .slice (some ⟨gr, 0, none⟩) 1 kr, .int .i64 0, .bool false, .int .i64 1, .int .i64 1, .int .i64 1, .slice (some ⟨g, 0, none⟩) 1 d, .slice B 0 m] by subst hV; exact han.ext (ext_new _ _))
       clear hV hYZ han hb'
       generalize hbq : Z.heap.size = bq at HPv ⊢
       clear hbq)
  all_goals
    have HRv := Lib.hid (HBy.out.ext HEv.out)
    have HEw := Lib.hid (ext_call HEy.out HEv.out)
    have HI := Lib.hid ans_size
    have H1 := Lib.hid (show (#[.int .i64 1, .int .i64 0, .int .i64 0, .int .i64 5, .int .i64 5, .int .i64 0, .int .i64 0, .slice (some ⟨gr, 0, none⟩) 1 kr, .int .i64 0, .bool false, .int .i64 1, .int .i64 1, .int .i64 1, .slice (some ⟨g, 0, none⟩) 1 d, .slice B 0 m] : Array Value).all (·.oneCell') = true by simp [Value.oneCell'])
    clear HBy HEy HQy HEv HK HBu
    go_upto_region 4 with (fail)
    go_wp2_with (first
      | (refine wpList_load_row rfl 39 (.tmp 14) rfl bq rfl 39 #[.int .i64 1, .int .i64 0, .int .i64 0, .int .i64 5, .int .i64 5, .int .i64 0, .int .i64 0, .slice (some ⟨gr, 0, none⟩) 1 kr, .int .i64 0, .bool false, .int .i64 1, .int .i64 1, .int .i64 1, .slice (some ⟨g, 0, none⟩) 1 d, .slice B 0 m] (0, 0) _ HPv.out Tryz.underlying39 rfl HI.out ?_)
      | (refine wpList_store_blk rfl 39 (.tmp 8) (.tmp 40) rfl (w.heap.size + 1) #[.int .i64 1, .int .i64 0, .int .i64 0, .int .i64 5, .int .i64 5, .int .i64 0, .int .i64 0, .slice (some ⟨gr, 0, none⟩) 1 kr, .int .i64 0, .bool false, .int .i64 1, .int .i64 1, .int .i64 1, .slice (some ⟨g, 0, none⟩) 1 d, .slice B 0 m] rfl rfl 39 #[.int .i64 0, .int .i64 0, .int .i64 0, .int .i64 0, .int .i64 0, .int .i64 0, .int .i64 0, .slice none 0 0, .int .i64 0, .bool false, .int .i64 0, .int .i64 0, .int .i64 0, .slice none 0 0, .slice none 0 0] HRv.out HI.out rfl H1.out ?_; intro X hbx hgx))
    have hX := Ext2.of_grown hgx
    obtain ⟨y0, y1, y2, y3, y4, y5, y6, y7, y8, y9, y10, y11, y12, y13, y14⟩ := cells15 hbx
    refine bodyPost_ret (v := .tuple #[.agg #[.int .i64 1, .int .i64 0, .int .i64 0, .int .i64 5, .int .i64 5, .int .i64 0, .int .i64 0, .slice (some ⟨gr, 0, none⟩) 1 kr, .int .i64 0, .bool false, .int .i64 1, .int .i64 1, .int .i64 1, .slice (some ⟨g, 0, none⟩) 1 d, .slice B 0 m], .bool true]) (by simp [results, Tryz.results9, go_sem, y0, y1, y2, y3, y4, y5, y6, y7, y8, y9, y10, y11, y12, y13, y14]) rfl ⟨#[.int .i64 1, .int .i64 0, .int .i64 0, .int .i64 5, .int .i64 5, .int .i64 0, .int .i64 0, .slice (some ⟨gr, 0, none⟩) 1 kr, .int .i64 0, .bool false, .int .i64 1, .int .i64 1, .int .i64 1, .slice (some ⟨g, 0, none⟩) 1 d, .slice B 0 m], rfl, ?_, ?_⟩
    · exact HAv.out.keepB HRv.out (by simp [noStr]) hX
    · exact Ext2.below HEw.out (by omega) (by omega) hX

set_option maxRecDepth 100000 in
set_option maxHeartbeats 4000000 in
theorem answer0  (w : World)  (hR : RoundOK w) :
    Calls Tryz.prog 9 #[.slice none 0 0, .int .i64 0, .int .i64 0, .agg #[.int .i64 3, .int .i64 0, .int .i64 0, .int .i64 0, .int .i64 0, .int .i64 0, .int .i64 0]] w fun e w' => ∃ va, e = .returned (.tuple #[.agg va, .bool true]) ∧ AnsAt false w' va ∧ Below w.heap.size w w' := by
  obtain ⟨W0, hW0⟩ : ∃ W0, W0 = (w.alloc (.cells #[.int .i64 3, .int .i64 0, .int .i64 0, .int .i64 0, .int .i64 0, .int .i64 0, .int .i64 0] 33)).alloc (.cells #[.int .i64 0, .int .i64 0, .int .i64 0, .int .i64 0, .int .i64 0, .int .i64 0, .int .i64 0, .slice none 0 0, .int .i64 0, .bool false, .int .i64 0, .int .i64 0, .int .i64 0, .slice none 0 0, .slice none 0 0] 39) := ⟨_, rfl⟩
  have HE0 := Lib.hid (show Below w.heap.size w W0 by rw [hW0]; exact ext_alloc (ext_new _ _) _)
  have HQ0 := Lib.hid (show Blk W0 w.heap.size 33 #[.int .i64 3, .int .i64 0, .int .i64 0, .int .i64 0, .int .i64 0, .int .i64 0, .int .i64 0] by rw [hW0]; exact (Blk.new _ _ _).alloc _)
  have HB0 := Lib.hid (show Blk W0 (w.heap.size + 1) 39 #[.int .i64 0, .int .i64 0, .int .i64 0, .int .i64 0, .int .i64 0, .int .i64 0, .int .i64 0, .slice none 0 0, .int .i64 0, .bool false, .int .i64 0, .int .i64 0, .int .i64 0, .slice none 0 0, .slice none 0 0] by rw [hW0]; exact Blk.new' _ _ _ (by simp))
  have HR := Lib.hid hR
  have HW0 := Lib.hid hW0
  clear hW0 hR
  go_enter Tryz.func9, Tryz.ntmps9
  go_wp2_with fail
  rw [← HW0.out]
  refine (storeAt0 _ _ rfl).mono ?_
  rintro e W1 ⟨rfl, hs, hb1⟩
  have HS1 := Lib.hid (show StateIs W1 false (W0.heap.size + 1) W0.heap.size 0 from hs)
  have HE1 := Lib.hid (ext_call HE0.out hb1)
  have HQ1 := Lib.hid (HQ0.out.ext hb1)
  have HB1 := Lib.hid (HB0.out.ext hb1)
  obtain ⟨q0, q1, q2, q3, q4, q5, q6⟩ := cells7 HQ1.out
  clear hb1 hs  HW0 HE0 HQ0 HB0
  generalize W0.heap.size = gm at *
  go_wp2_with fail
  refine (make0 (gm + 1) gm 0 W1 HS1.out (HR.out.below HE1.out)).mono ?_
  rintro e Y ⟨v, rfl, hra, hb2⟩
  obtain ⟨gR, cR, vr, us, rfl, hcR, hgR, hrp⟩ := hra
  obtain ⟨A, n, l, rfl⟩ := RP0.lit hrp
  have HEy := Lib.hid (ext_call HE1.out hb2)
  have HQy := Lib.hid (HQ1.out.ext hb2)
  have HBy := Lib.hid (HB1.out.ext hb2)
  have HBu := Lib.hid (show ∀ W : World, Below Y.heap.size Y W → Calls Tryz.prog 27 #[.agg #[.int .i64 3, .int .i64 0, .int .i64 0, .int .i64 0, .int .i64 0, .int .i64 0, .int .i64 0, .int .i64 0, .int .i64 0, .slice (some ⟨gR, 0, none⟩) 1 cR], .slice none 0 0] W fun e w' => ∃ va, e = .returned (.tuple #[.agg va, .bool true]) ∧ AnsAt false w' va ∧ Below W.heap.size W w' from
    fun W h => build0 gR cR A n l us none 0 W hcR (hgR.ext h) (RPx.ext (one := false) hrp h))
  clear hb2 hcR hgR hrp q0 q1 q2 q3 q4 q5 q6 HE1 HQ1 HB1 HS1
  have HK := Lib.hid (q7Keep HQy.out (ext_refl Y))
  go_upto_region 3 with (fail)
  go_region_held3 (fun w' => w'.cell? ⟨w.heap.size, 0, none⟩ = some (.int .i64 3) ∧ w'.cell? ⟨w.heap.size, 1, none⟩ = some (.int .i64 0) ∧ w'.cell? ⟨w.heap.size, 2, none⟩ = some (.int .i64 0) ∧ w'.cell? ⟨w.heap.size, 3, none⟩ = some (.int .i64 0) ∧ w'.cell? ⟨w.heap.size, 4, none⟩ = some (.int .i64 0) ∧ w'.cell? ⟨w.heap.size, 5, none⟩ = some (.int .i64 0) ∧ w'.cell? ⟨w.heap.size, 6, none⟩ = some (.int .i64 0) ∧ Below Y.heap.size Y w')
    (first | with_reducible assumption | exact q7Keep HQy.out (by repeat (first | with_reducible refine ext_alloc ?_ _ | with_reducible refine Below.drew ?_ | with_reducible assumption | with_reducible exact ext_refl _ | refine ext_set ?_ (Nat.le_refl _) _)))
    (first | (go_at_call 27; (with_reducible refine (HBu.out _ ?_).mono ?_); (exact q7B (by assumption)); rintro e Z ⟨va, rfl, han, hb'⟩; obtain ⟨g, d, B, m, rfl⟩ := han.lit0; have hYZ := ext_call (q7B (by assumption)) hb'; try (have hbx := (show Blk Z Y.heap.size 39 #[.int .i64 0, .int .i64 0, .int .i64 0, .int .i64 0, .int .i64 0, .int .i64 0, .int .i64 0, .slice none 0 0, .int .i64 0, .bool false, .int .i64 0, .int .i64 0, .int .i64 0, .slice none 0 0, .slice none 0 0] from ((Blk.new Y _ _).drew).ext hb'); have bx0 := hbx.cell 0; have bf0 := hbx.frozen 0; have bx1 := hbx.cell 1; have bf1 := hbx.frozen 1; have bx2 := hbx.cell 2; have bf2 := hbx.frozen 2; have bx3 := hbx.cell 3; have bf3 := hbx.frozen 3; have bx4 := hbx.cell 4; have bf4 := hbx.frozen 4; have bx5 := hbx.cell 5; have bf5 := hbx.frozen 5; have bx6 := hbx.cell 6; have bf6 := hbx.frozen 6; have bx7 := hbx.cell 7; have bf7 := hbx.frozen 7; have bx8 := hbx.cell 8; have bf8 := hbx.frozen 8; have bx9 := hbx.cell 9; have bf9 := hbx.frozen 9; have bx10 := hbx.cell 10; have bf10 := hbx.frozen 10; have bx11 := hbx.cell 11; have bf11 := hbx.frozen 11; have bx12 := hbx.cell 12; have bf12 := hbx.frozen 12; have bx13 := hbx.cell 13; have bf13 := hbx.frozen 13; have bx14 := hbx.cell 14; have bf14 := hbx.frozen 14; have HBX := Lib.hid hbx; clear hbx)))
  all_goals
    first
    | (generalize hV : (World.setCell (World.setCell (World.setCell (World.setCell (World.setCell (World.setCell (World.setCell (World.setCell (World.setCell (World.setCell (World.setCell (World.setCell (World.setCell (World.setCell (World.setCell Z ⟨Y.heap.size, 0, none⟩ (.int .i64 3)) ⟨Y.heap.size, 1, none⟩ (.int .i64 0)) ⟨Y.heap.size, 2, none⟩ (.int .i64 0)) ⟨Y.heap.size, 3, none⟩ (.int .i64 0)) ⟨Y.heap.size, 4, none⟩ (.int .i64 0)) ⟨Y.heap.size, 5, none⟩ (.int .i64 0)) ⟨Y.heap.size, 6, none⟩ (.int .i64 0)) ⟨Y.heap.size, 7, none⟩ (.slice none 0 0)) ⟨Y.heap.size, 8, none⟩ (.int .i64 0)) ⟨Y.heap.size, 9, none⟩ (.bool false)) ⟨Y.heap.size, 10, none⟩ (.int .i64 0)) ⟨Y.heap.size, 11, none⟩ (.int .i64 0)) ⟨Y.heap.size, 12, none⟩ (.int .i64 0)) ⟨Y.heap.size, 13, none⟩ (.slice (some ⟨g, 0, none⟩) 1 d)) ⟨Y.heap.size, 14, none⟩ (.slice B 0 m)) = V
       have HPv := Lib.hid (show Blk V Y.heap.size 39 #[.int .i64 3, .int .i64 0, .int .i64 0, .int .i64 0, .int .i64 0, .int .i64 0, .int .i64 0, .slice none 0 0, .int .i64 0, .bool false, .int .i64 0, .int .i64 0, .int .i64 0, .slice (some ⟨g, 0, none⟩) 1 d, .slice B 0 m] by subst hV; exact blk_set15 HBX.out)
       have HEv := Lib.hid (show Below Y.heap.size Y V by subst hV; exact ext_set15 hYZ (Nat.le_refl _))
       have HAv := Lib.hid (show AnsAt false V #[.int .i64 3, .int .i64 0, .int .i64 0, .int .i64 0, .int .i64 0, .int .i64 0, .int .i64 0, .slice none 0 0, .int .i64 0, .bool false, .int .i64 0, .int .i64 0, .int .i64 0, .slice (some ⟨g, 0, none⟩) 1 d, .slice B 0 m] by subst hV; exact han.keepB HBX.out (by simp [noStr]) (ext2_set15 _ _ _ _ _ _ _ _ _ _ _ _ _ _ _ _ _))
       clear bx0 bf0 bx1 bf1 bx2 bf2 bx3 bf3 bx4 bf4 bx5 bf5 bx6 bf6 bx7 bf7 bx8 bf8 bx9 bf9 bx10 bf10 bx11 bf11 bx12 bf12 bx13 bf13 bx14 bf14
       clear hV HBX hYZ han hb'
       generalize hbq : Y.heap.size = bq at HPv ⊢
       clear hbq)
    | (generalize hV : World.alloc Z (.cells #[.int .i64 3, .int .i64 0, .int .i64 0, .int .i64 0, .int .i64 0, .int .i64 0, .int .i64 0, .slice none 0 0, .int .i64 0, .bool false, .int .i64 0, .int .i64 0, .int .i64 0, .slice (some ⟨g, 0, none⟩) 1 d, .slice B 0 m] 39) = V
       have HPv := Lib.hid (show Blk V Z.heap.size 39 #[.int .i64 3, .int .i64 0, .int .i64 0, .int .i64 0, .int .i64 0, .int .i64 0, .int .i64 0, .slice none 0 0, .int .i64 0, .bool false, .int .i64 0, .int .i64 0, .int .i64 0, .slice (some ⟨g, 0, none⟩) 1 d, .slice B 0 m] by subst hV; exact Blk.new _ _ _)
       have HEv := Lib.hid (show Below Y.heap.size Y V by subst hV; exact ext_alloc hYZ _)
       have HAv := Lib.hid (show AnsAt false V #[.int .i64 3, .int .i64 0, .int .i64 0, .int .i64 0, .int .i64 0, .int .i64 0, .int .i64 0, .slice none 0 0, .int .i64 0, .bool false, .int .i64 0, .int .i64 0, .int .i64 0, .slice (some ⟨g, 0, none⟩) 1 d, .slice B 0 m] by subst hV; exact han.ext (ext_new _ _))
       clear hV hYZ han hb'
       generalize hbq : Z.heap.size = bq at HPv ⊢
       clear hbq)
  all_goals
    have HRv := Lib.hid (HBy.out.ext HEv.out)
    have HEw := Lib.hid (ext_call HEy.out HEv.out)
    have HI := Lib.hid ans_size
    have H1 := Lib.hid (show (#[.int .i64 3, .int .i64 0, .int .i64 0, .int .i64 0, .int .i64 0, .int .i64 0, .int .i64 0, .slice none 0 0, .int .i64 0, .bool false, .int .i64 0, .int .i64 0, .int .i64 0, .slice (some ⟨g, 0, none⟩) 1 d, .slice B 0 m] : Array Value).all (·.oneCell') = true by simp [Value.oneCell'])
    clear HBy HEy HQy HEv HK HBu
    go_upto_region 4 with (fail)
    go_wp2_with (first
      | (refine wpList_load_row rfl 39 (.tmp 14) rfl bq rfl 39 #[.int .i64 3, .int .i64 0, .int .i64 0, .int .i64 0, .int .i64 0, .int .i64 0, .int .i64 0, .slice none 0 0, .int .i64 0, .bool false, .int .i64 0, .int .i64 0, .int .i64 0, .slice (some ⟨g, 0, none⟩) 1 d, .slice B 0 m] (0, 0) _ HPv.out Tryz.underlying39 rfl HI.out ?_)
      | (refine wpList_store_blk rfl 39 (.tmp 8) (.tmp 40) rfl (w.heap.size + 1) #[.int .i64 3, .int .i64 0, .int .i64 0, .int .i64 0, .int .i64 0, .int .i64 0, .int .i64 0, .slice none 0 0, .int .i64 0, .bool false, .int .i64 0, .int .i64 0, .int .i64 0, .slice (some ⟨g, 0, none⟩) 1 d, .slice B 0 m] rfl rfl 39 #[.int .i64 0, .int .i64 0, .int .i64 0, .int .i64 0, .int .i64 0, .int .i64 0, .int .i64 0, .slice none 0 0, .int .i64 0, .bool false, .int .i64 0, .int .i64 0, .int .i64 0, .slice none 0 0, .slice none 0 0] HRv.out HI.out rfl H1.out ?_; intro X hbx hgx))
    have hX := Ext2.of_grown hgx
    obtain ⟨y0, y1, y2, y3, y4, y5, y6, y7, y8, y9, y10, y11, y12, y13, y14⟩ := cells15 hbx
    refine bodyPost_ret (v := .tuple #[.agg #[.int .i64 3, .int .i64 0, .int .i64 0, .int .i64 0, .int .i64 0, .int .i64 0, .int .i64 0, .slice none 0 0, .int .i64 0, .bool false, .int .i64 0, .int .i64 0, .int .i64 0, .slice (some ⟨g, 0, none⟩) 1 d, .slice B 0 m], .bool true]) (by simp [results, Tryz.results9, go_sem, y0, y1, y2, y3, y4, y5, y6, y7, y8, y9, y10, y11, y12, y13, y14]) rfl ⟨#[.int .i64 3, .int .i64 0, .int .i64 0, .int .i64 0, .int .i64 0, .int .i64 0, .int .i64 0, .slice none 0 0, .int .i64 0, .bool false, .int .i64 0, .int .i64 0, .int .i64 0, .slice (some ⟨g, 0, none⟩) 1 d, .slice B 0 m], rfl, ?_, ?_⟩
    · exact HAv.out.keepB HRv.out (by simp [noStr]) hX
    · exact Ext2.below HEw.out (by omega) (by omega) hX

end Go.Proofs.YtimoapjhepmehaaGreatDoor

/-
  package cachetierlaw29: grown.
-/
namespace Go.Proofs.YtimoapjhepmehaaGreatDoor
open Go.RowKit
attribute [local go_sem ↓] Go.wp_at_zero Go.wp_at_succ

theorem blk_map_ne {W : World} {a g c : Nat} {t : TypeId} {xs : Array Value} {es : Array MapEntry} (h : Blk W a t xs) (k : MapAt W g es c) : a ≠ g := by
  rintro rfl
  unfold Blk at h
  unfold MapAt at k
  rw [h] at k
  cases k
theorem grF {X W : World} {g0 gl : Nat} {a b : Value} (h : Blk X g0 75 #[a, b] ∧ g0 ≠ gl) (k : Ext2 gl gl X W) : W.cell? ⟨g0, 0, none⟩ = some a ∧ W.cell? ⟨g0, 1, none⟩ = some b ∧ Ext2 gl gl X W :=
  ⟨(h.1.ext2 k h.2 h.2).cell 0, (h.1.ext2 k h.2 h.2).cell 1, k⟩
theorem cells2 {w : World} {g : Nat} {t : TypeId} {a0 a1 : Value} (h : Blk w g t #[a0, a1]) : w.cell? ⟨g, 0, none⟩ = some a0 ∧ w.cell? ⟨g, 1, none⟩ = some a1 := ⟨h.cell 0, h.cell 1⟩

set_option maxRecDepth 100000 in
set_option maxHeartbeats 1000000 in
theorem grown0 (g0 c : Nat) (w : World) (hR : RoundOK w) :
    Calls Tryz.prog 21 #[.slice (some ⟨g0, 0, none⟩) 1 c, .int .i64 0] w fun e w' => ∃ gl, e = .returned (.pointer (some ⟨gl, 0, none⟩)) ∧ Log0 w' gl zeros32 (stateF false) ∧ w.heap.size ≤ gl ∧ Below w.heap.size w w' := by
  have HR := Lib.hid hR
  clear hR
  go_enter Tryz.func21, Tryz.ntmps21
  go_wp2_with fail
  refine (storeNew w).mono ?_
  rintro e W1 ⟨rfl, hw⟩
  have HE1 := Lib.hid (show Below w.heap.size w W1 by rw [← hw]; exact ext_alloc (ext_new _ _) _)
  have HS1 := Lib.hid (show StateIs W1 false (w.heap.size + 1) w.heap.size 0 by rw [← hw]; exact ⟨Blk.new' _ _ _ (by simp), (MapAt.new w).alloc _⟩)
  clear hw
  go_wp2_with fail
  refine (stateRoot false _ _ 0 W1 HS1.out (HR.out.below HE1.out)).mono ?_
  rintro e W2 ⟨rfl, hb2⟩
  have HE2 := Lib.hid (ext_call HE1.out hb2)
  clear hb2
  go_wp2_with fail
  refine (logNew (stateF false) (stateF_size false) W2).mono ?_
  rintro e W3 ⟨gl, rfl, hl, hge, hb3⟩
  have HE3 := Lib.hid (ext_call HE2.out hb3)
  have HL3 := Lib.hid hl
  have HGe := Lib.hid (Nat.le_trans HE2.out.size hge)
  clear hb3 hl hge
  go_wp2
  refine wp_loop_rounds 1 ?_
  rw [rounds_succ]
  go_wp2
  go_ret
  exact ⟨gl, rfl, HL3.out, HGe.out, HE3.out⟩

set_option maxRecDepth 100000 in
set_option maxHeartbeats 1000000 in
theorem grown1 (b g0 c0 c : Nat) (w : World) (hL : LogAt w b g0 c0) (hR : RoundOK w) :
    Calls Tryz.prog 21 #[.slice (some ⟨g0, 0, none⟩) 1 c, .int .i64 1] w fun e w' => ∃ gl, e = .returned (.pointer (some ⟨gl, 0, none⟩)) ∧ Log1 w' gl zeros32 (stateF false) (chainF zeros32 recEnc) (stateF true) ∧ w.heap.size ≤ gl ∧ Below w.heap.size w w' := by
  have HR := Lib.hid hR
  have HL := Lib.hid hL
  clear hR hL
  go_enter Tryz.func21, Tryz.ntmps21
  go_wp2_with fail
  refine (storeNew w).mono ?_
  rintro e W1 ⟨rfl, hw⟩
  have HE1 := Lib.hid (show Below w.heap.size w W1 by rw [← hw]; exact ext_alloc (ext_new _ _) _)
  have HS1 := Lib.hid (show StateIs W1 false (w.heap.size + 1) w.heap.size 0 by rw [← hw]; exact ⟨Blk.new' _ _ _ (by simp), (MapAt.new w).alloc _⟩)
  clear hw
  go_wp2_with fail
  refine (stateRoot false _ _ 0 W1 HS1.out (HR.out.below HE1.out)).mono ?_
  rintro e W2 ⟨rfl, hb2⟩
  have HE2 := Lib.hid (ext_call HE1.out hb2)
  go_wp2_with fail
  refine (logNew (stateF false) (stateF_size false) W2).mono ?_
  rintro e W3 ⟨gl, rfl, hl, hge, hb3⟩
  have HE3 := Lib.hid (ext_call HE2.out hb3)
  have HS3 := Lib.hid ((HS1.out.ext (show Below W1.heap.size W1 W2 from by assumption)).ext hb3)
  have HL3 := Lib.hid hl
  have HGe := Lib.hid (Nat.le_trans HE2.out.size hge)
  have HGl := Lib.hid (show w.heap.size + 1 < gl from Nat.lt_of_lt_of_le (HS1.out.ext (show Below W1.heap.size W1 W2 from by assumption)).1.lt hge)
  clear hb3 hl hge hb2
  obtain ⟨r0, r1⟩ := cells2 (HL.out.ext HE3.out).1
  have HLg := Lib.hid ((HL.out.ext HE3.out).2)
  go_wp2
  refine wp_loop_rounds 2 ?_
  rw [rounds_succ]
  go_wp2_with fail
  refine (apply_one W3 b c0 _ _ HLg.out HS3.out).mono ?_
  rintro e W4 ⟨rfl, hs4, hx4⟩
  -- TAIL
  have hne1 : gl ≠ w.heap.size + 1 := by have := HGl.out; omega
  have hne2 : gl ≠ w.heap.size := by have := HGl.out; omega
  obtain ⟨gh, l1, l2⟩ := HL3.out
  have HL4 := Lib.hid (show Log0 W4 gl zeros32 (stateF false) from ⟨gh, l1.ext2 hx4 hne1 hne2, l2.ext2 hx4 (blk_ne l2 HS3.out.1 (by decide)) (blk_map_ne l2 HS3.out.2)⟩)
  have HS4 := Lib.hid (show StateIs W4 true (w.heap.size + 1) w.heap.size 1 from hs4)
  have HE4 := Lib.hid (Ext2.below HE3.out (by omega) (Nat.le_refl _) hx4)
  have hrec := (HL.out.ext HE4.out).1
  have HLg4 := Lib.hid (HL.out.ext HE4.out).2
  have hlt : g0 < w.heap.size := HL.out.1.lt
  have HX := Lib.hid (And.intro hrec (show g0 ≠ gl by have := HGe.out; omega))
  clear r0 r1 l1 l2 hs4 hx4 hne1 hne2 hrec hlt
  obtain ⟨r0, r1⟩ := cells2 HX.out.1
  go_wp2
  refine wp_region_L (fun w' => w'.cell? ⟨g0, 0, none⟩ = some (.int .i64 1) ∧ w'.cell? ⟨g0, 1, none⟩ = some (.slice (some ⟨b, 0, none⟩) 1 c0) ∧ Ext2 gl gl W4 w') (fun w' => Below W4.heap.size W4 w') [7] (by kernel_rfl) ?_
  refine takeF 0 (v := ?_) rfl (by kernel_rfl) (by kernel_rfl) (by kernel_rfl) (by kernel_rfl) (fun _ _ _ h => h) (Or.inl ⟨by rfl, ?_⟩) (grF HX.out (by repeat (first | with_reducible refine Ext2.alloc ?_ _ | with_reducible refine Ext2.drew1 ?_ | with_reducible assumption | with_reducible exact Ext2.refl _ _ _))) (fun _ => (by repeat (first | with_reducible refine ext_alloc ?_ _ | with_reducible refine Below.drew ?_ | with_reducible assumption | with_reducible exact ext_refl _))) ?_
  rotate_left 1
  · (rintro w' ⟨f0, f1, _⟩; go_simp; with_reducible rfl)
  refine takeF 1 (v := ?_) rfl (by kernel_rfl) (by kernel_rfl) (by kernel_rfl) (by kernel_rfl) (fun _ _ _ h => h) (Or.inl ⟨by rfl, ?_⟩) (grF HX.out (by repeat (first | with_reducible refine Ext2.alloc ?_ _ | with_reducible refine Ext2.drew1 ?_ | with_reducible assumption | with_reducible exact Ext2.refl _ _ _))) (fun _ => (by repeat (first | with_reducible refine ext_alloc ?_ _ | with_reducible refine Below.drew ?_ | with_reducible assumption | with_reducible exact ext_refl _))) ?_
  rotate_left 1
  · (rintro w' ⟨f0, f1, _⟩; go_simp; with_reducible rfl)
  refine takeF 2 (v := ?_) rfl (by kernel_rfl) (by kernel_rfl) (by kernel_rfl) (by kernel_rfl) (fun _ _ _ h => h) (Or.inl ⟨by rfl, ?_⟩) (grF HX.out (by repeat (first | with_reducible refine Ext2.alloc ?_ _ | with_reducible refine Ext2.drew1 ?_ | with_reducible assumption | with_reducible exact Ext2.refl _ _ _))) (fun _ => (by repeat (first | with_reducible refine ext_alloc ?_ _ | with_reducible refine Below.drew ?_ | with_reducible assumption | with_reducible exact ext_refl _))) ?_
  rotate_left 1
  · (rintro w' ⟨f0, f1, _⟩; go_simp; with_reducible rfl)
  refine takeF 3 (v := ?_) rfl (by kernel_rfl) (by kernel_rfl) (by kernel_rfl) (by kernel_rfl) (fun _ _ _ h => h) (Or.inl ⟨by rfl, ?_⟩) (grF HX.out (by repeat (first | with_reducible refine Ext2.alloc ?_ _ | with_reducible refine Ext2.drew1 ?_ | with_reducible assumption | with_reducible exact Ext2.refl _ _ _))) (fun _ => (by repeat (first | with_reducible refine ext_alloc ?_ _ | with_reducible refine Below.drew ?_ | with_reducible assumption | with_reducible exact ext_refl _))) ?_
  rotate_left 1
  · (rintro w' ⟨f0, f1, _⟩; go_simp; with_reducible rfl)
  refine takeF 4 (v := ?_) rfl (by kernel_rfl) (by kernel_rfl) (by kernel_rfl) (by kernel_rfl) (fun _ _ _ h => h) (Or.inl ⟨by rfl, ?_⟩) (grF HX.out (by repeat (first | with_reducible refine Ext2.alloc ?_ _ | with_reducible refine Ext2.drew1 ?_ | with_reducible assumption | with_reducible exact Ext2.refl _ _ _))) (fun _ => (by repeat (first | with_reducible refine ext_alloc ?_ _ | with_reducible refine Below.drew ?_ | with_reducible assumption | with_reducible exact ext_refl _))) ?_
  rotate_left 1
  · (rintro w' ⟨f0, f1, _⟩; go_simp; with_reducible rfl)
  refine takeF 5 (v := ?_) rfl (by kernel_rfl) (by kernel_rfl) (by kernel_rfl) (by kernel_rfl) (fun _ _ _ h => h) (Or.inl ⟨by rfl, ?_⟩) (grF HX.out (by repeat (first | with_reducible refine Ext2.alloc ?_ _ | with_reducible refine Ext2.drew1 ?_ | with_reducible assumption | with_reducible exact Ext2.refl _ _ _))) (fun _ => (by repeat (first | with_reducible refine ext_alloc ?_ _ | with_reducible refine Below.drew ?_ | with_reducible assumption | with_reducible exact ext_refl _))) ?_
  rotate_left 1
  · (rintro w' ⟨f0, f1, _⟩; go_simp; with_reducible rfl)
  refine allL [6] (by kernel_rfl) (by simp) ?_
  simp only [List.forall_mem_cons, List.not_mem_nil, false_implies, implies_true, and_true]
  refine stepL rfl (by rfl) (fun K hK => ?_)
  go_simp
  go_at_call 39
  refine (stateRoot true _ _ 1 _ (HS4.out.ext (by repeat (first | with_reducible refine ext_alloc ?_ _ | with_reducible refine Below.drew ?_ | with_reducible assumption | with_reducible exact ext_refl _))) (HR.out.below (ext_call HE4.out (by repeat (first | with_reducible refine ext_alloc ?_ _ | with_reducible refine Below.drew ?_ | with_reducible assumption | with_reducible exact ext_refl _))))).mono ?_
  rintro e V ⟨rfl, hbo⟩
  have hV : Below W4.heap.size W4 V := ext_call (by repeat (first | with_reducible refine ext_alloc ?_ _ | with_reducible refine Below.drew ?_ | with_reducible assumption | with_reducible exact ext_refl _)) hbo
  clear hbo
  refine hK _ _ ⟨⟨grF HX.out (.of_ext hV), fun _ => hV⟩, ?_⟩
  clear hK K
  refine allL [7] (by kernel_rfl) (by simp) ?_
  simp only [List.forall_mem_cons, List.not_mem_nil, false_implies, implies_true, and_true]
  refine stepL rfl (by rfl) (fun K hK => ?_)
  go_simp
  go_at_call 40
  refine (logAppend gl b c0 zeros32 (stateF false) (stateF true) zeros32_size (stateF_size _) (stateF_size _) V (HL4.out.ext hV) (HLg4.out.ext hV) (HR.out.below (ext_call HE4.out hV))).mono ?_
  rintro e V2 ⟨rfl, hl1, hxa⟩
  refine hK _ _ ⟨⟨grF HX.out ((Ext2.of_ext hV).trans hxa), fun h => absurd h (by decide)⟩, ?_⟩
  clear hK K
  refine doneL (by kernel_rfl) ?_ _
  have HF := Lib.hid (And.intro hl1 (Ext2.below (ext_call HE4.out hV) HGe.out HGe.out hxa))
  clear hl1 hxa hV r0 r1
  go_wp2
  rw [rounds_succ]
  go_wp2
  go_ret
  exact ⟨gl, rfl, HF.out.1, HGe.out, HF.out.2⟩

end Go.Proofs.YtimoapjhepmehaaGreatDoor
