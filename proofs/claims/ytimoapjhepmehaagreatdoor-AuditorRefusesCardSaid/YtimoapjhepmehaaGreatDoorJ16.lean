/-
  Part 16 of 17: the contracts that the proof of the last part uses; each stands under its own head.
-/
import Derived.Test.YtimoapjhepmehaaGreatDoorJ15
import Derived.Test.YtimoapjhepmehaaGreatDoorJ14
set_option linter.unusedSimpArgs false
set_option linter.unusedVariables false

/-
  package cachetierlaw29: informed.
-/
namespace Go.Proofs.YtimoapjhepmehaaGreatDoor
open Go.RowKit
attribute [local go_sem ↓] Go.wp_at_zero Go.wp_at_succ

theorem rootF_two (x y : ByteArray) : rootF [x, y] = nodeF (leafF x) (leafF y) := by
  unfold rootF
  rw [if_neg (by simp)]
  simp [stackTo, merged, mergeR, foldBack]

/-- the law's heads -/
def lawE0 : ByteArray := headEnc 0 zeros32 (stateF false)
def lawC1 : ByteArray := chainF zeros32 recEnc
theorem lawC1_size : lawC1.size = 32 := by unfold lawC1 chainF; exact sumF_size _
def lawE1 : ByteArray := headEnc 1 lawC1 (stateF true)

def LawLog0 (W : World) (g : Nat) : Prop := Log0 W g zeros32 (stateF false)
def LawLog1 (W : World) (g : Nat) : Prop := Log1 W g zeros32 (stateF false) lawC1 (stateF true)
theorem lawRoot0 (g : Nat) (w : World) (h : LawLog0 w g) (hR : RoundOK w) : Calls Tryz.prog 24 #[.pointer (some ⟨g, 0, none⟩)] w fun e w' => e = .returned (.string (rootF [lawE0])) ∧ Below w.heap.size w w' := by
  obtain ⟨gh, hB⟩ := Log0.named h
  exact logRoot false g gh none 0 0 1 #[] _ _ _ _ zeros32_size (stateF_size _) zeros32_size (stateF_size _) w hB hR
theorem lawRoot1 (g : Nat) (w : World) (h : LawLog1 w g) (hR : RoundOK w) : Calls Tryz.prog 24 #[.pointer (some ⟨g, 0, none⟩)] w fun e w' => e = .returned (.string (rootF [lawE0, lawE1])) ∧ Below w.heap.size w w' := by
  obtain ⟨gh, A, n, c, cap, zs, hB⟩ := Log1.named h
  exact logRoot true g gh A n c cap zs _ _ _ _ zeros32_size (stateF_size _) lawC1_size (stateF_size _) w hB hR
theorem LawLog1.ext2 {X W : World} {g a : Nat} {t : TypeId} {xs : Array Value} (h : LawLog1 X g) (hb : Blk X a t xs) (h1 : 112 ≠ t) (h2 : 52 ≠ t) (k : Ext2 a a X W) : LawLog1 W g := by
  obtain ⟨gh, A, n, c, cap, zs, p1, p2, p3⟩ := h
  exact ⟨gh, A, n, c, cap, zs, p1.ext2 k (blk_ne p1 hb h1) (blk_ne p1 hb h1), p2, p3.ext2 k (blk_ne p3 hb h2) (blk_ne p3 hb h2)⟩

set_option maxRecDepth 100000 in
set_option maxHeartbeats 2000000 in
theorem informedOne (b g0 c0 c gi ci : Nat) (w : World) (hL : LogAt w b g0 c0) (hi : w.cell? ⟨gi, 0, none⟩ = some (.int .i64 1)) (hR : RoundOK w) :
    Calls Tryz.prog 11 #[.slice (some ⟨g0, 0, none⟩) 1 c, .int .i64 0, .int .i64 1, .slice (some ⟨gi, 0, none⟩) 1 ci] w
      fun e w' => e = .returned (.tuple #[.pointer (some ⟨w.heap.size + 1, 0, none⟩), .bool true]) ∧ AudAt w' (w.heap.size + 1) w.heap.size 1 (rootF [lawE0, lawE1]) #[audEntry lawC1 (stateF true)] 1 ∧ Below w.heap.size w w' := by
  have HL := Lib.hid hL
  have HI := Lib.hid hi
  have HR := Lib.hid hR
  have HG0 := Lib.hid (fun (W : World) (k : Below w.heap.size w W) => grown0 g0 c W (hR.below k))
  have HG1 := Lib.hid (fun (W : World) (k : Below w.heap.size w W) => grown1 b g0 c0 c W (hL.ext k) (hR.below k))
  clear hL hi hR
  go_enter Tryz.func11, Tryz.ntmps11
  go_wp2_with fail
  refine (audNew w).mono ?_
  rintro e W1 ⟨rfl, hw⟩
  have HE1 := Lib.hid (show Below w.heap.size w W1 by rw [← hw]; exact ext_alloc (ext_new _ _) _)
  have HA1 := Lib.hid (show AudAt W1 (w.heap.size + 1) w.heap.size (-1) ⟨#[]⟩ #[] 0 by rw [← hw]; exact ⟨Blk.new' _ _ _ (by simp), (MapAt.new w).alloc _⟩)
  clear hw
  go_wp2_with fail
  refine (HG0.out _ HE1.out).mono ?_
  rintro e W2 ⟨ga, rfl, hla, _, hb2⟩
  have HE2 := Lib.hid (ext_call HE1.out hb2)
  have HA2 := Lib.hid (HA1.out.ext hb2)
  have HLa2 := Lib.hid hla
  clear hb2 hla
  go_wp2_with fail
  refine (HG1.out _ HE2.out).mono ?_
  rintro e W3 ⟨gl, rfl, hlb, _, hb3⟩
  have HE3 := Lib.hid (ext_call HE2.out hb3)
  have HA3 := Lib.hid (HA2.out.ext hb3)
  have HLa3 := Lib.hid (HLa2.out.ext hb3)
  have HLb3 := Lib.hid hlb
  clear hb3 hlb
  go_wp2_with fail
  refine (logExtension gl zeros32 (stateF false) (chainF zeros32 recEnc) (stateF true) zeros32_size (stateF_size _) lawC1_size (stateF_size _) W3 HLb3.out (HR.out.below HE3.out)).mono ?_
  rintro e W4 ⟨A4, n4, c4, rfl, hp4, hb4⟩
  have HE4 := Lib.hid (ext_call HE3.out hb4)
  have HA4 := Lib.hid (HA3.out.ext hb4)
  have HLa4 := Lib.hid (show LawLog0 W4 ga from HLa3.out.ext hb4)
  have HLb4 := Lib.hid (show LawLog1 W4 gl from HLb3.out.ext hb4)
  have HP4 := Lib.hid (show Strs (fun b => w.heap.size + 1 < b) W4 (.slice A4 n4 c4) [rootF [lawE1]] from hp4.mono (fun j hj _ => by have := HA3.out.1.lt; omega))
  clear hb4 hp4 HLa3 HLb3 HA3 HA2 HA1
  go_wp2_with fail
  refine (lawRoot0 ga W4 HLa4.out (HR.out.below HE4.out)).mono ?_
  rintro e W5 ⟨rfl, hb5⟩
  have HE5 := Lib.hid (ext_call HE4.out hb5)
  have HA5 := Lib.hid (HA4.out.ext hb5)
  have HLb5 := Lib.hid (show LawLog1 W5 gl from HLb4.out.ext hb5)
  have HP5 := Lib.hid (HP4.out.below hb5)
  clear hb5 HLa4 HLb4 HP4 HA4
  go_wp2_with fail
  refine (learnFirst (w.heap.size + 1) w.heap.size 0 #[] ⟨#[]⟩ (rootF [lawE0]) 0 none 0 W5 HA5.out (rootF_size _) (by omega) (by omega)).mono ?_
  rintro e W6 ⟨rfl, ha6, hx6⟩
  have HE6 := Lib.hid (Ext2.below HE5.out (Nat.le_succ _) (Nat.le_succ _) hx6)
  have HLb6 := Lib.hid (HLb5.out.ext2 HA5.out.1 (by decide) (by decide) hx6)
  have HP6 := Lib.hid (HP5.out.keep (fun j hj hlt => hx6.block j hlt (by omega) (by omega)))
  have HA6 := Lib.hid ha6
  clear hx6 ha6 HLb5 HP5 HA5
  go_wp2_with fail
  refine (lawRoot1 gl W6 HLb6.out (HR.out.below HE6.out)).mono ?_
  rintro e W7 ⟨rfl, hb7⟩
  have HE7 := Lib.hid (ext_call HE6.out hb7)
  have HA7 := Lib.hid (HA6.out.ext hb7)
  have HLb7 := Lib.hid (show LawLog1 W7 gl from HLb6.out.ext hb7)
  have HP7 := Lib.hid (HP6.out.below hb7)
  clear hb7 HA6 HLb6 HP6
  go_wp2_with fail
  refine (learnGrow (w.heap.size + 1) w.heap.size 0 #[] _ (rootF [lawE0]) (rootF [lawE0, lawE1]) (rootF [lawE1]) (.slice A4 n4 c4) W7 HA7.out (rootF_size _) (rootF_size _) (rootF_size _) HP7.out (HR.out.below HE7.out) (by rw [rootF_two, rootF_one, rootF_one])).mono ?_
  rintro e W8 ⟨rfl, ha8, hx8⟩
  have HE8 := Lib.hid (Ext2.below HE7.out (Nat.le_succ _) (Nat.le_succ _) hx8)
  have HLb8 := Lib.hid (HLb7.out.ext2 HA7.out.1 (by decide) (by decide) hx8)
  have HA8 := Lib.hid ha8
  have hi8 : W8.cell? ⟨gi, 0, none⟩ = some (.int .i64 1) := cell_ext HI.out HE8.out
  clear hx8 ha8 HLb7 HP7 HA7
  go_wp2
  refine wp_loop_rounds 2 ?_
  rw [rounds_succ]
  go_wp2_with fail
  refine (logHead1 gl zeros32 (stateF false) lawC1 (stateF true) W8 HLb8.out).mono ?_
  rintro e W9 ⟨rfl, hb9⟩
  have HE9 := Lib.hid (ext_call HE8.out hb9)
  have HA9 := Lib.hid (HA8.out.ext hb9)
  have HLb9 := Lib.hid (show LawLog1 W9 gl from HLb8.out.ext hb9)
  have hi9 : W9.cell? ⟨gi, 0, none⟩ = some (.int .i64 1) := cell_ext HI.out HE9.out
  have hil : gi < W9.heap.size := lt_of_cell (p := ⟨gi, 0, none⟩) hi9
  clear hb9 HA8 HLb8 hi8
  go_wp2_with fail
  refine (logProve gl zeros32 (stateF false) lawC1 (stateF true) zeros32_size (stateF_size _) lawC1_size (stateF_size _) _ (Log1.ext HLb9.out (ext_new _ _)) (HR.out.below (ext_alloc HE9.out _))).mono ?_
  rintro e Wa ⟨Aa, na, ca, rfl, hpa, hba⟩
  have HEa := Lib.hid (ext_call (ext_alloc HE9.out _) hba)
  have HAa := Lib.hid ((HA9.out.ext (ext_new _ _)).ext hba)
  have HPa := Lib.hid (show Strs _ Wa (.slice Aa na ca) [rootF [lawE0]] from hpa)
  have hHd := (Blk.new W9 52 #[.int .i64 1, .string lawC1, .string (stateF true)]).ext hba
  obtain ⟨h0, h1, h2⟩ := cells3 hHd
  clear hba hpa HA9 HLb9 hi9 hil hHd
  go_wp2_with fail
  refine (showYes _ (w.heap.size + 1) w.heap.size (rootF [lawE0, lawE1]) lawC1 (stateF true) (rootF [lawE0]) (.slice Aa na ca) lawC1_size (stateF_size _) (rootF_size _) Wa HAa.out HPa.out (HR.out.below HEa.out) (by rw [rootF_two, rootF_one]; rfl)).mono ?_
  rintro e Wb ⟨rfl, hab, hxb⟩
  have HAb := Lib.hid hab
  have HEb := Lib.hid (Ext2.below HEa.out (Nat.le_refl _) (Nat.le_refl _) hxb)
  clear hab hxb h0 h1 h2
  go_wp2
  rw [rounds_succ]
  go_wp2
  go_ret2
  exact ⟨rfl, HAb.out, HEb.out⟩

end Go.Proofs.YtimoapjhepmehaaGreatDoor

/-
  package auditor: Learn at arguments that are refused.
-/
namespace Go.Proofs.YtimoapjhepmehaaGreatDoor
open Go.RowKit
attribute [local go_sem ↓] Go.wp_at_zero Go.wp_at_succ

set_option maxHeartbeats 400000 in
theorem learnSize (ga : Nat) (root : ByteArray) (n : Int) (v : Value) (w : World) (hr : ¬ (root.size : Int) = 32) : Calls Tryz.prog 17 #[.pointer (some ⟨ga, 0, none⟩), .string root, .int .i64 n, v] w fun e w' => e = .returned (.int .i64 290) ∧ Below w.heap.size w w' := by
  go_enter Tryz.func17, Tryz.ntmps17
  go_wp2
  go_ret
  exact ⟨rfl, ext_new _ _⟩

set_option maxHeartbeats 400000 in
theorem learnLow (ga : Nat) (root : ByteArray) (n : Int) (v : Value) (w : World) (hr : (root.size : Int) = 32) (hn : n < 0) : Calls Tryz.prog 17 #[.pointer (some ⟨ga, 0, none⟩), .string root, .int .i64 n, v] w fun e w' => e = .returned (.int .i64 290) ∧ Below w.heap.size w w' := by
  go_enter Tryz.func17, Tryz.ntmps17
  go_wp2
  go_ret
  exact ⟨rfl, ext_new _ _⟩

set_option maxHeartbeats 400000 in
theorem learnHigh (ga : Nat) (root : ByteArray) (n : Int) (v : Value) (w : World) (hr : (root.size : Int) = 32) (h0 : 0 ≤ n) (hn : 10000 < n) : Calls Tryz.prog 17 #[.pointer (some ⟨ga, 0, none⟩), .string root, .int .i64 n, v] w fun e w' => e = .returned (.int .i64 290) ∧ Below w.heap.size w w' := by
  go_enter Tryz.func17, Tryz.ntmps17
  go_wp2
  go_ret
  exact ⟨rfl, ext_new _ _⟩

set_option maxRecDepth 100000 in
set_option maxHeartbeats 1000000 in
theorem learnPath (ga gm c : Nat) (es : Array MapEntry) (r root : ByteArray) (n : Int) (A : Option Addr) (m k : Nat) (w : World) (h : AudAt w ga gm (-1) r es c) (hr : (root.size : Int) = 32) (hn : 0 ≤ n) (hn2 : n ≤ 10000) (hm : m ≠ 0) :
    Calls Tryz.prog 17 #[.pointer (some ⟨ga, 0, none⟩), .string root, .int .i64 n, .slice A m k] w fun e w' => e = .returned (.int .i64 290) ∧ Below w.heap.size w w' := by
  have hz : ((m : Int) == 0) = false := by simpa using hm
  have HA := Lib.hid h
  have h0 : w.cell? ⟨ga, 0, none⟩ = some (.int .i64 ((-1))) := h.1.cell 0
  have h1 : w.cell? ⟨ga, 1, none⟩ = some (.string r) := h.1.cell 1
  have hl := h.1.lt
  clear h hm
  obtain ⟨X, hX⟩ : ∃ X, X = w.alloc (.cells #[.int .i64 (n), .string root] 89) := ⟨_, rfl⟩
  have HN := Lib.hid (show Blk X w.heap.size 89 #[.int .i64 (n), .string root] by rw [hX]; exact Blk.new _ _ _)
  have HEx := Lib.hid (show Below w.heap.size w X by rw [hX]; exact ext_new _ _)
  have HK := Lib.hid (show X.cell? ⟨ga, 0, none⟩ = some (.int .i64 ((-1))) ∧ X.cell? ⟨ga, 1, none⟩ = some (.string r) ∧ X.cell? ⟨w.heap.size, 0, none⟩ = some (.int .i64 (n)) ∧ X.cell? ⟨w.heap.size, 1, none⟩ = some (.string root) ∧ Below X.heap.size X X from ⟨(HA.out.1.ext HEx.out).cell 0, (HA.out.1.ext HEx.out).cell 1, HN.out.cell 0, HN.out.cell 1, ext_refl X⟩)
  have HX := Lib.hid hX
  clear hX
  go_enter Tryz.func17, Tryz.ntmps17
  go_upto_region 7 with (fail)
  rw [← HX.out]
  clear h0 h1
  go_region_held3 (fun w' => w'.cell? ⟨ga, 0, none⟩ = some (.int .i64 ((-1))) ∧ w'.cell? ⟨ga, 1, none⟩ = some (.string r) ∧ w'.cell? ⟨w.heap.size, 0, none⟩ = some (.int .i64 (n)) ∧ w'.cell? ⟨w.heap.size, 1, none⟩ = some (.string root) ∧ Below X.heap.size X w')
    (first | with_reducible assumption | exact keepC4 HK.out (ext_refl X).drew | exact keepC4 (by assumption) (by assumption))
    (first | (go_at_call 34; (with_reducible refine (cont_first r root n A m k _).mono ?_); rintro e W1 ⟨rfl, hb1⟩))
  have hb2 := undrew hb1
  have HE1 := Lib.hid (ext_call HEx.out hb2)
  clear hb1 hb2
  go_wp2
  go_ret
  exact ⟨rfl, HE1.out⟩

/-- LEARN AT BAD ARGUMENTS. -/
theorem learnBad (ga gm c : Nat) (es : Array MapEntry) (r root : ByteArray) (n : Int) (A : Option Addr) (m k : Nat) (w : World) (h : AudAt w ga gm (-1) r es c) (hb : ¬ ((root.size : Int) = 32 ∧ 0 ≤ n ∧ n ≤ 10000 ∧ m = 0)) :
    Calls Tryz.prog 17 #[.pointer (some ⟨ga, 0, none⟩), .string root, .int .i64 n, .slice A m k] w fun e w' => e = .returned (.int .i64 290) ∧ Below w.heap.size w w' := by
  by_cases hr : (root.size : Int) = 32
  · by_cases h0 : 0 ≤ n
    · by_cases hn : n ≤ 10000
      · exact learnPath ga gm c es r root n A m k w h hr h0 hn fun e => hb ⟨hr, h0, hn, e⟩
      · exact learnHigh ga root n _ w hr h0 (by omega)
    · exact learnLow ga root n _ w hr (by omega)
  · exact learnSize ga root n _ w hr

end Go.Proofs.YtimoapjhepmehaaGreatDoor
