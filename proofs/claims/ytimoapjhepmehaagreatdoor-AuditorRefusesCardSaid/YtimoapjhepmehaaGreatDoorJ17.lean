/-
  sane of package cachetierlaw29 returns true and leaves all memory as it was. Condition: the table of the digest's words lies where it was laid.
-/
import Derived.Test.YtimoapjhepmehaaGreatDoorJ16
set_option linter.unusedSimpArgs false
set_option linter.unusedVariables false

namespace Go.Proofs.YtimoapjhepmehaaGreatDoor
open Go.RowKit
attribute [local go_sem ↓] Go.wp_at_zero Go.wp_at_succ

set_option maxRecDepth 100000 in
set_option maxHeartbeats 12000000 in
theorem saneYes (w : World) (hR : RoundOK w) : Calls Tryz.prog 6 #[] w fun e w' => e = .returned (.bool true) ∧ Below w.heap.size w w' := by
  obtain ⟨X, hX⟩ : ∃ X, X = (w.alloc (.cells #[.int .i64 0, .int .i64 5, .bool false, .int .i64 0, .int .i64 0, .int .i64 0, .bool true, .int .i64 10, .int .i64 20, .int .i64 30] 72)).alloc (.cells #[.int .i64 1, .slice (some ⟨w.heap.size, 0, none⟩) 1 1] 75) := ⟨_, rfl⟩
  have HE0 := Lib.hid (show Below w.heap.size w X by rw [hX]; exact ext_alloc (ext_new _ _) _)
  have HL0 := Lib.hid (show LogAt X w.heap.size (w.heap.size + 1) 1 by rw [hX]; exact ⟨Blk.new' _ _ _ (by simp), (Blk.new _ _ _).alloc _⟩)
  have HR := Lib.hid hR
  have HX := Lib.hid hX
  clear hX hR
  go_enter Tryz.func6, Tryz.ntmps6
  go_wp2_with fail
  rw [← HX.out]
  refine (answer1 w.heap.size (w.heap.size + 1) 1 X HL0.out (HR.out.below HE0.out)).mono ?_
  rintro e W1 ⟨va, rfl, han, hb1⟩
  obtain ⟨gr, kr, g, d, B, m, rfl, hn1⟩ := han.lit
  have HE1 := Lib.hid (ext_call HE0.out hb1)
  have HL1 := Lib.hid (HL0.out.ext hb1)
  have HN1 := Lib.hid hn1
  have HA1 := Lib.hid han
  have hY : Below w.heap.size w (W1.alloc (.cells #[.int .i64 1, .int .i64 0, .int .i64 0, .int .i64 5, .int .i64 5, .int .i64 0, .int .i64 0, .slice (some ⟨gr, 0, none⟩) 1 kr, .int .i64 0, .bool false, .int .i64 1, .int .i64 1, .int .i64 1, .slice (some ⟨g, 0, none⟩) 1 d, .slice B 0 m] 39)) := ext_alloc HE1.out _
  have HLy := Lib.hid (HL1.out.ext (ext_new W1 (.cells #[.int .i64 1, .int .i64 0, .int .i64 0, .int .i64 5, .int .i64 5, .int .i64 0, .int .i64 0, .slice (some ⟨gr, 0, none⟩) 1 kr, .int .i64 0, .bool false, .int .i64 1, .int .i64 1, .int .i64 1, .slice (some ⟨g, 0, none⟩) 1 d, .slice B 0 m] 39)))
  have HNy := Lib.hid (HN1.out.ext (ext_new W1 (.cells #[.int .i64 1, .int .i64 0, .int .i64 0, .int .i64 5, .int .i64 5, .int .i64 0, .int .i64 0, .slice (some ⟨gr, 0, none⟩) 1 kr, .int .i64 0, .bool false, .int .i64 1, .int .i64 1, .int .i64 1, .slice (some ⟨g, 0, none⟩) 1 d, .slice B 0 m] 39)))
  have HAy := Lib.hid (HA1.out.ext (ext_new W1 (.cells #[.int .i64 1, .int .i64 0, .int .i64 0, .int .i64 5, .int .i64 5, .int .i64 0, .int .i64 0, .slice (some ⟨gr, 0, none⟩) 1 kr, .int .i64 0, .bool false, .int .i64 1, .int .i64 1, .int .i64 1, .slice (some ⟨g, 0, none⟩) 1 d, .slice B 0 m] 39)))
  have HBy := Lib.hid (Blk.new W1 39 #[.int .i64 1, .int .i64 0, .int .i64 0, .int .i64 5, .int .i64 5, .int .i64 0, .int .i64 0, .slice (some ⟨gr, 0, none⟩) 1 kr, .int .i64 0, .bool false, .int .i64 1, .int .i64 1, .int .i64 1, .slice (some ⟨g, 0, none⟩) 1 d, .slice B 0 m])
  have HRy := Lib.hid (HR.out.below hY)
  have HEy := Lib.hid hY
  clear hb1 hn1 han hY HE1 HL1 HN1 HA1 HR HE0 HL0 HX
  go_wp2_with fail
  generalize World.alloc W1 (.cells #[.int .i64 1, .int .i64 0, .int .i64 0, .int .i64 5, .int .i64 5, .int .i64 0, .int .i64 0, .slice (some ⟨gr, 0, none⟩) 1 kr, .int .i64 0, .bool false, .int .i64 1, .int .i64 1, .int .i64 1, .slice (some ⟨g, 0, none⟩) 1 d, .slice B 0 m] 39) = Y at *
  generalize W1.heap.size = ba at *
  refine (audNew Y).mono ?_
  rintro e W2 ⟨rfl, hw⟩
  have E2 := Lib.hid (show Below Y.heap.size Y W2 by rw [← hw]; exact ext_alloc (ext_new _ _) _)
  have A2 := Lib.hid (show AudAt W2 (Y.heap.size + 1) Y.heap.size (-1) ⟨#[]⟩ #[] 0 by rw [← hw]; exact ⟨Blk.new' _ _ _ (by simp), (MapAt.new Y).alloc _⟩)
  clear hw
  go_wp2_with fail
  refine (grown1 _ _ 1 1 W2 (HLy.out.ext E2.out) (HRy.out.below E2.out)).mono ?_
  rintro e W3 ⟨gl, rfl, hl3, _, hb3⟩
  have E3 := Lib.hid (ext_call E2.out hb3)
  have A3 := Lib.hid (A2.out.ext hb3)
  have L3 := Lib.hid (show LawLog1 W3 gl from hl3)
  clear hb3 hl3 A2
  go_wp2_with fail
  refine (logHead1 gl zeros32 (stateF false) lawC1 (stateF true) W3 L3.out).mono ?_
  rintro e W4 ⟨rfl, hb4⟩
  have E4 := Lib.hid (ext_alloc (ext_call E3.out hb4) (.cells #[.int .i64 1, .string lawC1, .string (stateF true)] 52))
  have A4 := Lib.hid ((A3.out.ext hb4).ext (ext_new W4 (.cells #[.int .i64 1, .string lawC1, .string (stateF true)] 52)))
  have L4 := Lib.hid (show LawLog1 (W4.alloc (.cells #[.int .i64 1, .string lawC1, .string (stateF true)] 52)) gl from Log1.ext (Log1.ext L3.out hb4) (ext_new _ _))
  clear hb4 A3 L3
  go_wp2_with fail
  refine (logProve gl zeros32 (stateF false) lawC1 (stateF true) zeros32_size (stateF_size _) lawC1_size (stateF_size _) _ L4.out (HRy.out.below E4.out)).mono ?_
  rintro e W5 ⟨A5, n5, c5, rfl, _, hb5⟩
  have E5 := Lib.hid (ext_call E4.out hb5)
  have A5' := Lib.hid (A4.out.ext hb5)
  obtain ⟨h0, h1, h2⟩ := cells3 ((Blk.new W4 52 #[.int .i64 1, .string lawC1, .string (stateF true)]).ext hb5)
  clear hb5 A4 L4
  go_wp2_with fail
  refine (showNo _ _ _ _ 1 lawC1 (stateF true) (.slice A5 n5 c5) W5 A5'.out).mono ?_
  rintro e W6 ⟨rfl, hb6⟩
  have E6 := Lib.hid (ext_call E5.out hb6)
  have A6 := Lib.hid (A5'.out.ext hb6)
  clear hb6 A5' h0 h1 h2
  obtain ⟨a0, a1, a2, a3, a4, a5, a6, a7, a8, a9, a10, a11, a12, a13, a14⟩ := cells15 (HBy.out.ext E6.out)
  go_wp2_with (go_at_call 12; refine (audSize _ _ _ _ _ _ _ A6.out).mono ?_; rintro e w' ⟨rfl, rfl⟩)
  refine (audCheckNo1 _ _ _ _ _ gr kr g d B m W6 A6.out (HAy.out.ext E6.out)).mono ?_
  rintro e W7 ⟨rfl, hb7⟩
  have E7 := Lib.hid (ext_alloc (ext_call E6.out hb7) (.cells #[.int .i64 1] 3))
  have hc7 := (Blk.new W7 3 #[.int .i64 1]).cell 0
  clear hb7 A6 a0 a1 a2 a3 a4 a5 a6 a7 a8 a9 a10 a11 a12 a13 a14
  go_wp2_with fail
  refine (informedOne _ _ 1 1 W7.heap.size 1 _ (HLy.out.ext E7.out) hc7 (HRy.out.below E7.out)).mono ?_
  rintro e W9 ⟨rfl, ha9, hb9⟩
  have E9 := Lib.hid (ext_call E7.out hb9)
  rw [World.size_alloc] at ha9
  have A9 := Lib.hid ha9
  clear hb9 ha9 hc7
  obtain ⟨a0, a1, a2, a3, a4, a5, a6, a7, a8, a9, a10, a11, a12, a13, a14⟩ := cells15 (HBy.out.ext E9.out)
  go_wp2_with fail
  refine (settleYes _ _ _ _ _ lawC1 (stateF true) gr kr g d B m W9 A9.out lawC1_size rfl (HNy.out.ext E9.out) (HRy.out.below E9.out)).mono ?_
  rintro e W10 ⟨rfl, hb10⟩
  have E10 := Lib.hid (ext_call E9.out hb10)
  have A10 := Lib.hid (A9.out.ext hb10)
  clear hb10 A9 a0 a1 a2 a3 a4 a5 a6 a7 a8 a9 a10 a11 a12 a13 a14
  go_wp2_with fail
  refine (grown0 _ 1 W10 (HRy.out.below E10.out)).mono ?_
  rintro e W11 ⟨g11, rfl, hl11, _, hb11⟩
  have E11 := Lib.hid (ext_call E10.out hb11)
  have A11 := Lib.hid (A10.out.ext hb11)
  have L11 := Lib.hid (show LawLog0 W11 g11 from hl11)
  clear hb11 hl11 A10
  go_wp2_with fail
  refine (lawRoot0 g11 W11 L11.out (HRy.out.below E11.out)).mono ?_
  rintro e W12 ⟨rfl, hb12⟩
  have E12 := Lib.hid (ext_call E11.out hb12)
  have A12 := Lib.hid (A11.out.ext hb12)
  clear hb12 A11 L11
  go_wp2_with fail
  refine (learnBack _ _ _ _ (rootF [lawE0]) _ W12 A12.out (rootF_size _)).mono ?_
  rintro e W13 ⟨rfl, hb13⟩
  have E13 := Lib.hid (ext_call E12.out hb13)
  have A13 := Lib.hid (A12.out.ext hb13)
  clear hb13 A12
  obtain ⟨a0, a1, a2, a3, a4, a5, a6, a7, a8, a9, a10, a11, a12, a13, a14⟩ := cells15 (HBy.out.ext E13.out)
  go_wp2_with (go_at_call 12; refine (audSize _ _ _ _ _ _ _ A13.out).mono ?_; rintro e w' ⟨rfl, rfl⟩)
  refine (audCheckYes _ _ _ _ _ lawC1 (stateF true) gr kr g d B m W13 A13.out lawC1_size rfl (HNy.out.ext E13.out) (HRy.out.below E13.out)).mono ?_
  rintro e W14 ⟨rfl, hb14⟩
  have E14 := Lib.hid (ext_call E13.out hb14)
  have A14 := Lib.hid (A13.out.ext hb14)
  clear hb14 A13 a0 a1 a2 a3 a4 a5 a6 a7 a8 a9 a10 a11 a12 a13 a14
  obtain ⟨a0, a1, a2, a3, a4, a5, a6, a7, a8, a9, a10, a11, a12, a13, a14⟩ := cells15 (HBy.out.ext E14.out)
  go_wp2_with fail
  refine (audAtYes _ _ _ _ _ lawC1 (stateF true) gr kr g d B m W14 A14.out lawC1_size rfl (HNy.out.ext E14.out) (HRy.out.below E14.out)).mono ?_
  rintro e W15 ⟨rfl, hb15⟩
  have E15 := Lib.hid (ext_call E14.out hb15)
  clear hb15 A14 a0 a1 a2 a3 a4 a5 a6 a7 a8 a9 a10 a11 a12 a13 a14
  obtain ⟨a0, a1, a2, a3, a4, a5, a6, a7, a8, a9, a10, a11, a12, a13, a14⟩ := cells15 (HBy.out.ext E15.out)
  go_wp2_with fail
  refine (audAtEarly (.int .i64 0) gr kr g d B m _ W15).mono ?_
  rintro e W16 ⟨rfl, hb16⟩
  have E16 := Lib.hid (ext_call E15.out hb16)
  clear hb16 a0 a1 a2 a3 a4 a5 a6 a7 a8 a9 a10 a11 a12 a13 a14
  go_wp2
  go_ret
  exact ⟨rfl, ext_call HEy.out E16.out⟩

end Go.Proofs.YtimoapjhepmehaaGreatDoor
