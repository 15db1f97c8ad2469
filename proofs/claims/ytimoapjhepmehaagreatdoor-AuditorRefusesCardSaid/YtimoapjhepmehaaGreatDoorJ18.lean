/-
  AuditorRefuses of package cachetierlaw29 returns true for every root, number, head and list of strings, and leaves all memory as it was. Conditions: sane returns true; the table of the digest's words lies where it was laid.
-/
import Derived.Test.YtimoapjhepmehaaGreatDoorJ15
import Derived.Test.YtimoapjhepmehaaGreatDoorJ16
import Derived.Deep.Cut
import Derived.Deep.CutRange
set_option linter.unusedSimpArgs false
set_option linter.unusedVariables false


namespace Go.Proofs.YtimoapjhepmehaaGreatDoor
open Go.RowKit Go.Shelf
attribute [local go_sem ↓] Go.wp_at_zero Go.wp_at_succ
attribute [local go_sem] Oper.semAt_some

/-- a string, cut to 40 bytes -/
def cut40 (s : ByteArray) : ByteArray := s.extract 0 (min s.size 40)
theorem run_cut40 (s : ByteArray) (W : World) : (Instr.slice 9 (.string s) none (some (.int .i64 (if (40 : Int) < (s.size : Int) then 40 else (s.size : Int)))) none).run Tryz.prog W = .ok (.string (cut40 s)) W := by
  have h := Tryz.underlying9
  have e : (if (40 : Int) < (s.size : Int) then 40 else (s.size : Int)) = ((min s.size 40 : Nat) : Int) := by
    split <;> omega
  rw [e]
  have h1 : ((min s.size 40 : Nat) : Int) ≤ (s.size : Int) := by omega
  have h0 : (0 : Int) ≤ ((min s.size 40 : Nat) : Int) := by omega
  generalize hm : min s.size 40 = m at *
  simp [Instr.slice, Instr.sliceBounds, Instr.sliceBound, asIntOf, run_underlying h, h1, h0, cut40, hm]
  omega

/-- what is known of the slice that the loop makes, behind j rounds -/
def CutI (X : World) (j : Nat) (v : Value) (W : World) : Prop := ∃ xs : List Value, xs.length = j ∧ W.ownsRow X.heap.size 9 1 v j xs ∧ Below X.heap.size X W
theorem CutI.shape {X W : World} {j : Nat} {v : Value} (h : CutI X j v W) : ∃ A c, v = .slice A j c := by
  obtain ⟨xs, _, h, _⟩ := h
  exact own_shape h
theorem CutI.below {X W : World} {j : Nat} {v : Value} (h : CutI X j v W) : Below X.heap.size X W := by
  obtain ⟨xs, _, _, h⟩ := h
  exact h

theorem AnsAt.litA {W : World} {va : Array Value} (h : AnsAt false W va) : ∃ g d B m, va = #[.int .i64 3, .int .i64 0, .int .i64 0, .int .i64 0, .int .i64 0, .int .i64 0, .int .i64 0, .slice none 0 0, .int .i64 0, .bool false, .int .i64 0, .int .i64 0, .int .i64 0, .slice (some ⟨g, 0, none⟩) 1 d, .slice B 0 m] := by
  obtain ⟨v, g, c, vr, us, B, d, rfl, hr, _⟩ := h
  rcases hr with ⟨_, rfl⟩ | ⟨h1, _⟩
  · exact ⟨g, c, B, d, rfl⟩
  · cases h1
theorem CutI.app {X W W' : World} {j : Nat} {v v' x : Value} (xs : List Value) (hx : xs.length = j) (ho : W.ownsRow X.heap.size 9 1 v j xs) (hb : Below X.heap.size X W) (ho' : W'.ownsRow X.heap.size 9 1 v' (j + 1) (xs ++ [x])) (hg : W.grownBy W' v.ownBlock) : CutI X (j + 1) v' W' :=
  ⟨xs ++ [x], by simp [hx], ho', hb.grown hg hb.size (fun k e => (ho.lt k e).1)⟩

set_option maxRecDepth 100000 in
set_option maxHeartbeats 2000000 in
theorem refusesCore (S : Nat → Prop) (root c s : ByteArray) (n p : Int) (v : Value) (l : List ByteArray) (w : World) (hv : Strs S w v l) (hR : RoundOK w) (hl : l.length ≤ maxLen)
    (hsane : ∀ W : World, RoundOK W → Calls Tryz.prog 6 #[] W fun e w' => e = .returned (.bool true) ∧ Below W.heap.size W w') :
    Calls Tryz.prog 4 #[.string root, .int .i64 n, .agg #[.int .i64 p, .string c, .string s], v] w fun e w' => e = .returned (.bool true) ∧ Below w.heap.size w w' := by
  obtain ⟨X, hX⟩ : ∃ X, X = w.alloc (.cells #[.int .i64 p, .string c, .string s] 52) := ⟨_, rfl⟩
  have HE0 := Lib.hid (show Below w.heap.size w X by rw [hX]; exact (Below.refl _ _).alloc (Nat.le_refl _) _)
  have HB0 := Lib.hid (show Blk X w.heap.size 52 #[.int .i64 p, .string c, .string s] by rw [hX]; exact Blk.new _ _ _)
  have HV := Lib.hid hv
  have HR := Lib.hid hR
  have HL := Lib.hid hl
  have HX := Lib.hid hX
  have HS := Lib.hid (hsane X (hR.below HE0.out))
  obtain ⟨A, cap, rfl, hc, _⟩ := hv
  clear hX hR hl hsane
  obtain ⟨is, his, hzs0, hzs1, hzs2⟩ := info_parts str_info
  have hcut := run_cut40
  go_enter Tryz.func4, Tryz.ntmps4
  go_wp2_with fail
  rw [← HX.out]
  refine HS.out.mono ?_
  rintro e W1 ⟨rfl, hb1⟩
  have HE1 := Lib.hid (HE0.out.trans (hb1.mono HE0.out.size))
  have HB1 := Lib.hid (HB0.out.ext hb1)
  clear hb1
  go_upto_block 0 with (fail)
  go_cut [10, 11] from 28 to 51 (fun lv i W => ∃ j : Nat, i = .int .i64 j ∧ CutI W1 j lv W)
  case first =>
      go_wp2_with fail
      go_loopw [10, 11] (fun lv i W => ∃ j : Nat, j ≤ 5 ∧ j ≤ l.length ∧ i = .int .i64 j ∧ CutI W1 j lv W) (fun _ i _ => 5 - (intOf i).toNat)
      case atStart => exact ⟨0, by omega, Nat.zero_le _, rfl, ⟨[], rfl, World.ownsRow_nil _ _ _ _, Below.refl _ _⟩⟩
      case round =>
        obtain ⟨j, hj5, hjl, rfl, hI⟩ := hrel
        obtain ⟨A3, c3, rfl⟩ := hI.shape
        have HI := Lib.hid hI
        clear hI
        by_cases hlt : j < l.length
        · obtain ⟨b, off, c', hA, _, hS, hcell⟩ := HV.out.at_ hlt
          injection hA with hA hn' hc'
          subst hA; subst hc'
          clear hn'
          have hbw : Below w.heap.size w wr := HE1.out.trans (HI.out.below.mono HE1.out.size)
          have cx := (hbw.cell (p := ⟨b, off + j, none⟩) (lt_of_cell hcell)).trans hcell
          obtain ⟨x, hx⟩ : ∃ x, x = l.getD j ⟨#[]⟩ := ⟨_, rfl⟩
          rw [← hx] at cx
          clear hx hcell
          by_cases h5 : j < 5
          · obtain ⟨xs, hxl, hown, hbI⟩ := HI.out
            have HO := Lib.hid hown
            have HBI := Lib.hid hbI
            have HXL := Lib.hid hxl
            clear hown hbI hxl
            have q0 : (0 : Int) ≤ (j : Int) := by omega
            have q1 : (j : Int) < (l.length : Int) := by omega
            have q2 : (j : Int) < 5 := by omega
            have q3 : (min (x.size : Int) 40) ≤ (x.size : Int) := by omega
            have q4 : (0 : Int) ≤ (min (x.size : Int) 40) := by omega
            have d1 : decide ((j : Int) < (l.length : Int)) = true := by simp; omega
            have d2 : decide ((j : Int) < 5) = true := by simp; omega
            have e2 : IntKind.i64.wrap ((j : Int) + 1) = (j : Int) + 1 := by rw [IntWalk.i64_in _ (by omega)]
            have hz1 : W1.heap.size ≤ wr.heap.size := HBI.out.size
            go_wp2_with fail
            have HO2 := Lib.hid (fun o : Obj => own_below HO.out (((Below.refl _ _).alloc (Nat.le_refl _) o).drew))
            have HC2 := Lib.hid (fun v : Value => fun (i : Nat) (u : Value) (h : [v][i]? = some u) => (show (wr.alloc (.cells #[v] 9)).drew.cell? ((⟨wr.heap.size, 0, none⟩ : Addr).add i) = some u from cell_one_new wr v 9 i u h))
            refine wp_region_noPanic ?_
            go_region_law (refine step_append_own rfl (.tmp 38) (.tmp 50) 53 rfl W1.heap.size 9 is (.string ⟨#[]⟩) 1 16 Tryz.underlying53 his hzs0 hzs1 hzs2 rfl (by decide) (.slice A3 j c3) j xs (by rfl) (HO2.out _) ⟨wr.heap.size, 0, none⟩ 1 1 [.string (x.extract 0 (min (x.size : Int) 40).toNat)] (by rfl) rfl (HC2.out _) ?_ ?_ ?_ ?_ ?_; (simp [Value.oneCell']); (unfold maxLen; omega); omega; (show W1.heap.size ≤ (wr.alloc _).heap.size; rw [World.size_alloc]; omega); intro v2 W3 ho3 hg3)
            all_goals
              refine NoPanic.normal ?_
              have H4 := Lib.hid (show CutI W1 (j + 1) v2 W3 from CutI.app xs HXL.out (HO2.out _) ((HBI.out.alloc hz1 _).drew) ho3 hg3)
              clear hg3 ho3 HO2 HC2 HO HBI cx
              go_wp2_with fail
              go_roundw
              case rel => exact ⟨j + 1, by omega, by omega, by go_num, H4.out⟩
              case measure => simp [intOf]; omega
          · have d1 : decide ((j : Int) < (l.length : Int)) = true := by simp; omega
            have d2 : decide ((j : Int) < 5) = false := by simp; omega
            go_wp2_with fail
            go_meet
            case rel => exact ⟨j, rfl, HI.out⟩
        · have d1 : decide ((j : Int) < (l.length : Int)) = false := by simp; omega
          go_wp2_with fail
          go_meet
          case rel => exact ⟨j, rfl, HI.out⟩
  case rest =>
      obtain ⟨j, rfl, hI⟩ := hcut
      obtain ⟨A3, c3, rfl⟩ := hI.shape
      have hEc : Below w.heap.size w wc := HE1.out.trans (hI.below.mono HE1.out.size)
      have hBc : Blk wc w.heap.size 52 #[.int .i64 p, .string c, .string s] := HB1.out.ext hI.below
      obtain ⟨b0, b1, b2⟩ := cells3 hBc
      have f1 := hBc.frozen 1
      have f2 := hBc.frozen 2
      have HBc := Lib.hid hBc
      have HEc := Lib.hid hEc
      clear hI hEc hBc HB1 HE1 HS HX HB0 HE0 his hzs0 hzs1 hzs2
      generalize root.extract 0 (min (root.size : Int) 40).toNat = r
      go_wp2_with fail
      generalize c.extract 0 (min (c.size : Int) 40).toNat = c'
      generalize s.extract 0 (min (s.size : Int) 40).toNat = s'
      obtain ⟨Y, hY⟩ : ∃ Y, Y = (wc.setCell ⟨w.heap.size, 1, none⟩ (.string c')).setCell ⟨w.heap.size, 2, none⟩ (.string s') := ⟨_, rfl⟩
      have HEY := Lib.hid (show Below w.heap.size w Y by rw [hY]; exact ext_set (ext_set HEc.out (Nat.le_refl _) _) (Nat.le_refl _) _)
      have HBY := Lib.hid (show Blk Y w.heap.size 52 #[.int .i64 p, .string c', .string s'] by rw [hY]; exact (HBc.out.set_ 1 _).set_ 2 _)
      have HGa := Lib.hid (show w.heap.size ≤ Y.heap.size from HEY.out.size)
      rw [← hY]
      clear hY b0 b1 b2 f1 f2 HBc HEc
      refine (audNew Y).mono ?_
      rintro e W2 ⟨rfl, hw⟩
      have E2 := Lib.hid (show Below Y.heap.size Y W2 by rw [← hw]; exact ext_alloc (ext_new _ _) _)
      have A2 := Lib.hid (show AudAt W2 (Y.heap.size + 1) Y.heap.size (-1) ⟨#[]⟩ #[] 0 by rw [← hw]; exact ⟨Blk.new' _ _ _ (by simp), (MapAt.new Y).alloc _⟩)
      clear hw
      go_wp2_with fail
      refine (answer0 W2 (HR.out.below (ext_call HEY.out E2.out))).mono ?_
      rintro e W3 ⟨va, rfl, han, hb3⟩
      obtain ⟨g, d, B, m, rfl⟩ := han.litA
      have hZ : Below Y.heap.size Y (W3.alloc (.cells #[.int .i64 3, .int .i64 0, .int .i64 0, .int .i64 0, .int .i64 0, .int .i64 0, .int .i64 0, .slice none 0 0, .int .i64 0, .bool false, .int .i64 0, .int .i64 0, .int .i64 0, .slice (some ⟨g, 0, none⟩) 1 d, .slice B 0 m] 39)) := ext_alloc (ext_call E2.out hb3) _
      have AZ := Lib.hid ((A2.out.ext hb3).ext (ext_new W3 (.cells #[.int .i64 3, .int .i64 0, .int .i64 0, .int .i64 0, .int .i64 0, .int .i64 0, .int .i64 0, .slice none 0 0, .int .i64 0, .bool false, .int .i64 0, .int .i64 0, .int .i64 0, .slice (some ⟨g, 0, none⟩) 1 d, .slice B 0 m] 39)))
      have NZ := Lib.hid (han.ext (ext_new W3 (.cells #[.int .i64 3, .int .i64 0, .int .i64 0, .int .i64 0, .int .i64 0, .int .i64 0, .int .i64 0, .slice none 0 0, .int .i64 0, .bool false, .int .i64 0, .int .i64 0, .int .i64 0, .slice (some ⟨g, 0, none⟩) 1 d, .slice B 0 m] 39)))
      have BZ := Lib.hid (Blk.new W3 39 #[.int .i64 3, .int .i64 0, .int .i64 0, .int .i64 0, .int .i64 0, .int .i64 0, .int .i64 0, .slice none 0 0, .int .i64 0, .bool false, .int .i64 0, .int .i64 0, .int .i64 0, .slice (some ⟨g, 0, none⟩) 1 d, .slice B 0 m])
      have HZ := Lib.hid (HBY.out.ext hZ)
      have EZ := Lib.hid (ext_call HEY.out hZ)
      have RZ := Lib.hid (HR.out.below EZ.out)
      obtain ⟨h0, h1, h2⟩ := cells3 HZ.out
      clear hb3 han hZ A2 E2 HBY HEY HR
      go_wp2_with fail
      generalize World.alloc W3 (.cells #[.int .i64 3, .int .i64 0, .int .i64 0, .int .i64 0, .int .i64 0, .int .i64 0, .int .i64 0, .slice none 0 0, .int .i64 0, .bool false, .int .i64 0, .int .i64 0, .int .i64 0, .slice (some ⟨g, 0, none⟩) 1 d, .slice B 0 m] 39) = Z at *
      generalize W3.heap.size = ba at *
      generalize hga : Y.heap.size + 1 = ga at *
      have HGa2 := Lib.hid (show w.heap.size ≤ ga by have := HGa.out; omega)
      generalize Y.heap.size = gm at *
      clear hga HGa
      refine (showNo ga gm 0 _ p c' s' (.slice A3 j c3) Z AZ.out).mono ?_
      rintro e W4 ⟨rfl, hb4⟩
      have E4 := Lib.hid hb4
      clear hb4 h0 h1 h2
      obtain ⟨a0, a1, a2, a3, a4, a5, a6, a7, a8, a9, a10, a11, a12, a13, a14⟩ := cells15 (BZ.out.ext E4.out)
      go_wp2_with fail
      refine (audCheckNo0 ga gm 0 _ _ g d B m W4 (AZ.out.ext E4.out) (NZ.out.ext E4.out)).mono ?_
      rintro e W5 ⟨rfl, hb5⟩
      have E5 := Lib.hid (ext_call E4.out hb5)
      clear hb5 a0 a1 a2 a3 a4 a5 a6 a7 a8 a9 a10 a11 a12 a13 a14
      obtain ⟨a0, a1, a2, a3, a4, a5, a6, a7, a8, a9, a10, a11, a12, a13, a14⟩ := cells15 (BZ.out.ext E5.out)
      go_wp2_with fail
      refine (audAtNo0 ga gm 0 _ _ g d B m W5 (AZ.out.ext E5.out) (NZ.out.ext E5.out)).mono ?_
      rintro e W6 ⟨rfl, hb6⟩
      have E6 := Lib.hid (ext_call E5.out hb6)
      have A6 := Lib.hid (AZ.out.ext E6.out)
      have X6 := Lib.hid (ext_call EZ.out E6.out)
      have H6 := Lib.hid (HZ.out.ext E6.out)
      have B6 := Lib.hid (BZ.out.ext E6.out)
      have hlg := A6.out.1.lt
      have NeH := Lib.hid (show w.heap.size ≠ ga from fun e => by
        have h1 := H6.out
        have h2 := A6.out.1
        unfold Blk at h1 h2
        rw [e, h2] at h1
        cases h1)
      have NeB := Lib.hid (show ba ≠ ga from fun e => by
        have h1 := B6.out
        have h2 := A6.out.1
        unfold Blk at h1 h2
        rw [e, h2] at h1
        cases h1)
      clear hlg hb6 a0 a1 a2 a3 a4 a5 a6 a7 a8 a9 a10 a11 a12 a13 a14 E4 E5 E6 AZ NZ BZ HZ EZ
      go_upto_region 13 with (fail)
      go_cut [16] from 91 to 95 (fun e W => Below w.heap.size w W ∧ Blk W w.heap.size 52 #[.int .i64 p, .string c', .string s'] ∧ Blk W ba 39 #[.int .i64 3, .int .i64 0, .int .i64 0, .int .i64 0, .int .i64 0, .int .i64 0, .int .i64 0, .slice none 0 0, .int .i64 0, .bool false, .int .i64 0, .int .i64 0, .int .i64 0, .slice (some ⟨g, 0, none⟩) 1 d, .slice B 0 m] ∧
        ((Hid ((r.size : Int) = 32 ∧ 0 ≤ n ∧ n ≤ 10000 ∧ j = 0) ∧ e = .int .i64 0 ∧ AudAt W ga gm n r #[] 0) ∨ (Hid (¬ ((r.size : Int) = 32 ∧ 0 ≤ n ∧ n ≤ 10000 ∧ j = 0)) ∧ e = .int .i64 290 ∧ AudAt W ga gm (-1) ⟨#[]⟩ #[] 0)))
      case first =>
          by_cases hg : (r.size : Int) = 32 ∧ 0 ≤ n ∧ n ≤ 10000 ∧ j = 0
          · obtain ⟨g1, g2, g3, rfl⟩ := hg
            have HL2 := Lib.hid (learnFirst ga gm 0 #[] ⟨#[]⟩ r n A3 c3 W6 A6.out (by omega) g2 g3)
            have HG := Lib.hid (show (r.size : Int) = 32 ∧ 0 ≤ n ∧ n ≤ 10000 ∧ (0 : Nat) = 0 from ⟨g1, g2, g3, rfl⟩)
            clear g1 g2 g3
            go_wp2_with fail
            refine HL2.out.mono ?_
            rintro e W7 ⟨rfl, hA7, hx7⟩
            have X7 := Lib.hid (Ext2.below X6.out HGa2.out HGa2.out hx7)
            have H7 := Lib.hid (H6.out.ext2 hx7 NeH.out NeH.out)
            have B7 := Lib.hid (B6.out.ext2 hx7 NeB.out NeB.out)
            have A7 := Lib.hid hA7
            clear hA7 hx7
            go_wp2_with fail
            go_meet
            case rel => exact ⟨X7.out, H7.out, B7.out, .inl ⟨HG, rfl, A7.out⟩⟩
          · have HL2 := Lib.hid (learnBad ga gm 0 #[] ⟨#[]⟩ r n A3 j c3 W6 A6.out hg)
            have HG := Lib.hid hg
            clear hg
            go_wp2_with fail
            refine HL2.out.mono ?_
            rintro e W7 ⟨rfl, hb7⟩
            have E7 := Lib.hid hb7
            clear hb7
            go_wp2_with fail
            go_meet
            case rel => exact ⟨ext_call X6.out E7.out, H6.out.ext E7.out, B6.out.ext E7.out, .inr ⟨HG, rfl, A6.out.ext E7.out⟩⟩
      case rest =>
          obtain ⟨hX7, hH7, hB7, hor⟩ := hcut
          generalize wc = W7 at *
          have X7 := Lib.hid hX7
          have H7 := Lib.hid hH7
          have B7 := Lib.hid hB7
          have HO := Lib.hid hor
          clear hX7 hH7 hB7 hor A6 X6 H6 B6 NeH NeB
          go_upto_region 14 with (fail)
          go_cut [17] from 96 to 111 (fun gv W => W = W7 ∧ gv = .bool (decide ((r.size : Int) = 32 ∧ 0 ≤ n ∧ n ≤ 10000 ∧ j = 0)))
          case first =>
              by_cases g1 : (r.size : Int) = 32
              · by_cases g2 : 0 ≤ n
                · by_cases g3 : n ≤ 10000
                  · by_cases g4 : j = 0
                    · have e : decide ((r.size : Int) = 32 ∧ 0 ≤ n ∧ n ≤ 10000 ∧ j = 0) = true := decide_eq_true ⟨g1, g2, g3, g4⟩
                      have d4 : ((j : Int) == 0) = true := by simp [g4]
                      have E := Lib.hid e
                      clear e
                      go_wp2_with fail
                      go_meet
                      case rel => exact ⟨rfl, by rw [E.out]⟩
                    · have e : decide ((r.size : Int) = 32 ∧ 0 ≤ n ∧ n ≤ 10000 ∧ j = 0) = false := decide_eq_false fun h => g4 h.2.2.2
                      have d4 : ((j : Int) == 0) = false := by simpa using g4
                      have E := Lib.hid e
                      clear e
                      go_wp2_with fail
                      go_meet
                      case rel => exact ⟨rfl, by rw [E.out]⟩
                  · have e : decide ((r.size : Int) = 32 ∧ 0 ≤ n ∧ n ≤ 10000 ∧ j = 0) = false := decide_eq_false fun h => g3 h.2.2.1
                    have E := Lib.hid e
                    clear e
                    go_wp2_with fail
                    go_meet
                    case rel => exact ⟨rfl, by rw [E.out]⟩
                · have e : decide ((r.size : Int) = 32 ∧ 0 ≤ n ∧ n ≤ 10000 ∧ j = 0) = false := decide_eq_false fun h => g2 h.2.1
                  have E := Lib.hid e
                  clear e
                  go_wp2_with fail
                  go_meet
                  case rel => exact ⟨rfl, by rw [E.out]⟩
              · have e : decide ((r.size : Int) = 32 ∧ 0 ≤ n ∧ n ≤ 10000 ∧ j = 0) = false := decide_eq_false fun h => g1 h.1
                have E := Lib.hid e
                clear e
                go_wp2_with fail
                go_meet
                case rel => exact ⟨rfl, by rw [E.out]⟩
          case rest =>
              obtain ⟨hw, rfl⟩ := hcut
              subst hw
              generalize wc = W7 at *
              go_upto_region 15 with (fail)
              go_cut [16, 17, 137] from 112 to 137 (fun _ _ t W => W = W7 ∧ t = .bool false)
              case first =>
                  rcases HO.out with ⟨hg, rfl, hA⟩ | ⟨hg, rfl, hA⟩
                  · have e : decide ((r.size : Int) = 32 ∧ 0 ≤ n ∧ n ≤ 10000 ∧ j = 0) = true := decide_eq_true hg.out
                    rw [e]
                    have HA := Lib.hid hA
                    clear hA hg e HO
                    go_wp2_with (go_at_call 12; refine (audSize _ _ _ _ _ _ _ HA.out).mono ?_; rintro e w' ⟨rfl, rfl⟩)
                    go_meet
                    case rel => exact ⟨rfl, rfl⟩
                  · have e : decide ((r.size : Int) = 32 ∧ 0 ≤ n ∧ n ≤ 10000 ∧ j = 0) = false := decide_eq_false hg.out
                    rw [e]
                    have HA := Lib.hid hA
                    clear hA hg e HO
                    go_wp2_with (go_at_call 12; refine (audSize _ _ _ _ _ _ _ HA.out).mono ?_; rintro e w' ⟨rfl, rfl⟩)
                    go_meet
                    case rel => exact ⟨rfl, rfl⟩
              case rest =>
                  obtain ⟨hw, rfl⟩ := hcut
                  subst hw
                  generalize wc = W7 at *

                  clear HO
                  obtain ⟨a0, a1, a2, a3, a4, a5, a6, a7, a8, a9, a10, a11, a12, a13, a14⟩ := cells15 B7.out
                  go_wp2_with fail
                  refine (settleNil g d B m W7).mono ?_
                  rintro e W8 ⟨rfl, hb8⟩
                  have E8 := Lib.hid hb8
                  clear hb8 a0 a1 a2 a3 a4 a5 a6 a7 a8 a9 a10 a11 a12 a13 a14
                  go_wp2_with (go_at_call 12; refine (audSizeNil _).mono ?_; rintro e w' ⟨rfl, rfl⟩)
                  refine (learnNil r n (.slice A3 j c3) W8).mono ?_
                  rintro e W9 ⟨rfl, hb9⟩
                  have E9 := Lib.hid (ext_call E8.out hb9)
                  clear hb9
                  obtain ⟨h0, h1, h2⟩ := cells3 (H7.out.ext E9.out)
                  go_wp2_with fail
                  refine (showNil p c' s' (.slice A3 j c3) W9).mono ?_
                  rintro e W10 ⟨rfl, hb10⟩
                  have E10 := Lib.hid (ext_call E9.out hb10)
                  clear hb10 h0 h1 h2
                  obtain ⟨a0, a1, a2, a3, a4, a5, a6, a7, a8, a9, a10, a11, a12, a13, a14⟩ := cells15 (B7.out.ext E10.out)
                  go_wp2_with fail
                  refine (audCheckNil g d B m W10).mono ?_
                  rintro e W11 ⟨rfl, hb11⟩
                  have E11 := Lib.hid (ext_call E10.out hb11)
                  clear hb11 a0 a1 a2 a3 a4 a5 a6 a7 a8 a9 a10 a11 a12 a13 a14
                  obtain ⟨a0, a1, a2, a3, a4, a5, a6, a7, a8, a9, a10, a11, a12, a13, a14⟩ := cells15 (B7.out.ext E11.out)
                  go_wp2_with fail
                  refine (audAtNil g d B m W11).mono ?_
                  rintro e W12 ⟨rfl, hb12⟩
                  have E12 := Lib.hid (ext_call E11.out hb12)
                  clear hb12 a0 a1 a2 a3 a4 a5 a6 a7 a8 a9 a10 a11 a12 a13 a14
                  go_wp2
                  go_ret
                  exact ⟨rfl, ext_call X7.out E12.out⟩

end Go.Proofs.YtimoapjhepmehaaGreatDoor
