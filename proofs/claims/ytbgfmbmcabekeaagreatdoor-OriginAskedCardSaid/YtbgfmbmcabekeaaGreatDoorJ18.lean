/-
  package message: Valid at a message that asks for records; package origin: ask, Receive of such a message.
-/
import Derived.Test.YtbgfmbmcabekeaaGreatDoorJ17
set_option linter.unusedSimpArgs false
set_option linter.unusedVariables false

namespace Go.Proofs.YtbgfmbmcabekeaaGreatDoor
open Go.RowKit Go.Shelf

attribute [local go_sem ↓] ld_exec ld_sem bd_exec bd_sem
set_option maxRecDepth 100000 in
set_option maxHeartbeats 4000000 in
theorem validAsk (n F L : Int) (hn0 : 0 ≤ n) (hn1 : n ≤ 23) (hF : 1 ≤ F) (hFL : F ≤ L) (hL : L ≤ 77) (hLF : L - F ≤ 63) (w : World) : Calls Tryz.prog 17 #[.agg #[.int .i64 3, .int .i64 n, .int .i64 100, .int .i64 0, .int .i64 0, .int .i64 0, .int .i64 0, .int .i64 0, .int .i64 F, .int .i64 L, .int .i64 0, .int .i64 0, .int .i64 0, .int .i64 0, .int .i64 0, .int .i64 0, .int .i64 0, .int .i64 0, .slice none 0 0, .int .i64 0, .int .i64 0, .int .i64 0, .int .i64 0, .int .i64 0, .int .i64 0, .int .i64 0, .int .i64 0, .int .i64 0, .slice none 0 0, .int .i64 0, .int .i64 0, .int .i64 0, .int .i64 0, .int .i64 0, .int .i64 0, .int .i64 0, .slice none 0 0, .int .i64 0, .bool false, .int .i64 0, .int .i64 0, .int .i64 0, .slice none 0 0, .slice none 0 0, .int .i64 0, .slice none 0 0, .slice none 0 0]] w fun e w' => e = .returned (.bool true) ∧ Below w.heap.size w w' := by
  obtain ⟨va, hva⟩ : ∃ va : Array Value, va = #[.int .i64 3, .int .i64 n, .int .i64 100, .int .i64 0, .int .i64 0, .int .i64 0, .int .i64 0, .int .i64 0, .int .i64 F, .int .i64 L, .int .i64 0, .int .i64 0, .int .i64 0, .int .i64 0, .int .i64 0, .int .i64 0, .int .i64 0, .int .i64 0, .slice none 0 0, .int .i64 0, .int .i64 0, .int .i64 0, .int .i64 0, .int .i64 0, .int .i64 0, .int .i64 0, .int .i64 0, .int .i64 0, .slice none 0 0, .int .i64 0, .int .i64 0, .int .i64 0, .int .i64 0, .int .i64 0, .int .i64 0, .int .i64 0, .slice none 0 0, .int .i64 0, .bool false, .int .i64 0, .int .i64 0, .int .i64 0, .slice none 0 0, .slice none 0 0, .int .i64 0, .slice none 0 0, .slice none 0 0] := ⟨_, rfl⟩
  obtain ⟨oa, hoa⟩ : ∃ oa : Array Value, oa = #[.int .i64 3, .int .i64 n, .int .i64 100, .int .i64 0, .int .i64 0, .int .i64 0, .int .i64 0, .int .i64 0, .int .i64 0, .int .i64 0, .int .i64 0, .int .i64 0, .int .i64 0, .int .i64 0, .int .i64 0, .int .i64 0, .int .i64 0, .int .i64 0, .slice none 0 0, .int .i64 0, .int .i64 0, .int .i64 0, .int .i64 0, .int .i64 0, .int .i64 0, .int .i64 0, .int .i64 0, .int .i64 0, .slice none 0 0, .int .i64 0, .int .i64 0, .int .i64 0, .int .i64 0, .int .i64 0, .int .i64 0, .int .i64 0, .slice none 0 0, .int .i64 0, .bool false, .int .i64 0, .int .i64 0, .int .i64 0, .slice none 0 0, .slice none 0 0, .int .i64 0, .slice none 0 0, .slice none 0 0] := ⟨_, rfl⟩
  obtain ⟨X0, hX⟩ : ∃ X, X = w.alloc (.cells va 57) := ⟨_, rfl⟩
  have HX := Lib.hid hX
  have HE := Lib.hid (show Below w.heap.size w X0 by rw [hX]; exact ext_new _ _)
  have HB := Lib.hid (show Blk X0 w.heap.size 57 va by rw [hX]; exact Blk.new _ _ _)
  have K1 := Lib.hid (fun W => side_q n hn0 hn1 W)
  have K2 := Lib.hid sideO_q
  have K4 := Lib.hid (fun W => mw_qy (0) 0 1000000 (by omega) (by omega) W)
  have K6 := Lib.hid (fun W => mw_qn (0) 1 4611686018427387903 (by omega) W)
  have K3 := Lib.hid (fun W => mw_qn (0) 1 1000000 (by omega) W)
  have K7 := Lib.hid (fun W => mw_qy (0) 0 1000000 (by omega) (by omega) W)
  have K5 := Lib.hid (fun W => mw_qy (0) 0 7 (by omega) (by omega) W)
  have HVA := Lib.hid hva
  have HOA := Lib.hid hoa
  rw [← hva]
  clear hX hva hoa
  go_enter Tryz.func17, Tryz.ntmps17
  go_upto_region 1 with (fail)
  rw [← HX.out]
  have a1 := (HB.out.cell 1).trans (show _ = some (.int .i64 n) by rw [HVA.out]; rfl)
  have a2 := (HB.out.cell 2).trans (show _ = some (.int .i64 100) by rw [HVA.out]; rfl)
  go_quiet (first | (go_at_call 45; with_reducible refine Calls.quiet_of_same (K1.out _)) | (go_at_call 45; with_reducible refine Calls.quiet_of_same (K2.out _)))
  clear a1 a2
  obtain ⟨X1, hX1⟩ : ∃ X1, X1 = X0.drewN nq := ⟨_, rfl⟩
  rw [← hX1]
  have HE1 := Lib.hid (show Below X0.heap.size X0 X1 by rw [hX1]; exact ext_drewN (ext_refl _) _)
  clear hX1
  obtain ⟨bd1, bd2⟩ := bd_of w (P := Tryz.prog) (t := 57) (ps := #[(0, .int .i64 3), (1, .int .i64 n), (2, .int .i64 100)]) (cs := oa) (by rw [HOA.out]; kernel_rfl)
  have a0 := ((HB.out.ext HE1.out).cell 0).trans (show _ = some (.int .i64 3) by rw [HVA.out]; rfl)
  have a1 := ((HB.out.ext HE1.out).cell 1).trans (show _ = some (.int .i64 n) by rw [HVA.out]; rfl)
  have a2 := ((HB.out.ext HE1.out).cell 2).trans (show _ = some (.int .i64 100) by rw [HVA.out]; rfl)
  have HZ := Lib.hid (Blk.new X1 57 #[.int .i64 0, .int .i64 0, .int .i64 0, .int .i64 0, .int .i64 0, .int .i64 0, .int .i64 0, .int .i64 0, .int .i64 0, .int .i64 0, .int .i64 0, .int .i64 0, .int .i64 0, .int .i64 0, .int .i64 0, .int .i64 0, .int .i64 0, .int .i64 0, .slice none 0 0, .int .i64 0, .int .i64 0, .int .i64 0, .int .i64 0, .int .i64 0, .int .i64 0, .int .i64 0, .int .i64 0, .int .i64 0, .slice none 0 0, .int .i64 0, .int .i64 0, .int .i64 0, .int .i64 0, .int .i64 0, .int .i64 0, .int .i64 0, .slice none 0 0, .int .i64 0, .bool false, .int .i64 0, .int .i64 0, .int .i64 0, .slice none 0 0, .slice none 0 0, .int .i64 0, .slice none 0 0, .slice none 0 0])
  have HI := Lib.hid (show (Tryz.prog.info? 57).map (·.size) = some oa.size by rw [HOA.out]; kernel_rfl)
  have HSZ := Lib.hid (show (#[.int .i64 0, .int .i64 0, .int .i64 0, .int .i64 0, .int .i64 0, .int .i64 0, .int .i64 0, .int .i64 0, .int .i64 0, .int .i64 0, .int .i64 0, .int .i64 0, .int .i64 0, .int .i64 0, .int .i64 0, .int .i64 0, .int .i64 0, .int .i64 0, .slice none 0 0, .int .i64 0, .int .i64 0, .int .i64 0, .int .i64 0, .int .i64 0, .int .i64 0, .int .i64 0, .int .i64 0, .int .i64 0, .slice none 0 0, .int .i64 0, .int .i64 0, .int .i64 0, .int .i64 0, .int .i64 0, .int .i64 0, .int .i64 0, .slice none 0 0, .int .i64 0, .bool false, .int .i64 0, .int .i64 0, .int .i64 0, .slice none 0 0, .slice none 0 0, .int .i64 0, .slice none 0 0, .slice none 0 0] : Array Value).size = oa.size by rw [HOA.out]; rfl)
  have H1 := Lib.hid (show oa.all (·.oneCell') = true by rw [HOA.out]; simp [Value.oneCell'])
  go_upto_region 4 with (refine wpList_store_blk rfl 57 (.tmp 7) (.tmp 38) rfl X1.heap.size oa rfl rfl 57 #[.int .i64 0, .int .i64 0, .int .i64 0, .int .i64 0, .int .i64 0, .int .i64 0, .int .i64 0, .int .i64 0, .int .i64 0, .int .i64 0, .int .i64 0, .int .i64 0, .int .i64 0, .int .i64 0, .int .i64 0, .int .i64 0, .int .i64 0, .int .i64 0, .slice none 0 0, .int .i64 0, .int .i64 0, .int .i64 0, .int .i64 0, .int .i64 0, .int .i64 0, .int .i64 0, .int .i64 0, .int .i64 0, .slice none 0 0, .int .i64 0, .int .i64 0, .int .i64 0, .int .i64 0, .int .i64 0, .int .i64 0, .int .i64 0, .slice none 0 0, .int .i64 0, .bool false, .int .i64 0, .int .i64 0, .int .i64 0, .slice none 0 0, .slice none 0 0, .int .i64 0, .slice none 0 0, .slice none 0 0] HZ.out HI.out HSZ.out H1.out ?_; intro X2 hB2 hg2; have HO2 := Lib.hid hB2; have HE2 := Lib.hid ((ext_alloc HE1.out (.cells #[.int .i64 0, .int .i64 0, .int .i64 0, .int .i64 0, .int .i64 0, .int .i64 0, .int .i64 0, .int .i64 0, .int .i64 0, .int .i64 0, .int .i64 0, .int .i64 0, .int .i64 0, .int .i64 0, .int .i64 0, .int .i64 0, .int .i64 0, .int .i64 0, .slice none 0 0, .int .i64 0, .int .i64 0, .int .i64 0, .int .i64 0, .int .i64 0, .int .i64 0, .int .i64 0, .int .i64 0, .int .i64 0, .slice none 0 0, .int .i64 0, .int .i64 0, .int .i64 0, .int .i64 0, .int .i64 0, .int .i64 0, .int .i64 0, .slice none 0 0, .int .i64 0, .bool false, .int .i64 0, .int .i64 0, .int .i64 0, .slice none 0 0, .slice none 0 0, .int .i64 0, .slice none 0 0, .slice none 0 0] 57)).grown hg2 (ext_alloc HE1.out (.cells #[.int .i64 0, .int .i64 0, .int .i64 0, .int .i64 0, .int .i64 0, .int .i64 0, .int .i64 0, .int .i64 0, .int .i64 0, .int .i64 0, .int .i64 0, .int .i64 0, .int .i64 0, .int .i64 0, .int .i64 0, .int .i64 0, .int .i64 0, .int .i64 0, .slice none 0 0, .int .i64 0, .int .i64 0, .int .i64 0, .int .i64 0, .int .i64 0, .int .i64 0, .int .i64 0, .int .i64 0, .int .i64 0, .slice none 0 0, .int .i64 0, .int .i64 0, .int .i64 0, .int .i64 0, .int .i64 0, .int .i64 0, .int .i64 0, .slice none 0 0, .int .i64 0, .bool false, .int .i64 0, .int .i64 0, .int .i64 0, .slice none 0 0, .slice none 0 0, .int .i64 0, .slice none 0 0, .slice none 0 0] 57)).size (fun k e => by injection e with e; have := HE1.out.size; omega)); clear hB2 hg2)
  clear a0 a1 a2 bd1 bd2 HZ HI HSZ H1
  have HN := Lib.hid (show X0.heap.size ≤ X1.heap.size from HE1.out.size)
  have a4 := ((HB.out.ext HE2.out).cell 4).trans (show _ = some (.int .i64 0) by rw [HVA.out]; rfl)
  have a6 := ((HB.out.ext HE2.out).cell 6).trans (show _ = some (.int .i64 0) by rw [HVA.out]; rfl)
  go_quiet (first | (go_at_call 46; with_reducible refine Calls.quiet_of_same (K4.out _)) | (go_at_call 46; with_reducible refine Calls.quiet_of_same (K6.out _)))
  clear a4 a6
  obtain ⟨X3, hX3⟩ : ∃ X3, X3 = X2.drewN nq := ⟨_, rfl⟩
  rw [← hX3]
  have HE3 := Lib.hid (show Below X0.heap.size X0 X3 by rw [hX3]; exact ext_drewN HE2.out _)
  have HO3 := Lib.hid (show Blk X3 X1.heap.size 57 oa by rw [hX3]; exact HO2.out.ext (ext_drewN (ext_refl _) _))
  clear hX3
  go_upto_region 5 with (fail)
  have a3 := ((HB.out.ext HE3.out).cell 3).trans (show _ = some (.int .i64 0) by rw [HVA.out]; rfl)
  have a7 := ((HB.out.ext HE3.out).cell 7).trans (show _ = some (.int .i64 0) by rw [HVA.out]; rfl)
  go_quiet (first | (go_at_call 46; with_reducible refine Calls.quiet_of_same (K3.out _)) | (go_at_call 46; with_reducible refine Calls.quiet_of_same (K7.out _)))
  clear a3 a7
  obtain ⟨X4, hX4⟩ : ∃ X4, X4 = X3.drewN nq := ⟨_, rfl⟩
  rw [← hX4]
  have HE4 := Lib.hid (show Below X0.heap.size X0 X4 by rw [hX4]; exact ext_drewN HE3.out _)
  have HO4 := Lib.hid (show Blk X4 X1.heap.size 57 oa by rw [hX4]; exact HO3.out.ext (ext_drewN (ext_refl _) _))
  clear hX4
  have a5 := ((HB.out.ext HE4.out).cell 5).trans (show _ = some (.int .i64 0) by rw [HVA.out]; rfl)
  have a0 := ((HB.out.ext HE4.out).cell 0).trans (show _ = some (.int .i64 3) by rw [HVA.out]; rfl)
  go_upto_region 16 with (go_at_call 46; with_reducible refine (K5.out _).mono ?_; rintro e w' ⟨rfl, hw5⟩; subst w')
  clear a5 a0
  have a8 := ((HB.out.ext HE4.out).cell 8).trans (show _ = some (.int .i64 F) by rw [HVA.out]; rfl)
  have a9 := ((HB.out.ext HE4.out).cell 9).trans (show _ = some (.int .i64 L) by rw [HVA.out]; rfl)
  have c8 := (HO4.out.cell 8).trans (show _ = some (.int .i64 0) by rw [HOA.out]; rfl)
  have c9 := (HO4.out.cell 9).trans (show _ = some (.int .i64 0) by rw [HOA.out]; rfl)
  have g8 := HO4.out.frozen 8
  have g9 := HO4.out.frozen 9
  go_region
  obtain ⟨Y, hY⟩ : ∃ Y, Y = (((X4).setCell ⟨X1.heap.size, 8, none⟩ (.int .i64 F)).setCell ⟨X1.heap.size, 9, none⟩ (.int .i64 L)).drew := ⟨_, rfl⟩
  rw [← hY]
  have HEY := Lib.hid (show Below w.heap.size w Y by rw [hY]; exact (ext_set (ext_set (ext_call HE.out HE4.out) (Nat.le_trans HE.out.size HN.out) _) (Nat.le_trans HE.out.size HN.out) _).drew)
  have HBY := Lib.hid (show Blk Y w.heap.size 57 va by rw [hY]; exact Blk.drew (((HB.out.ext HE4.out).far (by have := HB.out.lt; have := HN.out; simp; omega) _).far (by have := HB.out.lt; have := HN.out; simp; omega) _))
  have HOY := Lib.hid (show Blk Y X1.heap.size 57 va by rw [hY]; have h9 := Blk.drew (((HO4.out).set_ 8 (.int .i64 F)).set_ 9 (.int .i64 L)); rwa [show ((oa).setIfInBounds 8 (.int .i64 F)).setIfInBounds 9 (.int .i64 L) = va by rw [HOA.out, HVA.out]; kernel_rfl] at h9)
  clear hY a8 a9 c8 c9 g8 g9
  have a8 := (HBY.out.cell 8).trans (show _ = some (.int .i64 F) by rw [HVA.out]; rfl)
  have a9 := (HBY.out.cell 9).trans (show _ = some (.int .i64 L) by rw [HVA.out]; rfl)
  have d1 : decide (F ≥ 1) = true := by simp; omega
  have d2 : decide (F ≤ L) = true := by simp; omega
  have d3 : decide (L ≤ 10000) = true := by simp; omega
  have e1 : IntKind.i64.wrap (L - F) = L - F := IntWalk.i64_in _ (by omega)
  have d4 : decide (L - F < 64) = true := by simp; omega
  have l1 := ld_blk (P := Tryz.prog) HBY.out (show Array.extract va 0 47 = va by rw [HVA.out]; kernel_rfl) Tryz.underlying57 rfl (by rw [HVA.out]; kernel_rfl)
  have l2 := ld_blk (P := Tryz.prog) HOY.out (show Array.extract va 0 47 = va by rw [HVA.out]; kernel_rfl) Tryz.underlying57 rfl (by rw [HVA.out]; kernel_rfl)
  obtain ⟨l1, e11⟩ := l1
  obtain ⟨l2, e12⟩ := l2
  have HS := Lib.hid (show ∀ W, Calls Tryz.prog 51 #[.agg va, .agg va] W fun e w' => e = .returned (.bool true) ∧ Below W.heap.size W w' by rw [HVA.out]; exact msgSame (3) (n) (100) (0) (0) (0) (0) (0) (F) (L) (0) (0) (0) (0) (0) (0) (0))
  go_wp2_with (go_at_call 51; with_reducible refine (HS.out _).mono ?_; rintro e W9 ⟨rfl, hb9⟩; have HE9 := Lib.hid (ext_call HEY.out hb9); clear hb9)
  go_ret
  exact ⟨rfl, HE9.out⟩

set_option maxRecDepth 100000 in
set_option maxHeartbeats 4000000 in
theorem validAsk3 (n F L : Int) (hn0 : 0 ≤ n) (hn1 : n ≤ 23) (hF : 1 ≤ F) (hFL : F ≤ L) (hL : L ≤ 77) (hLF : L - F ≤ 63) (w : World) : Calls Tryz.prog 17 #[.agg #[.int .i64 3, .int .i64 n, .int .i64 3, .int .i64 0, .int .i64 0, .int .i64 0, .int .i64 0, .int .i64 0, .int .i64 F, .int .i64 L, .int .i64 0, .int .i64 0, .int .i64 0, .int .i64 0, .int .i64 0, .int .i64 0, .int .i64 0, .int .i64 0, .slice none 0 0, .int .i64 0, .int .i64 0, .int .i64 0, .int .i64 0, .int .i64 0, .int .i64 0, .int .i64 0, .int .i64 0, .int .i64 0, .slice none 0 0, .int .i64 0, .int .i64 0, .int .i64 0, .int .i64 0, .int .i64 0, .int .i64 0, .int .i64 0, .slice none 0 0, .int .i64 0, .bool false, .int .i64 0, .int .i64 0, .int .i64 0, .slice none 0 0, .slice none 0 0, .int .i64 0, .slice none 0 0, .slice none 0 0]] w fun e w' => e = .returned (.bool false) ∧ Below w.heap.size w w' := by
  obtain ⟨va, hva⟩ : ∃ va : Array Value, va = #[.int .i64 3, .int .i64 n, .int .i64 3, .int .i64 0, .int .i64 0, .int .i64 0, .int .i64 0, .int .i64 0, .int .i64 F, .int .i64 L, .int .i64 0, .int .i64 0, .int .i64 0, .int .i64 0, .int .i64 0, .int .i64 0, .int .i64 0, .int .i64 0, .slice none 0 0, .int .i64 0, .int .i64 0, .int .i64 0, .int .i64 0, .int .i64 0, .int .i64 0, .int .i64 0, .int .i64 0, .int .i64 0, .slice none 0 0, .int .i64 0, .int .i64 0, .int .i64 0, .int .i64 0, .int .i64 0, .int .i64 0, .int .i64 0, .slice none 0 0, .int .i64 0, .bool false, .int .i64 0, .int .i64 0, .int .i64 0, .slice none 0 0, .slice none 0 0, .int .i64 0, .slice none 0 0, .slice none 0 0] := ⟨_, rfl⟩
  obtain ⟨oa, hoa⟩ : ∃ oa : Array Value, oa = #[.int .i64 3, .int .i64 n, .int .i64 3, .int .i64 0, .int .i64 0, .int .i64 0, .int .i64 0, .int .i64 0, .int .i64 0, .int .i64 0, .int .i64 0, .int .i64 0, .int .i64 0, .int .i64 0, .int .i64 0, .int .i64 0, .int .i64 0, .int .i64 0, .slice none 0 0, .int .i64 0, .int .i64 0, .int .i64 0, .int .i64 0, .int .i64 0, .int .i64 0, .int .i64 0, .int .i64 0, .int .i64 0, .slice none 0 0, .int .i64 0, .int .i64 0, .int .i64 0, .int .i64 0, .int .i64 0, .int .i64 0, .int .i64 0, .slice none 0 0, .int .i64 0, .bool false, .int .i64 0, .int .i64 0, .int .i64 0, .slice none 0 0, .slice none 0 0, .int .i64 0, .slice none 0 0, .slice none 0 0] := ⟨_, rfl⟩
  obtain ⟨X0, hX⟩ : ∃ X, X = w.alloc (.cells va 57) := ⟨_, rfl⟩
  have HX := Lib.hid hX
  have HE := Lib.hid (show Below w.heap.size w X0 by rw [hX]; exact ext_new _ _)
  have HB := Lib.hid (show Blk X0 w.heap.size 57 va by rw [hX]; exact Blk.new _ _ _)
  have K1 := Lib.hid (fun W => side_q n hn0 hn1 W)
  have K2 := Lib.hid (fun W => side_q 3 (by omega) (by omega) W)
  have K4 := Lib.hid (fun W => mw_qy (0) 0 1000000 (by omega) (by omega) W)
  have K6 := Lib.hid (fun W => mw_qn (0) 1 4611686018427387903 (by omega) W)
  have K3 := Lib.hid (fun W => mw_qn (0) 1 1000000 (by omega) W)
  have K7 := Lib.hid (fun W => mw_qy (0) 0 1000000 (by omega) (by omega) W)
  have K5 := Lib.hid (fun W => mw_qy (0) 0 7 (by omega) (by omega) W)
  have HVA := Lib.hid hva
  have HOA := Lib.hid hoa
  rw [← hva]
  clear hX hva hoa
  go_enter Tryz.func17, Tryz.ntmps17
  go_upto_region 1 with (fail)
  rw [← HX.out]
  have a1 := (HB.out.cell 1).trans (show _ = some (.int .i64 n) by rw [HVA.out]; rfl)
  have a2 := (HB.out.cell 2).trans (show _ = some (.int .i64 3) by rw [HVA.out]; rfl)
  go_quiet (first | (go_at_call 45; with_reducible refine Calls.quiet_of_same (K1.out _)) | (go_at_call 45; with_reducible refine Calls.quiet_of_same (K2.out _)))
  clear a1 a2
  obtain ⟨X1, hX1⟩ : ∃ X1, X1 = X0.drewN nq := ⟨_, rfl⟩
  rw [← hX1]
  have HE1 := Lib.hid (show Below X0.heap.size X0 X1 by rw [hX1]; exact ext_drewN (ext_refl _) _)
  clear hX1
  obtain ⟨bd1, bd2⟩ := bd_of w (P := Tryz.prog) (t := 57) (ps := #[(0, .int .i64 3), (1, .int .i64 n), (2, .int .i64 3)]) (cs := oa) (by rw [HOA.out]; kernel_rfl)
  have a0 := ((HB.out.ext HE1.out).cell 0).trans (show _ = some (.int .i64 3) by rw [HVA.out]; rfl)
  have a1 := ((HB.out.ext HE1.out).cell 1).trans (show _ = some (.int .i64 n) by rw [HVA.out]; rfl)
  have a2 := ((HB.out.ext HE1.out).cell 2).trans (show _ = some (.int .i64 3) by rw [HVA.out]; rfl)
  have HZ := Lib.hid (Blk.new X1 57 #[.int .i64 0, .int .i64 0, .int .i64 0, .int .i64 0, .int .i64 0, .int .i64 0, .int .i64 0, .int .i64 0, .int .i64 0, .int .i64 0, .int .i64 0, .int .i64 0, .int .i64 0, .int .i64 0, .int .i64 0, .int .i64 0, .int .i64 0, .int .i64 0, .slice none 0 0, .int .i64 0, .int .i64 0, .int .i64 0, .int .i64 0, .int .i64 0, .int .i64 0, .int .i64 0, .int .i64 0, .int .i64 0, .slice none 0 0, .int .i64 0, .int .i64 0, .int .i64 0, .int .i64 0, .int .i64 0, .int .i64 0, .int .i64 0, .slice none 0 0, .int .i64 0, .bool false, .int .i64 0, .int .i64 0, .int .i64 0, .slice none 0 0, .slice none 0 0, .int .i64 0, .slice none 0 0, .slice none 0 0])
  have HI := Lib.hid (show (Tryz.prog.info? 57).map (·.size) = some oa.size by rw [HOA.out]; kernel_rfl)
  have HSZ := Lib.hid (show (#[.int .i64 0, .int .i64 0, .int .i64 0, .int .i64 0, .int .i64 0, .int .i64 0, .int .i64 0, .int .i64 0, .int .i64 0, .int .i64 0, .int .i64 0, .int .i64 0, .int .i64 0, .int .i64 0, .int .i64 0, .int .i64 0, .int .i64 0, .int .i64 0, .slice none 0 0, .int .i64 0, .int .i64 0, .int .i64 0, .int .i64 0, .int .i64 0, .int .i64 0, .int .i64 0, .int .i64 0, .int .i64 0, .slice none 0 0, .int .i64 0, .int .i64 0, .int .i64 0, .int .i64 0, .int .i64 0, .int .i64 0, .int .i64 0, .slice none 0 0, .int .i64 0, .bool false, .int .i64 0, .int .i64 0, .int .i64 0, .slice none 0 0, .slice none 0 0, .int .i64 0, .slice none 0 0, .slice none 0 0] : Array Value).size = oa.size by rw [HOA.out]; rfl)
  have H1 := Lib.hid (show oa.all (·.oneCell') = true by rw [HOA.out]; simp [Value.oneCell'])
  go_upto_region 4 with (refine wpList_store_blk rfl 57 (.tmp 7) (.tmp 38) rfl X1.heap.size oa rfl rfl 57 #[.int .i64 0, .int .i64 0, .int .i64 0, .int .i64 0, .int .i64 0, .int .i64 0, .int .i64 0, .int .i64 0, .int .i64 0, .int .i64 0, .int .i64 0, .int .i64 0, .int .i64 0, .int .i64 0, .int .i64 0, .int .i64 0, .int .i64 0, .int .i64 0, .slice none 0 0, .int .i64 0, .int .i64 0, .int .i64 0, .int .i64 0, .int .i64 0, .int .i64 0, .int .i64 0, .int .i64 0, .int .i64 0, .slice none 0 0, .int .i64 0, .int .i64 0, .int .i64 0, .int .i64 0, .int .i64 0, .int .i64 0, .int .i64 0, .slice none 0 0, .int .i64 0, .bool false, .int .i64 0, .int .i64 0, .int .i64 0, .slice none 0 0, .slice none 0 0, .int .i64 0, .slice none 0 0, .slice none 0 0] HZ.out HI.out HSZ.out H1.out ?_; intro X2 hB2 hg2; have HO2 := Lib.hid hB2; have HE2 := Lib.hid ((ext_alloc HE1.out (.cells #[.int .i64 0, .int .i64 0, .int .i64 0, .int .i64 0, .int .i64 0, .int .i64 0, .int .i64 0, .int .i64 0, .int .i64 0, .int .i64 0, .int .i64 0, .int .i64 0, .int .i64 0, .int .i64 0, .int .i64 0, .int .i64 0, .int .i64 0, .int .i64 0, .slice none 0 0, .int .i64 0, .int .i64 0, .int .i64 0, .int .i64 0, .int .i64 0, .int .i64 0, .int .i64 0, .int .i64 0, .int .i64 0, .slice none 0 0, .int .i64 0, .int .i64 0, .int .i64 0, .int .i64 0, .int .i64 0, .int .i64 0, .int .i64 0, .slice none 0 0, .int .i64 0, .bool false, .int .i64 0, .int .i64 0, .int .i64 0, .slice none 0 0, .slice none 0 0, .int .i64 0, .slice none 0 0, .slice none 0 0] 57)).grown hg2 (ext_alloc HE1.out (.cells #[.int .i64 0, .int .i64 0, .int .i64 0, .int .i64 0, .int .i64 0, .int .i64 0, .int .i64 0, .int .i64 0, .int .i64 0, .int .i64 0, .int .i64 0, .int .i64 0, .int .i64 0, .int .i64 0, .int .i64 0, .int .i64 0, .int .i64 0, .int .i64 0, .slice none 0 0, .int .i64 0, .int .i64 0, .int .i64 0, .int .i64 0, .int .i64 0, .int .i64 0, .int .i64 0, .int .i64 0, .int .i64 0, .slice none 0 0, .int .i64 0, .int .i64 0, .int .i64 0, .int .i64 0, .int .i64 0, .int .i64 0, .int .i64 0, .slice none 0 0, .int .i64 0, .bool false, .int .i64 0, .int .i64 0, .int .i64 0, .slice none 0 0, .slice none 0 0, .int .i64 0, .slice none 0 0, .slice none 0 0] 57)).size (fun k e => by injection e with e; have := HE1.out.size; omega)); clear hB2 hg2)
  clear a0 a1 a2 bd1 bd2 HZ HI HSZ H1
  have HN := Lib.hid (show X0.heap.size ≤ X1.heap.size from HE1.out.size)
  have a4 := ((HB.out.ext HE2.out).cell 4).trans (show _ = some (.int .i64 0) by rw [HVA.out]; rfl)
  have a6 := ((HB.out.ext HE2.out).cell 6).trans (show _ = some (.int .i64 0) by rw [HVA.out]; rfl)
  go_quiet (first | (go_at_call 46; with_reducible refine Calls.quiet_of_same (K4.out _)) | (go_at_call 46; with_reducible refine Calls.quiet_of_same (K6.out _)))
  clear a4 a6
  obtain ⟨X3, hX3⟩ : ∃ X3, X3 = X2.drewN nq := ⟨_, rfl⟩
  rw [← hX3]
  have HE3 := Lib.hid (show Below X0.heap.size X0 X3 by rw [hX3]; exact ext_drewN HE2.out _)
  have HO3 := Lib.hid (show Blk X3 X1.heap.size 57 oa by rw [hX3]; exact HO2.out.ext (ext_drewN (ext_refl _) _))
  clear hX3
  go_upto_region 5 with (fail)
  have a3 := ((HB.out.ext HE3.out).cell 3).trans (show _ = some (.int .i64 0) by rw [HVA.out]; rfl)
  have a7 := ((HB.out.ext HE3.out).cell 7).trans (show _ = some (.int .i64 0) by rw [HVA.out]; rfl)
  go_quiet (first | (go_at_call 46; with_reducible refine Calls.quiet_of_same (K3.out _)) | (go_at_call 46; with_reducible refine Calls.quiet_of_same (K7.out _)))
  clear a3 a7
  obtain ⟨X4, hX4⟩ : ∃ X4, X4 = X3.drewN nq := ⟨_, rfl⟩
  rw [← hX4]
  have HE4 := Lib.hid (show Below X0.heap.size X0 X4 by rw [hX4]; exact ext_drewN HE3.out _)
  have HO4 := Lib.hid (show Blk X4 X1.heap.size 57 oa by rw [hX4]; exact HO3.out.ext (ext_drewN (ext_refl _) _))
  clear hX4
  have a5 := ((HB.out.ext HE4.out).cell 5).trans (show _ = some (.int .i64 0) by rw [HVA.out]; rfl)
  have a0 := ((HB.out.ext HE4.out).cell 0).trans (show _ = some (.int .i64 3) by rw [HVA.out]; rfl)
  go_upto_region 16 with (go_at_call 46; with_reducible refine (K5.out _).mono ?_; rintro e w' ⟨rfl, hw5⟩; subst w')
  clear a5 a0
  have a8 := ((HB.out.ext HE4.out).cell 8).trans (show _ = some (.int .i64 F) by rw [HVA.out]; rfl)
  have a9 := ((HB.out.ext HE4.out).cell 9).trans (show _ = some (.int .i64 L) by rw [HVA.out]; rfl)
  have c8 := (HO4.out.cell 8).trans (show _ = some (.int .i64 0) by rw [HOA.out]; rfl)
  have c9 := (HO4.out.cell 9).trans (show _ = some (.int .i64 0) by rw [HOA.out]; rfl)
  have g8 := HO4.out.frozen 8
  have g9 := HO4.out.frozen 9
  go_region
  obtain ⟨Y, hY⟩ : ∃ Y, Y = (((X4).setCell ⟨X1.heap.size, 8, none⟩ (.int .i64 F)).setCell ⟨X1.heap.size, 9, none⟩ (.int .i64 L)).drew := ⟨_, rfl⟩
  rw [← hY]
  have HEY := Lib.hid (show Below w.heap.size w Y by rw [hY]; exact (ext_set (ext_set (ext_call HE.out HE4.out) (Nat.le_trans HE.out.size HN.out) _) (Nat.le_trans HE.out.size HN.out) _).drew)
  have HBY := Lib.hid (show Blk Y w.heap.size 57 va by rw [hY]; exact Blk.drew (((HB.out.ext HE4.out).far (by have := HB.out.lt; have := HN.out; simp; omega) _).far (by have := HB.out.lt; have := HN.out; simp; omega) _))
  have HOY := Lib.hid (show Blk Y X1.heap.size 57 va by rw [hY]; have h9 := Blk.drew (((HO4.out).set_ 8 (.int .i64 F)).set_ 9 (.int .i64 L)); rwa [show ((oa).setIfInBounds 8 (.int .i64 F)).setIfInBounds 9 (.int .i64 L) = va by rw [HOA.out, HVA.out]; kernel_rfl] at h9)
  clear hY a8 a9 c8 c9 g8 g9
  have a8 := (HBY.out.cell 8).trans (show _ = some (.int .i64 F) by rw [HVA.out]; rfl)
  have a9 := (HBY.out.cell 9).trans (show _ = some (.int .i64 L) by rw [HVA.out]; rfl)
  have d1 : decide (F ≥ 1) = true := by simp; omega
  have d2 : decide (F ≤ L) = true := by simp; omega
  have d3 : decide (L ≤ 10000) = true := by simp; omega
  have e1 : IntKind.i64.wrap (L - F) = L - F := IntWalk.i64_in _ (by omega)
  have d4 : decide (L - F < 64) = true := by simp; omega
  go_wp2
  go_ret
  exact ⟨rfl, HEY.out⟩

set_option maxRecDepth 100000 in
set_option maxHeartbeats 4000000 in
theorem askG (B gs gl first last : Nat) (rv hv : Value) (R : List (List ChgT × Nat × Nat)) (H : List (ByteArray × ByteArray)) (hf : 1 ≤ first) (hf2 : first ≤ 14) (hR : R.length ≤ 1000) (hG : ∀ x ∈ R, GoodL x.1) (n : Int) (w : World) (h0 : w.cell? ⟨gs, 0, none⟩ = some (.pointer (some ⟨gl, 0, none⟩))) (hl : LogG B w gl rv hv R H) :
    Calls Tryz.prog 91 #[.pointer (some ⟨gs, 0, none⟩), .agg #[.int .i64 3, .int .i64 n, .int .i64 100, .int .i64 0, .int .i64 0, .int .i64 0, .int .i64 0, .int .i64 0, .int .i64 (first : Int), .int .i64 (last : Int), .int .i64 0, .int .i64 0, .int .i64 0, .int .i64 0, .int .i64 0, .int .i64 0, .int .i64 0, .int .i64 0, .slice none 0 0, .int .i64 0, .int .i64 0, .int .i64 0, .int .i64 0, .int .i64 0, .int .i64 0, .int .i64 0, .int .i64 0, .int .i64 0, .slice none 0 0, .int .i64 0, .int .i64 0, .int .i64 0, .int .i64 0, .int .i64 0, .int .i64 0, .int .i64 0, .slice none 0 0, .int .i64 0, .bool false, .int .i64 0, .int .i64 0, .int .i64 0, .slice none 0 0, .slice none 0 0, .int .i64 0, .slice none 0 0, .slice none 0 0]] w fun e w' => ∃ v xs, e = .returned v ∧ xs.length = nRec first last R.length ∧ w'.ownsRow w.heap.size 57 47 v xs.length (mcN n xs) ∧ (∀ (i : Nat) (x : Nat × Nat × Nat × Nat), xs[i]? = some x → RecMG first R i x w') ∧ Below w.heap.size w w' := by
  obtain ⟨va, hva⟩ : ∃ va : Array Value, va = #[.int .i64 3, .int .i64 n, .int .i64 100, .int .i64 0, .int .i64 0, .int .i64 0, .int .i64 0, .int .i64 0, .int .i64 (first : Int), .int .i64 (last : Int), .int .i64 0, .int .i64 0, .int .i64 0, .int .i64 0, .int .i64 0, .int .i64 0, .int .i64 0, .int .i64 0, .slice none 0 0, .int .i64 0, .int .i64 0, .int .i64 0, .int .i64 0, .int .i64 0, .int .i64 0, .int .i64 0, .int .i64 0, .int .i64 0, .slice none 0 0, .int .i64 0, .int .i64 0, .int .i64 0, .int .i64 0, .int .i64 0, .int .i64 0, .int .i64 0, .slice none 0 0, .int .i64 0, .bool false, .int .i64 0, .int .i64 0, .int .i64 0, .slice none 0 0, .slice none 0 0, .int .i64 0, .slice none 0 0, .slice none 0 0] := ⟨_, rfl⟩
  obtain ⟨X, hX⟩ : ∃ X, X = w.alloc (.cells va 57) := ⟨_, rfl⟩
  have HX := Lib.hid hX
  have HE := Lib.hid (show Below w.heap.size w X by rw [hX]; exact ext_new _ _)
  have HB := Lib.hid (show Blk X w.heap.size 57 va by rw [hX]; exact Blk.new _ _ _)
  have HVA := Lib.hid hva
  have a1 := (HB.out.cell 1).trans (show _ = some (.int .i64 n) by rw [HVA.out]; rfl)
  have a8 := (HB.out.cell 8).trans (show _ = some (.int .i64 (first : Int)) by rw [HVA.out]; rfl)
  have a9 := (HB.out.cell 9).trans (show _ = some (.int .i64 (last : Int)) by rw [HVA.out]; rfl)
  have HC := Lib.hid (copiesG B gs gl first last rv hv R H hf (by omega) hR hG n X (cell_ext h0 HE.out) (hl.ext HE.out))
  rw [← hva]
  clear hX hva h0 hl hG
  go_enter Tryz.func91, Tryz.ntmps91
  go_upto_region 1 with (fail)
  rw [← HX.out]
  go_wp2_with fail
  refine HC.out.mono ?_
  rintro e W1 ⟨v, xs, rfl, h1, h2, h3, h4⟩
  have H2 := Lib.hid (own_base h2 HE.out.size)
  have H3 := Lib.hid h3
  have H4 := Lib.hid (ext_call HE.out h4)
  clear h2 h3 h4
  go_wp2
  go_ret
  exact ⟨v, xs, rfl, h1, H2.out, H3.out, H4.out⟩

set_option maxRecDepth 100000 in
set_option maxHeartbeats 4000000 in
theorem recvAsk (B gs gl first last : Nat) (rv hv : Value) (R : List (List ChgT × Nat × Nat)) (H : List (ByteArray × ByteArray)) (hf : 1 ≤ first) (hf2 : first ≤ 14) (hR : R.length ≤ 1000) (hG : ∀ x ∈ R, GoodL x.1) (n : Int) (hn0 : 0 ≤ n) (hn1 : n ≤ 23) (hfl : first ≤ last) (hll : last ≤ 77) (hlf : last - first ≤ 63) (w : World) (h0 : w.cell? ⟨gs, 0, none⟩ = some (.pointer (some ⟨gl, 0, none⟩))) (hl : LogG B w gl rv hv R H) :
    Calls Tryz.prog 20 #[.pointer (some ⟨gs, 0, none⟩), .agg #[.int .i64 3, .int .i64 n, .int .i64 100, .int .i64 0, .int .i64 0, .int .i64 0, .int .i64 0, .int .i64 0, .int .i64 (first : Int), .int .i64 (last : Int), .int .i64 0, .int .i64 0, .int .i64 0, .int .i64 0, .int .i64 0, .int .i64 0, .int .i64 0, .int .i64 0, .slice none 0 0, .int .i64 0, .int .i64 0, .int .i64 0, .int .i64 0, .int .i64 0, .int .i64 0, .int .i64 0, .int .i64 0, .int .i64 0, .slice none 0 0, .int .i64 0, .int .i64 0, .int .i64 0, .int .i64 0, .int .i64 0, .int .i64 0, .int .i64 0, .slice none 0 0, .int .i64 0, .bool false, .int .i64 0, .int .i64 0, .int .i64 0, .slice none 0 0, .slice none 0 0, .int .i64 0, .slice none 0 0, .slice none 0 0]] w fun e w' => ∃ v xs, e = .returned v ∧ xs.length = nRec first last R.length ∧ w'.ownsRow w.heap.size 57 47 v xs.length (mcN n xs) ∧ (∀ (i : Nat) (x : Nat × Nat × Nat × Nat), xs[i]? = some x → RecMG first R i x w') ∧ Below w.heap.size w w' := by
  obtain ⟨va, hva⟩ : ∃ va : Array Value, va = #[.int .i64 3, .int .i64 n, .int .i64 100, .int .i64 0, .int .i64 0, .int .i64 0, .int .i64 0, .int .i64 0, .int .i64 (first : Int), .int .i64 (last : Int), .int .i64 0, .int .i64 0, .int .i64 0, .int .i64 0, .int .i64 0, .int .i64 0, .int .i64 0, .int .i64 0, .slice none 0 0, .int .i64 0, .int .i64 0, .int .i64 0, .int .i64 0, .int .i64 0, .int .i64 0, .int .i64 0, .int .i64 0, .int .i64 0, .slice none 0 0, .int .i64 0, .int .i64 0, .int .i64 0, .int .i64 0, .int .i64 0, .int .i64 0, .int .i64 0, .slice none 0 0, .int .i64 0, .bool false, .int .i64 0, .int .i64 0, .int .i64 0, .slice none 0 0, .slice none 0 0, .int .i64 0, .slice none 0 0, .slice none 0 0] := ⟨_, rfl⟩
  obtain ⟨X, hX⟩ : ∃ X, X = w.alloc (.cells va 57) := ⟨_, rfl⟩
  have HX := Lib.hid hX
  have HE := Lib.hid (show Below w.heap.size w X by rw [hX]; exact ext_new _ _)
  have HB := Lib.hid (show Blk X w.heap.size 57 va by rw [hX]; exact Blk.new _ _ _)
  have HVA := Lib.hid hva
  have HV := Lib.hid (show ∀ W, Calls Tryz.prog 17 #[.agg va] W fun e w' => e = .returned (.bool true) ∧ Below W.heap.size W w' by rw [hva]; intro W; exact validAsk n (first : Int) (last : Int) hn0 hn1 (by omega) (by omega) (by omega) (by omega) W)
  have HH := Lib.hid (show ∀ W, Below w.heap.size w W → Calls Tryz.prog 91 #[.pointer (some ⟨gs, 0, none⟩), .agg va] W fun e w' => ∃ v xs, e = .returned v ∧ xs.length = nRec first last R.length ∧ w'.ownsRow W.heap.size 57 47 v xs.length (mcN n xs) ∧ (∀ (i : Nat) (x : Nat × Nat × Nat × Nat), xs[i]? = some x → RecMG first R i x w') ∧ Below W.heap.size W w' by rw [hva]; intro W k; exact askG B gs gl first last rv hv R H hf hf2 hR hG n W (cell_ext h0 k) (hl.ext k))
  rw [← hva]
  clear hX hva hG h0 hl
  have l1 := ld_blk (P := Tryz.prog) HB.out (show Array.extract va 0 47 = va by rw [HVA.out]; kernel_rfl) Tryz.underlying57 rfl (by rw [HVA.out]; kernel_rfl)
  obtain ⟨l1, e1⟩ := l1
  go_enter Tryz.func20, Tryz.ntmps20
  go_upto_region 1 with (fail)
  rw [← HX.out]
  go_wp2_with fail
  refine (HV.out X).mono ?_
  rintro e Z ⟨rfl, hbz⟩
  have HEZ := Lib.hid (ext_call HE.out hbz)
  have HBZ := Lib.hid (HB.out.ext hbz)
  clear hbz l1 e1
  have a2 := (HBZ.out.cell 2).trans (show _ = some (.int .i64 100) by rw [HVA.out]; rfl)
  have a0 := (HBZ.out.cell 0).trans (show _ = some (.int .i64 3) by rw [HVA.out]; rfl)
  have HAn := Lib.hid (fun (W : World) (k : Below Z.heap.size Z W) => show Calls Tryz.prog 52 #[] W fun e w' => ∃ g, e = .returned (.map (some g)) ∧ w'.cell? ⟨w.heap.size, 0, none⟩ = some (.int .i64 3) ∧ (Instr.lookup 119 (.map (some g)) (.int .i64 3) true).run Tryz.prog w' = .ok (.tuple #[.func (.func 91) #[] #[], .bool true]) w' ∧ Below W.heap.size W w' from (answers_any W).mono fun e w' ⟨g, h1, _, h3, h4⟩ =>
      ⟨g, h1, cell_ext (cell_ext a0 k) h4, lookup_Iok (P := Tryz.prog) (w := w') Tryz.underlying119 Tryz.underlying3 h3 3 (z := .nilFunc) (by kernel_rfl), h4⟩)
  go_upto_region 3 with (fail)
  go_region_with (go_at_call 52; refine (HAn.out _ (by first | exact ext_refl Z | exact (ext_refl Z).drew)).mono ?_; rintro e W1 ⟨g, rfl, hk1, hlk, hb1⟩)
  all_goals
    have HE1 := Lib.hid (ext_call HEZ.out (undrew hb1))
    have l1 := ld_blk (P := Tryz.prog) (HBZ.out.ext (undrew hb1)) (show Array.extract va 0 47 = va by rw [HVA.out]; kernel_rfl) Tryz.underlying57 rfl (by rw [HVA.out]; kernel_rfl)
    obtain ⟨l1, e1⟩ := l1
    clear hb1 hlk hk1 a0 a2
    go_wp2_with fail
    refine (HH.out W1 HE1.out).mono ?_
    rintro e W2 ⟨v, xs, rfl, h1, h2, h3, h4⟩
    have H2 := Lib.hid (own_base h2 HE1.out.size)
    have H3 := Lib.hid h3
    have H4 := Lib.hid (ext_call HE1.out h4)
    clear h2 h3 h4
    go_wp2
    go_ret
    exact ⟨v, xs, rfl, h1, H2.out, H3.out, H4.out⟩

set_option maxRecDepth 100000 in
set_option maxHeartbeats 4000000 in
theorem recvAsk3 (n F L : Int) (hn0 : 0 ≤ n) (hn1 : n ≤ 23) (hF : 1 ≤ F) (hFL : F ≤ L) (hL : L ≤ 77) (hLF : L - F ≤ 63) (gs : Nat) (w : World) :
    Calls Tryz.prog 20 #[.pointer (some ⟨gs, 0, none⟩), .agg #[.int .i64 3, .int .i64 n, .int .i64 3, .int .i64 0, .int .i64 0, .int .i64 0, .int .i64 0, .int .i64 0, .int .i64 F, .int .i64 L, .int .i64 0, .int .i64 0, .int .i64 0, .int .i64 0, .int .i64 0, .int .i64 0, .int .i64 0, .int .i64 0, .slice none 0 0, .int .i64 0, .int .i64 0, .int .i64 0, .int .i64 0, .int .i64 0, .int .i64 0, .int .i64 0, .int .i64 0, .int .i64 0, .slice none 0 0, .int .i64 0, .int .i64 0, .int .i64 0, .int .i64 0, .int .i64 0, .int .i64 0, .int .i64 0, .slice none 0 0, .int .i64 0, .bool false, .int .i64 0, .int .i64 0, .int .i64 0, .slice none 0 0, .slice none 0 0, .int .i64 0, .slice none 0 0, .slice none 0 0]] w fun e w' => e = .returned (.slice none 0 0) ∧ Below w.heap.size w w' := by
  obtain ⟨va, hva⟩ : ∃ va : Array Value, va = #[.int .i64 3, .int .i64 n, .int .i64 3, .int .i64 0, .int .i64 0, .int .i64 0, .int .i64 0, .int .i64 0, .int .i64 F, .int .i64 L, .int .i64 0, .int .i64 0, .int .i64 0, .int .i64 0, .int .i64 0, .int .i64 0, .int .i64 0, .int .i64 0, .slice none 0 0, .int .i64 0, .int .i64 0, .int .i64 0, .int .i64 0, .int .i64 0, .int .i64 0, .int .i64 0, .int .i64 0, .int .i64 0, .slice none 0 0, .int .i64 0, .int .i64 0, .int .i64 0, .int .i64 0, .int .i64 0, .int .i64 0, .int .i64 0, .slice none 0 0, .int .i64 0, .bool false, .int .i64 0, .int .i64 0, .int .i64 0, .slice none 0 0, .slice none 0 0, .int .i64 0, .slice none 0 0, .slice none 0 0] := ⟨_, rfl⟩
  obtain ⟨X, hX⟩ : ∃ X, X = w.alloc (.cells va 57) := ⟨_, rfl⟩
  have HX := Lib.hid hX
  have HE := Lib.hid (show Below w.heap.size w X by rw [hX]; exact ext_new _ _)
  have HB := Lib.hid (show Blk X w.heap.size 57 va by rw [hX]; exact Blk.new _ _ _)
  have HVA := Lib.hid hva
  have HV := Lib.hid (show ∀ W, Calls Tryz.prog 17 #[.agg va] W fun e w' => e = .returned (.bool false) ∧ Below W.heap.size W w' by rw [hva]; intro W; exact validAsk3 n F L hn0 hn1 hF hFL hL hLF W)
  rw [← hva]
  clear hX hva
  have l1 := ld_blk (P := Tryz.prog) HB.out (show Array.extract va 0 47 = va by rw [HVA.out]; kernel_rfl) Tryz.underlying57 rfl (by rw [HVA.out]; kernel_rfl)
  obtain ⟨l1, e1⟩ := l1
  go_enter Tryz.func20, Tryz.ntmps20
  go_upto_region 1 with (fail)
  rw [← HX.out]
  go_wp2_with fail
  refine (HV.out X).mono ?_
  rintro e Z ⟨rfl, hbz⟩
  have HEZ := Lib.hid (ext_call HE.out hbz)
  clear hbz l1 e1
  go_wp2
  go_ret
  exact ⟨rfl, HEZ.out⟩

end Go.Proofs.YtbgfmbmcabekeaaGreatDoor
