/-
  Part 11 of 17: the contracts that the proof of the last part uses; each stands under its own head.
-/
import Derived.Test.YtimoapjhepmehaaGreatDoorJ10
import Derived.Defers
import Derived.Recover
import Derived.Deep.Cut
set_option linter.unusedSimpArgs false
set_option linter.unusedVariables false

/-
  package proof: the deferred calls of Start.
-/
namespace Go.Proofs.YtimoapjhepmehaaGreatDoor
open Go.RowKit
attribute [local go_sem ↓] Go.wp_at_zero Go.wp_at_succ

set_option maxRecDepth 100000 in
set_option maxHeartbeats 1000000 in
theorem startDone (bk bo : Nat) (w : World) (hk : w.cell? ⟨bk, 0, none⟩ = some (.bool true)) :
    CallsD Tryz.prog 95 #[.pointer (some ⟨bk, 0, none⟩), .pointer (some ⟨bo, 0, none⟩)] .returning w fun e u' w' => u' = .returning ∧ (e = .returned (.tuple #[]) ∧ w' = w) := by
  go_enter_d Tryz.func95, Tryz.ntmps95
  go_wp2
  go_end0
  exact ⟨rfl, rfl⟩

set_option maxRecDepth 100000 in
set_option maxHeartbeats 1000000 in
theorem caughtIdle (bk : Nat) (w : World) :
    CallsD Tryz.prog 96 #[.pointer (some ⟨bk, 0, none⟩)] .returning w fun e u' w' => e = .returned (.tuple #[]) ∧ u' = .returning ∧ w' = w := by
  have hta : ∀ w : World, (Instr.typeAssert .nilIface 20 218 true).run Tryz.prog w = .ok (.tuple #[.nilIface, .bool false]) w := fun _ => by kernel_rfl
  refine callsD_of_wpS Tryz.func96 rfl fun c₀ cs hu => ?_
  have hn : Tryz.f96.ntmps = 17 := Tryz.ntmps96
  rw [hn]
  simp only [List.size_toArray, List.length_cons, List.length_nil, Nat.reduceAdd, Nat.reduceSub, Array.replicate_succ, Array.replicate_zero, List.push_toArray, List.append_toArray, List.nil_append, List.cons_append]
  apply wpS_seq
  apply wpS_region
  simp [wpOpsS, go_sem, recoverD, hu, hta, Exit.thenS]
  clear hta hn
  refine wpS_of_wp ?_
  go_wp2
  cases c₀
  simp_all [bodyPostS, results, Tryz.results96]

end Go.Proofs.YtimoapjhepmehaaGreatDoor

/-
  package proof: Start.
-/
namespace Go.Proofs.YtimoapjhepmehaaGreatDoor
open Go.RowKit
attribute [local go_sem ↓] Go.wp_at_zero Go.wp_at_succ

set_option maxRecDepth 100000 in
set_option maxHeartbeats 2000000 in
theorem start1 (g c : Nat) (g1 k1 g2 k2 : Nat) (A : Option Addr) (n d : Nat) (zs : Array Value) (w : World) (hc : 1 ≤ c) (hg : Blk w g 126 (#[.int .i64 0, .int .i64 0, .int .i64 5, .int .i64 5, .int .i64 1, .int .i64 0, .slice (some ⟨g1, 0, none⟩) 1 k1, .slice (some ⟨g2, 0, none⟩) 1 k2, .slice A n d] ++ zs)) (hra : RPx true w #[.int .i64 0, .int .i64 0, .int .i64 5, .int .i64 5, .int .i64 1, .int .i64 0, .slice (some ⟨g1, 0, none⟩) 1 k1, .slice (some ⟨g2, 0, none⟩) 1 k2, .slice A n d]) :
    Calls Tryz.prog 53 #[.agg #[.int .i64 1, .int .i64 0, .int .i64 0, .int .i64 5, .int .i64 5, .int .i64 0, .int .i64 0], .slice (some ⟨g, 0, none⟩) 1 c] w
      fun e w' => ∃ v, e = .returned (.tuple #[.agg #[v, .int .i64 0, .bool false], .bool true]) ∧ RowsAt w' true v ∧ Below w.heap.size w w' := by
  have hmf : ∀ (fn : Fn) (first cap : Array Value) (w : World), (Instr.makeFunc fn first cap).run Tryz.prog w = .ok (.func fn first cap) w := fun _ _ _ _ => rfl
  obtain ⟨W0, hW0⟩ : ∃ W0, W0 = ((w.alloc (.cells #[.int .i64 1, .int .i64 0, .int .i64 0, .int .i64 5, .int .i64 5, .int .i64 0, .int .i64 0] 33)).alloc (.cells #[.slice none 0 0, .int .i64 0, .bool false] 36)).alloc (.cells #[.bool true] 4) := ⟨_, rfl⟩
  have hE0 : Below w.heap.size w W0 := by rw [hW0]; exact ext_alloc (ext_alloc (ext_new _ _) _) _
  have HQ0 := Lib.hid (show Blk W0 w.heap.size 33 #[.int .i64 1, .int .i64 0, .int .i64 0, .int .i64 5, .int .i64 5, .int .i64 0, .int .i64 0] by rw [hW0]; exact ((Blk.new _ _ _).alloc _).alloc _)
  have HO0 := Lib.hid (show Blk W0 (w.heap.size + 1) 36 #[.slice none 0 0, .int .i64 0, .bool false] by rw [hW0]; exact (Blk.new' _ _ _ (by simp)).alloc _)
  have HK0 := Lib.hid (show Blk W0 (w.heap.size + 1 + 1) 4 #[.bool true] by rw [hW0]; exact Blk.new' _ _ _ (by simp))
  have HG0 := Lib.hid (hg.ext hE0)
  have HA0 := Lib.hid (hra.ext hE0)
  have HE0 := Lib.hid hE0
  have HW0 := Lib.hid hW0
  clear hW0 hE0 hg hra
  go_enter_defers Tryz.func53, Tryz.ntmps53
  go_wp2_with fail
  rw [← HW0.out]
  refine (queryValid1 _).mono ?_
  rintro e W1 ⟨rfl, hb1⟩
  have HE1 := Lib.hid (ext_call HE0.out hb1)
  have HQ1 := Lib.hid (HQ0.out.ext hb1)
  have HO1 := Lib.hid (HO0.out.ext hb1)
  have HK1 := Lib.hid (HK0.out.ext hb1)
  have HG1 := Lib.hid (HG0.out.ext hb1)
  have HA1 := Lib.hid (HA0.out.ext hb1)
  have q0 := HQ1.out.cell 0; have q1 := HQ1.out.cell 1; have q2 := HQ1.out.cell 2; have q3 := HQ1.out.cell 3; have q4 := HQ1.out.cell 4; have q5 := HQ1.out.cell 5; have q6 := HQ1.out.cell 6
  have ql := HQ1.out.lt
  clear hb1 HE0 HQ0 HO0 HK0 HG0 HA0 HW0
  go_wp2_with (go_at_call 97; refine (check_yes _).mono ?_; rintro e w' ⟨rfl, rfl⟩)
  refine (proofOf1 _).mono ?_
  rintro e W2 ⟨rfl, hb2⟩
  have HP2 := Lib.hid ((Blk.new W1 183 #[.slice (some ⟨g, 0, none⟩) 1 c]).ext hb2)
  have HE2 := Lib.hid (ext_call (ext_alloc HE1.out _) hb2)
  have HQ2 := Lib.hid ((HQ1.out.alloc _).ext hb2)
  have HO2 := Lib.hid ((HO1.out.alloc _).ext hb2)
  have HK2 := Lib.hid ((HK1.out.alloc _).ext hb2)
  have HG2 := Lib.hid ((HG1.out.alloc _).ext hb2)
  have HA2 := Lib.hid ((HA1.out.ext (ext_new _ _)).ext hb2)
  have HLp := Lib.hid (show w.heap.size ≤ W1.heap.size from HE1.out.size)
  clear hb2 ql q0 q1 q2 q3 q4 q5 q6 HE1 HQ1 HO1 HK1 HG1 HA1
  generalize W1.heap.size = pr at *
  go_wp2_with fail
  refine (read1 pr g c g1 k1 g2 k2 A n d zs _ HP2.out hc HG2.out HA2.out).mono ?_
  rintro e W3 ⟨v, B, m, rfl, hv, hp3, hx3⟩
  obtain ⟨ga, ka, ua, rfl, hka, hga⟩ := rows_one hv
  have HV4 := Lib.hid hga
  clear hka hga
  have hQ3 := HQ2.out.ext2 hx3 (blk_ne HQ2.out HP2.out (by decide)) (blk_ne HQ2.out HP2.out (by decide))
  have HO3 := Lib.hid (HO2.out.ext2 hx3 (blk_ne HO2.out HP2.out (by decide)) (blk_ne HO2.out HP2.out (by decide)))
  have HK3 := Lib.hid (HK2.out.ext2 hx3 (blk_ne HK2.out HP2.out (by decide)) (blk_ne HK2.out HP2.out (by decide)))
  have HE3 := Lib.hid (Ext2.below HE2.out HLp.out HLp.out hx3)
  have q0 := hQ3.cell 0; have q1 := hQ3.cell 1; have q2 := hQ3.cell 2; have q3 := hQ3.cell 3; have q4 := hQ3.cell 4; have q5 := hQ3.cell 5; have q6 := hQ3.cell 6
  have p0 := hp3.cell 0
  clear hv hp3 hx3 hQ3 HE2 HQ2 HO2 HK2 HG2 HA2 HP2
  go_wp2_with (go_at_call 97; refine (check_yes _).mono ?_; rintro e w' ⟨rfl, rfl⟩)
  refine (from1 ga ka ua _ HV4.out _).mono ?_
  rintro e W5 ⟨v5, rfl, hv5, hb5⟩
  obtain ⟨gb, kb, ub, rfl, hkb, hgb⟩ := rows_one hv5
  have HO5 := Lib.hid (HO3.out.ext hb5)
  have HK5 := Lib.hid (HK3.out.ext hb5)
  have HE5 := Lib.hid (ext_call HE3.out hb5)
  have hne : w.heap.size + 1 ≠ w.heap.size + 1 + 1 := by omega
  have HRb := Lib.hid (And.intro hkb (And.intro hgb (And.intro hgb (And.intro (blk_ne hgb HO5.out (by decide)) (blk_ne hgb HK5.out (by decide))))))
  clear hkb hgb hv5
  clear hb5 q0 q1 q2 q3 q4 q5 q6 p0 hne
  have o0 := HO5.out.cell 0; have o1 := HO5.out.cell 1; have o2 := HO5.out.cell 2
  have f0 := HO5.out.frozen 0
  have f1 := HO5.out.frozen 1
  have f2 := HO5.out.frozen 2
  have k0 := HK5.out.cell 0
  have fk := HK5.out.frozen 0
  go_wp2
  generalize hX : World.setCell (World.setCell (World.setCell (World.setCell W5 ⟨w.heap.size + 1, 0, none⟩ (.slice (some ⟨gb, 0, none⟩) 1 kb)) ⟨w.heap.size + 1, 1, none⟩ (.int .i64 0)) ⟨w.heap.size + 1, 2, none⟩ (.bool false)) ⟨w.heap.size + 1 + 1, 0, none⟩ (.bool true) = X
  have hOx : Blk X (w.heap.size + 1) 36 #[.slice (some ⟨gb, 0, none⟩) 1 kb, .int .i64 0, .bool false] := by subst hX; exact ((((HO5.out.set_ 0 _).set_ 1 _).set_ 2 _).far (p := ⟨w.heap.size + 1 + 1, 0, none⟩) (by simp) _)
  have hKx : Blk X (w.heap.size + 1 + 1) 4 #[.bool true] := by subst hX; exact ((((HK5.out.far (p := ⟨w.heap.size + 1, 0, none⟩) (by simp) _).far (p := ⟨w.heap.size + 1, 1, none⟩) (by simp) _).far (p := ⟨w.heap.size + 1, 2, none⟩) (by simp) _).set_ 0 _)
  have hEx : Below w.heap.size w X := by subst hX; exact ext_set (ext_set (ext_set (ext_set HE5.out (by simp) _) (by simp) _) (by simp) _) (by simp; omega) _
  have hRx : RowsAt X true (.slice (some ⟨gb, 0, none⟩) 1 kb) := by subst hX; exact .inr ⟨rfl, gb, kb, ub, rfl, HRb.out.1, (((HRb.out.2.2.1.far (p := ⟨w.heap.size + 1, 0, none⟩) HRb.out.2.2.2.1 _).far (p := ⟨w.heap.size + 1, 1, none⟩) HRb.out.2.2.2.1 _).far (p := ⟨w.heap.size + 1, 2, none⟩) HRb.out.2.2.2.1 _).far (p := ⟨w.heap.size + 1 + 1, 0, none⟩) HRb.out.2.2.2.2 _⟩
  clear hX o0 o1 o2 f0 f1 f2 k0 fk
  have o0 := hOx.cell 0; have o1 := hOx.cell 1; have o2 := hOx.cell 2
  have k0 := hKx.cell 0
  refine leaves_cons (f := 96) (args := #[.pointer (some ⟨w.heap.size + 1 + 1, 0, none⟩)]) (by simp) (by simp [go_sem]) ?_
  refine (caughtIdle _ _).mono ?_
  rintro e u' w'' ⟨rfl, rfl, rfl⟩
  refine leaves_cons (f := 95) (args := #[.pointer (some ⟨w.heap.size + 1 + 1, 0, none⟩), .pointer (some ⟨w.heap.size + 1, 0, none⟩)]) (by simp [settle]) (by simp [go_sem]) ?_
  refine (startDone _ _ _ k0).mono ?_
  rintro e u' w'' ⟨rfl, rfl, rfl⟩
  have HRx := Lib.hid hRx
  have HEx := Lib.hid hEx
  clear hRx hEx hOx hKx
  simp [Leaves, settle, results, Tryz.results53, go_sem, o0, o1, o2, k0]
  exact ⟨HRx.out, HEx.out⟩

set_option maxRecDepth 100000 in
set_option maxHeartbeats 2000000 in
theorem start0 (g c : Nat) (A : Option Addr) (n d : Nat) (zs : Array Value) (w : World) (hc : 1 ≤ c) (hg : Blk w g 126 (#[.int .i64 0, .int .i64 0, .int .i64 0, .int .i64 0, .int .i64 0, .int .i64 0, .slice none 0 0, .slice none 0 0, .slice A n d] ++ zs)) (hra : RPx false w #[.int .i64 0, .int .i64 0, .int .i64 0, .int .i64 0, .int .i64 0, .int .i64 0, .slice none 0 0, .slice none 0 0, .slice A n d]) :
    Calls Tryz.prog 53 #[.agg #[.int .i64 3, .int .i64 0, .int .i64 0, .int .i64 0, .int .i64 0, .int .i64 0, .int .i64 0], .slice (some ⟨g, 0, none⟩) 1 c] w
      fun e w' => ∃ v, e = .returned (.tuple #[.agg #[v, .int .i64 0, .bool false], .bool true]) ∧ RowsAt w' false v ∧ Below w.heap.size w w' := by
  have hmf : ∀ (fn : Fn) (first cap : Array Value) (w : World), (Instr.makeFunc fn first cap).run Tryz.prog w = .ok (.func fn first cap) w := fun _ _ _ _ => rfl
  obtain ⟨W0, hW0⟩ : ∃ W0, W0 = ((w.alloc (.cells #[.int .i64 3, .int .i64 0, .int .i64 0, .int .i64 0, .int .i64 0, .int .i64 0, .int .i64 0] 33)).alloc (.cells #[.slice none 0 0, .int .i64 0, .bool false] 36)).alloc (.cells #[.bool true] 4) := ⟨_, rfl⟩
  have hE0 : Below w.heap.size w W0 := by rw [hW0]; exact ext_alloc (ext_alloc (ext_new _ _) _) _
  have HQ0 := Lib.hid (show Blk W0 w.heap.size 33 #[.int .i64 3, .int .i64 0, .int .i64 0, .int .i64 0, .int .i64 0, .int .i64 0, .int .i64 0] by rw [hW0]; exact ((Blk.new _ _ _).alloc _).alloc _)
  have HO0 := Lib.hid (show Blk W0 (w.heap.size + 1) 36 #[.slice none 0 0, .int .i64 0, .bool false] by rw [hW0]; exact (Blk.new' _ _ _ (by simp)).alloc _)
  have HK0 := Lib.hid (show Blk W0 (w.heap.size + 1 + 1) 4 #[.bool true] by rw [hW0]; exact Blk.new' _ _ _ (by simp))
  have HG0 := Lib.hid (hg.ext hE0)
  have HA0 := Lib.hid (hra.ext hE0)
  have HE0 := Lib.hid hE0
  have HW0 := Lib.hid hW0
  clear hW0 hE0 hg hra
  go_enter_defers Tryz.func53, Tryz.ntmps53
  go_wp2_with fail
  rw [← HW0.out]
  refine (queryValid0 _).mono ?_
  rintro e W1 ⟨rfl, hb1⟩
  have HE1 := Lib.hid (ext_call HE0.out hb1)
  have HQ1 := Lib.hid (HQ0.out.ext hb1)
  have HO1 := Lib.hid (HO0.out.ext hb1)
  have HK1 := Lib.hid (HK0.out.ext hb1)
  have HG1 := Lib.hid (HG0.out.ext hb1)
  have HA1 := Lib.hid (HA0.out.ext hb1)
  have q0 := HQ1.out.cell 0; have q1 := HQ1.out.cell 1; have q2 := HQ1.out.cell 2; have q3 := HQ1.out.cell 3; have q4 := HQ1.out.cell 4; have q5 := HQ1.out.cell 5; have q6 := HQ1.out.cell 6
  have ql := HQ1.out.lt
  clear hb1 HE0 HQ0 HO0 HK0 HG0 HA0 HW0
  go_wp2_with (go_at_call 97; refine (check_yes _).mono ?_; rintro e w' ⟨rfl, rfl⟩)
  refine (proofOf0 _).mono ?_
  rintro e W2 ⟨rfl, hb2⟩
  have HP2 := Lib.hid ((Blk.new W1 183 #[.slice (some ⟨g, 0, none⟩) 1 c]).ext hb2)
  have HE2 := Lib.hid (ext_call (ext_alloc HE1.out _) hb2)
  have HQ2 := Lib.hid ((HQ1.out.alloc _).ext hb2)
  have HO2 := Lib.hid ((HO1.out.alloc _).ext hb2)
  have HK2 := Lib.hid ((HK1.out.alloc _).ext hb2)
  have HG2 := Lib.hid ((HG1.out.alloc _).ext hb2)
  have HA2 := Lib.hid ((HA1.out.ext (ext_new _ _)).ext hb2)
  have HLp := Lib.hid (show w.heap.size ≤ W1.heap.size from HE1.out.size)
  clear hb2 ql q0 q1 q2 q3 q4 q5 q6 HE1 HQ1 HO1 HK1 HG1 HA1
  generalize W1.heap.size = pr at *
  go_wp2_with fail
  refine (read0 pr g c A n d zs _ HP2.out hc HG2.out HA2.out).mono ?_
  rintro e W3 ⟨v, B, m, rfl, hv, hp3, hx3⟩
  obtain rfl := rows_none hv
  
  have hQ3 := HQ2.out.ext2 hx3 (blk_ne HQ2.out HP2.out (by decide)) (blk_ne HQ2.out HP2.out (by decide))
  have HO3 := Lib.hid (HO2.out.ext2 hx3 (blk_ne HO2.out HP2.out (by decide)) (blk_ne HO2.out HP2.out (by decide)))
  have HK3 := Lib.hid (HK2.out.ext2 hx3 (blk_ne HK2.out HP2.out (by decide)) (blk_ne HK2.out HP2.out (by decide)))
  have HE3 := Lib.hid (Ext2.below HE2.out HLp.out HLp.out hx3)
  have q0 := hQ3.cell 0; have q1 := hQ3.cell 1; have q2 := hQ3.cell 2; have q3 := hQ3.cell 3; have q4 := hQ3.cell 4; have q5 := hQ3.cell 5; have q6 := hQ3.cell 6
  have p0 := hp3.cell 0
  clear hv hp3 hx3 hQ3 HE2 HQ2 HO2 HK2 HG2 HA2 HP2
  go_wp2_with (go_at_call 97; refine (check_yes _).mono ?_; rintro e w' ⟨rfl, rfl⟩)
  refine (from0 _ _).mono ?_
  rintro e W5 ⟨rfl, hb5⟩
  have HO5 := Lib.hid (HO3.out.ext hb5)
  have HK5 := Lib.hid (HK3.out.ext hb5)
  have HE5 := Lib.hid (ext_call HE3.out hb5)
  have hne : w.heap.size + 1 ≠ w.heap.size + 1 + 1 := by omega
  have hz : True := trivial
  clear hz
  clear hb5 q0 q1 q2 q3 q4 q5 q6 p0 hne
  have o0 := HO5.out.cell 0; have o1 := HO5.out.cell 1; have o2 := HO5.out.cell 2
  have f0 := HO5.out.frozen 0
  have f1 := HO5.out.frozen 1
  have f2 := HO5.out.frozen 2
  have k0 := HK5.out.cell 0
  have fk := HK5.out.frozen 0
  go_wp2
  generalize hX : World.setCell (World.setCell (World.setCell (World.setCell W5 ⟨w.heap.size + 1, 0, none⟩ (.slice none 0 0)) ⟨w.heap.size + 1, 1, none⟩ (.int .i64 0)) ⟨w.heap.size + 1, 2, none⟩ (.bool false)) ⟨w.heap.size + 1 + 1, 0, none⟩ (.bool true) = X
  have hOx : Blk X (w.heap.size + 1) 36 #[.slice none 0 0, .int .i64 0, .bool false] := by subst hX; exact ((((HO5.out.set_ 0 _).set_ 1 _).set_ 2 _).far (p := ⟨w.heap.size + 1 + 1, 0, none⟩) (by simp) _)
  have hKx : Blk X (w.heap.size + 1 + 1) 4 #[.bool true] := by subst hX; exact ((((HK5.out.far (p := ⟨w.heap.size + 1, 0, none⟩) (by simp) _).far (p := ⟨w.heap.size + 1, 1, none⟩) (by simp) _).far (p := ⟨w.heap.size + 1, 2, none⟩) (by simp) _).set_ 0 _)
  have hEx : Below w.heap.size w X := by subst hX; exact ext_set (ext_set (ext_set (ext_set HE5.out (by simp) _) (by simp) _) (by simp) _) (by simp; omega) _
  have hRx : RowsAt X false (.slice none 0 0) := by subst hX; exact .inl ⟨rfl, rfl⟩
  clear hX o0 o1 o2 f0 f1 f2 k0 fk
  have o0 := hOx.cell 0; have o1 := hOx.cell 1; have o2 := hOx.cell 2
  have k0 := hKx.cell 0
  refine leaves_cons (f := 96) (args := #[.pointer (some ⟨w.heap.size + 1 + 1, 0, none⟩)]) (by simp) (by simp [go_sem]) ?_
  refine (caughtIdle _ _).mono ?_
  rintro e u' w'' ⟨rfl, rfl, rfl⟩
  refine leaves_cons (f := 95) (args := #[.pointer (some ⟨w.heap.size + 1 + 1, 0, none⟩), .pointer (some ⟨w.heap.size + 1, 0, none⟩)]) (by simp [settle]) (by simp [go_sem]) ?_
  refine (startDone _ _ _ k0).mono ?_
  rintro e u' w'' ⟨rfl, rfl, rfl⟩
  have HRx := Lib.hid hRx
  have HEx := Lib.hid hEx
  clear hRx hEx hOx hKx
  simp [Leaves, settle, results, Tryz.results53, go_sem, o0, o1, o2, k0]
  exact ⟨HRx.out, HEx.out⟩

end Go.Proofs.YtimoapjhepmehaaGreatDoor

/-
  package proof: Replay without records; slices.Clone of one proof, of no record.
-/
namespace Go.Proofs.YtimoapjhepmehaaGreatDoor
open Go.RowKit
attribute [local go_sem ↓] Go.wp_at_zero Go.wp_at_succ

set_option maxRecDepth 100000 in
set_option maxHeartbeats 1000000 in
theorem cloneRec (A : Option Addr) (c : Nat) (w : World) : Calls Tryz.prog 55 #[.slice A 0 c] w fun e w' => ∃ B d, e = .returned (.slice B 0 d) ∧ Below w.heap.size w w' := by
  cases A with
  | none =>
    have hsn := fun W : World => Lib.run_eql_slice_nil (P := Tryz.prog) W 29 75 none 0 c 0 0 Tryz.underlying29
    go_enter Tryz.func55, Tryz.ntmps55
    go_wp2
    go_ret
    exact ⟨_, _, rfl, ext_refl _⟩
  | some a =>
    have hsn := fun W : World => Lib.run_eql_slice_nil (P := Tryz.prog) W 29 75 (some a) 0 c 0 0 Tryz.underlying29
    go_enter Tryz.func55, Tryz.ntmps55
    go_wp2
    go_ret
    exact ⟨_, _, rfl, ext_new _ _⟩

set_option maxRecDepth 100000 in
set_option maxHeartbeats 1000000 in
theorem cloneRP1 (g c : Nat) (g1 k1 g2 k2 : Nat) (A : Option Addr) (n d : Nat) (zs : Array Value) (w : World) (hg : Blk w g 126 (#[.int .i64 0, .int .i64 0, .int .i64 5, .int .i64 5, .int .i64 1, .int .i64 0, .slice (some ⟨g1, 0, none⟩) 1 k1, .slice (some ⟨g2, 0, none⟩) 1 k2, .slice A n d] ++ zs)) (hra : RPx true w #[.int .i64 0, .int .i64 0, .int .i64 5, .int .i64 5, .int .i64 1, .int .i64 0, .slice (some ⟨g1, 0, none⟩) 1 k1, .slice (some ⟨g2, 0, none⟩) 1 k2, .slice A n d]) :
    Calls Tryz.prog 54 #[.slice (some ⟨g, 0, none⟩) 1 c] w
      fun e w' => ∃ g' k' us, e = .returned (.slice (some ⟨g', 0, none⟩) 1 k') ∧ 1 ≤ k' ∧ Blk w' g' 126 (#[.int .i64 0, .int .i64 0, .int .i64 5, .int .i64 5, .int .i64 1, .int .i64 0, .slice (some ⟨g1, 0, none⟩) 1 k1, .slice (some ⟨g2, 0, none⟩) 1 k2, .slice A n d] ++ us) ∧ RPx true w' #[.int .i64 0, .int .i64 0, .int .i64 5, .int .i64 5, .int .i64 1, .int .i64 0, .slice (some ⟨g1, 0, none⟩) 1 k1, .slice (some ⟨g2, 0, none⟩) 1 k2, .slice A n d] ∧ Below w.heap.size w w' := by
  obtain ⟨ii, hii, hzi0, hzi1, hzi2⟩ := info_parts rp_info
  obtain ⟨q0, q1, q2, q3, q4, q5, q6, q7, q8⟩ := cells9 hg
  have gl := hg.lt
  have HA := Lib.hid hra
  clear hg hra
  have hsn := fun W : World => Lib.run_eql_slice_nil (P := Tryz.prog) W 37 126 (some ⟨g, 0, none⟩) 1 c 0 0 Tryz.underlying37
  go_enter Tryz.func54, Tryz.ntmps54
  go_wp2
  go_ret
  refine ⟨w.heap.size + 1, ((Question.appendCap 1 0 126).cut (w.tape w.drawn (Question.appendCap 1 0 126))), Builtin.zeroCells #[.int .i64 0, .int .i64 0, .int .i64 0, .int .i64 0, .int .i64 0, .int .i64 0, .slice none 0 0, .slice none 0 0, .slice none 0 0] (((Question.appendCap 1 0 126).cut (w.tape w.drawn (Question.appendCap 1 0 126))) - 1), rfl, grownCap_ge w 1 0 _, ?_, HA.out.ext ?_, ?_⟩
  · exact (Blk.new' _ _ _ (by simp)).drew
  · exact (ext_alloc (ext_new _ _) _).drew
  · exact (ext_alloc (ext_new _ _) _).drew

set_option maxRecDepth 100000 in
set_option maxHeartbeats 1000000 in
theorem replay1 (g k : Nat) (zs : Array Value) (p : Int) (A : Option Addr) (c : Nat) (w : World) (hg : Blk w g 67 (#[.int .i64 0, .int .i64 5, .int .i64 10, .int .i64 20, .int .i64 30] ++ zs)) :
    Calls Tryz.prog 56 #[.agg #[.int .i64 1, .int .i64 0, .int .i64 0, .int .i64 5, .int .i64 5, .int .i64 0, .int .i64 0], .agg #[.slice (some ⟨g, 0, none⟩) 1 k, .int .i64 0, .bool false], .int .i64 p, .slice A 0 c] w
      fun e w' => ∃ v, e = .returned (.tuple #[.agg #[v, .int .i64 0, .bool false], .int .i64 p, .bool true]) ∧ RowsAt w' true v ∧ Below w.heap.size w w' := by
  obtain ⟨W0, hW0⟩ : ∃ W0, W0 = ((w.alloc (.cells #[.int .i64 1, .int .i64 0, .int .i64 0, .int .i64 5, .int .i64 5, .int .i64 0, .int .i64 0] 33)).alloc (.cells #[.slice (some ⟨g, 0, none⟩) 1 k, .int .i64 0, .bool false] 36)).alloc (.cells #[.slice none 0 0, .int .i64 0, .bool false] 36) := ⟨_, rfl⟩
  have hE0 : Below w.heap.size w W0 := by rw [hW0]; exact ext_alloc (ext_alloc (ext_new _ _) _) _
  have HB0 := Lib.hid (show Blk W0 (w.heap.size + 1) 36 #[.slice (some ⟨g, 0, none⟩) 1 k, .int .i64 0, .bool false] by rw [hW0]; exact (Blk.new' _ _ _ (by simp)).alloc _)
  have HO0 := Lib.hid (show Blk W0 (w.heap.size + 1 + 1) 36 #[.slice none 0 0, .int .i64 0, .bool false] by rw [hW0]; exact Blk.new' _ _ _ (by simp))
  have HE0 := Lib.hid hE0
  have HG0 := Lib.hid (hg.ext hE0)
  clear hg
  have HW0 := Lib.hid hW0
  clear hW0 hE0
  go_enter Tryz.func56, Tryz.ntmps56
  go_wp2_with fail
  rw [← HW0.out]
  refine (cloneRows1 g k zs _ HG0.out).mono ?_
  rintro e W1 ⟨v, rfl, hv, hb1⟩
  obtain ⟨gb, kb, ub, rfl, hkb, hgb⟩ := rows_one hv
  have HE1 := Lib.hid (ext_call HE0.out hb1)
  have HB1 := Lib.hid (HB0.out.ext hb1)
  have HO1 := Lib.hid (HO0.out.ext hb1)
  have HRb := Lib.hid (And.intro hkb (And.intro hgb (And.intro (blk_ne hgb HB1.out (by decide)) (blk_ne hgb HO1.out (by decide)))))
  clear hkb hgb hv
  clear hb1 HE0 HB0 HO0 HW0
  have b0 := HB1.out.cell 0; have b1 := HB1.out.cell 1; have b2 := HB1.out.cell 2
  have o0 := HO1.out.cell 0; have o1 := HO1.out.cell 1; have o2 := HO1.out.cell 2
  have g0 := HB1.out.frozen 0
  have f0 := HO1.out.frozen 0
  have f1 := HO1.out.frozen 1
  have f2 := HO1.out.frozen 2
  go_wp2
  refine wp_loop_rounds 1 ?_
  rw [rounds_succ]
  go_wp2
  have hBf := (((HO1.out.far (p := ⟨w.heap.size + 1, 0, none⟩) (by simp) (.slice (some ⟨gb, 0, none⟩) 1 kb)).set_ 0 (.slice (some ⟨gb, 0, none⟩) 1 kb)).set_ 1 (.int .i64 0)).set_ 2 (.bool false)
  have y0 := hBf.cell 0; have y1 := hBf.cell 1; have y2 := hBf.cell 2
  refine bodyPost_ret (v := .tuple #[.agg #[.slice (some ⟨gb, 0, none⟩) 1 kb, .int .i64 0, .bool false], .int .i64 p, .bool true]) (by simp [results, Tryz.results56, go_sem, y0, y1, y2]) rfl ⟨_, rfl, ?_, ?_⟩
  · exact .inr ⟨rfl, gb, kb, ub, rfl, HRb.out.1, (((HRb.out.2.1.far (p := ⟨w.heap.size + 1, 0, none⟩) HRb.out.2.2.1 _).far (p := ⟨w.heap.size + 1 + 1, 0, none⟩) HRb.out.2.2.2 _).far (p := ⟨w.heap.size + 1 + 1, 1, none⟩) HRb.out.2.2.2 _).far (p := ⟨w.heap.size + 1 + 1, 2, none⟩) HRb.out.2.2.2 _⟩
  · exact ext_set (ext_set (ext_set (ext_set HE1.out (by simp) _) (by simp; omega) _) (by simp; omega) _) (by simp; omega) _

set_option maxRecDepth 100000 in
set_option maxHeartbeats 1000000 in
theorem cloneRP0 (g c : Nat) (A : Option Addr) (n d : Nat) (zs : Array Value) (w : World) (hg : Blk w g 126 (#[.int .i64 0, .int .i64 0, .int .i64 0, .int .i64 0, .int .i64 0, .int .i64 0, .slice none 0 0, .slice none 0 0, .slice A n d] ++ zs)) (hra : RPx false w #[.int .i64 0, .int .i64 0, .int .i64 0, .int .i64 0, .int .i64 0, .int .i64 0, .slice none 0 0, .slice none 0 0, .slice A n d]) :
    Calls Tryz.prog 54 #[.slice (some ⟨g, 0, none⟩) 1 c] w
      fun e w' => ∃ g' k' us, e = .returned (.slice (some ⟨g', 0, none⟩) 1 k') ∧ 1 ≤ k' ∧ Blk w' g' 126 (#[.int .i64 0, .int .i64 0, .int .i64 0, .int .i64 0, .int .i64 0, .int .i64 0, .slice none 0 0, .slice none 0 0, .slice A n d] ++ us) ∧ RPx false w' #[.int .i64 0, .int .i64 0, .int .i64 0, .int .i64 0, .int .i64 0, .int .i64 0, .slice none 0 0, .slice none 0 0, .slice A n d] ∧ Below w.heap.size w w' := by
  obtain ⟨ii, hii, hzi0, hzi1, hzi2⟩ := info_parts rp_info
  obtain ⟨q0, q1, q2, q3, q4, q5, q6, q7, q8⟩ := cells9 hg
  have gl := hg.lt
  have HA := Lib.hid hra
  clear hg hra
  have hsn := fun W : World => Lib.run_eql_slice_nil (P := Tryz.prog) W 37 126 (some ⟨g, 0, none⟩) 1 c 0 0 Tryz.underlying37
  go_enter Tryz.func54, Tryz.ntmps54
  go_wp2
  go_ret
  refine ⟨w.heap.size + 1, ((Question.appendCap 1 0 126).cut (w.tape w.drawn (Question.appendCap 1 0 126))), Builtin.zeroCells #[.int .i64 0, .int .i64 0, .int .i64 0, .int .i64 0, .int .i64 0, .int .i64 0, .slice none 0 0, .slice none 0 0, .slice none 0 0] (((Question.appendCap 1 0 126).cut (w.tape w.drawn (Question.appendCap 1 0 126))) - 1), rfl, grownCap_ge w 1 0 _, ?_, HA.out.ext ?_, ?_⟩
  · exact (Blk.new' _ _ _ (by simp)).drew
  · exact (ext_alloc (ext_new _ _) _).drew
  · exact (ext_alloc (ext_new _ _) _).drew

set_option maxRecDepth 100000 in
set_option maxHeartbeats 1000000 in
theorem replay0  (p : Int) (A : Option Addr) (c : Nat) (w : World)  :
    Calls Tryz.prog 56 #[.agg #[.int .i64 3, .int .i64 0, .int .i64 0, .int .i64 0, .int .i64 0, .int .i64 0, .int .i64 0], .agg #[.slice none 0 0, .int .i64 0, .bool false], .int .i64 p, .slice A 0 c] w
      fun e w' => ∃ v, e = .returned (.tuple #[.agg #[v, .int .i64 0, .bool false], .int .i64 p, .bool true]) ∧ RowsAt w' false v ∧ Below w.heap.size w w' := by
  obtain ⟨W0, hW0⟩ : ∃ W0, W0 = ((w.alloc (.cells #[.int .i64 3, .int .i64 0, .int .i64 0, .int .i64 0, .int .i64 0, .int .i64 0, .int .i64 0] 33)).alloc (.cells #[.slice none 0 0, .int .i64 0, .bool false] 36)).alloc (.cells #[.slice none 0 0, .int .i64 0, .bool false] 36) := ⟨_, rfl⟩
  have hE0 : Below w.heap.size w W0 := by rw [hW0]; exact ext_alloc (ext_alloc (ext_new _ _) _) _
  have HB0 := Lib.hid (show Blk W0 (w.heap.size + 1) 36 #[.slice none 0 0, .int .i64 0, .bool false] by rw [hW0]; exact (Blk.new' _ _ _ (by simp)).alloc _)
  have HO0 := Lib.hid (show Blk W0 (w.heap.size + 1 + 1) 36 #[.slice none 0 0, .int .i64 0, .bool false] by rw [hW0]; exact Blk.new' _ _ _ (by simp))
  have HE0 := Lib.hid hE0
  have hz : True := trivial
  have HW0 := Lib.hid hW0
  clear hW0 hE0
  go_enter Tryz.func56, Tryz.ntmps56
  go_wp2_with fail
  rw [← HW0.out]
  refine (cloneRows0 _).mono ?_
  rintro e W1 ⟨rfl, rfl⟩
  have hb1 := ext_refl W0
  have HE1 := Lib.hid (ext_call HE0.out hb1)
  have HB1 := Lib.hid (HB0.out.ext hb1)
  have HO1 := Lib.hid (HO0.out.ext hb1)
  clear hz
  clear hb1 HE0 HB0 HO0 HW0
  have b0 := HB1.out.cell 0; have b1 := HB1.out.cell 1; have b2 := HB1.out.cell 2
  have o0 := HO1.out.cell 0; have o1 := HO1.out.cell 1; have o2 := HO1.out.cell 2
  have g0 := HB1.out.frozen 0
  have f0 := HO1.out.frozen 0
  have f1 := HO1.out.frozen 1
  have f2 := HO1.out.frozen 2
  go_wp2
  refine wp_loop_rounds 1 ?_
  rw [rounds_succ]
  go_wp2
  have hBf := (((HO1.out.far (p := ⟨w.heap.size + 1, 0, none⟩) (by simp) (.slice none 0 0)).set_ 0 (.slice none 0 0)).set_ 1 (.int .i64 0)).set_ 2 (.bool false)
  have y0 := hBf.cell 0; have y1 := hBf.cell 1; have y2 := hBf.cell 2
  refine bodyPost_ret (v := .tuple #[.agg #[.slice none 0 0, .int .i64 0, .bool false], .int .i64 p, .bool true]) (by simp [results, Tryz.results56, go_sem, y0, y1, y2]) rfl ⟨_, rfl, ?_, ?_⟩
  · exact .inl ⟨rfl, rfl⟩
  · exact ext_set (ext_set (ext_set (ext_set HE1.out (by simp) _) (by simp; omega) _) (by simp; omega) _) (by simp; omega) _

end Go.Proofs.YtimoapjhepmehaaGreatDoor

/-
  package proof: Build.
-/
namespace Go.Proofs.YtimoapjhepmehaaGreatDoor
open Go.RowKit
attribute [local go_sem ↓] Go.wp_at_zero Go.wp_at_succ

set_option maxRecDepth 100000 in
set_option maxHeartbeats 1000000 in
theorem blk_set15 {W : World} {g : Nat} {ty : TypeId} {a0 a1 a2 a3 a4 a5 a6 a7 a8 a9 a10 a11 a12 a13 a14 u0 u1 u2 u3 u4 u5 u6 u7 u8 u9 u10 u11 u12 u13 u14 : Value} (h : Blk W g ty #[a0, a1, a2, a3, a4, a5, a6, a7, a8, a9, a10, a11, a12, a13, a14]) : Blk (World.setCell (World.setCell (World.setCell (World.setCell (World.setCell (World.setCell (World.setCell (World.setCell (World.setCell (World.setCell (World.setCell (World.setCell (World.setCell (World.setCell (World.setCell W ⟨g, 0, none⟩ u0) ⟨g, 1, none⟩ u1) ⟨g, 2, none⟩ u2) ⟨g, 3, none⟩ u3) ⟨g, 4, none⟩ u4) ⟨g, 5, none⟩ u5) ⟨g, 6, none⟩ u6) ⟨g, 7, none⟩ u7) ⟨g, 8, none⟩ u8) ⟨g, 9, none⟩ u9) ⟨g, 10, none⟩ u10) ⟨g, 11, none⟩ u11) ⟨g, 12, none⟩ u12) ⟨g, 13, none⟩ u13) ⟨g, 14, none⟩ u14) g ty #[u0, u1, u2, u3, u4, u5, u6, u7, u8, u9, u10, u11, u12, u13, u14] := by
  have h9 := ((((((((((((((h.set_ 0 u0).set_ 1 u1).set_ 2 u2).set_ 3 u3).set_ 4 u4).set_ 5 u5).set_ 6 u6).set_ 7 u7).set_ 8 u8).set_ 9 u9).set_ 10 u10).set_ 11 u11).set_ 12 u12).set_ 13 u13).set_ 14 u14
  simpa using h9
theorem ext_set15 {w W : World} {g : Nat} {u0 u1 u2 u3 u4 u5 u6 u7 u8 u9 u10 u11 u12 u13 u14 : Value} (h : Below w.heap.size w W) (hg : w.heap.size ≤ g) : Below w.heap.size w (World.setCell (World.setCell (World.setCell (World.setCell (World.setCell (World.setCell (World.setCell (World.setCell (World.setCell (World.setCell (World.setCell (World.setCell (World.setCell (World.setCell (World.setCell W ⟨g, 0, none⟩ u0) ⟨g, 1, none⟩ u1) ⟨g, 2, none⟩ u2) ⟨g, 3, none⟩ u3) ⟨g, 4, none⟩ u4) ⟨g, 5, none⟩ u5) ⟨g, 6, none⟩ u6) ⟨g, 7, none⟩ u7) ⟨g, 8, none⟩ u8) ⟨g, 9, none⟩ u9) ⟨g, 10, none⟩ u10) ⟨g, 11, none⟩ u11) ⟨g, 12, none⟩ u12) ⟨g, 13, none⟩ u13) ⟨g, 14, none⟩ u14) := ext_set (ext_set (ext_set (ext_set (ext_set (ext_set (ext_set (ext_set (ext_set (ext_set (ext_set (ext_set (ext_set (ext_set (ext_set h hg _) hg _) hg _) hg _) hg _) hg _) hg _) hg _) hg _) hg _) hg _) hg _) hg _) hg _) hg _
theorem heap_set15 {W : World} {g k : Nat} {u0 u1 u2 u3 u4 u5 u6 u7 u8 u9 u10 u11 u12 u13 u14 : Value} (h : k ≠ g) : (World.setCell (World.setCell (World.setCell (World.setCell (World.setCell (World.setCell (World.setCell (World.setCell (World.setCell (World.setCell (World.setCell (World.setCell (World.setCell (World.setCell (World.setCell W ⟨g, 0, none⟩ u0) ⟨g, 1, none⟩ u1) ⟨g, 2, none⟩ u2) ⟨g, 3, none⟩ u3) ⟨g, 4, none⟩ u4) ⟨g, 5, none⟩ u5) ⟨g, 6, none⟩ u6) ⟨g, 7, none⟩ u7) ⟨g, 8, none⟩ u8) ⟨g, 9, none⟩ u9) ⟨g, 10, none⟩ u10) ⟨g, 11, none⟩ u11) ⟨g, 12, none⟩ u12) ⟨g, 13, none⟩ u13) ⟨g, 14, none⟩ u14).heap[k]? = W.heap[k]? := by
  rw [Below.heap_setCell _ _ _ _ h, Below.heap_setCell _ _ _ _ h, Below.heap_setCell _ _ _ _ h, Below.heap_setCell _ _ _ _ h, Below.heap_setCell _ _ _ _ h, Below.heap_setCell _ _ _ _ h, Below.heap_setCell _ _ _ _ h, Below.heap_setCell _ _ _ _ h, Below.heap_setCell _ _ _ _ h, Below.heap_setCell _ _ _ _ h, Below.heap_setCell _ _ _ _ h, Below.heap_setCell _ _ _ _ h, Below.heap_setCell _ _ _ _ h, Below.heap_setCell _ _ _ _ h, Below.heap_setCell _ _ _ _ h]
theorem cells10 {w : World} {g : Nat} {t : TypeId} {a0 a1 a2 a3 a4 a5 a6 a7 a8 a9 : Value} (h : Blk w g t #[a0, a1, a2, a3, a4, a5, a6, a7, a8, a9]) : w.cell? ⟨g, 0, none⟩ = some a0 ∧ w.cell? ⟨g, 1, none⟩ = some a1 ∧ w.cell? ⟨g, 2, none⟩ = some a2 ∧ w.cell? ⟨g, 3, none⟩ = some a3 ∧ w.cell? ⟨g, 4, none⟩ = some a4 ∧ w.cell? ⟨g, 5, none⟩ = some a5 ∧ w.cell? ⟨g, 6, none⟩ = some a6 ∧ w.cell? ⟨g, 7, none⟩ = some a7 ∧ w.cell? ⟨g, 8, none⟩ = some a8 ∧ w.cell? ⟨g, 9, none⟩ = some a9 := by
  refine ⟨?_, ?_, ?_, ?_, ?_, ?_, ?_, ?_, ?_, ?_⟩ <;> exact h.cell _
theorem cells3 {w : World} {g : Nat} {t : TypeId} {a0 a1 a2 : Value} (h : Blk w g t #[a0, a1, a2]) : w.cell? ⟨g, 0, none⟩ = some a0 ∧ w.cell? ⟨g, 1, none⟩ = some a1 ∧ w.cell? ⟨g, 2, none⟩ = some a2 := by
  refine ⟨?_, ?_, ?_⟩ <;> exact h.cell _
theorem blk_mid4 {W : World} {g : Nat} {ty : TypeId} {a0 a1 a2 a3 a4 a5 a6 a7 a8 a9 a10 a11 a12 a13 a14 u0 u1 u2 u3 : Value} (h : Blk W g ty #[a0, a1, a2, a3, a4, a5, a6, a7, a8, a9, a10, a11, a12, a13, a14]) : Blk (World.setCell (World.setCell (World.setCell (World.setCell W ⟨g, 7, none⟩ u0) ⟨g, 8, none⟩ u1) ⟨g, 9, none⟩ u2) ⟨g, 10, none⟩ u3) g ty #[a0, a1, a2, a3, a4, a5, a6, u0, u1, u2, u3, a11, a12, a13, a14] := by
  have h9 := (((h.set_ 7 u0).set_ 8 u1).set_ 9 u2).set_ 10 u3
  simpa using h9
theorem cells15 {w : World} {g : Nat} {t : TypeId} {a0 a1 a2 a3 a4 a5 a6 a7 a8 a9 a10 a11 a12 a13 a14 : Value} (h : Blk w g t #[a0, a1, a2, a3, a4, a5, a6, a7, a8, a9, a10, a11, a12, a13, a14]) : w.cell? ⟨g, 0, none⟩ = some a0 ∧ w.cell? ⟨g, 1, none⟩ = some a1 ∧ w.cell? ⟨g, 2, none⟩ = some a2 ∧ w.cell? ⟨g, 3, none⟩ = some a3 ∧ w.cell? ⟨g, 4, none⟩ = some a4 ∧ w.cell? ⟨g, 5, none⟩ = some a5 ∧ w.cell? ⟨g, 6, none⟩ = some a6 ∧ w.cell? ⟨g, 7, none⟩ = some a7 ∧ w.cell? ⟨g, 8, none⟩ = some a8 ∧ w.cell? ⟨g, 9, none⟩ = some a9 ∧ w.cell? ⟨g, 10, none⟩ = some a10 ∧ w.cell? ⟨g, 11, none⟩ = some a11 ∧ w.cell? ⟨g, 12, none⟩ = some a12 ∧ w.cell? ⟨g, 13, none⟩ = some a13 ∧ w.cell? ⟨g, 14, none⟩ = some a14 := by
  refine ⟨?_, ?_, ?_, ?_, ?_, ?_, ?_, ?_, ?_, ?_, ?_, ?_, ?_, ?_, ?_⟩ <;> exact h.cell _
theorem ext2_set15 (W : World) (g : Nat) (u0 u1 u2 u3 u4 u5 u6 u7 u8 u9 u10 u11 u12 u13 u14 : Value) : Ext2 g g W (World.setCell (World.setCell (World.setCell (World.setCell (World.setCell (World.setCell (World.setCell (World.setCell (World.setCell (World.setCell (World.setCell (World.setCell (World.setCell (World.setCell (World.setCell W ⟨g, 0, none⟩ u0) ⟨g, 1, none⟩ u1) ⟨g, 2, none⟩ u2) ⟨g, 3, none⟩ u3) ⟨g, 4, none⟩ u4) ⟨g, 5, none⟩ u5) ⟨g, 6, none⟩ u6) ⟨g, 7, none⟩ u7) ⟨g, 8, none⟩ u8) ⟨g, 9, none⟩ u9) ⟨g, 10, none⟩ u10) ⟨g, 11, none⟩ u11) ⟨g, 12, none⟩ u12) ⟨g, 13, none⟩ u13) ⟨g, 14, none⟩ u14) := (((((((((((((((Ext2.refl g g W).setA 0 u0).setA 1 u1).setA 2 u2).setA 3 u3).setA 4 u4).setA 5 u5).setA 6 u6).setA 7 u7).setA 8 u8).setA 9 u9).setA 10 u10).setA 11 u11).setA 12 u12).setA 13 u13).setA 14 u14
theorem heap_set4 {W : World} {g k : Nat} {u0 u1 u2 u3 : Value} (h : k ≠ g) : (World.setCell (World.setCell (World.setCell (World.setCell W ⟨g, 7, none⟩ u0) ⟨g, 8, none⟩ u1) ⟨g, 9, none⟩ u2) ⟨g, 10, none⟩ u3).heap[k]? = W.heap[k]? := by
  rw [Below.heap_setCell _ _ _ _ h, Below.heap_setCell _ _ _ _ h, Below.heap_setCell _ _ _ _ h, Below.heap_setCell _ _ _ _ h]
theorem ext2_set4 (W : World) (g : Nat) (u0 u1 u2 u3 : Value) : Ext2 g g W (World.setCell (World.setCell (World.setCell (World.setCell W ⟨g, 7, none⟩ u0) ⟨g, 8, none⟩ u1) ⟨g, 9, none⟩ u2) ⟨g, 10, none⟩ u3) := ((((Ext2.refl g g W).setA 7 u0).setA 8 u1).setA 9 u2).setA 10 u3
theorem Ext2.of_grown {X W : World} {b : Nat} (h : X.grownBy W (some b)) : Ext2 b b X W := ⟨h.os, h.tape, h.output, h.size, fun k hk ha _ => h.block k hk (fun e => ha (by injection e))⟩
theorem ans_size : (Tryz.prog.info? 39).map (·.size) = some 15 := by kernel_rfl
def noStr (v : Value) : Bool := match v with
  | .string _ => false
  | _ => true
theorem str_neB {W : World} {a b o : Nat} {t : TypeId} {xs : Array Value} {x : ByteArray} (h : Blk W a t xs) (hx : xs.all noStr = true) (k : W.cell? ⟨b, o, none⟩ = some (.string x)) : b ≠ a := by
  rintro rfl
  rw [h.cell o] at k
  rw [Array.all_eq_true] at hx
  obtain ⟨hlt, he⟩ := Array.getElem?_eq_some_iff.1 k
  have h1 := hx o hlt
  rw [he] at h1
  cases h1
theorem Strs.keepB {W W' : World} {a : Nat} {t : TypeId} {xs : Array Value} {v : Value} {l : List ByteArray} {S : Nat → Prop} (h : Strs S W v l) (hb : Blk W a t xs) (hx : xs.all noStr = true) (k : Ext2 a a W W') : Strs S W' v l := by
  obtain ⟨B, d, rfl, hc, h⟩ := h
  refine ⟨B, d, rfl, hc, fun h0 => ?_⟩
  obtain ⟨b, off, hB, hS, hcell⟩ := h h0
  exact ⟨b, off, hB, hS, fun j x hx' => cell_ext2 (hcell j x hx') k (str_neB hb hx (hcell j x hx')) (str_neB hb hx (hcell j x hx'))⟩
theorem RPx.keepB {one : Bool} {W W' : World} {a : Nat} {t : TypeId} {xs : Array Value} {va : Array Value} (h : RPx one W va) (hb : Blk W a t xs) (hx : xs.all noStr = true) (h1 : 67 ≠ t) (h2 : 53 ≠ t) (k : Ext2 a a W W') : RPx one W' va := by
  cases one
  · obtain ⟨v8, q1, q2⟩ := h
    exact ⟨v8, q1, q2.keepB hb hx k⟩
  · obtain ⟨v6, v7, v8, q1, q2, ⟨g, c', A0, c0, ys, p1, p2, p3⟩, q4⟩ := h
    exact ⟨v6, v7, v8, q1, q2.keep1 hb h1 k, ⟨g, c', A0, c0, ys, p1, p2, p3.ext2 k (blk_ne p3 hb h2) (blk_ne p3 hb h2)⟩, q4.keepB hb hx k⟩

theorem entKeep {X W : World} {be : Nat} {a0 a1 a2 a3 a4 a5 a6 a7 a8 a9 : Value} (h : Blk X be 87 #[a0, a1, a2, a3, a4, a5, a6, a7, a8, a9]) (k : Below X.heap.size X W) :
    W.cell? ⟨be, 0, none⟩ = some a0 ∧ W.cell? ⟨be, 1, none⟩ = some a1 ∧ W.cell? ⟨be, 2, none⟩ = some a2 ∧ W.cell? ⟨be, 3, none⟩ = some a3 ∧ W.cell? ⟨be, 4, none⟩ = some a4 ∧ W.cell? ⟨be, 5, none⟩ = some a5 ∧ W.cell? ⟨be, 6, none⟩ = some a6 ∧ W.cell? ⟨be, 8, none⟩ = some a8 ∧ W.cell? ⟨be, 9, none⟩ = some a9 ∧ Below X.heap.size X W :=
  ⟨(h.ext k).cell 0, (h.ext k).cell 1, (h.ext k).cell 2, (h.ext k).cell 3, (h.ext k).cell 4, (h.ext k).cell 5, (h.ext k).cell 6, (h.ext k).cell 8, (h.ext k).cell 9, k⟩
theorem entB {X W : World} {be : Nat} {a0 a1 a2 a3 a4 a5 a6 a8 a9 : Value} (h : W.cell? ⟨be, 0, none⟩ = some a0 ∧ W.cell? ⟨be, 1, none⟩ = some a1 ∧ W.cell? ⟨be, 2, none⟩ = some a2 ∧ W.cell? ⟨be, 3, none⟩ = some a3 ∧ W.cell? ⟨be, 4, none⟩ = some a4 ∧ W.cell? ⟨be, 5, none⟩ = some a5 ∧ W.cell? ⟨be, 6, none⟩ = some a6 ∧ W.cell? ⟨be, 8, none⟩ = some a8 ∧ W.cell? ⟨be, 9, none⟩ = some a9 ∧ Below X.heap.size X W) : Below X.heap.size X W :=
  h.2.2.2.2.2.2.2.2.2

/-- an answer in memory -/
def AnsAt (one : Bool) (W : World) (va : Array Value) : Prop := match one with
  | true => ∃ v g c vr us B d, va = #[.int .i64 1, .int .i64 0, .int .i64 0, .int .i64 5, .int .i64 5, .int .i64 0, .int .i64 0, v, .int .i64 0, .bool false, .int .i64 1, .int .i64 1, .int .i64 1, .slice (some ⟨g, 0, none⟩) 1 c, .slice B 0 d] ∧ RowsAt W true v ∧ 1 ≤ c ∧ Blk W g 126 (vr ++ us) ∧ RPx true W vr
  | false => ∃ v g c vr us B d, va = #[.int .i64 3, .int .i64 0, .int .i64 0, .int .i64 0, .int .i64 0, .int .i64 0, .int .i64 0, v, .int .i64 0, .bool false, .int .i64 0, .int .i64 0, .int .i64 0, .slice (some ⟨g, 0, none⟩) 1 c, .slice B 0 d] ∧ RowsAt W false v ∧ 1 ≤ c ∧ Blk W g 126 (vr ++ us) ∧ RPx false W vr

set_option maxRecDepth 100000 in
set_option maxHeartbeats 4000000 in
theorem build1 (g c : Nat) (g1 k1 g2 k2 : Nat) (A : Option Addr) (n d : Nat) (zs : Array Value) (A' : Option Addr) (c' : Nat) (w : World) (hc : 1 ≤ c) (hg : Blk w g 126 (#[.int .i64 0, .int .i64 0, .int .i64 5, .int .i64 5, .int .i64 1, .int .i64 0, .slice (some ⟨g1, 0, none⟩) 1 k1, .slice (some ⟨g2, 0, none⟩) 1 k2, .slice A n d] ++ zs)) (hra : RPx true w #[.int .i64 0, .int .i64 0, .int .i64 5, .int .i64 5, .int .i64 1, .int .i64 0, .slice (some ⟨g1, 0, none⟩) 1 k1, .slice (some ⟨g2, 0, none⟩) 1 k2, .slice A n d]) :
    Calls Tryz.prog 27 #[.agg #[.int .i64 1, .int .i64 0, .int .i64 0, .int .i64 5, .int .i64 5, .int .i64 0, .int .i64 0, .int .i64 0, .int .i64 1, .slice (some ⟨g, 0, none⟩) 1 c], .slice A' 0 c'] w
      fun e w' => ∃ va, e = .returned (.tuple #[.agg va, .bool true]) ∧ AnsAt true w' va ∧ Below w.heap.size w w' := by
  obtain ⟨W0, hW0⟩ : ∃ W0, W0 = (w.alloc (.cells #[.int .i64 1, .int .i64 0, .int .i64 0, .int .i64 5, .int .i64 5, .int .i64 0, .int .i64 0, .int .i64 0, .int .i64 1, .slice (some ⟨g, 0, none⟩) 1 c] 87)).alloc (.cells #[.int .i64 0, .int .i64 0, .int .i64 0, .int .i64 0, .int .i64 0, .int .i64 0, .int .i64 0, .slice none 0 0, .int .i64 0, .bool false, .int .i64 0, .int .i64 0, .int .i64 0, .slice none 0 0, .slice none 0 0] 39) := ⟨_, rfl⟩
  have hE0 : Below w.heap.size w W0 := by rw [hW0]; exact ext_alloc (ext_new _ _) _
  have HB0 := Lib.hid (show Blk W0 w.heap.size 87 #[.int .i64 1, .int .i64 0, .int .i64 0, .int .i64 5, .int .i64 5, .int .i64 0, .int .i64 0, .int .i64 0, .int .i64 1, .slice (some ⟨g, 0, none⟩) 1 c] by rw [hW0]; exact (Blk.new _ _ _).alloc _)
  have HR0 := Lib.hid (show Blk W0 (w.heap.size + 1) 39 #[.int .i64 0, .int .i64 0, .int .i64 0, .int .i64 0, .int .i64 0, .int .i64 0, .int .i64 0, .slice none 0 0, .int .i64 0, .bool false, .int .i64 0, .int .i64 0, .int .i64 0, .slice none 0 0, .slice none 0 0] by rw [hW0]; exact Blk.new' _ _ _ (by simp))
  have HG0 := Lib.hid (hg.ext hE0)
  have HA0 := Lib.hid (hra.ext hE0)
  have HE0 := Lib.hid hE0
  have HW0 := Lib.hid hW0
  clear hW0 hE0 hg hra
  go_enter Tryz.func27, Tryz.ntmps27
  go_wp2_with fail
  rw [← HW0.out]
  refine (start1 g c g1 k1 g2 k2 A n d zs _ hc HG0.out HA0.out).mono ?_
  rintro e W1 ⟨v, rfl, hv, hb1⟩
  obtain ⟨ga, ka, ua, rfl, hka, hga⟩ := rows_one hv
  have HVy := Lib.hid (hga.alloc (.cells #[.slice (some ⟨ga, 0, none⟩) 1 ka, .int .i64 0, .bool false] 36))
  clear hka hga hv
  have HE1 := Lib.hid (ext_call HE0.out hb1)
  have HB1 := Lib.hid (HB0.out.ext hb1)
  have HR1 := Lib.hid (HR0.out.ext hb1)
  have HG1 := Lib.hid (HG0.out.ext hb1)
  have HA1 := Lib.hid (HA0.out.ext hb1)
  clear hb1 HW0 HE0 HB0 HR0 HG0 HA0
  go_wp2_with fail
  have HEy := Lib.hid (ext_alloc HE1.out (.cells #[.slice (some ⟨ga, 0, none⟩) 1 ka, .int .i64 0, .bool false] 36))
  have HBy := Lib.hid (HB1.out.alloc (.cells #[.slice (some ⟨ga, 0, none⟩) 1 ka, .int .i64 0, .bool false] 36))
  have HRy := Lib.hid (HR1.out.alloc (.cells #[.slice (some ⟨ga, 0, none⟩) 1 ka, .int .i64 0, .bool false] 36))
  have HGy := Lib.hid (HG1.out.alloc (.cells #[.slice (some ⟨ga, 0, none⟩) 1 ka, .int .i64 0, .bool false] 36))
  have HAy := Lib.hid (HA1.out.ext (ext_new W1 (.cells #[.slice (some ⟨ga, 0, none⟩) 1 ka, .int .i64 0, .bool false] 36)))
  have HSy := Lib.hid (Blk.new W1 36 #[.slice (some ⟨ga, 0, none⟩) 1 ka, .int .i64 0, .bool false])
  clear HE1 HB1 HR1 HG1 HA1
  generalize World.alloc W1 (.cells #[.slice (some ⟨ga, 0, none⟩) 1 ka, .int .i64 0, .bool false] 36) = Y at *
  generalize W1.heap.size = bs at *
  obtain ⟨e0, e1, e2, e3, e4, e5, e6, e7, e8, e9⟩ := cells10 HBy.out
  have hwr : IntKind.i64.wrap 1 = 1 := by decide
  go_region_held3 (fun w' => w'.cell? ⟨w.heap.size, 0, none⟩ = some (.int .i64 1) ∧ w'.cell? ⟨w.heap.size, 1, none⟩ = some (.int .i64 0) ∧ w'.cell? ⟨w.heap.size, 2, none⟩ = some (.int .i64 0) ∧ w'.cell? ⟨w.heap.size, 3, none⟩ = some (.int .i64 5) ∧ w'.cell? ⟨w.heap.size, 4, none⟩ = some (.int .i64 5) ∧ w'.cell? ⟨w.heap.size, 5, none⟩ = some (.int .i64 0) ∧ w'.cell? ⟨w.heap.size, 6, none⟩ = some (.int .i64 0) ∧ w'.cell? ⟨w.heap.size, 8, none⟩ = some (.int .i64 1) ∧ w'.cell? ⟨w.heap.size, 9, none⟩ = some (.slice (some ⟨g, 0, none⟩) 1 c) ∧ Below Y.heap.size Y w')
    (first | with_reducible assumption | exact entKeep HBy.out (by repeat (first | with_reducible refine ext_alloc ?_ _ | with_reducible refine Below.drew ?_ | with_reducible assumption | with_reducible exact ext_refl _ | refine ext_set ?_ (by first | exact Nat.le_refl _ | exact hyz) _)))
    (first
      | (go_at_call 54; (with_reducible refine (cloneRP1 g c g1 k1 g2 k2 A n d zs _ ?_ ?_).mono ?_); (exact HGy.out.ext (entB (by assumption))); (exact HAy.out.ext (entB (by assumption))); rintro e Z ⟨g', k', us, rfl, hk', hg', ha', hb'⟩; have hYZ := ext_call (entB (by assumption)) hb'; have hyz := hYZ.size; try (have hbz := (show Blk Z Y.heap.size 39 #[.int .i64 0, .int .i64 0, .int .i64 0, .int .i64 0, .int .i64 0, .int .i64 0, .int .i64 0, .slice none 0 0, .int .i64 0, .bool false, .int .i64 0, .int .i64 0, .int .i64 0, .slice none 0 0, .slice none 0 0] from ((Blk.new Y _ _).drew).ext hb')))
      | (go_at_call 55; (with_reducible refine (cloneRec A' c' _).mono ?_); rintro e Z2 ⟨B, d', rfl, hb2⟩; have hYZ2 := ext_call (entB (by assumption)) hb2; (first | (have hg2 := hg'.ext hb2; have ha2 := ha'.ext hb2) | (have hg2 := (hg'.alloc _).ext hb2; have ha2 := (ha'.ext (ext_new _ _)).ext hb2)); (first | (have hbx := (show Blk Z2 Y.heap.size 39 #[.int .i64 0, .int .i64 0, .int .i64 0, .int .i64 0, .int .i64 0, .int .i64 0, .int .i64 0, .slice none 0 0, .int .i64 0, .bool false, .int .i64 0, .int .i64 0, .int .i64 0, .slice none 0 0, .slice none 0 0] from hbz.ext hb2); have bx0 := hbx.cell 0; have bf0 := hbx.frozen 0; have bx1 := hbx.cell 1; have bf1 := hbx.frozen 1; have bx2 := hbx.cell 2; have bf2 := hbx.frozen 2; have bx3 := hbx.cell 3; have bf3 := hbx.frozen 3; have bx4 := hbx.cell 4; have bf4 := hbx.frozen 4; have bx5 := hbx.cell 5; have bf5 := hbx.frozen 5; have bx6 := hbx.cell 6; have bf6 := hbx.frozen 6; have bx7 := hbx.cell 7; have bf7 := hbx.frozen 7; have bx8 := hbx.cell 8; have bf8 := hbx.frozen 8; have bx9 := hbx.cell 9; have bf9 := hbx.frozen 9; have bx10 := hbx.cell 10; have bf10 := hbx.frozen 10; have bx11 := hbx.cell 11; have bf11 := hbx.frozen 11; have bx12 := hbx.cell 12; have bf12 := hbx.frozen 12; have bx13 := hbx.cell 13; have bf13 := hbx.frozen 13; have bx14 := hbx.cell 14; have bf14 := hbx.frozen 14; have HBX := Lib.hid hbx; clear hbx) | (have hbx := (show Blk Z2 Z.heap.size 39 #[.int .i64 0, .int .i64 0, .int .i64 0, .int .i64 0, .int .i64 0, .int .i64 0, .int .i64 0, .slice none 0 0, .int .i64 0, .bool false, .int .i64 0, .int .i64 0, .int .i64 0, .slice none 0 0, .slice none 0 0] from (Blk.new Z _ _).ext hb2); have bx0 := hbx.cell 0; have bf0 := hbx.frozen 0; have bx1 := hbx.cell 1; have bf1 := hbx.frozen 1; have bx2 := hbx.cell 2; have bf2 := hbx.frozen 2; have bx3 := hbx.cell 3; have bf3 := hbx.frozen 3; have bx4 := hbx.cell 4; have bf4 := hbx.frozen 4; have bx5 := hbx.cell 5; have bf5 := hbx.frozen 5; have bx6 := hbx.cell 6; have bf6 := hbx.frozen 6; have bx7 := hbx.cell 7; have bf7 := hbx.frozen 7; have bx8 := hbx.cell 8; have bf8 := hbx.frozen 8; have bx9 := hbx.cell 9; have bf9 := hbx.frozen 9; have bx10 := hbx.cell 10; have bf10 := hbx.frozen 10; have bx11 := hbx.cell 11; have bf11 := hbx.frozen 11; have bx12 := hbx.cell 12; have bf12 := hbx.frozen 12; have bx13 := hbx.cell 13; have bf13 := hbx.frozen 13; have bx14 := hbx.cell 14; have bf14 := hbx.frozen 14; have HBX := Lib.hid hbx; clear hbx) | skip)))
  all_goals
    first
    | (generalize hV : (World.setCell (World.setCell (World.setCell (World.setCell (World.setCell (World.setCell (World.setCell (World.setCell (World.setCell (World.setCell (World.setCell (World.setCell (World.setCell (World.setCell (World.setCell Z2 ⟨Y.heap.size, 0, none⟩ (.int .i64 1)) ⟨Y.heap.size, 1, none⟩ (.int .i64 0)) ⟨Y.heap.size, 2, none⟩ (.int .i64 0)) ⟨Y.heap.size, 3, none⟩ (.int .i64 5)) ⟨Y.heap.size, 4, none⟩ (.int .i64 5)) ⟨Y.heap.size, 5, none⟩ (.int .i64 0)) ⟨Y.heap.size, 6, none⟩ (.int .i64 0)) ⟨Y.heap.size, 7, none⟩ (.slice none 0 0)) ⟨Y.heap.size, 8, none⟩ (.int .i64 0)) ⟨Y.heap.size, 9, none⟩ (.bool false)) ⟨Y.heap.size, 10, none⟩ (.int .i64 0)) ⟨Y.heap.size, 11, none⟩ (.int .i64 1)) ⟨Y.heap.size, 12, none⟩ (.int .i64 1)) ⟨Y.heap.size, 13, none⟩ (.slice (some ⟨g', 0, none⟩) 1 k')) ⟨Y.heap.size, 14, none⟩ (.slice B 0 d')) = V
       have HPv := Lib.hid (show Blk V Y.heap.size 39 #[.int .i64 1, .int .i64 0, .int .i64 0, .int .i64 5, .int .i64 5, .int .i64 0, .int .i64 0, .slice none 0 0, .int .i64 0, .bool false, .int .i64 0, .int .i64 1, .int .i64 1, .slice (some ⟨g', 0, none⟩) 1 k', .slice B 0 d'] by subst hV; exact blk_set15 HBX.out)
       have HEv := Lib.hid (show Below Y.heap.size Y V by subst hV; exact ext_set15 hYZ2 (Nat.le_refl _))
       have HGv := Lib.hid (show 1 ≤ k' ∧ Blk V g' 126 (#[.int .i64 0, .int .i64 0, .int .i64 5, .int .i64 5, .int .i64 1, .int .i64 0, .slice (some ⟨g1, 0, none⟩) 1 k1, .slice (some ⟨g2, 0, none⟩) 1 k2, .slice A n d] ++ us) ∧ RPx true V #[.int .i64 0, .int .i64 0, .int .i64 5, .int .i64 5, .int .i64 1, .int .i64 0, .slice (some ⟨g1, 0, none⟩) 1 k1, .slice (some ⟨g2, 0, none⟩) 1 k2, .slice A n d] by subst hV; exact ⟨hk', (heap_set15 (blk_ne hg2 HBX.out (by decide))).trans hg2, ha2.keepB HBX.out (by simp [noStr]) (by decide) (by decide) (ext2_set15 _ _ _ _ _ _ _ _ _ _ _ _ _ _ _ _ _)⟩)
       clear bx0 bf0 bx1 bf1 bx2 bf2 bx3 bf3 bx4 bf4 bx5 bf5 bx6 bf6 bx7 bf7 bx8 bf8 bx9 bf9 bx10 bf10 bx11 bf11 bx12 bf12 bx13 bf13 bx14 bf14
       clear hV HBX hYZ2 hg2 ha2 hb2 hYZ hyz hk' hg' ha' hb' hbz
       generalize hbq : Y.heap.size = bq at HPv ⊢
       have HLq := Lib.hid (show Y.heap.size ≤ bq by omega)
       clear hbq)
    | (generalize hV : (World.setCell (World.setCell (World.setCell (World.setCell (World.setCell (World.setCell (World.setCell (World.setCell (World.setCell (World.setCell (World.setCell (World.setCell (World.setCell (World.setCell (World.setCell Z2 ⟨Z.heap.size, 0, none⟩ (.int .i64 1)) ⟨Z.heap.size, 1, none⟩ (.int .i64 0)) ⟨Z.heap.size, 2, none⟩ (.int .i64 0)) ⟨Z.heap.size, 3, none⟩ (.int .i64 5)) ⟨Z.heap.size, 4, none⟩ (.int .i64 5)) ⟨Z.heap.size, 5, none⟩ (.int .i64 0)) ⟨Z.heap.size, 6, none⟩ (.int .i64 0)) ⟨Z.heap.size, 7, none⟩ (.slice none 0 0)) ⟨Z.heap.size, 8, none⟩ (.int .i64 0)) ⟨Z.heap.size, 9, none⟩ (.bool false)) ⟨Z.heap.size, 10, none⟩ (.int .i64 0)) ⟨Z.heap.size, 11, none⟩ (.int .i64 1)) ⟨Z.heap.size, 12, none⟩ (.int .i64 1)) ⟨Z.heap.size, 13, none⟩ (.slice (some ⟨g', 0, none⟩) 1 k')) ⟨Z.heap.size, 14, none⟩ (.slice B 0 d')) = V
       have HPv := Lib.hid (show Blk V Z.heap.size 39 #[.int .i64 1, .int .i64 0, .int .i64 0, .int .i64 5, .int .i64 5, .int .i64 0, .int .i64 0, .slice none 0 0, .int .i64 0, .bool false, .int .i64 0, .int .i64 1, .int .i64 1, .slice (some ⟨g', 0, none⟩) 1 k', .slice B 0 d'] by subst hV; exact blk_set15 HBX.out)
       have HEv := Lib.hid (show Below Y.heap.size Y V by subst hV; exact ext_set15 hYZ2 hyz)
       have HGv := Lib.hid (show 1 ≤ k' ∧ Blk V g' 126 (#[.int .i64 0, .int .i64 0, .int .i64 5, .int .i64 5, .int .i64 1, .int .i64 0, .slice (some ⟨g1, 0, none⟩) 1 k1, .slice (some ⟨g2, 0, none⟩) 1 k2, .slice A n d] ++ us) ∧ RPx true V #[.int .i64 0, .int .i64 0, .int .i64 5, .int .i64 5, .int .i64 1, .int .i64 0, .slice (some ⟨g1, 0, none⟩) 1 k1, .slice (some ⟨g2, 0, none⟩) 1 k2, .slice A n d] by subst hV; exact ⟨hk', (heap_set15 (blk_ne hg2 HBX.out (by decide))).trans hg2, ha2.keepB HBX.out (by simp [noStr]) (by decide) (by decide) (ext2_set15 _ _ _ _ _ _ _ _ _ _ _ _ _ _ _ _ _)⟩)
       clear bx0 bf0 bx1 bf1 bx2 bf2 bx3 bf3 bx4 bf4 bx5 bf5 bx6 bf6 bx7 bf7 bx8 bf8 bx9 bf9 bx10 bf10 bx11 bf11 bx12 bf12 bx13 bf13 bx14 bf14
       clear hV HBX hYZ2 hg2 ha2 hb2 hYZ hk' hg' ha' hb'
       generalize hbq : Z.heap.size = bq at HPv ⊢
       have HLq := Lib.hid (show Y.heap.size ≤ bq by omega)
       clear hbq hyz)
    | (generalize hV : World.alloc Z2 (.cells #[.int .i64 1, .int .i64 0, .int .i64 0, .int .i64 5, .int .i64 5, .int .i64 0, .int .i64 0, .slice none 0 0, .int .i64 0, .bool false, .int .i64 0, .int .i64 1, .int .i64 1, .slice (some ⟨g', 0, none⟩) 1 k', .slice B 0 d'] 39) = V
       have HPv := Lib.hid (show Blk V Z2.heap.size 39 #[.int .i64 1, .int .i64 0, .int .i64 0, .int .i64 5, .int .i64 5, .int .i64 0, .int .i64 0, .slice none 0 0, .int .i64 0, .bool false, .int .i64 0, .int .i64 1, .int .i64 1, .slice (some ⟨g', 0, none⟩) 1 k', .slice B 0 d'] by subst hV; exact Blk.new _ _ _)
       have HEv := Lib.hid (show Below Y.heap.size Y V by subst hV; exact ext_alloc hYZ2 _)
       have HGv := Lib.hid (show 1 ≤ k' ∧ Blk V g' 126 (#[.int .i64 0, .int .i64 0, .int .i64 5, .int .i64 5, .int .i64 1, .int .i64 0, .slice (some ⟨g1, 0, none⟩) 1 k1, .slice (some ⟨g2, 0, none⟩) 1 k2, .slice A n d] ++ us) ∧ RPx true V #[.int .i64 0, .int .i64 0, .int .i64 5, .int .i64 5, .int .i64 1, .int .i64 0, .slice (some ⟨g1, 0, none⟩) 1 k1, .slice (some ⟨g2, 0, none⟩) 1 k2, .slice A n d] by subst hV; exact ⟨hk', hg2.alloc _, ha2.ext (ext_new _ _)⟩)
       have hyz2 := hYZ2.size
       clear hV hYZ2 hg2 ha2 hb2 hYZ hyz hk' hg' ha' hb'
       generalize hbq : Z2.heap.size = bq at HPv ⊢
       have HLq := Lib.hid (show Y.heap.size ≤ bq by omega)
       clear hbq hyz2)
  all_goals
    have HLw := Lib.hid (show w.heap.size ≤ bq ∧ w.heap.size + 1 ≠ bq by have := HEy.out.size; have := HRy.out.lt; have := HLq.out; omega)
    have HBv := Lib.hid (HBy.out.ext HEv.out)
    have HRv := Lib.hid (HRy.out.ext HEv.out)
    have HSv := Lib.hid (HSy.out.ext HEv.out)
    have HEw := Lib.hid (ext_call HEy.out HEv.out)
    clear e0 e1 e2 e3 e4 e5 e6 e7 e8 e9 HGy HAy HLq
    obtain ⟨e0, e1, e2, e3, e4, e5, e6, e7, e8, e9⟩ := cells10 HBv.out
    obtain ⟨s0, s1, s2⟩ := cells3 HSv.out
    go_wp2_with fail
    refine (replay1 ga ka ua 1 A' c' _ (HVy.out.ext HEv.out)).mono ?_
    rintro e U ⟨v5, rfl, hv5, hbu⟩
    obtain ⟨gb, kb, ub, rfl, hkb, hgb⟩ := rows_one hv5
    have HPu := Lib.hid (HPv.out.ext hbu)
    have HRu := Lib.hid (HRv.out.ext hbu)
    have HGu := Lib.hid (And.intro HGv.out.1 (And.intro (HGv.out.2.1.ext hbu) (HGv.out.2.2.ext hbu)))
    have HEu := Lib.hid (ext_call HEw.out hbu)
    have HRb := Lib.hid (And.intro hkb hgb)
    clear hkb hgb hv5
    clear hbu e0 e1 e2 e3 e4 e5 e6 e7 e8 e9 s0 s1 s2 HBv HRv HSv HEw HPv HGv HBy HRy HSy HEy HEv hwr
    have HI := Lib.hid ans_size
    have H1 := Lib.hid (show (#[.int .i64 1, .int .i64 0, .int .i64 0, .int .i64 5, .int .i64 5, .int .i64 0, .int .i64 0, .slice (some ⟨gb, 0, none⟩) 1 kb, .int .i64 0, .bool false, .int .i64 1, .int .i64 1, .int .i64 1, .slice (some ⟨g', 0, none⟩) 1 k', .slice B 0 d'] : Array Value).all (·.oneCell') = true by simp [Value.oneCell'])
    have p7 : U.cell? ⟨bq, 7, none⟩ = some (.slice none 0 0) := HPu.out.cell 7
    have p8 : U.cell? ⟨bq, 8, none⟩ = some (.int .i64 0) := HPu.out.cell 8
    have p9 : U.cell? ⟨bq, 9, none⟩ = some (.bool false) := HPu.out.cell 9
    have p10 : U.cell? ⟨bq, 10, none⟩ = some (.int .i64 0) := HPu.out.cell 10
    have pf7 := HPu.out.frozen 7; have pf8 := HPu.out.frozen 8; have pf9 := HPu.out.frozen 9; have pf10 := HPu.out.frozen 10
    go_upto_region 8 with (fail)
    clear p7 p8 p9 p10 pf7 pf8 pf9 pf10
    generalize hX4 : (World.setCell (World.setCell (World.setCell (World.setCell U ⟨bq, 7, none⟩ (.slice (some ⟨gb, 0, none⟩) 1 kb)) ⟨bq, 8, none⟩ (.int .i64 0)) ⟨bq, 9, none⟩ (.bool false)) ⟨bq, 10, none⟩ (.int .i64 1)) = X4
    have hX4' : Ext2 bq bq U X4 := by subst hX4; exact ext2_set4 _ _ _ _ _ _
    have HPx := Lib.hid (show Blk X4 bq 39 #[.int .i64 1, .int .i64 0, .int .i64 0, .int .i64 5, .int .i64 5, .int .i64 0, .int .i64 0, .slice (some ⟨gb, 0, none⟩) 1 kb, .int .i64 0, .bool false, .int .i64 1, .int .i64 1, .int .i64 1, .slice (some ⟨g', 0, none⟩) 1 k', .slice B 0 d'] by subst hX4; exact blk_mid4 HPu.out)
    have HRx := Lib.hid (HRu.out.ext2 hX4' HLw.out.2 HLw.out.2)
    have HGx := Lib.hid (And.intro HGu.out.1 (And.intro (HGu.out.2.1.ext2 hX4' (blk_ne HGu.out.2.1 HPu.out (by decide)) (blk_ne HGu.out.2.1 HPu.out (by decide))) (HGu.out.2.2.keepB HPu.out (by simp [noStr]) (by decide) (by decide) hX4')))
    have HEx := Lib.hid (Ext2.below HEu.out HLw.out.1 HLw.out.1 hX4')
    have HRw := Lib.hid (And.intro HRb.out.1 (HRb.out.2.ext2 hX4' (blk_ne HRb.out.2 HPu.out (by decide)) (blk_ne HRb.out.2 HPu.out (by decide))))
    clear hX4 hX4' HPu HRu HGu HEu
    go_wp2_with (first
      | (refine wpList_load_row rfl 39 (.tmp 8) rfl bq rfl 39 #[.int .i64 1, .int .i64 0, .int .i64 0, .int .i64 5, .int .i64 5, .int .i64 0, .int .i64 0, .slice (some ⟨gb, 0, none⟩) 1 kb, .int .i64 0, .bool false, .int .i64 1, .int .i64 1, .int .i64 1, .slice (some ⟨g', 0, none⟩) 1 k', .slice B 0 d'] (0, 0) _ HPx.out Tryz.underlying39 rfl HI.out ?_)
      | (refine wpList_store_blk rfl 39 (.tmp 4) (.tmp 56) rfl (w.heap.size + 1) #[.int .i64 1, .int .i64 0, .int .i64 0, .int .i64 5, .int .i64 5, .int .i64 0, .int .i64 0, .slice (some ⟨gb, 0, none⟩) 1 kb, .int .i64 0, .bool false, .int .i64 1, .int .i64 1, .int .i64 1, .slice (some ⟨g', 0, none⟩) 1 k', .slice B 0 d'] rfl rfl 39 #[.int .i64 0, .int .i64 0, .int .i64 0, .int .i64 0, .int .i64 0, .int .i64 0, .int .i64 0, .slice none 0 0, .int .i64 0, .bool false, .int .i64 0, .int .i64 0, .int .i64 0, .slice none 0 0, .slice none 0 0] HRx.out HI.out rfl H1.out ?_; intro X hbx hgx))
    have hX := Ext2.of_grown hgx
    obtain ⟨y0, y1, y2, y3, y4, y5, y6, y7, y8, y9, y10, y11, y12, y13, y14⟩ := cells15 hbx
    refine bodyPost_ret (v := .tuple #[.agg #[.int .i64 1, .int .i64 0, .int .i64 0, .int .i64 5, .int .i64 5, .int .i64 0, .int .i64 0, .slice (some ⟨gb, 0, none⟩) 1 kb, .int .i64 0, .bool false, .int .i64 1, .int .i64 1, .int .i64 1, .slice (some ⟨g', 0, none⟩) 1 k', .slice B 0 d'], .bool true]) (by simp [results, Tryz.results27, go_sem, y0, y1, y2, y3, y4, y5, y6, y7, y8, y9, y10, y11, y12, y13, y14]) rfl ⟨#[.int .i64 1, .int .i64 0, .int .i64 0, .int .i64 5, .int .i64 5, .int .i64 0, .int .i64 0, .slice (some ⟨gb, 0, none⟩) 1 kb, .int .i64 0, .bool false, .int .i64 1, .int .i64 1, .int .i64 1, .slice (some ⟨g', 0, none⟩) 1 k', .slice B 0 d'], rfl, ⟨.slice (some ⟨gb, 0, none⟩) 1 kb, g', k', #[.int .i64 0, .int .i64 0, .int .i64 5, .int .i64 5, .int .i64 1, .int .i64 0, .slice (some ⟨g1, 0, none⟩) 1 k1, .slice (some ⟨g2, 0, none⟩) 1 k2, .slice A n d], us, B, d', rfl, ?_, HGx.out.1, ?_, ?_⟩, ?_⟩
    · exact .inr ⟨rfl, gb, kb, ub, rfl, HRw.out.1, HRw.out.2.ext2 hX (blk_ne HRw.out.2 HRx.out (by decide)) (blk_ne HRw.out.2 HRx.out (by decide))⟩
    · exact HGx.out.2.1.ext2 hX (blk_ne HGx.out.2.1 HRx.out (by decide)) (blk_ne HGx.out.2.1 HRx.out (by decide))
    · exact HGx.out.2.2.keepB HRx.out (by simp [noStr]) (by decide) (by decide) hX
    · exact Ext2.below HEx.out (by omega) (by omega) hX

set_option maxRecDepth 100000 in
set_option maxHeartbeats 4000000 in
theorem build0 (g c : Nat) (A : Option Addr) (n d : Nat) (zs : Array Value) (A' : Option Addr) (c' : Nat) (w : World) (hc : 1 ≤ c) (hg : Blk w g 126 (#[.int .i64 0, .int .i64 0, .int .i64 0, .int .i64 0, .int .i64 0, .int .i64 0, .slice none 0 0, .slice none 0 0, .slice A n d] ++ zs)) (hra : RPx false w #[.int .i64 0, .int .i64 0, .int .i64 0, .int .i64 0, .int .i64 0, .int .i64 0, .slice none 0 0, .slice none 0 0, .slice A n d]) :
    Calls Tryz.prog 27 #[.agg #[.int .i64 3, .int .i64 0, .int .i64 0, .int .i64 0, .int .i64 0, .int .i64 0, .int .i64 0, .int .i64 0, .int .i64 0, .slice (some ⟨g, 0, none⟩) 1 c], .slice A' 0 c'] w
      fun e w' => ∃ va, e = .returned (.tuple #[.agg va, .bool true]) ∧ AnsAt false w' va ∧ Below w.heap.size w w' := by
  obtain ⟨W0, hW0⟩ : ∃ W0, W0 = (w.alloc (.cells #[.int .i64 3, .int .i64 0, .int .i64 0, .int .i64 0, .int .i64 0, .int .i64 0, .int .i64 0, .int .i64 0, .int .i64 0, .slice (some ⟨g, 0, none⟩) 1 c] 87)).alloc (.cells #[.int .i64 0, .int .i64 0, .int .i64 0, .int .i64 0, .int .i64 0, .int .i64 0, .int .i64 0, .slice none 0 0, .int .i64 0, .bool false, .int .i64 0, .int .i64 0, .int .i64 0, .slice none 0 0, .slice none 0 0] 39) := ⟨_, rfl⟩
  have hE0 : Below w.heap.size w W0 := by rw [hW0]; exact ext_alloc (ext_new _ _) _
  have HB0 := Lib.hid (show Blk W0 w.heap.size 87 #[.int .i64 3, .int .i64 0, .int .i64 0, .int .i64 0, .int .i64 0, .int .i64 0, .int .i64 0, .int .i64 0, .int .i64 0, .slice (some ⟨g, 0, none⟩) 1 c] by rw [hW0]; exact (Blk.new _ _ _).alloc _)
  have HR0 := Lib.hid (show Blk W0 (w.heap.size + 1) 39 #[.int .i64 0, .int .i64 0, .int .i64 0, .int .i64 0, .int .i64 0, .int .i64 0, .int .i64 0, .slice none 0 0, .int .i64 0, .bool false, .int .i64 0, .int .i64 0, .int .i64 0, .slice none 0 0, .slice none 0 0] by rw [hW0]; exact Blk.new' _ _ _ (by simp))
  have HG0 := Lib.hid (hg.ext hE0)
  have HA0 := Lib.hid (hra.ext hE0)
  have HE0 := Lib.hid hE0
  have HW0 := Lib.hid hW0
  clear hW0 hE0 hg hra
  go_enter Tryz.func27, Tryz.ntmps27
  go_wp2_with fail
  rw [← HW0.out]
  refine (start0 g c A n d zs _ hc HG0.out HA0.out).mono ?_
  rintro e W1 ⟨v, rfl, hv, hb1⟩
  obtain rfl := rows_none hv
  clear hv
  have HE1 := Lib.hid (ext_call HE0.out hb1)
  have HB1 := Lib.hid (HB0.out.ext hb1)
  have HR1 := Lib.hid (HR0.out.ext hb1)
  have HG1 := Lib.hid (HG0.out.ext hb1)
  have HA1 := Lib.hid (HA0.out.ext hb1)
  clear hb1 HW0 HE0 HB0 HR0 HG0 HA0
  go_wp2_with fail
  have HEy := Lib.hid (ext_alloc HE1.out (.cells #[.slice none 0 0, .int .i64 0, .bool false] 36))
  have HBy := Lib.hid (HB1.out.alloc (.cells #[.slice none 0 0, .int .i64 0, .bool false] 36))
  have HRy := Lib.hid (HR1.out.alloc (.cells #[.slice none 0 0, .int .i64 0, .bool false] 36))
  have HGy := Lib.hid (HG1.out.alloc (.cells #[.slice none 0 0, .int .i64 0, .bool false] 36))
  have HAy := Lib.hid (HA1.out.ext (ext_new W1 (.cells #[.slice none 0 0, .int .i64 0, .bool false] 36)))
  have HSy := Lib.hid (Blk.new W1 36 #[.slice none 0 0, .int .i64 0, .bool false])
  clear HE1 HB1 HR1 HG1 HA1
  generalize World.alloc W1 (.cells #[.slice none 0 0, .int .i64 0, .bool false] 36) = Y at *
  generalize W1.heap.size = bs at *
  obtain ⟨e0, e1, e2, e3, e4, e5, e6, e7, e8, e9⟩ := cells10 HBy.out
  have hwr : IntKind.i64.wrap 0 = 0 := by decide
  go_region_held3 (fun w' => w'.cell? ⟨w.heap.size, 0, none⟩ = some (.int .i64 3) ∧ w'.cell? ⟨w.heap.size, 1, none⟩ = some (.int .i64 0) ∧ w'.cell? ⟨w.heap.size, 2, none⟩ = some (.int .i64 0) ∧ w'.cell? ⟨w.heap.size, 3, none⟩ = some (.int .i64 0) ∧ w'.cell? ⟨w.heap.size, 4, none⟩ = some (.int .i64 0) ∧ w'.cell? ⟨w.heap.size, 5, none⟩ = some (.int .i64 0) ∧ w'.cell? ⟨w.heap.size, 6, none⟩ = some (.int .i64 0) ∧ w'.cell? ⟨w.heap.size, 8, none⟩ = some (.int .i64 0) ∧ w'.cell? ⟨w.heap.size, 9, none⟩ = some (.slice (some ⟨g, 0, none⟩) 1 c) ∧ Below Y.heap.size Y w')
    (first | with_reducible assumption | exact entKeep HBy.out (by repeat (first | with_reducible refine ext_alloc ?_ _ | with_reducible refine Below.drew ?_ | with_reducible assumption | with_reducible exact ext_refl _ | refine ext_set ?_ (by first | exact Nat.le_refl _ | exact hyz) _)))
    (first
      | (go_at_call 54; (with_reducible refine (cloneRP0 g c A n d zs _ ?_ ?_).mono ?_); (exact HGy.out.ext (entB (by assumption))); (exact HAy.out.ext (entB (by assumption))); rintro e Z ⟨g', k', us, rfl, hk', hg', ha', hb'⟩; have hYZ := ext_call (entB (by assumption)) hb'; have hyz := hYZ.size; try (have hbz := (show Blk Z Y.heap.size 39 #[.int .i64 0, .int .i64 0, .int .i64 0, .int .i64 0, .int .i64 0, .int .i64 0, .int .i64 0, .slice none 0 0, .int .i64 0, .bool false, .int .i64 0, .int .i64 0, .int .i64 0, .slice none 0 0, .slice none 0 0] from ((Blk.new Y _ _).drew).ext hb')))
      | (go_at_call 55; (with_reducible refine (cloneRec A' c' _).mono ?_); rintro e Z2 ⟨B, d', rfl, hb2⟩; have hYZ2 := ext_call (entB (by assumption)) hb2; (first | (have hg2 := hg'.ext hb2; have ha2 := ha'.ext hb2) | (have hg2 := (hg'.alloc _).ext hb2; have ha2 := (ha'.ext (ext_new _ _)).ext hb2)); (first | (have hbx := (show Blk Z2 Y.heap.size 39 #[.int .i64 0, .int .i64 0, .int .i64 0, .int .i64 0, .int .i64 0, .int .i64 0, .int .i64 0, .slice none 0 0, .int .i64 0, .bool false, .int .i64 0, .int .i64 0, .int .i64 0, .slice none 0 0, .slice none 0 0] from hbz.ext hb2); have bx0 := hbx.cell 0; have bf0 := hbx.frozen 0; have bx1 := hbx.cell 1; have bf1 := hbx.frozen 1; have bx2 := hbx.cell 2; have bf2 := hbx.frozen 2; have bx3 := hbx.cell 3; have bf3 := hbx.frozen 3; have bx4 := hbx.cell 4; have bf4 := hbx.frozen 4; have bx5 := hbx.cell 5; have bf5 := hbx.frozen 5; have bx6 := hbx.cell 6; have bf6 := hbx.frozen 6; have bx7 := hbx.cell 7; have bf7 := hbx.frozen 7; have bx8 := hbx.cell 8; have bf8 := hbx.frozen 8; have bx9 := hbx.cell 9; have bf9 := hbx.frozen 9; have bx10 := hbx.cell 10; have bf10 := hbx.frozen 10; have bx11 := hbx.cell 11; have bf11 := hbx.frozen 11; have bx12 := hbx.cell 12; have bf12 := hbx.frozen 12; have bx13 := hbx.cell 13; have bf13 := hbx.frozen 13; have bx14 := hbx.cell 14; have bf14 := hbx.frozen 14; have HBX := Lib.hid hbx; clear hbx) | (have hbx := (show Blk Z2 Z.heap.size 39 #[.int .i64 0, .int .i64 0, .int .i64 0, .int .i64 0, .int .i64 0, .int .i64 0, .int .i64 0, .slice none 0 0, .int .i64 0, .bool false, .int .i64 0, .int .i64 0, .int .i64 0, .slice none 0 0, .slice none 0 0] from (Blk.new Z _ _).ext hb2); have bx0 := hbx.cell 0; have bf0 := hbx.frozen 0; have bx1 := hbx.cell 1; have bf1 := hbx.frozen 1; have bx2 := hbx.cell 2; have bf2 := hbx.frozen 2; have bx3 := hbx.cell 3; have bf3 := hbx.frozen 3; have bx4 := hbx.cell 4; have bf4 := hbx.frozen 4; have bx5 := hbx.cell 5; have bf5 := hbx.frozen 5; have bx6 := hbx.cell 6; have bf6 := hbx.frozen 6; have bx7 := hbx.cell 7; have bf7 := hbx.frozen 7; have bx8 := hbx.cell 8; have bf8 := hbx.frozen 8; have bx9 := hbx.cell 9; have bf9 := hbx.frozen 9; have bx10 := hbx.cell 10; have bf10 := hbx.frozen 10; have bx11 := hbx.cell 11; have bf11 := hbx.frozen 11; have bx12 := hbx.cell 12; have bf12 := hbx.frozen 12; have bx13 := hbx.cell 13; have bf13 := hbx.frozen 13; have bx14 := hbx.cell 14; have bf14 := hbx.frozen 14; have HBX := Lib.hid hbx; clear hbx) | skip)))
  all_goals
    first
    | (generalize hV : (World.setCell (World.setCell (World.setCell (World.setCell (World.setCell (World.setCell (World.setCell (World.setCell (World.setCell (World.setCell (World.setCell (World.setCell (World.setCell (World.setCell (World.setCell Z2 ⟨Y.heap.size, 0, none⟩ (.int .i64 3)) ⟨Y.heap.size, 1, none⟩ (.int .i64 0)) ⟨Y.heap.size, 2, none⟩ (.int .i64 0)) ⟨Y.heap.size, 3, none⟩ (.int .i64 0)) ⟨Y.heap.size, 4, none⟩ (.int .i64 0)) ⟨Y.heap.size, 5, none⟩ (.int .i64 0)) ⟨Y.heap.size, 6, none⟩ (.int .i64 0)) ⟨Y.heap.size, 7, none⟩ (.slice none 0 0)) ⟨Y.heap.size, 8, none⟩ (.int .i64 0)) ⟨Y.heap.size, 9, none⟩ (.bool false)) ⟨Y.heap.size, 10, none⟩ (.int .i64 0)) ⟨Y.heap.size, 11, none⟩ (.int .i64 0)) ⟨Y.heap.size, 12, none⟩ (.int .i64 0)) ⟨Y.heap.size, 13, none⟩ (.slice (some ⟨g', 0, none⟩) 1 k')) ⟨Y.heap.size, 14, none⟩ (.slice B 0 d')) = V
       have HPv := Lib.hid (show Blk V Y.heap.size 39 #[.int .i64 3, .int .i64 0, .int .i64 0, .int .i64 0, .int .i64 0, .int .i64 0, .int .i64 0, .slice none 0 0, .int .i64 0, .bool false, .int .i64 0, .int .i64 0, .int .i64 0, .slice (some ⟨g', 0, none⟩) 1 k', .slice B 0 d'] by subst hV; exact blk_set15 HBX.out)
       have HEv := Lib.hid (show Below Y.heap.size Y V by subst hV; exact ext_set15 hYZ2 (Nat.le_refl _))
       have HGv := Lib.hid (show 1 ≤ k' ∧ Blk V g' 126 (#[.int .i64 0, .int .i64 0, .int .i64 0, .int .i64 0, .int .i64 0, .int .i64 0, .slice none 0 0, .slice none 0 0, .slice A n d] ++ us) ∧ RPx false V #[.int .i64 0, .int .i64 0, .int .i64 0, .int .i64 0, .int .i64 0, .int .i64 0, .slice none 0 0, .slice none 0 0, .slice A n d] by subst hV; exact ⟨hk', (heap_set15 (blk_ne hg2 HBX.out (by decide))).trans hg2, ha2.keepB HBX.out (by simp [noStr]) (by decide) (by decide) (ext2_set15 _ _ _ _ _ _ _ _ _ _ _ _ _ _ _ _ _)⟩)
       clear bx0 bf0 bx1 bf1 bx2 bf2 bx3 bf3 bx4 bf4 bx5 bf5 bx6 bf6 bx7 bf7 bx8 bf8 bx9 bf9 bx10 bf10 bx11 bf11 bx12 bf12 bx13 bf13 bx14 bf14
       clear hV HBX hYZ2 hg2 ha2 hb2 hYZ hyz hk' hg' ha' hb' hbz
       generalize hbq : Y.heap.size = bq at HPv ⊢
       have HLq := Lib.hid (show Y.heap.size ≤ bq by omega)
       clear hbq)
    | (generalize hV : (World.setCell (World.setCell (World.setCell (World.setCell (World.setCell (World.setCell (World.setCell (World.setCell (World.setCell (World.setCell (World.setCell (World.setCell (World.setCell (World.setCell (World.setCell Z2 ⟨Z.heap.size, 0, none⟩ (.int .i64 3)) ⟨Z.heap.size, 1, none⟩ (.int .i64 0)) ⟨Z.heap.size, 2, none⟩ (.int .i64 0)) ⟨Z.heap.size, 3, none⟩ (.int .i64 0)) ⟨Z.heap.size, 4, none⟩ (.int .i64 0)) ⟨Z.heap.size, 5, none⟩ (.int .i64 0)) ⟨Z.heap.size, 6, none⟩ (.int .i64 0)) ⟨Z.heap.size, 7, none⟩ (.slice none 0 0)) ⟨Z.heap.size, 8, none⟩ (.int .i64 0)) ⟨Z.heap.size, 9, none⟩ (.bool false)) ⟨Z.heap.size, 10, none⟩ (.int .i64 0)) ⟨Z.heap.size, 11, none⟩ (.int .i64 0)) ⟨Z.heap.size, 12, none⟩ (.int .i64 0)) ⟨Z.heap.size, 13, none⟩ (.slice (some ⟨g', 0, none⟩) 1 k')) ⟨Z.heap.size, 14, none⟩ (.slice B 0 d')) = V
       have HPv := Lib.hid (show Blk V Z.heap.size 39 #[.int .i64 3, .int .i64 0, .int .i64 0, .int .i64 0, .int .i64 0, .int .i64 0, .int .i64 0, .slice none 0 0, .int .i64 0, .bool false, .int .i64 0, .int .i64 0, .int .i64 0, .slice (some ⟨g', 0, none⟩) 1 k', .slice B 0 d'] by subst hV; exact blk_set15 HBX.out)
       have HEv := Lib.hid (show Below Y.heap.size Y V by subst hV; exact ext_set15 hYZ2 hyz)
       have HGv := Lib.hid (show 1 ≤ k' ∧ Blk V g' 126 (#[.int .i64 0, .int .i64 0, .int .i64 0, .int .i64 0, .int .i64 0, .int .i64 0, .slice none 0 0, .slice none 0 0, .slice A n d] ++ us) ∧ RPx false V #[.int .i64 0, .int .i64 0, .int .i64 0, .int .i64 0, .int .i64 0, .int .i64 0, .slice none 0 0, .slice none 0 0, .slice A n d] by subst hV; exact ⟨hk', (heap_set15 (blk_ne hg2 HBX.out (by decide))).trans hg2, ha2.keepB HBX.out (by simp [noStr]) (by decide) (by decide) (ext2_set15 _ _ _ _ _ _ _ _ _ _ _ _ _ _ _ _ _)⟩)
       clear bx0 bf0 bx1 bf1 bx2 bf2 bx3 bf3 bx4 bf4 bx5 bf5 bx6 bf6 bx7 bf7 bx8 bf8 bx9 bf9 bx10 bf10 bx11 bf11 bx12 bf12 bx13 bf13 bx14 bf14
       clear hV HBX hYZ2 hg2 ha2 hb2 hYZ hk' hg' ha' hb'
       generalize hbq : Z.heap.size = bq at HPv ⊢
       have HLq := Lib.hid (show Y.heap.size ≤ bq by omega)
       clear hbq hyz)
    | (generalize hV : World.alloc Z2 (.cells #[.int .i64 3, .int .i64 0, .int .i64 0, .int .i64 0, .int .i64 0, .int .i64 0, .int .i64 0, .slice none 0 0, .int .i64 0, .bool false, .int .i64 0, .int .i64 0, .int .i64 0, .slice (some ⟨g', 0, none⟩) 1 k', .slice B 0 d'] 39) = V
       have HPv := Lib.hid (show Blk V Z2.heap.size 39 #[.int .i64 3, .int .i64 0, .int .i64 0, .int .i64 0, .int .i64 0, .int .i64 0, .int .i64 0, .slice none 0 0, .int .i64 0, .bool false, .int .i64 0, .int .i64 0, .int .i64 0, .slice (some ⟨g', 0, none⟩) 1 k', .slice B 0 d'] by subst hV; exact Blk.new _ _ _)
       have HEv := Lib.hid (show Below Y.heap.size Y V by subst hV; exact ext_alloc hYZ2 _)
       have HGv := Lib.hid (show 1 ≤ k' ∧ Blk V g' 126 (#[.int .i64 0, .int .i64 0, .int .i64 0, .int .i64 0, .int .i64 0, .int .i64 0, .slice none 0 0, .slice none 0 0, .slice A n d] ++ us) ∧ RPx false V #[.int .i64 0, .int .i64 0, .int .i64 0, .int .i64 0, .int .i64 0, .int .i64 0, .slice none 0 0, .slice none 0 0, .slice A n d] by subst hV; exact ⟨hk', hg2.alloc _, ha2.ext (ext_new _ _)⟩)
       have hyz2 := hYZ2.size
       clear hV hYZ2 hg2 ha2 hb2 hYZ hyz hk' hg' ha' hb'
       generalize hbq : Z2.heap.size = bq at HPv ⊢
       have HLq := Lib.hid (show Y.heap.size ≤ bq by omega)
       clear hbq hyz2)
  all_goals
    have HLw := Lib.hid (show w.heap.size ≤ bq ∧ w.heap.size + 1 ≠ bq by have := HEy.out.size; have := HRy.out.lt; have := HLq.out; omega)
    have HBv := Lib.hid (HBy.out.ext HEv.out)
    have HRv := Lib.hid (HRy.out.ext HEv.out)
    have HSv := Lib.hid (HSy.out.ext HEv.out)
    have HEw := Lib.hid (ext_call HEy.out HEv.out)
    clear e0 e1 e2 e3 e4 e5 e6 e7 e8 e9 HGy HAy HLq
    obtain ⟨e0, e1, e2, e3, e4, e5, e6, e7, e8, e9⟩ := cells10 HBv.out
    obtain ⟨s0, s1, s2⟩ := cells3 HSv.out
    go_wp2_with fail
    refine (replay0 0 A' c' _).mono ?_
    rintro e U ⟨v5, rfl, hv5, hbu⟩
    obtain rfl := rows_none hv5
    have HPu := Lib.hid (HPv.out.ext hbu)
    have HRu := Lib.hid (HRv.out.ext hbu)
    have HGu := Lib.hid (And.intro HGv.out.1 (And.intro (HGv.out.2.1.ext hbu) (HGv.out.2.2.ext hbu)))
    have HEu := Lib.hid (ext_call HEw.out hbu)
    clear hv5
    clear hbu e0 e1 e2 e3 e4 e5 e6 e7 e8 e9 s0 s1 s2 HBv HRv HSv HEw HPv HGv HBy HRy HSy HEy HEv hwr
    have HI := Lib.hid ans_size
    have H1 := Lib.hid (show (#[.int .i64 3, .int .i64 0, .int .i64 0, .int .i64 0, .int .i64 0, .int .i64 0, .int .i64 0, .slice none 0 0, .int .i64 0, .bool false, .int .i64 0, .int .i64 0, .int .i64 0, .slice (some ⟨g', 0, none⟩) 1 k', .slice B 0 d'] : Array Value).all (·.oneCell') = true by simp [Value.oneCell'])
    have p7 : U.cell? ⟨bq, 7, none⟩ = some (.slice none 0 0) := HPu.out.cell 7
    have p8 : U.cell? ⟨bq, 8, none⟩ = some (.int .i64 0) := HPu.out.cell 8
    have p9 : U.cell? ⟨bq, 9, none⟩ = some (.bool false) := HPu.out.cell 9
    have p10 : U.cell? ⟨bq, 10, none⟩ = some (.int .i64 0) := HPu.out.cell 10
    have pf7 := HPu.out.frozen 7; have pf8 := HPu.out.frozen 8; have pf9 := HPu.out.frozen 9; have pf10 := HPu.out.frozen 10
    go_upto_region 8 with (fail)
    clear p7 p8 p9 p10 pf7 pf8 pf9 pf10
    generalize hX4 : (World.setCell (World.setCell (World.setCell (World.setCell U ⟨bq, 7, none⟩ (.slice none 0 0)) ⟨bq, 8, none⟩ (.int .i64 0)) ⟨bq, 9, none⟩ (.bool false)) ⟨bq, 10, none⟩ (.int .i64 0)) = X4
    have hX4' : Ext2 bq bq U X4 := by subst hX4; exact ext2_set4 _ _ _ _ _ _
    have HPx := Lib.hid (show Blk X4 bq 39 #[.int .i64 3, .int .i64 0, .int .i64 0, .int .i64 0, .int .i64 0, .int .i64 0, .int .i64 0, .slice none 0 0, .int .i64 0, .bool false, .int .i64 0, .int .i64 0, .int .i64 0, .slice (some ⟨g', 0, none⟩) 1 k', .slice B 0 d'] by subst hX4; exact blk_mid4 HPu.out)
    have HRx := Lib.hid (HRu.out.ext2 hX4' HLw.out.2 HLw.out.2)
    have HGx := Lib.hid (And.intro HGu.out.1 (And.intro (HGu.out.2.1.ext2 hX4' (blk_ne HGu.out.2.1 HPu.out (by decide)) (blk_ne HGu.out.2.1 HPu.out (by decide))) (HGu.out.2.2.keepB HPu.out (by simp [noStr]) (by decide) (by decide) hX4')))
    have HEx := Lib.hid (Ext2.below HEu.out HLw.out.1 HLw.out.1 hX4')
    have hz : True := trivial
    clear hz
    clear hX4 hX4' HPu HRu HGu HEu
    go_wp2_with (first
      | (refine wpList_load_row rfl 39 (.tmp 8) rfl bq rfl 39 #[.int .i64 3, .int .i64 0, .int .i64 0, .int .i64 0, .int .i64 0, .int .i64 0, .int .i64 0, .slice none 0 0, .int .i64 0, .bool false, .int .i64 0, .int .i64 0, .int .i64 0, .slice (some ⟨g', 0, none⟩) 1 k', .slice B 0 d'] (0, 0) _ HPx.out Tryz.underlying39 rfl HI.out ?_)
      | (refine wpList_store_blk rfl 39 (.tmp 4) (.tmp 56) rfl (w.heap.size + 1) #[.int .i64 3, .int .i64 0, .int .i64 0, .int .i64 0, .int .i64 0, .int .i64 0, .int .i64 0, .slice none 0 0, .int .i64 0, .bool false, .int .i64 0, .int .i64 0, .int .i64 0, .slice (some ⟨g', 0, none⟩) 1 k', .slice B 0 d'] rfl rfl 39 #[.int .i64 0, .int .i64 0, .int .i64 0, .int .i64 0, .int .i64 0, .int .i64 0, .int .i64 0, .slice none 0 0, .int .i64 0, .bool false, .int .i64 0, .int .i64 0, .int .i64 0, .slice none 0 0, .slice none 0 0] HRx.out HI.out rfl H1.out ?_; intro X hbx hgx))
    have hX := Ext2.of_grown hgx
    obtain ⟨y0, y1, y2, y3, y4, y5, y6, y7, y8, y9, y10, y11, y12, y13, y14⟩ := cells15 hbx
    refine bodyPost_ret (v := .tuple #[.agg #[.int .i64 3, .int .i64 0, .int .i64 0, .int .i64 0, .int .i64 0, .int .i64 0, .int .i64 0, .slice none 0 0, .int .i64 0, .bool false, .int .i64 0, .int .i64 0, .int .i64 0, .slice (some ⟨g', 0, none⟩) 1 k', .slice B 0 d'], .bool true]) (by simp [results, Tryz.results27, go_sem, y0, y1, y2, y3, y4, y5, y6, y7, y8, y9, y10, y11, y12, y13, y14]) rfl ⟨#[.int .i64 3, .int .i64 0, .int .i64 0, .int .i64 0, .int .i64 0, .int .i64 0, .int .i64 0, .slice none 0 0, .int .i64 0, .bool false, .int .i64 0, .int .i64 0, .int .i64 0, .slice (some ⟨g', 0, none⟩) 1 k', .slice B 0 d'], rfl, ⟨.slice none 0 0, g', k', #[.int .i64 0, .int .i64 0, .int .i64 0, .int .i64 0, .int .i64 0, .int .i64 0, .slice none 0 0, .slice none 0 0, .slice A n d], us, B, d', rfl, ?_, HGx.out.1, ?_, ?_⟩, ?_⟩
    · exact .inl ⟨rfl, rfl⟩
    · exact HGx.out.2.1.ext2 hX (blk_ne HGx.out.2.1 HRx.out (by decide)) (blk_ne HGx.out.2.1 HRx.out (by decide))
    · exact HGx.out.2.2.keepB HRx.out (by simp [noStr]) (by decide) (by decide) hX
    · exact Ext2.below HEx.out (by omega) (by omega) hX

end Go.Proofs.YtimoapjhepmehaaGreatDoor
