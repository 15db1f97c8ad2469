/-
  Part 8 of 17: the contracts that the proof of the last part uses; each stands under its own head.
-/
import Derived.Test.YtimoapjhepmehaaGreatDoorJ7
import Derived.Lib.SliceRun
import Derived.Deep.RegionHeld3
set_option linter.unusedSimpArgs false
set_option linter.unusedVariables false

/-
  package logtree: Next, own, Head, Append.
-/
namespace Go.Proofs.YtimoapjhepmehaaGreatDoor
open Go.RowKit
attribute [local go_sem ↓] Go.wp_at_zero Go.wp_at_succ

def recEnc : ByteArray := encS [1, 1, 0, 5, 2, 10, 20, 30]
theorem recEnc_size : recEnc.size = 8 := by unfold recEnc; rw [encS_size]; rfl
theorem encRecord' (w : World) (b c : Nat) (hB : Blk w b 72 #[.int .i64 0, .int .i64 5, .bool false, .int .i64 0, .int .i64 0, .int .i64 0, .bool true, .int .i64 10, .int .i64 20, .int .i64 30]) : Calls Tryz.prog 126 #[.agg #[.int .i64 1, .slice (some ⟨b, 0, none⟩) 1 c]] w fun e w' => e = .returned (.tuple #[.string recEnc, .int .i64 0]) ∧ Below w.heap.size w w' := encRecord w b c hB

set_option maxRecDepth 100000 in
set_option maxHeartbeats 1000000 in
theorem logNext (z s t : ByteArray) (hz : z.size = 32) (hs : s.size = 32) (ht : t.size = 32) (b c : Nat) (w : World) (hB : Blk w b 72 #[.int .i64 0, .int .i64 5, .bool false, .int .i64 0, .int .i64 0, .int .i64 0, .bool true, .int .i64 10, .int .i64 20, .int .i64 30]) (hR : RoundOK w) :
    Calls Tryz.prog 71 #[.agg #[.int .i64 0, .string z, .string s], .agg #[.int .i64 1, .slice (some ⟨b, 0, none⟩) 1 c], .string t] w
      fun e w' => e = .returned (.tuple #[.agg #[.int .i64 1, .string (chainF z recEnc), .string t], .int .i64 0]) ∧ Below w.heap.size w w' := by
  have HZs := Lib.hid hz
  have HSs := Lib.hid hs
  have HTs := Lib.hid ht
  have HR := Lib.hid hR
  have HCh := Lib.hid (show ∀ W : World, RoundOK W → Calls Tryz.prog 127 #[.string z, .string recEnc] W fun e w' => e = .returned (.string (chainF z recEnc)) ∧ Below W.heap.size W w' from fun W h => chain_any z recEnc W h (by omega) (by rw [recEnc_size]; omega))
  have HEr := Lib.hid (fun (W : World) (h : Blk W b 72 #[.int .i64 0, .int .i64 5, .bool false, .int .i64 0, .int .i64 0, .int .i64 0, .bool true, .int .i64 10, .int .i64 20, .int .i64 30]) => encRecord' W b c h)
  generalize chainF z recEnc = cz at *
  generalize recEnc = re at *
  obtain ⟨W0, hW0⟩ : ∃ W0, W0 = ((w.alloc (.cells #[.int .i64 0, .string z, .string s] 52)).alloc (.cells #[.int .i64 1, .slice (some ⟨b, 0, none⟩) 1 c] 75)).alloc (.cells #[.int .i64 0, .string ⟨#[]⟩, .string ⟨#[]⟩] 52) := ⟨_, rfl⟩
  have HE0 := Lib.hid (show Below w.heap.size w W0 by rw [hW0]; exact ext_alloc (ext_alloc (ext_new _ _) _) _)
  have HH0 := Lib.hid (show Blk W0 w.heap.size 52 #[.int .i64 0, .string z, .string s] by rw [hW0]; exact ((Blk.new _ _ _).alloc _).alloc _)
  have HR0 := Lib.hid (show Blk W0 (w.heap.size + 1) 75 #[.int .i64 1, .slice (some ⟨b, 0, none⟩) 1 c] by rw [hW0]; exact (Blk.new' _ _ _ (by simp)).alloc _)
  have HO0 := Lib.hid (show Blk W0 (w.heap.size + 1 + 1) 52 #[.int .i64 0, .string ⟨#[]⟩, .string ⟨#[]⟩] by rw [hW0]; exact Blk.new' _ _ _ (by simp))
  have HB := Lib.hid (hB.ext HE0.out)
  have HW0 := Lib.hid hW0
  clear hz hs ht hB hR hW0
  go_enter Tryz.func71, Tryz.ntmps71
  go_wp2_with fail
  rw [← HW0.out]
  refine (HEr.out _ HB.out).mono ?_
  rintro e W1 ⟨rfl, hb1⟩
  have HH1 := Lib.hid (HH0.out.ext hb1)
  have HR1 := Lib.hid (HR0.out.ext hb1)
  have HO1 := Lib.hid (HO0.out.ext hb1)
  have HE1 := Lib.hid (ext_call HE0.out hb1)
  have c0 := HH1.out.cell 0; have c1 := HH1.out.cell 1; have c2 := HH1.out.cell 2
  clear hb1
  go_wp2_with fail
  refine (logValid 0 z s (by omega) HZs.out HSs.out _).mono ?_
  rintro e W2 ⟨rfl, hb2⟩
  have HH2 := Lib.hid (HH1.out.ext hb2)
  have HR2 := Lib.hid (HR1.out.ext hb2)
  have HO2 := Lib.hid (HO1.out.ext hb2)
  have HE2 := Lib.hid (ext_call HE1.out hb2)
  clear hb2 c0 c1 c2
  have c0 := HH2.out.cell 0; have c1 := HH2.out.cell 1; have c2 := HH2.out.cell 2
  have r0 := HR2.out.cell 0; have r1 := HR2.out.cell 1
  have o0 := HO2.out.cell 0; have o1 := HO2.out.cell 1; have o2 := HO2.out.cell 2
  have f0 := HO2.out.frozen 0
  have f1 := HO2.out.frozen 1
  have f2 := HO2.out.frozen 2
  go_wp2_with (go_at_call 68; refine (isDig t HTs.out _).mono ?_; rintro e w' ⟨rfl, rfl⟩)
  go_region_with (go_at_call 127; refine (HCh.out _ ?_).mono ?_; (exact (HR.out.below HE2.out.drew)); rintro e W3 ⟨rfl, hb3⟩; have HH3 := Lib.hid (HH2.out.ext (undrew hb3)); have HR3 := Lib.hid (HR2.out.ext (undrew hb3)); have HO3 := Lib.hid (HO2.out.ext (undrew hb3)); have HE3 := Lib.hid (ext_call HE2.out (undrew hb3)); clear hb3; have cc0 := HH3.out.cell 0; have cc1 := HH3.out.cell 1; have cc2 := HH3.out.cell 2; have rr0 := HR3.out.cell 0; have rr1 := HR3.out.cell 1; have oo0 := HO3.out.cell 0; have oo1 := HO3.out.cell 1; have oo2 := HO3.out.cell 2; have ff0 := HO3.out.frozen 0; have ff1 := HO3.out.frozen 1; have ff2 := HO3.out.frozen 2)
  all_goals
    go_wp2
    have hBf := ((HO3.out.set_ 0 (.int .i64 1)).set_ 1 (.string cz)).set_ 2 (.string t)
    have y0 := hBf.cell 0; have y1 := hBf.cell 1; have y2 := hBf.cell 2
    refine bodyPost_ret (v := .tuple #[.agg #[.int .i64 1, .string cz, .string t], .int .i64 0]) (by simp [results, Tryz.results71, go_sem, y0, y1, y2]) rfl ⟨rfl, ?_⟩
    exact ext_set (ext_set (ext_set HE3.out (by simp; omega) _) (by simp; omega) _) (by simp; omega) _

theorem chg_info : (Tryz.prog.info? 72).map (fun i => (i.zero, i.size, i.bytes)) = some (some (.agg #[.int .i64 0, .int .i64 0, .bool false, .int .i64 0, .int .i64 0, .int .i64 0, .bool false, .int .i64 0, .int .i64 0, .int .i64 0]), 10, 80) := by kernel_rfl

set_option maxRecDepth 100000 in
set_option maxHeartbeats 1000000 in
theorem cloneChg (b c : Nat) (w : World) (hB : Blk w b 72 #[.int .i64 0, .int .i64 5, .bool false, .int .i64 0, .int .i64 0, .int .i64 0, .bool true, .int .i64 10, .int .i64 20, .int .i64 30]) :
    Calls Tryz.prog 128 #[.slice (some ⟨b, 0, none⟩) 1 c] w fun e w' => ∃ g d, e = .returned (.slice (some ⟨g, 0, none⟩) 1 d) ∧ Below w.heap.size w w' := by
  obtain ⟨ii, hii, hzi0, hzi1, hzi2⟩ := info_parts chg_info
  have c0 := hB.cell 0; have c1 := hB.cell 1; have c2 := hB.cell 2; have c3 := hB.cell 3; have c4 := hB.cell 4; have c5 := hB.cell 5; have c6 := hB.cell 6; have c7 := hB.cell 7; have c8 := hB.cell 8; have c9 := hB.cell 9
  have bl := hB.lt
  clear hB
  have hsn := fun W : World => Lib.run_eql_slice_nil (P := Tryz.prog) W 73 72 (some ⟨b, 0, none⟩) 1 c 0 0 Tryz.underlying73
  go_enter Tryz.func128, Tryz.ntmps128
  go_wp2
  go_ret
  exact ⟨_, _, rfl, (ext_alloc (ext_new _ _) _).drew⟩

set_option maxRecDepth 100000 in
set_option maxHeartbeats 1000000 in
theorem logOwn (b c : Nat) (w : World) (hB : Blk w b 72 #[.int .i64 0, .int .i64 5, .bool false, .int .i64 0, .int .i64 0, .int .i64 0, .bool true, .int .i64 10, .int .i64 20, .int .i64 30]) :
    Calls Tryz.prog 72 #[.agg #[.int .i64 1, .slice (some ⟨b, 0, none⟩) 1 c]] w fun e w' => ∃ g d, e = .returned (.agg #[.int .i64 1, .slice (some ⟨g, 0, none⟩) 1 d]) ∧ Below w.heap.size w w' := by
  have HX0 := Lib.hid ((Blk.new w 75 #[.int .i64 1, .slice (some ⟨b, 0, none⟩) 1 c]).alloc (.cells #[.int .i64 0, .slice none 0 0] 75))
  have HO0 := Lib.hid (Blk.new' (w.alloc (.cells #[.int .i64 1, .slice (some ⟨b, 0, none⟩) 1 c] 75)) 75 #[.int .i64 0, .slice none 0 0] (b := w.heap.size + 1) (by simp))
  have HB := Lib.hid (hB.ext (ext_alloc (ext_new w (.cells #[.int .i64 1, .slice (some ⟨b, 0, none⟩) 1 c] 75)) (.cells #[.int .i64 0, .slice none 0 0] 75)))
  clear hB
  go_enter Tryz.func72, Tryz.ntmps72
  go_wp2_with fail
  refine (cloneChg b c _ HB.out).mono ?_
  rintro e W1 ⟨g, d, rfl, hb1⟩
  have HX1 := Lib.hid (HX0.out.ext hb1)
  have HO1 := Lib.hid (HO0.out.ext hb1)
  have HE1 := Lib.hid (ext_call (ext_alloc (ext_new w _) _) hb1)
  clear hb1
  have x0 := HX1.out.cell 0; have x1 := HX1.out.cell 1
  have o0 := HO1.out.cell 0; have o1 := HO1.out.cell 1
  have f0 := HX1.out.frozen 0
  have f1 := HX1.out.frozen 1
  have g0 := HO1.out.frozen 0
  have g1 := HO1.out.frozen 1
  go_wp2
  have hBf := ((HO1.out.far (p := ⟨w.heap.size, 1, none⟩) (by simp) (.slice (some ⟨g, 0, none⟩) 1 d)).set_ 0 (.int .i64 1)).set_ 1 (.slice (some ⟨g, 0, none⟩) 1 d)
  have y0 := hBf.cell 0; have y1 := hBf.cell 1
  refine bodyPost_ret (v := .agg #[.int .i64 1, .slice (some ⟨g, 0, none⟩) 1 d]) (by simp [results, Tryz.results72, go_sem, y0, y1]) rfl ⟨_, _, rfl, ?_⟩
  exact ext_set (ext_set (ext_set HE1.out (by simp) _) (by simp) _) (by simp) _

/-- a log of one record -/
def Log1 (w : World) (gl : Nat) (z s0 c1 s1 : ByteArray) : Prop := ∃ gh A k c cap zs, Blk w gl 112 #[.slice A k c, .slice (some ⟨gh, 0, none⟩) 2 cap] ∧ 2 ≤ cap ∧ Blk w gh 52 (#[.int .i64 0, .string z, .string s0, .int .i64 1, .string c1, .string s1] ++ zs)
theorem Log1.ext {w W : World} {gl : Nat} {z s0 c1 s1 : ByteArray} (h : Log1 w gl z s0 c1 s1) (k : Below w.heap.size w W) : Log1 W gl z s0 c1 s1 := by
  obtain ⟨gh, A, n, c, cap, zs, h1, h2, h3⟩ := h
  exact ⟨gh, A, n, c, cap, zs, h1.ext k, h2, h3.ext k⟩
theorem head_cells {w : World} {g : Nat} {z s0 c1 s1 : ByteArray} {zs : Array Value} (h : Blk w g 52 (#[.int .i64 0, .string z, .string s0, .int .i64 1, .string c1, .string s1] ++ zs)) :
    w.cell? ⟨g, 0, none⟩ = some (.int .i64 0) ∧ w.cell? ⟨g, 1, none⟩ = some (.string z) ∧ w.cell? ⟨g, 2, none⟩ = some (.string s0) ∧ w.cell? ⟨g, 3, none⟩ = some (.int .i64 1) ∧ w.cell? ⟨g, 4, none⟩ = some (.string c1) ∧ w.cell? ⟨g, 5, none⟩ = some (.string s1) :=
  ⟨(h.cell 0).trans (by simp [Array.getElem?_append]), (h.cell 1).trans (by simp [Array.getElem?_append]), (h.cell 2).trans (by simp [Array.getElem?_append]), (h.cell 3).trans (by simp [Array.getElem?_append]), (h.cell 4).trans (by simp [Array.getElem?_append]), (h.cell 5).trans (by simp [Array.getElem?_append])⟩

set_option maxRecDepth 100000 in
set_option maxHeartbeats 1000000 in
theorem logHead1 (gl : Nat) (z s0 c1 s1 : ByteArray) (w : World) (hL : Log1 w gl z s0 c1 s1) :
    Calls Tryz.prog 22 #[.pointer (some ⟨gl, 0, none⟩), .int .i64 1] w fun e w' => e = .returned (.tuple #[.agg #[.int .i64 1, .string c1, .string s1], .bool true]) ∧ Below w.heap.size w w' := by
  obtain ⟨gh, A, k, c, cap, zs, hB, hc, hH⟩ := hL
  obtain ⟨x0, x1, x2, x3, x4, x5⟩ := head_cells hH
  have y0 := hB.cell 0; have y1 := hB.cell 1
  have yl := hB.lt
  have xl := hH.lt
  clear hB hH
  go_enter Tryz.func22, Tryz.ntmps22
  go_wp2
  refine bodyPost_ret (v := .tuple #[.agg #[.int .i64 1, .string c1, .string s1], .bool true]) (by simp [results, Tryz.results22, go_sem]) rfl ⟨rfl, ext_new _ _⟩

set_option maxRecDepth 100000 in
set_option maxHeartbeats 1000000 in
theorem logHead0 (gl : Nat) (z s0 c1 s1 : ByteArray) (w : World) (hL : Log1 w gl z s0 c1 s1) :
    Calls Tryz.prog 22 #[.pointer (some ⟨gl, 0, none⟩), .int .i64 0] w fun e w' => e = .returned (.tuple #[.agg #[.int .i64 0, .string z, .string s0], .bool true]) ∧ Below w.heap.size w w' := by
  obtain ⟨gh, A, k, c, cap, zs, hB, hc, hH⟩ := hL
  obtain ⟨x0, x1, x2, x3, x4, x5⟩ := head_cells hH
  have y0 := hB.cell 0; have y1 := hB.cell 1
  have yl := hB.lt
  have xl := hH.lt
  clear hB hH
  go_enter Tryz.func22, Tryz.ntmps22
  go_wp2
  refine bodyPost_ret (v := .tuple #[.agg #[.int .i64 0, .string z, .string s0], .bool true]) (by simp [results, Tryz.results22, go_sem]) rfl ⟨rfl, ext_new _ _⟩

end Go.Proofs.YtimoapjhepmehaaGreatDoor

/-
  package logtree: Append.
-/
namespace Go.Proofs.YtimoapjhepmehaaGreatDoor
open Go.RowKit
attribute [local go_sem ↓] Go.wp_at_zero Go.wp_at_succ

theorem rec_info : (Tryz.prog.info? 75).map (fun i => (i.zero, i.size, i.bytes)) = some (some (.agg #[.int .i64 0, .slice none 0 0]), 2, 32) := by kernel_rfl
theorem head_info : (Tryz.prog.info? 52).map (fun i => (i.zero, i.size, i.bytes)) = some (some (.agg #[.int .i64 0, .string ⟨#[]⟩, .string ⟨#[]⟩]), 3, 40) := by kernel_rfl

theorem agKeep {X W : World} {gl gh : Nat} (h : Blk X gl 112 #[.slice none 0 0, .slice (some ⟨gh, 0, none⟩) 1 1]) (k : Below X.heap.size X W) : W.cell? ⟨gl, 0, none⟩ = some (.slice none 0 0) ∧ W.cell? ⟨gl, 1, none⟩ = some (.slice (some ⟨gh, 0, none⟩) 1 1) := ⟨(h.ext k).cell 0, (h.ext k).cell 1⟩

theorem blk_set2 {W : World} {g : Nat} {ty : TypeId} {a b u v : Value} (h : Blk W g ty #[a, b]) : Blk ((W.setCell ⟨g, 0, none⟩ u).setCell ⟨g, 1, none⟩ v) g ty #[u, v] := (h.set_ 0 u).set_ 1 v
theorem log1_of {W : World} {gl gh k c cap : Nat} {A : Option Addr} {z s cz t : ByteArray} {zs : Array Value} (h1 : Blk W gl 112 #[.slice A k c, .slice (some ⟨gh, 0, none⟩) 2 cap]) (hc : 2 ≤ cap)
    (h2 : Blk W gh 52 (#[.int .i64 0, .string z, .string s] ++ (#[.int .i64 1, .string cz, .string t] ++ zs))) : Log1 W gl z s cz t :=
  ⟨gh, A, k, c, cap, zs, h1, hc, by rw [← Array.append_assoc] at h2; exact h2⟩

/-- facts of the log's blocks, kept by whatever leaves W0's blocks -/
def ApS (W0 : World) (gl gh rb b c : Nat) (z s : ByteArray) (W : World) : Prop :=
  W.cell? ⟨gl, 1, none⟩ = some (.slice (some ⟨gh, 0, none⟩) 1 1) ∧ W.cell? ⟨gh, 0, none⟩ = some (.int .i64 0) ∧ W.cell? ⟨gh, 1, none⟩ = some (.string z) ∧ W.cell? ⟨gh, 2, none⟩ = some (.string s) ∧
  W.cell? ⟨rb, 0, none⟩ = some (.int .i64 1) ∧ W.cell? ⟨rb, 1, none⟩ = some (.slice (some ⟨b, 0, none⟩) 1 c) ∧ Below W0.heap.size W0 W
theorem apKeep {W0 W W' : World} {gl gh rb b c : Nat} {z s : ByteArray} (h : W.cell? ⟨gl, 1, none⟩ = some (.slice (some ⟨gh, 0, none⟩) 1 1) ∧ W.cell? ⟨gh, 0, none⟩ = some (.int .i64 0) ∧ W.cell? ⟨gh, 1, none⟩ = some (.string z) ∧ W.cell? ⟨gh, 2, none⟩ = some (.string s) ∧
  W.cell? ⟨rb, 0, none⟩ = some (.int .i64 1) ∧ W.cell? ⟨rb, 1, none⟩ = some (.slice (some ⟨b, 0, none⟩) 1 c) ∧ Below W0.heap.size W0 W) (hb : Below W.heap.size W W') : W'.cell? ⟨gl, 1, none⟩ = some (.slice (some ⟨gh, 0, none⟩) 1 1) ∧ W'.cell? ⟨gh, 0, none⟩ = some (.int .i64 0) ∧ W'.cell? ⟨gh, 1, none⟩ = some (.string z) ∧ W'.cell? ⟨gh, 2, none⟩ = some (.string s) ∧
  W'.cell? ⟨rb, 0, none⟩ = some (.int .i64 1) ∧ W'.cell? ⟨rb, 1, none⟩ = some (.slice (some ⟨b, 0, none⟩) 1 c) ∧ Below W0.heap.size W0 W' :=
  ⟨cell_ext h.1 hb, cell_ext h.2.1 hb, cell_ext h.2.2.1 hb, cell_ext h.2.2.2.1 hb, cell_ext h.2.2.2.2.1 hb, cell_ext h.2.2.2.2.2.1 hb, ext_call h.2.2.2.2.2.2 hb⟩
theorem apB {W0 W : World} {gl gh rb b c : Nat} {z s : ByteArray} (h : W.cell? ⟨gl, 1, none⟩ = some (.slice (some ⟨gh, 0, none⟩) 1 1) ∧ W.cell? ⟨gh, 0, none⟩ = some (.int .i64 0) ∧ W.cell? ⟨gh, 1, none⟩ = some (.string z) ∧ W.cell? ⟨gh, 2, none⟩ = some (.string s) ∧
  W.cell? ⟨rb, 0, none⟩ = some (.int .i64 1) ∧ W.cell? ⟨rb, 1, none⟩ = some (.slice (some ⟨b, 0, none⟩) 1 c) ∧ Below W0.heap.size W0 W) : Below W0.heap.size W0 W := h.2.2.2.2.2.2

theorem Ext2.alloc {a b : Nat} {w W : World} (h : Ext2 a b w W) (o : Obj) : Ext2 a b w (W.alloc o) := h.ext (ext_new W o)
theorem Ext2.drew1 {a b : Nat} {w W : World} (h : Ext2 a b w W) : Ext2 a b w W.drew := h.drewN 1
theorem Ext2.refl (a b : Nat) (w : World) : Ext2 a b w w := .of_ext (ext_refl w)
theorem aqKeep {X W : World} {gl rb hx b c : Nat} {cz t : ByteArray} (h : Blk X rb 75 #[.int .i64 1, .slice (some ⟨b, 0, none⟩) 1 c] ∧ Blk X hx 52 #[.int .i64 1, .string cz, .string t] ∧ rb ≠ gl ∧ hx ≠ gl) (k : Ext2 gl gl X W) :
    W.cell? ⟨rb, 0, none⟩ = some (.int .i64 1) ∧ W.cell? ⟨rb, 1, none⟩ = some (.slice (some ⟨b, 0, none⟩) 1 c) ∧ W.cell? ⟨hx, 0, none⟩ = some (.int .i64 1) ∧ W.cell? ⟨hx, 1, none⟩ = some (.string cz) ∧ W.cell? ⟨hx, 2, none⟩ = some (.string t) ∧ Ext2 gl gl X W :=
  ⟨(h.1.ext2 k h.2.2.1 h.2.2.1).cell 0, (h.1.ext2 k h.2.2.1 h.2.2.1).cell 1, (h.2.1.ext2 k h.2.2.2 h.2.2.2).cell 0, (h.2.1.ext2 k h.2.2.2 h.2.2.2).cell 1, (h.2.1.ext2 k h.2.2.2 h.2.2.2).cell 2, k⟩

set_option maxRecDepth 100000 in
set_option maxHeartbeats 4000000 in
theorem logAppend (gl b c : Nat) (z s t : ByteArray) (hz : z.size = 32) (hs : s.size = 32) (ht : t.size = 32) (w : World) (hL : Log0 w gl z s) (hB : Blk w b 72 #[.int .i64 0, .int .i64 5, .bool false, .int .i64 0, .int .i64 0, .int .i64 0, .bool true, .int .i64 10, .int .i64 20, .int .i64 30]) (hR : RoundOK w) :
    Calls Tryz.prog 40 #[.pointer (some ⟨gl, 0, none⟩), .agg #[.int .i64 1, .slice (some ⟨b, 0, none⟩) 1 c], .string t] w
      fun e w' => e = .returned (.int .i64 0) ∧ Log1 w' gl z s (chainF z recEnc) t ∧ Ext2 gl gl w w' := by
  obtain ⟨ir, hir, hzr0, hzr1, hzr2⟩ := info_parts rec_info
  obtain ⟨ih, hih, hzh0, hzh1, hzh2⟩ := info_parts head_info
  have HNx := Lib.hid (fun (W : World) (h : Blk W b 72 #[.int .i64 0, .int .i64 5, .bool false, .int .i64 0, .int .i64 0, .int .i64 0, .bool true, .int .i64 10, .int .i64 20, .int .i64 30]) (hR : RoundOK W) => logNext z s t hz hs ht b c W h hR)
  have HOw := Lib.hid (fun (W : World) (h : Blk W b 72 #[.int .i64 0, .int .i64 5, .bool false, .int .i64 0, .int .i64 0, .int .i64 0, .bool true, .int .i64 10, .int .i64 20, .int .i64 30]) => logOwn b c W h)
  generalize chainF z recEnc = cz at *
  have HR := Lib.hid (hR.below (ext_new w (.cells #[.int .i64 1, .slice (some ⟨b, 0, none⟩) 1 c] 75)))
  have HB := Lib.hid (hB.ext (ext_new w (.cells #[.int .i64 1, .slice (some ⟨b, 0, none⟩) 1 c] 75)))
  have HX := Lib.hid (Blk.new w 75 #[.int .i64 1, .slice (some ⟨b, 0, none⟩) 1 c])
  obtain ⟨gh, hg, hh⟩ := hL.ext (ext_new w (.cells #[.int .i64 1, .slice (some ⟨b, 0, none⟩) 1 c] 75))
  have hgl := hL.choose_spec.1.lt
  have HG := Lib.hid hg
  have HH := Lib.hid hh
  obtain ⟨W0, hW0⟩ : ∃ W0, W0 = w.alloc (.cells #[.int .i64 1, .slice (some ⟨b, 0, none⟩) 1 c] 75) := ⟨_, rfl⟩
  have HE0 := Lib.hid (show Below w.heap.size w W0 by rw [hW0]; exact ext_new _ _)
  rw [← hW0] at HR HB HX HG HH
  have HW0 := Lib.hid hW0
  clear hz hs ht hL hB hR hg hh hW0
  have g0 := HG.out.cell 0; have g1 := HG.out.cell 1
  have h0 := HH.out.cell 0; have h1 := HH.out.cell 1; have h2 := HH.out.cell 2
  have x0 := HX.out.cell 0; have x1 := HX.out.cell 1
  go_enter Tryz.func40, Tryz.ntmps40
  go_wp2_with fail
  rw [← HW0.out]
  have hwr0 : IntKind.i64.wrap 0 = 0 := by decide
  have HS0 := Lib.hid (show W0.cell? ⟨gl, 1, none⟩ = some (.slice (some ⟨gh, 0, none⟩) 1 1) ∧ W0.cell? ⟨gh, 0, none⟩ = some (.int .i64 0) ∧ W0.cell? ⟨gh, 1, none⟩ = some (.string z) ∧ W0.cell? ⟨gh, 2, none⟩ = some (.string s) ∧ W0.cell? ⟨w.heap.size, 0, none⟩ = some (.int .i64 1) ∧ W0.cell? ⟨w.heap.size, 1, none⟩ = some (.slice (some ⟨b, 0, none⟩) 1 c) ∧ Below W0.heap.size W0 W0 from ⟨g1, h0, h1, h2, x0, x1, ext_refl _⟩)
  go_region_held3 (fun w' => w'.cell? ⟨gl, 1, none⟩ = some (.slice (some ⟨gh, 0, none⟩) 1 1) ∧ w'.cell? ⟨gh, 0, none⟩ = some (.int .i64 0) ∧ w'.cell? ⟨gh, 1, none⟩ = some (.string z) ∧ w'.cell? ⟨gh, 2, none⟩ = some (.string s) ∧ w'.cell? ⟨w.heap.size, 0, none⟩ = some (.int .i64 1) ∧ w'.cell? ⟨w.heap.size, 1, none⟩ = some (.slice (some ⟨b, 0, none⟩) 1 c) ∧ Below W0.heap.size W0 w')
    (first | exact apKeep HS0.out (ext_refl W0).drew | assumption | exact apKeep HS0.out hbw | exact apKeep HS0.out (ext_alloc hbw _) | exact apKeep HS0.out (ext_alloc hbw _).drew | exact apKeep HS0.out (ext_new _ _).drew | exact apKeep HS0.out (ext_new _ _) | exact apKeep HS0.out (ext_set (ext_set (ext_set hbw (Nat.le_refl _) _) (Nat.le_refl _) _) (Nat.le_refl _) _))
    (first | (go_at_call 71; (with_reducible refine (HNx.out _ ?_ ?_).mono ?_); (exact HB.out.ext (apB (by assumption))); (exact HR.out.below (apB (by assumption))); rintro e W1 ⟨rfl, hb'⟩; have hbw := ext_call (apB (by assumption)) hb'; try (have hbx := (show Blk W1 W0.heap.size 52 #[.int .i64 0, .string ⟨#[]⟩, .string ⟨#[]⟩] from ((Blk.new W0 _ _).drew).ext hb'); have bx0 := hbx.cell 0; have bx1 := hbx.cell 1; have bx2 := hbx.cell 2; have bf0 := hbx.frozen 0; have bf1 := hbx.frozen 1; have bf2 := hbx.frozen 2; have HBX := Lib.hid hbx; clear hbx)))
  all_goals
    clear hb' hwr0 g0 g1 h0 h1 h2 x0 x1
    first
    | (generalize hX : World.setCell (World.setCell (World.setCell W1 ⟨W0.heap.size, 0, none⟩ (.int .i64 1)) ⟨W0.heap.size, 1, none⟩ (.string cz)) ⟨W0.heap.size, 2, none⟩ (.string t) = X
       have HBx := Lib.hid (show Blk X W0.heap.size 52 #[.int .i64 1, .string cz, .string t] by subst hX; exact ((HBX.out.set_ 0 _).set_ 1 _).set_ 2 _)
       have HEx := Lib.hid (show Below W0.heap.size W0 X by subst hX; exact ext_set (ext_set (ext_set hbw (Nat.le_refl _) _) (Nat.le_refl _) _) (Nat.le_refl _) _)
       have hne : W0.heap.size ≠ gl := by have := HG.out.lt; omega
       clear bx0 bx1 bx2 bf0 bf1 bf2 hX hbw HBX
       generalize W0.heap.size = hx at HBx hne ⊢)
    | (generalize hX : World.alloc W1 (.cells #[.int .i64 1, .string cz, .string t] 52) = X
       have HBx := Lib.hid (show Blk X W1.heap.size 52 #[.int .i64 1, .string cz, .string t] by subst hX; exact Blk.new _ _ _)
       have HEx := Lib.hid (show Below W0.heap.size W0 X by subst hX; exact ext_alloc hbw _)
       have hne : W1.heap.size ≠ gl := by have := HG.out.lt; have := hbw.size; omega
       clear hX hbw
       generalize W1.heap.size = hx at HBx hne ⊢)
    have HGx := Lib.hid (HG.out.ext HEx.out)
    have HHx := Lib.hid (HH.out.ext HEx.out)
    have HXx := Lib.hid (HX.out.ext HEx.out)
    have HCx := Lib.hid (HB.out.ext HEx.out)
    have hrb : w.heap.size ≠ gl := by omega
    have HSX := Lib.hid (And.intro HXx.out (And.intro HBx.out (And.intro hrb hne)))
    have g0 := HGx.out.cell 0; have g1 := HGx.out.cell 1
    have h0 := HHx.out.cell 0; have h1 := HHx.out.cell 1; have h2 := HHx.out.cell 2
    have gf0 := HGx.out.frozen 0
    have gf1 := HGx.out.frozen 1
    have gll := HGx.out.lt
    have ghl := HHx.out.lt
    have hnc : Builtin.nextslicecap 2 1 = 2 := by decide
    have hbt : Tryz.t52.bytes = 40 := by kernel_rfl
    go_wp2
    refine wp_region_L (fun w' => w'.cell? ⟨w.heap.size, 0, none⟩ = some (.int .i64 1) ∧ w'.cell? ⟨w.heap.size, 1, none⟩ = some (.slice (some ⟨b, 0, none⟩) 1 c) ∧ w'.cell? ⟨hx, 0, none⟩ = some (.int .i64 1) ∧ w'.cell? ⟨hx, 1, none⟩ = some (.string cz) ∧ w'.cell? ⟨hx, 2, none⟩ = some (.string t) ∧ Ext2 gl gl X w')
      (fun w' => w'.cell? ⟨gl, 0, none⟩ = some (.slice none 0 0) ∧ w'.cell? ⟨gl, 1, none⟩ = some (.slice (some ⟨gh, 0, none⟩) 1 1)) [19, 22] (by kernel_rfl) ?_
    -- REGION
    refine takeF 0 (v := ?_) rfl (by kernel_rfl) (by kernel_rfl) (by kernel_rfl) (by kernel_rfl) (fun _ _ _ h => h) (Or.inl ⟨by rfl, ?_⟩) (aqKeep HSX.out (by repeat (first | with_reducible refine Ext2.alloc ?_ _ | with_reducible refine Ext2.drew1 ?_ | with_reducible refine Ext2.setA ?_ _ _ | with_reducible assumption | with_reducible exact Ext2.refl _ _ _))) (fun _ => (agKeep HGx.out (by repeat (first | with_reducible refine ext_alloc ?_ _ | with_reducible refine Below.drew ?_ | with_reducible assumption | with_reducible exact ext_refl _)))) ?_
    rotate_left 1
    · (rintro w' ⟨f0, f1, f2, f3, f4, _⟩; go_simp; with_reducible rfl)
    refine takeF 1 (v := ?_) rfl (by kernel_rfl) (by kernel_rfl) (by kernel_rfl) (by kernel_rfl) (fun _ _ _ h => h) (Or.inl ⟨by rfl, ?_⟩) (aqKeep HSX.out (by repeat (first | with_reducible refine Ext2.alloc ?_ _ | with_reducible refine Ext2.drew1 ?_ | with_reducible refine Ext2.setA ?_ _ _ | with_reducible assumption | with_reducible exact Ext2.refl _ _ _))) (fun _ => (agKeep HGx.out (by repeat (first | with_reducible refine ext_alloc ?_ _ | with_reducible refine Below.drew ?_ | with_reducible assumption | with_reducible exact ext_refl _)))) ?_
    rotate_left 1
    · (rintro w' ⟨f0, f1, f2, f3, f4, _⟩; go_simp; with_reducible rfl)
    refine takeF 2 (v := ?_) rfl (by kernel_rfl) (by kernel_rfl) (by kernel_rfl) (by kernel_rfl) (fun _ _ _ h => h) (Or.inl ⟨by rfl, ?_⟩) (aqKeep HSX.out (by repeat (first | with_reducible refine Ext2.alloc ?_ _ | with_reducible refine Ext2.drew1 ?_ | with_reducible refine Ext2.setA ?_ _ _ | with_reducible assumption | with_reducible exact Ext2.refl _ _ _))) (fun _ => (agKeep HGx.out (by repeat (first | with_reducible refine ext_alloc ?_ _ | with_reducible refine Below.drew ?_ | with_reducible assumption | with_reducible exact ext_refl _)))) ?_
    rotate_left 1
    · (rintro w' ⟨f0, f1, f2, f3, f4, _⟩; go_simp; with_reducible rfl)
    refine takeF 3 (v := ?_) rfl (by kernel_rfl) (by kernel_rfl) (by kernel_rfl) (by kernel_rfl) (fun _ _ _ h => h) (Or.inl ⟨by rfl, ?_⟩) (aqKeep HSX.out (by repeat (first | with_reducible refine Ext2.alloc ?_ _ | with_reducible refine Ext2.drew1 ?_ | with_reducible refine Ext2.setA ?_ _ _ | with_reducible assumption | with_reducible exact Ext2.refl _ _ _))) (fun _ => (agKeep HGx.out (by repeat (first | with_reducible refine ext_alloc ?_ _ | with_reducible refine Below.drew ?_ | with_reducible assumption | with_reducible exact ext_refl _)))) ?_
    rotate_left 1
    · (rintro w' ⟨f0, f1, f2, f3, f4, _⟩; go_simp; with_reducible rfl)
    refine takeF 4 (v := ?_) rfl (by kernel_rfl) (by kernel_rfl) (by kernel_rfl) (by kernel_rfl) (fun _ _ _ h => h) (Or.inl ⟨by rfl, ?_⟩) (aqKeep HSX.out (by repeat (first | with_reducible refine Ext2.alloc ?_ _ | with_reducible refine Ext2.drew1 ?_ | with_reducible refine Ext2.setA ?_ _ _ | with_reducible assumption | with_reducible exact Ext2.refl _ _ _))) (fun _ => (agKeep HGx.out (by repeat (first | with_reducible refine ext_alloc ?_ _ | with_reducible refine Below.drew ?_ | with_reducible assumption | with_reducible exact ext_refl _)))) ?_
    rotate_left 1
    · (rintro w' ⟨f0, f1, f2, f3, f4, _⟩; go_simp; with_reducible rfl)
    refine takeG 5 (v := ?_) rfl (by kernel_rfl) (by kernel_rfl) (by kernel_rfl) (by kernel_rfl) (by kernel_rfl) (by kernel_rfl) (fun _ _ _ h => h) (Or.inl ⟨by rfl, ?_⟩) (aqKeep HSX.out (by repeat (first | with_reducible refine Ext2.alloc ?_ _ | with_reducible refine Ext2.drew1 ?_ | with_reducible refine Ext2.setA ?_ _ _ | with_reducible assumption | with_reducible exact Ext2.refl _ _ _))) (agKeep HGx.out (by repeat (first | with_reducible refine ext_alloc ?_ _ | with_reducible refine Below.drew ?_ | with_reducible assumption | with_reducible exact ext_refl _))) ?_
    rotate_left 1
    · (rintro w' ⟨f0, f1⟩; go_simp; with_reducible rfl)
    refine takeF 6 (v := ?_) rfl (by kernel_rfl) (by kernel_rfl) (by kernel_rfl) (by kernel_rfl) (fun _ _ _ h => h) (Or.inl ⟨by rfl, ?_⟩) (aqKeep HSX.out (by repeat (first | with_reducible refine Ext2.alloc ?_ _ | with_reducible refine Ext2.drew1 ?_ | with_reducible refine Ext2.setA ?_ _ _ | with_reducible assumption | with_reducible exact Ext2.refl _ _ _))) (fun _ => (agKeep HGx.out (by repeat (first | with_reducible refine ext_alloc ?_ _ | with_reducible refine Below.drew ?_ | with_reducible assumption | with_reducible exact ext_refl _)))) ?_
    rotate_left 1
    · (rintro w' ⟨f0, f1, f2, f3, f4, _⟩; go_simp; with_reducible rfl)
    refine takeF 10 (v := ?_) rfl (by kernel_rfl) (by kernel_rfl) (by kernel_rfl) (by kernel_rfl) (fun _ _ _ h => h) (Or.inl ⟨by rfl, ?_⟩) (aqKeep HSX.out (by repeat (first | with_reducible refine Ext2.alloc ?_ _ | with_reducible refine Ext2.drew1 ?_ | with_reducible refine Ext2.setA ?_ _ _ | with_reducible assumption | with_reducible exact Ext2.refl _ _ _))) (fun _ => (agKeep HGx.out (by repeat (first | with_reducible refine ext_alloc ?_ _ | with_reducible refine Below.drew ?_ | with_reducible assumption | with_reducible exact ext_refl _)))) ?_
    rotate_left 1
    · (rintro w' ⟨f0, f1, f2, f3, f4, _⟩; go_simp; with_reducible rfl)
    refine takeF 11 (v := ?_) rfl (by kernel_rfl) (by kernel_rfl) (by kernel_rfl) (by kernel_rfl) (fun _ _ _ h => h) (Or.inl ⟨by rfl, ?_⟩) (aqKeep HSX.out (by repeat (first | with_reducible refine Ext2.alloc ?_ _ | with_reducible refine Ext2.drew1 ?_ | with_reducible refine Ext2.setA ?_ _ _ | with_reducible assumption | with_reducible exact Ext2.refl _ _ _))) (fun _ => (agKeep HGx.out (by repeat (first | with_reducible refine ext_alloc ?_ _ | with_reducible refine Below.drew ?_ | with_reducible assumption | with_reducible exact ext_refl _)))) ?_
    rotate_left 1
    · (rintro w' ⟨f0, f1, f2, f3, f4, _⟩; go_simp; with_reducible rfl)
    refine takeF 12 (v := ?_) rfl (by kernel_rfl) (by kernel_rfl) (by kernel_rfl) (by kernel_rfl) (fun _ _ _ h => h) (Or.inl ⟨by rfl, ?_⟩) (aqKeep HSX.out (by repeat (first | with_reducible refine Ext2.alloc ?_ _ | with_reducible refine Ext2.drew1 ?_ | with_reducible refine Ext2.setA ?_ _ _ | with_reducible assumption | with_reducible exact Ext2.refl _ _ _))) (fun _ => (agKeep HGx.out (by repeat (first | with_reducible refine ext_alloc ?_ _ | with_reducible refine Below.drew ?_ | with_reducible assumption | with_reducible exact ext_refl _)))) ?_
    rotate_left 1
    · (rintro w' ⟨f0, f1, f2, f3, f4, _⟩; go_simp; with_reducible rfl)
    refine takeG 13 (v := ?_) rfl (by kernel_rfl) (by kernel_rfl) (by kernel_rfl) (by kernel_rfl) (by kernel_rfl) (by kernel_rfl) (fun _ _ _ h => h) (Or.inl ⟨by rfl, ?_⟩) (aqKeep HSX.out (by repeat (first | with_reducible refine Ext2.alloc ?_ _ | with_reducible refine Ext2.drew1 ?_ | with_reducible refine Ext2.setA ?_ _ _ | with_reducible assumption | with_reducible exact Ext2.refl _ _ _))) (agKeep HGx.out (by repeat (first | with_reducible refine ext_alloc ?_ _ | with_reducible refine Below.drew ?_ | with_reducible assumption | with_reducible exact ext_refl _))) ?_
    rotate_left 1
    · (rintro w' ⟨f0, f1⟩; go_simp; with_reducible rfl)
    refine takeF 14 (v := ?_) rfl (by kernel_rfl) (by kernel_rfl) (by kernel_rfl) (by kernel_rfl) (fun _ _ _ h => h) (Or.inl ⟨by rfl, ?_⟩) (aqKeep HSX.out (by repeat (first | with_reducible refine Ext2.alloc ?_ _ | with_reducible refine Ext2.drew1 ?_ | with_reducible refine Ext2.setA ?_ _ _ | with_reducible assumption | with_reducible exact Ext2.refl _ _ _))) (fun _ => (agKeep HGx.out (by repeat (first | with_reducible refine ext_alloc ?_ _ | with_reducible refine Below.drew ?_ | with_reducible assumption | with_reducible exact ext_refl _)))) ?_
    rotate_left 1
    · (rintro w' ⟨f0, f1, f2, f3, f4, _⟩; go_simp; with_reducible rfl)
    refine allL [7, 15] (by kernel_rfl) (by simp) ?_
    simp only [List.forall_mem_cons, List.not_mem_nil, false_implies, implies_true, and_true]
    refine ⟨?_, ?_⟩
    · refine stepL rfl (by rfl) (fun K hK => ?_)
      go_simp
      go_at_call 72
      refine (HOw.out _ (HCx.out.ext (by repeat (first | with_reducible refine ext_alloc ?_ _ | with_reducible refine Below.drew ?_ | with_reducible assumption | with_reducible exact ext_refl _)))).mono ?_
      rintro e V ⟨go, d, rfl, hbo⟩
      have hbX : Below X.heap.size X V := ext_call (by repeat (first | with_reducible refine ext_alloc ?_ _ | with_reducible refine Below.drew ?_ | with_reducible assumption | with_reducible exact ext_refl _)) hbo
      have hv2 : Ext2 gl gl X V := .of_ext hbX
      have hv0 := (HGx.out.ext hbX).cell 0; have hv1 := (HGx.out.ext hbX).cell 1; have vh0 := (HHx.out.ext hbX).cell 0; have vh1 := (HHx.out.ext hbX).cell 1; have vh2 := (HHx.out.ext hbX).cell 2
      have vf0 := (HGx.out.ext hbX).frozen 0; have vf1 := (HGx.out.ext hbX).frozen 1; have vgl := (HGx.out.ext hbX).lt; have vhl := (HHx.out.ext hbX).lt
      have vgl1 : gl < V.heap.size + 1 := by omega
      have vgl2 : gl < V.heap.size + 1 + 1 := by omega
      have vgl3 : gl < V.heap.size + 1 + 1 + 1 := by omega
      have vhl1 : gh < V.heap.size + 1 := by omega
      have vhl2 : gh < V.heap.size + 1 + 1 := by omega
      try (have hnb := (show Blk V X.heap.size 52 #[.int .i64 1, .string cz, .string t] from ((Blk.new X _ _).drew).ext hbo); have nb0 := hnb.cell 0; have nb1 := hnb.cell 1; have nb2 := hnb.cell 2; have nbl := hnb.lt; have nbl1 : X.heap.size < V.heap.size + 1 := (by omega); have nbl2 : X.heap.size < V.heap.size + 1 + 1 := (by omega); clear hnb)
      clear hbo
      refine hK _ _ ⟨⟨aqKeep HSX.out hv2, fun _ => agKeep HGx.out hbX⟩, ?_⟩
      clear hK K
      refine allL [8, 15] (by kernel_rfl) (by simp) ?_
      simp only [List.forall_mem_cons, List.not_mem_nil, false_implies, implies_true, and_true]
      refine ⟨?_, ?_⟩
      · refine stepL rfl (by rfl) (fun K hK => ?_)
        go_simp
        refine hK _ _ ⟨⟨(aqKeep HSX.out (by repeat (first | with_reducible refine Ext2.alloc ?_ _ | with_reducible refine Ext2.drew1 ?_ | with_reducible refine Ext2.setA ?_ _ _ | with_reducible assumption | with_reducible exact Ext2.refl _ _ _))), fun _ => (agKeep HGx.out (by repeat (first | with_reducible refine ext_alloc ?_ _ | with_reducible refine Below.drew ?_ | with_reducible assumption | with_reducible exact ext_refl _)))⟩, ?_⟩
        clear hK K
        refine allL [9, 15] (by kernel_rfl) (by simp) ?_
        simp only [List.forall_mem_cons, List.not_mem_nil, false_implies, implies_true, and_true]
        refine ⟨?_, ?_⟩
        · refine stepL rfl (by rfl) (fun K hK => ?_)
          go_simp
          refine hK _ _ ⟨⟨(aqKeep HSX.out (by repeat (first | with_reducible refine Ext2.alloc ?_ _ | with_reducible refine Ext2.drew1 ?_ | with_reducible refine Ext2.setA ?_ _ _ | with_reducible assumption | with_reducible exact Ext2.refl _ _ _))), fun _ => (agKeep HGx.out (by repeat (first | with_reducible refine ext_alloc ?_ _ | with_reducible refine Below.drew ?_ | with_reducible assumption | with_reducible exact ext_refl _)))⟩, ?_⟩
          clear hK K
          refine allL [15] (by kernel_rfl) (by simp) ?_
          simp only [List.forall_mem_cons, List.not_mem_nil, false_implies, implies_true, and_true]
          refine stepL rfl (by rfl) (fun K hK => ?_)
          go_simp
          refine hK _ _ ⟨⟨(aqKeep HSX.out (by repeat (first | with_reducible refine Ext2.alloc ?_ _ | with_reducible refine Ext2.drew1 ?_ | with_reducible refine Ext2.setA ?_ _ _ | with_reducible assumption | with_reducible exact Ext2.refl _ _ _))), fun _ => (agKeep HGx.out (by repeat (first | with_reducible refine ext_alloc ?_ _ | with_reducible refine Below.drew ?_ | with_reducible assumption | with_reducible exact ext_refl _)))⟩, ?_⟩
          clear hK K
          refine allL [16] (by kernel_rfl) (by simp) ?_
          simp only [List.forall_mem_cons, List.not_mem_nil, false_implies, implies_true, and_true]
          refine stepL rfl (by rfl) (fun K hK => ?_)
          go_simp
          refine hK _ _ ⟨⟨(aqKeep HSX.out (by repeat (first | with_reducible refine Ext2.alloc ?_ _ | with_reducible refine Ext2.drew1 ?_ | with_reducible refine Ext2.setA ?_ _ _ | with_reducible assumption | with_reducible exact Ext2.refl _ _ _))), fun _ => (agKeep HGx.out (by repeat (first | with_reducible refine ext_alloc ?_ _ | with_reducible refine Below.drew ?_ | with_reducible assumption | with_reducible exact ext_refl _)))⟩, ?_⟩
          clear hK K
          refine takeF 17 (v := ?_) rfl (by kernel_rfl) (by kernel_rfl) (by kernel_rfl) (by kernel_rfl) (fun _ _ _ h => h) (Or.inl ⟨by rfl, ?_⟩) (aqKeep HSX.out (by repeat (first | with_reducible refine Ext2.alloc ?_ _ | with_reducible refine Ext2.drew1 ?_ | with_reducible refine Ext2.setA ?_ _ _ | with_reducible assumption | with_reducible exact Ext2.refl _ _ _))) (fun _ => (agKeep HGx.out (by repeat (first | with_reducible refine ext_alloc ?_ _ | with_reducible refine Below.drew ?_ | with_reducible assumption | with_reducible exact ext_refl _)))) ?_
          rotate_left 1
          · (rintro w' ⟨f0, f1, f2, f3, f4, _⟩; go_simp; with_reducible rfl)
          refine takeF 18 (v := ?_) rfl (by kernel_rfl) (by kernel_rfl) (by kernel_rfl) (by kernel_rfl) (fun _ _ _ h => h) (Or.inl ⟨by rfl, ?_⟩) (aqKeep HSX.out (by repeat (first | with_reducible refine Ext2.alloc ?_ _ | with_reducible refine Ext2.drew1 ?_ | with_reducible refine Ext2.setA ?_ _ _ | with_reducible assumption | with_reducible exact Ext2.refl _ _ _))) (fun _ => (agKeep HGx.out (by repeat (first | with_reducible refine ext_alloc ?_ _ | with_reducible refine Below.drew ?_ | with_reducible assumption | with_reducible exact ext_refl _)))) ?_
          rotate_left 1
          · (rintro w' ⟨f0, f1, f2, f3, f4, _⟩; go_simp; with_reducible rfl)
          refine allL [19] (by kernel_rfl) (by simp) ?_
          simp only [List.forall_mem_cons, List.not_mem_nil, false_implies, implies_true, and_true]
          refine stepL rfl (by rfl) (fun K hK => ?_)
          go_simp
          refine hK _ _ ⟨⟨(aqKeep HSX.out (by repeat (first | with_reducible refine Ext2.alloc ?_ _ | with_reducible refine Ext2.drew1 ?_ | with_reducible refine Ext2.setA ?_ _ _ | with_reducible assumption | with_reducible exact Ext2.refl _ _ _))), fun h => absurd h (by decide)⟩, ?_⟩
          clear hK K
          refine takeF 20 (v := ?_) rfl (by kernel_rfl) (by kernel_rfl) (by kernel_rfl) (by kernel_rfl) (fun _ _ _ h => h) (Or.inl ⟨by rfl, ?_⟩) (aqKeep HSX.out (by repeat (first | with_reducible refine Ext2.alloc ?_ _ | with_reducible refine Ext2.drew1 ?_ | with_reducible refine Ext2.setA ?_ _ _ | with_reducible assumption | with_reducible exact Ext2.refl _ _ _))) (fun h => absurd h (by decide)) ?_
          rotate_left 1
          · (rintro w' ⟨f0, f1, f2, f3, f4, _⟩; go_simp; with_reducible rfl)
          refine takeF 21 (v := ?_) rfl (by kernel_rfl) (by kernel_rfl) (by kernel_rfl) (by kernel_rfl) (fun _ _ _ h => h) (Or.inl ⟨by rfl, ?_⟩) (aqKeep HSX.out (by repeat (first | with_reducible refine Ext2.alloc ?_ _ | with_reducible refine Ext2.drew1 ?_ | with_reducible refine Ext2.setA ?_ _ _ | with_reducible assumption | with_reducible exact Ext2.refl _ _ _))) (fun h => absurd h (by decide)) ?_
          rotate_left 1
          · (rintro w' ⟨f0, f1, f2, f3, f4, _⟩; go_simp; with_reducible rfl)
          refine allL [22] (by kernel_rfl) (by simp) ?_
          simp only [List.forall_mem_cons, List.not_mem_nil, false_implies, implies_true, and_true]
          refine stepL rfl (by rfl) (fun K hK => ?_)
          go_simp
          refine hK _ _ ⟨⟨(aqKeep HSX.out (by repeat (first | with_reducible refine Ext2.alloc ?_ _ | with_reducible refine Ext2.drew1 ?_ | with_reducible refine Ext2.setA ?_ _ _ | with_reducible assumption | with_reducible exact Ext2.refl _ _ _))), fun h => absurd h (by decide)⟩, ?_⟩
          clear hK K
          refine doneL (by kernel_rfl) ?_ _
          go_wp2
          go_ret
          refine ⟨rfl, log1_of (by (repeat (first | with_reducible refine Blk.drew ?_ | with_reducible refine Blk.alloc ?_ _)); exact blk_set2 (HGx.out.ext hbX)) (by first | exact grownCap_ge V.drew 2 1 _ | exact grownCap_ge V 2 1 _) (by (repeat (with_reducible refine Blk.drew ?_)); exact Blk.new' _ _ _ (by simp)), ?_⟩
          refine (Ext2.of_ext (ext_call HE0.out HEx.out)).trans ?_
          repeat (first | with_reducible refine Ext2.alloc ?_ _ | with_reducible refine Ext2.drew1 ?_ | with_reducible refine Ext2.setA ?_ _ _ | with_reducible assumption)
        · refine stepL rfl (by rfl) (fun K hK => ?_)
          go_simp
          refine hK _ _ ⟨⟨(aqKeep HSX.out (by repeat (first | with_reducible refine Ext2.alloc ?_ _ | with_reducible refine Ext2.drew1 ?_ | with_reducible refine Ext2.setA ?_ _ _ | with_reducible assumption | with_reducible exact Ext2.refl _ _ _))), fun _ => (agKeep HGx.out (by repeat (first | with_reducible refine ext_alloc ?_ _ | with_reducible refine Below.drew ?_ | with_reducible assumption | with_reducible exact ext_refl _)))⟩, ?_⟩
          clear hK K
          refine allL [9] (by kernel_rfl) (by simp) ?_
          simp only [List.forall_mem_cons, List.not_mem_nil, false_implies, implies_true, and_true]
          refine stepL rfl (by rfl) (fun K hK => ?_)
          go_simp
          refine hK _ _ ⟨⟨(aqKeep HSX.out (by repeat (first | with_reducible refine Ext2.alloc ?_ _ | with_reducible refine Ext2.drew1 ?_ | with_reducible refine Ext2.setA ?_ _ _ | with_reducible assumption | with_reducible exact Ext2.refl _ _ _))), fun _ => (agKeep HGx.out (by repeat (first | with_reducible refine ext_alloc ?_ _ | with_reducible refine Below.drew ?_ | with_reducible assumption | with_reducible exact ext_refl _)))⟩, ?_⟩
          clear hK K
          refine allL [16] (by kernel_rfl) (by simp) ?_
          simp only [List.forall_mem_cons, List.not_mem_nil, false_implies, implies_true, and_true]
          refine stepL rfl (by rfl) (fun K hK => ?_)
          go_simp
          refine hK _ _ ⟨⟨(aqKeep HSX.out (by repeat (first | with_reducible refine Ext2.alloc ?_ _ | with_reducible refine Ext2.drew1 ?_ | with_reducible refine Ext2.setA ?_ _ _ | with_reducible assumption | with_reducible exact Ext2.refl _ _ _))), fun _ => (agKeep HGx.out (by repeat (first | with_reducible refine ext_alloc ?_ _ | with_reducible refine Below.drew ?_ | with_reducible assumption | with_reducible exact ext_refl _)))⟩, ?_⟩
          clear hK K
          refine takeF 17 (v := ?_) rfl (by kernel_rfl) (by kernel_rfl) (by kernel_rfl) (by kernel_rfl) (fun _ _ _ h => h) (Or.inl ⟨by rfl, ?_⟩) (aqKeep HSX.out (by repeat (first | with_reducible refine Ext2.alloc ?_ _ | with_reducible refine Ext2.drew1 ?_ | with_reducible refine Ext2.setA ?_ _ _ | with_reducible assumption | with_reducible exact Ext2.refl _ _ _))) (fun _ => (agKeep HGx.out (by repeat (first | with_reducible refine ext_alloc ?_ _ | with_reducible refine Below.drew ?_ | with_reducible assumption | with_reducible exact ext_refl _)))) ?_
          rotate_left 1
          · (rintro w' ⟨f0, f1, f2, f3, f4, _⟩; go_simp; with_reducible rfl)
          refine takeF 18 (v := ?_) rfl (by kernel_rfl) (by kernel_rfl) (by kernel_rfl) (by kernel_rfl) (fun _ _ _ h => h) (Or.inl ⟨by rfl, ?_⟩) (aqKeep HSX.out (by repeat (first | with_reducible refine Ext2.alloc ?_ _ | with_reducible refine Ext2.drew1 ?_ | with_reducible refine Ext2.setA ?_ _ _ | with_reducible assumption | with_reducible exact Ext2.refl _ _ _))) (fun _ => (agKeep HGx.out (by repeat (first | with_reducible refine ext_alloc ?_ _ | with_reducible refine Below.drew ?_ | with_reducible assumption | with_reducible exact ext_refl _)))) ?_
          rotate_left 1
          · (rintro w' ⟨f0, f1, f2, f3, f4, _⟩; go_simp; with_reducible rfl)
          refine allL [19] (by kernel_rfl) (by simp) ?_
          simp only [List.forall_mem_cons, List.not_mem_nil, false_implies, implies_true, and_true]
          refine stepL rfl (by rfl) (fun K hK => ?_)
          go_simp
          refine hK _ _ ⟨⟨(aqKeep HSX.out (by repeat (first | with_reducible refine Ext2.alloc ?_ _ | with_reducible refine Ext2.drew1 ?_ | with_reducible refine Ext2.setA ?_ _ _ | with_reducible assumption | with_reducible exact Ext2.refl _ _ _))), fun h => absurd h (by decide)⟩, ?_⟩
          clear hK K
          refine takeF 20 (v := ?_) rfl (by kernel_rfl) (by kernel_rfl) (by kernel_rfl) (by kernel_rfl) (fun _ _ _ h => h) (Or.inl ⟨by rfl, ?_⟩) (aqKeep HSX.out (by repeat (first | with_reducible refine Ext2.alloc ?_ _ | with_reducible refine Ext2.drew1 ?_ | with_reducible refine Ext2.setA ?_ _ _ | with_reducible assumption | with_reducible exact Ext2.refl _ _ _))) (fun h => absurd h (by decide)) ?_
          rotate_left 1
          · (rintro w' ⟨f0, f1, f2, f3, f4, _⟩; go_simp; with_reducible rfl)
          refine takeF 21 (v := ?_) rfl (by kernel_rfl) (by kernel_rfl) (by kernel_rfl) (by kernel_rfl) (fun _ _ _ h => h) (Or.inl ⟨by rfl, ?_⟩) (aqKeep HSX.out (by repeat (first | with_reducible refine Ext2.alloc ?_ _ | with_reducible refine Ext2.drew1 ?_ | with_reducible refine Ext2.setA ?_ _ _ | with_reducible assumption | with_reducible exact Ext2.refl _ _ _))) (fun h => absurd h (by decide)) ?_
          rotate_left 1
          · (rintro w' ⟨f0, f1, f2, f3, f4, _⟩; go_simp; with_reducible rfl)
          refine allL [22] (by kernel_rfl) (by simp) ?_
          simp only [List.forall_mem_cons, List.not_mem_nil, false_implies, implies_true, and_true]
          refine stepL rfl (by rfl) (fun K hK => ?_)
          go_simp
          refine hK _ _ ⟨⟨(aqKeep HSX.out (by repeat (first | with_reducible refine Ext2.alloc ?_ _ | with_reducible refine Ext2.drew1 ?_ | with_reducible refine Ext2.setA ?_ _ _ | with_reducible assumption | with_reducible exact Ext2.refl _ _ _))), fun h => absurd h (by decide)⟩, ?_⟩
          clear hK K
          refine doneL (by kernel_rfl) ?_ _
          go_wp2
          go_ret
          refine ⟨rfl, log1_of (by (repeat (first | with_reducible refine Blk.drew ?_ | with_reducible refine Blk.alloc ?_ _)); exact blk_set2 (HGx.out.ext hbX)) (by first | exact grownCap_ge V.drew 2 1 _ | exact grownCap_ge V 2 1 _) (by (repeat (with_reducible refine Blk.drew ?_)); exact Blk.new' _ _ _ (by simp)), ?_⟩
          refine (Ext2.of_ext (ext_call HE0.out HEx.out)).trans ?_
          repeat (first | with_reducible refine Ext2.alloc ?_ _ | with_reducible refine Ext2.drew1 ?_ | with_reducible refine Ext2.setA ?_ _ _ | with_reducible assumption)
      · refine stepL rfl (by rfl) (fun K hK => ?_)
        go_simp
        refine hK _ _ ⟨⟨(aqKeep HSX.out (by repeat (first | with_reducible refine Ext2.alloc ?_ _ | with_reducible refine Ext2.drew1 ?_ | with_reducible refine Ext2.setA ?_ _ _ | with_reducible assumption | with_reducible exact Ext2.refl _ _ _))), fun _ => (agKeep HGx.out (by repeat (first | with_reducible refine ext_alloc ?_ _ | with_reducible refine Below.drew ?_ | with_reducible assumption | with_reducible exact ext_refl _)))⟩, ?_⟩
        clear hK K
        refine allL [8] (by kernel_rfl) (by simp) ?_
        simp only [List.forall_mem_cons, List.not_mem_nil, false_implies, implies_true, and_true]
        refine stepL rfl (by rfl) (fun K hK => ?_)
        go_simp
        refine hK _ _ ⟨⟨(aqKeep HSX.out (by repeat (first | with_reducible refine Ext2.alloc ?_ _ | with_reducible refine Ext2.drew1 ?_ | with_reducible refine Ext2.setA ?_ _ _ | with_reducible assumption | with_reducible exact Ext2.refl _ _ _))), fun _ => (agKeep HGx.out (by repeat (first | with_reducible refine ext_alloc ?_ _ | with_reducible refine Below.drew ?_ | with_reducible assumption | with_reducible exact ext_refl _)))⟩, ?_⟩
        clear hK K
        refine allL [9] (by kernel_rfl) (by simp) ?_
        simp only [List.forall_mem_cons, List.not_mem_nil, false_implies, implies_true, and_true]
        refine stepL rfl (by rfl) (fun K hK => ?_)
        go_simp
        refine hK _ _ ⟨⟨(aqKeep HSX.out (by repeat (first | with_reducible refine Ext2.alloc ?_ _ | with_reducible refine Ext2.drew1 ?_ | with_reducible refine Ext2.setA ?_ _ _ | with_reducible assumption | with_reducible exact Ext2.refl _ _ _))), fun _ => (agKeep HGx.out (by repeat (first | with_reducible refine ext_alloc ?_ _ | with_reducible refine Below.drew ?_ | with_reducible assumption | with_reducible exact ext_refl _)))⟩, ?_⟩
        clear hK K
        refine allL [16] (by kernel_rfl) (by simp) ?_
        simp only [List.forall_mem_cons, List.not_mem_nil, false_implies, implies_true, and_true]
        refine stepL rfl (by rfl) (fun K hK => ?_)
        go_simp
        refine hK _ _ ⟨⟨(aqKeep HSX.out (by repeat (first | with_reducible refine Ext2.alloc ?_ _ | with_reducible refine Ext2.drew1 ?_ | with_reducible refine Ext2.setA ?_ _ _ | with_reducible assumption | with_reducible exact Ext2.refl _ _ _))), fun _ => (agKeep HGx.out (by repeat (first | with_reducible refine ext_alloc ?_ _ | with_reducible refine Below.drew ?_ | with_reducible assumption | with_reducible exact ext_refl _)))⟩, ?_⟩
        clear hK K
        refine takeF 17 (v := ?_) rfl (by kernel_rfl) (by kernel_rfl) (by kernel_rfl) (by kernel_rfl) (fun _ _ _ h => h) (Or.inl ⟨by rfl, ?_⟩) (aqKeep HSX.out (by repeat (first | with_reducible refine Ext2.alloc ?_ _ | with_reducible refine Ext2.drew1 ?_ | with_reducible refine Ext2.setA ?_ _ _ | with_reducible assumption | with_reducible exact Ext2.refl _ _ _))) (fun _ => (agKeep HGx.out (by repeat (first | with_reducible refine ext_alloc ?_ _ | with_reducible refine Below.drew ?_ | with_reducible assumption | with_reducible exact ext_refl _)))) ?_
        rotate_left 1
        · (rintro w' ⟨f0, f1, f2, f3, f4, _⟩; go_simp; with_reducible rfl)
        refine takeF 18 (v := ?_) rfl (by kernel_rfl) (by kernel_rfl) (by kernel_rfl) (by kernel_rfl) (fun _ _ _ h => h) (Or.inl ⟨by rfl, ?_⟩) (aqKeep HSX.out (by repeat (first | with_reducible refine Ext2.alloc ?_ _ | with_reducible refine Ext2.drew1 ?_ | with_reducible refine Ext2.setA ?_ _ _ | with_reducible assumption | with_reducible exact Ext2.refl _ _ _))) (fun _ => (agKeep HGx.out (by repeat (first | with_reducible refine ext_alloc ?_ _ | with_reducible refine Below.drew ?_ | with_reducible assumption | with_reducible exact ext_refl _)))) ?_
        rotate_left 1
        · (rintro w' ⟨f0, f1, f2, f3, f4, _⟩; go_simp; with_reducible rfl)
        refine allL [19] (by kernel_rfl) (by simp) ?_
        simp only [List.forall_mem_cons, List.not_mem_nil, false_implies, implies_true, and_true]
        refine stepL rfl (by rfl) (fun K hK => ?_)
        go_simp
        refine hK _ _ ⟨⟨(aqKeep HSX.out (by repeat (first | with_reducible refine Ext2.alloc ?_ _ | with_reducible refine Ext2.drew1 ?_ | with_reducible refine Ext2.setA ?_ _ _ | with_reducible assumption | with_reducible exact Ext2.refl _ _ _))), fun h => absurd h (by decide)⟩, ?_⟩
        clear hK K
        refine takeF 20 (v := ?_) rfl (by kernel_rfl) (by kernel_rfl) (by kernel_rfl) (by kernel_rfl) (fun _ _ _ h => h) (Or.inl ⟨by rfl, ?_⟩) (aqKeep HSX.out (by repeat (first | with_reducible refine Ext2.alloc ?_ _ | with_reducible refine Ext2.drew1 ?_ | with_reducible refine Ext2.setA ?_ _ _ | with_reducible assumption | with_reducible exact Ext2.refl _ _ _))) (fun h => absurd h (by decide)) ?_
        rotate_left 1
        · (rintro w' ⟨f0, f1, f2, f3, f4, _⟩; go_simp; with_reducible rfl)
        refine takeF 21 (v := ?_) rfl (by kernel_rfl) (by kernel_rfl) (by kernel_rfl) (by kernel_rfl) (fun _ _ _ h => h) (Or.inl ⟨by rfl, ?_⟩) (aqKeep HSX.out (by repeat (first | with_reducible refine Ext2.alloc ?_ _ | with_reducible refine Ext2.drew1 ?_ | with_reducible refine Ext2.setA ?_ _ _ | with_reducible assumption | with_reducible exact Ext2.refl _ _ _))) (fun h => absurd h (by decide)) ?_
        rotate_left 1
        · (rintro w' ⟨f0, f1, f2, f3, f4, _⟩; go_simp; with_reducible rfl)
        refine allL [22] (by kernel_rfl) (by simp) ?_
        simp only [List.forall_mem_cons, List.not_mem_nil, false_implies, implies_true, and_true]
        refine stepL rfl (by rfl) (fun K hK => ?_)
        go_simp
        refine hK _ _ ⟨⟨(aqKeep HSX.out (by repeat (first | with_reducible refine Ext2.alloc ?_ _ | with_reducible refine Ext2.drew1 ?_ | with_reducible refine Ext2.setA ?_ _ _ | with_reducible assumption | with_reducible exact Ext2.refl _ _ _))), fun h => absurd h (by decide)⟩, ?_⟩
        clear hK K
        refine doneL (by kernel_rfl) ?_ _
        go_wp2
        go_ret
        refine ⟨rfl, log1_of (by (repeat (first | with_reducible refine Blk.drew ?_ | with_reducible refine Blk.alloc ?_ _)); exact blk_set2 (HGx.out.ext hbX)) (by first | exact grownCap_ge V.drew 2 1 _ | exact grownCap_ge V 2 1 _) (by (repeat (with_reducible refine Blk.drew ?_)); exact Blk.new' _ _ _ (by simp)), ?_⟩
        refine (Ext2.of_ext (ext_call HE0.out HEx.out)).trans ?_
        repeat (first | with_reducible refine Ext2.alloc ?_ _ | with_reducible refine Ext2.drew1 ?_ | with_reducible refine Ext2.setA ?_ _ _ | with_reducible assumption)
    · refine stepL rfl (by rfl) (fun K hK => ?_)
      go_simp
      refine hK _ _ ⟨⟨(aqKeep HSX.out (by repeat (first | with_reducible refine Ext2.alloc ?_ _ | with_reducible refine Ext2.drew1 ?_ | with_reducible refine Ext2.setA ?_ _ _ | with_reducible assumption | with_reducible exact Ext2.refl _ _ _))), fun _ => (agKeep HGx.out (by repeat (first | with_reducible refine ext_alloc ?_ _ | with_reducible refine Below.drew ?_ | with_reducible assumption | with_reducible exact ext_refl _)))⟩, ?_⟩
      clear hK K
      refine allL [7] (by kernel_rfl) (by simp) ?_
      simp only [List.forall_mem_cons, List.not_mem_nil, false_implies, implies_true, and_true]
      refine stepL rfl (by rfl) (fun K hK => ?_)
      go_simp
      go_at_call 72
      refine (HOw.out _ (HCx.out.ext (by repeat (first | with_reducible refine ext_alloc ?_ _ | with_reducible refine Below.drew ?_ | with_reducible assumption | with_reducible exact ext_refl _)))).mono ?_
      rintro e V ⟨go, d, rfl, hbo⟩
      have hbX : Below X.heap.size X V := ext_call (by repeat (first | with_reducible refine ext_alloc ?_ _ | with_reducible refine Below.drew ?_ | with_reducible assumption | with_reducible exact ext_refl _)) hbo
      have hv2 : Ext2 gl gl X V := .of_ext hbX
      have hv0 := (HGx.out.ext hbX).cell 0; have hv1 := (HGx.out.ext hbX).cell 1; have vh0 := (HHx.out.ext hbX).cell 0; have vh1 := (HHx.out.ext hbX).cell 1; have vh2 := (HHx.out.ext hbX).cell 2
      have vf0 := (HGx.out.ext hbX).frozen 0; have vf1 := (HGx.out.ext hbX).frozen 1; have vgl := (HGx.out.ext hbX).lt; have vhl := (HHx.out.ext hbX).lt
      have vgl1 : gl < V.heap.size + 1 := by omega
      have vgl2 : gl < V.heap.size + 1 + 1 := by omega
      have vgl3 : gl < V.heap.size + 1 + 1 + 1 := by omega
      have vhl1 : gh < V.heap.size + 1 := by omega
      have vhl2 : gh < V.heap.size + 1 + 1 := by omega
      try (have hnb := (show Blk V X.heap.size 52 #[.int .i64 1, .string cz, .string t] from ((Blk.new X _ _).drew).ext hbo); have nb0 := hnb.cell 0; have nb1 := hnb.cell 1; have nb2 := hnb.cell 2; have nbl := hnb.lt; have nbl1 : X.heap.size < V.heap.size + 1 := (by omega); have nbl2 : X.heap.size < V.heap.size + 1 + 1 := (by omega); clear hnb)
      clear hbo
      refine hK _ _ ⟨⟨aqKeep HSX.out hv2, fun _ => agKeep HGx.out hbX⟩, ?_⟩
      clear hK K
      refine allL [8] (by kernel_rfl) (by simp) ?_
      simp only [List.forall_mem_cons, List.not_mem_nil, false_implies, implies_true, and_true]
      refine stepL rfl (by rfl) (fun K hK => ?_)
      go_simp
      refine hK _ _ ⟨⟨(aqKeep HSX.out (by repeat (first | with_reducible refine Ext2.alloc ?_ _ | with_reducible refine Ext2.drew1 ?_ | with_reducible refine Ext2.setA ?_ _ _ | with_reducible assumption | with_reducible exact Ext2.refl _ _ _))), fun _ => (agKeep HGx.out (by repeat (first | with_reducible refine ext_alloc ?_ _ | with_reducible refine Below.drew ?_ | with_reducible assumption | with_reducible exact ext_refl _)))⟩, ?_⟩
      clear hK K
      refine allL [9] (by kernel_rfl) (by simp) ?_
      simp only [List.forall_mem_cons, List.not_mem_nil, false_implies, implies_true, and_true]
      refine stepL rfl (by rfl) (fun K hK => ?_)
      go_simp
      refine hK _ _ ⟨⟨(aqKeep HSX.out (by repeat (first | with_reducible refine Ext2.alloc ?_ _ | with_reducible refine Ext2.drew1 ?_ | with_reducible refine Ext2.setA ?_ _ _ | with_reducible assumption | with_reducible exact Ext2.refl _ _ _))), fun _ => (agKeep HGx.out (by repeat (first | with_reducible refine ext_alloc ?_ _ | with_reducible refine Below.drew ?_ | with_reducible assumption | with_reducible exact ext_refl _)))⟩, ?_⟩
      clear hK K
      refine allL [16] (by kernel_rfl) (by simp) ?_
      simp only [List.forall_mem_cons, List.not_mem_nil, false_implies, implies_true, and_true]
      refine stepL rfl (by rfl) (fun K hK => ?_)
      go_simp
      refine hK _ _ ⟨⟨(aqKeep HSX.out (by repeat (first | with_reducible refine Ext2.alloc ?_ _ | with_reducible refine Ext2.drew1 ?_ | with_reducible refine Ext2.setA ?_ _ _ | with_reducible assumption | with_reducible exact Ext2.refl _ _ _))), fun _ => (agKeep HGx.out (by repeat (first | with_reducible refine ext_alloc ?_ _ | with_reducible refine Below.drew ?_ | with_reducible assumption | with_reducible exact ext_refl _)))⟩, ?_⟩
      clear hK K
      refine takeF 17 (v := ?_) rfl (by kernel_rfl) (by kernel_rfl) (by kernel_rfl) (by kernel_rfl) (fun _ _ _ h => h) (Or.inl ⟨by rfl, ?_⟩) (aqKeep HSX.out (by repeat (first | with_reducible refine Ext2.alloc ?_ _ | with_reducible refine Ext2.drew1 ?_ | with_reducible refine Ext2.setA ?_ _ _ | with_reducible assumption | with_reducible exact Ext2.refl _ _ _))) (fun _ => (agKeep HGx.out (by repeat (first | with_reducible refine ext_alloc ?_ _ | with_reducible refine Below.drew ?_ | with_reducible assumption | with_reducible exact ext_refl _)))) ?_
      rotate_left 1
      · (rintro w' ⟨f0, f1, f2, f3, f4, _⟩; go_simp; with_reducible rfl)
      refine takeF 18 (v := ?_) rfl (by kernel_rfl) (by kernel_rfl) (by kernel_rfl) (by kernel_rfl) (fun _ _ _ h => h) (Or.inl ⟨by rfl, ?_⟩) (aqKeep HSX.out (by repeat (first | with_reducible refine Ext2.alloc ?_ _ | with_reducible refine Ext2.drew1 ?_ | with_reducible refine Ext2.setA ?_ _ _ | with_reducible assumption | with_reducible exact Ext2.refl _ _ _))) (fun _ => (agKeep HGx.out (by repeat (first | with_reducible refine ext_alloc ?_ _ | with_reducible refine Below.drew ?_ | with_reducible assumption | with_reducible exact ext_refl _)))) ?_
      rotate_left 1
      · (rintro w' ⟨f0, f1, f2, f3, f4, _⟩; go_simp; with_reducible rfl)
      refine allL [19] (by kernel_rfl) (by simp) ?_
      simp only [List.forall_mem_cons, List.not_mem_nil, false_implies, implies_true, and_true]
      refine stepL rfl (by rfl) (fun K hK => ?_)
      go_simp
      refine hK _ _ ⟨⟨(aqKeep HSX.out (by repeat (first | with_reducible refine Ext2.alloc ?_ _ | with_reducible refine Ext2.drew1 ?_ | with_reducible refine Ext2.setA ?_ _ _ | with_reducible assumption | with_reducible exact Ext2.refl _ _ _))), fun h => absurd h (by decide)⟩, ?_⟩
      clear hK K
      refine takeF 20 (v := ?_) rfl (by kernel_rfl) (by kernel_rfl) (by kernel_rfl) (by kernel_rfl) (fun _ _ _ h => h) (Or.inl ⟨by rfl, ?_⟩) (aqKeep HSX.out (by repeat (first | with_reducible refine Ext2.alloc ?_ _ | with_reducible refine Ext2.drew1 ?_ | with_reducible refine Ext2.setA ?_ _ _ | with_reducible assumption | with_reducible exact Ext2.refl _ _ _))) (fun h => absurd h (by decide)) ?_
      rotate_left 1
      · (rintro w' ⟨f0, f1, f2, f3, f4, _⟩; go_simp; with_reducible rfl)
      refine takeF 21 (v := ?_) rfl (by kernel_rfl) (by kernel_rfl) (by kernel_rfl) (by kernel_rfl) (fun _ _ _ h => h) (Or.inl ⟨by rfl, ?_⟩) (aqKeep HSX.out (by repeat (first | with_reducible refine Ext2.alloc ?_ _ | with_reducible refine Ext2.drew1 ?_ | with_reducible refine Ext2.setA ?_ _ _ | with_reducible assumption | with_reducible exact Ext2.refl _ _ _))) (fun h => absurd h (by decide)) ?_
      rotate_left 1
      · (rintro w' ⟨f0, f1, f2, f3, f4, _⟩; go_simp; with_reducible rfl)
      refine allL [22] (by kernel_rfl) (by simp) ?_
      simp only [List.forall_mem_cons, List.not_mem_nil, false_implies, implies_true, and_true]
      refine stepL rfl (by rfl) (fun K hK => ?_)
      go_simp
      refine hK _ _ ⟨⟨(aqKeep HSX.out (by repeat (first | with_reducible refine Ext2.alloc ?_ _ | with_reducible refine Ext2.drew1 ?_ | with_reducible refine Ext2.setA ?_ _ _ | with_reducible assumption | with_reducible exact Ext2.refl _ _ _))), fun h => absurd h (by decide)⟩, ?_⟩
      clear hK K
      refine doneL (by kernel_rfl) ?_ _
      go_wp2
      go_ret
      refine ⟨rfl, log1_of (by (repeat (first | with_reducible refine Blk.drew ?_ | with_reducible refine Blk.alloc ?_ _)); exact blk_set2 (HGx.out.ext hbX)) (by first | exact grownCap_ge V.drew 2 1 _ | exact grownCap_ge V 2 1 _) (by (repeat (with_reducible refine Blk.drew ?_)); exact Blk.new' _ _ _ (by simp)), ?_⟩
      refine (Ext2.of_ext (ext_call HE0.out HEx.out)).trans ?_
      repeat (first | with_reducible refine Ext2.alloc ?_ _ | with_reducible refine Ext2.drew1 ?_ | with_reducible refine Ext2.setA ?_ _ _ | with_reducible assumption)

end Go.Proofs.YtimoapjhepmehaaGreatDoor
