/-
  Part 14 of 17: the contracts that the proof of the last part uses; each stands under its own head.
-/
import Derived.Test.YtimoapjhepmehaaGreatDoorJ12
import Derived.Test.YtimoapjhepmehaaGreatDoorJ13
import Derived.Deep.Cut
import Derived.BigRegion
set_option linter.unusedSimpArgs false
set_option linter.unusedVariables false

/-
  package proof: Check.
-/
namespace Go.Proofs.YtimoapjhepmehaaGreatDoor
open Go.RowKit
attribute [local go_sem ↓] Go.wp_at_zero Go.wp_at_succ

set_option maxRecDepth 100000 in
set_option maxHeartbeats 1000000 in
theorem isFalse (bh : Nat) (va : Array Value) (p c1 : Value) (w : World) (hh : Blk w bh 52 #[p, c1, .string (stateF true)]) (hr : RP1 w va) (hR : RoundOK w) :
    Calls Tryz.prog 59 #[.agg va, .pointer (some ⟨bh, 0, none⟩)] w fun e w' => e = .returned (.bool false) ∧ Below w.heap.size w w' := by
  obtain ⟨g1, k1, g2, k2, A, n, m, rfl⟩ := hr.lit
  have HE := Lib.hid (ext_new w (.cells #[.int .i64 0, .int .i64 0, .int .i64 5, .int .i64 5, .int .i64 1, .int .i64 0, .slice (some ⟨g1, 0, none⟩) 1 k1, .slice (some ⟨g2, 0, none⟩) 1 k2, .slice A n m] 126))
  have HV := Lib.hid (stVerify g1 k1 g2 k2 A n m _ (hr.ext HE.out) (hR.below HE.out))
  generalize stateF true = s at *
  have h2 : w.cell? ⟨bh, 2, none⟩ = some (.string s) := hh.cell 2
  have hl := hh.lt
  clear hh hr hR
  go_enter Tryz.func59, Tryz.ntmps59
  go_wp2_with fail
  refine HV.out.mono ?_
  rintro e W1 ⟨rfl, hb1⟩
  have HE1 := Lib.hid (ext_call HE.out hb1)
  clear hb1
  go_wp2
  go_ret
  exact ⟨rfl, HE1.out⟩

set_option maxRecDepth 100000 in
set_option maxHeartbeats 1000000 in
theorem containsNo (g c bh : Nat) (va us : Array Value) (p c1 : Value) (w : World) (hg : Blk w g 126 (va ++ us)) (hh : Blk w bh 52 #[p, c1, .string (stateF true)]) (hr : RP1 w va) (hR : RoundOK w) :
    Calls Tryz.prog 61 #[.slice (some ⟨g, 0, none⟩) 1 c, .func (.func 59) #[] #[.pointer (some ⟨bh, 0, none⟩)]] w fun e w' => e = .returned (.bool false) ∧ Below w.heap.size w w' := by
  have HI := Lib.hid (show Calls Tryz.prog 106 #[.slice (some ⟨g, 0, none⟩) 1 c, .func (.func 59) #[] #[.pointer (some ⟨bh, 0, none⟩)]] w fun e w' => e = .returned (.int .i64 (-1)) ∧ Below w.heap.size w w' from by
    have HF := Lib.hid (isFalse bh va p c1 w hh hr hR)
    obtain ⟨g1, k1, g2, k2, A, n, m, rfl⟩ := hr.lit
    obtain ⟨q0, q1, q2, q3, q4, q5, q6, q7, q8⟩ := cells9 hg
    clear hg hh hr hR
    go_enter Tryz.func106, Tryz.ntmps106
    go_wp2
    refine wp_loop_rounds 2 ?_
    rw [rounds_succ]
    go_wp2_with fail
    refine HF.out.mono ?_
    rintro e W1 ⟨rfl, hb1⟩
    have HE1 := Lib.hid hb1
    clear hb1 q0 q1 q2 q3 q4 q5 q6 q7 q8
    go_wp2
    rw [rounds_succ]
    go_wp2
    go_ret
    exact ⟨rfl, HE1.out⟩)
  clear hg hh hr hR
  go_enter Tryz.func61, Tryz.ntmps61
  go_wp2_with fail
  refine HI.out.mono ?_
  rintro e W1 ⟨rfl, hb1⟩
  have HE1 := Lib.hid hb1
  clear hb1
  go_wp2
  go_ret
  exact ⟨rfl, HE1.out⟩

set_option maxRecDepth 100000 in
set_option maxHeartbeats 2000000 in
theorem checkYes (c1 s1 : ByteArray) (hc1 : c1.size = 32) (hs1 : s1 = stateF true) (gr kr g c : Nat) (B : Option Addr) (d : Nat) (w : World) (h : Ans1 w gr kr g c B d) (hR : RoundOK w) :
    Calls Tryz.prog 31 #[.agg #[.int .i64 1, .string c1, .string s1], .agg #[.int .i64 1, .string c1, .string s1], .agg #[.int .i64 1, .int .i64 0, .int .i64 0, .int .i64 5, .int .i64 5, .int .i64 0, .int .i64 0, .slice (some ⟨gr, 0, none⟩) 1 kr, .int .i64 0, .bool false, .int .i64 1, .int .i64 1, .int .i64 1, .slice (some ⟨g, 0, none⟩) 1 c, .slice B 0 d]] w
      fun e w' => e = .returned (.bool true) ∧ Below w.heap.size w w' := by
  have hmf : ∀ (fn : Fn) (first cap : Array Value) (w : World), (Instr.makeFunc fn first cap).run Tryz.prog w = .ok (.func fn first cap) w := fun _ _ _ _ => rfl
  have hss : s1.size = 32 := by rw [hs1]; exact stateF_size true
  obtain ⟨zs, vr, us, hz, hc, hg, hr, hk⟩ := h
  obtain ⟨g1, k1, g2, k2, A, n, m, rfl⟩ := hr.lit
  obtain ⟨X, hX⟩ : ∃ X, X = ((w.alloc (.cells #[.int .i64 1, .string c1, .string s1] 52)).alloc (.cells #[.int .i64 1, .string c1, .string s1] 52)).alloc (.cells #[.int .i64 1, .int .i64 0, .int .i64 0, .int .i64 5, .int .i64 5, .int .i64 0, .int .i64 0, .slice (some ⟨gr, 0, none⟩) 1 kr, .int .i64 0, .bool false, .int .i64 1, .int .i64 1, .int .i64 1, .slice (some ⟨g, 0, none⟩) 1 c, .slice B 0 d] 39) := ⟨_, rfl⟩
  have hE : Below w.heap.size w X := by rw [hX]; exact ext_alloc (ext_alloc (ext_new _ _) _) _
  have HH := Lib.hid (show Blk X w.heap.size 52 #[.int .i64 1, .string c1, .string s1] by rw [hX]; exact ((Blk.new _ _ _).alloc _).alloc _)
  have HBa := Lib.hid (show Blk X (w.heap.size + 1 + 1) 39 #[.int .i64 1, .int .i64 0, .int .i64 0, .int .i64 5, .int .i64 5, .int .i64 0, .int .i64 0, .slice (some ⟨gr, 0, none⟩) 1 kr, .int .i64 0, .bool false, .int .i64 1, .int .i64 1, .int .i64 1, .slice (some ⟨g, 0, none⟩) 1 c, .slice B 0 d] by rw [hX]; exact Blk.new' _ _ _ (by simp))
  have HFo := Lib.hid (logFollows B d 1 (by omega) c1 s1 hc1 hss X)
  have HCo := Lib.hid (show ∀ W : World, Below X.heap.size X W → Calls Tryz.prog 61 #[.slice (some ⟨g, 0, none⟩) 1 c, .func (.func 59) #[] #[.pointer (some ⟨w.heap.size, 0, none⟩)]] W fun e w' => e = .returned (.bool false) ∧ Below W.heap.size W w' from
    fun W h => containsNo g c w.heap.size _ us (.int .i64 1) (.string c1) W ((hg.ext hE).ext h) (by have h1 := HH.out.ext h; rw [hs1] at h1; exact h1) ((hr.ext hE).ext h) ((hR.below hE).below h))
  have HBu := Lib.hid (show ∀ W : World, Below X.heap.size X W → Calls Tryz.prog 27 #[.agg #[.int .i64 1, .int .i64 0, .int .i64 0, .int .i64 5, .int .i64 5, .int .i64 0, .int .i64 0, .int .i64 0, .int .i64 1, .slice (some ⟨g, 0, none⟩) 1 c], .slice B 0 d] W fun e w' => ∃ va, e = .returned (.tuple #[.agg va, .bool true]) ∧ AnsAt true w' va ∧ Below W.heap.size W w' from
    fun W h => build1 g c g1 k1 g2 k2 A n m us B d W hc ((hg.ext hE).ext h) (RP1.ext (RP1.ext hr hE) h))
  have HAn := Lib.hid (show ∀ W : World, Below X.heap.size X W → Ans1 W gr kr g c B d from fun W h => ⟨zs, _, us, (hz.ext hE).ext h, hc, (hg.ext hE).ext h, (hr.ext hE).ext h, hk⟩)
  have HE := Lib.hid hE
  have HX := Lib.hid hX
  clear hz hg hr hE hX hss hs1 hc1 hR
  go_enter Tryz.func31, Tryz.ntmps31
  go_wp2_with fail
  rw [← HX.out]
  refine HFo.out.mono ?_
  rintro e W1 ⟨rfl, hb1⟩
  have HE1 := Lib.hid hb1
  have a13 : W1.cell? ⟨w.heap.size + 1 + 1, 13, none⟩ = some (.slice (some ⟨g, 0, none⟩) 1 c) := (HBa.out.ext hb1).cell 13
  clear hb1
  go_wp2_with fail
  refine (HCo.out _ HE1.out).mono ?_
  rintro e W2 ⟨rfl, hb2⟩
  have HE2 := Lib.hid (ext_call HE1.out hb2)
  obtain ⟨a0, a1, a2, a3, a4, a5, a6, _, _, _, _, _, a12, a13, a14⟩ := cells15 (HBa.out.ext HE2.out)
  clear hb2
  go_wp2_with fail
  refine (HBu.out _ HE2.out).mono ?_
  rintro e W3 ⟨va, rfl, han, hb3⟩
  have HE3 := Lib.hid (ext_call HE2.out hb3)
  obtain ⟨gr', kr', g', c', B', d', rfl, hn3⟩ := han.lit
  have HN3 := Lib.hid hn3
  obtain ⟨a0, a1, a2, a3, a4, a5, a6, a7, a8, a9, a10, a11, a12, a13, a14⟩ := cells15 (HBa.out.ext HE3.out)
  have al := (HBa.out.ext HE3.out).lt
  clear hb3 han hn3
  go_wp2_with fail
  refine (proofSame gr kr g c B d gr' kr' g' c' B' d' _ (HAn.out _ (ext_alloc HE3.out _)) (HN3.out.ext (ext_new _ _))).mono ?_
  rintro e W4 ⟨rfl, hb4⟩
  have HE4 := Lib.hid (ext_call (ext_alloc HE3.out _) hb4)
  clear hb4 a0 a1 a2 a3 a4 a5 a6 a7 a8 a9 a10 a11 a12 a13 a14 al
  go_wp2
  go_ret
  exact ⟨rfl, ext_call HE.out HE4.out⟩

set_option maxRecDepth 100000 in
set_option maxHeartbeats 1000000 in
theorem checkNo (one : Bool) (va : Array Value) (w : World) (h : AnsAt one w va) :
    Calls Tryz.prog 31 #[.agg #[.int .i64 (-1), .string ⟨#[]⟩, .string ⟨#[]⟩], .agg #[.int .i64 (-1), .string ⟨#[]⟩, .string ⟨#[]⟩], .agg va] w fun e w' => e = .returned (.bool false) ∧ Below w.heap.size w w' := by
  cases one
  · obtain ⟨v, g, c, vr, us, B, d, rfl, hv, _, _, _⟩ := h
    obtain rfl := rows_none hv
    clear hv
    go_enter Tryz.func31, Tryz.ntmps31
    go_wp2
    go_ret
    exact ⟨rfl, ext_alloc (ext_alloc (ext_new _ _) _) _⟩
  · obtain ⟨gr, kr, g, c, B, d, rfl, _⟩ := h.lit
    clear h
    go_enter Tryz.func31, Tryz.ntmps31
    go_wp2
    go_ret
    exact ⟨rfl, ext_alloc (ext_alloc (ext_new _ _) _) _⟩

end Go.Proofs.YtimoapjhepmehaaGreatDoor

/-
  package auditor: New, Size, Learn.
-/
namespace Go.Proofs.YtimoapjhepmehaaGreatDoor
open Go.RowKit
attribute [local go_sem ↓] Go.wp_at_zero Go.wp_at_succ

set_option maxHeartbeats 400000 in
theorem audNew (w : World) : Calls Tryz.prog 15 #[] w fun e w' => e = .returned (.pointer (some ⟨w.heap.size + 1, 0, none⟩)) ∧ (w.alloc (.map #[] 0)).alloc (.cells #[.int .i64 (-1), .string ⟨#[]⟩, .map (some w.heap.size)] 92) = w' := by
  have hmm := @run_makeMap Tryz.prog
  go_enter Tryz.func15, Tryz.ntmps15
  go_wp2
  go_ret
  exact ⟨rfl, rfl⟩

/-- an auditor in memory -/
def AudAt (w : World) (ga gm : Nat) (n : Int) (r : ByteArray) (es : Array MapEntry) (c : Nat) : Prop := Blk w ga 92 #[.int .i64 n, .string r, .map (some gm)] ∧ MapAt w gm es c
theorem AudAt.ext {w W : World} {ga gm c : Nat} {n : Int} {r : ByteArray} {es : Array MapEntry} (h : AudAt w ga gm n r es c) (k : Below w.heap.size w W) : AudAt W ga gm n r es c := ⟨h.1.ext k, h.2.ext k⟩

set_option maxHeartbeats 400000 in
theorem audSize (ga gm c : Nat) (n : Int) (r : ByteArray) (es : Array MapEntry) (w : World) (h : AudAt w ga gm n r es c) : Calls Tryz.prog 12 #[.pointer (some ⟨ga, 0, none⟩)] w fun e w' => e = .returned (.int .i64 n) ∧ w = w' := by
  have h0 : w.cell? ⟨ga, 0, none⟩ = some (.int .i64 n) := h.1.cell 0
  clear h
  go_enter Tryz.func12, Tryz.ntmps12
  go_wp2
  go_ret
  exact ⟨rfl, rfl⟩
set_option maxHeartbeats 400000 in
theorem audSizeNil (w : World) : Calls Tryz.prog 12 #[.pointer none] w fun e w' => e = .returned (.int .i64 (-1)) ∧ w = w' := by
  go_enter Tryz.func12, Tryz.ntmps12
  go_wp2
  go_ret
  exact ⟨rfl, rfl⟩

set_option maxHeartbeats 400000 in
theorem known_no (r : ByteArray) (w : World) : Calls Tryz.prog 32 #[.agg #[.int .i64 (-1), .string r]] w fun e w' => e = .returned (.bool false) ∧ Below w.heap.size w w' := by
  go_enter Tryz.func32, Tryz.ntmps32
  go_wp2
  go_ret
  exact ⟨rfl, ext_new _ _⟩
set_option maxHeartbeats 400000 in
theorem known_yes (n : Int) (hn : 0 ≤ n) (r : ByteArray) (w : World) : Calls Tryz.prog 32 #[.agg #[.int .i64 n, .string r]] w fun e w' => e = .returned (.bool true) ∧ Below w.heap.size w w' := by
  go_enter Tryz.func32, Tryz.ntmps32
  go_wp2
  go_ret
  exact ⟨by simp [hn], ext_new _ _⟩

set_option maxHeartbeats 400000 in
theorem cont_first (r r' : ByteArray) (n : Int) (A : Option Addr) (k c : Nat) (w : World) :
    Calls Tryz.prog 34 #[.agg #[.int .i64 (-1), .string r], .agg #[.int .i64 n, .string r'], .slice A k c] w fun e w' => e = .returned (.bool ((k : Int) == 0)) ∧ Below w.heap.size w w' := by
  go_enter Tryz.func34, Tryz.ntmps34
  go_wp2_with (go_at_call 32; refine (known_no r _).mono ?_; rintro e W1 ⟨rfl, hb1⟩; have HE1 := Lib.hid (ext_call (ext_alloc (ext_new w _) _) hb1); clear hb1)
  go_ret
  exact ⟨rfl, HE1.out⟩

set_option maxHeartbeats 400000 in
theorem cont_grow (S : Nat → Prop) (r0 r1 d : ByteArray) (v : Value) (h0 : r0.size = 32) (h1 : r1.size = 32) (hd : d.size = 32) (w : World) (hv : Strs S w v [d]) (hR : RoundOK w) :
    Calls Tryz.prog 34 #[.agg #[.int .i64 0, .string r0], .agg #[.int .i64 1, .string r1], v] w fun e w' => e = .returned (.bool ((nodeF r0 d).toList == r1.toList)) ∧ Below w.heap.size w w' := by
  have HX := Lib.hid (show ∀ W : World, Below w.heap.size w W → Calls Tryz.prog 65 #[.string r0, .int .i64 1, .string r1, .int .i64 2, v] W fun e w' => e = .returned (.bool ((nodeF r0 d).toList == r1.toList)) ∧ Below W.heap.size W w' from
    fun W h => verExt12_any S v r0 r1 d W (hv.below h) hd h0 h1 (hR.below h))
  generalize ((nodeF r0 d).toList == r1.toList) = b at *
  have HB := Lib.hid ((Blk.new w 89 #[.int .i64 0, .string r0]).alloc (.cells #[.int .i64 1, .string r1] 89))
  have HC := Lib.hid (Blk.new' (w.alloc (.cells #[.int .i64 0, .string r0] 89)) 89 #[.int .i64 1, .string r1] (b := w.heap.size + 1) (by simp))
  clear hv hR h0 h1 hd
  have hw1 : IntKind.i64.wrap 1 = 1 := by decide
  have hw2 : IntKind.i64.wrap 2 = 2 := by decide
  go_enter Tryz.func34, Tryz.ntmps34
  go_wp2_with fail
  refine (known_yes 0 (by omega) r0 _).mono ?_
  rintro e W1 ⟨rfl, hb1⟩
  have HE1 := Lib.hid (ext_call (ext_alloc (ext_new w _) _) hb1)
  have b0 : W1.cell? ⟨w.heap.size, 0, none⟩ = some (.int .i64 0) := (HB.out.ext hb1).cell 0
  have b1 : W1.cell? ⟨w.heap.size, 1, none⟩ = some (.string r0) := (HB.out.ext hb1).cell 1
  have c0 : W1.cell? ⟨w.heap.size + 1, 0, none⟩ = some (.int .i64 1) := (HC.out.ext hb1).cell 0
  have c1 : W1.cell? ⟨w.heap.size + 1, 1, none⟩ = some (.string r1) := (HC.out.ext hb1).cell 1
  clear hb1
  go_wp2_with fail
  refine (HX.out _ HE1.out).mono ?_
  rintro e W2 ⟨rfl, hb2⟩
  have HE2 := Lib.hid (ext_call HE1.out hb2)
  clear hb2 b0 b1 c0 c1
  go_wp2
  go_ret
  exact ⟨rfl, HE2.out⟩

set_option maxHeartbeats 400000 in
theorem cont_back (r0 r1 : ByteArray) (A : Option Addr) (k c : Nat) (w : World) :
    Calls Tryz.prog 34 #[.agg #[.int .i64 1, .string r1], .agg #[.int .i64 0, .string r0], .slice A k c] w fun e w' => e = .returned (.bool false) ∧ Below w.heap.size w w' := by
  have HB := Lib.hid ((Blk.new w 89 #[.int .i64 1, .string r1]).alloc (.cells #[.int .i64 0, .string r0] 89))
  have HC := Lib.hid (Blk.new' (w.alloc (.cells #[.int .i64 1, .string r1] 89)) 89 #[.int .i64 0, .string r0] (b := w.heap.size + 1) (by simp))
  have hw1 : IntKind.i64.wrap 1 = 1 := by decide
  have hw2 : IntKind.i64.wrap 2 = 2 := by decide
  go_enter Tryz.func34, Tryz.ntmps34
  go_wp2_with fail
  refine (known_yes 1 (by omega) r1 _).mono ?_
  rintro e W1 ⟨rfl, hb1⟩
  have HE1 := Lib.hid (ext_call (ext_alloc (ext_new w _) _) hb1)
  have b0 : W1.cell? ⟨w.heap.size, 0, none⟩ = some (.int .i64 1) := (HB.out.ext hb1).cell 0
  have b1 : W1.cell? ⟨w.heap.size, 1, none⟩ = some (.string r1) := (HB.out.ext hb1).cell 1
  have c0 : W1.cell? ⟨w.heap.size + 1, 0, none⟩ = some (.int .i64 0) := (HC.out.ext hb1).cell 0
  have c1 : W1.cell? ⟨w.heap.size + 1, 1, none⟩ = some (.string r0) := (HC.out.ext hb1).cell 1
  clear hb1
  go_wp2_with (go_at_call 65; refine (verExt21_any _ r1 r0 _ A k c rfl).mono ?_; rintro e w' ⟨rfl, rfl⟩)
  go_ret
  exact ⟨rfl, HE1.out⟩

set_option maxHeartbeats 400000 in
theorem learnNil (r : ByteArray) (n : Int) (v : Value) (w : World) : Calls Tryz.prog 17 #[.pointer none, .string r, .int .i64 n, v] w fun e w' => e = .returned (.int .i64 1) ∧ Below w.heap.size w w' := by
  go_enter Tryz.func17, Tryz.ntmps17
  go_wp2
  go_ret
  exact ⟨rfl, ext_new _ _⟩

set_option maxRecDepth 100000 in
set_option maxHeartbeats 1000000 in
theorem learnFirst (ga gm c : Nat) (es : Array MapEntry) (r root : ByteArray) (n : Int) (A : Option Addr) (k : Nat) (w : World) (h : AudAt w ga gm (-1) r es c) (hr : root.size = 32) (hn : 0 ≤ n) (hn2 : n ≤ 10000) :
    Calls Tryz.prog 17 #[.pointer (some ⟨ga, 0, none⟩), .string root, .int .i64 n, .slice A 0 k] w fun e w' => e = .returned (.int .i64 0) ∧ AudAt w' ga gm n root es c ∧ Ext2 ga ga w w' := by
  have HNe := Lib.hid (show gm ≠ ga from fun e => by
    have h1 := h.1
    have h2 := h.2
    unfold Blk at h1
    unfold MapAt at h2
    rw [e, h1] at h2
    cases h2)
  have hz : ((0 : Int) == 0) = true := rfl
  have HA := Lib.hid h
  have h0 : w.cell? ⟨ga, 0, none⟩ = some (.int .i64 ((-1))) := h.1.cell 0
  have h1 : w.cell? ⟨ga, 1, none⟩ = some (.string r) := h.1.cell 1
  have hl := h.1.lt
  clear h
  obtain ⟨X, hX⟩ : ∃ X, X = w.alloc (.cells #[.int .i64 (n), .string root] 89) := ⟨_, rfl⟩
  have HN := Lib.hid (show Blk X w.heap.size 89 #[.int .i64 (n), .string root] by rw [hX]; exact Blk.new _ _ _)
  have HEx := Lib.hid (show Below w.heap.size w X by rw [hX]; exact ext_new _ _)
  have HK := Lib.hid (show X.cell? ⟨ga, 0, none⟩ = some (.int .i64 ((-1))) ∧ X.cell? ⟨ga, 1, none⟩ = some (.string r) ∧ X.cell? ⟨w.heap.size, 0, none⟩ = some (.int .i64 (n)) ∧ X.cell? ⟨w.heap.size, 1, none⟩ = some (.string root) ∧ Below X.heap.size X X from ⟨(HA.out.1.ext HEx.out).cell 0, (HA.out.1.ext HEx.out).cell 1, HN.out.cell 0, HN.out.cell 1, ext_refl X⟩)
  have HX := Lib.hid hX
  clear hX
  go_enter Tryz.func17, Tryz.ntmps17
  go_upto_region 7 with (fail)
  rw [← HX.out]
  clear h0 h1
  go_region_held3 (fun w' => w'.cell? ⟨ga, 0, none⟩ = some (.int .i64 ((-1))) ∧ w'.cell? ⟨ga, 1, none⟩ = some (.string r) ∧ w'.cell? ⟨w.heap.size, 0, none⟩ = some (.int .i64 (n)) ∧ w'.cell? ⟨w.heap.size, 1, none⟩ = some (.string root) ∧ Below X.heap.size X w')
    (first | with_reducible assumption | exact keepC4 HK.out (ext_refl X).drew | exact keepC4 (by assumption) (by assumption))
    (first | (go_at_call 34; (with_reducible refine (cont_first r root n A 0 k _).mono ?_); rintro e W1 ⟨rfl, hb1⟩))
  have hb2 := undrew hb1
  have HE1 := Lib.hid (ext_call HEx.out hb2)
  have HN1 := Lib.hid (HN.out.ext hb2)
  clear hb1 hb2
  have hf0 := (HA.out.1.ext HE1.out).frozen 0
  have hf1 := (HA.out.1.ext HE1.out).frozen 1
  have q0 : W1.cell? ⟨ga, 0, none⟩ = some (.int .i64 (-1)) := (HA.out.1.ext HE1.out).cell 0
  have q1 : W1.cell? ⟨ga, 1, none⟩ = some (.string r) := (HA.out.1.ext HE1.out).cell 1
  have n0 : W1.cell? ⟨w.heap.size, 0, none⟩ = some (.int .i64 (n)) := HN1.out.cell 0
  have n1 : W1.cell? ⟨w.heap.size, 1, none⟩ = some (.string root) := HN1.out.cell 1
  go_wp2
  go_ret
  exact ⟨rfl, ⟨((HA.out.1.ext HE1.out).set_ 0 _).set_ 1 _, ((HA.out.2.ext HE1.out).set (p := ⟨ga, 0, none⟩) _ HNe.out).set (p := ⟨ga, 1, none⟩) _ HNe.out⟩, ((Ext2.of_ext HE1.out).setA 0 _).setA 1 _⟩

set_option maxRecDepth 100000 in
set_option maxHeartbeats 1000000 in
theorem learnGrow (ga gm c : Nat) (es : Array MapEntry) (S : Nat → Prop) (r0 r1 d : ByteArray) (v : Value) (w : World) (h : AudAt w ga gm 0 r0 es c) (h0 : r0.size = 32) (hr : r1.size = 32) (hd : d.size = 32) (hv : Strs S w v [d]) (hR : RoundOK w) (heq : nodeF r0 d = r1) :
    Calls Tryz.prog 17 #[.pointer (some ⟨ga, 0, none⟩), .string r1, .int .i64 1, v] w fun e w' => e = .returned (.int .i64 0) ∧ AudAt w' ga gm 1 r1 es c ∧ Ext2 ga ga w w' := by
  have HNe := Lib.hid (show gm ≠ ga from fun e => by
    have h1 := h.1
    have h2 := h.2
    unfold Blk at h1
    unfold MapAt at h2
    rw [e, h1] at h2
    cases h2)
  have HCg := Lib.hid (show ∀ W : World, Below w.heap.size w W → Calls Tryz.prog 34 #[.agg #[.int .i64 0, .string r0], .agg #[.int .i64 1, .string r1], v] W fun e w' => e = .returned (.bool true) ∧ Below W.heap.size W w' from fun W h => (cont_grow S r0 r1 d v h0 hr hd W (hv.below h) (hR.below h)).mono (fun e w' ⟨p, q⟩ => ⟨by rw [p, heq]; simp, q⟩))
  clear hv hR heq hd h0
  have HA := Lib.hid h
  have h0 : w.cell? ⟨ga, 0, none⟩ = some (.int .i64 (0)) := h.1.cell 0
  have h1 : w.cell? ⟨ga, 1, none⟩ = some (.string r0) := h.1.cell 1
  have hl := h.1.lt
  clear h
  obtain ⟨X, hX⟩ : ∃ X, X = w.alloc (.cells #[.int .i64 (1), .string r1] 89) := ⟨_, rfl⟩
  have HN := Lib.hid (show Blk X w.heap.size 89 #[.int .i64 (1), .string r1] by rw [hX]; exact Blk.new _ _ _)
  have HEx := Lib.hid (show Below w.heap.size w X by rw [hX]; exact ext_new _ _)
  have HK := Lib.hid (show X.cell? ⟨ga, 0, none⟩ = some (.int .i64 (0)) ∧ X.cell? ⟨ga, 1, none⟩ = some (.string r0) ∧ X.cell? ⟨w.heap.size, 0, none⟩ = some (.int .i64 (1)) ∧ X.cell? ⟨w.heap.size, 1, none⟩ = some (.string r1) ∧ Below X.heap.size X X from ⟨(HA.out.1.ext HEx.out).cell 0, (HA.out.1.ext HEx.out).cell 1, HN.out.cell 0, HN.out.cell 1, ext_refl X⟩)
  have HX := Lib.hid hX
  clear hX
  go_enter Tryz.func17, Tryz.ntmps17
  go_upto_region 7 with (fail)
  rw [← HX.out]
  clear h0 h1
  go_region_held3 (fun w' => w'.cell? ⟨ga, 0, none⟩ = some (.int .i64 (0)) ∧ w'.cell? ⟨ga, 1, none⟩ = some (.string r0) ∧ w'.cell? ⟨w.heap.size, 0, none⟩ = some (.int .i64 (1)) ∧ w'.cell? ⟨w.heap.size, 1, none⟩ = some (.string r1) ∧ Below X.heap.size X w')
    (first | with_reducible assumption | exact keepC4 HK.out (ext_refl X).drew | exact keepC4 (by assumption) (by assumption))
    (first | (go_at_call 34; (with_reducible refine (HCg.out _ ?_).mono ?_); (exact ext_call HEx.out (keepC4B (by assumption))); rintro e W1 ⟨rfl, hb1⟩))
  have hb2 := undrew hb1
  have HE1 := Lib.hid (ext_call HEx.out hb2)
  have HN1 := Lib.hid (HN.out.ext hb2)
  clear hb1 hb2
  have hf0 := (HA.out.1.ext HE1.out).frozen 0
  have hf1 := (HA.out.1.ext HE1.out).frozen 1
  have q0 : W1.cell? ⟨ga, 0, none⟩ = some (.int .i64 (0)) := (HA.out.1.ext HE1.out).cell 0
  have q1 : W1.cell? ⟨ga, 1, none⟩ = some (.string r0) := (HA.out.1.ext HE1.out).cell 1
  have n0 : W1.cell? ⟨w.heap.size, 0, none⟩ = some (.int .i64 (1)) := HN1.out.cell 0
  have n1 : W1.cell? ⟨w.heap.size, 1, none⟩ = some (.string r1) := HN1.out.cell 1
  go_wp2
  go_ret
  exact ⟨rfl, ⟨((HA.out.1.ext HE1.out).set_ 0 _).set_ 1 _, ((HA.out.2.ext HE1.out).set (p := ⟨ga, 0, none⟩) _ HNe.out).set (p := ⟨ga, 1, none⟩) _ HNe.out⟩, ((Ext2.of_ext HE1.out).setA 0 _).setA 1 _⟩

set_option maxRecDepth 100000 in
set_option maxHeartbeats 1000000 in
theorem learnBack (ga gm c : Nat) (es : Array MapEntry) (r0 r1 : ByteArray) (w : World) (h : AudAt w ga gm 1 r1 es c) (hr : r0.size = 32) :
    Calls Tryz.prog 17 #[.pointer (some ⟨ga, 0, none⟩), .string r0, .int .i64 0, .slice none 0 0] w fun e w' => e = .returned (.int .i64 290) ∧ Below w.heap.size w w' := by
  have HA := Lib.hid h
  have h0 : w.cell? ⟨ga, 0, none⟩ = some (.int .i64 (1)) := h.1.cell 0
  have h1 : w.cell? ⟨ga, 1, none⟩ = some (.string r1) := h.1.cell 1
  have hl := h.1.lt
  clear h
  obtain ⟨X, hX⟩ : ∃ X, X = w.alloc (.cells #[.int .i64 (0), .string r0] 89) := ⟨_, rfl⟩
  have HN := Lib.hid (show Blk X w.heap.size 89 #[.int .i64 (0), .string r0] by rw [hX]; exact Blk.new _ _ _)
  have HEx := Lib.hid (show Below w.heap.size w X by rw [hX]; exact ext_new _ _)
  have HK := Lib.hid (show X.cell? ⟨ga, 0, none⟩ = some (.int .i64 (1)) ∧ X.cell? ⟨ga, 1, none⟩ = some (.string r1) ∧ X.cell? ⟨w.heap.size, 0, none⟩ = some (.int .i64 (0)) ∧ X.cell? ⟨w.heap.size, 1, none⟩ = some (.string r0) ∧ Below X.heap.size X X from ⟨(HA.out.1.ext HEx.out).cell 0, (HA.out.1.ext HEx.out).cell 1, HN.out.cell 0, HN.out.cell 1, ext_refl X⟩)
  have HX := Lib.hid hX
  clear hX
  go_enter Tryz.func17, Tryz.ntmps17
  go_upto_region 7 with (fail)
  rw [← HX.out]
  clear h0 h1
  go_region_held3 (fun w' => w'.cell? ⟨ga, 0, none⟩ = some (.int .i64 (1)) ∧ w'.cell? ⟨ga, 1, none⟩ = some (.string r1) ∧ w'.cell? ⟨w.heap.size, 0, none⟩ = some (.int .i64 (0)) ∧ w'.cell? ⟨w.heap.size, 1, none⟩ = some (.string r0) ∧ Below X.heap.size X w')
    (first | with_reducible assumption | exact keepC4 HK.out (ext_refl X).drew | exact keepC4 (by assumption) (by assumption))
    (first | (go_at_call 34; (with_reducible refine (cont_back r0 r1 none 0 0 _).mono ?_); rintro e W1 ⟨rfl, hb1⟩))
  have hb2 := undrew hb1
  have HE1 := Lib.hid (ext_call HEx.out hb2)
  have HN1 := Lib.hid (HN.out.ext hb2)
  clear hb1 hb2
  go_wp2
  go_ret
  exact ⟨rfl, HE1.out⟩

end Go.Proofs.YtimoapjhepmehaaGreatDoor

/-
  package auditor: the look-up of a head; Check.
-/
namespace Go.Proofs.YtimoapjhepmehaaGreatDoor
open Go.RowKit
attribute [local go_sem ↓] Go.wp_at_zero Go.wp_at_succ

theorem int_check (p : Int) (b : Bool) (w : World) : (Instr.checkKey b 10000 3 (.int .i64 p)).run Tryz.prog w = .ok () w := by cases b <;> kernel_rfl
theorem head_zero (w : World) : (zeroValue 52).run Tryz.prog w = .ok (.agg #[.int .i64 0, .string ⟨#[]⟩, .string ⟨#[]⟩]) w := by kernel_rfl
theorem AnsAt.ext {one : Bool} {w W : World} {va : Array Value} (h : AnsAt one w va) (k : Below w.heap.size w W) : AnsAt one W va := by
  cases one
  · obtain ⟨v, g, c, vr, us, B, d, h1, h2, h3, h4, h5⟩ := h
    exact ⟨v, g, c, vr, us, B, d, h1, h2.ext k, h3, h4.ext k, h5.ext k⟩
  · obtain ⟨v, g, c, vr, us, B, d, h1, h2, h3, h4, h5⟩ := h
    exact ⟨v, g, c, vr, us, B, d, h1, h2.ext k, h3, h4.ext k, h5.ext k⟩
/-- the auditor's one entry -/
def audEntry (c1 s1 : ByteArray) : MapEntry := ⟨.int .i64 1, .agg #[.int .i64 1, .string c1, .string s1], 0⟩
theorem aud_find (c1 s1 : ByteArray) (w : World) : (Instr.findKey 3 (.int .i64 1) #[audEntry c1 s1].toList).run Tryz.prog w = .ok (some (0, .agg #[.int .i64 1, .string c1, .string s1])) w := by unfold audEntry; kernel_rfl

set_option maxRecDepth 100000 in
set_option maxHeartbeats 1000000 in
theorem findNone (ga gm c bx : Nat) (n : Int) (r : ByteArray) (p : Int) (w : World) (h : AudAt w ga gm n r #[] c) (hb : Blk w bx 43 #[.pointer (some ⟨ga, 0, none⟩)]) :
    Calls Tryz.prog 30 #[.int .i64 p, .pointer (some ⟨bx, 0, none⟩)] w fun e w' => e = .returned (.agg #[.int .i64 (-1), .string ⟨#[]⟩, .string ⟨#[]⟩]) ∧ Below w.heap.size w w' := by
  have HE := ext_new w (.cells #[.int .i64 0, .string ⟨#[]⟩, .string ⟨#[]⟩] 52)
  have hA := h.ext HE
  have hB := hb.ext HE
  have hlk := lookup_none (P := Tryz.prog) (k := .int .i64 p) (w := w.alloc (.cells #[.int .i64 0, .string ⟨#[]⟩, .string ⟨#[]⟩] 52)) Tryz.underlying90 hA.2 (int_check p true _) Tryz.underlying3 (head_zero _)
  have hbl := hb.lt
  have hal := h.1.lt
  have b00 : w.cell? ⟨bx, 0, none⟩ = some (.pointer (some ⟨ga, 0, none⟩)) := hb.cell 0
  have a20 : w.cell? ⟨ga, 2, none⟩ = some (.map (some gm)) := h.1.cell 2
  have HY := Lib.hid ((Blk.new w 52 #[.int .i64 (-1), .string ⟨#[]⟩, .string ⟨#[]⟩]).alloc (.cells #[.int .i64 0, .string ⟨#[]⟩, .string ⟨#[]⟩] 52))
  clear h hb hA hB HE
  go_enter Tryz.func30, Tryz.ntmps30
  go_wp2
  have y0 := HY.out.cell 0; have y1 := HY.out.cell 1; have y2 := HY.out.cell 2
  refine bodyPost_ret (v := .agg #[.int .i64 (-1), .string ⟨#[]⟩, .string ⟨#[]⟩]) (by simp [results, Tryz.results30, go_sem, y0, y1, y2]) rfl ⟨rfl, ?_⟩
  exact ext_alloc (ext_new _ _) _

set_option maxRecDepth 100000 in
set_option maxHeartbeats 1000000 in
theorem findOne (ga gm c bx : Nat) (n : Int) (r : ByteArray) (c1 s1 : ByteArray) (w : World) (h : AudAt w ga gm n r #[audEntry c1 s1] c) (hb : Blk w bx 43 #[.pointer (some ⟨ga, 0, none⟩)]) :
    Calls Tryz.prog 30 #[.int .i64 1, .pointer (some ⟨bx, 0, none⟩)] w fun e w' => e = .returned (.agg #[.int .i64 1, .string c1, .string s1]) ∧ Below w.heap.size w w' := by
  have HE := ext_new w (.cells #[.int .i64 0, .string ⟨#[]⟩, .string ⟨#[]⟩] 52)
  have hA := h.ext HE
  have hB := hb.ext HE
  have hlk := lookup_some (P := Tryz.prog) (k := .int .i64 1) (w := w.alloc (.cells #[.int .i64 0, .string ⟨#[]⟩, .string ⟨#[]⟩] 52)) Tryz.underlying90 hA.2 (int_check 1 _ _) (aud_find c1 s1 _)
  have hbl := hb.lt
  have hal := h.1.lt
  have b00 : w.cell? ⟨bx, 0, none⟩ = some (.pointer (some ⟨ga, 0, none⟩)) := hb.cell 0
  have a20 : w.cell? ⟨ga, 2, none⟩ = some (.map (some gm)) := h.1.cell 2
  have HY := Lib.hid ((Blk.new w 52 #[.int .i64 1, .string c1, .string s1]).alloc (.cells #[.int .i64 1, .string c1, .string s1] 52))
  clear h hb hA hB HE
  go_enter Tryz.func30, Tryz.ntmps30
  go_wp2
  have y0 := HY.out.cell 0; have y1 := HY.out.cell 1; have y2 := HY.out.cell 2
  refine bodyPost_ret (v := .agg #[.int .i64 1, .string c1, .string s1]) (by simp [results, Tryz.results30, go_sem, y0, y1, y2]) rfl ⟨rfl, ?_⟩
  exact ext_alloc (ext_new _ _) _

theorem an15Keep {X W : World} {ba : Nat} {a0 a1 a2 a3 a4 a5 a6 a7 a8 a9 a10 a11 a12 a13 a14 : Value} (h : Blk X ba 39 #[a0, a1, a2, a3, a4, a5, a6, a7, a8, a9, a10, a11, a12, a13, a14]) (k : Below X.heap.size X W) : W.cell? ⟨ba, 0, none⟩ = some a0 ∧ W.cell? ⟨ba, 1, none⟩ = some a1 ∧ W.cell? ⟨ba, 2, none⟩ = some a2 ∧ W.cell? ⟨ba, 3, none⟩ = some a3 ∧ W.cell? ⟨ba, 4, none⟩ = some a4 ∧ W.cell? ⟨ba, 5, none⟩ = some a5 ∧ W.cell? ⟨ba, 6, none⟩ = some a6 ∧ W.cell? ⟨ba, 7, none⟩ = some a7 ∧ W.cell? ⟨ba, 8, none⟩ = some a8 ∧ W.cell? ⟨ba, 9, none⟩ = some a9 ∧ W.cell? ⟨ba, 10, none⟩ = some a10 ∧ W.cell? ⟨ba, 11, none⟩ = some a11 ∧ W.cell? ⟨ba, 12, none⟩ = some a12 ∧ W.cell? ⟨ba, 13, none⟩ = some a13 ∧ W.cell? ⟨ba, 14, none⟩ = some a14 ∧ Below X.heap.size X W :=
  ⟨(h.ext k).cell 0, (h.ext k).cell 1, (h.ext k).cell 2, (h.ext k).cell 3, (h.ext k).cell 4, (h.ext k).cell 5, (h.ext k).cell 6, (h.ext k).cell 7, (h.ext k).cell 8, (h.ext k).cell 9, (h.ext k).cell 10, (h.ext k).cell 11, (h.ext k).cell 12, (h.ext k).cell 13, (h.ext k).cell 14, k⟩
theorem an15B {X W : World} {ba : Nat} {a0 a1 a2 a3 a4 a5 a6 a7 a8 a9 a10 a11 a12 a13 a14 : Value} (h : W.cell? ⟨ba, 0, none⟩ = some a0 ∧ W.cell? ⟨ba, 1, none⟩ = some a1 ∧ W.cell? ⟨ba, 2, none⟩ = some a2 ∧ W.cell? ⟨ba, 3, none⟩ = some a3 ∧ W.cell? ⟨ba, 4, none⟩ = some a4 ∧ W.cell? ⟨ba, 5, none⟩ = some a5 ∧ W.cell? ⟨ba, 6, none⟩ = some a6 ∧ W.cell? ⟨ba, 7, none⟩ = some a7 ∧ W.cell? ⟨ba, 8, none⟩ = some a8 ∧ W.cell? ⟨ba, 9, none⟩ = some a9 ∧ W.cell? ⟨ba, 10, none⟩ = some a10 ∧ W.cell? ⟨ba, 11, none⟩ = some a11 ∧ W.cell? ⟨ba, 12, none⟩ = some a12 ∧ W.cell? ⟨ba, 13, none⟩ = some a13 ∧ W.cell? ⟨ba, 14, none⟩ = some a14 ∧ Below X.heap.size X W) : Below X.heap.size X W := h.2.2.2.2.2.2.2.2.2.2.2.2.2.2.2

set_option maxRecDepth 100000 in
set_option maxHeartbeats 2000000 in
theorem audCheckNo1 (ga gm c : Nat) (n : Int) (r : ByteArray) (gr kr g d : Nat) (B : Option Addr) (m : Nat) (w : World) (h : AudAt w ga gm n r #[] c) (ha : AnsAt true w #[.int .i64 1, .int .i64 0, .int .i64 0, .int .i64 5, .int .i64 5, .int .i64 0, .int .i64 0, .slice (some ⟨gr, 0, none⟩) 1 kr, .int .i64 0, .bool false, .int .i64 1, .int .i64 1, .int .i64 1, .slice (some ⟨g, 0, none⟩) 1 d, .slice B 0 m]) :
    Calls Tryz.prog 13 #[.pointer (some ⟨ga, 0, none⟩), .agg #[.int .i64 1, .int .i64 0, .int .i64 0, .int .i64 5, .int .i64 5, .int .i64 0, .int .i64 0, .slice (some ⟨gr, 0, none⟩) 1 kr, .int .i64 0, .bool false, .int .i64 1, .int .i64 1, .int .i64 1, .slice (some ⟨g, 0, none⟩) 1 d, .slice B 0 m]] w fun e w' => e = .returned (.bool false) ∧ Below w.heap.size w w' := by
  have hmf : ∀ (fn : Fn) (first cap : Array Value) (w : World), (Instr.makeFunc fn first cap).run Tryz.prog w = .ok (.func fn first cap) w := fun _ _ _ _ => rfl
  obtain ⟨X, hX⟩ : ∃ X, X = (w.alloc (.cells #[.pointer (some ⟨ga, 0, none⟩)] 43)).alloc (.cells #[.int .i64 1, .int .i64 0, .int .i64 0, .int .i64 5, .int .i64 5, .int .i64 0, .int .i64 0, .slice (some ⟨gr, 0, none⟩) 1 kr, .int .i64 0, .bool false, .int .i64 1, .int .i64 1, .int .i64 1, .slice (some ⟨g, 0, none⟩) 1 d, .slice B 0 m] 39) := ⟨_, rfl⟩
  have hE : Below w.heap.size w X := by rw [hX]; exact ext_alloc (ext_new _ _) _
  have hBx : Blk X w.heap.size 43 #[.pointer (some ⟨ga, 0, none⟩)] := by rw [hX]; exact (Blk.new _ _ _).alloc _
  have HBa := Lib.hid (show Blk X (w.heap.size + 1) 39 #[.int .i64 1, .int .i64 0, .int .i64 0, .int .i64 5, .int .i64 5, .int .i64 0, .int .i64 0, .slice (some ⟨gr, 0, none⟩) 1 kr, .int .i64 0, .bool false, .int .i64 1, .int .i64 1, .int .i64 1, .slice (some ⟨g, 0, none⟩) 1 d, .slice B 0 m] by rw [hX]; exact Blk.new' _ _ _ (by simp))
  have HF := Lib.hid (show ∀ W : World, Below X.heap.size X W → Calls Tryz.prog 30 #[.int .i64 1, .pointer (some ⟨w.heap.size, 0, none⟩)] W fun e w' => e = .returned (.agg #[.int .i64 (-1), .string ⟨#[]⟩, .string ⟨#[]⟩]) ∧ Below W.heap.size W w' from
    fun W k => findNone ga gm c w.heap.size n r 1 W ((h.ext hE).ext k) (hBx.ext k))
  have HC := Lib.hid (show ∀ W : World, Below X.heap.size X W → Calls Tryz.prog 31 #[.agg #[.int .i64 (-1), .string ⟨#[]⟩, .string ⟨#[]⟩], .agg #[.int .i64 (-1), .string ⟨#[]⟩, .string ⟨#[]⟩], .agg #[.int .i64 1, .int .i64 0, .int .i64 0, .int .i64 5, .int .i64 5, .int .i64 0, .int .i64 0, .slice (some ⟨gr, 0, none⟩) 1 kr, .int .i64 0, .bool false, .int .i64 1, .int .i64 1, .int .i64 1, .slice (some ⟨g, 0, none⟩) 1 d, .slice B 0 m]] W fun e w' => e = .returned (.bool false) ∧ Below W.heap.size W w' from
    fun W k => checkNo true _ W ((ha.ext hE).ext k))
  have HK := Lib.hid (an15Keep HBa.out (ext_refl X))
  have HE := Lib.hid hE
  have HX := Lib.hid hX
  clear h hE hBx hX ha
  go_enter Tryz.func13, Tryz.ntmps13
  go_wp2_with fail
  rw [← HX.out]
  go_region_held3 (fun w' => w'.cell? ⟨w.heap.size + 1, 0, none⟩ = some (.int .i64 1) ∧ w'.cell? ⟨w.heap.size + 1, 1, none⟩ = some (.int .i64 0) ∧ w'.cell? ⟨w.heap.size + 1, 2, none⟩ = some (.int .i64 0) ∧ w'.cell? ⟨w.heap.size + 1, 3, none⟩ = some (.int .i64 5) ∧ w'.cell? ⟨w.heap.size + 1, 4, none⟩ = some (.int .i64 5) ∧ w'.cell? ⟨w.heap.size + 1, 5, none⟩ = some (.int .i64 0) ∧ w'.cell? ⟨w.heap.size + 1, 6, none⟩ = some (.int .i64 0) ∧ w'.cell? ⟨w.heap.size + 1, 7, none⟩ = some (.slice (some ⟨gr, 0, none⟩) 1 kr) ∧ w'.cell? ⟨w.heap.size + 1, 8, none⟩ = some (.int .i64 0) ∧ w'.cell? ⟨w.heap.size + 1, 9, none⟩ = some (.bool false) ∧ w'.cell? ⟨w.heap.size + 1, 10, none⟩ = some (.int .i64 1) ∧ w'.cell? ⟨w.heap.size + 1, 11, none⟩ = some (.int .i64 1) ∧ w'.cell? ⟨w.heap.size + 1, 12, none⟩ = some (.int .i64 1) ∧ w'.cell? ⟨w.heap.size + 1, 13, none⟩ = some (.slice (some ⟨g, 0, none⟩) 1 d) ∧ w'.cell? ⟨w.heap.size + 1, 14, none⟩ = some (.slice B 0 m) ∧ Below X.heap.size X w')
    (first | with_reducible assumption | exact an15Keep HBa.out (by repeat (first | with_reducible refine ext_alloc ?_ _ | with_reducible refine Below.drew ?_ | with_reducible refine ext_drewN ?_ _ | with_reducible assumption | with_reducible exact ext_refl _)))
    (first
      | (go_at_call 30; (with_reducible refine (HF.out _ ?_).mono ?_); (exact an15B (by assumption)); rintro e Z ⟨rfl, hb'⟩; have hXZ := ext_call (an15B (by assumption)) hb'; clear hb')
      | (go_at_call 31; (with_reducible refine (HC.out _ ?_).mono ?_); (exact an15B (by assumption)); rintro e Z ⟨rfl, hb'⟩; have hXZ := ext_call (an15B (by assumption)) hb'; clear hb'))
  have HZ := Lib.hid (ext_call HE.out hXZ)
  clear hXZ
  go_wp2
  go_ret
  exact ⟨rfl, HZ.out⟩

set_option maxRecDepth 100000 in
set_option maxHeartbeats 2000000 in
theorem audCheckNo0 (ga gm c : Nat) (n : Int) (r : ByteArray) (g d : Nat) (B : Option Addr) (m : Nat) (w : World) (h : AudAt w ga gm n r #[] c) (ha : AnsAt false w #[.int .i64 3, .int .i64 0, .int .i64 0, .int .i64 0, .int .i64 0, .int .i64 0, .int .i64 0, .slice none 0 0, .int .i64 0, .bool false, .int .i64 0, .int .i64 0, .int .i64 0, .slice (some ⟨g, 0, none⟩) 1 d, .slice B 0 m]) :
    Calls Tryz.prog 13 #[.pointer (some ⟨ga, 0, none⟩), .agg #[.int .i64 3, .int .i64 0, .int .i64 0, .int .i64 0, .int .i64 0, .int .i64 0, .int .i64 0, .slice none 0 0, .int .i64 0, .bool false, .int .i64 0, .int .i64 0, .int .i64 0, .slice (some ⟨g, 0, none⟩) 1 d, .slice B 0 m]] w fun e w' => e = .returned (.bool false) ∧ Below w.heap.size w w' := by
  have hmf : ∀ (fn : Fn) (first cap : Array Value) (w : World), (Instr.makeFunc fn first cap).run Tryz.prog w = .ok (.func fn first cap) w := fun _ _ _ _ => rfl
  obtain ⟨X, hX⟩ : ∃ X, X = (w.alloc (.cells #[.pointer (some ⟨ga, 0, none⟩)] 43)).alloc (.cells #[.int .i64 3, .int .i64 0, .int .i64 0, .int .i64 0, .int .i64 0, .int .i64 0, .int .i64 0, .slice none 0 0, .int .i64 0, .bool false, .int .i64 0, .int .i64 0, .int .i64 0, .slice (some ⟨g, 0, none⟩) 1 d, .slice B 0 m] 39) := ⟨_, rfl⟩
  have hE : Below w.heap.size w X := by rw [hX]; exact ext_alloc (ext_new _ _) _
  have hBx : Blk X w.heap.size 43 #[.pointer (some ⟨ga, 0, none⟩)] := by rw [hX]; exact (Blk.new _ _ _).alloc _
  have HBa := Lib.hid (show Blk X (w.heap.size + 1) 39 #[.int .i64 3, .int .i64 0, .int .i64 0, .int .i64 0, .int .i64 0, .int .i64 0, .int .i64 0, .slice none 0 0, .int .i64 0, .bool false, .int .i64 0, .int .i64 0, .int .i64 0, .slice (some ⟨g, 0, none⟩) 1 d, .slice B 0 m] by rw [hX]; exact Blk.new' _ _ _ (by simp))
  have HF := Lib.hid (show ∀ W : World, Below X.heap.size X W → Calls Tryz.prog 30 #[.int .i64 0, .pointer (some ⟨w.heap.size, 0, none⟩)] W fun e w' => e = .returned (.agg #[.int .i64 (-1), .string ⟨#[]⟩, .string ⟨#[]⟩]) ∧ Below W.heap.size W w' from
    fun W k => findNone ga gm c w.heap.size n r 0 W ((h.ext hE).ext k) (hBx.ext k))
  have HC := Lib.hid (show ∀ W : World, Below X.heap.size X W → Calls Tryz.prog 31 #[.agg #[.int .i64 (-1), .string ⟨#[]⟩, .string ⟨#[]⟩], .agg #[.int .i64 (-1), .string ⟨#[]⟩, .string ⟨#[]⟩], .agg #[.int .i64 3, .int .i64 0, .int .i64 0, .int .i64 0, .int .i64 0, .int .i64 0, .int .i64 0, .slice none 0 0, .int .i64 0, .bool false, .int .i64 0, .int .i64 0, .int .i64 0, .slice (some ⟨g, 0, none⟩) 1 d, .slice B 0 m]] W fun e w' => e = .returned (.bool false) ∧ Below W.heap.size W w' from
    fun W k => checkNo false _ W ((ha.ext hE).ext k))
  have HK := Lib.hid (an15Keep HBa.out (ext_refl X))
  have HE := Lib.hid hE
  have HX := Lib.hid hX
  clear h hE hBx hX ha
  go_enter Tryz.func13, Tryz.ntmps13
  go_wp2_with fail
  rw [← HX.out]
  go_region_held3 (fun w' => w'.cell? ⟨w.heap.size + 1, 0, none⟩ = some (.int .i64 3) ∧ w'.cell? ⟨w.heap.size + 1, 1, none⟩ = some (.int .i64 0) ∧ w'.cell? ⟨w.heap.size + 1, 2, none⟩ = some (.int .i64 0) ∧ w'.cell? ⟨w.heap.size + 1, 3, none⟩ = some (.int .i64 0) ∧ w'.cell? ⟨w.heap.size + 1, 4, none⟩ = some (.int .i64 0) ∧ w'.cell? ⟨w.heap.size + 1, 5, none⟩ = some (.int .i64 0) ∧ w'.cell? ⟨w.heap.size + 1, 6, none⟩ = some (.int .i64 0) ∧ w'.cell? ⟨w.heap.size + 1, 7, none⟩ = some (.slice none 0 0) ∧ w'.cell? ⟨w.heap.size + 1, 8, none⟩ = some (.int .i64 0) ∧ w'.cell? ⟨w.heap.size + 1, 9, none⟩ = some (.bool false) ∧ w'.cell? ⟨w.heap.size + 1, 10, none⟩ = some (.int .i64 0) ∧ w'.cell? ⟨w.heap.size + 1, 11, none⟩ = some (.int .i64 0) ∧ w'.cell? ⟨w.heap.size + 1, 12, none⟩ = some (.int .i64 0) ∧ w'.cell? ⟨w.heap.size + 1, 13, none⟩ = some (.slice (some ⟨g, 0, none⟩) 1 d) ∧ w'.cell? ⟨w.heap.size + 1, 14, none⟩ = some (.slice B 0 m) ∧ Below X.heap.size X w')
    (first | with_reducible assumption | exact an15Keep HBa.out (by repeat (first | with_reducible refine ext_alloc ?_ _ | with_reducible refine Below.drew ?_ | with_reducible refine ext_drewN ?_ _ | with_reducible assumption | with_reducible exact ext_refl _)))
    (first
      | (go_at_call 30; (with_reducible refine (HF.out _ ?_).mono ?_); (exact an15B (by assumption)); rintro e Z ⟨rfl, hb'⟩; have hXZ := ext_call (an15B (by assumption)) hb'; clear hb')
      | (go_at_call 31; (with_reducible refine (HC.out _ ?_).mono ?_); (exact an15B (by assumption)); rintro e Z ⟨rfl, hb'⟩; have hXZ := ext_call (an15B (by assumption)) hb'; clear hb'))
  have HZ := Lib.hid (ext_call HE.out hXZ)
  clear hXZ
  go_wp2
  go_ret
  exact ⟨rfl, HZ.out⟩

set_option maxRecDepth 100000 in
set_option maxHeartbeats 2000000 in
theorem audCheckYes (ga gm c : Nat) (n : Int) (r : ByteArray) (c1 s1 : ByteArray) (gr kr g d : Nat) (B : Option Addr) (m : Nat) (w : World) (h : AudAt w ga gm n r #[audEntry c1 s1] c) (hc1 : c1.size = 32) (hs1 : s1 = stateF true) (ha : Ans1 w gr kr g d B m) (hR : RoundOK w) :
    Calls Tryz.prog 13 #[.pointer (some ⟨ga, 0, none⟩), .agg #[.int .i64 1, .int .i64 0, .int .i64 0, .int .i64 5, .int .i64 5, .int .i64 0, .int .i64 0, .slice (some ⟨gr, 0, none⟩) 1 kr, .int .i64 0, .bool false, .int .i64 1, .int .i64 1, .int .i64 1, .slice (some ⟨g, 0, none⟩) 1 d, .slice B 0 m]] w fun e w' => e = .returned (.bool true) ∧ Below w.heap.size w w' := by
  have hmf : ∀ (fn : Fn) (first cap : Array Value) (w : World), (Instr.makeFunc fn first cap).run Tryz.prog w = .ok (.func fn first cap) w := fun _ _ _ _ => rfl
  obtain ⟨X, hX⟩ : ∃ X, X = (w.alloc (.cells #[.pointer (some ⟨ga, 0, none⟩)] 43)).alloc (.cells #[.int .i64 1, .int .i64 0, .int .i64 0, .int .i64 5, .int .i64 5, .int .i64 0, .int .i64 0, .slice (some ⟨gr, 0, none⟩) 1 kr, .int .i64 0, .bool false, .int .i64 1, .int .i64 1, .int .i64 1, .slice (some ⟨g, 0, none⟩) 1 d, .slice B 0 m] 39) := ⟨_, rfl⟩
  have hE : Below w.heap.size w X := by rw [hX]; exact ext_alloc (ext_new _ _) _
  have hBx : Blk X w.heap.size 43 #[.pointer (some ⟨ga, 0, none⟩)] := by rw [hX]; exact (Blk.new _ _ _).alloc _
  have HBa := Lib.hid (show Blk X (w.heap.size + 1) 39 #[.int .i64 1, .int .i64 0, .int .i64 0, .int .i64 5, .int .i64 5, .int .i64 0, .int .i64 0, .slice (some ⟨gr, 0, none⟩) 1 kr, .int .i64 0, .bool false, .int .i64 1, .int .i64 1, .int .i64 1, .slice (some ⟨g, 0, none⟩) 1 d, .slice B 0 m] by rw [hX]; exact Blk.new' _ _ _ (by simp))
  have HF := Lib.hid (show ∀ W : World, Below X.heap.size X W → Calls Tryz.prog 30 #[.int .i64 1, .pointer (some ⟨w.heap.size, 0, none⟩)] W fun e w' => e = .returned (.agg #[.int .i64 1, .string c1, .string s1]) ∧ Below W.heap.size W w' from
    fun W k => findOne ga gm c w.heap.size n r c1 s1 W ((h.ext hE).ext k) (hBx.ext k))
  have HC := Lib.hid (show ∀ W : World, Below X.heap.size X W → Calls Tryz.prog 31 #[.agg #[.int .i64 1, .string c1, .string s1], .agg #[.int .i64 1, .string c1, .string s1], .agg #[.int .i64 1, .int .i64 0, .int .i64 0, .int .i64 5, .int .i64 5, .int .i64 0, .int .i64 0, .slice (some ⟨gr, 0, none⟩) 1 kr, .int .i64 0, .bool false, .int .i64 1, .int .i64 1, .int .i64 1, .slice (some ⟨g, 0, none⟩) 1 d, .slice B 0 m]] W fun e w' => e = .returned (.bool true) ∧ Below W.heap.size W w' from
    fun W k => checkYes c1 s1 hc1 hs1 gr kr g d B m W ((ha.ext hE).ext k) ((hR.below hE).below k))
  have HK := Lib.hid (an15Keep HBa.out (ext_refl X))
  have HE := Lib.hid hE
  have HX := Lib.hid hX
  clear h hE hBx hX ha hs1 hc1 hR
  go_enter Tryz.func13, Tryz.ntmps13
  go_wp2_with fail
  rw [← HX.out]
  go_region_held3 (fun w' => w'.cell? ⟨w.heap.size + 1, 0, none⟩ = some (.int .i64 1) ∧ w'.cell? ⟨w.heap.size + 1, 1, none⟩ = some (.int .i64 0) ∧ w'.cell? ⟨w.heap.size + 1, 2, none⟩ = some (.int .i64 0) ∧ w'.cell? ⟨w.heap.size + 1, 3, none⟩ = some (.int .i64 5) ∧ w'.cell? ⟨w.heap.size + 1, 4, none⟩ = some (.int .i64 5) ∧ w'.cell? ⟨w.heap.size + 1, 5, none⟩ = some (.int .i64 0) ∧ w'.cell? ⟨w.heap.size + 1, 6, none⟩ = some (.int .i64 0) ∧ w'.cell? ⟨w.heap.size + 1, 7, none⟩ = some (.slice (some ⟨gr, 0, none⟩) 1 kr) ∧ w'.cell? ⟨w.heap.size + 1, 8, none⟩ = some (.int .i64 0) ∧ w'.cell? ⟨w.heap.size + 1, 9, none⟩ = some (.bool false) ∧ w'.cell? ⟨w.heap.size + 1, 10, none⟩ = some (.int .i64 1) ∧ w'.cell? ⟨w.heap.size + 1, 11, none⟩ = some (.int .i64 1) ∧ w'.cell? ⟨w.heap.size + 1, 12, none⟩ = some (.int .i64 1) ∧ w'.cell? ⟨w.heap.size + 1, 13, none⟩ = some (.slice (some ⟨g, 0, none⟩) 1 d) ∧ w'.cell? ⟨w.heap.size + 1, 14, none⟩ = some (.slice B 0 m) ∧ Below X.heap.size X w')
    (first | with_reducible assumption | exact an15Keep HBa.out (by repeat (first | with_reducible refine ext_alloc ?_ _ | with_reducible refine Below.drew ?_ | with_reducible refine ext_drewN ?_ _ | with_reducible assumption | with_reducible exact ext_refl _)))
    (first
      | (go_at_call 30; (with_reducible refine (HF.out _ ?_).mono ?_); (exact an15B (by assumption)); rintro e Z ⟨rfl, hb'⟩; have hXZ := ext_call (an15B (by assumption)) hb'; clear hb')
      | (go_at_call 31; (with_reducible refine (HC.out _ ?_).mono ?_); (exact an15B (by assumption)); rintro e Z ⟨rfl, hb'⟩; have hXZ := ext_call (an15B (by assumption)) hb'; clear hb'))
  have HZ := Lib.hid (ext_call HE.out hXZ)
  clear hXZ
  go_wp2
  go_ret
  exact ⟨rfl, HZ.out⟩

end Go.Proofs.YtimoapjhepmehaaGreatDoor
