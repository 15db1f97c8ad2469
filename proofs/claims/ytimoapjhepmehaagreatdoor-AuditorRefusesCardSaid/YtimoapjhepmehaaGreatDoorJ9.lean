/-
  Part 9 of 17: the contracts that the proof of the last part uses; each stands under its own head.
-/
import Derived.Test.YtimoapjhepmehaaGreatDoorJ5
import Derived.LoopN
import Derived.WalkMore
import Derived.Test.YtimoapjhepmehaaGreatDoorJ7
import Derived.Test.YtimoapjhepmehaaGreatDoorJ8
set_option linter.unusedSimpArgs false
set_option linter.unusedVariables false

/-
  digest.Proof at the lists that the law hands to it: one entry, two entries.
-/
namespace Go.Proofs.YtimoapjhepmehaaGreatDoor
open Go.RowKit Go.Shelf
attribute [local go_sem ↓] Go.wp_at_zero Go.wp_at_succ

theorem below_undrew {w W : World} {n B : Nat} (h : Below B (w.drewN n) W) : Below B w W := ⟨h.os, h.tape, h.output, h.size, h.block⟩
theorem own_frozen {w : World} {base e n cap g : Nat} {xs : List Value} (h : w.ownsRow base e 1 (.slice (some ⟨g, 0, none⟩) n cap) n xs) (i : Nat) : w.frozen? ⟨g, i, none⟩ = false := by
  rcases h.2 with ⟨he, _⟩ | ⟨g', cap', cur, he, _, hg, _⟩
  · cases he
  · injection he with h1 h2 h3
    injection h1 with h1
    injection h1 with h1
    subst h1
    exact Blk.frozen (show Blk w g e cur from hg) i
theorem leftF_two : leftF 2 = 1 := by decide

/-- slices.Reverse of one string -/
theorem rev1_any (g cap : Nat) (x : ByteArray) (w : World) (hc : w.cell? ⟨g, 0, none⟩ = some (.string x)) (hf : w.frozen? ⟨g, 0, none⟩ = false) :
    Calls Tryz.prog 74 #[.slice (some ⟨g, 0, none⟩) 1 cap] w fun e w' => e = .returned (.tuple #[]) ∧ w'.cell? ⟨g, 0, none⟩ = some (.string x) ∧ ∀ B, B ≤ g → Below B w w' := by
  refine (Tryz.slices_Reverse_string_cells g 0 1 cap (fun _ => x) w (by omega) (fun i hi => ?_) (fun i hi => ?_)).mono ?_
  · obtain rfl : i = 0 := by omega
    exact hc
  · obtain rfl : i = 0 := by omega
    exact hf
  · rintro e w' ⟨rfl, q, rfl⟩
    have he : (Lib.strsOf (fun _ => x) 1).reverse.map encStr = [.string x] := by simp [Lib.strsOf, encStr]
    rw [he]
    refine ⟨rfl, ?_, fun B hB => ?_⟩
    · exact World.cell?_setCells_in g [.string x] 0 (w.drewN q) (fun j hj => by
        obtain rfl : j = 0 := by simp at hj; omega
        show (w.cell? ⟨g, 0, none⟩).isSome = true
        rw [hc]; rfl) 0 (by simp)
    · exact Below.setCell (show Below B w (w.drewN q) from ⟨rfl, rfl, rfl, Nat.le_refl _, fun _ _ => rfl⟩) hB _

/-- what digest.Proof gives: a new list -/
def ProofPost (w : World) (l : List ByteArray) (e : Ending) (w' : World) : Prop :=
  ∃ v, e = .returned (.tuple #[v, .int .i64 0]) ∧ Strs (fun b => w.heap.size ≤ b) w' v l ∧ Below w.heap.size w w'

set_option maxHeartbeats 1000000 in
set_option maxRecDepth 100000 in
theorem proof2_any (S : Nat → Prop) (v : Value) (x y : ByteArray) (w : World) (hv : Strs S w v [x, y]) (hx : x.size ≤ 100000) (hR : RoundOK w) :
    Calls Tryz.prog 41 #[v, .int .i64 1] w (ProofPost w [rootF [x]]) := by
  obtain ⟨is, his, hzs0, hzs1, hzs2⟩ := info_parts str_info
  obtain ⟨A, c, rfl, hc, h⟩ := hv
  obtain ⟨b, off, rfl, hS, hcell⟩ := h (by simp)
  have hc2 : 2 ≤ c := by simpa using hc
  have cx := hcell 0 x rfl
  have HR := Lib.hid hR
  have HRoot := Lib.hid (fun n : Nat => root_any (fun _ => True) (.slice (some ⟨b, off, none⟩) 1 c) [x] (w.drewN n) ⟨_, _, rfl, by simp; omega, fun _ => ⟨b, off, rfl, trivial, fun j u hu => by
    match j, hu with
    | 0, hu => simp at hu; subst hu; exact cx⟩⟩ (by simp) (fun z hz => by simp at hz; subst hz; exact hx) hR)
  clear hcell hR h hc
  have q1 : (1 : Int) ≤ (c : Int) := by omega
  have q2 : (2 : Int) ≤ (c : Int) := by omega
  go_enter Tryz.func41, Tryz.ntmps41
  go_wp2
  go_step3
  go_wp2
  go_step3
  go_wp2
  refine wp_loop_rounds 2 ?_
  rw [rounds_succ]
  go_wp2_with (go_at_call 73; refine (left_any 2 w (by omega) (by omega)).mono ?_; rintro e W1 ⟨rfl, rfl⟩; rw [leftF_two])
  go_quiet (fail)
  go_wp2_with (first
    | (go_at_call 43; refine (HRoot.out nq).mono ?_; rintro e W1 ⟨rfl, hb1⟩; have hz1 : w.heap.size ≤ W1.heap.size := hb1.size; have HB1 := Lib.hid (show Below w.heap.size w W1 from below_undrew hb1); clear hb1)
    | (at_builtin; refine wpList_append_own _ rfl (.tmp 38) (.tmp 41) 53 rfl w.heap.size 9 is (.string ⟨#[]⟩) 1 16 Tryz.underlying53 his hzs0 hzs1 hzs2 rfl (by decide) (.slice none 0 0) 0 [] rfl (World.ownsRow_nil _ _ _ _) ⟨W1.heap.size, 0, none⟩ 1 1 [.string (rootF [x])] rfl rfl (cell_one_new _ _ _) ?_ ?_ ?_ ?_ ?_; (simp [Value.oneCell']); (unfold maxLen; omega); omega; (rw [World.size_alloc]; omega); intro wv2 W2 ho2 hg2 _; have hb2 := Lib.hid ((HB1.out.alloc hz1 _).grown hg2 (by rw [World.size_alloc]; omega) (fun k e => by cases e)); obtain ⟨g, cg, hg, hgb, _⟩ := ho2.form (by omega); subst hg; have cg0 : W2.cell? ⟨g, 0, none⟩ = some (.string (rootF [x])) := (own_cell ho2 (k := 0) rfl); have HO2 := Lib.hid ho2; clear ho2 hg2))
  rw [rounds_succ]
  go_wp2_with (go_at_call 74; refine (rev1_any g cg (rootF [x]) W2 cg0 (own_frozen HO2.out 0)).mono ?_; rintro e W3 ⟨rfl, c3, hb3⟩)
  rw [Exit.noGoto_ret]
  go_ret2
  refine ⟨_, rfl, ⟨_, _, rfl, own_cap HO2.out, fun _ => ⟨g, 0, rfl, hgb, fun j u hu => ?_⟩⟩, hb2.out.trans (hb3 _ hgb)⟩
  match j, hu with
  | 0, hu => simp at hu; subst hu; exact c3

set_option maxHeartbeats 1000000 in
set_option maxRecDepth 100000 in
theorem proof1_any (S : Nat → Prop) (v : Value) (x : ByteArray) (w : World) (hv : Strs S w v [x]) :
    Calls Tryz.prog 41 #[v, .int .i64 0] w (ProofPost w []) := by
  obtain ⟨A, c, rfl, hc, _⟩ := hv
  have hc2 : 1 ≤ c := by simpa using hc
  clear hc
  go_enter Tryz.func41, Tryz.ntmps41
  go_wp2
  go_step3
  go_wp2
  go_step3
  go_wp2
  refine wp_loop_rounds 1 ?_
  rw [rounds_succ]
  go_wp2_with (go_at_call 74; refine (Tryz.slices_Reverse_string_empty none 0 w).mono ?_; rintro e W3 ⟨rfl, rfl⟩)
  rw [Exit.noGoto_ret]
  go_ret2
  exact ⟨_, rfl, Strs.nil_ _ _, Below.refl _ _⟩

set_option maxHeartbeats 1000000 in
set_option maxRecDepth 100000 in
theorem ext2_any (S : Nat → Prop) (v : Value) (x y : ByteArray) (w : World) (hv : Strs S w v [x, y]) (hx : y.size ≤ 100000) (hR : RoundOK w) :
    Calls Tryz.prog 57 #[v, .int .i64 1] w (ProofPost w [rootF [y]]) := by
  obtain ⟨is, his, hzs0, hzs1, hzs2⟩ := info_parts str_info
  obtain ⟨A, c, rfl, hc, h⟩ := hv
  obtain ⟨b, off, rfl, hS, hcell⟩ := h (by simp)
  have hc2 : 2 ≤ c := by simpa using hc
  have cx := hcell 1 y rfl
  have HR := Lib.hid hR
  have HRoot := Lib.hid (fun n : Nat => root_any (fun _ => True) (.slice (some ⟨b, off + 1, none⟩) 1 (c - 1)) [y] (w.drewN n) ⟨_, _, rfl, by simp; omega, fun _ => ⟨b, off + 1, rfl, trivial, fun j u hu => by
    match j, hu with
    | 0, hu => simp at hu; subst hu; exact cx⟩⟩ (by simp) (fun z hz => by simp at hz; subst hz; exact hx) hR)
  clear hcell hR h hc
  have q1 : (1 : Int) ≤ (c : Int) := by omega
  have q2 : (2 : Int) ≤ (c : Int) := by omega
  go_enter Tryz.func57, Tryz.ntmps57
  go_wp2
  refine wp_loop_rounds 2 ?_
  rw [rounds_succ]
  go_wp2_with (go_at_call 73; refine (left_any 2 w (by omega) (by omega)).mono ?_; rintro e W1 ⟨rfl, rfl⟩; rw [leftF_two])
  go_quiet (fail)
  go_wp2_with (first
    | (go_at_call 43; refine (HRoot.out nq).mono ?_; rintro e W1 ⟨rfl, hb1⟩; have hz1 : w.heap.size ≤ W1.heap.size := hb1.size; have HB1 := Lib.hid (show Below w.heap.size w W1 from below_undrew hb1); clear hb1)
    | (at_builtin; refine wpList_append_own _ rfl (.tmp 44) (.tmp 47) 53 rfl w.heap.size 9 is (.string ⟨#[]⟩) 1 16 Tryz.underlying53 his hzs0 hzs1 hzs2 rfl (by decide) (.slice none 0 0) 0 [] rfl (World.ownsRow_nil _ _ _ _) ⟨W1.heap.size, 0, none⟩ 1 1 [.string (rootF [y])] rfl rfl (cell_one_new _ _ _) ?_ ?_ ?_ ?_ ?_; (simp [Value.oneCell']); (unfold maxLen; omega); omega; (rw [World.size_alloc]; omega); intro wv2 W2 ho2 hg2 _; have hb2 := Lib.hid ((HB1.out.alloc hz1 _).grown hg2 (by rw [World.size_alloc]; omega) (fun k e => by cases e)); obtain ⟨g, cg, hg, hgb, _⟩ := ho2.form (by omega); subst hg; have cg0 : W2.cell? ⟨g, 0, none⟩ = some (.string (rootF [y])) := (own_cell ho2 (k := 0) rfl); have HO2 := Lib.hid ho2; clear ho2 hg2))
  rw [rounds_succ]
  go_wp2_with (go_at_call 74; refine (rev1_any g cg (rootF [y]) W2 cg0 (own_frozen HO2.out 0)).mono ?_; rintro e W3 ⟨rfl, c3, hb3⟩)
  go_ret2
  refine ⟨_, rfl, ⟨_, _, rfl, own_cap HO2.out, fun _ => ⟨g, 0, rfl, hgb, fun j u hu => ?_⟩⟩, hb2.out.trans (hb3 _ hgb)⟩
  match j, hu with
  | 0, hu => simp at hu; subst hu; exact c3

end Go.Proofs.YtimoapjhepmehaaGreatDoor

/-
  package statetree: Prove at one row.
-/
namespace Go.Proofs.YtimoapjhepmehaaGreatDoor
open Go.RowKit
attribute [local go_sem ↓] Go.wp_at_zero Go.wp_at_succ

/-- a list of one empty path -/
def PathsAt (W : World) (v : Value) : Prop := ∃ g c A0 c0 ys, v = .slice (some ⟨g, 0, none⟩) 1 c ∧ 1 ≤ c ∧ Blk W g 53 (#[.slice A0 0 c0] ++ ys)
theorem PathsAt.ext {w W : World} {v : Value} (h : PathsAt w v) (k : Below w.heap.size w W) : PathsAt W v := by
  obtain ⟨g, c, A0, c0, ys, h1, h2, h3⟩ := h
  exact ⟨g, c, A0, c0, ys, h1, h2, h3.ext k⟩
/-- a proof of the law's row -/
def RP1 (W : World) (va : Array Value) : Prop := ∃ v6 v7 v8, va = #[.int .i64 0, .int .i64 0, .int .i64 5, .int .i64 5, .int .i64 1, .int .i64 0, v6, v7, v8] ∧ RowsAt W true v6 ∧ PathsAt W v7 ∧ Strs (fun _ => True) W v8 (sums true 16)
theorem RP1.ext {w W : World} {va : Array Value} (h : RP1 w va) (k : Below w.heap.size w W) : RP1 W va := by
  obtain ⟨v6, v7, v8, h1, h2, h3, h4⟩ := h
  exact ⟨v6, v7, v8, h1, h2.ext k, h3.ext k, h4.below k⟩

/-- what is known when the round is over -/
def PrT (w : World) (bp br : Nat) (v8 : Value) (T : World) : Prop := ∃ g1 k1 zs g2 k2 A0 c0 ys, Blk T bp 126 #[.int .i64 0, .int .i64 0, .int .i64 5, .int .i64 5, .int .i64 1, .int .i64 0, .slice (some ⟨g1, 0, none⟩) 1 k1, .slice (some ⟨g2, 0, none⟩) 1 k2, v8] ∧ 1 ≤ k1 ∧ 1 ≤ k2 ∧
  Blk T g1 67 (#[.int .i64 0, .int .i64 5, .int .i64 10, .int .i64 20, .int .i64 30] ++ zs) ∧ Blk T g2 53 (#[.slice A0 0 c0] ++ ys) ∧ Blk T br 126 #[.int .i64 0, .int .i64 0, .int .i64 0, .int .i64 0, .int .i64 0, .int .i64 0, .slice none 0 0, .slice none 0 0, .slice none 0 0] ∧ br < g1 ∧ br < g2 ∧ Strs (fun b => br < b) T v8 (sums true 16) ∧ Below w.heap.size w T
theorem rounds_name {P : Program} {c : Code} {Q : Exit → Act → World → Prop} {n : Nat} {a : Act} {W : World} (F : World → Prop) (hF : F W) (h : ∀ T, F T → Code.rounds P c Q n a T) : Code.rounds P c Q n a W := h W hF
theorem blk_set67 {W : World} {g : Nat} {ty : TypeId} {a0 a1 a2 a3 a4 a5 a6 a7 a8 u v : Value} (h : Blk W g ty #[a0, a1, a2, a3, a4, a5, a6, a7, a8]) : Blk ((W.setCell ⟨g, 6, none⟩ u).setCell ⟨g, 7, none⟩ v) g ty #[a0, a1, a2, a3, a4, a5, u, v, a8] := by
  have h9 := (h.set_ 6 u).set_ 7 v
  simpa using h9
theorem path_info : (Tryz.prog.info? 53).map (fun i => (i.zero, i.size, i.bytes)) = some (some (.slice none 0 0), 1, 24) := by kernel_rfl
theorem prF {X W : World} {bo g bp : Nat} {a b : Value} {zs : Array Value} (h : Blk X bo 168 #[a, b] ∧ Blk X g 67 (#[.int .i64 0, .int .i64 5, .int .i64 10, .int .i64 20, .int .i64 30] ++ zs) ∧ bo ≠ bp ∧ g ≠ bp) (k : Ext2 bp bp X W) :
    W.cell? ⟨bo, 0, none⟩ = some a ∧ W.cell? ⟨g, 0, none⟩ = some (.int .i64 0) ∧ W.cell? ⟨g, 1, none⟩ = some (.int .i64 5) ∧ W.cell? ⟨g, 2, none⟩ = some (.int .i64 10) ∧ W.cell? ⟨g, 3, none⟩ = some (.int .i64 20) ∧ W.cell? ⟨g, 4, none⟩ = some (.int .i64 30) ∧ Ext2 bp bp X W := by
  obtain ⟨r0, r1, r2, r3, r4⟩ := row_cells (h.2.1.ext2 k h.2.2.2 h.2.2.2)
  exact ⟨(h.1.ext2 k h.2.2.1 h.2.2.1).cell 0, r0, r1, r2, r3, r4, k⟩
theorem prG {X W : World} {bp : Nat} {a0 a1 a2 a3 a4 a5 a8 : Value} (h : Blk X bp 126 #[a0, a1, a2, a3, a4, a5, .slice none 0 0, .slice none 0 0, a8]) (k : Below X.heap.size X W) : W.cell? ⟨bp, 6, none⟩ = some (.slice none 0 0) ∧ W.cell? ⟨bp, 7, none⟩ = some (.slice none 0 0) := ⟨(h.ext k).cell 6, (h.ext k).cell 7⟩

set_option maxRecDepth 100000 in
set_option maxHeartbeats 4000000 in
theorem prove1 (gs gm : Nat) (pos : Int) (w : World) (hS : StateIs w true gs gm pos) (hR : RoundOK w) :
    Calls Tryz.prog 49 #[.pointer (some ⟨gs, 0, none⟩), .int .i64 0, .int .i64 0, .int .i64 5, .int .i64 5] w
      fun e w' => ∃ va, e = .returned (.tuple #[.agg va, .int .i64 0]) ∧ RP1 w' va ∧ Below w.heap.size w w' := by
  obtain ⟨ir, hir, hzr0, hzr1, hzr2⟩ := info_parts row_info
  obtain ⟨ip, hip, hzp0, hzp1, hzp2⟩ := info_parts path_info
  have hmf : ∀ (fn : Fn) (first cap : Array Value) (w : World), (Instr.makeFunc fn first cap).run Tryz.prog w = .ok (.func fn first cap) w := fun _ _ _ _ => rfl
  obtain ⟨W0, hW0⟩ : ∃ W0, W0 = (((w.alloc (.cells #[.int .i64 0] 3)).alloc (.cells #[.int .i64 5] 3)).alloc (.cells #[.int .i64 5] 3)).alloc (.cells #[.int .i64 0, .int .i64 0, .int .i64 0, .int .i64 0, .int .i64 0, .int .i64 0, .slice none 0 0, .slice none 0 0, .slice none 0 0] 126) := ⟨_, rfl⟩
  have HE0 := Lib.hid (show Below w.heap.size w W0 by rw [hW0]; exact ext_alloc (ext_alloc (ext_alloc (ext_new _ _) _) _) _)
  have HC0 := Lib.hid (show Blk W0 w.heap.size 3 #[.int .i64 0] by rw [hW0]; exact (((Blk.new _ _ _).alloc _).alloc _).alloc _)
  have HL0 := Lib.hid (show Blk W0 (w.heap.size + 1) 3 #[.int .i64 5] by rw [hW0]; exact ((Blk.new' _ _ _ (by simp)).alloc _).alloc _)
  have HH0 := Lib.hid (show Blk W0 (w.heap.size + 1 + 1) 3 #[.int .i64 5] by rw [hW0]; exact (Blk.new' _ _ _ (by simp)).alloc _)
  have HP0 := Lib.hid (show Blk W0 (w.heap.size + 1 + 1 + 1) 126 #[.int .i64 0, .int .i64 0, .int .i64 0, .int .i64 0, .int .i64 0, .int .i64 0, .slice none 0 0, .slice none 0 0, .slice none 0 0] by rw [hW0]; exact Blk.new' _ _ _ (by simp))
  have HS := Lib.hid hS
  have HR := Lib.hid hR
  have HW0 := Lib.hid hW0
  clear hW0 hS hR
  go_enter Tryz.func49, Tryz.ntmps49
  go_wp2_with (go_at_call 84; refine (existsYes _).mono ?_; rintro e w' ⟨rfl, rfl⟩)
  rw [← HW0.out]
  refine (order1 gs gm pos W0 (HS.out.ext HE0.out)).mono ?_
  rintro e W1 ⟨g, k, zs, A, n, c, rfl, hk, hg, ht, hb1⟩
  have HK1' := Lib.hid hk
  have HG1 := Lib.hid hg
  have HT1 := Lib.hid ht
  have HE1 := Lib.hid (ext_call HE0.out hb1)
  have HC1 := Lib.hid (HC0.out.ext hb1)
  have HL1 := Lib.hid (HL0.out.ext hb1)
  have HH1 := Lib.hid (HH0.out.ext hb1)
  have HP1 := Lib.hid (HP0.out.ext hb1)
  clear hb1 hk hg ht
  go_wp2_with fail
  refine (index_Geq W1.heap.size w.heap.size (w.heap.size + 1) (.slice (some ⟨g, 0, none⟩) 1 k) (.slice A n c) _ (Blk.new _ _ _) (.inr ⟨rfl, g, k, zs, rfl, HK1'.out, HG1.out.alloc _⟩) (HC1.out.alloc _) (HL1.out.alloc _)).mono ?_
  rintro e X ⟨rfl, hbx⟩
  have hEx := ext_call (ext_alloc HE1.out _) hbx
  have HCx := Lib.hid ((HC1.out.alloc _).ext hbx)
  have HLx := Lib.hid ((HL1.out.alloc _).ext hbx)
  have HHx := Lib.hid ((HH1.out.alloc _).ext hbx)
  have HPx := Lib.hid ((HP1.out.alloc _).ext hbx)
  have HOx := Lib.hid ((Blk.new W1 168 #[.slice (some ⟨g, 0, none⟩) 1 k, .slice A n c]).ext hbx)
  have HGx := Lib.hid ((HG1.out.alloc _).ext hbx)
  have HTx := Lib.hid ((HT1.out.below (ext_new _ _)).below hbx)
  have HBo := Lib.hid (show w.heap.size + 1 + 1 + 1 < W1.heap.size from HP1.out.lt)
  have HEx := Lib.hid hEx
  clear hbx hEx HG1 HT1 HC1 HL1 HH1 HP1 HE1 HC0 HL0 HH0 HP0
  generalize W1.heap.size = bo at *
  have o0 := HOx.out.cell 0
  have hmx : max (-1 : Int) 0 = 0 := by decide
  have hmn : min (IntKind.i64.wrap 2) 1 = 1 := by decide
  have HK0 := Lib.hid (show X.cell? ⟨bo, 0, none⟩ = some (.slice (some ⟨g, 0, none⟩) 1 k) ∧ Below X.heap.size X X from ⟨o0, ext_refl X⟩)
  go_wp2
  go_region_held3 (fun w' => w'.cell? ⟨bo, 0, none⟩ = some (.slice (some ⟨g, 0, none⟩) 1 k) ∧ Below X.heap.size X w')
    (first | exact keepC1 HK0.out (ext_refl X).drew | assumption | exact keepC1 (by assumption) (by assumption))
    (first | (go_at_call 86; (with_reducible refine (index_Gtr bo w.heap.size (w.heap.size + 1 + 1) (.slice (some ⟨g, 0, none⟩) 1 k) (.slice A n c) _ ?_ ?_ ?_ ?_).mono ?_); (exact HOx.out.ext (keepC1B (by assumption))); (exact .inr ⟨rfl, g, k, zs, rfl, HK1'.out, HGx.out.ext (keepC1B (by assumption))⟩); (exact HCx.out.ext (keepC1B (by assumption))); (exact HHx.out.ext (keepC1B (by assumption))); rintro e Y ⟨rfl, hb'⟩))
  have HEy := Lib.hid (ext_call HEx.out (undrew hb'))
  have HCy := Lib.hid (HCx.out.ext (undrew hb'))
  have HLy := Lib.hid (HLx.out.ext (undrew hb'))
  have HHy := Lib.hid (HHx.out.ext (undrew hb'))
  have HPy := Lib.hid (HPx.out.ext (undrew hb'))
  have HOy := Lib.hid (HOx.out.ext (undrew hb'))
  have HGy := Lib.hid (HGx.out.ext (undrew hb'))
  have HTy := Lib.hid (HTx.out.below (undrew hb'))
  have HSy := Lib.hid (HS.out.ext HEy.out)
  have HRy := Lib.hid (HR.out.below HEy.out)
  clear hb' o0 HCx HLx HHx HPx HOx HEx HGx HTx HK0
  have k0 := HCy.out.cell 0
  have l0 := HLy.out.cell 0
  have h0 := HHy.out.cell 0
  have o0 := HOy.out.cell 0
  have HK1 := Lib.hid (show Y.cell? ⟨w.heap.size, 0, none⟩ = some (.int .i64 0) ∧ Y.cell? ⟨w.heap.size + 1, 0, none⟩ = some (.int .i64 5) ∧ Y.cell? ⟨w.heap.size + 1 + 1, 0, none⟩ = some (.int .i64 5) ∧ Y.cell? ⟨bo, 0, none⟩ = some (.slice (some ⟨g, 0, none⟩) 1 k) ∧ Below Y.heap.size Y Y from ⟨k0, l0, h0, o0, ext_refl Y⟩)
  go_wp2
  go_region_held3 (fun w' => w'.cell? ⟨w.heap.size, 0, none⟩ = some (.int .i64 0) ∧ w'.cell? ⟨w.heap.size + 1, 0, none⟩ = some (.int .i64 5) ∧ w'.cell? ⟨w.heap.size + 1 + 1, 0, none⟩ = some (.int .i64 5) ∧ w'.cell? ⟨bo, 0, none⟩ = some (.slice (some ⟨g, 0, none⟩) 1 k) ∧ Below Y.heap.size Y w')
    (first | with_reducible assumption | exact keepC4 HK1.out (by repeat (first | with_reducible refine ext_alloc ?_ _ | with_reducible refine Below.drew ?_ | with_reducible assumption | with_reducible exact ext_refl _ | refine ext_set ?_ (Nat.le_refl _) _)))
    (first | (go_at_call 70; (with_reducible refine (sumsAny true gs gm pos _ ?_ ?_).mono ?_); (exact HSy.out.ext (keepC4B (by assumption))); (exact HRy.out.below (keepC4B (by assumption))); rintro e Z ⟨B, m, d, rfl, hs', hb'⟩; have hYZ := ext_call (keepC4B (by assumption)) hb'; try (have hbx := (show Blk Z Y.heap.size 126 #[.int .i64 0, .int .i64 0, .int .i64 0, .int .i64 0, .int .i64 0, .int .i64 0, .slice none 0 0, .slice none 0 0, .slice none 0 0] from ((Blk.new Y _ _).drew).ext hb'); have bx0 := hbx.cell 0; have bf0 := hbx.frozen 0; have bx1 := hbx.cell 1; have bf1 := hbx.frozen 1; have bx2 := hbx.cell 2; have bf2 := hbx.frozen 2; have bx3 := hbx.cell 3; have bf3 := hbx.frozen 3; have bx4 := hbx.cell 4; have bf4 := hbx.frozen 4; have bx5 := hbx.cell 5; have bf5 := hbx.frozen 5; have bx6 := hbx.cell 6; have bf6 := hbx.frozen 6; have bx7 := hbx.cell 7; have bf7 := hbx.frozen 7; have bx8 := hbx.cell 8; have bf8 := hbx.frozen 8; have HBX := Lib.hid hbx; clear hbx)))
  all_goals
    first
    | (generalize hV : (World.setCell (World.setCell (World.setCell (World.setCell (World.setCell (World.setCell (World.setCell (World.setCell (World.setCell Z ⟨Y.heap.size, 0, none⟩ (.int .i64 0)) ⟨Y.heap.size, 1, none⟩ (.int .i64 0)) ⟨Y.heap.size, 2, none⟩ (.int .i64 5)) ⟨Y.heap.size, 3, none⟩ (.int .i64 5)) ⟨Y.heap.size, 4, none⟩ (.int .i64 1)) ⟨Y.heap.size, 5, none⟩ (.int .i64 0)) ⟨Y.heap.size, 6, none⟩ (.slice none 0 0)) ⟨Y.heap.size, 7, none⟩ (.slice none 0 0)) ⟨Y.heap.size, 8, none⟩ (.slice B m d)) = V
       have HPv := Lib.hid (show Blk V Y.heap.size 126 #[.int .i64 0, .int .i64 0, .int .i64 5, .int .i64 5, .int .i64 1, .int .i64 0, .slice none 0 0, .slice none 0 0, .slice B m d] by subst hV; exact blk_set9 HBX.out)
       have HEv := Lib.hid (show Below Y.heap.size Y V by subst hV; exact ext_set9 hYZ (Nat.le_refl _))
       have HSv := Lib.hid (show Strs (fun b => w.heap.size + 1 + 1 + 1 < b ∧ b ≠ Y.heap.size) V (.slice B m d) (sums true 16) by subst hV; exact (hs'.keep (fun k hk _ => heap_set9 (by simp at hk; omega))).mono (fun _ hk _ => by have := HPy.out.lt; simp at hk; omega))
       clear bx0 bf0 bx1 bf1 bx2 bf2 bx3 bf3 bx4 bf4 bx5 bf5 bx6 bf6 bx7 bf7 bx8 bf8 hV HBX hb' hs' hYZ
       generalize hbp : Y.heap.size = bp at HPv HSv ⊢
       have HLe := Lib.hid (show Y.heap.size ≤ bp by omega)
       clear hbp)
    | (generalize hV : World.alloc Z (.cells #[.int .i64 0, .int .i64 0, .int .i64 5, .int .i64 5, .int .i64 1, .int .i64 0, .slice none 0 0, .slice none 0 0, .slice B m d] 126) = V
       have HPv := Lib.hid (show Blk V Z.heap.size 126 #[.int .i64 0, .int .i64 0, .int .i64 5, .int .i64 5, .int .i64 1, .int .i64 0, .slice none 0 0, .slice none 0 0, .slice B m d] by subst hV; exact Blk.new _ _ _)
       have HEv := Lib.hid (show Below Y.heap.size Y V by subst hV; exact ext_alloc hYZ _)
       have HSv := Lib.hid (show Strs (fun b => w.heap.size + 1 + 1 + 1 < b ∧ b ≠ Z.heap.size) V (.slice B m d) (sums true 16) by subst hV; exact (hs'.mono (fun b hk hlt => by have := HPy.out.lt; simp at hk; omega)).below (ext_new _ _))
       have hle := hYZ.size
       clear hV hb' hs' hYZ
       generalize hbp : Z.heap.size = bp at HPv HSv ⊢
       have HLe := Lib.hid (show Y.heap.size ≤ bp by omega)
       clear hbp hle)
  all_goals
    have HRv := Lib.hid (HPy.out.ext HEv.out)
    have HOv := Lib.hid (HOy.out.ext HEv.out)
    have HGv := Lib.hid (HGy.out.ext HEv.out)
    have HTv := Lib.hid (HTy.out.below HEv.out)
    have HEw := Lib.hid (ext_call HEy.out HEv.out)
    have HNe := Lib.hid (show bo ≠ bp ∧ g ≠ bp ∧ w.heap.size + 1 + 1 + 1 ≠ bp by have := HOy.out.lt; have := HGy.out.lt; have := HPy.out.lt; have := HLe.out; omega)
    have HLw := Lib.hid (show w.heap.size ≤ bp by have := HPy.out.lt; have := HLe.out; omega)
    clear HLe k0 l0 h0 o0 HK1 HCy HLy HHy HPy HOy HSy HRy HEy HEv HGy HTy hmx hmn
    have o0 := HOv.out.cell 0; have o1 := HOv.out.cell 1
    go_wp2
    refine wp_loop_rounds 2 ?_
    rw [rounds_succ]
    go_wp2_with fail
    refine (proof1_any (fun _ => True) (.slice A n c) rowEnc _ HTv.out).mono ?_
    rintro e U ⟨pv, rfl, hp, hbu⟩
    obtain ⟨A0, c0, hpv, _, _⟩ := hp
    obtain rfl : pv = .slice A0 0 c0 := hpv
    have HPu := Lib.hid (HPv.out.ext hbu)
    have HRu := Lib.hid (HRv.out.ext hbu)
    have HOu := Lib.hid (HOv.out.ext hbu)
    have HGu := Lib.hid (HGv.out.ext hbu)
    have HSu := Lib.hid (HSv.out.below hbu)
    have HEu := Lib.hid (ext_call HEw.out hbu)
    clear hbu HPv HRv HOv HGv HSv HEw HTv o0 o1
    have HSX := Lib.hid (And.intro HOu.out (And.intro HGu.out (And.intro HNe.out.1 HNe.out.2.1)))
    have p6 := HPu.out.cell 6
    have p7 := HPu.out.cell 7
    have o0 := HOu.out.cell 0; have o1 := HOu.out.cell 1
    obtain ⟨g0, g1, g2, g3, g4⟩ := row_cells HGu.out
    have pf6 := HPu.out.frozen 6
    have pf7 := HPu.out.frozen 7
    have hpl := HPu.out.lt
    have hol := HOu.out.lt
    have hgl := HGu.out.lt
    have hpl1 : bp < U.heap.size + 1 := by omega
    have hpl2 : bp < U.heap.size + 1 + 1 := by omega
    have hpl3 : bp < U.heap.size + 1 + 1 + 1 := by omega
    go_wp2
    refine wp_region_L (fun w' => w'.cell? ⟨bo, 0, none⟩ = some (.slice (some ⟨g, 0, none⟩) 1 k) ∧ w'.cell? ⟨g, 0, none⟩ = some (.int .i64 0) ∧ w'.cell? ⟨g, 1, none⟩ = some (.int .i64 5) ∧ w'.cell? ⟨g, 2, none⟩ = some (.int .i64 10) ∧ w'.cell? ⟨g, 3, none⟩ = some (.int .i64 20) ∧ w'.cell? ⟨g, 4, none⟩ = some (.int .i64 30) ∧ Ext2 bp bp U w')
      (fun w' => w'.cell? ⟨bp, 6, none⟩ = some (.slice none 0 0) ∧ w'.cell? ⟨bp, 7, none⟩ = some (.slice none 0 0)) [15, 17] (by kernel_rfl) ?_
    refine takeF 0 (v := ?_) rfl (by kernel_rfl) (by kernel_rfl) (by kernel_rfl) (by kernel_rfl) (fun _ _ _ h => h) (Or.inl ⟨by rfl, ?_⟩) (prF HSX.out (by repeat (first | with_reducible refine Ext2.alloc ?_ _ | with_reducible refine Ext2.drew1 ?_ | with_reducible refine Ext2.setA ?_ _ _ | with_reducible assumption | with_reducible exact Ext2.refl _ _ _))) (fun _ => (prG HPu.out (by repeat (first | with_reducible refine ext_alloc ?_ _ | with_reducible refine Below.drew ?_ | with_reducible assumption | with_reducible exact ext_refl _)))) ?_
    rotate_left 1
    · (rintro w' ⟨f0, f1, f2, f3, f4, f5, _⟩; go_simp; with_reducible rfl)
    refine takeG 1 (v := ?_) rfl (by kernel_rfl) (by kernel_rfl) (by kernel_rfl) (by kernel_rfl) (by kernel_rfl) (by kernel_rfl) (fun _ _ _ h => h) (Or.inl ⟨by rfl, ?_⟩) (prF HSX.out (by repeat (first | with_reducible refine Ext2.alloc ?_ _ | with_reducible refine Ext2.drew1 ?_ | with_reducible refine Ext2.setA ?_ _ _ | with_reducible assumption | with_reducible exact Ext2.refl _ _ _))) (prG HPu.out (by repeat (first | with_reducible refine ext_alloc ?_ _ | with_reducible refine Below.drew ?_ | with_reducible assumption | with_reducible exact ext_refl _))) ?_
    rotate_left 1
    · (rintro w' ⟨f0, f1⟩; go_simp; with_reducible rfl)
    refine takeF 2 (v := ?_) rfl (by kernel_rfl) (by kernel_rfl) (by kernel_rfl) (by kernel_rfl) (fun _ _ _ h => h) (Or.inl ⟨by rfl, ?_⟩) (prF HSX.out (by repeat (first | with_reducible refine Ext2.alloc ?_ _ | with_reducible refine Ext2.drew1 ?_ | with_reducible refine Ext2.setA ?_ _ _ | with_reducible assumption | with_reducible exact Ext2.refl _ _ _))) (fun _ => (prG HPu.out (by repeat (first | with_reducible refine ext_alloc ?_ _ | with_reducible refine Below.drew ?_ | with_reducible assumption | with_reducible exact ext_refl _)))) ?_
    rotate_left 1
    · (rintro w' ⟨f0, f1, f2, f3, f4, f5, _⟩; go_simp; with_reducible rfl)
    refine takeF 3 (v := ?_) rfl (by kernel_rfl) (by kernel_rfl) (by kernel_rfl) (by kernel_rfl) (fun _ _ _ h => h) (Or.inl ⟨by rfl, ?_⟩) (prF HSX.out (by repeat (first | with_reducible refine Ext2.alloc ?_ _ | with_reducible refine Ext2.drew1 ?_ | with_reducible refine Ext2.setA ?_ _ _ | with_reducible assumption | with_reducible exact Ext2.refl _ _ _))) (fun _ => (prG HPu.out (by repeat (first | with_reducible refine ext_alloc ?_ _ | with_reducible refine Below.drew ?_ | with_reducible assumption | with_reducible exact ext_refl _)))) ?_
    rotate_left 1
    · (rintro w' ⟨f0, f1, f2, f3, f4, f5, _⟩; go_simp; with_reducible rfl)
    refine takeF 4 (v := ?_) rfl (by kernel_rfl) (by kernel_rfl) (by kernel_rfl) (by kernel_rfl) (fun _ _ _ h => h) (Or.inl ⟨by rfl, ?_⟩) (prF HSX.out (by repeat (first | with_reducible refine Ext2.alloc ?_ _ | with_reducible refine Ext2.drew1 ?_ | with_reducible refine Ext2.setA ?_ _ _ | with_reducible assumption | with_reducible exact Ext2.refl _ _ _))) (fun _ => (prG HPu.out (by repeat (first | with_reducible refine ext_alloc ?_ _ | with_reducible refine Below.drew ?_ | with_reducible assumption | with_reducible exact ext_refl _)))) ?_
    rotate_left 1
    · (rintro w' ⟨f0, f1, f2, f3, f4, f5, _⟩; go_simp; with_reducible rfl)
    refine takeF 5 (v := ?_) rfl (by kernel_rfl) (by kernel_rfl) (by kernel_rfl) (by kernel_rfl) (fun _ _ _ h => h) (Or.inl ⟨by rfl, ?_⟩) (prF HSX.out (by repeat (first | with_reducible refine Ext2.alloc ?_ _ | with_reducible refine Ext2.drew1 ?_ | with_reducible refine Ext2.setA ?_ _ _ | with_reducible assumption | with_reducible exact Ext2.refl _ _ _))) (fun _ => (prG HPu.out (by repeat (first | with_reducible refine ext_alloc ?_ _ | with_reducible refine Below.drew ?_ | with_reducible assumption | with_reducible exact ext_refl _)))) ?_
    rotate_left 1
    · (rintro w' ⟨f0, f1, f2, f3, f4, f5, _⟩; go_simp; with_reducible rfl)
    refine takeF 6 (v := ?_) rfl (by kernel_rfl) (by kernel_rfl) (by kernel_rfl) (by kernel_rfl) (fun _ _ _ h => h) (Or.inl ⟨by rfl, ?_⟩) (prF HSX.out (by repeat (first | with_reducible refine Ext2.alloc ?_ _ | with_reducible refine Ext2.drew1 ?_ | with_reducible refine Ext2.setA ?_ _ _ | with_reducible assumption | with_reducible exact Ext2.refl _ _ _))) (fun _ => (prG HPu.out (by repeat (first | with_reducible refine ext_alloc ?_ _ | with_reducible refine Below.drew ?_ | with_reducible assumption | with_reducible exact ext_refl _)))) ?_
    rotate_left 1
    · (rintro w' ⟨f0, f1, f2, f3, f4, f5, _⟩; go_simp; with_reducible rfl)
    refine takeF 9 (v := ?_) rfl (by kernel_rfl) (by kernel_rfl) (by kernel_rfl) (by kernel_rfl) (fun _ _ _ h => h) (Or.inl ⟨by rfl, ?_⟩) (prF HSX.out (by repeat (first | with_reducible refine Ext2.alloc ?_ _ | with_reducible refine Ext2.drew1 ?_ | with_reducible refine Ext2.setA ?_ _ _ | with_reducible assumption | with_reducible exact Ext2.refl _ _ _))) (fun _ => (prG HPu.out (by repeat (first | with_reducible refine ext_alloc ?_ _ | with_reducible refine Below.drew ?_ | with_reducible assumption | with_reducible exact ext_refl _)))) ?_
    rotate_left 1
    · (rintro w' ⟨f0, f1, f2, f3, f4, f5, _⟩; go_simp; with_reducible rfl)
    refine takeG 10 (v := ?_) rfl (by kernel_rfl) (by kernel_rfl) (by kernel_rfl) (by kernel_rfl) (by kernel_rfl) (by kernel_rfl) (fun _ _ _ h => h) (Or.inl ⟨by rfl, ?_⟩) (prF HSX.out (by repeat (first | with_reducible refine Ext2.alloc ?_ _ | with_reducible refine Ext2.drew1 ?_ | with_reducible refine Ext2.setA ?_ _ _ | with_reducible assumption | with_reducible exact Ext2.refl _ _ _))) (prG HPu.out (by repeat (first | with_reducible refine ext_alloc ?_ _ | with_reducible refine Below.drew ?_ | with_reducible assumption | with_reducible exact ext_refl _))) ?_
    rotate_left 1
    · (rintro w' ⟨f0, f1⟩; go_simp; with_reducible rfl)
    refine takeF 11 (v := ?_) rfl (by kernel_rfl) (by kernel_rfl) (by kernel_rfl) (by kernel_rfl) (fun _ _ _ h => h) (Or.inl ⟨by rfl, ?_⟩) (prF HSX.out (by repeat (first | with_reducible refine Ext2.alloc ?_ _ | with_reducible refine Ext2.drew1 ?_ | with_reducible refine Ext2.setA ?_ _ _ | with_reducible assumption | with_reducible exact Ext2.refl _ _ _))) (fun _ => (prG HPu.out (by repeat (first | with_reducible refine ext_alloc ?_ _ | with_reducible refine Below.drew ?_ | with_reducible assumption | with_reducible exact ext_refl _)))) ?_
    rotate_left 1
    · (rintro w' ⟨f0, f1, f2, f3, f4, f5, _⟩; go_simp; with_reducible rfl)
    refine allL [7, 12] (by kernel_rfl) (by simp) ?_
    simp only [List.forall_mem_cons, List.not_mem_nil, false_implies, implies_true, and_true]
    refine ⟨?_, ?_⟩
    · refine stepL rfl (by rfl) (fun K hK => ?_)
      go_simp
      refine hK _ _ ⟨⟨(prF HSX.out (by repeat (first | with_reducible refine Ext2.alloc ?_ _ | with_reducible refine Ext2.drew1 ?_ | with_reducible refine Ext2.setA ?_ _ _ | with_reducible assumption | with_reducible exact Ext2.refl _ _ _))), fun _ => (prG HPu.out (by repeat (first | with_reducible refine ext_alloc ?_ _ | with_reducible refine Below.drew ?_ | with_reducible assumption | with_reducible exact ext_refl _)))⟩, ?_⟩
      clear hK K
      refine allL [8, 12] (by kernel_rfl) (by simp) ?_
      simp only [List.forall_mem_cons, List.not_mem_nil, false_implies, implies_true, and_true]
      refine ⟨?_, ?_⟩
      · refine stepL rfl (by rfl) (fun K hK => ?_)
        go_simp
        refine hK _ _ ⟨⟨(prF HSX.out (by repeat (first | with_reducible refine Ext2.alloc ?_ _ | with_reducible refine Ext2.drew1 ?_ | with_reducible refine Ext2.setA ?_ _ _ | with_reducible assumption | with_reducible exact Ext2.refl _ _ _))), fun _ => (prG HPu.out (by repeat (first | with_reducible refine ext_alloc ?_ _ | with_reducible refine Below.drew ?_ | with_reducible assumption | with_reducible exact ext_refl _)))⟩, ?_⟩
        clear hK K
        refine takeF 14 (v := ?_) rfl (by kernel_rfl) (by kernel_rfl) (by kernel_rfl) (by kernel_rfl) (fun _ _ _ h => h) (Or.inl ⟨by rfl, ?_⟩) (prF HSX.out (by repeat (first | with_reducible refine Ext2.alloc ?_ _ | with_reducible refine Ext2.drew1 ?_ | with_reducible refine Ext2.setA ?_ _ _ | with_reducible assumption | with_reducible exact Ext2.refl _ _ _))) (fun _ => (prG HPu.out (by repeat (first | with_reducible refine ext_alloc ?_ _ | with_reducible refine Below.drew ?_ | with_reducible assumption | with_reducible exact ext_refl _)))) ?_
        rotate_left 1
        · (rintro w' ⟨f0, f1, f2, f3, f4, f5, _⟩; go_simp; with_reducible rfl)
        refine allL [12] (by kernel_rfl) (by simp) ?_
        simp only [List.forall_mem_cons, List.not_mem_nil, false_implies, implies_true, and_true]
        refine stepL rfl (by rfl) (fun K hK => ?_)
        go_simp
        refine hK _ _ ⟨⟨(prF HSX.out (by repeat (first | with_reducible refine Ext2.alloc ?_ _ | with_reducible refine Ext2.drew1 ?_ | with_reducible refine Ext2.setA ?_ _ _ | with_reducible assumption | with_reducible exact Ext2.refl _ _ _))), fun _ => (prG HPu.out (by repeat (first | with_reducible refine ext_alloc ?_ _ | with_reducible refine Below.drew ?_ | with_reducible assumption | with_reducible exact ext_refl _)))⟩, ?_⟩
        clear hK K
        refine allL [13] (by kernel_rfl) (by simp) ?_
        simp only [List.forall_mem_cons, List.not_mem_nil, false_implies, implies_true, and_true]
        refine stepL rfl (by rfl) (fun K hK => ?_)
        go_simp
        refine hK _ _ ⟨⟨(prF HSX.out (by repeat (first | with_reducible refine Ext2.alloc ?_ _ | with_reducible refine Ext2.drew1 ?_ | with_reducible refine Ext2.setA ?_ _ _ | with_reducible assumption | with_reducible exact Ext2.refl _ _ _))), fun _ => (prG HPu.out (by repeat (first | with_reducible refine ext_alloc ?_ _ | with_reducible refine Below.drew ?_ | with_reducible assumption | with_reducible exact ext_refl _)))⟩, ?_⟩
        clear hK K
        refine allL [15] (by kernel_rfl) (by simp) ?_
        simp only [List.forall_mem_cons, List.not_mem_nil, false_implies, implies_true, and_true]
        refine stepL rfl (by rfl) (fun K hK => ?_)
        go_simp
        refine hK _ _ ⟨⟨(prF HSX.out (by repeat (first | with_reducible refine Ext2.alloc ?_ _ | with_reducible refine Ext2.drew1 ?_ | with_reducible refine Ext2.setA ?_ _ _ | with_reducible assumption | with_reducible exact Ext2.refl _ _ _))), fun h => absurd h (by decide)⟩, ?_⟩
        clear hK K
        refine takeF 16 (v := ?_) rfl (by kernel_rfl) (by kernel_rfl) (by kernel_rfl) (by kernel_rfl) (fun _ _ _ h => h) (Or.inl ⟨by rfl, ?_⟩) (prF HSX.out (by repeat (first | with_reducible refine Ext2.alloc ?_ _ | with_reducible refine Ext2.drew1 ?_ | with_reducible refine Ext2.setA ?_ _ _ | with_reducible assumption | with_reducible exact Ext2.refl _ _ _))) (fun h => absurd h (by decide)) ?_
        rotate_left 1
        · (rintro w' ⟨f0, f1, f2, f3, f4, f5, _⟩; go_simp; with_reducible rfl)
        refine allL [17] (by kernel_rfl) (by simp) ?_
        simp only [List.forall_mem_cons, List.not_mem_nil, false_implies, implies_true, and_true]
        refine stepL rfl (by rfl) (fun K hK => ?_)
        go_simp
        refine hK _ _ ⟨⟨(prF HSX.out (by repeat (first | with_reducible refine Ext2.alloc ?_ _ | with_reducible refine Ext2.drew1 ?_ | with_reducible refine Ext2.setA ?_ _ _ | with_reducible assumption | with_reducible exact Ext2.refl _ _ _))), fun h => absurd h (by decide)⟩, ?_⟩
        clear hK K
        refine doneL (by kernel_rfl) ?_ _
        go_wp2
        refine rounds_name (PrT w bp (w.heap.size + 1 + 1 + 1) (.slice B m d)) ?_ ?_
        · unfold PrT
          repeat apply Exists.intro
          refine ⟨?_, ?_, ?_, ?_, ?_, ?_, ?_, ?_, ?_, ?_⟩
          · (repeat (first | with_reducible refine Blk.drew ?_ | with_reducible refine Blk.alloc ?_ _)); exact blk_set67 HPu.out
          · (first | exact grownCap_ge U 1 0 _ | exact grownCap_ge U.drew 1 0 _ | exact grownCap_ge U.drew.drew 1 0 _)
          · (first | exact grownCap_ge U 1 0 _ | exact grownCap_ge U.drew 1 0 _ | exact grownCap_ge U.drew.drew 1 0 _)
          · (repeat (first | with_reducible exact Blk.new' _ _ _ (by simp) | with_reducible refine Blk.drew ?_ | with_reducible refine Blk.alloc ?_ _))
          · (repeat (first | with_reducible exact Blk.new' _ _ _ (by simp) | with_reducible refine Blk.drew ?_ | with_reducible refine Blk.alloc ?_ _))
          · (repeat (first | with_reducible refine Blk.drew ?_ | with_reducible refine Blk.alloc ?_ _)); exact (HRu.out.far (p := ⟨bp, 6, none⟩) HNe.out.2.2 _).far (p := ⟨bp, 7, none⟩) HNe.out.2.2 _
          · (have := HRu.out.lt; omega)
          · (have := HRu.out.lt; omega)
          · refine (HSu.out.keep (fun j hj hlt => Ext2.block (a := bp) (b := bp) (by repeat (first | with_reducible refine Ext2.alloc ?_ _ | with_reducible refine Ext2.drew1 ?_ | with_reducible refine Ext2.setA ?_ _ _ | with_reducible assumption | with_reducible exact Ext2.refl _ _ _)) j hlt hj.2 hj.2)).mono (fun _ hj _ => hj.1)
          · exact Ext2.below HEu.out HLw.out HLw.out (by repeat (first | with_reducible refine Ext2.alloc ?_ _ | with_reducible refine Ext2.drew1 ?_ | with_reducible refine Ext2.setA ?_ _ _ | with_reducible assumption | with_reducible exact Ext2.refl _ _ _))
        intro T hT
        clear p6 p7 o0 o1 g0 g1 g2 g3 g4 pf6 pf7 hpl hol hgl hpl1 hpl2 hpl3 HSX HPu HRu HOu HGu HSu HEu HNe HLw hir hzr0 hzr1 hzr2 hip hzp0 hzp1 hzp2
        obtain ⟨g1, k1, zs1, g2, k2, A1, c1, ys, hp, hk1, hk2, hr1, hr2, hrb, hl1, hl2, hst, hbe⟩ := hT
        have HK := Lib.hid (And.intro hk1 (And.intro hk2 (And.intro hr1 (And.intro hr2 (And.intro hl1 (And.intro hl2 (And.intro hst hbe)))))))
        have HRb := Lib.hid hrb
        have q0 := hp.cell 0; have q1 := hp.cell 1; have q2 := hp.cell 2; have q3 := hp.cell 3; have q4 := hp.cell 4; have q5 := hp.cell 5; have q6 := hp.cell 6; have q7 := hp.cell 7; have q8 := hp.cell 8
        have r0 := hrb.cell 0; have r1 := hrb.cell 1; have r2 := hrb.cell 2; have r3 := hrb.cell 3; have r4 := hrb.cell 4; have r5 := hrb.cell 5; have r6 := hrb.cell 6; have r7 := hrb.cell 7; have r8 := hrb.cell 8
        have f0 := hrb.frozen 0; have f1 := hrb.frozen 1; have f2 := hrb.frozen 2; have f3 := hrb.frozen 3; have f4 := hrb.frozen 4; have f5 := hrb.frozen 5; have f6 := hrb.frozen 6; have f7 := hrb.frozen 7; have f8 := hrb.frozen 8
        clear hp hk1 hk2 hr1 hr2 hrb hl1 hl2 hst hbe
        rw [rounds_succ]
        go_wp2
        have hBf := blk_set9 (u0 := .int .i64 0) (u1 := .int .i64 0) (u2 := .int .i64 5) (u3 := .int .i64 5) (u4 := .int .i64 1) (u5 := .int .i64 0) (u6 := .slice (some ⟨g1, 0, none⟩) 1 k1) (u7 := .slice (some ⟨g2, 0, none⟩) 1 k2) (u8 := .slice B m d) HRb.out
        have y0 := hBf.cell 0; have y1 := hBf.cell 1; have y2 := hBf.cell 2; have y3 := hBf.cell 3; have y4 := hBf.cell 4; have y5 := hBf.cell 5; have y6 := hBf.cell 6; have y7 := hBf.cell 7; have y8 := hBf.cell 8
        refine bodyPost_ret (v := .tuple #[.agg #[.int .i64 0, .int .i64 0, .int .i64 5, .int .i64 5, .int .i64 1, .int .i64 0, .slice (some ⟨g1, 0, none⟩) 1 k1, .slice (some ⟨g2, 0, none⟩) 1 k2, .slice B m d], .int .i64 0]) (by simp [results, Tryz.results49, go_sem, y0, y1, y2, y3, y4, y5, y6, y7, y8]) rfl ⟨_, rfl, ⟨_, _, _, rfl, .inr ⟨rfl, g1, k1, zs1, rfl, HK.out.1, ?_⟩, ⟨g2, k2, A1, c1, ys, rfl, HK.out.2.1, ?_⟩, ?_⟩, ?_⟩
        · exact (heap_set9 (by have := HK.out.2.2.2.2.1; omega)).trans HK.out.2.2.1
        · exact (heap_set9 (by have := HK.out.2.2.2.2.2.1; omega)).trans HK.out.2.2.2.1
        · exact (HK.out.2.2.2.2.2.2.1.keep (fun j hj _ => heap_set9 (by omega))).mono (fun _ _ _ => trivial)
        · exact ext_set9 HK.out.2.2.2.2.2.2.2 (by omega)
      · refine stepL rfl (by rfl) (fun K hK => ?_)
        go_simp
        refine hK _ _ ⟨⟨(prF HSX.out (by repeat (first | with_reducible refine Ext2.alloc ?_ _ | with_reducible refine Ext2.drew1 ?_ | with_reducible refine Ext2.setA ?_ _ _ | with_reducible assumption | with_reducible exact Ext2.refl _ _ _))), fun _ => (prG HPu.out (by repeat (first | with_reducible refine ext_alloc ?_ _ | with_reducible refine Below.drew ?_ | with_reducible assumption | with_reducible exact ext_refl _)))⟩, ?_⟩
        clear hK K
        refine allL [8] (by kernel_rfl) (by simp) ?_
        simp only [List.forall_mem_cons, List.not_mem_nil, false_implies, implies_true, and_true]
        refine stepL rfl (by rfl) (fun K hK => ?_)
        go_simp
        refine hK _ _ ⟨⟨(prF HSX.out (by repeat (first | with_reducible refine Ext2.alloc ?_ _ | with_reducible refine Ext2.drew1 ?_ | with_reducible refine Ext2.setA ?_ _ _ | with_reducible assumption | with_reducible exact Ext2.refl _ _ _))), fun _ => (prG HPu.out (by repeat (first | with_reducible refine ext_alloc ?_ _ | with_reducible refine Below.drew ?_ | with_reducible assumption | with_reducible exact ext_refl _)))⟩, ?_⟩
        clear hK K
        refine takeF 14 (v := ?_) rfl (by kernel_rfl) (by kernel_rfl) (by kernel_rfl) (by kernel_rfl) (fun _ _ _ h => h) (Or.inl ⟨by rfl, ?_⟩) (prF HSX.out (by repeat (first | with_reducible refine Ext2.alloc ?_ _ | with_reducible refine Ext2.drew1 ?_ | with_reducible refine Ext2.setA ?_ _ _ | with_reducible assumption | with_reducible exact Ext2.refl _ _ _))) (fun _ => (prG HPu.out (by repeat (first | with_reducible refine ext_alloc ?_ _ | with_reducible refine Below.drew ?_ | with_reducible assumption | with_reducible exact ext_refl _)))) ?_
        rotate_left 1
        · (rintro w' ⟨f0, f1, f2, f3, f4, f5, _⟩; go_simp; with_reducible rfl)
        refine allL [13] (by kernel_rfl) (by simp) ?_
        simp only [List.forall_mem_cons, List.not_mem_nil, false_implies, implies_true, and_true]
        refine stepL rfl (by rfl) (fun K hK => ?_)
        go_simp
        refine hK _ _ ⟨⟨(prF HSX.out (by repeat (first | with_reducible refine Ext2.alloc ?_ _ | with_reducible refine Ext2.drew1 ?_ | with_reducible refine Ext2.setA ?_ _ _ | with_reducible assumption | with_reducible exact Ext2.refl _ _ _))), fun _ => (prG HPu.out (by repeat (first | with_reducible refine ext_alloc ?_ _ | with_reducible refine Below.drew ?_ | with_reducible assumption | with_reducible exact ext_refl _)))⟩, ?_⟩
        clear hK K
        refine allL [15] (by kernel_rfl) (by simp) ?_
        simp only [List.forall_mem_cons, List.not_mem_nil, false_implies, implies_true, and_true]
        refine stepL rfl (by rfl) (fun K hK => ?_)
        go_simp
        refine hK _ _ ⟨⟨(prF HSX.out (by repeat (first | with_reducible refine Ext2.alloc ?_ _ | with_reducible refine Ext2.drew1 ?_ | with_reducible refine Ext2.setA ?_ _ _ | with_reducible assumption | with_reducible exact Ext2.refl _ _ _))), fun h => absurd h (by decide)⟩, ?_⟩
        clear hK K
        refine takeF 16 (v := ?_) rfl (by kernel_rfl) (by kernel_rfl) (by kernel_rfl) (by kernel_rfl) (fun _ _ _ h => h) (Or.inl ⟨by rfl, ?_⟩) (prF HSX.out (by repeat (first | with_reducible refine Ext2.alloc ?_ _ | with_reducible refine Ext2.drew1 ?_ | with_reducible refine Ext2.setA ?_ _ _ | with_reducible assumption | with_reducible exact Ext2.refl _ _ _))) (fun h => absurd h (by decide)) ?_
        rotate_left 1
        · (rintro w' ⟨f0, f1, f2, f3, f4, f5, _⟩; go_simp; with_reducible rfl)
        refine allL [17] (by kernel_rfl) (by simp) ?_
        simp only [List.forall_mem_cons, List.not_mem_nil, false_implies, implies_true, and_true]
        refine stepL rfl (by rfl) (fun K hK => ?_)
        go_simp
        refine hK _ _ ⟨⟨(prF HSX.out (by repeat (first | with_reducible refine Ext2.alloc ?_ _ | with_reducible refine Ext2.drew1 ?_ | with_reducible refine Ext2.setA ?_ _ _ | with_reducible assumption | with_reducible exact Ext2.refl _ _ _))), fun h => absurd h (by decide)⟩, ?_⟩
        clear hK K
        refine doneL (by kernel_rfl) ?_ _
        go_wp2
        refine rounds_name (PrT w bp (w.heap.size + 1 + 1 + 1) (.slice B m d)) ?_ ?_
        · unfold PrT
          repeat apply Exists.intro
          refine ⟨?_, ?_, ?_, ?_, ?_, ?_, ?_, ?_, ?_, ?_⟩
          · (repeat (first | with_reducible refine Blk.drew ?_ | with_reducible refine Blk.alloc ?_ _)); exact blk_set67 HPu.out
          · (first | exact grownCap_ge U 1 0 _ | exact grownCap_ge U.drew 1 0 _ | exact grownCap_ge U.drew.drew 1 0 _)
          · (first | exact grownCap_ge U 1 0 _ | exact grownCap_ge U.drew 1 0 _ | exact grownCap_ge U.drew.drew 1 0 _)
          · (repeat (first | with_reducible exact Blk.new' _ _ _ (by simp) | with_reducible refine Blk.drew ?_ | with_reducible refine Blk.alloc ?_ _))
          · (repeat (first | with_reducible exact Blk.new' _ _ _ (by simp) | with_reducible refine Blk.drew ?_ | with_reducible refine Blk.alloc ?_ _))
          · (repeat (first | with_reducible refine Blk.drew ?_ | with_reducible refine Blk.alloc ?_ _)); exact (HRu.out.far (p := ⟨bp, 6, none⟩) HNe.out.2.2 _).far (p := ⟨bp, 7, none⟩) HNe.out.2.2 _
          · (have := HRu.out.lt; omega)
          · (have := HRu.out.lt; omega)
          · refine (HSu.out.keep (fun j hj hlt => Ext2.block (a := bp) (b := bp) (by repeat (first | with_reducible refine Ext2.alloc ?_ _ | with_reducible refine Ext2.drew1 ?_ | with_reducible refine Ext2.setA ?_ _ _ | with_reducible assumption | with_reducible exact Ext2.refl _ _ _)) j hlt hj.2 hj.2)).mono (fun _ hj _ => hj.1)
          · exact Ext2.below HEu.out HLw.out HLw.out (by repeat (first | with_reducible refine Ext2.alloc ?_ _ | with_reducible refine Ext2.drew1 ?_ | with_reducible refine Ext2.setA ?_ _ _ | with_reducible assumption | with_reducible exact Ext2.refl _ _ _))
        intro T hT
        clear p6 p7 o0 o1 g0 g1 g2 g3 g4 pf6 pf7 hpl hol hgl hpl1 hpl2 hpl3 HSX HPu HRu HOu HGu HSu HEu HNe HLw hir hzr0 hzr1 hzr2 hip hzp0 hzp1 hzp2
        obtain ⟨g1, k1, zs1, g2, k2, A1, c1, ys, hp, hk1, hk2, hr1, hr2, hrb, hl1, hl2, hst, hbe⟩ := hT
        have HK := Lib.hid (And.intro hk1 (And.intro hk2 (And.intro hr1 (And.intro hr2 (And.intro hl1 (And.intro hl2 (And.intro hst hbe)))))))
        have HRb := Lib.hid hrb
        have q0 := hp.cell 0; have q1 := hp.cell 1; have q2 := hp.cell 2; have q3 := hp.cell 3; have q4 := hp.cell 4; have q5 := hp.cell 5; have q6 := hp.cell 6; have q7 := hp.cell 7; have q8 := hp.cell 8
        have r0 := hrb.cell 0; have r1 := hrb.cell 1; have r2 := hrb.cell 2; have r3 := hrb.cell 3; have r4 := hrb.cell 4; have r5 := hrb.cell 5; have r6 := hrb.cell 6; have r7 := hrb.cell 7; have r8 := hrb.cell 8
        have f0 := hrb.frozen 0; have f1 := hrb.frozen 1; have f2 := hrb.frozen 2; have f3 := hrb.frozen 3; have f4 := hrb.frozen 4; have f5 := hrb.frozen 5; have f6 := hrb.frozen 6; have f7 := hrb.frozen 7; have f8 := hrb.frozen 8
        clear hp hk1 hk2 hr1 hr2 hrb hl1 hl2 hst hbe
        rw [rounds_succ]
        go_wp2
        have hBf := blk_set9 (u0 := .int .i64 0) (u1 := .int .i64 0) (u2 := .int .i64 5) (u3 := .int .i64 5) (u4 := .int .i64 1) (u5 := .int .i64 0) (u6 := .slice (some ⟨g1, 0, none⟩) 1 k1) (u7 := .slice (some ⟨g2, 0, none⟩) 1 k2) (u8 := .slice B m d) HRb.out
        have y0 := hBf.cell 0; have y1 := hBf.cell 1; have y2 := hBf.cell 2; have y3 := hBf.cell 3; have y4 := hBf.cell 4; have y5 := hBf.cell 5; have y6 := hBf.cell 6; have y7 := hBf.cell 7; have y8 := hBf.cell 8
        refine bodyPost_ret (v := .tuple #[.agg #[.int .i64 0, .int .i64 0, .int .i64 5, .int .i64 5, .int .i64 1, .int .i64 0, .slice (some ⟨g1, 0, none⟩) 1 k1, .slice (some ⟨g2, 0, none⟩) 1 k2, .slice B m d], .int .i64 0]) (by simp [results, Tryz.results49, go_sem, y0, y1, y2, y3, y4, y5, y6, y7, y8]) rfl ⟨_, rfl, ⟨_, _, _, rfl, .inr ⟨rfl, g1, k1, zs1, rfl, HK.out.1, ?_⟩, ⟨g2, k2, A1, c1, ys, rfl, HK.out.2.1, ?_⟩, ?_⟩, ?_⟩
        · exact (heap_set9 (by have := HK.out.2.2.2.2.1; omega)).trans HK.out.2.2.1
        · exact (heap_set9 (by have := HK.out.2.2.2.2.2.1; omega)).trans HK.out.2.2.2.1
        · exact (HK.out.2.2.2.2.2.2.1.keep (fun j hj _ => heap_set9 (by omega))).mono (fun _ _ _ => trivial)
        · exact ext_set9 HK.out.2.2.2.2.2.2.2 (by omega)
    · refine stepL rfl (by rfl) (fun K hK => ?_)
      go_simp
      refine hK _ _ ⟨⟨(prF HSX.out (by repeat (first | with_reducible refine Ext2.alloc ?_ _ | with_reducible refine Ext2.drew1 ?_ | with_reducible refine Ext2.setA ?_ _ _ | with_reducible assumption | with_reducible exact Ext2.refl _ _ _))), fun _ => (prG HPu.out (by repeat (first | with_reducible refine ext_alloc ?_ _ | with_reducible refine Below.drew ?_ | with_reducible assumption | with_reducible exact ext_refl _)))⟩, ?_⟩
      clear hK K
      refine allL [7] (by kernel_rfl) (by simp) ?_
      simp only [List.forall_mem_cons, List.not_mem_nil, false_implies, implies_true, and_true]
      refine stepL rfl (by rfl) (fun K hK => ?_)
      go_simp
      refine hK _ _ ⟨⟨(prF HSX.out (by repeat (first | with_reducible refine Ext2.alloc ?_ _ | with_reducible refine Ext2.drew1 ?_ | with_reducible refine Ext2.setA ?_ _ _ | with_reducible assumption | with_reducible exact Ext2.refl _ _ _))), fun _ => (prG HPu.out (by repeat (first | with_reducible refine ext_alloc ?_ _ | with_reducible refine Below.drew ?_ | with_reducible assumption | with_reducible exact ext_refl _)))⟩, ?_⟩
      clear hK K
      refine allL [8] (by kernel_rfl) (by simp) ?_
      simp only [List.forall_mem_cons, List.not_mem_nil, false_implies, implies_true, and_true]
      refine stepL rfl (by rfl) (fun K hK => ?_)
      go_simp
      refine hK _ _ ⟨⟨(prF HSX.out (by repeat (first | with_reducible refine Ext2.alloc ?_ _ | with_reducible refine Ext2.drew1 ?_ | with_reducible refine Ext2.setA ?_ _ _ | with_reducible assumption | with_reducible exact Ext2.refl _ _ _))), fun _ => (prG HPu.out (by repeat (first | with_reducible refine ext_alloc ?_ _ | with_reducible refine Below.drew ?_ | with_reducible assumption | with_reducible exact ext_refl _)))⟩, ?_⟩
      clear hK K
      refine takeF 14 (v := ?_) rfl (by kernel_rfl) (by kernel_rfl) (by kernel_rfl) (by kernel_rfl) (fun _ _ _ h => h) (Or.inl ⟨by rfl, ?_⟩) (prF HSX.out (by repeat (first | with_reducible refine Ext2.alloc ?_ _ | with_reducible refine Ext2.drew1 ?_ | with_reducible refine Ext2.setA ?_ _ _ | with_reducible assumption | with_reducible exact Ext2.refl _ _ _))) (fun _ => (prG HPu.out (by repeat (first | with_reducible refine ext_alloc ?_ _ | with_reducible refine Below.drew ?_ | with_reducible assumption | with_reducible exact ext_refl _)))) ?_
      rotate_left 1
      · (rintro w' ⟨f0, f1, f2, f3, f4, f5, _⟩; go_simp; with_reducible rfl)
      refine allL [13] (by kernel_rfl) (by simp) ?_
      simp only [List.forall_mem_cons, List.not_mem_nil, false_implies, implies_true, and_true]
      refine stepL rfl (by rfl) (fun K hK => ?_)
      go_simp
      refine hK _ _ ⟨⟨(prF HSX.out (by repeat (first | with_reducible refine Ext2.alloc ?_ _ | with_reducible refine Ext2.drew1 ?_ | with_reducible refine Ext2.setA ?_ _ _ | with_reducible assumption | with_reducible exact Ext2.refl _ _ _))), fun _ => (prG HPu.out (by repeat (first | with_reducible refine ext_alloc ?_ _ | with_reducible refine Below.drew ?_ | with_reducible assumption | with_reducible exact ext_refl _)))⟩, ?_⟩
      clear hK K
      refine allL [15] (by kernel_rfl) (by simp) ?_
      simp only [List.forall_mem_cons, List.not_mem_nil, false_implies, implies_true, and_true]
      refine stepL rfl (by rfl) (fun K hK => ?_)
      go_simp
      refine hK _ _ ⟨⟨(prF HSX.out (by repeat (first | with_reducible refine Ext2.alloc ?_ _ | with_reducible refine Ext2.drew1 ?_ | with_reducible refine Ext2.setA ?_ _ _ | with_reducible assumption | with_reducible exact Ext2.refl _ _ _))), fun h => absurd h (by decide)⟩, ?_⟩
      clear hK K
      refine takeF 16 (v := ?_) rfl (by kernel_rfl) (by kernel_rfl) (by kernel_rfl) (by kernel_rfl) (fun _ _ _ h => h) (Or.inl ⟨by rfl, ?_⟩) (prF HSX.out (by repeat (first | with_reducible refine Ext2.alloc ?_ _ | with_reducible refine Ext2.drew1 ?_ | with_reducible refine Ext2.setA ?_ _ _ | with_reducible assumption | with_reducible exact Ext2.refl _ _ _))) (fun h => absurd h (by decide)) ?_
      rotate_left 1
      · (rintro w' ⟨f0, f1, f2, f3, f4, f5, _⟩; go_simp; with_reducible rfl)
      refine allL [17] (by kernel_rfl) (by simp) ?_
      simp only [List.forall_mem_cons, List.not_mem_nil, false_implies, implies_true, and_true]
      refine stepL rfl (by rfl) (fun K hK => ?_)
      go_simp
      refine hK _ _ ⟨⟨(prF HSX.out (by repeat (first | with_reducible refine Ext2.alloc ?_ _ | with_reducible refine Ext2.drew1 ?_ | with_reducible refine Ext2.setA ?_ _ _ | with_reducible assumption | with_reducible exact Ext2.refl _ _ _))), fun h => absurd h (by decide)⟩, ?_⟩
      clear hK K
      refine doneL (by kernel_rfl) ?_ _
      go_wp2
      refine rounds_name (PrT w bp (w.heap.size + 1 + 1 + 1) (.slice B m d)) ?_ ?_
      · unfold PrT
        repeat apply Exists.intro
        refine ⟨?_, ?_, ?_, ?_, ?_, ?_, ?_, ?_, ?_, ?_⟩
        · (repeat (first | with_reducible refine Blk.drew ?_ | with_reducible refine Blk.alloc ?_ _)); exact blk_set67 HPu.out
        · (first | exact grownCap_ge U 1 0 _ | exact grownCap_ge U.drew 1 0 _ | exact grownCap_ge U.drew.drew 1 0 _)
        · (first | exact grownCap_ge U 1 0 _ | exact grownCap_ge U.drew 1 0 _ | exact grownCap_ge U.drew.drew 1 0 _)
        · (repeat (first | with_reducible exact Blk.new' _ _ _ (by simp) | with_reducible refine Blk.drew ?_ | with_reducible refine Blk.alloc ?_ _))
        · (repeat (first | with_reducible exact Blk.new' _ _ _ (by simp) | with_reducible refine Blk.drew ?_ | with_reducible refine Blk.alloc ?_ _))
        · (repeat (first | with_reducible refine Blk.drew ?_ | with_reducible refine Blk.alloc ?_ _)); exact (HRu.out.far (p := ⟨bp, 6, none⟩) HNe.out.2.2 _).far (p := ⟨bp, 7, none⟩) HNe.out.2.2 _
        · (have := HRu.out.lt; omega)
        · (have := HRu.out.lt; omega)
        · refine (HSu.out.keep (fun j hj hlt => Ext2.block (a := bp) (b := bp) (by repeat (first | with_reducible refine Ext2.alloc ?_ _ | with_reducible refine Ext2.drew1 ?_ | with_reducible refine Ext2.setA ?_ _ _ | with_reducible assumption | with_reducible exact Ext2.refl _ _ _)) j hlt hj.2 hj.2)).mono (fun _ hj _ => hj.1)
        · exact Ext2.below HEu.out HLw.out HLw.out (by repeat (first | with_reducible refine Ext2.alloc ?_ _ | with_reducible refine Ext2.drew1 ?_ | with_reducible refine Ext2.setA ?_ _ _ | with_reducible assumption | with_reducible exact Ext2.refl _ _ _))
      intro T hT
      clear p6 p7 o0 o1 g0 g1 g2 g3 g4 pf6 pf7 hpl hol hgl hpl1 hpl2 hpl3 HSX HPu HRu HOu HGu HSu HEu HNe HLw hir hzr0 hzr1 hzr2 hip hzp0 hzp1 hzp2
      obtain ⟨g1, k1, zs1, g2, k2, A1, c1, ys, hp, hk1, hk2, hr1, hr2, hrb, hl1, hl2, hst, hbe⟩ := hT
      have HK := Lib.hid (And.intro hk1 (And.intro hk2 (And.intro hr1 (And.intro hr2 (And.intro hl1 (And.intro hl2 (And.intro hst hbe)))))))
      have HRb := Lib.hid hrb
      have q0 := hp.cell 0; have q1 := hp.cell 1; have q2 := hp.cell 2; have q3 := hp.cell 3; have q4 := hp.cell 4; have q5 := hp.cell 5; have q6 := hp.cell 6; have q7 := hp.cell 7; have q8 := hp.cell 8
      have r0 := hrb.cell 0; have r1 := hrb.cell 1; have r2 := hrb.cell 2; have r3 := hrb.cell 3; have r4 := hrb.cell 4; have r5 := hrb.cell 5; have r6 := hrb.cell 6; have r7 := hrb.cell 7; have r8 := hrb.cell 8
      have f0 := hrb.frozen 0; have f1 := hrb.frozen 1; have f2 := hrb.frozen 2; have f3 := hrb.frozen 3; have f4 := hrb.frozen 4; have f5 := hrb.frozen 5; have f6 := hrb.frozen 6; have f7 := hrb.frozen 7; have f8 := hrb.frozen 8
      clear hp hk1 hk2 hr1 hr2 hrb hl1 hl2 hst hbe
      rw [rounds_succ]
      go_wp2
      have hBf := blk_set9 (u0 := .int .i64 0) (u1 := .int .i64 0) (u2 := .int .i64 5) (u3 := .int .i64 5) (u4 := .int .i64 1) (u5 := .int .i64 0) (u6 := .slice (some ⟨g1, 0, none⟩) 1 k1) (u7 := .slice (some ⟨g2, 0, none⟩) 1 k2) (u8 := .slice B m d) HRb.out
      have y0 := hBf.cell 0; have y1 := hBf.cell 1; have y2 := hBf.cell 2; have y3 := hBf.cell 3; have y4 := hBf.cell 4; have y5 := hBf.cell 5; have y6 := hBf.cell 6; have y7 := hBf.cell 7; have y8 := hBf.cell 8
      refine bodyPost_ret (v := .tuple #[.agg #[.int .i64 0, .int .i64 0, .int .i64 5, .int .i64 5, .int .i64 1, .int .i64 0, .slice (some ⟨g1, 0, none⟩) 1 k1, .slice (some ⟨g2, 0, none⟩) 1 k2, .slice B m d], .int .i64 0]) (by simp [results, Tryz.results49, go_sem, y0, y1, y2, y3, y4, y5, y6, y7, y8]) rfl ⟨_, rfl, ⟨_, _, _, rfl, .inr ⟨rfl, g1, k1, zs1, rfl, HK.out.1, ?_⟩, ⟨g2, k2, A1, c1, ys, rfl, HK.out.2.1, ?_⟩, ?_⟩, ?_⟩
      · exact (heap_set9 (by have := HK.out.2.2.2.2.1; omega)).trans HK.out.2.2.1
      · exact (heap_set9 (by have := HK.out.2.2.2.2.2.1; omega)).trans HK.out.2.2.2.1
      · exact (HK.out.2.2.2.2.2.2.1.keep (fun j hj _ => heap_set9 (by omega))).mono (fun _ _ _ => trivial)
      · exact ext_set9 HK.out.2.2.2.2.2.2.2 (by omega)

end Go.Proofs.YtimoapjhepmehaaGreatDoor
