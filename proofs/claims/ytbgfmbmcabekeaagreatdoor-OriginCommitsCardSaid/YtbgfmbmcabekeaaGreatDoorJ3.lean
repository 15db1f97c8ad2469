/-
  Part 3 of 17: the contracts that the proof of the last part uses; each stands under its own head.
-/
import Derived.Test.YtbgfmbmcabekeaaGreatDoorJ2
import Derived.Deep.RegionHeld3
import Derived.StillTailTactics
import Derived.BigRegion
import Derived.Shelf.Strings.Builder1
import Derived.Shelf.Strings.Builder2
import Derived.Shelf.Strings.OnBuilder
import Derived.Shelf.Small.Bits
import Derived.Shelf.Small.Wraps
import Derived.Shelf.Strings.BuilderF
import Derived.Shelf.Strings.BuilderK
import Derived.Shelf.Strings.Builder2Cap
import Derived.Shelf.Strconv.Itoa0
import Derived.Shelf.Strings.Prefix
import Derived.Shelf.Bits.Mul64
import Derived.Shelf.Strings.Repeat
import Derived.Shelf.Slices.Equal
import Derived.Ground.Names2Prog
import Derived.Shelf.Slices.ReverseS
import Derived.Shelf.Slices.Clone
import Derived.Shelf.Slices.SearchI
import Derived.Shelf.Slices.Cells
import Derived.Shelf.Slices.Empties2
import Derived.Ground.SlgnProg
import Derived.Shelf.SlicesE.Reverse
import Derived.Shelf.SlicesE.Clone
import Derived.Test.YtbgfmbmcabekeaaGreatDoorProg
set_option linter.unusedSimpArgs false
set_option linter.unusedVariables false

/-
  package store: New, fits, Apply, At, at the law's own record.
-/
namespace Go.Proofs.YtbgfmbmcabekeaaGreatDoor
open Go.RowKit
attribute [local go_sem ↓] Go.wp_at_zero Go.wp_at_succ

/-- a state in memory: its own block gs, its map's block gm -/
def StateAt (w : World) (gs gm : Nat) (es : Array MapEntry) (c : Nat) (pos : Int) : Prop := Blk w gs 134 #[.map (some gm), .int .i64 pos] ∧ MapAt w gm es c
section
variable {w W : World} {gs gm c : Nat} {es : Array MapEntry} {pos : Int}
theorem StateAt.ext (h : StateAt w gs gm es c pos) (k : Below w.heap.size w W) : StateAt W gs gm es c pos := ⟨h.1.ext k, h.2.ext k⟩
theorem StateAt.alloc (h : StateAt w gs gm es c pos) (o : Obj) : StateAt (w.alloc o) gs gm es c pos := ⟨h.1.alloc o, h.2.alloc o⟩
theorem StateAt.drewN (h : StateAt w gs gm es c pos) (n : Nat) : StateAt (w.drewN n) gs gm es c pos := h
end

def theEntry : MapEntry := ⟨.agg #[.int .i64 0, .int .i64 5], .agg #[.int .i64 0, .int .i64 5, .int .i64 1, .int .i64 2, .int .i64 3], 0⟩

theorem id_check (b : Bool) (w : World) : (Instr.checkKey b 10000 136 (.agg #[.int .i64 0, .int .i64 5])).run Tryz.prog w = .ok () w := by cases b <;> kernel_rfl
theorem row_zero (w : World) : (zeroValue 77).run Tryz.prog w = .ok (.agg #[.int .i64 0, .int .i64 0, .int .i64 0, .int .i64 0, .int .i64 0]) w := by kernel_rfl

set_option maxHeartbeats 400000 in
theorem storeNew (w : World) : Calls Tryz.prog 35 #[] w fun e w' => e = .returned (.pointer (some ⟨w.heap.size + 1, 0, none⟩)) ∧ (w.alloc (.map #[] 0)).alloc (.cells #[.map (some w.heap.size), .int .i64 0] 134) = w' := by
  have hmm := @run_makeMap Tryz.prog
  go_enter Tryz.func35, Tryz.ntmps35
  go_wp2
  go_ret
  exact ⟨rfl, rfl⟩

/-- facts that abide new memory -/
def Abide (I : World → Prop) : Prop := ∀ W W' : World, I W → Below W.heap.size W W' → I W'
theorem keep3 {I : World → Prop} (hI : Abide I) {W W' : World} {p q r : Addr} {x y z : Value} (h : W.cell? p = some x ∧ W.cell? q = some y ∧ W.cell? r = some z ∧ I W) (hb : Below W.heap.size W W') : W'.cell? p = some x ∧ W'.cell? q = some y ∧ W'.cell? r = some z ∧ I W' :=
  ⟨cell_ext h.1 hb, cell_ext h.2.1 hb, cell_ext h.2.2.1 hb, hI W W' h.2.2.2 hb⟩
def FitsI (w : World) (b gs gm : Nat) (W : World) : Prop := HeadB W b #[.int .i64 0, .int .i64 5, .bool false, .int .i64 0, .int .i64 0, .int .i64 0, .bool true, .int .i64 1, .int .i64 2, .int .i64 3] ∧ StateAt W gs gm #[] 0 0 ∧ Below w.heap.size w W
theorem FitsI.b {w W : World} {b gs gm : Nat} {p q r : Addr} {x y z : Value} (h : W.cell? p = some x ∧ W.cell? q = some y ∧ W.cell? r = some z ∧ FitsI w b gs gm W) : HeadB W b #[.int .i64 0, .int .i64 5, .bool false, .int .i64 0, .int .i64 0, .int .i64 0, .bool true, .int .i64 1, .int .i64 2, .int .i64 3] := h.2.2.2.1
theorem FitsI.abide (w : World) (b gs gm : Nat) : Abide (FitsI w b gs gm) := fun _ _ h k => ⟨h.1.ext k, h.2.1.ext k, ext_call h.2.2 k⟩

set_option maxRecDepth 100000 in
set_option maxHeartbeats 1000000 in
theorem fits_yes (w : World) (b c gs gm : Nat) (hB : HeadB w b #[.int .i64 0, .int .i64 5, .bool false, .int .i64 0, .int .i64 0, .int .i64 0, .bool true, .int .i64 1, .int .i64 2, .int .i64 3]) (hS : StateAt w gs gm #[] 0 0) : Calls Tryz.prog 73 #[.pointer (some ⟨gs, 0, none⟩), .agg #[.int .i64 1, .slice (some ⟨b, 0, none⟩) 1 c]] w fun e w' => e = .returned (.bool true) ∧ Below w.heap.size w w' := by
  have HS0 := Lib.hid (hS.alloc (.cells #[.int .i64 1, .slice (some ⟨b, 0, none⟩) 1 c] 46))
  have HC0 := Lib.hid (hB.alloc (.cells #[.int .i64 1, .slice (some ⟨b, 0, none⟩) 1 c] 46))
  have HR0 := Lib.hid (Blk.new w 46 #[.int .i64 1, .slice (some ⟨b, 0, none⟩) 1 c])
  have HV := Lib.hid (fun (W : World) (h : HeadB W b #[.int .i64 0, .int .i64 5, .bool false, .int .i64 0, .int .i64 0, .int .i64 0, .bool true, .int .i64 1, .int .i64 2, .int .i64 3]) => validRecord W b c h)
  clear hB hS
  have a0 := HR0.out.cell 0
  have a1 := HR0.out.cell 1
  have s1 := HS0.out.1.cell 1
  have HF0 := Lib.hid (show FitsI w b gs gm (w.alloc (.cells #[.int .i64 1, .slice (some ⟨b, 0, none⟩) 1 c] 46)) from ⟨HC0.out, HS0.out, ext_new w _⟩)
  have hAb := Lib.hid (FitsI.abide w b gs gm)
  have hwr : IntKind.i64.wrap 1 = 1 := by decide
  go_enter Tryz.func73, Tryz.ntmps73
  go_wp2
  go_region_held3 (fun w' => w'.cell? ⟨w.heap.size, 0, none⟩ = some (.int .i64 1) ∧ w'.cell? ⟨w.heap.size, 1, none⟩ = some (.slice (some ⟨b, 0, none⟩) 1 c) ∧ w'.cell? ⟨gs, 1, none⟩ = some (.int .i64 0) ∧ FitsI w b gs gm w')
    (first | exact ⟨a0, a1, s1, hAb.out _ _ HF0.out (ext_refl _).drew⟩ | assumption | exact keep3 hAb.out (by assumption) (by assumption))
    (first | (go_at_call 47; (with_reducible refine (HV.out _ ?_).mono ?_); (exact FitsI.b (by assumption)); rintro e w' ⟨rfl, hb'⟩))
  have hall : w'.cell? ⟨w.heap.size, 0, none⟩ = some (.int .i64 1) ∧ w'.cell? ⟨w.heap.size, 1, none⟩ = some (.slice (some ⟨b, 0, none⟩) 1 c) ∧ w'.cell? ⟨gs, 1, none⟩ = some (.int .i64 0) ∧ FitsI w b gs gm w' := by assumption
  have hF : FitsI w b gs gm w' := hall.2.2.2
  have b1 := hall.2.1
  have g0 := hF.2.1.1.cell 0
  have hlen := len_map (P := Tryz.prog) Tryz.underlying130 hF.2.1.2 3 (v := .int .i64 0) rfl
  have e0 := hF.1.cell 0
  have e1 := hF.1.cell 1
  have e2 := hF.1.cell 2
  have e3 := hF.1.cell 3
  have e4 := hF.1.cell 4
  have e5 := hF.1.cell 5
  have e6 := hF.1.cell 6
  have e7 := hF.1.cell 7
  have e8 := hF.1.cell 8
  have e9 := hF.1.cell 9
  have HF := Lib.hid hF
  have gl := hF.2.1.1.lt
  have bl := hF.1.lt
  clear hall hF a0 a1 s1
  go_wp2
  refine wp_loop_rounds 2 ?_
  rw [rounds_succ]
  have hlk := fun o => lookup_none (P := Tryz.prog) (k := .agg #[.int .i64 0, .int .i64 5]) (w := ((w'.alloc (.cells #[.int .i64 0, .int .i64 5, .bool false, .int .i64 0, .int .i64 0, .int .i64 0, .bool true, .int .i64 1, .int .i64 2, .int .i64 3] 75)).alloc o).drew) Tryz.underlying130 ((HF.out.2.1.2.alloc (.cells #[.int .i64 0, .int .i64 5, .bool false, .int .i64 0, .int .i64 0, .int .i64 0, .bool true, .int .i64 1, .int .i64 2, .int .i64 3] 75)).alloc o) (id_check true _) Tryz.underlying136 (row_zero _)
  have hlk2 := lookup_none (P := Tryz.prog) (k := .agg #[.int .i64 0, .int .i64 5]) (w := (w'.alloc (.cells #[.int .i64 0, .int .i64 5, .bool false, .int .i64 0, .int .i64 0, .int .i64 0, .bool true, .int .i64 1, .int .i64 2, .int .i64 3] 75)).drew) Tryz.underlying130 (HF.out.2.1.2.alloc (.cells #[.int .i64 0, .int .i64 5, .bool false, .int .i64 0, .int .i64 0, .int .i64 0, .bool true, .int .i64 1, .int .i64 2, .int .i64 3] 75)) (id_check true _) Tryz.underlying136 (row_zero _)
  go_wp2
  go_region
  go_wp2
  rw [rounds_succ]
  go_wp2
  go_ret
  exact ⟨rfl, (ext_alloc (ext_alloc HF.out.2.2 _) _).drew⟩

set_option maxRecDepth 100000 in
theorem after_row (w : World) : Calls Tryz.prog 74 #[.agg #[.int .i64 0, .int .i64 5, .bool false, .int .i64 0, .int .i64 0, .int .i64 0, .bool true, .int .i64 1, .int .i64 2, .int .i64 3]] w fun e w' => e = .returned (.tuple #[.agg #[.int .i64 0, .int .i64 5, .int .i64 1, .int .i64 2, .int .i64 3], .bool true]) ∧ Below w.heap.size w w' := after_put theRow w

set_option maxRecDepth 100000 in
set_option maxHeartbeats 1000000 in
theorem apply_one (w : World) (b c gs gm : Nat) (hB : HeadB w b #[.int .i64 0, .int .i64 5, .bool false, .int .i64 0, .int .i64 0, .int .i64 0, .bool true, .int .i64 1, .int .i64 2, .int .i64 3]) (hS : StateAt w gs gm #[] 0 0) : Calls Tryz.prog 40 #[.pointer (some ⟨gs, 0, none⟩), .agg #[.int .i64 1, .slice (some ⟨b, 0, none⟩) 1 c]] w fun e w' => e = .returned (.int .i64 0) ∧ StateAt w' gs gm #[theEntry] 1 1 ∧ Ext2 gs gm w w' := by
  have HS0 := Lib.hid (hS.alloc (.cells #[.int .i64 1, .slice (some ⟨b, 0, none⟩) 1 c] 46))
  have HC0 := Lib.hid (hB.alloc (.cells #[.int .i64 1, .slice (some ⟨b, 0, none⟩) 1 c] 46))
  have HR0 := Lib.hid (Blk.new w 46 #[.int .i64 1, .slice (some ⟨b, 0, none⟩) 1 c])
  have hne : gs ≠ gm := by
    rintro rfl
    have h1 := hS.1
    have h2 := hS.2
    unfold Blk at h1
    unfold MapAt at h2
    rw [h1] at h2
    cases h2
  have hgs := hS.1.lt
  have hgm := hS.2.lt
  clear hB hS
  go_enter Tryz.func40, Tryz.ntmps40
  go_wp2_with fail
  refine (fits_yes _ b c gs gm HC0.out HS0.out).mono ?_
  rintro e W1 ⟨rfl, hb1⟩
  have hR1 := HR0.out.ext hb1
  have hC1 := HC0.out.ext hb1
  have HS1 := Lib.hid (HS0.out.ext hb1)
  have a1 := hR1.cell 1
  have e0 := hC1.cell 0; have e1 := hC1.cell 1; have e2 := hC1.cell 2; have e3 := hC1.cell 3; have e4 := hC1.cell 4; have e5 := hC1.cell 5; have e6 := hC1.cell 6; have e7 := hC1.cell 7; have e8 := hC1.cell 8; have e9 := hC1.cell 9
  have HR1 := Lib.hid hR1
  have HL1 := Lib.hid (ext_call (ext_new w _) hb1)
  have bl := hC1.lt
  clear hb1 hR1 hC1
  go_wp2
  refine wp_loop_rounds 2 ?_
  rw [rounds_succ]
  go_wp2_with fail
  refine (after_row _).mono ?_
  rintro e W2 ⟨rfl, hb2⟩
  have hK2 := (Blk.new' (W1.alloc (.cells #[.int .i64 0, .int .i64 5, .bool false, .int .i64 0, .int .i64 0, .int .i64 0, .bool true, .int .i64 1, .int .i64 2, .int .i64 3] 75)) 136 #[.int .i64 0, .int .i64 5] (b := W1.heap.size + 1) (by simp)).ext hb2
  have HS2 := Lib.hid (((HS1.out.alloc _).alloc _).ext hb2)
  have HR2 := Lib.hid (((HR1.out.alloc _).alloc _).ext hb2)
  have HL2 := Lib.hid (ext_call (ext_alloc (ext_alloc HL1.out _) _) hb2)
  clear hb2 e0 e1 e2 e3 e4 e5 e6 e7 e8 e9 a1
  have k0 := hK2.cell 0; have k1 := hK2.cell 1
  have kl := hK2.lt
  have s0 := HS2.out.1.cell 0
  have gl := HS2.out.1.lt
  have hup := update_none (P := Tryz.prog) (k := .agg #[.int .i64 0, .int .i64 5]) (v := .agg #[.int .i64 0, .int .i64 5, .int .i64 1, .int .i64 2, .int .i64 3]) (w := (W2.alloc (.cells #[.int .i64 0, .int .i64 5, .int .i64 1, .int .i64 2, .int .i64 3] 77)).drew) Tryz.underlying130 (HS2.out.2.alloc (.cells #[.int .i64 0, .int .i64 5, .int .i64 1, .int .i64 2, .int .i64 3] 77)) (id_check false _) Tryz.underlying136
  go_wp2
  go_region
  generalize hW3 : World.putObj (W2.alloc (.cells #[.int .i64 0, .int .i64 5, .int .i64 1, .int .i64 2, .int .i64 3] 77)).drew gm (.map #[⟨.agg #[.int .i64 0, .int .i64 5], .agg #[.int .i64 0, .int .i64 5, .int .i64 1, .int .i64 2, .int .i64 3], 0⟩] 1) = W3
  have hS3 : StateAt W3 gs gm #[theEntry] 1 0 := by
    subst hW3
    exact ⟨(HS2.out.1.alloc _).drew.putObj _ hne, ((HS2.out.2.alloc _).drewN 1).put _ _⟩
  have hR3 : Blk W3 w.heap.size 46 #[.int .i64 1, .slice (some ⟨b, 0, none⟩) 1 c] := by
    subst hW3
    exact (HR2.out.alloc _).drew.putObj _ (by omega)
  have HE3 := Lib.hid (show Ext2 gs gm w W3 by subst hW3; exact (((Ext2.of_ext HL2.out).ext (ext_new _ _)).drewN 1).put _)
  have a0 := hR3.cell 0
  have q1 := hS3.1.cell 1
  have f1 := hS3.1.frozen 1
  have HS3 := Lib.hid hS3
  clear hW3 hS3 hR3 hup s0 k0 k1
  go_wp2
  rw [rounds_succ]
  go_wp2
  go_ret
  exact ⟨rfl, ⟨HS3.out.1.set_ 1 _, HS3.out.2.set _ _ hne.symm⟩, HE3.out.setA _ _⟩

/-- the law's own log in memory: one record -/
def LogAt (w : World) (b g c : Nat) : Prop := HeadB w g #[.int .i64 1, .slice (some ⟨b, 0, none⟩) 1 c] ∧ HeadB w b #[.int .i64 0, .int .i64 5, .bool false, .int .i64 0, .int .i64 0, .int .i64 0, .bool true, .int .i64 1, .int .i64 2, .int .i64 3]
theorem LogAt.ext {w W : World} {b g c : Nat} (h : LogAt w b g c) (k : Below w.heap.size w W) : LogAt W b g c := ⟨h.1.ext k, h.2.ext k⟩

set_option maxRecDepth 100000 in
set_option maxHeartbeats 1000000 in
theorem storeAt1 (w : World) (b g c d : Nat) (hd : 1 ≤ d) (hL : LogAt w b g c) : Calls Tryz.prog 57 #[.slice (some ⟨g, 0, none⟩) 1 d, .int .i64 1] w fun e w' => e = .returned (.tuple #[.pointer (some ⟨w.heap.size + 1, 0, none⟩), .int .i64 0]) ∧ StateAt w' (w.heap.size + 1) w.heap.size #[theEntry] 1 1 ∧ Below w.heap.size w w' := by
  have HL := Lib.hid hL
  clear hL
  go_enter Tryz.func57, Tryz.ntmps57
  go_wp2_with fail
  refine (storeNew _).mono ?_
  rintro e W1 ⟨rfl, hW1⟩
  have HS1 := Lib.hid (show StateAt W1 (w.heap.size + 1) w.heap.size #[] 0 0 by subst hW1; exact ⟨Blk.new' _ _ _ (by simp), (MapAt.new w).alloc _⟩)
  have HE1 := Lib.hid (show Below w.heap.size w W1 by subst hW1; exact ext_alloc (ext_new _ _) _)
  have HL1 := Lib.hid (HL.out.ext HE1.out)
  have r0 := HL1.out.1.cell 0; have r1 := HL1.out.1.cell 1
  have gl := HL1.out.1.lt
  clear hW1
  go_wp2
  refine wp_loop_rounds 2 ?_
  rw [rounds_succ]
  go_wp2_with fail
  refine (apply_one _ b c _ _ (HL1.out.2.alloc _) (HS1.out.alloc _)).mono ?_
  rintro e W2 ⟨rfl, hs2, he2⟩
  have HS2 := Lib.hid hs2
  have HE2 := Lib.hid (he2.below (ext_alloc HE1.out _) (by omega) (by omega))
  clear hs2 he2 r0 r1
  go_wp2
  rw [rounds_succ]
  go_wp2
  go_ret2
  exact ⟨rfl, HS2.out, HE2.out⟩

end Go.Proofs.YtbgfmbmcabekeaaGreatDoor

/-
  DERIVED: THE SHELF's CONTRACTS AT THIS DUMP, IN PLAIN WORDS (tools/lay-plain.mjs out of 'TryzShelf.lean', which tools/lay-shelf.mjs wrote): THE SAME DECLARATIONS UNDER THE SAME NAMES: 'import', 'namespace', 'open', 'def', 'theorem' AND NOTHING ELSE: no command of the shelf's: FOR A HAND-IN. Each laying: the table of numbers ('.._ren') and one theorem, a field a fact of the dump's own or the kernel's comparison; each contract: ONE APPLICATION.
-/
namespace Go.Proofs
open Go.Shelf
def Tryz.lays156_ren : Go.Shelf.Ren := ⟨fun | 156 => 186 | 165 => 110 | 166 => 111 | 169 => 112 | 240 => 161 | 241 => 162 | 276 => 194 | 277 => 195 | n => n, fun | 31 => 89 | 9 => 9 | 3 => 3 | 4 => 4 | 0 => 0 | 20 => 20 | 72 => 163 | 76 => 197 | 70 => 160 | 37 => 161 | 75 => 196 | 127 => 261 | 164 => 295 | 5 => 5 | 80 => 68 | n => n, fun | n => n⟩
theorem Tryz.lays156 : Go.Proofs.Lays.n156 Tryz.prog Tryz.lays156_ren := {
  mixed := by kernel_rfl
  f156 := Tryz.func186.trans (congrArg some (by kernel_rfl))
  f165 := Tryz.func110.trans (congrArg some (by kernel_rfl))
  f166 := Tryz.func111.trans (congrArg some (by kernel_rfl))
  f169 := Tryz.func112.trans (congrArg some (by kernel_rfl))
  f240 := Tryz.func161.trans (congrArg some (by kernel_rfl))
  f241 := Tryz.func162.trans (congrArg some (by kernel_rfl))
  f276 := Tryz.func194.trans (congrArg some (by kernel_rfl))
  f277 := Tryz.func195.trans (congrArg some (by kernel_rfl))
  t0 := Tryz.underlying0
  a0 := Tryz.isAgg0
  z0 := Tryz.sizeOf0
  v0 := Tryz.zeroValue0
  t3 := Tryz.underlying3
  a3 := Tryz.isAgg3
  z3 := Tryz.sizeOf3
  v3 := Tryz.zeroValue3
  t4 := Tryz.underlying4
  a4 := Tryz.isAgg4
  z4 := Tryz.sizeOf4
  v4 := Tryz.zeroValue4
  t9 := Tryz.underlying9
  a9 := Tryz.isAgg9
  z9 := Tryz.sizeOf9
  v9 := Tryz.zeroValue9
  t20 := Tryz.underlying20
  a20 := Tryz.isAgg20
  z20 := Tryz.sizeOf20
  v20 := Tryz.zeroValue20
  t31 := Tryz.underlying89
  a31 := Tryz.isAgg89
  z31 := Tryz.sizeOf89
  v31 := Tryz.zeroValue89
  t37 := Tryz.underlying161
  a37 := Tryz.isAgg161
  z37 := Tryz.sizeOf161
  v37 := Tryz.zeroValue161
  t70 := Tryz.underlying160
  a70 := Tryz.isAgg160
  z70 := Tryz.sizeOf160
  v70 := Tryz.zeroValue160
  t72 := Tryz.underlying163
  a72 := Tryz.isAgg163
  z72 := Tryz.sizeOf163
  v72 := Tryz.zeroValue163
  t75 := Tryz.underlying196
  a75 := Tryz.isAgg196
  z75 := Tryz.sizeOf196
  v75 := Tryz.zeroValue196
  t76 := Tryz.underlying197
  a76 := Tryz.isAgg197
  z76 := Tryz.sizeOf197
  v76 := Tryz.zeroValue197
  t127 := Tryz.underlying261
  a127 := Tryz.isAgg261
  z127 := Tryz.sizeOf261
  v127 := Tryz.zeroValue261
  t164 := Tryz.underlying295
  a164 := Tryz.isAgg295
  z164 := Tryz.sizeOf295
  v164 := Tryz.zeroValue295 }
theorem Tryz.Builder_Extra_156 : Builder.Extra Tryz.prog Tryz.lays156_ren := {
  sizeBuilder := by kernel_rfl
  liesBuilder := by kernel_rfl
  t5 := Tryz.underlying5
  a5 := Tryz.isAgg5
  z5 := Tryz.sizeOf5
  v5 := Tryz.zeroValue5
  infoByte := by kernel_rfl
  cellsByte := by kernel_rfl
  sizeByte := by kernel_rfl
  neB5 := by decide }
open Go.RowKit in
/-- strings.Join: "Join concatenates the elements of its first argument to create a single string. The separator string sep is placed between elements in the resulting string.": HOWEVER MANY ELEMENTS. Below the heap's end the world is as it was. (LAID: no walk: one application.) -/
theorem Tryz.strings_Join (bk o c : Nat) (xs : List ByteArray) (sep : ByteArray) (w : World) (hcells : ∀ (j : Nat) x, xs[j]? = some x → w.cell? ⟨bk, o + j, none⟩ = some (.string x)) (hbk : bk < w.heap.size) (hN : xs.length ≤ 140737488355328) (hcap : xs.length ≤ c) (hlen : (Lib.join (xs.map (·.data.toList)) sep.data.toList).length ≤ 140737488355328) :
    Calls Tryz.prog 186 #[.slice (some ⟨bk, o, none⟩) xs.length c, .string sep] w fun e w' => e = .returned (.string ⟨(Lib.join (xs.map (·.data.toList)) sep.data.toList).toArray⟩) ∧ Below w.heap.size w w' := Any.strings_Join Tryz.lays156 Tryz.Builder_Extra_156 bk o c xs sep w hcells hbk hN hcap hlen
def Tryz.lays125_ren : Go.Shelf.Ren := ⟨fun | 125 => 192 | 128 => 210 | 129 => 211 | n => n, fun | 46 => 190 | 3 => 3 | 51 => 235 | 53 => 248 | 4 => 4 | 5 => 5 | 9 => 9 | n => n, fun | n => n⟩
theorem Tryz.lays125 : Go.Proofs.Lays.n125 Tryz.prog Tryz.lays125_ren := {
  mixed := by kernel_rfl
  f125 := Tryz.func192.trans (congrArg some (by kernel_rfl))
  f128 := Tryz.func210.trans (congrArg some (by kernel_rfl))
  f129 := Tryz.func211.trans (congrArg some (by kernel_rfl))
  t3 := Tryz.underlying3
  a3 := Tryz.isAgg3
  z3 := Tryz.sizeOf3
  v3 := Tryz.zeroValue3
  t4 := Tryz.underlying4
  a4 := Tryz.isAgg4
  z4 := Tryz.sizeOf4
  v4 := Tryz.zeroValue4
  t5 := Tryz.underlying5
  a5 := Tryz.isAgg5
  z5 := Tryz.sizeOf5
  v5 := Tryz.zeroValue5
  t9 := Tryz.underlying9
  a9 := Tryz.isAgg9
  z9 := Tryz.sizeOf9
  v9 := Tryz.zeroValue9
  t46 := Tryz.underlying190
  a46 := Tryz.isAgg190
  z46 := Tryz.sizeOf190
  v46 := Tryz.zeroValue190
  t51 := Tryz.underlying235
  a51 := Tryz.isAgg235
  z51 := Tryz.sizeOf235
  v51 := Tryz.zeroValue235
  t53 := Tryz.underlying248
  a53 := Tryz.isAgg248
  z53 := Tryz.sizeOf248
  v53 := Tryz.zeroValue248 }
/-- bits.Len: "Len returns the minimum number of bits required to represent x; the result is 0 for x == 0.": IT RETURNS 'Lib.bitLen x'; the world is as it was. (A uint has 64 bits in the model.) ITS CALLEE bits.Len64 IS MET BY ITS OWN CONTRACT OFF THE SHELF (lay that first). (LAID: no walk: one application.) -/
theorem Tryz.bits_Len (x : Int) (w : World) (h0 : 0 ≤ x) (h1 : x ≤ 18446744073709551615) :
    Calls Tryz.prog 192 #[.int .u64 x] w fun e w' => e = .returned (.int .i64 (Lib.bitLen x.toNat)) ∧ w' = w := Any.bits_Len Tryz.lays125 x w h0 h1
def Tryz.lays122_ren : Go.Shelf.Ren := ⟨fun | 122 => 215 | 215 => 217 | n => n, fun | 3 => 3 | 4 => 4 | n => n, fun | n => n⟩
theorem Tryz.lays122 : Go.Proofs.Lays.n122 Tryz.prog Tryz.lays122_ren := {
  mixed := by kernel_rfl
  f122 := Tryz.func215.trans (congrArg some (by kernel_rfl))
  f215 := Tryz.func217.trans (congrArg some (by kernel_rfl))
  t3 := Tryz.underlying3
  a3 := Tryz.isAgg3
  z3 := Tryz.sizeOf3
  v3 := Tryz.zeroValue3
  t4 := Tryz.underlying4
  a4 := Tryz.isAgg4
  z4 := Tryz.sizeOf4
  v4 := Tryz.zeroValue4 }
open Go.RowKit in
/-- cmp.Compare at int: "Compare returns -1 if x is less than y, 0 if x equals y, +1 if x is greater than y.": IT RETURNS 'Lib.compareInt x y'; the world is as it was. (LAID: no walk: one application.) -/
theorem Tryz.cmp_Compare_int (x y : Int) (w : World) :
    Calls Tryz.prog 215 #[.int .i64 x, .int .i64 y] w fun e w' => e = .returned (.int .i64 (Lib.compareInt x y)) ∧ w' = w := Any.cmp_Compare_int Tryz.lays122 x y w
def Tryz.lays105_ren : Go.Shelf.Ren := ⟨fun | 105 => 66 | 212 => 108 | 99 => 109 | 165 => 110 | 166 => 111 | 170 => 85 | 169 => 112 | 263 => 158 | 264 => 159 | 206 => 160 | 240 => 161 | 241 => 162 | 276 => 194 | 277 => 195 | n => n, fun | 9 => 9 | 3 => 3 | 4 => 4 | 20 => 20 | 0 => 0 | 46 => 190 | 109 => 191 | 5 => 5 | 72 => 163 | 76 => 197 | 51 => 235 | 146 => 257 | 53 => 248 | 148 => 259 | 70 => 160 | 37 => 161 | 75 => 196 | 127 => 261 | 164 => 295 | 80 => 68 | n => n, fun | n => n⟩
theorem Tryz.lays105 : Go.Proofs.Lays.n105 Tryz.prog Tryz.lays105_ren := {
  mixed := by kernel_rfl
  f99 := Tryz.func109.trans (congrArg some (by kernel_rfl))
  f105 := Tryz.func66.trans (congrArg some (by kernel_rfl))
  f165 := Tryz.func110.trans (congrArg some (by kernel_rfl))
  f166 := Tryz.func111.trans (congrArg some (by kernel_rfl))
  f169 := Tryz.func112.trans (congrArg some (by kernel_rfl))
  f170 := Tryz.func85.trans (congrArg some (by kernel_rfl))
  f206 := Tryz.func160.trans (congrArg some (by kernel_rfl))
  f212 := Tryz.func108.trans (congrArg some (by kernel_rfl))
  f240 := Tryz.func161.trans (congrArg some (by kernel_rfl))
  f241 := Tryz.func162.trans (congrArg some (by kernel_rfl))
  f263 := Tryz.func158.trans (congrArg some (by kernel_rfl))
  f264 := Tryz.func159.trans (congrArg some (by kernel_rfl))
  f276 := Tryz.func194.trans (congrArg some (by kernel_rfl))
  f277 := Tryz.func195.trans (congrArg some (by kernel_rfl))
  t0 := Tryz.underlying0
  a0 := Tryz.isAgg0
  z0 := Tryz.sizeOf0
  v0 := Tryz.zeroValue0
  t3 := Tryz.underlying3
  a3 := Tryz.isAgg3
  z3 := Tryz.sizeOf3
  v3 := Tryz.zeroValue3
  t4 := Tryz.underlying4
  a4 := Tryz.isAgg4
  z4 := Tryz.sizeOf4
  v4 := Tryz.zeroValue4
  t5 := Tryz.underlying5
  a5 := Tryz.isAgg5
  z5 := Tryz.sizeOf5
  v5 := Tryz.zeroValue5
  t9 := Tryz.underlying9
  a9 := Tryz.isAgg9
  z9 := Tryz.sizeOf9
  v9 := Tryz.zeroValue9
  t20 := Tryz.underlying20
  a20 := Tryz.isAgg20
  z20 := Tryz.sizeOf20
  v20 := Tryz.zeroValue20
  t37 := Tryz.underlying161
  a37 := Tryz.isAgg161
  z37 := Tryz.sizeOf161
  v37 := Tryz.zeroValue161
  t46 := Tryz.underlying190
  a46 := Tryz.isAgg190
  z46 := Tryz.sizeOf190
  v46 := Tryz.zeroValue190
  t51 := Tryz.underlying235
  a51 := Tryz.isAgg235
  z51 := Tryz.sizeOf235
  v51 := Tryz.zeroValue235
  t53 := Tryz.underlying248
  a53 := Tryz.isAgg248
  z53 := Tryz.sizeOf248
  v53 := Tryz.zeroValue248
  t70 := Tryz.underlying160
  a70 := Tryz.isAgg160
  z70 := Tryz.sizeOf160
  v70 := Tryz.zeroValue160
  t72 := Tryz.underlying163
  a72 := Tryz.isAgg163
  z72 := Tryz.sizeOf163
  v72 := Tryz.zeroValue163
  t75 := Tryz.underlying196
  a75 := Tryz.isAgg196
  z75 := Tryz.sizeOf196
  v75 := Tryz.zeroValue196
  t76 := Tryz.underlying197
  a76 := Tryz.isAgg197
  z76 := Tryz.sizeOf197
  v76 := Tryz.zeroValue197
  t109 := Tryz.underlying191
  a109 := Tryz.isAgg191
  z109 := Tryz.sizeOf191
  v109 := Tryz.zeroValue191
  t127 := Tryz.underlying261
  a127 := Tryz.isAgg261
  z127 := Tryz.sizeOf261
  v127 := Tryz.zeroValue261
  t146 := Tryz.underlying257
  a146 := Tryz.isAgg257
  z146 := Tryz.sizeOf257
  v146 := Tryz.zeroValue257
  t148 := Tryz.underlying259
  a148 := Tryz.isAgg259
  z148 := Tryz.sizeOf259
  v148 := Tryz.zeroValue259
  t164 := Tryz.underlying295
  a164 := Tryz.isAgg295
  z164 := Tryz.sizeOf295
  v164 := Tryz.zeroValue295 }
theorem Tryz.Builder_Extra_105 : Builder.Extra Tryz.prog Tryz.lays105_ren := {
  sizeBuilder := by kernel_rfl
  liesBuilder := by kernel_rfl
  t5 := Tryz.underlying5
  a5 := Tryz.isAgg5
  z5 := Tryz.sizeOf5
  v5 := Tryz.zeroValue5
  infoByte := by kernel_rfl
  cellsByte := by kernel_rfl
  sizeByte := by kernel_rfl
  neB5 := by decide }
open Go.RowKit Go.Lib in
/-- THE MAIN CASE: at least two copies of a string that is not empty. (LAID: no walk: one application.) -/
theorem Tryz.strings_Repeat_main (s : ByteArray) (c : Nat) (w : World) (hc2 : 2 ≤ c) (hc : c ≤ 9223372036854775807) (hlen : s.size * c ≤ 140737488355328) (h0 : 0 < s.size) :
    Calls Tryz.prog 66 #[.string s, .int .i64 c] w fun e w' => e = .returned (.string ⟨(Lib.repeatL s.data.toList c).toArray⟩) ∧ Below w.heap.size w w' := Any.strings_Repeat_main Tryz.lays105 Tryz.Builder_Extra_105 s c w hc2 hc hlen h0
def Tryz.laysNm217_ren : Go.Shelf.Ren := ⟨fun | 17 => 152 | n => n, fun | 24 => 89 | 9 => 9 | 3 => 3 | 4 => 4 | 0 => 0 | n => n, fun | n => n⟩
theorem Tryz.laysNm217 : Go.Proofs.Lays2.n17 Tryz.prog Tryz.laysNm217_ren := {
  mixed := by kernel_rfl
  f17 := Tryz.func152.trans (congrArg some (by kernel_rfl))
  t0 := Tryz.underlying0
  a0 := Tryz.isAgg0
  z0 := Tryz.sizeOf0
  v0 := Tryz.zeroValue0
  t3 := Tryz.underlying3
  a3 := Tryz.isAgg3
  z3 := Tryz.sizeOf3
  v3 := Tryz.zeroValue3
  t4 := Tryz.underlying4
  a4 := Tryz.isAgg4
  z4 := Tryz.sizeOf4
  v4 := Tryz.zeroValue4
  t9 := Tryz.underlying9
  a9 := Tryz.isAgg9
  z9 := Tryz.sizeOf9
  v9 := Tryz.zeroValue9
  t24 := Tryz.underlying89
  a24 := Tryz.isAgg89
  z24 := Tryz.sizeOf89
  v24 := Tryz.zeroValue89 }
open Go.RowKit Go.Lib Go.Sort in
/-- The same at a slice of length 0, a nil one too: nothing is read, nothing written, nothing drawn. (LAID: no walk: one application.) -/
theorem Tryz.slices_Reverse_string_empty (a : Option Addr) (cap : Nat) (w : World) :
    Calls Tryz.prog 152 #[.slice a 0 cap] w fun e w' => e = .returned (.tuple #[]) ∧ w' = w := Any.slices_Reverse_string_empty Tryz.laysNm217 a cap w
end Go.Proofs

/-
  package store: chosen, Range, at a state of no row and of the law's own row; the sort of at most one row.
-/
namespace Go.Proofs.YtbgfmbmcabekeaaGreatDoor
open Go.RowKit
attribute [local go_sem ↓] Go.wp_at_zero Go.wp_at_succ

set_option maxRecDepth 100000 in
set_option maxHeartbeats 400000 in
theorem ins_none (a : Option Addr) (c : Nat) (f : Value) (w : World) : Calls Tryz.prog 218 #[.slice a 0 c, .int .i64 0, .int .i64 0, f] w fun e w' => (∃ u, e = .returned u) ∧ w = w' := by
  go_enter Tryz.func218, Tryz.ntmps218
  go_wp2
  refine wp_loop_rounds 1 ?_
  rw [rounds_succ]
  go_wp2
  go_end0
  exact ⟨⟨_, rfl⟩, rfl⟩

set_option maxRecDepth 100000 in
set_option maxHeartbeats 400000 in
theorem ins_one (a : Option Addr) (c : Nat) (f : Value) (w : World) : Calls Tryz.prog 218 #[.slice a 1 c, .int .i64 0, .int .i64 1, f] w fun e w' => (∃ u, e = .returned u) ∧ w = w' := by
  go_enter Tryz.func218, Tryz.ntmps218
  go_wp2
  refine wp_loop_rounds 1 ?_
  rw [rounds_succ]
  go_wp2
  go_end0
  exact ⟨⟨_, rfl⟩, rfl⟩

set_option maxRecDepth 100000 in
set_option maxHeartbeats 400000 in
theorem pdq_none (a : Option Addr) (c : Nat) (n : Int) (f : Value) (w : World) : Calls Tryz.prog 216 #[.slice a 0 c, .int .i64 0, .int .i64 0, .int .i64 n, f] w fun e w' => (∃ u, e = .returned u) ∧ w = w' := by
  go_enter Tryz.func216, Tryz.ntmps216
  go_wp2
  refine wp_loop_rounds 1 ?_
  rw [rounds_succ]
  go_wp2_with (go_at_call 218; refine (ins_none _ _ _ _).mono ?_; rintro e w' ⟨⟨u, rfl⟩, rfl⟩)
  refine bodyPost_ret (results_none rfl _ _ _) rfl ?_
  exact ⟨⟨_, rfl⟩, rfl⟩

set_option maxRecDepth 100000 in
set_option maxHeartbeats 400000 in
theorem pdq_one (a : Option Addr) (c : Nat) (n : Int) (f : Value) (w : World) : Calls Tryz.prog 216 #[.slice a 1 c, .int .i64 0, .int .i64 1, .int .i64 n, f] w fun e w' => (∃ u, e = .returned u) ∧ w = w' := by
  go_enter Tryz.func216, Tryz.ntmps216
  go_wp2
  refine wp_loop_rounds 1 ?_
  rw [rounds_succ]
  go_wp2_with (go_at_call 218; refine (ins_one _ _ _ _).mono ?_; rintro e w' ⟨⟨u, rfl⟩, rfl⟩)
  refine bodyPost_ret (results_none rfl _ _ _) rfl ?_
  exact ⟨⟨_, rfl⟩, rfl⟩

set_option maxRecDepth 100000 in
set_option maxHeartbeats 400000 in
theorem sort_none (a : Option Addr) (c : Nat) (f : Value) (w : World) : Calls Tryz.prog 212 #[.slice a 0 c, f] w fun e w' => (∃ u, e = .returned u) ∧ w = w' := by
  go_enter Tryz.func212, Tryz.ntmps212
  go_wp2_with (first
    | (go_at_call 192; refine (Tryz.bits_Len _ _ (by omega) (by omega)).mono ?_; rintro e w' ⟨rfl, rfl⟩)
    | (go_at_call 216; refine (pdq_none _ _ _ _ _).mono ?_; rintro e w' ⟨⟨u, rfl⟩, rfl⟩))
  go_end0
  exact ⟨⟨_, rfl⟩, rfl⟩

set_option maxRecDepth 100000 in
set_option maxHeartbeats 400000 in
theorem sort_one (a : Option Addr) (c : Nat) (f : Value) (w : World) : Calls Tryz.prog 212 #[.slice a 1 c, f] w fun e w' => (∃ u, e = .returned u) ∧ w = w' := by
  go_enter Tryz.func212, Tryz.ntmps212
  go_wp2_with (first
    | (go_at_call 192; refine (Tryz.bits_Len _ _ (by omega) (by omega)).mono ?_; rintro e w' ⟨rfl, rfl⟩)
    | (go_at_call 216; refine (pdq_one _ _ _ _ _).mono ?_; rintro e w' ⟨⟨u, rfl⟩, rfl⟩))
  go_end0
  exact ⟨⟨_, rfl⟩, rfl⟩

/-- is the law's row in a range? -/
def hitF (t : Int) (j : Nat) (lo hi : Int) : Bool := ((0 : Int) == t) && decide (lo ≤ theRow.col j) && decide (theRow.col j ≤ hi)
theorem value_row (j : Nat) (hj : j < 4) (w : World) : Calls Tryz.prog 166 #[.agg #[.int .i64 0, .int .i64 5, .int .i64 1, .int .i64 2, .int .i64 3], .int .i64 (j : Int)] w fun e w' => e = .returned (.int .i64 (theRow.col j)) ∧ Below w.heap.size w w' := rowValue_any theRow j hj w

/-- the boxes of Range's closure -/
def Boxes (w : World) (b1 b2 b3 b4 : Nat) (j : Nat) (t lo hi : Int) : Prop := Blk w b1 3 #[.int .i64 (j : Int)] ∧ Blk w b2 3 #[.int .i64 t] ∧ Blk w b3 3 #[.int .i64 lo] ∧ Blk w b4 3 #[.int .i64 hi]
theorem Boxes.ext {w W : World} {b1 b2 b3 b4 j : Nat} {t lo hi : Int} (h : Boxes w b1 b2 b3 b4 j t lo hi) (k : Below w.heap.size w W) : Boxes W b1 b2 b3 b4 j t lo hi := ⟨h.1.ext k, h.2.1.ext k, h.2.2.1.ext k, h.2.2.2.ext k⟩

set_option maxRecDepth 100000 in
set_option maxHeartbeats 400000 in
theorem isIn (b1 b2 b3 b4 j : Nat) (t lo hi : Int) (hj : j < 4) (w : World) (hB : Boxes w b1 b2 b3 b4 j t lo hi) :
    Calls Tryz.prog 208 #[.agg #[.int .i64 0, .int .i64 5, .int .i64 1, .int .i64 2, .int .i64 3], .pointer (some ⟨b1, 0, none⟩), .pointer (some ⟨b2, 0, none⟩), .pointer (some ⟨b3, 0, none⟩), .pointer (some ⟨b4, 0, none⟩)] w fun e w' => e = .returned (.bool (hitF t j lo hi)) ∧ Below w.heap.size w w' := by
  have HB := Lib.hid (hB.ext (ext_new w (.cells #[.int .i64 0, .int .i64 5, .int .i64 1, .int .i64 2, .int .i64 3] 77)))
  have HR := Lib.hid (Blk.new w 77 #[.int .i64 0, .int .i64 5, .int .i64 1, .int .i64 2, .int .i64 3])
  clear hB
  have c1 := HB.out.1.cell 0
  unfold hitF
  have HV := Lib.hid (fun W : World => value_row j hj W)
  generalize theRow.col j = v at *
  go_enter Tryz.func208, Tryz.ntmps208
  go_wp2_with fail
  refine (HV.out _).mono ?_
  rintro e W1 ⟨rfl, hb1⟩
  have hB1 := HB.out.ext hb1
  have a0 := (HR.out.ext hb1).cell 0
  have d2 := hB1.2.1.cell 0
  have d3 := hB1.2.2.1.cell 0
  have d4 := hB1.2.2.2.cell 0
  have HL := Lib.hid (ext_call (ext_new w _) hb1)
  clear hb1 hB1 c1
  by_cases h1 : (0 : Int) = t
  · subst h1
    by_cases h2 : lo ≤ v
    · go_wp2
      go_ret
      exact ⟨by simp [h2], HL.out⟩
    · go_wp2
      go_ret
      exact ⟨by have h3 : ¬ lo ≤ v := by omega
                simp [h3], HL.out⟩
  · have h1' : ((0 : Int) == t) = false := by simpa using h1
    go_wp2
    go_ret
    exact ⟨by simp [h1], HL.out⟩

set_option maxRecDepth 100000 in
set_option maxHeartbeats 1000000 in
theorem chosen_none (gs gm : Nat) (c : Nat) (pos col : Int) (f : Value) (w : World) (hS : StateAt w gs gm #[] c pos) :
    Calls Tryz.prog 207 #[.pointer (some ⟨gs, 0, none⟩), .int .i64 col, f] w fun e w' => e = .returned (.slice none 0 0) ∧ Below w.heap.size w w' := by
  have hS0 := hS.alloc (.cells #[.int .i64 col] 3)
  have s0 := hS0.1.cell 0
  have hrg := range_map (P := Tryz.prog) Tryz.underlying130 hS0.2
  have hnx := fun t => next_empty (P := Tryz.prog) (t := t) (r := w.heap.size + 1) ((hS0.alloc (.mapIter (some gm) c #[] c)).2) (by rw [← World.size_alloc w (.cells #[.int .i64 col] 3)]; exact World.alloc_heap_new _ _)
  have hmf : ∀ (fn : Fn) (first cap : Array Value) (w : World), (Instr.makeFunc fn first cap).run Tryz.prog w = .ok (.func fn first cap) w := fun _ _ _ _ => rfl
  clear hS hS0
  go_enter Tryz.func207, Tryz.ntmps207
  go_wp2
  refine wp_loop_rounds 1 ?_
  rw [rounds_succ]
  go_wp2_with (go_at_call 212; refine (sort_none _ _ _ _).mono ?_; rintro e w' ⟨⟨u, rfl⟩, rfl⟩)
  go_ret
  exact ⟨rfl, ext_alloc (ext_new _ _) _⟩

theorem row_info : (Tryz.prog.info? 77).map (fun i => (i.zero, i.size, i.bytes)) = some (some (.agg #[.int .i64 0, .int .i64 0, .int .i64 0, .int .i64 0, .int .i64 0]), 5, 40) := by kernel_rfl

/-- the rows of a result: none, or the law's own row -/
def RowsAt (w : World) (hit : Bool) (v : Value) : Prop := (hit = false ∧ v = .slice none 0 0) ∨ (hit = true ∧ ∃ g c zs, v = .slice (some ⟨g, 0, none⟩) 1 c ∧ 1 ≤ c ∧ Blk w g 77 (#[.int .i64 0, .int .i64 5, .int .i64 1, .int .i64 2, .int .i64 3] ++ zs))
theorem RowsAt.ext {w W : World} {hit : Bool} {v : Value} (h : RowsAt w hit v) (k : Below w.heap.size w W) : RowsAt W hit v := by
  rcases h with h | ⟨h1, g, c, zs, h2, h3, h4⟩
  · exact .inl h
  · exact .inr ⟨h1, g, c, zs, h2, h3, h4.ext k⟩

set_option maxRecDepth 100000 in
set_option maxHeartbeats 1000000 in
theorem chosen_one (gs gm b1 b2 b3 b4 j : Nat) (pos col t lo hi : Int) (hj : j < 4) (w : World) (hS : StateAt w gs gm #[theEntry] 1 pos) (hB : Boxes w b1 b2 b3 b4 j t lo hi) :
    Calls Tryz.prog 207 #[.pointer (some ⟨gs, 0, none⟩), .int .i64 col, .func (.func 208) #[] #[.pointer (some ⟨b1, 0, none⟩), .pointer (some ⟨b2, 0, none⟩), .pointer (some ⟨b3, 0, none⟩), .pointer (some ⟨b4, 0, none⟩)]] w
      fun e w' => ∃ v, e = .returned v ∧ RowsAt w' (hitF t j lo hi) v ∧ Below w.heap.size w w' := by
  have hS0 := hS.alloc (.cells #[.int .i64 col] 3)
  have s0 := hS0.1.cell 0
  have hrg := range_map (P := Tryz.prog) Tryz.underlying130 hS0.2
  have hmf : ∀ (fn : Fn) (first cap : Array Value) (w : World), (Instr.makeFunc fn first cap).run Tryz.prog w = .ok (.func fn first cap) w := fun _ _ _ _ => rfl
  have HS := Lib.hid hS
  have HB := Lib.hid hB
  have HX := Lib.hid (fun (W : World) (h : Boxes W b1 b2 b3 b4 j t lo hi) => isIn b1 b2 b3 b4 j t lo hi hj W h)
  clear hS hS0 hB
  generalize hitF t j lo hi = hit at *
  obtain ⟨ii, hii, hzi0, hzi1, hzi2⟩ := info_parts row_info
  go_enter Tryz.func207, Tryz.ntmps207
  go_wp2
  generalize hW1 : (w.alloc (.cells #[.int .i64 col] 3)).alloc (.mapIter (some gm) 1 #[] 1) = W1
  have hE1 : Below w.heap.size w W1 := by subst hW1; exact ext_alloc (ext_new _ _) _
  have hI1 : W1.heap[w.heap.size + 1]? = some (.mapIter (some gm) 1 #[] 1) := by
    subst hW1
    rw [← World.size_alloc w (.cells #[.int .i64 col] 3)]; exact World.alloc_heap_new _ _
  have hgm := HS.out.2.lt
  have hgs := HS.out.1.lt
  have hS1 := HS.out.ext hE1
  have hnx := fun t => next_one (P := Tryz.prog) (t := t) (k := .agg #[.int .i64 0, .int .i64 5]) (v := .agg #[.int .i64 0, .int .i64 5, .int .i64 1, .int .i64 2, .int .i64 3]) hS1.2 hI1
  generalize hW2 : W1.putObj (w.heap.size + 1) (.mapIter (some gm) 1 #[0] 1) = W2 at hnx
  have hE2 : Below w.heap.size w W2 := by subst hW2; exact ext_put hE1 (by omega) _
  have hI2 : W2.heap[w.heap.size + 1]? = some (.mapIter (some gm) 1 #[0] 1) := by
    subst hW2
    exact World.putObj_heap_same (Array.getElem?_eq_some_iff.1 hI1).1
  have hS2 := HS.out.ext hE2
  have hent := entry_one (P := Tryz.prog) (k := .agg #[.int .i64 0, .int .i64 5]) (v := .agg #[.int .i64 0, .int .i64 5, .int .i64 1, .int .i64 2, .int .i64 3]) hS2.2 hI2
  have HB2 := Lib.hid (HB.out.ext hE2)
  have HE2 := Lib.hid hE2
  have HI2 := Lib.hid hI2
  have HS2 := Lib.hid hS2
  clear hW1 hW2 hE1 hE2 hI1 hI2 hS1 hS2 s0 hrg
  refine wp_loop_rounds 2 ?_
  rw [rounds_succ]
  go_wp2_with fail
  refine (HX.out _ (HB2.out.ext (ext_new _ _))).mono ?_
  rintro e W3 ⟨rfl, hb3⟩
  have hX3 := (Blk.new W2 77 #[.int .i64 0, .int .i64 5, .int .i64 1, .int .i64 2, .int .i64 3]).ext hb3
  have x0 := hX3.cell 0; have x1 := hX3.cell 1; have x2 := hX3.cell 2; have x3 := hX3.cell 3; have x4 := hX3.cell 4
  have xl := hX3.lt
  have HE3 := Lib.hid (ext_call (ext_alloc HE2.out _) hb3)
  have HI3 := Lib.hid (heap_ext (heap_ext HI2.out (ext_new _ _)) hb3)
  have HS3 := Lib.hid (((HS2.out.alloc _)).ext hb3)
  clear hb3 hX3
  cases hit with
  | false =>
    have hnx := fun t => next_over (P := Tryz.prog) (t := t) (k := .agg #[.int .i64 0, .int .i64 5]) (v := .agg #[.int .i64 0, .int .i64 5, .int .i64 1, .int .i64 2, .int .i64 3]) HS3.out.2 HI3.out
    go_wp2
    rw [rounds_succ]
    go_wp2_with (go_at_call 212; refine (sort_none _ _ _ _).mono ?_; rintro e w' ⟨⟨u, rfl⟩, rfl⟩)
    go_ret
    exact ⟨_, rfl, .inl ⟨rfl, rfl⟩, HE3.out⟩
  | true =>
    go_wp2
    have hcap : 1 ≤ (Question.appendCap 1 0 77).cut (W3.tape W3.drawn (Question.appendCap 1 0 77)) := grownCap_ge W3 1 0 77
    revert hcap
    generalize (Question.appendCap 1 0 77).cut (W3.tape W3.drawn (Question.appendCap 1 0 77)) = cap
    intro hcap
    generalize hW4 : ((W3.alloc (.cells #[.int .i64 0, .int .i64 5, .int .i64 1, .int .i64 2, .int .i64 3] 77)).alloc (.cells (#[.int .i64 0, .int .i64 5, .int .i64 1, .int .i64 2, .int .i64 3] ++ Builtin.zeroCells #[.int .i64 0, .int .i64 0, .int .i64 0, .int .i64 0, .int .i64 0] (cap - 1)) 77)).drew = W4
    have hE34 : Below W3.heap.size W3 W4 := by subst hW4; exact (ext_alloc (ext_new _ _) _).drew
    have HR4 := Lib.hid (show Blk W4 (W3.heap.size + 1) 77 (#[.int .i64 0, .int .i64 5, .int .i64 1, .int .i64 2, .int .i64 3] ++ Builtin.zeroCells #[.int .i64 0, .int .i64 0, .int .i64 0, .int .i64 0, .int .i64 0] (cap - 1)) by subst hW4; exact (Blk.new' _ _ _ (by simp)).drew)
    have HE4 := Lib.hid (ext_call HE3.out hE34)
    have hnx := fun t => next_over (P := Tryz.prog) (t := t) (k := .agg #[.int .i64 0, .int .i64 5]) (v := .agg #[.int .i64 0, .int .i64 5, .int .i64 1, .int .i64 2, .int .i64 3]) (HS3.out.ext hE34).2 (heap_ext HI3.out hE34)
    clear hW4 hE34 x0 x1 x2 x3 x4
    rw [rounds_succ]
    go_wp2_with (go_at_call 212; refine (sort_one _ _ _ _).mono ?_; rintro e w' ⟨⟨u, rfl⟩, rfl⟩)
    go_ret
    exact ⟨_, rfl, .inr ⟨rfl, _, _, _, rfl, hcap, HR4.out⟩, HE4.out⟩

/-- a state of no row, or of the law's own row -/
def StateIs (w : World) (one : Bool) (gs gm : Nat) (pos : Int) : Prop := StateAt w gs gm (if one then #[theEntry] else #[]) (if one then 1 else 0) pos
theorem StateIs.ext {w W : World} {one : Bool} {gs gm : Nat} {pos : Int} (h : StateIs w one gs gm pos) (k : Below w.heap.size w W) : StateIs W one gs gm pos := StateAt.ext h k

set_option maxRecDepth 100000 in
set_option maxHeartbeats 1000000 in
theorem range_any (one : Bool) (gs gm j : Nat) (pos t lo hi : Int) (hj : j < 4) (w : World) (hS : StateIs w one gs gm pos) :
    Calls Tryz.prog 181 #[.pointer (some ⟨gs, 0, none⟩), .int .i64 t, .int .i64 (j : Int), .int .i64 lo, .int .i64 hi] w
      fun e w' => ∃ v, e = .returned v ∧ RowsAt w' (one && hitF t j lo hi) v ∧ Below w.heap.size w w' := by
  have hmf : ∀ (fn : Fn) (first cap : Array Value) (w : World), (Instr.makeFunc fn first cap).run Tryz.prog w = .ok (.func fn first cap) w := fun _ _ _ _ => rfl
  have HS := Lib.hid hS
  clear hS
  have l1 : decide ((j : Int) < 0) = false := decide_eq_false (by omega)
  have l2 : decide (4 ≤ (j : Int)) = false := decide_eq_false (by omega)
  go_enter Tryz.func181, Tryz.ntmps181
  go_wp2_with fail
  generalize hW1 : World.alloc (((w.alloc (.cells #[.int .i64 t] 3)).alloc (.cells #[.int .i64 (j : Int)] 3)).alloc (.cells #[.int .i64 lo] 3)) (.cells #[.int .i64 hi] 3) = W1
  have hE1 : Below w.heap.size w W1 := by subst hW1; exact ext_alloc (ext_alloc (ext_alloc (ext_new _ _) _) _) _
  have hB1 : Boxes W1 (w.heap.size + 1) w.heap.size (w.heap.size + 1 + 1) (w.heap.size + 1 + 1 + 1) j t lo hi := by
    subst hW1
    exact ⟨((Blk.new' _ _ _ (by simp)).alloc _).alloc _, (((Blk.new' _ _ _ (by simp)).alloc _).alloc _).alloc _, (Blk.new' _ _ _ (by simp)).alloc _, Blk.new' _ _ _ (by simp)⟩
  cases one with
  | false =>
    refine (chosen_none gs gm _ pos _ _ W1 (HS.out.ext hE1)).mono ?_
    rintro e W2 ⟨rfl, hb2⟩
    have HE2 := Lib.hid (ext_call hE1 hb2)
    clear hW1 hE1 hB1 hb2
    go_wp2
    go_ret
    exact ⟨_, rfl, .inl ⟨rfl, rfl⟩, HE2.out⟩
  | true =>
    refine (chosen_one gs gm _ _ _ _ j pos _ t lo hi hj W1 (HS.out.ext hE1) hB1).mono ?_
    rintro e W2 ⟨v, rfl, hr2, hb2⟩
    have HE2 := Lib.hid (ext_call hE1 hb2)
    have HR2 := Lib.hid hr2
    clear hW1 hE1 hB1 hb2 hr2
    go_wp2
    go_ret
    exact ⟨_, rfl, HR2.out, HE2.out⟩

end Go.Proofs.YtbgfmbmcabekeaaGreatDoor
