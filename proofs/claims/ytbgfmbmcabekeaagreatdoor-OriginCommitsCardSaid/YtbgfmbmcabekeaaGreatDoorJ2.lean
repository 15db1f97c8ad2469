/-
  Part 2 of 17: the contracts that the proof of the last part uses; each stands under its own head.
-/
import Derived.Test.YtbgfmbmcabekeaaGreatDoorJ1
import Derived.ChangeKeysEq
import Derived.LoopN
import Derived.WalkMore
import Derived.Test.YtbgfmbmcabekeaaGreatDoorProg
import Derived.RangeFuncRecord
set_option linter.unusedSimpArgs false
set_option linter.unusedVariables false

/-
  wire.PutInt at numbers of one group.
-/
namespace Go.Proofs.YtbgfmbmcabekeaaGreatDoor
open Go.RowKit Go.Shelf
attribute [local go_sem] Oper.semAt_some
attribute [local go_sem ↓] Go.wp_at_zero Go.wp_at_succ

def OnePost (J Jx : List Unit → World → Prop) (e : Ending) (W' : World) : Prop := (∃ v, e = .returned v) ∧ (J [()] W' ∨ ∃ pre, Jx pre W')

theorem and127 (z : Nat) (hz : z < 128) : bits BinOp.and IntKind.u64 (z : Int) 127 = (z : Int) := by
  have h : ∀ z : Fin 128, bits BinOp.and IntKind.u64 ((z.1 : Nat) : Int) 127 = ((z.1 : Nat) : Int) := by decide +kernel
  exact h ⟨z, hz⟩

set_option maxRecDepth 100000 in
set_option maxHeartbeats 1000000 in
theorem groups1_in (n : Nat) (hn : 1 ≤ n) (l Bz z : Nat) (hz : z < 128) (J Jx : List Unit → World → Prop)
    (hY : ∀ pre x W, J pre W → pre.length < 1 → YieldAt Fence.wide (n - 1) Tryz.prog l #[.int .u8 (z : Int), .bool true] W fun e W' =>
      (e = .returned (.bool true) ∧ J (pre ++ [x]) W' ∧ True) ∨ (e = .returned (.bool false) ∧ Jx (pre ++ [x]) W'))
    (W : World) (hBz : W.cell? ⟨Bz, 0, none⟩ = some (.int .u64 (z : Int))) (h0 : J [] W) :
    CallsIn Fence.wide n Tryz.prog 191 #[.func (.yield l) #[] #[], .pointer (some ⟨Bz, 0, none⟩)] W (OnePost J Jx) := by
  refine callsIn_of_wp Tryz.func191 rfl trivial ?_ rfl
  simp only [Tryz.ntmps191, List.size_toArray, List.length_cons, List.length_nil, Nat.reduceAdd, Nat.reduceSub, Array.replicate_succ, Array.replicate_zero, List.push_toArray, List.append_toArray, List.nil_append, List.cons_append]
  obtain ⟨fn, tmps, assign, body, hy, hR⟩ := hY [] () W h0 (by simp)
  have hz' : (z : Int) < 128 := by omega
  gi_wp2
  refine wpIn_loop_rounds 1 ?_
  rw [roundsIn_succ]
  have hand := and127 z hz
  have hmod : (z : Int) % 256 = (z : Int) := by omega
  gi_wp2
  refine hR.mono ?_
  rintro e W3 (⟨rfl, hJ3, hk3⟩ | ⟨rfl, hJx3⟩)
  · gi_wp2
    refine bodyPost_ret (results_none rfl _ _ _) rfl ?_
    exact ⟨⟨_, rfl⟩, .inl hJ3⟩
  · gi_wp2
    refine bodyPost_ret (results_none rfl _ _ _) rfl ?_
    exact ⟨⟨_, rfl⟩, .inr ⟨_, hJx3⟩⟩

theorem groups_stops (n : Nat) (hn : 1 ≤ n) (Bz z : Nat) (hz : z < 128) (w : World) (hBz : w.cell? ⟨Bz, 0, none⟩ = some (.int .u64 (z : Int))) :
    SeqStopsK Fence.wide n Tryz.prog 191 #[.pointer (some ⟨Bz, 0, none⟩)] (fun _ : Unit => #[.int .u8 (z : Int), .bool true])
      (fun _ _ => True) (fun ys => ys = [()]) (fun _ => True) 1 w := fun l J Jx W hW hJ _ hY h0 => by
  refine (groups1_in n hn l Bz z hz J Jx hY W ((hW.cell (p := ⟨Bz, 0, none⟩) (lt_of_cell hBz)).trans hBz) h0).mono ?_
  rintro e W' ⟨he, hj | ⟨pre, hj⟩⟩
  · exact ⟨he, .inl ⟨_, rfl, hj⟩⟩
  · exact ⟨he, .inr ⟨_, trivial, hj⟩⟩

set_option maxHeartbeats 400000 in
theorem groups_any (z : Nat) (w : World) :
    Calls Tryz.prog 150 #[.int .u64 (z : Int)] w fun e w' =>
      e = .returned (.func (.func 191) #[] #[.pointer (some ⟨w.heap.size, 0, none⟩)]) ∧ w.alloc (.cells #[.int .u64 (z : Int)] 248) = w' := by
  have hmf : ∀ (fn : Fn) (first cap : Array Value) (w : World), (Instr.makeFunc fn first cap).run Tryz.prog w = .ok (.func fn first cap) w := fun _ _ _ _ => rfl
  go_enter Tryz.func150, Tryz.ntmps150
  go_wp2
  go_ret
  exact ⟨rfl, rfl⟩

theorem u8_infoR : (Tryz.prog.info? 5).map (fun i => (i.zero, i.size, i.bytes)) = some (some (.int .u8 0), 1, 1) := by kernel_rfl
theorem xor0 (n : Nat) (hn : n < 64) : bits BinOp.xor IntKind.u64 ((n : Int) * 2) 0 = ((2 * n : Nat) : Int) := by
  have h : ∀ z : Fin 64, bits BinOp.xor IntKind.u64 (((z.1 : Nat) : Int) * 2) 0 = ((2 * z.1 : Nat) : Int) := by decide +kernel
  exact h ⟨n, hn⟩
/-- the string of one byte -/
def byteS (n : Nat) : ByteArray := ⟨#[UInt8.ofNat n]⟩

set_option maxHeartbeats 1000000 in
set_option maxRecDepth 100000 in
theorem putInt_any (n : Nat) (hn : n < 64) (w : World) :
    Calls Tryz.prog 103 #[.int .i64 (n : Int)] w fun e w' => e = .returned (.tuple #[.string (byteS (2 * n)), .int .i64 0]) ∧ Below w.heap.size w w' := by
  have q0 : (n : Int) < 64 := by omega
  obtain ⟨ib, hib, hzb0, hzb1, hzb2⟩ := info_parts u8_infoR
  have hdiv : (n : Int) / 9223372036854775808 = 0 := by omega
  obtain ⟨z, hz⟩ : ∃ z, z = 2 * n := ⟨_, rfl⟩
  have hxor : bits BinOp.xor IntKind.u64 ((n : Int) * 2) 0 = (z : Int) := by rw [hz]; exact xor0 n hn
  have hz128 : z < 128 := by omega
  have HZ := Lib.hid hz
  clear hz
  have l1 : decide ((n : Int) < -4611686018427387903) = false := decide_eq_false (by omega)
  have l2 : decide (4611686018427387903 < (n : Int)) = false := decide_eq_false (by omega)
  refine (callsIn_wide (n := 3)).1 (callsIn_of_wp_marks Tryz.func103 rfl trivial (wpIn_wide.2 ?_) rfl)
  simp only [Tryz.ntmps103, List.size_toArray, List.length_cons, List.length_nil, Nat.reduceAdd, Nat.reduceSub, Array.replicate_succ, Array.replicate_zero, List.push_toArray, List.append_toArray, List.nil_append, List.cons_append]
  go_wp2_with (go_at_call 150; refine (groups_any _ _).mono ?_; rintro e W2 ⟨rfl, rfl⟩)
  obtain ⟨B, hB⟩ : ∃ B, B = w.heap.size := ⟨_, rfl⟩
  have hI0 : (∃ v, Boxed ((w.alloc (.cells #[.slice none 0 0] 161)).alloc (.cells #[.int .u64 (z : Int)] 248)) w.heap.size 161 v ∧ ((w.alloc (.cells #[.slice none 0 0] 161)).alloc (.cells #[.int .u64 (z : Int)] 248)).ownsRow w.heap.size 5 1 v ([] : List Unit).length (([] : List Unit).map fun _ => Value.int .u8 (z : Int)) ∧ True) ∧ Below w.heap.size w ((w.alloc (.cells #[.slice none 0 0] 161)).alloc (.cells #[.int .u64 (z : Int)] 248)) :=
    ⟨⟨_, (Boxed.new _ _ _).alloc _, World.ownsRow_nil _ _ _ _, trivial⟩, ((Below.refl _ _).alloc (Nat.le_refl _) _).alloc (by simp) _⟩
  refine (wpIn_wide (n := 3)).1 ?_
  refine' wpIn_rangeFunc_ownF rfl (by omega) (gf := 191) (lb := #[.pointer (some ⟨w.heap.size + 1, 0, none⟩)]) (by simp [Act.eval]) trivial (enters_of Tryz.func191 (by kernel_rfl) rfl)
    (groups_stops 2 (by omega) (w.heap.size + 1) z hz128 _ (by have h := (Boxed.new (w.alloc (.cells #[.slice none 0 0] 161)) 248 (.int .u64 (z : Int))).cell; rw [World.size_alloc] at h; exact h))
    (fun _ _ => trivial) (fun _ _ _ _ _ _ _ _ => trivial) (Below.refl _ _) (fun _ => rfl)
    (fun (pre : List Unit) W => (∃ v, Boxed W w.heap.size 161 v ∧ W.ownsRow w.heap.size 5 1 v pre.length (pre.map fun _ => Value.int .u8 (z : Int)) ∧ True) ∧ Below w.heap.size w W) (fun _ _ _ => False)
    (OwnFrom.and (Own.from (holdsRow_own w.heap.size w.heap.size 161 5 1 (fun pre : List Unit => pre.length) (fun pre : List Unit => pre.map fun _ => Value.int .u8 (z : Int)) (fun _ _ => True)) _) (ownFrom_below (Nat.le_refl _) (by simp; omega)))
    (fun _ _ _ _ _ hs _ _ => hs) hI0 _ ?assign ?body ?done ?stop
  case assign =>
    intro l x W K hK
    gi_wp2
    exact hK
  case body =>
    rintro l pre x W ⟨⟨v, hv, hrow, _⟩, hb⟩ hlen
    obtain rfl : pre = [] := by
      cases pre with
      | nil => rfl
      | cons a t => simp at hlen
    have hvc := hv.cell
    have hbs := hb.size
    gi_wp2_with (gi_at_builtin; refine wpListIn_append_own _ rfl (.tmp 27) (.tmp 29) 161 rfl w.heap.size 5 ib (.int .u8 0) 1 1 Tryz.underlying161 hib hzb0 hzb1 hzb2 rfl (by decide) _ _ _ rfl (hrow.alloc _) ⟨W.heap.size, 0, none⟩ 1 1 [.int .u8 (z : Int)] rfl rfl (cell_one_new _ _ _) (by simp [Value.oneCell']) (by unfold maxLen; simp) (by simp) (by simp; omega) ?_; intro v' w1 hown' hgrow _; obtain ⟨g', cap', rfl⟩ := ownsRow_succ hown'; obtain ⟨hv1, hv2, hr2, hk2, hb2⟩ := hv.appended (by decide) hrow hbs (Nat.le_refl _) hown' hgrow; have hc1 := hv1.cell; have hf1 := hv1.frozen)
    exact ⟨hk2, trivial, ⟨_, hv2, hr2, trivial⟩, hb.trans hb2⟩
  case done =>
    rintro D ys' W hD rfl ⟨⟨v, hv, hrow, _⟩, hb⟩ hK
    obtain ⟨g, cg, rfl⟩ := ownsRow_succ hrow
    have hvc := hv.cell
    have hcv : (convert 161 9 (.slice (some ⟨g, 0, none⟩) 1 cg)).run Tryz.prog W = .ok (.string (byteS z)) W := by
      rw [run_convert_bytes_string W 161 9 5 _ 1 cg Tryz.underlying161 Tryz.underlying5 Tryz.underlying9]
      have h := run_loadCells_list (P := Tryz.prog) W ⟨g, 0, none⟩ ([(z : Int)].map (Value.int .u8)) (fun j x hx => by
        match j, hx with
        | 0, hx => simp at hx; subst hx; exact hrow.cells (g := g) rfl 0 _ rfl)
      exact run_bytesToString W _ 1 cg [(z : Int)] h
    go_wp2
    refine ⟨by simp, .inl ⟨_, _, rfl, run_takeDeferred hK, ?_⟩⟩
    refine ⟨_, results_tmp2 rfl _ _ _, ?_, ?_⟩
    · rw [← HZ.out]; rfl
    · exact hb.grown (grownBy_putObj' W D _) hb.size (fun k e => by injection e with e; simp at hD; omega)
  case stop =>
    rintro D c pre W _ _ h _
    exact h.elim

end Go.Proofs.YtbgfmbmcabekeaaGreatDoor

/-
  package row: sound, ValidChange, ValidRecord, put, Encode, EncodeRecord, at the law's own row.
-/
namespace Go.Proofs.YtbgfmbmcabekeaaGreatDoor
open Go.RowKit
attribute [local go_sem ↓] Go.wp_at_zero Go.wp_at_succ

def theRow : RowT := ⟨0, 5, 1, 2, 3⟩
theorem theRow_ok : theRow.ok := by unfold theRow RowT.ok; simp

set_option maxRecDepth 100000 in
set_option maxHeartbeats 400000 in
theorem valid_row (w : World) : Calls Tryz.prog 83 #[.agg #[.int .i64 0, .int .i64 5, .int .i64 1, .int .i64 2, .int .i64 3]] w fun e w' => e = .returned (.bool true) ∧ Below w.heap.size w w' := rowValid_yes theRow w theRow_ok

set_option maxRecDepth 100000 in
set_option maxHeartbeats 400000 in
theorem sound_no (w : World) : Calls Tryz.prog 119 #[.agg #[.int .i64 0, .int .i64 5, .bool false, .int .i64 0, .int .i64 0, .int .i64 0, .bool true, .int .i64 1, .int .i64 2, .int .i64 3], .bool false, .agg #[.int .i64 0, .int .i64 0, .int .i64 0]] w fun e w' => e = .returned (.bool true) ∧ Below w.heap.size w w' := by
  have heq : ∀ W : World, (Op.equalIn 10000 73 (.agg #[.int .i64 0, .int .i64 0, .int .i64 0]) (.agg #[.int .i64 0, .int .i64 0, .int .i64 0])).run Tryz.prog W = .ok true W := fun _ => by kernel_rfl
  go_enter Tryz.func119, Tryz.ntmps119
  go_wp2_with (go_at_call 113; refine (half_no _ _ _ _ _ _ _ _ _ _ _ _ _ _).mono ?_; rintro e W1 ⟨rfl, hb1⟩; have hB1 := (((Blk.new' (w.alloc (.cells #[.int .i64 0, .int .i64 5, .bool false, .int .i64 0, .int .i64 0, .int .i64 0, .bool true, .int .i64 1, .int .i64 2, .int .i64 3] 75)) 73 #[.int .i64 0, .int .i64 0, .int .i64 0] (b := w.heap.size + 1) (by simp)))).ext hb1; have c0 := hB1.cell 0; have c1 := hB1.cell 1; have c2 := hB1.cell 2; have l1 := hB1.lt; have HL1 := Lib.hid (ext_call (ext_alloc (ext_new w _) _) hb1); clear hb1 hB1)
  go_ret
  exact ⟨rfl, ext_alloc HL1.out _⟩

set_option maxRecDepth 100000 in
set_option maxHeartbeats 400000 in
theorem sound_yes (w : World) : Calls Tryz.prog 119 #[.agg #[.int .i64 0, .int .i64 5, .bool false, .int .i64 0, .int .i64 0, .int .i64 0, .bool true, .int .i64 1, .int .i64 2, .int .i64 3], .bool true, .agg #[.int .i64 1, .int .i64 2, .int .i64 3]] w fun e w' => e = .returned (.bool true) ∧ Below w.heap.size w w' := by
  go_enter Tryz.func119, Tryz.ntmps119
  go_wp2_with (first
    | (go_at_call 113; refine (half_yes _ _ _ _ _ _ _ _ _ _ _ _ _ _).mono ?_; rintro e W1 ⟨rfl, hb1⟩; have HL1 := Lib.hid (ext_call (ext_alloc (ext_new w _) _) hb1); clear hb1)
    | (go_at_call 83; refine (valid_row _).mono ?_; rintro e W2 ⟨rfl, hb2⟩; have HL2 := Lib.hid (ext_call (ext_alloc HL1.out _) hb2); clear hb2))
  go_ret
  exact ⟨rfl, HL2.out⟩

set_option maxRecDepth 100000 in
set_option maxHeartbeats 400000 in
theorem validChange (w : World) : Calls Tryz.prog 78 #[.agg #[.int .i64 0, .int .i64 5, .bool false, .int .i64 0, .int .i64 0, .int .i64 0, .bool true, .int .i64 1, .int .i64 2, .int .i64 3]] w fun e w' => e = .returned (.bool true) ∧ Below w.heap.size w w' := by
  have HB0 := Lib.hid (Blk.new w 75 #[.int .i64 0, .int .i64 5, .bool false, .int .i64 0, .int .i64 0, .int .i64 0, .bool true, .int .i64 1, .int .i64 2, .int .i64 3])
  go_enter Tryz.func78, Tryz.ntmps78
  go_wp2_with fail
  refine (sound_no _).mono ?_
  rintro e W1 ⟨rfl, hb1⟩
  have hB1 := HB0.out.ext hb1
  have c0 := hB1.cell 0
  have c1 := hB1.cell 1
  have c2 := hB1.cell 2
  have c3 := hB1.cell 3
  have c4 := hB1.cell 4
  have c5 := hB1.cell 5
  have c6 := hB1.cell 6
  have c7 := hB1.cell 7
  have c8 := hB1.cell 8
  have c9 := hB1.cell 9
  have HL1 := Lib.hid (ext_call (ext_new w _) hb1)
  clear hb1 hB1
  go_wp2_with fail
  refine (sound_yes _).mono ?_
  rintro e W2 ⟨rfl, hb2⟩
  go_wp2
  go_ret
  exact ⟨rfl, ext_call HL1.out hb2⟩

/-- cells at the head of a block -/
structure HeadB (w : World) (b : Nat) (cs : Array Value) : Prop where
  lt : b < w.heap.size
  cells : ∀ i, i < cs.size → w.cell? ⟨b, i, none⟩ = cs[i]?
section
variable {w W : World} {b : Nat} {cs zs : Array Value} {t : TypeId}
theorem HeadB.cell (h : HeadB w b cs) (i : Nat) (hi : i < cs.size := by simp) : w.cell? ⟨b, i, none⟩ = cs[i]? := h.cells i hi
theorem HeadB.of (h : Blk w b t cs) : HeadB w b cs := ⟨h.lt, fun i _ => h.cell i⟩
theorem HeadB.of2 (h : Blk w b t (cs ++ zs)) : HeadB w b cs := ⟨h.lt, fun i hi => (h.cell i).trans (Array.getElem?_append_left hi)⟩
theorem HeadB.ext (h : HeadB w b cs) (k : Below w.heap.size w W) : HeadB W b cs := ⟨Nat.lt_of_lt_of_le h.lt k.size, fun i hi => (k.cell h.lt).trans (h.cells i hi)⟩
theorem HeadB.far (h : HeadB w b cs) {p : Addr} (hp : b ≠ p.block) (u : Value) : HeadB (w.setCell p u) b cs := ⟨by have := h.lt; simpa using this, fun i hi => (World.cell?_of_block (Below.heap_setCell w p u b hp)).trans (h.cells i hi)⟩
theorem HeadB.alloc (h : HeadB w b cs) (o : Obj) : HeadB (w.alloc o) b cs := h.ext (ext_new w o)
end
theorem chg_size : (Tryz.prog.info? 75).map (·.size) = some 10 := by kernel_rfl
theorem chg_one : (#[.int .i64 0, .int .i64 5, .bool false, .int .i64 0, .int .i64 0, .int .i64 0, .bool true, .int .i64 1, .int .i64 2, .int .i64 3] : Array Value).all (·.oneCell') = true := by simp [Value.oneCell']

set_option maxRecDepth 100000 in
set_option maxHeartbeats 1000000 in
theorem validRecord (w : World) (b c : Nat) (hB : HeadB w b #[.int .i64 0, .int .i64 5, .bool false, .int .i64 0, .int .i64 0, .int .i64 0, .bool true, .int .i64 1, .int .i64 2, .int .i64 3]) : Calls Tryz.prog 47 #[.agg #[.int .i64 1, .slice (some ⟨b, 0, none⟩) 1 c]] w fun e w' => e = .returned (.bool true) ∧ Below w.heap.size w w' := by
  have I1 := Lib.hid (show inF 1 10000 [1] = true by simp [inF])
  have I2 := Lib.hid (show inF 1 8 [1] = true by simp [inF])
  have HB0 := Lib.hid (Blk.new w 46 #[.int .i64 1, .slice (some ⟨b, 0, none⟩) 1 c])
  have HC0 := Lib.hid hB
  clear hB
  go_enter Tryz.func47, Tryz.ntmps47
  go_wp2_with fail
  refine (within_yes (w.heap.size + 1) 0 1 [1] 1 10000 _ (.of_blk (Blk.new' _ _ _ (by simp)) 0 [1] rfl) (by simp) (by simp) I1.out).mono ?_
  rintro e W1 ⟨rfl, hb1⟩
  have hB1 := (HB0.out.alloc _).ext hb1
  have c1 := hB1.cell 1
  have HB1 := Lib.hid hB1
  have HC1 := Lib.hid (((HC0.out.alloc _).alloc _).ext hb1)
  have HL1 := Lib.hid (ext_call (ext_alloc (ext_new w _) _) hb1)
  clear hb1 hB1
  go_wp2_with fail
  refine (within_yes W1.heap.size 0 1 [1] 1 8 _ (.of_blk (Blk.new _ _ _) 0 [1] rfl) (by simp) (by simp) I2.out).mono ?_
  rintro e W2 ⟨rfl, hb2⟩
  have hB2 := (HB1.out.alloc _).ext hb2
  have c1 := hB2.cell 1
  have l1 := hB2.lt
  have hC2 := (HC1.out.alloc _).ext hb2
  have e0 := hC2.cell 0
  have e1 := hC2.cell 1
  have e2 := hC2.cell 2
  have e3 := hC2.cell 3
  have e4 := hC2.cell 4
  have e5 := hC2.cell 5
  have e6 := hC2.cell 6
  have e7 := hC2.cell 7
  have e8 := hC2.cell 8
  have e9 := hC2.cell 9
  have l2 := hC2.lt
  have HL2 := Lib.hid (ext_call (ext_alloc HL1.out _) hb2)
  clear hb2 hB2 hC2
  go_wp2
  refine wp_loop_rounds 2 ?_
  rw [rounds_succ]
  go_wp2_with fail
  refine (validChange _).mono ?_
  rintro e W3 ⟨rfl, hb3⟩
  have hD3 := ((Blk.new W2 75 #[.int .i64 (-1), .int .i64 0, .bool false, .int .i64 0, .int .i64 0, .int .i64 0, .bool false, .int .i64 0, .int .i64 0, .int .i64 0]).alloc (.cells #[.int .i64 0, .int .i64 5, .bool false, .int .i64 0, .int .i64 0, .int .i64 0, .bool true, .int .i64 1, .int .i64 2, .int .i64 3] 75)).ext hb3
  have hE3 := (Blk.new' (W2.alloc (.cells #[.int .i64 (-1), .int .i64 0, .bool false, .int .i64 0, .int .i64 0, .int .i64 0, .bool false, .int .i64 0, .int .i64 0, .int .i64 0] 75)) 75 #[.int .i64 0, .int .i64 5, .bool false, .int .i64 0, .int .i64 0, .int .i64 0, .bool true, .int .i64 1, .int .i64 2, .int .i64 3] (b := W2.heap.size + 1) (by simp)).ext hb3
  have d0 := hD3.cell 0
  have d1 := hD3.cell 1
  have f0 := hE3.cell 0
  have f1 := hE3.cell 1
  have f2 := hE3.cell 2
  have f3 := hE3.cell 3
  have f4 := hE3.cell 4
  have f5 := hE3.cell 5
  have f6 := hE3.cell 6
  have f7 := hE3.cell 7
  have f8 := hE3.cell 8
  have f9 := hE3.cell 9
  have HD3 := Lib.hid hD3
  have HL3 := Lib.hid (ext_call (ext_alloc (ext_alloc HL2.out _) _) hb3)
  have HI := Lib.hid chg_size
  have H1 := Lib.hid chg_one
  have hz2 := HL2.out.size
  clear hb3 hD3 hE3 e0 e1 e2 e3 e4 e5 e6 e7 e8 e9 c1
  go_wp2_with (refine wpList_store_blk rfl 75 (.tmp 3) (.tmp 51) rfl W2.heap.size #[.int .i64 0, .int .i64 5, .bool false, .int .i64 0, .int .i64 0, .int .i64 0, .bool true, .int .i64 1, .int .i64 2, .int .i64 3] rfl rfl 75 #[.int .i64 (-1), .int .i64 0, .bool false, .int .i64 0, .int .i64 0, .int .i64 0, .bool false, .int .i64 0, .int .i64 0, .int .i64 0] HD3.out HI.out rfl H1.out ?_; intro W4 hB4 hg4; have HL4 := Lib.hid (HL3.out.grown hg4 HL3.out.size (fun k e => by injection e with e; omega)); clear hB4 hg4)
  rw [rounds_succ]
  go_wp2
  go_ret
  exact ⟨rfl, HL4.out⟩

/-- the encoding of small numbers -/
def encS (l : List Int) : ByteArray := ⟨(l.map fun n => UInt8.ofNat (2 * n.toNat)).toArray⟩
theorem encS_append (l m : List Int) : encS l ++ encS m = encS (l ++ m) := by
  unfold encS
  rw [ByteArray.mk_append_mk, ← List.map_append]
theorem encS_size (l : List Int) : (encS l).size = l.length := by
  unfold encS
  simp only [ByteArray.size_mk', List.size_toArray, List.length_map]
theorem putInt_int (n : Int) (h0 : 0 ≤ n) (h1 : n < 64) (w : World) :
    Calls Tryz.prog 103 #[.int .i64 n] w fun e w' => e = .returned (.tuple #[.string (encS [n]), .int .i64 0]) ∧ Below w.heap.size w w' := by
  obtain ⟨m, rfl⟩ := Int.eq_ofNat_of_zero_le h0
  exact putInt_any m (by omega) w

set_option maxRecDepth 100000 in
set_option maxHeartbeats 1000000 in
theorem rowPut_any (b off c : Nat) (l : List Int) (w : World) (hc : IntsAt w b off l) (hb : b < w.heap.size) (hn : l.length ≤ 1000) (hin : ∀ x ∈ l, 0 ≤ x ∧ x < 64) :
    Calls Tryz.prog 163 #[.slice (some ⟨b, off, none⟩) l.length c] w fun e w' => e = .returned (.string (encS l)) ∧ Below w.heap.size w w' := by
  have HC := Lib.hid hc
  have HI := Lib.hid hin
  clear hc hin
  go_enter Tryz.func163, Tryz.ntmps163
  go_wp2
  go_loopw [3, 10] (fun s i wr => ∃ k : Nat, k ≤ l.length ∧ i = .int .i64 k ∧ s = .string (encS (l.take k)) ∧ Below w.heap.size w wr) (fun _ i _ => l.length - (intOf i).toNat)
  case atStart => exact ⟨0, Nat.zero_le _, rfl, rfl, ext_refl w⟩
  case round =>
    obtain ⟨k, hk, rfl, rfl, hl⟩ := hrel
    by_cases hlt : k < l.length
    · have hcell := (hl.cell (p := ⟨b, off + k, none⟩) hb).trans (HC.out k l[k] (List.getElem?_eq_getElem hlt))
      have hx := HI.out l[k] (List.getElem_mem hlt)
      have HS := Lib.hid (encS_append (l.take k) [l[k]])
      obtain ⟨x, hxe⟩ : ∃ x, x = l[k] := ⟨_, rfl⟩
      rw [← hxe] at hcell hx HS
      have HT := Lib.hid (show l.take (k + 1) = l.take k ++ [x] by rw [hxe]; exact List.take_succ_eq_append_getElem hlt)
      clear hxe
      obtain ⟨hx1, hx2⟩ := hx
      have hs1 := encS_size (l.take k)
      have hs2 := encS_size [x]
      simp only [List.length_take, List.length_cons, List.length_nil] at hs1 hs2
      have HP := Lib.hid (fun W : World => putInt_int x hx1 hx2 W)
      obtain ⟨s1, es1⟩ : ∃ s1, s1 = encS (l.take k) := ⟨_, rfl⟩
      obtain ⟨s2, es2⟩ : ∃ s2, s2 = encS [x] := ⟨_, rfl⟩
      rw [← es1] at HS hs1 ⊢
      rw [← es2] at HS hs2 HP
      have hsum : s1.size + s2.size ≤ 9223372036854775807 := by omega
      have hcat := fun W : World => run_string_add_sum (P := Tryz.prog) (w := W) s1 s2 hsum
      have HL := Lib.hid hl
      clear es1 es2 hs1 hs2 hl
      go_wp2_with (go_at_call 103; refine (HP.out _).mono ?_; rintro e W1 ⟨rfl, hb1⟩)
      go_roundw
      case rel => exact ⟨k + 1, by omega, by go_num, by rw [HT.out, HS.out], ext_call HL.out hb1⟩
      case measure => simp [intOf]; omega
    · have HK := Lib.hid (show l.take k = l from List.take_of_length_le (by omega))
      have HL := Lib.hid hl
      clear hl
      go_wp2
      go_ret
      exact ⟨by rw [HK.out]; rfl, HL.out⟩

end Go.Proofs.YtbgfmbmcabekeaaGreatDoor

/-
  package row: changes whose rows are valid: sound, ValidChange.
-/
namespace Go.Proofs.YtbgfmbmcabekeaaGreatDoor
open Go.RowKit
attribute [local go_sem ↓] Go.wp_at_zero Go.wp_at_succ

/-- a change -/
structure ChgT where
  t : Int
  k : Int
  had : Bool
  o1 : Int
  o2 : Int
  o3 : Int
  has : Bool
  n1 : Int
  n2 : Int
  n3 : Int
def ChgT.arr (c : ChgT) : Array Value := #[.int .i64 c.t, .int .i64 c.k, .bool c.had, .int .i64 c.o1, .int .i64 c.o2, .int .i64 c.o3, .bool c.has, .int .i64 c.n1, .int .i64 c.n2, .int .i64 c.n3]
def ChgT.val (c : ChgT) : Value := .agg c.arr
/-- each of the two rows is valid, or absent and zero -/
def ChgT.ok (c : ChgT) : Prop := ((0 ≤ c.t ∧ c.t ≤ 3) ∧ (1 ≤ c.k ∧ c.k ≤ 1000000)) ∧ (c.had = false → c.o1 = 0 ∧ c.o2 = 0 ∧ c.o3 = 0) ∧ (c.has = false → c.n1 = 0 ∧ c.n2 = 0 ∧ c.n3 = 0) ∧
  ((-1000000000 ≤ c.o1 ∧ c.o1 ≤ 1000000000) ∧ (-1000000000 ≤ c.o2 ∧ c.o2 ≤ 1000000000) ∧ (-1000000000 ≤ c.o3 ∧ c.o3 ≤ 1000000000)) ∧ ((-1000000000 ≤ c.n1 ∧ c.n1 ≤ 1000000000) ∧ (-1000000000 ≤ c.n2 ∧ c.n2 ≤ 1000000000) ∧ (-1000000000 ≤ c.n3 ∧ c.n3 ≤ 1000000000))
/-- the change changes something -/
def ChgT.turns (c : ChgT) : Bool := (c.had != c.has) || (c.had && !(decide (c.o1 = c.n1) && decide (c.o2 = c.n2) && decide (c.o3 = c.n3)))

theorem int_infoP : (Tryz.prog.info? 3).map (fun i => (i.zero, i.size, i.bytes)) = some (some (.int .i64 0), 1, 8) := by kernel_rfl
theorem eq3 (a b c x y z : Int) (W : World) : (Op.equalIn 10000 73 (.agg #[.int .i64 a, .int .i64 b, .int .i64 c]) (.agg #[.int .i64 x, .int .i64 y, .int .i64 z])).run Tryz.prog W = .ok (decide (a = x) && decide (b = y) && decide (c = z)) W := by
  obtain ⟨is, his, _, _, _⟩ := info_parts int_infoP
  have hc : Tryz.prog.cellsOf 3 = 1 := by kernel_rfl
  have hl : List.range 3 = [0, 1, 2] := by decide
  have hp : ∀ (k : Nat) (a : Array Value) (n : Int), a[k]? = some (.int .i64 n) → (part 3 a k).run Tryz.prog W = .ok (.int .i64 n) W := fun k a n h => run_part_plain W (by kernel_rfl) h
  have he : ∀ m n : Int, (Op.equalIn 9999 3 (.int .i64 m) (.int .i64 n)).run Tryz.prog W = .ok (m == n) W := fun m n => by
    rw [show 9999 = 9998 + 1 from rfl, run_equalIn_int (k' := .i64) W 9998 _ _ _ _ Tryz.underlying3]
  refine (run_equalIn_array (d := 9999) W #[.int .i64 a, .int .i64 b, .int .i64 c] #[.int .i64 x, .int .i64 y, .int .i64 z] Tryz.underlying73 his).trans ?_
  rw [hc, hl]
  by_cases h1 : a = x <;> by_cases h2 : b = y <;> by_cases h3 : c = z <;> simp [Op.eqItems, hp 0 _ a, hp 0 _ x, hp 1 _ b, hp 1 _ y, hp 2 _ c, hp 2 _ z, he, h1, h2, h3]

set_option maxRecDepth 100000 in
set_option maxHeartbeats 400000 in
theorem soundNo (c : ChgT) (w : World) : Calls Tryz.prog 119 #[.agg #[.int .i64 c.t, .int .i64 c.k, .bool c.had, .int .i64 c.o1, .int .i64 c.o2, .int .i64 c.o3, .bool c.has, .int .i64 c.n1, .int .i64 c.n2, .int .i64 c.n3], .bool false, .agg #[.int .i64 0, .int .i64 0, .int .i64 0]] w fun e w' => e = .returned (.bool true) ∧ Below w.heap.size w w' := by
  obtain ⟨t, k, had, o1, o2, o3, has, n1, n2, n3⟩ := c
  have heq : ∀ W : World, (Op.equalIn 10000 73 (.agg #[.int .i64 0, .int .i64 0, .int .i64 0]) (.agg #[.int .i64 0, .int .i64 0, .int .i64 0])).run Tryz.prog W = .ok true W := fun _ => by kernel_rfl
  go_enter Tryz.func119, Tryz.ntmps119
  go_wp2_with (go_at_call 113; refine (half_no _ _ _ _ _ _ _ _ _ _ _ _ _ _).mono ?_; rintro e W1 ⟨rfl, hb1⟩; have hB1 := (((Blk.new' (w.alloc (.cells #[.int .i64 t, .int .i64 k, .bool had, .int .i64 o1, .int .i64 o2, .int .i64 o3, .bool has, .int .i64 n1, .int .i64 n2, .int .i64 n3] 75)) 73 #[.int .i64 0, .int .i64 0, .int .i64 0] (b := w.heap.size + 1) (by simp)))).ext hb1; have c0 := hB1.cell 0; have c1 := hB1.cell 1; have c2 := hB1.cell 2; have l1 := hB1.lt; have HL1 := Lib.hid (ext_call (ext_alloc (ext_new w _) _) hb1); clear hb1 hB1)
  go_ret
  exact ⟨rfl, ext_alloc HL1.out _⟩

set_option maxRecDepth 100000 in
set_option maxHeartbeats 400000 in
theorem soundYes (c : ChgT) (a1 a2 a3 : Int) (w : World) (hr : RowT.ok ⟨c.t, c.k, a1, a2, a3⟩) : Calls Tryz.prog 119 #[.agg #[.int .i64 c.t, .int .i64 c.k, .bool c.had, .int .i64 c.o1, .int .i64 c.o2, .int .i64 c.o3, .bool c.has, .int .i64 c.n1, .int .i64 c.n2, .int .i64 c.n3], .bool true, .agg #[.int .i64 a1, .int .i64 a2, .int .i64 a3]] w fun e w' => e = .returned (.bool true) ∧ Below w.heap.size w w' := by
  obtain ⟨t, k, had, o1, o2, o3, has, n1, n2, n3⟩ := c
  have HR := Lib.hid (fun W : World => rowValid_yes ⟨t, k, a1, a2, a3⟩ W hr)
  clear hr
  go_enter Tryz.func119, Tryz.ntmps119
  go_wp2_with (first
    | (go_at_call 113; refine (half_yes _ _ _ _ _ _ _ _ _ _ _ _ _ _).mono ?_; rintro e W1 ⟨rfl, hb1⟩; have HL1 := Lib.hid (ext_call (ext_alloc (ext_new w _) _) hb1); clear hb1)
    | (go_at_call 83; refine (HR.out _).mono ?_; rintro e W2 ⟨rfl, hb2⟩; have HL2 := Lib.hid (ext_call (ext_alloc HL1.out _) hb2); clear hb2))
  go_ret
  exact ⟨rfl, HL2.out⟩

/-- sound at one of the two rows of a change -/
theorem sound_old (c : ChgT) (hc : c.ok) (w : World) : Calls Tryz.prog 119 #[.agg #[.int .i64 c.t, .int .i64 c.k, .bool c.had, .int .i64 c.o1, .int .i64 c.o2, .int .i64 c.o3, .bool c.has, .int .i64 c.n1, .int .i64 c.n2, .int .i64 c.n3], .bool c.had, .agg #[.int .i64 c.o1, .int .i64 c.o2, .int .i64 c.o3]] w fun e w' => e = .returned (.bool true) ∧ Below w.heap.size w w' := by
  obtain ⟨⟨h1, h2⟩, h3, h4, h5, h6⟩ := hc
  cases hh : c.had
  · obtain ⟨e1, e2, e3⟩ := h3 hh
    have := soundNo c w
    rw [hh, e1, e2, e3] at this
    rw [e1, e2, e3]
    exact this
  · have := soundYes c c.o1 c.o2 c.o3 w ⟨h1, h2, h5.1, h5.2.1, h5.2.2⟩
    rw [hh] at this
    exact this
theorem sound_new (c : ChgT) (hc : c.ok) (w : World) : Calls Tryz.prog 119 #[.agg #[.int .i64 c.t, .int .i64 c.k, .bool c.had, .int .i64 c.o1, .int .i64 c.o2, .int .i64 c.o3, .bool c.has, .int .i64 c.n1, .int .i64 c.n2, .int .i64 c.n3], .bool c.has, .agg #[.int .i64 c.n1, .int .i64 c.n2, .int .i64 c.n3]] w fun e w' => e = .returned (.bool true) ∧ Below w.heap.size w w' := by
  obtain ⟨⟨h1, h2⟩, h3, h4, h5, h6⟩ := hc
  cases hh : c.has
  · obtain ⟨e1, e2, e3⟩ := h4 hh
    have := soundNo c w
    rw [hh, e1, e2, e3] at this
    rw [e1, e2, e3]
    exact this
  · have := soundYes c c.n1 c.n2 c.n3 w ⟨h1, h2, h6.1, h6.2.1, h6.2.2⟩
    rw [hh] at this
    exact this

set_option maxRecDepth 100000 in
set_option maxHeartbeats 1000000 in
theorem validChange_any (c : ChgT) (hc : c.ok) (w : World) : Calls Tryz.prog 78 #[.agg #[.int .i64 c.t, .int .i64 c.k, .bool c.had, .int .i64 c.o1, .int .i64 c.o2, .int .i64 c.o3, .bool c.has, .int .i64 c.n1, .int .i64 c.n2, .int .i64 c.n3]] w fun e w' => e = .returned (.bool c.turns) ∧ Below w.heap.size w w' := by
  have HO := Lib.hid (fun W : World => sound_old c hc W)
  have HN := Lib.hid (fun W : World => sound_new c hc W)
  obtain ⟨b, hb⟩ : ∃ b, b = c.turns := ⟨_, rfl⟩
  rw [← hb]
  clear hc
  obtain ⟨t, k, had, o1, o2, o3, has, n1, n2, n3⟩ := c
  have heq := fun W : World => eq3 o1 o2 o3 n1 n2 n3 W
  have HB0 := Lib.hid (Blk.new w 75 #[.int .i64 t, .int .i64 k, .bool had, .int .i64 o1, .int .i64 o2, .int .i64 o3, .bool has, .int .i64 n1, .int .i64 n2, .int .i64 n3])
  simp only [ChgT.turns] at hb
  dsimp only at HO HN ⊢
  generalize (decide (o1 = n1) && decide (o2 = n2) && decide (o3 = n3)) = q at hb heq
  have HT := Lib.hid (fun W1 : World => fun (hb1 : Below (w.alloc (.cells #[.int .i64 t, .int .i64 k, .bool had, .int .i64 o1, .int .i64 o2, .int .i64 o3, .bool has, .int .i64 n1, .int .i64 n2, .int .i64 n3] 75)).heap.size (w.alloc (.cells #[.int .i64 t, .int .i64 k, .bool had, .int .i64 o1, .int .i64 o2, .int .i64 o3, .bool has, .int .i64 n1, .int .i64 n2, .int .i64 n3] 75)) W1) => And.intro (HB0.out.ext hb1) (ext_call (ext_new w _) hb1))
  cases had <;> cases has <;> cases q <;> simp only [Bool.false_bne, Bool.true_bne, Bool.not_true, Bool.not_false, Bool.or_true, Bool.or_false, Bool.true_or, Bool.false_or, Bool.and_true, Bool.and_false, Bool.false_and, Bool.true_and, bne_self_eq_false] at hb <;> subst hb <;> go_enter Tryz.func78, Tryz.ntmps78 <;> (go_wp2_with fail) <;>
    first
    | (go_ret; exact ⟨rfl, ext_new w _⟩)
    | (refine (HO.out _).mono ?_
       rintro e W1 ⟨rfl, hb1⟩
       have hB1 := (HT.out _ hb1).1
       have c0 := hB1.cell 0; have c1 := hB1.cell 1; have c2 := hB1.cell 2; have c3 := hB1.cell 3; have c4 := hB1.cell 4; have c5 := hB1.cell 5; have c6 := hB1.cell 6; have c7 := hB1.cell 7; have c8 := hB1.cell 8; have c9 := hB1.cell 9
       have HL1 := Lib.hid (HT.out _ hb1).2
       clear hb1 hB1
       go_wp2_with fail
       refine (HN.out _).mono ?_
       rintro e W2 ⟨rfl, hb2⟩
       go_wp2
       go_ret
       exact ⟨rfl, ext_call HL1.out hb2⟩)

end Go.Proofs.YtbgfmbmcabekeaaGreatDoor

/-
  package row: within at one number that is too small; lists of changes in memory; ValidRecord at valid changes in ascending order.
-/
namespace Go.Proofs.YtbgfmbmcabekeaaGreatDoor
open Go.RowKit
attribute [local go_sem ↓] Go.wp_at_zero Go.wp_at_succ

set_option maxHeartbeats 400000 in
theorem within1_low (n lo hi : Int) (bl bh : Nat) (w : World) (hl : w.cell? ⟨bl, 0, none⟩ = some (.int .i64 lo)) (h1 : n < lo) :
    Calls Tryz.prog 118 #[.int .i64 n, .pointer (some ⟨bl, 0, none⟩), .pointer (some ⟨bh, 0, none⟩)] w fun e w' => e = .returned (.bool true) ∧ w = w' := by
  have d1 : decide (n < lo) = true := decide_eq_true h1
  go_enter Tryz.func118, Tryz.ntmps118
  go_wp2
  go_ret
  exact ⟨rfl, rfl⟩
set_option maxHeartbeats 400000 in
theorem indexIn_low (b c : Nat) (n lo hi : Int) (bl bh : Nat) (w : World) (hl : w.cell? ⟨bl, 0, none⟩ = some (.int .i64 lo)) (hc : w.cell? ⟨b, 0, none⟩ = some (.int .i64 n)) (h1 : n < lo) :
    Calls Tryz.prog 164 #[.slice (some ⟨b, 0, none⟩) 1 c, .func (.func 118) #[] #[.pointer (some ⟨bl, 0, none⟩), .pointer (some ⟨bh, 0, none⟩)]] w fun e w' => e = .returned (.int .i64 0) ∧ w = w' := by
  go_enter Tryz.func164, Tryz.ntmps164
  go_wp2
  refine wp_loop_rounds 1 ?_
  rw [rounds_succ]
  go_wp2_with (go_at_call 118; refine (within1_low _ _ hi _ _ _ hl h1).mono ?_; rintro e w' ⟨rfl, rfl⟩)
  go_ret
  exact ⟨rfl, rfl⟩
set_option maxHeartbeats 400000 in
theorem within_low (b c : Nat) (n lo hi : Int) (w : World) (hc : w.cell? ⟨b, 0, none⟩ = some (.int .i64 n)) (h1 : n < lo) :
    Calls Tryz.prog 77 #[.int .i64 lo, .int .i64 hi, .slice (some ⟨b, 0, none⟩) 1 c] w fun e w' => e = .returned (.bool false) ∧ Below w.heap.size w w' := by
  have hmf : ∀ (fn : Fn) (first cap : Array Value) (w : World), (Instr.makeFunc fn first cap).run Tryz.prog w = .ok (.func fn first cap) w := fun _ _ _ _ => rfl
  have hbl : Below w.heap.size w ((w.alloc (.cells #[.int .i64 lo] 3)).alloc (.cells #[.int .i64 hi] 3)) := ((Below.refl _ _).alloc (Nat.le_refl _) _).alloc (by simp) _
  have HI := Lib.hid (indexIn_low b c n lo hi w.heap.size (w.heap.size + 1) ((w.alloc (.cells #[.int .i64 lo] 3)).alloc (.cells #[.int .i64 hi] 3)) (cell_al ((Blk.new _ _ _).cell 0) _) (cell_ext hc hbl) h1)
  have HB := Lib.hid hbl
  clear hc h1 hbl
  go_enter Tryz.func77, Tryz.ntmps77
  go_wp2_with (first
    | (go_at_call 117; go_in)
    | (go_at_call 164; refine HI.out.mono ?_; rintro e w' ⟨rfl, rfl⟩))
  go_ret
  exact ⟨rfl, HB.out⟩

/-- a list of changes in memory -/
def ChgsAt (w : World) (v : Value) (l : List ChgT) : Prop :=
  ∃ A c, v = .slice A l.length c ∧ l.length ≤ c ∧ (0 < l.length → ∃ b off, A = some ⟨b, off, none⟩ ∧ ∀ (j : Nat) (x : ChgT), l[j]? = some x → ∀ i, i < 10 → w.cell? ⟨b, off + j * 10 + i, none⟩ = x.arr[i]?)
theorem ChgT.arr_size (x : ChgT) : x.arr.size = 10 := rfl
theorem ChgsAt.ext {w W : World} {v : Value} {l : List ChgT} (h : ChgsAt w v l) (k : Below w.heap.size w W) : ChgsAt W v l := by
  obtain ⟨A, c, rfl, hc, h⟩ := h
  refine ⟨A, c, rfl, hc, fun h0 => ?_⟩
  obtain ⟨b, off, hA, hcell⟩ := h h0
  refine ⟨b, off, hA, fun j x hx i hi => ?_⟩
  have h1 := hcell j x hx i hi
  rw [Array.getElem?_eq_getElem (show i < x.arr.size from hi)] at h1 ⊢
  exact cell_ext h1 k
/-- the cells of one of the changes -/
theorem ChgsAt.at_ {w : World} {v : Value} {l : List ChgT} (h : ChgsAt w v l) {j : Nat} {x : ChgT} (hj : l[j]? = some x) : ∃ b off c, v = .slice (some ⟨b, off, none⟩) l.length c ∧ l.length ≤ c ∧ ∀ i, i < 10 → w.cell? ⟨b, off + j * 10 + i, none⟩ = x.arr[i]? := by
  obtain ⟨A, c, rfl, hc, h⟩ := h
  have hlt := (List.getElem?_eq_some_iff.1 hj).1
  obtain ⟨b, off, rfl, hcell⟩ := h (by omega)
  exact ⟨b, off, c, rfl, hc, hcell j x hj⟩
/-- valid changes, in ascending order -/
structure ChgsOK (l : List ChgT) : Prop where
  few : l.length ≤ 8
  ok : ∀ x ∈ l, x.ok
  asc : ∀ (j : Nat) (a b : ChgT), l[j]? = some a → l[j + 1]? = some b → a.t < b.t ∨ (a.t = b.t ∧ a.k < b.k)
def validF (l : List ChgT) : Bool := !l.isEmpty && l.all ChgT.turns
def noChg : ChgT := ⟨-1, 0, false, 0, 0, 0, false, 0, 0, 0⟩
def lastC (l : List ChgT) : Nat → ChgT
  | 0 => noChg
  | k + 1 => l.getD k noChg

set_option maxRecDepth 100000 in
set_option maxHeartbeats 2000000 in
theorem validRecord_any (p : Int) (hp : 1 ≤ p ∧ p ≤ 10000) (l : List ChgT) (v : Value) (w : World) (hv : ChgsAt w v l) (hl : ChgsOK l) : Calls Tryz.prog 47 #[.agg #[.int .i64 p, v]] w fun e w' => e = .returned (.bool (validF l)) ∧ Below w.heap.size w w' := by
  have I1 := Lib.hid (show inF 1 10000 [p] = true by simp [inF, hp.1, hp.2])
  have HV := Lib.hid hv
  have HL := Lib.hid hl
  obtain ⟨A, c, rfl, hc, -⟩ := hv
  have HB0 := Lib.hid (Blk.new w 46 #[.int .i64 p, .slice A l.length c])
  have hfew := hl.few
  clear hl
  go_enter Tryz.func47, Tryz.ntmps47
  go_wp2_with fail
  refine (within_yes (w.heap.size + 1) 0 1 [p] 1 10000 _ (.of_blk (Blk.new' _ _ _ (by simp)) 0 [p] rfl) (by simp) (by simp) I1.out).mono ?_
  rintro e W1 ⟨rfl, hb1⟩
  have hB1 := (HB0.out.alloc _).ext hb1
  have c1 := hB1.cell 1
  have HB1 := Lib.hid hB1
  have HL1 := Lib.hid (ext_call (ext_alloc (ext_new w _) _) hb1)
  clear hb1 hB1
  go_wp2_with fail
  by_cases h0 : l.length = 0
  · refine (within_low W1.heap.size 1 (l.length : Int) 1 8 _ ((Blk.new _ _ _).cell 0) (by omega)).mono ?_
    rintro e W2 ⟨rfl, hb2⟩
    have hF := Lib.hid (show validF l = false by rw [List.length_eq_zero_iff] at h0; rw [h0]; rfl)
    go_wp2
    go_ret
    exact ⟨by rw [hF.out]; rfl, ext_call (ext_alloc HL1.out _) hb2⟩
  refine (within_yes W1.heap.size 0 1 [(l.length : Int)] 1 8 _ (.of_blk (Blk.new _ _ _) 0 [(l.length : Int)] rfl) (by simp) (by simp) (by simp [inF]; omega)).mono ?_
  rintro e W2 ⟨rfl, hb2⟩
  have hB2 := (HB1.out.alloc _).ext hb2
  have c1 := hB2.cell 1
  have l1 := hB2.lt
  have HL2 := Lib.hid (ext_call (ext_alloc HL1.out _) hb2)
  clear hb2 hB2
  go_wp2
  have HB3 := Lib.hid (Blk.new W2 75 #[.int .i64 (-1), .int .i64 0, .bool false, .int .i64 0, .int .i64 0, .int .i64 0, .bool false, .int .i64 0, .int .i64 0, .int .i64 0])
  have HL3 := Lib.hid (ext_alloc HL2.out (.cells #[.int .i64 (-1), .int .i64 0, .bool false, .int .i64 0, .int .i64 0, .int .i64 0, .bool false, .int .i64 0, .int .i64 0, .int .i64 0] 75))
  have HS := Lib.hid (HL2.out.size)
  generalize hbl : W2.heap.size = bl at *
  generalize W2.alloc (.cells #[.int .i64 (-1), .int .i64 0, .bool false, .int .i64 0, .int .i64 0, .int .i64 0, .bool false, .int .i64 0, .int .i64 0, .int .i64 0] 75) = W3 at *
  clear c1 l1 HL2 HL1 HB1 HB0
  go_loopw [5, 23] (fun _ i W => ∃ k : Nat, k ≤ l.length ∧ i = .int .i64 k ∧ Blk W bl 75 (lastC l k).arr ∧ (∀ j x, j < k → l[j]? = some x → x.turns = true) ∧ Below w.heap.size w W) (fun _ i _ => l.length - (intOf i).toNat)
  case atStart => exact ⟨0, Nat.zero_le _, rfl, HB3.out, fun j x hj => by omega, HL3.out⟩
  case round =>
    obtain ⟨k, hk, rfl, hb, ht, hE⟩ := hrel
    have HE := Lib.hid hE
    have HT := Lib.hid ht
    clear hE ht
    by_cases hlt : k < l.length
    · obtain ⟨x, hx⟩ : ∃ x, l[k]? = some x := ⟨_, List.getElem?_eq_getElem hlt⟩
      obtain ⟨b, off, c', hA, _, hc9⟩ := (HV.out.ext HE.out).at_ hx
      injection hA with hA hn' hc'
      subst hA; subst hc'
      clear hn'
      have c0 := hc9 0 (by omega)
      have c1 := hc9 1 (by omega)
      have c2 := hc9 2 (by omega)
      have c3 := hc9 3 (by omega)
      have c4 := hc9 4 (by omega)
      have c5 := hc9 5 (by omega)
      have c6 := hc9 6 (by omega)
      have c7 := hc9 7 (by omega)
      have c8 := hc9 8 (by omega)
      have c9 := hc9 9 (by omega)
      have HVC := Lib.hid (fun W : World => validChange_any x (HL.out.ok x (List.mem_of_getElem? hx)) W)
      have HX := Lib.hid hx
      obtain ⟨t, k', had, o1, o2, o3, has, n1, n2, n3⟩ := x
      simp [ChgT.arr] at c0 c1 c2 c3 c4 c5 c6 c7 c8 c9
      have e2 : IntKind.i64.wrap ((k : Int) + 1) = (k : Int) + 1 := by rw [IntWalk.i64_in _ (by omega)]
      have d1 : decide ((k : Int) < (l.length : Int)) = true := by simp; omega
      have q0 : (0 : Int) ≤ (k : Int) := by omega
      have q1 : (k : Int) < (l.length : Int) := by omega
      clear hc9 hx
      have hcmp : ¬ t < (lastC l k).t ∧ ¬ (t = (lastC l k).t ∧ k' ≤ (lastC l k).k) := by
        cases k with
        | zero =>
          have h1 := (HL.out.ok _ (List.mem_of_getElem? HX.out)).1.1.1
          simp only [lastC, noChg] at h1 ⊢
          omega
        | succ k =>
          have hk' : k < l.length := by omega
          have h1 := HL.out.asc k l[k] _ (List.getElem?_eq_getElem hk') HX.out
          simp only [lastC, List.getD_eq_getElem?_getD, List.getElem?_eq_getElem hk', Option.getD_some] at h1 ⊢
          omega
      have HNX := Lib.hid (show (lastC l (k + 1)).arr = #[.int .i64 t, .int .i64 k', .bool had, .int .i64 o1, .int .i64 o2, .int .i64 o3, .bool has, .int .i64 n1, .int .i64 n2, .int .i64 n3] by simp [lastC, HX.out, ChgT.arr])
      have HTT := Lib.hid (fun (h : ChgT.turns ⟨t, k', had, o1, o2, o3, has, n1, n2, n3⟩ = false) => show validF l = false by
        have h1 : l.all ChgT.turns = false := by
          rw [List.all_eq_false]
          exact ⟨_, List.mem_of_getElem? HX.out, by simp [h]⟩
        simp [validF, h1])
      have HTN := Lib.hid (fun (h : ChgT.turns ⟨t, k', had, o1, o2, o3, has, n1, n2, n3⟩ = true) => show ∀ j x, j < k + 1 → l[j]? = some x → x.turns = true by
        intro j y hj hy
        rcases Nat.lt_succ_iff_lt_or_eq.1 hj with h2 | rfl
        · exact HT.out j y h2 hy
        · rw [HX.out] at hy
          injection hy with hy
          rw [← hy]
          exact h)
      clear HT
      obtain ⟨tt, htt⟩ : ∃ tt, tt = ChgT.turns ⟨t, k', had, o1, o2, o3, has, n1, n2, n3⟩ := ⟨_, rfl⟩
      rw [← htt] at HVC HTT HTN
      clear htt HX
      generalize lastC l k = la at *
      obtain ⟨lt, lk, lhad, lo1, lo2, lo3, lhas, ln1, ln2, ln3⟩ := la
      simp only [ChgT.arr] at hb
      simp only at hcmp
      obtain ⟨hc1, hc2⟩ := hcmp
      have hne : bl < wr.heap.size := hb.lt
      have HB := Lib.hid hb
      have HX0 := Lib.hid (Blk.new wr 75 #[.int .i64 t, .int .i64 k', .bool had, .int .i64 o1, .int .i64 o2, .int .i64 o3, .bool has, .int .i64 n1, .int .i64 n2, .int .i64 n3])
      clear hb
      go_wp2_with fail
      refine (HVC.out _).mono ?_
      rintro e W4 ⟨rfl, hb4⟩
      have HX4 := Lib.hid (HX0.out.ext hb4)
      have HB4 := Lib.hid ((HB.out.alloc _).ext hb4)
      have HE4 := Lib.hid (ext_call (ext_alloc HE.out _) hb4)
      clear hb4 c0 c1 c2 c3 c4 c5 c6 c7 c8 c9 HX0 HB HE
      cases tt
      · have hF := Lib.hid (HTT.out rfl)
        clear HTT HTN
        go_wp2
        go_ret
        exact ⟨by rw [hF.out]; rfl, HE4.out⟩
      have HTR := Lib.hid (HTN.out rfl)
      clear HTT HTN
      have hX4 := HX4.out
      have hB4 := HB4.out
      have c0 := hX4.cell 0; have c1 := hX4.cell 1; have c2 := hX4.cell 2; have c3 := hX4.cell 3; have c4 := hX4.cell 4; have c5 := hX4.cell 5; have c6 := hX4.cell 6; have c7 := hX4.cell 7; have c8 := hX4.cell 8; have c9 := hX4.cell 9
      have b0 := hB4.cell 0
      have b1 := hB4.cell 1
      have HI := Lib.hid chg_size
      clear hX4 hB4
      have d2 : decide (t < lt) = false := by simp; omega
      have hz : (((t == lt) && decide (k' ≤ lk)) : Bool) = false := by
        by_cases h1 : t = lt <;> simp [h1] <;> omega
      have H1 := Lib.hid (show (#[.int .i64 t, .int .i64 k', .bool had, .int .i64 o1, .int .i64 o2, .int .i64 o3, .bool has, .int .i64 n1, .int .i64 n2, .int .i64 n3] : Array Value).all (·.oneCell') = true by simp [Value.oneCell'])
      clear hc1 hc2
      by_cases h1 : t = lt
      · subst h1
        have h2 : decide (k' ≤ lk) = false := by simpa using hz
        clear hz
        go_wp2_with (refine wpList_store_blk rfl 75 (.tmp 3) (.tmp 51) rfl bl #[.int .i64 t, .int .i64 k', .bool had, .int .i64 o1, .int .i64 o2, .int .i64 o3, .bool has, .int .i64 n1, .int .i64 n2, .int .i64 n3] rfl rfl 75 _ HB4.out HI.out rfl H1.out ?_; intro W5 hB5 hg5; have HB5 := Lib.hid hB5; have HE5 := Lib.hid (HE4.out.grown hg5 HE4.out.size (fun j e => by injection e with e; have := HS.out; omega)); clear hB5 hg5)
        go_roundw
        case rel => exact ⟨k + 1, by omega, by go_num, by rw [HNX.out]; exact HB5.out, HTR.out, HE5.out⟩
        case measure => simp [intOf]; omega
      · have h2 : decide (t = lt) = false := by simpa using h1
        have h3 : (t == lt) = false := by simpa using h1
        clear hz
        go_wp2_with (refine wpList_store_blk rfl 75 (.tmp 3) (.tmp 51) rfl bl #[.int .i64 t, .int .i64 k', .bool had, .int .i64 o1, .int .i64 o2, .int .i64 o3, .bool has, .int .i64 n1, .int .i64 n2, .int .i64 n3] rfl rfl 75 _ HB4.out HI.out rfl H1.out ?_; intro W5 hB5 hg5; have HB5 := Lib.hid hB5; have HE5 := Lib.hid (HE4.out.grown hg5 HE4.out.size (fun j e => by injection e with e; have := HS.out; omega)); clear hB5 hg5)
        go_roundw
        case rel => exact ⟨k + 1, by omega, by go_num, by rw [HNX.out]; exact HB5.out, HTR.out, HE5.out⟩
        case measure => simp [intOf]; omega
    · have HF := Lib.hid (show validF l = true by
        have h1 : l.all ChgT.turns = true := by
          rw [List.all_eq_true]
          intro x hx
          obtain ⟨j, hj⟩ := List.getElem?_of_mem hx
          exact HT.out j x (by have := (List.getElem?_eq_some_iff.1 hj).1; omega) hj
        have h2 : l ≠ [] := by intro h; rw [h] at h0; simp at h0
        simp [validF, h1, h2])
      have d1 : decide ((k : Int) < (l.length : Int)) = false := by simp; omega
      go_wp2
      go_ret
      exact ⟨by rw [HF.out]; rfl, HE.out⟩

end Go.Proofs.YtbgfmbmcabekeaaGreatDoor

/-
  wire.PutInt at negative numbers of one group; package row: put, Encode, EncodeRecord at small numbers.
-/
namespace Go.Proofs.YtbgfmbmcabekeaaGreatDoor
open Go.RowKit Go.Shelf
attribute [local go_sem] Oper.semAt_some
attribute [local go_sem ↓] Go.wp_at_zero Go.wp_at_succ

/-- the encoding of small numbers -/
def encN (n : Int) : Nat := if 0 ≤ n then 2 * n.toNat else 2 * (-n - 1).toNat + 1
end Go.Proofs.YtbgfmbmcabekeaaGreatDoor

/-
  A range over an iterator that comes to one round: one law.
-/
namespace Go.Proofs.YtbgfmbmcabekeaaGreatDoor
open Go.RowKit Go.Shelf

def OncePost (B : Nat) (I1 : World → Prop) (W : World) : Exit → Act → World → Prop
  | .normal, _, W' => KeepsFrom B W W' ∧ I1 W'
  | _, _, _ => False

def OwnP (B : Nat) (I : World → Prop) : Prop := OwnFrom B (fun (_ : Unit) W => I W)
theorem OwnP.and {B : Nat} {I J : World → Prop} (h : OwnP B I) (k : OwnP B J) : OwnP B (fun W => I W ∧ J W) := OwnFrom.and h k
theorem OwnP.below {B B0 : Nat} {w : World} (h : B0 ≤ w.heap.size) (hB : B0 ≤ B) : OwnP B (fun W => Below B0 w W) :=
  fun _ _ _ _ hs hg hr => hs.grown hg (Nat.le_trans h hs.size) (fun k e => Nat.le_trans hB (hr k e).1)
theorem OwnP.blk {B g : Nat} {t : TypeId} {cs : Array Value} : OwnP B (fun W => Blk W g t cs) := fun _ X Y row hs hg hr =>
  (hg.block _ hs.lt (fun e => by
      obtain ⟨_, o, ho, hc⟩ := hr _ e.symm
      have h1 := hs
      unfold Blk at h1
      rw [h1] at ho
      cases ho
      cases hc)).trans hs
theorem OwnP.round {B : Nat} : OwnP B RoundOK := fun _ X Y row hs hg hr j v hv => cell_kept (hs j v hv) hg (fun r e => (hr r e).2)
theorem OwnP.pure {B : Nat} (p : Prop) : OwnP B (fun _ => p) := fun _ _ _ _ hs _ _ => hs
theorem OwnP.cell {B : Nat} {p : Addr} {v : Value} : OwnP B (fun W => W.cell? p = some v) := fun _ X Y row hs hg hr => cell_kept hs hg (fun r e => (hr r e).2)

end Go.Proofs.YtbgfmbmcabekeaaGreatDoor

/-
  Maps of no entry and of one entry: lookup, update, range.
-/
namespace Go.Proofs.YtbgfmbmcabekeaaGreatDoor
open Go.RowKit

/-- block g is the map of these entries -/
def MapAt (w : World) (g : Nat) (es : Array MapEntry) (c : Nat) : Prop := w.heap[g]? = some (.map es c)
section
variable {P : Program} {w W : World} {g c : Nat} {es : Array MapEntry}
theorem MapAt.ext (h : MapAt w g es c) (k : Below w.heap.size w W) : MapAt W g es c := heap_ext h k
theorem MapAt.lt (h : MapAt w g es c) : g < w.heap.size := (Array.getElem?_eq_some_iff.1 h).1
theorem MapAt.alloc (h : MapAt w g es c) (o : Obj) : MapAt (w.alloc o) g es c := h.ext (ext_new w o)
theorem MapAt.set (h : MapAt w g es c) (p : Addr) (v : Value) (hne : g ≠ p.block) : MapAt (w.setCell p v) g es c := (Below.heap_setCell w p v g hne).trans h
theorem MapAt.drewN (h : MapAt w g es c) (n : Nat) : MapAt (w.drewN n) g es c := h
theorem MapAt.new (w : World) : MapAt (w.alloc (.map #[] 0)) w.heap.size #[] 0 := World.alloc_heap_new w _
theorem MapAt.put (h : MapAt w g es c) (es' : Array MapEntry) (c' : Nat) : MapAt (w.putObj g (.map es' c')) g es' c' := World.putObj_heap_same h.lt
theorem Blk.putObj {t : TypeId} {cs : Array Value} {b : Nat} (h : Blk w b t cs) (o : Obj) (hne : b ≠ g) : Blk (w.putObj g o) b t cs := (World.putObj_heap_other hne).trans h
theorem ext_put {w0 : World} (h : Below w0.heap.size w0 w) (hg : w0.heap.size ≤ g) (o : Obj) : Below w0.heap.size w0 (w.putObj g o) :=
  ⟨h.os, h.tape, h.output, by simpa using h.size, fun k hk => (World.putObj_heap_other (by omega)).trans (h.block k hk)⟩

theorem getM (h : MapAt w g es c) : (getObj g).run P w = .ok (.map es c) w := by unfold MapAt at h; simp [getObj, Sem.run, h]
theorem setM (o : Obj) (h : MapAt w g es c) : (setObj g o).run P w = .ok () (w.putObj g o) := by unfold MapAt at h; simp [setObj, Sem.run, h, World.putObj]
theorem findK_nil {K : TypeId} {k : Value} {d : TypeDesc} (hK : P.underlying K = some d) : (Instr.findKey K k []).run P w = .ok none w := by simp [Instr.findKey, run_underlying hK, Result.andThen, Instr.findNow]
theorem lookup_none {T K E : TypeId} {k z : Value} {d : TypeDesc} (hT : P.underlying T = some (.map K E)) (h : MapAt w g #[] c) (hck : (Instr.checkKey true 10000 K k).run P w = .ok () w)
    (hK : P.underlying K = some d) (hz : (zeroValue E).run P w = .ok z w) : (Instr.lookup T (.map (some g)) k true).run P w = .ok (.tuple #[z, .bool false]) w := by
  unfold Instr.lookup
  have hf : (Instr.findKey K k []).run P w = .ok none w := findK_nil hK
  have hg := getM (P := P) h
  simp [run_underlying hT, Result.andThen, hg, hck, hf, hz]

theorem lookup_some {T K E : TypeId} {k v : Value} {i : Nat} (hT : P.underlying T = some (.map K E)) (h : MapAt w g es c) (hck : (Instr.checkKey es.isEmpty 10000 K k).run P w = .ok () w)
    (hf : (Instr.findKey K k es.toList).run P w = .ok (some (i, v)) w) : (Instr.lookup T (.map (some g)) k true).run P w = .ok (.tuple #[v, .bool true]) w := by
  unfold Instr.lookup
  have hg := getM (P := P) h
  simp [run_underlying hT, Result.andThen, hg, hck, hf]

theorem update_none {T K E : TypeId} {k v : Value} {d : TypeDesc} (hT : P.underlying T = some (.map K E)) (h : MapAt w g #[] c) (hck : (Instr.checkKey false 10000 K k).run P w = .ok () w)
    (hK : P.underlying K = some d) : (Instr.mapUpdate T (.map (some g)) k v).run P w = .ok () (w.putObj g (.map #[⟨k, v, c⟩] (c + 1))) := by
  unfold Instr.mapUpdate
  have hf : (Instr.findKey K k []).run P w = .ok none w := findK_nil hK
  have hg := getM (P := P) h
  have hs := fun o => setM (P := P) o h
  simp [run_underlying hT, Result.andThen, hg, hck, hf, hs]

theorem range_map {T K E : TypeId} (hT : P.underlying T = some (.map K E)) (h : MapAt w g es c) :
    (Instr.range T (.map (some g))).run P w = .ok (.pointer (some ⟨w.heap.size, 0, none⟩)) (w.alloc (.mapIter (some g) c #[] c)) := by
  unfold Instr.range
  have hg := getM (P := P) h
  simp [run_underlying hT, Result.andThen, hg]

theorem run_getObj_iter {r s st : Nat} {m : Option Nat} {seen : Array Nat} (h : w.heap[r]? = some (.mapIter m s seen st)) : (getObj r).run P w = .ok (.mapIter m s seen st) w := by simp [getObj, Sem.run, h]
theorem run_setObj_iter {r s st : Nat} {m : Option Nat} {seen : Array Nat} (h : w.heap[r]? = some (.mapIter m s seen st)) (o : Obj) : (setObj r o).run P w = .ok () (w.putObj r o) := by simp [setObj, Sem.run, h, World.putObj]

theorem next_empty {r : Nat} {t : TypeId} (h : MapAt w g #[] c) (hr : w.heap[r]? = some (.mapIter (some g) c #[] c)) :
    (Instr.next (.pointer (some ⟨r, 0, none⟩)) false t).run P w = .ok (.tuple #[.bool false]) w := by
  unfold Instr.next
  have hg := getM (P := P) h
  have hi := run_getObj_iter (P := P) hr
  simp [Result.andThen, hg, hi, Question.forced]

theorem next_one {r : Nat} {t : TypeId} {k v : Value} (h : MapAt w g #[⟨k, v, 0⟩] 1) (hr : w.heap[r]? = some (.mapIter (some g) 1 #[] 1)) :
    (Instr.next (.pointer (some ⟨r, 0, none⟩)) false t).run P w = .ok (.tuple #[.bool true, k, v]) (w.putObj r (.mapIter (some g) 1 #[0] 1)) := by
  unfold Instr.next
  have hg := getM (P := P) h
  have hi := run_getObj_iter (P := P) hr
  have hs := fun o => run_setObj_iter (P := P) hr o
  simp [Result.andThen, hg, hi, hs, Question.forced]

theorem next_over {r : Nat} {t : TypeId} {k v : Value} (h : MapAt w g #[⟨k, v, 0⟩] 1) (hr : w.heap[r]? = some (.mapIter (some g) 1 #[0] 1)) :
    (Instr.next (.pointer (some ⟨r, 0, none⟩)) false t).run P w = .ok (.tuple #[.bool false]) w := by
  unfold Instr.next
  have hg := getM (P := P) h
  have hi := run_getObj_iter (P := P) hr
  simp [Result.andThen, hg, hi, Question.forced]

theorem entry_one {r : Nat} {k v : Value} (h : MapAt w g #[⟨k, v, 0⟩] 1) (hr : w.heap[r]? = some (.mapIter (some g) 1 #[0] 1)) :
    (Instr.entry (.pointer (some ⟨r, 0, none⟩))).run P w = .ok (.tuple #[k, v]) w := by
  unfold Instr.entry
  have hg := getM (P := P) h
  have hi := run_getObj_iter (P := P) hr
  simp [Result.andThen, hg, hi]

theorem len_map {T K E : TypeId} (hT : P.underlying T = some (.map K E)) (h : MapAt w g es c) (t : TypeId) {v : Value} (hv : goInt es.size = v) : (Builtin.len_ #[T] t #[.map (some g)]).run P w = .ok v w := by
  subst hv
  unfold Builtin.len_
  have hg := getM (P := P) h
  simp [run_underlying hT, Result.andThen, hg]
end

/-- all blocks but two are as they were -/
structure Ext2 (a b : Nat) (w w' : World) : Prop where
  os : w'.os = w.os
  tape : w'.tape = w.tape
  output : w'.output = w.output
  size : w.heap.size ≤ w'.heap.size
  block : ∀ k, k < w.heap.size → k ≠ a → k ≠ b → w'.heap[k]? = w.heap[k]?
section
variable {w0 w w' w'' : World} {a b : Nat}
theorem Ext2.of_ext (h : Below w.heap.size w w') : Ext2 a b w w' := ⟨h.os, h.tape, h.output, h.size, fun k hk _ _ => h.block k hk⟩
theorem Ext2.trans (h : Ext2 a b w w') (k : Ext2 a b w' w'') : Ext2 a b w w'' := ⟨k.os.trans h.os, k.tape.trans h.tape, k.output.trans h.output, Nat.le_trans h.size k.size, fun i hi ha hb => (k.block i (Nat.lt_of_lt_of_le hi h.size) ha hb).trans (h.block i hi ha hb)⟩
theorem Ext2.ext (h : Ext2 a b w w') (k : Below w'.heap.size w' w'') : Ext2 a b w w'' := h.trans (.of_ext k)
theorem Ext2.put (h : Ext2 a b w w') (o : Obj) : Ext2 a b w (w'.putObj b o) := h.trans ⟨rfl, rfl, rfl, by simp, fun k _ _ hb => World.putObj_heap_other hb⟩
theorem Ext2.setA (h : Ext2 a b w w') (i : Nat) (v : Value) : Ext2 a b w (w'.setCell ⟨a, i, none⟩ v) := h.trans ⟨rfl, rfl, rfl, by simp [World.setCell], fun k _ ha _ => Below.heap_setCell _ _ _ _ ha⟩
theorem Ext2.drewN (h : Ext2 a b w w') (n : Nat) : Ext2 a b w (w'.drewN n) := ⟨h.os, h.tape, h.output, h.size, h.block⟩
theorem Ext2.below (h : Below w0.heap.size w0 w) (ha : w0.heap.size ≤ a) (hb : w0.heap.size ≤ b) (k : Ext2 a b w w') : Below w0.heap.size w0 w' :=
  ⟨k.os.trans h.os, by rw [k.tape]; exact h.tape, k.output.trans h.output, Nat.le_trans h.size k.size, fun i hi => (k.block i (Nat.lt_of_lt_of_le hi h.size) (by omega) (by omega)).trans (h.block i hi)⟩
theorem Blk.ext2 {g : Nat} {t : TypeId} {cs : Array Value} (h : Blk w g t cs) (k : Ext2 a b w w') (ha : g ≠ a) (hb : g ≠ b) : Blk w' g t cs := (k.block g h.lt ha hb).trans h
theorem MapAt.ext2 {g c : Nat} {es : Array MapEntry} (h : MapAt w g es c) (k : Ext2 a b w w') (ha : g ≠ a) (hb : g ≠ b) : MapAt w' g es c := (k.block g h.lt ha hb).trans h
theorem cell_ext2 {p : Addr} {v : Value} (h : w.cell? p = some v) (k : Ext2 a b w w') (ha : p.block ≠ a) (hb : p.block ≠ b) : w'.cell? p = some v := (World.cell?_of_block (k.block _ (lt_of_cell h) ha hb)).trans h
end

end Go.Proofs.YtbgfmbmcabekeaaGreatDoor

/-
  A range over an iterator of N rounds whose values may lie in memory that the iterator makes: one law.
-/
namespace Go.Proofs.YtbgfmbmcabekeaaGreatDoor
open Go.RowKit Go.Shelf

/-- an iterator of N rounds: C is what it reads, M k says of the k-th values where they lie -/
def SeqMem (n : Nat) (P : Program) (g : Nat) (lb : Array Value) (N : Nat) (C : World → Prop) (M : Nat → Array Value → World → Prop) : Prop :=
  ∀ (l : Nat) (J : Nat → World → Prop) (W : World), (∀ k W, J k W → C W) → (∀ k A B, J k A → Below A.heap.size A B → J k B) →
    (∀ k xs W1, k < N → J k W1 → M k xs W1 → YieldAt Fence.wide (n - 1) P l xs W1 fun e W' => e = .returned (.bool true) ∧ J (k + 1) W') → J 0 W →
    CallsIn Fence.wide n P g (#[.func (.yield l) #[] #[]] ++ lb) W fun e W' => (∃ v, e = .returned v) ∧ J N W'

theorem below_grown {A B : World} (h : Below A.heap.size A B) : A.grownBy B none := ⟨h.os, h.tape, h.output, h.size, fun k hk _ => h.block k hk⟩
theorem OwnP.abide {B : Nat} {I : World → Prop} (h : OwnP B I) {X Y : World} (hs : I X) (hb : Below X.heap.size X Y) : I Y := h () X Y none hs (below_grown hb) (fun r e => by cases e)
theorem OwnP.map {B g c : Nat} {es : Array MapEntry} (hg : g < B) : OwnP B (fun W => MapAt W g es c) := fun _ X Y row hs hgr hr =>
  (hgr.block _ hs.lt (fun e => by have := (hr _ e.symm).1; omega)).trans hs

theorem wpIn_mem {n : Nat} {P : Program} {g : Operand} {ps : Array Tmp} {assign body : Code} {Q : Exit → Act → World → Prop} {a : Act} {w : World}
    (h1 : 1 ≤ n) {gf : Nat} {lb : Array Value} (hg : a.eval g = .func (.func gf) #[] lb) (eg : ∀ args w, (callFunc gf args).run P w = .ok (.enter gf args) w)
    {N : Nat} {C : World → Prop} {M : Nat → Array Value → World → Prop} (hseq : SeqMem (n - 1) P gf lb N C M) (hps : ∀ k xs W, M k xs W → xs.size = ps.size)
    (I : Nat → World → Prop) (hI : ∀ k, OwnP w.heap.size (I k)) (hC : ∀ k W, I k W → C W) (h0 : I 0 w)
    (Ax : Nat → Act → World → Prop) (hAx : ∀ k a', OwnP w.heap.size (Ax k a'))
    (hassign : ∀ (l k : Nat) (xs : Array Value) (W : World) (K : Act → World → Prop), k < N → w.heap.size ≤ W.heap.size → I k W → M k xs W → (∀ a' W', KeepsFrom w.heap.size W W' → I k W' → Ax k a' W' → K a' W') →
      assign.wpIn (Fence.wide.inRound l) (n - 1 - 1) P (Exit.then K (fun _ _ _ => False)) { tmps := (ps.zip xs).foldl (fun t (p, v) => t.setIfInBounds p v) a.tmps, defers := [] } W)
    (hbody : ∀ (l k : Nat) (a' : Act) (W : World), k < N → w.heap.size ≤ W.heap.size → I k W → Ax k a' W → body.wpIn (Fence.wide.inRound l) (n - 1 - 1) P (OncePost w.heap.size (I (k + 1)) W) a' W)
    (hdone : ∀ (D : Nat) (W : World), w.heap.size ≤ D → I N W → W.heap[D]? = some (.deferred (some [])) → Q .normal { a with defers := { target := .collected D, args := #[] } :: a.defers } W) :
    (Code.rangeFunc g ps assign body).wpIn Fence.wide n P Q a w := by
  refine wpIn_rangeFunc ?_
  intro fn hfn
  obtain ⟨rec, hrec⟩ : ∃ rec : LoopState → Option Code → Loop, rec = fun st pe => { state := st, pending := pe, fn, tmps := a.tmps, params := ps, assign, body, defers := w.heap.size } := ⟨_, rfl⟩
  obtain ⟨W1, hW1⟩ : ∃ W1, (w.alloc (.deferred (some []))).alloc (.loop (rec .ready none)) = W1 := ⟨_, rfl⟩
  have hL1 : W1.heap[w.heap.size + 1]? = some (.loop (rec .ready none)) := by
    rw [← hW1, ← World.size_alloc w (.deferred (some []))]; exact World.alloc_heap_new _ _
  have hD1 : W1.heap[w.heap.size]? = some (.deferred (some [])) := by
    rw [← hW1]; exact (Below.heap_alloc _ _ _ (by simp)).trans (World.alloc_heap_new w _)
  have hE1 : Below w.heap.size w W1 := by rw [← hW1]; exact ext_alloc (ext_new _ _) _
  have hs1 : w.heap.size + 1 < W1.heap.size := (Array.getElem?_eq_some_iff.1 hL1).1
  refine ⟨w.heap.size + 1, [{ target := .collected w.heap.size, args := #[] }], W1, { target := .fn (.func gf) lb, args := #[.func (.yield (w.heap.size + 1)) #[] #[]] }, W1, gf,
    #[.func (.yield (w.heap.size + 1)) #[] #[]] ++ lb, W1, ?_, ?_, fun _ _ => trivial, ?_, fun _ => h1, ?_⟩
  · rw [← hW1, hrec]; exact run_enterLoop_outer _ _ _ _ _
  · simp only [resolve, hg]
    simp [go_sem]
  · simp [invoke, go_sem, eg]
  let J : Nat → World → Prop := fun k W => I k W ∧ w.heap.size + 1 < W.heap.size ∧ W.heap[w.heap.size + 1]? = some (.loop (rec .ready none)) ∧ W.heap[w.heap.size]? = some (.deferred (some []))
  refine (hseq (w.heap.size + 1) J W1 (fun k W h => hC k W h.1) (fun k A B h hb => ⟨(hI k).abide h.1 hb, Nat.lt_of_lt_of_le h.2.1 hb.size, heap_ext h.2.2.1 hb, heap_ext h.2.2.2 hb⟩) ?_ ⟨(hI 0).abide h0 hE1, hs1, hL1, hD1⟩).mono ?_
  · rintro k xs W hk ⟨hi, hlt, hl, hd⟩ hm
    have hy := run_yield (P := P) (args := xs) hl (by rw [hrec]; exact hps k xs W hm)
    rw [hrec] at hy
    refine ⟨fn, _, assign, body, hy, roundIn_of_wpIn hfn (hassign _ k xs W _ hk (by omega) hi hm ?_)⟩
    intro a' Wa hka hia hax
    have hla := hka.same _ _ (by omega) hl rfl
    have hda := hka.same _ _ (Nat.le_refl _) hd rfl
    have hlta : w.heap.size + 1 < Wa.heap.size := (Array.getElem?_eq_some_iff.1 hla).1
    refine ⟨_, run_beginRound hla (by rw [hrec]), ?_⟩
    have hlb : (Wa.putObj (w.heap.size + 1) (.loop { rec .ready none with state := .busy })).heap[w.heap.size + 1]? = some (.loop { rec .ready none with state := .busy }) := World.putObj_heap_same hlta
    have hdb : (Wa.putObj (w.heap.size + 1) (.loop { rec .ready none with state := .busy })).heap[w.heap.size]? = some (.deferred (some [])) := (World.putObj_heap_other (by omega)).trans hda
    refine wpIn_mono (hbody _ k a' _ hk (by simp; omega) (OwnFrom.putObj (s := ()) (hI k) _ hia (by omega) hla rfl) (OwnFrom.putObj (s := ()) (hAx k a') _ hax (by omega) hla rfl)) ?_
    rintro e a3 W3 hp
    cases e with
    | normal =>
      obtain ⟨hk3, hi3⟩ := hp
      have hl3 := hk3.same _ _ (by omega) hlb rfl
      have hd3 := hk3.same _ _ (Nat.le_refl _) hdb rfl
      have hlt3 : w.heap.size + 1 < W3.heap.size := (Array.getElem?_eq_some_iff.1 hl3).1
      have hr := run_endRound (P := P) none hl3
      refine ⟨_, _, hr, rfl, OwnFrom.putObj (s := ()) (hI (k + 1)) _ hi3 (by omega) hl3 rfl, by simpa using hlt3, ?_, (World.putObj_heap_other (by omega)).trans hd3⟩
      rw [hrec]
      exact World.putObj_heap_same hlt3
    | _ => exact hp.elim
  · rintro e W2 ⟨⟨v, rfl⟩, hi, _, hl, hd⟩
    exact ⟨none, _, by have := run_endLoop (P := P) hl (by rw [hrec]; simp); rw [hrec] at this; exact this, hdone _ _ (Nat.le_refl _) (OwnFrom.putObj (s := ()) (hI N) _ hi (by omega) hl rfl) ((World.putObj_heap_other (by omega)).trans hd)⟩

end Go.Proofs.YtbgfmbmcabekeaaGreatDoor

/-
  A range over an iterator whose value is a struct of two cells, in a box of the round; an append as a rule for the walk.
-/
namespace Go.Proofs.YtbgfmbmcabekeaaGreatDoor
open Go.RowKit Go.Shelf

theorem wpIn_mem_box2 {n : Nat} {P : Program} {g : Operand} {ps : Array Tmp} {assign body : Code} {Q : Exit → Act → World → Prop} {a : Act} {w : World}
    (h1 : 1 ≤ n) {gf : Nat} {lb : Array Value} (hg : a.eval g = .func (.func gf) #[] lb) (eg : ∀ args w, (callFunc gf args).run P w = .ok (.enter gf args) w)
    {N : Nat} {C : World → Prop} {M : Nat → Value → Value → World → Prop} (hseq : SeqMem (n - 1) P gf lb N C (fun k xs W => ∃ v1 v2, xs = #[.agg #[v1, v2]] ∧ M k v1 v2 W)) (hps : ps.size = 1)
    (I : Nat → World → Prop) (hI : ∀ k, OwnP w.heap.size (I k)) (hC : ∀ k W, I k W → C W) (h0 : I 0 w) (hM : ∀ k v1 v2, OwnP w.heap.size (M k v1 v2))
    (hMs : ∀ k v1 v2 W, M k v1 v2 W → ∃ A1 n1 c1 A2 n2 c2, v1 = .slice A1 n1 c1 ∧ v2 = .slice A2 n2 c2) (t : TypeId) (Fr : Nat → Option Addr → Nat → Nat → Option Addr → Nat → Nat → Act)
    (hassign : ∀ (l h : Nat) (A1 : Option Addr) (n1 c1 : Nat) (A2 : Option Addr) (n2 c2 : Nat) (W : World) (K : Act → World → Prop), h = W.heap.size → K (Fr h A1 n1 c1 A2 n2 c2) (W.alloc (.cells #[.slice A1 n1 c1, .slice A2 n2 c2] t)) →
      assign.wpIn (Fence.wide.inRound l) (n - 1 - 1) P (Exit.then K (fun _ _ _ => False)) { tmps := (ps.zip #[.agg #[.slice A1 n1 c1, .slice A2 n2 c2]]).foldl (fun t (p, v) => t.setIfInBounds p v) a.tmps, defers := [] } W)
    (hbody : ∀ (l h k : Nat) (A1 : Option Addr) (n1 c1 : Nat) (A2 : Option Addr) (n2 c2 : Nat) (W : World), k < N → w.heap.size ≤ W.heap.size → w.heap.size ≤ h → Blk W h t #[.slice A1 n1 c1, .slice A2 n2 c2] → M k (.slice A1 n1 c1) (.slice A2 n2 c2) W → I k W →
      body.wpIn (Fence.wide.inRound l) (n - 1 - 1) P (OncePost w.heap.size (I (k + 1)) W) (Fr h A1 n1 c1 A2 n2 c2) W)
    (hdone : ∀ (D : Nat) (W : World), w.heap.size ≤ D → I N W → W.heap[D]? = some (.deferred (some [])) → Q .normal { a with defers := { target := .collected D, args := #[] } :: a.defers } W) :
    (Code.rangeFunc g ps assign body).wpIn Fence.wide n P Q a w :=
  wpIn_mem h1 hg eg hseq (fun k xs W h => by obtain ⟨v1, v2, rfl, _⟩ := h; rw [hps]; rfl) I hI hC h0 (fun k a' W => ∃ h A1 n1 c1 A2 n2 c2, w.heap.size ≤ h ∧ a' = Fr h A1 n1 c1 A2 n2 c2 ∧ Blk W h t #[.slice A1 n1 c1, .slice A2 n2 c2] ∧ M k (.slice A1 n1 c1) (.slice A2 n2 c2) W)
    (fun k a' _ X Y row hs hg hr => by
      obtain ⟨h, A1, n1, c1, A2, n2, c2, hh, ha, hB, hm⟩ := hs
      exact ⟨h, A1, n1, c1, A2, n2, c2, hh, ha, OwnP.blk (B := w.heap.size) () X Y row hB hg hr, hM k _ _ () X Y row hm hg hr⟩)
    (fun l k xs W K hk hsz hI' hm hK => by
      obtain ⟨v1, v2, rfl, hm⟩ := hm
      obtain ⟨A1, n1, c1, A2, n2, c2, rfl, rfl⟩ := hMs k v1 v2 W hm
      exact hassign l W.heap.size A1 n1 c1 A2 n2 c2 W K rfl (hK _ _ ((KeepsOthers.alloc W _).from _) (OwnFrom.alloc (s := ()) (hI k) _ hI') ⟨_, A1, n1, c1, A2, n2, c2, hsz, rfl, Blk.new _ _ _, OwnFrom.alloc (s := ()) (hM k _ _) _ hm⟩))
    (fun l k a' W hk hsz hI' hA => by
      obtain ⟨h, A1, n1, c1, A2, n2, c2, hh, rfl, hB, hm⟩ := hA
      exact hbody l h k A1 n1 c1 A2 n2 c2 W hk hsz hh hB hm hI') hdone

/-- an append that runs -/
def AppOK (P : Program) (w : World) (t ty : TypeId) (v x : Value) : Prop := ∃ v' w', (Builtin.append_ #[t, t] ty #[v, x]).run P w = .ok v' w'
def appV (P : Program) (w : World) (t ty : TypeId) (v x : Value) : Value := match (Builtin.append_ #[t, t] ty #[v, x]).run P w with | .ok v' _ => v' | _ => undef
def appW (P : Program) (w : World) (t ty : TypeId) (v x : Value) : World := match (Builtin.append_ #[t, t] ty #[v, x]).run P w with | .ok _ w' => w' | _ => w
theorem app_run {P : Program} {w : World} {t ty : TypeId} {v x : Value} (h : AppOK P w t ty v x) : (Builtin.append_ #[t, t] ty #[v, x]).run P w = .ok (appV P w t ty v x) (appW P w t ty v x) := by
  obtain ⟨v', w', h⟩ := h
  unfold appV appW
  rw [h]
theorem app_exec {P : Program} {w : World} {ρ : Operand → Value} {d : Option Tmp} {s x : Operand} {t ty : TypeId} {p : String} {af : Array Edge} {g : Option (Nat × Bool)} (h : AppOK P w t ty (ρ s) (ρ x)) :
    (execOp ρ { dst := d, op := .call { callee := .builtin .append, args := #[s, x], argTypes := #[t, t] }, type := ty, pos := p, after := af, guard := g }).run P w = .ok (.value (appV P w t ty (ρ s) (ρ x))) (appW P w t ty (ρ s) (ρ x)) := by
  have h' := app_run h
  unfold execOp
  simp only [resolve, invoke, builtin, Sem.run_bind, Sem.run_pure, Result.andThen_ok, List.map_toArray, List.map_cons, List.map_nil, h']
theorem app_sem {P : Program} {w : World} {ro : Option Nat} {ρ : Operand → Value} {d : Option Tmp} {s x : Operand} {t ty : TypeId} {p : String} {af : Array Edge} {g : Option (Nat × Bool)} (h : AppOK P w t ty (ρ s) (ρ x)) :
    (Oper.semAt ro ρ { dst := d, op := .call { callee := .builtin .append, args := #[s, x], argTypes := #[t, t] }, type := ty, pos := p, after := af, guard := g }).run P w = .ok (.value (appV P w t ty (ρ s) (ρ x))) (appW P w t ty (ρ s) (ρ x)) := by
  rw [Oper.semAt_eq ro ρ _ (by intro c h; cases h)]
  exact app_exec h
theorem run_semAt {P : Program} {w : World} {l : Nat} {ρ : Operand → Value} {o : Oper} (h : ∀ c, o.op ≠ .defer c) : (Oper.semAt (some l) ρ o).run P w = (execOp ρ o).run P w := by rw [Oper.semAt_eq _ ρ o h]
theorem app_own {P : Program} {w : World} (base : Nat) (t ty e : TypeId) (i : TypeInfo) (z : Value) (size bytes : Nat) (ht : P.underlying t = some (.slice e)) (hi : P.info? e = some i) (hz : i.zero = some z)
    (hsize : i.size = size) (hby : i.bytes = bytes) (hzs : z.cells.size = size) (hsz : 0 < size)
    (v : Value) (n : Nat) (xs : List Value) (hown : w.ownsRow base e size v n xs)
    (a : Addr) (m c : Nat) (news : List Value) (hl : news.length = m * size) (hnews : ∀ j u, news[j]? = some u → w.cell? (a.add j) = some u) (h1 : ∀ u ∈ news, u.oneCell' = true)
    (h63 : n + m ≤ maxLen) (hbytes : (n + m) * bytes ≤ 140737488355328) (hbase : base ≤ w.heap.size) :
    AppOK P w t ty v (.slice (some a) m c) ∧ (appW P w t ty v (.slice (some a) m c)).ownsRow base e size (appV P w t ty v (.slice (some a) m c)) (n + m) (xs ++ news) ∧ w.grownBy (appW P w t ty v (.slice (some a) m c)) v.ownBlock := by
  obtain ⟨v', w', hr, ho, hg, _⟩ := run_append_own (P := P) (w := w) base t ty e i z size bytes ht hi hz hsize hby hzs hsz v n xs hown a m c news hl hnews h1 h63 hbytes hbase
  have hv : appV P w t ty v (.slice (some a) m c) = v' := by unfold appV; rw [hr]
  have hw : appW P w t ty v (.slice (some a) m c) = w' := by unfold appW; rw [hr]
  rw [hv, hw]
  exact ⟨⟨_, _, hr⟩, ho, hg⟩

end Go.Proofs.YtbgfmbmcabekeaaGreatDoor
