/-
  package cachetierref03: Same at records with the same changes; package cachetierref09: SameRecords of one record.
-/
import Derived.Test.YtbgfmbmcabekeaaGreatDoorJ16
import Derived.ChangeKeysEq
set_option linter.unusedSimpArgs false
set_option linter.unusedVariables false

namespace Go.Proofs.YtbgfmbmcabekeaaGreatDoor
open Go.RowKit Go.Shelf

theorem int_size1 : (Tryz.prog.info? 3).map (·.size) = some 1 := by kernel_rfl
theorem eq3s (a b c : Int) (W : World) : (Op.equalIn 9999 73 (.agg #[.int .i64 a, .int .i64 b, .int .i64 c]) (.agg #[.int .i64 a, .int .i64 b, .int .i64 c])).run Tryz.prog W = .ok true W := by
  obtain ⟨is, his, _⟩ := Option.map_eq_some_iff.1 int_size1
  have hc : Tryz.prog.cellsOf 3 = 1 := by kernel_rfl
  have hl : List.range 3 = [0, 1, 2] := by decide
  have hp : ∀ (k : Nat) (a : Array Value) (n : Int), a[k]? = some (.int .i64 n) → (part 3 a k).run Tryz.prog W = .ok (.int .i64 n) W := fun k a n h => run_part_plain W (by kernel_rfl) h
  have he : ∀ m n : Int, (Op.equalIn 9998 3 (.int .i64 m) (.int .i64 n)).run Tryz.prog W = .ok (m == n) W := fun m n => by
    rw [show 9998 = 9997 + 1 from rfl, run_equalIn_int (k' := .i64) W 9997 _ _ _ _ Tryz.underlying3]
  refine (run_equalIn_array (d := 9998) W #[.int .i64 a, .int .i64 b, .int .i64 c] #[.int .i64 a, .int .i64 b, .int .i64 c] Tryz.underlying73 his).trans ?_
  rw [hc, hl]
  simp [Op.eqItems, hp 0 _ a, hp 1 _ b, hp 2 _ c, he]
theorem chgEqT (x : ChgT) (W : World) : (Op.equal 75 (.agg x.arr) (.agg x.arr)).run Tryz.prog W = .ok true W := by
  unfold Op.equal Op.maxDepth ChgT.arr
  simp [go_sem, eq3s]
theorem chgEqI (x : ChgT) (W : World) : (Op.equalIn 10000 75 (.agg x.arr) (.agg x.arr)).run Tryz.prog W = .ok true W := chgEqT x W
/-- a load of cells that lie one behind the other -/
theorem ld_rng {P : Program} {W : World} {b o : Nat} {ty : TypeId} {cs : Array Value} {d : TypeDesc} (h : ∀ i, i < cs.size → W.cell? ⟨b, o + i, none⟩ = cs[i]?) (hu : P.underlying ty = some d) (hd : d.isRow = true) (hi : (P.info? ty).map (·.size) = some cs.size) :
    LdOK P W (.pointer (some ⟨b, o, none⟩)) ty ∧ ldV P W (.pointer (some ⟨b, o, none⟩)) ty = .agg cs := by
  have hr : W.rangeAt b o cs.toList := fun j v hv => by
    have hj : j < cs.size := by have := (List.getElem?_eq_some_iff.1 hv).1; simpa using this
    rw [h j hj]
    simpa using hv
  have := run_loadAt_mid (P := P) W b o ty cs.toList d hr hu hd (by simpa using hi)
  simp only [Array.toArray_toList] at this
  exact ⟨⟨_, this⟩, by unfold ldV; rw [this]⟩

attribute [local go_sem ↓] ld_exec ld_sem
set_option maxRecDepth 100000 in
set_option maxHeartbeats 2000000 in
theorem same03_yes (p : Int) (l : List ChgT) (va vb : Value) (w : World) (ha : ChgsAt w va l) (hb : ChgsAt w vb l) (hl : l.length ≤ 1000) :
    Calls Tryz.prog 55 #[.agg #[.int .i64 p, va], .agg #[.int .i64 p, vb]] w fun e w' => e = .returned (.bool true) ∧ Below w.heap.size w w' := by
  obtain ⟨X, hX⟩ : ∃ X, X = (w.alloc (.cells #[.int .i64 p, va] 46)).alloc (.cells #[.int .i64 p, vb] 46) := ⟨_, rfl⟩
  have HX := Lib.hid hX
  have HEX := Lib.hid (show Below w.heap.size w X by rw [hX]; exact ext_alloc (ext_new _ _) _)
  have HBA := Lib.hid (show Blk X w.heap.size 46 #[.int .i64 p, va] by rw [hX]; exact (Blk.new _ _ _).alloc _)
  have HBB := Lib.hid (show Blk X (w.heap.size + 1) 46 #[.int .i64 p, vb] by rw [hX]; exact Blk.new' _ _ _ (by simp))
  have HA := Lib.hid (ha.ext HEX.out)
  have HB := Lib.hid (hb.ext HEX.out)
  obtain ⟨Aa, ca, rfl, _⟩ := ha
  obtain ⟨Ab, cb, rfl, _⟩ := hb
  clear hX
  have x0 := HBA.out.cell 0
  have x1 := HBA.out.cell 1
  have y0 := HBB.out.cell 0
  have y1 := HBB.out.cell 1
  go_enter Tryz.func55, Tryz.ntmps55
  go_upto_region 1 with (fail)
  rw [← HX.out]
  go_wp2
  clear x0 x1 y0 y1
  go_loopw [5] (fun i W => ∃ k : Nat, k ≤ l.length ∧ i = .int .i64 k ∧ Below X.heap.size X W) (fun i _ => l.length - (intOf i).toNat)
  case atStart => exact ⟨0, Nat.zero_le _, rfl, by first | exact ext_refl X | exact (ext_refl X).drew⟩
  case round =>
    obtain ⟨k, hk, rfl, hE⟩ := hrel
    have HE := Lib.hid hE
    clear hE
    have x1 := (HBA.out.ext HE.out).cell 1
    have y1 := (HBB.out.ext HE.out).cell 1
    have e2 : IntKind.i64.wrap ((k : Int) + 1) = (k : Int) + 1 := by rw [IntWalk.i64_in _ (by omega)]
    by_cases hlt : k < l.length
    · have d1 : decide ((k : Int) < (l.length : Int)) = true := by simp; omega
      obtain ⟨x, hx⟩ : ∃ x, l[k]? = some x := ⟨_, List.getElem?_eq_getElem hlt⟩
      obtain ⟨b1, o1, c1, hA1, _, hcell1⟩ := (HA.out.ext HE.out).at_ hx
      injection hA1 with hA1 _ hA3
      subst hA1
      subst hA3
      obtain ⟨b2, o2, c2, hB1, _, hcell2⟩ := (HB.out.ext HE.out).at_ hx
      injection hB1 with hB1 _ hB3
      subst hB1
      subst hB3
      obtain ⟨p1, r1⟩ := ld_rng (P := Tryz.prog) (W := wr.drew) (ty := 75) (cs := x.arr) hcell1 Tryz.underlying75 rfl (by kernel_rfl)
      obtain ⟨p2, r2⟩ := ld_rng (P := Tryz.prog) (W := wr.drew) (ty := 75) (cs := x.arr) hcell2 Tryz.underlying75 rfl (by kernel_rfl)
      have hq := chgEqI x
      have q0 : (0 : Int) ≤ (k : Int) := by omega
      have q1 : (k : Int) < (l.length : Int) := by omega
      clear hcell1 hcell2 hx
      go_wp2
      go_region
      go_wp2
      go_roundw
      case rel => exact ⟨k + 1, by omega, by go_num, HE.out.drew⟩
      case measure => simp [intOf]; omega
    · have d1 : decide ((k : Int) < (l.length : Int)) = false := by simp; omega
      go_wp2
      go_ret
      exact ⟨rfl, ext_call HEX.out HE.out⟩

/-- what stays: two records that can be loaded -/
theorem keepL2 {X W : World} {A B : Nat} {t : TypeId} {u v : Array Value} (hu : HeadB X A u) (hv : HeadB X B v) {ty : TypeId} {d : TypeDesc} (hd : Tryz.prog.underlying ty = some d) (hr : d.isRow = true) (i1 : (Tryz.prog.info? ty).map (·.size) = some u.size) (i2 : (Tryz.prog.info? ty).map (·.size) = some v.size) (k : Below X.heap.size X W) :
    (LdOK Tryz.prog W (.pointer (some ⟨A, 0, none⟩)) ty ∧ ldV Tryz.prog W (.pointer (some ⟨A, 0, none⟩)) ty = .agg u) ∧ (LdOK Tryz.prog W (.pointer (some ⟨B, 0, none⟩)) ty ∧ ldV Tryz.prog W (.pointer (some ⟨B, 0, none⟩)) ty = .agg v) ∧ Below X.heap.size X W :=
  ⟨ld_rng (fun i hi => by rw [Nat.zero_add]; exact (hu.ext k).cells i hi) hd hr i1, ld_rng (fun i hi => by rw [Nat.zero_add]; exact (hv.ext k).cells i hi) hd hr i2, k⟩

set_option maxRecDepth 100000 in
set_option maxHeartbeats 2000000 in
theorem same09_one (p : Int) (l : List ChgT) (va vb : Value) (ga gb ca cb : Nat) (w : World) (ha : HeadB w ga #[.int .i64 p, va]) (hb : HeadB w gb #[.int .i64 p, vb]) (hla : ChgsAt w va l) (hlb : ChgsAt w vb l) (hl : l.length ≤ 1000) :
    Calls Tryz.prog 22 #[.slice (some ⟨ga, 0, none⟩) 1 ca, .slice (some ⟨gb, 0, none⟩) 1 cb] w fun e w' => e = .returned (.bool true) ∧ Below w.heap.size w w' := by
  have HK := Lib.hid (fun (W : World) (k : Below w.heap.size w W) => keepL2 (t := 46) ha hb (ty := 46) Tryz.underlying46 rfl (by kernel_rfl) (by kernel_rfl) k)
  have HS := Lib.hid (fun (W : World) (k : Below w.heap.size w W) => same03_yes p l va vb W (hla.ext k) (hlb.ext k) hl)
  clear ha hb hla hlb hl
  go_enter Tryz.func22, Tryz.ntmps22
  go_wp2
  go_loopw [5] (fun i W => ∃ k : Nat, k ≤ 1 ∧ i = .int .i64 k ∧ Below w.heap.size w W) (fun i _ => 1 - (intOf i).toNat)
  case atStart => exact ⟨0, Nat.zero_le _, rfl, by first | exact ext_refl w | exact (ext_refl w).drew⟩
  case round =>
    obtain ⟨k, hk, rfl, hE⟩ := hrel
    have HE := Lib.hid hE
    clear hE
    by_cases hlt : k < 1
    · obtain rfl : k = 0 := by omega
      go_wp2
      go_region_held3 (fun w' => (LdOK Tryz.prog w' (.pointer (some ⟨ga, 0, none⟩)) 46 ∧ ldV Tryz.prog w' (.pointer (some ⟨ga, 0, none⟩)) 46 = .agg #[.int .i64 p, va]) ∧ (LdOK Tryz.prog w' (.pointer (some ⟨gb, 0, none⟩)) 46 ∧ ldV Tryz.prog w' (.pointer (some ⟨gb, 0, none⟩)) 46 = .agg #[.int .i64 p, vb]) ∧ Below w.heap.size w w')
        (first | with_reducible assumption | exact HK.out _ (by repeat (first | with_reducible assumption | exact HE.out.drew | exact HE.out | with_reducible refine Below.drew ?_)))
        (first
          | (go_at_call 55; (with_reducible refine (HS.out _ ?_).mono ?_); (first | assumption | exact HE.out.drew | exact HE.out); rintro e Z ⟨rfl, hb'⟩; have hXZ := ext_call (by first | assumption | exact HE.out.drew | exact HE.out) hb'; clear hb'))
      all_goals
        go_wp2
        go_roundw
        case rel => exact ⟨1, by omega, by go_num, by assumption⟩
        case measure => simp [intOf]
    · obtain rfl : k = 1 := by omega
      go_wp2
      go_ret
      exact ⟨rfl, HE.out⟩

end Go.Proofs.YtbgfmbmcabekeaaGreatDoor
