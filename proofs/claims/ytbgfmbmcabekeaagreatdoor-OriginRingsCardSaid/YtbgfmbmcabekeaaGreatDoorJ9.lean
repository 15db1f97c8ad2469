/-
  Part 9 of 18: the contracts that the proof of the last part uses; each stands under its own head.
-/
import Derived.Test.YtbgfmbmcabekeaaGreatDoorJ1
import Derived.LoopN
import Derived.WalkMore
import Derived.Test.YtbgfmbmcabekeaaGreatDoorJ2
import Derived.Lib.ConvBytes
import Derived.Laws.Closers25
import Derived.Test.YtbgfmbmcabekeaaGreatDoorJ5
import Derived.Laws.CopyOwn
import Derived.Deep.Cut
import Derived.Deep.RegionLaw
import Derived.Deep.RegionHeld3
set_option linter.unusedSimpArgs false
set_option linter.unusedVariables false

/-
  package cachetierref01: Sum (some number); package cachetierref12: Digits, Point, within.
-/
namespace Go.Proofs.YtbgfmbmcabekeaaGreatDoor
open Go.RowKit

set_option maxHeartbeats 1000000 in
theorem crc_any (s : ByteArray) (w : World) (hs : s.size ≤ 100000) : Calls Tryz.prog 193 #[.string s] w fun e w' => (∃ z : Int, e = .returned (.int .i64 z)) ∧ w = w' := by
  go_enter Tryz.func193, Tryz.ntmps193
  go_wp2
  go_loop [3, 4, 5, 6] (fun r i _ _ => ∃ k : Nat, k ≤ s.size ∧ i = .int .i64 k ∧ ∃ z : Int, r = .int .u32 z) (fun _ i _ _ => s.size - (intOf i).toNat)
  case atStart => exact ⟨0, Nat.zero_le _, rfl, _, rfl⟩
  case round =>
    obtain ⟨k, hk, rfl, z, rfl⟩ := hrel
    by_cases hlt : k < s.size
    · have d1 : decide ((k : Int) < (s.size : Int)) = true := by simp; omega
      have q0 : (0 : Int) ≤ (k : Int) := by omega
      have q1 : (k : Int) < (s.size : Int) := by omega
      have e2 : IntKind.i64.wrap ((k : Int) + 1) = (k : Int) + 1 := by rw [IntWalk.i64_in _ (by omega)]
      go_wp2
      go_loop [3, 5, 6] (fun r i _ => ∃ q : Nat, q ≤ 8 ∧ i = .int .i64 q ∧ ∃ z : Int, r = .int .u32 z) (fun _ i _ => 8 - (intOf i).toNat)
      case atStart => exact ⟨0, by omega, rfl, _, rfl⟩
      case round =>
        obtain ⟨q, hq, rfl, y, rfl⟩ := hrel
        by_cases hq8 : q < 8
        · have d2 : decide ((q : Int) < 8) = true := by simp; omega
          have e3 : IntKind.i64.wrap ((q : Int) + 1) = (q : Int) + 1 := by rw [IntWalk.i64_in _ (by omega)]
          go_wp2
          all_goals go_round
          all_goals first | exact ⟨q + 1, by omega, by go_num, _, rfl⟩ | (simp [intOf]; omega)
        · have d2 : decide ((q : Int) < 8) = false := by simp; omega
          go_wp2
          go_round
          case rel => exact ⟨k + 1, by omega, by go_num, _, rfl⟩
          case measure => simp [intOf]; omega
    · have d1 : decide ((k : Int) < (s.size : Int)) = false := by simp; omega
      go_wp2
      go_ret
      exact ⟨⟨_, rfl⟩, rfl⟩

set_option maxHeartbeats 400000 in
theorem point12_any (s : ByteArray) (w : World) (hs : s.size ≤ 100000) : Calls Tryz.prog 155 #[.string s] w fun e w' => (∃ z : Int, e = .returned (.int .i64 z)) ∧ w = w' := by
  go_enter Tryz.func155, Tryz.ntmps155
  go_wp2_with (go_at_call 193; refine (crc_any s w hs).mono ?_; rintro e w' ⟨⟨z, rfl⟩, rfl⟩)
  go_ret
  exact ⟨⟨z, rfl⟩, rfl⟩

end Go.Proofs.YtbgfmbmcabekeaaGreatDoor

/-
  package cachetierref12: Digits at a number below 100.
-/
namespace Go.Proofs.YtbgfmbmcabekeaaGreatDoor
open Go.RowKit

/-- a string of one byte -/
def digitS (x : Int) : ByteArray := ByteArray.empty.push (UInt8.ofNat x.toNat)
theorem digitS_size (x : Int) : (digitS x).size = 1 := rfl
theorem digit_conv (x : Int) (w : World) : (convert 161 9 (.slice (some ⟨w.heap.size, 0, none⟩) 1 1)).run Tryz.prog (w.alloc (.cells #[.int .u8 x] 5)) = .ok (.string (digitS x)) (w.alloc (.cells #[.int .u8 x] 5)) := by
  rw [run_convert_bytes_string _ 161 9 5 _ 1 1 Tryz.underlying161 Tryz.underlying5 Tryz.underlying9]
  have h := run_loadCells_list (P := Tryz.prog) (w.alloc (.cells #[.int .u8 x] 5)) ⟨w.heap.size, 0, none⟩ ([x].map (Value.int .u8)) (fun j y hy => by
    match j, hy with
    | 0, hy => simp at hy; subst hy; exact cell_one_new w _ 5 0 _ rfl)
  exact run_bytesToString _ _ 1 1 [x] h

set_option maxRecDepth 100000 in
set_option maxHeartbeats 2000000 in
theorem digits_any (n : Nat) (hn : n < 100) (w : World) : Calls Tryz.prog 156 #[.int .i64 n] w fun e w' => (∃ s : ByteArray, e = .returned (.string s) ∧ s.size ≤ 2) ∧ Below w.heap.size w w' := by
  go_enter Tryz.func156, Tryz.ntmps156
  go_wp2
  go_loopw [0, 3] (fun m t W => ∃ (q : Nat) (s : ByteArray), m = .int .i64 q ∧ t = .string s ∧ Hid (s.size ≤ 2 ∧ (s.size = 0 → q < 100) ∧ (s.size = 1 → q < 10) ∧ (s.size = 2 → q = 0)) ∧ Below w.heap.size w W) (fun _ t _ => 3 - (match t with | .string s => s.size | _ => 0))
  case atStart => exact ⟨n, ⟨#[]⟩, rfl, rfl, ⟨by decide, fun _ => hn, (fun h => absurd h (by decide)), (fun h => absurd h (by decide))⟩, ext_refl w⟩
  case round =>
    obtain ⟨q, s, rfl, rfl, hq, hE⟩ := hrel
    have HE := Lib.hid hE
    clear hE
    have hcv := digit_conv (48 + (q : Int) % 10) wr
    have HU := Lib.hid (digitS_size (48 + (q : Int) % 10))
    generalize digitS (48 + (q : Int) % 10) = u at *
    have hq100 : q < 100 := by
      obtain ⟨h1, h2, h3, h4⟩ := hq.out
      rcases Nat.lt_or_ge s.size 1 with h | h
      · exact h2 (by omega)
      · rcases Nat.lt_or_ge s.size 2 with h' | h'
        · have := h3 (by omega); omega
        · have := h4 (by omega); omega
    have HW := Lib.hid (show wrap64 ((q : Int) / 10) = ((q / 10 : Nat) : Int) by rw [IntWalk.wrap64_in _ (by omega)]; omega)
    have HQ := Lib.hid hq100
    clear hq100
    by_cases hs : s = ⟨#[]⟩
    · subst hs
      have HUT := Lib.hid (show (u ++ ⟨#[]⟩ : ByteArray).size = 1 by rw [ByteArray.size_append, HU.out]; rfl)
      have hul : u.size ≤ 1 := by rw [HU.out]; exact Nat.le_refl _
      go_wp2
      go_roundw
      case rel =>
        have hq1 := HQ.out
        exact ⟨q / 10, u ++ ⟨#[]⟩, by rw [HW.out], rfl, ⟨by rw [HUT.out]; decide, (fun _ => by omega), (fun _ => by omega), (fun h => by rw [HUT.out] at h; cases h)⟩, ext_alloc HE.out _⟩
      case measure => show 3 - (u ++ ⟨#[]⟩ : ByteArray).size < 3 - 0; rw [HUT.out]; decide
    · have hs0 : s.size ≠ 0 := fun h => hs (ByteArray.ext (Array.eq_empty_of_size_eq_zero h))
      have hse : s.toList.isEmpty = false := by
        rw [← decide_eq_emptyBytes]
        exact decide_eq_false hs
      have hsl : ¬ s.toList = [] := fun h => by rw [h] at hse; cases hse
      have HSS := Lib.hid hs0
      clear hs hs0
      by_cases hq0 : q = 0
      · subst hq0
        clear hcv
        go_wp2
        go_ret
        exact ⟨⟨s, rfl, hq.out.1⟩, HE.out⟩
      · have hqi : (0 : Int) < (q : Int) := by omega
        have hsz : u.size + s.size ≤ 3 := by have := hq.out.1; have := HU.out; omega
        have hus : (u ++ s).size = 2 ∧ q / 10 = 0 := by
          rw [ByteArray.size_append, HU.out]
          obtain ⟨h1, h2, h3, h4⟩ := hq.out
          have h0 := HSS.out
          rcases Nat.lt_or_ge s.size 2 with h' | h'
          · have := h3 (by omega); omega
          · have := h4 (by omega); omega
        have HUS := Lib.hid hus
        have HS1 := Lib.hid (show s.size = 1 by
          have h := hus.1
          rw [ByteArray.size_append, HU.out] at h
          omega)
        clear hq0 hus
        go_wp2
        go_roundw
        case rel => exact ⟨q / 10, u ++ s, by rw [HW.out], rfl, ⟨by rw [HUS.out.1]; exact Nat.le_refl _, (fun h => by rw [HUS.out.1] at h; cases h), (fun h => by rw [HUS.out.1] at h; cases h), (fun _ => HUS.out.2)⟩, ext_alloc HE.out _⟩
        case measure =>
          show 3 - (u ++ s).size < 3 - s.size
          rw [HUS.out.1, HS1.out]
          decide

end Go.Proofs.YtbgfmbmcabekeaaGreatDoor

/-
  Laws: copy between rows of elements of several cells; an insertion into an own row of spots.
-/
namespace Go.Proofs.YtbgfmbmcabekeaaGreatDoor
open Go.RowKit

section
variable {P : Program}
theorem run_copy_rowN (w : World) (dT sT ty elem : TypeId) (sz : Nat) (g o dLen dCap : Nat) (a : Addr) (sLen sCap : Nat) (cur : Array Value) (t : TypeId) (cs : List Value)
    (hu : P.underlying dT = some (.slice elem)) (hs : (P.info? elem).map (·.size) = some sz)
    (hg : w.heap[g]? = some (.cells cur t (0, 0))) (hn : cs.length = Nat.min sLen dLen * sz)
    (hsrc : ∀ j v, cs[j]? = some v → w.cell? (a.add j) = some v) (hfit : o + cs.length ≤ cur.size) (h1 : ∀ v ∈ cs, v.oneCell' = true) :
    (Builtin.copy_ #[dT, sT] ty #[.slice (some ⟨g, o, none⟩) dLen dCap, .slice (some a) sLen sCap]).run P w =
      .ok (goInt (Nat.min sLen dLen)) (w.setRow g (cur.toList.take o ++ cs ++ cur.toList.drop (o + cs.length)).toArray) := by
  have hl := run_loadCells_list (P := P) w a cs hsrc
  have hst := run_storeCells_at P g o t cs 0 cur w hg (by simpa using hfit) h1
  cases hq : P.info? elem with
  | none => simp [hq] at hs
  | some i =>
    have hi : i.size = sz := by simpa [hq] using hs
    simp [Builtin.copy_, run_underlying hu, Builtin.lenOf, Builtin.firstCells, sizeOf, typeInfo, hq, hi, ← hn, hl, hst]

theorem run_copy_0 (w : World) (dT sT ty elem : TypeId) (dp : Option Addr) (dCap : Nat) (a : Addr) (sLen sCap : Nat) (hu : P.underlying dT = some (.slice elem)) (hs : ((P.info? elem).map (·.size)).isSome = true) :
    (Builtin.copy_ #[dT, sT] ty #[.slice dp 0 dCap, .slice (some a) sLen sCap]).run P w = .ok (goInt 0) w := by
  cases hq : P.info? elem with
  | none => simp [hq] at hs
  | some i =>
    have hl := run_loadCells_list (P := P) w a [] (fun j v h => by simp at h)
    have hl0 : (loadCells a 0).run P w = .ok #[] w := by simpa using hl
    cases dp <;> simp [Builtin.copy_, run_underlying hu, Builtin.lenOf, Builtin.firstCells, sizeOf, typeInfo, hq, storeCells, hl0, Result.andThen]
end

theorem ownsRow_cells' {w : World} {B e sz g n cap : Nat} {ys : List Value} (h : w.ownsRow B e sz (.slice (some ⟨g, 0, none⟩) n cap) n ys) : ∀ j v, ys[j]? = some v → w.cell? ⟨g, j, none⟩ = some v := by
  intro j v hv
  have := h.cells (g := g) rfl j v hv
  rwa [add_lit0] at this

/-- the cells of spots -/
def pc (xs : List (Int × Nat)) : List Value := xs.flatMap fun x => [Value.int .i64 x.1, Value.int .i64 (x.2 : Int)]
theorem pc_length (xs : List (Int × Nat)) : (pc xs).length = xs.length * 2 := by
  induction xs with
  | nil => rfl
  | cons a r ih => simp [pc] at ih ⊢; omega
theorem pc_append (xs ys : List (Int × Nat)) : pc (xs ++ ys) = pc xs ++ pc ys := by simp [pc]
theorem pc_one (xs : List (Int × Nat)) : ∀ u ∈ pc xs, u.oneCell' = true := by
  intro u hu
  unfold pc at hu
  obtain ⟨x, _, hx⟩ := List.mem_flatMap.1 hu
  simp at hx
  rcases hx with rfl | rfl <;> rfl
theorem pc_get (xs : List (Int × Nat)) : ∀ (k : Nat) (x : Int × Nat), xs[k]? = some x → (pc xs)[k * 2]? = some (.int .i64 x.1) ∧ (pc xs)[k * 2 + 1]? = some (.int .i64 (x.2 : Int)) := by
  induction xs with
  | nil => intro k x h; simp at h
  | cons a r ih =>
    intro k x h
    cases k with
    | zero => simp at h; subst h; exact ⟨rfl, rfl⟩
    | succ k =>
      have h' := ih k x (by simpa using h)
      have e1 : (k + 1) * 2 = k * 2 + 2 := by omega
      rw [e1]
      exact h'

/-- an own row of spots -/
def SpotRow (w : World) (B g cap : Nat) (xs : List (Int × Nat)) : Prop := w.ownsRow B 255 2 (.slice (some ⟨g, 0, none⟩) xs.length cap) xs.length (pc xs)
theorem SpotRow.block {w : World} {B g cap : Nat} {xs : List (Int × Nat)} (h : SpotRow w B g cap xs) : B ≤ g ∧ ∃ cur, w.heap[g]? = some (.cells cur 255 (0, 0)) ∧ xs.length ≤ cap ∧ cap ≤ maxLen ∧ cur.size = cap * 2 ∧ cur.toList.take (xs.length * 2) = pc xs := by
  rcases h.2 with ⟨he, _⟩ | ⟨g', cap', cur, he, hb, hg, h1, h2, h3, h4⟩
  · cases he
  · injection he with ha _ hc
    injection ha with ha
    injection ha with ha
    subst ha; subst hc
    exact ⟨hb, cur, hg, h1, h2, h3, h4⟩
theorem SpotRow.mk' {w : World} {B g cap : Nat} {xs : List (Int × Nat)} {cur : Array Value} (hb : B ≤ g) (hg : w.heap[g]? = some (.cells cur 255 (0, 0))) (h1 : xs.length ≤ cap) (h2 : cap ≤ maxLen) (h3 : cur.size = cap * 2)
    (h4 : cur.toList.take (xs.length * 2) = pc xs) : SpotRow w B g cap xs := ⟨pc_length xs, .inr ⟨g, cap, cur, rfl, hb, hg, h1, h2, h3, h4⟩⟩
theorem SpotRow.cell {w : World} {B g cap : Nat} {xs : List (Int × Nat)} (h : SpotRow w B g cap xs) {k : Nat} {x : Int × Nat} (hx : xs[k]? = some x) :
    w.cell? ⟨g, k * 2, none⟩ = some (.int .i64 x.1) ∧ w.cell? ⟨g, k * 2 + 1, none⟩ = some (.int .i64 (x.2 : Int)) := by
  have hc := ownsRow_cells' h
  obtain ⟨h1, h2⟩ := pc_get xs k x hx
  exact ⟨hc _ _ h1, hc _ _ h2⟩
theorem SpotRow.frozen {w : World} {B g cap : Nat} {xs : List (Int × Nat)} (h : SpotRow w B g cap xs) (k : Nat) : w.frozen? ⟨g, k, none⟩ = false := by
  obtain ⟨_, cur, hg, _⟩ := h.block
  simp [World.frozen?, hg]

/-- copy(out[q+1:], out[q:]) -/
theorem SpotRow.shift {w : World} {B g cap : Nat} {xs : List (Int × Nat)} {n q : Nat} (h : SpotRow w B g cap xs) (hn : xs.length = n + 1) (hq : q < n) :
    ∃ w2, (Builtin.copy_ #[250, 250] 3 #[.slice (some ⟨g, (q + 1) * 2, none⟩) (n + 1 - (q + 1)) (cap - (q + 1)), .slice (some ⟨g, q * 2, none⟩) (n + 1 - q) (cap - q)]).run Tryz.prog w = .ok (goInt ((n - q : Nat) : Int)) w2 ∧
      SpotRow w2 B g cap (xs.take (q + 1) ++ (xs.drop q).take (n - q)) ∧ w.grownBy w2 (some g) := by
  obtain ⟨hb, cur, hg, h1, h2, h3, h4⟩ := h.block
  have hcs : (pc ((xs.drop q).take (n - q))).length = (n - q) * 2 := by rw [pc_length]; simp; omega
  have hmin : Nat.min (n + 1 - q) (n + 1 - (q + 1)) = n - q := by simp [Nat.min_def]; omega
  have hrun := run_copy_rowN (P := Tryz.prog) w 250 250 3 255 2 g ((q + 1) * 2) (n + 1 - (q + 1)) (cap - (q + 1)) ⟨g, q * 2, none⟩ (n + 1 - q) (cap - q) cur 255
    (pc ((xs.drop q).take (n - q))) Tryz.underlying250 (by kernel_rfl) hg (by rw [hcs, hmin]) (fun j v hv => by
      have hj : j < (n - q) * 2 := by rw [← hcs]; exact (List.getElem?_eq_some_iff.1 hv).1
      have hv2 : (pc xs)[q * 2 + j]? = some v := by
        have e : pc xs = pc (xs.take q) ++ (pc ((xs.drop q).take (n - q)) ++ pc ((xs.drop q).drop (n - q))) := by
          rw [← pc_append, ← pc_append, List.take_append_drop, List.take_append_drop]
        rw [e, List.getElem?_append_right (by rw [pc_length]; simp; omega), pc_length, List.getElem?_append_left (by rw [hcs]; simp; omega)]
        rw [← hv]
        congr 1
        simp
        omega
      have := ownsRow_cells' h _ _ hv2
      rw [Addr.add_mid]
      exact this) (by rw [hcs, h3]; omega) (pc_one _)
  rw [hmin, hcs] at hrun
  refine ⟨_, hrun, SpotRow.mk' hb (setRow_heap w g cur _ _ _ hg) (by rw [List.length_append, List.length_take, List.length_take, List.length_drop]; omega) h2 ?_ ?_, ⟨rfl, rfl, rfl, (by unfold World.setRow; simp), fun k _ hk => setRow_other w g k _ (fun e => hk (by rw [e]))⟩⟩
  · simp [hcs, h3]; omega
  · have hlen : (xs.take (q + 1) ++ (xs.drop q).take (n - q)).length = n + 1 := by simp; omega
    rw [hlen, pc_append]
    have e1 : cur.toList.take ((q + 1) * 2) = pc (xs.take (q + 1)) := by
      have : cur.toList.take ((q + 1) * 2) = (cur.toList.take (xs.length * 2)).take ((q + 1) * 2) := by rw [List.take_take, Nat.min_eq_left (by omega)]
      rw [this, h4]
      have e : pc xs = pc (xs.take (q + 1)) ++ pc (xs.drop (q + 1)) := by rw [← pc_append, List.take_append_drop]
      rw [e, List.take_append_of_le_length (by rw [pc_length]; simp; omega), List.take_of_length_le (by rw [pc_length]; simp; omega)]
    simp only [List.toList_toArray, e1]
    rw [List.take_append_of_le_length (by rw [List.length_append, pc_length, hcs]; simp; omega), List.take_of_length_le (by rw [List.length_append, pc_length, hcs]; simp; omega)]

theorem pc_set (xs : List (Int × Nat)) : ∀ (k : Nat) (x : Int × Nat), pc (xs.set k x) = ((pc xs).set (k * 2) (.int .i64 x.1)).set (k * 2 + 1) (.int .i64 (x.2 : Int)) := by
  induction xs with
  | nil => intro k x; simp [pc]
  | cons a r ih =>
    intro k x
    cases k with
    | zero => rfl
    | succ k =>
      have e1 : (k + 1) * 2 = k * 2 + 2 := by omega
      rw [e1]
      show [Value.int .i64 a.1, Value.int .i64 (a.2 : Int)] ++ pc (r.set k x) = _
      rw [ih]
      rfl
/-- out[k] = x -/
theorem SpotRow.put {w : World} {B g cap : Nat} {xs : List (Int × Nat)} (h : SpotRow w B g cap xs) {k : Nat} (hk : k < xs.length) (x : Int × Nat) :
    SpotRow ((w.setCell ⟨g, k * 2, none⟩ (.int .i64 x.1)).setCell ⟨g, k * 2 + 1, none⟩ (.int .i64 (x.2 : Int))) B g cap (xs.set k x) := by
  obtain ⟨hb, cur, hg, h1, h2, h3, h4⟩ := h.block
  rw [setCell_eq_setRow w g (k * 2) cur _ _ _ hg]
  have hg2 := setRow_heap w g cur (cur.setIfInBounds (k * 2) (.int .i64 x.1)) _ _ hg
  rw [setCell_eq_setRow _ g (k * 2 + 1) _ _ _ _ hg2, setRow_setRow]
  refine SpotRow.mk' hb (setRow_heap w g cur _ _ _ hg) (by rw [List.length_set]; exact h1) h2 (by simp [h3]) ?_
  rw [List.length_set, pc_set, ← h4]
  apply List.ext_getElem?
  intro i
  simp only [Array.toList_setIfInBounds, List.getElem?_take, List.getElem?_set, List.length_set, List.length_take]
  by_cases hi : i < xs.length * 2
  · by_cases h5 : k * 2 + 1 = i
    · have : i < cur.toList.length := by simp [h3]; omega
      have hc : i < cur.size := this
      have hm : i < min (xs.length * 2) cur.size := by omega
      simp [hi, h5, hc, hm]
    · by_cases h6 : k * 2 = i
      · have : i < cur.toList.length := by simp [h3]; omega
        have hc : i < cur.size := this
        have hm : i < min (xs.length * 2) cur.size := by omega
        simp [hi, h5, h6, hc, hm]
      · simp [hi, h5, h6]
  · have h5 : ¬ (k * 2 + 1 = i) := by omega
    have h6 : ¬ (k * 2 = i) := by omega
    simp [hi, h5, h6]

/-- what an insertion leaves -/
theorem insert_last (xs : List (Int × Nat)) (x : Int × Nat) : (xs ++ [x]).set xs.length x = xs.take xs.length ++ x :: xs.drop xs.length := by
  simp [List.set_append]
theorem insert_mid (xs : List (Int × Nat)) (x : Int × Nat) (q : Nat) (hq : q < xs.length) : ((xs ++ [x]).take (q + 1) ++ ((xs ++ [x]).drop q).take (xs.length - q)).set q x = xs.take q ++ x :: xs.drop q := by
  have e1 : (xs ++ [x]).take (q + 1) = xs.take (q + 1) := List.take_append_of_le_length (by omega)
  have e2 : ((xs ++ [x]).drop q).take (xs.length - q) = xs.drop q := by
    rw [List.drop_append_of_le_length (by omega), List.take_append_of_le_length (by simp), List.take_of_length_le (by simp)]
  rw [e1, e2]
  have e3 : xs.take (q + 1) = xs.take q ++ [xs[q]] := by rw [List.take_add_one, List.getElem?_eq_getElem hq]; rfl
  have hl : (xs.take q).length = q := by simp; omega
  rw [e3, List.append_assoc, List.set_append_right _ _ (by omega), hl]
  simp

end Go.Proofs.YtbgfmbmcabekeaaGreatDoor

/-
  Maps with integer keys and few entries, as lists of pairs: lookup, update.
-/
namespace Go.Proofs.YtbgfmbmcabekeaaGreatDoor
open Go.RowKit

/-- the value of a key -/
def getI : List (Int × Value) → Int → Option Value
  | [], _ => none
  | p :: r, k => if p.1 = k then some p.2 else getI r k
/-- the entries with a key's value set -/
def setI : List (Int × Value) → Int → Value → List (Int × Value)
  | [], k, v => [(k, v)]
  | p :: r, k, v => if p.1 = k then (k, v) :: r else p :: setI r k v
/-- where a key stands -/
def findI : List (Int × Value) → Int → Nat → Option (Nat × Value)
  | [], _, _ => none
  | p :: r, k, i => if p.1 = k then some (i, p.2) else findI r k (i + 1)
theorem findI_get (kv : List (Int × Value)) (k : Int) : ∀ i, (findI kv k i).map (·.2) = getI kv k := by
  induction kv with
  | nil => intro i; rfl
  | cons p r ih =>
    intro i
    unfold findI getI
    split
    · rfl
    · exact ih (i + 1)
theorem findI_none (kv : List (Int × Value)) (k : Int) : ∀ i, getI kv k = none → findI kv k i = none := by
  intro i h
  have h1 := findI_get kv k i
  rw [h] at h1
  cases hf : findI kv k i with
  | none => rfl
  | some x => rw [hf] at h1; cases h1
theorem findI_some (kv : List (Int × Value)) (k : Int) (v : Value) (h : getI kv k = some v) : ∀ i, ∃ j, findI kv k i = some (i + j, v) ∧ kv[j]? = some (k, v) ∧ ∀ u, setI kv k u = kv.set j (k, u) := by
  induction kv with
  | nil => cases h
  | cons p r ih =>
    intro i
    unfold getI at h
    by_cases hp : p.1 = k
    · rw [if_pos hp] at h
      cases h
      exact ⟨0, by simp [findI, hp], by simp [← hp], fun u => by simp [setI, hp]⟩
    · rw [if_neg hp] at h
      obtain ⟨j, h1, h2, h3⟩ := ih h (i + 1)
      exact ⟨j + 1, by simp [findI, hp, h1]; omega, by simpa using h2, fun u => by simp [setI, hp, h3]⟩
theorem setI_none (kv : List (Int × Value)) (k : Int) (v : Value) (h : getI kv k = none) : setI kv k v = kv ++ [(k, v)] := by
  induction kv with
  | nil => rfl
  | cons p r ih =>
    unfold getI at h
    by_cases hp : p.1 = k
    · rw [if_pos hp] at h; cases h
    · rw [if_neg hp] at h
      simp [setI, hp, ih h]

/-- block g is the map of these pairs -/
def MapI (w : World) (g : Nat) (kv : List (Int × Value)) : Prop := ∃ es c, MapAt w g es c ∧ es.toList.map (fun e => (e.key, e.val)) = kv.map (fun p => (Value.int .i64 p.1, p.2))
section
variable {P : Program} {w W : World} {g : Nat} {kv : List (Int × Value)}
theorem MapI.ext (h : MapI w g kv) (k : Below w.heap.size w W) : MapI W g kv := by
  obtain ⟨es, c, h, e⟩ := h
  exact ⟨es, c, h.ext k, e⟩
theorem MapI.lt (h : MapI w g kv) : g < w.heap.size := by
  obtain ⟨es, c, h, e⟩ := h
  exact h.lt
theorem MapI.new (w : World) : MapI (w.alloc (.map #[] 0)) w.heap.size [] := ⟨#[], 0, MapAt.new w, rfl⟩

theorem findNow_I (kd : IntKind) (k : Int) : ∀ (kv : List (Int × Value)) (es : List MapEntry) (i : Nat), es.map (fun e => (e.key, e.val)) = kv.map (fun p => (Value.int .i64 p.1, p.2)) →
    Instr.findNow (.int kd) (.int .i64 k) es i = some (findI kv k i) := by
  intro kv
  induction kv with
  | nil =>
    intro es i h
    cases es with
    | nil => rfl
    | cons e r => cases h
  | cons p r ih =>
    intro es i h
    cases es with
    | nil => cases h
    | cons e es =>
      simp only [List.map_cons, List.cons.injEq, Prod.mk.injEq] at h
      obtain ⟨⟨hk, hv⟩, ht⟩ := h
      unfold Instr.findNow findI
      have hs : Instr.sameNow (.int kd) (.int .i64 k) (.int .i64 p.1) = some (k == p.1) := by simp [Instr.sameNow]
      rw [hk, hs]
      by_cases hp : p.1 = k
      · rw [if_pos hp, show (k == p.1) = true by simp [hp]]
        simp [hv]
      · rw [if_neg hp, show (k == p.1) = false by simp; omega]
        exact ih es (i + 1) ht

theorem findKey_I {K : TypeId} {kd : IntKind} (hK : P.underlying K = some (.int kd)) (k : Int) (kv : List (Int × Value)) (es : List MapEntry) (h : es.map (fun e => (e.key, e.val)) = kv.map (fun p => (Value.int .i64 p.1, p.2))) :
    (Instr.findKey K (.int .i64 k) es).run P w = .ok (findI kv k 0) w := by
  have h1 := findNow_I kd k kv es 0 h
  simp [Instr.findKey, run_underlying hK, Result.andThen, h1]

theorem checkKey_I {K : TypeId} {kd : IntKind} (hK : P.underlying K = some (.int kd)) (k : Int) (b : Bool) : (Instr.checkKey b 10000 K (.int .i64 k)).run P w = .ok () w := by
  unfold Instr.checkKey
  simp [run_underlying hK, Result.andThen]

theorem lookup_I {T K E : TypeId} {kd : IntKind} (hT : P.underlying T = some (.map K E)) (hK : P.underlying K = some (.int kd)) (h : MapI w g kv) (k : Int) {z : Value} (hz : (zeroValue E).run P w = .ok z w) :
    (Instr.lookup T (.map (some g)) (.int .i64 k) false).run P w = .ok ((getI kv k).getD z) w := by
  obtain ⟨es, c, h, e⟩ := h
  have hg := getM (P := P) h
  have hck := fun b => checkKey_I (P := P) (w := w) hK k b
  have hf := findKey_I (P := P) (w := w) hK k kv es.toList e
  unfold Instr.lookup
  have h1 := findI_get kv k 0
  cases hc : findI kv k 0 with
  | none =>
    rw [hc] at hf h1
    rw [← h1]
    simp [run_underlying hT, Result.andThen, hg, hck, hf, hz]
  | some x =>
    rw [hc] at hf h1
    rw [← h1]
    obtain ⟨i, v⟩ := x
    simp [run_underlying hT, Result.andThen, hg, hck, hf]

theorem lookup_Iok {T K E : TypeId} {kd : IntKind} (hT : P.underlying T = some (.map K E)) (hK : P.underlying K = some (.int kd)) (h : MapI w g kv) (k : Int) {z : Value} (hz : (zeroValue E).run P w = .ok z w) :
    (Instr.lookup T (.map (some g)) (.int .i64 k) true).run P w = .ok (.tuple #[(getI kv k).getD z, .bool (getI kv k).isSome]) w := by
  obtain ⟨es, c, h, e⟩ := h
  have hg := getM (P := P) h
  have hck := fun b => checkKey_I (P := P) (w := w) hK k b
  have hf := findKey_I (P := P) (w := w) hK k kv es.toList e
  unfold Instr.lookup
  have h1 := findI_get kv k 0
  cases hc : findI kv k 0 with
  | none =>
    rw [hc] at hf h1
    rw [← h1]
    simp [run_underlying hT, Result.andThen, hg, hck, hf, hz]
  | some x =>
    rw [hc] at hf h1
    rw [← h1]
    obtain ⟨i, v⟩ := x
    simp [run_underlying hT, Result.andThen, hg, hck, hf]

theorem update_I {T K E : TypeId} {kd : IntKind} (hT : P.underlying T = some (.map K E)) (hK : P.underlying K = some (.int kd)) (h : MapI w g kv) (k : Int) (v : Value) :
    ∃ o, (Instr.mapUpdate T (.map (some g)) (.int .i64 k) v).run P w = .ok () (w.putObj g o) ∧ MapI (w.putObj g o) g (setI kv k v) := by
  obtain ⟨es, c, h, e⟩ := h
  have hg := getM (P := P) h
  have hck := checkKey_I (P := P) (w := w) hK k false
  have hf := findKey_I (P := P) (w := w) hK k kv es.toList e
  have hs := fun o => setM (P := P) o h
  cases hc : getI kv k with
  | none =>
    rw [findI_none kv k 0 hc] at hf
    refine ⟨.map (es.push ⟨.int .i64 k, v, c⟩) (c + 1), ?_, _, _, h.put _ _, ?_⟩
    · unfold Instr.mapUpdate
      simp [run_underlying hT, Result.andThen, hg, hck, hf, hs]
    · rw [setI_none kv k v hc]
      simp [e]
  | some x =>
    obtain ⟨j, h1, h2, h3⟩ := findI_some kv k x hc 0
    rw [h1] at hf
    rw [Nat.zero_add] at hf
    have hj : (es.toList.map (fun e => (e.key, e.val)))[j]? = some (.int .i64 k, x) := by rw [e, List.getElem?_map, h2]; rfl
    rw [List.getElem?_map, Option.map_eq_some_iff] at hj
    obtain ⟨en, hen, hek⟩ := hj
    have hen' : es[j]? = some en := by simpa using hen
    have hkk : en.key = .int .i64 k := congrArg Prod.fst hek
    have hsb : Instr.sameBits 10000 (.int .i64 k) (.int .i64 k) = true := by unfold Instr.sameBits; simp
    refine ⟨.map (es.modify j fun e => { e with key := .int .i64 k, val := v }) c, ?_, _, _, h.put _ _, ?_⟩
    · unfold Instr.mapUpdate Instr.keyThatStays
      simp [run_underlying hT, Result.andThen, hg, hck, hf, hs, hen', hkk, hsb]
    · rw [h3]
      apply List.ext_getElem?
      intro i
      have ei : (es.toList.map (fun e => (e.key, e.val)))[i]? = (kv.map (fun p => (Value.int .i64 p.1, p.2)))[i]? := by rw [e]
      simp only [List.getElem?_map, Array.toList_modify, List.getElem?_modify, List.getElem?_set] at ei ⊢
      by_cases hij : j = i
      · subst hij
        have hlt : j < kv.length := (List.getElem?_eq_some_iff.1 h2).1
        simp [hen', hlt]
      · simp [hij] at ei ⊢
        exact ei
end

end Go.Proofs.YtbgfmbmcabekeaaGreatDoor

/-
  package ring: within, Valid, at a list of members of weight 1.
-/
namespace Go.Proofs.YtbgfmbmcabekeaaGreatDoor
open Go.RowKit

/-- a list of members of weight 1 and of region 0, in memory -/
def MemsAt (w : World) (v : Value) (ns : List Nat) : Prop :=
  ∃ A c, v = .slice A ns.length c ∧ ns.length ≤ c ∧ (0 < ns.length → ∃ b off, A = some ⟨b, off, none⟩ ∧ ∀ (j n : Nat), ns[j]? = some n →
    w.cell? ⟨b, off + j * 3, none⟩ = some (.int .i64 n) ∧ w.cell? ⟨b, off + j * 3 + 1, none⟩ = some (.int .i64 0) ∧ w.cell? ⟨b, off + j * 3 + 2, none⟩ = some (.int .i64 1))
/-- the nodes of valid members -/
structure NodesOK (ns : List Nat) : Prop where
  some_ : 0 < ns.length
  few : ns.length ≤ 24
  below : ∀ n ∈ ns, n < 24
  asc : ∀ (j a b : Nat), ns[j]? = some a → ns[j + 1]? = some b → a < b
theorem MemsAt.ext {w W : World} {v : Value} {ns : List Nat} (h : MemsAt w v ns) (k : Below w.heap.size w W) : MemsAt W v ns := by
  obtain ⟨A, c, rfl, hc, h⟩ := h
  refine ⟨A, c, rfl, hc, fun h0 => ?_⟩
  obtain ⟨b, off, hA, hcell⟩ := h h0
  exact ⟨b, off, hA, fun j n hn => ⟨cell_ext (hcell j n hn).1 k, cell_ext (hcell j n hn).2.1 k, cell_ext (hcell j n hn).2.2 k⟩⟩
theorem MemsAt.at_ {w : World} {v : Value} {ns : List Nat} (h : MemsAt w v ns) {j n : Nat} (hj : ns[j]? = some n) : ∃ b off c, v = .slice (some ⟨b, off, none⟩) ns.length c ∧ ns.length ≤ c ∧
    w.cell? ⟨b, off + j * 3, none⟩ = some (.int .i64 n) ∧ w.cell? ⟨b, off + j * 3 + 1, none⟩ = some (.int .i64 0) ∧ w.cell? ⟨b, off + j * 3 + 2, none⟩ = some (.int .i64 1) := by
  obtain ⟨A, c, rfl, hc, h⟩ := h
  have hlt := (List.getElem?_eq_some_iff.1 hj).1
  obtain ⟨b, off, rfl, hcell⟩ := h (by omega)
  exact ⟨b, off, c, rfl, hc, hcell j n hj⟩

set_option maxHeartbeats 400000 in
theorem rwithin_yes (n lo hi : Int) (h1 : lo ≤ n) (h2 : n ≤ hi) (w : World) : Calls Tryz.prog 68 #[.int .i64 n, .int .i64 lo, .int .i64 hi] w fun e w' => e = .returned (.bool true) ∧ w = w' := by
  go_enter Tryz.func68, Tryz.ntmps68
  go_wp2
  go_ret
  exact ⟨by simp [h1, h2], rfl⟩

/-- the last node ahead of a place -/
def lastF (ns : List Nat) : Nat → Int
  | 0 => -1
  | k + 1 => ((ns.getD k 0 : Nat) : Int)

set_option maxHeartbeats 1000000 in
theorem rvalid_yes (ns : List Nat) (v : Value) (w : World) (hv : MemsAt w v ns) (hn : NodesOK ns) : Calls Tryz.prog 69 #[v] w fun e w' => e = .returned (.bool true) ∧ Below w.heap.size w w' := by
  have HV := Lib.hid hv
  have HN := Lib.hid hn
  obtain ⟨A, c, rfl, hc, _⟩ := hv
  have hfew := hn.few
  clear hn
  go_enter Tryz.func69, Tryz.ntmps69
  go_wp2
  go_loopw [3, 5, 8] (fun last _ i W => ∃ k : Nat, k ≤ ns.length ∧ i = .int .i64 k ∧ last = .int .i64 (lastF ns k) ∧ Below w.heap.size w W) (fun _ _ i _ => ns.length - (intOf i).toNat)
  case atStart => exact ⟨0, Nat.zero_le _, rfl, rfl, ext_refl w⟩
  case round =>
    obtain ⟨k, hk, rfl, rfl, hE⟩ := hrel
    have HE := Lib.hid hE
    clear hE
    by_cases hlt : k < ns.length
    · obtain ⟨n, hn⟩ : ∃ n, ns[k]? = some n := ⟨_, List.getElem?_eq_getElem hlt⟩
      obtain ⟨b, off, c', hA, _, c0, c1, c2⟩ := (HV.out.ext HE.out).at_ hn
      injection hA with hA hn' hc'
      subst hA; subst hc'
      clear hn'
      have hn24 : n < 24 := HN.out.below n (List.mem_of_getElem? hn)
      have hla : lastF ns k + 1 ≤ (n : Int) ∧ -1 ≤ lastF ns k ∧ lastF ns k ≤ 23 := by
        cases k with
        | zero => simp [lastF]
        | succ k =>
          have hk' : k < ns.length := by omega
          have h1 := HN.out.asc k ns[k] n (List.getElem?_eq_getElem hk') hn
          have h2 := HN.out.below ns[k] (List.getElem_mem hk')
          simp only [lastF, List.getD_eq_getElem?_getD, List.getElem?_eq_getElem hk', Option.getD_some]
          omega
      have hnx : lastF ns (k + 1) = (n : Int) := by simp [lastF, hn]
      have HNX := Lib.hid hnx
      generalize lastF ns k = la at *
      obtain ⟨l1, l2, l3⟩ := hla
      have e1 : IntKind.i64.wrap (la + 1) = la + 1 := by rw [IntWalk.i64_in _ (by omega)]
      have e2 : IntKind.i64.wrap ((k : Int) + 1) = (k : Int) + 1 := by rw [IntWalk.i64_in _ (by omega)]
      have d1 : decide ((k : Int) < (ns.length : Int)) = true := by simp; omega
      have q0 : (0 : Int) ≤ (k : Int) := by omega
      have q1 : (k : Int) < (ns.length : Int) := by omega
      clear hn hnx
      go_wp2_with (go_at_call 68; refine (rwithin_yes _ _ _ (by omega) (by omega) _).mono ?_; rintro e w' ⟨rfl, rfl⟩)
      go_roundw
      case rel => exact ⟨k + 1, by omega, by go_num, by rw [HNX.out], ext_alloc HE.out _⟩
      case measure => simp [intOf]; omega
    · have d1 : decide ((k : Int) < (ns.length : Int)) = false := by simp; omega
      have hpos := HN.out.some_
      have hl0 : 0 ≤ lastF ns k := by
        cases k with
        | zero => omega
        | succ k => simp [lastF]
      generalize lastF ns k = la at *
      go_wp2
      go_ret
      exact ⟨by simp [hl0], HE.out⟩

end Go.Proofs.YtbgfmbmcabekeaaGreatDoor

/-
  package ring: limits at a list of members of weight 1.
-/
namespace Go.Proofs.YtbgfmbmcabekeaaGreatDoor
open Go.RowKit

/-- how many slots each of m members of weight 1 may own -/
def limF (m : Nat) : Int := (80 + (m : Int) - 1) / (m : Int)
/-- the limits as a map's pairs -/
def limsI (m : Nat) (ns : List Nat) : List (Int × Value) := ns.map fun n : Nat => ((n : Int), Value.int .i64 (limF m))
theorem getI_none (kv : List (Int × Value)) (k : Int) (h : ∀ p ∈ kv, p.1 ≠ k) : getI kv k = none := by
  induction kv with
  | nil => rfl
  | cons p r ih =>
    unfold getI
    rw [if_neg (h p (List.mem_cons_self ..))]
    exact ih fun q hq => h q (List.mem_cons_of_mem _ hq)
theorem MapI.drew {w : World} {g : Nat} {kv : List (Int × Value)} (h : MapI w g kv) : MapI w.drew g kv := h

theorem NodesOK.lt_of {ns : List Nat} (h : NodesOK ns) {q k a n : Nat} (hq : ns[q]? = some a) (hk : ns[k]? = some n) (hqk : q < k) : a < n := by
  obtain ⟨d, rfl⟩ : ∃ d, k = q + 1 + d := ⟨k - (q + 1), by omega⟩
  clear hqk
  induction d generalizing n with
  | zero => exact h.asc q a n hq hk
  | succ d ih =>
    have hlt := (List.getElem?_eq_some_iff.1 hk).1
    have h1 : ns[q + 1 + d]? = some ns[q + 1 + d] := List.getElem?_eq_getElem (by omega)
    have h2 := ih h1
    have h3 := h.asc (q + 1 + d) _ n h1 hk
    omega

set_option maxHeartbeats 2000000 in
theorem limits_any (ns : List Nat) (v : Value) (w : World) (hv : MemsAt w v ns) (hn : NodesOK ns) : Calls Tryz.prog 67 #[v] w fun e w' => ∃ g, e = .returned (.map (some g)) ∧ w.heap.size ≤ g ∧ MapI w' g (limsI ns.length ns) ∧ Below w.heap.size w w' := by
  have HV := Lib.hid hv
  have HN := Lib.hid hn
  have HRV := Lib.hid (fun W (k : Below w.heap.size w W) => rvalid_yes ns v W (hv.ext k) hn)
  obtain ⟨A, c, rfl, hc, _⟩ := hv
  have hfew := hn.few
  have hsome := hn.some_
  have hmm := @run_makeMap Tryz.prog
  clear hn
  obtain ⟨X, hX⟩ : ∃ X, X = w.alloc (.map #[] 0) := ⟨_, rfl⟩
  have HX := Lib.hid hX
  have HE0 := Lib.hid (show Below w.heap.size w X by rw [hX]; exact ext_new _ _)
  have HM0 := Lib.hid (show MapI X w.heap.size [] by rw [hX]; exact MapI.new w)
  clear hX
  go_enter Tryz.func67, Tryz.ntmps67
  go_wp2_with fail
  rw [← HX.out]
  go_loopw [4, 6, 12] (fun s _ i W => ∃ k : Nat, k ≤ ns.length ∧ i = .int .i64 k ∧ s = .int .i64 k ∧ Below X.heap.size X W) (fun _ _ i _ => ns.length - (intOf i).toNat)
  case atStart => exact ⟨0, Nat.zero_le _, rfl, rfl, ext_refl X⟩
  case round =>
    obtain ⟨k, hk, rfl, rfl, hE⟩ := hrel
    have HE := Lib.hid hE
    clear hE
    by_cases hlt : k < ns.length
    · obtain ⟨n, hn⟩ : ∃ n, ns[k]? = some n := ⟨_, List.getElem?_eq_getElem hlt⟩
      obtain ⟨b, off, c', hA, _, c0, c1, c2⟩ := (HV.out.ext (ext_call HE0.out HE.out)).at_ hn
      injection hA with hA hn' hc'
      subst hA; subst hc'
      clear hn'
      have e2 : IntKind.i64.wrap ((k : Int) + 1) = (k : Int) + 1 := by rw [IntWalk.i64_in _ (by omega)]
      have d1 : decide ((k : Int) < (ns.length : Int)) = true := by simp; omega
      have q0 : (0 : Int) ≤ (k : Int) := by omega
      have q1 : (k : Int) < (ns.length : Int) := by omega
      clear hn
      go_wp2
      go_roundw
      case rel => exact ⟨k + 1, by omega, by go_num, by go_num, ext_alloc HE.out _⟩
      case measure => simp [intOf]; omega
    · have d1 : decide ((k : Int) < (ns.length : Int)) = false := by simp; omega
      obtain rfl : k = ns.length := by omega
      have HEk := Lib.hid (ext_call HE0.out HE.out)
      go_wp2_with fail
      refine (HRV.out _ HEk.out).mono ?_
      rintro e W2 ⟨rfl, hb2⟩
      have HE2 := Lib.hid (ext_call HE.out hb2)
      clear hb2 hk d1
      go_wp2_with fail
      go_loopw [8, 25] (fun _ i W => ∃ k : Nat, k ≤ ns.length ∧ i = .int .i64 k ∧ MapI W w.heap.size (limsI ns.length (ns.take k)) ∧ Below w.heap.size w W) (fun _ i _ => ns.length - (intOf i).toNat)
      case atStart => exact ⟨0, Nat.zero_le _, rfl, HM0.out.ext HE2.out, ext_call HE0.out HE2.out⟩
      case round =>
        obtain ⟨k, hk, rfl, hM, hE⟩ := hrel
        have HE3 := Lib.hid hE
        have HM3 := Lib.hid hM
        clear hE hM
        by_cases hlt : k < ns.length
        · obtain ⟨n, hn⟩ : ∃ n, ns[k]? = some n := ⟨_, List.getElem?_eq_getElem hlt⟩
          obtain ⟨b, off, c', hA, _, c0, c1, c2⟩ := (HV.out.ext HE3.out).at_ hn
          injection hA with hA hn' hc'
          subst hA; subst hc'
          clear hn'
          have hno : getI (limsI ns.length (ns.take k)) (n : Int) = none := getI_none _ _ fun p hp => by
            unfold limsI at hp
            obtain ⟨a, ha, rfl⟩ := List.mem_map.1 hp
            obtain ⟨q, hq, hqa⟩ := List.mem_iff_getElem.1 ha
            have hqk : q < k := by simp at hq; omega
            have hqn : ns[q]? = some a := by
              rw [List.getElem_take] at hqa
              rw [← hqa]
              exact List.getElem?_eq_getElem (by omega)
            have : a < n := HN.out.lt_of hqn hn hqk
            simp; omega
          have hst : limsI ns.length (ns.take (k + 1)) = setI (limsI ns.length (ns.take k)) (n : Int) (.int .i64 ((80 + (ns.length : Int) - 1) / (ns.length : Int))) := by
            rw [setI_none _ _ _ hno, List.take_add_one, hn]
            simp [limsI, limF]
          have HST := Lib.hid hst
          have hW : Below w.heap.size w (wr.alloc (.cells #[.int .i64 n, .int .i64 0, .int .i64 1] 83)).drew := (ext_alloc HE3.out _).drew
          have hWg : w.heap.size < (wr.alloc (.cells #[.int .i64 n, .int .i64 0, .int .i64 1] 83)).heap.size := (HM3.out.ext (ext_new wr (.cells #[.int .i64 n, .int .i64 0, .int .i64 1] 83))).lt
          obtain ⟨o, hup, hMu⟩ := update_I (P := Tryz.prog) (w := (wr.alloc (.cells #[.int .i64 n, .int .i64 0, .int .i64 1] 83)).drew) Tryz.underlying145 Tryz.underlying3 (MapI.drew (HM3.out.ext (ext_new wr _))) (n : Int) (.int .i64 ((80 + (ns.length : Int) - 1) / (ns.length : Int)))
          have HMu := Lib.hid hMu
          have HW := Lib.hid hW
          have e2 : IntKind.i64.wrap ((k : Int) + 1) = (k : Int) + 1 := by rw [IntWalk.i64_in _ (by omega)]
          have d1 : decide ((k : Int) < (ns.length : Int)) = true := by simp; omega
          have q0 : (0 : Int) ≤ (k : Int) := by omega
          have q1 : (k : Int) < (ns.length : Int) := by omega
          clear hn hno hst hMu hW
          go_upto_region 12 with (fail)
          go_region
          all_goals
            go_wp2
            go_roundw
            case rel => exact ⟨k + 1, by omega, by go_num, by rw [HST.out]; exact HMu.out, ext_put HW.out (Nat.le_refl _) _⟩
            case measure => simp [intOf]; omega
        · have d1 : decide ((k : Int) < (ns.length : Int)) = false := by simp; omega
          obtain rfl : k = ns.length := by omega
          rw [List.take_length] at HM3
          go_wp2
          go_ret
          exact ⟨_, rfl, Nat.le_refl _, HM3.out, HE3.out⟩

end Go.Proofs.YtbgfmbmcabekeaaGreatDoor

/-
  Plain laws on rings: as long as fewer slots are given away than all members together may hold, one of them has room.
-/
namespace Go.Proofs.YtbgfmbmcabekeaaGreatDoor

theorem ind_zero (o : Nat) : ∀ ns : List Nat, o ∉ ns → (ns.map (fun n => if o = n then 1 else 0)).sum = 0 := by
  intro ns
  induction ns with
  | nil => intro _; rfl
  | cons a r ih =>
    intro h
    rw [List.mem_cons, not_or] at h
    simp [h.1, ih h.2]
theorem ind_one (o : Nat) : ∀ ns : List Nat, ns.Nodup → o ∈ ns → (ns.map (fun n => if o = n then 1 else 0)).sum = 1 := by
  intro ns
  induction ns with
  | nil => intro _ h; cases h
  | cons a r ih =>
    intro hn h
    rw [List.nodup_cons] at hn
    by_cases ha : o = a
    · subst ha
      simp [ind_zero o r hn.1]
    · rcases List.mem_cons.1 h with h | h
      · exact absurd h ha
      · simp [ha, ih hn.2 h]
theorem sum_add (f g : Nat → Nat) : ∀ ns : List Nat, (ns.map (fun n => f n + g n)).sum = (ns.map f).sum + (ns.map g).sum := by
  intro ns
  induction ns with
  | nil => rfl
  | cons a r ih => simp only [List.map_cons, List.sum_cons, ih]; omega
theorem count_sum (ns : List Nat) (hn : ns.Nodup) : ∀ os : List Nat, (∀ o ∈ os, o ∈ ns) → (ns.map (fun n => os.count n)).sum = os.length := by
  intro os
  induction os with
  | nil =>
    intro _
    induction ns with
    | nil => rfl
    | cons a r ih => simpa using ih (List.nodup_cons.1 hn).2
  | cons o r ih =>
    intro h
    have e : (fun n => (o :: r).count n) = fun n => r.count n + (if o = n then 1 else 0) := by
      funext n
      rw [List.count_cons]
      by_cases hon : o = n <;> simp [hon]
    rw [e, sum_add, ih (fun x hx => h x (List.mem_cons_of_mem _ hx)), ind_one o ns hn (h o (List.mem_cons_self ..))]
    rfl
theorem sum_ge (f : Nat → Nat) (L : Nat) : ∀ ns : List Nat, (∀ n ∈ ns, L ≤ f n) → ns.length * L ≤ (ns.map f).sum := by
  intro ns
  induction ns with
  | nil => intro _; simp
  | cons a r ih =>
    intro h
    have h1 := h a (List.mem_cons_self ..)
    have h2 := ih fun n hn => h n (List.mem_cons_of_mem _ hn)
    simp only [List.map_cons, List.sum_cons, List.length_cons, Nat.succ_mul]
    omega
/-- if all members hold L, no fewer slots are given away than that -/
theorem room_left (ns : List Nat) (hn : ns.Nodup) (os : List Nat) (h : ∀ o ∈ os, o ∈ ns) (L : Nat) (hall : ∀ n ∈ ns, L ≤ os.count n) : ns.length * L ≤ os.length := by
  rw [← count_sum ns hn os h]
  exact sum_ge _ L ns hall

end Go.Proofs.YtbgfmbmcabekeaaGreatDoor

/-
  package ring: ValidRing at a ring whose owners keep within the limits.
-/
namespace Go.Proofs.YtbgfmbmcabekeaaGreatDoor
open Go.RowKit

theorem bcells3 {w : World} {g : Nat} {t : TypeId} {a0 a1 a2 : Value} (h : Blk w g t #[a0, a1, a2]) : w.cell? ⟨g, 0, none⟩ = some a0 ∧ w.cell? ⟨g, 1, none⟩ = some a1 ∧ w.cell? ⟨g, 2, none⟩ = some a2 := ⟨h.cell 0, h.cell 1, h.cell 2⟩

theorem NodesOK.nodup {ns : List Nat} (h : NodesOK ns) : ns.Nodup := by
  unfold List.Nodup
  rw [List.pairwise_iff_getElem]
  intro i j hi hj hij e
  have := h.lt_of (List.getElem?_eq_getElem hi) (List.getElem?_eq_getElem hj) hij
  omega

/-- a slice of numbers in memory -/
def NumsAt (w : World) (v : Value) (os : List Nat) : Prop :=
  ∃ A c, v = .slice A os.length c ∧ os.length ≤ c ∧ (0 < os.length → ∃ b off, A = some ⟨b, off, none⟩ ∧ ∀ (j n : Nat), os[j]? = some n → w.cell? ⟨b, off + j, none⟩ = some (.int .i64 n))
theorem NumsAt.ext {w W : World} {v : Value} {os : List Nat} (h : NumsAt w v os) (k : Below w.heap.size w W) : NumsAt W v os := by
  obtain ⟨A, c, rfl, hc, h⟩ := h
  refine ⟨A, c, rfl, hc, fun h0 => ?_⟩
  obtain ⟨b, off, hA, hcell⟩ := h h0
  exact ⟨b, off, hA, fun j n hn => cell_ext (hcell j n hn) k⟩
theorem NumsAt.at_ {w : World} {v : Value} {os : List Nat} (h : NumsAt w v os) {j n : Nat} (hj : os[j]? = some n) : ∃ b off c, v = .slice (some ⟨b, off, none⟩) os.length c ∧ os.length ≤ c ∧ w.cell? ⟨b, off + j, none⟩ = some (.int .i64 n) := by
  obtain ⟨A, c, rfl, hc, h⟩ := h
  have hlt := (List.getElem?_eq_some_iff.1 hj).1
  obtain ⟨b, off, rfl, hcell⟩ := h (by omega)
  exact ⟨b, off, c, rfl, hc, hcell j n hj⟩

/-- the room that is left to each member -/
def roomI (ns : List Nat) (f : Nat → Int) : List (Int × Value) := ns.map fun n : Nat => ((n : Int), Value.int .i64 (f n))
theorem roomI_get (f : Nat → Int) (o : Nat) : ∀ ns : List Nat, o ∈ ns → getI (roomI ns f) (o : Int) = some (.int .i64 (f o)) := by
  intro ns
  induction ns with
  | nil => intro h; cases h
  | cons a r ih =>
    intro h
    show (if ((a : Int) = (o : Int)) then some (Value.int .i64 (f a)) else getI (roomI r f) (o : Int)) = _
    by_cases ha : a = o
    · subst ha; simp
    · rw [if_neg (by omega)]
      rcases List.mem_cons.1 h with h | h
      · exact absurd h.symm ha
      · exact ih h
theorem roomI_other (f g : Nat → Int) (ns : List Nat) (h : ∀ n ∈ ns, f n = g n) : roomI ns f = roomI ns g := by
  unfold roomI
  exact List.map_congr_left fun n hn => by rw [h n hn]
theorem roomI_set (f : Nat → Int) (o : Nat) (x : Int) : ∀ ns : List Nat, ns.Nodup → o ∈ ns → setI (roomI ns f) (o : Int) (.int .i64 x) = roomI ns (fun n => if n = o then x else f n) := by
  intro ns
  induction ns with
  | nil => intro _ h; cases h
  | cons a r ih =>
    intro hn h
    rw [List.nodup_cons] at hn
    show (if ((a : Int) = (o : Int)) then ((o : Int), Value.int .i64 x) :: roomI r f else ((a : Int), Value.int .i64 (f a)) :: setI (roomI r f) (o : Int) (.int .i64 x)) = _
    by_cases ha : a = o
    · subst ha
      rw [if_pos rfl, roomI_other f (fun n => if n = a then x else f n) r (fun n hm => by
        have : n ≠ a := fun e => hn.1 (e ▸ hm)
        simp [this])]
      simp [roomI]
    · rw [if_neg (by omega)]
      rcases List.mem_cons.1 h with h | h
      · exact absurd h.symm ha
      · rw [ih hn.2 h]
        simp [roomI, ha]
theorem limF_le (m : Nat) (h0 : 0 < m) (h1 : m ≤ 24) : 1 ≤ limF m ∧ limF m ≤ 103 := by
  unfold limF
  constructor
  · exact Int.le_ediv_of_mul_le (by omega) (by omega)
  · refine Int.le_trans (Int.ediv_le_self _ (by omega)) (by omega)

set_option maxHeartbeats 2000000 in
theorem validRing_yes (ns os : List Nat) (ep : Int) (vm vo : Value) (w : World) (hm : MemsAt w vm ns) (hn : NodesOK ns) (ho : NumsAt w vo os) (hl : os.length = 64) (hos : ∀ o ∈ os, o ∈ ns) (hlim : ∀ n, (os.count n : Int) ≤ limF ns.length)
    (h1 : 1 ≤ ep) (h2 : ep ≤ 1000000) :
    Calls Tryz.prog 37 #[.agg #[.int .i64 ep, vm, vo]] w fun e w' => e = .returned (.bool true) ∧ Below w.heap.size w w' := by
  obtain ⟨X, hX⟩ : ∃ X, X = w.alloc (.cells #[.int .i64 ep, vm, vo] 30) := ⟨_, rfl⟩
  have HX := Lib.hid hX
  have HE0 := Lib.hid (show Below w.heap.size w X by rw [hX]; exact ext_new _ _)
  have HB0 := Lib.hid (show Blk X w.heap.size 30 #[.int .i64 ep, vm, vo] by rw [hX]; exact Blk.new _ _ _)
  have HM := Lib.hid (hm.ext HE0.out)
  have HO := Lib.hid (ho.ext HE0.out)
  have HN := Lib.hid hn
  have HLI := Lib.hid hlim
  have HOS := Lib.hid hos
  have HL := Lib.hid hl
  obtain ⟨Am, cm, rfl, hcm, _⟩ := hm
  obtain ⟨Ao, co, rfl, hco, _⟩ := ho
  have hfew := hn.few
  have hsome := hn.some_
  obtain ⟨hf1, hf2⟩ := limF_le ns.length hsome hfew
  have h64 : os.length ≤ 64 := by omega
  clear hX hn hlim hos hl
  obtain ⟨b0, b1, b2⟩ := bcells3 HB0.out
  go_enter Tryz.func37, Tryz.ntmps37
  go_wp2_with fail
  rw [← HX.out]
  refine (limits_any ns _ X HM.out HN.out).mono ?_
  rintro e W1 ⟨g, rfl, hg, hM1, hb1⟩
  have HE1 := Lib.hid hb1
  have HM1 := Lib.hid (show MapI W1 g (roomI ns (fun n => limF ns.length - (os.take 0).count n)) by simpa [roomI, limsI] using hM1)
  have HG := Lib.hid hg
  clear hg hM1 hb1 b0 b1 b2
  obtain ⟨b0, b1, b2⟩ := bcells3 (HB0.out.ext HE1.out)
  go_wp2_with fail
  clear b0 b1 b2
  go_loopw [5, 12] (fun _ i W => ∃ k : Nat, k ≤ os.length ∧ i = .int .i64 k ∧ MapI W g (roomI ns (fun n => limF ns.length - (os.take k).count n)) ∧ Below X.heap.size X W) (fun _ i _ => os.length - (intOf i).toNat)
  case atStart => exact ⟨0, Nat.zero_le _, rfl, HM1.out, HE1.out⟩
  case round =>
    obtain ⟨k, hk, rfl, hM, hE⟩ := hrel
    have HE := Lib.hid hE
    have HMk := Lib.hid hM
    clear hE hM
    by_cases hlt : k < os.length
    · obtain ⟨o, ho⟩ : ∃ o, os[k]? = some o := ⟨_, List.getElem?_eq_getElem (by omega)⟩
      obtain ⟨b, off, c', hA, _, c0⟩ := (HO.out.ext HE.out).at_ ho
      injection hA with hA hn' hc'
      subst hA; subst hc'
      clear hn'
      have hons := HOS.out o (List.mem_of_getElem? ho)
      have hz : (zeroValue 3).run Tryz.prog wr = .ok (.int .i64 0) wr := by kernel_rfl
      have hget := roomI_get (fun n => limF ns.length - (os.take k).count n) o ns hons
      have hlk := lookup_I (P := Tryz.prog) (w := wr) Tryz.underlying145 Tryz.underlying3 HMk.out (o : Int) hz
      rw [hget, Option.getD_some] at hlk
      obtain ⟨q, hq⟩ : ∃ q : Int, q = limF ns.length - (os.take k).count o := ⟨_, rfl⟩
      rw [← hq] at hlk
      have hcnt : ((os.take (k + 1)).count o : Int) = (os.take k).count o + 1 := by
        rw [List.take_add_one, ho]
        simp [List.count_append]
      have hle : ((os.take (k + 1)).count o : Int) ≤ limF ns.length := by
        refine Int.le_trans ?_ (HLI.out o)
        exact_mod_cast (List.take_sublist (k + 1) os).count_le o
      have hq0 : 1 ≤ q := by omega
      have hq1 : q ≤ 103 := by omega
      have e1 : IntKind.i64.wrap (q - 1) = q - 1 := by rw [IntWalk.i64_in _ (by omega)]
      obtain ⟨ob, hup, hMu⟩ := update_I (P := Tryz.prog) (w := wr) Tryz.underlying145 Tryz.underlying3 HMk.out (o : Int) (.int .i64 (q - 1))
      have hset : setI (roomI ns (fun n => limF ns.length - (os.take k).count n)) (o : Int) (.int .i64 (q - 1)) = roomI ns (fun n => limF ns.length - (os.take (k + 1)).count n) := by
        rw [roomI_set _ o _ ns HN.out.nodup hons]
        refine roomI_other _ _ ns fun n _ => ?_
        by_cases hno : n = o
        · subst hno
          simp only [if_true]
          omega
        · have : (os.take (k + 1)).count n = (os.take k).count n := by
            rw [List.take_add_one, ho]
            have hno' : o ≠ n := fun e => hno e.symm
            simp [List.count_append, List.count_cons, hno']
          simp [hno, this]
      rw [hset] at hMu
      have hget2 := roomI_get (fun n => limF ns.length - (os.take (k + 1)).count n) o ns hons
      have hz2 : (zeroValue 3).run Tryz.prog (wr.putObj g ob) = .ok (.int .i64 0) (wr.putObj g ob) := by kernel_rfl
      have hlk2 := lookup_I (P := Tryz.prog) (w := wr.putObj g ob) Tryz.underlying145 Tryz.underlying3 hMu (o : Int) hz2
      rw [hget2, Option.getD_some, show limF ns.length - (os.take (k + 1)).count o = q - 1 by omega] at hlk2
      have HMu := Lib.hid hMu
      have HEu := Lib.hid (HE.out.trans (show Below X.heap.size wr (wr.putObj g ob) from ⟨rfl, rfl, rfl, by simp, fun i hi => World.putObj_heap_other (by have := HG.out; omega)⟩))
      have e2 : IntKind.i64.wrap ((k : Int) + 1) = (k : Int) + 1 := by rw [IntWalk.i64_in _ (by omega)]
      have d1 : decide ((k : Int) < (os.length : Int)) = true := by simp; omega
      have d2 : decide (q - 1 < 0) = false := by simp; omega
      have q0 : (0 : Int) ≤ (k : Int) := by omega
      have q1 : (k : Int) < (os.length : Int) := by omega
      clear ho hons hget hget2 hset hMu hq hcnt hle hz hz2
      go_wp2
      go_roundw
      case rel => exact ⟨k + 1, by omega, by go_num, HMu.out, HEu.out⟩
      case measure => simp [intOf]; omega
    · have d1 : decide ((k : Int) < (os.length : Int)) = false := by simp; omega
      obtain ⟨b0, b1, b2⟩ := bcells3 (HB0.out.ext HE.out)
      have d3 : ((os.length : Int) == 64) = true := by simp; have := HL.out; omega
      have HRV := Lib.hid (rvalid_yes ns _ wr (HM.out.ext HE.out) HN.out)
      go_wp2_with (first
        | (go_at_call 68; refine (rwithin_yes _ _ _ h1 h2 _).mono ?_; rintro e w' ⟨rfl, rfl⟩)
        | (go_at_call 69; refine HRV.out.mono ?_; rintro e W3 ⟨rfl, hb3⟩; have HE3 := Lib.hid (ext_call HE.out hb3); obtain ⟨x0, x1, x2⟩ := bcells3 (HB0.out.ext HE3.out); clear hb3))
      go_ret
      exact ⟨rfl, ext_call HE0.out HE3.out⟩

end Go.Proofs.YtbgfmbmcabekeaaGreatDoor
