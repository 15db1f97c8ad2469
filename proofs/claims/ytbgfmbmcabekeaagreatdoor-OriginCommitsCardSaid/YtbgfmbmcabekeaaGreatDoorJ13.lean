/-
  Part 13 of 17: the contracts that the proof of the last part uses; each stands under its own head.
-/
import Derived.Test.YtbgfmbmcabekeaaGreatDoorJ3
import Derived.Maps.RangeRun
import Derived.Test.YtbgfmbmcabekeaaGreatDoorJ12
import Derived.Test.YtbgfmbmcabekeaaGreatDoorJ6
import Derived.Test.YtbgfmbmcabekeaaGreatDoorJ1
import Derived.Deep.RegionHeld
import Derived.Test.YtbgfmbmcabekeaaGreatDoorJ8
set_option linter.unusedSimpArgs false
set_option linter.unusedVariables false

/-
  package store: the map of rows as a list of rows: look-up, update, delete, length.
-/
namespace Go.Proofs.YtbgfmbmcabekeaaGreatDoor
open Go.RowKit

def RowT.is (t k : Int) (r : RowT) : Bool := decide (t = r.t) && decide (k = r.k)
/-- the row of a key -/
def getR (rs : List RowT) (t k : Int) : Option RowT := rs.find? (RowT.is t k)
def putR (rs : List RowT) (r : RowT) : List RowT := match rs.findIdx? (RowT.is r.t r.k) with | some i => rs.set i r | none => rs ++ [r]
def delR (rs : List RowT) (t k : Int) : List RowT := match rs.findIdx? (RowT.is t k) with | some i => rs.eraseIdx i | none => rs
def RowT.keyV (r : RowT) : Value := .agg #[.int .i64 r.t, .int .i64 r.k]

/-- block g is the map of these rows -/
def MapR (w : World) (g : Nat) (rs : List RowT) : Prop := ∃ es c, MapAt w g es c ∧ (es.toList.map (·.born)).Nodup ∧ (∀ e ∈ es.toList, e.born < c) ∧ es.toList.map (fun e => (e.key, e.val)) = rs.map (fun r => (r.keyV, r.val))
section
variable {w W : World} {g : Nat} {rs : List RowT}
theorem MapR.ext (h : MapR w g rs) (k : Below w.heap.size w W) : MapR W g rs := by
  obtain ⟨es, c, h, h2⟩ := h
  exact ⟨es, c, h.ext k, h2⟩
theorem MapR.lt (h : MapR w g rs) : g < w.heap.size := by
  obtain ⟨es, c, h, _⟩ := h
  exact h.lt
theorem MapR.new (w : World) : MapR (w.alloc (.map #[] 0)) w.heap.size [] := ⟨#[], 0, MapAt.new w, by simp, by simp, rfl⟩

theorem idEq (a b x y : Int) (W : World) : (Op.equal 136 (.agg #[.int .i64 a, .int .i64 b]) (.agg #[.int .i64 x, .int .i64 y])).run Tryz.prog W = .ok (decide (a = x) && decide (b = y)) W := by
  by_cases h1 : a = x <;> by_cases h2 : b = y <;> (unfold Op.equal Op.maxDepth; simp [go_sem, h1, h2])
theorem idCheck (e : Bool) (a b : Int) (W : World) : (Instr.checkKey e 10000 136 (.agg #[.int .i64 a, .int .i64 b])).run Tryz.prog W = .ok () W := by cases e <;> kernel_rfl
theorem findAsk_id (t k : Int) : ∀ (rs : List RowT) (es : List MapEntry) (i : Nat), es.map (fun e => (e.key, e.val)) = rs.map (fun r => (r.keyV, r.val)) →
    (Instr.findAsking 136 (.agg #[.int .i64 t, .int .i64 k]) es i).run Tryz.prog w = .ok ((rs.findIdx? (RowT.is t k)).map fun j => (i + j, ((rs[j]?).map RowT.val).getD undef)) w := by
  intro rs
  induction rs with
  | nil =>
    intro es i h
    cases es with
    | nil => simp [Instr.findAsking]
    | cons e r => cases h
  | cons p r ih =>
    intro es i h
    cases es with
    | nil => cases h
    | cons e es =>
      simp only [List.map_cons, List.cons.injEq, Prod.mk.injEq] at h
      obtain ⟨⟨hk, hv⟩, ht⟩ := h
      unfold Instr.findAsking
      rw [hk]
      simp only [RowT.keyV, Sem.run_bind, idEq, Result.andThen_ok]
      by_cases hp : (RowT.is t k p) = true
      · have hp' : (decide (t = p.t) && decide (k = p.k)) = true := hp
        rw [hp', List.findIdx?_cons, hp]
        simp [hv]
      · have hp' : (decide (t = p.t) && decide (k = p.k)) = false := by simpa [RowT.is] using hp
        have hp2 : RowT.is t k p = false := by simpa using hp
        rw [hp', List.findIdx?_cons, hp2]
        simp only [Bool.false_eq_true, if_false, ih es (i + 1) ht]
        cases List.findIdx? (RowT.is t k) r with
        | none => rfl
        | some j => simp; omega
theorem findKey_id (t k : Int) (rs : List RowT) (es : List MapEntry) (h : es.map (fun e => (e.key, e.val)) = rs.map (fun r => (r.keyV, r.val))) :
    (Instr.findKey 136 (.agg #[.int .i64 t, .int .i64 k]) es).run Tryz.prog w = .ok ((rs.findIdx? (RowT.is t k)).map fun j => (j, ((rs[j]?).map RowT.val).getD undef)) w := by
  have h1 := findAsk_id (w := w) t k rs es 0 h
  simp only [Nat.zero_add] at h1
  cases es with
  | nil =>
    cases rs with
    | nil => simp [Instr.findKey, run_underlying Tryz.underlying136, Result.andThen, Instr.findNow]
    | cons p r => cases h
  | cons e es =>
    have hk : ∃ x y, e.key = .agg #[.int .i64 x, .int .i64 y] := by
      cases rs with
      | nil => cases h
      | cons p r => simp only [List.map_cons, List.cons.injEq, Prod.mk.injEq] at h; exact ⟨_, _, h.1.1⟩
    obtain ⟨x, y, hk⟩ := hk
    simp only [Instr.findKey, Sem.run_bind, run_underlying Tryz.underlying136, Result.andThen_ok, Instr.findNow, hk, Instr.sameNow]
    exact h1

theorem lookupR (h : MapR w g rs) (t k : Int) : (Instr.lookup 130 (.map (some g)) (.agg #[.int .i64 t, .int .i64 k]) true).run Tryz.prog w = .ok (.tuple #[((getR rs t k).map RowT.val).getD (.agg #[.int .i64 0, .int .i64 0, .int .i64 0, .int .i64 0, .int .i64 0]), .bool (getR rs t k).isSome]) w := by
  obtain ⟨es, c, hm, -, -, e⟩ := h
  have hg := getM (P := Tryz.prog) hm
  have hf := findKey_id (w := w) t k rs es.toList e
  unfold Instr.lookup
  simp only [Sem.run_bind, run_underlying Tryz.underlying130, Result.andThen_ok, hg, idCheck, hf, Sem.run_pure]
  unfold getR
  cases hc : rs.findIdx? (RowT.is t k) with
  | none =>
    have h1 : rs.find? (RowT.is t k) = none := by
      rw [List.findIdx?_eq_none_iff] at hc
      rw [List.find?_eq_none]
      intro x hx
      simpa using hc x hx
    simp [h1, row_zero, Result.andThen]
  | some i =>
    rw [List.findIdx?_eq_some_iff_getElem] at hc
    obtain ⟨hi, h1, h2⟩ := hc
    have h3 : rs.find? (RowT.is t k) = some rs[i] := by
      rw [List.find?_eq_some_iff_getElem]
      exact ⟨h1, i, hi, rfl, fun j hj => by simpa using h2 j hj⟩
    simp [h3, hi, Result.andThen]

theorem keyStays (a b : Int) (W : World) : (Instr.keyThatStays (.agg #[.int .i64 a, .int .i64 b]) (.agg #[.int .i64 a, .int .i64 b])).run Tryz.prog W = .ok (.agg #[.int .i64 a, .int .i64 b]) W := by
  simp [Instr.keyThatStays, Instr.sameBits]

theorem map_eraseIdx' {α β : Type} (g : α → β) : ∀ (l : List α) (i : Nat), (l.eraseIdx i).map g = (l.map g).eraseIdx i
  | [], _ => rfl
  | _ :: _, 0 => rfl
  | x :: l, i + 1 => by simp only [List.eraseIdx_cons_succ, List.map_cons, map_eraseIdx' g l i]
theorem map_modify_same {α β : Type} (l : List α) (i : Nat) (f : α → α) (g : α → β) (h : ∀ x, g (f x) = g x) : (l.modify i f).map g = l.map g := by
  apply List.ext_getElem?
  intro j
  rw [List.getElem?_map, List.getElem?_map, List.getElem?_modify]
  cases l[j]? with
  | none => rfl
  | some x => by_cases hij : i = j <;> simp [hij, h]
theorem map_modify_set {α β : Type} (l : List α) (i : Nat) (f : α → α) (g : α → β) (v : β) (h : ∀ x, l[i]? = some x → g (f x) = v) : (l.modify i f).map g = (l.map g).set i v := by
  apply List.ext_getElem?
  intro j
  rw [List.getElem?_map, List.getElem?_modify, List.getElem?_set, List.getElem?_map, List.length_map]
  by_cases hij : i = j
  · subst hij
    cases hx : l[i]? with
    | none =>
      have : ¬ i < l.length := by rw [List.getElem?_eq_none_iff] at hx; omega
      simp [this]
    | some x =>
      have : i < l.length := (List.getElem?_eq_some_iff.1 hx).1
      simp [this, h x hx]
  · simp [hij]
theorem updateR (h : MapR w g rs) (r : RowT) : ∃ o, (Instr.mapUpdate 130 (.map (some g)) (.agg #[.int .i64 r.t, .int .i64 r.k]) (.agg #[.int .i64 r.t, .int .i64 r.k, .int .i64 r.a, .int .i64 r.b, .int .i64 r.c])).run Tryz.prog w = .ok () (w.putObj g o) ∧ MapR (w.putObj g o) g (putR rs r) := by
  obtain ⟨es, c, hm, hnd, hlt, e⟩ := h
  have hg := getM (P := Tryz.prog) hm
  have hs := fun o => setM (P := Tryz.prog) o hm
  have hf := findKey_id (w := w) r.t r.k rs es.toList e
  unfold Instr.mapUpdate putR
  simp only [Sem.run_bind, run_underlying Tryz.underlying130, Result.andThen_ok, hg, idCheck, hf, Sem.run_pure]
  cases hc : rs.findIdx? (RowT.is r.t r.k) with
  | none =>
    simp only [Option.map_none, hs]
    refine ⟨_, rfl, _, _, hm.put _ _, ?_, ?_, ?_⟩
    · simp only [Array.toList_push, List.map_append, List.map_cons, List.map_nil]
      rw [List.nodup_append]
      refine ⟨hnd, by simp, fun a ha b hb => ?_⟩
      simp only [List.mem_map] at ha
      obtain ⟨x, hx, rfl⟩ := ha
      have := hlt x hx
      simp at hb
      omega
    · intro x hx
      simp only [Array.toList_push, List.mem_append, List.mem_singleton] at hx
      rcases hx with hx | rfl
      · have := hlt x hx; omega
      · simp
    · simp only [Array.toList_push, List.map_append, List.map_cons, List.map_nil, e]
      rfl
  | some i =>
    rw [List.findIdx?_eq_some_iff_getElem] at hc
    obtain ⟨hi, h1, h2⟩ := hc
    have hlen : es.size = rs.length := by
      have := congrArg List.length e
      simpa using this
    have hie : i < es.size := by omega
    have hk : es[i].key = .agg #[.int .i64 r.t, .int .i64 r.k] := by
      have h3 := congrArg (fun l => l[i]?) e
      simp only [List.getElem?_map, List.getElem?_eq_getElem hi, Array.getElem?_toList, Array.getElem?_eq_getElem hie, Option.map_some, Option.some.injEq, Prod.mk.injEq] at h3
      rw [h3.1]
      simp only [RowT.is, Bool.and_eq_true, decide_eq_true_eq] at h1
      rw [RowT.keyV, h1.1, h1.2]
    simp only [Option.map_some, Array.getElem?_eq_getElem hie, Option.getD_some, hk, keyStays, Result.andThen_ok, hs, Sem.run_bind]
    refine ⟨_, rfl, _, _, hm.put _ _, ?_, ?_, ?_⟩
    · rw [Array.toList_modify, map_modify_same]
      · exact hnd
      · intro x; rfl
    · intro x hx
      rw [Array.toList_modify, List.mem_iff_getElem?] at hx
      obtain ⟨j, hj⟩ := hx
      rw [List.getElem?_modify] at hj
      cases hy : es.toList[j]? with
      | none => rw [hy] at hj; cases hj
      | some y =>
        rw [hy] at hj
        have h4 := hlt y (List.mem_of_getElem? hy)
        simp only [Option.map_eq_map, Option.map_some, Option.some.injEq] at hj
        by_cases hij : i = j
        · rw [if_pos hij] at hj; rw [← hj]; exact h4
        · rw [if_neg hij] at hj; rw [← hj]; exact h4
    · rw [Array.toList_modify]
      refine (map_modify_set es.toList i _ (fun e => (e.key, e.val)) (r.keyV, r.val) (fun x hx => rfl)).trans ?_
      rw [e, List.map_set]

/-- 'delete' -/
theorem deleteR (h : MapR w g rs) (t k : Int) : ∃ o, (∀ ty, (Builtin.delete_ #[130, 136] ty #[.map (some g), .agg #[.int .i64 t, .int .i64 k]]).run Tryz.prog w = .ok (.tuple #[]) (w.putObj g o)) ∧ MapR (w.putObj g o) g (delR rs t k) := by
  obtain ⟨es, c, hm, hnd, hlt, e⟩ := h
  have hg := getM (P := Tryz.prog) hm
  have hs := fun o => setM (P := Tryz.prog) o hm
  have hf := findKey_id (w := w) t k rs es.toList e
  unfold Builtin.delete_ delR
  simp only [List.getElem?_toArray, List.getElem?_cons_zero, List.getElem?_cons_succ, Sem.run_bind, run_underlying Tryz.underlying130, Result.andThen_ok, hg, idCheck, hf, Sem.run_pure]
  cases hc : rs.findIdx? (RowT.is t k) with
  | none =>
    simp only [Option.map_none, hs, Sem.run_bind, Sem.run_pure, Result.andThen_ok]
    exact ⟨_, fun _ => rfl, _, _, hm.put _ _, hnd, hlt, e⟩
  | some i =>
    simp only [Option.map_some, hs, Sem.run_bind, Sem.run_pure, Result.andThen_ok]
    refine ⟨_, fun _ => rfl, _, _, hm.put _ _, ?_, ?_, ?_⟩
    · rw [Array.toList_eraseIdxIfInBounds]
      exact hnd.sublist ((List.eraseIdx_sublist _ _).map _)
    · intro x hx
      rw [Array.toList_eraseIdxIfInBounds] at hx
      exact hlt x ((List.eraseIdx_sublist _ _).subset hx)
    · rw [Array.toList_eraseIdxIfInBounds, map_eraseIdx', e, map_eraseIdx']

theorem lenR (h : MapR w g rs) (t : TypeId) : (Builtin.len_ #[130] t #[.map (some g)]).run Tryz.prog w = .ok (.int .i64 rs.length) w := by
  obtain ⟨es, c, hm, -, -, e⟩ := h
  refine len_map Tryz.underlying130 hm t ?_
  have := congrArg List.length e
  simp at this
  rw [this]
  rfl
end

end Go.Proofs.YtbgfmbmcabekeaaGreatDoor

/-
  package slices: Clone of changes; a block of changes; package store: Get at any state.
-/
namespace Go.Proofs.YtbgfmbmcabekeaaGreatDoor
open Go.RowKit Go.Shelf

/-- the cells of a list of changes -/
def cc (l : List ChgT) : List Value := l.flatMap fun c => c.arr.toList
theorem cc_length (l : List ChgT) : (cc l).length = l.length * 10 := by
  induction l with
  | nil => rfl
  | cons a r ih => simp [cc, ChgT.arr] at ih ⊢; omega
theorem cc_one (l : List ChgT) : ∀ u ∈ cc l, u.oneCell' = true := by
  intro u hu
  simp only [cc, List.mem_flatMap] at hu
  obtain ⟨x, _, hx⟩ := hu
  simp only [ChgT.arr, List.mem_cons, List.not_mem_nil, or_false] at hx
  rcases hx with rfl | rfl | rfl | rfl | rfl | rfl | rfl | rfl | rfl | rfl <;> rfl
theorem cc_at : ∀ (l : List ChgT) (j : Nat) (x : ChgT), l[j]? = some x → ∀ i, i < 10 → (cc l)[j * 10 + i]? = x.arr[i]?
  | [], j, x, h, i, hi => by simp at h
  | y :: l, 0, x, h, i, hi => by
    simp only [List.getElem?_cons_zero, Option.some.injEq] at h
    subst h
    simp only [cc, List.flatMap_cons, Nat.zero_mul, Nat.zero_add]
    rw [List.getElem?_append_left (show i < y.arr.toList.length from hi)]
    simp
  | y :: l, j + 1, x, h, i, hi => by
    have h1 := cc_at l j x (by simpa using h) i hi
    simp only [cc, List.flatMap_cons]
    rw [List.getElem?_append_right (by simp [ChgT.arr]; omega)]
    have e : (j + 1) * 10 + i - y.arr.toList.length = j * 10 + i := by simp [ChgT.arr]; omega
    rw [e]
    exact h1
theorem ChgsAt.cells {w : World} {b off c : Nat} {l : List ChgT} (h : ChgsAt w (.slice (some ⟨b, off, none⟩) l.length c) l) : ∀ (i : Nat) (u : Value), (cc l)[i]? = some u → w.cell? ⟨b, off + i, none⟩ = some u := by
  intro i u hu
  have hi : i < l.length * 10 := by rw [← cc_length]; exact (List.getElem?_eq_some_iff.1 hu).1
  have hj : i / 10 < l.length := by omega
  obtain ⟨b', off', c', e, _, h1⟩ := h.at_ (List.getElem?_eq_getElem hj)
  injection e with e _ _
  injection e with e
  injection e with e1 e2
  subst e1 e2
  have h2 := h1 (i % 10) (by omega)
  have h3 := cc_at l (i / 10) _ (List.getElem?_eq_getElem hj) (i % 10) (by omega)
  have e4 : i / 10 * 10 + i % 10 = i := by omega
  rw [e4] at h3
  rw [Nat.add_assoc, e4, ← h3, hu] at h2
  exact h2

/-- a block whose head is a list of changes -/
def ChgB (w : World) (g : Nat) (l : List ChgT) : Prop := ∃ cur, Blk w g 75 cur ∧ ∀ (j : Nat) (x : ChgT), l[j]? = some x → ∀ i, i < 10 → cur[j * 10 + i]? = x.arr[i]?
section
variable {w W : World} {g : Nat} {l : List ChgT}
theorem ChgB.lt (h : ChgB w g l) : g < w.heap.size := by obtain ⟨cur, h, _⟩ := h; exact h.lt
theorem ChgB.ext (h : ChgB w g l) (k : Below w.heap.size w W) : ChgB W g l := by obtain ⟨cur, h, h2⟩ := h; exact ⟨cur, h.ext k, h2⟩
theorem ChgB.alloc (h : ChgB w g l) (o : Obj) : ChgB (w.alloc o) g l := h.ext (ext_new w o)
theorem ChgB.far (h : ChgB w g l) {p : Addr} (hp : g ≠ p.block) (u : Value) : ChgB (w.setCell p u) g l := by obtain ⟨cur, h, h2⟩ := h; exact ⟨cur, h.far hp u, h2⟩
theorem ChgB.drew (h : ChgB w g l) : ChgB w.drew g l := h
theorem ChgB.frozen (h : ChgB w g l) (i : Nat) : w.frozen? ⟨g, i, none⟩ = false := by obtain ⟨cur, h, _⟩ := h; exact h.frozen i
theorem ChgB.cell (h : ChgB w g l) {j : Nat} {x : ChgT} (hj : l[j]? = some x) (i : Nat) (hi : i < 10) : w.cell? ⟨g, j * 10 + i, none⟩ = x.arr[i]? := by
  obtain ⟨cur, h, h2⟩ := h
  rw [h.cell]
  exact h2 j x hj i hi
theorem ChgB.at_ (h : ChgB w g l) {c : Nat} (hc : l.length ≤ c) : ChgsAt w (.slice (some ⟨g, 0, none⟩) l.length c) l :=
  ⟨_, c, rfl, hc, fun _ => ⟨g, 0, rfl, fun j x hj i hi => by rw [Nat.zero_add]; exact h.cell hj i hi⟩⟩
/-- Had and Old of one of the changes are set -/
theorem ChgB.fill (h : ChgB w g l) {k : Nat} {x : ChgT} (hk : l[k]? = some x) (had : Bool) (o1 o2 o3 : Int) :
    ChgB ((((w.setCell ⟨g, k * 10 + 2, none⟩ (.bool had)).setCell ⟨g, k * 10 + 3, none⟩ (.int .i64 o1)).setCell ⟨g, k * 10 + 4, none⟩ (.int .i64 o2)).setCell ⟨g, k * 10 + 5, none⟩ (.int .i64 o3)) g (l.set k { x with had := had, o1 := o1, o2 := o2, o3 := o3 }) := by
  obtain ⟨cur, h, h2⟩ := h
  refine ⟨_, (((h.set_ _ _).set_ _ _).set_ _ _).set_ _ _, fun j y hj i hi => ?_⟩
  have hsz : k * 10 + 9 < cur.size := by
    have h3 := h2 k x hk 9 (by omega)
    exact (Array.getElem?_eq_some_iff.1 (h3.trans (Array.getElem?_eq_getElem (show 9 < x.arr.size from (by decide : (9 : Nat) < 10))))).1
  rw [List.getElem?_set] at hj
  simp only [Array.getElem?_setIfInBounds, Array.size_setIfInBounds]
  by_cases hjk : k = j
  · subst hjk
    rw [if_pos rfl, if_pos (List.getElem?_eq_some_iff.1 hk).1] at hj
    injection hj with hj
    subst hj
    have h3 := fun i hi => h2 k x hk i hi
    have s2 : k * 10 + 2 < cur.size := by omega
    have s3 : k * 10 + 3 < cur.size := by omega
    have s4 : k * 10 + 4 < cur.size := by omega
    have s5 : k * 10 + 5 < cur.size := by omega
    match i, hi with
    | 0, _ => have := h3 0 (by omega); simpa [ChgT.arr] using this
    | 1, _ => have := h3 1 (by omega); simpa [ChgT.arr] using this
    | 2, _ => simp [ChgT.arr, s2]
    | 3, _ => simp [ChgT.arr, s3]
    | 4, _ => simp [ChgT.arr, s4]
    | 5, _ => simp [ChgT.arr, s5]
    | 6, _ => have := h3 6 (by omega); simpa [ChgT.arr] using this
    | 7, _ => have := h3 7 (by omega); simpa [ChgT.arr] using this
    | 8, _ => have := h3 8 (by omega); simpa [ChgT.arr] using this
    | 9, _ => have := h3 9 (by omega); simpa [ChgT.arr] using this
    | i + 10, h => omega
  · rw [if_neg hjk] at hj
    rw [if_neg (by omega), if_neg (by omega), if_neg (by omega), if_neg (by omega)]
    exact h2 j y hj i hi
end

set_option maxRecDepth 100000 in
set_option maxHeartbeats 1000000 in
theorem cloneChgs (l : List ChgT) (v : Value) (w : World) (hv : ChgsAt w v l) (h0 : 0 < l.length) (h1 : l.length ≤ 24) : Calls Tryz.prog 72 #[v] w fun e w' =>
    ∃ g c, e = .returned (.slice (some ⟨g, 0, none⟩) l.length c) ∧ w.heap.size ≤ g ∧ l.length ≤ c ∧ ChgB w' g l ∧ Below w.heap.size w w' := by
  obtain ⟨n0, hn0⟩ : ∃ n0, l[0]? = some n0 := ⟨_, List.getElem?_eq_getElem h0⟩
  obtain ⟨b, off, c, hA, hc, _⟩ := hv.at_ hn0
  subst hA
  have HV := Lib.hid hv
  obtain ⟨is, his, hzs0, hzs1, hzs2⟩ := info_parts chg_info
  have hsn := fun W : World => Lib.run_eql_slice_nil (P := Tryz.prog) W 36 75 (some ⟨b, off, none⟩) l.length c 0 0 Tryz.underlying36
  have HOE := Lib.hid (show (w.alloc (.cells #[] 75)).ownsRow w.heap.size 75 10 (.slice (some ⟨w.heap.size, 0, none⟩) 0 0) 0 [] from
    ⟨rfl, .inr ⟨w.heap.size, 0, #[], rfl, Nat.le_refl _, World.alloc_heap_new w _, Nat.le_refl _, Nat.zero_le _, rfl, rfl⟩⟩)
  have HNW := Lib.hid (show ∀ (i : Nat) (u : Value), (cc l)[i]? = some u → (w.alloc (.cells #[] 75)).cell? ((⟨b, off, none⟩ : Addr).add i) = some u from fun i u hu => by
    rw [Addr.add_mid]
    exact (HV.out.ext (ext_new w _)).cells i u hu)
  have hml := cc_length l
  clear hv hn0
  go_enter Tryz.func72, Tryz.ntmps72
  go_wp2_with (at_builtin; refine wpList_append_own _ rfl (.tmp 5) (.tmp 6) 36 rfl w.heap.size 75 is (.agg #[.int .i64 0, .int .i64 0, .bool false, .int .i64 0, .int .i64 0, .int .i64 0, .bool false, .int .i64 0, .int .i64 0, .int .i64 0]) 10 80 Tryz.underlying36 his hzs0 hzs1 hzs2 rfl (by decide) (.slice (some ⟨w.heap.size, 0, none⟩) 0 0) 0 [] rfl HOE.out ⟨b, off, none⟩ l.length c (cc l) rfl hml HNW.out (cc_one l) ?_ ?_ ?_ ?_; (unfold maxLen; omega); omega; (rw [World.size_alloc]; omega); intro v6 W6 ho6 hg6 _; obtain ⟨A7, c7, h7⟩ := own_shape ho6; subst h7; have HO6 := Lib.hid ho6; have HG6 := Lib.hid hg6; clear hg6 ho6)
  go_ret
  have ho := HO6.out
  rw [Nat.zero_add, List.nil_append] at ho
  have HBW : Below w.heap.size w W6 := (ext_new w (.cells #[] 75)).grown HG6.out (ext_new w (.cells #[] 75)).size (fun k e => by have e2 : w.heap.size = k := Option.some.inj e; omega)
  obtain ⟨_, h2⟩ := ho
  rcases h2 with ⟨_, h3⟩ | ⟨g, cap, cur, h3, h4, h5, h6, _, h8, h9⟩
  · omega
  injection h3 with h3 _ h10
  subst h3 h10
  refine ⟨g, c7, by simp, h4, by simpa using h6, ⟨cur, h5, fun j x hj i hi => ?_⟩, HBW⟩
  have h11 := cc_at l j x hj i hi
  rw [← h11, ← h9, List.getElem?_take, if_pos (by have := (List.getElem?_eq_some_iff.1 hj).1; omega)]
  simp

/-- a state of some rows -/
def StateR (w : World) (gs gm : Nat) (pos : Int) (rs : List RowT) : Prop := Blk w gs 134 #[.map (some gm), .int .i64 pos] ∧ MapR w gm rs
theorem StateR.ext {w W : World} {gs gm : Nat} {pos : Int} {rs : List RowT} (h : StateR w gs gm pos rs) (k : Below w.heap.size w W) : StateR W gs gm pos rs := ⟨h.1.ext k, h.2.ext k⟩
def zeroR : RowT := ⟨0, 0, 0, 0, 0⟩
theorem optR (o : Option RowT) : (o.map RowT.val).getD (.agg #[.int .i64 0, .int .i64 0, .int .i64 0, .int .i64 0, .int .i64 0]) = .agg #[.int .i64 (o.getD zeroR).t, .int .i64 (o.getD zeroR).k, .int .i64 (o.getD zeroR).a, .int .i64 (o.getD zeroR).b, .int .i64 (o.getD zeroR).c] := by
  cases o <;> rfl

set_option maxRecDepth 100000 in
set_option maxHeartbeats 1000000 in
theorem getR_any (gs gm : Nat) (pos : Int) (rs : List RowT) (t k : Int) (w : World) (hS : StateR w gs gm pos rs) : Calls Tryz.prog 27 #[.pointer (some ⟨gs, 0, none⟩), .int .i64 t, .int .i64 k] w fun e w' =>
    e = .returned (.tuple #[.agg #[.int .i64 ((getR rs t k).getD zeroR).t, .int .i64 ((getR rs t k).getD zeroR).k, .int .i64 ((getR rs t k).getD zeroR).a, .int .i64 ((getR rs t k).getD zeroR).b, .int .i64 ((getR rs t k).getD zeroR).c], .bool (getR rs t k).isSome]) ∧ Below w.heap.size w w' := by
  have HS0 := Lib.hid (StateR.ext hS (ext_new w (.cells #[.int .i64 0, .int .i64 0, .int .i64 0, .int .i64 0, .int .i64 0] 77)))
  clear hS
  have s0 := HS0.out.1.cell 0
  have gl := HS0.out.1.lt
  have hlk := lookupR HS0.out.2 t k
  rw [optR] at hlk
  generalize (getR rs t k).getD zeroR = r at *
  generalize (getR rs t k).isSome = had at *
  obtain ⟨r0, r1, r2, r3, r4⟩ := r
  dsimp only at *
  go_enter Tryz.func27, Tryz.ntmps27
  go_wp2
  exact bodyPost_ret (v := .tuple #[.agg #[.int .i64 r0, .int .i64 r1, .int .i64 r2, .int .i64 r3, .int .i64 r4], .bool had]) (by simp [results, Tryz.results27, go_sem]) rfl ⟨rfl, by repeat (first | with_reducible refine ext_set ?_ (by simp) _ | with_reducible refine ext_alloc ?_ _ | with_reducible exact ext_refl _)⟩

end Go.Proofs.YtbgfmbmcabekeaaGreatDoor

/-
  package origin: filled at any state and any changes.
-/
namespace Go.Proofs.YtbgfmbmcabekeaaGreatDoor
open Go.RowKit Go.Shelf

/-- a change with what the state holds of its row -/
def fillC (rs : List RowT) (x : ChgT) : ChgT := { x with had := (getR rs x.t x.k).isSome, o1 := ((getR rs x.t x.k).getD zeroR).a, o2 := ((getR rs x.t x.k).getD zeroR).b, o3 := ((getR rs x.t x.k).getD zeroR).c }
/-- the first of the changes are filled -/
def mixC (rs : List RowT) (l : List ChgT) (k : Nat) : List ChgT := (l.take k).map (fillC rs) ++ l.drop k
theorem mixC_zero (rs : List RowT) (l : List ChgT) : mixC rs l 0 = l := by simp [mixC]
theorem mixC_all (rs : List RowT) (l : List ChgT) (k : Nat) (h : l.length ≤ k) : mixC rs l k = l.map (fillC rs) := by simp [mixC, List.take_of_length_le h, List.drop_eq_nil_of_le h]
theorem mixC_at (rs : List RowT) (l : List ChgT) (k : Nat) (x : ChgT) (h : l[k]? = some x) : (mixC rs l k)[k]? = some x := by
  have hk := (List.getElem?_eq_some_iff.1 h).1
  unfold mixC
  rw [List.getElem?_append_right (by simp; omega)]
  simp only [List.length_map, List.length_take, List.getElem?_drop]
  rw [← h]
  congr 1
  omega
theorem mixC_succ (rs : List RowT) (l : List ChgT) (k : Nat) (x : ChgT) (h : l[k]? = some x) : (mixC rs l k).set k (fillC rs x) = mixC rs l (k + 1) := by
  have hk := (List.getElem?_eq_some_iff.1 h).1
  unfold mixC
  rw [List.set_append_right _ _ (by simp; omega)]
  have e : k - (List.map (fillC rs) (l.take k)).length = 0 := by simp; omega
  rw [e, List.take_add_one, h, List.drop_eq_getElem_cons hk]
  have h2 : l[k] = x := by rw [List.getElem?_eq_getElem hk] at h; injection h
  simp [List.set]

theorem keepK {X W : World} {p q r : Addr} {x y z : Value} (h : X.cell? p = some x ∧ X.cell? q = some y ∧ X.cell? r = some z) (k : Below X.heap.size X W) : W.cell? p = some x ∧ W.cell? q = some y ∧ W.cell? r = some z ∧ Below X.heap.size X W :=
  ⟨cell_ext h.1 k, cell_ext h.2.1 k, cell_ext h.2.2 k, k⟩

end Go.Proofs.YtbgfmbmcabekeaaGreatDoor

/-
  Drawn regions of many operations: the checks of what may come up, in one pass over the lists.
-/
namespace Go.Proofs.YtbgfmbmcabekeaaGreatDoor
open Go.RowKit

theorem wpAnyH_listed {P : Program} {md : Region.Mode} {ops : Array Oper} {Q : Exit → Act → World → Prop} {S : World → Prop} {fuel fuel' : Nat} {listed listed' : Array Bool} {a : Act} {w : World} (hf : fuel = fuel') (hl : listed = listed') (H : wpAnyH P md ops Q S fuel' listed' a w) : wpAnyH P md ops Q S fuel listed a w := by
  subst hf hl
  exact H
/-- 'Region.free' in one pass over both lists -/
def freeZ (md : Region.Mode) (ops : Array Oper) (oi : Oper) (i : Nat) : Nat → List Oper → List Bool → Bool
  | _, [], _ => true
  | j, o :: os, bs => (bs.headD true || (j == i || (o.after.any (fun e => Region.binds md e && e.on == i) || oi.apart ops o))) && freeZ md ops oi i (j + 1) os bs.tail
theorem freeZ_at {md : Region.Mode} {ops : Array Oper} {oi : Oper} {i : Nat} : ∀ (os : List Oper) (bs : List Bool) (j0 : Nat), freeZ md ops oi i j0 os bs = true → ∀ (k : Nat) (o : Oper), os[k]? = some o →
    ((bs[k]?).getD true || (j0 + k == i || (o.after.any (fun e => Region.binds md e && e.on == i) || oi.apart ops o))) = true
  | [], _, _, _, k, o, h => by simp at h
  | x :: os, bs, j0, hf, k, o, h => by
    simp only [freeZ, Bool.and_eq_true] at hf
    cases k with
    | zero =>
      simp only [List.getElem?_cons_zero, Option.some.injEq] at h
      subst h
      have h1 := hf.1
      cases bs with
      | nil => simp
      | cons b bs => simpa using h1
    | succ k =>
      have h1 := freeZ_at os bs.tail (j0 + 1) hf.2 k o (by simpa using h)
      have e : j0 + 1 + k = j0 + (k + 1) := by omega
      rw [e] at h1
      cases bs with
      | nil => simp
      | cons b bs => simpa using h1
/-- 'Region.ready' of one operation -/
def readyOne (md : Region.Mode) (listed : List Bool) (oi : Oper) (i : Nat) : Bool :=
  !(listed[i]?).getD true && oi.after.all fun e => !Region.binds md e || (listed[e.on]?).getD false
def readyZ (md : Region.Mode) (listed : List Bool) : Nat → List Oper → List Bool → List Nat
  | _, [], _ => []
  | j, o :: os, bs => bif !bs.headD true && o.after.all (fun e => !Region.binds md e || (listed[e.on]?).getD false) then j :: readyZ md listed (j + 1) os bs.tail else readyZ md listed (j + 1) os bs.tail
theorem getD_list (l : Array Bool) (i : Nat) (d : Bool) : l.getD i d = (l.toList[i]?).getD d := by
  rw [Array.getD_eq_getD_getElem?, ← Array.getElem?_toList]
theorem readyZ_filter (md : Region.Mode) (listed : Array Bool) : ∀ (os : List Oper) (bs : List Bool) (j0 : Nat) (ops : Array Oper), (∀ k, ops[j0 + k]? = os[k]?) → (∀ k, (listed.toList[j0 + k]?).getD true = (bs[k]?).getD true) →
    (List.range' j0 os.length).filter (fun i => !listed.getD i true && ((ops[i]?).map (·.after.all fun e => !Region.binds md e || listed.getD e.on false)).getD false) = readyZ md listed.toList j0 os bs
  | [], _, _, _, _, _ => by simp [readyZ]
  | o :: os, bs, j0, ops, h1, h2 => by
    have e1 := h1 0
    have e2 := h2 0
    have ih := readyZ_filter md listed os bs.tail (j0 + 1) ops (fun k => by have := h1 (k + 1); simpa [Nat.add_assoc, Nat.add_comm 1 k] using this) (fun k => by
      have := h2 (k + 1)
      cases bs <;> simpa [Nat.add_assoc, Nat.add_comm 1 k] using this)
    have e3 : listed.getD j0 true = bs.headD true := by
      rw [getD_list]
      cases bs <;> simpa using e2
    rw [List.length_cons, List.range'_succ, List.filter_cons, ih]
    simp only [Nat.add_zero, List.getElem?_cons_zero] at e1
    simp only [e1, e3, Option.map_some, Option.getD_some, readyZ, getD_list]
    cases (!bs.headD true && o.after.all fun e => !Region.binds md e || (listed.toList[e.on]?).getD false) <;> rfl
theorem ready_Z {md : Region.Mode} {ops : List Oper} {listed : List Bool} : Region.ready md ops.toArray listed.toArray = readyZ md listed 0 ops listed := by
  rw [Region.ready, List.range_eq_range']
  exact readyZ_filter md listed.toArray ops listed 0 ops.toArray (by simp) (by simp)
theorem wpAnyH_hns {P : Program} {md : Region.Mode} {ops : Array Oper} {Q : Exit → Act → World → Prop} {S : World → Prop} {fuel : Nat} {listed : Array Bool} {a : Act} {w : World} (hs : Region.noSelect ops = true) (h : RowKit.Hid (Region.noSelect ops = true) → wpAnyH P md ops Q S fuel listed a w) : wpAnyH P md ops Q S fuel listed a w := h (Lib.hid hs)
theorem wpAnyH_takeZ {P : Program} {md : Region.Mode} {ops : List Oper} {Q : Exit → Act → World → Prop} {S : World → Prop} {i : Nat} {oi : Oper} {v : Value} {fuel : Nat} {listed : List Bool} {a : Act} {w : World} (hs : RowKit.Hid (Region.noSelect ops.toArray = true)) (hi : ops[i]? = some oi)
    (hf : freeZ md ops.toArray oi i 0 ops listed = true) (hr : readyOne md listed oi i = true)
    (hQ : ∀ c a w, Q (.panic c) (a.put oi.dst v) w → Q (.panic c) a w) (hy : YieldsIf P ops.toArray S oi v a) (hS : S w)
    (h : wpAnyH P md ops.toArray Q S fuel (listed.set i true).toArray (a.put oi.dst v) w) : wpAnyH P md ops.toArray Q S (fuel + 1) listed.toArray a w := by
  refine wpAnyH_take (i := i) (by simpa using hi) hs.out ?_ ?_ hQ hy hS (by simpa using h)
  · simp only [Region.free, List.getElem?_toArray, hi, List.all_eq_true, List.mem_range, List.size_toArray]
    intro j hj
    have h1 := freeZ_at ops listed 0 hf j ops[j] (List.getElem?_eq_getElem hj)
    rw [getD_list, List.getElem?_eq_getElem hj]
    simp only [Nat.zero_add] at h1
    simp only [Bool.or_eq_true] at h1 ⊢
    rcases h1 with h1 | h1 | h1
    · exact .inl (.inr h1)
    · exact .inl (.inl h1)
    · exact .inr h1
  · simp only [List.contains_iff_mem, Region.ready, List.mem_filter, List.mem_range, List.size_toArray]
    refine ⟨(List.getElem?_eq_some_iff.1 hi).1, ?_⟩
    simp only [readyOne] at hr
    simp only [getD_list, List.getElem?_toArray, hi, Option.map_some, Option.getD_some]
    exact hr
theorem wpAnyH_readyZ {P : Program} {md : Region.Mode} {ops : List Oper} {Q : Exit → Act → World → Prop} {S : World → Prop} {rs : List Nat} {fuel : Nat} {listed : List Bool} {a : Act} {w : World} (hr : readyZ md listed 0 ops listed = rs) (hne : rs ≠ [])
    (h : AllReadyH P md ops.toArray Q S fuel listed.toArray a w rs) : wpAnyH P md ops.toArray Q S (fuel + 1) listed.toArray a w := wpAnyH_ready (ready_Z.trans hr) hne h

end Go.Proofs.YtbgfmbmcabekeaaGreatDoor

/-
  package store: fits at any state, at changes that are filled from it.
-/
namespace Go.Proofs.YtbgfmbmcabekeaaGreatDoor
open Go.RowKit Go.Shelf
attribute [local go_sem ↓] Go.wp_at_zero Go.wp_at_succ

set_option maxRecDepth 100000 in
set_option maxHeartbeats 4000000 in
theorem fitsR (rs : List RowT) (l : List ChgT) (v : Value) (gs gm : Nat) (pos : Int) (hp : 0 ≤ pos ∧ pos ≤ 1000) (w : World) (hS : StateR w gs gm pos rs) (hv : ChgsAt w v l) (hl : ChgsOK l) (hsz : rs.length ≤ 1000) (hfit : ∀ x ∈ l, fillC rs x = x) :
    Calls Tryz.prog 73 #[.pointer (some ⟨gs, 0, none⟩), .agg #[.int .i64 (pos + 1), v]] w fun e w' => e = .returned (.bool (validF l)) ∧ Below w.heap.size w w' := by
  obtain ⟨X, hX⟩ : ∃ X, X = w.alloc (.cells #[.int .i64 (pos + 1), v] 46) := ⟨_, rfl⟩
  have HX := Lib.hid hX
  have HE := Lib.hid (show Below w.heap.size w X by rw [hX]; exact ext_new _ _)
  have HR := Lib.hid (show Blk X w.heap.size 46 #[.int .i64 (pos + 1), v] by rw [hX]; exact Blk.new _ _ _)
  have HV := Lib.hid (fun (W : World) (k : Below w.heap.size w W) => validRecord_any (pos + 1) ⟨by omega, by omega⟩ l v W (hv.ext k) hl)
  have HVL := Lib.hid hv
  have HS := Lib.hid hS
  have HF := Lib.hid hfit
  have HLL := Lib.hid hl
  obtain ⟨A, c, rfl, hc, -⟩ := hv
  have hfew := hl.few
  clear hX hS hfit hl
  have a0 := HR.out.cell 0
  have a1 := HR.out.cell 1
  have HK := Lib.hid (And.intro a0 a1)
  generalize hvl : validF l = b at HV ⊢
  have HVB := Lib.hid hvl
  clear hvl
  go_enter Tryz.func73, Tryz.ntmps73
  go_upto_region 1 with (fail)
  rw [← HX.out]
  cases b
  · skip
    refine wp_region_held_drew (S := fun w' => w'.cell? ⟨w.heap.size, 0, none⟩ = some (.int .i64 (pos + 1)) ∧ w'.cell? ⟨w.heap.size, 1, none⟩ = some (.slice A l.length c) ∧ Below X.heap.size X w') (by kernel_rfl) (keep2B HK.out (ext_refl X).drew) (fun hHeld => ?_)
    refine wpAnyH_listed (fuel' := 14) (listed' := #[false, false, false, false, false, false, false, false, false, false, false, false, false, false]) (by kernel_rfl) (by kernel_rfl) ?_
    refine wpAnyH_hns (by kernel_rfl) (fun HNS => ?_)
    refine wpAnyH_takeZ (i := 0) (v := ?_) HNS rfl (by kernel_rfl) (by kernel_rfl) (fun _ _ _ h => h) (Or.inl ⟨by rfl, ?_⟩) (by assumption) ?_
    rotate_left 1
    · (rintro w' ⟨f0, f1, _⟩; go_simp; try with_reducible rfl)
    try simp only [Act.put, List.getElem_toArray, List.getElem_cons_succ, List.getElem_cons_zero, List.setIfInBounds_toArray, List.set_cons_zero, List.set_cons_succ]
    refine wpAnyH_readyZ (rs := [1]) (by kernel_rfl) (by simp) ?_
    refine AllReadyH.cons rfl (fun K hK => ?_) AllReadyH.nil
    go_simp
    with_reducible refine (HV.out _ ?_).mono ?_
    · exact HE.out.drew
    rintro e W1 ⟨rfl, hb'⟩
    have hE1 : Below X.heap.size X W1 := ext_call (ext_refl X).drew hb'
    refine hK.out _ _ (keep2B HK.out hE1) (fun hHeld => ?_)
    clear hK K
    try simp only [Act.put, List.getElem_toArray, List.getElem_cons_succ, List.getElem_cons_zero, List.setIfInBounds_toArray, List.set_cons_zero, List.set_cons_succ]
    refine wpAnyH_takeZ (i := 2) (v := ?_) HNS rfl (by kernel_rfl) (by kernel_rfl) (fun _ _ _ h => h) (Or.inl ⟨by rfl, ?_⟩) (by assumption) ?_
    rotate_left 1
    · (rintro w' ⟨f0, f1, _⟩; go_simp; try with_reducible rfl)
    try simp only [Act.put, List.getElem_toArray, List.getElem_cons_succ, List.getElem_cons_zero, List.setIfInBounds_toArray, List.set_cons_zero, List.set_cons_succ]
    refine wpAnyH_takeZ (i := 3) (v := ?_) HNS rfl (by kernel_rfl) (by kernel_rfl) (fun _ _ _ h => h) (Or.inl ⟨by rfl, ?_⟩) (by assumption) ?_
    rotate_left 1
    · (rintro w' ⟨f0, f1, _⟩; go_simp; try with_reducible rfl)
    try simp only [Act.put, List.getElem_toArray, List.getElem_cons_succ, List.getElem_cons_zero, List.setIfInBounds_toArray, List.set_cons_zero, List.set_cons_succ]
    refine wpAnyH_takeZ (i := 4) (v := undef) HNS rfl (by kernel_rfl) (by kernel_rfl) (fun _ _ _ h => h) (Or.inr ⟨by rfl, rfl⟩) (by assumption) ?_
    try simp only [Act.put, List.getElem_toArray, List.getElem_cons_succ, List.getElem_cons_zero, List.setIfInBounds_toArray, List.set_cons_zero, List.set_cons_succ]
    refine wpAnyH_takeZ (i := 5) (v := undef) HNS rfl (by kernel_rfl) (by kernel_rfl) (fun _ _ _ h => h) (Or.inr ⟨by rfl, rfl⟩) (by assumption) ?_
    try simp only [Act.put, List.getElem_toArray, List.getElem_cons_succ, List.getElem_cons_zero, List.setIfInBounds_toArray, List.set_cons_zero, List.set_cons_succ]
    refine wpAnyH_takeZ (i := 6) (v := undef) HNS rfl (by kernel_rfl) (by kernel_rfl) (fun _ _ _ h => h) (Or.inr ⟨by rfl, rfl⟩) (by assumption) ?_
    try simp only [Act.put, List.getElem_toArray, List.getElem_cons_succ, List.getElem_cons_zero, List.setIfInBounds_toArray, List.set_cons_zero, List.set_cons_succ]
    refine wpAnyH_takeZ (i := 7) (v := undef) HNS rfl (by kernel_rfl) (by kernel_rfl) (fun _ _ _ h => h) (Or.inr ⟨by rfl, rfl⟩) (by assumption) ?_
    try simp only [Act.put, List.getElem_toArray, List.getElem_cons_succ, List.getElem_cons_zero, List.setIfInBounds_toArray, List.set_cons_zero, List.set_cons_succ]
    refine wpAnyH_takeZ (i := 8) (v := undef) HNS rfl (by kernel_rfl) (by kernel_rfl) (fun _ _ _ h => h) (Or.inr ⟨by rfl, rfl⟩) (by assumption) ?_
    try simp only [Act.put, List.getElem_toArray, List.getElem_cons_succ, List.getElem_cons_zero, List.setIfInBounds_toArray, List.set_cons_zero, List.set_cons_succ]
    refine wpAnyH_takeZ (i := 9) (v := undef) HNS rfl (by kernel_rfl) (by kernel_rfl) (fun _ _ _ h => h) (Or.inr ⟨by rfl, rfl⟩) (by assumption) ?_
    try simp only [Act.put, List.getElem_toArray, List.getElem_cons_succ, List.getElem_cons_zero, List.setIfInBounds_toArray, List.set_cons_zero, List.set_cons_succ]
    refine wpAnyH_takeZ (i := 10) (v := undef) HNS rfl (by kernel_rfl) (by kernel_rfl) (fun _ _ _ h => h) (Or.inr ⟨by rfl, rfl⟩) (by assumption) ?_
    try simp only [Act.put, List.getElem_toArray, List.getElem_cons_succ, List.getElem_cons_zero, List.setIfInBounds_toArray, List.set_cons_zero, List.set_cons_succ]
    refine wpAnyH_takeZ (i := 11) (v := undef) HNS rfl (by kernel_rfl) (by kernel_rfl) (fun _ _ _ h => h) (Or.inr ⟨by rfl, rfl⟩) (by assumption) ?_
    try simp only [Act.put, List.getElem_toArray, List.getElem_cons_succ, List.getElem_cons_zero, List.setIfInBounds_toArray, List.set_cons_zero, List.set_cons_succ]
    refine wpAnyH_takeZ (i := 12) (v := undef) HNS rfl (by kernel_rfl) (by kernel_rfl) (fun _ _ _ h => h) (Or.inr ⟨by rfl, rfl⟩) (by assumption) ?_
    try simp only [Act.put, List.getElem_toArray, List.getElem_cons_succ, List.getElem_cons_zero, List.setIfInBounds_toArray, List.set_cons_zero, List.set_cons_succ]
    refine wpAnyH_takeZ (i := 13) (v := ?_) HNS rfl (by kernel_rfl) (by kernel_rfl) (fun _ _ _ h => h) (Or.inl ⟨by rfl, ?_⟩) (by assumption) ?_
    rotate_left 1
    · (rintro w' ⟨f0, f1, _⟩; go_simp; try with_reducible rfl)
    try simp only [Act.put, List.getElem_toArray, List.getElem_cons_succ, List.getElem_cons_zero, List.setIfInBounds_toArray, List.set_cons_zero, List.set_cons_succ]
    refine wpAnyH_done (by kernel_rfl) ?_ _
    go_wp2
    go_ret
    exact ⟨rfl, ext_call HE.out hE1⟩
  have hs1 := (HS.out.ext HE.out).1.cell 1
  have HK3 := Lib.hid (show X.cell? ⟨w.heap.size, 0, none⟩ = some (.int .i64 (pos + 1)) ∧ X.cell? ⟨w.heap.size, 1, none⟩ = some (.slice A l.length c) ∧ X.cell? ⟨gs, 1, none⟩ = some (.int .i64 pos) from ⟨a0, a1, hs1⟩)
  have e1 : IntKind.i64.wrap (pos + 1) = pos + 1 := IntWalk.i64_in _ (by omega)
  go_region_held3 (fun w' => w'.cell? ⟨w.heap.size, 0, none⟩ = some (.int .i64 (pos + 1)) ∧ w'.cell? ⟨w.heap.size, 1, none⟩ = some (.slice A l.length c) ∧ w'.cell? ⟨gs, 1, none⟩ = some (.int .i64 pos) ∧ Below X.heap.size X w')
    (first | with_reducible assumption | exact keepK HK3.out (ext_refl X).drew | exact keepK HK3.out (ext_call (keep3E (by assumption)) (by assumption)))
    (first | (go_at_call 47; (with_reducible refine (HV.out _ ?_).mono ?_); (exact ext_call HE.out (keep3E (by assumption))); rintro e w' ⟨rfl, hb'⟩))
  have hE1 : Below X.heap.size X w' := keep3E (by assumption)
  have HE1 := Lib.hid (ext_call HE.out hE1)
  have HR1 := Lib.hid (HR.out.ext hE1)
  have b1 := HR1.out.cell 1
  have hS1 := HS.out.ext HE1.out
  have g0 := hS1.1.cell 0
  have gl := hS1.1.lt
  have bl := HR1.out.lt
  have hlen := lenR hS1.2 3
  clear hE1 hS1 a0 a1 hs1
  go_wp2
  clear b1 g0 hlen
  generalize w' = W1 at *
  go_loopw [5, 7, 8, 9, 33, 37] (fun z _ _ _ i _ W => ∃ (k : Nat) (s : Int), k ≤ l.length ∧ i = .int .i64 k ∧ z = .int .i64 s ∧ (rs.length : Int) - k ≤ s ∧ s ≤ rs.length + k ∧ Below w.heap.size w W) (fun _ _ _ _ i _ _ => l.length - (intOf i).toNat)
  case atStart => exact ⟨0, rs.length, Nat.zero_le _, rfl, rfl, by omega, by omega, HE1.out⟩
  case round =>
    obtain ⟨k, s, hk, rfl, rfl, hs1, hs2, hE⟩ := hrel
    have HEW := Lib.hid hE
    clear hE
    by_cases hlt : k < l.length
    · obtain ⟨x, hx⟩ : ∃ x, l[k]? = some x := ⟨_, List.getElem?_eq_getElem hlt⟩
      obtain ⟨b, off, c', hA, _, hc9⟩ := (HVL.out.ext HEW.out).at_ hx
      injection hA with hA hn' hc'
      subst hA; subst hc'
      clear hn'
      have c0 := hc9 0 (by omega)
      have c1 := hc9 1 (by omega)
      have c2 := hc9 2 (by omega)
      have c3 := hc9 3 (by omega)
      have c4 := hc9 4 (by omega)
      have c5 := hc9 5 (by omega)
      have c6 := hc9 6 (by omega)
      have c7 := hc9 7 (by omega)
      have c8 := hc9 8 (by omega)
      have c9 := hc9 9 (by omega)
      have hfx := HF.out x (List.mem_of_getElem? hx)
      obtain ⟨t, kk, had, o1, o2, o3, has, n1, n2, n3⟩ := x
      simp only [fillC, ChgT.mk.injEq, true_and, and_true] at hfx
      obtain ⟨f1, f2, f3, f4⟩ := hfx
      simp [ChgT.arr] at c0 c1 c2 c3 c4 c5 c6 c7 c8 c9
      have HSW := Lib.hid (HS.out.ext HEW.out)
      have g0 := HSW.out.1.cell 0
      have gl := HSW.out.1.lt
      have hlk := fun o => lookupR ((HSW.out.2.ext (ext_new wr (.cells #[.int .i64 t, .int .i64 kk, .bool had, .int .i64 o1, .int .i64 o2, .int .i64 o3, .bool has, .int .i64 n1, .int .i64 n2, .int .i64 n3] 75))).ext (ext_new _ o).drew) t kk
      have hlk2 := lookupR (HSW.out.2.ext (ext_new wr (.cells #[.int .i64 t, .int .i64 kk, .bool had, .int .i64 o1, .int .i64 o2, .int .i64 o3, .bool has, .int .i64 n1, .int .i64 n2, .int .i64 n3] 75)).drew) t kk
      simp only [optR, f1, f2, f3, f4] at hlk hlk2
      generalize ((getR rs t kk).getD zeroR).t = r0 at hlk hlk2
      generalize ((getR rs t kk).getD zeroR).k = r1 at hlk hlk2
      have heq := fun W : World => eq3 o1 o2 o3 o1 o2 o3 W
      simp only [decide_true, Bool.and_self] at heq
      have e2 : IntKind.i64.wrap ((k : Int) + 1) = (k : Int) + 1 := by rw [IntWalk.i64_in _ (by omega)]
      have e3 : IntKind.i64.wrap (s + 1) = s + 1 := by rw [IntWalk.i64_in _ (by omega)]
      have e4 : IntKind.i64.wrap (s - 1) = s - 1 := by rw [IntWalk.i64_in _ (by omega)]
      have e5 : IntKind.i64.wrap (s - 1 + 1) = s := by rw [IntWalk.i64_in _ (by omega)]; omega
      have d1 : decide ((k : Int) < (l.length : Int)) = true := by simp; omega
      have q0 : (0 : Int) ≤ (k : Int) := by omega
      have q1 : (k : Int) < (l.length : Int) := by omega
      clear hc9 hx f1 f2 f3 f4
      go_upto_region 7 with (fail)
      go_region
      have HBX := Lib.hid (((Blk.new wr 75 #[.int .i64 t, .int .i64 kk, .bool had, .int .i64 o1, .int .i64 o2, .int .i64 o3, .bool has, .int .i64 n1, .int .i64 n2, .int .i64 n3]).alloc (.cells #[.int .i64 r0, .int .i64 r1, .int .i64 o1, .int .i64 o2, .int .i64 o3] 77)).drew)
      have HRX := Lib.hid ((Blk.new' (wr.alloc (.cells #[.int .i64 t, .int .i64 kk, .bool had, .int .i64 o1, .int .i64 o2, .int .i64 o3, .bool has, .int .i64 n1, .int .i64 n2, .int .i64 n3] 75)) 77 #[.int .i64 r0, .int .i64 r1, .int .i64 o1, .int .i64 o2, .int .i64 o3] (b := wr.heap.size + 1) (by simp)).drew)
      have HEX := Lib.hid ((ext_alloc (ext_alloc HEW.out (.cells #[.int .i64 t, .int .i64 kk, .bool had, .int .i64 o1, .int .i64 o2, .int .i64 o3, .bool has, .int .i64 n1, .int .i64 n2, .int .i64 n3] 75)) (.cells #[.int .i64 r0, .int .i64 r1, .int .i64 o1, .int .i64 o2, .int .i64 o3] 77)).drew)
      generalize ((wr.alloc (.cells #[.int .i64 t, .int .i64 kk, .bool had, .int .i64 o1, .int .i64 o2, .int .i64 o3, .bool has, .int .i64 n1, .int .i64 n2, .int .i64 n3] 75)).alloc (.cells #[.int .i64 r0, .int .i64 r1, .int .i64 o1, .int .i64 o2, .int .i64 o3] 77)).drew = W5 at HBX HRX HEX ⊢
      generalize wr.heap.size + 1 = br at HRX ⊢
      generalize wr.heap.size = bx at HBX ⊢
      have hbx := HBX.out
      have hrx := HRX.out
      have v2 := hbx.cell 2
      have v3 := hbx.cell 3
      have v4 := hbx.cell 4
      have v5 := hbx.cell 5
      have v6 := hbx.cell 6
      have u2 := hrx.cell 2
      have u3 := hrx.cell 3
      have u4 := hrx.cell 4
      clear c0 c1 c2 c3 c4 c5 c6 c7 c8 c9 hlk hlk2 g0 gl hbx hrx HSW
      cases had <;> cases has <;> (go_wp2) <;> go_roundw
      case rel => exact ⟨k + 1, _, by omega, by go_num, rfl, by omega, by omega, HEX.out⟩
      case measure => simp [intOf]; omega
      case rel => exact ⟨k + 1, _, by omega, by go_num, rfl, by omega, by omega, HEX.out⟩
      case measure => simp [intOf]; omega
      case rel => exact ⟨k + 1, _, by omega, by go_num, rfl, by omega, by omega, HEX.out⟩
      case measure => simp [intOf]; omega
      case rel => exact ⟨k + 1, _, by omega, by go_num, rfl, by omega, by omega, HEX.out⟩
      case measure => simp [intOf]; omega
    · have d1 : decide ((k : Int) < (l.length : Int)) = false := by simp; omega
      have d2 : decide (s ≤ 2000) = true := by simp; omega
      go_wp2
      go_ret
      exact ⟨rfl, HEW.out⟩

end Go.Proofs.YtbgfmbmcabekeaaGreatDoor

/-
  package row: After at any change; package store: Apply at any state.
-/
namespace Go.Proofs.YtbgfmbmcabekeaaGreatDoor
open Go.RowKit Go.Shelf
attribute [local go_sem ↓] Go.wp_at_zero Go.wp_at_succ

set_option maxRecDepth 100000 in
set_option maxHeartbeats 400000 in
theorem after_yes (r : RowT) (had : Bool) (o1 o2 o3 : Int) (w : World) :
    Calls Tryz.prog 74 #[.agg #[.int .i64 r.t, .int .i64 r.k, .bool had, .int .i64 o1, .int .i64 o2, .int .i64 o3, .bool true, .int .i64 r.a, .int .i64 r.b, .int .i64 r.c]] w fun e w' =>
      e = .returned (.tuple #[.agg #[.int .i64 r.t, .int .i64 r.k, .int .i64 r.a, .int .i64 r.b, .int .i64 r.c], .bool true]) ∧ Below w.heap.size w w' := by
  obtain ⟨t, k, a, b, c⟩ := r
  dsimp only
  go_enter Tryz.func74, Tryz.ntmps74
  go_wp2_with fail
  refine (half_yes _ _ _ _ _ _ _ _ _ _ _ _ _ _).mono ?_
  rintro e W1 ⟨rfl, hb1⟩
  have HL1 := Lib.hid (ext_call (ext_alloc (ext_new w _) _) hb1)
  have hB1 := (Blk.new' (w.alloc (.cells #[.int .i64 t, .int .i64 k, .bool had, .int .i64 o1, .int .i64 o2, .int .i64 o3, .bool true, .int .i64 a, .int .i64 b, .int .i64 c] 75)) 77 #[.int .i64 0, .int .i64 0, .int .i64 0, .int .i64 0, .int .i64 0] (b := w.heap.size + 1) (by simp)).ext hb1
  have HB1 := Lib.hid hB1
  have HI := Lib.hid row_size
  have H1 := Lib.hid (row_one t k a b c)
  clear hB1 hb1
  go_wp2_with (refine wpList_store_blk rfl 77 (.tmp 2) (.tmp 10) rfl (w.heap.size + 1) #[.int .i64 t, .int .i64 k, .int .i64 a, .int .i64 b, .int .i64 c] rfl rfl 77 #[.int .i64 0, .int .i64 0, .int .i64 0, .int .i64 0, .int .i64 0] HB1.out HI.out rfl H1.out ?_; intro W2 hB2 hg2)
  have c0 := hB2.cell 0
  have c1 := hB2.cell 1
  have c2 := hB2.cell 2
  have c3 := hB2.cell 3
  have c4 := hB2.cell 4
  refine bodyPost_ret (v := .tuple #[.agg #[.int .i64 t, .int .i64 k, .int .i64 a, .int .i64 b, .int .i64 c], .bool true]) (by simp [results, Tryz.results74, go_sem, c0, c1, c2, c3, c4]) rfl ⟨rfl, ?_⟩
  exact HL1.out.grown hg2 HL1.out.size (fun k e => by injection e with e; omega)

set_option maxRecDepth 100000 in
set_option maxHeartbeats 400000 in
theorem after_no (r : RowT) (had : Bool) (o1 o2 o3 : Int) (w : World) :
    Calls Tryz.prog 74 #[.agg #[.int .i64 r.t, .int .i64 r.k, .bool had, .int .i64 o1, .int .i64 o2, .int .i64 o3, .bool false, .int .i64 r.a, .int .i64 r.b, .int .i64 r.c]] w fun e w' =>
      e = .returned (.tuple #[.agg #[.int .i64 0, .int .i64 0, .int .i64 0, .int .i64 0, .int .i64 0], .bool false]) ∧ Below w.heap.size w w' := by
  obtain ⟨t, k, a, b, c⟩ := r
  dsimp only
  go_enter Tryz.func74, Tryz.ntmps74
  go_wp2_with fail
  refine (half_no _ _ _ _ _ _ _ _ _ _ _ _ _ _).mono ?_
  rintro e W1 ⟨rfl, hb1⟩
  have HL1 := Lib.hid (ext_call (ext_alloc (ext_new w _) _) hb1)
  have hB1 := (Blk.new' (w.alloc (.cells #[.int .i64 t, .int .i64 k, .bool had, .int .i64 o1, .int .i64 o2, .int .i64 o3, .bool false, .int .i64 a, .int .i64 b, .int .i64 c] 75)) 77 #[.int .i64 0, .int .i64 0, .int .i64 0, .int .i64 0, .int .i64 0] (b := w.heap.size + 1) (by simp)).ext hb1
  have HB1 := Lib.hid hB1
  have HI := Lib.hid row_size
  have H1 := Lib.hid (row_one 0 0 0 0 0)
  clear hB1 hb1
  go_wp2_with (refine wpList_store_blk rfl 77 (.tmp 2) (.tmp 10) rfl (w.heap.size + 1) #[.int .i64 0, .int .i64 0, .int .i64 0, .int .i64 0, .int .i64 0] rfl rfl 77 #[.int .i64 0, .int .i64 0, .int .i64 0, .int .i64 0, .int .i64 0] HB1.out HI.out rfl H1.out ?_; intro W2 hB2 hg2)
  have c0 := hB2.cell 0
  have c1 := hB2.cell 1
  have c2 := hB2.cell 2
  have c3 := hB2.cell 3
  have c4 := hB2.cell 4
  refine bodyPost_ret (v := .tuple #[.agg #[.int .i64 0, .int .i64 0, .int .i64 0, .int .i64 0, .int .i64 0], .bool false]) (by simp [results, Tryz.results74, go_sem, c0, c1, c2, c3, c4]) rfl ⟨rfl, ?_⟩
  exact HL1.out.grown hg2 HL1.out.size (fun k e => by injection e with e; omega)

/-- a change applied to a list of rows -/
def applyC (rs : List RowT) (x : ChgT) : List RowT := if x.has then putR rs ⟨x.t, x.k, x.n1, x.n2, x.n3⟩ else delR rs x.t x.k
def applyF (rs : List RowT) (l : List ChgT) : List RowT := l.foldl applyC rs
theorem applyF_succ (rs : List RowT) (l : List ChgT) (k : Nat) (x : ChgT) (h : l[k]? = some x) : applyF rs (l.take (k + 1)) = applyC (applyF rs (l.take k)) x := by
  unfold applyF
  rw [List.take_add_one, h]
  simp
theorem ChgsAt.ne {w : World} {b off c gs gm : Nat} {pos : Int} {l : List ChgT} {rs : List RowT} (h : ChgsAt w (.slice (some ⟨b, off, none⟩) l.length c) l) (h0 : 0 < l.length) (hS : StateR w gs gm pos rs) : b ≠ gs ∧ b ≠ gm := by
  obtain ⟨b', off', c', e, _, h1⟩ := h.at_ (List.getElem?_eq_getElem h0)
  injection e with e _ _
  injection e with e
  injection e with e1 e2
  subst e1 e2
  have h2 := h1 9 (by omega)
  rw [Nat.zero_mul, Nat.add_zero] at h2
  constructor
  · rintro rfl
    rw [hS.1.cell] at h2
    simp [ChgT.arr] at h2
  · rintro rfl
    obtain ⟨es, c2, hm, _⟩ := hS.2
    unfold MapAt at hm
    simp [World.cell?, hm, ChgT.arr] at h2
theorem ChgsAt.ext2 {w W : World} {v : Value} {l : List ChgT} {gs gm : Nat} {pos : Int} {rs : List RowT} (h : ChgsAt w v l) (hS : StateR w gs gm pos rs) (k : Ext2 gs gm w W) : ChgsAt W v l := by
  have h' := h
  obtain ⟨A, c, rfl, hc, h⟩ := h
  refine ⟨A, c, rfl, hc, fun h0 => ?_⟩
  obtain ⟨b, off, rfl, hcell⟩ := h h0
  obtain ⟨n1, n2⟩ := ChgsAt.ne h' h0 hS
  refine ⟨b, off, rfl, fun j x hx i hi => ?_⟩
  have h1 := hcell j x hx i hi
  rw [Array.getElem?_eq_getElem (show i < x.arr.size from hi)] at h1 ⊢
  exact cell_ext2 h1 k n1 n2

set_option maxRecDepth 100000 in
set_option maxHeartbeats 4000000 in
theorem applyR (rs : List RowT) (l : List ChgT) (v : Value) (gs gm : Nat) (pos : Int) (hp : 0 ≤ pos ∧ pos ≤ 1000) (w : World) (hS : StateR w gs gm pos rs) (hv : ChgsAt w v l) (hl : ChgsOK l) (hsz : rs.length ≤ 1000) (hfit : ∀ x ∈ l, fillC rs x = x) :
    Calls Tryz.prog 40 #[.pointer (some ⟨gs, 0, none⟩), .agg #[.int .i64 (pos + 1), v]] w fun e w' => (validF l = false ∧ e = .returned (.int .i64 40) ∧ Below w.heap.size w w') ∨ (validF l = true ∧ e = .returned (.int .i64 0) ∧ StateR w' gs gm (pos + 1) (applyF rs l) ∧ Ext2 gs gm w w') := by
  have HE0 := Lib.hid (ext_new w (.cells #[.int .i64 (pos + 1), v] 46))
  have HS0 := Lib.hid (hS.ext HE0.out)
  have HR0 := Lib.hid (Blk.new w 46 #[.int .i64 (pos + 1), v])
  have HFT := Lib.hid (fitsR rs l v gs gm pos hp _ HS0.out (hv.ext HE0.out) hl hsz hfit)
  have HVL := Lib.hid hv
  have HS := Lib.hid hS
  have hne : gs ≠ gm := by
    rintro rfl
    have h1 := hS.1
    obtain ⟨es, c2, h2, _⟩ := hS.2
    unfold Blk at h1
    unfold MapAt at h2
    rw [h1] at h2
    cases h2
  have hgs := hS.1.lt
  have hgm := hS.2.lt
  have hfew := hl.few
  obtain ⟨A, c, rfl, hc, -⟩ := hv
  clear hS hl hfit
  go_enter Tryz.func40, Tryz.ntmps40
  go_wp2_with fail
  refine HFT.out.mono ?_
  rintro e W1 ⟨rfl, hb1⟩
  generalize hvf : validF l = b
  have HVF := Lib.hid hvf
  clear hvf
  cases b
  · have HL1 := Lib.hid (ext_call HE0.out hb1)
    clear hb1
    go_wp2
    go_ret
    exact .inl ⟨HVF.out, rfl, HL1.out⟩
  have HR1 := Lib.hid (HR0.out.ext hb1)
  have HS1 := Lib.hid (HS0.out.ext hb1)
  have HL1 := Lib.hid (Ext2.of_ext (a := gs) (b := gm) (ext_call HE0.out hb1))
  have a1 := HR1.out.cell 1
  have al := HR1.out.lt
  clear hb1 HR0 HS0 HFT HE0
  go_wp2
  clear a1 al
  go_loopw [6, 7, 8, 9, 21, 30] (fun _ _ _ _ i _ W => ∃ k : Nat, k ≤ l.length ∧ i = .int .i64 k ∧ StateR W gs gm pos (applyF rs (l.take k)) ∧ Blk W w.heap.size 46 #[.int .i64 (pos + 1), .slice A l.length c] ∧ Ext2 gs gm w W) (fun _ _ _ _ i _ _ => l.length - (intOf i).toNat)
  case atStart => exact ⟨0, Nat.zero_le _, rfl, by rw [List.take_zero]; exact HS1.out, HR1.out, HL1.out⟩
  case round =>
    obtain ⟨k, hk, rfl, hst, hrb, hE⟩ := hrel
    have HST := Lib.hid hst
    have HRB := Lib.hid hrb
    have HE := Lib.hid hE
    clear hst hrb hE HS1 HR1 HL1
    by_cases hlt : k < l.length
    · obtain ⟨x, hx⟩ : ∃ x, l[k]? = some x := ⟨_, List.getElem?_eq_getElem hlt⟩
      have HX := Lib.hid (applyF_succ rs l k x hx)
      obtain ⟨b, off, c', hA, _, hc9⟩ := (HVL.out.ext2 HS.out HE.out).at_ hx
      injection hA with hA hn' hc'
      subst hA; subst hc'
      clear hn'
      have c0 := hc9 0 (by omega)
      have c1 := hc9 1 (by omega)
      have c2 := hc9 2 (by omega)
      have c3 := hc9 3 (by omega)
      have c4 := hc9 4 (by omega)
      have c5 := hc9 5 (by omega)
      have c6 := hc9 6 (by omega)
      have c7 := hc9 7 (by omega)
      have c8 := hc9 8 (by omega)
      have c9 := hc9 9 (by omega)
      obtain ⟨t, kk, had, o1, o2, o3, has, n1, n2, n3⟩ := x
      simp [ChgT.arr] at c0 c1 c2 c3 c4 c5 c6 c7 c8 c9
      have e2 : IntKind.i64.wrap ((k : Int) + 1) = (k : Int) + 1 := by rw [IntWalk.i64_in _ (by omega)]
      have d1 : decide ((k : Int) < (l.length : Int)) = true := by simp; omega
      have q0 : (0 : Int) ≤ (k : Int) := by omega
      have q1 : (k : Int) < (l.length : Int) := by omega
      have hws := HE.out.size
      clear hc9 hx
      have HKB := Lib.hid (Blk.new' (wr.alloc (.cells #[.int .i64 t, .int .i64 kk, .bool had, .int .i64 o1, .int .i64 o2, .int .i64 o3, .bool has, .int .i64 n1, .int .i64 n2, .int .i64 n3] 75)) 136 #[.int .i64 t, .int .i64 kk] (b := wr.heap.size + 1) (by simp))
      cases has
      · have HAF := Lib.hid (fun W : World => after_no ⟨t, kk, n1, n2, n3⟩ had o1 o2 o3 W)
        dsimp only at HAF
        go_wp2_with fail
        refine (HAF.out _).mono ?_
        rintro e W2 ⟨rfl, hb2⟩
        have hK2 := HKB.out.ext hb2
        have HS2 := Lib.hid (((HST.out.ext (ext_new _ _)).ext (ext_new _ _)).ext hb2)
        have HR2 := Lib.hid (((HRB.out.alloc _).alloc _).ext hb2)
        have HL2 := Lib.hid ((((HE.out.ext (ext_new _ _)).ext (ext_new _ _)).ext hb2))
        clear hb2 c0 c1 c2 c3 c4 c5 c6 c7 c8 c9
        have k0 := hK2.cell 0; have k1 := hK2.cell 1
        have kl := hK2.lt
        have s0 := HS2.out.1.cell 0
        have gl := HS2.out.1.lt
        obtain ⟨o, hdel, hmp⟩ := deleteR (HS2.out.2.ext (ext_new W2 (.cells #[.int .i64 0, .int .i64 0, .int .i64 0, .int .i64 0, .int .i64 0] 77)).drew) t kk
        clear hK2
        go_wp2
        go_region
        generalize hW3 : World.putObj (W2.alloc (.cells #[.int .i64 0, .int .i64 0, .int .i64 0, .int .i64 0, .int .i64 0] 77)).drew gm o = W3 at *
        have HS3 := Lib.hid (show StateR W3 gs gm pos (applyF rs (l.take (k + 1))) by
          rw [HX.out]
          refine ⟨?_, hmp⟩
          rw [← hW3]
          exact (HS2.out.1.alloc _).drew.putObj _ hne)
        have HR3 := Lib.hid (show Blk W3 w.heap.size 46 #[.int .i64 (pos + 1), .slice (some ⟨b, off, none⟩) l.length c] by
          rw [← hW3]
          exact (HR2.out.alloc _).drew.putObj _ (by omega))
        have HE3 := Lib.hid (show Ext2 gs gm w W3 by rw [← hW3]; exact ((HL2.out.ext (ext_new _ _)).drewN 1).put _)
        clear hW3 hmp hdel s0 k0 k1
        go_wp2
        go_roundw
        case rel => exact ⟨k + 1, by omega, by go_num, HS3.out, HR3.out, HE3.out⟩
        case measure => simp [intOf]; omega
      · have HAF := Lib.hid (fun W : World => after_yes ⟨t, kk, n1, n2, n3⟩ had o1 o2 o3 W)
        dsimp only at HAF
        go_wp2_with fail
        refine (HAF.out _).mono ?_
        rintro e W2 ⟨rfl, hb2⟩
        have hK2 := HKB.out.ext hb2
        have HS2 := Lib.hid (((HST.out.ext (ext_new _ _)).ext (ext_new _ _)).ext hb2)
        have HR2 := Lib.hid (((HRB.out.alloc _).alloc _).ext hb2)
        have HL2 := Lib.hid ((((HE.out.ext (ext_new _ _)).ext (ext_new _ _)).ext hb2))
        clear hb2 c0 c1 c2 c3 c4 c5 c6 c7 c8 c9
        have k0 := hK2.cell 0; have k1 := hK2.cell 1
        have kl := hK2.lt
        have s0 := HS2.out.1.cell 0
        have gl := HS2.out.1.lt
        obtain ⟨o, hup, hmp⟩ := updateR (HS2.out.2.ext (ext_new W2 (.cells #[.int .i64 t, .int .i64 kk, .int .i64 n1, .int .i64 n2, .int .i64 n3] 77)).drew) ⟨t, kk, n1, n2, n3⟩
        dsimp only at hup
        clear hK2
        go_wp2
        go_region
        generalize hW3 : World.putObj (W2.alloc (.cells #[.int .i64 t, .int .i64 kk, .int .i64 n1, .int .i64 n2, .int .i64 n3] 77)).drew gm o = W3 at *
        have HS3 := Lib.hid (show StateR W3 gs gm pos (applyF rs (l.take (k + 1))) by
          rw [HX.out]
          refine ⟨?_, hmp⟩
          rw [← hW3]
          exact (HS2.out.1.alloc _).drew.putObj _ hne)
        have HR3 := Lib.hid (show Blk W3 w.heap.size 46 #[.int .i64 (pos + 1), .slice (some ⟨b, off, none⟩) l.length c] by
          rw [← hW3]
          exact (HR2.out.alloc _).drew.putObj _ (by omega))
        have HE3 := Lib.hid (show Ext2 gs gm w W3 by rw [← hW3]; exact ((HL2.out.ext (ext_new _ _)).drewN 1).put _)
        clear hW3 hmp hup s0 k0 k1
        go_wp2
        go_roundw
        case rel => exact ⟨k + 1, by omega, by go_num, HS3.out, HR3.out, HE3.out⟩
        case measure => simp [intOf]; omega
    · have d1 : decide ((k : Int) < (l.length : Int)) = false := by simp; omega
      have hRB := HRB.out
      have a0 := hRB.cell 0
      have al := hRB.lt
      have hST := HST.out
      have q1 := hST.1.cell 1
      have f1 := hST.1.frozen 1
      have gl := hST.1.lt
      have HTK := Lib.hid (show l.take k = l from List.take_of_length_le (by omega))
      clear hRB hST
      go_wp2
      go_ret
      exact .inr ⟨HVF.out, rfl, ⟨HST.out.1.set_ 1 _, by have h9 := HST.out.2; rw [HTK.out] at h9; obtain ⟨es, c9, hm, h9⟩ := h9; exact ⟨es, c9, hm.set _ _ hne.symm, h9⟩⟩, HE.out.setA _ _⟩

end Go.Proofs.YtbgfmbmcabekeaaGreatDoor
